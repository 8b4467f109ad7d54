/- rehearseMore_holds, part F of the proof: what its theorems say holds without further conditions. -/
import Derived.KernelRfl
import Derived.ProofKit
import Derived.Deep.Slices
import Derived.Test.YtehkiccapbkhnaaGreatRows
import Derived.Test.YtehkiccapbkhnaaGreatRME
section
namespace Go.Proofs.YtehkiccapbkhnaaGreat
open Go Go.Kn Go.Proofs
theorem fun_23 : Fun Tryz.prog 23 := .of Tryz.func23 (by kernel_rfl) (by kernel_rfl)
theorem fun_64 : Fun Tryz.prog 64 := .of Tryz.func64 (by kernel_rfl) (by kernel_rfl)
theorem w_samP_step {I : HMap} {r d wz : Int} {ks : List Pr} {ka : Option Addr} {kn kc : Nat} {hs9 : List PH} (hK : Sl I 4 encPH ka kn kc hs9) (hks : PrsAt I hs9 ks) {r' d' wz' : Int} {ks' : List Pr} {ka' : Option Addr} {kn' kc' : Nat} {hs9' : List PH} (hK' : Sl I 4 encPH ka' kn' kc' hs9') (hks' : PrsAt I hs9' ks') (hkn : kn ≤ 100000) (f : Nat) (hf : f ≤ 100) (ih : ∀ f', f = f' + 1 → ∀ (k k' : Pr), k ∈ ks → k' ∈ ks' → ∀ (I' : HMap), HLe I I' → ∀ (h h' : PH), PrAt I' h k → PrAt I' h' k' → RetV Tryz.prog 64 [encPHA h, encPHA h', .int .i64 f'] I' (.bool (samP f' k k'))) : RetV Tryz.prog 64 [encPHA ⟨r, d, wz, ka, kn, kc⟩, encPHA ⟨r', d', wz', ka', kn', kc'⟩, .int .i64 f] I (.bool (samP f (.mk r d wz ks) (.mk r' d' wz' ks'))) := by
 intro g H w hw
 refine enter Tryz.func64 rfl Tryz.ntmps64 rfl hw ?_
 have hIc := HLe.refl I
 have hlK : ks.length = kn := by rw [← hks.len]; exact hK.len
 have hlK' : ks'.length = kn' := by rw [← hks'.len]; exact hK'.len
 refine zR ?_
 refine XO_box rfl rfl rfl (fun b_3 => ?_)
 refine XO_box rfl rfl rfl (fun b_4 => ?_)
 refine zA ?_
 refine zN ?_
 refine X_seq ?_
 refine X_seq ?_
 refine X_freeze .here (fun I1 hI1 hb1 => ?_)
 have hK := hK.mono hI1; have hks := hks.mono hI1; have hK' := hK'.mono hI1; have hks' := hks'.mono hI1; have hIc := hIc.trans hI1
 have h4 := ImmC.of hb1
 refine X_freeze .here (fun I2 hI2 hb2 => ?_)
 have hK := hK.mono hI2; have hks := hks.mono hI2; have hK' := hK'.mono hI2; have hks' := hks'.mono hI2; have h4 := h4.mono hI2; have hIc := hIc.trans hI2
 have h3 := ImmC.of hb2
 refine X_region ?_
 refine XO_v0 (ev_fieldAddr rfl fld_45_0) rfl rfl rfl ?_
 refine XO_v0 (ev_load rfl sct_3 (fun hg => by first | exact Cell.imm h3 rfl | exact Cell.imm h4 rfl | (repeat (first | exact Cell.here rfl | apply Cell.there | apply Cell.app)))) rfl rfl rfl ?_
 refine XO_v0 (ev_fieldAddr rfl fld_45_0) rfl rfl rfl ?_
 refine XO_v0 (ev_load rfl sct_3 (fun hg => by first | exact Cell.imm h3 rfl | exact Cell.imm h4 rfl | (repeat (first | exact Cell.here rfl | apply Cell.there | apply Cell.app)))) rfl rfl rfl ?_
 refine zC ?_
 refine zM ?_
 refine XO_pushF 5 rfl rfl rfl ?_
 refine XO_v1 (ev_fieldAddr rfl fld_45_1) (.some rfl rfl rfl rfl gbf) rfl rfl rfl ?_
 refine XO_v1 (ev_load rfl sct_3 (fun hg => by first | exact Cell.imm h3 rfl | exact Cell.imm h4 rfl | (repeat (first | exact Cell.here rfl | apply Cell.there | apply Cell.app)))) (.some rfl rfl rfl rfl gbf) rfl rfl rfl ?_
 refine XO_v1 (ev_fieldAddr rfl fld_45_1) (.some rfl rfl rfl rfl gbf) rfl rfl rfl ?_
 refine XO_v1 (ev_load rfl sct_3 (fun hg => by first | exact Cell.imm h3 rfl | exact Cell.imm h4 rfl | (repeat (first | exact Cell.here rfl | apply Cell.there | apply Cell.app)))) (.some rfl rfl rfl rfl gbf) rfl rfl rfl ?_
 refine XO_v1 (ev_cmp rfl rfl rfl) (.some rfl rfl rfl rfl gbf) rfl rfl rfl ?_
 refine XO_or0 rfl rfl rfl rfl rfl ?_
 refine zM ?_
 refine XO_pushF 12 rfl rfl rfl ?_
 refine XO_v1 (ev_fieldAddr rfl fld_45_2) (.some rfl rfl rfl rfl gbf) rfl rfl rfl ?_
 refine XO_v1 (ev_load rfl sct_3 (fun hg => by first | exact Cell.imm h3 rfl | exact Cell.imm h4 rfl | (repeat (first | exact Cell.here rfl | apply Cell.there | apply Cell.app)))) (.some rfl rfl rfl rfl gbf) rfl rfl rfl ?_
 refine XO_v1 (ev_fieldAddr rfl fld_45_2) (.some rfl rfl rfl rfl gbf) rfl rfl rfl ?_
 refine XO_v1 (ev_load rfl sct_3 (fun hg => by first | exact Cell.imm h3 rfl | exact Cell.imm h4 rfl | (repeat (first | exact Cell.here rfl | apply Cell.there | apply Cell.app)))) (.some rfl rfl rfl rfl gbf) rfl rfl rfl ?_
 refine XO_v1 (ev_cmp rfl rfl rfl) (.some rfl rfl rfl rfl gbf) rfl rfl rfl ?_
 refine XO_or0 rfl rfl rfl rfl rfl ?_
 refine zM ?_
 refine XO_pushF 19 rfl rfl rfl ?_
 refine XO_v1 (ev_fieldAddr rfl fld_45_3) (.some rfl rfl rfl rfl gbf) rfl rfl rfl ?_
 refine XO_v1 (ev_load rfl sct_35 (fun hg => by first | exact Cell.imm h3 rfl | exact Cell.imm h4 rfl | (repeat (first | exact Cell.here rfl | apply Cell.there | apply Cell.app)))) (.some rfl rfl rfl rfl gbf) rfl rfl rfl ?_
 refine XO_v1 (ev_lenS rfl slt_35) (.some rfl rfl rfl rfl gbf) rfl rfl rfl ?_
 refine XO_v1 (ev_fieldAddr rfl fld_45_3) (.some rfl rfl rfl rfl gbf) rfl rfl rfl ?_
 refine XO_v1 (ev_load rfl sct_35 (fun hg => by first | exact Cell.imm h3 rfl | exact Cell.imm h4 rfl | (repeat (first | exact Cell.here rfl | apply Cell.there | apply Cell.app)))) (.some rfl rfl rfl rfl gbf) rfl rfl rfl ?_
 refine XO_v1 (ev_lenS rfl slt_35) (.some rfl rfl rfl rfl gbf) rfl rfl rfl ?_
 refine XO_v1 (ev_cmp rfl rfl rfl) (.some rfl rfl rfl rfl gbf) rfl rfl rfl ?_
 refine XO_or0 rfl rfl rfl rfl rfl ?_
 refine zM ?_
 refine XO_pushF 28 rfl rfl rfl ?_
 refine XO_v1 (ev_move rfl) (.some rfl rfl rfl rfl gbf) rfl rfl rfl ?_
 refine XO_v1 (ev_cmp rfl rfl rfl) (.some rfl rfl rfl rfl gbf) rfl rfl rfl ?_
 refine XO_or0 rfl rfl rfl rfl rfl ?_
 refine zN ?_
 refine X_cond rfl (fun hc39 => ?_) (fun hc39 => ?_)
 ·
  have h1 : (((((r != r') || (d != d')) || (wz != wz')) || ((ks.length : Int) != (ks'.length : Int))) || ((f : Int) == 0)) = true := by rw [hlK, hlK']; exact hc39
  refine zR ?_
  refine zA ?_
  refine zN ?_
  refine X_ret ?_
  refine at_then_r ?_
  exact at_ret1 rfl rfl (fun w hw => ⟨by rw [samP_bad h1], (hw.mono hIc).drop⟩)
 have h1 : (((((r != r') || (d != d')) || (wz != wz')) || ((ks.length : Int) != (ks'.length : Int))) || ((f : Int) == 0)) = false := by rw [hlK, hlK']; exact hc39
 have h1s := h1
 simp at h1s
 obtain ⟨f', rfl⟩ : ∃ f', f = f' + 1 := ⟨f - 1, by omega⟩
 refine X_skip ?_
 refine at_then ?_
 refine X_seq ?_
 refine zR ?_
 refine zA ?_
 refine zN ?_
 refine X_block ?_
 refine X_loopT [(2, _), (3, _), (4, _)] (.cons rfl (.cons rfl (.cons rfl .nil))) (fun T L0 mz E I' loc' => ∃ (k : Nat), mz = kn - k ∧ E = (7, .int .i64 k) :: T ∧ I2 = I' ∧ L0 = loc' ∧ k ≤ kn ∧ SamT f' ks ks' k) _ _ _ _ ⟨0, rfl, rfl, rfl, rfl, Nat.zero_le _, samT_0⟩ (.cons rfl (.cons rfl (.cons rfl (.cons rfl .nil)))) (HLe.refl _) rfl ?_
 rintro mz E I' loc' ⟨k, rfl, rfl, rfl, rfl, hk, hsa⟩
 refine X_seq ?_
 refine zR ?_
 refine zM ?_
 refine XO_v0 (ev_fieldAddr rfl fld_45_3) rfl rfl rfl ?_
 refine XO_v0 (ev_load rfl sct_35 (fun hg => by first | exact Cell.imm h3 rfl | exact Cell.imm h4 rfl | (repeat (first | exact Cell.here rfl | apply Cell.there | apply Cell.app)))) rfl rfl rfl ?_
 refine XO_v0 (ev_lenS rfl slt_35) rfl rfl rfl ?_
 refine zC ?_
 refine zN ?_
 refine X_cond rfl (fun hc44 => ?_) (fun hc44 => ?_)
 ·
  have hlt_k : k < kn := by have h := hc44; simp at h; omega
  obtain ⟨kh, hkh⟩ := hK.at hlt_k
  obtain ⟨kk, hkk, hka⟩ := hks.at k kh hkh
  obtain ⟨kh', hkh'⟩ := hK'.at (show k < kn' by omega)
  obtain ⟨kk', hkk', hka'⟩ := hks'.at k kh' hkh'
  refine X_skip ?_
  refine at_then ?_
  refine X_seq ?_
  refine X_block ?_
  refine X_seq ?_
  refine X_draw mixed (by kernel_rfl) ?_
  refine XQ_v0 (ev_fieldAddr rfl fld_45_3) rfl rfl rfl ?_
  refine XQ_v0 (ev_load rfl sct_35 (fun hg => by first | exact Cell.imm h3 rfl | exact Cell.imm h4 rfl | (repeat (first | exact Cell.here rfl | apply Cell.there | apply Cell.app)))) rfl rfl rfl ?_
  refine XQ_v0 (ev_move rfl) rfl rfl rfl ?_
  refine XQ_v0 (ev_indexSl rfl rfl slt_35 hK (fun hg => by first | omega | (simp [conj] at hg; omega) | (dsimp only; omega) | (simp [conj] at hg; dsimp only at *; omega))) rfl rfl rfl ?_
  refine XQ_v0 (ev_loadA rfl agt_45 (fun hg => by first | exact Sl.getA hK hkh | exact Sl.getA hK' hkh' | (repeat (first | exact Cells.here | exact Cells.s0 (vs := [_, _, _, _]) rfl | apply Cells.there | apply Cells.app))) rfl) rfl rfl rfl ?_
  refine XQ_v0 (ev_fieldAddr rfl fld_45_3) rfl rfl rfl ?_
  refine XQ_v0 (ev_load rfl sct_35 (fun hg => by first | exact Cell.imm h3 rfl | exact Cell.imm h4 rfl | (repeat (first | exact Cell.here rfl | apply Cell.there | apply Cell.app)))) rfl rfl rfl ?_
  refine XQ_v0 (ev_move rfl) rfl rfl rfl ?_
  refine XQ_v0 (ev_indexSl rfl rfl slt_35 hK' (fun hg => by first | omega | (simp [conj] at hg; omega) | (dsimp only; omega) | (simp [conj] at hg; dsimp only at *; omega))) rfl rfl rfl ?_
  refine XQ_v0 (ev_loadA rfl agt_45 (fun hg => by first | exact Sl.getA hK hkh | exact Sl.getA hK' hkh' | (repeat (first | exact Cells.here | exact Cells.s0 (vs := [_, _, _, _]) rfl | apply Cells.there | apply Cells.app))) rfl) rfl rfl rfl ?_
  refine XQ_v0 (ev_move rfl) rfl rfl rfl ?_
  refine XQ_v0 (ev_arB rfl rfl rfl (fun hg => by first | omega | (simp [conj] at hg; omega) | (dsimp only; omega) | (simp [conj] at hg; dsimp only at *; omega))) rfl rfl rfl ?_
  refine XQ_callV0 (cap := []) (vs := [_, _, _]) rfl rfl fun_64 ((show RetV Tryz.prog 64 [encPHA kh, encPHA kh', .int .i64 (((f' + 1 : Nat) : Int) - 1)] I2 (.bool (samP f' kk kk')) from by rw [show ((f' + 1 : Nat) : Int) - 1 = (f' : Int) by omega]; exact ih f' rfl kk kk' (List.mem_of_getElem? hkk) (List.mem_of_getElem? hkk') _ hIc kh kh' hka hka')) rfl rfl ?_
  refine XQ_v0 (ev_not rfl) rfl rfl rfl ?_
  refine XQ_nil ?_
  refine at_then ?_
  refine X_cond rfl (fun hc60 => ?_) (fun hc60 => ?_)
  ·
   have hsb : samP f' kk kk' = false := by simpa using hc60
   refine zR ?_
   refine zA ?_
   refine zN ?_
   refine X_ret ?_
   refine at_block_r ?_
   refine at_then_r ?_
   refine at_then_r ?_
   refine at_block_r ?_
   refine at_then_r ?_
   exact at_ret1 rfl rfl (fun w hw => ⟨by rw [samP_good h1, samL_bad hkk hkk' hsb], (hw.mono hIc).drop⟩)
  refine X_skip ?_
  refine at_block_n ?_
  refine at_then ?_
  refine X_region ?_
  refine zM ?_
  refine XO_v0 (ev_arB rfl rfl rfl (fun hg => by first | omega | (simp [conj] at hg; omega) | (dsimp only; omega) | (simp [conj] at hg; dsimp only at *; omega))) rfl rfl rfl ?_
  refine zA ?_
  refine XO_nil ?_
  exact at_met2 _ _ ⟨kn - (k + 1), by omega, k + 1, rfl, rfl, rfl, rfl, by omega, samT_step hsa hkk hkk' (by simpa using hc60)⟩ (.cons rfl (.cons rfl (.cons rfl (.cons rfl .nil)))) (by repeat (first | exact .refl | exact subL_left | refine subL_app ?_ | refine .drop ?_ | refine subL_add ?_))
 have hge_k : kn ≤ k := by have h := hc44; simp at h; omega
 refine X_exit ?_
 refine at_then_e ?_
 refine at_then_e ?_
 refine at_block_hit ?_
 refine at_then ?_
 refine zR ?_
 refine zA ?_
 refine zN ?_
 refine X_ret ?_
 exact at_ret1 rfl rfl (fun w hw => ⟨by rw [samP_good h1, samT_end hsa (by omega)], (hw.mono hIc).drop⟩)
theorem w_samP : ∀ (f : Nat) (hf : f ≤ 100) (p p' : Pr) {I : HMap} (h h' : PH) (_ : PrAt I h p) (_ : PrAt I h' p') (_ : smlP p), RetV Tryz.prog 64 [encPHA h, encPHA h', .int .i64 f] I (.bool (samP f p p')) := by
 intro f
 induction f with
 | zero =>
  rintro hf ⟨r, d, w, ks⟩ ⟨r', d', w', ks'⟩ I ⟨hr0, hd0, hw0, ka, kn, kc⟩ ⟨hr0', hd0', hw0', ka', kn', kc'⟩ hP hP' hsm
  unfold PrAt at hP hP'
  obtain ⟨e1, e2, e3, hs9, hK, hks⟩ := hP
  obtain ⟨e1', e2', e3', hs9', hK', hks'⟩ := hP'
  simp only at e1 e2 e3 hK e1' e2' e3' hK'
  subst e1 e2 e3 e1' e2' e3'
  unfold smlP at hsm
  exact w_samP_step hK hks hK' hks' (by have h1 := hks.len; have h2 := hK.len; omega) 0 hf (fun f' e => by omega)
 | succ f ih =>
  rintro hf ⟨r, d, w, ks⟩ ⟨r', d', w', ks'⟩ I ⟨hr0, hd0, hw0, ka, kn, kc⟩ ⟨hr0', hd0', hw0', ka', kn', kc'⟩ hP hP' hsm
  unfold PrAt at hP hP'
  obtain ⟨e1, e2, e3, hs9, hK, hks⟩ := hP
  obtain ⟨e1', e2', e3', hs9', hK', hks'⟩ := hP'
  simp only at e1 e2 e3 hK e1' e2' e3' hK'
  subst e1 e2 e3 e1' e2' e3'
  unfold smlP at hsm
  exact w_samP_step hK hks hK' hks' (by have h1 := hks.len; have h2 := hK.len; omega) (f + 1) hf (fun f' e k k' hk hk' I' hI' h h' hP hP' => by
   obtain rfl : f' = f := by omega
   exact ih (by omega) k k' h h' hP hP' (smlL_mem hsm.2 hk))
theorem w_samPs {I : HMap} {av : Option Addr} {n c : Nat} {hs : List PH} {xs : List Pr} (hS : Sl I 4 encPH av n c hs) (hxs : PrsAt I hs xs) (hn : n ≤ 100000) (hsm : ∀ p ∈ xs, smlP p) {bv : Option Addr} {n2 c2 : Nat} {hs2 : List PH} {ys : List Pr} (hT : Sl I 4 encPH bv n2 c2 hs2) (hys : PrsAt I hs2 ys) : RetV Tryz.prog 22 [.slice av n c, .slice bv n2 c2] I (.bool (samPs xs ys)) := by
 intro g H w hw
 refine enter Tryz.func22 rfl Tryz.ntmps22 rfl hw ?_
 have hlX : xs.length = n := by rw [← hxs.len]; exact hS.len
 have hlY : ys.length = n2 := by rw [← hys.len]; exact hT.len
 refine zR ?_
 refine zA ?_
 refine zN ?_
 refine X_seq ?_
 refine zR ?_
 refine zM ?_
 refine XO_v0 (ev_lenS rfl slt_35) rfl rfl rfl ?_
 refine zM ?_
 refine XO_v0 (ev_lenS rfl slt_35) rfl rfl rfl ?_
 refine zC ?_
 refine zN ?_
 refine X_cond rfl (fun hc10 => ?_) (fun hc10 => ?_)
 ·
  have hne : xs.length ≠ ys.length := fun e => by have h := hc10; simp at h; omega
  refine zR ?_
  refine zA ?_
  refine zN ?_
  refine X_ret ?_
  refine at_then_r ?_
  exact at_ret1 rfl rfl (fun w hw => ⟨by rw [samPs_len hne], hw.drop⟩)
 have hnn : n = n2 := by have h := hc10; simp at h; omega
 refine X_skip ?_
 refine at_then ?_
 refine X_seq ?_
 refine zR ?_
 refine zA ?_
 refine zN ?_
 refine X_block ?_
 refine X_loopT [(0, _), (1, _)] (.cons rfl (.cons rfl .nil)) (fun T L0 mz E I' loc' => ∃ (k : Nat), mz = n - k ∧ E = (5, .int .i64 k) :: T ∧ I = I' ∧ L0 = loc' ∧ k ≤ n ∧ SamT 20 xs ys k) _ _ _ _ ⟨0, rfl, rfl, rfl, rfl, Nat.zero_le _, samT_0⟩ (.cons rfl (.cons rfl (.cons rfl .nil))) (HLe.refl _) rfl ?_
 rintro mz E I' loc' ⟨k, rfl, rfl, rfl, rfl, hk, hsa⟩
 refine X_seq ?_
 refine zR ?_
 refine zM ?_
 refine zM ?_
 refine XO_v0 (ev_lenS rfl slt_35) rfl rfl rfl ?_
 refine zC ?_
 refine zN ?_
 refine X_cond rfl (fun hc14 => ?_) (fun hc14 => ?_)
 ·
  have hlt_k : k < n := by have h := hc14; simp at h; omega
  obtain ⟨kh, hkh⟩ := hS.at hlt_k
  obtain ⟨kk, hkk, hka⟩ := hxs.at k kh hkh
  obtain ⟨kh', hkh'⟩ := hT.at (show k < n2 by omega)
  obtain ⟨kk', hkk', hka'⟩ := hys.at k kh' hkh'
  refine X_skip ?_
  refine at_then ?_
  refine X_seq ?_
  refine X_block ?_
  refine X_seq ?_
  refine X_draw mixed (by kernel_rfl) ?_
  refine XQ_v0 (ev_move rfl) rfl rfl rfl ?_
  refine XQ_v0 (ev_move rfl) rfl rfl rfl ?_
  refine XQ_v0 (ev_indexSl rfl rfl slt_35 hS (fun hg => by first | omega | (simp [conj] at hg; omega))) rfl rfl rfl ?_
  refine XQ_v0 (ev_loadA rfl agt_45 (fun hg => by first | exact Sl.getA hS hkh | exact Sl.getA hT hkh' | (repeat (first | exact Cells.here | exact Cells.s0 (vs := [_, _, _, _]) rfl | apply Cells.there | apply Cells.app))) rfl) rfl rfl rfl ?_
  refine XQ_v0 (ev_move rfl) rfl rfl rfl ?_
  refine XQ_v0 (ev_move rfl) rfl rfl rfl ?_
  refine XQ_v0 (ev_indexSl rfl rfl slt_35 hT (fun hg => by first | omega | (simp [conj] at hg; omega))) rfl rfl rfl ?_
  refine XQ_v0 (ev_loadA rfl agt_45 (fun hg => by first | exact Sl.getA hS hkh | exact Sl.getA hT hkh' | (repeat (first | exact Cells.here | exact Cells.s0 (vs := [_, _, _, _]) rfl | apply Cells.there | apply Cells.app))) rfl) rfl rfl rfl ?_
  refine XQ_callV0 (cap := []) (vs := [_, _, _]) rfl rfl fun_64 (w_samP 20 (by decide) kk kk' kh kh' hka hka' (hsm kk (List.mem_of_getElem? hkk))) rfl rfl ?_
  refine XQ_v0 (ev_not rfl) rfl rfl rfl ?_
  refine XQ_nil ?_
  refine at_then ?_
  refine X_cond rfl (fun hc26 => ?_) (fun hc26 => ?_)
  ·
   refine zR ?_
   refine zA ?_
   refine zN ?_
   refine X_ret ?_
   refine at_block_r ?_
   refine at_then_r ?_
   refine at_then_r ?_
   refine at_block_r ?_
   refine at_then_r ?_
   first
   | exact at_ret1 rfl rfl (fun w hw => ⟨by unfold samPs; rw [samL_bad hkk hkk' (by simpa using hc26), Bool.and_false], hw.drop⟩)
  refine X_skip ?_
  refine at_block_n ?_
  refine at_then ?_
  refine X_region ?_
  refine zM ?_
  refine zB ?_
  refine zA ?_
  refine XO_nil ?_
  exact at_met2 _ _ ⟨n - (k + 1), by omega, k + 1, rfl, rfl, rfl, rfl, by omega, samT_step hsa hkk hkk' (by simpa using hc26)⟩ (.cons rfl (.cons rfl (.cons rfl .nil))) (by repeat (first | exact .refl | exact subL_left | refine subL_app ?_ | refine .drop ?_ | refine subL_add ?_))
 have hge_k : n ≤ k := by have h := hc14; simp at h; omega
 refine X_exit ?_
 refine at_then_e ?_
 refine at_then_e ?_
 refine at_block_hit ?_
 refine at_then ?_
 refine zR ?_
 refine zA ?_
 refine zN ?_
 refine X_ret ?_
 first
 | exact at_ret1 rfl rfl (fun w hw => ⟨by unfold samPs; rw [decide_eq_true (show xs.length = ys.length by omega), samT_end hsa (by omega)]; rfl, hw.drop⟩)
theorem w_samS {I : HMap} {av : Option Addr} {n c : Nat} {hs : List SH} {xs : List Ses} (hS : SlSH I av n c hs xs) (hn : n ≤ 100000) (hwh : ∀ s ∈ xs, s.who.length ≤ 100000 ∧ s.needs.length ≤ 100000) {bv : Option Addr} {n2 c2 : Nat} {hs2 : List SH} {ys : List Ses} (hT : SlSH I bv n2 c2 hs2 ys) : RetV Tryz.prog 14 [.slice av n c, .slice bv n2 c2] I (.bool (samS xs ys)) := by
 intro g H w hw
 refine enter Tryz.func14 rfl Tryz.ntmps14 rfl hw ?_
 have hlX := hS.len
 have hlY := hT.len
 refine zR ?_
 refine zA ?_
 refine zN ?_
 refine X_seq ?_
 refine zR ?_
 refine zM ?_
 refine XO_v0 (ev_lenS rfl slt_27) rfl rfl rfl ?_
 refine zM ?_
 refine XO_v0 (ev_lenS rfl slt_27) rfl rfl rfl ?_
 refine zC ?_
 refine zN ?_
 refine X_cond rfl (fun hc10 => ?_) (fun hc10 => ?_)
 ·
  have hne : xs.length ≠ ys.length := fun e => by have h := hc10; simp at h; omega
  refine zR ?_
  refine zA ?_
  refine zN ?_
  refine X_ret ?_
  refine at_then_r ?_
  exact at_ret1 rfl rfl (fun w hw => ⟨by rw [samS_len hne], hw.drop⟩)
 have hnn : n = n2 := by have h := hc10; simp at h; omega
 refine X_skip ?_
 refine at_then ?_
 refine X_seq ?_
 refine zR ?_
 refine zA ?_
 refine zN ?_
 refine X_block ?_
 refine X_loopT [(0, _), (1, _)] (.cons rfl (.cons rfl .nil)) (fun T L0 mz E I' loc' => ∃ (k : Nat), mz = n - k ∧ E = (5, .int .i64 k) :: T ∧ I = I' ∧ L0 = loc' ∧ k ≤ n ∧ ((xs.zip ys).take k).any (fun q => ssNe q.1 q.2) = false) _ _ _ _ ⟨0, rfl, rfl, rfl, rfl, Nat.zero_le _, rfl⟩ (.cons rfl (.cons rfl (.cons rfl .nil))) (HLe.refl _) rfl ?_
 rintro mz E I' loc' ⟨k, rfl, rfl, rfl, rfl, hk, hno⟩
 refine X_seq ?_
 refine zR ?_
 refine zM ?_
 refine zM ?_
 refine XO_v0 (ev_lenS rfl slt_27) rfl rfl rfl ?_
 refine zC ?_
 refine zN ?_
 refine X_cond rfl (fun hc14 => ?_) (fun hc14 => ?_)
 ·
  have hlt_k : k < n := by have h := hc14; simp at h; omega
  obtain ⟨x, s, hx, hx2, q1, q2, hW1, hN1⟩ := hS.at hlt_k
  obtain ⟨y, t, hy, hy2, p1, p2, hW2, hN2⟩ := hT.at (show k < n2 by omega)
  have hwl := hwh s (List.mem_of_getElem? hx2)
  have hl1 := hW1.len
  have hl2 := hN1.len
  refine X_skip ?_
  refine at_then ?_
  refine X_seq ?_
  refine X_block ?_
  refine X_seq ?_
  refine X_draw mixed (by kernel_rfl) ?_
  refine XQ_v0 (ev_move rfl) rfl rfl rfl ?_
  refine XQ_v0 (ev_move rfl) rfl rfl rfl ?_
  refine XQ_v0 (ev_indexSl rfl rfl slt_27 hS.1 (fun hg => by first | omega | (simp [conj] at hg; omega))) rfl rfl rfl ?_
  refine XQ_v0 (ev_fieldAddr rfl fld_58_0) rfl rfl rfl ?_
  refine XQ_v0 (ev_load rfl sct_3 (fun hg => by first | exact Sl.get0 hS.1 hx rfl | exact Sl.get0 hT.1 hy rfl | exact Sl.get hS.1 hx (j := 1) rfl | exact Sl.get hS.1 hx (j := 2) rfl | exact Sl.get hS.1 hx (j := 3) rfl | exact Sl.get hT.1 hy (j := 1) rfl | exact Sl.get hT.1 hy (j := 2) rfl | exact Sl.get hT.1 hy (j := 3) rfl | (repeat (first | exact Cell.here rfl | apply Cell.there | apply Cell.app)))) rfl rfl rfl ?_
  refine XQ_v0 (ev_move rfl) rfl rfl rfl ?_
  refine XQ_v0 (ev_move rfl) rfl rfl rfl ?_
  refine XQ_v0 (ev_indexSl rfl rfl slt_27 hT.1 (fun hg => by first | omega | (simp [conj] at hg; omega))) rfl rfl rfl ?_
  refine XQ_v0 (ev_fieldAddr rfl fld_58_0) rfl rfl rfl ?_
  refine XQ_v0 (ev_load rfl sct_3 (fun hg => by first | exact Sl.get0 hS.1 hx rfl | exact Sl.get0 hT.1 hy rfl | exact Sl.get hS.1 hx (j := 1) rfl | exact Sl.get hS.1 hx (j := 2) rfl | exact Sl.get hS.1 hx (j := 3) rfl | exact Sl.get hT.1 hy (j := 1) rfl | exact Sl.get hT.1 hy (j := 2) rfl | exact Sl.get hT.1 hy (j := 3) rfl | (repeat (first | exact Cell.here rfl | apply Cell.there | apply Cell.app)))) rfl rfl rfl ?_
  refine XQ_v0 (ev_cmp rfl rfl rfl) rfl rfl rfl ?_
  refine XQ_v0 (ev_move rfl) rfl rfl rfl ?_
  refine XQ_pushF 11 rfl rfl rfl ?_
  refine XQ_v1 (ev_move rfl) (.some rfl rfl rfl rfl gbf) rfl rfl rfl ?_
  refine XQ_v1 (ev_move rfl) (.some rfl rfl rfl rfl gbf) rfl rfl rfl ?_
  refine XQ_v1 (ev_indexSl rfl rfl slt_27 hS.1 (fun hg => by first | omega | (simp [conj] at hg; omega))) (.some rfl rfl rfl rfl gbf) rfl rfl rfl ?_
  refine XQ_v1 (ev_fieldAddr rfl fld_58_1) (.some rfl rfl rfl rfl gbf) rfl rfl rfl ?_
  refine XQ_v1 (ev_load rfl sct_3 (fun hg => by first | exact Sl.get0 hS.1 hx rfl | exact Sl.get0 hT.1 hy rfl | exact Sl.get hS.1 hx (j := 1) rfl | exact Sl.get hS.1 hx (j := 2) rfl | exact Sl.get hS.1 hx (j := 3) rfl | exact Sl.get hT.1 hy (j := 1) rfl | exact Sl.get hT.1 hy (j := 2) rfl | exact Sl.get hT.1 hy (j := 3) rfl | (repeat (first | exact Cell.here rfl | apply Cell.there | apply Cell.app)))) (.some rfl rfl rfl rfl gbf) rfl rfl rfl ?_
  refine XQ_v1 (ev_move rfl) (.some rfl rfl rfl rfl gbf) rfl rfl rfl ?_
  refine XQ_v1 (ev_move rfl) (.some rfl rfl rfl rfl gbf) rfl rfl rfl ?_
  refine XQ_v1 (ev_indexSl rfl rfl slt_27 hT.1 (fun hg => by first | omega | (simp [conj] at hg; omega))) (.some rfl rfl rfl rfl gbf) rfl rfl rfl ?_
  refine XQ_v1 (ev_fieldAddr rfl fld_58_1) (.some rfl rfl rfl rfl gbf) rfl rfl rfl ?_
  refine XQ_v1 (ev_load rfl sct_3 (fun hg => by first | exact Sl.get0 hS.1 hx rfl | exact Sl.get0 hT.1 hy rfl | exact Sl.get hS.1 hx (j := 1) rfl | exact Sl.get hS.1 hx (j := 2) rfl | exact Sl.get hS.1 hx (j := 3) rfl | exact Sl.get hT.1 hy (j := 1) rfl | exact Sl.get hT.1 hy (j := 2) rfl | exact Sl.get hT.1 hy (j := 3) rfl | (repeat (first | exact Cell.here rfl | apply Cell.there | apply Cell.app)))) (.some rfl rfl rfl rfl gbf) rfl rfl rfl ?_
  refine XQ_v1 (ev_cmp rfl rfl rfl) (.some rfl rfl rfl rfl gbf) rfl rfl rfl ?_
  refine XQ_or0 rfl rfl rfl rfl rfl ?_
  refine XQ_v0 (ev_move rfl) rfl rfl rfl ?_
  refine XQ_pushF 24 rfl rfl rfl ?_
  refine XQ_v1 (ev_move rfl) (.some rfl rfl rfl rfl gbf) rfl rfl rfl ?_
  refine XQ_v1 (ev_move rfl) (.some rfl rfl rfl rfl gbf) rfl rfl rfl ?_
  refine XQ_v1 (ev_indexSl rfl rfl slt_27 hS.1 (fun hg => by first | omega | (simp [conj] at hg; omega))) (.some rfl rfl rfl rfl gbf) rfl rfl rfl ?_
  refine XQ_v1 (ev_fieldAddr rfl fld_58_2) (.some rfl rfl rfl rfl gbf) rfl rfl rfl ?_
  refine XQ_v1 (ev_load rfl sct_23 (fun hg => by first | exact Sl.get0 hS.1 hx rfl | exact Sl.get0 hT.1 hy rfl | exact Sl.get hS.1 hx (j := 1) rfl | exact Sl.get hS.1 hx (j := 2) rfl | exact Sl.get hS.1 hx (j := 3) rfl | exact Sl.get hT.1 hy (j := 1) rfl | exact Sl.get hT.1 hy (j := 2) rfl | exact Sl.get hT.1 hy (j := 3) rfl | (repeat (first | exact Cell.here rfl | apply Cell.there | apply Cell.app)))) (.some rfl rfl rfl rfl gbf) rfl rfl rfl ?_
  refine XQ_v1 (ev_move rfl) (.some rfl rfl rfl rfl gbf) rfl rfl rfl ?_
  refine XQ_v1 (ev_move rfl) (.some rfl rfl rfl rfl gbf) rfl rfl rfl ?_
  refine XQ_v1 (ev_indexSl rfl rfl slt_27 hT.1 (fun hg => by first | omega | (simp [conj] at hg; omega))) (.some rfl rfl rfl rfl gbf) rfl rfl rfl ?_
  refine XQ_v1 (ev_fieldAddr rfl fld_58_2) (.some rfl rfl rfl rfl gbf) rfl rfl rfl ?_
  refine XQ_v1 (ev_load rfl sct_23 (fun hg => by first | exact Sl.get0 hS.1 hx rfl | exact Sl.get0 hT.1 hy rfl | exact Sl.get hS.1 hx (j := 1) rfl | exact Sl.get hS.1 hx (j := 2) rfl | exact Sl.get hS.1 hx (j := 3) rfl | exact Sl.get hT.1 hy (j := 1) rfl | exact Sl.get hT.1 hy (j := 2) rfl | exact Sl.get hT.1 hy (j := 3) rfl | (repeat (first | exact Cell.here rfl | apply Cell.there | apply Cell.app)))) (.some rfl rfl rfl rfl gbf) rfl rfl rfl ?_
  refine XQ_callV1 (cap := []) (vs := [_, _]) rfl rfl fun_23 (fun hg => w_rSame hW1 (by omega) hW2) (.some rfl rfl rfl rfl gbf) rfl rfl ?_
  refine XQ_v1 (ev_not rfl) (.some rfl rfl rfl rfl gbf) rfl rfl rfl ?_
  refine XQ_or0 rfl rfl rfl rfl rfl ?_
  refine XQ_v0 (ev_move rfl) rfl rfl rfl ?_
  refine XQ_pushF 38 rfl rfl rfl ?_
  refine XQ_v1 (ev_move rfl) (.some rfl rfl rfl rfl gbf) rfl rfl rfl ?_
  refine XQ_v1 (ev_move rfl) (.some rfl rfl rfl rfl gbf) rfl rfl rfl ?_
  refine XQ_v1 (ev_indexSl rfl rfl slt_27 hS.1 (fun hg => by first | omega | (simp [conj] at hg; omega))) (.some rfl rfl rfl rfl gbf) rfl rfl rfl ?_
  refine XQ_v1 (ev_fieldAddr rfl fld_58_3) (.some rfl rfl rfl rfl gbf) rfl rfl rfl ?_
  refine XQ_v1 (ev_load rfl sct_23 (fun hg => by first | exact Sl.get0 hS.1 hx rfl | exact Sl.get0 hT.1 hy rfl | exact Sl.get hS.1 hx (j := 1) rfl | exact Sl.get hS.1 hx (j := 2) rfl | exact Sl.get hS.1 hx (j := 3) rfl | exact Sl.get hT.1 hy (j := 1) rfl | exact Sl.get hT.1 hy (j := 2) rfl | exact Sl.get hT.1 hy (j := 3) rfl | (repeat (first | exact Cell.here rfl | apply Cell.there | apply Cell.app)))) (.some rfl rfl rfl rfl gbf) rfl rfl rfl ?_
  refine XQ_v1 (ev_move rfl) (.some rfl rfl rfl rfl gbf) rfl rfl rfl ?_
  refine XQ_v1 (ev_move rfl) (.some rfl rfl rfl rfl gbf) rfl rfl rfl ?_
  refine XQ_v1 (ev_indexSl rfl rfl slt_27 hT.1 (fun hg => by first | omega | (simp [conj] at hg; omega))) (.some rfl rfl rfl rfl gbf) rfl rfl rfl ?_
  refine XQ_v1 (ev_fieldAddr rfl fld_58_3) (.some rfl rfl rfl rfl gbf) rfl rfl rfl ?_
  refine XQ_v1 (ev_load rfl sct_23 (fun hg => by first | exact Sl.get0 hS.1 hx rfl | exact Sl.get0 hT.1 hy rfl | exact Sl.get hS.1 hx (j := 1) rfl | exact Sl.get hS.1 hx (j := 2) rfl | exact Sl.get hS.1 hx (j := 3) rfl | exact Sl.get hT.1 hy (j := 1) rfl | exact Sl.get hT.1 hy (j := 2) rfl | exact Sl.get hT.1 hy (j := 3) rfl | (repeat (first | exact Cell.here rfl | apply Cell.there | apply Cell.app)))) (.some rfl rfl rfl rfl gbf) rfl rfl rfl ?_
  refine XQ_callV1 (cap := []) (vs := [_, _]) rfl rfl fun_23 (fun hg => w_rSame hN1 (by omega) hN2) (.some rfl rfl rfl rfl gbf) rfl rfl ?_
  refine XQ_v1 (ev_not rfl) (.some rfl rfl rfl rfl gbf) rfl rfl rfl ?_
  refine XQ_or0 rfl rfl rfl rfl rfl ?_
  refine XQ_nil ?_
  refine at_then ?_
  refine X_cond rfl (fun hc68 => ?_) (fun hc68 => ?_)
  ·
   have hb : ssNe s t = true := by unfold ssNe; rw [← q1, ← q2, ← p1, ← p2]; exact hc68
   refine zR ?_
   refine zA ?_
   refine zN ?_
   refine X_ret ?_
   refine at_block_r ?_
   refine at_then_r ?_
   refine at_then_r ?_
   refine at_block_r ?_
   refine at_then_r ?_
   exact at_ret1 rfl rfl (fun w hw => ⟨by rw [samS_bad hx2 hy2 hb], hw.drop⟩)
  have hb : ssNe s t = false := by unfold ssNe; rw [← q1, ← q2, ← p1, ← p2]; exact hc68
  refine X_skip ?_
  refine at_block_n ?_
  refine at_then ?_
  refine X_region ?_
  refine zM ?_
  refine zB ?_
  refine zA ?_
  refine XO_nil ?_
  exact at_met2 _ _ ⟨n - (k + 1), by omega, k + 1, rfl, rfl, rfl, rfl, by omega, any_no (show (xs.zip ys)[k]? = some (s, t) from List.getElem?_zip_eq_some.2 ⟨hx2, hy2⟩) hno hb⟩ (.cons rfl (.cons rfl (.cons rfl .nil))) (by repeat (first | exact .refl | exact subL_left | refine subL_app ?_ | refine .drop ?_ | refine subL_add ?_))
 have hge_k : n ≤ k := by have h := hc14; simp at h; omega
 have hkn : k = xs.length := by omega
 subst hkn
 refine X_exit ?_
 refine at_then_e ?_
 refine at_then_e ?_
 refine at_block_hit ?_
 refine at_then ?_
 refine zR ?_
 refine zA ?_
 refine zN ?_
 refine X_ret ?_
 exact at_ret1 rfl rfl (fun w hw => ⟨by rw [samS_end (by omega) hno], hw.drop⟩)
end Go.Proofs.YtehkiccapbkhnaaGreat
end
section
namespace Go.Proofs.YtehkiccapbkhnaaGreat
open Go Go.Kn Go.Proofs
def twoC : Cr := ⟨[4, 5, 8], 1, 1, 9, 2, [⟨3, 1, [7], []⟩, ⟨4, 2, [7], [0]⟩]⟩
def two1C : Cr := ⟨[4, 5, 8], 1, 1, 9, 1, [⟨3, 1, [7], []⟩, ⟨4, 2, [7], [0]⟩]⟩
def empC : Cr := ⟨[], 1, 1, 1, 1, []⟩
def zerC : Cr := ⟨[], 0, 0, 0, 0, []⟩
def manC : Cr := ⟨List.replicate 17 0, 0, 0, 0, 0, []⟩
def patP : Pt := ⟨2, 1, 0, 5, ⟨0, 0, 0, 0, 0, 0, 1, 0, 0, 0, 0, 0, 0, 0⟩, none, 0, 0, []⟩
def prfP : Pr := .mk 0 0 0 [.mk 0 0 0 [.mk 1 0 0 []]]
theorem f_pl1 : planL twoC = [0, 1] := by kernel_rfl
theorem f_po1 : planO twoC = true := by kernel_rfl
theorem f_ck1 : chkC twoC = 0 := by kernel_rfl
theorem f_ro1 : refO twoC 1 = true := by kernel_rfl
theorem f_le1 : lastE twoC 1 = 0 := by kernel_rfl
theorem f_rp1 : refP twoC 1 = prfP := by kernel_rfl
theorem f_ro2 : refO twoC 2 = false := by kernel_rfl
theorem f_le2 : lastE twoC 2 = 0 := by kernel_rfl
theorem f_ac1 : accO twoC 1 prfP = true := by kernel_rfl
theorem f_ac2 : accO twoC 2 prfP = false := by kernel_rfl
theorem f_be1 : brokE twoC [1, 1] = 0 := by kernel_rfl
theorem f_bl1 : brokL twoC [1, 1] = [⟨1, 1, 0⟩, ⟨2, 1, 0⟩, ⟨3, 1, 7⟩] := by kernel_rfl
theorem f_pl2 : planL two1C = [0, 2] := by kernel_rfl
theorem f_po2 : planO two1C = true := by kernel_rfl
theorem f_ck2 : chkC two1C = 0 := by kernel_rfl
theorem f_be2 : brokE two1C [0, 0, 0] = 400 := by kernel_rfl
theorem f_pl3 : planL empC = [] := by kernel_rfl
theorem f_po3 : planO empC = true := by kernel_rfl
theorem f_ck3 : chkC empC = 0 := by kernel_rfl
theorem f_ck4 : chkC zerC = 400 := by kernel_rfl
theorem f_ck5 : chkC manC = 2 := by kernel_rfl
theorem f_fe1 : fromE [patP] [2] [[], [2], []] = 0 := by kernel_rfl
theorem f_fr1 : fromR [patP] [2] [[], [2], []] = [⟨2, 1, [0, 2], []⟩] := by kernel_rfl
theorem f_fe2 : fromE [patP] [3] [] = 400 := by kernel_rfl
theorem f_sp : samPs [prfP] [prfP] = true := by kernel_rfl
theorem f_sm : smlP prfP := by unfold prfP smlP smlL smlP smlL smlP smlL; exact ⟨by decide, ⟨by decide, ⟨by decide, trivial⟩, trivial⟩, trivial⟩
theorem d_two : ∀ s ∈ twoC.ss, s.needs.length ≤ 100000 := by decide
theorem d_two1 : ∀ s ∈ two1C.ss, s.needs.length ≤ 100000 := by decide
theorem d_emp : ∀ s ∈ empC.ss, s.needs.length ≤ 100000 := by decide
end Go.Proofs.YtehkiccapbkhnaaGreat
end
section
namespace Go.Proofs.YtehkiccapbkhnaaGreat
open Go Go.Kn Go.Proofs
theorem fun_12 : Fun Tryz.prog 12 := .of Tryz.func12 (by kernel_rfl) (by kernel_rfl)
theorem fun_14 : Fun Tryz.prog 14 := .of Tryz.func14 (by kernel_rfl) (by kernel_rfl)
theorem fun_16 : Fun Tryz.prog 16 := .of Tryz.func16 (by kernel_rfl) (by kernel_rfl)
theorem fun_18 : Fun Tryz.prog 18 := .of Tryz.func18 (by kernel_rfl) (by kernel_rfl)
theorem fun_22 : Fun Tryz.prog 22 := .of Tryz.func22 (by kernel_rfl) (by kernel_rfl)
theorem fun_25 : Fun Tryz.prog 25 := .of Tryz.func25 (by kernel_rfl) (by kernel_rfl)
theorem fun_27 : Fun Tryz.prog 27 := .of Tryz.func27 (by kernel_rfl) (by kernel_rfl)
theorem fun_37 : Fun Tryz.prog 37 := .of Tryz.func37 (by kernel_rfl) (by kernel_rfl)
theorem fun_38 : Fun Tryz.prog 38 := .of Tryz.func38 (by kernel_rfl) (by kernel_rfl)
theorem mkt_23 : MkT Tryz.prog 23 3 8 (.int .i64 0) := ⟨by kernel_rfl, by kernel_rfl, rfl⟩
theorem plt_33 : PlT Tryz.prog 33 #[(0, 1), (1, 1), (2, 1), (3, 1), (4, 1), (5, 1)] (.agg #[(.slice none 0 0), (.int .i64 0), (.int .i64 0), (.int .i64 0), (.int .i64 0), (.slice none 0 0)]) := ⟨.of (by kernel_rfl), by kernel_rfl, fun w => by kernel_rfl⟩
theorem plt_65 : PlT Tryz.prog 65 #[(0, 1), (1, 1), (2, 1), (3, 1), (4, 14), (18, 1)] (.agg #[(.int .i64 0), (.int .i64 0), (.int .i64 0), (.int .i64 0), (.int .i64 0), (.int .i64 0), (.int .i64 0), (.int .i64 0), (.int .i64 0), (.int .i64 0), (.int .i64 0), (.int .i64 0), (.int .i64 0), (.int .i64 0), (.int .i64 0), (.int .i64 0), (.int .i64 0), (.int .i64 0), (.slice none 0 0)]) := ⟨.of (by kernel_rfl), by kernel_rfl, fun w => by kernel_rfl⟩
theorem szt_33 : SzT Tryz.prog 33 6 := .of (by kernel_rfl)
theorem zt_33 : ZeroT Tryz.prog 33 (.agg #[(.slice none 0 0), (.int .i64 0), (.int .i64 0), (.int .i64 0), (.int .i64 0), (.slice none 0 0)]) := .of (by kernel_rfl)
theorem w_two (I : HMap) : RetM Tryz.prog 37 [] I [] (fun v I' L => L = [] ∧ ∃ a c b d, v = encCHA ⟨a, 3, c, 1, 1, 9, 2, b, 2, d⟩ ∧ CrAt I' ⟨a, 3, c, 1, 1, 9, 2, b, 2, d⟩ twoC) := by
 intro g H w hw
 refine enter Tryz.func37 rfl Tryz.ntmps37 rfl hw ?_
 have hIc := HLe.refl I
 refine zR ?_
 refine XO_alloc zt_33 rfl rfl (fun b_0 => ?_)
 refine zN (zR ?_)
 refine XO_buildSlice (ps := [(0, _), (1, _), (2, _)]) (m := [encI 4, encI 5, encI 8]) elt_23 rfl (.cons rfl (.cons rfl (.cons rfl (.nil)))) rfl (by simp [encI_len]) (by decide) (by decide) rfl rfl (fun b_1 => ?_)
 refine XO_freeze (by repeat (first | exact Take.here | apply Take.there)) (fun I1 hI1 hb1 => ?_)
 have hIc := hIc.trans hI1
 have hD := Sl.lit ([4, 5, 8] : List Int) rfl encI_len (show I1 b_1 = some (Obj.cells (([4, 5, 8] : List Int).flatMap encI).toArray 3 (0, 0)) from hb1)
 refine XO_buildSlice (ps := [(0, _)]) (m := [encI 7]) elt_23 rfl (.cons rfl (.nil)) rfl (by simp [encI_len]) (by decide) (by decide) rfl rfl (fun b_2 => ?_)
 refine XO_freeze (by repeat (first | exact Take.here | apply Take.there)) (fun I2 hI2 hb2 => ?_)
 have hD := hD.mono hI2; have hIc := hIc.trans hI2
 have hw1 := Sl.lit ([7] : List Int) rfl encI_len (show I2 b_2 = some (Obj.cells (([7] : List Int).flatMap encI).toArray 3 (0, 0)) from hb2)
 refine XO_v0 (ev_buildL (ps := [(0, _), (1, _), (2, _)]) [_, _, _, _] plt_58 rfl rfl) rfl rfl rfl ?_
 refine XO_buildSlice (ps := [(0, _)]) (m := [encI 7]) elt_23 rfl (.cons rfl (.nil)) rfl (by simp [encI_len]) (by decide) (by decide) rfl rfl (fun b_4 => ?_)
 refine XO_freeze (by repeat (first | exact Take.here | apply Take.there)) (fun I3 hI3 hb3 => ?_)
 have hD := hD.mono hI3; have hw1 := hw1.mono hI3; have hIc := hIc.trans hI3
 have hw2 := Sl.lit ([7] : List Int) rfl encI_len (show I3 b_4 = some (Obj.cells (([7] : List Int).flatMap encI).toArray 3 (0, 0)) from hb3)
 refine XO_buildSlice (ps := [(0, _)]) (m := [encI 0]) elt_23 rfl (.cons rfl (.nil)) rfl (by simp [encI_len]) (by decide) (by decide) rfl rfl (fun b_5 => ?_)
 refine XO_freeze (by repeat (first | exact Take.here | apply Take.there)) (fun I4 hI4 hb4 => ?_)
 have hD := hD.mono hI4; have hw1 := hw1.mono hI4; have hw2 := hw2.mono hI4; have hIc := hIc.trans hI4
 have hn2 := Sl.lit ([0] : List Int) rfl encI_len (show I4 b_5 = some (Obj.cells (([0] : List Int).flatMap encI).toArray 3 (0, 0)) from hb4)
 refine XO_v0 (ev_buildL (ps := [(0, _), (1, _), (2, _), (3, _)]) [_, _, _, _] plt_58 rfl rfl) rfl rfl rfl ?_
 refine XO_buildSlice (ps := [(0, _), (1, _)]) (m := [encSH ⟨3, 1, some ⟨b_2, 0, none⟩, 1, 1, none, 0, 0⟩, encSH ⟨4, 2, some ⟨b_4, 0, none⟩, 1, 1, some ⟨b_5, 0, none⟩, 1, 1⟩]) elt_27 rfl (.cons rfl (.cons rfl (.nil))) rfl (by simp [encSH_len]) (by decide) (by decide) rfl rfl (fun b_7 => ?_)
 refine XO_freeze (by repeat (first | exact Take.here | apply Take.there)) (fun I5 hI5 hb5 => ?_)
 have hD := hD.mono hI5; have hw1 := hw1.mono hI5; have hw2 := hw2.mono hI5; have hn2 := hn2.mono hI5; have hIc := hIc.trans hI5
 have hSS := Sl.lit ([⟨3, 1, some ⟨b_2, 0, none⟩, 1, 1, none, 0, 0⟩, ⟨4, 2, some ⟨b_4, 0, none⟩, 1, 1, some ⟨b_5, 0, none⟩, 1, 1⟩] : List SH) rfl encSH_len (show I5 b_7 = some (Obj.cells (([⟨3, 1, some ⟨b_2, 0, none⟩, 1, 1, none, 0, 0⟩, ⟨4, 2, some ⟨b_4, 0, none⟩, 1, 1, some ⟨b_5, 0, none⟩, 1, 1⟩] : List SH).flatMap encSH).toArray 58 (0, 0)) from hb5)
 refine XO_v0 (ev_buildL (ps := [(0, _), (1, _), (2, _), (3, _), (4, _), (5, _)]) [_, _, _, _, _, _] plt_33 rfl rfl) rfl rfl rfl ?_
 refine XO_storeA rfl rfl szt_33 rfl rfl rfl rfl (by repeat (first | exact Upd.here | apply Upd.there | apply upd_app)) ?_
 refine zN ?_
 refine X_ret ?_
 exact at_ret1L rfl rfl (.ag agt_33 (vs := encCH ⟨some ⟨b_1, 0, none⟩, 3, 3, 1, 1, 9, 2, some ⟨b_7, 0, none⟩, 2, 2⟩) (by repeat (first | exact Cells.here | apply Cells.there)) rfl) (fun w hw => ⟨_, I5, [], rfl, hIc, hw.drop, rfl, _, _, _, _, rfl, hD, rfl, rfl, rfl, rfl, _, hSS, (RelS.nil.snoc ⟨rfl, rfl, hw1, Sl.nil⟩).snoc ⟨rfl, rfl, hw2, hn2⟩⟩)
theorem w_leafS (I : HMap) (r d w9 : Int) : RetV Tryz.prog 38 [.int .i64 r, .int .i64 d, .int .i64 w9] I (encPHA ⟨r, d, w9, none, 0, 0⟩) := by
 intro g H w hw
 refine enter Tryz.func38 rfl Tryz.ntmps38 rfl hw ?_
 refine zR ?_
 refine XO_alloc zt_45 rfl rfl (fun b_6 => ?_)
 refine zN (zR ?_)
 refine zM ?_
 refine zM ?_
 refine zM ?_
 refine XO_v0 (ev_buildL (ps := [(0, _), (1, _), (2, _)]) [_, _, _, _] plt_45 rfl rfl) rfl rfl rfl ?_
 refine XO_storeA rfl rfl szt_45 rfl rfl rfl rfl (by repeat (first | exact Upd.here | apply Upd.there | apply upd_app)) ?_
 refine zN ?_
 refine X_ret ?_
 exact at_ret1L rfl rfl (.ag agt_45 (Cells.here (vs := encPH ⟨r, d, w9, none, 0, 0⟩)) rfl) (fun w hw => ⟨rfl, hw.drop⟩)
theorem w_planE (I : HMap) : RetM Tryz.prog 18 [encCHA (⟨none, 0, 0, 1, 1, 1, 1, none, 0, 0⟩ : CH)] I [] (fun v I' L' => L' = [] ∧ ∃ a cc, v = .tuple #[.slice a 0 cc, .bool true, .int .i64 0]) := by
 have hC : CrAt I (⟨none, 0, 0, 1, 1, 1, 1, none, 0, 0⟩ : CH) empC := ⟨Sl.nil, rfl, rfl, rfl, rfl, [], Sl.nil, RelS.nil⟩
 refine (w_Plan hC d_emp).mono fun v I' L' hI ⟨h1, a, cc, h2, h3⟩ => ⟨h1, a, cc, ?_⟩
 rw [f_pl3, f_po3, f_ck3] at h2
 exact h2
theorem w_chkZ (I : HMap) : RetV Tryz.prog 20 [encCHA (⟨none, 0, 0, 0, 0, 0, 0, none, 0, 0⟩ : CH)] I (.int .i64 400) := by
 have hC : CrAt I (⟨none, 0, 0, 0, 0, 0, 0, none, 0, 0⟩ : CH) zerC := ⟨Sl.nil, rfl, rfl, rfl, rfl, [], Sl.nil, RelS.nil⟩
 have h := w_chkC hC (by intro s hs; cases hs)
 rw [f_ck4] at h
 exact h
theorem w_chkM {I : HMap} {b : Nat} (hM : Sl I 1 encI (some ⟨b, 0, none⟩) 17 17 manC.days) : RetV Tryz.prog 20 [encCHA ⟨some ⟨b, 0, none⟩, 17, 17, 0, 0, 0, 0, none, 0, 0⟩] I (.int .i64 2) := by
 have hC : CrAt I ⟨some ⟨b, 0, none⟩, 17, 17, 0, 0, 0, 0, none, 0, 0⟩ manC := ⟨hM, rfl, rfl, rfl, rfl, [], Sl.nil, RelS.nil⟩
 have h := w_chkC hC (by intro s hs; cases hs)
 rw [f_ck5] at h
 exact h
set_option maxHeartbeats 1000000 in
set_option maxRecDepth 100000 in
theorem w_sane40 (I : HMap) : RetV Tryz.prog 10 [] I (.bool true) := by
 intro g H w hw
 refine enter Tryz.func10 rfl Tryz.ntmps10 rfl hw ?_
 have hIc := HLe.refl I
 refine zR ?_
 refine zA ?_
 refine zN (zR ?_)
 refine XO_callM (cap := []) (vs := []) rfl rfl fun_37 .nil (w_two I) rfl rfl ?_
 rintro vv1 I1 L1 hI1 ⟨rfl, ca, cc, sa, sc, rfl, hC1⟩
 have hIc := hIc.trans hI1
 rw [List.nil_append]
 refine XO_alloc zt_33 rfl rfl (fun b_1 => ?_)
 refine XO_storeA rfl rfl szt_33 rfl rfl rfl rfl (by repeat (first | exact Upd.here | apply Upd.there | apply upd_app)) ?_
 refine zN (zR ?_)
 refine XO_v0 (ev_loadA rfl agt_33 (fun hg => by first | exact Cells.immC (vs := encPH rh1) h5z | exact Cells.here (vs := encCH ⟨ca, 3, cc, 1, 1, 9, 2, sa, 2, sc⟩) | exact Cells.here (vs := encCH ⟨ca, 3, cc, 1, 1, 9, 1, sa, 2, sc⟩) | exact (Cells.here (vs := encCH ⟨ca, 3, cc, 1, 1, 9, 2, sa, 2, sc⟩)).there | exact Cells.immC (vs := encPH rh1) h5 | (repeat (first | exact Cells.here | exact Cells.s0 (vs := [_, _, _, _, _, _]) rfl | apply Cells.there | apply Cells.app))) rfl) rfl rfl rfl ?_
 refine XO_callM (cap := []) (vs := [_]) rfl rfl fun_18 .nil (w_Plan hC1 d_two) rfl rfl ?_
 rintro vv2 I2 L2 hI2 ⟨rfl, pa1, pc1, rfl, hP1⟩
 have hC1 := hC1.mono hI2; have hIc := hIc.trans hI2
 rw [List.nil_append]
 rw [f_pl1] at hP1
 rw [f_pl1, f_po1, f_ck1]
 refine zM ?_
 refine XO_v0 (ev_extract rfl rfl) rfl rfl rfl ?_
 refine XO_v0 (ev_extract rfl rfl) rfl rfl rfl ?_
 refine XO_v0 (ev_extract rfl rfl) rfl rfl rfl ?_
 refine zA ?_
 refine zA ?_
 refine zA ?_
 refine zN (zR ?_)
 refine XO_v0 (ev_loadA rfl agt_33 (fun hg => by first | exact Cells.immC (vs := encPH rh1) h5z | exact Cells.here (vs := encCH ⟨ca, 3, cc, 1, 1, 9, 2, sa, 2, sc⟩) | exact Cells.here (vs := encCH ⟨ca, 3, cc, 1, 1, 9, 1, sa, 2, sc⟩) | exact (Cells.here (vs := encCH ⟨ca, 3, cc, 1, 1, 9, 2, sa, 2, sc⟩)).there | exact Cells.immC (vs := encPH rh1) h5 | (repeat (first | exact Cells.here | exact Cells.s0 (vs := [_, _, _, _, _, _]) rfl | apply Cells.there | apply Cells.app))) rfl) rfl rfl rfl ?_
 refine XO_callM (cap := []) (vs := [_, _]) rfl rfl fun_25 .nil (w_Refute hC1 d_two 1) rfl rfl ?_
 rintro vv3 I3 L3 hI3 ⟨rfl, rh1, rfl, hR1⟩
 have hC1 := hC1.mono hI3; have hP1 := hP1.mono hI3; have hIc := hIc.trans hI3
 rw [List.nil_append]
 rw [f_rp1] at hR1
 rw [f_ro1, f_le1]
 refine zM ?_
 refine XO_v0 (ev_extract rfl rfl) rfl rfl rfl ?_
 refine XO_v0 (ev_extract rfl rfl) rfl rfl rfl ?_
 refine XO_v0 (ev_extract rfl rfl) rfl rfl rfl ?_
 refine XO_alloc zt_45 rfl rfl (fun b_5 => ?_)
 refine XO_storeA rfl rfl szt_45 rfl rfl rfl rfl (by repeat (first | exact Upd.here | apply Upd.there | apply upd_app)) ?_
 refine zA ?_
 refine zA ?_
 refine zN ?_
 refine X_seq ?_
 refine X_freeze .here (fun I4 hI4 hb4 => ?_)
 have hC1 := hC1.mono hI4; have hP1 := hP1.mono hI4; have hR1 := hR1.mono hI4; have hIc := hIc.trans hI4
 have h5 := ImmC.of hb4
 refine X_region ?_
 refine XO_v0 (ev_loadA rfl agt_33 (fun hg => by first | exact Cells.immC (vs := encPH rh1) h5z | exact Cells.here (vs := encCH ⟨ca, 3, cc, 1, 1, 9, 2, sa, 2, sc⟩) | exact Cells.here (vs := encCH ⟨ca, 3, cc, 1, 1, 9, 1, sa, 2, sc⟩) | exact (Cells.here (vs := encCH ⟨ca, 3, cc, 1, 1, 9, 2, sa, 2, sc⟩)).there | exact Cells.immC (vs := encPH rh1) h5 | (repeat (first | exact Cells.here | exact Cells.s0 (vs := [_, _, _, _, _, _]) rfl | apply Cells.there | apply Cells.app))) rfl) rfl rfl rfl ?_
 refine XO_callM (cap := []) (vs := [_, _]) rfl rfl fun_25 .nil (w_Refute hC1 d_two 2) rfl rfl ?_
 rintro vv5 I5 L5 hI5 ⟨rfl, rh2, rfl, hR2⟩
 have hC1 := hC1.mono hI5; have hP1 := hP1.mono hI5; have hR1 := hR1.mono hI5; have h5 := h5.mono hI5; have hIc := hIc.trans hI5
 rw [List.nil_append]
 rw [f_ro2, f_le2]
 refine zM ?_
 refine XO_v0 (ev_extract rfl rfl) rfl rfl rfl ?_
 refine XO_v0 (ev_extract rfl rfl) rfl rfl rfl ?_
 refine XO_v0 (ev_extract rfl rfl) rfl rfl rfl ?_
 refine XO_alloc zt_45 rfl rfl (fun b_8 => ?_)
 refine XO_storeA rfl rfl szt_45 rfl rfl rfl rfl (by repeat (first | exact Upd.here | apply Upd.there | apply upd_app)) ?_
 refine zA ?_
 refine zA ?_
 refine zN ?_
 refine X_seq ?_
 refine X_freeze .here (fun I6 hI6 hb6 => ?_)
 have hC1 := hC1.mono hI6; have hP1 := hP1.mono hI6; have hR1 := hR1.mono hI6; have h5 := h5.mono hI6; have hIc := hIc.trans hI6
 have h8 := ImmC.of hb6
 refine X_region ?_
 refine XO_v0 (ev_loadA rfl agt_33 (fun hg => by first | exact Cells.immC (vs := encPH rh1) h5z | exact Cells.here (vs := encCH ⟨ca, 3, cc, 1, 1, 9, 2, sa, 2, sc⟩) | exact Cells.here (vs := encCH ⟨ca, 3, cc, 1, 1, 9, 1, sa, 2, sc⟩) | exact (Cells.here (vs := encCH ⟨ca, 3, cc, 1, 1, 9, 2, sa, 2, sc⟩)).there | exact Cells.immC (vs := encPH rh1) h5 | (repeat (first | exact Cells.here | exact Cells.s0 (vs := [_, _, _, _, _, _]) rfl | apply Cells.there | apply Cells.app))) rfl) rfl rfl rfl ?_
 refine XO_v0 (ev_loadA rfl agt_45 (fun hg => by first | exact Cells.immC (vs := encPH rh1) h5z | exact Cells.here (vs := encCH ⟨ca, 3, cc, 1, 1, 9, 2, sa, 2, sc⟩) | exact Cells.here (vs := encCH ⟨ca, 3, cc, 1, 1, 9, 1, sa, 2, sc⟩) | exact (Cells.here (vs := encCH ⟨ca, 3, cc, 1, 1, 9, 2, sa, 2, sc⟩)).there | exact Cells.immC (vs := encPH rh1) h5 | (repeat (first | exact Cells.here | exact Cells.s0 (vs := [_, _, _, _]) rfl | apply Cells.there | apply Cells.app))) rfl) rfl rfl rfl ?_
 refine XO_callV0 (cap := []) (vs := [_, _, _]) rfl rfl fun_27 (w_Accepts hC1 d_two 1 prfP rh1 hR1 f_sm) rfl rfl ?_
 rw [f_ac1, f_le1]
 refine zM ?_
 refine XO_v0 (ev_extract rfl rfl) rfl rfl rfl ?_
 refine XO_v0 (ev_extract rfl rfl) rfl rfl rfl ?_
 refine zA ?_
 refine zA ?_
 refine zN (zR ?_)
 refine XO_v0 (ev_loadA rfl agt_33 (fun hg => by first | exact Cells.immC (vs := encPH rh1) h5z | exact Cells.here (vs := encCH ⟨ca, 3, cc, 1, 1, 9, 2, sa, 2, sc⟩) | exact Cells.here (vs := encCH ⟨ca, 3, cc, 1, 1, 9, 1, sa, 2, sc⟩) | exact (Cells.here (vs := encCH ⟨ca, 3, cc, 1, 1, 9, 2, sa, 2, sc⟩)).there | exact Cells.immC (vs := encPH rh1) h5 | (repeat (first | exact Cells.here | exact Cells.s0 (vs := [_, _, _, _, _, _]) rfl | apply Cells.there | apply Cells.app))) rfl) rfl rfl rfl ?_
 refine XO_v0 (ev_loadA rfl agt_45 (fun hg => by first | exact Cells.immC (vs := encPH rh1) h5z | exact Cells.here (vs := encCH ⟨ca, 3, cc, 1, 1, 9, 2, sa, 2, sc⟩) | exact Cells.here (vs := encCH ⟨ca, 3, cc, 1, 1, 9, 1, sa, 2, sc⟩) | exact (Cells.here (vs := encCH ⟨ca, 3, cc, 1, 1, 9, 2, sa, 2, sc⟩)).there | exact Cells.immC (vs := encPH rh1) h5 | (repeat (first | exact Cells.here | exact Cells.s0 (vs := [_, _, _, _]) rfl | apply Cells.there | apply Cells.app))) rfl) rfl rfl rfl ?_
 refine XO_callV0 (cap := []) (vs := [_, _, _]) rfl rfl fun_27 (w_Accepts hC1 d_two 2 prfP rh1 hR1 f_sm) rfl rfl ?_
 rw [f_ac2, f_le2]
 refine zM ?_
 refine XO_v0 (ev_extract rfl rfl) rfl rfl rfl ?_
 refine XO_v0 (ev_extract rfl rfl) rfl rfl rfl ?_
 refine zA ?_
 refine zA ?_
 refine zN (zR ?_)
 refine XO_v0 (ev_loadA rfl agt_33 (fun hg => by first | exact Cells.immC (vs := encPH rh1) h5z | exact Cells.here (vs := encCH ⟨ca, 3, cc, 1, 1, 9, 2, sa, 2, sc⟩) | exact Cells.here (vs := encCH ⟨ca, 3, cc, 1, 1, 9, 1, sa, 2, sc⟩) | exact (Cells.here (vs := encCH ⟨ca, 3, cc, 1, 1, 9, 2, sa, 2, sc⟩)).there | exact Cells.immC (vs := encPH rh1) h5 | (repeat (first | exact Cells.here | exact Cells.s0 (vs := [_, _, _, _, _, _]) rfl | apply Cells.there | apply Cells.app))) rfl) rfl rfl rfl ?_
 refine XO_buildSlice (ps := [(0, _), (1, _)]) (m := [encI 1, encI 1]) elt_23 rfl (.cons rfl (.cons rfl (.nil))) rfl (by simp [encI_len]) (by decide) (by decide) rfl rfl (fun b_64 => ?_)
 refine XO_freeze (by repeat (first | exact Take.here | apply Take.there)) (fun I7 hI7 hb7 => ?_)
 have hC1 := hC1.mono hI7; have hP1 := hP1.mono hI7; have hR1 := hR1.mono hI7; have h5 := h5.mono hI7; have h8 := h8.mono hI7; have hIc := hIc.trans hI7
 have hG1 := Sl.lit ([1, 1] : List Int) rfl encI_len (show I7 b_64 = some (Obj.cells (([1, 1] : List Int).flatMap encI).toArray 3 (0, 0)) from hb7)
 refine XO_callM (cap := []) (vs := [_, _]) rfl rfl fun_16 .nil (w_Broken hC1 d_two hG1 (by decide)) rfl rfl ?_
 rintro vv8 I8 L8 hI8 ⟨rfl, ba1, bc1, rfl, hK1⟩
 have hC1 := hC1.mono hI8; have hP1 := hP1.mono hI8; have hR1 := hR1.mono hI8; have h5 := h5.mono hI8; have h8 := h8.mono hI8; have hG1 := hG1.mono hI8; have hIc := hIc.trans hI8
 rw [List.nil_append]
 rw [f_bl1] at hK1
 rw [f_bl1, f_be1]
 refine zM ?_
 refine XO_v0 (ev_extract rfl rfl) rfl rfl rfl ?_
 refine XO_v0 (ev_extract rfl rfl) rfl rfl rfl ?_
 refine zA ?_
 refine zA ?_
 refine zN (zR ?_)
 refine XO_v0 (ev_fieldAddr rfl fld_33_4) rfl rfl rfl ?_
 refine zS szt_3 ?_
 refine zN ?_
 refine X_seq ?_
 refine X_locEq (loc' := [(b_1, .cells (encCH ⟨ca, 3, cc, 1, 1, 9, 1, sa, 2, sc⟩).toArray 33 (0, 0))]) rfl ?_
 have hC2 : CrAt I8 ⟨ca, 3, cc, 1, 1, 9, 1, sa, 2, sc⟩ two1C := ⟨hC1.1, rfl, rfl, rfl, rfl, hC1.2.2.2.2.2⟩
 refine X_region ?_
 refine XO_v0 (ev_loadA rfl agt_33 (fun hg => by first | exact Cells.immC (vs := encPH rh1) h5z | exact Cells.here (vs := encCH ⟨ca, 3, cc, 1, 1, 9, 2, sa, 2, sc⟩) | exact Cells.here (vs := encCH ⟨ca, 3, cc, 1, 1, 9, 1, sa, 2, sc⟩) | exact (Cells.here (vs := encCH ⟨ca, 3, cc, 1, 1, 9, 2, sa, 2, sc⟩)).there | exact Cells.immC (vs := encPH rh1) h5 | (repeat (first | exact Cells.here | exact Cells.s0 (vs := [_, _, _, _, _, _]) rfl | apply Cells.there | apply Cells.app))) rfl) rfl rfl rfl ?_
 refine XO_callM (cap := []) (vs := [_]) rfl rfl fun_18 .nil (w_Plan hC2 d_two1) rfl rfl ?_
 rintro vv9 I9 L9 hI9 ⟨rfl, pa2, pc2, rfl, hP2⟩
 have hC1 := hC1.mono hI9; have hP1 := hP1.mono hI9; have hR1 := hR1.mono hI9; have h5 := h5.mono hI9; have h8 := h8.mono hI9; have hG1 := hG1.mono hI9; have hK1 := hK1.mono hI9; have hC2 := hC2.mono hI9; have hIc := hIc.trans hI9
 rw [List.nil_append]
 rw [f_pl2] at hP2
 rw [f_pl2, f_po2, f_ck2]
 refine zM ?_
 refine XO_v0 (ev_extract rfl rfl) rfl rfl rfl ?_
 refine XO_v0 (ev_extract rfl rfl) rfl rfl rfl ?_
 refine XO_v0 (ev_extract rfl rfl) rfl rfl rfl ?_
 refine zA ?_
 refine zA ?_
 refine zA ?_
 refine zN (zR ?_)
 refine XO_v0 (ev_buildL (ps := [(6, _)]) [_, _, _, _, _, _, _, _, _, _, _, _, _, _] plt_63 rfl rfl) rfl rfl rfl ?_
 refine XO_v0 (ev_buildL (ps := [(0, _), (1, _), (3, _), (4, _)]) [_, _, _, _, _, _, _, _, _, _, _, _, _, _, _, _, _, _, _] plt_65 rfl rfl) rfl rfl rfl ?_
 refine XO_buildSlice (ps := [(0, _)]) (m := [encP patP]) elt_22 rfl (.cons rfl (.nil)) rfl (by simp [encP_len]) (by decide) (by decide) rfl rfl (fun b_77 => ?_)
 refine XO_freeze (by repeat (first | exact Take.here | apply Take.there)) (fun I10 hI10 hb10 => ?_)
 have hC1 := hC1.mono hI10; have hP1 := hP1.mono hI10; have hR1 := hR1.mono hI10; have h5 := h5.mono hI10; have h8 := h8.mono hI10; have hG1 := hG1.mono hI10; have hK1 := hK1.mono hI10; have hC2 := hC2.mono hI10; have hP2 := hP2.mono hI10; have hIc := hIc.trans hI10
 have hP0 := Sl.lit ([patP] : List Pt) rfl encP_len (show I10 b_77 = some (Obj.cells (([patP] : List Pt).flatMap encP).toArray 65 (0, 0)) from hb10)
 have hPs : SlP I10 (some ⟨b_77, 0, none⟩) 1 1 [patP] := ⟨hP0, fun q hq => by simp only [List.mem_singleton] at hq; subst hq; exact Sl.nil⟩
 refine zA ?_
 refine zN (zR ?_)
 refine zM ?_
 refine XO_buildSlice (ps := [(0, _)]) (m := [encI 2]) elt_23 rfl (.cons rfl (.nil)) rfl (by simp [encI_len]) (by decide) (by decide) rfl rfl (fun b_80 => ?_)
 refine XO_freeze (by repeat (first | exact Take.here | apply Take.there)) (fun I11 hI11 hb11 => ?_)
 have hC1 := hC1.mono hI11; have hP1 := hP1.mono hI11; have hR1 := hR1.mono hI11; have h5 := h5.mono hI11; have h8 := h8.mono hI11; have hG1 := hG1.mono hI11; have hK1 := hK1.mono hI11; have hC2 := hC2.mono hI11; have hP2 := hP2.mono hI11; have hP0 := hP0.mono hI11; have hPs := hPs.mono hI11; have hIc := hIc.trans hI11
 have hT1 := Sl.lit ([2] : List Int) rfl encI_len (show I11 b_80 = some (Obj.cells (([2] : List Int).flatMap encI).toArray 3 (0, 0)) from hb11)
 refine XO_buildSlice (ps := [(0, _)]) (m := [encI 2]) elt_23 rfl (.cons rfl (.nil)) rfl (by simp [encI_len]) (by decide) (by decide) rfl rfl (fun b_81 => ?_)
 refine XO_freeze (by repeat (first | exact Take.here | apply Take.there)) (fun I12 hI12 hb12 => ?_)
 have hC1 := hC1.mono hI12; have hP1 := hP1.mono hI12; have hR1 := hR1.mono hI12; have h5 := h5.mono hI12; have h8 := h8.mono hI12; have hG1 := hG1.mono hI12; have hK1 := hK1.mono hI12; have hC2 := hC2.mono hI12; have hP2 := hP2.mono hI12; have hP0 := hP0.mono hI12; have hPs := hPs.mono hI12; have hT1 := hT1.mono hI12
 have hIc := hIc.trans hI12
 have hT2 := Sl.lit ([2] : List Int) rfl encI_len (show I12 b_81 = some (Obj.cells (([2] : List Int).flatMap encI).toArray 3 (0, 0)) from hb12)
 refine XO_buildSlice (ps := [(0, _), (1, _), (2, _)]) (m := [encH ⟨none, 0, 0⟩, encH ⟨some ⟨b_81, 0, none⟩, 1, 1⟩, encH ⟨none, 0, 0⟩]) elt_24 rfl (.cons rfl (.cons rfl (.cons rfl (.nil)))) rfl (by simp [encH_len]) (by decide) (by decide) rfl rfl (fun b_82 => ?_)
 refine XO_freeze (by repeat (first | exact Take.here | apply Take.there)) (fun I13 hI13 hb13 => ?_)
 have hC1 := hC1.mono hI13; have hP1 := hP1.mono hI13; have hR1 := hR1.mono hI13; have h5 := h5.mono hI13; have h8 := h8.mono hI13; have hG1 := hG1.mono hI13; have hK1 := hK1.mono hI13; have hC2 := hC2.mono hI13; have hP2 := hP2.mono hI13; have hP0 := hP0.mono hI13; have hPs := hPs.mono hI13; have hT1 := hT1.mono hI13
 have hT2 := hT2.mono hI13; have hIc := hIc.trans hI13
 have hH3 := Sl.lit [(⟨none, 0, 0⟩ : Hd), ⟨some ⟨b_81, 0, none⟩, 1, 1⟩, ⟨none, 0, 0⟩] rfl encH_len (show I13 b_82 = some (Obj.cells ([(⟨none, 0, 0⟩ : Hd), ⟨some ⟨b_81, 0, none⟩, 1, 1⟩, ⟨none, 0, 0⟩].flatMap encH).toArray 23 (0, 0)) from hb13)
 refine XO_callM (cap := []) (vs := [_, _, _]) rfl rfl fun_12 .nil (w_From hPs (by decide) hT1 (by decide) (show SlHA I13 1 encI _ _ _ _ [[], [2], []] from ⟨hH3, .cons Sl.nil (.cons hT2 (.cons Sl.nil .nil))⟩) (by decide) (by intro v hv; simp only [List.mem_cons, List.not_mem_nil, or_false] at hv; rcases hv with rfl | rfl | rfl <;> simp)) rfl rfl ?_
 rintro vv14 I14 L14 hI14 ⟨rfl, fa1, fc1, rfl, hF1⟩
 have hC1 := hC1.mono hI14; have hP1 := hP1.mono hI14; have hR1 := hR1.mono hI14; have h5 := h5.mono hI14; have h8 := h8.mono hI14; have hG1 := hG1.mono hI14; have hK1 := hK1.mono hI14; have hC2 := hC2.mono hI14; have hP2 := hP2.mono hI14; have hP0 := hP0.mono hI14; have hPs := hPs.mono hI14; have hT1 := hT1.mono hI14
 have hT2 := hT2.mono hI14; have hH3 := hH3.mono hI14; have hIc := hIc.trans hI14
 rw [List.nil_append]
 rw [f_fr1] at hF1
 rw [f_fr1, f_fe1]
 refine zM ?_
 refine XO_v0 (ev_extract rfl rfl) rfl rfl rfl ?_
 refine XO_v0 (ev_extract rfl rfl) rfl rfl rfl ?_
 refine zA ?_
 refine zA ?_
 refine zN (zR ?_)
 refine zM ?_
 refine XO_buildSlice (ps := [(0, _)]) (m := [encI 3]) elt_23 rfl (.cons rfl (.nil)) rfl (by simp [encI_len]) (by decide) (by decide) rfl rfl (fun b_88 => ?_)
 refine XO_freeze (by repeat (first | exact Take.here | apply Take.there)) (fun I15 hI15 hb15 => ?_)
 have hC1 := hC1.mono hI15; have hP1 := hP1.mono hI15; have hR1 := hR1.mono hI15; have h5 := h5.mono hI15; have h8 := h8.mono hI15; have hG1 := hG1.mono hI15; have hK1 := hK1.mono hI15; have hC2 := hC2.mono hI15; have hP2 := hP2.mono hI15; have hP0 := hP0.mono hI15; have hPs := hPs.mono hI15; have hT1 := hT1.mono hI15
 have hT2 := hT2.mono hI15; have hH3 := hH3.mono hI15; have hF1 := hF1.mono hI15; have hIc := hIc.trans hI15
 have hT3 := Sl.lit ([3] : List Int) rfl encI_len (show I15 b_88 = some (Obj.cells (([3] : List Int).flatMap encI).toArray 3 (0, 0)) from hb15)
 refine XO_callM (cap := []) (vs := [_, _, _]) rfl rfl fun_12 .nil (w_From hPs (by decide) hT3 (by decide) (show SlHA I15 1 encI none 0 0 [] [] from ⟨Sl.nil, .nil⟩) (by decide) (by intro v hv; cases hv)) rfl rfl ?_
 rintro vv16 I16 L16 hI16 ⟨rfl, fa2, fc2, rfl, hF2⟩
 have hC1 := hC1.mono hI16; have hP1 := hP1.mono hI16; have hR1 := hR1.mono hI16; have h5 := h5.mono hI16; have h8 := h8.mono hI16; have hG1 := hG1.mono hI16; have hK1 := hK1.mono hI16; have hC2 := hC2.mono hI16; have hP2 := hP2.mono hI16; have hP0 := hP0.mono hI16; have hPs := hPs.mono hI16; have hT1 := hT1.mono hI16
 have hT2 := hT2.mono hI16; have hH3 := hH3.mono hI16; have hF1 := hF1.mono hI16; have hT3 := hT3.mono hI16; have hIc := hIc.trans hI16
 rw [List.nil_append]
 rw [f_fe2]
 refine zM ?_
 refine XO_v0 (ev_extract rfl rfl) rfl rfl rfl ?_
 refine XO_v0 (ev_extract rfl rfl) rfl rfl rfl ?_
 refine zA ?_
 refine zA ?_
 refine zN (zR ?_)
 refine XO_v0 (ev_loadA rfl agt_33 (fun hg => by first | exact Cells.immC (vs := encPH rh1) h5z | exact Cells.here (vs := encCH ⟨ca, 3, cc, 1, 1, 9, 2, sa, 2, sc⟩) | exact Cells.here (vs := encCH ⟨ca, 3, cc, 1, 1, 9, 1, sa, 2, sc⟩) | exact (Cells.here (vs := encCH ⟨ca, 3, cc, 1, 1, 9, 2, sa, 2, sc⟩)).there | exact Cells.immC (vs := encPH rh1) h5 | (repeat (first | exact Cells.here | exact Cells.s0 (vs := [_, _, _, _, _, _]) rfl | apply Cells.there | apply Cells.app))) rfl) rfl rfl rfl ?_
 refine XO_buildSlice (ps := [(0, _), (1, _), (2, _)]) (m := [encI 0, encI 0, encI 0]) elt_23 rfl (.cons rfl (.cons rfl (.cons rfl (.nil)))) rfl (by simp [encI_len]) (by decide) (by decide) rfl rfl (fun b_94 => ?_)
 refine XO_freeze (by repeat (first | exact Take.here | apply Take.there)) (fun I17 hI17 hb17 => ?_)
 have hC1 := hC1.mono hI17; have hP1 := hP1.mono hI17; have hR1 := hR1.mono hI17; have h5 := h5.mono hI17; have h8 := h8.mono hI17; have hG1 := hG1.mono hI17; have hK1 := hK1.mono hI17; have hC2 := hC2.mono hI17; have hP2 := hP2.mono hI17; have hP0 := hP0.mono hI17; have hPs := hPs.mono hI17; have hT1 := hT1.mono hI17
 have hT2 := hT2.mono hI17; have hH3 := hH3.mono hI17; have hF1 := hF1.mono hI17; have hT3 := hT3.mono hI17; have hIc := hIc.trans hI17
 have hG2 := Sl.lit ([0, 0, 0] : List Int) rfl encI_len (show I17 b_94 = some (Obj.cells (([0, 0, 0] : List Int).flatMap encI).toArray 3 (0, 0)) from hb17)
 refine XO_callM (cap := []) (vs := [_, _]) rfl rfl fun_16 .nil (w_Broken hC2 d_two1 hG2 (by decide)) rfl rfl ?_
 rintro vv18 I18 L18 hI18 ⟨rfl, ba2, bc2, rfl, hK2⟩
 have hC1 := hC1.mono hI18; have hP1 := hP1.mono hI18; have hR1 := hR1.mono hI18; have h5 := h5.mono hI18; have h8 := h8.mono hI18; have hG1 := hG1.mono hI18; have hK1 := hK1.mono hI18; have hC2 := hC2.mono hI18; have hP2 := hP2.mono hI18; have hP0 := hP0.mono hI18; have hPs := hPs.mono hI18; have hT1 := hT1.mono hI18
 have hT2 := hT2.mono hI18; have hH3 := hH3.mono hI18; have hF1 := hF1.mono hI18; have hT3 := hT3.mono hI18; have hG2 := hG2.mono hI18; have hIc := hIc.trans hI18
 rw [List.nil_append]
 rw [f_be2]
 refine zM ?_
 refine XO_v0 (ev_extract rfl rfl) rfl rfl rfl ?_
 refine XO_v0 (ev_extract rfl rfl) rfl rfl rfl ?_
 refine zA ?_
 refine zA ?_
 refine zN (zR ?_)
 refine XO_v0 (ev_buildL (ps := [(1, _), (2, _), (3, _), (4, _)]) [_, _, _, _, _, _] plt_33 rfl rfl) rfl rfl rfl ?_
 refine XO_callM (cap := []) (vs := [_]) rfl rfl fun_18 .nil (w_planE I18) rfl rfl ?_
 rintro vv19 I19 L19 hI19 ⟨rfl, pa3, pc3, rfl⟩
 have hC1 := hC1.mono hI19; have hP1 := hP1.mono hI19; have hR1 := hR1.mono hI19; have h5 := h5.mono hI19; have h8 := h8.mono hI19; have hG1 := hG1.mono hI19; have hK1 := hK1.mono hI19; have hC2 := hC2.mono hI19; have hP2 := hP2.mono hI19; have hP0 := hP0.mono hI19; have hPs := hPs.mono hI19; have hT1 := hT1.mono hI19
 have hT2 := hT2.mono hI19; have hH3 := hH3.mono hI19; have hF1 := hF1.mono hI19; have hT3 := hT3.mono hI19; have hG2 := hG2.mono hI19; have hIc := hIc.trans hI19
 rw [List.nil_append]
 refine zM ?_
 refine XO_v0 (ev_extract rfl rfl) rfl rfl rfl ?_
 refine XO_v0 (ev_extract rfl rfl) rfl rfl rfl ?_
 refine XO_v0 (ev_extract rfl rfl) rfl rfl rfl ?_
 refine zA ?_
 refine zA ?_
 refine zA ?_
 refine zN ?_
 refine X_seq ?_
 refine zR ?_
 simp only [List.append_eq, List.cons_append, List.nil_append]
 refine zM ?_
 refine zC ?_
 refine zM ?_
 refine XO_pushF 2 rfl rfl rfl ?_
 refine XO_v1 (ev_move rfl) (.some rfl rfl rfl rfl gbf) rfl rfl rfl ?_
 refine XO_v1 (ev_cmp rfl rfl rfl) (.some rfl rfl rfl rfl gbf) rfl rfl rfl ?_
 refine XO_or0 rfl rfl rfl rfl rfl ?_
 refine zM ?_
 refine XO_pushF 6 rfl rfl rfl ?_
 refine XO_v1 (ev_move rfl) (.some rfl rfl rfl rfl gbf) rfl rfl rfl ?_
 refine XO_v1 (ev_cmp rfl rfl rfl) (.some rfl rfl rfl rfl gbf) rfl rfl rfl ?_
 refine XO_or0 rfl rfl rfl rfl rfl ?_
 refine zM ?_
 refine XO_pushF 10 rfl rfl rfl ?_
 refine XO_v1 (ev_move rfl) (.some rfl rfl rfl rfl gbf) rfl rfl rfl ?_
 refine XO_v1 (ev_cmp rfl rfl rfl) (.some rfl rfl rfl rfl gbf) rfl rfl rfl ?_
 refine XO_or0 rfl rfl rfl rfl rfl ?_
 refine zM ?_
 refine XO_pushF 14 rfl rfl rfl ?_
 refine XO_v1 (ev_move rfl) (.some rfl rfl rfl rfl gbf) rfl rfl rfl ?_
 refine XO_v1 (ev_cmp rfl rfl rfl) (.some rfl rfl rfl rfl gbf) rfl rfl rfl ?_
 refine XO_or0 rfl rfl rfl rfl rfl ?_
 refine zM ?_
 refine XO_pushF 18 rfl rfl rfl ?_
 refine XO_v1 (ev_move rfl) (.some rfl rfl rfl rfl gbf) rfl rfl rfl ?_
 refine XO_v1 (ev_cmp rfl rfl rfl) (.some rfl rfl rfl rfl gbf) rfl rfl rfl ?_
 refine XO_or0 rfl rfl rfl rfl rfl ?_
 refine zM ?_
 refine XO_pushF 22 rfl rfl rfl ?_
 refine XO_v1 (ev_move rfl) (.some rfl rfl rfl rfl gbf) rfl rfl rfl ?_
 refine XO_v1 (ev_cmp rfl rfl rfl) (.some rfl rfl rfl rfl gbf) rfl rfl rfl ?_
 refine XO_or0 rfl rfl rfl rfl rfl ?_
 refine zM ?_
 refine XO_pushF 26 rfl rfl rfl ?_
 refine XO_v1 (ev_move rfl) (.some rfl rfl rfl rfl gbf) rfl rfl rfl ?_
 refine XO_v1 (ev_cmp rfl rfl rfl) (.some rfl rfl rfl rfl gbf) rfl rfl rfl ?_
 refine XO_or0 rfl rfl rfl rfl rfl ?_
 refine zM ?_
 refine XO_pushF 30 rfl rfl rfl ?_
 refine XO_v1 (ev_move rfl) (.some rfl rfl rfl rfl gbf) rfl rfl rfl ?_
 refine XO_v1 (ev_cmp rfl rfl rfl) (.some rfl rfl rfl rfl gbf) rfl rfl rfl ?_
 refine XO_or0 rfl rfl rfl rfl rfl ?_
 refine zM ?_
 refine XO_pushF 34 rfl rfl rfl ?_
 refine XO_v1 (ev_move rfl) (.some rfl rfl rfl rfl gbf) rfl rfl rfl ?_
 refine XO_v1 (ev_cmp rfl rfl rfl) (.some rfl rfl rfl rfl gbf) rfl rfl rfl ?_
 refine XO_or0 rfl rfl rfl rfl rfl ?_
 refine zM ?_
 refine XO_pushF 38 rfl rfl rfl ?_
 refine XO_v1 (ev_move rfl) (.some rfl rfl rfl rfl gbf) rfl rfl rfl ?_
 refine XO_v1 (ev_cmp rfl rfl rfl) (.some rfl rfl rfl rfl gbf) rfl rfl rfl ?_
 refine XO_or0 rfl rfl rfl rfl rfl ?_
 refine zM ?_
 refine XO_pushF 42 rfl rfl rfl ?_
 refine XO_v1 (ev_move rfl) (.some rfl rfl rfl rfl gbf) rfl rfl rfl ?_
 refine XO_v1 (ev_not rfl) (.some rfl rfl rfl rfl gbf) rfl rfl rfl ?_
 refine XO_or0 rfl rfl rfl rfl rfl ?_
 refine zM ?_
 refine XO_pushF 46 rfl rfl rfl ?_
 refine XO_v1 (ev_move rfl) (.some rfl rfl rfl rfl gbf) rfl rfl rfl ?_
 refine XO_v1 (ev_not rfl) (.some rfl rfl rfl rfl gbf) rfl rfl rfl ?_
 refine XO_or0 rfl rfl rfl rfl rfl ?_
 refine zM ?_
 refine XO_pushF 50 rfl rfl rfl ?_
 refine XO_v1 (ev_move rfl) (.some rfl rfl rfl rfl gbf) rfl rfl rfl ?_
 refine XO_or0 rfl rfl rfl rfl rfl ?_
 refine zM ?_
 refine XO_pushF 53 rfl rfl rfl ?_
 refine XO_v1 (ev_move rfl) (.some rfl rfl rfl rfl gbf) rfl rfl rfl ?_
 refine XO_v1 (ev_not rfl) (.some rfl rfl rfl rfl gbf) rfl rfl rfl ?_
 refine XO_or0 rfl rfl rfl rfl rfl ?_
 refine zM ?_
 refine XO_pushF 57 rfl rfl rfl ?_
 refine XO_v1 (ev_move rfl) (.some rfl rfl rfl rfl gbf) rfl rfl rfl ?_
 refine XO_or0 rfl rfl rfl rfl rfl ?_
 refine zM ?_
 refine XO_pushF 60 rfl rfl rfl ?_
 refine XO_v1 (ev_move rfl) (.some rfl rfl rfl rfl gbf) rfl rfl rfl ?_
 refine XO_v1 (ev_not rfl) (.some rfl rfl rfl rfl gbf) rfl rfl rfl ?_
 refine XO_or0 rfl rfl rfl rfl rfl ?_
 refine zM ?_
 refine XO_pushF 64 rfl rfl rfl ?_
 refine XO_v1 (ev_move rfl) (.some rfl rfl rfl rfl gbf) rfl rfl rfl ?_
 refine XO_v1 (ev_not rfl) (.some rfl rfl rfl rfl gbf) rfl rfl rfl ?_
 refine XO_or0 rfl rfl rfl rfl rfl ?_
 refine zM ?_
 refine XO_pushF 68 rfl rfl rfl ?_
 refine XO_v1 (ev_move rfl) (.some rfl rfl rfl rfl gbf) rfl rfl rfl ?_
 refine XO_v1 (ev_lenS rfl slt_23) (.some rfl rfl rfl rfl gbf) rfl rfl rfl ?_
 refine XO_v1 (ev_cmp rfl rfl rfl) (.some rfl rfl rfl rfl gbf) rfl rfl rfl ?_
 refine XO_or0 rfl rfl rfl rfl rfl ?_
 refine zN ?_
 refine X_cond rfl (fun hc176 => ?_) (fun hc176 => ?_)
 ·
  exact absurd hc176 (by first | decide | (simp only []; decide))
 refine X_skip ?_
 refine at_then ?_
 refine X_seq ?_
 refine zR ?_
 refine XO_v0 (ev_buildL (ps := []) [_, _, _, _, _, _] plt_33 rfl rfl) rfl rfl rfl ?_
 refine XO_callV0 (cap := []) (vs := [_]) rfl rfl fun_20 (w_chkZ _) rfl rfl ?_
 refine zC ?_
 refine zM ?_
 refine XO_want (dj := 180) rfl rfl rfl ?_
 refine XO_v0 (ev_loadA rfl agt_33 (fun hg => by first | exact Cells.immC (vs := encPH rh1) h5z | exact Cells.here (vs := encCH ⟨ca, 3, cc, 1, 1, 9, 2, sa, 2, sc⟩) | exact Cells.here (vs := encCH ⟨ca, 3, cc, 1, 1, 9, 1, sa, 2, sc⟩) | exact (Cells.here (vs := encCH ⟨ca, 3, cc, 1, 1, 9, 2, sa, 2, sc⟩)).there | exact Cells.immC (vs := encPH rh1) h5 | (repeat (first | exact Cells.here | exact Cells.s0 (vs := [_, _, _, _, _, _]) rfl | apply Cells.there | apply Cells.app))) rfl) rfl rfl rfl ?_
 refine XO_want (dj := 180) rfl rfl rfl ?_
 refine XO_callV0 (cap := []) (vs := [_]) rfl rfl fun_20 (w_chkC hC2 d_two1) rfl rfl ?_
 rw [f_ck2]
 refine XO_want (dj := 180) rfl rfl rfl ?_
 refine zC ?_
 refine XO_v0 (ev_pickb rfl rfl rfl) rfl rfl rfl ?_
 refine zM ?_
 refine XO_want (dj := 185) rfl rfl rfl ?_
 refine XO_makeSlice mkt_23 rfl rfl (by omega) (by decide) rfl rfl (fun b_186 => ?_)
 refine XO_freeze .here (fun I20 hI20 hb20 => ?_)
 have hC1 := hC1.mono hI20; have hP1 := hP1.mono hI20; have hR1 := hR1.mono hI20; have h5 := h5.mono hI20; have h8 := h8.mono hI20; have hG1 := hG1.mono hI20; have hK1 := hK1.mono hI20; have hC2 := hC2.mono hI20; have hP2 := hP2.mono hI20; have hP0 := hP0.mono hI20; have hPs := hPs.mono hI20; have hT1 := hT1.mono hI20
 have hT2 := hT2.mono hI20; have hH3 := hH3.mono hI20; have hF1 := hF1.mono hI20; have hT3 := hT3.mono hI20; have hG2 := hG2.mono hI20; have hIc := hIc.trans hI20
 have hM17 : Sl I20 1 encI (some ⟨b_186, 0, none⟩) 17 17 manC.days := Sl.lit manC.days rfl encI_len (show I20 b_186 = some (Obj.cells ((manC.days : List Int).flatMap encI).toArray 3 (0, 0)) from hb20)
 refine XO_want (dj := 185) rfl rfl rfl ?_
 refine XO_v0 (ev_buildL (ps := [(0, _)]) [_, _, _, _, _, _] plt_33 rfl rfl) rfl rfl rfl ?_
 refine XO_want (dj := 185) rfl rfl rfl ?_
 refine XO_callV0 (cap := []) (vs := [_]) rfl rfl fun_20 (w_chkM hM17) rfl rfl ?_
 refine XO_want (dj := 185) rfl rfl rfl ?_
 refine zC ?_
 refine XO_v0 (ev_pickb rfl rfl rfl) rfl rfl rfl ?_
 refine zN ?_
 refine X_cond rfl (fun hc190 => ?_) (fun hc190 => ?_)
 ·
  exact absurd hc190 (by first | decide | (simp only []; decide))
 refine X_skip ?_
 refine at_then ?_
 refine zR ?_
 refine zA ?_
 refine zN ?_
 refine X_seq ?_
 have h5z := h5
 have hD := HLe.refl I20
 refine X_drawC mixed ?_
 refine zT 0 rfl (ev_move rfl) hD ?_
 refine XD_one 1 rfl (by kernel_rfl) ?_
 refine XO_buildSlice (ps := [(0, _), (1, _)]) (m := [encI 0, encI 1]) elt_23 rfl (.cons rfl (.cons rfl (.nil))) rfl (by simp [encI_len]) (by decide) (by decide) rfl rfl (fun b_192 => ?_)
 refine XO_freeze (by repeat (first | exact Take.here | apply Take.there)) (fun I21 hI21 hb21 => ?_)
 have hC1 := hC1.mono hI21; have hP1 := hP1.mono hI21; have hR1 := hR1.mono hI21; have h5 := h5.mono hI21; have h8 := h8.mono hI21; have hG1 := hG1.mono hI21; have hK1 := hK1.mono hI21; have hC2 := hC2.mono hI21; have hP2 := hP2.mono hI21; have hP0 := hP0.mono hI21; have hPs := hPs.mono hI21; have hT1 := hT1.mono hI21
 have hT2 := hT2.mono hI21; have hH3 := hH3.mono hI21; have hF1 := hF1.mono hI21; have hT3 := hT3.mono hI21; have hG2 := hG2.mono hI21; have hIc := hIc.trans hI21; have hD := hD.trans hI21
 have hL1 := Sl.lit ([0, 1] : List Int) rfl encI_len (show I21 b_192 = some (Obj.cells (([0, 1] : List Int).flatMap encI).toArray 3 (0, 0)) from hb21)
 refine XO_nil ?_
 refine zD hD ?_
 refine XD_one 2 rfl (by kernel_rfl) ?_
 refine XO_callV0 (cap := []) (vs := [_, _]) rfl rfl fun_23 (w_rSame hP1 (by decide) hL1) rfl rfl ?_
 refine XO_nil ?_
 refine zD hD ?_
 refine zT 3 rfl (ev_move rfl) hD ?_
 refine XD_takeW 4 rfl rfl rfl (dj := 194) rfl (ev_move rfl) rfl (by kernel_rfl) (by kernel_rfl) (by kernel_rfl) noP_ok hD (by repeat (first | exact .refl | exact subL_nil | refine .keep ?_ | refine .drop ?_ | refine subL_add ?_)) ?_
 refine XD_one 5 rfl (by kernel_rfl) ?_
 refine XO_want (dj := 194) rfl rfl rfl ?_
 refine XO_buildSlice (ps := [(0, _), (1, _)]) (m := [encI 0, encI 2]) elt_23 rfl (.cons rfl (.cons rfl (.nil))) rfl (by simp [encI_len]) (by decide) (by decide) rfl rfl (fun b_196 => ?_)
 refine XO_freeze (by repeat (first | exact Take.here | apply Take.there)) (fun I22 hI22 hb22 => ?_)
 have hC1 := hC1.mono hI22; have hP1 := hP1.mono hI22; have hR1 := hR1.mono hI22; have h5 := h5.mono hI22; have h8 := h8.mono hI22; have hG1 := hG1.mono hI22; have hK1 := hK1.mono hI22; have hC2 := hC2.mono hI22; have hP2 := hP2.mono hI22; have hP0 := hP0.mono hI22; have hPs := hPs.mono hI22; have hT1 := hT1.mono hI22
 have hT2 := hT2.mono hI22; have hH3 := hH3.mono hI22; have hF1 := hF1.mono hI22; have hT3 := hT3.mono hI22; have hG2 := hG2.mono hI22; have hL1 := hL1.mono hI22; have hIc := hIc.trans hI22; have hD := hD.trans hI22
 have hL2 := Sl.lit ([0, 2] : List Int) rfl encI_len (show I22 b_196 = some (Obj.cells (([0, 2] : List Int).flatMap encI).toArray 3 (0, 0)) from hb22)
 refine XO_nil ?_
 refine zD hD ?_
 refine XD_one 6 rfl (by kernel_rfl) ?_
 refine XO_want (dj := 194) rfl rfl rfl ?_
 refine XO_callV0 (cap := []) (vs := [_, _]) rfl rfl fun_23 (w_rSame hP2 (by decide) hL2) rfl rfl ?_
 refine XO_nil ?_
 refine zD hD ?_
 refine zT 7 rfl (ev_pickb rfl rfl rfl) hD ?_
 refine zT 8 rfl (ev_move rfl) hD ?_
 refine XD_takeW 9 rfl rfl rfl (dj := 199) rfl (ev_move rfl) rfl (by kernel_rfl) (by kernel_rfl) (by kernel_rfl) noP_ok hD (by repeat (first | exact .refl | exact subL_nil | refine .keep ?_ | refine .drop ?_ | refine subL_add ?_)) ?_
 refine XD_one 10 rfl (by kernel_rfl) ?_
 refine XO_want (dj := 199) rfl rfl rfl ?_
 refine XO_buildSlice (ps := [(0, _), (1, _)]) (m := [encI 0, encI 2]) elt_23 rfl (.cons rfl (.cons rfl (.nil))) rfl (by simp [encI_len]) (by decide) (by decide) rfl rfl (fun b_201 => ?_)
 refine XO_freeze (by repeat (first | exact Take.here | apply Take.there)) (fun I23 hI23 hb23 => ?_)
 have hC1 := hC1.mono hI23; have hP1 := hP1.mono hI23; have hR1 := hR1.mono hI23; have h5 := h5.mono hI23; have h8 := h8.mono hI23; have hG1 := hG1.mono hI23; have hK1 := hK1.mono hI23; have hC2 := hC2.mono hI23; have hP2 := hP2.mono hI23; have hP0 := hP0.mono hI23; have hPs := hPs.mono hI23; have hT1 := hT1.mono hI23
 have hT2 := hT2.mono hI23; have hH3 := hH3.mono hI23; have hF1 := hF1.mono hI23; have hT3 := hT3.mono hI23; have hG2 := hG2.mono hI23; have hL1 := hL1.mono hI23; have hL2 := hL2.mono hI23; have hIc := hIc.trans hI23; have hD := hD.trans hI23
 have hL3 := Sl.lit ([0, 2] : List Int) rfl encI_len (show I23 b_201 = some (Obj.cells (([0, 2] : List Int).flatMap encI).toArray 3 (0, 0)) from hb23)
 refine XO_nil ?_
 refine zD hD ?_
 refine XD_takeW 11 rfl rfl rfl (dj := 199) rfl (ev_buildL (ps := [(0, _), (1, _), (2, _)]) [_, _, _, _] plt_58 rfl rfl) rfl (by kernel_rfl) (by kernel_rfl) (by kernel_rfl) noP_ok hD (by repeat (first | exact .refl | exact subL_nil | refine .keep ?_ | refine .drop ?_ | refine subL_add ?_)) ?_
 refine XD_one 12 rfl (by kernel_rfl) ?_
 refine XO_want (dj := 199) rfl rfl rfl ?_
 refine XO_buildSlice (ps := [(0, _)]) (m := [encSH ⟨2, 1, some ⟨b_201, 0, none⟩, 2, 2, none, 0, 0⟩]) elt_27 rfl (.cons rfl (.nil)) rfl (by simp [encSH_len]) (by decide) (by decide) rfl rfl (fun b_203 => ?_)
 refine XO_freeze (by repeat (first | exact Take.here | apply Take.there)) (fun I24 hI24 hb24 => ?_)
 have hC1 := hC1.mono hI24; have hP1 := hP1.mono hI24; have hR1 := hR1.mono hI24; have h5 := h5.mono hI24; have h8 := h8.mono hI24; have hG1 := hG1.mono hI24; have hK1 := hK1.mono hI24; have hC2 := hC2.mono hI24; have hP2 := hP2.mono hI24; have hP0 := hP0.mono hI24; have hPs := hPs.mono hI24; have hT1 := hT1.mono hI24
 have hT2 := hT2.mono hI24; have hH3 := hH3.mono hI24; have hF1 := hF1.mono hI24; have hT3 := hT3.mono hI24; have hG2 := hG2.mono hI24; have hL1 := hL1.mono hI24; have hL2 := hL2.mono hI24; have hL3 := hL3.mono hI24; have hIc := hIc.trans hI24; have hD := hD.trans hI24
 have hL4 := Sl.lit ([⟨2, 1, some ⟨b_201, 0, none⟩, 2, 2, none, 0, 0⟩] : List SH) rfl encSH_len (show I24 b_203 = some (Obj.cells (([⟨2, 1, some ⟨b_201, 0, none⟩, 2, 2, none, 0, 0⟩] : List SH).flatMap encSH).toArray 58 (0, 0)) from hb24)
 refine XO_nil ?_
 refine zD hD ?_
 refine XD_one 13 rfl (by kernel_rfl) ?_
 refine XO_want (dj := 199) rfl rfl rfl ?_
 refine XO_callV0 (cap := []) (vs := [_, _]) rfl rfl fun_14 (w_samS hF1.choose_spec (by decide) (by intro s hs; simp only [List.mem_singleton] at hs; subst hs; exact ⟨by decide, by decide⟩) (show SlSH I24 _ 1 1 [⟨2, 1, some ⟨b_201, 0, none⟩, 2, 2, none, 0, 0⟩] [⟨2, 1, [0, 2], []⟩] from ⟨hL4, RelS.nil.snoc ⟨rfl, rfl, hL3, Sl.nil⟩⟩)) rfl rfl ?_
 refine XO_nil ?_
 refine zD hD ?_
 refine zT 14 rfl (ev_pickb rfl rfl rfl) hD ?_
 refine zT 15 rfl (ev_move rfl) hD ?_
 refine XD_takeW 16 rfl rfl rfl (dj := 206) rfl (ev_move rfl) rfl (by kernel_rfl) (by kernel_rfl) (by kernel_rfl) noP_ok hD (by repeat (first | exact .refl | exact subL_nil | refine .keep ?_ | refine .drop ?_ | refine subL_add ?_)) ?_
 refine XD_takeW 17 rfl rfl rfl (dj := 206) rfl (ev_move rfl) rfl (by kernel_rfl) (by kernel_rfl) (by kernel_rfl) noP_ok hD (by repeat (first | exact .refl | exact subL_nil | refine .keep ?_ | refine .drop ?_ | refine subL_add ?_)) ?_
 refine XD_takeW 19 rfl rfl rfl (dj := 206) rfl (ev_move rfl) rfl (by kernel_rfl) (by kernel_rfl) (by kernel_rfl) noP_ok hD (by repeat (first | exact .refl | exact subL_nil | refine .keep ?_ | refine .drop ?_ | refine subL_add ?_)) ?_
 refine XD_takeW 21 rfl rfl rfl (dj := 206) rfl (ev_move rfl) rfl (by kernel_rfl) (by kernel_rfl) (by kernel_rfl) noP_ok hD (by repeat (first | exact .refl | exact subL_nil | refine .keep ?_ | refine .drop ?_ | refine subL_add ?_)) ?_
 refine XD_one 18 rfl (by kernel_rfl) ?_
 refine XO_want (dj := 206) rfl rfl rfl ?_
 refine XO_callV0 (cap := []) (vs := [_, _, _]) rfl rfl fun_38 (w_leafS _ _ _ _) rfl rfl ?_
 refine XO_nil ?_
 refine zD hD ?_
 refine XD_one 20 rfl (by kernel_rfl) ?_
 refine XO_want (dj := 206) rfl rfl rfl ?_
 refine XO_callV0 (cap := []) (vs := [_, _, _]) rfl rfl fun_38 (w_leafS _ _ _ _) rfl rfl ?_
 refine XO_nil ?_
 refine zD hD ?_
 refine XD_one 22 rfl (by kernel_rfl) ?_
 refine XO_want (dj := 206) rfl rfl rfl ?_
 refine XO_callV0 (cap := []) (vs := [_, _, _]) rfl rfl fun_38 (w_leafS _ _ _ _) rfl rfl ?_
 refine XO_nil ?_
 refine zD hD ?_
 refine XD_one 23 rfl (by kernel_rfl) ?_
 refine XO_want (dj := 206) rfl rfl rfl ?_
 refine XO_buildSlice (ps := [(0, _), (1, _), (2, _)]) (m := [encPH ⟨1, 1, 0, none, 0, 0⟩, encPH ⟨2, 1, 0, none, 0, 0⟩, encPH ⟨3, 1, 7, none, 0, 0⟩]) elt_35 rfl (.cons rfl (.cons rfl (.cons rfl (.nil)))) rfl (by simp [encPH_len]) (by decide) (by decide) rfl rfl (fun b_214 => ?_)
 refine XO_freeze (by repeat (first | exact Take.here | apply Take.there)) (fun I25 hI25 hb25 => ?_)
 have hC1 := hC1.mono hI25; have hP1 := hP1.mono hI25; have hR1 := hR1.mono hI25; have h5 := h5.mono hI25; have h8 := h8.mono hI25; have hG1 := hG1.mono hI25; have hK1 := hK1.mono hI25; have hC2 := hC2.mono hI25; have hP2 := hP2.mono hI25; have hP0 := hP0.mono hI25; have hPs := hPs.mono hI25; have hT1 := hT1.mono hI25
 have hT2 := hT2.mono hI25; have hH3 := hH3.mono hI25; have hF1 := hF1.mono hI25; have hT3 := hT3.mono hI25; have hG2 := hG2.mono hI25; have hL1 := hL1.mono hI25; have hL2 := hL2.mono hI25; have hL3 := hL3.mono hI25; have hL4 := hL4.mono hI25; have hIc := hIc.trans hI25; have hD := hD.trans hI25
 have hL5 := Sl.lit [(⟨1, 1, 0, none, 0, 0⟩ : PH), (⟨2, 1, 0, none, 0, 0⟩ : PH), (⟨3, 1, 7, none, 0, 0⟩ : PH)] rfl encPH_len (show I25 b_214 = some (Obj.cells ([(⟨1, 1, 0, none, 0, 0⟩ : PH), (⟨2, 1, 0, none, 0, 0⟩ : PH), (⟨3, 1, 7, none, 0, 0⟩ : PH)].flatMap encPH).toArray 45 (0, 0)) from hb25)
 refine XO_nil ?_
 refine zD hD ?_
 refine XD_one 24 rfl (by kernel_rfl) ?_
 refine XO_want (dj := 206) rfl rfl rfl ?_
 refine XO_callV0 (cap := []) (vs := [_, _]) rfl rfl fun_22 (w_samPs hK1 (prsAt_lf [⟨1, 1, 0⟩, ⟨2, 1, 0⟩, ⟨3, 1, 7⟩]) (by decide) (sml_lf [⟨1, 1, 0⟩, ⟨2, 1, 0⟩, ⟨3, 1, 7⟩]) hL5 (prsAt_lf [⟨1, 1, 0⟩, ⟨2, 1, 0⟩, ⟨3, 1, 7⟩])) rfl rfl ?_
 refine XO_nil ?_
 refine zD hD ?_
 refine zT 25 rfl (ev_pickb rfl rfl rfl) hD ?_
 refine zT 26 rfl (ev_move rfl) hD ?_
 refine XD_takeW 27 rfl rfl rfl (dj := 217) rfl (ev_loadA rfl agt_45 (fun hg => by first | exact Cells.immC (vs := encPH rh1) h5z | exact Cells.here (vs := encCH ⟨ca, 3, cc, 1, 1, 9, 2, sa, 2, sc⟩) | exact Cells.here (vs := encCH ⟨ca, 3, cc, 1, 1, 9, 1, sa, 2, sc⟩) | exact (Cells.here (vs := encCH ⟨ca, 3, cc, 1, 1, 9, 2, sa, 2, sc⟩)).there | exact Cells.immC (vs := encPH rh1) h5 | (repeat (first | exact Cells.here | exact Cells.s0 (vs := [_, _, _, _]) rfl | apply Cells.there | apply Cells.app))) rfl) rfl (by kernel_rfl) (by kernel_rfl) (by kernel_rfl) noP_ok hD (by repeat (first | exact .refl | exact subL_nil | refine .keep ?_ | refine .drop ?_ | refine subL_add ?_)) ?_
 refine XD_takeW 29 rfl rfl rfl (dj := 217) rfl (ev_move rfl) rfl (by kernel_rfl) (by kernel_rfl) (by kernel_rfl) noP_ok hD (by repeat (first | exact .refl | exact subL_nil | refine .keep ?_ | refine .drop ?_ | refine subL_add ?_)) ?_
 refine XD_two 28 30 rfl rfl (by kernel_rfl) ?_ ?_
 ·
  refine XO_want (dj := 217) rfl rfl rfl ?_
  refine XO_buildSlice (ps := [(0, _)]) (m := [encPH rh1]) elt_35 rfl (.cons rfl (.nil)) rfl (by simp [encPH_len]) (by decide) (by decide) rfl rfl (fun b_219 => ?_)
  refine XO_freeze (by repeat (first | exact Take.here | apply Take.there)) (fun I26 hI26 hb26 => ?_)
  have hC1 := hC1.mono hI26; have hP1 := hP1.mono hI26; have hR1 := hR1.mono hI26; have h5 := h5.mono hI26; have h8 := h8.mono hI26; have hG1 := hG1.mono hI26; have hK1 := hK1.mono hI26; have hC2 := hC2.mono hI26; have hP2 := hP2.mono hI26; have hP0 := hP0.mono hI26; have hPs := hPs.mono hI26; have hT1 := hT1.mono hI26
  have hT2 := hT2.mono hI26; have hH3 := hH3.mono hI26; have hF1 := hF1.mono hI26; have hT3 := hT3.mono hI26; have hG2 := hG2.mono hI26; have hL1 := hL1.mono hI26; have hL2 := hL2.mono hI26; have hL3 := hL3.mono hI26; have hL4 := hL4.mono hI26; have hL5 := hL5.mono hI26; have hIc := hIc.trans hI26; have hD := hD.trans hI26
  have hL6 := Sl.lit ([rh1] : List PH) rfl encPH_len (show I26 b_219 = some (Obj.cells (([rh1] : List PH).flatMap encPH).toArray 45 (0, 0)) from hb26)
  refine XO_nil ?_
  refine zD hD ?_
  refine XD_one 30 rfl (by kernel_rfl) ?_
  refine XO_want (dj := 217) rfl rfl rfl ?_
  refine XO_callV0 (cap := []) (vs := [_, _, _]) rfl rfl fun_38 (w_leafS _ _ _ _) rfl rfl ?_
  refine XO_nil ?_
  refine zD hD ?_
  refine XD_one 31 rfl (by kernel_rfl) ?_
  refine XO_want (dj := 217) rfl rfl rfl ?_
  refine XO_buildSlice (ps := [(0, _)]) (m := [encPH ⟨1, 0, 0, none, 0, 0⟩]) elt_35 rfl (.cons rfl (.nil)) rfl (by simp [encPH_len]) (by decide) (by decide) rfl rfl (fun b_222 => ?_)
  refine XO_freeze (by repeat (first | exact Take.here | apply Take.there)) (fun I27 hI27 hb27 => ?_)
  have hC1 := hC1.mono hI27; have hP1 := hP1.mono hI27; have hR1 := hR1.mono hI27; have h5 := h5.mono hI27; have h8 := h8.mono hI27; have hG1 := hG1.mono hI27; have hK1 := hK1.mono hI27; have hC2 := hC2.mono hI27; have hP2 := hP2.mono hI27; have hP0 := hP0.mono hI27; have hPs := hPs.mono hI27; have hT1 := hT1.mono hI27
  have hT2 := hT2.mono hI27; have hH3 := hH3.mono hI27; have hF1 := hF1.mono hI27; have hT3 := hT3.mono hI27; have hG2 := hG2.mono hI27; have hL1 := hL1.mono hI27; have hL2 := hL2.mono hI27; have hL3 := hL3.mono hI27; have hL4 := hL4.mono hI27; have hL5 := hL5.mono hI27; have hL6 := hL6.mono hI27; have hIc := hIc.trans hI27
  have hD := hD.trans hI27
  have hL7 := Sl.lit [(⟨1, 0, 0, none, 0, 0⟩ : PH)] rfl encPH_len (show I27 b_222 = some (Obj.cells ([(⟨1, 0, 0, none, 0, 0⟩ : PH)].flatMap encPH).toArray 45 (0, 0)) from hb27)
  refine XO_nil ?_
  refine zD hD ?_
  refine XD_takeW 32 rfl rfl rfl (dj := 217) rfl (ev_buildL (ps := [(3, _)]) [_, _, _, _] plt_45 rfl rfl) rfl (by kernel_rfl) (by kernel_rfl) (by kernel_rfl) noP_ok hD (by repeat (first | exact .refl | exact subL_nil | refine .keep ?_ | refine .drop ?_ | refine subL_add ?_)) ?_
  refine XD_one 33 rfl (by kernel_rfl) ?_
  refine XO_want (dj := 217) rfl rfl rfl ?_
  refine XO_buildSlice (ps := [(0, _)]) (m := [encPH ⟨0, 0, 0, some ⟨b_222, 0, none⟩, 1, 1⟩]) elt_35 rfl (.cons rfl (.nil)) rfl (by simp [encPH_len]) (by decide) (by decide) rfl rfl (fun b_224 => ?_)
  refine XO_freeze (by repeat (first | exact Take.here | apply Take.there)) (fun I28 hI28 hb28 => ?_)
  have hC1 := hC1.mono hI28; have hP1 := hP1.mono hI28; have hR1 := hR1.mono hI28; have h5 := h5.mono hI28; have h8 := h8.mono hI28; have hG1 := hG1.mono hI28; have hK1 := hK1.mono hI28; have hC2 := hC2.mono hI28; have hP2 := hP2.mono hI28; have hP0 := hP0.mono hI28; have hPs := hPs.mono hI28; have hT1 := hT1.mono hI28
  have hT2 := hT2.mono hI28; have hH3 := hH3.mono hI28; have hF1 := hF1.mono hI28; have hT3 := hT3.mono hI28; have hG2 := hG2.mono hI28; have hL1 := hL1.mono hI28; have hL2 := hL2.mono hI28; have hL3 := hL3.mono hI28; have hL4 := hL4.mono hI28; have hL5 := hL5.mono hI28; have hL6 := hL6.mono hI28; have hL7 := hL7.mono hI28
  have hIc := hIc.trans hI28; have hD := hD.trans hI28
  have hL8 := Sl.lit ([⟨0, 0, 0, some ⟨b_222, 0, none⟩, 1, 1⟩] : List PH) rfl encPH_len (show I28 b_224 = some (Obj.cells (([⟨0, 0, 0, some ⟨b_222, 0, none⟩, 1, 1⟩] : List PH).flatMap encPH).toArray 45 (0, 0)) from hb28)
  refine XO_nil ?_
  refine zD hD ?_
  refine XD_takeW 34 rfl rfl rfl (dj := 217) rfl (ev_buildL (ps := [(3, _)]) [_, _, _, _] plt_45 rfl rfl) rfl (by kernel_rfl) (by kernel_rfl) (by kernel_rfl) noP_ok hD (by repeat (first | exact .refl | exact subL_nil | refine .keep ?_ | refine .drop ?_ | refine subL_add ?_)) ?_
  refine XD_one 35 rfl (by kernel_rfl) ?_
  refine XO_want (dj := 217) rfl rfl rfl ?_
  refine XO_buildSlice (ps := [(0, _)]) (m := [encPH ⟨0, 0, 0, some ⟨b_224, 0, none⟩, 1, 1⟩]) elt_35 rfl (.cons rfl (.nil)) rfl (by simp [encPH_len]) (by decide) (by decide) rfl rfl (fun b_226 => ?_)
  refine XO_freeze (by repeat (first | exact Take.here | apply Take.there)) (fun I29 hI29 hb29 => ?_)
  have hC1 := hC1.mono hI29; have hP1 := hP1.mono hI29; have hR1 := hR1.mono hI29; have h5 := h5.mono hI29; have h8 := h8.mono hI29; have hG1 := hG1.mono hI29; have hK1 := hK1.mono hI29; have hC2 := hC2.mono hI29; have hP2 := hP2.mono hI29; have hP0 := hP0.mono hI29; have hPs := hPs.mono hI29; have hT1 := hT1.mono hI29
  have hT2 := hT2.mono hI29; have hH3 := hH3.mono hI29; have hF1 := hF1.mono hI29; have hT3 := hT3.mono hI29; have hG2 := hG2.mono hI29; have hL1 := hL1.mono hI29; have hL2 := hL2.mono hI29; have hL3 := hL3.mono hI29; have hL4 := hL4.mono hI29; have hL5 := hL5.mono hI29; have hL6 := hL6.mono hI29; have hL7 := hL7.mono hI29
  have hL8 := hL8.mono hI29; have hIc := hIc.trans hI29; have hD := hD.trans hI29
  have hL9 := Sl.lit ([⟨0, 0, 0, some ⟨b_224, 0, none⟩, 1, 1⟩] : List PH) rfl encPH_len (show I29 b_226 = some (Obj.cells (([⟨0, 0, 0, some ⟨b_224, 0, none⟩, 1, 1⟩] : List PH).flatMap encPH).toArray 45 (0, 0)) from hb29)
  refine XO_nil ?_
  refine zD hD ?_
  refine XD_one 36 rfl (by kernel_rfl) ?_
  refine XO_want (dj := 217) rfl rfl rfl ?_
  refine XO_callV0 (cap := []) (vs := [_, _]) rfl rfl fun_22 (w_samPs hL6 (xs := [prfP]) ⟨hR1, trivial⟩ (by simp) (by intro q hq; simp only [List.mem_singleton] at hq; subst hq; exact f_sm) hL9 (ys := [prfP]) ⟨PrAt.node hL8 ⟨PrAt.node hL7 ⟨PrAt.node Sl.nil PrsAt.nil, trivial⟩, trivial⟩, trivial⟩) rfl rfl ?_
  refine XO_nil ?_
  refine zD hD ?_
  refine zT 37 rfl (ev_pickb rfl rfl rfl) hD ?_
  refine zT 38 rfl (ev_assign rfl) hD ?_
  refine XD_done (by kernel_rfl) ?_
  refine at_noP ?_
  refine at_then ?_
  refine X_ret ?_
  exact at_ret1 rfl rfl (fun w hw => ⟨by rw [f_sp]; rfl, (hw.mono hIc).drop⟩)
 refine XO_want (dj := 217) rfl rfl rfl ?_
 refine XO_callV0 (cap := []) (vs := [_, _, _]) rfl rfl fun_38 (w_leafS _ _ _ _) rfl rfl ?_
 refine XO_nil ?_
 refine zD hD ?_
 refine XD_two 28 31 rfl rfl (by kernel_rfl) ?_ ?_
 ·
  refine XO_want (dj := 217) rfl rfl rfl ?_
  refine XO_buildSlice (ps := [(0, _)]) (m := [encPH rh1]) elt_35 rfl (.cons rfl (.nil)) rfl (by simp [encPH_len]) (by decide) (by decide) rfl rfl (fun b_219 => ?_)
  refine XO_freeze (by repeat (first | exact Take.here | apply Take.there)) (fun I30 hI30 hb30 => ?_)
  have hC1 := hC1.mono hI30; have hP1 := hP1.mono hI30; have hR1 := hR1.mono hI30; have h5 := h5.mono hI30; have h8 := h8.mono hI30; have hG1 := hG1.mono hI30; have hK1 := hK1.mono hI30; have hC2 := hC2.mono hI30; have hP2 := hP2.mono hI30; have hP0 := hP0.mono hI30; have hPs := hPs.mono hI30; have hT1 := hT1.mono hI30
  have hT2 := hT2.mono hI30; have hH3 := hH3.mono hI30; have hF1 := hF1.mono hI30; have hT3 := hT3.mono hI30; have hG2 := hG2.mono hI30; have hL1 := hL1.mono hI30; have hL2 := hL2.mono hI30; have hL3 := hL3.mono hI30; have hL4 := hL4.mono hI30; have hL5 := hL5.mono hI30; have hIc := hIc.trans hI30; have hD := hD.trans hI30
  have hL6 := Sl.lit ([rh1] : List PH) rfl encPH_len (show I30 b_219 = some (Obj.cells (([rh1] : List PH).flatMap encPH).toArray 45 (0, 0)) from hb30)
  refine XO_nil ?_
  refine zD hD ?_
  refine XD_one 31 rfl (by kernel_rfl) ?_
  refine XO_want (dj := 217) rfl rfl rfl ?_
  refine XO_buildSlice (ps := [(0, _)]) (m := [encPH ⟨1, 0, 0, none, 0, 0⟩]) elt_35 rfl (.cons rfl (.nil)) rfl (by simp [encPH_len]) (by decide) (by decide) rfl rfl (fun b_222 => ?_)
  refine XO_freeze (by repeat (first | exact Take.here | apply Take.there)) (fun I31 hI31 hb31 => ?_)
  have hC1 := hC1.mono hI31; have hP1 := hP1.mono hI31; have hR1 := hR1.mono hI31; have h5 := h5.mono hI31; have h8 := h8.mono hI31; have hG1 := hG1.mono hI31; have hK1 := hK1.mono hI31; have hC2 := hC2.mono hI31; have hP2 := hP2.mono hI31; have hP0 := hP0.mono hI31; have hPs := hPs.mono hI31; have hT1 := hT1.mono hI31
  have hT2 := hT2.mono hI31; have hH3 := hH3.mono hI31; have hF1 := hF1.mono hI31; have hT3 := hT3.mono hI31; have hG2 := hG2.mono hI31; have hL1 := hL1.mono hI31; have hL2 := hL2.mono hI31; have hL3 := hL3.mono hI31; have hL4 := hL4.mono hI31; have hL5 := hL5.mono hI31; have hL6 := hL6.mono hI31; have hIc := hIc.trans hI31
  have hD := hD.trans hI31
  have hL7 := Sl.lit [(⟨1, 0, 0, none, 0, 0⟩ : PH)] rfl encPH_len (show I31 b_222 = some (Obj.cells ([(⟨1, 0, 0, none, 0, 0⟩ : PH)].flatMap encPH).toArray 45 (0, 0)) from hb31)
  refine XO_nil ?_
  refine zD hD ?_
  refine XD_takeW 32 rfl rfl rfl (dj := 217) rfl (ev_buildL (ps := [(3, _)]) [_, _, _, _] plt_45 rfl rfl) rfl (by kernel_rfl) (by kernel_rfl) (by kernel_rfl) noP_ok hD (by repeat (first | exact .refl | exact subL_nil | refine .keep ?_ | refine .drop ?_ | refine subL_add ?_)) ?_
  refine XD_one 33 rfl (by kernel_rfl) ?_
  refine XO_want (dj := 217) rfl rfl rfl ?_
  refine XO_buildSlice (ps := [(0, _)]) (m := [encPH ⟨0, 0, 0, some ⟨b_222, 0, none⟩, 1, 1⟩]) elt_35 rfl (.cons rfl (.nil)) rfl (by simp [encPH_len]) (by decide) (by decide) rfl rfl (fun b_224 => ?_)
  refine XO_freeze (by repeat (first | exact Take.here | apply Take.there)) (fun I32 hI32 hb32 => ?_)
  have hC1 := hC1.mono hI32; have hP1 := hP1.mono hI32; have hR1 := hR1.mono hI32; have h5 := h5.mono hI32; have h8 := h8.mono hI32; have hG1 := hG1.mono hI32; have hK1 := hK1.mono hI32; have hC2 := hC2.mono hI32; have hP2 := hP2.mono hI32; have hP0 := hP0.mono hI32; have hPs := hPs.mono hI32; have hT1 := hT1.mono hI32
  have hT2 := hT2.mono hI32; have hH3 := hH3.mono hI32; have hF1 := hF1.mono hI32; have hT3 := hT3.mono hI32; have hG2 := hG2.mono hI32; have hL1 := hL1.mono hI32; have hL2 := hL2.mono hI32; have hL3 := hL3.mono hI32; have hL4 := hL4.mono hI32; have hL5 := hL5.mono hI32; have hL6 := hL6.mono hI32; have hL7 := hL7.mono hI32
  have hIc := hIc.trans hI32; have hD := hD.trans hI32
  have hL8 := Sl.lit ([⟨0, 0, 0, some ⟨b_222, 0, none⟩, 1, 1⟩] : List PH) rfl encPH_len (show I32 b_224 = some (Obj.cells (([⟨0, 0, 0, some ⟨b_222, 0, none⟩, 1, 1⟩] : List PH).flatMap encPH).toArray 45 (0, 0)) from hb32)
  refine XO_nil ?_
  refine zD hD ?_
  refine XD_takeW 34 rfl rfl rfl (dj := 217) rfl (ev_buildL (ps := [(3, _)]) [_, _, _, _] plt_45 rfl rfl) rfl (by kernel_rfl) (by kernel_rfl) (by kernel_rfl) noP_ok hD (by repeat (first | exact .refl | exact subL_nil | refine .keep ?_ | refine .drop ?_ | refine subL_add ?_)) ?_
  refine XD_one 35 rfl (by kernel_rfl) ?_
  refine XO_want (dj := 217) rfl rfl rfl ?_
  refine XO_buildSlice (ps := [(0, _)]) (m := [encPH ⟨0, 0, 0, some ⟨b_224, 0, none⟩, 1, 1⟩]) elt_35 rfl (.cons rfl (.nil)) rfl (by simp [encPH_len]) (by decide) (by decide) rfl rfl (fun b_226 => ?_)
  refine XO_freeze (by repeat (first | exact Take.here | apply Take.there)) (fun I33 hI33 hb33 => ?_)
  have hC1 := hC1.mono hI33; have hP1 := hP1.mono hI33; have hR1 := hR1.mono hI33; have h5 := h5.mono hI33; have h8 := h8.mono hI33; have hG1 := hG1.mono hI33; have hK1 := hK1.mono hI33; have hC2 := hC2.mono hI33; have hP2 := hP2.mono hI33; have hP0 := hP0.mono hI33; have hPs := hPs.mono hI33; have hT1 := hT1.mono hI33
  have hT2 := hT2.mono hI33; have hH3 := hH3.mono hI33; have hF1 := hF1.mono hI33; have hT3 := hT3.mono hI33; have hG2 := hG2.mono hI33; have hL1 := hL1.mono hI33; have hL2 := hL2.mono hI33; have hL3 := hL3.mono hI33; have hL4 := hL4.mono hI33; have hL5 := hL5.mono hI33; have hL6 := hL6.mono hI33; have hL7 := hL7.mono hI33
  have hL8 := hL8.mono hI33; have hIc := hIc.trans hI33; have hD := hD.trans hI33
  have hL9 := Sl.lit ([⟨0, 0, 0, some ⟨b_224, 0, none⟩, 1, 1⟩] : List PH) rfl encPH_len (show I33 b_226 = some (Obj.cells (([⟨0, 0, 0, some ⟨b_224, 0, none⟩, 1, 1⟩] : List PH).flatMap encPH).toArray 45 (0, 0)) from hb33)
  refine XO_nil ?_
  refine zD hD ?_
  refine XD_one 36 rfl (by kernel_rfl) ?_
  refine XO_want (dj := 217) rfl rfl rfl ?_
  refine XO_callV0 (cap := []) (vs := [_, _]) rfl rfl fun_22 (w_samPs hL6 (xs := [prfP]) ⟨hR1, trivial⟩ (by simp) (by intro q hq; simp only [List.mem_singleton] at hq; subst hq; exact f_sm) hL9 (ys := [prfP]) ⟨PrAt.node hL8 ⟨PrAt.node hL7 ⟨PrAt.node Sl.nil PrsAt.nil, trivial⟩, trivial⟩, trivial⟩) rfl rfl ?_
  refine XO_nil ?_
  refine zD hD ?_
  refine zT 37 rfl (ev_pickb rfl rfl rfl) hD ?_
  refine zT 38 rfl (ev_assign rfl) hD ?_
  refine XD_done (by kernel_rfl) ?_
  refine at_noP ?_
  refine at_then ?_
  refine X_ret ?_
  exact at_ret1 rfl rfl (fun w hw => ⟨by rw [f_sp]; rfl, (hw.mono hIc).drop⟩)
 refine XO_want (dj := 217) rfl rfl rfl ?_
 refine XO_buildSlice (ps := [(0, _)]) (m := [encPH ⟨1, 0, 0, none, 0, 0⟩]) elt_35 rfl (.cons rfl (.nil)) rfl (by simp [encPH_len]) (by decide) (by decide) rfl rfl (fun b_222 => ?_)
 refine XO_freeze (by repeat (first | exact Take.here | apply Take.there)) (fun I34 hI34 hb34 => ?_)
 have hC1 := hC1.mono hI34; have hP1 := hP1.mono hI34; have hR1 := hR1.mono hI34; have h5 := h5.mono hI34; have h8 := h8.mono hI34; have hG1 := hG1.mono hI34; have hK1 := hK1.mono hI34; have hC2 := hC2.mono hI34; have hP2 := hP2.mono hI34; have hP0 := hP0.mono hI34; have hPs := hPs.mono hI34; have hT1 := hT1.mono hI34
 have hT2 := hT2.mono hI34; have hH3 := hH3.mono hI34; have hF1 := hF1.mono hI34; have hT3 := hT3.mono hI34; have hG2 := hG2.mono hI34; have hL1 := hL1.mono hI34; have hL2 := hL2.mono hI34; have hL3 := hL3.mono hI34; have hL4 := hL4.mono hI34; have hL5 := hL5.mono hI34; have hIc := hIc.trans hI34; have hD := hD.trans hI34
 have hL7 := Sl.lit [(⟨1, 0, 0, none, 0, 0⟩ : PH)] rfl encPH_len (show I34 b_222 = some (Obj.cells ([(⟨1, 0, 0, none, 0, 0⟩ : PH)].flatMap encPH).toArray 45 (0, 0)) from hb34)
 refine XO_nil ?_
 refine zD hD ?_
 refine XD_takeW 32 rfl rfl rfl (dj := 217) rfl (ev_buildL (ps := [(3, _)]) [_, _, _, _] plt_45 rfl rfl) rfl (by kernel_rfl) (by kernel_rfl) (by kernel_rfl) noP_ok hD (by repeat (first | exact .refl | exact subL_nil | refine .keep ?_ | refine .drop ?_ | refine subL_add ?_)) ?_
 refine XD_two 28 33 rfl rfl (by kernel_rfl) ?_ ?_
 ·
  refine XO_want (dj := 217) rfl rfl rfl ?_
  refine XO_buildSlice (ps := [(0, _)]) (m := [encPH rh1]) elt_35 rfl (.cons rfl (.nil)) rfl (by simp [encPH_len]) (by decide) (by decide) rfl rfl (fun b_219 => ?_)
  refine XO_freeze (by repeat (first | exact Take.here | apply Take.there)) (fun I35 hI35 hb35 => ?_)
  have hC1 := hC1.mono hI35; have hP1 := hP1.mono hI35; have hR1 := hR1.mono hI35; have h5 := h5.mono hI35; have h8 := h8.mono hI35; have hG1 := hG1.mono hI35; have hK1 := hK1.mono hI35; have hC2 := hC2.mono hI35; have hP2 := hP2.mono hI35; have hP0 := hP0.mono hI35; have hPs := hPs.mono hI35; have hT1 := hT1.mono hI35
  have hT2 := hT2.mono hI35; have hH3 := hH3.mono hI35; have hF1 := hF1.mono hI35; have hT3 := hT3.mono hI35; have hG2 := hG2.mono hI35; have hL1 := hL1.mono hI35; have hL2 := hL2.mono hI35; have hL3 := hL3.mono hI35; have hL4 := hL4.mono hI35; have hL5 := hL5.mono hI35; have hL7 := hL7.mono hI35; have hIc := hIc.trans hI35
  have hD := hD.trans hI35
  have hL6 := Sl.lit ([rh1] : List PH) rfl encPH_len (show I35 b_219 = some (Obj.cells (([rh1] : List PH).flatMap encPH).toArray 45 (0, 0)) from hb35)
  refine XO_nil ?_
  refine zD hD ?_
  refine XD_one 33 rfl (by kernel_rfl) ?_
  refine XO_want (dj := 217) rfl rfl rfl ?_
  refine XO_buildSlice (ps := [(0, _)]) (m := [encPH ⟨0, 0, 0, some ⟨b_222, 0, none⟩, 1, 1⟩]) elt_35 rfl (.cons rfl (.nil)) rfl (by simp [encPH_len]) (by decide) (by decide) rfl rfl (fun b_224 => ?_)
  refine XO_freeze (by repeat (first | exact Take.here | apply Take.there)) (fun I36 hI36 hb36 => ?_)
  have hC1 := hC1.mono hI36; have hP1 := hP1.mono hI36; have hR1 := hR1.mono hI36; have h5 := h5.mono hI36; have h8 := h8.mono hI36; have hG1 := hG1.mono hI36; have hK1 := hK1.mono hI36; have hC2 := hC2.mono hI36; have hP2 := hP2.mono hI36; have hP0 := hP0.mono hI36; have hPs := hPs.mono hI36; have hT1 := hT1.mono hI36
  have hT2 := hT2.mono hI36; have hH3 := hH3.mono hI36; have hF1 := hF1.mono hI36; have hT3 := hT3.mono hI36; have hG2 := hG2.mono hI36; have hL1 := hL1.mono hI36; have hL2 := hL2.mono hI36; have hL3 := hL3.mono hI36; have hL4 := hL4.mono hI36; have hL5 := hL5.mono hI36; have hL7 := hL7.mono hI36; have hL6 := hL6.mono hI36
  have hIc := hIc.trans hI36; have hD := hD.trans hI36
  have hL8 := Sl.lit ([⟨0, 0, 0, some ⟨b_222, 0, none⟩, 1, 1⟩] : List PH) rfl encPH_len (show I36 b_224 = some (Obj.cells (([⟨0, 0, 0, some ⟨b_222, 0, none⟩, 1, 1⟩] : List PH).flatMap encPH).toArray 45 (0, 0)) from hb36)
  refine XO_nil ?_
  refine zD hD ?_
  refine XD_takeW 34 rfl rfl rfl (dj := 217) rfl (ev_buildL (ps := [(3, _)]) [_, _, _, _] plt_45 rfl rfl) rfl (by kernel_rfl) (by kernel_rfl) (by kernel_rfl) noP_ok hD (by repeat (first | exact .refl | exact subL_nil | refine .keep ?_ | refine .drop ?_ | refine subL_add ?_)) ?_
  refine XD_one 35 rfl (by kernel_rfl) ?_
  refine XO_want (dj := 217) rfl rfl rfl ?_
  refine XO_buildSlice (ps := [(0, _)]) (m := [encPH ⟨0, 0, 0, some ⟨b_224, 0, none⟩, 1, 1⟩]) elt_35 rfl (.cons rfl (.nil)) rfl (by simp [encPH_len]) (by decide) (by decide) rfl rfl (fun b_226 => ?_)
  refine XO_freeze (by repeat (first | exact Take.here | apply Take.there)) (fun I37 hI37 hb37 => ?_)
  have hC1 := hC1.mono hI37; have hP1 := hP1.mono hI37; have hR1 := hR1.mono hI37; have h5 := h5.mono hI37; have h8 := h8.mono hI37; have hG1 := hG1.mono hI37; have hK1 := hK1.mono hI37; have hC2 := hC2.mono hI37; have hP2 := hP2.mono hI37; have hP0 := hP0.mono hI37; have hPs := hPs.mono hI37; have hT1 := hT1.mono hI37
  have hT2 := hT2.mono hI37; have hH3 := hH3.mono hI37; have hF1 := hF1.mono hI37; have hT3 := hT3.mono hI37; have hG2 := hG2.mono hI37; have hL1 := hL1.mono hI37; have hL2 := hL2.mono hI37; have hL3 := hL3.mono hI37; have hL4 := hL4.mono hI37; have hL5 := hL5.mono hI37; have hL7 := hL7.mono hI37; have hL6 := hL6.mono hI37
  have hL8 := hL8.mono hI37; have hIc := hIc.trans hI37; have hD := hD.trans hI37
  have hL9 := Sl.lit ([⟨0, 0, 0, some ⟨b_224, 0, none⟩, 1, 1⟩] : List PH) rfl encPH_len (show I37 b_226 = some (Obj.cells (([⟨0, 0, 0, some ⟨b_224, 0, none⟩, 1, 1⟩] : List PH).flatMap encPH).toArray 45 (0, 0)) from hb37)
  refine XO_nil ?_
  refine zD hD ?_
  refine XD_one 36 rfl (by kernel_rfl) ?_
  refine XO_want (dj := 217) rfl rfl rfl ?_
  refine XO_callV0 (cap := []) (vs := [_, _]) rfl rfl fun_22 (w_samPs hL6 (xs := [prfP]) ⟨hR1, trivial⟩ (by simp) (by intro q hq; simp only [List.mem_singleton] at hq; subst hq; exact f_sm) hL9 (ys := [prfP]) ⟨PrAt.node hL8 ⟨PrAt.node hL7 ⟨PrAt.node Sl.nil PrsAt.nil, trivial⟩, trivial⟩, trivial⟩) rfl rfl ?_
  refine XO_nil ?_
  refine zD hD ?_
  refine zT 37 rfl (ev_pickb rfl rfl rfl) hD ?_
  refine zT 38 rfl (ev_assign rfl) hD ?_
  refine XD_done (by kernel_rfl) ?_
  refine at_noP ?_
  refine at_then ?_
  refine X_ret ?_
  exact at_ret1 rfl rfl (fun w hw => ⟨by rw [f_sp]; rfl, (hw.mono hIc).drop⟩)
 refine XO_want (dj := 217) rfl rfl rfl ?_
 refine XO_buildSlice (ps := [(0, _)]) (m := [encPH ⟨0, 0, 0, some ⟨b_222, 0, none⟩, 1, 1⟩]) elt_35 rfl (.cons rfl (.nil)) rfl (by simp [encPH_len]) (by decide) (by decide) rfl rfl (fun b_224 => ?_)
 refine XO_freeze (by repeat (first | exact Take.here | apply Take.there)) (fun I38 hI38 hb38 => ?_)
 have hC1 := hC1.mono hI38; have hP1 := hP1.mono hI38; have hR1 := hR1.mono hI38; have h5 := h5.mono hI38; have h8 := h8.mono hI38; have hG1 := hG1.mono hI38; have hK1 := hK1.mono hI38; have hC2 := hC2.mono hI38; have hP2 := hP2.mono hI38; have hP0 := hP0.mono hI38; have hPs := hPs.mono hI38; have hT1 := hT1.mono hI38
 have hT2 := hT2.mono hI38; have hH3 := hH3.mono hI38; have hF1 := hF1.mono hI38; have hT3 := hT3.mono hI38; have hG2 := hG2.mono hI38; have hL1 := hL1.mono hI38; have hL2 := hL2.mono hI38; have hL3 := hL3.mono hI38; have hL4 := hL4.mono hI38; have hL5 := hL5.mono hI38; have hL7 := hL7.mono hI38; have hIc := hIc.trans hI38
 have hD := hD.trans hI38
 have hL8 := Sl.lit ([⟨0, 0, 0, some ⟨b_222, 0, none⟩, 1, 1⟩] : List PH) rfl encPH_len (show I38 b_224 = some (Obj.cells (([⟨0, 0, 0, some ⟨b_222, 0, none⟩, 1, 1⟩] : List PH).flatMap encPH).toArray 45 (0, 0)) from hb38)
 refine XO_nil ?_
 refine zD hD ?_
 refine XD_takeW 34 rfl rfl rfl (dj := 217) rfl (ev_buildL (ps := [(3, _)]) [_, _, _, _] plt_45 rfl rfl) rfl (by kernel_rfl) (by kernel_rfl) (by kernel_rfl) noP_ok hD (by repeat (first | exact .refl | exact subL_nil | refine .keep ?_ | refine .drop ?_ | refine subL_add ?_)) ?_
 refine XD_two 28 35 rfl rfl (by kernel_rfl) ?_ ?_
 ·
  refine XO_want (dj := 217) rfl rfl rfl ?_
  refine XO_buildSlice (ps := [(0, _)]) (m := [encPH rh1]) elt_35 rfl (.cons rfl (.nil)) rfl (by simp [encPH_len]) (by decide) (by decide) rfl rfl (fun b_219 => ?_)
  refine XO_freeze (by repeat (first | exact Take.here | apply Take.there)) (fun I39 hI39 hb39 => ?_)
  have hC1 := hC1.mono hI39; have hP1 := hP1.mono hI39; have hR1 := hR1.mono hI39; have h5 := h5.mono hI39; have h8 := h8.mono hI39; have hG1 := hG1.mono hI39; have hK1 := hK1.mono hI39; have hC2 := hC2.mono hI39; have hP2 := hP2.mono hI39; have hP0 := hP0.mono hI39; have hPs := hPs.mono hI39; have hT1 := hT1.mono hI39
  have hT2 := hT2.mono hI39; have hH3 := hH3.mono hI39; have hF1 := hF1.mono hI39; have hT3 := hT3.mono hI39; have hG2 := hG2.mono hI39; have hL1 := hL1.mono hI39; have hL2 := hL2.mono hI39; have hL3 := hL3.mono hI39; have hL4 := hL4.mono hI39; have hL5 := hL5.mono hI39; have hL7 := hL7.mono hI39; have hL8 := hL8.mono hI39
  have hIc := hIc.trans hI39; have hD := hD.trans hI39
  have hL6 := Sl.lit ([rh1] : List PH) rfl encPH_len (show I39 b_219 = some (Obj.cells (([rh1] : List PH).flatMap encPH).toArray 45 (0, 0)) from hb39)
  refine XO_nil ?_
  refine zD hD ?_
  refine XD_one 35 rfl (by kernel_rfl) ?_
  refine XO_want (dj := 217) rfl rfl rfl ?_
  refine XO_buildSlice (ps := [(0, _)]) (m := [encPH ⟨0, 0, 0, some ⟨b_224, 0, none⟩, 1, 1⟩]) elt_35 rfl (.cons rfl (.nil)) rfl (by simp [encPH_len]) (by decide) (by decide) rfl rfl (fun b_226 => ?_)
  refine XO_freeze (by repeat (first | exact Take.here | apply Take.there)) (fun I40 hI40 hb40 => ?_)
  have hC1 := hC1.mono hI40; have hP1 := hP1.mono hI40; have hR1 := hR1.mono hI40; have h5 := h5.mono hI40; have h8 := h8.mono hI40; have hG1 := hG1.mono hI40; have hK1 := hK1.mono hI40; have hC2 := hC2.mono hI40; have hP2 := hP2.mono hI40; have hP0 := hP0.mono hI40; have hPs := hPs.mono hI40; have hT1 := hT1.mono hI40
  have hT2 := hT2.mono hI40; have hH3 := hH3.mono hI40; have hF1 := hF1.mono hI40; have hT3 := hT3.mono hI40; have hG2 := hG2.mono hI40; have hL1 := hL1.mono hI40; have hL2 := hL2.mono hI40; have hL3 := hL3.mono hI40; have hL4 := hL4.mono hI40; have hL5 := hL5.mono hI40; have hL7 := hL7.mono hI40; have hL8 := hL8.mono hI40
  have hL6 := hL6.mono hI40; have hIc := hIc.trans hI40; have hD := hD.trans hI40
  have hL9 := Sl.lit ([⟨0, 0, 0, some ⟨b_224, 0, none⟩, 1, 1⟩] : List PH) rfl encPH_len (show I40 b_226 = some (Obj.cells (([⟨0, 0, 0, some ⟨b_224, 0, none⟩, 1, 1⟩] : List PH).flatMap encPH).toArray 45 (0, 0)) from hb40)
  refine XO_nil ?_
  refine zD hD ?_
  refine XD_one 36 rfl (by kernel_rfl) ?_
  refine XO_want (dj := 217) rfl rfl rfl ?_
  refine XO_callV0 (cap := []) (vs := [_, _]) rfl rfl fun_22 (w_samPs hL6 (xs := [prfP]) ⟨hR1, trivial⟩ (by simp) (by intro q hq; simp only [List.mem_singleton] at hq; subst hq; exact f_sm) hL9 (ys := [prfP]) ⟨PrAt.node hL8 ⟨PrAt.node hL7 ⟨PrAt.node Sl.nil PrsAt.nil, trivial⟩, trivial⟩, trivial⟩) rfl rfl ?_
  refine XO_nil ?_
  refine zD hD ?_
  refine zT 37 rfl (ev_pickb rfl rfl rfl) hD ?_
  refine zT 38 rfl (ev_assign rfl) hD ?_
  refine XD_done (by kernel_rfl) ?_
  refine at_noP ?_
  refine at_then ?_
  refine X_ret ?_
  exact at_ret1 rfl rfl (fun w hw => ⟨by rw [f_sp]; rfl, (hw.mono hIc).drop⟩)
 refine XO_want (dj := 217) rfl rfl rfl ?_
 refine XO_buildSlice (ps := [(0, _)]) (m := [encPH ⟨0, 0, 0, some ⟨b_224, 0, none⟩, 1, 1⟩]) elt_35 rfl (.cons rfl (.nil)) rfl (by simp [encPH_len]) (by decide) (by decide) rfl rfl (fun b_226 => ?_)
 refine XO_freeze (by repeat (first | exact Take.here | apply Take.there)) (fun I41 hI41 hb41 => ?_)
 have hC1 := hC1.mono hI41; have hP1 := hP1.mono hI41; have hR1 := hR1.mono hI41; have h5 := h5.mono hI41; have h8 := h8.mono hI41; have hG1 := hG1.mono hI41; have hK1 := hK1.mono hI41; have hC2 := hC2.mono hI41; have hP2 := hP2.mono hI41; have hP0 := hP0.mono hI41; have hPs := hPs.mono hI41; have hT1 := hT1.mono hI41
 have hT2 := hT2.mono hI41; have hH3 := hH3.mono hI41; have hF1 := hF1.mono hI41; have hT3 := hT3.mono hI41; have hG2 := hG2.mono hI41; have hL1 := hL1.mono hI41; have hL2 := hL2.mono hI41; have hL3 := hL3.mono hI41; have hL4 := hL4.mono hI41; have hL5 := hL5.mono hI41; have hL7 := hL7.mono hI41; have hL8 := hL8.mono hI41
 have hIc := hIc.trans hI41; have hD := hD.trans hI41
 have hL9 := Sl.lit ([⟨0, 0, 0, some ⟨b_224, 0, none⟩, 1, 1⟩] : List PH) rfl encPH_len (show I41 b_226 = some (Obj.cells (([⟨0, 0, 0, some ⟨b_224, 0, none⟩, 1, 1⟩] : List PH).flatMap encPH).toArray 45 (0, 0)) from hb41)
 refine XO_nil ?_
 refine zD hD ?_
 refine XD_one 28 rfl (by kernel_rfl) ?_
 refine XO_want (dj := 217) rfl rfl rfl ?_
 refine XO_buildSlice (ps := [(0, _)]) (m := [encPH rh1]) elt_35 rfl (.cons rfl (.nil)) rfl (by simp [encPH_len]) (by decide) (by decide) rfl rfl (fun b_219 => ?_)
 refine XO_freeze (by repeat (first | exact Take.here | apply Take.there)) (fun I42 hI42 hb42 => ?_)
 have hC1 := hC1.mono hI42; have hP1 := hP1.mono hI42; have hR1 := hR1.mono hI42; have h5 := h5.mono hI42; have h8 := h8.mono hI42; have hG1 := hG1.mono hI42; have hK1 := hK1.mono hI42; have hC2 := hC2.mono hI42; have hP2 := hP2.mono hI42; have hP0 := hP0.mono hI42; have hPs := hPs.mono hI42; have hT1 := hT1.mono hI42
 have hT2 := hT2.mono hI42; have hH3 := hH3.mono hI42; have hF1 := hF1.mono hI42; have hT3 := hT3.mono hI42; have hG2 := hG2.mono hI42; have hL1 := hL1.mono hI42; have hL2 := hL2.mono hI42; have hL3 := hL3.mono hI42; have hL4 := hL4.mono hI42; have hL5 := hL5.mono hI42; have hL7 := hL7.mono hI42; have hL8 := hL8.mono hI42
 have hL9 := hL9.mono hI42; have hIc := hIc.trans hI42; have hD := hD.trans hI42
 have hL6 := Sl.lit ([rh1] : List PH) rfl encPH_len (show I42 b_219 = some (Obj.cells (([rh1] : List PH).flatMap encPH).toArray 45 (0, 0)) from hb42)
 refine XO_nil ?_
 refine zD hD ?_
 refine XD_one 36 rfl (by kernel_rfl) ?_
 refine XO_want (dj := 217) rfl rfl rfl ?_
 refine XO_callV0 (cap := []) (vs := [_, _]) rfl rfl fun_22 (w_samPs hL6 (xs := [prfP]) ⟨hR1, trivial⟩ (by simp) (by intro q hq; simp only [List.mem_singleton] at hq; subst hq; exact f_sm) hL9 (ys := [prfP]) ⟨PrAt.node hL8 ⟨PrAt.node hL7 ⟨PrAt.node Sl.nil PrsAt.nil, trivial⟩, trivial⟩, trivial⟩) rfl rfl ?_
 refine XO_nil ?_
 refine zD hD ?_
 refine zT 37 rfl (ev_pickb rfl rfl rfl) hD ?_
 refine zT 38 rfl (ev_assign rfl) hD ?_
 refine XD_done (by kernel_rfl) ?_
 refine at_noP ?_
 refine at_then ?_
 refine X_ret ?_
 exact at_ret1 rfl rfl (fun w hw => ⟨by rw [f_sp]; rfl, (hw.mono hIc).drop⟩)
end Go.Proofs.YtehkiccapbkhnaaGreat
end
section
namespace Go.Proofs.YtehkiccapbkhnaaGreat
open Go Go.Kn Go.Proofs
theorem fun_15 : Fun Tryz.prog 15 := .of Tryz.func15 (by kernel_rfl) (by kernel_rfl)
theorem fun_21 : Fun Tryz.prog 21 := .of Tryz.func21 (by kernel_rfl) (by kernel_rfl)
theorem w_right40 {I : HMap} {x : CH} {cr : Cr} (hC : CrAt I x cr) : RetV Tryz.prog 29 [encCHA x] I (.bool (fewC cr && decide (chkC cr = 0))) := by
 intro g H w hw
 refine enter Tryz.func29 rfl Tryz.ntmps29 rfl hw ?_
 have hIc := HLe.refl I
 refine zR ?_
 refine XO_box rfl rfl rfl (fun b_1 => ?_)
 refine zA ?_
 refine zN ?_
 refine X_seq ?_
 refine X_freeze .here (fun I1 hI1 hb1 => ?_)
 have hC := hC.mono hI1; have hIc := hIc.trans hI1
 have h1 := ImmC.of hb1
 refine X_region ?_
 refine XO_v0 (ev_loadA rfl agt_33 (fun hg => by first | exact Cells.immC h1 | (repeat (first | exact Cells.here | exact Cells.s0 (vs := [_, _, _, _, _, _]) rfl | apply Cells.there | apply Cells.app))) rfl) rfl rfl rfl ?_
 refine XO_callV0 (cap := []) (vs := [_]) rfl rfl fun_15 (w_rFew hC) rfl rfl ?_
 refine zM ?_
 refine XO_pushT 2 rfl rfl rfl ?_
 refine XO_v1 (ev_loadA rfl agt_33 (fun hg => by first | exact Cells.immC h1 | (repeat (first | exact Cells.here | exact Cells.s0 (vs := [_, _, _, _, _, _]) rfl | apply Cells.there | apply Cells.app))) rfl) (.some rfl rfl rfl rfl gbt) rfl rfl rfl ?_
 refine XO_callV1 (cap := []) (vs := [_]) rfl rfl fun_21 (fun hg => w_rChk hC (fun s hs => Nat.le_trans ((few_bd (by simpa [conj] using hg)).2.2 s hs).2 (by decide)) (fun s hs => Nat.le_trans ((few_bd (by simpa [conj] using hg)).2.2 s hs).1 (by decide))) (.some rfl rfl rfl rfl gbt) rfl rfl ?_
 refine XO_v1 (ev_cmp rfl rfl rfl) (.some rfl rfl rfl rfl gbt) rfl rfl rfl ?_
 refine XO_and0 rfl rfl rfl rfl rfl ?_
 refine zA ?_
 refine zN ?_
 refine X_ret ?_
 exact at_ret1 rfl rfl (fun w hw => ⟨by rfl, (hw.mono hIc).drop⟩)
end Go.Proofs.YtehkiccapbkhnaaGreat
end
section
namespace Go.Proofs.YtehkiccapbkhnaaGreat
open Go Go.Kn Go.Proofs
theorem cvt_5_3 : CvT Tryz.prog 5 3 .i64 := ⟨by kernel_rfl, by kernel_rfl⟩
theorem fun_10 : Fun Tryz.prog 10 := .of Tryz.func10 (by kernel_rfl) (by kernel_rfl)
theorem fun_29 : Fun Tryz.prog 29 := .of Tryz.func29 (by kernel_rfl) (by kernel_rfl)
end Go.Proofs.YtehkiccapbkhnaaGreat
end
section
namespace Go.Proofs.YtehkiccapbkhnaaGreat
open Go Go.Kn Go.Proofs
theorem planL_some {c : Cr} {k : Nat} {x : List Int} (hk : chkC c = 0) (h : planF c = some (k, x)) : planL c = x ∧ planO c = true := by
  unfold planL planO; rw [if_pos hk, h, decide_eq_true hk]; exact ⟨rfl, rfl⟩
theorem planL_none {c : Cr} (hk : chkC c = 0) (h : planF c = none) : planL c = [] ∧ planO c = false := by
  unfold planL planO; rw [if_pos hk, h, decide_eq_true hk]; exact ⟨rfl, rfl⟩
theorem plan_len9 {c : Cr} (hk : chkC c = 0) (h8 : c.ss.length ≤ 8) : (planL c).length ≤ 8 := by
  cases h : planF c with
  | none => rw [(planL_none hk h).1]; simp
  | some q =>
    obtain ⟨k, x⟩ := q
    rw [(planL_some hk h).1, (plan_good h).1.1]; exact h8
end Go.Proofs.YtehkiccapbkhnaaGreat
end
section
namespace Go.Proofs.YtehkiccapbkhnaaGreat
open Go Go.Kn Go.Proofs
/-- The greatest of the first k numbers, as slices.Max goes. -/
def mxK (l : List Int) (k : Nat) : Int := ((l.take k).drop 1).foldl maxI (l.headD 0)
theorem mxK_1 (l : List Int) : mxK l 1 = l.headD 0 := by
  unfold mxK; cases l <;> rfl
theorem mxK_step {l : List Int} {k : Nat} {x : Int} (hk : 1 ≤ k) (h : l[k]? = some x) : mxK l (k + 1) = maxI (mxK l k) x := by
  have hl := (List.getElem?_eq_some_iff.1 h).1
  unfold mxK
  rw [List.take_add_one, h, List.drop_append_of_le_length (by rw [List.length_take]; omega)]
  simp [List.foldl_append]
theorem mxK_P {l : List Int} (h0 : ∀ d ∈ l, 0 ≤ d) : ∀ {k : Nat}, 1 ≤ k → k ≤ l.length → mxK l k + 1 = maxP (l.take k) := by
  intro k
  induction k with
  | zero => omega
  | succ k ih =>
    intro _ h2
    obtain ⟨x, hx⟩ : ∃ x, l[k]? = some x := ⟨_, List.getElem?_eq_getElem (by omega)⟩
    have hx0 := h0 x (List.mem_of_getElem? hx)
    have e : maxP (l.take (k + 1)) = if maxP (l.take k) < x + 1 then x + 1 else maxP (l.take k) := by
      rw [List.take_add_one, hx]; exact maxP_snoc _ _
    rw [e]
    by_cases hk : k = 0
    · subst hk
      rw [mxK_1]
      have : l.headD 0 = x := by cases l with
        | nil => simp at hx
        | cons a l => simp at hx; exact hx
      rw [this]
      show x + 1 = if (0 : Int) < x + 1 then x + 1 else 0
      rw [if_pos (by omega)]
    · have := ih (by omega) (by omega)
      rw [mxK_step (by omega) hx, ← this]
      unfold maxI
      split <;> split <;> omega
theorem mxK_all {l : List Int} (h0 : ∀ d ∈ l, 0 ≤ d) (hl : 0 < l.length) : mxK l l.length + 1 = maxP l := by
  have := mxK_P h0 (k := l.length) (by omega) (Nat.le_refl _)
  rwa [List.take_length] at this
/-- A bound that is raised. -/
def upB (top m a z : Int) : Int := minI top (IntKind.i64.wrap (a + (IntKind.i64.wrap z).tmod m))
theorem upB_ge {top m a z : Int} (ha : 1 ≤ a ∧ a ≤ top) (ht : top ≤ 1000) (hm : 1 ≤ m ∧ m ≤ 1000) (hz : 0 ≤ z ∧ z ≤ 255) : a ≤ upB top m a z := by
  unfold upB
  have e : IntKind.i64.wrap z = z := wrap_in (by omega)
  have h1 := Int.tmod_nonneg m hz.1
  have h2 := Int.tmod_lt_of_pos z (show 0 < m by omega)
  rw [e, wrap_in (by omega)]
  unfold minI
  split <;> omega
def moreC (c : Cr) (z1 z2 z3 z4 : Int) (t : List Int) : Cr := ⟨c.days ++ t, upB 8 3 c.st z1, upB 8 3 c.da z2, upB 64 9 c.lo z3, upB 16 3 c.ru z4, c.ss⟩
theorem moreC_ok {c : Cr} {z1 z2 z3 z4 : Int} {t : List Int} (hc : rightF c = true) (h1 : 0 ≤ z1 ∧ z1 ≤ 255) (h2 : 0 ≤ z2 ∧ z2 ≤ 255) (h3 : 0 ≤ z3 ∧ z3 ≤ 255) (h4 : 0 ≤ z4 ∧ z4 ≤ 255) : MoreC c (moreC c z1 z2 z3 z4 t) := by
  have hh := head_ok hc
  exact ⟨rfl, upB_ge hh.st (by decide) (by decide) h1, upB_ge hh.da (by decide) (by decide) h2, upB_ge hh.lo (by decide) (by decide) h3, upB_ge hh.ru (by decide) (by decide) h4, List.prefix_append ..⟩
theorem more_1 {c x : Cr} (hc : rightF c = true) (hx : rightF x = true) (hk : chkC c = 0) (hkx : chkC x = 0) (h : MoreC c x) : (((chkC c != 0) || (chkC x != 0)) || (planO c && !planO x)) = false := by
  rw [hk, hkx]
  cases e : planF c with
  | none => rw [(planL_none hk e).2]; rfl
  | some q =>
    obtain ⟨k, a⟩ := q
    obtain ⟨k', b, h1, _⟩ := plan_more hc hx h e
    rw [(planL_some hk e).2, (planL_some hkx h1).2]; rfl
theorem more_2 {c x : Cr} (hc : rightF c = true) (hx : rightF x = true) (hk : chkC c = 0) (hkx : chkC x = 0) (h : MoreC c x) :
    ((!planO c || ((((planL c).length : Int) == 0) && (((planL x).length : Int) == 0))) || ((decide (((planL c).length : Int) > 0) && decide (((planL x).length : Int) > 0)) && decide (mxK (planL x) (planL x).length ≤ mxK (planL c) (planL c).length))) = true := by
  cases e : planF c with
  | none => rw [(planL_none hk e).2]; rfl
  | some q =>
    obtain ⟨k, a⟩ := q
    obtain ⟨k', b, h1, _, h3, h4⟩ := plan_more hc hx h e
    have ha := plan_in e
    have hb := plan_in h1
    rw [(planL_some hk e).2, (planL_some hk e).1, (planL_some hkx h1).1]
    by_cases hl : a.length = 0
    · rw [h3, hl]; rfl
    · have p1 := mxK_all (l := a) (fun d hd => (ha d hd).1) (by omega)
      have p2 := mxK_all (l := b) (fun d hd => (hb d hd).1) (by omega)
      have q1 : decide ((a.length : Int) > 0) = true := decide_eq_true (by omega)
      have q2 : decide ((b.length : Int) > 0) = true := decide_eq_true (by omega)
      have q3 : decide (mxK b b.length ≤ mxK a a.length) = true := decide_eq_true (by omega)
      rw [q1, q2, q3, Bool.and_self, Bool.and_self, Bool.or_true]
theorem rq_of {a b : Bool} {p q : Prop} [Decidable p] [Decidable q] (h : ((!(a && decide p)) || !(b && decide q)) = false) : (a = true ∧ p) ∧ b = true ∧ q := by
  cases a <;> cases b <;> by_cases hp : p <;> by_cases hq : q <;> simp_all
end Go.Proofs.YtehkiccapbkhnaaGreat
end
section
namespace Go.Kn
open Go
section
variable {g : World} {I I' H : HMap} {loc loc' L R : Loc} {w w' : World}
/-- 'append' onto a slice of one's own. -/
theorem run_append_Wide {P : Program} (t ty e : TypeId) (i : TypeInfo) (z : Value) {size bytes : Nat} (ht : P.underlying t = some (.slice e)) (hi : P.info? e = some i) (hz : i.zero = some z)
    (hsize : i.size = size) (hby : i.bytes = bytes) (hzs : z.cells.size = size)
    {v : Value} {n : Nat} {xs : List Value} {av : Option Addr} {m c : Nat} {ys : List Value} (hO : OwnS e size v n xs L) (hw : St g I H (L ++ R) w) (hS : Src I (L ++ R) av m size ys) (h1 : ∀ u ∈ ys, u.oneCell' = true)
    (hnm : n + m ≤ 70368744177664) (hB : (n + m) * bytes ≤ 140737488355328) :
    ∃ v' w' L', (Builtin.append_ #[t, t] ty #[v, .slice av m c]).run P w = .ok v' w' ∧ OwnS e size v' (n + m) (xs ++ ys) L' ∧ St g I H (L' ++ R) w' ∧ (m = 0 → v' = v) := by
  subst hsize
  subst hby
  have hbytes : (n + m) * i.bytes ≤ 140737488355328 := hB
  have hmL : n + m ≤ maxLen := by simp only [maxLen]; omega
  have hlen : (xs ++ ys).length = (n + m) * i.size := by rw [List.length_append, hO.1, hS.len, Nat.add_mul]
  by_cases hm : m = 0
  · subst hm
    have hy : ys = [] := List.eq_nil_of_length_eq_zero (by simpa using hS.len)
    subst hy
    refine ⟨v, w, L, ?_, by simpa using hO, hw, fun _ => rfl⟩
    have key : ∀ (b : Option Addr) (k q : Nat), k ≤ q → (Builtin.append_ #[t, t] ty #[.slice b k q, .slice av 0 c]).run P w = .ok (.slice b k q) w := by
      intro b k q hkq
      cases av <;> cases b <;> simp [Builtin.append_, run_underlying ht, sizeOf, typeInfo, hi, Builtin.lenOf, Builtin.firstCells, loadCells, loadCellsFrom, hkq, storeCells]
    rcases hO.2 with ⟨rfl, rfl, rfl⟩ | ⟨b, q, cur, rfl, rfl, hc, _⟩
    · exact key _ _ _ (Nat.le_refl _)
    · exact key _ _ _ hc
  · have hav := hS.base hm
    have hnews : ∀ j u, ys[j]? = some u → w.cell? ((⟨Ab av, Ao av, none⟩ : Addr).add j) = some u := fun j u hj => by rw [add_plain]; exact (hS.cells j u hj).get hw
    rw [hav]
    -- a new block
    have grown : ∀ (old : Nat) (R' : Loc), old < n + m → St g I H R' w → ∃ L', OwnS e i.size (.slice (some ⟨w.heap.size, 0, none⟩) (n + m) (grownCap w (n + m) old e)) (n + m) (xs ++ ys) L' ∧
        St g I H (L' ++ R') (w.drew.alloc (.cells (xs.toArray ++ ys.toArray ++ Builtin.zeroCells z.cells (grownCap w (n + m) old e - (n + m))) e)) := by
      intro old R' ho hw'
      have hge := grownCap_ge w (n + m) old e
      have hcm : grownCap w (n + m) old e ≤ maxLen := grownCap_le_maxLen w (n + m) old e hmL
      refine ⟨_, ⟨hlen, .inr ⟨w.heap.size, _, xs.toArray ++ ys.toArray ++ Builtin.zeroCells z.cells (grownCap w (n + m) old e - (n + m)), rfl, rfl, hge, hcm, ?_, ?_⟩⟩, ?_⟩
      · simp only [Array.size_append, List.size_toArray, size_zeroCells', hzs, hO.1, hS.len, ← Nat.add_mul]
        congr 1
        omega
      · simp only [Array.toList_append, List.append_assoc]
        rw [← List.append_assoc, ← hlen]
        exact List.take_left
      · exact hw'.drew'.alloc _
    rcases hO.2 with ⟨rfl, rfl, rfl⟩ | ⟨b, cap, cur, rfl, rfl, hnc, hcm, hcs, htake⟩
    · have hx : xs = [] := List.eq_nil_of_length_eq_zero (by simpa using hO.1)
      subst hx
      have hr := run_append_nil (P := P) w t ty e i z ht hi hz ⟨Ab av, Ao av, none⟩ m c ys hS.len hnews (by omega) (by omega) (by simp only [Nat.zero_add] at hbytes; omega)
      obtain ⟨L', h1', h2'⟩ := grown 0 R (by omega) hw
      simp only [Nat.zero_add, List.nil_append, Array.empty_append] at h1' h2' ⊢
      exact ⟨_, _, L', hr, h1', h2', fun h => absurd h hm⟩
    · have hb := hw.own b (.cells cur e (0, 0)) (List.mem_cons_self ..)
      by_cases hroom : n + m ≤ cap
      · have hfit : n * i.size + ys.length ≤ cur.size := by rw [hS.len, hcs, ← Nat.add_mul]; exact Nat.mul_le_mul_right _ hroom
        have hr := run_append_room (P := P) w t ty e i ht hi b n cap cur hb ⟨Ab av, Ao av, none⟩ m c ys hS.len hnews h1 hroom hfit
        refine ⟨_, _, _, hr, ⟨hlen, .inr ⟨b, cap, (cur.toList.take (n * i.size) ++ ys ++ cur.toList.drop (n * i.size + ys.length)).toArray, rfl, rfl, hroom, hcm, ?_, ?_⟩⟩, ?_, fun h => absurd h hm⟩
        · simp only [List.size_toArray, List.length_append, List.length_take, List.length_drop, Array.length_toList]
          omega
        · rw [htake, ← hlen]
          exact List.take_left
        · exact hw.turn Upd.here rfl rfl rfl (by simp [World.setRow]) (setRow_heap w b cur _ e _ hb) (fun k hk => setRow_other w b k _ hk)
      · have holds : ∀ j u, xs[j]? = some u → w.cell? ((⟨b, 0, none⟩ : Addr).add j) = some u := fun j u hj => by
          rw [add_plain, Nat.zero_add]
          rw [← htake, List.getElem?_take] at hj
          split at hj
          · simpa [World.cell?, hb] using hj
          · cases hj
        have hr := run_append_grow (P := P) w t ty e i z ht hi hz ⟨b, 0, none⟩ n cap xs hO.1 holds ⟨Ab av, Ao av, none⟩ m c ys hS.len hnews (by omega) (by omega) (growslice_fits (by omega) hbytes)
        obtain ⟨L', h1', h2'⟩ := grown cap R (by omega) (hw.take Take.here)
        exact ⟨_, _, L', hr, h1', h2', fun h => absurd h hm⟩
end
section
variable {C : Cx} {Q : Exit → Act → World → Prop} {E E' : Env} {I I' : HMap} {loc loc' L R : Loc} {ops : Array Oper} {rest : List Oper} {S : GS}
variable {dst : Option Tmp} {d : Nat} {ty : TypeId} {pos : String} {af : Array Edge} {gd : Option (Nat × Bool)} {x y z : Operand}
/-- 'append(s, xs...)', s of one's own. -/
theorem XO_appendW {t e size bytes : Nat} {v : Value} {n m c : Nat} {xs ys : List Value} {av : Option Addr} (hx : evalS [] E x = some v) (hy : evalS [] E y = some (.slice av m c)) (hT : ElT C.P t e size bytes)
    (hO : OwnS e size v n xs L) (hsp : Split loc L R) (hS : Src I loc av m size ys) (h1 : allOne ys = true) (hnm : n + m ≤ 70368744177664) (hB : (n + m) * bytes ≤ 140737488355328) (hG : gd = none) (hN : Nat.blt d C.N = true)
    (h : ∀ v' L', OwnS e size v' (n + m) (xs ++ ys) L' → (m = 0 → v' = v) → XO C Q ops rest [] ((d, v') :: E) I (L' ++ R)) :
    XO C Q ops (⟨some d, .call ⟨.builtin .append, #[x, y], #[t, t]⟩, ty, pos, af, gd⟩ :: rest) [] E I loc :=
  XO_world hG (by intro c e; cases e) fun a w ha hw => by
    obtain ⟨ht, i, zz, hi, hz, hs, hb, hzs⟩ := hT
    obtain ⟨v', w', L', hr, hO', hw', hm⟩ := run_append_Wide (P := C.P) t ty e i zz ht hi hz hs hb hzs (c := c) hO (hw.unsplit hsp) ⟨hS.len, hS.base, hS.cells.of_split hsp.mem⟩ (allOne_iff h1) hnm hB
    simp only [execOp, resolve, List.map_toArray, List.map_cons, List.map_nil, evalS_sound (S := []) ha trivial rfl hx, evalS_sound (S := []) ha trivial rfl hy, Sem.run_bind, Sem.run_pure, Result.andThen, invoke, builtin, hr, Oper.uponIn_value]
    exact h v' L' hO' hm _ _ (ha.put hN _) trivial hw'
end
end Go.Kn
end
section
namespace Go.Proofs.YtehkiccapbkhnaaGreat
open Go Go.Kn Go.Proofs
theorem fun_36 : Fun Tryz.prog 36 := .of Tryz.func36 (by kernel_rfl) (by kernel_rfl)
theorem w_max {I : HMap} {av : Option Addr} {n c : Nat} {xs : List Int} (hS : Sl I 1 encI av n c xs) (hn : n ≤ 100000) (h0 : 0 < n) : RetV Tryz.prog 36 [.slice av n c] I (.int .i64 (mxK xs n)) := by
 intro g H w hw
 refine enter Tryz.func36 rfl Tryz.ntmps36 rfl hw ?_
 obtain ⟨x0, hx0⟩ := hS.at h0
 have hd0 : x0 = xs.headD 0 := by cases xs with | nil => simp at hx0 | cons a l => simp at hx0; exact hx0.symm
 refine zR ?_
 refine zA ?_
 refine zN ?_
 refine X_seq ?_
 refine zR ?_
 refine zM ?_
 refine XO_v0 (ev_lenS rfl slt_23) rfl rfl rfl ?_
 refine zC ?_
 refine zN ?_
 refine X_cond rfl (fun hc7 => ?_) (fun hc7 => ?_)
 ·
  have h := hc7; simp at h; omega
 refine X_skip ?_
 refine at_then ?_
 refine zR ?_
 refine zM ?_
 refine XO_v0 (ev_indexSl rfl rfl slt_23 (by assumption) (fun hg => by first | omega | (simp [conj] at hg; omega))) rfl rfl rfl ?_
 refine XO_v0 (ev_load rfl sct_3 (fun hg => by first | exact Sl.get0 hS hx rfl | exact Sl.get0 (k := 0) hS hx0 rfl | (repeat (first | exact Cell.here rfl | apply Cell.there | apply Cell.app)))) rfl rfl rfl ?_
 refine zA ?_
 refine zN ?_
 refine X_seq ?_
 refine zR ?_
 refine zA ?_
 refine zN ?_
 refine X_block ?_
 refine X_loopT [(0, _)] (.cons rfl .nil) (fun T L0 mz E I' loc' => ∃ (k : Nat) (m : Int), mz = n - k ∧ E = (3, .int .i64 m) :: (4, .int .i64 k) :: T ∧ I = I' ∧ L0 = loc' ∧ k ≤ n ∧ m = mxK xs k ∧ 1 ≤ k) _ _ _ _ ⟨1, _, rfl, rfl, rfl, rfl, h0, by rw [mxK_1, hd0], Nat.le_refl _⟩ (.cons rfl (.cons rfl (.cons rfl .nil))) (HLe.refl _) rfl ?_
 rintro mz E I' loc' ⟨k, m, rfl, rfl, rfl, rfl, hk, hm, hk1⟩
 refine X_seq ?_
 refine zR ?_
 refine zM ?_
 refine zM ?_
 refine XO_v0 (ev_lenS rfl slt_23) rfl rfl rfl ?_
 refine zC ?_
 refine zN ?_
 refine X_cond rfl (fun hc15 => ?_) (fun hc15 => ?_)
 ·
  have hlt_k : k < n := by have h := hc15; simp at h; omega
  obtain ⟨x, hx⟩ := hS.at hlt_k
  refine X_skip ?_
  refine at_then ?_
  refine X_seq ?_
  refine X_block ?_
  refine X_region ?_
  refine zM ?_
  refine zM ?_
  refine zM ?_
  refine XO_v0 (ev_indexSl rfl rfl slt_23 (by assumption) (fun hg => by first | omega | (simp [conj] at hg; omega))) rfl rfl rfl ?_
  refine XO_v0 (ev_load rfl sct_3 (fun hg => by first | exact Sl.get0 hS hx rfl | exact Sl.get0 (k := 0) hS hx0 rfl | (repeat (first | exact Cell.here rfl | apply Cell.there | apply Cell.app)))) rfl rfl rfl ?_
  refine XO_v0 (ev_max rfl rfl) rfl rfl rfl ?_
  refine zA ?_
  refine XO_nil ?_
  refine at_block_n ?_
  refine at_then ?_
  refine X_region ?_
  refine zM ?_
  refine zB ?_
  refine zA ?_
  refine XO_nil ?_
  exact at_met2 _ _ ⟨n - (k + 1), by omega, k + 1, _, rfl, rfl, rfl, rfl, by omega, by rw [mxK_step hk1 hx, hm], by omega⟩ (.cons rfl (.cons rfl (.cons rfl .nil))) (by repeat (first | exact .refl | exact subL_left | refine subL_app ?_ | refine .drop ?_ | refine subL_add ?_))
 have hge_k : n ≤ k := by have h := hc15; simp at h; omega
 obtain rfl : k = n := by omega
 refine X_exit ?_
 refine at_then_e ?_
 refine at_then_e ?_
 refine at_block_hit ?_
 refine at_then ?_
 refine zR ?_
 refine zM ?_
 refine zA ?_
 refine zN ?_
 refine X_ret ?_
 exact at_ret1 rfl rfl (fun w hw => ⟨by rw [hm], hw.drop⟩)
theorem w_moreLaw {I : HMap} {x : CH} {cr : Cr} (hC : CrAt I x cr) (hxn : x.n * 8 ≤ 140737488351232) (z0 z1 z2 z3 z4 : Int) (hz0 : 0 ≤ z0 ∧ z0 ≤ 255) (hz1 : 0 ≤ z1 ∧ z1 ≤ 255) (hz2 : 0 ≤ z2 ∧ z2 ≤ 255) (hz3 : 0 ≤ z3 ∧ z3 ≤ 255) (hz4 : 0 ≤ z4 ∧ z4 ≤ 255) : RetV Tryz.prog 9 [encCHA x, .int .u8 z0, .int .u8 z1, .int .u8 z2, .int .u8 z3, .int .u8 z4] I (.bool true) := by
 intro g H w hw
 refine enter Tryz.func9 rfl Tryz.ntmps9 rfl hw ?_
 have hIc := HLe.refl I
 obtain ⟨hDy, e1, e2, e3, e4, hss⟩ := id hC
 have hlD := hDy.len
 refine zR ?_
 refine XO_box rfl rfl rfl (fun b_6 => ?_)
 refine zA ?_
 refine zN ?_
 refine X_seq ?_
 refine X_seq ?_
 refine X_freeze .here (fun I1 hI1 hb1 => ?_)
 have hC := hC.mono hI1; have hDy := hDy.mono hI1; have hIc := hIc.trans hI1
 have h6 := ImmC.of hb1
 refine X_region ?_
 refine XO_callV0 (cap := []) (vs := []) rfl rfl fun_10 (w_sane40 _) rfl rfl ?_
 refine XO_v0 (ev_not rfl) rfl rfl rfl ?_
 refine zN ?_
 refine X_cond rfl (fun hc22 => ?_) (fun hc22 => ?_)
 ·
  cases hc22
 refine X_skip ?_
 refine at_then ?_
 refine zR ?_
 refine XO_v0 (ev_loadA rfl agt_33 (fun hg => by first | exact Cells.immC h6 | exact Cells.immC (vs := encCH xx) h13 | (repeat (first | exact Cells.here | exact Cells.s0 (vs := [_, _, _, _, _, _]) rfl | apply Cells.there | apply Cells.app))) rfl) rfl rfl rfl ?_
 refine XO_alloc zt_33 rfl rfl (fun b_13 => ?_)
 refine XO_storeA rfl rfl szt_33 rfl rfl rfl rfl (by repeat (first | exact Upd.here | apply Upd.there | apply upd_app)) ?_
 refine zN ?_
 refine X_cutT [(1, _), (6, _), (13, _)] (.cons rfl (.cons rfl (.cons rfl .nil))) (fun T L0 E I' loc' => E = T ∧ I1 = I' ∧ [(b_13, .cells (encCH ⟨x.a, x.n, x.c, upB 8 3 x.st z1, upB 8 3 x.da z2, upB 64 9 x.lo z3, upB 16 3 x.ru z4, x.a2, x.n2, x.c2⟩).toArray 33 (0, 0))] = loc' ∧ True) ?_ ?_
 ·
  have hD := HLe.refl I1
  refine X_noP ?_
  refine X_drawS I1 [] mixed ?_
  refine zT 0 rfl (ev_fieldAddr rfl fld_33_1) hD ?_
  refine zT 1 rfl (ev_load rfl sct_3 (fun hg => by first | exact Cell.imm h6 rfl | exact Sl.getD0 hDy (d := 0) (k := ((x.n : Int) - 1).toNat) (by omega) rfl | (repeat (first | exact Cell.here rfl | apply Cell.there | apply Cell.app)))) hD ?_
  refine zT 2 rfl (ev_move rfl) hD ?_
  refine zT 3 rfl (ev_convI rfl cvt_5_3) hD ?_
  refine zT 4 rfl (ev_rem rfl rfl (fun hg => by first | decide | omega)) hD ?_
  refine zT 5 rfl (ev_ar rfl rfl rfl) hD ?_
  refine zT 6 rfl (ev_min rfl rfl) hD ?_
  refine zT 7 rfl (ev_fieldAddr rfl fld_33_2) hD ?_
  refine zT 8 rfl (ev_load rfl sct_3 (fun hg => by first | exact Cell.imm h6 rfl | exact Sl.getD0 hDy (d := 0) (k := ((x.n : Int) - 1).toNat) (by omega) rfl | (repeat (first | exact Cell.here rfl | apply Cell.there | apply Cell.app)))) hD ?_
  refine zT 9 rfl (ev_move rfl) hD ?_
  refine zT 10 rfl (ev_convI rfl cvt_5_3) hD ?_
  refine zT 11 rfl (ev_rem rfl rfl (fun hg => by first | decide | omega)) hD ?_
  refine zT 12 rfl (ev_ar rfl rfl rfl) hD ?_
  refine zT 13 rfl (ev_min rfl rfl) hD ?_
  refine zT 14 rfl (ev_fieldAddr rfl fld_33_3) hD ?_
  refine zT 15 rfl (ev_load rfl sct_3 (fun hg => by first | exact Cell.imm h6 rfl | exact Sl.getD0 hDy (d := 0) (k := ((x.n : Int) - 1).toNat) (by omega) rfl | (repeat (first | exact Cell.here rfl | apply Cell.there | apply Cell.app)))) hD ?_
  refine zT 16 rfl (ev_move rfl) hD ?_
  refine zT 17 rfl (ev_convI rfl cvt_5_3) hD ?_
  refine zT 18 rfl (ev_rem rfl rfl (fun hg => by first | decide | omega)) hD ?_
  refine zT 19 rfl (ev_ar rfl rfl rfl) hD ?_
  refine zT 20 rfl (ev_min rfl rfl) hD ?_
  refine zT 21 rfl (ev_fieldAddr rfl fld_33_4) hD ?_
  refine zT 22 rfl (ev_load rfl sct_3 (fun hg => by first | exact Cell.imm h6 rfl | exact Sl.getD0 hDy (d := 0) (k := ((x.n : Int) - 1).toNat) (by omega) rfl | (repeat (first | exact Cell.here rfl | apply Cell.there | apply Cell.app)))) hD ?_
  refine zT 23 rfl (ev_move rfl) hD ?_
  refine zT 24 rfl (ev_convI rfl cvt_5_3) hD ?_
  refine zT 25 rfl (ev_rem rfl rfl (fun hg => by first | decide | omega)) hD ?_
  refine zT 26 rfl (ev_ar rfl rfl rfl) hD ?_
  refine zT 27 rfl (ev_min rfl rfl) hD ?_
  refine zT 28 rfl (ev_fieldAddr rfl fld_33_1) hD ?_
  refine XD_one 29 rfl (by kernel_rfl) ?_
  refine zS szt_3 ?_
  refine XO_nil ?_
  refine zD hD ?_
  refine zT 30 rfl (ev_fieldAddr rfl fld_33_2) hD ?_
  refine XD_one 31 rfl (by kernel_rfl) ?_
  refine zS szt_3 ?_
  refine XO_nil ?_
  refine zD hD ?_
  refine zT 32 rfl (ev_fieldAddr rfl fld_33_3) hD ?_
  refine XD_one 33 rfl (by kernel_rfl) ?_
  refine zS szt_3 ?_
  refine XO_nil ?_
  refine zD hD ?_
  refine zT 34 rfl (ev_fieldAddr rfl fld_33_4) hD ?_
  refine XD_one 35 rfl (by kernel_rfl) ?_
  refine zS szt_3 ?_
  refine XO_nil ?_
  refine zD hD ?_
  refine XD_done (by kernel_rfl) ?_
  refine at_noP ?_
  exact at_met2 _ _ ⟨rfl, rfl, rfl, trivial⟩ (.cons rfl (.cons rfl (.cons rfl .nil))) (by repeat (first | exact .refl | exact subL_left | refine subL_app ?_ | refine .drop ?_ | refine subL_add ?_))
 rintro E I' loc' ⟨rfl, rfl, rfl, _⟩
 refine X_cutT [(6, _), (13, _)] (.cons rfl (.cons rfl .nil)) (fun T L0 E I' loc' => ∃ (da : Option Addr) (dn dc : Nat) (tt : List Int), E = T ∧ HLe I1 I' ∧ [(b_13, .cells (encCH ⟨da, dn, dc, upB 8 3 x.st z1, upB 8 3 x.da z2, upB 64 9 x.lo z3, upB 16 3 x.ru z4, x.a2, x.n2, x.c2⟩).toArray 33 (0, 0))] = loc' ∧ Sl I' 1 encI da dn dc (cr.days ++ tt)) ?_ ?_
 ·
  have hKc5 := HLe.refl I1
  refine zR ?_
  refine XO_v0 (ev_fieldAddr rfl fld_33_0) rfl rfl rfl ?_
  refine XO_v0 (ev_load rfl sct_23 (fun hg => by first | exact Cell.imm h6 rfl | exact Sl.getD0 hDy (d := 0) (k := ((x.n : Int) - 1).toNat) (by omega) rfl | (repeat (first | exact Cell.here rfl | apply Cell.there | apply Cell.app)))) rfl rfl rfl ?_
  refine XO_v0 (ev_lenS rfl slt_23) rfl rfl rfl ?_
  refine zA ?_
  refine zN (zR ?_)
  refine zM ?_
  refine zC ?_
  refine zM ?_
  refine XO_pushT 2 rfl rfl rfl ?_
  refine XO_v1 (ev_move rfl) (.some rfl rfl rfl rfl gbt) rfl rfl rfl ?_
  refine XO_v1 (ev_cmp rfl rfl rfl) (.some rfl rfl rfl rfl gbt) rfl rfl rfl ?_
  refine XO_and0 rfl rfl rfl rfl rfl ?_
  refine zN ?_
  refine X_cond rfl (fun hc64 => ?_) (fun hc64 => ?_)
  ·
   have hn0 : 0 < x.n := by have h := hc64; simp at h; omega
   have hD := HLe.refl I1
   refine X_noP ?_
   refine X_drawS I1 [] mixed ?_
   refine zT 1 rfl (ev_fieldAddr rfl fld_33_0) hD ?_
   refine zT 2 rfl (ev_load rfl sct_23 (fun hg => by first | exact Cell.imm h6 rfl | exact Sl.getD0 hDy (d := 0) (k := ((x.n : Int) - 1).toNat) (by omega) rfl | (repeat (first | exact Cell.here rfl | apply Cell.there | apply Cell.app)))) hD ?_
   refine zT 4 rfl (ev_fieldAddr rfl fld_33_0) hD ?_
   refine zT 5 rfl (ev_load rfl sct_23 (fun hg => by first | exact Cell.imm h6 rfl | exact Sl.getD0 hDy (d := 0) (k := ((x.n : Int) - 1).toNat) (by omega) rfl | (repeat (first | exact Cell.here rfl | apply Cell.there | apply Cell.app)))) hD ?_
   refine zT 6 rfl (ev_move rfl) hD ?_
   refine zT 7 rfl (ev_arB rfl rfl rfl (fun hg => by omega)) hD ?_
   refine zT 8 rfl (ev_indexSl rfl rfl slt_23 hDy (fun hg => by first | omega | (simp [conj] at hg; omega))) hD ?_
   refine zT 9 rfl (ev_load rfl sct_3 (fun hg => by first | exact Cell.imm h6 rfl | exact Sl.getD0 hDy (d := 0) (k := ((x.n : Int) - 1).toNat) (by omega) rfl | (repeat (first | exact Cell.here rfl | apply Cell.there | apply Cell.app)))) hD ?_
   refine zT 10 rfl (ev_move rfl) hD ?_
   refine zT 11 rfl (ev_convI rfl cvt_5_3) hD ?_
   refine zT 12 rfl (ev_ar rfl rfl rfl) hD ?_
   refine XD_two 0 13 rfl rfl (by kernel_rfl) ?_ ?_
   ·
    refine XO_buildSlice (ps := []) (m := []) elt_23 rfl (.nil) rfl (by simp) (by decide) (by decide) rfl rfl (fun b_65 => ?_)
    refine XO_nil ?_
    refine zD hD ?_
    refine XD_two 3 13 rfl rfl (by kernel_rfl) ?_ ?_
    ·
     refine XO_appendW (v := _) (ys := cr.days.flatMap encI) (L := [(b_65, _)]) rfl rfl elt_23 OwnS.new (by repeat (first | exact .cons .here .nil | exact split_all | exact split_app | apply split_cons | apply split_skip)) (hDy.src encI_len) (one_I _) (by omega) (by omega) rfl rfl ?_
     intro v5 L5 hO5 _; rw [List.nil_append, Nat.zero_add] at hO5
     refine XO_nil ?_
     refine zD hD ?_
     refine XD_one 13 rfl (by kernel_rfl) ?_
     refine XO_buildSlice (ps := [(0, _)]) (m := [encI (IntKind.i64.wrap ((cr.days.getD ((x.n : Int) - 1).toNat 0) + IntKind.i64.wrap z0))]) elt_23 rfl (.cons rfl (.nil)) rfl (by simp [encI_len]) (by decide) (by decide) rfl rfl (fun b_78 => ?_)
     refine XO_nil ?_
     refine zD hD ?_
     refine XD_one 14 rfl (by kernel_rfl) ?_
     refine XO_appendW (v := _) (ys := [(IntKind.i64.wrap ((cr.days.getD ((x.n : Int) - 1).toNat 0) + IntKind.i64.wrap z0))].flatMap encI) (L := L5) rfl rfl elt_23 hO5 (by repeat (first | exact .cons .here .nil | exact split_all | exact split_app | apply split_cons | apply split_skip)) ⟨rfl, fun _ => rfl, by repeat (first | exact Cells.here | apply Cells.there | apply Cells.app)⟩ (one_I [(IntKind.i64.wrap ((cr.days.getD ((x.n : Int) - 1).toNat 0) + IntKind.i64.wrap z0))]) (by omega) (by omega) rfl rfl ?_
     intro v9 L9 hO9 _; rw [← List.flatMap_append] at hO9
     refine XO_nil ?_
     refine zD hD ?_
     refine zT 15 rfl (ev_fieldAddr rfl fld_33_0) hD ?_
     refine XD_one 16 rfl (by kernel_rfl) ?_
     refine XO_store rfl rfl szt_23 hO9.one rfl (by repeat (first | exact Upd.here | apply Upd.there | apply upd_app)) rfl ?_
     refine XO_nil ?_
     refine zD hD ?_
     refine XD_done (by kernel_rfl) ?_
     refine at_noP ?_
     first
     | exact at_freezeO hO9 encI_len (by decide) (by repeat (first | exact .cons .here .nil | exact split_all | exact split_app | apply split_cons | apply split_skip)) (fun I9 hI9 da dc e9 hDx => by cases e9; exact at_met2 _ _ ⟨da, x.n + 1, dc, [(IntKind.i64.wrap ((cr.days.getD ((x.n : Int) - 1).toNat 0) + IntKind.i64.wrap z0))], rfl, hKc5.trans hI9, rfl, hDx⟩ (.cons rfl (.cons rfl .nil)) (by repeat (first | exact .refl | exact subL_left | refine subL_app ?_ | refine .drop ?_ | refine subL_add ?_)))
    refine XO_buildSlice (ps := [(0, _)]) (m := [encI (IntKind.i64.wrap ((cr.days.getD ((x.n : Int) - 1).toNat 0) + IntKind.i64.wrap z0))]) elt_23 rfl (.cons rfl (.nil)) rfl (by simp [encI_len]) (by decide) (by decide) rfl rfl (fun b_78 => ?_)
    refine XO_nil ?_
    refine zD hD ?_
    refine XD_one 3 rfl (by kernel_rfl) ?_
    refine XO_appendW (v := _) (ys := cr.days.flatMap encI) (L := [(b_65, _)]) rfl rfl elt_23 OwnS.new (by repeat (first | exact .cons .here .nil | exact split_all | exact split_app | apply split_cons | apply split_skip)) (hDy.src encI_len) (one_I _) (by omega) (by omega) rfl rfl ?_
    intro v5 L5 hO5 _; rw [List.nil_append, Nat.zero_add] at hO5
    refine XO_nil ?_
    refine zD hD ?_
    refine XD_one 14 rfl (by kernel_rfl) ?_
    refine XO_appendW (v := _) (ys := [(IntKind.i64.wrap ((cr.days.getD ((x.n : Int) - 1).toNat 0) + IntKind.i64.wrap z0))].flatMap encI) (L := L5) rfl rfl elt_23 hO5 (by repeat (first | exact .cons .here .nil | exact split_all | exact split_app | apply split_cons | apply split_skip)) ⟨rfl, fun _ => rfl, by repeat (first | exact Cells.here | apply Cells.there | apply Cells.app)⟩ (one_I [(IntKind.i64.wrap ((cr.days.getD ((x.n : Int) - 1).toNat 0) + IntKind.i64.wrap z0))]) (by omega) (by omega) rfl rfl ?_
    intro v9 L9 hO9 _; rw [← List.flatMap_append] at hO9
    refine XO_nil ?_
    refine zD hD ?_
    refine zT 15 rfl (ev_fieldAddr rfl fld_33_0) hD ?_
    refine XD_one 16 rfl (by kernel_rfl) ?_
    refine XO_store rfl rfl szt_23 hO9.one rfl (by repeat (first | exact Upd.here | apply Upd.there | apply upd_app)) rfl ?_
    refine XO_nil ?_
    refine zD hD ?_
    refine XD_done (by kernel_rfl) ?_
    refine at_noP ?_
    first
    | exact at_freezeO hO9 encI_len (by decide) (by repeat (first | exact .cons .here .nil | exact split_all | exact split_app | apply split_cons | apply split_skip)) (fun I9 hI9 da dc e9 hDx => by cases e9; exact at_met2 _ _ ⟨da, x.n + 1, dc, [(IntKind.i64.wrap ((cr.days.getD ((x.n : Int) - 1).toNat 0) + IntKind.i64.wrap z0))], rfl, hKc5.trans hI9, rfl, hDx⟩ (.cons rfl (.cons rfl .nil)) (by repeat (first | exact .refl | exact subL_left | refine subL_app ?_ | refine .drop ?_ | refine subL_add ?_)))
   refine XO_buildSlice (ps := [(0, _)]) (m := [encI (IntKind.i64.wrap ((cr.days.getD ((x.n : Int) - 1).toNat 0) + IntKind.i64.wrap z0))]) elt_23 rfl (.cons rfl (.nil)) rfl (by simp [encI_len]) (by decide) (by decide) rfl rfl (fun b_78 => ?_)
   refine XO_nil ?_
   refine zD hD ?_
   refine XD_one 0 rfl (by kernel_rfl) ?_
   refine XO_buildSlice (ps := []) (m := []) elt_23 rfl (.nil) rfl (by simp) (by decide) (by decide) rfl rfl (fun b_65 => ?_)
   refine XO_nil ?_
   refine zD hD ?_
   refine XD_one 3 rfl (by kernel_rfl) ?_
   refine XO_appendW (v := _) (ys := cr.days.flatMap encI) (L := [(b_65, _)]) rfl rfl elt_23 OwnS.new (by repeat (first | exact .cons .here .nil | exact split_all | exact split_app | apply split_cons | apply split_skip)) (hDy.src encI_len) (one_I _) (by omega) (by omega) rfl rfl ?_
   intro v5 L5 hO5 _; rw [List.nil_append, Nat.zero_add] at hO5
   refine XO_nil ?_
   refine zD hD ?_
   refine XD_one 14 rfl (by kernel_rfl) ?_
   refine XO_appendW (v := _) (ys := [(IntKind.i64.wrap ((cr.days.getD ((x.n : Int) - 1).toNat 0) + IntKind.i64.wrap z0))].flatMap encI) (L := L5) rfl rfl elt_23 hO5 (by repeat (first | exact .cons .here .nil | exact split_all | exact split_app | apply split_cons | apply split_skip)) ⟨rfl, fun _ => rfl, by repeat (first | exact Cells.here | apply Cells.there | apply Cells.app)⟩ (one_I [(IntKind.i64.wrap ((cr.days.getD ((x.n : Int) - 1).toNat 0) + IntKind.i64.wrap z0))]) (by omega) (by omega) rfl rfl ?_
   intro v9 L9 hO9 _; rw [← List.flatMap_append] at hO9
   refine XO_nil ?_
   refine zD hD ?_
   refine zT 15 rfl (ev_fieldAddr rfl fld_33_0) hD ?_
   refine XD_one 16 rfl (by kernel_rfl) ?_
   refine XO_store rfl rfl szt_23 hO9.one rfl (by repeat (first | exact Upd.here | apply Upd.there | apply upd_app)) rfl ?_
   refine XO_nil ?_
   refine zD hD ?_
   refine XD_done (by kernel_rfl) ?_
   refine at_noP ?_
   first
   | exact at_freezeO hO9 encI_len (by decide) (by repeat (first | exact .cons .here .nil | exact split_all | exact split_app | apply split_cons | apply split_skip)) (fun I9 hI9 da dc e9 hDx => by cases e9; exact at_met2 _ _ ⟨da, x.n + 1, dc, [(IntKind.i64.wrap ((cr.days.getD ((x.n : Int) - 1).toNat 0) + IntKind.i64.wrap z0))], rfl, hKc5.trans hI9, rfl, hDx⟩ (.cons rfl (.cons rfl .nil)) (by repeat (first | exact .refl | exact subL_left | refine subL_app ?_ | refine .drop ?_ | refine subL_add ?_)))
  refine X_skip ?_
  first
  | exact at_met2 _ _ ⟨x.a, x.n, x.c, [], rfl, hKc5, rfl, by rw [List.append_nil]; exact hDy⟩ (.cons rfl (.cons rfl .nil)) (by repeat (first | exact .refl | exact subL_left | refine subL_app ?_ | refine .drop ?_ | refine subL_add ?_))
 rintro E J3 loc' ⟨da, dn, dc, tt, rfl, hJ, rfl, hDx⟩
 have hC := hC.mono hJ; have hDy := hDy.mono hJ; have h6 := h6.mono hJ; have hIc := hIc.trans hJ
 refine X_seq ?_
 refine X_seq ?_
 refine X_freeze .here (fun I4 hI4 hb4 => ?_)
 have hC := hC.mono hI4; have hDy := hDy.mono hI4; have h6 := h6.mono hI4; have hDx := hDx.mono hI4; have hIc := hIc.trans hI4
 have key8 : ∃ y, y = (⟨da, dn, dc, upB 8 3 x.st z1, upB 8 3 x.da z2, upB 64 9 x.lo z3, upB 16 3 x.ru z4, x.a2, x.n2, x.c2⟩ : CH) := ⟨_, rfl⟩
 obtain ⟨xx, hxx⟩ := key8
 have key9 : ∃ y, y = moreC cr z1 z2 z3 z4 tt := ⟨_, rfl⟩
 obtain ⟨mx, hmx⟩ := key9
 have h13 : ImmC I4 b_13 (.cells (encCH xx).toArray 33 (0, 0)) := ImmC.of (show _ = some (Obj.cells (encCH xx).toArray 33 (0, 0)) by rw [hxx]; exact hb4)
 have hC2 : CrAt I4 xx mx := by rw [hxx, hmx]; exact ⟨hDx, by show upB 8 3 x.st z1 = upB 8 3 cr.st z1; rw [e1], by show upB 8 3 x.da z2 = upB 8 3 cr.da z2; rw [e2], by show upB 64 9 x.lo z3 = upB 64 9 cr.lo z3; rw [e3], by show upB 16 3 x.ru z4 = upB 16 3 cr.ru z4; rw [e4], hC.2.2.2.2.2⟩
 refine X_region ?_
 refine XO_v0 (ev_loadA rfl agt_33 (fun hg => by first | exact Cells.immC h6 | exact Cells.immC (vs := encCH xx) h13 | (repeat (first | exact Cells.here | exact Cells.s0 (vs := [_, _, _, _, _, _]) rfl | apply Cells.there | apply Cells.app))) rfl) rfl rfl rfl ?_
 refine XO_callV0 (cap := []) (vs := [_]) rfl rfl fun_29 (w_right40 hC) rfl rfl ?_
 refine XO_v0 (ev_not rfl) rfl rfl rfl ?_
 refine zM ?_
 refine XO_pushF 3 rfl rfl rfl ?_
 refine XO_v1 (ev_loadA rfl agt_33 (fun hg => by first | exact Cells.immC h6 | exact Cells.immC (vs := encCH xx) h13 | (repeat (first | exact Cells.here | exact Cells.s0 (vs := [_, _, _, _, _, _]) rfl | apply Cells.there | apply Cells.app))) rfl) (.some rfl rfl rfl rfl gbf) rfl rfl rfl ?_
 refine XO_callV1 (cap := []) (vs := [_]) rfl rfl fun_29 (fun hg => w_right40 hC2) (.some rfl rfl rfl rfl gbf) rfl rfl ?_
 refine XO_v1 (ev_not rfl) (.some rfl rfl rfl rfl gbf) rfl rfl rfl ?_
 refine XO_or0 rfl rfl rfl rfl rfl ?_
 refine zN ?_
 refine X_cond rfl (fun hc88 => ?_) (fun hc88 => ?_)
 ·
  refine zR ?_
  refine zA ?_
  refine zN ?_
  refine X_ret ?_
  refine at_then_r ?_
  exact at_ret1 rfl rfl (fun w hw => ⟨by rfl, (hw.mono hIc).drop⟩)
 have hrq : (fewC cr = true ∧ chkC cr = 0) ∧ fewC mx = true ∧ chkC mx = 0 := rq_of hc88
 have hk0 := hrq.1.2
 have hkx := hrq.2.2
 obtain ⟨hr, h16, h8, hwh, hpf⟩ := chkC_0 hk0
 obtain ⟨hrx, h16x, h8x, hwhx, hpfx⟩ := chkC_0 hkx
 have hnd : ∀ s ∈ cr.ss, s.needs.length ≤ 100000 := fun s hs => Nat.le_trans ((few_bd hrq.1.1).2.2 s hs).2 (by decide)
 have hnd2 : ∀ s ∈ mx.ss, s.needs.length ≤ 100000 := fun s hs => Nat.le_trans ((few_bd hrq.2.1).2.2 s hs).2 (by decide)
 have hmo : MoreC cr mx := by rw [hmx]; exact moreC_ok hr hz1 hz2 hz3 hz4
 have hp1 := plan_len9 hk0 h8
 have hp2 := plan_len9 hkx h8x
 refine X_skip ?_
 refine at_then ?_
 refine zR ?_
 refine XO_v0 (ev_loadA rfl agt_33 (fun hg => by first | exact Cells.immC h6 | exact Cells.immC (vs := encCH xx) h13 | (repeat (first | exact Cells.here | exact Cells.s0 (vs := [_, _, _, _, _, _]) rfl | apply Cells.there | apply Cells.app))) rfl) rfl rfl rfl ?_
 refine XO_callM (cap := []) (vs := [_]) rfl rfl fun_18 .nil (w_Plan hC hnd) rfl rfl ?_
 rintro vv5 I5 L5 hI5 ⟨rfl, pa1, pc1, rfl, hP1⟩
 have hC := hC.mono hI5; have hDy := hDy.mono hI5; have h6 := h6.mono hI5; have hDx := hDx.mono hI5; have h13 := h13.mono hI5; have hC2 := hC2.mono hI5; have hIc := hIc.trans hI5
 rw [List.nil_append]
 refine zM ?_
 refine XO_v0 (ev_extract rfl rfl) rfl rfl rfl ?_
 refine XO_v0 (ev_extract rfl rfl) rfl rfl rfl ?_
 refine XO_v0 (ev_extract rfl rfl) rfl rfl rfl ?_
 refine zA ?_
 refine zA ?_
 refine zA ?_
 refine zN (zR ?_)
 refine XO_v0 (ev_loadA rfl agt_33 (fun hg => by first | exact Cells.immC h6 | exact Cells.immC (vs := encCH xx) h13 | (repeat (first | exact Cells.here | exact Cells.s0 (vs := [_, _, _, _, _, _]) rfl | apply Cells.there | apply Cells.app))) rfl) rfl rfl rfl ?_
 refine XO_callM (cap := []) (vs := [_]) rfl rfl fun_18 .nil (w_Plan hC2 hnd2) rfl rfl ?_
 rintro vv6 I6 L6 hI6 ⟨rfl, pa2, pc2, rfl, hP2⟩
 have hC := hC.mono hI6; have hDy := hDy.mono hI6; have h6 := h6.mono hI6; have hDx := hDx.mono hI6; have h13 := h13.mono hI6; have hC2 := hC2.mono hI6; have hP1 := hP1.mono hI6; have hIc := hIc.trans hI6
 rw [List.nil_append]
 refine zM ?_
 refine XO_v0 (ev_extract rfl rfl) rfl rfl rfl ?_
 refine XO_v0 (ev_extract rfl rfl) rfl rfl rfl ?_
 refine XO_v0 (ev_extract rfl rfl) rfl rfl rfl ?_
 refine zA ?_
 refine zA ?_
 refine zA ?_
 refine zN ?_
 refine X_seq ?_
 refine zR ?_
 refine zM ?_
 refine zC ?_
 refine zM ?_
 refine XO_pushF 2 rfl rfl rfl ?_
 refine XO_v1 (ev_move rfl) (.some rfl rfl rfl rfl gbf) rfl rfl rfl ?_
 refine XO_v1 (ev_cmp rfl rfl rfl) (.some rfl rfl rfl rfl gbf) rfl rfl rfl ?_
 refine XO_or0 rfl rfl rfl rfl rfl ?_
 refine zM ?_
 refine XO_pushF 6 rfl rfl rfl ?_
 refine XO_v1 (ev_move rfl) (.some rfl rfl rfl rfl gbf) rfl rfl rfl ?_
 refine XO_v1 (ev_move rfl) (.some rfl rfl rfl rfl gbf) rfl rfl rfl ?_
 refine XO_pushT 8 rfl rfl rfl ?_
 refine XO_v1 (ev_move rfl) (.some rfl rfl rfl rfl gbt) rfl rfl rfl ?_
 refine XO_v1 (ev_not rfl) (.some rfl rfl rfl rfl gbt) rfl rfl rfl ?_
 refine XO_and1 rfl rfl rfl (.some rfl rfl rfl rfl gbf) rfl rfl ?_
 refine XO_or0 rfl rfl rfl rfl rfl ?_
 refine zN ?_
 refine X_cond rfl (fun hc113 => ?_) (fun hc113 => ?_)
 ·
  exact absurd hc113 (by rw [more_1 hr hrx hk0 hkx hmo]; decide)
 refine X_skip ?_
 refine at_then ?_
 refine zR ?_
 refine zM ?_
 refine XO_v0 (ev_not rfl) rfl rfl rfl ?_
 refine zM ?_
 refine XO_pushF 2 rfl rfl rfl ?_
 refine XO_v1 (ev_move rfl) (.some rfl rfl rfl rfl gbf) rfl rfl rfl ?_
 refine XO_v1 (ev_lenS rfl slt_23) (.some rfl rfl rfl rfl gbf) rfl rfl rfl ?_
 refine XO_v1 (ev_cmp rfl rfl rfl) (.some rfl rfl rfl rfl gbf) rfl rfl rfl ?_
 refine XO_v1 (ev_move rfl) (.some rfl rfl rfl rfl gbf) rfl rfl rfl ?_
 refine XO_pushT 6 rfl rfl rfl ?_
 refine XO_v1 (ev_move rfl) (.some rfl rfl rfl rfl gbt) rfl rfl rfl ?_
 refine XO_v1 (ev_lenS rfl slt_23) (.some rfl rfl rfl rfl gbt) rfl rfl rfl ?_
 refine XO_v1 (ev_cmp rfl rfl rfl) (.some rfl rfl rfl rfl gbt) rfl rfl rfl ?_
 refine XO_and1 rfl rfl rfl (.some rfl rfl rfl rfl gbf) rfl rfl ?_
 refine XO_or0 rfl rfl rfl rfl rfl ?_
 refine zM ?_
 refine XO_pushF 12 rfl rfl rfl ?_
 refine XO_v1 (ev_move rfl) (.some rfl rfl rfl rfl gbf) rfl rfl rfl ?_
 refine XO_v1 (ev_lenS rfl slt_23) (.some rfl rfl rfl rfl gbf) rfl rfl rfl ?_
 refine XO_v1 (ev_cmp rfl rfl rfl) (.some rfl rfl rfl rfl gbf) rfl rfl rfl ?_
 refine XO_v1 (ev_move rfl) (.some rfl rfl rfl rfl gbf) rfl rfl rfl ?_
 refine XO_pushT 16 rfl rfl rfl ?_
 refine XO_v1 (ev_move rfl) (.some rfl rfl rfl rfl gbt) rfl rfl rfl ?_
 refine XO_v1 (ev_lenS rfl slt_23) (.some rfl rfl rfl rfl gbt) rfl rfl rfl ?_
 refine XO_v1 (ev_cmp rfl rfl rfl) (.some rfl rfl rfl rfl gbt) rfl rfl rfl ?_
 refine XO_and1 rfl rfl rfl (.some rfl rfl rfl rfl gbf) rfl rfl ?_
 refine XO_v1 (ev_move rfl) (.some rfl rfl rfl rfl gbf) rfl rfl rfl ?_
 refine XO_pushT 21 rfl rfl rfl ?_
 refine XO_v1 (ev_move rfl) (.some rfl rfl rfl rfl gbt) rfl rfl rfl ?_
 refine XO_callV1 (cap := []) (vs := [_]) rfl rfl fun_36 (fun hg => w_max hP2 (by omega) (by simp [conj] at hg; omega)) (.some rfl rfl rfl rfl gbt) rfl rfl ?_
 refine XO_v1 (ev_move rfl) (.some rfl rfl rfl rfl gbt) rfl rfl rfl ?_
 refine XO_callV1 (cap := []) (vs := [_]) rfl rfl fun_36 (fun hg => w_max hP1 (by omega) (by simp [conj] at hg; omega)) (.some rfl rfl rfl rfl gbt) rfl rfl ?_
 refine XO_v1 (ev_cmp rfl rfl rfl) (.some rfl rfl rfl rfl gbt) rfl rfl rfl ?_
 refine XO_and1 rfl rfl rfl (.some rfl rfl rfl rfl gbf) rfl rfl ?_
 refine XO_or0 rfl rfl rfl rfl rfl ?_
 refine zA ?_
 refine zN ?_
 refine X_ret ?_
 exact at_ret1 rfl rfl (fun w hw => ⟨by rw [more_2 hr hrx hk0 hkx hmo], (hw.mono hIc).drop⟩)
end Go.Proofs.YtehkiccapbkhnaaGreat
end
section
namespace Go.Kn
open Go Go.ChangeShapes Go.WideShapes Go.ChangeAt Go.RowKit
/-- All that lies in the world is read only. -/
def heapI (W : World) : HMap := fun b => W.heap[b]?
theorem St.start (W : World) : St W (heapI W) (fun _ => none) [] W :=
  ⟨rfl, rfl, rfl, ⟨Nat.le_refl _, Nat.le_refl _⟩, fun _ _ h => h, (fun _ _ h => by cases h), (fun _ _ h => by cases h), fun _ => .inr rfl, (fun _ _ h => by cases h), by simp⟩
theorem St.below {W w : World} {H : HMap} {loc : Loc} (h : St W (heapI W) H loc w) : Below W.heap.size W w :=
  ⟨h.os, h.tape, h.out, h.size.1, fun k hk => by
    have e : W.heap[k]? = some W.heap[k] := Array.getElem?_eq_getElem hk
    rw [h.imm k _ e, e]⟩
theorem RetV.law {P : Program} {f : FuncId} {args : List Value} {W : World} {v : Value} (h : RetV P f args (heapI W) v) : Calls P f args.toArray W fun e w' => e = .returned v ∧ Below W.heap.size W w' :=
  (h W _ W (St.start W)).mono fun _ _ ⟨he, hs⟩ => ⟨he, hs.below⟩
theorem keptBut_below {W w : World} {may : MemPlace → Prop} (h : Below W.heap.size W w) : W.keptBut w may := by
  refine ⟨h.os, h.output, fun i hi => ?_⟩
  rw [h.block i hi]
  rw [Array.getElem?_eq_getElem hi]
  cases W.heap[i] <;> simp
theorem trodAll_stays {H : Type} {enc : TypeId × Value → H} {P : Program} {W W' : World} (hl : laidOutB P = true) (hB : Below W.heap.size W W') (sp : Nat → Bool) : ∀ (ts : List TypeId) (vs : List Value) (ds : List (DataW H)) (ps : List MemPlace), (∀ t ∈ ts, P.readableRec t = true ∧ t < P.types.size) →
    DataW.TrodAll enc P W 0 (fun _ => true) true ts vs ds ps → (∀ x ∈ ps, x.block < W.heap.size ∧ sp x.block = true) → DataW.TrodAll enc P W' 0 sp true ts vs ds ps
  | [], [], [], ps, _, h, _ => h
  | t :: ts, v :: vs, d :: ds, ps, hr, ⟨p, q, h1, h2, e⟩, hlt => by
    subst e
    exact ⟨p, q, WideElems.Trod_stays hl (hr t (List.mem_cons_self ..)).1 (hr t (List.mem_cons_self ..)).2 h1 (fun x hx => hB.same (hlt x (List.mem_append_left _ hx)).1) (fun x hx => (hlt x (List.mem_append_left _ hx)).2),
      trodAll_stays hl hB sp ts vs ds q (fun t ht => hr t (List.mem_cons_of_mem _ ht)) h2 (fun x hx => hlt x (List.mem_append_right _ hx)), rfl⟩
/-- A law's row: it hands back true; the input reads as it did. -/
theorem post_law {H : Type} {enc : TypeId × Value → H} {P : Program} {f : Func} {s : ChangeSpec} {again : Bool} {W W' : World} {args : Array Value} {ds : List (DataW H)} {before : List MemPlace} {tb : TypeId}
    (hl : laidOutB P = true) (hr : f.resultTypes = #[tb]) (hb : P.underlying tb = some .bool) (hv : s.vars = []) (hs : (s.fn H (ds ++ [])) = { results := [.lit (.bool true)], args := ds }) (hrd : ∀ t ∈ f.params.toList, P.readableRec t = true ∧ t < P.types.size)
    (hW : DataW.Whole enc P f.params.toList s.vars false W args.toList ds [] before) (hB : Below W.heap.size W W') : s.post enc P f false true false again W args (.bool true) W' := by
  have hlt : ∀ x ∈ before, x.block < W.heap.size := fun x hx => by simpa using hW.lt x hx
  have hW0 := hW
  obtain ⟨p, q, hA, hV, rfl, hfz, _⟩ := hW
  rw [hv] at hV
  obtain ⟨_, rfl⟩ := trodVars_none hV
  rw [List.append_nil] at hlt hfz hW0
  have hres : ∀ (b : Nat) (sp : Nat → Bool) (hd : Bool), DataW.TrodAll enc P W' b sp hd f.resultTypes.toList ((Value.bool true).resultList f.resultTypes.size) [.lit (.bool true)] [] := fun b sp hd => by
    rw [hr]; exact trodAll_mk1 (shut_bool hb true)
  have hargs : ∀ sp : Nat → Bool, (∀ x ∈ p, sp x.block = true) → DataW.TrodAll enc P W' 0 sp true f.params.toList args.toList ds p := fun sp h => trodAll_stays hl hB sp _ _ _ _ hrd hA (fun x hx => ⟨hlt x hx, h x hx⟩)
  have hnil : ∀ sp : Nat → Bool, DataW.TrodVars enc P W' sp s.vars [] [] := fun sp => by rw [hv]; rfl
  refine ⟨ds, [], p, [], p, [], hW0, ?_, ?_, ?_, keptBut_below hB, fun _ => ?_⟩
  · rw [hs]; exact hres _ _ _
  · rw [hs]; exact hargs _ (fun x hx => by simpa using hlt x hx)
  · rw [hs]; exact hnil _
  · refine ⟨fun j t r ht hr' => ?_, [.lit (.bool true)] ++ ds, [], [] ++ p, ⟨[] ++ p, [], trodAll_append (hargs _ (fun _ _ => rfl)) (hres _ _ _), hnil _, by simp, ?_, fun h => by cases h⟩, fun x hx _ => by simpa using hx⟩
    · rw [hr] at ht hr'
      cases j with
      | zero => simp [Value.resultList] at ht hr'; subst ht; subst hr'; exact okWide_bool_mk hb _
      | succ j => simp at ht
    · intro b off hx
      rw [hB.frozen (hlt _ (by simpa using hx))]
      exact hfz b off (by simpa using hx)
theorem cell_heap {W : World} {b o : Nat} {u : Value} (h : W.cell? ⟨b, o, none⟩ = some u) : Cell (heapI W) [] b o u := by
  unfold World.cell? at h
  split at h
  · rename_i c t fz hb
    simp only [Option.isSome_none, Bool.false_eq_true, if_false] at h
    exact ⟨c, t, fz, .inl hb, h⟩
  · cases h
/-- A slice that came in, as it is read. -/
theorem open_SlT {H : Type} {enc : TypeId × Value → H} {P : Program} {W : World} {t e : TypeId} {size fuel0 : Nat} {cs : List Value} {x0 : DataW H × List MemPlace} {α : Type} (enc' : α → List Value) (ok : α → Prop)
    (ht : P.underlying t = some (.slice e)) (hc : P.cellsOf e = size) (hpos : 0 < size) (hlen : ∀ y, (enc' y).length = size)
    (hel : ∀ fuel cs x, DataW.trod enc P W 0 (fun _ => true) true fuel e cs = some x → ∃ y, ok y ∧ enc' y = cs)
    (hf' : DataW.trod enc P W 0 (fun _ => true) true fuel0 t cs = some x0) : ∃ av n c xs, cs = [.slice av n c] ∧ Sl (heapI W) size enc' av n c xs ∧ (∀ x ∈ xs, ok x) ∧ c ≤ maxLen := by
  rcases Go.Deep.open_slice ht hf' with ⟨e1, _⟩ | ⟨a, len0, cap0, m, n, D, Pl, e1, hb, hl, hm, hmm, _, hx⟩
  · subst e1
    exact ⟨none, 0, 0, [], rfl, .nil, (fun x hx => by cases hx), Nat.zero_le _⟩
  · subst e1
    have hlm : len0 ≤ m := by rw [hmm]; simp; exact hl
    have each : ∀ i, i < len0 → ∃ y, ok y ∧ W.cells? 0 (a.add (i * size)) size = some (enc' y) := fun i hi => by
      obtain ⟨cs', h1, h2⟩ := hx i (by omega)
      obtain ⟨y, hy, e⟩ := hel _ _ _ h2
      rw [hc] at h1
      exact ⟨y, hy, by rw [h1, e]⟩
    have all : ∀ k, k ≤ len0 → ∃ xs : List α, xs.length = k ∧ ∀ i x, xs[i]? = some x → ok x ∧ W.cells? 0 (a.add (i * size)) size = some (enc' x) := by
      intro k
      induction k with
      | zero => intro _; exact ⟨[], rfl, fun i x h => by simp at h⟩
      | succ k ih =>
        intro hk
        obtain ⟨xs, hl', hxs⟩ := ih (by omega)
        obtain ⟨y, hy, hcy⟩ := each k (by omega)
        refine ⟨xs ++ [y], by simp [hl'], fun i x h => ?_⟩
        by_cases hi : i < xs.length
        · rw [List.getElem?_append_left hi] at h; exact hxs i x h
        · rw [List.getElem?_append_right (by omega)] at h
          have : i = k := by have := (List.getElem?_eq_some_iff.1 h).1; simp at this; omega
          subst this
          rw [hl'] at h; simp at h; subst h
          exact ⟨hy, hcy⟩
    obtain ⟨xs, hl', hxs⟩ := all len0 (Nat.le_refl _)
    have add0 : ∀ (b o n : Nat), (⟨b, o, none⟩ : Addr).add n = ⟨b, o + n, none⟩ := fun b o n => by
      unfold Addr.add
      split
      · rename_i e; subst e; rfl
      · rfl
    have hspot : 0 < xs.length → a.spot = none := fun hx => by
      have hx0 : xs[0]? = some xs[0] := List.getElem?_eq_getElem hx
      have hp0 : 0 < (enc' xs[0]).length := by rw [hlen]; exact hpos
      obtain ⟨_, h1, h2⟩ := World.cells?_some (hxs 0 _ hx0).2
      have h3 := h2 0 hpos
      rw [List.getElem?_eq_getElem hp0] at h3
      simpa [Addr.add] using World.cell?_spot h3
    have cellat : ∀ i x, xs[i]? = some x → ∀ j u, (enc' x)[j]? = some u → W.cell? ⟨a.block, a.off + i * size + j, none⟩ = some u := fun i x hx j u hu => by
      obtain ⟨_, h1, h2⟩ := World.cells?_some (hxs i x hx).2
      have hj : j < size := by rw [← hlen x]; exact (List.getElem?_eq_some_iff.1 hu).1
      have h3 := h2 j hj
      rw [hu] at h3
      have hsp := hspot (by have := (List.getElem?_eq_some_iff.1 hx).1; omega)
      obtain ⟨b, o, sp⟩ := a
      simp only at hsp
      subst hsp
      rw [add0, add0] at h3
      exact h3
    refine ⟨some a, len0, cap0, xs, rfl, ⟨hl', hl, fun hn => ?_, fun k x hx j u hu => ?_⟩, fun x hx => ?_, hm⟩
    · have := hspot (by omega)
      obtain ⟨b, o, sp⟩ := a
      simp only at this
      subst this; rfl
    · exact cell_heap (cellat k x hx j u hu)
    · obtain ⟨i, hi⟩ := List.getElem?_of_mem hx
      exact (hxs i x hi).1
/-- A slice of one-cell ints. -/
theorem el_int {H : Type} {enc : TypeId × Value → H} {P : Program} {W : World} {e : TypeId} {k : IntKind} (he : P.underlying e = some (.int k)) (hk : k = .i64) (fuel : Nat) (cs : List Value) (x : DataW H × List MemPlace) (h : DataW.trod enc P W 0 (fun _ => true) true fuel e cs = some x) :
    ∃ y : Int, (-9223372036854775808 ≤ y ∧ y ≤ 9223372036854775807) ∧ [Value.int .i64 y] = cs := by
  subst hk
  obtain ⟨v, hv⟩ : ∃ v, cs = [v] := by
    have := h
    cases fuel with
    | zero => simp [DataW.trod] at this
    | succ m => unfold DataW.trod at this; rw [he] at this; split at this <;> simp_all
  subst hv
  obtain ⟨n, e, _, w⟩ := DataW.trod_int he h
  cases e
  simp only [Lit.wf, Bool.and_eq_true, decide_eq_true_eq] at w
  exact ⟨n, w, rfl⟩
end Go.Kn
end
section
namespace Go.Kn
open Go
theorem trod_seg {H : Type} {enc : TypeId × Value → H} {P : Program} {W : World} {base : Nat} {spare : Nat → Bool} {held : Bool} {t C : Nat} {fs : Array Field} {fuel : Nat} {cs : List Value} {x : DataW H × List MemPlace} (hs : P.underlying t = some (.struct fs))
    (hC : P.cellsOf t = C) (h : DataW.trod enc P W base spare held fuel t cs = some x) :
    cs.length = C ∧ ∃ n, ∀ (i ty off k : Nat), ((fs[i]?).map fun f => (f.type, f.offset)) = some (ty, off) → P.cellsOf ty = k → ∃ y, DataW.trod enc P W base spare held n ty ((cs.drop off).take k) = some y := by
  obtain ⟨xs, n, _, _, hl, hxl, hf⟩ := DataW.trod_struct hs h
  refine ⟨hl.trans hC, n, fun i ty off k hi hk => ?_⟩
  obtain ⟨f, hfi, e⟩ := Option.map_eq_some_iff.1 hi
  cases e
  have g := hf i f hfi
  have hix : i < xs.length := by rw [hxl]; exact (Array.getElem?_eq_some_iff.1 hfi).1
  rw [hk, List.getElem?_eq_getElem hix] at g
  exact ⟨_, g⟩
end Go.Kn
end
section
namespace Go.Proofs.YtehkiccapbkhnaaGreat
open Go Go.Kn Go.Proofs
open Go.ChangeShapes Go.WideShapes Go.ChangeAt Go.RowKit
set_option maxRecDepth 100000
theorem ound_3 : Tryz.prog.underlying 3 = some (.int .i64) := by kernel_rfl
theorem ound_23 : Tryz.prog.underlying 23 = some (.slice 3) := by kernel_rfl
theorem ostr_58 : Tryz.prog.underlying 58 = some (.struct (Tryz.prog.fieldsOf 58)) := by kernel_rfl
theorem ound_27 : Tryz.prog.underlying 27 = some (.slice 58) := by kernel_rfl
theorem ostr_33 : Tryz.prog.underlying 33 = some (.struct (Tryz.prog.fieldsOf 33)) := by kernel_rfl
theorem ound_5 : Tryz.prog.underlying 5 = some (.int .u8) := by kernel_rfl
theorem relS_of {I : HMap} : ∀ {hs : List SH}, (∀ h ∈ hs, ∃ s, SesAt I h s) → ∃ ss, RelS I hs ss
  | [], _ => ⟨[], RelS.nil⟩
  | h :: hs, H => by
    obtain ⟨s, h0⟩ := H h (by simp)
    obtain ⟨ss, h1⟩ := relS_of (hs := hs) fun x hx => H x (by simp [hx])
    refine ⟨s :: ss, by simp [h1.1], fun k x y a b => ?_⟩
    cases k with
    | zero => simp at a b; subst a b; exact h0
    | succ k => simp at a b; exact h1.2 k x y a b
theorem crAt_of {I : HMap} {a a2 : Option Addr} {n c n2 c2 : Nat} {ds : List Int} {st da lo ru : Int} {hs : List SH} (h0 : Sl I 1 encI a n c ds) (h5 : Sl I 4 encSH a2 n2 c2 hs) (ho : ∀ h ∈ hs, ∃ s, SesAt I h s) : ∃ cr, CrAt I ⟨a, n, c, st, da, lo, ru, a2, n2, c2⟩ cr := by
  obtain ⟨ss, hr⟩ := relS_of ho
  exact ⟨⟨ds, st, da, lo, ru, ss⟩, h0, rfl, rfl, rfl, rfl, hs, h5, hr⟩
theorem el_ses {H : Type} {enc : TypeId × Value → H} {W : World} (fuel : Nat) (cs : List Value) (x : DataW H × List MemPlace) (h : DataW.trod enc Tryz.prog W 0 (fun _ => true) true fuel 58 cs = some x) : ∃ y : SH, (fun h => ∃ s, SesAt (heapI W) h s) y ∧ encSH y = cs := by
  obtain ⟨hl, n0_, f0⟩ := trod_seg (C := 4) ostr_58 (by kernel_rfl) h
  match cs, hl with
  | [c0, c1, c2, c3], _ =>
    obtain ⟨_, g0_0⟩ := f0 0 3 0 1 (by kernel_rfl) (by kernel_rfl)
    obtain ⟨n0, e0, _, w0⟩ := DataW.trod_int ound_3 (show DataW.trod enc Tryz.prog W 0 (fun _ => true) true n0_ 3 [c0] = some _ from g0_0)
    obtain ⟨_, g0_1⟩ := f0 1 3 1 1 (by kernel_rfl) (by kernel_rfl)
    obtain ⟨n1, e1, _, w1⟩ := DataW.trod_int ound_3 (show DataW.trod enc Tryz.prog W 0 (fun _ => true) true n0_ 3 [c1] = some _ from g0_1)
    obtain ⟨_, g0_2⟩ := f0 2 23 2 1 (by kernel_rfl) (by kernel_rfl)
    obtain ⟨a2, m2, q2, n2, e2, s2, o2, _⟩ := open_SlT (t := 23) (e := 3) encI (fun n : Int => -9223372036854775808 ≤ n ∧ n ≤ 9223372036854775807) ound_23 (by kernel_rfl) (by decide) encI_len (fun fuel cs x h => el_int ound_3 rfl fuel cs x h) (show DataW.trod enc Tryz.prog W 0 (fun _ => true) true n0_ 23 [c2] = some _ from g0_2)
    obtain ⟨_, g0_3⟩ := f0 3 23 3 1 (by kernel_rfl) (by kernel_rfl)
    obtain ⟨a3, m3, q3, n3, e3, s3, o3, _⟩ := open_SlT (t := 23) (e := 3) encI (fun n : Int => -9223372036854775808 ≤ n ∧ n ≤ 9223372036854775807) ound_23 (by kernel_rfl) (by decide) encI_len (fun fuel cs x h => el_int ound_3 rfl fuel cs x h) (show DataW.trod enc Tryz.prog W 0 (fun _ => true) true n0_ 23 [c3] = some _ from g0_3)
    cases e0; cases e1; cases e2; cases e3
    exact ⟨⟨n0, n1, a2, m2, q2, a3, m3, q3⟩, ⟨⟨n0, n1, n2, n3⟩, rfl, rfl, s2, s3⟩, rfl⟩
theorem el_cr {H : Type} {enc : TypeId × Value → H} {W : World} (fuel : Nat) (cs : List Value) (x : DataW H × List MemPlace) (h : DataW.trod enc Tryz.prog W 0 (fun _ => true) true fuel 33 cs = some x) : ∃ y : CH, (fun x => ∃ cr, CrAt (heapI W) x cr) y ∧ encCH y = cs := by
  obtain ⟨hl, n0_, f0⟩ := trod_seg (C := 6) ostr_33 (by kernel_rfl) h
  match cs, hl with
  | [c0, c1, c2, c3, c4, c5], _ =>
    obtain ⟨_, g0_0⟩ := f0 0 23 0 1 (by kernel_rfl) (by kernel_rfl)
    obtain ⟨a0, m0, q0, n0, e0, s0, o0, _⟩ := open_SlT (t := 23) (e := 3) encI (fun n : Int => -9223372036854775808 ≤ n ∧ n ≤ 9223372036854775807) ound_23 (by kernel_rfl) (by decide) encI_len (fun fuel cs x h => el_int ound_3 rfl fuel cs x h) (show DataW.trod enc Tryz.prog W 0 (fun _ => true) true n0_ 23 [c0] = some _ from g0_0)
    obtain ⟨_, g0_1⟩ := f0 1 3 1 1 (by kernel_rfl) (by kernel_rfl)
    obtain ⟨n1, e1, _, w1⟩ := DataW.trod_int ound_3 (show DataW.trod enc Tryz.prog W 0 (fun _ => true) true n0_ 3 [c1] = some _ from g0_1)
    obtain ⟨_, g0_2⟩ := f0 2 3 2 1 (by kernel_rfl) (by kernel_rfl)
    obtain ⟨n2, e2, _, w2⟩ := DataW.trod_int ound_3 (show DataW.trod enc Tryz.prog W 0 (fun _ => true) true n0_ 3 [c2] = some _ from g0_2)
    obtain ⟨_, g0_3⟩ := f0 3 3 3 1 (by kernel_rfl) (by kernel_rfl)
    obtain ⟨n3, e3, _, w3⟩ := DataW.trod_int ound_3 (show DataW.trod enc Tryz.prog W 0 (fun _ => true) true n0_ 3 [c3] = some _ from g0_3)
    obtain ⟨_, g0_4⟩ := f0 4 3 4 1 (by kernel_rfl) (by kernel_rfl)
    obtain ⟨n4, e4, _, w4⟩ := DataW.trod_int ound_3 (show DataW.trod enc Tryz.prog W 0 (fun _ => true) true n0_ 3 [c4] = some _ from g0_4)
    obtain ⟨_, g0_5⟩ := f0 5 27 5 1 (by kernel_rfl) (by kernel_rfl)
    obtain ⟨a5, m5, q5, n5, e5, s5, o5, _⟩ := open_SlT (t := 27) (e := 58) encSH (fun h => ∃ s, SesAt (heapI W) h s) ound_27 (by kernel_rfl) (by decide) encSH_len (fun fuel cs x h => el_ses fuel cs x h) (show DataW.trod enc Tryz.prog W 0 (fun _ => true) true n0_ 27 [c5] = some _ from g0_5)
    cases e0; cases e1; cases e2; cases e3; cases e4; cases e5
    exact ⟨⟨a0, m0, q0, n1, n2, n3, n4, a5, m5, q5⟩, crAt_of s0 s5 o5, rfl⟩
theorem open_cr {H : Type} {enc : TypeId × Value → H} {W : World} {base : Nat} {v : Value} {d : DataW H} {p : List MemPlace} (hv : Value.okWide Tryz.prog W .any base 33 v) (h : DataW.Trod enc Tryz.prog W 0 (fun _ => true) true 33 v d p) : ∃ y : CH, v = encCHA y ∧ (fun x => ∃ cr, CrAt (heapI W) x cr) y := by
  obtain ⟨cs, rfl, _⟩ := okWide_struct ostr_33 hv
  obtain ⟨fuel, hf⟩ := h
  obtain ⟨l⟩ := cs
  obtain ⟨y, hy, e⟩ := el_cr fuel l _ hf
  exact ⟨y, by rw [← e]; rfl, hy⟩
theorem wf_u8 {n : Int} (h : (Lit.int .u8 n).wf = true) : 0 ≤ n ∧ n ≤ 255 := by
  simp only [Lit.wf, Bool.and_eq_true, decide_eq_true_eq] at h
  exact h
end Go.Proofs.YtehkiccapbkhnaaGreat
end
section
namespace Go.Proofs.YtehkiccapbkhnaaGreat
open Go Go.Kn Go.Proofs
open Go.ChangeShapes Go.WideShapes Go.ChangeAt Go.RowKit
theorem wd_cr {H : Type} {enc : TypeId × Value → H} {W : World} {x : CH} {d : DataW H} {p : List MemPlace} (h : DataW.Trod enc Tryz.prog W 0 (fun _ => true) true 33 (encCHA x) d p) {ts : List TypeId} {ds : List (DataW H)} (hw : (DataW.weightsEach Tryz.prog (33 :: ts) (d :: ds)).all (· ≤ reachBytes) = true) : x.n * 8 ≤ 140737488351232 := by
  obtain ⟨fuel, hf⟩ := h
  obtain ⟨xs, n, rfl, hx, hl, hxl, hfld⟩ := DataW.trod_struct ostr_33 hf
  have hft : ((Tryz.prog.fieldsOf 33)[0]?).map (fun f => (f.type, f.offset)) = some (23, 0) := by kernel_rfl
  have hfs : (Tryz.prog.fieldsOf 33).toList.map (·.type) = [23, 3, 3, 3, 3, 27] := by kernel_rfl
  have hsz : (Tryz.prog.fieldsOf 33).size = 6 := by kernel_rfl
  have hc1 : Tryz.prog.cellsOf 23 = 1 := by kernel_rfl
  obtain ⟨f, hfi, hfe⟩ := Option.map_eq_some_iff.1 hft
  have ht9 : f.type = 23 := congrArg Prod.fst hfe
  have ho9 : f.offset = 0 := congrArg Prod.snd hfe
  have h0 := hfld 0 f hfi
  rw [ht9, ho9, hc1] at h0
  rw [hsz] at hxl
  have hx0 : ∃ y ys, xs = y :: ys := by
    cases xs with
    | nil => cases hxl
    | cons y ys => exact ⟨y, ys, rfl⟩
  obtain ⟨y, ys, rfl⟩ := hx0
  have h1 : DataW.trod enc Tryz.prog W 0 (fun _ => true) true n 23 [.slice x.a x.n x.c] = some y := h0
  have hd : d = .agg (y.1 :: ys.map (·.1)) := by have := congrArg Prod.fst hx; exact this
  subst hd
  rcases DataW.trod_slice ound_23 h1 with ⟨e, _⟩ | ⟨a, len, cap, elems, rest, m, _, e, e2, _, _, _, hlen, _⟩
  · have : x.n = 0 := by simp at e; exact e.2.1
    omega
  · have hn : x.n = len := by simp at e; exact e.2.1
    have hy : y.1 = .slice (elems.map (·.1)) (rest.map (·.1)) := by rw [e2]
    have hb : Tryz.prog.bytesOf 3 = 8 := by kernel_rfl
    simp only [DataW.weightsEach, DataW.weights, ostr_33, hfs, ound_23, hy, hb, List.all_append, List.all_cons, Bool.and_eq_true, decide_eq_true_eq, List.map_cons, List.cons_append, List.length_map, reachBytes, Array.toList] at hw
    have h2 : (elems.length + rest.length) * 8 ≤ 140737488351232 := of_decide_eq_true hw.1
    omega
/-- A contract that has the reach in hand. -/
theorem returnsInHanded_weights {H : Type} {enc : TypeId × Value → H} {a : Assume} {C : Checked} {os : Os} {f : FuncId} {fn : Func} {s : ChangeSpec} {conds : List PathCond} {apart fresh handsOn again : Bool}
    (own : ownKnob C.prog.godebug = none) (started : os.Started) (noInit : C.prog.inits.idxOf? f = none) (hfn : C.prog.funcs[f]? = some fn)
    (witness : ∃ (w : World) (tape : Tape) (i : Input), w.os = os ∧ (w.forCall tape i).Shaped C.prog ∧ i.vars = [] ∧ Input.okWide C.prog (w.forCall tape i) .any w.heap.size f i ∧
      s.pre6 enc C.prog fn conds apart (w.forCall tape i).memory i.args ∧ a.holds C.prog (lone (Frame.enter C.prog f i.args .normal) [] (w.forCall tape i)))
    (contract : ∀ (W : World) (base : Nat) (args : Array Value) (ds gs : List (DataW H)) (before : List MemPlace),
      (∀ (j : Nat) t v, fn.params[j]? = some t → args[j]? = some v → Value.okWide C.prog W .any base t v) →
      DataW.Whole enc C.prog fn.params.toList s.vars apart W args.toList ds gs before →
      conds.all (PathCond.test C.prog ⟨fn.params.toList, ds, s.plain.varTypes C.prog, gs⟩) = true →
      (DataW.weightsEach C.prog (fn.params.toList ++ s.plain.varTypes C.prog) (ds ++ gs)).all (· ≤ reachBytes) = true →
      a.holds C.prog (lone (Frame.enter C.prog f args .normal) [] W) →
      Calls C.prog f args W fun e W' => ∃ v, e = .returned v ∧ s.post enc C.prog fn apart fresh handsOn again W args v W') :
    ReturnsInHanded a C os f .any (s.pre6 enc C.prog fn conds apart) (s.post enc C.prog fn apart fresh handsOn again) := by
  have key := returnsInHanded_of_change_and (enc := enc) (a := a) (C := C) (os := os) (f := f) (fn := fn) (s := s) (conds := conds) (apart := apart) (fresh := fresh) (handsOn := handsOn) (again := again) (X := fun _ _ => True) (fun _ _ _ _ h => h) own started noInit hfn
    (let ⟨w, t, i, h1, h2, h3, h4, h5, h6⟩ := witness; ⟨w, t, i, h1, h2, h3, h4, ⟨⟨h5.1, trivial⟩, h5.2⟩, h6⟩)
    (fun W base args ds gs before g1 g2 g3 g4 _ g6 => contract W base args ds gs before g1 g2 g3 g4 g6)
  have e : (fun w args => (s.pre enc C.prog fn conds apart w args ∧ True) ∧ sizedMet enc C.prog fn (OpenSpec.ofChange s) apart w args) = s.pre6 enc C.prog fn conds apart := by
    funext w args
    unfold ChangeSpec.pre6
    rw [and_true]
  rw [e] at key
  exact key
end Go.Proofs.YtehkiccapbkhnaaGreat
end
section
namespace Go.Proofs.YtehkiccapbkhnaaGreat
open Go Go.Kn Go.Proofs
open Go.ChangeShapes Go.WideShapes Go.ChangeAt Go.RowKit
theorem own : ownKnob Tryz.prog.godebug = none := by kernel_rfl
theorem laidOut : laidOutB Tryz.prog = true := by kernel_rfl
set_option maxRecDepth 100000 in
theorem rehearseMore_lifted (os : Os) (started : os.Started) (H : Type) (enc : TypeId × Value → H) :
    ReturnsInHanded {} Tryz.checked os 9 .any (Rows.rehearseMoreSpec.pre6 enc Tryz.prog Tryz.f9 Rows.rehearseMoreRow.domain false) (Rows.rehearseMoreSpec.post enc Tryz.prog Tryz.f9 false true false false) := by
  refine returnsInHanded_weights (C := Tryz.checked) own started (by kernel_rfl) Tryz.func9
    (ChangeSpec.witness6 (enc := enc) (C := Tryz.checked) false ⟨#[], #[.agg #[.slice none 0 0, .int .i64 0, .int .i64 0, .int .i64 0, .int .i64 0, .slice none 0 0], .int .u8 0, .int .u8 0, .int .u8 0, .int .u8 0, .int .u8 0], []⟩ 8 (by kernel_rfl) (by kernel_rfl) (by kernel_rfl) (by kernel_rfl)) ?_
  intro W base args ds gs before hval0 hW hcnd hwt _
  have hval : ∀ (j : Nat) t v, Tryz.f9.params[j]? = some t → args[j]? = some v → Value.okWide Tryz.prog W .any base t v := hval0
  have hW' := hW
  obtain ⟨p, q, hA0, hV, rfl, hfz, hnd⟩ := hW
  have hA : DataW.TrodAll enc Tryz.prog W 0 (fun _ => true) true Tryz.f9.params.toList args.toList ds p := hA0
  rw [Tryz.params9] at hA hval
  obtain ⟨v0, vs1, d0, ds1, p0, q1, ea, rfl, rfl, h0, hA⟩ := trodAll_cons hA
  obtain ⟨v1, vs2, d1, ds2, p1, q2, rfl, rfl, rfl, h1, hA⟩ := trodAll_cons hA
  obtain ⟨v2, vs3, d2, ds3, p2, q3, rfl, rfl, rfl, h2, hA⟩ := trodAll_cons hA
  obtain ⟨v3, vs4, d3, ds4, p3, q4, rfl, rfl, rfl, h3, hA⟩ := trodAll_cons hA
  obtain ⟨v4, vs5, d4, ds5, p4, q5, rfl, rfl, rfl, h4, hA⟩ := trodAll_cons hA
  obtain ⟨v5, vs6, d5, ds6, p5, q6, rfl, rfl, rfl, h5, hA⟩ := trodAll_cons hA
  obtain ⟨rfl, rfl, rfl⟩ := trodAll_nil hA
  have ea' : args = #[v0, v1, v2, v3, v4, v5] := by rw [← Array.toArray_toList (xs := args), ea]
  subst ea'
  obtain ⟨rfl, rfl⟩ := trodVars_none hV
  obtain ⟨x, rfl, cr, hC⟩ := open_cr (hval 0 33 v0 rfl rfl) h0
  have hxn := wd_cr h0 hwt
  obtain ⟨z0, rfl, _, _, wfz0⟩ := open_int ound_5 (hval 1 5 v1 rfl rfl) h1
  have hz0 := wf_u8 wfz0
  obtain ⟨z1, rfl, _, _, wfz1⟩ := open_int ound_5 (hval 2 5 v2 rfl rfl) h2
  have hz1 := wf_u8 wfz1
  obtain ⟨z2, rfl, _, _, wfz2⟩ := open_int ound_5 (hval 3 5 v3 rfl rfl) h3
  have hz2 := wf_u8 wfz2
  obtain ⟨z3, rfl, _, _, wfz3⟩ := open_int ound_5 (hval 4 5 v4 rfl rfl) h4
  have hz3 := wf_u8 wfz3
  obtain ⟨z4, rfl, _, _, wfz4⟩ := open_int ound_5 (hval 5 5 v5 rfl rfl) h5
  have hz4 := wf_u8 wfz4
  refine (RetV.law (w_moreLaw hC hxn z0 z1 z2 z3 z4 hz0 hz1 hz2 hz3 hz4)).mono fun e W' ⟨he, hB⟩ => ?_
  subst he
  exact ⟨_, rfl, post_law laidOut (by kernel_rfl) und_4 rfl rfl (by rw [Tryz.params9]; simp only [List.mem_cons, List.not_mem_nil, or_false, forall_eq_or_imp, forall_eq]; exact ⟨⟨by kernel_rfl, of_decide_eq_true (by kernel_rfl)⟩, ⟨by kernel_rfl, of_decide_eq_true (by kernel_rfl)⟩, ⟨by kernel_rfl, of_decide_eq_true (by kernel_rfl)⟩, ⟨by kernel_rfl, of_decide_eq_true (by kernel_rfl)⟩, ⟨by kernel_rfl, of_decide_eq_true (by kernel_rfl)⟩, ⟨by kernel_rfl, of_decide_eq_true (by kernel_rfl)⟩⟩) hW' hB⟩
theorem rehearseMore_holds : Rows.RehearseMoreSaid :=
  OpenClaim.holds_of_wide 9 Tryz.f9 rfl rfl rfl rfl rfl rfl rfl ⟨rfl, rfl, rfl, rfl, rfl⟩ rfl rfl rfl rfl rfl (by kernel_rfl) Tryz.func9 (by kernel_rfl)
    (of_decide_eq_true (by kernel_rfl)) (by unfold Func.isWrapper; first | (rw [if_pos (by decide +kernel)]; kernel_rfl) | (rw [if_neg (by decide +kernel)]; exact ⟨rfl, rfl⟩))
    (fun os started H enc _ => rehearseMore_lifted os started H enc)
#print axioms rehearseMore_holds
end Go.Proofs.YtehkiccapbkhnaaGreat
end
