/- rehearseTogether_holds, part F of the proof: what its theorems say holds without further conditions. -/
import Derived.KernelRfl
import Derived.ProofKit
import Derived.Deep.Slices
import Derived.Test.YtehkiccapbkhnaaGreatRows
import Derived.Test.YtehkiccapbkhnaaGreatRTE
section
namespace Go.Proofs.YtehkiccapbkhnaaGreat
open Go Go.Kn Go.Proofs
theorem fun_23 : Fun Tryz.prog 23 := .of Tryz.func23 (by kernel_rfl) (by kernel_rfl)
theorem fun_64 : Fun Tryz.prog 64 := .of Tryz.func64 (by kernel_rfl) (by kernel_rfl)
theorem w_samP_step {I : HMap} {r d wz : Int} {ks : List Pr} {ka : Option Addr} {kn kc : Nat} {hs9 : List PH} (hK : Sl I 4 encPH ka kn kc hs9) (hks : PrsAt I hs9 ks) {r' d' wz' : Int} {ks' : List Pr} {ka' : Option Addr} {kn' kc' : Nat} {hs9' : List PH} (hK' : Sl I 4 encPH ka' kn' kc' hs9') (hks' : PrsAt I hs9' ks') (hkn : kn ≤ 100000) (f : Nat) (hf : f ≤ 100) (ih : ∀ f', f = f' + 1 → ∀ (k k' : Pr), k ∈ ks → k' ∈ ks' → ∀ (I' : HMap), HLe I I' → ∀ (h h' : PH), PrAt I' h k → PrAt I' h' k' → RetV Tryz.prog 64 [encPHA h, encPHA h', .int .i64 f'] I' (.bool (samP f' k k'))) : RetV Tryz.prog 64 [encPHA ⟨r, d, wz, ka, kn, kc⟩, encPHA ⟨r', d', wz', ka', kn', kc'⟩, .int .i64 f] I (.bool (samP f (.mk r d wz ks) (.mk r' d' wz' ks'))) := by
 intro g H w hw
 refine enter Tryz.func64 rfl Tryz.ntmps64 rfl hw ?_
 have hIc := HLe.refl I
 have hlK : ks.length = kn := by rw [← hks.len]; exact hK.len
 have hlK' : ks'.length = kn' := by rw [← hks'.len]; exact hK'.len
 refine zR ?_
 refine XO_box rfl rfl rfl (fun b_3 => ?_)
 refine XO_box rfl rfl rfl (fun b_4 => ?_)
 refine zA ?_
 refine zN ?_
 refine X_seq ?_
 refine X_seq ?_
 refine X_freeze .here (fun I1 hI1 hb1 => ?_)
 have hK := hK.mono hI1; have hks := hks.mono hI1; have hK' := hK'.mono hI1; have hks' := hks'.mono hI1; have hIc := hIc.trans hI1
 have h4 := ImmC.of hb1
 refine X_freeze .here (fun I2 hI2 hb2 => ?_)
 have hK := hK.mono hI2; have hks := hks.mono hI2; have hK' := hK'.mono hI2; have hks' := hks'.mono hI2; have h4 := h4.mono hI2; have hIc := hIc.trans hI2
 have h3 := ImmC.of hb2
 refine X_region ?_
 refine XO_v0 (ev_fieldAddr rfl fld_45_0) rfl rfl rfl ?_
 refine XO_v0 (ev_load rfl sct_3 (fun hg => by exact Cell.imm h3 rfl)) rfl rfl rfl ?_
 refine XO_v0 (ev_fieldAddr rfl fld_45_0) rfl rfl rfl ?_
 refine XO_v0 (ev_load rfl sct_3 (fun hg => by exact Cell.imm h4 rfl)) rfl rfl rfl ?_
 refine zC ?_
 refine zM ?_
 refine XO_pushF 5 rfl rfl rfl ?_
 refine XO_v1 (ev_fieldAddr rfl fld_45_1) (.some rfl rfl rfl rfl gbf) rfl rfl rfl ?_
 refine XO_v1 (ev_load rfl sct_3 (fun hg => by exact Cell.imm h3 rfl)) (.some rfl rfl rfl rfl gbf) rfl rfl rfl ?_
 refine XO_v1 (ev_fieldAddr rfl fld_45_1) (.some rfl rfl rfl rfl gbf) rfl rfl rfl ?_
 refine XO_v1 (ev_load rfl sct_3 (fun hg => by exact Cell.imm h4 rfl)) (.some rfl rfl rfl rfl gbf) rfl rfl rfl ?_
 refine XO_v1 (ev_cmp rfl rfl rfl) (.some rfl rfl rfl rfl gbf) rfl rfl rfl ?_
 refine XO_or0 rfl rfl rfl rfl rfl ?_
 refine zM ?_
 refine XO_pushF 12 rfl rfl rfl ?_
 refine XO_v1 (ev_fieldAddr rfl fld_45_2) (.some rfl rfl rfl rfl gbf) rfl rfl rfl ?_
 refine XO_v1 (ev_load rfl sct_3 (fun hg => by exact Cell.imm h3 rfl)) (.some rfl rfl rfl rfl gbf) rfl rfl rfl ?_
 refine XO_v1 (ev_fieldAddr rfl fld_45_2) (.some rfl rfl rfl rfl gbf) rfl rfl rfl ?_
 refine XO_v1 (ev_load rfl sct_3 (fun hg => by exact Cell.imm h4 rfl)) (.some rfl rfl rfl rfl gbf) rfl rfl rfl ?_
 refine XO_v1 (ev_cmp rfl rfl rfl) (.some rfl rfl rfl rfl gbf) rfl rfl rfl ?_
 refine XO_or0 rfl rfl rfl rfl rfl ?_
 refine zM ?_
 refine XO_pushF 19 rfl rfl rfl ?_
 refine XO_v1 (ev_fieldAddr rfl fld_45_3) (.some rfl rfl rfl rfl gbf) rfl rfl rfl ?_
 refine XO_v1 (ev_load rfl sct_35 (fun hg => by exact Cell.imm h3 rfl)) (.some rfl rfl rfl rfl gbf) rfl rfl rfl ?_
 refine XO_v1 (ev_lenS rfl slt_35) (.some rfl rfl rfl rfl gbf) rfl rfl rfl ?_
 refine XO_v1 (ev_fieldAddr rfl fld_45_3) (.some rfl rfl rfl rfl gbf) rfl rfl rfl ?_
 refine XO_v1 (ev_load rfl sct_35 (fun hg => by exact Cell.imm h4 rfl)) (.some rfl rfl rfl rfl gbf) rfl rfl rfl ?_
 refine XO_v1 (ev_lenS rfl slt_35) (.some rfl rfl rfl rfl gbf) rfl rfl rfl ?_
 refine XO_v1 (ev_cmp rfl rfl rfl) (.some rfl rfl rfl rfl gbf) rfl rfl rfl ?_
 refine XO_or0 rfl rfl rfl rfl rfl ?_
 refine zM ?_
 refine XO_pushF 28 rfl rfl rfl ?_
 refine XO_v1 (ev_move rfl) (.some rfl rfl rfl rfl gbf) rfl rfl rfl ?_
 refine XO_v1 (ev_cmp rfl rfl rfl) (.some rfl rfl rfl rfl gbf) rfl rfl rfl ?_
 refine XO_or0 rfl rfl rfl rfl rfl ?_
 refine zN ?_
 refine X_cond rfl (fun hc39 => ?_) (fun hc39 => ?_)
 ·
  have h1 : (((((r != r') || (d != d')) || (wz != wz')) || ((ks.length : Int) != (ks'.length : Int))) || ((f : Int) == 0)) = true := by rw [hlK, hlK']; exact hc39
  refine zR ?_
  refine zA ?_
  refine zN ?_
  refine X_ret ?_
  refine at_then_r ?_
  exact at_ret1 rfl rfl (fun w hw => ⟨by rw [samP_bad h1], (hw.mono hIc).drop⟩)
 have h1 : (((((r != r') || (d != d')) || (wz != wz')) || ((ks.length : Int) != (ks'.length : Int))) || ((f : Int) == 0)) = false := by rw [hlK, hlK']; exact hc39
 have h1s := h1
 simp at h1s
 obtain ⟨f', rfl⟩ : ∃ f', f = f' + 1 := ⟨f - 1, by omega⟩
 refine X_skip ?_
 refine at_then ?_
 refine X_seq ?_
 refine zR ?_
 refine zA ?_
 refine zN ?_
 refine X_block ?_
 refine X_loopT [(2, _), (3, _), (4, _)] (.cons rfl (.cons rfl (.cons rfl .nil))) (fun T L0 mz E I' loc' => ∃ (k : Nat), mz = kn - k ∧ E = (7, .int .i64 k) :: T ∧ I2 = I' ∧ L0 = loc' ∧ k ≤ kn ∧ SamT f' ks ks' k) _ _ _ _ ⟨0, rfl, rfl, rfl, rfl, Nat.zero_le _, samT_0⟩ (.cons rfl (.cons rfl (.cons rfl (.cons rfl .nil)))) (HLe.refl _) rfl ?_
 rintro mz E I' loc' ⟨k, rfl, rfl, rfl, rfl, hk, hsa⟩
 refine X_seq ?_
 refine zR ?_
 refine zM ?_
 refine XO_v0 (ev_fieldAddr rfl fld_45_3) rfl rfl rfl ?_
 refine XO_v0 (ev_load rfl sct_35 (fun hg => by exact Cell.imm h3 rfl)) rfl rfl rfl ?_
 refine XO_v0 (ev_lenS rfl slt_35) rfl rfl rfl ?_
 refine zC ?_
 refine zN ?_
 refine X_cond rfl (fun hc44 => ?_) (fun hc44 => ?_)
 ·
  have hlt_k : k < kn := by have h := hc44; simp at h; omega
  obtain ⟨kh, hkh⟩ := hK.at hlt_k
  obtain ⟨kk, hkk, hka⟩ := hks.at k kh hkh
  obtain ⟨kh', hkh'⟩ := hK'.at (show k < kn' by omega)
  obtain ⟨kk', hkk', hka'⟩ := hks'.at k kh' hkh'
  refine X_skip ?_
  refine at_then ?_
  refine X_seq ?_
  refine X_block ?_
  refine X_seq ?_
  refine X_draw mixed (by kernel_rfl) ?_
  refine XQ_v0 (ev_fieldAddr rfl fld_45_3) rfl rfl rfl ?_
  refine XQ_v0 (ev_load rfl sct_35 (fun hg => by exact Cell.imm h3 rfl)) rfl rfl rfl ?_
  refine XQ_v0 (ev_move rfl) rfl rfl rfl ?_
  refine XQ_v0 (ev_indexSl rfl rfl slt_35 hK (fun hg => by (dsimp only; omega))) rfl rfl rfl ?_
  refine XQ_v0 (ev_loadA rfl agt_45 (fun hg => by exact Sl.getA hK hkh) rfl) rfl rfl rfl ?_
  refine XQ_v0 (ev_fieldAddr rfl fld_45_3) rfl rfl rfl ?_
  refine XQ_v0 (ev_load rfl sct_35 (fun hg => by exact Cell.imm h4 rfl)) rfl rfl rfl ?_
  refine XQ_v0 (ev_move rfl) rfl rfl rfl ?_
  refine XQ_v0 (ev_indexSl rfl rfl slt_35 hK' (fun hg => by (dsimp only; omega))) rfl rfl rfl ?_
  refine XQ_v0 (ev_loadA rfl agt_45 (fun hg => by exact Sl.getA hK' hkh') rfl) rfl rfl rfl ?_
  refine XQ_v0 (ev_move rfl) rfl rfl rfl ?_
  refine XQ_v0 (ev_arB rfl rfl rfl (fun hg => by omega)) rfl rfl rfl ?_
  refine XQ_callV0 (cap := []) (vs := [_, _, _]) rfl rfl fun_64 ((show RetV Tryz.prog 64 [encPHA kh, encPHA kh', .int .i64 (((f' + 1 : Nat) : Int) - 1)] I2 (.bool (samP f' kk kk')) from by rw [show ((f' + 1 : Nat) : Int) - 1 = (f' : Int) by omega]; exact ih f' rfl kk kk' (List.mem_of_getElem? hkk) (List.mem_of_getElem? hkk') _ hIc kh kh' hka hka')) rfl rfl ?_
  refine XQ_v0 (ev_not rfl) rfl rfl rfl ?_
  refine XQ_nil ?_
  refine at_then ?_
  refine X_cond rfl (fun hc60 => ?_) (fun hc60 => ?_)
  ·
   have hsb : samP f' kk kk' = false := by simpa using hc60
   refine zR ?_
   refine zA ?_
   refine zN ?_
   refine X_ret ?_
   refine at_block_r ?_
   refine at_then_r ?_
   refine at_then_r ?_
   refine at_block_r ?_
   refine at_then_r ?_
   exact at_ret1 rfl rfl (fun w hw => ⟨by rw [samP_good h1, samL_bad hkk hkk' hsb], (hw.mono hIc).drop⟩)
  refine X_skip ?_
  refine at_block_n ?_
  refine at_then ?_
  refine X_region ?_
  refine zM ?_
  refine XO_v0 (ev_arB rfl rfl rfl (fun hg => by omega)) rfl rfl rfl ?_
  refine zA ?_
  refine XO_nil ?_
  exact at_met2 _ _ ⟨kn - (k + 1), by omega, k + 1, rfl, rfl, rfl, rfl, by omega, samT_step hsa hkk hkk' (by simpa using hc60)⟩ (.cons rfl (.cons rfl (.cons rfl (.cons rfl .nil)))) (by repeat (first | exact .refl | exact subL_left | refine subL_app ?_ | refine .drop ?_ | refine subL_add ?_))
 have hge_k : kn ≤ k := by have h := hc44; simp at h; omega
 refine X_exit ?_
 refine at_then_e ?_
 refine at_then_e ?_
 refine at_block_hit ?_
 refine at_then ?_
 refine zR ?_
 refine zA ?_
 refine zN ?_
 refine X_ret ?_
 exact at_ret1 rfl rfl (fun w hw => ⟨by rw [samP_good h1, samT_end hsa (by omega)], (hw.mono hIc).drop⟩)
theorem w_samP : ∀ (f : Nat) (hf : f ≤ 100) (p p' : Pr) {I : HMap} (h h' : PH) (_ : PrAt I h p) (_ : PrAt I h' p') (_ : smlP p), RetV Tryz.prog 64 [encPHA h, encPHA h', .int .i64 f] I (.bool (samP f p p')) := by
 intro f
 induction f with
 | zero =>
  rintro hf ⟨r, d, w, ks⟩ ⟨r', d', w', ks'⟩ I ⟨hr0, hd0, hw0, ka, kn, kc⟩ ⟨hr0', hd0', hw0', ka', kn', kc'⟩ hP hP' hsm
  unfold PrAt at hP hP'
  obtain ⟨e1, e2, e3, hs9, hK, hks⟩ := hP
  obtain ⟨e1', e2', e3', hs9', hK', hks'⟩ := hP'
  simp only at e1 e2 e3 hK e1' e2' e3' hK'
  subst e1 e2 e3 e1' e2' e3'
  unfold smlP at hsm
  exact w_samP_step hK hks hK' hks' (by have h1 := hks.len; have h2 := hK.len; omega) 0 hf (fun f' e => by omega)
 | succ f ih =>
  rintro hf ⟨r, d, w, ks⟩ ⟨r', d', w', ks'⟩ I ⟨hr0, hd0, hw0, ka, kn, kc⟩ ⟨hr0', hd0', hw0', ka', kn', kc'⟩ hP hP' hsm
  unfold PrAt at hP hP'
  obtain ⟨e1, e2, e3, hs9, hK, hks⟩ := hP
  obtain ⟨e1', e2', e3', hs9', hK', hks'⟩ := hP'
  simp only at e1 e2 e3 hK e1' e2' e3' hK'
  subst e1 e2 e3 e1' e2' e3'
  unfold smlP at hsm
  exact w_samP_step hK hks hK' hks' (by have h1 := hks.len; have h2 := hK.len; omega) (f + 1) hf (fun f' e k k' hk hk' I' hI' h h' hP hP' => by
   obtain rfl : f' = f := by omega
   exact ih (by omega) k k' h h' hP hP' (smlL_mem hsm.2 hk))
theorem w_samPs {I : HMap} {av : Option Addr} {n c : Nat} {hs : List PH} {xs : List Pr} (hS : Sl I 4 encPH av n c hs) (hxs : PrsAt I hs xs) (hn : n ≤ 100000) (hsm : ∀ p ∈ xs, smlP p) {bv : Option Addr} {n2 c2 : Nat} {hs2 : List PH} {ys : List Pr} (hT : Sl I 4 encPH bv n2 c2 hs2) (hys : PrsAt I hs2 ys) : RetV Tryz.prog 22 [.slice av n c, .slice bv n2 c2] I (.bool (samPs xs ys)) := by
 intro g H w hw
 refine enter Tryz.func22 rfl Tryz.ntmps22 rfl hw ?_
 have hlX : xs.length = n := by rw [← hxs.len]; exact hS.len
 have hlY : ys.length = n2 := by rw [← hys.len]; exact hT.len
 refine zR ?_
 refine zA ?_
 refine zN ?_
 refine X_seq ?_
 refine zR ?_
 refine zM ?_
 refine XO_v0 (ev_lenS rfl slt_35) rfl rfl rfl ?_
 refine zM ?_
 refine XO_v0 (ev_lenS rfl slt_35) rfl rfl rfl ?_
 refine zC ?_
 refine zN ?_
 refine X_cond rfl (fun hc10 => ?_) (fun hc10 => ?_)
 ·
  have hne : xs.length ≠ ys.length := fun e => by have h := hc10; simp at h; omega
  refine zR ?_
  refine zA ?_
  refine zN ?_
  refine X_ret ?_
  refine at_then_r ?_
  exact at_ret1 rfl rfl (fun w hw => ⟨by rw [samPs_len hne], hw.drop⟩)
 have hnn : n = n2 := by have h := hc10; simp at h; omega
 refine X_skip ?_
 refine at_then ?_
 refine X_seq ?_
 refine zR ?_
 refine zA ?_
 refine zN ?_
 refine X_block ?_
 refine X_loopT [(0, _), (1, _)] (.cons rfl (.cons rfl .nil)) (fun T L0 mz E I' loc' => ∃ (k : Nat), mz = n - k ∧ E = (5, .int .i64 k) :: T ∧ I = I' ∧ L0 = loc' ∧ k ≤ n ∧ SamT 20 xs ys k) _ _ _ _ ⟨0, rfl, rfl, rfl, rfl, Nat.zero_le _, samT_0⟩ (.cons rfl (.cons rfl (.cons rfl .nil))) (HLe.refl _) rfl ?_
 rintro mz E I' loc' ⟨k, rfl, rfl, rfl, rfl, hk, hsa⟩
 refine X_seq ?_
 refine zR ?_
 refine zM ?_
 refine zM ?_
 refine XO_v0 (ev_lenS rfl slt_35) rfl rfl rfl ?_
 refine zC ?_
 refine zN ?_
 refine X_cond rfl (fun hc14 => ?_) (fun hc14 => ?_)
 ·
  have hlt_k : k < n := by have h := hc14; simp at h; omega
  obtain ⟨kh, hkh⟩ := hS.at hlt_k
  obtain ⟨kk, hkk, hka⟩ := hxs.at k kh hkh
  obtain ⟨kh', hkh'⟩ := hT.at (show k < n2 by omega)
  obtain ⟨kk', hkk', hka'⟩ := hys.at k kh' hkh'
  refine X_skip ?_
  refine at_then ?_
  refine X_seq ?_
  refine X_block ?_
  refine X_seq ?_
  refine X_draw mixed (by kernel_rfl) ?_
  refine XQ_v0 (ev_move rfl) rfl rfl rfl ?_
  refine XQ_v0 (ev_move rfl) rfl rfl rfl ?_
  refine XQ_v0 (ev_indexSl rfl rfl slt_35 hS (fun hg => by omega)) rfl rfl rfl ?_
  refine XQ_v0 (ev_loadA rfl agt_45 (fun hg => by exact Sl.getA hS hkh) rfl) rfl rfl rfl ?_
  refine XQ_v0 (ev_move rfl) rfl rfl rfl ?_
  refine XQ_v0 (ev_move rfl) rfl rfl rfl ?_
  refine XQ_v0 (ev_indexSl rfl rfl slt_35 hT (fun hg => by omega)) rfl rfl rfl ?_
  refine XQ_v0 (ev_loadA rfl agt_45 (fun hg => by exact Sl.getA hT hkh') rfl) rfl rfl rfl ?_
  refine XQ_callV0 (cap := []) (vs := [_, _, _]) rfl rfl fun_64 (w_samP 20 (by decide) kk kk' kh kh' hka hka' (hsm kk (List.mem_of_getElem? hkk))) rfl rfl ?_
  refine XQ_v0 (ev_not rfl) rfl rfl rfl ?_
  refine XQ_nil ?_
  refine at_then ?_
  refine X_cond rfl (fun hc26 => ?_) (fun hc26 => ?_)
  ·
   refine zR ?_
   refine zA ?_
   refine zN ?_
   refine X_ret ?_
   refine at_block_r ?_
   refine at_then_r ?_
   refine at_then_r ?_
   refine at_block_r ?_
   refine at_then_r ?_
   first
   | exact at_ret1 rfl rfl (fun w hw => ⟨by unfold samPs; rw [samL_bad hkk hkk' (by simpa using hc26), Bool.and_false], hw.drop⟩)
  refine X_skip ?_
  refine at_block_n ?_
  refine at_then ?_
  refine X_region ?_
  refine zM ?_
  refine zB ?_
  refine zA ?_
  refine XO_nil ?_
  exact at_met2 _ _ ⟨n - (k + 1), by omega, k + 1, rfl, rfl, rfl, rfl, by omega, samT_step hsa hkk hkk' (by simpa using hc26)⟩ (.cons rfl (.cons rfl (.cons rfl .nil))) (by repeat (first | exact .refl | exact subL_left | refine subL_app ?_ | refine .drop ?_ | refine subL_add ?_))
 have hge_k : n ≤ k := by have h := hc14; simp at h; omega
 refine X_exit ?_
 refine at_then_e ?_
 refine at_then_e ?_
 refine at_block_hit ?_
 refine at_then ?_
 refine zR ?_
 refine zA ?_
 refine zN ?_
 refine X_ret ?_
 first
 | exact at_ret1 rfl rfl (fun w hw => ⟨by unfold samPs; rw [decide_eq_true (show xs.length = ys.length by omega), samT_end hsa (by omega)]; rfl, hw.drop⟩)
theorem w_samS {I : HMap} {av : Option Addr} {n c : Nat} {hs : List SH} {xs : List Ses} (hS : SlSH I av n c hs xs) (hn : n ≤ 100000) (hwh : ∀ s ∈ xs, s.who.length ≤ 100000 ∧ s.needs.length ≤ 100000) {bv : Option Addr} {n2 c2 : Nat} {hs2 : List SH} {ys : List Ses} (hT : SlSH I bv n2 c2 hs2 ys) : RetV Tryz.prog 14 [.slice av n c, .slice bv n2 c2] I (.bool (samS xs ys)) := by
 intro g H w hw
 refine enter Tryz.func14 rfl Tryz.ntmps14 rfl hw ?_
 have hlX := hS.len
 have hlY := hT.len
 refine zR ?_
 refine zA ?_
 refine zN ?_
 refine X_seq ?_
 refine zR ?_
 refine zM ?_
 refine XO_v0 (ev_lenS rfl slt_27) rfl rfl rfl ?_
 refine zM ?_
 refine XO_v0 (ev_lenS rfl slt_27) rfl rfl rfl ?_
 refine zC ?_
 refine zN ?_
 refine X_cond rfl (fun hc10 => ?_) (fun hc10 => ?_)
 ·
  have hne : xs.length ≠ ys.length := fun e => by have h := hc10; simp at h; omega
  refine zR ?_
  refine zA ?_
  refine zN ?_
  refine X_ret ?_
  refine at_then_r ?_
  exact at_ret1 rfl rfl (fun w hw => ⟨by rw [samS_len hne], hw.drop⟩)
 have hnn : n = n2 := by have h := hc10; simp at h; omega
 refine X_skip ?_
 refine at_then ?_
 refine X_seq ?_
 refine zR ?_
 refine zA ?_
 refine zN ?_
 refine X_block ?_
 refine X_loopT [(0, _), (1, _)] (.cons rfl (.cons rfl .nil)) (fun T L0 mz E I' loc' => ∃ (k : Nat), mz = n - k ∧ E = (5, .int .i64 k) :: T ∧ I = I' ∧ L0 = loc' ∧ k ≤ n ∧ ((xs.zip ys).take k).any (fun q => ssNe q.1 q.2) = false) _ _ _ _ ⟨0, rfl, rfl, rfl, rfl, Nat.zero_le _, rfl⟩ (.cons rfl (.cons rfl (.cons rfl .nil))) (HLe.refl _) rfl ?_
 rintro mz E I' loc' ⟨k, rfl, rfl, rfl, rfl, hk, hno⟩
 refine X_seq ?_
 refine zR ?_
 refine zM ?_
 refine zM ?_
 refine XO_v0 (ev_lenS rfl slt_27) rfl rfl rfl ?_
 refine zC ?_
 refine zN ?_
 refine X_cond rfl (fun hc14 => ?_) (fun hc14 => ?_)
 ·
  have hlt_k : k < n := by have h := hc14; simp at h; omega
  obtain ⟨x, s, hx, hx2, q1, q2, hW1, hN1⟩ := hS.at hlt_k
  obtain ⟨y, t, hy, hy2, p1, p2, hW2, hN2⟩ := hT.at (show k < n2 by omega)
  have hwl := hwh s (List.mem_of_getElem? hx2)
  have hl1 := hW1.len
  have hl2 := hN1.len
  refine X_skip ?_
  refine at_then ?_
  refine X_seq ?_
  refine X_block ?_
  refine X_seq ?_
  refine X_draw mixed (by kernel_rfl) ?_
  refine XQ_v0 (ev_move rfl) rfl rfl rfl ?_
  refine XQ_v0 (ev_move rfl) rfl rfl rfl ?_
  refine XQ_v0 (ev_indexSl rfl rfl slt_27 hS.1 (fun hg => by omega)) rfl rfl rfl ?_
  refine XQ_v0 (ev_fieldAddr rfl fld_58_0) rfl rfl rfl ?_
  refine XQ_v0 (ev_load rfl sct_3 (fun hg => by exact Sl.get0 hS.1 hx rfl)) rfl rfl rfl ?_
  refine XQ_v0 (ev_move rfl) rfl rfl rfl ?_
  refine XQ_v0 (ev_move rfl) rfl rfl rfl ?_
  refine XQ_v0 (ev_indexSl rfl rfl slt_27 hT.1 (fun hg => by omega)) rfl rfl rfl ?_
  refine XQ_v0 (ev_fieldAddr rfl fld_58_0) rfl rfl rfl ?_
  refine XQ_v0 (ev_load rfl sct_3 (fun hg => by exact Sl.get0 hT.1 hy rfl)) rfl rfl rfl ?_
  refine XQ_v0 (ev_cmp rfl rfl rfl) rfl rfl rfl ?_
  refine XQ_v0 (ev_move rfl) rfl rfl rfl ?_
  refine XQ_pushF 11 rfl rfl rfl ?_
  refine XQ_v1 (ev_move rfl) (.some rfl rfl rfl rfl gbf) rfl rfl rfl ?_
  refine XQ_v1 (ev_move rfl) (.some rfl rfl rfl rfl gbf) rfl rfl rfl ?_
  refine XQ_v1 (ev_indexSl rfl rfl slt_27 hS.1 (fun hg => by omega)) (.some rfl rfl rfl rfl gbf) rfl rfl rfl ?_
  refine XQ_v1 (ev_fieldAddr rfl fld_58_1) (.some rfl rfl rfl rfl gbf) rfl rfl rfl ?_
  refine XQ_v1 (ev_load rfl sct_3 (fun hg => by exact Sl.get hS.1 hx (j := 1) rfl)) (.some rfl rfl rfl rfl gbf) rfl rfl rfl ?_
  refine XQ_v1 (ev_move rfl) (.some rfl rfl rfl rfl gbf) rfl rfl rfl ?_
  refine XQ_v1 (ev_move rfl) (.some rfl rfl rfl rfl gbf) rfl rfl rfl ?_
  refine XQ_v1 (ev_indexSl rfl rfl slt_27 hT.1 (fun hg => by omega)) (.some rfl rfl rfl rfl gbf) rfl rfl rfl ?_
  refine XQ_v1 (ev_fieldAddr rfl fld_58_1) (.some rfl rfl rfl rfl gbf) rfl rfl rfl ?_
  refine XQ_v1 (ev_load rfl sct_3 (fun hg => by exact Sl.get hT.1 hy (j := 1) rfl)) (.some rfl rfl rfl rfl gbf) rfl rfl rfl ?_
  refine XQ_v1 (ev_cmp rfl rfl rfl) (.some rfl rfl rfl rfl gbf) rfl rfl rfl ?_
  refine XQ_or0 rfl rfl rfl rfl rfl ?_
  refine XQ_v0 (ev_move rfl) rfl rfl rfl ?_
  refine XQ_pushF 24 rfl rfl rfl ?_
  refine XQ_v1 (ev_move rfl) (.some rfl rfl rfl rfl gbf) rfl rfl rfl ?_
  refine XQ_v1 (ev_move rfl) (.some rfl rfl rfl rfl gbf) rfl rfl rfl ?_
  refine XQ_v1 (ev_indexSl rfl rfl slt_27 hS.1 (fun hg => by omega)) (.some rfl rfl rfl rfl gbf) rfl rfl rfl ?_
  refine XQ_v1 (ev_fieldAddr rfl fld_58_2) (.some rfl rfl rfl rfl gbf) rfl rfl rfl ?_
  refine XQ_v1 (ev_load rfl sct_23 (fun hg => by exact Sl.get hS.1 hx (j := 2) rfl)) (.some rfl rfl rfl rfl gbf) rfl rfl rfl ?_
  refine XQ_v1 (ev_move rfl) (.some rfl rfl rfl rfl gbf) rfl rfl rfl ?_
  refine XQ_v1 (ev_move rfl) (.some rfl rfl rfl rfl gbf) rfl rfl rfl ?_
  refine XQ_v1 (ev_indexSl rfl rfl slt_27 hT.1 (fun hg => by omega)) (.some rfl rfl rfl rfl gbf) rfl rfl rfl ?_
  refine XQ_v1 (ev_fieldAddr rfl fld_58_2) (.some rfl rfl rfl rfl gbf) rfl rfl rfl ?_
  refine XQ_v1 (ev_load rfl sct_23 (fun hg => by exact Sl.get hT.1 hy (j := 2) rfl)) (.some rfl rfl rfl rfl gbf) rfl rfl rfl ?_
  refine XQ_callV1 (cap := []) (vs := [_, _]) rfl rfl fun_23 (fun hg => w_rSame hW1 (by omega) hW2) (.some rfl rfl rfl rfl gbf) rfl rfl ?_
  refine XQ_v1 (ev_not rfl) (.some rfl rfl rfl rfl gbf) rfl rfl rfl ?_
  refine XQ_or0 rfl rfl rfl rfl rfl ?_
  refine XQ_v0 (ev_move rfl) rfl rfl rfl ?_
  refine XQ_pushF 38 rfl rfl rfl ?_
  refine XQ_v1 (ev_move rfl) (.some rfl rfl rfl rfl gbf) rfl rfl rfl ?_
  refine XQ_v1 (ev_move rfl) (.some rfl rfl rfl rfl gbf) rfl rfl rfl ?_
  refine XQ_v1 (ev_indexSl rfl rfl slt_27 hS.1 (fun hg => by omega)) (.some rfl rfl rfl rfl gbf) rfl rfl rfl ?_
  refine XQ_v1 (ev_fieldAddr rfl fld_58_3) (.some rfl rfl rfl rfl gbf) rfl rfl rfl ?_
  refine XQ_v1 (ev_load rfl sct_23 (fun hg => by exact Sl.get hS.1 hx (j := 3) rfl)) (.some rfl rfl rfl rfl gbf) rfl rfl rfl ?_
  refine XQ_v1 (ev_move rfl) (.some rfl rfl rfl rfl gbf) rfl rfl rfl ?_
  refine XQ_v1 (ev_move rfl) (.some rfl rfl rfl rfl gbf) rfl rfl rfl ?_
  refine XQ_v1 (ev_indexSl rfl rfl slt_27 hT.1 (fun hg => by omega)) (.some rfl rfl rfl rfl gbf) rfl rfl rfl ?_
  refine XQ_v1 (ev_fieldAddr rfl fld_58_3) (.some rfl rfl rfl rfl gbf) rfl rfl rfl ?_
  refine XQ_v1 (ev_load rfl sct_23 (fun hg => by exact Sl.get hT.1 hy (j := 3) rfl)) (.some rfl rfl rfl rfl gbf) rfl rfl rfl ?_
  refine XQ_callV1 (cap := []) (vs := [_, _]) rfl rfl fun_23 (fun hg => w_rSame hN1 (by omega) hN2) (.some rfl rfl rfl rfl gbf) rfl rfl ?_
  refine XQ_v1 (ev_not rfl) (.some rfl rfl rfl rfl gbf) rfl rfl rfl ?_
  refine XQ_or0 rfl rfl rfl rfl rfl ?_
  refine XQ_nil ?_
  refine at_then ?_
  refine X_cond rfl (fun hc68 => ?_) (fun hc68 => ?_)
  ·
   have hb : ssNe s t = true := by unfold ssNe; rw [← q1, ← q2, ← p1, ← p2]; exact hc68
   refine zR ?_
   refine zA ?_
   refine zN ?_
   refine X_ret ?_
   refine at_block_r ?_
   refine at_then_r ?_
   refine at_then_r ?_
   refine at_block_r ?_
   refine at_then_r ?_
   exact at_ret1 rfl rfl (fun w hw => ⟨by rw [samS_bad hx2 hy2 hb], hw.drop⟩)
  have hb : ssNe s t = false := by unfold ssNe; rw [← q1, ← q2, ← p1, ← p2]; exact hc68
  refine X_skip ?_
  refine at_block_n ?_
  refine at_then ?_
  refine X_region ?_
  refine zM ?_
  refine zB ?_
  refine zA ?_
  refine XO_nil ?_
  exact at_met2 _ _ ⟨n - (k + 1), by omega, k + 1, rfl, rfl, rfl, rfl, by omega, any_no (show (xs.zip ys)[k]? = some (s, t) from List.getElem?_zip_eq_some.2 ⟨hx2, hy2⟩) hno hb⟩ (.cons rfl (.cons rfl (.cons rfl .nil))) (by repeat (first | exact .refl | exact subL_left | refine subL_app ?_ | refine .drop ?_ | refine subL_add ?_))
 have hge_k : n ≤ k := by have h := hc14; simp at h; omega
 have hkn : k = xs.length := by omega
 subst hkn
 refine X_exit ?_
 refine at_then_e ?_
 refine at_then_e ?_
 refine at_block_hit ?_
 refine at_then ?_
 refine zR ?_
 refine zA ?_
 refine zN ?_
 refine X_ret ?_
 exact at_ret1 rfl rfl (fun w hw => ⟨by rw [samS_end (by omega) hno], hw.drop⟩)
theorem w_rFewS {I : HMap} {av : Option Addr} {n c : Nat} {ps : List Pt} (hP : SlP I av n c ps) {bv : Option Addr} {n2 c2 : Nat} {tg : List Int} (hT : Sl I 1 encI bv n2 c2 tg) {dv : Option Addr} {n3 c3 : Nat} {hsh : List Hd} {has : List (List Int)} (hV : SlHA I 1 encI dv n3 c3 hsh has) : RetV Tryz.prog 11 [.slice av n c, .slice bv n2 c2, .slice dv n3 c3] I (.bool (fewS ps tg has)) := by
 intro g H w hw
 refine enter Tryz.func11 rfl Tryz.ntmps11 rfl hw ?_
 have hlP := hP.1.len
 have hlT := hT.len
 have hlV := hV.len
 refine zR ?_
 refine zA ?_
 refine zN ?_
 refine X_seq ?_
 refine zR ?_
 refine zM ?_
 refine XO_v0 (ev_lenS rfl slt_22) rfl rfl rfl ?_
 refine zC ?_
 refine zM ?_
 refine XO_pushT 3 rfl rfl rfl ?_
 refine XO_v1 (ev_move rfl) (.some rfl rfl rfl rfl gbt) rfl rfl rfl ?_
 refine XO_v1 (ev_lenS rfl slt_22) (.some rfl rfl rfl rfl gbt) rfl rfl rfl ?_
 refine XO_v1 (ev_cmp rfl rfl rfl) (.some rfl rfl rfl rfl gbt) rfl rfl rfl ?_
 refine XO_v1 (ev_move rfl) (.some rfl rfl rfl rfl gbt) rfl rfl rfl ?_
 refine XO_pushF 7 rfl rfl rfl ?_
 refine XO_v1 (ev_move rfl) (.some rfl rfl rfl rfl gbf) rfl rfl rfl ?_
 refine XO_v1 (ev_lenS rfl slt_22) (.some rfl rfl rfl rfl gbf) rfl rfl rfl ?_
 refine XO_v1 (ev_cmp rfl rfl rfl) (.some rfl rfl rfl rfl gbf) rfl rfl rfl ?_
 refine XO_or1 rfl rfl rfl (.some rfl rfl rfl rfl gbt) rfl rfl ?_
 refine XO_and0 rfl rfl rfl rfl rfl ?_
 refine zM ?_
 refine XO_pushF 13 rfl rfl rfl ?_
 refine XO_v1 (ev_move rfl) (.some rfl rfl rfl rfl gbf) rfl rfl rfl ?_
 refine XO_v1 (ev_lenS rfl slt_23) (.some rfl rfl rfl rfl gbf) rfl rfl rfl ?_
 refine XO_v1 (ev_cmp rfl rfl rfl) (.some rfl rfl rfl rfl gbf) rfl rfl rfl ?_
 refine XO_or0 rfl rfl rfl rfl rfl ?_
 refine zM ?_
 refine XO_pushF 18 rfl rfl rfl ?_
 refine XO_v1 (ev_move rfl) (.some rfl rfl rfl rfl gbf) rfl rfl rfl ?_
 refine XO_v1 (ev_lenS rfl slt_24) (.some rfl rfl rfl rfl gbf) rfl rfl rfl ?_
 refine XO_v1 (ev_cmp rfl rfl rfl) (.some rfl rfl rfl rfl gbf) rfl rfl rfl ?_
 refine XO_or0 rfl rfl rfl rfl rfl ?_
 refine zN ?_
 refine X_cond rfl (fun hc31 => ?_) (fun hc31 => ?_)
 ·
  have h1 : (((decide ((ps.length : Int) > 40) && (decide ((ps.length : Int) ≤ 512) || decide ((ps.length : Int) > 600))) || decide ((tg.length : Int) > 600)) || decide ((has.length : Int) > 20)) = true := by rw [hlP, hlT, hlV]; exact hc31
  refine zR ?_
  refine zA ?_
  refine zN ?_
  refine X_ret ?_
  refine at_then_r ?_
  first
  | exact at_ret1 rfl rfl (fun w hw => ⟨by unfold fewS; rw [if_pos h1], hw.drop⟩)
 have h1 : (((decide ((ps.length : Int) > 40) && (decide ((ps.length : Int) ≤ 512) || decide ((ps.length : Int) > 600))) || decide ((tg.length : Int) > 600)) || decide ((has.length : Int) > 20)) = false := by rw [hlP, hlT, hlV]; exact hc31
 have h1s := h1
 simp at h1s
 refine X_skip ?_
 refine at_then ?_
 refine X_seq ?_
 refine zR ?_
 refine zA ?_
 refine zN ?_
 refine X_block ?_
 refine X_loopT [(0, _), (2, _)] (.cons rfl (.cons rfl .nil)) (fun T L0 mz E I' loc' => ∃ (k : Nat), mz = n3 - k ∧ E = (7, .int .i64 k) :: T ∧ I = I' ∧ L0 = loc' ∧ k ≤ n3 ∧ (has.take k).any (fun v => decide ((v.length : Int) > 600)) = false) _ _ _ _ ⟨0, rfl, rfl, rfl, rfl, Nat.zero_le _, rfl⟩ (.cons rfl (.cons rfl (.cons rfl .nil))) (HLe.refl _) rfl ?_
 rintro mz E I' loc' ⟨k, rfl, rfl, rfl, rfl, hk, hno⟩
 refine X_seq ?_
 refine zR ?_
 refine zM ?_
 refine zM ?_
 refine XO_v0 (ev_lenS rfl slt_24) rfl rfl rfl ?_
 refine zC ?_
 refine zN ?_
 refine X_cond rfl (fun hc35 => ?_) (fun hc35 => ?_)
 ·
  have hlt_k : k < n3 := by have h := hc35; simp at h; omega
  obtain ⟨h0, v0, hh0, hv0, hS0⟩ := hV.at hlt_k
  have hl0 := hS0.len
  refine X_skip ?_
  refine at_then ?_
  refine X_seq ?_
  refine X_block ?_
  refine zR ?_
  refine zM ?_
  refine zM ?_
  refine XO_v0 (ev_indexSl rfl rfl slt_24 hV.1 (fun hg => by omega)) rfl rfl rfl ?_
  refine XO_v0 (ev_load rfl sct_23 (fun hg => by exact Sl.get0 hV.1 hh0 rfl)) rfl rfl rfl ?_
  refine XO_v0 (ev_lenS rfl slt_23) rfl rfl rfl ?_
  refine zC ?_
  refine zN ?_
  refine X_cond rfl (fun hc43 => ?_) (fun hc43 => ?_)
  ·
   have h2 : has.any (fun v => decide ((v.length : Int) > 600)) = true := any_yes hv0 (by rw [hl0]; exact hc43)
   refine zR ?_
   refine zA ?_
   refine zN ?_
   refine X_ret ?_
   refine at_block_r ?_
   refine at_then_r ?_
   refine at_then_r ?_
   refine at_block_r ?_
   refine at_then_r ?_
   first
   | exact at_ret1 rfl rfl (fun w hw => ⟨by unfold fewS; rw [if_neg (by rw [h1]; decide), if_pos h2], hw.drop⟩)
  refine X_skip ?_
  refine at_block_n ?_
  refine at_then ?_
  refine X_region ?_
  refine zM ?_
  refine zB ?_
  refine zA ?_
  refine XO_nil ?_
  exact at_met2 _ _ ⟨n3 - (k + 1), by omega, k + 1, rfl, rfl, rfl, rfl, by omega, any_no hv0 hno (by rw [hl0]; exact hc43)⟩ (.cons rfl (.cons rfl (.cons rfl .nil))) (by repeat (first | exact .refl | exact subL_left | refine subL_app ?_ | refine .drop ?_ | refine subL_add ?_))
 have hge_k : n3 ≤ k := by have h := hc35; simp at h; omega
 rw [take_all hlV hge_k] at hno
 refine X_exit ?_
 refine at_then_e ?_
 refine at_then_e ?_
 refine at_block_hit ?_
 refine at_then ?_
 refine X_seq ?_
 refine zR ?_
 refine zA ?_
 refine zN ?_
 refine X_block ?_
 refine X_loopT [(0, _)] (.cons rfl .nil) (fun T L0 mz E I' loc' => ∃ (k : Nat), mz = n - k ∧ E = (8, .int .i64 k) :: T ∧ I = I' ∧ L0 = loc' ∧ k ≤ n ∧ (ps.take k).any (fun p => decide ((p.needs.length : Int) > 80)) = false) _ _ _ _ ⟨0, rfl, rfl, rfl, rfl, Nat.zero_le _, rfl⟩ (.cons rfl (.cons rfl .nil)) (HLe.refl _) rfl ?_
 rintro mz E I' loc' ⟨k, rfl, rfl, rfl, rfl, hk, hno2⟩
 refine X_seq ?_
 refine zR ?_
 refine zM ?_
 refine zM ?_
 refine XO_v0 (ev_lenS rfl slt_22) rfl rfl rfl ?_
 refine zC ?_
 refine zN ?_
 refine X_cond rfl (fun hc47 => ?_) (fun hc47 => ?_)
 ·
  have hlt_k : k < n := by have h := hc47; simp at h; omega
  obtain ⟨p, hp, hN⟩ := hP.at hlt_k
  have hlN := Sl.len hN
  refine X_skip ?_
  refine at_then ?_
  refine X_seq ?_
  refine X_block ?_
  refine zR ?_
  refine zM ?_
  refine zM ?_
  refine XO_v0 (ev_indexSl rfl rfl slt_22 hP.1 (fun hg => by omega)) rfl rfl rfl ?_
  refine XO_v0 (ev_fieldAddr rfl fld_65_5) rfl rfl rfl ?_
  refine XO_v0 (ev_load rfl sct_23 (fun hg => by exact Sl.get hP.1 hp (j := 18) rfl)) rfl rfl rfl ?_
  refine XO_v0 (ev_lenS rfl slt_23) rfl rfl rfl ?_
  refine zC ?_
  refine zN ?_
  refine X_cond rfl (fun hc56 => ?_) (fun hc56 => ?_)
  ·
   have h3 : ps.any (fun p => decide ((p.needs.length : Int) > 80)) = true := any_yes hp (by rw [hlN]; exact hc56)
   refine zR ?_
   refine zA ?_
   refine zN ?_
   refine X_ret ?_
   refine at_block_r ?_
   refine at_then_r ?_
   refine at_then_r ?_
   refine at_block_r ?_
   refine at_then_r ?_
   first
   | exact at_ret1 rfl rfl (fun w hw => ⟨by unfold fewS; rw [if_neg (by rw [h1]; decide), if_neg (by rw [hno]; decide), h3]; rfl, hw.drop⟩)
  refine X_skip ?_
  refine at_block_n ?_
  refine at_then ?_
  refine X_region ?_
  refine zM ?_
  refine zB ?_
  refine zA ?_
  refine XO_nil ?_
  exact at_met2 _ _ ⟨n - (k + 1), by omega, k + 1, rfl, rfl, rfl, rfl, by omega, any_no hp hno2 (by rw [hlN]; exact hc56)⟩ (.cons rfl (.cons rfl .nil)) (by repeat (first | exact .refl | exact subL_left | refine subL_app ?_ | refine .drop ?_ | refine subL_add ?_))
 have hge_k : n ≤ k := by have h := hc47; simp at h; omega
 rw [take_all hlP hge_k] at hno2
 refine X_exit ?_
 refine at_then_e ?_
 refine at_then_e ?_
 refine at_block_hit ?_
 refine at_then ?_
 refine zR ?_
 refine zA ?_
 refine zN ?_
 refine X_ret ?_
 first
 | exact at_ret1 rfl rfl (fun w hw => ⟨by unfold fewS; rw [if_neg (by rw [h1]; decide), if_neg (by rw [hno]; decide), hno2]; rfl, hw.drop⟩)
end Go.Proofs.YtehkiccapbkhnaaGreat
end
section
namespace Go.Proofs.YtehkiccapbkhnaaGreat
open Go Go.Kn Go.Proofs
def twoC : Cr := ⟨[4, 5, 8], 1, 1, 9, 2, [⟨3, 1, [7], []⟩, ⟨4, 2, [7], [0]⟩]⟩
def two1C : Cr := ⟨[4, 5, 8], 1, 1, 9, 1, [⟨3, 1, [7], []⟩, ⟨4, 2, [7], [0]⟩]⟩
def empC : Cr := ⟨[], 1, 1, 1, 1, []⟩
def zerC : Cr := ⟨[], 0, 0, 0, 0, []⟩
def manC : Cr := ⟨List.replicate 17 0, 0, 0, 0, 0, []⟩
def patP : Pt := ⟨2, 1, 0, 5, ⟨0, 0, 0, 0, 0, 0, 1, 0, 0, 0, 0, 0, 0, 0⟩, none, 0, 0, []⟩
def prfP : Pr := .mk 0 0 0 [.mk 0 0 0 [.mk 1 0 0 []]]
theorem f_pl1 : planL twoC = [0, 1] := by kernel_rfl
theorem f_po1 : planO twoC = true := by kernel_rfl
theorem f_ck1 : chkC twoC = 0 := by kernel_rfl
theorem f_ro1 : refO twoC 1 = true := by kernel_rfl
theorem f_le1 : lastE twoC 1 = 0 := by kernel_rfl
theorem f_rp1 : refP twoC 1 = prfP := by kernel_rfl
theorem f_ro2 : refO twoC 2 = false := by kernel_rfl
theorem f_le2 : lastE twoC 2 = 0 := by kernel_rfl
theorem f_ac1 : accO twoC 1 prfP = true := by kernel_rfl
theorem f_ac2 : accO twoC 2 prfP = false := by kernel_rfl
theorem f_be1 : brokE twoC [1, 1] = 0 := by kernel_rfl
theorem f_bl1 : brokL twoC [1, 1] = [⟨1, 1, 0⟩, ⟨2, 1, 0⟩, ⟨3, 1, 7⟩] := by kernel_rfl
theorem f_pl2 : planL two1C = [0, 2] := by kernel_rfl
theorem f_po2 : planO two1C = true := by kernel_rfl
theorem f_ck2 : chkC two1C = 0 := by kernel_rfl
theorem f_be2 : brokE two1C [0, 0, 0] = 400 := by kernel_rfl
theorem f_pl3 : planL empC = [] := by kernel_rfl
theorem f_po3 : planO empC = true := by kernel_rfl
theorem f_ck3 : chkC empC = 0 := by kernel_rfl
theorem f_ck4 : chkC zerC = 400 := by kernel_rfl
theorem f_ck5 : chkC manC = 2 := by kernel_rfl
theorem f_fe1 : fromE [patP] [2] [[], [2], []] = 0 := by kernel_rfl
theorem f_fr1 : fromR [patP] [2] [[], [2], []] = [⟨2, 1, [0, 2], []⟩] := by kernel_rfl
theorem f_fe2 : fromE [patP] [3] [] = 400 := by kernel_rfl
theorem f_sp : samPs [prfP] [prfP] = true := by kernel_rfl
theorem f_sm : smlP prfP := by unfold prfP smlP smlL smlP smlL smlP smlL; exact ⟨by decide, ⟨by decide, ⟨by decide, trivial⟩, trivial⟩, trivial⟩
theorem d_two : ∀ s ∈ twoC.ss, s.needs.length ≤ 100000 := by decide
theorem d_two1 : ∀ s ∈ two1C.ss, s.needs.length ≤ 100000 := by decide
theorem d_emp : ∀ s ∈ empC.ss, s.needs.length ≤ 100000 := by decide
end Go.Proofs.YtehkiccapbkhnaaGreat
end
section
namespace Go.Proofs.YtehkiccapbkhnaaGreat
open Go Go.Kn Go.Proofs
theorem fun_12 : Fun Tryz.prog 12 := .of Tryz.func12 (by kernel_rfl) (by kernel_rfl)
theorem fun_14 : Fun Tryz.prog 14 := .of Tryz.func14 (by kernel_rfl) (by kernel_rfl)
theorem fun_16 : Fun Tryz.prog 16 := .of Tryz.func16 (by kernel_rfl) (by kernel_rfl)
theorem fun_18 : Fun Tryz.prog 18 := .of Tryz.func18 (by kernel_rfl) (by kernel_rfl)
theorem fun_22 : Fun Tryz.prog 22 := .of Tryz.func22 (by kernel_rfl) (by kernel_rfl)
theorem fun_25 : Fun Tryz.prog 25 := .of Tryz.func25 (by kernel_rfl) (by kernel_rfl)
theorem fun_27 : Fun Tryz.prog 27 := .of Tryz.func27 (by kernel_rfl) (by kernel_rfl)
theorem fun_37 : Fun Tryz.prog 37 := .of Tryz.func37 (by kernel_rfl) (by kernel_rfl)
theorem fun_38 : Fun Tryz.prog 38 := .of Tryz.func38 (by kernel_rfl) (by kernel_rfl)
theorem mkt_23 : MkT Tryz.prog 23 3 8 (.int .i64 0) := ⟨by kernel_rfl, by kernel_rfl, rfl⟩
theorem plt_33 : PlT Tryz.prog 33 #[(0, 1), (1, 1), (2, 1), (3, 1), (4, 1), (5, 1)] (.agg #[(.slice none 0 0), (.int .i64 0), (.int .i64 0), (.int .i64 0), (.int .i64 0), (.slice none 0 0)]) := ⟨.of (by kernel_rfl), by kernel_rfl, fun w => by kernel_rfl⟩
theorem plt_65 : PlT Tryz.prog 65 #[(0, 1), (1, 1), (2, 1), (3, 1), (4, 14), (18, 1)] (.agg #[(.int .i64 0), (.int .i64 0), (.int .i64 0), (.int .i64 0), (.int .i64 0), (.int .i64 0), (.int .i64 0), (.int .i64 0), (.int .i64 0), (.int .i64 0), (.int .i64 0), (.int .i64 0), (.int .i64 0), (.int .i64 0), (.int .i64 0), (.int .i64 0), (.int .i64 0), (.int .i64 0), (.slice none 0 0)]) := ⟨.of (by kernel_rfl), by kernel_rfl, fun w => by kernel_rfl⟩
theorem szt_33 : SzT Tryz.prog 33 6 := .of (by kernel_rfl)
theorem zt_33 : ZeroT Tryz.prog 33 (.agg #[(.slice none 0 0), (.int .i64 0), (.int .i64 0), (.int .i64 0), (.int .i64 0), (.slice none 0 0)]) := .of (by kernel_rfl)
theorem w_two (I : HMap) : RetM Tryz.prog 37 [] I [] (fun v I' L => L = [] ∧ ∃ a c b d, v = encCHA ⟨a, 3, c, 1, 1, 9, 2, b, 2, d⟩ ∧ CrAt I' ⟨a, 3, c, 1, 1, 9, 2, b, 2, d⟩ twoC) := by
 intro g H w hw
 refine enter Tryz.func37 rfl Tryz.ntmps37 rfl hw ?_
 have hIc := HLe.refl I
 refine zR ?_
 refine XO_alloc zt_33 rfl rfl (fun b_0 => ?_)
 refine zN (zR ?_)
 refine XO_buildSlice (ps := [(0, _), (1, _), (2, _)]) (m := [encI 4, encI 5, encI 8]) elt_23 rfl (.cons rfl (.cons rfl (.cons rfl (.nil)))) rfl (by simp [encI_len]) (by decide) (by decide) rfl rfl (fun b_1 => ?_)
 refine XO_freeze (by repeat (first | exact Take.here | apply Take.there)) (fun I1 hI1 hb1 => ?_)
 have hIc := hIc.trans hI1
 have hD := Sl.lit ([4, 5, 8] : List Int) rfl encI_len (show I1 b_1 = some (Obj.cells (([4, 5, 8] : List Int).flatMap encI).toArray 3 (0, 0)) from hb1)
 refine XO_buildSlice (ps := [(0, _)]) (m := [encI 7]) elt_23 rfl (.cons rfl (.nil)) rfl (by simp [encI_len]) (by decide) (by decide) rfl rfl (fun b_2 => ?_)
 refine XO_freeze (by repeat (first | exact Take.here | apply Take.there)) (fun I2 hI2 hb2 => ?_)
 have hD := hD.mono hI2; have hIc := hIc.trans hI2
 have hw1 := Sl.lit ([7] : List Int) rfl encI_len (show I2 b_2 = some (Obj.cells (([7] : List Int).flatMap encI).toArray 3 (0, 0)) from hb2)
 refine XO_v0 (ev_buildL (ps := [(0, _), (1, _), (2, _)]) [_, _, _, _] plt_58 rfl rfl) rfl rfl rfl ?_
 refine XO_buildSlice (ps := [(0, _)]) (m := [encI 7]) elt_23 rfl (.cons rfl (.nil)) rfl (by simp [encI_len]) (by decide) (by decide) rfl rfl (fun b_4 => ?_)
 refine XO_freeze (by repeat (first | exact Take.here | apply Take.there)) (fun I3 hI3 hb3 => ?_)
 have hD := hD.mono hI3; have hw1 := hw1.mono hI3; have hIc := hIc.trans hI3
 have hw2 := Sl.lit ([7] : List Int) rfl encI_len (show I3 b_4 = some (Obj.cells (([7] : List Int).flatMap encI).toArray 3 (0, 0)) from hb3)
 refine XO_buildSlice (ps := [(0, _)]) (m := [encI 0]) elt_23 rfl (.cons rfl (.nil)) rfl (by simp [encI_len]) (by decide) (by decide) rfl rfl (fun b_5 => ?_)
 refine XO_freeze (by repeat (first | exact Take.here | apply Take.there)) (fun I4 hI4 hb4 => ?_)
 have hD := hD.mono hI4; have hw1 := hw1.mono hI4; have hw2 := hw2.mono hI4; have hIc := hIc.trans hI4
 have hn2 := Sl.lit ([0] : List Int) rfl encI_len (show I4 b_5 = some (Obj.cells (([0] : List Int).flatMap encI).toArray 3 (0, 0)) from hb4)
 refine XO_v0 (ev_buildL (ps := [(0, _), (1, _), (2, _), (3, _)]) [_, _, _, _] plt_58 rfl rfl) rfl rfl rfl ?_
 refine XO_buildSlice (ps := [(0, _), (1, _)]) (m := [encSH ⟨3, 1, some ⟨b_2, 0, none⟩, 1, 1, none, 0, 0⟩, encSH ⟨4, 2, some ⟨b_4, 0, none⟩, 1, 1, some ⟨b_5, 0, none⟩, 1, 1⟩]) elt_27 rfl (.cons rfl (.cons rfl (.nil))) rfl (by simp [encSH_len]) (by decide) (by decide) rfl rfl (fun b_7 => ?_)
 refine XO_freeze (by repeat (first | exact Take.here | apply Take.there)) (fun I5 hI5 hb5 => ?_)
 have hD := hD.mono hI5; have hw1 := hw1.mono hI5; have hw2 := hw2.mono hI5; have hn2 := hn2.mono hI5; have hIc := hIc.trans hI5
 have hSS := Sl.lit ([⟨3, 1, some ⟨b_2, 0, none⟩, 1, 1, none, 0, 0⟩, ⟨4, 2, some ⟨b_4, 0, none⟩, 1, 1, some ⟨b_5, 0, none⟩, 1, 1⟩] : List SH) rfl encSH_len (show I5 b_7 = some (Obj.cells (([⟨3, 1, some ⟨b_2, 0, none⟩, 1, 1, none, 0, 0⟩, ⟨4, 2, some ⟨b_4, 0, none⟩, 1, 1, some ⟨b_5, 0, none⟩, 1, 1⟩] : List SH).flatMap encSH).toArray 58 (0, 0)) from hb5)
 refine XO_v0 (ev_buildL (ps := [(0, _), (1, _), (2, _), (3, _), (4, _), (5, _)]) [_, _, _, _, _, _] plt_33 rfl rfl) rfl rfl rfl ?_
 refine XO_storeA rfl rfl szt_33 rfl rfl rfl rfl (by repeat (first | exact Upd.here | apply Upd.there | apply upd_app)) ?_
 refine zN ?_
 refine X_ret ?_
 exact at_ret1L rfl rfl (.ag agt_33 (vs := encCH ⟨some ⟨b_1, 0, none⟩, 3, 3, 1, 1, 9, 2, some ⟨b_7, 0, none⟩, 2, 2⟩) (by repeat (first | exact Cells.here | apply Cells.there)) rfl) (fun w hw => ⟨_, I5, [], rfl, hIc, hw.drop, rfl, _, _, _, _, rfl, hD, rfl, rfl, rfl, rfl, _, hSS, (RelS.nil.snoc ⟨rfl, rfl, hw1, Sl.nil⟩).snoc ⟨rfl, rfl, hw2, hn2⟩⟩)
theorem w_leafS (I : HMap) (r d w9 : Int) : RetV Tryz.prog 38 [.int .i64 r, .int .i64 d, .int .i64 w9] I (encPHA ⟨r, d, w9, none, 0, 0⟩) := by
 intro g H w hw
 refine enter Tryz.func38 rfl Tryz.ntmps38 rfl hw ?_
 refine zR ?_
 refine XO_alloc zt_45 rfl rfl (fun b_6 => ?_)
 refine zN (zR ?_)
 refine zM ?_
 refine zM ?_
 refine zM ?_
 refine XO_v0 (ev_buildL (ps := [(0, _), (1, _), (2, _)]) [_, _, _, _] plt_45 rfl rfl) rfl rfl rfl ?_
 refine XO_storeA rfl rfl szt_45 rfl rfl rfl rfl (by repeat (first | exact Upd.here | apply Upd.there | apply upd_app)) ?_
 refine zN ?_
 refine X_ret ?_
 exact at_ret1L rfl rfl (.ag agt_45 (Cells.here (vs := encPH ⟨r, d, w9, none, 0, 0⟩)) rfl) (fun w hw => ⟨rfl, hw.drop⟩)
theorem w_planE (I : HMap) : RetM Tryz.prog 18 [encCHA (⟨none, 0, 0, 1, 1, 1, 1, none, 0, 0⟩ : CH)] I [] (fun v I' L' => L' = [] ∧ ∃ a cc, v = .tuple #[.slice a 0 cc, .bool true, .int .i64 0]) := by
 have hC : CrAt I (⟨none, 0, 0, 1, 1, 1, 1, none, 0, 0⟩ : CH) empC := ⟨Sl.nil, rfl, rfl, rfl, rfl, [], Sl.nil, RelS.nil⟩
 refine (w_Plan hC d_emp).mono fun v I' L' hI ⟨h1, a, cc, h2, h3⟩ => ⟨h1, a, cc, ?_⟩
 rw [f_pl3, f_po3, f_ck3] at h2
 exact h2
theorem w_chkZ (I : HMap) : RetV Tryz.prog 20 [encCHA (⟨none, 0, 0, 0, 0, 0, 0, none, 0, 0⟩ : CH)] I (.int .i64 400) := by
 have hC : CrAt I (⟨none, 0, 0, 0, 0, 0, 0, none, 0, 0⟩ : CH) zerC := ⟨Sl.nil, rfl, rfl, rfl, rfl, [], Sl.nil, RelS.nil⟩
 have h := w_chkC hC (by intro s hs; cases hs)
 rw [f_ck4] at h
 exact h
theorem w_chkM {I : HMap} {b : Nat} (hM : Sl I 1 encI (some ⟨b, 0, none⟩) 17 17 manC.days) : RetV Tryz.prog 20 [encCHA ⟨some ⟨b, 0, none⟩, 17, 17, 0, 0, 0, 0, none, 0, 0⟩] I (.int .i64 2) := by
 have hC : CrAt I ⟨some ⟨b, 0, none⟩, 17, 17, 0, 0, 0, 0, none, 0, 0⟩ manC := ⟨hM, rfl, rfl, rfl, rfl, [], Sl.nil, RelS.nil⟩
 have h := w_chkC hC (by intro s hs; cases hs)
 rw [f_ck5] at h
 exact h
set_option maxHeartbeats 1000000 in
set_option maxRecDepth 100000 in
theorem w_sane40 (I : HMap) : RetV Tryz.prog 10 [] I (.bool true) := by
 intro g H w hw
 refine enter Tryz.func10 rfl Tryz.ntmps10 rfl hw ?_
 have hIc := HLe.refl I
 refine zR ?_
 refine zA ?_
 refine zN (zR ?_)
 refine XO_callM (cap := []) (vs := []) rfl rfl fun_37 .nil (w_two I) rfl rfl ?_
 rintro vv1 I1 L1 hI1 ⟨rfl, ca, cc, sa, sc, rfl, hC1⟩
 have hIc := hIc.trans hI1
 rw [List.nil_append]
 refine XO_alloc zt_33 rfl rfl (fun b_1 => ?_)
 refine XO_storeA rfl rfl szt_33 rfl rfl rfl rfl (by repeat (first | exact Upd.here | apply Upd.there | apply upd_app)) ?_
 refine zN (zR ?_)
 refine XO_v0 (ev_loadA rfl agt_33 (fun hg => by exact Cells.here (vs := encCH ⟨ca, 3, cc, 1, 1, 9, 2, sa, 2, sc⟩)) rfl) rfl rfl rfl ?_
 refine XO_callM (cap := []) (vs := [_]) rfl rfl fun_18 .nil (w_Plan hC1 d_two) rfl rfl ?_
 rintro vv2 I2 L2 hI2 ⟨rfl, pa1, pc1, rfl, hP1⟩
 have hC1 := hC1.mono hI2; have hIc := hIc.trans hI2
 rw [List.nil_append]
 rw [f_pl1] at hP1
 rw [f_pl1, f_po1, f_ck1]
 refine zM ?_
 refine XO_v0 (ev_extract rfl rfl) rfl rfl rfl ?_
 refine XO_v0 (ev_extract rfl rfl) rfl rfl rfl ?_
 refine XO_v0 (ev_extract rfl rfl) rfl rfl rfl ?_
 refine zA ?_
 refine zA ?_
 refine zA ?_
 refine zN (zR ?_)
 refine XO_v0 (ev_loadA rfl agt_33 (fun hg => by exact Cells.here (vs := encCH ⟨ca, 3, cc, 1, 1, 9, 2, sa, 2, sc⟩)) rfl) rfl rfl rfl ?_
 refine XO_callM (cap := []) (vs := [_, _]) rfl rfl fun_25 .nil (w_Refute hC1 d_two 1) rfl rfl ?_
 rintro vv3 I3 L3 hI3 ⟨rfl, rh1, rfl, hR1⟩
 have hC1 := hC1.mono hI3; have hP1 := hP1.mono hI3; have hIc := hIc.trans hI3
 rw [List.nil_append]
 rw [f_rp1] at hR1
 rw [f_ro1, f_le1]
 refine zM ?_
 refine XO_v0 (ev_extract rfl rfl) rfl rfl rfl ?_
 refine XO_v0 (ev_extract rfl rfl) rfl rfl rfl ?_
 refine XO_v0 (ev_extract rfl rfl) rfl rfl rfl ?_
 refine XO_alloc zt_45 rfl rfl (fun b_5 => ?_)
 refine XO_storeA rfl rfl szt_45 rfl rfl rfl rfl (by repeat (first | exact Upd.here | apply Upd.there | apply upd_app)) ?_
 refine zA ?_
 refine zA ?_
 refine zN ?_
 refine X_seq ?_
 refine X_freeze .here (fun I4 hI4 hb4 => ?_)
 have hC1 := hC1.mono hI4; have hP1 := hP1.mono hI4; have hR1 := hR1.mono hI4; have hIc := hIc.trans hI4
 have h5 := ImmC.of hb4
 refine X_region ?_
 refine XO_v0 (ev_loadA rfl agt_33 (fun hg => by exact Cells.here (vs := encCH ⟨ca, 3, cc, 1, 1, 9, 2, sa, 2, sc⟩)) rfl) rfl rfl rfl ?_
 refine XO_callM (cap := []) (vs := [_, _]) rfl rfl fun_25 .nil (w_Refute hC1 d_two 2) rfl rfl ?_
 rintro vv5 I5 L5 hI5 ⟨rfl, rh2, rfl, hR2⟩
 have hC1 := hC1.mono hI5; have hP1 := hP1.mono hI5; have hR1 := hR1.mono hI5; have h5 := h5.mono hI5; have hIc := hIc.trans hI5
 rw [List.nil_append]
 rw [f_ro2, f_le2]
 refine zM ?_
 refine XO_v0 (ev_extract rfl rfl) rfl rfl rfl ?_
 refine XO_v0 (ev_extract rfl rfl) rfl rfl rfl ?_
 refine XO_v0 (ev_extract rfl rfl) rfl rfl rfl ?_
 refine XO_alloc zt_45 rfl rfl (fun b_8 => ?_)
 refine XO_storeA rfl rfl szt_45 rfl rfl rfl rfl (by repeat (first | exact Upd.here | apply Upd.there | apply upd_app)) ?_
 refine zA ?_
 refine zA ?_
 refine zN ?_
 refine X_seq ?_
 refine X_freeze .here (fun I6 hI6 hb6 => ?_)
 have hC1 := hC1.mono hI6; have hP1 := hP1.mono hI6; have hR1 := hR1.mono hI6; have h5 := h5.mono hI6; have hIc := hIc.trans hI6
 have h8 := ImmC.of hb6
 refine X_region ?_
 refine XO_v0 (ev_loadA rfl agt_33 (fun hg => by exact Cells.here (vs := encCH ⟨ca, 3, cc, 1, 1, 9, 2, sa, 2, sc⟩)) rfl) rfl rfl rfl ?_
 refine XO_v0 (ev_loadA rfl agt_45 (fun hg => by exact Cells.immC (vs := encPH rh1) h5) rfl) rfl rfl rfl ?_
 refine XO_callV0 (cap := []) (vs := [_, _, _]) rfl rfl fun_27 (w_Accepts hC1 d_two 1 prfP rh1 hR1 f_sm) rfl rfl ?_
 rw [f_ac1, f_le1]
 refine zM ?_
 refine XO_v0 (ev_extract rfl rfl) rfl rfl rfl ?_
 refine XO_v0 (ev_extract rfl rfl) rfl rfl rfl ?_
 refine zA ?_
 refine zA ?_
 refine zN (zR ?_)
 refine XO_v0 (ev_loadA rfl agt_33 (fun hg => by exact Cells.here (vs := encCH ⟨ca, 3, cc, 1, 1, 9, 2, sa, 2, sc⟩)) rfl) rfl rfl rfl ?_
 refine XO_v0 (ev_loadA rfl agt_45 (fun hg => by exact Cells.immC (vs := encPH rh1) h5) rfl) rfl rfl rfl ?_
 refine XO_callV0 (cap := []) (vs := [_, _, _]) rfl rfl fun_27 (w_Accepts hC1 d_two 2 prfP rh1 hR1 f_sm) rfl rfl ?_
 rw [f_ac2, f_le2]
 refine zM ?_
 refine XO_v0 (ev_extract rfl rfl) rfl rfl rfl ?_
 refine XO_v0 (ev_extract rfl rfl) rfl rfl rfl ?_
 refine zA ?_
 refine zA ?_
 refine zN (zR ?_)
 refine XO_v0 (ev_loadA rfl agt_33 (fun hg => by exact Cells.here (vs := encCH ⟨ca, 3, cc, 1, 1, 9, 2, sa, 2, sc⟩)) rfl) rfl rfl rfl ?_
 refine XO_buildSlice (ps := [(0, _), (1, _)]) (m := [encI 1, encI 1]) elt_23 rfl (.cons rfl (.cons rfl (.nil))) rfl (by simp [encI_len]) (by decide) (by decide) rfl rfl (fun b_64 => ?_)
 refine XO_freeze (by repeat (first | exact Take.here | apply Take.there)) (fun I7 hI7 hb7 => ?_)
 have hC1 := hC1.mono hI7; have hP1 := hP1.mono hI7; have hR1 := hR1.mono hI7; have h5 := h5.mono hI7; have h8 := h8.mono hI7; have hIc := hIc.trans hI7
 have hG1 := Sl.lit ([1, 1] : List Int) rfl encI_len (show I7 b_64 = some (Obj.cells (([1, 1] : List Int).flatMap encI).toArray 3 (0, 0)) from hb7)
 refine XO_callM (cap := []) (vs := [_, _]) rfl rfl fun_16 .nil (w_Broken hC1 d_two hG1 (by decide)) rfl rfl ?_
 rintro vv8 I8 L8 hI8 ⟨rfl, ba1, bc1, rfl, hK1⟩
 have hC1 := hC1.mono hI8; have hP1 := hP1.mono hI8; have hR1 := hR1.mono hI8; have h5 := h5.mono hI8; have h8 := h8.mono hI8; have hG1 := hG1.mono hI8; have hIc := hIc.trans hI8
 rw [List.nil_append]
 rw [f_bl1] at hK1
 rw [f_bl1, f_be1]
 refine zM ?_
 refine XO_v0 (ev_extract rfl rfl) rfl rfl rfl ?_
 refine XO_v0 (ev_extract rfl rfl) rfl rfl rfl ?_
 refine zA ?_
 refine zA ?_
 refine zN (zR ?_)
 refine XO_v0 (ev_fieldAddr rfl fld_33_4) rfl rfl rfl ?_
 refine zS szt_3 ?_
 refine zN ?_
 refine X_seq ?_
 refine X_locEq (loc' := [(b_1, .cells (encCH ⟨ca, 3, cc, 1, 1, 9, 1, sa, 2, sc⟩).toArray 33 (0, 0))]) rfl ?_
 have hC2 : CrAt I8 ⟨ca, 3, cc, 1, 1, 9, 1, sa, 2, sc⟩ two1C := ⟨hC1.1, rfl, rfl, rfl, rfl, hC1.2.2.2.2.2⟩
 refine X_region ?_
 refine XO_v0 (ev_loadA rfl agt_33 (fun hg => by exact Cells.here (vs := encCH ⟨ca, 3, cc, 1, 1, 9, 1, sa, 2, sc⟩)) rfl) rfl rfl rfl ?_
 refine XO_callM (cap := []) (vs := [_]) rfl rfl fun_18 .nil (w_Plan hC2 d_two1) rfl rfl ?_
 rintro vv9 I9 L9 hI9 ⟨rfl, pa2, pc2, rfl, hP2⟩
 have hC1 := hC1.mono hI9; have hP1 := hP1.mono hI9; have hR1 := hR1.mono hI9; have h5 := h5.mono hI9; have h8 := h8.mono hI9; have hG1 := hG1.mono hI9; have hK1 := hK1.mono hI9; have hC2 := hC2.mono hI9; have hIc := hIc.trans hI9
 rw [List.nil_append]
 rw [f_pl2] at hP2
 rw [f_pl2, f_po2, f_ck2]
 refine zM ?_
 refine XO_v0 (ev_extract rfl rfl) rfl rfl rfl ?_
 refine XO_v0 (ev_extract rfl rfl) rfl rfl rfl ?_
 refine XO_v0 (ev_extract rfl rfl) rfl rfl rfl ?_
 refine zA ?_
 refine zA ?_
 refine zA ?_
 refine zN (zR ?_)
 refine XO_v0 (ev_buildL (ps := [(6, _)]) [_, _, _, _, _, _, _, _, _, _, _, _, _, _] plt_63 rfl rfl) rfl rfl rfl ?_
 refine XO_v0 (ev_buildL (ps := [(0, _), (1, _), (3, _), (4, _)]) [_, _, _, _, _, _, _, _, _, _, _, _, _, _, _, _, _, _, _] plt_65 rfl rfl) rfl rfl rfl ?_
 refine XO_buildSlice (ps := [(0, _)]) (m := [encP patP]) elt_22 rfl (.cons rfl (.nil)) rfl (by simp [encP_len]) (by decide) (by decide) rfl rfl (fun b_77 => ?_)
 refine XO_freeze (by repeat (first | exact Take.here | apply Take.there)) (fun I10 hI10 hb10 => ?_)
 have hC1 := hC1.mono hI10; have hP1 := hP1.mono hI10; have hR1 := hR1.mono hI10; have h5 := h5.mono hI10; have h8 := h8.mono hI10; have hG1 := hG1.mono hI10; have hK1 := hK1.mono hI10; have hC2 := hC2.mono hI10; have hP2 := hP2.mono hI10; have hIc := hIc.trans hI10
 have hP0 := Sl.lit ([patP] : List Pt) rfl encP_len (show I10 b_77 = some (Obj.cells (([patP] : List Pt).flatMap encP).toArray 65 (0, 0)) from hb10)
 have hPs : SlP I10 (some ⟨b_77, 0, none⟩) 1 1 [patP] := ⟨hP0, fun q hq => by simp only [List.mem_singleton] at hq; subst hq; exact Sl.nil⟩
 refine zA ?_
 refine zN (zR ?_)
 refine zM ?_
 refine XO_buildSlice (ps := [(0, _)]) (m := [encI 2]) elt_23 rfl (.cons rfl (.nil)) rfl (by simp [encI_len]) (by decide) (by decide) rfl rfl (fun b_80 => ?_)
 refine XO_freeze (by repeat (first | exact Take.here | apply Take.there)) (fun I11 hI11 hb11 => ?_)
 have hC1 := hC1.mono hI11; have hP1 := hP1.mono hI11; have hR1 := hR1.mono hI11; have h5 := h5.mono hI11; have h8 := h8.mono hI11; have hG1 := hG1.mono hI11; have hK1 := hK1.mono hI11; have hC2 := hC2.mono hI11; have hP2 := hP2.mono hI11; have hP0 := hP0.mono hI11; have hPs := hPs.mono hI11; have hIc := hIc.trans hI11
 have hT1 := Sl.lit ([2] : List Int) rfl encI_len (show I11 b_80 = some (Obj.cells (([2] : List Int).flatMap encI).toArray 3 (0, 0)) from hb11)
 refine XO_buildSlice (ps := [(0, _)]) (m := [encI 2]) elt_23 rfl (.cons rfl (.nil)) rfl (by simp [encI_len]) (by decide) (by decide) rfl rfl (fun b_81 => ?_)
 refine XO_freeze (by repeat (first | exact Take.here | apply Take.there)) (fun I12 hI12 hb12 => ?_)
 have hC1 := hC1.mono hI12; have hP1 := hP1.mono hI12; have hR1 := hR1.mono hI12; have h5 := h5.mono hI12; have h8 := h8.mono hI12; have hG1 := hG1.mono hI12; have hK1 := hK1.mono hI12; have hC2 := hC2.mono hI12; have hP2 := hP2.mono hI12; have hP0 := hP0.mono hI12; have hPs := hPs.mono hI12; have hT1 := hT1.mono hI12
 have hIc := hIc.trans hI12
 have hT2 := Sl.lit ([2] : List Int) rfl encI_len (show I12 b_81 = some (Obj.cells (([2] : List Int).flatMap encI).toArray 3 (0, 0)) from hb12)
 refine XO_buildSlice (ps := [(0, _), (1, _), (2, _)]) (m := [encH ⟨none, 0, 0⟩, encH ⟨some ⟨b_81, 0, none⟩, 1, 1⟩, encH ⟨none, 0, 0⟩]) elt_24 rfl (.cons rfl (.cons rfl (.cons rfl (.nil)))) rfl (by simp [encH_len]) (by decide) (by decide) rfl rfl (fun b_82 => ?_)
 refine XO_freeze (by repeat (first | exact Take.here | apply Take.there)) (fun I13 hI13 hb13 => ?_)
 have hC1 := hC1.mono hI13; have hP1 := hP1.mono hI13; have hR1 := hR1.mono hI13; have h5 := h5.mono hI13; have h8 := h8.mono hI13; have hG1 := hG1.mono hI13; have hK1 := hK1.mono hI13; have hC2 := hC2.mono hI13; have hP2 := hP2.mono hI13; have hP0 := hP0.mono hI13; have hPs := hPs.mono hI13; have hT1 := hT1.mono hI13
 have hT2 := hT2.mono hI13; have hIc := hIc.trans hI13
 have hH3 := Sl.lit [(⟨none, 0, 0⟩ : Hd), ⟨some ⟨b_81, 0, none⟩, 1, 1⟩, ⟨none, 0, 0⟩] rfl encH_len (show I13 b_82 = some (Obj.cells ([(⟨none, 0, 0⟩ : Hd), ⟨some ⟨b_81, 0, none⟩, 1, 1⟩, ⟨none, 0, 0⟩].flatMap encH).toArray 23 (0, 0)) from hb13)
 refine XO_callM (cap := []) (vs := [_, _, _]) rfl rfl fun_12 .nil (w_From hPs (by decide) hT1 (by decide) (show SlHA I13 1 encI _ _ _ _ [[], [2], []] from ⟨hH3, .cons Sl.nil (.cons hT2 (.cons Sl.nil .nil))⟩) (by decide) (by intro v hv; simp only [List.mem_cons, List.not_mem_nil, or_false] at hv; rcases hv with rfl | rfl | rfl <;> simp)) rfl rfl ?_
 rintro vv14 I14 L14 hI14 ⟨rfl, fa1, fc1, rfl, hF1⟩
 have hC1 := hC1.mono hI14; have hP1 := hP1.mono hI14; have hR1 := hR1.mono hI14; have h5 := h5.mono hI14; have h8 := h8.mono hI14; have hG1 := hG1.mono hI14; have hK1 := hK1.mono hI14; have hC2 := hC2.mono hI14; have hP2 := hP2.mono hI14; have hP0 := hP0.mono hI14; have hPs := hPs.mono hI14; have hT1 := hT1.mono hI14
 have hT2 := hT2.mono hI14; have hH3 := hH3.mono hI14; have hIc := hIc.trans hI14
 rw [List.nil_append]
 rw [f_fr1] at hF1
 rw [f_fr1, f_fe1]
 refine zM ?_
 refine XO_v0 (ev_extract rfl rfl) rfl rfl rfl ?_
 refine XO_v0 (ev_extract rfl rfl) rfl rfl rfl ?_
 refine zA ?_
 refine zA ?_
 refine zN (zR ?_)
 refine zM ?_
 refine XO_buildSlice (ps := [(0, _)]) (m := [encI 3]) elt_23 rfl (.cons rfl (.nil)) rfl (by simp [encI_len]) (by decide) (by decide) rfl rfl (fun b_88 => ?_)
 refine XO_freeze (by repeat (first | exact Take.here | apply Take.there)) (fun I15 hI15 hb15 => ?_)
 have hC1 := hC1.mono hI15; have hP1 := hP1.mono hI15; have hR1 := hR1.mono hI15; have h5 := h5.mono hI15; have h8 := h8.mono hI15; have hG1 := hG1.mono hI15; have hK1 := hK1.mono hI15; have hC2 := hC2.mono hI15; have hP2 := hP2.mono hI15; have hP0 := hP0.mono hI15; have hPs := hPs.mono hI15; have hT1 := hT1.mono hI15
 have hT2 := hT2.mono hI15; have hH3 := hH3.mono hI15; have hF1 := hF1.mono hI15; have hIc := hIc.trans hI15
 have hT3 := Sl.lit ([3] : List Int) rfl encI_len (show I15 b_88 = some (Obj.cells (([3] : List Int).flatMap encI).toArray 3 (0, 0)) from hb15)
 refine XO_callM (cap := []) (vs := [_, _, _]) rfl rfl fun_12 .nil (w_From hPs (by decide) hT3 (by decide) (show SlHA I15 1 encI none 0 0 [] [] from ⟨Sl.nil, .nil⟩) (by decide) (by intro v hv; cases hv)) rfl rfl ?_
 rintro vv16 I16 L16 hI16 ⟨rfl, fa2, fc2, rfl, hF2⟩
 have hC1 := hC1.mono hI16; have hP1 := hP1.mono hI16; have hR1 := hR1.mono hI16; have h5 := h5.mono hI16; have h8 := h8.mono hI16; have hG1 := hG1.mono hI16; have hK1 := hK1.mono hI16; have hC2 := hC2.mono hI16; have hP2 := hP2.mono hI16; have hP0 := hP0.mono hI16; have hPs := hPs.mono hI16; have hT1 := hT1.mono hI16
 have hT2 := hT2.mono hI16; have hH3 := hH3.mono hI16; have hF1 := hF1.mono hI16; have hT3 := hT3.mono hI16; have hIc := hIc.trans hI16
 rw [List.nil_append]
 rw [f_fe2]
 refine zM ?_
 refine XO_v0 (ev_extract rfl rfl) rfl rfl rfl ?_
 refine XO_v0 (ev_extract rfl rfl) rfl rfl rfl ?_
 refine zA ?_
 refine zA ?_
 refine zN (zR ?_)
 refine XO_v0 (ev_loadA rfl agt_33 (fun hg => by exact Cells.here (vs := encCH ⟨ca, 3, cc, 1, 1, 9, 1, sa, 2, sc⟩)) rfl) rfl rfl rfl ?_
 refine XO_buildSlice (ps := [(0, _), (1, _), (2, _)]) (m := [encI 0, encI 0, encI 0]) elt_23 rfl (.cons rfl (.cons rfl (.cons rfl (.nil)))) rfl (by simp [encI_len]) (by decide) (by decide) rfl rfl (fun b_94 => ?_)
 refine XO_freeze (by repeat (first | exact Take.here | apply Take.there)) (fun I17 hI17 hb17 => ?_)
 have hC1 := hC1.mono hI17; have hP1 := hP1.mono hI17; have hR1 := hR1.mono hI17; have h5 := h5.mono hI17; have h8 := h8.mono hI17; have hG1 := hG1.mono hI17; have hK1 := hK1.mono hI17; have hC2 := hC2.mono hI17; have hP2 := hP2.mono hI17; have hP0 := hP0.mono hI17; have hPs := hPs.mono hI17; have hT1 := hT1.mono hI17
 have hT2 := hT2.mono hI17; have hH3 := hH3.mono hI17; have hF1 := hF1.mono hI17; have hT3 := hT3.mono hI17; have hIc := hIc.trans hI17
 have hG2 := Sl.lit ([0, 0, 0] : List Int) rfl encI_len (show I17 b_94 = some (Obj.cells (([0, 0, 0] : List Int).flatMap encI).toArray 3 (0, 0)) from hb17)
 refine XO_callM (cap := []) (vs := [_, _]) rfl rfl fun_16 .nil (w_Broken hC2 d_two1 hG2 (by decide)) rfl rfl ?_
 rintro vv18 I18 L18 hI18 ⟨rfl, ba2, bc2, rfl, hK2⟩
 have hC1 := hC1.mono hI18; have hP1 := hP1.mono hI18; have hR1 := hR1.mono hI18; have h5 := h5.mono hI18; have h8 := h8.mono hI18; have hG1 := hG1.mono hI18; have hK1 := hK1.mono hI18; have hC2 := hC2.mono hI18; have hP2 := hP2.mono hI18; have hP0 := hP0.mono hI18; have hPs := hPs.mono hI18; have hT1 := hT1.mono hI18
 have hT2 := hT2.mono hI18; have hH3 := hH3.mono hI18; have hF1 := hF1.mono hI18; have hT3 := hT3.mono hI18; have hG2 := hG2.mono hI18; have hIc := hIc.trans hI18
 rw [List.nil_append]
 rw [f_be2]
 refine zM ?_
 refine XO_v0 (ev_extract rfl rfl) rfl rfl rfl ?_
 refine XO_v0 (ev_extract rfl rfl) rfl rfl rfl ?_
 refine zA ?_
 refine zA ?_
 refine zN (zR ?_)
 refine XO_v0 (ev_buildL (ps := [(1, _), (2, _), (3, _), (4, _)]) [_, _, _, _, _, _] plt_33 rfl rfl) rfl rfl rfl ?_
 refine XO_callM (cap := []) (vs := [_]) rfl rfl fun_18 .nil (w_planE I18) rfl rfl ?_
 rintro vv19 I19 L19 hI19 ⟨rfl, pa3, pc3, rfl⟩
 have hC1 := hC1.mono hI19; have hP1 := hP1.mono hI19; have hR1 := hR1.mono hI19; have h5 := h5.mono hI19; have h8 := h8.mono hI19; have hG1 := hG1.mono hI19; have hK1 := hK1.mono hI19; have hC2 := hC2.mono hI19; have hP2 := hP2.mono hI19; have hP0 := hP0.mono hI19; have hPs := hPs.mono hI19; have hT1 := hT1.mono hI19
 have hT2 := hT2.mono hI19; have hH3 := hH3.mono hI19; have hF1 := hF1.mono hI19; have hT3 := hT3.mono hI19; have hG2 := hG2.mono hI19; have hIc := hIc.trans hI19
 rw [List.nil_append]
 refine zM ?_
 refine XO_v0 (ev_extract rfl rfl) rfl rfl rfl ?_
 refine XO_v0 (ev_extract rfl rfl) rfl rfl rfl ?_
 refine XO_v0 (ev_extract rfl rfl) rfl rfl rfl ?_
 refine zA ?_
 refine zA ?_
 refine zA ?_
 refine zN ?_
 refine X_seq ?_
 refine zR ?_
 simp only [List.append_eq, List.cons_append, List.nil_append]
 refine zM ?_
 refine zC ?_
 refine zM ?_
 refine XO_pushF 2 rfl rfl rfl ?_
 refine XO_v1 (ev_move rfl) (.some rfl rfl rfl rfl gbf) rfl rfl rfl ?_
 refine XO_v1 (ev_cmp rfl rfl rfl) (.some rfl rfl rfl rfl gbf) rfl rfl rfl ?_
 refine XO_or0 rfl rfl rfl rfl rfl ?_
 refine zM ?_
 refine XO_pushF 6 rfl rfl rfl ?_
 refine XO_v1 (ev_move rfl) (.some rfl rfl rfl rfl gbf) rfl rfl rfl ?_
 refine XO_v1 (ev_cmp rfl rfl rfl) (.some rfl rfl rfl rfl gbf) rfl rfl rfl ?_
 refine XO_or0 rfl rfl rfl rfl rfl ?_
 refine zM ?_
 refine XO_pushF 10 rfl rfl rfl ?_
 refine XO_v1 (ev_move rfl) (.some rfl rfl rfl rfl gbf) rfl rfl rfl ?_
 refine XO_v1 (ev_cmp rfl rfl rfl) (.some rfl rfl rfl rfl gbf) rfl rfl rfl ?_
 refine XO_or0 rfl rfl rfl rfl rfl ?_
 refine zM ?_
 refine XO_pushF 14 rfl rfl rfl ?_
 refine XO_v1 (ev_move rfl) (.some rfl rfl rfl rfl gbf) rfl rfl rfl ?_
 refine XO_v1 (ev_cmp rfl rfl rfl) (.some rfl rfl rfl rfl gbf) rfl rfl rfl ?_
 refine XO_or0 rfl rfl rfl rfl rfl ?_
 refine zM ?_
 refine XO_pushF 18 rfl rfl rfl ?_
 refine XO_v1 (ev_move rfl) (.some rfl rfl rfl rfl gbf) rfl rfl rfl ?_
 refine XO_v1 (ev_cmp rfl rfl rfl) (.some rfl rfl rfl rfl gbf) rfl rfl rfl ?_
 refine XO_or0 rfl rfl rfl rfl rfl ?_
 refine zM ?_
 refine XO_pushF 22 rfl rfl rfl ?_
 refine XO_v1 (ev_move rfl) (.some rfl rfl rfl rfl gbf) rfl rfl rfl ?_
 refine XO_v1 (ev_cmp rfl rfl rfl) (.some rfl rfl rfl rfl gbf) rfl rfl rfl ?_
 refine XO_or0 rfl rfl rfl rfl rfl ?_
 refine zM ?_
 refine XO_pushF 26 rfl rfl rfl ?_
 refine XO_v1 (ev_move rfl) (.some rfl rfl rfl rfl gbf) rfl rfl rfl ?_
 refine XO_v1 (ev_cmp rfl rfl rfl) (.some rfl rfl rfl rfl gbf) rfl rfl rfl ?_
 refine XO_or0 rfl rfl rfl rfl rfl ?_
 refine zM ?_
 refine XO_pushF 30 rfl rfl rfl ?_
 refine XO_v1 (ev_move rfl) (.some rfl rfl rfl rfl gbf) rfl rfl rfl ?_
 refine XO_v1 (ev_cmp rfl rfl rfl) (.some rfl rfl rfl rfl gbf) rfl rfl rfl ?_
 refine XO_or0 rfl rfl rfl rfl rfl ?_
 refine zM ?_
 refine XO_pushF 34 rfl rfl rfl ?_
 refine XO_v1 (ev_move rfl) (.some rfl rfl rfl rfl gbf) rfl rfl rfl ?_
 refine XO_v1 (ev_cmp rfl rfl rfl) (.some rfl rfl rfl rfl gbf) rfl rfl rfl ?_
 refine XO_or0 rfl rfl rfl rfl rfl ?_
 refine zM ?_
 refine XO_pushF 38 rfl rfl rfl ?_
 refine XO_v1 (ev_move rfl) (.some rfl rfl rfl rfl gbf) rfl rfl rfl ?_
 refine XO_v1 (ev_cmp rfl rfl rfl) (.some rfl rfl rfl rfl gbf) rfl rfl rfl ?_
 refine XO_or0 rfl rfl rfl rfl rfl ?_
 refine zM ?_
 refine XO_pushF 42 rfl rfl rfl ?_
 refine XO_v1 (ev_move rfl) (.some rfl rfl rfl rfl gbf) rfl rfl rfl ?_
 refine XO_v1 (ev_not rfl) (.some rfl rfl rfl rfl gbf) rfl rfl rfl ?_
 refine XO_or0 rfl rfl rfl rfl rfl ?_
 refine zM ?_
 refine XO_pushF 46 rfl rfl rfl ?_
 refine XO_v1 (ev_move rfl) (.some rfl rfl rfl rfl gbf) rfl rfl rfl ?_
 refine XO_v1 (ev_not rfl) (.some rfl rfl rfl rfl gbf) rfl rfl rfl ?_
 refine XO_or0 rfl rfl rfl rfl rfl ?_
 refine zM ?_
 refine XO_pushF 50 rfl rfl rfl ?_
 refine XO_v1 (ev_move rfl) (.some rfl rfl rfl rfl gbf) rfl rfl rfl ?_
 refine XO_or0 rfl rfl rfl rfl rfl ?_
 refine zM ?_
 refine XO_pushF 53 rfl rfl rfl ?_
 refine XO_v1 (ev_move rfl) (.some rfl rfl rfl rfl gbf) rfl rfl rfl ?_
 refine XO_v1 (ev_not rfl) (.some rfl rfl rfl rfl gbf) rfl rfl rfl ?_
 refine XO_or0 rfl rfl rfl rfl rfl ?_
 refine zM ?_
 refine XO_pushF 57 rfl rfl rfl ?_
 refine XO_v1 (ev_move rfl) (.some rfl rfl rfl rfl gbf) rfl rfl rfl ?_
 refine XO_or0 rfl rfl rfl rfl rfl ?_
 refine zM ?_
 refine XO_pushF 60 rfl rfl rfl ?_
 refine XO_v1 (ev_move rfl) (.some rfl rfl rfl rfl gbf) rfl rfl rfl ?_
 refine XO_v1 (ev_not rfl) (.some rfl rfl rfl rfl gbf) rfl rfl rfl ?_
 refine XO_or0 rfl rfl rfl rfl rfl ?_
 refine zM ?_
 refine XO_pushF 64 rfl rfl rfl ?_
 refine XO_v1 (ev_move rfl) (.some rfl rfl rfl rfl gbf) rfl rfl rfl ?_
 refine XO_v1 (ev_not rfl) (.some rfl rfl rfl rfl gbf) rfl rfl rfl ?_
 refine XO_or0 rfl rfl rfl rfl rfl ?_
 refine zM ?_
 refine XO_pushF 68 rfl rfl rfl ?_
 refine XO_v1 (ev_move rfl) (.some rfl rfl rfl rfl gbf) rfl rfl rfl ?_
 refine XO_v1 (ev_lenS rfl slt_23) (.some rfl rfl rfl rfl gbf) rfl rfl rfl ?_
 refine XO_v1 (ev_cmp rfl rfl rfl) (.some rfl rfl rfl rfl gbf) rfl rfl rfl ?_
 refine XO_or0 rfl rfl rfl rfl rfl ?_
 refine zN ?_
 refine X_cond rfl (fun hc176 => ?_) (fun hc176 => ?_)
 ·
  exact absurd hc176 (by decide)
 refine X_skip ?_
 refine at_then ?_
 refine X_seq ?_
 refine zR ?_
 refine XO_v0 (ev_buildL (ps := []) [_, _, _, _, _, _] plt_33 rfl rfl) rfl rfl rfl ?_
 refine XO_callV0 (cap := []) (vs := [_]) rfl rfl fun_20 (w_chkZ _) rfl rfl ?_
 refine zC ?_
 refine zM ?_
 refine XO_want (dj := 180) rfl rfl rfl ?_
 refine XO_v0 (ev_loadA rfl agt_33 (fun hg => by exact Cells.here (vs := encCH ⟨ca, 3, cc, 1, 1, 9, 1, sa, 2, sc⟩)) rfl) rfl rfl rfl ?_
 refine XO_want (dj := 180) rfl rfl rfl ?_
 refine XO_callV0 (cap := []) (vs := [_]) rfl rfl fun_20 (w_chkC hC2 d_two1) rfl rfl ?_
 rw [f_ck2]
 refine XO_want (dj := 180) rfl rfl rfl ?_
 refine zC ?_
 refine XO_v0 (ev_pickb rfl rfl rfl) rfl rfl rfl ?_
 refine zM ?_
 refine XO_want (dj := 185) rfl rfl rfl ?_
 refine XO_makeSlice mkt_23 rfl rfl (by omega) (by decide) rfl rfl (fun b_186 => ?_)
 refine XO_freeze .here (fun I20 hI20 hb20 => ?_)
 have hC1 := hC1.mono hI20; have hP1 := hP1.mono hI20; have hR1 := hR1.mono hI20; have h5 := h5.mono hI20; have h8 := h8.mono hI20; have hG1 := hG1.mono hI20; have hK1 := hK1.mono hI20; have hC2 := hC2.mono hI20; have hP2 := hP2.mono hI20; have hP0 := hP0.mono hI20; have hPs := hPs.mono hI20; have hT1 := hT1.mono hI20
 have hT2 := hT2.mono hI20; have hH3 := hH3.mono hI20; have hF1 := hF1.mono hI20; have hT3 := hT3.mono hI20; have hG2 := hG2.mono hI20; have hIc := hIc.trans hI20
 have hM17 : Sl I20 1 encI (some ⟨b_186, 0, none⟩) 17 17 manC.days := Sl.lit manC.days rfl encI_len (show I20 b_186 = some (Obj.cells ((manC.days : List Int).flatMap encI).toArray 3 (0, 0)) from hb20)
 refine XO_want (dj := 185) rfl rfl rfl ?_
 refine XO_v0 (ev_buildL (ps := [(0, _)]) [_, _, _, _, _, _] plt_33 rfl rfl) rfl rfl rfl ?_
 refine XO_want (dj := 185) rfl rfl rfl ?_
 refine XO_callV0 (cap := []) (vs := [_]) rfl rfl fun_20 (w_chkM hM17) rfl rfl ?_
 refine XO_want (dj := 185) rfl rfl rfl ?_
 refine zC ?_
 refine XO_v0 (ev_pickb rfl rfl rfl) rfl rfl rfl ?_
 refine zN ?_
 refine X_cond rfl (fun hc190 => ?_) (fun hc190 => ?_)
 ·
  exact absurd hc190 (by decide)
 refine X_skip ?_
 refine at_then ?_
 refine zR ?_
 refine zA ?_
 refine zN ?_
 refine X_seq ?_
 have h5z := h5
 have hD := HLe.refl I20
 refine X_drawC mixed ?_
 refine zT 0 rfl (ev_move rfl) hD ?_
 refine XD_one 1 rfl (by kernel_rfl) ?_
 refine XO_buildSlice (ps := [(0, _), (1, _)]) (m := [encI 0, encI 1]) elt_23 rfl (.cons rfl (.cons rfl (.nil))) rfl (by simp [encI_len]) (by decide) (by decide) rfl rfl (fun b_192 => ?_)
 refine XO_freeze (by repeat (first | exact Take.here | apply Take.there)) (fun I21 hI21 hb21 => ?_)
 have hC1 := hC1.mono hI21; have hP1 := hP1.mono hI21; have hR1 := hR1.mono hI21; have h5 := h5.mono hI21; have h8 := h8.mono hI21; have hG1 := hG1.mono hI21; have hK1 := hK1.mono hI21; have hC2 := hC2.mono hI21; have hP2 := hP2.mono hI21; have hP0 := hP0.mono hI21; have hPs := hPs.mono hI21; have hT1 := hT1.mono hI21
 have hT2 := hT2.mono hI21; have hH3 := hH3.mono hI21; have hF1 := hF1.mono hI21; have hT3 := hT3.mono hI21; have hG2 := hG2.mono hI21; have hIc := hIc.trans hI21; have hD := hD.trans hI21
 have hL1 := Sl.lit ([0, 1] : List Int) rfl encI_len (show I21 b_192 = some (Obj.cells (([0, 1] : List Int).flatMap encI).toArray 3 (0, 0)) from hb21)
 refine XO_nil ?_
 refine zD hD ?_
 refine XD_one 2 rfl (by kernel_rfl) ?_
 refine XO_callV0 (cap := []) (vs := [_, _]) rfl rfl fun_23 (w_rSame hP1 (by decide) hL1) rfl rfl ?_
 refine XO_nil ?_
 refine zD hD ?_
 refine zT 3 rfl (ev_move rfl) hD ?_
 refine XD_takeW 4 rfl rfl rfl (dj := 194) rfl (ev_move rfl) rfl (by kernel_rfl) (by kernel_rfl) (by kernel_rfl) noP_ok hD (by repeat (first | exact .refl | exact subL_nil | refine .keep ?_ | refine .drop ?_ | refine subL_add ?_)) ?_
 refine XD_one 5 rfl (by kernel_rfl) ?_
 refine XO_want (dj := 194) rfl rfl rfl ?_
 refine XO_buildSlice (ps := [(0, _), (1, _)]) (m := [encI 0, encI 2]) elt_23 rfl (.cons rfl (.cons rfl (.nil))) rfl (by simp [encI_len]) (by decide) (by decide) rfl rfl (fun b_196 => ?_)
 refine XO_freeze (by repeat (first | exact Take.here | apply Take.there)) (fun I22 hI22 hb22 => ?_)
 have hC1 := hC1.mono hI22; have hP1 := hP1.mono hI22; have hR1 := hR1.mono hI22; have h5 := h5.mono hI22; have h8 := h8.mono hI22; have hG1 := hG1.mono hI22; have hK1 := hK1.mono hI22; have hC2 := hC2.mono hI22; have hP2 := hP2.mono hI22; have hP0 := hP0.mono hI22; have hPs := hPs.mono hI22; have hT1 := hT1.mono hI22
 have hT2 := hT2.mono hI22; have hH3 := hH3.mono hI22; have hF1 := hF1.mono hI22; have hT3 := hT3.mono hI22; have hG2 := hG2.mono hI22; have hL1 := hL1.mono hI22; have hIc := hIc.trans hI22; have hD := hD.trans hI22
 have hL2 := Sl.lit ([0, 2] : List Int) rfl encI_len (show I22 b_196 = some (Obj.cells (([0, 2] : List Int).flatMap encI).toArray 3 (0, 0)) from hb22)
 refine XO_nil ?_
 refine zD hD ?_
 refine XD_one 6 rfl (by kernel_rfl) ?_
 refine XO_want (dj := 194) rfl rfl rfl ?_
 refine XO_callV0 (cap := []) (vs := [_, _]) rfl rfl fun_23 (w_rSame hP2 (by decide) hL2) rfl rfl ?_
 refine XO_nil ?_
 refine zD hD ?_
 refine zT 7 rfl (ev_pickb rfl rfl rfl) hD ?_
 refine zT 8 rfl (ev_move rfl) hD ?_
 refine XD_takeW 9 rfl rfl rfl (dj := 199) rfl (ev_move rfl) rfl (by kernel_rfl) (by kernel_rfl) (by kernel_rfl) noP_ok hD (by repeat (first | exact .refl | exact subL_nil | refine .keep ?_ | refine .drop ?_ | refine subL_add ?_)) ?_
 refine XD_one 10 rfl (by kernel_rfl) ?_
 refine XO_want (dj := 199) rfl rfl rfl ?_
 refine XO_buildSlice (ps := [(0, _), (1, _)]) (m := [encI 0, encI 2]) elt_23 rfl (.cons rfl (.cons rfl (.nil))) rfl (by simp [encI_len]) (by decide) (by decide) rfl rfl (fun b_201 => ?_)
 refine XO_freeze (by repeat (first | exact Take.here | apply Take.there)) (fun I23 hI23 hb23 => ?_)
 have hC1 := hC1.mono hI23; have hP1 := hP1.mono hI23; have hR1 := hR1.mono hI23; have h5 := h5.mono hI23; have h8 := h8.mono hI23; have hG1 := hG1.mono hI23; have hK1 := hK1.mono hI23; have hC2 := hC2.mono hI23; have hP2 := hP2.mono hI23; have hP0 := hP0.mono hI23; have hPs := hPs.mono hI23; have hT1 := hT1.mono hI23
 have hT2 := hT2.mono hI23; have hH3 := hH3.mono hI23; have hF1 := hF1.mono hI23; have hT3 := hT3.mono hI23; have hG2 := hG2.mono hI23; have hL1 := hL1.mono hI23; have hL2 := hL2.mono hI23; have hIc := hIc.trans hI23; have hD := hD.trans hI23
 have hL3 := Sl.lit ([0, 2] : List Int) rfl encI_len (show I23 b_201 = some (Obj.cells (([0, 2] : List Int).flatMap encI).toArray 3 (0, 0)) from hb23)
 refine XO_nil ?_
 refine zD hD ?_
 refine XD_takeW 11 rfl rfl rfl (dj := 199) rfl (ev_buildL (ps := [(0, _), (1, _), (2, _)]) [_, _, _, _] plt_58 rfl rfl) rfl (by kernel_rfl) (by kernel_rfl) (by kernel_rfl) noP_ok hD (by repeat (first | exact .refl | exact subL_nil | refine .keep ?_ | refine .drop ?_ | refine subL_add ?_)) ?_
 refine XD_one 12 rfl (by kernel_rfl) ?_
 refine XO_want (dj := 199) rfl rfl rfl ?_
 refine XO_buildSlice (ps := [(0, _)]) (m := [encSH ⟨2, 1, some ⟨b_201, 0, none⟩, 2, 2, none, 0, 0⟩]) elt_27 rfl (.cons rfl (.nil)) rfl (by simp [encSH_len]) (by decide) (by decide) rfl rfl (fun b_203 => ?_)
 refine XO_freeze (by repeat (first | exact Take.here | apply Take.there)) (fun I24 hI24 hb24 => ?_)
 have hC1 := hC1.mono hI24; have hP1 := hP1.mono hI24; have hR1 := hR1.mono hI24; have h5 := h5.mono hI24; have h8 := h8.mono hI24; have hG1 := hG1.mono hI24; have hK1 := hK1.mono hI24; have hC2 := hC2.mono hI24; have hP2 := hP2.mono hI24; have hP0 := hP0.mono hI24; have hPs := hPs.mono hI24; have hT1 := hT1.mono hI24
 have hT2 := hT2.mono hI24; have hH3 := hH3.mono hI24; have hF1 := hF1.mono hI24; have hT3 := hT3.mono hI24; have hG2 := hG2.mono hI24; have hL1 := hL1.mono hI24; have hL2 := hL2.mono hI24; have hL3 := hL3.mono hI24; have hIc := hIc.trans hI24; have hD := hD.trans hI24
 have hL4 := Sl.lit ([⟨2, 1, some ⟨b_201, 0, none⟩, 2, 2, none, 0, 0⟩] : List SH) rfl encSH_len (show I24 b_203 = some (Obj.cells (([⟨2, 1, some ⟨b_201, 0, none⟩, 2, 2, none, 0, 0⟩] : List SH).flatMap encSH).toArray 58 (0, 0)) from hb24)
 refine XO_nil ?_
 refine zD hD ?_
 refine XD_one 13 rfl (by kernel_rfl) ?_
 refine XO_want (dj := 199) rfl rfl rfl ?_
 refine XO_callV0 (cap := []) (vs := [_, _]) rfl rfl fun_14 (w_samS hF1.choose_spec (by decide) (by intro s hs; simp only [List.mem_singleton] at hs; subst hs; exact ⟨by decide, by decide⟩) (show SlSH I24 _ 1 1 [⟨2, 1, some ⟨b_201, 0, none⟩, 2, 2, none, 0, 0⟩] [⟨2, 1, [0, 2], []⟩] from ⟨hL4, RelS.nil.snoc ⟨rfl, rfl, hL3, Sl.nil⟩⟩)) rfl rfl ?_
 refine XO_nil ?_
 refine zD hD ?_
 refine zT 14 rfl (ev_pickb rfl rfl rfl) hD ?_
 refine zT 15 rfl (ev_move rfl) hD ?_
 refine XD_takeW 16 rfl rfl rfl (dj := 206) rfl (ev_move rfl) rfl (by kernel_rfl) (by kernel_rfl) (by kernel_rfl) noP_ok hD (by repeat (first | exact .refl | exact subL_nil | refine .keep ?_ | refine .drop ?_ | refine subL_add ?_)) ?_
 refine XD_takeW 17 rfl rfl rfl (dj := 206) rfl (ev_move rfl) rfl (by kernel_rfl) (by kernel_rfl) (by kernel_rfl) noP_ok hD (by repeat (first | exact .refl | exact subL_nil | refine .keep ?_ | refine .drop ?_ | refine subL_add ?_)) ?_
 refine XD_takeW 19 rfl rfl rfl (dj := 206) rfl (ev_move rfl) rfl (by kernel_rfl) (by kernel_rfl) (by kernel_rfl) noP_ok hD (by repeat (first | exact .refl | exact subL_nil | refine .keep ?_ | refine .drop ?_ | refine subL_add ?_)) ?_
 refine XD_takeW 21 rfl rfl rfl (dj := 206) rfl (ev_move rfl) rfl (by kernel_rfl) (by kernel_rfl) (by kernel_rfl) noP_ok hD (by repeat (first | exact .refl | exact subL_nil | refine .keep ?_ | refine .drop ?_ | refine subL_add ?_)) ?_
 refine XD_one 18 rfl (by kernel_rfl) ?_
 refine XO_want (dj := 206) rfl rfl rfl ?_
 refine XO_callV0 (cap := []) (vs := [_, _, _]) rfl rfl fun_38 (w_leafS _ _ _ _) rfl rfl ?_
 refine XO_nil ?_
 refine zD hD ?_
 refine XD_one 20 rfl (by kernel_rfl) ?_
 refine XO_want (dj := 206) rfl rfl rfl ?_
 refine XO_callV0 (cap := []) (vs := [_, _, _]) rfl rfl fun_38 (w_leafS _ _ _ _) rfl rfl ?_
 refine XO_nil ?_
 refine zD hD ?_
 refine XD_one 22 rfl (by kernel_rfl) ?_
 refine XO_want (dj := 206) rfl rfl rfl ?_
 refine XO_callV0 (cap := []) (vs := [_, _, _]) rfl rfl fun_38 (w_leafS _ _ _ _) rfl rfl ?_
 refine XO_nil ?_
 refine zD hD ?_
 refine XD_one 23 rfl (by kernel_rfl) ?_
 refine XO_want (dj := 206) rfl rfl rfl ?_
 refine XO_buildSlice (ps := [(0, _), (1, _), (2, _)]) (m := [encPH ⟨1, 1, 0, none, 0, 0⟩, encPH ⟨2, 1, 0, none, 0, 0⟩, encPH ⟨3, 1, 7, none, 0, 0⟩]) elt_35 rfl (.cons rfl (.cons rfl (.cons rfl (.nil)))) rfl (by simp [encPH_len]) (by decide) (by decide) rfl rfl (fun b_214 => ?_)
 refine XO_freeze (by repeat (first | exact Take.here | apply Take.there)) (fun I25 hI25 hb25 => ?_)
 have hC1 := hC1.mono hI25; have hP1 := hP1.mono hI25; have hR1 := hR1.mono hI25; have h5 := h5.mono hI25; have h8 := h8.mono hI25; have hG1 := hG1.mono hI25; have hK1 := hK1.mono hI25; have hC2 := hC2.mono hI25; have hP2 := hP2.mono hI25; have hP0 := hP0.mono hI25; have hPs := hPs.mono hI25; have hT1 := hT1.mono hI25
 have hT2 := hT2.mono hI25; have hH3 := hH3.mono hI25; have hF1 := hF1.mono hI25; have hT3 := hT3.mono hI25; have hG2 := hG2.mono hI25; have hL1 := hL1.mono hI25; have hL2 := hL2.mono hI25; have hL3 := hL3.mono hI25; have hL4 := hL4.mono hI25; have hIc := hIc.trans hI25; have hD := hD.trans hI25
 have hL5 := Sl.lit [(⟨1, 1, 0, none, 0, 0⟩ : PH), (⟨2, 1, 0, none, 0, 0⟩ : PH), (⟨3, 1, 7, none, 0, 0⟩ : PH)] rfl encPH_len (show I25 b_214 = some (Obj.cells ([(⟨1, 1, 0, none, 0, 0⟩ : PH), (⟨2, 1, 0, none, 0, 0⟩ : PH), (⟨3, 1, 7, none, 0, 0⟩ : PH)].flatMap encPH).toArray 45 (0, 0)) from hb25)
 refine XO_nil ?_
 refine zD hD ?_
 refine XD_one 24 rfl (by kernel_rfl) ?_
 refine XO_want (dj := 206) rfl rfl rfl ?_
 refine XO_callV0 (cap := []) (vs := [_, _]) rfl rfl fun_22 (w_samPs hK1 (prsAt_lf [⟨1, 1, 0⟩, ⟨2, 1, 0⟩, ⟨3, 1, 7⟩]) (by decide) (sml_lf [⟨1, 1, 0⟩, ⟨2, 1, 0⟩, ⟨3, 1, 7⟩]) hL5 (prsAt_lf [⟨1, 1, 0⟩, ⟨2, 1, 0⟩, ⟨3, 1, 7⟩])) rfl rfl ?_
 refine XO_nil ?_
 refine zD hD ?_
 refine zT 25 rfl (ev_pickb rfl rfl rfl) hD ?_
 refine zT 26 rfl (ev_move rfl) hD ?_
 refine XD_takeW 27 rfl rfl rfl (dj := 217) rfl (ev_loadA rfl agt_45 (fun hg => by exact Cells.immC (vs := encPH rh1) h5z) rfl) rfl (by kernel_rfl) (by kernel_rfl) (by kernel_rfl) noP_ok hD (by repeat (first | exact .refl | exact subL_nil | refine .keep ?_ | refine .drop ?_ | refine subL_add ?_)) ?_
 refine XD_takeW 29 rfl rfl rfl (dj := 217) rfl (ev_move rfl) rfl (by kernel_rfl) (by kernel_rfl) (by kernel_rfl) noP_ok hD (by repeat (first | exact .refl | exact subL_nil | refine .keep ?_ | refine .drop ?_ | refine subL_add ?_)) ?_
 refine XD_two 28 30 rfl rfl (by kernel_rfl) ?_ ?_
 ·
  refine XO_want (dj := 217) rfl rfl rfl ?_
  refine XO_buildSlice (ps := [(0, _)]) (m := [encPH rh1]) elt_35 rfl (.cons rfl (.nil)) rfl (by simp [encPH_len]) (by decide) (by decide) rfl rfl (fun b_219 => ?_)
  refine XO_freeze (by repeat (first | exact Take.here | apply Take.there)) (fun I26 hI26 hb26 => ?_)
  have hC1 := hC1.mono hI26; have hP1 := hP1.mono hI26; have hR1 := hR1.mono hI26; have h5 := h5.mono hI26; have h8 := h8.mono hI26; have hG1 := hG1.mono hI26; have hK1 := hK1.mono hI26; have hC2 := hC2.mono hI26; have hP2 := hP2.mono hI26; have hP0 := hP0.mono hI26; have hPs := hPs.mono hI26; have hT1 := hT1.mono hI26
  have hT2 := hT2.mono hI26; have hH3 := hH3.mono hI26; have hF1 := hF1.mono hI26; have hT3 := hT3.mono hI26; have hG2 := hG2.mono hI26; have hL1 := hL1.mono hI26; have hL2 := hL2.mono hI26; have hL3 := hL3.mono hI26; have hL4 := hL4.mono hI26; have hL5 := hL5.mono hI26; have hIc := hIc.trans hI26; have hD := hD.trans hI26
  have hL6 := Sl.lit ([rh1] : List PH) rfl encPH_len (show I26 b_219 = some (Obj.cells (([rh1] : List PH).flatMap encPH).toArray 45 (0, 0)) from hb26)
  refine XO_nil ?_
  refine zD hD ?_
  refine XD_one 30 rfl (by kernel_rfl) ?_
  refine XO_want (dj := 217) rfl rfl rfl ?_
  refine XO_callV0 (cap := []) (vs := [_, _, _]) rfl rfl fun_38 (w_leafS _ _ _ _) rfl rfl ?_
  refine XO_nil ?_
  refine zD hD ?_
  refine XD_one 31 rfl (by kernel_rfl) ?_
  refine XO_want (dj := 217) rfl rfl rfl ?_
  refine XO_buildSlice (ps := [(0, _)]) (m := [encPH ⟨1, 0, 0, none, 0, 0⟩]) elt_35 rfl (.cons rfl (.nil)) rfl (by simp [encPH_len]) (by decide) (by decide) rfl rfl (fun b_222 => ?_)
  refine XO_freeze (by repeat (first | exact Take.here | apply Take.there)) (fun I27 hI27 hb27 => ?_)
  have hC1 := hC1.mono hI27; have hP1 := hP1.mono hI27; have hR1 := hR1.mono hI27; have h5 := h5.mono hI27; have h8 := h8.mono hI27; have hG1 := hG1.mono hI27; have hK1 := hK1.mono hI27; have hC2 := hC2.mono hI27; have hP2 := hP2.mono hI27; have hP0 := hP0.mono hI27; have hPs := hPs.mono hI27; have hT1 := hT1.mono hI27
  have hT2 := hT2.mono hI27; have hH3 := hH3.mono hI27; have hF1 := hF1.mono hI27; have hT3 := hT3.mono hI27; have hG2 := hG2.mono hI27; have hL1 := hL1.mono hI27; have hL2 := hL2.mono hI27; have hL3 := hL3.mono hI27; have hL4 := hL4.mono hI27; have hL5 := hL5.mono hI27; have hL6 := hL6.mono hI27; have hIc := hIc.trans hI27
  have hD := hD.trans hI27
  have hL7 := Sl.lit [(⟨1, 0, 0, none, 0, 0⟩ : PH)] rfl encPH_len (show I27 b_222 = some (Obj.cells ([(⟨1, 0, 0, none, 0, 0⟩ : PH)].flatMap encPH).toArray 45 (0, 0)) from hb27)
  refine XO_nil ?_
  refine zD hD ?_
  refine XD_takeW 32 rfl rfl rfl (dj := 217) rfl (ev_buildL (ps := [(3, _)]) [_, _, _, _] plt_45 rfl rfl) rfl (by kernel_rfl) (by kernel_rfl) (by kernel_rfl) noP_ok hD (by repeat (first | exact .refl | exact subL_nil | refine .keep ?_ | refine .drop ?_ | refine subL_add ?_)) ?_
  refine XD_one 33 rfl (by kernel_rfl) ?_
  refine XO_want (dj := 217) rfl rfl rfl ?_
  refine XO_buildSlice (ps := [(0, _)]) (m := [encPH ⟨0, 0, 0, some ⟨b_222, 0, none⟩, 1, 1⟩]) elt_35 rfl (.cons rfl (.nil)) rfl (by simp [encPH_len]) (by decide) (by decide) rfl rfl (fun b_224 => ?_)
  refine XO_freeze (by repeat (first | exact Take.here | apply Take.there)) (fun I28 hI28 hb28 => ?_)
  have hC1 := hC1.mono hI28; have hP1 := hP1.mono hI28; have hR1 := hR1.mono hI28; have h5 := h5.mono hI28; have h8 := h8.mono hI28; have hG1 := hG1.mono hI28; have hK1 := hK1.mono hI28; have hC2 := hC2.mono hI28; have hP2 := hP2.mono hI28; have hP0 := hP0.mono hI28; have hPs := hPs.mono hI28; have hT1 := hT1.mono hI28
  have hT2 := hT2.mono hI28; have hH3 := hH3.mono hI28; have hF1 := hF1.mono hI28; have hT3 := hT3.mono hI28; have hG2 := hG2.mono hI28; have hL1 := hL1.mono hI28; have hL2 := hL2.mono hI28; have hL3 := hL3.mono hI28; have hL4 := hL4.mono hI28; have hL5 := hL5.mono hI28; have hL6 := hL6.mono hI28; have hL7 := hL7.mono hI28
  have hIc := hIc.trans hI28; have hD := hD.trans hI28
  have hL8 := Sl.lit ([⟨0, 0, 0, some ⟨b_222, 0, none⟩, 1, 1⟩] : List PH) rfl encPH_len (show I28 b_224 = some (Obj.cells (([⟨0, 0, 0, some ⟨b_222, 0, none⟩, 1, 1⟩] : List PH).flatMap encPH).toArray 45 (0, 0)) from hb28)
  refine XO_nil ?_
  refine zD hD ?_
  refine XD_takeW 34 rfl rfl rfl (dj := 217) rfl (ev_buildL (ps := [(3, _)]) [_, _, _, _] plt_45 rfl rfl) rfl (by kernel_rfl) (by kernel_rfl) (by kernel_rfl) noP_ok hD (by repeat (first | exact .refl | exact subL_nil | refine .keep ?_ | refine .drop ?_ | refine subL_add ?_)) ?_
  refine XD_one 35 rfl (by kernel_rfl) ?_
  refine XO_want (dj := 217) rfl rfl rfl ?_
  refine XO_buildSlice (ps := [(0, _)]) (m := [encPH ⟨0, 0, 0, some ⟨b_224, 0, none⟩, 1, 1⟩]) elt_35 rfl (.cons rfl (.nil)) rfl (by simp [encPH_len]) (by decide) (by decide) rfl rfl (fun b_226 => ?_)
  refine XO_freeze (by repeat (first | exact Take.here | apply Take.there)) (fun I29 hI29 hb29 => ?_)
  have hC1 := hC1.mono hI29; have hP1 := hP1.mono hI29; have hR1 := hR1.mono hI29; have h5 := h5.mono hI29; have h8 := h8.mono hI29; have hG1 := hG1.mono hI29; have hK1 := hK1.mono hI29; have hC2 := hC2.mono hI29; have hP2 := hP2.mono hI29; have hP0 := hP0.mono hI29; have hPs := hPs.mono hI29; have hT1 := hT1.mono hI29
  have hT2 := hT2.mono hI29; have hH3 := hH3.mono hI29; have hF1 := hF1.mono hI29; have hT3 := hT3.mono hI29; have hG2 := hG2.mono hI29; have hL1 := hL1.mono hI29; have hL2 := hL2.mono hI29; have hL3 := hL3.mono hI29; have hL4 := hL4.mono hI29; have hL5 := hL5.mono hI29; have hL6 := hL6.mono hI29; have hL7 := hL7.mono hI29
  have hL8 := hL8.mono hI29; have hIc := hIc.trans hI29; have hD := hD.trans hI29
  have hL9 := Sl.lit ([⟨0, 0, 0, some ⟨b_224, 0, none⟩, 1, 1⟩] : List PH) rfl encPH_len (show I29 b_226 = some (Obj.cells (([⟨0, 0, 0, some ⟨b_224, 0, none⟩, 1, 1⟩] : List PH).flatMap encPH).toArray 45 (0, 0)) from hb29)
  refine XO_nil ?_
  refine zD hD ?_
  refine XD_one 36 rfl (by kernel_rfl) ?_
  refine XO_want (dj := 217) rfl rfl rfl ?_
  refine XO_callV0 (cap := []) (vs := [_, _]) rfl rfl fun_22 (w_samPs hL6 (xs := [prfP]) ⟨hR1, trivial⟩ (by simp) (by intro q hq; simp only [List.mem_singleton] at hq; subst hq; exact f_sm) hL9 (ys := [prfP]) ⟨PrAt.node hL8 ⟨PrAt.node hL7 ⟨PrAt.node Sl.nil PrsAt.nil, trivial⟩, trivial⟩, trivial⟩) rfl rfl ?_
  refine XO_nil ?_
  refine zD hD ?_
  refine zT 37 rfl (ev_pickb rfl rfl rfl) hD ?_
  refine zT 38 rfl (ev_assign rfl) hD ?_
  refine XD_done (by kernel_rfl) ?_
  refine at_noP ?_
  refine at_then ?_
  refine X_ret ?_
  exact at_ret1 rfl rfl (fun w hw => ⟨by rw [f_sp]; rfl, (hw.mono hIc).drop⟩)
 refine XO_want (dj := 217) rfl rfl rfl ?_
 refine XO_callV0 (cap := []) (vs := [_, _, _]) rfl rfl fun_38 (w_leafS _ _ _ _) rfl rfl ?_
 refine XO_nil ?_
 refine zD hD ?_
 refine XD_two 28 31 rfl rfl (by kernel_rfl) ?_ ?_
 ·
  refine XO_want (dj := 217) rfl rfl rfl ?_
  refine XO_buildSlice (ps := [(0, _)]) (m := [encPH rh1]) elt_35 rfl (.cons rfl (.nil)) rfl (by simp [encPH_len]) (by decide) (by decide) rfl rfl (fun b_219 => ?_)
  refine XO_freeze (by repeat (first | exact Take.here | apply Take.there)) (fun I30 hI30 hb30 => ?_)
  have hC1 := hC1.mono hI30; have hP1 := hP1.mono hI30; have hR1 := hR1.mono hI30; have h5 := h5.mono hI30; have h8 := h8.mono hI30; have hG1 := hG1.mono hI30; have hK1 := hK1.mono hI30; have hC2 := hC2.mono hI30; have hP2 := hP2.mono hI30; have hP0 := hP0.mono hI30; have hPs := hPs.mono hI30; have hT1 := hT1.mono hI30
  have hT2 := hT2.mono hI30; have hH3 := hH3.mono hI30; have hF1 := hF1.mono hI30; have hT3 := hT3.mono hI30; have hG2 := hG2.mono hI30; have hL1 := hL1.mono hI30; have hL2 := hL2.mono hI30; have hL3 := hL3.mono hI30; have hL4 := hL4.mono hI30; have hL5 := hL5.mono hI30; have hIc := hIc.trans hI30; have hD := hD.trans hI30
  have hL6 := Sl.lit ([rh1] : List PH) rfl encPH_len (show I30 b_219 = some (Obj.cells (([rh1] : List PH).flatMap encPH).toArray 45 (0, 0)) from hb30)
  refine XO_nil ?_
  refine zD hD ?_
  refine XD_one 31 rfl (by kernel_rfl) ?_
  refine XO_want (dj := 217) rfl rfl rfl ?_
  refine XO_buildSlice (ps := [(0, _)]) (m := [encPH ⟨1, 0, 0, none, 0, 0⟩]) elt_35 rfl (.cons rfl (.nil)) rfl (by simp [encPH_len]) (by decide) (by decide) rfl rfl (fun b_222 => ?_)
  refine XO_freeze (by repeat (first | exact Take.here | apply Take.there)) (fun I31 hI31 hb31 => ?_)
  have hC1 := hC1.mono hI31; have hP1 := hP1.mono hI31; have hR1 := hR1.mono hI31; have h5 := h5.mono hI31; have h8 := h8.mono hI31; have hG1 := hG1.mono hI31; have hK1 := hK1.mono hI31; have hC2 := hC2.mono hI31; have hP2 := hP2.mono hI31; have hP0 := hP0.mono hI31; have hPs := hPs.mono hI31; have hT1 := hT1.mono hI31
  have hT2 := hT2.mono hI31; have hH3 := hH3.mono hI31; have hF1 := hF1.mono hI31; have hT3 := hT3.mono hI31; have hG2 := hG2.mono hI31; have hL1 := hL1.mono hI31; have hL2 := hL2.mono hI31; have hL3 := hL3.mono hI31; have hL4 := hL4.mono hI31; have hL5 := hL5.mono hI31; have hL6 := hL6.mono hI31; have hIc := hIc.trans hI31
  have hD := hD.trans hI31
  have hL7 := Sl.lit [(⟨1, 0, 0, none, 0, 0⟩ : PH)] rfl encPH_len (show I31 b_222 = some (Obj.cells ([(⟨1, 0, 0, none, 0, 0⟩ : PH)].flatMap encPH).toArray 45 (0, 0)) from hb31)
  refine XO_nil ?_
  refine zD hD ?_
  refine XD_takeW 32 rfl rfl rfl (dj := 217) rfl (ev_buildL (ps := [(3, _)]) [_, _, _, _] plt_45 rfl rfl) rfl (by kernel_rfl) (by kernel_rfl) (by kernel_rfl) noP_ok hD (by repeat (first | exact .refl | exact subL_nil | refine .keep ?_ | refine .drop ?_ | refine subL_add ?_)) ?_
  refine XD_one 33 rfl (by kernel_rfl) ?_
  refine XO_want (dj := 217) rfl rfl rfl ?_
  refine XO_buildSlice (ps := [(0, _)]) (m := [encPH ⟨0, 0, 0, some ⟨b_222, 0, none⟩, 1, 1⟩]) elt_35 rfl (.cons rfl (.nil)) rfl (by simp [encPH_len]) (by decide) (by decide) rfl rfl (fun b_224 => ?_)
  refine XO_freeze (by repeat (first | exact Take.here | apply Take.there)) (fun I32 hI32 hb32 => ?_)
  have hC1 := hC1.mono hI32; have hP1 := hP1.mono hI32; have hR1 := hR1.mono hI32; have h5 := h5.mono hI32; have h8 := h8.mono hI32; have hG1 := hG1.mono hI32; have hK1 := hK1.mono hI32; have hC2 := hC2.mono hI32; have hP2 := hP2.mono hI32; have hP0 := hP0.mono hI32; have hPs := hPs.mono hI32; have hT1 := hT1.mono hI32
  have hT2 := hT2.mono hI32; have hH3 := hH3.mono hI32; have hF1 := hF1.mono hI32; have hT3 := hT3.mono hI32; have hG2 := hG2.mono hI32; have hL1 := hL1.mono hI32; have hL2 := hL2.mono hI32; have hL3 := hL3.mono hI32; have hL4 := hL4.mono hI32; have hL5 := hL5.mono hI32; have hL6 := hL6.mono hI32; have hL7 := hL7.mono hI32
  have hIc := hIc.trans hI32; have hD := hD.trans hI32
  have hL8 := Sl.lit ([⟨0, 0, 0, some ⟨b_222, 0, none⟩, 1, 1⟩] : List PH) rfl encPH_len (show I32 b_224 = some (Obj.cells (([⟨0, 0, 0, some ⟨b_222, 0, none⟩, 1, 1⟩] : List PH).flatMap encPH).toArray 45 (0, 0)) from hb32)
  refine XO_nil ?_
  refine zD hD ?_
  refine XD_takeW 34 rfl rfl rfl (dj := 217) rfl (ev_buildL (ps := [(3, _)]) [_, _, _, _] plt_45 rfl rfl) rfl (by kernel_rfl) (by kernel_rfl) (by kernel_rfl) noP_ok hD (by repeat (first | exact .refl | exact subL_nil | refine .keep ?_ | refine .drop ?_ | refine subL_add ?_)) ?_
  refine XD_one 35 rfl (by kernel_rfl) ?_
  refine XO_want (dj := 217) rfl rfl rfl ?_
  refine XO_buildSlice (ps := [(0, _)]) (m := [encPH ⟨0, 0, 0, some ⟨b_224, 0, none⟩, 1, 1⟩]) elt_35 rfl (.cons rfl (.nil)) rfl (by simp [encPH_len]) (by decide) (by decide) rfl rfl (fun b_226 => ?_)
  refine XO_freeze (by repeat (first | exact Take.here | apply Take.there)) (fun I33 hI33 hb33 => ?_)
  have hC1 := hC1.mono hI33; have hP1 := hP1.mono hI33; have hR1 := hR1.mono hI33; have h5 := h5.mono hI33; have h8 := h8.mono hI33; have hG1 := hG1.mono hI33; have hK1 := hK1.mono hI33; have hC2 := hC2.mono hI33; have hP2 := hP2.mono hI33; have hP0 := hP0.mono hI33; have hPs := hPs.mono hI33; have hT1 := hT1.mono hI33
  have hT2 := hT2.mono hI33; have hH3 := hH3.mono hI33; have hF1 := hF1.mono hI33; have hT3 := hT3.mono hI33; have hG2 := hG2.mono hI33; have hL1 := hL1.mono hI33; have hL2 := hL2.mono hI33; have hL3 := hL3.mono hI33; have hL4 := hL4.mono hI33; have hL5 := hL5.mono hI33; have hL6 := hL6.mono hI33; have hL7 := hL7.mono hI33
  have hL8 := hL8.mono hI33; have hIc := hIc.trans hI33; have hD := hD.trans hI33
  have hL9 := Sl.lit ([⟨0, 0, 0, some ⟨b_224, 0, none⟩, 1, 1⟩] : List PH) rfl encPH_len (show I33 b_226 = some (Obj.cells (([⟨0, 0, 0, some ⟨b_224, 0, none⟩, 1, 1⟩] : List PH).flatMap encPH).toArray 45 (0, 0)) from hb33)
  refine XO_nil ?_
  refine zD hD ?_
  refine XD_one 36 rfl (by kernel_rfl) ?_
  refine XO_want (dj := 217) rfl rfl rfl ?_
  refine XO_callV0 (cap := []) (vs := [_, _]) rfl rfl fun_22 (w_samPs hL6 (xs := [prfP]) ⟨hR1, trivial⟩ (by simp) (by intro q hq; simp only [List.mem_singleton] at hq; subst hq; exact f_sm) hL9 (ys := [prfP]) ⟨PrAt.node hL8 ⟨PrAt.node hL7 ⟨PrAt.node Sl.nil PrsAt.nil, trivial⟩, trivial⟩, trivial⟩) rfl rfl ?_
  refine XO_nil ?_
  refine zD hD ?_
  refine zT 37 rfl (ev_pickb rfl rfl rfl) hD ?_
  refine zT 38 rfl (ev_assign rfl) hD ?_
  refine XD_done (by kernel_rfl) ?_
  refine at_noP ?_
  refine at_then ?_
  refine X_ret ?_
  exact at_ret1 rfl rfl (fun w hw => ⟨by rw [f_sp]; rfl, (hw.mono hIc).drop⟩)
 refine XO_want (dj := 217) rfl rfl rfl ?_
 refine XO_buildSlice (ps := [(0, _)]) (m := [encPH ⟨1, 0, 0, none, 0, 0⟩]) elt_35 rfl (.cons rfl (.nil)) rfl (by simp [encPH_len]) (by decide) (by decide) rfl rfl (fun b_222 => ?_)
 refine XO_freeze (by repeat (first | exact Take.here | apply Take.there)) (fun I34 hI34 hb34 => ?_)
 have hC1 := hC1.mono hI34; have hP1 := hP1.mono hI34; have hR1 := hR1.mono hI34; have h5 := h5.mono hI34; have h8 := h8.mono hI34; have hG1 := hG1.mono hI34; have hK1 := hK1.mono hI34; have hC2 := hC2.mono hI34; have hP2 := hP2.mono hI34; have hP0 := hP0.mono hI34; have hPs := hPs.mono hI34; have hT1 := hT1.mono hI34
 have hT2 := hT2.mono hI34; have hH3 := hH3.mono hI34; have hF1 := hF1.mono hI34; have hT3 := hT3.mono hI34; have hG2 := hG2.mono hI34; have hL1 := hL1.mono hI34; have hL2 := hL2.mono hI34; have hL3 := hL3.mono hI34; have hL4 := hL4.mono hI34; have hL5 := hL5.mono hI34; have hIc := hIc.trans hI34; have hD := hD.trans hI34
 have hL7 := Sl.lit [(⟨1, 0, 0, none, 0, 0⟩ : PH)] rfl encPH_len (show I34 b_222 = some (Obj.cells ([(⟨1, 0, 0, none, 0, 0⟩ : PH)].flatMap encPH).toArray 45 (0, 0)) from hb34)
 refine XO_nil ?_
 refine zD hD ?_
 refine XD_takeW 32 rfl rfl rfl (dj := 217) rfl (ev_buildL (ps := [(3, _)]) [_, _, _, _] plt_45 rfl rfl) rfl (by kernel_rfl) (by kernel_rfl) (by kernel_rfl) noP_ok hD (by repeat (first | exact .refl | exact subL_nil | refine .keep ?_ | refine .drop ?_ | refine subL_add ?_)) ?_
 refine XD_two 28 33 rfl rfl (by kernel_rfl) ?_ ?_
 ·
  refine XO_want (dj := 217) rfl rfl rfl ?_
  refine XO_buildSlice (ps := [(0, _)]) (m := [encPH rh1]) elt_35 rfl (.cons rfl (.nil)) rfl (by simp [encPH_len]) (by decide) (by decide) rfl rfl (fun b_219 => ?_)
  refine XO_freeze (by repeat (first | exact Take.here | apply Take.there)) (fun I35 hI35 hb35 => ?_)
  have hC1 := hC1.mono hI35; have hP1 := hP1.mono hI35; have hR1 := hR1.mono hI35; have h5 := h5.mono hI35; have h8 := h8.mono hI35; have hG1 := hG1.mono hI35; have hK1 := hK1.mono hI35; have hC2 := hC2.mono hI35; have hP2 := hP2.mono hI35; have hP0 := hP0.mono hI35; have hPs := hPs.mono hI35; have hT1 := hT1.mono hI35
  have hT2 := hT2.mono hI35; have hH3 := hH3.mono hI35; have hF1 := hF1.mono hI35; have hT3 := hT3.mono hI35; have hG2 := hG2.mono hI35; have hL1 := hL1.mono hI35; have hL2 := hL2.mono hI35; have hL3 := hL3.mono hI35; have hL4 := hL4.mono hI35; have hL5 := hL5.mono hI35; have hL7 := hL7.mono hI35; have hIc := hIc.trans hI35
  have hD := hD.trans hI35
  have hL6 := Sl.lit ([rh1] : List PH) rfl encPH_len (show I35 b_219 = some (Obj.cells (([rh1] : List PH).flatMap encPH).toArray 45 (0, 0)) from hb35)
  refine XO_nil ?_
  refine zD hD ?_
  refine XD_one 33 rfl (by kernel_rfl) ?_
  refine XO_want (dj := 217) rfl rfl rfl ?_
  refine XO_buildSlice (ps := [(0, _)]) (m := [encPH ⟨0, 0, 0, some ⟨b_222, 0, none⟩, 1, 1⟩]) elt_35 rfl (.cons rfl (.nil)) rfl (by simp [encPH_len]) (by decide) (by decide) rfl rfl (fun b_224 => ?_)
  refine XO_freeze (by repeat (first | exact Take.here | apply Take.there)) (fun I36 hI36 hb36 => ?_)
  have hC1 := hC1.mono hI36; have hP1 := hP1.mono hI36; have hR1 := hR1.mono hI36; have h5 := h5.mono hI36; have h8 := h8.mono hI36; have hG1 := hG1.mono hI36; have hK1 := hK1.mono hI36; have hC2 := hC2.mono hI36; have hP2 := hP2.mono hI36; have hP0 := hP0.mono hI36; have hPs := hPs.mono hI36; have hT1 := hT1.mono hI36
  have hT2 := hT2.mono hI36; have hH3 := hH3.mono hI36; have hF1 := hF1.mono hI36; have hT3 := hT3.mono hI36; have hG2 := hG2.mono hI36; have hL1 := hL1.mono hI36; have hL2 := hL2.mono hI36; have hL3 := hL3.mono hI36; have hL4 := hL4.mono hI36; have hL5 := hL5.mono hI36; have hL7 := hL7.mono hI36; have hL6 := hL6.mono hI36
  have hIc := hIc.trans hI36; have hD := hD.trans hI36
  have hL8 := Sl.lit ([⟨0, 0, 0, some ⟨b_222, 0, none⟩, 1, 1⟩] : List PH) rfl encPH_len (show I36 b_224 = some (Obj.cells (([⟨0, 0, 0, some ⟨b_222, 0, none⟩, 1, 1⟩] : List PH).flatMap encPH).toArray 45 (0, 0)) from hb36)
  refine XO_nil ?_
  refine zD hD ?_
  refine XD_takeW 34 rfl rfl rfl (dj := 217) rfl (ev_buildL (ps := [(3, _)]) [_, _, _, _] plt_45 rfl rfl) rfl (by kernel_rfl) (by kernel_rfl) (by kernel_rfl) noP_ok hD (by repeat (first | exact .refl | exact subL_nil | refine .keep ?_ | refine .drop ?_ | refine subL_add ?_)) ?_
  refine XD_one 35 rfl (by kernel_rfl) ?_
  refine XO_want (dj := 217) rfl rfl rfl ?_
  refine XO_buildSlice (ps := [(0, _)]) (m := [encPH ⟨0, 0, 0, some ⟨b_224, 0, none⟩, 1, 1⟩]) elt_35 rfl (.cons rfl (.nil)) rfl (by simp [encPH_len]) (by decide) (by decide) rfl rfl (fun b_226 => ?_)
  refine XO_freeze (by repeat (first | exact Take.here | apply Take.there)) (fun I37 hI37 hb37 => ?_)
  have hC1 := hC1.mono hI37; have hP1 := hP1.mono hI37; have hR1 := hR1.mono hI37; have h5 := h5.mono hI37; have h8 := h8.mono hI37; have hG1 := hG1.mono hI37; have hK1 := hK1.mono hI37; have hC2 := hC2.mono hI37; have hP2 := hP2.mono hI37; have hP0 := hP0.mono hI37; have hPs := hPs.mono hI37; have hT1 := hT1.mono hI37
  have hT2 := hT2.mono hI37; have hH3 := hH3.mono hI37; have hF1 := hF1.mono hI37; have hT3 := hT3.mono hI37; have hG2 := hG2.mono hI37; have hL1 := hL1.mono hI37; have hL2 := hL2.mono hI37; have hL3 := hL3.mono hI37; have hL4 := hL4.mono hI37; have hL5 := hL5.mono hI37; have hL7 := hL7.mono hI37; have hL6 := hL6.mono hI37
  have hL8 := hL8.mono hI37; have hIc := hIc.trans hI37; have hD := hD.trans hI37
  have hL9 := Sl.lit ([⟨0, 0, 0, some ⟨b_224, 0, none⟩, 1, 1⟩] : List PH) rfl encPH_len (show I37 b_226 = some (Obj.cells (([⟨0, 0, 0, some ⟨b_224, 0, none⟩, 1, 1⟩] : List PH).flatMap encPH).toArray 45 (0, 0)) from hb37)
  refine XO_nil ?_
  refine zD hD ?_
  refine XD_one 36 rfl (by kernel_rfl) ?_
  refine XO_want (dj := 217) rfl rfl rfl ?_
  refine XO_callV0 (cap := []) (vs := [_, _]) rfl rfl fun_22 (w_samPs hL6 (xs := [prfP]) ⟨hR1, trivial⟩ (by simp) (by intro q hq; simp only [List.mem_singleton] at hq; subst hq; exact f_sm) hL9 (ys := [prfP]) ⟨PrAt.node hL8 ⟨PrAt.node hL7 ⟨PrAt.node Sl.nil PrsAt.nil, trivial⟩, trivial⟩, trivial⟩) rfl rfl ?_
  refine XO_nil ?_
  refine zD hD ?_
  refine zT 37 rfl (ev_pickb rfl rfl rfl) hD ?_
  refine zT 38 rfl (ev_assign rfl) hD ?_
  refine XD_done (by kernel_rfl) ?_
  refine at_noP ?_
  refine at_then ?_
  refine X_ret ?_
  exact at_ret1 rfl rfl (fun w hw => ⟨by rw [f_sp]; rfl, (hw.mono hIc).drop⟩)
 refine XO_want (dj := 217) rfl rfl rfl ?_
 refine XO_buildSlice (ps := [(0, _)]) (m := [encPH ⟨0, 0, 0, some ⟨b_222, 0, none⟩, 1, 1⟩]) elt_35 rfl (.cons rfl (.nil)) rfl (by simp [encPH_len]) (by decide) (by decide) rfl rfl (fun b_224 => ?_)
 refine XO_freeze (by repeat (first | exact Take.here | apply Take.there)) (fun I38 hI38 hb38 => ?_)
 have hC1 := hC1.mono hI38; have hP1 := hP1.mono hI38; have hR1 := hR1.mono hI38; have h5 := h5.mono hI38; have h8 := h8.mono hI38; have hG1 := hG1.mono hI38; have hK1 := hK1.mono hI38; have hC2 := hC2.mono hI38; have hP2 := hP2.mono hI38; have hP0 := hP0.mono hI38; have hPs := hPs.mono hI38; have hT1 := hT1.mono hI38
 have hT2 := hT2.mono hI38; have hH3 := hH3.mono hI38; have hF1 := hF1.mono hI38; have hT3 := hT3.mono hI38; have hG2 := hG2.mono hI38; have hL1 := hL1.mono hI38; have hL2 := hL2.mono hI38; have hL3 := hL3.mono hI38; have hL4 := hL4.mono hI38; have hL5 := hL5.mono hI38; have hL7 := hL7.mono hI38; have hIc := hIc.trans hI38
 have hD := hD.trans hI38
 have hL8 := Sl.lit ([⟨0, 0, 0, some ⟨b_222, 0, none⟩, 1, 1⟩] : List PH) rfl encPH_len (show I38 b_224 = some (Obj.cells (([⟨0, 0, 0, some ⟨b_222, 0, none⟩, 1, 1⟩] : List PH).flatMap encPH).toArray 45 (0, 0)) from hb38)
 refine XO_nil ?_
 refine zD hD ?_
 refine XD_takeW 34 rfl rfl rfl (dj := 217) rfl (ev_buildL (ps := [(3, _)]) [_, _, _, _] plt_45 rfl rfl) rfl (by kernel_rfl) (by kernel_rfl) (by kernel_rfl) noP_ok hD (by repeat (first | exact .refl | exact subL_nil | refine .keep ?_ | refine .drop ?_ | refine subL_add ?_)) ?_
 refine XD_two 28 35 rfl rfl (by kernel_rfl) ?_ ?_
 ·
  refine XO_want (dj := 217) rfl rfl rfl ?_
  refine XO_buildSlice (ps := [(0, _)]) (m := [encPH rh1]) elt_35 rfl (.cons rfl (.nil)) rfl (by simp [encPH_len]) (by decide) (by decide) rfl rfl (fun b_219 => ?_)
  refine XO_freeze (by repeat (first | exact Take.here | apply Take.there)) (fun I39 hI39 hb39 => ?_)
  have hC1 := hC1.mono hI39; have hP1 := hP1.mono hI39; have hR1 := hR1.mono hI39; have h5 := h5.mono hI39; have h8 := h8.mono hI39; have hG1 := hG1.mono hI39; have hK1 := hK1.mono hI39; have hC2 := hC2.mono hI39; have hP2 := hP2.mono hI39; have hP0 := hP0.mono hI39; have hPs := hPs.mono hI39; have hT1 := hT1.mono hI39
  have hT2 := hT2.mono hI39; have hH3 := hH3.mono hI39; have hF1 := hF1.mono hI39; have hT3 := hT3.mono hI39; have hG2 := hG2.mono hI39; have hL1 := hL1.mono hI39; have hL2 := hL2.mono hI39; have hL3 := hL3.mono hI39; have hL4 := hL4.mono hI39; have hL5 := hL5.mono hI39; have hL7 := hL7.mono hI39; have hL8 := hL8.mono hI39
  have hIc := hIc.trans hI39; have hD := hD.trans hI39
  have hL6 := Sl.lit ([rh1] : List PH) rfl encPH_len (show I39 b_219 = some (Obj.cells (([rh1] : List PH).flatMap encPH).toArray 45 (0, 0)) from hb39)
  refine XO_nil ?_
  refine zD hD ?_
  refine XD_one 35 rfl (by kernel_rfl) ?_
  refine XO_want (dj := 217) rfl rfl rfl ?_
  refine XO_buildSlice (ps := [(0, _)]) (m := [encPH ⟨0, 0, 0, some ⟨b_224, 0, none⟩, 1, 1⟩]) elt_35 rfl (.cons rfl (.nil)) rfl (by simp [encPH_len]) (by decide) (by decide) rfl rfl (fun b_226 => ?_)
  refine XO_freeze (by repeat (first | exact Take.here | apply Take.there)) (fun I40 hI40 hb40 => ?_)
  have hC1 := hC1.mono hI40; have hP1 := hP1.mono hI40; have hR1 := hR1.mono hI40; have h5 := h5.mono hI40; have h8 := h8.mono hI40; have hG1 := hG1.mono hI40; have hK1 := hK1.mono hI40; have hC2 := hC2.mono hI40; have hP2 := hP2.mono hI40; have hP0 := hP0.mono hI40; have hPs := hPs.mono hI40; have hT1 := hT1.mono hI40
  have hT2 := hT2.mono hI40; have hH3 := hH3.mono hI40; have hF1 := hF1.mono hI40; have hT3 := hT3.mono hI40; have hG2 := hG2.mono hI40; have hL1 := hL1.mono hI40; have hL2 := hL2.mono hI40; have hL3 := hL3.mono hI40; have hL4 := hL4.mono hI40; have hL5 := hL5.mono hI40; have hL7 := hL7.mono hI40; have hL8 := hL8.mono hI40
  have hL6 := hL6.mono hI40; have hIc := hIc.trans hI40; have hD := hD.trans hI40
  have hL9 := Sl.lit ([⟨0, 0, 0, some ⟨b_224, 0, none⟩, 1, 1⟩] : List PH) rfl encPH_len (show I40 b_226 = some (Obj.cells (([⟨0, 0, 0, some ⟨b_224, 0, none⟩, 1, 1⟩] : List PH).flatMap encPH).toArray 45 (0, 0)) from hb40)
  refine XO_nil ?_
  refine zD hD ?_
  refine XD_one 36 rfl (by kernel_rfl) ?_
  refine XO_want (dj := 217) rfl rfl rfl ?_
  refine XO_callV0 (cap := []) (vs := [_, _]) rfl rfl fun_22 (w_samPs hL6 (xs := [prfP]) ⟨hR1, trivial⟩ (by simp) (by intro q hq; simp only [List.mem_singleton] at hq; subst hq; exact f_sm) hL9 (ys := [prfP]) ⟨PrAt.node hL8 ⟨PrAt.node hL7 ⟨PrAt.node Sl.nil PrsAt.nil, trivial⟩, trivial⟩, trivial⟩) rfl rfl ?_
  refine XO_nil ?_
  refine zD hD ?_
  refine zT 37 rfl (ev_pickb rfl rfl rfl) hD ?_
  refine zT 38 rfl (ev_assign rfl) hD ?_
  refine XD_done (by kernel_rfl) ?_
  refine at_noP ?_
  refine at_then ?_
  refine X_ret ?_
  exact at_ret1 rfl rfl (fun w hw => ⟨by rw [f_sp]; rfl, (hw.mono hIc).drop⟩)
 refine XO_want (dj := 217) rfl rfl rfl ?_
 refine XO_buildSlice (ps := [(0, _)]) (m := [encPH ⟨0, 0, 0, some ⟨b_224, 0, none⟩, 1, 1⟩]) elt_35 rfl (.cons rfl (.nil)) rfl (by simp [encPH_len]) (by decide) (by decide) rfl rfl (fun b_226 => ?_)
 refine XO_freeze (by repeat (first | exact Take.here | apply Take.there)) (fun I41 hI41 hb41 => ?_)
 have hC1 := hC1.mono hI41; have hP1 := hP1.mono hI41; have hR1 := hR1.mono hI41; have h5 := h5.mono hI41; have h8 := h8.mono hI41; have hG1 := hG1.mono hI41; have hK1 := hK1.mono hI41; have hC2 := hC2.mono hI41; have hP2 := hP2.mono hI41; have hP0 := hP0.mono hI41; have hPs := hPs.mono hI41; have hT1 := hT1.mono hI41
 have hT2 := hT2.mono hI41; have hH3 := hH3.mono hI41; have hF1 := hF1.mono hI41; have hT3 := hT3.mono hI41; have hG2 := hG2.mono hI41; have hL1 := hL1.mono hI41; have hL2 := hL2.mono hI41; have hL3 := hL3.mono hI41; have hL4 := hL4.mono hI41; have hL5 := hL5.mono hI41; have hL7 := hL7.mono hI41; have hL8 := hL8.mono hI41
 have hIc := hIc.trans hI41; have hD := hD.trans hI41
 have hL9 := Sl.lit ([⟨0, 0, 0, some ⟨b_224, 0, none⟩, 1, 1⟩] : List PH) rfl encPH_len (show I41 b_226 = some (Obj.cells (([⟨0, 0, 0, some ⟨b_224, 0, none⟩, 1, 1⟩] : List PH).flatMap encPH).toArray 45 (0, 0)) from hb41)
 refine XO_nil ?_
 refine zD hD ?_
 refine XD_one 28 rfl (by kernel_rfl) ?_
 refine XO_want (dj := 217) rfl rfl rfl ?_
 refine XO_buildSlice (ps := [(0, _)]) (m := [encPH rh1]) elt_35 rfl (.cons rfl (.nil)) rfl (by simp [encPH_len]) (by decide) (by decide) rfl rfl (fun b_219 => ?_)
 refine XO_freeze (by repeat (first | exact Take.here | apply Take.there)) (fun I42 hI42 hb42 => ?_)
 have hC1 := hC1.mono hI42; have hP1 := hP1.mono hI42; have hR1 := hR1.mono hI42; have h5 := h5.mono hI42; have h8 := h8.mono hI42; have hG1 := hG1.mono hI42; have hK1 := hK1.mono hI42; have hC2 := hC2.mono hI42; have hP2 := hP2.mono hI42; have hP0 := hP0.mono hI42; have hPs := hPs.mono hI42; have hT1 := hT1.mono hI42
 have hT2 := hT2.mono hI42; have hH3 := hH3.mono hI42; have hF1 := hF1.mono hI42; have hT3 := hT3.mono hI42; have hG2 := hG2.mono hI42; have hL1 := hL1.mono hI42; have hL2 := hL2.mono hI42; have hL3 := hL3.mono hI42; have hL4 := hL4.mono hI42; have hL5 := hL5.mono hI42; have hL7 := hL7.mono hI42; have hL8 := hL8.mono hI42
 have hL9 := hL9.mono hI42; have hIc := hIc.trans hI42; have hD := hD.trans hI42
 have hL6 := Sl.lit ([rh1] : List PH) rfl encPH_len (show I42 b_219 = some (Obj.cells (([rh1] : List PH).flatMap encPH).toArray 45 (0, 0)) from hb42)
 refine XO_nil ?_
 refine zD hD ?_
 refine XD_one 36 rfl (by kernel_rfl) ?_
 refine XO_want (dj := 217) rfl rfl rfl ?_
 refine XO_callV0 (cap := []) (vs := [_, _]) rfl rfl fun_22 (w_samPs hL6 (xs := [prfP]) ⟨hR1, trivial⟩ (by simp) (by intro q hq; simp only [List.mem_singleton] at hq; subst hq; exact f_sm) hL9 (ys := [prfP]) ⟨PrAt.node hL8 ⟨PrAt.node hL7 ⟨PrAt.node Sl.nil PrsAt.nil, trivial⟩, trivial⟩, trivial⟩) rfl rfl ?_
 refine XO_nil ?_
 refine zD hD ?_
 refine zT 37 rfl (ev_pickb rfl rfl rfl) hD ?_
 refine zT 38 rfl (ev_assign rfl) hD ?_
 refine XD_done (by kernel_rfl) ?_
 refine at_noP ?_
 refine at_then ?_
 refine X_ret ?_
 exact at_ret1 rfl rfl (fun w hw => ⟨by rw [f_sp]; rfl, (hw.mono hIc).drop⟩)
end Go.Proofs.YtehkiccapbkhnaaGreat
end
section
namespace Go.Proofs.YtehkiccapbkhnaaGreat
open Go Go.Kn Go.Proofs
theorem fun_15 : Fun Tryz.prog 15 := .of Tryz.func15 (by kernel_rfl) (by kernel_rfl)
theorem fun_21 : Fun Tryz.prog 21 := .of Tryz.func21 (by kernel_rfl) (by kernel_rfl)
theorem w_right40 {I : HMap} {x : CH} {cr : Cr} (hC : CrAt I x cr) : RetV Tryz.prog 29 [encCHA x] I (.bool (fewC cr && decide (chkC cr = 0))) := by
 intro g H w hw
 refine enter Tryz.func29 rfl Tryz.ntmps29 rfl hw ?_
 have hIc := HLe.refl I
 refine zR ?_
 refine XO_box rfl rfl rfl (fun b_1 => ?_)
 refine zA ?_
 refine zN ?_
 refine X_seq ?_
 refine X_freeze .here (fun I1 hI1 hb1 => ?_)
 have hC := hC.mono hI1; have hIc := hIc.trans hI1
 have h1 := ImmC.of hb1
 refine X_region ?_
 refine XO_v0 (ev_loadA rfl agt_33 (fun hg => by exact Cells.immC h1) rfl) rfl rfl rfl ?_
 refine XO_callV0 (cap := []) (vs := [_]) rfl rfl fun_15 (w_rFew hC) rfl rfl ?_
 refine zM ?_
 refine XO_pushT 2 rfl rfl rfl ?_
 refine XO_v1 (ev_loadA rfl agt_33 (fun hg => by exact Cells.immC h1) rfl) (.some rfl rfl rfl rfl gbt) rfl rfl rfl ?_
 refine XO_callV1 (cap := []) (vs := [_]) rfl rfl fun_21 (fun hg => w_rChk hC (fun s hs => Nat.le_trans ((few_bd (by simpa [conj] using hg)).2.2 s hs).2 (by decide)) (fun s hs => Nat.le_trans ((few_bd (by simpa [conj] using hg)).2.2 s hs).1 (by decide))) (.some rfl rfl rfl rfl gbt) rfl rfl ?_
 refine XO_v1 (ev_cmp rfl rfl rfl) (.some rfl rfl rfl rfl gbt) rfl rfl rfl ?_
 refine XO_and0 rfl rfl rfl rfl rfl ?_
 refine zA ?_
 refine zN ?_
 refine X_ret ?_
 exact at_ret1 rfl rfl (fun w hw => ⟨by rfl, (hw.mono hIc).drop⟩)
end Go.Proofs.YtehkiccapbkhnaaGreat
end
section
namespace Go.Proofs.YtehkiccapbkhnaaGreat
open Go Go.Kn Go.Proofs
theorem planL_some {c : Cr} {k : Nat} {x : List Int} (hk : chkC c = 0) (h : planF c = some (k, x)) : planL c = x ∧ planO c = true := by
  unfold planL planO; rw [if_pos hk, h, decide_eq_true hk]; exact ⟨rfl, rfl⟩
theorem planL_none {c : Cr} (hk : chkC c = 0) (h : planF c = none) : planL c = [] ∧ planO c = false := by
  unfold planL planO; rw [if_pos hk, h, decide_eq_true hk]; exact ⟨rfl, rfl⟩
end Go.Proofs.YtehkiccapbkhnaaGreat
end
section
namespace Go.Proofs.YtehkiccapbkhnaaGreat
open Go Go.Kn Go.Proofs
abbrev SM := List (Int × Nat) × Nat
def keyS (m : SM) : List Int := m.1.map (·.1)
/-- The people's sets as own blocks. -/
def mapsL : List Nat → List SM → Go.Kn.Loc
  | r :: rs, m :: ms => (r, Kn.setO m.1 m.2) :: mapsL rs ms
  | _, _ => []
theorem mapsL_snoc : ∀ {rs : List Nat} {ms : List SM} {r : Nat} {m : SM}, rs.length = ms.length → mapsL (rs ++ [r]) (ms ++ [m]) = mapsL rs ms ++ [(r, Kn.setO m.1 m.2)]
  | [], [], _, _, _ => rfl
  | _ :: rs, _ :: ms, _, _, h => by simp only [List.cons_append, mapsL]; rw [mapsL_snoc (by simpa using h)]
theorem mapsL_mem : ∀ {rs : List Nat} {ms : List SM} {k r : Nat} {m : SM}, rs[k]? = some r → ms[k]? = some m → (r, Kn.setO m.1 m.2) ∈ mapsL rs ms
  | r :: rs, m :: ms, 0, _, _, h1, h2 => by cases h1; cases h2; exact List.mem_cons_self ..
  | r :: rs, m :: ms, k + 1, _, _, h1, h2 => List.mem_cons_of_mem _ (mapsL_mem (by simpa using h1) (by simpa using h2))
theorem mapsL_upd (R : Go.Kn.Loc) (m' : SM) : ∀ {rs : List Nat} {ms : List SM} {k r : Nat} {m : SM}, rs[k]? = some r → ms[k]? = some m → Upd (mapsL rs ms ++ R) r (Kn.setO m.1 m.2) (Kn.setO m'.1 m'.2) (mapsL rs (ms.set k m') ++ R)
  | r :: rs, m :: ms, 0, _, _, h1, h2 => by cases h1; cases h2; exact .here
  | r :: rs, m :: ms, k + 1, _, _, h1, h2 => .there (mapsL_upd R m' (by simpa using h1) (by simpa using h2))
/-- One of them, apart. -/
theorem mapsL_split (R : Go.Kn.Loc) : ∀ {rs : List Nat} {ms : List SM} {k r : Nat} {m : SM}, rs[k]? = some r → ms[k]? = some m → ∃ R', Split (mapsL rs ms ++ R) [(r, Kn.setO m.1 m.2)] R' ∧ Split (mapsL rs ms ++ R) [(r, Kn.setO m.1 m.2)] R'
  | r :: rs, m :: ms, 0, _, _, h1, h2 => by cases h1; cases h2; exact ⟨_, .cons .here .nil, .cons .here .nil⟩
  | r :: rs, m :: ms, k + 1, _, _, h1, h2 => by
    obtain ⟨R', h, _⟩ := mapsL_split R (rs := rs) (ms := ms) (by simpa using h1) (by simpa using h2)
    cases h with
    | cons ht hn => cases hn; exact ⟨_, .cons (.there ht) .nil, .cons (.there ht) .nil⟩
def encM (r : Nat) : List Value := [.map (some r)]
theorem encM_len (r : Nat) : (encM r).length = 1 := rfl
theorem one_M (xs : List Nat) : allOne (xs.flatMap encM) = true := allOne_flat (fun _ => rfl) xs
/-- What the people have: by f of the person's version and the patch. -/
def Sts (has : List (List Int)) (f : Nat → List Int → Int → Bool) (ms : List SM) : Prop := ms.length = has.length ∧ ∀ (k : Nat) (v : List Int) (m : SM), has[k]? = some v → ms[k]? = some m → (keyS m).Nodup ∧ ∀ x, decide (x ∈ keyS m) = f k v x
/-- A set from a list of numbers. -/
def SetL (m : SM) (l : List Int) : Prop := (keyS m).Nodup ∧ ∀ x, x ∈ keyS m ↔ x ∈ l
theorem SetL.nil : SetL ([], 0) [] := ⟨List.nodup_nil, fun x => Iff.rfl⟩
theorem sput_keys (m : List (Int × Nat)) (c : Nat) (a : Int) : (sput m c a).1.map (·.1) = if a ∈ m.map (·.1) then m.map (·.1) else m.map (·.1) ++ [a] := by
  by_cases h : a ∈ m.map (·.1)
  · rw [if_pos h]; unfold sput; rw [if_pos h]
  · rw [if_neg h]; exact sput_new h
theorem sput_set {m : SM} (hn : (keyS m).Nodup) (a : Int) : (keyS (sput m.1 m.2 a)).Nodup ∧ ∀ x, x ∈ keyS (sput m.1 m.2 a) ↔ x ∈ keyS m ∨ x = a := by
  unfold keyS at *
  rw [sput_keys]
  split
  · rename_i h
    exact ⟨hn, fun x => ⟨.inl, fun g => g.elim id fun e => e ▸ h⟩⟩
  · rename_i h
    refine ⟨List.nodup_append.2 ⟨hn, by simp, fun x hx y hy e => ?_⟩, fun x => by simp⟩
    simp at hy; subst hy; subst e; exact h hx
theorem SetL.put {m : SM} {l : List Int} {k : Nat} {x : Int} (h : SetL m (l.take k)) (hx : l[k]? = some x) : SetL (sput m.1 m.2 x) (l.take (k + 1)) := by
  obtain ⟨h1, h2⟩ := sput_set h.1 x
  refine ⟨h1, fun y => ?_⟩
  rw [h2 y, h.2 y, List.take_add_one, hx]; simp
theorem SetL.full {m : SM} {l : List Int} {k : Nat} (h : SetL m (l.take k)) (hk : l.length ≤ k) : SetL m l := by rwa [List.take_of_length_le hk] at h
theorem Sts.snoc {has : List (List Int)} {f : Nat → List Int → Int → Bool} {ms : List SM} {k : Nat} {v : List Int} {m : SM} (hf : f k v = fun x => v.contains x) (h : Sts (has.take k) f ms) (hv : has[k]? = some v) (hm : SetL m v) : Sts (has.take (k + 1)) f (ms ++ [m]) := by
  have hk := (List.getElem?_eq_some_iff.1 hv).1
  have hl : (has.take k).length = k := by rw [List.length_take]; omega
  have e : has.take (k + 1) = has.take k ++ [v] := by rw [List.take_add_one, hv]; rfl
  rw [e]
  refine ⟨by simp [h.1], fun j w m' h1 h2 => ?_⟩
  by_cases g : j < k
  · rw [List.getElem?_append_left (by omega)] at h1
    rw [List.getElem?_append_left (by rw [h.1]; omega)] at h2
    exact h.2 j w m' h1 h2
  · have hj : j = k := by
      have := (List.getElem?_eq_some_iff.1 h1).1
      simp at this; omega
    subst hj
    rw [List.getElem?_append_right (by omega), hl] at h1
    rw [List.getElem?_append_right (by rw [h.1]; omega), h.1, hl] at h2
    simp at h1 h2; subst h1; subst h2
    refine ⟨hm.1, fun x => ?_⟩
    rw [hf, Bool.eq_iff_iff, decide_eq_true_eq, hm.2 x]; simp
theorem Sts.congr {has : List (List Int)} {f g : Nat → List Int → Int → Bool} {ms : List SM} (h : Sts has f ms) (e : ∀ (k : Nat) (v : List Int), has[k]? = some v → ∀ x, f k v x = g k v x) : Sts has g ms :=
  ⟨h.1, fun k v m h1 h2 => ⟨(h.2 k v m h1 h2).1, fun x => by rw [(h.2 k v m h1 h2).2 x, e k v h1 x]⟩⟩
/-- The set of one person is turned. -/
theorem Sts.turn {has : List (List Int)} {f g : Nat → List Int → Int → Bool} {ms : List SM} (h : Sts has f ms) {k : Nat} {v : List Int} (hv : has[k]? = some v) {m' : SM} (hn : (keyS m').Nodup) (hm : ∀ x, decide (x ∈ keyS m') = g k v x) (ho : ∀ (j : Nat) (w : List Int), j ≠ k → has[j]? = some w → ∀ x, f j w x = g j w x) : Sts has g (ms.set k m') := by
  refine ⟨by rw [List.length_set]; exact h.1, fun j w m h1 h2 => ?_⟩
  by_cases e : j = k
  · subst e
    rw [hv] at h1; cases h1
    rw [List.getElem?_set_self (by rw [h.1]; exact (List.getElem?_eq_some_iff.1 hv).1)] at h2
    cases h2; exact ⟨hn, hm⟩
  · rw [List.getElem?_set_ne (fun q => e q.symm)] at h2
    exact ⟨(h.2 j w m h1 h2).1, fun x => by rw [(h.2 j w m h1 h2).2 x, ho j w e h1 x]⟩
/-- Is every session's day fit: the sets are those after the sessions in dn; within a session for id, the first j of its people were there. -/
def fW (tg : List Int) (who : List Int) (j : Nat) (dn : List Int) (id : Int) : Nat → List Int → Int → Bool := fun k v x => if (k : Int) ∈ who.take j then stP tg v (dn ++ [id]) x else stP tg v dn x
theorem Sts.who0 {tg who dn : List Int} {has : List (List Int)} {ms : List SM} (h : Sts has (fun _ v x => stP tg v dn x) ms) (id : Int) : Sts has (fW tg who 0 dn id) ms := h.congr fun k v _ x => by unfold fW; rw [if_neg (by simp)]
theorem Sts.whoN {tg dn : List Int} {has : List (List Int)} {ms : List SM} {id : Int} {j : Nat} (h : Sts has (fW tg (diffW tg has id) j dn id) ms) (hj : (diffW tg has id).length ≤ j) : Sts has (fun _ v x => stP tg v (dn ++ [id]) x) ms := h.congr fun k v hv x => by
  unfold fW
  rw [List.take_of_length_le hj]
  split
  · rfl
  · rename_i hk
    refine (stP_other ?_ x).symm
    by_cases e : v.contains id = tg.contains id
    · exact e
    · exact absurd (mem_diffW.2 ⟨k, v, rfl, hv, e⟩) hk
/-- The person at place j of a session. -/
theorem who_at {tg : List Int} {has : List (List Int)} {id : Int} {j : Nat} {p : Int} (h : (diffW tg has id)[j]? = some p) : ∃ (k : Nat) (v : List Int), p = k ∧ has[k]? = some v ∧ v.contains id ≠ tg.contains id := mem_diffW.1 (List.mem_of_getElem? h)
theorem who_new {tg : List Int} {has : List (List Int)} {id : Int} {j k : Nat} (h : (diffW tg has id)[j]? = some (k : Int)) : (k : Int) ∉ (diffW tg has id).take j := fun hm => by
  obtain ⟨i, hi⟩ := List.getElem?_of_mem hm
  rw [List.getElem?_take] at hi
  split at hi
  · rename_i hij
    have hp := diffW_inc tg has id
    have h1 := (List.getElem?_eq_some_iff.1 hi).1
    have h2 := (List.getElem?_eq_some_iff.1 h).1
    have := List.pairwise_iff_getElem.1 hp i j h1 h2 hij
    rw [(List.getElem?_eq_some_iff.1 hi).2, (List.getElem?_eq_some_iff.1 h).2] at this
    omega
  · cases hi
/-- The person does not have what the session is about yet. -/
theorem who_diff {tg dn : List Int} {has : List (List Int)} {ms : List SM} {id : Int} {j k : Nat} {v : List Int} {m : SM} (h : Sts has (fW tg (diffW tg has id) j dn id) ms) (hj : (diffW tg has id)[j]? = some (k : Int)) (hv : has[k]? = some v) (hd : v.contains id ≠ tg.contains id) (hm : ms[k]? = some m) (hid : id ∉ dn) : decide (id ∈ keyS m) ≠ tg.contains id := by
  rw [(h.2 k v m hv hm).2 id]
  unfold fW
  rw [if_neg (who_new hj)]
  unfold stP
  rw [if_neg (by simpa using hid)]
  exact hd
theorem whoS_step {tg dn : List Int} {has : List (List Int)} {ms : List SM} {id : Int} {j k : Nat} {v : List Int} {m m' : SM} (h : Sts has (fW tg (diffW tg has id) j dn id) ms) (hj : (diffW tg has id)[j]? = some (k : Int)) (hv : has[k]? = some v) (hm : ms[k]? = some m) (hn : (keyS m').Nodup) (hk : ∀ x, x ∈ keyS m' ↔ if x = id then tg.contains id = true else x ∈ keyS m) :
    Sts has (fW tg (diffW tg has id) (j + 1) dn id) (ms.set k m') := by
  have et : (diffW tg has id).take (j + 1) = (diffW tg has id).take j ++ [(k : Int)] := by rw [List.take_add_one, hj]; rfl
  refine h.turn hv hn (fun x => ?_) (fun i w hi _ x => ?_)
  · have h2 := (h.2 k v m hv hm).2 x
    unfold fW at h2 ⊢
    rw [if_neg (who_new hj)] at h2
    rw [et, if_pos (by simp), stP_new, Bool.eq_iff_iff, decide_eq_true_eq, hk x]
    by_cases e : x = id
    · subst e; rw [if_pos rfl, if_pos rfl]
    · rw [if_neg e, if_neg (fun q => e q.symm), ← h2, decide_eq_true_eq]
  · unfold fW
    rw [et]
    by_cases g : (i : Int) ∈ (diffW tg has id).take j
    · rw [if_pos g, if_pos (by simp [g])]
    · rw [if_neg g, if_neg (by simp only [List.mem_append, List.mem_singleton, not_or]; exact ⟨g, fun q => hi (by omega)⟩)]
theorem who_put {tg dn : List Int} {has : List (List Int)} {ms : List SM} {id : Int} {j k : Nat} {v : List Int} {m : SM} (h : Sts has (fW tg (diffW tg has id) j dn id) ms) (hj : (diffW tg has id)[j]? = some (k : Int)) (hv : has[k]? = some v) (hm : ms[k]? = some m) (ht : tg.contains id = true) :
    Sts has (fW tg (diffW tg has id) (j + 1) dn id) (ms.set k (sput m.1 m.2 id)) := by
  obtain ⟨h1, h2⟩ := sput_set (h.2 k v m hv hm).1 id
  refine whoS_step h hj hv hm h1 fun x => ?_
  rw [h2 x, ht]
  by_cases e : x = id <;> simp [e]
theorem who_del {tg dn : List Int} {has : List (List Int)} {ms : List SM} {id : Int} {j k : Nat} {v : List Int} {m : SM} (h : Sts has (fW tg (diffW tg has id) j dn id) ms) (hj : (diffW tg has id)[j]? = some (k : Int)) (hv : has[k]? = some v) (hm : ms[k]? = some m) (ht : tg.contains id = false) :
    Sts has (fW tg (diffW tg has id) (j + 1) dn id) (ms.set k (sdel m.1 id, m.2)) := by
  obtain ⟨h1, h2⟩ := sdel_mem (a := id) (h.2 k v m hv hm).1
  refine whoS_step h hj hv hm h1 fun x => ?_
  have h3 := h2 x
  show x ∈ (sdel m.1 id).map (·.1) ↔ if x = id then tg.contains id = true else x ∈ m.1.map (·.1)
  rw [h3, ht]
  by_cases e : x = id <;> simp [e]
/-! ### Which sessions were -/
/-- The k-th session came up among the first i of a round. -/
def came (back : Bool) (n i k : Nat) : Prop := if back then n ≤ k + i else k < i
def plc (back : Bool) (n i : Nat) : Nat := if back then n - 1 - i else i
structure DnI (tg : List Int) (ks : List Pt) (pl : List Int) (back : Bool) (d : Int) (i : Nat) (dn : List Int) : Prop where
  exact' : ∀ (k : Nat) (q : Pt) (e : Int), ks[k]? = some q → pl[k]? = some e → (q.id ∈ dn ↔ (e < d ∨ (e = d ∧ came back pl.length i k)))
  sub : ∀ x ∈ dn, ∃ q ∈ ks, q.id = x
  ok : DnOK tg ks dn
theorem DnI.zero {tg : List Int} {ks : List Pt} {pl : List Int} {back : Bool} (h : ∀ d ∈ pl, 0 ≤ d) : DnI tg ks pl back 0 0 [] where
  exact' k q e hq he := by
    have h0 := h e (List.mem_of_getElem? he)
    have hk := (List.getElem?_eq_some_iff.1 he).1
    unfold came
    constructor
    · intro g; cases g
    · rintro (g | ⟨_, g⟩)
      · omega
      · split at g <;> omega
  sub x hx := by cases hx
  ok := fun q _ q' _ _ h _ => by cases h
theorem DnI.day {tg : List Int} {ks : List Pt} {pl : List Int} {back : Bool} {d : Int} {dn : List Int} {i : Nat} (h : DnI tg ks pl back d i dn) (hi : pl.length ≤ i) : DnI tg ks pl back (d + 1) 0 dn where
  exact' k q e hq he := by
    have hk := (List.getElem?_eq_some_iff.1 he).1
    rw [h.exact' k q e hq he]
    have h1 : came back pl.length i k := by unfold came; split <;> omega
    have h2 : ¬ came back pl.length 0 k := by unfold came; split <;> omega
    constructor
    · rintro (g | ⟨g, _⟩) <;> left <;> omega
    · rintro (g | ⟨_, g⟩)
      · by_cases e2 : e < d
        · exact .inl e2
        · exact .inr ⟨by omega, h1⟩
      · exact (h2 g).elim
  sub := h.sub
  ok := h.ok
theorem came_succ {back : Bool} {n i k : Nat} (hi : i < n) (hk : k < n) : came back n (i + 1) k ↔ (came back n i k ∨ k = plc back n i) := by
  unfold came plc
  split <;> omega
theorem came_not {back : Bool} {n i : Nat} (hi : i < n) : ¬ came back n i (plc back n i) := by
  unfold came plc
  split <;> omega
theorem plc_lt {back : Bool} {n i : Nat} (hi : i < n) : plc back n i < n := by unfold plc; split <;> omega
theorem DnI.skip {tg : List Int} {ks : List Pt} {pl : List Int} {back : Bool} {d : Int} {dn : List Int} {i : Nat} (h : DnI tg ks pl back d i dn) (hi : i < pl.length) {e : Int} (he : pl[plc back pl.length i]? = some e) (hne : e ≠ d) : DnI tg ks pl back d (i + 1) dn where
  exact' k q e' hq he' := by
    have hk := (List.getElem?_eq_some_iff.1 he').1
    rw [h.exact' k q e' hq he', came_succ hi hk]
    constructor
    · rintro (g | ⟨g, g2⟩)
      · exact .inl g
      · exact .inr ⟨g, .inl g2⟩
    · rintro (g | ⟨g, g2 | g2⟩)
      · exact .inl g
      · exact .inr ⟨g, g2⟩
      · subst g2; rw [he] at he'; cases he'; exact (hne g).elim
  sub := h.sub
  ok := h.ok
theorem DnI.fresh {tg : List Int} {ks : List Pt} {pl : List Int} {back : Bool} {d : Int} {dn : List Int} {i : Nat} (h : DnI tg ks pl back d i dn) (hi : i < pl.length) (he : pl[plc back pl.length i]? = some d) {q : Pt} (hq : ks[plc back pl.length i]? = some q) : q.id ∉ dn := fun hm => by
  rcases (h.exact' _ q d hq he).1 hm with g | ⟨_, g⟩
  · omega
  · exact came_not hi g
theorem nd_idx {ks : List Pt} (hnd : (ks.map (·.id)).Nodup) {a b : Nat} {p q : Pt} (ha : ks[a]? = some p) (hb : ks[b]? = some q) (e : p.id = q.id) : a = b := by
  have h1 : (ks.map (·.id))[a]? = some p.id := by rw [List.getElem?_map, ha]; rfl
  have h2 : (ks.map (·.id))[b]? = some q.id := by rw [List.getElem?_map, hb]; rfl
  obtain ⟨l1, g1⟩ := List.getElem?_eq_some_iff.1 h1
  obtain ⟨l2, g2⟩ := List.getElem?_eq_some_iff.1 h2
  exact (List.getElem_inj hnd).1 (by rw [g1, g2, e])
theorem DnI.step {ps : List Pt} (hL : Lst ps) {tg : List Int} {has : List (List Int)} {c : Cr} (hc : c.ss = fromL ps tg has) (h8 : c.ss.length ≤ 8) {pl : List Int} (hl : pl.length = c.ss.length) (hin : InR c pl) (hb : brkL c pl = []) {back : Bool} {d : Int} {dn : List Int} {i : Nat}
    (h : DnI tg (keptP ps tg has) pl back d i dn) (hi : i < pl.length) (he : pl[plc back pl.length i]? = some d) {q : Pt} (hq : (keptP ps tg has)[plc back pl.length i]? = some q) : DnI tg (keptP ps tg has) pl back d (i + 1) (dn ++ [q.id]) where
  exact' k r e hr he' := by
    have hk := (List.getElem?_eq_some_iff.1 he').1
    rw [List.mem_append, List.mem_singleton, h.exact' k r e hr he', came_succ hi hk]
    constructor
    · rintro ((g | ⟨g, g2⟩) | g)
      · exact .inl g
      · exact .inr ⟨g, .inl g2⟩
      · have := nd_idx (keptP_nodup hL tg has) hr hq g
        subst this; rw [he] at he'; cases he'; exact .inr ⟨rfl, .inr rfl⟩
    · rintro (g | ⟨g, g2 | g2⟩)
      · exact .inl (.inl g)
      · exact .inl (.inr ⟨g, g2⟩)
      · subst g2; rw [hq] at hr; cases hr; exact .inr rfl
  sub x hx := by
    rcases List.mem_append.1 hx with g | g
    · exact h.sub x g
    · simp at g; subst g; exact ⟨q, List.mem_of_getElem? hq, rfl⟩
  ok := dn_more hL hc h8 hl hin hb (fun j e r he' hr hlt => (h.exact' j r e hr he').2 (.inl hlt)) h.ok he hq
theorem DnI.all {ps : List Pt} {tg : List Int} {has : List (List Int)} {c : Cr} {pl : List Int} (hl : pl.length = (keptP ps tg has).length) (hin : InR c pl) {back : Bool} {dn : List Int} {i : Nat} (h : DnI tg (keptP ps tg has) pl back c.days.length i dn) : ∀ q ∈ keptP ps tg has, q.id ∈ dn := fun q hq => by
  obtain ⟨k, hk⟩ := List.getElem?_of_mem hq
  have hlt := (List.getElem?_eq_some_iff.1 hk).1
  have he : pl[k]? = some (pl[k]'(by omega)) := List.getElem?_eq_getElem (by omega)
  exact (h.exact' k q _ hk he).2 (.inl (hin _ (List.mem_of_getElem? he)).2)
/-! ### No patch without what it needs -/
def closB (ps : List Pt) (m : SM) : Bool := ps.all fun p => p.needs.all fun n => !(decide (p.id ∈ keyS m) && !decide (n ∈ keyS m))
theorem clos_ok {ps : List Pt} {m : SM} {f : Int → Bool} (hm : ∀ x, decide (x ∈ keyS m) = f x) (h : ∀ q ∈ ps, f q.id = true → ∀ n ∈ q.needs, f n = true) : closB ps m = true := by
  unfold closB
  refine List.all_eq_true.2 fun p hp => List.all_eq_true.2 fun n hn => ?_
  rw [hm, hm]
  cases e : f p.id with
  | false => rfl
  | true => rw [h p hp e n hn]; rfl
theorem clos_part {ps : List Pt} {p : Pt} {m : SM} {k j : Nat} {x : Int} (hp : ps[k]? = some p) (hx : p.needs[j]? = some x) (h : (decide (p.id ∈ keyS m) && !decide (x ∈ keyS m)) = true) : closB ps m = false := by
  unfold closB
  rw [Bool.eq_false_iff]
  intro g
  have := List.all_eq_true.1 (List.all_eq_true.1 g p (List.mem_of_getElem? hp)) x (List.mem_of_getElem? hx)
  rw [h] at this; cases this
/-- Within a session for q: whoever was there, has a version. -/
theorem who_closed {ps : List Pt} (hL : Lst ps) {tg : List Int} {has : List (List Int)} (hT : Ver ps tg) (hV : ∀ v ∈ has, Ver ps v) {dn : List Int} {id : Int} {who : List Int} {j k : Nat} {ms : List SM} {v : List Int} {m : SM} (h : Sts has (fW tg who j dn id) ms) (hv : has[k]? = some v) (hm : ms[k]? = some m)
    (hs1 : ∀ x ∈ dn, ∃ q ∈ keptP ps tg has, q.id = x) (hd1 : DnOK tg (keptP ps tg has) dn) (hs2 : ∀ x ∈ dn ++ [id], ∃ q ∈ keptP ps tg has, q.id = x) (hd2 : DnOK tg (keptP ps tg has) (dn ++ [id])) : closB ps m = true := by
  refine clos_ok (h.2 k v m hv hm).2 ?_
  by_cases e : (k : Int) ∈ who.take j
  · have : fW tg who j dn id k v = stP tg v (dn ++ [id]) := by funext x; unfold fW; rw [if_pos e]
    rw [this]
    exact stP_closed hL hT hv (hV v (List.mem_of_getElem? hv)) hs2 hd2
  · have : fW tg who j dn id k v = stP tg v dn := by funext x; unfold fW; rw [if_neg e]
    rw [this]
    exact stP_closed hL hT hv (hV v (List.mem_of_getElem? hv)) hs1 hd1
theorem Sts.full {has : List (List Int)} {f : Nat → List Int → Int → Bool} {ms : List SM} {k : Nat} (h : Sts (has.take k) f ms) (hk : has.length ≤ k) : Sts has f ms := by rwa [List.take_of_length_le hk] at h
theorem Sts.nil {has : List (List Int)} {f : Nat → List Int → Int → Bool} : Sts (has.take 0) f [] := ⟨by simp, fun k v m h _ => by simp at h⟩
/-- Whose set it is at last. -/
theorem sts_end {ps : List Pt} {tg : List Int} {has : List (List Int)} {dn : List Int} {ms : List SM} (h : Sts has (fun _ v x => stP tg v dn x) ms) (hall : ∀ q ∈ keptP ps tg has, q.id ∈ dn) {k : Nat} {v : List Int} {m : SM} (hv : has[k]? = some v) (hm : ms[k]? = some m) {p : Pt} (hp : p ∈ ps) : decide (p.id ∈ keyS m) = tg.contains p.id := by
  rw [(h.2 k v m hv hm).2]
  exact stP_all hv hall hp
/-- The facts of a plan. -/
theorem plan_facts {c : Cr} (hk : chkC c = 0) (ho : planO c = true) : (planL c).length = c.ss.length ∧ InR c (planL c) ∧ brkL c (planL c) = [] := by
  cases h2 : planF c with
  | none => rw [(planL_none hk h2).2] at ho; cases ho
  | some q =>
    obtain ⟨k, x⟩ := q
    rw [(planL_some hk h2).1]
    exact ⟨(plan_good h2).1.1, plan_in h2, (plan_good h2).1.2.2⟩
theorem plan_chk {c : Cr} {N : Nat} (hk : chkC c = 0) (h : c.ss.length = N) : ¬ ((chkC c != 0 || planO c && ((planL c).length : Int) != (N : Int)) = true) := by
  rw [hk]
  cases ho : planO c with
  | false => simp
  | true => rw [(plan_facts hk ho).1, h]; simp
theorem fromE_0 {ps : List Pt} {tg : List Int} {has : List (List Int)} (h : fromE ps tg has = 0) : chkR ps = 0 ∧ (tg :: has).all (verF ps) = true := by
  unfold fromE at h
  split at h
  · rename_i g; exact (g h).elim
  · rename_i g
    split at h
    · cases h
    · split at h
      · rename_i g2; exact ⟨by omega, g2⟩
      · cases h
theorem fromE_ver {ps : List Pt} {tg : List Int} {has : List (List Int)} (h : fromE ps tg has = 0) : Lst ps ∧ Ver ps tg ∧ (∀ v ∈ has, Ver ps v) ∧ cloE ps tg = 0 ∧ cloF ps tg = tg := by
  obtain ⟨h1, h2⟩ := fromE_0 h
  rw [List.all_cons, Bool.and_eq_true] at h2
  refine ⟨chkR_lst h1, ver_iff h1 h2.1, fun v hv => ver_iff h1 (List.all_eq_true.1 h2.2 v hv), ?_, ?_⟩
  · have := h2.1; unfold verF at this; simp at this; exact this.1
  · have := h2.1; unfold verF at this; simp at this; exact this.2
theorem fromR_0 {ps : List Pt} {tg : List Int} {has : List (List Int)} (h : fromE ps tg has = 0) : fromR ps tg has = fromL ps tg has := by unfold fromR; rw [if_pos h]
theorem fromR_no {ps : List Pt} {tg : List Int} {has : List (List Int)} (h : fromE ps tg has ≠ 0) : fromR ps tg has = [] := by unfold fromR; rw [if_neg h]
/-- The k-th session is about the k-th patch that is kept. -/
theorem from_at {ps : List Pt} {tg : List Int} {has : List (List Int)} {k : Nat} {s : Ses} (h : (fromL ps tg has)[k]? = some s) : ∃ q, (keptP ps tg has)[k]? = some q ∧ s.pa = q.id ∧ s.who = diffW tg has q.id := by
  have hk := (List.getElem?_eq_some_iff.1 h).1
  unfold fromL at h hk
  rw [sesL_len] at hk
  have hq : (keptP ps tg has)[k]? = some (keptP ps tg has)[k] := List.getElem?_eq_getElem hk
  rw [sesL_at hq] at h
  cases h
  exact ⟨_, hq, rfl, rfl⟩
theorem mapsL_upd0 {rs : List Nat} {ms : List SM} {k r : Nat} {m : SM} (m' : SM) (h1 : rs[k]? = some r) (h2 : ms[k]? = some m) : Upd (mapsL rs ms) r (Kn.setO m.1 m.2) (Kn.setO m'.1 m'.2) (mapsL rs (ms.set k m')) := by
  have := mapsL_upd [] m' h1 h2
  rwa [List.append_nil, List.append_nil] at this
theorem mapsL_one {rs : List Nat} {ms : List SM} {k r : Nat} {m : SM} (h1 : rs[k]? = some r) (h2 : ms[k]? = some m) : ∃ R', Split (mapsL rs ms) [(r, Kn.setO m.1 m.2)] R' := by
  obtain ⟨R', h, _⟩ := mapsL_split [] h1 h2
  rw [List.append_nil] at h
  exact ⟨R', h⟩
theorem mapsL_perm (A : Go.Kn.Loc) {rs : List Nat} {ms : List SM} (r : Nat) (m : SM) (h : rs.length = ms.length) : (A ++ mapsL (rs ++ [r]) (ms ++ [m])).Perm (A ++ ((r, Kn.setO m.1 m.2) :: mapsL rs ms)) := by
  rw [mapsL_snoc h]
  exact (List.perm_append_singleton _ _).append_left _
/-- A set that is read only. -/
def ImmS (I : HMap) (r : Nat) (m : SM) : Prop := I r = some (Kn.setO m.1 m.2)
theorem ImmS.mono {I I' : HMap} {r : Nat} {m : SM} (h : ImmS I r m) (hI : HLe I I') : ImmS I' r m := hI _ _ h
theorem plc_t {i N : Nat} (h : i < N) : ((N : Int) - 1 - (i : Int)) = ((plc true N i : Nat) : Int) := by
  unfold plc; rw [if_pos rfl]; omega
theorem plc_f (i N : Nat) : (i : Int) = ((plc false N i : Nat) : Int) := by
  unfold plc; rw [if_neg (by decide)]
theorem st_nil (tg v : List Int) : (fun (_ : Nat) (v : List Int) (x : Int) => stP tg v [] x) 0 v = fun x => v.contains x := by
  funext x; show stP tg v [] x = _; unfold stP; rw [if_neg (by simp)]
theorem SetL.dec {m : SM} {l : List Int} (h : SetL m l) (x : Int) : decide (x ∈ m.1.map (·.1)) = l.contains x := by
  rw [Bool.eq_iff_iff, decide_eq_true_eq]
  exact (h.2 x).trans cont_iff.symm
theorem get_set_self {ms : List SM} {k : Nat} {m : SM} (m' : SM) (h : ms[k]? = some m) : (ms.set k m')[k]? = some m' := List.getElem?_set_self (List.getElem?_eq_some_iff.1 h).1
theorem who_no {pk n : Nat} {A G b : Bool} (h : pk < n) (h1 : ¬ (pk : Int) < 0) (hg : G = b) (hd : A ≠ b) : ¬ (((decide ((pk : Int) < 0) || decide ((pk : Int) ≥ (n : Int))) || (A == G)) = true) := by
  rw [decide_eq_false h1, decide_eq_false (show ¬ ((pk : Int) ≥ (n : Int)) by omega), hg]
  cases A <;> cases b <;> first | decide | exact absurd rfl hd
theorem fil_yes {ps : List Pt} {tg : List Int} {j : Nat} {p : Pt} (hp : ps[j]? = some p) (h : tg.contains p.id = true) : ((ps.take (j + 1)).filter fun p => tg.contains p.id).map (·.id) = ((ps.take j).filter fun p => tg.contains p.id).map (·.id) ++ [p.id] := by
  rw [List.take_add_one, hp]
  simp only [Option.toList, List.filter_append, List.map_append]
  rw [List.filter_cons_of_pos (p := fun p : Pt => tg.contains p.id) h]; rfl
theorem fil_no {ps : List Pt} {tg : List Int} {j : Nat} {p : Pt} (hp : ps[j]? = some p) (h : tg.contains p.id = false) : ((ps.take (j + 1)).filter fun p => tg.contains p.id).map (·.id) = ((ps.take j).filter fun p => tg.contains p.id).map (·.id) := by
  rw [List.take_add_one, hp]
  simp only [Option.toList, List.filter_append, List.map_append]
  rw [List.filter_cons_of_neg (p := fun p : Pt => tg.contains p.id) (by rw [h]; decide)]; simp
theorem all_snoc9 {α : Type} {xs : List α} {k : Nat} {x : α} {P : α → Bool} (h : xs[k]? = some x) : (xs.take (k + 1)).all P = ((xs.take k).all P && P x) := by
  rw [List.take_add_one, h]; simp
def closQ (m : SM) (p : Pt) (n : Int) : Bool := !(decide (p.id ∈ m.1.map (·.1)) && !decide (n ∈ m.1.map (·.1)))
theorem closB_eq (ps : List Pt) (m : SM) : closB ps m = ps.all fun p => p.needs.all (closQ m p) := rfl
theorem closB_no {ps : List Pt} {m : SM} {p : Pt} {k j : Nat} {x : Int} (hp : ps[k]? = some p) (hx : p.needs[j]? = some x) (h : (decide (p.id ∈ m.1.map (·.1)) && !decide (x ∈ m.1.map (·.1))) = true) : closB ps m = false := clos_part hp hx h
end Go.Proofs.YtehkiccapbkhnaaGreat
end
section
namespace Go.Proofs.YtehkiccapbkhnaaGreat
open Go Go.Kn Go.Proofs
theorem w_closed {I : HMap} {av : Option Addr} {n c : Nat} {ps : List Pt} (hP : SlP I av n c ps) (hn : n ≤ 1000) (hnd : ∀ p ∈ ps, p.n ≤ 100000) {r : Nat} {m : SM} (hm : ImmS I r m) : RetV Tryz.prog 34 [.slice av n c, .map (some r)] I (.bool (closB ps m)) := by
 intro g H w hw
 refine enter Tryz.func34 rfl Tryz.ntmps34 rfl hw ?_
 have hlp := hP.len
 refine zR ?_
 refine zA ?_
 refine zN ?_
 refine X_seq ?_
 refine zR ?_
 refine zM ?_
 refine XO_v0 (ev_lenS rfl slt_22) rfl rfl rfl ?_
 refine zM ?_
 refine zN ?_
 refine X_block ?_
 refine X_loopT [(1, _), (9, _), (10, _)] (.cons rfl (.cons rfl (.cons rfl .nil))) (fun T L0 mz E I' loc' => ∃ (k : Nat), mz = n - k ∧ E = (11, .int .i64 k) :: T ∧ I = I' ∧ L0 = loc' ∧ k ≤ n ∧ (ps.take k).all (fun p => p.needs.all (closQ m p)) = true) _ _ _ _ ⟨0, rfl, rfl, rfl, rfl, Nat.zero_le _, by rw [List.take_zero]; rfl⟩ (.cons rfl (.cons rfl (.cons rfl (.cons rfl .nil)))) (HLe.refl _) rfl ?_
 rintro mz E I' loc' ⟨k, rfl, rfl, rfl, rfl, hk, ha⟩
 refine zR ?_
 refine zC ?_
 refine zN ?_
 refine X_seq ?_
 refine X_cond rfl (fun hc12 => ?_) (fun hc12 => ?_)
 ·
  have hlt_k : k < n := by have h := hc12; simp at h; omega
  obtain ⟨p, hp, hN⟩ := hP.at hlt_k
  have hpn := hnd p (List.mem_of_getElem? hp)
  refine X_skip ?_
  refine at_then ?_
  refine X_seq ?_
  refine X_block ?_
  refine zR ?_
  refine XO_v0 (ev_indexSl rfl rfl slt_22 hP.1 (fun hg => by omega)) rfl rfl rfl ?_
  refine XO_v0 (ev_loadA rfl agt_65 (fun hg => by exact Sl.getA hP.1 hp) rfl) rfl rfl rfl ?_
  refine XO_alloc zt_65 rfl rfl (fun b_6 => ?_)
  refine XO_storeA rfl rfl szt_65 rfl rfl rfl rfl (by repeat (first | exact Upd.here | apply Upd.there | apply upd_app)) ?_
  refine zN (zR ?_)
  refine XO_v0 (ev_fieldAddr rfl fld_65_5) rfl rfl rfl ?_
  refine XO_v0 (ev_load rfl sct_23 (fun hg => by (repeat (first | exact Cell.here rfl | apply Cell.there | apply Cell.app)))) rfl rfl rfl ?_
  refine XO_v0 (ev_lenS rfl slt_23) rfl rfl rfl ?_
  refine zM ?_
  refine zN ?_
  refine X_block ?_
  refine X_loopT [(1, _), (6, _), (9, _), (10, _), (11, _), (16, _), (17, _)] (.cons rfl (.cons rfl (.cons rfl (.cons rfl (.cons rfl (.cons rfl (.cons rfl .nil))))))) (fun T L0 mz E I' loc' => ∃ (j : Nat), mz = p.n - j ∧ E = (18, .int .i64 j) :: T ∧ I = I' ∧ L0 = loc' ∧ j ≤ p.n ∧ (p.needs.take j).all (closQ m p) = true) _ _ _ _ ⟨0, rfl, rfl, rfl, rfl, Nat.zero_le _, by rw [List.take_zero]; rfl⟩ (.cons rfl (.cons rfl (.cons rfl (.cons rfl (.cons rfl (.cons rfl (.cons rfl (.cons rfl .nil)))))))) (HLe.refl _) rfl ?_
  rintro mz E I' loc' ⟨j, rfl, rfl, rfl, rfl, hj, hb⟩
  refine zR ?_
  refine zC ?_
  refine zN ?_
  refine X_seq ?_
  refine X_cond rfl (fun hc19 => ?_) (fun hc19 => ?_)
  ·
   have hlt_j : j < p.n := by have h := hc19; simp at h; omega
   obtain ⟨x, hx⟩ := hN.at hlt_j
   refine X_skip ?_
   refine at_then ?_
   refine X_seq ?_
   refine X_block ?_
   refine zR ?_
   refine XO_v0 (ev_indexSl rfl rfl slt_23 (by assumption) (fun hg => by omega)) rfl rfl rfl ?_
   refine XO_v0 (ev_load rfl sct_3 (fun hg => by exact Sl.get0 hN hx rfl)) rfl rfl rfl ?_
   refine zA ?_
   refine zN (zR ?_)
   refine zM ?_
   refine XO_v0 (ev_fieldAddr rfl fld_65_0) rfl rfl rfl ?_
   refine XO_v0 (ev_load rfl sct_3 (fun hg => by (repeat (first | exact Cell.here rfl | apply Cell.there | apply Cell.app)))) rfl rfl rfl ?_
   refine XO_v0 (ev_lookupS (m := m.1) (c := m.2) (a := p.id) mpt_56 und_3 rfl rfl (fun _ => .inl hm)) rfl rfl rfl ?_
   refine zM ?_
   refine XO_pushT 4 rfl rfl rfl ?_
   refine XO_v1 (ev_move rfl) (.some rfl rfl rfl rfl gbt) rfl rfl rfl ?_
   refine XO_v1 (ev_move rfl) (.some rfl rfl rfl rfl gbt) rfl rfl rfl ?_
   refine XO_v1 (ev_lookupS (m := m.1) (c := m.2) (a := x) mpt_56 und_3 rfl rfl (fun _ => .inl hm)) (.some rfl rfl rfl rfl gbt) rfl rfl rfl ?_
   refine XO_v1 (ev_not rfl) (.some rfl rfl rfl rfl gbt) rfl rfl rfl ?_
   refine XO_and0 rfl rfl rfl rfl rfl ?_
   refine zN ?_
   refine X_cond rfl (fun hc31 => ?_) (fun hc31 => ?_)
   ·
    refine zR ?_
    refine zA ?_
    refine zN ?_
    refine X_ret ?_
    refine at_block_r ?_
    refine at_then_r ?_
    refine at_then_r ?_
    refine at_block_r ?_
    refine at_block_r ?_
    refine at_then_r ?_
    refine at_then_r ?_
    refine at_block_r ?_
    refine at_then_r ?_
    exact at_ret1 rfl rfl (fun w hw => ⟨by rw [closB_no hp hx hc31], hw.drop⟩)
   refine X_skip ?_
   refine at_block_n ?_
   refine at_then ?_
   refine X_region ?_
   refine zB ?_
   refine zM ?_
   refine XO_nil ?_
   exact at_met2 _ _ ⟨p.n - (j + 1), by omega, j + 1, rfl, rfl, rfl, rfl, by omega, by rw [all_snoc9 hx, hb]; unfold closQ; rw [hc31]; rfl⟩ (.cons rfl (.cons rfl (.cons rfl (.cons rfl (.cons rfl (.cons rfl (.cons rfl (.cons rfl .nil)))))))) (by repeat (first | exact .refl | exact subL_left | refine subL_app ?_ | refine .drop ?_ | refine subL_add ?_))
  have hge_j : p.n ≤ j := by have h := hc19; simp at h; omega
  rw [take_all hN.len hge_j] at hb
  refine X_exit ?_
  refine at_then_e ?_
  refine at_then_e ?_
  refine at_block_hit ?_
  refine at_block_n ?_
  refine at_then ?_
  refine X_region ?_
  refine zB ?_
  refine zM ?_
  refine XO_nil ?_
  exact at_met2 _ _ ⟨n - (k + 1), by omega, k + 1, rfl, rfl, rfl, rfl, by omega, by rw [all_snoc9 hp, ha, hb]; rfl⟩ (.cons rfl (.cons rfl (.cons rfl (.cons rfl .nil)))) (by repeat (first | exact .refl | exact subL_left | refine subL_app ?_ | refine .drop ?_ | refine subL_add ?_))
 have hge_k : n ≤ k := by have h := hc12; simp at h; omega
 rw [take_all hlp hge_k] at ha
 refine X_exit ?_
 refine at_then_e ?_
 refine at_then_e ?_
 refine at_block_hit ?_
 refine at_then ?_
 refine zR ?_
 refine zA ?_
 refine zN ?_
 refine X_ret ?_
 exact at_ret1 rfl rfl (fun w hw => ⟨by rw [closB_eq, ha], hw.drop⟩)
end Go.Proofs.YtehkiccapbkhnaaGreat
end
section
namespace Go.Proofs.YtehkiccapbkhnaaGreat
open Go Go.Kn Go.Proofs
theorem fromR_len (ps : List Pt) (tg : List Int) (has : List (List Int)) : (fromR ps tg has).length ≤ 8 := by
  unfold fromR
  split
  · rename_i h
    unfold fromE at h
    split at h
    · rename_i g; exact (g h).elim
    · split at h
      · cases h
      · split at h
        · split at h
          · cases h
          · omega
        · cases h
  · simp
end Go.Proofs.YtehkiccapbkhnaaGreat
end
section
namespace Go.Proofs.YtehkiccapbkhnaaGreat
open Go Go.Kn Go.Proofs
theorem elt_55 : ElT Tryz.prog 55 56 1 8 := .of (by kernel_rfl)
theorem fun_10 : Fun Tryz.prog 10 := .of Tryz.func10 (by kernel_rfl) (by kernel_rfl)
theorem fun_11 : Fun Tryz.prog 11 := .of Tryz.func11 (by kernel_rfl) (by kernel_rfl)
theorem fun_29 : Fun Tryz.prog 29 := .of Tryz.func29 (by kernel_rfl) (by kernel_rfl)
theorem fun_34 : Fun Tryz.prog 34 := .of Tryz.func34 (by kernel_rfl) (by kernel_rfl)
theorem sct_56 : ScT Tryz.prog 56 := .of (by kernel_rfl)
theorem slt_55 : SlT Tryz.prog 55 56 1 := .of (by kernel_rfl)
theorem szt_27 : SzT Tryz.prog 27 1 := .of (by kernel_rfl)
theorem w_togetherLaw {I : HMap} {av : Option Addr} {n c : Nat} {ps : List Pt} (hP : SlP I av n c ps) {bv : Option Addr} {n2 c2 : Nat} {tg : List Int} (hT : Sl I 1 encI bv n2 c2 tg) {dv : Option Addr} {n3 c3 : Nat} {hsh : List Hd} {has : List (List Int)} (hV : SlHA I 1 encI dv n3 c3 hsh has) {x : CH} {cr : Cr} (hC : CrAt I x cr) (back : Bool) : RetV Tryz.prog 8 [.slice av n c, .slice bv n2 c2, .slice dv n3 c3, encCHA x, .bool back] I (.bool true) := by
 intro g H w hw
 refine enter Tryz.func8 rfl Tryz.ntmps8 rfl hw ?_
 have hIc := HLe.refl I
 have hlp := hP.len
 have hlV := hV.len
 have hlT := hT.len
 refine zR ?_
 refine XO_box rfl rfl rfl (fun b_8 => ?_)
 refine zA ?_
 refine zN ?_
 refine X_seq ?_
 refine zR ?_
 refine XO_callV0 (cap := []) (vs := []) rfl rfl fun_10 (w_sane40 _) rfl rfl ?_
 refine XO_v0 (ev_not rfl) rfl rfl rfl ?_
 refine zN ?_
 refine X_cond rfl (fun hc38 => ?_) (fun hc38 => ?_)
 ·
  cases hc38
 refine X_skip ?_
 refine at_then ?_
 refine X_seq ?_
 refine zR ?_
 refine zM ?_
 refine zM ?_
 refine zM ?_
 refine XO_callV0 (cap := []) (vs := [_, _, _]) rfl rfl fun_11 (w_rFewS hP hT hV) rfl rfl ?_
 refine XO_v0 (ev_not rfl) rfl rfl rfl ?_
 refine zN ?_
 refine X_cond rfl (fun hc43 => ?_) (fun hc43 => ?_)
 ·
  refine zR ?_
  refine zA ?_
  refine zN ?_
  refine X_ret ?_
  refine at_then_r ?_
  exact at_ret1 rfl rfl (fun w hw => ⟨by rfl, (hw.mono hIc).drop⟩)
 have hfew := fewS_bd (show fewS ps tg has = true by simpa using hc43)
 have hvl : ∀ v ∈ has, v.length ≤ 100000 := fun v hv => Nat.le_trans (hfew.2.2.2.1 v hv) (by decide)
 have hnd : ∀ p ∈ ps, p.n ≤ 100000 := fun p hp => by have h1 := hP.2 p hp; have h2 := hfew.2.2.2.2 p hp; rw [h1.len] at h2; omega
 refine X_skip ?_
 refine at_then ?_
 refine zR ?_
 refine zM ?_
 refine zM ?_
 refine zM ?_
 refine XO_callM (cap := []) (vs := [_, _, _]) rfl rfl fun_12 .nil (w_From hP (by omega) hT (by omega) hV (by omega) hvl) rfl rfl ?_
 rintro vv1 I1 L1 hI1 ⟨rfl, fa1, fc1, rfl, hs1, hS1⟩
 have hP := hP.mono hI1; have hT := hT.mono hI1; have hV := hV.mono hI1; have hC := hC.mono hI1; have hIc := hIc.trans hI1
 refine zM ?_
 refine XO_v0 (ev_extract rfl rfl) rfl rfl rfl ?_
 refine XO_v0 (ev_extract rfl rfl) rfl rfl rfl ?_
 refine zA ?_
 refine zA ?_
 refine zN ?_
 refine X_seq ?_
 refine zR ?_
 refine zM ?_
 refine zC ?_
 refine zN ?_
 refine X_cond rfl (fun hc52 => ?_) (fun hc52 => ?_)
 ·
  have hE : fromE ps tg has ≠ 0 := by simpa using hc52
  refine zR ?_
  refine zM ?_
  refine XO_v0 (ev_lenS rfl slt_27) rfl rfl rfl ?_
  refine zC ?_
  refine zA ?_
  refine zN ?_
  refine X_ret ?_
  refine at_then_r ?_
  first
  | exact at_ret1 rfl rfl (fun w hw => ⟨by rw [fromR_no hE]; rfl, (hw.mono hIc).drop⟩)
 have hE : fromE ps tg has = 0 := by simpa using hc52
 have hfl := fromR_len ps tg has
 obtain ⟨hL, hTv, hVv, hcE, hcF⟩ := fromE_ver hE
 refine X_skip ?_
 refine at_then ?_
 refine zR ?_
 refine zM ?_
 refine XO_v0 (ev_fieldAddr rfl fld_33_5) rfl rfl rfl ?_
 refine zS szt_27 ?_
 refine zN ?_
 refine X_seq ?_
 refine X_seq ?_
 refine X_freeze .here (fun I2 hI2 hb2 => ?_)
 have hP := hP.mono hI2; have hT := hT.mono hI2; have hV := hV.mono hI2; have hC := hC.mono hI2; have hS1 := hS1.mono hI2; have hIc := hIc.trans hI2
 obtain ⟨xx, hxx⟩ : ∃ y, y = (⟨x.a, x.n, x.c, x.st, x.da, x.lo, x.ru, fa1, (fromR ps tg has).length, fc1⟩ : CH) := ⟨_, rfl⟩
 obtain ⟨mx, hmx⟩ : ∃ y, y = (⟨cr.days, cr.st, cr.da, cr.lo, cr.ru, (fromR ps tg has)⟩ : Cr) := ⟨_, rfl⟩
 have h8 : ImmC I2 b_8 (.cells (encCH xx).toArray 33 (0, 0)) := ImmC.of (show _ = some (Obj.cells (encCH xx).toArray 33 (0, 0)) by rw [hxx]; exact hb2)
 have hC2 : CrAt I2 xx mx := by rw [hxx, hmx]; exact ⟨hC.1, hC.2.1, hC.2.2.1, hC.2.2.2.1, hC.2.2.2.2.1, ⟨hs1, hS1⟩⟩
 have hxn : xx.n = x.n := by rw [hxx]
 have hms : mx.ss = (fromR ps tg has) := by rw [hmx]
 have hxa : xx.a = x.a := by rw [hxx]
 have hlD : mx.days.length = xx.n := hC2.1.len
 refine X_region ?_
 refine XO_v0 (ev_loadA rfl agt_33 (fun hg => by exact Cells.immC (vs := encCH xx) h8) rfl) rfl rfl rfl ?_
 refine XO_callV0 (cap := []) (vs := [_]) rfl rfl fun_29 (w_right40 hC2) rfl rfl ?_
 refine XO_v0 (ev_not rfl) rfl rfl rfl ?_
 refine zN ?_
 refine X_cond rfl (fun hc60 => ?_) (fun hc60 => ?_)
 ·
  refine zR ?_
  refine zA ?_
  refine zN ?_
  refine X_ret ?_
  refine at_then_r ?_
  exact at_ret1 rfl rfl (fun w hw => ⟨by rfl, (hw.mono hIc).drop⟩)
 have hrq : fewC mx = true ∧ chkC mx = 0 := by have h := hc60; simp at h; exact h
 have hk0m := hrq.2
 obtain ⟨hr, h16, h8m, hwh, hpf⟩ := chkC_0 hk0m
 have hnd2 : ∀ s ∈ mx.ss, s.needs.length ≤ 100000 := fun s hs => Nat.le_trans ((few_bd hrq.1).2.2 s hs).2 (by decide)
 refine X_skip ?_
 refine at_then ?_
 refine zR ?_
 refine XO_v0 (ev_loadA rfl agt_33 (fun hg => by exact Cells.immC (vs := encCH xx) h8) rfl) rfl rfl rfl ?_
 refine XO_callM (cap := []) (vs := [_]) rfl rfl fun_18 .nil (w_Plan hC2 hnd2) rfl rfl ?_
 rintro vv3 I3 L3 hI3 ⟨rfl, pa1, pc1, rfl, hPl⟩
 have hP := hP.mono hI3; have hT := hT.mono hI3; have hV := hV.mono hI3; have hC := hC.mono hI3; have hS1 := hS1.mono hI3; have h8 := h8.mono hI3; have hC2 := hC2.mono hI3; have hIc := hIc.trans hI3
 rw [List.nil_append]
 refine zM ?_
 refine XO_v0 (ev_extract rfl rfl) rfl rfl rfl ?_
 refine XO_v0 (ev_extract rfl rfl) rfl rfl rfl ?_
 refine XO_v0 (ev_extract rfl rfl) rfl rfl rfl ?_
 refine zA ?_
 refine zA ?_
 refine zA ?_
 refine zN ?_
 refine X_seq ?_
 refine zR ?_
 refine zM ?_
 refine zC ?_
 refine zM ?_
 refine XO_pushF 2 rfl rfl rfl ?_
 refine XO_v1 (ev_move rfl) (.some rfl rfl rfl rfl gbf) rfl rfl rfl ?_
 refine XO_v1 (ev_move rfl) (.some rfl rfl rfl rfl gbf) rfl rfl rfl ?_
 refine XO_pushT 4 rfl rfl rfl ?_
 refine XO_v1 (ev_move rfl) (.some rfl rfl rfl rfl gbt) rfl rfl rfl ?_
 refine XO_v1 (ev_lenS rfl slt_23) (.some rfl rfl rfl rfl gbt) rfl rfl rfl ?_
 refine XO_v1 (ev_move rfl) (.some rfl rfl rfl rfl gbt) rfl rfl rfl ?_
 refine XO_v1 (ev_lenS rfl slt_27) (.some rfl rfl rfl rfl gbt) rfl rfl rfl ?_
 refine XO_v1 (ev_cmp rfl rfl rfl) (.some rfl rfl rfl rfl gbt) rfl rfl rfl ?_
 refine XO_and1 rfl rfl rfl (.some rfl rfl rfl rfl gbf) rfl rfl ?_
 refine XO_or0 rfl rfl rfl rfl rfl ?_
 refine zN ?_
 refine X_cond rfl (fun hc78 => ?_) (fun hc78 => ?_)
 ·
  exact absurd hc78 (plan_chk hk0m (by rw [hms]))
 refine X_skip ?_
 refine at_then ?_
 refine X_seq ?_
 refine zR ?_
 refine zM ?_
 refine XO_v0 (ev_not rfl) rfl rfl rfl ?_
 refine zN ?_
 refine X_cond rfl (fun hc80 => ?_) (fun hc80 => ?_)
 ·
  refine zR ?_
  refine zA ?_
  refine zN ?_
  refine X_ret ?_
  refine at_then_r ?_
  exact at_ret1 rfl rfl (fun w hw => ⟨by rfl, (hw.mono hIc).drop⟩)
 have hpo : planO mx = true := by simpa using hc80
 obtain ⟨hpl1, hpin, hpb⟩ := plan_facts hk0m hpo
 have hpN : (planL mx).length = (fromR ps tg has).length := by rw [hpl1, hms]
 have hpK : (planL mx).length = (keptP ps tg has).length := by rw [hpN, fromR_0 hE]; exact sesL_len _ _ _
 refine X_skip ?_
 refine at_then ?_
 refine zR ?_
 refine zA ?_
 refine zN ?_
 refine X_seq ?_
 refine zR ?_
 refine zM ?_
 refine XO_v0 (ev_lenS rfl slt_24) rfl rfl rfl ?_
 refine zM ?_
 refine zN ?_
 refine X_block ?_
 refine X_loopT [(0, _), (1, _), (4, _), (8, _), (11, _), (13, _), (81, _), (82, _)] (.cons rfl (.cons rfl (.cons rfl (.cons rfl (.cons rfl (.cons rfl (.cons rfl (.cons rfl .nil)))))))) (fun T L0 mz E I' loc' => ∃ (k : Nat) (v : Value) (L : Go.Kn.Loc) (rs : List Nat) (ms : List SM), mz = n3 - k ∧ E = (16, v) :: (83, .int .i64 k) :: T ∧ I3 = I' ∧ L ++ mapsL rs ms = loc' ∧ k ≤ n3 ∧ OwnS 56 1 v k (rs.flatMap encM) L ∧ rs.length = k ∧ Sts (has.take k) (fun _ v x => stP tg v [] x) ms) _ _ _ _ ⟨0, _, [], [], [], rfl, rfl, rfl, rfl, Nat.zero_le _, OwnS.nil, rfl, Sts.nil⟩ (.cons rfl (.cons rfl (.cons rfl (.cons rfl (.cons rfl (.cons rfl (.cons rfl (.cons rfl (.cons rfl (.cons rfl .nil)))))))))) (HLe.refl _) rfl ?_
 rintro mz E I' loc' ⟨k, v, L, rs, ms, rfl, rfl, rfl, rfl, hk, hO, hrl, hSt⟩
 refine zR ?_
 refine zC ?_
 refine zN ?_
 refine X_seq ?_
 refine X_cond rfl (fun hc84 => ?_) (fun hc84 => ?_)
 ·
  have hlt_k : k < n3 := by have h := hc84; simp at h; omega
  obtain ⟨h0, v0, hh0, hv0, hS0⟩ := hV.at hlt_k
  have hv0l := hfew.2.2.2.1 v0 (List.mem_of_getElem? hv0)
  have hl0 := hS0.len
  refine X_skip ?_
  refine at_then ?_
  refine X_seq ?_
  refine X_block ?_
  refine zR ?_
  refine XO_v0 (ev_indexSl rfl rfl slt_24 hV.1 (fun hg => by omega)) rfl rfl rfl ?_
  refine XO_v0 (ev_load rfl sct_23 (fun hg => by exact Sl.get0 hV.1 hh0 rfl)) rfl rfl rfl ?_
  refine zA ?_
  refine zN (zR ?_)
  refine XO_makeMap rfl rfl (fun r_87 => ?_)
  refine zA ?_
  refine zN ?_
  refine X_seq ?_
  refine zR ?_
  refine zM ?_
  refine XO_v0 (ev_lenS rfl slt_23) rfl rfl rfl ?_
  refine zM ?_
  refine zN ?_
  refine X_block ?_
  refine X_loopT [(0, _), (1, _), (4, _), (8, _), (11, _), (13, _), (16, _), (19, _), (81, _), (82, _), (83, _), (88, _), (89, _)] (.cons rfl (.cons rfl (.cons rfl (.cons rfl (.cons rfl (.cons rfl (.cons rfl (.cons rfl (.cons rfl (.cons rfl (.cons rfl (.cons rfl (.cons rfl .nil))))))))))))) (fun T L0 mz E I' loc' => ∃ (j : Nat) (m : SM), mz = h0.n - j ∧ E = (90, .int .i64 j) :: T ∧ I3 = I' ∧ (r_87, Kn.setO m.1 m.2) :: (L ++ mapsL rs ms) = loc' ∧ j ≤ h0.n ∧ SetL m (v0.take j)) _ _ _ _ ⟨0, ([], 0), rfl, rfl, rfl, rfl, Nat.zero_le _, by rw [List.take_zero]; exact SetL.nil⟩ (.cons rfl (.cons rfl (.cons rfl (.cons rfl (.cons rfl (.cons rfl (.cons rfl (.cons rfl (.cons rfl (.cons rfl (.cons rfl (.cons rfl (.cons rfl (.cons rfl .nil)))))))))))))) (HLe.refl _) rfl ?_
  rintro mz E I' loc' ⟨j, m, rfl, rfl, rfl, rfl, hj, hm⟩
  refine zR ?_
  refine zC ?_
  refine zN ?_
  refine X_seq ?_
  refine X_cond rfl (fun hc91 => ?_) (fun hc91 => ?_)
  ·
   have hlt_j : j < h0.n := by have h := hc91; simp at h; omega
   obtain ⟨x0, hx0⟩ := hS0.at hlt_j
   refine X_skip ?_
   refine at_then ?_
   refine X_seq ?_
   refine X_block ?_
   refine zR ?_
   refine XO_v0 (ev_indexSl rfl rfl slt_23 (by assumption) (fun hg => by omega)) rfl rfl rfl ?_
   refine XO_v0 (ev_load rfl sct_3 (fun hg => by exact Sl.get0 hS0 hx0 rfl)) rfl rfl rfl ?_
   refine zA ?_
   refine zN ?_
   refine X_region ?_
   refine zM ?_
   refine zM ?_
   refine XO_putS (m := m.1) (c := m.2) (a := x0) mpt_56 und_3 rfl rfl rfl rfl .here ?_
   refine XO_nil ?_
   refine at_block_n ?_
   refine at_then ?_
   refine X_region ?_
   refine zB ?_
   refine zM ?_
   refine XO_nil ?_
   exact at_met2 _ _ ⟨h0.n - (j + 1), by omega, j + 1, _, rfl, rfl, rfl, rfl, by omega, hm.put hx0⟩ (.cons rfl (.cons rfl (.cons rfl (.cons rfl (.cons rfl (.cons rfl (.cons rfl (.cons rfl (.cons rfl (.cons rfl (.cons rfl (.cons rfl (.cons rfl (.cons rfl .nil)))))))))))))) (by repeat (first | exact .refl | exact subL_left | refine subL_app ?_ | refine .drop ?_ | refine subL_add ?_))
  have hge_j : h0.n ≤ j := by have h := hc91; simp at h; omega
  have hm := hm.full (by omega)
  refine X_exit ?_
  refine at_then_e ?_
  refine at_then_e ?_
  refine at_block_hit ?_
  refine at_then ?_
  refine X_region ?_
  refine zM ?_
  refine zM ?_
  refine XO_buildSlice (ps := [(0, _)]) (m := [encM r_87]) elt_55 rfl (.cons rfl (.nil)) rfl (by simp [encM_len]) (by decide) (by decide) rfl rfl (fun b_99 => ?_)
  refine XO_append (v := _) (ys := [r_87].flatMap encM) (L := L) rfl rfl elt_55 hO (by repeat (first | exact .cons .here .nil | exact split_all | exact split_app | apply split_cons | apply split_skip)) ⟨rfl, fun _ => rfl, by repeat (first | exact Cells.here | apply Cells.there | apply Cells.app)⟩ (one_M [r_87]) (by omega) rfl rfl ?_
  intro v9 L9 hO9 _; rw [← List.flatMap_append] at hO9
  refine zA ?_
  refine XO_nil ?_
  refine at_block_n ?_
  refine at_then ?_
  refine X_region ?_
  refine zB ?_
  refine zM ?_
  refine XO_nil ?_
  exact at_metP _ _ (L9 ++ ((r_87, Kn.setO m.1 m.2) :: mapsL rs ms)) ⟨n3 - (k + 1), by omega, k + 1, _, L9, rs ++ [r_87], ms ++ [m], rfl, rfl, rfl, rfl, by omega, hO9, by rw [List.length_append, hrl]; rfl, hSt.snoc (st_nil tg v0) hv0 hm⟩ (.cons rfl (.cons rfl (.cons rfl (.cons rfl (.cons rfl (.cons rfl (.cons rfl (.cons rfl (.cons rfl (.cons rfl .nil)))))))))) (mapsL_perm L9 r_87 m (by rw [hrl, hSt.1, List.length_take]; omega)) (by repeat (first | exact .refl | exact subL_left | refine subL_app ?_ | refine .drop ?_ | refine subL_add ?_))
 have hge_k : n3 ≤ k := by have h := hc84; simp at h; omega
 have hSt := hSt.full (by omega)
 have hke : k = n3 := by omega
 refine X_exit ?_
 refine at_then_e ?_
 refine at_then_e ?_
 refine at_block_hit ?_
 refine at_then ?_
 refine X_seq ?_
 refine X_freezeO hO encM_len (by decide) (by repeat (first | exact .cons .here .nil | exact split_all | exact split_app | apply split_cons | apply split_skip)) (fun I6 hI6 af6 cf6 ef6 hSs => ?_)
 subst ef6
 have hP := hP.mono hI6; have hT := hT.mono hI6; have hV := hV.mono hI6; have hC := hC.mono hI6; have hS1 := hS1.mono hI6; have h8 := h8.mono hI6; have hC2 := hC2.mono hI6; have hPl := hPl.mono hI6; have hIc := hIc.trans hI6
 refine X_region ?_
 refine XO_makeMap rfl rfl (fun r_102 => ?_)
 refine zA ?_
 refine zN ?_
 refine X_seq ?_
 refine zR ?_
 refine zM ?_
 refine XO_v0 (ev_lenS rfl slt_23) rfl rfl rfl ?_
 refine zM ?_
 refine zN ?_
 refine X_block ?_
 refine X_loopT [(0, _), (1, _), (4, _), (8, _), (11, _), (13, _), (16, _), (22, _), (103, _), (104, _)] (.cons rfl (.cons rfl (.cons rfl (.cons rfl (.cons rfl (.cons rfl (.cons rfl (.cons rfl (.cons rfl (.cons rfl .nil)))))))))) (fun T L0 mz E I' loc' => ∃ (k : Nat) (gm : SM), mz = n2 - k ∧ E = (105, .int .i64 k) :: T ∧ I6 = I' ∧ (r_102, Kn.setO gm.1 gm.2) :: mapsL rs ms = loc' ∧ k ≤ n2 ∧ SetL gm (tg.take k)) _ _ _ _ ⟨0, ([], 0), rfl, rfl, rfl, rfl, Nat.zero_le _, by rw [List.take_zero]; exact SetL.nil⟩ (.cons rfl (.cons rfl (.cons rfl (.cons rfl (.cons rfl (.cons rfl (.cons rfl (.cons rfl (.cons rfl (.cons rfl (.cons rfl .nil))))))))))) (HLe.refl _) rfl ?_
 rintro mz E I' loc' ⟨k, gm, rfl, rfl, rfl, rfl, hk, hgm⟩
 refine zR ?_
 refine zC ?_
 refine zN ?_
 refine X_seq ?_
 refine X_cond rfl (fun hc106 => ?_) (fun hc106 => ?_)
 ·
  have hlt_k : k < n2 := by have h := hc106; simp at h; omega
  obtain ⟨t0, ht0⟩ := hT.at hlt_k
  refine X_skip ?_
  refine at_then ?_
  refine X_seq ?_
  refine X_block ?_
  refine zR ?_
  refine XO_v0 (ev_indexSl rfl rfl slt_23 (by assumption) (fun hg => by omega)) rfl rfl rfl ?_
  refine XO_v0 (ev_load rfl sct_3 (fun hg => by exact Sl.get0 hT ht0 rfl)) rfl rfl rfl ?_
  refine zA ?_
  refine zN ?_
  refine X_region ?_
  refine zM ?_
  refine zM ?_
  refine XO_putS (m := gm.1) (c := gm.2) (a := t0) mpt_56 und_3 rfl rfl rfl rfl .here ?_
  refine XO_nil ?_
  refine at_block_n ?_
  refine at_then ?_
  refine X_region ?_
  refine zB ?_
  refine zM ?_
  refine XO_nil ?_
  exact at_met2 _ _ ⟨n2 - (k + 1), by omega, k + 1, _, rfl, rfl, rfl, rfl, by omega, hgm.put ht0⟩ (.cons rfl (.cons rfl (.cons rfl (.cons rfl (.cons rfl (.cons rfl (.cons rfl (.cons rfl (.cons rfl (.cons rfl (.cons rfl .nil))))))))))) (by repeat (first | exact .refl | exact subL_left | refine subL_app ?_ | refine .drop ?_ | refine subL_add ?_))
 have hge_k : n2 ≤ k := by have h := hc106; simp at h; omega
 have hgm := hgm.full (by omega)
 refine X_exit ?_
 refine at_then_e ?_
 refine at_then_e ?_
 refine at_block_hit ?_
 refine at_then ?_
 refine X_seq ?_
 refine X_seq ?_
 refine X_freeze .here (fun I8 hI8 hb8 => ?_)
 have hP := hP.mono hI8; have hT := hT.mono hI8; have hV := hV.mono hI8; have hC := hC.mono hI8; have hS1 := hS1.mono hI8; have h8 := h8.mono hI8; have hC2 := hC2.mono hI8; have hPl := hPl.mono hI8; have hSs := hSs.mono hI8; have hIc := hIc.trans hI8
 have hG : ImmS I8 r_102 gm := hb8
 refine X_region ?_
 refine XO_v0 (ev_fieldAddr rfl fld_33_0) rfl rfl rfl ?_
 refine XO_v0 (ev_load rfl sct_23 (fun hg => by exact Cell.imm h8 rfl)) rfl rfl rfl ?_
 refine XO_v0 (ev_lenS rfl slt_23) rfl rfl rfl ?_
 refine zM ?_
 refine zN ?_
 refine X_block ?_
 refine X_loopT [(0, _), (1, _), (4, _), (11, _), (13, _), (16, _), (22, _), (114, _)] (.cons rfl (.cons rfl (.cons rfl (.cons rfl (.cons rfl (.cons rfl (.cons rfl (.cons rfl .nil)))))))) (fun T L0 mz E I' loc' => ∃ (d : Nat) (dn : List Int) (ms : List SM), mz = xx.n - d ∧ E = (115, .int .i64 d) :: T ∧ I8 = I' ∧ mapsL rs ms = loc' ∧ d ≤ xx.n ∧ Sts has (fun _ v x => stP tg v dn x) ms ∧ DnI tg (keptP ps tg has) (planL mx) back (d : Int) 0 dn) _ _ _ _ ⟨0, [], ms, rfl, rfl, rfl, rfl, Nat.zero_le _, hSt, DnI.zero fun d hd => (hpin d hd).1⟩ (.cons rfl (.cons rfl (.cons rfl (.cons rfl (.cons rfl (.cons rfl (.cons rfl (.cons rfl (.cons rfl .nil))))))))) (HLe.refl _) rfl ?_
 rintro mz E I' loc' ⟨d, dn, ms, rfl, rfl, rfl, rfl, hd, hSt, hDn⟩
 refine zR ?_
 refine zC ?_
 refine zN ?_
 refine X_seq ?_
 refine X_cond rfl (fun hc116 => ?_) (fun hc116 => ?_)
 ·
  have hlt_d : d < xx.n := by have h := hc116; simp at h; omega
  refine X_skip ?_
  refine at_then ?_
  refine X_seq ?_
  refine X_block ?_
  refine zR ?_
  refine zM ?_
  refine zA ?_
  refine zN (zR ?_)
  refine zM ?_
  refine XO_v0 (ev_lenS rfl slt_27) rfl rfl rfl ?_
  refine zM ?_
  refine zN ?_
  refine X_block ?_
  refine X_loopT [(0, _), (1, _), (4, _), (11, _), (13, _), (16, _), (22, _), (25, _), (114, _), (115, _), (119, _)] (.cons rfl (.cons rfl (.cons rfl (.cons rfl (.cons rfl (.cons rfl (.cons rfl (.cons rfl (.cons rfl (.cons rfl (.cons rfl .nil))))))))))) (fun T L0 mz E I' loc' => ∃ (i : Nat) (dn : List Int) (ms : List SM), mz = (fromR ps tg has).length - i ∧ E = (120, .int .i64 i) :: T ∧ I8 = I' ∧ mapsL rs ms = loc' ∧ i ≤ (fromR ps tg has).length ∧ Sts has (fun _ v x => stP tg v dn x) ms ∧ DnI tg (keptP ps tg has) (planL mx) back (d : Int) i dn) _ _ _ _ ⟨0, dn, ms, rfl, rfl, rfl, rfl, Nat.zero_le _, hSt, hDn⟩ (.cons rfl (.cons rfl (.cons rfl (.cons rfl (.cons rfl (.cons rfl (.cons rfl (.cons rfl (.cons rfl (.cons rfl (.cons rfl (.cons rfl .nil)))))))))))) (HLe.refl _) rfl ?_
  rintro mz E I' loc' ⟨i, dn, ms, rfl, rfl, rfl, rfl, hi, hSt, hDn⟩
  refine zR ?_
  refine zC ?_
  refine zN ?_
  refine X_seq ?_
  refine X_cond rfl (fun hc121 => ?_) (fun hc121 => ?_)
  ·
   have hlt_i : i < (fromR ps tg has).length := by have h := hc121; simp at h; omega
   refine X_skip ?_
   refine at_then ?_
   refine X_seq ?_
   refine X_block ?_
   refine zR ?_
   refine zM ?_
   refine zA ?_
   refine zN (zR ?_)
   refine zM ?_
   refine zA ?_
   refine zN ?_
   refine X_cutT [(0, _), (1, _), (4, _), (11, _), (13, _), (16, _), (22, _), (25, _), (114, _), (115, _), (119, _), (120, _)] (.cons rfl (.cons rfl (.cons rfl (.cons rfl (.cons rfl (.cons rfl (.cons rfl (.cons rfl (.cons rfl (.cons rfl (.cons rfl (.cons rfl .nil)))))))))))) (fun T L0 E I' loc' => ∃ (kk : Int), E = (27, .int .i64 kk) :: T ∧ I8 = I' ∧ mapsL rs ms = loc' ∧ kk = ((plc back (planL mx).length i : Nat) : Int)) ?_ ?_
   ·
    refine zR ?_
    refine zM ?_
    refine zN ?_
    refine X_cond rfl (fun hc124 => ?_) (fun hc124 => ?_)
    ·
     refine X_region ?_
     refine zM ?_
     refine XO_v0 (ev_lenS rfl slt_27) rfl rfl rfl ?_
     refine zB ?_
     refine zM ?_
     refine zB ?_
     refine zA ?_
     refine XO_nil ?_
     first
     | exact at_met2 _ _ ⟨_, rfl, rfl, rfl, by rw [hc124, hpN]; exact plc_t (by omega)⟩ (.cons rfl (.cons rfl (.cons rfl (.cons rfl (.cons rfl (.cons rfl (.cons rfl (.cons rfl (.cons rfl (.cons rfl (.cons rfl (.cons rfl (.cons rfl .nil))))))))))))) (by repeat (first | exact .refl | exact subL_left | refine subL_app ?_ | refine .drop ?_ | refine subL_add ?_))
    refine X_skip ?_
    first
    | exact at_met2 _ _ ⟨_, rfl, rfl, rfl, by rw [hc124]; exact plc_f _ _⟩ (.cons rfl (.cons rfl (.cons rfl (.cons rfl (.cons rfl (.cons rfl (.cons rfl (.cons rfl (.cons rfl (.cons rfl (.cons rfl (.cons rfl (.cons rfl .nil))))))))))))) (by repeat (first | exact .refl | exact subL_left | refine subL_app ?_ | refine .drop ?_ | refine subL_add ?_))
   rintro E I' loc' ⟨kk, rfl, rfl, rfl, hkk⟩
   subst hkk
   obtain ⟨e, he⟩ := hPl.at (plc_lt (back := back) (show i < (planL mx).length by omega))
   have hplc := plc_lt (back := back) (show i < (planL mx).length by omega)
   refine X_seq ?_
   refine zR ?_
   refine zM ?_
   refine zM ?_
   refine XO_v0 (ev_indexSl rfl rfl slt_23 hPl (fun hg => by omega)) rfl rfl rfl ?_
   refine XO_v0 (ev_load rfl sct_3 (fun hg => by exact Sl.get0 hPl he rfl)) rfl rfl rfl ?_
   refine zM ?_
   refine zC ?_
   refine zN ?_
   refine X_cond rfl (fun hc135 => ?_) (fun hc135 => ?_)
   ·
    have hne : e ≠ (d : Int) := by simpa using hc135
    refine X_exit ?_
    refine at_then_e ?_
    refine at_block_hit ?_
    refine at_then ?_
    refine X_region ?_
    refine zB ?_
    refine zM ?_
    refine XO_nil ?_
    exact at_met2 _ _ ⟨(fromR ps tg has).length - (i + 1), by omega, i + 1, dn, ms, rfl, rfl, rfl, rfl, by omega, hSt, hDn.skip (by omega) he hne⟩ (.cons rfl (.cons rfl (.cons rfl (.cons rfl (.cons rfl (.cons rfl (.cons rfl (.cons rfl (.cons rfl (.cons rfl (.cons rfl (.cons rfl .nil)))))))))))) (by repeat (first | exact .refl | exact subL_left | refine subL_app ?_ | refine .drop ?_ | refine subL_add ?_))
   have hee : e = (d : Int) := by simpa using hc135
   subst hee
   obtain ⟨k0, s0, hk0, hs0, hpa, hef, hW, hNd⟩ := hS1.at (k := plc back (planL mx).length i) (by omega)
   obtain ⟨q, hq, hsa, hsw⟩ := from_at (by rw [← fromR_0 hE]; exact hs0)
   rw [hsw] at hW
   have hpid : k0.pa = q.id := hpa.trans hsa
   have hfr := hDn.fresh (by omega) he hq
   have hDn2 := hDn.step hL (by rw [hms, fromR_0 hE]) h8m hpl1 hpin hpb (by omega) he hq
   have hwl := hW.len
   have hwn : k0.n ≤ 1000 := by have h := diffK_len tg has q.id has.length; rw [diffK_all] at h; omega
   refine X_skip ?_
   refine at_then ?_
   refine zR ?_
   refine zM ?_
   refine zM ?_
   refine XO_v0 (ev_indexSl rfl rfl slt_27 hS1.1 (fun hg => by omega)) rfl rfl rfl ?_
   refine XO_v0 (ev_fieldAddr rfl fld_58_2) rfl rfl rfl ?_
   refine XO_v0 (ev_load rfl sct_23 (fun hg => by exact Sl.get hS1.1 hk0 (j := 2) rfl)) rfl rfl rfl ?_
   refine XO_v0 (ev_lenS rfl slt_23) rfl rfl rfl ?_
   refine zM ?_
   refine zN ?_
   refine X_block ?_
   refine X_loopT [(0, _), (1, _), (4, _), (11, _), (13, _), (16, _), (22, _), (25, _), (27, _), (114, _), (115, _), (119, _), (120, _), (140, _), (141, _)] (.cons rfl (.cons rfl (.cons rfl (.cons rfl (.cons rfl (.cons rfl (.cons rfl (.cons rfl (.cons rfl (.cons rfl (.cons rfl (.cons rfl (.cons rfl (.cons rfl (.cons rfl .nil))))))))))))))) (fun T L0 mz E I' loc' => ∃ (j : Nat) (ms : List SM), mz = k0.n - j ∧ E = (142, .int .i64 j) :: T ∧ I8 = I' ∧ mapsL rs ms = loc' ∧ j ≤ k0.n ∧ Sts has (fW tg (diffW tg has q.id) j dn q.id) ms) _ _ _ _ ⟨0, ms, rfl, rfl, rfl, rfl, Nat.zero_le _, hSt.who0 q.id⟩ (.cons rfl (.cons rfl (.cons rfl (.cons rfl (.cons rfl (.cons rfl (.cons rfl (.cons rfl (.cons rfl (.cons rfl (.cons rfl (.cons rfl (.cons rfl (.cons rfl (.cons rfl (.cons rfl .nil)))))))))))))))) (HLe.refl _) rfl ?_
   rintro mz E I' loc' ⟨j, ms, rfl, rfl, rfl, rfl, hj, hSw⟩
   refine zR ?_
   refine zC ?_
   refine zN ?_
   refine X_seq ?_
   refine X_cond rfl (fun hc143 => ?_) (fun hc143 => ?_)
   ·
    have hlt_j : j < k0.n := by have h := hc143; simp at h; omega
    obtain ⟨pI, hpI⟩ := hW.at hlt_j
    obtain ⟨pk, v0, rfl, hv0, hdf⟩ := who_at hpI
    have hpk := (List.getElem?_eq_some_iff.1 hv0).1
    obtain ⟨rk, hrk⟩ : ∃ r, rs[pk]? = some r := ⟨_, List.getElem?_eq_getElem (by omega)⟩
    have hsl := hSw.1
    obtain ⟨m, hm⟩ : ∃ m, ms[pk]? = some m := ⟨_, List.getElem?_eq_getElem (by omega)⟩
    have hMem := mapsL_mem hrk hm
    refine X_skip ?_
    refine at_then ?_
    refine X_seq ?_
    refine X_block ?_
    refine zR ?_
    refine XO_v0 (ev_indexSl rfl rfl slt_23 hW (fun hg => by omega)) rfl rfl rfl ?_
    refine XO_v0 (ev_load rfl sct_3 (fun hg => by exact Sl.get0 hW hpI rfl)) rfl rfl rfl ?_
    refine zA ?_
    refine zN ?_
    refine X_seq ?_
    refine X_seq ?_
    refine X_draw mixed (by kernel_rfl) ?_
    refine XQ_v0 (ev_move rfl) rfl rfl rfl ?_
    refine XQ_v0 (ev_cmp rfl rfl rfl) rfl rfl rfl ?_
    refine XQ_v0 (ev_move rfl) rfl rfl rfl ?_
    refine XQ_pushF 2 rfl rfl rfl ?_
    refine XQ_v1 (ev_move rfl) (.some rfl rfl rfl rfl gbf) rfl rfl rfl ?_
    refine XQ_v1 (ev_move rfl) (.some rfl rfl rfl rfl gbf) rfl rfl rfl ?_
    refine XQ_v1 (ev_lenS rfl slt_55) (.some rfl rfl rfl rfl gbf) rfl rfl rfl ?_
    refine XQ_v1 (ev_cmp rfl rfl rfl) (.some rfl rfl rfl rfl gbf) rfl rfl rfl ?_
    refine XQ_or0 rfl rfl rfl rfl rfl ?_
    refine XQ_v0 (ev_move rfl) rfl rfl rfl ?_
    refine XQ_pushF 8 rfl rfl rfl ?_
    refine XQ_v1 (ev_move rfl) (.some rfl rfl rfl rfl gbf) rfl rfl rfl ?_
    refine XQ_v1 (ev_move rfl) (.some rfl rfl rfl rfl gbf) rfl rfl rfl ?_
    refine XQ_v1 (ev_indexSl rfl rfl slt_55 hSs (fun hg => by omega)) (.some rfl rfl rfl rfl gbf) rfl rfl rfl ?_
    refine XQ_v1 (ev_load rfl sct_56 (fun hg => by exact Sl.get0 hSs hrk rfl)) (.some rfl rfl rfl rfl gbf) rfl rfl rfl ?_
    refine XQ_v1 (ev_move rfl) (.some rfl rfl rfl rfl gbf) rfl rfl rfl ?_
    refine XQ_v1 (ev_move rfl) (.some rfl rfl rfl rfl gbf) rfl rfl rfl ?_
    refine XQ_v1 (ev_indexSl rfl rfl slt_27 hS1.1 (fun hg => by omega)) (.some rfl rfl rfl rfl gbf) rfl rfl rfl ?_
    refine XQ_v1 (ev_fieldAddr rfl fld_58_0) (.some rfl rfl rfl rfl gbf) rfl rfl rfl ?_
    refine XQ_v1 (ev_load rfl sct_3 (fun hg => by exact Sl.get hS1.1 hk0 (j := 0) rfl)) (.some rfl rfl rfl rfl gbf) rfl rfl rfl ?_
    refine XQ_v1 (ev_lookupS (m := m.1) (c := m.2) (a := k0.pa) mpt_56 und_3 rfl rfl (fun _ => .inr hMem)) (.some rfl rfl rfl rfl gbf) rfl rfl rfl ?_
    refine XQ_v1 (ev_move rfl) (.some rfl rfl rfl rfl gbf) rfl rfl rfl ?_
    refine XQ_v1 (ev_move rfl) (.some rfl rfl rfl rfl gbf) rfl rfl rfl ?_
    refine XQ_v1 (ev_move rfl) (.some rfl rfl rfl rfl gbf) rfl rfl rfl ?_
    refine XQ_v1 (ev_indexSl rfl rfl slt_27 hS1.1 (fun hg => by omega)) (.some rfl rfl rfl rfl gbf) rfl rfl rfl ?_
    refine XQ_v1 (ev_fieldAddr rfl fld_58_0) (.some rfl rfl rfl rfl gbf) rfl rfl rfl ?_
    refine XQ_v1 (ev_load rfl sct_3 (fun hg => by exact Sl.get hS1.1 hk0 (j := 0) rfl)) (.some rfl rfl rfl rfl gbf) rfl rfl rfl ?_
    refine XQ_v1 (ev_lookupS (m := gm.1) (c := gm.2) (a := k0.pa) mpt_56 und_3 rfl rfl (fun _ => .inl hG)) (.some rfl rfl rfl rfl gbf) rfl rfl rfl ?_
    refine XQ_v1 (ev_boolR rfl rfl und_4) (.some rfl rfl rfl rfl gbf) rfl rfl rfl ?_
    refine XQ_or0 rfl rfl rfl rfl rfl ?_
    refine XQ_nil ?_
    refine at_then ?_
    refine X_cond rfl (fun hc173 => ?_) (fun hc173 => ?_)
    ·
     exact absurd hc173 (by rw [hpid]; exact who_no (by omega) (by omega) (hgm.dec q.id) (who_diff hSw hpI hv0 hdf hm hfr))
    refine X_skip ?_
    refine at_then ?_
    refine X_cutT [(0, _), (1, _), (4, _), (11, _), (13, _), (16, _), (22, _), (25, _), (27, _), (29, _), (114, _), (115, _), (119, _), (120, _), (140, _), (141, _), (142, _)] (.cons rfl (.cons rfl (.cons rfl (.cons rfl (.cons rfl (.cons rfl (.cons rfl (.cons rfl (.cons rfl (.cons rfl (.cons rfl (.cons rfl (.cons rfl (.cons rfl (.cons rfl (.cons rfl (.cons rfl .nil))))))))))))))))) (fun T L0 E I' loc' => ∃ (m2 : SM), E = T ∧ I8 = I' ∧ mapsL rs (ms.set pk m2) = loc' ∧ Sts has (fW tg (diffW tg has q.id) (j + 1) dn q.id) (ms.set pk m2)) ?_ ?_
    ·
     refine zR ?_
     refine zM ?_
     refine zM ?_
     refine zM ?_
     refine XO_v0 (ev_indexSl rfl rfl slt_27 hS1.1 (fun hg => by omega)) rfl rfl rfl ?_
     refine XO_v0 (ev_fieldAddr rfl fld_58_0) rfl rfl rfl ?_
     refine XO_v0 (ev_load rfl sct_3 (fun hg => by exact Sl.get hS1.1 hk0 (j := 0) rfl)) rfl rfl rfl ?_
     refine XO_v0 (ev_lookupS (m := gm.1) (c := gm.2) (a := k0.pa) mpt_56 und_3 rfl rfl (fun _ => .inl hG)) rfl rfl rfl ?_
     refine zN ?_
     refine X_cond rfl (fun hc180 => ?_) (fun hc180 => ?_)
     ·
      have ht180 : tg.contains q.id = true := by rw [← hgm.dec q.id, ← hpid]; exact hc180
      have hD := HLe.refl I8
      refine X_noP ?_
      refine X_drawS I8 [] mixed ?_
      refine zT 0 rfl (ev_move rfl) hD ?_
      refine zT 1 rfl (ev_move rfl) hD ?_
      refine zT 2 rfl (ev_indexSl rfl rfl slt_55 hSs (fun hg => by omega)) hD ?_
      refine zT 3 rfl (ev_load rfl sct_56 (fun hg => by exact Sl.get0 hSs hrk rfl)) hD ?_
      refine zT 4 rfl (ev_move rfl) hD ?_
      refine zT 5 rfl (ev_move rfl) hD ?_
      refine zT 6 rfl (ev_indexSl rfl rfl slt_27 hS1.1 (fun hg => by omega)) hD ?_
      refine zT 7 rfl (ev_fieldAddr rfl fld_58_0) hD ?_
      refine zT 8 rfl (ev_load rfl sct_3 (fun hg => by exact Sl.get hS1.1 hk0 (j := 0) rfl)) hD ?_
      refine XD_one 9 rfl (by kernel_rfl) ?_
      refine XO_putS (m := m.1) (c := m.2) (a := k0.pa) mpt_56 und_3 rfl rfl rfl rfl (mapsL_upd0 _ hrk hm) ?_
      refine XO_nil ?_
      refine zD hD ?_
      refine XD_done (by kernel_rfl) ?_
      refine at_noP ?_
      first
      | exact at_met2 _ _ ⟨sput m.1 m.2 k0.pa, rfl, rfl, rfl, by rw [hpid]; exact who_put hSw hpI hv0 hm ht180⟩ (.cons rfl (.cons rfl (.cons rfl (.cons rfl (.cons rfl (.cons rfl (.cons rfl (.cons rfl (.cons rfl (.cons rfl (.cons rfl (.cons rfl (.cons rfl (.cons rfl (.cons rfl (.cons rfl (.cons rfl .nil))))))))))))))))) (by repeat (first | exact .refl | exact subL_left | refine subL_app ?_ | refine .drop ?_ | refine subL_add ?_))
     have ht180 : tg.contains q.id = false := by rw [← hgm.dec q.id, ← hpid]; exact hc180
     have hD := HLe.refl I8
     refine X_noP ?_
     refine X_drawS I8 [] mixed ?_
     refine zT 0 rfl (ev_move rfl) hD ?_
     refine zT 1 rfl (ev_move rfl) hD ?_
     refine zT 2 rfl (ev_indexSl rfl rfl slt_55 hSs (fun hg => by omega)) hD ?_
     refine zT 3 rfl (ev_load rfl sct_56 (fun hg => by exact Sl.get0 hSs hrk rfl)) hD ?_
     refine zT 4 rfl (ev_move rfl) hD ?_
     refine zT 5 rfl (ev_move rfl) hD ?_
     refine zT 6 rfl (ev_indexSl rfl rfl slt_27 hS1.1 (fun hg => by omega)) hD ?_
     refine zT 7 rfl (ev_fieldAddr rfl fld_58_0) hD ?_
     refine zT 8 rfl (ev_load rfl sct_3 (fun hg => by exact Sl.get hS1.1 hk0 (j := 0) rfl)) hD ?_
     refine XD_one 9 rfl (by kernel_rfl) ?_
     refine XO_delS (m := m.1) (c := m.2) (a := k0.pa) mpt_56 und_3 rfl rfl rfl (mapsL_upd0 (sdel m.1 k0.pa, m.2) hrk hm) ?_
     refine XO_nil ?_
     refine zD hD ?_
     refine XD_done (by kernel_rfl) ?_
     refine at_noP ?_
     first
     | exact at_met2 _ _ ⟨(sdel m.1 k0.pa, m.2), rfl, rfl, rfl, by rw [hpid]; exact who_del hSw hpI hv0 hm ht180⟩ (.cons rfl (.cons rfl (.cons rfl (.cons rfl (.cons rfl (.cons rfl (.cons rfl (.cons rfl (.cons rfl (.cons rfl (.cons rfl (.cons rfl (.cons rfl (.cons rfl (.cons rfl (.cons rfl (.cons rfl .nil))))))))))))))))) (by repeat (first | exact .refl | exact subL_left | refine subL_app ?_ | refine .drop ?_ | refine subL_add ?_))
    rintro E I' loc' ⟨m2, rfl, rfl, rfl, hSw⟩
    have hm2 := get_set_self m2 hm
    obtain ⟨R2, hsp2⟩ := mapsL_one hrk hm2
    refine zR ?_
    refine zM ?_
    refine zM ?_
    refine zM ?_
    refine XO_v0 (ev_indexSl rfl rfl slt_55 hSs (fun hg => by omega)) rfl rfl rfl ?_
    refine XO_v0 (ev_load rfl sct_56 (fun hg => by exact Sl.get0 hSs hrk rfl)) rfl rfl rfl ?_
    refine XO_callK0 (cap := []) (L := [(rk, Kn.setO m2.1 m2.2)]) (vs := [_, _]) rfl rfl fun_34 hsp2 (RetK.ofV fun I9 hI9 hb9 => w_closed (hP.mono hI9) (by omega) hnd (show ImmS I9 rk m2 from hb9 _ _ (List.mem_singleton.2 rfl))) rfl rfl ?_
    refine XO_v0 (ev_not rfl) rfl rfl rfl ?_
    refine zN ?_
    refine X_cond rfl (fun hc205 => ?_) (fun hc205 => ?_)
    ·
     exact absurd hc205 (by rw [who_closed hL hTv hVv hSw hv0 hm2 hDn.sub hDn.ok hDn2.sub hDn2.ok]; decide)
    refine X_skip ?_
    refine at_block_n ?_
    refine at_then ?_
    refine X_region ?_
    refine zB ?_
    refine zM ?_
    refine XO_nil ?_
    exact at_met2 _ _ ⟨k0.n - (j + 1), by omega, j + 1, ms.set pk m2, rfl, rfl, rfl, rfl, by omega, hSw⟩ (.cons rfl (.cons rfl (.cons rfl (.cons rfl (.cons rfl (.cons rfl (.cons rfl (.cons rfl (.cons rfl (.cons rfl (.cons rfl (.cons rfl (.cons rfl (.cons rfl (.cons rfl (.cons rfl .nil)))))))))))))))) (by repeat (first | exact .refl | exact subL_left | refine subL_app ?_ | refine .drop ?_ | refine subL_add ?_))
   have hge_j : k0.n ≤ j := by have h := hc143; simp at h; omega
   have hSt2 := hSw.whoN (by omega)
   refine X_exit ?_
   refine at_then_e ?_
   refine at_then_e ?_
   refine at_block_hit ?_
   refine at_block_n ?_
   refine at_then ?_
   refine X_region ?_
   refine zB ?_
   refine zM ?_
   refine XO_nil ?_
   exact at_met2 _ _ ⟨(fromR ps tg has).length - (i + 1), by omega, i + 1, dn ++ [q.id], ms, rfl, rfl, rfl, rfl, by omega, hSt2, hDn2⟩ (.cons rfl (.cons rfl (.cons rfl (.cons rfl (.cons rfl (.cons rfl (.cons rfl (.cons rfl (.cons rfl (.cons rfl (.cons rfl (.cons rfl .nil)))))))))))) (by repeat (first | exact .refl | exact subL_left | refine subL_app ?_ | refine .drop ?_ | refine subL_add ?_))
  have hge_i : (fromR ps tg has).length ≤ i := by have h := hc121; simp at h; omega
  refine X_exit ?_
  refine at_then_e ?_
  refine at_then_e ?_
  refine at_block_hit ?_
  refine at_block_n ?_
  refine at_then ?_
  refine X_region ?_
  refine zB ?_
  refine zM ?_
  refine XO_nil ?_
  exact at_met2 _ _ ⟨xx.n - (d + 1), by omega, d + 1, dn, ms, rfl, rfl, rfl, rfl, by omega, hSt, hDn.day (by omega)⟩ (.cons rfl (.cons rfl (.cons rfl (.cons rfl (.cons rfl (.cons rfl (.cons rfl (.cons rfl (.cons rfl .nil))))))))) (by repeat (first | exact .refl | exact subL_left | refine subL_app ?_ | refine .drop ?_ | refine subL_add ?_))
 have hge_d : xx.n ≤ d := by have h := hc116; simp at h; omega
 have hde : d = mx.days.length := by omega
 subst hde
 have hall := hDn.all hpK hpin
 refine X_exit ?_
 refine at_then_e ?_
 refine at_then_e ?_
 refine at_block_hit ?_
 refine at_then ?_
 refine X_seq ?_
 refine zR ?_
 refine zM ?_
 refine XO_v0 (ev_lenS rfl slt_55) rfl rfl rfl ?_
 refine zM ?_
 refine zN ?_
 refine X_block ?_
 refine X_loopT [(0, _), (1, _), (209, _), (210, _)] (.cons rfl (.cons rfl (.cons rfl (.cons rfl .nil)))) (fun T L0 mz E I' loc' => ∃ (k : Nat), mz = n3 - k ∧ E = (211, .int .i64 k) :: T ∧ HLe I8 I' ∧ mapsL rs ms = loc' ∧ k ≤ n3) _ _ _ _ ⟨0, rfl, rfl, HLe.refl _, rfl, Nat.zero_le _⟩ (.cons rfl (.cons rfl (.cons rfl (.cons rfl (.cons rfl .nil))))) (HLe.refl _) rfl ?_
 rintro mz E J14 loc' ⟨k, rfl, rfl, hJ, rfl, hk⟩
 have hP := hP.mono hJ; have hT := hT.mono hJ; have hV := hV.mono hJ; have hC := hC.mono hJ; have hS1 := hS1.mono hJ; have h8 := h8.mono hJ; have hC2 := hC2.mono hJ; have hPl := hPl.mono hJ; have hSs := hSs.mono hJ; have hG := hG.mono hJ; have hIc := hIc.trans hJ
 have hB12 := hJ
 refine zR ?_
 refine zC ?_
 refine zN ?_
 refine X_seq ?_
 refine X_cond rfl (fun hc212 => ?_) (fun hc212 => ?_)
 ·
  have hlt_k : k < n3 := by have h := hc212; simp at h; omega
  obtain ⟨rk, hrk⟩ : ∃ r, rs[k]? = some r := ⟨_, List.getElem?_eq_getElem (by omega)⟩
  have hsl := hSt.1
  obtain ⟨m, hm⟩ : ∃ m, ms[k]? = some m := ⟨_, List.getElem?_eq_getElem (by omega)⟩
  have hMem := mapsL_mem hrk hm
  obtain ⟨v0, hv0⟩ : ∃ v, has[k]? = some v := ⟨_, List.getElem?_eq_getElem (by omega)⟩
  refine X_skip ?_
  refine at_then ?_
  refine X_seq ?_
  refine X_block ?_
  refine zR ?_
  refine XO_v0 (ev_indexSl rfl rfl slt_55 hSs (fun hg => by omega)) rfl rfl rfl ?_
  refine XO_v0 (ev_load rfl sct_56 (fun hg => by exact Sl.get0 hSs hrk rfl)) rfl rfl rfl ?_
  refine zA ?_
  refine zN (zR ?_)
  refine zA ?_
  refine zN ?_
  refine X_seq ?_
  refine zR ?_
  refine zM ?_
  refine XO_v0 (ev_lenS rfl slt_22) rfl rfl rfl ?_
  refine zM ?_
  refine zN ?_
  refine X_block ?_
  refine X_loopT [(0, _), (1, _), (31, _), (209, _), (210, _), (211, _), (215, _), (216, _)] (.cons rfl (.cons rfl (.cons rfl (.cons rfl (.cons rfl (.cons rfl (.cons rfl (.cons rfl .nil)))))))) (fun T L0 mz E I' loc' => ∃ (j : Nat) (v : Value) (q : Nat) (L : Go.Kn.Loc), mz = n - j ∧ E = (32, v) :: (217, .int .i64 j) :: T ∧ J14 = I' ∧ L ++ mapsL rs ms = loc' ∧ j ≤ n ∧ OwnS 3 1 v q ((((ps.take j).filter fun p => tg.contains p.id).map (·.id)).flatMap encI) L ∧ q ≤ j) _ _ _ _ ⟨0, _, 0, [], rfl, rfl, rfl, rfl, Nat.zero_le _, by rw [List.take_zero]; exact OwnS.nil, Nat.le_refl _⟩ (.cons rfl (.cons rfl (.cons rfl (.cons rfl (.cons rfl (.cons rfl (.cons rfl (.cons rfl (.cons rfl (.cons rfl .nil)))))))))) (HLe.refl _) rfl ?_
  rintro mz E I' loc' ⟨j, v, q, L, rfl, rfl, rfl, rfl, hj, hO, hq⟩
  refine zR ?_
  refine zC ?_
  refine zN ?_
  refine X_seq ?_
  refine X_cond rfl (fun hc218 => ?_) (fun hc218 => ?_)
  ·
   have hlt_j : j < n := by have h := hc218; simp at h; omega
   obtain ⟨p, hp, hN⟩ := hP.at hlt_j
   have hbp := sts_end hSt hall hv0 hm (List.mem_of_getElem? hp)
   refine X_skip ?_
   refine at_then ?_
   refine X_seq ?_
   refine X_block ?_
   refine zR ?_
   refine XO_v0 (ev_indexSl rfl rfl slt_22 hP.1 (fun hg => by omega)) rfl rfl rfl ?_
   refine XO_v0 (ev_loadA rfl agt_65 (fun hg => by exact Sl.getA hP.1 hp) rfl) rfl rfl rfl ?_
   refine XO_alloc zt_65 rfl rfl (fun b_34 => ?_)
   refine XO_storeA rfl rfl szt_65 rfl rfl rfl rfl (by repeat (first | exact Upd.here | apply Upd.there | apply upd_app)) ?_
   refine zN (zR ?_)
   refine zM ?_
   refine XO_v0 (ev_fieldAddr rfl fld_65_0) rfl rfl rfl ?_
   refine XO_v0 (ev_load rfl sct_3 (fun hg => by (repeat (first | exact Cell.here rfl | apply Cell.there | apply Cell.app)))) rfl rfl rfl ?_
   refine XO_v0 (ev_lookupS (m := m.1) (c := m.2) (a := p.id) mpt_56 und_3 rfl rfl (fun _ => .inr (List.mem_cons_of_mem _ (List.mem_append_right _ hMem)))) rfl rfl rfl ?_
   refine zN ?_
   refine X_cond rfl (fun hc224 => ?_) (fun hc224 => ?_)
   ·
    have hby : tg.contains p.id = true := by rw [← hbp]; exact hc224
    refine X_region ?_
    refine zM ?_
    refine XO_v0 (ev_fieldAddr rfl fld_65_0) rfl rfl rfl ?_
    refine XO_v0 (ev_load rfl sct_3 (fun hg => by (repeat (first | exact Cell.here rfl | apply Cell.there | apply Cell.app)))) rfl rfl rfl ?_
    refine XO_buildSlice (ps := [(0, _)]) (m := [encI p.id]) elt_23 rfl (.cons rfl (.nil)) rfl (by simp [encI_len]) (by decide) (by decide) rfl rfl (fun b_228 => ?_)
    refine XO_append (v := _) (ys := [p.id].flatMap encI) (L := L) rfl rfl elt_23 hO (by repeat (first | exact .cons .here .nil | exact split_all | exact split_app | apply split_cons | apply split_skip)) ⟨rfl, fun _ => rfl, Cells.here⟩ (one_I [p.id]) (by omega) rfl rfl ?_
    intro v9 L9 hO9 _; rw [← List.flatMap_append] at hO9
    refine zA ?_
    refine XO_nil ?_
    refine at_block_n ?_
    refine at_then ?_
    refine X_region ?_
    refine zB ?_
    refine zM ?_
    refine XO_nil ?_
    first
    | exact at_met2 _ _ ⟨n - (j + 1), by omega, j + 1, _, _, _, rfl, rfl, rfl, rfl, by omega, by rw [fil_yes hp hby]; exact hO9, by omega⟩ (.cons rfl (.cons rfl (.cons rfl (.cons rfl (.cons rfl (.cons rfl (.cons rfl (.cons rfl (.cons rfl (.cons rfl .nil)))))))))) (by repeat (first | exact .refl | exact subL_left | refine subL_app ?_ | refine .drop ?_ | refine subL_add ?_))
   have hbn : tg.contains p.id = false := by rw [← hbp]; exact hc224
   refine X_skip ?_
   refine at_block_n ?_
   refine at_then ?_
   refine X_region ?_
   refine zB ?_
   refine zM ?_
   refine XO_nil ?_
   first
   | exact at_met2 _ _ ⟨n - (j + 1), by omega, j + 1, _, _, _, rfl, rfl, rfl, rfl, by omega, by rw [fil_no hp hbn]; exact hO, by omega⟩ (.cons rfl (.cons rfl (.cons rfl (.cons rfl (.cons rfl (.cons rfl (.cons rfl (.cons rfl (.cons rfl (.cons rfl .nil)))))))))) (by repeat (first | exact .refl | exact subL_left | refine subL_app ?_ | refine .drop ?_ | refine subL_add ?_))
  have hge_j : n ≤ j := by have h := hc218; simp at h; omega
  rw [take_all hlp hge_j, ver_list hL hTv] at hO
  have hqt := hO.1
  rw [flat_len encI_len] at hqt
  refine X_exit ?_
  refine at_then_e ?_
  refine at_then_e ?_
  refine at_block_hit ?_
  refine at_then ?_
  refine X_seq ?_
  refine X_freezeO hO encI_len (by decide) (by repeat (first | exact .cons .here .nil | exact split_all | exact split_app | apply split_cons | apply split_skip)) (fun I16 hI16 af16 cf16 ef16 hVs => ?_)
  subst ef16
  have hP := hP.mono hI16; have hT := hT.mono hI16; have hV := hV.mono hI16; have hC := hC.mono hI16; have hS1 := hS1.mono hI16; have h8 := h8.mono hI16; have hC2 := hC2.mono hI16; have hPl := hPl.mono hI16; have hSs := hSs.mono hI16; have hG := hG.mono hI16; have hIc := hIc.trans hI16; have hB12 := hB12.trans hI16
  refine X_region ?_
  refine zM ?_
  refine zM ?_
  refine XO_callM (cap := []) (vs := [_, _]) rfl rfl fun_35 .nil (w_Closure hP (by omega) hVs (by omega)) rfl rfl ?_
  rintro vv17 I17 L17 hI17 ⟨rfl, ca, cc, rfl, hCl⟩
  have hP := hP.mono hI17; have hT := hT.mono hI17; have hV := hV.mono hI17; have hC := hC.mono hI17; have hS1 := hS1.mono hI17; have h8 := h8.mono hI17; have hC2 := hC2.mono hI17; have hPl := hPl.mono hI17; have hSs := hSs.mono hI17; have hG := hG.mono hI17; have hVs := hVs.mono hI17; have hIc := hIc.trans hI17
  have hB12 := hB12.trans hI17
  rw [List.nil_append]
  have hcl9 : (resF (cloE ps tg) (cloF ps tg)).length ≤ 100000 := by rw [hcE, resF_ok rfl, hcF]; have := hfew.2.1; omega
  refine zM ?_
  refine XO_v0 (ev_extract rfl rfl) rfl rfl rfl ?_
  refine XO_v0 (ev_extract rfl rfl) rfl rfl rfl ?_
  refine zA ?_
  refine zA ?_
  refine zN (zR ?_)
  refine zM ?_
  refine zC ?_
  refine zM ?_
  refine XO_pushF 2 rfl rfl rfl ?_
  refine XO_v1 (ev_move rfl) (.some rfl rfl rfl rfl gbf) rfl rfl rfl ?_
  refine XO_v1 (ev_move rfl) (.some rfl rfl rfl rfl gbf) rfl rfl rfl ?_
  refine XO_callV1 (cap := []) (vs := [_, _]) rfl rfl fun_23 (fun hg => w_rSame hCl (by omega) hVs) (.some rfl rfl rfl rfl gbf) rfl rfl ?_
  refine XO_v1 (ev_not rfl) (.some rfl rfl rfl rfl gbf) rfl rfl rfl ?_
  refine XO_or0 rfl rfl rfl rfl rfl ?_
  refine zM ?_
  refine XO_pushF 8 rfl rfl rfl ?_
  refine XO_v1 (ev_move rfl) (.some rfl rfl rfl rfl gbf) rfl rfl rfl ?_
  refine XO_v1 (ev_move rfl) (.some rfl rfl rfl rfl gbf) rfl rfl rfl ?_
  refine XO_callV1 (cap := []) (vs := [_, _]) rfl rfl fun_23 (fun hg => w_rSame hVs (by omega) hT) (.some rfl rfl rfl rfl gbf) rfl rfl ?_
  refine XO_v1 (ev_not rfl) (.some rfl rfl rfl rfl gbf) rfl rfl rfl ?_
  refine XO_or0 rfl rfl rfl rfl rfl ?_
  refine zN ?_
  refine X_cond rfl (fun hc250 => ?_) (fun hc250 => ?_)
  ·
   exact absurd hc250 (by rw [hcE, resF_ok rfl, hcF]; simp)
  refine X_skip ?_
  refine at_block_n ?_
  refine at_then ?_
  refine X_region ?_
  refine zB ?_
  refine zM ?_
  refine XO_nil ?_
  exact at_met2 _ _ ⟨n3 - (k + 1), by omega, k + 1, rfl, rfl, hB12, rfl, by omega⟩ (.cons rfl (.cons rfl (.cons rfl (.cons rfl (.cons rfl .nil))))) (by repeat (first | exact .refl | exact subL_left | refine subL_app ?_ | refine .drop ?_ | refine subL_add ?_))
 have hge_k : n3 ≤ k := by have h := hc212; simp at h; omega
 refine X_exit ?_
 refine at_then_e ?_
 refine at_then_e ?_
 refine at_block_hit ?_
 refine at_then ?_
 refine zR ?_
 refine zA ?_
 refine zN ?_
 refine X_ret ?_
 exact at_ret1 rfl rfl (fun w hw => ⟨by rfl, (hw.mono hIc).drop⟩)
end Go.Proofs.YtehkiccapbkhnaaGreat
end
section
namespace Go.Kn
open Go Go.ChangeShapes Go.WideShapes Go.ChangeAt Go.RowKit
/-- All that lies in the world is read only. -/
def heapI (W : World) : HMap := fun b => W.heap[b]?
theorem St.start (W : World) : St W (heapI W) (fun _ => none) [] W :=
  ⟨rfl, rfl, rfl, ⟨Nat.le_refl _, Nat.le_refl _⟩, fun _ _ h => h, (fun _ _ h => by cases h), (fun _ _ h => by cases h), fun _ => .inr rfl, (fun _ _ h => by cases h), by simp⟩
theorem St.below {W w : World} {H : HMap} {loc : Loc} (h : St W (heapI W) H loc w) : Below W.heap.size W w :=
  ⟨h.os, h.tape, h.out, h.size.1, fun k hk => by
    have e : W.heap[k]? = some W.heap[k] := Array.getElem?_eq_getElem hk
    rw [h.imm k _ e, e]⟩
theorem RetV.law {P : Program} {f : FuncId} {args : List Value} {W : World} {v : Value} (h : RetV P f args (heapI W) v) : Calls P f args.toArray W fun e w' => e = .returned v ∧ Below W.heap.size W w' :=
  (h W _ W (St.start W)).mono fun _ _ ⟨he, hs⟩ => ⟨he, hs.below⟩
theorem keptBut_below {W w : World} {may : MemPlace → Prop} (h : Below W.heap.size W w) : W.keptBut w may := by
  refine ⟨h.os, h.output, fun i hi => ?_⟩
  rw [h.block i hi]
  rw [Array.getElem?_eq_getElem hi]
  cases W.heap[i] <;> simp
theorem trodAll_stays {H : Type} {enc : TypeId × Value → H} {P : Program} {W W' : World} (hl : laidOutB P = true) (hB : Below W.heap.size W W') (sp : Nat → Bool) : ∀ (ts : List TypeId) (vs : List Value) (ds : List (DataW H)) (ps : List MemPlace), (∀ t ∈ ts, P.readableRec t = true ∧ t < P.types.size) →
    DataW.TrodAll enc P W 0 (fun _ => true) true ts vs ds ps → (∀ x ∈ ps, x.block < W.heap.size ∧ sp x.block = true) → DataW.TrodAll enc P W' 0 sp true ts vs ds ps
  | [], [], [], ps, _, h, _ => h
  | t :: ts, v :: vs, d :: ds, ps, hr, ⟨p, q, h1, h2, e⟩, hlt => by
    subst e
    exact ⟨p, q, WideElems.Trod_stays hl (hr t (List.mem_cons_self ..)).1 (hr t (List.mem_cons_self ..)).2 h1 (fun x hx => hB.same (hlt x (List.mem_append_left _ hx)).1) (fun x hx => (hlt x (List.mem_append_left _ hx)).2),
      trodAll_stays hl hB sp ts vs ds q (fun t ht => hr t (List.mem_cons_of_mem _ ht)) h2 (fun x hx => hlt x (List.mem_append_right _ hx)), rfl⟩
/-- A law's row: it hands back true; the input reads as it did. -/
theorem post_law {H : Type} {enc : TypeId × Value → H} {P : Program} {f : Func} {s : ChangeSpec} {again : Bool} {W W' : World} {args : Array Value} {ds : List (DataW H)} {before : List MemPlace} {tb : TypeId}
    (hl : laidOutB P = true) (hr : f.resultTypes = #[tb]) (hb : P.underlying tb = some .bool) (hv : s.vars = []) (hs : (s.fn H (ds ++ [])) = { results := [.lit (.bool true)], args := ds }) (hrd : ∀ t ∈ f.params.toList, P.readableRec t = true ∧ t < P.types.size)
    (hW : DataW.Whole enc P f.params.toList s.vars false W args.toList ds [] before) (hB : Below W.heap.size W W') : s.post enc P f false true false again W args (.bool true) W' := by
  have hlt : ∀ x ∈ before, x.block < W.heap.size := fun x hx => by simpa using hW.lt x hx
  have hW0 := hW
  obtain ⟨p, q, hA, hV, rfl, hfz, _⟩ := hW
  rw [hv] at hV
  obtain ⟨_, rfl⟩ := trodVars_none hV
  rw [List.append_nil] at hlt hfz hW0
  have hres : ∀ (b : Nat) (sp : Nat → Bool) (hd : Bool), DataW.TrodAll enc P W' b sp hd f.resultTypes.toList ((Value.bool true).resultList f.resultTypes.size) [.lit (.bool true)] [] := fun b sp hd => by
    rw [hr]; exact trodAll_mk1 (shut_bool hb true)
  have hargs : ∀ sp : Nat → Bool, (∀ x ∈ p, sp x.block = true) → DataW.TrodAll enc P W' 0 sp true f.params.toList args.toList ds p := fun sp h => trodAll_stays hl hB sp _ _ _ _ hrd hA (fun x hx => ⟨hlt x hx, h x hx⟩)
  have hnil : ∀ sp : Nat → Bool, DataW.TrodVars enc P W' sp s.vars [] [] := fun sp => by rw [hv]; rfl
  refine ⟨ds, [], p, [], p, [], hW0, ?_, ?_, ?_, keptBut_below hB, fun _ => ?_⟩
  · rw [hs]; exact hres _ _ _
  · rw [hs]; exact hargs _ (fun x hx => by simpa using hlt x hx)
  · rw [hs]; exact hnil _
  · refine ⟨fun j t r ht hr' => ?_, [.lit (.bool true)] ++ ds, [], [] ++ p, ⟨[] ++ p, [], trodAll_append (hargs _ (fun _ _ => rfl)) (hres _ _ _), hnil _, by simp, ?_, fun h => by cases h⟩, fun x hx _ => by simpa using hx⟩
    · rw [hr] at ht hr'
      cases j with
      | zero => simp [Value.resultList] at ht hr'; subst ht; subst hr'; exact okWide_bool_mk hb _
      | succ j => simp at ht
    · intro b off hx
      rw [hB.frozen (hlt _ (by simpa using hx))]
      exact hfz b off (by simpa using hx)
theorem cell_heap {W : World} {b o : Nat} {u : Value} (h : W.cell? ⟨b, o, none⟩ = some u) : Cell (heapI W) [] b o u := by
  unfold World.cell? at h
  split at h
  · rename_i c t fz hb
    simp only [Option.isSome_none, Bool.false_eq_true, if_false] at h
    exact ⟨c, t, fz, .inl hb, h⟩
  · cases h
/-- A slice that came in, as it is read. -/
theorem open_SlT {H : Type} {enc : TypeId × Value → H} {P : Program} {W : World} {t e : TypeId} {size fuel0 : Nat} {cs : List Value} {x0 : DataW H × List MemPlace} {α : Type} (enc' : α → List Value) (ok : α → Prop)
    (ht : P.underlying t = some (.slice e)) (hc : P.cellsOf e = size) (hpos : 0 < size) (hlen : ∀ y, (enc' y).length = size)
    (hel : ∀ fuel cs x, DataW.trod enc P W 0 (fun _ => true) true fuel e cs = some x → ∃ y, ok y ∧ enc' y = cs)
    (hf' : DataW.trod enc P W 0 (fun _ => true) true fuel0 t cs = some x0) : ∃ av n c xs, cs = [.slice av n c] ∧ Sl (heapI W) size enc' av n c xs ∧ (∀ x ∈ xs, ok x) ∧ c ≤ maxLen := by
  rcases Go.Deep.open_slice ht hf' with ⟨e1, _⟩ | ⟨a, len0, cap0, m, n, D, Pl, e1, hb, hl, hm, hmm, _, hx⟩
  · subst e1
    exact ⟨none, 0, 0, [], rfl, .nil, (fun x hx => by cases hx), Nat.zero_le _⟩
  · subst e1
    have hlm : len0 ≤ m := by rw [hmm]; simp; exact hl
    have each : ∀ i, i < len0 → ∃ y, ok y ∧ W.cells? 0 (a.add (i * size)) size = some (enc' y) := fun i hi => by
      obtain ⟨cs', h1, h2⟩ := hx i (by omega)
      obtain ⟨y, hy, e⟩ := hel _ _ _ h2
      rw [hc] at h1
      exact ⟨y, hy, by rw [h1, e]⟩
    have all : ∀ k, k ≤ len0 → ∃ xs : List α, xs.length = k ∧ ∀ i x, xs[i]? = some x → ok x ∧ W.cells? 0 (a.add (i * size)) size = some (enc' x) := by
      intro k
      induction k with
      | zero => intro _; exact ⟨[], rfl, fun i x h => by simp at h⟩
      | succ k ih =>
        intro hk
        obtain ⟨xs, hl', hxs⟩ := ih (by omega)
        obtain ⟨y, hy, hcy⟩ := each k (by omega)
        refine ⟨xs ++ [y], by simp [hl'], fun i x h => ?_⟩
        by_cases hi : i < xs.length
        · rw [List.getElem?_append_left hi] at h; exact hxs i x h
        · rw [List.getElem?_append_right (by omega)] at h
          have : i = k := by have := (List.getElem?_eq_some_iff.1 h).1; simp at this; omega
          subst this
          rw [hl'] at h; simp at h; subst h
          exact ⟨hy, hcy⟩
    obtain ⟨xs, hl', hxs⟩ := all len0 (Nat.le_refl _)
    have add0 : ∀ (b o n : Nat), (⟨b, o, none⟩ : Addr).add n = ⟨b, o + n, none⟩ := fun b o n => by
      unfold Addr.add
      split
      · rename_i e; subst e; rfl
      · rfl
    have hspot : 0 < xs.length → a.spot = none := fun hx => by
      have hx0 : xs[0]? = some xs[0] := List.getElem?_eq_getElem hx
      have hp0 : 0 < (enc' xs[0]).length := by rw [hlen]; exact hpos
      obtain ⟨_, h1, h2⟩ := World.cells?_some (hxs 0 _ hx0).2
      have h3 := h2 0 hpos
      rw [List.getElem?_eq_getElem hp0] at h3
      simpa [Addr.add] using World.cell?_spot h3
    have cellat : ∀ i x, xs[i]? = some x → ∀ j u, (enc' x)[j]? = some u → W.cell? ⟨a.block, a.off + i * size + j, none⟩ = some u := fun i x hx j u hu => by
      obtain ⟨_, h1, h2⟩ := World.cells?_some (hxs i x hx).2
      have hj : j < size := by rw [← hlen x]; exact (List.getElem?_eq_some_iff.1 hu).1
      have h3 := h2 j hj
      rw [hu] at h3
      have hsp := hspot (by have := (List.getElem?_eq_some_iff.1 hx).1; omega)
      obtain ⟨b, o, sp⟩ := a
      simp only at hsp
      subst hsp
      rw [add0, add0] at h3
      exact h3
    refine ⟨some a, len0, cap0, xs, rfl, ⟨hl', hl, fun hn => ?_, fun k x hx j u hu => ?_⟩, fun x hx => ?_, hm⟩
    · have := hspot (by omega)
      obtain ⟨b, o, sp⟩ := a
      simp only at this
      subst this; rfl
    · exact cell_heap (cellat k x hx j u hu)
    · obtain ⟨i, hi⟩ := List.getElem?_of_mem hx
      exact (hxs i x hi).1
theorem open_Sl {H : Type} {enc : TypeId × Value → H} {P : Program} {W : World} {base : Nat} {t e : TypeId} {size : Nat} {v : Value} {d : DataW H} {p : List MemPlace} {α : Type} (enc' : α → List Value) (ok : α → Prop)
    (ht : P.underlying t = some (.slice e)) (hc : P.cellsOf e = size) (hpos : 0 < size) (hlen : ∀ y, (enc' y).length = size)
    (hel : ∀ fuel cs x, DataW.trod enc P W 0 (fun _ => true) true fuel e cs = some x → ∃ y, ok y ∧ enc' y = cs)
    (hv : Value.okWide P W .any base t v) (h : DataW.Trod enc P W 0 (fun _ => true) true t v d p) : ∃ av n c xs, v = .slice av n c ∧ Sl (heapI W) size enc' av n c xs ∧ (∀ x ∈ xs, ok x) ∧ c ≤ maxLen := by
  obtain ⟨a0, len0, cap0, rfl⟩ := okWide_slice ht hv
  obtain ⟨fuel, hf⟩ := h
  obtain ⟨av, n, c, xs, e, h1, h2, h3⟩ := open_SlT enc' ok ht hc hpos hlen hel (cs := [.slice a0 len0 cap0]) (by simpa [Value.cells] using hf)
  cases e
  exact ⟨_, _, _, xs, rfl, h1, h2, h3⟩
/-- A slice of one-cell ints. -/
theorem el_int {H : Type} {enc : TypeId × Value → H} {P : Program} {W : World} {e : TypeId} {k : IntKind} (he : P.underlying e = some (.int k)) (hk : k = .i64) (fuel : Nat) (cs : List Value) (x : DataW H × List MemPlace) (h : DataW.trod enc P W 0 (fun _ => true) true fuel e cs = some x) :
    ∃ y : Int, (-9223372036854775808 ≤ y ∧ y ≤ 9223372036854775807) ∧ [Value.int .i64 y] = cs := by
  subst hk
  obtain ⟨v, hv⟩ : ∃ v, cs = [v] := by
    have := h
    cases fuel with
    | zero => simp [DataW.trod] at this
    | succ m => unfold DataW.trod at this; rw [he] at this; split at this <;> simp_all
  subst hv
  obtain ⟨n, e, _, w⟩ := DataW.trod_int he h
  cases e
  simp only [Lit.wf, Bool.and_eq_true, decide_eq_true_eq] at w
  exact ⟨n, w, rfl⟩
end Go.Kn
end
section
namespace Go.Kn
open Go
theorem trod_seg {H : Type} {enc : TypeId × Value → H} {P : Program} {W : World} {base : Nat} {spare : Nat → Bool} {held : Bool} {t C : Nat} {fs : Array Field} {fuel : Nat} {cs : List Value} {x : DataW H × List MemPlace} (hs : P.underlying t = some (.struct fs))
    (hC : P.cellsOf t = C) (h : DataW.trod enc P W base spare held fuel t cs = some x) :
    cs.length = C ∧ ∃ n, ∀ (i ty off k : Nat), ((fs[i]?).map fun f => (f.type, f.offset)) = some (ty, off) → P.cellsOf ty = k → ∃ y, DataW.trod enc P W base spare held n ty ((cs.drop off).take k) = some y := by
  obtain ⟨xs, n, _, _, hl, hxl, hf⟩ := DataW.trod_struct hs h
  refine ⟨hl.trans hC, n, fun i ty off k hi hk => ?_⟩
  obtain ⟨f, hfi, e⟩ := Option.map_eq_some_iff.1 hi
  cases e
  have g := hf i f hfi
  have hix : i < xs.length := by rw [hxl]; exact (Array.getElem?_eq_some_iff.1 hfi).1
  rw [hk, List.getElem?_eq_getElem hix] at g
  exact ⟨_, g⟩
end Go.Kn
end
section
namespace Go.Proofs.YtehkiccapbkhnaaGreat
open Go Go.Kn Go.Proofs
open Go.ChangeShapes Go.WideShapes Go.ChangeAt Go.RowKit
set_option maxRecDepth 100000
theorem ound_3 : Tryz.prog.underlying 3 = some (.int .i64) := by kernel_rfl
theorem ound_23 : Tryz.prog.underlying 23 = some (.slice 3) := by kernel_rfl
theorem ostr_58 : Tryz.prog.underlying 58 = some (.struct (Tryz.prog.fieldsOf 58)) := by kernel_rfl
theorem ound_27 : Tryz.prog.underlying 27 = some (.slice 58) := by kernel_rfl
theorem ostr_33 : Tryz.prog.underlying 33 = some (.struct (Tryz.prog.fieldsOf 33)) := by kernel_rfl
theorem relS_of {I : HMap} : ∀ {hs : List SH}, (∀ h ∈ hs, ∃ s, SesAt I h s) → ∃ ss, RelS I hs ss
  | [], _ => ⟨[], RelS.nil⟩
  | h :: hs, H => by
    obtain ⟨s, h0⟩ := H h (by simp)
    obtain ⟨ss, h1⟩ := relS_of (hs := hs) fun x hx => H x (by simp [hx])
    refine ⟨s :: ss, by simp [h1.1], fun k x y a b => ?_⟩
    cases k with
    | zero => simp at a b; subst a b; exact h0
    | succ k => simp at a b; exact h1.2 k x y a b
theorem crAt_of {I : HMap} {a a2 : Option Addr} {n c n2 c2 : Nat} {ds : List Int} {st da lo ru : Int} {hs : List SH} (h0 : Sl I 1 encI a n c ds) (h5 : Sl I 4 encSH a2 n2 c2 hs) (ho : ∀ h ∈ hs, ∃ s, SesAt I h s) : ∃ cr, CrAt I ⟨a, n, c, st, da, lo, ru, a2, n2, c2⟩ cr := by
  obtain ⟨ss, hr⟩ := relS_of ho
  exact ⟨⟨ds, st, da, lo, ru, ss⟩, h0, rfl, rfl, rfl, rfl, hs, h5, hr⟩
theorem el_ses {H : Type} {enc : TypeId × Value → H} {W : World} (fuel : Nat) (cs : List Value) (x : DataW H × List MemPlace) (h : DataW.trod enc Tryz.prog W 0 (fun _ => true) true fuel 58 cs = some x) : ∃ y : SH, (fun h => ∃ s, SesAt (heapI W) h s) y ∧ encSH y = cs := by
  obtain ⟨hl, n0_, f0⟩ := trod_seg (C := 4) ostr_58 (by kernel_rfl) h
  match cs, hl with
  | [c0, c1, c2, c3], _ =>
    obtain ⟨_, g0_0⟩ := f0 0 3 0 1 (by kernel_rfl) (by kernel_rfl)
    obtain ⟨n0, e0, _, w0⟩ := DataW.trod_int ound_3 (show DataW.trod enc Tryz.prog W 0 (fun _ => true) true n0_ 3 [c0] = some _ from g0_0)
    obtain ⟨_, g0_1⟩ := f0 1 3 1 1 (by kernel_rfl) (by kernel_rfl)
    obtain ⟨n1, e1, _, w1⟩ := DataW.trod_int ound_3 (show DataW.trod enc Tryz.prog W 0 (fun _ => true) true n0_ 3 [c1] = some _ from g0_1)
    obtain ⟨_, g0_2⟩ := f0 2 23 2 1 (by kernel_rfl) (by kernel_rfl)
    obtain ⟨a2, m2, q2, n2, e2, s2, o2, _⟩ := open_SlT (t := 23) (e := 3) encI (fun n : Int => -9223372036854775808 ≤ n ∧ n ≤ 9223372036854775807) ound_23 (by kernel_rfl) (by decide) encI_len (fun fuel cs x h => el_int ound_3 rfl fuel cs x h) (show DataW.trod enc Tryz.prog W 0 (fun _ => true) true n0_ 23 [c2] = some _ from g0_2)
    obtain ⟨_, g0_3⟩ := f0 3 23 3 1 (by kernel_rfl) (by kernel_rfl)
    obtain ⟨a3, m3, q3, n3, e3, s3, o3, _⟩ := open_SlT (t := 23) (e := 3) encI (fun n : Int => -9223372036854775808 ≤ n ∧ n ≤ 9223372036854775807) ound_23 (by kernel_rfl) (by decide) encI_len (fun fuel cs x h => el_int ound_3 rfl fuel cs x h) (show DataW.trod enc Tryz.prog W 0 (fun _ => true) true n0_ 23 [c3] = some _ from g0_3)
    cases e0; cases e1; cases e2; cases e3
    exact ⟨⟨n0, n1, a2, m2, q2, a3, m3, q3⟩, ⟨⟨n0, n1, n2, n3⟩, rfl, rfl, s2, s3⟩, rfl⟩
theorem el_cr {H : Type} {enc : TypeId × Value → H} {W : World} (fuel : Nat) (cs : List Value) (x : DataW H × List MemPlace) (h : DataW.trod enc Tryz.prog W 0 (fun _ => true) true fuel 33 cs = some x) : ∃ y : CH, (fun x => ∃ cr, CrAt (heapI W) x cr) y ∧ encCH y = cs := by
  obtain ⟨hl, n0_, f0⟩ := trod_seg (C := 6) ostr_33 (by kernel_rfl) h
  match cs, hl with
  | [c0, c1, c2, c3, c4, c5], _ =>
    obtain ⟨_, g0_0⟩ := f0 0 23 0 1 (by kernel_rfl) (by kernel_rfl)
    obtain ⟨a0, m0, q0, n0, e0, s0, o0, _⟩ := open_SlT (t := 23) (e := 3) encI (fun n : Int => -9223372036854775808 ≤ n ∧ n ≤ 9223372036854775807) ound_23 (by kernel_rfl) (by decide) encI_len (fun fuel cs x h => el_int ound_3 rfl fuel cs x h) (show DataW.trod enc Tryz.prog W 0 (fun _ => true) true n0_ 23 [c0] = some _ from g0_0)
    obtain ⟨_, g0_1⟩ := f0 1 3 1 1 (by kernel_rfl) (by kernel_rfl)
    obtain ⟨n1, e1, _, w1⟩ := DataW.trod_int ound_3 (show DataW.trod enc Tryz.prog W 0 (fun _ => true) true n0_ 3 [c1] = some _ from g0_1)
    obtain ⟨_, g0_2⟩ := f0 2 3 2 1 (by kernel_rfl) (by kernel_rfl)
    obtain ⟨n2, e2, _, w2⟩ := DataW.trod_int ound_3 (show DataW.trod enc Tryz.prog W 0 (fun _ => true) true n0_ 3 [c2] = some _ from g0_2)
    obtain ⟨_, g0_3⟩ := f0 3 3 3 1 (by kernel_rfl) (by kernel_rfl)
    obtain ⟨n3, e3, _, w3⟩ := DataW.trod_int ound_3 (show DataW.trod enc Tryz.prog W 0 (fun _ => true) true n0_ 3 [c3] = some _ from g0_3)
    obtain ⟨_, g0_4⟩ := f0 4 3 4 1 (by kernel_rfl) (by kernel_rfl)
    obtain ⟨n4, e4, _, w4⟩ := DataW.trod_int ound_3 (show DataW.trod enc Tryz.prog W 0 (fun _ => true) true n0_ 3 [c4] = some _ from g0_4)
    obtain ⟨_, g0_5⟩ := f0 5 27 5 1 (by kernel_rfl) (by kernel_rfl)
    obtain ⟨a5, m5, q5, n5, e5, s5, o5, _⟩ := open_SlT (t := 27) (e := 58) encSH (fun h => ∃ s, SesAt (heapI W) h s) ound_27 (by kernel_rfl) (by decide) encSH_len (fun fuel cs x h => el_ses fuel cs x h) (show DataW.trod enc Tryz.prog W 0 (fun _ => true) true n0_ 27 [c5] = some _ from g0_5)
    cases e0; cases e1; cases e2; cases e3; cases e4; cases e5
    exact ⟨⟨a0, m0, q0, n1, n2, n3, n4, a5, m5, q5⟩, crAt_of s0 s5 o5, rfl⟩
theorem open_cr {H : Type} {enc : TypeId × Value → H} {W : World} {base : Nat} {v : Value} {d : DataW H} {p : List MemPlace} (hv : Value.okWide Tryz.prog W .any base 33 v) (h : DataW.Trod enc Tryz.prog W 0 (fun _ => true) true 33 v d p) : ∃ y : CH, v = encCHA y ∧ (fun x => ∃ cr, CrAt (heapI W) x cr) y := by
  obtain ⟨cs, rfl, _⟩ := okWide_struct ostr_33 hv
  obtain ⟨fuel, hf⟩ := h
  obtain ⟨l⟩ := cs
  obtain ⟨y, hy, e⟩ := el_cr fuel l _ hf
  exact ⟨y, by rw [← e]; rfl, hy⟩
theorem open_ints {H : Type} {enc : TypeId × Value → H} {W : World} {base : Nat} {v : Value} {d : DataW H} {p : List MemPlace} (hv : Value.okWide Tryz.prog W .any base 23 v) (h : DataW.Trod enc Tryz.prog W 0 (fun _ => true) true 23 v d p) :
    ∃ av n c xs, v = .slice av n c ∧ Sl (heapI W) 1 encI av n c xs := by
  obtain ⟨av, n, c, xs, e, hS, hok, _⟩ := open_Sl (e := 3) encI (fun n : Int => -9223372036854775808 ≤ n ∧ n ≤ 9223372036854775807) ound_23 (by kernel_rfl) (by decide) encI_len (fun fuel cs x h => el_int ound_3 rfl fuel cs x h) hv h
  exact ⟨av, n, c, xs, e, hS⟩
end Go.Proofs.YtehkiccapbkhnaaGreat
end
section
namespace Go.Proofs.YtehkiccapbkhnaaGreat
open Go Go.Kn Go.Proofs
open Go.ChangeShapes Go.WideShapes Go.ChangeAt Go.RowKit
set_option maxRecDepth 100000
theorem ostr_61 : Tryz.prog.underlying 61 = some (.struct (Tryz.prog.fieldsOf 61)) := by kernel_rfl
theorem ostr_63 : Tryz.prog.underlying 63 = some (.struct (Tryz.prog.fieldsOf 63)) := by kernel_rfl
theorem ostr_65 : Tryz.prog.underlying 65 = some (.struct (Tryz.prog.fieldsOf 65)) := by kernel_rfl
theorem ound_22 : Tryz.prog.underlying 22 = some (.slice 65) := by kernel_rfl
theorem el_pt {H : Type} {enc : TypeId × Value → H} {W : World} (fuel : Nat) (cs : List Value) (x : DataW H × List MemPlace) (h : DataW.trod enc Tryz.prog W 0 (fun _ => true) true fuel 65 cs = some x) : ∃ y : Pt, (fun p => Nd (heapI W) p) y ∧ encP y = cs := by
  obtain ⟨hl, n0_, f0⟩ := trod_seg (C := 19) ostr_65 (by kernel_rfl) h
  match cs, hl with
  | [c0, c1, c2, c3, c4, c5, c6, c7, c8, c9, c10, c11, c12, c13, c14, c15, c16, c17, c18], _ =>
    obtain ⟨_, g0_0⟩ := f0 0 3 0 1 (by kernel_rfl) (by kernel_rfl)
    obtain ⟨n0, e0, _, w0⟩ := DataW.trod_int ound_3 (show DataW.trod enc Tryz.prog W 0 (fun _ => true) true n0_ 3 [c0] = some _ from g0_0)
    obtain ⟨_, g0_1⟩ := f0 1 3 1 1 (by kernel_rfl) (by kernel_rfl)
    obtain ⟨n1, e1, _, w1⟩ := DataW.trod_int ound_3 (show DataW.trod enc Tryz.prog W 0 (fun _ => true) true n0_ 3 [c1] = some _ from g0_1)
    obtain ⟨_, g0_2⟩ := f0 2 3 2 1 (by kernel_rfl) (by kernel_rfl)
    obtain ⟨n2, e2, _, w2⟩ := DataW.trod_int ound_3 (show DataW.trod enc Tryz.prog W 0 (fun _ => true) true n0_ 3 [c2] = some _ from g0_2)
    obtain ⟨_, g0_3⟩ := f0 3 3 3 1 (by kernel_rfl) (by kernel_rfl)
    obtain ⟨n3, e3, _, w3⟩ := DataW.trod_int ound_3 (show DataW.trod enc Tryz.prog W 0 (fun _ => true) true n0_ 3 [c3] = some _ from g0_3)
    obtain ⟨_, g0_4⟩ := f0 4 63 4 14 (by kernel_rfl) (by kernel_rfl)
    obtain ⟨_, n1_, f1⟩ := trod_seg (C := 14) ostr_63 (by kernel_rfl) (show DataW.trod enc Tryz.prog W 0 (fun _ => true) true n0_ 63 [c4, c5, c6, c7, c8, c9, c10, c11, c12, c13, c14, c15, c16, c17] = some _ from g0_4)
    obtain ⟨_, g1_0⟩ := f1 0 3 0 1 (by kernel_rfl) (by kernel_rfl)
    obtain ⟨n4, e4, _, w4⟩ := DataW.trod_int ound_3 (show DataW.trod enc Tryz.prog W 0 (fun _ => true) true n1_ 3 [c4] = some _ from g1_0)
    obtain ⟨_, g1_1⟩ := f1 1 3 1 1 (by kernel_rfl) (by kernel_rfl)
    obtain ⟨n5, e5, _, w5⟩ := DataW.trod_int ound_3 (show DataW.trod enc Tryz.prog W 0 (fun _ => true) true n1_ 3 [c5] = some _ from g1_1)
    obtain ⟨_, g1_2⟩ := f1 2 3 2 1 (by kernel_rfl) (by kernel_rfl)
    obtain ⟨n6, e6, _, w6⟩ := DataW.trod_int ound_3 (show DataW.trod enc Tryz.prog W 0 (fun _ => true) true n1_ 3 [c6] = some _ from g1_2)
    obtain ⟨_, g1_3⟩ := f1 3 3 3 1 (by kernel_rfl) (by kernel_rfl)
    obtain ⟨n7, e7, _, w7⟩ := DataW.trod_int ound_3 (show DataW.trod enc Tryz.prog W 0 (fun _ => true) true n1_ 3 [c7] = some _ from g1_3)
    obtain ⟨_, g1_4⟩ := f1 4 3 4 1 (by kernel_rfl) (by kernel_rfl)
    obtain ⟨n8, e8, _, w8⟩ := DataW.trod_int ound_3 (show DataW.trod enc Tryz.prog W 0 (fun _ => true) true n1_ 3 [c8] = some _ from g1_4)
    obtain ⟨_, g1_5⟩ := f1 5 3 5 1 (by kernel_rfl) (by kernel_rfl)
    obtain ⟨n9, e9, _, w9⟩ := DataW.trod_int ound_3 (show DataW.trod enc Tryz.prog W 0 (fun _ => true) true n1_ 3 [c9] = some _ from g1_5)
    obtain ⟨_, g1_6⟩ := f1 6 3 6 1 (by kernel_rfl) (by kernel_rfl)
    obtain ⟨n10, e10, _, w10⟩ := DataW.trod_int ound_3 (show DataW.trod enc Tryz.prog W 0 (fun _ => true) true n1_ 3 [c10] = some _ from g1_6)
    obtain ⟨_, g1_7⟩ := f1 7 3 7 1 (by kernel_rfl) (by kernel_rfl)
    obtain ⟨n11, e11, _, w11⟩ := DataW.trod_int ound_3 (show DataW.trod enc Tryz.prog W 0 (fun _ => true) true n1_ 3 [c11] = some _ from g1_7)
    obtain ⟨_, g1_8⟩ := f1 8 3 8 1 (by kernel_rfl) (by kernel_rfl)
    obtain ⟨n12, e12, _, w12⟩ := DataW.trod_int ound_3 (show DataW.trod enc Tryz.prog W 0 (fun _ => true) true n1_ 3 [c12] = some _ from g1_8)
    obtain ⟨_, g1_9⟩ := f1 9 3 9 1 (by kernel_rfl) (by kernel_rfl)
    obtain ⟨n13, e13, _, w13⟩ := DataW.trod_int ound_3 (show DataW.trod enc Tryz.prog W 0 (fun _ => true) true n1_ 3 [c13] = some _ from g1_9)
    obtain ⟨_, g1_10⟩ := f1 10 61 10 2 (by kernel_rfl) (by kernel_rfl)
    obtain ⟨_, n2_, f2⟩ := trod_seg (C := 2) ostr_61 (by kernel_rfl) (show DataW.trod enc Tryz.prog W 0 (fun _ => true) true n1_ 61 [c14, c15] = some _ from g1_10)
    obtain ⟨_, g2_0⟩ := f2 0 3 0 1 (by kernel_rfl) (by kernel_rfl)
    obtain ⟨n14, e14, _, w14⟩ := DataW.trod_int ound_3 (show DataW.trod enc Tryz.prog W 0 (fun _ => true) true n2_ 3 [c14] = some _ from g2_0)
    obtain ⟨_, g2_1⟩ := f2 1 3 1 1 (by kernel_rfl) (by kernel_rfl)
    obtain ⟨n15, e15, _, w15⟩ := DataW.trod_int ound_3 (show DataW.trod enc Tryz.prog W 0 (fun _ => true) true n2_ 3 [c15] = some _ from g2_1)
    obtain ⟨_, g1_11⟩ := f1 11 61 12 2 (by kernel_rfl) (by kernel_rfl)
    obtain ⟨_, n3_, f3⟩ := trod_seg (C := 2) ostr_61 (by kernel_rfl) (show DataW.trod enc Tryz.prog W 0 (fun _ => true) true n1_ 61 [c16, c17] = some _ from g1_11)
    obtain ⟨_, g3_0⟩ := f3 0 3 0 1 (by kernel_rfl) (by kernel_rfl)
    obtain ⟨n16, e16, _, w16⟩ := DataW.trod_int ound_3 (show DataW.trod enc Tryz.prog W 0 (fun _ => true) true n3_ 3 [c16] = some _ from g3_0)
    obtain ⟨_, g3_1⟩ := f3 1 3 1 1 (by kernel_rfl) (by kernel_rfl)
    obtain ⟨n17, e17, _, w17⟩ := DataW.trod_int ound_3 (show DataW.trod enc Tryz.prog W 0 (fun _ => true) true n3_ 3 [c17] = some _ from g3_1)
    obtain ⟨_, g0_5⟩ := f0 5 23 18 1 (by kernel_rfl) (by kernel_rfl)
    obtain ⟨a18, m18, q18, n18, e18, s18, o18, _⟩ := open_SlT (t := 23) (e := 3) encI (fun n : Int => -9223372036854775808 ≤ n ∧ n ≤ 9223372036854775807) ound_23 (by kernel_rfl) (by decide) encI_len (fun fuel cs x h => el_int ound_3 rfl fuel cs x h) (show DataW.trod enc Tryz.prog W 0 (fun _ => true) true n0_ 23 [c18] = some _ from g0_5)
    cases e0; cases e1; cases e2; cases e3; cases e4; cases e5; cases e6; cases e7; cases e8; cases e9; cases e10; cases e11; cases e12; cases e13; cases e14; cases e15; cases e16; cases e17; cases e18
    exact ⟨⟨n0, n1, n2, n3, ⟨n4, n5, n6, n7, n8, n9, n10, n11, n12, n13, n14, n15, n16, n17⟩, a18, m18, q18, n18⟩, s18, rfl⟩
theorem open_ps {H : Type} {enc : TypeId × Value → H} {W : World} {base : Nat} {v : Value} {d : DataW H} {p : List MemPlace} (hv : Value.okWide Tryz.prog W .any base 22 v) (h : DataW.Trod enc Tryz.prog W 0 (fun _ => true) true 22 v d p) :
    ∃ av n c xs, v = .slice av n c ∧ SlP (heapI W) av n c xs := by
  obtain ⟨av, n, c, xs, e, hS, hok, _⟩ := open_Sl (e := 65) encP (fun p => Nd (heapI W) p) ound_22 (by kernel_rfl) (by decide) encP_len (fun fuel cs x h => el_pt fuel cs x h) hv h
  exact ⟨av, n, c, xs, e, ⟨hS, hok⟩⟩
theorem heads9 {I : HMap} : ∀ (hs : List Hd), (∀ h ∈ hs, ∃ v, Sl I 1 encI h.a h.n h.c v) → ∃ vss : List (List Int), RelA I 1 encI hs vss
  | [], _ => ⟨[], rfl, fun k h v a b => by simp at a⟩
  | x :: hs, H => by
    obtain ⟨vss, hl, hv⟩ := heads9 hs fun h hh => H h (List.mem_cons_of_mem _ hh)
    obtain ⟨v0, h0⟩ := H x (List.mem_cons_self ..)
    refine ⟨v0 :: vss, by simp [hl], fun k h v a b => ?_⟩
    cases k with
    | zero => cases a; cases b; exact h0
    | succ k => exact hv k h v a b
theorem open_nest {H : Type} {enc : TypeId × Value → H} {W : World} {base : Nat} {v : Value} {d : DataW H} {p : List MemPlace} (hv : Value.okWide Tryz.prog W .any base 24 v) (h : DataW.Trod enc Tryz.prog W 0 (fun _ => true) true 24 v d p) :
    ∃ av n c hs vss, v = .slice av n c ∧ SlHA (heapI W) 1 encI av n c hs vss := by
  obtain ⟨av, n, c, hs, e, hS, hok, hm⟩ := open_Sl (e := 23) encH (fun h => ∃ v, Sl (heapI W) 1 encI h.a h.n h.c v) (by kernel_rfl) (by kernel_rfl) (by decide) encH_len (fun fuel cs x h => by
    obtain ⟨a, m, q, ys, e, hT, _⟩ := open_SlT (t := 23) (e := 3) encI (fun _ => True) (by kernel_rfl) (by kernel_rfl) (by decide) encI_len (fun fuel cs x h => by
      obtain ⟨y, _, e⟩ := el_int ound_3 rfl fuel cs x h
      exact ⟨y, trivial, e⟩) h
    exact ⟨⟨a, m, q⟩, ⟨ys, hT⟩, e.symm⟩) hv h
  obtain ⟨vss, hr⟩ := heads9 hs hok
  exact ⟨av, n, c, hs, vss, e, hS, hr⟩
end Go.Proofs.YtehkiccapbkhnaaGreat
end
section
namespace Go.Proofs.YtehkiccapbkhnaaGreat
open Go Go.Kn Go.Proofs
open Go.ChangeShapes Go.WideShapes Go.ChangeAt Go.RowKit
theorem own : ownKnob Tryz.prog.godebug = none := by kernel_rfl
theorem laidOut : laidOutB Tryz.prog = true := by kernel_rfl
set_option maxRecDepth 100000 in
theorem rehearseTogether_lifted (os : Os) (started : os.Started) (H : Type) (enc : TypeId × Value → H) :
    ReturnsInHanded {} Tryz.checked os 8 .any (Rows.rehearseTogetherSpec.pre6 enc Tryz.prog Tryz.f8 Rows.rehearseTogetherRow.domain false) (Rows.rehearseTogetherSpec.post enc Tryz.prog Tryz.f8 false true false false) := by
  refine returnsInHanded_of_change (C := Tryz.checked) own started (by kernel_rfl) Tryz.func8
    (ChangeSpec.witness6 (enc := enc) (C := Tryz.checked) false ⟨#[], #[.slice none 0 0, .slice none 0 0, .slice none 0 0, .agg #[.slice none 0 0, .int .i64 0, .int .i64 0, .int .i64 0, .int .i64 0, .slice none 0 0], .bool false], []⟩ 8 (by kernel_rfl) (by kernel_rfl) (by kernel_rfl) (by kernel_rfl)) ?_
  intro W base args ds gs before hval0 hW hcnd _
  have hval : ∀ (j : Nat) t v, Tryz.f8.params[j]? = some t → args[j]? = some v → Value.okWide Tryz.prog W .any base t v := hval0
  have hW' := hW
  obtain ⟨p, q, hA0, hV, rfl, hfz, hnd⟩ := hW
  have hA : DataW.TrodAll enc Tryz.prog W 0 (fun _ => true) true Tryz.f8.params.toList args.toList ds p := hA0
  rw [Tryz.params8] at hA hval
  obtain ⟨v0, vs1, d0, ds1, p0, q1, ea, rfl, rfl, h0, hA⟩ := trodAll_cons hA
  obtain ⟨v1, vs2, d1, ds2, p1, q2, rfl, rfl, rfl, h1, hA⟩ := trodAll_cons hA
  obtain ⟨v2, vs3, d2, ds3, p2, q3, rfl, rfl, rfl, h2, hA⟩ := trodAll_cons hA
  obtain ⟨v3, vs4, d3, ds4, p3, q4, rfl, rfl, rfl, h3, hA⟩ := trodAll_cons hA
  obtain ⟨v4, vs5, d4, ds5, p4, q5, rfl, rfl, rfl, h4, hA⟩ := trodAll_cons hA
  obtain ⟨rfl, rfl, rfl⟩ := trodAll_nil hA
  have ea' : args = #[v0, v1, v2, v3, v4] := by rw [← Array.toArray_toList (xs := args), ea]
  subst ea'
  obtain ⟨rfl, rfl⟩ := trodVars_none hV
  obtain ⟨av, n, c, ps, rfl, hP⟩ := open_ps (hval 0 22 v0 rfl rfl) h0
  obtain ⟨bv, n2, c2, tg, rfl, hT⟩ := open_ints (hval 1 23 v1 rfl rfl) h1
  obtain ⟨dv, n3, c3, hsh, has, rfl, hV⟩ := open_nest (hval 2 24 v2 rfl rfl) h2
  obtain ⟨x, rfl, cr, hC⟩ := open_cr (hval 3 33 v3 rfl rfl) h3
  obtain ⟨back, rfl, _⟩ := open_bool und_4 (hval 4 4 v4 rfl rfl) h4
  refine (RetV.law (w_togetherLaw hP hT hV hC back)).mono fun e W' ⟨he, hB⟩ => ?_
  subst he
  exact ⟨_, rfl, post_law laidOut (by kernel_rfl) und_4 rfl rfl (by rw [Tryz.params8]; simp only [List.mem_cons, List.not_mem_nil, or_false, forall_eq_or_imp, forall_eq]; exact ⟨⟨by kernel_rfl, of_decide_eq_true (by kernel_rfl)⟩, ⟨by kernel_rfl, of_decide_eq_true (by kernel_rfl)⟩, ⟨by kernel_rfl, of_decide_eq_true (by kernel_rfl)⟩, ⟨by kernel_rfl, of_decide_eq_true (by kernel_rfl)⟩, ⟨by kernel_rfl, of_decide_eq_true (by kernel_rfl)⟩⟩) hW' hB⟩
theorem rehearseTogether_holds : Rows.RehearseTogetherSaid :=
  OpenClaim.holds_of_wide 8 Tryz.f8 rfl rfl rfl rfl rfl rfl rfl ⟨rfl, rfl, rfl, rfl, rfl⟩ rfl rfl rfl rfl rfl (by kernel_rfl) Tryz.func8 (by kernel_rfl)
    (of_decide_eq_true (by kernel_rfl)) (by unfold Func.isWrapper; first | (rw [if_pos (by decide +kernel)]; kernel_rfl) | (rw [if_neg (by decide +kernel)]; exact ⟨rfl, rfl⟩))
    (fun os started H enc _ => rehearseTogether_lifted os started H enc)
#print axioms rehearseTogether_holds
end Go.Proofs.YtehkiccapbkhnaaGreat
end
