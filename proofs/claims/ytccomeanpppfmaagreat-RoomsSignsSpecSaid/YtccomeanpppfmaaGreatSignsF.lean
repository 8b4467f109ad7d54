/- roomsSignsSpec_holds, part F of the proof: what its theorems say holds without further conditions. -/
import Derived.Test.YtccomeanpppfmaaGreatSignsE
section
namespace Go.Proofs.YtccomeanpppfmaaGreat
open Go Go.Kn Go.Proofs
theorem fun_138 : Fun Tryz.prog 138 := .of Tryz.func138 (by kernel_rfl) (by kernel_rfl)
theorem fun_177 : Fun Tryz.prog 177 := .of Tryz.func177 (by kernel_rfl) (by kernel_rfl)
theorem fun_190 : Fun Tryz.prog 190 := .of Tryz.func190 (by kernel_rfl) (by kernel_rfl)
theorem fun_191 : Fun Tryz.prog 191 := .of Tryz.func191 (by kernel_rfl) (by kernel_rfl)
theorem fun_195 : Fun Tryz.prog 195 := .of Tryz.func195 (by kernel_rfl) (by kernel_rfl)
theorem fun_196 : Fun Tryz.prog 196 := .of Tryz.func196 (by kernel_rfl) (by kernel_rfl)
theorem fun_197 : Fun Tryz.prog 197 := .of Tryz.func197 (by kernel_rfl) (by kernel_rfl)
theorem fun_198 : Fun Tryz.prog 198 := .of Tryz.func198 (by kernel_rfl) (by kernel_rfl)
theorem fun_199 : Fun Tryz.prog 199 := .of Tryz.func199 (by kernel_rfl) (by kernel_rfl)
theorem fun_83 : Fun Tryz.prog 83 := .of Tryz.func83 (by kernel_rfl) (by kernel_rfl)
theorem r_div (I : HMap) (a0 b0 : Nat) (ha : a0 ≤ 1073741824) (hb : b0 ≤ 1073741824) : RetV Tryz.prog 198 [.int .i64 a0, .int .i64 b0] I (.int .i64 (Nat.gcd a0 b0 : Nat)) := by
 intro g H w hw
 refine enter Tryz.func198 rfl Tryz.ntmps198 rfl hw ?_
 refine X_seq (X_region ?_)
 refine XO_v0 (ev_assign rfl) rfl rfl rfl ?_
 refine XO_nil (at_then ?_)
 refine X_seq ?_
 refine X_block ?_
 refine X_loopT [] .nil (fun T L0 mz E I' loc' => ∃ (a b : Nat), mz = (b + 1) ∧ E = (0, .int .i64 a) :: (1, .int .i64 b) :: T ∧ I = I' ∧ L0 = loc' ∧ Nat.gcd a b = Nat.gcd a0 b0) _ _ _ _ ⟨a0, b0, rfl, rfl, rfl, rfl, rfl⟩ (.cons rfl (.cons rfl .nil)) (HLe.refl _) rfl ?_
 rintro mz E I' loc' ⟨a, b, rfl, rfl, rfl, rfl, hgc⟩
 refine X_seq ?_
 refine X_seq (X_region ?_)
 refine XO_v0 (ev_move rfl) rfl rfl rfl ?_
 refine XO_v0 (ev_cmp rfl rfl rfl) rfl rfl rfl ?_
 refine XO_nil (at_then ?_)
 refine X_cond rfl (fun hc7 => ?_) (fun hc7 => ?_)
 ·
  have hbp : 0 < b := by have h := hc7; simp at h; omega
  refine X_skip ?_
  refine at_then ?_
  refine X_block ?_
  refine X_seq (X_region ?_)
  refine XO_v0 (ev_move rfl) rfl rfl rfl ?_
  refine XO_v0 (ev_move rfl) rfl rfl rfl ?_
  refine XO_v0 (ev_rem rfl rfl (fun hg => by omega)) rfl rfl rfl ?_
  rw [tmod_nat]
  refine XO_v0 (ev_assign rfl) rfl rfl rfl ?_
  refine XO_nil (at_then ?_)
  refine X_seq (X_region ?_)
  refine XO_v0 (ev_move rfl) rfl rfl rfl ?_
  refine XO_v0 (ev_assign rfl) rfl rfl rfl ?_
  refine XO_nil (at_then ?_)
  refine X_region ?_
  refine XO_v0 (ev_move rfl) rfl rfl rfl ?_
  refine XO_v0 (ev_assign rfl) rfl rfl rfl ?_
  refine XO_nil ?_
  refine at_block_n ?_
  exact at_met2 _ _ ⟨a % b + 1, Nat.succ_lt_succ (Nat.mod_lt _ hbp), b, a % b, rfl, rfl, rfl, rfl, gcd_step hgc⟩ (.cons rfl (.cons rfl .nil)) (by repeat (first | exact .refl | exact subL_left | refine subL_app ?_ | refine .drop ?_ | refine subL_add ?_))
 ·
  have hb0 : b = 0 := by have h := hc7; simp at h; omega
  refine X_exit ?_
  refine at_then_e ?_
  refine at_then_e ?_
  refine at_block_hit ?_
  refine at_then ?_
  refine X_seq (X_region ?_)
  refine XO_v0 (ev_move rfl) rfl rfl rfl ?_
  refine XO_v0 (ev_assign rfl) rfl rfl rfl ?_
  refine XO_nil (at_then ?_)
  refine X_ret ?_
  exact at_ret1 rfl rfl (fun w hw => ⟨by rw [← hgc, hb0, Nat.gcd_zero_right], hw.drop⟩)
theorem r_divI (I : HMap) (a b : Int) (ha : 0 ≤ a ∧ a ≤ 1073741824) (hb : 0 ≤ b ∧ b ≤ 1073741824) : RetV Tryz.prog 198 [.int .i64 a, .int .i64 b] I (.int .i64 (gcdI a b)) := by
 have h := r_div I a.toNat b.toNat (by omega) (by omega)
 rw [Int.toNat_of_nonneg ha.1, Int.toNat_of_nonneg hb.1, gcdI_nat ha.1 hb.1] at h
 exact h
theorem r_size (I : HMap) (n : Int) (hn : -1073741824 ≤ n ∧ n ≤ 1073741824) : RetV Tryz.prog 199 [.int .i64 n] I (.int .i64 (magI n)) := by
 intro g H w hw
 refine enter Tryz.func199 rfl Tryz.ntmps199 rfl hw ?_
 refine X_seq (X_region ?_)
 refine XO_v0 (ev_assign rfl) rfl rfl rfl ?_
 refine XO_nil (at_then ?_)
 refine X_seq ?_
 refine X_seq (X_region ?_)
 refine XO_v0 (ev_move rfl) rfl rfl rfl ?_
 refine XO_v0 (ev_cmp rfl rfl rfl) rfl rfl rfl ?_
 refine XO_nil (at_then ?_)
 refine X_cond rfl (fun hc4 => ?_) (fun hc4 => ?_)
 ·
  refine X_seq (X_region ?_)
  refine XO_v0 (ev_move rfl) rfl rfl rfl ?_
  refine XO_v0 (ev_neg rfl) rfl rfl rfl ?_
  refine XO_v0 (ev_assign rfl) rfl rfl rfl ?_
  refine XO_nil (at_then ?_)
  refine X_ret ?_
  refine at_then_r ?_
  first
  | exact at_ret1 rfl rfl (fun w hw => ⟨by unfold magI; rw [if_pos (by simpa using hc4), wrap_in (by omega)], hw.drop⟩)
 ·
  refine X_skip ?_
  refine at_then ?_
  refine X_seq (X_region ?_)
  refine XO_v0 (ev_move rfl) rfl rfl rfl ?_
  refine XO_v0 (ev_assign rfl) rfl rfl rfl ?_
  refine XO_nil (at_then ?_)
  refine X_ret ?_
  first
  | exact at_ret1 rfl rfl (fun w hw => ⟨by unfold magI; rw [if_neg (by simpa using hc4)], hw.drop⟩)
theorem r_valid (I : HMap) (n d : Int) : RetV Tryz.prog 197 [encRA (n) (d)] I (.bool (ratF n d)) := by
 intro g H w hw
 refine enter Tryz.func197 rfl Tryz.ntmps197 rfl hw ?_
 refine X_seq (X_region ?_)
 refine XO_box rfl rfl rfl (fun b_1 => ?_)
 refine XO_v0 (ev_assign rfl) rfl rfl rfl ?_
 refine XO_nil (at_then ?_)
 refine X_seq ?_
 refine X_draw mixed (by kernel_rfl) ?_
 refine XQ_v0 (ev_fieldAddr rfl fld_43_1) rfl rfl rfl ?_
 refine XQ_v0 (ev_load rfl sct_3 (fun hg => by repeat (first | exact Cell.here rfl | apply Cell.there | apply Cell.app))) rfl rfl rfl ?_
 refine XQ_v0 (ev_cmp rfl rfl rfl) rfl rfl rfl ?_
 refine XQ_v0 (ev_move rfl) rfl rfl rfl ?_
 refine XQ_pushT 3 rfl rfl rfl ?_
 refine XQ_v1 (ev_fieldAddr rfl fld_43_1) (.some rfl rfl rfl rfl gbt) rfl rfl rfl ?_
 refine XQ_v1 (ev_load rfl sct_3 (fun hg => by repeat (first | exact Cell.here rfl | apply Cell.there | apply Cell.app))) (.some rfl rfl rfl rfl gbt) rfl rfl rfl ?_
 refine XQ_v1 (ev_cmp rfl rfl rfl) (.some rfl rfl rfl rfl gbt) rfl rfl rfl ?_
 refine XQ_and0 rfl rfl rfl rfl rfl ?_
 refine XQ_v0 (ev_move rfl) rfl rfl rfl ?_
 refine XQ_pushT 8 rfl rfl rfl ?_
 refine XQ_v1 (ev_fieldAddr rfl fld_43_0) (.some rfl rfl rfl rfl gbt) rfl rfl rfl ?_
 refine XQ_v1 (ev_load rfl sct_3 (fun hg => by repeat (first | exact Cell.here rfl | apply Cell.there | apply Cell.app))) (.some rfl rfl rfl rfl gbt) rfl rfl rfl ?_
 refine XQ_v1 (ev_cmp rfl rfl rfl) (.some rfl rfl rfl rfl gbt) rfl rfl rfl ?_
 refine XQ_and0 rfl rfl rfl rfl rfl ?_
 refine XQ_v0 (ev_move rfl) rfl rfl rfl ?_
 refine XQ_pushT 13 rfl rfl rfl ?_
 refine XQ_v1 (ev_fieldAddr rfl fld_43_0) (.some rfl rfl rfl rfl gbt) rfl rfl rfl ?_
 refine XQ_v1 (ev_load rfl sct_3 (fun hg => by repeat (first | exact Cell.here rfl | apply Cell.there | apply Cell.app))) (.some rfl rfl rfl rfl gbt) rfl rfl rfl ?_
 refine XQ_v1 (ev_cmp rfl rfl rfl) (.some rfl rfl rfl rfl gbt) rfl rfl rfl ?_
 refine XQ_and0 rfl rfl rfl rfl rfl ?_
 refine XQ_v0 (ev_move rfl) rfl rfl rfl ?_
 refine XQ_pushT 18 rfl rfl rfl ?_
 refine XQ_v1 (ev_fieldAddr rfl fld_43_0) (.some rfl rfl rfl rfl gbt) rfl rfl rfl ?_
 refine XQ_v1 (ev_load rfl sct_3 (fun hg => by repeat (first | exact Cell.here rfl | apply Cell.there | apply Cell.app))) (.some rfl rfl rfl rfl gbt) rfl rfl rfl ?_
 refine XQ_callV1 (cap := []) (vs := [_]) rfl rfl fun_199 (fun hg => r_size I n (by simp [conj] at hg; omega)) (.some rfl rfl rfl rfl gbt) rfl rfl ?_
 refine XQ_v1 (ev_fieldAddr rfl fld_43_1) (.some rfl rfl rfl rfl gbt) rfl rfl rfl ?_
 refine XQ_v1 (ev_load rfl sct_3 (fun hg => by repeat (first | exact Cell.here rfl | apply Cell.there | apply Cell.app))) (.some rfl rfl rfl rfl gbt) rfl rfl rfl ?_
 refine XQ_callV1 (cap := []) (vs := [_, _]) rfl rfl fun_198 (fun hg => r_divI I _ d (magI_in (by simp [conj] at hg; omega)) (by simp [conj] at hg; omega)) (.some rfl rfl rfl rfl gbt) rfl rfl ?_
 refine XQ_v1 (ev_cmp rfl rfl rfl) (.some rfl rfl rfl rfl gbt) rfl rfl rfl ?_
 refine XQ_and0 rfl rfl rfl rfl rfl ?_
 refine XQ_v0 (ev_assign rfl) rfl rfl rfl ?_
 refine XQ_nil ?_
 refine at_then ?_
 refine X_ret ?_
 exact at_ret1 rfl rfl (fun w hw => ⟨by rw [← valid_eq], hw.drop⟩)
theorem r_both (I : HMap) (an ad bn bd : Int) : RetV Tryz.prog 195 [encRA (an) (ad), encRA (bn) (bd)] I (.bool (ratF an ad && ratF bn bd)) := by
 intro g H w hw
 refine enter Tryz.func195 rfl Tryz.ntmps195 rfl hw ?_
 refine X_seq (X_region ?_)
 refine XO_box rfl rfl rfl (fun b_2 => ?_)
 refine XO_box rfl rfl rfl (fun b_3 => ?_)
 refine XO_v0 (ev_assign rfl) rfl rfl rfl ?_
 refine XO_nil (at_then ?_)
 refine X_seq (X_region ?_)
 refine XO_v0 (ev_loadA rfl agt_43 (fun hg => by first | (repeat (first | exact Cells.here | exact Cells.s0 (vs := [_, _]) rfl | apply Cells.there | apply Cells.app))) rfl) rfl rfl rfl ?_
 refine XO_callV0 (cap := []) (vs := [_]) rfl rfl fun_197 (r_valid I _ _) rfl rfl ?_
 refine XO_v0 (ev_move rfl) rfl rfl rfl ?_
 refine XO_pushT 2 rfl rfl rfl ?_
 refine XO_v1 (ev_loadA rfl agt_43 (fun hg => by first | (repeat (first | exact Cells.here | exact Cells.s0 (vs := [_, _]) rfl | apply Cells.there | apply Cells.app))) rfl) (.some rfl rfl rfl rfl gbt) rfl rfl rfl ?_
 refine XO_callV1 (cap := []) (vs := [_]) rfl rfl fun_197 (fun hg => r_valid I _ _) (.some rfl rfl rfl rfl gbt) rfl rfl ?_
 refine XO_and0 rfl rfl rfl rfl rfl ?_
 refine XO_v0 (ev_assign rfl) rfl rfl rfl ?_
 refine XO_nil (at_then ?_)
 refine X_ret ?_
 exact at_ret1 rfl rfl (fun w hw => ⟨by rfl, hw.drop⟩)
theorem r_less (I : HMap) (an ad bn bd : Int) (ha : ratF an ad = true) (hb : ratF bn bd = true) : RetV Tryz.prog 196 [encRA (an) (ad), encRA (bn) (bd)] I (.bool (decide (an * bd < bn * ad))) := by
 intro g H w hw
 refine enter Tryz.func196 rfl Tryz.ntmps196 rfl hw ?_
 have ⟨ha1, ha2⟩ := ratF_in ha
 have ⟨hb1, hb2⟩ := ratF_in hb
 refine X_seq (X_region ?_)
 refine XO_box rfl rfl rfl (fun b_2 => ?_)
 refine XO_box rfl rfl rfl (fun b_3 => ?_)
 refine XO_v0 (ev_assign rfl) rfl rfl rfl ?_
 refine XO_nil (at_then ?_)
 refine X_seq (X_region ?_)
 refine XO_v0 (ev_fieldAddr rfl fld_43_0) rfl rfl rfl ?_
 refine XO_v0 (ev_load rfl sct_3 (fun hg => by repeat (first | exact Cell.here rfl | apply Cell.there | apply Cell.app))) rfl rfl rfl ?_
 refine XO_v0 (ev_fieldAddr rfl fld_43_1) rfl rfl rfl ?_
 refine XO_v0 (ev_load rfl sct_3 (fun hg => by repeat (first | exact Cell.here rfl | apply Cell.there | apply Cell.app))) rfl rfl rfl ?_
 refine XO_v0 (ev_arB rfl rfl rfl (fun _ => by exact mul_b (by omega) (by omega))) rfl rfl rfl ?_
 refine XO_v0 (ev_fieldAddr rfl fld_43_0) rfl rfl rfl ?_
 refine XO_v0 (ev_load rfl sct_3 (fun hg => by repeat (first | exact Cell.here rfl | apply Cell.there | apply Cell.app))) rfl rfl rfl ?_
 refine XO_v0 (ev_fieldAddr rfl fld_43_1) rfl rfl rfl ?_
 refine XO_v0 (ev_load rfl sct_3 (fun hg => by repeat (first | exact Cell.here rfl | apply Cell.there | apply Cell.app))) rfl rfl rfl ?_
 refine XO_v0 (ev_arB rfl rfl rfl (fun _ => by exact mul_b (by omega) (by omega))) rfl rfl rfl ?_
 refine XO_v0 (ev_cmp rfl rfl rfl) rfl rfl rfl ?_
 refine XO_v0 (ev_assign rfl) rfl rfl rfl ?_
 refine XO_nil (at_then ?_)
 refine X_ret ?_
 exact at_ret1 rfl rfl (fun w hw => ⟨by rfl, hw.drop⟩)
theorem r_within (I : HMap) (n lo hi : Int) : RetV Tryz.prog 190 [.int .i64 n, .int .i64 lo, .int .i64 hi] I (.bool (within n lo hi)) := by
 intro g H w hw
 refine enter Tryz.func190 rfl Tryz.ntmps190 rfl hw ?_
 refine X_seq (X_region ?_)
 refine XO_v0 (ev_assign rfl) rfl rfl rfl ?_
 refine XO_nil (at_then ?_)
 refine X_seq (X_region ?_)
 refine XO_v0 (ev_move rfl) rfl rfl rfl ?_
 refine XO_v0 (ev_move rfl) rfl rfl rfl ?_
 refine XO_v0 (ev_cmp rfl rfl rfl) rfl rfl rfl ?_
 refine XO_v0 (ev_move rfl) rfl rfl rfl ?_
 refine XO_pushT 3 rfl rfl rfl ?_
 refine XO_v1 (ev_move rfl) (.some rfl rfl rfl rfl gbt) rfl rfl rfl ?_
 refine XO_v1 (ev_move rfl) (.some rfl rfl rfl rfl gbt) rfl rfl rfl ?_
 refine XO_v1 (ev_cmp rfl rfl rfl) (.some rfl rfl rfl rfl gbt) rfl rfl rfl ?_
 refine XO_and0 rfl rfl rfl rfl rfl ?_
 refine XO_v0 (ev_assign rfl) rfl rfl rfl ?_
 refine XO_nil (at_then ?_)
 refine X_ret ?_
 exact at_ret1 rfl rfl (fun w hw => ⟨by first | rfl | simp_all, hw.drop⟩)
theorem r_span (I : HMap) (an ad bn bd : Int) : RetV Tryz.prog 191 [encRA (an) (ad), encRA (bn) (bd)] I (.bool (spanF an ad bn bd)) := by
 intro g H w hw
 refine enter Tryz.func191 rfl Tryz.ntmps191 rfl hw ?_
 refine X_seq (X_region ?_)
 refine XO_box rfl rfl rfl (fun b_2 => ?_)
 refine XO_box rfl rfl rfl (fun b_3 => ?_)
 refine XO_v0 (ev_assign rfl) rfl rfl rfl ?_
 refine XO_nil (at_then ?_)
 refine X_seq (X_region ?_)
 refine XO_v0 (ev_loadA rfl agt_43 (fun hg => by first | (repeat (first | exact Cells.here | exact Cells.s0 (vs := [_, _]) rfl | apply Cells.there | apply Cells.app))) rfl) rfl rfl rfl ?_
 refine XO_v0 (ev_loadA rfl agt_43 (fun hg => by first | (repeat (first | exact Cells.here | exact Cells.s0 (vs := [_, _]) rfl | apply Cells.there | apply Cells.app))) rfl) rfl rfl rfl ?_
 refine XO_callV0 (cap := []) (vs := [_, _]) rfl rfl fun_195 (r_both I _ _ _ _) rfl rfl ?_
 refine XO_v0 (ev_assign rfl) rfl rfl rfl ?_
 refine XO_nil (at_then ?_)
 refine X_seq (X_region ?_)
 refine XO_v0 (ev_move rfl) rfl rfl rfl ?_
 refine XO_v0 (ev_move rfl) rfl rfl rfl ?_
 refine XO_pushT 1 rfl rfl rfl ?_
 refine XO_v1 (ev_fieldAddr rfl fld_43_0) (.some rfl rfl rfl rfl gbt) rfl rfl rfl ?_
 refine XO_v1 (ev_load rfl sct_3 (fun hg => by repeat (first | exact Cell.here rfl | apply Cell.there | apply Cell.app))) (.some rfl rfl rfl rfl gbt) rfl rfl rfl ?_
 refine XO_v1 (ev_cmp rfl rfl rfl) (.some rfl rfl rfl rfl gbt) rfl rfl rfl ?_
 refine XO_and0 rfl rfl rfl rfl rfl ?_
 refine XO_v0 (ev_move rfl) rfl rfl rfl ?_
 refine XO_pushT 6 rfl rfl rfl ?_
 refine XO_v1 (ev_loadA rfl agt_43 (fun hg => by first | (repeat (first | exact Cells.here | exact Cells.s0 (vs := [_, _]) rfl | apply Cells.there | apply Cells.app))) rfl) (.some rfl rfl rfl rfl gbt) rfl rfl rfl ?_
 refine XO_v1 (ev_loadA rfl agt_43 (fun hg => by first | (repeat (first | exact Cells.here | exact Cells.s0 (vs := [_, _]) rfl | apply Cells.there | apply Cells.app))) rfl) (.some rfl rfl rfl rfl gbt) rfl rfl rfl ?_
 refine XO_callV1 (cap := []) (vs := [_, _]) rfl rfl fun_196 (fun hg => r_less I _ _ _ _ (by simp [conj] at hg; exact hg.1.1) (by simp [conj] at hg; exact hg.1.2)) (.some rfl rfl rfl rfl gbt) rfl rfl ?_
 refine XO_and0 rfl rfl rfl rfl rfl ?_
 refine XO_v0 (ev_move rfl) rfl rfl rfl ?_
 refine XO_pushT 11 rfl rfl rfl ?_
 refine XO_v1 (ev_fieldAddr rfl fld_43_0) (.some rfl rfl rfl rfl gbt) rfl rfl rfl ?_
 refine XO_v1 (ev_load rfl sct_3 (fun hg => by repeat (first | exact Cell.here rfl | apply Cell.there | apply Cell.app))) (.some rfl rfl rfl rfl gbt) rfl rfl rfl ?_
 refine XO_v1 (ev_fieldAddr rfl fld_43_1) (.some rfl rfl rfl rfl gbt) rfl rfl rfl ?_
 refine XO_v1 (ev_load rfl sct_3 (fun hg => by repeat (first | exact Cell.here rfl | apply Cell.there | apply Cell.app))) (.some rfl rfl rfl rfl gbt) rfl rfl rfl ?_
 refine XO_v1 (ev_cmp rfl rfl rfl) (.some rfl rfl rfl rfl gbt) rfl rfl rfl ?_
 refine XO_and0 rfl rfl rfl rfl rfl ?_
 refine XO_v0 (ev_assign rfl) rfl rfl rfl ?_
 refine XO_nil (at_then ?_)
 refine X_ret ?_
 exact at_ret1 rfl rfl (fun w hw => ⟨by rw [← spanR_eq], hw.drop⟩)
theorem r_frm (I : HMap) (x : Sg) : RetV Tryz.prog 177 [encGA x] I (.bool (frm x)) := by
 intro g H w hw
 refine enter Tryz.func177 rfl Tryz.ntmps177 rfl hw ?_
 refine X_seq (X_region ?_)
 refine XO_box rfl rfl rfl (fun b_1 => ?_)
 refine XO_v0 (ev_assign rfl) rfl rfl rfl ?_
 refine XO_nil (at_then ?_)
 refine X_seq ?_
 refine X_seq (X_region ?_)
 refine XO_v0 (ev_fieldAddr rfl fld_45_0) rfl rfl rfl ?_
 refine XO_v0 (ev_load rfl sct_3 (fun hg => by repeat (first | exact Cell.here rfl | apply Cell.there | apply Cell.app))) rfl rfl rfl ?_
 refine XO_callV0 (cap := []) (vs := [_, _, _]) rfl rfl fun_190 (r_within I _ _ _) rfl rfl ?_
 refine XO_v0 (ev_not rfl) rfl rfl rfl ?_
 refine XO_v0 (ev_move rfl) rfl rfl rfl ?_
 refine XO_pushF 4 rfl rfl rfl ?_
 refine XO_v1 (ev_fieldAddr rfl fld_45_1) (.some rfl rfl rfl rfl gbf) rfl rfl rfl ?_
 refine XO_v1 (ev_load rfl sct_3 (fun hg => by repeat (first | exact Cell.here rfl | apply Cell.there | apply Cell.app))) (.some rfl rfl rfl rfl gbf) rfl rfl rfl ?_
 refine XO_callV1 (cap := []) (vs := [_, _, _]) rfl rfl fun_190 (fun hg => r_within I _ _ _) (.some rfl rfl rfl rfl gbf) rfl rfl ?_
 refine XO_v1 (ev_not rfl) (.some rfl rfl rfl rfl gbf) rfl rfl rfl ?_
 refine XO_or0 rfl rfl rfl rfl rfl ?_
 refine XO_v0 (ev_move rfl) rfl rfl rfl ?_
 refine XO_pushF 10 rfl rfl rfl ?_
 refine XO_v1 (ev_fieldAddr rfl fld_45_2) (.some rfl rfl rfl rfl gbf) rfl rfl rfl ?_
 refine XO_v1 (ev_load rfl sct_3 (fun hg => by repeat (first | exact Cell.here rfl | apply Cell.there | apply Cell.app))) (.some rfl rfl rfl rfl gbf) rfl rfl rfl ?_
 refine XO_callV1 (cap := []) (vs := [_, _, _]) rfl rfl fun_190 (fun hg => r_within I _ _ _) (.some rfl rfl rfl rfl gbf) rfl rfl ?_
 refine XO_v1 (ev_not rfl) (.some rfl rfl rfl rfl gbf) rfl rfl rfl ?_
 refine XO_or0 rfl rfl rfl rfl rfl ?_
 refine XO_v0 (ev_move rfl) rfl rfl rfl ?_
 refine XO_pushF 16 rfl rfl rfl ?_
 refine XO_v1 (ev_fieldAddr rfl fld_45_4) (.some rfl rfl rfl rfl gbf) rfl rfl rfl ?_
 refine XO_v1 (ev_load rfl sct_3 (fun hg => by repeat (first | exact Cell.here rfl | apply Cell.there | apply Cell.app))) (.some rfl rfl rfl rfl gbf) rfl rfl rfl ?_
 refine XO_callV1 (cap := []) (vs := [_, _, _]) rfl rfl fun_190 (fun hg => r_within I _ _ _) (.some rfl rfl rfl rfl gbf) rfl rfl ?_
 refine XO_v1 (ev_not rfl) (.some rfl rfl rfl rfl gbf) rfl rfl rfl ?_
 refine XO_or0 rfl rfl rfl rfl rfl ?_
 refine XO_v0 (ev_move rfl) rfl rfl rfl ?_
 refine XO_pushF 22 rfl rfl rfl ?_
 refine XO_v1 (ev_fieldAddr rfl fld_45_3) (.some rfl rfl rfl rfl gbf) rfl rfl rfl ?_
 refine XO_v1 (ev_load rfl sct_3 (fun hg => by repeat (first | exact Cell.here rfl | apply Cell.there | apply Cell.app))) (.some rfl rfl rfl rfl gbf) rfl rfl rfl ?_
 refine XO_callV1 (cap := []) (vs := [_, _, _]) rfl rfl fun_190 (fun hg => r_within I _ _ _) (.some rfl rfl rfl rfl gbf) rfl rfl ?_
 refine XO_v1 (ev_not rfl) (.some rfl rfl rfl rfl gbf) rfl rfl rfl ?_
 refine XO_or0 rfl rfl rfl rfl rfl ?_
 refine XO_nil (at_then ?_)
 refine X_cond rfl (fun hc30 => ?_) (fun hc30 => ?_)
 ·
  refine X_seq (X_region ?_)
  refine XO_v0 (ev_assign rfl) rfl rfl rfl ?_
  refine XO_nil (at_then ?_)
  refine X_ret ?_
  refine at_then_r ?_
  exact at_ret1 rfl rfl (fun w hw => ⟨by exact congrArg (fun b => Ending.returned (Value.bool b)) (frm_a hc30).symm, hw.drop⟩)
 ·
  refine X_skip ?_
  refine at_then ?_
  refine X_seq ?_
  refine X_seq (X_region ?_)
  refine XO_v0 (ev_fieldAddr rfl fld_45_5) rfl rfl rfl ?_
  refine XO_v0 (ev_load rfl sct_3 (fun hg => by repeat (first | exact Cell.here rfl | apply Cell.there | apply Cell.app))) rfl rfl rfl ?_
  refine XO_callV0 (cap := []) (vs := [_, _, _]) rfl rfl fun_190 (r_within I _ _ _) rfl rfl ?_
  refine XO_v0 (ev_not rfl) rfl rfl rfl ?_
  refine XO_v0 (ev_move rfl) rfl rfl rfl ?_
  refine XO_pushF 4 rfl rfl rfl ?_
  refine XO_v1 (ev_fieldAddr rfl fld_45_6) (.some rfl rfl rfl rfl gbf) rfl rfl rfl ?_
  refine XO_v1 (ev_load rfl sct_3 (fun hg => by repeat (first | exact Cell.here rfl | apply Cell.there | apply Cell.app))) (.some rfl rfl rfl rfl gbf) rfl rfl rfl ?_
  refine XO_callV1 (cap := []) (vs := [_, _, _]) rfl rfl fun_190 (fun hg => r_within I _ _ _) (.some rfl rfl rfl rfl gbf) rfl rfl ?_
  refine XO_v1 (ev_not rfl) (.some rfl rfl rfl rfl gbf) rfl rfl rfl ?_
  refine XO_or0 rfl rfl rfl rfl rfl ?_
  refine XO_v0 (ev_move rfl) rfl rfl rfl ?_
  refine XO_pushF 10 rfl rfl rfl ?_
  refine XO_v1 (ev_fieldAddr rfl fld_45_7) (.some rfl rfl rfl rfl gbf) rfl rfl rfl ?_
  refine XO_v1 (ev_load rfl sct_3 (fun hg => by repeat (first | exact Cell.here rfl | apply Cell.there | apply Cell.app))) (.some rfl rfl rfl rfl gbf) rfl rfl rfl ?_
  refine XO_callV1 (cap := []) (vs := [_, _, _]) rfl rfl fun_190 (fun hg => r_within I _ _ _) (.some rfl rfl rfl rfl gbf) rfl rfl ?_
  refine XO_v1 (ev_not rfl) (.some rfl rfl rfl rfl gbf) rfl rfl rfl ?_
  refine XO_or0 rfl rfl rfl rfl rfl ?_
  refine XO_v0 (ev_move rfl) rfl rfl rfl ?_
  refine XO_pushF 16 rfl rfl rfl ?_
  refine XO_v1 (ev_fieldAddr rfl fld_45_8) (.some rfl rfl rfl rfl gbf) rfl rfl rfl ?_
  refine XO_v1 (ev_load rfl sct_3 (fun hg => by repeat (first | exact Cell.here rfl | apply Cell.there | apply Cell.app))) (.some rfl rfl rfl rfl gbf) rfl rfl rfl ?_
  refine XO_callV1 (cap := []) (vs := [_, _, _]) rfl rfl fun_190 (fun hg => r_within I _ _ _) (.some rfl rfl rfl rfl gbf) rfl rfl ?_
  refine XO_v1 (ev_not rfl) (.some rfl rfl rfl rfl gbf) rfl rfl rfl ?_
  refine XO_or0 rfl rfl rfl rfl rfl ?_
  refine XO_v0 (ev_move rfl) rfl rfl rfl ?_
  refine XO_pushF 22 rfl rfl rfl ?_
  refine XO_v1 (ev_fieldAddr rfl fld_45_9) (.some rfl rfl rfl rfl gbf) rfl rfl rfl ?_
  refine XO_v1 (ev_load rfl sct_3 (fun hg => by repeat (first | exact Cell.here rfl | apply Cell.there | apply Cell.app))) (.some rfl rfl rfl rfl gbf) rfl rfl rfl ?_
  refine XO_callV1 (cap := []) (vs := [_, _, _]) rfl rfl fun_190 (fun hg => r_within I _ _ _) (.some rfl rfl rfl rfl gbf) rfl rfl ?_
  refine XO_v1 (ev_not rfl) (.some rfl rfl rfl rfl gbf) rfl rfl rfl ?_
  refine XO_or0 rfl rfl rfl rfl rfl ?_
  refine XO_nil (at_then ?_)
  refine X_cond rfl (fun hc58 => ?_) (fun hc58 => ?_)
  ·
   refine X_seq (X_region ?_)
   refine XO_v0 (ev_assign rfl) rfl rfl rfl ?_
   refine XO_nil (at_then ?_)
   refine X_ret ?_
   refine at_then_r ?_
   exact at_ret1 rfl rfl (fun w hw => ⟨by exact congrArg (fun b => Ending.returned (Value.bool b)) (frm_b hc58).symm, hw.drop⟩)
  ·
   refine X_skip ?_
   refine at_then ?_
   refine X_seq (X_region ?_)
   refine XO_v0 (ev_fieldAddr rfl fld_45_10) rfl rfl rfl ?_
   refine XO_v0 (ev_loadA rfl agt_43 (fun hg => by first | (repeat (first | exact Cells.here | exact Cells.s0 (vs := [_, _]) rfl | apply Cells.there | apply Cells.app))) rfl) rfl rfl rfl ?_
   refine XO_v0 (ev_fieldAddr rfl fld_45_11) rfl rfl rfl ?_
   refine XO_v0 (ev_loadA rfl agt_43 (fun hg => by first | (repeat (first | exact Cells.here | exact Cells.s0 (vs := [_, _]) rfl | apply Cells.there | apply Cells.app))) rfl) rfl rfl rfl ?_
   refine XO_callV0 (cap := []) (vs := [_, _]) rfl rfl fun_191 (r_span I _ _ _ _) rfl rfl ?_
   refine XO_v0 (ev_assign rfl) rfl rfl rfl ?_
   refine XO_nil (at_then ?_)
   refine X_ret ?_
   exact at_ret1 rfl rfl (fun w hw => ⟨by exact congrArg (fun b => Ending.returned (Value.bool b)) (frm_c hc30 hc58).symm, hw.drop⟩)
theorem r_right {I : HMap} {av : Option Addr} {n c : Nat} {xs : List Sg} (hS : Sl I 14 encG av n c xs) (hn : n ≤ 100000) : RetV Tryz.prog 138 [.slice av n c] I (.bool (skB xs)) := by
 intro g H w hw
 refine enter Tryz.func138 rfl Tryz.ntmps138 rfl hw ?_
 refine X_seq (X_region ?_)
 refine XO_v0 (ev_assign rfl) rfl rfl rfl ?_
 refine XO_nil (at_then ?_)
 refine X_seq ?_
 refine X_seq (X_region ?_)
 refine XO_v0 (ev_assign rfl) rfl rfl rfl ?_
 refine XO_nil (at_then ?_)
 refine X_block ?_
 refine X_loopT [(0, _)] (.cons rfl .nil) (fun T L0 mz E I' loc' => ∃ (k : Nat), mz = n - k ∧ E = (3, .int .i64 k) :: T ∧ I = I' ∧ L0 = loc' ∧ k ≤ n ∧ (List.range k).all (skP xs) = true) _ _ _ _ ⟨0, rfl, rfl, rfl, rfl, Nat.zero_le _, rfl⟩ (.cons rfl (.cons rfl .nil)) (HLe.refl _) rfl ?_
 rintro mz E I' loc' ⟨k, rfl, rfl, rfl, rfl, hk, hall⟩
 refine X_seq ?_
 refine X_seq (X_region ?_)
 refine XO_v0 (ev_move rfl) rfl rfl rfl ?_
 refine XO_v0 (ev_move rfl) rfl rfl rfl ?_
 refine XO_v0 (ev_lenS rfl slt_33) rfl rfl rfl ?_
 refine XO_v0 (ev_cmp rfl rfl rfl) rfl rfl rfl ?_
 refine XO_nil (at_then ?_)
 refine X_cond rfl (fun hc7 => ?_) (fun hc7 => ?_)
 ·
  have hlt_k : k < n := by have h := hc7; simp at h; omega
  obtain ⟨x, hx⟩ := hS.at hlt_k
  refine X_skip ?_
  refine at_then ?_
  refine X_seq ?_
  refine X_block ?_
  refine X_seq ?_
  refine X_draw mixed (by kernel_rfl) ?_
  refine XQ_v0 (ev_move rfl) rfl rfl rfl ?_
  refine XQ_v0 (ev_move rfl) rfl rfl rfl ?_
  refine XQ_v0 (ev_indexSl rfl rfl slt_33 (by assumption) (fun hg => by first | omega | (simp [conj] at hg; omega))) rfl rfl rfl ?_
  refine XQ_v0 (ev_loadA rfl agt_45 (fun hg => by first | exact Sl.getA hS hx | (repeat (first | exact Cells.here | exact Cells.s0 (vs := [_, _, _, _, _, _, _, _, _, _, _, _, _, _]) rfl | apply Cells.there | apply Cells.app))) rfl) rfl rfl rfl ?_
  refine XQ_callV0 (cap := []) (vs := [_]) rfl rfl fun_177 (r_frm I _) rfl rfl ?_
  refine XQ_v0 (ev_not rfl) rfl rfl rfl ?_
  refine XQ_v0 (ev_move rfl) rfl rfl rfl ?_
  refine XQ_pushF 6 rfl rfl rfl ?_
  refine XQ_v1 (ev_move rfl) (.some rfl rfl rfl rfl gbf) rfl rfl rfl ?_
  refine XQ_v1 (ev_cmp rfl rfl rfl) (.some rfl rfl rfl rfl gbf) rfl rfl rfl ?_
  refine XQ_v1 (ev_move rfl) (.some rfl rfl rfl rfl gbf) rfl rfl rfl ?_
  refine XQ_pushT 9 rfl rfl rfl ?_
  refine XQ_v1 (ev_move rfl) (.some rfl rfl rfl rfl gbt) rfl rfl rfl ?_
  refine XQ_v1 (ev_move rfl) (.some rfl rfl rfl rfl gbt) rfl rfl rfl ?_
  refine XQ_v1 (ev_indexSl rfl rfl slt_33 (by assumption) (fun hg => by first | omega | (simp [conj] at hg; omega))) (.some rfl rfl rfl rfl gbt) rfl rfl rfl ?_
  refine XQ_v1 (ev_fieldAddr rfl fld_45_0) (.some rfl rfl rfl rfl gbt) rfl rfl rfl ?_
  refine XQ_v1 (ev_load rfl sct_3 (fun hg => by first | exact Sl.get0 hS hx rfl | exact Sl.get0 (k := ((k : Int) - 1).toNat) hS (some_getD (d := zeroG) hS.len (by simp [conj] at hg; omega)) rfl | (repeat (first | exact Cell.here rfl | apply Cell.there | apply Cell.app)))) (.some rfl rfl rfl rfl gbt) rfl rfl rfl ?_
  refine XQ_v1 (ev_move rfl) (.some rfl rfl rfl rfl gbt) rfl rfl rfl ?_
  refine XQ_v1 (ev_move rfl) (.some rfl rfl rfl rfl gbt) rfl rfl rfl ?_
  refine XQ_v1 (ev_arB rfl rfl rfl (fun hg => by first | omega | (simp [conj] at hg; omega))) (.some rfl rfl rfl rfl gbt) rfl rfl rfl ?_
  refine XQ_v1 (ev_indexSl rfl rfl slt_33 (by assumption) (fun hg => by first | omega | (simp [conj] at hg; omega))) (.some rfl rfl rfl rfl gbt) rfl rfl rfl ?_
  refine XQ_v1 (ev_fieldAddr rfl fld_45_0) (.some rfl rfl rfl rfl gbt) rfl rfl rfl ?_
  refine XQ_v1 (ev_load rfl sct_3 (fun hg => by first | exact Sl.get0 hS hx rfl | exact Sl.get0 (k := ((k : Int) - 1).toNat) hS (some_getD (d := zeroG) hS.len (by simp [conj] at hg; omega)) rfl | (repeat (first | exact Cell.here rfl | apply Cell.there | apply Cell.app)))) (.some rfl rfl rfl rfl gbt) rfl rfl rfl ?_
  refine XQ_v1 (ev_cmp rfl rfl rfl) (.some rfl rfl rfl rfl gbt) rfl rfl rfl ?_
  refine XQ_and1 rfl rfl rfl (.some rfl rfl rfl rfl gbf) rfl rfl ?_
  refine XQ_or0 rfl rfl rfl rfl rfl ?_
  refine XQ_nil ?_
  refine at_then ?_
  refine X_cond rfl (fun hc33 => ?_) (fun hc33 => ?_)
  ·
   refine X_seq (X_region ?_)
   refine XO_v0 (ev_assign rfl) rfl rfl rfl ?_
   refine XO_nil (at_then ?_)
   refine X_ret ?_
   refine at_block_r ?_
   refine at_then_r ?_
   refine at_then_r ?_
   refine at_block_r ?_
   refine at_then_r ?_
   first
   | exact at_ret1 rfl rfl (fun w hw => ⟨by unfold skB; rw [range_bad (k := k) (by rw [hS.len]; exact hlt_k) (by rw [skP_at hx]; exact congrArg (! ·) hc33)], hw.drop⟩)
  ·
   refine X_skip ?_
   refine at_block_n ?_
   refine at_then ?_
   refine X_region ?_
   refine XO_v0 (ev_move rfl) rfl rfl rfl ?_
   refine XO_v0 (ev_arB rfl rfl rfl (fun hg => by first | omega | (simp [conj] at hg; omega))) rfl rfl rfl ?_
   refine XO_v0 (ev_assign rfl) rfl rfl rfl ?_
   refine XO_nil ?_
   exact at_met2 _ _ ⟨n - (k + 1), by omega, k + 1, rfl, rfl, rfl, rfl, by omega, range_step hall (by rw [skP_at hx]; exact congrArg (! ·) hc33)⟩ (.cons rfl (.cons rfl .nil)) (by repeat (first | exact .refl | exact subL_left | refine subL_app ?_ | refine .drop ?_ | refine subL_add ?_))
 ·
  have hge_k : n ≤ k := by have h := hc7; simp at h; omega
  refine X_exit ?_
  refine at_then_e ?_
  refine at_then_e ?_
  refine at_block_hit ?_
  refine at_then ?_
  refine X_seq (X_region ?_)
  refine XO_v0 (ev_assign rfl) rfl rfl rfl ?_
  refine XO_nil (at_then ?_)
  refine X_ret ?_
  first
  | exact at_ret1 rfl rfl (fun w hw => ⟨by unfold skB; rw [hS.len, show n = k by omega, hall], hw.drop⟩)
theorem r_chkG {I : HMap} {av : Option Addr} {n c : Nat} {xs : List Sg} (hS : Sl I 14 encG av n c xs) (hn : n ≤ 100000) : RetV Tryz.prog 83 [.slice av n c] I (.int .i64 (chkG xs)) := by
 intro g H w hw
 refine enter Tryz.func83 rfl Tryz.ntmps83 rfl hw ?_
 refine X_seq (X_region ?_)
 refine XO_v0 (ev_assign rfl) rfl rfl rfl ?_
 refine XO_nil (at_then ?_)
 refine X_seq ?_
 refine X_seq (X_region ?_)
 refine XO_v0 (ev_move rfl) rfl rfl rfl ?_
 refine XO_v0 (ev_lenS rfl slt_33) rfl rfl rfl ?_
 refine XO_v0 (ev_cmp rfl rfl rfl) rfl rfl rfl ?_
 refine XO_nil (at_then ?_)
 refine X_cond rfl (fun hc5 => ?_) (fun hc5 => ?_)
 ·
  have h6 : xs.length > 4096 := by rw [hS.len]; simp at hc5; omega
  refine X_seq (X_region ?_)
  refine XO_v0 (ev_assign rfl) rfl rfl rfl ?_
  refine XO_nil (at_then ?_)
  refine X_ret ?_
  refine at_then_r ?_
  exact at_ret1 rfl rfl (fun w hw => ⟨by rw [chkG_1 h6], hw.drop⟩)
 ·
  have h6 : ¬ xs.length > 4096 := by rw [hS.len]; simp at hc5; omega
  refine X_skip ?_
  refine at_then ?_
  refine X_seq ?_
  refine X_seq (X_region ?_)
  refine XO_v0 (ev_move rfl) rfl rfl rfl ?_
  refine XO_callV0 (cap := []) (vs := [_]) rfl rfl fun_138 (r_right hS hn) rfl rfl ?_
  refine XO_v0 (ev_not rfl) rfl rfl rfl ?_
  refine XO_nil (at_then ?_)
  refine X_cond rfl (fun hc8 => ?_) (fun hc8 => ?_)
  ·
   refine X_seq (X_region ?_)
   refine XO_v0 (ev_assign rfl) rfl rfl rfl ?_
   refine XO_nil (at_then ?_)
   refine X_ret ?_
   refine at_then_r ?_
   exact at_ret1 rfl rfl (fun w hw => ⟨by rw [chkG_2 h6 (by simpa using hc8)], hw.drop⟩)
  ·
   refine X_skip ?_
   refine at_then ?_
   refine X_seq (X_region ?_)
   refine XO_v0 (ev_assign rfl) rfl rfl rfl ?_
   refine XO_nil (at_then ?_)
   refine X_ret ?_
   exact at_ret1 rfl rfl (fun w hw => ⟨by rw [chkG_3 h6 (by simpa using hc8)], hw.drop⟩)
theorem r_form (I : HMap) (x : Sg) : RetV Tryz.prog 133 [encGA x] I (.bool (frm x)) := by
 intro g H w hw
 refine enter Tryz.func133 rfl Tryz.ntmps133 rfl hw ?_
 have hIc := HLe.refl I
 refine X_seq (X_region ?_)
 refine XO_box rfl rfl rfl (fun b_1 => ?_)
 refine XO_v0 (ev_assign rfl) rfl rfl rfl ?_
 refine XO_nil (at_then ?_)
 refine X_seq (X_region ?_)
 refine XO_v0 (ev_loadA rfl agt_45 (fun hg => by first | (repeat (first | exact Cells.here | exact Cells.s0 (vs := [_, _, _, _, _, _, _, _, _, _, _, _, _, _]) rfl | apply Cells.there | apply Cells.app))) rfl) rfl rfl rfl ?_
 refine XO_buildSlice (ps := [(0, _)]) (m := [encG x]) elt_33 rfl (.cons rfl (.nil)) rfl (by simp [encG_len]) (by decide) (by decide) rfl rfl (fun b_5 => ?_)
 refine XO_freeze .here (fun I1 hI1 hb1 => ?_)
 have hIc := hIc.trans hI1
 have hS := Sl.lit [x] rfl encG_len (show _ = some (Obj.cells (([x] : List Sg).flatMap encG).toArray 45 (0, 0)) from hb1)
 refine XO_callV0 (cap := []) (vs := [_]) rfl rfl fun_83 (r_chkG hS (by decide)) rfl rfl ?_
 refine XO_v0 (ev_assign rfl) rfl rfl rfl ?_
 refine XO_nil (at_then ?_)
 refine X_seq (X_region ?_)
 refine XO_v0 (ev_move rfl) rfl rfl rfl ?_
 refine XO_v0 (ev_cmp rfl rfl rfl) rfl rfl rfl ?_
 refine XO_v0 (ev_assign rfl) rfl rfl rfl ?_
 refine XO_nil (at_then ?_)
 refine X_ret ?_
 exact at_ret1 rfl rfl (fun w hw => ⟨by rw [chk_one], (hw.mono hIc).drop⟩)
theorem r_set (I : HMap) (x : Sg) (f : Int) (y : Sg) : RetV Tryz.prog 86 [encGA x, .int .i64 f, encGA y] I (encGA (setG x f y)) := by
 intro g H w hw
 refine enter Tryz.func86 rfl Tryz.ntmps86 rfl hw ?_
 refine X_seq (X_region ?_)
 refine XO_box rfl rfl rfl (fun b_3 => ?_)
 refine XO_box rfl rfl rfl (fun b_5 => ?_)
 refine XO_alloc zt_45 rfl rfl (fun b_6 => ?_)
 refine XO_nil (at_then ?_)
 refine X_seq ?_
 refine X_seq (X_region ?_)
 refine XO_v0 (ev_move rfl) rfl rfl rfl ?_
 refine XO_nil (at_then ?_)
 refine X_block ?_
 refine X_seq (X_region ?_)
 refine XO_v0 (ev_cmp rfl rfl rfl) rfl rfl rfl ?_
 refine XO_v0 (ev_assign rfl) rfl rfl rfl ?_
 refine XO_nil (at_then ?_)
 refine X_cond rfl (fun hc8 => ?_) (fun hc8 => ?_)
 ·
  have hfk : f = 1 := by simpa using hc8
  subst hfk
  refine X_region ?_
  refine XO_v0 (ev_fieldAddr rfl fld_45_1) rfl rfl rfl ?_
  refine XO_v0 (ev_load rfl sct_3 (fun hg => by repeat (first | exact Cell.here rfl | apply Cell.there | apply Cell.app))) rfl rfl rfl ?_
  refine XO_v0 (ev_fieldAddr rfl fld_45_1) rfl rfl rfl ?_
  refine XO_store rfl rfl szt_3 rfl rfl (by repeat (first | exact Upd.here | apply Upd.there | apply upd_app)) rfl ?_
  refine XO_nil ?_
  refine at_block_n ?_
  refine at_then ?_
  refine X_seq (X_region ?_)
  refine XO_v0 (ev_loadA rfl agt_45 (fun hg => by first | (repeat (first | exact Cells.here | exact Cells.s0 (vs := [_, _, _, _, _, _, _, _, _, _, _, _, _, _]) rfl | apply Cells.there | apply Cells.app))) rfl) rfl rfl rfl ?_
  refine XO_storeA rfl rfl szt_45 rfl rfl rfl rfl (by repeat (first | exact Upd.here | apply Upd.there | apply upd_app)) ?_
  refine XO_nil (at_then ?_)
  refine X_ret ?_
  exact at_retA rfl rfl agt_45 Cells.g0 rfl (fun w hw => ⟨rfl, hw.drop⟩)
 ·
  have hg1 : f ≠ 1 := by simpa using hc8
  refine X_seq (X_region ?_)
  refine XO_v0 (ev_cmp rfl rfl rfl) rfl rfl rfl ?_
  refine XO_v0 (ev_assign rfl) rfl rfl rfl ?_
  refine XO_nil (at_then ?_)
  refine X_cond rfl (fun hc13 => ?_) (fun hc13 => ?_)
  ·
   have hfk : f = 2 := by simpa using hc13
   subst hfk
   refine X_region ?_
   refine XO_v0 (ev_fieldAddr rfl fld_45_2) rfl rfl rfl ?_
   refine XO_v0 (ev_load rfl sct_3 (fun hg => by repeat (first | exact Cell.here rfl | apply Cell.there | apply Cell.app))) rfl rfl rfl ?_
   refine XO_v0 (ev_fieldAddr rfl fld_45_2) rfl rfl rfl ?_
   refine XO_store rfl rfl szt_3 rfl rfl (by repeat (first | exact Upd.here | apply Upd.there | apply upd_app)) rfl ?_
   refine XO_nil ?_
   refine at_block_n ?_
   refine at_then ?_
   refine X_seq (X_region ?_)
   refine XO_v0 (ev_loadA rfl agt_45 (fun hg => by first | (repeat (first | exact Cells.here | exact Cells.s0 (vs := [_, _, _, _, _, _, _, _, _, _, _, _, _, _]) rfl | apply Cells.there | apply Cells.app))) rfl) rfl rfl rfl ?_
   refine XO_storeA rfl rfl szt_45 rfl rfl rfl rfl (by repeat (first | exact Upd.here | apply Upd.there | apply upd_app)) ?_
   refine XO_nil (at_then ?_)
   refine X_ret ?_
   exact at_retA rfl rfl agt_45 Cells.g0 rfl (fun w hw => ⟨rfl, hw.drop⟩)
  ·
   have hg2 : f ≠ 2 := by simpa using hc13
   refine X_seq (X_region ?_)
   refine XO_v0 (ev_cmp rfl rfl rfl) rfl rfl rfl ?_
   refine XO_v0 (ev_assign rfl) rfl rfl rfl ?_
   refine XO_nil (at_then ?_)
   refine X_cond rfl (fun hc18 => ?_) (fun hc18 => ?_)
   ·
    have hfk : f = 3 := by simpa using hc18
    subst hfk
    refine X_region ?_
    refine XO_v0 (ev_fieldAddr rfl fld_45_3) rfl rfl rfl ?_
    refine XO_v0 (ev_load rfl sct_3 (fun hg => by repeat (first | exact Cell.here rfl | apply Cell.there | apply Cell.app))) rfl rfl rfl ?_
    refine XO_v0 (ev_fieldAddr rfl fld_45_3) rfl rfl rfl ?_
    refine XO_store rfl rfl szt_3 rfl rfl (by repeat (first | exact Upd.here | apply Upd.there | apply upd_app)) rfl ?_
    refine XO_nil ?_
    refine at_block_n ?_
    refine at_then ?_
    refine X_seq (X_region ?_)
    refine XO_v0 (ev_loadA rfl agt_45 (fun hg => by first | (repeat (first | exact Cells.here | exact Cells.s0 (vs := [_, _, _, _, _, _, _, _, _, _, _, _, _, _]) rfl | apply Cells.there | apply Cells.app))) rfl) rfl rfl rfl ?_
    refine XO_storeA rfl rfl szt_45 rfl rfl rfl rfl (by repeat (first | exact Upd.here | apply Upd.there | apply upd_app)) ?_
    refine XO_nil (at_then ?_)
    refine X_ret ?_
    exact at_retA rfl rfl agt_45 Cells.g0 rfl (fun w hw => ⟨rfl, hw.drop⟩)
   ·
    have hg3 : f ≠ 3 := by simpa using hc18
    refine X_seq (X_region ?_)
    refine XO_v0 (ev_cmp rfl rfl rfl) rfl rfl rfl ?_
    refine XO_v0 (ev_assign rfl) rfl rfl rfl ?_
    refine XO_nil (at_then ?_)
    refine X_cond rfl (fun hc23 => ?_) (fun hc23 => ?_)
    ·
     have hfk : f = 4 := by simpa using hc23
     subst hfk
     refine X_region ?_
     refine XO_v0 (ev_fieldAddr rfl fld_45_5) rfl rfl rfl ?_
     refine XO_v0 (ev_load rfl sct_3 (fun hg => by repeat (first | exact Cell.here rfl | apply Cell.there | apply Cell.app))) rfl rfl rfl ?_
     refine XO_v0 (ev_fieldAddr rfl fld_45_5) rfl rfl rfl ?_
     refine XO_store rfl rfl szt_3 rfl rfl (by repeat (first | exact Upd.here | apply Upd.there | apply upd_app)) rfl ?_
     refine XO_nil ?_
     refine at_block_n ?_
     refine at_then ?_
     refine X_seq (X_region ?_)
     refine XO_v0 (ev_loadA rfl agt_45 (fun hg => by first | (repeat (first | exact Cells.here | exact Cells.s0 (vs := [_, _, _, _, _, _, _, _, _, _, _, _, _, _]) rfl | apply Cells.there | apply Cells.app))) rfl) rfl rfl rfl ?_
     refine XO_storeA rfl rfl szt_45 rfl rfl rfl rfl (by repeat (first | exact Upd.here | apply Upd.there | apply upd_app)) ?_
     refine XO_nil (at_then ?_)
     refine X_ret ?_
     exact at_retA rfl rfl agt_45 Cells.g0 rfl (fun w hw => ⟨rfl, hw.drop⟩)
    ·
     have hg4 : f ≠ 4 := by simpa using hc23
     refine X_seq (X_region ?_)
     refine XO_v0 (ev_cmp rfl rfl rfl) rfl rfl rfl ?_
     refine XO_v0 (ev_assign rfl) rfl rfl rfl ?_
     refine XO_nil (at_then ?_)
     refine X_cond rfl (fun hc28 => ?_) (fun hc28 => ?_)
     ·
      have hfk : f = 5 := by simpa using hc28
      subst hfk
      refine X_region ?_
      refine XO_v0 (ev_fieldAddr rfl fld_45_6) rfl rfl rfl ?_
      refine XO_v0 (ev_load rfl sct_3 (fun hg => by repeat (first | exact Cell.here rfl | apply Cell.there | apply Cell.app))) rfl rfl rfl ?_
      refine XO_v0 (ev_fieldAddr rfl fld_45_6) rfl rfl rfl ?_
      refine XO_store rfl rfl szt_3 rfl rfl (by repeat (first | exact Upd.here | apply Upd.there | apply upd_app)) rfl ?_
      refine XO_nil ?_
      refine at_block_n ?_
      refine at_then ?_
      refine X_seq (X_region ?_)
      refine XO_v0 (ev_loadA rfl agt_45 (fun hg => by first | (repeat (first | exact Cells.here | exact Cells.s0 (vs := [_, _, _, _, _, _, _, _, _, _, _, _, _, _]) rfl | apply Cells.there | apply Cells.app))) rfl) rfl rfl rfl ?_
      refine XO_storeA rfl rfl szt_45 rfl rfl rfl rfl (by repeat (first | exact Upd.here | apply Upd.there | apply upd_app)) ?_
      refine XO_nil (at_then ?_)
      refine X_ret ?_
      exact at_retA rfl rfl agt_45 Cells.g0 rfl (fun w hw => ⟨rfl, hw.drop⟩)
     ·
      have hg5 : f ≠ 5 := by simpa using hc28
      refine X_seq (X_region ?_)
      refine XO_v0 (ev_cmp rfl rfl rfl) rfl rfl rfl ?_
      refine XO_v0 (ev_assign rfl) rfl rfl rfl ?_
      refine XO_nil (at_then ?_)
      refine X_cond rfl (fun hc33 => ?_) (fun hc33 => ?_)
      ·
       have hfk : f = 6 := by simpa using hc33
       subst hfk
       refine X_region ?_
       refine XO_v0 (ev_fieldAddr rfl fld_45_7) rfl rfl rfl ?_
       refine XO_v0 (ev_load rfl sct_3 (fun hg => by repeat (first | exact Cell.here rfl | apply Cell.there | apply Cell.app))) rfl rfl rfl ?_
       refine XO_v0 (ev_fieldAddr rfl fld_45_7) rfl rfl rfl ?_
       refine XO_store rfl rfl szt_3 rfl rfl (by repeat (first | exact Upd.here | apply Upd.there | apply upd_app)) rfl ?_
       refine XO_nil ?_
       refine at_block_n ?_
       refine at_then ?_
       refine X_seq (X_region ?_)
       refine XO_v0 (ev_loadA rfl agt_45 (fun hg => by first | (repeat (first | exact Cells.here | exact Cells.s0 (vs := [_, _, _, _, _, _, _, _, _, _, _, _, _, _]) rfl | apply Cells.there | apply Cells.app))) rfl) rfl rfl rfl ?_
       refine XO_storeA rfl rfl szt_45 rfl rfl rfl rfl (by repeat (first | exact Upd.here | apply Upd.there | apply upd_app)) ?_
       refine XO_nil (at_then ?_)
       refine X_ret ?_
       exact at_retA rfl rfl agt_45 Cells.g0 rfl (fun w hw => ⟨rfl, hw.drop⟩)
      ·
       have hg6 : f ≠ 6 := by simpa using hc33
       refine X_seq (X_region ?_)
       refine XO_v0 (ev_cmp rfl rfl rfl) rfl rfl rfl ?_
       refine XO_v0 (ev_assign rfl) rfl rfl rfl ?_
       refine XO_nil (at_then ?_)
       refine X_cond rfl (fun hc38 => ?_) (fun hc38 => ?_)
       ·
        have hfk : f = 7 := by simpa using hc38
        subst hfk
        refine X_region ?_
        refine XO_v0 (ev_fieldAddr rfl fld_45_8) rfl rfl rfl ?_
        refine XO_v0 (ev_load rfl sct_3 (fun hg => by repeat (first | exact Cell.here rfl | apply Cell.there | apply Cell.app))) rfl rfl rfl ?_
        refine XO_v0 (ev_fieldAddr rfl fld_45_8) rfl rfl rfl ?_
        refine XO_store rfl rfl szt_3 rfl rfl (by repeat (first | exact Upd.here | apply Upd.there | apply upd_app)) rfl ?_
        refine XO_nil ?_
        refine at_block_n ?_
        refine at_then ?_
        refine X_seq (X_region ?_)
        refine XO_v0 (ev_loadA rfl agt_45 (fun hg => by first | (repeat (first | exact Cells.here | exact Cells.s0 (vs := [_, _, _, _, _, _, _, _, _, _, _, _, _, _]) rfl | apply Cells.there | apply Cells.app))) rfl) rfl rfl rfl ?_
        refine XO_storeA rfl rfl szt_45 rfl rfl rfl rfl (by repeat (first | exact Upd.here | apply Upd.there | apply upd_app)) ?_
        refine XO_nil (at_then ?_)
        refine X_ret ?_
        exact at_retA rfl rfl agt_45 Cells.g0 rfl (fun w hw => ⟨rfl, hw.drop⟩)
       ·
        have hg7 : f ≠ 7 := by simpa using hc38
        refine X_seq (X_region ?_)
        refine XO_v0 (ev_cmp rfl rfl rfl) rfl rfl rfl ?_
        refine XO_v0 (ev_assign rfl) rfl rfl rfl ?_
        refine XO_nil (at_then ?_)
        refine X_cond rfl (fun hc43 => ?_) (fun hc43 => ?_)
        ·
         have hfk : f = 8 := by simpa using hc43
         subst hfk
         refine X_region ?_
         refine XO_v0 (ev_fieldAddr rfl fld_45_9) rfl rfl rfl ?_
         refine XO_v0 (ev_load rfl sct_3 (fun hg => by repeat (first | exact Cell.here rfl | apply Cell.there | apply Cell.app))) rfl rfl rfl ?_
         refine XO_v0 (ev_fieldAddr rfl fld_45_9) rfl rfl rfl ?_
         refine XO_store rfl rfl szt_3 rfl rfl (by repeat (first | exact Upd.here | apply Upd.there | apply upd_app)) rfl ?_
         refine XO_nil ?_
         refine at_block_n ?_
         refine at_then ?_
         refine X_seq (X_region ?_)
         refine XO_v0 (ev_loadA rfl agt_45 (fun hg => by first | (repeat (first | exact Cells.here | exact Cells.s0 (vs := [_, _, _, _, _, _, _, _, _, _, _, _, _, _]) rfl | apply Cells.there | apply Cells.app))) rfl) rfl rfl rfl ?_
         refine XO_storeA rfl rfl szt_45 rfl rfl rfl rfl (by repeat (first | exact Upd.here | apply Upd.there | apply upd_app)) ?_
         refine XO_nil (at_then ?_)
         refine X_ret ?_
         exact at_retA rfl rfl agt_45 Cells.g0 rfl (fun w hw => ⟨rfl, hw.drop⟩)
        ·
         have hg8 : f ≠ 8 := by simpa using hc43
         refine X_seq (X_region ?_)
         refine XO_v0 (ev_cmp rfl rfl rfl) rfl rfl rfl ?_
         refine XO_v0 (ev_assign rfl) rfl rfl rfl ?_
         refine XO_nil (at_then ?_)
         refine X_cond rfl (fun hc48 => ?_) (fun hc48 => ?_)
         ·
          have hfk : f = 9 := by simpa using hc48
          subst hfk
          refine X_seq (X_region ?_)
          refine XO_v0 (ev_fieldAddr rfl fld_45_10) rfl rfl rfl ?_
          refine XO_v0 (ev_loadA rfl agt_43 (fun hg => by first | (repeat (first | exact Cells.here | exact Cells.s0 (vs := [_, _]) rfl | apply Cells.there | apply Cells.app))) rfl) rfl rfl rfl ?_
          refine XO_v0 (ev_fieldAddr rfl fld_45_10) rfl rfl rfl ?_
          refine XO_storeP rfl rfl szt_43 rfl rfl rfl rfl (by repeat (first | exact Upd.here | apply Upd.there | apply upd_app)) ?_
          refine XO_nil (at_then ?_)
          refine X_region ?_
          refine XO_v0 (ev_fieldAddr rfl fld_45_11) rfl rfl rfl ?_
          refine XO_v0 (ev_loadA rfl agt_43 (fun hg => by first | (repeat (first | exact Cells.here | exact Cells.s0 (vs := [_, _]) rfl | apply Cells.there | apply Cells.app))) rfl) rfl rfl rfl ?_
          refine XO_v0 (ev_fieldAddr rfl fld_45_11) rfl rfl rfl ?_
          refine XO_storeP rfl rfl szt_43 rfl rfl rfl rfl (by repeat (first | exact Upd.here | apply Upd.there | apply upd_app)) ?_
          refine XO_nil ?_
          refine at_block_n ?_
          refine at_then ?_
          refine X_seq (X_region ?_)
          refine XO_v0 (ev_loadA rfl agt_45 (fun hg => by first | (repeat (first | exact Cells.here | exact Cells.s0 (vs := [_, _, _, _, _, _, _, _, _, _, _, _, _, _]) rfl | apply Cells.there | apply Cells.app))) rfl) rfl rfl rfl ?_
          refine XO_storeA rfl rfl szt_45 rfl rfl rfl rfl (by repeat (first | exact Upd.here | apply Upd.there | apply upd_app)) ?_
          refine XO_nil (at_then ?_)
          refine X_ret ?_
          exact at_retA rfl rfl agt_45 Cells.g0 rfl (fun w hw => ⟨rfl, hw.drop⟩)
         ·
          have hg9 : f ≠ 9 := by simpa using hc48
          refine X_skip ?_
          refine at_block_n ?_
          refine at_then ?_
          refine X_seq (X_region ?_)
          refine XO_v0 (ev_loadA rfl agt_45 (fun hg => by first | (repeat (first | exact Cells.here | exact Cells.s0 (vs := [_, _, _, _, _, _, _, _, _, _, _, _, _, _]) rfl | apply Cells.there | apply Cells.app))) rfl) rfl rfl rfl ?_
          refine XO_storeA rfl rfl szt_45 rfl rfl rfl rfl (by repeat (first | exact Upd.here | apply Upd.there | apply upd_app)) ?_
          refine XO_nil (at_then ?_)
          refine X_ret ?_
          first
          | exact at_retA rfl rfl agt_45 Cells.g0 rfl (fun w hw => ⟨by unfold setG; rw [if_neg hg1, if_neg hg2, if_neg hg3, if_neg hg4, if_neg hg5, if_neg hg6, if_neg hg7, if_neg hg8, if_neg hg9]; rfl, hw.drop⟩)
theorem r_plain (I : HMap) : RetV Tryz.prog 134 [] I (encGA plainR) := by
 intro g H w hw
 refine enter Tryz.func134 rfl Tryz.ntmps134 rfl hw ?_
 refine X_seq (X_region ?_)
 refine XO_alloc zt_45 rfl rfl (fun b_0 => ?_)
 refine XO_nil (at_then ?_)
 refine X_seq (X_region ?_)
 refine XO_v0 (ev_buildL (ps := [(1, _)]) [_, _] plt_43 rfl rfl) rfl rfl rfl ?_
 refine XO_v0 (ev_buildL (ps := [(0, _), (1, _)]) [_, _] plt_43 rfl rfl) rfl rfl rfl ?_
 refine XO_v0 (ev_buildL (ps := [(3, _), (4, _), (10, _), (11, _)]) [_, _, _, _, _, _, _, _, _, _, _, _, _, _] plt_45 rfl rfl) rfl rfl rfl ?_
 refine XO_storeA rfl rfl szt_45 rfl rfl rfl rfl (by repeat (first | exact Upd.here | apply Upd.there | apply upd_app)) ?_
 refine XO_nil (at_then ?_)
 refine X_ret ?_
 exact at_retA rfl rfl agt_45 Cells.g0 rfl (fun w hw => ⟨rfl, hw.drop⟩)
end Go.Proofs.YtccomeanpppfmaaGreat
end
section
namespace Go.Proofs.YtccomeanpppfmaaGreat
open Go Go.Kn Go.Proofs
def idP (t : Int) (p : Pt) : Bool := p.id == t
def fndI (ps : List Pt) (t : Int) : Int := idxF (idP t) ps
theorem fnd_no {ps : List Pt} {t : Int} : decide (fndI ps t < 0) = !hasI ps t := idx_lt
theorem fnd_at {ps : List Pt} (hL : ∀ p ∈ ps, ∀ q ∈ ps, p.id = q.id → p = q) (hnd : (ps.map (·.id)).Nodup) {k : Nat} {p : Pt} (hp : ps[k]? = some p) : fndI ps p.id = k := by
  refine idx_hit (k := k) (x := p) ?_ hp (by simp [idP])
  rw [List.any_eq_false]
  intro q hq
  obtain ⟨j, hj⟩ := List.getElem?_of_mem hq
  have hjk : j < k := by have := (List.getElem?_eq_some_iff.1 hj).1; rw [List.length_take] at this; omega
  rw [List.getElem?_take, if_pos hjk] at hj
  intro e
  have e : q.id = p.id := by simpa [idP] using e
  obtain ⟨hj1, hj2⟩ := List.getElem?_eq_some_iff.1 hj
  obtain ⟨hk1, hk2⟩ := List.getElem?_eq_some_iff.1 hp
  have h1 : (ps.map (·.id))[j]'(by simpa using hj1) = (ps.map (·.id))[k]'(by simpa using hk1) := by simp [hj2, hk2, e]
  have := (List.getElem_inj hnd).1 h1
  omega
theorem Lst.nodup {ps : List Pt} (h : Lst ps) : (ps.map (·.id)).Nodup := by
  unfold List.Nodup
  rw [List.pairwise_map]
  exact h.inc.imp fun {a b : Pt} (h : a.id < b.id) => Int.ne_of_lt h
theorem Lst.fnd {ps : List Pt} (h : Lst ps) {k : Nat} {p : Pt} (hp : ps[k]? = some p) : fndI ps p.id = k := fnd_at (fun p hp q hq e => h.uniq hp hq e) h.nodup hp
/-- What a patch needs stands before it. -/
theorem Lst.need_at {ps : List Pt} (h : Lst ps) {k : Nat} {p : Pt} (hp : ps[k]? = some p) {y : Int} (hy : y ∈ p.needs) : ∃ m q, m < k ∧ ps[m]? = some q ∧ q.id = y ∧ fndI ps y = m := by
  obtain ⟨q, hq, e⟩ := h.before hp hy
  obtain ⟨m, hm⟩ := List.getElem?_of_mem hq
  have hmk : m < k := by have := (List.getElem?_eq_some_iff.1 hm).1; rw [List.length_take] at this; omega
  rw [List.getElem?_take, if_pos hmk] at hm
  exact ⟨m, q, hmk, hm, e, by rw [← e]; exact h.fnd hm⟩
theorem Lst.lt_at {ps : List Pt} (h : Lst ps) {i j : Nat} {p q : Pt} (hp : ps[i]? = some p) (hq : ps[j]? = some q) (hlt : p.id < q.id) : i < j := by
  obtain ⟨hi1, hi2⟩ := List.getElem?_eq_some_iff.1 hp
  obtain ⟨hj1, hj2⟩ := List.getElem?_eq_some_iff.1 hq
  by_cases e : i = j
  · subst e; rw [hp] at hq; cases hq; omega
  · by_cases e2 : j < i
    · have := List.pairwise_iff_getElem.1 h.inc j i hj1 hi1 e2; rw [hi2, hj2] at this; omega
    · omega
/-- A row over a list of patches. -/
def RowP (ps : List Pt) (f : Nat → Pt → Bool) (row : List Bool) : Prop := row.length = ps.length ∧ ∀ j q, ps[j]? = some q → row[j]? = some (f j q)
theorem RowP.congr {ps : List Pt} {f g : Nat → Pt → Bool} {row : List Bool} (h : RowP ps f row) (e : ∀ j q, ps[j]? = some q → f j q = g j q) : RowP ps g row := ⟨h.1, fun j q hq => by rw [← e j q hq]; exact h.2 j q hq⟩
theorem RowP.new {ps : List Pt} {n : Nat} (h : ps.length = n) : RowP ps (fun _ _ => false) (List.replicate n false) := ⟨by simp [h], fun j q hq => by
  have := (List.getElem?_eq_some_iff.1 hq).1
  rw [List.getElem?_replicate, if_pos (by omega)]⟩
theorem RowP.set {ps : List Pt} {f : Nat → Pt → Bool} {row : List Bool} (h : RowP ps f row) (m : Nat) (b : Bool) : RowP ps (fun j q => if j = m then b else f j q) (row.set m b) := ⟨by rw [List.length_set, h.1], fun j q hq => by
  show _ = some (if j = m then b else f j q)
  rw [List.getElem?_set]
  have hj := (List.getElem?_eq_some_iff.1 hq).1
  by_cases e : m = j
  · subst e; rw [if_pos rfl, if_pos (by rw [h.1]; exact hj), if_pos rfl]
  · rw [if_neg e, if_neg (fun e2 : j = m => e e2.symm)]; exact h.2 j q hq⟩
theorem RowP.eq {ps : List Pt} {f : Pt → Bool} {row : List Bool} (h : RowP ps (fun _ => f) row) : row = ps.map f := by
  refine List.ext_getElem? fun j => ?_
  rw [List.getElem?_map]
  cases hq : ps[j]? with
  | some q => rw [h.2 j q hq]; rfl
  | none =>
    rw [List.getElem?_eq_none_iff] at hq
    exact List.getElem?_eq_none (by rw [h.1]; exact hq)
theorem RowP.of (ps : List Pt) (f : Pt → Bool) : RowP ps (fun _ => f) (ps.map f) := ⟨by simp, fun j q hq => by simp [hq]⟩
def rowF (ps : List Pt) (p : Pt) : List Bool := ps.map fun q => onF ps p.id q.id
/-- A row's cells. -/
def cellsB (row : List Bool) : Array Value := (row.flatMap encB).toArray
theorem cellsB_eq (row : List Bool) : row.flatMap encB = row.map Value.bool := by
  induction row with
  | nil => rfl
  | cons b row ih => rw [List.flatMap_cons, ih]; rfl
theorem cellsB_set (row : List Bool) (m : Nat) (b : Bool) : (cellsB row).setIfInBounds ((m : Int).toNat * 1) (.bool b) = cellsB (row.set m b) := by
  unfold cellsB
  rw [cellsB_eq, cellsB_eq, Nat.mul_one, List.setIfInBounds_toArray, List.map_set]; rfl
theorem bltB {row : List Bool} {m : Nat} (h : m < row.length) : Nat.blt ((m : Int).toNat * 1) (cellsB row).size = true := by
  unfold cellsB
  rw [List.size_toArray, flat_len encB_len, Nat.mul_one, Nat.mul_one]
  rw [Nat.blt_eq]; exact h
theorem cellsB_new (n : Nat) : (List.replicate n (Value.bool false)).toArray = cellsB (List.replicate n false) := by
  unfold cellsB
  rw [cellsB_eq, List.map_replicate]
theorem cellB {I : HMap} {l : Go.Kn.Loc} {b j : Nat} {row : List Bool} {t : TypeId} {fz : Nat × Nat} {x : Bool} (h : row[j]? = some x) : Cell I ((b, .cells (cellsB row) t fz) :: l) b ((j : Int).toNat * 1) (.bool x) := by
  refine Cell.here ?_
  rw [lget_eq]
  unfold cellsB
  rw [cellsB_eq, Nat.mul_one]
  simp [h]
theorem split_asc {A B C L R : Go.Kn.Loc} (h : Split (A ++ (B ++ C)) L R) : Split ((A ++ B) ++ C) L R := by rw [List.append_assoc]; exact h
/-- Rows of rows. -/
def SlM {β : Type} (enc : β → List Value) (size : Nat) (I : HMap) (av : Option Addr) (n c : Nat) (rows : List (List β)) : Prop :=
  ∃ hs : List Hd, Sl I 1 encH av n c hs ∧ hs.length = rows.length ∧ ∀ (k : Nat) (h : Hd) (r : List β), hs[k]? = some h → rows[k]? = some r → Sl I size enc h.a h.n h.c r
theorem SlM.mono {β : Type} {enc : β → List Value} {size : Nat} {I I' : HMap} {av : Option Addr} {n c : Nat} {rows : List (List β)} (h : SlM enc size I av n c rows) (hI : HLe I I') : SlM enc size I' av n c rows := by
  obtain ⟨hs, h1, h2, h3⟩ := h
  exact ⟨hs, h1.mono hI, h2, fun k h r a b => (h3 k h r a b).mono hI⟩
theorem SlM.len {β : Type} {enc : β → List Value} {size : Nat} {I : HMap} {av : Option Addr} {n c : Nat} {rows : List (List β)} (h : SlM enc size I av n c rows) : rows.length = n := by
  obtain ⟨hs, h1, h2, _⟩ := h
  rw [← h2, h1.len]
theorem SlM.at {β : Type} {enc : β → List Value} {size : Nat} {I : HMap} {av : Option Addr} {n c : Nat} {rows : List (List β)} (h : SlM enc size I av n c rows) {k : Nat} (hk : k < n) : ∃ hs hd r, Sl I 1 encH av n c hs ∧ hs[k]? = some hd ∧ rows[k]? = some r ∧ Sl I size enc hd.a hd.n hd.c r := by
  have hl := h.len
  obtain ⟨hs, h1, h2, h3⟩ := h
  obtain ⟨hd, hh⟩ := h1.at hk
  exact ⟨hs, hd, rows[k]'(by omega), h1, hh, List.getElem?_eq_getElem _, h3 k _ _ hh (List.getElem?_eq_getElem _)⟩
theorem Cell.seg {I : HMap} {l : Go.Kn.Loc} {b off n : Nat} {cur vs : List Value} {t : TypeId} {fz : Nat × Nat} {u : Value} (h : (cur.drop off).take n = vs) (hu : vs[0]? = some u) : Cell I ((b, .cells cur.toArray t fz) :: l) b off u := by
  refine Cell.here ?_
  rw [lget_eq, ← hu, ← h, List.getElem?_take]
  split
  · simp
  · rename_i hn
    rw [← h, List.getElem?_take, if_neg hn] at hu; cases hu
theorem fold_any {α : Type} {xs : List α} {k : Nat} {x : α} {P : α → Bool} (hx : xs[k]? = some x) : (xs.take (k + 1)).any P = ((xs.take k).any P || P x) := by rw [take_snoc hx, List.any_append]; simp
/-! ### The list's order -/
theorem ndR_at {id : Int} {v : List Int} {k : Nat} {x : Int} (hx : v[k]? = some x) : ndP id v k = !((decide (x < 1) || decide (x ≥ id)) || (decide ((k : Int) > 0) && decide (x ≤ v.getD ((k : Int) - 1).toNat 0))) := by unfold ndP; rw [getD_of hx]
theorem lsR_ok {a b : Bool} (h : a = false) (h2 : b = false) : (!(a || b)) = true := by rw [h, h2]; rfl
theorem lsR_1 {a b : Bool} (h : a = true) : (!(a || b)) = false := by rw [h]; rfl
theorem lsR_2 {a b : Bool} (h : b = true) : (!(a || b)) = false := by rw [h]; simp
theorem lsP_at {ps : List Pt} {k : Nat} {p : Pt} (hx : ps[k]? = some p) : lsP ps k = !((decide ((k : Int) > 0) && decide (p.id ≤ (ps.getD ((k : Int) - 1).toNat zeroP).id)) || p.needs.any (fun n => !hasI ps n)) := by unfold lsP; rw [getD_of hx]
theorem togA_one {ps : List Pt} {i : Nat} {p : Pt} (hp : ps[i]? = some p) (h : (ps.all fun q => p.id == q.id || togB p q (onF ps p.id q.id)) = false) : togA ps = false := by unfold togA; exact all_no hp h
/-! ### The rows of all patches -/
def preF (ps : List Pt) (p : Pt) (k : Nat) (q : Pt) : Bool := (p.needs.take k).any fun m => m == q.id || onF ps m q.id
theorem row_start {ps : List Pt} {p : Pt} {n : Nat} (h : ps.length = n) : RowP ps (fun _ => preF ps p 0) (List.replicate n false) := (RowP.new h).congr fun j q hq => by simp [preF]
/-- Within a need: its patch, and the first of those that it stands on. -/
def midF (ps : List Pt) (p : Pt) (k : Nat) (y : Int) (j : Nat) (i : Nat) (q : Pt) : Bool := (preF ps p k q || y == q.id) || (decide (i < j) && onF ps y q.id)
theorem row_mid {ps : List Pt} {p q : Pt} {k m : Nat} {y : Int} {row : List Bool} (hL : Lst ps) (h : RowP ps (fun _ => preF ps p k) row) (hq : ps[m]? = some q) (hy : q.id = y) : RowP ps (midF ps p k y 0) (row.set m true) := (h.set m true).congr fun i r hr => by
  unfold midF
  by_cases e : i = m
  · subst e; rw [hq] at hr; cases hr; simp [hy]
  · rw [if_neg e]
    have : ¬ y = r.id := fun e2 => by
      have h1 := hL.fnd hr
      have h2 := hL.fnd hq
      rw [hy, e2, h1] at h2
      omega
    simp [this]
theorem row_step {ps : List Pt} {p q : Pt} {k j : Nat} {y : Int} {row : List Bool} {b : Bool} (h : RowP ps (midF ps p k y j) row) (hq : ps[j]? = some q) (hb : row[j]? = some b) : RowP ps (midF ps p k y (j + 1)) (row.set j (b || onF ps y q.id)) := (h.set j _).congr fun i r hr => by
  by_cases e : i = j
  · subst e
    rw [hq] at hr; cases hr
    rw [if_pos rfl]
    have := h.2 i q hq
    rw [hb] at this
    cases this
    unfold midF
    simp
  · rw [if_neg e]
    unfold midF
    rw [show decide (i < j) = decide (i < j + 1) from by rw [Bool.eq_iff_iff]; simp; omega]
theorem row_next {ps : List Pt} {p q : Pt} {k m : Nat} {y : Int} {row : List Bool} (hL : Lst ps) (hk : p.needs[k]? = some y) (hq : ps[m]? = some q) (hy : q.id = y) (h : RowP ps (midF ps p k y m) row) : RowP ps (fun _ => preF ps p (k + 1)) row := h.congr fun i r hr => by
  unfold midF preF
  rw [fold_any hk, Bool.or_assoc]
  congr 1
  congr 1
  by_cases e : i < m
  · simp [e]
  · have : onF ps y r.id = false := by
      cases ho : onF ps y r.id with
      | false => rfl
      | true =>
        have h1 := (hL.on_lt ho).1
        have := hL.lt_at hr hq (by omega)
        omega
    rw [this, Bool.and_false]
theorem row_done {ps : List Pt} {p : Pt} {row : List Bool} (hL : Lst ps) (hp : p ∈ ps) (h : RowP ps (fun _ => preF ps p p.needs.length) row) : row = rowF ps p := by
  refine (h.congr (g := fun _ q => onF ps p.id q.id) fun i q hq => ?_).eq
  unfold preF
  rw [List.take_of_length_le (Nat.le_refl _), hL.on hp]
/-- The rows so far. -/
def RowsQ (I : HMap) (ps : List Pt) (n : Nat) (hs : List Hd) (i : Nat) : Prop := hs.length = i ∧ ∀ (k : Nat) (h : Hd) (p : Pt), hs[k]? = some h → ps[k]? = some p → h.n = n ∧ Sl I 1 encB h.a h.n h.c (rowF ps p)
theorem RowsQ.mono {I I' : HMap} {ps : List Pt} {n : Nat} {hs : List Hd} {i : Nat} (h : RowsQ I ps n hs i) (hI : HLe I I') : RowsQ I' ps n hs i := ⟨h.1, fun k x p a b => ⟨(h.2 k x p a b).1, (h.2 k x p a b).2.mono hI⟩⟩
theorem RowsQ.nil {I : HMap} {ps : List Pt} {n : Nat} : RowsQ I ps n [] 0 := ⟨rfl, fun k h p hk _ => by simp at hk⟩
theorem RowsQ.snoc {I : HMap} {ps : List Pt} {n : Nat} {hs : List Hd} {i : Nat} {p : Pt} {a : Option Addr} {c : Nat} (h : RowsQ I ps n hs i) (hp : ps[i]? = some p) (hr : Sl I 1 encB a n c (rowF ps p)) : RowsQ I ps n (hs ++ [⟨a, n, c⟩]) (i + 1) := ⟨by rw [List.length_append, h.1]; rfl, fun k x q hx hq => by
  by_cases e : k < hs.length
  · rw [List.getElem?_append_left e] at hx; exact h.2 k x q hx hq
  · have hk := (List.getElem?_eq_some_iff.1 hx).1
    rw [List.length_append, List.length_singleton] at hk
    have : k = hs.length := by omega
    subst this
    rw [List.getElem?_append_right (Nat.le_refl _), Nat.sub_self] at hx
    simp at hx; subst hx
    rw [h.1] at hq; rw [hp] at hq; cases hq
    exact ⟨rfl, hr⟩⟩
theorem RowsQ.slm {I : HMap} {ps : List Pt} {n : Nat} {hs : List Hd} {av : Option Addr} {c : Nat} (h : RowsQ I ps n hs n) (hn : ps.length = n) (hS : Sl I 1 encH av n c hs) : SlM encB 1 I av n c (ps.map (rowF ps)) :=
  ⟨hs, hS, by rw [hS.len, List.length_map, hn], fun k x r hx hr => by
    rw [List.getElem?_map, Option.map_eq_some_iff] at hr
    obtain ⟨p, hp, rfl⟩ := hr
    exact (h.2 k x p hx hp).2⟩
/-! ### Lists of IDs as rows -/
def chF (ys : List Int) (q : Pt) : Bool := ys.any fun y => y == q.id
theorem fnd_hit {ps : List Pt} (hL : Lst ps) {y : Int} (h : hasI ps y = true) : ∃ m q, m < ps.length ∧ ps[m]? = some q ∧ q.id = y ∧ fndI ps y = m := by
  obtain ⟨q, hq, e⟩ := hasI_iff.1 h
  obtain ⟨m, hm⟩ := List.getElem?_of_mem hq
  exact ⟨m, q, (List.getElem?_eq_some_iff.1 hm).1, hm, e, by rw [← e]; exact hL.fnd hm⟩
theorem ch_step {ps : List Pt} {ys : List Int} {k m : Nat} {y : Int} {q : Pt} {row : List Bool} (hL : Lst ps) (h : RowP ps (fun _ => chF (ys.take k)) row) (hy : ys[k]? = some y) (hq : ps[m]? = some q) (e : q.id = y) : RowP ps (fun _ => chF (ys.take (k + 1))) (row.set m true) := (h.set m true).congr fun j r hr => by
  unfold chF
  rw [fold_any hy]
  by_cases hj : j = m
  · subst hj; rw [hq] at hr; cases hr; rw [if_pos rfl, e]; simp
  · rw [if_neg hj]
    have : (y == r.id) = false := by
      rw [beq_eq_false_iff_ne]
      intro e2
      have h1 := hL.fnd hr
      have h2 := hL.fnd hq
      rw [e, e2, h1] at h2
      omega
    rw [this, Bool.or_false]
theorem ch_no {ps : List Pt} {ys : List Int} {k : Nat} {y : Int} (hy : ys[k]? = some y) (h : (decide (fndI ps y < 0) || (decide ((k : Int) > 0) && decide (y ≤ ys.getD ((k : Int) - 1).toNat 0))) = true) : chB ps ys = false := by
  rw [Bool.or_eq_true] at h
  rcases h with h | h
  · rw [fnd_no] at h; exact ch_has hy (by simpa using h)
  · refine ch_inc ?_
    rw [incB_eq]
    refine range_bad (k := k) (List.getElem?_eq_some_iff.1 hy).1 ?_
    unfold incP
    rw [getD_of hy, h]; rfl
theorem ch_yes {ps : List Pt} {ys : List Int} {k : Nat} {y : Int} (hy : ys[k]? = some y) (h : (decide (fndI ps y < 0) || (decide ((k : Int) > 0) && decide (y ≤ ys.getD ((k : Int) - 1).toNat 0))) = false) : hasI ps y = true ∧ incP ys k = true := by
  rw [Bool.or_eq_false_iff] at h
  refine ⟨by have h1 := h.1; rw [fnd_no] at h1; simpa using h1, ?_⟩
  unfold incP
  rw [getD_of hy, h.2]; rfl
theorem ch_end {ps : List Pt} {ys : List Int} (h : (List.range ys.length).all (incP ys) = true) (h2 : ys.all (hasI ps) = true) : chB ps ys = true := ch_all (by rw [incB_eq]; exact h) h2
/-- What is chosen, and what such patches stand on. -/
def cloP (ps : List Pt) (f : Pt → Bool) (q : Pt) : Bool := f q || ps.any fun p => f p && onF ps p.id q.id
def clK (ps : List Pt) (f : Pt → Bool) (k : Nat) (q : Pt) : Bool := f q || (ps.take k).any fun p => f p && onF ps p.id q.id
def clJ (ps : List Pt) (f : Pt → Bool) (k : Nat) (p : Pt) (j : Nat) (i : Nat) (q : Pt) : Bool := clK ps f k q || (decide (i < j) && (f p && onF ps p.id q.id))
theorem cl_start {ps : List Pt} {f : Pt → Bool} {row : List Bool} (h : RowP ps (fun _ => f) row) : RowP ps (fun _ => clK ps f 0) row := h.congr fun j q _ => by unfold clK; simp
theorem cl_in {ps : List Pt} {f : Pt → Bool} {k : Nat} {p : Pt} {row : List Bool} (h : RowP ps (fun _ => clK ps f k) row) : RowP ps (clJ ps f k p 0) row := h.congr fun j q _ => by unfold clJ; simp
theorem cl_step {ps : List Pt} {f : Pt → Bool} {k j : Nat} {p q : Pt} {row : List Bool} {b : Bool} (hf : f p = true) (h : RowP ps (clJ ps f k p j) row) (hq : ps[j]? = some q) (hb : row[j]? = some b) : RowP ps (clJ ps f k p (j + 1)) (row.set j (b || onF ps p.id q.id)) := (h.set j _).congr fun i r hr => by
  by_cases e : i = j
  · subst e
    rw [hq] at hr; cases hr
    rw [if_pos rfl]
    have := h.2 i q hq
    rw [hb] at this
    cases this
    unfold clJ
    rw [hf]
    simp
  · rw [if_neg e]
    unfold clJ
    rw [show decide (i < j) = decide (i < j + 1) from by rw [Bool.eq_iff_iff]; simp; omega]
theorem cl_next {ps : List Pt} {f : Pt → Bool} {k j : Nat} {p : Pt} {row : List Bool} (hp : ps[k]? = some p) (h : RowP ps (clJ ps f k p j) row) (hj : f p = false ∨ ps.length ≤ j) : RowP ps (fun _ => clK ps f (k + 1)) row := h.congr fun i r hr => by
  unfold clJ clK
  rw [fold_any hp, ← Bool.or_assoc]
  congr 1
  rcases hj with hj | hj
  · rw [hj]; simp
  · have := (List.getElem?_eq_some_iff.1 hr).1
    rw [decide_eq_true (show i < j by omega), Bool.true_and]
theorem cl_out {ps : List Pt} {b : Bool} {k n : Nat} (hn : ps.length = n) (h : (decide ((k : Int) < (n : Int)) && b) = false) : b = false ∨ ps.length ≤ k := by
  cases b with
  | false => exact .inl rfl
  | true => right; rw [Bool.and_true, decide_eq_false_iff_not] at h; omega
theorem cl_end {ps : List Pt} {f : Pt → Bool} {k n : Nat} {row : List Bool} (hn : ps.length = n) (hk : n ≤ k) (h : RowP ps (fun _ => clK ps f k) row) : row = ps.map (cloP ps f) := by
  refine RowP.eq (h.congr fun j q _ => ?_)
  unfold clK cloP
  rw [List.take_of_length_le (by omega)]
def idsF (ps : List Pt) (f : Pt → Bool) : List Int := (ps.filter f).map (·.id)
theorem ids_yes {ps : List Pt} {f : Pt → Bool} {k : Nat} {p : Pt} (hp : ps[k]? = some p) (h : f p = true) : idsF (ps.take (k + 1)) f = idsF (ps.take k) f ++ [p.id] := by unfold idsF; rw [flt_yes hp h, List.map_append]; rfl
theorem ids_no {ps : List Pt} {f : Pt → Bool} {k : Nat} {p : Pt} (hp : ps[k]? = some p) (h : f p = false) : idsF (ps.take (k + 1)) f = idsF (ps.take k) f := by unfold idsF; rw [flt_no hp h]
theorem ids_clo {ps : List Pt} {ys : List Int} (hL : Lst ps) (h : chB ps ys = true) : idsF ps (cloP ps (chF ys)) = cloF ps ys := by
  have h2 := (chB_iff.1 h).2
  unfold idsF cloF
  congr 1
  refine List.filter_congr fun q hq => ?_
  unfold cloP chF
  rw [Bool.eq_iff_iff]
  simp only [Bool.or_eq_true, List.any_eq_true, Bool.and_eq_true, beq_iff_eq]
  constructor
  · rintro (⟨y, hy, e⟩ | ⟨p, hp, ⟨y, hy, e⟩, ho⟩)
    · exact ⟨y, hy, .inl e⟩
    · exact ⟨y, hy, .inr (by rw [e]; exact ho)⟩
  · rintro ⟨y, hy, e | ho⟩
    · exact .inl ⟨y, hy, e⟩
    · obtain ⟨p, hp, e⟩ := h2 y hy
      exact .inr ⟨p, hp, ⟨y, hy, e.symm⟩, by rw [e]; exact ho⟩
def SlMQ (ps : List Pt) (n : Nat) : Value → HMap → Go.Kn.Loc → Prop := fun v I' L => L = [] ∧ ∃ av c, v = .slice av n c ∧ SlM encB 1 I' av n c (ps.map (rowF ps))
end Go.Proofs.YtccomeanpppfmaaGreat
end
section
namespace Go.Proofs.YtccomeanpppfmaaGreat
open Go Go.Kn Go.Proofs
theorem fun_133 : Fun Tryz.prog 133 := .of Tryz.func133 (by kernel_rfl) (by kernel_rfl)
theorem fun_134 : Fun Tryz.prog 134 := .of Tryz.func134 (by kernel_rfl) (by kernel_rfl)
theorem fun_71 : Fun Tryz.prog 71 := .of Tryz.func71 (by kernel_rfl) (by kernel_rfl)
theorem fun_77 : Fun Tryz.prog 77 := .of Tryz.func77 (by kernel_rfl) (by kernel_rfl)
theorem fun_86 : Fun Tryz.prog 86 := .of Tryz.func86 (by kernel_rfl) (by kernel_rfl)
theorem r_vld {I : HMap} (p : Pt) (hN : Nd I p) (hpn : p.n ≤ 100000) : RetV Tryz.prog 77 [encPA p] I (.bool (vldB p)) := by
 intro g H w hw
 refine enter Tryz.func77 rfl Tryz.ntmps77 rfl hw ?_
 have hN : Sl I 1 encI p.a p.n p.c p.needs := hN
 refine X_seq (X_region ?_)
 refine XO_box rfl rfl rfl (fun b_1 => ?_)
 refine XO_v0 (ev_assign rfl) rfl rfl rfl ?_
 refine XO_nil (at_then ?_)
 refine X_seq ?_
 refine X_seq (X_region ?_)
 refine XO_v0 (ev_fieldAddr rfl fld_53_0) rfl rfl rfl ?_
 refine XO_v0 (ev_load rfl sct_3 (fun hg => by first | exact Sl.get0 hN hx rfl | exact Sl.get0 (k := ((k : Int) - 1).toNat) hN (some_getD (d := 0) hN.len (by simp [conj] at hg; omega)) rfl | (repeat (first | exact Cell.here rfl | apply Cell.there | apply Cell.app)))) rfl rfl rfl ?_
 refine XO_v0 (ev_cmp rfl rfl rfl) rfl rfl rfl ?_
 refine XO_v0 (ev_move rfl) rfl rfl rfl ?_
 refine XO_pushF 3 rfl rfl rfl ?_
 refine XO_v1 (ev_fieldAddr rfl fld_53_0) (.some rfl rfl rfl rfl gbf) rfl rfl rfl ?_
 refine XO_v1 (ev_load rfl sct_3 (fun hg => by first | exact Sl.get0 hN hx rfl | exact Sl.get0 (k := ((k : Int) - 1).toNat) hN (some_getD (d := 0) hN.len (by simp [conj] at hg; omega)) rfl | (repeat (first | exact Cell.here rfl | apply Cell.there | apply Cell.app)))) (.some rfl rfl rfl rfl gbf) rfl rfl rfl ?_
 refine XO_v1 (ev_cmp rfl rfl rfl) (.some rfl rfl rfl rfl gbf) rfl rfl rfl ?_
 refine XO_or0 rfl rfl rfl rfl rfl ?_
 refine XO_v0 (ev_move rfl) rfl rfl rfl ?_
 refine XO_pushF 8 rfl rfl rfl ?_
 refine XO_v1 (ev_fieldAddr rfl fld_53_2) (.some rfl rfl rfl rfl gbf) rfl rfl rfl ?_
 refine XO_v1 (ev_load rfl sct_3 (fun hg => by first | exact Sl.get0 hN hx rfl | exact Sl.get0 (k := ((k : Int) - 1).toNat) hN (some_getD (d := 0) hN.len (by simp [conj] at hg; omega)) rfl | (repeat (first | exact Cell.here rfl | apply Cell.there | apply Cell.app)))) (.some rfl rfl rfl rfl gbf) rfl rfl rfl ?_
 refine XO_v1 (ev_cmp rfl rfl rfl) (.some rfl rfl rfl rfl gbf) rfl rfl rfl ?_
 refine XO_or0 rfl rfl rfl rfl rfl ?_
 refine XO_v0 (ev_move rfl) rfl rfl rfl ?_
 refine XO_pushF 13 rfl rfl rfl ?_
 refine XO_v1 (ev_fieldAddr rfl fld_53_2) (.some rfl rfl rfl rfl gbf) rfl rfl rfl ?_
 refine XO_v1 (ev_load rfl sct_3 (fun hg => by first | exact Sl.get0 hN hx rfl | exact Sl.get0 (k := ((k : Int) - 1).toNat) hN (some_getD (d := 0) hN.len (by simp [conj] at hg; omega)) rfl | (repeat (first | exact Cell.here rfl | apply Cell.there | apply Cell.app)))) (.some rfl rfl rfl rfl gbf) rfl rfl rfl ?_
 refine XO_v1 (ev_cmp rfl rfl rfl) (.some rfl rfl rfl rfl gbf) rfl rfl rfl ?_
 refine XO_or0 rfl rfl rfl rfl rfl ?_
 refine XO_nil (at_then ?_)
 refine X_cond rfl (fun hc21 => ?_) (fun hc21 => ?_)
 ·
  have hi : idB p = false := by have h := hc21; rw [idB_no] at h; simpa using h
  refine X_seq (X_region ?_)
  refine XO_v0 (ev_assign rfl) rfl rfl rfl ?_
  refine XO_nil (at_then ?_)
  refine X_ret ?_
  refine at_then_r ?_
  exact at_ret1 rfl rfl (fun w hw => ⟨by rw [vld_id hi], hw.drop⟩)
 ·
  have hi : idB p = true := by have h := hc21; rw [idB_no] at h; simpa using h
  refine X_skip ?_
  refine at_then ?_
  refine X_seq ?_
  refine X_seq (X_region ?_)
  refine XO_v0 (ev_assign rfl) rfl rfl rfl ?_
  refine XO_nil (at_then ?_)
  refine X_block ?_
  refine X_loopT [(1, _)] (.cons rfl .nil) (fun T L0 mz E I' loc' => ∃ (k : Nat), mz = p.n - k ∧ E = (3, .int .i64 k) :: T ∧ I = I' ∧ L0 = loc' ∧ k ≤ p.n ∧ (List.range k).all (ndP p.id p.needs) = true) _ _ _ _ ⟨0, rfl, rfl, rfl, rfl, Nat.zero_le _, rfl⟩ (.cons rfl (.cons rfl .nil)) (HLe.refl _) rfl ?_
  rintro mz E I' loc' ⟨k, rfl, rfl, rfl, rfl, hk, hall⟩
  refine X_seq ?_
  refine X_seq (X_region ?_)
  refine XO_v0 (ev_move rfl) rfl rfl rfl ?_
  refine XO_v0 (ev_fieldAddr rfl fld_53_5) rfl rfl rfl ?_
  refine XO_v0 (ev_load rfl sct_23 (fun hg => by first | exact Sl.get0 hN hx rfl | exact Sl.get0 (k := ((k : Int) - 1).toNat) hN (some_getD (d := 0) hN.len (by simp [conj] at hg; omega)) rfl | (repeat (first | exact Cell.here rfl | apply Cell.there | apply Cell.app)))) rfl rfl rfl ?_
  refine XO_v0 (ev_lenS rfl slt_23) rfl rfl rfl ?_
  refine XO_v0 (ev_cmp rfl rfl rfl) rfl rfl rfl ?_
  refine XO_nil (at_then ?_)
  refine X_cond rfl (fun hc26 => ?_) (fun hc26 => ?_)
  ·
   have hlt_k : k < p.n := by have h := hc26; simp at h; omega
   obtain ⟨x, hx⟩ := hN.at hlt_k
   refine X_skip ?_
   refine at_then ?_
   refine X_seq ?_
   refine X_block ?_
   refine X_seq ?_
   refine X_draw mixed (by kernel_rfl) ?_
   refine XQ_v0 (ev_fieldAddr rfl fld_53_5) rfl rfl rfl ?_
   refine XQ_v0 (ev_load rfl sct_23 (fun hg => by first | exact Sl.get0 hN hx rfl | exact Sl.get0 (k := ((k : Int) - 1).toNat) hN (some_getD (d := 0) hN.len (by simp [conj] at hg; omega)) rfl | (repeat (first | exact Cell.here rfl | apply Cell.there | apply Cell.app)))) rfl rfl rfl ?_
   refine XQ_v0 (ev_move rfl) rfl rfl rfl ?_
   refine XQ_v0 (ev_indexSl rfl rfl slt_23 (by assumption) (fun hg => by first | omega | (simp [conj] at hg; omega))) rfl rfl rfl ?_
   refine XQ_v0 (ev_load rfl sct_3 (fun hg => by first | exact Sl.get0 hN hx rfl | exact Sl.get0 (k := ((k : Int) - 1).toNat) hN (some_getD (d := 0) hN.len (by simp [conj] at hg; omega)) rfl | (repeat (first | exact Cell.here rfl | apply Cell.there | apply Cell.app)))) rfl rfl rfl ?_
   refine XQ_v0 (ev_cmp rfl rfl rfl) rfl rfl rfl ?_
   refine XQ_v0 (ev_move rfl) rfl rfl rfl ?_
   refine XQ_pushF 6 rfl rfl rfl ?_
   refine XQ_v1 (ev_fieldAddr rfl fld_53_5) (.some rfl rfl rfl rfl gbf) rfl rfl rfl ?_
   refine XQ_v1 (ev_load rfl sct_23 (fun hg => by first | exact Sl.get0 hN hx rfl | exact Sl.get0 (k := ((k : Int) - 1).toNat) hN (some_getD (d := 0) hN.len (by simp [conj] at hg; omega)) rfl | (repeat (first | exact Cell.here rfl | apply Cell.there | apply Cell.app)))) (.some rfl rfl rfl rfl gbf) rfl rfl rfl ?_
   refine XQ_v1 (ev_move rfl) (.some rfl rfl rfl rfl gbf) rfl rfl rfl ?_
   refine XQ_v1 (ev_indexSl rfl rfl slt_23 (by assumption) (fun hg => by first | omega | (simp [conj] at hg; omega))) (.some rfl rfl rfl rfl gbf) rfl rfl rfl ?_
   refine XQ_v1 (ev_load rfl sct_3 (fun hg => by first | exact Sl.get0 hN hx rfl | exact Sl.get0 (k := ((k : Int) - 1).toNat) hN (some_getD (d := 0) hN.len (by simp [conj] at hg; omega)) rfl | (repeat (first | exact Cell.here rfl | apply Cell.there | apply Cell.app)))) (.some rfl rfl rfl rfl gbf) rfl rfl rfl ?_
   refine XQ_v1 (ev_fieldAddr rfl fld_53_0) (.some rfl rfl rfl rfl gbf) rfl rfl rfl ?_
   refine XQ_v1 (ev_load rfl sct_3 (fun hg => by first | exact Sl.get0 hN hx rfl | exact Sl.get0 (k := ((k : Int) - 1).toNat) hN (some_getD (d := 0) hN.len (by simp [conj] at hg; omega)) rfl | (repeat (first | exact Cell.here rfl | apply Cell.there | apply Cell.app)))) (.some rfl rfl rfl rfl gbf) rfl rfl rfl ?_
   refine XQ_v1 (ev_cmp rfl rfl rfl) (.some rfl rfl rfl rfl gbf) rfl rfl rfl ?_
   refine XQ_or0 rfl rfl rfl rfl rfl ?_
   refine XQ_v0 (ev_move rfl) rfl rfl rfl ?_
   refine XQ_pushF 16 rfl rfl rfl ?_
   refine XQ_v1 (ev_move rfl) (.some rfl rfl rfl rfl gbf) rfl rfl rfl ?_
   refine XQ_v1 (ev_cmp rfl rfl rfl) (.some rfl rfl rfl rfl gbf) rfl rfl rfl ?_
   refine XQ_v1 (ev_move rfl) (.some rfl rfl rfl rfl gbf) rfl rfl rfl ?_
   refine XQ_pushT 19 rfl rfl rfl ?_
   refine XQ_v1 (ev_fieldAddr rfl fld_53_5) (.some rfl rfl rfl rfl gbt) rfl rfl rfl ?_
   refine XQ_v1 (ev_load rfl sct_23 (fun hg => by first | exact Sl.get0 hN hx rfl | exact Sl.get0 (k := ((k : Int) - 1).toNat) hN (some_getD (d := 0) hN.len (by simp [conj] at hg; omega)) rfl | (repeat (first | exact Cell.here rfl | apply Cell.there | apply Cell.app)))) (.some rfl rfl rfl rfl gbt) rfl rfl rfl ?_
   refine XQ_v1 (ev_move rfl) (.some rfl rfl rfl rfl gbt) rfl rfl rfl ?_
   refine XQ_v1 (ev_indexSl rfl rfl slt_23 (by assumption) (fun hg => by first | omega | (simp [conj] at hg; omega))) (.some rfl rfl rfl rfl gbt) rfl rfl rfl ?_
   refine XQ_v1 (ev_load rfl sct_3 (fun hg => by first | exact Sl.get0 hN hx rfl | exact Sl.get0 (k := ((k : Int) - 1).toNat) hN (some_getD (d := 0) hN.len (by simp [conj] at hg; omega)) rfl | (repeat (first | exact Cell.here rfl | apply Cell.there | apply Cell.app)))) (.some rfl rfl rfl rfl gbt) rfl rfl rfl ?_
   refine XQ_v1 (ev_fieldAddr rfl fld_53_5) (.some rfl rfl rfl rfl gbt) rfl rfl rfl ?_
   refine XQ_v1 (ev_load rfl sct_23 (fun hg => by first | exact Sl.get0 hN hx rfl | exact Sl.get0 (k := ((k : Int) - 1).toNat) hN (some_getD (d := 0) hN.len (by simp [conj] at hg; omega)) rfl | (repeat (first | exact Cell.here rfl | apply Cell.there | apply Cell.app)))) (.some rfl rfl rfl rfl gbt) rfl rfl rfl ?_
   refine XQ_v1 (ev_move rfl) (.some rfl rfl rfl rfl gbt) rfl rfl rfl ?_
   refine XQ_v1 (ev_arB rfl rfl rfl (fun hg => by first | omega | (simp [conj] at hg; omega))) (.some rfl rfl rfl rfl gbt) rfl rfl rfl ?_
   refine XQ_v1 (ev_indexSl rfl rfl slt_23 (by assumption) (fun hg => by first | omega | (simp [conj] at hg; omega))) (.some rfl rfl rfl rfl gbt) rfl rfl rfl ?_
   refine XQ_v1 (ev_load rfl sct_3 (fun hg => by first | exact Sl.get0 hN hx rfl | exact Sl.get0 (k := ((k : Int) - 1).toNat) hN (some_getD (d := 0) hN.len (by simp [conj] at hg; omega)) rfl | (repeat (first | exact Cell.here rfl | apply Cell.there | apply Cell.app)))) (.some rfl rfl rfl rfl gbt) rfl rfl rfl ?_
   refine XQ_v1 (ev_cmp rfl rfl rfl) (.some rfl rfl rfl rfl gbt) rfl rfl rfl ?_
   refine XQ_and1 rfl rfl rfl (.some rfl rfl rfl rfl gbf) rfl rfl ?_
   refine XQ_or0 rfl rfl rfl rfl rfl ?_
   refine XQ_nil ?_
   refine at_then ?_
   refine X_cond rfl (fun hc62 => ?_) (fun hc62 => ?_)
   ·
    have hnd : ndB p.id p.needs = false := by unfold ndB; exact range_bad (k := k) (by rw [hN.len]; exact hlt_k) (by rw [ndR_at hx, hc62]; rfl)
    refine X_seq (X_region ?_)
    refine XO_v0 (ev_assign rfl) rfl rfl rfl ?_
    refine XO_nil (at_then ?_)
    refine X_ret ?_
    refine at_block_r ?_
    refine at_then_r ?_
    refine at_then_r ?_
    refine at_block_r ?_
    refine at_then_r ?_
    exact at_ret1 rfl rfl (fun w hw => ⟨by rw [vld_nd hnd], hw.drop⟩)
   ·
    refine X_skip ?_
    refine at_block_n ?_
    refine at_then ?_
    refine X_region ?_
    refine XO_v0 (ev_move rfl) rfl rfl rfl ?_
    refine XO_v0 (ev_arB rfl rfl rfl (fun hg => by first | omega | (simp [conj] at hg; omega))) rfl rfl rfl ?_
    refine XO_v0 (ev_assign rfl) rfl rfl rfl ?_
    refine XO_nil ?_
    exact at_met2 _ _ ⟨p.n - (k + 1), by omega, k + 1, rfl, rfl, rfl, rfl, by omega, range_step hall (by rw [ndR_at hx, hc62]; rfl)⟩ (.cons rfl (.cons rfl .nil)) (by repeat (first | exact .refl | exact subL_left | refine subL_app ?_ | refine .drop ?_ | refine subL_add ?_))
  ·
   have hge_k : p.n ≤ k := by have h := hc26; simp at h; omega
   have hnd : ndB p.id p.needs = true := by unfold ndB; rw [hN.len, show p.n = k by omega]; exact hall
   refine X_exit ?_
   refine at_then_e ?_
   refine at_then_e ?_
   refine at_block_hit ?_
   refine at_then ?_
   refine X_seq ?_
   refine X_seq (X_region ?_)
   refine XO_v0 (ev_fieldAddr rfl fld_53_1) rfl rfl rfl ?_
   refine XO_v0 (ev_load rfl sct_3 (fun hg => by first | exact Sl.get0 hN hx rfl | exact Sl.get0 (k := ((k : Int) - 1).toNat) hN (some_getD (d := 0) hN.len (by simp [conj] at hg; omega)) rfl | (repeat (first | exact Cell.here rfl | apply Cell.there | apply Cell.app)))) rfl rfl rfl ?_
   refine XO_nil (at_then ?_)
   refine X_block ?_
   refine X_seq (X_region ?_)
   refine XO_v0 (ev_cmp rfl rfl rfl) rfl rfl rfl ?_
   refine XO_v0 (ev_assign rfl) rfl rfl rfl ?_
   refine XO_nil (at_then ?_)
   refine X_cond rfl (fun hc65 => ?_) (fun hc65 => ?_)
   ·
    have hk : p.kind = 1 := by simpa using hc65
    refine X_seq ?_
    refine X_seq (X_region ?_)
    refine XO_v0 (ev_fieldAddr rfl fld_53_3) rfl rfl rfl ?_
    refine XO_v0 (ev_load rfl sct_3 (fun hg => by first | exact Sl.get0 hN hx rfl | exact Sl.get0 (k := ((k : Int) - 1).toNat) hN (some_getD (d := 0) hN.len (by simp [conj] at hg; omega)) rfl | (repeat (first | exact Cell.here rfl | apply Cell.there | apply Cell.app)))) rfl rfl rfl ?_
    refine XO_v0 (ev_cmp rfl rfl rfl) rfl rfl rfl ?_
    refine XO_v0 (ev_move rfl) rfl rfl rfl ?_
    refine XO_pushF 3 rfl rfl rfl ?_
    refine XO_v1 (ev_fieldAddr rfl fld_53_3) (.some rfl rfl rfl rfl gbf) rfl rfl rfl ?_
    refine XO_v1 (ev_load rfl sct_3 (fun hg => by first | exact Sl.get0 hN hx rfl | exact Sl.get0 (k := ((k : Int) - 1).toNat) hN (some_getD (d := 0) hN.len (by simp [conj] at hg; omega)) rfl | (repeat (first | exact Cell.here rfl | apply Cell.there | apply Cell.app)))) (.some rfl rfl rfl rfl gbf) rfl rfl rfl ?_
    refine XO_v1 (ev_cmp rfl rfl rfl) (.some rfl rfl rfl rfl gbf) rfl rfl rfl ?_
    refine XO_or0 rfl rfl rfl rfl rfl ?_
    refine XO_nil (at_then ?_)
    refine X_cond rfl (fun hc74 => ?_) (fun hc74 => ?_)
    ·
     refine X_seq (X_region ?_)
     refine XO_v0 (ev_assign rfl) rfl rfl rfl ?_
     refine XO_nil (at_then ?_)
     refine X_ret ?_
     refine at_then_r ?_
     refine at_block_r ?_
     refine at_then_r ?_
     exact at_ret1 rfl rfl (fun w hw => ⟨by rw [vld_k hi hnd, knd_0 hk hc74], hw.drop⟩)
    ·
     refine X_skip ?_
     refine at_then ?_
     refine X_seq ?_
     refine X_draw mixed (by kernel_rfl) ?_
     refine XQ_v0 (ev_buildL (ps := []) [_, _, _, _, _, _, _, _, _, _, _, _, _, _] plt_45 rfl rfl) rfl rfl rfl ?_
     refine XQ_v0 (ev_fieldAddr rfl fld_53_3) rfl rfl rfl ?_
     refine XQ_v0 (ev_load rfl sct_3 (fun hg => by first | exact Sl.get0 hN hx rfl | exact Sl.get0 (k := ((k : Int) - 1).toNat) hN (some_getD (d := 0) hN.len (by simp [conj] at hg; omega)) rfl | (repeat (first | exact Cell.here rfl | apply Cell.there | apply Cell.app)))) rfl rfl rfl ?_
     refine XQ_v0 (ev_fieldAddr rfl fld_53_4) rfl rfl rfl ?_
     refine XQ_v0 (ev_loadA rfl agt_45 (fun hg => by first | (repeat (first | exact Cells.here | exact Cells.s0 (vs := [_, _, _, _, _, _, _, _, _, _, _, _, _, _]) rfl | apply Cells.there | apply Cells.app))) rfl) rfl rfl rfl ?_
     refine XQ_callV0 (cap := []) (vs := [_, _, _]) rfl rfl fun_86 (r_set I zeroG p.field p.nw) rfl rfl ?_
     refine XQ_v0 (ev_fieldAddr rfl fld_53_4) rfl rfl rfl ?_
     refine XQ_v0 (ev_loadA rfl agt_45 (fun hg => by first | (repeat (first | exact Cells.here | exact Cells.s0 (vs := [_, _, _, _, _, _, _, _, _, _, _, _, _, _]) rfl | apply Cells.there | apply Cells.app))) rfl) rfl rfl rfl ?_
     refine XQ_v0 (ev_eqS2 rfl rfl eqt2_45 rfl) rfl rfl rfl ?_
     refine XQ_v0 (ev_move rfl) rfl rfl rfl ?_
     refine XQ_pushT 9 rfl rfl rfl ?_
     refine XQ_callV1 (cap := []) (vs := []) rfl rfl fun_134 (fun hg => r_plain I) (.some rfl rfl rfl rfl gbt) rfl rfl ?_
     refine XQ_v1 (ev_fieldAddr rfl fld_53_3) (.some rfl rfl rfl rfl gbt) rfl rfl rfl ?_
     refine XQ_v1 (ev_load rfl sct_3 (fun hg => by first | exact Sl.get0 hN hx rfl | exact Sl.get0 (k := ((k : Int) - 1).toNat) hN (some_getD (d := 0) hN.len (by simp [conj] at hg; omega)) rfl | (repeat (first | exact Cell.here rfl | apply Cell.there | apply Cell.app)))) (.some rfl rfl rfl rfl gbt) rfl rfl rfl ?_
     refine XQ_v1 (ev_fieldAddr rfl fld_53_4) (.some rfl rfl rfl rfl gbt) rfl rfl rfl ?_
     refine XQ_v1 (ev_loadA rfl agt_45 (fun hg => by first | (repeat (first | exact Cells.here | exact Cells.s0 (vs := [_, _, _, _, _, _, _, _, _, _, _, _, _, _]) rfl | apply Cells.there | apply Cells.app))) rfl) (.some rfl rfl rfl rfl gbt) rfl rfl rfl ?_
     refine XQ_callV1 (cap := []) (vs := [_, _, _]) rfl rfl fun_86 (fun hg => r_set I plainR p.field p.nw) (.some rfl rfl rfl rfl gbt) rfl rfl ?_
     refine XQ_callV1 (cap := []) (vs := [_]) rfl rfl fun_133 (fun hg => r_form I _) (.some rfl rfl rfl rfl gbt) rfl rfl ?_
     refine XQ_and0 rfl rfl rfl rfl rfl ?_
     refine XQ_v0 (ev_assign rfl) rfl rfl rfl ?_
     refine XQ_nil ?_
     refine at_then ?_
     refine X_ret ?_
     refine at_block_r ?_
     refine at_then_r ?_
     first
     | exact at_ret1 rfl rfl (fun w hw => ⟨by rw [vld_k hi hnd, ← knd_set hk hc74]; rfl, hw.drop⟩)
   ·
    have hk1 : p.kind ≠ 1 := by simpa using hc65
    refine X_seq (X_region ?_)
    refine XO_v0 (ev_cmp rfl rfl rfl) rfl rfl rfl ?_
    refine XO_v0 (ev_assign rfl) rfl rfl rfl ?_
    refine XO_nil (at_then ?_)
    refine X_cond rfl (fun hc93 => ?_) (fun hc93 => ?_)
    ·
     have hk : p.kind = 2 := by simpa using hc93
     refine X_seq (X_region ?_)
     refine XO_v0 (ev_fieldAddr rfl fld_53_3) rfl rfl rfl ?_
     refine XO_v0 (ev_load rfl sct_3 (fun hg => by first | exact Sl.get0 hN hx rfl | exact Sl.get0 (k := ((k : Int) - 1).toNat) hN (some_getD (d := 0) hN.len (by simp [conj] at hg; omega)) rfl | (repeat (first | exact Cell.here rfl | apply Cell.there | apply Cell.app)))) rfl rfl rfl ?_
     refine XO_v0 (ev_cmp rfl rfl rfl) rfl rfl rfl ?_
     refine XO_v0 (ev_move rfl) rfl rfl rfl ?_
     refine XO_pushT 3 rfl rfl rfl ?_
     refine XO_v1 (ev_fieldAddr rfl fld_53_4) (.some rfl rfl rfl rfl gbt) rfl rfl rfl ?_
     refine XO_v1 (ev_fieldAddr rfl fld_45_0) (.some rfl rfl rfl rfl gbt) rfl rfl rfl ?_
     refine XO_v1 (ev_load rfl sct_3 (fun hg => by first | exact Sl.get0 hN hx rfl | exact Sl.get0 (k := ((k : Int) - 1).toNat) hN (some_getD (d := 0) hN.len (by simp [conj] at hg; omega)) rfl | (repeat (first | exact Cell.here rfl | apply Cell.there | apply Cell.app)))) (.some rfl rfl rfl rfl gbt) rfl rfl rfl ?_
     refine XO_v1 (ev_fieldAddr rfl fld_53_2) (.some rfl rfl rfl rfl gbt) rfl rfl rfl ?_
     refine XO_v1 (ev_load rfl sct_3 (fun hg => by first | exact Sl.get0 hN hx rfl | exact Sl.get0 (k := ((k : Int) - 1).toNat) hN (some_getD (d := 0) hN.len (by simp [conj] at hg; omega)) rfl | (repeat (first | exact Cell.here rfl | apply Cell.there | apply Cell.app)))) (.some rfl rfl rfl rfl gbt) rfl rfl rfl ?_
     refine XO_v1 (ev_cmp rfl rfl rfl) (.some rfl rfl rfl rfl gbt) rfl rfl rfl ?_
     refine XO_and0 rfl rfl rfl rfl rfl ?_
     refine XO_v0 (ev_move rfl) rfl rfl rfl ?_
     refine XO_pushT 11 rfl rfl rfl ?_
     refine XO_v1 (ev_fieldAddr rfl fld_53_4) (.some rfl rfl rfl rfl gbt) rfl rfl rfl ?_
     refine XO_v1 (ev_loadA rfl agt_45 (fun hg => by first | (repeat (first | exact Cells.here | exact Cells.s0 (vs := [_, _, _, _, _, _, _, _, _, _, _, _, _, _]) rfl | apply Cells.there | apply Cells.app))) rfl) (.some rfl rfl rfl rfl gbt) rfl rfl rfl ?_
     refine XO_callV1 (cap := []) (vs := [_]) rfl rfl fun_133 (fun hg => r_form I _) (.some rfl rfl rfl rfl gbt) rfl rfl ?_
     refine XO_and0 rfl rfl rfl rfl rfl ?_
     refine XO_v0 (ev_assign rfl) rfl rfl rfl ?_
     refine XO_nil (at_then ?_)
     refine X_ret ?_
     refine at_block_r ?_
     refine at_then_r ?_
     exact at_ret1 rfl rfl (fun w hw => ⟨by rw [vld_k hi hnd, knd_2 hk, ← Bool.and_assoc], hw.drop⟩)
    ·
     have hk2 : p.kind ≠ 2 := by simpa using hc93
     refine X_seq (X_region ?_)
     refine XO_v0 (ev_cmp rfl rfl rfl) rfl rfl rfl ?_
     refine XO_v0 (ev_assign rfl) rfl rfl rfl ?_
     refine XO_nil (at_then ?_)
     refine X_cond rfl (fun hc111 => ?_) (fun hc111 => ?_)
     ·
      have hk : p.kind = 3 := by simpa using hc111
      refine X_seq (X_region ?_)
      refine XO_v0 (ev_fieldAddr rfl fld_53_3) rfl rfl rfl ?_
      refine XO_v0 (ev_load rfl sct_3 (fun hg => by first | exact Sl.get0 hN hx rfl | exact Sl.get0 (k := ((k : Int) - 1).toNat) hN (some_getD (d := 0) hN.len (by simp [conj] at hg; omega)) rfl | (repeat (first | exact Cell.here rfl | apply Cell.there | apply Cell.app)))) rfl rfl rfl ?_
      refine XO_v0 (ev_cmp rfl rfl rfl) rfl rfl rfl ?_
      refine XO_v0 (ev_move rfl) rfl rfl rfl ?_
      refine XO_pushT 3 rfl rfl rfl ?_
      refine XO_v1 (ev_fieldAddr rfl fld_53_4) (.some rfl rfl rfl rfl gbt) rfl rfl rfl ?_
      refine XO_v1 (ev_loadA rfl agt_45 (fun hg => by first | (repeat (first | exact Cells.here | exact Cells.s0 (vs := [_, _, _, _, _, _, _, _, _, _, _, _, _, _]) rfl | apply Cells.there | apply Cells.app))) rfl) (.some rfl rfl rfl rfl gbt) rfl rfl rfl ?_
      refine XO_v1 (ev_buildL (ps := []) [_, _, _, _, _, _, _, _, _, _, _, _, _, _] plt_45 rfl rfl) (.some rfl rfl rfl rfl gbt) rfl rfl rfl ?_
      refine XO_v1 (ev_eqS2 rfl rfl eqt2_45 rfl) (.some rfl rfl rfl rfl gbt) rfl rfl rfl ?_
      refine XO_and0 rfl rfl rfl rfl rfl ?_
      refine XO_v0 (ev_assign rfl) rfl rfl rfl ?_
      refine XO_nil (at_then ?_)
      refine X_ret ?_
      refine at_block_r ?_
      refine at_then_r ?_
      first
      | exact at_ret1 rfl rfl (fun w hw => ⟨by rw [vld_k hi hnd, knd_3 hk]; rfl, hw.drop⟩)
     ·
      have hk3 : p.kind ≠ 3 := by simpa using hc111
      refine X_skip ?_
      refine at_block_n ?_
      refine at_then ?_
      refine X_seq (X_region ?_)
      refine XO_v0 (ev_assign rfl) rfl rfl rfl ?_
      refine XO_nil (at_then ?_)
      refine X_ret ?_
      first
      | exact at_ret1 rfl rfl (fun w hw => ⟨by rw [vld_k hi hnd]; unfold kndB; rw [if_neg hk1, if_neg hk2, if_neg hk3], hw.drop⟩)
theorem r_pchk {I : HMap} (p : Pt) (hN : Nd I p) : RetV Tryz.prog 39 [encPA p] I (.int .i64 (pchk p)) := by
 intro g H w hw
 refine enter Tryz.func39 rfl Tryz.ntmps39 rfl hw ?_
 refine X_seq (X_region ?_)
 refine XO_box rfl rfl rfl (fun b_1 => ?_)
 refine XO_v0 (ev_assign rfl) rfl rfl rfl ?_
 refine XO_nil (at_then ?_)
 refine X_seq ?_
 refine X_seq (X_region ?_)
 refine XO_v0 (ev_fieldAddr rfl fld_53_5) rfl rfl rfl ?_
 refine XO_v0 (ev_load rfl sct_23 (fun hg => by repeat (first | exact Cell.here rfl | apply Cell.there | apply Cell.app))) rfl rfl rfl ?_
 refine XO_v0 (ev_lenS rfl slt_23) rfl rfl rfl ?_
 refine XO_v0 (ev_cmp rfl rfl rfl) rfl rfl rfl ?_
 refine XO_nil (at_then ?_)
 refine X_cond rfl (fun hc7 => ?_) (fun hc7 => ?_)
 ·
  have hlen : p.needs.length > 32 := by rw [(show Sl _ 1 encI p.a p.n p.c p.needs from hN).len]; simp at hc7; omega
  refine X_seq (X_region ?_)
  refine XO_v0 (ev_assign rfl) rfl rfl rfl ?_
  refine XO_nil (at_then ?_)
  refine X_ret ?_
  refine at_then_r ?_
  exact at_ret1 rfl rfl (fun w hw => ⟨by rw [pchk_1 hlen], hw.drop⟩)
 ·
  have hlen : ¬ p.needs.length > 32 := by rw [(show Sl _ 1 encI p.a p.n p.c p.needs from hN).len]; simp at hc7; omega
  refine X_skip ?_
  refine at_then ?_
  refine X_seq (X_region ?_)
  refine XO_v0 (ev_loadA rfl agt_53 (fun hg => by first | (repeat (first | exact Cells.here | exact Cells.s0 (vs := [_, _, _, _, _, _, _, _, _, _, _, _, _, _, _, _, _, _, _]) rfl | apply Cells.there | apply Cells.app))) rfl) rfl rfl rfl ?_
  refine XO_callV0 (cap := []) (vs := [_]) rfl rfl fun_77 (r_vld p hN (by have := (show Sl _ 1 encI p.a p.n p.c p.needs from hN).len; omega)) rfl rfl ?_
  refine XO_v0 (ev_assign rfl) rfl rfl rfl ?_
  refine XO_nil (at_then ?_)
  refine X_seq ?_
  refine X_seq (X_region ?_)
  refine XO_v0 (ev_move rfl) rfl rfl rfl ?_
  refine XO_v0 (ev_not rfl) rfl rfl rfl ?_
  refine XO_nil (at_then ?_)
  refine X_cond rfl (fun hc11 => ?_) (fun hc11 => ?_)
  ·
   refine X_seq (X_region ?_)
   refine XO_v0 (ev_assign rfl) rfl rfl rfl ?_
   refine XO_nil (at_then ?_)
   refine X_ret ?_
   refine at_then_r ?_
   exact at_ret1 rfl rfl (fun w hw => ⟨by rw [← vld_chk hlen, if_neg (by simpa using hc11)], hw.drop⟩)
  ·
   refine X_skip ?_
   refine at_then ?_
   refine X_seq (X_region ?_)
   refine XO_v0 (ev_assign rfl) rfl rfl rfl ?_
   refine XO_nil (at_then ?_)
   refine X_ret ?_
   exact at_ret1 rfl rfl (fun w hw => ⟨by rw [← vld_chk hlen, if_pos (by simpa using hc11)], hw.drop⟩)
theorem r_find {I : HMap} {av : Option Addr} {n c : Nat} {ps : List Pt} (hP : SlP I av n c ps) (hn : n ≤ 100000) (t : Int) : RetV Tryz.prog 71 [.slice av n c, .int .i64 t] I (.int .i64 (fndI ps t)) := by
 intro g H w hw
 refine enter Tryz.func71 rfl Tryz.ntmps71 rfl hw ?_
 refine X_seq (X_region ?_)
 refine XO_v0 (ev_assign rfl) rfl rfl rfl ?_
 refine XO_nil (at_then ?_)
 refine X_seq ?_
 refine X_seq (X_region ?_)
 refine XO_v0 (ev_assign rfl) rfl rfl rfl ?_
 refine XO_nil (at_then ?_)
 refine X_block ?_
 refine X_loopT [(0, _), (1, _)] (.cons rfl (.cons rfl .nil)) (fun T L0 mz E I' loc' => ∃ (k : Nat), mz = n - k ∧ E = (5, .int .i64 k) :: T ∧ I = I' ∧ L0 = loc' ∧ k ≤ n ∧ (ps.take k).any (idP t) = false) _ _ _ _ ⟨0, rfl, rfl, rfl, rfl, Nat.zero_le _, by simp⟩ (.cons rfl (.cons rfl (.cons rfl .nil))) (HLe.refl _) rfl ?_
 rintro mz E I' loc' ⟨k, rfl, rfl, rfl, rfl, hk, hno⟩
 refine X_seq ?_
 refine X_seq (X_region ?_)
 refine XO_v0 (ev_move rfl) rfl rfl rfl ?_
 refine XO_v0 (ev_move rfl) rfl rfl rfl ?_
 refine XO_v0 (ev_lenS rfl slt_22) rfl rfl rfl ?_
 refine XO_v0 (ev_cmp rfl rfl rfl) rfl rfl rfl ?_
 refine XO_nil (at_then ?_)
 refine X_cond rfl (fun hc9 => ?_) (fun hc9 => ?_)
 ·
  have hlt_k : k < n := by have h := hc9; simp at h; omega
  have hP1 := hP.1
  obtain ⟨p, hp⟩ := hP1.at hlt_k
  refine X_skip ?_
  refine at_then ?_
  refine X_seq ?_
  refine X_block ?_
  refine X_seq (X_region ?_)
  refine XO_v0 (ev_move rfl) rfl rfl rfl ?_
  refine XO_v0 (ev_move rfl) rfl rfl rfl ?_
  refine XO_v0 (ev_indexSl rfl rfl slt_22 (by assumption) (fun hg => by first | omega | (simp [conj] at hg; omega))) rfl rfl rfl ?_
  refine XO_v0 (ev_fieldAddr rfl fld_53_0) rfl rfl rfl ?_
  refine XO_v0 (ev_load rfl sct_3 (fun hg => by first | exact Sl.get hP1 hp rfl | (repeat (first | exact Cell.here rfl | apply Cell.there | apply Cell.app)))) rfl rfl rfl ?_
  refine XO_v0 (ev_move rfl) rfl rfl rfl ?_
  refine XO_v0 (ev_cmp rfl rfl rfl) rfl rfl rfl ?_
  refine XO_nil (at_then ?_)
  refine X_cond rfl (fun hc18 => ?_) (fun hc18 => ?_)
  ·
   refine X_seq (X_region ?_)
   refine XO_v0 (ev_move rfl) rfl rfl rfl ?_
   refine XO_v0 (ev_assign rfl) rfl rfl rfl ?_
   refine XO_nil (at_then ?_)
   refine X_ret ?_
   refine at_block_r ?_
   refine at_then_r ?_
   refine at_then_r ?_
   refine at_block_r ?_
   refine at_then_r ?_
   first
   | exact at_ret1 rfl rfl (fun w hw => ⟨by unfold fndI; rw [idx_hit hno hp hc18], hw.drop⟩)
  ·
   refine X_skip ?_
   refine at_block_n ?_
   refine at_then ?_
   refine X_region ?_
   refine XO_v0 (ev_move rfl) rfl rfl rfl ?_
   refine XO_v0 (ev_arB rfl rfl rfl (fun _ => by omega)) rfl rfl rfl ?_
   refine XO_v0 (ev_assign rfl) rfl rfl rfl ?_
   refine XO_nil ?_
   exact at_met2 _ _ ⟨n - (k + 1), by omega, k + 1, rfl, rfl, rfl, rfl, by omega, any_no hp hno hc18⟩ (.cons rfl (.cons rfl (.cons rfl .nil))) (by repeat (first | exact .refl | exact subL_left | refine subL_app ?_ | refine .drop ?_ | refine subL_add ?_))
 ·
  have hge_k : n ≤ k := by have h := hc9; simp at h; omega
  refine X_exit ?_
  refine at_then_e ?_
  refine at_then_e ?_
  refine at_block_hit ?_
  refine at_then ?_
  refine X_seq (X_region ?_)
  refine XO_v0 (ev_assign rfl) rfl rfl rfl ?_
  refine XO_nil (at_then ?_)
  refine X_ret ?_
  first
  | exact at_ret1 rfl rfl (fun w hw => ⟨by unfold fndI; rw [idx_none hP.len hge_k hno], hw.drop⟩)
theorem r_tog (I : HMap) (p q : Pt) (on : Bool) : RetV Tryz.prog 42 [encPA p, encPA q, .bool on] I (.bool (togB p q on)) := by
 intro g H w hw
 refine enter Tryz.func42 rfl Tryz.ntmps42 rfl hw ?_
 refine X_seq (X_region ?_)
 refine XO_box rfl rfl rfl (fun b_3 => ?_)
 refine XO_box rfl rfl rfl (fun b_4 => ?_)
 refine XO_v0 (ev_assign rfl) rfl rfl rfl ?_
 refine XO_nil (at_then ?_)
 refine X_seq ?_
 refine X_seq (X_region ?_)
 refine XO_v0 (ev_fieldAddr rfl fld_53_2) rfl rfl rfl ?_
 refine XO_v0 (ev_load rfl sct_3 (fun hg => by repeat (first | exact Cell.here rfl | apply Cell.there | apply Cell.app))) rfl rfl rfl ?_
 refine XO_v0 (ev_fieldAddr rfl fld_53_2) rfl rfl rfl ?_
 refine XO_v0 (ev_load rfl sct_3 (fun hg => by repeat (first | exact Cell.here rfl | apply Cell.there | apply Cell.app))) rfl rfl rfl ?_
 refine XO_v0 (ev_cmp rfl rfl rfl) rfl rfl rfl ?_
 refine XO_nil (at_then ?_)
 refine X_cond rfl (fun hc11 => ?_) (fun hc11 => ?_)
 ·
  have h1 : p.sign ≠ q.sign := by simpa using hc11
  refine X_seq (X_region ?_)
  refine XO_v0 (ev_assign rfl) rfl rfl rfl ?_
  refine XO_nil (at_then ?_)
  refine X_ret ?_
  refine at_then_r ?_
  first
  | exact at_ret1 rfl rfl (fun w hw => ⟨by unfold togB; rw [if_pos h1], hw.drop⟩)
 ·
  have h1 : ¬ p.sign ≠ q.sign := by simpa using hc11
  refine X_skip ?_
  refine at_then ?_
  refine X_seq ?_
  refine X_seq (X_region ?_)
  refine XO_v0 (ev_fieldAddr rfl fld_53_1) rfl rfl rfl ?_
  refine XO_v0 (ev_load rfl sct_3 (fun hg => by repeat (first | exact Cell.here rfl | apply Cell.there | apply Cell.app))) rfl rfl rfl ?_
  refine XO_nil (at_then ?_)
  refine X_block ?_
  refine X_seq (X_region ?_)
  refine XO_v0 (ev_cmp rfl rfl rfl) rfl rfl rfl ?_
  refine XO_v0 (ev_assign rfl) rfl rfl rfl ?_
  refine XO_nil (at_then ?_)
  refine X_cond rfl (fun hc14 => ?_) (fun hc14 => ?_)
  ·
   have h2 : q.kind = 2 := by simpa using hc14
   refine X_seq (X_region ?_)
   refine XO_v0 (ev_fieldAddr rfl fld_53_1) rfl rfl rfl ?_
   refine XO_v0 (ev_load rfl sct_3 (fun hg => by repeat (first | exact Cell.here rfl | apply Cell.there | apply Cell.app))) rfl rfl rfl ?_
   refine XO_v0 (ev_cmp rfl rfl rfl) rfl rfl rfl ?_
   refine XO_v0 (ev_move rfl) rfl rfl rfl ?_
   refine XO_pushT 3 rfl rfl rfl ?_
   refine XO_v1 (ev_move rfl) (.some rfl rfl rfl rfl gbt) rfl rfl rfl ?_
   refine XO_and0 rfl rfl rfl rfl rfl ?_
   refine XO_v0 (ev_assign rfl) rfl rfl rfl ?_
   refine XO_nil (at_then ?_)
   refine X_ret ?_
   refine at_block_r ?_
   refine at_then_r ?_
   first
   | exact at_ret1 rfl rfl (fun w hw => ⟨by unfold togB; rw [if_neg h1, if_pos h2], hw.drop⟩)
  ·
   have h2 : ¬ q.kind = 2 := by simpa using hc14
   refine X_seq (X_region ?_)
   refine XO_v0 (ev_cmp rfl rfl rfl) rfl rfl rfl ?_
   refine XO_v0 (ev_assign rfl) rfl rfl rfl ?_
   refine XO_nil (at_then ?_)
   refine X_cond rfl (fun hc22 => ?_) (fun hc22 => ?_)
   ·
    have h3 : q.kind = 3 := by simpa using hc22
    refine X_seq (X_region ?_)
    refine XO_v0 (ev_move rfl) rfl rfl rfl ?_
    refine XO_v0 (ev_not rfl) rfl rfl rfl ?_
    refine XO_v0 (ev_assign rfl) rfl rfl rfl ?_
    refine XO_nil (at_then ?_)
    refine X_ret ?_
    refine at_block_r ?_
    refine at_then_r ?_
    first
    | exact at_ret1 rfl rfl (fun w hw => ⟨by unfold togB; rw [if_neg h1, if_neg h2, if_pos h3], hw.drop⟩)
   ·
    have h3 : ¬ q.kind = 3 := by simpa using hc22
    refine X_skip ?_
    refine at_block_n ?_
    refine at_then ?_
    refine X_seq (X_region ?_)
    refine XO_v0 (ev_assign rfl) rfl rfl rfl ?_
    refine XO_nil (at_then ?_)
    refine X_ret ?_
    first
    | exact at_ret1 rfl rfl (fun w hw => ⟨by unfold togB; rw [if_neg h1, if_neg h2, if_neg h3], hw.drop⟩)
theorem r_list {I : HMap} {av : Option Addr} {n c : Nat} {ps : List Pt} (hP : SlP I av n c ps) (hn : n ≤ 100000) (hnd : ∀ p ∈ ps, p.n ≤ 100000) : RetV Tryz.prog 40 [.slice av n c] I (.bool (lsB ps)) := by
 intro g H w hw
 refine enter Tryz.func40 rfl Tryz.ntmps40 rfl hw ?_
 refine X_seq (X_region ?_)
 refine XO_v0 (ev_assign rfl) rfl rfl rfl ?_
 refine XO_nil (at_then ?_)
 refine X_seq ?_
 refine X_seq (X_region ?_)
 refine XO_v0 (ev_assign rfl) rfl rfl rfl ?_
 refine XO_nil (at_then ?_)
 refine X_block ?_
 refine X_loopT [(0, _)] (.cons rfl .nil) (fun T L0 mz E I' loc' => ∃ (k : Nat), mz = n - k ∧ E = (3, .int .i64 k) :: T ∧ I = I' ∧ L0 = loc' ∧ k ≤ n ∧ (List.range k).all (lsP ps) = true) _ _ _ _ ⟨0, rfl, rfl, rfl, rfl, Nat.zero_le _, rfl⟩ (.cons rfl (.cons rfl .nil)) (HLe.refl _) rfl ?_
 rintro mz E I' loc' ⟨k, rfl, rfl, rfl, rfl, hk, hall⟩
 refine X_seq ?_
 refine X_seq (X_region ?_)
 refine XO_v0 (ev_move rfl) rfl rfl rfl ?_
 refine XO_v0 (ev_move rfl) rfl rfl rfl ?_
 refine XO_v0 (ev_lenS rfl slt_22) rfl rfl rfl ?_
 refine XO_v0 (ev_cmp rfl rfl rfl) rfl rfl rfl ?_
 refine XO_nil (at_then ?_)
 refine X_cond rfl (fun hc8 => ?_) (fun hc8 => ?_)
 ·
  have hlt_k : k < n := by have h := hc8; simp at h; omega
  have hP1 := hP.1
  obtain ⟨p, hp, hN⟩ := hP.at hlt_k
  have hpm := List.mem_of_getElem? hp
  have hN : Sl I 1 encI p.a p.n p.c p.needs := hN
  have hpn := hnd p hpm
  refine X_skip ?_
  refine at_then ?_
  refine X_seq ?_
  refine X_block ?_
  refine X_seq ?_
  refine X_seq ?_
  refine X_draw mixed (by kernel_rfl) ?_
  refine XQ_v0 (ev_move rfl) rfl rfl rfl ?_
  refine XQ_v0 (ev_cmp rfl rfl rfl) rfl rfl rfl ?_
  refine XQ_v0 (ev_move rfl) rfl rfl rfl ?_
  refine XQ_pushT 2 rfl rfl rfl ?_
  refine XQ_v1 (ev_move rfl) (.some rfl rfl rfl rfl gbt) rfl rfl rfl ?_
  refine XQ_v1 (ev_move rfl) (.some rfl rfl rfl rfl gbt) rfl rfl rfl ?_
  refine XQ_v1 (ev_indexSl rfl rfl slt_22 (by assumption) (fun hg => by first | omega | (simp [conj] at hg; omega))) (.some rfl rfl rfl rfl gbt) rfl rfl rfl ?_
  refine XQ_v1 (ev_fieldAddr rfl fld_53_0) (.some rfl rfl rfl rfl gbt) rfl rfl rfl ?_
  refine XQ_v1 (ev_load rfl sct_3 (fun hg => by first | exact Sl.get hP1 hp rfl | exact Sl.get (k := ((k : Int) - 1).toNat) hP1 (some_getD (d := zeroP) hP.len (by simp [conj] at hg; omega)) rfl | exact Sl.get0 hN hy rfl | (repeat (first | exact Cell.here rfl | apply Cell.there | apply Cell.app)))) (.some rfl rfl rfl rfl gbt) rfl rfl rfl ?_
  refine XQ_v1 (ev_move rfl) (.some rfl rfl rfl rfl gbt) rfl rfl rfl ?_
  refine XQ_v1 (ev_move rfl) (.some rfl rfl rfl rfl gbt) rfl rfl rfl ?_
  refine XQ_v1 (ev_arB rfl rfl rfl (fun hg => by first | omega | (simp [conj] at hg; omega))) (.some rfl rfl rfl rfl gbt) rfl rfl rfl ?_
  refine XQ_v1 (ev_indexSl rfl rfl slt_22 (by assumption) (fun hg => by first | omega | (simp [conj] at hg; omega))) (.some rfl rfl rfl rfl gbt) rfl rfl rfl ?_
  refine XQ_v1 (ev_fieldAddr rfl fld_53_0) (.some rfl rfl rfl rfl gbt) rfl rfl rfl ?_
  refine XQ_v1 (ev_load rfl sct_3 (fun hg => by first | exact Sl.get hP1 hp rfl | exact Sl.get (k := ((k : Int) - 1).toNat) hP1 (some_getD (d := zeroP) hP.len (by simp [conj] at hg; omega)) rfl | exact Sl.get0 hN hy rfl | (repeat (first | exact Cell.here rfl | apply Cell.there | apply Cell.app)))) (.some rfl rfl rfl rfl gbt) rfl rfl rfl ?_
  refine XQ_v1 (ev_cmp rfl rfl rfl) (.some rfl rfl rfl rfl gbt) rfl rfl rfl ?_
  refine XQ_and0 rfl rfl rfl rfl rfl ?_
  refine XQ_nil ?_
  refine at_then ?_
  refine X_cond rfl (fun hc26 => ?_) (fun hc26 => ?_)
  ·
   refine X_seq (X_region ?_)
   refine XO_v0 (ev_assign rfl) rfl rfl rfl ?_
   refine XO_nil (at_then ?_)
   refine X_ret ?_
   refine at_then_r ?_
   refine at_block_r ?_
   refine at_then_r ?_
   refine at_then_r ?_
   refine at_block_r ?_
   refine at_then_r ?_
   first
   | exact at_ret1 rfl rfl (fun w hw => ⟨by unfold lsB; rw [range_bad (k := k) (by rw [hP.len]; exact hlt_k) (by rw [lsP_at hp]; exact lsR_1 hc26)], hw.drop⟩)
  ·
   refine X_skip ?_
   refine at_then ?_
   refine X_seq (X_region ?_)
   refine XO_v0 (ev_assign rfl) rfl rfl rfl ?_
   refine XO_nil (at_then ?_)
   refine X_block ?_
   refine X_loopT [(0, _), (3, _)] (.cons rfl (.cons rfl .nil)) (fun T L0 mz E I' loc' => ∃ (j : Nat), mz = p.n - j ∧ E = (4, .int .i64 j) :: T ∧ I = I' ∧ L0 = loc' ∧ j ≤ p.n ∧ (p.needs.take j).any (fun n => !hasI ps n) = false) _ _ _ _ ⟨0, rfl, rfl, rfl, rfl, Nat.zero_le _, by simp⟩ (.cons rfl (.cons rfl (.cons rfl .nil))) (HLe.refl _) rfl ?_
   rintro mz E I' loc' ⟨j, rfl, rfl, rfl, rfl, hj, hno⟩
   refine X_seq ?_
   refine X_seq (X_region ?_)
   refine XO_v0 (ev_move rfl) rfl rfl rfl ?_
   refine XO_v0 (ev_move rfl) rfl rfl rfl ?_
   refine XO_v0 (ev_move rfl) rfl rfl rfl ?_
   refine XO_v0 (ev_indexSl rfl rfl slt_22 (by assumption) (fun hg => by first | omega | (simp [conj] at hg; omega))) rfl rfl rfl ?_
   refine XO_v0 (ev_fieldAddr rfl fld_53_5) rfl rfl rfl ?_
   refine XO_v0 (ev_load rfl sct_23 (fun hg => by first | exact Sl.get hP1 hp rfl | exact Sl.get (k := ((k : Int) - 1).toNat) hP1 (some_getD (d := zeroP) hP.len (by simp [conj] at hg; omega)) rfl | exact Sl.get0 hN hy rfl | (repeat (first | exact Cell.here rfl | apply Cell.there | apply Cell.app)))) rfl rfl rfl ?_
   refine XO_v0 (ev_lenS rfl slt_23) rfl rfl rfl ?_
   refine XO_v0 (ev_cmp rfl rfl rfl) rfl rfl rfl ?_
   refine XO_nil (at_then ?_)
   refine X_cond rfl (fun hc34 => ?_) (fun hc34 => ?_)
   ·
    have hlt_j : j < p.n := by have h := hc34; simp at h; omega
    obtain ⟨y, hy⟩ := hN.at hlt_j
    refine X_skip ?_
    refine at_then ?_
    refine X_seq ?_
    refine X_block ?_
    refine X_seq (X_region ?_)
    refine XO_v0 (ev_move rfl) rfl rfl rfl ?_
    refine XO_v0 (ev_move rfl) rfl rfl rfl ?_
    refine XO_v0 (ev_move rfl) rfl rfl rfl ?_
    refine XO_v0 (ev_indexSl rfl rfl slt_22 (by assumption) (fun hg => by first | omega | (simp [conj] at hg; omega))) rfl rfl rfl ?_
    refine XO_v0 (ev_fieldAddr rfl fld_53_5) rfl rfl rfl ?_
    refine XO_v0 (ev_load rfl sct_23 (fun hg => by first | exact Sl.get hP1 hp rfl | exact Sl.get (k := ((k : Int) - 1).toNat) hP1 (some_getD (d := zeroP) hP.len (by simp [conj] at hg; omega)) rfl | exact Sl.get0 hN hy rfl | (repeat (first | exact Cell.here rfl | apply Cell.there | apply Cell.app)))) rfl rfl rfl ?_
    refine XO_v0 (ev_move rfl) rfl rfl rfl ?_
    refine XO_v0 (ev_indexSl rfl rfl slt_23 (by assumption) (fun hg => by first | omega | (simp [conj] at hg; omega))) rfl rfl rfl ?_
    refine XO_v0 (ev_load rfl sct_3 (fun hg => by first | exact Sl.get hP1 hp rfl | exact Sl.get (k := ((k : Int) - 1).toNat) hP1 (some_getD (d := zeroP) hP.len (by simp [conj] at hg; omega)) rfl | exact Sl.get0 hN hy rfl | (repeat (first | exact Cell.here rfl | apply Cell.there | apply Cell.app)))) rfl rfl rfl ?_
    refine XO_callV0 (cap := []) (vs := [_, _]) rfl rfl fun_71 (r_find hP hn _) rfl rfl ?_
    refine XO_v0 (ev_cmp rfl rfl rfl) rfl rfl rfl ?_
    refine XO_nil (at_then ?_)
    refine X_cond rfl (fun hc47 => ?_) (fun hc47 => ?_)
    ·
     refine X_seq (X_region ?_)
     refine XO_v0 (ev_assign rfl) rfl rfl rfl ?_
     refine XO_nil (at_then ?_)
     refine X_ret ?_
     refine at_block_r ?_
     refine at_then_r ?_
     refine at_then_r ?_
     refine at_block_r ?_
     refine at_block_r ?_
     refine at_then_r ?_
     refine at_then_r ?_
     refine at_block_r ?_
     refine at_then_r ?_
     first
     | exact at_ret1 rfl rfl (fun w hw => ⟨by unfold lsB; rw [range_bad (k := k) (by rw [hP.len]; exact hlt_k) (by rw [lsP_at hp]; exact lsR_2 (any_yes hy (by rw [fnd_no] at hc47; exact hc47)))], hw.drop⟩)
    ·
     refine X_skip ?_
     refine at_block_n ?_
     refine at_then ?_
     refine X_region ?_
     refine XO_v0 (ev_move rfl) rfl rfl rfl ?_
     refine XO_v0 (ev_arB rfl rfl rfl (fun hg => by first | omega | (simp [conj] at hg; omega))) rfl rfl rfl ?_
     refine XO_v0 (ev_assign rfl) rfl rfl rfl ?_
     refine XO_nil ?_
     exact at_met2 _ _ ⟨p.n - (j + 1), by omega, j + 1, rfl, rfl, rfl, rfl, by omega, any_no hy hno (by rw [fnd_no] at hc47; exact hc47)⟩ (.cons rfl (.cons rfl (.cons rfl .nil))) (by repeat (first | exact .refl | exact subL_left | refine subL_app ?_ | refine .drop ?_ | refine subL_add ?_))
   ·
    have hge_j : p.n ≤ j := by have h := hc34; simp at h; omega
    rw [take_all hN.len hge_j] at hno
    refine X_exit ?_
    refine at_then_e ?_
    refine at_then_e ?_
    refine at_block_hit ?_
    refine at_block_n ?_
    refine at_then ?_
    refine X_region ?_
    refine XO_v0 (ev_move rfl) rfl rfl rfl ?_
    refine XO_v0 (ev_arB rfl rfl rfl (fun hg => by first | omega | (simp [conj] at hg; omega))) rfl rfl rfl ?_
    refine XO_v0 (ev_assign rfl) rfl rfl rfl ?_
    refine XO_nil ?_
    exact at_met2 _ _ ⟨n - (k + 1), by omega, k + 1, rfl, rfl, rfl, rfl, by omega, range_step hall (by rw [lsP_at hp]; exact lsR_ok hc26 hno)⟩ (.cons rfl (.cons rfl .nil)) (by repeat (first | exact .refl | exact subL_left | refine subL_app ?_ | refine .drop ?_ | refine subL_add ?_))
 ·
  have hge_k : n ≤ k := by have h := hc8; simp at h; omega
  refine X_exit ?_
  refine at_then_e ?_
  refine at_then_e ?_
  refine at_block_hit ?_
  refine at_then ?_
  refine X_seq (X_region ?_)
  refine XO_v0 (ev_assign rfl) rfl rfl rfl ?_
  refine XO_nil (at_then ?_)
  refine X_ret ?_
  first
  | exact at_ret1 rfl rfl (fun w hw => ⟨by unfold lsB; rw [hP.len, show n = k by omega, hall], hw.drop⟩)
end Go.Proofs.YtccomeanpppfmaaGreat
end
section
namespace Go.Proofs.YtccomeanpppfmaaGreat
open Go Go.Kn Go.Proofs
theorem elt_80 : ElT Tryz.prog 80 61 1 24 := .of (by kernel_rfl)
theorem mkt_61 : MkT Tryz.prog 61 4 1 (.bool false) := ⟨by kernel_rfl, by kernel_rfl, rfl⟩
theorem sct_4 : ScT Tryz.prog 4 := .of (by kernel_rfl)
theorem sct_61 : ScT Tryz.prog 61 := .of (by kernel_rfl)
theorem slt_61 : SlT Tryz.prog 61 4 1 := .of (by kernel_rfl)
theorem slt_80 : SlT Tryz.prog 80 61 1 := .of (by kernel_rfl)
theorem szt_4 : SzT Tryz.prog 4 1 := .of (by kernel_rfl)
theorem r_findAt {I : HMap} {av : Option Addr} {n c : Nat} {ps : List Pt} (hP : SlP I av n c ps) (hn : n ≤ 100000) {t : Int} {m : Nat} (h : fndI ps t = m) : RetV Tryz.prog 71 [.slice av n c, .int .i64 t] I (.int .i64 (m : Int)) := h ▸ r_find hP hn t
theorem r_stn {I : HMap} {av : Option Addr} {n c : Nat} {ps : List Pt} (hP : SlP I av n c ps) (hn : n ≤ 100000) (hL : Lst ps) (hnd : ∀ p ∈ ps, p.n ≤ 100000) : RetM Tryz.prog 41 [.slice av n c] I [] (SlMQ ps n) := by
 intro g H w hw
 refine enter Tryz.func41 rfl Tryz.ntmps41 rfl hw ?_
 have hIc := HLe.refl I
 refine X_seq (X_region ?_)
 refine XO_v0 (ev_assign rfl) rfl rfl rfl ?_
 refine XO_nil (at_then ?_)
 refine X_seq (X_region ?_)
 refine XO_v0 (ev_assign rfl) rfl rfl rfl ?_
 refine XO_nil (at_then ?_)
 refine X_seq ?_
 refine X_seq (X_region ?_)
 refine XO_v0 (ev_assign rfl) rfl rfl rfl ?_
 refine XO_nil (at_then ?_)
 refine X_block ?_
 refine X_loopT [(0, _)] (.cons rfl .nil) (fun T L0 mz E I' loc' => ∃ (k : Nat) (v : Value) (hs : List Hd) (L : Go.Kn.Loc), mz = n - k ∧ E = (3, v) :: (4, .int .i64 k) :: T ∧ HLe I I' ∧ L = loc' ∧ k ≤ n ∧ OwnS 61 1 v k (hs.flatMap encH) L ∧ RowsQ I' ps n hs k) _ _ _ _ ⟨0, _, [], [], rfl, rfl, HLe.refl _, rfl, Nat.zero_le _, OwnS.nil, RowsQ.nil⟩ (.cons rfl (.cons rfl (.cons rfl .nil))) (HLe.refl _) rfl ?_
 rintro mz E J1 loc' ⟨k, v, hs, L, rfl, rfl, hJ, rfl, hk, hO, hq⟩
 have hP := hP.mono hJ
 have hIc := hIc.trans hJ
 have hB0 := hJ
 refine X_seq ?_
 refine X_seq (X_region ?_)
 refine XO_v0 (ev_move rfl) rfl rfl rfl ?_
 refine XO_v0 (ev_move rfl) rfl rfl rfl ?_
 refine XO_v0 (ev_lenS rfl slt_22) rfl rfl rfl ?_
 refine XO_v0 (ev_cmp rfl rfl rfl) rfl rfl rfl ?_
 refine XO_nil (at_then ?_)
 refine X_cond rfl (fun hc12 => ?_) (fun hc12 => ?_)
 ·
  have hlt_k : k < n := by have h := hc12; simp at h; omega
  have hP1 := hP.1
  obtain ⟨p, hp, hN⟩ := hP.at hlt_k
  have hpm := List.mem_of_getElem? hp
  have hN : Sl J1 1 encI p.a p.n p.c p.needs := hN
  have hpn := hnd p hpm
  refine X_skip ?_
  refine at_then ?_
  refine X_seq ?_
  refine X_block ?_
  refine X_seq (X_region ?_)
  refine XO_v0 (ev_move rfl) rfl rfl rfl ?_
  refine XO_v0 (ev_lenS rfl slt_22) rfl rfl rfl ?_
  refine XO_makeSlice mkt_61 rfl rfl (by omega) (by decide) rfl rfl (fun b_17 => ?_)
  refine XO_v0 (ev_assign rfl) rfl rfl rfl ?_
  refine XO_nil ?_
  have e0 : ((n : Int)).toNat = n := rfl
  rw [e0, cellsB_new]
  refine at_then ?_
  refine X_seq ?_
  refine X_seq (X_region ?_)
  refine XO_v0 (ev_assign rfl) rfl rfl rfl ?_
  refine XO_nil (at_then ?_)
  refine X_block ?_
  refine X_loopT [(0, _), (3, _), (4, _), (5, _)] (.cons rfl (.cons rfl (.cons rfl (.cons rfl .nil)))) (fun T L0 mz E I' loc' => ∃ (j : Nat) (row : List Bool), mz = p.n - j ∧ E = (6, .int .i64 j) :: T ∧ J1 = I' ∧ (b_17, .cells (cellsB row) 4 (0, 0)) :: L = loc' ∧ j ≤ p.n ∧ RowP ps (fun _ => preF ps p j) row) _ _ _ _ ⟨0, List.replicate n false, rfl, rfl, rfl, rfl, Nat.zero_le _, row_start hP.len⟩ (.cons rfl (.cons rfl (.cons rfl (.cons rfl (.cons rfl .nil))))) (HLe.refl _) rfl ?_
  rintro mz E I' loc' ⟨j, row, rfl, rfl, rfl, rfl, hj, hr⟩
  refine X_seq ?_
  refine X_seq (X_region ?_)
  refine XO_v0 (ev_move rfl) rfl rfl rfl ?_
  refine XO_v0 (ev_move rfl) rfl rfl rfl ?_
  refine XO_v0 (ev_move rfl) rfl rfl rfl ?_
  refine XO_v0 (ev_indexSl rfl rfl slt_22 (by assumption) (fun hg => by first | omega | (simp [conj] at hg; omega))) rfl rfl rfl ?_
  refine XO_v0 (ev_fieldAddr rfl fld_53_5) rfl rfl rfl ?_
  refine XO_v0 (ev_load rfl sct_23 (fun hg => by first | exact Sl.get hP1 hp rfl | exact Sl.get0 hN hy rfl | exact cellB hbi | exact Cell.there (Cell.seg hseg rfl) | exact Sl.get0 hRow hrb rfl | (repeat (first | exact Cell.here rfl | apply Cell.there | apply Cell.app)))) rfl rfl rfl ?_
  refine XO_v0 (ev_lenS rfl slt_23) rfl rfl rfl ?_
  refine XO_v0 (ev_cmp rfl rfl rfl) rfl rfl rfl ?_
  refine XO_nil (at_then ?_)
  refine X_cond rfl (fun hc25 => ?_) (fun hc25 => ?_)
  ·
   have hlt_j : j < p.n := by have h := hc25; simp at h; omega
   obtain ⟨y, hy⟩ := hN.at hlt_j
   obtain ⟨m, q, hmk, hqm, hqy, hfm⟩ := hL.need_at hp (List.mem_of_getElem? hy)
   refine X_skip ?_
   refine at_then ?_
   refine X_seq ?_
   refine X_block ?_
   refine X_seq (X_region ?_)
   refine XO_v0 (ev_move rfl) rfl rfl rfl ?_
   refine XO_v0 (ev_move rfl) rfl rfl rfl ?_
   refine XO_v0 (ev_move rfl) rfl rfl rfl ?_
   refine XO_v0 (ev_indexSl rfl rfl slt_22 (by assumption) (fun hg => by first | omega | (simp [conj] at hg; omega))) rfl rfl rfl ?_
   refine XO_v0 (ev_fieldAddr rfl fld_53_5) rfl rfl rfl ?_
   refine XO_v0 (ev_load rfl sct_23 (fun hg => by first | exact Sl.get hP1 hp rfl | exact Sl.get0 hN hy rfl | exact cellB hbi | exact Cell.there (Cell.seg hseg rfl) | exact Sl.get0 hRow hrb rfl | (repeat (first | exact Cell.here rfl | apply Cell.there | apply Cell.app)))) rfl rfl rfl ?_
   refine XO_v0 (ev_move rfl) rfl rfl rfl ?_
   refine XO_v0 (ev_indexSl rfl rfl slt_23 (by assumption) (fun hg => by first | omega | (simp [conj] at hg; omega))) rfl rfl rfl ?_
   refine XO_v0 (ev_load rfl sct_3 (fun hg => by first | exact Sl.get hP1 hp rfl | exact Sl.get0 hN hy rfl | exact cellB hbi | exact Cell.there (Cell.seg hseg rfl) | exact Sl.get0 hRow hrb rfl | (repeat (first | exact Cell.here rfl | apply Cell.there | apply Cell.app)))) rfl rfl rfl ?_
   refine XO_callV0 (cap := []) (vs := [_, _]) rfl rfl fun_71 (r_findAt hP hn hfm) rfl rfl ?_
   refine XO_v0 (ev_assign rfl) rfl rfl rfl ?_
   refine XO_nil (at_then ?_)
   refine X_seq (X_region ?_)
   refine XO_v0 (ev_move rfl) rfl rfl rfl ?_
   refine XO_v0 (ev_move rfl) rfl rfl rfl ?_
   refine XO_v0 (ev_indexOwn rfl rfl slt_61 (fun hg => by first | omega | (simp [conj] at hg; omega))) rfl rfl rfl ?_
   refine XO_store rfl rfl szt_4 rfl rfl (by repeat (first | exact Upd.here | apply Upd.there | apply upd_app)) (bltB (by rw [hr.1, hP.len]; omega)) ?_
   refine XO_nil ?_
   rw [cellsB_set]
   refine at_then ?_
   refine X_seq ?_
   obtain ⟨hd, hhd⟩ : ∃ hd, hs[m]? = some hd := ⟨_, List.getElem?_eq_getElem (by rw [hq.1]; exact hmk)⟩
   obtain ⟨hmi2, bo, co, cur, rfl, rfl, hseg, hle, hset⟩ := hO.spot encH_len (by decide) hhd
   obtain ⟨hdn, hRow⟩ := hq.2 m hd q hhd hqm
   refine X_region ?_
   refine XO_v0 (ev_assign rfl) rfl rfl rfl ?_
   refine XO_nil (at_then ?_)
   refine X_block ?_
   refine X_loopT [(0, _), (3, _), (4, _), (5, _), (6, _), (7, _)] (.cons rfl (.cons rfl (.cons rfl (.cons rfl (.cons rfl (.cons rfl .nil)))))) (fun T L0 mz E I' loc' => ∃ (i : Nat) (row2 : List Bool), mz = m - i ∧ E = (8, .int .i64 i) :: T ∧ J1 = I' ∧ (b_17, .cells (cellsB row2) 4 (0, 0)) :: [(bo, .cells cur.toArray 61 (0, 0))] = loc' ∧ i ≤ m ∧ RowP ps (midF ps p j y i) row2) _ _ _ _ ⟨0, row.set m true, rfl, rfl, rfl, rfl, Nat.zero_le _, row_mid hL hr hqm hqy⟩ (.cons rfl (.cons rfl (.cons rfl (.cons rfl (.cons rfl (.cons rfl (.cons rfl .nil))))))) (HLe.refl _) rfl ?_
   rintro mz E I' loc' ⟨i, row2, rfl, rfl, rfl, rfl, hi, hr2⟩
   refine X_seq ?_
   refine X_seq (X_region ?_)
   refine XO_v0 (ev_move rfl) rfl rfl rfl ?_
   refine XO_v0 (ev_move rfl) rfl rfl rfl ?_
   refine XO_v0 (ev_cmp rfl rfl rfl) rfl rfl rfl ?_
   refine XO_nil (at_then ?_)
   refine X_cond rfl (fun hc43 => ?_) (fun hc43 => ?_)
   ·
    have hlt_i : i < m := by have h := hc43; simp at h; omega
    obtain ⟨qi, hqi⟩ := hP.1.at (show i < n by omega)
    have hbi := hr2.2 i qi hqi
    have hrb : (rowF ps q)[i]? = some (onF ps y qi.id) := by rw [← hqy]; simp [rowF, hqi]
    refine X_skip ?_
    refine at_then ?_
    refine X_seq ?_
    refine X_block ?_
    refine X_region ?_
    refine XO_v0 (ev_move rfl) rfl rfl rfl ?_
    refine XO_v0 (ev_move rfl) rfl rfl rfl ?_
    refine XO_v0 (ev_move rfl) rfl rfl rfl ?_
    refine XO_v0 (ev_move rfl) rfl rfl rfl ?_
    refine XO_v0 (ev_indexOwn rfl rfl slt_61 (fun hg => by first | omega | (simp [conj] at hg; omega))) rfl rfl rfl ?_
    refine XO_v0 (ev_load rfl sct_4 (fun hg => by first | exact Sl.get hP1 hp rfl | exact Sl.get0 hN hy rfl | exact cellB hbi | exact Cell.there (Cell.seg hseg rfl) | exact Sl.get0 hRow hrb rfl | (repeat (first | exact Cell.here rfl | apply Cell.there | apply Cell.app)))) rfl rfl rfl ?_
    refine XO_v0 (ev_move rfl) rfl rfl rfl ?_
    refine XO_pushF 6 rfl rfl rfl ?_
    refine XO_v1 (ev_move rfl) (.some rfl rfl rfl rfl gbf) rfl rfl rfl ?_
    refine XO_v1 (ev_move rfl) (.some rfl rfl rfl rfl gbf) rfl rfl rfl ?_
    refine XO_v1 (ev_indexOwn rfl rfl slt_80 (fun hg => by first | omega | (simp [conj] at hg; omega))) (.some rfl rfl rfl rfl gbf) rfl rfl rfl ?_
    refine XO_v1 (ev_load rfl sct_61 (fun hg => by first | exact Sl.get hP1 hp rfl | exact Sl.get0 hN hy rfl | exact cellB hbi | exact Cell.there (Cell.seg hseg rfl) | exact Sl.get0 hRow hrb rfl | (repeat (first | exact Cell.here rfl | apply Cell.there | apply Cell.app)))) (.some rfl rfl rfl rfl gbf) rfl rfl rfl ?_
    refine XO_v1 (ev_move rfl) (.some rfl rfl rfl rfl gbf) rfl rfl rfl ?_
    refine XO_v1 (ev_indexSl rfl rfl slt_61 hRow (fun hg => by first | omega | (simp [conj] at hg; omega))) (.some rfl rfl rfl rfl gbf) rfl rfl rfl ?_
    refine XO_v1 (ev_load rfl sct_4 (fun hg => by first | exact Sl.get hP1 hp rfl | exact Sl.get0 hN hy rfl | exact cellB hbi | exact Cell.there (Cell.seg hseg rfl) | exact Sl.get0 hRow hrb rfl | (repeat (first | exact Cell.here rfl | apply Cell.there | apply Cell.app)))) (.some rfl rfl rfl rfl gbf) rfl rfl rfl ?_
    refine XO_or0 rfl rfl rfl rfl rfl ?_
    refine XO_v0 (ev_indexOwn rfl rfl slt_61 (fun hg => by first | omega | (simp [conj] at hg; omega))) rfl rfl rfl ?_
    refine XO_store rfl rfl szt_4 rfl rfl (by repeat (first | exact Upd.here | apply Upd.there | apply upd_app)) (bltB (by rw [hr2.1, hP.len]; omega)) ?_
    refine XO_nil ?_
    rw [cellsB_set]
    refine at_block_n ?_
    refine at_then ?_
    refine X_region ?_
    refine XO_v0 (ev_move rfl) rfl rfl rfl ?_
    refine XO_v0 (ev_arB rfl rfl rfl (fun _ => by omega)) rfl rfl rfl ?_
    refine XO_v0 (ev_assign rfl) rfl rfl rfl ?_
    refine XO_nil ?_
    exact at_met2 _ _ ⟨m - (i + 1), by omega, i + 1, _, rfl, rfl, rfl, rfl, by omega, row_step hr2 hqi hbi⟩ (.cons rfl (.cons rfl (.cons rfl (.cons rfl (.cons rfl (.cons rfl (.cons rfl .nil))))))) (by repeat (first | exact .refl | exact subL_left | refine subL_app ?_ | refine .drop ?_ | refine subL_add ?_))
   ·
    have hge_i : m ≤ i := by have h := hc43; simp at h; omega
    have him : i = m := by omega
    subst him
    refine X_exit ?_
    refine at_then_e ?_
    refine at_then_e ?_
    refine at_block_hit ?_
    refine at_block_n ?_
    refine at_then ?_
    refine X_region ?_
    refine XO_v0 (ev_move rfl) rfl rfl rfl ?_
    refine XO_v0 (ev_arB rfl rfl rfl (fun _ => by omega)) rfl rfl rfl ?_
    refine XO_v0 (ev_assign rfl) rfl rfl rfl ?_
    refine XO_nil ?_
    exact at_met2 _ _ ⟨p.n - (j + 1), by omega, j + 1, _, rfl, rfl, rfl, rfl, by omega, row_next hL hy hqm hqy hr2⟩ (.cons rfl (.cons rfl (.cons rfl (.cons rfl (.cons rfl .nil))))) (by repeat (first | exact .refl | exact subL_left | refine subL_app ?_ | refine .drop ?_ | refine subL_add ?_))
  ·
   have hge_j : p.n ≤ j := by have h := hc25; simp at h; omega
   have hj : j = p.needs.length := by rw [hN.len]; omega
   subst hj
   have hrd := row_done hL hpm hr
   subst hrd
   refine X_exit ?_
   refine at_then_e ?_
   refine at_then_e ?_
   refine at_block_hit ?_
   refine at_then ?_
   refine X_freeze .here (fun I4 hI4 hb4 => ?_)
   have hP := hP.mono hI4
   have hq := hq.mono hI4
   have hIc := hIc.trans hI4
   have hB0 := hB0.trans hI4
   have hbR := hb4
   have hrow : Sl I4 1 encB (some ⟨b_17, 0, none⟩) n n (rowF ps p) := Sl.lit _ (by simp [rowF, hP.len]) encB_len hbR
   refine X_region ?_
   refine XO_v0 (ev_move rfl) rfl rfl rfl ?_
   refine XO_v0 (ev_move rfl) rfl rfl rfl ?_
   refine XO_buildSlice (ps := [(0, _)]) (m := [encH ⟨some ⟨b_17, 0, none⟩, n, n⟩]) elt_80 rfl (.cons rfl (.nil)) rfl (by simp [encH_len]) (by decide) (by decide) rfl rfl (fun b_64 => ?_)
   refine XO_append (v := _) (ys := [(⟨some ⟨b_17, 0, none⟩, n, n⟩ : Hd)].flatMap encH) (L := L) rfl rfl elt_80 hO (by repeat (first | exact .cons .here .nil | exact split_all | exact split_app | apply split_cons | apply split_skip)) ⟨rfl, fun _ => rfl, Cells.here⟩ (one_H _) (by omega) rfl rfl ?_
   intro v9 L9 hO9 _; rw [← List.flatMap_append] at hO9
   refine XO_v0 (ev_assign rfl) rfl rfl rfl ?_
   refine XO_nil ?_
   refine at_block_n ?_
   refine at_then ?_
   refine X_region ?_
   refine XO_v0 (ev_move rfl) rfl rfl rfl ?_
   refine XO_v0 (ev_arB rfl rfl rfl (fun _ => by omega)) rfl rfl rfl ?_
   refine XO_v0 (ev_assign rfl) rfl rfl rfl ?_
   refine XO_nil ?_
   exact at_met2 _ _ ⟨n - (k + 1), by omega, k + 1, _, _, _, rfl, rfl, hB0, rfl, by omega, hO9, hq.snoc hp hrow⟩ (.cons rfl (.cons rfl (.cons rfl .nil))) (by repeat (first | exact .refl | exact subL_left | refine subL_app ?_ | refine .drop ?_ | refine subL_add ?_))
 ·
  have hge_k : n ≤ k := by have h := hc12; simp at h; omega
  have hkn : k = n := by omega
  subst hkn
  refine X_exit ?_
  refine at_then_e ?_
  refine at_then_e ?_
  refine at_block_hit ?_
  refine at_then ?_
  refine X_seq (X_region ?_)
  refine XO_v0 (ev_move rfl) rfl rfl rfl ?_
  refine XO_v0 (ev_assign rfl) rfl rfl rfl ?_
  refine XO_nil (at_then ?_)
  refine X_ret ?_
  exact at_ret1 rfl rfl (fun w hw => by obtain ⟨I9, h91, h92, h93⟩ := OwnS.res hO encH_len (by decide) hw; obtain ⟨_, a9, c9, e9, h94⟩ := h93; rw [hq.1] at e9 h94; exact ⟨_, I9, [], rfl, hIc.trans h91, h92, rfl, a9, c9, e9, (hq.mono h91).slm hP.len h94⟩)
end Go.Proofs.YtccomeanpppfmaaGreat
end
section
namespace Go.Proofs.YtccomeanpppfmaaGreat
open Go Go.Kn Go.Proofs
theorem elt_61 : ElT Tryz.prog 61 4 1 1 := .of (by kernel_rfl)
theorem fun_39 : Fun Tryz.prog 39 := .of Tryz.func39 (by kernel_rfl) (by kernel_rfl)
theorem fun_40 : Fun Tryz.prog 40 := .of Tryz.func40 (by kernel_rfl) (by kernel_rfl)
theorem fun_41 : Fun Tryz.prog 41 := .of Tryz.func41 (by kernel_rfl) (by kernel_rfl)
theorem fun_42 : Fun Tryz.prog 42 := .of Tryz.func42 (by kernel_rfl) (by kernel_rfl)
theorem tog_i {p q : Pt} {i k : Nat} {b : Bool} {ps : List Pt} (_hp : ps[i]? = some p) (hq : ps[k]? = some q) (hp : ps[i]? = some p) (h : (((i : Int) != (k : Int)) && !togB p q b) = false) : (p.id == q.id || togB p q b) = true := by
 by_cases e : i = k
 ·
  subst e; rw [hp] at hq; cases hq; simp
 ·
  have : ((i : Int) != (k : Int)) = true := by rw [bne_iff_ne]; omega
  rw [this, Bool.true_and] at h
  simp at h; simp [h]
theorem tog_n {p q : Pt} {i k : Nat} {b : Bool} {ps : List Pt} (hL : Lst ps) (hp : ps[i]? = some p) (hq : ps[k]? = some q) (h : (((i : Int) != (k : Int)) && !togB p q b) = true) : (p.id == q.id || togB p q b) = false := by
 rw [Bool.and_eq_true] at h
 have h1 : i ≠ k := by have := h.1; rw [bne_iff_ne] at this; omega
 have h2 : togB p q b = false := by simpa using h.2
 rw [h2, Bool.or_false, beq_eq_false_iff_ne]
 intro e
 have e1 := hL.fnd hp
 have e2 := hL.fnd hq
 rw [e, e2] at e1
 omega
theorem r_chkR {I : HMap} {av : Option Addr} {n c : Nat} {ps : List Pt} (hP : SlP I av n c ps) (hn : n ≤ 100000) : RetV Tryz.prog 13 [.slice av n c] I (.int .i64 (chkR ps)) := by
 intro g H w hw
 refine enter Tryz.func13 rfl Tryz.ntmps13 rfl hw ?_
 have hIc := HLe.refl I
 refine X_seq (X_region ?_)
 refine XO_v0 (ev_assign rfl) rfl rfl rfl ?_
 refine XO_nil (at_then ?_)
 refine X_seq ?_
 refine X_seq (X_region ?_)
 refine XO_v0 (ev_move rfl) rfl rfl rfl ?_
 refine XO_v0 (ev_lenS rfl slt_22) rfl rfl rfl ?_
 refine XO_v0 (ev_cmp rfl rfl rfl) rfl rfl rfl ?_
 refine XO_nil (at_then ?_)
 refine X_cond rfl (fun hc10 => ?_) (fun hc10 => ?_)
 ·
  have hlen : ps.length > 512 := by rw [hP.len]; simp at hc10; omega
  refine X_seq (X_region ?_)
  refine XO_v0 (ev_assign rfl) rfl rfl rfl ?_
  refine XO_nil (at_then ?_)
  refine X_ret ?_
  refine at_then_r ?_
  exact at_ret1 rfl rfl (fun w hw => ⟨by rw [chkR_1 hlen], (hw.mono hIc).drop⟩)
 ·
  have hlen : ¬ ps.length > 512 := by rw [hP.len]; simp at hc10; omega
  refine X_skip ?_
  refine at_then ?_
  refine X_seq ?_
  refine X_seq (X_region ?_)
  refine XO_v0 (ev_assign rfl) rfl rfl rfl ?_
  refine XO_nil (at_then ?_)
  refine X_block ?_
  refine X_loopT [(0, _)] (.cons rfl .nil) (fun T L0 mz E I' loc' => ∃ (k : Nat), mz = n - k ∧ E = (3, .int .i64 k) :: T ∧ I = I' ∧ L0 = loc' ∧ k ≤ n ∧ orF ((ps.take k).map pchk) = 0) _ _ _ _ ⟨0, rfl, rfl, rfl, rfl, Nat.zero_le _, rfl⟩ (.cons rfl (.cons rfl .nil)) (HLe.refl _) rfl ?_
  rintro mz E I' loc' ⟨k, rfl, rfl, rfl, rfl, hk, h0⟩
  refine X_seq ?_
  refine X_seq (X_region ?_)
  refine XO_v0 (ev_move rfl) rfl rfl rfl ?_
  refine XO_v0 (ev_move rfl) rfl rfl rfl ?_
  refine XO_v0 (ev_lenS rfl slt_22) rfl rfl rfl ?_
  refine XO_v0 (ev_cmp rfl rfl rfl) rfl rfl rfl ?_
  refine XO_nil (at_then ?_)
  refine X_cond rfl (fun hc14 => ?_) (fun hc14 => ?_)
  ·
   have hlt_k : k < n := by have h := hc14; simp at h; omega
   have hP1 := hP.1
   obtain ⟨p, hp, hN⟩ := hP.at hlt_k
   refine X_skip ?_
   refine at_then ?_
   refine X_seq ?_
   refine X_block ?_
   refine X_seq (X_region ?_)
   refine XO_v0 (ev_move rfl) rfl rfl rfl ?_
   refine XO_v0 (ev_move rfl) rfl rfl rfl ?_
   refine XO_v0 (ev_indexSl rfl rfl slt_22 (by assumption) (fun hg => by first | omega | (simp [conj] at hg; omega))) rfl rfl rfl ?_
   refine XO_v0 (ev_loadA rfl agt_53 (fun hg => by first | exact Sl.getA hP1 hp | exact Sl.getA hP.1 hp | exact Sl.getA hP.1 hq | (repeat (first | exact Cells.here | exact Cells.s0 (vs := [_, _, _, _, _, _, _, _, _, _, _, _, _, _, _, _, _, _, _]) rfl | apply Cells.there | apply Cells.app))) rfl) rfl rfl rfl ?_
   refine XO_callV0 (cap := []) (vs := [_]) rfl rfl fun_39 (r_pchk p hN) rfl rfl ?_
   refine XO_v0 (ev_assign rfl) rfl rfl rfl ?_
   refine XO_nil (at_then ?_)
   refine X_seq (X_region ?_)
   refine XO_v0 (ev_move rfl) rfl rfl rfl ?_
   refine XO_v0 (ev_cmp rfl rfl rfl) rfl rfl rfl ?_
   refine XO_nil (at_then ?_)
   refine X_cond rfl (fun hc23 => ?_) (fun hc23 => ?_)
   ·
    have hbad : chkR ps = pchk p := chkR_2 hlen hp h0 (by simpa using hc23)
    refine X_seq (X_region ?_)
    refine XO_v0 (ev_move rfl) rfl rfl rfl ?_
    refine XO_v0 (ev_assign rfl) rfl rfl rfl ?_
    refine XO_nil (at_then ?_)
    refine X_ret ?_
    refine at_block_r ?_
    refine at_then_r ?_
    refine at_then_r ?_
    refine at_block_r ?_
    refine at_then_r ?_
    exact at_ret1 rfl rfl (fun w hw => ⟨by rw [hbad], (hw.mono hIc).drop⟩)
   ·
    have hpk : pchk p = 0 := by simpa using hc23
    refine X_skip ?_
    refine at_block_n ?_
    refine at_then ?_
    refine X_region ?_
    refine XO_v0 (ev_move rfl) rfl rfl rfl ?_
    refine XO_v0 (ev_arB rfl rfl rfl (fun _ => by omega)) rfl rfl rfl ?_
    refine XO_v0 (ev_assign rfl) rfl rfl rfl ?_
    refine XO_nil ?_
    exact at_met2 _ _ ⟨n - (k + 1), by omega, k + 1, rfl, rfl, rfl, rfl, by omega, or_snoc hp h0 hpk⟩ (.cons rfl (.cons rfl .nil)) (by repeat (first | exact .refl | exact subL_left | refine subL_app ?_ | refine .drop ?_ | refine subL_add ?_))
  ·
   have hge_k : n ≤ k := by have h := hc14; simp at h; omega
   have h0 : orF (ps.map pchk) = 0 := by rw [take_all hP.len hge_k] at h0; exact h0
   have hz : ∀ p ∈ ps, pchk p = 0 := fun p hp => orF_zero.1 h0 _ (List.mem_map.2 ⟨p, hp, rfl⟩)
   have hnd := nd_of hP hz
   refine X_exit ?_
   refine at_then_e ?_
   refine at_then_e ?_
   refine at_block_hit ?_
   refine at_then ?_
   refine X_seq ?_
   refine X_seq (X_region ?_)
   refine XO_v0 (ev_move rfl) rfl rfl rfl ?_
   refine XO_callV0 (cap := []) (vs := [_]) rfl rfl fun_40 (r_list hP hn hnd) rfl rfl ?_
   refine XO_v0 (ev_not rfl) rfl rfl rfl ?_
   refine XO_nil (at_then ?_)
   refine X_cond rfl (fun hc27 => ?_) (fun hc27 => ?_)
   ·
    have hls : lsB ps = false := by simpa using hc27
    refine X_seq (X_region ?_)
    refine XO_v0 (ev_assign rfl) rfl rfl rfl ?_
    refine XO_nil (at_then ?_)
    refine X_ret ?_
    refine at_then_r ?_
    exact at_ret1 rfl rfl (fun w hw => ⟨by rw [chkR_3 hlen h0 hls], (hw.mono hIc).drop⟩)
   ·
    have hls : lsB ps = true := by simpa using hc27
    have hL : Lst ps := ls_lst h0 hls
    refine X_skip ?_
    refine at_then ?_
    refine X_seq (X_region ?_)
    refine XO_v0 (ev_move rfl) rfl rfl rfl ?_
    refine XO_callM (cap := []) (vs := [_]) rfl rfl fun_41 .nil (r_stn hP hn hL hnd) rfl rfl ?_
    rintro vv2 I2 L2 hI2 ⟨rfl, ao, co, rfl, hM⟩
    have hP := hP.mono hI2
    have hIc := hIc.trans hI2
    refine XO_v0 (ev_assign rfl) rfl rfl rfl ?_
    refine XO_nil (at_then ?_)
    refine X_seq ?_
    refine X_seq (X_region ?_)
    refine XO_v0 (ev_assign rfl) rfl rfl rfl ?_
    refine XO_nil (at_then ?_)
    refine X_block ?_
    refine X_loopT [(0, _), (5, _)] (.cons rfl (.cons rfl .nil)) (fun T L0 mz E I' loc' => ∃ (i : Nat), mz = n - i ∧ E = (6, .int .i64 i) :: T ∧ I2 = I' ∧ L0 = loc' ∧ i ≤ n ∧ ((ps.take i).all fun p => ps.all fun q => (p.id == q.id || togB p q (onF ps p.id q.id))) = true) _ _ _ _ ⟨0, rfl, rfl, rfl, rfl, Nat.zero_le _, by simp⟩ (.cons rfl (.cons rfl (.cons rfl .nil))) (HLe.refl _) rfl ?_
    rintro mz E I' loc' ⟨i, rfl, rfl, rfl, rfl, hi, htg⟩
    refine X_seq ?_
    refine X_seq (X_region ?_)
    refine XO_v0 (ev_move rfl) rfl rfl rfl ?_
    refine XO_v0 (ev_move rfl) rfl rfl rfl ?_
    refine XO_v0 (ev_lenS rfl slt_22) rfl rfl rfl ?_
    refine XO_v0 (ev_cmp rfl rfl rfl) rfl rfl rfl ?_
    refine XO_nil (at_then ?_)
    refine X_cond rfl (fun hc33 => ?_) (fun hc33 => ?_)
    ·
     have hlt_i : i < n := by have h := hc33; simp at h; omega
     obtain ⟨p, hp⟩ := hP.1.at hlt_i
     obtain ⟨hs, hd, r, hH, hhd, hrr, hRow⟩ := hM.at hlt_i
     have hr : r = rowF ps p := by rw [List.getElem?_map, hp] at hrr; exact (Option.some.inj hrr).symm
     subst hr
     have hdn : n = hd.n := by rw [← hRow.len, ← hP.len]; simp [rowF]
     refine X_skip ?_
     refine at_then ?_
     refine X_seq ?_
     refine X_block ?_
     refine X_seq (X_region ?_)
     refine XO_v0 (ev_assign rfl) rfl rfl rfl ?_
     refine XO_nil (at_then ?_)
     refine X_block ?_
     refine X_loopT [(0, _), (5, _), (6, _)] (.cons rfl (.cons rfl (.cons rfl .nil))) (fun T L0 mz E I' loc' => ∃ (k : Nat), mz = n - k ∧ E = (7, .int .i64 k) :: T ∧ I2 = I' ∧ L0 = loc' ∧ k ≤ n ∧ ((ps.take k).all fun q => (p.id == q.id || togB p q (onF ps p.id q.id))) = true) _ _ _ _ ⟨0, rfl, rfl, rfl, rfl, Nat.zero_le _, by simp⟩ (.cons rfl (.cons rfl (.cons rfl (.cons rfl .nil)))) (HLe.refl _) rfl ?_
     rintro mz E I' loc' ⟨k, rfl, rfl, rfl, rfl, hk, hq0⟩
     refine X_seq ?_
     refine X_seq (X_region ?_)
     refine XO_v0 (ev_move rfl) rfl rfl rfl ?_
     refine XO_v0 (ev_move rfl) rfl rfl rfl ?_
     refine XO_v0 (ev_lenS rfl slt_22) rfl rfl rfl ?_
     refine XO_v0 (ev_cmp rfl rfl rfl) rfl rfl rfl ?_
     refine XO_nil (at_then ?_)
     refine X_cond rfl (fun hc39 => ?_) (fun hc39 => ?_)
     ·
      have hlt_k : k < n := by have h := hc39; simp at h; omega
      obtain ⟨q, hq⟩ := hP.1.at hlt_k
      have hb : (rowF ps p)[k]? = some (onF ps p.id q.id) := by simp [rowF, hq]
      refine X_skip ?_
      refine at_then ?_
      refine X_seq ?_
      refine X_block ?_
      refine X_seq ?_
      refine X_draw mixed (by kernel_rfl) ?_
      refine XQ_v0 (ev_move rfl) rfl rfl rfl ?_
      refine XQ_v0 (ev_move rfl) rfl rfl rfl ?_
      refine XQ_v0 (ev_cmp rfl rfl rfl) rfl rfl rfl ?_
      refine XQ_v0 (ev_move rfl) rfl rfl rfl ?_
      refine XQ_pushT 3 rfl rfl rfl ?_
      refine XQ_v1 (ev_move rfl) (.some rfl rfl rfl rfl gbt) rfl rfl rfl ?_
      refine XQ_v1 (ev_move rfl) (.some rfl rfl rfl rfl gbt) rfl rfl rfl ?_
      refine XQ_v1 (ev_indexSl rfl rfl slt_22 hP.1 (fun hg => by first | omega | (simp [conj] at hg; omega))) (.some rfl rfl rfl rfl gbt) rfl rfl rfl ?_
      refine XQ_v1 (ev_loadA rfl agt_53 (fun hg => by first | exact Sl.getA hP1 hp | exact Sl.getA hP.1 hp | exact Sl.getA hP.1 hq | (repeat (first | exact Cells.here | exact Cells.s0 (vs := [_, _, _, _, _, _, _, _, _, _, _, _, _, _, _, _, _, _, _]) rfl | apply Cells.there | apply Cells.app))) rfl) (.some rfl rfl rfl rfl gbt) rfl rfl rfl ?_
      refine XQ_v1 (ev_move rfl) (.some rfl rfl rfl rfl gbt) rfl rfl rfl ?_
      refine XQ_v1 (ev_move rfl) (.some rfl rfl rfl rfl gbt) rfl rfl rfl ?_
      refine XQ_v1 (ev_indexSl rfl rfl slt_22 hP.1 (fun hg => by first | omega | (simp [conj] at hg; omega))) (.some rfl rfl rfl rfl gbt) rfl rfl rfl ?_
      refine XQ_v1 (ev_loadA rfl agt_53 (fun hg => by first | exact Sl.getA hP1 hp | exact Sl.getA hP.1 hp | exact Sl.getA hP.1 hq | (repeat (first | exact Cells.here | exact Cells.s0 (vs := [_, _, _, _, _, _, _, _, _, _, _, _, _, _, _, _, _, _, _]) rfl | apply Cells.there | apply Cells.app))) rfl) (.some rfl rfl rfl rfl gbt) rfl rfl rfl ?_
      refine XQ_v1 (ev_move rfl) (.some rfl rfl rfl rfl gbt) rfl rfl rfl ?_
      refine XQ_v1 (ev_move rfl) (.some rfl rfl rfl rfl gbt) rfl rfl rfl ?_
      refine XQ_v1 (ev_indexSl rfl rfl slt_80 hH (fun hg => by first | omega | (simp [conj] at hg; omega))) (.some rfl rfl rfl rfl gbt) rfl rfl rfl ?_
      refine XQ_v1 (ev_load rfl sct_61 (fun hg => by first | exact Sl.get0 hH hhd rfl | exact Sl.get0 hRow hb rfl | (repeat (first | exact Cell.here rfl | apply Cell.there | apply Cell.app)))) (.some rfl rfl rfl rfl gbt) rfl rfl rfl ?_
      refine XQ_v1 (ev_move rfl) (.some rfl rfl rfl rfl gbt) rfl rfl rfl ?_
      refine XQ_v1 (ev_indexSl rfl rfl slt_61 hRow (fun hg => by first | omega | (simp [conj] at hg; omega))) (.some rfl rfl rfl rfl gbt) rfl rfl rfl ?_
      refine XQ_v1 (ev_load rfl sct_4 (fun hg => by first | exact Sl.get0 hH hhd rfl | exact Sl.get0 hRow hb rfl | (repeat (first | exact Cell.here rfl | apply Cell.there | apply Cell.app)))) (.some rfl rfl rfl rfl gbt) rfl rfl rfl ?_
      refine XQ_callV1 (cap := []) (vs := [_, _, _]) rfl rfl fun_42 (fun hg => r_tog _ p q (onF ps p.id q.id)) (.some rfl rfl rfl rfl gbt) rfl rfl ?_
      refine XQ_v1 (ev_not rfl) (.some rfl rfl rfl rfl gbt) rfl rfl rfl ?_
      refine XQ_and0 rfl rfl rfl rfl rfl ?_
      refine XQ_nil ?_
      refine at_then ?_
      refine X_cond rfl (fun hc63 => ?_) (fun hc63 => ?_)
      ·
       refine X_seq (X_region ?_)
       refine XO_v0 (ev_assign rfl) rfl rfl rfl ?_
       refine XO_nil (at_then ?_)
       refine X_ret ?_
       refine at_block_r ?_
       refine at_then_r ?_
       refine at_then_r ?_
       refine at_block_r ?_
       refine at_block_r ?_
       refine at_then_r ?_
       refine at_then_r ?_
       refine at_block_r ?_
       refine at_then_r ?_
       exact at_ret1 rfl rfl (fun w hw => ⟨by rw [chkR_4 hlen h0 hls (togA_one hp (all_no hq (tog_n hL hp hq hc63)))], (hw.mono hIc).drop⟩)
      ·
       refine X_skip ?_
       refine at_block_n ?_
       refine at_then ?_
       refine X_region ?_
       refine XO_v0 (ev_move rfl) rfl rfl rfl ?_
       refine XO_v0 (ev_arB rfl rfl rfl (fun _ => by omega)) rfl rfl rfl ?_
       refine XO_v0 (ev_assign rfl) rfl rfl rfl ?_
       refine XO_nil ?_
       exact at_met2 _ _ ⟨n - (k + 1), by omega, k + 1, rfl, rfl, rfl, rfl, by omega, all_yes hq hq0 (tog_i hp hq hp hc63)⟩ (.cons rfl (.cons rfl (.cons rfl (.cons rfl .nil)))) (by repeat (first | exact .refl | exact subL_left | refine subL_app ?_ | refine .drop ?_ | refine subL_add ?_))
     ·
      have hge_k : n ≤ k := by have h := hc39; simp at h; omega
      rw [take_all hP.len hge_k] at hq0
      have hrow := hq0
      refine X_exit ?_
      refine at_then_e ?_
      refine at_then_e ?_
      refine at_block_hit ?_
      refine at_block_n ?_
      refine at_then ?_
      refine X_region ?_
      refine XO_v0 (ev_move rfl) rfl rfl rfl ?_
      refine XO_v0 (ev_arB rfl rfl rfl (fun _ => by omega)) rfl rfl rfl ?_
      refine XO_v0 (ev_assign rfl) rfl rfl rfl ?_
      refine XO_nil ?_
      exact at_met2 _ _ ⟨n - (i + 1), by omega, i + 1, rfl, rfl, rfl, rfl, by omega, all_yes hp htg hrow⟩ (.cons rfl (.cons rfl (.cons rfl .nil))) (by repeat (first | exact .refl | exact subL_left | refine subL_app ?_ | refine .drop ?_ | refine subL_add ?_))
    ·
     have hge_i : n ≤ i := by have h := hc33; simp at h; omega
     rw [take_all hP.len hge_i] at htg
     refine X_exit ?_
     refine at_then_e ?_
     refine at_then_e ?_
     refine at_block_hit ?_
     refine at_then ?_
     refine X_seq (X_region ?_)
     refine XO_v0 (ev_assign rfl) rfl rfl rfl ?_
     refine XO_nil (at_then ?_)
     refine X_ret ?_
     exact at_ret1 rfl rfl (fun w hw => ⟨by rw [chkR_5 hlen h0 hls htg], (hw.mono hIc).drop⟩)
/-- What 'chosen' hands back. -/
def ChQ (ps : List Pt) (ys : List Int) (n : Nat) : Value → HMap → Go.Kn.Loc → Prop := fun v _ L => (chB ps ys = false ∧ v = .tuple #[.slice none 0 0, .bool false] ∧ L = []) ∨ (chB ps ys = true ∧ ∃ b, v = .tuple #[.slice (some ⟨b, 0, none⟩) n n, .bool true] ∧ L = [(b, .cells (cellsB (ps.map (chF ys))) 4 (0, 0))])
def VrQ (ps : List Pt) (ys : List Int) (n : Nat) : Value → HMap → Go.Kn.Loc → Prop := fun v _ L => (verB ps ys = false ∧ v = .tuple #[.slice none 0 0, .bool false] ∧ L = []) ∨ (verB ps ys = true ∧ ∃ b, v = .tuple #[.slice (some ⟨b, 0, none⟩) n n, .bool true] ∧ L = [(b, .cells (cellsB (ps.map (chF ys))) 4 (0, 0))])
theorem r_chosen {I : HMap} {av : Option Addr} {n c : Nat} {ps : List Pt} (hP : SlP I av n c ps) (hn : n ≤ 100000) (hL : Lst ps) {bv : Option Addr} {n2 c2 : Nat} {ys : List Int} (hT : Sl I 1 encI bv n2 c2 ys) (hn2 : n2 ≤ 100000) : RetM Tryz.prog 29 [.slice av n c, .slice bv n2 c2] I [] (ChQ ps ys n) := by
 intro g H w hw
 refine enter Tryz.func29 rfl Tryz.ntmps29 rfl hw ?_
 refine X_seq (X_region ?_)
 refine XO_v0 (ev_assign rfl) rfl rfl rfl ?_
 refine XO_v0 (ev_assign rfl) rfl rfl rfl ?_
 refine XO_nil (at_then ?_)
 refine X_seq (X_region ?_)
 refine XO_v0 (ev_move rfl) rfl rfl rfl ?_
 refine XO_v0 (ev_lenS rfl slt_22) rfl rfl rfl ?_
 refine XO_makeSlice mkt_61 rfl rfl (by omega) (by decide) rfl rfl (fun b_11 => ?_)
 refine XO_v0 (ev_assign rfl) rfl rfl rfl ?_
 refine XO_nil ?_
 have e0 : ((n : Int)).toNat = n := rfl
 rw [e0, cellsB_new]
 refine at_then ?_
 refine X_seq ?_
 refine X_seq (X_region ?_)
 refine XO_v0 (ev_assign rfl) rfl rfl rfl ?_
 refine XO_nil (at_then ?_)
 refine X_block ?_
 refine X_loopT [(0, _), (1, _), (6, _)] (.cons rfl (.cons rfl (.cons rfl .nil))) (fun T L0 mz E I' loc' => ∃ (k : Nat) (row : List Bool), mz = n2 - k ∧ E = (7, .int .i64 k) :: T ∧ I = I' ∧ [(b_11, .cells (cellsB row) 4 (0, 0))] = loc' ∧ k ≤ n2 ∧ RowP ps (fun _ => chF (ys.take k)) row ∧ (List.range k).all (incP ys) = true ∧ (ys.take k).all (hasI ps) = true) _ _ _ _ ⟨0, List.replicate n false, rfl, rfl, rfl, rfl, Nat.zero_le _, (RowP.new hP.len).congr (fun j q _ => by simp [chF]), rfl, by simp⟩ (.cons rfl (.cons rfl (.cons rfl (.cons rfl .nil)))) (HLe.refl _) rfl ?_
 rintro mz E I' loc' ⟨k, row, rfl, rfl, rfl, rfl, hk, hr, hin, hal⟩
 refine X_seq ?_
 refine X_seq (X_region ?_)
 refine XO_v0 (ev_move rfl) rfl rfl rfl ?_
 refine XO_v0 (ev_move rfl) rfl rfl rfl ?_
 refine XO_v0 (ev_lenS rfl slt_23) rfl rfl rfl ?_
 refine XO_v0 (ev_cmp rfl rfl rfl) rfl rfl rfl ?_
 refine XO_nil (at_then ?_)
 refine X_cond rfl (fun hc15 => ?_) (fun hc15 => ?_)
 ·
  have hlt_k : k < n2 := by have h := hc15; simp at h; omega
  obtain ⟨y, hy⟩ := hT.at hlt_k
  refine X_skip ?_
  refine at_then ?_
  refine X_seq ?_
  refine X_block ?_
  refine X_seq (X_region ?_)
  refine XO_v0 (ev_move rfl) rfl rfl rfl ?_
  refine XO_v0 (ev_move rfl) rfl rfl rfl ?_
  refine XO_v0 (ev_move rfl) rfl rfl rfl ?_
  refine XO_v0 (ev_indexSl rfl rfl slt_23 (by assumption) (fun hg => by first | omega | (simp [conj] at hg; omega))) rfl rfl rfl ?_
  refine XO_v0 (ev_load rfl sct_3 (fun hg => by first | exact Sl.get0 hT hy rfl | exact Sl.get0 (k := ((k : Int) - 1).toNat) hT (some_getD (d := 0) hT.len (by simp [conj] at hg; omega)) rfl | (repeat (first | exact Cell.here rfl | apply Cell.there | apply Cell.app)))) rfl rfl rfl ?_
  refine XO_callV0 (cap := []) (vs := [_, _]) rfl rfl fun_71 (r_find hP hn y) rfl rfl ?_
  refine XO_v0 (ev_assign rfl) rfl rfl rfl ?_
  refine XO_nil (at_then ?_)
  refine X_seq ?_
  refine X_seq ?_
  refine X_draw mixed (by kernel_rfl) ?_
  refine XQ_v0 (ev_move rfl) rfl rfl rfl ?_
  refine XQ_v0 (ev_cmp rfl rfl rfl) rfl rfl rfl ?_
  refine XQ_v0 (ev_move rfl) rfl rfl rfl ?_
  refine XQ_pushF 2 rfl rfl rfl ?_
  refine XQ_v1 (ev_move rfl) (.some rfl rfl rfl rfl gbf) rfl rfl rfl ?_
  refine XQ_v1 (ev_cmp rfl rfl rfl) (.some rfl rfl rfl rfl gbf) rfl rfl rfl ?_
  refine XQ_v1 (ev_move rfl) (.some rfl rfl rfl rfl gbf) rfl rfl rfl ?_
  refine XQ_pushT 5 rfl rfl rfl ?_
  refine XQ_v1 (ev_move rfl) (.some rfl rfl rfl rfl gbt) rfl rfl rfl ?_
  refine XQ_v1 (ev_move rfl) (.some rfl rfl rfl rfl gbt) rfl rfl rfl ?_
  refine XQ_v1 (ev_indexSl rfl rfl slt_23 (by assumption) (fun hg => by first | omega | (simp [conj] at hg; omega))) (.some rfl rfl rfl rfl gbt) rfl rfl rfl ?_
  refine XQ_v1 (ev_load rfl sct_3 (fun hg => by first | exact Sl.get0 hT hy rfl | exact Sl.get0 (k := ((k : Int) - 1).toNat) hT (some_getD (d := 0) hT.len (by simp [conj] at hg; omega)) rfl | (repeat (first | exact Cell.here rfl | apply Cell.there | apply Cell.app)))) (.some rfl rfl rfl rfl gbt) rfl rfl rfl ?_
  refine XQ_v1 (ev_move rfl) (.some rfl rfl rfl rfl gbt) rfl rfl rfl ?_
  refine XQ_v1 (ev_move rfl) (.some rfl rfl rfl rfl gbt) rfl rfl rfl ?_
  refine XQ_v1 (ev_arB rfl rfl rfl (fun hg => by first | omega | (simp [conj] at hg; omega))) (.some rfl rfl rfl rfl gbt) rfl rfl rfl ?_
  refine XQ_v1 (ev_indexSl rfl rfl slt_23 (by assumption) (fun hg => by first | omega | (simp [conj] at hg; omega))) (.some rfl rfl rfl rfl gbt) rfl rfl rfl ?_
  refine XQ_v1 (ev_load rfl sct_3 (fun hg => by first | exact Sl.get0 hT hy rfl | exact Sl.get0 (k := ((k : Int) - 1).toNat) hT (some_getD (d := 0) hT.len (by simp [conj] at hg; omega)) rfl | (repeat (first | exact Cell.here rfl | apply Cell.there | apply Cell.app)))) (.some rfl rfl rfl rfl gbt) rfl rfl rfl ?_
  refine XQ_v1 (ev_cmp rfl rfl rfl) (.some rfl rfl rfl rfl gbt) rfl rfl rfl ?_
  refine XQ_and1 rfl rfl rfl (.some rfl rfl rfl rfl gbf) rfl rfl ?_
  refine XQ_or0 rfl rfl rfl rfl rfl ?_
  refine XQ_nil ?_
  refine at_then ?_
  refine X_cond rfl (fun hc41 => ?_) (fun hc41 => ?_)
  ·
   have hbad := ch_no hy hc41
   refine X_seq (X_region ?_)
   refine XO_v0 (ev_assign rfl) rfl rfl rfl ?_
   refine XO_v0 (ev_assign rfl) rfl rfl rfl ?_
   refine XO_nil (at_then ?_)
   refine X_ret ?_
   refine at_then_r ?_
   refine at_block_r ?_
   refine at_then_r ?_
   refine at_then_r ?_
   refine at_block_r ?_
   refine at_then_r ?_
   exact at_ret2 rfl rfl rfl (fun w hw => ⟨_, I, [], rfl, HLe.refl _, hw.drop, .inl ⟨hbad, rfl, rfl⟩⟩)
  ·
   have hst := ch_yes hy hc41
   obtain ⟨m, q, hmn, hqm, hqe, hfm⟩ := fnd_hit hL hst.1
   have hmn2 : m < n := by rw [← hP.len]; exact hmn
   rw [hfm]
   refine X_skip ?_
   refine at_then ?_
   refine X_region ?_
   refine XO_v0 (ev_move rfl) rfl rfl rfl ?_
   refine XO_v0 (ev_move rfl) rfl rfl rfl ?_
   refine XO_v0 (ev_indexOwn rfl rfl slt_61 (fun hg => by first | omega | (simp [conj] at hg; omega))) rfl rfl rfl ?_
   refine XO_store rfl rfl szt_4 rfl rfl (by repeat (first | exact Upd.here | apply Upd.there | apply upd_app)) (bltB (by rw [hr.1]; exact hmn)) ?_
   refine XO_nil ?_
   rw [cellsB_set]
   refine at_block_n ?_
   refine at_then ?_
   refine X_region ?_
   refine XO_v0 (ev_move rfl) rfl rfl rfl ?_
   refine XO_v0 (ev_arB rfl rfl rfl (fun hg => by first | omega | (simp [conj] at hg; omega))) rfl rfl rfl ?_
   refine XO_v0 (ev_assign rfl) rfl rfl rfl ?_
   refine XO_nil ?_
   exact at_met2 _ _ ⟨n2 - (k + 1), by omega, k + 1, _, rfl, rfl, rfl, rfl, by omega, ch_step hL hr hy hqm hqe, range_step hin hst.2, all_yes hy hal hst.1⟩ (.cons rfl (.cons rfl (.cons rfl (.cons rfl .nil)))) (by repeat (first | exact .refl | exact subL_left | refine subL_app ?_ | refine .drop ?_ | refine subL_add ?_))
 ·
  have hge_k : n2 ≤ k := by have h := hc15; simp at h; omega
  rw [take_all hT.len hge_k] at hr hal
  have hkn : k = ys.length := by rw [hT.len]; omega
  subst hkn
  have hgood := ch_end hin hal
  have hrd := hr.eq
  subst hrd
  refine X_exit ?_
  refine at_then_e ?_
  refine at_then_e ?_
  refine at_block_hit ?_
  refine at_then ?_
  refine X_seq (X_region ?_)
  refine XO_v0 (ev_move rfl) rfl rfl rfl ?_
  refine XO_v0 (ev_assign rfl) rfl rfl rfl ?_
  refine XO_v0 (ev_assign rfl) rfl rfl rfl ?_
  refine XO_nil (at_then ?_)
  refine X_ret ?_
  exact at_ret2 rfl rfl rfl (fun w hw => ⟨_, I, _, rfl, HLe.refl _, hw, .inr ⟨hgood, b_11, rfl, rfl⟩⟩)
theorem r_closed {I : HMap} {av : Option Addr} {n c : Nat} {ps : List Pt} (hP : SlP I av n c ps) (hn : n ≤ 100000) (hL : Lst ps) (hnd : ∀ p ∈ ps, p.n ≤ 100000) {f : Pt → Bool} {row0 : List Bool} (h0 : RowP ps (fun _ => f) row0) (b0 : Nat) : RetM Tryz.prog 31 [.slice av n c, .slice (some ⟨b0, 0, none⟩) n n] I [(b0, .cells (cellsB row0) 4 (0, 0))] (fun v I' L => ∃ Lo, L = Lo ++ [(b0, .cells (cellsB row0) 4 (0, 0))] ∧ OwnS 4 1 v n ((ps.map (cloP ps f)).flatMap encB) Lo) := by
 intro g H w hw
 refine enter Tryz.func31 rfl Tryz.ntmps31 rfl hw ?_
 have hIc := HLe.refl I
 refine X_seq (X_region ?_)
 refine XO_v0 (ev_assign rfl) rfl rfl rfl ?_
 refine XO_nil (at_then ?_)
 refine X_seq (X_region ?_)
 refine XO_v0 (ev_move rfl) rfl rfl rfl ?_
 refine XO_callM (cap := []) (vs := [_]) rfl rfl fun_41 .nil (r_stn hP hn hL hnd) rfl rfl ?_
 rintro vv1 I1 L1 hI1 ⟨rfl, ao, co, rfl, hM⟩
 have hP := hP.mono hI1
 have hIc := hIc.trans hI1
 refine XO_v0 (ev_assign rfl) rfl rfl rfl ?_
 refine XO_nil (at_then ?_)
 refine X_seq (X_region ?_)
 refine XO_buildSlice (ps := []) (m := []) elt_61 rfl (.nil) rfl (by simp) (by decide) (by decide) rfl rfl (fun b_11 => ?_)
 refine XO_v0 (ev_move rfl) rfl rfl rfl ?_
 refine XO_append (v := _) (ys := row0.flatMap encB) (L := [(b_11, _)]) rfl rfl elt_61 OwnS.new (by repeat (first | exact .cons .here .nil | exact split_all | exact split_app | apply split_cons | apply split_skip)) ⟨by rw [flat_len encB_len, h0.1, hP.len], fun _ => rfl, Cells.there Cells.here⟩ (one_B _) (by omega) rfl rfl ?_
 intro v1 L1 hO1 _; rw [List.nil_append, Nat.zero_add] at hO1
 refine XO_v0 (ev_assign rfl) rfl rfl rfl ?_
 refine XO_nil (at_then ?_)
 refine X_seq ?_
 refine X_seq (X_region ?_)
 refine XO_v0 (ev_assign rfl) rfl rfl rfl ?_
 refine XO_nil (at_then ?_)
 refine X_block ?_
 refine X_loopT [(0, _), (1, _), (5, _), (6, _)] (.cons rfl (.cons rfl (.cons rfl (.cons rfl .nil)))) (fun T L0 mz E I' loc' => ∃ (i : Nat) (L : Go.Kn.Loc) (row : List Bool), mz = n - i ∧ E = (7, .int .i64 i) :: T ∧ I1 = I' ∧ L ++ [(b0, .cells (cellsB row0) 4 (0, 0))] = loc' ∧ i ≤ n ∧ OwnS 4 1 v1 n (row.flatMap encB) L ∧ RowP ps (fun _ => clK ps f i) row) _ _ _ _ ⟨0, L1, row0, rfl, rfl, rfl, rfl, Nat.zero_le _, hO1, cl_start h0⟩ (.cons rfl (.cons rfl (.cons rfl (.cons rfl (.cons rfl .nil))))) (HLe.refl _) rfl ?_
 rintro mz E I' loc' ⟨i, L, row, rfl, rfl, rfl, rfl, hi, hO, hr⟩
 refine X_seq ?_
 refine X_seq (X_region ?_)
 refine XO_v0 (ev_move rfl) rfl rfl rfl ?_
 refine XO_v0 (ev_move rfl) rfl rfl rfl ?_
 refine XO_v0 (ev_lenS rfl slt_22) rfl rfl rfl ?_
 refine XO_v0 (ev_cmp rfl rfl rfl) rfl rfl rfl ?_
 refine XO_nil (at_then ?_)
 refine X_cond rfl (fun hc17 => ?_) (fun hc17 => ?_)
 ·
  have hlt_i : i < n := by have h := hc17; simp at h; omega
  obtain ⟨p, hp⟩ := hP.1.at hlt_i
  have hfi := h0.2 i p hp
  obtain ⟨hs, hd, r, hH, hhd, hrr, hRow⟩ := hM.at hlt_i
  have hr0 : r = rowF ps p := by rw [List.getElem?_map, hp] at hrr; exact (Option.some.inj hrr).symm
  subst hr0
  have hdn : n = hd.n := by rw [← hRow.len, ← hP.len]; simp [rowF]
  refine X_skip ?_
  refine at_then ?_
  refine X_seq ?_
  refine X_block ?_
  refine X_seq (X_region ?_)
  refine XO_v0 (ev_assign rfl) rfl rfl rfl ?_
  refine XO_nil (at_then ?_)
  refine X_block ?_
  refine X_loopT [(0, _), (1, _), (5, _), (6, _), (7, _)] (.cons rfl (.cons rfl (.cons rfl (.cons rfl (.cons rfl .nil))))) (fun T L0 mz E I' loc' => ∃ (k : Nat) (L : Go.Kn.Loc) (row : List Bool), mz = n - k ∧ E = (8, .int .i64 k) :: T ∧ I1 = I' ∧ L ++ [(b0, .cells (cellsB row0) 4 (0, 0))] = loc' ∧ k ≤ n ∧ OwnS 4 1 v1 n (row.flatMap encB) L ∧ RowP ps (clJ ps f i p k) row) _ _ _ _ ⟨0, L, row, rfl, rfl, rfl, rfl, Nat.zero_le _, hO, cl_in hr⟩ (.cons rfl (.cons rfl (.cons rfl (.cons rfl (.cons rfl (.cons rfl .nil)))))) (HLe.refl _) rfl ?_
  rintro mz E I' loc' ⟨k, L, row, rfl, rfl, rfl, rfl, hk, hO, hr⟩
  refine X_seq ?_
  refine X_seq (X_region ?_)
  refine XO_v0 (ev_move rfl) rfl rfl rfl ?_
  refine XO_v0 (ev_move rfl) rfl rfl rfl ?_
  refine XO_v0 (ev_lenS rfl slt_22) rfl rfl rfl ?_
  refine XO_v0 (ev_cmp rfl rfl rfl) rfl rfl rfl ?_
  refine XO_v0 (ev_move rfl) rfl rfl rfl ?_
  refine XO_pushT 4 rfl rfl rfl ?_
  refine XO_v1 (ev_move rfl) (.some rfl rfl rfl rfl gbt) rfl rfl rfl ?_
  refine XO_v1 (ev_move rfl) (.some rfl rfl rfl rfl gbt) rfl rfl rfl ?_
  refine XO_v1 (ev_indexOwn rfl rfl slt_61 (fun hg => by first | omega | (simp [conj] at hg; omega))) (.some rfl rfl rfl rfl gbt) rfl rfl rfl ?_
  refine XO_v1 (ev_load rfl sct_4 (fun hg => by first | exact Cell.app (cellB hfi) | exact hcl _ _ | exact Sl.get0 hH hhd rfl | exact Sl.get0 hRow hb rfl | (repeat (first | exact Cell.here rfl | apply Cell.there | apply Cell.app)))) (.some rfl rfl rfl rfl gbt) rfl rfl rfl ?_
  refine XO_and0 rfl rfl rfl rfl rfl ?_
  refine XO_nil (at_then ?_)
  refine X_cond rfl (fun hc29 => ?_) (fun hc29 => ?_)
  ·
   have h9 := (Bool.and_eq_true _ _).mp hc29
   have hlt_k : k < n := by have h := h9.1; simp at h; omega
   have hfp : f p = true := h9.2
   obtain ⟨q, hq⟩ := hP.1.at hlt_k
   have hbk := hr.2 k q hq
   have hb : (rowF ps p)[k]? = some (onF ps p.id q.id) := by simp [rowF, hq]
   refine X_skip ?_
   refine at_then ?_
   refine X_seq ?_
   refine X_block ?_
   obtain ⟨hkn, bo, cco, cur, rfl, rfl, hcl, hbl, hset⟩ := hO.spot1 (u := Value.bool) (fun _ => rfl) hbk
   refine X_region ?_
   refine XO_v0 (ev_move rfl) rfl rfl rfl ?_
   refine XO_v0 (ev_move rfl) rfl rfl rfl ?_
   refine XO_v0 (ev_move rfl) rfl rfl rfl ?_
   refine XO_v0 (ev_move rfl) rfl rfl rfl ?_
   refine XO_v0 (ev_indexOwn rfl rfl slt_61 (fun hg => by first | omega | (simp [conj] at hg; omega))) rfl rfl rfl ?_
   refine XO_v0 (ev_load rfl sct_4 (fun hg => by first | exact Cell.app (cellB hfi) | exact hcl _ _ | exact Sl.get0 hH hhd rfl | exact Sl.get0 hRow hb rfl | (repeat (first | exact Cell.here rfl | apply Cell.there | apply Cell.app)))) rfl rfl rfl ?_
   refine XO_v0 (ev_move rfl) rfl rfl rfl ?_
   refine XO_pushF 6 rfl rfl rfl ?_
   refine XO_v1 (ev_move rfl) (.some rfl rfl rfl rfl gbf) rfl rfl rfl ?_
   refine XO_v1 (ev_move rfl) (.some rfl rfl rfl rfl gbf) rfl rfl rfl ?_
   refine XO_v1 (ev_indexSl rfl rfl slt_80 hH (fun hg => by first | omega | (simp [conj] at hg; omega))) (.some rfl rfl rfl rfl gbf) rfl rfl rfl ?_
   refine XO_v1 (ev_load rfl sct_61 (fun hg => by first | exact Cell.app (cellB hfi) | exact hcl _ _ | exact Sl.get0 hH hhd rfl | exact Sl.get0 hRow hb rfl | (repeat (first | exact Cell.here rfl | apply Cell.there | apply Cell.app)))) (.some rfl rfl rfl rfl gbf) rfl rfl rfl ?_
   refine XO_v1 (ev_move rfl) (.some rfl rfl rfl rfl gbf) rfl rfl rfl ?_
   refine XO_v1 (ev_indexSl rfl rfl slt_61 hRow (fun hg => by first | omega | (simp [conj] at hg; omega))) (.some rfl rfl rfl rfl gbf) rfl rfl rfl ?_
   refine XO_v1 (ev_load rfl sct_4 (fun hg => by first | exact Cell.app (cellB hfi) | exact hcl _ _ | exact Sl.get0 hH hhd rfl | exact Sl.get0 hRow hb rfl | (repeat (first | exact Cell.here rfl | apply Cell.there | apply Cell.app)))) (.some rfl rfl rfl rfl gbf) rfl rfl rfl ?_
   refine XO_or0 rfl rfl rfl rfl rfl ?_
   refine XO_v0 (ev_indexOwn rfl rfl slt_61 (fun hg => by first | omega | (simp [conj] at hg; omega))) rfl rfl rfl ?_
   refine XO_store rfl rfl szt_4 rfl rfl (by repeat (first | exact Upd.here | apply Upd.there | apply upd_app)) hbl ?_
   refine XO_nil ?_
   refine at_block_n ?_
   refine at_then ?_
   refine X_region ?_
   refine XO_v0 (ev_move rfl) rfl rfl rfl ?_
   refine XO_v0 (ev_arB rfl rfl rfl (fun _ => by omega)) rfl rfl rfl ?_
   refine XO_v0 (ev_assign rfl) rfl rfl rfl ?_
   refine XO_nil ?_
   exact at_met2 _ _ ⟨n - (k + 1), by omega, k + 1, _, _, rfl, rfl, rfl, rfl, by omega, hset _, cl_step hfp hr hq hbk⟩ (.cons rfl (.cons rfl (.cons rfl (.cons rfl (.cons rfl (.cons rfl .nil)))))) (by repeat (first | exact .refl | exact subL_left | refine subL_app ?_ | refine .drop ?_ | refine subL_add ?_))
  ·
   have hend := cl_out hP.len hc29
   refine X_exit ?_
   refine at_then_e ?_
   refine at_then_e ?_
   refine at_block_hit ?_
   refine at_block_n ?_
   refine at_then ?_
   refine X_region ?_
   refine XO_v0 (ev_move rfl) rfl rfl rfl ?_
   refine XO_v0 (ev_arB rfl rfl rfl (fun _ => by omega)) rfl rfl rfl ?_
   refine XO_v0 (ev_assign rfl) rfl rfl rfl ?_
   refine XO_nil ?_
   exact at_met2 _ _ ⟨n - (i + 1), by omega, i + 1, _, _, rfl, rfl, rfl, rfl, by omega, hO, cl_next hp hr (hend)⟩ (.cons rfl (.cons rfl (.cons rfl (.cons rfl (.cons rfl .nil))))) (by repeat (first | exact .refl | exact subL_left | refine subL_app ?_ | refine .drop ?_ | refine subL_add ?_))
 ·
  have hge_i : n ≤ i := by have h := hc17; simp at h; omega
  have hrd := cl_end hP.len hge_i hr
  subst hrd
  refine X_exit ?_
  refine at_then_e ?_
  refine at_then_e ?_
  refine at_block_hit ?_
  refine at_then ?_
  refine X_seq (X_region ?_)
  refine XO_v0 (ev_move rfl) rfl rfl rfl ?_
  refine XO_v0 (ev_assign rfl) rfl rfl rfl ?_
  refine XO_nil (at_then ?_)
  refine X_ret ?_
  exact at_ret1 rfl rfl (fun w hw => ⟨_, _, _, rfl, hIc, hw, L, rfl, hO⟩)
theorem r_ids {I : HMap} {av : Option Addr} {n c : Nat} {ps : List Pt} (hP : SlP I av n c ps) (hn : n ≤ 100000) {f : Pt → Bool} {bv : Option Addr} {c2 : Nat} (hF : Sl I 1 encB bv n c2 (ps.map f)) : RetM Tryz.prog 30 [.slice av n c, .slice bv n c2] I [] (SlRes 1 encI (idsF ps f)) := by
 intro g H w hw
 refine enter Tryz.func30 rfl Tryz.ntmps30 rfl hw ?_
 have hIc := HLe.refl I
 refine X_seq (X_region ?_)
 refine XO_v0 (ev_assign rfl) rfl rfl rfl ?_
 refine XO_nil (at_then ?_)
 refine X_seq (X_region ?_)
 refine XO_v0 (ev_assign rfl) rfl rfl rfl ?_
 refine XO_nil (at_then ?_)
 refine X_seq ?_
 refine X_seq (X_region ?_)
 refine XO_v0 (ev_assign rfl) rfl rfl rfl ?_
 refine XO_nil (at_then ?_)
 refine X_block ?_
 refine X_loopT [(0, _), (1, _)] (.cons rfl (.cons rfl .nil)) (fun T L0 mz E I' loc' => ∃ (k : Nat) (v : Value) (q : Nat) (L : Go.Kn.Loc), mz = n - k ∧ E = (5, v) :: (6, .int .i64 k) :: T ∧ I = I' ∧ L = loc' ∧ k ≤ n ∧ OwnS 3 1 v q ((idsF (ps.take k) f).flatMap encI) L ∧ q ≤ k) _ _ _ _ ⟨0, _, 0, [], rfl, rfl, rfl, rfl, Nat.zero_le _, by rw [List.take_zero]; exact OwnS.nil, Nat.le_refl _⟩ (.cons rfl (.cons rfl (.cons rfl (.cons rfl .nil)))) (HLe.refl _) rfl ?_
 rintro mz E I' loc' ⟨k, v, q, L, rfl, rfl, rfl, rfl, hk, hO, hq⟩
 refine X_seq ?_
 refine X_seq (X_region ?_)
 refine XO_v0 (ev_move rfl) rfl rfl rfl ?_
 refine XO_v0 (ev_move rfl) rfl rfl rfl ?_
 refine XO_v0 (ev_lenS rfl slt_22) rfl rfl rfl ?_
 refine XO_v0 (ev_cmp rfl rfl rfl) rfl rfl rfl ?_
 refine XO_nil (at_then ?_)
 refine X_cond rfl (fun hc10 => ?_) (fun hc10 => ?_)
 ·
  have hlt_k : k < n := by have h := hc10; simp at h; omega
  have hP1 := hP.1
  obtain ⟨p, hp⟩ := hP1.at hlt_k
  have hb : (ps.map f)[k]? = some (f p) := by simp [hp]
  refine X_skip ?_
  refine at_then ?_
  refine X_seq ?_
  refine X_block ?_
  refine X_seq (X_region ?_)
  refine XO_v0 (ev_move rfl) rfl rfl rfl ?_
  refine XO_v0 (ev_move rfl) rfl rfl rfl ?_
  refine XO_v0 (ev_indexSl rfl rfl slt_61 (by assumption) (fun hg => by first | omega | (simp [conj] at hg; omega))) rfl rfl rfl ?_
  refine XO_v0 (ev_load rfl sct_4 (fun hg => by first | exact Sl.get0 hF hb rfl | exact Sl.get hP1 hp rfl | (repeat (first | exact Cell.here rfl | apply Cell.there | apply Cell.app)))) rfl rfl rfl ?_
  refine XO_nil (at_then ?_)
  refine X_cond rfl (fun hc16 => ?_) (fun hc16 => ?_)
  ·
   refine X_region ?_
   refine XO_v0 (ev_move rfl) rfl rfl rfl ?_
   refine XO_v0 (ev_move rfl) rfl rfl rfl ?_
   refine XO_v0 (ev_move rfl) rfl rfl rfl ?_
   refine XO_v0 (ev_indexSl rfl rfl slt_22 (by assumption) (fun hg => by first | omega | (simp [conj] at hg; omega))) rfl rfl rfl ?_
   refine XO_v0 (ev_fieldAddr rfl fld_53_0) rfl rfl rfl ?_
   refine XO_v0 (ev_load rfl sct_3 (fun hg => by first | exact Sl.get0 hF hb rfl | exact Sl.get hP1 hp rfl | (repeat (first | exact Cell.here rfl | apply Cell.there | apply Cell.app)))) rfl rfl rfl ?_
   refine XO_buildSlice (ps := [(0, _)]) (m := [encI p.id]) elt_23 rfl (.cons rfl (.nil)) rfl (by simp [encI_len]) (by decide) (by decide) rfl rfl (fun b_23 => ?_)
   refine XO_append (v := _) (ys := [p.id].flatMap encI) (L := L) rfl rfl elt_23 hO (by repeat (first | exact .cons .here .nil | exact split_all | exact split_app | apply split_cons | apply split_skip)) ⟨rfl, fun _ => rfl, Cells.here⟩ (one_I [p.id]) (by omega) rfl rfl ?_
   intro v9 L9 hO9 _; rw [← List.flatMap_append] at hO9
   refine XO_v0 (ev_assign rfl) rfl rfl rfl ?_
   refine XO_nil ?_
   refine at_block_n ?_
   refine at_then ?_
   refine X_region ?_
   refine XO_v0 (ev_move rfl) rfl rfl rfl ?_
   refine XO_v0 (ev_arB rfl rfl rfl (fun _ => by omega)) rfl rfl rfl ?_
   refine XO_v0 (ev_assign rfl) rfl rfl rfl ?_
   refine XO_nil ?_
   first
   | exact at_met2 _ _ ⟨n - (k + 1), by omega, k + 1, _, _, _, rfl, rfl, rfl, rfl, by omega, by rw [ids_yes hp hc16]; exact hO9, by omega⟩ (.cons rfl (.cons rfl (.cons rfl (.cons rfl .nil)))) (by repeat (first | exact .refl | exact subL_left | refine subL_app ?_ | refine .drop ?_ | refine subL_add ?_))
  ·
   refine X_skip ?_
   refine at_block_n ?_
   refine at_then ?_
   refine X_region ?_
   refine XO_v0 (ev_move rfl) rfl rfl rfl ?_
   refine XO_v0 (ev_arB rfl rfl rfl (fun _ => by omega)) rfl rfl rfl ?_
   refine XO_v0 (ev_assign rfl) rfl rfl rfl ?_
   refine XO_nil ?_
   first
   | exact at_met2 _ _ ⟨n - (k + 1), by omega, k + 1, _, _, _, rfl, rfl, rfl, rfl, by omega, by rw [ids_no hp hc16]; exact hO, by omega⟩ (.cons rfl (.cons rfl (.cons rfl (.cons rfl .nil)))) (by repeat (first | exact .refl | exact subL_left | refine subL_app ?_ | refine .drop ?_ | refine subL_add ?_))
 ·
  have hge_k : n ≤ k := by have h := hc10; simp at h; omega
  rw [take_all hP.len hge_k] at hO
  refine X_exit ?_
  refine at_then_e ?_
  refine at_then_e ?_
  refine at_block_hit ?_
  refine at_then ?_
  refine X_seq (X_region ?_)
  refine XO_v0 (ev_move rfl) rfl rfl rfl ?_
  refine XO_v0 (ev_assign rfl) rfl rfl rfl ?_
  refine XO_nil (at_then ?_)
  refine X_ret ?_
  exact at_ret1 rfl rfl (fun w hw => by obtain ⟨I9, h91, h92, h93⟩ := OwnS.res hO encI_len (by decide) hw; exact ⟨_, I9, [], rfl, hIc.trans h91, h92, h93⟩)
end Go.Proofs.YtccomeanpppfmaaGreat
end
section
namespace Go.Proofs.YtccomeanpppfmaaGreat
open Go Go.Kn Go.Proofs
theorem fun_13 : Fun Tryz.prog 13 := .of Tryz.func13 (by kernel_rfl) (by kernel_rfl)
theorem fun_29 : Fun Tryz.prog 29 := .of Tryz.func29 (by kernel_rfl) (by kernel_rfl)
theorem fun_30 : Fun Tryz.prog 30 := .of Tryz.func30 (by kernel_rfl) (by kernel_rfl)
theorem fun_31 : Fun Tryz.prog 31 := .of Tryz.func31 (by kernel_rfl) (by kernel_rfl)
theorem fun_34 : Fun Tryz.prog 34 := .of Tryz.func34 (by kernel_rfl) (by kernel_rfl)
theorem r_ch_no {I : HMap} {av bv : Option Addr} {n c n2 c2 : Nat} {ps : List Pt} {ys : List Int} (hP : SlP I av n c ps) (hn : n ≤ 100000) (hL : Lst ps) (hT : Sl I 1 encI bv n2 c2 ys) (hn2 : n2 ≤ 100000) (h : chB ps ys = false) : RetM Tryz.prog 29 [.slice av n c, .slice bv n2 c2] I [] (fun v _ L => v = .tuple #[.slice none 0 0, .bool false] ∧ L = []) :=
 (r_chosen hP hn hL hT hn2).mono fun v I' L _ hq => hq.elim (fun h1 => h1.2) (fun h1 => by rw [h] at h1; cases h1.1)
theorem r_ch_yes {I : HMap} {av bv : Option Addr} {n c n2 c2 : Nat} {ps : List Pt} {ys : List Int} (hP : SlP I av n c ps) (hn : n ≤ 100000) (hL : Lst ps) (hT : Sl I 1 encI bv n2 c2 ys) (hn2 : n2 ≤ 100000) (h : chB ps ys = true) : RetM Tryz.prog 29 [.slice av n c, .slice bv n2 c2] I [] (fun v _ L => ∃ b, v = .tuple #[.slice (some ⟨b, 0, none⟩) n n, .bool true] ∧ L = [(b, .cells (cellsB (ps.map (chF ys))) 4 (0, 0))]) :=
 (r_chosen hP hn hL hT hn2).mono fun v I' L _ hq => hq.elim (fun h1 => by rw [h] at h1; cases h1.1) (fun h1 => h1.2)
theorem r_ver_no {I : HMap} {av : Option Addr} {n c : Nat} {ps : List Pt} (hP : SlP I av n c ps) (hn : n ≤ 100000) (hL : Lst ps) (hnd : ∀ p ∈ ps, p.n ≤ 100000) {bv : Option Addr} {n2 c2 : Nat} {ys : List Int} (hT : Sl I 1 encI bv n2 c2 ys) (hn2 : n2 ≤ 100000) (hch : chB ps ys = false) : RetM Tryz.prog 34 [.slice av n c, .slice bv n2 c2] I [] (VrQ ps ys n) := by
 intro g H w hw
 refine enter Tryz.func34 rfl Tryz.ntmps34 rfl hw ?_
 have hIc := HLe.refl I
 refine X_seq (X_region ?_)
 refine XO_v0 (ev_assign rfl) rfl rfl rfl ?_
 refine XO_v0 (ev_assign rfl) rfl rfl rfl ?_
 refine XO_nil (at_then ?_)
 refine X_seq (X_region ?_)
 refine XO_v0 (ev_move rfl) rfl rfl rfl ?_
 refine XO_v0 (ev_move rfl) rfl rfl rfl ?_
 refine XO_callM (cap := []) (vs := [_, _]) rfl rfl fun_29 .nil (r_ch_no hP hn hL hT hn2 hch) rfl rfl ?_
 rintro vv1 I1 L1 hI1 ⟨rfl, rfl⟩
 have hP := hP.mono hI1
 have hT := hT.mono hI1
 have hIc := hIc.trans hI1
 refine XO_v0 (ev_move rfl) rfl rfl rfl ?_
 refine XO_v0 (ev_extract rfl rfl) rfl rfl rfl ?_
 refine XO_v0 (ev_extract rfl rfl) rfl rfl rfl ?_
 refine XO_v0 (ev_assign rfl) rfl rfl rfl ?_
 refine XO_v0 (ev_assign rfl) rfl rfl rfl ?_
 refine XO_nil (at_then ?_)
 refine X_seq ?_
 refine X_seq (X_region ?_)
 refine XO_v0 (ev_move rfl) rfl rfl rfl ?_
 refine XO_v0 (ev_not rfl) rfl rfl rfl ?_
 refine XO_v0 (ev_move rfl) rfl rfl rfl ?_
 refine XO_pushF 2 rfl rfl rfl ?_
 refine XO_dead1 (.bool false) rfl (.some rfl rfl rfl rfl gbf) rfl rfl rfl ?_
 refine XO_dead1 (.bool false) rfl (.some rfl rfl rfl rfl gbf) rfl rfl rfl ?_
 refine XO_dead1 (.bool false) rfl (.some rfl rfl rfl rfl gbf) rfl rfl rfl ?_
 refine XO_dead1 (.bool false) rfl (.some rfl rfl rfl rfl gbf) rfl rfl rfl ?_
 refine XO_dead1 (.bool false) rfl (.some rfl rfl rfl rfl gbf) rfl rfl rfl ?_
 refine XO_dead1 (.bool false) rfl (.some rfl rfl rfl rfl gbf) rfl rfl rfl ?_
 refine XO_dead1 (.bool false) rfl (.some rfl rfl rfl rfl gbf) rfl rfl rfl ?_
 refine XO_dead1 (.bool false) rfl (.some rfl rfl rfl rfl gbf) rfl rfl rfl ?_
 refine XO_or0 rfl rfl rfl rfl rfl ?_
 refine XO_nil (at_then ?_)
 refine X_cond rfl (fun hc25 => ?_) (fun hc25 => ?_)
 ·
  refine X_seq (X_region ?_)
  refine XO_v0 (ev_assign rfl) rfl rfl rfl ?_
  refine XO_v0 (ev_assign rfl) rfl rfl rfl ?_
  refine XO_nil (at_then ?_)
  refine X_ret ?_
  refine at_then_r ?_
  first
  | exact at_ret2 rfl rfl rfl (fun w hw => ⟨_, I1, [], rfl, hIc, hw.drop, .inl ⟨by unfold verB; rw [hch]; rfl, rfl, rfl⟩⟩)
 ·
  cases hc25
theorem r_ver_yes {I : HMap} {av : Option Addr} {n c : Nat} {ps : List Pt} (hP : SlP I av n c ps) (hn : n ≤ 100000) (hL : Lst ps) (hnd : ∀ p ∈ ps, p.n ≤ 100000) {bv : Option Addr} {n2 c2 : Nat} {ys : List Int} (hT : Sl I 1 encI bv n2 c2 ys) (hn2 : n2 ≤ 100000) (hch : chB ps ys = true) : RetM Tryz.prog 34 [.slice av n c, .slice bv n2 c2] I [] (VrQ ps ys n) := by
 intro g H w hw
 refine enter Tryz.func34 rfl Tryz.ntmps34 rfl hw ?_
 have hIc := HLe.refl I
 refine X_seq (X_region ?_)
 refine XO_v0 (ev_assign rfl) rfl rfl rfl ?_
 refine XO_v0 (ev_assign rfl) rfl rfl rfl ?_
 refine XO_nil (at_then ?_)
 refine X_seq (X_region ?_)
 refine XO_v0 (ev_move rfl) rfl rfl rfl ?_
 refine XO_v0 (ev_move rfl) rfl rfl rfl ?_
 refine XO_callM (cap := []) (vs := [_, _]) rfl rfl fun_29 .nil (r_ch_yes hP hn hL hT hn2 hch) rfl rfl ?_
 rintro vv1 I1 L1 hI1 ⟨b9, rfl, rfl⟩
 have hP := hP.mono hI1
 have hT := hT.mono hI1
 have hIc := hIc.trans hI1
 refine XO_v0 (ev_move rfl) rfl rfl rfl ?_
 refine XO_v0 (ev_extract rfl rfl) rfl rfl rfl ?_
 refine XO_v0 (ev_extract rfl rfl) rfl rfl rfl ?_
 refine XO_v0 (ev_assign rfl) rfl rfl rfl ?_
 refine XO_v0 (ev_assign rfl) rfl rfl rfl ?_
 refine XO_nil (at_then ?_)
 refine X_seq ?_
 refine X_seq (X_region ?_)
 refine XO_v0 (ev_move rfl) rfl rfl rfl ?_
 refine XO_v0 (ev_not rfl) rfl rfl rfl ?_
 refine XO_v0 (ev_move rfl) rfl rfl rfl ?_
 refine XO_want (dj := 16) rfl rfl rfl ?_
 refine XO_v0 (ev_move rfl) rfl rfl rfl ?_
 refine XO_want (dj := 16) rfl rfl rfl ?_
 refine XO_v0 (ev_move rfl) rfl rfl rfl ?_
 refine XO_want (dj := 16) rfl rfl rfl ?_
 refine XO_v0 (ev_move rfl) rfl rfl rfl ?_
 refine XO_want (dj := 16) rfl rfl rfl ?_
 refine XO_callM (cap := []) (vs := [_, _]) rfl rfl fun_31 (by repeat (first | exact .cons .here .nil | exact split_all | exact split_app | apply split_cons | apply split_skip)) (r_closed hP hn hL hnd (RowP.of ps (chF ys)) b9) rfl rfl ?_
 rintro vv2 I2 L2 hI2 ⟨Lo, rfl, hO⟩
 have hP := hP.mono hI2
 have hT := hT.mono hI2
 have hIc := hIc.trans hI2
 refine XO_want (dj := 16) rfl rfl rfl ?_
 refine XO_freezeO hO encB_len (by decide) (split_asc split_app) (fun I3 hI3 af3 cf3 ef3 hF => ?_)
 subst ef3
 have hP := hP.mono hI3
 have hT := hT.mono hI3
 have hIc := hIc.trans hI3
 refine XO_callM (cap := []) (vs := [_, _]) rfl rfl fun_30 .nil (r_ids hP hn hF) rfl rfl ?_
 rintro vv4 I4 L4 hI4 ⟨rfl, a9, c9, rfl, hR⟩
 have hP := hP.mono hI4
 have hT := hT.mono hI4
 have hF := hF.mono hI4
 have hIc := hIc.trans hI4
 refine XO_want (dj := 16) rfl rfl rfl ?_
 refine XO_v0 (ev_move rfl) rfl rfl rfl ?_
 refine XO_want (dj := 16) rfl rfl rfl ?_
 refine XO_callV0 (cap := []) (vs := [_, _]) rfl rfl fun_14 (w_sameI hR (by rw [ids_clo hL hch]; exact Nat.le_trans (by unfold cloF; rw [List.length_map]; exact List.length_filter_le ..) (by rw [hP.len]; omega)) hT) rfl rfl ?_
 refine XO_want (dj := 16) rfl rfl rfl ?_
 refine XO_v0 (ev_not rfl) rfl rfl rfl ?_
 refine XO_v0 (ev_pickb rfl rfl rfl) rfl rfl rfl ?_
 refine XO_nil (at_then ?_)
 refine X_cond rfl (fun hc25 => ?_) (fun hc25 => ?_)
 ·
  have hvb : verB ps ys = false := by unfold verB; rw [hch, Bool.true_and, ← ids_clo hL hch]; simpa using hc25
  refine X_seq (X_region ?_)
  refine XO_v0 (ev_assign rfl) rfl rfl rfl ?_
  refine XO_v0 (ev_assign rfl) rfl rfl rfl ?_
  refine XO_nil (at_then ?_)
  refine X_ret ?_
  refine at_then_r ?_
  exact at_ret2 rfl rfl rfl (fun w hw => ⟨_, I4, [], rfl, hIc, hw.drop, .inl ⟨hvb, rfl, rfl⟩⟩)
 ·
  have hvb : verB ps ys = true := by unfold verB; rw [hch, Bool.true_and, ← ids_clo hL hch]; simpa using hc25
  refine X_skip ?_
  refine at_then ?_
  refine X_seq (X_region ?_)
  refine XO_v0 (ev_move rfl) rfl rfl rfl ?_
  refine XO_v0 (ev_assign rfl) rfl rfl rfl ?_
  refine XO_v0 (ev_assign rfl) rfl rfl rfl ?_
  refine XO_nil (at_then ?_)
  refine X_ret ?_
  exact at_ret2 rfl rfl rfl (fun w hw => ⟨_, I4, _, rfl, hIc, hw.subL (by repeat (first | exact .refl | exact subL_left | refine .drop ?_ | refine subL_add ?_)), .inr ⟨hvb, b9, rfl, rfl⟩⟩)
theorem r_version {I : HMap} {av bv : Option Addr} {n c n2 c2 : Nat} {ps : List Pt} {ys : List Int} (hP : SlP I av n c ps) (hn : n ≤ 100000) (hL : Lst ps) (hnd : ∀ p ∈ ps, p.n ≤ 100000) (hT : Sl I 1 encI bv n2 c2 ys) (hn2 : n2 ≤ 100000) : RetM Tryz.prog 34 [.slice av n c, .slice bv n2 c2] I [] (VrQ ps ys n) := by
 cases h : chB ps ys with
 | false => exact r_ver_no hP hn hL hnd hT hn2 h
 | true => exact r_ver_yes hP hn hL hnd hT hn2 h
theorem r_v_no {I : HMap} {av bv : Option Addr} {n c n2 c2 : Nat} {ps : List Pt} {ys : List Int} (hP : SlP I av n c ps) (hn : n ≤ 100000) (hL : Lst ps) (hnd : ∀ p ∈ ps, p.n ≤ 100000) (hT : Sl I 1 encI bv n2 c2 ys) (hn2 : n2 ≤ 100000) (h : verB ps ys = false) : RetM Tryz.prog 34 [.slice av n c, .slice bv n2 c2] I [] (fun v _ L => v = .tuple #[.slice none 0 0, .bool false] ∧ L = []) :=
 (r_version hP hn hL hnd hT hn2).mono fun v I' L _ hq => hq.elim (fun h1 => h1.2) (fun h1 => by rw [h] at h1; cases h1.1)
theorem r_v_yes {I : HMap} {av bv : Option Addr} {n c n2 c2 : Nat} {ps : List Pt} {ys : List Int} (hP : SlP I av n c ps) (hn : n ≤ 100000) (hL : Lst ps) (hnd : ∀ p ∈ ps, p.n ≤ 100000) (hT : Sl I 1 encI bv n2 c2 ys) (hn2 : n2 ≤ 100000) (h : verB ps ys = true) : RetM Tryz.prog 34 [.slice av n c, .slice bv n2 c2] I [] (fun v _ L => ∃ b, v = .tuple #[.slice (some ⟨b, 0, none⟩) n n, .bool true] ∧ L = [(b, .cells (cellsB (ps.map (chF ys))) 4 (0, 0))]) :=
 (r_version hP hn hL hnd hT hn2).mono fun v I' L _ hq => hq.elim (fun h1 => by rw [h] at h1; cases h1.1) (fun h1 => h1.2)
theorem r_few (I : HMap) (av bv : Option Addr) (n c n2 c2 : Nat) : RetV Tryz.prog 7 [.slice av n c, .slice bv n2 c2] I (.bool ((decide ((n : Int) ≤ 40) || (decide ((n : Int) > 512) && decide ((n : Int) ≤ 600))) && decide ((n2 : Int) ≤ 60))) := by
 intro g H w hw
 refine enter Tryz.func7 rfl Tryz.ntmps7 rfl hw ?_
 refine X_seq (X_region ?_)
 refine XO_v0 (ev_assign rfl) rfl rfl rfl ?_
 refine XO_nil (at_then ?_)
 refine X_seq (X_region ?_)
 refine XO_v0 (ev_move rfl) rfl rfl rfl ?_
 refine XO_v0 (ev_lenS rfl slt_22) rfl rfl rfl ?_
 refine XO_v0 (ev_cmp rfl rfl rfl) rfl rfl rfl ?_
 refine XO_v0 (ev_move rfl) rfl rfl rfl ?_
 refine XO_pushF 3 rfl rfl rfl ?_
 refine XO_v1 (ev_move rfl) (.some rfl rfl rfl rfl gbf) rfl rfl rfl ?_
 refine XO_v1 (ev_lenS rfl slt_22) (.some rfl rfl rfl rfl gbf) rfl rfl rfl ?_
 refine XO_v1 (ev_cmp rfl rfl rfl) (.some rfl rfl rfl rfl gbf) rfl rfl rfl ?_
 refine XO_v1 (ev_move rfl) (.some rfl rfl rfl rfl gbf) rfl rfl rfl ?_
 refine XO_pushT 7 rfl rfl rfl ?_
 refine XO_v1 (ev_move rfl) (.some rfl rfl rfl rfl gbt) rfl rfl rfl ?_
 refine XO_v1 (ev_lenS rfl slt_22) (.some rfl rfl rfl rfl gbt) rfl rfl rfl ?_
 refine XO_v1 (ev_cmp rfl rfl rfl) (.some rfl rfl rfl rfl gbt) rfl rfl rfl ?_
 refine XO_and1 rfl rfl rfl (.some rfl rfl rfl rfl gbf) rfl rfl ?_
 refine XO_or0 rfl rfl rfl rfl rfl ?_
 refine XO_v0 (ev_move rfl) rfl rfl rfl ?_
 refine XO_pushT 13 rfl rfl rfl ?_
 refine XO_v1 (ev_move rfl) (.some rfl rfl rfl rfl gbt) rfl rfl rfl ?_
 refine XO_v1 (ev_lenS rfl slt_33) (.some rfl rfl rfl rfl gbt) rfl rfl rfl ?_
 refine XO_v1 (ev_cmp rfl rfl rfl) (.some rfl rfl rfl rfl gbt) rfl rfl rfl ?_
 refine XO_and0 rfl rfl rfl rfl rfl ?_
 refine XO_v0 (ev_assign rfl) rfl rfl rfl ?_
 refine XO_nil (at_then ?_)
 refine X_ret ?_
 exact at_ret1 rfl rfl (fun w hw => ⟨by first | rfl | simp_all, hw.drop⟩)
end Go.Proofs.YtccomeanpppfmaaGreat
end
section
namespace Go.Proofs.YtccomeanpppfmaaGreat
open Go Go.Kn Go.Proofs
theorem fun_6 : Fun Tryz.prog 6 := .of Tryz.func6 (by kernel_rfl) (by kernel_rfl)
theorem fun_7 : Fun Tryz.prog 7 := .of Tryz.func7 (by kernel_rfl) (by kernel_rfl)
end Go.Proofs.YtccomeanpppfmaaGreat
end
section
namespace Go.Proofs.YtccomeanpppfmaaGreat
open Go Go.Kn Go.Proofs
def ixK (ps : List Pt) (P : Pt → Bool) (k : Nat) : List Int := ((List.range k).filter fun i => P (ps.getD i zeroP)).map fun i : Nat => (i : Int)
theorem ix_yes {ps : List Pt} {P : Pt → Bool} {k : Nat} {p : Pt} (hp : ps[k]? = some p) (h : P p = true) : ixK ps P (k + 1) = ixK ps P k ++ [(k : Int)] := by
  unfold ixK
  rw [List.range_succ, List.filter_append, List.filter_cons, if_pos (by rw [getD_of hp]; exact h), List.map_append]; rfl
theorem ix_no {ps : List Pt} {P : Pt → Bool} {k : Nat} {p : Pt} (hp : ps[k]? = some p) (h : P p = false) : ixK ps P (k + 1) = ixK ps P k := by
  unfold ixK
  rw [List.range_succ, List.filter_append, List.filter_cons, if_neg (by rw [getD_of hp, h]; exact Bool.false_ne_true)]; simp
theorem ix_len {ps : List Pt} {P : Pt → Bool} {k : Nat} : (ixK ps P k).length ≤ k := by
  unfold ixK
  rw [List.length_map]
  exact Nat.le_trans (List.length_filter_le ..) (by simp)
theorem ix_mem {ps : List Pt} {P : Pt → Bool} {k : Nat} {x : Int} (hk : k ≤ ps.length) (h : x ∈ ixK ps P k) : ∃ (m : Nat) (p : Pt), x = (m : Int) ∧ m < k ∧ ps[m]? = some p ∧ P p = true := by
  unfold ixK at h
  obtain ⟨m, hm, rfl⟩ := List.mem_map.1 h
  obtain ⟨h1, h2⟩ := List.mem_filter.1 hm
  rw [List.mem_range] at h1
  have hp : ps[m]? = some (ps[m]'(by omega)) := List.getElem?_eq_getElem _
  exact ⟨m, _, rfl, h1, hp, by rw [getD_of hp] at h2; exact h2⟩
def atI (ps : List Pt) (x : Int) : Pt := ps.getD x.toNat zeroP
theorem ix_val {ps : List Pt} {P : Pt → Bool} : ∀ {k : Nat}, k ≤ ps.length → (ixK ps P k).map (atI ps) = (ps.take k).filter P
  | 0, _ => by simp [ixK]
  | k + 1, hk => by
    have hp : ps[k]? = some (ps[k]'(show k < ps.length by omega)) := List.getElem?_eq_getElem _
    have ih := ix_val (ps := ps) (P := P) (k := k) (by omega)
    cases h : P (ps[k]'(show k < ps.length by omega)) with
    | true =>
      rw [ix_yes hp h, flt_yes hp h, List.map_append, ih, List.map_singleton]
      unfold atI
      rw [show ((k : Int)).toNat = k from rfl, getD_of hp]
    | false => rw [ix_no hp h, flt_no hp h, ih]
theorem ix_full {ps : List Pt} {P : Pt → Bool} {n : Nat} (hn : ps.length = n) : (ixK ps P n).map (atI ps) = ps.filter P := by
  rw [ix_val (by omega), List.take_of_length_le (by omega)]
theorem ix_size {ps : List Pt} {P : Pt → Bool} {n : Nat} (hn : ps.length = n) : (ixK ps P n).length = (ps.filter P).length := by
  rw [← ix_full hn, List.length_map]
theorem ix_any {ps : List Pt} {P Q : Pt → Bool} {n : Nat} (hn : ps.length = n) : ((ixK ps P n).any fun x => Q (atI ps x)) = ps.any fun p => P p && Q p := by
  have h := congrArg (fun l => l.any Q) (ix_full (P := P) hn)
  simp only [List.any_map, List.any_filter] at h
  exact h
theorem ix_at {ps : List Pt} {P : Pt → Bool} {n j : Nat} {x : Int} (hn : ps.length = n) (hx : (ixK ps P n)[j]? = some x) : ∃ (m : Nat) (p : Pt), x = (m : Int) ∧ m < n ∧ ps[m]? = some p ∧ (ps.filter P)[j]? = some p := by
  obtain ⟨m, p, rfl, h1, h2, _⟩ := ix_mem (by omega) (List.mem_of_getElem? hx)
  refine ⟨m, p, rfl, h1, h2, ?_⟩
  rw [← ix_full (P := P) hn, List.getElem?_map, hx, Option.map_some]
  unfold atI
  rw [show ((m : Int)).toNat = m from rfl, getD_of h2]
theorem atI_at {ps : List Pt} {m : Nat} {p : Pt} (h : ps[m]? = some p) : atI ps (m : Int) = p := by
  unfold atI
  rw [show ((m : Int)).toNat = m from rfl, getD_of h]
/-! ### Which patches -/
def rmP (s : Int) (p : Pt) : Bool := p.sign == s && p.kind == 3
def seP (ps : List Pt) (s : Int) (p : Pt) : Bool := (p.sign == s && p.kind == 1) && ps.any fun r => rmP s r && !onF ps r.id p.id
def stP (s f : Int) (p : Pt) : Bool := (p.kind == 1 && p.sign == s) && p.field == f
def laP (ps : List Pt) (s f : Int) (p : Pt) : Bool := stP s f p && !ps.any fun q => stP s f q && onF ps q.id p.id
theorem rm_eq (ps : List Pt) (s : Int) : rmF ps s = (ps.filter (rmP s)).map (·.id) := by
  unfold rmF
  refine congrArg (List.map _) (List.filter_congr fun p _ => ?_)
  unfold rmP; exact Bool.and_comm _ _
theorem un_eq (ps : List Pt) (s : Int) : unF (onF ps) ps s = ps.filter (seP ps s) := by
  unfold unF
  refine List.filter_congr fun p _ => ?_
  unfold unB seP
  by_cases e : p.sign = s
  · subst e
    rw [rm_eq, List.any_map, List.any_filter, Bool.and_assoc]; rfl
  · rw [show (p.sign == s) = false by simpa using e]; rfl
theorem st_eq (ps : List Pt) (s f : Int) : stF ps s f = ps.filter (stP s f) := by
  unfold stF
  refine List.filter_congr fun p _ => ?_
  unfold stP; exact (Bool.and_assoc _ _ _).symm
theorem la_eq (ps : List Pt) (s f : Int) : latF (onF ps) ps s f = ps.filter (laP ps s f) := by
  unfold latF
  rw [st_eq, List.filter_filter]
  refine List.filter_congr fun p _ => ?_
  unfold laP
  rw [List.any_filter, Bool.and_comm]
theorem ex_ix {ps : List Pt} {s : Int} {n : Nat} (hn : ps.length = n) : ((((ixK ps (rmP s) n).length : Int) == 0) || decide (((ixK ps (seP ps s) n).length : Int) > 0)) = exB (onF ps) ps s := by
  rw [ix_size hn, ix_size hn]
  unfold exB
  rw [un_eq, rm_eq, List.isEmpty_map]
  congr 1
  · cases ps.filter (rmP s) <;> simp
    omega
  · cases ps.filter (seP ps s) <;> simp
/-! ### The first sign whose ID is not less -/
theorem low_stop {xs : List Sg} {t : Int} {i n : Nat} (hn : xs.length = n) (hi : i ≤ n) (hlo : ∀ q z, q < i → xs[q]? = some z → z.id < t) (hst : i = n ∨ ∃ z, xs[i]? = some z ∧ ¬ z.id < t) : lowK Sg.id xs t = i := by
  unfold lowK
  induction xs generalizing i n with
  | nil => simp at hn; simp; omega
  | cons x xs ih =>
    cases i with
    | zero =>
      rcases hst with h | ⟨z, hz, h⟩
      · simp at hn; omega
      · simp at hz; subst hz
        rw [List.takeWhile_cons, if_neg (by simpa using h)]; rfl
    | succ i =>
      have h0 := hlo 0 x (by omega) rfl
      rw [List.takeWhile_cons, if_pos (by simpa using h0), List.length_cons]
      simp only [List.length_cons] at hn
      have := ih (i := i) (n := n - 1) (by omega) (by omega) (fun q z hq hz => hlo (q + 1) z (by omega) (by simpa using hz)) (by
        rcases hst with h | ⟨z, hz, h⟩
        · left; omega
        · exact .inr ⟨z, by simpa using hz, h⟩)
      omega
theorem low_more {xs : List Sg} {t : Int} {k : Nat} {x : Sg} (hlo : ∀ q z, q < k → xs[q]? = some z → z.id < t) (hx : xs[k]? = some x) (h : x.id < t) : ∀ q z, q < k + 1 → xs[q]? = some z → z.id < t := fun q z hq hz => by
  by_cases e : q = k
  · subst e; rw [hx] at hz; cases hz; exact h
  · exact hlo q z (by omega) hz
theorem putc {xs : List Sg} {i n : Nat} {x : Sg} {t : Int} (hn : xs.length = n) (hx : xs[i]? = some x) (h : (decide ((i : Int) < (n : Int)) && decide ((xs.getD i zeroG).id < t)) = true) : x.id < t := by
  rw [Bool.and_eq_true, getD_of hx] at h
  exact of_decide_eq_true h.2
theorem putd {xs : List Sg} {i n : Nat} {t : Int} (hn : xs.length = n) (hi : i ≤ n) (hlo : ∀ q z, q < i → xs[q]? = some z → z.id < t) (h : (decide ((i : Int) < (n : Int)) && decide ((xs.getD i zeroG).id < t)) = false) : lowK Sg.id xs t = i := by
  refine low_stop hn hi hlo ?_
  by_cases e : i = n
  · exact .inl e
  · right
    have hx : xs[i]? = some (xs[i]'(by omega)) := List.getElem?_eq_getElem _
    refine ⟨_, hx, ?_⟩
    rw [getD_of hx, decide_eq_true (show (i : Int) < (n : Int) by omega), Bool.true_and] at h
    exact of_decide_eq_false h
/-! ### Fitting a base -/
theorem all_take1 {bs : List Sg} {l : List Pt} {k : Nat} {p : Pt} (hp : l[k]? = some p) : allG bs (l.take (k + 1)) = if p.kind = 2 then putF (allG bs (l.take k)) p.nw else allG bs (l.take k) := by rw [take_snoc hp, all_step]
def ftP (bs : List Sg) (l : List Pt) (p : Pt) : Bool := ((p.kind == 2 && hasS bs p.sign) || ((p.kind != 2 && !hasS bs p.sign) && !insB l p.sign))
theorem fts_eq (bs : List Sg) (l : List Pt) (p : Pt) : ((p.kind == 2 && decide (idxF (fun x : Sg => x.id == p.sign) bs ≥ 0)) || ((p.kind != 2 && !decide (idxF (fun x : Sg => x.id == p.sign) bs ≥ 0)) && decide (idxF (fun q : Pt => q.kind == 2 && q.sign == p.sign) l < 0))) = ftP bs l p := by
  rw [idx_any, idx_lt]; rfl
theorem ft_eq (bs : List Sg) (l : List Pt) (p : Pt) : fitP bs l p = !ftP bs l p := rfl
theorem la_end {ps : List Pt} {s f : Int} {p : Pt} {b : Bool} {k n : Nat} (hn : ps.length = n) (hb : b = (stP s f p && !(ps.take k).any fun q => stP s f q && onF ps q.id p.id)) (h : (decide ((k : Int) < (n : Int)) && b) = false) : b = laP ps s f p := by
  unfold laP
  by_cases hk : n ≤ k
  · rw [hb, List.take_of_length_le (by omega)]
  · rw [decide_eq_true (show (k : Int) < (n : Int) by omega), Bool.true_and] at h
    rw [h]
    rw [h] at hb
    cases hs : stP s f p with
    | false => rfl
    | true =>
      rw [hs, Bool.true_and] at hb
      have h2 : ((ps.take k).any fun q => stP s f q && onF ps q.id p.id) = true := by simpa using hb.symm
      rw [List.any_eq_true] at h2
      obtain ⟨q, hq, h3⟩ := h2
      rw [List.any_eq_true.2 ⟨q, List.mem_of_mem_take hq, h3⟩]; rfl
theorem la_one {ps : List Pt} {s f : Int} {p q : Pt} {k : Nat} (hq : ps[k]? = some q) (h : (stP s f q && onF ps q.id p.id) = true) : false = (stP s f p && !(ps.take (k + 1)).any fun q => stP s f q && onF ps q.id p.id) := by
  rw [fold_any hq, h]; simp
theorem la_two {ps : List Pt} {s f : Int} {p q : Pt} {k : Nat} {b : Bool} (hq : ps[k]? = some q) (h : (stP s f q && onF ps q.id p.id) = false) (hb : b = (stP s f p && !(ps.take k).any fun q => stP s f q && onF ps q.id p.id)) : b = (stP s f p && !(ps.take (k + 1)).any fun q => stP s f q && onF ps q.id p.id) := by
  rw [fold_any hq, h, Bool.or_false]; exact hb
theorem la_nil {ps : List Pt} {s f : Int} {n : Nat} (hn : ps.length = n) (h : decide (((ixK ps (laP ps s f) n).length : Int) > 0) = false) : latF (onF ps) ps s f = [] := by
  rw [la_eq]
  rw [ix_size hn] at h
  exact List.eq_nil_of_length_eq_zero (by simp at h; simpa using h)
theorem pat_no {ps : List Pt} {bs : List Sg} {ws : List Int} (h : chkR ps = 0) (h2 : chkG bs = 0) (h3 : ¬ ws.length > 512) (h4 : (verB ps ws && fitB bs (verL ps ws)) = false) : patE ps bs ws = 380 := by
  unfold patE; rw [if_neg (by omega), if_neg (by omega), if_neg h3, h4]; rfl
theorem pat_yes {ps : List Pt} {bs : List Sg} {ws : List Int} (h : chkR ps = 0) (h2 : chkG bs = 0) (h3 : ¬ ws.length > 512) (h4 : verB ps ws = true) (h5 : fitB bs (verL ps ws) = true) : patE ps bs ws = 0 := by
  unfold patE; rw [if_neg (by omega), if_neg (by omega), if_neg h3, h4, h5]; rfl
theorem pat_2' {ps : List Pt} {bs : List Sg} {ws : List Int} (h : chkR ps = 0) (h2 : chkG bs = 0) (h3 : ws.length > 512) : patE ps bs ws = 2 := by
  unfold patE; rw [if_neg (by omega), if_neg (by omega), if_pos h3]
def PtsQ (e : Int) (xs : List Pt) : Value → HMap → Go.Kn.Loc → Prop := fun v I' L => L = [] ∧ ∃ av c, v = .tuple #[.slice av xs.length c, .int .i64 e] ∧ SlP I' av xs.length c xs
theorem PtsQ.empty {e : Int} {xs : List Pt} {I : HMap} (h : xs = []) : PtsQ e xs (.tuple #[.slice none 0 0, .int .i64 e]) I [] := by
  subst h
  exact ⟨rfl, none, 0, rfl, .nil⟩
theorem sgn_made {ps : List Pt} {bs : List Sg} {ws : List Int} (h : patE ps bs ws = 0) : exL (onF (verL ps ws)) (verL ps ws) (allG bs (verL ps ws)) = sgnL (onF ps) bs (verL ps ws) := by
  obtain ⟨h1, _, h3, _⟩ := pat_parts h
  exact sgnL_eq (verL_onEq (chkR_lst h1) h3) bs
theorem sgn_big {ps : List Pt} {bs : List Sg} {ws : List Int} (h : patE ps bs ws = 0) (h2 : (sgnL (onF ps) bs (verL ps ws)).length > 4096) : sgnE ps bs ws = 2 := by unfold sgnE; rw [if_neg (by omega), if_pos h2]
theorem sgn_fine {ps : List Pt} {bs : List Sg} {ws : List Int} (h : patE ps bs ws = 0) (h2 : ¬ (sgnL (onF ps) bs (verL ps ws)).length > 4096) : sgnE ps bs ws = 0 := by unfold sgnE; rw [if_neg (by omega), if_neg h2]
theorem setO_at {x : Sg} {f : Int} {l : List Pt} {p : Pt} (h : l[0]? = some p) : setO x f l = setG x f p.nw := by
  cases l with
  | nil => cases h
  | cons q l => simp at h; subst h; rfl
end Go.Proofs.YtccomeanpppfmaaGreat
end
