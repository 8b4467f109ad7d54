/- The walks of the register of rights, third part: each function comes to its Lean function. -/
import Derived.Test.YtmflfccincbnaaaWalkB
import Derived.Test.YtmflfccincbnaaaPlain
namespace Go.Proofs.Ytmflfccincbnaaa
open Go Go.Kn Go.Proofs
theorem w_few {I : HMap} {av : Option Addr} {n c : Nat} {xs : List Rt} (hS : Sl I 11 encR av n c xs) : RetV Try.prog 11 [.slice av n c] I (.bool (fewF xs)) := by
  intro g H w hw
  refine enter Try.func11 rfl Try.ntmps11 rfl hw ?_
  refine X_seq ?_
  refine X_region ?_
  refine XO_v0 (ev_assign rfl) rfl rfl rfl ?_
  refine XO_nil ?_
  refine at_then ?_
  refine X_cut (fun E I' loc' => E = [(0, .slice av n c)] ∧ I' = I ∧ loc' = [] ∧ (xs.take 600).any bigR = false) ?_ ?_
  · skip
    refine X_seq ?_
    refine X_region ?_
    refine XO_v0 (ev_assign rfl) rfl rfl rfl ?_
    refine XO_nil ?_
    refine at_then ?_
    refine X_block ?_
    refine X_loop (fun m E I' loc' => ∃ k : Nat, m = n - k ∧ E = [(0, .slice av n c), (3, .int .i64 k)] ∧ I' = I ∧ loc' = [] ∧ k ≤ n ∧ k ≤ 600 ∧ (xs.take k).any bigR = false) _ _ _ _ ⟨0, rfl, rfl, rfl, rfl, Nat.zero_le _, by omega, rfl⟩ (.cons rfl (.cons rfl .nil)) (HLe.refl _) rfl ?_
    rintro m E I' loc' ⟨k, rfl, rfl, rfl, rfl, hk, hk6, hinv⟩
    refine X_seq ?_
    refine X_seq ?_
    refine X_region ?_
    refine XO_v0 (ev_move rfl) rfl rfl rfl ?_
    refine XO_v0 (ev_move rfl) rfl rfl rfl ?_
    refine XO_v0 (ev_lenS rfl slt_22) rfl rfl rfl ?_
    refine XO_v0 (ev_cmp rfl rfl rfl) rfl rfl rfl ?_
    refine XO_v0 (ev_move rfl) rfl rfl rfl ?_
    refine XO_pushT 4 rfl rfl rfl ?_
    refine XO_v1 (ev_move rfl) (.some rfl rfl rfl rfl gbt) rfl rfl rfl ?_
    refine XO_v1 (ev_cmp rfl rfl rfl) (.some rfl rfl rfl rfl gbt) rfl rfl rfl ?_
    refine XO_and0 rfl rfl rfl rfl rfl ?_
    refine XO_nil ?_
    refine at_then ?_
    refine X_cond rfl (fun hc11 => ?_) (fun hc11 => ?_)
    · skip
      simp at hc11
      obtain ⟨x, hx⟩ := hS.at hc11.1
      refine X_skip ?_
      refine at_then ?_
      refine X_seq ?_
      refine X_block ?_
      refine X_seq ?_
      refine X_region ?_
      refine XO_v0 (ev_move rfl) rfl rfl rfl ?_
      refine XO_v0 (ev_move rfl) rfl rfl rfl ?_
      refine XO_v0 (ev_indexSl rfl rfl slt_22 (by assumption) (fun hg => by omega)) rfl rfl rfl ?_
      refine XO_v0 (ev_fieldAddr rfl fld_45_6) rfl rfl rfl ?_
      refine XO_v0 (ev_load rfl sct_9 (fun hg => by first | exact Sl.get hS hx rfl | exact Cell.h0 rfl | exact Cell.h1 rfl | exact Cell.h2 rfl | exact Cell.h3 rfl | exact Cell.h4 rfl | exact Cell.h5 rfl)) rfl rfl rfl ?_
      refine XO_v0 (ev_lenStr rfl und_9) rfl rfl rfl ?_
      refine XO_v0 (ev_cmp rfl rfl rfl) rfl rfl rfl ?_
      refine XO_v0 (ev_move rfl) rfl rfl rfl ?_
      refine XO_pushF 7 rfl rfl rfl ?_
      refine XO_v1 (ev_move rfl) (.some rfl rfl rfl rfl gbf) rfl rfl rfl ?_
      refine XO_v1 (ev_move rfl) (.some rfl rfl rfl rfl gbf) rfl rfl rfl ?_
      refine XO_v1 (ev_indexSl rfl rfl slt_22 (by assumption) (fun hg => by omega)) (.some rfl rfl rfl rfl gbf) rfl rfl rfl ?_
      refine XO_v1 (ev_fieldAddr rfl fld_45_7) (.some rfl rfl rfl rfl gbf) rfl rfl rfl ?_
      refine XO_v1 (ev_load rfl sct_9 (fun hg => by first | exact Sl.get hS hx rfl | exact Cell.h0 rfl | exact Cell.h1 rfl | exact Cell.h2 rfl | exact Cell.h3 rfl | exact Cell.h4 rfl | exact Cell.h5 rfl)) (.some rfl rfl rfl rfl gbf) rfl rfl rfl ?_
      refine XO_v1 (ev_lenStr rfl und_9) (.some rfl rfl rfl rfl gbf) rfl rfl rfl ?_
      refine XO_v1 (ev_cmp rfl rfl rfl) (.some rfl rfl rfl rfl gbf) rfl rfl rfl ?_
      refine XO_or0 rfl rfl rfl rfl rfl ?_
      refine XO_nil ?_
      refine at_then ?_
      refine X_cond rfl (fun hc29 => ?_) (fun hc29 => ?_)
      · skip
        refine X_seq ?_
        refine X_region ?_
        refine XO_v0 (ev_assign rfl) rfl rfl rfl ?_
        refine XO_nil ?_
        refine at_then ?_
        refine X_ret ?_
        refine at_block_r ?_
        refine at_then_r ?_
        refine at_then_r ?_
        refine at_block_r ?_
        refine at_then_r ?_
        exact at_ret1 rfl rfl (fun w hw => ⟨by unfold fewF; first | (rw [hfin, hS.len]; rfl) | (rw [if_pos (any_hit_take hx (by omega) hc29)]), hw.drop⟩)
      · skip
        refine X_skip ?_
        refine at_block_n ?_
        refine at_then ?_
        refine X_region ?_
        refine XO_v0 (ev_move rfl) rfl rfl rfl ?_
        refine XO_v0 (ev_arB rfl rfl rfl (fun _ => by omega)) rfl rfl rfl ?_
        refine XO_v0 (ev_assign rfl) rfl rfl rfl ?_
        refine XO_nil ?_
        exact at_met' _ ⟨n - (k + 1), by omega, k + 1, rfl, rfl, rfl, rfl, by omega, by omega, any_step hx hinv hc29⟩ (.cons rfl (.cons rfl .nil))
    · skip
      simp only [Bool.and_eq_false_imp, decide_eq_true_eq, decide_eq_false_iff_not, Int.ofNat_lt] at hc11
      have hc11 : k < n → 600 ≤ k := fun h => by have := hc11 (by omega); omega
      have hor : n ≤ k ∨ 600 ≤ k := by rcases Nat.lt_or_ge k n with h | h <;> first | (left; exact h) | (right; exact hc11 h)
      refine X_exit ?_
      refine at_then_e ?_
      refine at_then_e ?_
      refine at_block_hit ?_
      exact at_met' _ ⟨rfl, rfl, rfl, by rcases hor with h | h <;> first | (rw [List.take_of_length_le (by rw [hS.len]; omega)]; exact any_end hinv (by rw [hS.len]; omega)) | (rw [show (600 : Nat) = k from by omega]; exact hinv)⟩ (.cons rfl .nil)
  · rintro E I' loc' ⟨rfl, rfl, rfl, hfin⟩
    refine X_seq ?_
    refine X_region ?_
    refine XO_v0 (ev_move rfl) rfl rfl rfl ?_
    refine XO_v0 (ev_lenS rfl slt_22) rfl rfl rfl ?_
    refine XO_v0 (ev_cmp rfl rfl rfl) rfl rfl rfl ?_
    refine XO_v0 (ev_move rfl) rfl rfl rfl ?_
    refine XO_pushF 3 rfl rfl rfl ?_
    refine XO_v1 (ev_move rfl) (.some rfl rfl rfl rfl gbf) rfl rfl rfl ?_
    refine XO_v1 (ev_lenS rfl slt_22) (.some rfl rfl rfl rfl gbf) rfl rfl rfl ?_
    refine XO_v1 (ev_cmp rfl rfl rfl) (.some rfl rfl rfl rfl gbf) rfl rfl rfl ?_
    refine XO_v1 (ev_move rfl) (.some rfl rfl rfl rfl gbf) rfl rfl rfl ?_
    refine XO_pushT 7 rfl rfl rfl ?_
    refine XO_v1 (ev_move rfl) (.some rfl rfl rfl rfl gbt) rfl rfl rfl ?_
    refine XO_v1 (ev_lenS rfl slt_22) (.some rfl rfl rfl rfl gbt) rfl rfl rfl ?_
    refine XO_v1 (ev_cmp rfl rfl rfl) (.some rfl rfl rfl rfl gbt) rfl rfl rfl ?_
    refine XO_and1 rfl rfl rfl (.some rfl rfl rfl rfl gbf) rfl rfl ?_
    refine XO_or0 rfl rfl rfl rfl rfl ?_
    refine XO_v0 (ev_assign rfl) rfl rfl rfl ?_
    refine XO_nil ?_
    refine at_then ?_
    refine X_ret ?_
    exact at_ret1 rfl rfl (fun w hw => ⟨by unfold fewF; first | (rw [hfin, hS.len]; rfl) | (rw [if_pos (any_hit_take hx (by omega) hc29)]), hw.drop⟩)

theorem w_rasked {I : HMap} {av : Option Addr} {n c : Nat} {xs : List Rt} (hS : Sl I 11 encR av n c xs) (hn : n ≤ 100000) (day time : Int) : RetV Try.prog 28 [.slice av n c, .int .i64 day, .int .i64 time] I (.int .i64 (askedF (fCheck xs) day time)) := by
  intro g H w hw
  refine enter Try.func28 rfl Try.ntmps28 rfl hw ?_
  refine X_seq ?_
  refine X_region ?_
  refine XO_v0 (ev_assign rfl) rfl rfl rfl ?_
  refine XO_nil ?_
  refine at_then ?_
  refine X_seq ?_
  refine X_region ?_
  refine XO_v0 (ev_move rfl) rfl rfl rfl ?_
  refine XO_callV0 (cap := []) (vs := [_]) rfl rfl fun_15 (w_rcheck hS hn) rfl rfl ?_
  refine XO_v0 (ev_assign rfl) rfl rfl rfl ?_
  refine XO_nil ?_
  refine at_then ?_
  refine X_seq ?_
  refine X_seq ?_
  refine X_region ?_
  refine XO_v0 (ev_move rfl) rfl rfl rfl ?_
  refine XO_v0 (ev_cmp rfl rfl rfl) rfl rfl rfl ?_
  refine XO_nil ?_
  refine at_then ?_
  refine X_cond rfl (fun hc11 => ?_) (fun hc11 => ?_)
  · skip
    refine X_seq ?_
    refine X_region ?_
    refine XO_v0 (ev_move rfl) rfl rfl rfl ?_
    refine XO_v0 (ev_assign rfl) rfl rfl rfl ?_
    refine XO_nil ?_
    refine at_then ?_
    refine X_ret ?_
    refine at_then_r ?_
    exact at_ret1 rfl rfl (fun w hw => ⟨by unfold askedF; simp_all, hw.drop⟩)
  · skip
    refine X_skip ?_
    refine at_then ?_
    refine X_seq ?_
    refine X_seq ?_
    refine X_region ?_
    refine XO_v0 (ev_move rfl) rfl rfl rfl ?_
    refine XO_callV0 (cap := []) (vs := [_, _, _]) rfl rfl fun_35 (w_rwithin _ _ _ _) rfl rfl ?_
    refine XO_v0 (ev_not rfl) rfl rfl rfl ?_
    refine XO_v0 (ev_move rfl) rfl rfl rfl ?_
    refine XO_pushF 3 rfl rfl rfl ?_
    refine XO_v1 (ev_move rfl) (.some rfl rfl rfl rfl gbf) rfl rfl rfl ?_
    refine XO_callV1 (cap := []) (vs := [_, _, _]) rfl rfl fun_35 (fun hg => w_rwithin _ _ _ _) (.some rfl rfl rfl rfl gbf) rfl rfl ?_
    refine XO_v1 (ev_not rfl) (.some rfl rfl rfl rfl gbf) rfl rfl rfl ?_
    refine XO_or0 rfl rfl rfl rfl rfl ?_
    refine XO_nil ?_
    refine at_then ?_
    refine X_cond rfl (fun hc20 => ?_) (fun hc20 => ?_)
    · skip
      refine X_seq ?_
      refine X_region ?_
      refine XO_v0 (ev_assign rfl) rfl rfl rfl ?_
      refine XO_nil ?_
      refine at_then ?_
      refine X_ret ?_
      refine at_then_r ?_
      exact at_ret1 rfl rfl (fun w hw => ⟨by unfold askedF; simp_all, hw.drop⟩)
    · skip
      refine X_skip ?_
      refine at_then ?_
      refine X_seq ?_
      refine X_region ?_
      refine XO_v0 (ev_assign rfl) rfl rfl rfl ?_
      refine XO_nil ?_
      refine at_then ?_
      refine X_ret ?_
      exact at_ret1 rfl rfl (fun w hw => ⟨by unfold askedF; simp_all, hw.drop⟩)

theorem w_sameI {I : HMap} {av bv : Option Addr} {n c q e : Nat} {xs ys : List Int} (hS : Sl I 1 encI av n c xs) (hT : Sl I 1 encI bv q e ys) (hn : n ≤ 100000) : RetV Try.prog 23 [.slice av n c, .slice bv q e] I (.bool (sameF xs ys)) := by
  intro g H w hw
  refine enter Try.func23 rfl Try.ntmps23 rfl hw ?_
  refine X_seq ?_
  refine X_region ?_
  refine XO_v0 (ev_assign rfl) rfl rfl rfl ?_
  refine XO_nil ?_
  refine at_then ?_
  refine X_seq ?_
  refine X_seq ?_
  refine X_region ?_
  refine XO_v0 (ev_move rfl) rfl rfl rfl ?_
  refine XO_v0 (ev_lenS rfl slt_31) rfl rfl rfl ?_
  refine XO_v0 (ev_move rfl) rfl rfl rfl ?_
  refine XO_v0 (ev_lenS rfl slt_31) rfl rfl rfl ?_
  refine XO_v0 (ev_cmp rfl rfl rfl) rfl rfl rfl ?_
  refine XO_nil ?_
  refine at_then ?_
  refine X_cond rfl (fun hc10 => ?_) (fun hc10 => ?_)
  · skip
    have hne : ¬ n = q := by simp at hc10; omega
    refine X_seq ?_
    refine X_region ?_
    refine XO_v0 (ev_assign rfl) rfl rfl rfl ?_
    refine XO_nil ?_
    refine at_then ?_
    refine X_ret ?_
    refine at_then_r ?_
    exact at_ret1 rfl rfl (fun w hw => ⟨by unfold sameF; first | (rw [decide_eq_true hfin]) | (rw [decide_eq_false (fun e => hne (by rw [← hS.len, ← hT.len, e]))]) | (rw [decide_eq_false (fun e => by subst e; rw [hx] at hy; cases hy; simp [strEq_self] at hc25)]), hw.drop⟩)
  · skip
    have hnm : n = q := by simp at hc10; omega
    refine X_skip ?_
    refine at_then ?_
    refine X_cut (fun E I' loc' => E = [(0, .slice av n c), (1, .slice bv q e)] ∧ I' = I ∧ loc' = [] ∧ xs = ys) ?_ ?_
    · skip
      refine X_seq ?_
      refine X_region ?_
      refine XO_v0 (ev_assign rfl) rfl rfl rfl ?_
      refine XO_nil ?_
      refine at_then ?_
      refine X_block ?_
      refine X_loop (fun m E I' loc' => ∃ k : Nat, m = n - k ∧ E = [(0, .slice av n c), (1, .slice bv q e), (5, .int .i64 k)] ∧ I' = I ∧ loc' = [] ∧ k ≤ n ∧ xs.take k = ys.take k) _ _ _ _ ⟨0, rfl, rfl, rfl, rfl, Nat.zero_le _, rfl⟩ (.cons rfl (.cons rfl (.cons rfl .nil))) (HLe.refl _) rfl ?_
      rintro m E I' loc' ⟨k, rfl, rfl, rfl, rfl, hk, hinv⟩
      refine X_seq ?_
      refine X_seq ?_
      refine X_region ?_
      refine XO_v0 (ev_move rfl) rfl rfl rfl ?_
      refine XO_v0 (ev_move rfl) rfl rfl rfl ?_
      refine XO_v0 (ev_lenS rfl slt_31) rfl rfl rfl ?_
      refine XO_v0 (ev_cmp rfl rfl rfl) rfl rfl rfl ?_
      refine XO_nil ?_
      refine at_then ?_
      refine X_cond rfl (fun hc14 => ?_) (fun hc14 => ?_)
      · skip
        have hlt : k < n := by simpa using hc14
        obtain ⟨x, hx⟩ := hS.at hlt
        obtain ⟨y, hy⟩ := hT.at (show k < q by omega)
        refine X_skip ?_
        refine at_then ?_
        refine X_seq ?_
        refine X_block ?_
        refine X_seq ?_
        refine X_draw mixed (by kernel_rfl) ?_
        refine XQ_v0 (ev_move rfl) rfl rfl rfl ?_
        refine XQ_v0 (ev_move rfl) rfl rfl rfl ?_
        refine XQ_v0 (ev_indexSl rfl rfl slt_31 hS (fun hg => by omega)) rfl rfl rfl ?_
        refine XQ_v0 (ev_load rfl sct_3 (fun hg => by first | exact Sl.get0 hS hx rfl | exact Sl.get0 hT hy rfl | exact Cell.h0 rfl | exact Cell.h1 rfl | exact Cell.h2 rfl | exact Cell.h3 rfl | exact Cell.h4 rfl | exact Cell.h5 rfl)) rfl rfl rfl ?_
        refine XQ_v0 (ev_move rfl) rfl rfl rfl ?_
        refine XQ_v0 (ev_move rfl) rfl rfl rfl ?_
        refine XQ_v0 (ev_indexSl rfl rfl slt_31 hT (fun hg => by omega)) rfl rfl rfl ?_
        refine XQ_v0 (ev_load rfl sct_3 (fun hg => by first | exact Sl.get0 hS hx rfl | exact Sl.get0 hT hy rfl | exact Cell.h0 rfl | exact Cell.h1 rfl | exact Cell.h2 rfl | exact Cell.h3 rfl | exact Cell.h4 rfl | exact Cell.h5 rfl)) rfl rfl rfl ?_
        refine XQ_v0 (ev_cmp rfl rfl rfl) rfl rfl rfl ?_
        refine XQ_nil ?_
        refine at_then ?_
        refine X_cond rfl (fun hc25 => ?_) (fun hc25 => ?_)
        · skip
          refine X_seq ?_
          refine X_region ?_
          refine XO_v0 (ev_assign rfl) rfl rfl rfl ?_
          refine XO_nil ?_
          refine at_then ?_
          refine X_ret ?_
          refine at_block_r ?_
          refine at_then_r ?_
          refine at_then_r ?_
          refine at_block_r ?_
          refine at_then_r ?_
          exact at_ret1 rfl rfl (fun w hw => ⟨by unfold sameF; first | (rw [decide_eq_true hfin]) | (rw [decide_eq_false (fun e => hne (by rw [← hS.len, ← hT.len, e]))]) | (rw [decide_eq_false (fun e => by subst e; rw [hx] at hy; cases hy; simp [strEq_self] at hc25)]), hw.drop⟩)
        · skip
          refine X_skip ?_
          refine at_block_n ?_
          refine at_then ?_
          refine X_region ?_
          refine XO_v0 (ev_move rfl) rfl rfl rfl ?_
          refine XO_v0 (ev_arB rfl rfl rfl (fun _ => by omega)) rfl rfl rfl ?_
          refine XO_v0 (ev_assign rfl) rfl rfl rfl ?_
          refine XO_nil ?_
          exact at_met' _ ⟨n - (k + 1), by omega, k + 1, rfl, rfl, rfl, rfl, by omega, eq_step hx hy hinv (by simpa using hc25)⟩ (.cons rfl (.cons rfl (.cons rfl .nil)))
      · skip
        have hge : n ≤ k := by simpa using hc14
        refine X_exit ?_
        refine at_then_e ?_
        refine at_then_e ?_
        refine at_block_hit ?_
        exact at_met' _ ⟨rfl, rfl, rfl, eq_end hinv (by rw [hS.len]; omega) (by rw [hT.len]; omega)⟩ (.cons rfl (.cons rfl .nil))
    · rintro E I' loc' ⟨rfl, rfl, rfl, hfin⟩
      refine X_seq ?_
      refine X_region ?_
      refine XO_v0 (ev_assign rfl) rfl rfl rfl ?_
      refine XO_nil ?_
      refine at_then ?_
      refine X_ret ?_
      exact at_ret1 rfl rfl (fun w hw => ⟨by unfold sameF; first | (rw [decide_eq_true hfin]) | (rw [decide_eq_false (fun e => hne (by rw [← hS.len, ← hT.len, e]))]) | (rw [decide_eq_false (fun e => by subst e; rw [hx] at hy; cases hy; simp [strEq_self] at hc25)]), hw.drop⟩)

theorem w_sameP {I : HMap} {av bv : Option Addr} {n c q e : Nat} {xs ys : List (Int × Int)} (hS : Sl I 2 encP av n c xs) (hT : Sl I 2 encP bv q e ys) (hn : n ≤ 100000) : RetV Try.prog 24 [.slice av n c, .slice bv q e] I (.bool (sameF xs ys)) := by
  intro g H w hw
  refine enter Try.func24 rfl Try.ntmps24 rfl hw ?_
  refine X_seq ?_
  refine X_region ?_
  refine XO_v0 (ev_assign rfl) rfl rfl rfl ?_
  refine XO_nil ?_
  refine at_then ?_
  refine X_seq ?_
  refine X_seq ?_
  refine X_region ?_
  refine XO_v0 (ev_move rfl) rfl rfl rfl ?_
  refine XO_v0 (ev_lenS rfl slt_38) rfl rfl rfl ?_
  refine XO_v0 (ev_move rfl) rfl rfl rfl ?_
  refine XO_v0 (ev_lenS rfl slt_38) rfl rfl rfl ?_
  refine XO_v0 (ev_cmp rfl rfl rfl) rfl rfl rfl ?_
  refine XO_nil ?_
  refine at_then ?_
  refine X_cond rfl (fun hc10 => ?_) (fun hc10 => ?_)
  · skip
    have hne : ¬ n = q := by simp at hc10; omega
    refine X_seq ?_
    refine X_region ?_
    refine XO_v0 (ev_assign rfl) rfl rfl rfl ?_
    refine XO_nil ?_
    refine at_then ?_
    refine X_ret ?_
    refine at_then_r ?_
    exact at_ret1 rfl rfl (fun w hw => ⟨by unfold sameF; first | (rw [decide_eq_true hfin]) | (rw [decide_eq_false (fun e => hne (by rw [← hS.len, ← hT.len, e]))]) | (rw [decide_eq_false (fun e => by subst e; rw [hx] at hy; cases hy; simp [strEq_self] at hc25)]), hw.drop⟩)
  · skip
    have hnm : n = q := by simp at hc10; omega
    refine X_skip ?_
    refine at_then ?_
    refine X_cut (fun E I' loc' => E = [(0, .slice av n c), (1, .slice bv q e)] ∧ I' = I ∧ loc' = [] ∧ xs = ys) ?_ ?_
    · skip
      refine X_seq ?_
      refine X_region ?_
      refine XO_v0 (ev_assign rfl) rfl rfl rfl ?_
      refine XO_nil ?_
      refine at_then ?_
      refine X_block ?_
      refine X_loop (fun m E I' loc' => ∃ k : Nat, m = n - k ∧ E = [(0, .slice av n c), (1, .slice bv q e), (5, .int .i64 k)] ∧ I' = I ∧ loc' = [] ∧ k ≤ n ∧ xs.take k = ys.take k) _ _ _ _ ⟨0, rfl, rfl, rfl, rfl, Nat.zero_le _, rfl⟩ (.cons rfl (.cons rfl (.cons rfl .nil))) (HLe.refl _) rfl ?_
      rintro m E I' loc' ⟨k, rfl, rfl, rfl, rfl, hk, hinv⟩
      refine X_seq ?_
      refine X_seq ?_
      refine X_region ?_
      refine XO_v0 (ev_move rfl) rfl rfl rfl ?_
      refine XO_v0 (ev_move rfl) rfl rfl rfl ?_
      refine XO_v0 (ev_lenS rfl slt_38) rfl rfl rfl ?_
      refine XO_v0 (ev_cmp rfl rfl rfl) rfl rfl rfl ?_
      refine XO_nil ?_
      refine at_then ?_
      refine X_cond rfl (fun hc14 => ?_) (fun hc14 => ?_)
      · skip
        have hlt : k < n := by simpa using hc14
        obtain ⟨x, hx⟩ := hS.at hlt
        obtain ⟨y, hy⟩ := hT.at (show k < q by omega)
        refine X_skip ?_
        refine at_then ?_
        refine X_seq ?_
        refine X_block ?_
        refine X_seq ?_
        refine X_draw mixed (by kernel_rfl) ?_
        refine XQ_v0 (ev_move rfl) rfl rfl rfl ?_
        refine XQ_v0 (ev_move rfl) rfl rfl rfl ?_
        refine XQ_v0 (ev_indexSl rfl rfl slt_38 hS (fun hg => by omega)) rfl rfl rfl ?_
        refine XQ_v0 (ev_loadA rfl agt_46 (fun _ => by first | exact Sl.getA hS hx | exact Sl.getA hT hy | exact Cells.g0 | exact Cells.g1 | exact Cells.g2 | exact Cells.g3 | exact Cells.g4 | exact Cells.g5) rfl) rfl rfl rfl ?_
        refine XQ_v0 (ev_move rfl) rfl rfl rfl ?_
        refine XQ_v0 (ev_move rfl) rfl rfl rfl ?_
        refine XQ_v0 (ev_indexSl rfl rfl slt_38 hT (fun hg => by omega)) rfl rfl rfl ?_
        refine XQ_v0 (ev_loadA rfl agt_46 (fun _ => by first | exact Sl.getA hS hx | exact Sl.getA hT hy | exact Cells.g0 | exact Cells.g1 | exact Cells.g2 | exact Cells.g3 | exact Cells.g4 | exact Cells.g5) rfl) rfl rfl rfl ?_
        refine XQ_v0 (ev_neA2 rfl rfl ar2_46) rfl rfl rfl ?_
        refine XQ_nil ?_
        refine at_then ?_
        refine X_cond rfl (fun hc25 => ?_) (fun hc25 => ?_)
        · skip
          refine X_seq ?_
          refine X_region ?_
          refine XO_v0 (ev_assign rfl) rfl rfl rfl ?_
          refine XO_nil ?_
          refine at_then ?_
          refine X_ret ?_
          refine at_block_r ?_
          refine at_then_r ?_
          refine at_then_r ?_
          refine at_block_r ?_
          refine at_then_r ?_
          exact at_ret1 rfl rfl (fun w hw => ⟨by unfold sameF; first | (rw [decide_eq_true hfin]) | (rw [decide_eq_false (fun e => hne (by rw [← hS.len, ← hT.len, e]))]) | (rw [decide_eq_false (fun e => by subst e; rw [hx] at hy; cases hy; simp [strEq_self] at hc25)]), hw.drop⟩)
        · skip
          refine X_skip ?_
          refine at_block_n ?_
          refine at_then ?_
          refine X_region ?_
          refine XO_v0 (ev_move rfl) rfl rfl rfl ?_
          refine XO_v0 (ev_arB rfl rfl rfl (fun _ => by omega)) rfl rfl rfl ?_
          refine XO_v0 (ev_assign rfl) rfl rfl rfl ?_
          refine XO_nil ?_
          exact at_met' _ ⟨n - (k + 1), by omega, k + 1, rfl, rfl, rfl, rfl, by omega, eq_step hx hy hinv (by cases x; cases y; simpa using hc25)⟩ (.cons rfl (.cons rfl (.cons rfl .nil)))
      · skip
        have hge : n ≤ k := by simpa using hc14
        refine X_exit ?_
        refine at_then_e ?_
        refine at_then_e ?_
        refine at_block_hit ?_
        exact at_met' _ ⟨rfl, rfl, rfl, eq_end hinv (by rw [hS.len]; omega) (by rw [hT.len]; omega)⟩ (.cons rfl (.cons rfl .nil))
    · rintro E I' loc' ⟨rfl, rfl, rfl, hfin⟩
      refine X_seq ?_
      refine X_region ?_
      refine XO_v0 (ev_assign rfl) rfl rfl rfl ?_
      refine XO_nil ?_
      refine at_then ?_
      refine X_ret ?_
      exact at_ret1 rfl rfl (fun w hw => ⟨by unfold sameF; first | (rw [decide_eq_true hfin]) | (rw [decide_eq_false (fun e => hne (by rw [← hS.len, ← hT.len, e]))]) | (rw [decide_eq_false (fun e => by subst e; rw [hx] at hy; cases hy; simp [strEq_self] at hc25)]), hw.drop⟩)

theorem w_same {I : HMap} {av bv : Option Addr} {n c q e : Nat} {xs ys : List Rt} (hS : Sl I 11 encR av n c xs) (hT : Sl I 11 encR bv q e ys) (hn : n ≤ 100000) : RetV Try.prog 16 [.slice av n c, .slice bv q e] I (.bool (sameF xs ys)) := by
  intro g H w hw
  refine enter Try.func16 rfl Try.ntmps16 rfl hw ?_
  refine X_seq ?_
  refine X_region ?_
  refine XO_v0 (ev_assign rfl) rfl rfl rfl ?_
  refine XO_nil ?_
  refine at_then ?_
  refine X_seq ?_
  refine X_seq ?_
  refine X_region ?_
  refine XO_v0 (ev_move rfl) rfl rfl rfl ?_
  refine XO_v0 (ev_lenS rfl slt_22) rfl rfl rfl ?_
  refine XO_v0 (ev_move rfl) rfl rfl rfl ?_
  refine XO_v0 (ev_lenS rfl slt_22) rfl rfl rfl ?_
  refine XO_v0 (ev_cmp rfl rfl rfl) rfl rfl rfl ?_
  refine XO_nil ?_
  refine at_then ?_
  refine X_cond rfl (fun hc10 => ?_) (fun hc10 => ?_)
  · skip
    have hne : ¬ n = q := by simp at hc10; omega
    refine X_seq ?_
    refine X_region ?_
    refine XO_v0 (ev_assign rfl) rfl rfl rfl ?_
    refine XO_nil ?_
    refine at_then ?_
    refine X_ret ?_
    refine at_then_r ?_
    exact at_ret1 rfl rfl (fun w hw => ⟨by unfold sameF; first | (rw [decide_eq_true hfin]) | (rw [decide_eq_false (fun e => hne (by rw [← hS.len, ← hT.len, e]))]) | (rw [decide_eq_false (fun e => by subst e; rw [hx] at hy; cases hy; simp [strEq_self] at hc25)]), hw.drop⟩)
  · skip
    have hnm : n = q := by simp at hc10; omega
    refine X_skip ?_
    refine at_then ?_
    refine X_cut (fun E I' loc' => E = [(0, .slice av n c), (1, .slice bv q e)] ∧ I' = I ∧ loc' = [] ∧ xs = ys) ?_ ?_
    · skip
      refine X_seq ?_
      refine X_region ?_
      refine XO_v0 (ev_assign rfl) rfl rfl rfl ?_
      refine XO_nil ?_
      refine at_then ?_
      refine X_block ?_
      refine X_loop (fun m E I' loc' => ∃ k : Nat, m = n - k ∧ E = [(0, .slice av n c), (1, .slice bv q e), (5, .int .i64 k)] ∧ I' = I ∧ loc' = [] ∧ k ≤ n ∧ xs.take k = ys.take k) _ _ _ _ ⟨0, rfl, rfl, rfl, rfl, Nat.zero_le _, rfl⟩ (.cons rfl (.cons rfl (.cons rfl .nil))) (HLe.refl _) rfl ?_
      rintro m E I' loc' ⟨k, rfl, rfl, rfl, rfl, hk, hinv⟩
      refine X_seq ?_
      refine X_seq ?_
      refine X_region ?_
      refine XO_v0 (ev_move rfl) rfl rfl rfl ?_
      refine XO_v0 (ev_move rfl) rfl rfl rfl ?_
      refine XO_v0 (ev_lenS rfl slt_22) rfl rfl rfl ?_
      refine XO_v0 (ev_cmp rfl rfl rfl) rfl rfl rfl ?_
      refine XO_nil ?_
      refine at_then ?_
      refine X_cond rfl (fun hc14 => ?_) (fun hc14 => ?_)
      · skip
        have hlt : k < n := by simpa using hc14
        obtain ⟨x, hx⟩ := hS.at hlt
        obtain ⟨y, hy⟩ := hT.at (show k < q by omega)
        refine X_skip ?_
        refine at_then ?_
        refine X_seq ?_
        refine X_block ?_
        refine X_seq ?_
        refine X_draw mixed (by kernel_rfl) ?_
        refine XQ_v0 (ev_move rfl) rfl rfl rfl ?_
        refine XQ_v0 (ev_move rfl) rfl rfl rfl ?_
        refine XQ_v0 (ev_indexSl rfl rfl slt_22 hS (fun hg => by omega)) rfl rfl rfl ?_
        refine XQ_v0 (ev_loadA rfl agt_45 (fun _ => by first | exact Sl.getA hS hx | exact Sl.getA hT hy | exact Cells.g0 | exact Cells.g1 | exact Cells.g2 | exact Cells.g3 | exact Cells.g4 | exact Cells.g5) rfl) rfl rfl rfl ?_
        refine XQ_v0 (ev_move rfl) rfl rfl rfl ?_
        refine XQ_v0 (ev_move rfl) rfl rfl rfl ?_
        refine XQ_v0 (ev_indexSl rfl rfl slt_22 hT (fun hg => by omega)) rfl rfl rfl ?_
        refine XQ_v0 (ev_loadA rfl agt_45 (fun _ => by first | exact Sl.getA hS hx | exact Sl.getA hT hy | exact Cells.g0 | exact Cells.g1 | exact Cells.g2 | exact Cells.g3 | exact Cells.g4 | exact Cells.g5) rfl) rfl rfl rfl ?_
        refine XQ_v0 (ev_neS rfl rfl eqt_45 rfl) rfl rfl rfl ?_
        refine XQ_nil ?_
        refine at_then ?_
        refine X_cond rfl (fun hc25 => ?_) (fun hc25 => ?_)
        · skip
          refine X_seq ?_
          refine X_region ?_
          refine XO_v0 (ev_assign rfl) rfl rfl rfl ?_
          refine XO_nil ?_
          refine at_then ?_
          refine X_ret ?_
          refine at_block_r ?_
          refine at_then_r ?_
          refine at_then_r ?_
          refine at_block_r ?_
          refine at_then_r ?_
          exact at_ret1 rfl rfl (fun w hw => ⟨by unfold sameF; first | (rw [decide_eq_true hfin]) | (rw [decide_eq_false (fun e => hne (by rw [← hS.len, ← hT.len, e]))]) | (rw [decide_eq_false (fun e => by subst e; rw [hx] at hy; cases hy; simp [strEq_self] at hc25)]), hw.drop⟩)
        · skip
          refine X_skip ?_
          refine at_block_n ?_
          refine at_then ?_
          refine X_region ?_
          refine XO_v0 (ev_move rfl) rfl rfl rfl ?_
          refine XO_v0 (ev_arB rfl rfl rfl (fun _ => by omega)) rfl rfl rfl ?_
          refine XO_v0 (ev_assign rfl) rfl rfl rfl ?_
          refine XO_nil ?_
          exact at_met' _ ⟨n - (k + 1), by omega, k + 1, rfl, rfl, rfl, rfl, by omega, eq_step hx hy hinv (rtEq_iff.1 (by simpa [rtEq] using hc25))⟩ (.cons rfl (.cons rfl (.cons rfl .nil)))
      · skip
        have hge : n ≤ k := by simpa using hc14
        refine X_exit ?_
        refine at_then_e ?_
        refine at_then_e ?_
        refine at_block_hit ?_
        exact at_met' _ ⟨rfl, rfl, rfl, eq_end hinv (by rw [hS.len]; omega) (by rw [hT.len]; omega)⟩ (.cons rfl (.cons rfl .nil))
    · rintro E I' loc' ⟨rfl, rfl, rfl, hfin⟩
      refine X_seq ?_
      refine X_region ?_
      refine XO_v0 (ev_assign rfl) rfl rfl rfl ?_
      refine XO_nil ?_
      refine at_then ?_
      refine X_ret ?_
      exact at_ret1 rfl rfl (fun w hw => ⟨by unfold sameF; first | (rw [decide_eq_true hfin]) | (rw [decide_eq_false (fun e => hne (by rw [← hS.len, ← hT.len, e]))]) | (rw [decide_eq_false (fun e => by subst e; rw [hx] at hy; cases hy; simp [strEq_self] at hc25)]), hw.drop⟩)
end Go.Proofs.Ytmflfccincbnaaa
