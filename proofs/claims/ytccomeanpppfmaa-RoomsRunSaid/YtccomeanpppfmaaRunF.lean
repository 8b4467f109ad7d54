/- roomsRun_holds, part F of the proof: what its theorems say holds without further conditions. -/
import Derived.ProofKit
import Derived.Deep.Slices
import Derived.Test.YtccomeanpppfmaaRows
import Derived.Test.YtccomeanpppfmaaRunE
section
namespace Go.Proofs.Ytccomeanpppfmaa
open Go Go.Kn Go.Proofs
theorem key_next {xs ys : List Cf} {k : Nat} {x y : Cf} (hx : xs[k]? = some x) (hy : ys[k]? = some y) (he : (xs.take k).map Cf.key = (ys.take k).map Cf.key) (h : x.key = y.key) : (xs.take (k + 1)).map Cf.key = (ys.take (k + 1)).map Cf.key := by
  rw [take_snoc hx, take_snoc hy, List.map_append, List.map_append, he]; simp [h]
theorem key_ne {xs ys : List Cf} {k : Nat} {x y : Cf} (hx : xs[k]? = some x) (hy : ys[k]? = some y) (h : x.key ≠ y.key) : sameF (xs.map Cf.key) (ys.map Cf.key) = false := same_ne (k := k) (x := x.key) (y := y.key) (by simp [hx]) (by simp [hy]) h
theorem w_has {I : HMap} {av : Option Addr} {n c : Nat} {xs : List Int} (hS : Sl I 1 encI av n c xs) (hn : n ≤ 100000) (t : Int) : RetV Try.prog 13 [.slice av n c, .int .i64 t] I (.bool (xs.any fun x => x == t)) := by
  intro g H w hw
  refine enter Try.func13 rfl Try.ntmps13 rfl hw ?_
  refine X_seq ?_
  refine X_region ?_
  refine XO_v0 (ev_assign rfl) rfl rfl rfl ?_
  refine XO_nil ?_
  refine at_then ?_
  refine X_seq ?_
  refine X_seq ?_
  refine X_region ?_
  refine XO_v0 (ev_move rfl) rfl rfl rfl ?_
  refine XO_v0 (ev_lenS rfl slt_23) rfl rfl rfl ?_
  refine XO_v0 (ev_move rfl) rfl rfl rfl ?_
  refine XO_nil ?_
  refine at_then ?_
  refine X_block ?_
  refine X_loopT [(1, _), (7, _), (8, _)] (.cons rfl (.cons rfl (.cons rfl .nil))) (fun T L0 mz E I' loc' => ∃ (k : Nat), mz = n - k ∧ E = (9, .int .i64 k) :: T ∧ I = I' ∧ L0 = loc' ∧ k ≤ n ∧ (xs.take k).any (fun x => x == t) = false) _ _ _ _ ⟨0, rfl, rfl, rfl, rfl, Nat.zero_le _, rfl⟩ (.cons rfl (.cons rfl (.cons rfl (.cons rfl .nil)))) (HLe.refl _) rfl ?_
  rintro mz E I' loc' ⟨k, rfl, rfl, rfl, rfl, hk, hno⟩
  refine X_seq ?_
  refine X_region ?_
  refine XO_v0 (ev_cmp rfl rfl rfl) rfl rfl rfl ?_
  refine XO_nil ?_
  refine at_then ?_
  refine X_seq ?_
  refine X_cond rfl (fun hc10 => ?_) (fun hc10 => ?_)
  · skip
    have hlt_k : k < n := by have h := hc10; simp at h; omega
    obtain ⟨x, hx⟩ := hS.at hlt_k
    refine X_skip ?_
    refine at_then ?_
    refine X_seq ?_
    refine X_block ?_
    refine X_seq ?_
    refine X_region ?_
    refine XO_v0 (ev_indexSl rfl rfl slt_23 (by assumption) (fun hg => by first | omega | (simp [conj] at hg; omega))) rfl rfl rfl ?_
    refine XO_v0 (ev_load rfl sct_3 (fun hg => by first | exact Sl.get0 hS hx rfl | exact Cell.h0 rfl | exact Cell.h1 rfl | exact Cell.h2 rfl | exact Cell.h3 rfl | exact Cell.h4 rfl | exact Cell.h5 rfl | (repeat (first | exact Cell.here rfl | apply Cell.there | apply Cell.app)))) rfl rfl rfl ?_
    refine XO_v0 (ev_assign rfl) rfl rfl rfl ?_
    refine XO_nil ?_
    refine at_then ?_
    refine X_seq ?_
    refine X_region ?_
    refine XO_v0 (ev_move rfl) rfl rfl rfl ?_
    refine XO_v0 (ev_move rfl) rfl rfl rfl ?_
    refine XO_v0 (ev_cmp rfl rfl rfl) rfl rfl rfl ?_
    refine XO_nil ?_
    refine at_then ?_
    refine X_cond rfl (fun hc15 => ?_) (fun hc15 => ?_)
    · skip
      refine X_seq ?_
      refine X_region ?_
      refine XO_v0 (ev_assign rfl) rfl rfl rfl ?_
      refine XO_nil ?_
      refine at_then ?_
      refine X_ret ?_
      refine at_block_r ?_
      refine at_then_r ?_
      refine at_then_r ?_
      refine at_block_r ?_
      refine at_then_r ?_
      first
      | exact at_ret1 rfl rfl (fun w hw => ⟨by rw [any_yes hx hc15], hw.drop⟩)
      | exact at_ret1 rfl rfl (fun w hw => ⟨by rw [take_all hS.len hge_k] at hno; rw [hno], hw.drop⟩)
    · skip
      refine X_skip ?_
      refine at_block_n ?_
      refine at_then ?_
      refine X_region ?_
      refine XO_v0 (ev_arB rfl rfl rfl (fun _ => by omega)) rfl rfl rfl ?_
      refine XO_v0 (ev_move rfl) rfl rfl rfl ?_
      refine XO_nil ?_
      exact at_met2 _ _ ⟨n - (k + 1), by omega, k + 1, rfl, rfl, rfl, rfl, by omega, any_no hx hno hc15⟩ (.cons rfl (.cons rfl (.cons rfl (.cons rfl .nil)))) (by repeat (first | exact .refl | exact subL_left | refine subL_app ?_ | refine .drop ?_ | refine subL_add ?_))
  · skip
    have hge_k : n ≤ k := by have h := hc10; simp at h; omega
    refine X_exit ?_
    refine at_then_e ?_
    refine at_then_e ?_
    refine at_block_hit ?_
    refine at_then ?_
    refine X_seq ?_
    refine X_region ?_
    refine XO_v0 (ev_assign rfl) rfl rfl rfl ?_
    refine XO_nil ?_
    refine at_then ?_
    refine X_ret ?_
    first
    | exact at_ret1 rfl rfl (fun w hw => ⟨by rw [any_yes hx hc15], hw.drop⟩)
    | exact at_ret1 rfl rfl (fun w hw => ⟨by rw [take_all hS.len hge_k] at hno; rw [hno], hw.drop⟩)
theorem w_sameI {I : HMap} {av : Option Addr} {n c : Nat} {xs : List Int} (hS : Sl I 1 encI av n c xs) (hn : n ≤ 100000) {bv : Option Addr} {n2 c2 : Nat} {ys : List Int} (hT : Sl I 1 encI bv n2 c2 ys) : RetV Try.prog 12 [.slice av n c, .slice bv n2 c2] I (.bool (sameF xs ys)) := by
  intro g H w hw
  refine enter Try.func12 rfl Try.ntmps12 rfl hw ?_
  refine X_seq ?_
  refine X_region ?_
  refine XO_v0 (ev_assign rfl) rfl rfl rfl ?_
  refine XO_nil ?_
  refine at_then ?_
  refine X_seq ?_
  refine X_seq ?_
  refine X_region ?_
  refine XO_v0 (ev_move rfl) rfl rfl rfl ?_
  refine XO_v0 (ev_lenS rfl slt_23) rfl rfl rfl ?_
  refine XO_v0 (ev_move rfl) rfl rfl rfl ?_
  refine XO_v0 (ev_lenS rfl slt_23) rfl rfl rfl ?_
  refine XO_v0 (ev_cmp rfl rfl rfl) rfl rfl rfl ?_
  refine XO_nil ?_
  refine at_then ?_
  refine X_cond rfl (fun hc10 => ?_) (fun hc10 => ?_)
  · skip
    refine X_seq ?_
    refine X_region ?_
    refine XO_v0 (ev_assign rfl) rfl rfl rfl ?_
    refine XO_nil ?_
    refine at_then ?_
    refine X_ret ?_
    refine at_then_r ?_
    first
    | exact at_ret1 rfl rfl (fun w hw => ⟨by rw [same_len hS.len hT.len (by simp at hc10; omega)], hw.drop⟩)
    | exact at_ret1 rfl rfl (fun w hw => ⟨by rw [same_ne hx hy (by simpa using hc25)], hw.drop⟩)
    | exact at_ret1 rfl rfl (fun w hw => ⟨by rw [take_all hS.len (by omega), take_all hT.len (by omega)] at he; rw [he, same_self], hw.drop⟩)
  · skip
    have hnn : n = n2 := by simp at hc10; omega
    refine X_skip ?_
    refine at_then ?_
    refine X_seq ?_
    refine X_seq ?_
    refine X_region ?_
    refine XO_v0 (ev_assign rfl) rfl rfl rfl ?_
    refine XO_nil ?_
    refine at_then ?_
    refine X_block ?_
    refine X_loopT [(0, _), (1, _)] (.cons rfl (.cons rfl .nil)) (fun T L0 mz E I' loc' => ∃ (k : Nat), mz = n - k ∧ E = (5, .int .i64 k) :: T ∧ I = I' ∧ L0 = loc' ∧ k ≤ n ∧ xs.take k = ys.take k) _ _ _ _ ⟨0, rfl, rfl, rfl, rfl, Nat.zero_le _, rfl⟩ (.cons rfl (.cons rfl (.cons rfl .nil))) (HLe.refl _) rfl ?_
    rintro mz E I' loc' ⟨k, rfl, rfl, rfl, rfl, hk, he⟩
    refine X_seq ?_
    refine X_seq ?_
    refine X_region ?_
    refine XO_v0 (ev_move rfl) rfl rfl rfl ?_
    refine XO_v0 (ev_move rfl) rfl rfl rfl ?_
    refine XO_v0 (ev_lenS rfl slt_23) rfl rfl rfl ?_
    refine XO_v0 (ev_cmp rfl rfl rfl) rfl rfl rfl ?_
    refine XO_nil ?_
    refine at_then ?_
    refine X_cond rfl (fun hc14 => ?_) (fun hc14 => ?_)
    · skip
      have hlt_k : k < n := by have h := hc14; simp at h; omega
      obtain ⟨x, hx⟩ := hS.at hlt_k
      obtain ⟨y, hy⟩ := hT.at (show k < n2 by omega)
      refine X_skip ?_
      refine at_then ?_
      refine X_seq ?_
      refine X_block ?_
      refine X_seq ?_
      refine X_draw mixed (by kernel_rfl) ?_
      refine XQ_v0 (ev_move rfl) rfl rfl rfl ?_
      refine XQ_v0 (ev_move rfl) rfl rfl rfl ?_
      refine XQ_v0 (ev_indexSl rfl rfl slt_23 (by assumption) (fun hg => by first | omega | (simp [conj] at hg; omega))) rfl rfl rfl ?_
      refine XQ_v0 (ev_load rfl sct_3 (fun hg => by first | exact Sl.get0 hS hx rfl | exact Sl.get0 hT hy rfl | exact Cell.h0 rfl | exact Cell.h1 rfl | exact Cell.h2 rfl | exact Cell.h3 rfl | exact Cell.h4 rfl | exact Cell.h5 rfl | (repeat (first | exact Cell.here rfl | apply Cell.there | apply Cell.app)))) rfl rfl rfl ?_
      refine XQ_v0 (ev_move rfl) rfl rfl rfl ?_
      refine XQ_v0 (ev_move rfl) rfl rfl rfl ?_
      refine XQ_v0 (ev_indexSl rfl rfl slt_23 (by assumption) (fun hg => by first | omega | (simp [conj] at hg; omega))) rfl rfl rfl ?_
      refine XQ_v0 (ev_load rfl sct_3 (fun hg => by first | exact Sl.get0 hS hx rfl | exact Sl.get0 hT hy rfl | exact Cell.h0 rfl | exact Cell.h1 rfl | exact Cell.h2 rfl | exact Cell.h3 rfl | exact Cell.h4 rfl | exact Cell.h5 rfl | (repeat (first | exact Cell.here rfl | apply Cell.there | apply Cell.app)))) rfl rfl rfl ?_
      refine XQ_v0 (ev_cmp rfl rfl rfl) rfl rfl rfl ?_
      refine XQ_nil ?_
      refine at_then ?_
      refine X_cond rfl (fun hc25 => ?_) (fun hc25 => ?_)
      · skip
        refine X_seq ?_
        refine X_region ?_
        refine XO_v0 (ev_assign rfl) rfl rfl rfl ?_
        refine XO_nil ?_
        refine at_then ?_
        refine X_ret ?_
        refine at_block_r ?_
        refine at_then_r ?_
        refine at_then_r ?_
        refine at_block_r ?_
        refine at_then_r ?_
        first
        | exact at_ret1 rfl rfl (fun w hw => ⟨by rw [same_len hS.len hT.len (by simp at hc10; omega)], hw.drop⟩)
        | exact at_ret1 rfl rfl (fun w hw => ⟨by rw [same_ne hx hy (by simpa using hc25)], hw.drop⟩)
        | exact at_ret1 rfl rfl (fun w hw => ⟨by rw [take_all hS.len (by omega), take_all hT.len (by omega)] at he; rw [he, same_self], hw.drop⟩)
      · skip
        refine X_skip ?_
        refine at_block_n ?_
        refine at_then ?_
        refine X_region ?_
        refine XO_v0 (ev_move rfl) rfl rfl rfl ?_
        refine XO_v0 (ev_arB rfl rfl rfl (fun _ => by omega)) rfl rfl rfl ?_
        refine XO_v0 (ev_assign rfl) rfl rfl rfl ?_
        refine XO_nil ?_
        exact at_met2 _ _ ⟨n - (k + 1), by omega, k + 1, rfl, rfl, rfl, rfl, by omega, take_next hx hy he (by simpa using hc25)⟩ (.cons rfl (.cons rfl (.cons rfl .nil))) (by repeat (first | exact .refl | exact subL_left | refine subL_app ?_ | refine .drop ?_ | refine subL_add ?_))
    · skip
      have hge_k : n ≤ k := by have h := hc14; simp at h; omega
      refine X_exit ?_
      refine at_then_e ?_
      refine at_then_e ?_
      refine at_block_hit ?_
      refine at_then ?_
      refine X_seq ?_
      refine X_region ?_
      refine XO_v0 (ev_assign rfl) rfl rfl rfl ?_
      refine XO_nil ?_
      refine at_then ?_
      refine X_ret ?_
      first
      | exact at_ret1 rfl rfl (fun w hw => ⟨by rw [same_len hS.len hT.len (by simp at hc10; omega)], hw.drop⟩)
      | exact at_ret1 rfl rfl (fun w hw => ⟨by rw [same_ne hx hy (by simpa using hc25)], hw.drop⟩)
      | exact at_ret1 rfl rfl (fun w hw => ⟨by rw [take_all hS.len (by omega), take_all hT.len (by omega)] at he; rw [he, same_self], hw.drop⟩)
theorem w_sameG {I : HMap} {av : Option Addr} {n c : Nat} {xs : List Sg} (hS : Sl I 14 encG av n c xs) (hn : n ≤ 100000) {bv : Option Addr} {n2 c2 : Nat} {ys : List Sg} (hT : Sl I 14 encG bv n2 c2 ys) : RetV Try.prog 17 [.slice av n c, .slice bv n2 c2] I (.bool (sameF xs ys)) := by
  intro g H w hw
  refine enter Try.func17 rfl Try.ntmps17 rfl hw ?_
  refine X_seq ?_
  refine X_region ?_
  refine XO_v0 (ev_assign rfl) rfl rfl rfl ?_
  refine XO_nil ?_
  refine at_then ?_
  refine X_seq ?_
  refine X_seq ?_
  refine X_region ?_
  refine XO_v0 (ev_move rfl) rfl rfl rfl ?_
  refine XO_v0 (ev_lenS rfl slt_39) rfl rfl rfl ?_
  refine XO_v0 (ev_move rfl) rfl rfl rfl ?_
  refine XO_v0 (ev_lenS rfl slt_39) rfl rfl rfl ?_
  refine XO_v0 (ev_cmp rfl rfl rfl) rfl rfl rfl ?_
  refine XO_nil ?_
  refine at_then ?_
  refine X_cond rfl (fun hc10 => ?_) (fun hc10 => ?_)
  · skip
    refine X_seq ?_
    refine X_region ?_
    refine XO_v0 (ev_assign rfl) rfl rfl rfl ?_
    refine XO_nil ?_
    refine at_then ?_
    refine X_ret ?_
    refine at_then_r ?_
    first
    | exact at_ret1 rfl rfl (fun w hw => ⟨by rw [same_len hS.len hT.len (by simp at hc10; omega)], hw.drop⟩)
    | exact at_ret1 rfl rfl (fun w hw => ⟨by rw [same_ne hx hy (sgEq_no ((Bool.not_eq_true' _).mp hc25))], hw.drop⟩)
    | exact at_ret1 rfl rfl (fun w hw => ⟨by rw [take_all hS.len (by omega), take_all hT.len (by omega)] at he; rw [he, same_self], hw.drop⟩)
  · skip
    have hnn : n = n2 := by simp at hc10; omega
    refine X_skip ?_
    refine at_then ?_
    refine X_seq ?_
    refine X_seq ?_
    refine X_region ?_
    refine XO_v0 (ev_assign rfl) rfl rfl rfl ?_
    refine XO_nil ?_
    refine at_then ?_
    refine X_block ?_
    refine X_loopT [(0, _), (1, _)] (.cons rfl (.cons rfl .nil)) (fun T L0 mz E I' loc' => ∃ (k : Nat), mz = n - k ∧ E = (5, .int .i64 k) :: T ∧ I = I' ∧ L0 = loc' ∧ k ≤ n ∧ xs.take k = ys.take k) _ _ _ _ ⟨0, rfl, rfl, rfl, rfl, Nat.zero_le _, rfl⟩ (.cons rfl (.cons rfl (.cons rfl .nil))) (HLe.refl _) rfl ?_
    rintro mz E I' loc' ⟨k, rfl, rfl, rfl, rfl, hk, he⟩
    refine X_seq ?_
    refine X_seq ?_
    refine X_region ?_
    refine XO_v0 (ev_move rfl) rfl rfl rfl ?_
    refine XO_v0 (ev_move rfl) rfl rfl rfl ?_
    refine XO_v0 (ev_lenS rfl slt_39) rfl rfl rfl ?_
    refine XO_v0 (ev_cmp rfl rfl rfl) rfl rfl rfl ?_
    refine XO_nil ?_
    refine at_then ?_
    refine X_cond rfl (fun hc14 => ?_) (fun hc14 => ?_)
    · skip
      have hlt_k : k < n := by have h := hc14; simp at h; omega
      obtain ⟨x, hx⟩ := hS.at hlt_k
      obtain ⟨y, hy⟩ := hT.at (show k < n2 by omega)
      refine X_skip ?_
      refine at_then ?_
      refine X_seq ?_
      refine X_block ?_
      refine X_seq ?_
      refine X_draw mixed (by kernel_rfl) ?_
      refine XQ_v0 (ev_move rfl) rfl rfl rfl ?_
      refine XQ_v0 (ev_move rfl) rfl rfl rfl ?_
      refine XQ_v0 (ev_indexSl rfl rfl slt_39 (by assumption) (fun hg => by first | omega | (simp [conj] at hg; omega))) rfl rfl rfl ?_
      refine XQ_v0 (ev_loadA rfl agt_35 (fun hg => by first | exact Sl.getA hS hx | exact Sl.getA hT hy | exact Cells.g0 | exact Cells.g1 | exact Cells.g2 | exact Cells.g3 | exact Cells.g4 | exact Cells.g5 | exact Cells.s0 (vs := [_, _, _, _, _, _, _, _, _, _, _, _, _, _]) rfl | exact Cells.s1 (vs := [_, _, _, _, _, _, _, _, _, _, _, _, _, _]) rfl | exact Cells.s2 (vs := [_, _, _, _, _, _, _, _, _, _, _, _, _, _]) rfl | exact Cells.s3 (vs := [_, _, _, _, _, _, _, _, _, _, _, _, _, _]) rfl | exact Cells.s4 (vs := [_, _, _, _, _, _, _, _, _, _, _, _, _, _]) rfl | exact Cells.s5 (vs := [_, _, _, _, _, _, _, _, _, _, _, _, _, _]) rfl | (repeat (first | exact Cells.here | apply Cells.there | apply Cells.app))) rfl) rfl rfl rfl ?_
      refine XQ_v0 (ev_move rfl) rfl rfl rfl ?_
      refine XQ_v0 (ev_move rfl) rfl rfl rfl ?_
      refine XQ_v0 (ev_indexSl rfl rfl slt_39 (by assumption) (fun hg => by first | omega | (simp [conj] at hg; omega))) rfl rfl rfl ?_
      refine XQ_v0 (ev_loadA rfl agt_35 (fun hg => by first | exact Sl.getA hS hx | exact Sl.getA hT hy | exact Cells.g0 | exact Cells.g1 | exact Cells.g2 | exact Cells.g3 | exact Cells.g4 | exact Cells.g5 | exact Cells.s0 (vs := [_, _, _, _, _, _, _, _, _, _, _, _, _, _]) rfl | exact Cells.s1 (vs := [_, _, _, _, _, _, _, _, _, _, _, _, _, _]) rfl | exact Cells.s2 (vs := [_, _, _, _, _, _, _, _, _, _, _, _, _, _]) rfl | exact Cells.s3 (vs := [_, _, _, _, _, _, _, _, _, _, _, _, _, _]) rfl | exact Cells.s4 (vs := [_, _, _, _, _, _, _, _, _, _, _, _, _, _]) rfl | exact Cells.s5 (vs := [_, _, _, _, _, _, _, _, _, _, _, _, _, _]) rfl | (repeat (first | exact Cells.here | apply Cells.there | apply Cells.app))) rfl) rfl rfl rfl ?_
      refine XQ_v0 (ev_neS2 rfl rfl eqt2_35 rfl) rfl rfl rfl ?_
      refine XQ_nil ?_
      refine at_then ?_
      refine X_cond rfl (fun hc25 => ?_) (fun hc25 => ?_)
      · skip
        refine X_seq ?_
        refine X_region ?_
        refine XO_v0 (ev_assign rfl) rfl rfl rfl ?_
        refine XO_nil ?_
        refine at_then ?_
        refine X_ret ?_
        refine at_block_r ?_
        refine at_then_r ?_
        refine at_then_r ?_
        refine at_block_r ?_
        refine at_then_r ?_
        first
        | exact at_ret1 rfl rfl (fun w hw => ⟨by rw [same_len hS.len hT.len (by simp at hc10; omega)], hw.drop⟩)
        | exact at_ret1 rfl rfl (fun w hw => ⟨by rw [same_ne hx hy (sgEq_no ((Bool.not_eq_true' _).mp hc25))], hw.drop⟩)
        | exact at_ret1 rfl rfl (fun w hw => ⟨by rw [take_all hS.len (by omega), take_all hT.len (by omega)] at he; rw [he, same_self], hw.drop⟩)
      · skip
        refine X_skip ?_
        refine at_block_n ?_
        refine at_then ?_
        refine X_region ?_
        refine XO_v0 (ev_move rfl) rfl rfl rfl ?_
        refine XO_v0 (ev_arB rfl rfl rfl (fun _ => by omega)) rfl rfl rfl ?_
        refine XO_v0 (ev_assign rfl) rfl rfl rfl ?_
        refine XO_nil ?_
        exact at_met2 _ _ ⟨n - (k + 1), by omega, k + 1, rfl, rfl, rfl, rfl, by omega, take_next hx hy he (sgEq_iff.1 ((Bool.not_eq_false' _).mp hc25))⟩ (.cons rfl (.cons rfl (.cons rfl .nil))) (by repeat (first | exact .refl | exact subL_left | refine subL_app ?_ | refine .drop ?_ | refine subL_add ?_))
    · skip
      have hge_k : n ≤ k := by have h := hc14; simp at h; omega
      refine X_exit ?_
      refine at_then_e ?_
      refine at_then_e ?_
      refine at_block_hit ?_
      refine at_then ?_
      refine X_seq ?_
      refine X_region ?_
      refine XO_v0 (ev_assign rfl) rfl rfl rfl ?_
      refine XO_nil ?_
      refine at_then ?_
      refine X_ret ?_
      first
      | exact at_ret1 rfl rfl (fun w hw => ⟨by rw [same_len hS.len hT.len (by simp at hc10; omega)], hw.drop⟩)
      | exact at_ret1 rfl rfl (fun w hw => ⟨by rw [same_ne hx hy (sgEq_no ((Bool.not_eq_true' _).mp hc25))], hw.drop⟩)
      | exact at_ret1 rfl rfl (fun w hw => ⟨by rw [take_all hS.len (by omega), take_all hT.len (by omega)] at he; rw [he, same_self], hw.drop⟩)
theorem w_sameC {I : HMap} {av : Option Addr} {n c : Nat} {cs : List Cf} (hC : SlC I av n c cs) (hn : n ≤ 100000) {bv : Option Addr} {n2 c2 : Nat} {ds : List Cf} (hD : SlC I bv n2 c2 ds) (hcn : ∀ z ∈ cs, z.n ≤ 100000) : RetV Try.prog 18 [.slice av n c, .slice bv n2 c2] I (.bool (sameF (cs.map Cf.key) (ds.map Cf.key))) := by
  intro g H w hw
  refine enter Try.func18 rfl Try.ntmps18 rfl hw ?_
  have hS := hC.1
  have hT := hD.1
  refine X_seq ?_
  refine X_region ?_
  refine XO_v0 (ev_assign rfl) rfl rfl rfl ?_
  refine XO_nil ?_
  refine at_then ?_
  refine X_seq ?_
  refine X_seq ?_
  refine X_region ?_
  refine XO_v0 (ev_move rfl) rfl rfl rfl ?_
  refine XO_v0 (ev_lenS rfl slt_40) rfl rfl rfl ?_
  refine XO_v0 (ev_move rfl) rfl rfl rfl ?_
  refine XO_v0 (ev_lenS rfl slt_40) rfl rfl rfl ?_
  refine XO_v0 (ev_cmp rfl rfl rfl) rfl rfl rfl ?_
  refine XO_nil ?_
  refine at_then ?_
  refine X_cond rfl (fun hc10 => ?_) (fun hc10 => ?_)
  · skip
    refine X_seq ?_
    refine X_region ?_
    refine XO_v0 (ev_assign rfl) rfl rfl rfl ?_
    refine XO_nil ?_
    refine at_then ?_
    refine X_ret ?_
    refine at_then_r ?_
    first
    | exact at_ret1 rfl rfl (fun w hw => ⟨by rw [same_len (n := n) (m := n2) (by rw [List.length_map, hS.len]) (by rw [List.length_map, hT.len]) (by simp at hc10; omega)], hw.drop⟩)
    | exact at_ret1 rfl rfl (fun w hw => ⟨by rw [key_ne hx hy (fun e => by unfold Cf.key at e; rw [Prod.mk.injEq, Prod.mk.injEq] at e; rw [e.1, e.2.1, e.2.2, same_self] at hc54; simp at hc54)], hw.drop⟩)
    | exact at_ret1 rfl rfl (fun w hw => ⟨by rw [take_all hS.len (by omega), take_all hT.len (by omega)] at he; rw [he, same_self], hw.drop⟩)
  · skip
    have hnn : n = n2 := by simp at hc10; omega
    refine X_skip ?_
    refine at_then ?_
    refine X_seq ?_
    refine X_seq ?_
    refine X_region ?_
    refine XO_v0 (ev_assign rfl) rfl rfl rfl ?_
    refine XO_nil ?_
    refine at_then ?_
    refine X_block ?_
    refine X_loopT [(0, _), (1, _)] (.cons rfl (.cons rfl .nil)) (fun T L0 mz E I' loc' => ∃ (k : Nat), mz = n - k ∧ E = (5, .int .i64 k) :: T ∧ I = I' ∧ L0 = loc' ∧ k ≤ n ∧ (cs.take k).map Cf.key = (ds.take k).map Cf.key) _ _ _ _ ⟨0, rfl, rfl, rfl, rfl, Nat.zero_le _, rfl⟩ (.cons rfl (.cons rfl (.cons rfl .nil))) (HLe.refl _) rfl ?_
    rintro mz E I' loc' ⟨k, rfl, rfl, rfl, rfl, hk, he⟩
    refine X_seq ?_
    refine X_seq ?_
    refine X_region ?_
    refine XO_v0 (ev_move rfl) rfl rfl rfl ?_
    refine XO_v0 (ev_move rfl) rfl rfl rfl ?_
    refine XO_v0 (ev_lenS rfl slt_40) rfl rfl rfl ?_
    refine XO_v0 (ev_cmp rfl rfl rfl) rfl rfl rfl ?_
    refine XO_nil ?_
    refine at_then ?_
    refine X_cond rfl (fun hc14 => ?_) (fun hc14 => ?_)
    · skip
      have hlt_k : k < n := by have h := hc14; simp at h; omega
      obtain ⟨x, hx⟩ := hS.at hlt_k
      obtain ⟨y, hy⟩ := hT.at (show k < n2 by omega)
      refine X_skip ?_
      refine at_then ?_
      refine X_seq ?_
      refine X_block ?_
      refine X_seq ?_
      refine X_draw mixed (by kernel_rfl) ?_
      refine XQ_v0 (ev_move rfl) rfl rfl rfl ?_
      refine XQ_v0 (ev_move rfl) rfl rfl rfl ?_
      refine XQ_v0 (ev_indexSl rfl rfl slt_40 (by assumption) (fun hg => by first | omega | (simp [conj] at hg; omega))) rfl rfl rfl ?_
      refine XQ_v0 (ev_fieldAddr rfl fld_44_0) rfl rfl rfl ?_
      refine XQ_v0 (ev_load rfl sct_3 (fun hg => by first | exact Sl.get hS hx rfl | exact Sl.get hT hy rfl | exact Cell.h0 rfl | exact Cell.h1 rfl | exact Cell.h2 rfl | exact Cell.h3 rfl | exact Cell.h4 rfl | exact Cell.h5 rfl | (repeat (first | exact Cell.here rfl | apply Cell.there | apply Cell.app)))) rfl rfl rfl ?_
      refine XQ_v0 (ev_move rfl) rfl rfl rfl ?_
      refine XQ_v0 (ev_move rfl) rfl rfl rfl ?_
      refine XQ_v0 (ev_indexSl rfl rfl slt_40 (by assumption) (fun hg => by first | omega | (simp [conj] at hg; omega))) rfl rfl rfl ?_
      refine XQ_v0 (ev_fieldAddr rfl fld_44_0) rfl rfl rfl ?_
      refine XQ_v0 (ev_load rfl sct_3 (fun hg => by first | exact Sl.get hS hx rfl | exact Sl.get hT hy rfl | exact Cell.h0 rfl | exact Cell.h1 rfl | exact Cell.h2 rfl | exact Cell.h3 rfl | exact Cell.h4 rfl | exact Cell.h5 rfl | (repeat (first | exact Cell.here rfl | apply Cell.there | apply Cell.app)))) rfl rfl rfl ?_
      refine XQ_v0 (ev_cmp rfl rfl rfl) rfl rfl rfl ?_
      refine XQ_v0 (ev_move rfl) rfl rfl rfl ?_
      refine XQ_pushF 11 rfl rfl rfl ?_
      refine XQ_v1 (ev_move rfl) (.some rfl rfl rfl rfl gbf) rfl rfl rfl ?_
      refine XQ_v1 (ev_move rfl) (.some rfl rfl rfl rfl gbf) rfl rfl rfl ?_
      refine XQ_v1 (ev_indexSl rfl rfl slt_40 (by assumption) (fun hg => by first | omega | (simp [conj] at hg; omega))) (.some rfl rfl rfl rfl gbf) rfl rfl rfl ?_
      refine XQ_v1 (ev_fieldAddr rfl fld_44_1) (.some rfl rfl rfl rfl gbf) rfl rfl rfl ?_
      refine XQ_v1 (ev_load rfl sct_3 (fun hg => by first | exact Sl.get hS hx rfl | exact Sl.get hT hy rfl | exact Cell.h0 rfl | exact Cell.h1 rfl | exact Cell.h2 rfl | exact Cell.h3 rfl | exact Cell.h4 rfl | exact Cell.h5 rfl | (repeat (first | exact Cell.here rfl | apply Cell.there | apply Cell.app)))) (.some rfl rfl rfl rfl gbf) rfl rfl rfl ?_
      refine XQ_v1 (ev_move rfl) (.some rfl rfl rfl rfl gbf) rfl rfl rfl ?_
      refine XQ_v1 (ev_move rfl) (.some rfl rfl rfl rfl gbf) rfl rfl rfl ?_
      refine XQ_v1 (ev_indexSl rfl rfl slt_40 (by assumption) (fun hg => by first | omega | (simp [conj] at hg; omega))) (.some rfl rfl rfl rfl gbf) rfl rfl rfl ?_
      refine XQ_v1 (ev_fieldAddr rfl fld_44_1) (.some rfl rfl rfl rfl gbf) rfl rfl rfl ?_
      refine XQ_v1 (ev_load rfl sct_3 (fun hg => by first | exact Sl.get hS hx rfl | exact Sl.get hT hy rfl | exact Cell.h0 rfl | exact Cell.h1 rfl | exact Cell.h2 rfl | exact Cell.h3 rfl | exact Cell.h4 rfl | exact Cell.h5 rfl | (repeat (first | exact Cell.here rfl | apply Cell.there | apply Cell.app)))) (.some rfl rfl rfl rfl gbf) rfl rfl rfl ?_
      refine XQ_v1 (ev_cmp rfl rfl rfl) (.some rfl rfl rfl rfl gbf) rfl rfl rfl ?_
      refine XQ_or0 rfl rfl rfl rfl rfl ?_
      refine XQ_v0 (ev_move rfl) rfl rfl rfl ?_
      refine XQ_pushF 24 rfl rfl rfl ?_
      refine XQ_v1 (ev_move rfl) (.some rfl rfl rfl rfl gbf) rfl rfl rfl ?_
      refine XQ_v1 (ev_move rfl) (.some rfl rfl rfl rfl gbf) rfl rfl rfl ?_
      refine XQ_v1 (ev_indexSl rfl rfl slt_40 (by assumption) (fun hg => by first | omega | (simp [conj] at hg; omega))) (.some rfl rfl rfl rfl gbf) rfl rfl rfl ?_
      refine XQ_v1 (ev_fieldAddr rfl fld_44_2) (.some rfl rfl rfl rfl gbf) rfl rfl rfl ?_
      refine XQ_v1 (ev_load rfl sct_23 (fun hg => by first | exact Sl.get hS hx rfl | exact Sl.get hT hy rfl | exact Cell.h0 rfl | exact Cell.h1 rfl | exact Cell.h2 rfl | exact Cell.h3 rfl | exact Cell.h4 rfl | exact Cell.h5 rfl | (repeat (first | exact Cell.here rfl | apply Cell.there | apply Cell.app)))) (.some rfl rfl rfl rfl gbf) rfl rfl rfl ?_
      refine XQ_v1 (ev_move rfl) (.some rfl rfl rfl rfl gbf) rfl rfl rfl ?_
      refine XQ_v1 (ev_move rfl) (.some rfl rfl rfl rfl gbf) rfl rfl rfl ?_
      refine XQ_v1 (ev_indexSl rfl rfl slt_40 (by assumption) (fun hg => by first | omega | (simp [conj] at hg; omega))) (.some rfl rfl rfl rfl gbf) rfl rfl rfl ?_
      refine XQ_v1 (ev_fieldAddr rfl fld_44_2) (.some rfl rfl rfl rfl gbf) rfl rfl rfl ?_
      refine XQ_v1 (ev_load rfl sct_23 (fun hg => by first | exact Sl.get hS hx rfl | exact Sl.get hT hy rfl | exact Cell.h0 rfl | exact Cell.h1 rfl | exact Cell.h2 rfl | exact Cell.h3 rfl | exact Cell.h4 rfl | exact Cell.h5 rfl | (repeat (first | exact Cell.here rfl | apply Cell.there | apply Cell.app)))) (.some rfl rfl rfl rfl gbf) rfl rfl rfl ?_
      refine XQ_callV1 (cap := []) (vs := [_, _]) rfl rfl fun_12 (fun hg => w_sameI (hC.2 _ (List.mem_of_getElem? hx)) (hcn _ (List.mem_of_getElem? hx)) (hD.2 _ (List.mem_of_getElem? hy))) (.some rfl rfl rfl rfl gbf) rfl rfl ?_
      refine XQ_v1 (ev_not rfl) (.some rfl rfl rfl rfl gbf) rfl rfl rfl ?_
      refine XQ_or0 rfl rfl rfl rfl rfl ?_
      refine XQ_nil ?_
      refine at_then ?_
      refine X_cond rfl (fun hc54 => ?_) (fun hc54 => ?_)
      · skip
        refine X_seq ?_
        refine X_region ?_
        refine XO_v0 (ev_assign rfl) rfl rfl rfl ?_
        refine XO_nil ?_
        refine at_then ?_
        refine X_ret ?_
        refine at_block_r ?_
        refine at_then_r ?_
        refine at_then_r ?_
        refine at_block_r ?_
        refine at_then_r ?_
        first
        | exact at_ret1 rfl rfl (fun w hw => ⟨by rw [same_len (n := n) (m := n2) (by rw [List.length_map, hS.len]) (by rw [List.length_map, hT.len]) (by simp at hc10; omega)], hw.drop⟩)
        | exact at_ret1 rfl rfl (fun w hw => ⟨by rw [key_ne hx hy (fun e => by unfold Cf.key at e; rw [Prod.mk.injEq, Prod.mk.injEq] at e; rw [e.1, e.2.1, e.2.2, same_self] at hc54; simp at hc54)], hw.drop⟩)
        | exact at_ret1 rfl rfl (fun w hw => ⟨by rw [take_all hS.len (by omega), take_all hT.len (by omega)] at he; rw [he, same_self], hw.drop⟩)
      · skip
        refine X_skip ?_
        refine at_block_n ?_
        refine at_then ?_
        refine X_region ?_
        refine XO_v0 (ev_move rfl) rfl rfl rfl ?_
        refine XO_v0 (ev_arB rfl rfl rfl (fun _ => by omega)) rfl rfl rfl ?_
        refine XO_v0 (ev_assign rfl) rfl rfl rfl ?_
        refine XO_nil ?_
        exact at_met2 _ _ ⟨n - (k + 1), by omega, k + 1, rfl, rfl, rfl, rfl, by omega, key_next hx hy he (by have h := hc54; simp only [Bool.or_eq_false_iff, Bool.not_eq_false', bne_eq_false_iff_eq] at h; unfold Cf.key; rw [h.1.1, h.1.2, of_decide_eq_true h.2])⟩ (.cons rfl (.cons rfl (.cons rfl .nil))) (by repeat (first | exact .refl | exact subL_left | refine subL_app ?_ | refine .drop ?_ | refine subL_add ?_))
    · skip
      have hge_k : n ≤ k := by have h := hc14; simp at h; omega
      refine X_exit ?_
      refine at_then_e ?_
      refine at_then_e ?_
      refine at_block_hit ?_
      refine at_then ?_
      refine X_seq ?_
      refine X_region ?_
      refine XO_v0 (ev_assign rfl) rfl rfl rfl ?_
      refine XO_nil ?_
      refine at_then ?_
      refine X_ret ?_
      first
      | exact at_ret1 rfl rfl (fun w hw => ⟨by rw [same_len (n := n) (m := n2) (by rw [List.length_map, hS.len]) (by rw [List.length_map, hT.len]) (by simp at hc10; omega)], hw.drop⟩)
      | exact at_ret1 rfl rfl (fun w hw => ⟨by rw [key_ne hx hy (fun e => by unfold Cf.key at e; rw [Prod.mk.injEq, Prod.mk.injEq] at e; rw [e.1, e.2.1, e.2.2, same_self] at hc54; simp at hc54)], hw.drop⟩)
      | exact at_ret1 rfl rfl (fun w hw => ⟨by rw [take_all hS.len (by omega), take_all hT.len (by omega)] at he; rw [he, same_self], hw.drop⟩)
end Go.Proofs.Ytccomeanpppfmaa
end
section
namespace Go.Proofs.Ytccomeanpppfmaa
open Go Go.Kn Go.Proofs
/-- The law's patch: a sign's direction. -/
def setP (id dir : Int) (a : Option Addr) (n c : Nat) (v : List Int) : Pt := ⟨id, 1, 1, 5, { zeroG with dir := dir }, a, n, c, v⟩
theorem w_lset (I : HMap) (id dir : Int) (a : Option Addr) (n c : Nat) (v : List Int) : RetV Try.prog 21 [.int .i64 id, .int .i64 dir, .slice a n c] I (encPA (setP id dir a n c v)) := by
  intro g H w hw
  refine enter Try.func21 rfl Try.ntmps21 rfl hw ?_
  refine X_seq ?_
  refine X_region ?_
  refine XO_alloc zt_37 rfl rfl (fun b_6 => ?_)
  refine XO_nil ?_
  refine at_then ?_
  refine X_seq ?_
  refine X_region ?_
  refine XO_v0 (ev_move rfl) rfl rfl rfl ?_
  refine XO_v0 (ev_move rfl) rfl rfl rfl ?_
  refine XO_v0 (ev_buildL (ps := [(6, _)]) [_, _, _, _, _, _, _, _, _, _, _, _, _, _] plt_35 rfl rfl) rfl rfl rfl ?_
  refine XO_v0 (ev_move rfl) rfl rfl rfl ?_
  refine XO_v0 (ev_buildL (ps := [(0, _), (1, _), (2, _), (3, _), (4, _), (5, _)]) [_, _, _, _, _, _, _, _, _, _, _, _, _, _, _, _, _, _, _] plt_37 rfl rfl) rfl rfl rfl ?_
  refine XO_storeA rfl rfl szt_37 rfl rfl rfl rfl (by first | exact Upd.u0 | exact Upd.u1 | exact Upd.u2 | exact Upd.u3 | exact Upd.u4 | exact Upd.u5 | (repeat (first | exact Upd.here | apply Upd.there | apply upd_app))) ?_
  refine XO_nil ?_
  refine at_then ?_
  refine X_ret ?_
  exact at_retA rfl rfl agt_37 Cells.g0 rfl (fun w hw => ⟨rfl, hw.drop⟩)
end Go.Proofs.Ytccomeanpppfmaa
end
section
namespace Go.Kn
open Go
section
variable {C : Cx} {E : Env} {I : HMap} {loc : Loc} {S : GS} {dst : Option Tmp} {ty : TypeId} {pos : String} {af : Array Edge} {gd : Option (Nat × Bool)} {x y z : Operand}
theorem ev_sliceM {t e size n c : Nat} {av : Option Addr} {k k' : IntKind} {i : Int} (hx : evalS S E x = some (.slice av n c)) (hy : evalS S E y = some (.int k i)) (hz : evalS S E z = some (.int k' i)) (hT : SlT C.P t e size) (hb : conj S = true → 0 ≤ i ∧ i ≤ (c : Int)) :
    EvalOp C S E I loc ⟨dst, .slice t x none (some y) (some z), ty, pos, af, gd⟩ (.slice av i.toNat i.toNat) :=
  .of (by intro c e; cases e) fun a w ha hg hc _ => by
    obtain ⟨h1, j, h2, h3⟩ := hT
    have hav : (if i.toNat = 0 then av else av.map (·.add (0 * j.size))) = av := by
      split
      · rfl
      · cases av <;> simp [Addr.add]
    have hi : 0 ≤ i ∧ i ≤ ((i.toNat : Nat) : Int) := by have := hb hc; omega
    simp only [execOp, Option.map_none, Option.map_some, evalS_sound ha hg hc hx, evalS_sound ha hg hc hy, evalS_sound ha hg hc hz, Instr.sliceAt, Instr.slice, Instr.sliceBounds, Instr.sliceBound, asIntOf, Sem.run_bind, Sem.run_pure, run_underlying h1, Result.andThen, if_pos (hb hc), if_pos hi, run_sizeOf h2, hav, Nat.sub_zero]
end
end Go.Kn
namespace Go.Kn
open Go
section
variable {g : World} {I I' H : HMap} {loc loc' L R : Loc} {w w' : World}
/-- 'append' onto a slice that is only read and has no room. -/
theorem run_append_cut {P : Program} (t ty e : TypeId) (i : TypeInfo) (z : Value) {size bytes : Nat} (ht : P.underlying t = some (.slice e)) (hi : P.info? e = some i) (hz : i.zero = some z)
    (hsize : i.size = size) (hby : i.bytes = bytes) (hzs : z.cells.size = size)
    {bv : Option Addr} {n : Nat} {xs : List Value} {av : Option Addr} {m c : Nat} {ys : List Value} (hX : Src I loc bv n size xs) (hw : St g I H loc w) (hS : Src I loc av m size ys)
    (hB : (n + m) * (bytes + 1) ≤ 70368744177664) :
    ∃ v' w' L', (Builtin.append_ #[t, t] ty #[.slice bv n n, .slice av m c]).run P w = .ok v' w' ∧ St g I H (L' ++ loc) w' ∧ ((m = 0 ∧ v' = .slice bv n n ∧ L' = []) ∨ OwnS e size v' (n + m) (xs ++ ys) L') := by
  subst hsize
  subst hby
  have hnm : n + m ≤ 70368744177664 := by
    have : (n + m) * 1 ≤ (n + m) * (i.bytes + 1) := Nat.mul_le_mul_left _ (by omega)
    omega
  have hbytes : (n + m) * i.bytes ≤ 140737488355328 := by
    have : (n + m) * i.bytes ≤ (n + m) * (i.bytes + 1) := Nat.mul_le_mul_left _ (by omega)
    omega
  have hmL : n + m ≤ maxLen := by simp only [maxLen]; omega
  have hlen : (xs ++ ys).length = (n + m) * i.size := by rw [List.length_append, hX.len, hS.len, Nat.add_mul]
  by_cases hm : m = 0
  · subst hm
    refine ⟨.slice bv n n, w, [], ?_, hw, .inl ⟨rfl, rfl, rfl⟩⟩
    cases av <;> cases bv <;> simp [Builtin.append_, run_underlying ht, sizeOf, typeInfo, hi, Builtin.lenOf, Builtin.firstCells, loadCells, loadCellsFrom, storeCells]
  · have hav := hS.base hm
    have hnews : ∀ j u, ys[j]? = some u → w.cell? ((⟨Ab av, Ao av, none⟩ : Addr).add j) = some u := fun j u hj => by rw [add_plain]; exact (hS.cells j u hj).get hw
    rw [hav]
    have grown : ∀ (old : Nat), old < n + m → ∃ L', OwnS e i.size (.slice (some ⟨w.heap.size, 0, none⟩) (n + m) (grownCap w (n + m) old e)) (n + m) (xs ++ ys) L' ∧
        St g I H (L' ++ loc) (w.drew.alloc (.cells (xs.toArray ++ ys.toArray ++ Builtin.zeroCells z.cells (grownCap w (n + m) old e - (n + m))) e)) := by
      intro old ho
      have hge := grownCap_ge w (n + m) old e
      have hcm : grownCap w (n + m) old e ≤ maxLen := grownCap_le_maxLen w (n + m) old e hmL
      refine ⟨_, ⟨hlen, .inr ⟨w.heap.size, _, xs.toArray ++ ys.toArray ++ Builtin.zeroCells z.cells (grownCap w (n + m) old e - (n + m)), rfl, rfl, hge, hcm, ?_, ?_⟩⟩, ?_⟩
      · simp only [Array.size_append, List.size_toArray, size_zeroCells', hzs, hX.len, hS.len, ← Nat.add_mul]
        congr 1
        omega
      · simp only [Array.toList_append, List.append_assoc]
        rw [← List.append_assoc, ← hlen]
        exact List.take_left
      · exact hw.drew'.alloc _
    obtain ⟨L', h1', h2'⟩ := grown n (by omega)
    cases bv with
    | none =>
      have hn0 : n = 0 := Decidable.byContradiction fun h => by have := hX.base h; cases this
      subst hn0
      have hx : xs = [] := List.eq_nil_of_length_eq_zero (by simpa using hX.len)
      subst hx
      have hr := run_append_nil (P := P) w t ty e i z ht hi hz ⟨Ab av, Ao av, none⟩ m c ys hS.len hnews (by omega) (by omega) (by simp only [Nat.zero_add] at hbytes; omega)
      simp only [Nat.zero_add, List.nil_append, Array.empty_append] at h1' h2' ⊢
      exact ⟨_, _, L', hr, h2', .inr h1'⟩
    | some q =>
      have holds : ∀ j u, xs[j]? = some u → w.cell? (q.add j) = some u := fun j u hj => by
        by_cases hn0 : n = 0
        · subst hn0
          have hx : xs = [] := List.eq_nil_of_length_eq_zero (by simpa using hX.len)
          subst hx; simp at hj
        · have hq := hX.base hn0
          have hq2 : q = ⟨Ab (some q), Ao (some q), none⟩ := Option.some.inj hq
          rw [hq2, add_plain]
          exact (hX.cells j u hj).get hw
      have hr := run_append_grow (P := P) w t ty e i z ht hi hz q n n xs hX.len holds ⟨Ab av, Ao av, none⟩ m c ys hS.len hnews (by omega) (by omega) (growslice_fits (by omega) hbytes)
      exact ⟨_, _, L', hr, h2', .inr h1'⟩
end
end Go.Kn
namespace Go.Kn
open Go
section
variable {C : Cx} {Q : Exit → Act → World → Prop} {E : Env} {I : HMap} {loc : Loc} {ops : Array Oper} {rest : List Oper} {d : Nat} {ty : TypeId} {pos : String} {af : Array Edge} {gd : Option (Nat × Bool)} {x y : Operand}
/-- 'append' onto a slice that is only read and has no room; what comes is read from now on. -/
theorem XO_appendCut {α : Type} {enc : α → List Value} {t e size bytes n m c : Nat} {av bv : Option Addr} {xs ys : List α} (hs : ∀ x, (enc x).length = size) (hsz : 0 < size) (hx : evalS [] E x = some (.slice bv n n)) (hy : evalS [] E y = some (.slice av m c)) (hT : ElT C.P t e size bytes)
    (hX : Sl I size enc bv n n xs) (hS : Sl I size enc av m c ys) (hB : (n + m) * (bytes + 1) ≤ 70368744177664) (hG : gd = none) (hN : Nat.blt d C.N = true)
    (h : ∀ I' a' c', HLe I I' → Sl I' size enc a' (n + m) c' (xs ++ ys) → XO C Q ops rest [] ((d, .slice a' (n + m) c') :: E) I' loc) :
    XO C Q ops (⟨some d, .call ⟨.builtin .append, #[x, y], #[t, t]⟩, ty, pos, af, gd⟩ :: rest) [] E I loc :=
  XO_world hG (by intro c e; cases e) fun a w ha hw => by
    obtain ⟨ht, i, zz, hi, hz, hs', hb, hzs⟩ := hT
    obtain ⟨v', w', L', hr, hw', hm⟩ := run_append_cut (P := C.P) t ty e i zz ht hi hz hs' hb hzs (c := c) (hX.src hs) hw (hS.src hs) hB
    simp only [execOp, resolve, List.map_toArray, List.map_cons, List.map_nil, evalS_sound (S := []) ha trivial rfl hx, evalS_sound (S := []) ha trivial rfl hy, Sem.run_bind, Sem.run_pure, Result.andThen, invoke, builtin, hr, Oper.uponIn_value]
    rcases hm with ⟨hm0, rfl, rfl⟩ | hO
    · subst hm0
      have hy0 : ys = [] := List.eq_nil_of_length_eq_zero hS.len
      subst hy0
      exact h I bv n (HLe.refl I) (by rw [List.append_nil]; exact hX) _ _ (ha.put hN _) trivial hw'
    · rw [← List.flatMap_append] at hO
      obtain ⟨I', a', c', h1, h2, rfl, h4⟩ := OwnS.freeze (R := loc) hO hs hsz hw'
      exact h I' a' c' h1 h4 _ _ (ha.put hN _) trivial h2
end
end Go.Kn
namespace Go.Kn
open Go
section
variable {C : Cx} {Q : Exit → Act → World → Prop} {E : Env} {I : HMap} {loc : Loc} {ops : Array Oper} {rest : List Oper} {d : Nat} {ty : TypeId} {pos : String} {af : Array Edge} {gd : Option (Nat × Bool)} {x y : Operand}
/-- 'append' of something onto a slice that is only read and has no room; what comes is one's own. -/
theorem XO_appendCutO {α : Type} {enc : α → List Value} {t e size bytes n m c : Nat} {av bv : Option Addr} {xs : List α} {ys : List Value} (hs : ∀ x, (enc x).length = size) (hx : evalS [] E x = some (.slice bv n n)) (hy : evalS [] E y = some (.slice av m c)) (hT : ElT C.P t e size bytes)
    (hX : Sl I size enc bv n n xs) (hS : Src I loc av m size ys) (hm : 0 < m) (hB : (n + m) * (bytes + 1) ≤ 70368744177664) (hG : gd = none) (hN : Nat.blt d C.N = true)
    (h : ∀ v' L', OwnS e size v' (n + m) (xs.flatMap enc ++ ys) L' → XO C Q ops rest [] ((d, v') :: E) I (L' ++ loc)) :
    XO C Q ops (⟨some d, .call ⟨.builtin .append, #[x, y], #[t, t]⟩, ty, pos, af, gd⟩ :: rest) [] E I loc :=
  XO_world hG (by intro c e; cases e) fun a w ha hw => by
    obtain ⟨ht, i, zz, hi, hz, hs', hb, hzs⟩ := hT
    obtain ⟨v', w', L', hr, hw', hm'⟩ := run_append_cut (P := C.P) t ty e i zz ht hi hz hs' hb hzs (c := c) (hX.src hs) hw hS hB
    simp only [execOp, resolve, List.map_toArray, List.map_cons, List.map_nil, evalS_sound (S := []) ha trivial rfl hx, evalS_sound (S := []) ha trivial rfl hy, Sem.run_bind, Sem.run_pure, Result.andThen, invoke, builtin, hr, Oper.uponIn_value]
    rcases hm' with ⟨hm0, _, _⟩ | hO
    · omega
    · exact h v' L' hO _ _ (ha.put hN _) trivial hw'
end
section
variable {C : Cx} {S : GS} {E : Env} {I : HMap} {loc : Loc} {dst : Option Tmp} {ty : TypeId} {pos : String} {af : Array Edge} {gd : Option (Nat × Bool)} {x y : Operand}
theorem ev_indexOwn {t e size b n c : Nat} {k : IntKind} {i : Int} (hx : evalS S E x = some (.slice (some ⟨b, 0, none⟩) n c)) (hy : evalS S E y = some (.int k i)) (hT : SlT C.P t e size) (hb : conj S = true → 0 ≤ i ∧ i < (n : Int)) :
    EvalOp C S E I loc ⟨dst, .indexAddr t x y, ty, pos, af, gd⟩ (.pointer (some ⟨b, i.toNat * size, none⟩)) := by
  have h := ev_indexAddr (I := I) (loc := loc) (dst := dst) (ty := ty) (pos := pos) (af := af) (gd := gd) hx hy hT hb
  rwa [Nat.zero_add] at h
end
theorem Sl.cut {α : Type} {I : HMap} {size : Nat} {enc : α → List Value} {av : Option Addr} {n c : Nat} {xs : List α} (h : Sl I size enc av n c xs) : Sl I size enc av n n xs := ⟨h.len, Nat.le_refl _, h.base, h.cells⟩
/-- An element of an own slice: where it lies, and what a store leaves. -/
theorem OwnS.spot {α : Type} {e size n k : Nat} {enc : α → List Value} {v : Value} {xs : List α} {x : α} {L : Loc} (hO : OwnS e size v n (xs.flatMap enc) L) (hs : ∀ x, (enc x).length = size) (hsz : 0 < size) (hx : xs[k]? = some x) :
    k < n ∧ ∃ b c cur, v = .slice (some ⟨b, 0, none⟩) n c ∧ L = [(b, .cells (cur : List Value).toArray e (0, 0))] ∧ (cur.drop (k * size)).take size = enc x ∧ k * size + size ≤ cur.length ∧
      ∀ y, OwnS e size v n ((xs.set k y).flatMap enc) [(b, .cells (spliceL cur (k * size) (enc y)).toArray e (0, 0))] := by
  obtain ⟨hk, hxk⟩ := List.getElem?_eq_some_iff.1 hx
  have hl := hO.1
  rw [flat_len hs] at hl
  have hln : xs.length = n := Nat.eq_of_mul_eq_mul_right hsz hl
  rcases hO.2 with ⟨_, h2, _⟩ | ⟨b, c, cur, h1, h2, h3, h4, h5, h6⟩
  · omega
  obtain ⟨cl⟩ := cur
  simp only [List.size_toArray] at h5 h6
  have hspl : xs = xs.take k ++ x :: xs.drop (k + 1) := by
    rw [← hxk, ← List.drop_eq_getElem_cons hk, List.take_append_drop]
  have hb1 : (k + 1) * size ≤ n * size := Nat.mul_le_mul_right _ (by omega)
  have hb2 : n * size ≤ c * size := Nat.mul_le_mul_right _ h3
  rw [Nat.add_mul, Nat.one_mul] at hb1
  have htk : ((xs.take k).flatMap enc).length = k * size := by rw [flat_len hs, List.length_take]; congr 1; omega
  have hcl : cl.take (n * size) = (xs.take k).flatMap enc ++ (enc x ++ (xs.drop (k + 1)).flatMap enc) := by
    rw [h6]; conv => lhs; rw [hspl]
    rw [List.flatMap_append, List.flatMap_cons]
  have hdec : cl = (xs.take k).flatMap enc ++ (enc x ++ ((xs.drop (k + 1)).flatMap enc ++ cl.drop (n * size))) := by
    conv => lhs; rw [← List.take_append_drop (n * size) cl]
    rw [hcl]; simp only [List.append_assoc]
  have hdrop : cl.drop (k * size) = enc x ++ ((xs.drop (k + 1)).flatMap enc ++ cl.drop (n * size)) := by
    conv => lhs; rw [hdec]
    rw [← htk]; exact List.drop_left
  refine ⟨by omega, b, c, cl, h1, h2, ?_, by omega, fun y => ⟨?_, .inr ⟨b, c, _, h1, rfl, h3, h4, ?_, ?_⟩⟩⟩
  · rw [hdrop, ← hs x]; exact List.take_left
  · rw [flat_len hs, List.length_set]; omega
  · have hsl := splice_eq (A := cl) (off := k * size) (n := size) (vs := enc y) (by omega) (hs y)
    rw [List.size_toArray, hsl]
    simp only [List.length_append, List.length_take, List.length_drop, hs]
    omega
  · have hsl := splice_eq (A := cl) (off := k * size) (n := size) (vs := enc y) (by omega) (hs y)
    have e1 : cl.take (k * size) = (xs.take k).flatMap enc := by
      conv => lhs; rw [hdec]
      rw [← htk]; exact List.take_left
    have e2 : cl.drop (k * size + size) = (xs.drop (k + 1)).flatMap enc ++ cl.drop (n * size) := by
      have hd : ∀ l : List Value, List.drop size (enc x ++ l) = l := fun l => by rw [← hs x]; exact List.drop_left
      rw [← List.drop_drop, hdrop, hd]
    rw [hsl, e1, e2]
    have e3 : (xs.set k y).flatMap enc = (xs.take k).flatMap enc ++ (enc y ++ (xs.drop (k + 1)).flatMap enc) := by
      rw [List.set_eq_take_append_cons_drop, if_pos (by omega), List.flatMap_append, List.flatMap_cons]
    have e4 : ((xs.set k y).flatMap enc).length = n * size := by rw [flat_len hs, List.length_set]; omega
    show List.take (n * size) ((xs.take k).flatMap enc ++ (enc y ++ ((xs.drop (k + 1)).flatMap enc ++ cl.drop (n * size)))) = _
    rw [← List.append_assoc (enc y), ← List.append_assoc, ← e3, ← e4]
    exact List.take_left
end Go.Kn
end
section
namespace Go.Proofs.Ytccomeanpppfmaa
open Go Go.Kn Go.Proofs
theorem low_split {xs : List Sg} (t : Int) : xs.take (lowK Sg.id xs t) = xs.takeWhile (fun x => decide (x.id < t)) ∧ xs.drop (lowK Sg.id xs t) = xs.dropWhile (fun x => decide (x.id < t)) := by
  have h := List.takeWhile_append_dropWhile (p := fun x : Sg => decide (x.id < t)) (l := xs)
  have e : lowK Sg.id xs t = (xs.takeWhile fun x => decide (x.id < t)).length := rfl
  have h1 := List.take_left (l₁ := xs.takeWhile fun x : Sg => decide (x.id < t)) (l₂ := xs.dropWhile fun x : Sg => decide (x.id < t))
  have h2 := List.drop_left (l₁ := xs.takeWhile fun x : Sg => decide (x.id < t)) (l₂ := xs.dropWhile fun x : Sg => decide (x.id < t))
  rw [h] at h1 h2
  rw [e]
  exact ⟨h1, h2⟩
theorem put_low {xs : List Sg} {k : Sg} : putF xs k = (xs.take (lowK Sg.id xs k.id) ++ [k]) ++ xs.drop (lowK Sg.id xs k.id) := by
  rw [(low_split k.id).1, (low_split k.id).2]
  unfold putF
  simp
theorem low_hit {xs : List Sg} {t : Int} (hs : Srt xs) (h : hasS xs t = true) : ∃ x, xs[lowK Sg.id xs t]? = some x ∧ x.id = t := by
  unfold hasS at h
  rw [List.any_eq_true] at h
  obtain ⟨x, hx, e⟩ := h
  have e : x.id = t := by simpa using e
  obtain ⟨j, hj⟩ := List.getElem?_of_mem hx
  obtain ⟨hj1, hj2⟩ := List.getElem?_eq_some_iff.1 hj
  have hl : lowK Sg.id xs t = j := by
    refine low_at (key := Sg.id) (by omega) (fun q z hq hz => ?_) (fun q z hq hz hlt => ?_)
    · obtain ⟨hq1, hq2⟩ := List.getElem?_eq_some_iff.1 hz
      have := List.pairwise_iff_getElem.1 hs q j hq1 hj1 hq
      rw [hq2, hj2] at this; omega
    · obtain ⟨hq1, hq2⟩ := List.getElem?_eq_some_iff.1 hz
      by_cases e2 : j = q
      · subst e2; rw [hj] at hz; cases hz; omega
      · have := List.pairwise_iff_getElem.1 hs j q hj1 hq1 (by omega)
        rw [hq2, hj2] at this; omega
  exact ⟨x, by rw [hl]; exact hj, e⟩
theorem srt_parts {xs : List Sg} {i : Nat} {x : Sg} (hs : Srt xs) (hx : xs[i]? = some x) : xs = xs.take i ++ x :: xs.drop (i + 1) ∧ (∀ y ∈ xs.take i, y.id ≠ x.id) ∧ ∀ y ∈ xs.drop (i + 1), y.id ≠ x.id := by
  have hsp : xs = xs.take i ++ x :: xs.drop (i + 1) := by rw [← drop_cons hx, List.take_append_drop]
  have h := hs
  unfold Srt at h
  rw [hsp, List.pairwise_append, List.pairwise_cons] at h
  refine ⟨hsp, fun y hy => ?_, fun y hy => ?_⟩
  · have := h.2.2 y hy x (List.mem_cons_self ..); omega
  · have := h.2.1.1 y hy; omega
theorem rem_low {xs : List Sg} {i : Nat} {x : Sg} (hs : Srt xs) (hx : xs[i]? = some x) : xs.filter (fun y => y.id != x.id) = xs.take i ++ xs.drop (i + 1) := by
  obtain ⟨hsp, h1, h2⟩ := srt_parts hs hx
  have e : (xs.take i ++ x :: xs.drop (i + 1)).filter (fun y => y.id != x.id) = xs.take i ++ xs.drop (i + 1) := by
    rw [List.filter_append, List.filter_cons, if_neg (by simp), List.filter_eq_self.2 (fun y hy => by simpa using h1 y hy), List.filter_eq_self.2 (fun y hy => by simpa using h2 y hy)]
  rwa [← hsp] at e
theorem set_low {xs : List Sg} {i : Nat} {x : Sg} (g : Sg → Sg) (hs : Srt xs) (hx : xs[i]? = some x) : (xs.map fun y => if y.id = x.id then g y else y) = xs.take i ++ g x :: xs.drop (i + 1) := by
  obtain ⟨hsp, h1, h2⟩ := srt_parts hs hx
  have k1 : ∀ l : List Sg, (∀ y ∈ l, y.id ≠ x.id) → (l.map fun y => if y.id = x.id then g y else y) = l := fun l hl => by
    conv => rhs; rw [← List.map_id l]
    exact List.map_congr_left fun y hy => by rw [if_neg (hl y hy)]; rfl
  have e : ((xs.take i ++ x :: xs.drop (i + 1)).map fun y => if y.id = x.id then g y else y) = xs.take i ++ g x :: xs.drop (i + 1) := by
    rw [List.map_append, List.map_cons, if_pos rfl, k1 _ h1, k1 _ h2]
  rwa [← hsp] at e
theorem low_le {xs : List Sg} {t : Int} : lowK Sg.id xs t ≤ xs.length := (List.takeWhile_sublist _).length_le
def apB (xs : List Sg) (p : Pt) : Bool := (p.kind == 1 && !hasS xs p.sign) || (p.kind == 2 && hasS xs p.sign)
theorem ap_none {xs : List Sg} {p : Pt} (h : (p.kind == 3 && !hasS xs p.sign) = true) : apE xs p = 0 ∧ resF 0 (apG xs p) = xs := by
  simp only [Bool.and_eq_true, beq_iff_eq, Bool.not_eq_true'] at h
  refine ⟨by unfold apE; simp [h.1], ?_⟩
  rw [resF_ok rfl]
  unfold apG
  rw [if_neg (by omega), if_pos h.1, List.filter_eq_self]
  intro x hx
  have h2 := h.2
  unfold hasS at h2
  rw [List.any_eq_false] at h2
  simpa using h2 x hx
/-- What a list keeps that patches are applied to. -/
def RnQ (xs : List Sg) : Prop := Srt xs ∧ ∀ x ∈ xs, 0 ≤ x.id ∧ x.id ≤ 1048576
theorem frm_id {x : Sg} (h : frm x = true) : 0 ≤ x.id ∧ x.id ≤ 1048576 := by
  unfold frm frmL within at h
  simp only [Bool.and_eq_true, decide_eq_true_eq] at h
  omega
theorem chk_rn {xs : List Sg} (h : chkG xs = 0) : RnQ xs := by
  have h2 := (chkG_ok h).2
  refine ⟨skB_srt h2, fun x hx => ?_⟩
  obtain ⟨k, hk, rfl⟩ := List.mem_iff_getElem.1 hx
  unfold skB at h2
  rw [List.all_eq_true] at h2
  have h3 := h2 k (List.mem_range.2 hk)
  unfold skP at h3
  rw [getD_of (List.getElem?_eq_getElem hk)] at h3
  simp only [Bool.not_eq_true', Bool.or_eq_false_iff, Bool.not_eq_false'] at h3
  exact frm_id h3.1
theorem ap_rn {xs : List Sg} {p : Pt} (h : RnQ xs) (hp : PtOK p) (he : apE xs p = 0) : RnQ (apG xs p) := by
  have h2 : p.kind = 2 → lookG xs p.nw.id = none := fun hk => by
    cases hl : lookG xs p.nw.id with
    | none => rfl
    | some x =>
      exfalso
      have hs : hasS xs p.sign = true := by rw [hasS_look, ← (hp.ins hk).1, hl]; rfl
      unfold apE at he
      rw [if_pos (by rw [hs]; simp [hk])] at he
      cases he
  refine ⟨ap_srt h.1 h2, fun x hx => ?_⟩
  unfold apG at hx
  split at hx
  · rename_i hk
    rcases List.mem_cons.1 ((put_perm xs p.nw).mem_iff.1 hx) with rfl | hx
    · exact frm_id (hp.ins hk).2
    · exact h.2 x hx
  · split at hx
    · exact h.2 x (List.mem_filter.1 hx).1
    · obtain ⟨y, hy, rfl⟩ := List.mem_map.1 hx
      split
      · rw [set_id]; exact h.2 y hy
      · exact h.2 y hy
theorem run_go {xs : List Sg} {p : Pt} {l : List Pt} (h : pchk p = 0) (he : apE xs p = 0) : runR xs (p :: l) = runR (apG xs p) l := by unfold runR; rw [if_neg (by rw [h]; decide), if_neg (by rw [he]; decide)]; cases l <;> rfl
theorem run_b1 {xs : List Sg} {p : Pt} {l : List Pt} (h : pchk p ≠ 0) : runR xs (p :: l) = (pchk p, []) := by unfold runR; rw [if_pos h]
theorem run_b2 {xs : List Sg} {p : Pt} {l : List Pt} (h : pchk p = 0) (he : apE xs p ≠ 0) : runR xs (p :: l) = (apE xs p, []) := by unfold runR; rw [if_neg (by rw [h]; decide), if_pos he]
theorem runA_1 {xs : List Sg} {l : List Pt} (h : chkG xs ≠ 0) : runA xs l = (chkG xs, []) := by unfold runA; rw [if_pos h]
theorem runA_2 {xs : List Sg} {l : List Pt} (h : chkG xs = 0) (h2 : l.length > 512) : runA xs l = (2, []) := by unfold runA; rw [if_neg (by rw [h]; decide), if_pos h2]
theorem runA_3 {xs : List Sg} {l : List Pt} (h : chkG xs = 0) (h2 : ¬ l.length > 512) : runA xs l = runR xs l := by unfold runA; rw [if_neg (by rw [h]; decide), if_neg h2]
theorem ap_370 {xs : List Sg} {p : Pt} (h : apB xs p = true) : apE xs p = 370 := by unfold apB at h; unfold apE; rw [if_pos h]
theorem ap_2 {xs : List Sg} {p : Pt} (h : apB xs p = false) (h2 : p.kind = 2) (h3 : xs.length ≥ 4096) : apE xs p = 2 := by
  unfold apE; rw [if_neg (by unfold apB at h; rw [h]; decide), if_pos (by simp [h2, h3])]
theorem ap_0 {xs : List Sg} {p : Pt} (h : apB xs p = false) (h2 : p.kind = 2 → xs.length < 4096) : apE xs p = 0 := by
  unfold apE; rw [if_neg (by unfold apB at h; rw [h]; decide), if_neg]
  intro h3
  simp only [Bool.and_eq_true, beq_iff_eq, decide_eq_true_eq] at h3
  have := h2 h3.1
  omega
theorem apG_3 {xs : List Sg} {p : Pt} {i : Nat} {x : Sg} (hs : Srt xs) (hk : p.kind = 3) (hx : xs[i]? = some x) (he : x.id = p.sign) : apG xs p = xs.take i ++ xs.drop (i + 1) := by
  unfold apG; rw [if_neg (by omega), if_pos hk, ← he]; exact rem_low hs hx
theorem apG_2 {xs : List Sg} {p : Pt} (hk : p.kind = 2) (hp : PtOK p) : apG xs p = (xs.take (lowK Sg.id xs p.sign) ++ [p.nw]) ++ xs.drop (lowK Sg.id xs p.sign) := by
  unfold apG; rw [if_pos hk, put_low, (hp.ins hk).1]
theorem apG_1 {xs : List Sg} {p : Pt} {i : Nat} {x : Sg} (hs : Srt xs) (hk : p.kind = 1) (hx : xs[i]? = some x) (he : x.id = p.sign) : apG xs p = xs.set i (setG x p.field p.nw) := by
  have hi := (List.getElem?_eq_some_iff.1 hx).1
  unfold apG; rw [if_neg (by omega), if_neg (by omega), ← he, set_low (fun y => setG y p.field p.nw) hs hx, List.set_eq_take_append_cons_drop, if_pos hi]
end Go.Proofs.Ytccomeanpppfmaa
end
section
namespace Go.Proofs.Ytccomeanpppfmaa
open Go Go.Kn Go.Proofs
theorem w_apply {I : HMap} {av : Option Addr} {n c : Nat} {xs : List Sg} (hS : Sl I 14 encG av n c xs) (hn : n ≤ 4096) (hs : Srt xs) (hb : ∀ x ∈ xs, 0 ≤ x.id ∧ x.id ≤ 1048576) (p : Pt) (hp : PtOK p) : RetM Try.prog 35 [.slice av n c, encPA p] I [] (ResG (apE xs p) (resF (apE xs p) (apG xs p))) := by
  intro g H w hw
  refine enter Try.func35 rfl Try.ntmps35 rfl hw ?_
  have hIc := HLe.refl I
  have hil : (lowK Sg.id xs p.sign) ≤ n := by rw [← hS.len]; exact low_le
  refine X_seq ?_
  refine X_region ?_
  refine XO_box rfl rfl rfl (fun b_3 => ?_)
  refine XO_v0 (ev_assign rfl) rfl rfl rfl ?_
  refine XO_v0 (ev_assign rfl) rfl rfl rfl ?_
  refine XO_nil ?_
  refine at_then ?_
  refine X_seq ?_
  refine X_region ?_
  refine XO_v0 (ev_move rfl) rfl rfl rfl ?_
  refine XO_v0 (ev_fieldAddr rfl fld_37_2) rfl rfl rfl ?_
  refine XO_v0 (ev_load rfl sct_3 (fun hg => by first | exact Cell.h0 rfl | exact Cell.h1 rfl | exact Cell.h2 rfl | exact Cell.h3 rfl | exact Cell.h4 rfl | exact Cell.h5 rfl | (repeat (first | exact Cell.here rfl | apply Cell.there | apply Cell.app)))) rfl rfl rfl ?_
  refine XO_callV0 (cap := []) (vs := [_, _]) rfl rfl fun_54 (w_at hS (by omega) hs hb p.sign hp.sg) rfl rfl ?_
  refine XO_v0 (ev_move rfl) rfl rfl rfl ?_
  refine XO_v0 (ev_extract rfl rfl) rfl rfl rfl ?_
  refine XO_v0 (ev_extract rfl rfl) rfl rfl rfl ?_
  refine XO_v0 (ev_assign rfl) rfl rfl rfl ?_
  refine XO_v0 (ev_assign rfl) rfl rfl rfl ?_
  refine XO_nil ?_
  refine at_then ?_
  refine X_seq ?_
  refine X_block ?_
  refine X_seq ?_
  refine X_region ?_
  refine XO_v0 (ev_fieldAddr rfl fld_37_1) rfl rfl rfl ?_
  refine XO_v0 (ev_load rfl sct_3 (fun hg => by first | exact Cell.h0 rfl | exact Cell.h1 rfl | exact Cell.h2 rfl | exact Cell.h3 rfl | exact Cell.h4 rfl | exact Cell.h5 rfl | (repeat (first | exact Cell.here rfl | apply Cell.there | apply Cell.app)))) rfl rfl rfl ?_
  refine XO_v0 (ev_cmp rfl rfl rfl) rfl rfl rfl ?_
  refine XO_v0 (ev_move rfl) rfl rfl rfl ?_
  refine XO_pushT 3 rfl rfl rfl ?_
  refine XO_v1 (ev_move rfl) (.some rfl rfl rfl rfl gbt) rfl rfl rfl ?_
  refine XO_v1 (ev_not rfl) (.some rfl rfl rfl rfl gbt) rfl rfl rfl ?_
  refine XO_and0 rfl rfl rfl rfl rfl ?_
  refine XO_v0 (ev_assign rfl) rfl rfl rfl ?_
  refine XO_nil ?_
  refine at_then ?_
  refine X_cond rfl (fun hc15 => ?_) (fun hc15 => ?_)
  · skip
    have he := ap_none hc15
    refine X_seq ?_
    refine X_region ?_
    refine XO_v0 (ev_move rfl) rfl rfl rfl ?_
    refine XO_v0 (ev_assign rfl) rfl rfl rfl ?_
    refine XO_v0 (ev_assign rfl) rfl rfl rfl ?_
    refine XO_nil ?_
    refine at_then ?_
    refine X_ret ?_
    refine at_block_r ?_
    refine at_then_r ?_
    first
    | exact at_ret2 rfl rfl rfl (fun w hw => ⟨_, I, [], rfl, hIc, hw.drop, ResG.good he.1.symm (by rw [he.1]; exact he.2.symm) hS⟩)
    | exact at_ret2 rfl rfl rfl (fun w hw => ⟨_, I, [], rfl, hIc, hw.drop, by rw [he]; exact ResG.empty (resF_bad (by decide))⟩)
    | exact at_ret2 rfl rfl rfl (fun w hw => ⟨_, I, [], rfl, hIc, hw.drop, ResG.good he.symm (by rw [he, resF_ok rfl, apG_3 hs hk3 hx hxe]) hR⟩)
    | exact at_ret2 rfl rfl rfl (fun w hw => by obtain ⟨I9, h91, h92, h93⟩ := OwnS.res hO2 encG_len (by decide) (hw.subL subL_left); obtain ⟨_, a9, c9, e9, h94⟩ := h93; cases e9; exact ⟨_, I9, [], rfl, hIc.trans h91, h92, ResG.good he.symm (by rw [he, resF_ok rfl, apG_2 hk2 hp]) h94⟩)
    | exact at_ret2 rfl rfl rfl (fun w hw => by obtain ⟨I9, h91, h92, h93⟩ := OwnS.res (hset _) encG_len (by decide) (hw.subL subL_left); obtain ⟨_, a9, c9, e9, h94⟩ := h93; cases e9; exact ⟨_, I9, [], rfl, hIc.trans h91, h92, ResG.good he.symm (by rw [he, resF_ok rfl, apG_1 hs hk1 hx hxe]) h94⟩)
  · skip
    refine X_seq ?_
    refine X_region ?_
    refine XO_v0 (ev_fieldAddr rfl fld_37_1) rfl rfl rfl ?_
    refine XO_v0 (ev_load rfl sct_3 (fun hg => by first | exact Cell.h0 rfl | exact Cell.h1 rfl | exact Cell.h2 rfl | exact Cell.h3 rfl | exact Cell.h4 rfl | exact Cell.h5 rfl | (repeat (first | exact Cell.here rfl | apply Cell.there | apply Cell.app)))) rfl rfl rfl ?_
    refine XO_v0 (ev_cmp rfl rfl rfl) rfl rfl rfl ?_
    refine XO_v0 (ev_move rfl) rfl rfl rfl ?_
    refine XO_pushT 3 rfl rfl rfl ?_
    refine XO_v1 (ev_move rfl) (.some rfl rfl rfl rfl gbt) rfl rfl rfl ?_
    refine XO_v1 (ev_not rfl) (.some rfl rfl rfl rfl gbt) rfl rfl rfl ?_
    refine XO_and0 rfl rfl rfl rfl rfl ?_
    refine XO_v0 (ev_move rfl) rfl rfl rfl ?_
    refine XO_pushF 7 rfl rfl rfl ?_
    refine XO_v1 (ev_fieldAddr rfl fld_37_1) (.some rfl rfl rfl rfl gbf) rfl rfl rfl ?_
    refine XO_v1 (ev_load rfl sct_3 (fun hg => by first | exact Cell.h0 rfl | exact Cell.h1 rfl | exact Cell.h2 rfl | exact Cell.h3 rfl | exact Cell.h4 rfl | exact Cell.h5 rfl | (repeat (first | exact Cell.here rfl | apply Cell.there | apply Cell.app)))) (.some rfl rfl rfl rfl gbf) rfl rfl rfl ?_
    refine XO_v1 (ev_cmp rfl rfl rfl) (.some rfl rfl rfl rfl gbf) rfl rfl rfl ?_
    refine XO_v1 (ev_move rfl) (.some rfl rfl rfl rfl gbf) rfl rfl rfl ?_
    refine XO_pushT 11 rfl rfl rfl ?_
    refine XO_v1 (ev_move rfl) (.some rfl rfl rfl rfl gbt) rfl rfl rfl ?_
    refine XO_and1 rfl rfl rfl (.some rfl rfl rfl rfl gbf) rfl rfl ?_
    refine XO_or0 rfl rfl rfl rfl rfl ?_
    refine XO_v0 (ev_assign rfl) rfl rfl rfl ?_
    refine XO_nil ?_
    refine at_then ?_
    refine X_cond rfl (fun hc24 => ?_) (fun hc24 => ?_)
    · skip
      have he := ap_370 (xs := xs) (p := p) hc24
      refine X_seq ?_
      refine X_region ?_
      refine XO_v0 (ev_assign rfl) rfl rfl rfl ?_
      refine XO_v0 (ev_assign rfl) rfl rfl rfl ?_
      refine XO_nil ?_
      refine at_then ?_
      refine X_ret ?_
      refine at_block_r ?_
      refine at_then_r ?_
      first
      | exact at_ret2 rfl rfl rfl (fun w hw => ⟨_, I, [], rfl, hIc, hw.drop, ResG.good he.1.symm (by rw [he.1]; exact he.2.symm) hS⟩)
      | exact at_ret2 rfl rfl rfl (fun w hw => ⟨_, I, [], rfl, hIc, hw.drop, by rw [he]; exact ResG.empty (resF_bad (by decide))⟩)
      | exact at_ret2 rfl rfl rfl (fun w hw => ⟨_, I, [], rfl, hIc, hw.drop, ResG.good he.symm (by rw [he, resF_ok rfl, apG_3 hs hk3 hx hxe]) hR⟩)
      | exact at_ret2 rfl rfl rfl (fun w hw => by obtain ⟨I9, h91, h92, h93⟩ := OwnS.res hO2 encG_len (by decide) (hw.subL subL_left); obtain ⟨_, a9, c9, e9, h94⟩ := h93; cases e9; exact ⟨_, I9, [], rfl, hIc.trans h91, h92, ResG.good he.symm (by rw [he, resF_ok rfl, apG_2 hk2 hp]) h94⟩)
      | exact at_ret2 rfl rfl rfl (fun w hw => by obtain ⟨I9, h91, h92, h93⟩ := OwnS.res (hset _) encG_len (by decide) (hw.subL subL_left); obtain ⟨_, a9, c9, e9, h94⟩ := h93; cases e9; exact ⟨_, I9, [], rfl, hIc.trans h91, h92, ResG.good he.symm (by rw [he, resF_ok rfl, apG_1 hs hk1 hx hxe]) h94⟩)
    · skip
      have hB : apB xs p = false := hc24
      refine X_seq ?_
      refine X_region ?_
      refine XO_v0 (ev_fieldAddr rfl fld_37_1) rfl rfl rfl ?_
      refine XO_v0 (ev_load rfl sct_3 (fun hg => by first | exact Cell.h0 rfl | exact Cell.h1 rfl | exact Cell.h2 rfl | exact Cell.h3 rfl | exact Cell.h4 rfl | exact Cell.h5 rfl | (repeat (first | exact Cell.here rfl | apply Cell.there | apply Cell.app)))) rfl rfl rfl ?_
      refine XO_v0 (ev_cmp rfl rfl rfl) rfl rfl rfl ?_
      refine XO_v0 (ev_move rfl) rfl rfl rfl ?_
      refine XO_pushT 3 rfl rfl rfl ?_
      refine XO_v1 (ev_move rfl) (.some rfl rfl rfl rfl gbt) rfl rfl rfl ?_
      refine XO_v1 (ev_lenS rfl slt_39) (.some rfl rfl rfl rfl gbt) rfl rfl rfl ?_
      refine XO_v1 (ev_cmp rfl rfl rfl) (.some rfl rfl rfl rfl gbt) rfl rfl rfl ?_
      refine XO_and0 rfl rfl rfl rfl rfl ?_
      refine XO_v0 (ev_assign rfl) rfl rfl rfl ?_
      refine XO_nil ?_
      refine at_then ?_
      refine X_cond rfl (fun hc40 => ?_) (fun hc40 => ?_)
      · skip
        have h40 := (Bool.and_eq_true _ _).mp hc40
        have he := ap_2 hB (by simpa using h40.1) (by rw [hS.len]; have h := h40.2; simp at h; omega)
        refine X_seq ?_
        refine X_region ?_
        refine XO_v0 (ev_assign rfl) rfl rfl rfl ?_
        refine XO_v0 (ev_assign rfl) rfl rfl rfl ?_
        refine XO_nil ?_
        refine at_then ?_
        refine X_ret ?_
        refine at_block_r ?_
        refine at_then_r ?_
        first
        | exact at_ret2 rfl rfl rfl (fun w hw => ⟨_, I, [], rfl, hIc, hw.drop, ResG.good he.1.symm (by rw [he.1]; exact he.2.symm) hS⟩)
        | exact at_ret2 rfl rfl rfl (fun w hw => ⟨_, I, [], rfl, hIc, hw.drop, by rw [he]; exact ResG.empty (resF_bad (by decide))⟩)
        | exact at_ret2 rfl rfl rfl (fun w hw => ⟨_, I, [], rfl, hIc, hw.drop, ResG.good he.symm (by rw [he, resF_ok rfl, apG_3 hs hk3 hx hxe]) hR⟩)
        | exact at_ret2 rfl rfl rfl (fun w hw => by obtain ⟨I9, h91, h92, h93⟩ := OwnS.res hO2 encG_len (by decide) (hw.subL subL_left); obtain ⟨_, a9, c9, e9, h94⟩ := h93; cases e9; exact ⟨_, I9, [], rfl, hIc.trans h91, h92, ResG.good he.symm (by rw [he, resF_ok rfl, apG_2 hk2 hp]) h94⟩)
        | exact at_ret2 rfl rfl rfl (fun w hw => by obtain ⟨I9, h91, h92, h93⟩ := OwnS.res (hset _) encG_len (by decide) (hw.subL subL_left); obtain ⟨_, a9, c9, e9, h94⟩ := h93; cases e9; exact ⟨_, I9, [], rfl, hIc.trans h91, h92, ResG.good he.symm (by rw [he, resF_ok rfl, apG_1 hs hk1 hx hxe]) h94⟩)
      · skip
        have he : apE xs p = 0 := ap_0 hB (fun hk => by rw [hS.len]; have h := hc40; simp [hk] at h; omega)
        refine X_seq ?_
        refine X_region ?_
        refine XO_v0 (ev_fieldAddr rfl fld_37_1) rfl rfl rfl ?_
        refine XO_v0 (ev_load rfl sct_3 (fun hg => by first | exact Cell.h0 rfl | exact Cell.h1 rfl | exact Cell.h2 rfl | exact Cell.h3 rfl | exact Cell.h4 rfl | exact Cell.h5 rfl | (repeat (first | exact Cell.here rfl | apply Cell.there | apply Cell.app)))) rfl rfl rfl ?_
        refine XO_v0 (ev_cmp rfl rfl rfl) rfl rfl rfl ?_
        refine XO_v0 (ev_assign rfl) rfl rfl rfl ?_
        refine XO_nil ?_
        refine at_then ?_
        refine X_cond rfl (fun hc49 => ?_) (fun hc49 => ?_)
        · skip
          have hk3 : p.kind = 3 := by simpa using hc49
          have hh : hasS xs p.sign = true := by have h := hc15; simpa [hk3] using h
          obtain ⟨x, hx, hxe⟩ := low_hit hs hh
          refine X_seq ?_
          have hlt := (List.getElem?_eq_some_iff.1 hx).1
          rw [hS.len] at hlt
          have hD := HLe.refl I
          refine X_drawC mixed ?_
          refine XD_take 0 rfl (ev_move rfl) (.none rfl) rfl rfl rfl (by kernel_rfl) (by kernel_rfl) (by kernel_rfl) noP_ok hD (by repeat (first | exact .refl | exact subL_nil | refine .keep ?_ | refine .drop ?_ | refine subL_add ?_)) ?_
          refine XD_take 1 rfl (ev_move rfl) (.none rfl) rfl rfl rfl (by kernel_rfl) (by kernel_rfl) (by kernel_rfl) noP_ok hD (by repeat (first | exact .refl | exact subL_nil | refine .keep ?_ | refine .drop ?_ | refine subL_add ?_)) ?_
          refine XD_take 2 rfl (ev_move rfl) (.none rfl) rfl rfl rfl (by kernel_rfl) (by kernel_rfl) (by kernel_rfl) noP_ok hD (by repeat (first | exact .refl | exact subL_nil | refine .keep ?_ | refine .drop ?_ | refine subL_add ?_)) ?_
          refine XD_take 3 rfl (ev_sliceM rfl rfl rfl slt_39 (fun _ => by have := hS.cap; omega)) (.none rfl) rfl rfl rfl (by kernel_rfl) (by kernel_rfl) (by kernel_rfl) noP_ok hD (by repeat (first | exact .refl | exact subL_nil | refine .keep ?_ | refine .drop ?_ | refine subL_add ?_)) ?_
          refine XD_take 4 rfl (ev_move rfl) (.none rfl) rfl rfl rfl (by kernel_rfl) (by kernel_rfl) (by kernel_rfl) noP_ok hD (by repeat (first | exact .refl | exact subL_nil | refine .keep ?_ | refine .drop ?_ | refine subL_add ?_)) ?_
          refine XD_take 5 rfl (ev_move rfl) (.none rfl) rfl rfl rfl (by kernel_rfl) (by kernel_rfl) (by kernel_rfl) noP_ok hD (by repeat (first | exact .refl | exact subL_nil | refine .keep ?_ | refine .drop ?_ | refine subL_add ?_)) ?_
          refine XD_take 6 rfl (ev_arB rfl rfl rfl (fun _ => by omega)) (.none rfl) rfl rfl rfl (by kernel_rfl) (by kernel_rfl) (by kernel_rfl) noP_ok hD (by repeat (first | exact .refl | exact subL_nil | refine .keep ?_ | refine .drop ?_ | refine subL_add ?_)) ?_
          refine XD_take 7 rfl (ev_sliceLo rfl rfl slt_39 (fun hg => by omega)) (.none rfl) rfl rfl rfl (by kernel_rfl) (by kernel_rfl) (by kernel_rfl) noP_ok hD (by repeat (first | exact .refl | exact subL_nil | refine .keep ?_ | refine .drop ?_ | refine subL_add ?_)) ?_
          refine XD_one 8 rfl (by kernel_rfl) ?_
          refine XO_appendCut encG_len (by decide) rfl rfl elt_39 ((hS.take hil).cut) (hS.drop (k := (lowK Sg.id xs p.sign) + 1) (by omega)) (by omega) rfl rfl ?_
          intro I1 ac cc hI1 hR
          have hS := hS.mono hI1
          have hIc := hIc.trans hI1
          have hD := hD.trans hI1
          refine XO_nil ?_
          refine at_D hD (by repeat (first | exact .refl | exact subL_nil | refine .keep ?_ | refine .drop ?_ | refine subL_add ?_)) ?_
          refine XD_take 9 rfl (ev_assign rfl) (.none rfl) rfl rfl rfl (by kernel_rfl) (by kernel_rfl) (by kernel_rfl) noP_ok hD (by repeat (first | exact .refl | exact subL_nil | refine .keep ?_ | refine .drop ?_ | refine subL_add ?_)) ?_
          refine XD_take 10 rfl (ev_assign rfl) (.none rfl) rfl rfl rfl (by kernel_rfl) (by kernel_rfl) (by kernel_rfl) noP_ok hD (by repeat (first | exact .refl | exact subL_nil | refine .keep ?_ | refine .drop ?_ | refine subL_add ?_)) ?_
          refine XD_done (by kernel_rfl) ?_
          refine at_noP ?_
          refine at_then ?_
          refine X_ret ?_
          refine at_block_r ?_
          refine at_then_r ?_
          first
          | exact at_ret2 rfl rfl rfl (fun w hw => ⟨_, I1, [], rfl, hIc, hw.drop, ResG.good he.1.symm (by rw [he.1]; exact he.2.symm) hS⟩)
          | exact at_ret2 rfl rfl rfl (fun w hw => ⟨_, I1, [], rfl, hIc, hw.drop, by rw [he]; exact ResG.empty (resF_bad (by decide))⟩)
          | exact at_ret2 rfl rfl rfl (fun w hw => ⟨_, I1, [], rfl, hIc, hw.drop, ResG.good he.symm (by rw [he, resF_ok rfl, apG_3 hs hk3 hx hxe]) hR⟩)
          | exact at_ret2 rfl rfl rfl (fun w hw => by obtain ⟨I9, h91, h92, h93⟩ := OwnS.res hO2 encG_len (by decide) (hw.subL subL_left); obtain ⟨_, a9, c9, e9, h94⟩ := h93; cases e9; exact ⟨_, I9, [], rfl, hIc.trans h91, h92, ResG.good he.symm (by rw [he, resF_ok rfl, apG_2 hk2 hp]) h94⟩)
          | exact at_ret2 rfl rfl rfl (fun w hw => by obtain ⟨I9, h91, h92, h93⟩ := OwnS.res (hset _) encG_len (by decide) (hw.subL subL_left); obtain ⟨_, a9, c9, e9, h94⟩ := h93; cases e9; exact ⟨_, I9, [], rfl, hIc.trans h91, h92, ResG.good he.symm (by rw [he, resF_ok rfl, apG_1 hs hk1 hx hxe]) h94⟩)
        · skip
          have hk3 : p.kind ≠ 3 := by simpa using hc49
          refine X_seq ?_
          refine X_region ?_
          refine XO_v0 (ev_fieldAddr rfl fld_37_1) rfl rfl rfl ?_
          refine XO_v0 (ev_load rfl sct_3 (fun hg => by first | exact Cell.h0 rfl | exact Cell.h1 rfl | exact Cell.h2 rfl | exact Cell.h3 rfl | exact Cell.h4 rfl | exact Cell.h5 rfl | (repeat (first | exact Cell.here rfl | apply Cell.there | apply Cell.app)))) rfl rfl rfl ?_
          refine XO_v0 (ev_cmp rfl rfl rfl) rfl rfl rfl ?_
          refine XO_v0 (ev_assign rfl) rfl rfl rfl ?_
          refine XO_nil ?_
          refine at_then ?_
          refine X_cond rfl (fun hc62 => ?_) (fun hc62 => ?_)
          · skip
            have hk2 : p.kind = 2 := by simpa using hc62
            refine X_seq ?_
            have hD := HLe.refl I
            refine X_drawC mixed ?_
            refine XD_take 0 rfl (ev_move rfl) (.none rfl) rfl rfl rfl (by kernel_rfl) (by kernel_rfl) (by kernel_rfl) noP_ok hD (by repeat (first | exact .refl | exact subL_nil | refine .keep ?_ | refine .drop ?_ | refine subL_add ?_)) ?_
            refine XD_take 1 rfl (ev_move rfl) (.none rfl) rfl rfl rfl (by kernel_rfl) (by kernel_rfl) (by kernel_rfl) noP_ok hD (by repeat (first | exact .refl | exact subL_nil | refine .keep ?_ | refine .drop ?_ | refine subL_add ?_)) ?_
            refine XD_take 2 rfl (ev_move rfl) (.none rfl) rfl rfl rfl (by kernel_rfl) (by kernel_rfl) (by kernel_rfl) noP_ok hD (by repeat (first | exact .refl | exact subL_nil | refine .keep ?_ | refine .drop ?_ | refine subL_add ?_)) ?_
            refine XD_take 3 rfl (ev_sliceM rfl rfl rfl slt_39 (fun _ => by have := hS.cap; omega)) (.none rfl) rfl rfl rfl (by kernel_rfl) (by kernel_rfl) (by kernel_rfl) noP_ok hD (by repeat (first | exact .refl | exact subL_nil | refine .keep ?_ | refine .drop ?_ | refine subL_add ?_)) ?_
            refine XD_take 4 rfl (ev_fieldAddr rfl fld_37_4) (.none rfl) rfl rfl rfl (by kernel_rfl) (by kernel_rfl) (by kernel_rfl) noP_ok hD (by repeat (first | exact .refl | exact subL_nil | refine .keep ?_ | refine .drop ?_ | refine subL_add ?_)) ?_
            refine XD_take 5 rfl (ev_loadA rfl agt_35 (fun hg => by first | exact Cells.s0 (vs := encG x) hseg | exact Cells.g0 | exact Cells.g1 | exact Cells.g2 | exact Cells.g3 | exact Cells.g4 | exact Cells.g5 | exact Cells.s0 (vs := [_, _, _, _, _, _, _, _, _, _, _, _, _, _]) rfl | exact Cells.s1 (vs := [_, _, _, _, _, _, _, _, _, _, _, _, _, _]) rfl | exact Cells.s2 (vs := [_, _, _, _, _, _, _, _, _, _, _, _, _, _]) rfl | exact Cells.s3 (vs := [_, _, _, _, _, _, _, _, _, _, _, _, _, _]) rfl | exact Cells.s4 (vs := [_, _, _, _, _, _, _, _, _, _, _, _, _, _]) rfl | exact Cells.s5 (vs := [_, _, _, _, _, _, _, _, _, _, _, _, _, _]) rfl | (repeat (first | exact Cells.here | apply Cells.there | apply Cells.app))) rfl) (.none rfl) rfl rfl rfl (by kernel_rfl) (by kernel_rfl) (by kernel_rfl) noP_ok hD (by repeat (first | exact .refl | exact subL_nil | refine .keep ?_ | refine .drop ?_ | refine subL_add ?_)) ?_
            refine XD_take 8 rfl (ev_move rfl) (.none rfl) rfl rfl rfl (by kernel_rfl) (by kernel_rfl) (by kernel_rfl) noP_ok hD (by repeat (first | exact .refl | exact subL_nil | refine .keep ?_ | refine .drop ?_ | refine subL_add ?_)) ?_
            refine XD_take 9 rfl (ev_move rfl) (.none rfl) rfl rfl rfl (by kernel_rfl) (by kernel_rfl) (by kernel_rfl) noP_ok hD (by repeat (first | exact .refl | exact subL_nil | refine .keep ?_ | refine .drop ?_ | refine subL_add ?_)) ?_
            refine XD_take 10 rfl (ev_sliceLo rfl rfl slt_39 (fun hg => by omega)) (.none rfl) rfl rfl rfl (by kernel_rfl) (by kernel_rfl) (by kernel_rfl) noP_ok hD (by repeat (first | exact .refl | exact subL_nil | refine .keep ?_ | refine .drop ?_ | refine subL_add ?_)) ?_
            refine XD_one 6 rfl (by kernel_rfl) ?_
            refine XO_buildSlice (ps := [(0, _)]) (m := [encG p.nw]) elt_39 rfl (.cons rfl (.nil)) rfl (by simp [encG_len]) (by decide) (by decide) rfl rfl (fun b_72 => ?_)
            refine XO_nil ?_
            refine at_D hD (by repeat (first | exact .refl | exact subL_nil | refine .keep ?_ | refine .drop ?_ | refine subL_add ?_)) ?_
            refine XD_one 7 rfl (by kernel_rfl) ?_
            refine XO_appendCutO (ys := [p.nw].flatMap encG) encG_len rfl rfl elt_39 (hS.take hil).cut ⟨rfl, fun _ => rfl, Cells.here⟩ (by decide) (by omega) rfl rfl ?_
            intro v1 L1 hO1
            refine XO_nil ?_
            refine at_D hD (by repeat (first | exact .refl | exact subL_nil | refine .keep ?_ | refine .drop ?_ | refine subL_add ?_)) ?_
            refine XD_one 11 rfl (by kernel_rfl) ?_
            refine XO_append (v := _) (ys := (xs.drop (lowK Sg.id xs p.sign)).flatMap encG) (L := L1) rfl rfl elt_39 hO1 (by repeat (first | exact .cons .here .nil | exact split_all | exact split_app | apply split_cons | apply split_skip)) ((hS.drop hil).src encG_len) (one_G _) (by omega) rfl rfl ?_
            intro v2 L2 hO2 _; rw [← List.flatMap_append, ← List.flatMap_append] at hO2
            refine XO_nil ?_
            refine at_D hD (by repeat (first | exact .refl | exact subL_nil | refine .keep ?_ | refine .drop ?_ | refine subL_add ?_)) ?_
            refine XD_take 12 rfl (ev_assign rfl) (.none rfl) rfl rfl rfl (by kernel_rfl) (by kernel_rfl) (by kernel_rfl) noP_ok hD (by repeat (first | exact .refl | exact subL_nil | refine .keep ?_ | refine .drop ?_ | refine subL_add ?_)) ?_
            refine XD_take 13 rfl (ev_assign rfl) (.none rfl) rfl rfl rfl (by kernel_rfl) (by kernel_rfl) (by kernel_rfl) noP_ok hD (by repeat (first | exact .refl | exact subL_nil | refine .keep ?_ | refine .drop ?_ | refine subL_add ?_)) ?_
            refine XD_done (by kernel_rfl) ?_
            refine at_noP ?_
            refine at_then ?_
            refine X_ret ?_
            refine at_block_r ?_
            refine at_then_r ?_
            first
            | exact at_ret2 rfl rfl rfl (fun w hw => ⟨_, I, [], rfl, hIc, hw.drop, ResG.good he.1.symm (by rw [he.1]; exact he.2.symm) hS⟩)
            | exact at_ret2 rfl rfl rfl (fun w hw => ⟨_, I, [], rfl, hIc, hw.drop, by rw [he]; exact ResG.empty (resF_bad (by decide))⟩)
            | exact at_ret2 rfl rfl rfl (fun w hw => ⟨_, I, [], rfl, hIc, hw.drop, ResG.good he.symm (by rw [he, resF_ok rfl, apG_3 hs hk3 hx hxe]) hR⟩)
            | exact at_ret2 rfl rfl rfl (fun w hw => by obtain ⟨I9, h91, h92, h93⟩ := OwnS.res hO2 encG_len (by decide) (hw.subL subL_left); obtain ⟨_, a9, c9, e9, h94⟩ := h93; cases e9; exact ⟨_, I9, [], rfl, hIc.trans h91, h92, ResG.good he.symm (by rw [he, resF_ok rfl, apG_2 hk2 hp]) h94⟩)
            | exact at_ret2 rfl rfl rfl (fun w hw => by obtain ⟨I9, h91, h92, h93⟩ := OwnS.res (hset _) encG_len (by decide) (hw.subL subL_left); obtain ⟨_, a9, c9, e9, h94⟩ := h93; cases e9; exact ⟨_, I9, [], rfl, hIc.trans h91, h92, ResG.good he.symm (by rw [he, resF_ok rfl, apG_1 hs hk1 hx hxe]) h94⟩)
          · skip
            have hk2 : p.kind ≠ 2 := by simpa using hc62
            have hk1 : p.kind = 1 := by rcases hp.kind with h | h | h <;> omega
            have hh : hasS xs p.sign = true := by have h := hB; unfold apB at h; simpa [hk1] using h
            obtain ⟨x, hx, hxe⟩ := low_hit hs hh
            refine X_skip ?_
            refine at_block_n ?_
            refine at_then ?_
            refine X_seq ?_
            refine X_region ?_
            refine XO_v0 (ev_move rfl) rfl rfl rfl ?_
            refine XO_callM (cap := []) (vs := [_]) rfl rfl fun_43 .nil (w_cloneG hS (by omega)) rfl rfl ?_
            rintro vv2 I2 L2 hI2 ⟨rfl, hO⟩
            have hS := hS.mono hI2
            have hIc := hIc.trans hI2
            refine XO_v0 (ev_assign rfl) rfl rfl rfl ?_
            refine XO_nil ?_
            refine at_then ?_
            refine X_seq ?_
            obtain ⟨hki, b9, c9, cur, rfl, rfl, hseg, hle, hset⟩ := hO.spot encG_len (by decide) hx
            have hD := HLe.refl I2
            refine X_noP ?_
            refine X_drawS I2 [(b_3, .cells (encP p).toArray 37 (0, 0))] mixed ?_
            refine XD_take 0 rfl (ev_move rfl) (.none rfl) rfl rfl rfl (by kernel_rfl) (by kernel_rfl) (by kernel_rfl) noP_ok hD (by repeat (first | exact .refl | exact subL_nil | refine .keep ?_ | refine .drop ?_ | refine subL_add ?_)) ?_
            refine XD_take 1 rfl (ev_move rfl) (.none rfl) rfl rfl rfl (by kernel_rfl) (by kernel_rfl) (by kernel_rfl) noP_ok hD (by repeat (first | exact .refl | exact subL_nil | refine .keep ?_ | refine .drop ?_ | refine subL_add ?_)) ?_
            refine XD_take 2 rfl (ev_move rfl) (.none rfl) rfl rfl rfl (by kernel_rfl) (by kernel_rfl) (by kernel_rfl) noP_ok hD (by repeat (first | exact .refl | exact subL_nil | refine .keep ?_ | refine .drop ?_ | refine subL_add ?_)) ?_
            refine XD_take 3 rfl (ev_move rfl) (.none rfl) rfl rfl rfl (by kernel_rfl) (by kernel_rfl) (by kernel_rfl) noP_ok hD (by repeat (first | exact .refl | exact subL_nil | refine .keep ?_ | refine .drop ?_ | refine subL_add ?_)) ?_
            refine XD_take 4 rfl (ev_indexOwn rfl rfl slt_39 (fun _ => by omega)) (.none rfl) rfl rfl rfl (by kernel_rfl) (by kernel_rfl) (by kernel_rfl) noP_ok hD (by repeat (first | exact .refl | exact subL_nil | refine .keep ?_ | refine .drop ?_ | refine subL_add ?_)) ?_
            refine XD_take 6 rfl (ev_fieldAddr rfl fld_37_3) (.none rfl) rfl rfl rfl (by kernel_rfl) (by kernel_rfl) (by kernel_rfl) noP_ok hD (by repeat (first | exact .refl | exact subL_nil | refine .keep ?_ | refine .drop ?_ | refine subL_add ?_)) ?_
            refine XD_take 7 rfl (ev_load rfl sct_3 (fun hg => by first | exact Cell.h0 rfl | exact Cell.h1 rfl | exact Cell.h2 rfl | exact Cell.h3 rfl | exact Cell.h4 rfl | exact Cell.h5 rfl | (repeat (first | exact Cell.here rfl | apply Cell.there | apply Cell.app)))) (.none rfl) rfl rfl rfl (by kernel_rfl) (by kernel_rfl) (by kernel_rfl) noP_ok hD (by repeat (first | exact .refl | exact subL_nil | refine .keep ?_ | refine .drop ?_ | refine subL_add ?_)) ?_
            refine XD_take 8 rfl (ev_fieldAddr rfl fld_37_4) (.none rfl) rfl rfl rfl (by kernel_rfl) (by kernel_rfl) (by kernel_rfl) noP_ok hD (by repeat (first | exact .refl | exact subL_nil | refine .keep ?_ | refine .drop ?_ | refine subL_add ?_)) ?_
            refine XD_take 9 rfl (ev_loadA rfl agt_35 (fun hg => by first | exact Cells.s0 (vs := encG x) hseg | exact Cells.g0 | exact Cells.g1 | exact Cells.g2 | exact Cells.g3 | exact Cells.g4 | exact Cells.g5 | exact Cells.s0 (vs := [_, _, _, _, _, _, _, _, _, _, _, _, _, _]) rfl | exact Cells.s1 (vs := [_, _, _, _, _, _, _, _, _, _, _, _, _, _]) rfl | exact Cells.s2 (vs := [_, _, _, _, _, _, _, _, _, _, _, _, _, _]) rfl | exact Cells.s3 (vs := [_, _, _, _, _, _, _, _, _, _, _, _, _, _]) rfl | exact Cells.s4 (vs := [_, _, _, _, _, _, _, _, _, _, _, _, _, _]) rfl | exact Cells.s5 (vs := [_, _, _, _, _, _, _, _, _, _, _, _, _, _]) rfl | (repeat (first | exact Cells.here | apply Cells.there | apply Cells.app))) rfl) (.none rfl) rfl rfl rfl (by kernel_rfl) (by kernel_rfl) (by kernel_rfl) noP_ok hD (by repeat (first | exact .refl | exact subL_nil | refine .keep ?_ | refine .drop ?_ | refine subL_add ?_)) ?_
            refine XD_one 5 rfl (by kernel_rfl) ?_
            refine XO_v0 (ev_loadA rfl agt_35 (fun hg => by first | exact Cells.s0 (vs := encG x) hseg | exact Cells.g0 | exact Cells.g1 | exact Cells.g2 | exact Cells.g3 | exact Cells.g4 | exact Cells.g5 | exact Cells.s0 (vs := [_, _, _, _, _, _, _, _, _, _, _, _, _, _]) rfl | exact Cells.s1 (vs := [_, _, _, _, _, _, _, _, _, _, _, _, _, _]) rfl | exact Cells.s2 (vs := [_, _, _, _, _, _, _, _, _, _, _, _, _, _]) rfl | exact Cells.s3 (vs := [_, _, _, _, _, _, _, _, _, _, _, _, _, _]) rfl | exact Cells.s4 (vs := [_, _, _, _, _, _, _, _, _, _, _, _, _, _]) rfl | exact Cells.s5 (vs := [_, _, _, _, _, _, _, _, _, _, _, _, _, _]) rfl | (repeat (first | exact Cells.here | apply Cells.there | apply Cells.app))) rfl) rfl rfl rfl ?_
            refine XO_nil ?_
            refine at_D hD (by repeat (first | exact .refl | exact subL_nil | refine .keep ?_ | refine .drop ?_ | refine subL_add ?_)) ?_
            refine XD_one 10 rfl (by kernel_rfl) ?_
            refine XO_callV0 (cap := []) (vs := [_, _, _]) rfl rfl fun_36 (w_set _ x p.field p.nw (hp.set hk1).1) rfl rfl ?_
            refine XO_nil ?_
            refine at_D hD (by repeat (first | exact .refl | exact subL_nil | refine .keep ?_ | refine .drop ?_ | refine subL_add ?_)) ?_
            refine XD_take 11 rfl (ev_indexOwn rfl rfl slt_39 (fun _ => by omega)) (.none rfl) rfl rfl rfl (by kernel_rfl) (by kernel_rfl) (by kernel_rfl) noP_ok hD (by repeat (first | exact .refl | exact subL_nil | refine .keep ?_ | refine .drop ?_ | refine subL_add ?_)) ?_
            refine XD_one 12 rfl (by kernel_rfl) ?_
            refine XO_storeP (A := cur) rfl rfl szt_35 rfl (Nat.ble_eq_true_of_le hle) rfl rfl (by repeat (first | exact Upd.here | apply Upd.there | apply upd_app)) ?_
            refine XO_nil ?_
            refine at_D hD (by repeat (first | exact .refl | exact subL_nil | refine .keep ?_ | refine .drop ?_ | refine subL_add ?_)) ?_
            refine XD_done (by kernel_rfl) ?_
            refine at_noP ?_
            refine at_then ?_
            refine X_seq ?_
            refine X_region ?_
            refine XO_v0 (ev_move rfl) rfl rfl rfl ?_
            refine XO_v0 (ev_assign rfl) rfl rfl rfl ?_
            refine XO_v0 (ev_assign rfl) rfl rfl rfl ?_
            refine XO_nil ?_
            refine at_then ?_
            refine X_ret ?_
            first
            | exact at_ret2 rfl rfl rfl (fun w hw => ⟨_, I2, [], rfl, hIc, hw.drop, ResG.good he.1.symm (by rw [he.1]; exact he.2.symm) hS⟩)
            | exact at_ret2 rfl rfl rfl (fun w hw => ⟨_, I2, [], rfl, hIc, hw.drop, by rw [he]; exact ResG.empty (resF_bad (by decide))⟩)
            | exact at_ret2 rfl rfl rfl (fun w hw => ⟨_, I2, [], rfl, hIc, hw.drop, ResG.good he.symm (by rw [he, resF_ok rfl, apG_3 hs hk3 hx hxe]) hR⟩)
            | exact at_ret2 rfl rfl rfl (fun w hw => by obtain ⟨I9, h91, h92, h93⟩ := OwnS.res hO2 encG_len (by decide) (hw.subL subL_left); obtain ⟨_, a9, c9, e9, h94⟩ := h93; cases e9; exact ⟨_, I9, [], rfl, hIc.trans h91, h92, ResG.good he.symm (by rw [he, resF_ok rfl, apG_2 hk2 hp]) h94⟩)
            | exact at_ret2 rfl rfl rfl (fun w hw => by obtain ⟨I9, h91, h92, h93⟩ := OwnS.res (hset _) encG_len (by decide) (hw.subL subL_left); obtain ⟨_, a9, c9, e9, h94⟩ := h93; cases e9; exact ⟨_, I9, [], rfl, hIc.trans h91, h92, ResG.good he.symm (by rw [he, resF_ok rfl, apG_1 hs hk1 hx hxe]) h94⟩)
end Go.Proofs.Ytccomeanpppfmaa
end
section
namespace Go.Proofs.Ytccomeanpppfmaa
open Go Go.Kn Go.Proofs
theorem fun_35 : Fun Try.prog 35 := .of Try.func35 (by kernel_rfl) (by kernel_rfl)
theorem w_Run {I : HMap} {av : Option Addr} {n c : Nat} {xs : List Sg} (hS : Sl I 14 encG av n c xs) (hn : n ≤ 100000) {bv : Option Addr} {n2 c2 : Nat} {ps : List Pt} (hP : SlP I bv n2 c2 ps) (hn2 : n2 ≤ 100000) (hl : n ≤ 4096 → n + n2 ≤ 4096) : RetM Try.prog 19 [.slice av n c, .slice bv n2 c2] I [] (ResG (runA xs ps).1 (runA xs ps).2) := by
  intro g H w hw
  refine enter Try.func19 rfl Try.ntmps19 rfl hw ?_
  have hIc := HLe.refl I
  refine X_seq ?_
  refine X_region ?_
  refine XO_v0 (ev_assign rfl) rfl rfl rfl ?_
  refine XO_v0 (ev_assign rfl) rfl rfl rfl ?_
  refine XO_nil ?_
  refine at_then ?_
  refine X_seq ?_
  refine X_seq ?_
  refine X_region ?_
  refine XO_v0 (ev_move rfl) rfl rfl rfl ?_
  refine XO_callV0 (cap := []) (vs := [_]) rfl rfl fun_34 (w_chkG hS hn) rfl rfl ?_
  refine XO_v0 (ev_assign rfl) rfl rfl rfl ?_
  refine XO_nil ?_
  refine at_then ?_
  refine X_seq ?_
  refine X_region ?_
  refine XO_v0 (ev_move rfl) rfl rfl rfl ?_
  refine XO_v0 (ev_cmp rfl rfl rfl) rfl rfl rfl ?_
  refine XO_nil ?_
  refine at_then ?_
  refine X_cond rfl (fun hc11 => ?_) (fun hc11 => ?_)
  · skip
    have hck : chkG xs ≠ 0 := by simpa using hc11
    have hres := runA_1 (l := ps) hck
    refine X_seq ?_
    refine X_region ?_
    refine XO_v0 (ev_move rfl) rfl rfl rfl ?_
    refine XO_v0 (ev_assign rfl) rfl rfl rfl ?_
    refine XO_v0 (ev_assign rfl) rfl rfl rfl ?_
    refine XO_nil ?_
    refine at_then ?_
    refine X_ret ?_
    refine at_then_r ?_
    first
    | exact at_ret2 rfl rfl rfl (fun w hw => ⟨_, I, [], rfl, hIc, hw.drop, by rw [hres]; exact ResG.empty rfl⟩)
    | exact at_ret2 rfl rfl rfl (fun w hw => ⟨_, I, [], rfl, hIc, hw.drop, ResG.empty rfl⟩)
    | exact at_ret2 rfl rfl rfl (fun w hw => ⟨_, I, [], rfl, hIc, hw.drop, ResG.good rfl rfl hY⟩)
  · skip
    have hck : chkG xs = 0 := by simpa using hc11
    refine X_skip ?_
    refine at_then ?_
    refine X_seq ?_
    refine X_seq ?_
    refine X_region ?_
    refine XO_v0 (ev_move rfl) rfl rfl rfl ?_
    refine XO_v0 (ev_lenS rfl slt_22) rfl rfl rfl ?_
    refine XO_v0 (ev_cmp rfl rfl rfl) rfl rfl rfl ?_
    refine XO_nil ?_
    refine at_then ?_
    refine X_cond rfl (fun hc15 => ?_) (fun hc15 => ?_)
    · skip
      have hres := runA_2 (l := ps) hck (by rw [hP.len]; simp at hc15; omega)
      refine X_seq ?_
      refine X_region ?_
      refine XO_v0 (ev_assign rfl) rfl rfl rfl ?_
      refine XO_v0 (ev_assign rfl) rfl rfl rfl ?_
      refine XO_nil ?_
      refine at_then ?_
      refine X_ret ?_
      refine at_then_r ?_
      first
      | exact at_ret2 rfl rfl rfl (fun w hw => ⟨_, I, [], rfl, hIc, hw.drop, by rw [hres]; exact ResG.empty rfl⟩)
      | exact at_ret2 rfl rfl rfl (fun w hw => ⟨_, I, [], rfl, hIc, hw.drop, ResG.empty rfl⟩)
      | exact at_ret2 rfl rfl rfl (fun w hw => ⟨_, I, [], rfl, hIc, hw.drop, ResG.good rfl rfl hY⟩)
    · skip
      have hres := runA_3 (l := ps) hck (by rw [hP.len]; simp at hc15; omega)
      have hn4 : n ≤ 4096 := by rw [← hS.len]; exact (chkG_ok hck).1
      refine X_skip ?_
      refine at_then ?_
      refine X_seq ?_
      refine X_region ?_
      refine XO_v0 (ev_move rfl) rfl rfl rfl ?_
      refine XO_v0 (ev_assign rfl) rfl rfl rfl ?_
      refine XO_nil ?_
      refine at_then ?_
      refine X_seq ?_
      refine X_seq ?_
      refine X_region ?_
      refine XO_v0 (ev_move rfl) rfl rfl rfl ?_
      refine XO_v0 (ev_lenS rfl slt_22) rfl rfl rfl ?_
      refine XO_v0 (ev_move rfl) rfl rfl rfl ?_
      refine XO_nil ?_
      refine at_then ?_
      refine X_block ?_
      refine X_loopT [(17, _), (18, _)] (.cons rfl (.cons rfl .nil)) (fun T L0 mz E I' loc' => ∃ (k : Nat) (ys : List Sg) (a1 : Option Addr) (m1 : Nat) (c1 : Nat), mz = n2 - k ∧ E = (4, .slice a1 m1 c1) :: (19, .int .i64 k) :: T ∧ HLe I I' ∧ L0 = loc' ∧ k ≤ n2 ∧ Sl I' 14 encG a1 m1 c1 ys ∧ m1 ≤ n + k ∧ RnQ ys ∧ runR xs ps = runR ys (ps.drop k)) _ _ _ _ ⟨0, xs, av, n, c, rfl, rfl, HLe.refl _, rfl, Nat.zero_le _, hS, Nat.le_refl _, chk_rn hck, rfl⟩ (.cons rfl (.cons rfl (.cons rfl (.cons rfl .nil)))) (HLe.refl _) rfl ?_
      rintro mz E J1 loc' ⟨k, ys, a1, m1, c1, rfl, rfl, hJ, rfl, hk, hY, hm1, hrn, hrun⟩
      have hS := hS.mono hJ
      have hP := hP.mono hJ
      have hIc := hIc.trans hJ
      have hB0 := hJ
      refine X_seq ?_
      refine X_region ?_
      refine XO_v0 (ev_cmp rfl rfl rfl) rfl rfl rfl ?_
      refine XO_nil ?_
      refine at_then ?_
      refine X_seq ?_
      refine X_cond rfl (fun hc20 => ?_) (fun hc20 => ?_)
      · skip
        have hlt_k : k < n2 := by have h := hc20; simp at h; omega
        have hP1 := hP.1
        obtain ⟨p, hq, hN⟩ := hP.at hlt_k
        have hpm := List.mem_of_getElem? hq
        have hN : Sl J1 1 encI p.a p.n p.c p.needs := hN
        refine X_skip ?_
        refine at_then ?_
        refine X_seq ?_
        refine X_block ?_
        refine X_seq ?_
        refine X_region ?_
        refine XO_v0 (ev_indexSl rfl rfl slt_22 (by assumption) (fun hg => by first | omega | (simp [conj] at hg; omega))) rfl rfl rfl ?_
        refine XO_v0 (ev_loadA rfl agt_37 (fun hg => by first | exact Sl.getA hP1 hq | exact Cells.g0 | exact Cells.g1 | exact Cells.g2 | exact Cells.g3 | exact Cells.g4 | exact Cells.g5 | exact Cells.s0 (vs := [_, _, _, _, _, _, _, _, _, _, _, _, _, _, _, _, _, _, _]) rfl | exact Cells.s1 (vs := [_, _, _, _, _, _, _, _, _, _, _, _, _, _, _, _, _, _, _]) rfl | exact Cells.s2 (vs := [_, _, _, _, _, _, _, _, _, _, _, _, _, _, _, _, _, _, _]) rfl | exact Cells.s3 (vs := [_, _, _, _, _, _, _, _, _, _, _, _, _, _, _, _, _, _, _]) rfl | exact Cells.s4 (vs := [_, _, _, _, _, _, _, _, _, _, _, _, _, _, _, _, _, _, _]) rfl | exact Cells.s5 (vs := [_, _, _, _, _, _, _, _, _, _, _, _, _, _, _, _, _, _, _]) rfl | (repeat (first | exact Cells.here | apply Cells.there | apply Cells.app))) rfl) rfl rfl rfl ?_
        refine XO_alloc zt_37 rfl rfl (fun b_7 => ?_)
        refine XO_storeA rfl rfl szt_37 rfl rfl rfl rfl (by first | exact Upd.u0 | exact Upd.u1 | exact Upd.u2 | exact Upd.u3 | exact Upd.u4 | exact Upd.u5 | (repeat (first | exact Upd.here | apply Upd.there | apply upd_app))) ?_
        refine XO_nil ?_
        refine at_then ?_
        refine X_seq ?_
        refine X_seq ?_
        refine X_region ?_
        refine XO_v0 (ev_loadA rfl agt_37 (fun hg => by first | exact Sl.getA hP1 hq | exact Cells.g0 | exact Cells.g1 | exact Cells.g2 | exact Cells.g3 | exact Cells.g4 | exact Cells.g5 | exact Cells.s0 (vs := [_, _, _, _, _, _, _, _, _, _, _, _, _, _, _, _, _, _, _]) rfl | exact Cells.s1 (vs := [_, _, _, _, _, _, _, _, _, _, _, _, _, _, _, _, _, _, _]) rfl | exact Cells.s2 (vs := [_, _, _, _, _, _, _, _, _, _, _, _, _, _, _, _, _, _, _]) rfl | exact Cells.s3 (vs := [_, _, _, _, _, _, _, _, _, _, _, _, _, _, _, _, _, _, _]) rfl | exact Cells.s4 (vs := [_, _, _, _, _, _, _, _, _, _, _, _, _, _, _, _, _, _, _]) rfl | exact Cells.s5 (vs := [_, _, _, _, _, _, _, _, _, _, _, _, _, _, _, _, _, _, _]) rfl | (repeat (first | exact Cells.here | apply Cells.there | apply Cells.app))) rfl) rfl rfl rfl ?_
        refine XO_callV0 (cap := []) (vs := [_]) rfl rfl fun_22 (w_pchk p hN) rfl rfl ?_
        refine XO_v0 (ev_assign rfl) rfl rfl rfl ?_
        refine XO_nil ?_
        refine at_then ?_
        refine X_seq ?_
        refine X_region ?_
        refine XO_v0 (ev_move rfl) rfl rfl rfl ?_
        refine XO_v0 (ev_cmp rfl rfl rfl) rfl rfl rfl ?_
        refine XO_nil ?_
        refine at_then ?_
        refine X_cond rfl (fun hc26 => ?_) (fun hc26 => ?_)
        · skip
          have hpk : pchk p ≠ 0 := by simpa using hc26
          rw [hres, hrun, drop_cons hq, run_b1 hpk]
          refine X_seq ?_
          refine X_region ?_
          refine XO_v0 (ev_move rfl) rfl rfl rfl ?_
          refine XO_v0 (ev_assign rfl) rfl rfl rfl ?_
          refine XO_v0 (ev_assign rfl) rfl rfl rfl ?_
          refine XO_nil ?_
          refine at_then ?_
          refine X_ret ?_
          refine at_then_r ?_
          refine at_block_r ?_
          refine at_then_r ?_
          refine at_then_r ?_
          refine at_block_r ?_
          refine at_then_r ?_
          first
          | exact at_ret2 rfl rfl rfl (fun w hw => ⟨_, J1, [], rfl, hIc, hw.drop, by rw [hres]; exact ResG.empty rfl⟩)
          | exact at_ret2 rfl rfl rfl (fun w hw => ⟨_, J1, [], rfl, hIc, hw.drop, ResG.empty rfl⟩)
          | exact at_ret2 rfl rfl rfl (fun w hw => ⟨_, J1, [], rfl, hIc, hw.drop, ResG.good rfl rfl hY⟩)
        · skip
          have hpk : pchk p = 0 := by simpa using hc26
          refine X_skip ?_
          refine at_then ?_
          refine X_seq ?_
          refine X_region ?_
          refine XO_v0 (ev_move rfl) rfl rfl rfl ?_
          refine XO_v0 (ev_loadA rfl agt_37 (fun hg => by first | exact Sl.getA hP1 hq | exact Cells.g0 | exact Cells.g1 | exact Cells.g2 | exact Cells.g3 | exact Cells.g4 | exact Cells.g5 | exact Cells.s0 (vs := [_, _, _, _, _, _, _, _, _, _, _, _, _, _, _, _, _, _, _]) rfl | exact Cells.s1 (vs := [_, _, _, _, _, _, _, _, _, _, _, _, _, _, _, _, _, _, _]) rfl | exact Cells.s2 (vs := [_, _, _, _, _, _, _, _, _, _, _, _, _, _, _, _, _, _, _]) rfl | exact Cells.s3 (vs := [_, _, _, _, _, _, _, _, _, _, _, _, _, _, _, _, _, _, _]) rfl | exact Cells.s4 (vs := [_, _, _, _, _, _, _, _, _, _, _, _, _, _, _, _, _, _, _]) rfl | exact Cells.s5 (vs := [_, _, _, _, _, _, _, _, _, _, _, _, _, _, _, _, _, _, _]) rfl | (repeat (first | exact Cells.here | apply Cells.there | apply Cells.app))) rfl) rfl rfl rfl ?_
          refine XO_callM (cap := []) (vs := [_, _]) rfl rfl fun_35 .nil (w_apply hY (by omega) hrn.1 hrn.2 p (pchk_ok hpk)) rfl rfl ?_
          rintro vv2 I2 L2 hI2 ⟨rfl, a9, c9, rfl, hR⟩
          have hS := hS.mono hI2
          have hP := hP.mono hI2
          have hY := hY.mono hI2
          have hIc := hIc.trans hI2
          have hB0 := hB0.trans hI2
          generalize hm9 : (resF (apE ys p) (apG ys p)).length = m9 at hR ⊢
          refine XO_v0 (ev_move rfl) rfl rfl rfl ?_
          refine XO_v0 (ev_extract rfl rfl) rfl rfl rfl ?_
          refine XO_v0 (ev_extract rfl rfl) rfl rfl rfl ?_
          refine XO_v0 (ev_assign rfl) rfl rfl rfl ?_
          refine XO_v0 (ev_assign rfl) rfl rfl rfl ?_
          refine XO_nil ?_
          refine at_then ?_
          refine X_seq ?_
          refine X_region ?_
          refine XO_v0 (ev_move rfl) rfl rfl rfl ?_
          refine XO_v0 (ev_cmp rfl rfl rfl) rfl rfl rfl ?_
          refine XO_nil ?_
          refine at_then ?_
          refine X_cond rfl (fun hc35 => ?_) (fun hc35 => ?_)
          · skip
            have hE : apE ys p ≠ 0 := by simpa using hc35
            rw [hres, hrun, drop_cons hq, run_b2 hpk hE]
            refine X_seq ?_
            refine X_region ?_
            refine XO_v0 (ev_move rfl) rfl rfl rfl ?_
            refine XO_v0 (ev_assign rfl) rfl rfl rfl ?_
            refine XO_v0 (ev_assign rfl) rfl rfl rfl ?_
            refine XO_nil ?_
            refine at_then ?_
            refine X_ret ?_
            refine at_block_r ?_
            refine at_then_r ?_
            refine at_then_r ?_
            refine at_block_r ?_
            refine at_then_r ?_
            first
            | exact at_ret2 rfl rfl rfl (fun w hw => ⟨_, I2, [], rfl, hIc, hw.drop, by rw [hres]; exact ResG.empty rfl⟩)
            | exact at_ret2 rfl rfl rfl (fun w hw => ⟨_, I2, [], rfl, hIc, hw.drop, ResG.empty rfl⟩)
            | exact at_ret2 rfl rfl rfl (fun w hw => ⟨_, I2, [], rfl, hIc, hw.drop, ResG.good rfl rfl hY⟩)
          · skip
            have hE : apE ys p = 0 := by simpa using hc35
            rw [hE, resF_ok rfl] at hR hm9
            refine X_skip ?_
            refine at_block_n ?_
            refine at_then ?_
            refine X_region ?_
            refine XO_v0 (ev_arB rfl rfl rfl (fun _ => by omega)) rfl rfl rfl ?_
            refine XO_v0 (ev_move rfl) rfl rfl rfl ?_
            refine XO_nil ?_
            exact at_met2 _ _ ⟨n2 - (k + 1), by omega, k + 1, _, _, _, _, rfl, rfl, hB0, rfl, by omega, hR, (by have h1 := ap_len (xs := ys) (p := p); rw [hY.len] at h1; omega), ap_rn hrn (pchk_ok hpk) hE, by rw [hrun, drop_cons hq, run_go hpk hE]⟩ (.cons rfl (.cons rfl (.cons rfl (.cons rfl .nil)))) (by repeat (first | exact .refl | exact subL_left | refine subL_app ?_ | refine .drop ?_ | refine subL_add ?_))
      · skip
        have hge_k : n2 ≤ k := by have h := hc20; simp at h; omega
        rw [hres, hrun, List.drop_eq_nil_of_le (by rw [hP.len]; exact hge_k)]
        refine X_exit ?_
        refine at_then_e ?_
        refine at_then_e ?_
        refine at_block_hit ?_
        refine at_then ?_
        refine X_seq ?_
        refine X_region ?_
        refine XO_v0 (ev_move rfl) rfl rfl rfl ?_
        refine XO_v0 (ev_assign rfl) rfl rfl rfl ?_
        refine XO_v0 (ev_assign rfl) rfl rfl rfl ?_
        refine XO_nil ?_
        refine at_then ?_
        refine X_ret ?_
        first
        | exact at_ret2 rfl rfl rfl (fun w hw => ⟨_, J1, [], rfl, hIc, hw.drop, by rw [hres]; exact ResG.empty rfl⟩)
        | exact at_ret2 rfl rfl rfl (fun w hw => ⟨_, J1, [], rfl, hIc, hw.drop, ResG.empty rfl⟩)
        | exact at_ret2 rfl rfl rfl (fun w hw => ⟨_, J1, [], rfl, hIc, hw.drop, ResG.good rfl rfl hY⟩)
end Go.Proofs.Ytccomeanpppfmaa
end
section
namespace Go.Proofs.Ytccomeanpppfmaa
open Go Go.Kn Go.Proofs
theorem fun_10 : Fun Try.prog 10 := .of Try.func10 (by kernel_rfl) (by kernel_rfl)
theorem fun_11 : Fun Try.prog 11 := .of Try.func11 (by kernel_rfl) (by kernel_rfl)
theorem fun_14 : Fun Try.prog 14 := .of Try.func14 (by kernel_rfl) (by kernel_rfl)
theorem fun_15 : Fun Try.prog 15 := .of Try.func15 (by kernel_rfl) (by kernel_rfl)
theorem fun_17 : Fun Try.prog 17 := .of Try.func17 (by kernel_rfl) (by kernel_rfl)
theorem fun_18 : Fun Try.prog 18 := .of Try.func18 (by kernel_rfl) (by kernel_rfl)
theorem fun_21 : Fun Try.prog 21 := .of Try.func21 (by kernel_rfl) (by kernel_rfl)
def g1 : Sg := ⟨1, 0, 2, 1, 1, 1, 1, 0, 1, 0, 0, 1, 1, 1⟩
def g2 : Sg := ⟨1, 0, 2, 1, 1, 1, 3, 0, 4, 0, 0, 1, 1, 1⟩
def g3 : Sg := ⟨1, 0, 2, 1, 1, 1, 6, 0, 4, 0, 0, 1, 1, 1⟩
def sizeP : Pt := ⟨3, 1, 1, 7, { zeroG with size := 4 }, none, 0, 0, []⟩
def stR (a : Option Addr) : List Pt := [setP 2 3 none 0 0 [], sizeP, setP 4 5 none 0 0 [], setP 7 6 a 2 2 [2, 4]]
def stB (a : Option Addr) : List Pt := [setP 2 3 a 1 1 [1]]
theorem stR_sl {I : HMap} {b : Nat} {a : Option Addr} (h : I b = some (.cells ((stR a).flatMap encP).toArray 37 (0, 0))) (h2 : Sl I 1 encI a 2 2 [2, 4]) : SlP I (some ⟨b, 0, none⟩) 4 4 (stR a) :=
  ⟨Sl.lit (stR a) rfl encP_len h, fun p hp => by
    simp only [stR, List.mem_cons, List.not_mem_nil, or_false] at hp
    rcases hp with rfl | rfl | rfl | rfl
    · exact .nil
    · exact .nil
    · exact .nil
    · exact h2⟩
theorem stB_sl {I : HMap} {b : Nat} {a : Option Addr} (h : I b = some (.cells ((stB a).flatMap encP).toArray 37 (0, 0))) (h2 : Sl I 1 encI a 1 1 [1]) : SlP I (some ⟨b, 0, none⟩) 1 1 (stB a) :=
  ⟨Sl.lit (stB a) rfl encP_len h, fun p hp => by
    simp only [stB, List.mem_cons, List.not_mem_nil, or_false] at hp
    subst hp; exact h2⟩
theorem s_chk0 {I : HMap} {av : Option Addr} {c : Nat} (hP : SlP I av 0 c []) : RetV Try.prog 9 [.slice av 0 c] I (.int .i64 0) := by
  have h := w_chkR hP (by decide)
  rwa [show chkR [] = 0 from by kernel_rfl] at h
theorem s_chk1 {I : HMap} {av : Option Addr} {c : Nat} {a : Option Addr} (hP : SlP I av 4 c (stR a)) : RetV Try.prog 9 [.slice av 4 c] I (.int .i64 0) := by
  have h := w_chkR hP (by decide)
  rwa [show chkR (stR a) = 0 from by kernel_rfl] at h
theorem s_chk2 {I : HMap} {av : Option Addr} {c : Nat} {a : Option Addr} (hP : SlP I av 1 c (stB a)) : RetV Try.prog 9 [.slice av 1 c] I (.int .i64 380) := by
  have h := w_chkR hP (by decide)
  rwa [show chkR (stB a) = 380 from by kernel_rfl] at h
theorem s_clo1 {I : HMap} {av bv : Option Addr} {c c2 : Nat} {a : Option Addr} (hP : SlP I av 4 c (stR a)) (hT : Sl I 1 encI bv 1 c2 [7]) : RetM Try.prog 10 [.slice av 4 c, .slice bv 1 c2] I [] (Res2 0 [2, 4, 7]) := by
  have h := w_Closure hP (by decide) hT (by decide)
  rwa [show cloE (stR a) [7] = 0 from by kernel_rfl, show resF (α := Int) 0 (cloF (stR a) [7]) = [2, 4, 7] from by kernel_rfl] at h
theorem s_clo2 {I : HMap} {av bv : Option Addr} {c c2 : Nat} (hP : SlP I av 0 c []) (hT : Sl I 1 encI bv 1 c2 [1]) : RetM Try.prog 10 [.slice av 0 c, .slice bv 1 c2] I [] (Res2 380 []) := by
  have h := w_Closure hP (by decide) hT (by decide)
  rwa [show cloE [] [1] = 380 from by kernel_rfl, show resF (α := Int) 380 (cloF [] [1]) = [] from by kernel_rfl] at h
theorem s_mrg {I : HMap} {av bv dv : Option Addr} {c c2 c3 : Nat} {a : Option Addr} (hP : SlP I av 4 c (stR a)) (hT : Sl I 1 encI bv 1 c2 [2]) (hU : Sl I 1 encI dv 1 c3 [3]) : RetM Try.prog 11 [.slice av 4 c, .slice bv 1 c2, .slice dv 1 c3] I [] (Res2 0 [2, 3]) := by
  have h := w_merge hP (by decide) hT (by decide) hU (by decide)
  rwa [show mrgE (stR a) [2] [3] = 0 from by kernel_rfl, show resF (α := Int) 0 (mrgF (stR a) [2] [3]) = [2, 3] from by kernel_rfl] at h
theorem s_sg1 {I : HMap} {av bv dv : Option Addr} {c c2 c3 : Nat} {a : Option Addr} (hP : SlP I av 4 c (stR a)) (hB : Sl I 14 encG bv 1 c2 [g1]) (hV : Sl I 1 encI dv 2 c3 [2, 3]) : RetM Try.prog 15 [.slice av 4 c, .slice bv 1 c2, .slice dv 2 c3] I [] (ResG 0 [g2]) := by
  have h := w_Signs hP (by decide) hB (by decide) hV (by decide)
  rwa [show sgnE (stR a) [g1] [2, 3] = 0 from by kernel_rfl, show sgnF (stR a) [g1] [2, 3] = [g2] from by kernel_rfl] at h
theorem s_sg2 {I : HMap} {av bv dv : Option Addr} {c c2 c3 : Nat} {a : Option Addr} (hP : SlP I av 4 c (stR a)) (hB : Sl I 14 encG bv 1 c2 [g1]) (hV : Sl I 1 encI dv 4 c3 [2, 3, 4, 7]) : RetM Try.prog 15 [.slice av 4 c, .slice bv 1 c2, .slice dv 4 c3] I [] (ResG 0 [g3]) := by
  have h := w_Signs hP (by decide) hB (by decide) hV (by decide)
  rwa [show sgnE (stR a) [g1] [2, 3, 4, 7] = 0 from by kernel_rfl, show sgnF (stR a) [g1] [2, 3, 4, 7] = [g3] from by kernel_rfl] at h
theorem s_sg3 {I : HMap} {av bv dv : Option Addr} {c c2 c3 : Nat} {a : Option Addr} (hP : SlP I av 4 c (stR a)) (hB : Sl I 14 encG bv 1 c2 [g1]) (hV : Sl I 1 encI dv 1 c3 [7]) : RetM Try.prog 15 [.slice av 4 c, .slice bv 1 c2, .slice dv 1 c3] I [] (ResG 380 []) := by
  have h := w_Signs hP (by decide) hB (by decide) hV (by decide)
  rwa [show sgnE (stR a) [g1] [7] = 380 from by kernel_rfl, show sgnF (stR a) [g1] [7] = [] from by kernel_rfl] at h
theorem s_sg4 {I : HMap} {av bv dv : Option Addr} {c c2 c3 : Nat} (hP : SlP I av 0 c []) (hB : Sl I 14 encG bv 1 c2 [g1]) (hV : Sl I 1 encI dv 0 c3 []) : RetM Try.prog 15 [.slice av 0 c, .slice bv 1 c2, .slice dv 0 c3] I [] (ResG 0 [g1]) := by
  have h := w_Signs hP (by decide) hB (by decide) hV (by decide)
  rwa [show sgnE [] [g1] [] = 0 from by kernel_rfl, show sgnF [] [g1] [] = [g1] from by kernel_rfl] at h
theorem s_cf1 {I : HMap} {av bv dv : Option Addr} {c c2 c3 : Nat} {a : Option Addr} (hP : SlP I av 4 c (stR a)) (hB : Sl I 14 encG bv 1 c2 [g1]) (hV : Sl I 1 encI dv 2 c3 [2, 3]) : RetM Try.prog 14 [.slice av 4 c, .slice bv 1 c2, .slice dv 2 c3] I [] (ResC 0 []) := by
  have h := w_Conflicts hP (by decide) hB (by decide) hV (by decide)
  rwa [show sgnE (stR a) [g1] [2, 3] = 0 from by kernel_rfl, show cflF (stR a) [g1] [2, 3] = [] from by kernel_rfl] at h
theorem s_cf2 {I : HMap} {av bv dv : Option Addr} {c c2 c3 : Nat} {a : Option Addr} (hP : SlP I av 4 c (stR a)) (hB : Sl I 14 encG bv 1 c2 [g1]) (hV : Sl I 1 encI dv 3 c3 [2, 3, 4]) : RetM Try.prog 14 [.slice av 4 c, .slice bv 1 c2, .slice dv 3 c3] I [] (ResC 0 [(1, 5, [2, 4])]) := by
  have h := w_Conflicts hP (by decide) hB (by decide) hV (by decide)
  rwa [show sgnE (stR a) [g1] [2, 3, 4] = 0 from by kernel_rfl, show cflF (stR a) [g1] [2, 3, 4] = [(1, 5, [2, 4])] from by kernel_rfl] at h
theorem s_cf3 {I : HMap} {av bv dv : Option Addr} {c c2 c3 : Nat} {a : Option Addr} (hP : SlP I av 4 c (stR a)) (hB : Sl I 14 encG bv 1 c2 [g1]) (hV : Sl I 1 encI dv 4 c3 [2, 3, 4, 7]) : RetM Try.prog 14 [.slice av 4 c, .slice bv 1 c2, .slice dv 4 c3] I [] (ResC 0 []) := by
  have h := w_Conflicts hP (by decide) hB (by decide) hV (by decide)
  rwa [show sgnE (stR a) [g1] [2, 3, 4, 7] = 0 from by kernel_rfl, show cflF (stR a) [g1] [2, 3, 4, 7] = [] from by kernel_rfl] at h
theorem s_sameI {I : HMap} {av bv : Option Addr} {n c q e : Nat} {xs ys : List Int} (hS : Sl I 1 encI av n c xs) (hT : Sl I 1 encI bv q e ys) (hn : n ≤ 100000) (h : xs = ys) : RetV Try.prog 12 [.slice av n c, .slice bv q e] I (.bool true) := by
  have := w_sameI hS hn hT
  subst h; rwa [same_self] at this
theorem s_sameG {I : HMap} {av bv : Option Addr} {n c q e : Nat} {xs ys : List Sg} (hS : Sl I 14 encG av n c xs) (hT : Sl I 14 encG bv q e ys) (hn : n ≤ 100000) (h : xs = ys) : RetV Try.prog 17 [.slice av n c, .slice bv q e] I (.bool true) := by
  have := w_sameG hS hn hT
  subst h; rwa [same_self] at this
theorem s_sameC {I : HMap} {av bv a : Option Addr} {c e : Nat} {cs : List Cf} (hC : SlC I av cs.length c cs) (hk : cs.map Cf.key = [(1, 5, [2, 4])]) (hD : SlC I bv 1 e [⟨1, 5, a, 2, 2, [2, 4]⟩]) : RetV Try.prog 18 [.slice av cs.length c, .slice bv 1 e] I (.bool true) := by
  match cs, hC, hk with
  | [], _, hk => cases hk
  | _ :: _ :: _, _, hk => simp at hk
  | [z], hC, hk =>
    have hz : z.key = (1, 5, [2, 4]) := by simpa using hk
    have hi : z.ids = [2, 4] := congrArg (·.2.2) hz
    have hl := (hC.2 z (by simp)).len
    rw [hi] at hl
    have h := w_sameC hC (by simp) hD (fun y hy => by simp at hy; subst hy; rw [← hl]; decide)
    rwa [hk, show ([⟨1, 5, a, 2, 2, [2, 4]⟩] : List Cf).map Cf.key = [(1, 5, [2, 4])] from rfl, same_self] at h
theorem conf_one {I : HMap} {b : Nat} {a : Option Addr} (h : I b = some (.cells (([⟨1, 5, a, 2, 2, [2, 4]⟩] : List Cf).flatMap encC).toArray 44 (0, 0))) (h2 : Sl I 1 encI a 2 2 [2, 4]) : SlC I (some ⟨b, 0, none⟩) 1 1 [⟨1, 5, a, 2, 2, [2, 4]⟩] :=
  ⟨Sl.lit _ rfl encC_len h, fun x hx => by simp only [List.mem_cons, List.not_mem_nil, or_false] at hx; subst hx; exact h2⟩
set_option maxRecDepth 100000 in
theorem w_sane (I : HMap) : RetV Try.prog 8 [] I (.bool true) := by
  intro g H w hw
  refine enter Try.func8 rfl Try.ntmps8 rfl hw ?_
  have hIc := HLe.refl I
  refine X_seq ?_
  refine X_region ?_
  refine XO_v0 (ev_assign rfl) rfl rfl rfl ?_
  refine XO_nil ?_
  refine at_then ?_
  refine X_seq ?_
  refine X_region ?_
  refine XO_v0 (ev_buildL (ps := [(1, _)]) [_, _] plt_33 rfl rfl) rfl rfl rfl ?_
  refine XO_v0 (ev_buildL (ps := [(0, _), (1, _)]) [_, _] plt_33 rfl rfl) rfl rfl rfl ?_
  refine XO_v0 (ev_buildL (ps := [(0, _), (2, _), (3, _), (4, _), (5, _), (6, _), (8, _), (10, _), (11, _)]) [_, _, _, _, _, _, _, _, _, _, _, _, _, _] plt_35 rfl rfl) rfl rfl rfl ?_
  refine XO_buildSlice (ps := [(0, _)]) (m := [encG g1]) elt_39 rfl (.cons rfl (.nil)) rfl (by simp [encI_len, encP_len, encG_len, encC_len]) (by decide) (by decide) rfl rfl (fun b_29 => ?_)
  refine XO_freeze .here (fun I1 hI1 hb1 => ?_)
  have hIc := hIc.trans hI1
  have hB := Sl.lit ([g1] : List Sg) rfl encG_len (show _ = some (Obj.cells (([g1] : List Sg).flatMap encG).toArray 35 (0, 0)) from hb1)
  refine XO_v0 (ev_assign rfl) rfl rfl rfl ?_
  refine XO_nil ?_
  refine at_then ?_
  refine X_seq ?_
  refine X_region ?_
  refine XO_v0 (ev_buildL (ps := [(8, _)]) [_, _, _, _, _, _, _, _, _, _, _, _, _, _] plt_35 rfl rfl) rfl rfl rfl ?_
  refine XO_v0 (ev_buildL (ps := [(0, _), (1, _), (2, _), (3, _), (4, _)]) [_, _, _, _, _, _, _, _, _, _, _, _, _, _, _, _, _, _, _] plt_37 rfl rfl) rfl rfl rfl ?_
  refine XO_alloc zt_37 rfl rfl (fun b_2 => ?_)
  refine XO_storeA rfl rfl szt_37 rfl rfl rfl rfl (by first | exact Upd.u0 | exact Upd.u1 | exact Upd.u2 | exact Upd.u3 | exact Upd.u4 | exact Upd.u5 | (repeat (first | exact Upd.here | apply Upd.there | apply upd_app))) ?_
  refine XO_nil ?_
  refine at_then ?_
  refine X_cutT [(1, _)] (.cons rfl .nil) (fun T L0 E I' loc' => ∃ (b35 b37 : Nat), E = (3, .slice (some ⟨b37, 0, none⟩) 4 4) :: T ∧ I1 = I' ∧ [(b37, .cells ((stR (some ⟨b35, 0, none⟩)).flatMap encP).toArray 37 (0, 0)), (b35, .cells ([(2 : Int), 4].flatMap encI).toArray 3 (0, 0))] = loc') ?_ ?_
  · skip
    have hD := HLe.refl I1
    refine X_drawC mixed ?_
    refine XD_take 1 rfl (ev_loadA rfl agt_37 (fun hg => by first | exact Sl.getA (k := 0) (x := g1) hB rfl | exact Cells.g0 | exact Cells.g1 | exact Cells.g2 | exact Cells.g3 | exact Cells.g4 | exact Cells.g5 | exact Cells.s0 (vs := [_, _, _, _, _, _, _, _, _, _, _, _, _, _, _, _, _, _, _]) rfl | exact Cells.s1 (vs := [_, _, _, _, _, _, _, _, _, _, _, _, _, _, _, _, _, _, _]) rfl | exact Cells.s2 (vs := [_, _, _, _, _, _, _, _, _, _, _, _, _, _, _, _, _, _, _]) rfl | exact Cells.s3 (vs := [_, _, _, _, _, _, _, _, _, _, _, _, _, _, _, _, _, _, _]) rfl | exact Cells.s4 (vs := [_, _, _, _, _, _, _, _, _, _, _, _, _, _, _, _, _, _, _]) rfl | exact Cells.s5 (vs := [_, _, _, _, _, _, _, _, _, _, _, _, _, _, _, _, _, _, _]) rfl | (repeat (first | exact Cells.here | apply Cells.there | apply Cells.app))) rfl) (.none rfl) rfl rfl rfl (by kernel_rfl) (by kernel_rfl) (by kernel_rfl) noP_ok hD (by repeat (first | exact .refl | exact subL_nil | refine .keep ?_ | refine .drop ?_ | refine subL_add ?_)) ?_
    refine XD_two 0 3 rfl rfl (by kernel_rfl) ?_ ?_
    · skip
      refine XO_callV0 (cap := []) (vs := [_, _, _]) rfl rfl fun_21 (w_lset _ 2 3 none 0 0 []) rfl rfl ?_
      refine XO_nil ?_
      refine at_D hD (by repeat (first | exact .refl | exact subL_nil | refine .keep ?_ | refine .drop ?_ | refine subL_add ?_)) ?_
      refine XD_two 2 3 rfl rfl (by kernel_rfl) ?_ ?_
      · skip
        refine XO_callV0 (cap := []) (vs := [_, _, _]) rfl rfl fun_21 (w_lset _ 4 5 none 0 0 []) rfl rfl ?_
        refine XO_nil ?_
        refine at_D hD (by repeat (first | exact .refl | exact subL_nil | refine .keep ?_ | refine .drop ?_ | refine subL_add ?_)) ?_
        refine XD_one 3 rfl (by kernel_rfl) ?_
        refine XO_buildSlice (ps := [(0, _), (1, _)]) (m := [encI 2, encI 4]) elt_23 rfl (.cons rfl (.cons rfl (.nil))) rfl (by simp [encI_len, encP_len, encG_len, encC_len]) (by decide) (by decide) rfl rfl (fun b_35 => ?_)
        refine XO_nil ?_
        refine at_D hD (by repeat (first | exact .refl | exact subL_nil | refine .keep ?_ | refine .drop ?_ | refine subL_add ?_)) ?_
        refine XD_one 4 rfl (by kernel_rfl) ?_
        refine XO_callV0 (cap := []) (vs := [_, _, _]) rfl rfl fun_21 (w_lset _ 7 6 _ _ _ [2, 4]) rfl rfl ?_
        refine XO_nil ?_
        refine at_D hD (by repeat (first | exact .refl | exact subL_nil | refine .keep ?_ | refine .drop ?_ | refine subL_add ?_)) ?_
        refine XD_one 5 rfl (by kernel_rfl) ?_
        refine XO_buildSlice (ps := [(0, _), (1, _), (2, _), (3, _)]) (m := [encP (setP 2 3 none 0 0 []), encP sizeP, encP (setP 4 5 none 0 0 []), encP (setP 7 6 (some ⟨b_35, 0, none⟩) 2 2 [2, 4])]) elt_22 rfl (.cons rfl (.cons rfl (.cons rfl (.cons rfl (.nil))))) rfl (by simp [encI_len, encP_len, encG_len, encC_len]) (by decide) (by decide) rfl rfl (fun b_37 => ?_)
        refine XO_nil ?_
        refine at_D hD (by repeat (first | exact .refl | exact subL_nil | refine .keep ?_ | refine .drop ?_ | refine subL_add ?_)) ?_
        refine XD_take 6 rfl (ev_assign rfl) (.none rfl) rfl rfl rfl (by kernel_rfl) (by kernel_rfl) (by kernel_rfl) noP_ok hD (by repeat (first | exact .refl | exact subL_nil | refine .keep ?_ | refine .drop ?_ | refine subL_add ?_)) ?_
        refine XD_done (by kernel_rfl) ?_
        refine at_noP ?_
        exact at_met2 _ _ ⟨b_35, b_37, rfl, rfl, rfl⟩ (.cons rfl (.cons rfl .nil)) (by repeat (first | exact .refl | exact subL_left | refine subL_app ?_ | refine .drop ?_ | refine subL_add ?_))
      · skip
        refine XO_buildSlice (ps := [(0, _), (1, _)]) (m := [encI 2, encI 4]) elt_23 rfl (.cons rfl (.cons rfl (.nil))) rfl (by simp [encI_len, encP_len, encG_len, encC_len]) (by decide) (by decide) rfl rfl (fun b_35 => ?_)
        refine XO_nil ?_
        refine at_D hD (by repeat (first | exact .refl | exact subL_nil | refine .keep ?_ | refine .drop ?_ | refine subL_add ?_)) ?_
        refine XD_one 2 rfl (by kernel_rfl) ?_
        refine XO_callV0 (cap := []) (vs := [_, _, _]) rfl rfl fun_21 (w_lset _ 4 5 none 0 0 []) rfl rfl ?_
        refine XO_nil ?_
        refine at_D hD (by repeat (first | exact .refl | exact subL_nil | refine .keep ?_ | refine .drop ?_ | refine subL_add ?_)) ?_
        refine XD_one 4 rfl (by kernel_rfl) ?_
        refine XO_callV0 (cap := []) (vs := [_, _, _]) rfl rfl fun_21 (w_lset _ 7 6 _ _ _ [2, 4]) rfl rfl ?_
        refine XO_nil ?_
        refine at_D hD (by repeat (first | exact .refl | exact subL_nil | refine .keep ?_ | refine .drop ?_ | refine subL_add ?_)) ?_
        refine XD_one 5 rfl (by kernel_rfl) ?_
        refine XO_buildSlice (ps := [(0, _), (1, _), (2, _), (3, _)]) (m := [encP (setP 2 3 none 0 0 []), encP sizeP, encP (setP 4 5 none 0 0 []), encP (setP 7 6 (some ⟨b_35, 0, none⟩) 2 2 [2, 4])]) elt_22 rfl (.cons rfl (.cons rfl (.cons rfl (.cons rfl (.nil))))) rfl (by simp [encI_len, encP_len, encG_len, encC_len]) (by decide) (by decide) rfl rfl (fun b_37 => ?_)
        refine XO_nil ?_
        refine at_D hD (by repeat (first | exact .refl | exact subL_nil | refine .keep ?_ | refine .drop ?_ | refine subL_add ?_)) ?_
        refine XD_take 6 rfl (ev_assign rfl) (.none rfl) rfl rfl rfl (by kernel_rfl) (by kernel_rfl) (by kernel_rfl) noP_ok hD (by repeat (first | exact .refl | exact subL_nil | refine .keep ?_ | refine .drop ?_ | refine subL_add ?_)) ?_
        refine XD_done (by kernel_rfl) ?_
        refine at_noP ?_
        exact at_met2 _ _ ⟨b_35, b_37, rfl, rfl, rfl⟩ (.cons rfl (.cons rfl .nil)) (by repeat (first | exact .refl | exact subL_left | refine subL_app ?_ | refine .drop ?_ | refine subL_add ?_))
    · skip
      refine XO_buildSlice (ps := [(0, _), (1, _)]) (m := [encI 2, encI 4]) elt_23 rfl (.cons rfl (.cons rfl (.nil))) rfl (by simp [encI_len, encP_len, encG_len, encC_len]) (by decide) (by decide) rfl rfl (fun b_35 => ?_)
      refine XO_nil ?_
      refine at_D hD (by repeat (first | exact .refl | exact subL_nil | refine .keep ?_ | refine .drop ?_ | refine subL_add ?_)) ?_
      refine XD_one 0 rfl (by kernel_rfl) ?_
      refine XO_callV0 (cap := []) (vs := [_, _, _]) rfl rfl fun_21 (w_lset _ 2 3 none 0 0 []) rfl rfl ?_
      refine XO_nil ?_
      refine at_D hD (by repeat (first | exact .refl | exact subL_nil | refine .keep ?_ | refine .drop ?_ | refine subL_add ?_)) ?_
      refine XD_one 2 rfl (by kernel_rfl) ?_
      refine XO_callV0 (cap := []) (vs := [_, _, _]) rfl rfl fun_21 (w_lset _ 4 5 none 0 0 []) rfl rfl ?_
      refine XO_nil ?_
      refine at_D hD (by repeat (first | exact .refl | exact subL_nil | refine .keep ?_ | refine .drop ?_ | refine subL_add ?_)) ?_
      refine XD_one 4 rfl (by kernel_rfl) ?_
      refine XO_callV0 (cap := []) (vs := [_, _, _]) rfl rfl fun_21 (w_lset _ 7 6 _ _ _ [2, 4]) rfl rfl ?_
      refine XO_nil ?_
      refine at_D hD (by repeat (first | exact .refl | exact subL_nil | refine .keep ?_ | refine .drop ?_ | refine subL_add ?_)) ?_
      refine XD_one 5 rfl (by kernel_rfl) ?_
      refine XO_buildSlice (ps := [(0, _), (1, _), (2, _), (3, _)]) (m := [encP (setP 2 3 none 0 0 []), encP sizeP, encP (setP 4 5 none 0 0 []), encP (setP 7 6 (some ⟨b_35, 0, none⟩) 2 2 [2, 4])]) elt_22 rfl (.cons rfl (.cons rfl (.cons rfl (.cons rfl (.nil))))) rfl (by simp [encI_len, encP_len, encG_len, encC_len]) (by decide) (by decide) rfl rfl (fun b_37 => ?_)
      refine XO_nil ?_
      refine at_D hD (by repeat (first | exact .refl | exact subL_nil | refine .keep ?_ | refine .drop ?_ | refine subL_add ?_)) ?_
      refine XD_take 6 rfl (ev_assign rfl) (.none rfl) rfl rfl rfl (by kernel_rfl) (by kernel_rfl) (by kernel_rfl) noP_ok hD (by repeat (first | exact .refl | exact subL_nil | refine .keep ?_ | refine .drop ?_ | refine subL_add ?_)) ?_
      refine XD_done (by kernel_rfl) ?_
      refine at_noP ?_
      exact at_met2 _ _ ⟨b_35, b_37, rfl, rfl, rfl⟩ (.cons rfl (.cons rfl .nil)) (by repeat (first | exact .refl | exact subL_left | refine subL_app ?_ | refine .drop ?_ | refine subL_add ?_))
  · rintro E I' loc' ⟨b35, b37, rfl, rfl, rfl⟩
    refine X_seq ?_
    refine X_freeze .here (fun I3 hI3 hb3 => ?_)
    have hB := hB.mono hI3
    have hIc := hIc.trans hI3
    have hbP := hb3
    refine X_freeze .here (fun I4 hI4 hb4 => ?_)
    have hB := hB.mono hI4
    have hIc := hIc.trans hI4
    have hbN := hb4
    have hNs : Sl I4 1 encI (some ⟨b35, 0, none⟩) 2 2 [2, 4] := Sl.lit _ rfl encI_len hbN
    have hP : SlP I4 (some ⟨b37, 0, none⟩) 4 4 (stR (some ⟨b35, 0, none⟩)) := stR_sl (hI4 _ _ hbP) hNs
    refine X_region ?_
    refine XO_v0 (ev_move rfl) rfl rfl rfl ?_
    refine XO_v0 (ev_indexSl rfl rfl slt_39 (by assumption) (fun hg => by decide)) rfl rfl rfl ?_
    refine XO_v0 (ev_loadA rfl agt_35 (fun hg => by first | exact Sl.getA (k := 0) (x := g1) hB rfl | exact Cells.g0 | exact Cells.g1 | exact Cells.g2 | exact Cells.g3 | exact Cells.g4 | exact Cells.g5 | exact Cells.s0 (vs := [_, _, _, _, _, _, _, _, _, _, _, _, _, _]) rfl | exact Cells.s1 (vs := [_, _, _, _, _, _, _, _, _, _, _, _, _, _]) rfl | exact Cells.s2 (vs := [_, _, _, _, _, _, _, _, _, _, _, _, _, _]) rfl | exact Cells.s3 (vs := [_, _, _, _, _, _, _, _, _, _, _, _, _, _]) rfl | exact Cells.s4 (vs := [_, _, _, _, _, _, _, _, _, _, _, _, _, _]) rfl | exact Cells.s5 (vs := [_, _, _, _, _, _, _, _, _, _, _, _, _, _]) rfl | (repeat (first | exact Cells.here | apply Cells.there | apply Cells.app))) rfl) rfl rfl rfl ?_
    refine XO_alloc zt_35 rfl rfl (fun b_4 => ?_)
    refine XO_storeA rfl rfl szt_35 rfl rfl rfl rfl (by first | exact Upd.u0 | exact Upd.u1 | exact Upd.u2 | exact Upd.u3 | exact Upd.u4 | exact Upd.u5 | (repeat (first | exact Upd.here | apply Upd.there | apply upd_app))) ?_
    refine XO_nil ?_
    refine at_then ?_
    refine X_seq ?_
    refine X_region ?_
    refine XO_v0 (ev_fieldAddr rfl fld_35_6) rfl rfl rfl ?_
    refine XO_store rfl rfl szt_3 rfl rfl (by first | exact Upd.u0 | exact Upd.u1 | exact Upd.u2 | exact Upd.u3 | exact Upd.u4 | exact Upd.u5 | (repeat (first | exact Upd.here | apply Upd.there | apply upd_app))) rfl ?_
    refine XO_v0 (ev_fieldAddr rfl fld_35_8) rfl rfl rfl ?_
    refine XO_store rfl rfl szt_3 rfl rfl (by first | exact Upd.u0 | exact Upd.u1 | exact Upd.u2 | exact Upd.u3 | exact Upd.u4 | exact Upd.u5 | (repeat (first | exact Upd.here | apply Upd.there | apply upd_app))) rfl ?_
    refine XO_nil ?_
    refine at_then ?_
    refine X_seq ?_
    refine X_region ?_
    refine XO_v0 (ev_loadA rfl agt_35 (fun hg => by first | exact Sl.getA (k := 0) (x := g1) hB rfl | exact Cells.g0 | exact Cells.g1 | exact Cells.g2 | exact Cells.g3 | exact Cells.g4 | exact Cells.g5 | exact Cells.s0 (vs := [_, _, _, _, _, _, _, _, _, _, _, _, _, _]) rfl | exact Cells.s1 (vs := [_, _, _, _, _, _, _, _, _, _, _, _, _, _]) rfl | exact Cells.s2 (vs := [_, _, _, _, _, _, _, _, _, _, _, _, _, _]) rfl | exact Cells.s3 (vs := [_, _, _, _, _, _, _, _, _, _, _, _, _, _]) rfl | exact Cells.s4 (vs := [_, _, _, _, _, _, _, _, _, _, _, _, _, _]) rfl | exact Cells.s5 (vs := [_, _, _, _, _, _, _, _, _, _, _, _, _, _]) rfl | (repeat (first | exact Cells.here | apply Cells.there | apply Cells.app))) rfl) rfl rfl rfl ?_
    refine XO_alloc zt_35 rfl rfl (fun b_5 => ?_)
    refine XO_storeA rfl rfl szt_35 rfl rfl rfl rfl (by first | exact Upd.u0 | exact Upd.u1 | exact Upd.u2 | exact Upd.u3 | exact Upd.u4 | exact Upd.u5 | (repeat (first | exact Upd.here | apply Upd.there | apply upd_app))) ?_
    refine XO_nil ?_
    refine at_then ?_
    refine X_seq ?_
    refine X_region ?_
    refine XO_v0 (ev_fieldAddr rfl fld_35_6) rfl rfl rfl ?_
    refine XO_store rfl rfl szt_3 rfl rfl (by first | exact Upd.u0 | exact Upd.u1 | exact Upd.u2 | exact Upd.u3 | exact Upd.u4 | exact Upd.u5 | (repeat (first | exact Upd.here | apply Upd.there | apply upd_app))) rfl ?_
    refine XO_nil ?_
    refine at_then ?_
    refine X_seq ?_
    refine X_region ?_
    refine XO_v0 (ev_move rfl) rfl rfl rfl ?_
    refine XO_buildSlice (ps := [(0, _)]) (m := [encI 7]) elt_23 rfl (.cons rfl (.nil)) rfl (by simp [encI_len, encP_len, encG_len, encC_len]) (by decide) (by decide) rfl rfl (fun b_47 => ?_)
    refine XO_freeze .here (fun I5 hI5 hb5 => ?_)
    have hB := hB.mono hI5
    have hP := hP.mono hI5
    have hIc := hIc.trans hI5
    have h7 := Sl.lit ([7] : List Int) rfl encI_len (show _ = some (Obj.cells (([7] : List Int).flatMap encI).toArray 3 (0, 0)) from hb5)
    refine XO_callM (cap := []) (vs := [_, _]) rfl rfl fun_10 .nil (s_clo1 hP h7) rfl rfl ?_
    rintro vv6 I6 L6 hI6 ⟨rfl, a6, c6, rfl, hV⟩
    have hB := hB.mono hI6
    have hP := hP.mono hI6
    have h7 := h7.mono hI6
    have hIc := hIc.trans hI6
    refine XO_v0 (ev_move rfl) rfl rfl rfl ?_
    refine XO_v0 (ev_extract rfl rfl) rfl rfl rfl ?_
    refine XO_v0 (ev_extract rfl rfl) rfl rfl rfl ?_
    refine XO_v0 (ev_assign rfl) rfl rfl rfl ?_
    refine XO_v0 (ev_assign rfl) rfl rfl rfl ?_
    refine XO_nil ?_
    refine at_then ?_
    refine X_seq ?_
    refine X_region ?_
    refine XO_v0 (ev_move rfl) rfl rfl rfl ?_
    refine XO_buildSlice (ps := [(0, _)]) (m := [encI 2]) elt_23 rfl (.cons rfl (.nil)) rfl (by simp [encI_len, encP_len, encG_len, encC_len]) (by decide) (by decide) rfl rfl (fun b_53 => ?_)
    refine XO_freeze .here (fun I7 hI7 hb7 => ?_)
    have hB := hB.mono hI7
    have hP := hP.mono hI7
    have h7 := h7.mono hI7
    have hV := hV.mono hI7
    have hIc := hIc.trans hI7
    have h2 := Sl.lit ([2] : List Int) rfl encI_len (show _ = some (Obj.cells (([2] : List Int).flatMap encI).toArray 3 (0, 0)) from hb7)
    refine XO_buildSlice (ps := [(0, _)]) (m := [encI 3]) elt_23 rfl (.cons rfl (.nil)) rfl (by simp [encI_len, encP_len, encG_len, encC_len]) (by decide) (by decide) rfl rfl (fun b_54 => ?_)
    refine XO_freeze .here (fun I8 hI8 hb8 => ?_)
    have hB := hB.mono hI8
    have hP := hP.mono hI8
    have h7 := h7.mono hI8
    have hV := hV.mono hI8
    have h2 := h2.mono hI8
    have hIc := hIc.trans hI8
    have h3 := Sl.lit ([3] : List Int) rfl encI_len (show _ = some (Obj.cells (([3] : List Int).flatMap encI).toArray 3 (0, 0)) from hb8)
    refine XO_callM (cap := []) (vs := [_, _, _]) rfl rfl fun_11 .nil (s_mrg hP h2 h3) rfl rfl ?_
    rintro vv9 I9 L9 hI9 ⟨rfl, a9, c9, rfl, hM⟩
    have hB := hB.mono hI9
    have hP := hP.mono hI9
    have h7 := h7.mono hI9
    have hV := hV.mono hI9
    have h2 := h2.mono hI9
    have h3 := h3.mono hI9
    have hIc := hIc.trans hI9
    refine XO_v0 (ev_move rfl) rfl rfl rfl ?_
    refine XO_v0 (ev_extract rfl rfl) rfl rfl rfl ?_
    refine XO_v0 (ev_extract rfl rfl) rfl rfl rfl ?_
    refine XO_v0 (ev_assign rfl) rfl rfl rfl ?_
    refine XO_v0 (ev_assign rfl) rfl rfl rfl ?_
    refine XO_nil ?_
    refine at_then ?_
    refine X_seq ?_
    refine X_region ?_
    refine XO_v0 (ev_move rfl) rfl rfl rfl ?_
    refine XO_v0 (ev_move rfl) rfl rfl rfl ?_
    refine XO_v0 (ev_move rfl) rfl rfl rfl ?_
    refine XO_callM (cap := []) (vs := [_, _, _]) rfl rfl fun_15 .nil (s_sg1 hP hB hM) rfl rfl ?_
    rintro vv10 I10 L10 hI10 ⟨rfl, a10, c10, rfl, hG1⟩
    have hB := hB.mono hI10
    have hP := hP.mono hI10
    have h7 := h7.mono hI10
    have hV := hV.mono hI10
    have h2 := h2.mono hI10
    have h3 := h3.mono hI10
    have hM := hM.mono hI10
    have hIc := hIc.trans hI10
    refine XO_v0 (ev_move rfl) rfl rfl rfl ?_
    refine XO_v0 (ev_extract rfl rfl) rfl rfl rfl ?_
    refine XO_v0 (ev_extract rfl rfl) rfl rfl rfl ?_
    refine XO_v0 (ev_assign rfl) rfl rfl rfl ?_
    refine XO_v0 (ev_assign rfl) rfl rfl rfl ?_
    refine XO_nil ?_
    refine at_then ?_
    refine X_seq ?_
    refine X_region ?_
    refine XO_v0 (ev_move rfl) rfl rfl rfl ?_
    refine XO_v0 (ev_move rfl) rfl rfl rfl ?_
    refine XO_v0 (ev_move rfl) rfl rfl rfl ?_
    refine XO_callM (cap := []) (vs := [_, _, _]) rfl rfl fun_14 .nil (s_cf1 hP hB hM) rfl rfl ?_
    rintro vv11 I11 L11 hI11 ⟨rfl, cs1, a11, c11, rfl, hC1, hk1⟩
    have hB := hB.mono hI11
    have hP := hP.mono hI11
    have h7 := h7.mono hI11
    have hV := hV.mono hI11
    have h2 := h2.mono hI11
    have h3 := h3.mono hI11
    have hM := hM.mono hI11
    have hG1 := hG1.mono hI11
    have hIc := hIc.trans hI11
    have hz11 := List.map_eq_nil_iff.1 hk1
    subst hz11
    refine XO_v0 (ev_move rfl) rfl rfl rfl ?_
    refine XO_v0 (ev_extract rfl rfl) rfl rfl rfl ?_
    refine XO_v0 (ev_extract rfl rfl) rfl rfl rfl ?_
    refine XO_v0 (ev_assign rfl) rfl rfl rfl ?_
    refine XO_v0 (ev_assign rfl) rfl rfl rfl ?_
    refine XO_nil ?_
    refine at_then ?_
    refine X_seq ?_
    refine X_region ?_
    refine XO_v0 (ev_move rfl) rfl rfl rfl ?_
    refine XO_v0 (ev_move rfl) rfl rfl rfl ?_
    refine XO_buildSlice (ps := [(0, _), (1, _), (2, _)]) (m := [encI 2, encI 3, encI 4]) elt_23 rfl (.cons rfl (.cons rfl (.cons rfl (.nil)))) rfl (by simp [encI_len, encP_len, encG_len, encC_len]) (by decide) (by decide) rfl rfl (fun b_75 => ?_)
    refine XO_freeze .here (fun I12 hI12 hb12 => ?_)
    have hB := hB.mono hI12
    have hP := hP.mono hI12
    have h7 := h7.mono hI12
    have hV := hV.mono hI12
    have h2 := h2.mono hI12
    have h3 := h3.mono hI12
    have hM := hM.mono hI12
    have hG1 := hG1.mono hI12
    have hIc := hIc.trans hI12
    have h234 := Sl.lit ([2, 3, 4] : List Int) rfl encI_len (show _ = some (Obj.cells (([2, 3, 4] : List Int).flatMap encI).toArray 3 (0, 0)) from hb12)
    refine XO_callM (cap := []) (vs := [_, _, _]) rfl rfl fun_14 .nil (s_cf2 hP hB h234) rfl rfl ?_
    rintro vv13 I13 L13 hI13 ⟨rfl, cs2, a13, c13, rfl, hC2, hk2⟩
    have hB := hB.mono hI13
    have hP := hP.mono hI13
    have h7 := h7.mono hI13
    have hV := hV.mono hI13
    have h2 := h2.mono hI13
    have h3 := h3.mono hI13
    have hM := hM.mono hI13
    have hG1 := hG1.mono hI13
    have h234 := h234.mono hI13
    have hIc := hIc.trans hI13
    refine XO_v0 (ev_move rfl) rfl rfl rfl ?_
    refine XO_v0 (ev_extract rfl rfl) rfl rfl rfl ?_
    refine XO_v0 (ev_extract rfl rfl) rfl rfl rfl ?_
    refine XO_v0 (ev_assign rfl) rfl rfl rfl ?_
    refine XO_v0 (ev_assign rfl) rfl rfl rfl ?_
    refine XO_nil ?_
    refine at_then ?_
    refine X_seq ?_
    refine X_region ?_
    refine XO_v0 (ev_move rfl) rfl rfl rfl ?_
    refine XO_v0 (ev_move rfl) rfl rfl rfl ?_
    refine XO_buildSlice (ps := [(0, _), (1, _), (2, _), (3, _)]) (m := [encI 2, encI 3, encI 4, encI 7]) elt_23 rfl (.cons rfl (.cons rfl (.cons rfl (.cons rfl (.nil))))) rfl (by simp [encI_len, encP_len, encG_len, encC_len]) (by decide) (by decide) rfl rfl (fun b_82 => ?_)
    refine XO_freeze .here (fun I14 hI14 hb14 => ?_)
    have hB := hB.mono hI14
    have hP := hP.mono hI14
    have h7 := h7.mono hI14
    have hV := hV.mono hI14
    have h2 := h2.mono hI14
    have h3 := h3.mono hI14
    have hM := hM.mono hI14
    have hG1 := hG1.mono hI14
    have h234 := h234.mono hI14
    have hC2 := hC2.mono hI14
    have hIc := hIc.trans hI14
    have h2347 := Sl.lit ([2, 3, 4, 7] : List Int) rfl encI_len (show _ = some (Obj.cells (([2, 3, 4, 7] : List Int).flatMap encI).toArray 3 (0, 0)) from hb14)
    refine XO_callM (cap := []) (vs := [_, _, _]) rfl rfl fun_15 .nil (s_sg2 hP hB h2347) rfl rfl ?_
    rintro vv15 I15 L15 hI15 ⟨rfl, a15, c15, rfl, hG2⟩
    have hB := hB.mono hI15
    have hP := hP.mono hI15
    have h7 := h7.mono hI15
    have hV := hV.mono hI15
    have h2 := h2.mono hI15
    have h3 := h3.mono hI15
    have hM := hM.mono hI15
    have hG1 := hG1.mono hI15
    have h234 := h234.mono hI15
    have hC2 := hC2.mono hI15
    have h2347 := h2347.mono hI15
    have hIc := hIc.trans hI15
    refine XO_v0 (ev_move rfl) rfl rfl rfl ?_
    refine XO_v0 (ev_extract rfl rfl) rfl rfl rfl ?_
    refine XO_v0 (ev_extract rfl rfl) rfl rfl rfl ?_
    refine XO_v0 (ev_assign rfl) rfl rfl rfl ?_
    refine XO_v0 (ev_assign rfl) rfl rfl rfl ?_
    refine XO_nil ?_
    refine at_then ?_
    refine X_seq ?_
    refine X_region ?_
    refine XO_v0 (ev_move rfl) rfl rfl rfl ?_
    refine XO_v0 (ev_move rfl) rfl rfl rfl ?_
    refine XO_buildSlice (ps := [(0, _), (1, _), (2, _), (3, _)]) (m := [encI 2, encI 3, encI 4, encI 7]) elt_23 rfl (.cons rfl (.cons rfl (.cons rfl (.cons rfl (.nil))))) rfl (by simp [encI_len, encP_len, encG_len, encC_len]) (by decide) (by decide) rfl rfl (fun b_89 => ?_)
    refine XO_freeze .here (fun I16 hI16 hb16 => ?_)
    have hB := hB.mono hI16
    have hP := hP.mono hI16
    have h7 := h7.mono hI16
    have hV := hV.mono hI16
    have h2 := h2.mono hI16
    have h3 := h3.mono hI16
    have hM := hM.mono hI16
    have hG1 := hG1.mono hI16
    have h234 := h234.mono hI16
    have hC2 := hC2.mono hI16
    have h2347 := h2347.mono hI16
    have hG2 := hG2.mono hI16
    have hIc := hIc.trans hI16
    have h2347b := Sl.lit ([2, 3, 4, 7] : List Int) rfl encI_len (show _ = some (Obj.cells (([2, 3, 4, 7] : List Int).flatMap encI).toArray 3 (0, 0)) from hb16)
    refine XO_callM (cap := []) (vs := [_, _, _]) rfl rfl fun_14 .nil (s_cf3 hP hB h2347b) rfl rfl ?_
    rintro vv17 I17 L17 hI17 ⟨rfl, cs3, a17, c17, rfl, hC3, hk3⟩
    have hB := hB.mono hI17
    have hP := hP.mono hI17
    have h7 := h7.mono hI17
    have hV := hV.mono hI17
    have h2 := h2.mono hI17
    have h3 := h3.mono hI17
    have hM := hM.mono hI17
    have hG1 := hG1.mono hI17
    have h234 := h234.mono hI17
    have hC2 := hC2.mono hI17
    have h2347 := h2347.mono hI17
    have hG2 := hG2.mono hI17
    have h2347b := h2347b.mono hI17
    have hIc := hIc.trans hI17
    have hz17 := List.map_eq_nil_iff.1 hk3
    subst hz17
    refine XO_v0 (ev_move rfl) rfl rfl rfl ?_
    refine XO_v0 (ev_extract rfl rfl) rfl rfl rfl ?_
    refine XO_v0 (ev_extract rfl rfl) rfl rfl rfl ?_
    refine XO_v0 (ev_assign rfl) rfl rfl rfl ?_
    refine XO_v0 (ev_assign rfl) rfl rfl rfl ?_
    refine XO_nil ?_
    refine at_then ?_
    refine X_seq ?_
    refine X_region ?_
    refine XO_buildSlice (ps := [(0, _)]) (m := [encI 1]) elt_23 rfl (.cons rfl (.nil)) rfl (by simp [encI_len, encP_len, encG_len, encC_len]) (by decide) (by decide) rfl rfl (fun b_94 => ?_)
    refine XO_freeze .here (fun I18 hI18 hb18 => ?_)
    have hB := hB.mono hI18
    have hP := hP.mono hI18
    have h7 := h7.mono hI18
    have hV := hV.mono hI18
    have h2 := h2.mono hI18
    have h3 := h3.mono hI18
    have hM := hM.mono hI18
    have hG1 := hG1.mono hI18
    have h234 := h234.mono hI18
    have hC2 := hC2.mono hI18
    have h2347 := h2347.mono hI18
    have hG2 := hG2.mono hI18
    have h2347b := h2347b.mono hI18
    have hIc := hIc.trans hI18
    have h1 := Sl.lit ([1] : List Int) rfl encI_len (show _ = some (Obj.cells (([1] : List Int).flatMap encI).toArray 3 (0, 0)) from hb18)
    refine XO_callM (cap := []) (vs := [_, _]) rfl rfl fun_10 .nil (s_clo2 SlP.nil h1) rfl rfl ?_
    rintro vv19 I19 L19 hI19 ⟨rfl, a19, c19, rfl, hV2⟩
    have hB := hB.mono hI19
    have hP := hP.mono hI19
    have h7 := h7.mono hI19
    have hV := hV.mono hI19
    have h2 := h2.mono hI19
    have h3 := h3.mono hI19
    have hM := hM.mono hI19
    have hG1 := hG1.mono hI19
    have h234 := h234.mono hI19
    have hC2 := hC2.mono hI19
    have h2347 := h2347.mono hI19
    have hG2 := hG2.mono hI19
    have h2347b := h2347b.mono hI19
    have h1 := h1.mono hI19
    have hIc := hIc.trans hI19
    refine XO_v0 (ev_move rfl) rfl rfl rfl ?_
    refine XO_v0 (ev_extract rfl rfl) rfl rfl rfl ?_
    refine XO_v0 (ev_extract rfl rfl) rfl rfl rfl ?_
    refine XO_v0 (ev_assign rfl) rfl rfl rfl ?_
    refine XO_v0 (ev_assign rfl) rfl rfl rfl ?_
    refine XO_nil ?_
    refine at_then ?_
    refine X_seq ?_
    refine X_region ?_
    refine XO_v0 (ev_move rfl) rfl rfl rfl ?_
    refine XO_v0 (ev_move rfl) rfl rfl rfl ?_
    refine XO_buildSlice (ps := [(0, _)]) (m := [encI 7]) elt_23 rfl (.cons rfl (.nil)) rfl (by simp [encI_len, encP_len, encG_len, encC_len]) (by decide) (by decide) rfl rfl (fun b_101 => ?_)
    refine XO_freeze .here (fun I20 hI20 hb20 => ?_)
    have hB := hB.mono hI20
    have hP := hP.mono hI20
    have h7 := h7.mono hI20
    have hV := hV.mono hI20
    have h2 := h2.mono hI20
    have h3 := h3.mono hI20
    have hM := hM.mono hI20
    have hG1 := hG1.mono hI20
    have h234 := h234.mono hI20
    have hC2 := hC2.mono hI20
    have h2347 := h2347.mono hI20
    have hG2 := hG2.mono hI20
    have h2347b := h2347b.mono hI20
    have h1 := h1.mono hI20
    have hIc := hIc.trans hI20
    have h7b := Sl.lit ([7] : List Int) rfl encI_len (show _ = some (Obj.cells (([7] : List Int).flatMap encI).toArray 3 (0, 0)) from hb20)
    refine XO_callM (cap := []) (vs := [_, _, _]) rfl rfl fun_15 .nil (s_sg3 hP hB h7b) rfl rfl ?_
    rintro vv21 I21 L21 hI21 ⟨rfl, a21, c21, rfl, hG3⟩
    have hB := hB.mono hI21
    have hP := hP.mono hI21
    have h7 := h7.mono hI21
    have hV := hV.mono hI21
    have h2 := h2.mono hI21
    have h3 := h3.mono hI21
    have hM := hM.mono hI21
    have hG1 := hG1.mono hI21
    have h234 := h234.mono hI21
    have hC2 := hC2.mono hI21
    have h2347 := h2347.mono hI21
    have hG2 := hG2.mono hI21
    have h2347b := h2347b.mono hI21
    have h1 := h1.mono hI21
    have h7b := h7b.mono hI21
    have hIc := hIc.trans hI21
    refine XO_v0 (ev_move rfl) rfl rfl rfl ?_
    refine XO_v0 (ev_extract rfl rfl) rfl rfl rfl ?_
    refine XO_v0 (ev_extract rfl rfl) rfl rfl rfl ?_
    refine XO_v0 (ev_assign rfl) rfl rfl rfl ?_
    refine XO_v0 (ev_assign rfl) rfl rfl rfl ?_
    refine XO_nil ?_
    refine at_then ?_
    refine X_seq ?_
    refine X_region ?_
    refine XO_v0 (ev_move rfl) rfl rfl rfl ?_
    refine XO_callM (cap := []) (vs := [_, _, _]) rfl rfl fun_15 .nil (s_sg4 SlP.nil hB .nil) rfl rfl ?_
    rintro vv22 I22 L22 hI22 ⟨rfl, a22, c22, rfl, hG4⟩
    have hB := hB.mono hI22
    have hP := hP.mono hI22
    have h7 := h7.mono hI22
    have hV := hV.mono hI22
    have h2 := h2.mono hI22
    have h3 := h3.mono hI22
    have hM := hM.mono hI22
    have hG1 := hG1.mono hI22
    have h234 := h234.mono hI22
    have hC2 := hC2.mono hI22
    have h2347 := h2347.mono hI22
    have hG2 := hG2.mono hI22
    have h2347b := h2347b.mono hI22
    have h1 := h1.mono hI22
    have h7b := h7b.mono hI22
    have hIc := hIc.trans hI22
    refine XO_v0 (ev_move rfl) rfl rfl rfl ?_
    refine XO_v0 (ev_extract rfl rfl) rfl rfl rfl ?_
    refine XO_v0 (ev_extract rfl rfl) rfl rfl rfl ?_
    refine XO_v0 (ev_assign rfl) rfl rfl rfl ?_
    refine XO_v0 (ev_assign rfl) rfl rfl rfl ?_
    refine XO_nil ?_
    refine at_then ?_
    refine X_seq ?_
    refine X_seq ?_
    refine X_region ?_
    refine XO_v0 (ev_move rfl) rfl rfl rfl ?_
    refine XO_v0 (ev_cmp rfl rfl rfl) rfl rfl rfl ?_
    refine XO_v0 (ev_move rfl) rfl rfl rfl ?_
    refine XO_want (dj := 112) rfl rfl rfl ?_
    refine XO_v0 (ev_move rfl) rfl rfl rfl ?_
    refine XO_want (dj := 112) rfl rfl rfl ?_
    refine XO_v0 (ev_cmp rfl rfl rfl) rfl rfl rfl ?_
    refine XO_v0 (ev_pickb rfl rfl rfl) rfl rfl rfl ?_
    refine XO_v0 (ev_move rfl) rfl rfl rfl ?_
    refine XO_want (dj := 116) rfl rfl rfl ?_
    refine XO_v0 (ev_move rfl) rfl rfl rfl ?_
    refine XO_want (dj := 116) rfl rfl rfl ?_
    refine XO_v0 (ev_cmp rfl rfl rfl) rfl rfl rfl ?_
    refine XO_v0 (ev_pickb rfl rfl rfl) rfl rfl rfl ?_
    refine XO_v0 (ev_move rfl) rfl rfl rfl ?_
    refine XO_want (dj := 120) rfl rfl rfl ?_
    refine XO_v0 (ev_move rfl) rfl rfl rfl ?_
    refine XO_want (dj := 120) rfl rfl rfl ?_
    refine XO_v0 (ev_cmp rfl rfl rfl) rfl rfl rfl ?_
    refine XO_v0 (ev_pickb rfl rfl rfl) rfl rfl rfl ?_
    refine XO_v0 (ev_move rfl) rfl rfl rfl ?_
    refine XO_want (dj := 124) rfl rfl rfl ?_
    refine XO_v0 (ev_move rfl) rfl rfl rfl ?_
    refine XO_want (dj := 124) rfl rfl rfl ?_
    refine XO_v0 (ev_cmp rfl rfl rfl) rfl rfl rfl ?_
    refine XO_v0 (ev_pickb rfl rfl rfl) rfl rfl rfl ?_
    refine XO_v0 (ev_move rfl) rfl rfl rfl ?_
    refine XO_want (dj := 128) rfl rfl rfl ?_
    refine XO_v0 (ev_move rfl) rfl rfl rfl ?_
    refine XO_want (dj := 128) rfl rfl rfl ?_
    refine XO_v0 (ev_cmp rfl rfl rfl) rfl rfl rfl ?_
    refine XO_v0 (ev_pickb rfl rfl rfl) rfl rfl rfl ?_
    refine XO_v0 (ev_move rfl) rfl rfl rfl ?_
    refine XO_want (dj := 132) rfl rfl rfl ?_
    refine XO_v0 (ev_move rfl) rfl rfl rfl ?_
    refine XO_want (dj := 132) rfl rfl rfl ?_
    refine XO_v0 (ev_cmp rfl rfl rfl) rfl rfl rfl ?_
    refine XO_v0 (ev_pickb rfl rfl rfl) rfl rfl rfl ?_
    refine XO_v0 (ev_move rfl) rfl rfl rfl ?_
    refine XO_want (dj := 136) rfl rfl rfl ?_
    refine XO_v0 (ev_move rfl) rfl rfl rfl ?_
    refine XO_want (dj := 136) rfl rfl rfl ?_
    refine XO_v0 (ev_cmp rfl rfl rfl) rfl rfl rfl ?_
    refine XO_v0 (ev_pickb rfl rfl rfl) rfl rfl rfl ?_
    refine XO_v0 (ev_move rfl) rfl rfl rfl ?_
    refine XO_want (dj := 140) rfl rfl rfl ?_
    refine XO_v0 (ev_move rfl) rfl rfl rfl ?_
    refine XO_want (dj := 140) rfl rfl rfl ?_
    refine XO_v0 (ev_cmp rfl rfl rfl) rfl rfl rfl ?_
    refine XO_v0 (ev_pickb rfl rfl rfl) rfl rfl rfl ?_
    refine XO_v0 (ev_move rfl) rfl rfl rfl ?_
    refine XO_want (dj := 144) rfl rfl rfl ?_
    refine XO_v0 (ev_move rfl) rfl rfl rfl ?_
    refine XO_want (dj := 144) rfl rfl rfl ?_
    refine XO_v0 (ev_cmp rfl rfl rfl) rfl rfl rfl ?_
    refine XO_v0 (ev_pickb rfl rfl rfl) rfl rfl rfl ?_
    refine XO_nil ?_
    refine at_then ?_
    refine X_cond rfl (fun hc147 => ?_) (fun hc147 => ?_)
    · skip
      exact absurd hc147 (by decide)
    · skip
      refine X_skip ?_
      refine at_then ?_
      refine X_seq ?_
      refine X_seq ?_
      refine X_region ?_
      refine XO_callV0 (cap := []) (vs := [_]) rfl rfl fun_9 (s_chk0 SlP.nil) rfl rfl ?_
      refine XO_v0 (ev_cmp rfl rfl rfl) rfl rfl rfl ?_
      refine XO_v0 (ev_move rfl) rfl rfl rfl ?_
      refine XO_want (dj := 150) rfl rfl rfl ?_
      refine XO_v0 (ev_move rfl) rfl rfl rfl ?_
      refine XO_want (dj := 150) rfl rfl rfl ?_
      refine XO_callV0 (cap := []) (vs := [_]) rfl rfl fun_9 (s_chk1 hP) rfl rfl ?_
      refine XO_want (dj := 150) rfl rfl rfl ?_
      refine XO_v0 (ev_cmp rfl rfl rfl) rfl rfl rfl ?_
      refine XO_v0 (ev_pickb rfl rfl rfl) rfl rfl rfl ?_
      refine XO_v0 (ev_move rfl) rfl rfl rfl ?_
      refine XO_want (dj := 155) rfl rfl rfl ?_
      refine XO_buildSlice (ps := [(0, _)]) (m := [encI 1]) elt_23 rfl (.cons rfl (.nil)) rfl (by simp [encI_len, encP_len, encG_len, encC_len]) (by decide) (by decide) rfl rfl (fun b_156 => ?_)
      refine XO_freeze .here (fun I23 hI23 hb23 => ?_)
      have hB := hB.mono hI23
      have hP := hP.mono hI23
      have h7 := h7.mono hI23
      have hV := hV.mono hI23
      have h2 := h2.mono hI23
      have h3 := h3.mono hI23
      have hM := hM.mono hI23
      have hG1 := hG1.mono hI23
      have h234 := h234.mono hI23
      have hC2 := hC2.mono hI23
      have h2347 := h2347.mono hI23
      have hG2 := hG2.mono hI23
      have h2347b := h2347b.mono hI23
      have h1 := h1.mono hI23
      have h7b := h7b.mono hI23
      have hG4 := hG4.mono hI23
      have hIc := hIc.trans hI23
      have h1b := Sl.lit ([1] : List Int) rfl encI_len (show _ = some (Obj.cells (([1] : List Int).flatMap encI).toArray 3 (0, 0)) from hb23)
      refine XO_want (dj := 155) rfl rfl rfl ?_
      refine XO_callV0 (cap := []) (vs := [_, _, _]) rfl rfl fun_21 (w_lset _ 2 3 _ _ _ [1]) rfl rfl ?_
      refine XO_want (dj := 155) rfl rfl rfl ?_
      refine XO_buildSlice (ps := [(0, _)]) (m := [encP (setP 2 3 (some ⟨b_156, 0, none⟩) 1 1 [1])]) elt_22 rfl (.cons rfl (.nil)) rfl (by simp [encI_len, encP_len, encG_len, encC_len]) (by decide) (by decide) rfl rfl (fun b_158 => ?_)
      refine XO_freeze .here (fun I24 hI24 hb24 => ?_)
      have hB := hB.mono hI24
      have hP := hP.mono hI24
      have h7 := h7.mono hI24
      have hV := hV.mono hI24
      have h2 := h2.mono hI24
      have h3 := h3.mono hI24
      have hM := hM.mono hI24
      have hG1 := hG1.mono hI24
      have h234 := h234.mono hI24
      have hC2 := hC2.mono hI24
      have h2347 := h2347.mono hI24
      have hG2 := hG2.mono hI24
      have h2347b := h2347b.mono hI24
      have h1 := h1.mono hI24
      have h7b := h7b.mono hI24
      have hG4 := hG4.mono hI24
      have h1b := h1b.mono hI24
      have hIc := hIc.trans hI24
      have hPb : SlP I24 _ 1 1 (stB (some ⟨b_156, 0, none⟩)) := stB_sl hb24 h1b
      refine XO_want (dj := 155) rfl rfl rfl ?_
      refine XO_callV0 (cap := []) (vs := [_]) rfl rfl fun_9 (s_chk2 hPb) rfl rfl ?_
      refine XO_want (dj := 155) rfl rfl rfl ?_
      refine XO_v0 (ev_cmp rfl rfl rfl) rfl rfl rfl ?_
      refine XO_v0 (ev_pickb rfl rfl rfl) rfl rfl rfl ?_
      refine XO_nil ?_
      refine at_then ?_
      refine X_cond rfl (fun hc161 => ?_) (fun hc161 => ?_)
      · skip
        exact absurd hc161 (by decide)
      · skip
        refine X_skip ?_
        refine at_then ?_
        refine X_seq ?_
        refine X_seq ?_
        refine X_region ?_
        refine XO_v0 (ev_move rfl) rfl rfl rfl ?_
        refine XO_buildSlice (ps := [(0, _), (1, _), (2, _)]) (m := [encI 2, encI 4, encI 7]) elt_23 rfl (.cons rfl (.cons rfl (.cons rfl (.nil)))) rfl (by simp [encI_len, encP_len, encG_len, encC_len]) (by decide) (by decide) rfl rfl (fun b_163 => ?_)
        refine XO_freeze .here (fun I25 hI25 hb25 => ?_)
        have hB := hB.mono hI25
        have hP := hP.mono hI25
        have h7 := h7.mono hI25
        have hV := hV.mono hI25
        have h2 := h2.mono hI25
        have h3 := h3.mono hI25
        have hM := hM.mono hI25
        have hG1 := hG1.mono hI25
        have h234 := h234.mono hI25
        have hC2 := hC2.mono hI25
        have h2347 := h2347.mono hI25
        have hG2 := hG2.mono hI25
        have h2347b := h2347b.mono hI25
        have h1 := h1.mono hI25
        have h7b := h7b.mono hI25
        have hG4 := hG4.mono hI25
        have h1b := h1b.mono hI25
        have hPb := hPb.mono hI25
        have hIc := hIc.trans hI25
        have h247 := Sl.lit ([2, 4, 7] : List Int) rfl encI_len (show _ = some (Obj.cells (([2, 4, 7] : List Int).flatMap encI).toArray 3 (0, 0)) from hb25)
        refine XO_callV0 (cap := []) (vs := [_, _]) rfl rfl fun_12 (s_sameI hV h247 (by decide) rfl) rfl rfl ?_
        refine XO_v0 (ev_not rfl) rfl rfl rfl ?_
        refine XO_v0 (ev_move rfl) rfl rfl rfl ?_
        refine XO_want (dj := 166) rfl rfl rfl ?_
        refine XO_v0 (ev_move rfl) rfl rfl rfl ?_
        refine XO_want (dj := 166) rfl rfl rfl ?_
        refine XO_buildSlice (ps := [(0, _), (1, _)]) (m := [encI 2, encI 3]) elt_23 rfl (.cons rfl (.cons rfl (.nil))) rfl (by simp [encI_len, encP_len, encG_len, encC_len]) (by decide) (by decide) rfl rfl (fun b_168 => ?_)
        refine XO_freeze .here (fun I26 hI26 hb26 => ?_)
        have hB := hB.mono hI26
        have hP := hP.mono hI26
        have h7 := h7.mono hI26
        have hV := hV.mono hI26
        have h2 := h2.mono hI26
        have h3 := h3.mono hI26
        have hM := hM.mono hI26
        have hG1 := hG1.mono hI26
        have h234 := h234.mono hI26
        have hC2 := hC2.mono hI26
        have h2347 := h2347.mono hI26
        have hG2 := hG2.mono hI26
        have h2347b := h2347b.mono hI26
        have h1 := h1.mono hI26
        have h7b := h7b.mono hI26
        have hG4 := hG4.mono hI26
        have h1b := h1b.mono hI26
        have hPb := hPb.mono hI26
        have h247 := h247.mono hI26
        have hIc := hIc.trans hI26
        have h23 := Sl.lit ([2, 3] : List Int) rfl encI_len (show _ = some (Obj.cells (([2, 3] : List Int).flatMap encI).toArray 3 (0, 0)) from hb26)
        refine XO_want (dj := 166) rfl rfl rfl ?_
        refine XO_callV0 (cap := []) (vs := [_, _]) rfl rfl fun_12 (s_sameI hM h23 (by decide) rfl) rfl rfl ?_
        refine XO_want (dj := 166) rfl rfl rfl ?_
        refine XO_v0 (ev_not rfl) rfl rfl rfl ?_
        refine XO_v0 (ev_pickb rfl rfl rfl) rfl rfl rfl ?_
        refine XO_v0 (ev_move rfl) rfl rfl rfl ?_
        refine XO_want (dj := 172) rfl rfl rfl ?_
        refine XO_v0 (ev_move rfl) rfl rfl rfl ?_
        refine XO_want (dj := 172) rfl rfl rfl ?_
        refine XO_v0 (ev_lenS rfl slt_40) rfl rfl rfl ?_
        refine XO_want (dj := 172) rfl rfl rfl ?_
        refine XO_v0 (ev_cmp rfl rfl rfl) rfl rfl rfl ?_
        refine XO_v0 (ev_pickb rfl rfl rfl) rfl rfl rfl ?_
        refine XO_v0 (ev_move rfl) rfl rfl rfl ?_
        refine XO_want (dj := 177) rfl rfl rfl ?_
        refine XO_v0 (ev_move rfl) rfl rfl rfl ?_
        refine XO_want (dj := 177) rfl rfl rfl ?_
        refine XO_v0 (ev_lenS rfl slt_40) rfl rfl rfl ?_
        refine XO_want (dj := 177) rfl rfl rfl ?_
        refine XO_v0 (ev_cmp rfl rfl rfl) rfl rfl rfl ?_
        refine XO_v0 (ev_pickb rfl rfl rfl) rfl rfl rfl ?_
        refine XO_v0 (ev_move rfl) rfl rfl rfl ?_
        refine XO_want (dj := 182) rfl rfl rfl ?_
        refine XO_v0 (ev_move rfl) rfl rfl rfl ?_
        refine XO_want (dj := 182) rfl rfl rfl ?_
        refine XO_buildSlice (ps := [(0, _), (1, _)]) (m := [encI 2, encI 4]) elt_23 rfl (.cons rfl (.cons rfl (.nil))) rfl (by simp [encI_len, encP_len, encG_len, encC_len]) (by decide) (by decide) rfl rfl (fun b_184 => ?_)
        refine XO_freeze .here (fun I27 hI27 hb27 => ?_)
        have hB := hB.mono hI27
        have hP := hP.mono hI27
        have h7 := h7.mono hI27
        have hV := hV.mono hI27
        have h2 := h2.mono hI27
        have h3 := h3.mono hI27
        have hM := hM.mono hI27
        have hG1 := hG1.mono hI27
        have h234 := h234.mono hI27
        have hC2 := hC2.mono hI27
        have h2347 := h2347.mono hI27
        have hG2 := hG2.mono hI27
        have h2347b := h2347b.mono hI27
        have h1 := h1.mono hI27
        have h7b := h7b.mono hI27
        have hG4 := hG4.mono hI27
        have h1b := h1b.mono hI27
        have hPb := hPb.mono hI27
        have h247 := h247.mono hI27
        have h23 := h23.mono hI27
        have hIc := hIc.trans hI27
        have h24 := Sl.lit ([2, 4] : List Int) rfl encI_len (show _ = some (Obj.cells (([2, 4] : List Int).flatMap encI).toArray 3 (0, 0)) from hb27)
        refine XO_want (dj := 182) rfl rfl rfl ?_
        refine XO_v0 (ev_buildL (ps := [(0, _), (1, _), (2, _)]) [_, _, _] plt_44 rfl rfl) rfl rfl rfl ?_
        refine XO_want (dj := 182) rfl rfl rfl ?_
        refine XO_buildSlice (ps := [(0, _)]) (m := [encC ⟨1, 5, some ⟨b_184, 0, none⟩, 2, 2, [2, 4]⟩]) elt_40 rfl (.cons rfl (.nil)) rfl (by simp [encI_len, encP_len, encG_len, encC_len]) (by decide) (by decide) rfl rfl (fun b_186 => ?_)
        refine XO_freeze .here (fun I28 hI28 hb28 => ?_)
        have hB := hB.mono hI28
        have hP := hP.mono hI28
        have h7 := h7.mono hI28
        have hV := hV.mono hI28
        have h2 := h2.mono hI28
        have h3 := h3.mono hI28
        have hM := hM.mono hI28
        have hG1 := hG1.mono hI28
        have h234 := h234.mono hI28
        have hC2 := hC2.mono hI28
        have h2347 := h2347.mono hI28
        have hG2 := hG2.mono hI28
        have h2347b := h2347b.mono hI28
        have h1 := h1.mono hI28
        have h7b := h7b.mono hI28
        have hG4 := hG4.mono hI28
        have h1b := h1b.mono hI28
        have hPb := hPb.mono hI28
        have h247 := h247.mono hI28
        have h23 := h23.mono hI28
        have h24 := h24.mono hI28
        have hIc := hIc.trans hI28
        have hD1 := conf_one hb28 h24
        refine XO_want (dj := 182) rfl rfl rfl ?_
        refine XO_callV0 (cap := []) (vs := [_, _]) rfl rfl fun_18 (s_sameC hC2 hk2 hD1) rfl rfl ?_
        refine XO_want (dj := 182) rfl rfl rfl ?_
        refine XO_v0 (ev_not rfl) rfl rfl rfl ?_
        refine XO_v0 (ev_pickb rfl rfl rfl) rfl rfl rfl ?_
        refine XO_nil ?_
        refine at_then ?_
        refine X_cond rfl (fun hc189 => ?_) (fun hc189 => ?_)
        · skip
          exact absurd hc189 (by decide)
        · skip
          refine X_skip ?_
          refine at_then ?_
          refine X_seq ?_
          refine X_region ?_
          refine XO_v0 (ev_move rfl) rfl rfl rfl ?_
          refine XO_v0 (ev_loadA rfl agt_35 (fun hg => by first | exact Sl.getA (k := 0) (x := g1) hB rfl | exact Cells.g0 | exact Cells.g1 | exact Cells.g2 | exact Cells.g3 | exact Cells.g4 | exact Cells.g5 | exact Cells.s0 (vs := [_, _, _, _, _, _, _, _, _, _, _, _, _, _]) rfl | exact Cells.s1 (vs := [_, _, _, _, _, _, _, _, _, _, _, _, _, _]) rfl | exact Cells.s2 (vs := [_, _, _, _, _, _, _, _, _, _, _, _, _, _]) rfl | exact Cells.s3 (vs := [_, _, _, _, _, _, _, _, _, _, _, _, _, _]) rfl | exact Cells.s4 (vs := [_, _, _, _, _, _, _, _, _, _, _, _, _, _]) rfl | exact Cells.s5 (vs := [_, _, _, _, _, _, _, _, _, _, _, _, _, _]) rfl | (repeat (first | exact Cells.here | apply Cells.there | apply Cells.app))) rfl) rfl rfl rfl ?_
          refine XO_buildSlice (ps := [(0, _)]) (m := [encG g2]) elt_39 rfl (.cons rfl (.nil)) rfl (by simp [encI_len, encP_len, encG_len, encC_len]) (by decide) (by decide) rfl rfl (fun b_192 => ?_)
          refine XO_freeze .here (fun I29 hI29 hb29 => ?_)
          have hB := hB.mono hI29
          have hP := hP.mono hI29
          have h7 := h7.mono hI29
          have hV := hV.mono hI29
          have h2 := h2.mono hI29
          have h3 := h3.mono hI29
          have hM := hM.mono hI29
          have hG1 := hG1.mono hI29
          have h234 := h234.mono hI29
          have hC2 := hC2.mono hI29
          have h2347 := h2347.mono hI29
          have hG2 := hG2.mono hI29
          have h2347b := h2347b.mono hI29
          have h1 := h1.mono hI29
          have h7b := h7b.mono hI29
          have hG4 := hG4.mono hI29
          have h1b := h1b.mono hI29
          have hPb := hPb.mono hI29
          have h247 := h247.mono hI29
          have h23 := h23.mono hI29
          have h24 := h24.mono hI29
          have hD1 := hD1.mono hI29
          have hIc := hIc.trans hI29
          have hg2 := Sl.lit ([g2] : List Sg) rfl encG_len (show _ = some (Obj.cells (([g2] : List Sg).flatMap encG).toArray 35 (0, 0)) from hb29)
          refine XO_callV0 (cap := []) (vs := [_, _]) rfl rfl fun_17 (s_sameG hG1 hg2 (by decide) rfl) rfl rfl ?_
          refine XO_v0 (ev_move rfl) rfl rfl rfl ?_
          refine XO_want (dj := 194) rfl rfl rfl ?_
          refine XO_v0 (ev_move rfl) rfl rfl rfl ?_
          refine XO_want (dj := 194) rfl rfl rfl ?_
          refine XO_v0 (ev_loadA rfl agt_35 (fun hg => by first | exact Sl.getA (k := 0) (x := g1) hB rfl | exact Cells.g0 | exact Cells.g1 | exact Cells.g2 | exact Cells.g3 | exact Cells.g4 | exact Cells.g5 | exact Cells.s0 (vs := [_, _, _, _, _, _, _, _, _, _, _, _, _, _]) rfl | exact Cells.s1 (vs := [_, _, _, _, _, _, _, _, _, _, _, _, _, _]) rfl | exact Cells.s2 (vs := [_, _, _, _, _, _, _, _, _, _, _, _, _, _]) rfl | exact Cells.s3 (vs := [_, _, _, _, _, _, _, _, _, _, _, _, _, _]) rfl | exact Cells.s4 (vs := [_, _, _, _, _, _, _, _, _, _, _, _, _, _]) rfl | exact Cells.s5 (vs := [_, _, _, _, _, _, _, _, _, _, _, _, _, _]) rfl | (repeat (first | exact Cells.here | apply Cells.there | apply Cells.app))) rfl) rfl rfl rfl ?_
          refine XO_want (dj := 194) rfl rfl rfl ?_
          refine XO_buildSlice (ps := [(0, _)]) (m := [encG g3]) elt_39 rfl (.cons rfl (.nil)) rfl (by simp [encI_len, encP_len, encG_len, encC_len]) (by decide) (by decide) rfl rfl (fun b_197 => ?_)
          refine XO_freeze .here (fun I30 hI30 hb30 => ?_)
          have hB := hB.mono hI30
          have hP := hP.mono hI30
          have h7 := h7.mono hI30
          have hV := hV.mono hI30
          have h2 := h2.mono hI30
          have h3 := h3.mono hI30
          have hM := hM.mono hI30
          have hG1 := hG1.mono hI30
          have h234 := h234.mono hI30
          have hC2 := hC2.mono hI30
          have h2347 := h2347.mono hI30
          have hG2 := hG2.mono hI30
          have h2347b := h2347b.mono hI30
          have h1 := h1.mono hI30
          have h7b := h7b.mono hI30
          have hG4 := hG4.mono hI30
          have h1b := h1b.mono hI30
          have hPb := hPb.mono hI30
          have h247 := h247.mono hI30
          have h23 := h23.mono hI30
          have h24 := h24.mono hI30
          have hD1 := hD1.mono hI30
          have hg2 := hg2.mono hI30
          have hIc := hIc.trans hI30
          have hg3 := Sl.lit ([g3] : List Sg) rfl encG_len (show _ = some (Obj.cells (([g3] : List Sg).flatMap encG).toArray 35 (0, 0)) from hb30)
          refine XO_want (dj := 194) rfl rfl rfl ?_
          refine XO_callV0 (cap := []) (vs := [_, _]) rfl rfl fun_17 (s_sameG hG2 hg3 (by decide) rfl) rfl rfl ?_
          refine XO_v0 (ev_pickb rfl rfl rfl) rfl rfl rfl ?_
          refine XO_v0 (ev_move rfl) rfl rfl rfl ?_
          refine XO_want (dj := 200) rfl rfl rfl ?_
          refine XO_v0 (ev_move rfl) rfl rfl rfl ?_
          refine XO_want (dj := 200) rfl rfl rfl ?_
          refine XO_v0 (ev_move rfl) rfl rfl rfl ?_
          refine XO_want (dj := 200) rfl rfl rfl ?_
          refine XO_callV0 (cap := []) (vs := [_, _]) rfl rfl fun_17 (s_sameG hG4 hB (by decide) rfl) rfl rfl ?_
          refine XO_v0 (ev_pickb rfl rfl rfl) rfl rfl rfl ?_
          refine XO_v0 (ev_assign rfl) rfl rfl rfl ?_
          refine XO_nil ?_
          refine at_then ?_
          refine X_ret ?_
          first
          | exact at_ret1 rfl rfl (fun w hw => ⟨by rfl, (hw.mono hIc).drop⟩)
end Go.Proofs.Ytccomeanpppfmaa
end
section
namespace Go.Proofs.Ytccomeanpppfmaa
open Go Go.Kn Go.Proofs
theorem ver_len {ps : List Pt} {v : List Int} (h : Lst ps) (hv : Ver ps v) : v.length ≤ ps.length := by
  have := congrArg List.length (verL_ids h hv)
  rw [List.length_map] at this
  rw [← this]
  exact List.length_filter_le ..
section
variable {ps : List Pt} {a b c : List Int}
theorem clo_v (h : chkR ps = 0) (p : List Int) : Ver ps (cloF ps p) := clo_ver (chkR_lst h) p
end
section
variable {ps : List Pt} {a b : List Int} {k : Nat} {x : Int}
end
/-! ### A version that is merged -/
section
variable {ps : List Pt} {base : List Sg} {a m : List Int}
end
end Go.Proofs.Ytccomeanpppfmaa
end
section
namespace Go.Proofs.Ytccomeanpppfmaa
open Go Go.Kn Go.Proofs
theorem fun_13 : Fun Try.prog 13 := .of Try.func13 (by kernel_rfl) (by kernel_rfl)
theorem fun_8 : Fun Try.prog 8 := .of Try.func8 (by kernel_rfl) (by kernel_rfl)
end Go.Proofs.Ytccomeanpppfmaa
end
section
namespace Go.Proofs.Ytccomeanpppfmaa
open Go Go.Kn Go.Proofs
theorem sgF_few {ps : List Pt} {bs : List Sg} {v : List Int} : (sgnF ps bs v).length ≤ bs.length + ps.length := by
  unfold sgnF
  by_cases he : sgnE ps bs v = 0
  · rw [resF_ok he]
    have h1 := sgn_len (on := onF ps) (base := bs) (l := verL ps v)
    have h5 : (verL ps v).length ≤ ps.length := List.length_filter_le ..
    omega
  · rw [resF_bad he]; simp
section
variable {α : Type} {P : α → Bool} {xs : List α} {k : Nat} {x : α}
theorem flt_yes (hx : xs[k]? = some x) (h : P x = true) : (xs.take (k + 1)).filter P = (xs.take k).filter P ++ [x] := by
  rw [take_snoc hx, List.filter_append, List.filter_cons, if_pos h]; rfl
theorem flt_no (hx : xs[k]? = some x) (h : P x = false) : (xs.take (k + 1)).filter P = (xs.take k).filter P := by
  rw [take_snoc hx, List.filter_append, List.filter_cons, if_neg (by rw [h]; exact Bool.false_ne_true)]; simp
end
end Go.Proofs.Ytccomeanpppfmaa
end
section
namespace Go.Proofs.Ytccomeanpppfmaa
open Go Go.Kn Go.Proofs
section
variable {ps : List Pt} {v order : List Int}
theorem line_sub : ∀ (k : Nat), ∀ p ∈ lineK ps v order k, p ∈ ps
  | 0, p, hp => by cases hp
  | k + 1, p, hp => by
    have hp : p ∈ lineS ps v order (lineK ps v order k) := hp
    unfold lineS at hp
    cases hr : rdyF ps v ((lineK ps v order k).map (·.id)) with
    | nil => rw [hr] at hp; exact line_sub k p hp
    | cons r rs =>
      rw [hr] at hp
      rcases List.mem_append.1 hp with hp | hp
      · exact line_sub k p hp
      · have hk := pick_lt (order := order) (i := (lineK ps v order k).length) (m := rs.length + 1) (by omega)
        simp only [List.mem_singleton] at hp
        rw [getD_of (List.getElem?_eq_getElem (show pickK order (lineK ps v order k).length (rs.length + 1) < (r :: rs).length by simpa using hk))] at hp
        have h2 : p ∈ rdyF ps v ((lineK ps v order k).map (·.id)) := by rw [hr, hp]; exact List.getElem_mem _
        exact (List.mem_filter.1 h2).1
theorem line_stop {k : Nat} (h : rdyF ps v ((lineK ps v order k).map (·.id)) = []) : ∀ m, k ≤ m → lineK ps v order m = lineK ps v order k := by
  intro m hm
  induction m with
  | zero => have : k = 0 := by omega
            subst this; rfl
  | succ m ih =>
    by_cases e : k = m + 1
    · subst e; rfl
    · have h1 := ih (by omega)
      show lineS ps v order (lineK ps v order m) = _
      rw [h1]
      unfold lineS
      rw [h]
theorem line_next {l : List Pt} {r : Pt} {m : Nat} (hm : (rdyF ps v (l.map (·.id))).length = m) (h0 : 0 < m) (hr : (rdyF ps v (l.map (·.id)))[pickK order l.length m]? = some r) : lineS ps v order l = l ++ [r] := by
  unfold lineS
  cases hq : rdyF ps v (l.map (·.id)) with
  | nil => rw [hq] at hm; simp at hm; omega
  | cons z zs =>
    rw [hq] at hm hr
    subst hm
    simp only
    rw [show zs.length + 1 = (z :: zs).length by simp, getD_of hr]
theorem rdy_yes {l : List Pt} {d : List Int} {k : Nat} {p : Pt} (hp : l[k]? = some p) (h : rdyB v d p = true) : rdyF (l.take (k + 1)) v d = rdyF (l.take k) v d ++ [p] := flt_yes hp h
theorem rdy_no {l : List Pt} {d : List Int} {k : Nat} {p : Pt} (hp : l[k]? = some p) (h : rdyB v d p = false) : rdyF (l.take (k + 1)) v d = rdyF (l.take k) v d := flt_no hp h
end
theorem all_take {α : Type} {P : α → Bool} {xs : List α} {k : Nat} {x : α} (hx : xs[k]? = some x) : (xs.take (k + 1)).all P = ((xs.take k).all P && P x) := by rw [take_snoc hx, List.all_append]; simp
theorem tmod_nat' (a b : Nat) : ((a : Int)).tmod (b : Int) = ((a % b : Nat) : Int) := by
  rw [Int.tmod_eq_emod_of_nonneg (by omega)]; simp
theorem pick_val {z : Int} (h : 0 ≤ z ∧ z ≤ 255) (m : Nat) : (IntKind.i64.wrap z).tmod (m : Int) = ((z.toNat % m : Nat) : Int) := by
  rw [wrap_in (by omega), ← tmod_nat', Int.toNat_of_nonneg h.1]
theorem pick_ne {order : List Int} {i m no : Nat} {z : Int} (hl : order.length = no) (h0 : 0 < no) (hz : order[i % no]? = some z) : z.toNat % m = pickK order i m := by
  unfold pickK
  rw [if_neg (by omega), hl, getD_of hz]
theorem pick_nil {order : List Int} {i m no : Nat} (hl : order.length = no) (h0 : no = 0) : 0 = pickK order i m := by
  unfold pickK
  rw [if_pos (by omega)]
end Go.Proofs.Ytccomeanpppfmaa
end
section
namespace Go.Kn
open Go Go.ChangeShapes Go.WideShapes Go.ChangeAt Go.RowKit
/-- All that lies in the world is read only. -/
def heapI (W : World) : HMap := fun b => W.heap[b]?
theorem St.start (W : World) : St W (heapI W) (fun _ => none) [] W :=
  ⟨rfl, rfl, rfl, ⟨Nat.le_refl _, Nat.le_refl _⟩, fun _ _ h => h, (fun _ _ h => by cases h), (fun _ _ h => by cases h), fun _ => .inr rfl, (fun _ _ h => by cases h), by simp⟩
theorem St.below {W w : World} {H : HMap} {loc : Loc} (h : St W (heapI W) H loc w) : Below W.heap.size W w :=
  ⟨h.os, h.tape, h.out, h.size.1, fun k hk => by
    have e : W.heap[k]? = some W.heap[k] := Array.getElem?_eq_getElem hk
    rw [h.imm k _ e, e]⟩
theorem RetV.law {P : Program} {f : FuncId} {args : List Value} {W : World} {v : Value} (h : RetV P f args (heapI W) v) : Calls P f args.toArray W fun e w' => e = .returned v ∧ Below W.heap.size W w' :=
  (h W _ W (St.start W)).mono fun _ _ ⟨he, hs⟩ => ⟨he, hs.below⟩
theorem keptBut_below {W w : World} {may : MemPlace → Prop} (h : Below W.heap.size W w) : W.keptBut w may := by
  refine ⟨h.os, h.output, fun i hi => ?_⟩
  rw [h.block i hi]
  rw [Array.getElem?_eq_getElem hi]
  cases W.heap[i] <;> simp
theorem trodAll_stays {H : Type} {enc : TypeId × Value → H} {P : Program} {W W' : World} (hl : laidOutB P = true) (hB : Below W.heap.size W W') (sp : Nat → Bool) : ∀ (ts : List TypeId) (vs : List Value) (ds : List (DataW H)) (ps : List MemPlace), (∀ t ∈ ts, P.readableRec t = true ∧ t < P.types.size) →
    DataW.TrodAll enc P W 0 (fun _ => true) true ts vs ds ps → (∀ x ∈ ps, x.block < W.heap.size ∧ sp x.block = true) → DataW.TrodAll enc P W' 0 sp true ts vs ds ps
  | [], [], [], ps, _, h, _ => h
  | t :: ts, v :: vs, d :: ds, ps, hr, ⟨p, q, h1, h2, e⟩, hlt => by
    subst e
    exact ⟨p, q, WideElems.Trod_stays hl (hr t (List.mem_cons_self ..)).1 (hr t (List.mem_cons_self ..)).2 h1 (fun x hx => hB.same (hlt x (List.mem_append_left _ hx)).1) (fun x hx => (hlt x (List.mem_append_left _ hx)).2),
      trodAll_stays hl hB sp ts vs ds q (fun t ht => hr t (List.mem_cons_of_mem _ ht)) h2 (fun x hx => hlt x (List.mem_append_right _ hx)), rfl⟩
/-- A law's row: it hands back true; the input reads as it did. -/
theorem post_law {H : Type} {enc : TypeId × Value → H} {P : Program} {f : Func} {s : ChangeSpec} {again : Bool} {W W' : World} {args : Array Value} {ds : List (DataW H)} {before : List MemPlace} {tb : TypeId}
    (hl : laidOutB P = true) (hr : f.resultTypes = #[tb]) (hb : P.underlying tb = some .bool) (hv : s.vars = []) (hs : (s.fn H (ds ++ [])) = { results := [.lit (.bool true)], args := ds }) (hrd : ∀ t ∈ f.params.toList, P.readableRec t = true ∧ t < P.types.size)
    (hW : DataW.Whole enc P f.params.toList s.vars false W args.toList ds [] before) (hB : Below W.heap.size W W') : s.post enc P f false true false again W args (.bool true) W' := by
  have hlt : ∀ x ∈ before, x.block < W.heap.size := fun x hx => by simpa using hW.lt x hx
  have hW0 := hW
  obtain ⟨p, q, hA, hV, rfl, hfz, _⟩ := hW
  rw [hv] at hV
  obtain ⟨_, rfl⟩ := trodVars_none hV
  rw [List.append_nil] at hlt hfz hW0
  have hres : ∀ (b : Nat) (sp : Nat → Bool) (hd : Bool), DataW.TrodAll enc P W' b sp hd f.resultTypes.toList ((Value.bool true).resultList f.resultTypes.size) [.lit (.bool true)] [] := fun b sp hd => by
    rw [hr]; exact trodAll_mk1 (shut_bool hb true)
  have hargs : ∀ sp : Nat → Bool, (∀ x ∈ p, sp x.block = true) → DataW.TrodAll enc P W' 0 sp true f.params.toList args.toList ds p := fun sp h => trodAll_stays hl hB sp _ _ _ _ hrd hA (fun x hx => ⟨hlt x hx, h x hx⟩)
  have hnil : ∀ sp : Nat → Bool, DataW.TrodVars enc P W' sp s.vars [] [] := fun sp => by rw [hv]; rfl
  refine ⟨ds, [], p, [], p, [], hW0, ?_, ?_, ?_, keptBut_below hB, fun _ => ?_⟩
  · rw [hs]; exact hres _ _ _
  · rw [hs]; exact hargs _ (fun x hx => by simpa using hlt x hx)
  · rw [hs]; exact hnil _
  · refine ⟨fun j t r ht hr' => ?_, [.lit (.bool true)] ++ ds, [], [] ++ p, ⟨[] ++ p, [], trodAll_append (hargs _ (fun _ _ => rfl)) (hres _ _ _), hnil _, by simp, ?_, fun h => by cases h⟩, fun x hx _ => by simpa using hx⟩
    · rw [hr] at ht hr'
      cases j with
      | zero => simp [Value.resultList] at ht hr'; subst ht; subst hr'; exact okWide_bool_mk hb _
      | succ j => simp at ht
    · intro b off hx
      rw [hB.frozen (hlt _ (by simpa using hx))]
      exact hfz b off (by simpa using hx)
theorem cell_heap {W : World} {b o : Nat} {u : Value} (h : W.cell? ⟨b, o, none⟩ = some u) : Cell (heapI W) [] b o u := by
  unfold World.cell? at h
  split at h
  · rename_i c t fz hb
    simp only [Option.isSome_none, Bool.false_eq_true, if_false] at h
    exact ⟨c, t, fz, .inl hb, h⟩
  · cases h
/-- A slice that came in, as it is read. -/
theorem open_SlT {H : Type} {enc : TypeId × Value → H} {P : Program} {W : World} {t e : TypeId} {size fuel0 : Nat} {cs : List Value} {x0 : DataW H × List MemPlace} {α : Type} (enc' : α → List Value) (ok : α → Prop)
    (ht : P.underlying t = some (.slice e)) (hc : P.cellsOf e = size) (hpos : 0 < size) (hlen : ∀ y, (enc' y).length = size)
    (hel : ∀ fuel cs x, DataW.trod enc P W 0 (fun _ => true) true fuel e cs = some x → ∃ y, ok y ∧ enc' y = cs)
    (hf' : DataW.trod enc P W 0 (fun _ => true) true fuel0 t cs = some x0) : ∃ av n c xs, cs = [.slice av n c] ∧ Sl (heapI W) size enc' av n c xs ∧ (∀ x ∈ xs, ok x) ∧ c ≤ maxLen := by
  rcases Go.Deep.open_slice ht hf' with ⟨e1, _⟩ | ⟨a, len0, cap0, m, n, D, Pl, e1, hb, hl, hm, hmm, _, hx⟩
  · subst e1
    exact ⟨none, 0, 0, [], rfl, .nil, (fun x hx => by cases hx), Nat.zero_le _⟩
  · subst e1
    have hlm : len0 ≤ m := by rw [hmm]; simp; exact hl
    have each : ∀ i, i < len0 → ∃ y, ok y ∧ W.cells? 0 (a.add (i * size)) size = some (enc' y) := fun i hi => by
      obtain ⟨cs', h1, h2⟩ := hx i (by omega)
      obtain ⟨y, hy, e⟩ := hel _ _ _ h2
      rw [hc] at h1
      exact ⟨y, hy, by rw [h1, e]⟩
    have all : ∀ k, k ≤ len0 → ∃ xs : List α, xs.length = k ∧ ∀ i x, xs[i]? = some x → ok x ∧ W.cells? 0 (a.add (i * size)) size = some (enc' x) := by
      intro k
      induction k with
      | zero => intro _; exact ⟨[], rfl, fun i x h => by simp at h⟩
      | succ k ih =>
        intro hk
        obtain ⟨xs, hl', hxs⟩ := ih (by omega)
        obtain ⟨y, hy, hcy⟩ := each k (by omega)
        refine ⟨xs ++ [y], by simp [hl'], fun i x h => ?_⟩
        by_cases hi : i < xs.length
        · rw [List.getElem?_append_left hi] at h; exact hxs i x h
        · rw [List.getElem?_append_right (by omega)] at h
          have : i = k := by have := (List.getElem?_eq_some_iff.1 h).1; simp at this; omega
          subst this
          rw [hl'] at h; simp at h; subst h
          exact ⟨hy, hcy⟩
    obtain ⟨xs, hl', hxs⟩ := all len0 (Nat.le_refl _)
    have add0 : ∀ (b o n : Nat), (⟨b, o, none⟩ : Addr).add n = ⟨b, o + n, none⟩ := fun b o n => by
      unfold Addr.add
      split
      · rename_i e; subst e; rfl
      · rfl
    have hspot : 0 < xs.length → a.spot = none := fun hx => by
      have hx0 : xs[0]? = some xs[0] := List.getElem?_eq_getElem hx
      have hp0 : 0 < (enc' xs[0]).length := by rw [hlen]; exact hpos
      obtain ⟨_, h1, h2⟩ := World.cells?_some (hxs 0 _ hx0).2
      have h3 := h2 0 hpos
      rw [List.getElem?_eq_getElem hp0] at h3
      simpa [Addr.add] using World.cell?_spot h3
    have cellat : ∀ i x, xs[i]? = some x → ∀ j u, (enc' x)[j]? = some u → W.cell? ⟨a.block, a.off + i * size + j, none⟩ = some u := fun i x hx j u hu => by
      obtain ⟨_, h1, h2⟩ := World.cells?_some (hxs i x hx).2
      have hj : j < size := by rw [← hlen x]; exact (List.getElem?_eq_some_iff.1 hu).1
      have h3 := h2 j hj
      rw [hu] at h3
      have hsp := hspot (by have := (List.getElem?_eq_some_iff.1 hx).1; omega)
      obtain ⟨b, o, sp⟩ := a
      simp only at hsp
      subst hsp
      rw [add0, add0] at h3
      exact h3
    refine ⟨some a, len0, cap0, xs, rfl, ⟨hl', hl, fun hn => ?_, fun k x hx j u hu => ?_⟩, fun x hx => ?_, hm⟩
    · have := hspot (by omega)
      obtain ⟨b, o, sp⟩ := a
      simp only at this
      subst this; rfl
    · exact cell_heap (cellat k x hx j u hu)
    · obtain ⟨i, hi⟩ := List.getElem?_of_mem hx
      exact (hxs i x hi).1
theorem open_Sl {H : Type} {enc : TypeId × Value → H} {P : Program} {W : World} {base : Nat} {t e : TypeId} {size : Nat} {v : Value} {d : DataW H} {p : List MemPlace} {α : Type} (enc' : α → List Value) (ok : α → Prop)
    (ht : P.underlying t = some (.slice e)) (hc : P.cellsOf e = size) (hpos : 0 < size) (hlen : ∀ y, (enc' y).length = size)
    (hel : ∀ fuel cs x, DataW.trod enc P W 0 (fun _ => true) true fuel e cs = some x → ∃ y, ok y ∧ enc' y = cs)
    (hv : Value.okWide P W .any base t v) (h : DataW.Trod enc P W 0 (fun _ => true) true t v d p) : ∃ av n c xs, v = .slice av n c ∧ Sl (heapI W) size enc' av n c xs ∧ (∀ x ∈ xs, ok x) ∧ c ≤ maxLen := by
  obtain ⟨a0, len0, cap0, rfl⟩ := okWide_slice ht hv
  obtain ⟨fuel, hf⟩ := h
  obtain ⟨av, n, c, xs, e, h1, h2, h3⟩ := open_SlT enc' ok ht hc hpos hlen hel (cs := [.slice a0 len0 cap0]) (by simpa [Value.cells] using hf)
  cases e
  exact ⟨_, _, _, xs, rfl, h1, h2, h3⟩
/-- A slice of one-cell ints. -/
theorem el_int {H : Type} {enc : TypeId × Value → H} {P : Program} {W : World} {e : TypeId} {k : IntKind} (he : P.underlying e = some (.int k)) (hk : k = .i64) (fuel : Nat) (cs : List Value) (x : DataW H × List MemPlace) (h : DataW.trod enc P W 0 (fun _ => true) true fuel e cs = some x) :
    ∃ y : Int, (-9223372036854775808 ≤ y ∧ y ≤ 9223372036854775807) ∧ [Value.int .i64 y] = cs := by
  subst hk
  obtain ⟨v, hv⟩ : ∃ v, cs = [v] := by
    have := h
    cases fuel with
    | zero => simp [DataW.trod] at this
    | succ m => unfold DataW.trod at this; rw [he] at this; split at this <;> simp_all
  subst hv
  obtain ⟨n, e, _, w⟩ := DataW.trod_int he h
  cases e
  simp only [Lit.wf, Bool.and_eq_true, decide_eq_true_eq] at w
  exact ⟨n, w, rfl⟩
end Go.Kn
end
section
namespace Go.Kn
open Go
theorem trod_seg {H : Type} {enc : TypeId × Value → H} {P : Program} {W : World} {base : Nat} {spare : Nat → Bool} {held : Bool} {t C : Nat} {fs : Array Field} {fuel : Nat} {cs : List Value} {x : DataW H × List MemPlace} (hs : P.underlying t = some (.struct fs))
    (hC : P.cellsOf t = C) (h : DataW.trod enc P W base spare held fuel t cs = some x) :
    cs.length = C ∧ ∃ n, ∀ (i ty off k : Nat), ((fs[i]?).map fun f => (f.type, f.offset)) = some (ty, off) → P.cellsOf ty = k → ∃ y, DataW.trod enc P W base spare held n ty ((cs.drop off).take k) = some y := by
  obtain ⟨xs, n, _, _, hl, hxl, hf⟩ := DataW.trod_struct hs h
  refine ⟨hl.trans hC, n, fun i ty off k hi hk => ?_⟩
  obtain ⟨f, hfi, e⟩ := Option.map_eq_some_iff.1 hi
  cases e
  have g := hf i f hfi
  have hix : i < xs.length := by rw [hxl]; exact (Array.getElem?_eq_some_iff.1 hfi).1
  rw [hk, List.getElem?_eq_getElem hix] at g
  exact ⟨_, g⟩
/-- A slice of bytes. -/
def encU (n : Int) : List Value := [.int .u8 n]
theorem encU_len (n : Int) : (encU n).length = 1 := rfl
theorem el_u8 {H : Type} {enc : TypeId × Value → H} {P : Program} {W : World} {e : TypeId} (he : P.underlying e = some (.int .u8)) (fuel : Nat) (cs : List Value) (x : DataW H × List MemPlace) (h : DataW.trod enc P W 0 (fun _ => true) true fuel e cs = some x) :
    ∃ y : Int, (0 ≤ y ∧ y ≤ 255) ∧ encU y = cs := by
  obtain ⟨v, hv⟩ : ∃ v, cs = [v] := by
    have := h
    cases fuel with
    | zero => simp [DataW.trod] at this
    | succ m => unfold DataW.trod at this; rw [he] at this; split at this <;> simp_all
  subst hv
  obtain ⟨n, e, _, w⟩ := DataW.trod_int he h
  cases e
  simp only [Lit.wf, Bool.and_eq_true, decide_eq_true_eq] at w
  exact ⟨n, w, rfl⟩
end Go.Kn
end
section
namespace Go.Proofs.Ytccomeanpppfmaa
open Go Go.Kn Go.Proofs
theorem cvt_5_3 : CvT Try.prog 5 3 .i64 := ⟨by kernel_rfl, by kernel_rfl⟩
theorem sct_5 : ScT Try.prog 5 := .of (by kernel_rfl)
theorem slt_53 : SlT Try.prog 53 5 1 := .of (by kernel_rfl)
theorem w_line {I : HMap} {av : Option Addr} {n c : Nat} {ps : List Pt} (hP : SlP I av n c ps) (hn : n ≤ 100000) (hnd : ∀ p ∈ ps, p.n ≤ 100000) {dv : Option Addr} {n3 c3 : Nat} {ws : List Int} (hV : Sl I 1 encI dv n3 c3 ws) (hn3 : n3 ≤ 100000) {ov : Option Addr} {no co : Nat} {os_ : List Int} (hOr : Sl I 1 encU ov no co os_) (hOb : ∀ x ∈ os_, 0 ≤ x ∧ x ≤ 255) : RetM Try.prog 20 [.slice av n c, .slice dv n3 c3, .slice ov no co] I [] (SlRes 19 encP (lineK ps ws os_ n3)) := by
  intro g H w hw
  refine enter Try.func20 rfl Try.ntmps20 rfl hw ?_
  have hIc := HLe.refl I
  refine X_seq ?_
  refine X_region ?_
  refine XO_v0 (ev_assign rfl) rfl rfl rfl ?_
  refine XO_nil ?_
  refine at_then ?_
  refine X_seq ?_
  refine X_region ?_
  refine XO_v0 (ev_assign rfl) rfl rfl rfl ?_
  refine XO_nil ?_
  refine at_then ?_
  refine X_seq ?_
  refine X_seq ?_
  refine X_region ?_
  refine XO_v0 (ev_move rfl) rfl rfl rfl ?_
  refine XO_v0 (ev_lenS rfl slt_23) rfl rfl rfl ?_
  refine XO_v0 (ev_move rfl) rfl rfl rfl ?_
  refine XO_nil ?_
  refine at_then ?_
  refine X_block ?_
  refine X_loopT [(0, _), (1, _), (2, _), (16, _)] (.cons rfl (.cons rfl (.cons rfl (.cons rfl .nil)))) (fun T L0 mz E I' loc' => ∃ (k : Nat) (v6 : Value) (L6 : Go.Kn.Loc) (v7 : Value) (L7 : Go.Kn.Loc), mz = n3 - k ∧ E = (6, v6) :: (7, v7) :: (17, .int .i64 k) :: T ∧ HLe I I' ∧ L7 ++ L6 = loc' ∧ k ≤ n3 ∧ OwnS 37 19 v6 k ((lineK ps ws os_ k).flatMap encP) L6 ∧ OwnS 3 1 v7 k (((lineK ps ws os_ k).map (·.id)).flatMap encI) L7 ∧ (lineK ps ws os_ k).length = k) _ _ _ _ ⟨0, _, [], _, [], rfl, rfl, HLe.refl _, rfl, Nat.zero_le _, OwnS.nil, OwnS.nil, rfl⟩ (.cons rfl (.cons rfl (.cons rfl (.cons rfl (.cons rfl (.cons rfl (.cons rfl .nil))))))) (HLe.refl _) rfl ?_
  rintro mz E J1 loc' ⟨k, v6, L6, v7, L7, rfl, rfl, hJ, rfl, hk, hL, hDn, hlen⟩
  have hP := hP.mono hJ
  have hV := hV.mono hJ
  have hOr := hOr.mono hJ
  have hIc := hIc.trans hJ
  have hB0 := hJ
  obtain ⟨a7, c7, rfl⟩ := valn hDn
  refine X_seq ?_
  refine X_region ?_
  refine XO_v0 (ev_cmp rfl rfl rfl) rfl rfl rfl ?_
  refine XO_nil ?_
  refine at_then ?_
  refine X_seq ?_
  refine X_cond rfl (fun hc18 => ?_) (fun hc18 => ?_)
  · skip
    have hlt_k : k < n3 := by have h := hc18; simp at h; omega
    refine X_skip ?_
    refine at_then ?_
    refine X_seq ?_
    refine X_block ?_
    refine X_seq ?_
    refine X_region ?_
    refine XO_v0 (ev_assign rfl) rfl rfl rfl ?_
    refine XO_nil ?_
    refine at_then ?_
    refine X_seq ?_
    refine X_seq ?_
    refine X_region ?_
    refine XO_v0 (ev_move rfl) rfl rfl rfl ?_
    refine XO_v0 (ev_lenS rfl slt_22) rfl rfl rfl ?_
    refine XO_v0 (ev_move rfl) rfl rfl rfl ?_
    refine XO_nil ?_
    refine at_then ?_
    refine X_block ?_
    refine X_loopT [(0, _), (1, _), (2, _), (6, _), (7, _), (16, _), (17, _), (19, _), (20, _)] (.cons rfl (.cons rfl (.cons rfl (.cons rfl (.cons rfl (.cons rfl (.cons rfl (.cons rfl (.cons rfl .nil))))))))) (fun T L0 mz E I' loc' => ∃ (j : Nat) (vr : Value) (qr : Nat) (Lr : Go.Kn.Loc), mz = n - j ∧ E = (8, vr) :: (21, .int .i64 j) :: T ∧ J1 = I' ∧ Lr ++ (L7 ++ L6) = loc' ∧ j ≤ n ∧ OwnS 37 19 vr qr ((rdyF (ps.take j) ws ((lineK ps ws os_ k).map (·.id))).flatMap encP) Lr ∧ qr ≤ j) _ _ _ _ ⟨0, _, 0, [], rfl, rfl, rfl, rfl, Nat.zero_le _, by rw [List.take_zero]; exact OwnS.nil, Nat.le_refl _⟩ (.cons rfl (.cons rfl (.cons rfl (.cons rfl (.cons rfl (.cons rfl (.cons rfl (.cons rfl (.cons rfl (.cons rfl (.cons rfl .nil))))))))))) (HLe.refl _) rfl ?_
    rintro mz E I' loc' ⟨j, vr, qr, Lr, rfl, rfl, rfl, rfl, hj, hR, hqr⟩
    refine X_seq ?_
    refine X_region ?_
    refine XO_v0 (ev_cmp rfl rfl rfl) rfl rfl rfl ?_
    refine XO_nil ?_
    refine at_then ?_
    refine X_seq ?_
    refine X_cond rfl (fun hc22 => ?_) (fun hc22 => ?_)
    · skip
      have hlt_j : j < n := by have h := hc22; simp at h; omega
      have hP1 := hP.1
      obtain ⟨p, hp, hN⟩ := hP.at hlt_j
      have hpm := List.mem_of_getElem? hp
      have hN : Sl J1 1 encI p.a p.n p.c p.needs := hN
      have hpn := hnd p hpm
      refine X_skip ?_
      refine at_then ?_
      refine X_seq ?_
      refine X_block ?_
      refine X_seq ?_
      refine X_region ?_
      refine XO_v0 (ev_indexSl rfl rfl slt_22 (by assumption) (fun hg => by omega)) rfl rfl rfl ?_
      refine XO_v0 (ev_loadA rfl agt_37 (fun hg => by first | exact Sl.getA hP1 hp | exact Sl.getA hRd hr | exact Cells.g0 | exact Cells.g1 | exact Cells.g2 | exact Cells.g3 | exact Cells.g4 | exact Cells.g5 | exact Cells.s0 (vs := [_, _, _, _, _, _, _, _, _, _, _, _, _, _, _, _, _, _, _]) rfl | exact Cells.s1 (vs := [_, _, _, _, _, _, _, _, _, _, _, _, _, _, _, _, _, _, _]) rfl | exact Cells.s2 (vs := [_, _, _, _, _, _, _, _, _, _, _, _, _, _, _, _, _, _, _]) rfl | exact Cells.s3 (vs := [_, _, _, _, _, _, _, _, _, _, _, _, _, _, _, _, _, _, _]) rfl | exact Cells.s4 (vs := [_, _, _, _, _, _, _, _, _, _, _, _, _, _, _, _, _, _, _]) rfl | exact Cells.s5 (vs := [_, _, _, _, _, _, _, _, _, _, _, _, _, _, _, _, _, _, _]) rfl | (repeat (first | exact Cells.here | apply Cells.there | apply Cells.app))) rfl) rfl rfl rfl ?_
      refine XO_alloc zt_37 rfl rfl (fun b_10 => ?_)
      refine XO_storeA rfl rfl szt_37 rfl rfl rfl rfl (by first | exact Upd.u0 | exact Upd.u1 | exact Upd.u2 | exact Upd.u3 | exact Upd.u4 | exact Upd.u5 | (repeat (first | exact Upd.here | apply Upd.there | apply upd_app))) ?_
      refine XO_nil ?_
      refine at_then ?_
      refine X_seq ?_
      refine X_region ?_
      refine XO_v0 (ev_move rfl) rfl rfl rfl ?_
      refine XO_v0 (ev_fieldAddr rfl fld_37_0) rfl rfl rfl ?_
      refine XO_v0 (ev_load rfl sct_3 (fun hg => by first | exact Sl.get0 hN hy rfl | exact Sl.get0 hOr hz rfl | exact Sl.get hRd hr rfl | exact Cell.h0 rfl | exact Cell.h1 rfl | exact Cell.h2 rfl | exact Cell.h3 rfl | exact Cell.h4 rfl | exact Cell.h5 rfl | (repeat (first | exact Cell.here rfl | apply Cell.there | apply Cell.app)))) rfl rfl rfl ?_
      refine XO_callV0 (cap := []) (vs := [_, _]) rfl rfl fun_13 (w_has hV hn3 _) rfl rfl ?_
      refine XO_v0 (ev_move rfl) rfl rfl rfl ?_
      refine XO_pushT 4 rfl rfl rfl ?_
      refine XO_v1 (ev_move rfl) (.some rfl rfl rfl rfl gbt) rfl rfl rfl ?_
      refine XO_v1 (ev_fieldAddr rfl fld_37_0) (.some rfl rfl rfl rfl gbt) rfl rfl rfl ?_
      refine XO_v1 (ev_load rfl sct_3 (fun hg => by first | exact Sl.get0 hN hy rfl | exact Sl.get0 hOr hz rfl | exact Sl.get hRd hr rfl | exact Cell.h0 rfl | exact Cell.h1 rfl | exact Cell.h2 rfl | exact Cell.h3 rfl | exact Cell.h4 rfl | exact Cell.h5 rfl | (repeat (first | exact Cell.here rfl | apply Cell.there | apply Cell.app)))) (.some rfl rfl rfl rfl gbt) rfl rfl rfl ?_
      refine XO_callK1 (cap := []) (vs := [_, _]) rfl rfl fun_13 split_all (fun hg => RetK.ofV fun I' hI' hL' => by obtain ⟨_, _, e, hSd⟩ := hDn.sl encI_len (by decide) (fun b o h => hL' b o (by simp [h])); cases e; exact w_has hSd (by omega) _) (.some rfl rfl rfl rfl gbt) rfl rfl ?_
      refine XO_v1 (ev_not rfl) (.some rfl rfl rfl rfl gbt) rfl rfl rfl ?_
      refine XO_and0 rfl rfl rfl rfl rfl ?_
      refine XO_v0 (ev_assign rfl) rfl rfl rfl ?_
      refine XO_nil ?_
      refine at_then ?_
      refine X_seq ?_
      refine X_seq ?_
      refine X_region ?_
      refine XO_v0 (ev_fieldAddr rfl fld_37_5) rfl rfl rfl ?_
      refine XO_v0 (ev_load rfl sct_23 (fun hg => by first | exact Sl.get0 hN hy rfl | exact Sl.get0 hOr hz rfl | exact Sl.get hRd hr rfl | exact Cell.h0 rfl | exact Cell.h1 rfl | exact Cell.h2 rfl | exact Cell.h3 rfl | exact Cell.h4 rfl | exact Cell.h5 rfl | (repeat (first | exact Cell.here rfl | apply Cell.there | apply Cell.app)))) rfl rfl rfl ?_
      refine XO_v0 (ev_lenS rfl slt_23) rfl rfl rfl ?_
      refine XO_v0 (ev_move rfl) rfl rfl rfl ?_
      refine XO_nil ?_
      refine at_then ?_
      refine X_block ?_
      refine X_loopT [(0, _), (1, _), (2, _), (6, _), (7, _), (8, _), (10, _), (16, _), (17, _), (19, _), (20, _), (21, _), (37, _), (38, _)] (.cons rfl (.cons rfl (.cons rfl (.cons rfl (.cons rfl (.cons rfl (.cons rfl (.cons rfl (.cons rfl (.cons rfl (.cons rfl (.cons rfl (.cons rfl (.cons rfl .nil)))))))))))))) (fun T L0 mz E I' loc' => ∃ (i : Nat) (f : Bool), mz = p.n - i ∧ E = (11, .bool f) :: (39, .int .i64 i) :: T ∧ J1 = I' ∧ (b_10, .cells (encP p).toArray 37 (0, 0)) :: (Lr ++ (L7 ++ L6)) = loc' ∧ i ≤ p.n ∧ f = ((hasF ws p.id && !hasF ((lineK ps ws os_ k).map (·.id)) p.id) && (p.needs.take i).all (hasF ((lineK ps ws os_ k).map (·.id))))) _ _ _ _ ⟨0, _, rfl, rfl, rfl, rfl, Nat.zero_le _, by rw [List.take_zero]; simp [hasF]⟩ (.cons rfl (.cons rfl (.cons rfl (.cons rfl (.cons rfl (.cons rfl (.cons rfl (.cons rfl (.cons rfl (.cons rfl (.cons rfl (.cons rfl (.cons rfl (.cons rfl (.cons rfl (.cons rfl .nil)))))))))))))))) (HLe.refl _) rfl ?_
      rintro mz E I' loc' ⟨i, f, rfl, rfl, rfl, rfl, hi, hf⟩
      refine X_seq ?_
      refine X_region ?_
      refine XO_v0 (ev_cmp rfl rfl rfl) rfl rfl rfl ?_
      refine XO_nil ?_
      refine at_then ?_
      refine X_seq ?_
      refine X_cond rfl (fun hc40 => ?_) (fun hc40 => ?_)
      · skip
        have hlt_i : i < p.n := by have h := hc40; simp at h; omega
        obtain ⟨y, hy⟩ := hN.at hlt_i
        refine X_skip ?_
        refine at_then ?_
        refine X_seq ?_
        refine X_block ?_
        refine X_seq ?_
        refine X_region ?_
        refine XO_v0 (ev_indexSl rfl rfl slt_23 (by assumption) (fun hg => by omega)) rfl rfl rfl ?_
        refine XO_v0 (ev_load rfl sct_3 (fun hg => by first | exact Sl.get0 hN hy rfl | exact Sl.get0 hOr hz rfl | exact Sl.get hRd hr rfl | exact Cell.h0 rfl | exact Cell.h1 rfl | exact Cell.h2 rfl | exact Cell.h3 rfl | exact Cell.h4 rfl | exact Cell.h5 rfl | (repeat (first | exact Cell.here rfl | apply Cell.there | apply Cell.app)))) rfl rfl rfl ?_
        refine XO_v0 (ev_assign rfl) rfl rfl rfl ?_
        refine XO_nil ?_
        refine at_then ?_
        refine X_region ?_
        refine XO_v0 (ev_move rfl) rfl rfl rfl ?_
        refine XO_v0 (ev_move rfl) rfl rfl rfl ?_
        refine XO_pushT 1 rfl rfl rfl ?_
        refine XO_v1 (ev_move rfl) (.some rfl rfl rfl rfl gbt) rfl rfl rfl ?_
        refine XO_v1 (ev_move rfl) (.some rfl rfl rfl rfl gbt) rfl rfl rfl ?_
        refine XO_callK1 (cap := []) (vs := [_, _]) rfl rfl fun_13 split_all (fun hg => RetK.ofV fun I' hI' hL' => by obtain ⟨_, _, e, hSd⟩ := hDn.sl encI_len (by decide) (fun b o h => hL' b o (by simp [h])); cases e; exact w_has hSd (by omega) _) (.some rfl rfl rfl rfl gbt) rfl rfl ?_
        refine XO_and0 rfl rfl rfl rfl rfl ?_
        refine XO_v0 (ev_assign rfl) rfl rfl rfl ?_
        refine XO_nil ?_
        refine at_block_n ?_
        refine at_then ?_
        refine X_region ?_
        refine XO_v0 (ev_arB rfl rfl rfl (fun hg => by first | omega | (simp [conj] at hg; omega))) rfl rfl rfl ?_
        refine XO_v0 (ev_move rfl) rfl rfl rfl ?_
        refine XO_nil ?_
        exact at_met2 _ _ ⟨p.n - (i + 1), by omega, i + 1, _, rfl, rfl, rfl, rfl, by omega, by rw [all_take hy, ← Bool.and_assoc, ← hf]; rfl⟩ (.cons rfl (.cons rfl (.cons rfl (.cons rfl (.cons rfl (.cons rfl (.cons rfl (.cons rfl (.cons rfl (.cons rfl (.cons rfl (.cons rfl (.cons rfl (.cons rfl (.cons rfl (.cons rfl .nil)))))))))))))))) (by repeat (first | exact .refl | exact subL_left | refine subL_app ?_ | refine .drop ?_ | refine subL_add ?_))
      · skip
        have hge_i : p.n ≤ i := by have h := hc40; simp at h; omega
        rw [take_all hN.len hge_i] at hf
        refine X_exit ?_
        refine at_then_e ?_
        refine at_then_e ?_
        refine at_block_hit ?_
        refine at_then ?_
        refine X_seq ?_
        refine X_region ?_
        refine XO_v0 (ev_move rfl) rfl rfl rfl ?_
        refine XO_nil ?_
        refine at_then ?_
        refine X_cond rfl (fun hc50 => ?_) (fun hc50 => ?_)
        · skip
          have hrb : rdyB ws ((lineK ps ws os_ k).map (·.id)) p = true := by rw [← hc50, hf]; rfl
          refine X_region ?_
          refine XO_v0 (ev_move rfl) rfl rfl rfl ?_
          refine XO_v0 (ev_loadA rfl agt_37 (fun hg => by first | exact Sl.getA hP1 hp | exact Sl.getA hRd hr | exact Cells.g0 | exact Cells.g1 | exact Cells.g2 | exact Cells.g3 | exact Cells.g4 | exact Cells.g5 | exact Cells.s0 (vs := [_, _, _, _, _, _, _, _, _, _, _, _, _, _, _, _, _, _, _]) rfl | exact Cells.s1 (vs := [_, _, _, _, _, _, _, _, _, _, _, _, _, _, _, _, _, _, _]) rfl | exact Cells.s2 (vs := [_, _, _, _, _, _, _, _, _, _, _, _, _, _, _, _, _, _, _]) rfl | exact Cells.s3 (vs := [_, _, _, _, _, _, _, _, _, _, _, _, _, _, _, _, _, _, _]) rfl | exact Cells.s4 (vs := [_, _, _, _, _, _, _, _, _, _, _, _, _, _, _, _, _, _, _]) rfl | exact Cells.s5 (vs := [_, _, _, _, _, _, _, _, _, _, _, _, _, _, _, _, _, _, _]) rfl | (repeat (first | exact Cells.here | apply Cells.there | apply Cells.app))) rfl) rfl rfl rfl ?_
          refine XO_buildSlice (ps := [(0, _)]) (m := [encP p]) elt_22 rfl (.cons rfl (.nil)) rfl (by simp [encI_len, encP_len]) (by decide) (by decide) rfl rfl (fun b_53 => ?_)
          refine XO_append (v := _) (ys := [p].flatMap encP) (L := Lr) rfl rfl elt_22 hR (by repeat (first | exact .cons .here .nil | exact split_all | exact split_app | apply split_cons | apply split_skip)) ⟨rfl, fun _ => rfl, Cells.here⟩ (one_P [p]) (by omega) rfl rfl ?_
          intro v9 L9 hO9 _; rw [← List.flatMap_append] at hO9
          refine XO_v0 (ev_assign rfl) rfl rfl rfl ?_
          refine XO_nil ?_
          refine at_block_n ?_
          refine at_then ?_
          refine X_region ?_
          refine XO_v0 (ev_arB rfl rfl rfl (fun hg => by first | omega | (simp [conj] at hg; omega))) rfl rfl rfl ?_
          refine XO_v0 (ev_move rfl) rfl rfl rfl ?_
          refine XO_nil ?_
          first
          | exact at_met2 _ _ ⟨n - (j + 1), by omega, j + 1, _, _, _, rfl, rfl, rfl, rfl, by omega, by rw [rdy_no hp hrb]; exact hR, by omega⟩ (.cons rfl (.cons rfl (.cons rfl (.cons rfl (.cons rfl (.cons rfl (.cons rfl (.cons rfl (.cons rfl (.cons rfl (.cons rfl .nil))))))))))) (by repeat (first | exact .refl | exact subL_left | refine subL_app ?_ | refine .drop ?_ | refine subL_add ?_))
          | exact at_met2 _ _ ⟨n - (j + 1), by omega, j + 1, _, _, _, rfl, rfl, rfl, rfl, by omega, by rw [rdy_yes hp hrb]; exact hO9, by omega⟩ (.cons rfl (.cons rfl (.cons rfl (.cons rfl (.cons rfl (.cons rfl (.cons rfl (.cons rfl (.cons rfl (.cons rfl (.cons rfl .nil))))))))))) (by repeat (first | exact .refl | exact subL_left | refine subL_app ?_ | refine .drop ?_ | refine subL_add ?_))
        · skip
          have hrb : rdyB ws ((lineK ps ws os_ k).map (·.id)) p = false := by rw [← hc50, hf]; rfl
          refine X_skip ?_
          refine at_block_n ?_
          refine at_then ?_
          refine X_region ?_
          refine XO_v0 (ev_arB rfl rfl rfl (fun hg => by first | omega | (simp [conj] at hg; omega))) rfl rfl rfl ?_
          refine XO_v0 (ev_move rfl) rfl rfl rfl ?_
          refine XO_nil ?_
          first
          | exact at_met2 _ _ ⟨n - (j + 1), by omega, j + 1, _, _, _, rfl, rfl, rfl, rfl, by omega, by rw [rdy_no hp hrb]; exact hR, by omega⟩ (.cons rfl (.cons rfl (.cons rfl (.cons rfl (.cons rfl (.cons rfl (.cons rfl (.cons rfl (.cons rfl (.cons rfl (.cons rfl .nil))))))))))) (by repeat (first | exact .refl | exact subL_left | refine subL_app ?_ | refine .drop ?_ | refine subL_add ?_))
          | exact at_met2 _ _ ⟨n - (j + 1), by omega, j + 1, _, _, _, rfl, rfl, rfl, rfl, by omega, by rw [rdy_yes hp hrb]; exact hO9, by omega⟩ (.cons rfl (.cons rfl (.cons rfl (.cons rfl (.cons rfl (.cons rfl (.cons rfl (.cons rfl (.cons rfl (.cons rfl (.cons rfl .nil))))))))))) (by repeat (first | exact .refl | exact subL_left | refine subL_app ?_ | refine .drop ?_ | refine subL_add ?_))
    · skip
      have hge_j : n ≤ j := by have h := hc22; simp at h; omega
      rw [take_all hP.len hge_j] at hR
      refine X_exit ?_
      refine at_then_e ?_
      refine at_then_e ?_
      refine at_block_hit ?_
      refine at_then ?_
      refine X_seq ?_
      refine X_seq ?_
      refine X_freezeO hR encP_len (by decide) (by repeat (first | exact .cons .here .nil | exact split_all | exact split_app | apply split_cons | apply split_skip)) (fun I4 hI4 af4 cf4 ef4 hRd => ?_)
      subst ef4
      have hP := hP.mono hI4
      have hV := hV.mono hI4
      have hOr := hOr.mono hI4
      have hIc := hIc.trans hI4
      have hB0 := hB0.trans hI4
      refine X_region ?_
      refine XO_v0 (ev_move rfl) rfl rfl rfl ?_
      refine XO_v0 (ev_lenS rfl slt_22) rfl rfl rfl ?_
      refine XO_v0 (ev_cmp rfl rfl rfl) rfl rfl rfl ?_
      refine XO_nil ?_
      refine at_then ?_
      refine X_cond rfl (fun hc58 => ?_) (fun hc58 => ?_)
      · skip
        have hq0 : qr = 0 := by have h := hc58; simp at h; omega
        subst hq0
        have hst := line_stop (k := k) (List.eq_nil_of_length_eq_zero hRd.len) n3 (by omega)
        refine X_seq ?_
        refine X_region ?_
        refine XO_v0 (ev_move rfl) rfl rfl rfl ?_
        refine XO_v0 (ev_assign rfl) rfl rfl rfl ?_
        refine XO_nil ?_
        refine at_then ?_
        refine X_ret ?_
        refine at_then_r ?_
        refine at_block_r ?_
        refine at_then_r ?_
        refine at_then_r ?_
        refine at_block_r ?_
        refine at_then_r ?_
        first
        | exact at_ret1 rfl rfl (fun w hw => by obtain ⟨I9, h91, h92, h93⟩ := OwnS.res hL encP_len (by decide) (hw.subL (subL_add .refl)); exact ⟨_, I9, [], rfl, hIc.trans h91, h92, by rw [hst]; exact h93⟩)
        | exact at_ret1 rfl rfl (fun w hw => by obtain ⟨I9, h91, h92, h93⟩ := OwnS.res hL encP_len (by decide) (hw.subL (subL_add .refl)); exact ⟨_, I9, [], rfl, hIc.trans h91, h92, h93⟩)
      · skip
        have hq0 : qr ≠ 0 := by have h := hc58; simp at h; omega
        refine X_skip ?_
        refine at_then ?_
        refine X_seq ?_
        refine X_region ?_
        refine XO_v0 (ev_assign rfl) rfl rfl rfl ?_
        refine XO_nil ?_
        refine at_then ?_
        refine X_cutT [(0, _), (1, _), (2, _), (6, _), (7, _), (8, _), (16, _), (17, _)] (.cons rfl (.cons rfl (.cons rfl (.cons rfl (.cons rfl (.cons rfl (.cons rfl (.cons rfl .nil)))))))) (fun T L0 E I' loc' => ∃ (kk : Nat), E = (14, .int .i64 kk) :: T ∧ I4 = I' ∧ L7 ++ L6 = loc' ∧ kk = pickK os_ k qr) ?_ ?_
        · skip
          refine X_seq ?_
          refine X_region ?_
          refine XO_v0 (ev_move rfl) rfl rfl rfl ?_
          refine XO_v0 (ev_lenS rfl slt_53) rfl rfl rfl ?_
          refine XO_v0 (ev_cmp rfl rfl rfl) rfl rfl rfl ?_
          refine XO_nil ?_
          refine at_then ?_
          refine X_cond rfl (fun hc62 => ?_) (fun hc62 => ?_)
          · skip
            have hno : 0 < no := by have h := hc62; simp at h; omega
            have hml := Nat.mod_lt k hno
            obtain ⟨z, hz⟩ := hOr.at hml
            refine X_region ?_
            refine XO_v0 (ev_move rfl) rfl rfl rfl ?_
            refine XO_v0 (ev_move rfl) rfl rfl rfl ?_
            refine XO_v0 (ev_lenS rfl slt_23) rfl rfl rfl ?_
            refine XO_v0 (ev_move rfl) rfl rfl rfl ?_
            refine XO_v0 (ev_lenS rfl slt_53) rfl rfl rfl ?_
            refine XO_v0 (ev_rem rfl rfl (fun hg => by omega)) rfl rfl rfl ?_
            rw [tmod_nat']
            refine XO_v0 (ev_indexSl rfl rfl slt_53 (by assumption) (fun hg => by omega)) rfl rfl rfl ?_
            refine XO_v0 (ev_load rfl sct_5 (fun hg => by first | exact Sl.get0 hN hy rfl | exact Sl.get0 hOr hz rfl | exact Sl.get hRd hr rfl | exact Cell.h0 rfl | exact Cell.h1 rfl | exact Cell.h2 rfl | exact Cell.h3 rfl | exact Cell.h4 rfl | exact Cell.h5 rfl | (repeat (first | exact Cell.here rfl | apply Cell.there | apply Cell.app)))) rfl rfl rfl ?_
            refine XO_v0 (ev_convI rfl cvt_5_3) rfl rfl rfl ?_
            refine XO_v0 (ev_move rfl) rfl rfl rfl ?_
            refine XO_v0 (ev_lenS rfl slt_22) rfl rfl rfl ?_
            refine XO_v0 (ev_rem rfl rfl (fun hg => by omega)) rfl rfl rfl ?_
            rw [pick_val (hOb z (List.mem_of_getElem? hz))]
            refine XO_v0 (ev_assign rfl) rfl rfl rfl ?_
            refine XO_nil ?_
            first
            | exact at_met2 _ _ ⟨z.toNat % qr, rfl, rfl, rfl, pick_ne hOr.len (by omega) hz⟩ (.cons rfl (.cons rfl (.cons rfl (.cons rfl (.cons rfl (.cons rfl (.cons rfl (.cons rfl (.cons rfl .nil))))))))) .refl
            | exact at_met2 _ _ ⟨0, rfl, rfl, rfl, pick_nil hOr.len (by have h := hc62; simp at h; omega)⟩ (.cons rfl (.cons rfl (.cons rfl (.cons rfl (.cons rfl (.cons rfl (.cons rfl (.cons rfl (.cons rfl .nil))))))))) .refl
          · skip
            refine X_skip ?_
            first
            | exact at_met2 _ _ ⟨z.toNat % qr, rfl, rfl, rfl, pick_ne hOr.len (by omega) hz⟩ (.cons rfl (.cons rfl (.cons rfl (.cons rfl (.cons rfl (.cons rfl (.cons rfl (.cons rfl (.cons rfl .nil))))))))) .refl
            | exact at_met2 _ _ ⟨0, rfl, rfl, rfl, pick_nil hOr.len (by have h := hc62; simp at h; omega)⟩ (.cons rfl (.cons rfl (.cons rfl (.cons rfl (.cons rfl (.cons rfl (.cons rfl (.cons rfl (.cons rfl .nil))))))))) .refl
        · rintro E I' loc' ⟨kk, rfl, rfl, rfl, hkk⟩
          have hkq : kk < qr := by rw [hkk]; exact pick_lt (by omega)
          obtain ⟨r, hr⟩ := hRd.at hkq
          have hnx : lineK ps ws os_ (k + 1) = (lineK ps ws os_ k) ++ [r] := line_next hRd.len (by omega) (by rw [hlen, ← hkk]; exact hr)
          have hlen8 : (lineK ps ws os_ (k + 1)).length = k + 1 := by rw [hnx, List.length_append, hlen]; rfl
          have hD := HLe.refl I4
          refine X_noP ?_
          refine X_drawS I4 [] mixed ?_
          refine XD_take 0 rfl (ev_move rfl) (.none rfl) rfl rfl rfl (by kernel_rfl) (by kernel_rfl) (by kernel_rfl) noP_ok hD (by repeat (first | exact .refl | exact subL_nil | refine .keep ?_ | refine .drop ?_ | refine subL_add ?_)) ?_
          refine XD_take 1 rfl (ev_move rfl) (.none rfl) rfl rfl rfl (by kernel_rfl) (by kernel_rfl) (by kernel_rfl) noP_ok hD (by repeat (first | exact .refl | exact subL_nil | refine .keep ?_ | refine .drop ?_ | refine subL_add ?_)) ?_
          refine XD_take 2 rfl (ev_move rfl) (.none rfl) rfl rfl rfl (by kernel_rfl) (by kernel_rfl) (by kernel_rfl) noP_ok hD (by repeat (first | exact .refl | exact subL_nil | refine .keep ?_ | refine .drop ?_ | refine subL_add ?_)) ?_
          refine XD_take 3 rfl (ev_indexSl rfl rfl slt_22 (by assumption) (fun hg => by omega)) (.none rfl) rfl rfl rfl (by kernel_rfl) (by kernel_rfl) (by kernel_rfl) noP_ok hD (by repeat (first | exact .refl | exact subL_nil | refine .keep ?_ | refine .drop ?_ | refine subL_add ?_)) ?_
          refine XD_take 4 rfl (ev_loadA rfl agt_37 (fun hg => by first | exact Sl.getA hP1 hp | exact Sl.getA hRd hr | exact Cells.g0 | exact Cells.g1 | exact Cells.g2 | exact Cells.g3 | exact Cells.g4 | exact Cells.g5 | exact Cells.s0 (vs := [_, _, _, _, _, _, _, _, _, _, _, _, _, _, _, _, _, _, _]) rfl | exact Cells.s1 (vs := [_, _, _, _, _, _, _, _, _, _, _, _, _, _, _, _, _, _, _]) rfl | exact Cells.s2 (vs := [_, _, _, _, _, _, _, _, _, _, _, _, _, _, _, _, _, _, _]) rfl | exact Cells.s3 (vs := [_, _, _, _, _, _, _, _, _, _, _, _, _, _, _, _, _, _, _]) rfl | exact Cells.s4 (vs := [_, _, _, _, _, _, _, _, _, _, _, _, _, _, _, _, _, _, _]) rfl | exact Cells.s5 (vs := [_, _, _, _, _, _, _, _, _, _, _, _, _, _, _, _, _, _, _]) rfl | (repeat (first | exact Cells.here | apply Cells.there | apply Cells.app))) rfl) (.none rfl) rfl rfl rfl (by kernel_rfl) (by kernel_rfl) (by kernel_rfl) noP_ok hD (by repeat (first | exact .refl | exact subL_nil | refine .keep ?_ | refine .drop ?_ | refine subL_add ?_)) ?_
          refine XD_take 7 rfl (ev_move rfl) (.none rfl) rfl rfl rfl (by kernel_rfl) (by kernel_rfl) (by kernel_rfl) noP_ok hD (by repeat (first | exact .refl | exact subL_nil | refine .keep ?_ | refine .drop ?_ | refine subL_add ?_)) ?_
          refine XD_take 8 rfl (ev_move rfl) (.none rfl) rfl rfl rfl (by kernel_rfl) (by kernel_rfl) (by kernel_rfl) noP_ok hD (by repeat (first | exact .refl | exact subL_nil | refine .keep ?_ | refine .drop ?_ | refine subL_add ?_)) ?_
          refine XD_take 9 rfl (ev_move rfl) (.none rfl) rfl rfl rfl (by kernel_rfl) (by kernel_rfl) (by kernel_rfl) noP_ok hD (by repeat (first | exact .refl | exact subL_nil | refine .keep ?_ | refine .drop ?_ | refine subL_add ?_)) ?_
          refine XD_take 10 rfl (ev_indexSl rfl rfl slt_22 (by assumption) (fun hg => by omega)) (.none rfl) rfl rfl rfl (by kernel_rfl) (by kernel_rfl) (by kernel_rfl) noP_ok hD (by repeat (first | exact .refl | exact subL_nil | refine .keep ?_ | refine .drop ?_ | refine subL_add ?_)) ?_
          refine XD_take 11 rfl (ev_fieldAddr rfl fld_37_0) (.none rfl) rfl rfl rfl (by kernel_rfl) (by kernel_rfl) (by kernel_rfl) noP_ok hD (by repeat (first | exact .refl | exact subL_nil | refine .keep ?_ | refine .drop ?_ | refine subL_add ?_)) ?_
          refine XD_take 12 rfl (ev_load rfl sct_3 (fun hg => by first | exact Sl.get0 hN hy rfl | exact Sl.get0 hOr hz rfl | exact Sl.get hRd hr rfl | exact Cell.h0 rfl | exact Cell.h1 rfl | exact Cell.h2 rfl | exact Cell.h3 rfl | exact Cell.h4 rfl | exact Cell.h5 rfl | (repeat (first | exact Cell.here rfl | apply Cell.there | apply Cell.app)))) (.none rfl) rfl rfl rfl (by kernel_rfl) (by kernel_rfl) (by kernel_rfl) noP_ok hD (by repeat (first | exact .refl | exact subL_nil | refine .keep ?_ | refine .drop ?_ | refine subL_add ?_)) ?_
          refine XD_two 5 13 rfl rfl (by kernel_rfl) ?_ ?_
          · skip
            refine XO_buildSlice (ps := [(0, _)]) (m := [encP r]) elt_22 rfl (.cons rfl (.nil)) rfl (by simp [encI_len, encP_len]) (by decide) (by decide) rfl rfl (fun b_80 => ?_)
            refine XO_nil ?_
            refine at_D hD (by repeat (first | exact .refl | exact subL_nil | refine .keep ?_ | refine .drop ?_ | refine subL_add ?_)) ?_
            refine XD_two 6 13 rfl rfl (by kernel_rfl) ?_ ?_
            · skip
              refine XO_append (v := _) (ys := [r].flatMap encP) (L := L6) rfl rfl elt_22 hL (by repeat (first | exact .cons .here .nil | exact split_all | exact split_app | apply split_cons | apply split_skip)) ⟨rfl, fun _ => rfl, by repeat (first | exact Cells.here | apply Cells.there | apply Cells.app)⟩ (one_P [r]) (by omega) rfl rfl ?_
              intro v8 L8 hL8 _; rw [← List.flatMap_append] at hL8
              refine XO_nil ?_
              refine at_D hD (by repeat (first | exact .refl | exact subL_nil | refine .keep ?_ | refine .drop ?_ | refine subL_add ?_)) ?_
              refine XD_one 13 rfl (by kernel_rfl) ?_
              refine XO_buildSlice (ps := [(0, _)]) (m := [encI r.id]) elt_23 rfl (.cons rfl (.nil)) rfl (by simp [encI_len, encP_len]) (by decide) (by decide) rfl rfl (fun b_88 => ?_)
              refine XO_nil ?_
              refine at_D hD (by repeat (first | exact .refl | exact subL_nil | refine .keep ?_ | refine .drop ?_ | refine subL_add ?_)) ?_
              refine XD_one 14 rfl (by kernel_rfl) ?_
              refine XO_append (v := _) (ys := [r.id].flatMap encI) (L := L7) rfl rfl elt_23 hDn (by repeat (first | exact .cons .here .nil | exact split_all | exact split_app | apply split_cons | apply split_skip)) ⟨rfl, fun _ => rfl, by repeat (first | exact Cells.here | apply Cells.there | apply Cells.app)⟩ (one_I [r.id]) (by omega) rfl rfl ?_
              intro v9 L9 hD9 _; rw [← List.flatMap_append] at hD9
              refine XO_nil ?_
              refine at_D hD (by repeat (first | exact .refl | exact subL_nil | refine .keep ?_ | refine .drop ?_ | refine subL_add ?_)) ?_
              refine XD_take 15 rfl (ev_assign rfl) (.none rfl) rfl rfl rfl (by kernel_rfl) (by kernel_rfl) (by kernel_rfl) noP_ok hD (by repeat (first | exact .refl | exact subL_nil | refine .keep ?_ | refine .drop ?_ | refine subL_add ?_)) ?_
              refine XD_take 16 rfl (ev_assign rfl) (.none rfl) rfl rfl rfl (by kernel_rfl) (by kernel_rfl) (by kernel_rfl) noP_ok hD (by repeat (first | exact .refl | exact subL_nil | refine .keep ?_ | refine .drop ?_ | refine subL_add ?_)) ?_
              refine XD_done (by kernel_rfl) ?_
              refine at_noP ?_
              refine at_block_n ?_
              refine at_then ?_
              refine X_region ?_
              refine XO_v0 (ev_arB rfl rfl rfl (fun hg => by first | omega | (simp [conj] at hg; omega))) rfl rfl rfl ?_
              refine XO_v0 (ev_move rfl) rfl rfl rfl ?_
              refine XO_nil ?_
              first
              | exact at_met2 _ _ ⟨n3 - (k + 1), by omega, k + 1, _, L8, _, L9, rfl, rfl, hB0, rfl, by omega, by rw [hnx]; exact hL8, by rw [hnx, List.map_append]; exact hD9, hlen8⟩ (.cons rfl (.cons rfl (.cons rfl (.cons rfl (.cons rfl (.cons rfl (.cons rfl .nil))))))) (by repeat (first | refine subL_app ?_ | refine .drop ?_ | exact .refl | exact subL_left | refine subL_add ?_))
              | exact at_metP _ _ (L8 ++ L9) ⟨n3 - (k + 1), by omega, k + 1, _, L8, _, L9, rfl, rfl, hB0, rfl, by omega, by rw [hnx]; exact hL8, by rw [hnx, List.map_append]; exact hD9, hlen8⟩ (.cons rfl (.cons rfl (.cons rfl (.cons rfl (.cons rfl (.cons rfl (.cons rfl .nil))))))) List.perm_append_comm (by repeat (first | refine subL_app ?_ | refine .drop ?_ | exact .refl | exact subL_left | refine subL_add ?_))
            · skip
              refine XO_buildSlice (ps := [(0, _)]) (m := [encI r.id]) elt_23 rfl (.cons rfl (.nil)) rfl (by simp [encI_len, encP_len]) (by decide) (by decide) rfl rfl (fun b_88 => ?_)
              refine XO_nil ?_
              refine at_D hD (by repeat (first | exact .refl | exact subL_nil | refine .keep ?_ | refine .drop ?_ | refine subL_add ?_)) ?_
              refine XD_one 6 rfl (by kernel_rfl) ?_
              refine XO_append (v := _) (ys := [r].flatMap encP) (L := L6) rfl rfl elt_22 hL (by repeat (first | exact .cons .here .nil | exact split_all | exact split_app | apply split_cons | apply split_skip)) ⟨rfl, fun _ => rfl, by repeat (first | exact Cells.here | apply Cells.there | apply Cells.app)⟩ (one_P [r]) (by omega) rfl rfl ?_
              intro v8 L8 hL8 _; rw [← List.flatMap_append] at hL8
              refine XO_nil ?_
              refine at_D hD (by repeat (first | exact .refl | exact subL_nil | refine .keep ?_ | refine .drop ?_ | refine subL_add ?_)) ?_
              refine XD_one 14 rfl (by kernel_rfl) ?_
              refine XO_append (v := _) (ys := [r.id].flatMap encI) (L := L7) rfl rfl elt_23 hDn (by repeat (first | exact .cons .here .nil | exact split_all | exact split_app | apply split_cons | apply split_skip)) ⟨rfl, fun _ => rfl, by repeat (first | exact Cells.here | apply Cells.there | apply Cells.app)⟩ (one_I [r.id]) (by omega) rfl rfl ?_
              intro v9 L9 hD9 _; rw [← List.flatMap_append] at hD9
              refine XO_nil ?_
              refine at_D hD (by repeat (first | exact .refl | exact subL_nil | refine .keep ?_ | refine .drop ?_ | refine subL_add ?_)) ?_
              refine XD_take 15 rfl (ev_assign rfl) (.none rfl) rfl rfl rfl (by kernel_rfl) (by kernel_rfl) (by kernel_rfl) noP_ok hD (by repeat (first | exact .refl | exact subL_nil | refine .keep ?_ | refine .drop ?_ | refine subL_add ?_)) ?_
              refine XD_take 16 rfl (ev_assign rfl) (.none rfl) rfl rfl rfl (by kernel_rfl) (by kernel_rfl) (by kernel_rfl) noP_ok hD (by repeat (first | exact .refl | exact subL_nil | refine .keep ?_ | refine .drop ?_ | refine subL_add ?_)) ?_
              refine XD_done (by kernel_rfl) ?_
              refine at_noP ?_
              refine at_block_n ?_
              refine at_then ?_
              refine X_region ?_
              refine XO_v0 (ev_arB rfl rfl rfl (fun hg => by first | omega | (simp [conj] at hg; omega))) rfl rfl rfl ?_
              refine XO_v0 (ev_move rfl) rfl rfl rfl ?_
              refine XO_nil ?_
              first
              | exact at_met2 _ _ ⟨n3 - (k + 1), by omega, k + 1, _, L8, _, L9, rfl, rfl, hB0, rfl, by omega, by rw [hnx]; exact hL8, by rw [hnx, List.map_append]; exact hD9, hlen8⟩ (.cons rfl (.cons rfl (.cons rfl (.cons rfl (.cons rfl (.cons rfl (.cons rfl .nil))))))) (by repeat (first | refine subL_app ?_ | refine .drop ?_ | exact .refl | exact subL_left | refine subL_add ?_))
              | exact at_metP _ _ (L8 ++ L9) ⟨n3 - (k + 1), by omega, k + 1, _, L8, _, L9, rfl, rfl, hB0, rfl, by omega, by rw [hnx]; exact hL8, by rw [hnx, List.map_append]; exact hD9, hlen8⟩ (.cons rfl (.cons rfl (.cons rfl (.cons rfl (.cons rfl (.cons rfl (.cons rfl .nil))))))) List.perm_append_comm (by repeat (first | refine subL_app ?_ | refine .drop ?_ | exact .refl | exact subL_left | refine subL_add ?_))
          · skip
            refine XO_buildSlice (ps := [(0, _)]) (m := [encI r.id]) elt_23 rfl (.cons rfl (.nil)) rfl (by simp [encI_len, encP_len]) (by decide) (by decide) rfl rfl (fun b_88 => ?_)
            refine XO_nil ?_
            refine at_D hD (by repeat (first | exact .refl | exact subL_nil | refine .keep ?_ | refine .drop ?_ | refine subL_add ?_)) ?_
            refine XD_one 5 rfl (by kernel_rfl) ?_
            refine XO_buildSlice (ps := [(0, _)]) (m := [encP r]) elt_22 rfl (.cons rfl (.nil)) rfl (by simp [encI_len, encP_len]) (by decide) (by decide) rfl rfl (fun b_80 => ?_)
            refine XO_nil ?_
            refine at_D hD (by repeat (first | exact .refl | exact subL_nil | refine .keep ?_ | refine .drop ?_ | refine subL_add ?_)) ?_
            refine XD_one 6 rfl (by kernel_rfl) ?_
            refine XO_append (v := _) (ys := [r].flatMap encP) (L := L6) rfl rfl elt_22 hL (by repeat (first | exact .cons .here .nil | exact split_all | exact split_app | apply split_cons | apply split_skip)) ⟨rfl, fun _ => rfl, by repeat (first | exact Cells.here | apply Cells.there | apply Cells.app)⟩ (one_P [r]) (by omega) rfl rfl ?_
            intro v8 L8 hL8 _; rw [← List.flatMap_append] at hL8
            refine XO_nil ?_
            refine at_D hD (by repeat (first | exact .refl | exact subL_nil | refine .keep ?_ | refine .drop ?_ | refine subL_add ?_)) ?_
            refine XD_one 14 rfl (by kernel_rfl) ?_
            refine XO_append (v := _) (ys := [r.id].flatMap encI) (L := L7) rfl rfl elt_23 hDn (by repeat (first | exact .cons .here .nil | exact split_all | exact split_app | apply split_cons | apply split_skip)) ⟨rfl, fun _ => rfl, by repeat (first | exact Cells.here | apply Cells.there | apply Cells.app)⟩ (one_I [r.id]) (by omega) rfl rfl ?_
            intro v9 L9 hD9 _; rw [← List.flatMap_append] at hD9
            refine XO_nil ?_
            refine at_D hD (by repeat (first | exact .refl | exact subL_nil | refine .keep ?_ | refine .drop ?_ | refine subL_add ?_)) ?_
            refine XD_take 15 rfl (ev_assign rfl) (.none rfl) rfl rfl rfl (by kernel_rfl) (by kernel_rfl) (by kernel_rfl) noP_ok hD (by repeat (first | exact .refl | exact subL_nil | refine .keep ?_ | refine .drop ?_ | refine subL_add ?_)) ?_
            refine XD_take 16 rfl (ev_assign rfl) (.none rfl) rfl rfl rfl (by kernel_rfl) (by kernel_rfl) (by kernel_rfl) noP_ok hD (by repeat (first | exact .refl | exact subL_nil | refine .keep ?_ | refine .drop ?_ | refine subL_add ?_)) ?_
            refine XD_done (by kernel_rfl) ?_
            refine at_noP ?_
            refine at_block_n ?_
            refine at_then ?_
            refine X_region ?_
            refine XO_v0 (ev_arB rfl rfl rfl (fun hg => by first | omega | (simp [conj] at hg; omega))) rfl rfl rfl ?_
            refine XO_v0 (ev_move rfl) rfl rfl rfl ?_
            refine XO_nil ?_
            first
            | exact at_met2 _ _ ⟨n3 - (k + 1), by omega, k + 1, _, L8, _, L9, rfl, rfl, hB0, rfl, by omega, by rw [hnx]; exact hL8, by rw [hnx, List.map_append]; exact hD9, hlen8⟩ (.cons rfl (.cons rfl (.cons rfl (.cons rfl (.cons rfl (.cons rfl (.cons rfl .nil))))))) (by repeat (first | refine subL_app ?_ | refine .drop ?_ | exact .refl | exact subL_left | refine subL_add ?_))
            | exact at_metP _ _ (L8 ++ L9) ⟨n3 - (k + 1), by omega, k + 1, _, L8, _, L9, rfl, rfl, hB0, rfl, by omega, by rw [hnx]; exact hL8, by rw [hnx, List.map_append]; exact hD9, hlen8⟩ (.cons rfl (.cons rfl (.cons rfl (.cons rfl (.cons rfl (.cons rfl (.cons rfl .nil))))))) List.perm_append_comm (by repeat (first | refine subL_app ?_ | refine .drop ?_ | exact .refl | exact subL_left | refine subL_add ?_))
  · skip
    have hge_k : n3 ≤ k := by have h := hc18; simp at h; omega
    have hkn : k = n3 := by omega
    subst hkn
    refine X_exit ?_
    refine at_then_e ?_
    refine at_then_e ?_
    refine at_block_hit ?_
    refine at_then ?_
    refine X_seq ?_
    refine X_region ?_
    refine XO_v0 (ev_move rfl) rfl rfl rfl ?_
    refine XO_v0 (ev_assign rfl) rfl rfl rfl ?_
    refine XO_nil ?_
    refine at_then ?_
    refine X_ret ?_
    first
    | exact at_ret1 rfl rfl (fun w hw => by obtain ⟨I9, h91, h92, h93⟩ := OwnS.res hL encP_len (by decide) (hw.subL (subL_add .refl)); exact ⟨_, I9, [], rfl, hIc.trans h91, h92, by rw [hst]; exact h93⟩)
    | exact at_ret1 rfl rfl (fun w hw => by obtain ⟨I9, h91, h92, h93⟩ := OwnS.res hL encP_len (by decide) (hw.subL (subL_add .refl)); exact ⟨_, I9, [], rfl, hIc.trans h91, h92, h93⟩)
end Go.Proofs.Ytccomeanpppfmaa
end
section
namespace Go.Proofs.Ytccomeanpppfmaa
open Go Go.Kn Go.Proofs
theorem fun_19 : Fun Try.prog 19 := .of Try.func19 (by kernel_rfl) (by kernel_rfl)
theorem fun_20 : Fun Try.prog 20 := .of Try.func20 (by kernel_rfl) (by kernel_rfl)
theorem w_RunE {I : HMap} {av bv : Option Addr} {n c n2 c2 : Nat} {xs gs : List Sg} {ps : List Pt} (hS : Sl I 14 encG av n c xs) (hn : n ≤ 100000) (hP : SlP I bv n2 c2 ps) (hn2 : n2 ≤ 100000) (hl : n + n2 ≤ 4096) (he : runA xs ps = (0, gs)) : RetM Try.prog 19 [.slice av n c, .slice bv n2 c2] I [] (ResG 0 gs) := by
  have h := w_Run hS hn hP hn2 (fun _ => hl)
  rwa [he] at h
theorem line_few {ps : List Pt} {v order : List Int} (h : chkR ps = 0) (hv : Ver ps v) : (lineK ps v order v.length).length ≤ ps.length := by
  rw [(line_topo (order := order) (chkR_lst h) hv).perm.length_eq]
  exact List.length_filter_le ..
theorem w_runLaw {I : HMap} {av : Option Addr} {n c : Nat} {ps : List Pt} (hP : SlP I av n c ps) {bv : Option Addr} {n2 c2 : Nat} {bs : List Sg} (hB : Sl I 14 encG bv n2 c2 bs) {dv : Option Addr} {n3 c3 : Nat} {ys : List Int} (hT : Sl I 1 encI dv n3 c3 ys) {ov : Option Addr} {no co : Nat} {os_ : List Int} (hOr : Sl I 1 encU ov no co os_) (hOb : ∀ x ∈ os_, 0 ≤ x ∧ x ≤ 255) : RetV Try.prog 7 [.slice av n c, .slice bv n2 c2, .slice dv n3 c3, .slice ov no co] I (.bool true) := by
  intro g H w hw
  refine enter Try.func7 rfl Try.ntmps7 rfl hw ?_
  have hIc := HLe.refl I
  refine X_seq ?_
  refine X_region ?_
  refine XO_v0 (ev_assign rfl) rfl rfl rfl ?_
  refine XO_nil ?_
  refine at_then ?_
  refine X_seq ?_
  refine X_seq ?_
  refine X_region ?_
  refine XO_callV0 (cap := []) (vs := []) rfl rfl fun_8 (w_sane _) rfl rfl ?_
  refine XO_v0 (ev_not rfl) rfl rfl rfl ?_
  refine XO_nil ?_
  refine at_then ?_
  refine X_cond rfl (fun hc18 => ?_) (fun hc18 => ?_)
  · skip
    cases hc18
  · skip
    refine X_skip ?_
    refine at_then ?_
    refine X_seq ?_
    refine X_seq ?_
    refine X_region ?_
    refine XO_v0 (ev_move rfl) rfl rfl rfl ?_
    refine XO_v0 (ev_lenS rfl slt_22) rfl rfl rfl ?_
    refine XO_v0 (ev_cmp rfl rfl rfl) rfl rfl rfl ?_
    refine XO_v0 (ev_move rfl) rfl rfl rfl ?_
    refine XO_pushF 3 rfl rfl rfl ?_
    refine XO_v1 (ev_move rfl) (.some rfl rfl rfl rfl gbf) rfl rfl rfl ?_
    refine XO_v1 (ev_lenS rfl slt_23) (.some rfl rfl rfl rfl gbf) rfl rfl rfl ?_
    refine XO_v1 (ev_cmp rfl rfl rfl) (.some rfl rfl rfl rfl gbf) rfl rfl rfl ?_
    refine XO_or0 rfl rfl rfl rfl rfl ?_
    refine XO_v0 (ev_move rfl) rfl rfl rfl ?_
    refine XO_pushF 8 rfl rfl rfl ?_
    refine XO_v1 (ev_move rfl) (.some rfl rfl rfl rfl gbf) rfl rfl rfl ?_
    refine XO_v1 (ev_lenS rfl slt_39) (.some rfl rfl rfl rfl gbf) rfl rfl rfl ?_
    refine XO_v1 (ev_cmp rfl rfl rfl) (.some rfl rfl rfl rfl gbf) rfl rfl rfl ?_
    refine XO_or0 rfl rfl rfl rfl rfl ?_
    refine XO_v0 (ev_move rfl) rfl rfl rfl ?_
    refine XO_pushF 13 rfl rfl rfl ?_
    refine XO_v1 (ev_move rfl) (.some rfl rfl rfl rfl gbf) rfl rfl rfl ?_
    refine XO_v1 (ev_lenS rfl slt_53) (.some rfl rfl rfl rfl gbf) rfl rfl rfl ?_
    refine XO_v1 (ev_cmp rfl rfl rfl) (.some rfl rfl rfl rfl gbf) rfl rfl rfl ?_
    refine XO_or0 rfl rfl rfl rfl rfl ?_
    refine XO_nil ?_
    refine at_then ?_
    refine X_cond rfl (fun hc36 => ?_) (fun hc36 => ?_)
    · skip
      refine X_seq ?_
      refine X_region ?_
      refine XO_v0 (ev_assign rfl) rfl rfl rfl ?_
      refine XO_nil ?_
      refine at_then ?_
      refine X_ret ?_
      refine at_then_r ?_
      first
      | exact at_ret1 rfl rfl (fun w hw => ⟨by rfl, (hw.mono hIc).drop⟩)
      | exact at_ret1 rfl rfl (fun w hw => ⟨by rw [same_self]; rfl, (hw.mono hIc).drop⟩)
    · skip
      have ho := hc36; simp only [Bool.or_eq_false_iff, decide_eq_false_iff_not, bne_eq_false_iff_eq] at ho
      have hn : n ≤ 100000 := by omega
      have hn2 : n2 ≤ 100000 := by omega
      have hPl := hP.len
      have hBl := hB.len
      refine X_skip ?_
      refine at_then ?_
      refine X_seq ?_
      refine X_region ?_
      refine XO_v0 (ev_move rfl) rfl rfl rfl ?_
      refine XO_v0 (ev_move rfl) rfl rfl rfl ?_
      refine XO_callM (cap := []) (vs := [_, _]) rfl rfl fun_10 .nil (w_Closure hP (by omega) hT (by omega)) rfl rfl ?_
      rintro vv1 I1 L1 hI1 ⟨rfl, aA, cA, rfl, hA⟩
      have hP := hP.mono hI1
      have hB := hB.mono hI1
      have hT := hT.mono hI1
      have hOr := hOr.mono hI1
      have hIc := hIc.trans hI1
      generalize hmA : resF (cloE ps ys) (cloF ps ys) = A at hA ⊢
      refine XO_v0 (ev_move rfl) rfl rfl rfl ?_
      refine XO_v0 (ev_extract rfl rfl) rfl rfl rfl ?_
      refine XO_v0 (ev_extract rfl rfl) rfl rfl rfl ?_
      refine XO_v0 (ev_assign rfl) rfl rfl rfl ?_
      refine XO_v0 (ev_assign rfl) rfl rfl rfl ?_
      refine XO_nil ?_
      refine at_then ?_
      refine X_seq ?_
      refine X_seq ?_
      refine X_region ?_
      refine XO_v0 (ev_move rfl) rfl rfl rfl ?_
      refine XO_v0 (ev_cmp rfl rfl rfl) rfl rfl rfl ?_
      refine XO_nil ?_
      refine at_then ?_
      refine X_cond rfl (fun hc44 => ?_) (fun hc44 => ?_)
      · skip
        refine X_seq ?_
        refine X_region ?_
        refine XO_v0 (ev_assign rfl) rfl rfl rfl ?_
        refine XO_nil ?_
        refine at_then ?_
        refine X_ret ?_
        refine at_then_r ?_
        first
        | exact at_ret1 rfl rfl (fun w hw => ⟨by rfl, (hw.mono hIc).drop⟩)
        | exact at_ret1 rfl rfl (fun w hw => ⟨by rw [same_self]; rfl, (hw.mono hIc).drop⟩)
      · skip
        have he : cloE ps ys = 0 := by simpa using hc44
        have hck : chkR ps = 0 := Decidable.byContradiction fun h => by unfold cloE at he; rw [if_pos h] at he; exact h he
        have hL := chkR_lst hck
        have hvA : Ver ps A := by rw [← hmA, he, resF_ok rfl]; exact clo_v hck ys
        have hnA : A.length ≤ 100000 := by have hh := ver_len hL (hvA); rw [hP.len] at hh; omega
        refine X_skip ?_
        refine at_then ?_
        refine X_seq ?_
        refine X_region ?_
        refine XO_v0 (ev_move rfl) rfl rfl rfl ?_
        refine XO_v0 (ev_move rfl) rfl rfl rfl ?_
        refine XO_v0 (ev_move rfl) rfl rfl rfl ?_
        refine XO_callM (cap := []) (vs := [_, _, _]) rfl rfl fun_15 .nil (w_Signs hP hn hB hn2 hA hnA) rfl rfl ?_
        rintro vv2 I2 L2 hI2 ⟨rfl, a2, c2, rfl, hS1⟩
        have hP := hP.mono hI2
        have hB := hB.mono hI2
        have hT := hT.mono hI2
        have hOr := hOr.mono hI2
        have hA := hA.mono hI2
        have hIc := hIc.trans hI2
        refine XO_v0 (ev_move rfl) rfl rfl rfl ?_
        refine XO_v0 (ev_extract rfl rfl) rfl rfl rfl ?_
        refine XO_v0 (ev_extract rfl rfl) rfl rfl rfl ?_
        refine XO_v0 (ev_assign rfl) rfl rfl rfl ?_
        refine XO_v0 (ev_assign rfl) rfl rfl rfl ?_
        refine XO_nil ?_
        refine at_then ?_
        refine X_seq ?_
        refine X_region ?_
        refine XO_v0 (ev_move rfl) rfl rfl rfl ?_
        refine XO_v0 (ev_move rfl) rfl rfl rfl ?_
        refine XO_v0 (ev_move rfl) rfl rfl rfl ?_
        refine XO_callM (cap := []) (vs := [_, _, _]) rfl rfl fun_14 .nil (w_Conflicts hP hn hB hn2 hA hnA) rfl rfl ?_
        rintro vv3 I3 L3 hI3 ⟨rfl, cs1, a3, c3, rfl, hC1, hk1⟩
        have hP := hP.mono hI3
        have hB := hB.mono hI3
        have hT := hT.mono hI3
        have hOr := hOr.mono hI3
        have hA := hA.mono hI3
        have hS1 := hS1.mono hI3
        have hIc := hIc.trans hI3
        refine XO_v0 (ev_move rfl) rfl rfl rfl ?_
        refine XO_v0 (ev_extract rfl rfl) rfl rfl rfl ?_
        refine XO_v0 (ev_extract rfl rfl) rfl rfl rfl ?_
        refine XO_v0 (ev_assign rfl) rfl rfl rfl ?_
        refine XO_v0 (ev_assign rfl) rfl rfl rfl ?_
        refine XO_nil ?_
        refine at_then ?_
        refine X_seq ?_
        refine X_seq ?_
        refine X_region ?_
        refine XO_v0 (ev_move rfl) rfl rfl rfl ?_
        refine XO_v0 (ev_move rfl) rfl rfl rfl ?_
        refine XO_v0 (ev_cmp rfl rfl rfl) rfl rfl rfl ?_
        refine XO_nil ?_
        refine at_then ?_
        refine X_cond rfl (fun hc61 => ?_) (fun hc61 => ?_)
        · skip
          simp at hc61
        · skip
          refine X_skip ?_
          refine at_then ?_
          refine X_seq ?_
          refine X_seq ?_
          refine X_region ?_
          refine XO_v0 (ev_move rfl) rfl rfl rfl ?_
          refine XO_v0 (ev_cmp rfl rfl rfl) rfl rfl rfl ?_
          refine XO_v0 (ev_move rfl) rfl rfl rfl ?_
          refine XO_pushF 2 rfl rfl rfl ?_
          refine XO_v1 (ev_move rfl) (.some rfl rfl rfl rfl gbf) rfl rfl rfl ?_
          refine XO_v1 (ev_lenS rfl slt_40) (.some rfl rfl rfl rfl gbf) rfl rfl rfl ?_
          refine XO_v1 (ev_cmp rfl rfl rfl) (.some rfl rfl rfl rfl gbf) rfl rfl rfl ?_
          refine XO_or0 rfl rfl rfl rfl rfl ?_
          refine XO_nil ?_
          refine at_then ?_
          refine X_cond rfl (fun hc68 => ?_) (fun hc68 => ?_)
          · skip
            refine X_seq ?_
            refine X_region ?_
            refine XO_v0 (ev_assign rfl) rfl rfl rfl ?_
            refine XO_nil ?_
            refine at_then ?_
            refine X_ret ?_
            refine at_then_r ?_
            first
            | exact at_ret1 rfl rfl (fun w hw => ⟨by rfl, (hw.mono hIc).drop⟩)
            | exact at_ret1 rfl rfl (fun w hw => ⟨by rw [same_self]; rfl, (hw.mono hIc).drop⟩)
          · skip
            have h9 := hc68; simp only [Bool.or_eq_false_iff, decide_eq_false_iff_not, bne_eq_false_iff_eq] at h9
            have hE0 := h9.1
            have hcs : cs1 = [] := List.eq_nil_of_length_eq_zero (by omega)
            refine X_skip ?_
            refine at_then ?_
            refine X_seq ?_
            refine X_region ?_
            refine XO_v0 (ev_move rfl) rfl rfl rfl ?_
            refine XO_v0 (ev_move rfl) rfl rfl rfl ?_
            refine XO_v0 (ev_move rfl) rfl rfl rfl ?_
            refine XO_v0 (ev_move rfl) rfl rfl rfl ?_
            refine XO_callM (cap := []) (vs := [_, _, _]) rfl rfl fun_20 .nil (w_line hP hn (nd_chk hP hck) hA hnA hOr hOb) rfl rfl ?_
            rintro vv4 I4 L4 hI4 ⟨rfl, aL, cL, rfl, hLn⟩
            have hP := hP.mono hI4
            have hB := hB.mono hI4
            have hT := hT.mono hI4
            have hOr := hOr.mono hI4
            have hA := hA.mono hI4
            have hS1 := hS1.mono hI4
            have hC1 := hC1.mono hI4
            have hIc := hIc.trans hI4
            have hLi : SlP I4 aL (lineK ps A os_ A.length).length cL (lineK ps A os_ A.length) := ⟨hLn, fun p hp => hP.2 p (line_sub _ p hp)⟩
            have hlf := line_few (order := os_) hck hvA
            refine XO_callM (cap := []) (vs := [_, _]) rfl rfl fun_19 .nil (w_RunE hB hn2 hLi (by omega) (by omega) (run_main hck ⟨by omega, by omega⟩ hvA hE0 (by rw [← hk1, hcs]; rfl))) rfl rfl ?_
            rintro vv5 I5 L5 hI5 ⟨rfl, a5, c5, rfl, hS2⟩
            have hP := hP.mono hI5
            have hB := hB.mono hI5
            have hT := hT.mono hI5
            have hOr := hOr.mono hI5
            have hA := hA.mono hI5
            have hS1 := hS1.mono hI5
            have hC1 := hC1.mono hI5
            have hLi := hLi.mono hI5
            have hIc := hIc.trans hI5
            refine XO_v0 (ev_move rfl) rfl rfl rfl ?_
            refine XO_v0 (ev_extract rfl rfl) rfl rfl rfl ?_
            refine XO_v0 (ev_extract rfl rfl) rfl rfl rfl ?_
            refine XO_v0 (ev_assign rfl) rfl rfl rfl ?_
            refine XO_v0 (ev_assign rfl) rfl rfl rfl ?_
            refine XO_nil ?_
            refine at_then ?_
            refine X_seq ?_
            refine X_region ?_
            refine XO_v0 (ev_move rfl) rfl rfl rfl ?_
            refine XO_v0 (ev_cmp rfl rfl rfl) rfl rfl rfl ?_
            refine XO_v0 (ev_move rfl) rfl rfl rfl ?_
            refine XO_pushT 2 rfl rfl rfl ?_
            refine XO_v1 (ev_move rfl) (.some rfl rfl rfl rfl gbt) rfl rfl rfl ?_
            refine XO_v1 (ev_move rfl) (.some rfl rfl rfl rfl gbt) rfl rfl rfl ?_
            refine XO_callV1 (cap := []) (vs := [_, _]) rfl rfl fun_17 (fun hg => w_sameG hS1 (by have := sgF_few (ps := ps) (bs := bs) (v := A); rw [hP.len, hB.len] at this; omega) hS2) (.some rfl rfl rfl rfl gbt) rfl rfl ?_
            refine XO_and0 rfl rfl rfl rfl rfl ?_
            refine XO_v0 (ev_assign rfl) rfl rfl rfl ?_
            refine XO_nil ?_
            refine at_then ?_
            refine X_ret ?_
            first
            | exact at_ret1 rfl rfl (fun w hw => ⟨by rfl, (hw.mono hIc).drop⟩)
            | exact at_ret1 rfl rfl (fun w hw => ⟨by rw [same_self]; rfl, (hw.mono hIc).drop⟩)
end Go.Proofs.Ytccomeanpppfmaa
end
section
namespace Go.Proofs.Ytccomeanpppfmaa
open Go Go.Kn Go.Proofs
open Go.ChangeShapes Go.WideShapes Go.ChangeAt Go.RowKit
set_option maxRecDepth 100000
theorem ound_3 : Try.prog.underlying 3 = some (.int .i64) := by kernel_rfl
theorem ostr_33 : Try.prog.underlying 33 = some (.struct (Try.prog.fieldsOf 33)) := by kernel_rfl
theorem ostr_35 : Try.prog.underlying 35 = some (.struct (Try.prog.fieldsOf 35)) := by kernel_rfl
theorem ound_23 : Try.prog.underlying 23 = some (.slice 3) := by kernel_rfl
theorem ostr_37 : Try.prog.underlying 37 = some (.struct (Try.prog.fieldsOf 37)) := by kernel_rfl
theorem ound_22 : Try.prog.underlying 22 = some (.slice 37) := by kernel_rfl
theorem ound_39 : Try.prog.underlying 39 = some (.slice 35) := by kernel_rfl
theorem ound_5 : Try.prog.underlying 5 = some (.int .u8) := by kernel_rfl
theorem ound_53 : Try.prog.underlying 53 = some (.slice 5) := by kernel_rfl
theorem el_sg {H : Type} {enc : TypeId × Value → H} {W : World} (fuel : Nat) (cs : List Value) (x : DataW H × List MemPlace) (h : DataW.trod enc Try.prog W 0 (fun _ => true) true fuel 35 cs = some x) : ∃ y : Sg, (fun _ => True) y ∧ encG y = cs := by
  obtain ⟨hl, n0_, f0⟩ := trod_seg (C := 14) ostr_35 (by kernel_rfl) h
  match cs, hl with
  | [c0, c1, c2, c3, c4, c5, c6, c7, c8, c9, c10, c11, c12, c13], _ =>
    obtain ⟨_, g0_0⟩ := f0 0 3 0 1 (by kernel_rfl) (by kernel_rfl)
    obtain ⟨n0, e0, _, w0⟩ := DataW.trod_int ound_3 (show DataW.trod enc Try.prog W 0 (fun _ => true) true n0_ 3 [c0] = some _ from g0_0)
    obtain ⟨_, g0_1⟩ := f0 1 3 1 1 (by kernel_rfl) (by kernel_rfl)
    obtain ⟨n1, e1, _, w1⟩ := DataW.trod_int ound_3 (show DataW.trod enc Try.prog W 0 (fun _ => true) true n0_ 3 [c1] = some _ from g0_1)
    obtain ⟨_, g0_2⟩ := f0 2 3 2 1 (by kernel_rfl) (by kernel_rfl)
    obtain ⟨n2, e2, _, w2⟩ := DataW.trod_int ound_3 (show DataW.trod enc Try.prog W 0 (fun _ => true) true n0_ 3 [c2] = some _ from g0_2)
    obtain ⟨_, g0_3⟩ := f0 3 3 3 1 (by kernel_rfl) (by kernel_rfl)
    obtain ⟨n3, e3, _, w3⟩ := DataW.trod_int ound_3 (show DataW.trod enc Try.prog W 0 (fun _ => true) true n0_ 3 [c3] = some _ from g0_3)
    obtain ⟨_, g0_4⟩ := f0 4 3 4 1 (by kernel_rfl) (by kernel_rfl)
    obtain ⟨n4, e4, _, w4⟩ := DataW.trod_int ound_3 (show DataW.trod enc Try.prog W 0 (fun _ => true) true n0_ 3 [c4] = some _ from g0_4)
    obtain ⟨_, g0_5⟩ := f0 5 3 5 1 (by kernel_rfl) (by kernel_rfl)
    obtain ⟨n5, e5, _, w5⟩ := DataW.trod_int ound_3 (show DataW.trod enc Try.prog W 0 (fun _ => true) true n0_ 3 [c5] = some _ from g0_5)
    obtain ⟨_, g0_6⟩ := f0 6 3 6 1 (by kernel_rfl) (by kernel_rfl)
    obtain ⟨n6, e6, _, w6⟩ := DataW.trod_int ound_3 (show DataW.trod enc Try.prog W 0 (fun _ => true) true n0_ 3 [c6] = some _ from g0_6)
    obtain ⟨_, g0_7⟩ := f0 7 3 7 1 (by kernel_rfl) (by kernel_rfl)
    obtain ⟨n7, e7, _, w7⟩ := DataW.trod_int ound_3 (show DataW.trod enc Try.prog W 0 (fun _ => true) true n0_ 3 [c7] = some _ from g0_7)
    obtain ⟨_, g0_8⟩ := f0 8 3 8 1 (by kernel_rfl) (by kernel_rfl)
    obtain ⟨n8, e8, _, w8⟩ := DataW.trod_int ound_3 (show DataW.trod enc Try.prog W 0 (fun _ => true) true n0_ 3 [c8] = some _ from g0_8)
    obtain ⟨_, g0_9⟩ := f0 9 3 9 1 (by kernel_rfl) (by kernel_rfl)
    obtain ⟨n9, e9, _, w9⟩ := DataW.trod_int ound_3 (show DataW.trod enc Try.prog W 0 (fun _ => true) true n0_ 3 [c9] = some _ from g0_9)
    obtain ⟨_, g0_10⟩ := f0 10 33 10 2 (by kernel_rfl) (by kernel_rfl)
    obtain ⟨_, n1_, f1⟩ := trod_seg (C := 2) ostr_33 (by kernel_rfl) (show DataW.trod enc Try.prog W 0 (fun _ => true) true n0_ 33 [c10, c11] = some _ from g0_10)
    obtain ⟨_, g1_0⟩ := f1 0 3 0 1 (by kernel_rfl) (by kernel_rfl)
    obtain ⟨n10, e10, _, w10⟩ := DataW.trod_int ound_3 (show DataW.trod enc Try.prog W 0 (fun _ => true) true n1_ 3 [c10] = some _ from g1_0)
    obtain ⟨_, g1_1⟩ := f1 1 3 1 1 (by kernel_rfl) (by kernel_rfl)
    obtain ⟨n11, e11, _, w11⟩ := DataW.trod_int ound_3 (show DataW.trod enc Try.prog W 0 (fun _ => true) true n1_ 3 [c11] = some _ from g1_1)
    obtain ⟨_, g0_11⟩ := f0 11 33 12 2 (by kernel_rfl) (by kernel_rfl)
    obtain ⟨_, n2_, f2⟩ := trod_seg (C := 2) ostr_33 (by kernel_rfl) (show DataW.trod enc Try.prog W 0 (fun _ => true) true n0_ 33 [c12, c13] = some _ from g0_11)
    obtain ⟨_, g2_0⟩ := f2 0 3 0 1 (by kernel_rfl) (by kernel_rfl)
    obtain ⟨n12, e12, _, w12⟩ := DataW.trod_int ound_3 (show DataW.trod enc Try.prog W 0 (fun _ => true) true n2_ 3 [c12] = some _ from g2_0)
    obtain ⟨_, g2_1⟩ := f2 1 3 1 1 (by kernel_rfl) (by kernel_rfl)
    obtain ⟨n13, e13, _, w13⟩ := DataW.trod_int ound_3 (show DataW.trod enc Try.prog W 0 (fun _ => true) true n2_ 3 [c13] = some _ from g2_1)
    cases e0; cases e1; cases e2; cases e3; cases e4; cases e5; cases e6; cases e7; cases e8; cases e9; cases e10; cases e11; cases e12; cases e13
    exact ⟨⟨n0, n1, n2, n3, n4, n5, n6, n7, n8, n9, n10, n11, n12, n13⟩, trivial, rfl⟩
theorem el_pt {H : Type} {enc : TypeId × Value → H} {W : World} (fuel : Nat) (cs : List Value) (x : DataW H × List MemPlace) (h : DataW.trod enc Try.prog W 0 (fun _ => true) true fuel 37 cs = some x) : ∃ y : Pt, (fun p => Nd (heapI W) p) y ∧ encP y = cs := by
  obtain ⟨hl, n0_, f0⟩ := trod_seg (C := 19) ostr_37 (by kernel_rfl) h
  match cs, hl with
  | [c0, c1, c2, c3, c4, c5, c6, c7, c8, c9, c10, c11, c12, c13, c14, c15, c16, c17, c18], _ =>
    obtain ⟨_, g0_0⟩ := f0 0 3 0 1 (by kernel_rfl) (by kernel_rfl)
    obtain ⟨n0, e0, _, w0⟩ := DataW.trod_int ound_3 (show DataW.trod enc Try.prog W 0 (fun _ => true) true n0_ 3 [c0] = some _ from g0_0)
    obtain ⟨_, g0_1⟩ := f0 1 3 1 1 (by kernel_rfl) (by kernel_rfl)
    obtain ⟨n1, e1, _, w1⟩ := DataW.trod_int ound_3 (show DataW.trod enc Try.prog W 0 (fun _ => true) true n0_ 3 [c1] = some _ from g0_1)
    obtain ⟨_, g0_2⟩ := f0 2 3 2 1 (by kernel_rfl) (by kernel_rfl)
    obtain ⟨n2, e2, _, w2⟩ := DataW.trod_int ound_3 (show DataW.trod enc Try.prog W 0 (fun _ => true) true n0_ 3 [c2] = some _ from g0_2)
    obtain ⟨_, g0_3⟩ := f0 3 3 3 1 (by kernel_rfl) (by kernel_rfl)
    obtain ⟨n3, e3, _, w3⟩ := DataW.trod_int ound_3 (show DataW.trod enc Try.prog W 0 (fun _ => true) true n0_ 3 [c3] = some _ from g0_3)
    obtain ⟨_, g0_4⟩ := f0 4 35 4 14 (by kernel_rfl) (by kernel_rfl)
    obtain ⟨_, n1_, f1⟩ := trod_seg (C := 14) ostr_35 (by kernel_rfl) (show DataW.trod enc Try.prog W 0 (fun _ => true) true n0_ 35 [c4, c5, c6, c7, c8, c9, c10, c11, c12, c13, c14, c15, c16, c17] = some _ from g0_4)
    obtain ⟨_, g1_0⟩ := f1 0 3 0 1 (by kernel_rfl) (by kernel_rfl)
    obtain ⟨n4, e4, _, w4⟩ := DataW.trod_int ound_3 (show DataW.trod enc Try.prog W 0 (fun _ => true) true n1_ 3 [c4] = some _ from g1_0)
    obtain ⟨_, g1_1⟩ := f1 1 3 1 1 (by kernel_rfl) (by kernel_rfl)
    obtain ⟨n5, e5, _, w5⟩ := DataW.trod_int ound_3 (show DataW.trod enc Try.prog W 0 (fun _ => true) true n1_ 3 [c5] = some _ from g1_1)
    obtain ⟨_, g1_2⟩ := f1 2 3 2 1 (by kernel_rfl) (by kernel_rfl)
    obtain ⟨n6, e6, _, w6⟩ := DataW.trod_int ound_3 (show DataW.trod enc Try.prog W 0 (fun _ => true) true n1_ 3 [c6] = some _ from g1_2)
    obtain ⟨_, g1_3⟩ := f1 3 3 3 1 (by kernel_rfl) (by kernel_rfl)
    obtain ⟨n7, e7, _, w7⟩ := DataW.trod_int ound_3 (show DataW.trod enc Try.prog W 0 (fun _ => true) true n1_ 3 [c7] = some _ from g1_3)
    obtain ⟨_, g1_4⟩ := f1 4 3 4 1 (by kernel_rfl) (by kernel_rfl)
    obtain ⟨n8, e8, _, w8⟩ := DataW.trod_int ound_3 (show DataW.trod enc Try.prog W 0 (fun _ => true) true n1_ 3 [c8] = some _ from g1_4)
    obtain ⟨_, g1_5⟩ := f1 5 3 5 1 (by kernel_rfl) (by kernel_rfl)
    obtain ⟨n9, e9, _, w9⟩ := DataW.trod_int ound_3 (show DataW.trod enc Try.prog W 0 (fun _ => true) true n1_ 3 [c9] = some _ from g1_5)
    obtain ⟨_, g1_6⟩ := f1 6 3 6 1 (by kernel_rfl) (by kernel_rfl)
    obtain ⟨n10, e10, _, w10⟩ := DataW.trod_int ound_3 (show DataW.trod enc Try.prog W 0 (fun _ => true) true n1_ 3 [c10] = some _ from g1_6)
    obtain ⟨_, g1_7⟩ := f1 7 3 7 1 (by kernel_rfl) (by kernel_rfl)
    obtain ⟨n11, e11, _, w11⟩ := DataW.trod_int ound_3 (show DataW.trod enc Try.prog W 0 (fun _ => true) true n1_ 3 [c11] = some _ from g1_7)
    obtain ⟨_, g1_8⟩ := f1 8 3 8 1 (by kernel_rfl) (by kernel_rfl)
    obtain ⟨n12, e12, _, w12⟩ := DataW.trod_int ound_3 (show DataW.trod enc Try.prog W 0 (fun _ => true) true n1_ 3 [c12] = some _ from g1_8)
    obtain ⟨_, g1_9⟩ := f1 9 3 9 1 (by kernel_rfl) (by kernel_rfl)
    obtain ⟨n13, e13, _, w13⟩ := DataW.trod_int ound_3 (show DataW.trod enc Try.prog W 0 (fun _ => true) true n1_ 3 [c13] = some _ from g1_9)
    obtain ⟨_, g1_10⟩ := f1 10 33 10 2 (by kernel_rfl) (by kernel_rfl)
    obtain ⟨_, n2_, f2⟩ := trod_seg (C := 2) ostr_33 (by kernel_rfl) (show DataW.trod enc Try.prog W 0 (fun _ => true) true n1_ 33 [c14, c15] = some _ from g1_10)
    obtain ⟨_, g2_0⟩ := f2 0 3 0 1 (by kernel_rfl) (by kernel_rfl)
    obtain ⟨n14, e14, _, w14⟩ := DataW.trod_int ound_3 (show DataW.trod enc Try.prog W 0 (fun _ => true) true n2_ 3 [c14] = some _ from g2_0)
    obtain ⟨_, g2_1⟩ := f2 1 3 1 1 (by kernel_rfl) (by kernel_rfl)
    obtain ⟨n15, e15, _, w15⟩ := DataW.trod_int ound_3 (show DataW.trod enc Try.prog W 0 (fun _ => true) true n2_ 3 [c15] = some _ from g2_1)
    obtain ⟨_, g1_11⟩ := f1 11 33 12 2 (by kernel_rfl) (by kernel_rfl)
    obtain ⟨_, n3_, f3⟩ := trod_seg (C := 2) ostr_33 (by kernel_rfl) (show DataW.trod enc Try.prog W 0 (fun _ => true) true n1_ 33 [c16, c17] = some _ from g1_11)
    obtain ⟨_, g3_0⟩ := f3 0 3 0 1 (by kernel_rfl) (by kernel_rfl)
    obtain ⟨n16, e16, _, w16⟩ := DataW.trod_int ound_3 (show DataW.trod enc Try.prog W 0 (fun _ => true) true n3_ 3 [c16] = some _ from g3_0)
    obtain ⟨_, g3_1⟩ := f3 1 3 1 1 (by kernel_rfl) (by kernel_rfl)
    obtain ⟨n17, e17, _, w17⟩ := DataW.trod_int ound_3 (show DataW.trod enc Try.prog W 0 (fun _ => true) true n3_ 3 [c17] = some _ from g3_1)
    obtain ⟨_, g0_5⟩ := f0 5 23 18 1 (by kernel_rfl) (by kernel_rfl)
    obtain ⟨a18, m18, q18, n18, e18, s18, o18, _⟩ := open_SlT (t := 23) (e := 3) encI (fun n : Int => -9223372036854775808 ≤ n ∧ n ≤ 9223372036854775807) ound_23 (by kernel_rfl) (by decide) encI_len (fun fuel cs x h => el_int ound_3 rfl fuel cs x h) (show DataW.trod enc Try.prog W 0 (fun _ => true) true n0_ 23 [c18] = some _ from g0_5)
    cases e0; cases e1; cases e2; cases e3; cases e4; cases e5; cases e6; cases e7; cases e8; cases e9; cases e10; cases e11; cases e12; cases e13; cases e14; cases e15; cases e16; cases e17; cases e18
    exact ⟨⟨n0, n1, n2, n3, ⟨n4, n5, n6, n7, n8, n9, n10, n11, n12, n13, n14, n15, n16, n17⟩, a18, m18, q18, n18⟩, s18, rfl⟩
theorem open_ps {H : Type} {enc : TypeId × Value → H} {W : World} {base : Nat} {v : Value} {d : DataW H} {p : List MemPlace} (hv : Value.okWide Try.prog W .any base 22 v) (h : DataW.Trod enc Try.prog W 0 (fun _ => true) true 22 v d p) :
    ∃ av n c xs, v = .slice av n c ∧ SlP (heapI W) av n c xs := by
  obtain ⟨av, n, c, xs, e, hS, hok, _⟩ := open_Sl (e := 37) encP (fun p => Nd (heapI W) p) ound_22 (by kernel_rfl) (by decide) encP_len (fun fuel cs x h => el_pt fuel cs x h) hv h
  exact ⟨av, n, c, xs, e, ⟨hS, hok⟩⟩
theorem open_sgs {H : Type} {enc : TypeId × Value → H} {W : World} {base : Nat} {v : Value} {d : DataW H} {p : List MemPlace} (hv : Value.okWide Try.prog W .any base 39 v) (h : DataW.Trod enc Try.prog W 0 (fun _ => true) true 39 v d p) :
    ∃ av n c xs, v = .slice av n c ∧ Sl (heapI W) 14 encG av n c xs := by
  obtain ⟨av, n, c, xs, e, hS, hok, _⟩ := open_Sl (e := 35) encG (fun _ => True) ound_39 (by kernel_rfl) (by decide) encG_len (fun fuel cs x h => el_sg fuel cs x h) hv h
  exact ⟨av, n, c, xs, e, hS⟩
theorem open_ints {H : Type} {enc : TypeId × Value → H} {W : World} {base : Nat} {v : Value} {d : DataW H} {p : List MemPlace} (hv : Value.okWide Try.prog W .any base 23 v) (h : DataW.Trod enc Try.prog W 0 (fun _ => true) true 23 v d p) :
    ∃ av n c xs, v = .slice av n c ∧ Sl (heapI W) 1 encI av n c xs := by
  obtain ⟨av, n, c, xs, e, hS, hok, _⟩ := open_Sl (e := 3) encI (fun n : Int => -9223372036854775808 ≤ n ∧ n ≤ 9223372036854775807) ound_23 (by kernel_rfl) (by decide) encI_len (fun fuel cs x h => el_int ound_3 rfl fuel cs x h) hv h
  exact ⟨av, n, c, xs, e, hS⟩
theorem open_bytes {H : Type} {enc : TypeId × Value → H} {W : World} {base : Nat} {v : Value} {d : DataW H} {p : List MemPlace} (hv : Value.okWide Try.prog W .any base 53 v) (h : DataW.Trod enc Try.prog W 0 (fun _ => true) true 53 v d p) :
    ∃ av n c xs, v = .slice av n c ∧ Sl (heapI W) 1 encU av n c xs ∧ ∀ x ∈ xs, 0 ≤ x ∧ x ≤ 255 := by
  obtain ⟨av, n, c, xs, e, hS, hok, _⟩ := open_Sl (e := 5) encU (fun n => 0 ≤ n ∧ n ≤ 255) ound_53 (by kernel_rfl) (by decide) encU_len (fun fuel cs x h => el_u8 ound_5 fuel cs x h) hv h
  exact ⟨av, n, c, xs, e, ⟨hS, hok⟩⟩
end Go.Proofs.Ytccomeanpppfmaa
end
section
namespace Go.Proofs.Ytccomeanpppfmaa
open Go Go.Kn Go.Proofs
open Go.ChangeShapes Go.WideShapes Go.ChangeAt Go.RowKit
theorem own : ownKnob Try.prog.godebug = none := by kernel_rfl
theorem laidOut : laidOutB Try.prog = true := by kernel_rfl
set_option maxRecDepth 100000 in
theorem roomsRun_lifted (os : Os) (started : os.Started) (H : Type) (enc : TypeId × Value → H) :
    ReturnsInHanded {} Try.checked os 7 .any (Rows.roomsRunSpec.pre6 enc Try.prog Try.f7 Rows.roomsRunRow.domain false) (Rows.roomsRunSpec.post enc Try.prog Try.f7 false true false false) := by
  refine returnsInHanded_of_change (C := Try.checked) own started (by kernel_rfl) Try.func7
    (ChangeSpec.witness6 (enc := enc) (C := Try.checked) false ⟨#[], #[.slice none 0 0, .slice none 0 0, .slice none 0 0, .slice none 0 0], []⟩ 8 (by kernel_rfl) (by kernel_rfl) (by kernel_rfl) (by kernel_rfl)) ?_
  intro W base args ds gs before hval0 hW hcnd _
  have hval : ∀ (j : Nat) t v, Try.f7.params[j]? = some t → args[j]? = some v → Value.okWide Try.prog W .any base t v := hval0
  have hW' := hW
  obtain ⟨p, q, hA0, hV, rfl, hfz, hnd⟩ := hW
  have hA : DataW.TrodAll enc Try.prog W 0 (fun _ => true) true Try.f7.params.toList args.toList ds p := hA0
  rw [Try.params7] at hA hval
  obtain ⟨v0, vs1, d0, ds1, p0, q1, ea, rfl, rfl, h0, hA⟩ := trodAll_cons hA
  obtain ⟨v1, vs2, d1, ds2, p1, q2, rfl, rfl, rfl, h1, hA⟩ := trodAll_cons hA
  obtain ⟨v2, vs3, d2, ds3, p2, q3, rfl, rfl, rfl, h2, hA⟩ := trodAll_cons hA
  obtain ⟨v3, vs4, d3, ds4, p3, q4, rfl, rfl, rfl, h3, hA⟩ := trodAll_cons hA
  obtain ⟨rfl, rfl, rfl⟩ := trodAll_nil hA
  have ea' : args = #[v0, v1, v2, v3] := by rw [← Array.toArray_toList (xs := args), ea]
  subst ea'
  obtain ⟨rfl, rfl⟩ := trodVars_none hV
  obtain ⟨av, n, c, ps, rfl, hP⟩ := open_ps (hval 0 22 v0 rfl rfl) h0
  obtain ⟨bv, n2, c2, bs, rfl, hB⟩ := open_sgs (hval 1 39 v1 rfl rfl) h1
  obtain ⟨dv, n3, c3, ys, rfl, hT⟩ := open_ints (hval 2 23 v2 rfl rfl) h2
  obtain ⟨ov, no, co, os_, rfl, hO, hOb⟩ := open_bytes (hval 3 53 v3 rfl rfl) h3
  refine (RetV.law (w_runLaw hP hB hT hO hOb)).mono fun e W' ⟨he, hB⟩ => ?_
  subst he
  exact ⟨_, rfl, post_law laidOut (by kernel_rfl) und_4 rfl rfl (by rw [Try.params7]; simp only [List.mem_cons, List.not_mem_nil, or_false, forall_eq_or_imp, forall_eq]; exact ⟨⟨by kernel_rfl, of_decide_eq_true (by kernel_rfl)⟩, ⟨by kernel_rfl, of_decide_eq_true (by kernel_rfl)⟩, ⟨by kernel_rfl, of_decide_eq_true (by kernel_rfl)⟩, ⟨by kernel_rfl, of_decide_eq_true (by kernel_rfl)⟩⟩) hW' hB⟩
theorem roomsRun_holds : Rows.RoomsRunSaid :=
  OpenClaim.holds_of_wide 7 Try.f7 rfl rfl rfl rfl rfl rfl rfl ⟨rfl, rfl, rfl, rfl, rfl⟩ rfl rfl rfl rfl rfl (by kernel_rfl) Try.func7 (by kernel_rfl)
    (of_decide_eq_true (by kernel_rfl)) (by unfold Func.isWrapper; first | (rw [if_pos (by decide +kernel)]; kernel_rfl) | (rw [if_neg (by decide +kernel)]; exact ⟨rfl, rfl⟩))
    (fun os started H enc _ => roomsRun_lifted os started H enc)
#print axioms roomsRun_holds
end Go.Proofs.Ytccomeanpppfmaa
end
