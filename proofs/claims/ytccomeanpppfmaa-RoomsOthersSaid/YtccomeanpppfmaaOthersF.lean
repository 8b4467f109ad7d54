/- roomsOthers_holds, part F of the proof: what its theorems say holds without further conditions. -/
import Derived.ProofKit
import Derived.Deep.Slices
import Derived.Test.YtccomeanpppfmaaRows
import Derived.Test.YtccomeanpppfmaaOthersE
section
namespace Go.Proofs.Ytccomeanpppfmaa
open Go Go.Kn Go.Proofs
theorem key_next {xs ys : List Cf} {k : Nat} {x y : Cf} (hx : xs[k]? = some x) (hy : ys[k]? = some y) (he : (xs.take k).map Cf.key = (ys.take k).map Cf.key) (h : x.key = y.key) : (xs.take (k + 1)).map Cf.key = (ys.take (k + 1)).map Cf.key := by
  rw [take_snoc hx, take_snoc hy, List.map_append, List.map_append, he]; simp [h]
theorem key_ne {xs ys : List Cf} {k : Nat} {x y : Cf} (hx : xs[k]? = some x) (hy : ys[k]? = some y) (h : x.key ≠ y.key) : sameF (xs.map Cf.key) (ys.map Cf.key) = false := same_ne (k := k) (x := x.key) (y := y.key) (by simp [hx]) (by simp [hy]) h
theorem w_has {I : HMap} {av : Option Addr} {n c : Nat} {xs : List Int} (hS : Sl I 1 encI av n c xs) (hn : n ≤ 100000) (t : Int) : RetV Try.prog 13 [.slice av n c, .int .i64 t] I (.bool (xs.any fun x => x == t)) := by
  intro g H w hw
  refine enter Try.func13 rfl Try.ntmps13 rfl hw ?_
  refine X_seq ?_
  refine X_region ?_
  refine XO_v0 (ev_assign rfl) rfl rfl rfl ?_
  refine XO_nil ?_
  refine at_then ?_
  refine X_seq ?_
  refine X_seq ?_
  refine X_region ?_
  refine XO_v0 (ev_move rfl) rfl rfl rfl ?_
  refine XO_v0 (ev_lenS rfl slt_23) rfl rfl rfl ?_
  refine XO_v0 (ev_move rfl) rfl rfl rfl ?_
  refine XO_nil ?_
  refine at_then ?_
  refine X_block ?_
  refine X_loopT [(1, _), (7, _), (8, _)] (.cons rfl (.cons rfl (.cons rfl .nil))) (fun T L0 mz E I' loc' => ∃ (k : Nat), mz = n - k ∧ E = (9, .int .i64 k) :: T ∧ I = I' ∧ L0 = loc' ∧ k ≤ n ∧ (xs.take k).any (fun x => x == t) = false) _ _ _ _ ⟨0, rfl, rfl, rfl, rfl, Nat.zero_le _, rfl⟩ (.cons rfl (.cons rfl (.cons rfl (.cons rfl .nil)))) (HLe.refl _) rfl ?_
  rintro mz E I' loc' ⟨k, rfl, rfl, rfl, rfl, hk, hno⟩
  refine X_seq ?_
  refine X_region ?_
  refine XO_v0 (ev_cmp rfl rfl rfl) rfl rfl rfl ?_
  refine XO_nil ?_
  refine at_then ?_
  refine X_seq ?_
  refine X_cond rfl (fun hc10 => ?_) (fun hc10 => ?_)
  · skip
    have hlt_k : k < n := by have h := hc10; simp at h; omega
    obtain ⟨x, hx⟩ := hS.at hlt_k
    refine X_skip ?_
    refine at_then ?_
    refine X_seq ?_
    refine X_block ?_
    refine X_seq ?_
    refine X_region ?_
    refine XO_v0 (ev_indexSl rfl rfl slt_23 (by assumption) (fun hg => by first | omega | (simp [conj] at hg; omega))) rfl rfl rfl ?_
    refine XO_v0 (ev_load rfl sct_3 (fun hg => by first | exact Sl.get0 hS hx rfl | exact Cell.h0 rfl | exact Cell.h1 rfl | exact Cell.h2 rfl | exact Cell.h3 rfl | exact Cell.h4 rfl | exact Cell.h5 rfl | (repeat (first | exact Cell.here rfl | apply Cell.there | apply Cell.app)))) rfl rfl rfl ?_
    refine XO_v0 (ev_assign rfl) rfl rfl rfl ?_
    refine XO_nil ?_
    refine at_then ?_
    refine X_seq ?_
    refine X_region ?_
    refine XO_v0 (ev_move rfl) rfl rfl rfl ?_
    refine XO_v0 (ev_move rfl) rfl rfl rfl ?_
    refine XO_v0 (ev_cmp rfl rfl rfl) rfl rfl rfl ?_
    refine XO_nil ?_
    refine at_then ?_
    refine X_cond rfl (fun hc15 => ?_) (fun hc15 => ?_)
    · skip
      refine X_seq ?_
      refine X_region ?_
      refine XO_v0 (ev_assign rfl) rfl rfl rfl ?_
      refine XO_nil ?_
      refine at_then ?_
      refine X_ret ?_
      refine at_block_r ?_
      refine at_then_r ?_
      refine at_then_r ?_
      refine at_block_r ?_
      refine at_then_r ?_
      first
      | exact at_ret1 rfl rfl (fun w hw => ⟨by rw [any_yes hx hc15], hw.drop⟩)
      | exact at_ret1 rfl rfl (fun w hw => ⟨by rw [take_all hS.len hge_k] at hno; rw [hno], hw.drop⟩)
    · skip
      refine X_skip ?_
      refine at_block_n ?_
      refine at_then ?_
      refine X_region ?_
      refine XO_v0 (ev_arB rfl rfl rfl (fun _ => by omega)) rfl rfl rfl ?_
      refine XO_v0 (ev_move rfl) rfl rfl rfl ?_
      refine XO_nil ?_
      exact at_met2 _ _ ⟨n - (k + 1), by omega, k + 1, rfl, rfl, rfl, rfl, by omega, any_no hx hno hc15⟩ (.cons rfl (.cons rfl (.cons rfl (.cons rfl .nil)))) (by repeat (first | exact .refl | exact subL_left | refine subL_app ?_ | refine .drop ?_ | refine subL_add ?_))
  · skip
    have hge_k : n ≤ k := by have h := hc10; simp at h; omega
    refine X_exit ?_
    refine at_then_e ?_
    refine at_then_e ?_
    refine at_block_hit ?_
    refine at_then ?_
    refine X_seq ?_
    refine X_region ?_
    refine XO_v0 (ev_assign rfl) rfl rfl rfl ?_
    refine XO_nil ?_
    refine at_then ?_
    refine X_ret ?_
    first
    | exact at_ret1 rfl rfl (fun w hw => ⟨by rw [any_yes hx hc15], hw.drop⟩)
    | exact at_ret1 rfl rfl (fun w hw => ⟨by rw [take_all hS.len hge_k] at hno; rw [hno], hw.drop⟩)
theorem w_sameI {I : HMap} {av : Option Addr} {n c : Nat} {xs : List Int} (hS : Sl I 1 encI av n c xs) (hn : n ≤ 100000) {bv : Option Addr} {n2 c2 : Nat} {ys : List Int} (hT : Sl I 1 encI bv n2 c2 ys) : RetV Try.prog 12 [.slice av n c, .slice bv n2 c2] I (.bool (sameF xs ys)) := by
  intro g H w hw
  refine enter Try.func12 rfl Try.ntmps12 rfl hw ?_
  refine X_seq ?_
  refine X_region ?_
  refine XO_v0 (ev_assign rfl) rfl rfl rfl ?_
  refine XO_nil ?_
  refine at_then ?_
  refine X_seq ?_
  refine X_seq ?_
  refine X_region ?_
  refine XO_v0 (ev_move rfl) rfl rfl rfl ?_
  refine XO_v0 (ev_lenS rfl slt_23) rfl rfl rfl ?_
  refine XO_v0 (ev_move rfl) rfl rfl rfl ?_
  refine XO_v0 (ev_lenS rfl slt_23) rfl rfl rfl ?_
  refine XO_v0 (ev_cmp rfl rfl rfl) rfl rfl rfl ?_
  refine XO_nil ?_
  refine at_then ?_
  refine X_cond rfl (fun hc10 => ?_) (fun hc10 => ?_)
  · skip
    refine X_seq ?_
    refine X_region ?_
    refine XO_v0 (ev_assign rfl) rfl rfl rfl ?_
    refine XO_nil ?_
    refine at_then ?_
    refine X_ret ?_
    refine at_then_r ?_
    first
    | exact at_ret1 rfl rfl (fun w hw => ⟨by rw [same_len hS.len hT.len (by simp at hc10; omega)], hw.drop⟩)
    | exact at_ret1 rfl rfl (fun w hw => ⟨by rw [same_ne hx hy (by simpa using hc25)], hw.drop⟩)
    | exact at_ret1 rfl rfl (fun w hw => ⟨by rw [take_all hS.len (by omega), take_all hT.len (by omega)] at he; rw [he, same_self], hw.drop⟩)
  · skip
    have hnn : n = n2 := by simp at hc10; omega
    refine X_skip ?_
    refine at_then ?_
    refine X_seq ?_
    refine X_seq ?_
    refine X_region ?_
    refine XO_v0 (ev_assign rfl) rfl rfl rfl ?_
    refine XO_nil ?_
    refine at_then ?_
    refine X_block ?_
    refine X_loopT [(0, _), (1, _)] (.cons rfl (.cons rfl .nil)) (fun T L0 mz E I' loc' => ∃ (k : Nat), mz = n - k ∧ E = (5, .int .i64 k) :: T ∧ I = I' ∧ L0 = loc' ∧ k ≤ n ∧ xs.take k = ys.take k) _ _ _ _ ⟨0, rfl, rfl, rfl, rfl, Nat.zero_le _, rfl⟩ (.cons rfl (.cons rfl (.cons rfl .nil))) (HLe.refl _) rfl ?_
    rintro mz E I' loc' ⟨k, rfl, rfl, rfl, rfl, hk, he⟩
    refine X_seq ?_
    refine X_seq ?_
    refine X_region ?_
    refine XO_v0 (ev_move rfl) rfl rfl rfl ?_
    refine XO_v0 (ev_move rfl) rfl rfl rfl ?_
    refine XO_v0 (ev_lenS rfl slt_23) rfl rfl rfl ?_
    refine XO_v0 (ev_cmp rfl rfl rfl) rfl rfl rfl ?_
    refine XO_nil ?_
    refine at_then ?_
    refine X_cond rfl (fun hc14 => ?_) (fun hc14 => ?_)
    · skip
      have hlt_k : k < n := by have h := hc14; simp at h; omega
      obtain ⟨x, hx⟩ := hS.at hlt_k
      obtain ⟨y, hy⟩ := hT.at (show k < n2 by omega)
      refine X_skip ?_
      refine at_then ?_
      refine X_seq ?_
      refine X_block ?_
      refine X_seq ?_
      refine X_draw mixed (by kernel_rfl) ?_
      refine XQ_v0 (ev_move rfl) rfl rfl rfl ?_
      refine XQ_v0 (ev_move rfl) rfl rfl rfl ?_
      refine XQ_v0 (ev_indexSl rfl rfl slt_23 (by assumption) (fun hg => by first | omega | (simp [conj] at hg; omega))) rfl rfl rfl ?_
      refine XQ_v0 (ev_load rfl sct_3 (fun hg => by first | exact Sl.get0 hS hx rfl | exact Sl.get0 hT hy rfl | exact Cell.h0 rfl | exact Cell.h1 rfl | exact Cell.h2 rfl | exact Cell.h3 rfl | exact Cell.h4 rfl | exact Cell.h5 rfl | (repeat (first | exact Cell.here rfl | apply Cell.there | apply Cell.app)))) rfl rfl rfl ?_
      refine XQ_v0 (ev_move rfl) rfl rfl rfl ?_
      refine XQ_v0 (ev_move rfl) rfl rfl rfl ?_
      refine XQ_v0 (ev_indexSl rfl rfl slt_23 (by assumption) (fun hg => by first | omega | (simp [conj] at hg; omega))) rfl rfl rfl ?_
      refine XQ_v0 (ev_load rfl sct_3 (fun hg => by first | exact Sl.get0 hS hx rfl | exact Sl.get0 hT hy rfl | exact Cell.h0 rfl | exact Cell.h1 rfl | exact Cell.h2 rfl | exact Cell.h3 rfl | exact Cell.h4 rfl | exact Cell.h5 rfl | (repeat (first | exact Cell.here rfl | apply Cell.there | apply Cell.app)))) rfl rfl rfl ?_
      refine XQ_v0 (ev_cmp rfl rfl rfl) rfl rfl rfl ?_
      refine XQ_nil ?_
      refine at_then ?_
      refine X_cond rfl (fun hc25 => ?_) (fun hc25 => ?_)
      · skip
        refine X_seq ?_
        refine X_region ?_
        refine XO_v0 (ev_assign rfl) rfl rfl rfl ?_
        refine XO_nil ?_
        refine at_then ?_
        refine X_ret ?_
        refine at_block_r ?_
        refine at_then_r ?_
        refine at_then_r ?_
        refine at_block_r ?_
        refine at_then_r ?_
        first
        | exact at_ret1 rfl rfl (fun w hw => ⟨by rw [same_len hS.len hT.len (by simp at hc10; omega)], hw.drop⟩)
        | exact at_ret1 rfl rfl (fun w hw => ⟨by rw [same_ne hx hy (by simpa using hc25)], hw.drop⟩)
        | exact at_ret1 rfl rfl (fun w hw => ⟨by rw [take_all hS.len (by omega), take_all hT.len (by omega)] at he; rw [he, same_self], hw.drop⟩)
      · skip
        refine X_skip ?_
        refine at_block_n ?_
        refine at_then ?_
        refine X_region ?_
        refine XO_v0 (ev_move rfl) rfl rfl rfl ?_
        refine XO_v0 (ev_arB rfl rfl rfl (fun _ => by omega)) rfl rfl rfl ?_
        refine XO_v0 (ev_assign rfl) rfl rfl rfl ?_
        refine XO_nil ?_
        exact at_met2 _ _ ⟨n - (k + 1), by omega, k + 1, rfl, rfl, rfl, rfl, by omega, take_next hx hy he (by simpa using hc25)⟩ (.cons rfl (.cons rfl (.cons rfl .nil))) (by repeat (first | exact .refl | exact subL_left | refine subL_app ?_ | refine .drop ?_ | refine subL_add ?_))
    · skip
      have hge_k : n ≤ k := by have h := hc14; simp at h; omega
      refine X_exit ?_
      refine at_then_e ?_
      refine at_then_e ?_
      refine at_block_hit ?_
      refine at_then ?_
      refine X_seq ?_
      refine X_region ?_
      refine XO_v0 (ev_assign rfl) rfl rfl rfl ?_
      refine XO_nil ?_
      refine at_then ?_
      refine X_ret ?_
      first
      | exact at_ret1 rfl rfl (fun w hw => ⟨by rw [same_len hS.len hT.len (by simp at hc10; omega)], hw.drop⟩)
      | exact at_ret1 rfl rfl (fun w hw => ⟨by rw [same_ne hx hy (by simpa using hc25)], hw.drop⟩)
      | exact at_ret1 rfl rfl (fun w hw => ⟨by rw [take_all hS.len (by omega), take_all hT.len (by omega)] at he; rw [he, same_self], hw.drop⟩)
theorem w_sameG {I : HMap} {av : Option Addr} {n c : Nat} {xs : List Sg} (hS : Sl I 14 encG av n c xs) (hn : n ≤ 100000) {bv : Option Addr} {n2 c2 : Nat} {ys : List Sg} (hT : Sl I 14 encG bv n2 c2 ys) : RetV Try.prog 17 [.slice av n c, .slice bv n2 c2] I (.bool (sameF xs ys)) := by
  intro g H w hw
  refine enter Try.func17 rfl Try.ntmps17 rfl hw ?_
  refine X_seq ?_
  refine X_region ?_
  refine XO_v0 (ev_assign rfl) rfl rfl rfl ?_
  refine XO_nil ?_
  refine at_then ?_
  refine X_seq ?_
  refine X_seq ?_
  refine X_region ?_
  refine XO_v0 (ev_move rfl) rfl rfl rfl ?_
  refine XO_v0 (ev_lenS rfl slt_39) rfl rfl rfl ?_
  refine XO_v0 (ev_move rfl) rfl rfl rfl ?_
  refine XO_v0 (ev_lenS rfl slt_39) rfl rfl rfl ?_
  refine XO_v0 (ev_cmp rfl rfl rfl) rfl rfl rfl ?_
  refine XO_nil ?_
  refine at_then ?_
  refine X_cond rfl (fun hc10 => ?_) (fun hc10 => ?_)
  · skip
    refine X_seq ?_
    refine X_region ?_
    refine XO_v0 (ev_assign rfl) rfl rfl rfl ?_
    refine XO_nil ?_
    refine at_then ?_
    refine X_ret ?_
    refine at_then_r ?_
    first
    | exact at_ret1 rfl rfl (fun w hw => ⟨by rw [same_len hS.len hT.len (by simp at hc10; omega)], hw.drop⟩)
    | exact at_ret1 rfl rfl (fun w hw => ⟨by rw [same_ne hx hy (sgEq_no ((Bool.not_eq_true' _).mp hc25))], hw.drop⟩)
    | exact at_ret1 rfl rfl (fun w hw => ⟨by rw [take_all hS.len (by omega), take_all hT.len (by omega)] at he; rw [he, same_self], hw.drop⟩)
  · skip
    have hnn : n = n2 := by simp at hc10; omega
    refine X_skip ?_
    refine at_then ?_
    refine X_seq ?_
    refine X_seq ?_
    refine X_region ?_
    refine XO_v0 (ev_assign rfl) rfl rfl rfl ?_
    refine XO_nil ?_
    refine at_then ?_
    refine X_block ?_
    refine X_loopT [(0, _), (1, _)] (.cons rfl (.cons rfl .nil)) (fun T L0 mz E I' loc' => ∃ (k : Nat), mz = n - k ∧ E = (5, .int .i64 k) :: T ∧ I = I' ∧ L0 = loc' ∧ k ≤ n ∧ xs.take k = ys.take k) _ _ _ _ ⟨0, rfl, rfl, rfl, rfl, Nat.zero_le _, rfl⟩ (.cons rfl (.cons rfl (.cons rfl .nil))) (HLe.refl _) rfl ?_
    rintro mz E I' loc' ⟨k, rfl, rfl, rfl, rfl, hk, he⟩
    refine X_seq ?_
    refine X_seq ?_
    refine X_region ?_
    refine XO_v0 (ev_move rfl) rfl rfl rfl ?_
    refine XO_v0 (ev_move rfl) rfl rfl rfl ?_
    refine XO_v0 (ev_lenS rfl slt_39) rfl rfl rfl ?_
    refine XO_v0 (ev_cmp rfl rfl rfl) rfl rfl rfl ?_
    refine XO_nil ?_
    refine at_then ?_
    refine X_cond rfl (fun hc14 => ?_) (fun hc14 => ?_)
    · skip
      have hlt_k : k < n := by have h := hc14; simp at h; omega
      obtain ⟨x, hx⟩ := hS.at hlt_k
      obtain ⟨y, hy⟩ := hT.at (show k < n2 by omega)
      refine X_skip ?_
      refine at_then ?_
      refine X_seq ?_
      refine X_block ?_
      refine X_seq ?_
      refine X_draw mixed (by kernel_rfl) ?_
      refine XQ_v0 (ev_move rfl) rfl rfl rfl ?_
      refine XQ_v0 (ev_move rfl) rfl rfl rfl ?_
      refine XQ_v0 (ev_indexSl rfl rfl slt_39 (by assumption) (fun hg => by first | omega | (simp [conj] at hg; omega))) rfl rfl rfl ?_
      refine XQ_v0 (ev_loadA rfl agt_35 (fun hg => by first | exact Sl.getA hS hx | exact Sl.getA hT hy | exact Cells.g0 | exact Cells.g1 | exact Cells.g2 | exact Cells.g3 | exact Cells.g4 | exact Cells.g5 | exact Cells.s0 (vs := [_, _, _, _, _, _, _, _, _, _, _, _, _, _]) rfl | exact Cells.s1 (vs := [_, _, _, _, _, _, _, _, _, _, _, _, _, _]) rfl | exact Cells.s2 (vs := [_, _, _, _, _, _, _, _, _, _, _, _, _, _]) rfl | exact Cells.s3 (vs := [_, _, _, _, _, _, _, _, _, _, _, _, _, _]) rfl | exact Cells.s4 (vs := [_, _, _, _, _, _, _, _, _, _, _, _, _, _]) rfl | exact Cells.s5 (vs := [_, _, _, _, _, _, _, _, _, _, _, _, _, _]) rfl | (repeat (first | exact Cells.here | apply Cells.there | apply Cells.app))) rfl) rfl rfl rfl ?_
      refine XQ_v0 (ev_move rfl) rfl rfl rfl ?_
      refine XQ_v0 (ev_move rfl) rfl rfl rfl ?_
      refine XQ_v0 (ev_indexSl rfl rfl slt_39 (by assumption) (fun hg => by first | omega | (simp [conj] at hg; omega))) rfl rfl rfl ?_
      refine XQ_v0 (ev_loadA rfl agt_35 (fun hg => by first | exact Sl.getA hS hx | exact Sl.getA hT hy | exact Cells.g0 | exact Cells.g1 | exact Cells.g2 | exact Cells.g3 | exact Cells.g4 | exact Cells.g5 | exact Cells.s0 (vs := [_, _, _, _, _, _, _, _, _, _, _, _, _, _]) rfl | exact Cells.s1 (vs := [_, _, _, _, _, _, _, _, _, _, _, _, _, _]) rfl | exact Cells.s2 (vs := [_, _, _, _, _, _, _, _, _, _, _, _, _, _]) rfl | exact Cells.s3 (vs := [_, _, _, _, _, _, _, _, _, _, _, _, _, _]) rfl | exact Cells.s4 (vs := [_, _, _, _, _, _, _, _, _, _, _, _, _, _]) rfl | exact Cells.s5 (vs := [_, _, _, _, _, _, _, _, _, _, _, _, _, _]) rfl | (repeat (first | exact Cells.here | apply Cells.there | apply Cells.app))) rfl) rfl rfl rfl ?_
      refine XQ_v0 (ev_neS2 rfl rfl eqt2_35 rfl) rfl rfl rfl ?_
      refine XQ_nil ?_
      refine at_then ?_
      refine X_cond rfl (fun hc25 => ?_) (fun hc25 => ?_)
      · skip
        refine X_seq ?_
        refine X_region ?_
        refine XO_v0 (ev_assign rfl) rfl rfl rfl ?_
        refine XO_nil ?_
        refine at_then ?_
        refine X_ret ?_
        refine at_block_r ?_
        refine at_then_r ?_
        refine at_then_r ?_
        refine at_block_r ?_
        refine at_then_r ?_
        first
        | exact at_ret1 rfl rfl (fun w hw => ⟨by rw [same_len hS.len hT.len (by simp at hc10; omega)], hw.drop⟩)
        | exact at_ret1 rfl rfl (fun w hw => ⟨by rw [same_ne hx hy (sgEq_no ((Bool.not_eq_true' _).mp hc25))], hw.drop⟩)
        | exact at_ret1 rfl rfl (fun w hw => ⟨by rw [take_all hS.len (by omega), take_all hT.len (by omega)] at he; rw [he, same_self], hw.drop⟩)
      · skip
        refine X_skip ?_
        refine at_block_n ?_
        refine at_then ?_
        refine X_region ?_
        refine XO_v0 (ev_move rfl) rfl rfl rfl ?_
        refine XO_v0 (ev_arB rfl rfl rfl (fun _ => by omega)) rfl rfl rfl ?_
        refine XO_v0 (ev_assign rfl) rfl rfl rfl ?_
        refine XO_nil ?_
        exact at_met2 _ _ ⟨n - (k + 1), by omega, k + 1, rfl, rfl, rfl, rfl, by omega, take_next hx hy he (sgEq_iff.1 ((Bool.not_eq_false' _).mp hc25))⟩ (.cons rfl (.cons rfl (.cons rfl .nil))) (by repeat (first | exact .refl | exact subL_left | refine subL_app ?_ | refine .drop ?_ | refine subL_add ?_))
    · skip
      have hge_k : n ≤ k := by have h := hc14; simp at h; omega
      refine X_exit ?_
      refine at_then_e ?_
      refine at_then_e ?_
      refine at_block_hit ?_
      refine at_then ?_
      refine X_seq ?_
      refine X_region ?_
      refine XO_v0 (ev_assign rfl) rfl rfl rfl ?_
      refine XO_nil ?_
      refine at_then ?_
      refine X_ret ?_
      first
      | exact at_ret1 rfl rfl (fun w hw => ⟨by rw [same_len hS.len hT.len (by simp at hc10; omega)], hw.drop⟩)
      | exact at_ret1 rfl rfl (fun w hw => ⟨by rw [same_ne hx hy (sgEq_no ((Bool.not_eq_true' _).mp hc25))], hw.drop⟩)
      | exact at_ret1 rfl rfl (fun w hw => ⟨by rw [take_all hS.len (by omega), take_all hT.len (by omega)] at he; rw [he, same_self], hw.drop⟩)
theorem w_sameC {I : HMap} {av : Option Addr} {n c : Nat} {cs : List Cf} (hC : SlC I av n c cs) (hn : n ≤ 100000) {bv : Option Addr} {n2 c2 : Nat} {ds : List Cf} (hD : SlC I bv n2 c2 ds) (hcn : ∀ z ∈ cs, z.n ≤ 100000) : RetV Try.prog 18 [.slice av n c, .slice bv n2 c2] I (.bool (sameF (cs.map Cf.key) (ds.map Cf.key))) := by
  intro g H w hw
  refine enter Try.func18 rfl Try.ntmps18 rfl hw ?_
  have hS := hC.1
  have hT := hD.1
  refine X_seq ?_
  refine X_region ?_
  refine XO_v0 (ev_assign rfl) rfl rfl rfl ?_
  refine XO_nil ?_
  refine at_then ?_
  refine X_seq ?_
  refine X_seq ?_
  refine X_region ?_
  refine XO_v0 (ev_move rfl) rfl rfl rfl ?_
  refine XO_v0 (ev_lenS rfl slt_40) rfl rfl rfl ?_
  refine XO_v0 (ev_move rfl) rfl rfl rfl ?_
  refine XO_v0 (ev_lenS rfl slt_40) rfl rfl rfl ?_
  refine XO_v0 (ev_cmp rfl rfl rfl) rfl rfl rfl ?_
  refine XO_nil ?_
  refine at_then ?_
  refine X_cond rfl (fun hc10 => ?_) (fun hc10 => ?_)
  · skip
    refine X_seq ?_
    refine X_region ?_
    refine XO_v0 (ev_assign rfl) rfl rfl rfl ?_
    refine XO_nil ?_
    refine at_then ?_
    refine X_ret ?_
    refine at_then_r ?_
    first
    | exact at_ret1 rfl rfl (fun w hw => ⟨by rw [same_len (n := n) (m := n2) (by rw [List.length_map, hS.len]) (by rw [List.length_map, hT.len]) (by simp at hc10; omega)], hw.drop⟩)
    | exact at_ret1 rfl rfl (fun w hw => ⟨by rw [key_ne hx hy (fun e => by unfold Cf.key at e; rw [Prod.mk.injEq, Prod.mk.injEq] at e; rw [e.1, e.2.1, e.2.2, same_self] at hc54; simp at hc54)], hw.drop⟩)
    | exact at_ret1 rfl rfl (fun w hw => ⟨by rw [take_all hS.len (by omega), take_all hT.len (by omega)] at he; rw [he, same_self], hw.drop⟩)
  · skip
    have hnn : n = n2 := by simp at hc10; omega
    refine X_skip ?_
    refine at_then ?_
    refine X_seq ?_
    refine X_seq ?_
    refine X_region ?_
    refine XO_v0 (ev_assign rfl) rfl rfl rfl ?_
    refine XO_nil ?_
    refine at_then ?_
    refine X_block ?_
    refine X_loopT [(0, _), (1, _)] (.cons rfl (.cons rfl .nil)) (fun T L0 mz E I' loc' => ∃ (k : Nat), mz = n - k ∧ E = (5, .int .i64 k) :: T ∧ I = I' ∧ L0 = loc' ∧ k ≤ n ∧ (cs.take k).map Cf.key = (ds.take k).map Cf.key) _ _ _ _ ⟨0, rfl, rfl, rfl, rfl, Nat.zero_le _, rfl⟩ (.cons rfl (.cons rfl (.cons rfl .nil))) (HLe.refl _) rfl ?_
    rintro mz E I' loc' ⟨k, rfl, rfl, rfl, rfl, hk, he⟩
    refine X_seq ?_
    refine X_seq ?_
    refine X_region ?_
    refine XO_v0 (ev_move rfl) rfl rfl rfl ?_
    refine XO_v0 (ev_move rfl) rfl rfl rfl ?_
    refine XO_v0 (ev_lenS rfl slt_40) rfl rfl rfl ?_
    refine XO_v0 (ev_cmp rfl rfl rfl) rfl rfl rfl ?_
    refine XO_nil ?_
    refine at_then ?_
    refine X_cond rfl (fun hc14 => ?_) (fun hc14 => ?_)
    · skip
      have hlt_k : k < n := by have h := hc14; simp at h; omega
      obtain ⟨x, hx⟩ := hS.at hlt_k
      obtain ⟨y, hy⟩ := hT.at (show k < n2 by omega)
      refine X_skip ?_
      refine at_then ?_
      refine X_seq ?_
      refine X_block ?_
      refine X_seq ?_
      refine X_draw mixed (by kernel_rfl) ?_
      refine XQ_v0 (ev_move rfl) rfl rfl rfl ?_
      refine XQ_v0 (ev_move rfl) rfl rfl rfl ?_
      refine XQ_v0 (ev_indexSl rfl rfl slt_40 (by assumption) (fun hg => by first | omega | (simp [conj] at hg; omega))) rfl rfl rfl ?_
      refine XQ_v0 (ev_fieldAddr rfl fld_44_0) rfl rfl rfl ?_
      refine XQ_v0 (ev_load rfl sct_3 (fun hg => by first | exact Sl.get hS hx rfl | exact Sl.get hT hy rfl | exact Cell.h0 rfl | exact Cell.h1 rfl | exact Cell.h2 rfl | exact Cell.h3 rfl | exact Cell.h4 rfl | exact Cell.h5 rfl | (repeat (first | exact Cell.here rfl | apply Cell.there | apply Cell.app)))) rfl rfl rfl ?_
      refine XQ_v0 (ev_move rfl) rfl rfl rfl ?_
      refine XQ_v0 (ev_move rfl) rfl rfl rfl ?_
      refine XQ_v0 (ev_indexSl rfl rfl slt_40 (by assumption) (fun hg => by first | omega | (simp [conj] at hg; omega))) rfl rfl rfl ?_
      refine XQ_v0 (ev_fieldAddr rfl fld_44_0) rfl rfl rfl ?_
      refine XQ_v0 (ev_load rfl sct_3 (fun hg => by first | exact Sl.get hS hx rfl | exact Sl.get hT hy rfl | exact Cell.h0 rfl | exact Cell.h1 rfl | exact Cell.h2 rfl | exact Cell.h3 rfl | exact Cell.h4 rfl | exact Cell.h5 rfl | (repeat (first | exact Cell.here rfl | apply Cell.there | apply Cell.app)))) rfl rfl rfl ?_
      refine XQ_v0 (ev_cmp rfl rfl rfl) rfl rfl rfl ?_
      refine XQ_v0 (ev_move rfl) rfl rfl rfl ?_
      refine XQ_pushF 11 rfl rfl rfl ?_
      refine XQ_v1 (ev_move rfl) (.some rfl rfl rfl rfl gbf) rfl rfl rfl ?_
      refine XQ_v1 (ev_move rfl) (.some rfl rfl rfl rfl gbf) rfl rfl rfl ?_
      refine XQ_v1 (ev_indexSl rfl rfl slt_40 (by assumption) (fun hg => by first | omega | (simp [conj] at hg; omega))) (.some rfl rfl rfl rfl gbf) rfl rfl rfl ?_
      refine XQ_v1 (ev_fieldAddr rfl fld_44_1) (.some rfl rfl rfl rfl gbf) rfl rfl rfl ?_
      refine XQ_v1 (ev_load rfl sct_3 (fun hg => by first | exact Sl.get hS hx rfl | exact Sl.get hT hy rfl | exact Cell.h0 rfl | exact Cell.h1 rfl | exact Cell.h2 rfl | exact Cell.h3 rfl | exact Cell.h4 rfl | exact Cell.h5 rfl | (repeat (first | exact Cell.here rfl | apply Cell.there | apply Cell.app)))) (.some rfl rfl rfl rfl gbf) rfl rfl rfl ?_
      refine XQ_v1 (ev_move rfl) (.some rfl rfl rfl rfl gbf) rfl rfl rfl ?_
      refine XQ_v1 (ev_move rfl) (.some rfl rfl rfl rfl gbf) rfl rfl rfl ?_
      refine XQ_v1 (ev_indexSl rfl rfl slt_40 (by assumption) (fun hg => by first | omega | (simp [conj] at hg; omega))) (.some rfl rfl rfl rfl gbf) rfl rfl rfl ?_
      refine XQ_v1 (ev_fieldAddr rfl fld_44_1) (.some rfl rfl rfl rfl gbf) rfl rfl rfl ?_
      refine XQ_v1 (ev_load rfl sct_3 (fun hg => by first | exact Sl.get hS hx rfl | exact Sl.get hT hy rfl | exact Cell.h0 rfl | exact Cell.h1 rfl | exact Cell.h2 rfl | exact Cell.h3 rfl | exact Cell.h4 rfl | exact Cell.h5 rfl | (repeat (first | exact Cell.here rfl | apply Cell.there | apply Cell.app)))) (.some rfl rfl rfl rfl gbf) rfl rfl rfl ?_
      refine XQ_v1 (ev_cmp rfl rfl rfl) (.some rfl rfl rfl rfl gbf) rfl rfl rfl ?_
      refine XQ_or0 rfl rfl rfl rfl rfl ?_
      refine XQ_v0 (ev_move rfl) rfl rfl rfl ?_
      refine XQ_pushF 24 rfl rfl rfl ?_
      refine XQ_v1 (ev_move rfl) (.some rfl rfl rfl rfl gbf) rfl rfl rfl ?_
      refine XQ_v1 (ev_move rfl) (.some rfl rfl rfl rfl gbf) rfl rfl rfl ?_
      refine XQ_v1 (ev_indexSl rfl rfl slt_40 (by assumption) (fun hg => by first | omega | (simp [conj] at hg; omega))) (.some rfl rfl rfl rfl gbf) rfl rfl rfl ?_
      refine XQ_v1 (ev_fieldAddr rfl fld_44_2) (.some rfl rfl rfl rfl gbf) rfl rfl rfl ?_
      refine XQ_v1 (ev_load rfl sct_23 (fun hg => by first | exact Sl.get hS hx rfl | exact Sl.get hT hy rfl | exact Cell.h0 rfl | exact Cell.h1 rfl | exact Cell.h2 rfl | exact Cell.h3 rfl | exact Cell.h4 rfl | exact Cell.h5 rfl | (repeat (first | exact Cell.here rfl | apply Cell.there | apply Cell.app)))) (.some rfl rfl rfl rfl gbf) rfl rfl rfl ?_
      refine XQ_v1 (ev_move rfl) (.some rfl rfl rfl rfl gbf) rfl rfl rfl ?_
      refine XQ_v1 (ev_move rfl) (.some rfl rfl rfl rfl gbf) rfl rfl rfl ?_
      refine XQ_v1 (ev_indexSl rfl rfl slt_40 (by assumption) (fun hg => by first | omega | (simp [conj] at hg; omega))) (.some rfl rfl rfl rfl gbf) rfl rfl rfl ?_
      refine XQ_v1 (ev_fieldAddr rfl fld_44_2) (.some rfl rfl rfl rfl gbf) rfl rfl rfl ?_
      refine XQ_v1 (ev_load rfl sct_23 (fun hg => by first | exact Sl.get hS hx rfl | exact Sl.get hT hy rfl | exact Cell.h0 rfl | exact Cell.h1 rfl | exact Cell.h2 rfl | exact Cell.h3 rfl | exact Cell.h4 rfl | exact Cell.h5 rfl | (repeat (first | exact Cell.here rfl | apply Cell.there | apply Cell.app)))) (.some rfl rfl rfl rfl gbf) rfl rfl rfl ?_
      refine XQ_callV1 (cap := []) (vs := [_, _]) rfl rfl fun_12 (fun hg => w_sameI (hC.2 _ (List.mem_of_getElem? hx)) (hcn _ (List.mem_of_getElem? hx)) (hD.2 _ (List.mem_of_getElem? hy))) (.some rfl rfl rfl rfl gbf) rfl rfl ?_
      refine XQ_v1 (ev_not rfl) (.some rfl rfl rfl rfl gbf) rfl rfl rfl ?_
      refine XQ_or0 rfl rfl rfl rfl rfl ?_
      refine XQ_nil ?_
      refine at_then ?_
      refine X_cond rfl (fun hc54 => ?_) (fun hc54 => ?_)
      · skip
        refine X_seq ?_
        refine X_region ?_
        refine XO_v0 (ev_assign rfl) rfl rfl rfl ?_
        refine XO_nil ?_
        refine at_then ?_
        refine X_ret ?_
        refine at_block_r ?_
        refine at_then_r ?_
        refine at_then_r ?_
        refine at_block_r ?_
        refine at_then_r ?_
        first
        | exact at_ret1 rfl rfl (fun w hw => ⟨by rw [same_len (n := n) (m := n2) (by rw [List.length_map, hS.len]) (by rw [List.length_map, hT.len]) (by simp at hc10; omega)], hw.drop⟩)
        | exact at_ret1 rfl rfl (fun w hw => ⟨by rw [key_ne hx hy (fun e => by unfold Cf.key at e; rw [Prod.mk.injEq, Prod.mk.injEq] at e; rw [e.1, e.2.1, e.2.2, same_self] at hc54; simp at hc54)], hw.drop⟩)
        | exact at_ret1 rfl rfl (fun w hw => ⟨by rw [take_all hS.len (by omega), take_all hT.len (by omega)] at he; rw [he, same_self], hw.drop⟩)
      · skip
        refine X_skip ?_
        refine at_block_n ?_
        refine at_then ?_
        refine X_region ?_
        refine XO_v0 (ev_move rfl) rfl rfl rfl ?_
        refine XO_v0 (ev_arB rfl rfl rfl (fun _ => by omega)) rfl rfl rfl ?_
        refine XO_v0 (ev_assign rfl) rfl rfl rfl ?_
        refine XO_nil ?_
        exact at_met2 _ _ ⟨n - (k + 1), by omega, k + 1, rfl, rfl, rfl, rfl, by omega, key_next hx hy he (by have h := hc54; simp only [Bool.or_eq_false_iff, Bool.not_eq_false', bne_eq_false_iff_eq] at h; unfold Cf.key; rw [h.1.1, h.1.2, of_decide_eq_true h.2])⟩ (.cons rfl (.cons rfl (.cons rfl .nil))) (by repeat (first | exact .refl | exact subL_left | refine subL_app ?_ | refine .drop ?_ | refine subL_add ?_))
    · skip
      have hge_k : n ≤ k := by have h := hc14; simp at h; omega
      refine X_exit ?_
      refine at_then_e ?_
      refine at_then_e ?_
      refine at_block_hit ?_
      refine at_then ?_
      refine X_seq ?_
      refine X_region ?_
      refine XO_v0 (ev_assign rfl) rfl rfl rfl ?_
      refine XO_nil ?_
      refine at_then ?_
      refine X_ret ?_
      first
      | exact at_ret1 rfl rfl (fun w hw => ⟨by rw [same_len (n := n) (m := n2) (by rw [List.length_map, hS.len]) (by rw [List.length_map, hT.len]) (by simp at hc10; omega)], hw.drop⟩)
      | exact at_ret1 rfl rfl (fun w hw => ⟨by rw [key_ne hx hy (fun e => by unfold Cf.key at e; rw [Prod.mk.injEq, Prod.mk.injEq] at e; rw [e.1, e.2.1, e.2.2, same_self] at hc54; simp at hc54)], hw.drop⟩)
      | exact at_ret1 rfl rfl (fun w hw => ⟨by rw [take_all hS.len (by omega), take_all hT.len (by omega)] at he; rw [he, same_self], hw.drop⟩)
end Go.Proofs.Ytccomeanpppfmaa
end
section
namespace Go.Proofs.Ytccomeanpppfmaa
open Go Go.Kn Go.Proofs
/-- The law's patch: a sign's direction. -/
def setP (id dir : Int) (a : Option Addr) (n c : Nat) (v : List Int) : Pt := ⟨id, 1, 1, 5, { zeroG with dir := dir }, a, n, c, v⟩
theorem w_lset (I : HMap) (id dir : Int) (a : Option Addr) (n c : Nat) (v : List Int) : RetV Try.prog 21 [.int .i64 id, .int .i64 dir, .slice a n c] I (encPA (setP id dir a n c v)) := by
  intro g H w hw
  refine enter Try.func21 rfl Try.ntmps21 rfl hw ?_
  refine X_seq ?_
  refine X_region ?_
  refine XO_alloc zt_37 rfl rfl (fun b_6 => ?_)
  refine XO_nil ?_
  refine at_then ?_
  refine X_seq ?_
  refine X_region ?_
  refine XO_v0 (ev_move rfl) rfl rfl rfl ?_
  refine XO_v0 (ev_move rfl) rfl rfl rfl ?_
  refine XO_v0 (ev_buildL (ps := [(6, _)]) [_, _, _, _, _, _, _, _, _, _, _, _, _, _] plt_35 rfl rfl) rfl rfl rfl ?_
  refine XO_v0 (ev_move rfl) rfl rfl rfl ?_
  refine XO_v0 (ev_buildL (ps := [(0, _), (1, _), (2, _), (3, _), (4, _), (5, _)]) [_, _, _, _, _, _, _, _, _, _, _, _, _, _, _, _, _, _, _] plt_37 rfl rfl) rfl rfl rfl ?_
  refine XO_storeA rfl rfl szt_37 rfl rfl rfl rfl (by first | exact Upd.u0 | exact Upd.u1 | exact Upd.u2 | exact Upd.u3 | exact Upd.u4 | exact Upd.u5 | (repeat (first | exact Upd.here | apply Upd.there | apply upd_app))) ?_
  refine XO_nil ?_
  refine at_then ?_
  refine X_ret ?_
  exact at_retA rfl rfl agt_37 Cells.g0 rfl (fun w hw => ⟨rfl, hw.drop⟩)
end Go.Proofs.Ytccomeanpppfmaa
end
section
namespace Go.Proofs.Ytccomeanpppfmaa
open Go Go.Kn Go.Proofs
theorem fun_10 : Fun Try.prog 10 := .of Try.func10 (by kernel_rfl) (by kernel_rfl)
theorem fun_11 : Fun Try.prog 11 := .of Try.func11 (by kernel_rfl) (by kernel_rfl)
theorem fun_14 : Fun Try.prog 14 := .of Try.func14 (by kernel_rfl) (by kernel_rfl)
theorem fun_15 : Fun Try.prog 15 := .of Try.func15 (by kernel_rfl) (by kernel_rfl)
theorem fun_17 : Fun Try.prog 17 := .of Try.func17 (by kernel_rfl) (by kernel_rfl)
theorem fun_18 : Fun Try.prog 18 := .of Try.func18 (by kernel_rfl) (by kernel_rfl)
theorem fun_21 : Fun Try.prog 21 := .of Try.func21 (by kernel_rfl) (by kernel_rfl)
def g1 : Sg := ⟨1, 0, 2, 1, 1, 1, 1, 0, 1, 0, 0, 1, 1, 1⟩
def g2 : Sg := ⟨1, 0, 2, 1, 1, 1, 3, 0, 4, 0, 0, 1, 1, 1⟩
def g3 : Sg := ⟨1, 0, 2, 1, 1, 1, 6, 0, 4, 0, 0, 1, 1, 1⟩
def sizeP : Pt := ⟨3, 1, 1, 7, { zeroG with size := 4 }, none, 0, 0, []⟩
def stR (a : Option Addr) : List Pt := [setP 2 3 none 0 0 [], sizeP, setP 4 5 none 0 0 [], setP 7 6 a 2 2 [2, 4]]
def stB (a : Option Addr) : List Pt := [setP 2 3 a 1 1 [1]]
theorem stR_sl {I : HMap} {b : Nat} {a : Option Addr} (h : I b = some (.cells ((stR a).flatMap encP).toArray 37 (0, 0))) (h2 : Sl I 1 encI a 2 2 [2, 4]) : SlP I (some ⟨b, 0, none⟩) 4 4 (stR a) :=
  ⟨Sl.lit (stR a) rfl encP_len h, fun p hp => by
    simp only [stR, List.mem_cons, List.not_mem_nil, or_false] at hp
    rcases hp with rfl | rfl | rfl | rfl
    · exact .nil
    · exact .nil
    · exact .nil
    · exact h2⟩
theorem stB_sl {I : HMap} {b : Nat} {a : Option Addr} (h : I b = some (.cells ((stB a).flatMap encP).toArray 37 (0, 0))) (h2 : Sl I 1 encI a 1 1 [1]) : SlP I (some ⟨b, 0, none⟩) 1 1 (stB a) :=
  ⟨Sl.lit (stB a) rfl encP_len h, fun p hp => by
    simp only [stB, List.mem_cons, List.not_mem_nil, or_false] at hp
    subst hp; exact h2⟩
theorem s_chk0 {I : HMap} {av : Option Addr} {c : Nat} (hP : SlP I av 0 c []) : RetV Try.prog 9 [.slice av 0 c] I (.int .i64 0) := by
  have h := w_chkR hP (by decide)
  rwa [show chkR [] = 0 from by kernel_rfl] at h
theorem s_chk1 {I : HMap} {av : Option Addr} {c : Nat} {a : Option Addr} (hP : SlP I av 4 c (stR a)) : RetV Try.prog 9 [.slice av 4 c] I (.int .i64 0) := by
  have h := w_chkR hP (by decide)
  rwa [show chkR (stR a) = 0 from by kernel_rfl] at h
theorem s_chk2 {I : HMap} {av : Option Addr} {c : Nat} {a : Option Addr} (hP : SlP I av 1 c (stB a)) : RetV Try.prog 9 [.slice av 1 c] I (.int .i64 380) := by
  have h := w_chkR hP (by decide)
  rwa [show chkR (stB a) = 380 from by kernel_rfl] at h
theorem s_clo1 {I : HMap} {av bv : Option Addr} {c c2 : Nat} {a : Option Addr} (hP : SlP I av 4 c (stR a)) (hT : Sl I 1 encI bv 1 c2 [7]) : RetM Try.prog 10 [.slice av 4 c, .slice bv 1 c2] I [] (Res2 0 [2, 4, 7]) := by
  have h := w_Closure hP (by decide) hT (by decide)
  rwa [show cloE (stR a) [7] = 0 from by kernel_rfl, show resF (α := Int) 0 (cloF (stR a) [7]) = [2, 4, 7] from by kernel_rfl] at h
theorem s_clo2 {I : HMap} {av bv : Option Addr} {c c2 : Nat} (hP : SlP I av 0 c []) (hT : Sl I 1 encI bv 1 c2 [1]) : RetM Try.prog 10 [.slice av 0 c, .slice bv 1 c2] I [] (Res2 380 []) := by
  have h := w_Closure hP (by decide) hT (by decide)
  rwa [show cloE [] [1] = 380 from by kernel_rfl, show resF (α := Int) 380 (cloF [] [1]) = [] from by kernel_rfl] at h
theorem s_mrg {I : HMap} {av bv dv : Option Addr} {c c2 c3 : Nat} {a : Option Addr} (hP : SlP I av 4 c (stR a)) (hT : Sl I 1 encI bv 1 c2 [2]) (hU : Sl I 1 encI dv 1 c3 [3]) : RetM Try.prog 11 [.slice av 4 c, .slice bv 1 c2, .slice dv 1 c3] I [] (Res2 0 [2, 3]) := by
  have h := w_merge hP (by decide) hT (by decide) hU (by decide)
  rwa [show mrgE (stR a) [2] [3] = 0 from by kernel_rfl, show resF (α := Int) 0 (mrgF (stR a) [2] [3]) = [2, 3] from by kernel_rfl] at h
theorem s_sg1 {I : HMap} {av bv dv : Option Addr} {c c2 c3 : Nat} {a : Option Addr} (hP : SlP I av 4 c (stR a)) (hB : Sl I 14 encG bv 1 c2 [g1]) (hV : Sl I 1 encI dv 2 c3 [2, 3]) : RetM Try.prog 15 [.slice av 4 c, .slice bv 1 c2, .slice dv 2 c3] I [] (ResG 0 [g2]) := by
  have h := w_Signs hP (by decide) hB (by decide) hV (by decide)
  rwa [show sgnE (stR a) [g1] [2, 3] = 0 from by kernel_rfl, show sgnF (stR a) [g1] [2, 3] = [g2] from by kernel_rfl] at h
theorem s_sg2 {I : HMap} {av bv dv : Option Addr} {c c2 c3 : Nat} {a : Option Addr} (hP : SlP I av 4 c (stR a)) (hB : Sl I 14 encG bv 1 c2 [g1]) (hV : Sl I 1 encI dv 4 c3 [2, 3, 4, 7]) : RetM Try.prog 15 [.slice av 4 c, .slice bv 1 c2, .slice dv 4 c3] I [] (ResG 0 [g3]) := by
  have h := w_Signs hP (by decide) hB (by decide) hV (by decide)
  rwa [show sgnE (stR a) [g1] [2, 3, 4, 7] = 0 from by kernel_rfl, show sgnF (stR a) [g1] [2, 3, 4, 7] = [g3] from by kernel_rfl] at h
theorem s_sg3 {I : HMap} {av bv dv : Option Addr} {c c2 c3 : Nat} {a : Option Addr} (hP : SlP I av 4 c (stR a)) (hB : Sl I 14 encG bv 1 c2 [g1]) (hV : Sl I 1 encI dv 1 c3 [7]) : RetM Try.prog 15 [.slice av 4 c, .slice bv 1 c2, .slice dv 1 c3] I [] (ResG 380 []) := by
  have h := w_Signs hP (by decide) hB (by decide) hV (by decide)
  rwa [show sgnE (stR a) [g1] [7] = 380 from by kernel_rfl, show sgnF (stR a) [g1] [7] = [] from by kernel_rfl] at h
theorem s_sg4 {I : HMap} {av bv dv : Option Addr} {c c2 c3 : Nat} (hP : SlP I av 0 c []) (hB : Sl I 14 encG bv 1 c2 [g1]) (hV : Sl I 1 encI dv 0 c3 []) : RetM Try.prog 15 [.slice av 0 c, .slice bv 1 c2, .slice dv 0 c3] I [] (ResG 0 [g1]) := by
  have h := w_Signs hP (by decide) hB (by decide) hV (by decide)
  rwa [show sgnE [] [g1] [] = 0 from by kernel_rfl, show sgnF [] [g1] [] = [g1] from by kernel_rfl] at h
theorem s_cf1 {I : HMap} {av bv dv : Option Addr} {c c2 c3 : Nat} {a : Option Addr} (hP : SlP I av 4 c (stR a)) (hB : Sl I 14 encG bv 1 c2 [g1]) (hV : Sl I 1 encI dv 2 c3 [2, 3]) : RetM Try.prog 14 [.slice av 4 c, .slice bv 1 c2, .slice dv 2 c3] I [] (ResC 0 []) := by
  have h := w_Conflicts hP (by decide) hB (by decide) hV (by decide)
  rwa [show sgnE (stR a) [g1] [2, 3] = 0 from by kernel_rfl, show cflF (stR a) [g1] [2, 3] = [] from by kernel_rfl] at h
theorem s_cf2 {I : HMap} {av bv dv : Option Addr} {c c2 c3 : Nat} {a : Option Addr} (hP : SlP I av 4 c (stR a)) (hB : Sl I 14 encG bv 1 c2 [g1]) (hV : Sl I 1 encI dv 3 c3 [2, 3, 4]) : RetM Try.prog 14 [.slice av 4 c, .slice bv 1 c2, .slice dv 3 c3] I [] (ResC 0 [(1, 5, [2, 4])]) := by
  have h := w_Conflicts hP (by decide) hB (by decide) hV (by decide)
  rwa [show sgnE (stR a) [g1] [2, 3, 4] = 0 from by kernel_rfl, show cflF (stR a) [g1] [2, 3, 4] = [(1, 5, [2, 4])] from by kernel_rfl] at h
theorem s_cf3 {I : HMap} {av bv dv : Option Addr} {c c2 c3 : Nat} {a : Option Addr} (hP : SlP I av 4 c (stR a)) (hB : Sl I 14 encG bv 1 c2 [g1]) (hV : Sl I 1 encI dv 4 c3 [2, 3, 4, 7]) : RetM Try.prog 14 [.slice av 4 c, .slice bv 1 c2, .slice dv 4 c3] I [] (ResC 0 []) := by
  have h := w_Conflicts hP (by decide) hB (by decide) hV (by decide)
  rwa [show sgnE (stR a) [g1] [2, 3, 4, 7] = 0 from by kernel_rfl, show cflF (stR a) [g1] [2, 3, 4, 7] = [] from by kernel_rfl] at h
theorem s_sameI {I : HMap} {av bv : Option Addr} {n c q e : Nat} {xs ys : List Int} (hS : Sl I 1 encI av n c xs) (hT : Sl I 1 encI bv q e ys) (hn : n ≤ 100000) (h : xs = ys) : RetV Try.prog 12 [.slice av n c, .slice bv q e] I (.bool true) := by
  have := w_sameI hS hn hT
  subst h; rwa [same_self] at this
theorem s_sameG {I : HMap} {av bv : Option Addr} {n c q e : Nat} {xs ys : List Sg} (hS : Sl I 14 encG av n c xs) (hT : Sl I 14 encG bv q e ys) (hn : n ≤ 100000) (h : xs = ys) : RetV Try.prog 17 [.slice av n c, .slice bv q e] I (.bool true) := by
  have := w_sameG hS hn hT
  subst h; rwa [same_self] at this
theorem s_sameC {I : HMap} {av bv a : Option Addr} {c e : Nat} {cs : List Cf} (hC : SlC I av cs.length c cs) (hk : cs.map Cf.key = [(1, 5, [2, 4])]) (hD : SlC I bv 1 e [⟨1, 5, a, 2, 2, [2, 4]⟩]) : RetV Try.prog 18 [.slice av cs.length c, .slice bv 1 e] I (.bool true) := by
  match cs, hC, hk with
  | [], _, hk => cases hk
  | _ :: _ :: _, _, hk => simp at hk
  | [z], hC, hk =>
    have hz : z.key = (1, 5, [2, 4]) := by simpa using hk
    have hi : z.ids = [2, 4] := congrArg (·.2.2) hz
    have hl := (hC.2 z (by simp)).len
    rw [hi] at hl
    have h := w_sameC hC (by simp) hD (fun y hy => by simp at hy; subst hy; rw [← hl]; decide)
    rwa [hk, show ([⟨1, 5, a, 2, 2, [2, 4]⟩] : List Cf).map Cf.key = [(1, 5, [2, 4])] from rfl, same_self] at h
theorem conf_one {I : HMap} {b : Nat} {a : Option Addr} (h : I b = some (.cells (([⟨1, 5, a, 2, 2, [2, 4]⟩] : List Cf).flatMap encC).toArray 44 (0, 0))) (h2 : Sl I 1 encI a 2 2 [2, 4]) : SlC I (some ⟨b, 0, none⟩) 1 1 [⟨1, 5, a, 2, 2, [2, 4]⟩] :=
  ⟨Sl.lit _ rfl encC_len h, fun x hx => by simp only [List.mem_cons, List.not_mem_nil, or_false] at hx; subst hx; exact h2⟩
set_option maxRecDepth 100000 in
theorem w_sane (I : HMap) : RetV Try.prog 8 [] I (.bool true) := by
  intro g H w hw
  refine enter Try.func8 rfl Try.ntmps8 rfl hw ?_
  have hIc := HLe.refl I
  refine X_seq ?_
  refine X_region ?_
  refine XO_v0 (ev_assign rfl) rfl rfl rfl ?_
  refine XO_nil ?_
  refine at_then ?_
  refine X_seq ?_
  refine X_region ?_
  refine XO_v0 (ev_buildL (ps := [(1, _)]) [_, _] plt_33 rfl rfl) rfl rfl rfl ?_
  refine XO_v0 (ev_buildL (ps := [(0, _), (1, _)]) [_, _] plt_33 rfl rfl) rfl rfl rfl ?_
  refine XO_v0 (ev_buildL (ps := [(0, _), (2, _), (3, _), (4, _), (5, _), (6, _), (8, _), (10, _), (11, _)]) [_, _, _, _, _, _, _, _, _, _, _, _, _, _] plt_35 rfl rfl) rfl rfl rfl ?_
  refine XO_buildSlice (ps := [(0, _)]) (m := [encG g1]) elt_39 rfl (.cons rfl (.nil)) rfl (by simp [encI_len, encP_len, encG_len, encC_len]) (by decide) (by decide) rfl rfl (fun b_29 => ?_)
  refine XO_freeze .here (fun I1 hI1 hb1 => ?_)
  have hIc := hIc.trans hI1
  have hB := Sl.lit ([g1] : List Sg) rfl encG_len (show _ = some (Obj.cells (([g1] : List Sg).flatMap encG).toArray 35 (0, 0)) from hb1)
  refine XO_v0 (ev_assign rfl) rfl rfl rfl ?_
  refine XO_nil ?_
  refine at_then ?_
  refine X_seq ?_
  refine X_region ?_
  refine XO_v0 (ev_buildL (ps := [(8, _)]) [_, _, _, _, _, _, _, _, _, _, _, _, _, _] plt_35 rfl rfl) rfl rfl rfl ?_
  refine XO_v0 (ev_buildL (ps := [(0, _), (1, _), (2, _), (3, _), (4, _)]) [_, _, _, _, _, _, _, _, _, _, _, _, _, _, _, _, _, _, _] plt_37 rfl rfl) rfl rfl rfl ?_
  refine XO_alloc zt_37 rfl rfl (fun b_2 => ?_)
  refine XO_storeA rfl rfl szt_37 rfl rfl rfl rfl (by first | exact Upd.u0 | exact Upd.u1 | exact Upd.u2 | exact Upd.u3 | exact Upd.u4 | exact Upd.u5 | (repeat (first | exact Upd.here | apply Upd.there | apply upd_app))) ?_
  refine XO_nil ?_
  refine at_then ?_
  refine X_cutT [(1, _)] (.cons rfl .nil) (fun T L0 E I' loc' => ∃ (b35 b37 : Nat), E = (3, .slice (some ⟨b37, 0, none⟩) 4 4) :: T ∧ I1 = I' ∧ [(b37, .cells ((stR (some ⟨b35, 0, none⟩)).flatMap encP).toArray 37 (0, 0)), (b35, .cells ([(2 : Int), 4].flatMap encI).toArray 3 (0, 0))] = loc') ?_ ?_
  · skip
    have hD := HLe.refl I1
    refine X_drawC mixed ?_
    refine XD_take 1 rfl (ev_loadA rfl agt_37 (fun hg => by first | exact Sl.getA (k := 0) (x := g1) hB rfl | exact Cells.g0 | exact Cells.g1 | exact Cells.g2 | exact Cells.g3 | exact Cells.g4 | exact Cells.g5 | exact Cells.s0 (vs := [_, _, _, _, _, _, _, _, _, _, _, _, _, _, _, _, _, _, _]) rfl | exact Cells.s1 (vs := [_, _, _, _, _, _, _, _, _, _, _, _, _, _, _, _, _, _, _]) rfl | exact Cells.s2 (vs := [_, _, _, _, _, _, _, _, _, _, _, _, _, _, _, _, _, _, _]) rfl | exact Cells.s3 (vs := [_, _, _, _, _, _, _, _, _, _, _, _, _, _, _, _, _, _, _]) rfl | exact Cells.s4 (vs := [_, _, _, _, _, _, _, _, _, _, _, _, _, _, _, _, _, _, _]) rfl | exact Cells.s5 (vs := [_, _, _, _, _, _, _, _, _, _, _, _, _, _, _, _, _, _, _]) rfl | (repeat (first | exact Cells.here | apply Cells.there | apply Cells.app))) rfl) (.none rfl) rfl rfl rfl (by kernel_rfl) (by kernel_rfl) (by kernel_rfl) noP_ok hD (by repeat (first | exact .refl | exact subL_nil | refine .keep ?_ | refine .drop ?_ | refine subL_add ?_)) ?_
    refine XD_two 0 3 rfl rfl (by kernel_rfl) ?_ ?_
    · skip
      refine XO_callV0 (cap := []) (vs := [_, _, _]) rfl rfl fun_21 (w_lset _ 2 3 none 0 0 []) rfl rfl ?_
      refine XO_nil ?_
      refine at_D hD (by repeat (first | exact .refl | exact subL_nil | refine .keep ?_ | refine .drop ?_ | refine subL_add ?_)) ?_
      refine XD_two 2 3 rfl rfl (by kernel_rfl) ?_ ?_
      · skip
        refine XO_callV0 (cap := []) (vs := [_, _, _]) rfl rfl fun_21 (w_lset _ 4 5 none 0 0 []) rfl rfl ?_
        refine XO_nil ?_
        refine at_D hD (by repeat (first | exact .refl | exact subL_nil | refine .keep ?_ | refine .drop ?_ | refine subL_add ?_)) ?_
        refine XD_one 3 rfl (by kernel_rfl) ?_
        refine XO_buildSlice (ps := [(0, _), (1, _)]) (m := [encI 2, encI 4]) elt_23 rfl (.cons rfl (.cons rfl (.nil))) rfl (by simp [encI_len, encP_len, encG_len, encC_len]) (by decide) (by decide) rfl rfl (fun b_35 => ?_)
        refine XO_nil ?_
        refine at_D hD (by repeat (first | exact .refl | exact subL_nil | refine .keep ?_ | refine .drop ?_ | refine subL_add ?_)) ?_
        refine XD_one 4 rfl (by kernel_rfl) ?_
        refine XO_callV0 (cap := []) (vs := [_, _, _]) rfl rfl fun_21 (w_lset _ 7 6 _ _ _ [2, 4]) rfl rfl ?_
        refine XO_nil ?_
        refine at_D hD (by repeat (first | exact .refl | exact subL_nil | refine .keep ?_ | refine .drop ?_ | refine subL_add ?_)) ?_
        refine XD_one 5 rfl (by kernel_rfl) ?_
        refine XO_buildSlice (ps := [(0, _), (1, _), (2, _), (3, _)]) (m := [encP (setP 2 3 none 0 0 []), encP sizeP, encP (setP 4 5 none 0 0 []), encP (setP 7 6 (some ⟨b_35, 0, none⟩) 2 2 [2, 4])]) elt_22 rfl (.cons rfl (.cons rfl (.cons rfl (.cons rfl (.nil))))) rfl (by simp [encI_len, encP_len, encG_len, encC_len]) (by decide) (by decide) rfl rfl (fun b_37 => ?_)
        refine XO_nil ?_
        refine at_D hD (by repeat (first | exact .refl | exact subL_nil | refine .keep ?_ | refine .drop ?_ | refine subL_add ?_)) ?_
        refine XD_take 6 rfl (ev_assign rfl) (.none rfl) rfl rfl rfl (by kernel_rfl) (by kernel_rfl) (by kernel_rfl) noP_ok hD (by repeat (first | exact .refl | exact subL_nil | refine .keep ?_ | refine .drop ?_ | refine subL_add ?_)) ?_
        refine XD_done (by kernel_rfl) ?_
        refine at_noP ?_
        exact at_met2 _ _ ⟨b_35, b_37, rfl, rfl, rfl⟩ (.cons rfl (.cons rfl .nil)) (by repeat (first | exact .refl | exact subL_left | refine subL_app ?_ | refine .drop ?_ | refine subL_add ?_))
      · skip
        refine XO_buildSlice (ps := [(0, _), (1, _)]) (m := [encI 2, encI 4]) elt_23 rfl (.cons rfl (.cons rfl (.nil))) rfl (by simp [encI_len, encP_len, encG_len, encC_len]) (by decide) (by decide) rfl rfl (fun b_35 => ?_)
        refine XO_nil ?_
        refine at_D hD (by repeat (first | exact .refl | exact subL_nil | refine .keep ?_ | refine .drop ?_ | refine subL_add ?_)) ?_
        refine XD_one 2 rfl (by kernel_rfl) ?_
        refine XO_callV0 (cap := []) (vs := [_, _, _]) rfl rfl fun_21 (w_lset _ 4 5 none 0 0 []) rfl rfl ?_
        refine XO_nil ?_
        refine at_D hD (by repeat (first | exact .refl | exact subL_nil | refine .keep ?_ | refine .drop ?_ | refine subL_add ?_)) ?_
        refine XD_one 4 rfl (by kernel_rfl) ?_
        refine XO_callV0 (cap := []) (vs := [_, _, _]) rfl rfl fun_21 (w_lset _ 7 6 _ _ _ [2, 4]) rfl rfl ?_
        refine XO_nil ?_
        refine at_D hD (by repeat (first | exact .refl | exact subL_nil | refine .keep ?_ | refine .drop ?_ | refine subL_add ?_)) ?_
        refine XD_one 5 rfl (by kernel_rfl) ?_
        refine XO_buildSlice (ps := [(0, _), (1, _), (2, _), (3, _)]) (m := [encP (setP 2 3 none 0 0 []), encP sizeP, encP (setP 4 5 none 0 0 []), encP (setP 7 6 (some ⟨b_35, 0, none⟩) 2 2 [2, 4])]) elt_22 rfl (.cons rfl (.cons rfl (.cons rfl (.cons rfl (.nil))))) rfl (by simp [encI_len, encP_len, encG_len, encC_len]) (by decide) (by decide) rfl rfl (fun b_37 => ?_)
        refine XO_nil ?_
        refine at_D hD (by repeat (first | exact .refl | exact subL_nil | refine .keep ?_ | refine .drop ?_ | refine subL_add ?_)) ?_
        refine XD_take 6 rfl (ev_assign rfl) (.none rfl) rfl rfl rfl (by kernel_rfl) (by kernel_rfl) (by kernel_rfl) noP_ok hD (by repeat (first | exact .refl | exact subL_nil | refine .keep ?_ | refine .drop ?_ | refine subL_add ?_)) ?_
        refine XD_done (by kernel_rfl) ?_
        refine at_noP ?_
        exact at_met2 _ _ ⟨b_35, b_37, rfl, rfl, rfl⟩ (.cons rfl (.cons rfl .nil)) (by repeat (first | exact .refl | exact subL_left | refine subL_app ?_ | refine .drop ?_ | refine subL_add ?_))
    · skip
      refine XO_buildSlice (ps := [(0, _), (1, _)]) (m := [encI 2, encI 4]) elt_23 rfl (.cons rfl (.cons rfl (.nil))) rfl (by simp [encI_len, encP_len, encG_len, encC_len]) (by decide) (by decide) rfl rfl (fun b_35 => ?_)
      refine XO_nil ?_
      refine at_D hD (by repeat (first | exact .refl | exact subL_nil | refine .keep ?_ | refine .drop ?_ | refine subL_add ?_)) ?_
      refine XD_one 0 rfl (by kernel_rfl) ?_
      refine XO_callV0 (cap := []) (vs := [_, _, _]) rfl rfl fun_21 (w_lset _ 2 3 none 0 0 []) rfl rfl ?_
      refine XO_nil ?_
      refine at_D hD (by repeat (first | exact .refl | exact subL_nil | refine .keep ?_ | refine .drop ?_ | refine subL_add ?_)) ?_
      refine XD_one 2 rfl (by kernel_rfl) ?_
      refine XO_callV0 (cap := []) (vs := [_, _, _]) rfl rfl fun_21 (w_lset _ 4 5 none 0 0 []) rfl rfl ?_
      refine XO_nil ?_
      refine at_D hD (by repeat (first | exact .refl | exact subL_nil | refine .keep ?_ | refine .drop ?_ | refine subL_add ?_)) ?_
      refine XD_one 4 rfl (by kernel_rfl) ?_
      refine XO_callV0 (cap := []) (vs := [_, _, _]) rfl rfl fun_21 (w_lset _ 7 6 _ _ _ [2, 4]) rfl rfl ?_
      refine XO_nil ?_
      refine at_D hD (by repeat (first | exact .refl | exact subL_nil | refine .keep ?_ | refine .drop ?_ | refine subL_add ?_)) ?_
      refine XD_one 5 rfl (by kernel_rfl) ?_
      refine XO_buildSlice (ps := [(0, _), (1, _), (2, _), (3, _)]) (m := [encP (setP 2 3 none 0 0 []), encP sizeP, encP (setP 4 5 none 0 0 []), encP (setP 7 6 (some ⟨b_35, 0, none⟩) 2 2 [2, 4])]) elt_22 rfl (.cons rfl (.cons rfl (.cons rfl (.cons rfl (.nil))))) rfl (by simp [encI_len, encP_len, encG_len, encC_len]) (by decide) (by decide) rfl rfl (fun b_37 => ?_)
      refine XO_nil ?_
      refine at_D hD (by repeat (first | exact .refl | exact subL_nil | refine .keep ?_ | refine .drop ?_ | refine subL_add ?_)) ?_
      refine XD_take 6 rfl (ev_assign rfl) (.none rfl) rfl rfl rfl (by kernel_rfl) (by kernel_rfl) (by kernel_rfl) noP_ok hD (by repeat (first | exact .refl | exact subL_nil | refine .keep ?_ | refine .drop ?_ | refine subL_add ?_)) ?_
      refine XD_done (by kernel_rfl) ?_
      refine at_noP ?_
      exact at_met2 _ _ ⟨b_35, b_37, rfl, rfl, rfl⟩ (.cons rfl (.cons rfl .nil)) (by repeat (first | exact .refl | exact subL_left | refine subL_app ?_ | refine .drop ?_ | refine subL_add ?_))
  · rintro E I' loc' ⟨b35, b37, rfl, rfl, rfl⟩
    refine X_seq ?_
    refine X_freeze .here (fun I3 hI3 hb3 => ?_)
    have hB := hB.mono hI3
    have hIc := hIc.trans hI3
    have hbP := hb3
    refine X_freeze .here (fun I4 hI4 hb4 => ?_)
    have hB := hB.mono hI4
    have hIc := hIc.trans hI4
    have hbN := hb4
    have hNs : Sl I4 1 encI (some ⟨b35, 0, none⟩) 2 2 [2, 4] := Sl.lit _ rfl encI_len hbN
    have hP : SlP I4 (some ⟨b37, 0, none⟩) 4 4 (stR (some ⟨b35, 0, none⟩)) := stR_sl (hI4 _ _ hbP) hNs
    refine X_region ?_
    refine XO_v0 (ev_move rfl) rfl rfl rfl ?_
    refine XO_v0 (ev_indexSl rfl rfl slt_39 (by assumption) (fun hg => by decide)) rfl rfl rfl ?_
    refine XO_v0 (ev_loadA rfl agt_35 (fun hg => by first | exact Sl.getA (k := 0) (x := g1) hB rfl | exact Cells.g0 | exact Cells.g1 | exact Cells.g2 | exact Cells.g3 | exact Cells.g4 | exact Cells.g5 | exact Cells.s0 (vs := [_, _, _, _, _, _, _, _, _, _, _, _, _, _]) rfl | exact Cells.s1 (vs := [_, _, _, _, _, _, _, _, _, _, _, _, _, _]) rfl | exact Cells.s2 (vs := [_, _, _, _, _, _, _, _, _, _, _, _, _, _]) rfl | exact Cells.s3 (vs := [_, _, _, _, _, _, _, _, _, _, _, _, _, _]) rfl | exact Cells.s4 (vs := [_, _, _, _, _, _, _, _, _, _, _, _, _, _]) rfl | exact Cells.s5 (vs := [_, _, _, _, _, _, _, _, _, _, _, _, _, _]) rfl | (repeat (first | exact Cells.here | apply Cells.there | apply Cells.app))) rfl) rfl rfl rfl ?_
    refine XO_alloc zt_35 rfl rfl (fun b_4 => ?_)
    refine XO_storeA rfl rfl szt_35 rfl rfl rfl rfl (by first | exact Upd.u0 | exact Upd.u1 | exact Upd.u2 | exact Upd.u3 | exact Upd.u4 | exact Upd.u5 | (repeat (first | exact Upd.here | apply Upd.there | apply upd_app))) ?_
    refine XO_nil ?_
    refine at_then ?_
    refine X_seq ?_
    refine X_region ?_
    refine XO_v0 (ev_fieldAddr rfl fld_35_6) rfl rfl rfl ?_
    refine XO_store rfl rfl szt_3 rfl rfl (by first | exact Upd.u0 | exact Upd.u1 | exact Upd.u2 | exact Upd.u3 | exact Upd.u4 | exact Upd.u5 | (repeat (first | exact Upd.here | apply Upd.there | apply upd_app))) rfl ?_
    refine XO_v0 (ev_fieldAddr rfl fld_35_8) rfl rfl rfl ?_
    refine XO_store rfl rfl szt_3 rfl rfl (by first | exact Upd.u0 | exact Upd.u1 | exact Upd.u2 | exact Upd.u3 | exact Upd.u4 | exact Upd.u5 | (repeat (first | exact Upd.here | apply Upd.there | apply upd_app))) rfl ?_
    refine XO_nil ?_
    refine at_then ?_
    refine X_seq ?_
    refine X_region ?_
    refine XO_v0 (ev_loadA rfl agt_35 (fun hg => by first | exact Sl.getA (k := 0) (x := g1) hB rfl | exact Cells.g0 | exact Cells.g1 | exact Cells.g2 | exact Cells.g3 | exact Cells.g4 | exact Cells.g5 | exact Cells.s0 (vs := [_, _, _, _, _, _, _, _, _, _, _, _, _, _]) rfl | exact Cells.s1 (vs := [_, _, _, _, _, _, _, _, _, _, _, _, _, _]) rfl | exact Cells.s2 (vs := [_, _, _, _, _, _, _, _, _, _, _, _, _, _]) rfl | exact Cells.s3 (vs := [_, _, _, _, _, _, _, _, _, _, _, _, _, _]) rfl | exact Cells.s4 (vs := [_, _, _, _, _, _, _, _, _, _, _, _, _, _]) rfl | exact Cells.s5 (vs := [_, _, _, _, _, _, _, _, _, _, _, _, _, _]) rfl | (repeat (first | exact Cells.here | apply Cells.there | apply Cells.app))) rfl) rfl rfl rfl ?_
    refine XO_alloc zt_35 rfl rfl (fun b_5 => ?_)
    refine XO_storeA rfl rfl szt_35 rfl rfl rfl rfl (by first | exact Upd.u0 | exact Upd.u1 | exact Upd.u2 | exact Upd.u3 | exact Upd.u4 | exact Upd.u5 | (repeat (first | exact Upd.here | apply Upd.there | apply upd_app))) ?_
    refine XO_nil ?_
    refine at_then ?_
    refine X_seq ?_
    refine X_region ?_
    refine XO_v0 (ev_fieldAddr rfl fld_35_6) rfl rfl rfl ?_
    refine XO_store rfl rfl szt_3 rfl rfl (by first | exact Upd.u0 | exact Upd.u1 | exact Upd.u2 | exact Upd.u3 | exact Upd.u4 | exact Upd.u5 | (repeat (first | exact Upd.here | apply Upd.there | apply upd_app))) rfl ?_
    refine XO_nil ?_
    refine at_then ?_
    refine X_seq ?_
    refine X_region ?_
    refine XO_v0 (ev_move rfl) rfl rfl rfl ?_
    refine XO_buildSlice (ps := [(0, _)]) (m := [encI 7]) elt_23 rfl (.cons rfl (.nil)) rfl (by simp [encI_len, encP_len, encG_len, encC_len]) (by decide) (by decide) rfl rfl (fun b_47 => ?_)
    refine XO_freeze .here (fun I5 hI5 hb5 => ?_)
    have hB := hB.mono hI5
    have hP := hP.mono hI5
    have hIc := hIc.trans hI5
    have h7 := Sl.lit ([7] : List Int) rfl encI_len (show _ = some (Obj.cells (([7] : List Int).flatMap encI).toArray 3 (0, 0)) from hb5)
    refine XO_callM (cap := []) (vs := [_, _]) rfl rfl fun_10 .nil (s_clo1 hP h7) rfl rfl ?_
    rintro vv6 I6 L6 hI6 ⟨rfl, a6, c6, rfl, hV⟩
    have hB := hB.mono hI6
    have hP := hP.mono hI6
    have h7 := h7.mono hI6
    have hIc := hIc.trans hI6
    refine XO_v0 (ev_move rfl) rfl rfl rfl ?_
    refine XO_v0 (ev_extract rfl rfl) rfl rfl rfl ?_
    refine XO_v0 (ev_extract rfl rfl) rfl rfl rfl ?_
    refine XO_v0 (ev_assign rfl) rfl rfl rfl ?_
    refine XO_v0 (ev_assign rfl) rfl rfl rfl ?_
    refine XO_nil ?_
    refine at_then ?_
    refine X_seq ?_
    refine X_region ?_
    refine XO_v0 (ev_move rfl) rfl rfl rfl ?_
    refine XO_buildSlice (ps := [(0, _)]) (m := [encI 2]) elt_23 rfl (.cons rfl (.nil)) rfl (by simp [encI_len, encP_len, encG_len, encC_len]) (by decide) (by decide) rfl rfl (fun b_53 => ?_)
    refine XO_freeze .here (fun I7 hI7 hb7 => ?_)
    have hB := hB.mono hI7
    have hP := hP.mono hI7
    have h7 := h7.mono hI7
    have hV := hV.mono hI7
    have hIc := hIc.trans hI7
    have h2 := Sl.lit ([2] : List Int) rfl encI_len (show _ = some (Obj.cells (([2] : List Int).flatMap encI).toArray 3 (0, 0)) from hb7)
    refine XO_buildSlice (ps := [(0, _)]) (m := [encI 3]) elt_23 rfl (.cons rfl (.nil)) rfl (by simp [encI_len, encP_len, encG_len, encC_len]) (by decide) (by decide) rfl rfl (fun b_54 => ?_)
    refine XO_freeze .here (fun I8 hI8 hb8 => ?_)
    have hB := hB.mono hI8
    have hP := hP.mono hI8
    have h7 := h7.mono hI8
    have hV := hV.mono hI8
    have h2 := h2.mono hI8
    have hIc := hIc.trans hI8
    have h3 := Sl.lit ([3] : List Int) rfl encI_len (show _ = some (Obj.cells (([3] : List Int).flatMap encI).toArray 3 (0, 0)) from hb8)
    refine XO_callM (cap := []) (vs := [_, _, _]) rfl rfl fun_11 .nil (s_mrg hP h2 h3) rfl rfl ?_
    rintro vv9 I9 L9 hI9 ⟨rfl, a9, c9, rfl, hM⟩
    have hB := hB.mono hI9
    have hP := hP.mono hI9
    have h7 := h7.mono hI9
    have hV := hV.mono hI9
    have h2 := h2.mono hI9
    have h3 := h3.mono hI9
    have hIc := hIc.trans hI9
    refine XO_v0 (ev_move rfl) rfl rfl rfl ?_
    refine XO_v0 (ev_extract rfl rfl) rfl rfl rfl ?_
    refine XO_v0 (ev_extract rfl rfl) rfl rfl rfl ?_
    refine XO_v0 (ev_assign rfl) rfl rfl rfl ?_
    refine XO_v0 (ev_assign rfl) rfl rfl rfl ?_
    refine XO_nil ?_
    refine at_then ?_
    refine X_seq ?_
    refine X_region ?_
    refine XO_v0 (ev_move rfl) rfl rfl rfl ?_
    refine XO_v0 (ev_move rfl) rfl rfl rfl ?_
    refine XO_v0 (ev_move rfl) rfl rfl rfl ?_
    refine XO_callM (cap := []) (vs := [_, _, _]) rfl rfl fun_15 .nil (s_sg1 hP hB hM) rfl rfl ?_
    rintro vv10 I10 L10 hI10 ⟨rfl, a10, c10, rfl, hG1⟩
    have hB := hB.mono hI10
    have hP := hP.mono hI10
    have h7 := h7.mono hI10
    have hV := hV.mono hI10
    have h2 := h2.mono hI10
    have h3 := h3.mono hI10
    have hM := hM.mono hI10
    have hIc := hIc.trans hI10
    refine XO_v0 (ev_move rfl) rfl rfl rfl ?_
    refine XO_v0 (ev_extract rfl rfl) rfl rfl rfl ?_
    refine XO_v0 (ev_extract rfl rfl) rfl rfl rfl ?_
    refine XO_v0 (ev_assign rfl) rfl rfl rfl ?_
    refine XO_v0 (ev_assign rfl) rfl rfl rfl ?_
    refine XO_nil ?_
    refine at_then ?_
    refine X_seq ?_
    refine X_region ?_
    refine XO_v0 (ev_move rfl) rfl rfl rfl ?_
    refine XO_v0 (ev_move rfl) rfl rfl rfl ?_
    refine XO_v0 (ev_move rfl) rfl rfl rfl ?_
    refine XO_callM (cap := []) (vs := [_, _, _]) rfl rfl fun_14 .nil (s_cf1 hP hB hM) rfl rfl ?_
    rintro vv11 I11 L11 hI11 ⟨rfl, cs1, a11, c11, rfl, hC1, hk1⟩
    have hB := hB.mono hI11
    have hP := hP.mono hI11
    have h7 := h7.mono hI11
    have hV := hV.mono hI11
    have h2 := h2.mono hI11
    have h3 := h3.mono hI11
    have hM := hM.mono hI11
    have hG1 := hG1.mono hI11
    have hIc := hIc.trans hI11
    have hz11 := List.map_eq_nil_iff.1 hk1
    subst hz11
    refine XO_v0 (ev_move rfl) rfl rfl rfl ?_
    refine XO_v0 (ev_extract rfl rfl) rfl rfl rfl ?_
    refine XO_v0 (ev_extract rfl rfl) rfl rfl rfl ?_
    refine XO_v0 (ev_assign rfl) rfl rfl rfl ?_
    refine XO_v0 (ev_assign rfl) rfl rfl rfl ?_
    refine XO_nil ?_
    refine at_then ?_
    refine X_seq ?_
    refine X_region ?_
    refine XO_v0 (ev_move rfl) rfl rfl rfl ?_
    refine XO_v0 (ev_move rfl) rfl rfl rfl ?_
    refine XO_buildSlice (ps := [(0, _), (1, _), (2, _)]) (m := [encI 2, encI 3, encI 4]) elt_23 rfl (.cons rfl (.cons rfl (.cons rfl (.nil)))) rfl (by simp [encI_len, encP_len, encG_len, encC_len]) (by decide) (by decide) rfl rfl (fun b_75 => ?_)
    refine XO_freeze .here (fun I12 hI12 hb12 => ?_)
    have hB := hB.mono hI12
    have hP := hP.mono hI12
    have h7 := h7.mono hI12
    have hV := hV.mono hI12
    have h2 := h2.mono hI12
    have h3 := h3.mono hI12
    have hM := hM.mono hI12
    have hG1 := hG1.mono hI12
    have hIc := hIc.trans hI12
    have h234 := Sl.lit ([2, 3, 4] : List Int) rfl encI_len (show _ = some (Obj.cells (([2, 3, 4] : List Int).flatMap encI).toArray 3 (0, 0)) from hb12)
    refine XO_callM (cap := []) (vs := [_, _, _]) rfl rfl fun_14 .nil (s_cf2 hP hB h234) rfl rfl ?_
    rintro vv13 I13 L13 hI13 ⟨rfl, cs2, a13, c13, rfl, hC2, hk2⟩
    have hB := hB.mono hI13
    have hP := hP.mono hI13
    have h7 := h7.mono hI13
    have hV := hV.mono hI13
    have h2 := h2.mono hI13
    have h3 := h3.mono hI13
    have hM := hM.mono hI13
    have hG1 := hG1.mono hI13
    have h234 := h234.mono hI13
    have hIc := hIc.trans hI13
    refine XO_v0 (ev_move rfl) rfl rfl rfl ?_
    refine XO_v0 (ev_extract rfl rfl) rfl rfl rfl ?_
    refine XO_v0 (ev_extract rfl rfl) rfl rfl rfl ?_
    refine XO_v0 (ev_assign rfl) rfl rfl rfl ?_
    refine XO_v0 (ev_assign rfl) rfl rfl rfl ?_
    refine XO_nil ?_
    refine at_then ?_
    refine X_seq ?_
    refine X_region ?_
    refine XO_v0 (ev_move rfl) rfl rfl rfl ?_
    refine XO_v0 (ev_move rfl) rfl rfl rfl ?_
    refine XO_buildSlice (ps := [(0, _), (1, _), (2, _), (3, _)]) (m := [encI 2, encI 3, encI 4, encI 7]) elt_23 rfl (.cons rfl (.cons rfl (.cons rfl (.cons rfl (.nil))))) rfl (by simp [encI_len, encP_len, encG_len, encC_len]) (by decide) (by decide) rfl rfl (fun b_82 => ?_)
    refine XO_freeze .here (fun I14 hI14 hb14 => ?_)
    have hB := hB.mono hI14
    have hP := hP.mono hI14
    have h7 := h7.mono hI14
    have hV := hV.mono hI14
    have h2 := h2.mono hI14
    have h3 := h3.mono hI14
    have hM := hM.mono hI14
    have hG1 := hG1.mono hI14
    have h234 := h234.mono hI14
    have hC2 := hC2.mono hI14
    have hIc := hIc.trans hI14
    have h2347 := Sl.lit ([2, 3, 4, 7] : List Int) rfl encI_len (show _ = some (Obj.cells (([2, 3, 4, 7] : List Int).flatMap encI).toArray 3 (0, 0)) from hb14)
    refine XO_callM (cap := []) (vs := [_, _, _]) rfl rfl fun_15 .nil (s_sg2 hP hB h2347) rfl rfl ?_
    rintro vv15 I15 L15 hI15 ⟨rfl, a15, c15, rfl, hG2⟩
    have hB := hB.mono hI15
    have hP := hP.mono hI15
    have h7 := h7.mono hI15
    have hV := hV.mono hI15
    have h2 := h2.mono hI15
    have h3 := h3.mono hI15
    have hM := hM.mono hI15
    have hG1 := hG1.mono hI15
    have h234 := h234.mono hI15
    have hC2 := hC2.mono hI15
    have h2347 := h2347.mono hI15
    have hIc := hIc.trans hI15
    refine XO_v0 (ev_move rfl) rfl rfl rfl ?_
    refine XO_v0 (ev_extract rfl rfl) rfl rfl rfl ?_
    refine XO_v0 (ev_extract rfl rfl) rfl rfl rfl ?_
    refine XO_v0 (ev_assign rfl) rfl rfl rfl ?_
    refine XO_v0 (ev_assign rfl) rfl rfl rfl ?_
    refine XO_nil ?_
    refine at_then ?_
    refine X_seq ?_
    refine X_region ?_
    refine XO_v0 (ev_move rfl) rfl rfl rfl ?_
    refine XO_v0 (ev_move rfl) rfl rfl rfl ?_
    refine XO_buildSlice (ps := [(0, _), (1, _), (2, _), (3, _)]) (m := [encI 2, encI 3, encI 4, encI 7]) elt_23 rfl (.cons rfl (.cons rfl (.cons rfl (.cons rfl (.nil))))) rfl (by simp [encI_len, encP_len, encG_len, encC_len]) (by decide) (by decide) rfl rfl (fun b_89 => ?_)
    refine XO_freeze .here (fun I16 hI16 hb16 => ?_)
    have hB := hB.mono hI16
    have hP := hP.mono hI16
    have h7 := h7.mono hI16
    have hV := hV.mono hI16
    have h2 := h2.mono hI16
    have h3 := h3.mono hI16
    have hM := hM.mono hI16
    have hG1 := hG1.mono hI16
    have h234 := h234.mono hI16
    have hC2 := hC2.mono hI16
    have h2347 := h2347.mono hI16
    have hG2 := hG2.mono hI16
    have hIc := hIc.trans hI16
    have h2347b := Sl.lit ([2, 3, 4, 7] : List Int) rfl encI_len (show _ = some (Obj.cells (([2, 3, 4, 7] : List Int).flatMap encI).toArray 3 (0, 0)) from hb16)
    refine XO_callM (cap := []) (vs := [_, _, _]) rfl rfl fun_14 .nil (s_cf3 hP hB h2347b) rfl rfl ?_
    rintro vv17 I17 L17 hI17 ⟨rfl, cs3, a17, c17, rfl, hC3, hk3⟩
    have hB := hB.mono hI17
    have hP := hP.mono hI17
    have h7 := h7.mono hI17
    have hV := hV.mono hI17
    have h2 := h2.mono hI17
    have h3 := h3.mono hI17
    have hM := hM.mono hI17
    have hG1 := hG1.mono hI17
    have h234 := h234.mono hI17
    have hC2 := hC2.mono hI17
    have h2347 := h2347.mono hI17
    have hG2 := hG2.mono hI17
    have h2347b := h2347b.mono hI17
    have hIc := hIc.trans hI17
    have hz17 := List.map_eq_nil_iff.1 hk3
    subst hz17
    refine XO_v0 (ev_move rfl) rfl rfl rfl ?_
    refine XO_v0 (ev_extract rfl rfl) rfl rfl rfl ?_
    refine XO_v0 (ev_extract rfl rfl) rfl rfl rfl ?_
    refine XO_v0 (ev_assign rfl) rfl rfl rfl ?_
    refine XO_v0 (ev_assign rfl) rfl rfl rfl ?_
    refine XO_nil ?_
    refine at_then ?_
    refine X_seq ?_
    refine X_region ?_
    refine XO_buildSlice (ps := [(0, _)]) (m := [encI 1]) elt_23 rfl (.cons rfl (.nil)) rfl (by simp [encI_len, encP_len, encG_len, encC_len]) (by decide) (by decide) rfl rfl (fun b_94 => ?_)
    refine XO_freeze .here (fun I18 hI18 hb18 => ?_)
    have hB := hB.mono hI18
    have hP := hP.mono hI18
    have h7 := h7.mono hI18
    have hV := hV.mono hI18
    have h2 := h2.mono hI18
    have h3 := h3.mono hI18
    have hM := hM.mono hI18
    have hG1 := hG1.mono hI18
    have h234 := h234.mono hI18
    have hC2 := hC2.mono hI18
    have h2347 := h2347.mono hI18
    have hG2 := hG2.mono hI18
    have h2347b := h2347b.mono hI18
    have hIc := hIc.trans hI18
    have h1 := Sl.lit ([1] : List Int) rfl encI_len (show _ = some (Obj.cells (([1] : List Int).flatMap encI).toArray 3 (0, 0)) from hb18)
    refine XO_callM (cap := []) (vs := [_, _]) rfl rfl fun_10 .nil (s_clo2 SlP.nil h1) rfl rfl ?_
    rintro vv19 I19 L19 hI19 ⟨rfl, a19, c19, rfl, hV2⟩
    have hB := hB.mono hI19
    have hP := hP.mono hI19
    have h7 := h7.mono hI19
    have hV := hV.mono hI19
    have h2 := h2.mono hI19
    have h3 := h3.mono hI19
    have hM := hM.mono hI19
    have hG1 := hG1.mono hI19
    have h234 := h234.mono hI19
    have hC2 := hC2.mono hI19
    have h2347 := h2347.mono hI19
    have hG2 := hG2.mono hI19
    have h2347b := h2347b.mono hI19
    have h1 := h1.mono hI19
    have hIc := hIc.trans hI19
    refine XO_v0 (ev_move rfl) rfl rfl rfl ?_
    refine XO_v0 (ev_extract rfl rfl) rfl rfl rfl ?_
    refine XO_v0 (ev_extract rfl rfl) rfl rfl rfl ?_
    refine XO_v0 (ev_assign rfl) rfl rfl rfl ?_
    refine XO_v0 (ev_assign rfl) rfl rfl rfl ?_
    refine XO_nil ?_
    refine at_then ?_
    refine X_seq ?_
    refine X_region ?_
    refine XO_v0 (ev_move rfl) rfl rfl rfl ?_
    refine XO_v0 (ev_move rfl) rfl rfl rfl ?_
    refine XO_buildSlice (ps := [(0, _)]) (m := [encI 7]) elt_23 rfl (.cons rfl (.nil)) rfl (by simp [encI_len, encP_len, encG_len, encC_len]) (by decide) (by decide) rfl rfl (fun b_101 => ?_)
    refine XO_freeze .here (fun I20 hI20 hb20 => ?_)
    have hB := hB.mono hI20
    have hP := hP.mono hI20
    have h7 := h7.mono hI20
    have hV := hV.mono hI20
    have h2 := h2.mono hI20
    have h3 := h3.mono hI20
    have hM := hM.mono hI20
    have hG1 := hG1.mono hI20
    have h234 := h234.mono hI20
    have hC2 := hC2.mono hI20
    have h2347 := h2347.mono hI20
    have hG2 := hG2.mono hI20
    have h2347b := h2347b.mono hI20
    have h1 := h1.mono hI20
    have hIc := hIc.trans hI20
    have h7b := Sl.lit ([7] : List Int) rfl encI_len (show _ = some (Obj.cells (([7] : List Int).flatMap encI).toArray 3 (0, 0)) from hb20)
    refine XO_callM (cap := []) (vs := [_, _, _]) rfl rfl fun_15 .nil (s_sg3 hP hB h7b) rfl rfl ?_
    rintro vv21 I21 L21 hI21 ⟨rfl, a21, c21, rfl, hG3⟩
    have hB := hB.mono hI21
    have hP := hP.mono hI21
    have h7 := h7.mono hI21
    have hV := hV.mono hI21
    have h2 := h2.mono hI21
    have h3 := h3.mono hI21
    have hM := hM.mono hI21
    have hG1 := hG1.mono hI21
    have h234 := h234.mono hI21
    have hC2 := hC2.mono hI21
    have h2347 := h2347.mono hI21
    have hG2 := hG2.mono hI21
    have h2347b := h2347b.mono hI21
    have h1 := h1.mono hI21
    have h7b := h7b.mono hI21
    have hIc := hIc.trans hI21
    refine XO_v0 (ev_move rfl) rfl rfl rfl ?_
    refine XO_v0 (ev_extract rfl rfl) rfl rfl rfl ?_
    refine XO_v0 (ev_extract rfl rfl) rfl rfl rfl ?_
    refine XO_v0 (ev_assign rfl) rfl rfl rfl ?_
    refine XO_v0 (ev_assign rfl) rfl rfl rfl ?_
    refine XO_nil ?_
    refine at_then ?_
    refine X_seq ?_
    refine X_region ?_
    refine XO_v0 (ev_move rfl) rfl rfl rfl ?_
    refine XO_callM (cap := []) (vs := [_, _, _]) rfl rfl fun_15 .nil (s_sg4 SlP.nil hB .nil) rfl rfl ?_
    rintro vv22 I22 L22 hI22 ⟨rfl, a22, c22, rfl, hG4⟩
    have hB := hB.mono hI22
    have hP := hP.mono hI22
    have h7 := h7.mono hI22
    have hV := hV.mono hI22
    have h2 := h2.mono hI22
    have h3 := h3.mono hI22
    have hM := hM.mono hI22
    have hG1 := hG1.mono hI22
    have h234 := h234.mono hI22
    have hC2 := hC2.mono hI22
    have h2347 := h2347.mono hI22
    have hG2 := hG2.mono hI22
    have h2347b := h2347b.mono hI22
    have h1 := h1.mono hI22
    have h7b := h7b.mono hI22
    have hIc := hIc.trans hI22
    refine XO_v0 (ev_move rfl) rfl rfl rfl ?_
    refine XO_v0 (ev_extract rfl rfl) rfl rfl rfl ?_
    refine XO_v0 (ev_extract rfl rfl) rfl rfl rfl ?_
    refine XO_v0 (ev_assign rfl) rfl rfl rfl ?_
    refine XO_v0 (ev_assign rfl) rfl rfl rfl ?_
    refine XO_nil ?_
    refine at_then ?_
    refine X_seq ?_
    refine X_seq ?_
    refine X_region ?_
    refine XO_v0 (ev_move rfl) rfl rfl rfl ?_
    refine XO_v0 (ev_cmp rfl rfl rfl) rfl rfl rfl ?_
    refine XO_v0 (ev_move rfl) rfl rfl rfl ?_
    refine XO_want (dj := 112) rfl rfl rfl ?_
    refine XO_v0 (ev_move rfl) rfl rfl rfl ?_
    refine XO_want (dj := 112) rfl rfl rfl ?_
    refine XO_v0 (ev_cmp rfl rfl rfl) rfl rfl rfl ?_
    refine XO_v0 (ev_pickb rfl rfl rfl) rfl rfl rfl ?_
    refine XO_v0 (ev_move rfl) rfl rfl rfl ?_
    refine XO_want (dj := 116) rfl rfl rfl ?_
    refine XO_v0 (ev_move rfl) rfl rfl rfl ?_
    refine XO_want (dj := 116) rfl rfl rfl ?_
    refine XO_v0 (ev_cmp rfl rfl rfl) rfl rfl rfl ?_
    refine XO_v0 (ev_pickb rfl rfl rfl) rfl rfl rfl ?_
    refine XO_v0 (ev_move rfl) rfl rfl rfl ?_
    refine XO_want (dj := 120) rfl rfl rfl ?_
    refine XO_v0 (ev_move rfl) rfl rfl rfl ?_
    refine XO_want (dj := 120) rfl rfl rfl ?_
    refine XO_v0 (ev_cmp rfl rfl rfl) rfl rfl rfl ?_
    refine XO_v0 (ev_pickb rfl rfl rfl) rfl rfl rfl ?_
    refine XO_v0 (ev_move rfl) rfl rfl rfl ?_
    refine XO_want (dj := 124) rfl rfl rfl ?_
    refine XO_v0 (ev_move rfl) rfl rfl rfl ?_
    refine XO_want (dj := 124) rfl rfl rfl ?_
    refine XO_v0 (ev_cmp rfl rfl rfl) rfl rfl rfl ?_
    refine XO_v0 (ev_pickb rfl rfl rfl) rfl rfl rfl ?_
    refine XO_v0 (ev_move rfl) rfl rfl rfl ?_
    refine XO_want (dj := 128) rfl rfl rfl ?_
    refine XO_v0 (ev_move rfl) rfl rfl rfl ?_
    refine XO_want (dj := 128) rfl rfl rfl ?_
    refine XO_v0 (ev_cmp rfl rfl rfl) rfl rfl rfl ?_
    refine XO_v0 (ev_pickb rfl rfl rfl) rfl rfl rfl ?_
    refine XO_v0 (ev_move rfl) rfl rfl rfl ?_
    refine XO_want (dj := 132) rfl rfl rfl ?_
    refine XO_v0 (ev_move rfl) rfl rfl rfl ?_
    refine XO_want (dj := 132) rfl rfl rfl ?_
    refine XO_v0 (ev_cmp rfl rfl rfl) rfl rfl rfl ?_
    refine XO_v0 (ev_pickb rfl rfl rfl) rfl rfl rfl ?_
    refine XO_v0 (ev_move rfl) rfl rfl rfl ?_
    refine XO_want (dj := 136) rfl rfl rfl ?_
    refine XO_v0 (ev_move rfl) rfl rfl rfl ?_
    refine XO_want (dj := 136) rfl rfl rfl ?_
    refine XO_v0 (ev_cmp rfl rfl rfl) rfl rfl rfl ?_
    refine XO_v0 (ev_pickb rfl rfl rfl) rfl rfl rfl ?_
    refine XO_v0 (ev_move rfl) rfl rfl rfl ?_
    refine XO_want (dj := 140) rfl rfl rfl ?_
    refine XO_v0 (ev_move rfl) rfl rfl rfl ?_
    refine XO_want (dj := 140) rfl rfl rfl ?_
    refine XO_v0 (ev_cmp rfl rfl rfl) rfl rfl rfl ?_
    refine XO_v0 (ev_pickb rfl rfl rfl) rfl rfl rfl ?_
    refine XO_v0 (ev_move rfl) rfl rfl rfl ?_
    refine XO_want (dj := 144) rfl rfl rfl ?_
    refine XO_v0 (ev_move rfl) rfl rfl rfl ?_
    refine XO_want (dj := 144) rfl rfl rfl ?_
    refine XO_v0 (ev_cmp rfl rfl rfl) rfl rfl rfl ?_
    refine XO_v0 (ev_pickb rfl rfl rfl) rfl rfl rfl ?_
    refine XO_nil ?_
    refine at_then ?_
    refine X_cond rfl (fun hc147 => ?_) (fun hc147 => ?_)
    · skip
      exact absurd hc147 (by decide)
    · skip
      refine X_skip ?_
      refine at_then ?_
      refine X_seq ?_
      refine X_seq ?_
      refine X_region ?_
      refine XO_callV0 (cap := []) (vs := [_]) rfl rfl fun_9 (s_chk0 SlP.nil) rfl rfl ?_
      refine XO_v0 (ev_cmp rfl rfl rfl) rfl rfl rfl ?_
      refine XO_v0 (ev_move rfl) rfl rfl rfl ?_
      refine XO_want (dj := 150) rfl rfl rfl ?_
      refine XO_v0 (ev_move rfl) rfl rfl rfl ?_
      refine XO_want (dj := 150) rfl rfl rfl ?_
      refine XO_callV0 (cap := []) (vs := [_]) rfl rfl fun_9 (s_chk1 hP) rfl rfl ?_
      refine XO_want (dj := 150) rfl rfl rfl ?_
      refine XO_v0 (ev_cmp rfl rfl rfl) rfl rfl rfl ?_
      refine XO_v0 (ev_pickb rfl rfl rfl) rfl rfl rfl ?_
      refine XO_v0 (ev_move rfl) rfl rfl rfl ?_
      refine XO_want (dj := 155) rfl rfl rfl ?_
      refine XO_buildSlice (ps := [(0, _)]) (m := [encI 1]) elt_23 rfl (.cons rfl (.nil)) rfl (by simp [encI_len, encP_len, encG_len, encC_len]) (by decide) (by decide) rfl rfl (fun b_156 => ?_)
      refine XO_freeze .here (fun I23 hI23 hb23 => ?_)
      have hB := hB.mono hI23
      have hP := hP.mono hI23
      have h7 := h7.mono hI23
      have hV := hV.mono hI23
      have h2 := h2.mono hI23
      have h3 := h3.mono hI23
      have hM := hM.mono hI23
      have hG1 := hG1.mono hI23
      have h234 := h234.mono hI23
      have hC2 := hC2.mono hI23
      have h2347 := h2347.mono hI23
      have hG2 := hG2.mono hI23
      have h2347b := h2347b.mono hI23
      have h1 := h1.mono hI23
      have h7b := h7b.mono hI23
      have hG4 := hG4.mono hI23
      have hIc := hIc.trans hI23
      have h1b := Sl.lit ([1] : List Int) rfl encI_len (show _ = some (Obj.cells (([1] : List Int).flatMap encI).toArray 3 (0, 0)) from hb23)
      refine XO_want (dj := 155) rfl rfl rfl ?_
      refine XO_callV0 (cap := []) (vs := [_, _, _]) rfl rfl fun_21 (w_lset _ 2 3 _ _ _ [1]) rfl rfl ?_
      refine XO_want (dj := 155) rfl rfl rfl ?_
      refine XO_buildSlice (ps := [(0, _)]) (m := [encP (setP 2 3 (some ⟨b_156, 0, none⟩) 1 1 [1])]) elt_22 rfl (.cons rfl (.nil)) rfl (by simp [encI_len, encP_len, encG_len, encC_len]) (by decide) (by decide) rfl rfl (fun b_158 => ?_)
      refine XO_freeze .here (fun I24 hI24 hb24 => ?_)
      have hB := hB.mono hI24
      have hP := hP.mono hI24
      have h7 := h7.mono hI24
      have hV := hV.mono hI24
      have h2 := h2.mono hI24
      have h3 := h3.mono hI24
      have hM := hM.mono hI24
      have hG1 := hG1.mono hI24
      have h234 := h234.mono hI24
      have hC2 := hC2.mono hI24
      have h2347 := h2347.mono hI24
      have hG2 := hG2.mono hI24
      have h2347b := h2347b.mono hI24
      have h1 := h1.mono hI24
      have h7b := h7b.mono hI24
      have hG4 := hG4.mono hI24
      have h1b := h1b.mono hI24
      have hIc := hIc.trans hI24
      have hPb : SlP I24 _ 1 1 (stB (some ⟨b_156, 0, none⟩)) := stB_sl hb24 h1b
      refine XO_want (dj := 155) rfl rfl rfl ?_
      refine XO_callV0 (cap := []) (vs := [_]) rfl rfl fun_9 (s_chk2 hPb) rfl rfl ?_
      refine XO_want (dj := 155) rfl rfl rfl ?_
      refine XO_v0 (ev_cmp rfl rfl rfl) rfl rfl rfl ?_
      refine XO_v0 (ev_pickb rfl rfl rfl) rfl rfl rfl ?_
      refine XO_nil ?_
      refine at_then ?_
      refine X_cond rfl (fun hc161 => ?_) (fun hc161 => ?_)
      · skip
        exact absurd hc161 (by decide)
      · skip
        refine X_skip ?_
        refine at_then ?_
        refine X_seq ?_
        refine X_seq ?_
        refine X_region ?_
        refine XO_v0 (ev_move rfl) rfl rfl rfl ?_
        refine XO_buildSlice (ps := [(0, _), (1, _), (2, _)]) (m := [encI 2, encI 4, encI 7]) elt_23 rfl (.cons rfl (.cons rfl (.cons rfl (.nil)))) rfl (by simp [encI_len, encP_len, encG_len, encC_len]) (by decide) (by decide) rfl rfl (fun b_163 => ?_)
        refine XO_freeze .here (fun I25 hI25 hb25 => ?_)
        have hB := hB.mono hI25
        have hP := hP.mono hI25
        have h7 := h7.mono hI25
        have hV := hV.mono hI25
        have h2 := h2.mono hI25
        have h3 := h3.mono hI25
        have hM := hM.mono hI25
        have hG1 := hG1.mono hI25
        have h234 := h234.mono hI25
        have hC2 := hC2.mono hI25
        have h2347 := h2347.mono hI25
        have hG2 := hG2.mono hI25
        have h2347b := h2347b.mono hI25
        have h1 := h1.mono hI25
        have h7b := h7b.mono hI25
        have hG4 := hG4.mono hI25
        have h1b := h1b.mono hI25
        have hPb := hPb.mono hI25
        have hIc := hIc.trans hI25
        have h247 := Sl.lit ([2, 4, 7] : List Int) rfl encI_len (show _ = some (Obj.cells (([2, 4, 7] : List Int).flatMap encI).toArray 3 (0, 0)) from hb25)
        refine XO_callV0 (cap := []) (vs := [_, _]) rfl rfl fun_12 (s_sameI hV h247 (by decide) rfl) rfl rfl ?_
        refine XO_v0 (ev_not rfl) rfl rfl rfl ?_
        refine XO_v0 (ev_move rfl) rfl rfl rfl ?_
        refine XO_want (dj := 166) rfl rfl rfl ?_
        refine XO_v0 (ev_move rfl) rfl rfl rfl ?_
        refine XO_want (dj := 166) rfl rfl rfl ?_
        refine XO_buildSlice (ps := [(0, _), (1, _)]) (m := [encI 2, encI 3]) elt_23 rfl (.cons rfl (.cons rfl (.nil))) rfl (by simp [encI_len, encP_len, encG_len, encC_len]) (by decide) (by decide) rfl rfl (fun b_168 => ?_)
        refine XO_freeze .here (fun I26 hI26 hb26 => ?_)
        have hB := hB.mono hI26
        have hP := hP.mono hI26
        have h7 := h7.mono hI26
        have hV := hV.mono hI26
        have h2 := h2.mono hI26
        have h3 := h3.mono hI26
        have hM := hM.mono hI26
        have hG1 := hG1.mono hI26
        have h234 := h234.mono hI26
        have hC2 := hC2.mono hI26
        have h2347 := h2347.mono hI26
        have hG2 := hG2.mono hI26
        have h2347b := h2347b.mono hI26
        have h1 := h1.mono hI26
        have h7b := h7b.mono hI26
        have hG4 := hG4.mono hI26
        have h1b := h1b.mono hI26
        have hPb := hPb.mono hI26
        have h247 := h247.mono hI26
        have hIc := hIc.trans hI26
        have h23 := Sl.lit ([2, 3] : List Int) rfl encI_len (show _ = some (Obj.cells (([2, 3] : List Int).flatMap encI).toArray 3 (0, 0)) from hb26)
        refine XO_want (dj := 166) rfl rfl rfl ?_
        refine XO_callV0 (cap := []) (vs := [_, _]) rfl rfl fun_12 (s_sameI hM h23 (by decide) rfl) rfl rfl ?_
        refine XO_want (dj := 166) rfl rfl rfl ?_
        refine XO_v0 (ev_not rfl) rfl rfl rfl ?_
        refine XO_v0 (ev_pickb rfl rfl rfl) rfl rfl rfl ?_
        refine XO_v0 (ev_move rfl) rfl rfl rfl ?_
        refine XO_want (dj := 172) rfl rfl rfl ?_
        refine XO_v0 (ev_move rfl) rfl rfl rfl ?_
        refine XO_want (dj := 172) rfl rfl rfl ?_
        refine XO_v0 (ev_lenS rfl slt_40) rfl rfl rfl ?_
        refine XO_want (dj := 172) rfl rfl rfl ?_
        refine XO_v0 (ev_cmp rfl rfl rfl) rfl rfl rfl ?_
        refine XO_v0 (ev_pickb rfl rfl rfl) rfl rfl rfl ?_
        refine XO_v0 (ev_move rfl) rfl rfl rfl ?_
        refine XO_want (dj := 177) rfl rfl rfl ?_
        refine XO_v0 (ev_move rfl) rfl rfl rfl ?_
        refine XO_want (dj := 177) rfl rfl rfl ?_
        refine XO_v0 (ev_lenS rfl slt_40) rfl rfl rfl ?_
        refine XO_want (dj := 177) rfl rfl rfl ?_
        refine XO_v0 (ev_cmp rfl rfl rfl) rfl rfl rfl ?_
        refine XO_v0 (ev_pickb rfl rfl rfl) rfl rfl rfl ?_
        refine XO_v0 (ev_move rfl) rfl rfl rfl ?_
        refine XO_want (dj := 182) rfl rfl rfl ?_
        refine XO_v0 (ev_move rfl) rfl rfl rfl ?_
        refine XO_want (dj := 182) rfl rfl rfl ?_
        refine XO_buildSlice (ps := [(0, _), (1, _)]) (m := [encI 2, encI 4]) elt_23 rfl (.cons rfl (.cons rfl (.nil))) rfl (by simp [encI_len, encP_len, encG_len, encC_len]) (by decide) (by decide) rfl rfl (fun b_184 => ?_)
        refine XO_freeze .here (fun I27 hI27 hb27 => ?_)
        have hB := hB.mono hI27
        have hP := hP.mono hI27
        have h7 := h7.mono hI27
        have hV := hV.mono hI27
        have h2 := h2.mono hI27
        have h3 := h3.mono hI27
        have hM := hM.mono hI27
        have hG1 := hG1.mono hI27
        have h234 := h234.mono hI27
        have hC2 := hC2.mono hI27
        have h2347 := h2347.mono hI27
        have hG2 := hG2.mono hI27
        have h2347b := h2347b.mono hI27
        have h1 := h1.mono hI27
        have h7b := h7b.mono hI27
        have hG4 := hG4.mono hI27
        have h1b := h1b.mono hI27
        have hPb := hPb.mono hI27
        have h247 := h247.mono hI27
        have h23 := h23.mono hI27
        have hIc := hIc.trans hI27
        have h24 := Sl.lit ([2, 4] : List Int) rfl encI_len (show _ = some (Obj.cells (([2, 4] : List Int).flatMap encI).toArray 3 (0, 0)) from hb27)
        refine XO_want (dj := 182) rfl rfl rfl ?_
        refine XO_v0 (ev_buildL (ps := [(0, _), (1, _), (2, _)]) [_, _, _] plt_44 rfl rfl) rfl rfl rfl ?_
        refine XO_want (dj := 182) rfl rfl rfl ?_
        refine XO_buildSlice (ps := [(0, _)]) (m := [encC ⟨1, 5, some ⟨b_184, 0, none⟩, 2, 2, [2, 4]⟩]) elt_40 rfl (.cons rfl (.nil)) rfl (by simp [encI_len, encP_len, encG_len, encC_len]) (by decide) (by decide) rfl rfl (fun b_186 => ?_)
        refine XO_freeze .here (fun I28 hI28 hb28 => ?_)
        have hB := hB.mono hI28
        have hP := hP.mono hI28
        have h7 := h7.mono hI28
        have hV := hV.mono hI28
        have h2 := h2.mono hI28
        have h3 := h3.mono hI28
        have hM := hM.mono hI28
        have hG1 := hG1.mono hI28
        have h234 := h234.mono hI28
        have hC2 := hC2.mono hI28
        have h2347 := h2347.mono hI28
        have hG2 := hG2.mono hI28
        have h2347b := h2347b.mono hI28
        have h1 := h1.mono hI28
        have h7b := h7b.mono hI28
        have hG4 := hG4.mono hI28
        have h1b := h1b.mono hI28
        have hPb := hPb.mono hI28
        have h247 := h247.mono hI28
        have h23 := h23.mono hI28
        have h24 := h24.mono hI28
        have hIc := hIc.trans hI28
        have hD1 := conf_one hb28 h24
        refine XO_want (dj := 182) rfl rfl rfl ?_
        refine XO_callV0 (cap := []) (vs := [_, _]) rfl rfl fun_18 (s_sameC hC2 hk2 hD1) rfl rfl ?_
        refine XO_want (dj := 182) rfl rfl rfl ?_
        refine XO_v0 (ev_not rfl) rfl rfl rfl ?_
        refine XO_v0 (ev_pickb rfl rfl rfl) rfl rfl rfl ?_
        refine XO_nil ?_
        refine at_then ?_
        refine X_cond rfl (fun hc189 => ?_) (fun hc189 => ?_)
        · skip
          exact absurd hc189 (by decide)
        · skip
          refine X_skip ?_
          refine at_then ?_
          refine X_seq ?_
          refine X_region ?_
          refine XO_v0 (ev_move rfl) rfl rfl rfl ?_
          refine XO_v0 (ev_loadA rfl agt_35 (fun hg => by first | exact Sl.getA (k := 0) (x := g1) hB rfl | exact Cells.g0 | exact Cells.g1 | exact Cells.g2 | exact Cells.g3 | exact Cells.g4 | exact Cells.g5 | exact Cells.s0 (vs := [_, _, _, _, _, _, _, _, _, _, _, _, _, _]) rfl | exact Cells.s1 (vs := [_, _, _, _, _, _, _, _, _, _, _, _, _, _]) rfl | exact Cells.s2 (vs := [_, _, _, _, _, _, _, _, _, _, _, _, _, _]) rfl | exact Cells.s3 (vs := [_, _, _, _, _, _, _, _, _, _, _, _, _, _]) rfl | exact Cells.s4 (vs := [_, _, _, _, _, _, _, _, _, _, _, _, _, _]) rfl | exact Cells.s5 (vs := [_, _, _, _, _, _, _, _, _, _, _, _, _, _]) rfl | (repeat (first | exact Cells.here | apply Cells.there | apply Cells.app))) rfl) rfl rfl rfl ?_
          refine XO_buildSlice (ps := [(0, _)]) (m := [encG g2]) elt_39 rfl (.cons rfl (.nil)) rfl (by simp [encI_len, encP_len, encG_len, encC_len]) (by decide) (by decide) rfl rfl (fun b_192 => ?_)
          refine XO_freeze .here (fun I29 hI29 hb29 => ?_)
          have hB := hB.mono hI29
          have hP := hP.mono hI29
          have h7 := h7.mono hI29
          have hV := hV.mono hI29
          have h2 := h2.mono hI29
          have h3 := h3.mono hI29
          have hM := hM.mono hI29
          have hG1 := hG1.mono hI29
          have h234 := h234.mono hI29
          have hC2 := hC2.mono hI29
          have h2347 := h2347.mono hI29
          have hG2 := hG2.mono hI29
          have h2347b := h2347b.mono hI29
          have h1 := h1.mono hI29
          have h7b := h7b.mono hI29
          have hG4 := hG4.mono hI29
          have h1b := h1b.mono hI29
          have hPb := hPb.mono hI29
          have h247 := h247.mono hI29
          have h23 := h23.mono hI29
          have h24 := h24.mono hI29
          have hD1 := hD1.mono hI29
          have hIc := hIc.trans hI29
          have hg2 := Sl.lit ([g2] : List Sg) rfl encG_len (show _ = some (Obj.cells (([g2] : List Sg).flatMap encG).toArray 35 (0, 0)) from hb29)
          refine XO_callV0 (cap := []) (vs := [_, _]) rfl rfl fun_17 (s_sameG hG1 hg2 (by decide) rfl) rfl rfl ?_
          refine XO_v0 (ev_move rfl) rfl rfl rfl ?_
          refine XO_want (dj := 194) rfl rfl rfl ?_
          refine XO_v0 (ev_move rfl) rfl rfl rfl ?_
          refine XO_want (dj := 194) rfl rfl rfl ?_
          refine XO_v0 (ev_loadA rfl agt_35 (fun hg => by first | exact Sl.getA (k := 0) (x := g1) hB rfl | exact Cells.g0 | exact Cells.g1 | exact Cells.g2 | exact Cells.g3 | exact Cells.g4 | exact Cells.g5 | exact Cells.s0 (vs := [_, _, _, _, _, _, _, _, _, _, _, _, _, _]) rfl | exact Cells.s1 (vs := [_, _, _, _, _, _, _, _, _, _, _, _, _, _]) rfl | exact Cells.s2 (vs := [_, _, _, _, _, _, _, _, _, _, _, _, _, _]) rfl | exact Cells.s3 (vs := [_, _, _, _, _, _, _, _, _, _, _, _, _, _]) rfl | exact Cells.s4 (vs := [_, _, _, _, _, _, _, _, _, _, _, _, _, _]) rfl | exact Cells.s5 (vs := [_, _, _, _, _, _, _, _, _, _, _, _, _, _]) rfl | (repeat (first | exact Cells.here | apply Cells.there | apply Cells.app))) rfl) rfl rfl rfl ?_
          refine XO_want (dj := 194) rfl rfl rfl ?_
          refine XO_buildSlice (ps := [(0, _)]) (m := [encG g3]) elt_39 rfl (.cons rfl (.nil)) rfl (by simp [encI_len, encP_len, encG_len, encC_len]) (by decide) (by decide) rfl rfl (fun b_197 => ?_)
          refine XO_freeze .here (fun I30 hI30 hb30 => ?_)
          have hB := hB.mono hI30
          have hP := hP.mono hI30
          have h7 := h7.mono hI30
          have hV := hV.mono hI30
          have h2 := h2.mono hI30
          have h3 := h3.mono hI30
          have hM := hM.mono hI30
          have hG1 := hG1.mono hI30
          have h234 := h234.mono hI30
          have hC2 := hC2.mono hI30
          have h2347 := h2347.mono hI30
          have hG2 := hG2.mono hI30
          have h2347b := h2347b.mono hI30
          have h1 := h1.mono hI30
          have h7b := h7b.mono hI30
          have hG4 := hG4.mono hI30
          have h1b := h1b.mono hI30
          have hPb := hPb.mono hI30
          have h247 := h247.mono hI30
          have h23 := h23.mono hI30
          have h24 := h24.mono hI30
          have hD1 := hD1.mono hI30
          have hg2 := hg2.mono hI30
          have hIc := hIc.trans hI30
          have hg3 := Sl.lit ([g3] : List Sg) rfl encG_len (show _ = some (Obj.cells (([g3] : List Sg).flatMap encG).toArray 35 (0, 0)) from hb30)
          refine XO_want (dj := 194) rfl rfl rfl ?_
          refine XO_callV0 (cap := []) (vs := [_, _]) rfl rfl fun_17 (s_sameG hG2 hg3 (by decide) rfl) rfl rfl ?_
          refine XO_v0 (ev_pickb rfl rfl rfl) rfl rfl rfl ?_
          refine XO_v0 (ev_move rfl) rfl rfl rfl ?_
          refine XO_want (dj := 200) rfl rfl rfl ?_
          refine XO_v0 (ev_move rfl) rfl rfl rfl ?_
          refine XO_want (dj := 200) rfl rfl rfl ?_
          refine XO_v0 (ev_move rfl) rfl rfl rfl ?_
          refine XO_want (dj := 200) rfl rfl rfl ?_
          refine XO_callV0 (cap := []) (vs := [_, _]) rfl rfl fun_17 (s_sameG hG4 hB (by decide) rfl) rfl rfl ?_
          refine XO_v0 (ev_pickb rfl rfl rfl) rfl rfl rfl ?_
          refine XO_v0 (ev_assign rfl) rfl rfl rfl ?_
          refine XO_nil ?_
          refine at_then ?_
          refine X_ret ?_
          first
          | exact at_ret1 rfl rfl (fun w hw => ⟨by rfl, (hw.mono hIc).drop⟩)
end Go.Proofs.Ytccomeanpppfmaa
end
section
namespace Go.Proofs.Ytccomeanpppfmaa
open Go Go.Kn Go.Proofs
theorem ver_len {ps : List Pt} {v : List Int} (h : Lst ps) (hv : Ver ps v) : v.length ≤ ps.length := by
  have := congrArg List.length (verL_ids h hv)
  rw [List.length_map] at this
  rw [← this]
  exact List.length_filter_le ..
section
variable {ps : List Pt} {a b c : List Int}
theorem clo_v (h : chkR ps = 0) (p : List Int) : Ver ps (cloF ps p) := clo_ver (chkR_lst h) p
theorem mrg_ok (h : chkR ps = 0) (ha : Ver ps a) (hb : Ver ps b) : mrgE ps a b = 0 := by
  have h1 := ver_len (chkR_lst h) ha
  have h2 := ver_len (chkR_lst h) hb
  have h5 := (chkR_ok h).1
  unfold mrgE
  rw [if_neg (by rw [h]; decide), if_neg (by simp; omega), (verB_iff (chkR_lst h)).2 ha, (verB_iff (chkR_lst h)).2 hb]; rfl
theorem mrg_v (h : chkR ps = 0) (ha : Ver ps a) (hb : Ver ps b) : Ver ps (mrgF ps a b) := mrg_ver (chkR_lst h) ha hb
end
section
variable {ps : List Pt} {a b : List Int} {k : Nat} {x : Int}
end
/-! ### A version that is merged -/
def touL (ps : List Pt) (m a : List Int) : List Int := (ps.filter fun p => (m.any fun x => x == p.id) && !(a.any fun x => x == p.id)).map (·.sign)
section
variable {ps : List Pt} {base : List Sg} {a m : List Int}
theorem tou_ab (ha : ∀ x ∈ a, x ∈ m) {s : Int} (hs : s ∉ touL ps m a) : AbEq (verL ps a) (verL ps m) s := by
  unfold AbEq verL
  rw [List.filter_filter, List.filter_filter]
  refine List.filter_congr fun p hp => ?_
  by_cases e : p.sign = s
  · have : (m.any fun x => x == p.id) = true → (a.any fun x => x == p.id) = true := fun hm => by
      cases hx : a.any fun x => x == p.id with
      | true => rfl
      | false =>
        refine (hs ?_).elim
        unfold touL
        rw [List.mem_map]
        exact ⟨p, List.mem_filter.2 ⟨hp, by rw [hm, hx]; rfl⟩, e⟩
    have h2 : (a.any fun x => x == p.id) = true → (m.any fun x => x == p.id) = true := fun hx => by
      rw [List.any_eq_true] at hx ⊢
      obtain ⟨x, h1, h2⟩ := hx
      exact ⟨x, ha x h1, h2⟩
    rw [show (a.any fun x => x == p.id) = (m.any fun x => x == p.id) from Bool.eq_iff_iff.2 ⟨h2, this⟩]
  · rw [show (p.sign == s) = false by simpa using e, Bool.false_and, Bool.false_and]
theorem pat_parts (h : patE ps base m = 0) : chkR ps = 0 ∧ chkG base = 0 ∧ Ver ps m ∧ fitB base (verL ps m) = true := by
  unfold patE at h
  split at h
  · contradiction
  · split at h
    · contradiction
    · split at h
      · cases h
      · split at h
        · rename_i h1 h2 h3 h4
          rw [Bool.and_eq_true] at h4
          have hk : chkR ps = 0 := by omega
          exact ⟨hk, by omega, (verB_iff (chkR_lst hk)).1 h4.1, h4.2⟩
        · cases h
theorem fit_down (h : chkR ps = 0) (ha : Ver ps a) (hsub : ∀ x ∈ a, x ∈ m) (hf : fitB base (verL ps m) = true) : fitB base (verL ps a) = true := by
  unfold fitB at hf ⊢
  rw [List.all_eq_true] at hf ⊢
  intro p hp
  obtain ⟨hp1, hp2⟩ := mem_verL.1 hp
  have h1 := hf p (mem_verL.2 ⟨hp1, hsub _ hp2⟩)
  unfold fitP at h1 ⊢
  cases hi : insB (verL ps a) p.sign with
  | true =>
    cases hk : (p.kind == 2 && hasS base p.sign) with
    | false => simp
    | true => rw [hk] at h1; simp at h1
  | false =>
    cases hi2 : insB (verL ps m) p.sign with
    | false => rwa [hi2] at h1
    | true =>
      exfalso
      unfold insB at hi2
      rw [List.any_eq_true] at hi2
      obtain ⟨q, hq, hq2⟩ := hi2
      simp only [Bool.and_eq_true, beq_iff_eq] at hq2
      obtain ⟨hq3, hq4⟩ := mem_verL.1 hq
      have hqa : q.id ∈ a := by
        rcases (chkR_sto h).ins hp1 hq3 hq2.2.symm hq2.1 with e | ⟨_, e⟩
        · subst e; exact hp2
        · exact ha.on (chkR_lst h) hp2 e
      unfold insB at hi
      rw [List.any_eq_false] at hi
      exact hi q (mem_verL.2 ⟨hq3, hqa⟩) (by simp [hq2.1, hq2.2])
theorem sgn_small (hl : ps.length ≤ 40 ∧ base.length ≤ 60) : sgnE ps base a = patE ps base a := by
  unfold sgnE
  split
  · rfl
  · rename_i h
    rw [if_neg]
    · omega
    · have h1 := sgn_len (on := onF ps) (base := base) (l := verL ps a)
      have h2 : (verL ps a).length ≤ ps.length := List.length_filter_le ..
      omega
/-- If a version fits no base, no larger version does. -/
theorem pat_down (ha : Ver ps a) (hsub : ∀ x ∈ a, x ∈ m) (h : patE ps base m = 0) : patE ps base a = 0 := by
  obtain ⟨h1, h2, h3, h4⟩ := pat_parts h
  have hl := ver_len (chkR_lst h1) ha
  have h5 := (chkR_ok h1).1
  unfold patE
  rw [if_neg (by omega), if_neg (by omega), if_neg (by omega), (verB_iff (chkR_lst h1)).2 ha, fit_down h1 ha hsub h4]; rfl
theorem oth_same (hl : ps.length ≤ 40 ∧ base.length ≤ 60) (hsub : ∀ x ∈ a, x ∈ m) (hA : sgnE ps base a = 0) (hM : sgnE ps base m = 0) :
    (sgnF ps base a).filter (fun x => !(touL ps m a).any fun y => y == x.id) = (sgnF ps base m).filter (fun x => !(touL ps m a).any fun y => y == x.id) := by
  unfold sgnF
  rw [resF_ok hA, resF_ok hM]
  rw [sgn_small hl] at hA hM
  obtain ⟨h1, h2, h3, h4⟩ := pat_parts hM
  obtain ⟨_, _, k3, k4⟩ := pat_parts hA
  have hb := skB_srt (chkG_ok h2).2
  have sa := verL_sto (chkR_sto h1) k3
  have sm := verL_sto (chkR_sto h1) h3
  refine srt_ext (srt_filter (sgn_srt (all_look hb sa k4).1) _) (srt_filter (sgn_srt (all_look hb sm h4).1) _) fun s => ?_
  rw [look_filter (p := fun i => !(touL ps m a).any fun y => y == i), look_filter (p := fun i => !(touL ps m a).any fun y => y == i)]
  split
  · rename_i hs
    refine sgn_same hb sa k4 sm h4 (tou_ab hsub fun hm => ?_)
    rw [Bool.not_eq_true', List.any_eq_false] at hs
    exact hs s hm (by simp)
  · rfl
end
end Go.Proofs.Ytccomeanpppfmaa
end
section
namespace Go.Proofs.Ytccomeanpppfmaa
open Go Go.Kn Go.Proofs
theorem fun_13 : Fun Try.prog 13 := .of Try.func13 (by kernel_rfl) (by kernel_rfl)
theorem fun_8 : Fun Try.prog 8 := .of Try.func8 (by kernel_rfl) (by kernel_rfl)
theorem w_mrgV {I : HMap} {av bv dv : Option Addr} {n c n2 c2 n3 c3 : Nat} {ps : List Pt} {a b : List Int} (hP : SlP I av n c ps) (hn : n ≤ 100000) (h : chkR ps = 0) (hT : Sl I 1 encI bv n2 c2 a) (hv : Ver ps a) (hU : Sl I 1 encI dv n3 c3 b) (hw : Ver ps b) : RetM Try.prog 11 [.slice av n c, .slice bv n2 c2, .slice dv n3 c3] I [] (Res2 0 (mrgF ps a b)) := by
  have h1 := w_merge hP hn hT (by have := ver_len (chkR_lst h) hv; rw [hT.len, hP.len] at this; omega) hU (by have := ver_len (chkR_lst h) hw; rw [hU.len, hP.len] at this; omega)
  rwa [mrg_ok h hv hw, resF_ok rfl] at h1
end Go.Proofs.Ytccomeanpppfmaa
end
section
namespace Go.Proofs.Ytccomeanpppfmaa
open Go Go.Kn Go.Proofs
theorem sgF_few {ps : List Pt} {bs : List Sg} {v : List Int} : (sgnF ps bs v).length ≤ bs.length + ps.length := by
  unfold sgnF
  by_cases he : sgnE ps bs v = 0
  · rw [resF_ok he]
    have h1 := sgn_len (on := onF ps) (base := bs) (l := verL ps v)
    have h5 : (verL ps v).length ≤ ps.length := List.length_filter_le ..
    omega
  · rw [resF_bad he]; simp
section
variable {α : Type} {P : α → Bool} {xs : List α} {k : Nat} {x : α}
theorem flt_yes (hx : xs[k]? = some x) (h : P x = true) : (xs.take (k + 1)).filter P = (xs.take k).filter P ++ [x] := by
  rw [take_snoc hx, List.filter_append, List.filter_cons, if_pos h]; rfl
theorem flt_no (hx : xs[k]? = some x) (h : P x = false) : (xs.take (k + 1)).filter P = (xs.take k).filter P := by
  rw [take_snoc hx, List.filter_append, List.filter_cons, if_neg (by rw [h]; exact Bool.false_ne_true)]; simp
end
def touP (m a : List Int) (p : Pt) : Bool := (m.any fun x => x == p.id) && !a.any fun x => x == p.id
theorem tou_eq (ps : List Pt) (m a : List Int) : touL ps m a = (ps.filter (touP m a)).map (·.sign) := rfl
theorem tou_yes {ps : List Pt} {m a : List Int} {k : Nat} {p : Pt} (hx : ps[k]? = some p) (h : touP m a p = true) : touL (ps.take (k + 1)) m a = touL (ps.take k) m a ++ [p.sign] := by
  rw [tou_eq, tou_eq, flt_yes hx h, List.map_append]; rfl
theorem tou_no {ps : List Pt} {m a : List Int} {k : Nat} {p : Pt} (hx : ps[k]? = some p) (h : touP m a p = false) : touL (ps.take (k + 1)) m a = touL (ps.take k) m a := by
  rw [tou_eq, tou_eq, flt_no hx h]
def notP (t : List Int) (x : Sg) : Bool := !t.any fun y => y == x.id
theorem oth_err {ps : List Pt} {base : List Sg} {a m : List Int} (hl : ps.length ≤ 40 ∧ base.length ≤ 60) (ha : Ver ps a) (hsub : ∀ x ∈ a, x ∈ m) : ((sgnE ps base a == 0) || (sgnE ps base m != 0)) = true := by
  rw [sgn_small hl, sgn_small hl]
  by_cases h : patE ps base m = 0
  · rw [pat_down ha hsub h]; rfl
  · rw [Bool.or_eq_true]; exact .inr (by simpa using h)
theorem mrg_sub {ps : List Pt} {a b : List Int} (ha : Ver ps a) (hb : Ver ps b) : ∀ x ∈ a, x ∈ mrgF ps a b := fun x hx => (mem_mrg' ha hb).2 (.inl hx)
end Go.Proofs.Ytccomeanpppfmaa
end
section
namespace Go.Proofs.Ytccomeanpppfmaa
open Go Go.Kn Go.Proofs
theorem w_othersLaw {I : HMap} {av : Option Addr} {n c : Nat} {ps : List Pt} (hP : SlP I av n c ps) {bv : Option Addr} {n2 c2 : Nat} {bs : List Sg} (hB : Sl I 14 encG bv n2 c2 bs) {dv : Option Addr} {n3 c3 : Nat} {ys : List Int} (hT : Sl I 1 encI dv n3 c3 ys) {ev : Option Addr} {n4 c4 : Nat} {zs : List Int} (hU : Sl I 1 encI ev n4 c4 zs) : RetV Try.prog 6 [.slice av n c, .slice bv n2 c2, .slice dv n3 c3, .slice ev n4 c4] I (.bool true) := by
  intro g H w hw
  refine enter Try.func6 rfl Try.ntmps6 rfl hw ?_
  have hIc := HLe.refl I
  refine X_seq ?_
  refine X_region ?_
  refine XO_v0 (ev_assign rfl) rfl rfl rfl ?_
  refine XO_nil ?_
  refine at_then ?_
  refine X_seq ?_
  refine X_seq ?_
  refine X_region ?_
  refine XO_callV0 (cap := []) (vs := []) rfl rfl fun_8 (w_sane _) rfl rfl ?_
  refine XO_v0 (ev_not rfl) rfl rfl rfl ?_
  refine XO_nil ?_
  refine at_then ?_
  refine X_cond rfl (fun hc30 => ?_) (fun hc30 => ?_)
  · skip
    cases hc30
  · skip
    refine X_skip ?_
    refine at_then ?_
    refine X_seq ?_
    refine X_seq ?_
    refine X_region ?_
    refine XO_v0 (ev_move rfl) rfl rfl rfl ?_
    refine XO_v0 (ev_lenS rfl slt_22) rfl rfl rfl ?_
    refine XO_v0 (ev_cmp rfl rfl rfl) rfl rfl rfl ?_
    refine XO_v0 (ev_move rfl) rfl rfl rfl ?_
    refine XO_pushF 3 rfl rfl rfl ?_
    refine XO_v1 (ev_move rfl) (.some rfl rfl rfl rfl gbf) rfl rfl rfl ?_
    refine XO_v1 (ev_lenS rfl slt_23) (.some rfl rfl rfl rfl gbf) rfl rfl rfl ?_
    refine XO_v1 (ev_cmp rfl rfl rfl) (.some rfl rfl rfl rfl gbf) rfl rfl rfl ?_
    refine XO_or0 rfl rfl rfl rfl rfl ?_
    refine XO_v0 (ev_move rfl) rfl rfl rfl ?_
    refine XO_pushF 8 rfl rfl rfl ?_
    refine XO_v1 (ev_move rfl) (.some rfl rfl rfl rfl gbf) rfl rfl rfl ?_
    refine XO_v1 (ev_lenS rfl slt_23) (.some rfl rfl rfl rfl gbf) rfl rfl rfl ?_
    refine XO_v1 (ev_cmp rfl rfl rfl) (.some rfl rfl rfl rfl gbf) rfl rfl rfl ?_
    refine XO_or0 rfl rfl rfl rfl rfl ?_
    refine XO_v0 (ev_move rfl) rfl rfl rfl ?_
    refine XO_pushF 13 rfl rfl rfl ?_
    refine XO_v1 (ev_move rfl) (.some rfl rfl rfl rfl gbf) rfl rfl rfl ?_
    refine XO_v1 (ev_lenS rfl slt_39) (.some rfl rfl rfl rfl gbf) rfl rfl rfl ?_
    refine XO_v1 (ev_cmp rfl rfl rfl) (.some rfl rfl rfl rfl gbf) rfl rfl rfl ?_
    refine XO_or0 rfl rfl rfl rfl rfl ?_
    refine XO_nil ?_
    refine at_then ?_
    refine X_cond rfl (fun hc48 => ?_) (fun hc48 => ?_)
    · skip
      refine X_seq ?_
      refine X_region ?_
      refine XO_v0 (ev_assign rfl) rfl rfl rfl ?_
      refine XO_nil ?_
      refine at_then ?_
      refine X_ret ?_
      refine at_then_r ?_
      first
      | exact at_ret1 rfl rfl (fun w hw => ⟨by rfl, (hw.mono hIc).drop⟩)
      | exact at_ret1 rfl rfl (fun w hw => ⟨by rw [oth_err (base := bs) (ps := ps) ⟨by omega, by omega⟩ hvA (mrg_sub hvA hvB)], (hw.mono hIc).drop⟩)
    · skip
      have ho := hc48; simp only [Bool.or_eq_false_iff, decide_eq_false_iff_not, bne_eq_false_iff_eq] at ho
      have hn : n ≤ 100000 := by omega
      have hn2 : n2 ≤ 100000 := by omega
      have hPl := hP.len
      have hBl := hB.len
      refine X_skip ?_
      refine at_then ?_
      refine X_seq ?_
      refine X_region ?_
      refine XO_v0 (ev_move rfl) rfl rfl rfl ?_
      refine XO_v0 (ev_move rfl) rfl rfl rfl ?_
      refine XO_callM (cap := []) (vs := [_, _]) rfl rfl fun_10 .nil (w_Closure hP (by omega) hT (by omega)) rfl rfl ?_
      rintro vv1 I1 L1 hI1 ⟨rfl, aA, cA, rfl, hA⟩
      have hP := hP.mono hI1
      have hB := hB.mono hI1
      have hT := hT.mono hI1
      have hU := hU.mono hI1
      have hIc := hIc.trans hI1
      generalize hmA : resF (cloE ps ys) (cloF ps ys) = A at hA ⊢
      refine XO_v0 (ev_move rfl) rfl rfl rfl ?_
      refine XO_v0 (ev_extract rfl rfl) rfl rfl rfl ?_
      refine XO_v0 (ev_extract rfl rfl) rfl rfl rfl ?_
      refine XO_v0 (ev_assign rfl) rfl rfl rfl ?_
      refine XO_v0 (ev_assign rfl) rfl rfl rfl ?_
      refine XO_nil ?_
      refine at_then ?_
      refine X_seq ?_
      refine X_region ?_
      refine XO_v0 (ev_move rfl) rfl rfl rfl ?_
      refine XO_v0 (ev_move rfl) rfl rfl rfl ?_
      refine XO_callM (cap := []) (vs := [_, _]) rfl rfl fun_10 .nil (w_Closure hP (by omega) hU (by omega)) rfl rfl ?_
      rintro vv2 I2 L2 hI2 ⟨rfl, aB, cB, rfl, hB0⟩
      have hP := hP.mono hI2
      have hB := hB.mono hI2
      have hT := hT.mono hI2
      have hU := hU.mono hI2
      have hA := hA.mono hI2
      have hIc := hIc.trans hI2
      generalize hmB : resF (cloE ps zs) (cloF ps zs) = B at hB0 ⊢
      refine XO_v0 (ev_move rfl) rfl rfl rfl ?_
      refine XO_v0 (ev_extract rfl rfl) rfl rfl rfl ?_
      refine XO_v0 (ev_extract rfl rfl) rfl rfl rfl ?_
      refine XO_v0 (ev_assign rfl) rfl rfl rfl ?_
      refine XO_v0 (ev_assign rfl) rfl rfl rfl ?_
      refine XO_nil ?_
      refine at_then ?_
      refine X_seq ?_
      refine X_seq ?_
      refine X_region ?_
      refine XO_v0 (ev_move rfl) rfl rfl rfl ?_
      refine XO_v0 (ev_cmp rfl rfl rfl) rfl rfl rfl ?_
      refine XO_v0 (ev_move rfl) rfl rfl rfl ?_
      refine XO_pushF 2 rfl rfl rfl ?_
      refine XO_v1 (ev_move rfl) (.some rfl rfl rfl rfl gbf) rfl rfl rfl ?_
      refine XO_v1 (ev_cmp rfl rfl rfl) (.some rfl rfl rfl rfl gbf) rfl rfl rfl ?_
      refine XO_or0 rfl rfl rfl rfl rfl ?_
      refine XO_nil ?_
      refine at_then ?_
      refine X_cond rfl (fun hc66 => ?_) (fun hc66 => ?_)
      · skip
        refine X_seq ?_
        refine X_region ?_
        refine XO_v0 (ev_assign rfl) rfl rfl rfl ?_
        refine XO_nil ?_
        refine at_then ?_
        refine X_ret ?_
        refine at_then_r ?_
        first
        | exact at_ret1 rfl rfl (fun w hw => ⟨by rfl, (hw.mono hIc).drop⟩)
        | exact at_ret1 rfl rfl (fun w hw => ⟨by rw [oth_err (base := bs) (ps := ps) ⟨by omega, by omega⟩ hvA (mrg_sub hvA hvB)], (hw.mono hIc).drop⟩)
      · skip
        have h8 := hc66; simp only [Bool.or_eq_false_iff, decide_eq_false_iff_not, bne_eq_false_iff_eq] at h8
        have hck : chkR ps = 0 := Decidable.byContradiction fun h => by have he := h8.1; unfold cloE at he; rw [if_pos h] at he; exact h he
        have hL := chkR_lst hck
        have hvA : Ver ps A := by rw [← hmA, h8.1, resF_ok rfl]; exact clo_v hck ys
        have hvB : Ver ps B := by rw [← hmB, h8.2, resF_ok rfl]; exact clo_v hck zs
        have hvM := mrg_v hck hvA hvB
        refine X_skip ?_
        refine at_then ?_
        refine X_seq ?_
        refine X_region ?_
        refine XO_v0 (ev_move rfl) rfl rfl rfl ?_
        refine XO_v0 (ev_move rfl) rfl rfl rfl ?_
        refine XO_v0 (ev_move rfl) rfl rfl rfl ?_
        refine XO_callM (cap := []) (vs := [_, _, _]) rfl rfl fun_11 .nil (w_mrgV hP hn hck hA hvA hB0 hvB) rfl rfl ?_
        rintro vv3 I3 L3 hI3 ⟨rfl, a3, c3, rfl, hM⟩
        have hP := hP.mono hI3
        have hB := hB.mono hI3
        have hT := hT.mono hI3
        have hU := hU.mono hI3
        have hA := hA.mono hI3
        have hB0 := hB0.mono hI3
        have hIc := hIc.trans hI3
        refine XO_v0 (ev_move rfl) rfl rfl rfl ?_
        refine XO_v0 (ev_extract rfl rfl) rfl rfl rfl ?_
        refine XO_v0 (ev_extract rfl rfl) rfl rfl rfl ?_
        refine XO_v0 (ev_assign rfl) rfl rfl rfl ?_
        refine XO_v0 (ev_assign rfl) rfl rfl rfl ?_
        refine XO_nil ?_
        refine at_then ?_
        refine X_seq ?_
        refine X_seq ?_
        refine X_region ?_
        refine XO_v0 (ev_move rfl) rfl rfl rfl ?_
        refine XO_v0 (ev_cmp rfl rfl rfl) rfl rfl rfl ?_
        refine XO_nil ?_
        refine at_then ?_
        refine X_cond rfl (fun hc75 => ?_) (fun hc75 => ?_)
        · skip
          cases hc75
        · skip
          refine X_skip ?_
          refine at_then ?_
          refine X_seq ?_
          refine X_region ?_
          refine XO_v0 (ev_move rfl) rfl rfl rfl ?_
          refine XO_v0 (ev_move rfl) rfl rfl rfl ?_
          refine XO_v0 (ev_move rfl) rfl rfl rfl ?_
          refine XO_callM (cap := []) (vs := [_, _, _]) rfl rfl fun_15 .nil (w_Signs hP hn hB hn2 hA (by have hh := ver_len hL (hvA); rw [hP.len] at hh; omega)) rfl rfl ?_
          rintro vv4 I4 L4 hI4 ⟨rfl, a4, c4, rfl, hS1⟩
          have hP := hP.mono hI4
          have hB := hB.mono hI4
          have hT := hT.mono hI4
          have hU := hU.mono hI4
          have hA := hA.mono hI4
          have hB0 := hB0.mono hI4
          have hM := hM.mono hI4
          have hIc := hIc.trans hI4
          refine XO_v0 (ev_move rfl) rfl rfl rfl ?_
          refine XO_v0 (ev_extract rfl rfl) rfl rfl rfl ?_
          refine XO_v0 (ev_extract rfl rfl) rfl rfl rfl ?_
          refine XO_v0 (ev_assign rfl) rfl rfl rfl ?_
          refine XO_v0 (ev_assign rfl) rfl rfl rfl ?_
          refine XO_nil ?_
          refine at_then ?_
          refine X_seq ?_
          refine X_region ?_
          refine XO_v0 (ev_move rfl) rfl rfl rfl ?_
          refine XO_v0 (ev_move rfl) rfl rfl rfl ?_
          refine XO_v0 (ev_move rfl) rfl rfl rfl ?_
          refine XO_callM (cap := []) (vs := [_, _, _]) rfl rfl fun_15 .nil (w_Signs hP hn hB hn2 hM (by have hh := ver_len hL (hvM); rw [hP.len] at hh; omega)) rfl rfl ?_
          rintro vv5 I5 L5 hI5 ⟨rfl, a5, c5, rfl, hS2⟩
          have hP := hP.mono hI5
          have hB := hB.mono hI5
          have hT := hT.mono hI5
          have hU := hU.mono hI5
          have hA := hA.mono hI5
          have hB0 := hB0.mono hI5
          have hM := hM.mono hI5
          have hS1 := hS1.mono hI5
          have hIc := hIc.trans hI5
          refine XO_v0 (ev_move rfl) rfl rfl rfl ?_
          refine XO_v0 (ev_extract rfl rfl) rfl rfl rfl ?_
          refine XO_v0 (ev_extract rfl rfl) rfl rfl rfl ?_
          refine XO_v0 (ev_assign rfl) rfl rfl rfl ?_
          refine XO_v0 (ev_assign rfl) rfl rfl rfl ?_
          refine XO_nil ?_
          refine at_then ?_
          refine X_seq ?_
          refine X_seq ?_
          refine X_region ?_
          refine XO_v0 (ev_move rfl) rfl rfl rfl ?_
          refine XO_v0 (ev_cmp rfl rfl rfl) rfl rfl rfl ?_
          refine XO_v0 (ev_move rfl) rfl rfl rfl ?_
          refine XO_pushF 2 rfl rfl rfl ?_
          refine XO_v1 (ev_move rfl) (.some rfl rfl rfl rfl gbf) rfl rfl rfl ?_
          refine XO_v1 (ev_cmp rfl rfl rfl) (.some rfl rfl rfl rfl gbf) rfl rfl rfl ?_
          refine XO_or0 rfl rfl rfl rfl rfl ?_
          refine XO_nil ?_
          refine at_then ?_
          refine X_cond rfl (fun hc95 => ?_) (fun hc95 => ?_)
          · skip
            refine X_seq ?_
            refine X_region ?_
            refine XO_v0 (ev_move rfl) rfl rfl rfl ?_
            refine XO_v0 (ev_cmp rfl rfl rfl) rfl rfl rfl ?_
            refine XO_v0 (ev_move rfl) rfl rfl rfl ?_
            refine XO_pushF 2 rfl rfl rfl ?_
            refine XO_v1 (ev_move rfl) (.some rfl rfl rfl rfl gbf) rfl rfl rfl ?_
            refine XO_v1 (ev_cmp rfl rfl rfl) (.some rfl rfl rfl rfl gbf) rfl rfl rfl ?_
            refine XO_or0 rfl rfl rfl rfl rfl ?_
            refine XO_v0 (ev_assign rfl) rfl rfl rfl ?_
            refine XO_nil ?_
            refine at_then ?_
            refine X_ret ?_
            refine at_then_r ?_
            first
            | exact at_ret1 rfl rfl (fun w hw => ⟨by rfl, (hw.mono hIc).drop⟩)
            | exact at_ret1 rfl rfl (fun w hw => ⟨by rw [oth_err (base := bs) (ps := ps) ⟨by omega, by omega⟩ hvA (mrg_sub hvA hvB)], (hw.mono hIc).drop⟩)
          · skip
            have h9 := hc95; simp only [Bool.or_eq_false_iff, decide_eq_false_iff_not, bne_eq_false_iff_eq] at h9
            have he1 := h9.1
            have he2 := h9.2
            have hf1 := sgF_few (ps := ps) (bs := bs) (v := A)
            rw [hP.len, hB.len] at hf1
            have hf2 := sgF_few (ps := ps) (bs := bs) (v := (mrgF ps A B))
            rw [hP.len, hB.len] at hf2
            refine X_skip ?_
            refine at_then ?_
            refine X_seq ?_
            refine X_region ?_
            refine XO_v0 (ev_assign rfl) rfl rfl rfl ?_
            refine XO_nil ?_
            refine at_then ?_
            refine X_seq ?_
            refine X_seq ?_
            refine X_region ?_
            refine XO_v0 (ev_move rfl) rfl rfl rfl ?_
            refine XO_v0 (ev_lenS rfl slt_22) rfl rfl rfl ?_
            refine XO_v0 (ev_move rfl) rfl rfl rfl ?_
            refine XO_nil ?_
            refine at_then ?_
            refine X_block ?_
            refine X_loopT [(9, _), (13, _), (15, _), (17, _), (102, _), (103, _)] (.cons rfl (.cons rfl (.cons rfl (.cons rfl (.cons rfl (.cons rfl .nil)))))) (fun T L0 mz E I' loc' => ∃ (k : Nat) (v : Value) (q : Nat) (L : Go.Kn.Loc), mz = n - k ∧ E = (19, v) :: (104, .int .i64 k) :: T ∧ I5 = I' ∧ L = loc' ∧ k ≤ n ∧ OwnS 3 1 v q ((touL (ps.take k) (mrgF ps A B) A).flatMap encI) L ∧ q ≤ k) _ _ _ _ ⟨0, _, 0, [], rfl, rfl, rfl, rfl, Nat.zero_le _, by rw [List.take_zero]; exact OwnS.nil, Nat.le_refl _⟩ (.cons rfl (.cons rfl (.cons rfl (.cons rfl (.cons rfl (.cons rfl (.cons rfl (.cons rfl .nil)))))))) (HLe.refl _) rfl ?_
            rintro mz E I' loc' ⟨k, v, q, L, rfl, rfl, rfl, rfl, hk, hO, hq⟩
            refine X_seq ?_
            refine X_region ?_
            refine XO_v0 (ev_cmp rfl rfl rfl) rfl rfl rfl ?_
            refine XO_nil ?_
            refine at_then ?_
            refine X_seq ?_
            refine X_cond rfl (fun hc105 => ?_) (fun hc105 => ?_)
            · skip
              have hlt_k : k < n := by have h := hc105; simp at h; omega
              have hP1 := hP.1
              obtain ⟨p, hp, hN⟩ := hP.at hlt_k
              have hpm := List.mem_of_getElem? hp
              refine X_skip ?_
              refine at_then ?_
              refine X_seq ?_
              refine X_block ?_
              refine X_seq ?_
              refine X_region ?_
              refine XO_v0 (ev_indexSl rfl rfl slt_22 (by assumption) (fun hg => by omega)) rfl rfl rfl ?_
              refine XO_v0 (ev_loadA rfl agt_37 (fun hg => by first | exact Sl.getA hP1 hp | exact Sl.getA hS1 hx | exact Sl.getA hS2 hx | exact Sl.getA hUf hx | exact Sl.getA hWf hy | exact Cells.g0 | exact Cells.g1 | exact Cells.g2 | exact Cells.g3 | exact Cells.g4 | exact Cells.g5 | exact Cells.s0 (vs := [_, _, _, _, _, _, _, _, _, _, _, _, _, _, _, _, _, _, _]) rfl | exact Cells.s1 (vs := [_, _, _, _, _, _, _, _, _, _, _, _, _, _, _, _, _, _, _]) rfl | exact Cells.s2 (vs := [_, _, _, _, _, _, _, _, _, _, _, _, _, _, _, _, _, _, _]) rfl | exact Cells.s3 (vs := [_, _, _, _, _, _, _, _, _, _, _, _, _, _, _, _, _, _, _]) rfl | exact Cells.s4 (vs := [_, _, _, _, _, _, _, _, _, _, _, _, _, _, _, _, _, _, _]) rfl | exact Cells.s5 (vs := [_, _, _, _, _, _, _, _, _, _, _, _, _, _, _, _, _, _, _]) rfl | (repeat (first | exact Cells.here | apply Cells.there | apply Cells.app))) rfl) rfl rfl rfl ?_
              refine XO_alloc zt_37 rfl rfl (fun b_21 => ?_)
              refine XO_storeA rfl rfl szt_37 rfl rfl rfl rfl (by first | exact Upd.u0 | exact Upd.u1 | exact Upd.u2 | exact Upd.u3 | exact Upd.u4 | exact Upd.u5 | (repeat (first | exact Upd.here | apply Upd.there | apply upd_app))) ?_
              refine XO_nil ?_
              refine at_then ?_
              refine X_seq ?_
              refine X_region ?_
              refine XO_v0 (ev_move rfl) rfl rfl rfl ?_
              refine XO_v0 (ev_fieldAddr rfl fld_37_0) rfl rfl rfl ?_
              refine XO_v0 (ev_load rfl sct_3 (fun hg => by first | exact Cell.h0 rfl | exact Cell.h1 rfl | exact Cell.h2 rfl | exact Cell.h3 rfl | exact Cell.h4 rfl | exact Cell.h5 rfl | (repeat (first | exact Cell.here rfl | apply Cell.there | apply Cell.app)))) rfl rfl rfl ?_
              refine XO_callV0 (cap := []) (vs := [_, _]) rfl rfl fun_13 (w_has hM (by have hh := ver_len hL (hvM); rw [hP.len] at hh; omega) _) rfl rfl ?_
              refine XO_v0 (ev_move rfl) rfl rfl rfl ?_
              refine XO_pushT 4 rfl rfl rfl ?_
              refine XO_v1 (ev_move rfl) (.some rfl rfl rfl rfl gbt) rfl rfl rfl ?_
              refine XO_v1 (ev_fieldAddr rfl fld_37_0) (.some rfl rfl rfl rfl gbt) rfl rfl rfl ?_
              refine XO_v1 (ev_load rfl sct_3 (fun hg => by first | exact Cell.h0 rfl | exact Cell.h1 rfl | exact Cell.h2 rfl | exact Cell.h3 rfl | exact Cell.h4 rfl | exact Cell.h5 rfl | (repeat (first | exact Cell.here rfl | apply Cell.there | apply Cell.app)))) (.some rfl rfl rfl rfl gbt) rfl rfl rfl ?_
              refine XO_callV1 (cap := []) (vs := [_, _]) rfl rfl fun_13 (fun hg => w_has hA (by have hh := ver_len hL (hvA); rw [hP.len] at hh; omega) _) (.some rfl rfl rfl rfl gbt) rfl rfl ?_
              refine XO_v1 (ev_not rfl) (.some rfl rfl rfl rfl gbt) rfl rfl rfl ?_
              refine XO_and0 rfl rfl rfl rfl rfl ?_
              refine XO_nil ?_
              refine at_then ?_
              refine X_cond rfl (fun hc118 => ?_) (fun hc118 => ?_)
              · skip
                refine X_region ?_
                refine XO_v0 (ev_move rfl) rfl rfl rfl ?_
                refine XO_v0 (ev_fieldAddr rfl fld_37_2) rfl rfl rfl ?_
                refine XO_v0 (ev_load rfl sct_3 (fun hg => by first | exact Cell.h0 rfl | exact Cell.h1 rfl | exact Cell.h2 rfl | exact Cell.h3 rfl | exact Cell.h4 rfl | exact Cell.h5 rfl | (repeat (first | exact Cell.here rfl | apply Cell.there | apply Cell.app)))) rfl rfl rfl ?_
                refine XO_buildSlice (ps := [(0, _)]) (m := [encI p.sign]) elt_23 rfl (.cons rfl (.nil)) rfl (by simp [encI_len, encP_len, encG_len]) (by decide) (by decide) rfl rfl (fun b_122 => ?_)
                refine XO_append (v := _) (ys := [p.sign].flatMap encI) (L := L) rfl rfl elt_23 hO (by repeat (first | exact .cons .here .nil | exact split_all | exact split_app | apply split_cons | apply split_skip)) ⟨rfl, fun _ => rfl, Cells.here⟩ (one_I [p.sign]) (by omega) rfl rfl ?_
                intro v9 L9 hO9 _; rw [← List.flatMap_append] at hO9
                refine XO_v0 (ev_assign rfl) rfl rfl rfl ?_
                refine XO_nil ?_
                refine at_block_n ?_
                refine at_then ?_
                refine X_region ?_
                refine XO_v0 (ev_arB rfl rfl rfl (fun hg => by first | omega | (simp [conj] at hg; omega))) rfl rfl rfl ?_
                refine XO_v0 (ev_move rfl) rfl rfl rfl ?_
                refine XO_nil ?_
                first
                | exact at_met2 _ _ ⟨n - (k + 1), by omega, k + 1, _, _, _, rfl, rfl, rfl, rfl, by omega, by rw [tou_no hp hc118]; exact hO, by omega⟩ (.cons rfl (.cons rfl (.cons rfl (.cons rfl (.cons rfl (.cons rfl (.cons rfl (.cons rfl .nil)))))))) (by repeat (first | exact .refl | exact subL_left | refine subL_app ?_ | refine .drop ?_ | refine subL_add ?_))
                | exact at_met2 _ _ ⟨n - (k + 1), by omega, k + 1, _, _, _, rfl, rfl, rfl, rfl, by omega, by rw [tou_yes hp hc118]; exact hO9, by omega⟩ (.cons rfl (.cons rfl (.cons rfl (.cons rfl (.cons rfl (.cons rfl (.cons rfl (.cons rfl .nil)))))))) (by repeat (first | exact .refl | exact subL_left | refine subL_app ?_ | refine .drop ?_ | refine subL_add ?_))
              · skip
                refine X_skip ?_
                refine at_block_n ?_
                refine at_then ?_
                refine X_region ?_
                refine XO_v0 (ev_arB rfl rfl rfl (fun hg => by first | omega | (simp [conj] at hg; omega))) rfl rfl rfl ?_
                refine XO_v0 (ev_move rfl) rfl rfl rfl ?_
                refine XO_nil ?_
                first
                | exact at_met2 _ _ ⟨n - (k + 1), by omega, k + 1, _, _, _, rfl, rfl, rfl, rfl, by omega, by rw [tou_no hp hc118]; exact hO, by omega⟩ (.cons rfl (.cons rfl (.cons rfl (.cons rfl (.cons rfl (.cons rfl (.cons rfl (.cons rfl .nil)))))))) (by repeat (first | exact .refl | exact subL_left | refine subL_app ?_ | refine .drop ?_ | refine subL_add ?_))
                | exact at_met2 _ _ ⟨n - (k + 1), by omega, k + 1, _, _, _, rfl, rfl, rfl, rfl, by omega, by rw [tou_yes hp hc118]; exact hO9, by omega⟩ (.cons rfl (.cons rfl (.cons rfl (.cons rfl (.cons rfl (.cons rfl (.cons rfl (.cons rfl .nil)))))))) (by repeat (first | exact .refl | exact subL_left | refine subL_app ?_ | refine .drop ?_ | refine subL_add ?_))
            · skip
              have hge_k : n ≤ k := by have h := hc105; simp at h; omega
              rw [take_all hP.len hge_k] at hO
              refine X_exit ?_
              refine at_then_e ?_
              refine at_then_e ?_
              refine at_block_hit ?_
              refine at_then ?_
              refine X_seq ?_
              refine X_freezeO hO encI_len (by decide) (by repeat (first | exact .cons .here .nil | exact split_all | exact split_app | apply split_cons | apply split_skip)) (fun I7 hI7 af7 cf7 ef7 hTo => ?_)
              subst ef7
              have hP := hP.mono hI7
              have hB := hB.mono hI7
              have hT := hT.mono hI7
              have hU := hU.mono hI7
              have hA := hA.mono hI7
              have hB0 := hB0.mono hI7
              have hM := hM.mono hI7
              have hS1 := hS1.mono hI7
              have hS2 := hS2.mono hI7
              have hIc := hIc.trans hI7
              refine X_region ?_
              refine XO_v0 (ev_assign rfl) rfl rfl rfl ?_
              refine XO_v0 (ev_assign rfl) rfl rfl rfl ?_
              refine XO_nil ?_
              refine at_then ?_
              refine X_seq ?_
              refine X_seq ?_
              refine X_region ?_
              refine XO_v0 (ev_move rfl) rfl rfl rfl ?_
              refine XO_v0 (ev_lenS rfl slt_39) rfl rfl rfl ?_
              refine XO_v0 (ev_move rfl) rfl rfl rfl ?_
              refine XO_nil ?_
              refine at_then ?_
              refine X_block ?_
              refine X_loopT [(17, _), (19, _), (23, _), (125, _), (126, _)] (.cons rfl (.cons rfl (.cons rfl (.cons rfl (.cons rfl .nil))))) (fun T L0 mz E I' loc' => ∃ (k : Nat) (v : Value) (qu : Nat) (L : Go.Kn.Loc), mz = (sgnF ps bs A).length - k ∧ E = (22, v) :: (127, .int .i64 k) :: T ∧ I7 = I' ∧ L = loc' ∧ k ≤ (sgnF ps bs A).length ∧ OwnS 35 14 v qu ((((sgnF ps bs A).take k).filter (notP (touL ps (mrgF ps A B) A))).flatMap encG) L ∧ qu ≤ k) _ _ _ _ ⟨0, _, 0, [], rfl, rfl, rfl, rfl, Nat.zero_le _, by rw [List.take_zero]; exact OwnS.nil, Nat.le_refl _⟩ (.cons rfl (.cons rfl (.cons rfl (.cons rfl (.cons rfl (.cons rfl (.cons rfl .nil))))))) (HLe.refl _) rfl ?_
              rintro mz E I' loc' ⟨k, v, qu, L, rfl, rfl, rfl, rfl, hk, hO, hq⟩
              refine X_seq ?_
              refine X_region ?_
              refine XO_v0 (ev_cmp rfl rfl rfl) rfl rfl rfl ?_
              refine XO_nil ?_
              refine at_then ?_
              refine X_seq ?_
              refine X_cond rfl (fun hc128 => ?_) (fun hc128 => ?_)
              · skip
                have hlt_k : k < (sgnF ps bs A).length := by have h := hc128; simp at h; omega
                obtain ⟨x, hx⟩ := hS1.at hlt_k
                refine X_skip ?_
                refine at_then ?_
                refine X_seq ?_
                refine X_block ?_
                refine X_seq ?_
                refine X_region ?_
                refine XO_v0 (ev_indexSl rfl rfl slt_39 (by assumption) (fun hg => by omega)) rfl rfl rfl ?_
                refine XO_v0 (ev_loadA rfl agt_35 (fun hg => by first | exact Sl.getA hP1 hp | exact Sl.getA hS1 hx | exact Sl.getA hS2 hx | exact Sl.getA hUf hx | exact Sl.getA hWf hy | exact Cells.g0 | exact Cells.g1 | exact Cells.g2 | exact Cells.g3 | exact Cells.g4 | exact Cells.g5 | exact Cells.s0 (vs := [_, _, _, _, _, _, _, _, _, _, _, _, _, _]) rfl | exact Cells.s1 (vs := [_, _, _, _, _, _, _, _, _, _, _, _, _, _]) rfl | exact Cells.s2 (vs := [_, _, _, _, _, _, _, _, _, _, _, _, _, _]) rfl | exact Cells.s3 (vs := [_, _, _, _, _, _, _, _, _, _, _, _, _, _]) rfl | exact Cells.s4 (vs := [_, _, _, _, _, _, _, _, _, _, _, _, _, _]) rfl | exact Cells.s5 (vs := [_, _, _, _, _, _, _, _, _, _, _, _, _, _]) rfl | (repeat (first | exact Cells.here | apply Cells.there | apply Cells.app))) rfl) rfl rfl rfl ?_
                refine XO_alloc zt_35 rfl rfl (fun b_25 => ?_)
                refine XO_storeA rfl rfl szt_35 rfl rfl rfl rfl (by first | exact Upd.u0 | exact Upd.u1 | exact Upd.u2 | exact Upd.u3 | exact Upd.u4 | exact Upd.u5 | (repeat (first | exact Upd.here | apply Upd.there | apply upd_app))) ?_
                refine XO_nil ?_
                refine at_then ?_
                refine X_seq ?_
                refine X_region ?_
                refine XO_v0 (ev_move rfl) rfl rfl rfl ?_
                refine XO_v0 (ev_fieldAddr rfl fld_35_0) rfl rfl rfl ?_
                refine XO_v0 (ev_load rfl sct_3 (fun hg => by first | exact Cell.h0 rfl | exact Cell.h1 rfl | exact Cell.h2 rfl | exact Cell.h3 rfl | exact Cell.h4 rfl | exact Cell.h5 rfl | (repeat (first | exact Cell.here rfl | apply Cell.there | apply Cell.app)))) rfl rfl rfl ?_
                refine XO_callV0 (cap := []) (vs := [_, _]) rfl rfl fun_13 (w_has hTo (by omega) _) rfl rfl ?_
                refine XO_v0 (ev_not rfl) rfl rfl rfl ?_
                refine XO_nil ?_
                refine at_then ?_
                refine X_cond rfl (fun hc135 => ?_) (fun hc135 => ?_)
                · skip
                  refine X_region ?_
                  refine XO_v0 (ev_move rfl) rfl rfl rfl ?_
                  refine XO_v0 (ev_loadA rfl agt_35 (fun hg => by first | exact Sl.getA hP1 hp | exact Sl.getA hS1 hx | exact Sl.getA hS2 hx | exact Sl.getA hUf hx | exact Sl.getA hWf hy | exact Cells.g0 | exact Cells.g1 | exact Cells.g2 | exact Cells.g3 | exact Cells.g4 | exact Cells.g5 | exact Cells.s0 (vs := [_, _, _, _, _, _, _, _, _, _, _, _, _, _]) rfl | exact Cells.s1 (vs := [_, _, _, _, _, _, _, _, _, _, _, _, _, _]) rfl | exact Cells.s2 (vs := [_, _, _, _, _, _, _, _, _, _, _, _, _, _]) rfl | exact Cells.s3 (vs := [_, _, _, _, _, _, _, _, _, _, _, _, _, _]) rfl | exact Cells.s4 (vs := [_, _, _, _, _, _, _, _, _, _, _, _, _, _]) rfl | exact Cells.s5 (vs := [_, _, _, _, _, _, _, _, _, _, _, _, _, _]) rfl | (repeat (first | exact Cells.here | apply Cells.there | apply Cells.app))) rfl) rfl rfl rfl ?_
                  refine XO_buildSlice (ps := [(0, _)]) (m := [encG x]) elt_39 rfl (.cons rfl (.nil)) rfl (by simp [encI_len, encP_len, encG_len]) (by decide) (by decide) rfl rfl (fun b_138 => ?_)
                  refine XO_append (v := _) (ys := [x].flatMap encG) (L := L) rfl rfl elt_39 hO (by repeat (first | exact .cons .here .nil | exact split_all | exact split_app | apply split_cons | apply split_skip)) ⟨rfl, fun _ => rfl, Cells.here⟩ (one_G [x]) (by omega) rfl rfl ?_
                  intro v9 L9 hO9 _; rw [← List.flatMap_append] at hO9
                  refine XO_v0 (ev_assign rfl) rfl rfl rfl ?_
                  refine XO_nil ?_
                  refine at_block_n ?_
                  refine at_then ?_
                  refine X_region ?_
                  refine XO_v0 (ev_arB rfl rfl rfl (fun hg => by first | omega | (simp [conj] at hg; omega))) rfl rfl rfl ?_
                  refine XO_v0 (ev_move rfl) rfl rfl rfl ?_
                  refine XO_nil ?_
                  first
                  | exact at_met2 _ _ ⟨(sgnF ps bs A).length - (k + 1), by omega, k + 1, _, _, _, rfl, rfl, rfl, rfl, by omega, by rw [flt_no hx hc135]; exact hO, by omega⟩ (.cons rfl (.cons rfl (.cons rfl (.cons rfl (.cons rfl (.cons rfl (.cons rfl .nil))))))) (by repeat (first | exact .refl | exact subL_left | refine subL_app ?_ | refine .drop ?_ | refine subL_add ?_))
                  | exact at_met2 _ _ ⟨(sgnF ps bs A).length - (k + 1), by omega, k + 1, _, _, _, rfl, rfl, rfl, rfl, by omega, by rw [flt_yes hx hc135]; exact hO9, by omega⟩ (.cons rfl (.cons rfl (.cons rfl (.cons rfl (.cons rfl (.cons rfl (.cons rfl .nil))))))) (by repeat (first | exact .refl | exact subL_left | refine subL_app ?_ | refine .drop ?_ | refine subL_add ?_))
                · skip
                  refine X_skip ?_
                  refine at_block_n ?_
                  refine at_then ?_
                  refine X_region ?_
                  refine XO_v0 (ev_arB rfl rfl rfl (fun hg => by first | omega | (simp [conj] at hg; omega))) rfl rfl rfl ?_
                  refine XO_v0 (ev_move rfl) rfl rfl rfl ?_
                  refine XO_nil ?_
                  first
                  | exact at_met2 _ _ ⟨(sgnF ps bs A).length - (k + 1), by omega, k + 1, _, _, _, rfl, rfl, rfl, rfl, by omega, by rw [flt_no hx hc135]; exact hO, by omega⟩ (.cons rfl (.cons rfl (.cons rfl (.cons rfl (.cons rfl (.cons rfl (.cons rfl .nil))))))) (by repeat (first | exact .refl | exact subL_left | refine subL_app ?_ | refine .drop ?_ | refine subL_add ?_))
                  | exact at_met2 _ _ ⟨(sgnF ps bs A).length - (k + 1), by omega, k + 1, _, _, _, rfl, rfl, rfl, rfl, by omega, by rw [flt_yes hx hc135]; exact hO9, by omega⟩ (.cons rfl (.cons rfl (.cons rfl (.cons rfl (.cons rfl (.cons rfl (.cons rfl .nil))))))) (by repeat (first | exact .refl | exact subL_left | refine subL_app ?_ | refine .drop ?_ | refine subL_add ?_))
              · skip
                have hge_k : (sgnF ps bs A).length ≤ k := by have h := hc128; simp at h; omega
                rw [take_all rfl hge_k] at hO
                refine X_exit ?_
                refine at_then_e ?_
                refine at_then_e ?_
                refine at_block_hit ?_
                refine at_then ?_
                refine X_seq ?_
                refine X_seq ?_
                refine X_freezeO hO encG_len (by decide) (by repeat (first | exact .cons .here .nil | exact split_all | exact split_app | apply split_cons | apply split_skip)) (fun I9 hI9 af9 cf9 ef9 hUf => ?_)
                subst ef9
                have hP := hP.mono hI9
                have hB := hB.mono hI9
                have hT := hT.mono hI9
                have hU := hU.mono hI9
                have hA := hA.mono hI9
                have hB0 := hB0.mono hI9
                have hM := hM.mono hI9
                have hS1 := hS1.mono hI9
                have hS2 := hS2.mono hI9
                have hTo := hTo.mono hI9
                have hIc := hIc.trans hI9
                refine X_region ?_
                refine XO_v0 (ev_move rfl) rfl rfl rfl ?_
                refine XO_v0 (ev_lenS rfl slt_39) rfl rfl rfl ?_
                refine XO_v0 (ev_move rfl) rfl rfl rfl ?_
                refine XO_nil ?_
                refine at_then ?_
                refine X_block ?_
                refine X_loopT [(19, _), (22, _), (141, _), (142, _)] (.cons rfl (.cons rfl (.cons rfl (.cons rfl .nil)))) (fun T L0 mz E I' loc' => ∃ (k : Nat) (v : Value) (qw : Nat) (L : Go.Kn.Loc), mz = (sgnF ps bs (mrgF ps A B)).length - k ∧ E = (23, v) :: (143, .int .i64 k) :: T ∧ I9 = I' ∧ L = loc' ∧ k ≤ (sgnF ps bs (mrgF ps A B)).length ∧ OwnS 35 14 v qw ((((sgnF ps bs (mrgF ps A B)).take k).filter (notP (touL ps (mrgF ps A B) A))).flatMap encG) L ∧ qw ≤ k) _ _ _ _ ⟨0, _, 0, [], rfl, rfl, rfl, rfl, Nat.zero_le _, by rw [List.take_zero]; exact OwnS.nil, Nat.le_refl _⟩ (.cons rfl (.cons rfl (.cons rfl (.cons rfl (.cons rfl (.cons rfl .nil)))))) (HLe.refl _) rfl ?_
                rintro mz E I' loc' ⟨k, v, qw, L, rfl, rfl, rfl, rfl, hk, hO, hq⟩
                refine X_seq ?_
                refine X_region ?_
                refine XO_v0 (ev_cmp rfl rfl rfl) rfl rfl rfl ?_
                refine XO_nil ?_
                refine at_then ?_
                refine X_seq ?_
                refine X_cond rfl (fun hc144 => ?_) (fun hc144 => ?_)
                · skip
                  have hlt_k : k < (sgnF ps bs (mrgF ps A B)).length := by have h := hc144; simp at h; omega
                  obtain ⟨x, hx⟩ := hS2.at hlt_k
                  refine X_skip ?_
                  refine at_then ?_
                  refine X_seq ?_
                  refine X_block ?_
                  refine X_seq ?_
                  refine X_region ?_
                  refine XO_v0 (ev_indexSl rfl rfl slt_39 (by assumption) (fun hg => by omega)) rfl rfl rfl ?_
                  refine XO_v0 (ev_loadA rfl agt_35 (fun hg => by first | exact Sl.getA hP1 hp | exact Sl.getA hS1 hx | exact Sl.getA hS2 hx | exact Sl.getA hUf hx | exact Sl.getA hWf hy | exact Cells.g0 | exact Cells.g1 | exact Cells.g2 | exact Cells.g3 | exact Cells.g4 | exact Cells.g5 | exact Cells.s0 (vs := [_, _, _, _, _, _, _, _, _, _, _, _, _, _]) rfl | exact Cells.s1 (vs := [_, _, _, _, _, _, _, _, _, _, _, _, _, _]) rfl | exact Cells.s2 (vs := [_, _, _, _, _, _, _, _, _, _, _, _, _, _]) rfl | exact Cells.s3 (vs := [_, _, _, _, _, _, _, _, _, _, _, _, _, _]) rfl | exact Cells.s4 (vs := [_, _, _, _, _, _, _, _, _, _, _, _, _, _]) rfl | exact Cells.s5 (vs := [_, _, _, _, _, _, _, _, _, _, _, _, _, _]) rfl | (repeat (first | exact Cells.here | apply Cells.there | apply Cells.app))) rfl) rfl rfl rfl ?_
                  refine XO_alloc zt_35 rfl rfl (fun b_27 => ?_)
                  refine XO_storeA rfl rfl szt_35 rfl rfl rfl rfl (by first | exact Upd.u0 | exact Upd.u1 | exact Upd.u2 | exact Upd.u3 | exact Upd.u4 | exact Upd.u5 | (repeat (first | exact Upd.here | apply Upd.there | apply upd_app))) ?_
                  refine XO_nil ?_
                  refine at_then ?_
                  refine X_seq ?_
                  refine X_region ?_
                  refine XO_v0 (ev_move rfl) rfl rfl rfl ?_
                  refine XO_v0 (ev_fieldAddr rfl fld_35_0) rfl rfl rfl ?_
                  refine XO_v0 (ev_load rfl sct_3 (fun hg => by first | exact Cell.h0 rfl | exact Cell.h1 rfl | exact Cell.h2 rfl | exact Cell.h3 rfl | exact Cell.h4 rfl | exact Cell.h5 rfl | (repeat (first | exact Cell.here rfl | apply Cell.there | apply Cell.app)))) rfl rfl rfl ?_
                  refine XO_callV0 (cap := []) (vs := [_, _]) rfl rfl fun_13 (w_has hTo (by omega) _) rfl rfl ?_
                  refine XO_v0 (ev_not rfl) rfl rfl rfl ?_
                  refine XO_nil ?_
                  refine at_then ?_
                  refine X_cond rfl (fun hc151 => ?_) (fun hc151 => ?_)
                  · skip
                    refine X_region ?_
                    refine XO_v0 (ev_move rfl) rfl rfl rfl ?_
                    refine XO_v0 (ev_loadA rfl agt_35 (fun hg => by first | exact Sl.getA hP1 hp | exact Sl.getA hS1 hx | exact Sl.getA hS2 hx | exact Sl.getA hUf hx | exact Sl.getA hWf hy | exact Cells.g0 | exact Cells.g1 | exact Cells.g2 | exact Cells.g3 | exact Cells.g4 | exact Cells.g5 | exact Cells.s0 (vs := [_, _, _, _, _, _, _, _, _, _, _, _, _, _]) rfl | exact Cells.s1 (vs := [_, _, _, _, _, _, _, _, _, _, _, _, _, _]) rfl | exact Cells.s2 (vs := [_, _, _, _, _, _, _, _, _, _, _, _, _, _]) rfl | exact Cells.s3 (vs := [_, _, _, _, _, _, _, _, _, _, _, _, _, _]) rfl | exact Cells.s4 (vs := [_, _, _, _, _, _, _, _, _, _, _, _, _, _]) rfl | exact Cells.s5 (vs := [_, _, _, _, _, _, _, _, _, _, _, _, _, _]) rfl | (repeat (first | exact Cells.here | apply Cells.there | apply Cells.app))) rfl) rfl rfl rfl ?_
                    refine XO_buildSlice (ps := [(0, _)]) (m := [encG x]) elt_39 rfl (.cons rfl (.nil)) rfl (by simp [encI_len, encP_len, encG_len]) (by decide) (by decide) rfl rfl (fun b_154 => ?_)
                    refine XO_append (v := _) (ys := [x].flatMap encG) (L := L) rfl rfl elt_39 hO (by repeat (first | exact .cons .here .nil | exact split_all | exact split_app | apply split_cons | apply split_skip)) ⟨rfl, fun _ => rfl, Cells.here⟩ (one_G [x]) (by omega) rfl rfl ?_
                    intro v9 L9 hO9 _; rw [← List.flatMap_append] at hO9
                    refine XO_v0 (ev_assign rfl) rfl rfl rfl ?_
                    refine XO_nil ?_
                    refine at_block_n ?_
                    refine at_then ?_
                    refine X_region ?_
                    refine XO_v0 (ev_arB rfl rfl rfl (fun hg => by first | omega | (simp [conj] at hg; omega))) rfl rfl rfl ?_
                    refine XO_v0 (ev_move rfl) rfl rfl rfl ?_
                    refine XO_nil ?_
                    first
                    | exact at_met2 _ _ ⟨(sgnF ps bs (mrgF ps A B)).length - (k + 1), by omega, k + 1, _, _, _, rfl, rfl, rfl, rfl, by omega, by rw [flt_no hx hc151]; exact hO, by omega⟩ (.cons rfl (.cons rfl (.cons rfl (.cons rfl (.cons rfl (.cons rfl .nil)))))) (by repeat (first | exact .refl | exact subL_left | refine subL_app ?_ | refine .drop ?_ | refine subL_add ?_))
                    | exact at_met2 _ _ ⟨(sgnF ps bs (mrgF ps A B)).length - (k + 1), by omega, k + 1, _, _, _, rfl, rfl, rfl, rfl, by omega, by rw [flt_yes hx hc151]; exact hO9, by omega⟩ (.cons rfl (.cons rfl (.cons rfl (.cons rfl (.cons rfl (.cons rfl .nil)))))) (by repeat (first | exact .refl | exact subL_left | refine subL_app ?_ | refine .drop ?_ | refine subL_add ?_))
                  · skip
                    refine X_skip ?_
                    refine at_block_n ?_
                    refine at_then ?_
                    refine X_region ?_
                    refine XO_v0 (ev_arB rfl rfl rfl (fun hg => by first | omega | (simp [conj] at hg; omega))) rfl rfl rfl ?_
                    refine XO_v0 (ev_move rfl) rfl rfl rfl ?_
                    refine XO_nil ?_
                    first
                    | exact at_met2 _ _ ⟨(sgnF ps bs (mrgF ps A B)).length - (k + 1), by omega, k + 1, _, _, _, rfl, rfl, rfl, rfl, by omega, by rw [flt_no hx hc151]; exact hO, by omega⟩ (.cons rfl (.cons rfl (.cons rfl (.cons rfl (.cons rfl (.cons rfl .nil)))))) (by repeat (first | exact .refl | exact subL_left | refine subL_app ?_ | refine .drop ?_ | refine subL_add ?_))
                    | exact at_met2 _ _ ⟨(sgnF ps bs (mrgF ps A B)).length - (k + 1), by omega, k + 1, _, _, _, rfl, rfl, rfl, rfl, by omega, by rw [flt_yes hx hc151]; exact hO9, by omega⟩ (.cons rfl (.cons rfl (.cons rfl (.cons rfl (.cons rfl (.cons rfl .nil)))))) (by repeat (first | exact .refl | exact subL_left | refine subL_app ?_ | refine .drop ?_ | refine subL_add ?_))
                · skip
                  have hge_k : (sgnF ps bs (mrgF ps A B)).length ≤ k := by have h := hc144; simp at h; omega
                  rw [take_all rfl hge_k] at hO
                  refine X_exit ?_
                  refine at_then_e ?_
                  refine at_then_e ?_
                  refine at_block_hit ?_
                  refine at_then ?_
                  refine X_seq ?_
                  refine X_seq ?_
                  refine X_freezeO hO encG_len (by decide) (by repeat (first | exact .cons .here .nil | exact split_all | exact split_app | apply split_cons | apply split_skip)) (fun I11 hI11 af11 cf11 ef11 hWf => ?_)
                  subst ef11
                  have hP := hP.mono hI11
                  have hB := hB.mono hI11
                  have hT := hT.mono hI11
                  have hU := hU.mono hI11
                  have hA := hA.mono hI11
                  have hB0 := hB0.mono hI11
                  have hM := hM.mono hI11
                  have hS1 := hS1.mono hI11
                  have hS2 := hS2.mono hI11
                  have hTo := hTo.mono hI11
                  have hUf := hUf.mono hI11
                  have hIc := hIc.trans hI11
                  have hsame := oth_same ⟨by omega, by omega⟩ (mrg_sub hvA hvB) he1 he2
                  have hlu := hUf.len
                  have hlw := hWf.len
                  change ((sgnF ps bs A).filter (notP (touL ps (mrgF ps A B) A))) = ((sgnF ps bs (mrgF ps A B)).filter (notP (touL ps (mrgF ps A B) A))) at hsame
                  refine X_region ?_
                  refine XO_v0 (ev_move rfl) rfl rfl rfl ?_
                  refine XO_v0 (ev_lenS rfl slt_39) rfl rfl rfl ?_
                  refine XO_v0 (ev_move rfl) rfl rfl rfl ?_
                  refine XO_v0 (ev_lenS rfl slt_39) rfl rfl rfl ?_
                  refine XO_v0 (ev_cmp rfl rfl rfl) rfl rfl rfl ?_
                  refine XO_nil ?_
                  refine at_then ?_
                  refine X_cond rfl (fun hc161 => ?_) (fun hc161 => ?_)
                  · skip
                    rw [← hlu, ← hlw, hsame] at hc161; simp at hc161
                  · skip
                    refine X_skip ?_
                    refine at_then ?_
                    refine X_seq ?_
                    refine X_seq ?_
                    refine X_region ?_
                    refine XO_v0 (ev_move rfl) rfl rfl rfl ?_
                    refine XO_v0 (ev_lenS rfl slt_39) rfl rfl rfl ?_
                    refine XO_v0 (ev_move rfl) rfl rfl rfl ?_
                    refine XO_nil ?_
                    refine at_then ?_
                    refine X_block ?_
                    refine X_loopT [(22, _), (23, _), (163, _)] (.cons rfl (.cons rfl (.cons rfl .nil))) (fun T L0 mz E I' loc' => ∃ (k : Nat), mz = qu - k ∧ E = (164, .int .i64 k) :: T ∧ I11 = I' ∧ L0 = loc' ∧ k ≤ qu) _ _ _ _ ⟨0, rfl, rfl, rfl, rfl, Nat.zero_le _⟩ (.cons rfl (.cons rfl (.cons rfl (.cons rfl .nil)))) (HLe.refl _) rfl ?_
                    rintro mz E I' loc' ⟨k, rfl, rfl, rfl, rfl, hk⟩
                    refine X_seq ?_
                    refine X_region ?_
                    refine XO_v0 (ev_cmp rfl rfl rfl) rfl rfl rfl ?_
                    refine XO_nil ?_
                    refine at_then ?_
                    refine X_seq ?_
                    refine X_cond rfl (fun hc165 => ?_) (fun hc165 => ?_)
                    · skip
                      have hlt_k : k < qu := by have h := hc165; simp at h; omega
                      obtain ⟨x, hx⟩ := hUf.at hlt_k
                      have hqq : qu = qw := by rw [← hlw, ← hsame, hlu]
                      obtain ⟨y, hy⟩ := hWf.at (show k < qw by omega)
                      have hxy : x = y := by rw [hsame, hy] at hx; exact (Option.some.inj hx).symm
                      refine X_skip ?_
                      refine at_then ?_
                      refine X_seq ?_
                      refine X_block ?_
                      refine X_seq ?_
                      refine X_region ?_
                      refine XO_v0 (ev_move rfl) rfl rfl rfl ?_
                      refine XO_v0 (ev_assign rfl) rfl rfl rfl ?_
                      refine XO_nil ?_
                      refine at_then ?_
                      refine X_seq ?_
                      refine X_draw mixed (by kernel_rfl) ?_
                      refine XQ_v0 (ev_move rfl) rfl rfl rfl ?_
                      refine XQ_v0 (ev_move rfl) rfl rfl rfl ?_
                      refine XQ_v0 (ev_indexSl rfl rfl slt_39 (by assumption) (fun hg => by omega)) rfl rfl rfl ?_
                      refine XQ_v0 (ev_loadA rfl agt_35 (fun hg => by first | exact Sl.getA hP1 hp | exact Sl.getA hS1 hx | exact Sl.getA hS2 hx | exact Sl.getA hUf hx | exact Sl.getA hWf hy | exact Cells.g0 | exact Cells.g1 | exact Cells.g2 | exact Cells.g3 | exact Cells.g4 | exact Cells.g5 | exact Cells.s0 (vs := [_, _, _, _, _, _, _, _, _, _, _, _, _, _]) rfl | exact Cells.s1 (vs := [_, _, _, _, _, _, _, _, _, _, _, _, _, _]) rfl | exact Cells.s2 (vs := [_, _, _, _, _, _, _, _, _, _, _, _, _, _]) rfl | exact Cells.s3 (vs := [_, _, _, _, _, _, _, _, _, _, _, _, _, _]) rfl | exact Cells.s4 (vs := [_, _, _, _, _, _, _, _, _, _, _, _, _, _]) rfl | exact Cells.s5 (vs := [_, _, _, _, _, _, _, _, _, _, _, _, _, _]) rfl | (repeat (first | exact Cells.here | apply Cells.there | apply Cells.app))) rfl) rfl rfl rfl ?_
                      refine XQ_v0 (ev_move rfl) rfl rfl rfl ?_
                      refine XQ_v0 (ev_move rfl) rfl rfl rfl ?_
                      refine XQ_v0 (ev_indexSl rfl rfl slt_39 (by assumption) (fun hg => by omega)) rfl rfl rfl ?_
                      refine XQ_v0 (ev_loadA rfl agt_35 (fun hg => by first | exact Sl.getA hP1 hp | exact Sl.getA hS1 hx | exact Sl.getA hS2 hx | exact Sl.getA hUf hx | exact Sl.getA hWf hy | exact Cells.g0 | exact Cells.g1 | exact Cells.g2 | exact Cells.g3 | exact Cells.g4 | exact Cells.g5 | exact Cells.s0 (vs := [_, _, _, _, _, _, _, _, _, _, _, _, _, _]) rfl | exact Cells.s1 (vs := [_, _, _, _, _, _, _, _, _, _, _, _, _, _]) rfl | exact Cells.s2 (vs := [_, _, _, _, _, _, _, _, _, _, _, _, _, _]) rfl | exact Cells.s3 (vs := [_, _, _, _, _, _, _, _, _, _, _, _, _, _]) rfl | exact Cells.s4 (vs := [_, _, _, _, _, _, _, _, _, _, _, _, _, _]) rfl | exact Cells.s5 (vs := [_, _, _, _, _, _, _, _, _, _, _, _, _, _]) rfl | (repeat (first | exact Cells.here | apply Cells.there | apply Cells.app))) rfl) rfl rfl rfl ?_
                      refine XQ_v0 (ev_neS2 rfl rfl eqt2_35 rfl) rfl rfl rfl ?_
                      refine XQ_nil ?_
                      refine at_then ?_
                      refine X_cond rfl (fun hc175 => ?_) (fun hc175 => ?_)
                      · skip
                        subst hxy; have h := (Bool.not_eq_true' _).mp hc175; exact (sgEq_no h rfl).elim
                      · skip
                        refine X_skip ?_
                        refine at_block_n ?_
                        refine at_then ?_
                        refine X_region ?_
                        refine XO_v0 (ev_arB rfl rfl rfl (fun hg => by first | omega | (simp [conj] at hg; omega))) rfl rfl rfl ?_
                        refine XO_v0 (ev_move rfl) rfl rfl rfl ?_
                        refine XO_nil ?_
                        exact at_met2 _ _ ⟨qu - (k + 1), by omega, k + 1, rfl, rfl, rfl, rfl, by omega⟩ (.cons rfl (.cons rfl (.cons rfl (.cons rfl .nil)))) (by repeat (first | exact .refl | exact subL_left | refine subL_app ?_ | refine .drop ?_ | refine subL_add ?_))
                    · skip
                      have hge_k : qu ≤ k := by have h := hc165; simp at h; omega
                      refine X_exit ?_
                      refine at_then_e ?_
                      refine at_then_e ?_
                      refine at_block_hit ?_
                      refine at_then ?_
                      refine X_seq ?_
                      refine X_region ?_
                      refine XO_v0 (ev_assign rfl) rfl rfl rfl ?_
                      refine XO_nil ?_
                      refine at_then ?_
                      refine X_ret ?_
                      first
                      | exact at_ret1 rfl rfl (fun w hw => ⟨by rfl, (hw.mono hIc).drop⟩)
                      | exact at_ret1 rfl rfl (fun w hw => ⟨by rw [oth_err (base := bs) (ps := ps) ⟨by omega, by omega⟩ hvA (mrg_sub hvA hvB)], (hw.mono hIc).drop⟩)
end Go.Proofs.Ytccomeanpppfmaa
end
section
namespace Go.Kn
open Go Go.ChangeShapes Go.WideShapes Go.ChangeAt Go.RowKit
/-- All that lies in the world is read only. -/
def heapI (W : World) : HMap := fun b => W.heap[b]?
theorem St.start (W : World) : St W (heapI W) (fun _ => none) [] W :=
  ⟨rfl, rfl, rfl, ⟨Nat.le_refl _, Nat.le_refl _⟩, fun _ _ h => h, (fun _ _ h => by cases h), (fun _ _ h => by cases h), fun _ => .inr rfl, (fun _ _ h => by cases h), by simp⟩
theorem St.below {W w : World} {H : HMap} {loc : Loc} (h : St W (heapI W) H loc w) : Below W.heap.size W w :=
  ⟨h.os, h.tape, h.out, h.size.1, fun k hk => by
    have e : W.heap[k]? = some W.heap[k] := Array.getElem?_eq_getElem hk
    rw [h.imm k _ e, e]⟩
theorem RetV.law {P : Program} {f : FuncId} {args : List Value} {W : World} {v : Value} (h : RetV P f args (heapI W) v) : Calls P f args.toArray W fun e w' => e = .returned v ∧ Below W.heap.size W w' :=
  (h W _ W (St.start W)).mono fun _ _ ⟨he, hs⟩ => ⟨he, hs.below⟩
theorem keptBut_below {W w : World} {may : MemPlace → Prop} (h : Below W.heap.size W w) : W.keptBut w may := by
  refine ⟨h.os, h.output, fun i hi => ?_⟩
  rw [h.block i hi]
  rw [Array.getElem?_eq_getElem hi]
  cases W.heap[i] <;> simp
theorem trodAll_stays {H : Type} {enc : TypeId × Value → H} {P : Program} {W W' : World} (hl : laidOutB P = true) (hB : Below W.heap.size W W') (sp : Nat → Bool) : ∀ (ts : List TypeId) (vs : List Value) (ds : List (DataW H)) (ps : List MemPlace), (∀ t ∈ ts, P.readableRec t = true ∧ t < P.types.size) →
    DataW.TrodAll enc P W 0 (fun _ => true) true ts vs ds ps → (∀ x ∈ ps, x.block < W.heap.size ∧ sp x.block = true) → DataW.TrodAll enc P W' 0 sp true ts vs ds ps
  | [], [], [], ps, _, h, _ => h
  | t :: ts, v :: vs, d :: ds, ps, hr, ⟨p, q, h1, h2, e⟩, hlt => by
    subst e
    exact ⟨p, q, WideElems.Trod_stays hl (hr t (List.mem_cons_self ..)).1 (hr t (List.mem_cons_self ..)).2 h1 (fun x hx => hB.same (hlt x (List.mem_append_left _ hx)).1) (fun x hx => (hlt x (List.mem_append_left _ hx)).2),
      trodAll_stays hl hB sp ts vs ds q (fun t ht => hr t (List.mem_cons_of_mem _ ht)) h2 (fun x hx => hlt x (List.mem_append_right _ hx)), rfl⟩
/-- A law's row: it hands back true; the input reads as it did. -/
theorem post_law {H : Type} {enc : TypeId × Value → H} {P : Program} {f : Func} {s : ChangeSpec} {again : Bool} {W W' : World} {args : Array Value} {ds : List (DataW H)} {before : List MemPlace} {tb : TypeId}
    (hl : laidOutB P = true) (hr : f.resultTypes = #[tb]) (hb : P.underlying tb = some .bool) (hv : s.vars = []) (hs : (s.fn H (ds ++ [])) = { results := [.lit (.bool true)], args := ds }) (hrd : ∀ t ∈ f.params.toList, P.readableRec t = true ∧ t < P.types.size)
    (hW : DataW.Whole enc P f.params.toList s.vars false W args.toList ds [] before) (hB : Below W.heap.size W W') : s.post enc P f false true false again W args (.bool true) W' := by
  have hlt : ∀ x ∈ before, x.block < W.heap.size := fun x hx => by simpa using hW.lt x hx
  have hW0 := hW
  obtain ⟨p, q, hA, hV, rfl, hfz, _⟩ := hW
  rw [hv] at hV
  obtain ⟨_, rfl⟩ := trodVars_none hV
  rw [List.append_nil] at hlt hfz hW0
  have hres : ∀ (b : Nat) (sp : Nat → Bool) (hd : Bool), DataW.TrodAll enc P W' b sp hd f.resultTypes.toList ((Value.bool true).resultList f.resultTypes.size) [.lit (.bool true)] [] := fun b sp hd => by
    rw [hr]; exact trodAll_mk1 (shut_bool hb true)
  have hargs : ∀ sp : Nat → Bool, (∀ x ∈ p, sp x.block = true) → DataW.TrodAll enc P W' 0 sp true f.params.toList args.toList ds p := fun sp h => trodAll_stays hl hB sp _ _ _ _ hrd hA (fun x hx => ⟨hlt x hx, h x hx⟩)
  have hnil : ∀ sp : Nat → Bool, DataW.TrodVars enc P W' sp s.vars [] [] := fun sp => by rw [hv]; rfl
  refine ⟨ds, [], p, [], p, [], hW0, ?_, ?_, ?_, keptBut_below hB, fun _ => ?_⟩
  · rw [hs]; exact hres _ _ _
  · rw [hs]; exact hargs _ (fun x hx => by simpa using hlt x hx)
  · rw [hs]; exact hnil _
  · refine ⟨fun j t r ht hr' => ?_, [.lit (.bool true)] ++ ds, [], [] ++ p, ⟨[] ++ p, [], trodAll_append (hargs _ (fun _ _ => rfl)) (hres _ _ _), hnil _, by simp, ?_, fun h => by cases h⟩, fun x hx _ => by simpa using hx⟩
    · rw [hr] at ht hr'
      cases j with
      | zero => simp [Value.resultList] at ht hr'; subst ht; subst hr'; exact okWide_bool_mk hb _
      | succ j => simp at ht
    · intro b off hx
      rw [hB.frozen (hlt _ (by simpa using hx))]
      exact hfz b off (by simpa using hx)
theorem cell_heap {W : World} {b o : Nat} {u : Value} (h : W.cell? ⟨b, o, none⟩ = some u) : Cell (heapI W) [] b o u := by
  unfold World.cell? at h
  split at h
  · rename_i c t fz hb
    simp only [Option.isSome_none, Bool.false_eq_true, if_false] at h
    exact ⟨c, t, fz, .inl hb, h⟩
  · cases h
/-- A slice that came in, as it is read. -/
theorem open_SlT {H : Type} {enc : TypeId × Value → H} {P : Program} {W : World} {t e : TypeId} {size fuel0 : Nat} {cs : List Value} {x0 : DataW H × List MemPlace} {α : Type} (enc' : α → List Value) (ok : α → Prop)
    (ht : P.underlying t = some (.slice e)) (hc : P.cellsOf e = size) (hpos : 0 < size) (hlen : ∀ y, (enc' y).length = size)
    (hel : ∀ fuel cs x, DataW.trod enc P W 0 (fun _ => true) true fuel e cs = some x → ∃ y, ok y ∧ enc' y = cs)
    (hf' : DataW.trod enc P W 0 (fun _ => true) true fuel0 t cs = some x0) : ∃ av n c xs, cs = [.slice av n c] ∧ Sl (heapI W) size enc' av n c xs ∧ (∀ x ∈ xs, ok x) ∧ c ≤ maxLen := by
  rcases Go.Deep.open_slice ht hf' with ⟨e1, _⟩ | ⟨a, len0, cap0, m, n, D, Pl, e1, hb, hl, hm, hmm, _, hx⟩
  · subst e1
    exact ⟨none, 0, 0, [], rfl, .nil, (fun x hx => by cases hx), Nat.zero_le _⟩
  · subst e1
    have hlm : len0 ≤ m := by rw [hmm]; simp; exact hl
    have each : ∀ i, i < len0 → ∃ y, ok y ∧ W.cells? 0 (a.add (i * size)) size = some (enc' y) := fun i hi => by
      obtain ⟨cs', h1, h2⟩ := hx i (by omega)
      obtain ⟨y, hy, e⟩ := hel _ _ _ h2
      rw [hc] at h1
      exact ⟨y, hy, by rw [h1, e]⟩
    have all : ∀ k, k ≤ len0 → ∃ xs : List α, xs.length = k ∧ ∀ i x, xs[i]? = some x → ok x ∧ W.cells? 0 (a.add (i * size)) size = some (enc' x) := by
      intro k
      induction k with
      | zero => intro _; exact ⟨[], rfl, fun i x h => by simp at h⟩
      | succ k ih =>
        intro hk
        obtain ⟨xs, hl', hxs⟩ := ih (by omega)
        obtain ⟨y, hy, hcy⟩ := each k (by omega)
        refine ⟨xs ++ [y], by simp [hl'], fun i x h => ?_⟩
        by_cases hi : i < xs.length
        · rw [List.getElem?_append_left hi] at h; exact hxs i x h
        · rw [List.getElem?_append_right (by omega)] at h
          have : i = k := by have := (List.getElem?_eq_some_iff.1 h).1; simp at this; omega
          subst this
          rw [hl'] at h; simp at h; subst h
          exact ⟨hy, hcy⟩
    obtain ⟨xs, hl', hxs⟩ := all len0 (Nat.le_refl _)
    have add0 : ∀ (b o n : Nat), (⟨b, o, none⟩ : Addr).add n = ⟨b, o + n, none⟩ := fun b o n => by
      unfold Addr.add
      split
      · rename_i e; subst e; rfl
      · rfl
    have hspot : 0 < xs.length → a.spot = none := fun hx => by
      have hx0 : xs[0]? = some xs[0] := List.getElem?_eq_getElem hx
      have hp0 : 0 < (enc' xs[0]).length := by rw [hlen]; exact hpos
      obtain ⟨_, h1, h2⟩ := World.cells?_some (hxs 0 _ hx0).2
      have h3 := h2 0 hpos
      rw [List.getElem?_eq_getElem hp0] at h3
      simpa [Addr.add] using World.cell?_spot h3
    have cellat : ∀ i x, xs[i]? = some x → ∀ j u, (enc' x)[j]? = some u → W.cell? ⟨a.block, a.off + i * size + j, none⟩ = some u := fun i x hx j u hu => by
      obtain ⟨_, h1, h2⟩ := World.cells?_some (hxs i x hx).2
      have hj : j < size := by rw [← hlen x]; exact (List.getElem?_eq_some_iff.1 hu).1
      have h3 := h2 j hj
      rw [hu] at h3
      have hsp := hspot (by have := (List.getElem?_eq_some_iff.1 hx).1; omega)
      obtain ⟨b, o, sp⟩ := a
      simp only at hsp
      subst hsp
      rw [add0, add0] at h3
      exact h3
    refine ⟨some a, len0, cap0, xs, rfl, ⟨hl', hl, fun hn => ?_, fun k x hx j u hu => ?_⟩, fun x hx => ?_, hm⟩
    · have := hspot (by omega)
      obtain ⟨b, o, sp⟩ := a
      simp only at this
      subst this; rfl
    · exact cell_heap (cellat k x hx j u hu)
    · obtain ⟨i, hi⟩ := List.getElem?_of_mem hx
      exact (hxs i x hi).1
theorem open_Sl {H : Type} {enc : TypeId × Value → H} {P : Program} {W : World} {base : Nat} {t e : TypeId} {size : Nat} {v : Value} {d : DataW H} {p : List MemPlace} {α : Type} (enc' : α → List Value) (ok : α → Prop)
    (ht : P.underlying t = some (.slice e)) (hc : P.cellsOf e = size) (hpos : 0 < size) (hlen : ∀ y, (enc' y).length = size)
    (hel : ∀ fuel cs x, DataW.trod enc P W 0 (fun _ => true) true fuel e cs = some x → ∃ y, ok y ∧ enc' y = cs)
    (hv : Value.okWide P W .any base t v) (h : DataW.Trod enc P W 0 (fun _ => true) true t v d p) : ∃ av n c xs, v = .slice av n c ∧ Sl (heapI W) size enc' av n c xs ∧ (∀ x ∈ xs, ok x) ∧ c ≤ maxLen := by
  obtain ⟨a0, len0, cap0, rfl⟩ := okWide_slice ht hv
  obtain ⟨fuel, hf⟩ := h
  obtain ⟨av, n, c, xs, e, h1, h2, h3⟩ := open_SlT enc' ok ht hc hpos hlen hel (cs := [.slice a0 len0 cap0]) (by simpa [Value.cells] using hf)
  cases e
  exact ⟨_, _, _, xs, rfl, h1, h2, h3⟩
/-- A slice of one-cell ints. -/
theorem el_int {H : Type} {enc : TypeId × Value → H} {P : Program} {W : World} {e : TypeId} {k : IntKind} (he : P.underlying e = some (.int k)) (hk : k = .i64) (fuel : Nat) (cs : List Value) (x : DataW H × List MemPlace) (h : DataW.trod enc P W 0 (fun _ => true) true fuel e cs = some x) :
    ∃ y : Int, (-9223372036854775808 ≤ y ∧ y ≤ 9223372036854775807) ∧ [Value.int .i64 y] = cs := by
  subst hk
  obtain ⟨v, hv⟩ : ∃ v, cs = [v] := by
    have := h
    cases fuel with
    | zero => simp [DataW.trod] at this
    | succ m => unfold DataW.trod at this; rw [he] at this; split at this <;> simp_all
  subst hv
  obtain ⟨n, e, _, w⟩ := DataW.trod_int he h
  cases e
  simp only [Lit.wf, Bool.and_eq_true, decide_eq_true_eq] at w
  exact ⟨n, w, rfl⟩
end Go.Kn
end
section
namespace Go.Kn
open Go
theorem trod_seg {H : Type} {enc : TypeId × Value → H} {P : Program} {W : World} {base : Nat} {spare : Nat → Bool} {held : Bool} {t C : Nat} {fs : Array Field} {fuel : Nat} {cs : List Value} {x : DataW H × List MemPlace} (hs : P.underlying t = some (.struct fs))
    (hC : P.cellsOf t = C) (h : DataW.trod enc P W base spare held fuel t cs = some x) :
    cs.length = C ∧ ∃ n, ∀ (i ty off k : Nat), ((fs[i]?).map fun f => (f.type, f.offset)) = some (ty, off) → P.cellsOf ty = k → ∃ y, DataW.trod enc P W base spare held n ty ((cs.drop off).take k) = some y := by
  obtain ⟨xs, n, _, _, hl, hxl, hf⟩ := DataW.trod_struct hs h
  refine ⟨hl.trans hC, n, fun i ty off k hi hk => ?_⟩
  obtain ⟨f, hfi, e⟩ := Option.map_eq_some_iff.1 hi
  cases e
  have g := hf i f hfi
  have hix : i < xs.length := by rw [hxl]; exact (Array.getElem?_eq_some_iff.1 hfi).1
  rw [hk, List.getElem?_eq_getElem hix] at g
  exact ⟨_, g⟩
end Go.Kn
end
section
namespace Go.Proofs.Ytccomeanpppfmaa
open Go Go.Kn Go.Proofs
open Go.ChangeShapes Go.WideShapes Go.ChangeAt Go.RowKit
set_option maxRecDepth 100000
theorem ound_3 : Try.prog.underlying 3 = some (.int .i64) := by kernel_rfl
theorem ostr_33 : Try.prog.underlying 33 = some (.struct (Try.prog.fieldsOf 33)) := by kernel_rfl
theorem ostr_35 : Try.prog.underlying 35 = some (.struct (Try.prog.fieldsOf 35)) := by kernel_rfl
theorem ound_23 : Try.prog.underlying 23 = some (.slice 3) := by kernel_rfl
theorem ostr_37 : Try.prog.underlying 37 = some (.struct (Try.prog.fieldsOf 37)) := by kernel_rfl
theorem ound_22 : Try.prog.underlying 22 = some (.slice 37) := by kernel_rfl
theorem ound_39 : Try.prog.underlying 39 = some (.slice 35) := by kernel_rfl
theorem el_sg {H : Type} {enc : TypeId × Value → H} {W : World} (fuel : Nat) (cs : List Value) (x : DataW H × List MemPlace) (h : DataW.trod enc Try.prog W 0 (fun _ => true) true fuel 35 cs = some x) : ∃ y : Sg, (fun _ => True) y ∧ encG y = cs := by
  obtain ⟨hl, n0_, f0⟩ := trod_seg (C := 14) ostr_35 (by kernel_rfl) h
  match cs, hl with
  | [c0, c1, c2, c3, c4, c5, c6, c7, c8, c9, c10, c11, c12, c13], _ =>
    obtain ⟨_, g0_0⟩ := f0 0 3 0 1 (by kernel_rfl) (by kernel_rfl)
    obtain ⟨n0, e0, _, w0⟩ := DataW.trod_int ound_3 (show DataW.trod enc Try.prog W 0 (fun _ => true) true n0_ 3 [c0] = some _ from g0_0)
    obtain ⟨_, g0_1⟩ := f0 1 3 1 1 (by kernel_rfl) (by kernel_rfl)
    obtain ⟨n1, e1, _, w1⟩ := DataW.trod_int ound_3 (show DataW.trod enc Try.prog W 0 (fun _ => true) true n0_ 3 [c1] = some _ from g0_1)
    obtain ⟨_, g0_2⟩ := f0 2 3 2 1 (by kernel_rfl) (by kernel_rfl)
    obtain ⟨n2, e2, _, w2⟩ := DataW.trod_int ound_3 (show DataW.trod enc Try.prog W 0 (fun _ => true) true n0_ 3 [c2] = some _ from g0_2)
    obtain ⟨_, g0_3⟩ := f0 3 3 3 1 (by kernel_rfl) (by kernel_rfl)
    obtain ⟨n3, e3, _, w3⟩ := DataW.trod_int ound_3 (show DataW.trod enc Try.prog W 0 (fun _ => true) true n0_ 3 [c3] = some _ from g0_3)
    obtain ⟨_, g0_4⟩ := f0 4 3 4 1 (by kernel_rfl) (by kernel_rfl)
    obtain ⟨n4, e4, _, w4⟩ := DataW.trod_int ound_3 (show DataW.trod enc Try.prog W 0 (fun _ => true) true n0_ 3 [c4] = some _ from g0_4)
    obtain ⟨_, g0_5⟩ := f0 5 3 5 1 (by kernel_rfl) (by kernel_rfl)
    obtain ⟨n5, e5, _, w5⟩ := DataW.trod_int ound_3 (show DataW.trod enc Try.prog W 0 (fun _ => true) true n0_ 3 [c5] = some _ from g0_5)
    obtain ⟨_, g0_6⟩ := f0 6 3 6 1 (by kernel_rfl) (by kernel_rfl)
    obtain ⟨n6, e6, _, w6⟩ := DataW.trod_int ound_3 (show DataW.trod enc Try.prog W 0 (fun _ => true) true n0_ 3 [c6] = some _ from g0_6)
    obtain ⟨_, g0_7⟩ := f0 7 3 7 1 (by kernel_rfl) (by kernel_rfl)
    obtain ⟨n7, e7, _, w7⟩ := DataW.trod_int ound_3 (show DataW.trod enc Try.prog W 0 (fun _ => true) true n0_ 3 [c7] = some _ from g0_7)
    obtain ⟨_, g0_8⟩ := f0 8 3 8 1 (by kernel_rfl) (by kernel_rfl)
    obtain ⟨n8, e8, _, w8⟩ := DataW.trod_int ound_3 (show DataW.trod enc Try.prog W 0 (fun _ => true) true n0_ 3 [c8] = some _ from g0_8)
    obtain ⟨_, g0_9⟩ := f0 9 3 9 1 (by kernel_rfl) (by kernel_rfl)
    obtain ⟨n9, e9, _, w9⟩ := DataW.trod_int ound_3 (show DataW.trod enc Try.prog W 0 (fun _ => true) true n0_ 3 [c9] = some _ from g0_9)
    obtain ⟨_, g0_10⟩ := f0 10 33 10 2 (by kernel_rfl) (by kernel_rfl)
    obtain ⟨_, n1_, f1⟩ := trod_seg (C := 2) ostr_33 (by kernel_rfl) (show DataW.trod enc Try.prog W 0 (fun _ => true) true n0_ 33 [c10, c11] = some _ from g0_10)
    obtain ⟨_, g1_0⟩ := f1 0 3 0 1 (by kernel_rfl) (by kernel_rfl)
    obtain ⟨n10, e10, _, w10⟩ := DataW.trod_int ound_3 (show DataW.trod enc Try.prog W 0 (fun _ => true) true n1_ 3 [c10] = some _ from g1_0)
    obtain ⟨_, g1_1⟩ := f1 1 3 1 1 (by kernel_rfl) (by kernel_rfl)
    obtain ⟨n11, e11, _, w11⟩ := DataW.trod_int ound_3 (show DataW.trod enc Try.prog W 0 (fun _ => true) true n1_ 3 [c11] = some _ from g1_1)
    obtain ⟨_, g0_11⟩ := f0 11 33 12 2 (by kernel_rfl) (by kernel_rfl)
    obtain ⟨_, n2_, f2⟩ := trod_seg (C := 2) ostr_33 (by kernel_rfl) (show DataW.trod enc Try.prog W 0 (fun _ => true) true n0_ 33 [c12, c13] = some _ from g0_11)
    obtain ⟨_, g2_0⟩ := f2 0 3 0 1 (by kernel_rfl) (by kernel_rfl)
    obtain ⟨n12, e12, _, w12⟩ := DataW.trod_int ound_3 (show DataW.trod enc Try.prog W 0 (fun _ => true) true n2_ 3 [c12] = some _ from g2_0)
    obtain ⟨_, g2_1⟩ := f2 1 3 1 1 (by kernel_rfl) (by kernel_rfl)
    obtain ⟨n13, e13, _, w13⟩ := DataW.trod_int ound_3 (show DataW.trod enc Try.prog W 0 (fun _ => true) true n2_ 3 [c13] = some _ from g2_1)
    cases e0; cases e1; cases e2; cases e3; cases e4; cases e5; cases e6; cases e7; cases e8; cases e9; cases e10; cases e11; cases e12; cases e13
    exact ⟨⟨n0, n1, n2, n3, n4, n5, n6, n7, n8, n9, n10, n11, n12, n13⟩, trivial, rfl⟩
theorem el_pt {H : Type} {enc : TypeId × Value → H} {W : World} (fuel : Nat) (cs : List Value) (x : DataW H × List MemPlace) (h : DataW.trod enc Try.prog W 0 (fun _ => true) true fuel 37 cs = some x) : ∃ y : Pt, (fun p => Nd (heapI W) p) y ∧ encP y = cs := by
  obtain ⟨hl, n0_, f0⟩ := trod_seg (C := 19) ostr_37 (by kernel_rfl) h
  match cs, hl with
  | [c0, c1, c2, c3, c4, c5, c6, c7, c8, c9, c10, c11, c12, c13, c14, c15, c16, c17, c18], _ =>
    obtain ⟨_, g0_0⟩ := f0 0 3 0 1 (by kernel_rfl) (by kernel_rfl)
    obtain ⟨n0, e0, _, w0⟩ := DataW.trod_int ound_3 (show DataW.trod enc Try.prog W 0 (fun _ => true) true n0_ 3 [c0] = some _ from g0_0)
    obtain ⟨_, g0_1⟩ := f0 1 3 1 1 (by kernel_rfl) (by kernel_rfl)
    obtain ⟨n1, e1, _, w1⟩ := DataW.trod_int ound_3 (show DataW.trod enc Try.prog W 0 (fun _ => true) true n0_ 3 [c1] = some _ from g0_1)
    obtain ⟨_, g0_2⟩ := f0 2 3 2 1 (by kernel_rfl) (by kernel_rfl)
    obtain ⟨n2, e2, _, w2⟩ := DataW.trod_int ound_3 (show DataW.trod enc Try.prog W 0 (fun _ => true) true n0_ 3 [c2] = some _ from g0_2)
    obtain ⟨_, g0_3⟩ := f0 3 3 3 1 (by kernel_rfl) (by kernel_rfl)
    obtain ⟨n3, e3, _, w3⟩ := DataW.trod_int ound_3 (show DataW.trod enc Try.prog W 0 (fun _ => true) true n0_ 3 [c3] = some _ from g0_3)
    obtain ⟨_, g0_4⟩ := f0 4 35 4 14 (by kernel_rfl) (by kernel_rfl)
    obtain ⟨_, n1_, f1⟩ := trod_seg (C := 14) ostr_35 (by kernel_rfl) (show DataW.trod enc Try.prog W 0 (fun _ => true) true n0_ 35 [c4, c5, c6, c7, c8, c9, c10, c11, c12, c13, c14, c15, c16, c17] = some _ from g0_4)
    obtain ⟨_, g1_0⟩ := f1 0 3 0 1 (by kernel_rfl) (by kernel_rfl)
    obtain ⟨n4, e4, _, w4⟩ := DataW.trod_int ound_3 (show DataW.trod enc Try.prog W 0 (fun _ => true) true n1_ 3 [c4] = some _ from g1_0)
    obtain ⟨_, g1_1⟩ := f1 1 3 1 1 (by kernel_rfl) (by kernel_rfl)
    obtain ⟨n5, e5, _, w5⟩ := DataW.trod_int ound_3 (show DataW.trod enc Try.prog W 0 (fun _ => true) true n1_ 3 [c5] = some _ from g1_1)
    obtain ⟨_, g1_2⟩ := f1 2 3 2 1 (by kernel_rfl) (by kernel_rfl)
    obtain ⟨n6, e6, _, w6⟩ := DataW.trod_int ound_3 (show DataW.trod enc Try.prog W 0 (fun _ => true) true n1_ 3 [c6] = some _ from g1_2)
    obtain ⟨_, g1_3⟩ := f1 3 3 3 1 (by kernel_rfl) (by kernel_rfl)
    obtain ⟨n7, e7, _, w7⟩ := DataW.trod_int ound_3 (show DataW.trod enc Try.prog W 0 (fun _ => true) true n1_ 3 [c7] = some _ from g1_3)
    obtain ⟨_, g1_4⟩ := f1 4 3 4 1 (by kernel_rfl) (by kernel_rfl)
    obtain ⟨n8, e8, _, w8⟩ := DataW.trod_int ound_3 (show DataW.trod enc Try.prog W 0 (fun _ => true) true n1_ 3 [c8] = some _ from g1_4)
    obtain ⟨_, g1_5⟩ := f1 5 3 5 1 (by kernel_rfl) (by kernel_rfl)
    obtain ⟨n9, e9, _, w9⟩ := DataW.trod_int ound_3 (show DataW.trod enc Try.prog W 0 (fun _ => true) true n1_ 3 [c9] = some _ from g1_5)
    obtain ⟨_, g1_6⟩ := f1 6 3 6 1 (by kernel_rfl) (by kernel_rfl)
    obtain ⟨n10, e10, _, w10⟩ := DataW.trod_int ound_3 (show DataW.trod enc Try.prog W 0 (fun _ => true) true n1_ 3 [c10] = some _ from g1_6)
    obtain ⟨_, g1_7⟩ := f1 7 3 7 1 (by kernel_rfl) (by kernel_rfl)
    obtain ⟨n11, e11, _, w11⟩ := DataW.trod_int ound_3 (show DataW.trod enc Try.prog W 0 (fun _ => true) true n1_ 3 [c11] = some _ from g1_7)
    obtain ⟨_, g1_8⟩ := f1 8 3 8 1 (by kernel_rfl) (by kernel_rfl)
    obtain ⟨n12, e12, _, w12⟩ := DataW.trod_int ound_3 (show DataW.trod enc Try.prog W 0 (fun _ => true) true n1_ 3 [c12] = some _ from g1_8)
    obtain ⟨_, g1_9⟩ := f1 9 3 9 1 (by kernel_rfl) (by kernel_rfl)
    obtain ⟨n13, e13, _, w13⟩ := DataW.trod_int ound_3 (show DataW.trod enc Try.prog W 0 (fun _ => true) true n1_ 3 [c13] = some _ from g1_9)
    obtain ⟨_, g1_10⟩ := f1 10 33 10 2 (by kernel_rfl) (by kernel_rfl)
    obtain ⟨_, n2_, f2⟩ := trod_seg (C := 2) ostr_33 (by kernel_rfl) (show DataW.trod enc Try.prog W 0 (fun _ => true) true n1_ 33 [c14, c15] = some _ from g1_10)
    obtain ⟨_, g2_0⟩ := f2 0 3 0 1 (by kernel_rfl) (by kernel_rfl)
    obtain ⟨n14, e14, _, w14⟩ := DataW.trod_int ound_3 (show DataW.trod enc Try.prog W 0 (fun _ => true) true n2_ 3 [c14] = some _ from g2_0)
    obtain ⟨_, g2_1⟩ := f2 1 3 1 1 (by kernel_rfl) (by kernel_rfl)
    obtain ⟨n15, e15, _, w15⟩ := DataW.trod_int ound_3 (show DataW.trod enc Try.prog W 0 (fun _ => true) true n2_ 3 [c15] = some _ from g2_1)
    obtain ⟨_, g1_11⟩ := f1 11 33 12 2 (by kernel_rfl) (by kernel_rfl)
    obtain ⟨_, n3_, f3⟩ := trod_seg (C := 2) ostr_33 (by kernel_rfl) (show DataW.trod enc Try.prog W 0 (fun _ => true) true n1_ 33 [c16, c17] = some _ from g1_11)
    obtain ⟨_, g3_0⟩ := f3 0 3 0 1 (by kernel_rfl) (by kernel_rfl)
    obtain ⟨n16, e16, _, w16⟩ := DataW.trod_int ound_3 (show DataW.trod enc Try.prog W 0 (fun _ => true) true n3_ 3 [c16] = some _ from g3_0)
    obtain ⟨_, g3_1⟩ := f3 1 3 1 1 (by kernel_rfl) (by kernel_rfl)
    obtain ⟨n17, e17, _, w17⟩ := DataW.trod_int ound_3 (show DataW.trod enc Try.prog W 0 (fun _ => true) true n3_ 3 [c17] = some _ from g3_1)
    obtain ⟨_, g0_5⟩ := f0 5 23 18 1 (by kernel_rfl) (by kernel_rfl)
    obtain ⟨a18, m18, q18, n18, e18, s18, o18, _⟩ := open_SlT (t := 23) (e := 3) encI (fun n : Int => -9223372036854775808 ≤ n ∧ n ≤ 9223372036854775807) ound_23 (by kernel_rfl) (by decide) encI_len (fun fuel cs x h => el_int ound_3 rfl fuel cs x h) (show DataW.trod enc Try.prog W 0 (fun _ => true) true n0_ 23 [c18] = some _ from g0_5)
    cases e0; cases e1; cases e2; cases e3; cases e4; cases e5; cases e6; cases e7; cases e8; cases e9; cases e10; cases e11; cases e12; cases e13; cases e14; cases e15; cases e16; cases e17; cases e18
    exact ⟨⟨n0, n1, n2, n3, ⟨n4, n5, n6, n7, n8, n9, n10, n11, n12, n13, n14, n15, n16, n17⟩, a18, m18, q18, n18⟩, s18, rfl⟩
theorem open_ps {H : Type} {enc : TypeId × Value → H} {W : World} {base : Nat} {v : Value} {d : DataW H} {p : List MemPlace} (hv : Value.okWide Try.prog W .any base 22 v) (h : DataW.Trod enc Try.prog W 0 (fun _ => true) true 22 v d p) :
    ∃ av n c xs, v = .slice av n c ∧ SlP (heapI W) av n c xs := by
  obtain ⟨av, n, c, xs, e, hS, hok, _⟩ := open_Sl (e := 37) encP (fun p => Nd (heapI W) p) ound_22 (by kernel_rfl) (by decide) encP_len (fun fuel cs x h => el_pt fuel cs x h) hv h
  exact ⟨av, n, c, xs, e, ⟨hS, hok⟩⟩
theorem open_sgs {H : Type} {enc : TypeId × Value → H} {W : World} {base : Nat} {v : Value} {d : DataW H} {p : List MemPlace} (hv : Value.okWide Try.prog W .any base 39 v) (h : DataW.Trod enc Try.prog W 0 (fun _ => true) true 39 v d p) :
    ∃ av n c xs, v = .slice av n c ∧ Sl (heapI W) 14 encG av n c xs := by
  obtain ⟨av, n, c, xs, e, hS, hok, _⟩ := open_Sl (e := 35) encG (fun _ => True) ound_39 (by kernel_rfl) (by decide) encG_len (fun fuel cs x h => el_sg fuel cs x h) hv h
  exact ⟨av, n, c, xs, e, hS⟩
theorem open_ints {H : Type} {enc : TypeId × Value → H} {W : World} {base : Nat} {v : Value} {d : DataW H} {p : List MemPlace} (hv : Value.okWide Try.prog W .any base 23 v) (h : DataW.Trod enc Try.prog W 0 (fun _ => true) true 23 v d p) :
    ∃ av n c xs, v = .slice av n c ∧ Sl (heapI W) 1 encI av n c xs := by
  obtain ⟨av, n, c, xs, e, hS, hok, _⟩ := open_Sl (e := 3) encI (fun n : Int => -9223372036854775808 ≤ n ∧ n ≤ 9223372036854775807) ound_23 (by kernel_rfl) (by decide) encI_len (fun fuel cs x h => el_int ound_3 rfl fuel cs x h) hv h
  exact ⟨av, n, c, xs, e, hS⟩
end Go.Proofs.Ytccomeanpppfmaa
end
section
namespace Go.Proofs.Ytccomeanpppfmaa
open Go Go.Kn Go.Proofs
open Go.ChangeShapes Go.WideShapes Go.ChangeAt Go.RowKit
theorem own : ownKnob Try.prog.godebug = none := by kernel_rfl
theorem laidOut : laidOutB Try.prog = true := by kernel_rfl
set_option maxRecDepth 100000 in
theorem roomsOthers_lifted (os : Os) (started : os.Started) (H : Type) (enc : TypeId × Value → H) :
    ReturnsInHanded {} Try.checked os 6 .any (Rows.roomsOthersSpec.pre6 enc Try.prog Try.f6 Rows.roomsOthersRow.domain false) (Rows.roomsOthersSpec.post enc Try.prog Try.f6 false true false false) := by
  refine returnsInHanded_of_change (C := Try.checked) own started (by kernel_rfl) Try.func6
    (ChangeSpec.witness6 (enc := enc) (C := Try.checked) false ⟨#[], #[.slice none 0 0, .slice none 0 0, .slice none 0 0, .slice none 0 0], []⟩ 8 (by kernel_rfl) (by kernel_rfl) (by kernel_rfl) (by kernel_rfl)) ?_
  intro W base args ds gs before hval0 hW hcnd _
  have hval : ∀ (j : Nat) t v, Try.f6.params[j]? = some t → args[j]? = some v → Value.okWide Try.prog W .any base t v := hval0
  have hW' := hW
  obtain ⟨p, q, hA0, hV, rfl, hfz, hnd⟩ := hW
  have hA : DataW.TrodAll enc Try.prog W 0 (fun _ => true) true Try.f6.params.toList args.toList ds p := hA0
  rw [Try.params6] at hA hval
  obtain ⟨v0, vs1, d0, ds1, p0, q1, ea, rfl, rfl, h0, hA⟩ := trodAll_cons hA
  obtain ⟨v1, vs2, d1, ds2, p1, q2, rfl, rfl, rfl, h1, hA⟩ := trodAll_cons hA
  obtain ⟨v2, vs3, d2, ds3, p2, q3, rfl, rfl, rfl, h2, hA⟩ := trodAll_cons hA
  obtain ⟨v3, vs4, d3, ds4, p3, q4, rfl, rfl, rfl, h3, hA⟩ := trodAll_cons hA
  obtain ⟨rfl, rfl, rfl⟩ := trodAll_nil hA
  have ea' : args = #[v0, v1, v2, v3] := by rw [← Array.toArray_toList (xs := args), ea]
  subst ea'
  obtain ⟨rfl, rfl⟩ := trodVars_none hV
  obtain ⟨av, n, c, ps, rfl, hP⟩ := open_ps (hval 0 22 v0 rfl rfl) h0
  obtain ⟨bv, n2, c2, bs, rfl, hB⟩ := open_sgs (hval 1 39 v1 rfl rfl) h1
  obtain ⟨dv, n3, c3, ys, rfl, hT⟩ := open_ints (hval 2 23 v2 rfl rfl) h2
  obtain ⟨ev, n4, c4, zs, rfl, hU⟩ := open_ints (hval 3 23 v3 rfl rfl) h3
  refine (RetV.law (w_othersLaw hP hB hT hU)).mono fun e W' ⟨he, hB⟩ => ?_
  subst he
  exact ⟨_, rfl, post_law laidOut (by kernel_rfl) und_4 rfl rfl (by rw [Try.params6]; simp only [List.mem_cons, List.not_mem_nil, or_false, forall_eq_or_imp, forall_eq]; exact ⟨⟨by kernel_rfl, of_decide_eq_true (by kernel_rfl)⟩, ⟨by kernel_rfl, of_decide_eq_true (by kernel_rfl)⟩, ⟨by kernel_rfl, of_decide_eq_true (by kernel_rfl)⟩, ⟨by kernel_rfl, of_decide_eq_true (by kernel_rfl)⟩⟩) hW' hB⟩
theorem roomsOthers_holds : Rows.RoomsOthersSaid :=
  OpenClaim.holds_of_wide 6 Try.f6 rfl rfl rfl rfl rfl rfl rfl ⟨rfl, rfl, rfl, rfl, rfl⟩ rfl rfl rfl rfl rfl (by kernel_rfl) Try.func6 (by kernel_rfl)
    (of_decide_eq_true (by kernel_rfl)) (by unfold Func.isWrapper; first | (rw [if_pos (by decide +kernel)]; kernel_rfl) | (rw [if_neg (by decide +kernel)]; exact ⟨rfl, rfl⟩))
    (fun os started H enc _ => roomsOthers_lifted os started H enc)
#print axioms roomsOthers_holds
end Go.Proofs.Ytccomeanpppfmaa
end
