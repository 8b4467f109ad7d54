/- roomsResolved_holds, part F of the proof: what its theorems say holds without further conditions. -/
import Derived.ProofKit
import Derived.Deep.Slices
import Derived.Test.YtccomeanpppfmaaRows
import Derived.Test.YtccomeanpppfmaaResolvedE
section
namespace Go.Proofs.Ytccomeanpppfmaa
open Go Go.Kn Go.Proofs
theorem key_next {xs ys : List Cf} {k : Nat} {x y : Cf} (hx : xs[k]? = some x) (hy : ys[k]? = some y) (he : (xs.take k).map Cf.key = (ys.take k).map Cf.key) (h : x.key = y.key) : (xs.take (k + 1)).map Cf.key = (ys.take (k + 1)).map Cf.key := by
  rw [take_snoc hx, take_snoc hy, List.map_append, List.map_append, he]; simp [h]
theorem key_ne {xs ys : List Cf} {k : Nat} {x y : Cf} (hx : xs[k]? = some x) (hy : ys[k]? = some y) (h : x.key ≠ y.key) : sameF (xs.map Cf.key) (ys.map Cf.key) = false := same_ne (k := k) (x := x.key) (y := y.key) (by simp [hx]) (by simp [hy]) h
theorem w_sameI {I : HMap} {av : Option Addr} {n c : Nat} {xs : List Int} (hS : Sl I 1 encI av n c xs) (hn : n ≤ 100000) {bv : Option Addr} {n2 c2 : Nat} {ys : List Int} (hT : Sl I 1 encI bv n2 c2 ys) : RetV Try.prog 12 [.slice av n c, .slice bv n2 c2] I (.bool (sameF xs ys)) := by
  intro g H w hw
  refine enter Try.func12 rfl Try.ntmps12 rfl hw ?_
  refine X_seq ?_
  refine X_region ?_
  refine XO_v0 (ev_assign rfl) rfl rfl rfl ?_
  refine XO_nil ?_
  refine at_then ?_
  refine X_seq ?_
  refine X_seq ?_
  refine X_region ?_
  refine XO_v0 (ev_move rfl) rfl rfl rfl ?_
  refine XO_v0 (ev_lenS rfl slt_23) rfl rfl rfl ?_
  refine XO_v0 (ev_move rfl) rfl rfl rfl ?_
  refine XO_v0 (ev_lenS rfl slt_23) rfl rfl rfl ?_
  refine XO_v0 (ev_cmp rfl rfl rfl) rfl rfl rfl ?_
  refine XO_nil ?_
  refine at_then ?_
  refine X_cond rfl (fun hc10 => ?_) (fun hc10 => ?_)
  · skip
    refine X_seq ?_
    refine X_region ?_
    refine XO_v0 (ev_assign rfl) rfl rfl rfl ?_
    refine XO_nil ?_
    refine at_then ?_
    refine X_ret ?_
    refine at_then_r ?_
    first
    | exact at_ret1 rfl rfl (fun w hw => ⟨by rw [same_len hS.len hT.len (by simp at hc10; omega)], hw.drop⟩)
    | exact at_ret1 rfl rfl (fun w hw => ⟨by rw [same_ne hx hy (by simpa using hc25)], hw.drop⟩)
    | exact at_ret1 rfl rfl (fun w hw => ⟨by rw [take_all hS.len (by omega), take_all hT.len (by omega)] at he; rw [he, same_self], hw.drop⟩)
  · skip
    have hnn : n = n2 := by simp at hc10; omega
    refine X_skip ?_
    refine at_then ?_
    refine X_seq ?_
    refine X_seq ?_
    refine X_region ?_
    refine XO_v0 (ev_assign rfl) rfl rfl rfl ?_
    refine XO_nil ?_
    refine at_then ?_
    refine X_block ?_
    refine X_loopT [(0, _), (1, _)] (.cons rfl (.cons rfl .nil)) (fun T L0 mz E I' loc' => ∃ (k : Nat), mz = n - k ∧ E = (5, .int .i64 k) :: T ∧ I = I' ∧ L0 = loc' ∧ k ≤ n ∧ xs.take k = ys.take k) _ _ _ _ ⟨0, rfl, rfl, rfl, rfl, Nat.zero_le _, rfl⟩ (.cons rfl (.cons rfl (.cons rfl .nil))) (HLe.refl _) rfl ?_
    rintro mz E I' loc' ⟨k, rfl, rfl, rfl, rfl, hk, he⟩
    refine X_seq ?_
    refine X_seq ?_
    refine X_region ?_
    refine XO_v0 (ev_move rfl) rfl rfl rfl ?_
    refine XO_v0 (ev_move rfl) rfl rfl rfl ?_
    refine XO_v0 (ev_lenS rfl slt_23) rfl rfl rfl ?_
    refine XO_v0 (ev_cmp rfl rfl rfl) rfl rfl rfl ?_
    refine XO_nil ?_
    refine at_then ?_
    refine X_cond rfl (fun hc14 => ?_) (fun hc14 => ?_)
    · skip
      have hlt_k : k < n := by have h := hc14; simp at h; omega
      obtain ⟨x, hx⟩ := hS.at hlt_k
      obtain ⟨y, hy⟩ := hT.at (show k < n2 by omega)
      refine X_skip ?_
      refine at_then ?_
      refine X_seq ?_
      refine X_block ?_
      refine X_seq ?_
      refine X_draw mixed (by kernel_rfl) ?_
      refine XQ_v0 (ev_move rfl) rfl rfl rfl ?_
      refine XQ_v0 (ev_move rfl) rfl rfl rfl ?_
      refine XQ_v0 (ev_indexSl rfl rfl slt_23 (by assumption) (fun hg => by first | omega | (simp [conj] at hg; omega))) rfl rfl rfl ?_
      refine XQ_v0 (ev_load rfl sct_3 (fun hg => by first | exact Sl.get0 hS hx rfl | exact Sl.get0 hT hy rfl | exact Cell.h0 rfl | exact Cell.h1 rfl | exact Cell.h2 rfl | exact Cell.h3 rfl | exact Cell.h4 rfl | exact Cell.h5 rfl | (repeat (first | exact Cell.here rfl | apply Cell.there | apply Cell.app)))) rfl rfl rfl ?_
      refine XQ_v0 (ev_move rfl) rfl rfl rfl ?_
      refine XQ_v0 (ev_move rfl) rfl rfl rfl ?_
      refine XQ_v0 (ev_indexSl rfl rfl slt_23 (by assumption) (fun hg => by first | omega | (simp [conj] at hg; omega))) rfl rfl rfl ?_
      refine XQ_v0 (ev_load rfl sct_3 (fun hg => by first | exact Sl.get0 hS hx rfl | exact Sl.get0 hT hy rfl | exact Cell.h0 rfl | exact Cell.h1 rfl | exact Cell.h2 rfl | exact Cell.h3 rfl | exact Cell.h4 rfl | exact Cell.h5 rfl | (repeat (first | exact Cell.here rfl | apply Cell.there | apply Cell.app)))) rfl rfl rfl ?_
      refine XQ_v0 (ev_cmp rfl rfl rfl) rfl rfl rfl ?_
      refine XQ_nil ?_
      refine at_then ?_
      refine X_cond rfl (fun hc25 => ?_) (fun hc25 => ?_)
      · skip
        refine X_seq ?_
        refine X_region ?_
        refine XO_v0 (ev_assign rfl) rfl rfl rfl ?_
        refine XO_nil ?_
        refine at_then ?_
        refine X_ret ?_
        refine at_block_r ?_
        refine at_then_r ?_
        refine at_then_r ?_
        refine at_block_r ?_
        refine at_then_r ?_
        first
        | exact at_ret1 rfl rfl (fun w hw => ⟨by rw [same_len hS.len hT.len (by simp at hc10; omega)], hw.drop⟩)
        | exact at_ret1 rfl rfl (fun w hw => ⟨by rw [same_ne hx hy (by simpa using hc25)], hw.drop⟩)
        | exact at_ret1 rfl rfl (fun w hw => ⟨by rw [take_all hS.len (by omega), take_all hT.len (by omega)] at he; rw [he, same_self], hw.drop⟩)
      · skip
        refine X_skip ?_
        refine at_block_n ?_
        refine at_then ?_
        refine X_region ?_
        refine XO_v0 (ev_move rfl) rfl rfl rfl ?_
        refine XO_v0 (ev_arB rfl rfl rfl (fun _ => by omega)) rfl rfl rfl ?_
        refine XO_v0 (ev_assign rfl) rfl rfl rfl ?_
        refine XO_nil ?_
        exact at_met2 _ _ ⟨n - (k + 1), by omega, k + 1, rfl, rfl, rfl, rfl, by omega, take_next hx hy he (by simpa using hc25)⟩ (.cons rfl (.cons rfl (.cons rfl .nil))) (by repeat (first | exact .refl | exact subL_left | refine subL_app ?_ | refine .drop ?_ | refine subL_add ?_))
    · skip
      have hge_k : n ≤ k := by have h := hc14; simp at h; omega
      refine X_exit ?_
      refine at_then_e ?_
      refine at_then_e ?_
      refine at_block_hit ?_
      refine at_then ?_
      refine X_seq ?_
      refine X_region ?_
      refine XO_v0 (ev_assign rfl) rfl rfl rfl ?_
      refine XO_nil ?_
      refine at_then ?_
      refine X_ret ?_
      first
      | exact at_ret1 rfl rfl (fun w hw => ⟨by rw [same_len hS.len hT.len (by simp at hc10; omega)], hw.drop⟩)
      | exact at_ret1 rfl rfl (fun w hw => ⟨by rw [same_ne hx hy (by simpa using hc25)], hw.drop⟩)
      | exact at_ret1 rfl rfl (fun w hw => ⟨by rw [take_all hS.len (by omega), take_all hT.len (by omega)] at he; rw [he, same_self], hw.drop⟩)
theorem w_sameG {I : HMap} {av : Option Addr} {n c : Nat} {xs : List Sg} (hS : Sl I 14 encG av n c xs) (hn : n ≤ 100000) {bv : Option Addr} {n2 c2 : Nat} {ys : List Sg} (hT : Sl I 14 encG bv n2 c2 ys) : RetV Try.prog 17 [.slice av n c, .slice bv n2 c2] I (.bool (sameF xs ys)) := by
  intro g H w hw
  refine enter Try.func17 rfl Try.ntmps17 rfl hw ?_
  refine X_seq ?_
  refine X_region ?_
  refine XO_v0 (ev_assign rfl) rfl rfl rfl ?_
  refine XO_nil ?_
  refine at_then ?_
  refine X_seq ?_
  refine X_seq ?_
  refine X_region ?_
  refine XO_v0 (ev_move rfl) rfl rfl rfl ?_
  refine XO_v0 (ev_lenS rfl slt_39) rfl rfl rfl ?_
  refine XO_v0 (ev_move rfl) rfl rfl rfl ?_
  refine XO_v0 (ev_lenS rfl slt_39) rfl rfl rfl ?_
  refine XO_v0 (ev_cmp rfl rfl rfl) rfl rfl rfl ?_
  refine XO_nil ?_
  refine at_then ?_
  refine X_cond rfl (fun hc10 => ?_) (fun hc10 => ?_)
  · skip
    refine X_seq ?_
    refine X_region ?_
    refine XO_v0 (ev_assign rfl) rfl rfl rfl ?_
    refine XO_nil ?_
    refine at_then ?_
    refine X_ret ?_
    refine at_then_r ?_
    first
    | exact at_ret1 rfl rfl (fun w hw => ⟨by rw [same_len hS.len hT.len (by simp at hc10; omega)], hw.drop⟩)
    | exact at_ret1 rfl rfl (fun w hw => ⟨by rw [same_ne hx hy (sgEq_no ((Bool.not_eq_true' _).mp hc25))], hw.drop⟩)
    | exact at_ret1 rfl rfl (fun w hw => ⟨by rw [take_all hS.len (by omega), take_all hT.len (by omega)] at he; rw [he, same_self], hw.drop⟩)
  · skip
    have hnn : n = n2 := by simp at hc10; omega
    refine X_skip ?_
    refine at_then ?_
    refine X_seq ?_
    refine X_seq ?_
    refine X_region ?_
    refine XO_v0 (ev_assign rfl) rfl rfl rfl ?_
    refine XO_nil ?_
    refine at_then ?_
    refine X_block ?_
    refine X_loopT [(0, _), (1, _)] (.cons rfl (.cons rfl .nil)) (fun T L0 mz E I' loc' => ∃ (k : Nat), mz = n - k ∧ E = (5, .int .i64 k) :: T ∧ I = I' ∧ L0 = loc' ∧ k ≤ n ∧ xs.take k = ys.take k) _ _ _ _ ⟨0, rfl, rfl, rfl, rfl, Nat.zero_le _, rfl⟩ (.cons rfl (.cons rfl (.cons rfl .nil))) (HLe.refl _) rfl ?_
    rintro mz E I' loc' ⟨k, rfl, rfl, rfl, rfl, hk, he⟩
    refine X_seq ?_
    refine X_seq ?_
    refine X_region ?_
    refine XO_v0 (ev_move rfl) rfl rfl rfl ?_
    refine XO_v0 (ev_move rfl) rfl rfl rfl ?_
    refine XO_v0 (ev_lenS rfl slt_39) rfl rfl rfl ?_
    refine XO_v0 (ev_cmp rfl rfl rfl) rfl rfl rfl ?_
    refine XO_nil ?_
    refine at_then ?_
    refine X_cond rfl (fun hc14 => ?_) (fun hc14 => ?_)
    · skip
      have hlt_k : k < n := by have h := hc14; simp at h; omega
      obtain ⟨x, hx⟩ := hS.at hlt_k
      obtain ⟨y, hy⟩ := hT.at (show k < n2 by omega)
      refine X_skip ?_
      refine at_then ?_
      refine X_seq ?_
      refine X_block ?_
      refine X_seq ?_
      refine X_draw mixed (by kernel_rfl) ?_
      refine XQ_v0 (ev_move rfl) rfl rfl rfl ?_
      refine XQ_v0 (ev_move rfl) rfl rfl rfl ?_
      refine XQ_v0 (ev_indexSl rfl rfl slt_39 (by assumption) (fun hg => by first | omega | (simp [conj] at hg; omega))) rfl rfl rfl ?_
      refine XQ_v0 (ev_loadA rfl agt_35 (fun hg => by first | exact Sl.getA hS hx | exact Sl.getA hT hy | exact Cells.g0 | exact Cells.g1 | exact Cells.g2 | exact Cells.g3 | exact Cells.g4 | exact Cells.g5 | exact Cells.s0 (vs := [_, _, _, _, _, _, _, _, _, _, _, _, _, _]) rfl | exact Cells.s1 (vs := [_, _, _, _, _, _, _, _, _, _, _, _, _, _]) rfl | exact Cells.s2 (vs := [_, _, _, _, _, _, _, _, _, _, _, _, _, _]) rfl | exact Cells.s3 (vs := [_, _, _, _, _, _, _, _, _, _, _, _, _, _]) rfl | exact Cells.s4 (vs := [_, _, _, _, _, _, _, _, _, _, _, _, _, _]) rfl | exact Cells.s5 (vs := [_, _, _, _, _, _, _, _, _, _, _, _, _, _]) rfl | (repeat (first | exact Cells.here | apply Cells.there | apply Cells.app))) rfl) rfl rfl rfl ?_
      refine XQ_v0 (ev_move rfl) rfl rfl rfl ?_
      refine XQ_v0 (ev_move rfl) rfl rfl rfl ?_
      refine XQ_v0 (ev_indexSl rfl rfl slt_39 (by assumption) (fun hg => by first | omega | (simp [conj] at hg; omega))) rfl rfl rfl ?_
      refine XQ_v0 (ev_loadA rfl agt_35 (fun hg => by first | exact Sl.getA hS hx | exact Sl.getA hT hy | exact Cells.g0 | exact Cells.g1 | exact Cells.g2 | exact Cells.g3 | exact Cells.g4 | exact Cells.g5 | exact Cells.s0 (vs := [_, _, _, _, _, _, _, _, _, _, _, _, _, _]) rfl | exact Cells.s1 (vs := [_, _, _, _, _, _, _, _, _, _, _, _, _, _]) rfl | exact Cells.s2 (vs := [_, _, _, _, _, _, _, _, _, _, _, _, _, _]) rfl | exact Cells.s3 (vs := [_, _, _, _, _, _, _, _, _, _, _, _, _, _]) rfl | exact Cells.s4 (vs := [_, _, _, _, _, _, _, _, _, _, _, _, _, _]) rfl | exact Cells.s5 (vs := [_, _, _, _, _, _, _, _, _, _, _, _, _, _]) rfl | (repeat (first | exact Cells.here | apply Cells.there | apply Cells.app))) rfl) rfl rfl rfl ?_
      refine XQ_v0 (ev_neS2 rfl rfl eqt2_35 rfl) rfl rfl rfl ?_
      refine XQ_nil ?_
      refine at_then ?_
      refine X_cond rfl (fun hc25 => ?_) (fun hc25 => ?_)
      · skip
        refine X_seq ?_
        refine X_region ?_
        refine XO_v0 (ev_assign rfl) rfl rfl rfl ?_
        refine XO_nil ?_
        refine at_then ?_
        refine X_ret ?_
        refine at_block_r ?_
        refine at_then_r ?_
        refine at_then_r ?_
        refine at_block_r ?_
        refine at_then_r ?_
        first
        | exact at_ret1 rfl rfl (fun w hw => ⟨by rw [same_len hS.len hT.len (by simp at hc10; omega)], hw.drop⟩)
        | exact at_ret1 rfl rfl (fun w hw => ⟨by rw [same_ne hx hy (sgEq_no ((Bool.not_eq_true' _).mp hc25))], hw.drop⟩)
        | exact at_ret1 rfl rfl (fun w hw => ⟨by rw [take_all hS.len (by omega), take_all hT.len (by omega)] at he; rw [he, same_self], hw.drop⟩)
      · skip
        refine X_skip ?_
        refine at_block_n ?_
        refine at_then ?_
        refine X_region ?_
        refine XO_v0 (ev_move rfl) rfl rfl rfl ?_
        refine XO_v0 (ev_arB rfl rfl rfl (fun _ => by omega)) rfl rfl rfl ?_
        refine XO_v0 (ev_assign rfl) rfl rfl rfl ?_
        refine XO_nil ?_
        exact at_met2 _ _ ⟨n - (k + 1), by omega, k + 1, rfl, rfl, rfl, rfl, by omega, take_next hx hy he (sgEq_iff.1 ((Bool.not_eq_false' _).mp hc25))⟩ (.cons rfl (.cons rfl (.cons rfl .nil))) (by repeat (first | exact .refl | exact subL_left | refine subL_app ?_ | refine .drop ?_ | refine subL_add ?_))
    · skip
      have hge_k : n ≤ k := by have h := hc14; simp at h; omega
      refine X_exit ?_
      refine at_then_e ?_
      refine at_then_e ?_
      refine at_block_hit ?_
      refine at_then ?_
      refine X_seq ?_
      refine X_region ?_
      refine XO_v0 (ev_assign rfl) rfl rfl rfl ?_
      refine XO_nil ?_
      refine at_then ?_
      refine X_ret ?_
      first
      | exact at_ret1 rfl rfl (fun w hw => ⟨by rw [same_len hS.len hT.len (by simp at hc10; omega)], hw.drop⟩)
      | exact at_ret1 rfl rfl (fun w hw => ⟨by rw [same_ne hx hy (sgEq_no ((Bool.not_eq_true' _).mp hc25))], hw.drop⟩)
      | exact at_ret1 rfl rfl (fun w hw => ⟨by rw [take_all hS.len (by omega), take_all hT.len (by omega)] at he; rw [he, same_self], hw.drop⟩)
theorem w_sameC {I : HMap} {av : Option Addr} {n c : Nat} {cs : List Cf} (hC : SlC I av n c cs) (hn : n ≤ 100000) {bv : Option Addr} {n2 c2 : Nat} {ds : List Cf} (hD : SlC I bv n2 c2 ds) (hcn : ∀ z ∈ cs, z.n ≤ 100000) : RetV Try.prog 18 [.slice av n c, .slice bv n2 c2] I (.bool (sameF (cs.map Cf.key) (ds.map Cf.key))) := by
  intro g H w hw
  refine enter Try.func18 rfl Try.ntmps18 rfl hw ?_
  have hS := hC.1
  have hT := hD.1
  refine X_seq ?_
  refine X_region ?_
  refine XO_v0 (ev_assign rfl) rfl rfl rfl ?_
  refine XO_nil ?_
  refine at_then ?_
  refine X_seq ?_
  refine X_seq ?_
  refine X_region ?_
  refine XO_v0 (ev_move rfl) rfl rfl rfl ?_
  refine XO_v0 (ev_lenS rfl slt_40) rfl rfl rfl ?_
  refine XO_v0 (ev_move rfl) rfl rfl rfl ?_
  refine XO_v0 (ev_lenS rfl slt_40) rfl rfl rfl ?_
  refine XO_v0 (ev_cmp rfl rfl rfl) rfl rfl rfl ?_
  refine XO_nil ?_
  refine at_then ?_
  refine X_cond rfl (fun hc10 => ?_) (fun hc10 => ?_)
  · skip
    refine X_seq ?_
    refine X_region ?_
    refine XO_v0 (ev_assign rfl) rfl rfl rfl ?_
    refine XO_nil ?_
    refine at_then ?_
    refine X_ret ?_
    refine at_then_r ?_
    first
    | exact at_ret1 rfl rfl (fun w hw => ⟨by rw [same_len (n := n) (m := n2) (by rw [List.length_map, hS.len]) (by rw [List.length_map, hT.len]) (by simp at hc10; omega)], hw.drop⟩)
    | exact at_ret1 rfl rfl (fun w hw => ⟨by rw [key_ne hx hy (fun e => by unfold Cf.key at e; rw [Prod.mk.injEq, Prod.mk.injEq] at e; rw [e.1, e.2.1, e.2.2, same_self] at hc54; simp at hc54)], hw.drop⟩)
    | exact at_ret1 rfl rfl (fun w hw => ⟨by rw [take_all hS.len (by omega), take_all hT.len (by omega)] at he; rw [he, same_self], hw.drop⟩)
  · skip
    have hnn : n = n2 := by simp at hc10; omega
    refine X_skip ?_
    refine at_then ?_
    refine X_seq ?_
    refine X_seq ?_
    refine X_region ?_
    refine XO_v0 (ev_assign rfl) rfl rfl rfl ?_
    refine XO_nil ?_
    refine at_then ?_
    refine X_block ?_
    refine X_loopT [(0, _), (1, _)] (.cons rfl (.cons rfl .nil)) (fun T L0 mz E I' loc' => ∃ (k : Nat), mz = n - k ∧ E = (5, .int .i64 k) :: T ∧ I = I' ∧ L0 = loc' ∧ k ≤ n ∧ (cs.take k).map Cf.key = (ds.take k).map Cf.key) _ _ _ _ ⟨0, rfl, rfl, rfl, rfl, Nat.zero_le _, rfl⟩ (.cons rfl (.cons rfl (.cons rfl .nil))) (HLe.refl _) rfl ?_
    rintro mz E I' loc' ⟨k, rfl, rfl, rfl, rfl, hk, he⟩
    refine X_seq ?_
    refine X_seq ?_
    refine X_region ?_
    refine XO_v0 (ev_move rfl) rfl rfl rfl ?_
    refine XO_v0 (ev_move rfl) rfl rfl rfl ?_
    refine XO_v0 (ev_lenS rfl slt_40) rfl rfl rfl ?_
    refine XO_v0 (ev_cmp rfl rfl rfl) rfl rfl rfl ?_
    refine XO_nil ?_
    refine at_then ?_
    refine X_cond rfl (fun hc14 => ?_) (fun hc14 => ?_)
    · skip
      have hlt_k : k < n := by have h := hc14; simp at h; omega
      obtain ⟨x, hx⟩ := hS.at hlt_k
      obtain ⟨y, hy⟩ := hT.at (show k < n2 by omega)
      refine X_skip ?_
      refine at_then ?_
      refine X_seq ?_
      refine X_block ?_
      refine X_seq ?_
      refine X_draw mixed (by kernel_rfl) ?_
      refine XQ_v0 (ev_move rfl) rfl rfl rfl ?_
      refine XQ_v0 (ev_move rfl) rfl rfl rfl ?_
      refine XQ_v0 (ev_indexSl rfl rfl slt_40 (by assumption) (fun hg => by first | omega | (simp [conj] at hg; omega))) rfl rfl rfl ?_
      refine XQ_v0 (ev_fieldAddr rfl fld_44_0) rfl rfl rfl ?_
      refine XQ_v0 (ev_load rfl sct_3 (fun hg => by first | exact Sl.get hS hx rfl | exact Sl.get hT hy rfl | exact Cell.h0 rfl | exact Cell.h1 rfl | exact Cell.h2 rfl | exact Cell.h3 rfl | exact Cell.h4 rfl | exact Cell.h5 rfl | (repeat (first | exact Cell.here rfl | apply Cell.there | apply Cell.app)))) rfl rfl rfl ?_
      refine XQ_v0 (ev_move rfl) rfl rfl rfl ?_
      refine XQ_v0 (ev_move rfl) rfl rfl rfl ?_
      refine XQ_v0 (ev_indexSl rfl rfl slt_40 (by assumption) (fun hg => by first | omega | (simp [conj] at hg; omega))) rfl rfl rfl ?_
      refine XQ_v0 (ev_fieldAddr rfl fld_44_0) rfl rfl rfl ?_
      refine XQ_v0 (ev_load rfl sct_3 (fun hg => by first | exact Sl.get hS hx rfl | exact Sl.get hT hy rfl | exact Cell.h0 rfl | exact Cell.h1 rfl | exact Cell.h2 rfl | exact Cell.h3 rfl | exact Cell.h4 rfl | exact Cell.h5 rfl | (repeat (first | exact Cell.here rfl | apply Cell.there | apply Cell.app)))) rfl rfl rfl ?_
      refine XQ_v0 (ev_cmp rfl rfl rfl) rfl rfl rfl ?_
      refine XQ_v0 (ev_move rfl) rfl rfl rfl ?_
      refine XQ_pushF 11 rfl rfl rfl ?_
      refine XQ_v1 (ev_move rfl) (.some rfl rfl rfl rfl gbf) rfl rfl rfl ?_
      refine XQ_v1 (ev_move rfl) (.some rfl rfl rfl rfl gbf) rfl rfl rfl ?_
      refine XQ_v1 (ev_indexSl rfl rfl slt_40 (by assumption) (fun hg => by first | omega | (simp [conj] at hg; omega))) (.some rfl rfl rfl rfl gbf) rfl rfl rfl ?_
      refine XQ_v1 (ev_fieldAddr rfl fld_44_1) (.some rfl rfl rfl rfl gbf) rfl rfl rfl ?_
      refine XQ_v1 (ev_load rfl sct_3 (fun hg => by first | exact Sl.get hS hx rfl | exact Sl.get hT hy rfl | exact Cell.h0 rfl | exact Cell.h1 rfl | exact Cell.h2 rfl | exact Cell.h3 rfl | exact Cell.h4 rfl | exact Cell.h5 rfl | (repeat (first | exact Cell.here rfl | apply Cell.there | apply Cell.app)))) (.some rfl rfl rfl rfl gbf) rfl rfl rfl ?_
      refine XQ_v1 (ev_move rfl) (.some rfl rfl rfl rfl gbf) rfl rfl rfl ?_
      refine XQ_v1 (ev_move rfl) (.some rfl rfl rfl rfl gbf) rfl rfl rfl ?_
      refine XQ_v1 (ev_indexSl rfl rfl slt_40 (by assumption) (fun hg => by first | omega | (simp [conj] at hg; omega))) (.some rfl rfl rfl rfl gbf) rfl rfl rfl ?_
      refine XQ_v1 (ev_fieldAddr rfl fld_44_1) (.some rfl rfl rfl rfl gbf) rfl rfl rfl ?_
      refine XQ_v1 (ev_load rfl sct_3 (fun hg => by first | exact Sl.get hS hx rfl | exact Sl.get hT hy rfl | exact Cell.h0 rfl | exact Cell.h1 rfl | exact Cell.h2 rfl | exact Cell.h3 rfl | exact Cell.h4 rfl | exact Cell.h5 rfl | (repeat (first | exact Cell.here rfl | apply Cell.there | apply Cell.app)))) (.some rfl rfl rfl rfl gbf) rfl rfl rfl ?_
      refine XQ_v1 (ev_cmp rfl rfl rfl) (.some rfl rfl rfl rfl gbf) rfl rfl rfl ?_
      refine XQ_or0 rfl rfl rfl rfl rfl ?_
      refine XQ_v0 (ev_move rfl) rfl rfl rfl ?_
      refine XQ_pushF 24 rfl rfl rfl ?_
      refine XQ_v1 (ev_move rfl) (.some rfl rfl rfl rfl gbf) rfl rfl rfl ?_
      refine XQ_v1 (ev_move rfl) (.some rfl rfl rfl rfl gbf) rfl rfl rfl ?_
      refine XQ_v1 (ev_indexSl rfl rfl slt_40 (by assumption) (fun hg => by first | omega | (simp [conj] at hg; omega))) (.some rfl rfl rfl rfl gbf) rfl rfl rfl ?_
      refine XQ_v1 (ev_fieldAddr rfl fld_44_2) (.some rfl rfl rfl rfl gbf) rfl rfl rfl ?_
      refine XQ_v1 (ev_load rfl sct_23 (fun hg => by first | exact Sl.get hS hx rfl | exact Sl.get hT hy rfl | exact Cell.h0 rfl | exact Cell.h1 rfl | exact Cell.h2 rfl | exact Cell.h3 rfl | exact Cell.h4 rfl | exact Cell.h5 rfl | (repeat (first | exact Cell.here rfl | apply Cell.there | apply Cell.app)))) (.some rfl rfl rfl rfl gbf) rfl rfl rfl ?_
      refine XQ_v1 (ev_move rfl) (.some rfl rfl rfl rfl gbf) rfl rfl rfl ?_
      refine XQ_v1 (ev_move rfl) (.some rfl rfl rfl rfl gbf) rfl rfl rfl ?_
      refine XQ_v1 (ev_indexSl rfl rfl slt_40 (by assumption) (fun hg => by first | omega | (simp [conj] at hg; omega))) (.some rfl rfl rfl rfl gbf) rfl rfl rfl ?_
      refine XQ_v1 (ev_fieldAddr rfl fld_44_2) (.some rfl rfl rfl rfl gbf) rfl rfl rfl ?_
      refine XQ_v1 (ev_load rfl sct_23 (fun hg => by first | exact Sl.get hS hx rfl | exact Sl.get hT hy rfl | exact Cell.h0 rfl | exact Cell.h1 rfl | exact Cell.h2 rfl | exact Cell.h3 rfl | exact Cell.h4 rfl | exact Cell.h5 rfl | (repeat (first | exact Cell.here rfl | apply Cell.there | apply Cell.app)))) (.some rfl rfl rfl rfl gbf) rfl rfl rfl ?_
      refine XQ_callV1 (cap := []) (vs := [_, _]) rfl rfl fun_12 (fun hg => w_sameI (hC.2 _ (List.mem_of_getElem? hx)) (hcn _ (List.mem_of_getElem? hx)) (hD.2 _ (List.mem_of_getElem? hy))) (.some rfl rfl rfl rfl gbf) rfl rfl ?_
      refine XQ_v1 (ev_not rfl) (.some rfl rfl rfl rfl gbf) rfl rfl rfl ?_
      refine XQ_or0 rfl rfl rfl rfl rfl ?_
      refine XQ_nil ?_
      refine at_then ?_
      refine X_cond rfl (fun hc54 => ?_) (fun hc54 => ?_)
      · skip
        refine X_seq ?_
        refine X_region ?_
        refine XO_v0 (ev_assign rfl) rfl rfl rfl ?_
        refine XO_nil ?_
        refine at_then ?_
        refine X_ret ?_
        refine at_block_r ?_
        refine at_then_r ?_
        refine at_then_r ?_
        refine at_block_r ?_
        refine at_then_r ?_
        first
        | exact at_ret1 rfl rfl (fun w hw => ⟨by rw [same_len (n := n) (m := n2) (by rw [List.length_map, hS.len]) (by rw [List.length_map, hT.len]) (by simp at hc10; omega)], hw.drop⟩)
        | exact at_ret1 rfl rfl (fun w hw => ⟨by rw [key_ne hx hy (fun e => by unfold Cf.key at e; rw [Prod.mk.injEq, Prod.mk.injEq] at e; rw [e.1, e.2.1, e.2.2, same_self] at hc54; simp at hc54)], hw.drop⟩)
        | exact at_ret1 rfl rfl (fun w hw => ⟨by rw [take_all hS.len (by omega), take_all hT.len (by omega)] at he; rw [he, same_self], hw.drop⟩)
      · skip
        refine X_skip ?_
        refine at_block_n ?_
        refine at_then ?_
        refine X_region ?_
        refine XO_v0 (ev_move rfl) rfl rfl rfl ?_
        refine XO_v0 (ev_arB rfl rfl rfl (fun _ => by omega)) rfl rfl rfl ?_
        refine XO_v0 (ev_assign rfl) rfl rfl rfl ?_
        refine XO_nil ?_
        exact at_met2 _ _ ⟨n - (k + 1), by omega, k + 1, rfl, rfl, rfl, rfl, by omega, key_next hx hy he (by have h := hc54; simp only [Bool.or_eq_false_iff, Bool.not_eq_false', bne_eq_false_iff_eq] at h; unfold Cf.key; rw [h.1.1, h.1.2, of_decide_eq_true h.2])⟩ (.cons rfl (.cons rfl (.cons rfl .nil))) (by repeat (first | exact .refl | exact subL_left | refine subL_app ?_ | refine .drop ?_ | refine subL_add ?_))
    · skip
      have hge_k : n ≤ k := by have h := hc14; simp at h; omega
      refine X_exit ?_
      refine at_then_e ?_
      refine at_then_e ?_
      refine at_block_hit ?_
      refine at_then ?_
      refine X_seq ?_
      refine X_region ?_
      refine XO_v0 (ev_assign rfl) rfl rfl rfl ?_
      refine XO_nil ?_
      refine at_then ?_
      refine X_ret ?_
      first
      | exact at_ret1 rfl rfl (fun w hw => ⟨by rw [same_len (n := n) (m := n2) (by rw [List.length_map, hS.len]) (by rw [List.length_map, hT.len]) (by simp at hc10; omega)], hw.drop⟩)
      | exact at_ret1 rfl rfl (fun w hw => ⟨by rw [key_ne hx hy (fun e => by unfold Cf.key at e; rw [Prod.mk.injEq, Prod.mk.injEq] at e; rw [e.1, e.2.1, e.2.2, same_self] at hc54; simp at hc54)], hw.drop⟩)
      | exact at_ret1 rfl rfl (fun w hw => ⟨by rw [take_all hS.len (by omega), take_all hT.len (by omega)] at he; rw [he, same_self], hw.drop⟩)
theorem w_part (I : HMap) (x : Sg) (f : Int) : RetV Try.prog 16 [encGA x, .int .i64 f] I (encGA (setG zeroG f x)) := by
  intro g H w hw
  refine enter Try.func16 rfl Try.ntmps16 rfl hw ?_
  refine X_seq ?_
  refine X_region ?_
  refine XO_box rfl rfl rfl (fun b_2 => ?_)
  refine XO_alloc zt_35 rfl rfl (fun b_4 => ?_)
  refine XO_nil ?_
  refine at_then ?_
  refine X_seq ?_
  refine X_seq ?_
  refine X_region ?_
  refine XO_v0 (ev_move rfl) rfl rfl rfl ?_
  refine XO_nil ?_
  refine at_then ?_
  refine X_block ?_
  refine X_seq ?_
  refine X_region ?_
  refine XO_v0 (ev_cmp rfl rfl rfl) rfl rfl rfl ?_
  refine XO_v0 (ev_assign rfl) rfl rfl rfl ?_
  refine XO_nil ?_
  refine at_then ?_
  refine X_cond rfl (fun hc6 => ?_) (fun hc6 => ?_)
  · skip
    have hfk : f = 1 := by simpa using hc6
    subst hfk
    refine X_region ?_
    refine XO_v0 (ev_fieldAddr rfl fld_35_1) rfl rfl rfl ?_
    refine XO_v0 (ev_load rfl sct_3 (fun hg => by first | exact Cell.h0 rfl | exact Cell.h1 rfl | exact Cell.h2 rfl | exact Cell.h3 rfl | exact Cell.h4 rfl | exact Cell.h5 rfl | (repeat (first | exact Cell.here rfl | apply Cell.there | apply Cell.app)))) rfl rfl rfl ?_
    refine XO_v0 (ev_fieldAddr rfl fld_35_1) rfl rfl rfl ?_
    refine XO_store rfl rfl szt_3 rfl rfl (by first | exact Upd.u0 | exact Upd.u1 | exact Upd.u2 | exact Upd.u3 | exact Upd.u4 | exact Upd.u5 | (repeat (first | exact Upd.here | apply Upd.there | apply upd_app))) rfl ?_
    refine XO_nil ?_
    refine at_block_n ?_
    refine at_then ?_
    refine X_seq ?_
    refine X_region ?_
    refine XO_v0 (ev_loadA rfl agt_35 (fun hg => by first | exact Cells.g0 | exact Cells.g1 | exact Cells.g2 | exact Cells.g3 | exact Cells.g4 | exact Cells.g5 | exact Cells.s0 (vs := [_, _, _, _, _, _, _, _, _, _, _, _, _, _]) rfl | exact Cells.s1 (vs := [_, _, _, _, _, _, _, _, _, _, _, _, _, _]) rfl | exact Cells.s2 (vs := [_, _, _, _, _, _, _, _, _, _, _, _, _, _]) rfl | exact Cells.s3 (vs := [_, _, _, _, _, _, _, _, _, _, _, _, _, _]) rfl | exact Cells.s4 (vs := [_, _, _, _, _, _, _, _, _, _, _, _, _, _]) rfl | exact Cells.s5 (vs := [_, _, _, _, _, _, _, _, _, _, _, _, _, _]) rfl | (repeat (first | exact Cells.here | apply Cells.there | apply Cells.app))) rfl) rfl rfl rfl ?_
    refine XO_storeA rfl rfl szt_35 rfl rfl rfl rfl (by first | exact Upd.u0 | exact Upd.u1 | exact Upd.u2 | exact Upd.u3 | exact Upd.u4 | exact Upd.u5 | (repeat (first | exact Upd.here | apply Upd.there | apply upd_app))) ?_
    refine XO_nil ?_
    refine at_then ?_
    refine X_ret ?_
    first
    | exact at_retA rfl rfl agt_35 Cells.g0 rfl (fun w hw => ⟨rfl, hw.drop⟩)
    | exact at_retA rfl rfl agt_35 Cells.g0 rfl (fun w hw => ⟨by unfold setG; rw [if_neg hg1, if_neg hg2, if_neg hg3, if_neg hg4, if_neg hg5, if_neg hg6, if_neg hg7, if_neg hg8, if_neg hg9]; rfl, hw.drop⟩)
  · skip
    have hg1 : f ≠ 1 := by simpa using hc6
    refine X_seq ?_
    refine X_region ?_
    refine XO_v0 (ev_cmp rfl rfl rfl) rfl rfl rfl ?_
    refine XO_v0 (ev_assign rfl) rfl rfl rfl ?_
    refine XO_nil ?_
    refine at_then ?_
    refine X_cond rfl (fun hc11 => ?_) (fun hc11 => ?_)
    · skip
      have hfk : f = 2 := by simpa using hc11
      subst hfk
      refine X_region ?_
      refine XO_v0 (ev_fieldAddr rfl fld_35_2) rfl rfl rfl ?_
      refine XO_v0 (ev_load rfl sct_3 (fun hg => by first | exact Cell.h0 rfl | exact Cell.h1 rfl | exact Cell.h2 rfl | exact Cell.h3 rfl | exact Cell.h4 rfl | exact Cell.h5 rfl | (repeat (first | exact Cell.here rfl | apply Cell.there | apply Cell.app)))) rfl rfl rfl ?_
      refine XO_v0 (ev_fieldAddr rfl fld_35_2) rfl rfl rfl ?_
      refine XO_store rfl rfl szt_3 rfl rfl (by first | exact Upd.u0 | exact Upd.u1 | exact Upd.u2 | exact Upd.u3 | exact Upd.u4 | exact Upd.u5 | (repeat (first | exact Upd.here | apply Upd.there | apply upd_app))) rfl ?_
      refine XO_nil ?_
      refine at_block_n ?_
      refine at_then ?_
      refine X_seq ?_
      refine X_region ?_
      refine XO_v0 (ev_loadA rfl agt_35 (fun hg => by first | exact Cells.g0 | exact Cells.g1 | exact Cells.g2 | exact Cells.g3 | exact Cells.g4 | exact Cells.g5 | exact Cells.s0 (vs := [_, _, _, _, _, _, _, _, _, _, _, _, _, _]) rfl | exact Cells.s1 (vs := [_, _, _, _, _, _, _, _, _, _, _, _, _, _]) rfl | exact Cells.s2 (vs := [_, _, _, _, _, _, _, _, _, _, _, _, _, _]) rfl | exact Cells.s3 (vs := [_, _, _, _, _, _, _, _, _, _, _, _, _, _]) rfl | exact Cells.s4 (vs := [_, _, _, _, _, _, _, _, _, _, _, _, _, _]) rfl | exact Cells.s5 (vs := [_, _, _, _, _, _, _, _, _, _, _, _, _, _]) rfl | (repeat (first | exact Cells.here | apply Cells.there | apply Cells.app))) rfl) rfl rfl rfl ?_
      refine XO_storeA rfl rfl szt_35 rfl rfl rfl rfl (by first | exact Upd.u0 | exact Upd.u1 | exact Upd.u2 | exact Upd.u3 | exact Upd.u4 | exact Upd.u5 | (repeat (first | exact Upd.here | apply Upd.there | apply upd_app))) ?_
      refine XO_nil ?_
      refine at_then ?_
      refine X_ret ?_
      first
      | exact at_retA rfl rfl agt_35 Cells.g0 rfl (fun w hw => ⟨rfl, hw.drop⟩)
      | exact at_retA rfl rfl agt_35 Cells.g0 rfl (fun w hw => ⟨by unfold setG; rw [if_neg hg1, if_neg hg2, if_neg hg3, if_neg hg4, if_neg hg5, if_neg hg6, if_neg hg7, if_neg hg8, if_neg hg9]; rfl, hw.drop⟩)
    · skip
      have hg2 : f ≠ 2 := by simpa using hc11
      refine X_seq ?_
      refine X_region ?_
      refine XO_v0 (ev_cmp rfl rfl rfl) rfl rfl rfl ?_
      refine XO_v0 (ev_assign rfl) rfl rfl rfl ?_
      refine XO_nil ?_
      refine at_then ?_
      refine X_cond rfl (fun hc16 => ?_) (fun hc16 => ?_)
      · skip
        have hfk : f = 3 := by simpa using hc16
        subst hfk
        refine X_region ?_
        refine XO_v0 (ev_fieldAddr rfl fld_35_3) rfl rfl rfl ?_
        refine XO_v0 (ev_load rfl sct_3 (fun hg => by first | exact Cell.h0 rfl | exact Cell.h1 rfl | exact Cell.h2 rfl | exact Cell.h3 rfl | exact Cell.h4 rfl | exact Cell.h5 rfl | (repeat (first | exact Cell.here rfl | apply Cell.there | apply Cell.app)))) rfl rfl rfl ?_
        refine XO_v0 (ev_fieldAddr rfl fld_35_3) rfl rfl rfl ?_
        refine XO_store rfl rfl szt_3 rfl rfl (by first | exact Upd.u0 | exact Upd.u1 | exact Upd.u2 | exact Upd.u3 | exact Upd.u4 | exact Upd.u5 | (repeat (first | exact Upd.here | apply Upd.there | apply upd_app))) rfl ?_
        refine XO_nil ?_
        refine at_block_n ?_
        refine at_then ?_
        refine X_seq ?_
        refine X_region ?_
        refine XO_v0 (ev_loadA rfl agt_35 (fun hg => by first | exact Cells.g0 | exact Cells.g1 | exact Cells.g2 | exact Cells.g3 | exact Cells.g4 | exact Cells.g5 | exact Cells.s0 (vs := [_, _, _, _, _, _, _, _, _, _, _, _, _, _]) rfl | exact Cells.s1 (vs := [_, _, _, _, _, _, _, _, _, _, _, _, _, _]) rfl | exact Cells.s2 (vs := [_, _, _, _, _, _, _, _, _, _, _, _, _, _]) rfl | exact Cells.s3 (vs := [_, _, _, _, _, _, _, _, _, _, _, _, _, _]) rfl | exact Cells.s4 (vs := [_, _, _, _, _, _, _, _, _, _, _, _, _, _]) rfl | exact Cells.s5 (vs := [_, _, _, _, _, _, _, _, _, _, _, _, _, _]) rfl | (repeat (first | exact Cells.here | apply Cells.there | apply Cells.app))) rfl) rfl rfl rfl ?_
        refine XO_storeA rfl rfl szt_35 rfl rfl rfl rfl (by first | exact Upd.u0 | exact Upd.u1 | exact Upd.u2 | exact Upd.u3 | exact Upd.u4 | exact Upd.u5 | (repeat (first | exact Upd.here | apply Upd.there | apply upd_app))) ?_
        refine XO_nil ?_
        refine at_then ?_
        refine X_ret ?_
        first
        | exact at_retA rfl rfl agt_35 Cells.g0 rfl (fun w hw => ⟨rfl, hw.drop⟩)
        | exact at_retA rfl rfl agt_35 Cells.g0 rfl (fun w hw => ⟨by unfold setG; rw [if_neg hg1, if_neg hg2, if_neg hg3, if_neg hg4, if_neg hg5, if_neg hg6, if_neg hg7, if_neg hg8, if_neg hg9]; rfl, hw.drop⟩)
      · skip
        have hg3 : f ≠ 3 := by simpa using hc16
        refine X_seq ?_
        refine X_region ?_
        refine XO_v0 (ev_cmp rfl rfl rfl) rfl rfl rfl ?_
        refine XO_v0 (ev_assign rfl) rfl rfl rfl ?_
        refine XO_nil ?_
        refine at_then ?_
        refine X_cond rfl (fun hc21 => ?_) (fun hc21 => ?_)
        · skip
          have hfk : f = 4 := by simpa using hc21
          subst hfk
          refine X_region ?_
          refine XO_v0 (ev_fieldAddr rfl fld_35_5) rfl rfl rfl ?_
          refine XO_v0 (ev_load rfl sct_3 (fun hg => by first | exact Cell.h0 rfl | exact Cell.h1 rfl | exact Cell.h2 rfl | exact Cell.h3 rfl | exact Cell.h4 rfl | exact Cell.h5 rfl | (repeat (first | exact Cell.here rfl | apply Cell.there | apply Cell.app)))) rfl rfl rfl ?_
          refine XO_v0 (ev_fieldAddr rfl fld_35_5) rfl rfl rfl ?_
          refine XO_store rfl rfl szt_3 rfl rfl (by first | exact Upd.u0 | exact Upd.u1 | exact Upd.u2 | exact Upd.u3 | exact Upd.u4 | exact Upd.u5 | (repeat (first | exact Upd.here | apply Upd.there | apply upd_app))) rfl ?_
          refine XO_nil ?_
          refine at_block_n ?_
          refine at_then ?_
          refine X_seq ?_
          refine X_region ?_
          refine XO_v0 (ev_loadA rfl agt_35 (fun hg => by first | exact Cells.g0 | exact Cells.g1 | exact Cells.g2 | exact Cells.g3 | exact Cells.g4 | exact Cells.g5 | exact Cells.s0 (vs := [_, _, _, _, _, _, _, _, _, _, _, _, _, _]) rfl | exact Cells.s1 (vs := [_, _, _, _, _, _, _, _, _, _, _, _, _, _]) rfl | exact Cells.s2 (vs := [_, _, _, _, _, _, _, _, _, _, _, _, _, _]) rfl | exact Cells.s3 (vs := [_, _, _, _, _, _, _, _, _, _, _, _, _, _]) rfl | exact Cells.s4 (vs := [_, _, _, _, _, _, _, _, _, _, _, _, _, _]) rfl | exact Cells.s5 (vs := [_, _, _, _, _, _, _, _, _, _, _, _, _, _]) rfl | (repeat (first | exact Cells.here | apply Cells.there | apply Cells.app))) rfl) rfl rfl rfl ?_
          refine XO_storeA rfl rfl szt_35 rfl rfl rfl rfl (by first | exact Upd.u0 | exact Upd.u1 | exact Upd.u2 | exact Upd.u3 | exact Upd.u4 | exact Upd.u5 | (repeat (first | exact Upd.here | apply Upd.there | apply upd_app))) ?_
          refine XO_nil ?_
          refine at_then ?_
          refine X_ret ?_
          first
          | exact at_retA rfl rfl agt_35 Cells.g0 rfl (fun w hw => ⟨rfl, hw.drop⟩)
          | exact at_retA rfl rfl agt_35 Cells.g0 rfl (fun w hw => ⟨by unfold setG; rw [if_neg hg1, if_neg hg2, if_neg hg3, if_neg hg4, if_neg hg5, if_neg hg6, if_neg hg7, if_neg hg8, if_neg hg9]; rfl, hw.drop⟩)
        · skip
          have hg4 : f ≠ 4 := by simpa using hc21
          refine X_seq ?_
          refine X_region ?_
          refine XO_v0 (ev_cmp rfl rfl rfl) rfl rfl rfl ?_
          refine XO_v0 (ev_assign rfl) rfl rfl rfl ?_
          refine XO_nil ?_
          refine at_then ?_
          refine X_cond rfl (fun hc26 => ?_) (fun hc26 => ?_)
          · skip
            have hfk : f = 5 := by simpa using hc26
            subst hfk
            refine X_region ?_
            refine XO_v0 (ev_fieldAddr rfl fld_35_6) rfl rfl rfl ?_
            refine XO_v0 (ev_load rfl sct_3 (fun hg => by first | exact Cell.h0 rfl | exact Cell.h1 rfl | exact Cell.h2 rfl | exact Cell.h3 rfl | exact Cell.h4 rfl | exact Cell.h5 rfl | (repeat (first | exact Cell.here rfl | apply Cell.there | apply Cell.app)))) rfl rfl rfl ?_
            refine XO_v0 (ev_fieldAddr rfl fld_35_6) rfl rfl rfl ?_
            refine XO_store rfl rfl szt_3 rfl rfl (by first | exact Upd.u0 | exact Upd.u1 | exact Upd.u2 | exact Upd.u3 | exact Upd.u4 | exact Upd.u5 | (repeat (first | exact Upd.here | apply Upd.there | apply upd_app))) rfl ?_
            refine XO_nil ?_
            refine at_block_n ?_
            refine at_then ?_
            refine X_seq ?_
            refine X_region ?_
            refine XO_v0 (ev_loadA rfl agt_35 (fun hg => by first | exact Cells.g0 | exact Cells.g1 | exact Cells.g2 | exact Cells.g3 | exact Cells.g4 | exact Cells.g5 | exact Cells.s0 (vs := [_, _, _, _, _, _, _, _, _, _, _, _, _, _]) rfl | exact Cells.s1 (vs := [_, _, _, _, _, _, _, _, _, _, _, _, _, _]) rfl | exact Cells.s2 (vs := [_, _, _, _, _, _, _, _, _, _, _, _, _, _]) rfl | exact Cells.s3 (vs := [_, _, _, _, _, _, _, _, _, _, _, _, _, _]) rfl | exact Cells.s4 (vs := [_, _, _, _, _, _, _, _, _, _, _, _, _, _]) rfl | exact Cells.s5 (vs := [_, _, _, _, _, _, _, _, _, _, _, _, _, _]) rfl | (repeat (first | exact Cells.here | apply Cells.there | apply Cells.app))) rfl) rfl rfl rfl ?_
            refine XO_storeA rfl rfl szt_35 rfl rfl rfl rfl (by first | exact Upd.u0 | exact Upd.u1 | exact Upd.u2 | exact Upd.u3 | exact Upd.u4 | exact Upd.u5 | (repeat (first | exact Upd.here | apply Upd.there | apply upd_app))) ?_
            refine XO_nil ?_
            refine at_then ?_
            refine X_ret ?_
            first
            | exact at_retA rfl rfl agt_35 Cells.g0 rfl (fun w hw => ⟨rfl, hw.drop⟩)
            | exact at_retA rfl rfl agt_35 Cells.g0 rfl (fun w hw => ⟨by unfold setG; rw [if_neg hg1, if_neg hg2, if_neg hg3, if_neg hg4, if_neg hg5, if_neg hg6, if_neg hg7, if_neg hg8, if_neg hg9]; rfl, hw.drop⟩)
          · skip
            have hg5 : f ≠ 5 := by simpa using hc26
            refine X_seq ?_
            refine X_region ?_
            refine XO_v0 (ev_cmp rfl rfl rfl) rfl rfl rfl ?_
            refine XO_v0 (ev_assign rfl) rfl rfl rfl ?_
            refine XO_nil ?_
            refine at_then ?_
            refine X_cond rfl (fun hc31 => ?_) (fun hc31 => ?_)
            · skip
              have hfk : f = 6 := by simpa using hc31
              subst hfk
              refine X_region ?_
              refine XO_v0 (ev_fieldAddr rfl fld_35_7) rfl rfl rfl ?_
              refine XO_v0 (ev_load rfl sct_3 (fun hg => by first | exact Cell.h0 rfl | exact Cell.h1 rfl | exact Cell.h2 rfl | exact Cell.h3 rfl | exact Cell.h4 rfl | exact Cell.h5 rfl | (repeat (first | exact Cell.here rfl | apply Cell.there | apply Cell.app)))) rfl rfl rfl ?_
              refine XO_v0 (ev_fieldAddr rfl fld_35_7) rfl rfl rfl ?_
              refine XO_store rfl rfl szt_3 rfl rfl (by first | exact Upd.u0 | exact Upd.u1 | exact Upd.u2 | exact Upd.u3 | exact Upd.u4 | exact Upd.u5 | (repeat (first | exact Upd.here | apply Upd.there | apply upd_app))) rfl ?_
              refine XO_nil ?_
              refine at_block_n ?_
              refine at_then ?_
              refine X_seq ?_
              refine X_region ?_
              refine XO_v0 (ev_loadA rfl agt_35 (fun hg => by first | exact Cells.g0 | exact Cells.g1 | exact Cells.g2 | exact Cells.g3 | exact Cells.g4 | exact Cells.g5 | exact Cells.s0 (vs := [_, _, _, _, _, _, _, _, _, _, _, _, _, _]) rfl | exact Cells.s1 (vs := [_, _, _, _, _, _, _, _, _, _, _, _, _, _]) rfl | exact Cells.s2 (vs := [_, _, _, _, _, _, _, _, _, _, _, _, _, _]) rfl | exact Cells.s3 (vs := [_, _, _, _, _, _, _, _, _, _, _, _, _, _]) rfl | exact Cells.s4 (vs := [_, _, _, _, _, _, _, _, _, _, _, _, _, _]) rfl | exact Cells.s5 (vs := [_, _, _, _, _, _, _, _, _, _, _, _, _, _]) rfl | (repeat (first | exact Cells.here | apply Cells.there | apply Cells.app))) rfl) rfl rfl rfl ?_
              refine XO_storeA rfl rfl szt_35 rfl rfl rfl rfl (by first | exact Upd.u0 | exact Upd.u1 | exact Upd.u2 | exact Upd.u3 | exact Upd.u4 | exact Upd.u5 | (repeat (first | exact Upd.here | apply Upd.there | apply upd_app))) ?_
              refine XO_nil ?_
              refine at_then ?_
              refine X_ret ?_
              first
              | exact at_retA rfl rfl agt_35 Cells.g0 rfl (fun w hw => ⟨rfl, hw.drop⟩)
              | exact at_retA rfl rfl agt_35 Cells.g0 rfl (fun w hw => ⟨by unfold setG; rw [if_neg hg1, if_neg hg2, if_neg hg3, if_neg hg4, if_neg hg5, if_neg hg6, if_neg hg7, if_neg hg8, if_neg hg9]; rfl, hw.drop⟩)
            · skip
              have hg6 : f ≠ 6 := by simpa using hc31
              refine X_seq ?_
              refine X_region ?_
              refine XO_v0 (ev_cmp rfl rfl rfl) rfl rfl rfl ?_
              refine XO_v0 (ev_assign rfl) rfl rfl rfl ?_
              refine XO_nil ?_
              refine at_then ?_
              refine X_cond rfl (fun hc36 => ?_) (fun hc36 => ?_)
              · skip
                have hfk : f = 7 := by simpa using hc36
                subst hfk
                refine X_region ?_
                refine XO_v0 (ev_fieldAddr rfl fld_35_8) rfl rfl rfl ?_
                refine XO_v0 (ev_load rfl sct_3 (fun hg => by first | exact Cell.h0 rfl | exact Cell.h1 rfl | exact Cell.h2 rfl | exact Cell.h3 rfl | exact Cell.h4 rfl | exact Cell.h5 rfl | (repeat (first | exact Cell.here rfl | apply Cell.there | apply Cell.app)))) rfl rfl rfl ?_
                refine XO_v0 (ev_fieldAddr rfl fld_35_8) rfl rfl rfl ?_
                refine XO_store rfl rfl szt_3 rfl rfl (by first | exact Upd.u0 | exact Upd.u1 | exact Upd.u2 | exact Upd.u3 | exact Upd.u4 | exact Upd.u5 | (repeat (first | exact Upd.here | apply Upd.there | apply upd_app))) rfl ?_
                refine XO_nil ?_
                refine at_block_n ?_
                refine at_then ?_
                refine X_seq ?_
                refine X_region ?_
                refine XO_v0 (ev_loadA rfl agt_35 (fun hg => by first | exact Cells.g0 | exact Cells.g1 | exact Cells.g2 | exact Cells.g3 | exact Cells.g4 | exact Cells.g5 | exact Cells.s0 (vs := [_, _, _, _, _, _, _, _, _, _, _, _, _, _]) rfl | exact Cells.s1 (vs := [_, _, _, _, _, _, _, _, _, _, _, _, _, _]) rfl | exact Cells.s2 (vs := [_, _, _, _, _, _, _, _, _, _, _, _, _, _]) rfl | exact Cells.s3 (vs := [_, _, _, _, _, _, _, _, _, _, _, _, _, _]) rfl | exact Cells.s4 (vs := [_, _, _, _, _, _, _, _, _, _, _, _, _, _]) rfl | exact Cells.s5 (vs := [_, _, _, _, _, _, _, _, _, _, _, _, _, _]) rfl | (repeat (first | exact Cells.here | apply Cells.there | apply Cells.app))) rfl) rfl rfl rfl ?_
                refine XO_storeA rfl rfl szt_35 rfl rfl rfl rfl (by first | exact Upd.u0 | exact Upd.u1 | exact Upd.u2 | exact Upd.u3 | exact Upd.u4 | exact Upd.u5 | (repeat (first | exact Upd.here | apply Upd.there | apply upd_app))) ?_
                refine XO_nil ?_
                refine at_then ?_
                refine X_ret ?_
                first
                | exact at_retA rfl rfl agt_35 Cells.g0 rfl (fun w hw => ⟨rfl, hw.drop⟩)
                | exact at_retA rfl rfl agt_35 Cells.g0 rfl (fun w hw => ⟨by unfold setG; rw [if_neg hg1, if_neg hg2, if_neg hg3, if_neg hg4, if_neg hg5, if_neg hg6, if_neg hg7, if_neg hg8, if_neg hg9]; rfl, hw.drop⟩)
              · skip
                have hg7 : f ≠ 7 := by simpa using hc36
                refine X_seq ?_
                refine X_region ?_
                refine XO_v0 (ev_cmp rfl rfl rfl) rfl rfl rfl ?_
                refine XO_v0 (ev_assign rfl) rfl rfl rfl ?_
                refine XO_nil ?_
                refine at_then ?_
                refine X_cond rfl (fun hc41 => ?_) (fun hc41 => ?_)
                · skip
                  have hfk : f = 8 := by simpa using hc41
                  subst hfk
                  refine X_region ?_
                  refine XO_v0 (ev_fieldAddr rfl fld_35_9) rfl rfl rfl ?_
                  refine XO_v0 (ev_load rfl sct_3 (fun hg => by first | exact Cell.h0 rfl | exact Cell.h1 rfl | exact Cell.h2 rfl | exact Cell.h3 rfl | exact Cell.h4 rfl | exact Cell.h5 rfl | (repeat (first | exact Cell.here rfl | apply Cell.there | apply Cell.app)))) rfl rfl rfl ?_
                  refine XO_v0 (ev_fieldAddr rfl fld_35_9) rfl rfl rfl ?_
                  refine XO_store rfl rfl szt_3 rfl rfl (by first | exact Upd.u0 | exact Upd.u1 | exact Upd.u2 | exact Upd.u3 | exact Upd.u4 | exact Upd.u5 | (repeat (first | exact Upd.here | apply Upd.there | apply upd_app))) rfl ?_
                  refine XO_nil ?_
                  refine at_block_n ?_
                  refine at_then ?_
                  refine X_seq ?_
                  refine X_region ?_
                  refine XO_v0 (ev_loadA rfl agt_35 (fun hg => by first | exact Cells.g0 | exact Cells.g1 | exact Cells.g2 | exact Cells.g3 | exact Cells.g4 | exact Cells.g5 | exact Cells.s0 (vs := [_, _, _, _, _, _, _, _, _, _, _, _, _, _]) rfl | exact Cells.s1 (vs := [_, _, _, _, _, _, _, _, _, _, _, _, _, _]) rfl | exact Cells.s2 (vs := [_, _, _, _, _, _, _, _, _, _, _, _, _, _]) rfl | exact Cells.s3 (vs := [_, _, _, _, _, _, _, _, _, _, _, _, _, _]) rfl | exact Cells.s4 (vs := [_, _, _, _, _, _, _, _, _, _, _, _, _, _]) rfl | exact Cells.s5 (vs := [_, _, _, _, _, _, _, _, _, _, _, _, _, _]) rfl | (repeat (first | exact Cells.here | apply Cells.there | apply Cells.app))) rfl) rfl rfl rfl ?_
                  refine XO_storeA rfl rfl szt_35 rfl rfl rfl rfl (by first | exact Upd.u0 | exact Upd.u1 | exact Upd.u2 | exact Upd.u3 | exact Upd.u4 | exact Upd.u5 | (repeat (first | exact Upd.here | apply Upd.there | apply upd_app))) ?_
                  refine XO_nil ?_
                  refine at_then ?_
                  refine X_ret ?_
                  first
                  | exact at_retA rfl rfl agt_35 Cells.g0 rfl (fun w hw => ⟨rfl, hw.drop⟩)
                  | exact at_retA rfl rfl agt_35 Cells.g0 rfl (fun w hw => ⟨by unfold setG; rw [if_neg hg1, if_neg hg2, if_neg hg3, if_neg hg4, if_neg hg5, if_neg hg6, if_neg hg7, if_neg hg8, if_neg hg9]; rfl, hw.drop⟩)
                · skip
                  have hg8 : f ≠ 8 := by simpa using hc41
                  refine X_seq ?_
                  refine X_region ?_
                  refine XO_v0 (ev_cmp rfl rfl rfl) rfl rfl rfl ?_
                  refine XO_v0 (ev_assign rfl) rfl rfl rfl ?_
                  refine XO_nil ?_
                  refine at_then ?_
                  refine X_cond rfl (fun hc46 => ?_) (fun hc46 => ?_)
                  · skip
                    have hfk : f = 9 := by simpa using hc46
                    subst hfk
                    have hD := HLe.refl I
                    refine X_noP ?_
                    refine X_drawS I [(b_2, .cells (encGA x).cells 35 (0, 0))] mixed ?_
                    refine XD_take 0 rfl (ev_fieldAddr rfl fld_35_10) (.none rfl) rfl rfl rfl (by kernel_rfl) (by kernel_rfl) (by kernel_rfl) noP_ok hD (by repeat (first | exact .refl | exact subL_nil | refine .keep ?_ | refine .drop ?_ | refine subL_add ?_)) ?_
                    refine XD_take 1 rfl (ev_loadA rfl agt_33 (fun hg => by first | exact Cells.g0 | exact Cells.g1 | exact Cells.g2 | exact Cells.g3 | exact Cells.g4 | exact Cells.g5 | exact Cells.s0 (vs := [_, _]) rfl | exact Cells.s1 (vs := [_, _]) rfl | exact Cells.s2 (vs := [_, _]) rfl | exact Cells.s3 (vs := [_, _]) rfl | exact Cells.s4 (vs := [_, _]) rfl | exact Cells.s5 (vs := [_, _]) rfl | (repeat (first | exact Cells.here | apply Cells.there | apply Cells.app))) rfl) (.none rfl) rfl rfl rfl (by kernel_rfl) (by kernel_rfl) (by kernel_rfl) noP_ok hD (by repeat (first | exact .refl | exact subL_nil | refine .keep ?_ | refine .drop ?_ | refine subL_add ?_)) ?_
                    refine XD_take 2 rfl (ev_fieldAddr rfl fld_35_11) (.none rfl) rfl rfl rfl (by kernel_rfl) (by kernel_rfl) (by kernel_rfl) noP_ok hD (by repeat (first | exact .refl | exact subL_nil | refine .keep ?_ | refine .drop ?_ | refine subL_add ?_)) ?_
                    refine XD_take 3 rfl (ev_loadA rfl agt_33 (fun hg => by first | exact Cells.g0 | exact Cells.g1 | exact Cells.g2 | exact Cells.g3 | exact Cells.g4 | exact Cells.g5 | exact Cells.s0 (vs := [_, _]) rfl | exact Cells.s1 (vs := [_, _]) rfl | exact Cells.s2 (vs := [_, _]) rfl | exact Cells.s3 (vs := [_, _]) rfl | exact Cells.s4 (vs := [_, _]) rfl | exact Cells.s5 (vs := [_, _]) rfl | (repeat (first | exact Cells.here | apply Cells.there | apply Cells.app))) rfl) (.none rfl) rfl rfl rfl (by kernel_rfl) (by kernel_rfl) (by kernel_rfl) noP_ok hD (by repeat (first | exact .refl | exact subL_nil | refine .keep ?_ | refine .drop ?_ | refine subL_add ?_)) ?_
                    refine XD_take 4 rfl (ev_fieldAddr rfl fld_35_10) (.none rfl) rfl rfl rfl (by kernel_rfl) (by kernel_rfl) (by kernel_rfl) noP_ok hD (by repeat (first | exact .refl | exact subL_nil | refine .keep ?_ | refine .drop ?_ | refine subL_add ?_)) ?_
                    refine XD_one 5 rfl (by kernel_rfl) ?_
                    refine XO_storeP rfl rfl szt_33 rfl rfl rfl rfl (by first | exact Upd.u0 | exact Upd.u1 | exact Upd.u2 | exact Upd.u3 | exact Upd.u4 | exact Upd.u5 | (repeat (first | exact Upd.here | apply Upd.there | apply upd_app))) ?_
                    refine XO_nil ?_
                    refine at_D hD (by repeat (first | exact .refl | exact subL_nil | refine .keep ?_ | refine .drop ?_ | refine subL_add ?_)) ?_
                    refine XD_take 6 rfl (ev_fieldAddr rfl fld_35_11) (.none rfl) rfl rfl rfl (by kernel_rfl) (by kernel_rfl) (by kernel_rfl) noP_ok hD (by repeat (first | exact .refl | exact subL_nil | refine .keep ?_ | refine .drop ?_ | refine subL_add ?_)) ?_
                    refine XD_one 7 rfl (by kernel_rfl) ?_
                    refine XO_storeP rfl rfl szt_33 rfl rfl rfl rfl (by first | exact Upd.u0 | exact Upd.u1 | exact Upd.u2 | exact Upd.u3 | exact Upd.u4 | exact Upd.u5 | (repeat (first | exact Upd.here | apply Upd.there | apply upd_app))) ?_
                    refine XO_nil ?_
                    refine at_D hD (by repeat (first | exact .refl | exact subL_nil | refine .keep ?_ | refine .drop ?_ | refine subL_add ?_)) ?_
                    refine XD_done (by kernel_rfl) ?_
                    refine at_noP ?_
                    refine at_block_n ?_
                    refine at_then ?_
                    refine X_seq ?_
                    refine X_region ?_
                    refine XO_v0 (ev_loadA rfl agt_35 (fun hg => by first | exact Cells.g0 | exact Cells.g1 | exact Cells.g2 | exact Cells.g3 | exact Cells.g4 | exact Cells.g5 | exact Cells.s0 (vs := [_, _, _, _, _, _, _, _, _, _, _, _, _, _]) rfl | exact Cells.s1 (vs := [_, _, _, _, _, _, _, _, _, _, _, _, _, _]) rfl | exact Cells.s2 (vs := [_, _, _, _, _, _, _, _, _, _, _, _, _, _]) rfl | exact Cells.s3 (vs := [_, _, _, _, _, _, _, _, _, _, _, _, _, _]) rfl | exact Cells.s4 (vs := [_, _, _, _, _, _, _, _, _, _, _, _, _, _]) rfl | exact Cells.s5 (vs := [_, _, _, _, _, _, _, _, _, _, _, _, _, _]) rfl | (repeat (first | exact Cells.here | apply Cells.there | apply Cells.app))) rfl) rfl rfl rfl ?_
                    refine XO_storeA rfl rfl szt_35 rfl rfl rfl rfl (by first | exact Upd.u0 | exact Upd.u1 | exact Upd.u2 | exact Upd.u3 | exact Upd.u4 | exact Upd.u5 | (repeat (first | exact Upd.here | apply Upd.there | apply upd_app))) ?_
                    refine XO_nil ?_
                    refine at_then ?_
                    refine X_ret ?_
                    first
                    | exact at_retA rfl rfl agt_35 Cells.g0 rfl (fun w hw => ⟨rfl, hw.drop⟩)
                    | exact at_retA rfl rfl agt_35 Cells.g0 rfl (fun w hw => ⟨by unfold setG; rw [if_neg hg1, if_neg hg2, if_neg hg3, if_neg hg4, if_neg hg5, if_neg hg6, if_neg hg7, if_neg hg8, if_neg hg9]; rfl, hw.drop⟩)
                  · skip
                    have hg9 : f ≠ 9 := by simpa using hc46
                    refine X_skip ?_
                    refine at_block_n ?_
                    refine at_then ?_
                    refine X_seq ?_
                    refine X_region ?_
                    refine XO_v0 (ev_loadA rfl agt_35 (fun hg => by first | exact Cells.g0 | exact Cells.g1 | exact Cells.g2 | exact Cells.g3 | exact Cells.g4 | exact Cells.g5 | exact Cells.s0 (vs := [_, _, _, _, _, _, _, _, _, _, _, _, _, _]) rfl | exact Cells.s1 (vs := [_, _, _, _, _, _, _, _, _, _, _, _, _, _]) rfl | exact Cells.s2 (vs := [_, _, _, _, _, _, _, _, _, _, _, _, _, _]) rfl | exact Cells.s3 (vs := [_, _, _, _, _, _, _, _, _, _, _, _, _, _]) rfl | exact Cells.s4 (vs := [_, _, _, _, _, _, _, _, _, _, _, _, _, _]) rfl | exact Cells.s5 (vs := [_, _, _, _, _, _, _, _, _, _, _, _, _, _]) rfl | (repeat (first | exact Cells.here | apply Cells.there | apply Cells.app))) rfl) rfl rfl rfl ?_
                    refine XO_storeA rfl rfl szt_35 rfl rfl rfl rfl (by first | exact Upd.u0 | exact Upd.u1 | exact Upd.u2 | exact Upd.u3 | exact Upd.u4 | exact Upd.u5 | (repeat (first | exact Upd.here | apply Upd.there | apply upd_app))) ?_
                    refine XO_nil ?_
                    refine at_then ?_
                    refine X_ret ?_
                    first
                    | exact at_retA rfl rfl agt_35 Cells.g0 rfl (fun w hw => ⟨rfl, hw.drop⟩)
                    | exact at_retA rfl rfl agt_35 Cells.g0 rfl (fun w hw => ⟨by unfold setG; rw [if_neg hg1, if_neg hg2, if_neg hg3, if_neg hg4, if_neg hg5, if_neg hg6, if_neg hg7, if_neg hg8, if_neg hg9]; rfl, hw.drop⟩)
end Go.Proofs.Ytccomeanpppfmaa
end
section
namespace Go.Proofs.Ytccomeanpppfmaa
open Go Go.Kn Go.Proofs
/-- The law's patch: a sign's direction. -/
def setP (id dir : Int) (a : Option Addr) (n c : Nat) (v : List Int) : Pt := ⟨id, 1, 1, 5, { zeroG with dir := dir }, a, n, c, v⟩
theorem w_lset (I : HMap) (id dir : Int) (a : Option Addr) (n c : Nat) (v : List Int) : RetV Try.prog 21 [.int .i64 id, .int .i64 dir, .slice a n c] I (encPA (setP id dir a n c v)) := by
  intro g H w hw
  refine enter Try.func21 rfl Try.ntmps21 rfl hw ?_
  refine X_seq ?_
  refine X_region ?_
  refine XO_alloc zt_37 rfl rfl (fun b_6 => ?_)
  refine XO_nil ?_
  refine at_then ?_
  refine X_seq ?_
  refine X_region ?_
  refine XO_v0 (ev_move rfl) rfl rfl rfl ?_
  refine XO_v0 (ev_move rfl) rfl rfl rfl ?_
  refine XO_v0 (ev_buildL (ps := [(6, _)]) [_, _, _, _, _, _, _, _, _, _, _, _, _, _] plt_35 rfl rfl) rfl rfl rfl ?_
  refine XO_v0 (ev_move rfl) rfl rfl rfl ?_
  refine XO_v0 (ev_buildL (ps := [(0, _), (1, _), (2, _), (3, _), (4, _), (5, _)]) [_, _, _, _, _, _, _, _, _, _, _, _, _, _, _, _, _, _, _] plt_37 rfl rfl) rfl rfl rfl ?_
  refine XO_storeA rfl rfl szt_37 rfl rfl rfl rfl (by first | exact Upd.u0 | exact Upd.u1 | exact Upd.u2 | exact Upd.u3 | exact Upd.u4 | exact Upd.u5 | (repeat (first | exact Upd.here | apply Upd.there | apply upd_app))) ?_
  refine XO_nil ?_
  refine at_then ?_
  refine X_ret ?_
  exact at_retA rfl rfl agt_37 Cells.g0 rfl (fun w hw => ⟨rfl, hw.drop⟩)
end Go.Proofs.Ytccomeanpppfmaa
end
section
namespace Go.Proofs.Ytccomeanpppfmaa
open Go Go.Kn Go.Proofs
theorem fun_10 : Fun Try.prog 10 := .of Try.func10 (by kernel_rfl) (by kernel_rfl)
theorem fun_11 : Fun Try.prog 11 := .of Try.func11 (by kernel_rfl) (by kernel_rfl)
theorem fun_14 : Fun Try.prog 14 := .of Try.func14 (by kernel_rfl) (by kernel_rfl)
theorem fun_15 : Fun Try.prog 15 := .of Try.func15 (by kernel_rfl) (by kernel_rfl)
theorem fun_17 : Fun Try.prog 17 := .of Try.func17 (by kernel_rfl) (by kernel_rfl)
theorem fun_18 : Fun Try.prog 18 := .of Try.func18 (by kernel_rfl) (by kernel_rfl)
theorem fun_21 : Fun Try.prog 21 := .of Try.func21 (by kernel_rfl) (by kernel_rfl)
def g1 : Sg := ⟨1, 0, 2, 1, 1, 1, 1, 0, 1, 0, 0, 1, 1, 1⟩
def g2 : Sg := ⟨1, 0, 2, 1, 1, 1, 3, 0, 4, 0, 0, 1, 1, 1⟩
def g3 : Sg := ⟨1, 0, 2, 1, 1, 1, 6, 0, 4, 0, 0, 1, 1, 1⟩
def sizeP : Pt := ⟨3, 1, 1, 7, { zeroG with size := 4 }, none, 0, 0, []⟩
def stR (a : Option Addr) : List Pt := [setP 2 3 none 0 0 [], sizeP, setP 4 5 none 0 0 [], setP 7 6 a 2 2 [2, 4]]
def stB (a : Option Addr) : List Pt := [setP 2 3 a 1 1 [1]]
theorem stR_sl {I : HMap} {b : Nat} {a : Option Addr} (h : I b = some (.cells ((stR a).flatMap encP).toArray 37 (0, 0))) (h2 : Sl I 1 encI a 2 2 [2, 4]) : SlP I (some ⟨b, 0, none⟩) 4 4 (stR a) :=
  ⟨Sl.lit (stR a) rfl encP_len h, fun p hp => by
    simp only [stR, List.mem_cons, List.not_mem_nil, or_false] at hp
    rcases hp with rfl | rfl | rfl | rfl
    · exact .nil
    · exact .nil
    · exact .nil
    · exact h2⟩
theorem stB_sl {I : HMap} {b : Nat} {a : Option Addr} (h : I b = some (.cells ((stB a).flatMap encP).toArray 37 (0, 0))) (h2 : Sl I 1 encI a 1 1 [1]) : SlP I (some ⟨b, 0, none⟩) 1 1 (stB a) :=
  ⟨Sl.lit (stB a) rfl encP_len h, fun p hp => by
    simp only [stB, List.mem_cons, List.not_mem_nil, or_false] at hp
    subst hp; exact h2⟩
theorem s_chk0 {I : HMap} {av : Option Addr} {c : Nat} (hP : SlP I av 0 c []) : RetV Try.prog 9 [.slice av 0 c] I (.int .i64 0) := by
  have h := w_chkR hP (by decide)
  rwa [show chkR [] = 0 from by kernel_rfl] at h
theorem s_chk1 {I : HMap} {av : Option Addr} {c : Nat} {a : Option Addr} (hP : SlP I av 4 c (stR a)) : RetV Try.prog 9 [.slice av 4 c] I (.int .i64 0) := by
  have h := w_chkR hP (by decide)
  rwa [show chkR (stR a) = 0 from by kernel_rfl] at h
theorem s_chk2 {I : HMap} {av : Option Addr} {c : Nat} {a : Option Addr} (hP : SlP I av 1 c (stB a)) : RetV Try.prog 9 [.slice av 1 c] I (.int .i64 380) := by
  have h := w_chkR hP (by decide)
  rwa [show chkR (stB a) = 380 from by kernel_rfl] at h
theorem s_clo1 {I : HMap} {av bv : Option Addr} {c c2 : Nat} {a : Option Addr} (hP : SlP I av 4 c (stR a)) (hT : Sl I 1 encI bv 1 c2 [7]) : RetM Try.prog 10 [.slice av 4 c, .slice bv 1 c2] I [] (Res2 0 [2, 4, 7]) := by
  have h := w_Closure hP (by decide) hT (by decide)
  rwa [show cloE (stR a) [7] = 0 from by kernel_rfl, show resF (α := Int) 0 (cloF (stR a) [7]) = [2, 4, 7] from by kernel_rfl] at h
theorem s_clo2 {I : HMap} {av bv : Option Addr} {c c2 : Nat} (hP : SlP I av 0 c []) (hT : Sl I 1 encI bv 1 c2 [1]) : RetM Try.prog 10 [.slice av 0 c, .slice bv 1 c2] I [] (Res2 380 []) := by
  have h := w_Closure hP (by decide) hT (by decide)
  rwa [show cloE [] [1] = 380 from by kernel_rfl, show resF (α := Int) 380 (cloF [] [1]) = [] from by kernel_rfl] at h
theorem s_mrg {I : HMap} {av bv dv : Option Addr} {c c2 c3 : Nat} {a : Option Addr} (hP : SlP I av 4 c (stR a)) (hT : Sl I 1 encI bv 1 c2 [2]) (hU : Sl I 1 encI dv 1 c3 [3]) : RetM Try.prog 11 [.slice av 4 c, .slice bv 1 c2, .slice dv 1 c3] I [] (Res2 0 [2, 3]) := by
  have h := w_merge hP (by decide) hT (by decide) hU (by decide)
  rwa [show mrgE (stR a) [2] [3] = 0 from by kernel_rfl, show resF (α := Int) 0 (mrgF (stR a) [2] [3]) = [2, 3] from by kernel_rfl] at h
theorem s_sg1 {I : HMap} {av bv dv : Option Addr} {c c2 c3 : Nat} {a : Option Addr} (hP : SlP I av 4 c (stR a)) (hB : Sl I 14 encG bv 1 c2 [g1]) (hV : Sl I 1 encI dv 2 c3 [2, 3]) : RetM Try.prog 15 [.slice av 4 c, .slice bv 1 c2, .slice dv 2 c3] I [] (ResG 0 [g2]) := by
  have h := w_Signs hP (by decide) hB (by decide) hV (by decide)
  rwa [show sgnE (stR a) [g1] [2, 3] = 0 from by kernel_rfl, show sgnF (stR a) [g1] [2, 3] = [g2] from by kernel_rfl] at h
theorem s_sg2 {I : HMap} {av bv dv : Option Addr} {c c2 c3 : Nat} {a : Option Addr} (hP : SlP I av 4 c (stR a)) (hB : Sl I 14 encG bv 1 c2 [g1]) (hV : Sl I 1 encI dv 4 c3 [2, 3, 4, 7]) : RetM Try.prog 15 [.slice av 4 c, .slice bv 1 c2, .slice dv 4 c3] I [] (ResG 0 [g3]) := by
  have h := w_Signs hP (by decide) hB (by decide) hV (by decide)
  rwa [show sgnE (stR a) [g1] [2, 3, 4, 7] = 0 from by kernel_rfl, show sgnF (stR a) [g1] [2, 3, 4, 7] = [g3] from by kernel_rfl] at h
theorem s_sg3 {I : HMap} {av bv dv : Option Addr} {c c2 c3 : Nat} {a : Option Addr} (hP : SlP I av 4 c (stR a)) (hB : Sl I 14 encG bv 1 c2 [g1]) (hV : Sl I 1 encI dv 1 c3 [7]) : RetM Try.prog 15 [.slice av 4 c, .slice bv 1 c2, .slice dv 1 c3] I [] (ResG 380 []) := by
  have h := w_Signs hP (by decide) hB (by decide) hV (by decide)
  rwa [show sgnE (stR a) [g1] [7] = 380 from by kernel_rfl, show sgnF (stR a) [g1] [7] = [] from by kernel_rfl] at h
theorem s_sg4 {I : HMap} {av bv dv : Option Addr} {c c2 c3 : Nat} (hP : SlP I av 0 c []) (hB : Sl I 14 encG bv 1 c2 [g1]) (hV : Sl I 1 encI dv 0 c3 []) : RetM Try.prog 15 [.slice av 0 c, .slice bv 1 c2, .slice dv 0 c3] I [] (ResG 0 [g1]) := by
  have h := w_Signs hP (by decide) hB (by decide) hV (by decide)
  rwa [show sgnE [] [g1] [] = 0 from by kernel_rfl, show sgnF [] [g1] [] = [g1] from by kernel_rfl] at h
theorem s_cf1 {I : HMap} {av bv dv : Option Addr} {c c2 c3 : Nat} {a : Option Addr} (hP : SlP I av 4 c (stR a)) (hB : Sl I 14 encG bv 1 c2 [g1]) (hV : Sl I 1 encI dv 2 c3 [2, 3]) : RetM Try.prog 14 [.slice av 4 c, .slice bv 1 c2, .slice dv 2 c3] I [] (ResC 0 []) := by
  have h := w_Conflicts hP (by decide) hB (by decide) hV (by decide)
  rwa [show sgnE (stR a) [g1] [2, 3] = 0 from by kernel_rfl, show cflF (stR a) [g1] [2, 3] = [] from by kernel_rfl] at h
theorem s_cf2 {I : HMap} {av bv dv : Option Addr} {c c2 c3 : Nat} {a : Option Addr} (hP : SlP I av 4 c (stR a)) (hB : Sl I 14 encG bv 1 c2 [g1]) (hV : Sl I 1 encI dv 3 c3 [2, 3, 4]) : RetM Try.prog 14 [.slice av 4 c, .slice bv 1 c2, .slice dv 3 c3] I [] (ResC 0 [(1, 5, [2, 4])]) := by
  have h := w_Conflicts hP (by decide) hB (by decide) hV (by decide)
  rwa [show sgnE (stR a) [g1] [2, 3, 4] = 0 from by kernel_rfl, show cflF (stR a) [g1] [2, 3, 4] = [(1, 5, [2, 4])] from by kernel_rfl] at h
theorem s_cf3 {I : HMap} {av bv dv : Option Addr} {c c2 c3 : Nat} {a : Option Addr} (hP : SlP I av 4 c (stR a)) (hB : Sl I 14 encG bv 1 c2 [g1]) (hV : Sl I 1 encI dv 4 c3 [2, 3, 4, 7]) : RetM Try.prog 14 [.slice av 4 c, .slice bv 1 c2, .slice dv 4 c3] I [] (ResC 0 []) := by
  have h := w_Conflicts hP (by decide) hB (by decide) hV (by decide)
  rwa [show sgnE (stR a) [g1] [2, 3, 4, 7] = 0 from by kernel_rfl, show cflF (stR a) [g1] [2, 3, 4, 7] = [] from by kernel_rfl] at h
theorem s_sameI {I : HMap} {av bv : Option Addr} {n c q e : Nat} {xs ys : List Int} (hS : Sl I 1 encI av n c xs) (hT : Sl I 1 encI bv q e ys) (hn : n ≤ 100000) (h : xs = ys) : RetV Try.prog 12 [.slice av n c, .slice bv q e] I (.bool true) := by
  have := w_sameI hS hn hT
  subst h; rwa [same_self] at this
theorem s_sameG {I : HMap} {av bv : Option Addr} {n c q e : Nat} {xs ys : List Sg} (hS : Sl I 14 encG av n c xs) (hT : Sl I 14 encG bv q e ys) (hn : n ≤ 100000) (h : xs = ys) : RetV Try.prog 17 [.slice av n c, .slice bv q e] I (.bool true) := by
  have := w_sameG hS hn hT
  subst h; rwa [same_self] at this
theorem s_sameC {I : HMap} {av bv a : Option Addr} {c e : Nat} {cs : List Cf} (hC : SlC I av cs.length c cs) (hk : cs.map Cf.key = [(1, 5, [2, 4])]) (hD : SlC I bv 1 e [⟨1, 5, a, 2, 2, [2, 4]⟩]) : RetV Try.prog 18 [.slice av cs.length c, .slice bv 1 e] I (.bool true) := by
  match cs, hC, hk with
  | [], _, hk => cases hk
  | _ :: _ :: _, _, hk => simp at hk
  | [z], hC, hk =>
    have hz : z.key = (1, 5, [2, 4]) := by simpa using hk
    have hi : z.ids = [2, 4] := congrArg (·.2.2) hz
    have hl := (hC.2 z (by simp)).len
    rw [hi] at hl
    have h := w_sameC hC (by simp) hD (fun y hy => by simp at hy; subst hy; rw [← hl]; decide)
    rwa [hk, show ([⟨1, 5, a, 2, 2, [2, 4]⟩] : List Cf).map Cf.key = [(1, 5, [2, 4])] from rfl, same_self] at h
theorem conf_one {I : HMap} {b : Nat} {a : Option Addr} (h : I b = some (.cells (([⟨1, 5, a, 2, 2, [2, 4]⟩] : List Cf).flatMap encC).toArray 44 (0, 0))) (h2 : Sl I 1 encI a 2 2 [2, 4]) : SlC I (some ⟨b, 0, none⟩) 1 1 [⟨1, 5, a, 2, 2, [2, 4]⟩] :=
  ⟨Sl.lit _ rfl encC_len h, fun x hx => by simp only [List.mem_cons, List.not_mem_nil, or_false] at hx; subst hx; exact h2⟩
set_option maxRecDepth 100000 in
theorem w_sane (I : HMap) : RetV Try.prog 8 [] I (.bool true) := by
  intro g H w hw
  refine enter Try.func8 rfl Try.ntmps8 rfl hw ?_
  have hIc := HLe.refl I
  refine X_seq ?_
  refine X_region ?_
  refine XO_v0 (ev_assign rfl) rfl rfl rfl ?_
  refine XO_nil ?_
  refine at_then ?_
  refine X_seq ?_
  refine X_region ?_
  refine XO_v0 (ev_buildL (ps := [(1, _)]) [_, _] plt_33 rfl rfl) rfl rfl rfl ?_
  refine XO_v0 (ev_buildL (ps := [(0, _), (1, _)]) [_, _] plt_33 rfl rfl) rfl rfl rfl ?_
  refine XO_v0 (ev_buildL (ps := [(0, _), (2, _), (3, _), (4, _), (5, _), (6, _), (8, _), (10, _), (11, _)]) [_, _, _, _, _, _, _, _, _, _, _, _, _, _] plt_35 rfl rfl) rfl rfl rfl ?_
  refine XO_buildSlice (ps := [(0, _)]) (m := [encG g1]) elt_39 rfl (.cons rfl (.nil)) rfl (by simp [encI_len, encP_len, encG_len, encC_len]) (by decide) (by decide) rfl rfl (fun b_29 => ?_)
  refine XO_freeze .here (fun I1 hI1 hb1 => ?_)
  have hIc := hIc.trans hI1
  have hB := Sl.lit ([g1] : List Sg) rfl encG_len (show _ = some (Obj.cells (([g1] : List Sg).flatMap encG).toArray 35 (0, 0)) from hb1)
  refine XO_v0 (ev_assign rfl) rfl rfl rfl ?_
  refine XO_nil ?_
  refine at_then ?_
  refine X_seq ?_
  refine X_region ?_
  refine XO_v0 (ev_buildL (ps := [(8, _)]) [_, _, _, _, _, _, _, _, _, _, _, _, _, _] plt_35 rfl rfl) rfl rfl rfl ?_
  refine XO_v0 (ev_buildL (ps := [(0, _), (1, _), (2, _), (3, _), (4, _)]) [_, _, _, _, _, _, _, _, _, _, _, _, _, _, _, _, _, _, _] plt_37 rfl rfl) rfl rfl rfl ?_
  refine XO_alloc zt_37 rfl rfl (fun b_2 => ?_)
  refine XO_storeA rfl rfl szt_37 rfl rfl rfl rfl (by first | exact Upd.u0 | exact Upd.u1 | exact Upd.u2 | exact Upd.u3 | exact Upd.u4 | exact Upd.u5 | (repeat (first | exact Upd.here | apply Upd.there | apply upd_app))) ?_
  refine XO_nil ?_
  refine at_then ?_
  refine X_cutT [(1, _)] (.cons rfl .nil) (fun T L0 E I' loc' => ∃ (b35 b37 : Nat), E = (3, .slice (some ⟨b37, 0, none⟩) 4 4) :: T ∧ I1 = I' ∧ [(b37, .cells ((stR (some ⟨b35, 0, none⟩)).flatMap encP).toArray 37 (0, 0)), (b35, .cells ([(2 : Int), 4].flatMap encI).toArray 3 (0, 0))] = loc') ?_ ?_
  · skip
    have hD := HLe.refl I1
    refine X_drawC mixed ?_
    refine XD_take 1 rfl (ev_loadA rfl agt_37 (fun hg => by first | exact Sl.getA (k := 0) (x := g1) hB rfl | exact Cells.g0 | exact Cells.g1 | exact Cells.g2 | exact Cells.g3 | exact Cells.g4 | exact Cells.g5 | exact Cells.s0 (vs := [_, _, _, _, _, _, _, _, _, _, _, _, _, _, _, _, _, _, _]) rfl | exact Cells.s1 (vs := [_, _, _, _, _, _, _, _, _, _, _, _, _, _, _, _, _, _, _]) rfl | exact Cells.s2 (vs := [_, _, _, _, _, _, _, _, _, _, _, _, _, _, _, _, _, _, _]) rfl | exact Cells.s3 (vs := [_, _, _, _, _, _, _, _, _, _, _, _, _, _, _, _, _, _, _]) rfl | exact Cells.s4 (vs := [_, _, _, _, _, _, _, _, _, _, _, _, _, _, _, _, _, _, _]) rfl | exact Cells.s5 (vs := [_, _, _, _, _, _, _, _, _, _, _, _, _, _, _, _, _, _, _]) rfl | (repeat (first | exact Cells.here | apply Cells.there | apply Cells.app))) rfl) (.none rfl) rfl rfl rfl (by kernel_rfl) (by kernel_rfl) (by kernel_rfl) noP_ok hD (by repeat (first | exact .refl | exact subL_nil | refine .keep ?_ | refine .drop ?_ | refine subL_add ?_)) ?_
    refine XD_two 0 3 rfl rfl (by kernel_rfl) ?_ ?_
    · skip
      refine XO_callV0 (cap := []) (vs := [_, _, _]) rfl rfl fun_21 (w_lset _ 2 3 none 0 0 []) rfl rfl ?_
      refine XO_nil ?_
      refine at_D hD (by repeat (first | exact .refl | exact subL_nil | refine .keep ?_ | refine .drop ?_ | refine subL_add ?_)) ?_
      refine XD_two 2 3 rfl rfl (by kernel_rfl) ?_ ?_
      · skip
        refine XO_callV0 (cap := []) (vs := [_, _, _]) rfl rfl fun_21 (w_lset _ 4 5 none 0 0 []) rfl rfl ?_
        refine XO_nil ?_
        refine at_D hD (by repeat (first | exact .refl | exact subL_nil | refine .keep ?_ | refine .drop ?_ | refine subL_add ?_)) ?_
        refine XD_one 3 rfl (by kernel_rfl) ?_
        refine XO_buildSlice (ps := [(0, _), (1, _)]) (m := [encI 2, encI 4]) elt_23 rfl (.cons rfl (.cons rfl (.nil))) rfl (by simp [encI_len, encP_len, encG_len, encC_len]) (by decide) (by decide) rfl rfl (fun b_35 => ?_)
        refine XO_nil ?_
        refine at_D hD (by repeat (first | exact .refl | exact subL_nil | refine .keep ?_ | refine .drop ?_ | refine subL_add ?_)) ?_
        refine XD_one 4 rfl (by kernel_rfl) ?_
        refine XO_callV0 (cap := []) (vs := [_, _, _]) rfl rfl fun_21 (w_lset _ 7 6 _ _ _ [2, 4]) rfl rfl ?_
        refine XO_nil ?_
        refine at_D hD (by repeat (first | exact .refl | exact subL_nil | refine .keep ?_ | refine .drop ?_ | refine subL_add ?_)) ?_
        refine XD_one 5 rfl (by kernel_rfl) ?_
        refine XO_buildSlice (ps := [(0, _), (1, _), (2, _), (3, _)]) (m := [encP (setP 2 3 none 0 0 []), encP sizeP, encP (setP 4 5 none 0 0 []), encP (setP 7 6 (some ⟨b_35, 0, none⟩) 2 2 [2, 4])]) elt_22 rfl (.cons rfl (.cons rfl (.cons rfl (.cons rfl (.nil))))) rfl (by simp [encI_len, encP_len, encG_len, encC_len]) (by decide) (by decide) rfl rfl (fun b_37 => ?_)
        refine XO_nil ?_
        refine at_D hD (by repeat (first | exact .refl | exact subL_nil | refine .keep ?_ | refine .drop ?_ | refine subL_add ?_)) ?_
        refine XD_take 6 rfl (ev_assign rfl) (.none rfl) rfl rfl rfl (by kernel_rfl) (by kernel_rfl) (by kernel_rfl) noP_ok hD (by repeat (first | exact .refl | exact subL_nil | refine .keep ?_ | refine .drop ?_ | refine subL_add ?_)) ?_
        refine XD_done (by kernel_rfl) ?_
        refine at_noP ?_
        exact at_met2 _ _ ⟨b_35, b_37, rfl, rfl, rfl⟩ (.cons rfl (.cons rfl .nil)) (by repeat (first | exact .refl | exact subL_left | refine subL_app ?_ | refine .drop ?_ | refine subL_add ?_))
      · skip
        refine XO_buildSlice (ps := [(0, _), (1, _)]) (m := [encI 2, encI 4]) elt_23 rfl (.cons rfl (.cons rfl (.nil))) rfl (by simp [encI_len, encP_len, encG_len, encC_len]) (by decide) (by decide) rfl rfl (fun b_35 => ?_)
        refine XO_nil ?_
        refine at_D hD (by repeat (first | exact .refl | exact subL_nil | refine .keep ?_ | refine .drop ?_ | refine subL_add ?_)) ?_
        refine XD_one 2 rfl (by kernel_rfl) ?_
        refine XO_callV0 (cap := []) (vs := [_, _, _]) rfl rfl fun_21 (w_lset _ 4 5 none 0 0 []) rfl rfl ?_
        refine XO_nil ?_
        refine at_D hD (by repeat (first | exact .refl | exact subL_nil | refine .keep ?_ | refine .drop ?_ | refine subL_add ?_)) ?_
        refine XD_one 4 rfl (by kernel_rfl) ?_
        refine XO_callV0 (cap := []) (vs := [_, _, _]) rfl rfl fun_21 (w_lset _ 7 6 _ _ _ [2, 4]) rfl rfl ?_
        refine XO_nil ?_
        refine at_D hD (by repeat (first | exact .refl | exact subL_nil | refine .keep ?_ | refine .drop ?_ | refine subL_add ?_)) ?_
        refine XD_one 5 rfl (by kernel_rfl) ?_
        refine XO_buildSlice (ps := [(0, _), (1, _), (2, _), (3, _)]) (m := [encP (setP 2 3 none 0 0 []), encP sizeP, encP (setP 4 5 none 0 0 []), encP (setP 7 6 (some ⟨b_35, 0, none⟩) 2 2 [2, 4])]) elt_22 rfl (.cons rfl (.cons rfl (.cons rfl (.cons rfl (.nil))))) rfl (by simp [encI_len, encP_len, encG_len, encC_len]) (by decide) (by decide) rfl rfl (fun b_37 => ?_)
        refine XO_nil ?_
        refine at_D hD (by repeat (first | exact .refl | exact subL_nil | refine .keep ?_ | refine .drop ?_ | refine subL_add ?_)) ?_
        refine XD_take 6 rfl (ev_assign rfl) (.none rfl) rfl rfl rfl (by kernel_rfl) (by kernel_rfl) (by kernel_rfl) noP_ok hD (by repeat (first | exact .refl | exact subL_nil | refine .keep ?_ | refine .drop ?_ | refine subL_add ?_)) ?_
        refine XD_done (by kernel_rfl) ?_
        refine at_noP ?_
        exact at_met2 _ _ ⟨b_35, b_37, rfl, rfl, rfl⟩ (.cons rfl (.cons rfl .nil)) (by repeat (first | exact .refl | exact subL_left | refine subL_app ?_ | refine .drop ?_ | refine subL_add ?_))
    · skip
      refine XO_buildSlice (ps := [(0, _), (1, _)]) (m := [encI 2, encI 4]) elt_23 rfl (.cons rfl (.cons rfl (.nil))) rfl (by simp [encI_len, encP_len, encG_len, encC_len]) (by decide) (by decide) rfl rfl (fun b_35 => ?_)
      refine XO_nil ?_
      refine at_D hD (by repeat (first | exact .refl | exact subL_nil | refine .keep ?_ | refine .drop ?_ | refine subL_add ?_)) ?_
      refine XD_one 0 rfl (by kernel_rfl) ?_
      refine XO_callV0 (cap := []) (vs := [_, _, _]) rfl rfl fun_21 (w_lset _ 2 3 none 0 0 []) rfl rfl ?_
      refine XO_nil ?_
      refine at_D hD (by repeat (first | exact .refl | exact subL_nil | refine .keep ?_ | refine .drop ?_ | refine subL_add ?_)) ?_
      refine XD_one 2 rfl (by kernel_rfl) ?_
      refine XO_callV0 (cap := []) (vs := [_, _, _]) rfl rfl fun_21 (w_lset _ 4 5 none 0 0 []) rfl rfl ?_
      refine XO_nil ?_
      refine at_D hD (by repeat (first | exact .refl | exact subL_nil | refine .keep ?_ | refine .drop ?_ | refine subL_add ?_)) ?_
      refine XD_one 4 rfl (by kernel_rfl) ?_
      refine XO_callV0 (cap := []) (vs := [_, _, _]) rfl rfl fun_21 (w_lset _ 7 6 _ _ _ [2, 4]) rfl rfl ?_
      refine XO_nil ?_
      refine at_D hD (by repeat (first | exact .refl | exact subL_nil | refine .keep ?_ | refine .drop ?_ | refine subL_add ?_)) ?_
      refine XD_one 5 rfl (by kernel_rfl) ?_
      refine XO_buildSlice (ps := [(0, _), (1, _), (2, _), (3, _)]) (m := [encP (setP 2 3 none 0 0 []), encP sizeP, encP (setP 4 5 none 0 0 []), encP (setP 7 6 (some ⟨b_35, 0, none⟩) 2 2 [2, 4])]) elt_22 rfl (.cons rfl (.cons rfl (.cons rfl (.cons rfl (.nil))))) rfl (by simp [encI_len, encP_len, encG_len, encC_len]) (by decide) (by decide) rfl rfl (fun b_37 => ?_)
      refine XO_nil ?_
      refine at_D hD (by repeat (first | exact .refl | exact subL_nil | refine .keep ?_ | refine .drop ?_ | refine subL_add ?_)) ?_
      refine XD_take 6 rfl (ev_assign rfl) (.none rfl) rfl rfl rfl (by kernel_rfl) (by kernel_rfl) (by kernel_rfl) noP_ok hD (by repeat (first | exact .refl | exact subL_nil | refine .keep ?_ | refine .drop ?_ | refine subL_add ?_)) ?_
      refine XD_done (by kernel_rfl) ?_
      refine at_noP ?_
      exact at_met2 _ _ ⟨b_35, b_37, rfl, rfl, rfl⟩ (.cons rfl (.cons rfl .nil)) (by repeat (first | exact .refl | exact subL_left | refine subL_app ?_ | refine .drop ?_ | refine subL_add ?_))
  · rintro E I' loc' ⟨b35, b37, rfl, rfl, rfl⟩
    refine X_seq ?_
    refine X_freeze .here (fun I3 hI3 hb3 => ?_)
    have hB := hB.mono hI3
    have hIc := hIc.trans hI3
    have hbP := hb3
    refine X_freeze .here (fun I4 hI4 hb4 => ?_)
    have hB := hB.mono hI4
    have hIc := hIc.trans hI4
    have hbN := hb4
    have hNs : Sl I4 1 encI (some ⟨b35, 0, none⟩) 2 2 [2, 4] := Sl.lit _ rfl encI_len hbN
    have hP : SlP I4 (some ⟨b37, 0, none⟩) 4 4 (stR (some ⟨b35, 0, none⟩)) := stR_sl (hI4 _ _ hbP) hNs
    refine X_region ?_
    refine XO_v0 (ev_move rfl) rfl rfl rfl ?_
    refine XO_v0 (ev_indexSl rfl rfl slt_39 (by assumption) (fun hg => by decide)) rfl rfl rfl ?_
    refine XO_v0 (ev_loadA rfl agt_35 (fun hg => by first | exact Sl.getA (k := 0) (x := g1) hB rfl | exact Cells.g0 | exact Cells.g1 | exact Cells.g2 | exact Cells.g3 | exact Cells.g4 | exact Cells.g5 | exact Cells.s0 (vs := [_, _, _, _, _, _, _, _, _, _, _, _, _, _]) rfl | exact Cells.s1 (vs := [_, _, _, _, _, _, _, _, _, _, _, _, _, _]) rfl | exact Cells.s2 (vs := [_, _, _, _, _, _, _, _, _, _, _, _, _, _]) rfl | exact Cells.s3 (vs := [_, _, _, _, _, _, _, _, _, _, _, _, _, _]) rfl | exact Cells.s4 (vs := [_, _, _, _, _, _, _, _, _, _, _, _, _, _]) rfl | exact Cells.s5 (vs := [_, _, _, _, _, _, _, _, _, _, _, _, _, _]) rfl | (repeat (first | exact Cells.here | apply Cells.there | apply Cells.app))) rfl) rfl rfl rfl ?_
    refine XO_alloc zt_35 rfl rfl (fun b_4 => ?_)
    refine XO_storeA rfl rfl szt_35 rfl rfl rfl rfl (by first | exact Upd.u0 | exact Upd.u1 | exact Upd.u2 | exact Upd.u3 | exact Upd.u4 | exact Upd.u5 | (repeat (first | exact Upd.here | apply Upd.there | apply upd_app))) ?_
    refine XO_nil ?_
    refine at_then ?_
    refine X_seq ?_
    refine X_region ?_
    refine XO_v0 (ev_fieldAddr rfl fld_35_6) rfl rfl rfl ?_
    refine XO_store rfl rfl szt_3 rfl rfl (by first | exact Upd.u0 | exact Upd.u1 | exact Upd.u2 | exact Upd.u3 | exact Upd.u4 | exact Upd.u5 | (repeat (first | exact Upd.here | apply Upd.there | apply upd_app))) rfl ?_
    refine XO_v0 (ev_fieldAddr rfl fld_35_8) rfl rfl rfl ?_
    refine XO_store rfl rfl szt_3 rfl rfl (by first | exact Upd.u0 | exact Upd.u1 | exact Upd.u2 | exact Upd.u3 | exact Upd.u4 | exact Upd.u5 | (repeat (first | exact Upd.here | apply Upd.there | apply upd_app))) rfl ?_
    refine XO_nil ?_
    refine at_then ?_
    refine X_seq ?_
    refine X_region ?_
    refine XO_v0 (ev_loadA rfl agt_35 (fun hg => by first | exact Sl.getA (k := 0) (x := g1) hB rfl | exact Cells.g0 | exact Cells.g1 | exact Cells.g2 | exact Cells.g3 | exact Cells.g4 | exact Cells.g5 | exact Cells.s0 (vs := [_, _, _, _, _, _, _, _, _, _, _, _, _, _]) rfl | exact Cells.s1 (vs := [_, _, _, _, _, _, _, _, _, _, _, _, _, _]) rfl | exact Cells.s2 (vs := [_, _, _, _, _, _, _, _, _, _, _, _, _, _]) rfl | exact Cells.s3 (vs := [_, _, _, _, _, _, _, _, _, _, _, _, _, _]) rfl | exact Cells.s4 (vs := [_, _, _, _, _, _, _, _, _, _, _, _, _, _]) rfl | exact Cells.s5 (vs := [_, _, _, _, _, _, _, _, _, _, _, _, _, _]) rfl | (repeat (first | exact Cells.here | apply Cells.there | apply Cells.app))) rfl) rfl rfl rfl ?_
    refine XO_alloc zt_35 rfl rfl (fun b_5 => ?_)
    refine XO_storeA rfl rfl szt_35 rfl rfl rfl rfl (by first | exact Upd.u0 | exact Upd.u1 | exact Upd.u2 | exact Upd.u3 | exact Upd.u4 | exact Upd.u5 | (repeat (first | exact Upd.here | apply Upd.there | apply upd_app))) ?_
    refine XO_nil ?_
    refine at_then ?_
    refine X_seq ?_
    refine X_region ?_
    refine XO_v0 (ev_fieldAddr rfl fld_35_6) rfl rfl rfl ?_
    refine XO_store rfl rfl szt_3 rfl rfl (by first | exact Upd.u0 | exact Upd.u1 | exact Upd.u2 | exact Upd.u3 | exact Upd.u4 | exact Upd.u5 | (repeat (first | exact Upd.here | apply Upd.there | apply upd_app))) rfl ?_
    refine XO_nil ?_
    refine at_then ?_
    refine X_seq ?_
    refine X_region ?_
    refine XO_v0 (ev_move rfl) rfl rfl rfl ?_
    refine XO_buildSlice (ps := [(0, _)]) (m := [encI 7]) elt_23 rfl (.cons rfl (.nil)) rfl (by simp [encI_len, encP_len, encG_len, encC_len]) (by decide) (by decide) rfl rfl (fun b_47 => ?_)
    refine XO_freeze .here (fun I5 hI5 hb5 => ?_)
    have hB := hB.mono hI5
    have hP := hP.mono hI5
    have hIc := hIc.trans hI5
    have h7 := Sl.lit ([7] : List Int) rfl encI_len (show _ = some (Obj.cells (([7] : List Int).flatMap encI).toArray 3 (0, 0)) from hb5)
    refine XO_callM (cap := []) (vs := [_, _]) rfl rfl fun_10 .nil (s_clo1 hP h7) rfl rfl ?_
    rintro vv6 I6 L6 hI6 ⟨rfl, a6, c6, rfl, hV⟩
    have hB := hB.mono hI6
    have hP := hP.mono hI6
    have h7 := h7.mono hI6
    have hIc := hIc.trans hI6
    refine XO_v0 (ev_move rfl) rfl rfl rfl ?_
    refine XO_v0 (ev_extract rfl rfl) rfl rfl rfl ?_
    refine XO_v0 (ev_extract rfl rfl) rfl rfl rfl ?_
    refine XO_v0 (ev_assign rfl) rfl rfl rfl ?_
    refine XO_v0 (ev_assign rfl) rfl rfl rfl ?_
    refine XO_nil ?_
    refine at_then ?_
    refine X_seq ?_
    refine X_region ?_
    refine XO_v0 (ev_move rfl) rfl rfl rfl ?_
    refine XO_buildSlice (ps := [(0, _)]) (m := [encI 2]) elt_23 rfl (.cons rfl (.nil)) rfl (by simp [encI_len, encP_len, encG_len, encC_len]) (by decide) (by decide) rfl rfl (fun b_53 => ?_)
    refine XO_freeze .here (fun I7 hI7 hb7 => ?_)
    have hB := hB.mono hI7
    have hP := hP.mono hI7
    have h7 := h7.mono hI7
    have hV := hV.mono hI7
    have hIc := hIc.trans hI7
    have h2 := Sl.lit ([2] : List Int) rfl encI_len (show _ = some (Obj.cells (([2] : List Int).flatMap encI).toArray 3 (0, 0)) from hb7)
    refine XO_buildSlice (ps := [(0, _)]) (m := [encI 3]) elt_23 rfl (.cons rfl (.nil)) rfl (by simp [encI_len, encP_len, encG_len, encC_len]) (by decide) (by decide) rfl rfl (fun b_54 => ?_)
    refine XO_freeze .here (fun I8 hI8 hb8 => ?_)
    have hB := hB.mono hI8
    have hP := hP.mono hI8
    have h7 := h7.mono hI8
    have hV := hV.mono hI8
    have h2 := h2.mono hI8
    have hIc := hIc.trans hI8
    have h3 := Sl.lit ([3] : List Int) rfl encI_len (show _ = some (Obj.cells (([3] : List Int).flatMap encI).toArray 3 (0, 0)) from hb8)
    refine XO_callM (cap := []) (vs := [_, _, _]) rfl rfl fun_11 .nil (s_mrg hP h2 h3) rfl rfl ?_
    rintro vv9 I9 L9 hI9 ⟨rfl, a9, c9, rfl, hM⟩
    have hB := hB.mono hI9
    have hP := hP.mono hI9
    have h7 := h7.mono hI9
    have hV := hV.mono hI9
    have h2 := h2.mono hI9
    have h3 := h3.mono hI9
    have hIc := hIc.trans hI9
    refine XO_v0 (ev_move rfl) rfl rfl rfl ?_
    refine XO_v0 (ev_extract rfl rfl) rfl rfl rfl ?_
    refine XO_v0 (ev_extract rfl rfl) rfl rfl rfl ?_
    refine XO_v0 (ev_assign rfl) rfl rfl rfl ?_
    refine XO_v0 (ev_assign rfl) rfl rfl rfl ?_
    refine XO_nil ?_
    refine at_then ?_
    refine X_seq ?_
    refine X_region ?_
    refine XO_v0 (ev_move rfl) rfl rfl rfl ?_
    refine XO_v0 (ev_move rfl) rfl rfl rfl ?_
    refine XO_v0 (ev_move rfl) rfl rfl rfl ?_
    refine XO_callM (cap := []) (vs := [_, _, _]) rfl rfl fun_15 .nil (s_sg1 hP hB hM) rfl rfl ?_
    rintro vv10 I10 L10 hI10 ⟨rfl, a10, c10, rfl, hG1⟩
    have hB := hB.mono hI10
    have hP := hP.mono hI10
    have h7 := h7.mono hI10
    have hV := hV.mono hI10
    have h2 := h2.mono hI10
    have h3 := h3.mono hI10
    have hM := hM.mono hI10
    have hIc := hIc.trans hI10
    refine XO_v0 (ev_move rfl) rfl rfl rfl ?_
    refine XO_v0 (ev_extract rfl rfl) rfl rfl rfl ?_
    refine XO_v0 (ev_extract rfl rfl) rfl rfl rfl ?_
    refine XO_v0 (ev_assign rfl) rfl rfl rfl ?_
    refine XO_v0 (ev_assign rfl) rfl rfl rfl ?_
    refine XO_nil ?_
    refine at_then ?_
    refine X_seq ?_
    refine X_region ?_
    refine XO_v0 (ev_move rfl) rfl rfl rfl ?_
    refine XO_v0 (ev_move rfl) rfl rfl rfl ?_
    refine XO_v0 (ev_move rfl) rfl rfl rfl ?_
    refine XO_callM (cap := []) (vs := [_, _, _]) rfl rfl fun_14 .nil (s_cf1 hP hB hM) rfl rfl ?_
    rintro vv11 I11 L11 hI11 ⟨rfl, cs1, a11, c11, rfl, hC1, hk1⟩
    have hB := hB.mono hI11
    have hP := hP.mono hI11
    have h7 := h7.mono hI11
    have hV := hV.mono hI11
    have h2 := h2.mono hI11
    have h3 := h3.mono hI11
    have hM := hM.mono hI11
    have hG1 := hG1.mono hI11
    have hIc := hIc.trans hI11
    have hz11 := List.map_eq_nil_iff.1 hk1
    subst hz11
    refine XO_v0 (ev_move rfl) rfl rfl rfl ?_
    refine XO_v0 (ev_extract rfl rfl) rfl rfl rfl ?_
    refine XO_v0 (ev_extract rfl rfl) rfl rfl rfl ?_
    refine XO_v0 (ev_assign rfl) rfl rfl rfl ?_
    refine XO_v0 (ev_assign rfl) rfl rfl rfl ?_
    refine XO_nil ?_
    refine at_then ?_
    refine X_seq ?_
    refine X_region ?_
    refine XO_v0 (ev_move rfl) rfl rfl rfl ?_
    refine XO_v0 (ev_move rfl) rfl rfl rfl ?_
    refine XO_buildSlice (ps := [(0, _), (1, _), (2, _)]) (m := [encI 2, encI 3, encI 4]) elt_23 rfl (.cons rfl (.cons rfl (.cons rfl (.nil)))) rfl (by simp [encI_len, encP_len, encG_len, encC_len]) (by decide) (by decide) rfl rfl (fun b_75 => ?_)
    refine XO_freeze .here (fun I12 hI12 hb12 => ?_)
    have hB := hB.mono hI12
    have hP := hP.mono hI12
    have h7 := h7.mono hI12
    have hV := hV.mono hI12
    have h2 := h2.mono hI12
    have h3 := h3.mono hI12
    have hM := hM.mono hI12
    have hG1 := hG1.mono hI12
    have hIc := hIc.trans hI12
    have h234 := Sl.lit ([2, 3, 4] : List Int) rfl encI_len (show _ = some (Obj.cells (([2, 3, 4] : List Int).flatMap encI).toArray 3 (0, 0)) from hb12)
    refine XO_callM (cap := []) (vs := [_, _, _]) rfl rfl fun_14 .nil (s_cf2 hP hB h234) rfl rfl ?_
    rintro vv13 I13 L13 hI13 ⟨rfl, cs2, a13, c13, rfl, hC2, hk2⟩
    have hB := hB.mono hI13
    have hP := hP.mono hI13
    have h7 := h7.mono hI13
    have hV := hV.mono hI13
    have h2 := h2.mono hI13
    have h3 := h3.mono hI13
    have hM := hM.mono hI13
    have hG1 := hG1.mono hI13
    have h234 := h234.mono hI13
    have hIc := hIc.trans hI13
    refine XO_v0 (ev_move rfl) rfl rfl rfl ?_
    refine XO_v0 (ev_extract rfl rfl) rfl rfl rfl ?_
    refine XO_v0 (ev_extract rfl rfl) rfl rfl rfl ?_
    refine XO_v0 (ev_assign rfl) rfl rfl rfl ?_
    refine XO_v0 (ev_assign rfl) rfl rfl rfl ?_
    refine XO_nil ?_
    refine at_then ?_
    refine X_seq ?_
    refine X_region ?_
    refine XO_v0 (ev_move rfl) rfl rfl rfl ?_
    refine XO_v0 (ev_move rfl) rfl rfl rfl ?_
    refine XO_buildSlice (ps := [(0, _), (1, _), (2, _), (3, _)]) (m := [encI 2, encI 3, encI 4, encI 7]) elt_23 rfl (.cons rfl (.cons rfl (.cons rfl (.cons rfl (.nil))))) rfl (by simp [encI_len, encP_len, encG_len, encC_len]) (by decide) (by decide) rfl rfl (fun b_82 => ?_)
    refine XO_freeze .here (fun I14 hI14 hb14 => ?_)
    have hB := hB.mono hI14
    have hP := hP.mono hI14
    have h7 := h7.mono hI14
    have hV := hV.mono hI14
    have h2 := h2.mono hI14
    have h3 := h3.mono hI14
    have hM := hM.mono hI14
    have hG1 := hG1.mono hI14
    have h234 := h234.mono hI14
    have hC2 := hC2.mono hI14
    have hIc := hIc.trans hI14
    have h2347 := Sl.lit ([2, 3, 4, 7] : List Int) rfl encI_len (show _ = some (Obj.cells (([2, 3, 4, 7] : List Int).flatMap encI).toArray 3 (0, 0)) from hb14)
    refine XO_callM (cap := []) (vs := [_, _, _]) rfl rfl fun_15 .nil (s_sg2 hP hB h2347) rfl rfl ?_
    rintro vv15 I15 L15 hI15 ⟨rfl, a15, c15, rfl, hG2⟩
    have hB := hB.mono hI15
    have hP := hP.mono hI15
    have h7 := h7.mono hI15
    have hV := hV.mono hI15
    have h2 := h2.mono hI15
    have h3 := h3.mono hI15
    have hM := hM.mono hI15
    have hG1 := hG1.mono hI15
    have h234 := h234.mono hI15
    have hC2 := hC2.mono hI15
    have h2347 := h2347.mono hI15
    have hIc := hIc.trans hI15
    refine XO_v0 (ev_move rfl) rfl rfl rfl ?_
    refine XO_v0 (ev_extract rfl rfl) rfl rfl rfl ?_
    refine XO_v0 (ev_extract rfl rfl) rfl rfl rfl ?_
    refine XO_v0 (ev_assign rfl) rfl rfl rfl ?_
    refine XO_v0 (ev_assign rfl) rfl rfl rfl ?_
    refine XO_nil ?_
    refine at_then ?_
    refine X_seq ?_
    refine X_region ?_
    refine XO_v0 (ev_move rfl) rfl rfl rfl ?_
    refine XO_v0 (ev_move rfl) rfl rfl rfl ?_
    refine XO_buildSlice (ps := [(0, _), (1, _), (2, _), (3, _)]) (m := [encI 2, encI 3, encI 4, encI 7]) elt_23 rfl (.cons rfl (.cons rfl (.cons rfl (.cons rfl (.nil))))) rfl (by simp [encI_len, encP_len, encG_len, encC_len]) (by decide) (by decide) rfl rfl (fun b_89 => ?_)
    refine XO_freeze .here (fun I16 hI16 hb16 => ?_)
    have hB := hB.mono hI16
    have hP := hP.mono hI16
    have h7 := h7.mono hI16
    have hV := hV.mono hI16
    have h2 := h2.mono hI16
    have h3 := h3.mono hI16
    have hM := hM.mono hI16
    have hG1 := hG1.mono hI16
    have h234 := h234.mono hI16
    have hC2 := hC2.mono hI16
    have h2347 := h2347.mono hI16
    have hG2 := hG2.mono hI16
    have hIc := hIc.trans hI16
    have h2347b := Sl.lit ([2, 3, 4, 7] : List Int) rfl encI_len (show _ = some (Obj.cells (([2, 3, 4, 7] : List Int).flatMap encI).toArray 3 (0, 0)) from hb16)
    refine XO_callM (cap := []) (vs := [_, _, _]) rfl rfl fun_14 .nil (s_cf3 hP hB h2347b) rfl rfl ?_
    rintro vv17 I17 L17 hI17 ⟨rfl, cs3, a17, c17, rfl, hC3, hk3⟩
    have hB := hB.mono hI17
    have hP := hP.mono hI17
    have h7 := h7.mono hI17
    have hV := hV.mono hI17
    have h2 := h2.mono hI17
    have h3 := h3.mono hI17
    have hM := hM.mono hI17
    have hG1 := hG1.mono hI17
    have h234 := h234.mono hI17
    have hC2 := hC2.mono hI17
    have h2347 := h2347.mono hI17
    have hG2 := hG2.mono hI17
    have h2347b := h2347b.mono hI17
    have hIc := hIc.trans hI17
    have hz17 := List.map_eq_nil_iff.1 hk3
    subst hz17
    refine XO_v0 (ev_move rfl) rfl rfl rfl ?_
    refine XO_v0 (ev_extract rfl rfl) rfl rfl rfl ?_
    refine XO_v0 (ev_extract rfl rfl) rfl rfl rfl ?_
    refine XO_v0 (ev_assign rfl) rfl rfl rfl ?_
    refine XO_v0 (ev_assign rfl) rfl rfl rfl ?_
    refine XO_nil ?_
    refine at_then ?_
    refine X_seq ?_
    refine X_region ?_
    refine XO_buildSlice (ps := [(0, _)]) (m := [encI 1]) elt_23 rfl (.cons rfl (.nil)) rfl (by simp [encI_len, encP_len, encG_len, encC_len]) (by decide) (by decide) rfl rfl (fun b_94 => ?_)
    refine XO_freeze .here (fun I18 hI18 hb18 => ?_)
    have hB := hB.mono hI18
    have hP := hP.mono hI18
    have h7 := h7.mono hI18
    have hV := hV.mono hI18
    have h2 := h2.mono hI18
    have h3 := h3.mono hI18
    have hM := hM.mono hI18
    have hG1 := hG1.mono hI18
    have h234 := h234.mono hI18
    have hC2 := hC2.mono hI18
    have h2347 := h2347.mono hI18
    have hG2 := hG2.mono hI18
    have h2347b := h2347b.mono hI18
    have hIc := hIc.trans hI18
    have h1 := Sl.lit ([1] : List Int) rfl encI_len (show _ = some (Obj.cells (([1] : List Int).flatMap encI).toArray 3 (0, 0)) from hb18)
    refine XO_callM (cap := []) (vs := [_, _]) rfl rfl fun_10 .nil (s_clo2 SlP.nil h1) rfl rfl ?_
    rintro vv19 I19 L19 hI19 ⟨rfl, a19, c19, rfl, hV2⟩
    have hB := hB.mono hI19
    have hP := hP.mono hI19
    have h7 := h7.mono hI19
    have hV := hV.mono hI19
    have h2 := h2.mono hI19
    have h3 := h3.mono hI19
    have hM := hM.mono hI19
    have hG1 := hG1.mono hI19
    have h234 := h234.mono hI19
    have hC2 := hC2.mono hI19
    have h2347 := h2347.mono hI19
    have hG2 := hG2.mono hI19
    have h2347b := h2347b.mono hI19
    have h1 := h1.mono hI19
    have hIc := hIc.trans hI19
    refine XO_v0 (ev_move rfl) rfl rfl rfl ?_
    refine XO_v0 (ev_extract rfl rfl) rfl rfl rfl ?_
    refine XO_v0 (ev_extract rfl rfl) rfl rfl rfl ?_
    refine XO_v0 (ev_assign rfl) rfl rfl rfl ?_
    refine XO_v0 (ev_assign rfl) rfl rfl rfl ?_
    refine XO_nil ?_
    refine at_then ?_
    refine X_seq ?_
    refine X_region ?_
    refine XO_v0 (ev_move rfl) rfl rfl rfl ?_
    refine XO_v0 (ev_move rfl) rfl rfl rfl ?_
    refine XO_buildSlice (ps := [(0, _)]) (m := [encI 7]) elt_23 rfl (.cons rfl (.nil)) rfl (by simp [encI_len, encP_len, encG_len, encC_len]) (by decide) (by decide) rfl rfl (fun b_101 => ?_)
    refine XO_freeze .here (fun I20 hI20 hb20 => ?_)
    have hB := hB.mono hI20
    have hP := hP.mono hI20
    have h7 := h7.mono hI20
    have hV := hV.mono hI20
    have h2 := h2.mono hI20
    have h3 := h3.mono hI20
    have hM := hM.mono hI20
    have hG1 := hG1.mono hI20
    have h234 := h234.mono hI20
    have hC2 := hC2.mono hI20
    have h2347 := h2347.mono hI20
    have hG2 := hG2.mono hI20
    have h2347b := h2347b.mono hI20
    have h1 := h1.mono hI20
    have hIc := hIc.trans hI20
    have h7b := Sl.lit ([7] : List Int) rfl encI_len (show _ = some (Obj.cells (([7] : List Int).flatMap encI).toArray 3 (0, 0)) from hb20)
    refine XO_callM (cap := []) (vs := [_, _, _]) rfl rfl fun_15 .nil (s_sg3 hP hB h7b) rfl rfl ?_
    rintro vv21 I21 L21 hI21 ⟨rfl, a21, c21, rfl, hG3⟩
    have hB := hB.mono hI21
    have hP := hP.mono hI21
    have h7 := h7.mono hI21
    have hV := hV.mono hI21
    have h2 := h2.mono hI21
    have h3 := h3.mono hI21
    have hM := hM.mono hI21
    have hG1 := hG1.mono hI21
    have h234 := h234.mono hI21
    have hC2 := hC2.mono hI21
    have h2347 := h2347.mono hI21
    have hG2 := hG2.mono hI21
    have h2347b := h2347b.mono hI21
    have h1 := h1.mono hI21
    have h7b := h7b.mono hI21
    have hIc := hIc.trans hI21
    refine XO_v0 (ev_move rfl) rfl rfl rfl ?_
    refine XO_v0 (ev_extract rfl rfl) rfl rfl rfl ?_
    refine XO_v0 (ev_extract rfl rfl) rfl rfl rfl ?_
    refine XO_v0 (ev_assign rfl) rfl rfl rfl ?_
    refine XO_v0 (ev_assign rfl) rfl rfl rfl ?_
    refine XO_nil ?_
    refine at_then ?_
    refine X_seq ?_
    refine X_region ?_
    refine XO_v0 (ev_move rfl) rfl rfl rfl ?_
    refine XO_callM (cap := []) (vs := [_, _, _]) rfl rfl fun_15 .nil (s_sg4 SlP.nil hB .nil) rfl rfl ?_
    rintro vv22 I22 L22 hI22 ⟨rfl, a22, c22, rfl, hG4⟩
    have hB := hB.mono hI22
    have hP := hP.mono hI22
    have h7 := h7.mono hI22
    have hV := hV.mono hI22
    have h2 := h2.mono hI22
    have h3 := h3.mono hI22
    have hM := hM.mono hI22
    have hG1 := hG1.mono hI22
    have h234 := h234.mono hI22
    have hC2 := hC2.mono hI22
    have h2347 := h2347.mono hI22
    have hG2 := hG2.mono hI22
    have h2347b := h2347b.mono hI22
    have h1 := h1.mono hI22
    have h7b := h7b.mono hI22
    have hIc := hIc.trans hI22
    refine XO_v0 (ev_move rfl) rfl rfl rfl ?_
    refine XO_v0 (ev_extract rfl rfl) rfl rfl rfl ?_
    refine XO_v0 (ev_extract rfl rfl) rfl rfl rfl ?_
    refine XO_v0 (ev_assign rfl) rfl rfl rfl ?_
    refine XO_v0 (ev_assign rfl) rfl rfl rfl ?_
    refine XO_nil ?_
    refine at_then ?_
    refine X_seq ?_
    refine X_seq ?_
    refine X_region ?_
    refine XO_v0 (ev_move rfl) rfl rfl rfl ?_
    refine XO_v0 (ev_cmp rfl rfl rfl) rfl rfl rfl ?_
    refine XO_v0 (ev_move rfl) rfl rfl rfl ?_
    refine XO_want (dj := 112) rfl rfl rfl ?_
    refine XO_v0 (ev_move rfl) rfl rfl rfl ?_
    refine XO_want (dj := 112) rfl rfl rfl ?_
    refine XO_v0 (ev_cmp rfl rfl rfl) rfl rfl rfl ?_
    refine XO_v0 (ev_pickb rfl rfl rfl) rfl rfl rfl ?_
    refine XO_v0 (ev_move rfl) rfl rfl rfl ?_
    refine XO_want (dj := 116) rfl rfl rfl ?_
    refine XO_v0 (ev_move rfl) rfl rfl rfl ?_
    refine XO_want (dj := 116) rfl rfl rfl ?_
    refine XO_v0 (ev_cmp rfl rfl rfl) rfl rfl rfl ?_
    refine XO_v0 (ev_pickb rfl rfl rfl) rfl rfl rfl ?_
    refine XO_v0 (ev_move rfl) rfl rfl rfl ?_
    refine XO_want (dj := 120) rfl rfl rfl ?_
    refine XO_v0 (ev_move rfl) rfl rfl rfl ?_
    refine XO_want (dj := 120) rfl rfl rfl ?_
    refine XO_v0 (ev_cmp rfl rfl rfl) rfl rfl rfl ?_
    refine XO_v0 (ev_pickb rfl rfl rfl) rfl rfl rfl ?_
    refine XO_v0 (ev_move rfl) rfl rfl rfl ?_
    refine XO_want (dj := 124) rfl rfl rfl ?_
    refine XO_v0 (ev_move rfl) rfl rfl rfl ?_
    refine XO_want (dj := 124) rfl rfl rfl ?_
    refine XO_v0 (ev_cmp rfl rfl rfl) rfl rfl rfl ?_
    refine XO_v0 (ev_pickb rfl rfl rfl) rfl rfl rfl ?_
    refine XO_v0 (ev_move rfl) rfl rfl rfl ?_
    refine XO_want (dj := 128) rfl rfl rfl ?_
    refine XO_v0 (ev_move rfl) rfl rfl rfl ?_
    refine XO_want (dj := 128) rfl rfl rfl ?_
    refine XO_v0 (ev_cmp rfl rfl rfl) rfl rfl rfl ?_
    refine XO_v0 (ev_pickb rfl rfl rfl) rfl rfl rfl ?_
    refine XO_v0 (ev_move rfl) rfl rfl rfl ?_
    refine XO_want (dj := 132) rfl rfl rfl ?_
    refine XO_v0 (ev_move rfl) rfl rfl rfl ?_
    refine XO_want (dj := 132) rfl rfl rfl ?_
    refine XO_v0 (ev_cmp rfl rfl rfl) rfl rfl rfl ?_
    refine XO_v0 (ev_pickb rfl rfl rfl) rfl rfl rfl ?_
    refine XO_v0 (ev_move rfl) rfl rfl rfl ?_
    refine XO_want (dj := 136) rfl rfl rfl ?_
    refine XO_v0 (ev_move rfl) rfl rfl rfl ?_
    refine XO_want (dj := 136) rfl rfl rfl ?_
    refine XO_v0 (ev_cmp rfl rfl rfl) rfl rfl rfl ?_
    refine XO_v0 (ev_pickb rfl rfl rfl) rfl rfl rfl ?_
    refine XO_v0 (ev_move rfl) rfl rfl rfl ?_
    refine XO_want (dj := 140) rfl rfl rfl ?_
    refine XO_v0 (ev_move rfl) rfl rfl rfl ?_
    refine XO_want (dj := 140) rfl rfl rfl ?_
    refine XO_v0 (ev_cmp rfl rfl rfl) rfl rfl rfl ?_
    refine XO_v0 (ev_pickb rfl rfl rfl) rfl rfl rfl ?_
    refine XO_v0 (ev_move rfl) rfl rfl rfl ?_
    refine XO_want (dj := 144) rfl rfl rfl ?_
    refine XO_v0 (ev_move rfl) rfl rfl rfl ?_
    refine XO_want (dj := 144) rfl rfl rfl ?_
    refine XO_v0 (ev_cmp rfl rfl rfl) rfl rfl rfl ?_
    refine XO_v0 (ev_pickb rfl rfl rfl) rfl rfl rfl ?_
    refine XO_nil ?_
    refine at_then ?_
    refine X_cond rfl (fun hc147 => ?_) (fun hc147 => ?_)
    · skip
      exact absurd hc147 (by decide)
    · skip
      refine X_skip ?_
      refine at_then ?_
      refine X_seq ?_
      refine X_seq ?_
      refine X_region ?_
      refine XO_callV0 (cap := []) (vs := [_]) rfl rfl fun_9 (s_chk0 SlP.nil) rfl rfl ?_
      refine XO_v0 (ev_cmp rfl rfl rfl) rfl rfl rfl ?_
      refine XO_v0 (ev_move rfl) rfl rfl rfl ?_
      refine XO_want (dj := 150) rfl rfl rfl ?_
      refine XO_v0 (ev_move rfl) rfl rfl rfl ?_
      refine XO_want (dj := 150) rfl rfl rfl ?_
      refine XO_callV0 (cap := []) (vs := [_]) rfl rfl fun_9 (s_chk1 hP) rfl rfl ?_
      refine XO_want (dj := 150) rfl rfl rfl ?_
      refine XO_v0 (ev_cmp rfl rfl rfl) rfl rfl rfl ?_
      refine XO_v0 (ev_pickb rfl rfl rfl) rfl rfl rfl ?_
      refine XO_v0 (ev_move rfl) rfl rfl rfl ?_
      refine XO_want (dj := 155) rfl rfl rfl ?_
      refine XO_buildSlice (ps := [(0, _)]) (m := [encI 1]) elt_23 rfl (.cons rfl (.nil)) rfl (by simp [encI_len, encP_len, encG_len, encC_len]) (by decide) (by decide) rfl rfl (fun b_156 => ?_)
      refine XO_freeze .here (fun I23 hI23 hb23 => ?_)
      have hB := hB.mono hI23
      have hP := hP.mono hI23
      have h7 := h7.mono hI23
      have hV := hV.mono hI23
      have h2 := h2.mono hI23
      have h3 := h3.mono hI23
      have hM := hM.mono hI23
      have hG1 := hG1.mono hI23
      have h234 := h234.mono hI23
      have hC2 := hC2.mono hI23
      have h2347 := h2347.mono hI23
      have hG2 := hG2.mono hI23
      have h2347b := h2347b.mono hI23
      have h1 := h1.mono hI23
      have h7b := h7b.mono hI23
      have hG4 := hG4.mono hI23
      have hIc := hIc.trans hI23
      have h1b := Sl.lit ([1] : List Int) rfl encI_len (show _ = some (Obj.cells (([1] : List Int).flatMap encI).toArray 3 (0, 0)) from hb23)
      refine XO_want (dj := 155) rfl rfl rfl ?_
      refine XO_callV0 (cap := []) (vs := [_, _, _]) rfl rfl fun_21 (w_lset _ 2 3 _ _ _ [1]) rfl rfl ?_
      refine XO_want (dj := 155) rfl rfl rfl ?_
      refine XO_buildSlice (ps := [(0, _)]) (m := [encP (setP 2 3 (some ⟨b_156, 0, none⟩) 1 1 [1])]) elt_22 rfl (.cons rfl (.nil)) rfl (by simp [encI_len, encP_len, encG_len, encC_len]) (by decide) (by decide) rfl rfl (fun b_158 => ?_)
      refine XO_freeze .here (fun I24 hI24 hb24 => ?_)
      have hB := hB.mono hI24
      have hP := hP.mono hI24
      have h7 := h7.mono hI24
      have hV := hV.mono hI24
      have h2 := h2.mono hI24
      have h3 := h3.mono hI24
      have hM := hM.mono hI24
      have hG1 := hG1.mono hI24
      have h234 := h234.mono hI24
      have hC2 := hC2.mono hI24
      have h2347 := h2347.mono hI24
      have hG2 := hG2.mono hI24
      have h2347b := h2347b.mono hI24
      have h1 := h1.mono hI24
      have h7b := h7b.mono hI24
      have hG4 := hG4.mono hI24
      have h1b := h1b.mono hI24
      have hIc := hIc.trans hI24
      have hPb : SlP I24 _ 1 1 (stB (some ⟨b_156, 0, none⟩)) := stB_sl hb24 h1b
      refine XO_want (dj := 155) rfl rfl rfl ?_
      refine XO_callV0 (cap := []) (vs := [_]) rfl rfl fun_9 (s_chk2 hPb) rfl rfl ?_
      refine XO_want (dj := 155) rfl rfl rfl ?_
      refine XO_v0 (ev_cmp rfl rfl rfl) rfl rfl rfl ?_
      refine XO_v0 (ev_pickb rfl rfl rfl) rfl rfl rfl ?_
      refine XO_nil ?_
      refine at_then ?_
      refine X_cond rfl (fun hc161 => ?_) (fun hc161 => ?_)
      · skip
        exact absurd hc161 (by decide)
      · skip
        refine X_skip ?_
        refine at_then ?_
        refine X_seq ?_
        refine X_seq ?_
        refine X_region ?_
        refine XO_v0 (ev_move rfl) rfl rfl rfl ?_
        refine XO_buildSlice (ps := [(0, _), (1, _), (2, _)]) (m := [encI 2, encI 4, encI 7]) elt_23 rfl (.cons rfl (.cons rfl (.cons rfl (.nil)))) rfl (by simp [encI_len, encP_len, encG_len, encC_len]) (by decide) (by decide) rfl rfl (fun b_163 => ?_)
        refine XO_freeze .here (fun I25 hI25 hb25 => ?_)
        have hB := hB.mono hI25
        have hP := hP.mono hI25
        have h7 := h7.mono hI25
        have hV := hV.mono hI25
        have h2 := h2.mono hI25
        have h3 := h3.mono hI25
        have hM := hM.mono hI25
        have hG1 := hG1.mono hI25
        have h234 := h234.mono hI25
        have hC2 := hC2.mono hI25
        have h2347 := h2347.mono hI25
        have hG2 := hG2.mono hI25
        have h2347b := h2347b.mono hI25
        have h1 := h1.mono hI25
        have h7b := h7b.mono hI25
        have hG4 := hG4.mono hI25
        have h1b := h1b.mono hI25
        have hPb := hPb.mono hI25
        have hIc := hIc.trans hI25
        have h247 := Sl.lit ([2, 4, 7] : List Int) rfl encI_len (show _ = some (Obj.cells (([2, 4, 7] : List Int).flatMap encI).toArray 3 (0, 0)) from hb25)
        refine XO_callV0 (cap := []) (vs := [_, _]) rfl rfl fun_12 (s_sameI hV h247 (by decide) rfl) rfl rfl ?_
        refine XO_v0 (ev_not rfl) rfl rfl rfl ?_
        refine XO_v0 (ev_move rfl) rfl rfl rfl ?_
        refine XO_want (dj := 166) rfl rfl rfl ?_
        refine XO_v0 (ev_move rfl) rfl rfl rfl ?_
        refine XO_want (dj := 166) rfl rfl rfl ?_
        refine XO_buildSlice (ps := [(0, _), (1, _)]) (m := [encI 2, encI 3]) elt_23 rfl (.cons rfl (.cons rfl (.nil))) rfl (by simp [encI_len, encP_len, encG_len, encC_len]) (by decide) (by decide) rfl rfl (fun b_168 => ?_)
        refine XO_freeze .here (fun I26 hI26 hb26 => ?_)
        have hB := hB.mono hI26
        have hP := hP.mono hI26
        have h7 := h7.mono hI26
        have hV := hV.mono hI26
        have h2 := h2.mono hI26
        have h3 := h3.mono hI26
        have hM := hM.mono hI26
        have hG1 := hG1.mono hI26
        have h234 := h234.mono hI26
        have hC2 := hC2.mono hI26
        have h2347 := h2347.mono hI26
        have hG2 := hG2.mono hI26
        have h2347b := h2347b.mono hI26
        have h1 := h1.mono hI26
        have h7b := h7b.mono hI26
        have hG4 := hG4.mono hI26
        have h1b := h1b.mono hI26
        have hPb := hPb.mono hI26
        have h247 := h247.mono hI26
        have hIc := hIc.trans hI26
        have h23 := Sl.lit ([2, 3] : List Int) rfl encI_len (show _ = some (Obj.cells (([2, 3] : List Int).flatMap encI).toArray 3 (0, 0)) from hb26)
        refine XO_want (dj := 166) rfl rfl rfl ?_
        refine XO_callV0 (cap := []) (vs := [_, _]) rfl rfl fun_12 (s_sameI hM h23 (by decide) rfl) rfl rfl ?_
        refine XO_want (dj := 166) rfl rfl rfl ?_
        refine XO_v0 (ev_not rfl) rfl rfl rfl ?_
        refine XO_v0 (ev_pickb rfl rfl rfl) rfl rfl rfl ?_
        refine XO_v0 (ev_move rfl) rfl rfl rfl ?_
        refine XO_want (dj := 172) rfl rfl rfl ?_
        refine XO_v0 (ev_move rfl) rfl rfl rfl ?_
        refine XO_want (dj := 172) rfl rfl rfl ?_
        refine XO_v0 (ev_lenS rfl slt_40) rfl rfl rfl ?_
        refine XO_want (dj := 172) rfl rfl rfl ?_
        refine XO_v0 (ev_cmp rfl rfl rfl) rfl rfl rfl ?_
        refine XO_v0 (ev_pickb rfl rfl rfl) rfl rfl rfl ?_
        refine XO_v0 (ev_move rfl) rfl rfl rfl ?_
        refine XO_want (dj := 177) rfl rfl rfl ?_
        refine XO_v0 (ev_move rfl) rfl rfl rfl ?_
        refine XO_want (dj := 177) rfl rfl rfl ?_
        refine XO_v0 (ev_lenS rfl slt_40) rfl rfl rfl ?_
        refine XO_want (dj := 177) rfl rfl rfl ?_
        refine XO_v0 (ev_cmp rfl rfl rfl) rfl rfl rfl ?_
        refine XO_v0 (ev_pickb rfl rfl rfl) rfl rfl rfl ?_
        refine XO_v0 (ev_move rfl) rfl rfl rfl ?_
        refine XO_want (dj := 182) rfl rfl rfl ?_
        refine XO_v0 (ev_move rfl) rfl rfl rfl ?_
        refine XO_want (dj := 182) rfl rfl rfl ?_
        refine XO_buildSlice (ps := [(0, _), (1, _)]) (m := [encI 2, encI 4]) elt_23 rfl (.cons rfl (.cons rfl (.nil))) rfl (by simp [encI_len, encP_len, encG_len, encC_len]) (by decide) (by decide) rfl rfl (fun b_184 => ?_)
        refine XO_freeze .here (fun I27 hI27 hb27 => ?_)
        have hB := hB.mono hI27
        have hP := hP.mono hI27
        have h7 := h7.mono hI27
        have hV := hV.mono hI27
        have h2 := h2.mono hI27
        have h3 := h3.mono hI27
        have hM := hM.mono hI27
        have hG1 := hG1.mono hI27
        have h234 := h234.mono hI27
        have hC2 := hC2.mono hI27
        have h2347 := h2347.mono hI27
        have hG2 := hG2.mono hI27
        have h2347b := h2347b.mono hI27
        have h1 := h1.mono hI27
        have h7b := h7b.mono hI27
        have hG4 := hG4.mono hI27
        have h1b := h1b.mono hI27
        have hPb := hPb.mono hI27
        have h247 := h247.mono hI27
        have h23 := h23.mono hI27
        have hIc := hIc.trans hI27
        have h24 := Sl.lit ([2, 4] : List Int) rfl encI_len (show _ = some (Obj.cells (([2, 4] : List Int).flatMap encI).toArray 3 (0, 0)) from hb27)
        refine XO_want (dj := 182) rfl rfl rfl ?_
        refine XO_v0 (ev_buildL (ps := [(0, _), (1, _), (2, _)]) [_, _, _] plt_44 rfl rfl) rfl rfl rfl ?_
        refine XO_want (dj := 182) rfl rfl rfl ?_
        refine XO_buildSlice (ps := [(0, _)]) (m := [encC ⟨1, 5, some ⟨b_184, 0, none⟩, 2, 2, [2, 4]⟩]) elt_40 rfl (.cons rfl (.nil)) rfl (by simp [encI_len, encP_len, encG_len, encC_len]) (by decide) (by decide) rfl rfl (fun b_186 => ?_)
        refine XO_freeze .here (fun I28 hI28 hb28 => ?_)
        have hB := hB.mono hI28
        have hP := hP.mono hI28
        have h7 := h7.mono hI28
        have hV := hV.mono hI28
        have h2 := h2.mono hI28
        have h3 := h3.mono hI28
        have hM := hM.mono hI28
        have hG1 := hG1.mono hI28
        have h234 := h234.mono hI28
        have hC2 := hC2.mono hI28
        have h2347 := h2347.mono hI28
        have hG2 := hG2.mono hI28
        have h2347b := h2347b.mono hI28
        have h1 := h1.mono hI28
        have h7b := h7b.mono hI28
        have hG4 := hG4.mono hI28
        have h1b := h1b.mono hI28
        have hPb := hPb.mono hI28
        have h247 := h247.mono hI28
        have h23 := h23.mono hI28
        have h24 := h24.mono hI28
        have hIc := hIc.trans hI28
        have hD1 := conf_one hb28 h24
        refine XO_want (dj := 182) rfl rfl rfl ?_
        refine XO_callV0 (cap := []) (vs := [_, _]) rfl rfl fun_18 (s_sameC hC2 hk2 hD1) rfl rfl ?_
        refine XO_want (dj := 182) rfl rfl rfl ?_
        refine XO_v0 (ev_not rfl) rfl rfl rfl ?_
        refine XO_v0 (ev_pickb rfl rfl rfl) rfl rfl rfl ?_
        refine XO_nil ?_
        refine at_then ?_
        refine X_cond rfl (fun hc189 => ?_) (fun hc189 => ?_)
        · skip
          exact absurd hc189 (by decide)
        · skip
          refine X_skip ?_
          refine at_then ?_
          refine X_seq ?_
          refine X_region ?_
          refine XO_v0 (ev_move rfl) rfl rfl rfl ?_
          refine XO_v0 (ev_loadA rfl agt_35 (fun hg => by first | exact Sl.getA (k := 0) (x := g1) hB rfl | exact Cells.g0 | exact Cells.g1 | exact Cells.g2 | exact Cells.g3 | exact Cells.g4 | exact Cells.g5 | exact Cells.s0 (vs := [_, _, _, _, _, _, _, _, _, _, _, _, _, _]) rfl | exact Cells.s1 (vs := [_, _, _, _, _, _, _, _, _, _, _, _, _, _]) rfl | exact Cells.s2 (vs := [_, _, _, _, _, _, _, _, _, _, _, _, _, _]) rfl | exact Cells.s3 (vs := [_, _, _, _, _, _, _, _, _, _, _, _, _, _]) rfl | exact Cells.s4 (vs := [_, _, _, _, _, _, _, _, _, _, _, _, _, _]) rfl | exact Cells.s5 (vs := [_, _, _, _, _, _, _, _, _, _, _, _, _, _]) rfl | (repeat (first | exact Cells.here | apply Cells.there | apply Cells.app))) rfl) rfl rfl rfl ?_
          refine XO_buildSlice (ps := [(0, _)]) (m := [encG g2]) elt_39 rfl (.cons rfl (.nil)) rfl (by simp [encI_len, encP_len, encG_len, encC_len]) (by decide) (by decide) rfl rfl (fun b_192 => ?_)
          refine XO_freeze .here (fun I29 hI29 hb29 => ?_)
          have hB := hB.mono hI29
          have hP := hP.mono hI29
          have h7 := h7.mono hI29
          have hV := hV.mono hI29
          have h2 := h2.mono hI29
          have h3 := h3.mono hI29
          have hM := hM.mono hI29
          have hG1 := hG1.mono hI29
          have h234 := h234.mono hI29
          have hC2 := hC2.mono hI29
          have h2347 := h2347.mono hI29
          have hG2 := hG2.mono hI29
          have h2347b := h2347b.mono hI29
          have h1 := h1.mono hI29
          have h7b := h7b.mono hI29
          have hG4 := hG4.mono hI29
          have h1b := h1b.mono hI29
          have hPb := hPb.mono hI29
          have h247 := h247.mono hI29
          have h23 := h23.mono hI29
          have h24 := h24.mono hI29
          have hD1 := hD1.mono hI29
          have hIc := hIc.trans hI29
          have hg2 := Sl.lit ([g2] : List Sg) rfl encG_len (show _ = some (Obj.cells (([g2] : List Sg).flatMap encG).toArray 35 (0, 0)) from hb29)
          refine XO_callV0 (cap := []) (vs := [_, _]) rfl rfl fun_17 (s_sameG hG1 hg2 (by decide) rfl) rfl rfl ?_
          refine XO_v0 (ev_move rfl) rfl rfl rfl ?_
          refine XO_want (dj := 194) rfl rfl rfl ?_
          refine XO_v0 (ev_move rfl) rfl rfl rfl ?_
          refine XO_want (dj := 194) rfl rfl rfl ?_
          refine XO_v0 (ev_loadA rfl agt_35 (fun hg => by first | exact Sl.getA (k := 0) (x := g1) hB rfl | exact Cells.g0 | exact Cells.g1 | exact Cells.g2 | exact Cells.g3 | exact Cells.g4 | exact Cells.g5 | exact Cells.s0 (vs := [_, _, _, _, _, _, _, _, _, _, _, _, _, _]) rfl | exact Cells.s1 (vs := [_, _, _, _, _, _, _, _, _, _, _, _, _, _]) rfl | exact Cells.s2 (vs := [_, _, _, _, _, _, _, _, _, _, _, _, _, _]) rfl | exact Cells.s3 (vs := [_, _, _, _, _, _, _, _, _, _, _, _, _, _]) rfl | exact Cells.s4 (vs := [_, _, _, _, _, _, _, _, _, _, _, _, _, _]) rfl | exact Cells.s5 (vs := [_, _, _, _, _, _, _, _, _, _, _, _, _, _]) rfl | (repeat (first | exact Cells.here | apply Cells.there | apply Cells.app))) rfl) rfl rfl rfl ?_
          refine XO_want (dj := 194) rfl rfl rfl ?_
          refine XO_buildSlice (ps := [(0, _)]) (m := [encG g3]) elt_39 rfl (.cons rfl (.nil)) rfl (by simp [encI_len, encP_len, encG_len, encC_len]) (by decide) (by decide) rfl rfl (fun b_197 => ?_)
          refine XO_freeze .here (fun I30 hI30 hb30 => ?_)
          have hB := hB.mono hI30
          have hP := hP.mono hI30
          have h7 := h7.mono hI30
          have hV := hV.mono hI30
          have h2 := h2.mono hI30
          have h3 := h3.mono hI30
          have hM := hM.mono hI30
          have hG1 := hG1.mono hI30
          have h234 := h234.mono hI30
          have hC2 := hC2.mono hI30
          have h2347 := h2347.mono hI30
          have hG2 := hG2.mono hI30
          have h2347b := h2347b.mono hI30
          have h1 := h1.mono hI30
          have h7b := h7b.mono hI30
          have hG4 := hG4.mono hI30
          have h1b := h1b.mono hI30
          have hPb := hPb.mono hI30
          have h247 := h247.mono hI30
          have h23 := h23.mono hI30
          have h24 := h24.mono hI30
          have hD1 := hD1.mono hI30
          have hg2 := hg2.mono hI30
          have hIc := hIc.trans hI30
          have hg3 := Sl.lit ([g3] : List Sg) rfl encG_len (show _ = some (Obj.cells (([g3] : List Sg).flatMap encG).toArray 35 (0, 0)) from hb30)
          refine XO_want (dj := 194) rfl rfl rfl ?_
          refine XO_callV0 (cap := []) (vs := [_, _]) rfl rfl fun_17 (s_sameG hG2 hg3 (by decide) rfl) rfl rfl ?_
          refine XO_v0 (ev_pickb rfl rfl rfl) rfl rfl rfl ?_
          refine XO_v0 (ev_move rfl) rfl rfl rfl ?_
          refine XO_want (dj := 200) rfl rfl rfl ?_
          refine XO_v0 (ev_move rfl) rfl rfl rfl ?_
          refine XO_want (dj := 200) rfl rfl rfl ?_
          refine XO_v0 (ev_move rfl) rfl rfl rfl ?_
          refine XO_want (dj := 200) rfl rfl rfl ?_
          refine XO_callV0 (cap := []) (vs := [_, _]) rfl rfl fun_17 (s_sameG hG4 hB (by decide) rfl) rfl rfl ?_
          refine XO_v0 (ev_pickb rfl rfl rfl) rfl rfl rfl ?_
          refine XO_v0 (ev_assign rfl) rfl rfl rfl ?_
          refine XO_nil ?_
          refine at_then ?_
          refine X_ret ?_
          first
          | exact at_ret1 rfl rfl (fun w hw => ⟨by rfl, (hw.mono hIc).drop⟩)
end Go.Proofs.Ytccomeanpppfmaa
end
section
namespace Go.Proofs.Ytccomeanpppfmaa
open Go Go.Kn Go.Proofs
theorem ver_len {ps : List Pt} {v : List Int} (h : Lst ps) (hv : Ver ps v) : v.length ≤ ps.length := by
  have := congrArg List.length (verL_ids h hv)
  rw [List.length_map] at this
  rw [← this]
  exact List.length_filter_le ..
section
variable {ps : List Pt} {a b c : List Int}
theorem clo_v (h : chkR ps = 0) (p : List Int) : Ver ps (cloF ps p) := clo_ver (chkR_lst h) p
end
section
variable {ps : List Pt} {a b : List Int} {k : Nat} {x : Int}
end
/-! ### A version that is merged -/
section
variable {ps : List Pt} {base : List Sg} {a m : List Int}
theorem pat_parts (h : patE ps base m = 0) : chkR ps = 0 ∧ chkG base = 0 ∧ Ver ps m ∧ fitB base (verL ps m) = true := by
  unfold patE at h
  split at h
  · contradiction
  · split at h
    · contradiction
    · split at h
      · cases h
      · split at h
        · rename_i h1 h2 h3 h4
          rw [Bool.and_eq_true] at h4
          have hk : chkR ps = 0 := by omega
          exact ⟨hk, by omega, (verB_iff (chkR_lst hk)).1 h4.1, h4.2⟩
        · cases h
end
end Go.Proofs.Ytccomeanpppfmaa
end
section
namespace Go.Proofs.Ytccomeanpppfmaa
open Go Go.Kn Go.Proofs
theorem fun_8 : Fun Try.prog 8 := .of Try.func8 (by kernel_rfl) (by kernel_rfl)
end Go.Proofs.Ytccomeanpppfmaa
end
section
namespace Go.Proofs.Ytccomeanpppfmaa
open Go Go.Kn Go.Proofs
theorem flatMap_few {α β : Type} {f : α → List β} {m : Nat} (h : ∀ a, (f a).length ≤ m) : ∀ l : List α, (l.flatMap f).length ≤ m * l.length
  | [] => by simp
  | a :: l => by
    rw [List.flatMap_cons, List.length_append, List.length_cons, Nat.mul_succ]
    have h1 := h a
    have h2 := flatMap_few h l
    omega
theorem cfl_few {ps : List Pt} {bs : List Sg} {v : List Int} : (cflF ps bs v).length ≤ 10 * (bs.length + ps.length) := by
  unfold cflF
  by_cases he : sgnE ps bs v = 0
  · rw [resF_ok he]
    unfold cfL
    have h1 : ∀ x : Sg, (cfS (onF ps) (verL ps v) x.id).length ≤ 10 := fun x => by
      unfold cfS
      rw [List.length_append]
      have h2 : (cf0 (onF ps) (verL ps v) x.id).length ≤ 1 := by unfold cf0; split <;> simp
      have h3 := flatMap_few (f := fun k : Nat => cfK (onF ps) (verL ps v) x.id ((k : Int) + 1)) (m := 1) (fun k => by unfold cfK; split <;> simp) (List.range 9)
      rw [List.length_range] at h3
      omega
    refine Nat.le_trans (flatMap_few h1 _) ?_
    have h4 := all_len (l := verL ps v) (base := bs)
    have h5 : (verL ps v).length ≤ ps.length := List.length_filter_le ..
    omega
  · rw [resF_bad he]; simp
theorem cs_few {ps : List Pt} {bs : List Sg} {v : List Int} {cs : List Cf} (h : cs.map Cf.key = cflF ps bs v) : cs.length ≤ 10 * (bs.length + ps.length) := by
  have := cfl_few (ps := ps) (bs := bs) (v := v)
  rwa [← h, List.length_map] at this
theorem sgF_few {ps : List Pt} {bs : List Sg} {v : List Int} : (sgnF ps bs v).length ≤ bs.length + ps.length := by
  unfold sgnF
  by_cases he : sgnE ps bs v = 0
  · rw [resF_ok he]
    have h1 := sgn_len (on := onF ps) (base := bs) (l := verL ps v)
    have h5 : (verL ps v).length ≤ ps.length := List.length_filter_le ..
    omega
  · rw [resF_bad he]; simp
section
variable {α : Type} {P : α → Bool} {xs : List α} {k : Nat} {x : α}
end
end Go.Proofs.Ytccomeanpppfmaa
end
section
namespace Go.Proofs.Ytccomeanpppfmaa
open Go Go.Kn Go.Proofs
section
variable {ps : List Pt} {v order : List Int}
end
theorem tmod_nat' (a b : Nat) : ((a : Int)).tmod (b : Int) = ((a % b : Nat) : Int) := by
  rw [Int.tmod_eq_emod_of_nonneg (by omega)]; simp
theorem pick_val {z : Int} (h : 0 ≤ z ∧ z ≤ 255) (m : Nat) : (IntKind.i64.wrap z).tmod (m : Int) = ((z.toNat % m : Nat) : Int) := by
  rw [wrap_in (by omega), ← tmod_nat', Int.toNat_of_nonneg h.1]
end Go.Proofs.Ytccomeanpppfmaa
end
section
namespace Go.Kn
open Go Go.ChangeShapes Go.WideShapes Go.ChangeAt Go.RowKit
/-- All that lies in the world is read only. -/
def heapI (W : World) : HMap := fun b => W.heap[b]?
theorem St.start (W : World) : St W (heapI W) (fun _ => none) [] W :=
  ⟨rfl, rfl, rfl, ⟨Nat.le_refl _, Nat.le_refl _⟩, fun _ _ h => h, (fun _ _ h => by cases h), (fun _ _ h => by cases h), fun _ => .inr rfl, (fun _ _ h => by cases h), by simp⟩
theorem St.below {W w : World} {H : HMap} {loc : Loc} (h : St W (heapI W) H loc w) : Below W.heap.size W w :=
  ⟨h.os, h.tape, h.out, h.size.1, fun k hk => by
    have e : W.heap[k]? = some W.heap[k] := Array.getElem?_eq_getElem hk
    rw [h.imm k _ e, e]⟩
theorem RetV.law {P : Program} {f : FuncId} {args : List Value} {W : World} {v : Value} (h : RetV P f args (heapI W) v) : Calls P f args.toArray W fun e w' => e = .returned v ∧ Below W.heap.size W w' :=
  (h W _ W (St.start W)).mono fun _ _ ⟨he, hs⟩ => ⟨he, hs.below⟩
theorem keptBut_below {W w : World} {may : MemPlace → Prop} (h : Below W.heap.size W w) : W.keptBut w may := by
  refine ⟨h.os, h.output, fun i hi => ?_⟩
  rw [h.block i hi]
  rw [Array.getElem?_eq_getElem hi]
  cases W.heap[i] <;> simp
theorem trodAll_stays {H : Type} {enc : TypeId × Value → H} {P : Program} {W W' : World} (hl : laidOutB P = true) (hB : Below W.heap.size W W') (sp : Nat → Bool) : ∀ (ts : List TypeId) (vs : List Value) (ds : List (DataW H)) (ps : List MemPlace), (∀ t ∈ ts, P.readableRec t = true ∧ t < P.types.size) →
    DataW.TrodAll enc P W 0 (fun _ => true) true ts vs ds ps → (∀ x ∈ ps, x.block < W.heap.size ∧ sp x.block = true) → DataW.TrodAll enc P W' 0 sp true ts vs ds ps
  | [], [], [], ps, _, h, _ => h
  | t :: ts, v :: vs, d :: ds, ps, hr, ⟨p, q, h1, h2, e⟩, hlt => by
    subst e
    exact ⟨p, q, WideElems.Trod_stays hl (hr t (List.mem_cons_self ..)).1 (hr t (List.mem_cons_self ..)).2 h1 (fun x hx => hB.same (hlt x (List.mem_append_left _ hx)).1) (fun x hx => (hlt x (List.mem_append_left _ hx)).2),
      trodAll_stays hl hB sp ts vs ds q (fun t ht => hr t (List.mem_cons_of_mem _ ht)) h2 (fun x hx => hlt x (List.mem_append_right _ hx)), rfl⟩
/-- A law's row: it hands back true; the input reads as it did. -/
theorem post_law {H : Type} {enc : TypeId × Value → H} {P : Program} {f : Func} {s : ChangeSpec} {again : Bool} {W W' : World} {args : Array Value} {ds : List (DataW H)} {before : List MemPlace} {tb : TypeId}
    (hl : laidOutB P = true) (hr : f.resultTypes = #[tb]) (hb : P.underlying tb = some .bool) (hv : s.vars = []) (hs : (s.fn H (ds ++ [])) = { results := [.lit (.bool true)], args := ds }) (hrd : ∀ t ∈ f.params.toList, P.readableRec t = true ∧ t < P.types.size)
    (hW : DataW.Whole enc P f.params.toList s.vars false W args.toList ds [] before) (hB : Below W.heap.size W W') : s.post enc P f false true false again W args (.bool true) W' := by
  have hlt : ∀ x ∈ before, x.block < W.heap.size := fun x hx => by simpa using hW.lt x hx
  have hW0 := hW
  obtain ⟨p, q, hA, hV, rfl, hfz, _⟩ := hW
  rw [hv] at hV
  obtain ⟨_, rfl⟩ := trodVars_none hV
  rw [List.append_nil] at hlt hfz hW0
  have hres : ∀ (b : Nat) (sp : Nat → Bool) (hd : Bool), DataW.TrodAll enc P W' b sp hd f.resultTypes.toList ((Value.bool true).resultList f.resultTypes.size) [.lit (.bool true)] [] := fun b sp hd => by
    rw [hr]; exact trodAll_mk1 (shut_bool hb true)
  have hargs : ∀ sp : Nat → Bool, (∀ x ∈ p, sp x.block = true) → DataW.TrodAll enc P W' 0 sp true f.params.toList args.toList ds p := fun sp h => trodAll_stays hl hB sp _ _ _ _ hrd hA (fun x hx => ⟨hlt x hx, h x hx⟩)
  have hnil : ∀ sp : Nat → Bool, DataW.TrodVars enc P W' sp s.vars [] [] := fun sp => by rw [hv]; rfl
  refine ⟨ds, [], p, [], p, [], hW0, ?_, ?_, ?_, keptBut_below hB, fun _ => ?_⟩
  · rw [hs]; exact hres _ _ _
  · rw [hs]; exact hargs _ (fun x hx => by simpa using hlt x hx)
  · rw [hs]; exact hnil _
  · refine ⟨fun j t r ht hr' => ?_, [.lit (.bool true)] ++ ds, [], [] ++ p, ⟨[] ++ p, [], trodAll_append (hargs _ (fun _ _ => rfl)) (hres _ _ _), hnil _, by simp, ?_, fun h => by cases h⟩, fun x hx _ => by simpa using hx⟩
    · rw [hr] at ht hr'
      cases j with
      | zero => simp [Value.resultList] at ht hr'; subst ht; subst hr'; exact okWide_bool_mk hb _
      | succ j => simp at ht
    · intro b off hx
      rw [hB.frozen (hlt _ (by simpa using hx))]
      exact hfz b off (by simpa using hx)
theorem cell_heap {W : World} {b o : Nat} {u : Value} (h : W.cell? ⟨b, o, none⟩ = some u) : Cell (heapI W) [] b o u := by
  unfold World.cell? at h
  split at h
  · rename_i c t fz hb
    simp only [Option.isSome_none, Bool.false_eq_true, if_false] at h
    exact ⟨c, t, fz, .inl hb, h⟩
  · cases h
/-- A slice that came in, as it is read. -/
theorem open_SlT {H : Type} {enc : TypeId × Value → H} {P : Program} {W : World} {t e : TypeId} {size fuel0 : Nat} {cs : List Value} {x0 : DataW H × List MemPlace} {α : Type} (enc' : α → List Value) (ok : α → Prop)
    (ht : P.underlying t = some (.slice e)) (hc : P.cellsOf e = size) (hpos : 0 < size) (hlen : ∀ y, (enc' y).length = size)
    (hel : ∀ fuel cs x, DataW.trod enc P W 0 (fun _ => true) true fuel e cs = some x → ∃ y, ok y ∧ enc' y = cs)
    (hf' : DataW.trod enc P W 0 (fun _ => true) true fuel0 t cs = some x0) : ∃ av n c xs, cs = [.slice av n c] ∧ Sl (heapI W) size enc' av n c xs ∧ (∀ x ∈ xs, ok x) ∧ c ≤ maxLen := by
  rcases Go.Deep.open_slice ht hf' with ⟨e1, _⟩ | ⟨a, len0, cap0, m, n, D, Pl, e1, hb, hl, hm, hmm, _, hx⟩
  · subst e1
    exact ⟨none, 0, 0, [], rfl, .nil, (fun x hx => by cases hx), Nat.zero_le _⟩
  · subst e1
    have hlm : len0 ≤ m := by rw [hmm]; simp; exact hl
    have each : ∀ i, i < len0 → ∃ y, ok y ∧ W.cells? 0 (a.add (i * size)) size = some (enc' y) := fun i hi => by
      obtain ⟨cs', h1, h2⟩ := hx i (by omega)
      obtain ⟨y, hy, e⟩ := hel _ _ _ h2
      rw [hc] at h1
      exact ⟨y, hy, by rw [h1, e]⟩
    have all : ∀ k, k ≤ len0 → ∃ xs : List α, xs.length = k ∧ ∀ i x, xs[i]? = some x → ok x ∧ W.cells? 0 (a.add (i * size)) size = some (enc' x) := by
      intro k
      induction k with
      | zero => intro _; exact ⟨[], rfl, fun i x h => by simp at h⟩
      | succ k ih =>
        intro hk
        obtain ⟨xs, hl', hxs⟩ := ih (by omega)
        obtain ⟨y, hy, hcy⟩ := each k (by omega)
        refine ⟨xs ++ [y], by simp [hl'], fun i x h => ?_⟩
        by_cases hi : i < xs.length
        · rw [List.getElem?_append_left hi] at h; exact hxs i x h
        · rw [List.getElem?_append_right (by omega)] at h
          have : i = k := by have := (List.getElem?_eq_some_iff.1 h).1; simp at this; omega
          subst this
          rw [hl'] at h; simp at h; subst h
          exact ⟨hy, hcy⟩
    obtain ⟨xs, hl', hxs⟩ := all len0 (Nat.le_refl _)
    have add0 : ∀ (b o n : Nat), (⟨b, o, none⟩ : Addr).add n = ⟨b, o + n, none⟩ := fun b o n => by
      unfold Addr.add
      split
      · rename_i e; subst e; rfl
      · rfl
    have hspot : 0 < xs.length → a.spot = none := fun hx => by
      have hx0 : xs[0]? = some xs[0] := List.getElem?_eq_getElem hx
      have hp0 : 0 < (enc' xs[0]).length := by rw [hlen]; exact hpos
      obtain ⟨_, h1, h2⟩ := World.cells?_some (hxs 0 _ hx0).2
      have h3 := h2 0 hpos
      rw [List.getElem?_eq_getElem hp0] at h3
      simpa [Addr.add] using World.cell?_spot h3
    have cellat : ∀ i x, xs[i]? = some x → ∀ j u, (enc' x)[j]? = some u → W.cell? ⟨a.block, a.off + i * size + j, none⟩ = some u := fun i x hx j u hu => by
      obtain ⟨_, h1, h2⟩ := World.cells?_some (hxs i x hx).2
      have hj : j < size := by rw [← hlen x]; exact (List.getElem?_eq_some_iff.1 hu).1
      have h3 := h2 j hj
      rw [hu] at h3
      have hsp := hspot (by have := (List.getElem?_eq_some_iff.1 hx).1; omega)
      obtain ⟨b, o, sp⟩ := a
      simp only at hsp
      subst hsp
      rw [add0, add0] at h3
      exact h3
    refine ⟨some a, len0, cap0, xs, rfl, ⟨hl', hl, fun hn => ?_, fun k x hx j u hu => ?_⟩, fun x hx => ?_, hm⟩
    · have := hspot (by omega)
      obtain ⟨b, o, sp⟩ := a
      simp only at this
      subst this; rfl
    · exact cell_heap (cellat k x hx j u hu)
    · obtain ⟨i, hi⟩ := List.getElem?_of_mem hx
      exact (hxs i x hi).1
theorem open_Sl {H : Type} {enc : TypeId × Value → H} {P : Program} {W : World} {base : Nat} {t e : TypeId} {size : Nat} {v : Value} {d : DataW H} {p : List MemPlace} {α : Type} (enc' : α → List Value) (ok : α → Prop)
    (ht : P.underlying t = some (.slice e)) (hc : P.cellsOf e = size) (hpos : 0 < size) (hlen : ∀ y, (enc' y).length = size)
    (hel : ∀ fuel cs x, DataW.trod enc P W 0 (fun _ => true) true fuel e cs = some x → ∃ y, ok y ∧ enc' y = cs)
    (hv : Value.okWide P W .any base t v) (h : DataW.Trod enc P W 0 (fun _ => true) true t v d p) : ∃ av n c xs, v = .slice av n c ∧ Sl (heapI W) size enc' av n c xs ∧ (∀ x ∈ xs, ok x) ∧ c ≤ maxLen := by
  obtain ⟨a0, len0, cap0, rfl⟩ := okWide_slice ht hv
  obtain ⟨fuel, hf⟩ := h
  obtain ⟨av, n, c, xs, e, h1, h2, h3⟩ := open_SlT enc' ok ht hc hpos hlen hel (cs := [.slice a0 len0 cap0]) (by simpa [Value.cells] using hf)
  cases e
  exact ⟨_, _, _, xs, rfl, h1, h2, h3⟩
/-- A slice of one-cell ints. -/
theorem el_int {H : Type} {enc : TypeId × Value → H} {P : Program} {W : World} {e : TypeId} {k : IntKind} (he : P.underlying e = some (.int k)) (hk : k = .i64) (fuel : Nat) (cs : List Value) (x : DataW H × List MemPlace) (h : DataW.trod enc P W 0 (fun _ => true) true fuel e cs = some x) :
    ∃ y : Int, (-9223372036854775808 ≤ y ∧ y ≤ 9223372036854775807) ∧ [Value.int .i64 y] = cs := by
  subst hk
  obtain ⟨v, hv⟩ : ∃ v, cs = [v] := by
    have := h
    cases fuel with
    | zero => simp [DataW.trod] at this
    | succ m => unfold DataW.trod at this; rw [he] at this; split at this <;> simp_all
  subst hv
  obtain ⟨n, e, _, w⟩ := DataW.trod_int he h
  cases e
  simp only [Lit.wf, Bool.and_eq_true, decide_eq_true_eq] at w
  exact ⟨n, w, rfl⟩
end Go.Kn
end
section
namespace Go.Kn
open Go
theorem trod_seg {H : Type} {enc : TypeId × Value → H} {P : Program} {W : World} {base : Nat} {spare : Nat → Bool} {held : Bool} {t C : Nat} {fs : Array Field} {fuel : Nat} {cs : List Value} {x : DataW H × List MemPlace} (hs : P.underlying t = some (.struct fs))
    (hC : P.cellsOf t = C) (h : DataW.trod enc P W base spare held fuel t cs = some x) :
    cs.length = C ∧ ∃ n, ∀ (i ty off k : Nat), ((fs[i]?).map fun f => (f.type, f.offset)) = some (ty, off) → P.cellsOf ty = k → ∃ y, DataW.trod enc P W base spare held n ty ((cs.drop off).take k) = some y := by
  obtain ⟨xs, n, _, _, hl, hxl, hf⟩ := DataW.trod_struct hs h
  refine ⟨hl.trans hC, n, fun i ty off k hi hk => ?_⟩
  obtain ⟨f, hfi, e⟩ := Option.map_eq_some_iff.1 hi
  cases e
  have g := hf i f hfi
  have hix : i < xs.length := by rw [hxl]; exact (Array.getElem?_eq_some_iff.1 hfi).1
  rw [hk, List.getElem?_eq_getElem hix] at g
  exact ⟨_, g⟩
end Go.Kn
end
section
namespace Go.Proofs.Ytccomeanpppfmaa
open Go Go.Kn Go.Proofs
theorem cvt_5_3 : CvT Try.prog 5 3 .i64 := ⟨by kernel_rfl, by kernel_rfl⟩
end Go.Proofs.Ytccomeanpppfmaa
end
section
namespace Go.Proofs.Ytccomeanpppfmaa
open Go Go.Kn Go.Proofs
theorem cf_key {ps : List Pt} {bs : List Sg} {v : List Int} {cs : List Cf} {z : Cf} {k : Nat} (h : cs.map Cf.key = cflF ps bs v) (hE : sgnE ps bs v = 0) (hz : cs[k]? = some z) : (z.sign, z.field, z.ids) ∈ cfL (onF ps) bs (verL ps v) := by
  have h1 : z.key ∈ cs.map Cf.key := List.mem_map.2 ⟨z, List.mem_of_getElem? hz, rfl⟩
  rw [h] at h1
  unfold cflF at h1
  rw [resF_ok hE] at h1
  exact h1
theorem cf_shape {on : Int → Int → Bool} {bs : List Sg} {l : List Pt} {s f : Int} {ids : List Int} (h : (s, f, ids) ∈ cfL on bs l) : f = 0 ∨ isF f := by
  rcases (cf_mem h).2 with ⟨h1, _⟩ | ⟨h1, _⟩
  · exact .inl h1
  · exact .inr h1
theorem res_bad {f id : Int} {n : Nat} (hf : f = 0 ∨ isF f) (hn : 2 ≤ n) (h : (((decide (f < 1) || decide (f > 9)) || decide ((n : Int) < 2)) || decide (id > 1048576)) = true) : (((f == 0) && decide ((n : Int) > 1)) || decide (id > 1048576)) = true := by
  by_cases h1 : id > 1048576
  · rw [decide_eq_true h1, Bool.or_true]
  · have h2 : f = 0 := by
      rcases hf with h2 | h2
      · exact h2
      · exfalso
        unfold isF at h2
        simp only [Bool.or_eq_true, decide_eq_true_eq] at h
        omega
    subst h2
    rw [decide_eq_true (show (n : Int) > 1 by omega)]; rfl
theorem res_good {f id : Int} {n : Nat} (hf : f = 0 ∨ isF f) (h : (((decide (f < 1) || decide (f > 9)) || decide ((n : Int) < 2)) || decide (id > 1048576)) = false) : isF f ∧ id ≤ 1048576 := by
  simp only [Bool.or_eq_false_iff, decide_eq_false_iff_not] at h
  unfold isF
  omega
theorem last_new {ps : List Pt} {pl : Pt} {n : Nat} (hL : Lst ps) (hn : ps.length = n) (h0 : 0 < n) (hp : ps[n - 1]? = some pl) : ∀ p ∈ ps, p.id < pl.id + 1 := fun p hp' => by
  obtain ⟨i, hi⟩ := List.getElem?_of_mem hp'
  obtain ⟨hi1, hi2⟩ := List.getElem?_eq_some_iff.1 hi
  obtain ⟨hj1, hj2⟩ := List.getElem?_eq_some_iff.1 hp
  by_cases e : i = n - 1
  · subst e; rw [hi] at hp; cases hp; omega
  · have := List.pairwise_iff_getElem.1 hL.inc i (n - 1) hi1 hj1 (by omega)
    rw [hi2, hj2] at this
    omega
theorem res_target {ps : List Pt} {bs : List Sg} {v : List Int} {s f t : Int} {ids : List Int} (h : (s, f, ids) ∈ cfL (onF ps) bs (verL ps v)) (hf : isF f) (ht : t ∈ ids) : ∃ y ∈ ps, y.id = t := by
  rcases (cf_mem h).2 with ⟨h1, _⟩ | ⟨_, _, _, rfl⟩
  · unfold isF at hf; omega
  · obtain ⟨y, hy, e⟩ := List.mem_map.1 ht
    exact ⟨y, (mem_verL.1 (mem_stF.1 (List.mem_filter.1 hy).1).1).1, e⟩
theorem tgt_no {ps : List Pt} {k : Nat} {p : Pt} {t : Int} {g : Sg} (hp : ps[k]? = some p) (hg : ∀ q ∈ ps.take k, q.id = t → g = q.nw) (h : ¬ p.id = t) : ∀ q ∈ ps.take (k + 1), q.id = t → g = q.nw := fun q hq e => by
  rw [take_snoc hp] at hq
  rcases List.mem_append.1 hq with hq | hq
  · exact hg q hq e
  · simp only [List.mem_singleton] at hq; subst hq; exact (h e).elim
theorem tgt_yes {ps : List Pt} {k : Nat} {p : Pt} {t : Int} (hck : chkR ps = 0) (hp : ps[k]? = some p) (h : p.id = t) : ∀ q ∈ ps.take (k + 1), q.id = t → p.nw = q.nw := fun q hq e => by
  have := (chkR_lst hck).uniq (List.mem_of_getElem? hp) (List.mem_of_mem_take hq) (by rw [h, e])
  rw [this]
/-- The further patch. -/
def furP (id : Int) (z : Cf) (g : Sg) : Pt := ⟨id, 1, z.sign, z.field, g, z.a, z.n, z.c, z.ids⟩
theorem res_make {ps : List Pt} {bs : List Sg} {v : List Int} {cs : List Cf} {z : Cf} {k n : Nat} {pl y : Pt} {t : Int} {g : Sg} (hck : chkR ps = 0) (hv : Ver ps v) (hE : sgnE ps bs v = 0) (hlen : ps.length ≤ 30 ∧ bs.length ≤ 60) (hk : cs.map Cf.key = cflF ps bs v) (hz : cs[k]? = some z)
    (hn : ps.length = n) (h0 : 0 < n) (hp : ps[n - 1]? = some pl) (hf : isF z.field) (hid : pl.id + 1 ≤ 1048576) (ht : t ∈ z.ids) (hy : y ∈ ps) (hyt : y.id = t) (hg : ∀ p ∈ ps, p.id = t → g = p.nw) : Res ps bs v (furP (pl.id + 1) z g) y := by
  have hP : patE ps bs v = 0 := by
    have := hE
    unfold sgnE at this
    split at this
    · contradiction
    · omega
  obtain ⟨_, h2, _, h4⟩ := pat_parts hP
  have hpos := (chkR_lst hck).pos pl (List.mem_of_getElem? hp)
  exact ⟨hck, hv, h2, h4, hlen, last_new (chkR_lst hck) hn h0 hp, ⟨by show 1 ≤ pl.id + 1; omega, hid⟩, rfl, hf, cf_key hk hE hz, ⟨hy, by rw [hyt]; exact ht⟩, hg y hy hyt⟩
section
variable {ps : List Pt} {bs : List Sg} {v : List Int} {x y : Pt} (h : Res ps bs v x y)
include h
theorem res_gone {cs : List Cf} {c : Cf} {k : Nat} (hk : cs.map Cf.key = cflF (ps ++ [x]) bs (v ++ [x.id])) (hc : cs[k]? = some c) : ((c.sign == x.sign) && (c.field == x.field)) = false := by
  have h1 := cf_key hk h.noerr.2.1 hc
  have h2 := h.gone _ h1
  cases e : ((c.sign == x.sign) && (c.field == x.field)) with
  | false => rfl
  | true => simp at e; exact (h2 e).elim
theorem res_srt : Srt (sgnF (ps ++ [x]) bs (v ++ [x.id])) := by
  unfold sgnF
  rw [resF_ok h.noerr.2.1]
  obtain ⟨h1, h2, h3, h4⟩ := pat_parts h.noerr.1
  exact sgn_srt (all_look (skB_srt (chkG_ok h2).2) (verL_sto (chkR_sto h1) h3) h4).1
theorem res_val : ∃ w ∈ sgnF (ps ++ [x]) bs (v ++ [x.id]), w.id = x.sign ∧ setG zeroG x.field w = x.nw := by
  obtain ⟨w, h1, h2⟩ := h.value
  refine ⟨w, ?_, look_id h1, h2⟩
  unfold sgnF
  rw [resF_ok h.noerr.2.1]
  exact look_mem h1
theorem res_hit {w : Sg} {k : Nat} (hw : (sgnF (ps ++ [x]) bs (v ++ [x.id]))[k]? = some w) (hid : w.id = x.sign) : setG zeroG x.field w = x.nw := by
  obtain ⟨w', h1, h2, h3⟩ := res_val h
  have e := look_of (res_srt h) (List.mem_of_getElem? hw)
  have e2 := look_of (res_srt h) h1
  rw [hid] at e
  rw [h2, e] at e2
  rw [Option.some.inj e2]; exact h3
theorem res_some (hno : ((sgnF (ps ++ [x]) bs (v ++ [x.id])).any fun w => w.id == x.sign) = false) : False := by
  obtain ⟨w, h1, h2, _⟩ := res_val h
  rw [List.any_eq_false] at hno
  exact hno w h1 (by simpa using h2)
end
end Go.Proofs.Ytccomeanpppfmaa
end
section
namespace Go.Proofs.Ytccomeanpppfmaa
open Go Go.Kn Go.Proofs
theorem agt_44 : AgT Try.prog 44 3 := .of (by kernel_rfl)
theorem fun_16 : Fun Try.prog 16 := .of Try.func16 (by kernel_rfl) (by kernel_rfl)
theorem szt_44 : SzT Try.prog 44 3 := .of (by kernel_rfl)
theorem zt_44 : ZeroT Try.prog 44 (.agg #[(.int .i64 0), (.int .i64 0), (.slice none 0 0)]) := .of (by kernel_rfl)
theorem r_clo {I : HMap} {av bv : Option Addr} {n c n2 c2 : Nat} {ps : List Pt} {bs : List Sg} {v : List Int} {x y : Pt} (h : Res ps bs v x y) {i : Int} (hi : x.id = i) (hP : SlP I av n c (ps ++ [x])) (hn : n ≤ 100000) (hT : Sl I 1 encI bv n2 c2 (v ++ [i])) (hn2 : n2 ≤ 100000) : RetM Try.prog 10 [.slice av n c, .slice bv n2 c2] I [] (Res2 0 (v ++ [i])) := by
  subst hi
  have h1 := w_Closure hP hn hT hn2
  rwa [h.noerr.2.2.1, resF_ok rfl, h.noerr.2.2.2] at h1
theorem r_sgn {I : HMap} {av bv dv : Option Addr} {n c n2 c2 n3 c3 : Nat} {ps : List Pt} {bs : List Sg} {v : List Int} {x y : Pt} (h : Res ps bs v x y) {i : Int} (hi : x.id = i) (hP : SlP I av n c (ps ++ [x])) (hn : n ≤ 100000) (hB : Sl I 14 encG bv n2 c2 bs) (hn2 : n2 ≤ 100000) (hV : Sl I 1 encI dv n3 c3 (v ++ [i])) (hn3 : n3 ≤ 100000) : RetM Try.prog 15 [.slice av n c, .slice bv n2 c2, .slice dv n3 c3] I [] (ResG 0 (sgnF (ps ++ [x]) bs (v ++ [i]))) := by
  subst hi
  have h1 := w_Signs hP hn hB hn2 hV hn3
  rwa [h.noerr.2.1] at h1
theorem r_cfl {I : HMap} {av bv dv : Option Addr} {n c n2 c2 n3 c3 : Nat} {ps : List Pt} {bs : List Sg} {v : List Int} {x y : Pt} (h : Res ps bs v x y) {i : Int} (hi : x.id = i) (hP : SlP I av n c (ps ++ [x])) (hn : n ≤ 100000) (hB : Sl I 14 encG bv n2 c2 bs) (hn2 : n2 ≤ 100000) (hV : Sl I 1 encI dv n3 c3 (v ++ [i])) (hn3 : n3 ≤ 100000) : RetM Try.prog 14 [.slice av n c, .slice bv n2 c2, .slice dv n3 c3] I [] (ResC 0 (cflF (ps ++ [x]) bs (v ++ [i]))) := by
  subst hi
  have h1 := w_Conflicts hP hn hB hn2 hV hn3
  rwa [h.noerr.2.1] at h1
theorem w_resLaw {I : HMap} {av : Option Addr} {n c : Nat} {ps : List Pt} (hP : SlP I av n c ps) {bv : Option Addr} {n2 c2 : Nat} {bs : List Sg} (hB : Sl I 14 encG bv n2 c2 bs) {dv : Option Addr} {n3 c3 : Nat} {ys : List Int} (hT : Sl I 1 encI dv n3 c3 ys) {wh va : Int} (hwh : 0 ≤ wh ∧ wh ≤ 255) (hva : 0 ≤ va ∧ va ≤ 255) : RetV Try.prog 4 [.slice av n c, .slice bv n2 c2, .slice dv n3 c3, .int .u8 wh, .int .u8 va] I (.bool true) := by
  intro g H w hw
  refine enter Try.func4 rfl Try.ntmps4 rfl hw ?_
  have hIc := HLe.refl I
  refine X_seq ?_
  refine X_region ?_
  refine XO_v0 (ev_assign rfl) rfl rfl rfl ?_
  refine XO_nil ?_
  refine at_then ?_
  refine X_seq ?_
  refine X_seq ?_
  refine X_region ?_
  refine XO_callV0 (cap := []) (vs := []) rfl rfl fun_8 (w_sane _) rfl rfl ?_
  refine XO_v0 (ev_not rfl) rfl rfl rfl ?_
  refine XO_nil ?_
  refine at_then ?_
  refine X_cond rfl (fun hc32 => ?_) (fun hc32 => ?_)
  · skip
    cases hc32
  · skip
    refine X_skip ?_
    refine at_then ?_
    refine X_seq ?_
    refine X_seq ?_
    refine X_region ?_
    refine XO_v0 (ev_move rfl) rfl rfl rfl ?_
    refine XO_v0 (ev_lenS rfl slt_22) rfl rfl rfl ?_
    refine XO_v0 (ev_cmp rfl rfl rfl) rfl rfl rfl ?_
    refine XO_v0 (ev_move rfl) rfl rfl rfl ?_
    refine XO_pushF 3 rfl rfl rfl ?_
    refine XO_v1 (ev_move rfl) (.some rfl rfl rfl rfl gbf) rfl rfl rfl ?_
    refine XO_v1 (ev_lenS rfl slt_22) (.some rfl rfl rfl rfl gbf) rfl rfl rfl ?_
    refine XO_v1 (ev_cmp rfl rfl rfl) (.some rfl rfl rfl rfl gbf) rfl rfl rfl ?_
    refine XO_or0 rfl rfl rfl rfl rfl ?_
    refine XO_v0 (ev_move rfl) rfl rfl rfl ?_
    refine XO_pushF 8 rfl rfl rfl ?_
    refine XO_v1 (ev_move rfl) (.some rfl rfl rfl rfl gbf) rfl rfl rfl ?_
    refine XO_v1 (ev_lenS rfl slt_23) (.some rfl rfl rfl rfl gbf) rfl rfl rfl ?_
    refine XO_v1 (ev_cmp rfl rfl rfl) (.some rfl rfl rfl rfl gbf) rfl rfl rfl ?_
    refine XO_or0 rfl rfl rfl rfl rfl ?_
    refine XO_v0 (ev_move rfl) rfl rfl rfl ?_
    refine XO_pushF 13 rfl rfl rfl ?_
    refine XO_v1 (ev_move rfl) (.some rfl rfl rfl rfl gbf) rfl rfl rfl ?_
    refine XO_v1 (ev_lenS rfl slt_39) (.some rfl rfl rfl rfl gbf) rfl rfl rfl ?_
    refine XO_v1 (ev_cmp rfl rfl rfl) (.some rfl rfl rfl rfl gbf) rfl rfl rfl ?_
    refine XO_or0 rfl rfl rfl rfl rfl ?_
    refine XO_nil ?_
    refine at_then ?_
    refine X_cond rfl (fun hc50 => ?_) (fun hc50 => ?_)
    · skip
      refine X_seq ?_
      refine X_region ?_
      refine XO_v0 (ev_assign rfl) rfl rfl rfl ?_
      refine XO_nil ?_
      refine at_then ?_
      refine X_ret ?_
      refine at_then_r ?_
      first
      | exact at_ret1 rfl rfl (fun w hw => ⟨by rfl, (hw.mono hIc).drop⟩)
      | exact at_ret1 rfl rfl (fun w hw => ⟨by rw [hbad], (hw.mono hIc).drop⟩)
      | exact at_ret1 rfl rfl (fun w hw => ⟨by exact congrArg (fun b => Ending.returned (Value.bool b)) (show sgEq (setG zeroG z.field sg) g = true from sgEq_iff.2 hwv), (hw.mono hIc).drop⟩)
    · skip
      have ho := hc50; simp only [Bool.or_eq_false_iff, decide_eq_false_iff_not, beq_eq_false_iff_ne, ne_eq] at ho
      have hn : n ≤ 100000 := by omega
      have hn2 : n2 ≤ 100000 := by omega
      have hn0 : 0 < n := by omega
      have hPl := hP.len
      have hBl := hB.len
      refine X_skip ?_
      refine at_then ?_
      refine X_seq ?_
      refine X_region ?_
      refine XO_v0 (ev_move rfl) rfl rfl rfl ?_
      refine XO_v0 (ev_move rfl) rfl rfl rfl ?_
      refine XO_callM (cap := []) (vs := [_, _]) rfl rfl fun_10 .nil (w_Closure hP (by omega) hT (by omega)) rfl rfl ?_
      rintro vv1 I1 L1 hI1 ⟨rfl, aA, cA, rfl, hA⟩
      have hP := hP.mono hI1
      have hB := hB.mono hI1
      have hT := hT.mono hI1
      have hIc := hIc.trans hI1
      generalize hmA : resF (cloE ps ys) (cloF ps ys) = A at hA ⊢
      refine XO_v0 (ev_move rfl) rfl rfl rfl ?_
      refine XO_v0 (ev_extract rfl rfl) rfl rfl rfl ?_
      refine XO_v0 (ev_extract rfl rfl) rfl rfl rfl ?_
      refine XO_v0 (ev_assign rfl) rfl rfl rfl ?_
      refine XO_v0 (ev_assign rfl) rfl rfl rfl ?_
      refine XO_nil ?_
      refine at_then ?_
      refine X_seq ?_
      refine X_seq ?_
      refine X_region ?_
      refine XO_v0 (ev_move rfl) rfl rfl rfl ?_
      refine XO_v0 (ev_cmp rfl rfl rfl) rfl rfl rfl ?_
      refine XO_nil ?_
      refine at_then ?_
      refine X_cond rfl (fun hc58 => ?_) (fun hc58 => ?_)
      · skip
        refine X_seq ?_
        refine X_region ?_
        refine XO_v0 (ev_assign rfl) rfl rfl rfl ?_
        refine XO_nil ?_
        refine at_then ?_
        refine X_ret ?_
        refine at_then_r ?_
        first
        | exact at_ret1 rfl rfl (fun w hw => ⟨by rfl, (hw.mono hIc).drop⟩)
        | exact at_ret1 rfl rfl (fun w hw => ⟨by rw [hbad], (hw.mono hIc).drop⟩)
        | exact at_ret1 rfl rfl (fun w hw => ⟨by exact congrArg (fun b => Ending.returned (Value.bool b)) (show sgEq (setG zeroG z.field sg) g = true from sgEq_iff.2 hwv), (hw.mono hIc).drop⟩)
      · skip
        have he : cloE ps ys = 0 := by simpa using hc58
        have hck : chkR ps = 0 := Decidable.byContradiction fun h => by unfold cloE at he; rw [if_pos h] at he; exact h he
        have hL := chkR_lst hck
        have hvA : Ver ps A := by rw [← hmA, he, resF_ok rfl]; exact clo_v hck ys
        have hnA : A.length ≤ 100000 := by have hh := ver_len hL (hvA); rw [hP.len] at hh; omega
        refine X_skip ?_
        refine at_then ?_
        refine X_seq ?_
        refine X_region ?_
        refine XO_v0 (ev_move rfl) rfl rfl rfl ?_
        refine XO_v0 (ev_move rfl) rfl rfl rfl ?_
        refine XO_v0 (ev_move rfl) rfl rfl rfl ?_
        refine XO_callM (cap := []) (vs := [_, _, _]) rfl rfl fun_14 .nil (w_Conflicts hP hn hB hn2 hA hnA) rfl rfl ?_
        rintro vv2 I2 L2 hI2 ⟨rfl, cs1, a2, c2, rfl, hC1, hk1⟩
        have hP := hP.mono hI2
        have hB := hB.mono hI2
        have hT := hT.mono hI2
        have hA := hA.mono hI2
        have hIc := hIc.trans hI2
        refine XO_v0 (ev_move rfl) rfl rfl rfl ?_
        refine XO_v0 (ev_extract rfl rfl) rfl rfl rfl ?_
        refine XO_v0 (ev_extract rfl rfl) rfl rfl rfl ?_
        refine XO_v0 (ev_assign rfl) rfl rfl rfl ?_
        refine XO_v0 (ev_assign rfl) rfl rfl rfl ?_
        refine XO_nil ?_
        refine at_then ?_
        refine X_seq ?_
        refine X_seq ?_
        refine X_region ?_
        refine XO_v0 (ev_move rfl) rfl rfl rfl ?_
        refine XO_v0 (ev_cmp rfl rfl rfl) rfl rfl rfl ?_
        refine XO_v0 (ev_move rfl) rfl rfl rfl ?_
        refine XO_pushF 2 rfl rfl rfl ?_
        refine XO_v1 (ev_move rfl) (.some rfl rfl rfl rfl gbf) rfl rfl rfl ?_
        refine XO_v1 (ev_lenS rfl slt_40) (.some rfl rfl rfl rfl gbf) rfl rfl rfl ?_
        refine XO_v1 (ev_cmp rfl rfl rfl) (.some rfl rfl rfl rfl gbf) rfl rfl rfl ?_
        refine XO_or0 rfl rfl rfl rfl rfl ?_
        refine XO_nil ?_
        refine at_then ?_
        refine X_cond rfl (fun hc72 => ?_) (fun hc72 => ?_)
        · skip
          refine X_seq ?_
          refine X_region ?_
          refine XO_v0 (ev_assign rfl) rfl rfl rfl ?_
          refine XO_nil ?_
          refine at_then ?_
          refine X_ret ?_
          refine at_then_r ?_
          first
          | exact at_ret1 rfl rfl (fun w hw => ⟨by rfl, (hw.mono hIc).drop⟩)
          | exact at_ret1 rfl rfl (fun w hw => ⟨by rw [hbad], (hw.mono hIc).drop⟩)
          | exact at_ret1 rfl rfl (fun w hw => ⟨by exact congrArg (fun b => Ending.returned (Value.bool b)) (show sgEq (setG zeroG z.field sg) g = true from sgEq_iff.2 hwv), (hw.mono hIc).drop⟩)
        · skip
          have h9 := hc72; simp only [Bool.or_eq_false_iff, beq_eq_false_iff_ne, ne_eq, bne_eq_false_iff_eq] at h9
          have hE0 := h9.1
          have hcl : 0 < cs1.length := by omega
          have hmz := Nat.mod_lt wh.toNat hcl
          obtain ⟨z, hz⟩ : ∃ z, cs1[wh.toNat % cs1.length]? = some z := ⟨_, List.getElem?_eq_getElem hmz⟩
          have hzk := cf_key hk1 hE0 hz
          have hzn : 2 ≤ z.n := by rw [← (hC1.2 z (List.mem_of_getElem? hz)).len]; exact cf_two hzk
          refine X_skip ?_
          refine at_then ?_
          refine X_seq ?_
          refine X_region ?_
          refine XO_v0 (ev_move rfl) rfl rfl rfl ?_
          refine XO_v0 (ev_move rfl) rfl rfl rfl ?_
          refine XO_v0 (ev_convI rfl cvt_5_3) rfl rfl rfl ?_
          refine XO_v0 (ev_move rfl) rfl rfl rfl ?_
          refine XO_v0 (ev_lenS rfl slt_40) rfl rfl rfl ?_
          refine XO_v0 (ev_rem rfl rfl (fun hg => by omega)) rfl rfl rfl ?_
          rw [pick_val hwh]
          refine XO_v0 (ev_indexSl rfl rfl slt_40 hC1.1 (fun hg => by omega)) rfl rfl rfl ?_
          refine XO_v0 (ev_loadA rfl agt_44 (fun hg => by first | exact Sl.getA hC1.1 hz | exact Sl.getA hP1 hp | exact Sl.getA hC2.1 hc2 | exact Sl.getA hS3 hw | exact Cells.g0 | exact Cells.g1 | exact Cells.g2 | exact Cells.g3 | exact Cells.g4 | exact Cells.g5 | exact Cells.s0 (vs := [_, _, _]) rfl | exact Cells.s1 (vs := [_, _, _]) rfl | exact Cells.s2 (vs := [_, _, _]) rfl | exact Cells.s3 (vs := [_, _, _]) rfl | exact Cells.s4 (vs := [_, _, _]) rfl | exact Cells.s5 (vs := [_, _, _]) rfl | (repeat (first | exact Cells.here | apply Cells.there | apply Cells.app))) rfl) rfl rfl rfl ?_
          refine XO_alloc zt_44 rfl rfl (fun b_15 => ?_)
          refine XO_storeA rfl rfl szt_44 rfl rfl rfl rfl (by first | exact Upd.u0 | exact Upd.u1 | exact Upd.u2 | exact Upd.u3 | exact Upd.u4 | exact Upd.u5 | (repeat (first | exact Upd.here | apply Upd.there | apply upd_app))) ?_
          refine XO_nil ?_
          refine at_then ?_
          refine X_seq ?_
          obtain ⟨pl, hpl⟩ := hP.1.at (show n - 1 < n by omega)
          have hplP := (chkR_sto hck).ok pl (List.mem_of_getElem? hpl)
          have hidp := hplP.pos
          refine X_region ?_
          refine XO_v0 (ev_move rfl) rfl rfl rfl ?_
          refine XO_v0 (ev_move rfl) rfl rfl rfl ?_
          refine XO_v0 (ev_lenS rfl slt_22) rfl rfl rfl ?_
          refine XO_v0 (ev_arB rfl rfl rfl (fun _ => by omega)) rfl rfl rfl ?_
          rw [show ((n : Int) - 1) = ((n - 1 : Nat) : Int) by omega]
          refine XO_v0 (ev_indexSl rfl rfl slt_22 hP.1 (fun hg => by omega)) rfl rfl rfl ?_
          refine XO_v0 (ev_fieldAddr rfl fld_37_0) rfl rfl rfl ?_
          refine XO_v0 (ev_load rfl sct_3 (fun hg => by first | exact Sl.get hP.1 hpl rfl | exact Sl.get0 hZ ht rfl | exact Cell.h0 rfl | exact Cell.h1 rfl | exact Cell.h2 rfl | exact Cell.h3 rfl | exact Cell.h4 rfl | exact Cell.h5 rfl | (repeat (first | exact Cell.here rfl | apply Cell.there | apply Cell.app)))) rfl rfl rfl ?_
          refine XO_v0 (ev_arB rfl rfl rfl (fun hg => by first | omega | (simp [conj] at hg; omega))) rfl rfl rfl ?_
          refine XO_v0 (ev_assign rfl) rfl rfl rfl ?_
          refine XO_nil ?_
          refine at_then ?_
          refine X_seq ?_
          refine X_seq ?_
          refine X_region ?_
          refine XO_v0 (ev_fieldAddr rfl fld_44_1) rfl rfl rfl ?_
          refine XO_v0 (ev_load rfl sct_3 (fun hg => by first | exact Sl.get hP.1 hpl rfl | exact Sl.get0 hZ ht rfl | exact Cell.h0 rfl | exact Cell.h1 rfl | exact Cell.h2 rfl | exact Cell.h3 rfl | exact Cell.h4 rfl | exact Cell.h5 rfl | (repeat (first | exact Cell.here rfl | apply Cell.there | apply Cell.app)))) rfl rfl rfl ?_
          refine XO_v0 (ev_cmp rfl rfl rfl) rfl rfl rfl ?_
          refine XO_v0 (ev_move rfl) rfl rfl rfl ?_
          refine XO_pushF 3 rfl rfl rfl ?_
          refine XO_v1 (ev_fieldAddr rfl fld_44_1) (.some rfl rfl rfl rfl gbf) rfl rfl rfl ?_
          refine XO_v1 (ev_load rfl sct_3 (fun hg => by first | exact Sl.get hP.1 hpl rfl | exact Sl.get0 hZ ht rfl | exact Cell.h0 rfl | exact Cell.h1 rfl | exact Cell.h2 rfl | exact Cell.h3 rfl | exact Cell.h4 rfl | exact Cell.h5 rfl | (repeat (first | exact Cell.here rfl | apply Cell.there | apply Cell.app)))) (.some rfl rfl rfl rfl gbf) rfl rfl rfl ?_
          refine XO_v1 (ev_cmp rfl rfl rfl) (.some rfl rfl rfl rfl gbf) rfl rfl rfl ?_
          refine XO_or0 rfl rfl rfl rfl rfl ?_
          refine XO_v0 (ev_move rfl) rfl rfl rfl ?_
          refine XO_pushF 8 rfl rfl rfl ?_
          refine XO_v1 (ev_fieldAddr rfl fld_44_2) (.some rfl rfl rfl rfl gbf) rfl rfl rfl ?_
          refine XO_v1 (ev_load rfl sct_23 (fun hg => by first | exact Sl.get hP.1 hpl rfl | exact Sl.get0 hZ ht rfl | exact Cell.h0 rfl | exact Cell.h1 rfl | exact Cell.h2 rfl | exact Cell.h3 rfl | exact Cell.h4 rfl | exact Cell.h5 rfl | (repeat (first | exact Cell.here rfl | apply Cell.there | apply Cell.app)))) (.some rfl rfl rfl rfl gbf) rfl rfl rfl ?_
          refine XO_v1 (ev_lenS rfl slt_23) (.some rfl rfl rfl rfl gbf) rfl rfl rfl ?_
          refine XO_v1 (ev_cmp rfl rfl rfl) (.some rfl rfl rfl rfl gbf) rfl rfl rfl ?_
          refine XO_or0 rfl rfl rfl rfl rfl ?_
          refine XO_v0 (ev_move rfl) rfl rfl rfl ?_
          refine XO_pushF 14 rfl rfl rfl ?_
          refine XO_v1 (ev_move rfl) (.some rfl rfl rfl rfl gbf) rfl rfl rfl ?_
          refine XO_v1 (ev_cmp rfl rfl rfl) (.some rfl rfl rfl rfl gbf) rfl rfl rfl ?_
          refine XO_or0 rfl rfl rfl rfl rfl ?_
          refine XO_nil ?_
          refine at_then ?_
          refine X_cond rfl (fun hc106 => ?_) (fun hc106 => ?_)
          · skip
            have hbad := res_bad (cf_shape hzk) hzn hc106
            refine X_seq ?_
            refine X_region ?_
            refine XO_v0 (ev_fieldAddr rfl fld_44_1) rfl rfl rfl ?_
            refine XO_v0 (ev_load rfl sct_3 (fun hg => by first | exact Sl.get hP.1 hpl rfl | exact Sl.get0 hZ ht rfl | exact Cell.h0 rfl | exact Cell.h1 rfl | exact Cell.h2 rfl | exact Cell.h3 rfl | exact Cell.h4 rfl | exact Cell.h5 rfl | (repeat (first | exact Cell.here rfl | apply Cell.there | apply Cell.app)))) rfl rfl rfl ?_
            refine XO_v0 (ev_cmp rfl rfl rfl) rfl rfl rfl ?_
            refine XO_v0 (ev_move rfl) rfl rfl rfl ?_
            refine XO_pushT 3 rfl rfl rfl ?_
            refine XO_v1 (ev_fieldAddr rfl fld_44_2) (.some rfl rfl rfl rfl gbt) rfl rfl rfl ?_
            refine XO_v1 (ev_load rfl sct_23 (fun hg => by first | exact Sl.get hP.1 hpl rfl | exact Sl.get0 hZ ht rfl | exact Cell.h0 rfl | exact Cell.h1 rfl | exact Cell.h2 rfl | exact Cell.h3 rfl | exact Cell.h4 rfl | exact Cell.h5 rfl | (repeat (first | exact Cell.here rfl | apply Cell.there | apply Cell.app)))) (.some rfl rfl rfl rfl gbt) rfl rfl rfl ?_
            refine XO_v1 (ev_lenS rfl slt_23) (.some rfl rfl rfl rfl gbt) rfl rfl rfl ?_
            refine XO_v1 (ev_cmp rfl rfl rfl) (.some rfl rfl rfl rfl gbt) rfl rfl rfl ?_
            refine XO_and0 rfl rfl rfl rfl rfl ?_
            refine XO_v0 (ev_move rfl) rfl rfl rfl ?_
            refine XO_pushF 9 rfl rfl rfl ?_
            refine XO_v1 (ev_move rfl) (.some rfl rfl rfl rfl gbf) rfl rfl rfl ?_
            refine XO_v1 (ev_cmp rfl rfl rfl) (.some rfl rfl rfl rfl gbf) rfl rfl rfl ?_
            refine XO_or0 rfl rfl rfl rfl rfl ?_
            refine XO_v0 (ev_assign rfl) rfl rfl rfl ?_
            refine XO_nil ?_
            refine at_then ?_
            refine X_ret ?_
            refine at_then_r ?_
            first
            | exact at_ret1 rfl rfl (fun w hw => ⟨by rfl, (hw.mono hIc).drop⟩)
            | exact at_ret1 rfl rfl (fun w hw => ⟨by rw [hbad], (hw.mono hIc).drop⟩)
            | exact at_ret1 rfl rfl (fun w hw => ⟨by exact congrArg (fun b => Ending.returned (Value.bool b)) (show sgEq (setG zeroG z.field sg) g = true from sgEq_iff.2 hwv), (hw.mono hIc).drop⟩)
          · skip
            have hgood := res_good (cf_shape hzk) hc106
            refine X_skip ?_
            refine at_then ?_
            refine X_seq ?_
            refine X_region ?_
            refine XO_v0 (ev_move rfl) rfl rfl rfl ?_
            refine XO_v0 (ev_fieldAddr rfl fld_44_0) rfl rfl rfl ?_
            refine XO_v0 (ev_load rfl sct_3 (fun hg => by first | exact Sl.get hP.1 hpl rfl | exact Sl.get0 hZ ht rfl | exact Cell.h0 rfl | exact Cell.h1 rfl | exact Cell.h2 rfl | exact Cell.h3 rfl | exact Cell.h4 rfl | exact Cell.h5 rfl | (repeat (first | exact Cell.here rfl | apply Cell.there | apply Cell.app)))) rfl rfl rfl ?_
            refine XO_v0 (ev_fieldAddr rfl fld_44_1) rfl rfl rfl ?_
            refine XO_v0 (ev_load rfl sct_3 (fun hg => by first | exact Sl.get hP.1 hpl rfl | exact Sl.get0 hZ ht rfl | exact Cell.h0 rfl | exact Cell.h1 rfl | exact Cell.h2 rfl | exact Cell.h3 rfl | exact Cell.h4 rfl | exact Cell.h5 rfl | (repeat (first | exact Cell.here rfl | apply Cell.there | apply Cell.app)))) rfl rfl rfl ?_
            refine XO_v0 (ev_fieldAddr rfl fld_44_2) rfl rfl rfl ?_
            refine XO_v0 (ev_load rfl sct_23 (fun hg => by first | exact Sl.get hP.1 hpl rfl | exact Sl.get0 hZ ht rfl | exact Cell.h0 rfl | exact Cell.h1 rfl | exact Cell.h2 rfl | exact Cell.h3 rfl | exact Cell.h4 rfl | exact Cell.h5 rfl | (repeat (first | exact Cell.here rfl | apply Cell.there | apply Cell.app)))) rfl rfl rfl ?_
            refine XO_v0 (ev_buildL (ps := [(0, _), (1, _), (2, _), (3, _), (5, _)]) [_, _, _, _, _, _, _, _, _, _, _, _, _, _, _, _, _, _, _] plt_37 rfl rfl) rfl rfl rfl ?_
            refine XO_alloc zt_37 rfl rfl (fun b_17 => ?_)
            refine XO_storeA rfl rfl szt_37 rfl rfl rfl rfl (by first | exact Upd.u0 | exact Upd.u1 | exact Upd.u2 | exact Upd.u3 | exact Upd.u4 | exact Upd.u5 | (repeat (first | exact Upd.here | apply Upd.there | apply upd_app))) ?_
            refine XO_nil ?_
            refine at_then ?_
            refine X_seq ?_
            refine X_seq ?_
            have hZ := hC1.2 z (List.mem_of_getElem? hz)
            have hml := Nat.mod_lt va.toNat (show 0 < z.n by omega)
            obtain ⟨t, ht⟩ := hZ.at hml
            refine X_region ?_
            refine XO_v0 (ev_move rfl) rfl rfl rfl ?_
            refine XO_v0 (ev_lenS rfl slt_22) rfl rfl rfl ?_
            refine XO_v0 (ev_move rfl) rfl rfl rfl ?_
            refine XO_nil ?_
            refine at_then ?_
            refine X_block ?_
            refine X_loopT [(0, _), (1, _), (4, _), (11, _), (15, _), (16, _), (17, _), (128, _), (129, _)] (.cons rfl (.cons rfl (.cons rfl (.cons rfl (.cons rfl (.cons rfl (.cons rfl (.cons rfl (.cons rfl .nil))))))))) (fun T L0 mz E I' loc' => ∃ (k : Nat) (g : Sg), mz = n - k ∧ E = (130, .int .i64 k) :: T ∧ I2 = I' ∧ (b_17, .cells (encP (furP (pl.id + 1) z g)).toArray 37 (0, 0)) :: (b_15, .cells (encC z).toArray 44 (0, 0)) :: [] = loc' ∧ k ≤ n ∧ ∀ p ∈ ps.take k, p.id = t → g = p.nw) _ _ _ _ ⟨0, zeroG, rfl, rfl, rfl, rfl, Nat.zero_le _, fun p hp => by simp at hp⟩ (.cons rfl (.cons rfl (.cons rfl (.cons rfl (.cons rfl (.cons rfl (.cons rfl (.cons rfl (.cons rfl (.cons rfl .nil)))))))))) (HLe.refl _) rfl ?_
            rintro mz E I' loc' ⟨k, g, rfl, rfl, rfl, rfl, hk, hg⟩
            refine X_seq ?_
            refine X_region ?_
            refine XO_v0 (ev_cmp rfl rfl rfl) rfl rfl rfl ?_
            refine XO_nil ?_
            refine at_then ?_
            refine X_seq ?_
            refine X_cond rfl (fun hc131 => ?_) (fun hc131 => ?_)
            · skip
              have hlt_k : k < n := by have h := hc131; simp at h; omega
              have hP1 := hP.1
              obtain ⟨p, hp, hN⟩ := hP.at hlt_k
              have hpm := List.mem_of_getElem? hp
              refine X_skip ?_
              refine at_then ?_
              refine X_seq ?_
              refine X_block ?_
              refine X_seq ?_
              refine X_region ?_
              refine XO_v0 (ev_indexSl rfl rfl slt_22 (by assumption) (fun hg => by omega)) rfl rfl rfl ?_
              refine XO_v0 (ev_loadA rfl agt_37 (fun hg => by first | exact Sl.getA hC1.1 hz | exact Sl.getA hP1 hp | exact Sl.getA hC2.1 hc2 | exact Sl.getA hS3 hw | exact Cells.g0 | exact Cells.g1 | exact Cells.g2 | exact Cells.g3 | exact Cells.g4 | exact Cells.g5 | exact Cells.s0 (vs := [_, _, _, _, _, _, _, _, _, _, _, _, _, _, _, _, _, _, _]) rfl | exact Cells.s1 (vs := [_, _, _, _, _, _, _, _, _, _, _, _, _, _, _, _, _, _, _]) rfl | exact Cells.s2 (vs := [_, _, _, _, _, _, _, _, _, _, _, _, _, _, _, _, _, _, _]) rfl | exact Cells.s3 (vs := [_, _, _, _, _, _, _, _, _, _, _, _, _, _, _, _, _, _, _]) rfl | exact Cells.s4 (vs := [_, _, _, _, _, _, _, _, _, _, _, _, _, _, _, _, _, _, _]) rfl | exact Cells.s5 (vs := [_, _, _, _, _, _, _, _, _, _, _, _, _, _, _, _, _, _, _]) rfl | (repeat (first | exact Cells.here | apply Cells.there | apply Cells.app))) rfl) rfl rfl rfl ?_
              refine XO_alloc zt_37 rfl rfl (fun b_19 => ?_)
              refine XO_storeA rfl rfl szt_37 rfl rfl rfl rfl (by first | exact Upd.u0 | exact Upd.u1 | exact Upd.u2 | exact Upd.u3 | exact Upd.u4 | exact Upd.u5 | (repeat (first | exact Upd.here | apply Upd.there | apply upd_app))) ?_
              refine XO_nil ?_
              refine at_then ?_
              refine X_seq ?_
              refine X_draw mixed (by kernel_rfl) ?_
              refine XQ_v0 (ev_fieldAddr rfl fld_37_0) rfl rfl rfl ?_
              refine XQ_v0 (ev_load rfl sct_3 (fun hg => by first | exact Sl.get hP.1 hpl rfl | exact Sl.get0 hZ ht rfl | exact Cell.h0 rfl | exact Cell.h1 rfl | exact Cell.h2 rfl | exact Cell.h3 rfl | exact Cell.h4 rfl | exact Cell.h5 rfl | (repeat (first | exact Cell.here rfl | apply Cell.there | apply Cell.app)))) rfl rfl rfl ?_
              refine XQ_v0 (ev_fieldAddr rfl fld_44_2) rfl rfl rfl ?_
              refine XQ_v0 (ev_load rfl sct_23 (fun hg => by first | exact Sl.get hP.1 hpl rfl | exact Sl.get0 hZ ht rfl | exact Cell.h0 rfl | exact Cell.h1 rfl | exact Cell.h2 rfl | exact Cell.h3 rfl | exact Cell.h4 rfl | exact Cell.h5 rfl | (repeat (first | exact Cell.here rfl | apply Cell.there | apply Cell.app)))) rfl rfl rfl ?_
              refine XQ_v0 (ev_move rfl) rfl rfl rfl ?_
              refine XQ_v0 (ev_convI rfl cvt_5_3) rfl rfl rfl ?_
              refine XQ_v0 (ev_fieldAddr rfl fld_44_2) rfl rfl rfl ?_
              refine XQ_v0 (ev_load rfl sct_23 (fun hg => by first | exact Sl.get hP.1 hpl rfl | exact Sl.get0 hZ ht rfl | exact Cell.h0 rfl | exact Cell.h1 rfl | exact Cell.h2 rfl | exact Cell.h3 rfl | exact Cell.h4 rfl | exact Cell.h5 rfl | (repeat (first | exact Cell.here rfl | apply Cell.there | apply Cell.app)))) rfl rfl rfl ?_
              refine XQ_v0 (ev_lenS rfl slt_23) rfl rfl rfl ?_
              refine XQ_v0 (ev_rem rfl rfl (fun hg => by omega)) rfl rfl rfl ?_
              rw [pick_val hva]
              refine XQ_v0 (ev_indexSl rfl rfl slt_23 hZ (fun hg => by omega)) rfl rfl rfl ?_
              refine XQ_v0 (ev_load rfl sct_3 (fun hg => by first | exact Sl.get hP.1 hpl rfl | exact Sl.get0 hZ ht rfl | exact Cell.h0 rfl | exact Cell.h1 rfl | exact Cell.h2 rfl | exact Cell.h3 rfl | exact Cell.h4 rfl | exact Cell.h5 rfl | (repeat (first | exact Cell.here rfl | apply Cell.there | apply Cell.app)))) rfl rfl rfl ?_
              refine XQ_v0 (ev_cmp rfl rfl rfl) rfl rfl rfl ?_
              refine XQ_nil ?_
              refine at_then ?_
              refine X_cond rfl (fun hc146 => ?_) (fun hc146 => ?_)
              · skip
                refine X_region ?_
                refine XO_v0 (ev_fieldAddr rfl fld_37_4) rfl rfl rfl ?_
                refine XO_v0 (ev_loadA rfl agt_35 (fun hg => by first | exact Sl.getA hC1.1 hz | exact Sl.getA hP1 hp | exact Sl.getA hC2.1 hc2 | exact Sl.getA hS3 hw | exact Cells.g0 | exact Cells.g1 | exact Cells.g2 | exact Cells.g3 | exact Cells.g4 | exact Cells.g5 | exact Cells.s0 (vs := [_, _, _, _, _, _, _, _, _, _, _, _, _, _]) rfl | exact Cells.s1 (vs := [_, _, _, _, _, _, _, _, _, _, _, _, _, _]) rfl | exact Cells.s2 (vs := [_, _, _, _, _, _, _, _, _, _, _, _, _, _]) rfl | exact Cells.s3 (vs := [_, _, _, _, _, _, _, _, _, _, _, _, _, _]) rfl | exact Cells.s4 (vs := [_, _, _, _, _, _, _, _, _, _, _, _, _, _]) rfl | exact Cells.s5 (vs := [_, _, _, _, _, _, _, _, _, _, _, _, _, _]) rfl | (repeat (first | exact Cells.here | apply Cells.there | apply Cells.app))) rfl) rfl rfl rfl ?_
                refine XO_v0 (ev_fieldAddr rfl fld_37_4) rfl rfl rfl ?_
                refine XO_storeP rfl rfl szt_35 rfl rfl rfl rfl (by first | exact Upd.u0 | exact Upd.u1 | exact Upd.u2 | exact Upd.u3 | exact Upd.u4 | exact Upd.u5 | (repeat (first | exact Upd.here | apply Upd.there | apply upd_app))) ?_
                refine XO_nil ?_
                refine at_block_n ?_
                refine at_then ?_
                refine X_region ?_
                refine XO_v0 (ev_arB rfl rfl rfl (fun hg => by first | omega | (simp [conj] at hg; omega))) rfl rfl rfl ?_
                refine XO_v0 (ev_move rfl) rfl rfl rfl ?_
                refine XO_nil ?_
                first
                | exact at_met2 _ _ ⟨n - (k + 1), by omega, k + 1, g, rfl, rfl, rfl, rfl, by omega, tgt_no hp hg (by simpa using hc146)⟩ (.cons rfl (.cons rfl (.cons rfl (.cons rfl (.cons rfl (.cons rfl (.cons rfl (.cons rfl (.cons rfl (.cons rfl .nil)))))))))) (by repeat (first | exact .refl | refine .keep ?_ | refine .drop ?_))
                | exact at_met2 _ _ ⟨n - (k + 1), by omega, k + 1, p.nw, rfl, rfl, rfl, rfl, by omega, tgt_yes hck hp (by simpa using hc146)⟩ (.cons rfl (.cons rfl (.cons rfl (.cons rfl (.cons rfl (.cons rfl (.cons rfl (.cons rfl (.cons rfl (.cons rfl .nil)))))))))) (by repeat (first | exact .refl | refine .keep ?_ | refine .drop ?_))
              · skip
                refine X_skip ?_
                refine at_block_n ?_
                refine at_then ?_
                refine X_region ?_
                refine XO_v0 (ev_arB rfl rfl rfl (fun hg => by first | omega | (simp [conj] at hg; omega))) rfl rfl rfl ?_
                refine XO_v0 (ev_move rfl) rfl rfl rfl ?_
                refine XO_nil ?_
                first
                | exact at_met2 _ _ ⟨n - (k + 1), by omega, k + 1, g, rfl, rfl, rfl, rfl, by omega, tgt_no hp hg (by simpa using hc146)⟩ (.cons rfl (.cons rfl (.cons rfl (.cons rfl (.cons rfl (.cons rfl (.cons rfl (.cons rfl (.cons rfl (.cons rfl .nil)))))))))) (by repeat (first | exact .refl | refine .keep ?_ | refine .drop ?_))
                | exact at_met2 _ _ ⟨n - (k + 1), by omega, k + 1, p.nw, rfl, rfl, rfl, rfl, by omega, tgt_yes hck hp (by simpa using hc146)⟩ (.cons rfl (.cons rfl (.cons rfl (.cons rfl (.cons rfl (.cons rfl (.cons rfl (.cons rfl (.cons rfl (.cons rfl .nil)))))))))) (by repeat (first | exact .refl | refine .keep ?_ | refine .drop ?_))
            · skip
              have hge_k : n ≤ k := by have h := hc131; simp at h; omega
              rw [take_all hP.len hge_k] at hg
              obtain ⟨y, hy, hyt⟩ := res_target hzk hgood.1 (List.mem_of_getElem? ht)
              have hRes := res_make hck hvA hE0 ⟨by omega, by omega⟩ hk1 hz hP.len hn0 hpl hgood.1 hgood.2 (List.mem_of_getElem? ht) hy hyt hg
              refine X_exit ?_
              refine at_then_e ?_
              refine at_then_e ?_
              refine at_block_hit ?_
              refine at_then ?_
              refine X_cutT [(1, _), (11, _), (15, _), (16, _), (17, _)] (.cons rfl (.cons rfl (.cons rfl (.cons rfl (.cons rfl .nil))))) (fun T L0 E I' loc' => ∃ (v : Value) (L : Go.Kn.Loc), E = (20, v) :: T ∧ I2 = I' ∧ L ++ ((b_17, .cells (encP (furP (pl.id + 1) z g)).toArray 37 (0, 0)) :: (b_15, .cells (encC z).toArray 44 (0, 0)) :: []) = loc' ∧ OwnS 37 19 v (n + 1) ((ps ++ [(furP (pl.id + 1) z g)]).flatMap encP) L) ?_ ?_
              · skip
                have hD := HLe.refl I2
                refine X_noP ?_
                refine X_drawS I2 [(b_17, .cells (encP (furP (pl.id + 1) z g)).toArray 37 (0, 0)), (b_15, .cells (encC z).toArray 44 (0, 0))] mixed ?_
                refine XD_take 1 rfl (ev_move rfl) (.none rfl) rfl rfl rfl (by kernel_rfl) (by kernel_rfl) (by kernel_rfl) noP_ok hD (by repeat (first | exact .refl | exact subL_nil | refine .keep ?_ | refine .drop ?_ | refine subL_add ?_)) ?_
                refine XD_take 3 rfl (ev_loadA rfl agt_37 (fun hg => by first | exact Sl.getA hC1.1 hz | exact Sl.getA hP1 hp | exact Sl.getA hC2.1 hc2 | exact Sl.getA hS3 hw | exact Cells.g0 | exact Cells.g1 | exact Cells.g2 | exact Cells.g3 | exact Cells.g4 | exact Cells.g5 | exact Cells.s0 (vs := [_, _, _, _, _, _, _, _, _, _, _, _, _, _, _, _, _, _, _]) rfl | exact Cells.s1 (vs := [_, _, _, _, _, _, _, _, _, _, _, _, _, _, _, _, _, _, _]) rfl | exact Cells.s2 (vs := [_, _, _, _, _, _, _, _, _, _, _, _, _, _, _, _, _, _, _]) rfl | exact Cells.s3 (vs := [_, _, _, _, _, _, _, _, _, _, _, _, _, _, _, _, _, _, _]) rfl | exact Cells.s4 (vs := [_, _, _, _, _, _, _, _, _, _, _, _, _, _, _, _, _, _, _]) rfl | exact Cells.s5 (vs := [_, _, _, _, _, _, _, _, _, _, _, _, _, _, _, _, _, _, _]) rfl | (repeat (first | exact Cells.here | apply Cells.there | apply Cells.app))) rfl) (.none rfl) rfl rfl rfl (by kernel_rfl) (by kernel_rfl) (by kernel_rfl) noP_ok hD (by repeat (first | exact .refl | exact subL_nil | refine .keep ?_ | refine .drop ?_ | refine subL_add ?_)) ?_
                refine XD_two 0 4 rfl rfl (by kernel_rfl) ?_ ?_
                · skip
                  refine XO_buildSlice (ps := []) (m := []) elt_22 rfl (.nil) rfl (by simp [encI_len, encP_len, encG_len]) (by decide) (by decide) rfl rfl (fun b_151 => ?_)
                  refine XO_nil ?_
                  refine at_D hD (by repeat (first | exact .refl | exact subL_nil | refine .keep ?_ | refine .drop ?_ | refine subL_add ?_)) ?_
                  refine XD_two 2 4 rfl rfl (by kernel_rfl) ?_ ?_
                  · skip
                    refine XO_append (v := _) (ys := ps.flatMap encP) (L := [(b_151, _)]) rfl rfl elt_22 OwnS.new (by repeat (first | exact .cons .here .nil | exact split_all | exact split_app | apply split_cons | apply split_skip)) (hP.1.src encP_len) (one_P _) (by omega) rfl rfl ?_
                    intro v1 L1 hO1 _; rw [List.nil_append, Nat.zero_add] at hO1
                    refine XO_nil ?_
                    refine at_D hD (by repeat (first | exact .refl | exact subL_nil | refine .keep ?_ | refine .drop ?_ | refine subL_add ?_)) ?_
                    refine XD_one 4 rfl (by kernel_rfl) ?_
                    refine XO_buildSlice (ps := [(0, _)]) (m := [encP (furP (pl.id + 1) z g)]) elt_22 rfl (.cons rfl (.nil)) rfl (by simp [encI_len, encP_len, encG_len]) (by decide) (by decide) rfl rfl (fun b_155 => ?_)
                    refine XO_nil ?_
                    refine at_D hD (by repeat (first | exact .refl | exact subL_nil | refine .keep ?_ | refine .drop ?_ | refine subL_add ?_)) ?_
                    refine XD_one 5 rfl (by kernel_rfl) ?_
                    refine XO_append (v := _) (ys := [(furP (pl.id + 1) z g)].flatMap encP) (L := L1) rfl rfl elt_22 hO1 (by repeat (first | exact .cons .here .nil | exact split_all | exact split_app | apply split_cons | apply split_skip)) ⟨rfl, fun _ => rfl, by repeat (first | exact Cells.here | apply Cells.there | apply Cells.app)⟩ (one_P [(furP (pl.id + 1) z g)]) (by omega) rfl rfl ?_
                    intro v8 L8 hO8 _; rw [← List.flatMap_append] at hO8
                    refine XO_nil ?_
                    refine at_D hD (by repeat (first | exact .refl | exact subL_nil | refine .keep ?_ | refine .drop ?_ | refine subL_add ?_)) ?_
                    refine XD_take 6 rfl (ev_assign rfl) (.none rfl) rfl rfl rfl (by kernel_rfl) (by kernel_rfl) (by kernel_rfl) noP_ok hD (by repeat (first | exact .refl | exact subL_nil | refine .keep ?_ | refine .drop ?_ | refine subL_add ?_)) ?_
                    refine XD_done (by kernel_rfl) ?_
                    refine at_noP ?_
                    exact at_met2 _ _ ⟨_, L8, rfl, rfl, rfl, hO8⟩ (.cons rfl (.cons rfl (.cons rfl (.cons rfl (.cons rfl (.cons rfl .nil)))))) (by repeat (first | refine subL_app ?_ | exact .refl | refine .keep ?_ | refine .drop ?_ | refine subL_add ?_))
                  · skip
                    refine XO_buildSlice (ps := [(0, _)]) (m := [encP (furP (pl.id + 1) z g)]) elt_22 rfl (.cons rfl (.nil)) rfl (by simp [encI_len, encP_len, encG_len]) (by decide) (by decide) rfl rfl (fun b_155 => ?_)
                    refine XO_nil ?_
                    refine at_D hD (by repeat (first | exact .refl | exact subL_nil | refine .keep ?_ | refine .drop ?_ | refine subL_add ?_)) ?_
                    refine XD_one 2 rfl (by kernel_rfl) ?_
                    refine XO_append (v := _) (ys := ps.flatMap encP) (L := [(b_151, _)]) rfl rfl elt_22 OwnS.new (by repeat (first | exact .cons .here .nil | exact split_all | exact split_app | apply split_cons | apply split_skip)) (hP.1.src encP_len) (one_P _) (by omega) rfl rfl ?_
                    intro v1 L1 hO1 _; rw [List.nil_append, Nat.zero_add] at hO1
                    refine XO_nil ?_
                    refine at_D hD (by repeat (first | exact .refl | exact subL_nil | refine .keep ?_ | refine .drop ?_ | refine subL_add ?_)) ?_
                    refine XD_one 5 rfl (by kernel_rfl) ?_
                    refine XO_append (v := _) (ys := [(furP (pl.id + 1) z g)].flatMap encP) (L := L1) rfl rfl elt_22 hO1 (by repeat (first | exact .cons .here .nil | exact split_all | exact split_app | apply split_cons | apply split_skip)) ⟨rfl, fun _ => rfl, by repeat (first | exact Cells.here | apply Cells.there | apply Cells.app)⟩ (one_P [(furP (pl.id + 1) z g)]) (by omega) rfl rfl ?_
                    intro v8 L8 hO8 _; rw [← List.flatMap_append] at hO8
                    refine XO_nil ?_
                    refine at_D hD (by repeat (first | exact .refl | exact subL_nil | refine .keep ?_ | refine .drop ?_ | refine subL_add ?_)) ?_
                    refine XD_take 6 rfl (ev_assign rfl) (.none rfl) rfl rfl rfl (by kernel_rfl) (by kernel_rfl) (by kernel_rfl) noP_ok hD (by repeat (first | exact .refl | exact subL_nil | refine .keep ?_ | refine .drop ?_ | refine subL_add ?_)) ?_
                    refine XD_done (by kernel_rfl) ?_
                    refine at_noP ?_
                    exact at_met2 _ _ ⟨_, L8, rfl, rfl, rfl, hO8⟩ (.cons rfl (.cons rfl (.cons rfl (.cons rfl (.cons rfl (.cons rfl .nil)))))) (by repeat (first | refine subL_app ?_ | exact .refl | refine .keep ?_ | refine .drop ?_ | refine subL_add ?_))
                · skip
                  refine XO_buildSlice (ps := [(0, _)]) (m := [encP (furP (pl.id + 1) z g)]) elt_22 rfl (.cons rfl (.nil)) rfl (by simp [encI_len, encP_len, encG_len]) (by decide) (by decide) rfl rfl (fun b_155 => ?_)
                  refine XO_nil ?_
                  refine at_D hD (by repeat (first | exact .refl | exact subL_nil | refine .keep ?_ | refine .drop ?_ | refine subL_add ?_)) ?_
                  refine XD_one 0 rfl (by kernel_rfl) ?_
                  refine XO_buildSlice (ps := []) (m := []) elt_22 rfl (.nil) rfl (by simp [encI_len, encP_len, encG_len]) (by decide) (by decide) rfl rfl (fun b_151 => ?_)
                  refine XO_nil ?_
                  refine at_D hD (by repeat (first | exact .refl | exact subL_nil | refine .keep ?_ | refine .drop ?_ | refine subL_add ?_)) ?_
                  refine XD_one 2 rfl (by kernel_rfl) ?_
                  refine XO_append (v := _) (ys := ps.flatMap encP) (L := [(b_151, _)]) rfl rfl elt_22 OwnS.new (by repeat (first | exact .cons .here .nil | exact split_all | exact split_app | apply split_cons | apply split_skip)) (hP.1.src encP_len) (one_P _) (by omega) rfl rfl ?_
                  intro v1 L1 hO1 _; rw [List.nil_append, Nat.zero_add] at hO1
                  refine XO_nil ?_
                  refine at_D hD (by repeat (first | exact .refl | exact subL_nil | refine .keep ?_ | refine .drop ?_ | refine subL_add ?_)) ?_
                  refine XD_one 5 rfl (by kernel_rfl) ?_
                  refine XO_append (v := _) (ys := [(furP (pl.id + 1) z g)].flatMap encP) (L := L1) rfl rfl elt_22 hO1 (by repeat (first | exact .cons .here .nil | exact split_all | exact split_app | apply split_cons | apply split_skip)) ⟨rfl, fun _ => rfl, by repeat (first | exact Cells.here | apply Cells.there | apply Cells.app)⟩ (one_P [(furP (pl.id + 1) z g)]) (by omega) rfl rfl ?_
                  intro v8 L8 hO8 _; rw [← List.flatMap_append] at hO8
                  refine XO_nil ?_
                  refine at_D hD (by repeat (first | exact .refl | exact subL_nil | refine .keep ?_ | refine .drop ?_ | refine subL_add ?_)) ?_
                  refine XD_take 6 rfl (ev_assign rfl) (.none rfl) rfl rfl rfl (by kernel_rfl) (by kernel_rfl) (by kernel_rfl) noP_ok hD (by repeat (first | exact .refl | exact subL_nil | refine .keep ?_ | refine .drop ?_ | refine subL_add ?_)) ?_
                  refine XD_done (by kernel_rfl) ?_
                  refine at_noP ?_
                  exact at_met2 _ _ ⟨_, L8, rfl, rfl, rfl, hO8⟩ (.cons rfl (.cons rfl (.cons rfl (.cons rfl (.cons rfl (.cons rfl .nil)))))) (by repeat (first | refine subL_app ?_ | exact .refl | refine .keep ?_ | refine .drop ?_ | refine subL_add ?_))
              · rintro E I' loc' ⟨v, L, rfl, rfl, rfl, hO⟩
                refine X_seq ?_
                refine X_freezeO hO encP_len (by decide) (by repeat (first | exact .cons .here .nil | exact split_all | exact split_app | apply split_cons | apply split_skip)) (fun I5 hI5 af5 cf5 ef5 hMo1 => ?_)
                subst ef5
                have hP := hP.mono hI5
                have hB := hB.mono hI5
                have hT := hT.mono hI5
                have hA := hA.mono hI5
                have hC1 := hC1.mono hI5
                have hIc := hIc.trans hI5
                have hMo : SlP I5 _ _ _ (ps ++ [(furP (pl.id + 1) z g)]) := ⟨hMo1, fun q hq => (List.mem_append.1 hq).elim (fun h => hP.2 q h) (fun h => by simp only [List.mem_singleton] at h; subst h; exact (hC1.2 z (List.mem_of_getElem? hz)))⟩
                have hlA := ver_len hL hvA
                have hAl := hA.len
                rw [hP.len] at hlA
                refine X_region ?_
                refine XO_v0 (ev_move rfl) rfl rfl rfl ?_
                refine XO_buildSlice (ps := []) (m := []) elt_23 rfl (.nil) rfl (by simp [encI_len, encP_len, encG_len]) (by decide) (by decide) rfl rfl (fun b_159 => ?_)
                refine XO_v0 (ev_move rfl) rfl rfl rfl ?_
                refine XO_append (v := _) (ys := A.flatMap encI) (L := [(b_159, _)]) rfl rfl elt_23 OwnS.new (by repeat (first | exact .cons .here .nil | exact split_all | exact split_app | apply split_cons | apply split_skip)) (hA.src encI_len) (one_I _) (by omega) rfl rfl ?_
                intro v2 L2 hO2 _; rw [List.nil_append, Nat.zero_add] at hO2
                refine XO_v0 (ev_move rfl) rfl rfl rfl ?_
                refine XO_buildSlice (ps := [(0, _)]) (m := [encI (pl.id + 1)]) elt_23 rfl (.cons rfl (.nil)) rfl (by simp [encI_len, encP_len, encG_len]) (by decide) (by decide) rfl rfl (fun b_163 => ?_)
                refine XO_append (v := _) (ys := [pl.id + 1].flatMap encI) (L := L2) rfl rfl elt_23 hO2 (by repeat (first | exact .cons .here .nil | exact split_all | exact split_app | apply split_cons | apply split_skip)) ⟨rfl, fun _ => rfl, by repeat (first | exact Cells.here | apply Cells.there | apply Cells.app)⟩ (one_I [pl.id + 1]) (by omega) rfl rfl ?_
                intro v3 L3 hO3 _; rw [← List.flatMap_append] at hO3
                refine XO_freezeO hO3 encI_len (by decide) (by repeat (first | exact .cons .here .nil | exact split_all | exact split_app | apply split_cons | apply split_skip)) (fun I6 hI6 af6 cf6 ef6 hA1 => ?_)
                subst ef6
                have hP := hP.mono hI6
                have hB := hB.mono hI6
                have hT := hT.mono hI6
                have hA := hA.mono hI6
                have hC1 := hC1.mono hI6
                have hMo1 := hMo1.mono hI6
                have hMo := hMo.mono hI6
                have hIc := hIc.trans hI6
                refine XO_callM (cap := []) (vs := [_, _]) rfl rfl fun_10 .nil (r_clo hRes (i := pl.id + 1) rfl hMo (by omega) hA1 (by omega)) rfl rfl ?_
                rintro vv7 I7 L7 hI7 ⟨rfl, a7, c7, rfl, hA2⟩
                have hP := hP.mono hI7
                have hB := hB.mono hI7
                have hT := hT.mono hI7
                have hA := hA.mono hI7
                have hC1 := hC1.mono hI7
                have hMo1 := hMo1.mono hI7
                have hMo := hMo.mono hI7
                have hA1 := hA1.mono hI7
                have hIc := hIc.trans hI7
                refine XO_v0 (ev_move rfl) rfl rfl rfl ?_
                refine XO_v0 (ev_extract rfl rfl) rfl rfl rfl ?_
                refine XO_v0 (ev_extract rfl rfl) rfl rfl rfl ?_
                refine XO_v0 (ev_assign rfl) rfl rfl rfl ?_
                refine XO_v0 (ev_assign rfl) rfl rfl rfl ?_
                refine XO_nil ?_
                refine at_then ?_
                refine X_seq ?_
                refine X_region ?_
                refine XO_v0 (ev_move rfl) rfl rfl rfl ?_
                refine XO_v0 (ev_move rfl) rfl rfl rfl ?_
                refine XO_v0 (ev_move rfl) rfl rfl rfl ?_
                refine XO_callM (cap := []) (vs := [_, _, _]) rfl rfl fun_15 .nil (r_sgn hRes (i := pl.id + 1) rfl hMo (by omega) hB hn2 hA2 (by rw [List.length_append, List.length_singleton]; omega)) rfl rfl ?_
                rintro vv8 I8 L8 hI8 ⟨rfl, a8, c8, rfl, hS3⟩
                have hP := hP.mono hI8
                have hB := hB.mono hI8
                have hT := hT.mono hI8
                have hA := hA.mono hI8
                have hC1 := hC1.mono hI8
                have hMo1 := hMo1.mono hI8
                have hMo := hMo.mono hI8
                have hA1 := hA1.mono hI8
                have hA2 := hA2.mono hI8
                have hIc := hIc.trans hI8
                refine XO_v0 (ev_move rfl) rfl rfl rfl ?_
                refine XO_v0 (ev_extract rfl rfl) rfl rfl rfl ?_
                refine XO_v0 (ev_extract rfl rfl) rfl rfl rfl ?_
                refine XO_v0 (ev_assign rfl) rfl rfl rfl ?_
                refine XO_v0 (ev_assign rfl) rfl rfl rfl ?_
                refine XO_nil ?_
                refine at_then ?_
                refine X_seq ?_
                refine X_region ?_
                refine XO_v0 (ev_move rfl) rfl rfl rfl ?_
                refine XO_v0 (ev_move rfl) rfl rfl rfl ?_
                refine XO_v0 (ev_move rfl) rfl rfl rfl ?_
                refine XO_callM (cap := []) (vs := [_, _, _]) rfl rfl fun_14 .nil (r_cfl hRes (i := pl.id + 1) rfl hMo (by omega) hB hn2 hA2 (by rw [List.length_append, List.length_singleton]; omega)) rfl rfl ?_
                rintro vv9 I9 L9 hI9 ⟨rfl, cs2, a9, c9, rfl, hC2, hk2⟩
                have hP := hP.mono hI9
                have hB := hB.mono hI9
                have hT := hT.mono hI9
                have hA := hA.mono hI9
                have hC1 := hC1.mono hI9
                have hMo1 := hMo1.mono hI9
                have hMo := hMo.mono hI9
                have hA1 := hA1.mono hI9
                have hA2 := hA2.mono hI9
                have hS3 := hS3.mono hI9
                have hIc := hIc.trans hI9
                refine XO_v0 (ev_move rfl) rfl rfl rfl ?_
                refine XO_v0 (ev_extract rfl rfl) rfl rfl rfl ?_
                refine XO_v0 (ev_extract rfl rfl) rfl rfl rfl ?_
                refine XO_v0 (ev_assign rfl) rfl rfl rfl ?_
                refine XO_v0 (ev_assign rfl) rfl rfl rfl ?_
                refine XO_nil ?_
                refine at_then ?_
                refine X_seq ?_
                refine X_seq ?_
                have hf2 := cs_few hk2
                rw [List.length_append, List.length_singleton, hP.len, hB.len] at hf2
                have hf3 := sgF_few (ps := ps ++ [(furP (pl.id + 1) z g)]) (bs := bs) (v := A ++ [pl.id + 1])
                rw [List.length_append, List.length_singleton, hP.len, hB.len] at hf3
                refine X_region ?_
                refine XO_v0 (ev_move rfl) rfl rfl rfl ?_
                refine XO_v0 (ev_cmp rfl rfl rfl) rfl rfl rfl ?_
                refine XO_v0 (ev_move rfl) rfl rfl rfl ?_
                refine XO_pushF 2 rfl rfl rfl ?_
                refine XO_v1 (ev_move rfl) (.some rfl rfl rfl rfl gbf) rfl rfl rfl ?_
                refine XO_v1 (ev_cmp rfl rfl rfl) (.some rfl rfl rfl rfl gbf) rfl rfl rfl ?_
                refine XO_or0 rfl rfl rfl rfl rfl ?_
                refine XO_v0 (ev_move rfl) rfl rfl rfl ?_
                refine XO_pushF 6 rfl rfl rfl ?_
                refine XO_v1 (ev_move rfl) (.some rfl rfl rfl rfl gbf) rfl rfl rfl ?_
                refine XO_v1 (ev_cmp rfl rfl rfl) (.some rfl rfl rfl rfl gbf) rfl rfl rfl ?_
                refine XO_or0 rfl rfl rfl rfl rfl ?_
                refine XO_v0 (ev_move rfl) rfl rfl rfl ?_
                refine XO_pushF 10 rfl rfl rfl ?_
                refine XO_v1 (ev_move rfl) (.some rfl rfl rfl rfl gbf) rfl rfl rfl ?_
                refine XO_v1 (ev_lenS rfl slt_23) (.some rfl rfl rfl rfl gbf) rfl rfl rfl ?_
                refine XO_v1 (ev_move rfl) (.some rfl rfl rfl rfl gbf) rfl rfl rfl ?_
                refine XO_v1 (ev_lenS rfl slt_23) (.some rfl rfl rfl rfl gbf) rfl rfl rfl ?_
                refine XO_v1 (ev_arB rfl rfl rfl (fun hg => by first | omega | (simp [conj] at hg; omega))) (.some rfl rfl rfl rfl gbf) rfl rfl rfl ?_
                refine XO_v1 (ev_cmp rfl rfl rfl) (.some rfl rfl rfl rfl gbf) rfl rfl rfl ?_
                refine XO_or0 rfl rfl rfl rfl rfl ?_
                refine XO_nil ?_
                refine at_then ?_
                refine X_cond rfl (fun hc199 => ?_) (fun hc199 => ?_)
                · skip
                  simp at hc199
                · skip
                  refine X_skip ?_
                  refine at_then ?_
                  refine X_seq ?_
                  refine X_seq ?_
                  refine X_region ?_
                  refine XO_v0 (ev_move rfl) rfl rfl rfl ?_
                  refine XO_v0 (ev_lenS rfl slt_40) rfl rfl rfl ?_
                  refine XO_v0 (ev_move rfl) rfl rfl rfl ?_
                  refine XO_nil ?_
                  refine at_then ?_
                  refine X_block ?_
                  refine X_loopT [(15, _), (17, _), (23, _), (200, _), (201, _)] (.cons rfl (.cons rfl (.cons rfl (.cons rfl (.cons rfl .nil))))) (fun T L0 mz E I' loc' => ∃ (k : Nat), mz = cs2.length - k ∧ E = (202, .int .i64 k) :: T ∧ I9 = I' ∧ L0 = loc' ∧ k ≤ cs2.length) _ _ _ _ ⟨0, rfl, rfl, rfl, rfl, Nat.zero_le _⟩ (.cons rfl (.cons rfl (.cons rfl (.cons rfl (.cons rfl (.cons rfl .nil)))))) (HLe.refl _) rfl ?_
                  rintro mz E I' loc' ⟨k, rfl, rfl, rfl, rfl, hk⟩
                  refine X_seq ?_
                  refine X_region ?_
                  refine XO_v0 (ev_cmp rfl rfl rfl) rfl rfl rfl ?_
                  refine XO_nil ?_
                  refine at_then ?_
                  refine X_seq ?_
                  refine X_cond rfl (fun hc203 => ?_) (fun hc203 => ?_)
                  · skip
                    have hlt_k : k < cs2.length := by have h := hc203; simp at h; omega
                    obtain ⟨c2_, hc2⟩ := hC2.1.at hlt_k
                    refine X_skip ?_
                    refine at_then ?_
                    refine X_seq ?_
                    refine X_block ?_
                    refine X_seq ?_
                    refine X_region ?_
                    refine XO_v0 (ev_indexSl rfl rfl slt_40 hC2.1 (fun hg => by omega)) rfl rfl rfl ?_
                    refine XO_v0 (ev_loadA rfl agt_44 (fun hg => by first | exact Sl.getA hC1.1 hz | exact Sl.getA hP1 hp | exact Sl.getA hC2.1 hc2 | exact Sl.getA hS3 hw | exact Cells.g0 | exact Cells.g1 | exact Cells.g2 | exact Cells.g3 | exact Cells.g4 | exact Cells.g5 | exact Cells.s0 (vs := [_, _, _]) rfl | exact Cells.s1 (vs := [_, _, _]) rfl | exact Cells.s2 (vs := [_, _, _]) rfl | exact Cells.s3 (vs := [_, _, _]) rfl | exact Cells.s4 (vs := [_, _, _]) rfl | exact Cells.s5 (vs := [_, _, _]) rfl | (repeat (first | exact Cells.here | apply Cells.there | apply Cells.app))) rfl) rfl rfl rfl ?_
                    refine XO_alloc zt_44 rfl rfl (fun b_28 => ?_)
                    refine XO_storeA rfl rfl szt_44 rfl rfl rfl rfl (by first | exact Upd.u0 | exact Upd.u1 | exact Upd.u2 | exact Upd.u3 | exact Upd.u4 | exact Upd.u5 | (repeat (first | exact Upd.here | apply Upd.there | apply upd_app))) ?_
                    refine XO_nil ?_
                    refine at_then ?_
                    refine X_seq ?_
                    refine X_region ?_
                    refine XO_v0 (ev_fieldAddr rfl fld_44_0) rfl rfl rfl ?_
                    refine XO_v0 (ev_load rfl sct_3 (fun hg => by first | exact Sl.get hP.1 hpl rfl | exact Sl.get0 hZ ht rfl | exact Cell.h0 rfl | exact Cell.h1 rfl | exact Cell.h2 rfl | exact Cell.h3 rfl | exact Cell.h4 rfl | exact Cell.h5 rfl | (repeat (first | exact Cell.here rfl | apply Cell.there | apply Cell.app)))) rfl rfl rfl ?_
                    refine XO_v0 (ev_fieldAddr rfl fld_44_0) rfl rfl rfl ?_
                    refine XO_v0 (ev_load rfl sct_3 (fun hg => by first | exact Sl.get hP.1 hpl rfl | exact Sl.get0 hZ ht rfl | exact Cell.h0 rfl | exact Cell.h1 rfl | exact Cell.h2 rfl | exact Cell.h3 rfl | exact Cell.h4 rfl | exact Cell.h5 rfl | (repeat (first | exact Cell.here rfl | apply Cell.there | apply Cell.app)))) rfl rfl rfl ?_
                    refine XO_v0 (ev_cmp rfl rfl rfl) rfl rfl rfl ?_
                    refine XO_v0 (ev_move rfl) rfl rfl rfl ?_
                    refine XO_pushT 5 rfl rfl rfl ?_
                    refine XO_v1 (ev_fieldAddr rfl fld_44_1) (.some rfl rfl rfl rfl gbt) rfl rfl rfl ?_
                    refine XO_v1 (ev_load rfl sct_3 (fun hg => by first | exact Sl.get hP.1 hpl rfl | exact Sl.get0 hZ ht rfl | exact Cell.h0 rfl | exact Cell.h1 rfl | exact Cell.h2 rfl | exact Cell.h3 rfl | exact Cell.h4 rfl | exact Cell.h5 rfl | (repeat (first | exact Cell.here rfl | apply Cell.there | apply Cell.app)))) (.some rfl rfl rfl rfl gbt) rfl rfl rfl ?_
                    refine XO_v1 (ev_fieldAddr rfl fld_44_1) (.some rfl rfl rfl rfl gbt) rfl rfl rfl ?_
                    refine XO_v1 (ev_load rfl sct_3 (fun hg => by first | exact Sl.get hP.1 hpl rfl | exact Sl.get0 hZ ht rfl | exact Cell.h0 rfl | exact Cell.h1 rfl | exact Cell.h2 rfl | exact Cell.h3 rfl | exact Cell.h4 rfl | exact Cell.h5 rfl | (repeat (first | exact Cell.here rfl | apply Cell.there | apply Cell.app)))) (.some rfl rfl rfl rfl gbt) rfl rfl rfl ?_
                    refine XO_v1 (ev_cmp rfl rfl rfl) (.some rfl rfl rfl rfl gbt) rfl rfl rfl ?_
                    refine XO_and0 rfl rfl rfl rfl rfl ?_
                    refine XO_nil ?_
                    refine at_then ?_
                    refine X_cond rfl (fun hc217 => ?_) (fun hc217 => ?_)
                    · skip
                      exact absurd hc217 (by rw [show ((c2_.sign == z.sign) && (c2_.field == z.field)) = false from res_gone hRes hk2 hc2]; exact Bool.false_ne_true)
                    · skip
                      refine X_skip ?_
                      refine at_block_n ?_
                      refine at_then ?_
                      refine X_region ?_
                      refine XO_v0 (ev_arB rfl rfl rfl (fun hg => by first | omega | (simp [conj] at hg; omega))) rfl rfl rfl ?_
                      refine XO_v0 (ev_move rfl) rfl rfl rfl ?_
                      refine XO_nil ?_
                      exact at_met2 _ _ ⟨cs2.length - (k + 1), by omega, k + 1, rfl, rfl, rfl, rfl, by omega⟩ (.cons rfl (.cons rfl (.cons rfl (.cons rfl (.cons rfl (.cons rfl .nil)))))) (by repeat (first | exact .refl | exact subL_left | refine subL_app ?_ | refine .drop ?_ | refine subL_add ?_))
                  · skip
                    have hge_k : cs2.length ≤ k := by have h := hc203; simp at h; omega
                    refine X_exit ?_
                    refine at_then_e ?_
                    refine at_then_e ?_
                    refine at_block_hit ?_
                    refine at_then ?_
                    refine X_seq ?_
                    refine X_seq ?_
                    refine X_region ?_
                    refine XO_v0 (ev_move rfl) rfl rfl rfl ?_
                    refine XO_v0 (ev_lenS rfl slt_39) rfl rfl rfl ?_
                    refine XO_v0 (ev_move rfl) rfl rfl rfl ?_
                    refine XO_nil ?_
                    refine at_then ?_
                    refine X_block ?_
                    refine X_loopT [(15, _), (17, _), (219, _), (220, _)] (.cons rfl (.cons rfl (.cons rfl (.cons rfl .nil)))) (fun T L0 mz E I' loc' => ∃ (k : Nat), mz = (sgnF (ps ++ [(furP (pl.id + 1) z g)]) bs (A ++ [pl.id + 1])).length - k ∧ E = (221, .int .i64 k) :: T ∧ I9 = I' ∧ L0 = loc' ∧ k ≤ (sgnF (ps ++ [(furP (pl.id + 1) z g)]) bs (A ++ [pl.id + 1])).length ∧ (((sgnF (ps ++ [(furP (pl.id + 1) z g)]) bs (A ++ [pl.id + 1])).take k).any fun s => s.id == z.sign) = false) _ _ _ _ ⟨0, rfl, rfl, rfl, rfl, Nat.zero_le _, by rw [List.take_zero]; rfl⟩ (.cons rfl (.cons rfl (.cons rfl (.cons rfl (.cons rfl .nil))))) (HLe.refl _) rfl ?_
                    rintro mz E I' loc' ⟨k, rfl, rfl, rfl, rfl, hk, hno⟩
                    refine X_seq ?_
                    refine X_region ?_
                    refine XO_v0 (ev_cmp rfl rfl rfl) rfl rfl rfl ?_
                    refine XO_nil ?_
                    refine at_then ?_
                    refine X_seq ?_
                    refine X_cond rfl (fun hc222 => ?_) (fun hc222 => ?_)
                    · skip
                      have hlt_k : k < (sgnF (ps ++ [(furP (pl.id + 1) z g)]) bs (A ++ [pl.id + 1])).length := by have h := hc222; simp at h; omega
                      obtain ⟨sg, hw⟩ := hS3.at hlt_k
                      refine X_skip ?_
                      refine at_then ?_
                      refine X_seq ?_
                      refine X_block ?_
                      refine X_seq ?_
                      refine X_region ?_
                      refine XO_v0 (ev_indexSl rfl rfl slt_39 (by assumption) (fun hg => by omega)) rfl rfl rfl ?_
                      refine XO_v0 (ev_loadA rfl agt_35 (fun hg => by first | exact Sl.getA hC1.1 hz | exact Sl.getA hP1 hp | exact Sl.getA hC2.1 hc2 | exact Sl.getA hS3 hw | exact Cells.g0 | exact Cells.g1 | exact Cells.g2 | exact Cells.g3 | exact Cells.g4 | exact Cells.g5 | exact Cells.s0 (vs := [_, _, _, _, _, _, _, _, _, _, _, _, _, _]) rfl | exact Cells.s1 (vs := [_, _, _, _, _, _, _, _, _, _, _, _, _, _]) rfl | exact Cells.s2 (vs := [_, _, _, _, _, _, _, _, _, _, _, _, _, _]) rfl | exact Cells.s3 (vs := [_, _, _, _, _, _, _, _, _, _, _, _, _, _]) rfl | exact Cells.s4 (vs := [_, _, _, _, _, _, _, _, _, _, _, _, _, _]) rfl | exact Cells.s5 (vs := [_, _, _, _, _, _, _, _, _, _, _, _, _, _]) rfl | (repeat (first | exact Cells.here | apply Cells.there | apply Cells.app))) rfl) rfl rfl rfl ?_
                      refine XO_alloc zt_35 rfl rfl (fun b_30 => ?_)
                      refine XO_storeA rfl rfl szt_35 rfl rfl rfl rfl (by first | exact Upd.u0 | exact Upd.u1 | exact Upd.u2 | exact Upd.u3 | exact Upd.u4 | exact Upd.u5 | (repeat (first | exact Upd.here | apply Upd.there | apply upd_app))) ?_
                      refine XO_nil ?_
                      refine at_then ?_
                      refine X_seq ?_
                      refine X_region ?_
                      refine XO_v0 (ev_fieldAddr rfl fld_35_0) rfl rfl rfl ?_
                      refine XO_v0 (ev_load rfl sct_3 (fun hg => by first | exact Sl.get hP.1 hpl rfl | exact Sl.get0 hZ ht rfl | exact Cell.h0 rfl | exact Cell.h1 rfl | exact Cell.h2 rfl | exact Cell.h3 rfl | exact Cell.h4 rfl | exact Cell.h5 rfl | (repeat (first | exact Cell.here rfl | apply Cell.there | apply Cell.app)))) rfl rfl rfl ?_
                      refine XO_v0 (ev_fieldAddr rfl fld_44_0) rfl rfl rfl ?_
                      refine XO_v0 (ev_load rfl sct_3 (fun hg => by first | exact Sl.get hP.1 hpl rfl | exact Sl.get0 hZ ht rfl | exact Cell.h0 rfl | exact Cell.h1 rfl | exact Cell.h2 rfl | exact Cell.h3 rfl | exact Cell.h4 rfl | exact Cell.h5 rfl | (repeat (first | exact Cell.here rfl | apply Cell.there | apply Cell.app)))) rfl rfl rfl ?_
                      refine XO_v0 (ev_cmp rfl rfl rfl) rfl rfl rfl ?_
                      refine XO_nil ?_
                      refine at_then ?_
                      refine X_cond rfl (fun hc229 => ?_) (fun hc229 => ?_)
                      · skip
                        have hwv := res_hit hRes hw (show sg.id = z.sign by simpa using hc229)
                        refine X_seq ?_
                        have hD := HLe.refl I9
                        refine X_noP ?_
                        refine X_drawS I9 [(b_30, .cells (encG sg).toArray 35 (0, 0)), (b_17, .cells (encP (furP (pl.id + 1) z g)).toArray 37 (0, 0)), (b_15, .cells (encC z).toArray 44 (0, 0))] mixed ?_
                        refine XD_take 0 rfl (ev_loadA rfl agt_35 (fun hg => by first | exact Sl.getA hC1.1 hz | exact Sl.getA hP1 hp | exact Sl.getA hC2.1 hc2 | exact Sl.getA hS3 hw | exact Cells.g0 | exact Cells.g1 | exact Cells.g2 | exact Cells.g3 | exact Cells.g4 | exact Cells.g5 | exact Cells.s0 (vs := [_, _, _, _, _, _, _, _, _, _, _, _, _, _]) rfl | exact Cells.s1 (vs := [_, _, _, _, _, _, _, _, _, _, _, _, _, _]) rfl | exact Cells.s2 (vs := [_, _, _, _, _, _, _, _, _, _, _, _, _, _]) rfl | exact Cells.s3 (vs := [_, _, _, _, _, _, _, _, _, _, _, _, _, _]) rfl | exact Cells.s4 (vs := [_, _, _, _, _, _, _, _, _, _, _, _, _, _]) rfl | exact Cells.s5 (vs := [_, _, _, _, _, _, _, _, _, _, _, _, _, _]) rfl | (repeat (first | exact Cells.here | apply Cells.there | apply Cells.app))) rfl) (.none rfl) rfl rfl rfl (by kernel_rfl) (by kernel_rfl) (by kernel_rfl) noP_ok hD (by repeat (first | exact .refl | exact subL_nil | refine .keep ?_ | refine .drop ?_ | refine subL_add ?_)) ?_
                        refine XD_take 1 rfl (ev_fieldAddr rfl fld_44_1) (.none rfl) rfl rfl rfl (by kernel_rfl) (by kernel_rfl) (by kernel_rfl) noP_ok hD (by repeat (first | exact .refl | exact subL_nil | refine .keep ?_ | refine .drop ?_ | refine subL_add ?_)) ?_
                        refine XD_take 2 rfl (ev_load rfl sct_3 (fun hg => by first | exact Sl.get hP.1 hpl rfl | exact Sl.get0 hZ ht rfl | exact Cell.h0 rfl | exact Cell.h1 rfl | exact Cell.h2 rfl | exact Cell.h3 rfl | exact Cell.h4 rfl | exact Cell.h5 rfl | (repeat (first | exact Cell.here rfl | apply Cell.there | apply Cell.app)))) (.none rfl) rfl rfl rfl (by kernel_rfl) (by kernel_rfl) (by kernel_rfl) noP_ok hD (by repeat (first | exact .refl | exact subL_nil | refine .keep ?_ | refine .drop ?_ | refine subL_add ?_)) ?_
                        refine XD_take 4 rfl (ev_fieldAddr rfl fld_37_4) (.none rfl) rfl rfl rfl (by kernel_rfl) (by kernel_rfl) (by kernel_rfl) noP_ok hD (by repeat (first | exact .refl | exact subL_nil | refine .keep ?_ | refine .drop ?_ | refine subL_add ?_)) ?_
                        refine XD_take 5 rfl (ev_loadA rfl agt_35 (fun hg => by first | exact Sl.getA hC1.1 hz | exact Sl.getA hP1 hp | exact Sl.getA hC2.1 hc2 | exact Sl.getA hS3 hw | exact Cells.g0 | exact Cells.g1 | exact Cells.g2 | exact Cells.g3 | exact Cells.g4 | exact Cells.g5 | exact Cells.s0 (vs := [_, _, _, _, _, _, _, _, _, _, _, _, _, _]) rfl | exact Cells.s1 (vs := [_, _, _, _, _, _, _, _, _, _, _, _, _, _]) rfl | exact Cells.s2 (vs := [_, _, _, _, _, _, _, _, _, _, _, _, _, _]) rfl | exact Cells.s3 (vs := [_, _, _, _, _, _, _, _, _, _, _, _, _, _]) rfl | exact Cells.s4 (vs := [_, _, _, _, _, _, _, _, _, _, _, _, _, _]) rfl | exact Cells.s5 (vs := [_, _, _, _, _, _, _, _, _, _, _, _, _, _]) rfl | (repeat (first | exact Cells.here | apply Cells.there | apply Cells.app))) rfl) (.none rfl) rfl rfl rfl (by kernel_rfl) (by kernel_rfl) (by kernel_rfl) noP_ok hD (by repeat (first | exact .refl | exact subL_nil | refine .keep ?_ | refine .drop ?_ | refine subL_add ?_)) ?_
                        refine XD_one 3 rfl (by kernel_rfl) ?_
                        refine XO_callV0 (cap := []) (vs := [_, _]) rfl rfl fun_16 (w_part _ sg z.field) rfl rfl ?_
                        refine XO_nil ?_
                        refine at_D hD (by repeat (first | exact .refl | exact subL_nil | refine .keep ?_ | refine .drop ?_ | refine subL_add ?_)) ?_
                        refine XD_take 6 rfl (ev_eqS2 rfl rfl eqt2_35 rfl) (.none rfl) rfl rfl rfl (by kernel_rfl) (by kernel_rfl) (by kernel_rfl) noP_ok hD (by repeat (first | exact .refl | exact subL_nil | refine .keep ?_ | refine .drop ?_ | refine subL_add ?_)) ?_
                        refine XD_take 7 rfl (ev_assign rfl) (.none rfl) rfl rfl rfl (by kernel_rfl) (by kernel_rfl) (by kernel_rfl) noP_ok hD (by repeat (first | exact .refl | exact subL_nil | refine .keep ?_ | refine .drop ?_ | refine subL_add ?_)) ?_
                        refine XD_done (by kernel_rfl) ?_
                        refine at_noP ?_
                        refine at_then ?_
                        refine X_ret ?_
                        refine at_block_r ?_
                        refine at_then_r ?_
                        refine at_then_r ?_
                        refine at_block_r ?_
                        refine at_then_r ?_
                        first
                        | exact at_ret1 rfl rfl (fun w hw => ⟨by rfl, (hw.mono hIc).drop⟩)
                        | exact at_ret1 rfl rfl (fun w hw => ⟨by rw [hbad], (hw.mono hIc).drop⟩)
                        | exact at_ret1 rfl rfl (fun w hw => ⟨by exact congrArg (fun b => Ending.returned (Value.bool b)) (show sgEq (setG zeroG z.field sg) g = true from sgEq_iff.2 hwv), (hw.mono hIc).drop⟩)
                      · skip
                        refine X_skip ?_
                        refine at_block_n ?_
                        refine at_then ?_
                        refine X_region ?_
                        refine XO_v0 (ev_arB rfl rfl rfl (fun hg => by first | omega | (simp [conj] at hg; omega))) rfl rfl rfl ?_
                        refine XO_v0 (ev_move rfl) rfl rfl rfl ?_
                        refine XO_nil ?_
                        exact at_met2 _ _ ⟨(sgnF (ps ++ [(furP (pl.id + 1) z g)]) bs (A ++ [pl.id + 1])).length - (k + 1), by omega, k + 1, rfl, rfl, rfl, rfl, by omega, any_no hw hno hc229⟩ (.cons rfl (.cons rfl (.cons rfl (.cons rfl (.cons rfl .nil))))) (by repeat (first | exact .refl | exact subL_left | refine subL_app ?_ | refine .drop ?_ | refine subL_add ?_))
                    · skip
                      have hge_k : (sgnF (ps ++ [(furP (pl.id + 1) z g)]) bs (A ++ [pl.id + 1])).length ≤ k := by have h := hc222; simp at h; omega
                      rw [take_all rfl hge_k] at hno
                      exact (res_some hRes hno).elim
end Go.Proofs.Ytccomeanpppfmaa
end
section
namespace Go.Proofs.Ytccomeanpppfmaa
open Go Go.Kn Go.Proofs
open Go.ChangeShapes Go.WideShapes Go.ChangeAt Go.RowKit
set_option maxRecDepth 100000
theorem ound_3 : Try.prog.underlying 3 = some (.int .i64) := by kernel_rfl
theorem ostr_33 : Try.prog.underlying 33 = some (.struct (Try.prog.fieldsOf 33)) := by kernel_rfl
theorem ostr_35 : Try.prog.underlying 35 = some (.struct (Try.prog.fieldsOf 35)) := by kernel_rfl
theorem ound_23 : Try.prog.underlying 23 = some (.slice 3) := by kernel_rfl
theorem ostr_37 : Try.prog.underlying 37 = some (.struct (Try.prog.fieldsOf 37)) := by kernel_rfl
theorem ound_22 : Try.prog.underlying 22 = some (.slice 37) := by kernel_rfl
theorem ound_39 : Try.prog.underlying 39 = some (.slice 35) := by kernel_rfl
theorem ound_5 : Try.prog.underlying 5 = some (.int .u8) := by kernel_rfl
theorem el_sg {H : Type} {enc : TypeId × Value → H} {W : World} (fuel : Nat) (cs : List Value) (x : DataW H × List MemPlace) (h : DataW.trod enc Try.prog W 0 (fun _ => true) true fuel 35 cs = some x) : ∃ y : Sg, (fun _ => True) y ∧ encG y = cs := by
  obtain ⟨hl, n0_, f0⟩ := trod_seg (C := 14) ostr_35 (by kernel_rfl) h
  match cs, hl with
  | [c0, c1, c2, c3, c4, c5, c6, c7, c8, c9, c10, c11, c12, c13], _ =>
    obtain ⟨_, g0_0⟩ := f0 0 3 0 1 (by kernel_rfl) (by kernel_rfl)
    obtain ⟨n0, e0, _, w0⟩ := DataW.trod_int ound_3 (show DataW.trod enc Try.prog W 0 (fun _ => true) true n0_ 3 [c0] = some _ from g0_0)
    obtain ⟨_, g0_1⟩ := f0 1 3 1 1 (by kernel_rfl) (by kernel_rfl)
    obtain ⟨n1, e1, _, w1⟩ := DataW.trod_int ound_3 (show DataW.trod enc Try.prog W 0 (fun _ => true) true n0_ 3 [c1] = some _ from g0_1)
    obtain ⟨_, g0_2⟩ := f0 2 3 2 1 (by kernel_rfl) (by kernel_rfl)
    obtain ⟨n2, e2, _, w2⟩ := DataW.trod_int ound_3 (show DataW.trod enc Try.prog W 0 (fun _ => true) true n0_ 3 [c2] = some _ from g0_2)
    obtain ⟨_, g0_3⟩ := f0 3 3 3 1 (by kernel_rfl) (by kernel_rfl)
    obtain ⟨n3, e3, _, w3⟩ := DataW.trod_int ound_3 (show DataW.trod enc Try.prog W 0 (fun _ => true) true n0_ 3 [c3] = some _ from g0_3)
    obtain ⟨_, g0_4⟩ := f0 4 3 4 1 (by kernel_rfl) (by kernel_rfl)
    obtain ⟨n4, e4, _, w4⟩ := DataW.trod_int ound_3 (show DataW.trod enc Try.prog W 0 (fun _ => true) true n0_ 3 [c4] = some _ from g0_4)
    obtain ⟨_, g0_5⟩ := f0 5 3 5 1 (by kernel_rfl) (by kernel_rfl)
    obtain ⟨n5, e5, _, w5⟩ := DataW.trod_int ound_3 (show DataW.trod enc Try.prog W 0 (fun _ => true) true n0_ 3 [c5] = some _ from g0_5)
    obtain ⟨_, g0_6⟩ := f0 6 3 6 1 (by kernel_rfl) (by kernel_rfl)
    obtain ⟨n6, e6, _, w6⟩ := DataW.trod_int ound_3 (show DataW.trod enc Try.prog W 0 (fun _ => true) true n0_ 3 [c6] = some _ from g0_6)
    obtain ⟨_, g0_7⟩ := f0 7 3 7 1 (by kernel_rfl) (by kernel_rfl)
    obtain ⟨n7, e7, _, w7⟩ := DataW.trod_int ound_3 (show DataW.trod enc Try.prog W 0 (fun _ => true) true n0_ 3 [c7] = some _ from g0_7)
    obtain ⟨_, g0_8⟩ := f0 8 3 8 1 (by kernel_rfl) (by kernel_rfl)
    obtain ⟨n8, e8, _, w8⟩ := DataW.trod_int ound_3 (show DataW.trod enc Try.prog W 0 (fun _ => true) true n0_ 3 [c8] = some _ from g0_8)
    obtain ⟨_, g0_9⟩ := f0 9 3 9 1 (by kernel_rfl) (by kernel_rfl)
    obtain ⟨n9, e9, _, w9⟩ := DataW.trod_int ound_3 (show DataW.trod enc Try.prog W 0 (fun _ => true) true n0_ 3 [c9] = some _ from g0_9)
    obtain ⟨_, g0_10⟩ := f0 10 33 10 2 (by kernel_rfl) (by kernel_rfl)
    obtain ⟨_, n1_, f1⟩ := trod_seg (C := 2) ostr_33 (by kernel_rfl) (show DataW.trod enc Try.prog W 0 (fun _ => true) true n0_ 33 [c10, c11] = some _ from g0_10)
    obtain ⟨_, g1_0⟩ := f1 0 3 0 1 (by kernel_rfl) (by kernel_rfl)
    obtain ⟨n10, e10, _, w10⟩ := DataW.trod_int ound_3 (show DataW.trod enc Try.prog W 0 (fun _ => true) true n1_ 3 [c10] = some _ from g1_0)
    obtain ⟨_, g1_1⟩ := f1 1 3 1 1 (by kernel_rfl) (by kernel_rfl)
    obtain ⟨n11, e11, _, w11⟩ := DataW.trod_int ound_3 (show DataW.trod enc Try.prog W 0 (fun _ => true) true n1_ 3 [c11] = some _ from g1_1)
    obtain ⟨_, g0_11⟩ := f0 11 33 12 2 (by kernel_rfl) (by kernel_rfl)
    obtain ⟨_, n2_, f2⟩ := trod_seg (C := 2) ostr_33 (by kernel_rfl) (show DataW.trod enc Try.prog W 0 (fun _ => true) true n0_ 33 [c12, c13] = some _ from g0_11)
    obtain ⟨_, g2_0⟩ := f2 0 3 0 1 (by kernel_rfl) (by kernel_rfl)
    obtain ⟨n12, e12, _, w12⟩ := DataW.trod_int ound_3 (show DataW.trod enc Try.prog W 0 (fun _ => true) true n2_ 3 [c12] = some _ from g2_0)
    obtain ⟨_, g2_1⟩ := f2 1 3 1 1 (by kernel_rfl) (by kernel_rfl)
    obtain ⟨n13, e13, _, w13⟩ := DataW.trod_int ound_3 (show DataW.trod enc Try.prog W 0 (fun _ => true) true n2_ 3 [c13] = some _ from g2_1)
    cases e0; cases e1; cases e2; cases e3; cases e4; cases e5; cases e6; cases e7; cases e8; cases e9; cases e10; cases e11; cases e12; cases e13
    exact ⟨⟨n0, n1, n2, n3, n4, n5, n6, n7, n8, n9, n10, n11, n12, n13⟩, trivial, rfl⟩
theorem el_pt {H : Type} {enc : TypeId × Value → H} {W : World} (fuel : Nat) (cs : List Value) (x : DataW H × List MemPlace) (h : DataW.trod enc Try.prog W 0 (fun _ => true) true fuel 37 cs = some x) : ∃ y : Pt, (fun p => Nd (heapI W) p) y ∧ encP y = cs := by
  obtain ⟨hl, n0_, f0⟩ := trod_seg (C := 19) ostr_37 (by kernel_rfl) h
  match cs, hl with
  | [c0, c1, c2, c3, c4, c5, c6, c7, c8, c9, c10, c11, c12, c13, c14, c15, c16, c17, c18], _ =>
    obtain ⟨_, g0_0⟩ := f0 0 3 0 1 (by kernel_rfl) (by kernel_rfl)
    obtain ⟨n0, e0, _, w0⟩ := DataW.trod_int ound_3 (show DataW.trod enc Try.prog W 0 (fun _ => true) true n0_ 3 [c0] = some _ from g0_0)
    obtain ⟨_, g0_1⟩ := f0 1 3 1 1 (by kernel_rfl) (by kernel_rfl)
    obtain ⟨n1, e1, _, w1⟩ := DataW.trod_int ound_3 (show DataW.trod enc Try.prog W 0 (fun _ => true) true n0_ 3 [c1] = some _ from g0_1)
    obtain ⟨_, g0_2⟩ := f0 2 3 2 1 (by kernel_rfl) (by kernel_rfl)
    obtain ⟨n2, e2, _, w2⟩ := DataW.trod_int ound_3 (show DataW.trod enc Try.prog W 0 (fun _ => true) true n0_ 3 [c2] = some _ from g0_2)
    obtain ⟨_, g0_3⟩ := f0 3 3 3 1 (by kernel_rfl) (by kernel_rfl)
    obtain ⟨n3, e3, _, w3⟩ := DataW.trod_int ound_3 (show DataW.trod enc Try.prog W 0 (fun _ => true) true n0_ 3 [c3] = some _ from g0_3)
    obtain ⟨_, g0_4⟩ := f0 4 35 4 14 (by kernel_rfl) (by kernel_rfl)
    obtain ⟨_, n1_, f1⟩ := trod_seg (C := 14) ostr_35 (by kernel_rfl) (show DataW.trod enc Try.prog W 0 (fun _ => true) true n0_ 35 [c4, c5, c6, c7, c8, c9, c10, c11, c12, c13, c14, c15, c16, c17] = some _ from g0_4)
    obtain ⟨_, g1_0⟩ := f1 0 3 0 1 (by kernel_rfl) (by kernel_rfl)
    obtain ⟨n4, e4, _, w4⟩ := DataW.trod_int ound_3 (show DataW.trod enc Try.prog W 0 (fun _ => true) true n1_ 3 [c4] = some _ from g1_0)
    obtain ⟨_, g1_1⟩ := f1 1 3 1 1 (by kernel_rfl) (by kernel_rfl)
    obtain ⟨n5, e5, _, w5⟩ := DataW.trod_int ound_3 (show DataW.trod enc Try.prog W 0 (fun _ => true) true n1_ 3 [c5] = some _ from g1_1)
    obtain ⟨_, g1_2⟩ := f1 2 3 2 1 (by kernel_rfl) (by kernel_rfl)
    obtain ⟨n6, e6, _, w6⟩ := DataW.trod_int ound_3 (show DataW.trod enc Try.prog W 0 (fun _ => true) true n1_ 3 [c6] = some _ from g1_2)
    obtain ⟨_, g1_3⟩ := f1 3 3 3 1 (by kernel_rfl) (by kernel_rfl)
    obtain ⟨n7, e7, _, w7⟩ := DataW.trod_int ound_3 (show DataW.trod enc Try.prog W 0 (fun _ => true) true n1_ 3 [c7] = some _ from g1_3)
    obtain ⟨_, g1_4⟩ := f1 4 3 4 1 (by kernel_rfl) (by kernel_rfl)
    obtain ⟨n8, e8, _, w8⟩ := DataW.trod_int ound_3 (show DataW.trod enc Try.prog W 0 (fun _ => true) true n1_ 3 [c8] = some _ from g1_4)
    obtain ⟨_, g1_5⟩ := f1 5 3 5 1 (by kernel_rfl) (by kernel_rfl)
    obtain ⟨n9, e9, _, w9⟩ := DataW.trod_int ound_3 (show DataW.trod enc Try.prog W 0 (fun _ => true) true n1_ 3 [c9] = some _ from g1_5)
    obtain ⟨_, g1_6⟩ := f1 6 3 6 1 (by kernel_rfl) (by kernel_rfl)
    obtain ⟨n10, e10, _, w10⟩ := DataW.trod_int ound_3 (show DataW.trod enc Try.prog W 0 (fun _ => true) true n1_ 3 [c10] = some _ from g1_6)
    obtain ⟨_, g1_7⟩ := f1 7 3 7 1 (by kernel_rfl) (by kernel_rfl)
    obtain ⟨n11, e11, _, w11⟩ := DataW.trod_int ound_3 (show DataW.trod enc Try.prog W 0 (fun _ => true) true n1_ 3 [c11] = some _ from g1_7)
    obtain ⟨_, g1_8⟩ := f1 8 3 8 1 (by kernel_rfl) (by kernel_rfl)
    obtain ⟨n12, e12, _, w12⟩ := DataW.trod_int ound_3 (show DataW.trod enc Try.prog W 0 (fun _ => true) true n1_ 3 [c12] = some _ from g1_8)
    obtain ⟨_, g1_9⟩ := f1 9 3 9 1 (by kernel_rfl) (by kernel_rfl)
    obtain ⟨n13, e13, _, w13⟩ := DataW.trod_int ound_3 (show DataW.trod enc Try.prog W 0 (fun _ => true) true n1_ 3 [c13] = some _ from g1_9)
    obtain ⟨_, g1_10⟩ := f1 10 33 10 2 (by kernel_rfl) (by kernel_rfl)
    obtain ⟨_, n2_, f2⟩ := trod_seg (C := 2) ostr_33 (by kernel_rfl) (show DataW.trod enc Try.prog W 0 (fun _ => true) true n1_ 33 [c14, c15] = some _ from g1_10)
    obtain ⟨_, g2_0⟩ := f2 0 3 0 1 (by kernel_rfl) (by kernel_rfl)
    obtain ⟨n14, e14, _, w14⟩ := DataW.trod_int ound_3 (show DataW.trod enc Try.prog W 0 (fun _ => true) true n2_ 3 [c14] = some _ from g2_0)
    obtain ⟨_, g2_1⟩ := f2 1 3 1 1 (by kernel_rfl) (by kernel_rfl)
    obtain ⟨n15, e15, _, w15⟩ := DataW.trod_int ound_3 (show DataW.trod enc Try.prog W 0 (fun _ => true) true n2_ 3 [c15] = some _ from g2_1)
    obtain ⟨_, g1_11⟩ := f1 11 33 12 2 (by kernel_rfl) (by kernel_rfl)
    obtain ⟨_, n3_, f3⟩ := trod_seg (C := 2) ostr_33 (by kernel_rfl) (show DataW.trod enc Try.prog W 0 (fun _ => true) true n1_ 33 [c16, c17] = some _ from g1_11)
    obtain ⟨_, g3_0⟩ := f3 0 3 0 1 (by kernel_rfl) (by kernel_rfl)
    obtain ⟨n16, e16, _, w16⟩ := DataW.trod_int ound_3 (show DataW.trod enc Try.prog W 0 (fun _ => true) true n3_ 3 [c16] = some _ from g3_0)
    obtain ⟨_, g3_1⟩ := f3 1 3 1 1 (by kernel_rfl) (by kernel_rfl)
    obtain ⟨n17, e17, _, w17⟩ := DataW.trod_int ound_3 (show DataW.trod enc Try.prog W 0 (fun _ => true) true n3_ 3 [c17] = some _ from g3_1)
    obtain ⟨_, g0_5⟩ := f0 5 23 18 1 (by kernel_rfl) (by kernel_rfl)
    obtain ⟨a18, m18, q18, n18, e18, s18, o18, _⟩ := open_SlT (t := 23) (e := 3) encI (fun n : Int => -9223372036854775808 ≤ n ∧ n ≤ 9223372036854775807) ound_23 (by kernel_rfl) (by decide) encI_len (fun fuel cs x h => el_int ound_3 rfl fuel cs x h) (show DataW.trod enc Try.prog W 0 (fun _ => true) true n0_ 23 [c18] = some _ from g0_5)
    cases e0; cases e1; cases e2; cases e3; cases e4; cases e5; cases e6; cases e7; cases e8; cases e9; cases e10; cases e11; cases e12; cases e13; cases e14; cases e15; cases e16; cases e17; cases e18
    exact ⟨⟨n0, n1, n2, n3, ⟨n4, n5, n6, n7, n8, n9, n10, n11, n12, n13, n14, n15, n16, n17⟩, a18, m18, q18, n18⟩, s18, rfl⟩
theorem open_ps {H : Type} {enc : TypeId × Value → H} {W : World} {base : Nat} {v : Value} {d : DataW H} {p : List MemPlace} (hv : Value.okWide Try.prog W .any base 22 v) (h : DataW.Trod enc Try.prog W 0 (fun _ => true) true 22 v d p) :
    ∃ av n c xs, v = .slice av n c ∧ SlP (heapI W) av n c xs := by
  obtain ⟨av, n, c, xs, e, hS, hok, _⟩ := open_Sl (e := 37) encP (fun p => Nd (heapI W) p) ound_22 (by kernel_rfl) (by decide) encP_len (fun fuel cs x h => el_pt fuel cs x h) hv h
  exact ⟨av, n, c, xs, e, ⟨hS, hok⟩⟩
theorem open_sgs {H : Type} {enc : TypeId × Value → H} {W : World} {base : Nat} {v : Value} {d : DataW H} {p : List MemPlace} (hv : Value.okWide Try.prog W .any base 39 v) (h : DataW.Trod enc Try.prog W 0 (fun _ => true) true 39 v d p) :
    ∃ av n c xs, v = .slice av n c ∧ Sl (heapI W) 14 encG av n c xs := by
  obtain ⟨av, n, c, xs, e, hS, hok, _⟩ := open_Sl (e := 35) encG (fun _ => True) ound_39 (by kernel_rfl) (by decide) encG_len (fun fuel cs x h => el_sg fuel cs x h) hv h
  exact ⟨av, n, c, xs, e, hS⟩
theorem open_ints {H : Type} {enc : TypeId × Value → H} {W : World} {base : Nat} {v : Value} {d : DataW H} {p : List MemPlace} (hv : Value.okWide Try.prog W .any base 23 v) (h : DataW.Trod enc Try.prog W 0 (fun _ => true) true 23 v d p) :
    ∃ av n c xs, v = .slice av n c ∧ Sl (heapI W) 1 encI av n c xs := by
  obtain ⟨av, n, c, xs, e, hS, hok, _⟩ := open_Sl (e := 3) encI (fun n : Int => -9223372036854775808 ≤ n ∧ n ≤ 9223372036854775807) ound_23 (by kernel_rfl) (by decide) encI_len (fun fuel cs x h => el_int ound_3 rfl fuel cs x h) hv h
  exact ⟨av, n, c, xs, e, hS⟩
theorem wf_u8 {n : Int} (h : (Lit.int .u8 n).wf = true) : 0 ≤ n ∧ n ≤ 255 := by
  simp only [Lit.wf, Bool.and_eq_true, decide_eq_true_eq] at h
  exact h
end Go.Proofs.Ytccomeanpppfmaa
end
section
namespace Go.Proofs.Ytccomeanpppfmaa
open Go Go.Kn Go.Proofs
open Go.ChangeShapes Go.WideShapes Go.ChangeAt Go.RowKit
theorem own : ownKnob Try.prog.godebug = none := by kernel_rfl
theorem laidOut : laidOutB Try.prog = true := by kernel_rfl
set_option maxRecDepth 100000 in
theorem roomsResolved_lifted (os : Os) (started : os.Started) (H : Type) (enc : TypeId × Value → H) :
    ReturnsInHanded {} Try.checked os 4 .any (Rows.roomsResolvedSpec.pre6 enc Try.prog Try.f4 Rows.roomsResolvedRow.domain false) (Rows.roomsResolvedSpec.post enc Try.prog Try.f4 false true false false) := by
  refine returnsInHanded_of_change (C := Try.checked) own started (by kernel_rfl) Try.func4
    (ChangeSpec.witness6 (enc := enc) (C := Try.checked) false ⟨#[], #[.slice none 0 0, .slice none 0 0, .slice none 0 0, .int .u8 0, .int .u8 0], []⟩ 8 (by kernel_rfl) (by kernel_rfl) (by kernel_rfl) (by kernel_rfl)) ?_
  intro W base args ds gs before hval0 hW hcnd _
  have hval : ∀ (j : Nat) t v, Try.f4.params[j]? = some t → args[j]? = some v → Value.okWide Try.prog W .any base t v := hval0
  have hW' := hW
  obtain ⟨p, q, hA0, hV, rfl, hfz, hnd⟩ := hW
  have hA : DataW.TrodAll enc Try.prog W 0 (fun _ => true) true Try.f4.params.toList args.toList ds p := hA0
  rw [Try.params4] at hA hval
  obtain ⟨v0, vs1, d0, ds1, p0, q1, ea, rfl, rfl, h0, hA⟩ := trodAll_cons hA
  obtain ⟨v1, vs2, d1, ds2, p1, q2, rfl, rfl, rfl, h1, hA⟩ := trodAll_cons hA
  obtain ⟨v2, vs3, d2, ds3, p2, q3, rfl, rfl, rfl, h2, hA⟩ := trodAll_cons hA
  obtain ⟨v3, vs4, d3, ds4, p3, q4, rfl, rfl, rfl, h3, hA⟩ := trodAll_cons hA
  obtain ⟨v4, vs5, d4, ds5, p4, q5, rfl, rfl, rfl, h4, hA⟩ := trodAll_cons hA
  obtain ⟨rfl, rfl, rfl⟩ := trodAll_nil hA
  have ea' : args = #[v0, v1, v2, v3, v4] := by rw [← Array.toArray_toList (xs := args), ea]
  subst ea'
  obtain ⟨rfl, rfl⟩ := trodVars_none hV
  obtain ⟨av, n, c, ps, rfl, hP⟩ := open_ps (hval 0 22 v0 rfl rfl) h0
  obtain ⟨bv, n2, c2, bs, rfl, hB⟩ := open_sgs (hval 1 39 v1 rfl rfl) h1
  obtain ⟨dv, n3, c3, ys, rfl, hT⟩ := open_ints (hval 2 23 v2 rfl rfl) h2
  obtain ⟨wh, rfl, _, _, wfwh⟩ := open_int ound_5 (hval 3 5 v3 rfl rfl) h3
  have hwh := wf_u8 wfwh
  obtain ⟨va, rfl, _, _, wfva⟩ := open_int ound_5 (hval 4 5 v4 rfl rfl) h4
  have hva := wf_u8 wfva
  refine (RetV.law (w_resLaw hP hB hT hwh hva)).mono fun e W' ⟨he, hB⟩ => ?_
  subst he
  exact ⟨_, rfl, post_law laidOut (by kernel_rfl) und_4 rfl rfl (by rw [Try.params4]; simp only [List.mem_cons, List.not_mem_nil, or_false, forall_eq_or_imp, forall_eq]; exact ⟨⟨by kernel_rfl, of_decide_eq_true (by kernel_rfl)⟩, ⟨by kernel_rfl, of_decide_eq_true (by kernel_rfl)⟩, ⟨by kernel_rfl, of_decide_eq_true (by kernel_rfl)⟩, ⟨by kernel_rfl, of_decide_eq_true (by kernel_rfl)⟩, ⟨by kernel_rfl, of_decide_eq_true (by kernel_rfl)⟩⟩) hW' hB⟩
theorem roomsResolved_holds : Rows.RoomsResolvedSaid :=
  OpenClaim.holds_of_wide 4 Try.f4 rfl rfl rfl rfl rfl rfl rfl ⟨rfl, rfl, rfl, rfl, rfl⟩ rfl rfl rfl rfl rfl (by kernel_rfl) Try.func4 (by kernel_rfl)
    (of_decide_eq_true (by kernel_rfl)) (by unfold Func.isWrapper; first | (rw [if_pos (by decide +kernel)]; kernel_rfl) | (rw [if_neg (by decide +kernel)]; exact ⟨rfl, rfl⟩))
    (fun os started H enc _ => roomsResolved_lifted os started H enc)
#print axioms roomsResolved_holds
end Go.Proofs.Ytccomeanpppfmaa
end
