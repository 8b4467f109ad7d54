/- roomsSpec_holds, part F of the proof: what its theorems say holds without further conditions. -/
import Derived.Test.YtccomeanpppfmaaGreatSpecE
section
namespace Go.Proofs.YtccomeanpppfmaaGreat
open Go Go.Kn Go.Proofs
theorem key_next {xs ys : List Cf} {k : Nat} {x y : Cf} (hx : xs[k]? = some x) (hy : ys[k]? = some y) (he : (xs.take k).map Cf.key = (ys.take k).map Cf.key) (h : x.key = y.key) : (xs.take (k + 1)).map Cf.key = (ys.take (k + 1)).map Cf.key := by
  rw [take_snoc hx, take_snoc hy, List.map_append, List.map_append, he]; simp [h]
theorem key_ne {xs ys : List Cf} {k : Nat} {x y : Cf} (hx : xs[k]? = some x) (hy : ys[k]? = some y) (h : x.key ≠ y.key) : sameF (xs.map Cf.key) (ys.map Cf.key) = false := same_ne (k := k) (x := x.key) (y := y.key) (by simp [hx]) (by simp [hy]) h
theorem w_sameI {I : HMap} {av : Option Addr} {n c : Nat} {xs : List Int} (hS : Sl I 1 encI av n c xs) (hn : n ≤ 100000) {bv : Option Addr} {n2 c2 : Nat} {ys : List Int} (hT : Sl I 1 encI bv n2 c2 ys) : RetV Tryz.prog 14 [.slice av n c, .slice bv n2 c2] I (.bool (sameF xs ys)) := by
  intro g H w hw
  refine enter Tryz.func14 rfl Tryz.ntmps14 rfl hw ?_
  refine X_seq ?_
  refine X_region ?_
  refine XO_v0 (ev_assign rfl) rfl rfl rfl ?_
  refine XO_nil ?_
  refine at_then ?_
  refine X_seq ?_
  refine X_seq ?_
  refine X_region ?_
  refine XO_v0 (ev_move rfl) rfl rfl rfl ?_
  refine XO_v0 (ev_lenS rfl slt_23) rfl rfl rfl ?_
  refine XO_v0 (ev_move rfl) rfl rfl rfl ?_
  refine XO_v0 (ev_lenS rfl slt_23) rfl rfl rfl ?_
  refine XO_v0 (ev_cmp rfl rfl rfl) rfl rfl rfl ?_
  refine XO_nil ?_
  refine at_then ?_
  refine X_cond rfl (fun hc10 => ?_) (fun hc10 => ?_)
  · skip
    refine X_seq ?_
    refine X_region ?_
    refine XO_v0 (ev_assign rfl) rfl rfl rfl ?_
    refine XO_nil ?_
    refine at_then ?_
    refine X_ret ?_
    refine at_then_r ?_
    first
    | exact at_ret1 rfl rfl (fun w hw => ⟨by rw [same_len hS.len hT.len (by simp at hc10; omega)], hw.drop⟩)
    | exact at_ret1 rfl rfl (fun w hw => ⟨by rw [same_ne hx hy (by simpa using hc25)], hw.drop⟩)
    | exact at_ret1 rfl rfl (fun w hw => ⟨by rw [take_all hS.len (by omega), take_all hT.len (by omega)] at he; rw [he, same_self], hw.drop⟩)
  · skip
    have hnn : n = n2 := by simp at hc10; omega
    refine X_skip ?_
    refine at_then ?_
    refine X_seq ?_
    refine X_seq ?_
    refine X_region ?_
    refine XO_v0 (ev_assign rfl) rfl rfl rfl ?_
    refine XO_nil ?_
    refine at_then ?_
    refine X_block ?_
    refine X_loopT [(0, _), (1, _)] (.cons rfl (.cons rfl .nil)) (fun T L0 mz E I' loc' => ∃ (k : Nat), mz = n - k ∧ E = (5, .int .i64 k) :: T ∧ I = I' ∧ L0 = loc' ∧ k ≤ n ∧ xs.take k = ys.take k) _ _ _ _ ⟨0, rfl, rfl, rfl, rfl, Nat.zero_le _, rfl⟩ (.cons rfl (.cons rfl (.cons rfl .nil))) (HLe.refl _) rfl ?_
    rintro mz E I' loc' ⟨k, rfl, rfl, rfl, rfl, hk, he⟩
    refine X_seq ?_
    refine X_seq ?_
    refine X_region ?_
    refine XO_v0 (ev_move rfl) rfl rfl rfl ?_
    refine XO_v0 (ev_move rfl) rfl rfl rfl ?_
    refine XO_v0 (ev_lenS rfl slt_23) rfl rfl rfl ?_
    refine XO_v0 (ev_cmp rfl rfl rfl) rfl rfl rfl ?_
    refine XO_nil ?_
    refine at_then ?_
    refine X_cond rfl (fun hc14 => ?_) (fun hc14 => ?_)
    · skip
      have hlt_k : k < n := by have h := hc14; simp at h; omega
      obtain ⟨x, hx⟩ := hS.at hlt_k
      obtain ⟨y, hy⟩ := hT.at (show k < n2 by omega)
      refine X_skip ?_
      refine at_then ?_
      refine X_seq ?_
      refine X_block ?_
      refine X_seq ?_
      refine X_draw mixed (by kernel_rfl) ?_
      refine XQ_v0 (ev_move rfl) rfl rfl rfl ?_
      refine XQ_v0 (ev_move rfl) rfl rfl rfl ?_
      refine XQ_v0 (ev_indexSl rfl rfl slt_23 (by assumption) (fun hg => by first | omega | (simp [conj] at hg; omega))) rfl rfl rfl ?_
      refine XQ_v0 (ev_load rfl sct_3 (fun hg => by first | exact Sl.get0 hS hx rfl | exact Sl.get0 hT hy rfl | exact Cell.h0 rfl | exact Cell.h1 rfl | exact Cell.h2 rfl | exact Cell.h3 rfl | exact Cell.h4 rfl | exact Cell.h5 rfl | (repeat (first | exact Cell.here rfl | apply Cell.there | apply Cell.app)))) rfl rfl rfl ?_
      refine XQ_v0 (ev_move rfl) rfl rfl rfl ?_
      refine XQ_v0 (ev_move rfl) rfl rfl rfl ?_
      refine XQ_v0 (ev_indexSl rfl rfl slt_23 (by assumption) (fun hg => by first | omega | (simp [conj] at hg; omega))) rfl rfl rfl ?_
      refine XQ_v0 (ev_load rfl sct_3 (fun hg => by first | exact Sl.get0 hS hx rfl | exact Sl.get0 hT hy rfl | exact Cell.h0 rfl | exact Cell.h1 rfl | exact Cell.h2 rfl | exact Cell.h3 rfl | exact Cell.h4 rfl | exact Cell.h5 rfl | (repeat (first | exact Cell.here rfl | apply Cell.there | apply Cell.app)))) rfl rfl rfl ?_
      refine XQ_v0 (ev_cmp rfl rfl rfl) rfl rfl rfl ?_
      refine XQ_nil ?_
      refine at_then ?_
      refine X_cond rfl (fun hc25 => ?_) (fun hc25 => ?_)
      · skip
        refine X_seq ?_
        refine X_region ?_
        refine XO_v0 (ev_assign rfl) rfl rfl rfl ?_
        refine XO_nil ?_
        refine at_then ?_
        refine X_ret ?_
        refine at_block_r ?_
        refine at_then_r ?_
        refine at_then_r ?_
        refine at_block_r ?_
        refine at_then_r ?_
        first
        | exact at_ret1 rfl rfl (fun w hw => ⟨by rw [same_len hS.len hT.len (by simp at hc10; omega)], hw.drop⟩)
        | exact at_ret1 rfl rfl (fun w hw => ⟨by rw [same_ne hx hy (by simpa using hc25)], hw.drop⟩)
        | exact at_ret1 rfl rfl (fun w hw => ⟨by rw [take_all hS.len (by omega), take_all hT.len (by omega)] at he; rw [he, same_self], hw.drop⟩)
      · skip
        refine X_skip ?_
        refine at_block_n ?_
        refine at_then ?_
        refine X_region ?_
        refine XO_v0 (ev_move rfl) rfl rfl rfl ?_
        refine XO_v0 (ev_arB rfl rfl rfl (fun _ => by omega)) rfl rfl rfl ?_
        refine XO_v0 (ev_assign rfl) rfl rfl rfl ?_
        refine XO_nil ?_
        exact at_met2 _ _ ⟨n - (k + 1), by omega, k + 1, rfl, rfl, rfl, rfl, by omega, take_next hx hy he (by simpa using hc25)⟩ (.cons rfl (.cons rfl (.cons rfl .nil))) (by repeat (first | exact .refl | exact subL_left | refine subL_app ?_ | refine .drop ?_ | refine subL_add ?_))
    · skip
      have hge_k : n ≤ k := by have h := hc14; simp at h; omega
      refine X_exit ?_
      refine at_then_e ?_
      refine at_then_e ?_
      refine at_block_hit ?_
      refine at_then ?_
      refine X_seq ?_
      refine X_region ?_
      refine XO_v0 (ev_assign rfl) rfl rfl rfl ?_
      refine XO_nil ?_
      refine at_then ?_
      refine X_ret ?_
      first
      | exact at_ret1 rfl rfl (fun w hw => ⟨by rw [same_len hS.len hT.len (by simp at hc10; omega)], hw.drop⟩)
      | exact at_ret1 rfl rfl (fun w hw => ⟨by rw [same_ne hx hy (by simpa using hc25)], hw.drop⟩)
      | exact at_ret1 rfl rfl (fun w hw => ⟨by rw [take_all hS.len (by omega), take_all hT.len (by omega)] at he; rw [he, same_self], hw.drop⟩)
theorem w_sameG {I : HMap} {av : Option Addr} {n c : Nat} {xs : List Sg} (hS : Sl I 14 encG av n c xs) (hn : n ≤ 100000) {bv : Option Addr} {n2 c2 : Nat} {ys : List Sg} (hT : Sl I 14 encG bv n2 c2 ys) : RetV Tryz.prog 19 [.slice av n c, .slice bv n2 c2] I (.bool (sameF xs ys)) := by
  intro g H w hw
  refine enter Tryz.func19 rfl Tryz.ntmps19 rfl hw ?_
  refine X_seq ?_
  refine X_region ?_
  refine XO_v0 (ev_assign rfl) rfl rfl rfl ?_
  refine XO_nil ?_
  refine at_then ?_
  refine X_seq ?_
  refine X_seq ?_
  refine X_region ?_
  refine XO_v0 (ev_move rfl) rfl rfl rfl ?_
  refine XO_v0 (ev_lenS rfl slt_33) rfl rfl rfl ?_
  refine XO_v0 (ev_move rfl) rfl rfl rfl ?_
  refine XO_v0 (ev_lenS rfl slt_33) rfl rfl rfl ?_
  refine XO_v0 (ev_cmp rfl rfl rfl) rfl rfl rfl ?_
  refine XO_nil ?_
  refine at_then ?_
  refine X_cond rfl (fun hc10 => ?_) (fun hc10 => ?_)
  · skip
    refine X_seq ?_
    refine X_region ?_
    refine XO_v0 (ev_assign rfl) rfl rfl rfl ?_
    refine XO_nil ?_
    refine at_then ?_
    refine X_ret ?_
    refine at_then_r ?_
    first
    | exact at_ret1 rfl rfl (fun w hw => ⟨by rw [same_len hS.len hT.len (by simp at hc10; omega)], hw.drop⟩)
    | exact at_ret1 rfl rfl (fun w hw => ⟨by rw [same_ne hx hy (sgEq_no ((Bool.not_eq_true' _).mp hc25))], hw.drop⟩)
    | exact at_ret1 rfl rfl (fun w hw => ⟨by rw [take_all hS.len (by omega), take_all hT.len (by omega)] at he; rw [he, same_self], hw.drop⟩)
  · skip
    have hnn : n = n2 := by simp at hc10; omega
    refine X_skip ?_
    refine at_then ?_
    refine X_seq ?_
    refine X_seq ?_
    refine X_region ?_
    refine XO_v0 (ev_assign rfl) rfl rfl rfl ?_
    refine XO_nil ?_
    refine at_then ?_
    refine X_block ?_
    refine X_loopT [(0, _), (1, _)] (.cons rfl (.cons rfl .nil)) (fun T L0 mz E I' loc' => ∃ (k : Nat), mz = n - k ∧ E = (5, .int .i64 k) :: T ∧ I = I' ∧ L0 = loc' ∧ k ≤ n ∧ xs.take k = ys.take k) _ _ _ _ ⟨0, rfl, rfl, rfl, rfl, Nat.zero_le _, rfl⟩ (.cons rfl (.cons rfl (.cons rfl .nil))) (HLe.refl _) rfl ?_
    rintro mz E I' loc' ⟨k, rfl, rfl, rfl, rfl, hk, he⟩
    refine X_seq ?_
    refine X_seq ?_
    refine X_region ?_
    refine XO_v0 (ev_move rfl) rfl rfl rfl ?_
    refine XO_v0 (ev_move rfl) rfl rfl rfl ?_
    refine XO_v0 (ev_lenS rfl slt_33) rfl rfl rfl ?_
    refine XO_v0 (ev_cmp rfl rfl rfl) rfl rfl rfl ?_
    refine XO_nil ?_
    refine at_then ?_
    refine X_cond rfl (fun hc14 => ?_) (fun hc14 => ?_)
    · skip
      have hlt_k : k < n := by have h := hc14; simp at h; omega
      obtain ⟨x, hx⟩ := hS.at hlt_k
      obtain ⟨y, hy⟩ := hT.at (show k < n2 by omega)
      refine X_skip ?_
      refine at_then ?_
      refine X_seq ?_
      refine X_block ?_
      refine X_seq ?_
      refine X_draw mixed (by kernel_rfl) ?_
      refine XQ_v0 (ev_move rfl) rfl rfl rfl ?_
      refine XQ_v0 (ev_move rfl) rfl rfl rfl ?_
      refine XQ_v0 (ev_indexSl rfl rfl slt_33 (by assumption) (fun hg => by first | omega | (simp [conj] at hg; omega))) rfl rfl rfl ?_
      refine XQ_v0 (ev_loadA rfl agt_45 (fun hg => by first | exact Sl.getA hS hx | exact Sl.getA hT hy | exact Cells.g0 | exact Cells.g1 | exact Cells.g2 | exact Cells.g3 | exact Cells.g4 | exact Cells.g5 | exact Cells.s0 (vs := [_, _, _, _, _, _, _, _, _, _, _, _, _, _]) rfl | exact Cells.s1 (vs := [_, _, _, _, _, _, _, _, _, _, _, _, _, _]) rfl | exact Cells.s2 (vs := [_, _, _, _, _, _, _, _, _, _, _, _, _, _]) rfl | exact Cells.s3 (vs := [_, _, _, _, _, _, _, _, _, _, _, _, _, _]) rfl | exact Cells.s4 (vs := [_, _, _, _, _, _, _, _, _, _, _, _, _, _]) rfl | exact Cells.s5 (vs := [_, _, _, _, _, _, _, _, _, _, _, _, _, _]) rfl | (repeat (first | exact Cells.here | apply Cells.there | apply Cells.app))) rfl) rfl rfl rfl ?_
      refine XQ_v0 (ev_move rfl) rfl rfl rfl ?_
      refine XQ_v0 (ev_move rfl) rfl rfl rfl ?_
      refine XQ_v0 (ev_indexSl rfl rfl slt_33 (by assumption) (fun hg => by first | omega | (simp [conj] at hg; omega))) rfl rfl rfl ?_
      refine XQ_v0 (ev_loadA rfl agt_45 (fun hg => by first | exact Sl.getA hS hx | exact Sl.getA hT hy | exact Cells.g0 | exact Cells.g1 | exact Cells.g2 | exact Cells.g3 | exact Cells.g4 | exact Cells.g5 | exact Cells.s0 (vs := [_, _, _, _, _, _, _, _, _, _, _, _, _, _]) rfl | exact Cells.s1 (vs := [_, _, _, _, _, _, _, _, _, _, _, _, _, _]) rfl | exact Cells.s2 (vs := [_, _, _, _, _, _, _, _, _, _, _, _, _, _]) rfl | exact Cells.s3 (vs := [_, _, _, _, _, _, _, _, _, _, _, _, _, _]) rfl | exact Cells.s4 (vs := [_, _, _, _, _, _, _, _, _, _, _, _, _, _]) rfl | exact Cells.s5 (vs := [_, _, _, _, _, _, _, _, _, _, _, _, _, _]) rfl | (repeat (first | exact Cells.here | apply Cells.there | apply Cells.app))) rfl) rfl rfl rfl ?_
      refine XQ_v0 (ev_neS2 rfl rfl eqt2_45 rfl) rfl rfl rfl ?_
      refine XQ_nil ?_
      refine at_then ?_
      refine X_cond rfl (fun hc25 => ?_) (fun hc25 => ?_)
      · skip
        refine X_seq ?_
        refine X_region ?_
        refine XO_v0 (ev_assign rfl) rfl rfl rfl ?_
        refine XO_nil ?_
        refine at_then ?_
        refine X_ret ?_
        refine at_block_r ?_
        refine at_then_r ?_
        refine at_then_r ?_
        refine at_block_r ?_
        refine at_then_r ?_
        first
        | exact at_ret1 rfl rfl (fun w hw => ⟨by rw [same_len hS.len hT.len (by simp at hc10; omega)], hw.drop⟩)
        | exact at_ret1 rfl rfl (fun w hw => ⟨by rw [same_ne hx hy (sgEq_no ((Bool.not_eq_true' _).mp hc25))], hw.drop⟩)
        | exact at_ret1 rfl rfl (fun w hw => ⟨by rw [take_all hS.len (by omega), take_all hT.len (by omega)] at he; rw [he, same_self], hw.drop⟩)
      · skip
        refine X_skip ?_
        refine at_block_n ?_
        refine at_then ?_
        refine X_region ?_
        refine XO_v0 (ev_move rfl) rfl rfl rfl ?_
        refine XO_v0 (ev_arB rfl rfl rfl (fun _ => by omega)) rfl rfl rfl ?_
        refine XO_v0 (ev_assign rfl) rfl rfl rfl ?_
        refine XO_nil ?_
        exact at_met2 _ _ ⟨n - (k + 1), by omega, k + 1, rfl, rfl, rfl, rfl, by omega, take_next hx hy he (sgEq_iff.1 ((Bool.not_eq_false' _).mp hc25))⟩ (.cons rfl (.cons rfl (.cons rfl .nil))) (by repeat (first | exact .refl | exact subL_left | refine subL_app ?_ | refine .drop ?_ | refine subL_add ?_))
    · skip
      have hge_k : n ≤ k := by have h := hc14; simp at h; omega
      refine X_exit ?_
      refine at_then_e ?_
      refine at_then_e ?_
      refine at_block_hit ?_
      refine at_then ?_
      refine X_seq ?_
      refine X_region ?_
      refine XO_v0 (ev_assign rfl) rfl rfl rfl ?_
      refine XO_nil ?_
      refine at_then ?_
      refine X_ret ?_
      first
      | exact at_ret1 rfl rfl (fun w hw => ⟨by rw [same_len hS.len hT.len (by simp at hc10; omega)], hw.drop⟩)
      | exact at_ret1 rfl rfl (fun w hw => ⟨by rw [same_ne hx hy (sgEq_no ((Bool.not_eq_true' _).mp hc25))], hw.drop⟩)
      | exact at_ret1 rfl rfl (fun w hw => ⟨by rw [take_all hS.len (by omega), take_all hT.len (by omega)] at he; rw [he, same_self], hw.drop⟩)
theorem w_sameC {I : HMap} {av : Option Addr} {n c : Nat} {cs : List Cf} (hC : SlC I av n c cs) (hn : n ≤ 100000) {bv : Option Addr} {n2 c2 : Nat} {ds : List Cf} (hD : SlC I bv n2 c2 ds) (hcn : ∀ z ∈ cs, z.n ≤ 100000) : RetV Tryz.prog 20 [.slice av n c, .slice bv n2 c2] I (.bool (sameF (cs.map Cf.key) (ds.map Cf.key))) := by
  intro g H w hw
  refine enter Tryz.func20 rfl Tryz.ntmps20 rfl hw ?_
  have hS := hC.1
  have hT := hD.1
  refine X_seq ?_
  refine X_region ?_
  refine XO_v0 (ev_assign rfl) rfl rfl rfl ?_
  refine XO_nil ?_
  refine at_then ?_
  refine X_seq ?_
  refine X_seq ?_
  refine X_region ?_
  refine XO_v0 (ev_move rfl) rfl rfl rfl ?_
  refine XO_v0 (ev_lenS rfl slt_36) rfl rfl rfl ?_
  refine XO_v0 (ev_move rfl) rfl rfl rfl ?_
  refine XO_v0 (ev_lenS rfl slt_36) rfl rfl rfl ?_
  refine XO_v0 (ev_cmp rfl rfl rfl) rfl rfl rfl ?_
  refine XO_nil ?_
  refine at_then ?_
  refine X_cond rfl (fun hc10 => ?_) (fun hc10 => ?_)
  · skip
    refine X_seq ?_
    refine X_region ?_
    refine XO_v0 (ev_assign rfl) rfl rfl rfl ?_
    refine XO_nil ?_
    refine at_then ?_
    refine X_ret ?_
    refine at_then_r ?_
    first
    | exact at_ret1 rfl rfl (fun w hw => ⟨by rw [same_len (n := n) (m := n2) (by rw [List.length_map, hS.len]) (by rw [List.length_map, hT.len]) (by simp at hc10; omega)], hw.drop⟩)
    | exact at_ret1 rfl rfl (fun w hw => ⟨by rw [key_ne hx hy (fun e => by unfold Cf.key at e; rw [Prod.mk.injEq, Prod.mk.injEq] at e; rw [e.1, e.2.1, e.2.2, same_self] at hc54; simp at hc54)], hw.drop⟩)
    | exact at_ret1 rfl rfl (fun w hw => ⟨by rw [take_all hS.len (by omega), take_all hT.len (by omega)] at he; rw [he, same_self], hw.drop⟩)
  · skip
    have hnn : n = n2 := by simp at hc10; omega
    refine X_skip ?_
    refine at_then ?_
    refine X_seq ?_
    refine X_seq ?_
    refine X_region ?_
    refine XO_v0 (ev_assign rfl) rfl rfl rfl ?_
    refine XO_nil ?_
    refine at_then ?_
    refine X_block ?_
    refine X_loopT [(0, _), (1, _)] (.cons rfl (.cons rfl .nil)) (fun T L0 mz E I' loc' => ∃ (k : Nat), mz = n - k ∧ E = (5, .int .i64 k) :: T ∧ I = I' ∧ L0 = loc' ∧ k ≤ n ∧ (cs.take k).map Cf.key = (ds.take k).map Cf.key) _ _ _ _ ⟨0, rfl, rfl, rfl, rfl, Nat.zero_le _, rfl⟩ (.cons rfl (.cons rfl (.cons rfl .nil))) (HLe.refl _) rfl ?_
    rintro mz E I' loc' ⟨k, rfl, rfl, rfl, rfl, hk, he⟩
    refine X_seq ?_
    refine X_seq ?_
    refine X_region ?_
    refine XO_v0 (ev_move rfl) rfl rfl rfl ?_
    refine XO_v0 (ev_move rfl) rfl rfl rfl ?_
    refine XO_v0 (ev_lenS rfl slt_36) rfl rfl rfl ?_
    refine XO_v0 (ev_cmp rfl rfl rfl) rfl rfl rfl ?_
    refine XO_nil ?_
    refine at_then ?_
    refine X_cond rfl (fun hc14 => ?_) (fun hc14 => ?_)
    · skip
      have hlt_k : k < n := by have h := hc14; simp at h; omega
      obtain ⟨x, hx⟩ := hS.at hlt_k
      obtain ⟨y, hy⟩ := hT.at (show k < n2 by omega)
      refine X_skip ?_
      refine at_then ?_
      refine X_seq ?_
      refine X_block ?_
      refine X_seq ?_
      refine X_draw mixed (by kernel_rfl) ?_
      refine XQ_v0 (ev_move rfl) rfl rfl rfl ?_
      refine XQ_v0 (ev_move rfl) rfl rfl rfl ?_
      refine XQ_v0 (ev_indexSl rfl rfl slt_36 (by assumption) (fun hg => by first | omega | (simp [conj] at hg; omega))) rfl rfl rfl ?_
      refine XQ_v0 (ev_fieldAddr rfl fld_60_0) rfl rfl rfl ?_
      refine XQ_v0 (ev_load rfl sct_3 (fun hg => by first | exact Sl.get hS hx rfl | exact Sl.get hT hy rfl | exact Cell.h0 rfl | exact Cell.h1 rfl | exact Cell.h2 rfl | exact Cell.h3 rfl | exact Cell.h4 rfl | exact Cell.h5 rfl | (repeat (first | exact Cell.here rfl | apply Cell.there | apply Cell.app)))) rfl rfl rfl ?_
      refine XQ_v0 (ev_move rfl) rfl rfl rfl ?_
      refine XQ_v0 (ev_move rfl) rfl rfl rfl ?_
      refine XQ_v0 (ev_indexSl rfl rfl slt_36 (by assumption) (fun hg => by first | omega | (simp [conj] at hg; omega))) rfl rfl rfl ?_
      refine XQ_v0 (ev_fieldAddr rfl fld_60_0) rfl rfl rfl ?_
      refine XQ_v0 (ev_load rfl sct_3 (fun hg => by first | exact Sl.get hS hx rfl | exact Sl.get hT hy rfl | exact Cell.h0 rfl | exact Cell.h1 rfl | exact Cell.h2 rfl | exact Cell.h3 rfl | exact Cell.h4 rfl | exact Cell.h5 rfl | (repeat (first | exact Cell.here rfl | apply Cell.there | apply Cell.app)))) rfl rfl rfl ?_
      refine XQ_v0 (ev_cmp rfl rfl rfl) rfl rfl rfl ?_
      refine XQ_v0 (ev_move rfl) rfl rfl rfl ?_
      refine XQ_pushF 11 rfl rfl rfl ?_
      refine XQ_v1 (ev_move rfl) (.some rfl rfl rfl rfl gbf) rfl rfl rfl ?_
      refine XQ_v1 (ev_move rfl) (.some rfl rfl rfl rfl gbf) rfl rfl rfl ?_
      refine XQ_v1 (ev_indexSl rfl rfl slt_36 (by assumption) (fun hg => by first | omega | (simp [conj] at hg; omega))) (.some rfl rfl rfl rfl gbf) rfl rfl rfl ?_
      refine XQ_v1 (ev_fieldAddr rfl fld_60_1) (.some rfl rfl rfl rfl gbf) rfl rfl rfl ?_
      refine XQ_v1 (ev_load rfl sct_3 (fun hg => by first | exact Sl.get hS hx rfl | exact Sl.get hT hy rfl | exact Cell.h0 rfl | exact Cell.h1 rfl | exact Cell.h2 rfl | exact Cell.h3 rfl | exact Cell.h4 rfl | exact Cell.h5 rfl | (repeat (first | exact Cell.here rfl | apply Cell.there | apply Cell.app)))) (.some rfl rfl rfl rfl gbf) rfl rfl rfl ?_
      refine XQ_v1 (ev_move rfl) (.some rfl rfl rfl rfl gbf) rfl rfl rfl ?_
      refine XQ_v1 (ev_move rfl) (.some rfl rfl rfl rfl gbf) rfl rfl rfl ?_
      refine XQ_v1 (ev_indexSl rfl rfl slt_36 (by assumption) (fun hg => by first | omega | (simp [conj] at hg; omega))) (.some rfl rfl rfl rfl gbf) rfl rfl rfl ?_
      refine XQ_v1 (ev_fieldAddr rfl fld_60_1) (.some rfl rfl rfl rfl gbf) rfl rfl rfl ?_
      refine XQ_v1 (ev_load rfl sct_3 (fun hg => by first | exact Sl.get hS hx rfl | exact Sl.get hT hy rfl | exact Cell.h0 rfl | exact Cell.h1 rfl | exact Cell.h2 rfl | exact Cell.h3 rfl | exact Cell.h4 rfl | exact Cell.h5 rfl | (repeat (first | exact Cell.here rfl | apply Cell.there | apply Cell.app)))) (.some rfl rfl rfl rfl gbf) rfl rfl rfl ?_
      refine XQ_v1 (ev_cmp rfl rfl rfl) (.some rfl rfl rfl rfl gbf) rfl rfl rfl ?_
      refine XQ_or0 rfl rfl rfl rfl rfl ?_
      refine XQ_v0 (ev_move rfl) rfl rfl rfl ?_
      refine XQ_pushF 24 rfl rfl rfl ?_
      refine XQ_v1 (ev_move rfl) (.some rfl rfl rfl rfl gbf) rfl rfl rfl ?_
      refine XQ_v1 (ev_move rfl) (.some rfl rfl rfl rfl gbf) rfl rfl rfl ?_
      refine XQ_v1 (ev_indexSl rfl rfl slt_36 (by assumption) (fun hg => by first | omega | (simp [conj] at hg; omega))) (.some rfl rfl rfl rfl gbf) rfl rfl rfl ?_
      refine XQ_v1 (ev_fieldAddr rfl fld_60_2) (.some rfl rfl rfl rfl gbf) rfl rfl rfl ?_
      refine XQ_v1 (ev_load rfl sct_23 (fun hg => by first | exact Sl.get hS hx rfl | exact Sl.get hT hy rfl | exact Cell.h0 rfl | exact Cell.h1 rfl | exact Cell.h2 rfl | exact Cell.h3 rfl | exact Cell.h4 rfl | exact Cell.h5 rfl | (repeat (first | exact Cell.here rfl | apply Cell.there | apply Cell.app)))) (.some rfl rfl rfl rfl gbf) rfl rfl rfl ?_
      refine XQ_v1 (ev_move rfl) (.some rfl rfl rfl rfl gbf) rfl rfl rfl ?_
      refine XQ_v1 (ev_move rfl) (.some rfl rfl rfl rfl gbf) rfl rfl rfl ?_
      refine XQ_v1 (ev_indexSl rfl rfl slt_36 (by assumption) (fun hg => by first | omega | (simp [conj] at hg; omega))) (.some rfl rfl rfl rfl gbf) rfl rfl rfl ?_
      refine XQ_v1 (ev_fieldAddr rfl fld_60_2) (.some rfl rfl rfl rfl gbf) rfl rfl rfl ?_
      refine XQ_v1 (ev_load rfl sct_23 (fun hg => by first | exact Sl.get hS hx rfl | exact Sl.get hT hy rfl | exact Cell.h0 rfl | exact Cell.h1 rfl | exact Cell.h2 rfl | exact Cell.h3 rfl | exact Cell.h4 rfl | exact Cell.h5 rfl | (repeat (first | exact Cell.here rfl | apply Cell.there | apply Cell.app)))) (.some rfl rfl rfl rfl gbf) rfl rfl rfl ?_
      refine XQ_callV1 (cap := []) (vs := [_, _]) rfl rfl fun_14 (fun hg => w_sameI (hC.2 _ (List.mem_of_getElem? hx)) (hcn _ (List.mem_of_getElem? hx)) (hD.2 _ (List.mem_of_getElem? hy))) (.some rfl rfl rfl rfl gbf) rfl rfl ?_
      refine XQ_v1 (ev_not rfl) (.some rfl rfl rfl rfl gbf) rfl rfl rfl ?_
      refine XQ_or0 rfl rfl rfl rfl rfl ?_
      refine XQ_nil ?_
      refine at_then ?_
      refine X_cond rfl (fun hc54 => ?_) (fun hc54 => ?_)
      · skip
        refine X_seq ?_
        refine X_region ?_
        refine XO_v0 (ev_assign rfl) rfl rfl rfl ?_
        refine XO_nil ?_
        refine at_then ?_
        refine X_ret ?_
        refine at_block_r ?_
        refine at_then_r ?_
        refine at_then_r ?_
        refine at_block_r ?_
        refine at_then_r ?_
        first
        | exact at_ret1 rfl rfl (fun w hw => ⟨by rw [same_len (n := n) (m := n2) (by rw [List.length_map, hS.len]) (by rw [List.length_map, hT.len]) (by simp at hc10; omega)], hw.drop⟩)
        | exact at_ret1 rfl rfl (fun w hw => ⟨by rw [key_ne hx hy (fun e => by unfold Cf.key at e; rw [Prod.mk.injEq, Prod.mk.injEq] at e; rw [e.1, e.2.1, e.2.2, same_self] at hc54; simp at hc54)], hw.drop⟩)
        | exact at_ret1 rfl rfl (fun w hw => ⟨by rw [take_all hS.len (by omega), take_all hT.len (by omega)] at he; rw [he, same_self], hw.drop⟩)
      · skip
        refine X_skip ?_
        refine at_block_n ?_
        refine at_then ?_
        refine X_region ?_
        refine XO_v0 (ev_move rfl) rfl rfl rfl ?_
        refine XO_v0 (ev_arB rfl rfl rfl (fun _ => by omega)) rfl rfl rfl ?_
        refine XO_v0 (ev_assign rfl) rfl rfl rfl ?_
        refine XO_nil ?_
        exact at_met2 _ _ ⟨n - (k + 1), by omega, k + 1, rfl, rfl, rfl, rfl, by omega, key_next hx hy he (by have h := hc54; simp only [Bool.or_eq_false_iff, Bool.not_eq_false', bne_eq_false_iff_eq] at h; unfold Cf.key; rw [h.1.1, h.1.2, of_decide_eq_true h.2])⟩ (.cons rfl (.cons rfl (.cons rfl .nil))) (by repeat (first | exact .refl | exact subL_left | refine subL_app ?_ | refine .drop ?_ | refine subL_add ?_))
    · skip
      have hge_k : n ≤ k := by have h := hc14; simp at h; omega
      refine X_exit ?_
      refine at_then_e ?_
      refine at_then_e ?_
      refine at_block_hit ?_
      refine at_then ?_
      refine X_seq ?_
      refine X_region ?_
      refine XO_v0 (ev_assign rfl) rfl rfl rfl ?_
      refine XO_nil ?_
      refine at_then ?_
      refine X_ret ?_
      first
      | exact at_ret1 rfl rfl (fun w hw => ⟨by rw [same_len (n := n) (m := n2) (by rw [List.length_map, hS.len]) (by rw [List.length_map, hT.len]) (by simp at hc10; omega)], hw.drop⟩)
      | exact at_ret1 rfl rfl (fun w hw => ⟨by rw [key_ne hx hy (fun e => by unfold Cf.key at e; rw [Prod.mk.injEq, Prod.mk.injEq] at e; rw [e.1, e.2.1, e.2.2, same_self] at hc54; simp at hc54)], hw.drop⟩)
      | exact at_ret1 rfl rfl (fun w hw => ⟨by rw [take_all hS.len (by omega), take_all hT.len (by omega)] at he; rw [he, same_self], hw.drop⟩)
end Go.Proofs.YtccomeanpppfmaaGreat
end
section
namespace Go.Proofs.YtccomeanpppfmaaGreat
open Go Go.Kn Go.Proofs
theorem plt_53 : PlT Tryz.prog 53 #[(0, 1), (1, 1), (2, 1), (3, 1), (4, 14), (18, 1)] (.agg #[(.int .i64 0), (.int .i64 0), (.int .i64 0), (.int .i64 0), (.int .i64 0), (.int .i64 0), (.int .i64 0), (.int .i64 0), (.int .i64 0), (.int .i64 0), (.int .i64 0), (.int .i64 0), (.int .i64 0), (.int .i64 0), (.int .i64 0), (.int .i64 0), (.int .i64 0), (.int .i64 0), (.slice none 0 0)]) := ⟨.of (by kernel_rfl), by kernel_rfl, fun w => by kernel_rfl⟩
/-- The law's patch: a sign's direction. -/
def setP (id dir : Int) (a : Option Addr) (n c : Nat) (v : List Int) : Pt := ⟨id, 1, 1, 5, { zeroG with dir := dir }, a, n, c, v⟩
theorem w_lset (I : HMap) (id dir : Int) (a : Option Addr) (n c : Nat) (v : List Int) : RetV Tryz.prog 27 [.int .i64 id, .int .i64 dir, .slice a n c] I (encPA (setP id dir a n c v)) := by
  intro g H w hw
  refine enter Tryz.func27 rfl Tryz.ntmps27 rfl hw ?_
  refine X_seq ?_
  refine X_region ?_
  refine XO_alloc zt_53 rfl rfl (fun b_6 => ?_)
  refine XO_nil ?_
  refine at_then ?_
  refine X_seq ?_
  refine X_region ?_
  refine XO_v0 (ev_move rfl) rfl rfl rfl ?_
  refine XO_v0 (ev_move rfl) rfl rfl rfl ?_
  refine XO_v0 (ev_buildL (ps := [(6, _)]) [_, _, _, _, _, _, _, _, _, _, _, _, _, _] plt_45 rfl rfl) rfl rfl rfl ?_
  refine XO_v0 (ev_move rfl) rfl rfl rfl ?_
  refine XO_v0 (ev_buildL (ps := [(0, _), (1, _), (2, _), (3, _), (4, _), (5, _)]) [_, _, _, _, _, _, _, _, _, _, _, _, _, _, _, _, _, _, _] plt_53 rfl rfl) rfl rfl rfl ?_
  refine XO_storeA rfl rfl szt_53 rfl rfl rfl rfl (by first | exact Upd.u0 | exact Upd.u1 | exact Upd.u2 | exact Upd.u3 | exact Upd.u4 | exact Upd.u5 | (repeat (first | exact Upd.here | apply Upd.there | apply upd_app))) ?_
  refine XO_nil ?_
  refine at_then ?_
  refine X_ret ?_
  exact at_retA rfl rfl agt_53 Cells.g0 rfl (fun w hw => ⟨rfl, hw.drop⟩)
end Go.Proofs.YtccomeanpppfmaaGreat
end
section
namespace Go.Kn
open Go
section
variable {C : Cx} {E : Env} {I : HMap} {loc : Loc} {S : GS} {dst : Option Tmp} {ty : TypeId} {pos : String} {af : Array Edge} {gd : Option (Nat × Bool)} {x y z : Operand}
end
end Go.Kn
namespace Go.Kn
open Go
section
variable {g : World} {I I' H : HMap} {loc loc' L R : Loc} {w w' : World}
end
end Go.Kn
namespace Go.Kn
open Go
section
variable {C : Cx} {Q : Exit → Act → World → Prop} {E : Env} {I : HMap} {loc : Loc} {ops : Array Oper} {rest : List Oper} {d : Nat} {ty : TypeId} {pos : String} {af : Array Edge} {gd : Option (Nat × Bool)} {x y : Operand}
end
end Go.Kn
namespace Go.Kn
open Go
section
variable {C : Cx} {Q : Exit → Act → World → Prop} {E : Env} {I : HMap} {loc : Loc} {ops : Array Oper} {rest : List Oper} {d : Nat} {ty : TypeId} {pos : String} {af : Array Edge} {gd : Option (Nat × Bool)} {x y : Operand}
end
section
variable {C : Cx} {S : GS} {E : Env} {I : HMap} {loc : Loc} {dst : Option Tmp} {ty : TypeId} {pos : String} {af : Array Edge} {gd : Option (Nat × Bool)} {x y : Operand}
theorem ev_indexOwn {t e size b n c : Nat} {k : IntKind} {i : Int} (hx : evalS S E x = some (.slice (some ⟨b, 0, none⟩) n c)) (hy : evalS S E y = some (.int k i)) (hT : SlT C.P t e size) (hb : conj S = true → 0 ≤ i ∧ i < (n : Int)) :
    EvalOp C S E I loc ⟨dst, .indexAddr t x y, ty, pos, af, gd⟩ (.pointer (some ⟨b, i.toNat * size, none⟩)) := by
  have h := ev_indexAddr (I := I) (loc := loc) (dst := dst) (ty := ty) (pos := pos) (af := af) (gd := gd) hx hy hT hb
  rwa [Nat.zero_add] at h
end
/-- An element of an own slice: where it lies, and what a store leaves. -/
theorem OwnS.spot {α : Type} {e size n k : Nat} {enc : α → List Value} {v : Value} {xs : List α} {x : α} {L : Loc} (hO : OwnS e size v n (xs.flatMap enc) L) (hs : ∀ x, (enc x).length = size) (hsz : 0 < size) (hx : xs[k]? = some x) :
    k < n ∧ ∃ b c cur, v = .slice (some ⟨b, 0, none⟩) n c ∧ L = [(b, .cells (cur : List Value).toArray e (0, 0))] ∧ (cur.drop (k * size)).take size = enc x ∧ k * size + size ≤ cur.length ∧
      ∀ y, OwnS e size v n ((xs.set k y).flatMap enc) [(b, .cells (spliceL cur (k * size) (enc y)).toArray e (0, 0))] := by
  obtain ⟨hk, hxk⟩ := List.getElem?_eq_some_iff.1 hx
  have hl := hO.1
  rw [flat_len hs] at hl
  have hln : xs.length = n := Nat.eq_of_mul_eq_mul_right hsz hl
  rcases hO.2 with ⟨_, h2, _⟩ | ⟨b, c, cur, h1, h2, h3, h4, h5, h6⟩
  · omega
  obtain ⟨cl⟩ := cur
  simp only [List.size_toArray] at h5 h6
  have hspl : xs = xs.take k ++ x :: xs.drop (k + 1) := by
    rw [← hxk, ← List.drop_eq_getElem_cons hk, List.take_append_drop]
  have hb1 : (k + 1) * size ≤ n * size := Nat.mul_le_mul_right _ (by omega)
  have hb2 : n * size ≤ c * size := Nat.mul_le_mul_right _ h3
  rw [Nat.add_mul, Nat.one_mul] at hb1
  have htk : ((xs.take k).flatMap enc).length = k * size := by rw [flat_len hs, List.length_take]; congr 1; omega
  have hcl : cl.take (n * size) = (xs.take k).flatMap enc ++ (enc x ++ (xs.drop (k + 1)).flatMap enc) := by
    rw [h6]; conv => lhs; rw [hspl]
    rw [List.flatMap_append, List.flatMap_cons]
  have hdec : cl = (xs.take k).flatMap enc ++ (enc x ++ ((xs.drop (k + 1)).flatMap enc ++ cl.drop (n * size))) := by
    conv => lhs; rw [← List.take_append_drop (n * size) cl]
    rw [hcl]; simp only [List.append_assoc]
  have hdrop : cl.drop (k * size) = enc x ++ ((xs.drop (k + 1)).flatMap enc ++ cl.drop (n * size)) := by
    conv => lhs; rw [hdec]
    rw [← htk]; exact List.drop_left
  refine ⟨by omega, b, c, cl, h1, h2, ?_, by omega, fun y => ⟨?_, .inr ⟨b, c, _, h1, rfl, h3, h4, ?_, ?_⟩⟩⟩
  · rw [hdrop, ← hs x]; exact List.take_left
  · rw [flat_len hs, List.length_set]; omega
  · have hsl := splice_eq (A := cl) (off := k * size) (n := size) (vs := enc y) (by omega) (hs y)
    rw [List.size_toArray, hsl]
    simp only [List.length_append, List.length_take, List.length_drop, hs]
    omega
  · have hsl := splice_eq (A := cl) (off := k * size) (n := size) (vs := enc y) (by omega) (hs y)
    have e1 : cl.take (k * size) = (xs.take k).flatMap enc := by
      conv => lhs; rw [hdec]
      rw [← htk]; exact List.take_left
    have e2 : cl.drop (k * size + size) = (xs.drop (k + 1)).flatMap enc ++ cl.drop (n * size) := by
      have hd : ∀ l : List Value, List.drop size (enc x ++ l) = l := fun l => by rw [← hs x]; exact List.drop_left
      rw [← List.drop_drop, hdrop, hd]
    rw [hsl, e1, e2]
    have e3 : (xs.set k y).flatMap enc = (xs.take k).flatMap enc ++ (enc y ++ (xs.drop (k + 1)).flatMap enc) := by
      rw [List.set_eq_take_append_cons_drop, if_pos (by omega), List.flatMap_append, List.flatMap_cons]
    have e4 : ((xs.set k y).flatMap enc).length = n * size := by rw [flat_len hs, List.length_set]; omega
    show List.take (n * size) ((xs.take k).flatMap enc ++ (enc y ++ ((xs.drop (k + 1)).flatMap enc ++ cl.drop (n * size)))) = _
    rw [← List.append_assoc (enc y), ← List.append_assoc, ← e3, ← e4]
    exact List.take_left
/-- An element of one cell. -/
theorem OwnS.spot1 {α : Type} {e n k : Nat} {enc : α → List Value} {u : α → Value} {v : Value} {xs : List α} {x : α} {L : Loc} (hO : OwnS e 1 v n (xs.flatMap enc) L) (he : ∀ x, enc x = [u x]) (hx : xs[k]? = some x) :
    k < n ∧ ∃ b c cur, v = .slice (some ⟨b, 0, none⟩) n c ∧ L = [(b, .cells (cur : List Value).toArray e (0, 0))] ∧ (∀ (I : HMap) (l : Loc), Cell I ((b, .cells cur.toArray e (0, 0)) :: l) b (((k : Nat) : Int).toNat * 1) (u x)) ∧ Nat.blt (((k : Nat) : Int).toNat * 1) cur.toArray.size = true ∧
      ∀ y, OwnS e 1 v n ((xs.set k y).flatMap enc) [(b, .cells (cur.toArray.setIfInBounds (((k : Nat) : Int).toNat * 1) (u y)) e (0, 0))] := by
  obtain ⟨h1, b, c, cur, h2, h3, h4, h5, h6⟩ := hO.spot (fun x => by rw [he]; rfl) (by decide) hx
  have hk : k < cur.length := by omega
  have hck : cur[k]? = some (u x) := by
    have := congrArg (fun l : List Value => l[0]?) h4
    simpa [he] using this
  refine ⟨h1, b, c, cur, h2, h3, fun I l => ?_, ?_, fun y => ?_⟩
  · refine Cell.here ?_
    rw [lget_eq]
    show cur[k * 1]? = _
    rw [Nat.mul_one]; exact hck
  · show Nat.blt (k * 1) cur.length = true
    rw [Nat.mul_one, Nat.blt_eq]; exact hk
  · have h7 := h6 y
    rw [splice_eq (by rw [he]; simp; omega) rfl] at h7
    have e1 : cur.toArray.setIfInBounds (((k : Nat) : Int).toNat * 1) (u y) = (cur.take (k * 1) ++ (enc y ++ cur.drop (k * 1 + (enc y).length))).toArray := by
      show cur.toArray.setIfInBounds (k * 1) (u y) = _
      rw [he, Nat.mul_one, List.setIfInBounds_toArray, List.set_eq_take_append_cons_drop, if_pos hk]; rfl
    rw [e1]; exact h7
end Go.Kn
end
section
namespace Go.Proofs.YtccomeanpppfmaaGreat
open Go Go.Kn Go.Proofs
theorem fun_10 : Fun Tryz.prog 10 := .of Tryz.func10 (by kernel_rfl) (by kernel_rfl)
theorem fun_15 : Fun Tryz.prog 15 := .of Tryz.func15 (by kernel_rfl) (by kernel_rfl)
theorem fun_17 : Fun Tryz.prog 17 := .of Tryz.func17 (by kernel_rfl) (by kernel_rfl)
theorem fun_19 : Fun Tryz.prog 19 := .of Tryz.func19 (by kernel_rfl) (by kernel_rfl)
theorem fun_20 : Fun Tryz.prog 20 := .of Tryz.func20 (by kernel_rfl) (by kernel_rfl)
theorem fun_27 : Fun Tryz.prog 27 := .of Tryz.func27 (by kernel_rfl) (by kernel_rfl)
theorem fun_8 : Fun Tryz.prog 8 := .of Tryz.func8 (by kernel_rfl) (by kernel_rfl)
def g1 : Sg := ⟨1, 0, 2, 1, 1, 1, 1, 0, 1, 0, 0, 1, 1, 1⟩
def g2 : Sg := ⟨1, 0, 2, 1, 1, 1, 3, 0, 4, 0, 0, 1, 1, 1⟩
def g3 : Sg := ⟨1, 0, 2, 1, 1, 1, 6, 0, 4, 0, 0, 1, 1, 1⟩
def sizeP : Pt := ⟨3, 1, 1, 7, { zeroG with size := 4 }, none, 0, 0, []⟩
def stR (a : Option Addr) : List Pt := [setP 2 3 none 0 0 [], sizeP, setP 4 5 none 0 0 [], setP 7 6 a 2 2 [2, 4]]
def stB (a : Option Addr) : List Pt := [setP 2 3 a 1 1 [1]]
theorem stR_sl {I : HMap} {b : Nat} {a : Option Addr} (h : I b = some (.cells ((stR a).flatMap encP).toArray 53 (0, 0))) (h2 : Sl I 1 encI a 2 2 [2, 4]) : SlP I (some ⟨b, 0, none⟩) 4 4 (stR a) :=
  ⟨Sl.lit (stR a) rfl encP_len h, fun p hp => by
    simp only [stR, List.mem_cons, List.not_mem_nil, or_false] at hp
    rcases hp with rfl | rfl | rfl | rfl
    · exact .nil
    · exact .nil
    · exact .nil
    · exact h2⟩
theorem stB_sl {I : HMap} {b : Nat} {a : Option Addr} (h : I b = some (.cells ((stB a).flatMap encP).toArray 53 (0, 0))) (h2 : Sl I 1 encI a 1 1 [1]) : SlP I (some ⟨b, 0, none⟩) 1 1 (stB a) :=
  ⟨Sl.lit (stB a) rfl encP_len h, fun p hp => by
    simp only [stB, List.mem_cons, List.not_mem_nil, or_false] at hp
    subst hp; exact h2⟩
theorem s_chk0 {I : HMap} {av : Option Addr} {c : Nat} (hP : SlP I av 0 c []) : RetV Tryz.prog 12 [.slice av 0 c] I (.int .i64 0) := by
  have h := w_chkR hP (by decide)
  rwa [show chkR [] = 0 from by kernel_rfl] at h
theorem s_chk1 {I : HMap} {av : Option Addr} {c : Nat} {a : Option Addr} (hP : SlP I av 4 c (stR a)) : RetV Tryz.prog 12 [.slice av 4 c] I (.int .i64 0) := by
  have h := w_chkR hP (by decide)
  rwa [show chkR (stR a) = 0 from by kernel_rfl] at h
theorem s_chk2 {I : HMap} {av : Option Addr} {c : Nat} {a : Option Addr} (hP : SlP I av 1 c (stB a)) : RetV Tryz.prog 12 [.slice av 1 c] I (.int .i64 380) := by
  have h := w_chkR hP (by decide)
  rwa [show chkR (stB a) = 380 from by kernel_rfl] at h
theorem s_clo1 {I : HMap} {av bv : Option Addr} {c c2 : Nat} {a : Option Addr} (hP : SlP I av 4 c (stR a)) (hT : Sl I 1 encI bv 1 c2 [7]) : RetM Tryz.prog 8 [.slice av 4 c, .slice bv 1 c2] I [] (Res2 0 [2, 4, 7]) := by
  have h := w_Closure hP (by decide) hT (by decide)
  rwa [show cloE (stR a) [7] = 0 from by kernel_rfl, show resF (α := Int) 0 (cloF (stR a) [7]) = [2, 4, 7] from by kernel_rfl] at h
theorem s_clo2 {I : HMap} {av bv : Option Addr} {c c2 : Nat} (hP : SlP I av 0 c []) (hT : Sl I 1 encI bv 1 c2 [1]) : RetM Tryz.prog 8 [.slice av 0 c, .slice bv 1 c2] I [] (Res2 380 []) := by
  have h := w_Closure hP (by decide) hT (by decide)
  rwa [show cloE [] [1] = 380 from by kernel_rfl, show resF (α := Int) 380 (cloF [] [1]) = [] from by kernel_rfl] at h
theorem s_mrg {I : HMap} {av bv dv : Option Addr} {c c2 c3 : Nat} {a : Option Addr} (hP : SlP I av 4 c (stR a)) (hT : Sl I 1 encI bv 1 c2 [2]) (hU : Sl I 1 encI dv 1 c3 [3]) : RetM Tryz.prog 10 [.slice av 4 c, .slice bv 1 c2, .slice dv 1 c3] I [] (Res2 0 [2, 3]) := by
  have h := w_merge hP (by decide) hT (by decide) hU (by decide)
  rwa [show mrgE (stR a) [2] [3] = 0 from by kernel_rfl, show resF (α := Int) 0 (mrgF (stR a) [2] [3]) = [2, 3] from by kernel_rfl] at h
theorem s_sg1 {I : HMap} {av bv dv : Option Addr} {c c2 c3 : Nat} {a : Option Addr} (hP : SlP I av 4 c (stR a)) (hB : Sl I 14 encG bv 1 c2 [g1]) (hV : Sl I 1 encI dv 2 c3 [2, 3]) : RetM Tryz.prog 15 [.slice av 4 c, .slice bv 1 c2, .slice dv 2 c3] I [] (ResG 0 [g2]) := by
  have h := w_Signs hP (by decide) hB (by decide) hV (by decide)
  rwa [show sgnE (stR a) [g1] [2, 3] = 0 from by kernel_rfl, show sgnF (stR a) [g1] [2, 3] = [g2] from by kernel_rfl] at h
theorem s_sg2 {I : HMap} {av bv dv : Option Addr} {c c2 c3 : Nat} {a : Option Addr} (hP : SlP I av 4 c (stR a)) (hB : Sl I 14 encG bv 1 c2 [g1]) (hV : Sl I 1 encI dv 4 c3 [2, 3, 4, 7]) : RetM Tryz.prog 15 [.slice av 4 c, .slice bv 1 c2, .slice dv 4 c3] I [] (ResG 0 [g3]) := by
  have h := w_Signs hP (by decide) hB (by decide) hV (by decide)
  rwa [show sgnE (stR a) [g1] [2, 3, 4, 7] = 0 from by kernel_rfl, show sgnF (stR a) [g1] [2, 3, 4, 7] = [g3] from by kernel_rfl] at h
theorem s_sg3 {I : HMap} {av bv dv : Option Addr} {c c2 c3 : Nat} {a : Option Addr} (hP : SlP I av 4 c (stR a)) (hB : Sl I 14 encG bv 1 c2 [g1]) (hV : Sl I 1 encI dv 1 c3 [7]) : RetM Tryz.prog 15 [.slice av 4 c, .slice bv 1 c2, .slice dv 1 c3] I [] (ResG 380 []) := by
  have h := w_Signs hP (by decide) hB (by decide) hV (by decide)
  rwa [show sgnE (stR a) [g1] [7] = 380 from by kernel_rfl, show sgnF (stR a) [g1] [7] = [] from by kernel_rfl] at h
theorem s_sg4 {I : HMap} {av bv dv : Option Addr} {c c2 c3 : Nat} (hP : SlP I av 0 c []) (hB : Sl I 14 encG bv 1 c2 [g1]) (hV : Sl I 1 encI dv 0 c3 []) : RetM Tryz.prog 15 [.slice av 0 c, .slice bv 1 c2, .slice dv 0 c3] I [] (ResG 0 [g1]) := by
  have h := w_Signs hP (by decide) hB (by decide) hV (by decide)
  rwa [show sgnE [] [g1] [] = 0 from by kernel_rfl, show sgnF [] [g1] [] = [g1] from by kernel_rfl] at h
theorem s_cf1 {I : HMap} {av bv dv : Option Addr} {c c2 c3 : Nat} {a : Option Addr} (hP : SlP I av 4 c (stR a)) (hB : Sl I 14 encG bv 1 c2 [g1]) (hV : Sl I 1 encI dv 2 c3 [2, 3]) : RetM Tryz.prog 17 [.slice av 4 c, .slice bv 1 c2, .slice dv 2 c3] I [] (ResC 0 []) := by
  have h := w_Conflicts hP (by decide) hB (by decide) hV (by decide)
  rwa [show sgnE (stR a) [g1] [2, 3] = 0 from by kernel_rfl, show cflF (stR a) [g1] [2, 3] = [] from by kernel_rfl] at h
theorem s_cf2 {I : HMap} {av bv dv : Option Addr} {c c2 c3 : Nat} {a : Option Addr} (hP : SlP I av 4 c (stR a)) (hB : Sl I 14 encG bv 1 c2 [g1]) (hV : Sl I 1 encI dv 3 c3 [2, 3, 4]) : RetM Tryz.prog 17 [.slice av 4 c, .slice bv 1 c2, .slice dv 3 c3] I [] (ResC 0 [(1, 5, [2, 4])]) := by
  have h := w_Conflicts hP (by decide) hB (by decide) hV (by decide)
  rwa [show sgnE (stR a) [g1] [2, 3, 4] = 0 from by kernel_rfl, show cflF (stR a) [g1] [2, 3, 4] = [(1, 5, [2, 4])] from by kernel_rfl] at h
theorem s_cf3 {I : HMap} {av bv dv : Option Addr} {c c2 c3 : Nat} {a : Option Addr} (hP : SlP I av 4 c (stR a)) (hB : Sl I 14 encG bv 1 c2 [g1]) (hV : Sl I 1 encI dv 4 c3 [2, 3, 4, 7]) : RetM Tryz.prog 17 [.slice av 4 c, .slice bv 1 c2, .slice dv 4 c3] I [] (ResC 0 []) := by
  have h := w_Conflicts hP (by decide) hB (by decide) hV (by decide)
  rwa [show sgnE (stR a) [g1] [2, 3, 4, 7] = 0 from by kernel_rfl, show cflF (stR a) [g1] [2, 3, 4, 7] = [] from by kernel_rfl] at h
theorem s_sameI {I : HMap} {av bv : Option Addr} {n c q e : Nat} {xs ys : List Int} (hS : Sl I 1 encI av n c xs) (hT : Sl I 1 encI bv q e ys) (hn : n ≤ 100000) (h : xs = ys) : RetV Tryz.prog 14 [.slice av n c, .slice bv q e] I (.bool true) := by
  have := w_sameI hS hn hT
  subst h; rwa [same_self] at this
theorem s_sameG {I : HMap} {av bv : Option Addr} {n c q e : Nat} {xs ys : List Sg} (hS : Sl I 14 encG av n c xs) (hT : Sl I 14 encG bv q e ys) (hn : n ≤ 100000) (h : xs = ys) : RetV Tryz.prog 19 [.slice av n c, .slice bv q e] I (.bool true) := by
  have := w_sameG hS hn hT
  subst h; rwa [same_self] at this
theorem s_sameC {I : HMap} {av bv a : Option Addr} {c e : Nat} {cs : List Cf} (hC : SlC I av cs.length c cs) (hk : cs.map Cf.key = [(1, 5, [2, 4])]) (hD : SlC I bv 1 e [⟨1, 5, a, 2, 2, [2, 4]⟩]) : RetV Tryz.prog 20 [.slice av cs.length c, .slice bv 1 e] I (.bool true) := by
  match cs, hC, hk with
  | [], _, hk => cases hk
  | _ :: _ :: _, _, hk => simp at hk
  | [z], hC, hk =>
    have hz : z.key = (1, 5, [2, 4]) := by simpa using hk
    have hi : z.ids = [2, 4] := congrArg (·.2.2) hz
    have hl := (hC.2 z (by simp)).len
    rw [hi] at hl
    have h := w_sameC hC (by simp) hD (fun y hy => by simp at hy; subst hy; rw [← hl]; decide)
    rwa [hk, show ([⟨1, 5, a, 2, 2, [2, 4]⟩] : List Cf).map Cf.key = [(1, 5, [2, 4])] from rfl, same_self] at h
theorem conf_one {I : HMap} {b : Nat} {a : Option Addr} (h : I b = some (.cells (([⟨1, 5, a, 2, 2, [2, 4]⟩] : List Cf).flatMap encC).toArray 60 (0, 0))) (h2 : Sl I 1 encI a 2 2 [2, 4]) : SlC I (some ⟨b, 0, none⟩) 1 1 [⟨1, 5, a, 2, 2, [2, 4]⟩] :=
  ⟨Sl.lit _ rfl encC_len h, fun x hx => by simp only [List.mem_cons, List.not_mem_nil, or_false] at hx; subst hx; exact h2⟩
set_option maxRecDepth 100000 in
theorem w_sane (I : HMap) : RetV Tryz.prog 6 [] I (.bool true) := by
  intro g H w hw
  refine enter Tryz.func6 rfl Tryz.ntmps6 rfl hw ?_
  have hIc := HLe.refl I
  refine X_seq ?_
  refine X_region ?_
  refine XO_v0 (ev_assign rfl) rfl rfl rfl ?_
  refine XO_nil ?_
  refine at_then ?_
  refine X_seq ?_
  refine X_region ?_
  refine XO_v0 (ev_buildL (ps := [(1, _)]) [_, _] plt_43 rfl rfl) rfl rfl rfl ?_
  refine XO_v0 (ev_buildL (ps := [(0, _), (1, _)]) [_, _] plt_43 rfl rfl) rfl rfl rfl ?_
  refine XO_v0 (ev_buildL (ps := [(0, _), (2, _), (3, _), (4, _), (5, _), (6, _), (8, _), (10, _), (11, _)]) [_, _, _, _, _, _, _, _, _, _, _, _, _, _] plt_45 rfl rfl) rfl rfl rfl ?_
  refine XO_buildSlice (ps := [(0, _)]) (m := [encG g1]) elt_33 rfl (.cons rfl (.nil)) rfl (by simp [encI_len, encP_len, encG_len, encC_len]) (by decide) (by decide) rfl rfl (fun b_29 => ?_)
  refine XO_freeze .here (fun I1 hI1 hb1 => ?_)
  have hIc := hIc.trans hI1
  have hB := Sl.lit ([g1] : List Sg) rfl encG_len (show _ = some (Obj.cells (([g1] : List Sg).flatMap encG).toArray 45 (0, 0)) from hb1)
  refine XO_v0 (ev_assign rfl) rfl rfl rfl ?_
  refine XO_nil ?_
  refine at_then ?_
  refine X_seq ?_
  refine X_region ?_
  refine XO_v0 (ev_buildL (ps := [(8, _)]) [_, _, _, _, _, _, _, _, _, _, _, _, _, _] plt_45 rfl rfl) rfl rfl rfl ?_
  refine XO_v0 (ev_buildL (ps := [(0, _), (1, _), (2, _), (3, _), (4, _)]) [_, _, _, _, _, _, _, _, _, _, _, _, _, _, _, _, _, _, _] plt_53 rfl rfl) rfl rfl rfl ?_
  refine XO_alloc zt_53 rfl rfl (fun b_2 => ?_)
  refine XO_storeA rfl rfl szt_53 rfl rfl rfl rfl (by first | exact Upd.u0 | exact Upd.u1 | exact Upd.u2 | exact Upd.u3 | exact Upd.u4 | exact Upd.u5 | (repeat (first | exact Upd.here | apply Upd.there | apply upd_app))) ?_
  refine XO_nil ?_
  refine at_then ?_
  refine X_cutT [(1, _)] (.cons rfl .nil) (fun T L0 E I' loc' => ∃ (b35 b37 : Nat), E = (3, .slice (some ⟨b37, 0, none⟩) 4 4) :: T ∧ I1 = I' ∧ [(b37, .cells ((stR (some ⟨b35, 0, none⟩)).flatMap encP).toArray 53 (0, 0)), (b35, .cells ([(2 : Int), 4].flatMap encI).toArray 3 (0, 0))] = loc') ?_ ?_
  · skip
    have hD := HLe.refl I1
    refine X_drawC mixed ?_
    refine XD_take 1 rfl (ev_loadA rfl agt_53 (fun hg => by first | exact Sl.getA (k := 0) (x := g1) hB rfl | exact Cells.g0 | exact Cells.g1 | exact Cells.g2 | exact Cells.g3 | exact Cells.g4 | exact Cells.g5 | exact Cells.s0 (vs := [_, _, _, _, _, _, _, _, _, _, _, _, _, _, _, _, _, _, _]) rfl | exact Cells.s1 (vs := [_, _, _, _, _, _, _, _, _, _, _, _, _, _, _, _, _, _, _]) rfl | exact Cells.s2 (vs := [_, _, _, _, _, _, _, _, _, _, _, _, _, _, _, _, _, _, _]) rfl | exact Cells.s3 (vs := [_, _, _, _, _, _, _, _, _, _, _, _, _, _, _, _, _, _, _]) rfl | exact Cells.s4 (vs := [_, _, _, _, _, _, _, _, _, _, _, _, _, _, _, _, _, _, _]) rfl | exact Cells.s5 (vs := [_, _, _, _, _, _, _, _, _, _, _, _, _, _, _, _, _, _, _]) rfl | (repeat (first | exact Cells.here | apply Cells.there | apply Cells.app))) rfl) (.none rfl) rfl rfl rfl (by kernel_rfl) (by kernel_rfl) (by kernel_rfl) noP_ok hD (by repeat (first | exact .refl | exact subL_nil | refine .keep ?_ | refine .drop ?_ | refine subL_add ?_)) ?_
    refine XD_two 0 3 rfl rfl (by kernel_rfl) ?_ ?_
    · skip
      refine XO_callV0 (cap := []) (vs := [_, _, _]) rfl rfl fun_27 (w_lset _ 2 3 none 0 0 []) rfl rfl ?_
      refine XO_nil ?_
      refine at_D hD (by repeat (first | exact .refl | exact subL_nil | refine .keep ?_ | refine .drop ?_ | refine subL_add ?_)) ?_
      refine XD_two 2 3 rfl rfl (by kernel_rfl) ?_ ?_
      · skip
        refine XO_callV0 (cap := []) (vs := [_, _, _]) rfl rfl fun_27 (w_lset _ 4 5 none 0 0 []) rfl rfl ?_
        refine XO_nil ?_
        refine at_D hD (by repeat (first | exact .refl | exact subL_nil | refine .keep ?_ | refine .drop ?_ | refine subL_add ?_)) ?_
        refine XD_one 3 rfl (by kernel_rfl) ?_
        refine XO_buildSlice (ps := [(0, _), (1, _)]) (m := [encI 2, encI 4]) elt_23 rfl (.cons rfl (.cons rfl (.nil))) rfl (by simp [encI_len, encP_len, encG_len, encC_len]) (by decide) (by decide) rfl rfl (fun b_35 => ?_)
        refine XO_nil ?_
        refine at_D hD (by repeat (first | exact .refl | exact subL_nil | refine .keep ?_ | refine .drop ?_ | refine subL_add ?_)) ?_
        refine XD_one 4 rfl (by kernel_rfl) ?_
        refine XO_callV0 (cap := []) (vs := [_, _, _]) rfl rfl fun_27 (w_lset _ 7 6 _ _ _ [2, 4]) rfl rfl ?_
        refine XO_nil ?_
        refine at_D hD (by repeat (first | exact .refl | exact subL_nil | refine .keep ?_ | refine .drop ?_ | refine subL_add ?_)) ?_
        refine XD_one 5 rfl (by kernel_rfl) ?_
        refine XO_buildSlice (ps := [(0, _), (1, _), (2, _), (3, _)]) (m := [encP (setP 2 3 none 0 0 []), encP sizeP, encP (setP 4 5 none 0 0 []), encP (setP 7 6 (some ⟨b_35, 0, none⟩) 2 2 [2, 4])]) elt_22 rfl (.cons rfl (.cons rfl (.cons rfl (.cons rfl (.nil))))) rfl (by simp [encI_len, encP_len, encG_len, encC_len]) (by decide) (by decide) rfl rfl (fun b_37 => ?_)
        refine XO_nil ?_
        refine at_D hD (by repeat (first | exact .refl | exact subL_nil | refine .keep ?_ | refine .drop ?_ | refine subL_add ?_)) ?_
        refine XD_take 6 rfl (ev_assign rfl) (.none rfl) rfl rfl rfl (by kernel_rfl) (by kernel_rfl) (by kernel_rfl) noP_ok hD (by repeat (first | exact .refl | exact subL_nil | refine .keep ?_ | refine .drop ?_ | refine subL_add ?_)) ?_
        refine XD_done (by kernel_rfl) ?_
        refine at_noP ?_
        exact at_met2 _ _ ⟨b_35, b_37, rfl, rfl, rfl⟩ (.cons rfl (.cons rfl .nil)) (by repeat (first | exact .refl | exact subL_left | refine subL_app ?_ | refine .drop ?_ | refine subL_add ?_))
      · skip
        refine XO_buildSlice (ps := [(0, _), (1, _)]) (m := [encI 2, encI 4]) elt_23 rfl (.cons rfl (.cons rfl (.nil))) rfl (by simp [encI_len, encP_len, encG_len, encC_len]) (by decide) (by decide) rfl rfl (fun b_35 => ?_)
        refine XO_nil ?_
        refine at_D hD (by repeat (first | exact .refl | exact subL_nil | refine .keep ?_ | refine .drop ?_ | refine subL_add ?_)) ?_
        refine XD_one 2 rfl (by kernel_rfl) ?_
        refine XO_callV0 (cap := []) (vs := [_, _, _]) rfl rfl fun_27 (w_lset _ 4 5 none 0 0 []) rfl rfl ?_
        refine XO_nil ?_
        refine at_D hD (by repeat (first | exact .refl | exact subL_nil | refine .keep ?_ | refine .drop ?_ | refine subL_add ?_)) ?_
        refine XD_one 4 rfl (by kernel_rfl) ?_
        refine XO_callV0 (cap := []) (vs := [_, _, _]) rfl rfl fun_27 (w_lset _ 7 6 _ _ _ [2, 4]) rfl rfl ?_
        refine XO_nil ?_
        refine at_D hD (by repeat (first | exact .refl | exact subL_nil | refine .keep ?_ | refine .drop ?_ | refine subL_add ?_)) ?_
        refine XD_one 5 rfl (by kernel_rfl) ?_
        refine XO_buildSlice (ps := [(0, _), (1, _), (2, _), (3, _)]) (m := [encP (setP 2 3 none 0 0 []), encP sizeP, encP (setP 4 5 none 0 0 []), encP (setP 7 6 (some ⟨b_35, 0, none⟩) 2 2 [2, 4])]) elt_22 rfl (.cons rfl (.cons rfl (.cons rfl (.cons rfl (.nil))))) rfl (by simp [encI_len, encP_len, encG_len, encC_len]) (by decide) (by decide) rfl rfl (fun b_37 => ?_)
        refine XO_nil ?_
        refine at_D hD (by repeat (first | exact .refl | exact subL_nil | refine .keep ?_ | refine .drop ?_ | refine subL_add ?_)) ?_
        refine XD_take 6 rfl (ev_assign rfl) (.none rfl) rfl rfl rfl (by kernel_rfl) (by kernel_rfl) (by kernel_rfl) noP_ok hD (by repeat (first | exact .refl | exact subL_nil | refine .keep ?_ | refine .drop ?_ | refine subL_add ?_)) ?_
        refine XD_done (by kernel_rfl) ?_
        refine at_noP ?_
        exact at_met2 _ _ ⟨b_35, b_37, rfl, rfl, rfl⟩ (.cons rfl (.cons rfl .nil)) (by repeat (first | exact .refl | exact subL_left | refine subL_app ?_ | refine .drop ?_ | refine subL_add ?_))
    · skip
      refine XO_buildSlice (ps := [(0, _), (1, _)]) (m := [encI 2, encI 4]) elt_23 rfl (.cons rfl (.cons rfl (.nil))) rfl (by simp [encI_len, encP_len, encG_len, encC_len]) (by decide) (by decide) rfl rfl (fun b_35 => ?_)
      refine XO_nil ?_
      refine at_D hD (by repeat (first | exact .refl | exact subL_nil | refine .keep ?_ | refine .drop ?_ | refine subL_add ?_)) ?_
      refine XD_one 0 rfl (by kernel_rfl) ?_
      refine XO_callV0 (cap := []) (vs := [_, _, _]) rfl rfl fun_27 (w_lset _ 2 3 none 0 0 []) rfl rfl ?_
      refine XO_nil ?_
      refine at_D hD (by repeat (first | exact .refl | exact subL_nil | refine .keep ?_ | refine .drop ?_ | refine subL_add ?_)) ?_
      refine XD_one 2 rfl (by kernel_rfl) ?_
      refine XO_callV0 (cap := []) (vs := [_, _, _]) rfl rfl fun_27 (w_lset _ 4 5 none 0 0 []) rfl rfl ?_
      refine XO_nil ?_
      refine at_D hD (by repeat (first | exact .refl | exact subL_nil | refine .keep ?_ | refine .drop ?_ | refine subL_add ?_)) ?_
      refine XD_one 4 rfl (by kernel_rfl) ?_
      refine XO_callV0 (cap := []) (vs := [_, _, _]) rfl rfl fun_27 (w_lset _ 7 6 _ _ _ [2, 4]) rfl rfl ?_
      refine XO_nil ?_
      refine at_D hD (by repeat (first | exact .refl | exact subL_nil | refine .keep ?_ | refine .drop ?_ | refine subL_add ?_)) ?_
      refine XD_one 5 rfl (by kernel_rfl) ?_
      refine XO_buildSlice (ps := [(0, _), (1, _), (2, _), (3, _)]) (m := [encP (setP 2 3 none 0 0 []), encP sizeP, encP (setP 4 5 none 0 0 []), encP (setP 7 6 (some ⟨b_35, 0, none⟩) 2 2 [2, 4])]) elt_22 rfl (.cons rfl (.cons rfl (.cons rfl (.cons rfl (.nil))))) rfl (by simp [encI_len, encP_len, encG_len, encC_len]) (by decide) (by decide) rfl rfl (fun b_37 => ?_)
      refine XO_nil ?_
      refine at_D hD (by repeat (first | exact .refl | exact subL_nil | refine .keep ?_ | refine .drop ?_ | refine subL_add ?_)) ?_
      refine XD_take 6 rfl (ev_assign rfl) (.none rfl) rfl rfl rfl (by kernel_rfl) (by kernel_rfl) (by kernel_rfl) noP_ok hD (by repeat (first | exact .refl | exact subL_nil | refine .keep ?_ | refine .drop ?_ | refine subL_add ?_)) ?_
      refine XD_done (by kernel_rfl) ?_
      refine at_noP ?_
      exact at_met2 _ _ ⟨b_35, b_37, rfl, rfl, rfl⟩ (.cons rfl (.cons rfl .nil)) (by repeat (first | exact .refl | exact subL_left | refine subL_app ?_ | refine .drop ?_ | refine subL_add ?_))
  · rintro E I' loc' ⟨b35, b37, rfl, rfl, rfl⟩
    refine X_seq ?_
    refine X_freeze .here (fun I3 hI3 hb3 => ?_)
    have hB := hB.mono hI3
    have hIc := hIc.trans hI3
    have hbP := hb3
    refine X_freeze .here (fun I4 hI4 hb4 => ?_)
    have hB := hB.mono hI4
    have hIc := hIc.trans hI4
    have hbN := hb4
    have hNs : Sl I4 1 encI (some ⟨b35, 0, none⟩) 2 2 [2, 4] := Sl.lit _ rfl encI_len hbN
    have hP : SlP I4 (some ⟨b37, 0, none⟩) 4 4 (stR (some ⟨b35, 0, none⟩)) := stR_sl (hI4 _ _ hbP) hNs
    refine X_region ?_
    refine XO_v0 (ev_move rfl) rfl rfl rfl ?_
    refine XO_v0 (ev_indexSl rfl rfl slt_33 (by assumption) (fun hg => by decide)) rfl rfl rfl ?_
    refine XO_v0 (ev_loadA rfl agt_45 (fun hg => by first | exact Sl.getA (k := 0) (x := g1) hB rfl | exact Cells.g0 | exact Cells.g1 | exact Cells.g2 | exact Cells.g3 | exact Cells.g4 | exact Cells.g5 | exact Cells.s0 (vs := [_, _, _, _, _, _, _, _, _, _, _, _, _, _]) rfl | exact Cells.s1 (vs := [_, _, _, _, _, _, _, _, _, _, _, _, _, _]) rfl | exact Cells.s2 (vs := [_, _, _, _, _, _, _, _, _, _, _, _, _, _]) rfl | exact Cells.s3 (vs := [_, _, _, _, _, _, _, _, _, _, _, _, _, _]) rfl | exact Cells.s4 (vs := [_, _, _, _, _, _, _, _, _, _, _, _, _, _]) rfl | exact Cells.s5 (vs := [_, _, _, _, _, _, _, _, _, _, _, _, _, _]) rfl | (repeat (first | exact Cells.here | apply Cells.there | apply Cells.app))) rfl) rfl rfl rfl ?_
    refine XO_alloc zt_45 rfl rfl (fun b_4 => ?_)
    refine XO_storeA rfl rfl szt_45 rfl rfl rfl rfl (by first | exact Upd.u0 | exact Upd.u1 | exact Upd.u2 | exact Upd.u3 | exact Upd.u4 | exact Upd.u5 | (repeat (first | exact Upd.here | apply Upd.there | apply upd_app))) ?_
    refine XO_nil ?_
    refine at_then ?_
    refine X_seq ?_
    refine X_region ?_
    refine XO_v0 (ev_fieldAddr rfl fld_45_6) rfl rfl rfl ?_
    refine XO_store rfl rfl szt_3 rfl rfl (by first | exact Upd.u0 | exact Upd.u1 | exact Upd.u2 | exact Upd.u3 | exact Upd.u4 | exact Upd.u5 | (repeat (first | exact Upd.here | apply Upd.there | apply upd_app))) rfl ?_
    refine XO_v0 (ev_fieldAddr rfl fld_45_8) rfl rfl rfl ?_
    refine XO_store rfl rfl szt_3 rfl rfl (by first | exact Upd.u0 | exact Upd.u1 | exact Upd.u2 | exact Upd.u3 | exact Upd.u4 | exact Upd.u5 | (repeat (first | exact Upd.here | apply Upd.there | apply upd_app))) rfl ?_
    refine XO_nil ?_
    refine at_then ?_
    refine X_seq ?_
    refine X_region ?_
    refine XO_v0 (ev_loadA rfl agt_45 (fun hg => by first | exact Sl.getA (k := 0) (x := g1) hB rfl | exact Cells.g0 | exact Cells.g1 | exact Cells.g2 | exact Cells.g3 | exact Cells.g4 | exact Cells.g5 | exact Cells.s0 (vs := [_, _, _, _, _, _, _, _, _, _, _, _, _, _]) rfl | exact Cells.s1 (vs := [_, _, _, _, _, _, _, _, _, _, _, _, _, _]) rfl | exact Cells.s2 (vs := [_, _, _, _, _, _, _, _, _, _, _, _, _, _]) rfl | exact Cells.s3 (vs := [_, _, _, _, _, _, _, _, _, _, _, _, _, _]) rfl | exact Cells.s4 (vs := [_, _, _, _, _, _, _, _, _, _, _, _, _, _]) rfl | exact Cells.s5 (vs := [_, _, _, _, _, _, _, _, _, _, _, _, _, _]) rfl | (repeat (first | exact Cells.here | apply Cells.there | apply Cells.app))) rfl) rfl rfl rfl ?_
    refine XO_alloc zt_45 rfl rfl (fun b_5 => ?_)
    refine XO_storeA rfl rfl szt_45 rfl rfl rfl rfl (by first | exact Upd.u0 | exact Upd.u1 | exact Upd.u2 | exact Upd.u3 | exact Upd.u4 | exact Upd.u5 | (repeat (first | exact Upd.here | apply Upd.there | apply upd_app))) ?_
    refine XO_nil ?_
    refine at_then ?_
    refine X_seq ?_
    refine X_region ?_
    refine XO_v0 (ev_fieldAddr rfl fld_45_6) rfl rfl rfl ?_
    refine XO_store rfl rfl szt_3 rfl rfl (by first | exact Upd.u0 | exact Upd.u1 | exact Upd.u2 | exact Upd.u3 | exact Upd.u4 | exact Upd.u5 | (repeat (first | exact Upd.here | apply Upd.there | apply upd_app))) rfl ?_
    refine XO_nil ?_
    refine at_then ?_
    refine X_seq ?_
    refine X_region ?_
    refine XO_v0 (ev_move rfl) rfl rfl rfl ?_
    refine XO_buildSlice (ps := [(0, _)]) (m := [encI 7]) elt_23 rfl (.cons rfl (.nil)) rfl (by simp [encI_len, encP_len, encG_len, encC_len]) (by decide) (by decide) rfl rfl (fun b_47 => ?_)
    refine XO_freeze .here (fun I5 hI5 hb5 => ?_)
    have hB := hB.mono hI5
    have hP := hP.mono hI5
    have hIc := hIc.trans hI5
    have h7 := Sl.lit ([7] : List Int) rfl encI_len (show _ = some (Obj.cells (([7] : List Int).flatMap encI).toArray 3 (0, 0)) from hb5)
    refine XO_callM (cap := []) (vs := [_, _]) rfl rfl fun_8 .nil (s_clo1 hP h7) rfl rfl ?_
    rintro vv6 I6 L6 hI6 ⟨rfl, a6, c6, rfl, hV⟩
    have hB := hB.mono hI6
    have hP := hP.mono hI6
    have h7 := h7.mono hI6
    have hIc := hIc.trans hI6
    refine XO_v0 (ev_move rfl) rfl rfl rfl ?_
    refine XO_v0 (ev_extract rfl rfl) rfl rfl rfl ?_
    refine XO_v0 (ev_extract rfl rfl) rfl rfl rfl ?_
    refine XO_v0 (ev_assign rfl) rfl rfl rfl ?_
    refine XO_v0 (ev_assign rfl) rfl rfl rfl ?_
    refine XO_nil ?_
    refine at_then ?_
    refine X_seq ?_
    refine X_region ?_
    refine XO_v0 (ev_move rfl) rfl rfl rfl ?_
    refine XO_buildSlice (ps := [(0, _)]) (m := [encI 2]) elt_23 rfl (.cons rfl (.nil)) rfl (by simp [encI_len, encP_len, encG_len, encC_len]) (by decide) (by decide) rfl rfl (fun b_53 => ?_)
    refine XO_freeze .here (fun I7 hI7 hb7 => ?_)
    have hB := hB.mono hI7
    have hP := hP.mono hI7
    have h7 := h7.mono hI7
    have hV := hV.mono hI7
    have hIc := hIc.trans hI7
    have h2 := Sl.lit ([2] : List Int) rfl encI_len (show _ = some (Obj.cells (([2] : List Int).flatMap encI).toArray 3 (0, 0)) from hb7)
    refine XO_buildSlice (ps := [(0, _)]) (m := [encI 3]) elt_23 rfl (.cons rfl (.nil)) rfl (by simp [encI_len, encP_len, encG_len, encC_len]) (by decide) (by decide) rfl rfl (fun b_54 => ?_)
    refine XO_freeze .here (fun I8 hI8 hb8 => ?_)
    have hB := hB.mono hI8
    have hP := hP.mono hI8
    have h7 := h7.mono hI8
    have hV := hV.mono hI8
    have h2 := h2.mono hI8
    have hIc := hIc.trans hI8
    have h3 := Sl.lit ([3] : List Int) rfl encI_len (show _ = some (Obj.cells (([3] : List Int).flatMap encI).toArray 3 (0, 0)) from hb8)
    refine XO_callM (cap := []) (vs := [_, _, _]) rfl rfl fun_10 .nil (s_mrg hP h2 h3) rfl rfl ?_
    rintro vv9 I9 L9 hI9 ⟨rfl, a9, c9, rfl, hM⟩
    have hB := hB.mono hI9
    have hP := hP.mono hI9
    have h7 := h7.mono hI9
    have hV := hV.mono hI9
    have h2 := h2.mono hI9
    have h3 := h3.mono hI9
    have hIc := hIc.trans hI9
    refine XO_v0 (ev_move rfl) rfl rfl rfl ?_
    refine XO_v0 (ev_extract rfl rfl) rfl rfl rfl ?_
    refine XO_v0 (ev_extract rfl rfl) rfl rfl rfl ?_
    refine XO_v0 (ev_assign rfl) rfl rfl rfl ?_
    refine XO_v0 (ev_assign rfl) rfl rfl rfl ?_
    refine XO_nil ?_
    refine at_then ?_
    refine X_seq ?_
    refine X_region ?_
    refine XO_v0 (ev_move rfl) rfl rfl rfl ?_
    refine XO_v0 (ev_move rfl) rfl rfl rfl ?_
    refine XO_v0 (ev_move rfl) rfl rfl rfl ?_
    refine XO_callM (cap := []) (vs := [_, _, _]) rfl rfl fun_15 .nil (s_sg1 hP hB hM) rfl rfl ?_
    rintro vv10 I10 L10 hI10 ⟨rfl, a10, c10, rfl, hG1⟩
    have hB := hB.mono hI10
    have hP := hP.mono hI10
    have h7 := h7.mono hI10
    have hV := hV.mono hI10
    have h2 := h2.mono hI10
    have h3 := h3.mono hI10
    have hM := hM.mono hI10
    have hIc := hIc.trans hI10
    refine XO_v0 (ev_move rfl) rfl rfl rfl ?_
    refine XO_v0 (ev_extract rfl rfl) rfl rfl rfl ?_
    refine XO_v0 (ev_extract rfl rfl) rfl rfl rfl ?_
    refine XO_v0 (ev_assign rfl) rfl rfl rfl ?_
    refine XO_v0 (ev_assign rfl) rfl rfl rfl ?_
    refine XO_nil ?_
    refine at_then ?_
    refine X_seq ?_
    refine X_region ?_
    refine XO_v0 (ev_move rfl) rfl rfl rfl ?_
    refine XO_v0 (ev_move rfl) rfl rfl rfl ?_
    refine XO_v0 (ev_move rfl) rfl rfl rfl ?_
    refine XO_callM (cap := []) (vs := [_, _, _]) rfl rfl fun_17 .nil (s_cf1 hP hB hM) rfl rfl ?_
    rintro vv11 I11 L11 hI11 ⟨rfl, cs1, a11, c11, rfl, hC1, hk1⟩
    have hB := hB.mono hI11
    have hP := hP.mono hI11
    have h7 := h7.mono hI11
    have hV := hV.mono hI11
    have h2 := h2.mono hI11
    have h3 := h3.mono hI11
    have hM := hM.mono hI11
    have hG1 := hG1.mono hI11
    have hIc := hIc.trans hI11
    have hz11 := List.map_eq_nil_iff.1 hk1
    subst hz11
    refine XO_v0 (ev_move rfl) rfl rfl rfl ?_
    refine XO_v0 (ev_extract rfl rfl) rfl rfl rfl ?_
    refine XO_v0 (ev_extract rfl rfl) rfl rfl rfl ?_
    refine XO_v0 (ev_assign rfl) rfl rfl rfl ?_
    refine XO_v0 (ev_assign rfl) rfl rfl rfl ?_
    refine XO_nil ?_
    refine at_then ?_
    refine X_seq ?_
    refine X_region ?_
    refine XO_v0 (ev_move rfl) rfl rfl rfl ?_
    refine XO_v0 (ev_move rfl) rfl rfl rfl ?_
    refine XO_buildSlice (ps := [(0, _), (1, _), (2, _)]) (m := [encI 2, encI 3, encI 4]) elt_23 rfl (.cons rfl (.cons rfl (.cons rfl (.nil)))) rfl (by simp [encI_len, encP_len, encG_len, encC_len]) (by decide) (by decide) rfl rfl (fun b_75 => ?_)
    refine XO_freeze .here (fun I12 hI12 hb12 => ?_)
    have hB := hB.mono hI12
    have hP := hP.mono hI12
    have h7 := h7.mono hI12
    have hV := hV.mono hI12
    have h2 := h2.mono hI12
    have h3 := h3.mono hI12
    have hM := hM.mono hI12
    have hG1 := hG1.mono hI12
    have hIc := hIc.trans hI12
    have h234 := Sl.lit ([2, 3, 4] : List Int) rfl encI_len (show _ = some (Obj.cells (([2, 3, 4] : List Int).flatMap encI).toArray 3 (0, 0)) from hb12)
    refine XO_callM (cap := []) (vs := [_, _, _]) rfl rfl fun_17 .nil (s_cf2 hP hB h234) rfl rfl ?_
    rintro vv13 I13 L13 hI13 ⟨rfl, cs2, a13, c13, rfl, hC2, hk2⟩
    have hB := hB.mono hI13
    have hP := hP.mono hI13
    have h7 := h7.mono hI13
    have hV := hV.mono hI13
    have h2 := h2.mono hI13
    have h3 := h3.mono hI13
    have hM := hM.mono hI13
    have hG1 := hG1.mono hI13
    have h234 := h234.mono hI13
    have hIc := hIc.trans hI13
    refine XO_v0 (ev_move rfl) rfl rfl rfl ?_
    refine XO_v0 (ev_extract rfl rfl) rfl rfl rfl ?_
    refine XO_v0 (ev_extract rfl rfl) rfl rfl rfl ?_
    refine XO_v0 (ev_assign rfl) rfl rfl rfl ?_
    refine XO_v0 (ev_assign rfl) rfl rfl rfl ?_
    refine XO_nil ?_
    refine at_then ?_
    refine X_seq ?_
    refine X_region ?_
    refine XO_v0 (ev_move rfl) rfl rfl rfl ?_
    refine XO_v0 (ev_move rfl) rfl rfl rfl ?_
    refine XO_buildSlice (ps := [(0, _), (1, _), (2, _), (3, _)]) (m := [encI 2, encI 3, encI 4, encI 7]) elt_23 rfl (.cons rfl (.cons rfl (.cons rfl (.cons rfl (.nil))))) rfl (by simp [encI_len, encP_len, encG_len, encC_len]) (by decide) (by decide) rfl rfl (fun b_82 => ?_)
    refine XO_freeze .here (fun I14 hI14 hb14 => ?_)
    have hB := hB.mono hI14
    have hP := hP.mono hI14
    have h7 := h7.mono hI14
    have hV := hV.mono hI14
    have h2 := h2.mono hI14
    have h3 := h3.mono hI14
    have hM := hM.mono hI14
    have hG1 := hG1.mono hI14
    have h234 := h234.mono hI14
    have hC2 := hC2.mono hI14
    have hIc := hIc.trans hI14
    have h2347 := Sl.lit ([2, 3, 4, 7] : List Int) rfl encI_len (show _ = some (Obj.cells (([2, 3, 4, 7] : List Int).flatMap encI).toArray 3 (0, 0)) from hb14)
    refine XO_callM (cap := []) (vs := [_, _, _]) rfl rfl fun_15 .nil (s_sg2 hP hB h2347) rfl rfl ?_
    rintro vv15 I15 L15 hI15 ⟨rfl, a15, c15, rfl, hG2⟩
    have hB := hB.mono hI15
    have hP := hP.mono hI15
    have h7 := h7.mono hI15
    have hV := hV.mono hI15
    have h2 := h2.mono hI15
    have h3 := h3.mono hI15
    have hM := hM.mono hI15
    have hG1 := hG1.mono hI15
    have h234 := h234.mono hI15
    have hC2 := hC2.mono hI15
    have h2347 := h2347.mono hI15
    have hIc := hIc.trans hI15
    refine XO_v0 (ev_move rfl) rfl rfl rfl ?_
    refine XO_v0 (ev_extract rfl rfl) rfl rfl rfl ?_
    refine XO_v0 (ev_extract rfl rfl) rfl rfl rfl ?_
    refine XO_v0 (ev_assign rfl) rfl rfl rfl ?_
    refine XO_v0 (ev_assign rfl) rfl rfl rfl ?_
    refine XO_nil ?_
    refine at_then ?_
    refine X_seq ?_
    refine X_region ?_
    refine XO_v0 (ev_move rfl) rfl rfl rfl ?_
    refine XO_v0 (ev_move rfl) rfl rfl rfl ?_
    refine XO_buildSlice (ps := [(0, _), (1, _), (2, _), (3, _)]) (m := [encI 2, encI 3, encI 4, encI 7]) elt_23 rfl (.cons rfl (.cons rfl (.cons rfl (.cons rfl (.nil))))) rfl (by simp [encI_len, encP_len, encG_len, encC_len]) (by decide) (by decide) rfl rfl (fun b_89 => ?_)
    refine XO_freeze .here (fun I16 hI16 hb16 => ?_)
    have hB := hB.mono hI16
    have hP := hP.mono hI16
    have h7 := h7.mono hI16
    have hV := hV.mono hI16
    have h2 := h2.mono hI16
    have h3 := h3.mono hI16
    have hM := hM.mono hI16
    have hG1 := hG1.mono hI16
    have h234 := h234.mono hI16
    have hC2 := hC2.mono hI16
    have h2347 := h2347.mono hI16
    have hG2 := hG2.mono hI16
    have hIc := hIc.trans hI16
    have h2347b := Sl.lit ([2, 3, 4, 7] : List Int) rfl encI_len (show _ = some (Obj.cells (([2, 3, 4, 7] : List Int).flatMap encI).toArray 3 (0, 0)) from hb16)
    refine XO_callM (cap := []) (vs := [_, _, _]) rfl rfl fun_17 .nil (s_cf3 hP hB h2347b) rfl rfl ?_
    rintro vv17 I17 L17 hI17 ⟨rfl, cs3, a17, c17, rfl, hC3, hk3⟩
    have hB := hB.mono hI17
    have hP := hP.mono hI17
    have h7 := h7.mono hI17
    have hV := hV.mono hI17
    have h2 := h2.mono hI17
    have h3 := h3.mono hI17
    have hM := hM.mono hI17
    have hG1 := hG1.mono hI17
    have h234 := h234.mono hI17
    have hC2 := hC2.mono hI17
    have h2347 := h2347.mono hI17
    have hG2 := hG2.mono hI17
    have h2347b := h2347b.mono hI17
    have hIc := hIc.trans hI17
    have hz17 := List.map_eq_nil_iff.1 hk3
    subst hz17
    refine XO_v0 (ev_move rfl) rfl rfl rfl ?_
    refine XO_v0 (ev_extract rfl rfl) rfl rfl rfl ?_
    refine XO_v0 (ev_extract rfl rfl) rfl rfl rfl ?_
    refine XO_v0 (ev_assign rfl) rfl rfl rfl ?_
    refine XO_v0 (ev_assign rfl) rfl rfl rfl ?_
    refine XO_nil ?_
    refine at_then ?_
    refine X_seq ?_
    refine X_region ?_
    refine XO_buildSlice (ps := [(0, _)]) (m := [encI 1]) elt_23 rfl (.cons rfl (.nil)) rfl (by simp [encI_len, encP_len, encG_len, encC_len]) (by decide) (by decide) rfl rfl (fun b_94 => ?_)
    refine XO_freeze .here (fun I18 hI18 hb18 => ?_)
    have hB := hB.mono hI18
    have hP := hP.mono hI18
    have h7 := h7.mono hI18
    have hV := hV.mono hI18
    have h2 := h2.mono hI18
    have h3 := h3.mono hI18
    have hM := hM.mono hI18
    have hG1 := hG1.mono hI18
    have h234 := h234.mono hI18
    have hC2 := hC2.mono hI18
    have h2347 := h2347.mono hI18
    have hG2 := hG2.mono hI18
    have h2347b := h2347b.mono hI18
    have hIc := hIc.trans hI18
    have h1 := Sl.lit ([1] : List Int) rfl encI_len (show _ = some (Obj.cells (([1] : List Int).flatMap encI).toArray 3 (0, 0)) from hb18)
    refine XO_callM (cap := []) (vs := [_, _]) rfl rfl fun_8 .nil (s_clo2 SlP.nil h1) rfl rfl ?_
    rintro vv19 I19 L19 hI19 ⟨rfl, a19, c19, rfl, hV2⟩
    have hB := hB.mono hI19
    have hP := hP.mono hI19
    have h7 := h7.mono hI19
    have hV := hV.mono hI19
    have h2 := h2.mono hI19
    have h3 := h3.mono hI19
    have hM := hM.mono hI19
    have hG1 := hG1.mono hI19
    have h234 := h234.mono hI19
    have hC2 := hC2.mono hI19
    have h2347 := h2347.mono hI19
    have hG2 := hG2.mono hI19
    have h2347b := h2347b.mono hI19
    have h1 := h1.mono hI19
    have hIc := hIc.trans hI19
    refine XO_v0 (ev_move rfl) rfl rfl rfl ?_
    refine XO_v0 (ev_extract rfl rfl) rfl rfl rfl ?_
    refine XO_v0 (ev_extract rfl rfl) rfl rfl rfl ?_
    refine XO_v0 (ev_assign rfl) rfl rfl rfl ?_
    refine XO_v0 (ev_assign rfl) rfl rfl rfl ?_
    refine XO_nil ?_
    refine at_then ?_
    refine X_seq ?_
    refine X_region ?_
    refine XO_v0 (ev_move rfl) rfl rfl rfl ?_
    refine XO_v0 (ev_move rfl) rfl rfl rfl ?_
    refine XO_buildSlice (ps := [(0, _)]) (m := [encI 7]) elt_23 rfl (.cons rfl (.nil)) rfl (by simp [encI_len, encP_len, encG_len, encC_len]) (by decide) (by decide) rfl rfl (fun b_101 => ?_)
    refine XO_freeze .here (fun I20 hI20 hb20 => ?_)
    have hB := hB.mono hI20
    have hP := hP.mono hI20
    have h7 := h7.mono hI20
    have hV := hV.mono hI20
    have h2 := h2.mono hI20
    have h3 := h3.mono hI20
    have hM := hM.mono hI20
    have hG1 := hG1.mono hI20
    have h234 := h234.mono hI20
    have hC2 := hC2.mono hI20
    have h2347 := h2347.mono hI20
    have hG2 := hG2.mono hI20
    have h2347b := h2347b.mono hI20
    have h1 := h1.mono hI20
    have hIc := hIc.trans hI20
    have h7b := Sl.lit ([7] : List Int) rfl encI_len (show _ = some (Obj.cells (([7] : List Int).flatMap encI).toArray 3 (0, 0)) from hb20)
    refine XO_callM (cap := []) (vs := [_, _, _]) rfl rfl fun_15 .nil (s_sg3 hP hB h7b) rfl rfl ?_
    rintro vv21 I21 L21 hI21 ⟨rfl, a21, c21, rfl, hG3⟩
    have hB := hB.mono hI21
    have hP := hP.mono hI21
    have h7 := h7.mono hI21
    have hV := hV.mono hI21
    have h2 := h2.mono hI21
    have h3 := h3.mono hI21
    have hM := hM.mono hI21
    have hG1 := hG1.mono hI21
    have h234 := h234.mono hI21
    have hC2 := hC2.mono hI21
    have h2347 := h2347.mono hI21
    have hG2 := hG2.mono hI21
    have h2347b := h2347b.mono hI21
    have h1 := h1.mono hI21
    have h7b := h7b.mono hI21
    have hIc := hIc.trans hI21
    refine XO_v0 (ev_move rfl) rfl rfl rfl ?_
    refine XO_v0 (ev_extract rfl rfl) rfl rfl rfl ?_
    refine XO_v0 (ev_extract rfl rfl) rfl rfl rfl ?_
    refine XO_v0 (ev_assign rfl) rfl rfl rfl ?_
    refine XO_v0 (ev_assign rfl) rfl rfl rfl ?_
    refine XO_nil ?_
    refine at_then ?_
    refine X_seq ?_
    refine X_region ?_
    refine XO_v0 (ev_move rfl) rfl rfl rfl ?_
    refine XO_callM (cap := []) (vs := [_, _, _]) rfl rfl fun_15 .nil (s_sg4 SlP.nil hB .nil) rfl rfl ?_
    rintro vv22 I22 L22 hI22 ⟨rfl, a22, c22, rfl, hG4⟩
    have hB := hB.mono hI22
    have hP := hP.mono hI22
    have h7 := h7.mono hI22
    have hV := hV.mono hI22
    have h2 := h2.mono hI22
    have h3 := h3.mono hI22
    have hM := hM.mono hI22
    have hG1 := hG1.mono hI22
    have h234 := h234.mono hI22
    have hC2 := hC2.mono hI22
    have h2347 := h2347.mono hI22
    have hG2 := hG2.mono hI22
    have h2347b := h2347b.mono hI22
    have h1 := h1.mono hI22
    have h7b := h7b.mono hI22
    have hIc := hIc.trans hI22
    refine XO_v0 (ev_move rfl) rfl rfl rfl ?_
    refine XO_v0 (ev_extract rfl rfl) rfl rfl rfl ?_
    refine XO_v0 (ev_extract rfl rfl) rfl rfl rfl ?_
    refine XO_v0 (ev_assign rfl) rfl rfl rfl ?_
    refine XO_v0 (ev_assign rfl) rfl rfl rfl ?_
    refine XO_nil ?_
    refine at_then ?_
    refine X_seq ?_
    refine X_seq ?_
    refine X_region ?_
    refine XO_v0 (ev_move rfl) rfl rfl rfl ?_
    refine XO_v0 (ev_cmp rfl rfl rfl) rfl rfl rfl ?_
    refine XO_v0 (ev_move rfl) rfl rfl rfl ?_
    refine XO_want (dj := 112) rfl rfl rfl ?_
    refine XO_v0 (ev_move rfl) rfl rfl rfl ?_
    refine XO_want (dj := 112) rfl rfl rfl ?_
    refine XO_v0 (ev_cmp rfl rfl rfl) rfl rfl rfl ?_
    refine XO_v0 (ev_pickb rfl rfl rfl) rfl rfl rfl ?_
    refine XO_v0 (ev_move rfl) rfl rfl rfl ?_
    refine XO_want (dj := 116) rfl rfl rfl ?_
    refine XO_v0 (ev_move rfl) rfl rfl rfl ?_
    refine XO_want (dj := 116) rfl rfl rfl ?_
    refine XO_v0 (ev_cmp rfl rfl rfl) rfl rfl rfl ?_
    refine XO_v0 (ev_pickb rfl rfl rfl) rfl rfl rfl ?_
    refine XO_v0 (ev_move rfl) rfl rfl rfl ?_
    refine XO_want (dj := 120) rfl rfl rfl ?_
    refine XO_v0 (ev_move rfl) rfl rfl rfl ?_
    refine XO_want (dj := 120) rfl rfl rfl ?_
    refine XO_v0 (ev_cmp rfl rfl rfl) rfl rfl rfl ?_
    refine XO_v0 (ev_pickb rfl rfl rfl) rfl rfl rfl ?_
    refine XO_v0 (ev_move rfl) rfl rfl rfl ?_
    refine XO_want (dj := 124) rfl rfl rfl ?_
    refine XO_v0 (ev_move rfl) rfl rfl rfl ?_
    refine XO_want (dj := 124) rfl rfl rfl ?_
    refine XO_v0 (ev_cmp rfl rfl rfl) rfl rfl rfl ?_
    refine XO_v0 (ev_pickb rfl rfl rfl) rfl rfl rfl ?_
    refine XO_v0 (ev_move rfl) rfl rfl rfl ?_
    refine XO_want (dj := 128) rfl rfl rfl ?_
    refine XO_v0 (ev_move rfl) rfl rfl rfl ?_
    refine XO_want (dj := 128) rfl rfl rfl ?_
    refine XO_v0 (ev_cmp rfl rfl rfl) rfl rfl rfl ?_
    refine XO_v0 (ev_pickb rfl rfl rfl) rfl rfl rfl ?_
    refine XO_v0 (ev_move rfl) rfl rfl rfl ?_
    refine XO_want (dj := 132) rfl rfl rfl ?_
    refine XO_v0 (ev_move rfl) rfl rfl rfl ?_
    refine XO_want (dj := 132) rfl rfl rfl ?_
    refine XO_v0 (ev_cmp rfl rfl rfl) rfl rfl rfl ?_
    refine XO_v0 (ev_pickb rfl rfl rfl) rfl rfl rfl ?_
    refine XO_v0 (ev_move rfl) rfl rfl rfl ?_
    refine XO_want (dj := 136) rfl rfl rfl ?_
    refine XO_v0 (ev_move rfl) rfl rfl rfl ?_
    refine XO_want (dj := 136) rfl rfl rfl ?_
    refine XO_v0 (ev_cmp rfl rfl rfl) rfl rfl rfl ?_
    refine XO_v0 (ev_pickb rfl rfl rfl) rfl rfl rfl ?_
    refine XO_v0 (ev_move rfl) rfl rfl rfl ?_
    refine XO_want (dj := 140) rfl rfl rfl ?_
    refine XO_v0 (ev_move rfl) rfl rfl rfl ?_
    refine XO_want (dj := 140) rfl rfl rfl ?_
    refine XO_v0 (ev_cmp rfl rfl rfl) rfl rfl rfl ?_
    refine XO_v0 (ev_pickb rfl rfl rfl) rfl rfl rfl ?_
    refine XO_v0 (ev_move rfl) rfl rfl rfl ?_
    refine XO_want (dj := 144) rfl rfl rfl ?_
    refine XO_v0 (ev_move rfl) rfl rfl rfl ?_
    refine XO_want (dj := 144) rfl rfl rfl ?_
    refine XO_v0 (ev_cmp rfl rfl rfl) rfl rfl rfl ?_
    refine XO_v0 (ev_pickb rfl rfl rfl) rfl rfl rfl ?_
    refine XO_nil ?_
    refine at_then ?_
    refine X_cond rfl (fun hc147 => ?_) (fun hc147 => ?_)
    · skip
      exact absurd hc147 (by decide)
    · skip
      refine X_skip ?_
      refine at_then ?_
      refine X_seq ?_
      refine X_seq ?_
      refine X_region ?_
      refine XO_callV0 (cap := []) (vs := [_]) rfl rfl fun_12 (s_chk0 SlP.nil) rfl rfl ?_
      refine XO_v0 (ev_cmp rfl rfl rfl) rfl rfl rfl ?_
      refine XO_v0 (ev_move rfl) rfl rfl rfl ?_
      refine XO_want (dj := 150) rfl rfl rfl ?_
      refine XO_v0 (ev_move rfl) rfl rfl rfl ?_
      refine XO_want (dj := 150) rfl rfl rfl ?_
      refine XO_callV0 (cap := []) (vs := [_]) rfl rfl fun_12 (s_chk1 hP) rfl rfl ?_
      refine XO_want (dj := 150) rfl rfl rfl ?_
      refine XO_v0 (ev_cmp rfl rfl rfl) rfl rfl rfl ?_
      refine XO_v0 (ev_pickb rfl rfl rfl) rfl rfl rfl ?_
      refine XO_v0 (ev_move rfl) rfl rfl rfl ?_
      refine XO_want (dj := 155) rfl rfl rfl ?_
      refine XO_buildSlice (ps := [(0, _)]) (m := [encI 1]) elt_23 rfl (.cons rfl (.nil)) rfl (by simp [encI_len, encP_len, encG_len, encC_len]) (by decide) (by decide) rfl rfl (fun b_156 => ?_)
      refine XO_freeze .here (fun I23 hI23 hb23 => ?_)
      have hB := hB.mono hI23
      have hP := hP.mono hI23
      have h7 := h7.mono hI23
      have hV := hV.mono hI23
      have h2 := h2.mono hI23
      have h3 := h3.mono hI23
      have hM := hM.mono hI23
      have hG1 := hG1.mono hI23
      have h234 := h234.mono hI23
      have hC2 := hC2.mono hI23
      have h2347 := h2347.mono hI23
      have hG2 := hG2.mono hI23
      have h2347b := h2347b.mono hI23
      have h1 := h1.mono hI23
      have h7b := h7b.mono hI23
      have hG4 := hG4.mono hI23
      have hIc := hIc.trans hI23
      have h1b := Sl.lit ([1] : List Int) rfl encI_len (show _ = some (Obj.cells (([1] : List Int).flatMap encI).toArray 3 (0, 0)) from hb23)
      refine XO_want (dj := 155) rfl rfl rfl ?_
      refine XO_callV0 (cap := []) (vs := [_, _, _]) rfl rfl fun_27 (w_lset _ 2 3 _ _ _ [1]) rfl rfl ?_
      refine XO_want (dj := 155) rfl rfl rfl ?_
      refine XO_buildSlice (ps := [(0, _)]) (m := [encP (setP 2 3 (some ⟨b_156, 0, none⟩) 1 1 [1])]) elt_22 rfl (.cons rfl (.nil)) rfl (by simp [encI_len, encP_len, encG_len, encC_len]) (by decide) (by decide) rfl rfl (fun b_158 => ?_)
      refine XO_freeze .here (fun I24 hI24 hb24 => ?_)
      have hB := hB.mono hI24
      have hP := hP.mono hI24
      have h7 := h7.mono hI24
      have hV := hV.mono hI24
      have h2 := h2.mono hI24
      have h3 := h3.mono hI24
      have hM := hM.mono hI24
      have hG1 := hG1.mono hI24
      have h234 := h234.mono hI24
      have hC2 := hC2.mono hI24
      have h2347 := h2347.mono hI24
      have hG2 := hG2.mono hI24
      have h2347b := h2347b.mono hI24
      have h1 := h1.mono hI24
      have h7b := h7b.mono hI24
      have hG4 := hG4.mono hI24
      have h1b := h1b.mono hI24
      have hIc := hIc.trans hI24
      have hPb : SlP I24 _ 1 1 (stB (some ⟨b_156, 0, none⟩)) := stB_sl hb24 h1b
      refine XO_want (dj := 155) rfl rfl rfl ?_
      refine XO_callV0 (cap := []) (vs := [_]) rfl rfl fun_12 (s_chk2 hPb) rfl rfl ?_
      refine XO_want (dj := 155) rfl rfl rfl ?_
      refine XO_v0 (ev_cmp rfl rfl rfl) rfl rfl rfl ?_
      refine XO_v0 (ev_pickb rfl rfl rfl) rfl rfl rfl ?_
      refine XO_nil ?_
      refine at_then ?_
      refine X_cond rfl (fun hc161 => ?_) (fun hc161 => ?_)
      · skip
        exact absurd hc161 (by decide)
      · skip
        refine X_skip ?_
        refine at_then ?_
        refine X_seq ?_
        refine X_seq ?_
        refine X_region ?_
        refine XO_v0 (ev_move rfl) rfl rfl rfl ?_
        refine XO_buildSlice (ps := [(0, _), (1, _), (2, _)]) (m := [encI 2, encI 4, encI 7]) elt_23 rfl (.cons rfl (.cons rfl (.cons rfl (.nil)))) rfl (by simp [encI_len, encP_len, encG_len, encC_len]) (by decide) (by decide) rfl rfl (fun b_163 => ?_)
        refine XO_freeze .here (fun I25 hI25 hb25 => ?_)
        have hB := hB.mono hI25
        have hP := hP.mono hI25
        have h7 := h7.mono hI25
        have hV := hV.mono hI25
        have h2 := h2.mono hI25
        have h3 := h3.mono hI25
        have hM := hM.mono hI25
        have hG1 := hG1.mono hI25
        have h234 := h234.mono hI25
        have hC2 := hC2.mono hI25
        have h2347 := h2347.mono hI25
        have hG2 := hG2.mono hI25
        have h2347b := h2347b.mono hI25
        have h1 := h1.mono hI25
        have h7b := h7b.mono hI25
        have hG4 := hG4.mono hI25
        have h1b := h1b.mono hI25
        have hPb := hPb.mono hI25
        have hIc := hIc.trans hI25
        have h247 := Sl.lit ([2, 4, 7] : List Int) rfl encI_len (show _ = some (Obj.cells (([2, 4, 7] : List Int).flatMap encI).toArray 3 (0, 0)) from hb25)
        refine XO_callV0 (cap := []) (vs := [_, _]) rfl rfl fun_14 (s_sameI hV h247 (by decide) rfl) rfl rfl ?_
        refine XO_v0 (ev_not rfl) rfl rfl rfl ?_
        refine XO_v0 (ev_move rfl) rfl rfl rfl ?_
        refine XO_want (dj := 166) rfl rfl rfl ?_
        refine XO_v0 (ev_move rfl) rfl rfl rfl ?_
        refine XO_want (dj := 166) rfl rfl rfl ?_
        refine XO_buildSlice (ps := [(0, _), (1, _)]) (m := [encI 2, encI 3]) elt_23 rfl (.cons rfl (.cons rfl (.nil))) rfl (by simp [encI_len, encP_len, encG_len, encC_len]) (by decide) (by decide) rfl rfl (fun b_168 => ?_)
        refine XO_freeze .here (fun I26 hI26 hb26 => ?_)
        have hB := hB.mono hI26
        have hP := hP.mono hI26
        have h7 := h7.mono hI26
        have hV := hV.mono hI26
        have h2 := h2.mono hI26
        have h3 := h3.mono hI26
        have hM := hM.mono hI26
        have hG1 := hG1.mono hI26
        have h234 := h234.mono hI26
        have hC2 := hC2.mono hI26
        have h2347 := h2347.mono hI26
        have hG2 := hG2.mono hI26
        have h2347b := h2347b.mono hI26
        have h1 := h1.mono hI26
        have h7b := h7b.mono hI26
        have hG4 := hG4.mono hI26
        have h1b := h1b.mono hI26
        have hPb := hPb.mono hI26
        have h247 := h247.mono hI26
        have hIc := hIc.trans hI26
        have h23 := Sl.lit ([2, 3] : List Int) rfl encI_len (show _ = some (Obj.cells (([2, 3] : List Int).flatMap encI).toArray 3 (0, 0)) from hb26)
        refine XO_want (dj := 166) rfl rfl rfl ?_
        refine XO_callV0 (cap := []) (vs := [_, _]) rfl rfl fun_14 (s_sameI hM h23 (by decide) rfl) rfl rfl ?_
        refine XO_want (dj := 166) rfl rfl rfl ?_
        refine XO_v0 (ev_not rfl) rfl rfl rfl ?_
        refine XO_v0 (ev_pickb rfl rfl rfl) rfl rfl rfl ?_
        refine XO_v0 (ev_move rfl) rfl rfl rfl ?_
        refine XO_want (dj := 172) rfl rfl rfl ?_
        refine XO_v0 (ev_move rfl) rfl rfl rfl ?_
        refine XO_want (dj := 172) rfl rfl rfl ?_
        refine XO_v0 (ev_lenS rfl slt_36) rfl rfl rfl ?_
        refine XO_want (dj := 172) rfl rfl rfl ?_
        refine XO_v0 (ev_cmp rfl rfl rfl) rfl rfl rfl ?_
        refine XO_v0 (ev_pickb rfl rfl rfl) rfl rfl rfl ?_
        refine XO_v0 (ev_move rfl) rfl rfl rfl ?_
        refine XO_want (dj := 177) rfl rfl rfl ?_
        refine XO_v0 (ev_move rfl) rfl rfl rfl ?_
        refine XO_want (dj := 177) rfl rfl rfl ?_
        refine XO_v0 (ev_lenS rfl slt_36) rfl rfl rfl ?_
        refine XO_want (dj := 177) rfl rfl rfl ?_
        refine XO_v0 (ev_cmp rfl rfl rfl) rfl rfl rfl ?_
        refine XO_v0 (ev_pickb rfl rfl rfl) rfl rfl rfl ?_
        refine XO_v0 (ev_move rfl) rfl rfl rfl ?_
        refine XO_want (dj := 182) rfl rfl rfl ?_
        refine XO_v0 (ev_move rfl) rfl rfl rfl ?_
        refine XO_want (dj := 182) rfl rfl rfl ?_
        refine XO_buildSlice (ps := [(0, _), (1, _)]) (m := [encI 2, encI 4]) elt_23 rfl (.cons rfl (.cons rfl (.nil))) rfl (by simp [encI_len, encP_len, encG_len, encC_len]) (by decide) (by decide) rfl rfl (fun b_184 => ?_)
        refine XO_freeze .here (fun I27 hI27 hb27 => ?_)
        have hB := hB.mono hI27
        have hP := hP.mono hI27
        have h7 := h7.mono hI27
        have hV := hV.mono hI27
        have h2 := h2.mono hI27
        have h3 := h3.mono hI27
        have hM := hM.mono hI27
        have hG1 := hG1.mono hI27
        have h234 := h234.mono hI27
        have hC2 := hC2.mono hI27
        have h2347 := h2347.mono hI27
        have hG2 := hG2.mono hI27
        have h2347b := h2347b.mono hI27
        have h1 := h1.mono hI27
        have h7b := h7b.mono hI27
        have hG4 := hG4.mono hI27
        have h1b := h1b.mono hI27
        have hPb := hPb.mono hI27
        have h247 := h247.mono hI27
        have h23 := h23.mono hI27
        have hIc := hIc.trans hI27
        have h24 := Sl.lit ([2, 4] : List Int) rfl encI_len (show _ = some (Obj.cells (([2, 4] : List Int).flatMap encI).toArray 3 (0, 0)) from hb27)
        refine XO_want (dj := 182) rfl rfl rfl ?_
        refine XO_v0 (ev_buildL (ps := [(0, _), (1, _), (2, _)]) [_, _, _] plt_60 rfl rfl) rfl rfl rfl ?_
        refine XO_want (dj := 182) rfl rfl rfl ?_
        refine XO_buildSlice (ps := [(0, _)]) (m := [encC ⟨1, 5, some ⟨b_184, 0, none⟩, 2, 2, [2, 4]⟩]) elt_36 rfl (.cons rfl (.nil)) rfl (by simp [encI_len, encP_len, encG_len, encC_len]) (by decide) (by decide) rfl rfl (fun b_186 => ?_)
        refine XO_freeze .here (fun I28 hI28 hb28 => ?_)
        have hB := hB.mono hI28
        have hP := hP.mono hI28
        have h7 := h7.mono hI28
        have hV := hV.mono hI28
        have h2 := h2.mono hI28
        have h3 := h3.mono hI28
        have hM := hM.mono hI28
        have hG1 := hG1.mono hI28
        have h234 := h234.mono hI28
        have hC2 := hC2.mono hI28
        have h2347 := h2347.mono hI28
        have hG2 := hG2.mono hI28
        have h2347b := h2347b.mono hI28
        have h1 := h1.mono hI28
        have h7b := h7b.mono hI28
        have hG4 := hG4.mono hI28
        have h1b := h1b.mono hI28
        have hPb := hPb.mono hI28
        have h247 := h247.mono hI28
        have h23 := h23.mono hI28
        have h24 := h24.mono hI28
        have hIc := hIc.trans hI28
        have hD1 := conf_one hb28 h24
        refine XO_want (dj := 182) rfl rfl rfl ?_
        refine XO_callV0 (cap := []) (vs := [_, _]) rfl rfl fun_20 (s_sameC hC2 hk2 hD1) rfl rfl ?_
        refine XO_want (dj := 182) rfl rfl rfl ?_
        refine XO_v0 (ev_not rfl) rfl rfl rfl ?_
        refine XO_v0 (ev_pickb rfl rfl rfl) rfl rfl rfl ?_
        refine XO_nil ?_
        refine at_then ?_
        refine X_cond rfl (fun hc189 => ?_) (fun hc189 => ?_)
        · skip
          exact absurd hc189 (by decide)
        · skip
          refine X_skip ?_
          refine at_then ?_
          refine X_seq ?_
          refine X_region ?_
          refine XO_v0 (ev_move rfl) rfl rfl rfl ?_
          refine XO_v0 (ev_loadA rfl agt_45 (fun hg => by first | exact Sl.getA (k := 0) (x := g1) hB rfl | exact Cells.g0 | exact Cells.g1 | exact Cells.g2 | exact Cells.g3 | exact Cells.g4 | exact Cells.g5 | exact Cells.s0 (vs := [_, _, _, _, _, _, _, _, _, _, _, _, _, _]) rfl | exact Cells.s1 (vs := [_, _, _, _, _, _, _, _, _, _, _, _, _, _]) rfl | exact Cells.s2 (vs := [_, _, _, _, _, _, _, _, _, _, _, _, _, _]) rfl | exact Cells.s3 (vs := [_, _, _, _, _, _, _, _, _, _, _, _, _, _]) rfl | exact Cells.s4 (vs := [_, _, _, _, _, _, _, _, _, _, _, _, _, _]) rfl | exact Cells.s5 (vs := [_, _, _, _, _, _, _, _, _, _, _, _, _, _]) rfl | (repeat (first | exact Cells.here | apply Cells.there | apply Cells.app))) rfl) rfl rfl rfl ?_
          refine XO_buildSlice (ps := [(0, _)]) (m := [encG g2]) elt_33 rfl (.cons rfl (.nil)) rfl (by simp [encI_len, encP_len, encG_len, encC_len]) (by decide) (by decide) rfl rfl (fun b_192 => ?_)
          refine XO_freeze .here (fun I29 hI29 hb29 => ?_)
          have hB := hB.mono hI29
          have hP := hP.mono hI29
          have h7 := h7.mono hI29
          have hV := hV.mono hI29
          have h2 := h2.mono hI29
          have h3 := h3.mono hI29
          have hM := hM.mono hI29
          have hG1 := hG1.mono hI29
          have h234 := h234.mono hI29
          have hC2 := hC2.mono hI29
          have h2347 := h2347.mono hI29
          have hG2 := hG2.mono hI29
          have h2347b := h2347b.mono hI29
          have h1 := h1.mono hI29
          have h7b := h7b.mono hI29
          have hG4 := hG4.mono hI29
          have h1b := h1b.mono hI29
          have hPb := hPb.mono hI29
          have h247 := h247.mono hI29
          have h23 := h23.mono hI29
          have h24 := h24.mono hI29
          have hD1 := hD1.mono hI29
          have hIc := hIc.trans hI29
          have hg2 := Sl.lit ([g2] : List Sg) rfl encG_len (show _ = some (Obj.cells (([g2] : List Sg).flatMap encG).toArray 45 (0, 0)) from hb29)
          refine XO_callV0 (cap := []) (vs := [_, _]) rfl rfl fun_19 (s_sameG hG1 hg2 (by decide) rfl) rfl rfl ?_
          refine XO_v0 (ev_move rfl) rfl rfl rfl ?_
          refine XO_want (dj := 194) rfl rfl rfl ?_
          refine XO_v0 (ev_move rfl) rfl rfl rfl ?_
          refine XO_want (dj := 194) rfl rfl rfl ?_
          refine XO_v0 (ev_loadA rfl agt_45 (fun hg => by first | exact Sl.getA (k := 0) (x := g1) hB rfl | exact Cells.g0 | exact Cells.g1 | exact Cells.g2 | exact Cells.g3 | exact Cells.g4 | exact Cells.g5 | exact Cells.s0 (vs := [_, _, _, _, _, _, _, _, _, _, _, _, _, _]) rfl | exact Cells.s1 (vs := [_, _, _, _, _, _, _, _, _, _, _, _, _, _]) rfl | exact Cells.s2 (vs := [_, _, _, _, _, _, _, _, _, _, _, _, _, _]) rfl | exact Cells.s3 (vs := [_, _, _, _, _, _, _, _, _, _, _, _, _, _]) rfl | exact Cells.s4 (vs := [_, _, _, _, _, _, _, _, _, _, _, _, _, _]) rfl | exact Cells.s5 (vs := [_, _, _, _, _, _, _, _, _, _, _, _, _, _]) rfl | (repeat (first | exact Cells.here | apply Cells.there | apply Cells.app))) rfl) rfl rfl rfl ?_
          refine XO_want (dj := 194) rfl rfl rfl ?_
          refine XO_buildSlice (ps := [(0, _)]) (m := [encG g3]) elt_33 rfl (.cons rfl (.nil)) rfl (by simp [encI_len, encP_len, encG_len, encC_len]) (by decide) (by decide) rfl rfl (fun b_197 => ?_)
          refine XO_freeze .here (fun I30 hI30 hb30 => ?_)
          have hB := hB.mono hI30
          have hP := hP.mono hI30
          have h7 := h7.mono hI30
          have hV := hV.mono hI30
          have h2 := h2.mono hI30
          have h3 := h3.mono hI30
          have hM := hM.mono hI30
          have hG1 := hG1.mono hI30
          have h234 := h234.mono hI30
          have hC2 := hC2.mono hI30
          have h2347 := h2347.mono hI30
          have hG2 := hG2.mono hI30
          have h2347b := h2347b.mono hI30
          have h1 := h1.mono hI30
          have h7b := h7b.mono hI30
          have hG4 := hG4.mono hI30
          have h1b := h1b.mono hI30
          have hPb := hPb.mono hI30
          have h247 := h247.mono hI30
          have h23 := h23.mono hI30
          have h24 := h24.mono hI30
          have hD1 := hD1.mono hI30
          have hg2 := hg2.mono hI30
          have hIc := hIc.trans hI30
          have hg3 := Sl.lit ([g3] : List Sg) rfl encG_len (show _ = some (Obj.cells (([g3] : List Sg).flatMap encG).toArray 45 (0, 0)) from hb30)
          refine XO_want (dj := 194) rfl rfl rfl ?_
          refine XO_callV0 (cap := []) (vs := [_, _]) rfl rfl fun_19 (s_sameG hG2 hg3 (by decide) rfl) rfl rfl ?_
          refine XO_v0 (ev_pickb rfl rfl rfl) rfl rfl rfl ?_
          refine XO_v0 (ev_move rfl) rfl rfl rfl ?_
          refine XO_want (dj := 200) rfl rfl rfl ?_
          refine XO_v0 (ev_move rfl) rfl rfl rfl ?_
          refine XO_want (dj := 200) rfl rfl rfl ?_
          refine XO_v0 (ev_move rfl) rfl rfl rfl ?_
          refine XO_want (dj := 200) rfl rfl rfl ?_
          refine XO_callV0 (cap := []) (vs := [_, _]) rfl rfl fun_19 (s_sameG hG4 hB (by decide) rfl) rfl rfl ?_
          refine XO_v0 (ev_pickb rfl rfl rfl) rfl rfl rfl ?_
          refine XO_v0 (ev_assign rfl) rfl rfl rfl ?_
          refine XO_nil ?_
          refine at_then ?_
          refine X_ret ?_
          first
          | exact at_ret1 rfl rfl (fun w hw => ⟨by rfl, (hw.mono hIc).drop⟩)
end Go.Proofs.YtccomeanpppfmaaGreat
end
section
namespace Go.Proofs.YtccomeanpppfmaaGreat
open Go Go.Kn Go.Proofs
section
variable {α : Type} {P : α → Bool} {xs : List α} {k : Nat} {x : α}
theorem flt_yes (hx : xs[k]? = some x) (h : P x = true) : (xs.take (k + 1)).filter P = (xs.take k).filter P ++ [x] := by
  rw [take_snoc hx, List.filter_append, List.filter_cons, if_pos h]; rfl
theorem flt_no (hx : xs[k]? = some x) (h : P x = false) : (xs.take (k + 1)).filter P = (xs.take k).filter P := by
  rw [take_snoc hx, List.filter_append, List.filter_cons, if_neg (by rw [h]; exact Bool.false_ne_true)]; simp
end
end Go.Proofs.YtccomeanpppfmaaGreat
end
section
namespace Go.Proofs.YtccomeanpppfmaaGreat
open Go Go.Kn Go.Proofs
theorem gcd_step {a b a0 b0 : Nat} (h : Nat.gcd a b = Nat.gcd a0 b0) : Nat.gcd b (a % b) = Nat.gcd a0 b0 :=
  (Nat.gcd_comm b (a % b)).trans ((Nat.gcd_rec b a).symm.trans ((Nat.gcd_comm b a).trans h))
theorem gcdI_nat {a b : Int} (ha : 0 ≤ a) (hb : 0 ≤ b) : ((Nat.gcd a.toNat b.toNat : Nat) : Int) = gcdI a b := by
  unfold gcdI Int.gcd
  congr 2 <;> omega
theorem gcdI_mag (n d : Int) : gcdI (magI n) d = gcdI n d := by
  unfold gcdI Int.gcd
  have : (magI n).natAbs = n.natAbs := by unfold magI; split <;> omega
  rw [this]
theorem magI_in {n : Int} (h : -1073741824 ≤ n ∧ n ≤ 1073741824) : 0 ≤ magI n ∧ magI n ≤ 1073741824 := by unfold magI; split <;> omega
theorem valid_eq (n d : Int) : (((((decide (d ≥ 1) && decide (d ≤ 1073741824)) && decide (n ≥ -1073741824)) && decide (n ≤ 1073741824)) && (gcdI (magI n) d == 1))) = ratF n d := by
  unfold ratF
  rw [gcdI_mag, Bool.eq_iff_iff]
  simp only [Bool.and_eq_true, decide_eq_true_eq, beq_iff_eq, Bool.not_eq_true', Bool.or_eq_false_iff, decide_eq_false_iff_not, bne_eq_false_iff_eq]
  omega
theorem spanR_eq (fn fd tn td : Int) : ((((ratF fn fd && ratF tn td) && decide (fn ≥ 0)) && decide (fn * td < tn * fd)) && decide (tn ≤ td)) = spanF fn fd tn td := by
  unfold spanF
  generalize (ratF fn fd && ratF tn td) = a
  generalize decide (fn ≥ 0) = b
  generalize decide (fn * td < tn * fd) = c
  generalize decide (tn ≤ td) = d
  cases a <;> cases b <;> cases c <;> cases d <;> rfl
def frA (x : Sg) : Bool := (((!within x.id 0 1048576 || !within x.role 0 63) || !within x.bar 0 4095) || !within x.kind 1 9) || !within x.mark 1 3
def frB (x : Sg) : Bool := (((!within x.side 0 2 || !within x.dir 0 8) || !within x.level 0 3) || !within x.size 0 255) || !within x.wth 0 64
theorem frm_ab (x : Sg) : frm x = ((!frA x && !frB x) && spanF x.fn x.fd x.tn x.td) := by
  unfold frm frmL frA frB
  generalize within x.id 0 1048576 = b1
  generalize within x.role 0 63 = b2
  generalize within x.bar 0 4095 = b3
  generalize within x.kind 1 9 = b4
  generalize within x.mark 1 3 = b5
  generalize within x.side 0 2 = b6
  generalize within x.dir 0 8 = b7
  generalize within x.level 0 3 = b8
  generalize within x.size 0 255 = b9
  generalize within x.wth 0 64 = b10
  cases b1 <;> cases b2 <;> cases b3 <;> cases b4 <;> cases b5 <;> first | rfl | (cases b6 <;> cases b7 <;> cases b8 <;> cases b9 <;> cases b10 <;> rfl)
theorem frm_a {x : Sg} (h : frA x = true) : frm x = false := by rw [frm_ab, h]; rfl
theorem frm_b {x : Sg} (h : frB x = true) : frm x = false := by rw [frm_ab, h]; simp
theorem frm_c {x : Sg} (h : frA x = false) (h2 : frB x = false) : frm x = spanF x.fn x.fd x.tn x.td := by rw [frm_ab, h, h2]; rfl
theorem chkG_1 {xs : List Sg} (h : xs.length > 4096) : chkG xs = 2 := by unfold chkG; rw [if_pos h]
theorem chkG_2 {xs : List Sg} (h : ¬ xs.length > 4096) (h2 : skB xs = false) : chkG xs = 360 := by unfold chkG; rw [if_neg h, h2]; rfl
theorem chkG_3 {xs : List Sg} (h : ¬ xs.length > 4096) (h2 : skB xs = true) : chkG xs = 0 := by unfold chkG; rw [if_neg h, h2]; rfl
theorem idB_no (p : Pt) : (((decide (p.id < 1) || decide (p.id > 1048576)) || decide (p.sign < 0)) || decide (p.sign > 1048576)) = !idB p := by
  unfold idB
  rw [Bool.eq_iff_iff]
  simp only [Bool.or_eq_true, decide_eq_true_eq, Bool.not_eq_true', Bool.and_eq_false_iff, decide_eq_false_iff_not]
  omega
def vldB (p : Pt) : Bool := idB p && (ndB p.id p.needs && kndB p)
theorem vld_id {p : Pt} (h : idB p = false) : vldB p = false := by unfold vldB; rw [h]; rfl
theorem vld_nd {p : Pt} (h : ndB p.id p.needs = false) : vldB p = false := by unfold vldB; rw [h, Bool.false_and, Bool.and_false]
theorem vld_k {p : Pt} (h : idB p = true) (h2 : ndB p.id p.needs = true) : vldB p = kndB p := by unfold vldB; rw [h, h2]; rfl
theorem vld_chk {p : Pt} (h : ¬ p.needs.length > 32) : (if vldB p = true then (0 : Int) else 370) = pchk p := by
  unfold pchk vldB
  rw [if_neg h]
  cases idB p <;> cases ndB p.id p.needs <;> cases kndB p <;> rfl
theorem within_19 {f : Int} (h : (decide (f < 1) || decide (f > 9)) = false) : within f 1 9 = true ∧ isF f := by
  simp only [Bool.or_eq_false_iff, decide_eq_false_iff_not] at h
  unfold within isF
  simp; omega
theorem within_19n {f : Int} (h : (decide (f < 1) || decide (f > 9)) = true) : within f 1 9 = false := by
  simp only [Bool.or_eq_true, decide_eq_true_eq] at h
  unfold within
  simp; omega
theorem knd_set {p : Pt} (hk : p.kind = 1) (h : (decide (p.field < 1) || decide (p.field > 9)) = false) : (sgEq (setG zeroG p.field p.nw) p.nw && frm (setG plainR p.field p.nw)) = kndB p := by
  obtain ⟨h1, h2⟩ := within_19 h
  rw [knd_1 hk h1, set_zero h2, frm_plain h2]
theorem knd_0 {p : Pt} (hk : p.kind = 1) (h : (decide (p.field < 1) || decide (p.field > 9)) = true) : kndB p = false := by
  unfold kndB; rw [if_pos hk, within_19n h]; rfl
end Go.Proofs.YtccomeanpppfmaaGreat
end
section
namespace Go.Proofs.YtccomeanpppfmaaGreat
open Go Go.Kn Go.Proofs
theorem fun_138 : Fun Tryz.prog 138 := .of Tryz.func138 (by kernel_rfl) (by kernel_rfl)
theorem fun_177 : Fun Tryz.prog 177 := .of Tryz.func177 (by kernel_rfl) (by kernel_rfl)
theorem fun_190 : Fun Tryz.prog 190 := .of Tryz.func190 (by kernel_rfl) (by kernel_rfl)
theorem fun_191 : Fun Tryz.prog 191 := .of Tryz.func191 (by kernel_rfl) (by kernel_rfl)
theorem fun_195 : Fun Tryz.prog 195 := .of Tryz.func195 (by kernel_rfl) (by kernel_rfl)
theorem fun_196 : Fun Tryz.prog 196 := .of Tryz.func196 (by kernel_rfl) (by kernel_rfl)
theorem fun_197 : Fun Tryz.prog 197 := .of Tryz.func197 (by kernel_rfl) (by kernel_rfl)
theorem fun_198 : Fun Tryz.prog 198 := .of Tryz.func198 (by kernel_rfl) (by kernel_rfl)
theorem fun_199 : Fun Tryz.prog 199 := .of Tryz.func199 (by kernel_rfl) (by kernel_rfl)
theorem fun_83 : Fun Tryz.prog 83 := .of Tryz.func83 (by kernel_rfl) (by kernel_rfl)
theorem r_div (I : HMap) (a0 b0 : Nat) (ha : a0 ≤ 1073741824) (hb : b0 ≤ 1073741824) : RetV Tryz.prog 198 [.int .i64 a0, .int .i64 b0] I (.int .i64 (Nat.gcd a0 b0 : Nat)) := by
  intro g H w hw
  refine enter Tryz.func198 rfl Tryz.ntmps198 rfl hw ?_
  refine X_seq ?_
  refine X_region ?_
  refine XO_v0 (ev_assign rfl) rfl rfl rfl ?_
  refine XO_nil ?_
  refine at_then ?_
  refine X_seq ?_
  refine X_block ?_
  refine X_loopT [] .nil (fun T L0 mz E I' loc' => ∃ (a b : Nat), mz = (b + 1) ∧ E = (0, .int .i64 a) :: (1, .int .i64 b) :: T ∧ I = I' ∧ L0 = loc' ∧ Nat.gcd a b = Nat.gcd a0 b0) _ _ _ _ ⟨a0, b0, rfl, rfl, rfl, rfl, rfl⟩ (.cons rfl (.cons rfl .nil)) (HLe.refl _) rfl ?_
  rintro mz E I' loc' ⟨a, b, rfl, rfl, rfl, rfl, hgc⟩
  refine X_seq ?_
  refine X_seq ?_
  refine X_region ?_
  refine XO_v0 (ev_move rfl) rfl rfl rfl ?_
  refine XO_v0 (ev_cmp rfl rfl rfl) rfl rfl rfl ?_
  refine XO_nil ?_
  refine at_then ?_
  refine X_cond rfl (fun hc7 => ?_) (fun hc7 => ?_)
  · skip
    have hbp : 0 < b := by have h := hc7; simp at h; omega
    refine X_skip ?_
    refine at_then ?_
    refine X_block ?_
    refine X_seq ?_
    refine X_region ?_
    refine XO_v0 (ev_move rfl) rfl rfl rfl ?_
    refine XO_v0 (ev_move rfl) rfl rfl rfl ?_
    refine XO_v0 (ev_rem rfl rfl (fun hg => by omega)) rfl rfl rfl ?_
    rw [tmod_nat]
    refine XO_v0 (ev_assign rfl) rfl rfl rfl ?_
    refine XO_nil ?_
    refine at_then ?_
    refine X_seq ?_
    refine X_region ?_
    refine XO_v0 (ev_move rfl) rfl rfl rfl ?_
    refine XO_v0 (ev_assign rfl) rfl rfl rfl ?_
    refine XO_nil ?_
    refine at_then ?_
    refine X_region ?_
    refine XO_v0 (ev_move rfl) rfl rfl rfl ?_
    refine XO_v0 (ev_assign rfl) rfl rfl rfl ?_
    refine XO_nil ?_
    refine at_block_n ?_
    exact at_met2 _ _ ⟨a % b + 1, Nat.succ_lt_succ (Nat.mod_lt _ hbp), b, a % b, rfl, rfl, rfl, rfl, gcd_step hgc⟩ (.cons rfl (.cons rfl .nil)) (by repeat (first | exact .refl | exact subL_left | refine subL_app ?_ | refine .drop ?_ | refine subL_add ?_))
  · skip
    have hb0 : b = 0 := by have h := hc7; simp at h; omega
    refine X_exit ?_
    refine at_then_e ?_
    refine at_then_e ?_
    refine at_block_hit ?_
    refine at_then ?_
    refine X_seq ?_
    refine X_region ?_
    refine XO_v0 (ev_move rfl) rfl rfl rfl ?_
    refine XO_v0 (ev_assign rfl) rfl rfl rfl ?_
    refine XO_nil ?_
    refine at_then ?_
    refine X_ret ?_
    exact at_ret1 rfl rfl (fun w hw => ⟨by rw [← hgc, hb0, Nat.gcd_zero_right], hw.drop⟩)
theorem r_divI (I : HMap) (a b : Int) (ha : 0 ≤ a ∧ a ≤ 1073741824) (hb : 0 ≤ b ∧ b ≤ 1073741824) : RetV Tryz.prog 198 [.int .i64 a, .int .i64 b] I (.int .i64 (gcdI a b)) := by
  have h := r_div I a.toNat b.toNat (by omega) (by omega)
  rw [Int.toNat_of_nonneg ha.1, Int.toNat_of_nonneg hb.1, gcdI_nat ha.1 hb.1] at h
  exact h
theorem r_size (I : HMap) (n : Int) (hn : -1073741824 ≤ n ∧ n ≤ 1073741824) : RetV Tryz.prog 199 [.int .i64 n] I (.int .i64 (magI n)) := by
  intro g H w hw
  refine enter Tryz.func199 rfl Tryz.ntmps199 rfl hw ?_
  refine X_seq ?_
  refine X_region ?_
  refine XO_v0 (ev_assign rfl) rfl rfl rfl ?_
  refine XO_nil ?_
  refine at_then ?_
  refine X_seq ?_
  refine X_seq ?_
  refine X_region ?_
  refine XO_v0 (ev_move rfl) rfl rfl rfl ?_
  refine XO_v0 (ev_cmp rfl rfl rfl) rfl rfl rfl ?_
  refine XO_nil ?_
  refine at_then ?_
  refine X_cond rfl (fun hc4 => ?_) (fun hc4 => ?_)
  · skip
    refine X_seq ?_
    refine X_region ?_
    refine XO_v0 (ev_move rfl) rfl rfl rfl ?_
    refine XO_v0 (ev_neg rfl) rfl rfl rfl ?_
    refine XO_v0 (ev_assign rfl) rfl rfl rfl ?_
    refine XO_nil ?_
    refine at_then ?_
    refine X_ret ?_
    refine at_then_r ?_
    first
    | exact at_ret1 rfl rfl (fun w hw => ⟨by unfold magI; rw [if_pos (by simpa using hc4), wrap_in (by omega)], hw.drop⟩)
    | exact at_ret1 rfl rfl (fun w hw => ⟨by unfold magI; rw [if_neg (by simpa using hc4)], hw.drop⟩)
  · skip
    refine X_skip ?_
    refine at_then ?_
    refine X_seq ?_
    refine X_region ?_
    refine XO_v0 (ev_move rfl) rfl rfl rfl ?_
    refine XO_v0 (ev_assign rfl) rfl rfl rfl ?_
    refine XO_nil ?_
    refine at_then ?_
    refine X_ret ?_
    first
    | exact at_ret1 rfl rfl (fun w hw => ⟨by unfold magI; rw [if_pos (by simpa using hc4), wrap_in (by omega)], hw.drop⟩)
    | exact at_ret1 rfl rfl (fun w hw => ⟨by unfold magI; rw [if_neg (by simpa using hc4)], hw.drop⟩)
theorem r_valid (I : HMap) (n d : Int) : RetV Tryz.prog 197 [encRA (n) (d)] I (.bool (ratF n d)) := by
  intro g H w hw
  refine enter Tryz.func197 rfl Tryz.ntmps197 rfl hw ?_
  refine X_seq ?_
  refine X_region ?_
  refine XO_box rfl rfl rfl (fun b_1 => ?_)
  refine XO_v0 (ev_assign rfl) rfl rfl rfl ?_
  refine XO_nil ?_
  refine at_then ?_
  refine X_seq ?_
  refine X_draw mixed (by kernel_rfl) ?_
  refine XQ_v0 (ev_fieldAddr rfl fld_43_1) rfl rfl rfl ?_
  refine XQ_v0 (ev_load rfl sct_3 (fun hg => by first | exact Cell.h0 rfl | exact Cell.h1 rfl | exact Cell.h2 rfl | exact Cell.h3 rfl | exact Cell.h4 rfl | exact Cell.h5 rfl | (repeat (first | exact Cell.here rfl | apply Cell.there | apply Cell.app)))) rfl rfl rfl ?_
  refine XQ_v0 (ev_cmp rfl rfl rfl) rfl rfl rfl ?_
  refine XQ_v0 (ev_move rfl) rfl rfl rfl ?_
  refine XQ_pushT 3 rfl rfl rfl ?_
  refine XQ_v1 (ev_fieldAddr rfl fld_43_1) (.some rfl rfl rfl rfl gbt) rfl rfl rfl ?_
  refine XQ_v1 (ev_load rfl sct_3 (fun hg => by first | exact Cell.h0 rfl | exact Cell.h1 rfl | exact Cell.h2 rfl | exact Cell.h3 rfl | exact Cell.h4 rfl | exact Cell.h5 rfl | (repeat (first | exact Cell.here rfl | apply Cell.there | apply Cell.app)))) (.some rfl rfl rfl rfl gbt) rfl rfl rfl ?_
  refine XQ_v1 (ev_cmp rfl rfl rfl) (.some rfl rfl rfl rfl gbt) rfl rfl rfl ?_
  refine XQ_and0 rfl rfl rfl rfl rfl ?_
  refine XQ_v0 (ev_move rfl) rfl rfl rfl ?_
  refine XQ_pushT 8 rfl rfl rfl ?_
  refine XQ_v1 (ev_fieldAddr rfl fld_43_0) (.some rfl rfl rfl rfl gbt) rfl rfl rfl ?_
  refine XQ_v1 (ev_load rfl sct_3 (fun hg => by first | exact Cell.h0 rfl | exact Cell.h1 rfl | exact Cell.h2 rfl | exact Cell.h3 rfl | exact Cell.h4 rfl | exact Cell.h5 rfl | (repeat (first | exact Cell.here rfl | apply Cell.there | apply Cell.app)))) (.some rfl rfl rfl rfl gbt) rfl rfl rfl ?_
  refine XQ_v1 (ev_cmp rfl rfl rfl) (.some rfl rfl rfl rfl gbt) rfl rfl rfl ?_
  refine XQ_and0 rfl rfl rfl rfl rfl ?_
  refine XQ_v0 (ev_move rfl) rfl rfl rfl ?_
  refine XQ_pushT 13 rfl rfl rfl ?_
  refine XQ_v1 (ev_fieldAddr rfl fld_43_0) (.some rfl rfl rfl rfl gbt) rfl rfl rfl ?_
  refine XQ_v1 (ev_load rfl sct_3 (fun hg => by first | exact Cell.h0 rfl | exact Cell.h1 rfl | exact Cell.h2 rfl | exact Cell.h3 rfl | exact Cell.h4 rfl | exact Cell.h5 rfl | (repeat (first | exact Cell.here rfl | apply Cell.there | apply Cell.app)))) (.some rfl rfl rfl rfl gbt) rfl rfl rfl ?_
  refine XQ_v1 (ev_cmp rfl rfl rfl) (.some rfl rfl rfl rfl gbt) rfl rfl rfl ?_
  refine XQ_and0 rfl rfl rfl rfl rfl ?_
  refine XQ_v0 (ev_move rfl) rfl rfl rfl ?_
  refine XQ_pushT 18 rfl rfl rfl ?_
  refine XQ_v1 (ev_fieldAddr rfl fld_43_0) (.some rfl rfl rfl rfl gbt) rfl rfl rfl ?_
  refine XQ_v1 (ev_load rfl sct_3 (fun hg => by first | exact Cell.h0 rfl | exact Cell.h1 rfl | exact Cell.h2 rfl | exact Cell.h3 rfl | exact Cell.h4 rfl | exact Cell.h5 rfl | (repeat (first | exact Cell.here rfl | apply Cell.there | apply Cell.app)))) (.some rfl rfl rfl rfl gbt) rfl rfl rfl ?_
  refine XQ_callV1 (cap := []) (vs := [_]) rfl rfl fun_199 (fun hg => r_size I n (by simp [conj] at hg; omega)) (.some rfl rfl rfl rfl gbt) rfl rfl ?_
  refine XQ_v1 (ev_fieldAddr rfl fld_43_1) (.some rfl rfl rfl rfl gbt) rfl rfl rfl ?_
  refine XQ_v1 (ev_load rfl sct_3 (fun hg => by first | exact Cell.h0 rfl | exact Cell.h1 rfl | exact Cell.h2 rfl | exact Cell.h3 rfl | exact Cell.h4 rfl | exact Cell.h5 rfl | (repeat (first | exact Cell.here rfl | apply Cell.there | apply Cell.app)))) (.some rfl rfl rfl rfl gbt) rfl rfl rfl ?_
  refine XQ_callV1 (cap := []) (vs := [_, _]) rfl rfl fun_198 (fun hg => r_divI I _ d (magI_in (by simp [conj] at hg; omega)) (by simp [conj] at hg; omega)) (.some rfl rfl rfl rfl gbt) rfl rfl ?_
  refine XQ_v1 (ev_cmp rfl rfl rfl) (.some rfl rfl rfl rfl gbt) rfl rfl rfl ?_
  refine XQ_and0 rfl rfl rfl rfl rfl ?_
  refine XQ_v0 (ev_assign rfl) rfl rfl rfl ?_
  refine XQ_nil ?_
  refine at_then ?_
  refine X_ret ?_
  exact at_ret1 rfl rfl (fun w hw => ⟨by rw [← valid_eq], hw.drop⟩)
theorem r_both (I : HMap) (an ad bn bd : Int) : RetV Tryz.prog 195 [encRA (an) (ad), encRA (bn) (bd)] I (.bool (ratF an ad && ratF bn bd)) := by
  intro g H w hw
  refine enter Tryz.func195 rfl Tryz.ntmps195 rfl hw ?_
  refine X_seq ?_
  refine X_region ?_
  refine XO_box rfl rfl rfl (fun b_2 => ?_)
  refine XO_box rfl rfl rfl (fun b_3 => ?_)
  refine XO_v0 (ev_assign rfl) rfl rfl rfl ?_
  refine XO_nil ?_
  refine at_then ?_
  refine X_seq ?_
  refine X_region ?_
  refine XO_v0 (ev_loadA rfl agt_43 (fun hg => by first | exact Cells.g0 | exact Cells.g1 | exact Cells.g2 | exact Cells.g3 | exact Cells.g4 | exact Cells.g5 | exact Cells.s0 (vs := [_, _]) rfl | exact Cells.s1 (vs := [_, _]) rfl | exact Cells.s2 (vs := [_, _]) rfl | exact Cells.s3 (vs := [_, _]) rfl | exact Cells.s4 (vs := [_, _]) rfl | exact Cells.s5 (vs := [_, _]) rfl | (repeat (first | exact Cells.here | apply Cells.there | apply Cells.app))) rfl) rfl rfl rfl ?_
  refine XO_callV0 (cap := []) (vs := [_]) rfl rfl fun_197 (r_valid I _ _) rfl rfl ?_
  refine XO_v0 (ev_move rfl) rfl rfl rfl ?_
  refine XO_pushT 2 rfl rfl rfl ?_
  refine XO_v1 (ev_loadA rfl agt_43 (fun hg => by first | exact Cells.g0 | exact Cells.g1 | exact Cells.g2 | exact Cells.g3 | exact Cells.g4 | exact Cells.g5 | exact Cells.s0 (vs := [_, _]) rfl | exact Cells.s1 (vs := [_, _]) rfl | exact Cells.s2 (vs := [_, _]) rfl | exact Cells.s3 (vs := [_, _]) rfl | exact Cells.s4 (vs := [_, _]) rfl | exact Cells.s5 (vs := [_, _]) rfl | (repeat (first | exact Cells.here | apply Cells.there | apply Cells.app))) rfl) (.some rfl rfl rfl rfl gbt) rfl rfl rfl ?_
  refine XO_callV1 (cap := []) (vs := [_]) rfl rfl fun_197 (fun hg => r_valid I _ _) (.some rfl rfl rfl rfl gbt) rfl rfl ?_
  refine XO_and0 rfl rfl rfl rfl rfl ?_
  refine XO_v0 (ev_assign rfl) rfl rfl rfl ?_
  refine XO_nil ?_
  refine at_then ?_
  refine X_ret ?_
  exact at_ret1 rfl rfl (fun w hw => ⟨by rfl, hw.drop⟩)
theorem r_less (I : HMap) (an ad bn bd : Int) (ha : ratF an ad = true) (hb : ratF bn bd = true) : RetV Tryz.prog 196 [encRA (an) (ad), encRA (bn) (bd)] I (.bool (decide (an * bd < bn * ad))) := by
  intro g H w hw
  refine enter Tryz.func196 rfl Tryz.ntmps196 rfl hw ?_
  have ⟨ha1, ha2⟩ := ratF_in ha
  have ⟨hb1, hb2⟩ := ratF_in hb
  refine X_seq ?_
  refine X_region ?_
  refine XO_box rfl rfl rfl (fun b_2 => ?_)
  refine XO_box rfl rfl rfl (fun b_3 => ?_)
  refine XO_v0 (ev_assign rfl) rfl rfl rfl ?_
  refine XO_nil ?_
  refine at_then ?_
  refine X_seq ?_
  refine X_region ?_
  refine XO_v0 (ev_fieldAddr rfl fld_43_0) rfl rfl rfl ?_
  refine XO_v0 (ev_load rfl sct_3 (fun hg => by first | exact Cell.h0 rfl | exact Cell.h1 rfl | exact Cell.h2 rfl | exact Cell.h3 rfl | exact Cell.h4 rfl | exact Cell.h5 rfl | (repeat (first | exact Cell.here rfl | apply Cell.there | apply Cell.app)))) rfl rfl rfl ?_
  refine XO_v0 (ev_fieldAddr rfl fld_43_1) rfl rfl rfl ?_
  refine XO_v0 (ev_load rfl sct_3 (fun hg => by first | exact Cell.h0 rfl | exact Cell.h1 rfl | exact Cell.h2 rfl | exact Cell.h3 rfl | exact Cell.h4 rfl | exact Cell.h5 rfl | (repeat (first | exact Cell.here rfl | apply Cell.there | apply Cell.app)))) rfl rfl rfl ?_
  refine XO_v0 (ev_arB rfl rfl rfl (fun _ => by exact mul_b (by omega) (by omega))) rfl rfl rfl ?_
  refine XO_v0 (ev_fieldAddr rfl fld_43_0) rfl rfl rfl ?_
  refine XO_v0 (ev_load rfl sct_3 (fun hg => by first | exact Cell.h0 rfl | exact Cell.h1 rfl | exact Cell.h2 rfl | exact Cell.h3 rfl | exact Cell.h4 rfl | exact Cell.h5 rfl | (repeat (first | exact Cell.here rfl | apply Cell.there | apply Cell.app)))) rfl rfl rfl ?_
  refine XO_v0 (ev_fieldAddr rfl fld_43_1) rfl rfl rfl ?_
  refine XO_v0 (ev_load rfl sct_3 (fun hg => by first | exact Cell.h0 rfl | exact Cell.h1 rfl | exact Cell.h2 rfl | exact Cell.h3 rfl | exact Cell.h4 rfl | exact Cell.h5 rfl | (repeat (first | exact Cell.here rfl | apply Cell.there | apply Cell.app)))) rfl rfl rfl ?_
  refine XO_v0 (ev_arB rfl rfl rfl (fun _ => by exact mul_b (by omega) (by omega))) rfl rfl rfl ?_
  refine XO_v0 (ev_cmp rfl rfl rfl) rfl rfl rfl ?_
  refine XO_v0 (ev_assign rfl) rfl rfl rfl ?_
  refine XO_nil ?_
  refine at_then ?_
  refine X_ret ?_
  exact at_ret1 rfl rfl (fun w hw => ⟨by rfl, hw.drop⟩)
theorem r_within (I : HMap) (n lo hi : Int) : RetV Tryz.prog 190 [.int .i64 n, .int .i64 lo, .int .i64 hi] I (.bool (within n lo hi)) := by
  intro g H w hw
  refine enter Tryz.func190 rfl Tryz.ntmps190 rfl hw ?_
  refine X_seq ?_
  refine X_region ?_
  refine XO_v0 (ev_assign rfl) rfl rfl rfl ?_
  refine XO_nil ?_
  refine at_then ?_
  refine X_seq ?_
  refine X_region ?_
  refine XO_v0 (ev_move rfl) rfl rfl rfl ?_
  refine XO_v0 (ev_move rfl) rfl rfl rfl ?_
  refine XO_v0 (ev_cmp rfl rfl rfl) rfl rfl rfl ?_
  refine XO_v0 (ev_move rfl) rfl rfl rfl ?_
  refine XO_pushT 3 rfl rfl rfl ?_
  refine XO_v1 (ev_move rfl) (.some rfl rfl rfl rfl gbt) rfl rfl rfl ?_
  refine XO_v1 (ev_move rfl) (.some rfl rfl rfl rfl gbt) rfl rfl rfl ?_
  refine XO_v1 (ev_cmp rfl rfl rfl) (.some rfl rfl rfl rfl gbt) rfl rfl rfl ?_
  refine XO_and0 rfl rfl rfl rfl rfl ?_
  refine XO_v0 (ev_assign rfl) rfl rfl rfl ?_
  refine XO_nil ?_
  refine at_then ?_
  refine X_ret ?_
  exact at_ret1 rfl rfl (fun w hw => ⟨by first | rfl | simp_all, hw.drop⟩)
theorem r_span (I : HMap) (an ad bn bd : Int) : RetV Tryz.prog 191 [encRA (an) (ad), encRA (bn) (bd)] I (.bool (spanF an ad bn bd)) := by
  intro g H w hw
  refine enter Tryz.func191 rfl Tryz.ntmps191 rfl hw ?_
  refine X_seq ?_
  refine X_region ?_
  refine XO_box rfl rfl rfl (fun b_2 => ?_)
  refine XO_box rfl rfl rfl (fun b_3 => ?_)
  refine XO_v0 (ev_assign rfl) rfl rfl rfl ?_
  refine XO_nil ?_
  refine at_then ?_
  refine X_seq ?_
  refine X_region ?_
  refine XO_v0 (ev_loadA rfl agt_43 (fun hg => by first | exact Cells.g0 | exact Cells.g1 | exact Cells.g2 | exact Cells.g3 | exact Cells.g4 | exact Cells.g5 | exact Cells.s0 (vs := [_, _]) rfl | exact Cells.s1 (vs := [_, _]) rfl | exact Cells.s2 (vs := [_, _]) rfl | exact Cells.s3 (vs := [_, _]) rfl | exact Cells.s4 (vs := [_, _]) rfl | exact Cells.s5 (vs := [_, _]) rfl | (repeat (first | exact Cells.here | apply Cells.there | apply Cells.app))) rfl) rfl rfl rfl ?_
  refine XO_v0 (ev_loadA rfl agt_43 (fun hg => by first | exact Cells.g0 | exact Cells.g1 | exact Cells.g2 | exact Cells.g3 | exact Cells.g4 | exact Cells.g5 | exact Cells.s0 (vs := [_, _]) rfl | exact Cells.s1 (vs := [_, _]) rfl | exact Cells.s2 (vs := [_, _]) rfl | exact Cells.s3 (vs := [_, _]) rfl | exact Cells.s4 (vs := [_, _]) rfl | exact Cells.s5 (vs := [_, _]) rfl | (repeat (first | exact Cells.here | apply Cells.there | apply Cells.app))) rfl) rfl rfl rfl ?_
  refine XO_callV0 (cap := []) (vs := [_, _]) rfl rfl fun_195 (r_both I _ _ _ _) rfl rfl ?_
  refine XO_v0 (ev_assign rfl) rfl rfl rfl ?_
  refine XO_nil ?_
  refine at_then ?_
  refine X_seq ?_
  refine X_region ?_
  refine XO_v0 (ev_move rfl) rfl rfl rfl ?_
  refine XO_v0 (ev_move rfl) rfl rfl rfl ?_
  refine XO_pushT 1 rfl rfl rfl ?_
  refine XO_v1 (ev_fieldAddr rfl fld_43_0) (.some rfl rfl rfl rfl gbt) rfl rfl rfl ?_
  refine XO_v1 (ev_load rfl sct_3 (fun hg => by first | exact Cell.h0 rfl | exact Cell.h1 rfl | exact Cell.h2 rfl | exact Cell.h3 rfl | exact Cell.h4 rfl | exact Cell.h5 rfl | (repeat (first | exact Cell.here rfl | apply Cell.there | apply Cell.app)))) (.some rfl rfl rfl rfl gbt) rfl rfl rfl ?_
  refine XO_v1 (ev_cmp rfl rfl rfl) (.some rfl rfl rfl rfl gbt) rfl rfl rfl ?_
  refine XO_and0 rfl rfl rfl rfl rfl ?_
  refine XO_v0 (ev_move rfl) rfl rfl rfl ?_
  refine XO_pushT 6 rfl rfl rfl ?_
  refine XO_v1 (ev_loadA rfl agt_43 (fun hg => by first | exact Cells.g0 | exact Cells.g1 | exact Cells.g2 | exact Cells.g3 | exact Cells.g4 | exact Cells.g5 | exact Cells.s0 (vs := [_, _]) rfl | exact Cells.s1 (vs := [_, _]) rfl | exact Cells.s2 (vs := [_, _]) rfl | exact Cells.s3 (vs := [_, _]) rfl | exact Cells.s4 (vs := [_, _]) rfl | exact Cells.s5 (vs := [_, _]) rfl | (repeat (first | exact Cells.here | apply Cells.there | apply Cells.app))) rfl) (.some rfl rfl rfl rfl gbt) rfl rfl rfl ?_
  refine XO_v1 (ev_loadA rfl agt_43 (fun hg => by first | exact Cells.g0 | exact Cells.g1 | exact Cells.g2 | exact Cells.g3 | exact Cells.g4 | exact Cells.g5 | exact Cells.s0 (vs := [_, _]) rfl | exact Cells.s1 (vs := [_, _]) rfl | exact Cells.s2 (vs := [_, _]) rfl | exact Cells.s3 (vs := [_, _]) rfl | exact Cells.s4 (vs := [_, _]) rfl | exact Cells.s5 (vs := [_, _]) rfl | (repeat (first | exact Cells.here | apply Cells.there | apply Cells.app))) rfl) (.some rfl rfl rfl rfl gbt) rfl rfl rfl ?_
  refine XO_callV1 (cap := []) (vs := [_, _]) rfl rfl fun_196 (fun hg => r_less I _ _ _ _ (by simp [conj] at hg; exact hg.1.1) (by simp [conj] at hg; exact hg.1.2)) (.some rfl rfl rfl rfl gbt) rfl rfl ?_
  refine XO_and0 rfl rfl rfl rfl rfl ?_
  refine XO_v0 (ev_move rfl) rfl rfl rfl ?_
  refine XO_pushT 11 rfl rfl rfl ?_
  refine XO_v1 (ev_fieldAddr rfl fld_43_0) (.some rfl rfl rfl rfl gbt) rfl rfl rfl ?_
  refine XO_v1 (ev_load rfl sct_3 (fun hg => by first | exact Cell.h0 rfl | exact Cell.h1 rfl | exact Cell.h2 rfl | exact Cell.h3 rfl | exact Cell.h4 rfl | exact Cell.h5 rfl | (repeat (first | exact Cell.here rfl | apply Cell.there | apply Cell.app)))) (.some rfl rfl rfl rfl gbt) rfl rfl rfl ?_
  refine XO_v1 (ev_fieldAddr rfl fld_43_1) (.some rfl rfl rfl rfl gbt) rfl rfl rfl ?_
  refine XO_v1 (ev_load rfl sct_3 (fun hg => by first | exact Cell.h0 rfl | exact Cell.h1 rfl | exact Cell.h2 rfl | exact Cell.h3 rfl | exact Cell.h4 rfl | exact Cell.h5 rfl | (repeat (first | exact Cell.here rfl | apply Cell.there | apply Cell.app)))) (.some rfl rfl rfl rfl gbt) rfl rfl rfl ?_
  refine XO_v1 (ev_cmp rfl rfl rfl) (.some rfl rfl rfl rfl gbt) rfl rfl rfl ?_
  refine XO_and0 rfl rfl rfl rfl rfl ?_
  refine XO_v0 (ev_assign rfl) rfl rfl rfl ?_
  refine XO_nil ?_
  refine at_then ?_
  refine X_ret ?_
  exact at_ret1 rfl rfl (fun w hw => ⟨by rw [← spanR_eq], hw.drop⟩)
theorem r_frm (I : HMap) (x : Sg) : RetV Tryz.prog 177 [encGA x] I (.bool (frm x)) := by
  intro g H w hw
  refine enter Tryz.func177 rfl Tryz.ntmps177 rfl hw ?_
  refine X_seq ?_
  refine X_region ?_
  refine XO_box rfl rfl rfl (fun b_1 => ?_)
  refine XO_v0 (ev_assign rfl) rfl rfl rfl ?_
  refine XO_nil ?_
  refine at_then ?_
  refine X_seq ?_
  refine X_seq ?_
  refine X_region ?_
  refine XO_v0 (ev_fieldAddr rfl fld_45_0) rfl rfl rfl ?_
  refine XO_v0 (ev_load rfl sct_3 (fun hg => by first | exact Cell.h0 rfl | exact Cell.h1 rfl | exact Cell.h2 rfl | exact Cell.h3 rfl | exact Cell.h4 rfl | exact Cell.h5 rfl | (repeat (first | exact Cell.here rfl | apply Cell.there | apply Cell.app)))) rfl rfl rfl ?_
  refine XO_callV0 (cap := []) (vs := [_, _, _]) rfl rfl fun_190 (r_within I _ _ _) rfl rfl ?_
  refine XO_v0 (ev_not rfl) rfl rfl rfl ?_
  refine XO_v0 (ev_move rfl) rfl rfl rfl ?_
  refine XO_pushF 4 rfl rfl rfl ?_
  refine XO_v1 (ev_fieldAddr rfl fld_45_1) (.some rfl rfl rfl rfl gbf) rfl rfl rfl ?_
  refine XO_v1 (ev_load rfl sct_3 (fun hg => by first | exact Cell.h0 rfl | exact Cell.h1 rfl | exact Cell.h2 rfl | exact Cell.h3 rfl | exact Cell.h4 rfl | exact Cell.h5 rfl | (repeat (first | exact Cell.here rfl | apply Cell.there | apply Cell.app)))) (.some rfl rfl rfl rfl gbf) rfl rfl rfl ?_
  refine XO_callV1 (cap := []) (vs := [_, _, _]) rfl rfl fun_190 (fun hg => r_within I _ _ _) (.some rfl rfl rfl rfl gbf) rfl rfl ?_
  refine XO_v1 (ev_not rfl) (.some rfl rfl rfl rfl gbf) rfl rfl rfl ?_
  refine XO_or0 rfl rfl rfl rfl rfl ?_
  refine XO_v0 (ev_move rfl) rfl rfl rfl ?_
  refine XO_pushF 10 rfl rfl rfl ?_
  refine XO_v1 (ev_fieldAddr rfl fld_45_2) (.some rfl rfl rfl rfl gbf) rfl rfl rfl ?_
  refine XO_v1 (ev_load rfl sct_3 (fun hg => by first | exact Cell.h0 rfl | exact Cell.h1 rfl | exact Cell.h2 rfl | exact Cell.h3 rfl | exact Cell.h4 rfl | exact Cell.h5 rfl | (repeat (first | exact Cell.here rfl | apply Cell.there | apply Cell.app)))) (.some rfl rfl rfl rfl gbf) rfl rfl rfl ?_
  refine XO_callV1 (cap := []) (vs := [_, _, _]) rfl rfl fun_190 (fun hg => r_within I _ _ _) (.some rfl rfl rfl rfl gbf) rfl rfl ?_
  refine XO_v1 (ev_not rfl) (.some rfl rfl rfl rfl gbf) rfl rfl rfl ?_
  refine XO_or0 rfl rfl rfl rfl rfl ?_
  refine XO_v0 (ev_move rfl) rfl rfl rfl ?_
  refine XO_pushF 16 rfl rfl rfl ?_
  refine XO_v1 (ev_fieldAddr rfl fld_45_4) (.some rfl rfl rfl rfl gbf) rfl rfl rfl ?_
  refine XO_v1 (ev_load rfl sct_3 (fun hg => by first | exact Cell.h0 rfl | exact Cell.h1 rfl | exact Cell.h2 rfl | exact Cell.h3 rfl | exact Cell.h4 rfl | exact Cell.h5 rfl | (repeat (first | exact Cell.here rfl | apply Cell.there | apply Cell.app)))) (.some rfl rfl rfl rfl gbf) rfl rfl rfl ?_
  refine XO_callV1 (cap := []) (vs := [_, _, _]) rfl rfl fun_190 (fun hg => r_within I _ _ _) (.some rfl rfl rfl rfl gbf) rfl rfl ?_
  refine XO_v1 (ev_not rfl) (.some rfl rfl rfl rfl gbf) rfl rfl rfl ?_
  refine XO_or0 rfl rfl rfl rfl rfl ?_
  refine XO_v0 (ev_move rfl) rfl rfl rfl ?_
  refine XO_pushF 22 rfl rfl rfl ?_
  refine XO_v1 (ev_fieldAddr rfl fld_45_3) (.some rfl rfl rfl rfl gbf) rfl rfl rfl ?_
  refine XO_v1 (ev_load rfl sct_3 (fun hg => by first | exact Cell.h0 rfl | exact Cell.h1 rfl | exact Cell.h2 rfl | exact Cell.h3 rfl | exact Cell.h4 rfl | exact Cell.h5 rfl | (repeat (first | exact Cell.here rfl | apply Cell.there | apply Cell.app)))) (.some rfl rfl rfl rfl gbf) rfl rfl rfl ?_
  refine XO_callV1 (cap := []) (vs := [_, _, _]) rfl rfl fun_190 (fun hg => r_within I _ _ _) (.some rfl rfl rfl rfl gbf) rfl rfl ?_
  refine XO_v1 (ev_not rfl) (.some rfl rfl rfl rfl gbf) rfl rfl rfl ?_
  refine XO_or0 rfl rfl rfl rfl rfl ?_
  refine XO_nil ?_
  refine at_then ?_
  refine X_cond rfl (fun hc30 => ?_) (fun hc30 => ?_)
  · skip
    refine X_seq ?_
    refine X_region ?_
    refine XO_v0 (ev_assign rfl) rfl rfl rfl ?_
    refine XO_nil ?_
    refine at_then ?_
    refine X_ret ?_
    refine at_then_r ?_
    first
    | exact at_ret1 rfl rfl (fun w hw => ⟨by exact congrArg (fun b => Ending.returned (Value.bool b)) (frm_a hc30).symm, hw.drop⟩)
    | exact at_ret1 rfl rfl (fun w hw => ⟨by exact congrArg (fun b => Ending.returned (Value.bool b)) (frm_b hc58).symm, hw.drop⟩)
    | exact at_ret1 rfl rfl (fun w hw => ⟨by exact congrArg (fun b => Ending.returned (Value.bool b)) (frm_c hc30 hc58).symm, hw.drop⟩)
  · skip
    refine X_skip ?_
    refine at_then ?_
    refine X_seq ?_
    refine X_seq ?_
    refine X_region ?_
    refine XO_v0 (ev_fieldAddr rfl fld_45_5) rfl rfl rfl ?_
    refine XO_v0 (ev_load rfl sct_3 (fun hg => by first | exact Cell.h0 rfl | exact Cell.h1 rfl | exact Cell.h2 rfl | exact Cell.h3 rfl | exact Cell.h4 rfl | exact Cell.h5 rfl | (repeat (first | exact Cell.here rfl | apply Cell.there | apply Cell.app)))) rfl rfl rfl ?_
    refine XO_callV0 (cap := []) (vs := [_, _, _]) rfl rfl fun_190 (r_within I _ _ _) rfl rfl ?_
    refine XO_v0 (ev_not rfl) rfl rfl rfl ?_
    refine XO_v0 (ev_move rfl) rfl rfl rfl ?_
    refine XO_pushF 4 rfl rfl rfl ?_
    refine XO_v1 (ev_fieldAddr rfl fld_45_6) (.some rfl rfl rfl rfl gbf) rfl rfl rfl ?_
    refine XO_v1 (ev_load rfl sct_3 (fun hg => by first | exact Cell.h0 rfl | exact Cell.h1 rfl | exact Cell.h2 rfl | exact Cell.h3 rfl | exact Cell.h4 rfl | exact Cell.h5 rfl | (repeat (first | exact Cell.here rfl | apply Cell.there | apply Cell.app)))) (.some rfl rfl rfl rfl gbf) rfl rfl rfl ?_
    refine XO_callV1 (cap := []) (vs := [_, _, _]) rfl rfl fun_190 (fun hg => r_within I _ _ _) (.some rfl rfl rfl rfl gbf) rfl rfl ?_
    refine XO_v1 (ev_not rfl) (.some rfl rfl rfl rfl gbf) rfl rfl rfl ?_
    refine XO_or0 rfl rfl rfl rfl rfl ?_
    refine XO_v0 (ev_move rfl) rfl rfl rfl ?_
    refine XO_pushF 10 rfl rfl rfl ?_
    refine XO_v1 (ev_fieldAddr rfl fld_45_7) (.some rfl rfl rfl rfl gbf) rfl rfl rfl ?_
    refine XO_v1 (ev_load rfl sct_3 (fun hg => by first | exact Cell.h0 rfl | exact Cell.h1 rfl | exact Cell.h2 rfl | exact Cell.h3 rfl | exact Cell.h4 rfl | exact Cell.h5 rfl | (repeat (first | exact Cell.here rfl | apply Cell.there | apply Cell.app)))) (.some rfl rfl rfl rfl gbf) rfl rfl rfl ?_
    refine XO_callV1 (cap := []) (vs := [_, _, _]) rfl rfl fun_190 (fun hg => r_within I _ _ _) (.some rfl rfl rfl rfl gbf) rfl rfl ?_
    refine XO_v1 (ev_not rfl) (.some rfl rfl rfl rfl gbf) rfl rfl rfl ?_
    refine XO_or0 rfl rfl rfl rfl rfl ?_
    refine XO_v0 (ev_move rfl) rfl rfl rfl ?_
    refine XO_pushF 16 rfl rfl rfl ?_
    refine XO_v1 (ev_fieldAddr rfl fld_45_8) (.some rfl rfl rfl rfl gbf) rfl rfl rfl ?_
    refine XO_v1 (ev_load rfl sct_3 (fun hg => by first | exact Cell.h0 rfl | exact Cell.h1 rfl | exact Cell.h2 rfl | exact Cell.h3 rfl | exact Cell.h4 rfl | exact Cell.h5 rfl | (repeat (first | exact Cell.here rfl | apply Cell.there | apply Cell.app)))) (.some rfl rfl rfl rfl gbf) rfl rfl rfl ?_
    refine XO_callV1 (cap := []) (vs := [_, _, _]) rfl rfl fun_190 (fun hg => r_within I _ _ _) (.some rfl rfl rfl rfl gbf) rfl rfl ?_
    refine XO_v1 (ev_not rfl) (.some rfl rfl rfl rfl gbf) rfl rfl rfl ?_
    refine XO_or0 rfl rfl rfl rfl rfl ?_
    refine XO_v0 (ev_move rfl) rfl rfl rfl ?_
    refine XO_pushF 22 rfl rfl rfl ?_
    refine XO_v1 (ev_fieldAddr rfl fld_45_9) (.some rfl rfl rfl rfl gbf) rfl rfl rfl ?_
    refine XO_v1 (ev_load rfl sct_3 (fun hg => by first | exact Cell.h0 rfl | exact Cell.h1 rfl | exact Cell.h2 rfl | exact Cell.h3 rfl | exact Cell.h4 rfl | exact Cell.h5 rfl | (repeat (first | exact Cell.here rfl | apply Cell.there | apply Cell.app)))) (.some rfl rfl rfl rfl gbf) rfl rfl rfl ?_
    refine XO_callV1 (cap := []) (vs := [_, _, _]) rfl rfl fun_190 (fun hg => r_within I _ _ _) (.some rfl rfl rfl rfl gbf) rfl rfl ?_
    refine XO_v1 (ev_not rfl) (.some rfl rfl rfl rfl gbf) rfl rfl rfl ?_
    refine XO_or0 rfl rfl rfl rfl rfl ?_
    refine XO_nil ?_
    refine at_then ?_
    refine X_cond rfl (fun hc58 => ?_) (fun hc58 => ?_)
    · skip
      refine X_seq ?_
      refine X_region ?_
      refine XO_v0 (ev_assign rfl) rfl rfl rfl ?_
      refine XO_nil ?_
      refine at_then ?_
      refine X_ret ?_
      refine at_then_r ?_
      first
      | exact at_ret1 rfl rfl (fun w hw => ⟨by exact congrArg (fun b => Ending.returned (Value.bool b)) (frm_a hc30).symm, hw.drop⟩)
      | exact at_ret1 rfl rfl (fun w hw => ⟨by exact congrArg (fun b => Ending.returned (Value.bool b)) (frm_b hc58).symm, hw.drop⟩)
      | exact at_ret1 rfl rfl (fun w hw => ⟨by exact congrArg (fun b => Ending.returned (Value.bool b)) (frm_c hc30 hc58).symm, hw.drop⟩)
    · skip
      refine X_skip ?_
      refine at_then ?_
      refine X_seq ?_
      refine X_region ?_
      refine XO_v0 (ev_fieldAddr rfl fld_45_10) rfl rfl rfl ?_
      refine XO_v0 (ev_loadA rfl agt_43 (fun hg => by first | exact Cells.g0 | exact Cells.g1 | exact Cells.g2 | exact Cells.g3 | exact Cells.g4 | exact Cells.g5 | exact Cells.s0 (vs := [_, _]) rfl | exact Cells.s1 (vs := [_, _]) rfl | exact Cells.s2 (vs := [_, _]) rfl | exact Cells.s3 (vs := [_, _]) rfl | exact Cells.s4 (vs := [_, _]) rfl | exact Cells.s5 (vs := [_, _]) rfl | (repeat (first | exact Cells.here | apply Cells.there | apply Cells.app))) rfl) rfl rfl rfl ?_
      refine XO_v0 (ev_fieldAddr rfl fld_45_11) rfl rfl rfl ?_
      refine XO_v0 (ev_loadA rfl agt_43 (fun hg => by first | exact Cells.g0 | exact Cells.g1 | exact Cells.g2 | exact Cells.g3 | exact Cells.g4 | exact Cells.g5 | exact Cells.s0 (vs := [_, _]) rfl | exact Cells.s1 (vs := [_, _]) rfl | exact Cells.s2 (vs := [_, _]) rfl | exact Cells.s3 (vs := [_, _]) rfl | exact Cells.s4 (vs := [_, _]) rfl | exact Cells.s5 (vs := [_, _]) rfl | (repeat (first | exact Cells.here | apply Cells.there | apply Cells.app))) rfl) rfl rfl rfl ?_
      refine XO_callV0 (cap := []) (vs := [_, _]) rfl rfl fun_191 (r_span I _ _ _ _) rfl rfl ?_
      refine XO_v0 (ev_assign rfl) rfl rfl rfl ?_
      refine XO_nil ?_
      refine at_then ?_
      refine X_ret ?_
      first
      | exact at_ret1 rfl rfl (fun w hw => ⟨by exact congrArg (fun b => Ending.returned (Value.bool b)) (frm_a hc30).symm, hw.drop⟩)
      | exact at_ret1 rfl rfl (fun w hw => ⟨by exact congrArg (fun b => Ending.returned (Value.bool b)) (frm_b hc58).symm, hw.drop⟩)
      | exact at_ret1 rfl rfl (fun w hw => ⟨by exact congrArg (fun b => Ending.returned (Value.bool b)) (frm_c hc30 hc58).symm, hw.drop⟩)
theorem r_right {I : HMap} {av : Option Addr} {n c : Nat} {xs : List Sg} (hS : Sl I 14 encG av n c xs) (hn : n ≤ 100000) : RetV Tryz.prog 138 [.slice av n c] I (.bool (skB xs)) := by
  intro g H w hw
  refine enter Tryz.func138 rfl Tryz.ntmps138 rfl hw ?_
  refine X_seq ?_
  refine X_region ?_
  refine XO_v0 (ev_assign rfl) rfl rfl rfl ?_
  refine XO_nil ?_
  refine at_then ?_
  refine X_seq ?_
  refine X_seq ?_
  refine X_region ?_
  refine XO_v0 (ev_assign rfl) rfl rfl rfl ?_
  refine XO_nil ?_
  refine at_then ?_
  refine X_block ?_
  refine X_loopT [(0, _)] (.cons rfl .nil) (fun T L0 mz E I' loc' => ∃ (k : Nat), mz = n - k ∧ E = (3, .int .i64 k) :: T ∧ I = I' ∧ L0 = loc' ∧ k ≤ n ∧ (List.range k).all (skP xs) = true) _ _ _ _ ⟨0, rfl, rfl, rfl, rfl, Nat.zero_le _, rfl⟩ (.cons rfl (.cons rfl .nil)) (HLe.refl _) rfl ?_
  rintro mz E I' loc' ⟨k, rfl, rfl, rfl, rfl, hk, hall⟩
  refine X_seq ?_
  refine X_seq ?_
  refine X_region ?_
  refine XO_v0 (ev_move rfl) rfl rfl rfl ?_
  refine XO_v0 (ev_move rfl) rfl rfl rfl ?_
  refine XO_v0 (ev_lenS rfl slt_33) rfl rfl rfl ?_
  refine XO_v0 (ev_cmp rfl rfl rfl) rfl rfl rfl ?_
  refine XO_nil ?_
  refine at_then ?_
  refine X_cond rfl (fun hc7 => ?_) (fun hc7 => ?_)
  · skip
    have hlt_k : k < n := by have h := hc7; simp at h; omega
    obtain ⟨x, hx⟩ := hS.at hlt_k
    refine X_skip ?_
    refine at_then ?_
    refine X_seq ?_
    refine X_block ?_
    refine X_seq ?_
    refine X_draw mixed (by kernel_rfl) ?_
    refine XQ_v0 (ev_move rfl) rfl rfl rfl ?_
    refine XQ_v0 (ev_move rfl) rfl rfl rfl ?_
    refine XQ_v0 (ev_indexSl rfl rfl slt_33 (by assumption) (fun hg => by first | omega | (simp [conj] at hg; omega))) rfl rfl rfl ?_
    refine XQ_v0 (ev_loadA rfl agt_45 (fun hg => by first | exact Sl.getA hS hx | exact Cells.g0 | exact Cells.g1 | exact Cells.g2 | exact Cells.g3 | exact Cells.g4 | exact Cells.g5 | exact Cells.s0 (vs := [_, _, _, _, _, _, _, _, _, _, _, _, _, _]) rfl | exact Cells.s1 (vs := [_, _, _, _, _, _, _, _, _, _, _, _, _, _]) rfl | exact Cells.s2 (vs := [_, _, _, _, _, _, _, _, _, _, _, _, _, _]) rfl | exact Cells.s3 (vs := [_, _, _, _, _, _, _, _, _, _, _, _, _, _]) rfl | exact Cells.s4 (vs := [_, _, _, _, _, _, _, _, _, _, _, _, _, _]) rfl | exact Cells.s5 (vs := [_, _, _, _, _, _, _, _, _, _, _, _, _, _]) rfl | (repeat (first | exact Cells.here | apply Cells.there | apply Cells.app))) rfl) rfl rfl rfl ?_
    refine XQ_callV0 (cap := []) (vs := [_]) rfl rfl fun_177 (r_frm I _) rfl rfl ?_
    refine XQ_v0 (ev_not rfl) rfl rfl rfl ?_
    refine XQ_v0 (ev_move rfl) rfl rfl rfl ?_
    refine XQ_pushF 6 rfl rfl rfl ?_
    refine XQ_v1 (ev_move rfl) (.some rfl rfl rfl rfl gbf) rfl rfl rfl ?_
    refine XQ_v1 (ev_cmp rfl rfl rfl) (.some rfl rfl rfl rfl gbf) rfl rfl rfl ?_
    refine XQ_v1 (ev_move rfl) (.some rfl rfl rfl rfl gbf) rfl rfl rfl ?_
    refine XQ_pushT 9 rfl rfl rfl ?_
    refine XQ_v1 (ev_move rfl) (.some rfl rfl rfl rfl gbt) rfl rfl rfl ?_
    refine XQ_v1 (ev_move rfl) (.some rfl rfl rfl rfl gbt) rfl rfl rfl ?_
    refine XQ_v1 (ev_indexSl rfl rfl slt_33 (by assumption) (fun hg => by first | omega | (simp [conj] at hg; omega))) (.some rfl rfl rfl rfl gbt) rfl rfl rfl ?_
    refine XQ_v1 (ev_fieldAddr rfl fld_45_0) (.some rfl rfl rfl rfl gbt) rfl rfl rfl ?_
    refine XQ_v1 (ev_load rfl sct_3 (fun hg => by first | exact Sl.get0 hS hx rfl | exact Sl.get0 (k := ((k : Int) - 1).toNat) hS (some_getD (d := zeroG) hS.len (by simp [conj] at hg; omega)) rfl | exact Cell.h0 rfl | exact Cell.h1 rfl | exact Cell.h2 rfl | exact Cell.h3 rfl | exact Cell.h4 rfl | exact Cell.h5 rfl | (repeat (first | exact Cell.here rfl | apply Cell.there | apply Cell.app)))) (.some rfl rfl rfl rfl gbt) rfl rfl rfl ?_
    refine XQ_v1 (ev_move rfl) (.some rfl rfl rfl rfl gbt) rfl rfl rfl ?_
    refine XQ_v1 (ev_move rfl) (.some rfl rfl rfl rfl gbt) rfl rfl rfl ?_
    refine XQ_v1 (ev_arB rfl rfl rfl (fun hg => by first | omega | (simp [conj] at hg; omega))) (.some rfl rfl rfl rfl gbt) rfl rfl rfl ?_
    refine XQ_v1 (ev_indexSl rfl rfl slt_33 (by assumption) (fun hg => by first | omega | (simp [conj] at hg; omega))) (.some rfl rfl rfl rfl gbt) rfl rfl rfl ?_
    refine XQ_v1 (ev_fieldAddr rfl fld_45_0) (.some rfl rfl rfl rfl gbt) rfl rfl rfl ?_
    refine XQ_v1 (ev_load rfl sct_3 (fun hg => by first | exact Sl.get0 hS hx rfl | exact Sl.get0 (k := ((k : Int) - 1).toNat) hS (some_getD (d := zeroG) hS.len (by simp [conj] at hg; omega)) rfl | exact Cell.h0 rfl | exact Cell.h1 rfl | exact Cell.h2 rfl | exact Cell.h3 rfl | exact Cell.h4 rfl | exact Cell.h5 rfl | (repeat (first | exact Cell.here rfl | apply Cell.there | apply Cell.app)))) (.some rfl rfl rfl rfl gbt) rfl rfl rfl ?_
    refine XQ_v1 (ev_cmp rfl rfl rfl) (.some rfl rfl rfl rfl gbt) rfl rfl rfl ?_
    refine XQ_and1 rfl rfl rfl (.some rfl rfl rfl rfl gbf) rfl rfl ?_
    refine XQ_or0 rfl rfl rfl rfl rfl ?_
    refine XQ_nil ?_
    refine at_then ?_
    refine X_cond rfl (fun hc33 => ?_) (fun hc33 => ?_)
    · skip
      refine X_seq ?_
      refine X_region ?_
      refine XO_v0 (ev_assign rfl) rfl rfl rfl ?_
      refine XO_nil ?_
      refine at_then ?_
      refine X_ret ?_
      refine at_block_r ?_
      refine at_then_r ?_
      refine at_then_r ?_
      refine at_block_r ?_
      refine at_then_r ?_
      first
      | exact at_ret1 rfl rfl (fun w hw => ⟨by unfold skB; rw [range_bad (k := k) (by rw [hS.len]; exact hlt_k) (by rw [skP_at hx]; exact congrArg (! ·) hc33)], hw.drop⟩)
      | exact at_ret1 rfl rfl (fun w hw => ⟨by unfold skB; rw [hS.len, show n = k by omega, hall], hw.drop⟩)
    · skip
      refine X_skip ?_
      refine at_block_n ?_
      refine at_then ?_
      refine X_region ?_
      refine XO_v0 (ev_move rfl) rfl rfl rfl ?_
      refine XO_v0 (ev_arB rfl rfl rfl (fun hg => by first | omega | (simp [conj] at hg; omega))) rfl rfl rfl ?_
      refine XO_v0 (ev_assign rfl) rfl rfl rfl ?_
      refine XO_nil ?_
      exact at_met2 _ _ ⟨n - (k + 1), by omega, k + 1, rfl, rfl, rfl, rfl, by omega, range_step hall (by rw [skP_at hx]; exact congrArg (! ·) hc33)⟩ (.cons rfl (.cons rfl .nil)) (by repeat (first | exact .refl | exact subL_left | refine subL_app ?_ | refine .drop ?_ | refine subL_add ?_))
  · skip
    have hge_k : n ≤ k := by have h := hc7; simp at h; omega
    refine X_exit ?_
    refine at_then_e ?_
    refine at_then_e ?_
    refine at_block_hit ?_
    refine at_then ?_
    refine X_seq ?_
    refine X_region ?_
    refine XO_v0 (ev_assign rfl) rfl rfl rfl ?_
    refine XO_nil ?_
    refine at_then ?_
    refine X_ret ?_
    first
    | exact at_ret1 rfl rfl (fun w hw => ⟨by unfold skB; rw [range_bad (k := k) (by rw [hS.len]; exact hlt_k) (by rw [skP_at hx]; exact congrArg (! ·) hc33)], hw.drop⟩)
    | exact at_ret1 rfl rfl (fun w hw => ⟨by unfold skB; rw [hS.len, show n = k by omega, hall], hw.drop⟩)
theorem r_chkG {I : HMap} {av : Option Addr} {n c : Nat} {xs : List Sg} (hS : Sl I 14 encG av n c xs) (hn : n ≤ 100000) : RetV Tryz.prog 83 [.slice av n c] I (.int .i64 (chkG xs)) := by
  intro g H w hw
  refine enter Tryz.func83 rfl Tryz.ntmps83 rfl hw ?_
  refine X_seq ?_
  refine X_region ?_
  refine XO_v0 (ev_assign rfl) rfl rfl rfl ?_
  refine XO_nil ?_
  refine at_then ?_
  refine X_seq ?_
  refine X_seq ?_
  refine X_region ?_
  refine XO_v0 (ev_move rfl) rfl rfl rfl ?_
  refine XO_v0 (ev_lenS rfl slt_33) rfl rfl rfl ?_
  refine XO_v0 (ev_cmp rfl rfl rfl) rfl rfl rfl ?_
  refine XO_nil ?_
  refine at_then ?_
  refine X_cond rfl (fun hc5 => ?_) (fun hc5 => ?_)
  · skip
    have h6 : xs.length > 4096 := by rw [hS.len]; simp at hc5; omega
    refine X_seq ?_
    refine X_region ?_
    refine XO_v0 (ev_assign rfl) rfl rfl rfl ?_
    refine XO_nil ?_
    refine at_then ?_
    refine X_ret ?_
    refine at_then_r ?_
    first
    | exact at_ret1 rfl rfl (fun w hw => ⟨by rw [chkG_1 h6], hw.drop⟩)
    | exact at_ret1 rfl rfl (fun w hw => ⟨by rw [chkG_2 h6 (by simpa using hc8)], hw.drop⟩)
    | exact at_ret1 rfl rfl (fun w hw => ⟨by rw [chkG_3 h6 (by simpa using hc8)], hw.drop⟩)
  · skip
    have h6 : ¬ xs.length > 4096 := by rw [hS.len]; simp at hc5; omega
    refine X_skip ?_
    refine at_then ?_
    refine X_seq ?_
    refine X_seq ?_
    refine X_region ?_
    refine XO_v0 (ev_move rfl) rfl rfl rfl ?_
    refine XO_callV0 (cap := []) (vs := [_]) rfl rfl fun_138 (r_right hS hn) rfl rfl ?_
    refine XO_v0 (ev_not rfl) rfl rfl rfl ?_
    refine XO_nil ?_
    refine at_then ?_
    refine X_cond rfl (fun hc8 => ?_) (fun hc8 => ?_)
    · skip
      refine X_seq ?_
      refine X_region ?_
      refine XO_v0 (ev_assign rfl) rfl rfl rfl ?_
      refine XO_nil ?_
      refine at_then ?_
      refine X_ret ?_
      refine at_then_r ?_
      first
      | exact at_ret1 rfl rfl (fun w hw => ⟨by rw [chkG_1 h6], hw.drop⟩)
      | exact at_ret1 rfl rfl (fun w hw => ⟨by rw [chkG_2 h6 (by simpa using hc8)], hw.drop⟩)
      | exact at_ret1 rfl rfl (fun w hw => ⟨by rw [chkG_3 h6 (by simpa using hc8)], hw.drop⟩)
    · skip
      refine X_skip ?_
      refine at_then ?_
      refine X_seq ?_
      refine X_region ?_
      refine XO_v0 (ev_assign rfl) rfl rfl rfl ?_
      refine XO_nil ?_
      refine at_then ?_
      refine X_ret ?_
      first
      | exact at_ret1 rfl rfl (fun w hw => ⟨by rw [chkG_1 h6], hw.drop⟩)
      | exact at_ret1 rfl rfl (fun w hw => ⟨by rw [chkG_2 h6 (by simpa using hc8)], hw.drop⟩)
      | exact at_ret1 rfl rfl (fun w hw => ⟨by rw [chkG_3 h6 (by simpa using hc8)], hw.drop⟩)
theorem r_form (I : HMap) (x : Sg) : RetV Tryz.prog 133 [encGA x] I (.bool (frm x)) := by
  intro g H w hw
  refine enter Tryz.func133 rfl Tryz.ntmps133 rfl hw ?_
  have hIc := HLe.refl I
  refine X_seq ?_
  refine X_region ?_
  refine XO_box rfl rfl rfl (fun b_1 => ?_)
  refine XO_v0 (ev_assign rfl) rfl rfl rfl ?_
  refine XO_nil ?_
  refine at_then ?_
  refine X_seq ?_
  refine X_region ?_
  refine XO_v0 (ev_loadA rfl agt_45 (fun hg => by first | exact Cells.g0 | exact Cells.g1 | exact Cells.g2 | exact Cells.g3 | exact Cells.g4 | exact Cells.g5 | exact Cells.s0 (vs := [_, _, _, _, _, _, _, _, _, _, _, _, _, _]) rfl | exact Cells.s1 (vs := [_, _, _, _, _, _, _, _, _, _, _, _, _, _]) rfl | exact Cells.s2 (vs := [_, _, _, _, _, _, _, _, _, _, _, _, _, _]) rfl | exact Cells.s3 (vs := [_, _, _, _, _, _, _, _, _, _, _, _, _, _]) rfl | exact Cells.s4 (vs := [_, _, _, _, _, _, _, _, _, _, _, _, _, _]) rfl | exact Cells.s5 (vs := [_, _, _, _, _, _, _, _, _, _, _, _, _, _]) rfl | (repeat (first | exact Cells.here | apply Cells.there | apply Cells.app))) rfl) rfl rfl rfl ?_
  refine XO_buildSlice (ps := [(0, _)]) (m := [encG x]) elt_33 rfl (.cons rfl (.nil)) rfl (by simp [encG_len]) (by decide) (by decide) rfl rfl (fun b_5 => ?_)
  refine XO_freeze .here (fun I1 hI1 hb1 => ?_)
  have hIc := hIc.trans hI1
  have hS := Sl.lit [x] rfl encG_len (show _ = some (Obj.cells (([x] : List Sg).flatMap encG).toArray 45 (0, 0)) from hb1)
  refine XO_callV0 (cap := []) (vs := [_]) rfl rfl fun_83 (r_chkG hS (by decide)) rfl rfl ?_
  refine XO_v0 (ev_assign rfl) rfl rfl rfl ?_
  refine XO_nil ?_
  refine at_then ?_
  refine X_seq ?_
  refine X_region ?_
  refine XO_v0 (ev_move rfl) rfl rfl rfl ?_
  refine XO_v0 (ev_cmp rfl rfl rfl) rfl rfl rfl ?_
  refine XO_v0 (ev_assign rfl) rfl rfl rfl ?_
  refine XO_nil ?_
  refine at_then ?_
  refine X_ret ?_
  exact at_ret1 rfl rfl (fun w hw => ⟨by rw [chk_one], (hw.mono hIc).drop⟩)
theorem r_set (I : HMap) (x : Sg) (f : Int) (y : Sg) : RetV Tryz.prog 86 [encGA x, .int .i64 f, encGA y] I (encGA (setG x f y)) := by
  intro g H w hw
  refine enter Tryz.func86 rfl Tryz.ntmps86 rfl hw ?_
  refine X_seq ?_
  refine X_region ?_
  refine XO_box rfl rfl rfl (fun b_3 => ?_)
  refine XO_box rfl rfl rfl (fun b_5 => ?_)
  refine XO_alloc zt_45 rfl rfl (fun b_6 => ?_)
  refine XO_nil ?_
  refine at_then ?_
  refine X_seq ?_
  refine X_seq ?_
  refine X_region ?_
  refine XO_v0 (ev_move rfl) rfl rfl rfl ?_
  refine XO_nil ?_
  refine at_then ?_
  refine X_block ?_
  refine X_seq ?_
  refine X_region ?_
  refine XO_v0 (ev_cmp rfl rfl rfl) rfl rfl rfl ?_
  refine XO_v0 (ev_assign rfl) rfl rfl rfl ?_
  refine XO_nil ?_
  refine at_then ?_
  refine X_cond rfl (fun hc8 => ?_) (fun hc8 => ?_)
  · skip
    have hfk : f = 1 := by simpa using hc8
    subst hfk
    refine X_region ?_
    refine XO_v0 (ev_fieldAddr rfl fld_45_1) rfl rfl rfl ?_
    refine XO_v0 (ev_load rfl sct_3 (fun hg => by first | exact Cell.h0 rfl | exact Cell.h1 rfl | exact Cell.h2 rfl | exact Cell.h3 rfl | exact Cell.h4 rfl | exact Cell.h5 rfl | (repeat (first | exact Cell.here rfl | apply Cell.there | apply Cell.app)))) rfl rfl rfl ?_
    refine XO_v0 (ev_fieldAddr rfl fld_45_1) rfl rfl rfl ?_
    refine XO_store rfl rfl szt_3 rfl rfl (by first | exact Upd.u0 | exact Upd.u1 | exact Upd.u2 | exact Upd.u3 | exact Upd.u4 | exact Upd.u5 | (repeat (first | exact Upd.here | apply Upd.there | apply upd_app))) rfl ?_
    refine XO_nil ?_
    refine at_block_n ?_
    refine at_then ?_
    refine X_seq ?_
    refine X_region ?_
    refine XO_v0 (ev_loadA rfl agt_45 (fun hg => by first | exact Cells.g0 | exact Cells.g1 | exact Cells.g2 | exact Cells.g3 | exact Cells.g4 | exact Cells.g5 | exact Cells.s0 (vs := [_, _, _, _, _, _, _, _, _, _, _, _, _, _]) rfl | exact Cells.s1 (vs := [_, _, _, _, _, _, _, _, _, _, _, _, _, _]) rfl | exact Cells.s2 (vs := [_, _, _, _, _, _, _, _, _, _, _, _, _, _]) rfl | exact Cells.s3 (vs := [_, _, _, _, _, _, _, _, _, _, _, _, _, _]) rfl | exact Cells.s4 (vs := [_, _, _, _, _, _, _, _, _, _, _, _, _, _]) rfl | exact Cells.s5 (vs := [_, _, _, _, _, _, _, _, _, _, _, _, _, _]) rfl | (repeat (first | exact Cells.here | apply Cells.there | apply Cells.app))) rfl) rfl rfl rfl ?_
    refine XO_storeA rfl rfl szt_45 rfl rfl rfl rfl (by first | exact Upd.u0 | exact Upd.u1 | exact Upd.u2 | exact Upd.u3 | exact Upd.u4 | exact Upd.u5 | (repeat (first | exact Upd.here | apply Upd.there | apply upd_app))) ?_
    refine XO_nil ?_
    refine at_then ?_
    refine X_ret ?_
    first
    | exact at_retA rfl rfl agt_45 Cells.g0 rfl (fun w hw => ⟨rfl, hw.drop⟩)
    | exact at_retA rfl rfl agt_45 Cells.g0 rfl (fun w hw => ⟨by unfold setG; rw [if_neg hg1, if_neg hg2, if_neg hg3, if_neg hg4, if_neg hg5, if_neg hg6, if_neg hg7, if_neg hg8, if_neg hg9]; rfl, hw.drop⟩)
  · skip
    have hg1 : f ≠ 1 := by simpa using hc8
    refine X_seq ?_
    refine X_region ?_
    refine XO_v0 (ev_cmp rfl rfl rfl) rfl rfl rfl ?_
    refine XO_v0 (ev_assign rfl) rfl rfl rfl ?_
    refine XO_nil ?_
    refine at_then ?_
    refine X_cond rfl (fun hc13 => ?_) (fun hc13 => ?_)
    · skip
      have hfk : f = 2 := by simpa using hc13
      subst hfk
      refine X_region ?_
      refine XO_v0 (ev_fieldAddr rfl fld_45_2) rfl rfl rfl ?_
      refine XO_v0 (ev_load rfl sct_3 (fun hg => by first | exact Cell.h0 rfl | exact Cell.h1 rfl | exact Cell.h2 rfl | exact Cell.h3 rfl | exact Cell.h4 rfl | exact Cell.h5 rfl | (repeat (first | exact Cell.here rfl | apply Cell.there | apply Cell.app)))) rfl rfl rfl ?_
      refine XO_v0 (ev_fieldAddr rfl fld_45_2) rfl rfl rfl ?_
      refine XO_store rfl rfl szt_3 rfl rfl (by first | exact Upd.u0 | exact Upd.u1 | exact Upd.u2 | exact Upd.u3 | exact Upd.u4 | exact Upd.u5 | (repeat (first | exact Upd.here | apply Upd.there | apply upd_app))) rfl ?_
      refine XO_nil ?_
      refine at_block_n ?_
      refine at_then ?_
      refine X_seq ?_
      refine X_region ?_
      refine XO_v0 (ev_loadA rfl agt_45 (fun hg => by first | exact Cells.g0 | exact Cells.g1 | exact Cells.g2 | exact Cells.g3 | exact Cells.g4 | exact Cells.g5 | exact Cells.s0 (vs := [_, _, _, _, _, _, _, _, _, _, _, _, _, _]) rfl | exact Cells.s1 (vs := [_, _, _, _, _, _, _, _, _, _, _, _, _, _]) rfl | exact Cells.s2 (vs := [_, _, _, _, _, _, _, _, _, _, _, _, _, _]) rfl | exact Cells.s3 (vs := [_, _, _, _, _, _, _, _, _, _, _, _, _, _]) rfl | exact Cells.s4 (vs := [_, _, _, _, _, _, _, _, _, _, _, _, _, _]) rfl | exact Cells.s5 (vs := [_, _, _, _, _, _, _, _, _, _, _, _, _, _]) rfl | (repeat (first | exact Cells.here | apply Cells.there | apply Cells.app))) rfl) rfl rfl rfl ?_
      refine XO_storeA rfl rfl szt_45 rfl rfl rfl rfl (by first | exact Upd.u0 | exact Upd.u1 | exact Upd.u2 | exact Upd.u3 | exact Upd.u4 | exact Upd.u5 | (repeat (first | exact Upd.here | apply Upd.there | apply upd_app))) ?_
      refine XO_nil ?_
      refine at_then ?_
      refine X_ret ?_
      first
      | exact at_retA rfl rfl agt_45 Cells.g0 rfl (fun w hw => ⟨rfl, hw.drop⟩)
      | exact at_retA rfl rfl agt_45 Cells.g0 rfl (fun w hw => ⟨by unfold setG; rw [if_neg hg1, if_neg hg2, if_neg hg3, if_neg hg4, if_neg hg5, if_neg hg6, if_neg hg7, if_neg hg8, if_neg hg9]; rfl, hw.drop⟩)
    · skip
      have hg2 : f ≠ 2 := by simpa using hc13
      refine X_seq ?_
      refine X_region ?_
      refine XO_v0 (ev_cmp rfl rfl rfl) rfl rfl rfl ?_
      refine XO_v0 (ev_assign rfl) rfl rfl rfl ?_
      refine XO_nil ?_
      refine at_then ?_
      refine X_cond rfl (fun hc18 => ?_) (fun hc18 => ?_)
      · skip
        have hfk : f = 3 := by simpa using hc18
        subst hfk
        refine X_region ?_
        refine XO_v0 (ev_fieldAddr rfl fld_45_3) rfl rfl rfl ?_
        refine XO_v0 (ev_load rfl sct_3 (fun hg => by first | exact Cell.h0 rfl | exact Cell.h1 rfl | exact Cell.h2 rfl | exact Cell.h3 rfl | exact Cell.h4 rfl | exact Cell.h5 rfl | (repeat (first | exact Cell.here rfl | apply Cell.there | apply Cell.app)))) rfl rfl rfl ?_
        refine XO_v0 (ev_fieldAddr rfl fld_45_3) rfl rfl rfl ?_
        refine XO_store rfl rfl szt_3 rfl rfl (by first | exact Upd.u0 | exact Upd.u1 | exact Upd.u2 | exact Upd.u3 | exact Upd.u4 | exact Upd.u5 | (repeat (first | exact Upd.here | apply Upd.there | apply upd_app))) rfl ?_
        refine XO_nil ?_
        refine at_block_n ?_
        refine at_then ?_
        refine X_seq ?_
        refine X_region ?_
        refine XO_v0 (ev_loadA rfl agt_45 (fun hg => by first | exact Cells.g0 | exact Cells.g1 | exact Cells.g2 | exact Cells.g3 | exact Cells.g4 | exact Cells.g5 | exact Cells.s0 (vs := [_, _, _, _, _, _, _, _, _, _, _, _, _, _]) rfl | exact Cells.s1 (vs := [_, _, _, _, _, _, _, _, _, _, _, _, _, _]) rfl | exact Cells.s2 (vs := [_, _, _, _, _, _, _, _, _, _, _, _, _, _]) rfl | exact Cells.s3 (vs := [_, _, _, _, _, _, _, _, _, _, _, _, _, _]) rfl | exact Cells.s4 (vs := [_, _, _, _, _, _, _, _, _, _, _, _, _, _]) rfl | exact Cells.s5 (vs := [_, _, _, _, _, _, _, _, _, _, _, _, _, _]) rfl | (repeat (first | exact Cells.here | apply Cells.there | apply Cells.app))) rfl) rfl rfl rfl ?_
        refine XO_storeA rfl rfl szt_45 rfl rfl rfl rfl (by first | exact Upd.u0 | exact Upd.u1 | exact Upd.u2 | exact Upd.u3 | exact Upd.u4 | exact Upd.u5 | (repeat (first | exact Upd.here | apply Upd.there | apply upd_app))) ?_
        refine XO_nil ?_
        refine at_then ?_
        refine X_ret ?_
        first
        | exact at_retA rfl rfl agt_45 Cells.g0 rfl (fun w hw => ⟨rfl, hw.drop⟩)
        | exact at_retA rfl rfl agt_45 Cells.g0 rfl (fun w hw => ⟨by unfold setG; rw [if_neg hg1, if_neg hg2, if_neg hg3, if_neg hg4, if_neg hg5, if_neg hg6, if_neg hg7, if_neg hg8, if_neg hg9]; rfl, hw.drop⟩)
      · skip
        have hg3 : f ≠ 3 := by simpa using hc18
        refine X_seq ?_
        refine X_region ?_
        refine XO_v0 (ev_cmp rfl rfl rfl) rfl rfl rfl ?_
        refine XO_v0 (ev_assign rfl) rfl rfl rfl ?_
        refine XO_nil ?_
        refine at_then ?_
        refine X_cond rfl (fun hc23 => ?_) (fun hc23 => ?_)
        · skip
          have hfk : f = 4 := by simpa using hc23
          subst hfk
          refine X_region ?_
          refine XO_v0 (ev_fieldAddr rfl fld_45_5) rfl rfl rfl ?_
          refine XO_v0 (ev_load rfl sct_3 (fun hg => by first | exact Cell.h0 rfl | exact Cell.h1 rfl | exact Cell.h2 rfl | exact Cell.h3 rfl | exact Cell.h4 rfl | exact Cell.h5 rfl | (repeat (first | exact Cell.here rfl | apply Cell.there | apply Cell.app)))) rfl rfl rfl ?_
          refine XO_v0 (ev_fieldAddr rfl fld_45_5) rfl rfl rfl ?_
          refine XO_store rfl rfl szt_3 rfl rfl (by first | exact Upd.u0 | exact Upd.u1 | exact Upd.u2 | exact Upd.u3 | exact Upd.u4 | exact Upd.u5 | (repeat (first | exact Upd.here | apply Upd.there | apply upd_app))) rfl ?_
          refine XO_nil ?_
          refine at_block_n ?_
          refine at_then ?_
          refine X_seq ?_
          refine X_region ?_
          refine XO_v0 (ev_loadA rfl agt_45 (fun hg => by first | exact Cells.g0 | exact Cells.g1 | exact Cells.g2 | exact Cells.g3 | exact Cells.g4 | exact Cells.g5 | exact Cells.s0 (vs := [_, _, _, _, _, _, _, _, _, _, _, _, _, _]) rfl | exact Cells.s1 (vs := [_, _, _, _, _, _, _, _, _, _, _, _, _, _]) rfl | exact Cells.s2 (vs := [_, _, _, _, _, _, _, _, _, _, _, _, _, _]) rfl | exact Cells.s3 (vs := [_, _, _, _, _, _, _, _, _, _, _, _, _, _]) rfl | exact Cells.s4 (vs := [_, _, _, _, _, _, _, _, _, _, _, _, _, _]) rfl | exact Cells.s5 (vs := [_, _, _, _, _, _, _, _, _, _, _, _, _, _]) rfl | (repeat (first | exact Cells.here | apply Cells.there | apply Cells.app))) rfl) rfl rfl rfl ?_
          refine XO_storeA rfl rfl szt_45 rfl rfl rfl rfl (by first | exact Upd.u0 | exact Upd.u1 | exact Upd.u2 | exact Upd.u3 | exact Upd.u4 | exact Upd.u5 | (repeat (first | exact Upd.here | apply Upd.there | apply upd_app))) ?_
          refine XO_nil ?_
          refine at_then ?_
          refine X_ret ?_
          first
          | exact at_retA rfl rfl agt_45 Cells.g0 rfl (fun w hw => ⟨rfl, hw.drop⟩)
          | exact at_retA rfl rfl agt_45 Cells.g0 rfl (fun w hw => ⟨by unfold setG; rw [if_neg hg1, if_neg hg2, if_neg hg3, if_neg hg4, if_neg hg5, if_neg hg6, if_neg hg7, if_neg hg8, if_neg hg9]; rfl, hw.drop⟩)
        · skip
          have hg4 : f ≠ 4 := by simpa using hc23
          refine X_seq ?_
          refine X_region ?_
          refine XO_v0 (ev_cmp rfl rfl rfl) rfl rfl rfl ?_
          refine XO_v0 (ev_assign rfl) rfl rfl rfl ?_
          refine XO_nil ?_
          refine at_then ?_
          refine X_cond rfl (fun hc28 => ?_) (fun hc28 => ?_)
          · skip
            have hfk : f = 5 := by simpa using hc28
            subst hfk
            refine X_region ?_
            refine XO_v0 (ev_fieldAddr rfl fld_45_6) rfl rfl rfl ?_
            refine XO_v0 (ev_load rfl sct_3 (fun hg => by first | exact Cell.h0 rfl | exact Cell.h1 rfl | exact Cell.h2 rfl | exact Cell.h3 rfl | exact Cell.h4 rfl | exact Cell.h5 rfl | (repeat (first | exact Cell.here rfl | apply Cell.there | apply Cell.app)))) rfl rfl rfl ?_
            refine XO_v0 (ev_fieldAddr rfl fld_45_6) rfl rfl rfl ?_
            refine XO_store rfl rfl szt_3 rfl rfl (by first | exact Upd.u0 | exact Upd.u1 | exact Upd.u2 | exact Upd.u3 | exact Upd.u4 | exact Upd.u5 | (repeat (first | exact Upd.here | apply Upd.there | apply upd_app))) rfl ?_
            refine XO_nil ?_
            refine at_block_n ?_
            refine at_then ?_
            refine X_seq ?_
            refine X_region ?_
            refine XO_v0 (ev_loadA rfl agt_45 (fun hg => by first | exact Cells.g0 | exact Cells.g1 | exact Cells.g2 | exact Cells.g3 | exact Cells.g4 | exact Cells.g5 | exact Cells.s0 (vs := [_, _, _, _, _, _, _, _, _, _, _, _, _, _]) rfl | exact Cells.s1 (vs := [_, _, _, _, _, _, _, _, _, _, _, _, _, _]) rfl | exact Cells.s2 (vs := [_, _, _, _, _, _, _, _, _, _, _, _, _, _]) rfl | exact Cells.s3 (vs := [_, _, _, _, _, _, _, _, _, _, _, _, _, _]) rfl | exact Cells.s4 (vs := [_, _, _, _, _, _, _, _, _, _, _, _, _, _]) rfl | exact Cells.s5 (vs := [_, _, _, _, _, _, _, _, _, _, _, _, _, _]) rfl | (repeat (first | exact Cells.here | apply Cells.there | apply Cells.app))) rfl) rfl rfl rfl ?_
            refine XO_storeA rfl rfl szt_45 rfl rfl rfl rfl (by first | exact Upd.u0 | exact Upd.u1 | exact Upd.u2 | exact Upd.u3 | exact Upd.u4 | exact Upd.u5 | (repeat (first | exact Upd.here | apply Upd.there | apply upd_app))) ?_
            refine XO_nil ?_
            refine at_then ?_
            refine X_ret ?_
            first
            | exact at_retA rfl rfl agt_45 Cells.g0 rfl (fun w hw => ⟨rfl, hw.drop⟩)
            | exact at_retA rfl rfl agt_45 Cells.g0 rfl (fun w hw => ⟨by unfold setG; rw [if_neg hg1, if_neg hg2, if_neg hg3, if_neg hg4, if_neg hg5, if_neg hg6, if_neg hg7, if_neg hg8, if_neg hg9]; rfl, hw.drop⟩)
          · skip
            have hg5 : f ≠ 5 := by simpa using hc28
            refine X_seq ?_
            refine X_region ?_
            refine XO_v0 (ev_cmp rfl rfl rfl) rfl rfl rfl ?_
            refine XO_v0 (ev_assign rfl) rfl rfl rfl ?_
            refine XO_nil ?_
            refine at_then ?_
            refine X_cond rfl (fun hc33 => ?_) (fun hc33 => ?_)
            · skip
              have hfk : f = 6 := by simpa using hc33
              subst hfk
              refine X_region ?_
              refine XO_v0 (ev_fieldAddr rfl fld_45_7) rfl rfl rfl ?_
              refine XO_v0 (ev_load rfl sct_3 (fun hg => by first | exact Cell.h0 rfl | exact Cell.h1 rfl | exact Cell.h2 rfl | exact Cell.h3 rfl | exact Cell.h4 rfl | exact Cell.h5 rfl | (repeat (first | exact Cell.here rfl | apply Cell.there | apply Cell.app)))) rfl rfl rfl ?_
              refine XO_v0 (ev_fieldAddr rfl fld_45_7) rfl rfl rfl ?_
              refine XO_store rfl rfl szt_3 rfl rfl (by first | exact Upd.u0 | exact Upd.u1 | exact Upd.u2 | exact Upd.u3 | exact Upd.u4 | exact Upd.u5 | (repeat (first | exact Upd.here | apply Upd.there | apply upd_app))) rfl ?_
              refine XO_nil ?_
              refine at_block_n ?_
              refine at_then ?_
              refine X_seq ?_
              refine X_region ?_
              refine XO_v0 (ev_loadA rfl agt_45 (fun hg => by first | exact Cells.g0 | exact Cells.g1 | exact Cells.g2 | exact Cells.g3 | exact Cells.g4 | exact Cells.g5 | exact Cells.s0 (vs := [_, _, _, _, _, _, _, _, _, _, _, _, _, _]) rfl | exact Cells.s1 (vs := [_, _, _, _, _, _, _, _, _, _, _, _, _, _]) rfl | exact Cells.s2 (vs := [_, _, _, _, _, _, _, _, _, _, _, _, _, _]) rfl | exact Cells.s3 (vs := [_, _, _, _, _, _, _, _, _, _, _, _, _, _]) rfl | exact Cells.s4 (vs := [_, _, _, _, _, _, _, _, _, _, _, _, _, _]) rfl | exact Cells.s5 (vs := [_, _, _, _, _, _, _, _, _, _, _, _, _, _]) rfl | (repeat (first | exact Cells.here | apply Cells.there | apply Cells.app))) rfl) rfl rfl rfl ?_
              refine XO_storeA rfl rfl szt_45 rfl rfl rfl rfl (by first | exact Upd.u0 | exact Upd.u1 | exact Upd.u2 | exact Upd.u3 | exact Upd.u4 | exact Upd.u5 | (repeat (first | exact Upd.here | apply Upd.there | apply upd_app))) ?_
              refine XO_nil ?_
              refine at_then ?_
              refine X_ret ?_
              first
              | exact at_retA rfl rfl agt_45 Cells.g0 rfl (fun w hw => ⟨rfl, hw.drop⟩)
              | exact at_retA rfl rfl agt_45 Cells.g0 rfl (fun w hw => ⟨by unfold setG; rw [if_neg hg1, if_neg hg2, if_neg hg3, if_neg hg4, if_neg hg5, if_neg hg6, if_neg hg7, if_neg hg8, if_neg hg9]; rfl, hw.drop⟩)
            · skip
              have hg6 : f ≠ 6 := by simpa using hc33
              refine X_seq ?_
              refine X_region ?_
              refine XO_v0 (ev_cmp rfl rfl rfl) rfl rfl rfl ?_
              refine XO_v0 (ev_assign rfl) rfl rfl rfl ?_
              refine XO_nil ?_
              refine at_then ?_
              refine X_cond rfl (fun hc38 => ?_) (fun hc38 => ?_)
              · skip
                have hfk : f = 7 := by simpa using hc38
                subst hfk
                refine X_region ?_
                refine XO_v0 (ev_fieldAddr rfl fld_45_8) rfl rfl rfl ?_
                refine XO_v0 (ev_load rfl sct_3 (fun hg => by first | exact Cell.h0 rfl | exact Cell.h1 rfl | exact Cell.h2 rfl | exact Cell.h3 rfl | exact Cell.h4 rfl | exact Cell.h5 rfl | (repeat (first | exact Cell.here rfl | apply Cell.there | apply Cell.app)))) rfl rfl rfl ?_
                refine XO_v0 (ev_fieldAddr rfl fld_45_8) rfl rfl rfl ?_
                refine XO_store rfl rfl szt_3 rfl rfl (by first | exact Upd.u0 | exact Upd.u1 | exact Upd.u2 | exact Upd.u3 | exact Upd.u4 | exact Upd.u5 | (repeat (first | exact Upd.here | apply Upd.there | apply upd_app))) rfl ?_
                refine XO_nil ?_
                refine at_block_n ?_
                refine at_then ?_
                refine X_seq ?_
                refine X_region ?_
                refine XO_v0 (ev_loadA rfl agt_45 (fun hg => by first | exact Cells.g0 | exact Cells.g1 | exact Cells.g2 | exact Cells.g3 | exact Cells.g4 | exact Cells.g5 | exact Cells.s0 (vs := [_, _, _, _, _, _, _, _, _, _, _, _, _, _]) rfl | exact Cells.s1 (vs := [_, _, _, _, _, _, _, _, _, _, _, _, _, _]) rfl | exact Cells.s2 (vs := [_, _, _, _, _, _, _, _, _, _, _, _, _, _]) rfl | exact Cells.s3 (vs := [_, _, _, _, _, _, _, _, _, _, _, _, _, _]) rfl | exact Cells.s4 (vs := [_, _, _, _, _, _, _, _, _, _, _, _, _, _]) rfl | exact Cells.s5 (vs := [_, _, _, _, _, _, _, _, _, _, _, _, _, _]) rfl | (repeat (first | exact Cells.here | apply Cells.there | apply Cells.app))) rfl) rfl rfl rfl ?_
                refine XO_storeA rfl rfl szt_45 rfl rfl rfl rfl (by first | exact Upd.u0 | exact Upd.u1 | exact Upd.u2 | exact Upd.u3 | exact Upd.u4 | exact Upd.u5 | (repeat (first | exact Upd.here | apply Upd.there | apply upd_app))) ?_
                refine XO_nil ?_
                refine at_then ?_
                refine X_ret ?_
                first
                | exact at_retA rfl rfl agt_45 Cells.g0 rfl (fun w hw => ⟨rfl, hw.drop⟩)
                | exact at_retA rfl rfl agt_45 Cells.g0 rfl (fun w hw => ⟨by unfold setG; rw [if_neg hg1, if_neg hg2, if_neg hg3, if_neg hg4, if_neg hg5, if_neg hg6, if_neg hg7, if_neg hg8, if_neg hg9]; rfl, hw.drop⟩)
              · skip
                have hg7 : f ≠ 7 := by simpa using hc38
                refine X_seq ?_
                refine X_region ?_
                refine XO_v0 (ev_cmp rfl rfl rfl) rfl rfl rfl ?_
                refine XO_v0 (ev_assign rfl) rfl rfl rfl ?_
                refine XO_nil ?_
                refine at_then ?_
                refine X_cond rfl (fun hc43 => ?_) (fun hc43 => ?_)
                · skip
                  have hfk : f = 8 := by simpa using hc43
                  subst hfk
                  refine X_region ?_
                  refine XO_v0 (ev_fieldAddr rfl fld_45_9) rfl rfl rfl ?_
                  refine XO_v0 (ev_load rfl sct_3 (fun hg => by first | exact Cell.h0 rfl | exact Cell.h1 rfl | exact Cell.h2 rfl | exact Cell.h3 rfl | exact Cell.h4 rfl | exact Cell.h5 rfl | (repeat (first | exact Cell.here rfl | apply Cell.there | apply Cell.app)))) rfl rfl rfl ?_
                  refine XO_v0 (ev_fieldAddr rfl fld_45_9) rfl rfl rfl ?_
                  refine XO_store rfl rfl szt_3 rfl rfl (by first | exact Upd.u0 | exact Upd.u1 | exact Upd.u2 | exact Upd.u3 | exact Upd.u4 | exact Upd.u5 | (repeat (first | exact Upd.here | apply Upd.there | apply upd_app))) rfl ?_
                  refine XO_nil ?_
                  refine at_block_n ?_
                  refine at_then ?_
                  refine X_seq ?_
                  refine X_region ?_
                  refine XO_v0 (ev_loadA rfl agt_45 (fun hg => by first | exact Cells.g0 | exact Cells.g1 | exact Cells.g2 | exact Cells.g3 | exact Cells.g4 | exact Cells.g5 | exact Cells.s0 (vs := [_, _, _, _, _, _, _, _, _, _, _, _, _, _]) rfl | exact Cells.s1 (vs := [_, _, _, _, _, _, _, _, _, _, _, _, _, _]) rfl | exact Cells.s2 (vs := [_, _, _, _, _, _, _, _, _, _, _, _, _, _]) rfl | exact Cells.s3 (vs := [_, _, _, _, _, _, _, _, _, _, _, _, _, _]) rfl | exact Cells.s4 (vs := [_, _, _, _, _, _, _, _, _, _, _, _, _, _]) rfl | exact Cells.s5 (vs := [_, _, _, _, _, _, _, _, _, _, _, _, _, _]) rfl | (repeat (first | exact Cells.here | apply Cells.there | apply Cells.app))) rfl) rfl rfl rfl ?_
                  refine XO_storeA rfl rfl szt_45 rfl rfl rfl rfl (by first | exact Upd.u0 | exact Upd.u1 | exact Upd.u2 | exact Upd.u3 | exact Upd.u4 | exact Upd.u5 | (repeat (first | exact Upd.here | apply Upd.there | apply upd_app))) ?_
                  refine XO_nil ?_
                  refine at_then ?_
                  refine X_ret ?_
                  first
                  | exact at_retA rfl rfl agt_45 Cells.g0 rfl (fun w hw => ⟨rfl, hw.drop⟩)
                  | exact at_retA rfl rfl agt_45 Cells.g0 rfl (fun w hw => ⟨by unfold setG; rw [if_neg hg1, if_neg hg2, if_neg hg3, if_neg hg4, if_neg hg5, if_neg hg6, if_neg hg7, if_neg hg8, if_neg hg9]; rfl, hw.drop⟩)
                · skip
                  have hg8 : f ≠ 8 := by simpa using hc43
                  refine X_seq ?_
                  refine X_region ?_
                  refine XO_v0 (ev_cmp rfl rfl rfl) rfl rfl rfl ?_
                  refine XO_v0 (ev_assign rfl) rfl rfl rfl ?_
                  refine XO_nil ?_
                  refine at_then ?_
                  refine X_cond rfl (fun hc48 => ?_) (fun hc48 => ?_)
                  · skip
                    have hfk : f = 9 := by simpa using hc48
                    subst hfk
                    refine X_seq ?_
                    refine X_region ?_
                    refine XO_v0 (ev_fieldAddr rfl fld_45_10) rfl rfl rfl ?_
                    refine XO_v0 (ev_loadA rfl agt_43 (fun hg => by first | exact Cells.g0 | exact Cells.g1 | exact Cells.g2 | exact Cells.g3 | exact Cells.g4 | exact Cells.g5 | exact Cells.s0 (vs := [_, _]) rfl | exact Cells.s1 (vs := [_, _]) rfl | exact Cells.s2 (vs := [_, _]) rfl | exact Cells.s3 (vs := [_, _]) rfl | exact Cells.s4 (vs := [_, _]) rfl | exact Cells.s5 (vs := [_, _]) rfl | (repeat (first | exact Cells.here | apply Cells.there | apply Cells.app))) rfl) rfl rfl rfl ?_
                    refine XO_v0 (ev_fieldAddr rfl fld_45_10) rfl rfl rfl ?_
                    refine XO_storeP rfl rfl szt_43 rfl rfl rfl rfl (by first | exact Upd.u0 | exact Upd.u1 | exact Upd.u2 | exact Upd.u3 | exact Upd.u4 | exact Upd.u5 | (repeat (first | exact Upd.here | apply Upd.there | apply upd_app))) ?_
                    refine XO_nil ?_
                    refine at_then ?_
                    refine X_region ?_
                    refine XO_v0 (ev_fieldAddr rfl fld_45_11) rfl rfl rfl ?_
                    refine XO_v0 (ev_loadA rfl agt_43 (fun hg => by first | exact Cells.g0 | exact Cells.g1 | exact Cells.g2 | exact Cells.g3 | exact Cells.g4 | exact Cells.g5 | exact Cells.s0 (vs := [_, _]) rfl | exact Cells.s1 (vs := [_, _]) rfl | exact Cells.s2 (vs := [_, _]) rfl | exact Cells.s3 (vs := [_, _]) rfl | exact Cells.s4 (vs := [_, _]) rfl | exact Cells.s5 (vs := [_, _]) rfl | (repeat (first | exact Cells.here | apply Cells.there | apply Cells.app))) rfl) rfl rfl rfl ?_
                    refine XO_v0 (ev_fieldAddr rfl fld_45_11) rfl rfl rfl ?_
                    refine XO_storeP rfl rfl szt_43 rfl rfl rfl rfl (by first | exact Upd.u0 | exact Upd.u1 | exact Upd.u2 | exact Upd.u3 | exact Upd.u4 | exact Upd.u5 | (repeat (first | exact Upd.here | apply Upd.there | apply upd_app))) ?_
                    refine XO_nil ?_
                    refine at_block_n ?_
                    refine at_then ?_
                    refine X_seq ?_
                    refine X_region ?_
                    refine XO_v0 (ev_loadA rfl agt_45 (fun hg => by first | exact Cells.g0 | exact Cells.g1 | exact Cells.g2 | exact Cells.g3 | exact Cells.g4 | exact Cells.g5 | exact Cells.s0 (vs := [_, _, _, _, _, _, _, _, _, _, _, _, _, _]) rfl | exact Cells.s1 (vs := [_, _, _, _, _, _, _, _, _, _, _, _, _, _]) rfl | exact Cells.s2 (vs := [_, _, _, _, _, _, _, _, _, _, _, _, _, _]) rfl | exact Cells.s3 (vs := [_, _, _, _, _, _, _, _, _, _, _, _, _, _]) rfl | exact Cells.s4 (vs := [_, _, _, _, _, _, _, _, _, _, _, _, _, _]) rfl | exact Cells.s5 (vs := [_, _, _, _, _, _, _, _, _, _, _, _, _, _]) rfl | (repeat (first | exact Cells.here | apply Cells.there | apply Cells.app))) rfl) rfl rfl rfl ?_
                    refine XO_storeA rfl rfl szt_45 rfl rfl rfl rfl (by first | exact Upd.u0 | exact Upd.u1 | exact Upd.u2 | exact Upd.u3 | exact Upd.u4 | exact Upd.u5 | (repeat (first | exact Upd.here | apply Upd.there | apply upd_app))) ?_
                    refine XO_nil ?_
                    refine at_then ?_
                    refine X_ret ?_
                    first
                    | exact at_retA rfl rfl agt_45 Cells.g0 rfl (fun w hw => ⟨rfl, hw.drop⟩)
                    | exact at_retA rfl rfl agt_45 Cells.g0 rfl (fun w hw => ⟨by unfold setG; rw [if_neg hg1, if_neg hg2, if_neg hg3, if_neg hg4, if_neg hg5, if_neg hg6, if_neg hg7, if_neg hg8, if_neg hg9]; rfl, hw.drop⟩)
                  · skip
                    have hg9 : f ≠ 9 := by simpa using hc48
                    refine X_skip ?_
                    refine at_block_n ?_
                    refine at_then ?_
                    refine X_seq ?_
                    refine X_region ?_
                    refine XO_v0 (ev_loadA rfl agt_45 (fun hg => by first | exact Cells.g0 | exact Cells.g1 | exact Cells.g2 | exact Cells.g3 | exact Cells.g4 | exact Cells.g5 | exact Cells.s0 (vs := [_, _, _, _, _, _, _, _, _, _, _, _, _, _]) rfl | exact Cells.s1 (vs := [_, _, _, _, _, _, _, _, _, _, _, _, _, _]) rfl | exact Cells.s2 (vs := [_, _, _, _, _, _, _, _, _, _, _, _, _, _]) rfl | exact Cells.s3 (vs := [_, _, _, _, _, _, _, _, _, _, _, _, _, _]) rfl | exact Cells.s4 (vs := [_, _, _, _, _, _, _, _, _, _, _, _, _, _]) rfl | exact Cells.s5 (vs := [_, _, _, _, _, _, _, _, _, _, _, _, _, _]) rfl | (repeat (first | exact Cells.here | apply Cells.there | apply Cells.app))) rfl) rfl rfl rfl ?_
                    refine XO_storeA rfl rfl szt_45 rfl rfl rfl rfl (by first | exact Upd.u0 | exact Upd.u1 | exact Upd.u2 | exact Upd.u3 | exact Upd.u4 | exact Upd.u5 | (repeat (first | exact Upd.here | apply Upd.there | apply upd_app))) ?_
                    refine XO_nil ?_
                    refine at_then ?_
                    refine X_ret ?_
                    first
                    | exact at_retA rfl rfl agt_45 Cells.g0 rfl (fun w hw => ⟨rfl, hw.drop⟩)
                    | exact at_retA rfl rfl agt_45 Cells.g0 rfl (fun w hw => ⟨by unfold setG; rw [if_neg hg1, if_neg hg2, if_neg hg3, if_neg hg4, if_neg hg5, if_neg hg6, if_neg hg7, if_neg hg8, if_neg hg9]; rfl, hw.drop⟩)
theorem r_plain (I : HMap) : RetV Tryz.prog 134 [] I (encGA plainR) := by
  intro g H w hw
  refine enter Tryz.func134 rfl Tryz.ntmps134 rfl hw ?_
  refine X_seq ?_
  refine X_region ?_
  refine XO_alloc zt_45 rfl rfl (fun b_0 => ?_)
  refine XO_nil ?_
  refine at_then ?_
  refine X_seq ?_
  refine X_region ?_
  refine XO_v0 (ev_buildL (ps := [(1, _)]) [_, _] plt_43 rfl rfl) rfl rfl rfl ?_
  refine XO_v0 (ev_buildL (ps := [(0, _), (1, _)]) [_, _] plt_43 rfl rfl) rfl rfl rfl ?_
  refine XO_v0 (ev_buildL (ps := [(3, _), (4, _), (10, _), (11, _)]) [_, _, _, _, _, _, _, _, _, _, _, _, _, _] plt_45 rfl rfl) rfl rfl rfl ?_
  refine XO_storeA rfl rfl szt_45 rfl rfl rfl rfl (by first | exact Upd.u0 | exact Upd.u1 | exact Upd.u2 | exact Upd.u3 | exact Upd.u4 | exact Upd.u5 | (repeat (first | exact Upd.here | apply Upd.there | apply upd_app))) ?_
  refine XO_nil ?_
  refine at_then ?_
  refine X_ret ?_
  exact at_retA rfl rfl agt_45 Cells.g0 rfl (fun w hw => ⟨rfl, hw.drop⟩)
end Go.Proofs.YtccomeanpppfmaaGreat
end
section
namespace Go.Proofs.YtccomeanpppfmaaGreat
open Go Go.Kn Go.Proofs
def idP (t : Int) (p : Pt) : Bool := p.id == t
def fndI (ps : List Pt) (t : Int) : Int := idxF (idP t) ps
theorem fnd_no {ps : List Pt} {t : Int} : decide (fndI ps t < 0) = !hasI ps t := idx_lt
theorem fnd_at {ps : List Pt} (hL : ∀ p ∈ ps, ∀ q ∈ ps, p.id = q.id → p = q) (hnd : (ps.map (·.id)).Nodup) {k : Nat} {p : Pt} (hp : ps[k]? = some p) : fndI ps p.id = k := by
  refine idx_hit (k := k) (x := p) ?_ hp (by simp [idP])
  rw [List.any_eq_false]
  intro q hq
  obtain ⟨j, hj⟩ := List.getElem?_of_mem hq
  have hjk : j < k := by have := (List.getElem?_eq_some_iff.1 hj).1; rw [List.length_take] at this; omega
  rw [List.getElem?_take, if_pos hjk] at hj
  intro e
  have e : q.id = p.id := by simpa [idP] using e
  obtain ⟨hj1, hj2⟩ := List.getElem?_eq_some_iff.1 hj
  obtain ⟨hk1, hk2⟩ := List.getElem?_eq_some_iff.1 hp
  have h1 : (ps.map (·.id))[j]'(by simpa using hj1) = (ps.map (·.id))[k]'(by simpa using hk1) := by simp [hj2, hk2, e]
  have := (List.getElem_inj hnd).1 h1
  omega
theorem Lst.nodup {ps : List Pt} (h : Lst ps) : (ps.map (·.id)).Nodup := by
  unfold List.Nodup
  rw [List.pairwise_map]
  exact h.inc.imp fun {a b : Pt} (h : a.id < b.id) => Int.ne_of_lt h
theorem Lst.fnd {ps : List Pt} (h : Lst ps) {k : Nat} {p : Pt} (hp : ps[k]? = some p) : fndI ps p.id = k := fnd_at (fun p hp q hq e => h.uniq hp hq e) h.nodup hp
/-- What a patch needs stands before it. -/
theorem Lst.need_at {ps : List Pt} (h : Lst ps) {k : Nat} {p : Pt} (hp : ps[k]? = some p) {y : Int} (hy : y ∈ p.needs) : ∃ m q, m < k ∧ ps[m]? = some q ∧ q.id = y ∧ fndI ps y = m := by
  obtain ⟨q, hq, e⟩ := h.before hp hy
  obtain ⟨m, hm⟩ := List.getElem?_of_mem hq
  have hmk : m < k := by have := (List.getElem?_eq_some_iff.1 hm).1; rw [List.length_take] at this; omega
  rw [List.getElem?_take, if_pos hmk] at hm
  exact ⟨m, q, hmk, hm, e, by rw [← e]; exact h.fnd hm⟩
theorem Lst.lt_at {ps : List Pt} (h : Lst ps) {i j : Nat} {p q : Pt} (hp : ps[i]? = some p) (hq : ps[j]? = some q) (hlt : p.id < q.id) : i < j := by
  obtain ⟨hi1, hi2⟩ := List.getElem?_eq_some_iff.1 hp
  obtain ⟨hj1, hj2⟩ := List.getElem?_eq_some_iff.1 hq
  by_cases e : i = j
  · subst e; rw [hp] at hq; cases hq; omega
  · by_cases e2 : j < i
    · have := List.pairwise_iff_getElem.1 h.inc j i hj1 hi1 e2; rw [hi2, hj2] at this; omega
    · omega
/-- A row over a list of patches. -/
def RowP (ps : List Pt) (f : Nat → Pt → Bool) (row : List Bool) : Prop := row.length = ps.length ∧ ∀ j q, ps[j]? = some q → row[j]? = some (f j q)
theorem RowP.congr {ps : List Pt} {f g : Nat → Pt → Bool} {row : List Bool} (h : RowP ps f row) (e : ∀ j q, ps[j]? = some q → f j q = g j q) : RowP ps g row := ⟨h.1, fun j q hq => by rw [← e j q hq]; exact h.2 j q hq⟩
theorem RowP.new {ps : List Pt} {n : Nat} (h : ps.length = n) : RowP ps (fun _ _ => false) (List.replicate n false) := ⟨by simp [h], fun j q hq => by
  have := (List.getElem?_eq_some_iff.1 hq).1
  rw [List.getElem?_replicate, if_pos (by omega)]⟩
theorem RowP.set {ps : List Pt} {f : Nat → Pt → Bool} {row : List Bool} (h : RowP ps f row) (m : Nat) (b : Bool) : RowP ps (fun j q => if j = m then b else f j q) (row.set m b) := ⟨by rw [List.length_set, h.1], fun j q hq => by
  show _ = some (if j = m then b else f j q)
  rw [List.getElem?_set]
  have hj := (List.getElem?_eq_some_iff.1 hq).1
  by_cases e : m = j
  · subst e; rw [if_pos rfl, if_pos (by rw [h.1]; exact hj), if_pos rfl]
  · rw [if_neg e, if_neg (fun e2 : j = m => e e2.symm)]; exact h.2 j q hq⟩
theorem RowP.eq {ps : List Pt} {f : Pt → Bool} {row : List Bool} (h : RowP ps (fun _ => f) row) : row = ps.map f := by
  refine List.ext_getElem? fun j => ?_
  rw [List.getElem?_map]
  cases hq : ps[j]? with
  | some q => rw [h.2 j q hq]; rfl
  | none =>
    rw [List.getElem?_eq_none_iff] at hq
    exact List.getElem?_eq_none (by rw [h.1]; exact hq)
theorem RowP.of (ps : List Pt) (f : Pt → Bool) : RowP ps (fun _ => f) (ps.map f) := ⟨by simp, fun j q hq => by simp [hq]⟩
def rowF (ps : List Pt) (p : Pt) : List Bool := ps.map fun q => onF ps p.id q.id
/-- A row's cells. -/
def cellsB (row : List Bool) : Array Value := (row.flatMap encB).toArray
theorem cellsB_eq (row : List Bool) : row.flatMap encB = row.map Value.bool := by
  induction row with
  | nil => rfl
  | cons b row ih => rw [List.flatMap_cons, ih]; rfl
theorem cellsB_set (row : List Bool) (m : Nat) (b : Bool) : (cellsB row).setIfInBounds ((m : Int).toNat * 1) (.bool b) = cellsB (row.set m b) := by
  unfold cellsB
  rw [cellsB_eq, cellsB_eq, Nat.mul_one, List.setIfInBounds_toArray, List.map_set]; rfl
theorem bltB {row : List Bool} {m : Nat} (h : m < row.length) : Nat.blt ((m : Int).toNat * 1) (cellsB row).size = true := by
  unfold cellsB
  rw [List.size_toArray, flat_len encB_len, Nat.mul_one, Nat.mul_one]
  rw [Nat.blt_eq]; exact h
theorem cellsB_new (n : Nat) : (List.replicate n (Value.bool false)).toArray = cellsB (List.replicate n false) := by
  unfold cellsB
  rw [cellsB_eq, List.map_replicate]
theorem cellB {I : HMap} {l : Go.Kn.Loc} {b j : Nat} {row : List Bool} {t : TypeId} {fz : Nat × Nat} {x : Bool} (h : row[j]? = some x) : Cell I ((b, .cells (cellsB row) t fz) :: l) b ((j : Int).toNat * 1) (.bool x) := by
  refine Cell.here ?_
  rw [lget_eq]
  unfold cellsB
  rw [cellsB_eq, Nat.mul_one]
  simp [h]
theorem split_asc {A B C L R : Go.Kn.Loc} (h : Split (A ++ (B ++ C)) L R) : Split ((A ++ B) ++ C) L R := by rw [List.append_assoc]; exact h
/-- Rows of rows. -/
def SlM {β : Type} (enc : β → List Value) (size : Nat) (I : HMap) (av : Option Addr) (n c : Nat) (rows : List (List β)) : Prop :=
  ∃ hs : List Hd, Sl I 1 encH av n c hs ∧ hs.length = rows.length ∧ ∀ (k : Nat) (h : Hd) (r : List β), hs[k]? = some h → rows[k]? = some r → Sl I size enc h.a h.n h.c r
theorem SlM.len {β : Type} {enc : β → List Value} {size : Nat} {I : HMap} {av : Option Addr} {n c : Nat} {rows : List (List β)} (h : SlM enc size I av n c rows) : rows.length = n := by
  obtain ⟨hs, h1, h2, _⟩ := h
  rw [← h2, h1.len]
theorem SlM.at {β : Type} {enc : β → List Value} {size : Nat} {I : HMap} {av : Option Addr} {n c : Nat} {rows : List (List β)} (h : SlM enc size I av n c rows) {k : Nat} (hk : k < n) : ∃ hs hd r, Sl I 1 encH av n c hs ∧ hs[k]? = some hd ∧ rows[k]? = some r ∧ Sl I size enc hd.a hd.n hd.c r := by
  have hl := h.len
  obtain ⟨hs, h1, h2, h3⟩ := h
  obtain ⟨hd, hh⟩ := h1.at hk
  exact ⟨hs, hd, rows[k]'(by omega), h1, hh, List.getElem?_eq_getElem _, h3 k _ _ hh (List.getElem?_eq_getElem _)⟩
theorem Cell.seg {I : HMap} {l : Go.Kn.Loc} {b off n : Nat} {cur vs : List Value} {t : TypeId} {fz : Nat × Nat} {u : Value} (h : (cur.drop off).take n = vs) (hu : vs[0]? = some u) : Cell I ((b, .cells cur.toArray t fz) :: l) b off u := by
  refine Cell.here ?_
  rw [lget_eq, ← hu, ← h, List.getElem?_take]
  split
  · simp
  · rename_i hn
    rw [← h, List.getElem?_take, if_neg hn] at hu; cases hu
theorem fold_any {α : Type} {xs : List α} {k : Nat} {x : α} {P : α → Bool} (hx : xs[k]? = some x) : (xs.take (k + 1)).any P = ((xs.take k).any P || P x) := by rw [take_snoc hx, List.any_append]; simp
/-! ### The list's order -/
theorem ndR_at {id : Int} {v : List Int} {k : Nat} {x : Int} (hx : v[k]? = some x) : ndP id v k = !((decide (x < 1) || decide (x ≥ id)) || (decide ((k : Int) > 0) && decide (x ≤ v.getD ((k : Int) - 1).toNat 0))) := by unfold ndP; rw [getD_of hx]
theorem lsR_ok {a b : Bool} (h : a = false) (h2 : b = false) : (!(a || b)) = true := by rw [h, h2]; rfl
theorem lsR_1 {a b : Bool} (h : a = true) : (!(a || b)) = false := by rw [h]; rfl
theorem lsR_2 {a b : Bool} (h : b = true) : (!(a || b)) = false := by rw [h]; simp
theorem lsP_at {ps : List Pt} {k : Nat} {p : Pt} (hx : ps[k]? = some p) : lsP ps k = !((decide ((k : Int) > 0) && decide (p.id ≤ (ps.getD ((k : Int) - 1).toNat zeroP).id)) || p.needs.any (fun n => !hasI ps n)) := by unfold lsP; rw [getD_of hx]
theorem togA_one {ps : List Pt} {i : Nat} {p : Pt} (hp : ps[i]? = some p) (h : (ps.all fun q => p.id == q.id || togB p q (onF ps p.id q.id)) = false) : togA ps = false := by unfold togA; exact all_no hp h
/-! ### The rows of all patches -/
def preF (ps : List Pt) (p : Pt) (k : Nat) (q : Pt) : Bool := (p.needs.take k).any fun m => m == q.id || onF ps m q.id
theorem row_start {ps : List Pt} {p : Pt} {n : Nat} (h : ps.length = n) : RowP ps (fun _ => preF ps p 0) (List.replicate n false) := (RowP.new h).congr fun j q hq => by simp [preF]
/-- Within a need: its patch, and the first of those that it stands on. -/
def midF (ps : List Pt) (p : Pt) (k : Nat) (y : Int) (j : Nat) (i : Nat) (q : Pt) : Bool := (preF ps p k q || y == q.id) || (decide (i < j) && onF ps y q.id)
theorem row_mid {ps : List Pt} {p q : Pt} {k m : Nat} {y : Int} {row : List Bool} (hL : Lst ps) (h : RowP ps (fun _ => preF ps p k) row) (hq : ps[m]? = some q) (hy : q.id = y) : RowP ps (midF ps p k y 0) (row.set m true) := (h.set m true).congr fun i r hr => by
  unfold midF
  by_cases e : i = m
  · subst e; rw [hq] at hr; cases hr; simp [hy]
  · rw [if_neg e]
    have : ¬ y = r.id := fun e2 => by
      have h1 := hL.fnd hr
      have h2 := hL.fnd hq
      rw [hy, e2, h1] at h2
      omega
    simp [this]
theorem row_step {ps : List Pt} {p q : Pt} {k j : Nat} {y : Int} {row : List Bool} {b : Bool} (h : RowP ps (midF ps p k y j) row) (hq : ps[j]? = some q) (hb : row[j]? = some b) : RowP ps (midF ps p k y (j + 1)) (row.set j (b || onF ps y q.id)) := (h.set j _).congr fun i r hr => by
  by_cases e : i = j
  · subst e
    rw [hq] at hr; cases hr
    rw [if_pos rfl]
    have := h.2 i q hq
    rw [hb] at this
    cases this
    unfold midF
    simp
  · rw [if_neg e]
    unfold midF
    rw [show decide (i < j) = decide (i < j + 1) from by rw [Bool.eq_iff_iff]; simp; omega]
theorem row_next {ps : List Pt} {p q : Pt} {k m : Nat} {y : Int} {row : List Bool} (hL : Lst ps) (hk : p.needs[k]? = some y) (hq : ps[m]? = some q) (hy : q.id = y) (h : RowP ps (midF ps p k y m) row) : RowP ps (fun _ => preF ps p (k + 1)) row := h.congr fun i r hr => by
  unfold midF preF
  rw [fold_any hk, Bool.or_assoc]
  congr 1
  congr 1
  by_cases e : i < m
  · simp [e]
  · have : onF ps y r.id = false := by
      cases ho : onF ps y r.id with
      | false => rfl
      | true =>
        have h1 := (hL.on_lt ho).1
        have := hL.lt_at hr hq (by omega)
        omega
    rw [this, Bool.and_false]
theorem row_done {ps : List Pt} {p : Pt} {row : List Bool} (hL : Lst ps) (hp : p ∈ ps) (h : RowP ps (fun _ => preF ps p p.needs.length) row) : row = rowF ps p := by
  refine (h.congr (g := fun _ q => onF ps p.id q.id) fun i q hq => ?_).eq
  unfold preF
  rw [List.take_of_length_le (Nat.le_refl _), hL.on hp]
/-- The rows so far. -/
def RowsQ (I : HMap) (ps : List Pt) (n : Nat) (hs : List Hd) (i : Nat) : Prop := hs.length = i ∧ ∀ (k : Nat) (h : Hd) (p : Pt), hs[k]? = some h → ps[k]? = some p → h.n = n ∧ Sl I 1 encB h.a h.n h.c (rowF ps p)
theorem RowsQ.mono {I I' : HMap} {ps : List Pt} {n : Nat} {hs : List Hd} {i : Nat} (h : RowsQ I ps n hs i) (hI : HLe I I') : RowsQ I' ps n hs i := ⟨h.1, fun k x p a b => ⟨(h.2 k x p a b).1, (h.2 k x p a b).2.mono hI⟩⟩
theorem RowsQ.nil {I : HMap} {ps : List Pt} {n : Nat} : RowsQ I ps n [] 0 := ⟨rfl, fun k h p hk _ => by simp at hk⟩
theorem RowsQ.snoc {I : HMap} {ps : List Pt} {n : Nat} {hs : List Hd} {i : Nat} {p : Pt} {a : Option Addr} {c : Nat} (h : RowsQ I ps n hs i) (hp : ps[i]? = some p) (hr : Sl I 1 encB a n c (rowF ps p)) : RowsQ I ps n (hs ++ [⟨a, n, c⟩]) (i + 1) := ⟨by rw [List.length_append, h.1]; rfl, fun k x q hx hq => by
  by_cases e : k < hs.length
  · rw [List.getElem?_append_left e] at hx; exact h.2 k x q hx hq
  · have hk := (List.getElem?_eq_some_iff.1 hx).1
    rw [List.length_append, List.length_singleton] at hk
    have : k = hs.length := by omega
    subst this
    rw [List.getElem?_append_right (Nat.le_refl _), Nat.sub_self] at hx
    simp at hx; subst hx
    rw [h.1] at hq; rw [hp] at hq; cases hq
    exact ⟨rfl, hr⟩⟩
theorem RowsQ.slm {I : HMap} {ps : List Pt} {n : Nat} {hs : List Hd} {av : Option Addr} {c : Nat} (h : RowsQ I ps n hs n) (hn : ps.length = n) (hS : Sl I 1 encH av n c hs) : SlM encB 1 I av n c (ps.map (rowF ps)) :=
  ⟨hs, hS, by rw [hS.len, List.length_map, hn], fun k x r hx hr => by
    rw [List.getElem?_map, Option.map_eq_some_iff] at hr
    obtain ⟨p, hp, rfl⟩ := hr
    exact (h.2 k x p hx hp).2⟩
/-! ### Lists of IDs as rows -/
def chF (ys : List Int) (q : Pt) : Bool := ys.any fun y => y == q.id
theorem fnd_hit {ps : List Pt} (hL : Lst ps) {y : Int} (h : hasI ps y = true) : ∃ m q, m < ps.length ∧ ps[m]? = some q ∧ q.id = y ∧ fndI ps y = m := by
  obtain ⟨q, hq, e⟩ := hasI_iff.1 h
  obtain ⟨m, hm⟩ := List.getElem?_of_mem hq
  exact ⟨m, q, (List.getElem?_eq_some_iff.1 hm).1, hm, e, by rw [← e]; exact hL.fnd hm⟩
theorem ch_step {ps : List Pt} {ys : List Int} {k m : Nat} {y : Int} {q : Pt} {row : List Bool} (hL : Lst ps) (h : RowP ps (fun _ => chF (ys.take k)) row) (hy : ys[k]? = some y) (hq : ps[m]? = some q) (e : q.id = y) : RowP ps (fun _ => chF (ys.take (k + 1))) (row.set m true) := (h.set m true).congr fun j r hr => by
  unfold chF
  rw [fold_any hy]
  by_cases hj : j = m
  · subst hj; rw [hq] at hr; cases hr; rw [if_pos rfl, e]; simp
  · rw [if_neg hj]
    have : (y == r.id) = false := by
      rw [beq_eq_false_iff_ne]
      intro e2
      have h1 := hL.fnd hr
      have h2 := hL.fnd hq
      rw [e, e2, h1] at h2
      omega
    rw [this, Bool.or_false]
theorem ch_no {ps : List Pt} {ys : List Int} {k : Nat} {y : Int} (hy : ys[k]? = some y) (h : (decide (fndI ps y < 0) || (decide ((k : Int) > 0) && decide (y ≤ ys.getD ((k : Int) - 1).toNat 0))) = true) : chB ps ys = false := by
  rw [Bool.or_eq_true] at h
  rcases h with h | h
  · rw [fnd_no] at h; exact ch_has hy (by simpa using h)
  · refine ch_inc ?_
    rw [incB_eq]
    refine range_bad (k := k) (List.getElem?_eq_some_iff.1 hy).1 ?_
    unfold incP
    rw [getD_of hy, h]; rfl
theorem ch_yes {ps : List Pt} {ys : List Int} {k : Nat} {y : Int} (hy : ys[k]? = some y) (h : (decide (fndI ps y < 0) || (decide ((k : Int) > 0) && decide (y ≤ ys.getD ((k : Int) - 1).toNat 0))) = false) : hasI ps y = true ∧ incP ys k = true := by
  rw [Bool.or_eq_false_iff] at h
  refine ⟨by have h1 := h.1; rw [fnd_no] at h1; simpa using h1, ?_⟩
  unfold incP
  rw [getD_of hy, h.2]; rfl
theorem ch_end {ps : List Pt} {ys : List Int} (h : (List.range ys.length).all (incP ys) = true) (h2 : ys.all (hasI ps) = true) : chB ps ys = true := ch_all (by rw [incB_eq]; exact h) h2
/-- What is chosen, and what such patches stand on. -/
def cloP (ps : List Pt) (f : Pt → Bool) (q : Pt) : Bool := f q || ps.any fun p => f p && onF ps p.id q.id
def clK (ps : List Pt) (f : Pt → Bool) (k : Nat) (q : Pt) : Bool := f q || (ps.take k).any fun p => f p && onF ps p.id q.id
def clJ (ps : List Pt) (f : Pt → Bool) (k : Nat) (p : Pt) (j : Nat) (i : Nat) (q : Pt) : Bool := clK ps f k q || (decide (i < j) && (f p && onF ps p.id q.id))
theorem cl_start {ps : List Pt} {f : Pt → Bool} {row : List Bool} (h : RowP ps (fun _ => f) row) : RowP ps (fun _ => clK ps f 0) row := h.congr fun j q _ => by unfold clK; simp
theorem cl_in {ps : List Pt} {f : Pt → Bool} {k : Nat} {p : Pt} {row : List Bool} (h : RowP ps (fun _ => clK ps f k) row) : RowP ps (clJ ps f k p 0) row := h.congr fun j q _ => by unfold clJ; simp
theorem cl_step {ps : List Pt} {f : Pt → Bool} {k j : Nat} {p q : Pt} {row : List Bool} {b : Bool} (hf : f p = true) (h : RowP ps (clJ ps f k p j) row) (hq : ps[j]? = some q) (hb : row[j]? = some b) : RowP ps (clJ ps f k p (j + 1)) (row.set j (b || onF ps p.id q.id)) := (h.set j _).congr fun i r hr => by
  by_cases e : i = j
  · subst e
    rw [hq] at hr; cases hr
    rw [if_pos rfl]
    have := h.2 i q hq
    rw [hb] at this
    cases this
    unfold clJ
    rw [hf]
    simp
  · rw [if_neg e]
    unfold clJ
    rw [show decide (i < j) = decide (i < j + 1) from by rw [Bool.eq_iff_iff]; simp; omega]
theorem cl_next {ps : List Pt} {f : Pt → Bool} {k j : Nat} {p : Pt} {row : List Bool} (hp : ps[k]? = some p) (h : RowP ps (clJ ps f k p j) row) (hj : f p = false ∨ ps.length ≤ j) : RowP ps (fun _ => clK ps f (k + 1)) row := h.congr fun i r hr => by
  unfold clJ clK
  rw [fold_any hp, ← Bool.or_assoc]
  congr 1
  rcases hj with hj | hj
  · rw [hj]; simp
  · have := (List.getElem?_eq_some_iff.1 hr).1
    rw [decide_eq_true (show i < j by omega), Bool.true_and]
theorem cl_out {ps : List Pt} {b : Bool} {k n : Nat} (hn : ps.length = n) (h : (decide ((k : Int) < (n : Int)) && b) = false) : b = false ∨ ps.length ≤ k := by
  cases b with
  | false => exact .inl rfl
  | true => right; rw [Bool.and_true, decide_eq_false_iff_not] at h; omega
theorem cl_end {ps : List Pt} {f : Pt → Bool} {k n : Nat} {row : List Bool} (hn : ps.length = n) (hk : n ≤ k) (h : RowP ps (fun _ => clK ps f k) row) : row = ps.map (cloP ps f) := by
  refine RowP.eq (h.congr fun j q _ => ?_)
  unfold clK cloP
  rw [List.take_of_length_le (by omega)]
def idsF (ps : List Pt) (f : Pt → Bool) : List Int := (ps.filter f).map (·.id)
theorem ids_yes {ps : List Pt} {f : Pt → Bool} {k : Nat} {p : Pt} (hp : ps[k]? = some p) (h : f p = true) : idsF (ps.take (k + 1)) f = idsF (ps.take k) f ++ [p.id] := by unfold idsF; rw [flt_yes hp h, List.map_append]; rfl
theorem ids_no {ps : List Pt} {f : Pt → Bool} {k : Nat} {p : Pt} (hp : ps[k]? = some p) (h : f p = false) : idsF (ps.take (k + 1)) f = idsF (ps.take k) f := by unfold idsF; rw [flt_no hp h]
theorem ids_clo {ps : List Pt} {ys : List Int} (hL : Lst ps) (h : chB ps ys = true) : idsF ps (cloP ps (chF ys)) = cloF ps ys := by
  have h2 := (chB_iff.1 h).2
  unfold idsF cloF
  congr 1
  refine List.filter_congr fun q hq => ?_
  unfold cloP chF
  rw [Bool.eq_iff_iff]
  simp only [Bool.or_eq_true, List.any_eq_true, Bool.and_eq_true, beq_iff_eq]
  constructor
  · rintro (⟨y, hy, e⟩ | ⟨p, hp, ⟨y, hy, e⟩, ho⟩)
    · exact ⟨y, hy, .inl e⟩
    · exact ⟨y, hy, .inr (by rw [e]; exact ho)⟩
  · rintro ⟨y, hy, e | ho⟩
    · exact .inl ⟨y, hy, e⟩
    · obtain ⟨p, hp, e⟩ := h2 y hy
      exact .inr ⟨p, hp, ⟨y, hy, e.symm⟩, by rw [e]; exact ho⟩
theorem mr_start {ps : List Pt} {f g : Pt → Bool} : RowP ps (fun j q => f q || (decide (j < 0) && g q)) (ps.map f) := (RowP.of ps f).congr fun j q _ => by simp
theorem mr_step {ps : List Pt} {f g : Pt → Bool} {k : Nat} {q : Pt} {b : Bool} {row : List Bool} (h : RowP ps (fun j q => f q || (decide (j < k) && g q)) row) (hq : ps[k]? = some q) (hb : row[k]? = some b) : RowP ps (fun j q => f q || (decide (j < k + 1) && g q)) (row.set k (b || g q)) := (h.set k _).congr fun i r hr => by
  by_cases e : i = k
  · subst e
    rw [hq] at hr; cases hr
    rw [if_pos rfl]
    have := h.2 i q hq
    rw [hb] at this
    cases this
    simp
  · rw [if_neg e]
    rw [show decide (i < k) = decide (i < k + 1) from by rw [Bool.eq_iff_iff]; simp; omega]
theorem mr_end {ps : List Pt} {f g : Pt → Bool} {k n : Nat} {row : List Bool} (hn : ps.length = n) (hk : n ≤ k) (h : RowP ps (fun j q => f q || (decide (j < k) && g q)) row) : row = ps.map fun q => f q || g q := RowP.eq (h.congr fun j q hq => by
  have := (List.getElem?_eq_some_iff.1 hq).1
  rw [decide_eq_true (show j < k by omega), Bool.true_and])
theorem mrg_no {ps : List Pt} {a b : List Int} (h : chkR ps = 0) (h2 : ¬ (a.length > 512 ∨ b.length > 512)) (hv : (verB ps a && verB ps b) = false) : mrgE ps a b = 380 := by
  unfold mrgE; rw [if_neg (by omega), if_neg (by simp; omega), hv]; rfl
theorem mrg_yes {ps : List Pt} {a b : List Int} (h : chkR ps = 0) (h2 : ¬ (a.length > 512 ∨ b.length > 512)) (ha : verB ps a = true) (hb : verB ps b = true) : mrgE ps a b = 0 := by
  unfold mrgE; rw [if_neg (by omega), if_neg (by simp; omega), ha, hb]; rfl
theorem ids_mrg {ps : List Pt} {a b : List Int} : idsF ps (fun q => chF a q || chF b q) = mrgF ps a b := rfl
def SlMQ (ps : List Pt) (n : Nat) : Value → HMap → Go.Kn.Loc → Prop := fun v I' L => L = [] ∧ ∃ av c, v = .slice av n c ∧ SlM encB 1 I' av n c (ps.map (rowF ps))
end Go.Proofs.YtccomeanpppfmaaGreat
end
