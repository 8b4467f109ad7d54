/- stemmaCost_holds, part B of the proof: what its theorems say holds without further conditions. -/
import Derived.Shelf.SlSortCmp.WholeK
import Derived.Shelf.SlSortCmp.Whole1
import Derived.Test.YtkpmnnflikkhmaaDoorSCA
section
namespace Go.Proofs.YtkpmnnflikkhmaaDoor
open Go Go.Kn Go.Proofs
theorem w_Parts {I : HMap} {av : Option Addr} {n c : Nat} {xs : List Int} (hS : Sl I 1 encI av n c xs) (hn : n ≤ 100000) (m s : Int) : RetV Tryd.prog 11 [.int .i64 m, .slice av n c, .int .i64 s] I (.tuple #[.int .i64 (iA m xs s), .int .i64 (iB m xs s), .int .i64 (partsE m xs s)]) := by
  intro g H w hw
  refine enter Tryd.func11 rfl Tryd.ntmps11 rfl hw ?_
  refine X_seq ?_
  refine X_region ?_
  refine XO_v0 (ev_assign rfl) rfl rfl rfl ?_
  refine XO_v0 (ev_assign rfl) rfl rfl rfl ?_
  refine XO_v0 (ev_assign rfl) rfl rfl rfl ?_
  refine XO_nil ?_
  refine at_then ?_
  refine X_seq ?_
  refine X_seq ?_
  refine X_region ?_
  refine XO_v0 (ev_move rfl) rfl rfl rfl ?_
  refine XO_v0 (ev_move rfl) rfl rfl rfl ?_
  refine XO_callV0 (cap := []) (vs := [_, _]) rfl rfl fun_13 (w_check hS _) rfl rfl ?_
  refine XO_v0 (ev_assign rfl) rfl rfl rfl ?_
  refine XO_nil ?_
  refine at_then ?_
  refine X_seq ?_
  refine X_region ?_
  refine XO_v0 (ev_move rfl) rfl rfl rfl ?_
  refine XO_v0 (ev_cmp rfl rfl rfl) rfl rfl rfl ?_
  refine XO_nil ?_
  refine at_then ?_
  refine X_cond rfl (fun hc13 => ?_) (fun hc13 => ?_)
  · skip
    have hb := partsE_chk (s := s) (show chkN m xs ≠ 0 by simpa using hc13)
    have hb2 := iA_bad (show partsE m xs s ≠ 0 by rw [hb]; simpa using hc13)
    refine X_seq ?_
    refine X_region ?_
    refine XO_v0 (ev_move rfl) rfl rfl rfl ?_
    refine XO_v0 (ev_assign rfl) rfl rfl rfl ?_
    refine XO_v0 (ev_assign rfl) rfl rfl rfl ?_
    refine XO_v0 (ev_assign rfl) rfl rfl rfl ?_
    refine XO_nil ?_
    refine at_then ?_
    refine X_ret ?_
    refine at_then_r ?_
    first
    | exact at_ret3 rfl rfl rfl rfl (fun w hw => ⟨by rw [hb2.1, hb2.2, hb]; rfl, hw.drop⟩)
    | exact at_ret3 rfl rfl rfl rfl (fun w hw => ⟨by rw [hb2.1, hb2.2, hb], hw.drop⟩)
  · skip
    have hc0 : chkN m xs = 0 := by simpa using hc13
    refine X_skip ?_
    refine at_then ?_
    refine X_seq ?_
    refine X_seq ?_
    refine X_region ?_
    refine XO_v0 (ev_move rfl) rfl rfl rfl ?_
    refine XO_v0 (ev_move rfl) rfl rfl rfl ?_
    refine XO_callV0 (cap := []) (vs := [_, _]) rfl rfl fun_28 (w_contains hS hn _) rfl rfl ?_
    refine XO_v0 (ev_not rfl) rfl rfl rfl ?_
    refine XO_nil ?_
    refine at_then ?_
    refine X_cond rfl (fun hc18 => ?_) (fun hc18 => ?_)
    · skip
      have hb := partsE_none (s := s) hc0 (by rw [← any_sym]; simpa using hc18)
      have hb2 := iA_bad (show partsE m xs s ≠ 0 by rw [hb]; decide)
      refine X_seq ?_
      refine X_region ?_
      refine XO_v0 (ev_assign rfl) rfl rfl rfl ?_
      refine XO_v0 (ev_assign rfl) rfl rfl rfl ?_
      refine XO_v0 (ev_assign rfl) rfl rfl rfl ?_
      refine XO_nil ?_
      refine at_then ?_
      refine X_ret ?_
      refine at_then_r ?_
      first
      | exact at_ret3 rfl rfl rfl rfl (fun w hw => ⟨by rw [hb2.1, hb2.2, hb]; rfl, hw.drop⟩)
      | exact at_ret3 rfl rfl rfl rfl (fun w hw => ⟨by rw [hb2.1, hb2.2, hb], hw.drop⟩)
    · skip
      have hin : xs.any (fun c => c == s) = true := by rw [← any_sym]; simpa using hc18
      have hb := partsE_ok hc0 hin
      have hb2 := iA_ok hb
      have hs := (chkN_ok hc0).2.2.2 s (by simpa using hin)
      refine X_skip ?_
      refine at_then ?_
      refine X_seq ?_
      refine X_region ?_
      refine XO_v0 (ev_move rfl) rfl rfl rfl ?_
      refine XO_v0 (ev_move rfl) rfl rfl rfl ?_
      refine XO_callV0 (cap := []) (vs := [_, _]) rfl rfl fun_29 (w_parts hS hn s (by omega)) rfl rfl ?_
      refine XO_v0 (ev_move rfl) rfl rfl rfl ?_
      refine XO_v0 (ev_extract rfl rfl) rfl rfl rfl ?_
      refine XO_v0 (ev_extract rfl rfl) rfl rfl rfl ?_
      refine XO_v0 (ev_extract rfl rfl) rfl rfl rfl ?_
      refine XO_v0 (ev_assign rfl) rfl rfl rfl ?_
      refine XO_v0 (ev_assign rfl) rfl rfl rfl ?_
      refine XO_nil ?_
      refine at_then ?_
      refine X_seq ?_
      refine X_region ?_
      refine XO_v0 (ev_move rfl) rfl rfl rfl ?_
      refine XO_v0 (ev_move rfl) rfl rfl rfl ?_
      refine XO_v0 (ev_assign rfl) rfl rfl rfl ?_
      refine XO_v0 (ev_assign rfl) rfl rfl rfl ?_
      refine XO_v0 (ev_assign rfl) rfl rfl rfl ?_
      refine XO_nil ?_
      refine at_then ?_
      refine X_ret ?_
      first
      | exact at_ret3 rfl rfl rfl rfl (fun w hw => ⟨by rw [hb2.1, hb2.2, hb]; rfl, hw.drop⟩)
      | exact at_ret3 rfl rfl rfl rfl (fun w hw => ⟨by rw [hb2.1, hb2.2, hb], hw.drop⟩)
theorem w_long (I : HMap) (a : Option Addr) (n c : Nat) : RetV Tryd.prog 55 [.slice a n c] I (.bool (decide ((n : Int) > 64))) := by
  intro g H w hw
  refine enter Tryd.func55 rfl Tryd.ntmps55 rfl hw ?_
  refine X_seq ?_
  refine X_region ?_
  refine XO_v0 (ev_assign rfl) rfl rfl rfl ?_
  refine XO_nil ?_
  refine at_then ?_
  refine X_seq ?_
  refine X_region ?_
  refine XO_v0 (ev_move rfl) rfl rfl rfl ?_
  refine XO_v0 (ev_lenS rfl slt_22) rfl rfl rfl ?_
  refine XO_v0 (ev_cmp rfl rfl rfl) rfl rfl rfl ?_
  refine XO_v0 (ev_assign rfl) rfl rfl rfl ?_
  refine XO_nil ?_
  refine at_then ?_
  refine X_ret ?_
  exact at_ret1 rfl rfl (fun w hw => ⟨by first | rfl | simp_all, hw.drop⟩)
theorem w_state (I : HMap) (v : Int) : RetV Tryd.prog 57 [.int .i64 v] I (.bool (decide (v < 0) || decide (v > 8589934592))) := by
  intro g H w hw
  refine enter Tryd.func57 rfl Tryd.ntmps57 rfl hw ?_
  refine X_seq ?_
  refine X_region ?_
  refine XO_v0 (ev_assign rfl) rfl rfl rfl ?_
  refine XO_nil ?_
  refine at_then ?_
  refine X_seq ?_
  refine X_region ?_
  refine XO_v0 (ev_move rfl) rfl rfl rfl ?_
  refine XO_v0 (ev_cmp rfl rfl rfl) rfl rfl rfl ?_
  refine XO_v0 (ev_move rfl) rfl rfl rfl ?_
  refine XO_pushF 2 rfl rfl rfl ?_
  refine XO_v1 (ev_move rfl) (.some rfl rfl rfl rfl gbf) rfl rfl rfl ?_
  refine XO_v1 (ev_cmp rfl rfl rfl) (.some rfl rfl rfl rfl gbf) rfl rfl rfl ?_
  refine XO_or0 rfl rfl rfl rfl rfl ?_
  refine XO_v0 (ev_assign rfl) rfl rfl rfl ?_
  refine XO_nil ?_
  refine at_then ?_
  refine X_ret ?_
  exact at_ret1 rfl rfl (fun w hw => ⟨by first | rfl | simp_all, hw.drop⟩)
theorem w_indexF {I : HMap} {bv : Option Addr} {n2 c2 : Nat} {hs : List Hd} (hH : Sl I 1 encH bv n2 c2 hs) (hn : n2 ≤ 100000) : RetV Tryd.prog 66 [.slice bv n2 c2, .func (.func 55) #[] #[]] I (.int .i64 (idxF (fun h : Hd => decide ((h.n : Int) > 64)) hs)) := by
  intro g H w hw
  refine enter Tryd.func66 rfl Tryd.ntmps66 rfl hw ?_
  refine X_seq ?_
  refine X_region ?_
  refine XO_v0 (ev_assign rfl) rfl rfl rfl ?_
  refine XO_nil ?_
  refine at_then ?_
  refine X_seq ?_
  refine X_seq ?_
  refine X_region ?_
  refine XO_v0 (ev_move rfl) rfl rfl rfl ?_
  refine XO_v0 (ev_lenS rfl slt_28) rfl rfl rfl ?_
  refine XO_v0 (ev_move rfl) rfl rfl rfl ?_
  refine XO_nil ?_
  refine at_then ?_
  refine X_block ?_
  refine X_loopT [(0, _), (1, _), (7, _)] (.cons rfl (.cons rfl (.cons rfl .nil))) (fun T L0 mz E I' loc' => ∃ (k : Nat), mz = n2 - k ∧ E = (8, .int .i64 k) :: T ∧ I = I' ∧ L0 = loc' ∧ k ≤ n2 ∧ (hs.take k).any (fun h : Hd => decide ((h.n : Int) > 64)) = false) _ _ _ _ ⟨0, rfl, rfl, rfl, rfl, Nat.zero_le _, rfl⟩ (.cons rfl (.cons rfl (.cons rfl (.cons rfl .nil)))) (HLe.refl _) rfl ?_
  rintro mz E I' loc' ⟨k, rfl, rfl, rfl, rfl, hk, hno⟩
  refine X_seq ?_
  refine X_region ?_
  refine XO_v0 (ev_cmp rfl rfl rfl) rfl rfl rfl ?_
  refine XO_nil ?_
  refine at_then ?_
  refine X_seq ?_
  refine X_cond rfl (fun hc9 => ?_) (fun hc9 => ?_)
  · skip
    have hlt_k : k < n2 := by have h := hc9; simp at h; omega
    obtain ⟨x, hx⟩ := hH.at hlt_k
    refine X_skip ?_
    refine at_then ?_
    refine X_seq ?_
    refine X_block ?_
    refine X_seq ?_
    refine X_region ?_
    refine XO_v0 (ev_move rfl) rfl rfl rfl ?_
    refine XO_v0 (ev_assign rfl) rfl rfl rfl ?_
    refine XO_nil ?_
    refine at_then ?_
    refine X_seq ?_
    refine X_region ?_
    refine XO_v0 (ev_move rfl) rfl rfl rfl ?_
    refine XO_v0 (ev_move rfl) rfl rfl rfl ?_
    refine XO_v0 (ev_move rfl) rfl rfl rfl ?_
    refine XO_v0 (ev_indexSl rfl rfl slt_28 (by assumption) (fun hg => by first | omega | (simp [conj] at hg; omega))) rfl rfl rfl ?_
    refine XO_v0 (ev_load rfl sct_22 (fun hg => by first | exact Sl.get0 hH hx rfl | exact Cell.h0 rfl | exact Cell.h1 rfl | exact Cell.h2 rfl | exact Cell.h3 rfl | exact Cell.h4 rfl | exact Cell.h5 rfl | (repeat (first | exact Cell.here rfl | apply Cell.there | apply Cell.app)))) rfl rfl rfl ?_
    refine XO_callV0 (cap := []) (vs := [_]) rfl rfl fun_55 (w_long I x.a x.n x.c) rfl rfl ?_
    refine XO_nil ?_
    refine at_then ?_
    refine X_cond rfl (fun hc16 => ?_) (fun hc16 => ?_)
    · skip
      refine X_seq ?_
      refine X_region ?_
      refine XO_v0 (ev_move rfl) rfl rfl rfl ?_
      refine XO_v0 (ev_assign rfl) rfl rfl rfl ?_
      refine XO_nil ?_
      refine at_then ?_
      refine X_ret ?_
      refine at_block_r ?_
      refine at_then_r ?_
      refine at_then_r ?_
      refine at_block_r ?_
      refine at_then_r ?_
      first
      | exact at_ret1 rfl rfl (fun w hw => ⟨by rw [idx_hit hno hx hc16], hw.drop⟩)
      | exact at_ret1 rfl rfl (fun w hw => ⟨by rw [idx_none hH.len hge_k hno], hw.drop⟩)
    · skip
      refine X_skip ?_
      refine at_block_n ?_
      refine at_then ?_
      refine X_region ?_
      refine XO_v0 (ev_arB rfl rfl rfl (fun _ => by omega)) rfl rfl rfl ?_
      refine XO_v0 (ev_move rfl) rfl rfl rfl ?_
      refine XO_nil ?_
      exact at_met2 _ _ ⟨n2 - (k + 1), by omega, k + 1, rfl, rfl, rfl, rfl, by omega, any_no hx hno hc16⟩ (.cons rfl (.cons rfl (.cons rfl (.cons rfl .nil)))) (by repeat (first | exact .refl | exact subL_left | refine subL_app ?_ | refine .drop ?_ | refine subL_add ?_))
  · skip
    have hge_k : n2 ≤ k := by have h := hc9; simp at h; omega
    refine X_exit ?_
    refine at_then_e ?_
    refine at_then_e ?_
    refine at_block_hit ?_
    refine at_then ?_
    refine X_seq ?_
    refine X_region ?_
    refine XO_v0 (ev_assign rfl) rfl rfl rfl ?_
    refine XO_nil ?_
    refine at_then ?_
    refine X_ret ?_
    first
    | exact at_ret1 rfl rfl (fun w hw => ⟨by rw [idx_hit hno hx hc16], hw.drop⟩)
    | exact at_ret1 rfl rfl (fun w hw => ⟨by rw [idx_none hH.len hge_k hno], hw.drop⟩)
theorem w_containsF {I : HMap} {bv : Option Addr} {n2 c2 : Nat} {hs : List Hd} (hH : Sl I 1 encH bv n2 c2 hs) (hn : n2 ≤ 100000) : RetV Tryd.prog 54 [.slice bv n2 c2, .func (.func 55) #[] #[]] I (.bool (hs.any (fun h : Hd => decide ((h.n : Int) > 64)))) := by
  intro g H w hw
  refine enter Tryd.func54 rfl Tryd.ntmps54 rfl hw ?_
  refine X_seq ?_
  refine X_region ?_
  refine XO_v0 (ev_assign rfl) rfl rfl rfl ?_
  refine XO_nil ?_
  refine at_then ?_
  refine X_seq ?_
  refine X_region ?_
  refine XO_v0 (ev_move rfl) rfl rfl rfl ?_
  refine XO_v0 (ev_move rfl) rfl rfl rfl ?_
  refine XO_callV0 (cap := []) (vs := [_, _]) rfl rfl fun_66 (w_indexF hH hn) rfl rfl ?_
  refine XO_v0 (ev_cmp rfl rfl rfl) rfl rfl rfl ?_
  refine XO_v0 (ev_assign rfl) rfl rfl rfl ?_
  refine XO_nil ?_
  refine at_then ?_
  refine X_ret ?_
  first
  | exact at_ret1 rfl rfl (fun w hw => ⟨by rw [← idx_any], hw.drop⟩)
theorem w_indexG {I : HMap} {av : Option Addr} {n c : Nat} {xs : List Int} (hS : Sl I 1 encI av n c xs) (hn : n ≤ 100000) : RetV Tryd.prog 67 [.slice av n c, .func (.func 57) #[] #[]] I (.int .i64 (idxF (fun v => decide (v < 0) || decide (v > 8589934592)) xs)) := by
  intro g H w hw
  refine enter Tryd.func67 rfl Tryd.ntmps67 rfl hw ?_
  refine X_seq ?_
  refine X_region ?_
  refine XO_v0 (ev_assign rfl) rfl rfl rfl ?_
  refine XO_nil ?_
  refine at_then ?_
  refine X_seq ?_
  refine X_seq ?_
  refine X_region ?_
  refine XO_v0 (ev_move rfl) rfl rfl rfl ?_
  refine XO_v0 (ev_lenS rfl slt_22) rfl rfl rfl ?_
  refine XO_v0 (ev_move rfl) rfl rfl rfl ?_
  refine XO_nil ?_
  refine at_then ?_
  refine X_block ?_
  refine X_loopT [(0, _), (1, _), (7, _)] (.cons rfl (.cons rfl (.cons rfl .nil))) (fun T L0 mz E I' loc' => ∃ (k : Nat), mz = n - k ∧ E = (8, .int .i64 k) :: T ∧ I = I' ∧ L0 = loc' ∧ k ≤ n ∧ (xs.take k).any (fun v => decide (v < 0) || decide (v > 8589934592)) = false) _ _ _ _ ⟨0, rfl, rfl, rfl, rfl, Nat.zero_le _, rfl⟩ (.cons rfl (.cons rfl (.cons rfl (.cons rfl .nil)))) (HLe.refl _) rfl ?_
  rintro mz E I' loc' ⟨k, rfl, rfl, rfl, rfl, hk, hno⟩
  refine X_seq ?_
  refine X_region ?_
  refine XO_v0 (ev_cmp rfl rfl rfl) rfl rfl rfl ?_
  refine XO_nil ?_
  refine at_then ?_
  refine X_seq ?_
  refine X_cond rfl (fun hc9 => ?_) (fun hc9 => ?_)
  · skip
    have hlt_k : k < n := by have h := hc9; simp at h; omega
    obtain ⟨x, hx⟩ := hS.at hlt_k
    refine X_skip ?_
    refine at_then ?_
    refine X_seq ?_
    refine X_block ?_
    refine X_seq ?_
    refine X_region ?_
    refine XO_v0 (ev_move rfl) rfl rfl rfl ?_
    refine XO_v0 (ev_assign rfl) rfl rfl rfl ?_
    refine XO_nil ?_
    refine at_then ?_
    refine X_seq ?_
    refine X_region ?_
    refine XO_v0 (ev_move rfl) rfl rfl rfl ?_
    refine XO_v0 (ev_move rfl) rfl rfl rfl ?_
    refine XO_v0 (ev_move rfl) rfl rfl rfl ?_
    refine XO_v0 (ev_indexSl rfl rfl slt_22 (by assumption) (fun hg => by first | omega | (simp [conj] at hg; omega))) rfl rfl rfl ?_
    refine XO_v0 (ev_load rfl sct_3 (fun hg => by first | exact Sl.get0 hS hx rfl | exact Cell.h0 rfl | exact Cell.h1 rfl | exact Cell.h2 rfl | exact Cell.h3 rfl | exact Cell.h4 rfl | exact Cell.h5 rfl | (repeat (first | exact Cell.here rfl | apply Cell.there | apply Cell.app)))) rfl rfl rfl ?_
    refine XO_callV0 (cap := []) (vs := [_]) rfl rfl fun_57 (w_state I _) rfl rfl ?_
    refine XO_nil ?_
    refine at_then ?_
    refine X_cond rfl (fun hc16 => ?_) (fun hc16 => ?_)
    · skip
      refine X_seq ?_
      refine X_region ?_
      refine XO_v0 (ev_move rfl) rfl rfl rfl ?_
      refine XO_v0 (ev_assign rfl) rfl rfl rfl ?_
      refine XO_nil ?_
      refine at_then ?_
      refine X_ret ?_
      refine at_block_r ?_
      refine at_then_r ?_
      refine at_then_r ?_
      refine at_block_r ?_
      refine at_then_r ?_
      first
      | exact at_ret1 rfl rfl (fun w hw => ⟨by rw [idx_hit hno hx hc16], hw.drop⟩)
      | exact at_ret1 rfl rfl (fun w hw => ⟨by rw [idx_none hS.len hge_k hno], hw.drop⟩)
    · skip
      refine X_skip ?_
      refine at_block_n ?_
      refine at_then ?_
      refine X_region ?_
      refine XO_v0 (ev_arB rfl rfl rfl (fun _ => by omega)) rfl rfl rfl ?_
      refine XO_v0 (ev_move rfl) rfl rfl rfl ?_
      refine XO_nil ?_
      exact at_met2 _ _ ⟨n - (k + 1), by omega, k + 1, rfl, rfl, rfl, rfl, by omega, any_no hx hno hc16⟩ (.cons rfl (.cons rfl (.cons rfl (.cons rfl .nil)))) (by repeat (first | exact .refl | exact subL_left | refine subL_app ?_ | refine .drop ?_ | refine subL_add ?_))
  · skip
    have hge_k : n ≤ k := by have h := hc9; simp at h; omega
    refine X_exit ?_
    refine at_then_e ?_
    refine at_then_e ?_
    refine at_block_hit ?_
    refine at_then ?_
    refine X_seq ?_
    refine X_region ?_
    refine XO_v0 (ev_assign rfl) rfl rfl rfl ?_
    refine XO_nil ?_
    refine at_then ?_
    refine X_ret ?_
    first
    | exact at_ret1 rfl rfl (fun w hw => ⟨by rw [idx_hit hno hx hc16], hw.drop⟩)
    | exact at_ret1 rfl rfl (fun w hw => ⟨by rw [idx_none hS.len hge_k hno], hw.drop⟩)
theorem w_containsG {I : HMap} {av : Option Addr} {n c : Nat} {xs : List Int} (hS : Sl I 1 encI av n c xs) (hn : n ≤ 100000) : RetV Tryd.prog 56 [.slice av n c, .func (.func 57) #[] #[]] I (.bool (xs.any (fun v => decide (v < 0) || decide (v > 8589934592)))) := by
  intro g H w hw
  refine enter Tryd.func56 rfl Tryd.ntmps56 rfl hw ?_
  refine X_seq ?_
  refine X_region ?_
  refine XO_v0 (ev_assign rfl) rfl rfl rfl ?_
  refine XO_nil ?_
  refine at_then ?_
  refine X_seq ?_
  refine X_region ?_
  refine XO_v0 (ev_move rfl) rfl rfl rfl ?_
  refine XO_v0 (ev_move rfl) rfl rfl rfl ?_
  refine XO_callV0 (cap := []) (vs := [_, _]) rfl rfl fun_67 (w_indexG hS hn) rfl rfl ?_
  refine XO_v0 (ev_cmp rfl rfl rfl) rfl rfl rfl ?_
  refine XO_v0 (ev_assign rfl) rfl rfl rfl ?_
  refine XO_nil ?_
  refine at_then ?_
  refine X_ret ?_
  first
  | exact at_ret1 rfl rfl (fun w hw => ⟨by rw [← idx_any], hw.drop⟩)
end Go.Proofs.YtkpmnnflikkhmaaDoor
end
section
namespace Go.Proofs.YtkpmnnflikkhmaaDoor
open Go Go.Kn Go.Proofs
def stateP (v : Int) : Bool := decide (v < 0) || decide (v > 8589934592)
def rowP (w : Nat) (r : List Int) : Bool := decide ((r.length : Int) ≠ w) || r.any stateP
def rowsN (rows : List (List Int)) : Int :=
  if decide ((rows.length : Int) > 6) || rows.any (fun r => decide ((r.length : Int) > 64)) then 2 else if rows.length = 0 then 420
  else if rows.any (rowP (rows.getD 0 []).length) then 420 else 0
theorem rows_1 {rows : List (List Int)} (h : (decide ((rows.length : Int) > 6) || rows.any (fun r => decide ((r.length : Int) > 64))) = true) : rowsN rows = 2 := by unfold rowsN; rw [if_pos h]
theorem rows_2 {rows : List (List Int)} (h : (decide ((rows.length : Int) > 6) || rows.any (fun r => decide ((r.length : Int) > 64))) = false) (h2 : rows.length = 0) : rowsN rows = 420 := by unfold rowsN; rw [if_neg (by rw [h]; decide), if_pos h2]
theorem rows_3 {rows : List (List Int)} (h : (decide ((rows.length : Int) > 6) || rows.any (fun r => decide ((r.length : Int) > 64))) = false) (h2 : ¬ rows.length = 0) : rowsN rows = if rows.any (rowP (rows.getD 0 []).length) then 420 else 0 := by
  unfold rowsN; rw [if_neg (by rw [h]; decide), if_neg h2]
theorem rows_64 {rows : List (List Int)} (h : (decide ((rows.length : Int) > 6) || rows.any (fun r => decide ((r.length : Int) > 64))) = false) {v : List Int} (hv : v ∈ rows) : v.length ≤ 64 := by
  rw [Bool.or_eq_false_iff] at h
  have := List.any_eq_false.1 h.2 v hv
  simp at this; omega
/-- A slice's heads have their lists' lengths. -/
theorem heads_any {I : HMap} {av : Option Addr} {n c : Nat} {hs : List Hd} {vss : List (List Int)} (h : SlH I av n c hs vss) (p : Int → Bool) : hs.any (fun x : Hd => p (x.n : Int)) = vss.any (fun r => p (r.length : Int)) := by
  have hl := h.2.1
  have hlen : ∀ (k : Nat) (x : Hd) (v : List Int), hs[k]? = some x → vss[k]? = some v → v.length = x.n := fun k x v a b => (h.2.2 k x v a b).len
  clear h
  rw [Bool.eq_iff_iff, List.any_eq_true, List.any_eq_true]
  constructor
  · rintro ⟨x, hx, hp⟩
    obtain ⟨k, hk⟩ := List.getElem?_of_mem hx
    have hk2 : vss[k]? = some (vss[k]'(by have := (List.getElem?_eq_some_iff.1 hk).1; omega)) := List.getElem?_eq_getElem _
    exact ⟨_, List.mem_of_getElem? hk2, by rw [hlen k _ _ hk hk2]; exact hp⟩
  · rintro ⟨v, hv, hp⟩
    obtain ⟨k, hk⟩ := List.getElem?_of_mem hv
    have hk2 : hs[k]? = some (hs[k]'(by have := (List.getElem?_eq_some_iff.1 hk).1; omega)) := List.getElem?_eq_getElem _
    exact ⟨_, List.mem_of_getElem? hk2, by rw [← hlen k _ _ hk2 hk]; exact hp⟩
end Go.Proofs.YtkpmnnflikkhmaaDoor
end
section
namespace Go.Proofs.YtkpmnnflikkhmaaDoor
open Go Go.Kn Go.Proofs
theorem w_table {I : HMap} {av : Option Addr} {n c : Nat} {rows : List (List Int)} (hV : SlN I av n c rows) (hn : n ≤ 100000) : RetV Tryd.prog 36 [.slice av n c] I (.int .i64 (rowsN rows)) := by
  intro g H w hw
  refine enter Tryd.func36 rfl Tryd.ntmps36 rfl hw ?_
  obtain ⟨hs, hV⟩ := hV
  have hH := hV.1
  have hlV := hV.len
  refine X_seq ?_
  refine X_region ?_
  refine XO_v0 (ev_assign rfl) rfl rfl rfl ?_
  refine XO_nil ?_
  refine at_then ?_
  refine X_seq ?_
  refine X_seq ?_
  refine X_region ?_
  refine XO_v0 (ev_move rfl) rfl rfl rfl ?_
  refine XO_v0 (ev_lenS rfl slt_28) rfl rfl rfl ?_
  refine XO_v0 (ev_cmp rfl rfl rfl) rfl rfl rfl ?_
  refine XO_v0 (ev_move rfl) rfl rfl rfl ?_
  refine XO_pushF 3 rfl rfl rfl ?_
  refine XO_v1 (ev_move rfl) (.some rfl rfl rfl rfl gbf) rfl rfl rfl ?_
  refine XO_callV1 (cap := []) (vs := [_, _]) rfl rfl fun_54 (fun hg => w_containsF hH hn) (.some rfl rfl rfl rfl gbf) rfl rfl ?_
  refine XO_or0 rfl rfl rfl rfl rfl ?_
  refine XO_nil ?_
  refine at_then ?_
  refine X_cond rfl (fun hc11 => ?_) (fun hc11 => ?_)
  · skip
    have h1 : (decide ((rows.length : Int) > 6) || rows.any (fun r => decide ((r.length : Int) > 64))) = true := by rw [hlV, ← heads_any hV (fun q => decide (q > 64))]; exact hc11
    refine X_seq ?_
    refine X_region ?_
    refine XO_v0 (ev_assign rfl) rfl rfl rfl ?_
    refine XO_nil ?_
    refine at_then ?_
    refine X_ret ?_
    refine at_then_r ?_
    first
    | exact at_ret1 rfl rfl (fun w hw => ⟨by rw [rows_1 h1], hw.drop⟩)
    | exact at_ret1 rfl rfl (fun w hw => ⟨by rw [rows_2 h1 h2], hw.drop⟩)
    | exact at_ret1 rfl rfl (fun w hw => ⟨by rw [rows_3 h1 h2, any_yes hv (by rw [hrow]; exact hc31)]; rfl, hw.drop⟩)
    | exact at_ret1 rfl rfl (fun w hw => ⟨by rw [rows_3 h1 h2, hno]; rfl, hw.drop⟩)
  · skip
    have h1 : (decide ((rows.length : Int) > 6) || rows.any (fun r => decide ((r.length : Int) > 64))) = false := by rw [hlV, ← heads_any hV (fun q => decide (q > 64))]; exact hc11
    refine X_skip ?_
    refine at_then ?_
    refine X_seq ?_
    refine X_seq ?_
    refine X_region ?_
    refine XO_v0 (ev_move rfl) rfl rfl rfl ?_
    refine XO_v0 (ev_lenS rfl slt_28) rfl rfl rfl ?_
    refine XO_v0 (ev_cmp rfl rfl rfl) rfl rfl rfl ?_
    refine XO_nil ?_
    refine at_then ?_
    refine X_cond rfl (fun hc14 => ?_) (fun hc14 => ?_)
    · skip
      have h2 : rows.length = 0 := by simp at hc14; omega
      refine X_seq ?_
      refine X_region ?_
      refine XO_v0 (ev_assign rfl) rfl rfl rfl ?_
      refine XO_nil ?_
      refine at_then ?_
      refine X_ret ?_
      refine at_then_r ?_
      first
      | exact at_ret1 rfl rfl (fun w hw => ⟨by rw [rows_1 h1], hw.drop⟩)
      | exact at_ret1 rfl rfl (fun w hw => ⟨by rw [rows_2 h1 h2], hw.drop⟩)
      | exact at_ret1 rfl rfl (fun w hw => ⟨by rw [rows_3 h1 h2, any_yes hv (by rw [hrow]; exact hc31)]; rfl, hw.drop⟩)
      | exact at_ret1 rfl rfl (fun w hw => ⟨by rw [rows_3 h1 h2, hno]; rfl, hw.drop⟩)
    · skip
      have h2 : ¬ rows.length = 0 := by simp at hc14; omega
      obtain ⟨x0, v0, hx0, hv0, hQ0⟩ := hV.at (show 0 < n by omega)
      refine X_skip ?_
      refine at_then ?_
      refine X_seq ?_
      refine X_seq ?_
      refine X_region ?_
      refine XO_v0 (ev_move rfl) rfl rfl rfl ?_
      refine XO_v0 (ev_lenS rfl slt_28) rfl rfl rfl ?_
      refine XO_v0 (ev_move rfl) rfl rfl rfl ?_
      refine XO_nil ?_
      refine at_then ?_
      refine X_block ?_
      refine X_loopT [(0, _), (15, _), (16, _)] (.cons rfl (.cons rfl (.cons rfl .nil))) (fun T L0 mz E I' loc' => ∃ (k : Nat), mz = n - k ∧ E = (17, .int .i64 k) :: T ∧ I = I' ∧ L0 = loc' ∧ k ≤ n ∧ (rows.take k).any (rowP (rows.getD 0 []).length) = false) _ _ _ _ ⟨0, rfl, rfl, rfl, rfl, Nat.zero_le _, rfl⟩ (.cons rfl (.cons rfl (.cons rfl (.cons rfl .nil)))) (HLe.refl _) rfl ?_
      rintro mz E I' loc' ⟨k, rfl, rfl, rfl, rfl, hk, hno⟩
      refine X_seq ?_
      refine X_region ?_
      refine XO_v0 (ev_cmp rfl rfl rfl) rfl rfl rfl ?_
      refine XO_nil ?_
      refine at_then ?_
      refine X_seq ?_
      refine X_cond rfl (fun hc18 => ?_) (fun hc18 => ?_)
      · skip
        have hlt_k : k < n := by have h := hc18; simp at h; omega
        obtain ⟨x, v, hx, hv, hQ⟩ := hV.at hlt_k
        have hrow : rowP (rows.getD 0 []).length v = (((x.n : Int) != (x0.n : Int)) || v.any stateP) := by unfold rowP; rw [getD_of hv0, hQ.len, hQ0.len]; congr 1; exact Bool.eq_iff_iff.2 (by simp)
        refine X_skip ?_
        refine at_then ?_
        refine X_seq ?_
        refine X_block ?_
        refine X_seq ?_
        refine X_region ?_
        refine XO_v0 (ev_indexSl rfl rfl slt_28 (by assumption) (fun hg => by first | omega | (simp [conj] at hg; omega))) rfl rfl rfl ?_
        refine XO_v0 (ev_load rfl sct_22 (fun hg => by first | exact Sl.get0 hH hx rfl | exact Sl.get0 (k := 0) hH hx0 rfl | exact Cell.h0 rfl | exact Cell.h1 rfl | exact Cell.h2 rfl | exact Cell.h3 rfl | exact Cell.h4 rfl | exact Cell.h5 rfl | (repeat (first | exact Cell.here rfl | apply Cell.there | apply Cell.app)))) rfl rfl rfl ?_
        refine XO_v0 (ev_assign rfl) rfl rfl rfl ?_
        refine XO_nil ?_
        refine at_then ?_
        refine X_seq ?_
        refine X_region ?_
        refine XO_v0 (ev_move rfl) rfl rfl rfl ?_
        refine XO_v0 (ev_lenS rfl slt_22) rfl rfl rfl ?_
        refine XO_v0 (ev_move rfl) rfl rfl rfl ?_
        refine XO_v0 (ev_indexSl rfl rfl slt_28 (by assumption) (fun hg => by first | omega | (simp [conj] at hg; omega))) rfl rfl rfl ?_
        refine XO_v0 (ev_load rfl sct_22 (fun hg => by first | exact Sl.get0 hH hx rfl | exact Sl.get0 (k := 0) hH hx0 rfl | exact Cell.h0 rfl | exact Cell.h1 rfl | exact Cell.h2 rfl | exact Cell.h3 rfl | exact Cell.h4 rfl | exact Cell.h5 rfl | (repeat (first | exact Cell.here rfl | apply Cell.there | apply Cell.app)))) rfl rfl rfl ?_
        refine XO_v0 (ev_lenS rfl slt_22) rfl rfl rfl ?_
        refine XO_v0 (ev_cmp rfl rfl rfl) rfl rfl rfl ?_
        refine XO_v0 (ev_move rfl) rfl rfl rfl ?_
        refine XO_pushF 7 rfl rfl rfl ?_
        refine XO_v1 (ev_move rfl) (.some rfl rfl rfl rfl gbf) rfl rfl rfl ?_
        refine XO_callV1 (cap := []) (vs := [_, _]) rfl rfl fun_56 (fun hg => w_containsG hQ (by rw [← hQ.len]; have := rows_64 h1 (List.mem_of_getElem? hv); omega)) (.some rfl rfl rfl rfl gbf) rfl rfl ?_
        refine XO_or0 rfl rfl rfl rfl rfl ?_
        refine XO_nil ?_
        refine at_then ?_
        refine X_cond rfl (fun hc31 => ?_) (fun hc31 => ?_)
        · skip
          refine X_seq ?_
          refine X_region ?_
          refine XO_v0 (ev_assign rfl) rfl rfl rfl ?_
          refine XO_nil ?_
          refine at_then ?_
          refine X_ret ?_
          refine at_block_r ?_
          refine at_then_r ?_
          refine at_then_r ?_
          refine at_block_r ?_
          refine at_then_r ?_
          first
          | exact at_ret1 rfl rfl (fun w hw => ⟨by rw [rows_1 h1], hw.drop⟩)
          | exact at_ret1 rfl rfl (fun w hw => ⟨by rw [rows_2 h1 h2], hw.drop⟩)
          | exact at_ret1 rfl rfl (fun w hw => ⟨by rw [rows_3 h1 h2, any_yes hv (by rw [hrow]; exact hc31)]; rfl, hw.drop⟩)
          | exact at_ret1 rfl rfl (fun w hw => ⟨by rw [rows_3 h1 h2, hno]; rfl, hw.drop⟩)
        · skip
          refine X_skip ?_
          refine at_block_n ?_
          refine at_then ?_
          refine X_region ?_
          refine XO_v0 (ev_arB rfl rfl rfl (fun _ => by omega)) rfl rfl rfl ?_
          refine XO_v0 (ev_move rfl) rfl rfl rfl ?_
          refine XO_nil ?_
          exact at_met2 _ _ ⟨n - (k + 1), by omega, k + 1, rfl, rfl, rfl, rfl, by omega, any_no hv hno (by rw [hrow]; exact hc31)⟩ (.cons rfl (.cons rfl (.cons rfl (.cons rfl .nil)))) (by repeat (first | exact .refl | exact subL_left | refine subL_app ?_ | refine .drop ?_ | refine subL_add ?_))
      · skip
        have hge_k : n ≤ k := by have h := hc18; simp at h; omega
        rw [take_all hlV hge_k] at hno
        refine X_exit ?_
        refine at_then_e ?_
        refine at_then_e ?_
        refine at_block_hit ?_
        refine at_then ?_
        refine X_seq ?_
        refine X_region ?_
        refine XO_v0 (ev_assign rfl) rfl rfl rfl ?_
        refine XO_nil ?_
        refine at_then ?_
        refine X_ret ?_
        first
        | exact at_ret1 rfl rfl (fun w hw => ⟨by rw [rows_1 h1], hw.drop⟩)
        | exact at_ret1 rfl rfl (fun w hw => ⟨by rw [rows_2 h1 h2], hw.drop⟩)
        | exact at_ret1 rfl rfl (fun w hw => ⟨by rw [rows_3 h1 h2, any_yes hv (by rw [hrow]; exact hc31)]; rfl, hw.drop⟩)
        | exact at_ret1 rfl rfl (fun w hw => ⟨by rw [rows_3 h1 h2, hno]; rfl, hw.drop⟩)
end Go.Proofs.YtkpmnnflikkhmaaDoor
end
section
namespace Go.Proofs.YtkpmnnflikkhmaaDoor
open Go Go.Kn Go.Proofs
theorem take_next {α : Type} {xs ys : List α} {k : Nat} {x y : α} (hx : xs[k]? = some x) (hy : ys[k]? = some y) (he : xs.take k = ys.take k) (h : x = y) : xs.take (k + 1) = ys.take (k + 1) := by
  rw [List.take_add_one, List.take_add_one, hx, hy, he, h]
theorem same_ne {α : Type} [DecidableEq α] {xs ys : List α} {k : Nat} {x y : α} (hx : xs[k]? = some x) (hy : ys[k]? = some y) (h : x ≠ y) : sameF xs ys = false :=
  decide_eq_false fun e => h (by rw [e, hy] at hx; exact (Option.some.inj hx).symm)
theorem same_len {α : Type} [DecidableEq α] {xs ys : List α} {n m : Nat} (h1 : xs.length = n) (h2 : ys.length = m) (h : n ≠ m) : sameF xs ys = false :=
  decide_eq_false fun e => h (by rw [← h1, ← h2, e])
theorem w_same {I : HMap} {av : Option Addr} {n c : Nat} {rows : List (List Int)} (hV : SlN I av n c rows) {bv : Option Addr} {n2 c2 : Nat} {rows2 : List (List Int)} (hW : SlN I bv n2 c2 rows2) (hn : n ≤ 100000) (hr : ∀ r ∈ rows, r.length ≤ 100000) : RetV Tryd.prog 17 [.slice av n c, .slice bv n2 c2] I (.bool (sameF rows rows2)) := by
  intro g H w hw
  refine enter Tryd.func17 rfl Tryd.ntmps17 rfl hw ?_
  obtain ⟨hs, hV⟩ := hV
  obtain ⟨gs, hW⟩ := hW
  have hH := hV.1
  have hG := hW.1
  have hlV := hV.len
  have hlW := hW.len
  refine X_seq ?_
  refine X_region ?_
  refine XO_v0 (ev_assign rfl) rfl rfl rfl ?_
  refine XO_nil ?_
  refine at_then ?_
  refine X_seq ?_
  refine X_seq ?_
  refine X_region ?_
  refine XO_v0 (ev_move rfl) rfl rfl rfl ?_
  refine XO_v0 (ev_lenS rfl slt_28) rfl rfl rfl ?_
  refine XO_v0 (ev_move rfl) rfl rfl rfl ?_
  refine XO_v0 (ev_lenS rfl slt_28) rfl rfl rfl ?_
  refine XO_v0 (ev_cmp rfl rfl rfl) rfl rfl rfl ?_
  refine XO_nil ?_
  refine at_then ?_
  refine X_cond rfl (fun hc11 => ?_) (fun hc11 => ?_)
  · skip
    refine X_seq ?_
    refine X_region ?_
    refine XO_v0 (ev_assign rfl) rfl rfl rfl ?_
    refine XO_nil ?_
    refine at_then ?_
    refine X_ret ?_
    refine at_then_r ?_
    first
    | exact at_ret1 rfl rfl (fun w hw => ⟨by rw [same_len hlV hlW (by simp at hc11; omega)], hw.drop⟩)
    | exact at_ret1 rfl rfl (fun w hw => ⟨by rw [hall, same_self], hw.drop⟩)
    | exact at_ret1 rfl rfl (fun w hw => ⟨by rw [same_ne hv hw1 (fun e => hlne (by rw [← hQ.len, ← hR.len, e]))], hw.drop⟩)
    | exact at_ret1 rfl rfl (fun w hw => ⟨by rw [same_ne hv hw1 (fun e => absurd hc52 (by rw [e, hz] at hu; cases hu; simp))], hw.drop⟩)
  · skip
    have hnn : n = n2 := by simp at hc11; omega
    refine X_skip ?_
    refine at_then ?_
    refine X_seq ?_
    refine X_seq ?_
    refine X_region ?_
    refine XO_v0 (ev_assign rfl) rfl rfl rfl ?_
    refine XO_nil ?_
    refine at_then ?_
    refine X_block ?_
    refine X_loopT [(0, _), (1, _)] (.cons rfl (.cons rfl .nil)) (fun T L0 mz E I' loc' => ∃ (k : Nat), mz = n - k ∧ E = (5, .int .i64 k) :: T ∧ I = I' ∧ L0 = loc' ∧ k ≤ n ∧ rows.take k = rows2.take k) _ _ _ _ ⟨0, rfl, rfl, rfl, rfl, Nat.zero_le _, rfl⟩ (.cons rfl (.cons rfl (.cons rfl .nil))) (HLe.refl _) rfl ?_
    rintro mz E I' loc' ⟨k, rfl, rfl, rfl, rfl, hk, he⟩
    refine X_seq ?_
    refine X_seq ?_
    refine X_region ?_
    refine XO_v0 (ev_move rfl) rfl rfl rfl ?_
    refine XO_v0 (ev_move rfl) rfl rfl rfl ?_
    refine XO_v0 (ev_lenS rfl slt_28) rfl rfl rfl ?_
    refine XO_v0 (ev_cmp rfl rfl rfl) rfl rfl rfl ?_
    refine XO_nil ?_
    refine at_then ?_
    refine X_cond rfl (fun hc15 => ?_) (fun hc15 => ?_)
    · skip
      have hlt_k : k < n := by have h := hc15; simp at h; omega
      obtain ⟨x, v, hx, hv, hQ⟩ := hV.at hlt_k
      obtain ⟨y, w1, hy, hw1, hR⟩ := hW.at (show k < n2 by omega)
      have hxl : x.n ≤ 100000 := by rw [← hQ.len]; exact hr v (List.mem_of_getElem? hv)
      refine X_skip ?_
      refine at_then ?_
      refine X_seq ?_
      refine X_block ?_
      refine X_seq ?_
      refine X_seq ?_
      refine X_draw mixed (by kernel_rfl) ?_
      refine XQ_v0 (ev_move rfl) rfl rfl rfl ?_
      refine XQ_v0 (ev_move rfl) rfl rfl rfl ?_
      refine XQ_v0 (ev_indexSl rfl rfl slt_28 (by assumption) (fun hg => by first | omega | (simp [conj] at hg; omega))) rfl rfl rfl ?_
      refine XQ_v0 (ev_load rfl sct_22 (fun hg => by first | exact Sl.get0 hH hx rfl | exact Sl.get0 hG hy rfl | exact Sl.get0 hQ hu rfl | exact Sl.get0 hR hz rfl | exact Cell.h0 rfl | exact Cell.h1 rfl | exact Cell.h2 rfl | exact Cell.h3 rfl | exact Cell.h4 rfl | exact Cell.h5 rfl | (repeat (first | exact Cell.here rfl | apply Cell.there | apply Cell.app)))) rfl rfl rfl ?_
      refine XQ_v0 (ev_lenS rfl slt_22) rfl rfl rfl ?_
      refine XQ_v0 (ev_move rfl) rfl rfl rfl ?_
      refine XQ_v0 (ev_move rfl) rfl rfl rfl ?_
      refine XQ_v0 (ev_indexSl rfl rfl slt_28 (by assumption) (fun hg => by first | omega | (simp [conj] at hg; omega))) rfl rfl rfl ?_
      refine XQ_v0 (ev_load rfl sct_22 (fun hg => by first | exact Sl.get0 hH hx rfl | exact Sl.get0 hG hy rfl | exact Sl.get0 hQ hu rfl | exact Sl.get0 hR hz rfl | exact Cell.h0 rfl | exact Cell.h1 rfl | exact Cell.h2 rfl | exact Cell.h3 rfl | exact Cell.h4 rfl | exact Cell.h5 rfl | (repeat (first | exact Cell.here rfl | apply Cell.there | apply Cell.app)))) rfl rfl rfl ?_
      refine XQ_v0 (ev_lenS rfl slt_22) rfl rfl rfl ?_
      refine XQ_v0 (ev_cmp rfl rfl rfl) rfl rfl rfl ?_
      refine XQ_nil ?_
      refine at_then ?_
      refine X_cond rfl (fun hc28 => ?_) (fun hc28 => ?_)
      · skip
        have hlne : x.n ≠ y.n := by simp at hc28; omega
        refine X_seq ?_
        refine X_region ?_
        refine XO_v0 (ev_assign rfl) rfl rfl rfl ?_
        refine XO_nil ?_
        refine at_then ?_
        refine X_ret ?_
        refine at_then_r ?_
        refine at_block_r ?_
        refine at_then_r ?_
        refine at_then_r ?_
        refine at_block_r ?_
        refine at_then_r ?_
        first
        | exact at_ret1 rfl rfl (fun w hw => ⟨by rw [same_len hlV hlW (by simp at hc11; omega)], hw.drop⟩)
        | exact at_ret1 rfl rfl (fun w hw => ⟨by rw [hall, same_self], hw.drop⟩)
        | exact at_ret1 rfl rfl (fun w hw => ⟨by rw [same_ne hv hw1 (fun e => hlne (by rw [← hQ.len, ← hR.len, e]))], hw.drop⟩)
        | exact at_ret1 rfl rfl (fun w hw => ⟨by rw [same_ne hv hw1 (fun e => absurd hc52 (by rw [e, hz] at hu; cases hu; simp))], hw.drop⟩)
      · skip
        have hxy : x.n = y.n := by simp at hc28; omega
        refine X_skip ?_
        refine at_then ?_
        refine X_seq ?_
        refine X_region ?_
        refine XO_v0 (ev_assign rfl) rfl rfl rfl ?_
        refine XO_nil ?_
        refine at_then ?_
        refine X_block ?_
        refine X_loopT [(0, _), (1, _), (5, _)] (.cons rfl (.cons rfl (.cons rfl .nil))) (fun T L0 mz E I' loc' => ∃ (j : Nat), mz = x.n - j ∧ E = (6, .int .i64 j) :: T ∧ I = I' ∧ L0 = loc' ∧ j ≤ x.n ∧ v.take j = w1.take j) _ _ _ _ ⟨0, rfl, rfl, rfl, rfl, Nat.zero_le _, rfl⟩ (.cons rfl (.cons rfl (.cons rfl (.cons rfl .nil)))) (HLe.refl _) rfl ?_
        rintro mz E I' loc' ⟨j, rfl, rfl, rfl, rfl, hj, hj⟩
        refine X_seq ?_
        refine X_seq ?_
        refine X_region ?_
        refine XO_v0 (ev_move rfl) rfl rfl rfl ?_
        refine XO_v0 (ev_move rfl) rfl rfl rfl ?_
        refine XO_v0 (ev_move rfl) rfl rfl rfl ?_
        refine XO_v0 (ev_indexSl rfl rfl slt_28 (by assumption) (fun hg => by first | omega | (simp [conj] at hg; omega))) rfl rfl rfl ?_
        refine XO_v0 (ev_load rfl sct_22 (fun hg => by first | exact Sl.get0 hH hx rfl | exact Sl.get0 hG hy rfl | exact Sl.get0 hQ hu rfl | exact Sl.get0 hR hz rfl | exact Cell.h0 rfl | exact Cell.h1 rfl | exact Cell.h2 rfl | exact Cell.h3 rfl | exact Cell.h4 rfl | exact Cell.h5 rfl | (repeat (first | exact Cell.here rfl | apply Cell.there | apply Cell.app)))) rfl rfl rfl ?_
        refine XO_v0 (ev_lenS rfl slt_22) rfl rfl rfl ?_
        refine XO_v0 (ev_cmp rfl rfl rfl) rfl rfl rfl ?_
        refine XO_nil ?_
        refine at_then ?_
        refine X_cond rfl (fun hc35 => ?_) (fun hc35 => ?_)
        · skip
          have hlt_j : j < x.n := by have h := hc35; simp at h; omega
          obtain ⟨u, hu⟩ := hQ.at hlt_j
          obtain ⟨z, hz⟩ := hR.at (show j < y.n by omega)
          refine X_skip ?_
          refine at_then ?_
          refine X_seq ?_
          refine X_block ?_
          refine X_seq ?_
          refine X_draw mixed (by kernel_rfl) ?_
          refine XQ_v0 (ev_move rfl) rfl rfl rfl ?_
          refine XQ_v0 (ev_move rfl) rfl rfl rfl ?_
          refine XQ_v0 (ev_indexSl rfl rfl slt_28 (by assumption) (fun hg => by first | omega | (simp [conj] at hg; omega))) rfl rfl rfl ?_
          refine XQ_v0 (ev_load rfl sct_22 (fun hg => by first | exact Sl.get0 hH hx rfl | exact Sl.get0 hG hy rfl | exact Sl.get0 hQ hu rfl | exact Sl.get0 hR hz rfl | exact Cell.h0 rfl | exact Cell.h1 rfl | exact Cell.h2 rfl | exact Cell.h3 rfl | exact Cell.h4 rfl | exact Cell.h5 rfl | (repeat (first | exact Cell.here rfl | apply Cell.there | apply Cell.app)))) rfl rfl rfl ?_
          refine XQ_v0 (ev_move rfl) rfl rfl rfl ?_
          refine XQ_v0 (ev_indexSl rfl rfl slt_22 (by assumption) (fun hg => by first | omega | (simp [conj] at hg; omega))) rfl rfl rfl ?_
          refine XQ_v0 (ev_load rfl sct_3 (fun hg => by first | exact Sl.get0 hH hx rfl | exact Sl.get0 hG hy rfl | exact Sl.get0 hQ hu rfl | exact Sl.get0 hR hz rfl | exact Cell.h0 rfl | exact Cell.h1 rfl | exact Cell.h2 rfl | exact Cell.h3 rfl | exact Cell.h4 rfl | exact Cell.h5 rfl | (repeat (first | exact Cell.here rfl | apply Cell.there | apply Cell.app)))) rfl rfl rfl ?_
          refine XQ_v0 (ev_move rfl) rfl rfl rfl ?_
          refine XQ_v0 (ev_move rfl) rfl rfl rfl ?_
          refine XQ_v0 (ev_indexSl rfl rfl slt_28 (by assumption) (fun hg => by first | omega | (simp [conj] at hg; omega))) rfl rfl rfl ?_
          refine XQ_v0 (ev_load rfl sct_22 (fun hg => by first | exact Sl.get0 hH hx rfl | exact Sl.get0 hG hy rfl | exact Sl.get0 hQ hu rfl | exact Sl.get0 hR hz rfl | exact Cell.h0 rfl | exact Cell.h1 rfl | exact Cell.h2 rfl | exact Cell.h3 rfl | exact Cell.h4 rfl | exact Cell.h5 rfl | (repeat (first | exact Cell.here rfl | apply Cell.there | apply Cell.app)))) rfl rfl rfl ?_
          refine XQ_v0 (ev_move rfl) rfl rfl rfl ?_
          refine XQ_v0 (ev_indexSl rfl rfl slt_22 (by assumption) (fun hg => by first | omega | (simp [conj] at hg; omega))) rfl rfl rfl ?_
          refine XQ_v0 (ev_load rfl sct_3 (fun hg => by first | exact Sl.get0 hH hx rfl | exact Sl.get0 hG hy rfl | exact Sl.get0 hQ hu rfl | exact Sl.get0 hR hz rfl | exact Cell.h0 rfl | exact Cell.h1 rfl | exact Cell.h2 rfl | exact Cell.h3 rfl | exact Cell.h4 rfl | exact Cell.h5 rfl | (repeat (first | exact Cell.here rfl | apply Cell.there | apply Cell.app)))) rfl rfl rfl ?_
          refine XQ_v0 (ev_cmp rfl rfl rfl) rfl rfl rfl ?_
          refine XQ_nil ?_
          refine at_then ?_
          refine X_cond rfl (fun hc52 => ?_) (fun hc52 => ?_)
          · skip
            refine X_seq ?_
            refine X_region ?_
            refine XO_v0 (ev_assign rfl) rfl rfl rfl ?_
            refine XO_nil ?_
            refine at_then ?_
            refine X_ret ?_
            refine at_block_r ?_
            refine at_then_r ?_
            refine at_then_r ?_
            refine at_block_r ?_
            refine at_block_r ?_
            refine at_then_r ?_
            refine at_then_r ?_
            refine at_block_r ?_
            refine at_then_r ?_
            first
            | exact at_ret1 rfl rfl (fun w hw => ⟨by rw [same_len hlV hlW (by simp at hc11; omega)], hw.drop⟩)
            | exact at_ret1 rfl rfl (fun w hw => ⟨by rw [hall, same_self], hw.drop⟩)
            | exact at_ret1 rfl rfl (fun w hw => ⟨by rw [same_ne hv hw1 (fun e => hlne (by rw [← hQ.len, ← hR.len, e]))], hw.drop⟩)
            | exact at_ret1 rfl rfl (fun w hw => ⟨by rw [same_ne hv hw1 (fun e => absurd hc52 (by rw [e, hz] at hu; cases hu; simp))], hw.drop⟩)
          · skip
            refine X_skip ?_
            refine at_block_n ?_
            refine at_then ?_
            refine X_region ?_
            refine XO_v0 (ev_move rfl) rfl rfl rfl ?_
            refine XO_v0 (ev_arB rfl rfl rfl (fun _ => by omega)) rfl rfl rfl ?_
            refine XO_v0 (ev_assign rfl) rfl rfl rfl ?_
            refine XO_nil ?_
            exact at_met2 _ _ ⟨x.n - (j + 1), by omega, j + 1, rfl, rfl, rfl, rfl, by omega, take_next hu hz hj (by simpa using hc52)⟩ (.cons rfl (.cons rfl (.cons rfl (.cons rfl .nil)))) (by repeat (first | exact .refl | exact subL_left | refine subL_app ?_ | refine .drop ?_ | refine subL_add ?_))
        · skip
          have hge_j : x.n ≤ j := by have h := hc35; simp at h; omega
          have hvw : v = w1 := by rw [take_all hQ.len hge_j, take_all hR.len (by omega)] at hj; exact hj
          refine X_exit ?_
          refine at_then_e ?_
          refine at_then_e ?_
          refine at_block_hit ?_
          refine at_block_n ?_
          refine at_then ?_
          refine X_region ?_
          refine XO_v0 (ev_move rfl) rfl rfl rfl ?_
          refine XO_v0 (ev_arB rfl rfl rfl (fun _ => by omega)) rfl rfl rfl ?_
          refine XO_v0 (ev_assign rfl) rfl rfl rfl ?_
          refine XO_nil ?_
          exact at_met2 _ _ ⟨n - (k + 1), by omega, k + 1, rfl, rfl, rfl, rfl, by omega, take_next hv hw1 he hvw⟩ (.cons rfl (.cons rfl (.cons rfl .nil))) (by repeat (first | exact .refl | exact subL_left | refine subL_app ?_ | refine .drop ?_ | refine subL_add ?_))
    · skip
      have hge_k : n ≤ k := by have h := hc15; simp at h; omega
      have hall : rows = rows2 := by rw [take_all hlV hge_k, take_all hlW (by omega)] at he; exact he
      refine X_exit ?_
      refine at_then_e ?_
      refine at_then_e ?_
      refine at_block_hit ?_
      refine at_then ?_
      refine X_seq ?_
      refine X_region ?_
      refine XO_v0 (ev_assign rfl) rfl rfl rfl ?_
      refine XO_nil ?_
      refine at_then ?_
      refine X_ret ?_
      first
      | exact at_ret1 rfl rfl (fun w hw => ⟨by rw [same_len hlV hlW (by simp at hc11; omega)], hw.drop⟩)
      | exact at_ret1 rfl rfl (fun w hw => ⟨by rw [hall, same_self], hw.drop⟩)
      | exact at_ret1 rfl rfl (fun w hw => ⟨by rw [same_ne hv hw1 (fun e => hlne (by rw [← hQ.len, ← hR.len, e]))], hw.drop⟩)
      | exact at_ret1 rfl rfl (fun w hw => ⟨by rw [same_ne hv hw1 (fun e => absurd hc52 (by rw [e, hz] at hu; cases hu; simp))], hw.drop⟩)
end Go.Proofs.YtkpmnnflikkhmaaDoor
end
section
namespace Go.Proofs.YtkpmnnflikkhmaaDoor
open Go Go.Kn Go.Proofs
def stepF (f t : Int) : Int := if f = t then 0 else if t = 0 then 1 else if f = 0 then 4 else 2
theorem step_in (f t : Int) : 0 ≤ stepF f t ∧ stepF f t ≤ 4 := by
  unfold stepF
  split
  · omega
  · split
    · omega
    · split <;> omega
/-- The least cost below a state: of the first k states. -/
def bestK (st cs : List Int) (s : Int) (k : Nat) : Int := (List.range k).foldl (fun b i => minI b (stepF s (st.getD i 0) + cs.getD i 0)) 1048576
def belowF (st cs : List Int) (s : Int) : Int := bestK st cs s st.length
/-- Lexicographically less. -/
def lexF : List Int → List Int → Bool
  | x :: a, y :: b => if x ≠ y then decide (x < y) else lexF a b
  | _, _ => false
theorem drop_cons {α : Type} {xs : List α} {k : Nat} {x : α} (h : xs[k]? = some x) : xs.drop k = x :: xs.drop (k + 1) := by
  obtain ⟨h1, h2⟩ := List.getElem?_eq_some_iff.1 h
  rw [List.drop_eq_getElem_cons h1, h2]
def kindF (n : Int) : Int := if n = 0 then 1 else 0
end Go.Proofs.YtkpmnnflikkhmaaDoor
end
section
namespace Go.Proofs.YtkpmnnflikkhmaaDoor
open Go Go.Kn Go.Proofs
theorem w_kind (I : HMap) (n : Int) : RetV Tryd.prog 95 [.int .i64 n] I (.int .i64 (kindF n)) := by
  intro g H w hw
  refine enter Tryd.func95 rfl Tryd.ntmps95 rfl hw ?_
  refine X_seq ?_
  refine X_region ?_
  refine XO_v0 (ev_assign rfl) rfl rfl rfl ?_
  refine XO_nil ?_
  refine at_then ?_
  refine X_seq ?_
  refine X_seq ?_
  refine X_region ?_
  refine XO_v0 (ev_move rfl) rfl rfl rfl ?_
  refine XO_v0 (ev_cmp rfl rfl rfl) rfl rfl rfl ?_
  refine XO_nil ?_
  refine at_then ?_
  refine X_cond rfl (fun hc4 => ?_) (fun hc4 => ?_)
  · skip
    refine X_seq ?_
    refine X_region ?_
    refine XO_v0 (ev_assign rfl) rfl rfl rfl ?_
    refine XO_nil ?_
    refine at_then ?_
    refine X_ret ?_
    refine at_then_r ?_
    exact at_ret1 rfl rfl (fun w hw => ⟨by unfold kindF; simp_all, hw.drop⟩)
  · skip
    refine X_skip ?_
    refine at_then ?_
    refine X_seq ?_
    refine X_region ?_
    refine XO_v0 (ev_assign rfl) rfl rfl rfl ?_
    refine XO_nil ?_
    refine at_then ?_
    refine X_ret ?_
    exact at_ret1 rfl rfl (fun w hw => ⟨by unfold kindF; simp_all, hw.drop⟩)
end Go.Proofs.YtkpmnnflikkhmaaDoor
end
section
namespace Go.Kn
open Go
section
variable {C : Cx} {E : Env} {I : HMap} {loc : Loc} {S : GS} {dst : Option Tmp} {ty : TypeId} {pos : String} {af : Array Edge} {gd : Option (Nat × Bool)} {x y z : Operand}
end
end Go.Kn
namespace Go.Kn
open Go
section
variable {g : World} {I I' H : HMap} {loc loc' L R : Loc} {w w' : World}
end
end Go.Kn
namespace Go.Kn
open Go
section
variable {C : Cx} {Q : Exit → Act → World → Prop} {E : Env} {I : HMap} {loc : Loc} {ops : Array Oper} {rest : List Oper} {d : Nat} {ty : TypeId} {pos : String} {af : Array Edge} {gd : Option (Nat × Bool)} {x y : Operand}
end
end Go.Kn
namespace Go.Kn
open Go
section
variable {C : Cx} {Q : Exit → Act → World → Prop} {E : Env} {I : HMap} {loc : Loc} {ops : Array Oper} {rest : List Oper} {d : Nat} {ty : TypeId} {pos : String} {af : Array Edge} {gd : Option (Nat × Bool)} {x y : Operand}
end
section
variable {C : Cx} {S : GS} {E : Env} {I : HMap} {loc : Loc} {dst : Option Tmp} {ty : TypeId} {pos : String} {af : Array Edge} {gd : Option (Nat × Bool)} {x y : Operand}
theorem ev_indexOwn {t e size b n c : Nat} {k : IntKind} {i : Int} (hx : evalS S E x = some (.slice (some ⟨b, 0, none⟩) n c)) (hy : evalS S E y = some (.int k i)) (hT : SlT C.P t e size) (hb : conj S = true → 0 ≤ i ∧ i < (n : Int)) :
    EvalOp C S E I loc ⟨dst, .indexAddr t x y, ty, pos, af, gd⟩ (.pointer (some ⟨b, i.toNat * size, none⟩)) := by
  have h := ev_indexAddr (I := I) (loc := loc) (dst := dst) (ty := ty) (pos := pos) (af := af) (gd := gd) hx hy hT hb
  rwa [Nat.zero_add] at h
end
end Go.Kn
end
section
namespace Go.Proofs.YtkpmnnflikkhmaaDoor
open Go Go.Kn Go.Proofs
/-- A literal that is one's own. -/
theorem _root_.Go.Kn.OwnS.lit {e size b n : Nat} {vs : List Value} (h : vs.length = n * size) (hn : n ≤ maxLen) : OwnS e size (.slice (some ⟨b, 0, none⟩) n n) n vs [(b, .cells vs.toArray e (0, 0))] :=
  ⟨h, .inr ⟨b, n, _, rfl, rfl, Nat.le_refl _, hn, by simp [h], by rw [← h]; simp⟩⟩
theorem valn {e size n : Nat} {v : Value} {xs : List Value} {L : Go.Kn.Loc} (h : OwnS e size v n xs L) : ∃ a c, v = .slice a n c := by
  rcases h.2 with ⟨h1, h2, _⟩ | ⟨b, c, cur, h1, _⟩
  · subst h2; exact ⟨_, _, h1⟩
  · exact ⟨_, _, h1⟩
def stS (out : List Int) (n : Int) : List Int := if n == 8589934592 || out.any (fun x => x == n) then out else out ++ [n]
def statesF (rows : List (List Int)) (l : Nat) : List Int := (rows.map fun r => r.getD l 0).foldl stS [0]
theorem st_step {rows : List (List Int)} {l k : Nat} {r : List Int} (h : rows[k]? = some r) : statesF (rows.take (k + 1)) l = stS (statesF (rows.take k) l) (r.getD l 0) := by
  unfold statesF
  rw [List.take_add_one, h, List.map_append, List.foldl_append]; rfl
theorem st_yes {out : List Int} {n : Int} (h : (n == 8589934592 || out.any (fun x => x == n)) = true) : stS out n = out := by unfold stS; rw [if_pos h]
theorem st_no {out : List Int} {n : Int} (h : (n == 8589934592 || out.any (fun x => x == n)) = false) : stS out n = out ++ [n] := by unfold stS; rw [if_neg (by rw [h]; decide)]
theorem st_len {rows : List (List Int)} {l : Nat} : (statesF rows l).length ≤ rows.length + 1 := by
  have : ∀ (ns out : List Int), (ns.foldl stS out).length ≤ ns.length + out.length := by
    intro ns
    induction ns with
    | nil => intro out; simp
    | cons n ns ih =>
      intro out
      refine Nat.le_trans (ih _) ?_
      have : (stS out n).length ≤ out.length + 1 := by
        unfold stS
        split
        · omega
        · simp
      simp only [List.length_cons]; omega
  have := this (rows.map fun r => r.getD l 0) [0]
  simpa [statesF] using this
end Go.Proofs.YtkpmnnflikkhmaaDoor
end
section
namespace Go.Proofs.YtkpmnnflikkhmaaDoor
open Go Go.Kn Go.Proofs
theorem elt_22 : ElT Tryd.prog 22 3 1 8 := .of (by kernel_rfl)
end Go.Proofs.YtkpmnnflikkhmaaDoor
end
section
namespace Go.Proofs.YtkpmnnflikkhmaaDoor
open Go Go.Kn Go.Proofs
theorem take_snoc {α : Type} {xs : List α} {k : Nat} {x : α} (h : xs[k]? = some x) : xs.take (k + 1) = xs.take k ++ [x] := by
  rw [List.take_add_one, h]; rfl
section
variable {α : Type} {lt : α → α → Bool}
def bothG (lt : α → α → Bool) : List α → List α → List α
  | a, [] => a
  | a, y :: b => a.takeWhile (fun x => lt x y) ++ y :: bothG lt (a.dropWhile fun x => lt x y) b
theorem both_len (a b : List α) : (bothG lt a b).length = a.length + b.length := by
  induction b generalizing a with
  | nil => simp [bothG]
  | cons y b ih =>
    simp only [bothG]
    have := congrArg List.length (List.takeWhile_append_dropWhile (p := fun x => lt x y) (l := a))
    rw [List.length_append] at this
    rw [List.length_append, List.length_cons, ih, List.length_cons]
    omega
end
def ltI (a b : Int) : Bool := decide (a < b)
def joinF (xs ys : List Int) (s : Int) : List Int := bothG ltI xs ys ++ [s]
end Go.Proofs.YtkpmnnflikkhmaaDoor
end
section
namespace Go.Proofs.YtkpmnnflikkhmaaDoor
open Go Go.Kn Go.Proofs
/-- The witness of a single set. -/
def witF (s : Int) : Nat := s.toNat.log2
theorem wit_in : ((List.range 7).all fun n => (List.range 64).all fun s => !singF (s : Int) || !decide ((s : Int) ≤ allS (n : Int)) || decide (witF (s : Int) < n)) = true := by kernel_rfl
theorem wit_n {s : Int} {n : Nat} (hn : n ≤ 6) (hs : 1 ≤ s ∧ s ≤ 63) (h1 : singF s = true) (h : s ≤ allS (n : Int)) : witF s < n := by
  have h0 := List.all_eq_true.1 wit_in n (List.mem_range.2 (by omega))
  have h0 := List.all_eq_true.1 h0 s.toNat (List.mem_range.2 (by omega))
  rw [show ((s.toNat : Nat) : Int) = s by omega, h1] at h0
  simpa [h] using h0
theorem split_spec {cl : List Int} {c : Int} {a : Nat} (h : splitR cl c a ≠ 0) (ha : 1 ≤ a) : 1 ≤ splitR cl c a ∧ splitR cl c a < c ∧ splitP cl c (splitR cl c a) = true := by
  unfold splitR at h ⊢
  cases hf : (List.range' a (c.toNat - a)).find? (fun k : Nat => splitP cl c (k : Int)) with
  | none => rw [hf] at h; exact absurd rfl h
  | some k =>
    have h1 := List.find?_some hf
    have h2 := List.mem_range'_1.1 (List.mem_of_find?_eq_some hf)
    exact ⟨by show 1 ≤ (k : Int); omega, by show (k : Int) < c; omega, h1⟩
/-- A set that has costs. -/
def OkS (n : Nat) (cl : List Int) (s : Int) : Prop := 1 ≤ s ∧ s ≤ allS (n : Int) ∧ hasS cl s = true
theorem chkN_split {m : Int} {cl : List Int} (h : chkN m cl = 0) : ∀ c ∈ cl, splitF cl c ≠ 0 := by
  intro c hc hs
  unfold chkN at h
  repeat (split at h; · cases h)
  rename_i h5
  exact h5 (List.any_eq_true.2 ⟨c, hc, by simp [hs]⟩)
theorem ok_parts {n : Nat} {cl : List Int} {s : Int} (hc : chkN n cl = 0) (h : OkS n cl s) (h1 : (andI s (IntKind.i64.wrap (s - 1)) == 0) = false) : OkS n cl (splitF cl s) ∧ OkS n cl (s - splitF cl s) ∧ 1 ≤ splitF cl s ∧ splitF cl s < s := by
  obtain ⟨h2, h3, h4⟩ := h
  have hin : s ∈ cl := by
    unfold hasS singF at h4
    rw [h1, Bool.and_false, Bool.or_false, List.any_eq_true] at h4
    obtain ⟨c, hc2, e⟩ := h4
    have : c = s := by simpa using e
    exact this ▸ hc2
  obtain ⟨a1, a2, a3⟩ := split_spec (chkN_split hc s hin) (Nat.le_refl 1)
  unfold splitP at a3
  simp only [Bool.and_eq_true] at a3
  exact ⟨⟨a1, by show splitR cl s 1 ≤ _; omega, a3.1.2⟩, ⟨by show 1 ≤ s - splitR cl s 1; omega, by show s - splitR cl s 1 ≤ _; omega, a3.2⟩, a1, a2⟩
def leafG (u x : Int) : Int := if decide (u ≠ 8589934592) && decide (u ≠ x) then 1048576 else 0
def costsF (rows : List (List Int)) (cl : List Int) (l : Nat) : Nat → Int → List Int
  | 0, _ => []
  | f + 1, s =>
    if (andI s (IntKind.i64.wrap (s - 1)) == 0) = true then (statesF rows l).map (leafG ((rows.getD (witF s) []).getD l 0))
    else (statesF rows l).map fun x => belowF (statesF rows l) (costsF rows cl l f (splitF cl s)) x + belowF (statesF rows l) (costsF rows cl l f (s - splitF cl s)) x
theorem costs_leaf {rows : List (List Int)} {cl : List Int} {l f : Nat} {s : Int} (h : (andI s (IntKind.i64.wrap (s - 1)) == 0) = true) : costsF rows cl l (f + 1) s = (statesF rows l).map (leafG ((rows.getD (witF s) []).getD l 0)) := by
  simp only [costsF]; rw [if_pos h]
def twoG (st L R : List Int) (x : Int) : Int := belowF st L x + belowF st R x
theorem costs_two {rows : List (List Int)} {cl : List Int} {l f : Nat} {s : Int} (h : (andI s (IntKind.i64.wrap (s - 1)) == 0) = false) : costsF rows cl l (f + 1) s = (statesF rows l).map (twoG (statesF rows l) (costsF rows cl l f (splitF cl s)) (costsF rows cl l f (s - splitF cl s))) := by
  simp only [costsF]; rw [if_neg (by rw [h]; decide)]; rfl
theorem below_in {st cs : List Int} {s : Int} (h : ∀ y ∈ cs, 0 ≤ y ∧ y ≤ 1099511627776) : 0 ≤ belowF st cs s ∧ belowF st cs s ≤ 1048576 := by
  unfold belowF
  have : ∀ k, 0 ≤ bestK st cs s k ∧ bestK st cs s k ≤ 1048576 := by
    intro k
    induction k with
    | zero => unfold bestK; simp
    | succ k ih =>
      have e : bestK st cs s (k + 1) = minI (bestK st cs s k) (stepF s (st.getD k 0) + cs.getD k 0) := by
        unfold bestK
        rw [List.range_succ, List.foldl_append, List.foldl_cons, List.foldl_nil]
      rw [e]
      have h1 := (step_in s (st.getD k 0)).1
      have h2 : 0 ≤ cs.getD k 0 := by
        cases hk : cs[k]? with
        | none => simp [List.getD, hk]
        | some y => rw [getD_of hk]; exact (h y (List.mem_of_getElem? hk)).1
      unfold minI
      split <;> omega
  exact this _
theorem costs_in {rows : List (List Int)} {cl : List Int} {l : Nat} : ∀ (f : Nat) (s : Int), ∀ y ∈ costsF rows cl l f s, 0 ≤ y ∧ y ≤ 1099511627776
  | 0, _ => fun y hy => by cases hy
  | f + 1, s => fun y hy => by
    cases h : (andI s (IntKind.i64.wrap (s - 1)) == 0) with
    | true =>
      rw [costs_leaf h, List.mem_map] at hy
      obtain ⟨x, _, rfl⟩ := hy
      unfold leafG
      split <;> omega
    | false =>
      rw [costs_two h, List.mem_map] at hy
      obtain ⟨x, _, rfl⟩ := hy
      have h1 := below_in (st := statesF rows l) (s := x) (costs_in (rows := rows) (cl := cl) (l := l) f (splitF cl s))
      have h2 := below_in (st := statesF rows l) (s := x) (costs_in (rows := rows) (cl := cl) (l := l) f (s - splitF cl s))
      unfold twoG
      omega
theorem costs_len {rows : List (List Int)} {cl : List Int} {l f : Nat} {s : Int} : (costsF rows cl l (f + 1) s).length = (statesF rows l).length := by
  cases h : (andI s (IntKind.i64.wrap (s - 1)) == 0) with
  | true => rw [costs_leaf h, List.length_map]
  | false => rw [costs_two h, List.length_map]
/-! ### A row that is filled -/
end Go.Proofs.YtkpmnnflikkhmaaDoor
end
section
namespace Go.Proofs.YtkpmnnflikkhmaaDoor
open Go Go.Kn Go.Proofs
theorem szt_3 : SzT Tryd.prog 3 1 := .of (by kernel_rfl)
end Go.Proofs.YtkpmnnflikkhmaaDoor
end
section
namespace Go.Proofs.YtkpmnnflikkhmaaDoor
open Go Go.Kn Go.Proofs
theorem rows_ok {rows : List (List Int)} (h : rowsN rows = 0) : 1 ≤ rows.length ∧ rows.length ≤ 6 ∧ (rows.getD 0 []).length ≤ 64 ∧ ∀ r ∈ rows, r.length = (rows.getD 0 []).length ∧ ∀ v ∈ r, 0 ≤ v ∧ v ≤ 8589934592 := by
  unfold rowsN at h
  split at h
  · cases h
  · rename_i h1
    split at h
    · cases h
    · rename_i h2
      split at h
      · cases h
      · rename_i h3
        simp only [Bool.or_eq_true, decide_eq_true_eq, not_or, Bool.not_eq_true, List.any_eq_false] at h1 h3
        obtain ⟨r0, h0⟩ : ∃ r, rows[0]? = some r := ⟨_, List.getElem?_eq_getElem (by omega)⟩
        have hg := getD_of (d := ([] : List Int)) h0
        have h64 := h1.2 r0 (List.mem_of_getElem? h0)
        simp at h64
        refine ⟨by omega, by omega, by rw [hg]; omega, fun r hr => ?_⟩
        have := h3 r hr
        unfold rowP at this
        rw [Bool.or_eq_false_iff] at this
        obtain ⟨ha, hb⟩ := this
        refine ⟨Int.ofNat.inj (Decidable.not_not.1 (of_decide_eq_false ha)), fun v hv => ?_⟩
        have := List.any_eq_false.1 hb v hv
        unfold stateP at this
        simp at this
        omega
theorem ok_all {n : Nat} {cl : List Int} (h : chkN n cl = 0) : OkS n cl (allS n) := by
  obtain ⟨h1, h6, hlen, hin⟩ := chkN_ok h
  refine ⟨(all_in (n := (n : Int)) ⟨h1, h6⟩).1, Int.le_refl _, ?_⟩
  by_cases e : n = 1
  · subst e
    unfold hasS
    rw [show singF (allS ((1 : Nat) : Int)) = true from by decide, Bool.or_true]
  · unfold chkN at h
    repeat (split at h; · cases h)
    rename_i h4 _
    have hg : (n : Int) > 1 := by omega
    simp only [Bool.and_eq_true, decide_eq_true_eq, not_and, Decidable.not_not] at h4
    have h4 := h4 hg
    unfold hasS
    rw [Bool.or_eq_true]; left
    rw [List.any_eq_true]
    have hk : ((n : Int) - 2).toNat < cl.length := by omega
    refine ⟨cl[((n : Int) - 2).toNat], List.getElem_mem hk, ?_⟩
    rw [beq_iff_eq, ← h4]
    exact (getD_of (List.getElem?_eq_getElem hk)).symm
/-- The least of some costs. -/
def minK (cs : List Int) (k : Nat) : Int := (cs.take k).foldl minI (cs.getD 0 0)
def leastF (cs : List Int) : Int := minK cs cs.length
theorem minK_step {cs : List Int} {k : Nat} {x : Int} (hx : cs[k]? = some x) : minK cs (k + 1) = minI (minK cs k) x := by
  unfold minK
  rw [List.take_add_one, hx, List.foldl_append]; rfl
theorem minK_in {cs : List Int} (h : ∀ y ∈ cs, 0 ≤ y ∧ y ≤ 1099511627776) (h0 : 0 < cs.length) : ∀ k, 0 ≤ minK cs k ∧ minK cs k ≤ 1099511627776 := by
  have hz : 0 ≤ cs.getD 0 0 ∧ cs.getD 0 0 ≤ 1099511627776 := by
    have := List.getElem?_eq_getElem h0
    rw [getD_of this]; exact h _ (List.getElem_mem h0)
  intro k
  induction k with
  | zero => simpa [minK] using hz
  | succ k ih =>
    cases hk : cs[k]? with
    | none =>
      have : minK cs (k + 1) = minK cs k := by
        unfold minK
        rw [List.take_add_one, hk]; simp
      rw [this]; exact ih
    | some x =>
      rw [minK_step hk]
      have := h x (List.mem_of_getElem? hk)
      unfold minI
      split <;> omega
def priceK (rows : List (List Int)) (cl : List Int) (k : Nat) : Int := (List.range k).foldl (fun s l => s + leastF (costsF rows cl l 64 (allS rows.length))) 0
def priceF (rows : List (List Int)) (cl : List Int) : Int := priceK rows cl (rows.getD 0 []).length
theorem price_step {rows : List (List Int)} {cl : List Int} {k : Nat} : priceK rows cl (k + 1) = priceK rows cl k + leastF (costsF rows cl k 64 (allS rows.length)) := by
  unfold priceK
  rw [List.range_succ, List.foldl_append]; rfl
theorem st_pos {rows : List (List Int)} {l : Nat} : 0 < (statesF rows l).length := by
  have : ∀ (ns out : List Int), out.length ≤ (ns.foldl stS out).length := by
    intro ns
    induction ns with
    | nil => intro out; simp
    | cons n ns ih =>
      intro out
      refine Nat.le_trans ?_ (ih _)
      unfold stS
      split
      · omega
      · simp
  exact this (rows.map fun r => r.getD l 0) [0]
end Go.Proofs.YtkpmnnflikkhmaaDoor
end
section
namespace Go.Proofs.YtkpmnnflikkhmaaDoor
open Go Go.Kn Go.Proofs
def costE (rows : List (List Int)) (cl : List Int) : Int := if rowsN rows ≠ 0 then rowsN rows else chkN rows.length cl
def costA (rows : List (List Int)) (cl : List Int) : Int := if costE rows cl ≠ 0 then 0 else priceF rows cl
theorem cost_1 {rows : List (List Int)} {cl : List Int} (h : rowsN rows ≠ 0) : costE rows cl = rowsN rows ∧ costA rows cl = 0 := by
  have e : costE rows cl = rowsN rows := by unfold costE; rw [if_pos h]
  exact ⟨e, by unfold costA; rw [if_pos (by rw [e]; exact h)]⟩
theorem cost_2 {rows : List (List Int)} {cl : List Int} (h : rowsN rows = 0) (h2 : chkN rows.length cl ≠ 0) : costE rows cl = chkN rows.length cl ∧ costA rows cl = 0 := by
  have e : costE rows cl = chkN rows.length cl := by unfold costE; rw [if_neg (by omega)]
  exact ⟨e, by unfold costA; rw [if_pos (by rw [e]; exact h2)]⟩
theorem cost_3 {rows : List (List Int)} {cl : List Int} (h : rowsN rows = 0) (h2 : chkN rows.length cl = 0) : costE rows cl = 0 ∧ costA rows cl = priceF rows cl := by
  have e : costE rows cl = 0 := by unfold costE; rw [if_neg (by omega), h2]
  exact ⟨e, by unfold costA; rw [if_neg (by omega)]⟩
/-- Heads and what they stand for. -/
def RelH (I : HMap) (hs : List Hd) (vss : List (List Int)) : Prop := hs.length = vss.length ∧ ∀ (k : Nat) (h : Hd) (v : List Int), hs[k]? = some h → vss[k]? = some v → Sl I 1 encI h.a h.n h.c v
theorem RelH.nil {I : HMap} : RelH I [] [] := ⟨rfl, fun k h v a => by simp at a⟩
theorem RelH.mono {I I' : HMap} {hs : List Hd} {vss : List (List Int)} (h : RelH I hs vss) (hI : HLe I I') : RelH I' hs vss := ⟨h.1, fun k x v a b => (h.2 k x v a b).mono hI⟩
theorem RelH.snoc {I : HMap} {hs : List Hd} {vss : List (List Int)} (h : RelH I hs vss) {hd : Hd} {v : List Int} (hV : Sl I 1 encI hd.a hd.n hd.c v) : RelH I (hs ++ [hd]) (vss ++ [v]) := by
  refine ⟨by simp [h.1], fun k x y a b => ?_⟩
  rw [List.getElem?_append] at a b
  rw [h.1] at a
  split at a
  · rename_i hk
    rw [if_pos hk] at b
    exact h.2 k x y a b
  · rename_i hk
    rw [if_neg hk] at b
    have e : k - vss.length = 0 := by
      cases hd2 : k - vss.length with
      | zero => rfl
      | succ m => rw [hd2] at a; simp at a
    rw [e] at a b
    simp at a b
    subst a; subst b; exact hV
def sortF : Nat → List (List Int) → List (List Int)
  | 0, l => l
  | f + 1, l => if l.length < 2 then l else bothG lexF (sortF f (l.take (l.length / 2))) (sortF f (l.drop (l.length / 2)))
theorem sort_len : ∀ (f : Nat) (l : List (List Int)), (sortF f l).length = l.length
  | 0, _ => rfl
  | f + 1, l => by
    simp only [sortF]
    split
    · rfl
    · rw [both_len, sort_len f, sort_len f, List.length_take, List.length_drop]; omega
end Go.Proofs.YtkpmnnflikkhmaaDoor
end
section
namespace Go.Proofs.YtkpmnnflikkhmaaDoor
open Go Go.Kn Go.Proofs
theorem mem_both {α : Type} {lt : α → α → Bool} {x : α} : ∀ {a b : List α}, x ∈ bothG lt a b ↔ x ∈ a ∨ x ∈ b
  | a, [] => by simp [bothG]
  | a, y :: b => by
    simp only [bothG]
    rw [List.mem_append, List.mem_cons, mem_both (a := a.dropWhile _) (b := b), List.mem_cons]
    have : x ∈ a ↔ x ∈ a.takeWhile (fun x => lt x y) ∨ x ∈ a.dropWhile fun x => lt x y := by
      rw [← List.mem_append, List.takeWhile_append_dropWhile]
    rw [this]
    constructor
    · rintro (h | h | h | h)
      · exact .inl (.inl h)
      · exact .inr (.inl h)
      · exact .inl (.inr h)
      · exact .inr (.inr h)
    · rintro ((h | h) | h | h)
      · exact .inl h
      · exact .inr (.inr (.inl h))
      · exact .inr (.inl h)
      · exact .inr (.inr (.inr h))
theorem mem_sort {r : List Int} : ∀ (f : Nat) (l : List (List Int)), r ∈ sortF f l → r ∈ l
  | 0, _ => fun h => h
  | f + 1, l => fun h => by
    simp only [sortF] at h
    split at h
    · exact h
    · rcases mem_both.1 h with h | h
      · exact List.mem_of_mem_take (mem_sort f _ h)
      · exact List.mem_of_mem_drop (mem_sort f _ h)
end Go.Proofs.YtkpmnnflikkhmaaDoor
end
section
namespace Go.Proofs.YtkpmnnflikkhmaaDoor
open Go Go.Kn Go.Proofs
theorem elt_28 : ElT Tryd.prog 28 22 1 24 := .of (by kernel_rfl)
end Go.Proofs.YtkpmnnflikkhmaaDoor
end
section
namespace Go.Proofs.YtkpmnnflikkhmaaDoor
open Go Go.Kn Go.Proofs
def candB (s a : Int) : Bool := (andI a s == a) && lowS a s
def pairsF (X Y : List (List Int)) (s : Int) : List (List Int) := X.flatMap fun x => Y.map fun y => joinF x y s
def treesF : Nat → Int → List (List Int)
  | 0, _ => []
  | f + 1, s => if (andI s (IntKind.i64.wrap (s - 1)) == 0) = true then [[]] else (List.range' 1 (s.toNat - 1)).flatMap fun a : Nat => if candB s a then pairsF (treesF f a) (treesF f (s - a)) s else []
/-- The trees whose least part comes before k. -/
def treesK (f : Nat) (s : Int) (k : Nat) : List (List Int) := (List.range' 1 (k - 1)).flatMap fun a : Nat => if candB s a then pairsF (treesF f a) (treesF f (s - a)) s else []
theorem trees_1 {f : Nat} {s : Int} (h : (andI s (IntKind.i64.wrap (s - 1)) == 0) = true) : treesF (f + 1) s = [[]] := by simp only [treesF]; rw [if_pos h]
theorem trees_2 {f : Nat} {s : Int} (h : (andI s (IntKind.i64.wrap (s - 1)) == 0) = false) : treesF (f + 1) s = treesK f s s.toNat := by simp only [treesF]; rw [if_neg (by rw [h]; decide)]; rfl
/-- How many witnesses a set has. -/
def popF (s : Int) : Nat := (List.range 6).foldl (fun c i => c + s.toNat / 2 ^ i % 2) 0
theorem pop_tab : ((List.range 64).all fun s => (List.range s).all fun a => a == 0 || !candB (s : Int) (a : Int) || (decide (popF (a : Int) < popF (s : Int)) && decide (popF ((s - a : Nat) : Int) < popF (s : Int)))) = true := by kernel_rfl
theorem pop_lt {s : Int} {a : Nat} (hs : 1 ≤ s ∧ s ≤ 63) (ha : 1 ≤ a) (hlt : (a : Int) < s) (h : candB s a = true) : popF a < popF s ∧ popF (s - a) < popF s := by
  have h0 := List.all_eq_true.1 pop_tab s.toNat (List.mem_range.2 (by omega))
  have h0 := List.all_eq_true.1 h0 a (List.mem_range.2 (by omega))
  rw [show ((s.toNat : Nat) : Int) = s by omega, h, show ((s.toNat - a : Nat) : Int) = s - a by omega] at h0
  have ha0 : (a == 0) = false := by simp; omega
  rw [ha0] at h0
  simpa using h0
/-- How many trees a set has. -/
def cntF : Nat → Nat → Nat
  | 0, _ => 0
  | f + 1, s => if s &&& (s - 1) == 0 then 1 else ((List.range' 1 (s - 1)).map fun a => if (a &&& s == a) && candB s a then cntF f a * cntF f (s - a) else 0).sum
theorem pairs_len {X Y : List (List Int)} {s : Int} : (pairsF X Y s).length = X.length * Y.length := by
  unfold pairsF
  induction X with
  | nil => simp
  | cons x X ih => rw [List.flatMap_cons, List.length_append, ih, List.length_map, List.length_cons, Nat.succ_mul, Nat.add_comm]
theorem sing_tab : ((List.range 64).all fun s => (s == 0) || ((andI (s : Int) (IntKind.i64.wrap ((s : Int) - 1)) == 0) == (s &&& (s - 1) == 0))) = true := by kernel_rfl
theorem sing_eq {s : Nat} (h : 1 ≤ s ∧ s ≤ 63) : (andI (s : Int) (IntKind.i64.wrap ((s : Int) - 1)) == 0) = (s &&& (s - 1) == 0) := by
  have h0 := List.all_eq_true.1 sing_tab s (List.mem_range.2 (by omega))
  have hs0 : (s == 0) = false := by simp; omega
  rw [hs0, Bool.false_or] at h0
  exact eq_of_beq h0
theorem cand_tab : ((List.range 64).all fun s => (List.range s).all fun a => !candB (s : Int) (a : Int) || (a &&& s == a)) = true := by kernel_rfl
theorem cand_and {s a : Nat} (hs : s ≤ 63) (hlt : a < s) : ((a &&& s == a) && candB (s : Int) (a : Int)) = candB (s : Int) (a : Int) := by
  have h0 := List.all_eq_true.1 cand_tab s (List.mem_range.2 (by omega))
  have h0 := List.all_eq_true.1 h0 a (List.mem_range.2 hlt)
  cases hc : candB (s : Int) (a : Int)
  · rw [Bool.and_false]
  · rw [hc] at h0; simpa using h0
theorem trees_len : ∀ (f s : Nat), 1 ≤ s ∧ s ≤ 63 → (treesF f (s : Int)).length = cntF f s
  | 0, _, _ => rfl
  | f + 1, s, hs => by
    simp only [cntF]
    rw [← sing_eq hs]
    cases h : (andI (s : Int) (IntKind.i64.wrap ((s : Int) - 1)) == 0) with
    | true => rw [trees_1 h]; rfl
    | false =>
      rw [trees_2 h, if_neg (by decide)]
      unfold treesK
      rw [List.length_flatMap, Int.toNat_natCast]
      congr 1
      refine List.map_congr_left fun a ha => ?_
      have ha := List.mem_range'_1.1 ha
      rw [cand_and hs.2 (by omega)]
      cases hc : candB (s : Int) (a : Int) with
      | false => rfl
      | true =>
        rw [if_pos rfl, if_pos rfl, pairs_len, trees_len f a (by omega), show (s : Int) - (a : Int) = ((s - a : Nat) : Int) by omega, trees_len f (s - a) (by omega)]
theorem cnt_tab : ((List.range 9).all fun f => (List.range 64).all fun s => decide (cntF f s ≤ 945)) = true := by kernel_rfl
theorem trees_few {f : Nat} {s : Int} (hf : f ≤ 8) (hs : 1 ≤ s ∧ s ≤ 63) : (treesF f s).length ≤ 945 := by
  have h := trees_len f s.toNat (by omega)
  rw [show ((s.toNat : Nat) : Int) = s by omega] at h
  rw [h]
  have h0 := List.all_eq_true.1 cnt_tab f (List.mem_range.2 (by omega))
  have h0 := List.all_eq_true.1 h0 s.toNat (List.mem_range.2 (by omega))
  simpa using h0
theorem both_len2 (x y : List Int) (s : Int) : (joinF x y s).length = x.length + y.length + 1 := by
  unfold joinF
  rw [List.length_append, both_len]; rfl
theorem tree_row : ∀ (f : Nat) (s : Int), ∀ r ∈ treesF f s, r.length + 1 ≤ 2 ^ f
  | 0, _ => fun r hr => by cases hr
  | f + 1, s => fun r hr => by
    cases h : (andI s (IntKind.i64.wrap (s - 1)) == 0) with
    | true =>
      rw [trees_1 h] at hr
      simp at hr
      subst hr
      exact Nat.one_le_two_pow
    | false =>
      rw [trees_2 h] at hr
      unfold treesK at hr
      rw [List.mem_flatMap] at hr
      obtain ⟨a, _, hr⟩ := hr
      split at hr
      · unfold pairsF at hr
        rw [List.mem_flatMap] at hr
        obtain ⟨x, hx, hr⟩ := hr
        rw [List.mem_map] at hr
        obtain ⟨y, hy, rfl⟩ := hr
        have h1 := tree_row f _ x hx
        have h2 := tree_row f _ y hy
        rw [both_len2, Nat.pow_succ]
        omega
      · cases hr
end Go.Proofs.YtkpmnnflikkhmaaDoor
end
section
namespace Go.Proofs.YtkpmnnflikkhmaaDoor
open Go Go.Kn Go.Proofs
def allE (n : Int) : Int := if n > 6 then 2 else if n < 1 then 420 else 0
def allL (n : Int) : List (List Int) := sortF 946 (treesF 7 (allS n))
def SlNTup (e : Int) (vss : List (List Int)) : Value → HMap → Go.Kn.Loc → Prop := fun v I' L => L = [] ∧ ∃ av c, v = .tuple #[.slice av vss.length c, .int .i64 e] ∧ SlN I' av vss.length c vss
theorem SlN.none {I : HMap} : SlN I none 0 0 [] := ⟨[], .nil, RelH.nil⟩
theorem SlNTup.empty {e : Int} {vss : List (List Int)} {I : HMap} (h : vss = []) : SlNTup e vss (.tuple #[.slice none 0 0, .int .i64 e]) I [] := by
  subst h
  exact ⟨rfl, none, 0, rfl, .none⟩
theorem allE_1 {n : Int} (h : n > 6) : allE n = 2 := by unfold allE; rw [if_pos h]
theorem allE_2 {n : Int} (h : ¬ n > 6) (h2 : n < 1) : allE n = 420 := by unfold allE; rw [if_neg h, if_pos h2]
theorem allE_3 {n : Int} (h : ¬ n > 6) (h2 : ¬ n < 1) : allE n = 0 := by unfold allE; rw [if_neg h, if_neg h2]
theorem pop_all : ((List.range 64).all fun s => decide (popF (s : Int) < 7)) = true := by kernel_rfl
theorem pop_7 {s : Int} (hs : 1 ≤ s ∧ s ≤ 63) : popF s < 7 := by
  have h0 := List.all_eq_true.1 pop_all s.toNat (List.mem_range.2 (by omega))
  rw [show ((s.toNat : Nat) : Int) = s by omega] at h0
  simpa using h0
theorem tree_short {s : Int} : ∀ r ∈ treesF 7 s, r.length ≤ 100000 := fun r hr => by have := tree_row 7 s r hr; omega
end Go.Proofs.YtkpmnnflikkhmaaDoor
end
section
namespace Go.Proofs.YtkpmnnflikkhmaaDoor
open Go Go.Kn Go.Proofs
theorem all_right : ((List.range 6).all fun n => (treesF 7 (allS (n : Int))).all fun x => n == 0 || chkN (n : Int) x == 0) = true := by kernel_rfl
theorem all_chk {n : Nat} (h1 : 1 ≤ n) (h5 : n ≤ 5) {x : List Int} (hx : x ∈ allL (n : Int)) : chkN (n : Int) x = 0 := by
  have h0 := List.all_eq_true.1 all_right n (List.mem_range.2 (by omega))
  have h0 := List.all_eq_true.1 h0 x (mem_sort _ _ hx)
  have hn : (n == 0) = false := by simp; omega
  rw [hn, Bool.false_or] at h0
  exact eq_of_beq h0
end Go.Proofs.YtkpmnnflikkhmaaDoor
end
section
namespace Go.Proofs.YtkpmnnflikkhmaaDoor
open Go Go.Kn Go.Proofs
def lessB (b c : Int) : Bool := decide (b < 0) || decide (c < b)
/-- The least price so far and who has it: one more. -/
def bstS (rows : List (List Int)) (p : Int × List (List Int)) (x : List Int) : Int × List (List Int) :=
  let c := priceF rows x
  let b := if lessB p.1 c then c else p.1
  let o := if lessB p.1 c then [] else p.2
  (b, if c == b then o ++ [x] else o)
def bstK (rows : List (List Int)) (k : Nat) : Int × List (List Int) := ((allL rows.length).take k).foldl (bstS rows) (-1, [])
theorem bst_next {rows : List (List Int)} {k : Nat} {x : List Int} (hx : (allL rows.length)[k]? = some x) : bstK rows (k + 1) = bstS rows (bstK rows k) x := by
  unfold bstK
  rw [take_snoc hx, List.foldl_append]; rfl
def bestB (rows : List (List Int)) : Int := if rowsN rows ≠ 0 then 0 else (bstK rows (allL rows.length).length).1
def bestL (rows : List (List Int)) : List (List Int) := if rowsN rows ≠ 0 then [] else (bstK rows (allL rows.length).length).2
def BestQ (rows : List (List Int)) : Value → HMap → Go.Kn.Loc → Prop := fun v I' L => L = [] ∧ ∃ av c, v = .tuple #[.slice av (bestL rows).length c, .int .i64 (bestB rows), .int .i64 (rowsN rows)] ∧ SlN I' av (bestL rows).length c (bestL rows)
theorem BestQ.bad {rows : List (List Int)} {I : HMap} (h : rowsN rows ≠ 0) : BestQ rows (.tuple #[.slice none 0 0, .int .i64 0, .int .i64 (rowsN rows)]) I [] := by
  have e1 : bestL rows = [] := by unfold bestL; rw [if_pos h]
  have e2 : bestB rows = 0 := by unfold bestB; rw [if_pos h]
  exact ⟨rfl, none, 0, by rw [e1, e2]; rfl, by rw [e1]; exact .none⟩
theorem best_ok {rows : List (List Int)} (h : rowsN rows = 0) : bestL rows = (bstK rows (allL rows.length).length).2 ∧ bestB rows = (bstK rows (allL rows.length).length).1 := by
  unfold bestL bestB; rw [if_neg (by omega), if_neg (by omega)]; exact ⟨rfl, rfl⟩
end Go.Proofs.YtkpmnnflikkhmaaDoor
end
section
namespace Go.Proofs.YtkpmnnflikkhmaaDoor
open Go Go.Kn Go.Proofs
theorem fun_97 : Fun Tryd.prog 97 := .of Tryd.func97 (by kernel_rfl) (by kernel_rfl)
theorem minK_1 {xs : List Int} {x : Int} (hx : xs[0]? = some x) : minK xs 1 = x := by
  cases xs with
  | nil => cases hx
  | cons y xs => cases hx; simp [minK, minI]
theorem w_min {I : HMap} {av : Option Addr} {n c : Nat} {xs : List Int} (hS : Sl I 1 encI av n c xs) (hn : n ≤ 100000) (h0 : 0 < n) : RetV Tryd.prog 97 [.slice av n c] I (.int .i64 (leastF xs)) := by
  intro g H w hw
  refine enter Tryd.func97 rfl Tryd.ntmps97 rfl hw ?_
  obtain ⟨x0, hx0⟩ := hS.at h0
  refine X_seq ?_
  refine X_region ?_
  refine XO_v0 (ev_assign rfl) rfl rfl rfl ?_
  refine XO_nil ?_
  refine at_then ?_
  refine X_seq ?_
  refine X_seq ?_
  refine X_region ?_
  refine XO_v0 (ev_move rfl) rfl rfl rfl ?_
  refine XO_v0 (ev_lenS rfl slt_22) rfl rfl rfl ?_
  refine XO_v0 (ev_cmp rfl rfl rfl) rfl rfl rfl ?_
  refine XO_nil ?_
  refine at_then ?_
  refine X_cond rfl (fun hc7 => ?_) (fun hc7 => ?_)
  · skip
    have h := hc7; simp at h; omega
  · skip
    refine X_skip ?_
    refine at_then ?_
    refine X_seq ?_
    refine X_region ?_
    refine XO_v0 (ev_move rfl) rfl rfl rfl ?_
    refine XO_v0 (ev_indexSl rfl rfl slt_22 (by assumption) (fun hg => by first | omega | (simp [conj] at hg; omega))) rfl rfl rfl ?_
    refine XO_v0 (ev_load rfl sct_3 (fun hg => by first | exact Sl.get0 hS hx rfl | exact Sl.get0 (k := 0) hS hx0 rfl | exact Cell.h0 rfl | exact Cell.h1 rfl | exact Cell.h2 rfl | exact Cell.h3 rfl | exact Cell.h4 rfl | exact Cell.h5 rfl | (repeat (first | exact Cell.here rfl | apply Cell.there | apply Cell.app)))) rfl rfl rfl ?_
    refine XO_v0 (ev_assign rfl) rfl rfl rfl ?_
    refine XO_nil ?_
    refine at_then ?_
    refine X_seq ?_
    refine X_seq ?_
    refine X_region ?_
    refine XO_v0 (ev_assign rfl) rfl rfl rfl ?_
    refine XO_nil ?_
    refine at_then ?_
    refine X_block ?_
    refine X_loopT [(0, _)] (.cons rfl .nil) (fun T L0 mz E I' loc' => ∃ (k : Nat) (m : Int), mz = n - k ∧ E = (3, .int .i64 m) :: (4, .int .i64 k) :: T ∧ I = I' ∧ L0 = loc' ∧ k ≤ n ∧ m = minK xs k ∧ 1 ≤ k) _ _ _ _ ⟨1, _, rfl, rfl, rfl, rfl, h0, (minK_1 hx0).symm, Nat.le_refl _⟩ (.cons rfl (.cons rfl (.cons rfl .nil))) (HLe.refl _) rfl ?_
    rintro mz E I' loc' ⟨k, m, rfl, rfl, rfl, rfl, hk, hm, hk1⟩
    refine X_seq ?_
    refine X_seq ?_
    refine X_region ?_
    refine XO_v0 (ev_move rfl) rfl rfl rfl ?_
    refine XO_v0 (ev_move rfl) rfl rfl rfl ?_
    refine XO_v0 (ev_lenS rfl slt_22) rfl rfl rfl ?_
    refine XO_v0 (ev_cmp rfl rfl rfl) rfl rfl rfl ?_
    refine XO_nil ?_
    refine at_then ?_
    refine X_cond rfl (fun hc15 => ?_) (fun hc15 => ?_)
    · skip
      have hlt_k : k < n := by have h := hc15; simp at h; omega
      obtain ⟨x, hx⟩ := hS.at hlt_k
      refine X_skip ?_
      refine at_then ?_
      refine X_seq ?_
      refine X_block ?_
      refine X_region ?_
      refine XO_v0 (ev_move rfl) rfl rfl rfl ?_
      refine XO_v0 (ev_move rfl) rfl rfl rfl ?_
      refine XO_v0 (ev_move rfl) rfl rfl rfl ?_
      refine XO_v0 (ev_indexSl rfl rfl slt_22 (by assumption) (fun hg => by first | omega | (simp [conj] at hg; omega))) rfl rfl rfl ?_
      refine XO_v0 (ev_load rfl sct_3 (fun hg => by first | exact Sl.get0 hS hx rfl | exact Sl.get0 (k := 0) hS hx0 rfl | exact Cell.h0 rfl | exact Cell.h1 rfl | exact Cell.h2 rfl | exact Cell.h3 rfl | exact Cell.h4 rfl | exact Cell.h5 rfl | (repeat (first | exact Cell.here rfl | apply Cell.there | apply Cell.app)))) rfl rfl rfl ?_
      refine XO_v0 (ev_min rfl rfl) rfl rfl rfl ?_
      refine XO_v0 (ev_assign rfl) rfl rfl rfl ?_
      refine XO_nil ?_
      refine at_block_n ?_
      refine at_then ?_
      refine X_region ?_
      refine XO_v0 (ev_move rfl) rfl rfl rfl ?_
      refine XO_v0 (ev_arB rfl rfl rfl (fun hg => by first | omega | (simp [conj] at hg; omega))) rfl rfl rfl ?_
      refine XO_v0 (ev_assign rfl) rfl rfl rfl ?_
      refine XO_nil ?_
      exact at_met2 _ _ ⟨n - (k + 1), by omega, k + 1, _, rfl, rfl, rfl, rfl, by omega, by rw [minK_step hx, hm], by omega⟩ (.cons rfl (.cons rfl (.cons rfl .nil))) (by repeat (first | exact .refl | exact subL_left | refine subL_app ?_ | refine .drop ?_ | refine subL_add ?_))
    · skip
      have hge_k : n ≤ k := by have h := hc15; simp at h; omega
      have hkn : k = xs.length := by rw [hS.len]; omega
      subst hkn
      refine X_exit ?_
      refine at_then_e ?_
      refine at_then_e ?_
      refine at_block_hit ?_
      refine at_then ?_
      refine X_seq ?_
      refine X_region ?_
      refine XO_v0 (ev_move rfl) rfl rfl rfl ?_
      refine XO_v0 (ev_assign rfl) rfl rfl rfl ?_
      refine XO_nil ?_
      refine at_then ?_
      refine X_ret ?_
      first
      | exact at_ret1 rfl rfl (fun w hw => ⟨by rw [hm]; rfl, hw.drop⟩)
theorem w_least {I : HMap} {av : Option Addr} {n c : Nat} {xs : List Int} (hS : Sl I 1 encI av n c xs) (hn : n ≤ 100000) (h0 : 0 < n) : RetV Tryd.prog 71 [.slice av n c] I (.int .i64 (leastF xs)) := by
  intro g H w hw
  refine enter Tryd.func71 rfl Tryd.ntmps71 rfl hw ?_
  refine X_seq ?_
  refine X_region ?_
  refine XO_v0 (ev_assign rfl) rfl rfl rfl ?_
  refine XO_nil ?_
  refine at_then ?_
  refine X_seq ?_
  refine X_region ?_
  refine XO_v0 (ev_move rfl) rfl rfl rfl ?_
  refine XO_callV0 (cap := []) (vs := [_]) rfl rfl fun_97 (w_min hS hn h0) rfl rfl ?_
  refine XO_v0 (ev_assign rfl) rfl rfl rfl ?_
  refine XO_nil ?_
  refine at_then ?_
  refine X_ret ?_
  exact at_ret1 rfl rfl (fun w hw => ⟨by first | rfl | simp_all, hw.drop⟩)
end Go.Proofs.YtkpmnnflikkhmaaDoor
end
section
namespace Go.Kn
open Go
/-- '[2][2]int{x, y}'. -/
theorem ev_build2A {C : Cx} {S : GS} {E : Env} {I : HMap} {loc : Loc} {dst : Option Nat} {ty : Nat} {pos : String} {af : Array Edge} {gd : Option (Nat × Bool)} {t e : Nat} {z1 z2 z3 z4 a b c d : Value} {x y : Operand}
    (hT : ArT C.P t 2 e 2) (hz : ZeroT C.P t (.agg #[z1, z2, z3, z4])) (hx : evalS S E x = some (.agg #[a, b])) (hy : evalS S E y = some (.agg #[c, d])) :
    EvalOp C S E I loc ⟨dst, .build t #[(0, x), (1, y)], ty, pos, af, gd⟩ (.agg #[a, b, c, d]) :=
  .of (by intro c e; cases e) fun st w ha hg hc hw => by
    obtain ⟨hu, i, hi, hs⟩ := hT
    have hsz : ∀ w : World, (sizeOf e).run C.P w = .ok 2 w := fun w => by have h1 := Go.run_sizeOf (w := w) hi; have h2 : C.P.cellsOf e = 2 := (by unfold Program.cellsOf; rw [hi]; exact hs); rw [h2] at h1; exact h1
    simp only [execOp, Instr.build, Sem.run_bind, run_zeroValue hz, Result.andThen, run_underlying hu, hsz, List.map_toArray, List.map_cons, List.map_nil, evalS_sound ha hg hc hx, evalS_sound ha hg hc hy]
    rfl
end Go.Kn
end
section
namespace Go.Proofs.YtkpmnnflikkhmaaDoor
open Go Go.Kn Go.Proofs
theorem agt_104 : AgT Tryd.prog 104 4 := .of (by kernel_rfl)
theorem ar2_103 : Ar2 Tryd.prog 103 3 .i64 := ⟨by kernel_rfl, by kernel_rfl, by kernel_rfl, by kernel_rfl, by kernel_rfl⟩
theorem art_104 : ArT Tryd.prog 104 2 103 2 := .of (by kernel_rfl)
theorem szt_104 : SzT Tryd.prog 104 4 := .of (by kernel_rfl)
theorem zt_103 : ZeroT Tryd.prog 103 (.agg #[(.int .i64 0), (.int .i64 0)]) := .of (by kernel_rfl)
theorem zt_104 : ZeroT Tryd.prog 104 (.agg #[(.int .i64 0), (.int .i64 0), (.int .i64 0), (.int .i64 0)]) := .of (by kernel_rfl)
theorem w_steps (I : HMap) : RetV Tryd.prog 96 [] I (.agg #[.int .i64 2, .int .i64 1, .int .i64 4, .int .i64 0]) := by
  intro g H w hw
  refine enter Tryd.func96 rfl Tryd.ntmps96 rfl hw ?_
  refine X_seq ?_
  refine X_region ?_
  refine XO_alloc zt_104 rfl rfl (fun b_0 => ?_)
  refine XO_nil ?_
  refine at_then ?_
  refine X_seq ?_
  refine X_region ?_
  refine XO_v0 (ev_build2 ar2_103 zt_103 rfl rfl) rfl rfl rfl ?_
  refine XO_v0 (ev_build2 ar2_103 zt_103 rfl rfl) rfl rfl rfl ?_
  refine XO_v0 (ev_build2A art_104 zt_104 rfl rfl) rfl rfl rfl ?_
  refine XO_storeA rfl rfl szt_104 rfl rfl rfl rfl (by first | exact Upd.u0 | exact Upd.u1 | exact Upd.u2 | exact Upd.u3 | exact Upd.u4 | exact Upd.u5 | (repeat (first | exact Upd.here | apply Upd.there | apply upd_app))) ?_
  refine XO_nil ?_
  refine at_then ?_
  refine X_ret ?_
  exact at_retA (vs := [.int .i64 2, .int .i64 1, .int .i64 4, .int .i64 0]) rfl rfl agt_104 (by repeat (first | exact Cells.here | apply Cells.there)) rfl (fun w hw => ⟨rfl, hw.drop⟩)
end Go.Proofs.YtkpmnnflikkhmaaDoor
end
section
namespace Go.Proofs.YtkpmnnflikkhmaaDoor
open Go Go.Kn Go.Proofs
theorem agt_103 : AgT Tryd.prog 103 2 := .of (by kernel_rfl)
theorem art_103 : ArT Tryd.prog 103 2 3 1 := .of (by kernel_rfl)
theorem fun_95 : Fun Tryd.prog 95 := .of Tryd.func95 (by kernel_rfl) (by kernel_rfl)
theorem fun_96 : Fun Tryd.prog 96 := .of Tryd.func96 (by kernel_rfl) (by kernel_rfl)
theorem kind_in (n : Int) : 0 ≤ kindF n ∧ kindF n < 2 := by unfold kindF; split <;> omega
theorem step_ix {f t : Int} (h : f ≠ t) : ((([.int .i64 2, .int .i64 1, .int .i64 4, .int .i64 0] : List Value).drop ((kindF f).toNat * 2)).take 2)[(kindF t).toNat * 1]? = some (.int .i64 (stepF f t)) := by
  unfold stepF kindF
  rw [if_neg h]
  by_cases h1 : t = 0
  · have h2 : ¬ f = 0 := fun e => h (by rw [e, h1])
    rw [if_pos h1, if_neg h2, if_pos h1]; rfl
  · rw [if_neg h1, if_neg h1]
    by_cases h2 : f = 0
    · rw [if_pos h2, if_pos h2]; rfl
    · rw [if_neg h2, if_neg h2]; rfl
theorem w_step (I : HMap) (f t : Int) : RetV Tryd.prog 70 [.int .i64 f, .int .i64 t] I (.int .i64 (stepF f t)) := by
  intro g H w hw
  refine enter Tryd.func70 rfl Tryd.ntmps70 rfl hw ?_
  refine X_seq ?_
  refine X_region ?_
  refine XO_v0 (ev_assign rfl) rfl rfl rfl ?_
  refine XO_nil ?_
  refine at_then ?_
  refine X_seq ?_
  refine X_seq ?_
  refine X_region ?_
  refine XO_v0 (ev_move rfl) rfl rfl rfl ?_
  refine XO_v0 (ev_move rfl) rfl rfl rfl ?_
  refine XO_v0 (ev_cmp rfl rfl rfl) rfl rfl rfl ?_
  refine XO_nil ?_
  refine at_then ?_
  refine X_cond rfl (fun hc8 => ?_) (fun hc8 => ?_)
  · skip
    have heq : f = t := by simpa using hc8
    refine X_seq ?_
    refine X_region ?_
    refine XO_v0 (ev_assign rfl) rfl rfl rfl ?_
    refine XO_nil ?_
    refine at_then ?_
    refine X_ret ?_
    refine at_then_r ?_
    first
    | exact at_ret1 rfl rfl (fun w hw => ⟨by unfold stepF; rw [if_pos heq], hw.drop⟩)
    | exact at_ret1 rfl rfl (fun w hw => ⟨by rfl, hw.drop⟩)
  · skip
    have hne : f ≠ t := by simpa using hc8
    refine X_skip ?_
    refine at_then ?_
    refine X_seq ?_
    refine X_region ?_
    refine XO_v0 (ev_assign rfl) rfl rfl rfl ?_
    refine XO_nil ?_
    refine at_then ?_
    refine X_seq ?_
    refine X_draw mixed (by kernel_rfl) ?_
    refine XQ_callV0 (cap := []) (vs := []) rfl rfl fun_96 (w_steps I) rfl rfl ?_
    refine XQ_v0 (ev_move rfl) rfl rfl rfl ?_
    refine XQ_v0 (ev_move rfl) rfl rfl rfl ?_
    refine XQ_callV0 (cap := []) (vs := [_]) rfl rfl fun_95 (w_kind I _) rfl rfl ?_
    refine XQ_v0 (ev_indexAg (cs := [.int .i64 2, .int .i64 1, .int .i64 4, .int .i64 0]) rfl rfl art_104 agt_103 (fun hg => kind_in _)) rfl rfl rfl ?_
    refine XQ_v0 (ev_move rfl) rfl rfl rfl ?_
    refine XQ_v0 (ev_move rfl) rfl rfl rfl ?_
    refine XQ_callV0 (cap := []) (vs := [_]) rfl rfl fun_95 (w_kind I _) rfl rfl ?_
    refine XQ_v0 (ev_index rfl rfl art_103 sct_3 (fun hg => kind_in _) (fun hg => step_ix hne)) rfl rfl rfl ?_
    refine XQ_v0 (ev_assign rfl) rfl rfl rfl ?_
    refine XQ_nil ?_
    refine at_then ?_
    refine X_ret ?_
    first
    | exact at_ret1 rfl rfl (fun w hw => ⟨by unfold stepF; rw [if_pos heq], hw.drop⟩)
    | exact at_ret1 rfl rfl (fun w hw => ⟨by rfl, hw.drop⟩)
end Go.Proofs.YtkpmnnflikkhmaaDoor
end
section
namespace Go.Proofs.YtkpmnnflikkhmaaDoor
open Go Go.Kn Go.Proofs
/-- The table by which trailing zeros are counted. -/
def debT : List Int := [0, 1, 56, 2, 57, 49, 28, 3, 61, 58, 42, 50, 38, 29, 17, 4, 62, 47, 59, 36, 45, 43, 51, 22, 53, 39, 33, 30, 24, 18, 12, 5, 63, 55, 48, 27, 60, 41, 37, 16, 46, 35, 44, 21, 52, 32, 23, 11, 54, 26, 40, 15, 34, 20, 31, 10, 25, 14, 19, 9, 13, 8, 7, 6]
def DebOK (I : HMap) : Prop := ∀ i : Nat, i < 64 → Cell I [] 1 i (.int .u8 (debT.getD i 0))
theorem DebOK.mono {I I' : HMap} (h : DebOK I) (hI : HLe I I') : DebOK I' := fun i hi => (h i hi).mono hI
def andU (a b : Int) : Int := IntKind.u64.wrap ((BitVec.ofInt 64 a &&& BitVec.ofInt 64 b).toNat : Int)
def debX (x : Int) : Int := (IntKind.u64.wrap (andU x (IntKind.u64.wrap (0 - x)) * 285870213051353865)).fdiv (2 ^ 58)
theorem deb_tab : ((List.range 64).all fun s => !singF (s : Int) || (decide (0 ≤ debX (s : Int)) && decide (debX (s : Int) < 64) && decide (IntKind.i64.wrap (debT.getD (debX (s : Int)).toNat 0) = (witF (s : Int) : Int)))) = true := by kernel_rfl
theorem deb_ok {s : Int} (hs : 1 ≤ s ∧ s ≤ 63) (h1 : singF s = true) : (0 ≤ debX s ∧ debX s < 64) ∧ IntKind.i64.wrap (debT.getD (debX s).toNat 0) = (witF s : Int) := by
  have h := List.all_eq_true.1 deb_tab s.toNat (List.mem_range.2 (by omega))
  rw [show ((s.toNat : Nat) : Int) = s by omega, h1] at h
  simpa using h
section
variable {C : Cx} {E : Env} {I : HMap} {loc : Go.Kn.Loc} {S : GS} {dst : Option Tmp} {ty : TypeId} {pos : String} {af : Array Edge} {gd : Option (Nat × Bool)} {x y : Operand} {a b : Int}
theorem ev_andU {t t' : TypeId} (hx : evalS S E x = some (.int .u64 a)) (hy : evalS S E y = some (.int .u64 b)) : EvalOp C S E I loc ⟨dst, .binOp .and t x y t', ty, pos, af, gd⟩ (.int .u64 (andU a b)) :=
  .of (by intro c e; cases e) fun ac w ha hg hc _ => by
    simp only [execOp, evalS_sound ha hg hc hx, evalS_sound ha hg hc hy, Sem.run_bind, run_eqGuard_int, Result.andThen, binOp, ne_eq, not_true_eq_false, if_false, Op.intBits, Sem.run_pure, andU, IntKind.bits]; rfl
end
/-! ### Maps of costs -/
def eiv : Int → Value := Value.int .i64
structure MapF (m : List (Int × Int)) (g : Int → Option Int) : Prop where
  nd : (m.map (·.1)).Nodup
  get : ∀ x, mget m x = g x
theorem MapF.nil : MapF [] (fun _ => none) := ⟨.nil, fun _ => rfl⟩
theorem MapF.set {m : List (Int × Int)} {g : Int → Option Int} (h : MapF m g) (x v : Int) : MapF (mset m x v) (fun y => if x = y then some v else g y) :=
  ⟨mset_nodup _ _ h.nd, fun y => by rw [mget_mset, h.get]⟩
theorem MapF.congr {m : List (Int × Int)} {g g' : Int → Option Int} (h : MapF m g) (e : ∀ x, g x = g' x) : MapF m g' := ⟨h.nd, fun x => by rw [h.get, e]⟩
theorem MapF.mem {m : List (Int × Int)} {g : Int → Option Int} (h : MapF m g) {p : Int × Int} (hp : p ∈ m) : g p.1 = some p.2 := by rw [← h.get]; exact mget_at h.nd hp
/-- What a range has met. -/
def visO {α : Type} (m : List α) (seen : List Nat) : List α := seen.filterMap fun i => m[i]?
theorem vis_snoc {α : Type} {m : List α} {seen : List Nat} {i : Nat} {p : α} (hp : m[i]? = some p) : visO m (seen ++ [i]) = visO m seen ++ [p] := by
  unfold visO; rw [List.filterMap_append]; simp [hp]
theorem vis_all {α : Type} {m : List α} {seen : List Nat} (hnd : seen.Nodup) (hlt : ∀ i ∈ seen, i < m.length) (hall : ∀ i (p : α), m[i]? = some p → i ∈ seen) : (visO m seen).Perm m := by
  have h1 := (seen_perm hnd hlt hall).filterMap (fun i => m[i]?)
  rw [range_all] at h1
  exact h1
theorem vis_mem {α : Type} {m : List α} {seen : List Nat} {p : α} : p ∈ visO m seen ↔ ∃ i ∈ seen, m[i]? = some p := by unfold visO; rw [List.mem_filterMap]
theorem snd_nodup {seen : List Nat} {i n : Nat} (hnd : seen.Nodup) (hlt : ∀ i ∈ seen, i < n) (hs : i ∉ seen) (hi : i < n) : (seen ++ [i]).Nodup ∧ (∀ j ∈ seen ++ [i], j < n) ∧ (seen ++ [i]).length ≤ n := by
  have h1 : (seen ++ [i]).Nodup := List.nodup_append.2 ⟨hnd, by simp, fun a ha b hb e => hs (by simp at hb; subst hb; subst e; exact ha)⟩
  have h2 : ∀ j ∈ seen ++ [i], j < n := fun j hj => (List.mem_append.1 hj).elim (hlt j) (fun h => by simp at h; subst h; exact hi)
  refine ⟨h1, h2, ?_⟩
  have := seen_lt (m := List.range n) h1 (by simpa using h2)
  simpa using this
/-! ### The least, in whatever order -/
theorem min_fold : ∀ (xs : List Int) (b : Int), (∀ x ∈ xs, xs.foldl minI b ≤ x) ∧ xs.foldl minI b ≤ b ∧ (xs.foldl minI b = b ∨ xs.foldl minI b ∈ xs)
  | [], b => ⟨fun x h => by simp at h, Int.le_refl _, .inl rfl⟩
  | y :: xs, b => by
    obtain ⟨h1, h2, h3⟩ := min_fold xs (minI b y)
    simp only [List.foldl_cons]
    have hb : minI b y ≤ b ∧ minI b y ≤ y ∧ (minI b y = b ∨ minI b y = y) := by unfold minI; split <;> omega
    refine ⟨fun x hx => ?_, by omega, ?_⟩
    · rcases List.mem_cons.1 hx with rfl | hx
      · omega
      · exact h1 x hx
    · rcases h3 with h3 | h3
      · rcases hb.2.2 with e | e
        · left; rw [h3, e]
        · right; rw [h3, e]; exact List.mem_cons_self ..
      · right; exact List.mem_cons_of_mem _ h3
theorem least_in {xs : List Int} (h : xs ≠ []) : leastF xs ∈ xs ∧ ∀ x ∈ xs, leastF xs ≤ x := by
  cases xs with
  | nil => exact absurd rfl h
  | cons y xs =>
    unfold leastF minK
    rw [List.take_length]
    have e : (y :: xs).getD 0 0 = y := rfl
    rw [e]
    obtain ⟨h1, h2, h3⟩ := min_fold (y :: xs) y
    refine ⟨?_, h1⟩
    rcases h3 with h3 | h3
    · rw [h3]; exact List.mem_cons_self ..
    · exact h3
theorem least_eq {xs : List Int} {v : Int} (h : v ∈ xs) (h2 : ∀ x ∈ xs, v ≤ x) : leastF xs = v := by
  obtain ⟨h3, h4⟩ := least_in (List.ne_nil_of_mem h)
  have a := h4 v h
  have b := h2 _ h3
  omega
theorem best_fold (st cs : List Int) (s : Int) (k : Nat) : bestK st cs s k = ((List.range k).map fun i => stepF s (st.getD i 0) + cs.getD i 0).foldl minI 1048576 := by
  unfold bestK; rw [List.foldl_map]
/-- What a map of costs says of states and their costs: what cannot be has no entry. -/
structure MapR (st cs : List Int) (b : Int) (m : List (Int × Int)) : Prop where
  len : cs.length = st.length
  nd : (m.map (·.1)).Nodup
  get : ∀ (i : Nat) (x c : Int), st[i]? = some x → cs[i]? = some c → mget m x = if c < 1048576 then some c else none
  old : ∀ p ∈ m, p.1 ∈ st
  pos : ∃ c ∈ cs, c < 1048576
  le : ∀ c ∈ cs, 0 ≤ c ∧ (c < 1048576 → c ≤ b) ∧ c ≤ 1048576
theorem MapR.ne {st cs : List Int} {b : Int} {m : List (Int × Int)} (h : MapR st cs b m) : 0 < m.length := by
  obtain ⟨c, hc, hlt⟩ := h.pos
  obtain ⟨i, hi⟩ := List.getElem?_of_mem hc
  have hil := (List.getElem?_eq_some_iff.1 hi).1
  have hx : st[i]? = some (st[i]'(by rw [← h.len]; exact hil)) := List.getElem?_eq_getElem _
  have := h.get i _ c hx hi
  rw [if_pos hlt] at this
  exact List.length_pos_of_mem (mget_mem this)
theorem MapR.ent {st cs : List Int} {b : Int} {m : List (Int × Int)} (h : MapR st cs b m) {x c : Int} : (x, c) ∈ m ↔ ∃ i : Nat, st[i]? = some x ∧ cs[i]? = some c ∧ c < 1048576 := by
  constructor
  · intro hm
    obtain ⟨i, hi⟩ := List.getElem?_of_mem (h.old _ hm)
    have hil := (List.getElem?_eq_some_iff.1 hi).1
    have hc : cs[i]? = some (cs[i]'(by rw [h.len]; exact hil)) := List.getElem?_eq_getElem _
    have hg := h.get i x _ hi hc
    rw [mget_at h.nd hm] at hg
    split at hg
    · rename_i hlt
      cases hg
      exact ⟨i, hi, hc, hlt⟩
    · cases hg
  · rintro ⟨i, h1, h2, h3⟩
    have := h.get i x c h1 h2
    rw [if_pos h3] at this
    exact mget_mem this
/-- The least cost of a step and what is below, over the entries in whatever order. -/
theorem below_eq {st cs : List Int} {b : Int} {m vs : List (Int × Int)} (h : MapR st cs b m) (hb : b ≤ 1000) (hp : vs.Perm m) (s : Int) : leastF (vs.map fun p => p.2 + stepF s p.1) = belowF st cs s ∧ 0 ≤ belowF st cs s ∧ belowF st cs s ≤ b + 4 ∧ ∀ p ∈ vs, 0 ≤ p.2 ∧ p.2 ≤ b := by
  have hsm : ∀ p ∈ m, 0 ≤ p.2 ∧ p.2 ≤ b := fun p hp => by
    obtain ⟨i, _, h2, h3⟩ := (h.ent (x := p.1) (c := p.2)).1 hp
    have := h.le _ (List.mem_of_getElem? h2)
    exact ⟨this.1, this.2.1 h3⟩
  have hlow : ∀ p ∈ m, belowF st cs s ≤ p.2 + stepF s p.1 := fun p hp => by
    obtain ⟨i, h1, h2, h3⟩ := (h.ent (x := p.1) (c := p.2)).1 hp
    unfold belowF
    rw [best_fold]
    have hil := (List.getElem?_eq_some_iff.1 h1).1
    have := (min_fold ((List.range st.length).map fun i => stepF s (st.getD i 0) + cs.getD i 0) 1048576).1 (stepF s p.1 + p.2) (List.mem_map.2 ⟨i, List.mem_range.2 hil, by rw [getD_of h1, getD_of h2]⟩)
    omega
  have hne : m ≠ [] := fun e => by have := h.ne; rw [e] at this; simp at this
  obtain ⟨q, hq⟩ := List.exists_mem_of_ne_nil m hne
  have hq1 := hlow q hq
  have hq2 := hsm q hq
  have hq3 := step_in s q.1
  have hmem : ∃ p ∈ m, belowF st cs s = p.2 + stepF s p.1 := by
    have h3 := (min_fold ((List.range st.length).map fun i => stepF s (st.getD i 0) + cs.getD i 0) 1048576).2.2
    rw [← best_fold] at h3
    rcases h3 with h3 | h3
    · have : belowF st cs s = 1048576 := h3
      omega
    · obtain ⟨i, hi, e⟩ := List.mem_map.1 h3
      have hi := List.mem_range.1 hi
      have h1 : st[i]? = some (st.getD i 0) := some_getD rfl hi
      have h2 : cs[i]? = some (cs.getD i 0) := some_getD rfl (by rw [h.len]; exact hi)
      have hst := step_in s (st.getD i 0)
      have e : stepF s (st.getD i 0) + cs.getD i 0 = belowF st cs s := e
      exact ⟨(st.getD i 0, cs.getD i 0), h.ent.2 ⟨i, h1, h2, by omega⟩, by show _ = cs.getD i 0 + stepF s (st.getD i 0); omega⟩
  obtain ⟨p, hpm, he⟩ := hmem
  have hp2 := hsm p hpm
  have hp3 := step_in s p.1
  refine ⟨least_eq (List.mem_map.2 ⟨p, hp.mem_iff.2 hpm, he.symm⟩) (fun x hx => ?_), by omega, by omega, fun p hp' => hsm p (hp.mem_iff.1 hp')⟩
  obtain ⟨r, hr, rfl⟩ := List.mem_map.1 hx
  exact hlow r (hp.mem_iff.1 hr)
end Go.Proofs.YtkpmnnflikkhmaaDoor
end
section
namespace Go.Proofs.YtkpmnnflikkhmaaDoor
open Go Go.Kn Go.Proofs
def subN (c a : Nat) : Bool := c &&& a == c
theorem sub_trans {c a s : Nat} (h : subN c a = true) (g : subN a s = true) : subN c s = true := by
  unfold subN at *
  rw [beq_iff_eq] at *
  calc c &&& s = (c &&& a) &&& s := by rw [h]
    _ = c &&& (a &&& s) := Nat.and_assoc ..
    _ = c := by rw [g, h]
theorem sub_both {c a b : Nat} (h : subN c a = true) (g : subN c b = true) (e : b &&& a = 0) : c = 0 := by
  unfold subN at *
  rw [beq_iff_eq] at *
  calc c = (c &&& b) &&& a := by rw [g, h]
    _ = c &&& (b &&& a) := Nat.and_assoc ..
    _ = 0 := by rw [e]; exact Nat.and_zero _
theorem sub_refl (a : Nat) : subN a a = true := by unfold subN; rw [Nat.and_self]; exact beq_self_eq_true _
theorem sub_anti {a b : Nat} (h : subN a b = true) (g : subN b a = true) : a = b := by
  unfold subN at *
  rw [beq_iff_eq] at *
  calc a = a &&& b := h.symm
    _ = b &&& a := Nat.and_comm ..
    _ = b := g
theorem sub_le {a b : Nat} (h : subN a b = true) : a ≤ b := by
  unfold subN at h
  rw [beq_iff_eq] at h
  rw [← h]; exact Nat.and_le_right
theorem pair_tab : ((List.range 64).all fun s => (List.range 64).all fun a => !subN a s || ((((s - a) &&& a) == 0) && subN (s - a) s && (popF (a : Int) + popF ((s - a : Nat) : Int) == popF (s : Int)))) = true := by kernel_rfl
theorem pair_ok {s a : Nat} (hs : s < 64) (ha : a < 64) (h : subN a s = true) : (s - a) &&& a = 0 ∧ subN (s - a) s = true ∧ popF (a : Int) + popF ((s - a : Nat) : Int) = popF (s : Int) := by
  have h0 := List.all_eq_true.1 pair_tab s (List.mem_range.2 hs)
  have h0 := List.all_eq_true.1 h0 a (List.mem_range.2 ha)
  rw [h] at h0
  simpa [and_assoc] using h0
theorem land_tab : ((List.range 64).all fun s => (List.range 64).all fun a => andI (a : Int) (s : Int) == ((a &&& s : Nat) : Int)) = true := by kernel_rfl
theorem land_eq {s a : Nat} (hs : s < 64) (ha : a < 64) : andI (a : Int) (s : Int) = ((a &&& s : Nat) : Int) := by
  have h0 := List.all_eq_true.1 land_tab s (List.mem_range.2 hs)
  have h0 := List.all_eq_true.1 h0 a (List.mem_range.2 ha)
  exact eq_of_beq h0
theorem sub_I {s a : Int} (hs : 0 ≤ s ∧ s ≤ 63) (ha : 0 ≤ a ∧ a ≤ 63) : (andI a s == a) = subN a.toNat s.toNat := by
  have h := land_eq (s := s.toNat) (a := a.toNat) (by omega) (by omega)
  rw [show ((s.toNat : Nat) : Int) = s by omega, show ((a.toNat : Nat) : Int) = a by omega] at h
  unfold subN
  rw [h, Bool.eq_iff_iff, beq_iff_eq, beq_iff_eq]
  omega
/-- The lowest witness. -/
def lowN (s : Nat) : Nat := (andI (s : Int) (IntKind.i64.wrap (0 - (s : Int)))).toNat
theorem low_tab : ((List.range 64).all fun s => s == 0 || (subN (lowN s) s && decide (1 ≤ lowN s) && (andI (s : Int) (IntKind.i64.wrap (0 - (s : Int))) == (lowN s : Int)) && (!singF (s : Int) || (lowN s == s && popF (s : Int) == 1)))) = true := by kernel_rfl
theorem low_ok {s : Nat} (h0 : 1 ≤ s) (hs : s < 64) : subN (lowN s) s = true ∧ 1 ≤ lowN s ∧ andI (s : Int) (IntKind.i64.wrap (0 - (s : Int))) = (lowN s : Int) ∧ (singF (s : Int) = true → lowN s = s ∧ popF (s : Int) = 1) := by
  have h := List.all_eq_true.1 low_tab s (List.mem_range.2 hs)
  have hne : (s == 0) = false := by simp; omega
  rw [hne, Bool.false_or] at h
  simp only [Bool.and_eq_true, Bool.or_eq_true, decide_eq_true_eq, beq_iff_eq, Bool.not_eq_true'] at h
  refine ⟨h.1.1.1, h.1.1.2, h.1.2, fun e => ?_⟩
  rcases h.2 with h | h
  · rw [e] at h; cases h
  · exact h
theorem all_tab : ((List.range 7).all fun n => n == 0 || ((List.range 64).all fun s => !decide ((s : Int) ≤ allS (n : Int)) || subN s (allS (n : Int)).toNat) && (popF (allS (n : Int)) == n)) = true := by kernel_rfl
theorem all_sub {n : Nat} (h1 : 1 ≤ n) (h6 : n ≤ 6) : (∀ s : Nat, s < 64 → (s : Int) ≤ allS (n : Int) → subN s (allS (n : Int)).toNat = true) ∧ popF (allS (n : Int)) = n := by
  have h := List.all_eq_true.1 all_tab n (List.mem_range.2 (by omega))
  have hne : (n == 0) = false := by simp; omega
  rw [hne, Bool.false_or, Bool.and_eq_true] at h
  refine ⟨fun s hs hle => ?_, eq_of_beq h.2⟩
  have := List.all_eq_true.1 h.1 s (List.mem_range.2 hs)
  simpa [hle] using this
/-! ### Counting -/
def wN (p : Int → Bool) (cl : List Int) : Nat := (cl.map fun c => if p c then 1 else 0).sum
def inS (s : Int) (c : Int) : Bool := subN c.toNat s.toNat
theorem sum_le {f g : Int → Nat} : ∀ {cl : List Int}, (∀ c ∈ cl, f c ≤ g c) → (cl.map f).sum ≤ (cl.map g).sum
  | [], _ => Nat.le_refl _
  | c :: cl, h => by
    have h1 := h c (List.mem_cons_self ..)
    have h2 := sum_le (f := f) (g := g) (cl := cl) fun x hx => h x (List.mem_cons_of_mem _ hx)
    simp only [List.map_cons, List.sum_cons]; omega
theorem sum_eq {f g : Int → Nat} : ∀ {cl : List Int}, (∀ c ∈ cl, f c ≤ g c) → (cl.map g).sum ≤ (cl.map f).sum → ∀ c ∈ cl, f c = g c
  | [], _, _ => fun c hc => by cases hc
  | x :: cl, h, hs => by
    have h1 := h x (List.mem_cons_self ..)
    have h2 := sum_le (f := f) (g := g) (cl := cl) fun x hx => h x (List.mem_cons_of_mem _ hx)
    simp only [List.map_cons, List.sum_cons] at hs
    intro c hc
    rcases List.mem_cons.1 hc with rfl | hc
    · omega
    · exact sum_eq (f := f) (g := g) (cl := cl) (fun x hx => h x (List.mem_cons_of_mem _ hx)) (by omega) c hc
theorem sum_add {f g : Int → Nat} (cl : List Int) : (cl.map fun c => f c + g c).sum = (cl.map f).sum + (cl.map g).sum := by
  induction cl with
  | nil => rfl
  | cons c cl ih => simp only [List.map_cons, List.sum_cons, ih]; omega
theorem one_le {s : Int} {cl : List Int} (h : s ∈ cl) : 1 ≤ (cl.map fun c => if c = s then 1 else 0).sum := by
  induction cl with
  | nil => cases h
  | cons c cl ih =>
    simp only [List.map_cons, List.sum_cons]
    rcases List.mem_cons.1 h with rfl | h
    · rw [if_pos rfl]; omega
    · have := ih h; omega
section
variable {n : Nat} {cl : List Int} (hc : chkN n cl = 0)
include hc
theorem ok_le {s : Int} (h : OkS n cl s) : 1 ≤ s ∧ s ≤ 63 := ⟨h.1, Int.le_trans h.2.1 (all_in (n := (n : Int)) ⟨(chkN_ok hc).1, (chkN_ok hc).2.1⟩).2⟩
theorem ok_of {s : Int} (h : s ∈ cl) : OkS n cl s := by
  obtain ⟨h1, h6, hlen, hin⟩ := chkN_ok hc
  have h63 := hin s h
  refine ⟨h63.1, ?_, by unfold hasS; rw [Bool.or_eq_true]; left; rw [List.any_eq_true]; exact ⟨s, h, by simp⟩⟩
  obtain ⟨k, hk⟩ := List.getElem?_of_mem h
  have h4 : (List.range cl.length).all (cladeP (allS n) cl) = true := by
    have h := hc
    unfold chkN at h
    repeat (split at h; · cases h)
    rename_i h3 _ _
    simpa using h3
  exact (clade_le h4 hk).2
/-- What is known of a first part. -/
theorem first_part {s : Int} (h : OkS n cl s) (h1 : singF s = false) : s ∈ cl ∧ OkS n cl (splitF cl s) ∧ OkS n cl (s - splitF cl s) ∧ 1 ≤ splitF cl s ∧ splitF cl s < s ∧ subN (splitF cl s).toNat s.toNat = true ∧ lowS (splitF cl s) s = true := by
  have hle := ok_le hc h
  have hin : s ∈ cl := by
    have h4 := h.2.2
    unfold hasS at h4
    rw [h1, Bool.or_false, List.any_eq_true] at h4
    obtain ⟨c, hc2, e⟩ := h4
    have : c = s := by simpa using e
    exact this ▸ hc2
  have hz : (andI s (IntKind.i64.wrap (s - 1)) == 0) = false := by
    unfold singF at h1
    rw [decide_eq_true (show s > 0 by omega), Bool.true_and] at h1
    exact h1
  obtain ⟨o1, o2, o3, o4⟩ := ok_parts hc h hz
  obtain ⟨a1, a2, a3⟩ := split_spec (chkN_split hc s hin) (Nat.le_refl 1)
  have a3 : splitP cl s (splitF cl s) = true := a3
  unfold splitP at a3
  simp only [Bool.and_eq_true] at a3
  refine ⟨hin, o1, o2, o3, o4, ?_, a3.1.1.2⟩
  rw [← sub_I (by omega) (by omega)]
  exact a3.1.1.1
theorem cnt_low : ∀ (m : Nat) (s : Int), s.toNat ≤ m → OkS n cl s → popF s ≤ wN (inS s) cl + 1
  | 0, s, hm, h => by have := h.1; omega
  | m + 1, s, hm, h => by
    have hle := ok_le hc h
    cases h1 : singF s with
    | true =>
      have := (low_ok (s := s.toNat) (by omega) (by omega)).2.2.2
      rw [show ((s.toNat : Nat) : Int) = s by omega] at this
      have := (this h1).2
      omega
    | false =>
      obtain ⟨hin, o1, o2, o3, o4, o5, _⟩ := first_part hc h h1
      have i1 := cnt_low m _ (by omega) o1
      have i2 := cnt_low m _ (by omega) o2
      obtain ⟨q1, q2, q3⟩ := pair_ok (by omega) (by omega) o5
      rw [show (((splitF cl s).toNat : Nat) : Int) = splitF cl s by omega, show ((s.toNat - (splitF cl s).toNat : Nat) : Int) = s - splitF cl s by omega, show ((s.toNat : Nat) : Int) = s by omega] at q3
      have hone := one_le hin
      have hpt : ∀ c ∈ cl, ((if c = s then 1 else 0) + ((if inS (splitF cl s) c then 1 else 0) + (if inS (s - splitF cl s) c then 1 else 0)) : Nat) ≤ if inS s c then 1 else 0 := fun c hcm => by
        have hcle := (chkN_ok hc).2.2.2 c hcm
        unfold inS
        by_cases e : c = s
        · subst e
          rw [if_pos rfl, if_pos (sub_refl _), if_neg, if_neg]
          · omega
          · intro g; have := sub_le g; omega
          · intro g; have := sub_le g; omega
        · rw [if_neg e]
          by_cases g1 : subN c.toNat (splitF cl s).toNat = true
          · rw [if_pos g1, if_pos (sub_trans g1 o5), if_neg]
            · omega
            · intro g2
              have g2 : subN c.toNat (s.toNat - (splitF cl s).toNat) = true := by rw [← show (s - splitF cl s).toNat = s.toNat - (splitF cl s).toNat by omega]; exact g2
              have := sub_both g1 g2 q1
              omega
          · rw [if_neg g1]
            by_cases g2 : subN c.toNat (s - splitF cl s).toNat = true
            · rw [if_pos g2, if_pos (sub_trans (by rw [show s.toNat - (splitF cl s).toNat = (s - splitF cl s).toNat by omega] at q2; exact g2) (by rw [show (s - splitF cl s).toNat = s.toNat - (splitF cl s).toNat by omega]; exact q2))]
              omega
            · rw [if_neg g2]; omega
      have hs := sum_le hpt
      rw [sum_add, sum_add] at hs
      unfold wN at *
      omega
/-- As many clades within it as can be. -/
def Full (n : Nat) (cl : List Int) (s : Int) : Prop := OkS n cl s ∧ wN (inS s) cl + 1 = popF s
theorem full_all : Full n cl (allS n) := by
  obtain ⟨h1, h6, hlen, hin⟩ := chkN_ok hc
  obtain ⟨g1, g2⟩ := all_sub (n := n) (by omega) (by omega)
  refine ⟨ok_all hc, ?_⟩
  have : wN (inS (allS n)) cl = cl.length := by
    unfold wN
    have : ∀ l : List Int, (∀ c ∈ l, c ∈ cl) → (l.map fun c => if inS (allS n) c then 1 else 0).sum = l.length := by
      intro l
      induction l with
      | nil => intro _; rfl
      | cons c l ih =>
        intro hl
        have hcm := hl c (List.mem_cons_self ..)
        have hle := hin c hcm
        have := (ok_of hc hcm).2.1
        simp only [List.map_cons, List.sum_cons, List.length_cons, ih fun x hx => hl x (List.mem_cons_of_mem _ hx)]
        have hs : inS (allS n) c = true := g1 c.toNat (by omega) (by omega)
        rw [if_pos hs]; omega
    exact this cl fun _ h => h
  omega
theorem full_part {s : Int} (h : Full n cl s) (h1 : singF s = false) : Full n cl (splitF cl s) ∧ Full n cl (s - splitF cl s) ∧ ∀ c ∈ cl, inS s c = true → c = s ∨ inS (splitF cl s) c = true ∨ inS (s - splitF cl s) c = true := by
  have hle := ok_le hc h.1
  obtain ⟨hin, o1, o2, o3, o4, o5, _⟩ := first_part hc h.1 h1
  obtain ⟨q1, q2, q3⟩ := pair_ok (by omega) (by omega) o5
  rw [show (((splitF cl s).toNat : Nat) : Int) = splitF cl s by omega, show ((s.toNat - (splitF cl s).toNat : Nat) : Int) = s - splitF cl s by omega, show ((s.toNat : Nat) : Int) = s by omega] at q3
  have hone := one_le hin
  have i1 := cnt_low hc _ _ (Nat.le_refl _) o1
  have i2 := cnt_low hc _ _ (Nat.le_refl _) o2
  have hpt : ∀ c ∈ cl, ((if c = s then 1 else 0) + ((if inS (splitF cl s) c then 1 else 0) + (if inS (s - splitF cl s) c then 1 else 0)) : Nat) ≤ if inS s c then 1 else 0 := fun c hcm => by
    have hcle := (chkN_ok hc).2.2.2 c hcm
    unfold inS
    by_cases e : c = s
    · subst e
      rw [if_pos rfl, if_pos (sub_refl _), if_neg, if_neg]
      · omega
      · intro g; have := sub_le g; omega
      · intro g; have := sub_le g; omega
    · rw [if_neg e]
      by_cases g1 : subN c.toNat (splitF cl s).toNat = true
      · rw [if_pos g1, if_pos (sub_trans g1 o5), if_neg]
        · omega
        · intro g2
          have g2 : subN c.toNat (s.toNat - (splitF cl s).toNat) = true := by rw [← show (s - splitF cl s).toNat = s.toNat - (splitF cl s).toNat by omega]; exact g2
          have := sub_both g1 g2 q1
          omega
      · rw [if_neg g1]
        by_cases g2 : subN c.toNat (s - splitF cl s).toNat = true
        · rw [if_pos g2, if_pos (sub_trans (by rw [show s.toNat - (splitF cl s).toNat = (s - splitF cl s).toNat by omega] at q2; exact g2) (by rw [show (s - splitF cl s).toNat = s.toNat - (splitF cl s).toNat by omega]; exact q2))]
          omega
        · rw [if_neg g2]; omega
  have hs := sum_le hpt
  rw [sum_add, sum_add] at hs
  have hf := h.2
  refine ⟨⟨o1, ?_⟩, ⟨o2, ?_⟩, fun c hcm hsc => ?_⟩
  · unfold wN at *; omega
  · unfold wN at *; omega
  · have he := sum_eq hpt (by rw [sum_add, sum_add]; unfold wN at *; omega) c hcm
    by_cases e : c = s
    · exact .inl e
    · rw [if_neg e, if_pos hsc] at he
      by_cases g1 : inS (splitF cl s) c = true
      · exact .inr (.inl g1)
      · rw [if_neg g1] at he
        by_cases g2 : inS (s - splitF cl s) c = true
        · exact .inr (.inr g2)
        · rw [if_neg g2] at he; omega
theorem full_in : ∀ (m : Nat) (s : Int), s.toNat ≤ m → Full n cl s → ∀ c ∈ cl, inS s c = true → Full n cl c
  | 0, s, hm, h => by have := h.1.1; omega
  | m + 1, s, hm, h => fun c hcm hsc => by
    have hle := ok_le hc h.1
    have hcle := (chkN_ok hc).2.2.2 c hcm
    by_cases e : c = s
    · exact e ▸ h
    · cases h1 : singF s with
      | true =>
        have := (low_ok (s := s.toNat) (by omega) (by omega)).2.2.2
        rw [show ((s.toNat : Nat) : Int) = s by omega] at this
        have hp := (this h1).2
        have hf := h.2
        have hz : ∀ l : List Int, c ∈ l → 1 ≤ wN (inS s) l := by
          intro l
          induction l with
          | nil => intro h; cases h
          | cons x l ih =>
            intro hx
            unfold wN at *
            simp only [List.map_cons, List.sum_cons]
            rcases List.mem_cons.1 hx with rfl | hx
            · rw [if_pos hsc]; omega
            · have := ih hx; omega
        have := hz cl hcm
        omega
      | false =>
        obtain ⟨f1, f2, f3⟩ := full_part hc h h1
        obtain ⟨_, o1, o2, o3, o4, _, _⟩ := first_part hc h.1 h1
        rcases f3 c hcm hsc with e' | g | g
        · exact absurd e' e
        · exact full_in m _ (by omega) f1 c hcm g
        · exact full_in m _ (by omega) f2 c hcm g
theorem full_of {c : Int} (h : c ∈ cl) : Full n cl c := by
  obtain ⟨h1, h6, hlen, hin⟩ := chkN_ok hc
  have hle := hin c h
  exact full_in hc _ _ (Nat.le_refl _) (full_all hc) c h ((all_sub (n := n) (by omega) (by omega)).1 c.toNat (by omega) (by have := (ok_of hc h).2.1; omega))
theorem split_uniq {s a : Int} (hs : s ∈ cl) (h1 : singF s = false) (ha : 1 ≤ a ∧ a < s) (h : splitP cl s a = true) : a = splitF cl s := by
  have hle := (chkN_ok hc).2.2.2 s hs
  obtain ⟨_, _, f3⟩ := full_part hc (full_of hc hs) h1
  obtain ⟨_, o1, o2, o3, o4, o5, o6⟩ := first_part hc (ok_of hc hs) h1
  obtain ⟨q1, q2, q3⟩ := pair_ok (by omega) (by omega) o5
  generalize splitF cl s = b at *
  unfold splitP at h
  simp only [Bool.and_eq_true] at h
  obtain ⟨⟨⟨k1, k2⟩, k3⟩, k4⟩ := h
  rw [sub_I (by omega) (by omega)] at k1
  obtain ⟨p1, p2, p3⟩ := pair_ok (by omega) (by omega) k1
  have la := low_ok (s := a.toNat) (by omega) (by omega)
  have lb := low_ok (s := b.toNat) (by omega) (by omega)
  have ls := low_ok (s := s.toNat) (by omega) (by omega)
  rw [show ((a.toNat : Nat) : Int) = a by omega] at la
  rw [show ((b.toNat : Nat) : Int) = b by omega] at lb
  rw [show ((s.toNat : Nat) : Int) = s by omega] at ls
  unfold lowS at k2 o6
  rw [beq_iff_eq, la.2.2.1, ls.2.2.1] at k2
  rw [beq_iff_eq, lb.2.2.1, ls.2.2.1] at o6
  have eab : lowN a.toNat = lowN b.toNat := by omega
  have esb : (s - b).toNat = s.toNat - b.toNat := by omega
  have esa : (s - a).toNat = s.toNat - a.toNat := by omega
  -- a lies within b
  have hab : subN a.toNat b.toNat = true := by
    cases hsa : singF a with
    | true =>
      have := (la.2.2.2 hsa).1
      rw [← this, eab]; exact lb.1
    | false =>
      unfold hasS at k3
      rw [hsa, Bool.or_false, List.any_eq_true] at k3
      obtain ⟨c, hcm, e⟩ := k3
      have : c = a := by simpa using e
      subst this
      rcases f3 c hcm k1 with e | g | g
      · omega
      · exact g
      · exfalso
        have g : subN c.toNat (s.toNat - b.toNat) = true := by rw [← esb]; exact g
        have := sub_both (sub_trans (eab ▸ la.1 : subN (lowN b.toNat) c.toNat = true) g) lb.1 (by rw [Nat.and_comm]; exact q1)
        have := la.2.1
        omega
  have hle2 := sub_le hab
  -- what is left of b lies within what is left of a
  have hbb : subN (s.toNat - b.toNat) (s.toNat - a.toNat) = true := by
    by_cases e : (s.toNat - b.toNat) < 64 ∧ (s.toNat - a.toNat) < 64
    · have : ∀ x y z : Nat, x < 64 → y < 64 → z < 64 → subN x z = true → subN y z = true → subN x y = true → subN (z - y) (z - x) = true := by
        intro x y z _ _ hz hx hy hxy
        have e1 : ∀ u v : Nat, v < 64 → subN u v = true → v - u = v ^^^ u := by
          intro u v hv hu
          have hu64 : u < 64 := Nat.lt_of_le_of_lt (sub_le hu) hv
          have ht : ((List.range 64).all fun v => (List.range 64).all fun u => !subN u v || (v - u == v ^^^ u)) = true := by kernel_rfl
          have h0 := List.all_eq_true.1 ht v (List.mem_range.2 hv)
          have h0 := List.all_eq_true.1 h0 u (List.mem_range.2 hu64)
          rw [hu] at h0
          simpa using h0
        rw [e1 _ _ hz hy, e1 _ _ hz hx]
        unfold subN at *
        rw [beq_iff_eq] at *
        apply Nat.eq_of_testBit_eq
        intro i
        have t1 := congrArg (fun q => Nat.testBit q i) hx
        have t2 := congrArg (fun q => Nat.testBit q i) hy
        have t3 := congrArg (fun q => Nat.testBit q i) hxy
        simp only [Nat.testBit_and, Nat.testBit_xor] at *
        revert t1 t2 t3
        cases x.testBit i <;> cases y.testBit i <;> cases z.testBit i <;> simp
      exact this a.toNat b.toNat s.toNat (by omega) (by omega) (by omega) k1 o5 hab
    · omega
  have hpos : 1 ≤ s.toNat - b.toNat := by omega
  have hba : subN (s.toNat - a.toNat) (s.toNat - b.toNat) = true := by
    cases hsa : singF (s - a) with
    | true =>
      have l1 := low_ok (s := s.toNat - a.toNat) (by omega) (by omega)
      have l2 := low_ok (s := s.toNat - b.toNat) (by omega) (by omega)
      rw [show ((s.toNat - a.toNat : Nat) : Int) = s - a by omega] at l1
      have l3 := (l1.2.2.2 hsa).2
      -- one witness: what lies within it is it
      have ht : ((List.range 64).all fun v => (List.range 64).all fun u => !subN u v || u == 0 || !(popF (v : Int) == 1) || (v == u)) = true := by kernel_rfl
      have h0 := List.all_eq_true.1 ht (s.toNat - a.toNat) (List.mem_range.2 (by omega))
      have h0 := List.all_eq_true.1 h0 (s.toNat - b.toNat) (List.mem_range.2 (by omega))
      rw [hbb, show ((s.toNat - a.toNat : Nat) : Int) = s - a by omega, l3, show ((s.toNat - b.toNat) == 0) = false by simp; omega] at h0
      have h0 : s.toNat - a.toNat = s.toNat - b.toNat := by simpa using h0
      rw [h0]; exact sub_refl _
    | false =>
      unfold hasS at k4
      rw [hsa, Bool.or_false, List.any_eq_true] at k4
      obtain ⟨c, hcm, e⟩ := k4
      have : c = s - a := by simpa using e
      subst this
      rcases f3 _ hcm (by unfold inS; rw [esa]; exact p2) with e | g | g
      · omega
      · exfalso
        unfold inS at g
        rw [esa] at g
        have := sub_both (sub_trans hbb g) (sub_refl (s.toNat - b.toNat)) q1
        omega
      · unfold inS at g
        rw [esa, esb] at g; exact g
  have := sub_anti hbb hba
  omega
omit hc in
theorem mem_subT {s a : Int} (h0 : 0 ≤ s) : a ∈ subT s.toNat → (1 ≤ a ∧ a < s) ∧ andI a s = a := fun h => by
  unfold subT at h
  obtain ⟨h1, h2⟩ := List.mem_filter.1 h
  obtain ⟨k, hk, rfl⟩ := List.mem_map.1 h1
  have := List.mem_range'_1.1 hk
  rw [show ((s.toNat : Nat) : Int) = s by omega] at h2
  exact ⟨by omega, eq_of_beq h2⟩
theorem parts_eq {s : Int} (hs : s ∈ cl) (h1 : singF s = false) : partA cl s = splitF cl s ∧ partB cl s = s - splitF cl s ∧ (partF cl s).isSome = true := by
  have hle := (chkN_ok hc).2.2.2 s hs
  have hne := chkN_split hc s hs
  have hsome := part_some (cl := cl) hle
  have hsm : (partF cl s).isSome = true := by rw [hsome]; simpa using hne
  obtain ⟨a, hpa⟩ := Option.isSome_iff_exists.1 hsm
  have htab := List.all_eq_true.1 sub_tab s.toNat (List.mem_range.2 (by omega))
  rw [Bool.and_eq_true, decide_eq_true_eq, show ((s.toNat : Nat) : Int) = s by omega] at htab
  have hf := hpa
  unfold partF at hf
  rw [partR_find, htab.1] at hf
  have hp := List.find?_some hf
  have hm := List.mem_reverse.1 (List.mem_of_find?_eq_some hf)
  obtain ⟨hr, ha⟩ := mem_subT (s := s) (by omega) hm
  have hl : lessI s a = s - a := by simpa using List.all_eq_true.1 htab.2 a hm
  rw [part_eq ha hl] at hp
  have := split_uniq hc hs h1 hr hp
  unfold partA partB
  rw [hpa]
  exact ⟨this, by rw [← this]; exact hl, rfl⟩
end
end Go.Proofs.YtkpmnnflikkhmaaDoor
end
section
namespace Go.Proofs.YtkpmnnflikkhmaaDoor
open Go Go.Kn Go.Proofs
def ImO (I : HMap) (r : Nat) (o : Obj) : Prop := I r = some o
theorem ImO.mono {I I' : HMap} {r : Nat} {o : Obj} (h : ImO I r o) (hI : HLe I I') : ImO I' r o := hI _ _ h
def MapQ (st cs : List Int) (b : Int) : Value → HMap → Go.Kn.Loc → Prop := fun v I' L => L = [] ∧ ∃ r m, v = .map (some r) ∧ ImO I' r (mapO eiv eiv m) ∧ MapR st cs b m
theorem st_fold_mem : ∀ (ns out : List Int) (x : Int), x ∈ ns.foldl stS out ↔ x ∈ out ∨ (x ∈ ns ∧ x ≠ 8589934592)
  | [], out, x => by simp
  | n :: ns, out, x => by
    rw [List.foldl_cons, st_fold_mem ns]
    have : x ∈ stS out n ↔ x ∈ out ∨ (x = n ∧ n ≠ 8589934592) := by
      unfold stS
      split
      · rename_i h
        rw [Bool.or_eq_true, List.any_eq_true] at h
        constructor
        · exact fun h => .inl h
        · rintro (h2 | ⟨rfl, h2⟩)
          · exact h2
          · rcases h with h | ⟨y, hy, e⟩
            · exact absurd (eq_of_beq h) h2
            · rw [← eq_of_beq e]; exact hy
      · rename_i h
        rw [Bool.or_eq_true, not_or] at h
        rw [List.mem_append, List.mem_singleton]
        constructor
        · rintro (h2 | rfl)
          · exact .inl h2
          · exact .inr ⟨rfl, fun e => h.1 (by rw [e]; rfl)⟩
        · rintro (h2 | ⟨rfl, _⟩)
          · exact .inl h2
          · exact .inr rfl
    rw [this, List.mem_cons]
    constructor
    · rintro ((h | ⟨rfl, h⟩) | ⟨h, h2⟩)
      · exact .inl h
      · exact .inr ⟨.inl rfl, h⟩
      · exact .inr ⟨.inr h, h2⟩
    · rintro (h | ⟨rfl | h, h2⟩)
      · exact .inl (.inl h)
      · exact .inl (.inr ⟨rfl, h2⟩)
      · exact .inr ⟨h, h2⟩
theorem st_fold_nd : ∀ (ns out : List Int), out.Nodup → (ns.foldl stS out).Nodup
  | [], _, h => h
  | n :: ns, out, h => by
    rw [List.foldl_cons]
    refine st_fold_nd ns _ ?_
    unfold stS
    split
    · exact h
    · rename_i h2
      rw [Bool.or_eq_true, not_or, List.any_eq_true] at h2
      refine List.nodup_append.2 ⟨h, by simp, fun a ha b hb e => ?_⟩
      simp at hb
      subst hb; subst e
      exact h2.2 ⟨a, ha, by simp⟩
theorem st_nd (rows : List (List Int)) (l : Nat) : (statesF rows l).Nodup := st_fold_nd _ _ (by simp)
theorem st_mem {rows : List (List Int)} {l : Nat} {x : Int} : x ∈ statesF rows l ↔ x = 0 ∨ ((∃ r ∈ rows, r.getD l 0 = x) ∧ x ≠ 8589934592) := by
  unfold statesF
  rw [st_fold_mem]
  simp
/-- The map of states. -/
def stM (rows : List (List Int)) (l : Nat) : List (Int × Int) := (statesF rows l).map fun x => (x, 0)
theorem stM_key (rows : List (List Int)) (l : Nat) : (stM rows l).map (·.1) = statesF rows l := by unfold stM; simp [Function.comp_def]
theorem stM_at {rows : List (List Int)} {l i : Nat} {p : Int × Int} (h : (stM rows l)[i]? = some p) : p.1 ∈ statesF rows l ∧ p.2 = 0 := by
  unfold stM at h
  rw [List.getElem?_map] at h
  obtain ⟨x, hx, rfl⟩ := Option.map_eq_some_iff.1 h
  exact ⟨List.mem_of_getElem? hx, rfl⟩
def visK (rows : List (List Int)) (l : Nat) (seen : List Nat) : List Int := (visO (stM rows l) seen).map (·.1)
theorem visK_snoc {rows : List (List Int)} {l i : Nat} {seen : List Nat} {p : Int × Int} (h : (stM rows l)[i]? = some p) : visK rows l (seen ++ [i]) = visK rows l seen ++ [p.1] := by unfold visK; rw [vis_snoc h, List.map_append]; rfl
theorem visK_new {rows : List (List Int)} {l i : Nat} {seen : List Nat} {p : Int × Int} (h : (stM rows l)[i]? = some p) (hs : i ∉ seen) : p.1 ∉ visK rows l seen := fun hm => by
  obtain ⟨q, hq, e⟩ := List.mem_map.1 hm
  obtain ⟨j, hj, hqj⟩ := vis_mem.1 hq
  have hnd := st_nd rows l
  rw [← stM_key] at hnd
  have h1 : ((stM rows l).map (·.1))[i]? = some p.1 := by rw [List.getElem?_map, h]; rfl
  have h2 : ((stM rows l).map (·.1))[j]? = some p.1 := by rw [List.getElem?_map, hqj, ← e]; rfl
  obtain ⟨g1, e1⟩ := List.getElem?_eq_some_iff.1 h1
  obtain ⟨g2, e2⟩ := List.getElem?_eq_some_iff.1 h2
  have := (List.getElem_inj hnd).1 (show ((stM rows l).map (·.1))[i] = ((stM rows l).map (·.1))[j] by rw [e1, e2])
  exact hs (this ▸ hj)
theorem visK_old {rows : List (List Int)} {l : Nat} {seen : List Nat} {x : Int} (h : x ∈ visK rows l seen) : x ∈ statesF rows l := by
  obtain ⟨q, hq, rfl⟩ := List.mem_map.1 h
  obtain ⟨j, _, hqj⟩ := vis_mem.1 hq
  exact (stM_at hqj).1
theorem visK_all {rows : List (List Int)} {l : Nat} {seen : List Nat} (hnd : seen.Nodup) (hlt : ∀ i ∈ seen, i < (stM rows l).length) (hall : ∀ i (p : Int × Int), (stM rows l)[i]? = some p → i ∈ seen) (x : Int) : x ∈ visK rows l seen ↔ x ∈ statesF rows l := by
  have := (vis_all hnd hlt hall).map (fun p => p.1)
  rw [stM_key] at this
  exact this.mem_iff
/-! ### A single witness -/
def leafM (rows : List (List Int)) (l : Nat) (u : Int) (seen : List Nat) (x : Int) : Option Int := if x ∈ visK rows l seen ∧ leafG u x = 0 then some 0 else none
theorem leafM_nil {rows : List (List Int)} {l : Nat} {u : Int} : MapF [] (leafM rows l u []) := MapF.nil.congr fun x => by unfold leafM visK visO; simp
theorem leafM_yes {rows : List (List Int)} {l : Nat} {u : Int} {seen : List Nat} {i : Nat} {p : Int × Int} {m : List (Int × Int)} (h : MapF m (leafM rows l u seen)) (hp : (stM rows l)[i]? = some p) (hg : leafG u p.1 = 0) : MapF (mset m p.1 0) (leafM rows l u (seen ++ [i])) :=
  (h.set p.1 0).congr fun x => by
    unfold leafM
    rw [visK_snoc hp]; simp only [List.mem_append, List.mem_singleton]
    by_cases e : p.1 = x
    · subst e
      rw [if_pos rfl, if_pos ⟨.inr rfl, hg⟩]
    · rw [if_neg e]
      by_cases g : x ∈ visK rows l seen ∧ leafG u x = 0
      · rw [if_pos g, if_pos ⟨.inl g.1, g.2⟩]
      · rw [if_neg g, if_neg]
        rintro ⟨h1 | h1, h2⟩
        · exact g ⟨h1, h2⟩
        · exact e h1.symm
theorem leafM_no {rows : List (List Int)} {l : Nat} {u : Int} {seen : List Nat} {i : Nat} {p : Int × Int} {m : List (Int × Int)} (h : MapF m (leafM rows l u seen)) (hp : (stM rows l)[i]? = some p) (hg : leafG u p.1 ≠ 0) : MapF m (leafM rows l u (seen ++ [i])) :=
  h.congr fun x => by
    unfold leafM
    rw [visK_snoc hp]; simp only [List.mem_append, List.mem_singleton]
    by_cases g : x ∈ visK rows l seen ∧ leafG u x = 0
    · rw [if_pos g, if_pos ⟨.inl g.1, g.2⟩]
    · rw [if_neg g, if_neg]
      rintro ⟨h1 | h1, h2⟩
      · exact g ⟨h1, h2⟩
      · subst h1; exact hg h2
theorem leaf_g0 {u x : Int} (h : (u == x || u == 8589934592) = true) : leafG u x = 0 := by
  unfold leafG
  rw [if_neg]
  rw [Bool.or_eq_true, beq_iff_eq, beq_iff_eq] at h
  simp only [Bool.and_eq_true, decide_eq_true_eq]
  rintro ⟨h1, h2⟩
  rcases h with h | h
  · exact h2 h
  · exact h1 h
theorem leaf_g1 {u x : Int} (h : (u == x || u == 8589934592) = false) : leafG u x = 1048576 ∧ leafG u x ≠ 0 := by
  have : leafG u x = 1048576 := by
    unfold leafG
    rw [if_pos]
    rw [Bool.or_eq_false_iff, beq_eq_false_iff_ne, beq_eq_false_iff_ne] at h
    simp only [Bool.and_eq_true, decide_eq_true_eq]
    exact ⟨h.2, h.1⟩
  exact ⟨this, by omega⟩
theorem leaf_end {rows : List (List Int)} {l w : Nat} {v : List Int} {seen : List Nat} {m : List (Int × Int)} {b : Int} (hb : 0 ≤ b) (hv : rows[w]? = some v) (h : MapF m (leafM rows l (v.getD l 0) seen)) (hnd : seen.Nodup) (hlt : ∀ i ∈ seen, i < (stM rows l).length) (hall : ∀ i (p : Int × Int), (stM rows l)[i]? = some p → i ∈ seen) :
    MapR (statesF rows l) ((statesF rows l).map (leafG ((rows.getD w []).getD l 0))) b m := by
  rw [getD_of hv]
  have hgv : ∀ x, leafG (v.getD l 0) x = 0 ∨ leafG (v.getD l 0) x = 1048576 := fun x => by
    cases e : (v.getD l 0 == x || v.getD l 0 == 8589934592) with
    | true => exact .inl (leaf_g0 e)
    | false => exact .inr (leaf_g1 e).1
  refine ⟨by rw [List.length_map], h.nd, fun i x c hx hcx => ?_, fun p hp => ?_, ?_, fun c hcm => ?_⟩
  · rw [List.getElem?_map, hx] at hcx
    simp only [Option.map_some, Option.some.injEq] at hcx
    subst hcx
    rw [h.get]
    unfold leafM
    have hin := (visK_all hnd hlt hall x).2 (List.mem_of_getElem? hx)
    rcases hgv x with e | e
    · rw [if_pos ⟨hin, e⟩, e, if_pos (by omega)]
    · rw [if_neg (fun g => by omega), e, if_neg (by omega)]
  · have := h.mem hp
    unfold leafM at this
    split at this
    · rename_i g; exact visK_old g.1
    · cases this
  · by_cases e : v.getD l 0 = 8589934592
    · refine ⟨leafG (v.getD l 0) 0, List.mem_map.2 ⟨0, st_mem.2 (.inl rfl), rfl⟩, ?_⟩
      rw [leaf_g0 (by rw [e]; simp)]; omega
    · refine ⟨leafG (v.getD l 0) (v.getD l 0), List.mem_map.2 ⟨v.getD l 0, st_mem.2 (.inr ⟨⟨v, List.mem_of_getElem? hv, rfl⟩, e⟩), rfl⟩, ?_⟩
      rw [leaf_g0 (by simp)]; omega
  · obtain ⟨x, _, rfl⟩ := List.mem_map.1 hcm
    rcases hgv x with e | e <;> rw [e] <;> omega
/-! ### Two parts -/
def totF (st ca cb : List Int) (j : Nat) (x : Int) : Int := (if 1 ≤ j then belowF st ca x else 0) + (if 2 ≤ j then belowF st cb x else 0)
def gF (st ca cb : List Int) (j : Nat) (x : Int) : Option Int := if x ∈ st ∧ 1 ≤ j then some (totF st ca cb j x) else none
def hF (rows : List (List Int)) (l : Nat) (ca cb : List Int) (j : Nat) (seen : List Nat) (x : Int) : Option Int := if x ∈ visK rows l seen then some (totF (statesF rows l) ca cb (j + 1) x) else gF (statesF rows l) ca cb j x
theorem gF_0 {st ca cb : List Int} : MapF [] (gF st ca cb 0) := MapF.nil.congr fun x => by unfold gF; rw [if_neg (fun h => by omega)]
theorem hF_0 {rows : List (List Int)} {l j : Nat} {ca cb : List Int} {m : List (Int × Int)} (h : MapF m (gF (statesF rows l) ca cb j)) : MapF m (hF rows l ca cb j []) := h.congr fun x => by unfold hF visK visO; simp
theorem hF_end {rows : List (List Int)} {l j : Nat} {ca cb : List Int} {m : List (Int × Int)} {seen : List Nat} (h : MapF m (hF rows l ca cb j seen)) (hnd : seen.Nodup) (hlt : ∀ i ∈ seen, i < (stM rows l).length) (hall : ∀ i (p : Int × Int), (stM rows l)[i]? = some p → i ∈ seen) : MapF m (gF (statesF rows l) ca cb (j + 1)) :=
  h.congr fun x => by
    unfold hF
    by_cases g : x ∈ visK rows l seen
    · rw [if_pos g]; unfold gF; rw [if_pos ⟨visK_old g, by omega⟩]
    · have g' : x ∉ statesF rows l := fun e => g ((visK_all hnd hlt hall x).2 e)
      rw [if_neg g]; unfold gF; rw [if_neg (fun e => g' e.1), if_neg (fun e => g' e.1)]
theorem hF_at {rows : List (List Int)} {l j : Nat} {ca cb : List Int} {m : List (Int × Int)} {seen : List Nat} {i : Nat} {p : Int × Int} (h : MapF m (hF rows l ca cb j seen)) (hp : (stM rows l)[i]? = some p) (hs : i ∉ seen) : (mget m p.1).getD 0 = totF (statesF rows l) ca cb j p.1 := by
  rw [h.get]
  unfold hF
  rw [if_neg (visK_new hp hs)]
  unfold gF
  by_cases e : 1 ≤ j
  · rw [if_pos ⟨(stM_at hp).1, e⟩]; rfl
  · rw [if_neg (fun g => e g.2)]
    unfold totF
    rw [if_neg e, if_neg (by omega)]; rfl
theorem tot_step {st ca cb : List Int} {j : Nat} {x : Int} (hj : j < 2) : totF st ca cb j x + belowF st (if j = 0 then ca else cb) x = totF st ca cb (j + 1) x := by
  unfold totF
  rcases (show j = 0 ∨ j = 1 by omega) with e | e <;> subst e <;> simp
theorem hF_set {rows : List (List Int)} {l j : Nat} {ca cb : List Int} {m : List (Int × Int)} {seen : List Nat} {i : Nat} {p : Int × Int} (h : MapF m (hF rows l ca cb j seen)) (hp : (stM rows l)[i]? = some p) : MapF (mset m p.1 (totF (statesF rows l) ca cb (j + 1) p.1)) (hF rows l ca cb j (seen ++ [i])) :=
  (h.set p.1 _).congr fun x => by
    unfold hF
    rw [visK_snoc hp]; simp only [List.mem_append, List.mem_singleton]
    by_cases e : p.1 = x
    · subst e
      rw [if_pos rfl, if_pos (.inr rfl)]
    · rw [if_neg e]
      by_cases g : x ∈ visK rows l seen
      · rw [if_pos g, if_pos (.inl g)]
      · rw [if_neg g, if_neg]
        rintro (h1 | h1)
        · exact g h1
        · exact e h1.symm
theorem two_end {st ca cb : List Int} {ba bb b : Int} {ma mb m : List (Int × Int)} (hne : st ≠ []) (hA : MapR st ca ba ma) (hB : MapR st cb bb mb) (h1 : ba ≤ 1000) (h2 : bb ≤ 1000) (hb : ba + bb + 8 ≤ b) (h : MapF m (gF st ca cb 2)) : MapR st (st.map (twoG st ca cb)) b m := by
  have ha : ∀ x, 0 ≤ belowF st ca x ∧ belowF st ca x ≤ ba + 4 := fun x => by
    have := below_eq hA h1 (.refl _) x
    exact ⟨this.2.1, this.2.2.1⟩
  have hbb : ∀ x, 0 ≤ belowF st cb x ∧ belowF st cb x ≤ bb + 4 := fun x => by
    have := below_eq hB h2 (.refl _) x
    exact ⟨this.2.1, this.2.2.1⟩
  have hlt : ∀ x, 0 ≤ twoG st ca cb x ∧ twoG st ca cb x < 1048576 ∧ twoG st ca cb x ≤ b := fun x => by
    have := ha x; have := hbb x
    unfold twoG; omega
  refine ⟨by rw [List.length_map], h.nd, fun i x c hx hcx => ?_, fun p hp => ?_, ?_, fun c hcm => ?_⟩
  · rw [List.getElem?_map, hx] at hcx
    simp only [Option.map_some, Option.some.injEq] at hcx
    subst hcx
    rw [h.get, if_pos (hlt x).2.1]
    unfold gF
    rw [if_pos ⟨List.mem_of_getElem? hx, by omega⟩]
    unfold totF twoG; simp
  · have := h.mem hp
    unfold gF at this
    split at this
    · rename_i g; exact g.1
    · cases this
  · obtain ⟨x, hx⟩ := List.exists_mem_of_ne_nil st hne
    exact ⟨_, List.mem_map.2 ⟨x, hx, rfl⟩, (hlt x).2.1⟩
  · obtain ⟨x, _, rfl⟩ := List.mem_map.1 hcm
    have := hlt x
    exact ⟨this.1, fun _ => this.2.2, by omega⟩
/-- The least of all entries. -/
theorem ent_least {st cs : List Int} {b : Int} {m vs : List (Int × Int)} (h : MapR st cs b m) (hp : vs.Perm m) : leastF (vs.map (·.2)) = leastF cs := by
  obtain ⟨c, hc, hlt⟩ := h.pos
  have hne : cs ≠ [] := List.ne_nil_of_mem hc
  obtain ⟨h1, h2⟩ := least_in hne
  have h3 := h2 c hc
  obtain ⟨i, hi⟩ := List.getElem?_of_mem h1
  have hil := (List.getElem?_eq_some_iff.1 hi).1
  have hx : st[i]? = some (st[i]'(by rw [← h.len]; exact hil)) := List.getElem?_eq_getElem _
  have hm := h.ent.2 ⟨i, hx, hi, by omega⟩
  refine least_eq (List.mem_map.2 ⟨_, hp.mem_iff.2 hm, rfl⟩) (fun x hx => ?_)
  obtain ⟨p, hpm, rfl⟩ := List.mem_map.1 hx
  obtain ⟨j, _, hj, _⟩ := (h.ent (x := p.1) (c := p.2)).1 (hp.mem_iff.1 hpm)
  exact h2 _ (List.mem_of_getElem? hj)
section
variable {C : Cx} {E : Env} {I : HMap} {loc : Go.Kn.Loc} {S : GS} {dst : Option Tmp} {ty : TypeId} {pos : String} {af : Array Edge} {gd : Option (Nat × Bool)} {x y : Operand} {a : Int}
theorem ev_lookupI {m : List (Int × Int)} {t k e r : Nat} (hT : MpT C.P t k e (.int .i64 0)) (hK : KeyOK C.P k eiv) (hx : evalS S E x = some (.map (some r))) (hy : evalS S E y = some (eiv a)) (hm : conj S = true → Mem I loc r (mapO eiv eiv m)) :
    EvalOp C S E I loc ⟨dst, .lookup t x y false, ty, pos, af, gd⟩ (.int .i64 ((mget m a).getD 0)) := by
  have := ev_lookup (C := C) (S := S) (dst := dst) (ty := ty) (pos := pos) (af := af) (gd := gd) hT hK hx hy hm
  cases h : mget m a with
  | none => rw [h] at this; exact this
  | some b => rw [h] at this; exact this
end
theorem two_cell {I : HMap} {b j ra rb r : Nat} {e : TypeId} {fz : Nat × Nat} {l : Go.Kn.Loc} (hr : (if j = 0 then ra else rb) = r) (h : j < 2) : Cell I ((b, .cells (([[Value.map (some ra)], [Value.map (some rb)]] : List (List Value)).flatten).toArray e fz) :: l) b (((j : Nat) : Int).toNat * 1) (.map (some r)) := by
  subst hr
  rcases (show j = 0 ∨ j = 1 by omega) with e | e <;> subst e <;> exact .here rfl
theorem MapR.small {st cs : List Int} {b : Int} {m : List (Int × Int)} (h : MapR st cs b m) : m.length ≤ st.length := by
  have := h.nd.length_le_of_subset (l₂ := st) (fun x hx => by
    obtain ⟨p, hp, rfl⟩ := List.mem_map.1 hx
    exact h.old p hp)
  simpa using this
theorem tot_in {st ca cb : List Int} {ba bb : Int} {ma mb : List (Int × Int)} (hA : MapR st ca ba ma) (hB : MapR st cb bb mb) (h1 : ba ≤ 1000) (h2 : bb ≤ 1000) (j : Nat) (x : Int) : 0 ≤ totF st ca cb j x ∧ totF st ca cb j x ≤ 3000 := by
  have a := below_eq hA h1 (.refl _) x
  have b := below_eq hB h2 (.refl _) x
  unfold totF
  split <;> split <;> omega
/-- What the closure of a price holds. -/
structure PrE (I : HMap) (fid brow bloc bcst bcla bbel rm : Nat) (av bv : Option Addr) (n c n2 c2 : Nat) (xs : List Int) (rows : List (List Int)) (l : Nat) : Prop where
  row : Cell I [] brow 0 (.slice bv n2 c2)
  loc : Cell I [] bloc 0 (.int .i64 l)
  cst : Cell I [] bcst 0 (.map (some rm))
  cla : Cell I [] bcla 0 (.slice av n c)
  bel : Cell I [] bbel 0 (.func (.func fid) #[] #[capP brow, capP bloc, capP bcst, capP bcla, capP bbel])
  mp : ImO I rm (mapO eiv eiv (stM rows l))
  deb : DebOK I
  hS : Sl I 1 encI av n c xs
  hV : SlN I bv n2 c2 rows
theorem PrE.mono {I I' : HMap} {fid brow bloc bcst bcla bbel rm : Nat} {av bv : Option Addr} {n c n2 c2 : Nat} {xs : List Int} {rows : List (List Int)} {l : Nat} (h : PrE I fid brow bloc bcst bcla bbel rm av bv n c n2 c2 xs rows l) (hI : HLe I I') : PrE I' fid brow bloc bcst bcla bbel rm av bv n c n2 c2 xs rows l :=
  ⟨h.row.mono hI, h.loc.mono hI, h.cst.mono hI, h.cla.mono hI, h.bel.mono hI, h.mp.mono hI, h.deb.mono hI, h.hS.mono hI, h.hV.mono hI⟩
theorem u64_tab : ((List.range 64).all fun s => IntKind.u64.wrap (s : Int) == (s : Int)) = true := by kernel_rfl
theorem u64_in {s : Int} (hs : 0 ≤ s ∧ s ≤ 63) : IntKind.u64.wrap s = s := by
  have h := List.all_eq_true.1 u64_tab s.toNat (List.mem_range.2 (by omega))
  rw [show ((s.toNat : Nat) : Int) = s by omega] at h
  exact eq_of_beq h
theorem stM_put {rows : List (List Int)} {l k : Nat} {r : List Int} (h : rows[k]? = some r) (hne : r.getD l 0 ≠ 8589934592) : mset (stM (rows.take k) l) (r.getD l 0) 0 = stM (rows.take (k + 1)) l := by
  have hst := st_step (l := l) h
  unfold stM
  rw [hst]
  cases e : (statesF (rows.take k) l).any (fun x => x == r.getD l 0) with
  | true =>
    rw [st_yes (by rw [e, Bool.or_true])]
    refine mset_same _ _ _ ?_
    obtain ⟨x, hx, hxe⟩ := List.any_eq_true.1 e
    have hxe := eq_of_beq hxe
    subst hxe
    have hnd := st_nd (rows.take k) l
    have := mget_at (m := (statesF (rows.take k) l).map fun x => (x, (0 : Int))) (by rw [List.map_map]; simpa [Function.comp_def] using hnd) (List.mem_map.2 ⟨_, hx, rfl⟩)
    exact this
  | false =>
    rw [st_no (by rw [e, Bool.or_false]; exact beq_eq_false_iff_ne.2 hne), List.map_append]
    refine mset_new _ _ _ 0 ?_
    have hn : mget ((statesF (rows.take k) l).map fun x => (x, (0 : Int))) (r.getD l 0) = none := mget_none.2 (by
      rw [List.map_map]
      intro hm
      obtain ⟨x, hx, hxe⟩ := List.mem_map.1 hm
      have := List.any_eq_false.1 e x hx
      exact this (by simpa using hxe))
    rw [← mget_midx _ _ 0] at hn
    exact Option.map_eq_none_iff.1 hn
theorem stM_skip {rows : List (List Int)} {l k : Nat} {r : List Int} (h : rows[k]? = some r) (he : r.getD l 0 = 8589934592) : stM (rows.take k) l = stM (rows.take (k + 1)) l := by
  have hst := st_step (l := l) h
  unfold stM
  rw [hst, st_yes (by rw [he]; rfl)]
end Go.Proofs.YtkpmnnflikkhmaaDoor
end
section
namespace Go.Proofs.YtkpmnnflikkhmaaDoor
open Go Go.Kn Go.Proofs
theorem art_116 : ArT Tryd.prog 116 64 5 1 := .of (by kernel_rfl)
theorem cvt_5_3 : CvT Tryd.prog 5 3 .i64 := ⟨by kernel_rfl, by kernel_rfl⟩
theorem fun_94 : Fun Tryd.prog 94 := .of Tryd.func94 (by kernel_rfl) (by kernel_rfl)
theorem sct_5 : ScT Tryd.prog 5 := .of (by kernel_rfl)
theorem w_tz64 {I : HMap} (hD : DebOK I) {s : Int} (hs : 1 ≤ s ∧ s ≤ 63) (h1 : singF s = true) : RetV Tryd.prog 94 [.int .u64 s] I (.int .i64 (witF s)) := by
  intro g H w hw
  refine enter Tryd.func94 rfl Tryd.ntmps94 rfl hw ?_
  obtain ⟨hd1, hd2⟩ := deb_ok hs h1
  have hcell : ∀ loc, Cell I loc 1 (0 + (debX s).toNat * 1) (.int .u8 (debT.getD (debX s).toNat 0)) := fun loc => by rw [show 0 + (debX s).toNat * 1 = (debX s).toNat by omega]; exact (hD _ (by omega)).any
  refine X_seq ?_
  refine X_region ?_
  refine XO_v0 (ev_assign rfl) rfl rfl rfl ?_
  refine XO_nil ?_
  refine at_then ?_
  refine X_seq ?_
  refine X_seq ?_
  refine X_region ?_
  refine XO_v0 (ev_move rfl) rfl rfl rfl ?_
  refine XO_v0 (ev_cmp rfl rfl rfl) rfl rfl rfl ?_
  refine XO_nil ?_
  refine at_then ?_
  refine X_cond rfl (fun hc4 => ?_) (fun hc4 => ?_)
  · skip
    have h := hc4; simp at h; omega
  · skip
    refine X_skip ?_
    refine at_then ?_
    refine X_seq ?_
    refine X_region ?_
    refine XO_v0 (ev_move rfl) rfl rfl rfl ?_
    refine XO_v0 (ev_move rfl) rfl rfl rfl ?_
    refine XO_v0 (ev_negU rfl) rfl rfl rfl ?_
    refine XO_v0 (ev_andU rfl rfl) rfl rfl rfl ?_
    refine XO_v0 (ev_ar rfl rfl rfl) rfl rfl rfl ?_
    refine XO_v0 (ev_shr rfl rfl (by decide) (rfl : min _ _ = 58)) rfl rfl rfl ?_
    refine XO_v0 (ev_indexArr rfl rfl art_116 (fun hg => by exact hd1)) rfl rfl rfl ?_
    refine XO_v0 (ev_load rfl sct_5 (fun hg => by first | exact (hcell _) | exact Cell.h0 rfl | exact Cell.h1 rfl | exact Cell.h2 rfl | exact Cell.h3 rfl | exact Cell.h4 rfl | exact Cell.h5 rfl | (repeat (first | exact Cell.here rfl | apply Cell.there | apply Cell.app)))) rfl rfl rfl ?_
    refine XO_v0 (ev_convI rfl cvt_5_3) rfl rfl rfl ?_
    refine XO_v0 (ev_assign rfl) rfl rfl rfl ?_
    refine XO_nil ?_
    refine at_then ?_
    refine X_ret ?_
    first
    | exact at_ret1 rfl rfl (fun w hw => ⟨by rw [hd2], hw.drop⟩)
theorem w_tz {I : HMap} (hD : DebOK I) {s : Int} (hs : 1 ≤ s ∧ s ≤ 63) (h1 : singF s = true) : RetV Tryd.prog 69 [.int .u64 s] I (.int .i64 (witF s)) := by
  intro g H w hw
  refine enter Tryd.func69 rfl Tryd.ntmps69 rfl hw ?_
  refine X_seq ?_
  refine X_region ?_
  refine XO_v0 (ev_assign rfl) rfl rfl rfl ?_
  refine XO_nil ?_
  refine at_then ?_
  refine X_seq ?_
  refine X_cond rfl (fun hcK => ?_) (fun hcK => ?_)
  · cases hcK
  · skip
    refine X_skip ?_
    refine at_then ?_
    refine X_seq ?_
    refine X_region ?_
    refine XO_v0 (ev_move rfl) rfl rfl rfl ?_
    refine XO_callV0 (cap := []) (vs := [_]) rfl rfl fun_94 (w_tz64 hD hs h1) rfl rfl ?_
    refine XO_v0 (ev_assign rfl) rfl rfl rfl ?_
    refine XO_nil ?_
    refine at_then ?_
    refine X_ret ?_
    exact at_ret1 rfl rfl (fun w hw => ⟨by first | rfl | simp_all, hw.drop⟩)
end Go.Proofs.YtkpmnnflikkhmaaDoor
end
section
namespace Go.Proofs.YtkpmnnflikkhmaaDoor
open Go Go.Kn Go.Proofs
theorem cvt_3_48 : CvT Tryd.prog 3 48 .u64 := ⟨by kernel_rfl, by kernel_rfl⟩
theorem elt_84 : ElT Tryd.prog 84 42 1 8 := .of (by kernel_rfl)
theorem fun_68 : Fun Tryd.prog 68 := .of Tryd.func68 (by kernel_rfl) (by kernel_rfl)
theorem fun_69 : Fun Tryd.prog 69 := .of Tryd.func69 (by kernel_rfl) (by kernel_rfl)
theorem fun_70 : Fun Tryd.prog 70 := .of Tryd.func70 (by kernel_rfl) (by kernel_rfl)
theorem fun_71 : Fun Tryd.prog 71 := .of Tryd.func71 (by kernel_rfl) (by kernel_rfl)
theorem key_3 : KeyOK (α := Int) Tryd.prog 3 (.int .i64) := key_int (by kernel_rfl)
theorem mpt_42 : MpT Tryd.prog 42 3 3 (.int .i64 0) := ⟨by kernel_rfl, .of (by kernel_rfl)⟩
theorem sct_28 : ScT Tryd.prog 28 := .of (by kernel_rfl)
theorem sct_42 : ScT Tryd.prog 42 := .of (by kernel_rfl)
theorem sct_83 : ScT Tryd.prog 83 := .of (by kernel_rfl)
theorem slt_84 : SlT Tryd.prog 84 42 1 := .of (by kernel_rfl)
theorem w_tzW {I : HMap} (hD : DebOK I) {s : Int} (hs : 1 ≤ s ∧ s ≤ 63) (h1 : singF s = true) : RetV Tryd.prog 69 [.int .u64 (IntKind.u64.wrap s)] I (.int .i64 (witF s)) := by
  rw [u64_in (by omega)]; exact w_tz hD hs h1
theorem w_partsU {I : HMap} {av : Option Addr} {n c m : Nat} {xs : List Int} (hS : Sl I 1 encI av n c xs) (hn : n ≤ 100000) (hc : chkN m xs = 0) {s : Int} (hin : s ∈ xs) (h1 : singF s = false) : RetV Tryd.prog 29 [.slice av n c, .int .i64 s] I (.tuple #[.int .i64 (splitF xs s), .int .i64 (s - splitF xs s), .bool true]) := by
  have h := w_parts hS hn s ((chkN_ok hc).2.2.2 s hin)
  obtain ⟨e1, e2, e3⟩ := parts_eq hc hin h1
  rw [e1, e2, e3] at h; exact h
theorem w_leastE {I : HMap} {av : Option Addr} {n c : Nat} {xs : List Int} {v : Int} (e : leastF xs = v) (hS : Sl I 1 encI av n c xs) (hn : n ≤ 100000) (h0 : 0 < n) : RetV Tryd.prog 71 [.slice av n c] I (.int .i64 v) := by
  rw [← e]; exact w_least hS hn h0
theorem w_price1 {I : HMap} {brow bloc bcst bcla bbel rm : Nat} {av bv : Option Addr} {n c n2 c2 : Nat} {xs : List Int} {rows : List (List Int)} {l : Nat} (hE : PrE I 68 brow bloc bcst bcla bbel rm av bv n c n2 c2 xs rows l) (hn : n ≤ 100000) (hn2 : n2 ≤ 100000) (hl : ∀ r ∈ rows, l < r.length) (hc : chkN rows.length xs = 0) (f : Nat) (s : Int) (hok : OkS rows.length xs s) (ih : ∀ (I' : HMap), HLe I I' → ∀ (s' : Int), OkS rows.length xs s' → s' < s → RetM Tryd.prog 68 ([.int .i64 s'] ++ [capP brow, capP bloc, capP bcst, capP bcla, capP bbel]) I' [] (MapQ (statesF rows l) (costsF rows xs l f s') (8 * (s' - 1)))) : RetM Tryd.prog 68 [.int .i64 s, capP brow, capP bloc, capP bcst, capP bcla, capP bbel] I [] (MapQ (statesF rows l) (costsF rows xs l (f + 1) s) (8 * (s - 1))) := by
  intro g H w hw
  refine enter Tryd.func68 rfl Tryd.ntmps68 rfl hw ?_
  have hIc := HLe.refl I
  obtain ⟨hs, hV⟩ := hE.hV
  have hH := hV.1
  have hlV := hV.len
  have hal := (chkN_ok hc).1
  have hal6 := (chkN_ok hc).2.1
  have hs63 := ok_le hc hok
  have hsl := st_len (rows := rows) (l := l)
  refine X_seq ?_
  refine X_region ?_
  refine XO_v0 (ev_assign rfl) rfl rfl rfl ?_
  refine XO_nil ?_
  refine at_then ?_
  refine X_seq ?_
  refine X_region ?_
  refine XO_makeMap rfl rfl (fun r_20 => ?_)
  refine XO_v0 (ev_assign rfl) rfl rfl rfl ?_
  refine XO_nil ?_
  refine at_then ?_
  refine X_seq ?_
  refine X_seq ?_
  refine X_region ?_
  refine XO_v0 (ev_move rfl) rfl rfl rfl ?_
  refine XO_callV0 (cap := []) (vs := [_]) rfl rfl fun_44 (w_single _ _) rfl rfl ?_
  refine XO_nil ?_
  refine at_then ?_
  refine X_cond rfl (fun hc22 => ?_) (fun hc22 => ?_)
  · skip
    have hsing : singF s = true := hc22
    have hwn := wit_n (n := rows.length) (by omega) hs63 hsing hok.2.1
    obtain ⟨x, v, hx, hv, hQ⟩ := hV.at (show witF s < n2 by omega)
    have hlv := hl v (List.mem_of_getElem? hv)
    have hu := some_getD (d := 0) rfl hlv
    have hvn := hQ.len
    have hz : (andI s (IntKind.i64.wrap (s - 1)) == 0) = true := by unfold singF at hsing; rw [Bool.and_eq_true] at hsing; exact hsing.2
    refine X_seq ?_
    refine X_draw mixed (by kernel_rfl) ?_
    refine XQ_v0 (ev_load rfl sct_28 (fun hg => by first | exact hE.row.any | exact hE.loc.any | exact hE.cst.any | exact hE.cla.any | exact hE.bel.any | exact Sl.get0 hH hx rfl | exact Sl.get0 hQ hu rfl | exact two_cell hrj hlt_j | exact Cell.h0 rfl | exact Cell.h1 rfl | exact Cell.h2 rfl | exact Cell.h3 rfl | exact Cell.h4 rfl | exact Cell.h5 rfl | (repeat (first | exact Cell.here rfl | apply Cell.there | apply Cell.app)))) rfl rfl rfl ?_
    refine XQ_v0 (ev_move rfl) rfl rfl rfl ?_
    refine XQ_v0 (ev_convI rfl cvt_3_48) rfl rfl rfl ?_
    refine XQ_callV0 (cap := []) (vs := [_]) rfl rfl fun_69 (w_tzW hE.deb hs63 hsing) rfl rfl ?_
    refine XQ_v0 (ev_indexSl rfl rfl slt_28 hH (fun hg => by first | omega | (simp [conj] at hg; omega))) rfl rfl rfl ?_
    refine XQ_v0 (ev_load rfl sct_22 (fun hg => by first | exact hE.row.any | exact hE.loc.any | exact hE.cst.any | exact hE.cla.any | exact hE.bel.any | exact Sl.get0 hH hx rfl | exact Sl.get0 hQ hu rfl | exact two_cell hrj hlt_j | exact Cell.h0 rfl | exact Cell.h1 rfl | exact Cell.h2 rfl | exact Cell.h3 rfl | exact Cell.h4 rfl | exact Cell.h5 rfl | (repeat (first | exact Cell.here rfl | apply Cell.there | apply Cell.app)))) rfl rfl rfl ?_
    refine XQ_v0 (ev_load rfl sct_3 (fun hg => by first | exact hE.row.any | exact hE.loc.any | exact hE.cst.any | exact hE.cla.any | exact hE.bel.any | exact Sl.get0 hH hx rfl | exact Sl.get0 hQ hu rfl | exact two_cell hrj hlt_j | exact Cell.h0 rfl | exact Cell.h1 rfl | exact Cell.h2 rfl | exact Cell.h3 rfl | exact Cell.h4 rfl | exact Cell.h5 rfl | (repeat (first | exact Cell.here rfl | apply Cell.there | apply Cell.app)))) rfl rfl rfl ?_
    refine XQ_v0 (ev_indexSl rfl rfl slt_22 hQ (fun hg => by first | omega | (simp [conj] at hg; omega))) rfl rfl rfl ?_
    refine XQ_v0 (ev_load rfl sct_3 (fun hg => by first | exact hE.row.any | exact hE.loc.any | exact hE.cst.any | exact hE.cla.any | exact hE.bel.any | exact Sl.get0 hH hx rfl | exact Sl.get0 hQ hu rfl | exact two_cell hrj hlt_j | exact Cell.h0 rfl | exact Cell.h1 rfl | exact Cell.h2 rfl | exact Cell.h3 rfl | exact Cell.h4 rfl | exact Cell.h5 rfl | (repeat (first | exact Cell.here rfl | apply Cell.there | apply Cell.app)))) rfl rfl rfl ?_
    refine XQ_v0 (ev_assign rfl) rfl rfl rfl ?_
    refine XQ_nil ?_
    refine at_then ?_
    refine X_seq ?_
    refine X_seq ?_
    refine X_region ?_
    refine XO_v0 (ev_load rfl sct_42 (fun hg => by first | exact hE.row.any | exact hE.loc.any | exact hE.cst.any | exact hE.cla.any | exact hE.bel.any | exact Sl.get0 hH hx rfl | exact Sl.get0 hQ hu rfl | exact two_cell hrj hlt_j | exact Cell.h0 rfl | exact Cell.h1 rfl | exact Cell.h2 rfl | exact Cell.h3 rfl | exact Cell.h4 rfl | exact Cell.h5 rfl | (repeat (first | exact Cell.here rfl | apply Cell.there | apply Cell.app)))) rfl rfl rfl ?_
    refine XO_range (ek := eiv) (ev := eiv) (m := (stM rows l)) rfl mpt_42 rfl rfl (.inl hE.mp) (fun b_33 => ?_)
    refine XO_nil ?_
    refine at_then ?_
    refine X_block ?_
    refine X_loopT [(8, _), (9, _), (33, _)] (.cons rfl (.cons rfl (.cons rfl .nil))) (fun T L0 mz E I' loc' => ∃ (seen : List Nat) (m : List (Int × Int)), mz = (stM rows l).length - seen.length ∧ E = T ∧ I = I' ∧ [(b_33, iterO rm (stM rows l).length seen), (r_20, mapO eiv eiv m)] = loc' ∧ MapF m (leafM rows l (v.getD l 0) seen) ∧ seen.Nodup ∧ ∀ i ∈ seen, i < (stM rows l).length) _ _ _ _ ⟨[], [], rfl, rfl, rfl, rfl, leafM_nil, .nil, fun i h => by cases h⟩ (.cons rfl (.cons rfl (.cons rfl .nil))) (HLe.refl _) rfl ?_
    rintro mz E I' loc' ⟨seen, m, rfl, rfl, rfl, rfl, hm, hnd, hlt⟩
    refine X_seq ?_
    refine X_region ?_
    refine XO_next2 (ek := eiv) (ev := eiv) (m := (stM rows l)) (fun s' => [(b_33, iterO rm (stM rows l).length s'), (r_20, mapO eiv eiv m)]) rfl (fun s' => .here) rfl rfl rfl rfl rfl (.inl hE.mp) (by simp) ?_
    intro t tv s' hno hyes
    refine XO_nil ?_
    refine at_then ?_
    refine X_seq ?_
    refine X_cond rfl (fun hc35 => ?_) (fun hc35 => ?_)
    · skip
      obtain ⟨i, q, hq, hns, rfl⟩ := hyes hc35
      refine X_skip ?_
      refine at_then ?_
      refine X_block ?_
      refine X_seq ?_
      refine X_region ?_
      refine XO_v0 (ev_entry (ek := eiv) (ev := eiv) (m := (stM rows l)) (p := q) (seen := seen) (i := i) rfl (.inl hE.mp) (.inr (by simp)) hq) rfl rfl rfl ?_
      refine XO_v0 (ev_extract rfl rfl) rfl rfl rfl ?_
      refine XO_v0 (ev_assign rfl) rfl rfl rfl ?_
      refine XO_nil ?_
      refine at_then ?_
      refine X_seq ?_
      refine X_region ?_
      refine XO_v0 (ev_move rfl) rfl rfl rfl ?_
      refine XO_v0 (ev_move rfl) rfl rfl rfl ?_
      refine XO_v0 (ev_cmp rfl rfl rfl) rfl rfl rfl ?_
      refine XO_v0 (ev_move rfl) rfl rfl rfl ?_
      refine XO_pushF 3 rfl rfl rfl ?_
      refine XO_v1 (ev_move rfl) (.some rfl rfl rfl rfl gbf) rfl rfl rfl ?_
      refine XO_v1 (ev_cmp rfl rfl rfl) (.some rfl rfl rfl rfl gbf) rfl rfl rfl ?_
      refine XO_or0 rfl rfl rfl rfl rfl ?_
      refine XO_nil ?_
      refine at_then ?_
      refine X_cond rfl (fun hc44 => ?_) (fun hc44 => ?_)
      · skip
        refine X_region ?_
        refine XO_v0 (ev_move rfl) rfl rfl rfl ?_
        refine XO_v0 (ev_move rfl) rfl rfl rfl ?_
        refine XO_mapUpdate (m := m) (ek := eiv) (ev := eiv) (a := q.1) 0 mpt_42 key_3 rfl rfl rfl rfl (by first | exact Upd.u0 | exact Upd.u1 | exact Upd.u2 | exact Upd.u3 | exact Upd.u4 | exact Upd.u5 | (repeat (first | exact Upd.here | apply Upd.there | apply upd_app))) ?_
        refine XO_nil ?_
        refine at_block_n ?_
        have hs9 := snd_nodup hnd hlt hns (List.getElem?_eq_some_iff.1 hq).1
        first
        | exact at_met2 _ _ ⟨(stM rows l).length - (seen ++ [i]).length, by rw [List.length_append, List.length_singleton]; have := hs9.2.2; rw [List.length_append, List.length_singleton] at this; omega, seen ++ [i], mset m q.1 0, rfl, rfl, rfl, rfl, leafM_yes hm hq (leaf_g0 hc44), hs9.1, hs9.2.1⟩ (.cons rfl (.cons rfl (.cons rfl .nil))) (by repeat (first | exact .refl | exact subL_left | refine subL_app ?_ | refine .drop ?_ | refine subL_add ?_))
        | exact at_met2 _ _ ⟨(stM rows l).length - (seen ++ [i]).length, by rw [List.length_append, List.length_singleton]; have := hs9.2.2; rw [List.length_append, List.length_singleton] at this; omega, seen ++ [i], m, rfl, rfl, rfl, rfl, leafM_no hm hq (leaf_g1 hc44).2, hs9.1, hs9.2.1⟩ (.cons rfl (.cons rfl (.cons rfl .nil))) (by repeat (first | exact .refl | exact subL_left | refine subL_app ?_ | refine .drop ?_ | refine subL_add ?_))
      · skip
        refine X_skip ?_
        refine at_block_n ?_
        have hs9 := snd_nodup hnd hlt hns (List.getElem?_eq_some_iff.1 hq).1
        first
        | exact at_met2 _ _ ⟨(stM rows l).length - (seen ++ [i]).length, by rw [List.length_append, List.length_singleton]; have := hs9.2.2; rw [List.length_append, List.length_singleton] at this; omega, seen ++ [i], mset m q.1 0, rfl, rfl, rfl, rfl, leafM_yes hm hq (leaf_g0 hc44), hs9.1, hs9.2.1⟩ (.cons rfl (.cons rfl (.cons rfl .nil))) (by repeat (first | exact .refl | exact subL_left | refine subL_app ?_ | refine .drop ?_ | refine subL_add ?_))
        | exact at_met2 _ _ ⟨(stM rows l).length - (seen ++ [i]).length, by rw [List.length_append, List.length_singleton]; have := hs9.2.2; rw [List.length_append, List.length_singleton] at this; omega, seen ++ [i], m, rfl, rfl, rfl, rfl, leafM_no hm hq (leaf_g1 hc44).2, hs9.1, hs9.2.1⟩ (.cons rfl (.cons rfl (.cons rfl .nil))) (by repeat (first | exact .refl | exact subL_left | refine subL_app ?_ | refine .drop ?_ | refine subL_add ?_))
    · skip
      obtain ⟨rfl, hall⟩ := hno hc35
      refine X_exit ?_
      refine at_then_e ?_
      refine at_then_e ?_
      refine at_block_hit ?_
      refine at_then ?_
      refine X_seq ?_
      refine X_region ?_
      refine XO_v0 (ev_move rfl) rfl rfl rfl ?_
      refine XO_v0 (ev_assign rfl) rfl rfl rfl ?_
      refine XO_nil ?_
      refine at_then ?_
      refine X_ret ?_
      refine at_then_r ?_
      first
      | exact at_ret1 rfl rfl (fun w hw => by obtain ⟨I9, h91, h92, h93⟩ := hw.freezeAll; exact ⟨_, I9, [], rfl, hIc.trans h91, h92, rfl, r_20, m, rfl, h93 _ _ (by simp), by rw [costs_leaf hz]; exact leaf_end (by omega) hv hm hnd hlt hall⟩)
      | exact at_ret1 rfl rfl (fun w hw => by obtain ⟨I9, h91, h92, h93⟩ := hw.freezeAll; exact ⟨_, I9, [], rfl, hIc.trans h91, h92, rfl, r_20, m, rfl, h93 _ _ (by simp), by rw [costs_two hz]; exact two_end (List.ne_nil_of_length_pos st_pos) hRa hRb (by omega) (by omega) (by omega) hm⟩)
  · skip
    have hns0 : singF s = false := hc22
    obtain ⟨hin, ok1, ok2, hp1, hp2, _, _⟩ := first_part hc hok hns0
    have hz : (andI s (IntKind.i64.wrap (s - 1)) == 0) = false := by unfold singF at hns0; rw [decide_eq_true (show s > 0 by omega), Bool.true_and] at hns0; exact hns0
    refine X_skip ?_
    refine at_then ?_
    refine X_seq ?_
    refine X_region ?_
    refine XO_v0 (ev_load rfl sct_22 (fun hg => by first | exact hE.row.any | exact hE.loc.any | exact hE.cst.any | exact hE.cla.any | exact hE.bel.any | exact Sl.get0 hH hx rfl | exact Sl.get0 hQ hu rfl | exact two_cell hrj hlt_j | exact Cell.h0 rfl | exact Cell.h1 rfl | exact Cell.h2 rfl | exact Cell.h3 rfl | exact Cell.h4 rfl | exact Cell.h5 rfl | (repeat (first | exact Cell.here rfl | apply Cell.there | apply Cell.app)))) rfl rfl rfl ?_
    refine XO_v0 (ev_move rfl) rfl rfl rfl ?_
    refine XO_callV0 (cap := []) (vs := [_, _]) rfl rfl fun_29 (w_partsU hE.hS hn hc hin hns0) rfl rfl ?_
    refine XO_v0 (ev_move rfl) rfl rfl rfl ?_
    refine XO_v0 (ev_extract rfl rfl) rfl rfl rfl ?_
    refine XO_v0 (ev_extract rfl rfl) rfl rfl rfl ?_
    refine XO_v0 (ev_extract rfl rfl) rfl rfl rfl ?_
    refine XO_v0 (ev_assign rfl) rfl rfl rfl ?_
    refine XO_v0 (ev_assign rfl) rfl rfl rfl ?_
    refine XO_v0 (ev_assign rfl) rfl rfl rfl ?_
    refine XO_nil ?_
    refine at_then ?_
    refine X_seq ?_
    refine X_seq ?_
    have hD := HLe.refl I
    refine X_drawC mixed ?_
    refine XD_take 0 rfl (ev_load rfl sct_83 (fun hg => by first | exact hE.row.any | exact hE.loc.any | exact hE.cst.any | exact hE.cla.any | exact hE.bel.any | exact Sl.get0 hH hx rfl | exact Sl.get0 hQ hu rfl | exact two_cell hrj hlt_j | exact Cell.h0 rfl | exact Cell.h1 rfl | exact Cell.h2 rfl | exact Cell.h3 rfl | exact Cell.h4 rfl | exact Cell.h5 rfl | (repeat (first | exact Cell.here rfl | apply Cell.there | apply Cell.app)))) (.none rfl) rfl rfl rfl (by kernel_rfl) (by kernel_rfl) (by kernel_rfl) noP_ok hD (by repeat (first | exact .refl | exact subL_nil | refine .keep ?_ | refine .drop ?_ | refine subL_add ?_)) ?_
    refine XD_take 1 rfl (ev_move rfl) (.none rfl) rfl rfl rfl (by kernel_rfl) (by kernel_rfl) (by kernel_rfl) noP_ok hD (by repeat (first | exact .refl | exact subL_nil | refine .keep ?_ | refine .drop ?_ | refine subL_add ?_)) ?_
    refine XD_take 3 rfl (ev_load rfl sct_83 (fun hg => by first | exact hE.row.any | exact hE.loc.any | exact hE.cst.any | exact hE.cla.any | exact hE.bel.any | exact Sl.get0 hH hx rfl | exact Sl.get0 hQ hu rfl | exact two_cell hrj hlt_j | exact Cell.h0 rfl | exact Cell.h1 rfl | exact Cell.h2 rfl | exact Cell.h3 rfl | exact Cell.h4 rfl | exact Cell.h5 rfl | (repeat (first | exact Cell.here rfl | apply Cell.there | apply Cell.app)))) (.none rfl) rfl rfl rfl (by kernel_rfl) (by kernel_rfl) (by kernel_rfl) noP_ok hD (by repeat (first | exact .refl | exact subL_nil | refine .keep ?_ | refine .drop ?_ | refine subL_add ?_)) ?_
    refine XD_take 4 rfl (ev_move rfl) (.none rfl) rfl rfl rfl (by kernel_rfl) (by kernel_rfl) (by kernel_rfl) noP_ok hD (by repeat (first | exact .refl | exact subL_nil | refine .keep ?_ | refine .drop ?_ | refine subL_add ?_)) ?_
    refine XD_take 8 rfl (ev_move rfl) (.none rfl) rfl rfl rfl (by kernel_rfl) (by kernel_rfl) (by kernel_rfl) noP_ok hD (by repeat (first | exact .refl | exact subL_nil | refine .keep ?_ | refine .drop ?_ | refine subL_add ?_)) ?_
    refine XD_one 2 rfl (by kernel_rfl) ?_
    refine XO_callM (cap := [capP brow, capP bloc, capP bcst, capP bcla, capP bbel]) (vs := [_]) rfl rfl fun_68 (by first | exact .nil | exact split_nil | exact split_right (L := [])) (ih _ hIc _ ok1 hp2) rfl rfl ?_
    rintro vv2 I2 L2 hI2 ⟨rfl, ra, ma, rfl, hMa, hRa⟩
    have hE := hE.mono hI2
    have hIc := hIc.trans hI2
    have hD := hD.trans hI2
    refine XO_nil ?_
    refine at_D hD (by repeat (first | exact .refl | exact subL_nil | refine .keep ?_ | refine .drop ?_ | refine subL_add ?_)) ?_
    refine XD_one 5 rfl (by kernel_rfl) ?_
    refine XO_callM (cap := [capP brow, capP bloc, capP bcst, capP bcla, capP bbel]) (vs := [_]) rfl rfl fun_68 (by first | exact .nil | exact split_nil | exact split_right (L := [])) (ih _ hIc _ ok2 (by omega)) rfl rfl ?_
    rintro vv3 I3 L3 hI3 ⟨rfl, rb, mb, rfl, hMb, hRb⟩
    have hE := hE.mono hI3
    have hMa := hMa.mono hI3
    have hIc := hIc.trans hI3
    have hD := hD.trans hI3
    refine XO_nil ?_
    refine at_D hD (by repeat (first | exact .refl | exact subL_nil | refine .keep ?_ | refine .drop ?_ | refine subL_add ?_)) ?_
    refine XD_one 6 rfl (by kernel_rfl) ?_
    refine XO_buildSlice (ps := [(0, _), (1, _)]) (m := [[.map (some ra)], [.map (some rb)]]) elt_84 rfl (.cons rfl (.cons rfl (.nil))) rfl (by simp [encI_len]) (by decide) (by decide) rfl rfl (fun b_61 => ?_)
    refine XO_nil ?_
    refine at_D hD (by repeat (first | exact .refl | exact subL_nil | refine .keep ?_ | refine .drop ?_ | refine subL_add ?_)) ?_
    refine XD_take 7 rfl (ev_lenS rfl slt_84) (.none rfl) rfl rfl rfl (by kernel_rfl) (by kernel_rfl) (by kernel_rfl) noP_ok hD (by repeat (first | exact .refl | exact subL_nil | refine .keep ?_ | refine .drop ?_ | refine subL_add ?_)) ?_
    refine XD_done (by kernel_rfl) ?_
    refine at_noP ?_
    refine at_then ?_
    refine X_block ?_
    refine X_loopT [(3, _), (8, _), (61, _), (62, _)] (.cons rfl (.cons rfl (.cons rfl (.cons rfl .nil)))) (fun T L0 mz E I' loc' => ∃ (j : Nat) (m : List (Int × Int)), mz = 2 - j ∧ E = (63, .int .i64 j) :: T ∧ HLe I3 I' ∧ [(b_61, .cells (([[Value.map (some ra)], [Value.map (some rb)]] : List (List Value)).flatten).toArray 42 (0, 0)), (r_20, mapO eiv eiv m)] = loc' ∧ j ≤ 2 ∧ MapF m (gF (statesF rows l) (costsF rows xs l f (splitF xs s)) (costsF rows xs l f (s - splitF xs s)) j)) _ _ _ _ ⟨0, [], rfl, rfl, HLe.refl _, rfl, Nat.zero_le _, gF_0⟩ (.cons rfl (.cons rfl (.cons rfl (.cons rfl (.cons rfl .nil))))) (HLe.refl _) rfl ?_
    rintro mz E J4 loc' ⟨j, m, rfl, rfl, hJ, rfl, hj, hm⟩
    have hE := hE.mono hJ
    have hMa := hMa.mono hJ
    have hMb := hMb.mono hJ
    have hIc := hIc.trans hJ
    have hB2 := hJ
    refine X_seq ?_
    refine X_region ?_
    refine XO_v0 (ev_cmp rfl rfl rfl) rfl rfl rfl ?_
    refine XO_nil ?_
    refine at_then ?_
    refine X_seq ?_
    refine X_cond rfl (fun hc64 => ?_) (fun hc64 => ?_)
    · skip
      have hlt_j : j < 2 := by have h := hc64; simp at h; omega
      obtain ⟨rj, mj, bj, hrj, hMj, hRj, hbj⟩ : ∃ rj mj bj, (if j = 0 then ra else rb) = rj ∧ ImO J4 rj (mapO eiv eiv mj) ∧ MapR (statesF rows l) (if j = 0 then (costsF rows xs l f (splitF xs s)) else (costsF rows xs l f (s - splitF xs s))) bj mj ∧ bj ≤ 1000 := by
        rcases (show j = 0 ∨ j = 1 by omega) with e | e
        · subst e; exact ⟨ra, ma, 8 * (splitF xs s - 1), rfl, hMa, hRa, by omega⟩
        · subst e; exact ⟨rb, mb, 8 * (s - splitF xs s - 1), rfl, hMb, hRb, by omega⟩
      have hmjl := hRj.small
      refine X_skip ?_
      refine at_then ?_
      refine X_seq ?_
      refine X_block ?_
      refine X_seq ?_
      refine X_region ?_
      refine XO_v0 (ev_indexOwn rfl rfl slt_84 (fun hg => by first | omega | (simp [conj] at hg; omega))) rfl rfl rfl ?_
      refine XO_v0 (ev_load rfl sct_42 (fun hg => by first | exact hE.row.any | exact hE.loc.any | exact hE.cst.any | exact hE.cla.any | exact hE.bel.any | exact Sl.get0 hH hx rfl | exact Sl.get0 hQ hu rfl | exact two_cell hrj hlt_j | exact Cell.h0 rfl | exact Cell.h1 rfl | exact Cell.h2 rfl | exact Cell.h3 rfl | exact Cell.h4 rfl | exact Cell.h5 rfl | (repeat (first | exact Cell.here rfl | apply Cell.there | apply Cell.app)))) rfl rfl rfl ?_
      refine XO_v0 (ev_assign rfl) rfl rfl rfl ?_
      refine XO_nil ?_
      refine at_then ?_
      refine X_seq ?_
      refine X_region ?_
      refine XO_v0 (ev_load rfl sct_42 (fun hg => by first | exact hE.row.any | exact hE.loc.any | exact hE.cst.any | exact hE.cla.any | exact hE.bel.any | exact Sl.get0 hH hx rfl | exact Sl.get0 hQ hu rfl | exact two_cell hrj hlt_j | exact Cell.h0 rfl | exact Cell.h1 rfl | exact Cell.h2 rfl | exact Cell.h3 rfl | exact Cell.h4 rfl | exact Cell.h5 rfl | (repeat (first | exact Cell.here rfl | apply Cell.there | apply Cell.app)))) rfl rfl rfl ?_
      refine XO_range (ek := eiv) (ev := eiv) (m := (stM rows l)) rfl mpt_42 rfl rfl (.inl hE.mp) (fun b_68 => ?_)
      refine XO_nil ?_
      refine at_then ?_
      refine X_block ?_
      refine X_loopT [(3, _), (8, _), (15, _), (61, _), (62, _), (63, _), (68, _)] (.cons rfl (.cons rfl (.cons rfl (.cons rfl (.cons rfl (.cons rfl (.cons rfl .nil))))))) (fun T L0 mz E I' loc' => ∃ (seen : List Nat) (m2 : List (Int × Int)), mz = (stM rows l).length - seen.length ∧ E = T ∧ HLe J4 I' ∧ [(b_68, iterO rm (stM rows l).length seen), (b_61, .cells (([[Value.map (some ra)], [Value.map (some rb)]] : List (List Value)).flatten).toArray 42 (0, 0)), (r_20, mapO eiv eiv m2)] = loc' ∧ MapF m2 (hF rows l (costsF rows xs l f (splitF xs s)) (costsF rows xs l f (s - splitF xs s)) j seen) ∧ seen.Nodup ∧ ∀ i ∈ seen, i < (stM rows l).length) _ _ _ _ ⟨[], m, rfl, rfl, HLe.refl _, rfl, hF_0 hm, .nil, fun i h => by cases h⟩ (.cons rfl (.cons rfl (.cons rfl (.cons rfl (.cons rfl (.cons rfl (.cons rfl .nil))))))) (HLe.refl _) rfl ?_
      rintro mz E J5 loc' ⟨seen, m2, rfl, rfl, hJ, rfl, hm2, hnd4, hlt4⟩
      have hE := hE.mono hJ
      have hMa := hMa.mono hJ
      have hMb := hMb.mono hJ
      have hMj := hMj.mono hJ
      have hIc := hIc.trans hJ
      have hB2 := hB2.trans hJ
      have hB4 := hJ
      refine X_seq ?_
      refine X_region ?_
      refine XO_next2 (ek := eiv) (ev := eiv) (m := (stM rows l)) (fun s' => [(b_68, iterO rm (stM rows l).length s'), (b_61, .cells (([[Value.map (some ra)], [Value.map (some rb)]] : List (List Value)).flatten).toArray 42 (0, 0)), (r_20, mapO eiv eiv m2)]) rfl (fun s' => .here) rfl rfl rfl rfl rfl (.inl hE.mp) (by simp) ?_
      intro t tv s' hno hyes
      refine XO_nil ?_
      refine at_then ?_
      refine X_seq ?_
      refine X_cond rfl (fun hc70 => ?_) (fun hc70 => ?_)
      · skip
        obtain ⟨i, q, hq, hns, rfl⟩ := hyes hc70
        have hlk := hF_at hm2 hq hns
        have htot := tot_in hRa hRb (by omega) (by omega) j q.1
        refine X_skip ?_
        refine at_then ?_
        refine X_block ?_
        refine X_seq ?_
        refine X_region ?_
        refine XO_v0 (ev_entry (ek := eiv) (ev := eiv) (m := (stM rows l)) (p := q) (seen := seen) (i := i) rfl (.inl hE.mp) (.inr (by simp)) hq) rfl rfl rfl ?_
        refine XO_v0 (ev_extract rfl rfl) rfl rfl rfl ?_
        refine XO_v0 (ev_assign rfl) rfl rfl rfl ?_
        refine XO_nil ?_
        refine at_then ?_
        refine X_seq ?_
        refine X_region ?_
        refine XO_v0 (ev_assign rfl) rfl rfl rfl ?_
        refine XO_nil ?_
        refine at_then ?_
        refine X_seq ?_
        refine X_seq ?_
        refine X_region ?_
        refine XO_v0 (ev_move rfl) rfl rfl rfl ?_
        refine XO_range (ek := eiv) (ev := eiv) (m := mj) rfl mpt_42 rfl rfl (.inl hMj) (fun b_74 => ?_)
        refine XO_nil ?_
        refine at_then ?_
        refine X_block ?_
        refine X_loopT [(3, _), (8, _), (15, _), (16, _), (61, _), (62, _), (63, _), (68, _), (74, _)] (.cons rfl (.cons rfl (.cons rfl (.cons rfl (.cons rfl (.cons rfl (.cons rfl (.cons rfl (.cons rfl .nil))))))))) (fun T L0 mz E I' loc' => ∃ (seen6 : List Nat) (v6 : Value) (q6 : Nat) (L : Go.Kn.Loc), mz = mj.length - seen6.length ∧ E = (17, v6) :: T ∧ J5 = I' ∧ L ++ [(b_74, iterO rj mj.length seen6), (b_68, iterO rm (stM rows l).length (seen ++ [i])), (b_61, .cells (([[Value.map (some ra)], [Value.map (some rb)]] : List (List Value)).flatten).toArray 42 (0, 0)), (r_20, mapO eiv eiv m2)] = loc' ∧ OwnS 3 1 v6 q6 (((visO mj seen6).map fun p => p.2 + stepF q.1 p.1).flatMap encI) L ∧ q6 = seen6.length ∧ seen6.Nodup ∧ ∀ i ∈ seen6, i < mj.length) _ _ _ _ ⟨[], _, 0, [], rfl, rfl, rfl, rfl, OwnS.nil, rfl, .nil, fun i h => by cases h⟩ (.cons rfl (.cons rfl (.cons rfl (.cons rfl (.cons rfl (.cons rfl (.cons rfl (.cons rfl (.cons rfl (.cons rfl .nil)))))))))) (HLe.refl _) rfl ?_
        rintro mz E I' loc' ⟨seen6, v6, q6, L, rfl, rfl, rfl, rfl, hO6, hq6, hnd6, hlt6⟩
        have hsl6 := seen_lt hnd6 hlt6
        refine X_seq ?_
        refine X_region ?_
        refine XO_next2 (ek := eiv) (ev := eiv) (m := mj) (fun s' => L ++ [(b_74, iterO rj mj.length s'), (b_68, iterO rm (stM rows l).length (seen ++ [i])), (b_61, .cells (([[Value.map (some ra)], [Value.map (some rb)]] : List (List Value)).flatten).toArray 42 (0, 0)), (r_20, mapO eiv eiv m2)]) rfl (fun s' => upd_app .here) rfl rfl rfl rfl rfl (.inl hMj) (by simp) ?_
        intro t tv s' hno hyes
        refine XO_nil ?_
        refine at_then ?_
        refine X_seq ?_
        refine X_cond rfl (fun hc76 => ?_) (fun hc76 => ?_)
        · skip
          obtain ⟨i6, p6, hp6, hns6, rfl⟩ := hyes hc76
          have hb6 := (below_eq hRj hbj (.refl _) q.1).2.2.2 p6 (List.mem_of_getElem? hp6)
          have hst6 := step_in q.1 p6.1
          refine X_skip ?_
          refine at_then ?_
          refine X_block ?_
          refine X_seq ?_
          refine X_region ?_
          refine XO_v0 (ev_entry (ek := eiv) (ev := eiv) (m := mj) (p := p6) (seen := seen6) (i := i6) rfl (.inl hMj) (.inr (by simp)) hp6) rfl rfl rfl ?_
          refine XO_v0 (ev_extract rfl rfl) rfl rfl rfl ?_
          refine XO_v0 (ev_extract rfl rfl) rfl rfl rfl ?_
          refine XO_v0 (ev_assign rfl) rfl rfl rfl ?_
          refine XO_v0 (ev_assign rfl) rfl rfl rfl ?_
          refine XO_nil ?_
          refine at_then ?_
          refine X_region ?_
          refine XO_v0 (ev_move rfl) rfl rfl rfl ?_
          refine XO_v0 (ev_move rfl) rfl rfl rfl ?_
          refine XO_v0 (ev_move rfl) rfl rfl rfl ?_
          refine XO_v0 (ev_move rfl) rfl rfl rfl ?_
          refine XO_callV0 (cap := []) (vs := [_, _]) rfl rfl fun_70 (w_step _ _ _) rfl rfl ?_
          refine XO_v0 (ev_arB rfl rfl rfl (fun hg => by first | omega | (simp [conj] at hg; omega))) rfl rfl rfl ?_
          refine XO_buildSlice (ps := [(0, _)]) (m := [encI (p6.2 + stepF q.1 p6.1)]) elt_22 rfl (.cons rfl (.nil)) rfl (by simp [encI_len]) (by decide) (by decide) rfl rfl (fun b_86 => ?_)
          refine XO_append (v := _) (ys := [(p6.2 + stepF q.1 p6.1)].flatMap encI) (L := L) rfl rfl elt_22 hO6 (by repeat (first | exact .cons .here .nil | exact split_all | exact split_app | apply split_cons | apply split_skip)) ⟨rfl, fun _ => rfl, Cells.here⟩ (one_I _) (by omega) rfl rfl ?_
          intro v9 L9 hO9 _; rw [← List.flatMap_append] at hO9
          refine XO_v0 (ev_assign rfl) rfl rfl rfl ?_
          refine XO_nil ?_
          refine at_block_n ?_
          have hs9 := snd_nodup hnd6 hlt6 hns6 (List.getElem?_eq_some_iff.1 hp6).1
          exact at_met2 _ _ ⟨mj.length - (seen6 ++ [i6]).length, by rw [List.length_append, List.length_singleton]; have := hs9.2.2; rw [List.length_append, List.length_singleton] at this; omega, seen6 ++ [i6], v9, q6 + 1, L9, rfl, rfl, rfl, rfl, by rw [vis_snoc hp6, List.map_append]; exact hO9, by rw [List.length_append, List.length_singleton]; omega, hs9.1, hs9.2.1⟩ (.cons rfl (.cons rfl (.cons rfl (.cons rfl (.cons rfl (.cons rfl (.cons rfl (.cons rfl (.cons rfl (.cons rfl .nil)))))))))) (by repeat (first | exact .refl | exact subL_left | refine subL_app ?_ | refine .drop ?_ | refine subL_add ?_))
        · skip
          obtain ⟨rfl, hall6⟩ := hno hc76
          have hlen6 := (seen_perm hnd6 hlt6 hall6).length_eq
          rw [List.length_range] at hlen6
          have hne6 := hRj.ne
          have hbe := below_eq hRj hbj (vis_all hnd6 hlt6 hall6) q.1
          refine X_exit ?_
          refine at_then_e ?_
          refine at_then_e ?_
          refine at_block_hit ?_
          refine at_then ?_
          refine X_freezeO hO6 encI_len (by decide) split_app (fun I7 hI7 af7 cf7 ef7 hLst => ?_)
          subst ef7
          have hE := hE.mono hI7
          have hMa := hMa.mono hI7
          have hMb := hMb.mono hI7
          have hMj := hMj.mono hI7
          have hIc := hIc.trans hI7
          have hB2 := hB2.trans hI7
          have hB4 := hB4.trans hI7
          have hD := HLe.refl I7
          refine X_noP ?_
          refine X_drawS I7 [] mixed ?_
          refine XD_take 0 rfl (ev_move rfl) (.none rfl) rfl rfl rfl (by kernel_rfl) (by kernel_rfl) (by kernel_rfl) noP_ok hD (by repeat (first | exact .refl | exact subL_nil | refine .keep ?_ | refine .drop ?_ | refine subL_add ?_)) ?_
          refine XD_take 1 rfl (ev_move rfl) (.none rfl) rfl rfl rfl (by kernel_rfl) (by kernel_rfl) (by kernel_rfl) noP_ok hD (by repeat (first | exact .refl | exact subL_nil | refine .keep ?_ | refine .drop ?_ | refine subL_add ?_)) ?_
          refine XD_take 3 rfl (ev_move rfl) (.none rfl) rfl rfl rfl (by kernel_rfl) (by kernel_rfl) (by kernel_rfl) noP_ok hD (by repeat (first | exact .refl | exact subL_nil | refine .keep ?_ | refine .drop ?_ | refine subL_add ?_)) ?_
          refine XD_two 2 4 rfl rfl (by kernel_rfl) ?_ ?_
          · skip
            refine XO_v0 (ev_lookupI (m := m2) (a := q.1) mpt_42 key_3 rfl rfl (fun _ => (by first | exact Mem.m0 | exact Mem.m1 | exact Mem.m2 | exact Mem.m3 | exact Mem.m4 | exact Mem.m5 | (repeat (first | exact Mem.m0 | apply Mem.there | apply Mem.app))))) rfl rfl rfl ?_
            refine XO_nil ?_
            refine at_D hD (by repeat (first | exact .refl | exact subL_nil | refine .keep ?_ | refine .drop ?_ | refine subL_add ?_)) ?_
            refine XD_one 4 rfl (by kernel_rfl) ?_
            refine XO_callV0 (cap := []) (vs := [_]) rfl rfl fun_71 (w_leastE hbe.1 hLst (by omega) (by omega)) rfl rfl ?_
            refine XO_nil ?_
            refine at_D hD (by repeat (first | exact .refl | exact subL_nil | refine .keep ?_ | refine .drop ?_ | refine subL_add ?_)) ?_
            refine XD_take 5 rfl (ev_arB rfl rfl rfl (fun hg => by first | omega | (simp [conj] at hg; omega))) (.none rfl) rfl rfl rfl (by kernel_rfl) (by kernel_rfl) (by kernel_rfl) noP_ok hD (by repeat (first | exact .refl | exact subL_nil | refine .keep ?_ | refine .drop ?_ | refine subL_add ?_)) ?_
            refine XD_one 6 rfl (by kernel_rfl) ?_
            refine XO_mapUpdate (m := m2) (ek := eiv) (ev := eiv) (a := q.1) ((mget m2 q.1).getD 0 + belowF (statesF rows l) (if j = 0 then (costsF rows xs l f (splitF xs s)) else (costsF rows xs l f (s - splitF xs s))) q.1) mpt_42 key_3 rfl rfl rfl rfl (by first | exact Upd.u0 | exact Upd.u1 | exact Upd.u2 | exact Upd.u3 | exact Upd.u4 | exact Upd.u5 | (repeat (first | exact Upd.here | apply Upd.there | apply upd_app))) ?_
            refine XO_nil ?_
            refine at_D hD (by repeat (first | exact .refl | exact subL_nil | refine .keep ?_ | refine .drop ?_ | refine subL_add ?_)) ?_
            refine XD_done (by kernel_rfl) ?_
            refine at_noP ?_
            refine at_block_n ?_
            have hs9 := snd_nodup hnd4 hlt4 hns (List.getElem?_eq_some_iff.1 hq).1
            rw [hlk, tot_step hlt_j]
            exact at_met2 _ _ ⟨(stM rows l).length - (seen ++ [i]).length, by rw [List.length_append, List.length_singleton]; have := hs9.2.2; rw [List.length_append, List.length_singleton] at this; omega, seen ++ [i], mset m2 q.1 (totF (statesF rows l) (costsF rows xs l f (splitF xs s)) (costsF rows xs l f (s - splitF xs s)) (j + 1) q.1), rfl, rfl, hB4, rfl, hF_set hm2 hq, hs9.1, hs9.2.1⟩ (.cons rfl (.cons rfl (.cons rfl (.cons rfl (.cons rfl (.cons rfl (.cons rfl .nil))))))) (by repeat (first | exact .refl | exact subL_left | refine subL_app ?_ | refine .drop ?_ | refine subL_add ?_))
          · skip
            refine XO_callV0 (cap := []) (vs := [_]) rfl rfl fun_71 (w_leastE hbe.1 hLst (by omega) (by omega)) rfl rfl ?_
            refine XO_nil ?_
            refine at_D hD (by repeat (first | exact .refl | exact subL_nil | refine .keep ?_ | refine .drop ?_ | refine subL_add ?_)) ?_
            refine XD_one 2 rfl (by kernel_rfl) ?_
            refine XO_v0 (ev_lookupI (m := m2) (a := q.1) mpt_42 key_3 rfl rfl (fun _ => (by first | exact Mem.m0 | exact Mem.m1 | exact Mem.m2 | exact Mem.m3 | exact Mem.m4 | exact Mem.m5 | (repeat (first | exact Mem.m0 | apply Mem.there | apply Mem.app))))) rfl rfl rfl ?_
            refine XO_nil ?_
            refine at_D hD (by repeat (first | exact .refl | exact subL_nil | refine .keep ?_ | refine .drop ?_ | refine subL_add ?_)) ?_
            refine XD_take 5 rfl (ev_arB rfl rfl rfl (fun hg => by first | omega | (simp [conj] at hg; omega))) (.none rfl) rfl rfl rfl (by kernel_rfl) (by kernel_rfl) (by kernel_rfl) noP_ok hD (by repeat (first | exact .refl | exact subL_nil | refine .keep ?_ | refine .drop ?_ | refine subL_add ?_)) ?_
            refine XD_one 6 rfl (by kernel_rfl) ?_
            refine XO_mapUpdate (m := m2) (ek := eiv) (ev := eiv) (a := q.1) ((mget m2 q.1).getD 0 + belowF (statesF rows l) (if j = 0 then (costsF rows xs l f (splitF xs s)) else (costsF rows xs l f (s - splitF xs s))) q.1) mpt_42 key_3 rfl rfl rfl rfl (by first | exact Upd.u0 | exact Upd.u1 | exact Upd.u2 | exact Upd.u3 | exact Upd.u4 | exact Upd.u5 | (repeat (first | exact Upd.here | apply Upd.there | apply upd_app))) ?_
            refine XO_nil ?_
            refine at_D hD (by repeat (first | exact .refl | exact subL_nil | refine .keep ?_ | refine .drop ?_ | refine subL_add ?_)) ?_
            refine XD_done (by kernel_rfl) ?_
            refine at_noP ?_
            refine at_block_n ?_
            have hs9 := snd_nodup hnd4 hlt4 hns (List.getElem?_eq_some_iff.1 hq).1
            rw [hlk, tot_step hlt_j]
            exact at_met2 _ _ ⟨(stM rows l).length - (seen ++ [i]).length, by rw [List.length_append, List.length_singleton]; have := hs9.2.2; rw [List.length_append, List.length_singleton] at this; omega, seen ++ [i], mset m2 q.1 (totF (statesF rows l) (costsF rows xs l f (splitF xs s)) (costsF rows xs l f (s - splitF xs s)) (j + 1) q.1), rfl, rfl, hB4, rfl, hF_set hm2 hq, hs9.1, hs9.2.1⟩ (.cons rfl (.cons rfl (.cons rfl (.cons rfl (.cons rfl (.cons rfl (.cons rfl .nil))))))) (by repeat (first | exact .refl | exact subL_left | refine subL_app ?_ | refine .drop ?_ | refine subL_add ?_))
      · skip
        obtain ⟨rfl, hall⟩ := hno hc70
        refine X_exit ?_
        refine at_then_e ?_
        refine at_then_e ?_
        refine at_block_hit ?_
        refine at_block_n ?_
        refine at_then ?_
        refine X_region ?_
        refine XO_v0 (ev_arB rfl rfl rfl (fun hg => by first | omega | (simp [conj] at hg; omega))) rfl rfl rfl ?_
        refine XO_v0 (ev_move rfl) rfl rfl rfl ?_
        refine XO_nil ?_
        exact at_met2 _ _ ⟨2 - (j + 1), by omega, j + 1, m2, rfl, rfl, hB2, rfl, by omega, hF_end hm2 hnd4 hlt4 hall⟩ (.cons rfl (.cons rfl (.cons rfl (.cons rfl (.cons rfl .nil))))) (by repeat (first | exact .refl | exact subL_left | refine subL_app ?_ | refine .drop ?_ | refine subL_add ?_))
    · skip
      have hge_j : 2 ≤ j := by have h := hc64; simp at h; omega
      have hj2 : j = 2 := by omega
      subst hj2
      refine X_exit ?_
      refine at_then_e ?_
      refine at_then_e ?_
      refine at_block_hit ?_
      refine at_then ?_
      refine X_seq ?_
      refine X_region ?_
      refine XO_v0 (ev_move rfl) rfl rfl rfl ?_
      refine XO_v0 (ev_assign rfl) rfl rfl rfl ?_
      refine XO_nil ?_
      refine at_then ?_
      refine X_ret ?_
      first
      | exact at_ret1 rfl rfl (fun w hw => by obtain ⟨I9, h91, h92, h93⟩ := hw.freezeAll; exact ⟨_, I9, [], rfl, hIc.trans h91, h92, rfl, r_20, m, rfl, h93 _ _ (by simp), by rw [costs_leaf hz]; exact leaf_end (by omega) hv hm hnd hlt hall⟩)
      | exact at_ret1 rfl rfl (fun w hw => by obtain ⟨I9, h91, h92, h93⟩ := hw.freezeAll; exact ⟨_, I9, [], rfl, hIc.trans h91, h92, rfl, r_20, m, rfl, h93 _ _ (by simp), by rw [costs_two hz]; exact two_end (List.ne_nil_of_length_pos st_pos) hRa hRb (by omega) (by omega) (by omega) hm⟩)
end Go.Proofs.YtkpmnnflikkhmaaDoor
end
section
namespace Go.Proofs.YtkpmnnflikkhmaaDoor
open Go Go.Kn Go.Proofs
theorem fun_58 : Fun Tryd.prog 58 := .of Tryd.func58 (by kernel_rfl) (by kernel_rfl)
theorem szt_42 : SzT Tryd.prog 42 1 := .of (by kernel_rfl)
theorem szt_83 : SzT Tryd.prog 83 1 := .of (by kernel_rfl)
theorem zt_42 : ZeroT Tryd.prog 42 (.map none) := .of (by kernel_rfl)
theorem zt_83 : ZeroT Tryd.prog 83 .nilFunc := .of (by kernel_rfl)
theorem w_price1F {brow bloc bcst bcla bbel rm : Nat} {av bv : Option Addr} {n c n2 c2 : Nat} {xs : List Int} {rows : List (List Int)} {l : Nat} (hn : n ≤ 100000) (hn2 : n2 ≤ 100000) (hl : ∀ r ∈ rows, l < r.length) (hc : chkN rows.length xs = 0) : ∀ (f : Nat) (I : HMap), PrE I 68 brow bloc bcst bcla bbel rm av bv n c n2 c2 xs rows l → ∀ (s : Int), OkS rows.length xs s → s.toNat ≤ f → RetM Tryd.prog 68 ([.int .i64 s] ++ [capP brow, capP bloc, capP bcst, capP bcla, capP bbel]) I [] (MapQ (statesF rows l) (costsF rows xs l f s) (8 * (s - 1)))
  | 0, _, _, s, hok, hf => by have := hok.1; omega
  | f + 1, I, hE, s, hok, hf => w_price1 hE hn hn2 hl hc f s hok fun I' hI s' hok' hlt => w_price1F hn hn2 hl hc f I' (hE.mono hI) s' hok' (by have := hok'.1; have := hok.1; omega)
theorem w_price1A {I : HMap} {brow bloc bcst bcla bbel rm : Nat} {av bv : Option Addr} {n c n2 c2 : Nat} {xs : List Int} {rows : List (List Int)} {l : Nat} (hE : PrE I 68 brow bloc bcst bcla bbel rm av bv n c n2 c2 xs rows l) (hn : n ≤ 100000) (hn2 : n2 ≤ 100000) (hl : ∀ r ∈ rows, l < r.length) (hc : chkN rows.length xs = 0) : RetM Tryd.prog 68 ([.int .i64 (IntKind.i64.wrap (1 * 2 ^ (min (n2 : Int).toNat IntKind.i64.bits)) - 1)] ++ [capP brow, capP bloc, capP bcst, capP bcla, capP bbel]) I [] (MapQ (statesF rows l) (costsF rows xs l 64 (allS rows.length)) (8 * (allS rows.length - 1))) := by
  have hlV := hE.hV.len
  subst hlV
  exact w_price1F hn hn2 hl hc 64 I hE (allS rows.length) (ok_all hc) (by have := (all_in (n := (rows.length : Int)) ⟨(chkN_ok hc).1, (chkN_ok hc).2.1⟩).2; omega)
theorem w_price {I : HMap} {av : Option Addr} {n c : Nat} {xs : List Int} (hS : Sl I 1 encI av n c xs) (hn : n ≤ 100000) {bv : Option Addr} {n2 c2 : Nat} {rows : List (List Int)} (hV : SlN I bv n2 c2 rows) (hn2 : n2 ≤ 100000) {l : Nat} (hDb : DebOK I) (hl : ∀ r ∈ rows, l < r.length) (hl64 : l ≤ 64) (hc : chkN rows.length xs = 0) : RetV Tryd.prog 58 [.slice bv n2 c2, .slice av n c, .int .i64 l] I (.int .i64 (leastF (costsF rows xs l 64 (allS rows.length)))) := by
  intro g H w hw
  refine enter Tryd.func58 rfl Tryd.ntmps58 rfl hw ?_
  have hIc := HLe.refl I
  obtain ⟨hs, hV⟩ := hV
  have hH := hV.1
  have hlV := hV.len
  have hal := (chkN_ok hc).1
  have hal6 := (chkN_ok hc).2.1
  have hsl := st_len (rows := rows) (l := l)
  have hsh := shl_in (n := (n2 : Int)) ⟨by omega, by omega⟩
  refine X_seq ?_
  refine X_region ?_
  refine XO_box rfl rfl rfl (fun b_3 => ?_)
  refine XO_box rfl rfl rfl (fun b_4 => ?_)
  refine XO_box rfl rfl rfl (fun b_5 => ?_)
  refine XO_v0 (ev_assign rfl) rfl rfl rfl ?_
  refine XO_nil ?_
  refine at_then ?_
  refine X_seq ?_
  refine X_region ?_
  refine XO_makeMap rfl rfl (fun r_14 => ?_)
  refine XO_insert (m := []) (ek := eiv) (ev := eiv) (a := 0) 0 mpt_42 key_3 rfl rfl rfl rfl (by first | exact Upd.u0 | exact Upd.u1 | exact Upd.u2 | exact Upd.u3 | exact Upd.u4 | exact Upd.u5 | (repeat (first | exact Upd.here | apply Upd.there | apply upd_app))) ?_
  refine XO_v0 (ev_move rfl) rfl rfl rfl ?_
  refine XO_alloc zt_42 rfl rfl (fun b_7 => ?_)
  refine XO_store rfl rfl szt_42 rfl rfl (by first | exact Upd.u0 | exact Upd.u1 | exact Upd.u2 | exact Upd.u3 | exact Upd.u4 | exact Upd.u5 | (repeat (first | exact Upd.here | apply Upd.there | apply upd_app))) rfl ?_
  refine XO_nil ?_
  refine at_then ?_
  refine X_seq ?_
  refine X_seq ?_
  refine X_region ?_
  refine XO_v0 (ev_load rfl sct_28 (fun hg => by first | exact Sl.get0 hH hx rfl | exact Sl.get0 hQ hu rfl | exact hE.bel.any | exact hE.row.any | exact Cell.h0 rfl | exact Cell.h1 rfl | exact Cell.h2 rfl | exact Cell.h3 rfl | exact Cell.h4 rfl | exact Cell.h5 rfl | (repeat (first | exact Cell.here rfl | apply Cell.there | apply Cell.app)))) rfl rfl rfl ?_
  refine XO_v0 (ev_lenS rfl slt_28) rfl rfl rfl ?_
  refine XO_v0 (ev_move rfl) rfl rfl rfl ?_
  refine XO_nil ?_
  refine at_then ?_
  refine X_block ?_
  refine X_loopT [(3, _), (4, _), (5, _), (7, _), (16, _), (17, _)] (.cons rfl (.cons rfl (.cons rfl (.cons rfl (.cons rfl (.cons rfl .nil)))))) (fun T L0 mz E I' loc' => ∃ (k : Nat), mz = n2 - k ∧ E = (18, .int .i64 k) :: T ∧ I = I' ∧ [(b_7, .cells #[.map (some r_14)] 42 (0, 0)), (r_14, mapO eiv eiv (stM (rows.take k) l)), (b_5, .cells #[.int .i64 l] 3 (0, 0)), (b_4, .cells #[.slice av n c] 22 (0, 0)), (b_3, .cells #[.slice bv n2 c2] 28 (0, 0))] = loc' ∧ k ≤ n2) _ _ _ _ ⟨0, rfl, rfl, rfl, rfl, Nat.zero_le _⟩ (.cons rfl (.cons rfl (.cons rfl (.cons rfl (.cons rfl (.cons rfl (.cons rfl .nil))))))) (HLe.refl _) rfl ?_
  rintro mz E I' loc' ⟨k, rfl, rfl, rfl, rfl, hk⟩
  refine X_seq ?_
  refine X_region ?_
  refine XO_v0 (ev_cmp rfl rfl rfl) rfl rfl rfl ?_
  refine XO_nil ?_
  refine at_then ?_
  refine X_seq ?_
  refine X_cond rfl (fun hc19 => ?_) (fun hc19 => ?_)
  · skip
    have hlt_k : k < n2 := by have h := hc19; simp at h; omega
    obtain ⟨x, v, hx, hv, hQ⟩ := hV.at hlt_k
    have hlv := hl v (List.mem_of_getElem? hv)
    have hu := some_getD (d := 0) rfl hlv
    have hvn := hQ.len
    refine X_skip ?_
    refine at_then ?_
    refine X_seq ?_
    refine X_block ?_
    refine X_seq ?_
    refine X_region ?_
    refine XO_v0 (ev_indexSl rfl rfl slt_28 hH (fun hg => by first | omega | (simp [conj] at hg; omega))) rfl rfl rfl ?_
    refine XO_v0 (ev_load rfl sct_22 (fun hg => by first | exact Sl.get0 hH hx rfl | exact Sl.get0 hQ hu rfl | exact hE.bel.any | exact hE.row.any | exact Cell.h0 rfl | exact Cell.h1 rfl | exact Cell.h2 rfl | exact Cell.h3 rfl | exact Cell.h4 rfl | exact Cell.h5 rfl | (repeat (first | exact Cell.here rfl | apply Cell.there | apply Cell.app)))) rfl rfl rfl ?_
    refine XO_v0 (ev_assign rfl) rfl rfl rfl ?_
    refine XO_nil ?_
    refine at_then ?_
    refine X_seq ?_
    refine X_region ?_
    refine XO_v0 (ev_move rfl) rfl rfl rfl ?_
    refine XO_v0 (ev_load rfl sct_3 (fun hg => by first | exact Sl.get0 hH hx rfl | exact Sl.get0 hQ hu rfl | exact hE.bel.any | exact hE.row.any | exact Cell.h0 rfl | exact Cell.h1 rfl | exact Cell.h2 rfl | exact Cell.h3 rfl | exact Cell.h4 rfl | exact Cell.h5 rfl | (repeat (first | exact Cell.here rfl | apply Cell.there | apply Cell.app)))) rfl rfl rfl ?_
    refine XO_v0 (ev_indexSl rfl rfl slt_22 hQ (fun hg => by first | omega | (simp [conj] at hg; omega))) rfl rfl rfl ?_
    refine XO_v0 (ev_load rfl sct_3 (fun hg => by first | exact Sl.get0 hH hx rfl | exact Sl.get0 hQ hu rfl | exact hE.bel.any | exact hE.row.any | exact Cell.h0 rfl | exact Cell.h1 rfl | exact Cell.h2 rfl | exact Cell.h3 rfl | exact Cell.h4 rfl | exact Cell.h5 rfl | (repeat (first | exact Cell.here rfl | apply Cell.there | apply Cell.app)))) rfl rfl rfl ?_
    refine XO_v0 (ev_cmp rfl rfl rfl) rfl rfl rfl ?_
    refine XO_nil ?_
    refine at_then ?_
    refine X_cond rfl (fun hc26 => ?_) (fun hc26 => ?_)
    · skip
      have hne : v.getD l 0 ≠ 8589934592 := by simpa using hc26
      have hD := HLe.refl I
      refine X_noP ?_
      refine X_drawS I [(b_7, .cells #[.map (some r_14)] 42 (0, 0)), (b_5, .cells #[.int .i64 l] 3 (0, 0)), (b_4, .cells #[.slice av n c] 22 (0, 0)), (b_3, .cells #[.slice bv n2 c2] 28 (0, 0))] mixed ?_
      refine XD_take 0 rfl (ev_load rfl sct_42 (fun hg => by first | exact Sl.get0 hH hx rfl | exact Sl.get0 hQ hu rfl | exact hE.bel.any | exact hE.row.any | exact Cell.h0 rfl | exact Cell.h1 rfl | exact Cell.h2 rfl | exact Cell.h3 rfl | exact Cell.h4 rfl | exact Cell.h5 rfl | (repeat (first | exact Cell.here rfl | apply Cell.there | apply Cell.app)))) (.none rfl) rfl rfl rfl (by kernel_rfl) (by kernel_rfl) (by kernel_rfl) noP_ok hD (by repeat (first | exact .refl | exact subL_nil | refine .keep ?_ | refine .drop ?_ | refine subL_add ?_)) ?_
      refine XD_take 1 rfl (ev_move rfl) (.none rfl) rfl rfl rfl (by kernel_rfl) (by kernel_rfl) (by kernel_rfl) noP_ok hD (by repeat (first | exact .refl | exact subL_nil | refine .keep ?_ | refine .drop ?_ | refine subL_add ?_)) ?_
      refine XD_take 2 rfl (ev_load rfl sct_3 (fun hg => by first | exact Sl.get0 hH hx rfl | exact Sl.get0 hQ hu rfl | exact hE.bel.any | exact hE.row.any | exact Cell.h0 rfl | exact Cell.h1 rfl | exact Cell.h2 rfl | exact Cell.h3 rfl | exact Cell.h4 rfl | exact Cell.h5 rfl | (repeat (first | exact Cell.here rfl | apply Cell.there | apply Cell.app)))) (.none rfl) rfl rfl rfl (by kernel_rfl) (by kernel_rfl) (by kernel_rfl) noP_ok hD (by repeat (first | exact .refl | exact subL_nil | refine .keep ?_ | refine .drop ?_ | refine subL_add ?_)) ?_
      refine XD_take 3 rfl (ev_indexSl rfl rfl slt_22 hQ (fun hg => by first | omega | (simp [conj] at hg; omega))) (.none rfl) rfl rfl rfl (by kernel_rfl) (by kernel_rfl) (by kernel_rfl) noP_ok hD (by repeat (first | exact .refl | exact subL_nil | refine .keep ?_ | refine .drop ?_ | refine subL_add ?_)) ?_
      refine XD_take 4 rfl (ev_load rfl sct_3 (fun hg => by first | exact Sl.get0 hH hx rfl | exact Sl.get0 hQ hu rfl | exact hE.bel.any | exact hE.row.any | exact Cell.h0 rfl | exact Cell.h1 rfl | exact Cell.h2 rfl | exact Cell.h3 rfl | exact Cell.h4 rfl | exact Cell.h5 rfl | (repeat (first | exact Cell.here rfl | apply Cell.there | apply Cell.app)))) (.none rfl) rfl rfl rfl (by kernel_rfl) (by kernel_rfl) (by kernel_rfl) noP_ok hD (by repeat (first | exact .refl | exact subL_nil | refine .keep ?_ | refine .drop ?_ | refine subL_add ?_)) ?_
      refine XD_one 5 rfl (by kernel_rfl) ?_
      refine XO_mapUpdate (m := stM (rows.take k) l) (ek := eiv) (ev := eiv) (a := v.getD l 0) 0 mpt_42 key_3 rfl rfl rfl rfl (by first | exact Upd.u0 | exact Upd.u1 | exact Upd.u2 | exact Upd.u3 | exact Upd.u4 | exact Upd.u5 | (repeat (first | exact Upd.here | apply Upd.there | apply upd_app))) ?_
      refine XO_nil ?_
      refine at_D hD (by repeat (first | exact .refl | exact subL_nil | refine .keep ?_ | refine .drop ?_ | refine subL_add ?_)) ?_
      refine XD_done (by kernel_rfl) ?_
      refine at_noP ?_
      rw [stM_put hv hne]
      refine at_block_n ?_
      refine at_then ?_
      refine X_region ?_
      refine XO_v0 (ev_arB rfl rfl rfl (fun hg => by first | omega | (simp [conj] at hg; omega))) rfl rfl rfl ?_
      refine XO_v0 (ev_move rfl) rfl rfl rfl ?_
      refine XO_nil ?_
      exact at_met2 _ _ ⟨n2 - (k + 1), by omega, k + 1, rfl, rfl, rfl, rfl, by omega⟩ (.cons rfl (.cons rfl (.cons rfl (.cons rfl (.cons rfl (.cons rfl (.cons rfl .nil))))))) (by repeat (first | exact .refl | exact subL_left | refine subL_app ?_ | refine .drop ?_ | refine subL_add ?_))
    · skip
      have heq : v.getD l 0 = 8589934592 := by simpa using hc26
      rw [stM_skip hv heq]
      refine X_skip ?_
      refine at_block_n ?_
      refine at_then ?_
      refine X_region ?_
      refine XO_v0 (ev_arB rfl rfl rfl (fun hg => by first | omega | (simp [conj] at hg; omega))) rfl rfl rfl ?_
      refine XO_v0 (ev_move rfl) rfl rfl rfl ?_
      refine XO_nil ?_
      exact at_met2 _ _ ⟨n2 - (k + 1), by omega, k + 1, rfl, rfl, rfl, rfl, by omega⟩ (.cons rfl (.cons rfl (.cons rfl (.cons rfl (.cons rfl (.cons rfl (.cons rfl .nil))))))) (by repeat (first | exact .refl | exact subL_left | refine subL_app ?_ | refine .drop ?_ | refine subL_add ?_))
  · skip
    have hge_k : n2 ≤ k := by have h := hc19; simp at h; omega
    rw [List.take_of_length_le (show rows.length ≤ k by omega)]
    refine X_exit ?_
    refine at_then_e ?_
    refine at_then_e ?_
    refine at_block_hit ?_
    refine at_then ?_
    refine X_seq ?_
    refine X_region ?_
    refine XO_alloc zt_83 rfl rfl (fun b_10 => ?_)
    refine XO_nil ?_
    refine at_then ?_
    refine X_seq ?_
    refine X_region ?_
    refine XO_v0 (ev_makeFunc (us := []) (vs := [_, _, _, _, _]) rfl rfl) rfl rfl rfl ?_
    refine XO_store rfl rfl szt_83 rfl rfl (by first | exact Upd.u0 | exact Upd.u1 | exact Upd.u2 | exact Upd.u3 | exact Upd.u4 | exact Upd.u5 | (repeat (first | exact Upd.here | apply Upd.there | apply upd_app))) rfl ?_
    refine XO_nil ?_
    refine at_then ?_
    refine X_seq ?_
    refine X_region ?_
    refine XO_v0 (ev_assign rfl) rfl rfl rfl ?_
    refine XO_nil ?_
    refine at_then ?_
    refine X_seq ?_
    refine X_seq ?_
    refine X_freezeAll (fun I2 hI2 hall => ?_)
    have hS := hS.mono hI2
    have hH := hH.mono hI2
    have hV := hV.mono hI2
    have hDb := hDb.mono hI2
    have hIc := hIc.trans hI2
    have hE : PrE I2 68 b_3 b_5 b_7 b_4 b_10 r_14 av bv n c n2 c2 xs rows l := ⟨.imm (hall _ _ (by repeat (first | exact List.mem_cons_self .. | apply List.mem_cons_of_mem))) rfl, .imm (hall _ _ (by repeat (first | exact List.mem_cons_self .. | apply List.mem_cons_of_mem))) rfl, .imm (hall _ _ (by repeat (first | exact List.mem_cons_self .. | apply List.mem_cons_of_mem))) rfl, .imm (hall _ _ (by repeat (first | exact List.mem_cons_self .. | apply List.mem_cons_of_mem))) rfl, .imm (hall _ _ (by repeat (first | exact List.mem_cons_self .. | apply List.mem_cons_of_mem))) rfl, hall _ _ (by repeat (first | exact List.mem_cons_self .. | apply List.mem_cons_of_mem)), hDb, hS, ⟨hs, hV⟩⟩
    have hD := HLe.refl I2
    refine X_drawC mixed ?_
    refine XD_take 0 rfl (ev_load rfl sct_83 (fun hg => by first | exact Sl.get0 hH hx rfl | exact Sl.get0 hQ hu rfl | exact hE.bel.any | exact hE.row.any | exact Cell.h0 rfl | exact Cell.h1 rfl | exact Cell.h2 rfl | exact Cell.h3 rfl | exact Cell.h4 rfl | exact Cell.h5 rfl | (repeat (first | exact Cell.here rfl | apply Cell.there | apply Cell.app)))) (.none rfl) rfl rfl rfl (by kernel_rfl) (by kernel_rfl) (by kernel_rfl) noP_ok hD (by repeat (first | exact .refl | exact subL_nil | refine .keep ?_ | refine .drop ?_ | refine subL_add ?_)) ?_
    refine XD_take 1 rfl (ev_load rfl sct_28 (fun hg => by first | exact Sl.get0 hH hx rfl | exact Sl.get0 hQ hu rfl | exact hE.bel.any | exact hE.row.any | exact Cell.h0 rfl | exact Cell.h1 rfl | exact Cell.h2 rfl | exact Cell.h3 rfl | exact Cell.h4 rfl | exact Cell.h5 rfl | (repeat (first | exact Cell.here rfl | apply Cell.there | apply Cell.app)))) (.none rfl) rfl rfl rfl (by kernel_rfl) (by kernel_rfl) (by kernel_rfl) noP_ok hD (by repeat (first | exact .refl | exact subL_nil | refine .keep ?_ | refine .drop ?_ | refine subL_add ?_)) ?_
    refine XD_take 2 rfl (ev_lenS rfl slt_28) (.none rfl) rfl rfl rfl (by kernel_rfl) (by kernel_rfl) (by kernel_rfl) noP_ok hD (by repeat (first | exact .refl | exact subL_nil | refine .keep ?_ | refine .drop ?_ | refine subL_add ?_)) ?_
    refine XD_take 3 rfl (ev_shl rfl rfl (fun hg => by first | decide | omega | (simp [conj] at hg; omega))) (.none rfl) rfl rfl rfl (by kernel_rfl) (by kernel_rfl) (by kernel_rfl) noP_ok hD (by repeat (first | exact .refl | exact subL_nil | refine .keep ?_ | refine .drop ?_ | refine subL_add ?_)) ?_
    refine XD_take 4 rfl (ev_arB rfl rfl rfl (fun hg => by first | omega | (simp [conj] at hg; omega))) (.none rfl) rfl rfl rfl (by kernel_rfl) (by kernel_rfl) (by kernel_rfl) noP_ok hD (by repeat (first | exact .refl | exact subL_nil | refine .keep ?_ | refine .drop ?_ | refine subL_add ?_)) ?_
    refine XD_one 5 rfl (by kernel_rfl) ?_
    refine XO_callM (cap := [capP b_3, capP b_5, capP b_7, capP b_4, capP b_10]) (vs := [_]) rfl rfl fun_68 (by first | exact .nil | exact split_nil | exact split_right (L := [])) (w_price1A hE hn hn2 hl hc) rfl rfl ?_
    rintro vv3 I3 L3 hI3 ⟨rfl, rm2, m, rfl, hM2, hR2⟩
    have hS := hS.mono hI3
    have hH := hH.mono hI3
    have hV := hV.mono hI3
    have hDb := hDb.mono hI3
    have hE := hE.mono hI3
    have hIc := hIc.trans hI3
    have hD := hD.trans hI3
    have hml := hR2.small
    have hmp := hR2.ne
    refine XO_nil ?_
    refine at_D hD (by repeat (first | exact .refl | exact subL_nil | refine .keep ?_ | refine .drop ?_ | refine subL_add ?_)) ?_
    refine XD_one 6 rfl (by kernel_rfl) ?_
    refine XO_range (ek := eiv) (ev := eiv) (m := m) rfl mpt_42 rfl rfl (.inl hM2) (fun b_40 => ?_)
    refine XO_nil ?_
    refine at_D hD (by repeat (first | exact .refl | exact subL_nil | refine .keep ?_ | refine .drop ?_ | refine subL_add ?_)) ?_
    refine XD_done (by kernel_rfl) ?_
    refine at_noP ?_
    refine at_then ?_
    refine X_block ?_
    refine X_loopT [(40, _)] (.cons rfl .nil) (fun T L0 mz E I' loc' => ∃ (seen : List Nat) (v6 : Value) (q6 : Nat) (L : Go.Kn.Loc), mz = m.length - seen.length ∧ E = (11, v6) :: T ∧ I3 = I' ∧ L ++ [(b_40, iterO rm2 m.length seen)] = loc' ∧ OwnS 3 1 v6 q6 (((visO m seen).map (·.2)).flatMap encI) L ∧ q6 = seen.length ∧ seen.Nodup ∧ ∀ i ∈ seen, i < m.length) _ _ _ _ ⟨[], _, 0, [], rfl, rfl, rfl, rfl, OwnS.nil, rfl, .nil, fun i h => by cases h⟩ (.cons rfl (.cons rfl .nil)) (HLe.refl _) rfl ?_
    rintro mz E I' loc' ⟨seen, v6, q6, L, rfl, rfl, rfl, rfl, hO6, hq6, hnd, hlt⟩
    have hsl6 := seen_lt hnd hlt
    refine X_seq ?_
    refine X_region ?_
    refine XO_next2 (ek := eiv) (ev := eiv) (m := m) (fun s' => L ++ [(b_40, iterO rm2 m.length s')]) rfl (fun s' => upd_app .here) rfl rfl rfl rfl rfl (.inl hM2) (by simp) ?_
    intro t tv s' hno hyes
    refine XO_nil ?_
    refine at_then ?_
    refine X_seq ?_
    refine X_cond rfl (fun hc42 => ?_) (fun hc42 => ?_)
    · skip
      obtain ⟨i, q, hq, hns, rfl⟩ := hyes hc42
      refine X_skip ?_
      refine at_then ?_
      refine X_block ?_
      refine X_seq ?_
      refine X_region ?_
      refine XO_v0 (ev_entry (ek := eiv) (ev := eiv) (m := m) (p := q) (seen := seen) (i := i) rfl (.inl hM2) (.inr (by simp)) hq) rfl rfl rfl ?_
      refine XO_v0 (ev_extract rfl rfl) rfl rfl rfl ?_
      refine XO_v0 (ev_assign rfl) rfl rfl rfl ?_
      refine XO_nil ?_
      refine at_then ?_
      refine X_region ?_
      refine XO_v0 (ev_move rfl) rfl rfl rfl ?_
      refine XO_v0 (ev_move rfl) rfl rfl rfl ?_
      refine XO_buildSlice (ps := [(0, _)]) (m := [encI q.2]) elt_22 rfl (.cons rfl (.nil)) rfl (by simp [encI_len]) (by decide) (by decide) rfl rfl (fun b_47 => ?_)
      refine XO_append (v := _) (ys := [q.2].flatMap encI) (L := L) rfl rfl elt_22 hO6 (by repeat (first | exact .cons .here .nil | exact split_all | exact split_app | apply split_cons | apply split_skip)) ⟨rfl, fun _ => rfl, Cells.here⟩ (one_I _) (by omega) rfl rfl ?_
      intro v9 L9 hO9 _; rw [← List.flatMap_append] at hO9
      refine XO_v0 (ev_assign rfl) rfl rfl rfl ?_
      refine XO_nil ?_
      refine at_block_n ?_
      have hs9 := snd_nodup hnd hlt hns (List.getElem?_eq_some_iff.1 hq).1
      exact at_met2 _ _ ⟨m.length - (seen ++ [i]).length, by rw [List.length_append, List.length_singleton]; have := hs9.2.2; rw [List.length_append, List.length_singleton] at this; omega, seen ++ [i], v9, q6 + 1, L9, rfl, rfl, rfl, rfl, by rw [vis_snoc hq, List.map_append]; exact hO9, by rw [List.length_append, List.length_singleton]; omega, hs9.1, hs9.2.1⟩ (.cons rfl (.cons rfl .nil)) (by repeat (first | exact .refl | exact subL_left | refine subL_app ?_ | refine .drop ?_ | refine subL_add ?_))
    · skip
      obtain ⟨rfl, hall2⟩ := hno hc42
      have hlen6 := (seen_perm hnd hlt hall2).length_eq
      rw [List.length_range] at hlen6
      refine X_exit ?_
      refine at_then_e ?_
      refine at_then_e ?_
      refine at_block_hit ?_
      refine at_then ?_
      refine X_seq ?_
      refine X_freezeO hO6 encI_len (by decide) split_app (fun I5 hI5 af5 cf5 ef5 hLst => ?_)
      subst ef5
      have hS := hS.mono hI5
      have hH := hH.mono hI5
      have hV := hV.mono hI5
      have hDb := hDb.mono hI5
      have hE := hE.mono hI5
      have hM2 := hM2.mono hI5
      have hIc := hIc.trans hI5
      refine X_region ?_
      refine XO_v0 (ev_move rfl) rfl rfl rfl ?_
      refine XO_callV0 (cap := []) (vs := [_]) rfl rfl fun_71 (w_leastE (ent_least hR2 (vis_all hnd hlt hall2)) hLst (by omega) (by omega)) rfl rfl ?_
      refine XO_v0 (ev_assign rfl) rfl rfl rfl ?_
      refine XO_nil ?_
      refine at_then ?_
      refine X_ret ?_
      exact at_ret1 rfl rfl (fun w hw => ⟨by rfl, (hw.mono hIc).drop⟩)
theorem w_cost {I : HMap} {av : Option Addr} {n c : Nat} {xs : List Int} (hS : Sl I 1 encI av n c xs) (hn : n ≤ 100000) {bv : Option Addr} {n2 c2 : Nat} {rows : List (List Int)} (hV : SlN I bv n2 c2 rows) (hn2 : n2 ≤ 100000) (hDb : DebOK I) (hr : rowsN rows = 0) (hc : chkN rows.length xs = 0) : RetV Tryd.prog 37 [.slice bv n2 c2, .slice av n c] I (.int .i64 (priceF rows xs)) := by
  intro g H w hw
  refine enter Tryd.func37 rfl Tryd.ntmps37 rfl hw ?_
  obtain ⟨hs, hV⟩ := hV
  have hH := hV.1
  have hlV := hV.len
  obtain ⟨hr1, hr6, hr64, hrr⟩ := rows_ok hr
  obtain ⟨x0, v0, hx0, hv0, hQ0⟩ := hV.at (show 0 < n2 by omega)
  have hw0 := hQ0.len
  have hg0 := getD_of (d := ([] : List Int)) hv0
  have hv64 : v0.length ≤ 64 := by rw [← hg0]; exact hr64
  refine X_seq ?_
  refine X_region ?_
  refine XO_v0 (ev_assign rfl) rfl rfl rfl ?_
  refine XO_nil ?_
  refine at_then ?_
  refine X_seq ?_
  refine X_seq ?_
  refine X_region ?_
  refine XO_v0 (ev_move rfl) rfl rfl rfl ?_
  refine XO_v0 (ev_indexSl rfl rfl slt_28 hH (fun hg => by first | omega | (simp [conj] at hg; omega))) rfl rfl rfl ?_
  refine XO_v0 (ev_load rfl sct_22 (fun hg => by first | exact Sl.get0 (k := 0) hH hx0 rfl | exact Cell.h0 rfl | exact Cell.h1 rfl | exact Cell.h2 rfl | exact Cell.h3 rfl | exact Cell.h4 rfl | exact Cell.h5 rfl | (repeat (first | exact Cell.here rfl | apply Cell.there | apply Cell.app)))) rfl rfl rfl ?_
  refine XO_v0 (ev_lenS rfl slt_22) rfl rfl rfl ?_
  refine XO_v0 (ev_move rfl) rfl rfl rfl ?_
  refine XO_nil ?_
  refine at_then ?_
  refine X_block ?_
  refine X_loopT [(0, _), (1, _), (9, _)] (.cons rfl (.cons rfl (.cons rfl .nil))) (fun T L0 mz E I' loc' => ∃ (k : Nat) (sm : Int), mz = v0.length - k ∧ E = (4, .int .i64 sm) :: (10, .int .i64 k) :: T ∧ I = I' ∧ [] = loc' ∧ k ≤ v0.length ∧ sm = priceK rows xs k ∧ 0 ≤ sm ∧ sm ≤ k * 1099511627776) _ _ _ _ ⟨0, _, rfl, rfl, rfl, rfl, Nat.zero_le _, rfl, Int.le_refl _, (show (0 : Int) ≤ ((0 : Nat) : Int) * 1099511627776 by decide)⟩ (.cons rfl (.cons rfl (.cons rfl (.cons rfl (.cons rfl .nil))))) (HLe.refl _) rfl ?_
  rintro mz E I' loc' ⟨k, sm, rfl, rfl, rfl, rfl, hk, hsm, hs1, hs2⟩
  refine X_seq ?_
  refine X_region ?_
  refine XO_v0 (ev_cmp rfl rfl rfl) rfl rfl rfl ?_
  refine XO_nil ?_
  refine at_then ?_
  refine X_seq ?_
  refine X_cond rfl (fun hc11 => ?_) (fun hc11 => ?_)
  · skip
    have hlt_k : k < v0.length := by have h := hc11; simp at h; omega
    refine X_skip ?_
    refine at_then ?_
    refine X_seq ?_
    refine X_block ?_
    refine X_seq ?_
    refine X_region ?_
    refine XO_v0 (ev_move rfl) rfl rfl rfl ?_
    refine XO_v0 (ev_assign rfl) rfl rfl rfl ?_
    refine XO_nil ?_
    refine at_then ?_
    refine X_region ?_
    refine XO_v0 (ev_move rfl) rfl rfl rfl ?_
    refine XO_v0 (ev_move rfl) rfl rfl rfl ?_
    refine XO_v0 (ev_move rfl) rfl rfl rfl ?_
    refine XO_v0 (ev_move rfl) rfl rfl rfl ?_
    refine XO_callV0 (cap := []) (vs := [_, _, _]) rfl rfl fun_58 (w_price (l := k) hS hn ⟨hs, hV⟩ hn2 hDb (fun r hm => by rw [(hrr r hm).1, hg0]; omega) (by omega) hc) rfl rfl ?_
    refine XO_v0 (ev_arB rfl rfl rfl (fun _ => by first | omega | (have hmi : 0 ≤ leastF (costsF rows xs k 64 (allS rows.length)) ∧ leastF (costsF rows xs k 64 (allS rows.length)) ≤ 1099511627776 := minK_in (cs := (costsF rows xs k 64 (allS rows.length))) (costs_in _ _) (by rw [costs_len]; exact st_pos) (costsF rows xs k 64 (allS rows.length)).length; omega))) rfl rfl rfl ?_
    refine XO_v0 (ev_assign rfl) rfl rfl rfl ?_
    refine XO_nil ?_
    refine at_block_n ?_
    refine at_then ?_
    refine X_region ?_
    refine XO_v0 (ev_arB rfl rfl rfl (fun _ => by first | omega | (have hmi : 0 ≤ leastF (costsF rows xs k 64 (allS rows.length)) ∧ leastF (costsF rows xs k 64 (allS rows.length)) ≤ 1099511627776 := minK_in (cs := (costsF rows xs k 64 (allS rows.length))) (costs_in _ _) (by rw [costs_len]; exact st_pos) (costsF rows xs k 64 (allS rows.length)).length; omega))) rfl rfl rfl ?_
    refine XO_v0 (ev_move rfl) rfl rfl rfl ?_
    refine XO_nil ?_
    exact at_met2 _ _ ⟨v0.length - (k + 1), by omega, k + 1, _, rfl, rfl, rfl, rfl, by omega, by rw [price_step, hsm], by have hmi : 0 ≤ leastF (costsF rows xs k 64 (allS rows.length)) ∧ leastF (costsF rows xs k 64 (allS rows.length)) ≤ 1099511627776 := minK_in (cs := (costsF rows xs k 64 (allS rows.length))) (costs_in _ _) (by rw [costs_len]; exact st_pos) (costsF rows xs k 64 (allS rows.length)).length; omega, by have hmi : 0 ≤ leastF (costsF rows xs k 64 (allS rows.length)) ∧ leastF (costsF rows xs k 64 (allS rows.length)) ≤ 1099511627776 := minK_in (cs := (costsF rows xs k 64 (allS rows.length))) (costs_in _ _) (by rw [costs_len]; exact st_pos) (costsF rows xs k 64 (allS rows.length)).length; omega⟩ (.cons rfl (.cons rfl (.cons rfl (.cons rfl (.cons rfl .nil))))) (by repeat (first | exact .refl | exact subL_left | refine subL_app ?_ | refine .drop ?_ | refine subL_add ?_))
  · skip
    have hge_k : k = v0.length := by have h := hc11; simp at h; omega
    refine X_exit ?_
    refine at_then_e ?_
    refine at_then_e ?_
    refine at_block_hit ?_
    refine at_then ?_
    refine X_seq ?_
    refine X_region ?_
    refine XO_v0 (ev_move rfl) rfl rfl rfl ?_
    refine XO_v0 (ev_assign rfl) rfl rfl rfl ?_
    refine XO_nil ?_
    refine at_then ?_
    refine X_ret ?_
    first
    | exact at_ret1 rfl rfl (fun w hw => ⟨by rw [hsm, hge_k, ← hg0]; rfl, hw.drop⟩)
end Go.Proofs.YtkpmnnflikkhmaaDoor
end
section
namespace Go.Kn
open Go
/-- An iterator's contract: it hands on values that stand for xs, in this order, until a round says no. -/
def SeqR {α : Type} (P : Program) (f : FuncId) (cap : List Value) (I : HMap) (rel : Value → α → HMap → Prop) (xs : List α) : Prop :=
  ∀ g l (J Jx : List α → HMap → HMap → Prop), (∀ pre I1 I2 H', HLe I1 I2 → J pre I1 H' → J pre I2 H') →
    (∀ pre x v I' H', pre ++ [x] <+: xs → HLe I I' → rel v x I' → J pre I' H' → YieldOK P g l [v] I' H' fun b I2 H2 => if b then J (pre ++ [x]) I2 H2 else Jx (pre ++ [x]) I2 H2) →
    ∀ I0 H w, HLe I I0 → J [] I0 H → St g I0 H [] w → Calls P f ((.func (.yield l) #[] #[] : Value) :: cap).toArray w fun e w' => ∃ v I' H', e = .returned v ∧ HLe I0 I' ∧ St g I' H' [] w' ∧ (J xs I' H' ∨ ∃ pre, pre <+: xs ∧ Jx pre I' H')
section
variable {g : World} {I I' H : HMap} {loc loc' L K A B : Loc} {w w' : World}
theorem St.join2 (h : St g I (addL H L) K w) (hn : (L.map (·.1)).Nodup) (hd : ∀ b o, (b, o) ∈ L → H b = none) : St g I H (K ++ L) w := by
  have h' := h.swap hn hd
  have hK : ∀ b o, (b, o) ∈ K → H b = none := fun b o hm => (addL_none (h.sepIL b o hm).2).1
  refine ⟨h.os, h.tape, h.out, h.size, h.imm, fun b o e => ?_, fun b o hm => ?_, fun b => ?_, fun b o hm => ?_, ?_⟩
  · refine h.frm b o ?_
    rw [addL_old (fun p hp => by rw [hd b p hp] at e; cases e)]; exact e
  · rcases List.mem_append.1 hm with hm | hm
    · exact h.own b o hm
    · exact h'.own b o hm
  · rcases h.sepIH b with e | e
    · exact .inl e
    · exact .inr (addL_none e).1
  · rcases List.mem_append.1 hm with hm | hm
    · exact ⟨(h.sepIL b o hm).1, hK b o hm⟩
    · exact ⟨(h'.sepIL b o hm).1, hd b o hm⟩
  · rw [List.map_append, List.nodup_append]
    refine ⟨h.nodup, hn, fun x hx y hy e => ?_⟩
    subst e
    obtain ⟨⟨b, o⟩, hm, rfl⟩ := List.mem_map.1 hx
    obtain ⟨⟨c, p⟩, hm', e⟩ := List.mem_map.1 hy
    simp only at e; subst e
    exact (addL_none (h.sepIL _ _ hm).2).2 p hm'
theorem St.permL (h : St g I H loc w) (hp : loc'.Perm loc) : St g I H loc' w := h.perm (fun p => hp.mem_iff) ((hp.map (·.1)).nodup_iff.2 h.nodup)
end
theorem subL_keepL {A B C : Loc} (h : SubL B C) : SubL (A ++ B) (A ++ C) := by
  induction A with
  | nil => exact h
  | cons x l ih => exact .keep ih
/-- A round's end, as the caller says it: the frame may have turned, Z stays. -/
def RoundZ {α : Type} (g : World) (Z : Loc) (Jc : List α → HMap → HMap → Loc → Prop) (Jx : Code → List α → HMap → HMap → Loc → Prop) (pre : List α) : Exit → Act → World → Prop
  | .normal, _, w => ∃ I H L, Jc pre I H L ∧ St g I H (L ++ Z) w
  | .ret, _, w => ∃ I H L, Jx .ret pre I H L ∧ St g I H (L ++ Z) w
  | .exit id, _, w => ∃ I H L, Jx (.exit id) pre I H L ∧ St g I H (L ++ Z) w
  | _, _, _ => False
section
variable {α : Type} {C : Cx} {Q : Exit → Act → World → Prop} {E E' : Env} {I I' : HMap} {loc loc' L Z R : Loc}
variable {Jc : List α → HMap → HMap → Loc → Prop} {Jx : Code → List α → HMap → HMap → Loc → Prop} {pre : List α}
theorem at_roundZ (h : Jc pre I C.H L) (hs : SubL (L ++ Z) loc) : At C (RoundZ C.g Z Jc Jx pre) .normal E I loc := fun _ _ _ hw => ⟨I, C.H, L, h, hw.subL hs⟩
theorem at_roundZ_ret (h : Jx .ret pre I C.H L) (hs : SubL (L ++ Z) loc) : At C (RoundZ C.g Z Jc Jx pre) .ret E I loc := fun _ _ _ hw => ⟨I, C.H, L, h, hw.subL hs⟩
end
section
variable {α : Type} {P : Program} {N : Nat} {g : World} {p : Nat} {assign body : Code} {f : FuncId} {cap : List Value} {rel : Value → α → HMap → Prop} {xs : List α} {E : Env} {I H : HMap} {L B : Loc}
/-- The loop's record. -/
def recO (fn : FuncId) (tmps : Array Value) (p : Nat) (assign body : Code) (df : Nat) (st : LoopState) (pd : Option Code) : Obj := .loop { state := st, pending := pd, fn, tmps, params := #[p], assign, body, defers := df }
/-- The rounds of a range over a function. -/
theorem rounds_R {fn : FuncId} {tmps : Array Value} {l df : Nat} {w2 : World} (Jc : List α → HMap → HMap → Loc → Prop) (Jx : Code → List α → HMap → HMap → Loc → Prop) (Ja : List α → α → Env → HMap → HMap → Loc → Prop)
    (hm : ∀ pre I1 I2 H' L', HLe I1 I2 → Jc pre I1 H' L' → Jc pre I2 H' L') (hseq : SeqR P f cap I rel xs) (hfit0 : ∀ v, Fits N [] ((p, v) :: E) { tmps := tmps.setIfInBounds p v, defers := [] }) (h0 : Jc [] I H L)
    (hass : ∀ l Z pre x v I' H' L', pre ++ [x] <+: xs → HLe I I' → rel v x I' → Jc pre I' H' L' → X ⟨P, some l, N, [], g, H'⟩ (Exit.then (Met ⟨P, some l, N, [], g, H'⟩ fun E2 I2 loc2 => HLe I' I2 ∧ ∃ L2, loc2 = L2 ++ Z ∧ Ja pre x E2 I2 H' L2) (fun _ _ _ => False)) assign ((p, v) :: E) I' (L' ++ Z))
    (hbody : ∀ l Z pre x E2 I2 H2 L2, (∃ r0, (l, Obj.loop r0) ∈ Z) → pre ++ [x] <+: xs → HLe I I2 → Ja pre x E2 I2 H2 L2 → X ⟨P, some l, N, [], g, H2⟩ (RoundZ g Z (fun q I3 H3 L3 => HLe I2 I3 ∧ Jc q I3 H3 L3) (fun c q I3 H3 L3 => HLe I2 I3 ∧ Jx c q I3 H3 L3) (pre ++ [x])) body E2 I2 (L2 ++ Z))
    (hw2 : St g I H (L ++ ((l, recO fn tmps p assign body df .ready none) :: B)) w2) :
    Calls P f ((.func (.yield l) #[] #[] : Value) :: cap).toArray w2 fun e w' => ∃ v, e = .returned v ∧
      ((∃ I' H' L', HLe I I' ∧ Jc xs I' H' L' ∧ St g I' H' (L' ++ ((l, recO fn tmps p assign body df .ready none) :: B)) w') ∨
       (∃ c pre I' H' L', HLe I I' ∧ pre <+: xs ∧ Jx c pre I' H' L' ∧ St g I' H' (L' ++ ((l, recO fn tmps p assign body df .done (some c)) :: B)) w')) := by
  let rc := recO fn tmps p assign body df
  let Lr : LoopState → Option Code → Loc → Loc := fun st pd L' => L' ++ ((l, rc st pd) :: B)
  let J : List α → HMap → HMap → Prop := fun pre I' H' => ∃ H0 L', Jc pre I' H0 L' ∧ HLe I I' ∧ H' = addL H0 (Lr .ready none L') ∧ ((Lr .ready none L').map (·.1)).Nodup ∧ ∀ b o, (b, o) ∈ Lr .ready none L' → H0 b = none
  let Jy : List α → HMap → HMap → Prop := fun pre I' H' => ∃ c H0 L', Jx c pre I' H0 L' ∧ HLe I I' ∧ H' = addL H0 (Lr .done (some c) L') ∧ ((Lr .done (some c) L').map (·.1)).Nodup ∧ ∀ b o, (b, o) ∈ Lr .done (some c) L' → H0 b = none
  have hJ0 : J [] I (addL H (Lr .ready none L)) := ⟨H, L, h0, HLe.refl I, rfl, hw2.nodup, fun b o hm => (hw2.sepIL b o hm).2⟩
  refine (hseq g l J Jy (fun pre I1 I2 H' h12 ⟨H0, L', h1, h2, h3, h4, h5⟩ => ⟨H0, L', hm pre I1 I2 H0 L' h12 h1, h2.trans h12, h3, h4, h5⟩) ?_ I _ _ (HLe.refl I) hJ0 hw2.hide).mono ?_
  · intro pre x v I' H' hpre hI hrel ⟨H0, L', hJc, _, hH, hnd, hdj⟩ lit W hW
    subst hH
    have hS0 := hW.join2 hnd hdj
    -- own blocks first, the record, the rest, the iterator's blocks
    have hS1 : St g I' H0 (L' ++ ((l, rc .ready none) :: (B ++ lit))) W := hS0.permL (by
      have : (L' ++ ((l, rc .ready none) :: (B ++ lit))) = (L' ++ ((l, rc .ready none) :: B)) ++ lit := by simp
      rw [this]; exact List.perm_append_comm)
    have hrec : W.heap[l]? = some (rc .ready none) := hS1.own _ _ (by simp)
    refine ⟨fn, _, assign, body, run_yield (P := P) hrec (by simp), ?_⟩
    refine roundIn_of_wpIn (F := Fence.wide) trivial ?_
    have htm : ((#[p] : Array Tmp).zip #[v]).foldl (fun tmps (t, v) => tmps.setIfInBounds t v) tmps = tmps.setIfInBounds p v := by simp
    show Code.wpIn _ _ _ _ _ { tmps := ((#[p] : Array Tmp).zip #[v]).foldl (fun tmps (t, v) => tmps.setIfInBounds t v) tmps, defers := [] } _
    rw [htm]
    have hA := hass l ((l, rc .ready none) :: (B ++ lit)) pre x v I' H0 L' hpre hI hrel hJc _ W (hfit0 v) hS1
    refine wpIn_mono (F := Fence.wide.inRound l) (n := 0) (P := P) (show assign.wpIn (Fence.wide.inRound l) 0 P _ _ _ from hA) ?_
    intro e a1 W1 hq
    cases e with
    | normal =>
      obtain ⟨E2, I2, loc2, ⟨hI2, L2, rfl, hJa⟩, hf2, hs2⟩ := hq
      have hrec1 : W1.heap[l]? = some (rc .ready none) := hs2.own _ _ (by simp)
      have hs4 := hs2.putObj (o' := rc .busy none) (b := l) (upd_app .here)
      refine ⟨_, run_beginRound (P := P) hrec1 rfl, ?_⟩
      have hB := hbody l ((l, rc .busy none) :: (B ++ lit)) pre x E2 I2 H0 L2 ⟨_, List.mem_cons_self ..⟩ hpre (hI.trans hI2) hJa a1 _ hf2 hs4
      refine wpIn_mono (F := Fence.wide.inRound l) (n := 0) (P := P) (show body.wpIn (Fence.wide.inRound l) 0 P _ _ _ from hB) ?_
      have fin : ∀ (W3 : World) (I3 H3 : HMap) (L3 : Loc) (jump : Option Code) (st : LoopState), St g I3 H3 (L3 ++ ((l, rc .busy none) :: (B ++ lit))) W3 → (st = if jump.isNone then .ready else .done) →
          ∃ W4, (Instr.endRound l jump).run P W3 = .ok (.bool jump.isNone) W4 ∧ St g I3 (addL H3 (Lr st jump L3)) lit W4 ∧ ((Lr st jump L3).map (·.1)).Nodup ∧ ∀ b o, (b, o) ∈ Lr st jump L3 → H3 b = none := by
        intro W3 I3 H3 L3 jump st hs hst
        have hrec3 : W3.heap[l]? = some (rc .busy none) := hs.own _ _ (by simp)
        have hs6 := hs.putObj (o' := rc st jump) (b := l) (upd_app .here)
        have hs7 : St g I3 H3 (lit ++ Lr st jump L3) (W3.putObj l (rc st jump)) := hs6.permL (by
          have : (L3 ++ ((l, rc st jump) :: (B ++ lit))) = Lr st jump L3 ++ lit := by simp [Lr]
          rw [this]; exact List.perm_append_comm)
        have hs8 := hs7.rest split_app
        refine ⟨_, run_endRound (P := P) jump hrec3, ?_, hs8.nodup, fun b o hm => (hs8.sepIL b o hm).2⟩
        rw [← hst]
        exact hs7.hideR
      intro e a3 W3 hq
      cases e with
      | normal =>
        obtain ⟨I3, H3, L3, ⟨hI3, hJ3⟩, hs⟩ := hq
        obtain ⟨W4, h1, h2, h3, h4⟩ := fin W3 I3 H3 L3 none .ready hs rfl
        exact ⟨_, W4, h1, true, I3, _, rfl, hI2.trans hI3, h2, H3, L3, hJ3, (hI.trans hI2).trans hI3, rfl, h3, h4⟩
      | ret =>
        obtain ⟨I3, H3, L3, ⟨hI3, hJ3⟩, hs⟩ := hq
        obtain ⟨W4, h1, h2, h3, h4⟩ := fin W3 I3 H3 L3 (some .ret) .done hs rfl
        exact ⟨_, W4, h1, false, I3, _, rfl, hI2.trans hI3, h2, .ret, H3, L3, hJ3, (hI.trans hI2).trans hI3, rfl, h3, h4⟩
      | exit id =>
        obtain ⟨I3, H3, L3, ⟨hI3, hJ3⟩, hs⟩ := hq
        obtain ⟨W4, h1, h2, h3, h4⟩ := fin W3 I3 H3 L3 (some (.exit id)) .done hs rfl
        exact ⟨_, W4, h1, false, I3, _, rfl, hI2.trans hI3, h2, .exit id, H3, L3, hJ3, (hI.trans hI2).trans hI3, rfl, h3, h4⟩
      | goto t => exact hq.elim
      | panic c => exact hq.elim
      | outgrown => exact hq.elim
    | _ => exact hq.elim
  · rintro e w' ⟨v, I', H', rfl, hI, hs, hJ | ⟨pre, hpre, hJ⟩⟩
    · obtain ⟨H0, L', hJc, hI1, rfl, hnd, hdj⟩ := hJ
      have hs1 := hs.join2 hnd hdj
      exact ⟨v, rfl, .inl ⟨I', H0, L', hI1, hJc, by simpa using hs1⟩⟩
    · obtain ⟨c, H0, L', hJc, hI1, rfl, hnd, hdj⟩ := hJ
      have hs1 := hs.join2 hnd hdj
      exact ⟨v, rfl, .inr ⟨c, pre, I', H0, L', hI1, hpre, hJc, by simpa using hs1⟩⟩
end
section
variable {α : Type} {P : Program} {N : Nat} {g : World} {H : HMap} {Q : Exit → Act → World → Prop} {gop : Operand} {p : Nat} {assign body : Code} {f : FuncId} {cap : List Value} {rel : Value → α → HMap → Prop} {xs : List α} {E : Env} {I : HMap} {L : Loc}
/-- At a function's own level, where marks may lie. -/
theorem X_rangeFuncR {ms : List Nat} (Jc : List α → HMap → HMap → Loc → Prop) (Jx : Code → List α → HMap → HMap → Loc → Prop) (Ja : List α → α → Env → HMap → HMap → Loc → Prop)
    (hm : ∀ pre I1 I2 H' L', HLe I1 I2 → Jc pre I1 H' L' → Jc pre I2 H' L') (hg : evalS [] E gop = some (.func (.func f) #[] cap.toArray)) (hF : Fun P f) (hseq : SeqR P f cap I rel xs) (hp : Nat.blt p N = true) (h0 : Jc [] I H L)
    (hass : ∀ l Z pre x v I' H' L', pre ++ [x] <+: xs → HLe I I' → rel v x I' → Jc pre I' H' L' → X ⟨P, some l, N, [], g, H'⟩ (Exit.then (Met ⟨P, some l, N, [], g, H'⟩ fun E2 I2 loc2 => HLe I' I2 ∧ ∃ L2, loc2 = L2 ++ Z ∧ Ja pre x E2 I2 H' L2) (fun _ _ _ => False)) assign ((p, v) :: E) I' (L' ++ Z))
    (hbody : ∀ l Z pre x E2 I2 H2 L2, (∃ r0, (l, Obj.loop r0) ∈ Z) → pre ++ [x] <+: xs → HLe I I2 → Ja pre x E2 I2 H2 L2 → X ⟨P, some l, N, [], g, H2⟩ (RoundZ g Z (fun q I3 H3 L3 => HLe I2 I3 ∧ Jc q I3 H3 L3) (fun c q I3 H3 L3 => HLe I2 I3 ∧ Jx c q I3 H3 L3) (pre ++ [x])) body E2 I2 (L2 ++ Z))
    (hdone : ∀ bd I' H' L', HLe I I' → Jc xs I' H' L' → At ⟨P, none, N, mk (bd :: ms), g, H'⟩ Q .normal E I' (L' ++ MB (bd :: ms)))
    (hstop : ∀ c bd pre I' H' L', HLe I I' → pre <+: xs → Jx c pre I' H' L' → X ⟨P, none, N, mk (bd :: ms), g, H'⟩ Q c E I' (L' ++ MB (bd :: ms))) :
    X ⟨P, none, N, mk ms, g, H⟩ Q (.rangeFunc gop #[p] assign body) E I (L ++ MB ms) := by
  intro a w ha hw
  refine wpIn_rangeFunc fun fn _ => ?_
  have hen := run_enterLoop_outer (P := P) (w := w) fn a.tmps #[p] assign body
  generalize hbd : w.heap.size = bd at hen
  let rc := recO fn a.tmps p assign body bd
  have hw1 : St g I H ((bd + 1, rc .ready none) :: (bd, .deferred (some [])) :: (L ++ MB ms)) ((w.alloc (.deferred (some []))).alloc (rc .ready none)) := by
    have h1 := hw.alloc (.deferred (some []))
    have h2 := h1.alloc (rc .ready none)
    rw [World.size_alloc, hbd] at h2
    exact h2
  have hw2 : St g I H (L ++ ((bd + 1, rc .ready none) :: MB (bd :: ms))) ((w.alloc (.deferred (some []))).alloc (rc .ready none)) := hw1.permL (by
    have e : L ++ ((bd + 1, rc .ready none) :: MB (bd :: ms)) = (L ++ (bd + 1, rc .ready none) :: MB ms) ++ [(bd, .deferred (some []))] := by simp [MB]
    rw [e]
    refine List.perm_append_comm.trans ?_
    have h1 : (L ++ (bd + 1, rc .ready none) :: MB ms).Perm ((bd + 1, rc .ready none) :: (L ++ MB ms)) := List.perm_middle
    exact (h1.cons _).trans (List.Perm.swap ..))
  have hev := evalS_sound (S := []) ha trivial rfl hg
  refine ⟨bd + 1, [{ target := .collected bd, args := #[] }], _, { target := .fn (.func f) cap.toArray, args := #[.func (.yield (bd + 1)) #[] #[]] }, (w.alloc (.deferred (some []))).alloc (rc .ready none), f, ((.func (.yield (bd + 1)) #[] #[] : Value) :: cap).toArray, (w.alloc (.deferred (some []))).alloc (rc .ready none), hen, ?_, fun _ _ => trivial, ?_, by simp [FR], callsFR.2 ?_⟩
  · have e2 : a.eval (.const (.func (.yield (bd + 1)) #[] #[])) = .func (.yield (bd + 1)) #[] #[] := rfl
    simp only [resolve, List.map_toArray, List.map_cons, List.map_nil, e2, hev, Deferred.ofValue]
    rfl
  · simp only [invoke, run_callFunc hF]
    simp
  have hfit : ∀ v, Fits N [] ((p, v) :: E) { tmps := a.tmps.setIfInBounds p v, defers := [] } := fun v => by
    have h1 := ha.put hp v
    exact ⟨h1.size, rfl, h1.env⟩
  refine (rounds_R (l := bd + 1) (df := bd) Jc Jx Ja hm hseq hfit h0 hass hbody hw2).mono ?_
  rintro e w' ⟨v, rfl, ⟨I', H', L', hI, hJ, hs⟩ | ⟨c, pre, I', H', L', hI, hpre, hJ, hs⟩⟩
  · have hrec : w'.heap[bd + 1]? = some (rc .ready none) := hs.own _ _ (by simp [rc])
    have hs2 := hs.putObj (o' := rc .exhausted none) (b := bd + 1) (upd_app .here)
    refine ⟨none, _, run_endLoop (P := P) hrec (by simp), ?_⟩
    refine hdone bd I' H' L' hI hJ _ _ ⟨ha.size, by simp [ha.defers, mk], ha.env⟩ ?_
    exact hs2.subL (subL_keepL (.drop .refl))
  · have hrec : w'.heap[bd + 1]? = some (rc .done (some c)) := hs.own _ _ (by simp [rc])
    have hs2 := hs.putObj (o' := rc .exhausted (some c)) (b := bd + 1) (upd_app .here)
    refine ⟨some c, _, run_endLoop (P := P) hrec (by simp), ?_⟩
    refine hstop c bd pre I' H' L' hI hpre hJ _ _ ⟨ha.size, by simp [ha.defers, mk], ha.env⟩ ?_
    exact hs2.subL (subL_keepL (.drop .refl))
/-- Within a round of another range. -/
theorem X_rangeFuncRI {l0 : Nat} {D : List Deferred} {Z : Loc} (hl0 : ∃ r0, (l0, Obj.loop r0) ∈ Z) (Jc : List α → HMap → HMap → Loc → Prop) (Jx : Code → List α → HMap → HMap → Loc → Prop) (Ja : List α → α → Env → HMap → HMap → Loc → Prop)
    (hm : ∀ pre I1 I2 H' L', HLe I1 I2 → Jc pre I1 H' L' → Jc pre I2 H' L') (hg : evalS [] E gop = some (.func (.func f) #[] cap.toArray)) (hF : Fun P f) (hseq : SeqR P f cap I rel xs) (hp : Nat.blt p N = true) (h0 : Jc [] I H L)
    (hass : ∀ l Z pre x v I' H' L', pre ++ [x] <+: xs → HLe I I' → rel v x I' → Jc pre I' H' L' → X ⟨P, some l, N, [], g, H'⟩ (Exit.then (Met ⟨P, some l, N, [], g, H'⟩ fun E2 I2 loc2 => HLe I' I2 ∧ ∃ L2, loc2 = L2 ++ Z ∧ Ja pre x E2 I2 H' L2) (fun _ _ _ => False)) assign ((p, v) :: E) I' (L' ++ Z))
    (hbody : ∀ l Z pre x E2 I2 H2 L2, (∃ r0, (l, Obj.loop r0) ∈ Z) → pre ++ [x] <+: xs → HLe I I2 → Ja pre x E2 I2 H2 L2 → X ⟨P, some l, N, [], g, H2⟩ (RoundZ g Z (fun q I3 H3 L3 => HLe I2 I3 ∧ Jc q I3 H3 L3) (fun c q I3 H3 L3 => HLe I2 I3 ∧ Jx c q I3 H3 L3) (pre ++ [x])) body E2 I2 (L2 ++ Z))
    (hdone : ∀ I' H' L', HLe I I' → Jc xs I' H' L' → At ⟨P, some l0, N, D, g, H'⟩ Q .normal E I' (L' ++ Z))
    (hstop : ∀ c pre I' H' L', HLe I I' → pre <+: xs → Jx c pre I' H' L' → X ⟨P, some l0, N, D, g, H'⟩ Q c E I' (L' ++ Z)) :
    X ⟨P, some l0, N, D, g, H⟩ Q (.rangeFunc gop #[p] assign body) E I (L ++ Z) := by
  intro a w ha hw
  obtain ⟨r0, hr0⟩ := hl0
  refine wpIn_rangeFunc fun fn _ => ?_
  have hrec0 : w.heap[l0]? = some (.loop r0) := hw.own _ _ (List.mem_append_right _ hr0)
  have hen := run_enterLoop_inner (P := P) hrec0 fn a.tmps #[p] assign body
  generalize hbd : w.heap.size = bd at hen
  let rc := recO fn a.tmps p assign body r0.defers
  have hw1 : St g I H ((bd, rc .ready none) :: (L ++ Z)) (w.alloc (rc .ready none)) := by
    have h1 := hw.alloc (rc .ready none)
    rw [hbd] at h1
    exact h1
  have hw2 : St g I H (L ++ ((bd, rc .ready none) :: Z)) (w.alloc (rc .ready none)) := hw1.permL List.perm_middle
  have hev := evalS_sound (S := []) ha trivial rfl hg
  refine ⟨bd, [], _, { target := .fn (.func f) cap.toArray, args := #[.func (.yield bd) #[] #[]] }, w.alloc (rc .ready none), f, ((.func (.yield bd) #[] #[] : Value) :: cap).toArray, w.alloc (rc .ready none), hen, ?_, fun _ _ => trivial, ?_, by simp [FR], callsFR.2 ?_⟩
  · have e2 : a.eval (.const (.func (.yield bd) #[] #[])) = .func (.yield bd) #[] #[] := rfl
    simp only [resolve, List.map_toArray, List.map_cons, List.map_nil, e2, hev, Deferred.ofValue]
    rfl
  · simp only [invoke, run_callFunc hF]
    simp
  have hfit : ∀ v, Fits N [] ((p, v) :: E) { tmps := a.tmps.setIfInBounds p v, defers := [] } := fun v => by
    have h1 := ha.put hp v
    exact ⟨h1.size, rfl, h1.env⟩
  refine (rounds_R (l := bd) (df := r0.defers) Jc Jx Ja hm hseq hfit h0 hass hbody hw2).mono ?_
  rintro e w' ⟨v, rfl, ⟨I', H', L', hI, hJ, hs⟩ | ⟨c, pre, I', H', L', hI, hpre, hJ, hs⟩⟩
  · have hrec : w'.heap[bd]? = some (rc .ready none) := hs.own _ _ (by simp [rc])
    have hs2 := hs.putObj (o' := rc .exhausted none) (b := bd) (upd_app .here)
    refine ⟨none, _, run_endLoop (P := P) hrec (by simp), ?_⟩
    refine hdone I' H' L' hI hJ _ _ ⟨ha.size, by simp [ha.defers], ha.env⟩ ?_
    exact hs2.subL (subL_keepL (.drop .refl))
  · have hrec : w'.heap[bd]? = some (rc .done (some c)) := hs.own _ _ (by simp [rc])
    have hs2 := hs.putObj (o' := rc .exhausted (some c)) (b := bd) (upd_app .here)
    refine ⟨some c, _, run_endLoop (P := P) hrec (by simp), ?_⟩
    refine hstop c pre I' H' L' hI hpre hJ _ _ ⟨ha.size, by simp [ha.defers], ha.env⟩ ?_
    exact hs2.subL (subL_keepL (.drop .refl))
end
/-! ### A loop whose rounds may leave marks and turn the frame -/
def MetMH (C : Cx) (M : List Nat → Env → HMap → HMap → Loc → Prop) : Act → World → Prop := fun a w => ∃ ms E I H loc, M ms E I H loc ∧ Fits C.N (mk ms) E a ∧ St C.g I H loc w
section
variable {P : Program} {r : Option Nat} {N : Nat} {g : World} {H : HMap} {Q : Exit → Act → World → Prop} {E E' : Env} {I I' : HMap} {loc loc' L R : Loc} {ms : List Nat}
theorem at_metMH {M : List Nat → Env → HMap → HMap → Loc → Prop} {C' : Cx} (hN : C'.N = N) (hg : C'.g = g) (E' : Env) (loc' : Loc) (hM : M ms E' I H loc') (hE : Sub E' E) (hs : SubL loc' loc) : At ⟨P, r, N, mk ms, g, H⟩ (Exit.then (MetMH C' M) Q) .normal E I loc :=
  fun _ _ ha hw => ⟨ms, E', I, H, loc', hM, by rw [hN]; exact ha.sub hE, by rw [hg]; exact hw.subL hs⟩
theorem X_loopMH {c : Code} (J : Nat → List Nat → Env → HMap → HMap → Loc → Prop) (m0 : Nat) (E0 : Env) (loc0 : Loc) (h0 : J m0 ms E0 I H loc0) (hE : Sub E0 E) (hl : SubL loc0 loc)
    (round : ∀ m ms E I H loc, J m ms E I H loc → X ⟨P, r, N, mk ms, g, H⟩ (Exit.then (MetMH ⟨P, r, N, [], g, H⟩ fun ms E I H loc => ∃ m', m' < m ∧ J m' ms E I H loc) Q) c E I loc) : X ⟨P, r, N, mk ms, g, H⟩ Q (.loop c) E I loc := by
  classical
  intro a w ha hw
  let R : Nat → Act → World → Prop := fun m a w => ∃ ms E I H loc, J m ms E I H loc ∧ Fits N (mk ms) E a ∧ St g I H loc w
  have least : ∀ a w, (∃ m, R m a w) → ∃ m, R m a w ∧ ∀ m', R m' a w → m ≤ m' := fun a w ⟨m, h⟩ => by
    induction m using Nat.strongRecOn with
    | _ m ih =>
      by_cases h' : ∃ m', m' < m ∧ R m' a w
      · obtain ⟨m', hlt, hm⟩ := h'; exact ih m' hlt hm
      · exact ⟨m, h, fun m' hm => Nat.le_of_not_lt fun hlt => h' ⟨m', hlt, hm⟩⟩
  let μ : Act → World → Nat := fun a w => if h : ∃ m, R m a w then Classical.choose (least a w h) else 0
  have hμ : ∀ a w, (∃ m, R m a w) → R (μ a w) a w := fun a w h => by simp only [μ, dif_pos h]; exact (Classical.choose_spec (least a w h)).1
  have hle : ∀ m a w, R m a w → μ a w ≤ m := fun m a w h => by
    have h' : ∃ m, R m a w := ⟨m, h⟩
    simp only [μ, dif_pos h']; exact (Classical.choose_spec (least a w h')).2 m h
  refine wpIn_loop (fun a w => ∃ m, R m a w) μ ⟨m0, ms, E0, I, H, loc0, h0, ha.sub hE, hw.subL hl⟩ fun a w h => ?_
  obtain ⟨ms1, E1, I1, H1, loc1, hJ, hf, hs⟩ := hμ a w h
  refine wpIn_mono (round _ _ _ _ _ _ hJ a w hf hs) fun e a' w' hq => ?_
  cases e with
  | normal =>
    obtain ⟨ms2, E2, I2, H2, loc2, ⟨m', hlt, hJ'⟩, hf', hs'⟩ := hq
    exact ⟨⟨m', ms2, E2, I2, H2, loc2, hJ', hf', hs'⟩, Nat.lt_of_le_of_lt (hle m' a' w' ⟨ms2, E2, I2, H2, loc2, hJ', hf', hs'⟩) hlt⟩
  | _ => exact hq
end
end Go.Kn
end
section
namespace Go.Proofs.YtkpmnnflikkhmaaDoor
open Go Go.Kn Go.Proofs
def sortI (zs : List Int) : List Int := zs.mergeSort fun x y => decide (x ≤ y)
def srtI (s : Int) (x y : List Int) : List Int := sortI ((x ++ y) ++ [s])
def blkI (X Y : List (List Int)) (s : Int) : List (List Int) := X.flatMap fun x => Y.map (srtI s x)
def treesI : Nat → Int → List (List Int)
  | 0, _ => []
  | f + 1, s => if singF s = true then [[]] else (subR s 64 (nextS s s)).flatMap fun a => if lowS a s then blkI (treesI f a) (treesI f (s - a)) s else []
def brI (f : Nat) (s a : Int) : List (List Int) := if lowS a s then blkI (treesI f a) (treesI f (s - a)) s else []
theorem treesI_1 {f : Nat} {s : Int} (h : singF s = true) : treesI (f + 1) s = [[]] := by simp only [treesI]; rw [if_pos h]
theorem treesI_2 {f : Nat} {s : Int} (h : singF s = false) : treesI (f + 1) s = (subR s 64 (nextS s s)).flatMap (brI f s) := by simp only [treesI]; rw [if_neg (by rw [h]; decide)]; rfl
theorem srt_len (s : Int) (x y : List Int) : (srtI s x y).length = x.length + y.length + 1 := by unfold srtI sortI; rw [List.length_mergeSort]; simp; omega
theorem treesI_row : ∀ (f : Nat) (s : Int), ∀ r ∈ treesI f s, r.length + 1 ≤ 2 ^ f
  | 0, _ => fun r hr => by cases hr
  | f + 1, s => fun r hr => by
    cases h : singF s with
    | true =>
      rw [treesI_1 h] at hr
      simp at hr
      subst hr
      exact Nat.one_le_two_pow
    | false =>
      rw [treesI_2 h, List.mem_flatMap] at hr
      obtain ⟨a, _, hr⟩ := hr
      unfold brI at hr
      split at hr
      · unfold blkI at hr
        rw [List.mem_flatMap] at hr
        obtain ⟨x, hx, hr⟩ := hr
        rw [List.mem_map] at hr
        obtain ⟨y, hy, rfl⟩ := hr
        have h1 := treesI_row f _ x hx
        have h2 := treesI_row f _ y hy
        rw [srt_len, Nat.pow_succ]
        omega
      · cases hr
theorem row_pre {f : Nat} {s : Int} {pre : List (List Int)} {x : List Int} (hf : f ≤ 7) (h : pre ++ [x] <+: treesI f s) : x.length ≤ 127 := by
  have := treesI_row f s x (h.subset (by simp))
  have h2 : 2 ^ f ≤ 2 ^ 7 := Nat.pow_le_pow_right (by decide) hf
  omega
theorem blk_nil {Y : List (List Int)} {s : Int} : blkI [] Y s = [] := rfl
theorem blk_next {X Y : List (List Int)} {s : Int} {x : List Int} : blkI X Y s ++ Y.map (srtI s x) = blkI (X ++ [x]) Y s := by unfold blkI; rw [List.flatMap_append]; simp
theorem blk_pre {X Y X0 Y0 : List (List Int)} {s : Int} {x y : List Int} (hx : X0 ++ [x] <+: X) (hy : Y0 ++ [y] <+: Y) : (blkI X0 Y s ++ Y0.map (srtI s x)) ++ [srtI s x y] <+: blkI X Y s := by
  obtain ⟨u, rfl⟩ := hx
  obtain ⟨v, hv⟩ := hy
  have : blkI (X0 ++ [x] ++ u) Y s = (blkI X0 Y s ++ Y0.map (srtI s x)) ++ [srtI s x y] ++ (v.map (srtI s x) ++ blkI u Y s) := by
    have e : Y.map (srtI s x) = Y0.map (srtI s x) ++ [srtI s x y] ++ v.map (srtI s x) := by rw [← hv]; simp
    have : blkI (X0 ++ [x] ++ u) Y s = blkI X0 Y s ++ (Y.map (srtI s x) ++ blkI u Y s) := by unfold blkI; simp
    rw [this, e]; simp [List.append_assoc]
  rw [this]
  exact List.prefix_append _ _
theorem sub_next {s a : Int} {q : Nat} (ha : a > 0) : subR s (q + 1) a = a :: subR s q (nextS s a) := by
  show (if decide (a > 0) then a :: subR s q (nextS s a) else []) = _
  rw [if_pos (by simpa using ha)]
theorem sub_end {s a : Int} {q : Nat} (ha : ¬ a > 0) : subR s q a = [] := by
  cases q with
  | zero => rfl
  | succ q => show (if decide (a > 0) then a :: subR s q (nextS s a) else []) = _; rw [if_neg (by simpa using ha)]
theorem next_sub_tab : ((List.range 64).all fun s => (List.range 64).all fun a => a == 0 || (andI (nextS (s : Int) (a : Int)) (s : Int) == nextS (s : Int) (a : Int))) = true := by kernel_rfl
theorem next_sub {s a : Int} (hs : 1 ≤ s ∧ s ≤ 63) (ha : 1 ≤ a ∧ a ≤ 63) : andI (nextS s a) s = nextS s a := by
  have h0 := List.all_eq_true.1 next_sub_tab s.toNat (List.mem_range.2 (by omega))
  have h0 := List.all_eq_true.1 h0 a.toNat (List.mem_range.2 (by omega))
  rw [show ((s.toNat : Nat) : Int) = s by omega, show ((a.toNat : Nat) : Int) = a by omega, show (a.toNat == 0) = false by simp; omega] at h0
  simpa using h0
theorem less_tab : ((List.range 64).all fun s => (List.range 64).all fun a => !(andI (a : Int) (s : Int) == (a : Int)) || (lessI (s : Int) (a : Int) == (s : Int) - (a : Int))) = true := by kernel_rfl
theorem less_eq {s a : Int} (hs : 1 ≤ s ∧ s ≤ 63) (ha : 0 ≤ a ∧ a ≤ 63) (h : andI a s = a) : lessI s a = s - a := by
  have h0 := List.all_eq_true.1 less_tab s.toNat (List.mem_range.2 (by omega))
  have h0 := List.all_eq_true.1 h0 a.toNat (List.mem_range.2 (by omega))
  rw [show ((s.toNat : Nat) : Int) = s by omega, show ((a.toNat : Nat) : Int) = a by omega, h] at h0
  simpa using h0
theorem low_pop {s a : Int} (hs : 1 ≤ s ∧ s ≤ 63) (ha : 1 ≤ a ∧ a < s) (h : andI a s = a) (hl : lowS a s = true) : popF a < popF s ∧ popF (s - a) < popF s := by
  have := pop_lt (s := s) (a := a.toNat) hs (by omega) (by omega) (by
    rw [show ((a.toNat : Nat) : Int) = a by omega]
    unfold candB; rw [h, hl]; simp)
  rw [show ((a.toNat : Nat) : Int) = a by omega] at this
  exact this
theorem out_pre {f : Nat} {s a : Int} {q : Nat} {dn B p : List (List Int)} {z : List Int} (ha : a > 0) (h : dn ++ (subR s (q + 1) a).flatMap (brI f s) = B) (hl : lowS a s = true) (hp : p ++ [z] <+: blkI (treesI f a) (treesI f (s - a)) s) : (dn ++ p) ++ [z] <+: B := by
  obtain ⟨u, hu⟩ := hp
  rw [← h, sub_next ha, List.flatMap_cons, show brI f s a = blkI (treesI f a) (treesI f (s - a)) s from by unfold brI; rw [if_pos hl], ← hu]
  exact ⟨u ++ (subR s q (nextS s a)).flatMap (brI f s), by simp⟩
theorem out_yes {f : Nat} {s a : Int} {q : Nat} {dn B : List (List Int)} (ha : a > 0) (h : dn ++ (subR s (q + 1) a).flatMap (brI f s) = B) (hl : lowS a s = true) : (dn ++ blkI (treesI f a) (treesI f (s - a)) s) ++ (subR s q (nextS s a)).flatMap (brI f s) = B := by
  rw [sub_next ha, List.flatMap_cons] at h
  rw [← h, show brI f s a = blkI (treesI f a) (treesI f (s - a)) s from by unfold brI; rw [if_pos hl], List.append_assoc]
theorem out_no {f : Nat} {s a : Int} {q : Nat} {dn B : List (List Int)} (ha : a > 0) (h : dn ++ (subR s (q + 1) a).flatMap (brI f s) = B) (hl : lowS a s = false) : dn ++ (subR s q (nextS s a)).flatMap (brI f s) = B := by
  rw [sub_next ha, List.flatMap_cons] at h
  rw [← h, show brI f s a = [] from by unfold brI; rw [if_neg (by rw [hl]; decide)], List.nil_append]
def relS (v : Value) (x : List Int) (I : HMap) : Prop := ∃ a n c, v = .slice a n c ∧ Sl I 1 encI a n c x
theorem at_normM {C : Cx} {P : Program} {fn : Func} {R : Ending → World → Prop} {E : Env} {I : HMap} {loc : Go.Kn.Loc} (h : At C (bodyPostM Fence.wide 0 P fn R) .ret E I loc) : At C (bodyPostM Fence.wide 0 P fn R) .normal E I loc := h
theorem two_rows {I : HMap} {b n1 c1 n2 c2 : Nat} {a1 a2 : Option Addr} {t : TypeId} {x y : List Int} (h : I b = some (.cells (([encH ⟨a1, n1, c1⟩, encH ⟨a2, n2, c2⟩] : List (List Value)).flatten).toArray t (0, 0))) (hx : Sl I 1 encI a1 n1 c1 x) (hy : Sl I 1 encI a2 n2 c2 y) : SlN I (some ⟨b, 0, none⟩) 2 2 [x, y] := by
  refine ⟨[⟨a1, n1, c1⟩, ⟨a2, n2, c2⟩], ⟨rfl, Nat.le_refl _, fun _ => rfl, fun k z hz j u hu => .imm h ?_⟩, rfl, fun k z v hz hv => ?_⟩
  · rw [lget_eq]
    match k, hz with
    | 0, hz => cases hz; match j, hu with | 0, hu => exact hu
    | 1, hz => cases hz; match j, hu with | 0, hu => exact hu
  · match k, hz, hv with
    | 0, hz, hv => cases hz; cases hv; exact hx
    | 1, hz, hv => cases hz; cases hv; exact hy
theorem flat_step {vss : List (List Int)} {k : Nat} {v : List Int} (h : vss[k]? = some v) : (vss.take (k + 1)).flatten = (vss.take k).flatten ++ v := by rw [take_snoc h, List.flatten_append]; simp
theorem flat_le {vss : List (List Int)} (k : Nat) : (vss.take k).flatten.length ≤ vss.flatten.length := by
  have h := congrArg (fun l : List (List Int) => l.flatten.length) (List.take_append_drop k vss)
  simp only [List.flatten_append, List.length_append] at h
  omega
end Go.Proofs.YtkpmnnflikkhmaaDoor
end
section
namespace Go.Kn
open Go Go.Sort Go.Shelf Go.Lib Go.Proofs
/-- Behind a call that reads: the world has grown, and has drawn. -/
theorem grown_of {w w' : World} {L : Loc} (h : St w (fun b => w.heap[b]?) (fun _ => none) L w') : ∃ q os', w' = grow (w.drewN q) os' := by
  refine ⟨w'.drawn - w.drawn, w'.heap.extract w.heap.size w'.heap.size, ?_⟩
  have h1 := h.size
  have hh : w.heap ++ w'.heap.extract w.heap.size w'.heap.size = w'.heap := by
    apply Array.ext'
    apply List.ext_getElem?
    intro i
    by_cases hi : i < w.heap.size
    · have := h.imm i _ (Array.getElem?_eq_getElem hi)
      rw [Array.getElem?_toList, Array.getElem?_toList, this, Array.getElem?_append_left hi, Array.getElem?_eq_getElem hi]
    · rw [Array.getElem?_toList, Array.getElem?_toList, Array.getElem?_append_right (by omega), Array.getElem?_extract]
      by_cases h2 : i < w'.heap.size
      · rw [if_pos (by omega), show w.heap.size + (i - w.heap.size) = i by omega]
      · rw [if_neg (by omega), Array.getElem?_eq_none (by omega)]
  have e1 := h.os; have e2 := h.tape; have e3 := h.out
  cases w; cases w'
  simp only [grow, World.drewN] at *
  subst e1; subst e2; subst e3
  simp only [World.mk.injEq, true_and, and_true]
  exact ⟨hh.symm, by omega⟩
end Go.Kn
end
section
namespace Go.Kn
open Go Go.Sort Go.Shelf Go.Lib Go.Proofs
theorem retSort1 {α : Type} [Inhabited α] {P : Program} {f g0 : FuncId} {e : TypeId} {enc : α → Value} {cf : α → α → Int}
    (hs : ∀ (blk off cap : Nat) (d : Array α) (w : World), CmpLays1 P g0 #[] enc cf blk off d.size w → Holds enc w blk off d → blk < w.heap.size → d.size < 4611686018427387904 →
      Calls P f #[.slice (some ⟨blk, off, none⟩) d.size cap, .func (.func g0) #[] #[]] w fun e w' => e = .returned (.tuple #[]) ∧ ∃ d' n os, PermIn 0 d.size d d' ∧ SortedIn (ltOf cf) 0 d.size d' ∧ w' = sortWorld enc w blk off n d' os)
    (h0 : ∀ (p : Option Addr) (cap : Nat) (fv : Value) (w : World), Calls P f #[.slice p 0 cap, fv] w fun e w' => e = .returned (.tuple #[]) ∧ w' = w)
    (I : HMap) (hcmp : ∀ I', HLe I I' → ∀ (x y : α), RetV P g0 [enc x, enc y] I' (.int .i64 (cf x y)))
    (zs : List α) {v : Value} {n : Nat} {L : Loc} (hO : OwnS e 1 v n (zs.map enc) L) (hn : n ≤ 1000000) :
    RetM P f [v, .func (.func g0) #[] #[]] I L (fun u I' L' => u = .tuple #[] ∧ I' = I ∧ ∃ zs' : List α, zs'.Perm zs ∧ zs'.Pairwise (fun x y => ltOf cf y x = false) ∧ OwnS e 1 v n (zs'.map enc) L') := by
  intro g H w hw
  have hl : zs.length = n := by have := hO.1; simpa using this
  subst hl
  rcases hO.2 with ⟨rfl, h00, rfl⟩ | ⟨b, c, cur, rfl, rfl, hc, hc2, hsz, htk⟩
  · have : zs = [] := List.length_eq_zero_iff.1 h00
    subst this
    refine (h0 none 0 _ w).mono ?_
    rintro e w' ⟨rfl, rfl⟩
    exact ⟨_, I, [], rfl, HLe.refl _, hw, rfl, rfl, [], .nil, .nil, by simp, .inl ⟨rfl, rfl, rfl⟩⟩
  · rw [Nat.mul_one] at hsz htk
    have hb := hw.own b _ (List.mem_singleton.2 rfl)
    have hbs : b < w.heap.size := (Array.getElem?_eq_some_iff.1 hb).1
    have hH : Holds enc w b 0 zs.toArray := holds_own hw (List.mem_singleton.2 rfl) zs htk
    have hC : CmpLays1 P g0 #[] enc cf b 0 zs.toArray.size w := by
      intro m os dk _ x y
      have hsw : St g I H _ (sortWorld enc w b 0 m dk os) := ((hw.aheadN m).rowPut dk .here).grown os
      have h1 := hcmp (fun q => (sortWorld enc w b 0 m dk os).heap[q]?) (fun b o h => hsw.imm b o h) x y (sortWorld enc w b 0 m dk os) (fun _ => none) (sortWorld enc w b 0 m dk os)
        ⟨rfl, rfl, rfl, ⟨Nat.le_refl _, Nat.le_refl _⟩, fun _ _ h => h, (fun _ _ h => by cases h), (fun _ _ h => by cases h), fun _ => .inr rfl, (fun _ _ h => by cases h), by simp⟩
      refine Calls.mono h1 ?_
      rintro e w' ⟨rfl, hs⟩
      exact ⟨rfl, grown_of hs⟩
    have hcall := hs b 0 c zs.toArray w hC hH hbs (by simp; omega)
    rw [List.size_toArray] at hcall
    refine hcall.mono ?_
    rintro _ w' ⟨rfl, d', m, os, hp, hsd, rfl⟩
    have hps : d'.size = zs.length := by simpa using hp.1
    have hperm : d'.toList.Perm zs := by
      have := hp.2.2
      simpa [Array.extract_eq_self_of_le, hps] using this
    have hdl : d' = d'.toList.toArray := by simp
    refine ⟨_, I, [(b, .cells (putCells enc 0 d' cur) e (0, 0))], rfl, HLe.refl _, ?_, rfl, rfl, d'.toList, hperm, ?_, ?_⟩
    · exact (((hw.aheadN m).rowPut d' .here).grown os)
    · rw [List.pairwise_iff_getElem]
      intro i j hi hj hij
      have := hsd i j (Nat.zero_le _) hij (by rw [← hps]; simpa using hj)
      rw [getElem!_pos d' i (by simpa using hi), getElem!_pos d' j (by simpa using hj)] at this
      simpa using this
    · refine ⟨by simp [hps], .inr ⟨b, c, _, rfl, rfl, hc, hc2, by simp [putCells, hsz], ?_⟩⟩
      rw [Nat.mul_one, hdl]
      have := take_put (enc := enc) (cs := cur) (n := zs.length) d'.toList (by simp [hps]) (by omega)
      exact this
section
variable {C : Cx} {Q : Exit → Act → World → Prop} {E : Env} {I : HMap} {loc : Loc} {ops : Array Oper} {rest : List Oper} {d : Nat} {ty : TypeId} {pos : String} {af : Array Edge} {gd : Option (Nat × Bool)} {x y : Operand}
/-- 'append(nil, make([]T, k)...)': a new block. -/
theorem XO_appendZ0 {t tn e size bytes : Nat} {k : Int} (hx : evalS [] E x = some (.slice none 0 0)) (hy : evalS [] E y = some (.int .i64 k)) (hT : ElT C.P t e size bytes) (htn : C.P.underlying tn = some (.int .i64))
    (hk : 0 < k) (hsz : 0 < size) (hB : k.toNat * (bytes + 1) ≤ 70368744177664) (hG : gd = none) (hN : Nat.blt d C.N = true)
    (h : ∀ b' c' zs, k.toNat ≤ c' → c' ≤ maxLen → (zs : List Value).length = c' * size → XO C Q ops rest [] ((d, .slice (some ⟨b', 0, none⟩) k.toNat c') :: E) I ((b', .cells zs.toArray e (0, 0)) :: loc)) :
    XO C Q ops (⟨some d, .call ⟨.builtin .append, #[x, y], #[t, tn]⟩, ty, pos, af, gd⟩ :: rest) [] E I loc :=
  XO_world hG (by intro c e; cases e) fun a w ha hw => by
    obtain ⟨ht, inf, zz, hi, hz, hss, hb, hzs⟩ := hT
    obtain ⟨q, rfl⟩ : ∃ q : Nat, k = q := ⟨k.toNat, by omega⟩
    rw [Int.toNat_natCast] at hB h
    have hnm : q ≤ 70368744177664 := by
      have : q * 1 ≤ q * (bytes + 1) := Nat.mul_le_mul_left _ (by omega)
      omega
    have hbytes : q * bytes ≤ 140737488355328 := by
      have : q * bytes ≤ q * (bytes + 1) := Nat.mul_le_mul_left _ (by omega)
      omega
    have hold : (Builtin.firstCells inf.size 0 (.slice none 0 0)).run C.P w.drew = .ok (([] : List Value).toArray) w.drew := rfl
    have hrun := Lib.run_append_grow_zeros (P := C.P) w t tn ty e inf zz .i64 .i64 ht htn hi hz none 0 0 _ hold q (by omega) (by omega) (by omega) (by omega) (by rw [hb]; omega) (by rw [hb]; exact growslice_fits (by omega) (by rw [Nat.zero_add]; exact hbytes))
    have hge := grownCap_ge w (0 + q) 0 e
    have hcm : grownCap w (0 + q) 0 e ≤ maxLen := grownCap_le_maxLen w (0 + q) 0 e (by simp only [maxLen]; omega)
    simp only [execOp, resolve, List.map_toArray, List.map_cons, List.map_nil, evalS_sound (S := []) ha trivial rfl hx, evalS_sound (S := []) ha trivial rfl hy, Sem.run_bind, Sem.run_pure, Result.andThen, invoke, builtin, hrun, Oper.uponIn_value]
    have e1 : ([] : List Value).toArray ++ Builtin.zeroCells zz.cells q ++ Builtin.zeroCells zz.cells (grownCap w (0 + q) 0 e - (0 + q)) = (((Builtin.zeroCells zz.cells q).toList ++ (Builtin.zeroCells zz.cells (grownCap w (0 + q) 0 e - (0 + q))).toList)).toArray := by
      apply Array.ext'
      simp
    rw [e1]
    simp only [Nat.zero_add] at hge hcm ⊢
    refine h _ _ _ hge hcm ?_ _ _ (ha.put hN _) trivial (hw.drew'.alloc _)
    simp only [List.length_append, Array.length_toList, size_zeroCells', hzs]
    rw [← Nat.add_mul]
    congr 1; omega
end
end Go.Kn
end
