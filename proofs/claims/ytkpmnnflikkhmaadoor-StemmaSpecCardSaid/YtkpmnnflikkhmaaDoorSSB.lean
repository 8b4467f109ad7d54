/- stemmaSpec_holds, part B of the proof: what its theorems say holds without further conditions. -/
import Derived.Test.YtkpmnnflikkhmaaDoorSSA
section
namespace Go.Proofs.YtkpmnnflikkhmaaDoor
open Go Go.Kn Go.Proofs
theorem w_rparts {I : HMap} {av : Option Addr} {n c : Nat} {xs : List Int} (hS : Sl I 1 encI av n c xs) (hn : n ≤ 100000) (m s : Int) : RetV Tryd.prog 12 [.int .i64 m, .slice av n c, .int .i64 s] I (.tuple #[.int .i64 (partsA m xs s), .int .i64 (partsB m xs s), .int .i64 (partsE m xs s)]) := by
  intro g H w hw
  refine enter Tryd.func12 rfl Tryd.ntmps12 rfl hw ?_
  refine X_seq ?_
  refine X_region ?_
  refine XO_v0 (ev_assign rfl) rfl rfl rfl ?_
  refine XO_v0 (ev_assign rfl) rfl rfl rfl ?_
  refine XO_v0 (ev_assign rfl) rfl rfl rfl ?_
  refine XO_nil ?_
  refine at_then ?_
  refine X_seq ?_
  refine X_region ?_
  refine XO_v0 (ev_move rfl) rfl rfl rfl ?_
  refine XO_v0 (ev_move rfl) rfl rfl rfl ?_
  refine XO_callV0 (cap := []) (vs := [_, _]) rfl rfl fun_14 (w_rcheck hS _) rfl rfl ?_
  refine XO_v0 (ev_assign rfl) rfl rfl rfl ?_
  refine XO_nil ?_
  refine at_then ?_
  refine X_seq ?_
  refine X_seq ?_
  refine X_region ?_
  refine XO_v0 (ev_move rfl) rfl rfl rfl ?_
  refine XO_v0 (ev_cmp rfl rfl rfl) rfl rfl rfl ?_
  refine XO_nil ?_
  refine at_then ?_
  refine X_cond rfl (fun hc16 => ?_) (fun hc16 => ?_)
  · skip
    have hb := partsE_chk (s := s) (show chkN m xs ≠ 0 by simpa using hc16)
    have hb2 := partsA_bad (show partsE m xs s ≠ 0 by rw [hb]; simpa using hc16)
    refine X_seq ?_
    refine X_region ?_
    refine XO_v0 (ev_move rfl) rfl rfl rfl ?_
    refine XO_v0 (ev_assign rfl) rfl rfl rfl ?_
    refine XO_v0 (ev_assign rfl) rfl rfl rfl ?_
    refine XO_v0 (ev_assign rfl) rfl rfl rfl ?_
    refine XO_nil ?_
    refine at_then ?_
    refine X_ret ?_
    refine at_then_r ?_
    first
    | exact at_ret3 rfl rfl rfl rfl (fun w hw => ⟨by rw [hb2.1, hb2.2, hb], hw.drop⟩)
  · skip
    have hc0 : chkN m xs = 0 := by simpa using hc16
    refine X_skip ?_
    refine at_then ?_
    refine X_seq ?_
    refine X_seq ?_
    refine X_region ?_
    refine XO_v0 (ev_assign rfl) rfl rfl rfl ?_
    refine XO_nil ?_
    refine at_then ?_
    refine X_block ?_
    refine X_loopT [(1, _), (2, _)] (.cons rfl (.cons rfl .nil)) (fun T L0 mz E I' loc' => ∃ (k : Nat), mz = n - k ∧ E = (10, .int .i64 k) :: T ∧ I = I' ∧ L0 = loc' ∧ k ≤ n ∧ (xs.take k).any (fun c => c == s) = false) _ _ _ _ ⟨0, rfl, rfl, rfl, rfl, Nat.zero_le _, rfl⟩ (.cons rfl (.cons rfl (.cons rfl .nil))) (HLe.refl _) rfl ?_
    rintro mz E I' loc' ⟨k, rfl, rfl, rfl, rfl, hk, hno⟩
    refine X_seq ?_
    refine X_seq ?_
    refine X_region ?_
    refine XO_v0 (ev_move rfl) rfl rfl rfl ?_
    refine XO_v0 (ev_move rfl) rfl rfl rfl ?_
    refine XO_v0 (ev_lenS rfl slt_22) rfl rfl rfl ?_
    refine XO_v0 (ev_cmp rfl rfl rfl) rfl rfl rfl ?_
    refine XO_nil ?_
    refine at_then ?_
    refine X_cond rfl (fun hc21 => ?_) (fun hc21 => ?_)
    · skip
      have hlt_k : k < n := by have h := hc21; simp at h; omega
      obtain ⟨x, hx⟩ := hS.at hlt_k
      refine X_skip ?_
      refine at_then ?_
      refine X_seq ?_
      refine X_block ?_
      refine X_seq ?_
      refine X_region ?_
      refine XO_v0 (ev_move rfl) rfl rfl rfl ?_
      refine XO_v0 (ev_move rfl) rfl rfl rfl ?_
      refine XO_v0 (ev_indexSl rfl rfl slt_22 (by assumption) (fun hg => by first | omega | (simp [conj] at hg; omega))) rfl rfl rfl ?_
      refine XO_v0 (ev_load rfl sct_3 (fun hg => by first | exact Sl.get0 hS hx rfl | exact Cell.h0 rfl | exact Cell.h1 rfl | exact Cell.h2 rfl | exact Cell.h3 rfl | exact Cell.h4 rfl | exact Cell.h5 rfl | (repeat (first | exact Cell.here rfl | apply Cell.there | apply Cell.app)))) rfl rfl rfl ?_
      refine XO_v0 (ev_move rfl) rfl rfl rfl ?_
      refine XO_v0 (ev_cmp rfl rfl rfl) rfl rfl rfl ?_
      refine XO_nil ?_
      refine at_then ?_
      refine X_cond rfl (fun hc29 => ?_) (fun hc29 => ?_)
      · skip
        have hxs : x = s := by simpa using hc29
        have hs := (chkN_ok hc0).2.2.2 s (by rw [← hxs]; exact List.mem_of_getElem? hx)
        have hb := partsE_ok hc0 (any_yes hx hc29)
        have hb2 := partsA_ok hb
        have hsl : 0 ≤ splitF xs s ∧ splitF xs s ≤ s := split_le (by omega) 1
        refine X_seq ?_
        refine X_region ?_
        refine XO_v0 (ev_move rfl) rfl rfl rfl ?_
        refine XO_v0 (ev_move rfl) rfl rfl rfl ?_
        refine XO_callV0 (cap := []) (vs := [_, _]) rfl rfl fun_30 (w_rsplit hS hn _ (by omega)) rfl rfl ?_
        refine XO_v0 (ev_assign rfl) rfl rfl rfl ?_
        refine XO_nil ?_
        refine at_then ?_
        refine X_seq ?_
        refine X_region ?_
        refine XO_v0 (ev_move rfl) rfl rfl rfl ?_
        refine XO_v0 (ev_move rfl) rfl rfl rfl ?_
        refine XO_v0 (ev_move rfl) rfl rfl rfl ?_
        refine XO_v0 (ev_arB rfl rfl rfl (fun _ => by omega)) rfl rfl rfl ?_
        refine XO_v0 (ev_assign rfl) rfl rfl rfl ?_
        refine XO_v0 (ev_assign rfl) rfl rfl rfl ?_
        refine XO_v0 (ev_assign rfl) rfl rfl rfl ?_
        refine XO_nil ?_
        refine at_then ?_
        refine X_ret ?_
        refine at_block_r ?_
        refine at_then_r ?_
        refine at_then_r ?_
        refine at_block_r ?_
        refine at_then_r ?_
        first
        | exact at_ret3 rfl rfl rfl rfl (fun w hw => ⟨by rw [hb2.1, hb2.2, hb], hw.drop⟩)
      · skip
        refine X_skip ?_
        refine at_block_n ?_
        refine at_then ?_
        refine X_region ?_
        refine XO_v0 (ev_move rfl) rfl rfl rfl ?_
        refine XO_v0 (ev_arB rfl rfl rfl (fun _ => by omega)) rfl rfl rfl ?_
        refine XO_v0 (ev_assign rfl) rfl rfl rfl ?_
        refine XO_nil ?_
        exact at_met2 _ _ ⟨n - (k + 1), by omega, k + 1, rfl, rfl, rfl, rfl, by omega, any_no hx hno hc29⟩ (.cons rfl (.cons rfl (.cons rfl .nil))) (by repeat (first | exact .refl | exact subL_left | refine subL_app ?_ | refine .drop ?_ | refine subL_add ?_))
    · skip
      have hge_k : n ≤ k := by have h := hc21; simp at h; omega
      rw [take_all hS.len hge_k] at hno
      have hb := partsE_none hc0 hno
      have hb2 := partsA_bad (show partsE m xs s ≠ 0 by rw [hb]; decide)
      refine X_exit ?_
      refine at_then_e ?_
      refine at_then_e ?_
      refine at_block_hit ?_
      refine at_then ?_
      refine X_seq ?_
      refine X_region ?_
      refine XO_v0 (ev_assign rfl) rfl rfl rfl ?_
      refine XO_v0 (ev_assign rfl) rfl rfl rfl ?_
      refine XO_v0 (ev_assign rfl) rfl rfl rfl ?_
      refine XO_nil ?_
      refine at_then ?_
      refine X_ret ?_
      first
      | exact at_ret3 rfl rfl rfl rfl (fun w hw => ⟨by rw [hb2.1, hb2.2, hb], hw.drop⟩)
def idxF {α : Type} (p : α → Bool) (xs : List α) : Int := if xs.any p then (xs.findIdx p : Int) else -1
theorem idx_hit {α : Type} {xs : List α} {k : Nat} {x : α} {p : α → Bool} (h : (xs.take k).any p = false) (hx : xs[k]? = some x) (hp : p x = true) : idxF p xs = k := by
  unfold idxF
  rw [any_yes hx hp, if_pos rfl]
  have hk := (List.getElem?_eq_some_iff.1 hx).1
  have : xs.findIdx p = k := by
    rw [List.findIdx_eq hk]
    refine ⟨by rw [(List.getElem?_eq_some_iff.1 hx).2]; exact hp, fun j hj => ?_⟩
    have := List.any_eq_false.1 h xs[j] (by rw [List.mem_take_iff_getElem]; exact ⟨j, by omega, rfl⟩)
    simpa using this
  omega
theorem idx_none {α : Type} {xs : List α} {k n : Nat} {p : α → Bool} (hl : xs.length = n) (hk : n ≤ k) (h : (xs.take k).any p = false) : idxF p xs = -1 := by
  unfold idxF
  rw [take_all hl hk] at h
  rw [h]; rfl
theorem idx_any {α : Type} {xs : List α} {p : α → Bool} : decide (idxF p xs ≥ 0) = xs.any p := by
  unfold idxF
  cases h : xs.any p
  · rfl
  · simp
theorem w_index {I : HMap} {av : Option Addr} {n c : Nat} {xs : List Int} (hS : Sl I 1 encI av n c xs) (hn : n ≤ 100000) (v : Int) : RetV Tryd.prog 42 [.slice av n c, .int .i64 v] I (.int .i64 (idxF (fun y => v == y) xs)) := by
  intro g H w hw
  refine enter Tryd.func42 rfl Tryd.ntmps42 rfl hw ?_
  refine X_seq ?_
  refine X_region ?_
  refine XO_v0 (ev_assign rfl) rfl rfl rfl ?_
  refine XO_nil ?_
  refine at_then ?_
  refine X_seq ?_
  refine X_seq ?_
  refine X_region ?_
  refine XO_v0 (ev_move rfl) rfl rfl rfl ?_
  refine XO_v0 (ev_lenS rfl slt_22) rfl rfl rfl ?_
  refine XO_v0 (ev_move rfl) rfl rfl rfl ?_
  refine XO_nil ?_
  refine at_then ?_
  refine X_block ?_
  refine X_loopT [(0, _), (1, _), (7, _)] (.cons rfl (.cons rfl (.cons rfl .nil))) (fun T L0 mz E I' loc' => ∃ (k : Nat), mz = n - k ∧ E = (8, .int .i64 k) :: T ∧ I = I' ∧ L0 = loc' ∧ k ≤ n ∧ (xs.take k).any (fun y => v == y) = false) _ _ _ _ ⟨0, rfl, rfl, rfl, rfl, Nat.zero_le _, rfl⟩ (.cons rfl (.cons rfl (.cons rfl (.cons rfl .nil)))) (HLe.refl _) rfl ?_
  rintro mz E I' loc' ⟨k, rfl, rfl, rfl, rfl, hk, hno⟩
  refine X_seq ?_
  refine X_region ?_
  refine XO_v0 (ev_cmp rfl rfl rfl) rfl rfl rfl ?_
  refine XO_nil ?_
  refine at_then ?_
  refine X_seq ?_
  refine X_cond rfl (fun hc9 => ?_) (fun hc9 => ?_)
  · skip
    have hlt_k : k < n := by have h := hc9; simp at h; omega
    obtain ⟨x, hx⟩ := hS.at hlt_k
    refine X_skip ?_
    refine at_then ?_
    refine X_seq ?_
    refine X_block ?_
    refine X_seq ?_
    refine X_region ?_
    refine XO_v0 (ev_move rfl) rfl rfl rfl ?_
    refine XO_v0 (ev_assign rfl) rfl rfl rfl ?_
    refine XO_nil ?_
    refine at_then ?_
    refine X_seq ?_
    refine X_region ?_
    refine XO_v0 (ev_move rfl) rfl rfl rfl ?_
    refine XO_v0 (ev_move rfl) rfl rfl rfl ?_
    refine XO_v0 (ev_move rfl) rfl rfl rfl ?_
    refine XO_v0 (ev_indexSl rfl rfl slt_22 (by assumption) (fun hg => by first | omega | (simp [conj] at hg; omega))) rfl rfl rfl ?_
    refine XO_v0 (ev_load rfl sct_3 (fun hg => by first | exact Sl.get0 hS hx rfl | exact Cell.h0 rfl | exact Cell.h1 rfl | exact Cell.h2 rfl | exact Cell.h3 rfl | exact Cell.h4 rfl | exact Cell.h5 rfl | (repeat (first | exact Cell.here rfl | apply Cell.there | apply Cell.app)))) rfl rfl rfl ?_
    refine XO_v0 (ev_cmp rfl rfl rfl) rfl rfl rfl ?_
    refine XO_nil ?_
    refine at_then ?_
    refine X_cond rfl (fun hc16 => ?_) (fun hc16 => ?_)
    · skip
      refine X_seq ?_
      refine X_region ?_
      refine XO_v0 (ev_move rfl) rfl rfl rfl ?_
      refine XO_v0 (ev_assign rfl) rfl rfl rfl ?_
      refine XO_nil ?_
      refine at_then ?_
      refine X_ret ?_
      refine at_block_r ?_
      refine at_then_r ?_
      refine at_then_r ?_
      refine at_block_r ?_
      refine at_then_r ?_
      first
      | exact at_ret1 rfl rfl (fun w hw => ⟨by rw [idx_hit hno hx hc16], hw.drop⟩)
      | exact at_ret1 rfl rfl (fun w hw => ⟨by rw [idx_none hS.len hge_k hno], hw.drop⟩)
    · skip
      refine X_skip ?_
      refine at_block_n ?_
      refine at_then ?_
      refine X_region ?_
      refine XO_v0 (ev_arB rfl rfl rfl (fun _ => by omega)) rfl rfl rfl ?_
      refine XO_v0 (ev_move rfl) rfl rfl rfl ?_
      refine XO_nil ?_
      exact at_met2 _ _ ⟨n - (k + 1), by omega, k + 1, rfl, rfl, rfl, rfl, by omega, any_no hx hno hc16⟩ (.cons rfl (.cons rfl (.cons rfl (.cons rfl .nil)))) (by repeat (first | exact .refl | exact subL_left | refine subL_app ?_ | refine .drop ?_ | refine subL_add ?_))
  · skip
    have hge_k : n ≤ k := by have h := hc9; simp at h; omega
    refine X_exit ?_
    refine at_then_e ?_
    refine at_then_e ?_
    refine at_block_hit ?_
    refine at_then ?_
    refine X_seq ?_
    refine X_region ?_
    refine XO_v0 (ev_assign rfl) rfl rfl rfl ?_
    refine XO_nil ?_
    refine at_then ?_
    refine X_ret ?_
    first
    | exact at_ret1 rfl rfl (fun w hw => ⟨by rw [idx_hit hno hx hc16], hw.drop⟩)
    | exact at_ret1 rfl rfl (fun w hw => ⟨by rw [idx_none hS.len hge_k hno], hw.drop⟩)
theorem w_contains {I : HMap} {av : Option Addr} {n c : Nat} {xs : List Int} (hS : Sl I 1 encI av n c xs) (hn : n ≤ 100000) (v : Int) : RetV Tryd.prog 28 [.slice av n c, .int .i64 v] I (.bool (xs.any (fun y => v == y))) := by
  intro g H w hw
  refine enter Tryd.func28 rfl Tryd.ntmps28 rfl hw ?_
  refine X_seq ?_
  refine X_region ?_
  refine XO_v0 (ev_assign rfl) rfl rfl rfl ?_
  refine XO_nil ?_
  refine at_then ?_
  refine X_seq ?_
  refine X_region ?_
  refine XO_v0 (ev_move rfl) rfl rfl rfl ?_
  refine XO_v0 (ev_move rfl) rfl rfl rfl ?_
  refine XO_callV0 (cap := []) (vs := [_, _]) rfl rfl fun_42 (w_index hS hn v) rfl rfl ?_
  refine XO_v0 (ev_cmp rfl rfl rfl) rfl rfl rfl ?_
  refine XO_v0 (ev_assign rfl) rfl rfl rfl ?_
  refine XO_nil ?_
  refine at_then ?_
  refine X_ret ?_
  first
  | exact at_ret1 rfl rfl (fun w hw => ⟨by rw [← idx_any], hw.drop⟩)
theorem w_own {I : HMap} {b : Nat} {av : Option Addr} {n c : Nat} {xs : List Int} (hc : Cell I [] b 0 (.slice av n c)) (hS : Sl I 1 encI av n c xs) (hn : n ≤ 100000) (s : Int) : RetV Tryd.prog 43 [.int .i64 s, capP b] I (.bool (ownS xs s)) := by
  intro g H w hw
  refine enter Tryd.func43 rfl Tryd.ntmps43 rfl hw ?_
  refine X_seq ?_
  refine X_region ?_
  refine XO_v0 (ev_assign rfl) rfl rfl rfl ?_
  refine XO_nil ?_
  refine at_then ?_
  refine X_seq ?_
  refine X_region ?_
  refine XO_v0 (ev_move rfl) rfl rfl rfl ?_
  refine XO_callV0 (cap := []) (vs := [_]) rfl rfl fun_44 (w_single I _) rfl rfl ?_
  refine XO_v0 (ev_move rfl) rfl rfl rfl ?_
  refine XO_pushF 2 rfl rfl rfl ?_
  refine XO_v1 (ev_load rfl sct_22 (fun hg => by first | exact hc.any | exact Cell.h0 rfl | exact Cell.h1 rfl | exact Cell.h2 rfl | exact Cell.h3 rfl | exact Cell.h4 rfl | exact Cell.h5 rfl | (repeat (first | exact Cell.here rfl | apply Cell.there | apply Cell.app)))) (.some rfl rfl rfl rfl gbf) rfl rfl rfl ?_
  refine XO_v1 (ev_move rfl) (.some rfl rfl rfl rfl gbf) rfl rfl rfl ?_
  refine XO_callV1 (cap := []) (vs := [_, _]) rfl rfl fun_28 (fun hg => w_contains hS hn _) (.some rfl rfl rfl rfl gbf) rfl rfl ?_
  refine XO_or0 rfl rfl rfl rfl rfl ?_
  refine XO_v0 (ev_assign rfl) rfl rfl rfl ?_
  refine XO_nil ?_
  refine at_then ?_
  refine X_ret ?_
  exact at_ret1 rfl rfl (fun w hw => ⟨by first | rfl | simp_all, hw.drop⟩)
end Go.Proofs.YtkpmnnflikkhmaaDoor
end
section
namespace Go.Proofs.YtkpmnnflikkhmaaDoor
open Go Go.Kn Go.Proofs
theorem w_parts {I : HMap} {av : Option Addr} {n c : Nat} {xs : List Int} (hS : Sl I 1 encI av n c xs) (hn : n ≤ 100000) (s : Int) (hs : 1 ≤ s ∧ s ≤ 63) : RetV Tryd.prog 29 [.slice av n c, .int .i64 s] I (.tuple #[.int .i64 (partA xs s), .int .i64 (partB xs s), .bool (partF xs s).isSome]) := by
  intro g H w hw
  refine enter Tryd.func29 rfl Tryd.ntmps29 rfl hw ?_
  have hIc := HLe.refl I
  refine X_seq ?_
  refine X_region ?_
  refine XO_box rfl rfl rfl (fun b_2 => ?_)
  refine XO_v0 (ev_assign rfl) rfl rfl rfl ?_
  refine XO_v0 (ev_assign rfl) rfl rfl rfl ?_
  refine XO_v0 (ev_assign rfl) rfl rfl rfl ?_
  refine XO_nil ?_
  refine at_then ?_
  refine X_seq ?_
  refine X_freeze .here (fun I1 hI1 hb1 => ?_)
  have hS := hS.mono hI1
  have hIc := hIc.trans hI1
  have hbx := hb1
  refine X_region ?_
  refine XO_v0 (ev_makeFunc (us := []) (vs := [_]) rfl rfl) rfl rfl rfl ?_
  refine XO_v0 (ev_assign rfl) rfl rfl rfl ?_
  refine XO_nil ?_
  refine at_then ?_
  refine X_seq ?_
  refine X_seq ?_
  refine X_region ?_
  refine XO_v0 (ev_move rfl) rfl rfl rfl ?_
  refine XO_v0 (ev_ar rfl rfl rfl) rfl rfl rfl ?_
  refine XO_v0 (ev_move rfl) rfl rfl rfl ?_
  refine XO_v0 (ev_and rfl rfl) rfl rfl rfl ?_
  refine XO_v0 (ev_assign rfl) rfl rfl rfl ?_
  refine XO_nil ?_
  have hn0 := next_in (a := s) (s := s) (by omega) (by omega)
  refine at_then ?_
  refine X_block ?_
  refine X_loopT [(1, _), (7, _)] (.cons rfl (.cons rfl .nil)) (fun T L0 mz E I' loc' => ∃ (a : Int) (f : Nat), mz = a.toNat ∧ E = (8, .int .i64 a) :: T ∧ I1 = I' ∧ L0 = loc' ∧ 0 ≤ a ∧ a ≤ 63 ∧ a.toNat < f ∧ partF xs s = partR xs s f a) _ _ _ _ ⟨nextS s s, 64, rfl, rfl, rfl, rfl, hn0.1, by omega, by omega, rfl⟩ (.cons rfl (.cons rfl (.cons rfl .nil))) (HLe.refl _) rfl ?_
  rintro mz E I' loc' ⟨a, f, rfl, rfl, rfl, rfl, ha0, ha1, haf, hpf⟩
  refine X_seq ?_
  refine X_seq ?_
  refine X_region ?_
  refine XO_v0 (ev_move rfl) rfl rfl rfl ?_
  refine XO_v0 (ev_cmp rfl rfl rfl) rfl rfl rfl ?_
  refine XO_nil ?_
  refine at_then ?_
  refine X_cond rfl (fun hc15 => ?_) (fun hc15 => ?_)
  · skip
    have ha : a > 0 := by simpa using hc15
    obtain ⟨f, rfl⟩ : ∃ q, f = q + 1 := ⟨f - 1, by omega⟩
    have hna := next_in (a := a) (s := s) (by omega) (by omega)
    have hlt2 : (nextS s a).toNat < a.toNat := by omega
    refine X_skip ?_
    refine at_then ?_
    refine X_seq ?_
    refine X_block ?_
    refine X_seq ?_
    refine X_region ?_
    refine XO_v0 (ev_move rfl) rfl rfl rfl ?_
    refine XO_v0 (ev_move rfl) rfl rfl rfl ?_
    refine XO_v0 (ev_neg rfl) rfl rfl rfl ?_
    refine XO_v0 (ev_and rfl rfl) rfl rfl rfl ?_
    refine XO_v0 (ev_move rfl) rfl rfl rfl ?_
    refine XO_v0 (ev_move rfl) rfl rfl rfl ?_
    refine XO_v0 (ev_neg rfl) rfl rfl rfl ?_
    refine XO_v0 (ev_and rfl rfl) rfl rfl rfl ?_
    refine XO_v0 (ev_cmp rfl rfl rfl) rfl rfl rfl ?_
    refine XO_v0 (ev_move rfl) rfl rfl rfl ?_
    refine XO_pushT 9 rfl rfl rfl ?_
    refine XO_v1 (ev_move rfl) (.some rfl rfl rfl rfl gbt) rfl rfl rfl ?_
    refine XO_v1 (ev_move rfl) (.some rfl rfl rfl rfl gbt) rfl rfl rfl ?_
    refine XO_callV1 (cap := [capP b_2]) (vs := [_]) rfl rfl fun_43 (fun hg => w_own (.imm hbx rfl) hS hn _) (.some rfl rfl rfl rfl gbt) rfl rfl ?_
    refine XO_and0 rfl rfl rfl rfl rfl ?_
    refine XO_v0 (ev_move rfl) rfl rfl rfl ?_
    refine XO_pushT 14 rfl rfl rfl ?_
    refine XO_v1 (ev_move rfl) (.some rfl rfl rfl rfl gbt) rfl rfl rfl ?_
    refine XO_v1 (ev_move rfl) (.some rfl rfl rfl rfl gbt) rfl rfl rfl ?_
    refine XO_v1 (ev_move rfl) (.some rfl rfl rfl rfl gbt) rfl rfl rfl ?_
    refine XO_v1 (ev_andNot rfl rfl) (.some rfl rfl rfl rfl gbt) rfl rfl rfl ?_
    refine XO_callV1 (cap := [capP b_2]) (vs := [_]) rfl rfl fun_43 (fun hg => w_own (.imm hbx rfl) hS hn _) (.some rfl rfl rfl rfl gbt) rfl rfl ?_
    refine XO_and0 rfl rfl rfl rfl rfl ?_
    refine XO_nil ?_
    refine at_then ?_
    refine X_cond rfl (fun hc40 => ?_) (fun hc40 => ?_)
    · skip
      have hv : partF xs s = some a := by rw [hpf, partR_hit ha (by unfold partP lowS; simpa using hc40)]
      refine X_seq ?_
      refine X_region ?_
      refine XO_v0 (ev_move rfl) rfl rfl rfl ?_
      refine XO_v0 (ev_move rfl) rfl rfl rfl ?_
      refine XO_v0 (ev_move rfl) rfl rfl rfl ?_
      refine XO_v0 (ev_andNot rfl rfl) rfl rfl rfl ?_
      refine XO_v0 (ev_assign rfl) rfl rfl rfl ?_
      refine XO_v0 (ev_assign rfl) rfl rfl rfl ?_
      refine XO_v0 (ev_assign rfl) rfl rfl rfl ?_
      refine XO_nil ?_
      refine at_then ?_
      refine X_ret ?_
      refine at_block_r ?_
      refine at_then_r ?_
      refine at_then_r ?_
      refine at_block_r ?_
      refine at_then_r ?_
      exact at_ret3 rfl rfl rfl rfl (fun w hw => ⟨by unfold partA partB; rw [hv]; rfl, (hw.mono hIc).drop⟩)
    · skip
      have hpf2 : partF xs s = partR xs s f (nextS s a) := by rw [hpf, partR_miss ha (by unfold partP lowS; simpa using hc40)]
      refine X_skip ?_
      refine at_block_n ?_
      refine at_then ?_
      refine X_region ?_
      refine XO_v0 (ev_move rfl) rfl rfl rfl ?_
      refine XO_v0 (ev_ar rfl rfl rfl) rfl rfl rfl ?_
      refine XO_v0 (ev_move rfl) rfl rfl rfl ?_
      refine XO_v0 (ev_and rfl rfl) rfl rfl rfl ?_
      refine XO_v0 (ev_assign rfl) rfl rfl rfl ?_
      refine XO_nil ?_
      exact at_met2 _ _ ⟨_, hlt2, nextS s a, f, rfl, rfl, rfl, rfl, hna.1, by omega, by omega, hpf2⟩ (.cons rfl (.cons rfl (.cons rfl .nil))) (by repeat (first | exact .refl | exact subL_left | refine subL_app ?_ | refine .drop ?_ | refine subL_add ?_))
  · skip
    have ha : ¬ a > 0 := by simpa using hc15
    have hv : partF xs s = none := by rw [hpf, partR_end ha]
    refine X_exit ?_
    refine at_then_e ?_
    refine at_then_e ?_
    refine at_block_hit ?_
    refine at_then ?_
    refine X_seq ?_
    refine X_region ?_
    refine XO_v0 (ev_assign rfl) rfl rfl rfl ?_
    refine XO_v0 (ev_assign rfl) rfl rfl rfl ?_
    refine XO_v0 (ev_assign rfl) rfl rfl rfl ?_
    refine XO_nil ?_
    refine at_then ?_
    refine X_ret ?_
    exact at_ret3 rfl rfl rfl rfl (fun w hw => ⟨by unfold partA partB; rw [hv]; rfl, (hw.mono hIc).drop⟩)
end Go.Proofs.YtkpmnnflikkhmaaDoor
end
section
namespace Go.Proofs.YtkpmnnflikkhmaaDoor
open Go Go.Kn Go.Proofs
/-- The sets within s, from a downwards. -/
def subR (s : Int) : Nat → Int → List Int
  | 0, _ => []
  | f + 1, a => if decide (a > 0) then a :: subR s f (nextS s a) else []
theorem partR_find {cl : List Int} {s : Int} : ∀ (f : Nat) (a : Int), partR cl s f a = (subR s f a).find? (partP cl s)
  | 0, _ => rfl
  | f + 1, a => by
    unfold partR subR
    split
    · rw [List.find?_cons, partR_find f]
      cases partP cl s a <;> rfl
    · rfl
def subT (s : Nat) : List Int := ((List.range' 1 (s - 1)).map (fun k : Nat => (k : Int))).filter (fun a => andI a s == a)
theorem sub_tab : ((List.range 64).all fun s => decide (subR (s : Int) 64 (nextS s s) = (subT s).reverse) && (subT s).all (fun a => lessI s a == s - a)) = true := by kernel_rfl
theorem part_eq {cl : List Int} {s a : Int} (h1 : andI a s = a) (h2 : lessI s a = s - a) : partP cl s a = splitP cl s a := by
  have hown : ∀ x, ownS cl x = hasS cl x := fun x => by
    unfold ownS hasS
    rw [Bool.or_comm]
    congr 1
    congr 1
    funext y
    exact Bool.eq_iff_iff.2 (by simp; exact eq_comm)
  unfold partP splitP
  rw [h1, h2, hown, hown]
  simp
/-- A clade has parts for the one exactly if it has for the other. -/
theorem part_some {cl : List Int} {s : Int} (hs : 1 ≤ s ∧ s ≤ 63) : (partF cl s).isSome = !(splitF cl s == 0) := by
  obtain ⟨n, rfl⟩ : ∃ n : Nat, s = (n : Int) := ⟨s.toNat, by omega⟩
  have ht := List.all_eq_true.1 sub_tab n (List.mem_range.2 (by omega))
  rw [Bool.and_eq_true, decide_eq_true_eq] at ht
  have hl := List.all_eq_true.1 ht.2
  have e1 : (partF cl n).isSome = (subT n).any (partP cl n) := by
    unfold partF
    rw [partR_find, ht.1]
    exact Bool.eq_iff_iff.2 (by rw [List.find?_isSome, List.any_eq_true]; simp)
  have e2 : (subT n).any (partP cl n) = (List.range' 1 (n - 1)).any (fun k : Nat => splitP cl n k) := by
    unfold subT at hl ⊢
    rw [Bool.eq_iff_iff, List.any_eq_true, List.any_eq_true]
    constructor
    · rintro ⟨a, ha, hp⟩
      have hla := hl a ha
      rw [List.mem_filter, List.mem_map] at ha
      obtain ⟨⟨k, hk, rfl⟩, h2⟩ := ha
      exact ⟨k, hk, by rw [← part_eq (by simpa using h2) (by simpa using hla)]; exact hp⟩
    · rintro ⟨k, hk, hp⟩
      have h2 : andI (k : Int) n = k := by
        unfold splitP at hp
        simp only [Bool.and_eq_true, beq_iff_eq] at hp
        exact hp.1.1.1
      have hm : (k : Int) ∈ ((List.range' 1 (n - 1)).map (fun k : Nat => (k : Int))).filter (fun a => andI a n == a) := List.mem_filter.2 ⟨List.mem_map.2 ⟨k, hk, rfl⟩, by simpa using h2⟩
      exact ⟨k, hm, by rw [part_eq h2 (by simpa using hl _ hm)]; exact hp⟩
  rw [e1, e2]
  unfold splitF splitR
  rw [show (n : Int).toNat - 1 = n - 1 by omega]
  cases e : (List.range' 1 (n - 1)).find? (fun k : Nat => splitP cl n k) with
  | none =>
    rw [List.find?_eq_none] at e
    simp only [beq_self_eq_true, Bool.not_true]
    rw [List.any_eq_false]
    exact e
  | some k =>
    have hk := List.mem_of_find?_eq_some e
    have hp := List.find?_some e
    rw [List.mem_range'] at hk
    obtain ⟨i, hi, e3⟩ := hk
    have : ((k : Int) == 0) = false := beq_false_of_ne (by omega)
    simp only [this, Bool.not_false]
    exact List.any_eq_true.2 ⟨k, List.mem_of_find?_eq_some e, hp⟩
/-- The number before: 0 at first. -/
def lastC (xs : List Int) (k : Nat) (l : Int) : Prop := (k = 0 → l = 0) ∧ ∀ y, xs[k - 1]? = some y → k ≠ 0 → l = y ∧ 1 ≤ y
theorem clade_at {xs : List Int} {k : Nat} {x l b : Int} (hx : xs[k]? = some x) (hl : lastC xs k l) : cladeP (b - 1) xs k = !(decide (x ≤ l) || decide (x ≥ b)) := by
  unfold cladeP
  rw [getD_of hx]
  cases k with
  | zero =>
    rw [hl.1 rfl]
    simp only [show decide (((0 : Nat) : Int) > 0) = false from rfl, Bool.false_and, Bool.or_false]
    congr 1
    rw [Bool.eq_iff_iff]
    simp
    omega
  | succ k =>
    have hk := (List.getElem?_eq_some_iff.1 hx).1
    have hy : xs[k]? = some (xs[k]'(by omega)) := List.getElem?_eq_getElem _
    obtain ⟨e, h1⟩ := hl.2 _ (by rw [Nat.add_sub_cancel]; exact hy) (by omega)
    rw [show (((k + 1 : Nat) : Int) - 1).toNat = k by omega, getD_of hy, ← e]
    rw [← e] at h1
    congr 1
    rw [Bool.eq_iff_iff]
    simp
    omega
theorem lastC_step {xs : List Int} {k : Nat} {x l : Int} (hx : xs[k]? = some x) (hl : lastC xs k l) (h : l < x) (h0 : 0 ≤ l) : lastC xs (k + 1) x :=
  ⟨fun h => by omega, fun y hy _ => by rw [Nat.add_sub_cancel, hx] at hy; cases hy; exact ⟨rfl, by omega⟩⟩
theorem lastC_end {xs : List Int} {k : Nat} {l m : Int} (hl : lastC xs k l) (hk : xs.length = k) (hm : (xs.length : Int) = m - 1) (h1 : m > 1) : xs.getD (m - 2).toNat 0 = l := by
  have hk0 : k ≠ 0 := by omega
  have hy : xs[k - 1]? = some (xs[k - 1]'(by omega)) := List.getElem?_eq_getElem _
  rw [show (m - 2).toNat = k - 1 by omega, getD_of hy, (hl.2 _ hy hk0).1]
/-- What Parts answers. -/
def iA (m : Int) (cl : List Int) (s : Int) : Int := if partsE m cl s ≠ 0 then 0 else partA cl s
def iB (m : Int) (cl : List Int) (s : Int) : Int := if partsE m cl s ≠ 0 then 0 else partB cl s
theorem iA_bad {m : Int} {cl : List Int} {s : Int} (h : partsE m cl s ≠ 0) : iA m cl s = 0 ∧ iB m cl s = 0 := by unfold iA iB; rw [if_pos h, if_pos h]; exact ⟨rfl, rfl⟩
theorem iA_ok {m : Int} {cl : List Int} {s : Int} (h : partsE m cl s = 0) : iA m cl s = partA cl s ∧ iB m cl s = partB cl s := by unfold iA iB; rw [if_neg (by omega), if_neg (by omega)]; exact ⟨rfl, rfl⟩
theorem any_sym {cl : List Int} {s : Int} : cl.any (fun y => s == y) = cl.any (fun c => c == s) := by
  congr 1
  funext y
  exact Bool.eq_iff_iff.2 (by simp; exact eq_comm)
end Go.Proofs.YtkpmnnflikkhmaaDoor
end
section
namespace Go.Proofs.YtkpmnnflikkhmaaDoor
open Go Go.Kn Go.Proofs
theorem w_check {I : HMap} {av : Option Addr} {n c : Nat} {xs : List Int} (hS : Sl I 1 encI av n c xs) (m : Int) : RetV Tryd.prog 13 [.int .i64 m, .slice av n c] I (.int .i64 (chkN m xs)) := by
  intro g H w hw
  refine enter Tryd.func13 rfl Tryd.ntmps13 rfl hw ?_
  refine X_seq ?_
  refine X_region ?_
  refine XO_v0 (ev_assign rfl) rfl rfl rfl ?_
  refine XO_nil ?_
  refine at_then ?_
  refine X_seq ?_
  refine X_block ?_
  refine X_seq ?_
  refine X_region ?_
  refine XO_v0 (ev_move rfl) rfl rfl rfl ?_
  refine XO_v0 (ev_cmp rfl rfl rfl) rfl rfl rfl ?_
  refine XO_v0 (ev_assign rfl) rfl rfl rfl ?_
  refine XO_nil ?_
  refine at_then ?_
  refine X_cond rfl (fun hc13 => ?_) (fun hc13 => ?_)
  · skip
    have h6 : m > 6 := by simpa using hc13
    refine X_seq ?_
    refine X_region ?_
    refine XO_v0 (ev_assign rfl) rfl rfl rfl ?_
    refine XO_nil ?_
    refine at_then ?_
    refine X_ret ?_
    refine at_block_r ?_
    refine at_then_r ?_
    first
    | exact at_ret1 rfl rfl (fun w hw => ⟨by rw [chkN_1 h6], hw.drop⟩)
    | exact at_ret1 rfl rfl (fun w hw => ⟨by rw [chkN_2 h6 h18], hw.drop⟩)
    | exact at_ret1 rfl rfl (fun w hw => ⟨by rw [chkN_3 h6 h18 (by rw [hS.len]; exact range_bad hlt_k (by unfold allS; rw [clade_at hx hl, hc40]; rfl))], hw.drop⟩)
    | exact at_ret1 rfl rfl (fun w hw => ⟨by rw [chkN_4 h6 h18 hall0 h67], hw.drop⟩)
    | exact at_ret1 rfl rfl (fun w hw => ⟨by rw [chkN_5 h6 h18 hall0 h67, any_yes hx hsp]; rfl, hw.drop⟩)
    | exact at_ret1 rfl rfl (fun w hw => ⟨by rw [chkN_5 h6 h18 hall0 h67, hno]; rfl, hw.drop⟩)
  · skip
    have h6 : ¬ m > 6 := by simpa using hc13
    refine X_seq ?_
    refine X_region ?_
    refine XO_v0 (ev_move rfl) rfl rfl rfl ?_
    refine XO_v0 (ev_cmp rfl rfl rfl) rfl rfl rfl ?_
    refine XO_v0 (ev_move rfl) rfl rfl rfl ?_
    refine XO_pushF 2 rfl rfl rfl ?_
    refine XO_v1 (ev_move rfl) (.some rfl rfl rfl rfl gbf) rfl rfl rfl ?_
    refine XO_v1 (ev_lenS rfl slt_22) (.some rfl rfl rfl rfl gbf) rfl rfl rfl ?_
    refine XO_v1 (ev_move rfl) (.some rfl rfl rfl rfl gbf) rfl rfl rfl ?_
    refine XO_v1 (ev_arB rfl rfl rfl (fun hg => by first | omega | (simp [conj] at hg; omega))) (.some rfl rfl rfl rfl gbf) rfl rfl rfl ?_
    refine XO_v1 (ev_cmp rfl rfl rfl) (.some rfl rfl rfl rfl gbf) rfl rfl rfl ?_
    refine XO_or0 rfl rfl rfl rfl rfl ?_
    refine XO_v0 (ev_assign rfl) rfl rfl rfl ?_
    refine XO_nil ?_
    refine at_then ?_
    refine X_cond rfl (fun hc16 => ?_) (fun hc16 => ?_)
    · skip
      have h18 : (decide (m < 1) || decide ((xs.length : Int) ≠ m - 1)) = true := by rw [hS.len]; simpa using hc16
      refine X_seq ?_
      refine X_region ?_
      refine XO_v0 (ev_assign rfl) rfl rfl rfl ?_
      refine XO_nil ?_
      refine at_then ?_
      refine X_ret ?_
      refine at_block_r ?_
      refine at_then_r ?_
      first
      | exact at_ret1 rfl rfl (fun w hw => ⟨by rw [chkN_1 h6], hw.drop⟩)
      | exact at_ret1 rfl rfl (fun w hw => ⟨by rw [chkN_2 h6 h18], hw.drop⟩)
      | exact at_ret1 rfl rfl (fun w hw => ⟨by rw [chkN_3 h6 h18 (by rw [hS.len]; exact range_bad hlt_k (by unfold allS; rw [clade_at hx hl, hc40]; rfl))], hw.drop⟩)
      | exact at_ret1 rfl rfl (fun w hw => ⟨by rw [chkN_4 h6 h18 hall0 h67], hw.drop⟩)
      | exact at_ret1 rfl rfl (fun w hw => ⟨by rw [chkN_5 h6 h18 hall0 h67, any_yes hx hsp]; rfl, hw.drop⟩)
      | exact at_ret1 rfl rfl (fun w hw => ⟨by rw [chkN_5 h6 h18 hall0 h67, hno]; rfl, hw.drop⟩)
    · skip
      have h18 : (decide (m < 1) || decide ((xs.length : Int) ≠ m - 1)) = false := by rw [hS.len]; simpa using hc16
      have hm : 1 ≤ m ∧ m ≤ 6 ∧ (n : Int) = m - 1 := by rw [hS.len] at h18; simp at h18; omega
      have hn : n ≤ 100000 := by omega
      have hsh := shl_in ⟨hm.1, hm.2.1⟩
      have hal := all_in ⟨hm.1, hm.2.1⟩
      refine X_skip ?_
      refine at_block_n ?_
      refine at_then ?_
      refine X_seq ?_
      refine X_region ?_
      refine XO_v0 (ev_assign rfl) rfl rfl rfl ?_
      refine XO_nil ?_
      refine at_then ?_
      refine X_seq ?_
      refine X_seq ?_
      refine X_region ?_
      refine XO_v0 (ev_move rfl) rfl rfl rfl ?_
      refine XO_v0 (ev_lenS rfl slt_22) rfl rfl rfl ?_
      refine XO_v0 (ev_move rfl) rfl rfl rfl ?_
      refine XO_nil ?_
      refine at_then ?_
      refine X_block ?_
      refine X_loopT [(0, _), (1, _), (26, _), (27, _)] (.cons rfl (.cons rfl (.cons rfl (.cons rfl .nil)))) (fun T L0 mz E I' loc' => ∃ (k : Nat) (l : Int), mz = n - k ∧ E = (5, .int .i64 l) :: (28, .int .i64 k) :: T ∧ I = I' ∧ L0 = loc' ∧ k ≤ n ∧ (List.range k).all (cladeP (allS m) xs) = true ∧ lastC xs k l ∧ 0 ≤ l) _ _ _ _ ⟨0, 0, rfl, rfl, rfl, rfl, Nat.zero_le _, rfl, ⟨fun _ => rfl, fun _ _ h => absurd rfl h⟩, Int.le_refl _⟩ (.cons rfl (.cons rfl (.cons rfl (.cons rfl (.cons rfl (.cons rfl .nil)))))) (HLe.refl _) rfl ?_
      rintro mz E I' loc' ⟨k, l, rfl, rfl, rfl, rfl, hk, hall, hl, hl0⟩
      refine X_seq ?_
      refine X_region ?_
      refine XO_v0 (ev_cmp rfl rfl rfl) rfl rfl rfl ?_
      refine XO_nil ?_
      refine at_then ?_
      refine X_seq ?_
      refine X_cond rfl (fun hc29 => ?_) (fun hc29 => ?_)
      · skip
        have hlt_k : k < n := by have h := hc29; simp at h; omega
        obtain ⟨x, hx⟩ := hS.at hlt_k
        refine X_skip ?_
        refine at_then ?_
        refine X_seq ?_
        refine X_block ?_
        refine X_seq ?_
        refine X_region ?_
        refine XO_v0 (ev_indexSl rfl rfl slt_22 (by assumption) (fun hg => by first | omega | (simp [conj] at hg; omega))) rfl rfl rfl ?_
        refine XO_v0 (ev_load rfl sct_3 (fun hg => by first | exact Sl.get0 hS hx rfl | exact Cell.h0 rfl | exact Cell.h1 rfl | exact Cell.h2 rfl | exact Cell.h3 rfl | exact Cell.h4 rfl | exact Cell.h5 rfl | (repeat (first | exact Cell.here rfl | apply Cell.there | apply Cell.app)))) rfl rfl rfl ?_
        refine XO_v0 (ev_assign rfl) rfl rfl rfl ?_
        refine XO_nil ?_
        refine at_then ?_
        refine X_seq ?_
        refine X_seq ?_
        refine X_region ?_
        refine XO_v0 (ev_move rfl) rfl rfl rfl ?_
        refine XO_v0 (ev_move rfl) rfl rfl rfl ?_
        refine XO_v0 (ev_cmp rfl rfl rfl) rfl rfl rfl ?_
        refine XO_v0 (ev_move rfl) rfl rfl rfl ?_
        refine XO_pushF 3 rfl rfl rfl ?_
        refine XO_v1 (ev_move rfl) (.some rfl rfl rfl rfl gbf) rfl rfl rfl ?_
        refine XO_v1 (ev_move rfl) (.some rfl rfl rfl rfl gbf) rfl rfl rfl ?_
        refine XO_v1 (ev_shl rfl rfl (fun hg => by first | omega | (simp [conj] at hg; omega))) (.some rfl rfl rfl rfl gbf) rfl rfl rfl ?_
        refine XO_v1 (ev_cmp rfl rfl rfl) (.some rfl rfl rfl rfl gbf) rfl rfl rfl ?_
        refine XO_or0 rfl rfl rfl rfl rfl ?_
        refine XO_nil ?_
        refine at_then ?_
        refine X_cond rfl (fun hc40 => ?_) (fun hc40 => ?_)
        · skip
          refine X_seq ?_
          refine X_region ?_
          refine XO_v0 (ev_assign rfl) rfl rfl rfl ?_
          refine XO_nil ?_
          refine at_then ?_
          refine X_ret ?_
          refine at_then_r ?_
          refine at_block_r ?_
          refine at_then_r ?_
          refine at_then_r ?_
          refine at_block_r ?_
          refine at_then_r ?_
          first
          | exact at_ret1 rfl rfl (fun w hw => ⟨by rw [chkN_1 h6], hw.drop⟩)
          | exact at_ret1 rfl rfl (fun w hw => ⟨by rw [chkN_2 h6 h18], hw.drop⟩)
          | exact at_ret1 rfl rfl (fun w hw => ⟨by rw [chkN_3 h6 h18 (by rw [hS.len]; exact range_bad hlt_k (by unfold allS; rw [clade_at hx hl, hc40]; rfl))], hw.drop⟩)
          | exact at_ret1 rfl rfl (fun w hw => ⟨by rw [chkN_4 h6 h18 hall0 h67], hw.drop⟩)
          | exact at_ret1 rfl rfl (fun w hw => ⟨by rw [chkN_5 h6 h18 hall0 h67, any_yes hx hsp]; rfl, hw.drop⟩)
          | exact at_ret1 rfl rfl (fun w hw => ⟨by rw [chkN_5 h6 h18 hall0 h67, hno]; rfl, hw.drop⟩)
        · skip
          have hlx : l < x := by simp at hc40; omega
          refine X_skip ?_
          refine at_then ?_
          refine X_region ?_
          refine XO_v0 (ev_move rfl) rfl rfl rfl ?_
          refine XO_v0 (ev_assign rfl) rfl rfl rfl ?_
          refine XO_nil ?_
          refine at_block_n ?_
          refine at_then ?_
          refine X_region ?_
          refine XO_v0 (ev_arB rfl rfl rfl (fun hg => by first | omega | (simp [conj] at hg; omega))) rfl rfl rfl ?_
          refine XO_v0 (ev_move rfl) rfl rfl rfl ?_
          refine XO_nil ?_
          exact at_met2 _ _ ⟨n - (k + 1), by omega, k + 1, x, rfl, rfl, rfl, rfl, by omega, range_step hall (by unfold allS; rw [clade_at hx hl, hc40]; rfl), lastC_step hx hl hlx hl0, by omega⟩ (.cons rfl (.cons rfl (.cons rfl (.cons rfl (.cons rfl (.cons rfl .nil)))))) (by repeat (first | exact .refl | exact subL_left | refine subL_app ?_ | refine .drop ?_ | refine subL_add ?_))
      · skip
        have hge_k : n ≤ k := by have h := hc29; simp at h; omega
        have hall0 : (List.range xs.length).all (cladeP (allS m) xs) = true := by rw [hS.len, show n = k by omega]; exact hall
        have hnk : n = k := by omega
        refine X_exit ?_
        refine at_then_e ?_
        refine at_then_e ?_
        refine at_block_hit ?_
        refine at_then ?_
        refine X_seq ?_
        refine X_seq ?_
        refine X_region ?_
        refine XO_v0 (ev_move rfl) rfl rfl rfl ?_
        refine XO_v0 (ev_cmp rfl rfl rfl) rfl rfl rfl ?_
        refine XO_v0 (ev_move rfl) rfl rfl rfl ?_
        refine XO_pushT 2 rfl rfl rfl ?_
        refine XO_v1 (ev_move rfl) (.some rfl rfl rfl rfl gbt) rfl rfl rfl ?_
        refine XO_v1 (ev_move rfl) (.some rfl rfl rfl rfl gbt) rfl rfl rfl ?_
        refine XO_v1 (ev_shl rfl rfl (fun hg => by first | omega | (simp [conj] at hg; omega))) (.some rfl rfl rfl rfl gbt) rfl rfl rfl ?_
        refine XO_v1 (ev_arB rfl rfl rfl (fun hg => by first | omega | (simp [conj] at hg; omega))) (.some rfl rfl rfl rfl gbt) rfl rfl rfl ?_
        refine XO_v1 (ev_cmp rfl rfl rfl) (.some rfl rfl rfl rfl gbt) rfl rfl rfl ?_
        refine XO_and0 rfl rfl rfl rfl rfl ?_
        refine XO_nil ?_
        refine at_then ?_
        refine X_cond rfl (fun hc51 => ?_) (fun hc51 => ?_)
        · skip
          have h67 : (decide (m > 1) && decide (xs.getD (m - 2).toNat 0 ≠ allS m)) = true := by have h := hc51; simp only [Bool.and_eq_true, decide_eq_true_eq] at h; rw [lastC_end hl (by rw [hS.len]; exact hnk) (by rw [hS.len]; exact hm.2.2) h.1]; unfold allS; simpa using hc51
          refine X_seq ?_
          refine X_region ?_
          refine XO_v0 (ev_assign rfl) rfl rfl rfl ?_
          refine XO_nil ?_
          refine at_then ?_
          refine X_ret ?_
          refine at_then_r ?_
          first
          | exact at_ret1 rfl rfl (fun w hw => ⟨by rw [chkN_1 h6], hw.drop⟩)
          | exact at_ret1 rfl rfl (fun w hw => ⟨by rw [chkN_2 h6 h18], hw.drop⟩)
          | exact at_ret1 rfl rfl (fun w hw => ⟨by rw [chkN_3 h6 h18 (by rw [hS.len]; exact range_bad hlt_k (by unfold allS; rw [clade_at hx hl, hc40]; rfl))], hw.drop⟩)
          | exact at_ret1 rfl rfl (fun w hw => ⟨by rw [chkN_4 h6 h18 hall0 h67], hw.drop⟩)
          | exact at_ret1 rfl rfl (fun w hw => ⟨by rw [chkN_5 h6 h18 hall0 h67, any_yes hx hsp]; rfl, hw.drop⟩)
          | exact at_ret1 rfl rfl (fun w hw => ⟨by rw [chkN_5 h6 h18 hall0 h67, hno]; rfl, hw.drop⟩)
        · skip
          have h67 : (decide (m > 1) && decide (xs.getD (m - 2).toNat 0 ≠ allS m)) = false := (Decidable.em (m > 1)).elim (fun h1 => by rw [lastC_end hl (by rw [hS.len]; exact hnk) (by rw [hS.len]; exact hm.2.2) h1]; unfold allS; simpa using hc51) (fun h1 => by rw [decide_eq_false h1]; rfl)
          refine X_skip ?_
          refine at_then ?_
          refine X_seq ?_
          refine X_seq ?_
          refine X_region ?_
          refine XO_v0 (ev_move rfl) rfl rfl rfl ?_
          refine XO_v0 (ev_lenS rfl slt_22) rfl rfl rfl ?_
          refine XO_v0 (ev_move rfl) rfl rfl rfl ?_
          refine XO_nil ?_
          refine at_then ?_
          refine X_block ?_
          refine X_loopT [(1, _), (52, _), (53, _)] (.cons rfl (.cons rfl (.cons rfl .nil))) (fun T L0 mz E I' loc' => ∃ (k : Nat), mz = n - k ∧ E = (54, .int .i64 k) :: T ∧ I = I' ∧ L0 = loc' ∧ k ≤ n ∧ (xs.take k).any (fun c => splitF xs c == 0) = false) _ _ _ _ ⟨0, rfl, rfl, rfl, rfl, Nat.zero_le _, rfl⟩ (.cons rfl (.cons rfl (.cons rfl (.cons rfl .nil)))) (HLe.refl _) rfl ?_
          rintro mz E I' loc' ⟨k, rfl, rfl, rfl, rfl, hk, hno⟩
          refine X_seq ?_
          refine X_region ?_
          refine XO_v0 (ev_cmp rfl rfl rfl) rfl rfl rfl ?_
          refine XO_nil ?_
          refine at_then ?_
          refine X_seq ?_
          refine X_cond rfl (fun hc55 => ?_) (fun hc55 => ?_)
          · skip
            have hlt_k : k < n := by have h := hc55; simp at h; omega
            obtain ⟨x, hx⟩ := hS.at hlt_k
            have hxa := clade_le hall0 hx
            have hps := part_some (cl := xs) (s := x) (by omega)
            refine X_skip ?_
            refine at_then ?_
            refine X_seq ?_
            refine X_block ?_
            refine X_seq ?_
            refine X_region ?_
            refine XO_v0 (ev_indexSl rfl rfl slt_22 (by assumption) (fun hg => by first | omega | (simp [conj] at hg; omega))) rfl rfl rfl ?_
            refine XO_v0 (ev_load rfl sct_3 (fun hg => by first | exact Sl.get0 hS hx rfl | exact Cell.h0 rfl | exact Cell.h1 rfl | exact Cell.h2 rfl | exact Cell.h3 rfl | exact Cell.h4 rfl | exact Cell.h5 rfl | (repeat (first | exact Cell.here rfl | apply Cell.there | apply Cell.app)))) rfl rfl rfl ?_
            refine XO_v0 (ev_assign rfl) rfl rfl rfl ?_
            refine XO_nil ?_
            refine at_then ?_
            refine X_seq ?_
            refine X_region ?_
            refine XO_v0 (ev_move rfl) rfl rfl rfl ?_
            refine XO_v0 (ev_move rfl) rfl rfl rfl ?_
            refine XO_callV0 (cap := []) (vs := [_, _]) rfl rfl fun_29 (w_parts hS hn x (by omega)) rfl rfl ?_
            refine XO_v0 (ev_move rfl) rfl rfl rfl ?_
            refine XO_v0 (ev_extract rfl rfl) rfl rfl rfl ?_
            refine XO_v0 (ev_extract rfl rfl) rfl rfl rfl ?_
            refine XO_v0 (ev_extract rfl rfl) rfl rfl rfl ?_
            refine XO_v0 (ev_assign rfl) rfl rfl rfl ?_
            refine XO_v0 (ev_assign rfl) rfl rfl rfl ?_
            refine XO_v0 (ev_assign rfl) rfl rfl rfl ?_
            refine XO_nil ?_
            refine at_then ?_
            refine X_seq ?_
            refine X_region ?_
            refine XO_v0 (ev_move rfl) rfl rfl rfl ?_
            refine XO_v0 (ev_not rfl) rfl rfl rfl ?_
            refine XO_nil ?_
            refine at_then ?_
            refine X_cond rfl (fun hc66 => ?_) (fun hc66 => ?_)
            · skip
              have hsp : (splitF xs x == 0) = true := by rw [hps] at hc66; simpa using hc66
              refine X_seq ?_
              refine X_region ?_
              refine XO_v0 (ev_assign rfl) rfl rfl rfl ?_
              refine XO_nil ?_
              refine at_then ?_
              refine X_ret ?_
              refine at_block_r ?_
              refine at_then_r ?_
              refine at_then_r ?_
              refine at_block_r ?_
              refine at_then_r ?_
              first
              | exact at_ret1 rfl rfl (fun w hw => ⟨by rw [chkN_1 h6], hw.drop⟩)
              | exact at_ret1 rfl rfl (fun w hw => ⟨by rw [chkN_2 h6 h18], hw.drop⟩)
              | exact at_ret1 rfl rfl (fun w hw => ⟨by rw [chkN_3 h6 h18 (by rw [hS.len]; exact range_bad hlt_k (by unfold allS; rw [clade_at hx hl, hc40]; rfl))], hw.drop⟩)
              | exact at_ret1 rfl rfl (fun w hw => ⟨by rw [chkN_4 h6 h18 hall0 h67], hw.drop⟩)
              | exact at_ret1 rfl rfl (fun w hw => ⟨by rw [chkN_5 h6 h18 hall0 h67, any_yes hx hsp]; rfl, hw.drop⟩)
              | exact at_ret1 rfl rfl (fun w hw => ⟨by rw [chkN_5 h6 h18 hall0 h67, hno]; rfl, hw.drop⟩)
            · skip
              have hsp : (splitF xs x == 0) = false := by rw [hps] at hc66; simpa using hc66
              refine X_skip ?_
              refine at_block_n ?_
              refine at_then ?_
              refine X_region ?_
              refine XO_v0 (ev_arB rfl rfl rfl (fun hg => by first | omega | (simp [conj] at hg; omega))) rfl rfl rfl ?_
              refine XO_v0 (ev_move rfl) rfl rfl rfl ?_
              refine XO_nil ?_
              exact at_met2 _ _ ⟨n - (k + 1), by omega, k + 1, rfl, rfl, rfl, rfl, by omega, any_no hx hno hsp⟩ (.cons rfl (.cons rfl (.cons rfl (.cons rfl .nil)))) (by repeat (first | exact .refl | exact subL_left | refine subL_app ?_ | refine .drop ?_ | refine subL_add ?_))
          · skip
            have hge_k : n ≤ k := by have h := hc55; simp at h; omega
            rw [take_all hS.len hge_k] at hno
            refine X_exit ?_
            refine at_then_e ?_
            refine at_then_e ?_
            refine at_block_hit ?_
            refine at_then ?_
            refine X_seq ?_
            refine X_region ?_
            refine XO_v0 (ev_assign rfl) rfl rfl rfl ?_
            refine XO_nil ?_
            refine at_then ?_
            refine X_ret ?_
            first
            | exact at_ret1 rfl rfl (fun w hw => ⟨by rw [chkN_1 h6], hw.drop⟩)
            | exact at_ret1 rfl rfl (fun w hw => ⟨by rw [chkN_2 h6 h18], hw.drop⟩)
            | exact at_ret1 rfl rfl (fun w hw => ⟨by rw [chkN_3 h6 h18 (by rw [hS.len]; exact range_bad hlt_k (by unfold allS; rw [clade_at hx hl, hc40]; rfl))], hw.drop⟩)
            | exact at_ret1 rfl rfl (fun w hw => ⟨by rw [chkN_4 h6 h18 hall0 h67], hw.drop⟩)
            | exact at_ret1 rfl rfl (fun w hw => ⟨by rw [chkN_5 h6 h18 hall0 h67, any_yes hx hsp]; rfl, hw.drop⟩)
            | exact at_ret1 rfl rfl (fun w hw => ⟨by rw [chkN_5 h6 h18 hall0 h67, hno]; rfl, hw.drop⟩)
end Go.Proofs.YtkpmnnflikkhmaaDoor
end
section
namespace Go.Proofs.YtkpmnnflikkhmaaDoor
open Go Go.Kn Go.Proofs
theorem w_Parts {I : HMap} {av : Option Addr} {n c : Nat} {xs : List Int} (hS : Sl I 1 encI av n c xs) (hn : n ≤ 100000) (m s : Int) : RetV Tryd.prog 11 [.int .i64 m, .slice av n c, .int .i64 s] I (.tuple #[.int .i64 (iA m xs s), .int .i64 (iB m xs s), .int .i64 (partsE m xs s)]) := by
  intro g H w hw
  refine enter Tryd.func11 rfl Tryd.ntmps11 rfl hw ?_
  refine X_seq ?_
  refine X_region ?_
  refine XO_v0 (ev_assign rfl) rfl rfl rfl ?_
  refine XO_v0 (ev_assign rfl) rfl rfl rfl ?_
  refine XO_v0 (ev_assign rfl) rfl rfl rfl ?_
  refine XO_nil ?_
  refine at_then ?_
  refine X_seq ?_
  refine X_seq ?_
  refine X_region ?_
  refine XO_v0 (ev_move rfl) rfl rfl rfl ?_
  refine XO_v0 (ev_move rfl) rfl rfl rfl ?_
  refine XO_callV0 (cap := []) (vs := [_, _]) rfl rfl fun_13 (w_check hS _) rfl rfl ?_
  refine XO_v0 (ev_assign rfl) rfl rfl rfl ?_
  refine XO_nil ?_
  refine at_then ?_
  refine X_seq ?_
  refine X_region ?_
  refine XO_v0 (ev_move rfl) rfl rfl rfl ?_
  refine XO_v0 (ev_cmp rfl rfl rfl) rfl rfl rfl ?_
  refine XO_nil ?_
  refine at_then ?_
  refine X_cond rfl (fun hc13 => ?_) (fun hc13 => ?_)
  · skip
    have hb := partsE_chk (s := s) (show chkN m xs ≠ 0 by simpa using hc13)
    have hb2 := iA_bad (show partsE m xs s ≠ 0 by rw [hb]; simpa using hc13)
    refine X_seq ?_
    refine X_region ?_
    refine XO_v0 (ev_move rfl) rfl rfl rfl ?_
    refine XO_v0 (ev_assign rfl) rfl rfl rfl ?_
    refine XO_v0 (ev_assign rfl) rfl rfl rfl ?_
    refine XO_v0 (ev_assign rfl) rfl rfl rfl ?_
    refine XO_nil ?_
    refine at_then ?_
    refine X_ret ?_
    refine at_then_r ?_
    first
    | exact at_ret3 rfl rfl rfl rfl (fun w hw => ⟨by rw [hb2.1, hb2.2, hb]; rfl, hw.drop⟩)
    | exact at_ret3 rfl rfl rfl rfl (fun w hw => ⟨by rw [hb2.1, hb2.2, hb], hw.drop⟩)
  · skip
    have hc0 : chkN m xs = 0 := by simpa using hc13
    refine X_skip ?_
    refine at_then ?_
    refine X_seq ?_
    refine X_seq ?_
    refine X_region ?_
    refine XO_v0 (ev_move rfl) rfl rfl rfl ?_
    refine XO_v0 (ev_move rfl) rfl rfl rfl ?_
    refine XO_callV0 (cap := []) (vs := [_, _]) rfl rfl fun_28 (w_contains hS hn _) rfl rfl ?_
    refine XO_v0 (ev_not rfl) rfl rfl rfl ?_
    refine XO_nil ?_
    refine at_then ?_
    refine X_cond rfl (fun hc18 => ?_) (fun hc18 => ?_)
    · skip
      have hb := partsE_none (s := s) hc0 (by rw [← any_sym]; simpa using hc18)
      have hb2 := iA_bad (show partsE m xs s ≠ 0 by rw [hb]; decide)
      refine X_seq ?_
      refine X_region ?_
      refine XO_v0 (ev_assign rfl) rfl rfl rfl ?_
      refine XO_v0 (ev_assign rfl) rfl rfl rfl ?_
      refine XO_v0 (ev_assign rfl) rfl rfl rfl ?_
      refine XO_nil ?_
      refine at_then ?_
      refine X_ret ?_
      refine at_then_r ?_
      first
      | exact at_ret3 rfl rfl rfl rfl (fun w hw => ⟨by rw [hb2.1, hb2.2, hb]; rfl, hw.drop⟩)
      | exact at_ret3 rfl rfl rfl rfl (fun w hw => ⟨by rw [hb2.1, hb2.2, hb], hw.drop⟩)
    · skip
      have hin : xs.any (fun c => c == s) = true := by rw [← any_sym]; simpa using hc18
      have hb := partsE_ok hc0 hin
      have hb2 := iA_ok hb
      have hs := (chkN_ok hc0).2.2.2 s (by simpa using hin)
      refine X_skip ?_
      refine at_then ?_
      refine X_seq ?_
      refine X_region ?_
      refine XO_v0 (ev_move rfl) rfl rfl rfl ?_
      refine XO_v0 (ev_move rfl) rfl rfl rfl ?_
      refine XO_callV0 (cap := []) (vs := [_, _]) rfl rfl fun_29 (w_parts hS hn s (by omega)) rfl rfl ?_
      refine XO_v0 (ev_move rfl) rfl rfl rfl ?_
      refine XO_v0 (ev_extract rfl rfl) rfl rfl rfl ?_
      refine XO_v0 (ev_extract rfl rfl) rfl rfl rfl ?_
      refine XO_v0 (ev_extract rfl rfl) rfl rfl rfl ?_
      refine XO_v0 (ev_assign rfl) rfl rfl rfl ?_
      refine XO_v0 (ev_assign rfl) rfl rfl rfl ?_
      refine XO_nil ?_
      refine at_then ?_
      refine X_seq ?_
      refine X_region ?_
      refine XO_v0 (ev_move rfl) rfl rfl rfl ?_
      refine XO_v0 (ev_move rfl) rfl rfl rfl ?_
      refine XO_v0 (ev_assign rfl) rfl rfl rfl ?_
      refine XO_v0 (ev_assign rfl) rfl rfl rfl ?_
      refine XO_v0 (ev_assign rfl) rfl rfl rfl ?_
      refine XO_nil ?_
      refine at_then ?_
      refine X_ret ?_
      first
      | exact at_ret3 rfl rfl rfl rfl (fun w hw => ⟨by rw [hb2.1, hb2.2, hb]; rfl, hw.drop⟩)
      | exact at_ret3 rfl rfl rfl rfl (fun w hw => ⟨by rw [hb2.1, hb2.2, hb], hw.drop⟩)
theorem w_long (I : HMap) (a : Option Addr) (n c : Nat) : RetV Tryd.prog 55 [.slice a n c] I (.bool (decide ((n : Int) > 64))) := by
  intro g H w hw
  refine enter Tryd.func55 rfl Tryd.ntmps55 rfl hw ?_
  refine X_seq ?_
  refine X_region ?_
  refine XO_v0 (ev_assign rfl) rfl rfl rfl ?_
  refine XO_nil ?_
  refine at_then ?_
  refine X_seq ?_
  refine X_region ?_
  refine XO_v0 (ev_move rfl) rfl rfl rfl ?_
  refine XO_v0 (ev_lenS rfl slt_22) rfl rfl rfl ?_
  refine XO_v0 (ev_cmp rfl rfl rfl) rfl rfl rfl ?_
  refine XO_v0 (ev_assign rfl) rfl rfl rfl ?_
  refine XO_nil ?_
  refine at_then ?_
  refine X_ret ?_
  exact at_ret1 rfl rfl (fun w hw => ⟨by first | rfl | simp_all, hw.drop⟩)
theorem w_state (I : HMap) (v : Int) : RetV Tryd.prog 57 [.int .i64 v] I (.bool (decide (v < 0) || decide (v > 8589934592))) := by
  intro g H w hw
  refine enter Tryd.func57 rfl Tryd.ntmps57 rfl hw ?_
  refine X_seq ?_
  refine X_region ?_
  refine XO_v0 (ev_assign rfl) rfl rfl rfl ?_
  refine XO_nil ?_
  refine at_then ?_
  refine X_seq ?_
  refine X_region ?_
  refine XO_v0 (ev_move rfl) rfl rfl rfl ?_
  refine XO_v0 (ev_cmp rfl rfl rfl) rfl rfl rfl ?_
  refine XO_v0 (ev_move rfl) rfl rfl rfl ?_
  refine XO_pushF 2 rfl rfl rfl ?_
  refine XO_v1 (ev_move rfl) (.some rfl rfl rfl rfl gbf) rfl rfl rfl ?_
  refine XO_v1 (ev_cmp rfl rfl rfl) (.some rfl rfl rfl rfl gbf) rfl rfl rfl ?_
  refine XO_or0 rfl rfl rfl rfl rfl ?_
  refine XO_v0 (ev_assign rfl) rfl rfl rfl ?_
  refine XO_nil ?_
  refine at_then ?_
  refine X_ret ?_
  exact at_ret1 rfl rfl (fun w hw => ⟨by first | rfl | simp_all, hw.drop⟩)
theorem w_indexF {I : HMap} {bv : Option Addr} {n2 c2 : Nat} {hs : List Hd} (hH : Sl I 1 encH bv n2 c2 hs) (hn : n2 ≤ 100000) : RetV Tryd.prog 66 [.slice bv n2 c2, .func (.func 55) #[] #[]] I (.int .i64 (idxF (fun h : Hd => decide ((h.n : Int) > 64)) hs)) := by
  intro g H w hw
  refine enter Tryd.func66 rfl Tryd.ntmps66 rfl hw ?_
  refine X_seq ?_
  refine X_region ?_
  refine XO_v0 (ev_assign rfl) rfl rfl rfl ?_
  refine XO_nil ?_
  refine at_then ?_
  refine X_seq ?_
  refine X_seq ?_
  refine X_region ?_
  refine XO_v0 (ev_move rfl) rfl rfl rfl ?_
  refine XO_v0 (ev_lenS rfl slt_28) rfl rfl rfl ?_
  refine XO_v0 (ev_move rfl) rfl rfl rfl ?_
  refine XO_nil ?_
  refine at_then ?_
  refine X_block ?_
  refine X_loopT [(0, _), (1, _), (7, _)] (.cons rfl (.cons rfl (.cons rfl .nil))) (fun T L0 mz E I' loc' => ∃ (k : Nat), mz = n2 - k ∧ E = (8, .int .i64 k) :: T ∧ I = I' ∧ L0 = loc' ∧ k ≤ n2 ∧ (hs.take k).any (fun h : Hd => decide ((h.n : Int) > 64)) = false) _ _ _ _ ⟨0, rfl, rfl, rfl, rfl, Nat.zero_le _, rfl⟩ (.cons rfl (.cons rfl (.cons rfl (.cons rfl .nil)))) (HLe.refl _) rfl ?_
  rintro mz E I' loc' ⟨k, rfl, rfl, rfl, rfl, hk, hno⟩
  refine X_seq ?_
  refine X_region ?_
  refine XO_v0 (ev_cmp rfl rfl rfl) rfl rfl rfl ?_
  refine XO_nil ?_
  refine at_then ?_
  refine X_seq ?_
  refine X_cond rfl (fun hc9 => ?_) (fun hc9 => ?_)
  · skip
    have hlt_k : k < n2 := by have h := hc9; simp at h; omega
    obtain ⟨x, hx⟩ := hH.at hlt_k
    refine X_skip ?_
    refine at_then ?_
    refine X_seq ?_
    refine X_block ?_
    refine X_seq ?_
    refine X_region ?_
    refine XO_v0 (ev_move rfl) rfl rfl rfl ?_
    refine XO_v0 (ev_assign rfl) rfl rfl rfl ?_
    refine XO_nil ?_
    refine at_then ?_
    refine X_seq ?_
    refine X_region ?_
    refine XO_v0 (ev_move rfl) rfl rfl rfl ?_
    refine XO_v0 (ev_move rfl) rfl rfl rfl ?_
    refine XO_v0 (ev_move rfl) rfl rfl rfl ?_
    refine XO_v0 (ev_indexSl rfl rfl slt_28 (by assumption) (fun hg => by first | omega | (simp [conj] at hg; omega))) rfl rfl rfl ?_
    refine XO_v0 (ev_load rfl sct_22 (fun hg => by first | exact Sl.get0 hH hx rfl | exact Cell.h0 rfl | exact Cell.h1 rfl | exact Cell.h2 rfl | exact Cell.h3 rfl | exact Cell.h4 rfl | exact Cell.h5 rfl | (repeat (first | exact Cell.here rfl | apply Cell.there | apply Cell.app)))) rfl rfl rfl ?_
    refine XO_callV0 (cap := []) (vs := [_]) rfl rfl fun_55 (w_long I x.a x.n x.c) rfl rfl ?_
    refine XO_nil ?_
    refine at_then ?_
    refine X_cond rfl (fun hc16 => ?_) (fun hc16 => ?_)
    · skip
      refine X_seq ?_
      refine X_region ?_
      refine XO_v0 (ev_move rfl) rfl rfl rfl ?_
      refine XO_v0 (ev_assign rfl) rfl rfl rfl ?_
      refine XO_nil ?_
      refine at_then ?_
      refine X_ret ?_
      refine at_block_r ?_
      refine at_then_r ?_
      refine at_then_r ?_
      refine at_block_r ?_
      refine at_then_r ?_
      first
      | exact at_ret1 rfl rfl (fun w hw => ⟨by rw [idx_hit hno hx hc16], hw.drop⟩)
      | exact at_ret1 rfl rfl (fun w hw => ⟨by rw [idx_none hH.len hge_k hno], hw.drop⟩)
    · skip
      refine X_skip ?_
      refine at_block_n ?_
      refine at_then ?_
      refine X_region ?_
      refine XO_v0 (ev_arB rfl rfl rfl (fun _ => by omega)) rfl rfl rfl ?_
      refine XO_v0 (ev_move rfl) rfl rfl rfl ?_
      refine XO_nil ?_
      exact at_met2 _ _ ⟨n2 - (k + 1), by omega, k + 1, rfl, rfl, rfl, rfl, by omega, any_no hx hno hc16⟩ (.cons rfl (.cons rfl (.cons rfl (.cons rfl .nil)))) (by repeat (first | exact .refl | exact subL_left | refine subL_app ?_ | refine .drop ?_ | refine subL_add ?_))
  · skip
    have hge_k : n2 ≤ k := by have h := hc9; simp at h; omega
    refine X_exit ?_
    refine at_then_e ?_
    refine at_then_e ?_
    refine at_block_hit ?_
    refine at_then ?_
    refine X_seq ?_
    refine X_region ?_
    refine XO_v0 (ev_assign rfl) rfl rfl rfl ?_
    refine XO_nil ?_
    refine at_then ?_
    refine X_ret ?_
    first
    | exact at_ret1 rfl rfl (fun w hw => ⟨by rw [idx_hit hno hx hc16], hw.drop⟩)
    | exact at_ret1 rfl rfl (fun w hw => ⟨by rw [idx_none hH.len hge_k hno], hw.drop⟩)
theorem w_containsF {I : HMap} {bv : Option Addr} {n2 c2 : Nat} {hs : List Hd} (hH : Sl I 1 encH bv n2 c2 hs) (hn : n2 ≤ 100000) : RetV Tryd.prog 54 [.slice bv n2 c2, .func (.func 55) #[] #[]] I (.bool (hs.any (fun h : Hd => decide ((h.n : Int) > 64)))) := by
  intro g H w hw
  refine enter Tryd.func54 rfl Tryd.ntmps54 rfl hw ?_
  refine X_seq ?_
  refine X_region ?_
  refine XO_v0 (ev_assign rfl) rfl rfl rfl ?_
  refine XO_nil ?_
  refine at_then ?_
  refine X_seq ?_
  refine X_region ?_
  refine XO_v0 (ev_move rfl) rfl rfl rfl ?_
  refine XO_v0 (ev_move rfl) rfl rfl rfl ?_
  refine XO_callV0 (cap := []) (vs := [_, _]) rfl rfl fun_66 (w_indexF hH hn) rfl rfl ?_
  refine XO_v0 (ev_cmp rfl rfl rfl) rfl rfl rfl ?_
  refine XO_v0 (ev_assign rfl) rfl rfl rfl ?_
  refine XO_nil ?_
  refine at_then ?_
  refine X_ret ?_
  first
  | exact at_ret1 rfl rfl (fun w hw => ⟨by rw [← idx_any], hw.drop⟩)
theorem w_indexG {I : HMap} {av : Option Addr} {n c : Nat} {xs : List Int} (hS : Sl I 1 encI av n c xs) (hn : n ≤ 100000) : RetV Tryd.prog 67 [.slice av n c, .func (.func 57) #[] #[]] I (.int .i64 (idxF (fun v => decide (v < 0) || decide (v > 8589934592)) xs)) := by
  intro g H w hw
  refine enter Tryd.func67 rfl Tryd.ntmps67 rfl hw ?_
  refine X_seq ?_
  refine X_region ?_
  refine XO_v0 (ev_assign rfl) rfl rfl rfl ?_
  refine XO_nil ?_
  refine at_then ?_
  refine X_seq ?_
  refine X_seq ?_
  refine X_region ?_
  refine XO_v0 (ev_move rfl) rfl rfl rfl ?_
  refine XO_v0 (ev_lenS rfl slt_22) rfl rfl rfl ?_
  refine XO_v0 (ev_move rfl) rfl rfl rfl ?_
  refine XO_nil ?_
  refine at_then ?_
  refine X_block ?_
  refine X_loopT [(0, _), (1, _), (7, _)] (.cons rfl (.cons rfl (.cons rfl .nil))) (fun T L0 mz E I' loc' => ∃ (k : Nat), mz = n - k ∧ E = (8, .int .i64 k) :: T ∧ I = I' ∧ L0 = loc' ∧ k ≤ n ∧ (xs.take k).any (fun v => decide (v < 0) || decide (v > 8589934592)) = false) _ _ _ _ ⟨0, rfl, rfl, rfl, rfl, Nat.zero_le _, rfl⟩ (.cons rfl (.cons rfl (.cons rfl (.cons rfl .nil)))) (HLe.refl _) rfl ?_
  rintro mz E I' loc' ⟨k, rfl, rfl, rfl, rfl, hk, hno⟩
  refine X_seq ?_
  refine X_region ?_
  refine XO_v0 (ev_cmp rfl rfl rfl) rfl rfl rfl ?_
  refine XO_nil ?_
  refine at_then ?_
  refine X_seq ?_
  refine X_cond rfl (fun hc9 => ?_) (fun hc9 => ?_)
  · skip
    have hlt_k : k < n := by have h := hc9; simp at h; omega
    obtain ⟨x, hx⟩ := hS.at hlt_k
    refine X_skip ?_
    refine at_then ?_
    refine X_seq ?_
    refine X_block ?_
    refine X_seq ?_
    refine X_region ?_
    refine XO_v0 (ev_move rfl) rfl rfl rfl ?_
    refine XO_v0 (ev_assign rfl) rfl rfl rfl ?_
    refine XO_nil ?_
    refine at_then ?_
    refine X_seq ?_
    refine X_region ?_
    refine XO_v0 (ev_move rfl) rfl rfl rfl ?_
    refine XO_v0 (ev_move rfl) rfl rfl rfl ?_
    refine XO_v0 (ev_move rfl) rfl rfl rfl ?_
    refine XO_v0 (ev_indexSl rfl rfl slt_22 (by assumption) (fun hg => by first | omega | (simp [conj] at hg; omega))) rfl rfl rfl ?_
    refine XO_v0 (ev_load rfl sct_3 (fun hg => by first | exact Sl.get0 hS hx rfl | exact Cell.h0 rfl | exact Cell.h1 rfl | exact Cell.h2 rfl | exact Cell.h3 rfl | exact Cell.h4 rfl | exact Cell.h5 rfl | (repeat (first | exact Cell.here rfl | apply Cell.there | apply Cell.app)))) rfl rfl rfl ?_
    refine XO_callV0 (cap := []) (vs := [_]) rfl rfl fun_57 (w_state I _) rfl rfl ?_
    refine XO_nil ?_
    refine at_then ?_
    refine X_cond rfl (fun hc16 => ?_) (fun hc16 => ?_)
    · skip
      refine X_seq ?_
      refine X_region ?_
      refine XO_v0 (ev_move rfl) rfl rfl rfl ?_
      refine XO_v0 (ev_assign rfl) rfl rfl rfl ?_
      refine XO_nil ?_
      refine at_then ?_
      refine X_ret ?_
      refine at_block_r ?_
      refine at_then_r ?_
      refine at_then_r ?_
      refine at_block_r ?_
      refine at_then_r ?_
      first
      | exact at_ret1 rfl rfl (fun w hw => ⟨by rw [idx_hit hno hx hc16], hw.drop⟩)
      | exact at_ret1 rfl rfl (fun w hw => ⟨by rw [idx_none hS.len hge_k hno], hw.drop⟩)
    · skip
      refine X_skip ?_
      refine at_block_n ?_
      refine at_then ?_
      refine X_region ?_
      refine XO_v0 (ev_arB rfl rfl rfl (fun _ => by omega)) rfl rfl rfl ?_
      refine XO_v0 (ev_move rfl) rfl rfl rfl ?_
      refine XO_nil ?_
      exact at_met2 _ _ ⟨n - (k + 1), by omega, k + 1, rfl, rfl, rfl, rfl, by omega, any_no hx hno hc16⟩ (.cons rfl (.cons rfl (.cons rfl (.cons rfl .nil)))) (by repeat (first | exact .refl | exact subL_left | refine subL_app ?_ | refine .drop ?_ | refine subL_add ?_))
  · skip
    have hge_k : n ≤ k := by have h := hc9; simp at h; omega
    refine X_exit ?_
    refine at_then_e ?_
    refine at_then_e ?_
    refine at_block_hit ?_
    refine at_then ?_
    refine X_seq ?_
    refine X_region ?_
    refine XO_v0 (ev_assign rfl) rfl rfl rfl ?_
    refine XO_nil ?_
    refine at_then ?_
    refine X_ret ?_
    first
    | exact at_ret1 rfl rfl (fun w hw => ⟨by rw [idx_hit hno hx hc16], hw.drop⟩)
    | exact at_ret1 rfl rfl (fun w hw => ⟨by rw [idx_none hS.len hge_k hno], hw.drop⟩)
theorem w_containsG {I : HMap} {av : Option Addr} {n c : Nat} {xs : List Int} (hS : Sl I 1 encI av n c xs) (hn : n ≤ 100000) : RetV Tryd.prog 56 [.slice av n c, .func (.func 57) #[] #[]] I (.bool (xs.any (fun v => decide (v < 0) || decide (v > 8589934592)))) := by
  intro g H w hw
  refine enter Tryd.func56 rfl Tryd.ntmps56 rfl hw ?_
  refine X_seq ?_
  refine X_region ?_
  refine XO_v0 (ev_assign rfl) rfl rfl rfl ?_
  refine XO_nil ?_
  refine at_then ?_
  refine X_seq ?_
  refine X_region ?_
  refine XO_v0 (ev_move rfl) rfl rfl rfl ?_
  refine XO_v0 (ev_move rfl) rfl rfl rfl ?_
  refine XO_callV0 (cap := []) (vs := [_, _]) rfl rfl fun_67 (w_indexG hS hn) rfl rfl ?_
  refine XO_v0 (ev_cmp rfl rfl rfl) rfl rfl rfl ?_
  refine XO_v0 (ev_assign rfl) rfl rfl rfl ?_
  refine XO_nil ?_
  refine at_then ?_
  refine X_ret ?_
  first
  | exact at_ret1 rfl rfl (fun w hw => ⟨by rw [← idx_any], hw.drop⟩)
end Go.Proofs.YtkpmnnflikkhmaaDoor
end
section
namespace Go.Proofs.YtkpmnnflikkhmaaDoor
open Go Go.Kn Go.Proofs
def stateP (v : Int) : Bool := decide (v < 0) || decide (v > 8589934592)
def rowP (w : Nat) (r : List Int) : Bool := decide ((r.length : Int) ≠ w) || r.any stateP
def rowsN (rows : List (List Int)) : Int :=
  if decide ((rows.length : Int) > 6) || rows.any (fun r => decide ((r.length : Int) > 64)) then 2 else if rows.length = 0 then 420
  else if rows.any (rowP (rows.getD 0 []).length) then 420 else 0
theorem rows_1 {rows : List (List Int)} (h : (decide ((rows.length : Int) > 6) || rows.any (fun r => decide ((r.length : Int) > 64))) = true) : rowsN rows = 2 := by unfold rowsN; rw [if_pos h]
theorem rows_2 {rows : List (List Int)} (h : (decide ((rows.length : Int) > 6) || rows.any (fun r => decide ((r.length : Int) > 64))) = false) (h2 : rows.length = 0) : rowsN rows = 420 := by unfold rowsN; rw [if_neg (by rw [h]; decide), if_pos h2]
theorem rows_3 {rows : List (List Int)} (h : (decide ((rows.length : Int) > 6) || rows.any (fun r => decide ((r.length : Int) > 64))) = false) (h2 : ¬ rows.length = 0) : rowsN rows = if rows.any (rowP (rows.getD 0 []).length) then 420 else 0 := by
  unfold rowsN; rw [if_neg (by rw [h]; decide), if_neg h2]
theorem rows_64 {rows : List (List Int)} (h : (decide ((rows.length : Int) > 6) || rows.any (fun r => decide ((r.length : Int) > 64))) = false) {v : List Int} (hv : v ∈ rows) : v.length ≤ 64 := by
  rw [Bool.or_eq_false_iff] at h
  have := List.any_eq_false.1 h.2 v hv
  simp at this; omega
/-- A slice's heads have their lists' lengths. -/
theorem heads_any {I : HMap} {av : Option Addr} {n c : Nat} {hs : List Hd} {vss : List (List Int)} (h : SlH I av n c hs vss) (p : Int → Bool) : hs.any (fun x : Hd => p (x.n : Int)) = vss.any (fun r => p (r.length : Int)) := by
  have hl := h.2.1
  have hlen : ∀ (k : Nat) (x : Hd) (v : List Int), hs[k]? = some x → vss[k]? = some v → v.length = x.n := fun k x v a b => (h.2.2 k x v a b).len
  clear h
  rw [Bool.eq_iff_iff, List.any_eq_true, List.any_eq_true]
  constructor
  · rintro ⟨x, hx, hp⟩
    obtain ⟨k, hk⟩ := List.getElem?_of_mem hx
    have hk2 : vss[k]? = some (vss[k]'(by have := (List.getElem?_eq_some_iff.1 hk).1; omega)) := List.getElem?_eq_getElem _
    exact ⟨_, List.mem_of_getElem? hk2, by rw [hlen k _ _ hk hk2]; exact hp⟩
  · rintro ⟨v, hv, hp⟩
    obtain ⟨k, hk⟩ := List.getElem?_of_mem hv
    have hk2 : hs[k]? = some (hs[k]'(by have := (List.getElem?_eq_some_iff.1 hk).1; omega)) := List.getElem?_eq_getElem _
    exact ⟨_, List.mem_of_getElem? hk2, by rw [← hlen k _ _ hk2 hk]; exact hp⟩
end Go.Proofs.YtkpmnnflikkhmaaDoor
end
section
namespace Go.Proofs.YtkpmnnflikkhmaaDoor
open Go Go.Kn Go.Proofs
theorem w_table {I : HMap} {av : Option Addr} {n c : Nat} {rows : List (List Int)} (hV : SlN I av n c rows) (hn : n ≤ 100000) : RetV Tryd.prog 36 [.slice av n c] I (.int .i64 (rowsN rows)) := by
  intro g H w hw
  refine enter Tryd.func36 rfl Tryd.ntmps36 rfl hw ?_
  obtain ⟨hs, hV⟩ := hV
  have hH := hV.1
  have hlV := hV.len
  refine X_seq ?_
  refine X_region ?_
  refine XO_v0 (ev_assign rfl) rfl rfl rfl ?_
  refine XO_nil ?_
  refine at_then ?_
  refine X_seq ?_
  refine X_seq ?_
  refine X_region ?_
  refine XO_v0 (ev_move rfl) rfl rfl rfl ?_
  refine XO_v0 (ev_lenS rfl slt_28) rfl rfl rfl ?_
  refine XO_v0 (ev_cmp rfl rfl rfl) rfl rfl rfl ?_
  refine XO_v0 (ev_move rfl) rfl rfl rfl ?_
  refine XO_pushF 3 rfl rfl rfl ?_
  refine XO_v1 (ev_move rfl) (.some rfl rfl rfl rfl gbf) rfl rfl rfl ?_
  refine XO_callV1 (cap := []) (vs := [_, _]) rfl rfl fun_54 (fun hg => w_containsF hH hn) (.some rfl rfl rfl rfl gbf) rfl rfl ?_
  refine XO_or0 rfl rfl rfl rfl rfl ?_
  refine XO_nil ?_
  refine at_then ?_
  refine X_cond rfl (fun hc11 => ?_) (fun hc11 => ?_)
  · skip
    have h1 : (decide ((rows.length : Int) > 6) || rows.any (fun r => decide ((r.length : Int) > 64))) = true := by rw [hlV, ← heads_any hV (fun q => decide (q > 64))]; exact hc11
    refine X_seq ?_
    refine X_region ?_
    refine XO_v0 (ev_assign rfl) rfl rfl rfl ?_
    refine XO_nil ?_
    refine at_then ?_
    refine X_ret ?_
    refine at_then_r ?_
    first
    | exact at_ret1 rfl rfl (fun w hw => ⟨by rw [rows_1 h1], hw.drop⟩)
    | exact at_ret1 rfl rfl (fun w hw => ⟨by rw [rows_2 h1 h2], hw.drop⟩)
    | exact at_ret1 rfl rfl (fun w hw => ⟨by rw [rows_3 h1 h2, any_yes hv (by rw [hrow]; exact hc31)]; rfl, hw.drop⟩)
    | exact at_ret1 rfl rfl (fun w hw => ⟨by rw [rows_3 h1 h2, hno]; rfl, hw.drop⟩)
  · skip
    have h1 : (decide ((rows.length : Int) > 6) || rows.any (fun r => decide ((r.length : Int) > 64))) = false := by rw [hlV, ← heads_any hV (fun q => decide (q > 64))]; exact hc11
    refine X_skip ?_
    refine at_then ?_
    refine X_seq ?_
    refine X_seq ?_
    refine X_region ?_
    refine XO_v0 (ev_move rfl) rfl rfl rfl ?_
    refine XO_v0 (ev_lenS rfl slt_28) rfl rfl rfl ?_
    refine XO_v0 (ev_cmp rfl rfl rfl) rfl rfl rfl ?_
    refine XO_nil ?_
    refine at_then ?_
    refine X_cond rfl (fun hc14 => ?_) (fun hc14 => ?_)
    · skip
      have h2 : rows.length = 0 := by simp at hc14; omega
      refine X_seq ?_
      refine X_region ?_
      refine XO_v0 (ev_assign rfl) rfl rfl rfl ?_
      refine XO_nil ?_
      refine at_then ?_
      refine X_ret ?_
      refine at_then_r ?_
      first
      | exact at_ret1 rfl rfl (fun w hw => ⟨by rw [rows_1 h1], hw.drop⟩)
      | exact at_ret1 rfl rfl (fun w hw => ⟨by rw [rows_2 h1 h2], hw.drop⟩)
      | exact at_ret1 rfl rfl (fun w hw => ⟨by rw [rows_3 h1 h2, any_yes hv (by rw [hrow]; exact hc31)]; rfl, hw.drop⟩)
      | exact at_ret1 rfl rfl (fun w hw => ⟨by rw [rows_3 h1 h2, hno]; rfl, hw.drop⟩)
    · skip
      have h2 : ¬ rows.length = 0 := by simp at hc14; omega
      obtain ⟨x0, v0, hx0, hv0, hQ0⟩ := hV.at (show 0 < n by omega)
      refine X_skip ?_
      refine at_then ?_
      refine X_seq ?_
      refine X_seq ?_
      refine X_region ?_
      refine XO_v0 (ev_move rfl) rfl rfl rfl ?_
      refine XO_v0 (ev_lenS rfl slt_28) rfl rfl rfl ?_
      refine XO_v0 (ev_move rfl) rfl rfl rfl ?_
      refine XO_nil ?_
      refine at_then ?_
      refine X_block ?_
      refine X_loopT [(0, _), (15, _), (16, _)] (.cons rfl (.cons rfl (.cons rfl .nil))) (fun T L0 mz E I' loc' => ∃ (k : Nat), mz = n - k ∧ E = (17, .int .i64 k) :: T ∧ I = I' ∧ L0 = loc' ∧ k ≤ n ∧ (rows.take k).any (rowP (rows.getD 0 []).length) = false) _ _ _ _ ⟨0, rfl, rfl, rfl, rfl, Nat.zero_le _, rfl⟩ (.cons rfl (.cons rfl (.cons rfl (.cons rfl .nil)))) (HLe.refl _) rfl ?_
      rintro mz E I' loc' ⟨k, rfl, rfl, rfl, rfl, hk, hno⟩
      refine X_seq ?_
      refine X_region ?_
      refine XO_v0 (ev_cmp rfl rfl rfl) rfl rfl rfl ?_
      refine XO_nil ?_
      refine at_then ?_
      refine X_seq ?_
      refine X_cond rfl (fun hc18 => ?_) (fun hc18 => ?_)
      · skip
        have hlt_k : k < n := by have h := hc18; simp at h; omega
        obtain ⟨x, v, hx, hv, hQ⟩ := hV.at hlt_k
        have hrow : rowP (rows.getD 0 []).length v = (((x.n : Int) != (x0.n : Int)) || v.any stateP) := by unfold rowP; rw [getD_of hv0, hQ.len, hQ0.len]; congr 1; exact Bool.eq_iff_iff.2 (by simp)
        refine X_skip ?_
        refine at_then ?_
        refine X_seq ?_
        refine X_block ?_
        refine X_seq ?_
        refine X_region ?_
        refine XO_v0 (ev_indexSl rfl rfl slt_28 (by assumption) (fun hg => by first | omega | (simp [conj] at hg; omega))) rfl rfl rfl ?_
        refine XO_v0 (ev_load rfl sct_22 (fun hg => by first | exact Sl.get0 hH hx rfl | exact Sl.get0 (k := 0) hH hx0 rfl | exact Cell.h0 rfl | exact Cell.h1 rfl | exact Cell.h2 rfl | exact Cell.h3 rfl | exact Cell.h4 rfl | exact Cell.h5 rfl | (repeat (first | exact Cell.here rfl | apply Cell.there | apply Cell.app)))) rfl rfl rfl ?_
        refine XO_v0 (ev_assign rfl) rfl rfl rfl ?_
        refine XO_nil ?_
        refine at_then ?_
        refine X_seq ?_
        refine X_region ?_
        refine XO_v0 (ev_move rfl) rfl rfl rfl ?_
        refine XO_v0 (ev_lenS rfl slt_22) rfl rfl rfl ?_
        refine XO_v0 (ev_move rfl) rfl rfl rfl ?_
        refine XO_v0 (ev_indexSl rfl rfl slt_28 (by assumption) (fun hg => by first | omega | (simp [conj] at hg; omega))) rfl rfl rfl ?_
        refine XO_v0 (ev_load rfl sct_22 (fun hg => by first | exact Sl.get0 hH hx rfl | exact Sl.get0 (k := 0) hH hx0 rfl | exact Cell.h0 rfl | exact Cell.h1 rfl | exact Cell.h2 rfl | exact Cell.h3 rfl | exact Cell.h4 rfl | exact Cell.h5 rfl | (repeat (first | exact Cell.here rfl | apply Cell.there | apply Cell.app)))) rfl rfl rfl ?_
        refine XO_v0 (ev_lenS rfl slt_22) rfl rfl rfl ?_
        refine XO_v0 (ev_cmp rfl rfl rfl) rfl rfl rfl ?_
        refine XO_v0 (ev_move rfl) rfl rfl rfl ?_
        refine XO_pushF 7 rfl rfl rfl ?_
        refine XO_v1 (ev_move rfl) (.some rfl rfl rfl rfl gbf) rfl rfl rfl ?_
        refine XO_callV1 (cap := []) (vs := [_, _]) rfl rfl fun_56 (fun hg => w_containsG hQ (by rw [← hQ.len]; have := rows_64 h1 (List.mem_of_getElem? hv); omega)) (.some rfl rfl rfl rfl gbf) rfl rfl ?_
        refine XO_or0 rfl rfl rfl rfl rfl ?_
        refine XO_nil ?_
        refine at_then ?_
        refine X_cond rfl (fun hc31 => ?_) (fun hc31 => ?_)
        · skip
          refine X_seq ?_
          refine X_region ?_
          refine XO_v0 (ev_assign rfl) rfl rfl rfl ?_
          refine XO_nil ?_
          refine at_then ?_
          refine X_ret ?_
          refine at_block_r ?_
          refine at_then_r ?_
          refine at_then_r ?_
          refine at_block_r ?_
          refine at_then_r ?_
          first
          | exact at_ret1 rfl rfl (fun w hw => ⟨by rw [rows_1 h1], hw.drop⟩)
          | exact at_ret1 rfl rfl (fun w hw => ⟨by rw [rows_2 h1 h2], hw.drop⟩)
          | exact at_ret1 rfl rfl (fun w hw => ⟨by rw [rows_3 h1 h2, any_yes hv (by rw [hrow]; exact hc31)]; rfl, hw.drop⟩)
          | exact at_ret1 rfl rfl (fun w hw => ⟨by rw [rows_3 h1 h2, hno]; rfl, hw.drop⟩)
        · skip
          refine X_skip ?_
          refine at_block_n ?_
          refine at_then ?_
          refine X_region ?_
          refine XO_v0 (ev_arB rfl rfl rfl (fun _ => by omega)) rfl rfl rfl ?_
          refine XO_v0 (ev_move rfl) rfl rfl rfl ?_
          refine XO_nil ?_
          exact at_met2 _ _ ⟨n - (k + 1), by omega, k + 1, rfl, rfl, rfl, rfl, by omega, any_no hv hno (by rw [hrow]; exact hc31)⟩ (.cons rfl (.cons rfl (.cons rfl (.cons rfl .nil)))) (by repeat (first | exact .refl | exact subL_left | refine subL_app ?_ | refine .drop ?_ | refine subL_add ?_))
      · skip
        have hge_k : n ≤ k := by have h := hc18; simp at h; omega
        rw [take_all hlV hge_k] at hno
        refine X_exit ?_
        refine at_then_e ?_
        refine at_then_e ?_
        refine at_block_hit ?_
        refine at_then ?_
        refine X_seq ?_
        refine X_region ?_
        refine XO_v0 (ev_assign rfl) rfl rfl rfl ?_
        refine XO_nil ?_
        refine at_then ?_
        refine X_ret ?_
        first
        | exact at_ret1 rfl rfl (fun w hw => ⟨by rw [rows_1 h1], hw.drop⟩)
        | exact at_ret1 rfl rfl (fun w hw => ⟨by rw [rows_2 h1 h2], hw.drop⟩)
        | exact at_ret1 rfl rfl (fun w hw => ⟨by rw [rows_3 h1 h2, any_yes hv (by rw [hrow]; exact hc31)]; rfl, hw.drop⟩)
        | exact at_ret1 rfl rfl (fun w hw => ⟨by rw [rows_3 h1 h2, hno]; rfl, hw.drop⟩)
end Go.Proofs.YtkpmnnflikkhmaaDoor
end
section
namespace Go.Proofs.YtkpmnnflikkhmaaDoor
open Go Go.Kn Go.Proofs
theorem take_next {α : Type} {xs ys : List α} {k : Nat} {x y : α} (hx : xs[k]? = some x) (hy : ys[k]? = some y) (he : xs.take k = ys.take k) (h : x = y) : xs.take (k + 1) = ys.take (k + 1) := by
  rw [List.take_add_one, List.take_add_one, hx, hy, he, h]
theorem same_ne {α : Type} [DecidableEq α] {xs ys : List α} {k : Nat} {x y : α} (hx : xs[k]? = some x) (hy : ys[k]? = some y) (h : x ≠ y) : sameF xs ys = false :=
  decide_eq_false fun e => h (by rw [e, hy] at hx; exact (Option.some.inj hx).symm)
theorem same_len {α : Type} [DecidableEq α] {xs ys : List α} {n m : Nat} (h1 : xs.length = n) (h2 : ys.length = m) (h : n ≠ m) : sameF xs ys = false :=
  decide_eq_false fun e => h (by rw [← h1, ← h2, e])
theorem w_same {I : HMap} {av : Option Addr} {n c : Nat} {rows : List (List Int)} (hV : SlN I av n c rows) {bv : Option Addr} {n2 c2 : Nat} {rows2 : List (List Int)} (hW : SlN I bv n2 c2 rows2) (hn : n ≤ 100000) (hr : ∀ r ∈ rows, r.length ≤ 100000) : RetV Tryd.prog 17 [.slice av n c, .slice bv n2 c2] I (.bool (sameF rows rows2)) := by
  intro g H w hw
  refine enter Tryd.func17 rfl Tryd.ntmps17 rfl hw ?_
  obtain ⟨hs, hV⟩ := hV
  obtain ⟨gs, hW⟩ := hW
  have hH := hV.1
  have hG := hW.1
  have hlV := hV.len
  have hlW := hW.len
  refine X_seq ?_
  refine X_region ?_
  refine XO_v0 (ev_assign rfl) rfl rfl rfl ?_
  refine XO_nil ?_
  refine at_then ?_
  refine X_seq ?_
  refine X_seq ?_
  refine X_region ?_
  refine XO_v0 (ev_move rfl) rfl rfl rfl ?_
  refine XO_v0 (ev_lenS rfl slt_28) rfl rfl rfl ?_
  refine XO_v0 (ev_move rfl) rfl rfl rfl ?_
  refine XO_v0 (ev_lenS rfl slt_28) rfl rfl rfl ?_
  refine XO_v0 (ev_cmp rfl rfl rfl) rfl rfl rfl ?_
  refine XO_nil ?_
  refine at_then ?_
  refine X_cond rfl (fun hc11 => ?_) (fun hc11 => ?_)
  · skip
    refine X_seq ?_
    refine X_region ?_
    refine XO_v0 (ev_assign rfl) rfl rfl rfl ?_
    refine XO_nil ?_
    refine at_then ?_
    refine X_ret ?_
    refine at_then_r ?_
    first
    | exact at_ret1 rfl rfl (fun w hw => ⟨by rw [same_len hlV hlW (by simp at hc11; omega)], hw.drop⟩)
    | exact at_ret1 rfl rfl (fun w hw => ⟨by rw [hall, same_self], hw.drop⟩)
    | exact at_ret1 rfl rfl (fun w hw => ⟨by rw [same_ne hv hw1 (fun e => hlne (by rw [← hQ.len, ← hR.len, e]))], hw.drop⟩)
    | exact at_ret1 rfl rfl (fun w hw => ⟨by rw [same_ne hv hw1 (fun e => absurd hc52 (by rw [e, hz] at hu; cases hu; simp))], hw.drop⟩)
  · skip
    have hnn : n = n2 := by simp at hc11; omega
    refine X_skip ?_
    refine at_then ?_
    refine X_seq ?_
    refine X_seq ?_
    refine X_region ?_
    refine XO_v0 (ev_assign rfl) rfl rfl rfl ?_
    refine XO_nil ?_
    refine at_then ?_
    refine X_block ?_
    refine X_loopT [(0, _), (1, _)] (.cons rfl (.cons rfl .nil)) (fun T L0 mz E I' loc' => ∃ (k : Nat), mz = n - k ∧ E = (5, .int .i64 k) :: T ∧ I = I' ∧ L0 = loc' ∧ k ≤ n ∧ rows.take k = rows2.take k) _ _ _ _ ⟨0, rfl, rfl, rfl, rfl, Nat.zero_le _, rfl⟩ (.cons rfl (.cons rfl (.cons rfl .nil))) (HLe.refl _) rfl ?_
    rintro mz E I' loc' ⟨k, rfl, rfl, rfl, rfl, hk, he⟩
    refine X_seq ?_
    refine X_seq ?_
    refine X_region ?_
    refine XO_v0 (ev_move rfl) rfl rfl rfl ?_
    refine XO_v0 (ev_move rfl) rfl rfl rfl ?_
    refine XO_v0 (ev_lenS rfl slt_28) rfl rfl rfl ?_
    refine XO_v0 (ev_cmp rfl rfl rfl) rfl rfl rfl ?_
    refine XO_nil ?_
    refine at_then ?_
    refine X_cond rfl (fun hc15 => ?_) (fun hc15 => ?_)
    · skip
      have hlt_k : k < n := by have h := hc15; simp at h; omega
      obtain ⟨x, v, hx, hv, hQ⟩ := hV.at hlt_k
      obtain ⟨y, w1, hy, hw1, hR⟩ := hW.at (show k < n2 by omega)
      have hxl : x.n ≤ 100000 := by rw [← hQ.len]; exact hr v (List.mem_of_getElem? hv)
      refine X_skip ?_
      refine at_then ?_
      refine X_seq ?_
      refine X_block ?_
      refine X_seq ?_
      refine X_seq ?_
      refine X_draw mixed (by kernel_rfl) ?_
      refine XQ_v0 (ev_move rfl) rfl rfl rfl ?_
      refine XQ_v0 (ev_move rfl) rfl rfl rfl ?_
      refine XQ_v0 (ev_indexSl rfl rfl slt_28 (by assumption) (fun hg => by first | omega | (simp [conj] at hg; omega))) rfl rfl rfl ?_
      refine XQ_v0 (ev_load rfl sct_22 (fun hg => by first | exact Sl.get0 hH hx rfl | exact Sl.get0 hG hy rfl | exact Sl.get0 hQ hu rfl | exact Sl.get0 hR hz rfl | exact Cell.h0 rfl | exact Cell.h1 rfl | exact Cell.h2 rfl | exact Cell.h3 rfl | exact Cell.h4 rfl | exact Cell.h5 rfl | (repeat (first | exact Cell.here rfl | apply Cell.there | apply Cell.app)))) rfl rfl rfl ?_
      refine XQ_v0 (ev_lenS rfl slt_22) rfl rfl rfl ?_
      refine XQ_v0 (ev_move rfl) rfl rfl rfl ?_
      refine XQ_v0 (ev_move rfl) rfl rfl rfl ?_
      refine XQ_v0 (ev_indexSl rfl rfl slt_28 (by assumption) (fun hg => by first | omega | (simp [conj] at hg; omega))) rfl rfl rfl ?_
      refine XQ_v0 (ev_load rfl sct_22 (fun hg => by first | exact Sl.get0 hH hx rfl | exact Sl.get0 hG hy rfl | exact Sl.get0 hQ hu rfl | exact Sl.get0 hR hz rfl | exact Cell.h0 rfl | exact Cell.h1 rfl | exact Cell.h2 rfl | exact Cell.h3 rfl | exact Cell.h4 rfl | exact Cell.h5 rfl | (repeat (first | exact Cell.here rfl | apply Cell.there | apply Cell.app)))) rfl rfl rfl ?_
      refine XQ_v0 (ev_lenS rfl slt_22) rfl rfl rfl ?_
      refine XQ_v0 (ev_cmp rfl rfl rfl) rfl rfl rfl ?_
      refine XQ_nil ?_
      refine at_then ?_
      refine X_cond rfl (fun hc28 => ?_) (fun hc28 => ?_)
      · skip
        have hlne : x.n ≠ y.n := by simp at hc28; omega
        refine X_seq ?_
        refine X_region ?_
        refine XO_v0 (ev_assign rfl) rfl rfl rfl ?_
        refine XO_nil ?_
        refine at_then ?_
        refine X_ret ?_
        refine at_then_r ?_
        refine at_block_r ?_
        refine at_then_r ?_
        refine at_then_r ?_
        refine at_block_r ?_
        refine at_then_r ?_
        first
        | exact at_ret1 rfl rfl (fun w hw => ⟨by rw [same_len hlV hlW (by simp at hc11; omega)], hw.drop⟩)
        | exact at_ret1 rfl rfl (fun w hw => ⟨by rw [hall, same_self], hw.drop⟩)
        | exact at_ret1 rfl rfl (fun w hw => ⟨by rw [same_ne hv hw1 (fun e => hlne (by rw [← hQ.len, ← hR.len, e]))], hw.drop⟩)
        | exact at_ret1 rfl rfl (fun w hw => ⟨by rw [same_ne hv hw1 (fun e => absurd hc52 (by rw [e, hz] at hu; cases hu; simp))], hw.drop⟩)
      · skip
        have hxy : x.n = y.n := by simp at hc28; omega
        refine X_skip ?_
        refine at_then ?_
        refine X_seq ?_
        refine X_region ?_
        refine XO_v0 (ev_assign rfl) rfl rfl rfl ?_
        refine XO_nil ?_
        refine at_then ?_
        refine X_block ?_
        refine X_loopT [(0, _), (1, _), (5, _)] (.cons rfl (.cons rfl (.cons rfl .nil))) (fun T L0 mz E I' loc' => ∃ (j : Nat), mz = x.n - j ∧ E = (6, .int .i64 j) :: T ∧ I = I' ∧ L0 = loc' ∧ j ≤ x.n ∧ v.take j = w1.take j) _ _ _ _ ⟨0, rfl, rfl, rfl, rfl, Nat.zero_le _, rfl⟩ (.cons rfl (.cons rfl (.cons rfl (.cons rfl .nil)))) (HLe.refl _) rfl ?_
        rintro mz E I' loc' ⟨j, rfl, rfl, rfl, rfl, hj, hj⟩
        refine X_seq ?_
        refine X_seq ?_
        refine X_region ?_
        refine XO_v0 (ev_move rfl) rfl rfl rfl ?_
        refine XO_v0 (ev_move rfl) rfl rfl rfl ?_
        refine XO_v0 (ev_move rfl) rfl rfl rfl ?_
        refine XO_v0 (ev_indexSl rfl rfl slt_28 (by assumption) (fun hg => by first | omega | (simp [conj] at hg; omega))) rfl rfl rfl ?_
        refine XO_v0 (ev_load rfl sct_22 (fun hg => by first | exact Sl.get0 hH hx rfl | exact Sl.get0 hG hy rfl | exact Sl.get0 hQ hu rfl | exact Sl.get0 hR hz rfl | exact Cell.h0 rfl | exact Cell.h1 rfl | exact Cell.h2 rfl | exact Cell.h3 rfl | exact Cell.h4 rfl | exact Cell.h5 rfl | (repeat (first | exact Cell.here rfl | apply Cell.there | apply Cell.app)))) rfl rfl rfl ?_
        refine XO_v0 (ev_lenS rfl slt_22) rfl rfl rfl ?_
        refine XO_v0 (ev_cmp rfl rfl rfl) rfl rfl rfl ?_
        refine XO_nil ?_
        refine at_then ?_
        refine X_cond rfl (fun hc35 => ?_) (fun hc35 => ?_)
        · skip
          have hlt_j : j < x.n := by have h := hc35; simp at h; omega
          obtain ⟨u, hu⟩ := hQ.at hlt_j
          obtain ⟨z, hz⟩ := hR.at (show j < y.n by omega)
          refine X_skip ?_
          refine at_then ?_
          refine X_seq ?_
          refine X_block ?_
          refine X_seq ?_
          refine X_draw mixed (by kernel_rfl) ?_
          refine XQ_v0 (ev_move rfl) rfl rfl rfl ?_
          refine XQ_v0 (ev_move rfl) rfl rfl rfl ?_
          refine XQ_v0 (ev_indexSl rfl rfl slt_28 (by assumption) (fun hg => by first | omega | (simp [conj] at hg; omega))) rfl rfl rfl ?_
          refine XQ_v0 (ev_load rfl sct_22 (fun hg => by first | exact Sl.get0 hH hx rfl | exact Sl.get0 hG hy rfl | exact Sl.get0 hQ hu rfl | exact Sl.get0 hR hz rfl | exact Cell.h0 rfl | exact Cell.h1 rfl | exact Cell.h2 rfl | exact Cell.h3 rfl | exact Cell.h4 rfl | exact Cell.h5 rfl | (repeat (first | exact Cell.here rfl | apply Cell.there | apply Cell.app)))) rfl rfl rfl ?_
          refine XQ_v0 (ev_move rfl) rfl rfl rfl ?_
          refine XQ_v0 (ev_indexSl rfl rfl slt_22 (by assumption) (fun hg => by first | omega | (simp [conj] at hg; omega))) rfl rfl rfl ?_
          refine XQ_v0 (ev_load rfl sct_3 (fun hg => by first | exact Sl.get0 hH hx rfl | exact Sl.get0 hG hy rfl | exact Sl.get0 hQ hu rfl | exact Sl.get0 hR hz rfl | exact Cell.h0 rfl | exact Cell.h1 rfl | exact Cell.h2 rfl | exact Cell.h3 rfl | exact Cell.h4 rfl | exact Cell.h5 rfl | (repeat (first | exact Cell.here rfl | apply Cell.there | apply Cell.app)))) rfl rfl rfl ?_
          refine XQ_v0 (ev_move rfl) rfl rfl rfl ?_
          refine XQ_v0 (ev_move rfl) rfl rfl rfl ?_
          refine XQ_v0 (ev_indexSl rfl rfl slt_28 (by assumption) (fun hg => by first | omega | (simp [conj] at hg; omega))) rfl rfl rfl ?_
          refine XQ_v0 (ev_load rfl sct_22 (fun hg => by first | exact Sl.get0 hH hx rfl | exact Sl.get0 hG hy rfl | exact Sl.get0 hQ hu rfl | exact Sl.get0 hR hz rfl | exact Cell.h0 rfl | exact Cell.h1 rfl | exact Cell.h2 rfl | exact Cell.h3 rfl | exact Cell.h4 rfl | exact Cell.h5 rfl | (repeat (first | exact Cell.here rfl | apply Cell.there | apply Cell.app)))) rfl rfl rfl ?_
          refine XQ_v0 (ev_move rfl) rfl rfl rfl ?_
          refine XQ_v0 (ev_indexSl rfl rfl slt_22 (by assumption) (fun hg => by first | omega | (simp [conj] at hg; omega))) rfl rfl rfl ?_
          refine XQ_v0 (ev_load rfl sct_3 (fun hg => by first | exact Sl.get0 hH hx rfl | exact Sl.get0 hG hy rfl | exact Sl.get0 hQ hu rfl | exact Sl.get0 hR hz rfl | exact Cell.h0 rfl | exact Cell.h1 rfl | exact Cell.h2 rfl | exact Cell.h3 rfl | exact Cell.h4 rfl | exact Cell.h5 rfl | (repeat (first | exact Cell.here rfl | apply Cell.there | apply Cell.app)))) rfl rfl rfl ?_
          refine XQ_v0 (ev_cmp rfl rfl rfl) rfl rfl rfl ?_
          refine XQ_nil ?_
          refine at_then ?_
          refine X_cond rfl (fun hc52 => ?_) (fun hc52 => ?_)
          · skip
            refine X_seq ?_
            refine X_region ?_
            refine XO_v0 (ev_assign rfl) rfl rfl rfl ?_
            refine XO_nil ?_
            refine at_then ?_
            refine X_ret ?_
            refine at_block_r ?_
            refine at_then_r ?_
            refine at_then_r ?_
            refine at_block_r ?_
            refine at_block_r ?_
            refine at_then_r ?_
            refine at_then_r ?_
            refine at_block_r ?_
            refine at_then_r ?_
            first
            | exact at_ret1 rfl rfl (fun w hw => ⟨by rw [same_len hlV hlW (by simp at hc11; omega)], hw.drop⟩)
            | exact at_ret1 rfl rfl (fun w hw => ⟨by rw [hall, same_self], hw.drop⟩)
            | exact at_ret1 rfl rfl (fun w hw => ⟨by rw [same_ne hv hw1 (fun e => hlne (by rw [← hQ.len, ← hR.len, e]))], hw.drop⟩)
            | exact at_ret1 rfl rfl (fun w hw => ⟨by rw [same_ne hv hw1 (fun e => absurd hc52 (by rw [e, hz] at hu; cases hu; simp))], hw.drop⟩)
          · skip
            refine X_skip ?_
            refine at_block_n ?_
            refine at_then ?_
            refine X_region ?_
            refine XO_v0 (ev_move rfl) rfl rfl rfl ?_
            refine XO_v0 (ev_arB rfl rfl rfl (fun _ => by omega)) rfl rfl rfl ?_
            refine XO_v0 (ev_assign rfl) rfl rfl rfl ?_
            refine XO_nil ?_
            exact at_met2 _ _ ⟨x.n - (j + 1), by omega, j + 1, rfl, rfl, rfl, rfl, by omega, take_next hu hz hj (by simpa using hc52)⟩ (.cons rfl (.cons rfl (.cons rfl (.cons rfl .nil)))) (by repeat (first | exact .refl | exact subL_left | refine subL_app ?_ | refine .drop ?_ | refine subL_add ?_))
        · skip
          have hge_j : x.n ≤ j := by have h := hc35; simp at h; omega
          have hvw : v = w1 := by rw [take_all hQ.len hge_j, take_all hR.len (by omega)] at hj; exact hj
          refine X_exit ?_
          refine at_then_e ?_
          refine at_then_e ?_
          refine at_block_hit ?_
          refine at_block_n ?_
          refine at_then ?_
          refine X_region ?_
          refine XO_v0 (ev_move rfl) rfl rfl rfl ?_
          refine XO_v0 (ev_arB rfl rfl rfl (fun _ => by omega)) rfl rfl rfl ?_
          refine XO_v0 (ev_assign rfl) rfl rfl rfl ?_
          refine XO_nil ?_
          exact at_met2 _ _ ⟨n - (k + 1), by omega, k + 1, rfl, rfl, rfl, rfl, by omega, take_next hv hw1 he hvw⟩ (.cons rfl (.cons rfl (.cons rfl .nil))) (by repeat (first | exact .refl | exact subL_left | refine subL_app ?_ | refine .drop ?_ | refine subL_add ?_))
    · skip
      have hge_k : n ≤ k := by have h := hc15; simp at h; omega
      have hall : rows = rows2 := by rw [take_all hlV hge_k, take_all hlW (by omega)] at he; exact he
      refine X_exit ?_
      refine at_then_e ?_
      refine at_then_e ?_
      refine at_block_hit ?_
      refine at_then ?_
      refine X_seq ?_
      refine X_region ?_
      refine XO_v0 (ev_assign rfl) rfl rfl rfl ?_
      refine XO_nil ?_
      refine at_then ?_
      refine X_ret ?_
      first
      | exact at_ret1 rfl rfl (fun w hw => ⟨by rw [same_len hlV hlW (by simp at hc11; omega)], hw.drop⟩)
      | exact at_ret1 rfl rfl (fun w hw => ⟨by rw [hall, same_self], hw.drop⟩)
      | exact at_ret1 rfl rfl (fun w hw => ⟨by rw [same_ne hv hw1 (fun e => hlne (by rw [← hQ.len, ← hR.len, e]))], hw.drop⟩)
      | exact at_ret1 rfl rfl (fun w hw => ⟨by rw [same_ne hv hw1 (fun e => absurd hc52 (by rw [e, hz] at hu; cases hu; simp))], hw.drop⟩)
end Go.Proofs.YtkpmnnflikkhmaaDoor
end
section
namespace Go.Proofs.YtkpmnnflikkhmaaDoor
open Go Go.Kn Go.Proofs
def stepF (f t : Int) : Int := if f = t then 0 else if t = 0 then 1 else if f = 0 then 4 else 2
theorem step_in (f t : Int) : 0 ≤ stepF f t ∧ stepF f t ≤ 4 := by
  unfold stepF
  split
  · omega
  · split
    · omega
    · split <;> omega
/-- The least cost below a state: of the first k states. -/
def bestK (st cs : List Int) (s : Int) (k : Nat) : Int := (List.range k).foldl (fun b i => minI b (stepF s (st.getD i 0) + cs.getD i 0)) 1048576
def belowF (st cs : List Int) (s : Int) : Int := bestK st cs s st.length
/-- Lexicographically less. -/
def lexF : List Int → List Int → Bool
  | x :: a, y :: b => if x ≠ y then decide (x < y) else lexF a b
  | _, _ => false
theorem drop_cons {α : Type} {xs : List α} {k : Nat} {x : α} (h : xs[k]? = some x) : xs.drop k = x :: xs.drop (k + 1) := by
  obtain ⟨h1, h2⟩ := List.getElem?_eq_some_iff.1 h
  rw [List.drop_eq_getElem_cons h1, h2]
theorem lex_ne {a b : List Int} {k : Nat} {x y : Int} (hx : a[k]? = some x) (hy : b[k]? = some y) (h : x ≠ y) : lexF (a.drop k) (b.drop k) = decide (x < y) := by rw [drop_cons hx, drop_cons hy, lexF, if_pos h]
theorem lex_eq {a b : List Int} {k : Nat} {x y : Int} (hx : a[k]? = some x) (hy : b[k]? = some y) (h : x = y) : lexF (a.drop k) (b.drop k) = lexF (a.drop (k + 1)) (b.drop (k + 1)) := by rw [drop_cons hx, drop_cons hy, lexF, if_neg (fun e => e h)]
theorem lex_end {a b : List Int} {k : Nat} (h : a.length ≤ k ∨ b.length ≤ k) : lexF (a.drop k) (b.drop k) = false := by
  rcases h with h | h
  · rw [List.drop_eq_nil_of_le h]; simp [lexF]
  · rw [List.drop_eq_nil_of_le h]
    cases a.drop k <;> simp [lexF]
def kindF (n : Int) : Int := if n = 0 then 1 else 0
end Go.Proofs.YtkpmnnflikkhmaaDoor
end
section
namespace Go.Proofs.YtkpmnnflikkhmaaDoor
open Go Go.Kn Go.Proofs
theorem w_less {I : HMap} {av : Option Addr} {n c : Nat} {xs : List Int} (hS : Sl I 1 encI av n c xs) {bv : Option Addr} {n2 c2 : Nat} {ys : List Int} (hT : Sl I 1 encI bv n2 c2 ys) (hn : n ≤ 100000) : RetV Tryd.prog 52 [.slice av n c, .slice bv n2 c2] I (.bool (lexF xs ys)) := by
  intro g H w hw
  refine enter Tryd.func52 rfl Tryd.ntmps52 rfl hw ?_
  refine X_seq ?_
  refine X_region ?_
  refine XO_v0 (ev_assign rfl) rfl rfl rfl ?_
  refine XO_nil ?_
  refine at_then ?_
  refine X_seq ?_
  refine X_seq ?_
  refine X_region ?_
  refine XO_v0 (ev_assign rfl) rfl rfl rfl ?_
  refine XO_nil ?_
  refine at_then ?_
  refine X_block ?_
  refine X_loopT [(0, _), (1, _)] (.cons rfl (.cons rfl .nil)) (fun T L0 mz E I' loc' => ∃ (k : Nat), mz = n - k ∧ E = (5, .int .i64 k) :: T ∧ I = I' ∧ L0 = loc' ∧ k ≤ n ∧ lexF xs ys = lexF (xs.drop k) (ys.drop k)) _ _ _ _ ⟨0, rfl, rfl, rfl, rfl, Nat.zero_le _, rfl⟩ (.cons rfl (.cons rfl (.cons rfl .nil))) (HLe.refl _) rfl ?_
  rintro mz E I' loc' ⟨k, rfl, rfl, rfl, rfl, hk, hlx⟩
  refine X_seq ?_
  refine X_seq ?_
  refine X_region ?_
  refine XO_v0 (ev_move rfl) rfl rfl rfl ?_
  refine XO_v0 (ev_move rfl) rfl rfl rfl ?_
  refine XO_v0 (ev_lenS rfl slt_22) rfl rfl rfl ?_
  refine XO_v0 (ev_cmp rfl rfl rfl) rfl rfl rfl ?_
  refine XO_v0 (ev_move rfl) rfl rfl rfl ?_
  refine XO_pushT 4 rfl rfl rfl ?_
  refine XO_v1 (ev_move rfl) (.some rfl rfl rfl rfl gbt) rfl rfl rfl ?_
  refine XO_v1 (ev_move rfl) (.some rfl rfl rfl rfl gbt) rfl rfl rfl ?_
  refine XO_v1 (ev_lenS rfl slt_22) (.some rfl rfl rfl rfl gbt) rfl rfl rfl ?_
  refine XO_v1 (ev_cmp rfl rfl rfl) (.some rfl rfl rfl rfl gbt) rfl rfl rfl ?_
  refine XO_and0 rfl rfl rfl rfl rfl ?_
  refine XO_nil ?_
  refine at_then ?_
  refine X_cond rfl (fun hc15 => ?_) (fun hc15 => ?_)
  · skip
    have hlt_k : k < n := by simp at hc15; omega
    have hlt_2 : k < n2 := by simp at hc15; omega
    obtain ⟨x, hx⟩ := hS.at hlt_k
    obtain ⟨y, hy⟩ := hT.at hlt_2
    refine X_skip ?_
    refine at_then ?_
    refine X_seq ?_
    refine X_block ?_
    refine X_seq ?_
    refine X_draw mixed (by kernel_rfl) ?_
    refine XQ_v0 (ev_move rfl) rfl rfl rfl ?_
    refine XQ_v0 (ev_move rfl) rfl rfl rfl ?_
    refine XQ_v0 (ev_indexSl rfl rfl slt_22 (by assumption) (fun hg => by first | omega | (simp [conj] at hg; omega))) rfl rfl rfl ?_
    refine XQ_v0 (ev_load rfl sct_3 (fun hg => by first | exact Sl.get0 hS hx rfl | exact Sl.get0 hT hy rfl | exact Cell.h0 rfl | exact Cell.h1 rfl | exact Cell.h2 rfl | exact Cell.h3 rfl | exact Cell.h4 rfl | exact Cell.h5 rfl | (repeat (first | exact Cell.here rfl | apply Cell.there | apply Cell.app)))) rfl rfl rfl ?_
    refine XQ_v0 (ev_move rfl) rfl rfl rfl ?_
    refine XQ_v0 (ev_move rfl) rfl rfl rfl ?_
    refine XQ_v0 (ev_indexSl rfl rfl slt_22 (by assumption) (fun hg => by first | omega | (simp [conj] at hg; omega))) rfl rfl rfl ?_
    refine XQ_v0 (ev_load rfl sct_3 (fun hg => by first | exact Sl.get0 hS hx rfl | exact Sl.get0 hT hy rfl | exact Cell.h0 rfl | exact Cell.h1 rfl | exact Cell.h2 rfl | exact Cell.h3 rfl | exact Cell.h4 rfl | exact Cell.h5 rfl | (repeat (first | exact Cell.here rfl | apply Cell.there | apply Cell.app)))) rfl rfl rfl ?_
    refine XQ_v0 (ev_cmp rfl rfl rfl) rfl rfl rfl ?_
    refine XQ_nil ?_
    refine at_then ?_
    refine X_cond rfl (fun hc26 => ?_) (fun hc26 => ?_)
    · skip
      refine X_seq ?_
      refine X_draw mixed (by kernel_rfl) ?_
      refine XQ_v0 (ev_move rfl) rfl rfl rfl ?_
      refine XQ_v0 (ev_move rfl) rfl rfl rfl ?_
      refine XQ_v0 (ev_indexSl rfl rfl slt_22 (by assumption) (fun hg => by first | omega | (simp [conj] at hg; omega))) rfl rfl rfl ?_
      refine XQ_v0 (ev_load rfl sct_3 (fun hg => by first | exact Sl.get0 hS hx rfl | exact Sl.get0 hT hy rfl | exact Cell.h0 rfl | exact Cell.h1 rfl | exact Cell.h2 rfl | exact Cell.h3 rfl | exact Cell.h4 rfl | exact Cell.h5 rfl | (repeat (first | exact Cell.here rfl | apply Cell.there | apply Cell.app)))) rfl rfl rfl ?_
      refine XQ_v0 (ev_move rfl) rfl rfl rfl ?_
      refine XQ_v0 (ev_move rfl) rfl rfl rfl ?_
      refine XQ_v0 (ev_indexSl rfl rfl slt_22 (by assumption) (fun hg => by first | omega | (simp [conj] at hg; omega))) rfl rfl rfl ?_
      refine XQ_v0 (ev_load rfl sct_3 (fun hg => by first | exact Sl.get0 hS hx rfl | exact Sl.get0 hT hy rfl | exact Cell.h0 rfl | exact Cell.h1 rfl | exact Cell.h2 rfl | exact Cell.h3 rfl | exact Cell.h4 rfl | exact Cell.h5 rfl | (repeat (first | exact Cell.here rfl | apply Cell.there | apply Cell.app)))) rfl rfl rfl ?_
      refine XQ_v0 (ev_cmp rfl rfl rfl) rfl rfl rfl ?_
      refine XQ_v0 (ev_assign rfl) rfl rfl rfl ?_
      refine XQ_nil ?_
      refine at_then ?_
      refine X_ret ?_
      refine at_block_r ?_
      refine at_then_r ?_
      refine at_then_r ?_
      refine at_block_r ?_
      refine at_then_r ?_
      first
      | exact at_ret1 rfl rfl (fun w hw => ⟨by rw [hlx, lex_ne hx hy (by simpa using hc26)], hw.drop⟩)
      | exact at_ret1 rfl rfl (fun w hw => ⟨by rw [hlx, lex_end hge], hw.drop⟩)
    · skip
      refine X_skip ?_
      refine at_block_n ?_
      refine at_then ?_
      refine X_region ?_
      refine XO_v0 (ev_move rfl) rfl rfl rfl ?_
      refine XO_v0 (ev_arB rfl rfl rfl (fun _ => by omega)) rfl rfl rfl ?_
      refine XO_v0 (ev_assign rfl) rfl rfl rfl ?_
      refine XO_nil ?_
      exact at_met2 _ _ ⟨n - (k + 1), by omega, k + 1, rfl, rfl, rfl, rfl, by omega, by rw [hlx, lex_eq hx hy (by simpa using hc26)]⟩ (.cons rfl (.cons rfl (.cons rfl .nil))) (by repeat (first | exact .refl | exact subL_left | refine subL_app ?_ | refine .drop ?_ | refine subL_add ?_))
  · skip
    have hge : xs.length ≤ k ∨ ys.length ≤ k := by rw [hS.len, hT.len]; simp at hc15; exact (Nat.lt_or_ge k n).elim (fun h => .inr (hc15 h)) .inl
    refine X_exit ?_
    refine at_then_e ?_
    refine at_then_e ?_
    refine at_block_hit ?_
    refine at_then ?_
    refine X_seq ?_
    refine X_region ?_
    refine XO_v0 (ev_assign rfl) rfl rfl rfl ?_
    refine XO_nil ?_
    refine at_then ?_
    refine X_ret ?_
    first
    | exact at_ret1 rfl rfl (fun w hw => ⟨by rw [hlx, lex_ne hx hy (by simpa using hc26)], hw.drop⟩)
    | exact at_ret1 rfl rfl (fun w hw => ⟨by rw [hlx, lex_end hge], hw.drop⟩)
theorem w_kind (I : HMap) (n : Int) : RetV Tryd.prog 95 [.int .i64 n] I (.int .i64 (kindF n)) := by
  intro g H w hw
  refine enter Tryd.func95 rfl Tryd.ntmps95 rfl hw ?_
  refine X_seq ?_
  refine X_region ?_
  refine XO_v0 (ev_assign rfl) rfl rfl rfl ?_
  refine XO_nil ?_
  refine at_then ?_
  refine X_seq ?_
  refine X_seq ?_
  refine X_region ?_
  refine XO_v0 (ev_move rfl) rfl rfl rfl ?_
  refine XO_v0 (ev_cmp rfl rfl rfl) rfl rfl rfl ?_
  refine XO_nil ?_
  refine at_then ?_
  refine X_cond rfl (fun hc4 => ?_) (fun hc4 => ?_)
  · skip
    refine X_seq ?_
    refine X_region ?_
    refine XO_v0 (ev_assign rfl) rfl rfl rfl ?_
    refine XO_nil ?_
    refine at_then ?_
    refine X_ret ?_
    refine at_then_r ?_
    exact at_ret1 rfl rfl (fun w hw => ⟨by unfold kindF; simp_all, hw.drop⟩)
  · skip
    refine X_skip ?_
    refine at_then ?_
    refine X_seq ?_
    refine X_region ?_
    refine XO_v0 (ev_assign rfl) rfl rfl rfl ?_
    refine XO_nil ?_
    refine at_then ?_
    refine X_ret ?_
    exact at_ret1 rfl rfl (fun w hw => ⟨by unfold kindF; simp_all, hw.drop⟩)
end Go.Proofs.YtkpmnnflikkhmaaDoor
end
section
namespace Go.Kn
open Go
section
variable {C : Cx} {E : Env} {I : HMap} {loc : Loc} {S : GS} {dst : Option Tmp} {ty : TypeId} {pos : String} {af : Array Edge} {gd : Option (Nat × Bool)} {x y z : Operand}
end
end Go.Kn
namespace Go.Kn
open Go
section
variable {g : World} {I I' H : HMap} {loc loc' L R : Loc} {w w' : World}
end
end Go.Kn
namespace Go.Kn
open Go
section
variable {C : Cx} {Q : Exit → Act → World → Prop} {E : Env} {I : HMap} {loc : Loc} {ops : Array Oper} {rest : List Oper} {d : Nat} {ty : TypeId} {pos : String} {af : Array Edge} {gd : Option (Nat × Bool)} {x y : Operand}
end
end Go.Kn
namespace Go.Kn
open Go
section
variable {C : Cx} {Q : Exit → Act → World → Prop} {E : Env} {I : HMap} {loc : Loc} {ops : Array Oper} {rest : List Oper} {d : Nat} {ty : TypeId} {pos : String} {af : Array Edge} {gd : Option (Nat × Bool)} {x y : Operand}
end
section
variable {C : Cx} {S : GS} {E : Env} {I : HMap} {loc : Loc} {dst : Option Tmp} {ty : TypeId} {pos : String} {af : Array Edge} {gd : Option (Nat × Bool)} {x y : Operand}
theorem ev_indexOwn {t e size b n c : Nat} {k : IntKind} {i : Int} (hx : evalS S E x = some (.slice (some ⟨b, 0, none⟩) n c)) (hy : evalS S E y = some (.int k i)) (hT : SlT C.P t e size) (hb : conj S = true → 0 ≤ i ∧ i < (n : Int)) :
    EvalOp C S E I loc ⟨dst, .indexAddr t x y, ty, pos, af, gd⟩ (.pointer (some ⟨b, i.toNat * size, none⟩)) := by
  have h := ev_indexAddr (I := I) (loc := loc) (dst := dst) (ty := ty) (pos := pos) (af := af) (gd := gd) hx hy hT hb
  rwa [Nat.zero_add] at h
end
end Go.Kn
end
section
namespace Go.Proofs.YtkpmnnflikkhmaaDoor
open Go Go.Kn Go.Proofs
/-- A literal that is one's own. -/
theorem _root_.Go.Kn.OwnS.lit {e size b n : Nat} {vs : List Value} (h : vs.length = n * size) (hn : n ≤ maxLen) : OwnS e size (.slice (some ⟨b, 0, none⟩) n n) n vs [(b, .cells vs.toArray e (0, 0))] :=
  ⟨h, .inr ⟨b, n, _, rfl, rfl, Nat.le_refl _, hn, by simp [h], by rw [← h]; simp⟩⟩
theorem valn {e size n : Nat} {v : Value} {xs : List Value} {L : Go.Kn.Loc} (h : OwnS e size v n xs L) : ∃ a c, v = .slice a n c := by
  rcases h.2 with ⟨h1, h2, _⟩ | ⟨b, c, cur, h1, _⟩
  · subst h2; exact ⟨_, _, h1⟩
  · exact ⟨_, _, h1⟩
def stS (out : List Int) (n : Int) : List Int := if n == 8589934592 || out.any (fun x => x == n) then out else out ++ [n]
def statesF (rows : List (List Int)) (l : Nat) : List Int := (rows.map fun r => r.getD l 0).foldl stS [0]
theorem st_step {rows : List (List Int)} {l k : Nat} {r : List Int} (h : rows[k]? = some r) : statesF (rows.take (k + 1)) l = stS (statesF (rows.take k) l) (r.getD l 0) := by
  unfold statesF
  rw [List.take_add_one, h, List.map_append, List.foldl_append]; rfl
theorem st_yes {out : List Int} {n : Int} (h : (n == 8589934592 || out.any (fun x => x == n)) = true) : stS out n = out := by unfold stS; rw [if_pos h]
theorem st_no {out : List Int} {n : Int} (h : (n == 8589934592 || out.any (fun x => x == n)) = false) : stS out n = out ++ [n] := by unfold stS; rw [if_neg (by rw [h]; decide)]
theorem st_len {rows : List (List Int)} {l : Nat} : (statesF rows l).length ≤ rows.length + 1 := by
  have : ∀ (ns out : List Int), (ns.foldl stS out).length ≤ ns.length + out.length := by
    intro ns
    induction ns with
    | nil => intro out; simp
    | cons n ns ih =>
      intro out
      refine Nat.le_trans (ih _) ?_
      have : (stS out n).length ≤ out.length + 1 := by
        unfold stS
        split
        · omega
        · simp
      simp only [List.length_cons]; omega
  have := this (rows.map fun r => r.getD l 0) [0]
  simpa [statesF] using this
end Go.Proofs.YtkpmnnflikkhmaaDoor
end
section
namespace Go.Proofs.YtkpmnnflikkhmaaDoor
open Go Go.Kn Go.Proofs
theorem elt_22 : ElT Tryd.prog 22 3 1 8 := .of (by kernel_rfl)
end Go.Proofs.YtkpmnnflikkhmaaDoor
end
section
namespace Go.Proofs.YtkpmnnflikkhmaaDoor
open Go Go.Kn Go.Proofs
theorem take_snoc {α : Type} {xs : List α} {k : Nat} {x : α} (h : xs[k]? = some x) : xs.take (k + 1) = xs.take k ++ [x] := by
  rw [List.take_add_one, h]; rfl
section
variable {α : Type} {lt : α → α → Bool}
def bothG (lt : α → α → Bool) : List α → List α → List α
  | a, [] => a
  | a, y :: b => a.takeWhile (fun x => lt x y) ++ y :: bothG lt (a.dropWhile fun x => lt x y) b
theorem both_less {x y : α} {a b : List α} (h : lt x y = true) : bothG lt (x :: a) (y :: b) = x :: bothG lt a (y :: b) := by
  simp only [bothG]
  rw [List.takeWhile_cons, if_pos h, List.dropWhile_cons, if_pos h]; rfl
theorem both_stop {y : α} {a b : List α} (h : a = [] ∨ ∃ x a', a = x :: a' ∧ lt x y = false) : bothG lt a (y :: b) = y :: bothG lt a b := by
  rcases h with rfl | ⟨x, a', rfl, h⟩
  · simp [bothG]
  · simp only [bothG]
    rw [List.takeWhile_cons, if_neg (by simp [h]), List.dropWhile_cons, if_neg (by simp [h])]; rfl
theorem both_step {xs ys out : List α} {i k : Nat} {x y : α} (hx : xs[i]? = some x) (hy : ys[k]? = some y) (h : lt x y = true) (hb : out ++ bothG lt (xs.drop i) (ys.drop k) = bothG lt xs ys) : (out ++ [x]) ++ bothG lt (xs.drop (i + 1)) (ys.drop k) = bothG lt xs ys := by
  rw [drop_cons hx, drop_cons hy, both_less h] at hb
  rw [drop_cons hy, List.append_assoc]; exact hb
theorem both_put {xs ys out : List α} {i k n : Nat} {y d : α} (hn : xs.length = n) (hi : i ≤ n) (hy : ys[k]? = some y) (h : (decide ((i : Int) < (n : Int)) && lt (xs.getD i d) y) = false) (hb : out ++ bothG lt (xs.drop i) (ys.drop k) = bothG lt xs ys) : (out ++ [y]) ++ bothG lt (xs.drop i) (ys.drop (k + 1)) = bothG lt xs ys := by
  rw [drop_cons hy, both_stop] at hb
  · rw [List.append_assoc]; exact hb
  · by_cases e : i = n
    · left; exact List.drop_eq_nil_of_le (by omega)
    · right
      have hx : xs[i]? = some (xs[i]'(by omega)) := List.getElem?_eq_getElem _
      refine ⟨_, _, drop_cons hx, ?_⟩
      rw [getD_of hx, decide_eq_true (show (i : Int) < (n : Int) by omega), Bool.true_and] at h
      exact h
theorem both_lt {xs : List α} {i n : Nat} {x y d : α} (hx : xs[i]? = some x) (h : (decide ((i : Int) < (n : Int)) && lt (xs.getD i d) y) = true) : lt x y = true := by
  rw [Bool.and_eq_true, getD_of hx] at h
  exact h.2
theorem both_len (a b : List α) : (bothG lt a b).length = a.length + b.length := by
  induction b generalizing a with
  | nil => simp [bothG]
  | cons y b ih =>
    simp only [bothG]
    have := congrArg List.length (List.takeWhile_append_dropWhile (p := fun x => lt x y) (l := a))
    rw [List.length_append] at this
    rw [List.length_append, List.length_cons, ih, List.length_cons]
    omega
end
def ltI (a b : Int) : Bool := decide (a < b)
def joinF (xs ys : List Int) (s : Int) : List Int := bothG ltI xs ys ++ [s]
end Go.Proofs.YtkpmnnflikkhmaaDoor
end
section
namespace Go.Proofs.YtkpmnnflikkhmaaDoor
open Go Go.Kn Go.Proofs
theorem w_joined {I : HMap} {av : Option Addr} {n c : Nat} {xs : List Int} (hS : Sl I 1 encI av n c xs) (hn : n ≤ 100000) {bv : Option Addr} {n2 c2 : Nat} {ys : List Int} (hT : Sl I 1 encI bv n2 c2 ys) (hn2 : n2 ≤ 100000) (s : Int) : RetM Tryd.prog 53 [.slice av n c, .slice bv n2 c2, .int .i64 s] I [] (SlRes 1 encI (joinF xs ys s)) := by
  intro g H w hw
  refine enter Tryd.func53 rfl Tryd.ntmps53 rfl hw ?_
  have hIc := HLe.refl I
  refine X_seq ?_
  refine X_region ?_
  refine XO_v0 (ev_assign rfl) rfl rfl rfl ?_
  refine XO_nil ?_
  refine at_then ?_
  refine X_seq ?_
  refine X_region ?_
  refine XO_v0 (ev_assign rfl) rfl rfl rfl ?_
  refine XO_nil ?_
  refine at_then ?_
  refine X_seq ?_
  refine X_region ?_
  refine XO_v0 (ev_assign rfl) rfl rfl rfl ?_
  refine XO_nil ?_
  refine at_then ?_
  refine X_seq ?_
  refine X_seq ?_
  refine X_region ?_
  refine XO_v0 (ev_assign rfl) rfl rfl rfl ?_
  refine XO_nil ?_
  refine at_then ?_
  refine X_block ?_
  refine X_loopT [(0, _), (1, _), (2, _)] (.cons rfl (.cons rfl (.cons rfl .nil))) (fun T L0 mz E I' loc' => ∃ (k : Nat) (v : Value) (i : Nat) (out : List Int) (L : Go.Kn.Loc), mz = n2 - k ∧ E = (7, v) :: (8, .int .i64 i) :: (9, .int .i64 k) :: T ∧ I = I' ∧ L = loc' ∧ k ≤ n2 ∧ OwnS 3 1 v (i + k) (out.flatMap encI) L ∧ out ++ bothG ltI (xs.drop i) (ys.drop k) = bothG ltI xs ys ∧ i ≤ n) _ _ _ _ ⟨0, _, 0, [], [], rfl, rfl, rfl, rfl, Nat.zero_le _, OwnS.nil, by simp, Nat.zero_le _⟩ (.cons rfl (.cons rfl (.cons rfl (.cons rfl (.cons rfl (.cons rfl .nil)))))) (HLe.refl _) rfl ?_
  rintro mz E I' loc' ⟨k, v, i, out, L, rfl, rfl, rfl, rfl, hk, hO, hbo, hi⟩
  refine X_seq ?_
  refine X_seq ?_
  refine X_region ?_
  refine XO_v0 (ev_move rfl) rfl rfl rfl ?_
  refine XO_v0 (ev_move rfl) rfl rfl rfl ?_
  refine XO_v0 (ev_lenS rfl slt_22) rfl rfl rfl ?_
  refine XO_v0 (ev_cmp rfl rfl rfl) rfl rfl rfl ?_
  refine XO_nil ?_
  refine at_then ?_
  refine X_cond rfl (fun hc13 => ?_) (fun hc13 => ?_)
  · skip
    have hlt_k : k < n2 := by have h := hc13; simp at h; omega
    obtain ⟨y, hy⟩ := hT.at hlt_k
    refine X_skip ?_
    refine at_then ?_
    refine X_seq ?_
    refine X_block ?_
    refine X_seq ?_
    refine X_block ?_
    refine X_loopT [(0, _), (1, _), (2, _), (9, _)] (.cons rfl (.cons rfl (.cons rfl (.cons rfl .nil)))) (fun T L0 mz E I' loc' => ∃ (i2 : Nat) (v2 : Value) (out2 : List Int) (L2 : Go.Kn.Loc), mz = n - i2 ∧ E = (7, v2) :: (8, .int .i64 i2) :: T ∧ I = I' ∧ L2 = loc' ∧ i2 ≤ n ∧ OwnS 3 1 v2 (i2 + k) (out2.flatMap encI) L2 ∧ out2 ++ bothG ltI (xs.drop i2) (ys.drop k) = bothG ltI xs ys) _ _ _ _ ⟨i, v, out, L, rfl, rfl, rfl, rfl, hi, hO, hbo⟩ (.cons rfl (.cons rfl (.cons rfl (.cons rfl (.cons rfl (.cons rfl .nil)))))) (HLe.refl _) rfl ?_
    rintro mz E I' loc' ⟨i2, v2, out2, L2, rfl, rfl, rfl, rfl, hi2, hO2, hbo2⟩
    refine X_seq ?_
    refine X_seq ?_
    refine X_draw mixed (by kernel_rfl) ?_
    refine XQ_v0 (ev_move rfl) rfl rfl rfl ?_
    refine XQ_v0 (ev_move rfl) rfl rfl rfl ?_
    refine XQ_v0 (ev_lenS rfl slt_22) rfl rfl rfl ?_
    refine XQ_v0 (ev_cmp rfl rfl rfl) rfl rfl rfl ?_
    refine XQ_v0 (ev_move rfl) rfl rfl rfl ?_
    refine XQ_pushT 4 rfl rfl rfl ?_
    refine XQ_v1 (ev_move rfl) (.some rfl rfl rfl rfl gbt) rfl rfl rfl ?_
    refine XQ_v1 (ev_move rfl) (.some rfl rfl rfl rfl gbt) rfl rfl rfl ?_
    refine XQ_v1 (ev_indexSl rfl rfl slt_22 hS (fun hg => by first | omega | (simp [conj] at hg; omega))) (.some rfl rfl rfl rfl gbt) rfl rfl rfl ?_
    refine XQ_v1 (ev_load rfl sct_3 (fun hg => by first | exact Sl.get0 hS hx rfl | exact Sl.get0 (k := i2) hS (some_getD (d := 0) hS.len (by simp [conj] at hg; omega)) rfl | exact Sl.get0 hT hy rfl | exact Cell.h0 rfl | exact Cell.h1 rfl | exact Cell.h2 rfl | exact Cell.h3 rfl | exact Cell.h4 rfl | exact Cell.h5 rfl | (repeat (first | exact Cell.here rfl | apply Cell.there | apply Cell.app)))) (.some rfl rfl rfl rfl gbt) rfl rfl rfl ?_
    refine XQ_v1 (ev_move rfl) (.some rfl rfl rfl rfl gbt) rfl rfl rfl ?_
    refine XQ_v1 (ev_move rfl) (.some rfl rfl rfl rfl gbt) rfl rfl rfl ?_
    refine XQ_v1 (ev_indexSl rfl rfl slt_22 hT (fun hg => by first | omega | (simp [conj] at hg; omega))) (.some rfl rfl rfl rfl gbt) rfl rfl rfl ?_
    refine XQ_v1 (ev_load rfl sct_3 (fun hg => by first | exact Sl.get0 hS hx rfl | exact Sl.get0 (k := i2) hS (some_getD (d := 0) hS.len (by simp [conj] at hg; omega)) rfl | exact Sl.get0 hT hy rfl | exact Cell.h0 rfl | exact Cell.h1 rfl | exact Cell.h2 rfl | exact Cell.h3 rfl | exact Cell.h4 rfl | exact Cell.h5 rfl | (repeat (first | exact Cell.here rfl | apply Cell.there | apply Cell.app)))) (.some rfl rfl rfl rfl gbt) rfl rfl rfl ?_
    refine XQ_v1 (ev_cmp rfl rfl rfl) (.some rfl rfl rfl rfl gbt) rfl rfl rfl ?_
    refine XQ_and0 rfl rfl rfl rfl rfl ?_
    refine XQ_nil ?_
    refine at_then ?_
    refine X_cond rfl (fun hc30 => ?_) (fun hc30 => ?_)
    · skip
      have hlt_i : i2 < n := by have h := ((Bool.and_eq_true _ _).mp hc30).1; simp at h; omega
      obtain ⟨x, hx⟩ := hS.at hlt_i
      have hlt := both_lt (lt := ltI) hx hc30
      refine X_skip ?_
      refine at_then ?_
      refine X_block ?_
      refine X_seq ?_
      refine X_region ?_
      refine XO_v0 (ev_move rfl) rfl rfl rfl ?_
      refine XO_v0 (ev_move rfl) rfl rfl rfl ?_
      refine XO_v0 (ev_move rfl) rfl rfl rfl ?_
      refine XO_v0 (ev_indexSl rfl rfl slt_22 hS (fun hg => by first | omega | (simp [conj] at hg; omega))) rfl rfl rfl ?_
      refine XO_v0 (ev_load rfl sct_3 (fun hg => by first | exact Sl.get0 hS hx rfl | exact Sl.get0 (k := i2) hS (some_getD (d := 0) hS.len (by simp [conj] at hg; omega)) rfl | exact Sl.get0 hT hy rfl | exact Cell.h0 rfl | exact Cell.h1 rfl | exact Cell.h2 rfl | exact Cell.h3 rfl | exact Cell.h4 rfl | exact Cell.h5 rfl | (repeat (first | exact Cell.here rfl | apply Cell.there | apply Cell.app)))) rfl rfl rfl ?_
      refine XO_buildSlice (ps := [(0, _)]) (m := [encI x]) elt_22 rfl (.cons rfl (.nil)) rfl (by simp [encI_len]) (by decide) (by decide) rfl rfl (fun b_36 => ?_)
      refine XO_append (v := _) (ys := [x].flatMap encI) (L := L2) rfl rfl elt_22 hO2 (by repeat (first | exact .cons .here .nil | exact split_all | exact split_app | apply split_cons | apply split_skip)) ⟨rfl, fun _ => rfl, Cells.here⟩ (one_I [x]) (by omega) rfl rfl ?_
      intro v9 L9 hO9 _; rw [← List.flatMap_append] at hO9
      refine XO_v0 (ev_assign rfl) rfl rfl rfl ?_
      refine XO_nil ?_
      refine at_then ?_
      refine X_region ?_
      refine XO_v0 (ev_move rfl) rfl rfl rfl ?_
      refine XO_v0 (ev_arB rfl rfl rfl (fun _ => by omega)) rfl rfl rfl ?_
      refine XO_v0 (ev_assign rfl) rfl rfl rfl ?_
      refine XO_nil ?_
      refine at_block_n ?_
      exact at_met2 _ _ ⟨n - (i2 + 1), by omega, i2 + 1, _, _, _, rfl, rfl, rfl, rfl, by omega, by rw [show i2 + 1 + k = i2 + k + 1 by omega]; exact hO9, both_step hx hy hlt hbo2⟩ (.cons rfl (.cons rfl (.cons rfl (.cons rfl (.cons rfl (.cons rfl .nil)))))) (by repeat (first | exact .refl | exact subL_left | refine subL_app ?_ | refine .drop ?_ | refine subL_add ?_))
    · skip
      have hbo3 := both_put (lt := ltI) hS.len hi2 hy hc30 hbo2
      refine X_exit ?_
      refine at_then_e ?_
      refine at_then_e ?_
      refine at_block_hit ?_
      refine at_then ?_
      refine X_region ?_
      refine XO_v0 (ev_move rfl) rfl rfl rfl ?_
      refine XO_v0 (ev_move rfl) rfl rfl rfl ?_
      refine XO_v0 (ev_move rfl) rfl rfl rfl ?_
      refine XO_v0 (ev_indexSl rfl rfl slt_22 hT (fun hg => by first | omega | (simp [conj] at hg; omega))) rfl rfl rfl ?_
      refine XO_v0 (ev_load rfl sct_3 (fun hg => by first | exact Sl.get0 hS hx rfl | exact Sl.get0 (k := i2) hS (some_getD (d := 0) hS.len (by simp [conj] at hg; omega)) rfl | exact Sl.get0 hT hy rfl | exact Cell.h0 rfl | exact Cell.h1 rfl | exact Cell.h2 rfl | exact Cell.h3 rfl | exact Cell.h4 rfl | exact Cell.h5 rfl | (repeat (first | exact Cell.here rfl | apply Cell.there | apply Cell.app)))) rfl rfl rfl ?_
      refine XO_buildSlice (ps := [(0, _)]) (m := [encI y]) elt_22 rfl (.cons rfl (.nil)) rfl (by simp [encI_len]) (by decide) (by decide) rfl rfl (fun b_45 => ?_)
      refine XO_append (v := _) (ys := [y].flatMap encI) (L := L2) rfl rfl elt_22 hO2 (by repeat (first | exact .cons .here .nil | exact split_all | exact split_app | apply split_cons | apply split_skip)) ⟨rfl, fun _ => rfl, Cells.here⟩ (one_I [y]) (by omega) rfl rfl ?_
      intro v9 L9 hO9 _; rw [← List.flatMap_append] at hO9
      refine XO_v0 (ev_assign rfl) rfl rfl rfl ?_
      refine XO_nil ?_
      refine at_block_n ?_
      refine at_then ?_
      refine X_region ?_
      refine XO_v0 (ev_move rfl) rfl rfl rfl ?_
      refine XO_v0 (ev_arB rfl rfl rfl (fun _ => by omega)) rfl rfl rfl ?_
      refine XO_v0 (ev_assign rfl) rfl rfl rfl ?_
      refine XO_nil ?_
      exact at_met2 _ _ ⟨n2 - (k + 1), by omega, k + 1, _, i2, _, _, rfl, rfl, rfl, rfl, by omega, by rw [show i2 + (k + 1) = i2 + k + 1 by omega]; exact hO9, hbo3, hi2⟩ (.cons rfl (.cons rfl (.cons rfl (.cons rfl (.cons rfl (.cons rfl .nil)))))) (by repeat (first | exact .refl | exact subL_left | refine subL_app ?_ | refine .drop ?_ | refine subL_add ?_))
  · skip
    have hge_k : n2 ≤ k := by have h := hc13; simp at h; omega
    rw [show ys.drop k = [] from List.drop_eq_nil_of_le (by rw [hT.len]; exact hge_k)] at hbo
    have hbo : out ++ xs.drop i = bothG ltI xs ys := hbo
    have hle2 : k ≤ n2 := hk
    refine X_exit ?_
    refine at_then_e ?_
    refine at_then_e ?_
    refine at_block_hit ?_
    refine at_then ?_
    refine X_seq ?_
    refine X_region ?_
    refine XO_v0 (ev_move rfl) rfl rfl rfl ?_
    refine XO_v0 (ev_move rfl) rfl rfl rfl ?_
    refine XO_v0 (ev_move rfl) rfl rfl rfl ?_
    refine XO_v0 (ev_sliceLo rfl rfl slt_22 (fun hg => by first | omega | (simp [conj] at hg; omega))) rfl rfl rfl ?_
    refine XO_append (v := _) (ys := (xs.drop i).flatMap encI) (L := L) rfl rfl elt_22 hO (by repeat (first | exact .cons .here .nil | exact split_all | exact split_app | apply split_cons | apply split_skip)) ((hS.drop hi).src encI_len) (one_I _) (by omega) rfl rfl ?_
    intro v9 L9 hO9 _; rw [← List.flatMap_append] at hO9
    refine XO_v0 (ev_assign rfl) rfl rfl rfl ?_
    refine XO_nil ?_
    refine at_then ?_
    refine X_seq ?_
    refine X_region ?_
    refine XO_v0 (ev_move rfl) rfl rfl rfl ?_
    refine XO_v0 (ev_move rfl) rfl rfl rfl ?_
    refine XO_buildSlice (ps := [(0, _)]) (m := [encI s]) elt_22 rfl (.cons rfl (.nil)) rfl (by simp [encI_len]) (by decide) (by decide) rfl rfl (fun b_54 => ?_)
    refine XO_append (v := _) (ys := [s].flatMap encI) (L := L9) rfl rfl elt_22 hO9 (by repeat (first | exact .cons .here .nil | exact split_all | exact split_app | apply split_cons | apply split_skip)) ⟨rfl, fun _ => rfl, Cells.here⟩ (one_I [s]) (by omega) rfl rfl ?_
    intro v8 L8 hO8 _; rw [← List.flatMap_append] at hO8
    refine XO_v0 (ev_assign rfl) rfl rfl rfl ?_
    refine XO_nil ?_
    refine at_then ?_
    refine X_ret ?_
    exact at_ret1 rfl rfl (fun w hw => by obtain ⟨I9, h91, h92, h93⟩ := OwnS.res hO8 encI_len (by decide) (hw.subL (by repeat (first | exact .refl | exact subL_left))); rw [hbo] at h93; exact ⟨_, I9, [], rfl, hIc.trans h91, h92, h93⟩)
end Go.Proofs.YtkpmnnflikkhmaaDoor
end
section
namespace Go.Proofs.YtkpmnnflikkhmaaDoor
open Go Go.Kn Go.Proofs
/-- The witness of a single set. -/
def witF (s : Int) : Nat := s.toNat.log2
theorem wit_in : ((List.range 7).all fun n => (List.range 64).all fun s => !singF (s : Int) || !decide ((s : Int) ≤ allS (n : Int)) || decide (witF (s : Int) < n)) = true := by kernel_rfl
theorem wit_n {s : Int} {n : Nat} (hn : n ≤ 6) (hs : 1 ≤ s ∧ s ≤ 63) (h1 : singF s = true) (h : s ≤ allS (n : Int)) : witF s < n := by
  have h0 := List.all_eq_true.1 wit_in n (List.mem_range.2 (by omega))
  have h0 := List.all_eq_true.1 h0 s.toNat (List.mem_range.2 (by omega))
  rw [show ((s.toNat : Nat) : Int) = s by omega, h1] at h0
  simpa [h] using h0
theorem split_spec {cl : List Int} {c : Int} {a : Nat} (h : splitR cl c a ≠ 0) (ha : 1 ≤ a) : 1 ≤ splitR cl c a ∧ splitR cl c a < c ∧ splitP cl c (splitR cl c a) = true := by
  unfold splitR at h ⊢
  cases hf : (List.range' a (c.toNat - a)).find? (fun k : Nat => splitP cl c (k : Int)) with
  | none => rw [hf] at h; exact absurd rfl h
  | some k =>
    have h1 := List.find?_some hf
    have h2 := List.mem_range'_1.1 (List.mem_of_find?_eq_some hf)
    exact ⟨by show 1 ≤ (k : Int); omega, by show (k : Int) < c; omega, h1⟩
theorem wrapS {s : Int} (h : 1 ≤ s ∧ s ≤ 63) : IntKind.i64.wrap (s - 1) = s - 1 := wrap_in (by omega)
/-- A set that has costs. -/
def OkS (n : Nat) (cl : List Int) (s : Int) : Prop := 1 ≤ s ∧ s ≤ allS (n : Int) ∧ hasS cl s = true
theorem chkN_split {m : Int} {cl : List Int} (h : chkN m cl = 0) : ∀ c ∈ cl, splitF cl c ≠ 0 := by
  intro c hc hs
  unfold chkN at h
  repeat (split at h; · cases h)
  rename_i h5
  exact h5 (List.any_eq_true.2 ⟨c, hc, by simp [hs]⟩)
theorem ok_parts {n : Nat} {cl : List Int} {s : Int} (hc : chkN n cl = 0) (h : OkS n cl s) (h1 : (andI s (IntKind.i64.wrap (s - 1)) == 0) = false) : OkS n cl (splitF cl s) ∧ OkS n cl (s - splitF cl s) ∧ 1 ≤ splitF cl s ∧ splitF cl s < s := by
  obtain ⟨h2, h3, h4⟩ := h
  have hin : s ∈ cl := by
    unfold hasS singF at h4
    rw [h1, Bool.and_false, Bool.or_false, List.any_eq_true] at h4
    obtain ⟨c, hc2, e⟩ := h4
    have : c = s := by simpa using e
    exact this ▸ hc2
  obtain ⟨a1, a2, a3⟩ := split_spec (chkN_split hc s hin) (Nat.le_refl 1)
  unfold splitP at a3
  simp only [Bool.and_eq_true] at a3
  exact ⟨⟨a1, by show splitR cl s 1 ≤ _; omega, a3.1.2⟩, ⟨by show 1 ≤ s - splitR cl s 1; omega, by show s - splitR cl s 1 ≤ _; omega, a3.2⟩, a1, a2⟩
def leafG (u x : Int) : Int := if decide (u ≠ 8589934592) && decide (u ≠ x) then 1048576 else 0
def costsF (rows : List (List Int)) (cl : List Int) (l : Nat) : Nat → Int → List Int
  | 0, _ => []
  | f + 1, s =>
    if (andI s (IntKind.i64.wrap (s - 1)) == 0) = true then (statesF rows l).map (leafG ((rows.getD (witF s) []).getD l 0))
    else (statesF rows l).map fun x => belowF (statesF rows l) (costsF rows cl l f (splitF cl s)) x + belowF (statesF rows l) (costsF rows cl l f (s - splitF cl s)) x
theorem costs_leaf {rows : List (List Int)} {cl : List Int} {l f : Nat} {s : Int} (h : (andI s (IntKind.i64.wrap (s - 1)) == 0) = true) : costsF rows cl l (f + 1) s = (statesF rows l).map (leafG ((rows.getD (witF s) []).getD l 0)) := by
  simp only [costsF]; rw [if_pos h]
def twoG (st L R : List Int) (x : Int) : Int := belowF st L x + belowF st R x
theorem costs_two {rows : List (List Int)} {cl : List Int} {l f : Nat} {s : Int} (h : (andI s (IntKind.i64.wrap (s - 1)) == 0) = false) : costsF rows cl l (f + 1) s = (statesF rows l).map (twoG (statesF rows l) (costsF rows cl l f (splitF cl s)) (costsF rows cl l f (s - splitF cl s))) := by
  simp only [costsF]; rw [if_neg (by rw [h]; decide)]; rfl
theorem below_in {st cs : List Int} {s : Int} (h : ∀ y ∈ cs, 0 ≤ y ∧ y ≤ 1099511627776) : 0 ≤ belowF st cs s ∧ belowF st cs s ≤ 1048576 := by
  unfold belowF
  have : ∀ k, 0 ≤ bestK st cs s k ∧ bestK st cs s k ≤ 1048576 := by
    intro k
    induction k with
    | zero => unfold bestK; simp
    | succ k ih =>
      have e : bestK st cs s (k + 1) = minI (bestK st cs s k) (stepF s (st.getD k 0) + cs.getD k 0) := by
        unfold bestK
        rw [List.range_succ, List.foldl_append, List.foldl_cons, List.foldl_nil]
      rw [e]
      have h1 := (step_in s (st.getD k 0)).1
      have h2 : 0 ≤ cs.getD k 0 := by
        cases hk : cs[k]? with
        | none => simp [List.getD, hk]
        | some y => rw [getD_of hk]; exact (h y (List.mem_of_getElem? hk)).1
      unfold minI
      split <;> omega
  exact this _
theorem costs_in {rows : List (List Int)} {cl : List Int} {l : Nat} : ∀ (f : Nat) (s : Int), ∀ y ∈ costsF rows cl l f s, 0 ≤ y ∧ y ≤ 1099511627776
  | 0, _ => fun y hy => by cases hy
  | f + 1, s => fun y hy => by
    cases h : (andI s (IntKind.i64.wrap (s - 1)) == 0) with
    | true =>
      rw [costs_leaf h, List.mem_map] at hy
      obtain ⟨x, _, rfl⟩ := hy
      unfold leafG
      split <;> omega
    | false =>
      rw [costs_two h, List.mem_map] at hy
      obtain ⟨x, _, rfl⟩ := hy
      have h1 := below_in (st := statesF rows l) (s := x) (costs_in (rows := rows) (cl := cl) (l := l) f (splitF cl s))
      have h2 := below_in (st := statesF rows l) (s := x) (costs_in (rows := rows) (cl := cl) (l := l) f (s - splitF cl s))
      unfold twoG
      omega
theorem costs_len {rows : List (List Int)} {cl : List Int} {l f : Nat} {s : Int} : (costsF rows cl l (f + 1) s).length = (statesF rows l).length := by
  cases h : (andI s (IntKind.i64.wrap (s - 1)) == 0) with
  | true => rw [costs_leaf h, List.length_map]
  | false => rw [costs_two h, List.length_map]
/-! ### A row that is filled -/
end Go.Proofs.YtkpmnnflikkhmaaDoor
end
section
namespace Go.Proofs.YtkpmnnflikkhmaaDoor
open Go Go.Kn Go.Proofs
theorem szt_3 : SzT Tryd.prog 3 1 := .of (by kernel_rfl)
end Go.Proofs.YtkpmnnflikkhmaaDoor
end
section
namespace Go.Proofs.YtkpmnnflikkhmaaDoor
open Go Go.Kn Go.Proofs
theorem rows_ok {rows : List (List Int)} (h : rowsN rows = 0) : 1 ≤ rows.length ∧ rows.length ≤ 6 ∧ (rows.getD 0 []).length ≤ 64 ∧ ∀ r ∈ rows, r.length = (rows.getD 0 []).length ∧ ∀ v ∈ r, 0 ≤ v ∧ v ≤ 8589934592 := by
  unfold rowsN at h
  split at h
  · cases h
  · rename_i h1
    split at h
    · cases h
    · rename_i h2
      split at h
      · cases h
      · rename_i h3
        simp only [Bool.or_eq_true, decide_eq_true_eq, not_or, Bool.not_eq_true, List.any_eq_false] at h1 h3
        obtain ⟨r0, h0⟩ : ∃ r, rows[0]? = some r := ⟨_, List.getElem?_eq_getElem (by omega)⟩
        have hg := getD_of (d := ([] : List Int)) h0
        have h64 := h1.2 r0 (List.mem_of_getElem? h0)
        simp at h64
        refine ⟨by omega, by omega, by rw [hg]; omega, fun r hr => ?_⟩
        have := h3 r hr
        unfold rowP at this
        rw [Bool.or_eq_false_iff] at this
        obtain ⟨ha, hb⟩ := this
        refine ⟨Int.ofNat.inj (Decidable.not_not.1 (of_decide_eq_false ha)), fun v hv => ?_⟩
        have := List.any_eq_false.1 hb v hv
        unfold stateP at this
        simp at this
        omega
theorem ok_all {n : Nat} {cl : List Int} (h : chkN n cl = 0) : OkS n cl (allS n) := by
  obtain ⟨h1, h6, hlen, hin⟩ := chkN_ok h
  refine ⟨(all_in (n := (n : Int)) ⟨h1, h6⟩).1, Int.le_refl _, ?_⟩
  by_cases e : n = 1
  · subst e
    unfold hasS
    rw [show singF (allS ((1 : Nat) : Int)) = true from by decide, Bool.or_true]
  · unfold chkN at h
    repeat (split at h; · cases h)
    rename_i h4 _
    have hg : (n : Int) > 1 := by omega
    simp only [Bool.and_eq_true, decide_eq_true_eq, not_and, Decidable.not_not] at h4
    have h4 := h4 hg
    unfold hasS
    rw [Bool.or_eq_true]; left
    rw [List.any_eq_true]
    have hk : ((n : Int) - 2).toNat < cl.length := by omega
    refine ⟨cl[((n : Int) - 2).toNat], List.getElem_mem hk, ?_⟩
    rw [beq_iff_eq, ← h4]
    exact (getD_of (List.getElem?_eq_getElem hk)).symm
/-- The least of some costs. -/
def minK (cs : List Int) (k : Nat) : Int := (cs.take k).foldl minI (cs.getD 0 0)
def leastF (cs : List Int) : Int := minK cs cs.length
theorem minK_step {cs : List Int} {k : Nat} {x : Int} (hx : cs[k]? = some x) : minK cs (k + 1) = minI (minK cs k) x := by
  unfold minK
  rw [List.take_add_one, hx, List.foldl_append]; rfl
theorem minK_in {cs : List Int} (h : ∀ y ∈ cs, 0 ≤ y ∧ y ≤ 1099511627776) (h0 : 0 < cs.length) : ∀ k, 0 ≤ minK cs k ∧ minK cs k ≤ 1099511627776 := by
  have hz : 0 ≤ cs.getD 0 0 ∧ cs.getD 0 0 ≤ 1099511627776 := by
    have := List.getElem?_eq_getElem h0
    rw [getD_of this]; exact h _ (List.getElem_mem h0)
  intro k
  induction k with
  | zero => simpa [minK] using hz
  | succ k ih =>
    cases hk : cs[k]? with
    | none =>
      have : minK cs (k + 1) = minK cs k := by
        unfold minK
        rw [List.take_add_one, hk]; simp
      rw [this]; exact ih
    | some x =>
      rw [minK_step hk]
      have := h x (List.mem_of_getElem? hk)
      unfold minI
      split <;> omega
def priceK (rows : List (List Int)) (cl : List Int) (k : Nat) : Int := (List.range k).foldl (fun s l => s + leastF (costsF rows cl l 64 (allS rows.length))) 0
def priceF (rows : List (List Int)) (cl : List Int) : Int := priceK rows cl (rows.getD 0 []).length
theorem price_step {rows : List (List Int)} {cl : List Int} {k : Nat} : priceK rows cl (k + 1) = priceK rows cl k + leastF (costsF rows cl k 64 (allS rows.length)) := by
  unfold priceK
  rw [List.range_succ, List.foldl_append]; rfl
theorem st_pos {rows : List (List Int)} {l : Nat} : 0 < (statesF rows l).length := by
  have : ∀ (ns out : List Int), out.length ≤ (ns.foldl stS out).length := by
    intro ns
    induction ns with
    | nil => intro out; simp
    | cons n ns ih =>
      intro out
      refine Nat.le_trans ?_ (ih _)
      unfold stS
      split
      · omega
      · simp
  exact this (rows.map fun r => r.getD l 0) [0]
end Go.Proofs.YtkpmnnflikkhmaaDoor
end
section
namespace Go.Proofs.YtkpmnnflikkhmaaDoor
open Go Go.Kn Go.Proofs
def costE (rows : List (List Int)) (cl : List Int) : Int := if rowsN rows ≠ 0 then rowsN rows else chkN rows.length cl
def costA (rows : List (List Int)) (cl : List Int) : Int := if costE rows cl ≠ 0 then 0 else priceF rows cl
theorem cost_1 {rows : List (List Int)} {cl : List Int} (h : rowsN rows ≠ 0) : costE rows cl = rowsN rows ∧ costA rows cl = 0 := by
  have e : costE rows cl = rowsN rows := by unfold costE; rw [if_pos h]
  exact ⟨e, by unfold costA; rw [if_pos (by rw [e]; exact h)]⟩
theorem cost_2 {rows : List (List Int)} {cl : List Int} (h : rowsN rows = 0) (h2 : chkN rows.length cl ≠ 0) : costE rows cl = chkN rows.length cl ∧ costA rows cl = 0 := by
  have e : costE rows cl = chkN rows.length cl := by unfold costE; rw [if_neg (by omega)]
  exact ⟨e, by unfold costA; rw [if_pos (by rw [e]; exact h2)]⟩
theorem cost_3 {rows : List (List Int)} {cl : List Int} (h : rowsN rows = 0) (h2 : chkN rows.length cl = 0) : costE rows cl = 0 ∧ costA rows cl = priceF rows cl := by
  have e : costE rows cl = 0 := by unfold costE; rw [if_neg (by omega), h2]
  exact ⟨e, by unfold costA; rw [if_neg (by omega)]⟩
/-- Heads and what they stand for. -/
def RelH (I : HMap) (hs : List Hd) (vss : List (List Int)) : Prop := hs.length = vss.length ∧ ∀ (k : Nat) (h : Hd) (v : List Int), hs[k]? = some h → vss[k]? = some v → Sl I 1 encI h.a h.n h.c v
theorem RelH.nil {I : HMap} : RelH I [] [] := ⟨rfl, fun k h v a => by simp at a⟩
theorem RelH.mono {I I' : HMap} {hs : List Hd} {vss : List (List Int)} (h : RelH I hs vss) (hI : HLe I I') : RelH I' hs vss := ⟨h.1, fun k x v a b => (h.2 k x v a b).mono hI⟩
theorem RelH.snoc {I : HMap} {hs : List Hd} {vss : List (List Int)} (h : RelH I hs vss) {hd : Hd} {v : List Int} (hV : Sl I 1 encI hd.a hd.n hd.c v) : RelH I (hs ++ [hd]) (vss ++ [v]) := by
  refine ⟨by simp [h.1], fun k x y a b => ?_⟩
  rw [List.getElem?_append] at a b
  rw [h.1] at a
  split at a
  · rename_i hk
    rw [if_pos hk] at b
    exact h.2 k x y a b
  · rename_i hk
    rw [if_neg hk] at b
    have e : k - vss.length = 0 := by
      cases hd2 : k - vss.length with
      | zero => rfl
      | succ m => rw [hd2] at a; simp at a
    rw [e] at a b
    simp at a b
    subst a; subst b; exact hV
theorem RelH.app {I : HMap} {hs gs : List Hd} {vss uss : List (List Int)} (h : RelH I hs vss) (g : RelH I gs uss) : RelH I (hs ++ gs) (vss ++ uss) := by
  refine ⟨by simp [h.1, g.1], fun k x y a b => ?_⟩
  rw [List.getElem?_append] at a b
  rw [h.1] at a
  split at a
  · rename_i hk
    rw [if_pos hk] at b
    exact h.2 k x y a b
  · rename_i hk
    rw [if_neg hk] at b
    exact g.2 _ x y a b
theorem RelH.drop {I : HMap} {hs : List Hd} {vss : List (List Int)} (h : RelH I hs vss) (i : Nat) : RelH I (hs.drop i) (vss.drop i) :=
  ⟨by simp [h.1], fun k x y a b => by rw [List.getElem?_drop] at a b; exact h.2 _ x y a b⟩
theorem RelH.take {I : HMap} {hs : List Hd} {vss : List (List Int)} (h : RelH I hs vss) (i : Nat) : RelH I (hs.take i) (vss.take i) :=
  ⟨by simp [h.1], fun k x y a b => by
    rw [List.getElem?_take] at a b
    split at a
    · rename_i hk
      rw [if_pos hk] at b
      exact h.2 _ x y a b
    · cases a⟩
theorem SlH.rel {I : HMap} {av : Option Addr} {n c : Nat} {hs : List Hd} {vss : List (List Int)} (h : SlH I av n c hs vss) : RelH I hs vss := h.2
def SlNRes (vss : List (List Int)) : Value → HMap → Go.Kn.Loc → Prop := fun v I' L => L = [] ∧ ∃ av c, v = .slice av vss.length c ∧ SlN I' av vss.length c vss
def sortF : Nat → List (List Int) → List (List Int)
  | 0, l => l
  | f + 1, l => if l.length < 2 then l else bothG lexF (sortF f (l.take (l.length / 2))) (sortF f (l.drop (l.length / 2)))
theorem sort_len : ∀ (f : Nat) (l : List (List Int)), (sortF f l).length = l.length
  | 0, _ => rfl
  | f + 1, l => by
    simp only [sortF]
    split
    · rfl
    · rw [both_len, sort_len f, sort_len f, List.length_take, List.length_drop]; omega
end Go.Proofs.YtkpmnnflikkhmaaDoor
end
section
namespace Go.Proofs.YtkpmnnflikkhmaaDoor
open Go Go.Kn Go.Proofs
theorem mem_both {α : Type} {lt : α → α → Bool} {x : α} : ∀ {a b : List α}, x ∈ bothG lt a b ↔ x ∈ a ∨ x ∈ b
  | a, [] => by simp [bothG]
  | a, y :: b => by
    simp only [bothG]
    rw [List.mem_append, List.mem_cons, mem_both (a := a.dropWhile _) (b := b), List.mem_cons]
    have : x ∈ a ↔ x ∈ a.takeWhile (fun x => lt x y) ∨ x ∈ a.dropWhile fun x => lt x y := by
      rw [← List.mem_append, List.takeWhile_append_dropWhile]
    rw [this]
    constructor
    · rintro (h | h | h | h)
      · exact .inl (.inl h)
      · exact .inr (.inl h)
      · exact .inl (.inr h)
      · exact .inr (.inr h)
    · rintro ((h | h) | h | h)
      · exact .inl h
      · exact .inr (.inr (.inl h))
      · exact .inr (.inl h)
      · exact .inr (.inr (.inr h))
theorem mem_sort {r : List Int} : ∀ (f : Nat) (l : List (List Int)), r ∈ sortF f l → r ∈ l
  | 0, _ => fun h => h
  | f + 1, l => fun h => by
    simp only [sortF] at h
    split at h
    · exact h
    · rcases mem_both.1 h with h | h
      · exact List.mem_of_mem_take (mem_sort f _ h)
      · exact List.mem_of_mem_drop (mem_sort f _ h)
theorem half_in {n : Nat} (h : n ≤ 100000) : IntKind.i64.wrap ((n : Int).tdiv 2) = ((n / 2 : Nat) : Int) := by
  rw [show (n : Int).tdiv 2 = ((n / 2 : Nat) : Int) from rfl]
  exact wrap_in (by omega)
def zeroH : Hd := ⟨none, 0, 0⟩
theorem SlH.getD {I : HMap} {av : Option Addr} {n c : Nat} {hs : List Hd} {vss : List (List Int)} (h : SlH I av n c hs vss) {i : Nat} (hi : i < n) : hs[i]? = some (hs.getD i zeroH) ∧ vss[i]? = some (vss.getD i []) ∧ Sl I 1 encI (hs.getD i zeroH).a (hs.getD i zeroH).n (hs.getD i zeroH).c (vss.getD i []) := by
  have h1 := some_getD (d := zeroH) h.1.len hi
  have h2 := some_getD (d := ([] : List Int)) h.len hi
  exact ⟨h1, h2, h.2.2 i _ _ h1 h2⟩
theorem SlN.takeN {I : HMap} {av : Option Addr} {n c : Nat} {vss : List (List Int)} (h : SlN I av n c vss) {k : Nat} (hk : k ≤ n) : SlN I av k c (vss.take k) := by
  obtain ⟨hs, h⟩ := h
  exact ⟨hs.take k, h.1.take hk, h.rel.take k⟩
theorem SlN.dropN {I : HMap} {av : Option Addr} {n c : Nat} {vss : List (List Int)} (h : SlN I av n c vss) {k : Nat} (hk : k ≤ n) : SlN I (sub2 av c k 1) (n - k) (c - k) (vss.drop k) := by
  obtain ⟨hs, h⟩ := h
  exact ⟨hs.drop k, h.1.drop hk, h.rel.drop k⟩
theorem sort_1 {f : Nat} {l : List (List Int)} (h : l.length < 2) : sortF (f + 1) l = l := by simp only [sortF]; rw [if_pos h]
theorem sort_2 {f : Nat} {l : List (List Int)} (h : ¬ l.length < 2) : sortF (f + 1) l = bothG lexF (sortF f (l.take (l.length / 2))) (sortF f (l.drop (l.length / 2))) := by simp only [sortF]; rw [if_neg h]
end Go.Proofs.YtkpmnnflikkhmaaDoor
end
section
namespace Go.Proofs.YtkpmnnflikkhmaaDoor
open Go Go.Kn Go.Proofs
theorem elt_28 : ElT Tryd.prog 28 22 1 24 := .of (by kernel_rfl)
theorem fun_34 : Fun Tryd.prog 34 := .of Tryd.func34 (by kernel_rfl) (by kernel_rfl)
theorem fun_52 : Fun Tryd.prog 52 := .of Tryd.func52 (by kernel_rfl) (by kernel_rfl)
theorem w_sorted_step {I : HMap} {av : Option Addr} {n c : Nat} {l : List (List Int)} (hV : SlN I av n c l) (hn : n ≤ 100000) (hr : ∀ r ∈ l, r.length ≤ 100000) (f : Nat) (ih : ∀ (I' : HMap), HLe I I' → ∀ (a' : Option Addr) (n' c' : Nat) (l' : List (List Int)), SlN I' a' n' c' l' → n' < n → (∀ r ∈ l', r.length ≤ 100000) → RetM Tryd.prog 34 [.slice a' n' c'] I' [] (SlNRes (sortF f l'))) : RetM Tryd.prog 34 [.slice av n c] I [] (SlNRes (sortF (f + 1) l)) := by
  intro g H w hw
  refine enter Tryd.func34 rfl Tryd.ntmps34 rfl hw ?_
  have hIc := HLe.refl I
  have hlV := hV.len
  have hcapV : n ≤ c := by obtain ⟨hs, h⟩ := hV; exact h.1.cap
  have hq : IntKind.i64.wrap (((n : Nat) : Int).tdiv 2) = ((n / 2 : Nat) : Int) := half_in hn
  refine X_seq ?_
  refine X_region ?_
  refine XO_v0 (ev_assign rfl) rfl rfl rfl ?_
  refine XO_nil ?_
  refine at_then ?_
  refine X_seq ?_
  refine X_seq ?_
  refine X_region ?_
  refine XO_v0 (ev_move rfl) rfl rfl rfl ?_
  refine XO_v0 (ev_lenS rfl slt_28) rfl rfl rfl ?_
  refine XO_v0 (ev_cmp rfl rfl rfl) rfl rfl rfl ?_
  refine XO_nil ?_
  refine at_then ?_
  refine X_cond rfl (fun hc10 => ?_) (fun hc10 => ?_)
  · skip
    have hlt2 : l.length < 2 := by rw [hlV]; simp at hc10; omega
    refine X_seq ?_
    refine X_region ?_
    refine XO_v0 (ev_move rfl) rfl rfl rfl ?_
    refine XO_v0 (ev_assign rfl) rfl rfl rfl ?_
    refine XO_nil ?_
    refine at_then ?_
    refine X_ret ?_
    refine at_then_r ?_
    first
    | exact at_ret1 rfl rfl (fun w hw => ⟨_, I, [], rfl, hIc, hw.drop, by rw [sort_1 hlt2, ← hlV]; exact ⟨rfl, av, c, by rw [hlV], by rw [hlV]; exact hV⟩⟩)
    | exact at_ret1 rfl rfl (fun w hw => by obtain ⟨I9, h91, h92, h93⟩ := OwnS.res hO9 encH_len (by decide) (hw.subL (by repeat (first | exact .refl | exact subL_left))); obtain ⟨_, a9, c9, e9, h94⟩ := h93; have hrel := (hre.app (hA.rel.drop i)).mono h91; rw [hbo] at hrel; have hlen := hrel.1; rw [hlen] at e9 h94; have h2 := sort_2 (f := f) hge2; rw [hlV] at h2; rw [← h2] at e9 h94 hrel; exact ⟨_, I9, [], rfl, hIc.trans h91, h92, rfl, a9, c9, e9, _, h94, hrel⟩)
  · skip
    have hge2 : ¬ l.length < 2 := by rw [hlV]; simp at hc10; omega
    refine X_skip ?_
    refine at_then ?_
    refine X_seq ?_
    refine X_region ?_
    refine XO_v0 (ev_move rfl) rfl rfl rfl ?_
    refine XO_v0 (ev_move rfl) rfl rfl rfl ?_
    refine XO_v0 (ev_lenS rfl slt_28) rfl rfl rfl ?_
    refine XO_v0 (ev_quo rfl rfl (fun hg => by first | decide | omega)) rfl rfl rfl ?_
    rw [hq]
    refine XO_v0 (ev_sliceHi rfl rfl slt_28 (fun hg => by omega)) rfl rfl rfl ?_
    refine XO_callM (cap := []) (vs := [_]) rfl rfl fun_34 .nil (ih _ hIc av (n / 2) c (l.take (n / 2)) (hV.takeN (by omega)) (by omega) (fun r h => hr r (List.mem_of_mem_take h))) rfl rfl ?_
    rintro vv1 I1 L1 hI1 ⟨rfl, aA, cA, rfl, hA⟩
    have hV := hV.mono hI1
    have hIc := hIc.trans hI1
    refine XO_v0 (ev_assign rfl) rfl rfl rfl ?_
    refine XO_nil ?_
    refine at_then ?_
    refine X_seq ?_
    refine X_region ?_
    refine XO_v0 (ev_move rfl) rfl rfl rfl ?_
    refine XO_v0 (ev_move rfl) rfl rfl rfl ?_
    refine XO_v0 (ev_lenS rfl slt_28) rfl rfl rfl ?_
    refine XO_v0 (ev_quo rfl rfl (fun hg => by first | decide | omega)) rfl rfl rfl ?_
    rw [hq]
    refine XO_v0 (ev_sliceLo rfl rfl slt_28 (fun hg => by omega)) rfl rfl rfl ?_
    refine XO_callM (cap := []) (vs := [_]) rfl rfl fun_34 .nil (ih _ hIc _ (n - n / 2) (c - n / 2) (l.drop (n / 2)) (hV.dropN (by omega)) (by omega) (fun r h => hr r (List.mem_of_mem_drop h))) rfl rfl ?_
    rintro vv2 I2 L2 hI2 ⟨rfl, aB, cB, rfl, hB⟩
    have hV := hV.mono hI2
    have hA := hA.mono hI2
    have hIc := hIc.trans hI2
    refine XO_v0 (ev_assign rfl) rfl rfl rfl ?_
    refine XO_nil ?_
    refine at_then ?_
    refine X_seq ?_
    obtain ⟨gs, hA⟩ := hA
    obtain ⟨ks, hB⟩ := hB
    have hrX : ∀ r ∈ (sortF f (l.take (n / 2))), r.length ≤ 100000 := fun r h => hr r (List.mem_of_mem_take (mem_sort f _ h))
    have hlX : (sortF f (l.take (n / 2))).length = n / 2 := by rw [sort_len, List.length_take]; omega
    have hlY : (sortF f (l.drop (n / 2))).length = n - n / 2 := by rw [sort_len, List.length_drop, hlV]
    refine X_region ?_
    refine XO_v0 (ev_assign rfl) rfl rfl rfl ?_
    refine XO_nil ?_
    refine at_then ?_
    refine X_seq ?_
    refine X_region ?_
    refine XO_v0 (ev_assign rfl) rfl rfl rfl ?_
    refine XO_nil ?_
    refine at_then ?_
    refine X_seq ?_
    refine X_seq ?_
    refine X_region ?_
    refine XO_v0 (ev_assign rfl) rfl rfl rfl ?_
    refine XO_nil ?_
    refine at_then ?_
    refine X_block ?_
    refine X_loopT [(3, _), (4, _)] (.cons rfl (.cons rfl .nil)) (fun T L0 mz E I' loc' => ∃ (k : Nat) (v : Value) (i : Nat) (os : List Hd) (zs : List (List Int)) (L : Go.Kn.Loc), mz = (sortF f (l.drop (n / 2))).length - k ∧ E = (5, v) :: (6, .int .i64 i) :: (7, .int .i64 k) :: T ∧ HLe I2 I' ∧ L = loc' ∧ k ≤ (sortF f (l.drop (n / 2))).length ∧ OwnS 22 1 v (i + k) (os.flatMap encH) L ∧ RelH I' os zs ∧ zs ++ bothG lexF ((sortF f (l.take (n / 2))).drop i) ((sortF f (l.drop (n / 2))).drop k) = bothG lexF (sortF f (l.take (n / 2))) (sortF f (l.drop (n / 2))) ∧ i ≤ (sortF f (l.take (n / 2))).length) _ _ _ _ ⟨0, _, 0, [], [], [], rfl, rfl, HLe.refl _, rfl, Nat.zero_le _, OwnS.nil, RelH.nil, by simp, Nat.zero_le _⟩ (.cons rfl (.cons rfl (.cons rfl (.cons rfl (.cons rfl .nil))))) (HLe.refl _) rfl ?_
    rintro mz E J3 loc' ⟨k, v, i, os, zs, L, rfl, rfl, hJ, rfl, hk, hO, hre, hbo, hi⟩
    have hV := hV.mono hJ
    have hA := hA.mono hJ
    have hB := hB.mono hJ
    have hIc := hIc.trans hJ
    have hB0 := hJ
    refine X_seq ?_
    refine X_seq ?_
    refine X_region ?_
    refine XO_v0 (ev_move rfl) rfl rfl rfl ?_
    refine XO_v0 (ev_move rfl) rfl rfl rfl ?_
    refine XO_v0 (ev_lenS rfl slt_28) rfl rfl rfl ?_
    refine XO_v0 (ev_cmp rfl rfl rfl) rfl rfl rfl ?_
    refine XO_nil ?_
    refine at_then ?_
    refine X_cond rfl (fun hc27 => ?_) (fun hc27 => ?_)
    · skip
      have hlt_k : k < (sortF f (l.drop (n / 2))).length := by have h := hc27; simp at h; omega
      obtain ⟨y, yv, hky, hyy, hQy⟩ := hB.at hlt_k
      refine X_skip ?_
      refine at_then ?_
      refine X_seq ?_
      refine X_block ?_
      refine X_seq ?_
      refine X_block ?_
      refine X_loopT [(3, _), (4, _), (7, _)] (.cons rfl (.cons rfl (.cons rfl .nil))) (fun T L0 mz E I' loc' => ∃ (i2 : Nat) (v2 : Value) (os2 : List Hd) (zs2 : List (List Int)) (L2 : Go.Kn.Loc), mz = (sortF f (l.take (n / 2))).length - i2 ∧ E = (5, v2) :: (6, .int .i64 i2) :: T ∧ HLe J3 I' ∧ L2 = loc' ∧ i2 ≤ (sortF f (l.take (n / 2))).length ∧ OwnS 22 1 v2 (i2 + k) (os2.flatMap encH) L2 ∧ RelH I' os2 zs2 ∧ zs2 ++ bothG lexF ((sortF f (l.take (n / 2))).drop i2) ((sortF f (l.drop (n / 2))).drop k) = bothG lexF (sortF f (l.take (n / 2))) (sortF f (l.drop (n / 2)))) _ _ _ _ ⟨i, v, os, zs, L, rfl, rfl, HLe.refl _, rfl, hi, hO, hre, hbo⟩ (.cons rfl (.cons rfl (.cons rfl (.cons rfl (.cons rfl .nil))))) (HLe.refl _) rfl ?_
      rintro mz E J4 loc' ⟨i2, v2, os2, zs2, L2, rfl, rfl, hJ, rfl, hi2, hO2, hre2, hbo2⟩
      have hV := hV.mono hJ
      have hA := hA.mono hJ
      have hB := hB.mono hJ
      have hre := hre.mono hJ
      have hQy := hQy.mono hJ
      have hIc := hIc.trans hJ
      have hB0 := hB0.trans hJ
      have hB2 := hJ
      refine X_seq ?_
      refine X_seq ?_
      refine X_draw mixed (by kernel_rfl) ?_
      refine XQ_v0 (ev_move rfl) rfl rfl rfl ?_
      refine XQ_v0 (ev_move rfl) rfl rfl rfl ?_
      refine XQ_v0 (ev_lenS rfl slt_28) rfl rfl rfl ?_
      refine XQ_v0 (ev_cmp rfl rfl rfl) rfl rfl rfl ?_
      refine XQ_v0 (ev_move rfl) rfl rfl rfl ?_
      refine XQ_pushT 4 rfl rfl rfl ?_
      refine XQ_v1 (ev_move rfl) (.some rfl rfl rfl rfl gbt) rfl rfl rfl ?_
      refine XQ_v1 (ev_move rfl) (.some rfl rfl rfl rfl gbt) rfl rfl rfl ?_
      refine XQ_v1 (ev_indexSl rfl rfl slt_28 hA.1 (fun hg => by first | omega | (simp [conj] at hg; omega))) (.some rfl rfl rfl rfl gbt) rfl rfl rfl ?_
      refine XQ_v1 (ev_load rfl sct_22 (fun hg => by first | exact Sl.get0 hA.1 hgx rfl | exact Sl.get0 (k := i2) hA.1 (hA.getD (i := i2) (by simp [conj] at hg; omega)).1 rfl | exact Sl.get0 hB.1 hky rfl | exact Cell.h0 rfl | exact Cell.h1 rfl | exact Cell.h2 rfl | exact Cell.h3 rfl | exact Cell.h4 rfl | exact Cell.h5 rfl | (repeat (first | exact Cell.here rfl | apply Cell.there | apply Cell.app)))) (.some rfl rfl rfl rfl gbt) rfl rfl rfl ?_
      refine XQ_v1 (ev_move rfl) (.some rfl rfl rfl rfl gbt) rfl rfl rfl ?_
      refine XQ_v1 (ev_move rfl) (.some rfl rfl rfl rfl gbt) rfl rfl rfl ?_
      refine XQ_v1 (ev_indexSl rfl rfl slt_28 hB.1 (fun hg => by first | omega | (simp [conj] at hg; omega))) (.some rfl rfl rfl rfl gbt) rfl rfl rfl ?_
      refine XQ_v1 (ev_load rfl sct_22 (fun hg => by first | exact Sl.get0 hA.1 hgx rfl | exact Sl.get0 (k := i2) hA.1 (hA.getD (i := i2) (by simp [conj] at hg; omega)).1 rfl | exact Sl.get0 hB.1 hky rfl | exact Cell.h0 rfl | exact Cell.h1 rfl | exact Cell.h2 rfl | exact Cell.h3 rfl | exact Cell.h4 rfl | exact Cell.h5 rfl | (repeat (first | exact Cell.here rfl | apply Cell.there | apply Cell.app)))) (.some rfl rfl rfl rfl gbt) rfl rfl rfl ?_
      refine XQ_callV1 (cap := []) (vs := [_, _]) rfl rfl fun_52 (fun hg => w_less (hA.getD (i := i2) (by simp [conj] at hg; omega)).2.2 hQy (by have := (hA.getD (i := i2) (by simp [conj] at hg; omega)); rw [← this.2.2.len]; exact hrX _ (List.mem_of_getElem? this.2.1))) (.some rfl rfl rfl rfl gbt) rfl rfl ?_
      refine XQ_and0 rfl rfl rfl rfl rfl ?_
      refine XQ_nil ?_
      refine at_then ?_
      refine X_cond rfl (fun hc44 => ?_) (fun hc44 => ?_)
      · skip
        have hlt_i : i2 < (sortF f (l.take (n / 2))).length := by have h := ((Bool.and_eq_true _ _).mp hc44).1; simp at h; omega
        obtain ⟨x, xv, hgx, hx, hQx⟩ := hA.at hlt_i
        have hlt := both_lt (lt := lexF) hx hc44
        refine X_skip ?_
        refine at_then ?_
        refine X_block ?_
        refine X_seq ?_
        refine X_region ?_
        refine XO_v0 (ev_move rfl) rfl rfl rfl ?_
        refine XO_v0 (ev_move rfl) rfl rfl rfl ?_
        refine XO_v0 (ev_move rfl) rfl rfl rfl ?_
        refine XO_v0 (ev_indexSl rfl rfl slt_28 hA.1 (fun hg => by first | omega | (simp [conj] at hg; omega))) rfl rfl rfl ?_
        refine XO_v0 (ev_load rfl sct_22 (fun hg => by first | exact Sl.get0 hA.1 hgx rfl | exact Sl.get0 (k := i2) hA.1 (hA.getD (i := i2) (by simp [conj] at hg; omega)).1 rfl | exact Sl.get0 hB.1 hky rfl | exact Cell.h0 rfl | exact Cell.h1 rfl | exact Cell.h2 rfl | exact Cell.h3 rfl | exact Cell.h4 rfl | exact Cell.h5 rfl | (repeat (first | exact Cell.here rfl | apply Cell.there | apply Cell.app)))) rfl rfl rfl ?_
        refine XO_buildSlice (ps := [(0, _)]) (m := [encH x]) elt_28 rfl (.cons rfl (.nil)) rfl (by simp [encH_len]) (by decide) (by decide) rfl rfl (fun b_50 => ?_)
        refine XO_append (v := _) (ys := [x].flatMap encH) (L := L2) rfl rfl elt_28 hO2 (by repeat (first | exact .cons .here .nil | exact split_all | exact split_app | apply split_cons | apply split_skip)) ⟨rfl, fun _ => rfl, Cells.here⟩ (one_H [x]) (by omega) rfl rfl ?_
        intro v9 L9 hO9 _; rw [← List.flatMap_append] at hO9
        refine XO_v0 (ev_assign rfl) rfl rfl rfl ?_
        refine XO_nil ?_
        refine at_then ?_
        refine X_region ?_
        refine XO_v0 (ev_move rfl) rfl rfl rfl ?_
        refine XO_v0 (ev_arB rfl rfl rfl (fun hg => by first | omega | (simp [conj] at hg; omega))) rfl rfl rfl ?_
        refine XO_v0 (ev_assign rfl) rfl rfl rfl ?_
        refine XO_nil ?_
        refine at_block_n ?_
        exact at_met2 _ _ ⟨(sortF f (l.take (n / 2))).length - (i2 + 1), by omega, i2 + 1, _, _, _, _, rfl, rfl, hB2, rfl, by omega, by rw [show i2 + 1 + k = i2 + k + 1 by omega]; exact hO9, hre2.snoc hQx, both_step hx hyy hlt hbo2⟩ (.cons rfl (.cons rfl (.cons rfl (.cons rfl (.cons rfl .nil))))) (by repeat (first | exact .refl | exact subL_left | refine subL_app ?_ | refine .drop ?_ | refine subL_add ?_))
      · skip
        have hbo3 := both_put (lt := lexF) rfl hi2 hyy hc44 hbo2
        refine X_exit ?_
        refine at_then_e ?_
        refine at_then_e ?_
        refine at_block_hit ?_
        refine at_then ?_
        refine X_region ?_
        refine XO_v0 (ev_move rfl) rfl rfl rfl ?_
        refine XO_v0 (ev_move rfl) rfl rfl rfl ?_
        refine XO_v0 (ev_move rfl) rfl rfl rfl ?_
        refine XO_v0 (ev_indexSl rfl rfl slt_28 hB.1 (fun hg => by first | omega | (simp [conj] at hg; omega))) rfl rfl rfl ?_
        refine XO_v0 (ev_load rfl sct_22 (fun hg => by first | exact Sl.get0 hA.1 hgx rfl | exact Sl.get0 (k := i2) hA.1 (hA.getD (i := i2) (by simp [conj] at hg; omega)).1 rfl | exact Sl.get0 hB.1 hky rfl | exact Cell.h0 rfl | exact Cell.h1 rfl | exact Cell.h2 rfl | exact Cell.h3 rfl | exact Cell.h4 rfl | exact Cell.h5 rfl | (repeat (first | exact Cell.here rfl | apply Cell.there | apply Cell.app)))) rfl rfl rfl ?_
        refine XO_buildSlice (ps := [(0, _)]) (m := [encH y]) elt_28 rfl (.cons rfl (.nil)) rfl (by simp [encH_len]) (by decide) (by decide) rfl rfl (fun b_59 => ?_)
        refine XO_append (v := _) (ys := [y].flatMap encH) (L := L2) rfl rfl elt_28 hO2 (by repeat (first | exact .cons .here .nil | exact split_all | exact split_app | apply split_cons | apply split_skip)) ⟨rfl, fun _ => rfl, Cells.here⟩ (one_H [y]) (by omega) rfl rfl ?_
        intro v9 L9 hO9 _; rw [← List.flatMap_append] at hO9
        refine XO_v0 (ev_assign rfl) rfl rfl rfl ?_
        refine XO_nil ?_
        refine at_block_n ?_
        refine at_then ?_
        refine X_region ?_
        refine XO_v0 (ev_move rfl) rfl rfl rfl ?_
        refine XO_v0 (ev_arB rfl rfl rfl (fun hg => by first | omega | (simp [conj] at hg; omega))) rfl rfl rfl ?_
        refine XO_v0 (ev_assign rfl) rfl rfl rfl ?_
        refine XO_nil ?_
        exact at_met2 _ _ ⟨(sortF f (l.drop (n / 2))).length - (k + 1), by omega, k + 1, _, i2, _, _, _, rfl, rfl, hB0, rfl, by omega, by rw [show i2 + (k + 1) = i2 + k + 1 by omega]; exact hO9, hre2.snoc hQy, hbo3, hi2⟩ (.cons rfl (.cons rfl (.cons rfl (.cons rfl (.cons rfl .nil))))) (by repeat (first | exact .refl | exact subL_left | refine subL_app ?_ | refine .drop ?_ | refine subL_add ?_))
    · skip
      have hge_k : (sortF f (l.drop (n / 2))).length ≤ k := by have h := hc27; simp at h; omega
      rw [show (sortF f (l.drop (n / 2))).drop k = [] from List.drop_eq_nil_of_le hge_k] at hbo
      have hbo : zs ++ (sortF f (l.take (n / 2))).drop i = bothG lexF (sortF f (l.take (n / 2))) (sortF f (l.drop (n / 2))) := hbo
      refine X_exit ?_
      refine at_then_e ?_
      refine at_then_e ?_
      refine at_block_hit ?_
      refine at_then ?_
      refine X_seq ?_
      refine X_region ?_
      refine XO_v0 (ev_move rfl) rfl rfl rfl ?_
      refine XO_v0 (ev_move rfl) rfl rfl rfl ?_
      refine XO_v0 (ev_move rfl) rfl rfl rfl ?_
      refine XO_v0 (ev_sliceLo rfl rfl slt_28 (fun hg => by first | omega | (simp [conj] at hg; omega))) rfl rfl rfl ?_
      refine XO_append (v := _) (ys := (gs.drop i).flatMap encH) (L := L) rfl rfl elt_28 hO (by repeat (first | exact .cons .here .nil | exact split_all | exact split_app | apply split_cons | apply split_skip)) ((hA.1.drop hi).src encH_len) (one_H _) (by omega) rfl rfl ?_
      intro v9 L9 hO9 _; rw [← List.flatMap_append] at hO9
      refine XO_v0 (ev_assign rfl) rfl rfl rfl ?_
      refine XO_nil ?_
      refine at_then ?_
      refine X_ret ?_
      first
      | exact at_ret1 rfl rfl (fun w hw => ⟨_, J3, [], rfl, hIc, hw.drop, by rw [sort_1 hlt2, ← hlV]; exact ⟨rfl, av, c, by rw [hlV], by rw [hlV]; exact hV⟩⟩)
      | exact at_ret1 rfl rfl (fun w hw => by obtain ⟨I9, h91, h92, h93⟩ := OwnS.res hO9 encH_len (by decide) (hw.subL (by repeat (first | exact .refl | exact subL_left))); obtain ⟨_, a9, c9, e9, h94⟩ := h93; have hrel := (hre.app (hA.rel.drop i)).mono h91; rw [hbo] at hrel; have hlen := hrel.1; rw [hlen] at e9 h94; have h2 := sort_2 (f := f) hge2; rw [hlV] at h2; rw [← h2] at e9 h94 hrel; exact ⟨_, I9, [], rfl, hIc.trans h91, h92, rfl, a9, c9, e9, _, h94, hrel⟩)
end Go.Proofs.YtkpmnnflikkhmaaDoor
end
section
namespace Go.Proofs.YtkpmnnflikkhmaaDoor
open Go Go.Kn Go.Proofs
def candB (s a : Int) : Bool := (andI a s == a) && lowS a s
def pairsF (X Y : List (List Int)) (s : Int) : List (List Int) := X.flatMap fun x => Y.map fun y => joinF x y s
def treesF : Nat → Int → List (List Int)
  | 0, _ => []
  | f + 1, s => if (andI s (IntKind.i64.wrap (s - 1)) == 0) = true then [[]] else (List.range' 1 (s.toNat - 1)).flatMap fun a : Nat => if candB s a then pairsF (treesF f a) (treesF f (s - a)) s else []
/-- The trees whose least part comes before k. -/
def treesK (f : Nat) (s : Int) (k : Nat) : List (List Int) := (List.range' 1 (k - 1)).flatMap fun a : Nat => if candB s a then pairsF (treesF f a) (treesF f (s - a)) s else []
theorem trees_1 {f : Nat} {s : Int} (h : (andI s (IntKind.i64.wrap (s - 1)) == 0) = true) : treesF (f + 1) s = [[]] := by simp only [treesF]; rw [if_pos h]
theorem trees_2 {f : Nat} {s : Int} (h : (andI s (IntKind.i64.wrap (s - 1)) == 0) = false) : treesF (f + 1) s = treesK f s s.toNat := by simp only [treesF]; rw [if_neg (by rw [h]; decide)]; rfl
theorem treesK_next {f k : Nat} {s : Int} (hk : 1 ≤ k) : treesK f s (k + 1) = treesK f s k ++ if candB s k then pairsF (treesF f k) (treesF f (s - k)) s else [] := by
  unfold treesK
  rw [show k + 1 - 1 = (k - 1) + 1 by omega, List.range'_concat, List.flatMap_append, Nat.one_mul, show 1 + (k - 1) = k by omega]
  simp
theorem treesK_no {f k : Nat} {s : Int} (hk : 1 ≤ k) (h : candB s k = false) : treesK f s (k + 1) = treesK f s k := by rw [treesK_next hk, h]; simp
theorem treesK_yes {f k : Nat} {s : Int} (hk : 1 ≤ k) (h : candB s k = true) : treesK f s (k + 1) = treesK f s k ++ pairsF (treesF f k) (treesF f (s - k)) s := by rw [treesK_next hk, h]; rfl
theorem pairs_next {X Y : List (List Int)} {s : Int} {i : Nat} {x : List Int} (hx : X[i]? = some x) : pairsF (X.take (i + 1)) Y s = pairsF (X.take i) Y s ++ Y.map fun y => joinF x y s := by
  unfold pairsF
  rw [take_snoc hx, List.flatMap_append]; simp
theorem map_step {α β : Type} {g : α → β} {xs : List α} {k : Nat} {x : α} (hx : xs[k]? = some x) : (xs.take (k + 1)).map g = (xs.take k).map g ++ [g x] := by rw [take_snoc hx, List.map_append]; rfl
theorem cand_no {s a : Int} (h : ((andI a s != a) || (andI a (IntKind.i64.wrap (0 - a)) != andI s (IntKind.i64.wrap (0 - s)))) = true) : candB s a = false := by
  unfold candB lowS
  rw [Bool.and_eq_false_iff]
  rw [Bool.or_eq_true] at h
  simpa using h
theorem cand_yes {s a : Int} (h : ((andI a s != a) || (andI a (IntKind.i64.wrap (0 - a)) != andI s (IntKind.i64.wrap (0 - s)))) = false) : candB s a = true := by
  unfold candB lowS
  rw [Bool.and_eq_true]
  rw [Bool.or_eq_false_iff] at h
  simpa using h
/-- How many witnesses a set has. -/
def popF (s : Int) : Nat := (List.range 6).foldl (fun c i => c + s.toNat / 2 ^ i % 2) 0
theorem pop_tab : ((List.range 64).all fun s => (List.range s).all fun a => a == 0 || !candB (s : Int) (a : Int) || (decide (popF (a : Int) < popF (s : Int)) && decide (popF ((s - a : Nat) : Int) < popF (s : Int)))) = true := by kernel_rfl
theorem pop_lt {s : Int} {a : Nat} (hs : 1 ≤ s ∧ s ≤ 63) (ha : 1 ≤ a) (hlt : (a : Int) < s) (h : candB s a = true) : popF a < popF s ∧ popF (s - a) < popF s := by
  have h0 := List.all_eq_true.1 pop_tab s.toNat (List.mem_range.2 (by omega))
  have h0 := List.all_eq_true.1 h0 a (List.mem_range.2 (by omega))
  rw [show ((s.toNat : Nat) : Int) = s by omega, h, show ((s.toNat - a : Nat) : Int) = s - a by omega] at h0
  have ha0 : (a == 0) = false := by simp; omega
  rw [ha0] at h0
  simpa using h0
/-- How many trees a set has. -/
def cntF : Nat → Nat → Nat
  | 0, _ => 0
  | f + 1, s => if s &&& (s - 1) == 0 then 1 else ((List.range' 1 (s - 1)).map fun a => if (a &&& s == a) && candB s a then cntF f a * cntF f (s - a) else 0).sum
theorem pairs_len {X Y : List (List Int)} {s : Int} : (pairsF X Y s).length = X.length * Y.length := by
  unfold pairsF
  induction X with
  | nil => simp
  | cons x X ih => rw [List.flatMap_cons, List.length_append, ih, List.length_map, List.length_cons, Nat.succ_mul, Nat.add_comm]
theorem sing_tab : ((List.range 64).all fun s => (s == 0) || ((andI (s : Int) (IntKind.i64.wrap ((s : Int) - 1)) == 0) == (s &&& (s - 1) == 0))) = true := by kernel_rfl
theorem sing_eq {s : Nat} (h : 1 ≤ s ∧ s ≤ 63) : (andI (s : Int) (IntKind.i64.wrap ((s : Int) - 1)) == 0) = (s &&& (s - 1) == 0) := by
  have h0 := List.all_eq_true.1 sing_tab s (List.mem_range.2 (by omega))
  have hs0 : (s == 0) = false := by simp; omega
  rw [hs0, Bool.false_or] at h0
  exact eq_of_beq h0
theorem cand_tab : ((List.range 64).all fun s => (List.range s).all fun a => !candB (s : Int) (a : Int) || (a &&& s == a)) = true := by kernel_rfl
theorem cand_and {s a : Nat} (hs : s ≤ 63) (hlt : a < s) : ((a &&& s == a) && candB (s : Int) (a : Int)) = candB (s : Int) (a : Int) := by
  have h0 := List.all_eq_true.1 cand_tab s (List.mem_range.2 (by omega))
  have h0 := List.all_eq_true.1 h0 a (List.mem_range.2 hlt)
  cases hc : candB (s : Int) (a : Int)
  · rw [Bool.and_false]
  · rw [hc] at h0; simpa using h0
theorem trees_len : ∀ (f s : Nat), 1 ≤ s ∧ s ≤ 63 → (treesF f (s : Int)).length = cntF f s
  | 0, _, _ => rfl
  | f + 1, s, hs => by
    simp only [cntF]
    rw [← sing_eq hs]
    cases h : (andI (s : Int) (IntKind.i64.wrap ((s : Int) - 1)) == 0) with
    | true => rw [trees_1 h]; rfl
    | false =>
      rw [trees_2 h, if_neg (by decide)]
      unfold treesK
      rw [List.length_flatMap, Int.toNat_natCast]
      congr 1
      refine List.map_congr_left fun a ha => ?_
      have ha := List.mem_range'_1.1 ha
      rw [cand_and hs.2 (by omega)]
      cases hc : candB (s : Int) (a : Int) with
      | false => rfl
      | true =>
        rw [if_pos rfl, if_pos rfl, pairs_len, trees_len f a (by omega), show (s : Int) - (a : Int) = ((s - a : Nat) : Int) by omega, trees_len f (s - a) (by omega)]
theorem cnt_tab : ((List.range 9).all fun f => (List.range 64).all fun s => decide (cntF f s ≤ 945)) = true := by kernel_rfl
theorem trees_few {f : Nat} {s : Int} (hf : f ≤ 8) (hs : 1 ≤ s ∧ s ≤ 63) : (treesF f s).length ≤ 945 := by
  have h := trees_len f s.toNat (by omega)
  rw [show ((s.toNat : Nat) : Int) = s by omega] at h
  rw [h]
  have h0 := List.all_eq_true.1 cnt_tab f (List.mem_range.2 (by omega))
  have h0 := List.all_eq_true.1 h0 s.toNat (List.mem_range.2 (by omega))
  simpa using h0
theorem treesK_few {f k : Nat} {s : Int} (hf : f ≤ 7) (hs : 1 ≤ s ∧ s ≤ 63) (hk : k ≤ s.toNat) (h : (andI s (IntKind.i64.wrap (s - 1)) == 0) = false) : (treesK f s k).length ≤ 945 := by
  have h1 := trees_few (f := f + 1) (by omega) hs
  rw [trees_2 h] at h1
  refine Nat.le_trans ?_ h1
  unfold treesK
  have e : List.range' 1 (s.toNat - 1) = List.range' 1 (k - 1) ++ List.range' (1 + (k - 1)) (s.toNat - 1 - (k - 1)) := by
    rw [List.range'_append_1]; congr 1; omega
  rw [e, List.flatMap_append, List.length_append]
  omega
theorem both_len2 (x y : List Int) (s : Int) : (joinF x y s).length = x.length + y.length + 1 := by
  unfold joinF
  rw [List.length_append, both_len]; rfl
theorem tree_row : ∀ (f : Nat) (s : Int), ∀ r ∈ treesF f s, r.length + 1 ≤ 2 ^ f
  | 0, _ => fun r hr => by cases hr
  | f + 1, s => fun r hr => by
    cases h : (andI s (IntKind.i64.wrap (s - 1)) == 0) with
    | true =>
      rw [trees_1 h] at hr
      simp at hr
      subst hr
      exact Nat.one_le_two_pow
    | false =>
      rw [trees_2 h] at hr
      unfold treesK at hr
      rw [List.mem_flatMap] at hr
      obtain ⟨a, _, hr⟩ := hr
      split at hr
      · unfold pairsF at hr
        rw [List.mem_flatMap] at hr
        obtain ⟨x, hx, hr⟩ := hr
        rw [List.mem_map] at hr
        obtain ⟨y, hy, rfl⟩ := hr
        have h1 := tree_row f _ x hx
        have h2 := tree_row f _ y hy
        rw [both_len2, Nat.pow_succ]
        omega
      · cases hr
end Go.Proofs.YtkpmnnflikkhmaaDoor
end
section
namespace Go.Proofs.YtkpmnnflikkhmaaDoor
open Go Go.Kn Go.Proofs
theorem fun_35 : Fun Tryd.prog 35 := .of Tryd.func35 (by kernel_rfl) (by kernel_rfl)
theorem fun_53 : Fun Tryd.prog 53 := .of Tryd.func53 (by kernel_rfl) (by kernel_rfl)
theorem w_sorted : ∀ (f : Nat) {I : HMap} {av : Option Addr} {n c : Nat} {l : List (List Int)}, SlN I av n c l → n ≤ 100000 → (∀ r ∈ l, r.length ≤ 100000) → n < f → RetM Tryd.prog 34 [.slice av n c] I [] (SlNRes (sortF f l))
  | 0, _, _, _, _, _, _, _, _, h => absurd h (by omega)
  | f + 1, _, _, _, _, _, hV, hn, hr, hf => w_sorted_step hV hn hr f (fun _ _ _ n' _ _ hV' hlt hr' => by
      by_cases h : n' < f
      · exact w_sorted f hV' (by omega) hr' h
      · omega)
theorem w_trees_step {I : HMap} (f : Nat) (hf7 : f ≤ 7) (s : Int) (hs : 1 ≤ s ∧ s ≤ 63) (ih : ∀ (I' : HMap), HLe I I' → ∀ (s' : Int), (1 ≤ s' ∧ s' ≤ 63) → popF s' < popF s → RetM Tryd.prog 35 [.int .i64 s'] I' [] (SlNRes (treesF f s'))) : RetM Tryd.prog 35 [.int .i64 s] I [] (SlNRes (treesF (f + 1) s)) := by
  intro g H w hw
  refine enter Tryd.func35 rfl Tryd.ntmps35 rfl hw ?_
  have hIc := HLe.refl I
  refine X_seq ?_
  refine X_region ?_
  refine XO_v0 (ev_assign rfl) rfl rfl rfl ?_
  refine XO_nil ?_
  refine at_then ?_
  refine X_seq ?_
  refine X_seq ?_
  refine X_region ?_
  refine XO_v0 (ev_move rfl) rfl rfl rfl ?_
  refine XO_v0 (ev_move rfl) rfl rfl rfl ?_
  refine XO_v0 (ev_arB rfl rfl rfl (fun hg => by first | omega | (simp [conj] at hg; omega))) rfl rfl rfl ?_
  refine XO_v0 (ev_and rfl rfl) rfl rfl rfl ?_
  refine XO_v0 (ev_cmp rfl rfl rfl) rfl rfl rfl ?_
  refine XO_nil ?_
  refine at_then ?_
  refine X_cond rfl (fun hc13 => ?_) (fun hc13 => ?_)
  · skip
    have hsg : (andI s (IntKind.i64.wrap (s - 1)) == 0) = true := by rw [wrapS hs]; exact hc13
    refine X_seq ?_
    refine X_region ?_
    refine XO_buildSlice (ps := []) (m := []) elt_22 rfl (.nil) rfl (by simp [encH_len]) (by decide) (by decide) rfl rfl (fun b_14 => ?_)
    refine XO_buildSlice (ps := [(0, _)]) (m := [encH ⟨some ⟨b_14, 0, none⟩, 0, 0⟩]) elt_28 rfl (.cons rfl (.nil)) rfl (by simp [encH_len]) (by decide) (by decide) rfl rfl (fun b_15 => ?_)
    refine XO_v0 (ev_assign rfl) rfl rfl rfl ?_
    refine XO_nil ?_
    refine at_then ?_
    refine X_ret ?_
    refine at_then_r ?_
    first
    | exact at_ret1 rfl rfl (fun w hw => by obtain ⟨I9, h91, h92, h93⟩ := OwnS.res hO encH_len (by decide) hw; obtain ⟨_, a9, c9, e9, h94⟩ := h93; have hrel := hre.mono h91; rw [hrel.1] at e9 h94; exact ⟨_, I9, [], rfl, hIc.trans h91, h92, rfl, a9, c9, e9, _, h94, hrel⟩)
    | exact at_ret1 rfl rfl (fun w hw => by obtain ⟨I8, a1, c1, g1, g2, g3, g4⟩ := OwnS.freeze (R := [(b_14, .cells #[] 3 (0, 0))]) (xs := [(⟨some ⟨b_14, 0, none⟩, 0, 0⟩ : Hd)]) (OwnS.lit (e := 22) (size := 1) (b := b_15) (n := 1) rfl (by decide)) encH_len (by decide) hw; cases g3; obtain ⟨I9, a2, c2, k1, k2, k3, k4⟩ := OwnS.freeze (R := []) (xs := ([] : List Int)) (enc := encI) (OwnS.new (e := 3) (size := 1) (b := b_14)) encI_len (by decide) g2; cases k3; rw [trees_1 hsg]; exact ⟨_, I9, [], rfl, hIc.trans (g1.trans k1), k2, rfl, _, _, rfl, [_], g4.mono k1, RelH.nil.snoc (hd := ⟨some ⟨b_14, 0, none⟩, 0, 0⟩) k4⟩)
  · skip
    have hsg : (andI s (IntKind.i64.wrap (s - 1)) == 0) = false := by rw [wrapS hs]; exact hc13
    refine X_skip ?_
    refine at_then ?_
    refine X_seq ?_
    refine X_region ?_
    refine XO_v0 (ev_assign rfl) rfl rfl rfl ?_
    refine XO_nil ?_
    refine at_then ?_
    refine X_seq ?_
    refine X_seq ?_
    refine X_region ?_
    refine XO_v0 (ev_assign rfl) rfl rfl rfl ?_
    refine XO_nil ?_
    refine at_then ?_
    refine X_block ?_
    refine X_loopT [(0, _)] (.cons rfl .nil) (fun T L0 mz E I' loc' => ∃ (k : Nat) (v : Value) (q : Nat) (os : List Hd) (L : Go.Kn.Loc), mz = (max s.toNat 1) - k ∧ E = (3, v) :: (4, .int .i64 k) :: T ∧ HLe I I' ∧ L = loc' ∧ k ≤ (max s.toNat 1) ∧ OwnS 22 1 v q (os.flatMap encH) L ∧ RelH I' os (treesK f s k) ∧ 1 ≤ k) _ _ _ _ ⟨1, _, 0, [], [], rfl, rfl, HLe.refl _, rfl, by omega, OwnS.nil, RelH.nil, Nat.le_refl _⟩ (.cons rfl (.cons rfl (.cons rfl .nil))) (HLe.refl _) rfl ?_
    rintro mz E J1 loc' ⟨k, v, q, os, L, rfl, rfl, hJ, rfl, hk, hO, hre, hk1⟩
    have hIc := hIc.trans hJ
    have hB0 := hJ
    refine X_seq ?_
    refine X_seq ?_
    refine X_region ?_
    refine XO_v0 (ev_move rfl) rfl rfl rfl ?_
    refine XO_v0 (ev_move rfl) rfl rfl rfl ?_
    refine XO_v0 (ev_cmp rfl rfl rfl) rfl rfl rfl ?_
    refine XO_nil ?_
    refine at_then ?_
    refine X_cond rfl (fun hc18 => ?_) (fun hc18 => ?_)
    · skip
      have hlt_k : (k : Int) < s := by simpa using hc18
      refine X_skip ?_
      refine at_then ?_
      refine X_seq ?_
      refine X_block ?_
      refine X_seq ?_
      refine X_seq ?_
      refine X_region ?_
      refine XO_v0 (ev_move rfl) rfl rfl rfl ?_
      refine XO_v0 (ev_move rfl) rfl rfl rfl ?_
      refine XO_v0 (ev_and rfl rfl) rfl rfl rfl ?_
      refine XO_v0 (ev_move rfl) rfl rfl rfl ?_
      refine XO_v0 (ev_cmp rfl rfl rfl) rfl rfl rfl ?_
      refine XO_v0 (ev_move rfl) rfl rfl rfl ?_
      refine XO_pushF 5 rfl rfl rfl ?_
      refine XO_v1 (ev_move rfl) (.some rfl rfl rfl rfl gbf) rfl rfl rfl ?_
      refine XO_v1 (ev_move rfl) (.some rfl rfl rfl rfl gbf) rfl rfl rfl ?_
      refine XO_v1 (ev_neg rfl) (.some rfl rfl rfl rfl gbf) rfl rfl rfl ?_
      refine XO_v1 (ev_and rfl rfl) (.some rfl rfl rfl rfl gbf) rfl rfl rfl ?_
      refine XO_v1 (ev_move rfl) (.some rfl rfl rfl rfl gbf) rfl rfl rfl ?_
      refine XO_v1 (ev_move rfl) (.some rfl rfl rfl rfl gbf) rfl rfl rfl ?_
      refine XO_v1 (ev_neg rfl) (.some rfl rfl rfl rfl gbf) rfl rfl rfl ?_
      refine XO_v1 (ev_and rfl rfl) (.some rfl rfl rfl rfl gbf) rfl rfl rfl ?_
      refine XO_v1 (ev_cmp rfl rfl rfl) (.some rfl rfl rfl rfl gbf) rfl rfl rfl ?_
      refine XO_or0 rfl rfl rfl rfl rfl ?_
      refine XO_nil ?_
      refine at_then ?_
      refine X_cond rfl (fun hc36 => ?_) (fun hc36 => ?_)
      · skip
        have hcd : candB s (k : Int) = false := cand_no hc36
        refine X_exit ?_
        refine at_then_e ?_
        refine at_block_hit ?_
        refine at_then ?_
        refine X_region ?_
        refine XO_v0 (ev_move rfl) rfl rfl rfl ?_
        refine XO_v0 (ev_arB rfl rfl rfl (fun hg => by first | omega | (simp [conj] at hg; omega))) rfl rfl rfl ?_
        refine XO_v0 (ev_assign rfl) rfl rfl rfl ?_
        refine XO_nil ?_
        first
        | exact at_met2 _ _ ⟨(max s.toNat 1) - (k + 1), by omega, k + 1, _, _, _, _, rfl, rfl, hB0, rfl, by omega, hO, by rw [treesK_no hk1 hcd]; exact hre, by omega⟩ (.cons rfl (.cons rfl (.cons rfl .nil))) (by repeat (first | exact .refl | exact subL_left | refine subL_app ?_ | refine .drop ?_ | refine subL_add ?_))
        | exact at_met2 _ _ ⟨(max s.toNat 1) - (k + 1), by omega, k + 1, _, _, _, _, rfl, rfl, hB0, rfl, by omega, hO2, by rw [treesK_yes hk1 hcd]; exact hre2, by omega⟩ (.cons rfl (.cons rfl (.cons rfl .nil))) (by repeat (first | exact .refl | exact subL_left | refine subL_app ?_ | refine .drop ?_ | refine subL_add ?_))
      · skip
        have hcd : candB s (k : Int) = true := cand_yes hc36
        have hpp := pop_lt hs hk1 hlt_k hcd
        refine X_skip ?_
        refine at_then ?_
        refine X_seq ?_
        refine X_region ?_
        refine XO_v0 (ev_move rfl) rfl rfl rfl ?_
        refine XO_callM (cap := []) (vs := [_]) rfl rfl fun_35 .nil (ih _ hIc _ ⟨by omega, by omega⟩ hpp.1) rfl rfl ?_
        rintro vv2 I2 L2 hI2 ⟨rfl, aA, cA, rfl, gs, hA⟩
        have hre := hre.mono hI2
        have hIc := hIc.trans hI2
        have hB0 := hB0.trans hI2
        refine XO_v0 (ev_assign rfl) rfl rfl rfl ?_
        refine XO_nil ?_
        refine at_then ?_
        refine X_seq ?_
        refine X_region ?_
        refine XO_v0 (ev_move rfl) rfl rfl rfl ?_
        refine XO_v0 (ev_move rfl) rfl rfl rfl ?_
        refine XO_v0 (ev_arB rfl rfl rfl (fun hg => by first | omega | (simp [conj] at hg; omega))) rfl rfl rfl ?_
        refine XO_callM (cap := []) (vs := [_]) rfl rfl fun_35 .nil (ih _ hIc _ ⟨by omega, by omega⟩ hpp.2) rfl rfl ?_
        rintro vv3 I3 L3 hI3 ⟨rfl, aB, cB, rfl, ks, hB⟩
        have hre := hre.mono hI3
        have hA := hA.mono hI3
        have hIc := hIc.trans hI3
        have hB0 := hB0.trans hI3
        refine XO_v0 (ev_assign rfl) rfl rfl rfl ?_
        refine XO_nil ?_
        refine at_then ?_
        refine X_seq ?_
        have hq0 : q ≤ 945 + 0 * 945 := by have h1 := hO.1; rw [flat_len encH_len, hre.1] at h1; have h2 := treesK_few (f := f) (k := k) hf7 hs (by omega) hsg; omega
        have hfX := trees_few (f := f) (s := (k : Int)) (by omega) ⟨by omega, by omega⟩
        have hfY := trees_few (f := f) (s := s - (k : Int)) (by omega) ⟨by omega, by omega⟩
        refine X_region ?_
        refine XO_v0 (ev_assign rfl) rfl rfl rfl ?_
        refine XO_nil ?_
        refine at_then ?_
        refine X_block ?_
        refine X_loopT [(0, _), (4, _), (5, _), (6, _)] (.cons rfl (.cons rfl (.cons rfl (.cons rfl .nil)))) (fun T L0 mz E I' loc' => ∃ (i : Nat) (v2 : Value) (q2 : Nat) (os2 : List Hd) (L2 : Go.Kn.Loc), mz = (treesF f (k : Int)).length - i ∧ E = (3, v2) :: (7, .int .i64 i) :: T ∧ HLe I3 I' ∧ L2 = loc' ∧ i ≤ (treesF f (k : Int)).length ∧ OwnS 22 1 v2 q2 (os2.flatMap encH) L2 ∧ RelH I' os2 ((treesK f s k) ++ pairsF ((treesF f (k : Int)).take i) (treesF f (s - (k : Int))) s) ∧ q2 ≤ 945 + i * 945) _ _ _ _ ⟨0, v, q, os, L, rfl, rfl, HLe.refl _, rfl, Nat.zero_le _, hO, by rw [List.take_zero]; unfold pairsF; rw [List.flatMap_nil, List.append_nil]; exact hre, hq0⟩ (.cons rfl (.cons rfl (.cons rfl (.cons rfl (.cons rfl (.cons rfl .nil)))))) (HLe.refl _) rfl ?_
        rintro mz E J4 loc' ⟨i, v2, q2, os2, L2, rfl, rfl, hJ, rfl, hi, hO2, hre2, hq2⟩
        have hre := hre.mono hJ
        have hA := hA.mono hJ
        have hB := hB.mono hJ
        have hIc := hIc.trans hJ
        have hB0 := hB0.trans hJ
        have hB2 := hJ
        refine X_seq ?_
        refine X_seq ?_
        refine X_region ?_
        refine XO_v0 (ev_move rfl) rfl rfl rfl ?_
        refine XO_v0 (ev_move rfl) rfl rfl rfl ?_
        refine XO_v0 (ev_lenS rfl slt_28) rfl rfl rfl ?_
        refine XO_v0 (ev_cmp rfl rfl rfl) rfl rfl rfl ?_
        refine XO_nil ?_
        refine at_then ?_
        refine X_cond rfl (fun hc46 => ?_) (fun hc46 => ?_)
        · skip
          have hlt_i : i < (treesF f (k : Int)).length := by have h := hc46; simp at h; omega
          obtain ⟨x, xv, hgx, hx, hQx⟩ := hA.at hlt_i
          have hrX : xv.length ≤ 100000 := by have h1 := tree_row f _ _ (List.mem_of_getElem? hx); have h2 : 2 ^ f ≤ 2 ^ 7 := Nat.pow_le_pow_right (by decide) hf7; omega
          refine X_skip ?_
          refine at_then ?_
          refine X_seq ?_
          refine X_block ?_
          refine X_seq ?_
          refine X_region ?_
          refine XO_v0 (ev_assign rfl) rfl rfl rfl ?_
          refine XO_nil ?_
          refine at_then ?_
          refine X_block ?_
          refine X_loopT [(0, _), (4, _), (5, _), (6, _), (7, _)] (.cons rfl (.cons rfl (.cons rfl (.cons rfl (.cons rfl .nil))))) (fun T L0 mz E I' loc' => ∃ (j : Nat) (v3 : Value) (q3 : Nat) (os3 : List Hd) (L3 : Go.Kn.Loc), mz = (treesF f (s - (k : Int))).length - j ∧ E = (3, v3) :: (8, .int .i64 j) :: T ∧ HLe J4 I' ∧ L3 = loc' ∧ j ≤ (treesF f (s - (k : Int))).length ∧ OwnS 22 1 v3 q3 (os3.flatMap encH) L3 ∧ RelH I' os3 (((treesK f s k) ++ pairsF ((treesF f (k : Int)).take i) (treesF f (s - (k : Int))) s) ++ ((treesF f (s - (k : Int))).take j).map fun y => joinF xv y s) ∧ q3 ≤ 945 + i * 945 + j) _ _ _ _ ⟨0, v2, q2, os2, L2, rfl, rfl, HLe.refl _, rfl, Nat.zero_le _, hO2, by rw [List.take_zero, List.map_nil, List.append_nil]; exact hre2, by omega⟩ (.cons rfl (.cons rfl (.cons rfl (.cons rfl (.cons rfl (.cons rfl (.cons rfl .nil))))))) (HLe.refl _) rfl ?_
          rintro mz E J5 loc' ⟨j, v3, q3, os3, L3, rfl, rfl, hJ, rfl, hj, hO3, hre3, hq3⟩
          have hre := hre.mono hJ
          have hA := hA.mono hJ
          have hB := hB.mono hJ
          have hre2 := hre2.mono hJ
          have hQx := hQx.mono hJ
          have hIc := hIc.trans hJ
          have hB0 := hB0.trans hJ
          have hB2 := hB2.trans hJ
          have hB4 := hJ
          refine X_seq ?_
          refine X_seq ?_
          refine X_region ?_
          refine XO_v0 (ev_move rfl) rfl rfl rfl ?_
          refine XO_v0 (ev_move rfl) rfl rfl rfl ?_
          refine XO_v0 (ev_lenS rfl slt_28) rfl rfl rfl ?_
          refine XO_v0 (ev_cmp rfl rfl rfl) rfl rfl rfl ?_
          refine XO_nil ?_
          refine at_then ?_
          refine X_cond rfl (fun hc52 => ?_) (fun hc52 => ?_)
          · skip
            have hlt_j : j < (treesF f (s - (k : Int))).length := by have h := hc52; simp at h; omega
            obtain ⟨y, yv, hky, hy, hQy⟩ := hB.at hlt_j
            have hrY : yv.length ≤ 100000 := by have h1 := tree_row f _ _ (List.mem_of_getElem? hy); have h2 : 2 ^ f ≤ 2 ^ 7 := Nat.pow_le_pow_right (by decide) hf7; omega
            refine X_skip ?_
            refine at_then ?_
            refine X_seq ?_
            refine X_block ?_
            have hD := HLe.refl J5
            refine X_noP ?_
            refine X_drawS J5 [] mixed ?_
            refine XD_take 0 rfl (ev_move rfl) (.none rfl) rfl rfl rfl (by kernel_rfl) (by kernel_rfl) (by kernel_rfl) noP_ok hD (by repeat (first | exact .refl | exact subL_nil | refine .keep ?_ | refine .drop ?_ | refine subL_add ?_)) ?_
            refine XD_take 1 rfl (ev_move rfl) (.none rfl) rfl rfl rfl (by kernel_rfl) (by kernel_rfl) (by kernel_rfl) noP_ok hD (by repeat (first | exact .refl | exact subL_nil | refine .keep ?_ | refine .drop ?_ | refine subL_add ?_)) ?_
            refine XD_take 2 rfl (ev_move rfl) (.none rfl) rfl rfl rfl (by kernel_rfl) (by kernel_rfl) (by kernel_rfl) noP_ok hD (by repeat (first | exact .refl | exact subL_nil | refine .keep ?_ | refine .drop ?_ | refine subL_add ?_)) ?_
            refine XD_take 3 rfl (ev_indexSl rfl rfl slt_28 hA.1 (fun hg => by first | omega | (simp [conj] at hg; omega))) (.none rfl) rfl rfl rfl (by kernel_rfl) (by kernel_rfl) (by kernel_rfl) noP_ok hD (by repeat (first | exact .refl | exact subL_nil | refine .keep ?_ | refine .drop ?_ | refine subL_add ?_)) ?_
            refine XD_take 4 rfl (ev_load rfl sct_22 (fun hg => by first | exact Sl.get0 hA.1 hgx rfl | exact Sl.get0 hB.1 hky rfl | exact Cell.h0 rfl | exact Cell.h1 rfl | exact Cell.h2 rfl | exact Cell.h3 rfl | exact Cell.h4 rfl | exact Cell.h5 rfl | (repeat (first | exact Cell.here rfl | apply Cell.there | apply Cell.app)))) (.none rfl) rfl rfl rfl (by kernel_rfl) (by kernel_rfl) (by kernel_rfl) noP_ok hD (by repeat (first | exact .refl | exact subL_nil | refine .keep ?_ | refine .drop ?_ | refine subL_add ?_)) ?_
            refine XD_take 5 rfl (ev_move rfl) (.none rfl) rfl rfl rfl (by kernel_rfl) (by kernel_rfl) (by kernel_rfl) noP_ok hD (by repeat (first | exact .refl | exact subL_nil | refine .keep ?_ | refine .drop ?_ | refine subL_add ?_)) ?_
            refine XD_take 6 rfl (ev_move rfl) (.none rfl) rfl rfl rfl (by kernel_rfl) (by kernel_rfl) (by kernel_rfl) noP_ok hD (by repeat (first | exact .refl | exact subL_nil | refine .keep ?_ | refine .drop ?_ | refine subL_add ?_)) ?_
            refine XD_take 7 rfl (ev_indexSl rfl rfl slt_28 hB.1 (fun hg => by first | omega | (simp [conj] at hg; omega))) (.none rfl) rfl rfl rfl (by kernel_rfl) (by kernel_rfl) (by kernel_rfl) noP_ok hD (by repeat (first | exact .refl | exact subL_nil | refine .keep ?_ | refine .drop ?_ | refine subL_add ?_)) ?_
            refine XD_take 8 rfl (ev_load rfl sct_22 (fun hg => by first | exact Sl.get0 hA.1 hgx rfl | exact Sl.get0 hB.1 hky rfl | exact Cell.h0 rfl | exact Cell.h1 rfl | exact Cell.h2 rfl | exact Cell.h3 rfl | exact Cell.h4 rfl | exact Cell.h5 rfl | (repeat (first | exact Cell.here rfl | apply Cell.there | apply Cell.app)))) (.none rfl) rfl rfl rfl (by kernel_rfl) (by kernel_rfl) (by kernel_rfl) noP_ok hD (by repeat (first | exact .refl | exact subL_nil | refine .keep ?_ | refine .drop ?_ | refine subL_add ?_)) ?_
            refine XD_take 9 rfl (ev_move rfl) (.none rfl) rfl rfl rfl (by kernel_rfl) (by kernel_rfl) (by kernel_rfl) noP_ok hD (by repeat (first | exact .refl | exact subL_nil | refine .keep ?_ | refine .drop ?_ | refine subL_add ?_)) ?_
            refine XD_one 10 rfl (by kernel_rfl) ?_
            refine XO_callM (cap := []) (vs := [_, _, _]) rfl rfl fun_53 .nil (w_joined hQx (by rw [← hQx.len]; exact hrX) hQy (by rw [← hQy.len]; exact hrY) s) rfl rfl ?_
            rintro vv6 I6 L6 hI6 ⟨rfl, aJ, cJ, rfl, hJn⟩
            have hre := hre.mono hI6
            have hA := hA.mono hI6
            have hB := hB.mono hI6
            have hre2 := hre2.mono hI6
            have hQx := hQx.mono hI6
            have hre3 := hre3.mono hI6
            have hIc := hIc.trans hI6
            have hB0 := hB0.trans hI6
            have hB2 := hB2.trans hI6
            have hB4 := hB4.trans hI6
            have hD := hD.trans hI6
            refine XO_nil ?_
            refine at_D hD (by repeat (first | exact .refl | exact subL_nil | refine .keep ?_ | refine .drop ?_ | refine subL_add ?_)) ?_
            refine XD_one 11 rfl (by kernel_rfl) ?_
            refine XO_buildSlice (ps := [(0, _)]) (m := [encH ⟨aJ, (joinF xv yv s).length, cJ⟩]) elt_28 rfl (.cons rfl (.nil)) rfl (by simp [encH_len]) (by decide) (by decide) rfl rfl (fun b_66 => ?_)
            refine XO_nil ?_
            refine at_D hD (by repeat (first | exact .refl | exact subL_nil | refine .keep ?_ | refine .drop ?_ | refine subL_add ?_)) ?_
            refine XD_one 12 rfl (by kernel_rfl) ?_
            refine XO_append (v := _) (ys := [(⟨aJ, (joinF xv yv s).length, cJ⟩ : Hd)].flatMap encH) (L := L3) rfl rfl elt_28 hO3 (by repeat (first | exact .cons .here .nil | exact split_all | exact split_app | apply split_cons | apply split_skip)) ⟨rfl, fun _ => rfl, Cells.here⟩ (one_H _) (by omega) rfl rfl ?_
            intro v9 L9 hO9 _; rw [← List.flatMap_append] at hO9
            refine XO_nil ?_
            refine at_D hD (by repeat (first | exact .refl | exact subL_nil | refine .keep ?_ | refine .drop ?_ | refine subL_add ?_)) ?_
            refine XD_take 13 rfl (ev_assign rfl) (.none rfl) rfl rfl rfl (by kernel_rfl) (by kernel_rfl) (by kernel_rfl) noP_ok hD (by repeat (first | exact .refl | exact subL_nil | refine .keep ?_ | refine .drop ?_ | refine subL_add ?_)) ?_
            refine XD_done (by kernel_rfl) ?_
            refine at_noP ?_
            refine at_block_n ?_
            refine at_then ?_
            refine X_region ?_
            refine XO_v0 (ev_move rfl) rfl rfl rfl ?_
            refine XO_v0 (ev_arB rfl rfl rfl (fun hg => by first | omega | (simp [conj] at hg; omega))) rfl rfl rfl ?_
            refine XO_v0 (ev_assign rfl) rfl rfl rfl ?_
            refine XO_nil ?_
            exact at_met2 _ _ ⟨(treesF f (s - (k : Int))).length - (j + 1), by omega, j + 1, _, _, _, _, rfl, rfl, hB4, rfl, by omega, hO9, by rw [map_step hy, ← List.append_assoc]; exact hre3.snoc (hd := ⟨aJ, (joinF xv yv s).length, cJ⟩) hJn, by omega⟩ (.cons rfl (.cons rfl (.cons rfl (.cons rfl (.cons rfl (.cons rfl (.cons rfl .nil))))))) (by repeat (first | exact .refl | exact subL_left | refine subL_app ?_ | refine .drop ?_ | refine subL_add ?_))
          · skip
            have hge_j : (treesF f (s - (k : Int))).length ≤ j := by have h := hc52; simp at h; omega
            rw [List.take_of_length_le hge_j] at hre3
            refine X_exit ?_
            refine at_then_e ?_
            refine at_then_e ?_
            refine at_block_hit ?_
            refine at_block_n ?_
            refine at_then ?_
            refine X_region ?_
            refine XO_v0 (ev_move rfl) rfl rfl rfl ?_
            refine XO_v0 (ev_arB rfl rfl rfl (fun hg => by first | omega | (simp [conj] at hg; omega))) rfl rfl rfl ?_
            refine XO_v0 (ev_assign rfl) rfl rfl rfl ?_
            refine XO_nil ?_
            exact at_met2 _ _ ⟨(treesF f (k : Int)).length - (i + 1), by omega, i + 1, _, _, _, _, rfl, rfl, hB2, rfl, by omega, hO3, by rw [pairs_next hx, ← List.append_assoc]; exact hre3, by omega⟩ (.cons rfl (.cons rfl (.cons rfl (.cons rfl (.cons rfl (.cons rfl .nil)))))) (by repeat (first | exact .refl | exact subL_left | refine subL_app ?_ | refine .drop ?_ | refine subL_add ?_))
        · skip
          have hge_i : (treesF f (k : Int)).length ≤ i := by have h := hc46; simp at h; omega
          rw [List.take_of_length_le hge_i] at hre2
          refine X_exit ?_
          refine at_then_e ?_
          refine at_then_e ?_
          refine at_block_hit ?_
          refine at_block_n ?_
          refine at_then ?_
          refine X_region ?_
          refine XO_v0 (ev_move rfl) rfl rfl rfl ?_
          refine XO_v0 (ev_arB rfl rfl rfl (fun hg => by first | omega | (simp [conj] at hg; omega))) rfl rfl rfl ?_
          refine XO_v0 (ev_assign rfl) rfl rfl rfl ?_
          refine XO_nil ?_
          first
          | exact at_met2 _ _ ⟨(max s.toNat 1) - (k + 1), by omega, k + 1, _, _, _, _, rfl, rfl, hB0, rfl, by omega, hO, by rw [treesK_no hk1 hcd]; exact hre, by omega⟩ (.cons rfl (.cons rfl (.cons rfl .nil))) (by repeat (first | exact .refl | exact subL_left | refine subL_app ?_ | refine .drop ?_ | refine subL_add ?_))
          | exact at_met2 _ _ ⟨(max s.toNat 1) - (k + 1), by omega, k + 1, _, _, _, _, rfl, rfl, hB0, rfl, by omega, hO2, by rw [treesK_yes hk1 hcd]; exact hre2, by omega⟩ (.cons rfl (.cons rfl (.cons rfl .nil))) (by repeat (first | exact .refl | exact subL_left | refine subL_app ?_ | refine .drop ?_ | refine subL_add ?_))
    · skip
      have hkk : treesK f s k = treesF (f + 1) s := by have h := hc18; simp at h; rw [trees_2 hsg, show k = s.toNat by omega]
      rw [hkk] at hre
      refine X_exit ?_
      refine at_then_e ?_
      refine at_then_e ?_
      refine at_block_hit ?_
      refine at_then ?_
      refine X_seq ?_
      refine X_region ?_
      refine XO_v0 (ev_move rfl) rfl rfl rfl ?_
      refine XO_v0 (ev_assign rfl) rfl rfl rfl ?_
      refine XO_nil ?_
      refine at_then ?_
      refine X_ret ?_
      first
      | exact at_ret1 rfl rfl (fun w hw => by obtain ⟨I9, h91, h92, h93⟩ := OwnS.res hO encH_len (by decide) hw; obtain ⟨_, a9, c9, e9, h94⟩ := h93; have hrel := hre.mono h91; rw [hrel.1] at e9 h94; exact ⟨_, I9, [], rfl, hIc.trans h91, h92, rfl, a9, c9, e9, _, h94, hrel⟩)
      | exact at_ret1 rfl rfl (fun w hw => by obtain ⟨I8, a1, c1, g1, g2, g3, g4⟩ := OwnS.freeze (R := [(b_14, .cells #[] 3 (0, 0))]) (xs := [(⟨some ⟨b_14, 0, none⟩, 0, 0⟩ : Hd)]) (OwnS.lit (e := 22) (size := 1) (b := b_15) (n := 1) rfl (by decide)) encH_len (by decide) hw; cases g3; obtain ⟨I9, a2, c2, k1, k2, k3, k4⟩ := OwnS.freeze (R := []) (xs := ([] : List Int)) (enc := encI) (OwnS.new (e := 3) (size := 1) (b := b_14)) encI_len (by decide) g2; cases k3; rw [trees_1 hsg]; exact ⟨_, I9, [], rfl, hIc.trans (g1.trans k1), k2, rfl, _, _, rfl, [_], g4.mono k1, RelH.nil.snoc (hd := ⟨some ⟨b_14, 0, none⟩, 0, 0⟩) k4⟩)
end Go.Proofs.YtkpmnnflikkhmaaDoor
end
section
namespace Go.Proofs.YtkpmnnflikkhmaaDoor
open Go Go.Kn Go.Proofs
def allE (n : Int) : Int := if n > 6 then 2 else if n < 1 then 420 else 0
def allL (n : Int) : List (List Int) := sortF 946 (treesF 7 (allS n))
def SlNTup (e : Int) (vss : List (List Int)) : Value → HMap → Go.Kn.Loc → Prop := fun v I' L => L = [] ∧ ∃ av c, v = .tuple #[.slice av vss.length c, .int .i64 e] ∧ SlN I' av vss.length c vss
theorem SlN.none {I : HMap} : SlN I none 0 0 [] := ⟨[], .nil, RelH.nil⟩
theorem SlNTup.empty {e : Int} {vss : List (List Int)} {I : HMap} (h : vss = []) : SlNTup e vss (.tuple #[.slice none 0 0, .int .i64 e]) I [] := by
  subst h
  exact ⟨rfl, none, 0, rfl, .none⟩
theorem allE_1 {n : Int} (h : n > 6) : allE n = 2 := by unfold allE; rw [if_pos h]
theorem allE_2 {n : Int} (h : ¬ n > 6) (h2 : n < 1) : allE n = 420 := by unfold allE; rw [if_neg h, if_pos h2]
theorem allE_3 {n : Int} (h : ¬ n > 6) (h2 : ¬ n < 1) : allE n = 0 := by unfold allE; rw [if_neg h, if_neg h2]
theorem pop_all : ((List.range 64).all fun s => decide (popF (s : Int) < 7)) = true := by kernel_rfl
theorem pop_7 {s : Int} (hs : 1 ≤ s ∧ s ≤ 63) : popF s < 7 := by
  have h0 := List.all_eq_true.1 pop_all s.toNat (List.mem_range.2 (by omega))
  rw [show ((s.toNat : Nat) : Int) = s by omega] at h0
  simpa using h0
theorem tree_short {s : Int} : ∀ r ∈ treesF 7 s, r.length ≤ 100000 := fun r hr => by have := tree_row 7 s r hr; omega
end Go.Proofs.YtkpmnnflikkhmaaDoor
end
section
namespace Go.Proofs.YtkpmnnflikkhmaaDoor
open Go Go.Kn Go.Proofs
theorem w_trees : ∀ (f : Nat) {I : HMap} {s : Int}, f ≤ 8 → (1 ≤ s ∧ s ≤ 63) → popF s < f → RetM Tryd.prog 35 [.int .i64 s] I [] (SlNRes (treesF f s))
  | 0, _, _, _, _, h => absurd h (by omega)
  | f + 1, _, _, hf, hs, hp => w_trees_step f (by omega) _ hs (fun _ _ _ hs' hlt => by
      by_cases h : f = 0
      · omega
      · exact w_trees f (by omega) hs' (by omega))
theorem w_rall {I : HMap} (m : Int) : RetM Tryd.prog 16 [.int .i64 m] I [] (SlNTup (allE m) (resF (allE m) (allL m))) := by
  intro g H w hw
  refine enter Tryd.func16 rfl Tryd.ntmps16 rfl hw ?_
  have hIc := HLe.refl I
  refine X_seq ?_
  refine X_region ?_
  refine XO_v0 (ev_assign rfl) rfl rfl rfl ?_
  refine XO_v0 (ev_assign rfl) rfl rfl rfl ?_
  refine XO_nil ?_
  refine at_then ?_
  refine X_seq ?_
  refine X_seq ?_
  refine X_region ?_
  refine XO_v0 (ev_move rfl) rfl rfl rfl ?_
  refine XO_v0 (ev_cmp rfl rfl rfl) rfl rfl rfl ?_
  refine XO_nil ?_
  refine at_then ?_
  refine X_cond rfl (fun hc5 => ?_) (fun hc5 => ?_)
  · skip
    have h6 : m > 6 := by simpa using hc5
    refine X_seq ?_
    refine X_region ?_
    refine XO_v0 (ev_assign rfl) rfl rfl rfl ?_
    refine XO_v0 (ev_assign rfl) rfl rfl rfl ?_
    refine XO_nil ?_
    refine at_then ?_
    refine X_ret ?_
    refine at_then_r ?_
    first
    | exact at_ret2 rfl rfl rfl (fun w hw => ⟨_, I, [], rfl, hIc, hw.drop, by rw [allE_1 h6]; exact SlNTup.empty (resF_bad (by decide))⟩)
    | exact at_ret2 rfl rfl rfl (fun w hw => ⟨_, I, [], rfl, hIc, hw.drop, by rw [allE_2 h6 h1]; exact SlNTup.empty (resF_bad (by decide))⟩)
    | exact at_ret2 rfl rfl rfl (fun w hw => ⟨_, I, [], rfl, hIc, hw.drop, by rw [allE_3 h6 h1, resF_ok rfl]; exact ⟨rfl, aS, cS, rfl, hS⟩⟩)
  · skip
    have h6 : ¬ m > 6 := by simpa using hc5
    refine X_skip ?_
    refine at_then ?_
    refine X_seq ?_
    refine X_seq ?_
    refine X_region ?_
    refine XO_v0 (ev_move rfl) rfl rfl rfl ?_
    refine XO_v0 (ev_cmp rfl rfl rfl) rfl rfl rfl ?_
    refine XO_nil ?_
    refine at_then ?_
    refine X_cond rfl (fun hc7 => ?_) (fun hc7 => ?_)
    · skip
      have h1 : m < 1 := by simpa using hc7
      refine X_seq ?_
      refine X_region ?_
      refine XO_v0 (ev_assign rfl) rfl rfl rfl ?_
      refine XO_v0 (ev_assign rfl) rfl rfl rfl ?_
      refine XO_nil ?_
      refine at_then ?_
      refine X_ret ?_
      refine at_then_r ?_
      first
      | exact at_ret2 rfl rfl rfl (fun w hw => ⟨_, I, [], rfl, hIc, hw.drop, by rw [allE_1 h6]; exact SlNTup.empty (resF_bad (by decide))⟩)
      | exact at_ret2 rfl rfl rfl (fun w hw => ⟨_, I, [], rfl, hIc, hw.drop, by rw [allE_2 h6 h1]; exact SlNTup.empty (resF_bad (by decide))⟩)
      | exact at_ret2 rfl rfl rfl (fun w hw => ⟨_, I, [], rfl, hIc, hw.drop, by rw [allE_3 h6 h1, resF_ok rfl]; exact ⟨rfl, aS, cS, rfl, hS⟩⟩)
    · skip
      have h1 : ¬ m < 1 := by simpa using hc7
      have hsh := shl_in (n := m) ⟨by omega, by omega⟩
      have hal := all_in (n := m) ⟨by omega, by omega⟩
      refine X_skip ?_
      refine at_then ?_
      refine X_seq ?_
      refine X_region ?_
      refine XO_v0 (ev_move rfl) rfl rfl rfl ?_
      refine XO_v0 (ev_shl rfl rfl (fun hg => by first | decide | omega | (simp [conj] at hg; omega))) rfl rfl rfl ?_
      refine XO_v0 (ev_arB rfl rfl rfl (fun hg => by first | omega | (simp [conj] at hg; omega))) rfl rfl rfl ?_
      refine XO_callM (cap := []) (vs := [_]) rfl rfl fun_35 .nil (w_trees 7 (s := allS m) (by omega) hal (pop_7 hal)) rfl rfl ?_
      rintro vv1 I1 L1 hI1 ⟨rfl, aT, cT, rfl, hT⟩
      have hIc := hIc.trans hI1
      refine XO_callM (cap := []) (vs := [_]) rfl rfl fun_34 .nil (w_sorted 946 hT (by have := trees_few (f := 7) (s := allS m) (by omega) hal; omega) tree_short (by have := trees_few (f := 7) (s := allS m) (by omega) hal; omega)) rfl rfl ?_
      rintro vv2 I2 L2 hI2 ⟨rfl, aS, cS, rfl, hS⟩
      have hT := hT.mono hI2
      have hIc := hIc.trans hI2
      refine XO_v0 (ev_assign rfl) rfl rfl rfl ?_
      refine XO_v0 (ev_assign rfl) rfl rfl rfl ?_
      refine XO_nil ?_
      refine at_then ?_
      refine X_ret ?_
      first
      | exact at_ret2 rfl rfl rfl (fun w hw => ⟨_, I2, [], rfl, hIc, hw.drop, by rw [allE_1 h6]; exact SlNTup.empty (resF_bad (by decide))⟩)
      | exact at_ret2 rfl rfl rfl (fun w hw => ⟨_, I2, [], rfl, hIc, hw.drop, by rw [allE_2 h6 h1]; exact SlNTup.empty (resF_bad (by decide))⟩)
      | exact at_ret2 rfl rfl rfl (fun w hw => ⟨_, I2, [], rfl, hIc, hw.drop, by rw [allE_3 h6 h1, resF_ok rfl]; exact ⟨rfl, aS, cS, rfl, hS⟩⟩)
end Go.Proofs.YtkpmnnflikkhmaaDoor
end
section
namespace Go.Proofs.YtkpmnnflikkhmaaDoor
open Go Go.Kn Go.Proofs
theorem all_right : ((List.range 6).all fun n => (treesF 7 (allS (n : Int))).all fun x => n == 0 || chkN (n : Int) x == 0) = true := by kernel_rfl
theorem all_chk {n : Nat} (h1 : 1 ≤ n) (h5 : n ≤ 5) {x : List Int} (hx : x ∈ allL (n : Int)) : chkN (n : Int) x = 0 := by
  have h0 := List.all_eq_true.1 all_right n (List.mem_range.2 (by omega))
  have h0 := List.all_eq_true.1 h0 x (mem_sort _ _ hx)
  have hn : (n == 0) = false := by simp; omega
  rw [hn, Bool.false_or] at h0
  exact eq_of_beq h0
end Go.Proofs.YtkpmnnflikkhmaaDoor
end
section
namespace Go.Proofs.YtkpmnnflikkhmaaDoor
open Go Go.Kn Go.Proofs
def lessB (b c : Int) : Bool := decide (b < 0) || decide (c < b)
/-- The least price so far and who has it: one more. -/
def bstS (rows : List (List Int)) (p : Int × List (List Int)) (x : List Int) : Int × List (List Int) :=
  let c := priceF rows x
  let b := if lessB p.1 c then c else p.1
  let o := if lessB p.1 c then [] else p.2
  (b, if c == b then o ++ [x] else o)
def bstK (rows : List (List Int)) (k : Nat) : Int × List (List Int) := ((allL rows.length).take k).foldl (bstS rows) (-1, [])
theorem bst_next {rows : List (List Int)} {k : Nat} {x : List Int} (hx : (allL rows.length)[k]? = some x) : bstK rows (k + 1) = bstS rows (bstK rows k) x := by
  unfold bstK
  rw [take_snoc hx, List.foldl_append]; rfl
def bestB (rows : List (List Int)) : Int := if rowsN rows ≠ 0 then 0 else (bstK rows (allL rows.length).length).1
def bestL (rows : List (List Int)) : List (List Int) := if rowsN rows ≠ 0 then [] else (bstK rows (allL rows.length).length).2
def BestQ (rows : List (List Int)) : Value → HMap → Go.Kn.Loc → Prop := fun v I' L => L = [] ∧ ∃ av c, v = .tuple #[.slice av (bestL rows).length c, .int .i64 (bestB rows), .int .i64 (rowsN rows)] ∧ SlN I' av (bestL rows).length c (bestL rows)
theorem BestQ.bad {rows : List (List Int)} {I : HMap} (h : rowsN rows ≠ 0) : BestQ rows (.tuple #[.slice none 0 0, .int .i64 0, .int .i64 (rowsN rows)]) I [] := by
  have e1 : bestL rows = [] := by unfold bestL; rw [if_pos h]
  have e2 : bestB rows = 0 := by unfold bestB; rw [if_pos h]
  exact ⟨rfl, none, 0, by rw [e1, e2]; rfl, by rw [e1]; exact .none⟩
theorem best_ok {rows : List (List Int)} (h : rowsN rows = 0) : bestL rows = (bstK rows (allL rows.length).length).2 ∧ bestB rows = (bstK rows (allL rows.length).length).1 := by
  unfold bestL bestB; rw [if_neg (by omega), if_neg (by omega)]; exact ⟨rfl, rfl⟩
end Go.Proofs.YtkpmnnflikkhmaaDoor
end
section
namespace Go.Proofs.YtkpmnnflikkhmaaDoor
open Go Go.Kn Go.Proofs
theorem fun_16 : Fun Tryd.prog 16 := .of Tryd.func16 (by kernel_rfl) (by kernel_rfl)
end Go.Proofs.YtkpmnnflikkhmaaDoor
end
section
namespace Go.Proofs.YtkpmnnflikkhmaaDoor
open Go Go.Kn Go.Proofs
theorem fun_97 : Fun Tryd.prog 97 := .of Tryd.func97 (by kernel_rfl) (by kernel_rfl)
theorem minK_1 {xs : List Int} {x : Int} (hx : xs[0]? = some x) : minK xs 1 = x := by
  cases xs with
  | nil => cases hx
  | cons y xs => cases hx; simp [minK, minI]
theorem w_min {I : HMap} {av : Option Addr} {n c : Nat} {xs : List Int} (hS : Sl I 1 encI av n c xs) (hn : n ≤ 100000) (h0 : 0 < n) : RetV Tryd.prog 97 [.slice av n c] I (.int .i64 (leastF xs)) := by
  intro g H w hw
  refine enter Tryd.func97 rfl Tryd.ntmps97 rfl hw ?_
  obtain ⟨x0, hx0⟩ := hS.at h0
  refine X_seq ?_
  refine X_region ?_
  refine XO_v0 (ev_assign rfl) rfl rfl rfl ?_
  refine XO_nil ?_
  refine at_then ?_
  refine X_seq ?_
  refine X_seq ?_
  refine X_region ?_
  refine XO_v0 (ev_move rfl) rfl rfl rfl ?_
  refine XO_v0 (ev_lenS rfl slt_22) rfl rfl rfl ?_
  refine XO_v0 (ev_cmp rfl rfl rfl) rfl rfl rfl ?_
  refine XO_nil ?_
  refine at_then ?_
  refine X_cond rfl (fun hc7 => ?_) (fun hc7 => ?_)
  · skip
    have h := hc7; simp at h; omega
  · skip
    refine X_skip ?_
    refine at_then ?_
    refine X_seq ?_
    refine X_region ?_
    refine XO_v0 (ev_move rfl) rfl rfl rfl ?_
    refine XO_v0 (ev_indexSl rfl rfl slt_22 (by assumption) (fun hg => by first | omega | (simp [conj] at hg; omega))) rfl rfl rfl ?_
    refine XO_v0 (ev_load rfl sct_3 (fun hg => by first | exact Sl.get0 hS hx rfl | exact Sl.get0 (k := 0) hS hx0 rfl | exact Cell.h0 rfl | exact Cell.h1 rfl | exact Cell.h2 rfl | exact Cell.h3 rfl | exact Cell.h4 rfl | exact Cell.h5 rfl | (repeat (first | exact Cell.here rfl | apply Cell.there | apply Cell.app)))) rfl rfl rfl ?_
    refine XO_v0 (ev_assign rfl) rfl rfl rfl ?_
    refine XO_nil ?_
    refine at_then ?_
    refine X_seq ?_
    refine X_seq ?_
    refine X_region ?_
    refine XO_v0 (ev_assign rfl) rfl rfl rfl ?_
    refine XO_nil ?_
    refine at_then ?_
    refine X_block ?_
    refine X_loopT [(0, _)] (.cons rfl .nil) (fun T L0 mz E I' loc' => ∃ (k : Nat) (m : Int), mz = n - k ∧ E = (3, .int .i64 m) :: (4, .int .i64 k) :: T ∧ I = I' ∧ L0 = loc' ∧ k ≤ n ∧ m = minK xs k ∧ 1 ≤ k) _ _ _ _ ⟨1, _, rfl, rfl, rfl, rfl, h0, (minK_1 hx0).symm, Nat.le_refl _⟩ (.cons rfl (.cons rfl (.cons rfl .nil))) (HLe.refl _) rfl ?_
    rintro mz E I' loc' ⟨k, m, rfl, rfl, rfl, rfl, hk, hm, hk1⟩
    refine X_seq ?_
    refine X_seq ?_
    refine X_region ?_
    refine XO_v0 (ev_move rfl) rfl rfl rfl ?_
    refine XO_v0 (ev_move rfl) rfl rfl rfl ?_
    refine XO_v0 (ev_lenS rfl slt_22) rfl rfl rfl ?_
    refine XO_v0 (ev_cmp rfl rfl rfl) rfl rfl rfl ?_
    refine XO_nil ?_
    refine at_then ?_
    refine X_cond rfl (fun hc15 => ?_) (fun hc15 => ?_)
    · skip
      have hlt_k : k < n := by have h := hc15; simp at h; omega
      obtain ⟨x, hx⟩ := hS.at hlt_k
      refine X_skip ?_
      refine at_then ?_
      refine X_seq ?_
      refine X_block ?_
      refine X_region ?_
      refine XO_v0 (ev_move rfl) rfl rfl rfl ?_
      refine XO_v0 (ev_move rfl) rfl rfl rfl ?_
      refine XO_v0 (ev_move rfl) rfl rfl rfl ?_
      refine XO_v0 (ev_indexSl rfl rfl slt_22 (by assumption) (fun hg => by first | omega | (simp [conj] at hg; omega))) rfl rfl rfl ?_
      refine XO_v0 (ev_load rfl sct_3 (fun hg => by first | exact Sl.get0 hS hx rfl | exact Sl.get0 (k := 0) hS hx0 rfl | exact Cell.h0 rfl | exact Cell.h1 rfl | exact Cell.h2 rfl | exact Cell.h3 rfl | exact Cell.h4 rfl | exact Cell.h5 rfl | (repeat (first | exact Cell.here rfl | apply Cell.there | apply Cell.app)))) rfl rfl rfl ?_
      refine XO_v0 (ev_min rfl rfl) rfl rfl rfl ?_
      refine XO_v0 (ev_assign rfl) rfl rfl rfl ?_
      refine XO_nil ?_
      refine at_block_n ?_
      refine at_then ?_
      refine X_region ?_
      refine XO_v0 (ev_move rfl) rfl rfl rfl ?_
      refine XO_v0 (ev_arB rfl rfl rfl (fun hg => by first | omega | (simp [conj] at hg; omega))) rfl rfl rfl ?_
      refine XO_v0 (ev_assign rfl) rfl rfl rfl ?_
      refine XO_nil ?_
      exact at_met2 _ _ ⟨n - (k + 1), by omega, k + 1, _, rfl, rfl, rfl, rfl, by omega, by rw [minK_step hx, hm], by omega⟩ (.cons rfl (.cons rfl (.cons rfl .nil))) (by repeat (first | exact .refl | exact subL_left | refine subL_app ?_ | refine .drop ?_ | refine subL_add ?_))
    · skip
      have hge_k : n ≤ k := by have h := hc15; simp at h; omega
      have hkn : k = xs.length := by rw [hS.len]; omega
      subst hkn
      refine X_exit ?_
      refine at_then_e ?_
      refine at_then_e ?_
      refine at_block_hit ?_
      refine at_then ?_
      refine X_seq ?_
      refine X_region ?_
      refine XO_v0 (ev_move rfl) rfl rfl rfl ?_
      refine XO_v0 (ev_assign rfl) rfl rfl rfl ?_
      refine XO_nil ?_
      refine at_then ?_
      refine X_ret ?_
      first
      | exact at_ret1 rfl rfl (fun w hw => ⟨by rw [hm]; rfl, hw.drop⟩)
theorem w_least {I : HMap} {av : Option Addr} {n c : Nat} {xs : List Int} (hS : Sl I 1 encI av n c xs) (hn : n ≤ 100000) (h0 : 0 < n) : RetV Tryd.prog 71 [.slice av n c] I (.int .i64 (leastF xs)) := by
  intro g H w hw
  refine enter Tryd.func71 rfl Tryd.ntmps71 rfl hw ?_
  refine X_seq ?_
  refine X_region ?_
  refine XO_v0 (ev_assign rfl) rfl rfl rfl ?_
  refine XO_nil ?_
  refine at_then ?_
  refine X_seq ?_
  refine X_region ?_
  refine XO_v0 (ev_move rfl) rfl rfl rfl ?_
  refine XO_callV0 (cap := []) (vs := [_]) rfl rfl fun_97 (w_min hS hn h0) rfl rfl ?_
  refine XO_v0 (ev_assign rfl) rfl rfl rfl ?_
  refine XO_nil ?_
  refine at_then ?_
  refine X_ret ?_
  exact at_ret1 rfl rfl (fun w hw => ⟨by first | rfl | simp_all, hw.drop⟩)
end Go.Proofs.YtkpmnnflikkhmaaDoor
end
section
namespace Go.Kn
open Go
/-- '[2][2]int{x, y}'. -/
theorem ev_build2A {C : Cx} {S : GS} {E : Env} {I : HMap} {loc : Loc} {dst : Option Nat} {ty : Nat} {pos : String} {af : Array Edge} {gd : Option (Nat × Bool)} {t e : Nat} {z1 z2 z3 z4 a b c d : Value} {x y : Operand}
    (hT : ArT C.P t 2 e 2) (hz : ZeroT C.P t (.agg #[z1, z2, z3, z4])) (hx : evalS S E x = some (.agg #[a, b])) (hy : evalS S E y = some (.agg #[c, d])) :
    EvalOp C S E I loc ⟨dst, .build t #[(0, x), (1, y)], ty, pos, af, gd⟩ (.agg #[a, b, c, d]) :=
  .of (by intro c e; cases e) fun st w ha hg hc hw => by
    obtain ⟨hu, i, hi, hs⟩ := hT
    have hsz : ∀ w : World, (sizeOf e).run C.P w = .ok 2 w := fun w => by have h1 := Go.run_sizeOf (w := w) hi; have h2 : C.P.cellsOf e = 2 := (by unfold Program.cellsOf; rw [hi]; exact hs); rw [h2] at h1; exact h1
    simp only [execOp, Instr.build, Sem.run_bind, run_zeroValue hz, Result.andThen, run_underlying hu, hsz, List.map_toArray, List.map_cons, List.map_nil, evalS_sound ha hg hc hx, evalS_sound ha hg hc hy]
    rfl
end Go.Kn
end
section
namespace Go.Proofs.YtkpmnnflikkhmaaDoor
open Go Go.Kn Go.Proofs
theorem agt_104 : AgT Tryd.prog 104 4 := .of (by kernel_rfl)
theorem ar2_103 : Ar2 Tryd.prog 103 3 .i64 := ⟨by kernel_rfl, by kernel_rfl, by kernel_rfl, by kernel_rfl, by kernel_rfl⟩
theorem art_104 : ArT Tryd.prog 104 2 103 2 := .of (by kernel_rfl)
theorem szt_104 : SzT Tryd.prog 104 4 := .of (by kernel_rfl)
theorem zt_103 : ZeroT Tryd.prog 103 (.agg #[(.int .i64 0), (.int .i64 0)]) := .of (by kernel_rfl)
theorem zt_104 : ZeroT Tryd.prog 104 (.agg #[(.int .i64 0), (.int .i64 0), (.int .i64 0), (.int .i64 0)]) := .of (by kernel_rfl)
theorem w_steps (I : HMap) : RetV Tryd.prog 96 [] I (.agg #[.int .i64 2, .int .i64 1, .int .i64 4, .int .i64 0]) := by
  intro g H w hw
  refine enter Tryd.func96 rfl Tryd.ntmps96 rfl hw ?_
  refine X_seq ?_
  refine X_region ?_
  refine XO_alloc zt_104 rfl rfl (fun b_0 => ?_)
  refine XO_nil ?_
  refine at_then ?_
  refine X_seq ?_
  refine X_region ?_
  refine XO_v0 (ev_build2 ar2_103 zt_103 rfl rfl) rfl rfl rfl ?_
  refine XO_v0 (ev_build2 ar2_103 zt_103 rfl rfl) rfl rfl rfl ?_
  refine XO_v0 (ev_build2A art_104 zt_104 rfl rfl) rfl rfl rfl ?_
  refine XO_storeA rfl rfl szt_104 rfl rfl rfl rfl (by first | exact Upd.u0 | exact Upd.u1 | exact Upd.u2 | exact Upd.u3 | exact Upd.u4 | exact Upd.u5 | (repeat (first | exact Upd.here | apply Upd.there | apply upd_app))) ?_
  refine XO_nil ?_
  refine at_then ?_
  refine X_ret ?_
  exact at_retA (vs := [.int .i64 2, .int .i64 1, .int .i64 4, .int .i64 0]) rfl rfl agt_104 (by repeat (first | exact Cells.here | apply Cells.there)) rfl (fun w hw => ⟨rfl, hw.drop⟩)
end Go.Proofs.YtkpmnnflikkhmaaDoor
end
section
namespace Go.Proofs.YtkpmnnflikkhmaaDoor
open Go Go.Kn Go.Proofs
theorem agt_103 : AgT Tryd.prog 103 2 := .of (by kernel_rfl)
theorem art_103 : ArT Tryd.prog 103 2 3 1 := .of (by kernel_rfl)
theorem fun_95 : Fun Tryd.prog 95 := .of Tryd.func95 (by kernel_rfl) (by kernel_rfl)
theorem fun_96 : Fun Tryd.prog 96 := .of Tryd.func96 (by kernel_rfl) (by kernel_rfl)
theorem kind_in (n : Int) : 0 ≤ kindF n ∧ kindF n < 2 := by unfold kindF; split <;> omega
theorem step_ix {f t : Int} (h : f ≠ t) : ((([.int .i64 2, .int .i64 1, .int .i64 4, .int .i64 0] : List Value).drop ((kindF f).toNat * 2)).take 2)[(kindF t).toNat * 1]? = some (.int .i64 (stepF f t)) := by
  unfold stepF kindF
  rw [if_neg h]
  by_cases h1 : t = 0
  · have h2 : ¬ f = 0 := fun e => h (by rw [e, h1])
    rw [if_pos h1, if_neg h2, if_pos h1]; rfl
  · rw [if_neg h1, if_neg h1]
    by_cases h2 : f = 0
    · rw [if_pos h2, if_pos h2]; rfl
    · rw [if_neg h2, if_neg h2]; rfl
theorem w_step (I : HMap) (f t : Int) : RetV Tryd.prog 70 [.int .i64 f, .int .i64 t] I (.int .i64 (stepF f t)) := by
  intro g H w hw
  refine enter Tryd.func70 rfl Tryd.ntmps70 rfl hw ?_
  refine X_seq ?_
  refine X_region ?_
  refine XO_v0 (ev_assign rfl) rfl rfl rfl ?_
  refine XO_nil ?_
  refine at_then ?_
  refine X_seq ?_
  refine X_seq ?_
  refine X_region ?_
  refine XO_v0 (ev_move rfl) rfl rfl rfl ?_
  refine XO_v0 (ev_move rfl) rfl rfl rfl ?_
  refine XO_v0 (ev_cmp rfl rfl rfl) rfl rfl rfl ?_
  refine XO_nil ?_
  refine at_then ?_
  refine X_cond rfl (fun hc8 => ?_) (fun hc8 => ?_)
  · skip
    have heq : f = t := by simpa using hc8
    refine X_seq ?_
    refine X_region ?_
    refine XO_v0 (ev_assign rfl) rfl rfl rfl ?_
    refine XO_nil ?_
    refine at_then ?_
    refine X_ret ?_
    refine at_then_r ?_
    first
    | exact at_ret1 rfl rfl (fun w hw => ⟨by unfold stepF; rw [if_pos heq], hw.drop⟩)
    | exact at_ret1 rfl rfl (fun w hw => ⟨by rfl, hw.drop⟩)
  · skip
    have hne : f ≠ t := by simpa using hc8
    refine X_skip ?_
    refine at_then ?_
    refine X_seq ?_
    refine X_region ?_
    refine XO_v0 (ev_assign rfl) rfl rfl rfl ?_
    refine XO_nil ?_
    refine at_then ?_
    refine X_seq ?_
    refine X_draw mixed (by kernel_rfl) ?_
    refine XQ_callV0 (cap := []) (vs := []) rfl rfl fun_96 (w_steps I) rfl rfl ?_
    refine XQ_v0 (ev_move rfl) rfl rfl rfl ?_
    refine XQ_v0 (ev_move rfl) rfl rfl rfl ?_
    refine XQ_callV0 (cap := []) (vs := [_]) rfl rfl fun_95 (w_kind I _) rfl rfl ?_
    refine XQ_v0 (ev_indexAg (cs := [.int .i64 2, .int .i64 1, .int .i64 4, .int .i64 0]) rfl rfl art_104 agt_103 (fun hg => kind_in _)) rfl rfl rfl ?_
    refine XQ_v0 (ev_move rfl) rfl rfl rfl ?_
    refine XQ_v0 (ev_move rfl) rfl rfl rfl ?_
    refine XQ_callV0 (cap := []) (vs := [_]) rfl rfl fun_95 (w_kind I _) rfl rfl ?_
    refine XQ_v0 (ev_index rfl rfl art_103 sct_3 (fun hg => kind_in _) (fun hg => step_ix hne)) rfl rfl rfl ?_
    refine XQ_v0 (ev_assign rfl) rfl rfl rfl ?_
    refine XQ_nil ?_
    refine at_then ?_
    refine X_ret ?_
    first
    | exact at_ret1 rfl rfl (fun w hw => ⟨by unfold stepF; rw [if_pos heq], hw.drop⟩)
    | exact at_ret1 rfl rfl (fun w hw => ⟨by rfl, hw.drop⟩)
end Go.Proofs.YtkpmnnflikkhmaaDoor
end
section
namespace Go.Proofs.YtkpmnnflikkhmaaDoor
open Go Go.Kn Go.Proofs
/-- The table by which trailing zeros are counted. -/
def debT : List Int := [0, 1, 56, 2, 57, 49, 28, 3, 61, 58, 42, 50, 38, 29, 17, 4, 62, 47, 59, 36, 45, 43, 51, 22, 53, 39, 33, 30, 24, 18, 12, 5, 63, 55, 48, 27, 60, 41, 37, 16, 46, 35, 44, 21, 52, 32, 23, 11, 54, 26, 40, 15, 34, 20, 31, 10, 25, 14, 19, 9, 13, 8, 7, 6]
def DebOK (I : HMap) : Prop := ∀ i : Nat, i < 64 → Cell I [] 1 i (.int .u8 (debT.getD i 0))
theorem DebOK.mono {I I' : HMap} (h : DebOK I) (hI : HLe I I') : DebOK I' := fun i hi => (h i hi).mono hI
def andU (a b : Int) : Int := IntKind.u64.wrap ((BitVec.ofInt 64 a &&& BitVec.ofInt 64 b).toNat : Int)
def debX (x : Int) : Int := (IntKind.u64.wrap (andU x (IntKind.u64.wrap (0 - x)) * 285870213051353865)).fdiv (2 ^ 58)
theorem deb_tab : ((List.range 64).all fun s => !singF (s : Int) || (decide (0 ≤ debX (s : Int)) && decide (debX (s : Int) < 64) && decide (IntKind.i64.wrap (debT.getD (debX (s : Int)).toNat 0) = (witF (s : Int) : Int)))) = true := by kernel_rfl
theorem deb_ok {s : Int} (hs : 1 ≤ s ∧ s ≤ 63) (h1 : singF s = true) : (0 ≤ debX s ∧ debX s < 64) ∧ IntKind.i64.wrap (debT.getD (debX s).toNat 0) = (witF s : Int) := by
  have h := List.all_eq_true.1 deb_tab s.toNat (List.mem_range.2 (by omega))
  rw [show ((s.toNat : Nat) : Int) = s by omega, h1] at h
  simpa using h
section
variable {C : Cx} {E : Env} {I : HMap} {loc : Go.Kn.Loc} {S : GS} {dst : Option Tmp} {ty : TypeId} {pos : String} {af : Array Edge} {gd : Option (Nat × Bool)} {x y : Operand} {a b : Int}
theorem ev_andU {t t' : TypeId} (hx : evalS S E x = some (.int .u64 a)) (hy : evalS S E y = some (.int .u64 b)) : EvalOp C S E I loc ⟨dst, .binOp .and t x y t', ty, pos, af, gd⟩ (.int .u64 (andU a b)) :=
  .of (by intro c e; cases e) fun ac w ha hg hc _ => by
    simp only [execOp, evalS_sound ha hg hc hx, evalS_sound ha hg hc hy, Sem.run_bind, run_eqGuard_int, Result.andThen, binOp, ne_eq, not_true_eq_false, if_false, Op.intBits, Sem.run_pure, andU, IntKind.bits]; rfl
end
/-! ### Maps of costs -/
def eiv : Int → Value := Value.int .i64
structure MapF (m : List (Int × Int)) (g : Int → Option Int) : Prop where
  nd : (m.map (·.1)).Nodup
  get : ∀ x, mget m x = g x
theorem MapF.nil : MapF [] (fun _ => none) := ⟨.nil, fun _ => rfl⟩
theorem MapF.set {m : List (Int × Int)} {g : Int → Option Int} (h : MapF m g) (x v : Int) : MapF (mset m x v) (fun y => if x = y then some v else g y) :=
  ⟨mset_nodup _ _ h.nd, fun y => by rw [mget_mset, h.get]⟩
theorem MapF.congr {m : List (Int × Int)} {g g' : Int → Option Int} (h : MapF m g) (e : ∀ x, g x = g' x) : MapF m g' := ⟨h.nd, fun x => by rw [h.get, e]⟩
theorem MapF.mem {m : List (Int × Int)} {g : Int → Option Int} (h : MapF m g) {p : Int × Int} (hp : p ∈ m) : g p.1 = some p.2 := by rw [← h.get]; exact mget_at h.nd hp
/-- What a range has met. -/
def visO {α : Type} (m : List α) (seen : List Nat) : List α := seen.filterMap fun i => m[i]?
theorem vis_snoc {α : Type} {m : List α} {seen : List Nat} {i : Nat} {p : α} (hp : m[i]? = some p) : visO m (seen ++ [i]) = visO m seen ++ [p] := by
  unfold visO; rw [List.filterMap_append]; simp [hp]
theorem vis_all {α : Type} {m : List α} {seen : List Nat} (hnd : seen.Nodup) (hlt : ∀ i ∈ seen, i < m.length) (hall : ∀ i (p : α), m[i]? = some p → i ∈ seen) : (visO m seen).Perm m := by
  have h1 := (seen_perm hnd hlt hall).filterMap (fun i => m[i]?)
  rw [range_all] at h1
  exact h1
theorem vis_mem {α : Type} {m : List α} {seen : List Nat} {p : α} : p ∈ visO m seen ↔ ∃ i ∈ seen, m[i]? = some p := by unfold visO; rw [List.mem_filterMap]
theorem snd_nodup {seen : List Nat} {i n : Nat} (hnd : seen.Nodup) (hlt : ∀ i ∈ seen, i < n) (hs : i ∉ seen) (hi : i < n) : (seen ++ [i]).Nodup ∧ (∀ j ∈ seen ++ [i], j < n) ∧ (seen ++ [i]).length ≤ n := by
  have h1 : (seen ++ [i]).Nodup := List.nodup_append.2 ⟨hnd, by simp, fun a ha b hb e => hs (by simp at hb; subst hb; subst e; exact ha)⟩
  have h2 : ∀ j ∈ seen ++ [i], j < n := fun j hj => (List.mem_append.1 hj).elim (hlt j) (fun h => by simp at h; subst h; exact hi)
  refine ⟨h1, h2, ?_⟩
  have := seen_lt (m := List.range n) h1 (by simpa using h2)
  simpa using this
/-! ### The least, in whatever order -/
theorem min_fold : ∀ (xs : List Int) (b : Int), (∀ x ∈ xs, xs.foldl minI b ≤ x) ∧ xs.foldl minI b ≤ b ∧ (xs.foldl minI b = b ∨ xs.foldl minI b ∈ xs)
  | [], b => ⟨fun x h => by simp at h, Int.le_refl _, .inl rfl⟩
  | y :: xs, b => by
    obtain ⟨h1, h2, h3⟩ := min_fold xs (minI b y)
    simp only [List.foldl_cons]
    have hb : minI b y ≤ b ∧ minI b y ≤ y ∧ (minI b y = b ∨ minI b y = y) := by unfold minI; split <;> omega
    refine ⟨fun x hx => ?_, by omega, ?_⟩
    · rcases List.mem_cons.1 hx with rfl | hx
      · omega
      · exact h1 x hx
    · rcases h3 with h3 | h3
      · rcases hb.2.2 with e | e
        · left; rw [h3, e]
        · right; rw [h3, e]; exact List.mem_cons_self ..
      · right; exact List.mem_cons_of_mem _ h3
theorem least_in {xs : List Int} (h : xs ≠ []) : leastF xs ∈ xs ∧ ∀ x ∈ xs, leastF xs ≤ x := by
  cases xs with
  | nil => exact absurd rfl h
  | cons y xs =>
    unfold leastF minK
    rw [List.take_length]
    have e : (y :: xs).getD 0 0 = y := rfl
    rw [e]
    obtain ⟨h1, h2, h3⟩ := min_fold (y :: xs) y
    refine ⟨?_, h1⟩
    rcases h3 with h3 | h3
    · rw [h3]; exact List.mem_cons_self ..
    · exact h3
theorem least_eq {xs : List Int} {v : Int} (h : v ∈ xs) (h2 : ∀ x ∈ xs, v ≤ x) : leastF xs = v := by
  obtain ⟨h3, h4⟩ := least_in (List.ne_nil_of_mem h)
  have a := h4 v h
  have b := h2 _ h3
  omega
theorem best_fold (st cs : List Int) (s : Int) (k : Nat) : bestK st cs s k = ((List.range k).map fun i => stepF s (st.getD i 0) + cs.getD i 0).foldl minI 1048576 := by
  unfold bestK; rw [List.foldl_map]
/-- What a map of costs says of states and their costs: what cannot be has no entry. -/
structure MapR (st cs : List Int) (b : Int) (m : List (Int × Int)) : Prop where
  len : cs.length = st.length
  nd : (m.map (·.1)).Nodup
  get : ∀ (i : Nat) (x c : Int), st[i]? = some x → cs[i]? = some c → mget m x = if c < 1048576 then some c else none
  old : ∀ p ∈ m, p.1 ∈ st
  pos : ∃ c ∈ cs, c < 1048576
  le : ∀ c ∈ cs, 0 ≤ c ∧ (c < 1048576 → c ≤ b) ∧ c ≤ 1048576
theorem MapR.ne {st cs : List Int} {b : Int} {m : List (Int × Int)} (h : MapR st cs b m) : 0 < m.length := by
  obtain ⟨c, hc, hlt⟩ := h.pos
  obtain ⟨i, hi⟩ := List.getElem?_of_mem hc
  have hil := (List.getElem?_eq_some_iff.1 hi).1
  have hx : st[i]? = some (st[i]'(by rw [← h.len]; exact hil)) := List.getElem?_eq_getElem _
  have := h.get i _ c hx hi
  rw [if_pos hlt] at this
  exact List.length_pos_of_mem (mget_mem this)
theorem MapR.ent {st cs : List Int} {b : Int} {m : List (Int × Int)} (h : MapR st cs b m) {x c : Int} : (x, c) ∈ m ↔ ∃ i : Nat, st[i]? = some x ∧ cs[i]? = some c ∧ c < 1048576 := by
  constructor
  · intro hm
    obtain ⟨i, hi⟩ := List.getElem?_of_mem (h.old _ hm)
    have hil := (List.getElem?_eq_some_iff.1 hi).1
    have hc : cs[i]? = some (cs[i]'(by rw [h.len]; exact hil)) := List.getElem?_eq_getElem _
    have hg := h.get i x _ hi hc
    rw [mget_at h.nd hm] at hg
    split at hg
    · rename_i hlt
      cases hg
      exact ⟨i, hi, hc, hlt⟩
    · cases hg
  · rintro ⟨i, h1, h2, h3⟩
    have := h.get i x c h1 h2
    rw [if_pos h3] at this
    exact mget_mem this
/-- The least cost of a step and what is below, over the entries in whatever order. -/
theorem below_eq {st cs : List Int} {b : Int} {m vs : List (Int × Int)} (h : MapR st cs b m) (hb : b ≤ 1000) (hp : vs.Perm m) (s : Int) : leastF (vs.map fun p => p.2 + stepF s p.1) = belowF st cs s ∧ 0 ≤ belowF st cs s ∧ belowF st cs s ≤ b + 4 ∧ ∀ p ∈ vs, 0 ≤ p.2 ∧ p.2 ≤ b := by
  have hsm : ∀ p ∈ m, 0 ≤ p.2 ∧ p.2 ≤ b := fun p hp => by
    obtain ⟨i, _, h2, h3⟩ := (h.ent (x := p.1) (c := p.2)).1 hp
    have := h.le _ (List.mem_of_getElem? h2)
    exact ⟨this.1, this.2.1 h3⟩
  have hlow : ∀ p ∈ m, belowF st cs s ≤ p.2 + stepF s p.1 := fun p hp => by
    obtain ⟨i, h1, h2, h3⟩ := (h.ent (x := p.1) (c := p.2)).1 hp
    unfold belowF
    rw [best_fold]
    have hil := (List.getElem?_eq_some_iff.1 h1).1
    have := (min_fold ((List.range st.length).map fun i => stepF s (st.getD i 0) + cs.getD i 0) 1048576).1 (stepF s p.1 + p.2) (List.mem_map.2 ⟨i, List.mem_range.2 hil, by rw [getD_of h1, getD_of h2]⟩)
    omega
  have hne : m ≠ [] := fun e => by have := h.ne; rw [e] at this; simp at this
  obtain ⟨q, hq⟩ := List.exists_mem_of_ne_nil m hne
  have hq1 := hlow q hq
  have hq2 := hsm q hq
  have hq3 := step_in s q.1
  have hmem : ∃ p ∈ m, belowF st cs s = p.2 + stepF s p.1 := by
    have h3 := (min_fold ((List.range st.length).map fun i => stepF s (st.getD i 0) + cs.getD i 0) 1048576).2.2
    rw [← best_fold] at h3
    rcases h3 with h3 | h3
    · have : belowF st cs s = 1048576 := h3
      omega
    · obtain ⟨i, hi, e⟩ := List.mem_map.1 h3
      have hi := List.mem_range.1 hi
      have h1 : st[i]? = some (st.getD i 0) := some_getD rfl hi
      have h2 : cs[i]? = some (cs.getD i 0) := some_getD rfl (by rw [h.len]; exact hi)
      have hst := step_in s (st.getD i 0)
      have e : stepF s (st.getD i 0) + cs.getD i 0 = belowF st cs s := e
      exact ⟨(st.getD i 0, cs.getD i 0), h.ent.2 ⟨i, h1, h2, by omega⟩, by show _ = cs.getD i 0 + stepF s (st.getD i 0); omega⟩
  obtain ⟨p, hpm, he⟩ := hmem
  have hp2 := hsm p hpm
  have hp3 := step_in s p.1
  refine ⟨least_eq (List.mem_map.2 ⟨p, hp.mem_iff.2 hpm, he.symm⟩) (fun x hx => ?_), by omega, by omega, fun p hp' => hsm p (hp.mem_iff.1 hp')⟩
  obtain ⟨r, hr, rfl⟩ := List.mem_map.1 hx
  exact hlow r (hp.mem_iff.1 hr)
end Go.Proofs.YtkpmnnflikkhmaaDoor
end
section
namespace Go.Proofs.YtkpmnnflikkhmaaDoor
open Go Go.Kn Go.Proofs
def subN (c a : Nat) : Bool := c &&& a == c
theorem sub_trans {c a s : Nat} (h : subN c a = true) (g : subN a s = true) : subN c s = true := by
  unfold subN at *
  rw [beq_iff_eq] at *
  calc c &&& s = (c &&& a) &&& s := by rw [h]
    _ = c &&& (a &&& s) := Nat.and_assoc ..
    _ = c := by rw [g, h]
theorem sub_both {c a b : Nat} (h : subN c a = true) (g : subN c b = true) (e : b &&& a = 0) : c = 0 := by
  unfold subN at *
  rw [beq_iff_eq] at *
  calc c = (c &&& b) &&& a := by rw [g, h]
    _ = c &&& (b &&& a) := Nat.and_assoc ..
    _ = 0 := by rw [e]; exact Nat.and_zero _
theorem sub_refl (a : Nat) : subN a a = true := by unfold subN; rw [Nat.and_self]; exact beq_self_eq_true _
theorem sub_anti {a b : Nat} (h : subN a b = true) (g : subN b a = true) : a = b := by
  unfold subN at *
  rw [beq_iff_eq] at *
  calc a = a &&& b := h.symm
    _ = b &&& a := Nat.and_comm ..
    _ = b := g
theorem sub_le {a b : Nat} (h : subN a b = true) : a ≤ b := by
  unfold subN at h
  rw [beq_iff_eq] at h
  rw [← h]; exact Nat.and_le_right
theorem pair_tab : ((List.range 64).all fun s => (List.range 64).all fun a => !subN a s || ((((s - a) &&& a) == 0) && subN (s - a) s && (popF (a : Int) + popF ((s - a : Nat) : Int) == popF (s : Int)))) = true := by kernel_rfl
theorem pair_ok {s a : Nat} (hs : s < 64) (ha : a < 64) (h : subN a s = true) : (s - a) &&& a = 0 ∧ subN (s - a) s = true ∧ popF (a : Int) + popF ((s - a : Nat) : Int) = popF (s : Int) := by
  have h0 := List.all_eq_true.1 pair_tab s (List.mem_range.2 hs)
  have h0 := List.all_eq_true.1 h0 a (List.mem_range.2 ha)
  rw [h] at h0
  simpa [and_assoc] using h0
theorem land_tab : ((List.range 64).all fun s => (List.range 64).all fun a => andI (a : Int) (s : Int) == ((a &&& s : Nat) : Int)) = true := by kernel_rfl
theorem land_eq {s a : Nat} (hs : s < 64) (ha : a < 64) : andI (a : Int) (s : Int) = ((a &&& s : Nat) : Int) := by
  have h0 := List.all_eq_true.1 land_tab s (List.mem_range.2 hs)
  have h0 := List.all_eq_true.1 h0 a (List.mem_range.2 ha)
  exact eq_of_beq h0
theorem sub_I {s a : Int} (hs : 0 ≤ s ∧ s ≤ 63) (ha : 0 ≤ a ∧ a ≤ 63) : (andI a s == a) = subN a.toNat s.toNat := by
  have h := land_eq (s := s.toNat) (a := a.toNat) (by omega) (by omega)
  rw [show ((s.toNat : Nat) : Int) = s by omega, show ((a.toNat : Nat) : Int) = a by omega] at h
  unfold subN
  rw [h, Bool.eq_iff_iff, beq_iff_eq, beq_iff_eq]
  omega
/-- The lowest witness. -/
def lowN (s : Nat) : Nat := (andI (s : Int) (IntKind.i64.wrap (0 - (s : Int)))).toNat
theorem low_tab : ((List.range 64).all fun s => s == 0 || (subN (lowN s) s && decide (1 ≤ lowN s) && (andI (s : Int) (IntKind.i64.wrap (0 - (s : Int))) == (lowN s : Int)) && (!singF (s : Int) || (lowN s == s && popF (s : Int) == 1)))) = true := by kernel_rfl
theorem low_ok {s : Nat} (h0 : 1 ≤ s) (hs : s < 64) : subN (lowN s) s = true ∧ 1 ≤ lowN s ∧ andI (s : Int) (IntKind.i64.wrap (0 - (s : Int))) = (lowN s : Int) ∧ (singF (s : Int) = true → lowN s = s ∧ popF (s : Int) = 1) := by
  have h := List.all_eq_true.1 low_tab s (List.mem_range.2 hs)
  have hne : (s == 0) = false := by simp; omega
  rw [hne, Bool.false_or] at h
  simp only [Bool.and_eq_true, Bool.or_eq_true, decide_eq_true_eq, beq_iff_eq, Bool.not_eq_true'] at h
  refine ⟨h.1.1.1, h.1.1.2, h.1.2, fun e => ?_⟩
  rcases h.2 with h | h
  · rw [e] at h; cases h
  · exact h
theorem all_tab : ((List.range 7).all fun n => n == 0 || ((List.range 64).all fun s => !decide ((s : Int) ≤ allS (n : Int)) || subN s (allS (n : Int)).toNat) && (popF (allS (n : Int)) == n)) = true := by kernel_rfl
theorem all_sub {n : Nat} (h1 : 1 ≤ n) (h6 : n ≤ 6) : (∀ s : Nat, s < 64 → (s : Int) ≤ allS (n : Int) → subN s (allS (n : Int)).toNat = true) ∧ popF (allS (n : Int)) = n := by
  have h := List.all_eq_true.1 all_tab n (List.mem_range.2 (by omega))
  have hne : (n == 0) = false := by simp; omega
  rw [hne, Bool.false_or, Bool.and_eq_true] at h
  refine ⟨fun s hs hle => ?_, eq_of_beq h.2⟩
  have := List.all_eq_true.1 h.1 s (List.mem_range.2 hs)
  simpa [hle] using this
/-! ### Counting -/
def wN (p : Int → Bool) (cl : List Int) : Nat := (cl.map fun c => if p c then 1 else 0).sum
def inS (s : Int) (c : Int) : Bool := subN c.toNat s.toNat
theorem sum_le {f g : Int → Nat} : ∀ {cl : List Int}, (∀ c ∈ cl, f c ≤ g c) → (cl.map f).sum ≤ (cl.map g).sum
  | [], _ => Nat.le_refl _
  | c :: cl, h => by
    have h1 := h c (List.mem_cons_self ..)
    have h2 := sum_le (f := f) (g := g) (cl := cl) fun x hx => h x (List.mem_cons_of_mem _ hx)
    simp only [List.map_cons, List.sum_cons]; omega
theorem sum_eq {f g : Int → Nat} : ∀ {cl : List Int}, (∀ c ∈ cl, f c ≤ g c) → (cl.map g).sum ≤ (cl.map f).sum → ∀ c ∈ cl, f c = g c
  | [], _, _ => fun c hc => by cases hc
  | x :: cl, h, hs => by
    have h1 := h x (List.mem_cons_self ..)
    have h2 := sum_le (f := f) (g := g) (cl := cl) fun x hx => h x (List.mem_cons_of_mem _ hx)
    simp only [List.map_cons, List.sum_cons] at hs
    intro c hc
    rcases List.mem_cons.1 hc with rfl | hc
    · omega
    · exact sum_eq (f := f) (g := g) (cl := cl) (fun x hx => h x (List.mem_cons_of_mem _ hx)) (by omega) c hc
theorem sum_add {f g : Int → Nat} (cl : List Int) : (cl.map fun c => f c + g c).sum = (cl.map f).sum + (cl.map g).sum := by
  induction cl with
  | nil => rfl
  | cons c cl ih => simp only [List.map_cons, List.sum_cons, ih]; omega
theorem one_le {s : Int} {cl : List Int} (h : s ∈ cl) : 1 ≤ (cl.map fun c => if c = s then 1 else 0).sum := by
  induction cl with
  | nil => cases h
  | cons c cl ih =>
    simp only [List.map_cons, List.sum_cons]
    rcases List.mem_cons.1 h with rfl | h
    · rw [if_pos rfl]; omega
    · have := ih h; omega
section
variable {n : Nat} {cl : List Int} (hc : chkN n cl = 0)
include hc
theorem ok_le {s : Int} (h : OkS n cl s) : 1 ≤ s ∧ s ≤ 63 := ⟨h.1, Int.le_trans h.2.1 (all_in (n := (n : Int)) ⟨(chkN_ok hc).1, (chkN_ok hc).2.1⟩).2⟩
theorem ok_of {s : Int} (h : s ∈ cl) : OkS n cl s := by
  obtain ⟨h1, h6, hlen, hin⟩ := chkN_ok hc
  have h63 := hin s h
  refine ⟨h63.1, ?_, by unfold hasS; rw [Bool.or_eq_true]; left; rw [List.any_eq_true]; exact ⟨s, h, by simp⟩⟩
  obtain ⟨k, hk⟩ := List.getElem?_of_mem h
  have h4 : (List.range cl.length).all (cladeP (allS n) cl) = true := by
    have h := hc
    unfold chkN at h
    repeat (split at h; · cases h)
    rename_i h3 _ _
    simpa using h3
  exact (clade_le h4 hk).2
/-- What is known of a first part. -/
theorem first_part {s : Int} (h : OkS n cl s) (h1 : singF s = false) : s ∈ cl ∧ OkS n cl (splitF cl s) ∧ OkS n cl (s - splitF cl s) ∧ 1 ≤ splitF cl s ∧ splitF cl s < s ∧ subN (splitF cl s).toNat s.toNat = true ∧ lowS (splitF cl s) s = true := by
  have hle := ok_le hc h
  have hin : s ∈ cl := by
    have h4 := h.2.2
    unfold hasS at h4
    rw [h1, Bool.or_false, List.any_eq_true] at h4
    obtain ⟨c, hc2, e⟩ := h4
    have : c = s := by simpa using e
    exact this ▸ hc2
  have hz : (andI s (IntKind.i64.wrap (s - 1)) == 0) = false := by
    unfold singF at h1
    rw [decide_eq_true (show s > 0 by omega), Bool.true_and] at h1
    exact h1
  obtain ⟨o1, o2, o3, o4⟩ := ok_parts hc h hz
  obtain ⟨a1, a2, a3⟩ := split_spec (chkN_split hc s hin) (Nat.le_refl 1)
  have a3 : splitP cl s (splitF cl s) = true := a3
  unfold splitP at a3
  simp only [Bool.and_eq_true] at a3
  refine ⟨hin, o1, o2, o3, o4, ?_, a3.1.1.2⟩
  rw [← sub_I (by omega) (by omega)]
  exact a3.1.1.1
theorem cnt_low : ∀ (m : Nat) (s : Int), s.toNat ≤ m → OkS n cl s → popF s ≤ wN (inS s) cl + 1
  | 0, s, hm, h => by have := h.1; omega
  | m + 1, s, hm, h => by
    have hle := ok_le hc h
    cases h1 : singF s with
    | true =>
      have := (low_ok (s := s.toNat) (by omega) (by omega)).2.2.2
      rw [show ((s.toNat : Nat) : Int) = s by omega] at this
      have := (this h1).2
      omega
    | false =>
      obtain ⟨hin, o1, o2, o3, o4, o5, _⟩ := first_part hc h h1
      have i1 := cnt_low m _ (by omega) o1
      have i2 := cnt_low m _ (by omega) o2
      obtain ⟨q1, q2, q3⟩ := pair_ok (by omega) (by omega) o5
      rw [show (((splitF cl s).toNat : Nat) : Int) = splitF cl s by omega, show ((s.toNat - (splitF cl s).toNat : Nat) : Int) = s - splitF cl s by omega, show ((s.toNat : Nat) : Int) = s by omega] at q3
      have hone := one_le hin
      have hpt : ∀ c ∈ cl, ((if c = s then 1 else 0) + ((if inS (splitF cl s) c then 1 else 0) + (if inS (s - splitF cl s) c then 1 else 0)) : Nat) ≤ if inS s c then 1 else 0 := fun c hcm => by
        have hcle := (chkN_ok hc).2.2.2 c hcm
        unfold inS
        by_cases e : c = s
        · subst e
          rw [if_pos rfl, if_pos (sub_refl _), if_neg, if_neg]
          · omega
          · intro g; have := sub_le g; omega
          · intro g; have := sub_le g; omega
        · rw [if_neg e]
          by_cases g1 : subN c.toNat (splitF cl s).toNat = true
          · rw [if_pos g1, if_pos (sub_trans g1 o5), if_neg]
            · omega
            · intro g2
              have g2 : subN c.toNat (s.toNat - (splitF cl s).toNat) = true := by rw [← show (s - splitF cl s).toNat = s.toNat - (splitF cl s).toNat by omega]; exact g2
              have := sub_both g1 g2 q1
              omega
          · rw [if_neg g1]
            by_cases g2 : subN c.toNat (s - splitF cl s).toNat = true
            · rw [if_pos g2, if_pos (sub_trans (by rw [show s.toNat - (splitF cl s).toNat = (s - splitF cl s).toNat by omega] at q2; exact g2) (by rw [show (s - splitF cl s).toNat = s.toNat - (splitF cl s).toNat by omega]; exact q2))]
              omega
            · rw [if_neg g2]; omega
      have hs := sum_le hpt
      rw [sum_add, sum_add] at hs
      unfold wN at *
      omega
/-- As many clades within it as can be. -/
def Full (n : Nat) (cl : List Int) (s : Int) : Prop := OkS n cl s ∧ wN (inS s) cl + 1 = popF s
theorem full_all : Full n cl (allS n) := by
  obtain ⟨h1, h6, hlen, hin⟩ := chkN_ok hc
  obtain ⟨g1, g2⟩ := all_sub (n := n) (by omega) (by omega)
  refine ⟨ok_all hc, ?_⟩
  have : wN (inS (allS n)) cl = cl.length := by
    unfold wN
    have : ∀ l : List Int, (∀ c ∈ l, c ∈ cl) → (l.map fun c => if inS (allS n) c then 1 else 0).sum = l.length := by
      intro l
      induction l with
      | nil => intro _; rfl
      | cons c l ih =>
        intro hl
        have hcm := hl c (List.mem_cons_self ..)
        have hle := hin c hcm
        have := (ok_of hc hcm).2.1
        simp only [List.map_cons, List.sum_cons, List.length_cons, ih fun x hx => hl x (List.mem_cons_of_mem _ hx)]
        have hs : inS (allS n) c = true := g1 c.toNat (by omega) (by omega)
        rw [if_pos hs]; omega
    exact this cl fun _ h => h
  omega
theorem full_part {s : Int} (h : Full n cl s) (h1 : singF s = false) : Full n cl (splitF cl s) ∧ Full n cl (s - splitF cl s) ∧ ∀ c ∈ cl, inS s c = true → c = s ∨ inS (splitF cl s) c = true ∨ inS (s - splitF cl s) c = true := by
  have hle := ok_le hc h.1
  obtain ⟨hin, o1, o2, o3, o4, o5, _⟩ := first_part hc h.1 h1
  obtain ⟨q1, q2, q3⟩ := pair_ok (by omega) (by omega) o5
  rw [show (((splitF cl s).toNat : Nat) : Int) = splitF cl s by omega, show ((s.toNat - (splitF cl s).toNat : Nat) : Int) = s - splitF cl s by omega, show ((s.toNat : Nat) : Int) = s by omega] at q3
  have hone := one_le hin
  have i1 := cnt_low hc _ _ (Nat.le_refl _) o1
  have i2 := cnt_low hc _ _ (Nat.le_refl _) o2
  have hpt : ∀ c ∈ cl, ((if c = s then 1 else 0) + ((if inS (splitF cl s) c then 1 else 0) + (if inS (s - splitF cl s) c then 1 else 0)) : Nat) ≤ if inS s c then 1 else 0 := fun c hcm => by
    have hcle := (chkN_ok hc).2.2.2 c hcm
    unfold inS
    by_cases e : c = s
    · subst e
      rw [if_pos rfl, if_pos (sub_refl _), if_neg, if_neg]
      · omega
      · intro g; have := sub_le g; omega
      · intro g; have := sub_le g; omega
    · rw [if_neg e]
      by_cases g1 : subN c.toNat (splitF cl s).toNat = true
      · rw [if_pos g1, if_pos (sub_trans g1 o5), if_neg]
        · omega
        · intro g2
          have g2 : subN c.toNat (s.toNat - (splitF cl s).toNat) = true := by rw [← show (s - splitF cl s).toNat = s.toNat - (splitF cl s).toNat by omega]; exact g2
          have := sub_both g1 g2 q1
          omega
      · rw [if_neg g1]
        by_cases g2 : subN c.toNat (s - splitF cl s).toNat = true
        · rw [if_pos g2, if_pos (sub_trans (by rw [show s.toNat - (splitF cl s).toNat = (s - splitF cl s).toNat by omega] at q2; exact g2) (by rw [show (s - splitF cl s).toNat = s.toNat - (splitF cl s).toNat by omega]; exact q2))]
          omega
        · rw [if_neg g2]; omega
  have hs := sum_le hpt
  rw [sum_add, sum_add] at hs
  have hf := h.2
  refine ⟨⟨o1, ?_⟩, ⟨o2, ?_⟩, fun c hcm hsc => ?_⟩
  · unfold wN at *; omega
  · unfold wN at *; omega
  · have he := sum_eq hpt (by rw [sum_add, sum_add]; unfold wN at *; omega) c hcm
    by_cases e : c = s
    · exact .inl e
    · rw [if_neg e, if_pos hsc] at he
      by_cases g1 : inS (splitF cl s) c = true
      · exact .inr (.inl g1)
      · rw [if_neg g1] at he
        by_cases g2 : inS (s - splitF cl s) c = true
        · exact .inr (.inr g2)
        · rw [if_neg g2] at he; omega
theorem full_in : ∀ (m : Nat) (s : Int), s.toNat ≤ m → Full n cl s → ∀ c ∈ cl, inS s c = true → Full n cl c
  | 0, s, hm, h => by have := h.1.1; omega
  | m + 1, s, hm, h => fun c hcm hsc => by
    have hle := ok_le hc h.1
    have hcle := (chkN_ok hc).2.2.2 c hcm
    by_cases e : c = s
    · exact e ▸ h
    · cases h1 : singF s with
      | true =>
        have := (low_ok (s := s.toNat) (by omega) (by omega)).2.2.2
        rw [show ((s.toNat : Nat) : Int) = s by omega] at this
        have hp := (this h1).2
        have hf := h.2
        have hz : ∀ l : List Int, c ∈ l → 1 ≤ wN (inS s) l := by
          intro l
          induction l with
          | nil => intro h; cases h
          | cons x l ih =>
            intro hx
            unfold wN at *
            simp only [List.map_cons, List.sum_cons]
            rcases List.mem_cons.1 hx with rfl | hx
            · rw [if_pos hsc]; omega
            · have := ih hx; omega
        have := hz cl hcm
        omega
      | false =>
        obtain ⟨f1, f2, f3⟩ := full_part hc h h1
        obtain ⟨_, o1, o2, o3, o4, _, _⟩ := first_part hc h.1 h1
        rcases f3 c hcm hsc with e' | g | g
        · exact absurd e' e
        · exact full_in m _ (by omega) f1 c hcm g
        · exact full_in m _ (by omega) f2 c hcm g
theorem full_of {c : Int} (h : c ∈ cl) : Full n cl c := by
  obtain ⟨h1, h6, hlen, hin⟩ := chkN_ok hc
  have hle := hin c h
  exact full_in hc _ _ (Nat.le_refl _) (full_all hc) c h ((all_sub (n := n) (by omega) (by omega)).1 c.toNat (by omega) (by have := (ok_of hc h).2.1; omega))
theorem split_uniq {s a : Int} (hs : s ∈ cl) (h1 : singF s = false) (ha : 1 ≤ a ∧ a < s) (h : splitP cl s a = true) : a = splitF cl s := by
  have hle := (chkN_ok hc).2.2.2 s hs
  obtain ⟨_, _, f3⟩ := full_part hc (full_of hc hs) h1
  obtain ⟨_, o1, o2, o3, o4, o5, o6⟩ := first_part hc (ok_of hc hs) h1
  obtain ⟨q1, q2, q3⟩ := pair_ok (by omega) (by omega) o5
  generalize splitF cl s = b at *
  unfold splitP at h
  simp only [Bool.and_eq_true] at h
  obtain ⟨⟨⟨k1, k2⟩, k3⟩, k4⟩ := h
  rw [sub_I (by omega) (by omega)] at k1
  obtain ⟨p1, p2, p3⟩ := pair_ok (by omega) (by omega) k1
  have la := low_ok (s := a.toNat) (by omega) (by omega)
  have lb := low_ok (s := b.toNat) (by omega) (by omega)
  have ls := low_ok (s := s.toNat) (by omega) (by omega)
  rw [show ((a.toNat : Nat) : Int) = a by omega] at la
  rw [show ((b.toNat : Nat) : Int) = b by omega] at lb
  rw [show ((s.toNat : Nat) : Int) = s by omega] at ls
  unfold lowS at k2 o6
  rw [beq_iff_eq, la.2.2.1, ls.2.2.1] at k2
  rw [beq_iff_eq, lb.2.2.1, ls.2.2.1] at o6
  have eab : lowN a.toNat = lowN b.toNat := by omega
  have esb : (s - b).toNat = s.toNat - b.toNat := by omega
  have esa : (s - a).toNat = s.toNat - a.toNat := by omega
  -- a lies within b
  have hab : subN a.toNat b.toNat = true := by
    cases hsa : singF a with
    | true =>
      have := (la.2.2.2 hsa).1
      rw [← this, eab]; exact lb.1
    | false =>
      unfold hasS at k3
      rw [hsa, Bool.or_false, List.any_eq_true] at k3
      obtain ⟨c, hcm, e⟩ := k3
      have : c = a := by simpa using e
      subst this
      rcases f3 c hcm k1 with e | g | g
      · omega
      · exact g
      · exfalso
        have g : subN c.toNat (s.toNat - b.toNat) = true := by rw [← esb]; exact g
        have := sub_both (sub_trans (eab ▸ la.1 : subN (lowN b.toNat) c.toNat = true) g) lb.1 (by rw [Nat.and_comm]; exact q1)
        have := la.2.1
        omega
  have hle2 := sub_le hab
  -- what is left of b lies within what is left of a
  have hbb : subN (s.toNat - b.toNat) (s.toNat - a.toNat) = true := by
    by_cases e : (s.toNat - b.toNat) < 64 ∧ (s.toNat - a.toNat) < 64
    · have : ∀ x y z : Nat, x < 64 → y < 64 → z < 64 → subN x z = true → subN y z = true → subN x y = true → subN (z - y) (z - x) = true := by
        intro x y z _ _ hz hx hy hxy
        have e1 : ∀ u v : Nat, v < 64 → subN u v = true → v - u = v ^^^ u := by
          intro u v hv hu
          have hu64 : u < 64 := Nat.lt_of_le_of_lt (sub_le hu) hv
          have ht : ((List.range 64).all fun v => (List.range 64).all fun u => !subN u v || (v - u == v ^^^ u)) = true := by kernel_rfl
          have h0 := List.all_eq_true.1 ht v (List.mem_range.2 hv)
          have h0 := List.all_eq_true.1 h0 u (List.mem_range.2 hu64)
          rw [hu] at h0
          simpa using h0
        rw [e1 _ _ hz hy, e1 _ _ hz hx]
        unfold subN at *
        rw [beq_iff_eq] at *
        apply Nat.eq_of_testBit_eq
        intro i
        have t1 := congrArg (fun q => Nat.testBit q i) hx
        have t2 := congrArg (fun q => Nat.testBit q i) hy
        have t3 := congrArg (fun q => Nat.testBit q i) hxy
        simp only [Nat.testBit_and, Nat.testBit_xor] at *
        revert t1 t2 t3
        cases x.testBit i <;> cases y.testBit i <;> cases z.testBit i <;> simp
      exact this a.toNat b.toNat s.toNat (by omega) (by omega) (by omega) k1 o5 hab
    · omega
  have hpos : 1 ≤ s.toNat - b.toNat := by omega
  have hba : subN (s.toNat - a.toNat) (s.toNat - b.toNat) = true := by
    cases hsa : singF (s - a) with
    | true =>
      have l1 := low_ok (s := s.toNat - a.toNat) (by omega) (by omega)
      have l2 := low_ok (s := s.toNat - b.toNat) (by omega) (by omega)
      rw [show ((s.toNat - a.toNat : Nat) : Int) = s - a by omega] at l1
      have l3 := (l1.2.2.2 hsa).2
      -- one witness: what lies within it is it
      have ht : ((List.range 64).all fun v => (List.range 64).all fun u => !subN u v || u == 0 || !(popF (v : Int) == 1) || (v == u)) = true := by kernel_rfl
      have h0 := List.all_eq_true.1 ht (s.toNat - a.toNat) (List.mem_range.2 (by omega))
      have h0 := List.all_eq_true.1 h0 (s.toNat - b.toNat) (List.mem_range.2 (by omega))
      rw [hbb, show ((s.toNat - a.toNat : Nat) : Int) = s - a by omega, l3, show ((s.toNat - b.toNat) == 0) = false by simp; omega] at h0
      have h0 : s.toNat - a.toNat = s.toNat - b.toNat := by simpa using h0
      rw [h0]; exact sub_refl _
    | false =>
      unfold hasS at k4
      rw [hsa, Bool.or_false, List.any_eq_true] at k4
      obtain ⟨c, hcm, e⟩ := k4
      have : c = s - a := by simpa using e
      subst this
      rcases f3 _ hcm (by unfold inS; rw [esa]; exact p2) with e | g | g
      · omega
      · exfalso
        unfold inS at g
        rw [esa] at g
        have := sub_both (sub_trans hbb g) (sub_refl (s.toNat - b.toNat)) q1
        omega
      · unfold inS at g
        rw [esa, esb] at g; exact g
  have := sub_anti hbb hba
  omega
omit hc in
theorem mem_subT {s a : Int} (h0 : 0 ≤ s) : a ∈ subT s.toNat → (1 ≤ a ∧ a < s) ∧ andI a s = a := fun h => by
  unfold subT at h
  obtain ⟨h1, h2⟩ := List.mem_filter.1 h
  obtain ⟨k, hk, rfl⟩ := List.mem_map.1 h1
  have := List.mem_range'_1.1 hk
  rw [show ((s.toNat : Nat) : Int) = s by omega] at h2
  exact ⟨by omega, eq_of_beq h2⟩
theorem parts_eq {s : Int} (hs : s ∈ cl) (h1 : singF s = false) : partA cl s = splitF cl s ∧ partB cl s = s - splitF cl s ∧ (partF cl s).isSome = true := by
  have hle := (chkN_ok hc).2.2.2 s hs
  have hne := chkN_split hc s hs
  have hsome := part_some (cl := cl) hle
  have hsm : (partF cl s).isSome = true := by rw [hsome]; simpa using hne
  obtain ⟨a, hpa⟩ := Option.isSome_iff_exists.1 hsm
  have htab := List.all_eq_true.1 sub_tab s.toNat (List.mem_range.2 (by omega))
  rw [Bool.and_eq_true, decide_eq_true_eq, show ((s.toNat : Nat) : Int) = s by omega] at htab
  have hf := hpa
  unfold partF at hf
  rw [partR_find, htab.1] at hf
  have hp := List.find?_some hf
  have hm := List.mem_reverse.1 (List.mem_of_find?_eq_some hf)
  obtain ⟨hr, ha⟩ := mem_subT (s := s) (by omega) hm
  have hl : lessI s a = s - a := by simpa using List.all_eq_true.1 htab.2 a hm
  rw [part_eq ha hl] at hp
  have := split_uniq hc hs h1 hr hp
  unfold partA partB
  rw [hpa]
  exact ⟨this, by rw [← this]; exact hl, rfl⟩
end
end Go.Proofs.YtkpmnnflikkhmaaDoor
end
