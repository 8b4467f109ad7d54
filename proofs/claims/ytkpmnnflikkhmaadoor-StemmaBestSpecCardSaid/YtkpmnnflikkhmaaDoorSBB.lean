/- stemmaBestSpec_holds, part B of the proof: what its theorems say holds without further conditions. -/
import Derived.Test.YtkpmnnflikkhmaaDoorSBA
section
namespace Go.Proofs.YtkpmnnflikkhmaaDoor
open Go Go.Kn Go.Proofs
theorem w_rcheck {I : HMap} {av : Option Addr} {n c : Nat} {xs : List Int} (hS : Sl I 1 encI av n c xs) (m : Int) : RetV Tryd.prog 14 [.int .i64 m, .slice av n c] I (.int .i64 (chkN m xs)) := by
  intro g H w hw
  refine enter Tryd.func14 rfl Tryd.ntmps14 rfl hw ?_
  refine X_seq ?_
  refine X_region ?_
  refine XO_v0 (ev_assign rfl) rfl rfl rfl ?_
  refine XO_nil ?_
  refine at_then ?_
  refine X_seq ?_
  refine X_seq ?_
  refine X_region ?_
  refine XO_v0 (ev_move rfl) rfl rfl rfl ?_
  refine XO_v0 (ev_cmp rfl rfl rfl) rfl rfl rfl ?_
  refine XO_nil ?_
  refine at_then ?_
  refine X_cond rfl (fun hc9 => ?_) (fun hc9 => ?_)
  · skip
    have h6 : m > 6 := by simpa using hc9
    refine X_seq ?_
    refine X_region ?_
    refine XO_v0 (ev_assign rfl) rfl rfl rfl ?_
    refine XO_nil ?_
    refine at_then ?_
    refine X_ret ?_
    refine at_then_r ?_
    first
    | exact at_ret1 rfl rfl (fun w hw => ⟨by rw [chkN_1 h6], hw.drop⟩)
    | exact at_ret1 rfl rfl (fun w hw => ⟨by rw [chkN_2 h6 h18], hw.drop⟩)
    | exact at_ret1 rfl rfl (fun w hw => ⟨by rw [chkN_3 h6 h18 (by rw [hS.len]; exact range_bad hlt_k (by have := getD_of (d := 0) hx; unfold cladeP allS; rw [this, hc56]; rfl))], hw.drop⟩)
    | exact at_ret1 rfl rfl (fun w hw => ⟨by rw [chkN_4 h6 h18 hall0 h67], hw.drop⟩)
    | exact at_ret1 rfl rfl (fun w hw => ⟨by rw [chkN_5 h6 h18 hall0 h67, any_yes hx hc80]; rfl, hw.drop⟩)
    | exact at_ret1 rfl rfl (fun w hw => ⟨by rw [chkN_5 h6 h18 hall0 h67, hno]; rfl, hw.drop⟩)
  · skip
    have h6 : ¬ m > 6 := by simpa using hc9
    refine X_skip ?_
    refine at_then ?_
    refine X_seq ?_
    refine X_seq ?_
    refine X_region ?_
    refine XO_v0 (ev_move rfl) rfl rfl rfl ?_
    refine XO_v0 (ev_cmp rfl rfl rfl) rfl rfl rfl ?_
    refine XO_v0 (ev_move rfl) rfl rfl rfl ?_
    refine XO_pushF 2 rfl rfl rfl ?_
    refine XO_v1 (ev_move rfl) (.some rfl rfl rfl rfl gbf) rfl rfl rfl ?_
    refine XO_v1 (ev_lenS rfl slt_22) (.some rfl rfl rfl rfl gbf) rfl rfl rfl ?_
    refine XO_v1 (ev_move rfl) (.some rfl rfl rfl rfl gbf) rfl rfl rfl ?_
    refine XO_v1 (ev_arB rfl rfl rfl (fun hg => by first | omega | (simp [conj] at hg; omega))) (.some rfl rfl rfl rfl gbf) rfl rfl rfl ?_
    refine XO_v1 (ev_cmp rfl rfl rfl) (.some rfl rfl rfl rfl gbf) rfl rfl rfl ?_
    refine XO_or0 rfl rfl rfl rfl rfl ?_
    refine XO_nil ?_
    refine at_then ?_
    refine X_cond rfl (fun hc18 => ?_) (fun hc18 => ?_)
    · skip
      have h18 : (decide (m < 1) || decide ((xs.length : Int) ≠ m - 1)) = true := by rw [hS.len]; simpa using hc18
      refine X_seq ?_
      refine X_region ?_
      refine XO_v0 (ev_assign rfl) rfl rfl rfl ?_
      refine XO_nil ?_
      refine at_then ?_
      refine X_ret ?_
      refine at_then_r ?_
      first
      | exact at_ret1 rfl rfl (fun w hw => ⟨by rw [chkN_1 h6], hw.drop⟩)
      | exact at_ret1 rfl rfl (fun w hw => ⟨by rw [chkN_2 h6 h18], hw.drop⟩)
      | exact at_ret1 rfl rfl (fun w hw => ⟨by rw [chkN_3 h6 h18 (by rw [hS.len]; exact range_bad hlt_k (by have := getD_of (d := 0) hx; unfold cladeP allS; rw [this, hc56]; rfl))], hw.drop⟩)
      | exact at_ret1 rfl rfl (fun w hw => ⟨by rw [chkN_4 h6 h18 hall0 h67], hw.drop⟩)
      | exact at_ret1 rfl rfl (fun w hw => ⟨by rw [chkN_5 h6 h18 hall0 h67, any_yes hx hc80]; rfl, hw.drop⟩)
      | exact at_ret1 rfl rfl (fun w hw => ⟨by rw [chkN_5 h6 h18 hall0 h67, hno]; rfl, hw.drop⟩)
    · skip
      have h18 : (decide (m < 1) || decide ((xs.length : Int) ≠ m - 1)) = false := by rw [hS.len]; simpa using hc18
      have hm : 1 ≤ m ∧ m ≤ 6 ∧ (n : Int) = m - 1 := by rw [hS.len] at h18; simp at h18; omega
      have hn : n ≤ 100000 := by omega
      have hsh := shl_in ⟨hm.1, hm.2.1⟩
      have hal := all_in ⟨hm.1, hm.2.1⟩
      refine X_skip ?_
      refine at_then ?_
      refine X_seq ?_
      refine X_region ?_
      refine XO_v0 (ev_move rfl) rfl rfl rfl ?_
      refine XO_v0 (ev_shl rfl rfl (fun hg => by first | decide | omega | (simp [conj] at hg; omega))) rfl rfl rfl ?_
      refine XO_v0 (ev_arB rfl rfl rfl (fun hg => by first | omega | (simp [conj] at hg; omega))) rfl rfl rfl ?_
      refine XO_v0 (ev_assign rfl) rfl rfl rfl ?_
      refine XO_nil ?_
      refine at_then ?_
      refine X_seq ?_
      refine X_seq ?_
      refine X_region ?_
      refine XO_v0 (ev_assign rfl) rfl rfl rfl ?_
      refine XO_nil ?_
      refine at_then ?_
      refine X_block ?_
      refine X_loopT [(0, _), (1, _), (5, _)] (.cons rfl (.cons rfl (.cons rfl .nil))) (fun T L0 mz E I' loc' => ∃ (k : Nat), mz = n - k ∧ E = (6, .int .i64 k) :: T ∧ I = I' ∧ L0 = loc' ∧ k ≤ n ∧ (List.range k).all (cladeP (allS m) xs) = true) _ _ _ _ ⟨0, rfl, rfl, rfl, rfl, Nat.zero_le _, rfl⟩ (.cons rfl (.cons rfl (.cons rfl (.cons rfl .nil)))) (HLe.refl _) rfl ?_
      rintro mz E I' loc' ⟨k, rfl, rfl, rfl, rfl, hk, hall⟩
      refine X_seq ?_
      refine X_seq ?_
      refine X_region ?_
      refine XO_v0 (ev_move rfl) rfl rfl rfl ?_
      refine XO_v0 (ev_move rfl) rfl rfl rfl ?_
      refine XO_v0 (ev_lenS rfl slt_22) rfl rfl rfl ?_
      refine XO_v0 (ev_cmp rfl rfl rfl) rfl rfl rfl ?_
      refine XO_nil ?_
      refine at_then ?_
      refine X_cond rfl (fun hc25 => ?_) (fun hc25 => ?_)
      · skip
        have hlt_k : k < n := by have h := hc25; simp at h; omega
        obtain ⟨x, hx⟩ := hS.at hlt_k
        refine X_skip ?_
        refine at_then ?_
        refine X_seq ?_
        refine X_block ?_
        refine X_seq ?_
        refine X_draw mixed (by kernel_rfl) ?_
        refine XQ_v0 (ev_move rfl) rfl rfl rfl ?_
        refine XQ_v0 (ev_move rfl) rfl rfl rfl ?_
        refine XQ_v0 (ev_indexSl rfl rfl slt_22 (by assumption) (fun hg => by first | omega | (simp [conj] at hg; omega))) rfl rfl rfl ?_
        refine XQ_v0 (ev_load rfl sct_3 (fun hg => by first | exact Sl.get0 hS hx rfl | exact Sl.getD0 (k := ((k : Int) - 1).toNat) (d := 0) hS (by simp [conj] at hg; omega) rfl | exact Sl.getD0 (k := (m - 2).toNat) (d := 0) hS (by simp [conj] at hg; omega) rfl | exact Cell.h0 rfl | exact Cell.h1 rfl | exact Cell.h2 rfl | exact Cell.h3 rfl | exact Cell.h4 rfl | exact Cell.h5 rfl | (repeat (first | exact Cell.here rfl | apply Cell.there | apply Cell.app)))) rfl rfl rfl ?_
        refine XQ_v0 (ev_cmp rfl rfl rfl) rfl rfl rfl ?_
        refine XQ_v0 (ev_move rfl) rfl rfl rfl ?_
        refine XQ_pushF 5 rfl rfl rfl ?_
        refine XQ_v1 (ev_move rfl) (.some rfl rfl rfl rfl gbf) rfl rfl rfl ?_
        refine XQ_v1 (ev_move rfl) (.some rfl rfl rfl rfl gbf) rfl rfl rfl ?_
        refine XQ_v1 (ev_indexSl rfl rfl slt_22 (by assumption) (fun hg => by first | omega | (simp [conj] at hg; omega))) (.some rfl rfl rfl rfl gbf) rfl rfl rfl ?_
        refine XQ_v1 (ev_load rfl sct_3 (fun hg => by first | exact Sl.get0 hS hx rfl | exact Sl.getD0 (k := ((k : Int) - 1).toNat) (d := 0) hS (by simp [conj] at hg; omega) rfl | exact Sl.getD0 (k := (m - 2).toNat) (d := 0) hS (by simp [conj] at hg; omega) rfl | exact Cell.h0 rfl | exact Cell.h1 rfl | exact Cell.h2 rfl | exact Cell.h3 rfl | exact Cell.h4 rfl | exact Cell.h5 rfl | (repeat (first | exact Cell.here rfl | apply Cell.there | apply Cell.app)))) (.some rfl rfl rfl rfl gbf) rfl rfl rfl ?_
        refine XQ_v1 (ev_move rfl) (.some rfl rfl rfl rfl gbf) rfl rfl rfl ?_
        refine XQ_v1 (ev_cmp rfl rfl rfl) (.some rfl rfl rfl rfl gbf) rfl rfl rfl ?_
        refine XQ_or0 rfl rfl rfl rfl rfl ?_
        refine XQ_v0 (ev_move rfl) rfl rfl rfl ?_
        refine XQ_pushF 13 rfl rfl rfl ?_
        refine XQ_v1 (ev_move rfl) (.some rfl rfl rfl rfl gbf) rfl rfl rfl ?_
        refine XQ_v1 (ev_cmp rfl rfl rfl) (.some rfl rfl rfl rfl gbf) rfl rfl rfl ?_
        refine XQ_v1 (ev_move rfl) (.some rfl rfl rfl rfl gbf) rfl rfl rfl ?_
        refine XQ_pushT 16 rfl rfl rfl ?_
        refine XQ_v1 (ev_move rfl) (.some rfl rfl rfl rfl gbt) rfl rfl rfl ?_
        refine XQ_v1 (ev_move rfl) (.some rfl rfl rfl rfl gbt) rfl rfl rfl ?_
        refine XQ_v1 (ev_indexSl rfl rfl slt_22 (by assumption) (fun hg => by first | omega | (simp [conj] at hg; omega))) (.some rfl rfl rfl rfl gbt) rfl rfl rfl ?_
        refine XQ_v1 (ev_load rfl sct_3 (fun hg => by first | exact Sl.get0 hS hx rfl | exact Sl.getD0 (k := ((k : Int) - 1).toNat) (d := 0) hS (by simp [conj] at hg; omega) rfl | exact Sl.getD0 (k := (m - 2).toNat) (d := 0) hS (by simp [conj] at hg; omega) rfl | exact Cell.h0 rfl | exact Cell.h1 rfl | exact Cell.h2 rfl | exact Cell.h3 rfl | exact Cell.h4 rfl | exact Cell.h5 rfl | (repeat (first | exact Cell.here rfl | apply Cell.there | apply Cell.app)))) (.some rfl rfl rfl rfl gbt) rfl rfl rfl ?_
        refine XQ_v1 (ev_move rfl) (.some rfl rfl rfl rfl gbt) rfl rfl rfl ?_
        refine XQ_v1 (ev_move rfl) (.some rfl rfl rfl rfl gbt) rfl rfl rfl ?_
        refine XQ_v1 (ev_arB rfl rfl rfl (fun hg => by first | omega | (simp [conj] at hg; omega))) (.some rfl rfl rfl rfl gbt) rfl rfl rfl ?_
        refine XQ_v1 (ev_indexSl rfl rfl slt_22 (by assumption) (fun hg => by first | omega | (simp [conj] at hg; omega))) (.some rfl rfl rfl rfl gbt) rfl rfl rfl ?_
        refine XQ_v1 (ev_load rfl sct_3 (fun hg => by first | exact Sl.get0 hS hx rfl | exact Sl.getD0 (k := ((k : Int) - 1).toNat) (d := 0) hS (by simp [conj] at hg; omega) rfl | exact Sl.getD0 (k := (m - 2).toNat) (d := 0) hS (by simp [conj] at hg; omega) rfl | exact Cell.h0 rfl | exact Cell.h1 rfl | exact Cell.h2 rfl | exact Cell.h3 rfl | exact Cell.h4 rfl | exact Cell.h5 rfl | (repeat (first | exact Cell.here rfl | apply Cell.there | apply Cell.app)))) (.some rfl rfl rfl rfl gbt) rfl rfl rfl ?_
        refine XQ_v1 (ev_cmp rfl rfl rfl) (.some rfl rfl rfl rfl gbt) rfl rfl rfl ?_
        refine XQ_and1 rfl rfl rfl (.some rfl rfl rfl rfl gbf) rfl rfl ?_
        refine XQ_or0 rfl rfl rfl rfl rfl ?_
        refine XQ_nil ?_
        refine at_then ?_
        refine X_cond rfl (fun hc56 => ?_) (fun hc56 => ?_)
        · skip
          refine X_seq ?_
          refine X_region ?_
          refine XO_v0 (ev_assign rfl) rfl rfl rfl ?_
          refine XO_nil ?_
          refine at_then ?_
          refine X_ret ?_
          refine at_block_r ?_
          refine at_then_r ?_
          refine at_then_r ?_
          refine at_block_r ?_
          refine at_then_r ?_
          first
          | exact at_ret1 rfl rfl (fun w hw => ⟨by rw [chkN_1 h6], hw.drop⟩)
          | exact at_ret1 rfl rfl (fun w hw => ⟨by rw [chkN_2 h6 h18], hw.drop⟩)
          | exact at_ret1 rfl rfl (fun w hw => ⟨by rw [chkN_3 h6 h18 (by rw [hS.len]; exact range_bad hlt_k (by have := getD_of (d := 0) hx; unfold cladeP allS; rw [this, hc56]; rfl))], hw.drop⟩)
          | exact at_ret1 rfl rfl (fun w hw => ⟨by rw [chkN_4 h6 h18 hall0 h67], hw.drop⟩)
          | exact at_ret1 rfl rfl (fun w hw => ⟨by rw [chkN_5 h6 h18 hall0 h67, any_yes hx hc80]; rfl, hw.drop⟩)
          | exact at_ret1 rfl rfl (fun w hw => ⟨by rw [chkN_5 h6 h18 hall0 h67, hno]; rfl, hw.drop⟩)
        · skip
          refine X_skip ?_
          refine at_block_n ?_
          refine at_then ?_
          refine X_region ?_
          refine XO_v0 (ev_move rfl) rfl rfl rfl ?_
          refine XO_v0 (ev_arB rfl rfl rfl (fun hg => by first | omega | (simp [conj] at hg; omega))) rfl rfl rfl ?_
          refine XO_v0 (ev_assign rfl) rfl rfl rfl ?_
          refine XO_nil ?_
          exact at_met2 _ _ ⟨n - (k + 1), by omega, k + 1, rfl, rfl, rfl, rfl, by omega, range_step hall (by have := getD_of (d := 0) hx; unfold cladeP allS; rw [this, hc56]; rfl)⟩ (.cons rfl (.cons rfl (.cons rfl (.cons rfl .nil)))) (by repeat (first | exact .refl | exact subL_left | refine subL_app ?_ | refine .drop ?_ | refine subL_add ?_))
      · skip
        have hge_k : n ≤ k := by have h := hc25; simp at h; omega
        have hall0 : (List.range xs.length).all (cladeP (allS m) xs) = true := by rw [hS.len, show n = k by omega]; exact hall
        refine X_exit ?_
        refine at_then_e ?_
        refine at_then_e ?_
        refine at_block_hit ?_
        refine at_then ?_
        refine X_seq ?_
        refine X_seq ?_
        refine X_region ?_
        refine XO_v0 (ev_move rfl) rfl rfl rfl ?_
        refine XO_v0 (ev_cmp rfl rfl rfl) rfl rfl rfl ?_
        refine XO_v0 (ev_move rfl) rfl rfl rfl ?_
        refine XO_pushT 2 rfl rfl rfl ?_
        refine XO_v1 (ev_move rfl) (.some rfl rfl rfl rfl gbt) rfl rfl rfl ?_
        refine XO_v1 (ev_move rfl) (.some rfl rfl rfl rfl gbt) rfl rfl rfl ?_
        refine XO_v1 (ev_arB rfl rfl rfl (fun hg => by first | omega | (simp [conj] at hg; omega))) (.some rfl rfl rfl rfl gbt) rfl rfl rfl ?_
        refine XO_v1 (ev_indexSl rfl rfl slt_22 (by assumption) (fun hg => by first | omega | (simp [conj] at hg; omega))) (.some rfl rfl rfl rfl gbt) rfl rfl rfl ?_
        refine XO_v1 (ev_load rfl sct_3 (fun hg => by first | exact Sl.get0 hS hx rfl | exact Sl.getD0 (k := ((k : Int) - 1).toNat) (d := 0) hS (by simp [conj] at hg; omega) rfl | exact Sl.getD0 (k := (m - 2).toNat) (d := 0) hS (by simp [conj] at hg; omega) rfl | exact Cell.h0 rfl | exact Cell.h1 rfl | exact Cell.h2 rfl | exact Cell.h3 rfl | exact Cell.h4 rfl | exact Cell.h5 rfl | (repeat (first | exact Cell.here rfl | apply Cell.there | apply Cell.app)))) (.some rfl rfl rfl rfl gbt) rfl rfl rfl ?_
        refine XO_v1 (ev_move rfl) (.some rfl rfl rfl rfl gbt) rfl rfl rfl ?_
        refine XO_v1 (ev_cmp rfl rfl rfl) (.some rfl rfl rfl rfl gbt) rfl rfl rfl ?_
        refine XO_and0 rfl rfl rfl rfl rfl ?_
        refine XO_nil ?_
        refine at_then ?_
        refine X_cond rfl (fun hc67 => ?_) (fun hc67 => ?_)
        · skip
          have h67 : (decide (m > 1) && decide (xs.getD (m - 2).toNat 0 ≠ allS m)) = true := by unfold allS; simpa using hc67
          refine X_seq ?_
          refine X_region ?_
          refine XO_v0 (ev_assign rfl) rfl rfl rfl ?_
          refine XO_nil ?_
          refine at_then ?_
          refine X_ret ?_
          refine at_then_r ?_
          first
          | exact at_ret1 rfl rfl (fun w hw => ⟨by rw [chkN_1 h6], hw.drop⟩)
          | exact at_ret1 rfl rfl (fun w hw => ⟨by rw [chkN_2 h6 h18], hw.drop⟩)
          | exact at_ret1 rfl rfl (fun w hw => ⟨by rw [chkN_3 h6 h18 (by rw [hS.len]; exact range_bad hlt_k (by have := getD_of (d := 0) hx; unfold cladeP allS; rw [this, hc56]; rfl))], hw.drop⟩)
          | exact at_ret1 rfl rfl (fun w hw => ⟨by rw [chkN_4 h6 h18 hall0 h67], hw.drop⟩)
          | exact at_ret1 rfl rfl (fun w hw => ⟨by rw [chkN_5 h6 h18 hall0 h67, any_yes hx hc80]; rfl, hw.drop⟩)
          | exact at_ret1 rfl rfl (fun w hw => ⟨by rw [chkN_5 h6 h18 hall0 h67, hno]; rfl, hw.drop⟩)
        · skip
          have h67 : (decide (m > 1) && decide (xs.getD (m - 2).toNat 0 ≠ allS m)) = false := by unfold allS; simpa using hc67
          refine X_skip ?_
          refine at_then ?_
          refine X_seq ?_
          refine X_seq ?_
          refine X_region ?_
          refine XO_v0 (ev_assign rfl) rfl rfl rfl ?_
          refine XO_nil ?_
          refine at_then ?_
          refine X_block ?_
          refine X_loopT [(1, _)] (.cons rfl .nil) (fun T L0 mz E I' loc' => ∃ (k : Nat), mz = n - k ∧ E = (7, .int .i64 k) :: T ∧ I = I' ∧ L0 = loc' ∧ k ≤ n ∧ (xs.take k).any (fun c => splitF xs c == 0) = false) _ _ _ _ ⟨0, rfl, rfl, rfl, rfl, Nat.zero_le _, rfl⟩ (.cons rfl (.cons rfl .nil)) (HLe.refl _) rfl ?_
          rintro mz E I' loc' ⟨k, rfl, rfl, rfl, rfl, hk, hno⟩
          refine X_seq ?_
          refine X_seq ?_
          refine X_region ?_
          refine XO_v0 (ev_move rfl) rfl rfl rfl ?_
          refine XO_v0 (ev_move rfl) rfl rfl rfl ?_
          refine XO_v0 (ev_lenS rfl slt_22) rfl rfl rfl ?_
          refine XO_v0 (ev_cmp rfl rfl rfl) rfl rfl rfl ?_
          refine XO_nil ?_
          refine at_then ?_
          refine X_cond rfl (fun hc71 => ?_) (fun hc71 => ?_)
          · skip
            have hlt_k : k < n := by have h := hc71; simp at h; omega
            obtain ⟨x, hx⟩ := hS.at hlt_k
            have hxa := clade_le hall0 hx
            refine X_skip ?_
            refine at_then ?_
            refine X_seq ?_
            refine X_block ?_
            refine X_seq ?_
            refine X_region ?_
            refine XO_v0 (ev_move rfl) rfl rfl rfl ?_
            refine XO_v0 (ev_move rfl) rfl rfl rfl ?_
            refine XO_v0 (ev_move rfl) rfl rfl rfl ?_
            refine XO_v0 (ev_indexSl rfl rfl slt_22 (by assumption) (fun hg => by first | omega | (simp [conj] at hg; omega))) rfl rfl rfl ?_
            refine XO_v0 (ev_load rfl sct_3 (fun hg => by first | exact Sl.get0 hS hx rfl | exact Sl.getD0 (k := ((k : Int) - 1).toNat) (d := 0) hS (by simp [conj] at hg; omega) rfl | exact Sl.getD0 (k := (m - 2).toNat) (d := 0) hS (by simp [conj] at hg; omega) rfl | exact Cell.h0 rfl | exact Cell.h1 rfl | exact Cell.h2 rfl | exact Cell.h3 rfl | exact Cell.h4 rfl | exact Cell.h5 rfl | (repeat (first | exact Cell.here rfl | apply Cell.there | apply Cell.app)))) rfl rfl rfl ?_
            refine XO_callV0 (cap := []) (vs := [_, _]) rfl rfl fun_30 (w_rsplit hS hn _ (by omega)) rfl rfl ?_
            refine XO_v0 (ev_cmp rfl rfl rfl) rfl rfl rfl ?_
            refine XO_nil ?_
            refine at_then ?_
            refine X_cond rfl (fun hc80 => ?_) (fun hc80 => ?_)
            · skip
              refine X_seq ?_
              refine X_region ?_
              refine XO_v0 (ev_assign rfl) rfl rfl rfl ?_
              refine XO_nil ?_
              refine at_then ?_
              refine X_ret ?_
              refine at_block_r ?_
              refine at_then_r ?_
              refine at_then_r ?_
              refine at_block_r ?_
              refine at_then_r ?_
              first
              | exact at_ret1 rfl rfl (fun w hw => ⟨by rw [chkN_1 h6], hw.drop⟩)
              | exact at_ret1 rfl rfl (fun w hw => ⟨by rw [chkN_2 h6 h18], hw.drop⟩)
              | exact at_ret1 rfl rfl (fun w hw => ⟨by rw [chkN_3 h6 h18 (by rw [hS.len]; exact range_bad hlt_k (by have := getD_of (d := 0) hx; unfold cladeP allS; rw [this, hc56]; rfl))], hw.drop⟩)
              | exact at_ret1 rfl rfl (fun w hw => ⟨by rw [chkN_4 h6 h18 hall0 h67], hw.drop⟩)
              | exact at_ret1 rfl rfl (fun w hw => ⟨by rw [chkN_5 h6 h18 hall0 h67, any_yes hx hc80]; rfl, hw.drop⟩)
              | exact at_ret1 rfl rfl (fun w hw => ⟨by rw [chkN_5 h6 h18 hall0 h67, hno]; rfl, hw.drop⟩)
            · skip
              refine X_skip ?_
              refine at_block_n ?_
              refine at_then ?_
              refine X_region ?_
              refine XO_v0 (ev_move rfl) rfl rfl rfl ?_
              refine XO_v0 (ev_arB rfl rfl rfl (fun hg => by first | omega | (simp [conj] at hg; omega))) rfl rfl rfl ?_
              refine XO_v0 (ev_assign rfl) rfl rfl rfl ?_
              refine XO_nil ?_
              exact at_met2 _ _ ⟨n - (k + 1), by omega, k + 1, rfl, rfl, rfl, rfl, by omega, any_no hx hno hc80⟩ (.cons rfl (.cons rfl .nil)) (by repeat (first | exact .refl | exact subL_left | refine subL_app ?_ | refine .drop ?_ | refine subL_add ?_))
          · skip
            have hge_k : n ≤ k := by have h := hc71; simp at h; omega
            rw [take_all hS.len hge_k] at hno
            refine X_exit ?_
            refine at_then_e ?_
            refine at_then_e ?_
            refine at_block_hit ?_
            refine at_then ?_
            refine X_seq ?_
            refine X_region ?_
            refine XO_v0 (ev_assign rfl) rfl rfl rfl ?_
            refine XO_nil ?_
            refine at_then ?_
            refine X_ret ?_
            first
            | exact at_ret1 rfl rfl (fun w hw => ⟨by rw [chkN_1 h6], hw.drop⟩)
            | exact at_ret1 rfl rfl (fun w hw => ⟨by rw [chkN_2 h6 h18], hw.drop⟩)
            | exact at_ret1 rfl rfl (fun w hw => ⟨by rw [chkN_3 h6 h18 (by rw [hS.len]; exact range_bad hlt_k (by have := getD_of (d := 0) hx; unfold cladeP allS; rw [this, hc56]; rfl))], hw.drop⟩)
            | exact at_ret1 rfl rfl (fun w hw => ⟨by rw [chkN_4 h6 h18 hall0 h67], hw.drop⟩)
            | exact at_ret1 rfl rfl (fun w hw => ⟨by rw [chkN_5 h6 h18 hall0 h67, any_yes hx hc80]; rfl, hw.drop⟩)
            | exact at_ret1 rfl rfl (fun w hw => ⟨by rw [chkN_5 h6 h18 hall0 h67, hno]; rfl, hw.drop⟩)
end Go.Proofs.YtkpmnnflikkhmaaDoor
end
section
namespace Go.Proofs.YtkpmnnflikkhmaaDoor
open Go Go.Kn Go.Proofs
def idxF {α : Type} (p : α → Bool) (xs : List α) : Int := if xs.any p then (xs.findIdx p : Int) else -1
theorem idx_hit {α : Type} {xs : List α} {k : Nat} {x : α} {p : α → Bool} (h : (xs.take k).any p = false) (hx : xs[k]? = some x) (hp : p x = true) : idxF p xs = k := by
  unfold idxF
  rw [any_yes hx hp, if_pos rfl]
  have hk := (List.getElem?_eq_some_iff.1 hx).1
  have : xs.findIdx p = k := by
    rw [List.findIdx_eq hk]
    refine ⟨by rw [(List.getElem?_eq_some_iff.1 hx).2]; exact hp, fun j hj => ?_⟩
    have := List.any_eq_false.1 h xs[j] (by rw [List.mem_take_iff_getElem]; exact ⟨j, by omega, rfl⟩)
    simpa using this
  omega
theorem idx_none {α : Type} {xs : List α} {k n : Nat} {p : α → Bool} (hl : xs.length = n) (hk : n ≤ k) (h : (xs.take k).any p = false) : idxF p xs = -1 := by
  unfold idxF
  rw [take_all hl hk] at h
  rw [h]; rfl
theorem idx_any {α : Type} {xs : List α} {p : α → Bool} : decide (idxF p xs ≥ 0) = xs.any p := by
  unfold idxF
  cases h : xs.any p
  · rfl
  · simp
theorem w_index {I : HMap} {av : Option Addr} {n c : Nat} {xs : List Int} (hS : Sl I 1 encI av n c xs) (hn : n ≤ 100000) (v : Int) : RetV Tryd.prog 42 [.slice av n c, .int .i64 v] I (.int .i64 (idxF (fun y => v == y) xs)) := by
  intro g H w hw
  refine enter Tryd.func42 rfl Tryd.ntmps42 rfl hw ?_
  refine X_seq ?_
  refine X_region ?_
  refine XO_v0 (ev_assign rfl) rfl rfl rfl ?_
  refine XO_nil ?_
  refine at_then ?_
  refine X_seq ?_
  refine X_seq ?_
  refine X_region ?_
  refine XO_v0 (ev_move rfl) rfl rfl rfl ?_
  refine XO_v0 (ev_lenS rfl slt_22) rfl rfl rfl ?_
  refine XO_v0 (ev_move rfl) rfl rfl rfl ?_
  refine XO_nil ?_
  refine at_then ?_
  refine X_block ?_
  refine X_loopT [(0, _), (1, _), (7, _)] (.cons rfl (.cons rfl (.cons rfl .nil))) (fun T L0 mz E I' loc' => ∃ (k : Nat), mz = n - k ∧ E = (8, .int .i64 k) :: T ∧ I = I' ∧ L0 = loc' ∧ k ≤ n ∧ (xs.take k).any (fun y => v == y) = false) _ _ _ _ ⟨0, rfl, rfl, rfl, rfl, Nat.zero_le _, rfl⟩ (.cons rfl (.cons rfl (.cons rfl (.cons rfl .nil)))) (HLe.refl _) rfl ?_
  rintro mz E I' loc' ⟨k, rfl, rfl, rfl, rfl, hk, hno⟩
  refine X_seq ?_
  refine X_region ?_
  refine XO_v0 (ev_cmp rfl rfl rfl) rfl rfl rfl ?_
  refine XO_nil ?_
  refine at_then ?_
  refine X_seq ?_
  refine X_cond rfl (fun hc9 => ?_) (fun hc9 => ?_)
  · skip
    have hlt_k : k < n := by have h := hc9; simp at h; omega
    obtain ⟨x, hx⟩ := hS.at hlt_k
    refine X_skip ?_
    refine at_then ?_
    refine X_seq ?_
    refine X_block ?_
    refine X_seq ?_
    refine X_region ?_
    refine XO_v0 (ev_move rfl) rfl rfl rfl ?_
    refine XO_v0 (ev_assign rfl) rfl rfl rfl ?_
    refine XO_nil ?_
    refine at_then ?_
    refine X_seq ?_
    refine X_region ?_
    refine XO_v0 (ev_move rfl) rfl rfl rfl ?_
    refine XO_v0 (ev_move rfl) rfl rfl rfl ?_
    refine XO_v0 (ev_move rfl) rfl rfl rfl ?_
    refine XO_v0 (ev_indexSl rfl rfl slt_22 (by assumption) (fun hg => by first | omega | (simp [conj] at hg; omega))) rfl rfl rfl ?_
    refine XO_v0 (ev_load rfl sct_3 (fun hg => by first | exact Sl.get0 hS hx rfl | exact Cell.h0 rfl | exact Cell.h1 rfl | exact Cell.h2 rfl | exact Cell.h3 rfl | exact Cell.h4 rfl | exact Cell.h5 rfl | (repeat (first | exact Cell.here rfl | apply Cell.there | apply Cell.app)))) rfl rfl rfl ?_
    refine XO_v0 (ev_cmp rfl rfl rfl) rfl rfl rfl ?_
    refine XO_nil ?_
    refine at_then ?_
    refine X_cond rfl (fun hc16 => ?_) (fun hc16 => ?_)
    · skip
      refine X_seq ?_
      refine X_region ?_
      refine XO_v0 (ev_move rfl) rfl rfl rfl ?_
      refine XO_v0 (ev_assign rfl) rfl rfl rfl ?_
      refine XO_nil ?_
      refine at_then ?_
      refine X_ret ?_
      refine at_block_r ?_
      refine at_then_r ?_
      refine at_then_r ?_
      refine at_block_r ?_
      refine at_then_r ?_
      first
      | exact at_ret1 rfl rfl (fun w hw => ⟨by rw [idx_hit hno hx hc16], hw.drop⟩)
      | exact at_ret1 rfl rfl (fun w hw => ⟨by rw [idx_none hS.len hge_k hno], hw.drop⟩)
    · skip
      refine X_skip ?_
      refine at_block_n ?_
      refine at_then ?_
      refine X_region ?_
      refine XO_v0 (ev_arB rfl rfl rfl (fun _ => by omega)) rfl rfl rfl ?_
      refine XO_v0 (ev_move rfl) rfl rfl rfl ?_
      refine XO_nil ?_
      exact at_met2 _ _ ⟨n - (k + 1), by omega, k + 1, rfl, rfl, rfl, rfl, by omega, any_no hx hno hc16⟩ (.cons rfl (.cons rfl (.cons rfl (.cons rfl .nil)))) (by repeat (first | exact .refl | exact subL_left | refine subL_app ?_ | refine .drop ?_ | refine subL_add ?_))
  · skip
    have hge_k : n ≤ k := by have h := hc9; simp at h; omega
    refine X_exit ?_
    refine at_then_e ?_
    refine at_then_e ?_
    refine at_block_hit ?_
    refine at_then ?_
    refine X_seq ?_
    refine X_region ?_
    refine XO_v0 (ev_assign rfl) rfl rfl rfl ?_
    refine XO_nil ?_
    refine at_then ?_
    refine X_ret ?_
    first
    | exact at_ret1 rfl rfl (fun w hw => ⟨by rw [idx_hit hno hx hc16], hw.drop⟩)
    | exact at_ret1 rfl rfl (fun w hw => ⟨by rw [idx_none hS.len hge_k hno], hw.drop⟩)
theorem w_contains {I : HMap} {av : Option Addr} {n c : Nat} {xs : List Int} (hS : Sl I 1 encI av n c xs) (hn : n ≤ 100000) (v : Int) : RetV Tryd.prog 28 [.slice av n c, .int .i64 v] I (.bool (xs.any (fun y => v == y))) := by
  intro g H w hw
  refine enter Tryd.func28 rfl Tryd.ntmps28 rfl hw ?_
  refine X_seq ?_
  refine X_region ?_
  refine XO_v0 (ev_assign rfl) rfl rfl rfl ?_
  refine XO_nil ?_
  refine at_then ?_
  refine X_seq ?_
  refine X_region ?_
  refine XO_v0 (ev_move rfl) rfl rfl rfl ?_
  refine XO_v0 (ev_move rfl) rfl rfl rfl ?_
  refine XO_callV0 (cap := []) (vs := [_, _]) rfl rfl fun_42 (w_index hS hn v) rfl rfl ?_
  refine XO_v0 (ev_cmp rfl rfl rfl) rfl rfl rfl ?_
  refine XO_v0 (ev_assign rfl) rfl rfl rfl ?_
  refine XO_nil ?_
  refine at_then ?_
  refine X_ret ?_
  first
  | exact at_ret1 rfl rfl (fun w hw => ⟨by rw [← idx_any], hw.drop⟩)
theorem w_own {I : HMap} {b : Nat} {av : Option Addr} {n c : Nat} {xs : List Int} (hc : Cell I [] b 0 (.slice av n c)) (hS : Sl I 1 encI av n c xs) (hn : n ≤ 100000) (s : Int) : RetV Tryd.prog 43 [.int .i64 s, capP b] I (.bool (ownS xs s)) := by
  intro g H w hw
  refine enter Tryd.func43 rfl Tryd.ntmps43 rfl hw ?_
  refine X_seq ?_
  refine X_region ?_
  refine XO_v0 (ev_assign rfl) rfl rfl rfl ?_
  refine XO_nil ?_
  refine at_then ?_
  refine X_seq ?_
  refine X_region ?_
  refine XO_v0 (ev_move rfl) rfl rfl rfl ?_
  refine XO_callV0 (cap := []) (vs := [_]) rfl rfl fun_44 (w_single I _) rfl rfl ?_
  refine XO_v0 (ev_move rfl) rfl rfl rfl ?_
  refine XO_pushF 2 rfl rfl rfl ?_
  refine XO_v1 (ev_load rfl sct_22 (fun hg => by first | exact hc.any | exact Cell.h0 rfl | exact Cell.h1 rfl | exact Cell.h2 rfl | exact Cell.h3 rfl | exact Cell.h4 rfl | exact Cell.h5 rfl | (repeat (first | exact Cell.here rfl | apply Cell.there | apply Cell.app)))) (.some rfl rfl rfl rfl gbf) rfl rfl rfl ?_
  refine XO_v1 (ev_move rfl) (.some rfl rfl rfl rfl gbf) rfl rfl rfl ?_
  refine XO_callV1 (cap := []) (vs := [_, _]) rfl rfl fun_28 (fun hg => w_contains hS hn _) (.some rfl rfl rfl rfl gbf) rfl rfl ?_
  refine XO_or0 rfl rfl rfl rfl rfl ?_
  refine XO_v0 (ev_assign rfl) rfl rfl rfl ?_
  refine XO_nil ?_
  refine at_then ?_
  refine X_ret ?_
  exact at_ret1 rfl rfl (fun w hw => ⟨by first | rfl | simp_all, hw.drop⟩)
end Go.Proofs.YtkpmnnflikkhmaaDoor
end
section
namespace Go.Proofs.YtkpmnnflikkhmaaDoor
open Go Go.Kn Go.Proofs
theorem w_parts {I : HMap} {av : Option Addr} {n c : Nat} {xs : List Int} (hS : Sl I 1 encI av n c xs) (hn : n ≤ 100000) (s : Int) (hs : 1 ≤ s ∧ s ≤ 63) : RetV Tryd.prog 29 [.slice av n c, .int .i64 s] I (.tuple #[.int .i64 (partA xs s), .int .i64 (partB xs s), .bool (partF xs s).isSome]) := by
  intro g H w hw
  refine enter Tryd.func29 rfl Tryd.ntmps29 rfl hw ?_
  have hIc := HLe.refl I
  refine X_seq ?_
  refine X_region ?_
  refine XO_box rfl rfl rfl (fun b_2 => ?_)
  refine XO_v0 (ev_assign rfl) rfl rfl rfl ?_
  refine XO_v0 (ev_assign rfl) rfl rfl rfl ?_
  refine XO_v0 (ev_assign rfl) rfl rfl rfl ?_
  refine XO_nil ?_
  refine at_then ?_
  refine X_seq ?_
  refine X_freeze .here (fun I1 hI1 hb1 => ?_)
  have hS := hS.mono hI1
  have hIc := hIc.trans hI1
  have hbx := hb1
  refine X_region ?_
  refine XO_v0 (ev_makeFunc (us := []) (vs := [_]) rfl rfl) rfl rfl rfl ?_
  refine XO_v0 (ev_assign rfl) rfl rfl rfl ?_
  refine XO_nil ?_
  refine at_then ?_
  refine X_seq ?_
  refine X_seq ?_
  refine X_region ?_
  refine XO_v0 (ev_move rfl) rfl rfl rfl ?_
  refine XO_v0 (ev_ar rfl rfl rfl) rfl rfl rfl ?_
  refine XO_v0 (ev_move rfl) rfl rfl rfl ?_
  refine XO_v0 (ev_and rfl rfl) rfl rfl rfl ?_
  refine XO_v0 (ev_assign rfl) rfl rfl rfl ?_
  refine XO_nil ?_
  have hn0 := next_in (a := s) (s := s) (by omega) (by omega)
  refine at_then ?_
  refine X_block ?_
  refine X_loopT [(1, _), (7, _)] (.cons rfl (.cons rfl .nil)) (fun T L0 mz E I' loc' => ∃ (a : Int) (f : Nat), mz = a.toNat ∧ E = (8, .int .i64 a) :: T ∧ I1 = I' ∧ L0 = loc' ∧ 0 ≤ a ∧ a ≤ 63 ∧ a.toNat < f ∧ partF xs s = partR xs s f a) _ _ _ _ ⟨nextS s s, 64, rfl, rfl, rfl, rfl, hn0.1, by omega, by omega, rfl⟩ (.cons rfl (.cons rfl (.cons rfl .nil))) (HLe.refl _) rfl ?_
  rintro mz E I' loc' ⟨a, f, rfl, rfl, rfl, rfl, ha0, ha1, haf, hpf⟩
  refine X_seq ?_
  refine X_seq ?_
  refine X_region ?_
  refine XO_v0 (ev_move rfl) rfl rfl rfl ?_
  refine XO_v0 (ev_cmp rfl rfl rfl) rfl rfl rfl ?_
  refine XO_nil ?_
  refine at_then ?_
  refine X_cond rfl (fun hc15 => ?_) (fun hc15 => ?_)
  · skip
    have ha : a > 0 := by simpa using hc15
    obtain ⟨f, rfl⟩ : ∃ q, f = q + 1 := ⟨f - 1, by omega⟩
    have hna := next_in (a := a) (s := s) (by omega) (by omega)
    have hlt2 : (nextS s a).toNat < a.toNat := by omega
    refine X_skip ?_
    refine at_then ?_
    refine X_seq ?_
    refine X_block ?_
    refine X_seq ?_
    refine X_region ?_
    refine XO_v0 (ev_move rfl) rfl rfl rfl ?_
    refine XO_v0 (ev_move rfl) rfl rfl rfl ?_
    refine XO_v0 (ev_neg rfl) rfl rfl rfl ?_
    refine XO_v0 (ev_and rfl rfl) rfl rfl rfl ?_
    refine XO_v0 (ev_move rfl) rfl rfl rfl ?_
    refine XO_v0 (ev_move rfl) rfl rfl rfl ?_
    refine XO_v0 (ev_neg rfl) rfl rfl rfl ?_
    refine XO_v0 (ev_and rfl rfl) rfl rfl rfl ?_
    refine XO_v0 (ev_cmp rfl rfl rfl) rfl rfl rfl ?_
    refine XO_v0 (ev_move rfl) rfl rfl rfl ?_
    refine XO_pushT 9 rfl rfl rfl ?_
    refine XO_v1 (ev_move rfl) (.some rfl rfl rfl rfl gbt) rfl rfl rfl ?_
    refine XO_v1 (ev_move rfl) (.some rfl rfl rfl rfl gbt) rfl rfl rfl ?_
    refine XO_callV1 (cap := [capP b_2]) (vs := [_]) rfl rfl fun_43 (fun hg => w_own (.imm hbx rfl) hS hn _) (.some rfl rfl rfl rfl gbt) rfl rfl ?_
    refine XO_and0 rfl rfl rfl rfl rfl ?_
    refine XO_v0 (ev_move rfl) rfl rfl rfl ?_
    refine XO_pushT 14 rfl rfl rfl ?_
    refine XO_v1 (ev_move rfl) (.some rfl rfl rfl rfl gbt) rfl rfl rfl ?_
    refine XO_v1 (ev_move rfl) (.some rfl rfl rfl rfl gbt) rfl rfl rfl ?_
    refine XO_v1 (ev_move rfl) (.some rfl rfl rfl rfl gbt) rfl rfl rfl ?_
    refine XO_v1 (ev_andNot rfl rfl) (.some rfl rfl rfl rfl gbt) rfl rfl rfl ?_
    refine XO_callV1 (cap := [capP b_2]) (vs := [_]) rfl rfl fun_43 (fun hg => w_own (.imm hbx rfl) hS hn _) (.some rfl rfl rfl rfl gbt) rfl rfl ?_
    refine XO_and0 rfl rfl rfl rfl rfl ?_
    refine XO_nil ?_
    refine at_then ?_
    refine X_cond rfl (fun hc40 => ?_) (fun hc40 => ?_)
    · skip
      have hv : partF xs s = some a := by rw [hpf, partR_hit ha (by unfold partP lowS; simpa using hc40)]
      refine X_seq ?_
      refine X_region ?_
      refine XO_v0 (ev_move rfl) rfl rfl rfl ?_
      refine XO_v0 (ev_move rfl) rfl rfl rfl ?_
      refine XO_v0 (ev_move rfl) rfl rfl rfl ?_
      refine XO_v0 (ev_andNot rfl rfl) rfl rfl rfl ?_
      refine XO_v0 (ev_assign rfl) rfl rfl rfl ?_
      refine XO_v0 (ev_assign rfl) rfl rfl rfl ?_
      refine XO_v0 (ev_assign rfl) rfl rfl rfl ?_
      refine XO_nil ?_
      refine at_then ?_
      refine X_ret ?_
      refine at_block_r ?_
      refine at_then_r ?_
      refine at_then_r ?_
      refine at_block_r ?_
      refine at_then_r ?_
      exact at_ret3 rfl rfl rfl rfl (fun w hw => ⟨by unfold partA partB; rw [hv]; rfl, (hw.mono hIc).drop⟩)
    · skip
      have hpf2 : partF xs s = partR xs s f (nextS s a) := by rw [hpf, partR_miss ha (by unfold partP lowS; simpa using hc40)]
      refine X_skip ?_
      refine at_block_n ?_
      refine at_then ?_
      refine X_region ?_
      refine XO_v0 (ev_move rfl) rfl rfl rfl ?_
      refine XO_v0 (ev_ar rfl rfl rfl) rfl rfl rfl ?_
      refine XO_v0 (ev_move rfl) rfl rfl rfl ?_
      refine XO_v0 (ev_and rfl rfl) rfl rfl rfl ?_
      refine XO_v0 (ev_assign rfl) rfl rfl rfl ?_
      refine XO_nil ?_
      exact at_met2 _ _ ⟨_, hlt2, nextS s a, f, rfl, rfl, rfl, rfl, hna.1, by omega, by omega, hpf2⟩ (.cons rfl (.cons rfl (.cons rfl .nil))) (by repeat (first | exact .refl | exact subL_left | refine subL_app ?_ | refine .drop ?_ | refine subL_add ?_))
  · skip
    have ha : ¬ a > 0 := by simpa using hc15
    have hv : partF xs s = none := by rw [hpf, partR_end ha]
    refine X_exit ?_
    refine at_then_e ?_
    refine at_then_e ?_
    refine at_block_hit ?_
    refine at_then ?_
    refine X_seq ?_
    refine X_region ?_
    refine XO_v0 (ev_assign rfl) rfl rfl rfl ?_
    refine XO_v0 (ev_assign rfl) rfl rfl rfl ?_
    refine XO_v0 (ev_assign rfl) rfl rfl rfl ?_
    refine XO_nil ?_
    refine at_then ?_
    refine X_ret ?_
    exact at_ret3 rfl rfl rfl rfl (fun w hw => ⟨by unfold partA partB; rw [hv]; rfl, (hw.mono hIc).drop⟩)
end Go.Proofs.YtkpmnnflikkhmaaDoor
end
section
namespace Go.Proofs.YtkpmnnflikkhmaaDoor
open Go Go.Kn Go.Proofs
/-- The sets within s, from a downwards. -/
def subR (s : Int) : Nat → Int → List Int
  | 0, _ => []
  | f + 1, a => if decide (a > 0) then a :: subR s f (nextS s a) else []
theorem partR_find {cl : List Int} {s : Int} : ∀ (f : Nat) (a : Int), partR cl s f a = (subR s f a).find? (partP cl s)
  | 0, _ => rfl
  | f + 1, a => by
    unfold partR subR
    split
    · rw [List.find?_cons, partR_find f]
      cases partP cl s a <;> rfl
    · rfl
def subT (s : Nat) : List Int := ((List.range' 1 (s - 1)).map (fun k : Nat => (k : Int))).filter (fun a => andI a s == a)
theorem sub_tab : ((List.range 64).all fun s => decide (subR (s : Int) 64 (nextS s s) = (subT s).reverse) && (subT s).all (fun a => lessI s a == s - a)) = true := by kernel_rfl
theorem part_eq {cl : List Int} {s a : Int} (h1 : andI a s = a) (h2 : lessI s a = s - a) : partP cl s a = splitP cl s a := by
  have hown : ∀ x, ownS cl x = hasS cl x := fun x => by
    unfold ownS hasS
    rw [Bool.or_comm]
    congr 1
    congr 1
    funext y
    exact Bool.eq_iff_iff.2 (by simp; exact eq_comm)
  unfold partP splitP
  rw [h1, h2, hown, hown]
  simp
/-- A clade has parts for the one exactly if it has for the other. -/
theorem part_some {cl : List Int} {s : Int} (hs : 1 ≤ s ∧ s ≤ 63) : (partF cl s).isSome = !(splitF cl s == 0) := by
  obtain ⟨n, rfl⟩ : ∃ n : Nat, s = (n : Int) := ⟨s.toNat, by omega⟩
  have ht := List.all_eq_true.1 sub_tab n (List.mem_range.2 (by omega))
  rw [Bool.and_eq_true, decide_eq_true_eq] at ht
  have hl := List.all_eq_true.1 ht.2
  have e1 : (partF cl n).isSome = (subT n).any (partP cl n) := by
    unfold partF
    rw [partR_find, ht.1]
    exact Bool.eq_iff_iff.2 (by rw [List.find?_isSome, List.any_eq_true]; simp)
  have e2 : (subT n).any (partP cl n) = (List.range' 1 (n - 1)).any (fun k : Nat => splitP cl n k) := by
    unfold subT at hl ⊢
    rw [Bool.eq_iff_iff, List.any_eq_true, List.any_eq_true]
    constructor
    · rintro ⟨a, ha, hp⟩
      have hla := hl a ha
      rw [List.mem_filter, List.mem_map] at ha
      obtain ⟨⟨k, hk, rfl⟩, h2⟩ := ha
      exact ⟨k, hk, by rw [← part_eq (by simpa using h2) (by simpa using hla)]; exact hp⟩
    · rintro ⟨k, hk, hp⟩
      have h2 : andI (k : Int) n = k := by
        unfold splitP at hp
        simp only [Bool.and_eq_true, beq_iff_eq] at hp
        exact hp.1.1.1
      have hm : (k : Int) ∈ ((List.range' 1 (n - 1)).map (fun k : Nat => (k : Int))).filter (fun a => andI a n == a) := List.mem_filter.2 ⟨List.mem_map.2 ⟨k, hk, rfl⟩, by simpa using h2⟩
      exact ⟨k, hm, by rw [part_eq h2 (by simpa using hl _ hm)]; exact hp⟩
  rw [e1, e2]
  unfold splitF splitR
  rw [show (n : Int).toNat - 1 = n - 1 by omega]
  cases e : (List.range' 1 (n - 1)).find? (fun k : Nat => splitP cl n k) with
  | none =>
    rw [List.find?_eq_none] at e
    simp only [beq_self_eq_true, Bool.not_true]
    rw [List.any_eq_false]
    exact e
  | some k =>
    have hk := List.mem_of_find?_eq_some e
    have hp := List.find?_some e
    rw [List.mem_range'] at hk
    obtain ⟨i, hi, e3⟩ := hk
    have : ((k : Int) == 0) = false := beq_false_of_ne (by omega)
    simp only [this, Bool.not_false]
    exact List.any_eq_true.2 ⟨k, List.mem_of_find?_eq_some e, hp⟩
/-- The number before: 0 at first. -/
def lastC (xs : List Int) (k : Nat) (l : Int) : Prop := (k = 0 → l = 0) ∧ ∀ y, xs[k - 1]? = some y → k ≠ 0 → l = y ∧ 1 ≤ y
theorem clade_at {xs : List Int} {k : Nat} {x l b : Int} (hx : xs[k]? = some x) (hl : lastC xs k l) : cladeP (b - 1) xs k = !(decide (x ≤ l) || decide (x ≥ b)) := by
  unfold cladeP
  rw [getD_of hx]
  cases k with
  | zero =>
    rw [hl.1 rfl]
    simp only [show decide (((0 : Nat) : Int) > 0) = false from rfl, Bool.false_and, Bool.or_false]
    congr 1
    rw [Bool.eq_iff_iff]
    simp
    omega
  | succ k =>
    have hk := (List.getElem?_eq_some_iff.1 hx).1
    have hy : xs[k]? = some (xs[k]'(by omega)) := List.getElem?_eq_getElem _
    obtain ⟨e, h1⟩ := hl.2 _ (by rw [Nat.add_sub_cancel]; exact hy) (by omega)
    rw [show (((k + 1 : Nat) : Int) - 1).toNat = k by omega, getD_of hy, ← e]
    rw [← e] at h1
    congr 1
    rw [Bool.eq_iff_iff]
    simp
    omega
theorem lastC_step {xs : List Int} {k : Nat} {x l : Int} (hx : xs[k]? = some x) (hl : lastC xs k l) (h : l < x) (h0 : 0 ≤ l) : lastC xs (k + 1) x :=
  ⟨fun h => by omega, fun y hy _ => by rw [Nat.add_sub_cancel, hx] at hy; cases hy; exact ⟨rfl, by omega⟩⟩
theorem lastC_end {xs : List Int} {k : Nat} {l m : Int} (hl : lastC xs k l) (hk : xs.length = k) (hm : (xs.length : Int) = m - 1) (h1 : m > 1) : xs.getD (m - 2).toNat 0 = l := by
  have hk0 : k ≠ 0 := by omega
  have hy : xs[k - 1]? = some (xs[k - 1]'(by omega)) := List.getElem?_eq_getElem _
  rw [show (m - 2).toNat = k - 1 by omega, getD_of hy, (hl.2 _ hy hk0).1]
/-- What Parts answers. -/
def iA (m : Int) (cl : List Int) (s : Int) : Int := if partsE m cl s ≠ 0 then 0 else partA cl s
def iB (m : Int) (cl : List Int) (s : Int) : Int := if partsE m cl s ≠ 0 then 0 else partB cl s
theorem iA_bad {m : Int} {cl : List Int} {s : Int} (h : partsE m cl s ≠ 0) : iA m cl s = 0 ∧ iB m cl s = 0 := by unfold iA iB; rw [if_pos h, if_pos h]; exact ⟨rfl, rfl⟩
theorem iA_ok {m : Int} {cl : List Int} {s : Int} (h : partsE m cl s = 0) : iA m cl s = partA cl s ∧ iB m cl s = partB cl s := by unfold iA iB; rw [if_neg (by omega), if_neg (by omega)]; exact ⟨rfl, rfl⟩
theorem any_sym {cl : List Int} {s : Int} : cl.any (fun y => s == y) = cl.any (fun c => c == s) := by
  congr 1
  funext y
  exact Bool.eq_iff_iff.2 (by simp; exact eq_comm)
def fewR (rows : List (List Int)) : Bool := if rows.length > 6 then decide ((rows.length : Int) ≤ 20) else rows.all (fun r => !(decide ((r.length : Int) > 12) && (decide ((r.length : Int) ≤ 64) || decide ((r.length : Int) > 100)))) && decide ((rows.length : Int) ≤ 5)
end Go.Proofs.YtkpmnnflikkhmaaDoor
end
section
namespace Go.Proofs.YtkpmnnflikkhmaaDoor
open Go Go.Kn Go.Proofs
theorem w_check {I : HMap} {av : Option Addr} {n c : Nat} {xs : List Int} (hS : Sl I 1 encI av n c xs) (m : Int) : RetV Tryd.prog 13 [.int .i64 m, .slice av n c] I (.int .i64 (chkN m xs)) := by
  intro g H w hw
  refine enter Tryd.func13 rfl Tryd.ntmps13 rfl hw ?_
  refine X_seq ?_
  refine X_region ?_
  refine XO_v0 (ev_assign rfl) rfl rfl rfl ?_
  refine XO_nil ?_
  refine at_then ?_
  refine X_seq ?_
  refine X_block ?_
  refine X_seq ?_
  refine X_region ?_
  refine XO_v0 (ev_move rfl) rfl rfl rfl ?_
  refine XO_v0 (ev_cmp rfl rfl rfl) rfl rfl rfl ?_
  refine XO_v0 (ev_assign rfl) rfl rfl rfl ?_
  refine XO_nil ?_
  refine at_then ?_
  refine X_cond rfl (fun hc13 => ?_) (fun hc13 => ?_)
  · skip
    have h6 : m > 6 := by simpa using hc13
    refine X_seq ?_
    refine X_region ?_
    refine XO_v0 (ev_assign rfl) rfl rfl rfl ?_
    refine XO_nil ?_
    refine at_then ?_
    refine X_ret ?_
    refine at_block_r ?_
    refine at_then_r ?_
    first
    | exact at_ret1 rfl rfl (fun w hw => ⟨by rw [chkN_1 h6], hw.drop⟩)
    | exact at_ret1 rfl rfl (fun w hw => ⟨by rw [chkN_2 h6 h18], hw.drop⟩)
    | exact at_ret1 rfl rfl (fun w hw => ⟨by rw [chkN_3 h6 h18 (by rw [hS.len]; exact range_bad hlt_k (by unfold allS; rw [clade_at hx hl, hc40]; rfl))], hw.drop⟩)
    | exact at_ret1 rfl rfl (fun w hw => ⟨by rw [chkN_4 h6 h18 hall0 h67], hw.drop⟩)
    | exact at_ret1 rfl rfl (fun w hw => ⟨by rw [chkN_5 h6 h18 hall0 h67, any_yes hx hsp]; rfl, hw.drop⟩)
    | exact at_ret1 rfl rfl (fun w hw => ⟨by rw [chkN_5 h6 h18 hall0 h67, hno]; rfl, hw.drop⟩)
  · skip
    have h6 : ¬ m > 6 := by simpa using hc13
    refine X_seq ?_
    refine X_region ?_
    refine XO_v0 (ev_move rfl) rfl rfl rfl ?_
    refine XO_v0 (ev_cmp rfl rfl rfl) rfl rfl rfl ?_
    refine XO_v0 (ev_move rfl) rfl rfl rfl ?_
    refine XO_pushF 2 rfl rfl rfl ?_
    refine XO_v1 (ev_move rfl) (.some rfl rfl rfl rfl gbf) rfl rfl rfl ?_
    refine XO_v1 (ev_lenS rfl slt_22) (.some rfl rfl rfl rfl gbf) rfl rfl rfl ?_
    refine XO_v1 (ev_move rfl) (.some rfl rfl rfl rfl gbf) rfl rfl rfl ?_
    refine XO_v1 (ev_arB rfl rfl rfl (fun hg => by first | omega | (simp [conj] at hg; omega))) (.some rfl rfl rfl rfl gbf) rfl rfl rfl ?_
    refine XO_v1 (ev_cmp rfl rfl rfl) (.some rfl rfl rfl rfl gbf) rfl rfl rfl ?_
    refine XO_or0 rfl rfl rfl rfl rfl ?_
    refine XO_v0 (ev_assign rfl) rfl rfl rfl ?_
    refine XO_nil ?_
    refine at_then ?_
    refine X_cond rfl (fun hc16 => ?_) (fun hc16 => ?_)
    · skip
      have h18 : (decide (m < 1) || decide ((xs.length : Int) ≠ m - 1)) = true := by rw [hS.len]; simpa using hc16
      refine X_seq ?_
      refine X_region ?_
      refine XO_v0 (ev_assign rfl) rfl rfl rfl ?_
      refine XO_nil ?_
      refine at_then ?_
      refine X_ret ?_
      refine at_block_r ?_
      refine at_then_r ?_
      first
      | exact at_ret1 rfl rfl (fun w hw => ⟨by rw [chkN_1 h6], hw.drop⟩)
      | exact at_ret1 rfl rfl (fun w hw => ⟨by rw [chkN_2 h6 h18], hw.drop⟩)
      | exact at_ret1 rfl rfl (fun w hw => ⟨by rw [chkN_3 h6 h18 (by rw [hS.len]; exact range_bad hlt_k (by unfold allS; rw [clade_at hx hl, hc40]; rfl))], hw.drop⟩)
      | exact at_ret1 rfl rfl (fun w hw => ⟨by rw [chkN_4 h6 h18 hall0 h67], hw.drop⟩)
      | exact at_ret1 rfl rfl (fun w hw => ⟨by rw [chkN_5 h6 h18 hall0 h67, any_yes hx hsp]; rfl, hw.drop⟩)
      | exact at_ret1 rfl rfl (fun w hw => ⟨by rw [chkN_5 h6 h18 hall0 h67, hno]; rfl, hw.drop⟩)
    · skip
      have h18 : (decide (m < 1) || decide ((xs.length : Int) ≠ m - 1)) = false := by rw [hS.len]; simpa using hc16
      have hm : 1 ≤ m ∧ m ≤ 6 ∧ (n : Int) = m - 1 := by rw [hS.len] at h18; simp at h18; omega
      have hn : n ≤ 100000 := by omega
      have hsh := shl_in ⟨hm.1, hm.2.1⟩
      have hal := all_in ⟨hm.1, hm.2.1⟩
      refine X_skip ?_
      refine at_block_n ?_
      refine at_then ?_
      refine X_seq ?_
      refine X_region ?_
      refine XO_v0 (ev_assign rfl) rfl rfl rfl ?_
      refine XO_nil ?_
      refine at_then ?_
      refine X_seq ?_
      refine X_seq ?_
      refine X_region ?_
      refine XO_v0 (ev_move rfl) rfl rfl rfl ?_
      refine XO_v0 (ev_lenS rfl slt_22) rfl rfl rfl ?_
      refine XO_v0 (ev_move rfl) rfl rfl rfl ?_
      refine XO_nil ?_
      refine at_then ?_
      refine X_block ?_
      refine X_loopT [(0, _), (1, _), (26, _), (27, _)] (.cons rfl (.cons rfl (.cons rfl (.cons rfl .nil)))) (fun T L0 mz E I' loc' => ∃ (k : Nat) (l : Int), mz = n - k ∧ E = (5, .int .i64 l) :: (28, .int .i64 k) :: T ∧ I = I' ∧ L0 = loc' ∧ k ≤ n ∧ (List.range k).all (cladeP (allS m) xs) = true ∧ lastC xs k l ∧ 0 ≤ l) _ _ _ _ ⟨0, 0, rfl, rfl, rfl, rfl, Nat.zero_le _, rfl, ⟨fun _ => rfl, fun _ _ h => absurd rfl h⟩, Int.le_refl _⟩ (.cons rfl (.cons rfl (.cons rfl (.cons rfl (.cons rfl (.cons rfl .nil)))))) (HLe.refl _) rfl ?_
      rintro mz E I' loc' ⟨k, l, rfl, rfl, rfl, rfl, hk, hall, hl, hl0⟩
      refine X_seq ?_
      refine X_region ?_
      refine XO_v0 (ev_cmp rfl rfl rfl) rfl rfl rfl ?_
      refine XO_nil ?_
      refine at_then ?_
      refine X_seq ?_
      refine X_cond rfl (fun hc29 => ?_) (fun hc29 => ?_)
      · skip
        have hlt_k : k < n := by have h := hc29; simp at h; omega
        obtain ⟨x, hx⟩ := hS.at hlt_k
        refine X_skip ?_
        refine at_then ?_
        refine X_seq ?_
        refine X_block ?_
        refine X_seq ?_
        refine X_region ?_
        refine XO_v0 (ev_indexSl rfl rfl slt_22 (by assumption) (fun hg => by first | omega | (simp [conj] at hg; omega))) rfl rfl rfl ?_
        refine XO_v0 (ev_load rfl sct_3 (fun hg => by first | exact Sl.get0 hS hx rfl | exact Cell.h0 rfl | exact Cell.h1 rfl | exact Cell.h2 rfl | exact Cell.h3 rfl | exact Cell.h4 rfl | exact Cell.h5 rfl | (repeat (first | exact Cell.here rfl | apply Cell.there | apply Cell.app)))) rfl rfl rfl ?_
        refine XO_v0 (ev_assign rfl) rfl rfl rfl ?_
        refine XO_nil ?_
        refine at_then ?_
        refine X_seq ?_
        refine X_seq ?_
        refine X_region ?_
        refine XO_v0 (ev_move rfl) rfl rfl rfl ?_
        refine XO_v0 (ev_move rfl) rfl rfl rfl ?_
        refine XO_v0 (ev_cmp rfl rfl rfl) rfl rfl rfl ?_
        refine XO_v0 (ev_move rfl) rfl rfl rfl ?_
        refine XO_pushF 3 rfl rfl rfl ?_
        refine XO_v1 (ev_move rfl) (.some rfl rfl rfl rfl gbf) rfl rfl rfl ?_
        refine XO_v1 (ev_move rfl) (.some rfl rfl rfl rfl gbf) rfl rfl rfl ?_
        refine XO_v1 (ev_shl rfl rfl (fun hg => by first | omega | (simp [conj] at hg; omega))) (.some rfl rfl rfl rfl gbf) rfl rfl rfl ?_
        refine XO_v1 (ev_cmp rfl rfl rfl) (.some rfl rfl rfl rfl gbf) rfl rfl rfl ?_
        refine XO_or0 rfl rfl rfl rfl rfl ?_
        refine XO_nil ?_
        refine at_then ?_
        refine X_cond rfl (fun hc40 => ?_) (fun hc40 => ?_)
        · skip
          refine X_seq ?_
          refine X_region ?_
          refine XO_v0 (ev_assign rfl) rfl rfl rfl ?_
          refine XO_nil ?_
          refine at_then ?_
          refine X_ret ?_
          refine at_then_r ?_
          refine at_block_r ?_
          refine at_then_r ?_
          refine at_then_r ?_
          refine at_block_r ?_
          refine at_then_r ?_
          first
          | exact at_ret1 rfl rfl (fun w hw => ⟨by rw [chkN_1 h6], hw.drop⟩)
          | exact at_ret1 rfl rfl (fun w hw => ⟨by rw [chkN_2 h6 h18], hw.drop⟩)
          | exact at_ret1 rfl rfl (fun w hw => ⟨by rw [chkN_3 h6 h18 (by rw [hS.len]; exact range_bad hlt_k (by unfold allS; rw [clade_at hx hl, hc40]; rfl))], hw.drop⟩)
          | exact at_ret1 rfl rfl (fun w hw => ⟨by rw [chkN_4 h6 h18 hall0 h67], hw.drop⟩)
          | exact at_ret1 rfl rfl (fun w hw => ⟨by rw [chkN_5 h6 h18 hall0 h67, any_yes hx hsp]; rfl, hw.drop⟩)
          | exact at_ret1 rfl rfl (fun w hw => ⟨by rw [chkN_5 h6 h18 hall0 h67, hno]; rfl, hw.drop⟩)
        · skip
          have hlx : l < x := by simp at hc40; omega
          refine X_skip ?_
          refine at_then ?_
          refine X_region ?_
          refine XO_v0 (ev_move rfl) rfl rfl rfl ?_
          refine XO_v0 (ev_assign rfl) rfl rfl rfl ?_
          refine XO_nil ?_
          refine at_block_n ?_
          refine at_then ?_
          refine X_region ?_
          refine XO_v0 (ev_arB rfl rfl rfl (fun hg => by first | omega | (simp [conj] at hg; omega))) rfl rfl rfl ?_
          refine XO_v0 (ev_move rfl) rfl rfl rfl ?_
          refine XO_nil ?_
          exact at_met2 _ _ ⟨n - (k + 1), by omega, k + 1, x, rfl, rfl, rfl, rfl, by omega, range_step hall (by unfold allS; rw [clade_at hx hl, hc40]; rfl), lastC_step hx hl hlx hl0, by omega⟩ (.cons rfl (.cons rfl (.cons rfl (.cons rfl (.cons rfl (.cons rfl .nil)))))) (by repeat (first | exact .refl | exact subL_left | refine subL_app ?_ | refine .drop ?_ | refine subL_add ?_))
      · skip
        have hge_k : n ≤ k := by have h := hc29; simp at h; omega
        have hall0 : (List.range xs.length).all (cladeP (allS m) xs) = true := by rw [hS.len, show n = k by omega]; exact hall
        have hnk : n = k := by omega
        refine X_exit ?_
        refine at_then_e ?_
        refine at_then_e ?_
        refine at_block_hit ?_
        refine at_then ?_
        refine X_seq ?_
        refine X_seq ?_
        refine X_region ?_
        refine XO_v0 (ev_move rfl) rfl rfl rfl ?_
        refine XO_v0 (ev_cmp rfl rfl rfl) rfl rfl rfl ?_
        refine XO_v0 (ev_move rfl) rfl rfl rfl ?_
        refine XO_pushT 2 rfl rfl rfl ?_
        refine XO_v1 (ev_move rfl) (.some rfl rfl rfl rfl gbt) rfl rfl rfl ?_
        refine XO_v1 (ev_move rfl) (.some rfl rfl rfl rfl gbt) rfl rfl rfl ?_
        refine XO_v1 (ev_shl rfl rfl (fun hg => by first | omega | (simp [conj] at hg; omega))) (.some rfl rfl rfl rfl gbt) rfl rfl rfl ?_
        refine XO_v1 (ev_arB rfl rfl rfl (fun hg => by first | omega | (simp [conj] at hg; omega))) (.some rfl rfl rfl rfl gbt) rfl rfl rfl ?_
        refine XO_v1 (ev_cmp rfl rfl rfl) (.some rfl rfl rfl rfl gbt) rfl rfl rfl ?_
        refine XO_and0 rfl rfl rfl rfl rfl ?_
        refine XO_nil ?_
        refine at_then ?_
        refine X_cond rfl (fun hc51 => ?_) (fun hc51 => ?_)
        · skip
          have h67 : (decide (m > 1) && decide (xs.getD (m - 2).toNat 0 ≠ allS m)) = true := by have h := hc51; simp only [Bool.and_eq_true, decide_eq_true_eq] at h; rw [lastC_end hl (by rw [hS.len]; exact hnk) (by rw [hS.len]; exact hm.2.2) h.1]; unfold allS; simpa using hc51
          refine X_seq ?_
          refine X_region ?_
          refine XO_v0 (ev_assign rfl) rfl rfl rfl ?_
          refine XO_nil ?_
          refine at_then ?_
          refine X_ret ?_
          refine at_then_r ?_
          first
          | exact at_ret1 rfl rfl (fun w hw => ⟨by rw [chkN_1 h6], hw.drop⟩)
          | exact at_ret1 rfl rfl (fun w hw => ⟨by rw [chkN_2 h6 h18], hw.drop⟩)
          | exact at_ret1 rfl rfl (fun w hw => ⟨by rw [chkN_3 h6 h18 (by rw [hS.len]; exact range_bad hlt_k (by unfold allS; rw [clade_at hx hl, hc40]; rfl))], hw.drop⟩)
          | exact at_ret1 rfl rfl (fun w hw => ⟨by rw [chkN_4 h6 h18 hall0 h67], hw.drop⟩)
          | exact at_ret1 rfl rfl (fun w hw => ⟨by rw [chkN_5 h6 h18 hall0 h67, any_yes hx hsp]; rfl, hw.drop⟩)
          | exact at_ret1 rfl rfl (fun w hw => ⟨by rw [chkN_5 h6 h18 hall0 h67, hno]; rfl, hw.drop⟩)
        · skip
          have h67 : (decide (m > 1) && decide (xs.getD (m - 2).toNat 0 ≠ allS m)) = false := (Decidable.em (m > 1)).elim (fun h1 => by rw [lastC_end hl (by rw [hS.len]; exact hnk) (by rw [hS.len]; exact hm.2.2) h1]; unfold allS; simpa using hc51) (fun h1 => by rw [decide_eq_false h1]; rfl)
          refine X_skip ?_
          refine at_then ?_
          refine X_seq ?_
          refine X_seq ?_
          refine X_region ?_
          refine XO_v0 (ev_move rfl) rfl rfl rfl ?_
          refine XO_v0 (ev_lenS rfl slt_22) rfl rfl rfl ?_
          refine XO_v0 (ev_move rfl) rfl rfl rfl ?_
          refine XO_nil ?_
          refine at_then ?_
          refine X_block ?_
          refine X_loopT [(1, _), (52, _), (53, _)] (.cons rfl (.cons rfl (.cons rfl .nil))) (fun T L0 mz E I' loc' => ∃ (k : Nat), mz = n - k ∧ E = (54, .int .i64 k) :: T ∧ I = I' ∧ L0 = loc' ∧ k ≤ n ∧ (xs.take k).any (fun c => splitF xs c == 0) = false) _ _ _ _ ⟨0, rfl, rfl, rfl, rfl, Nat.zero_le _, rfl⟩ (.cons rfl (.cons rfl (.cons rfl (.cons rfl .nil)))) (HLe.refl _) rfl ?_
          rintro mz E I' loc' ⟨k, rfl, rfl, rfl, rfl, hk, hno⟩
          refine X_seq ?_
          refine X_region ?_
          refine XO_v0 (ev_cmp rfl rfl rfl) rfl rfl rfl ?_
          refine XO_nil ?_
          refine at_then ?_
          refine X_seq ?_
          refine X_cond rfl (fun hc55 => ?_) (fun hc55 => ?_)
          · skip
            have hlt_k : k < n := by have h := hc55; simp at h; omega
            obtain ⟨x, hx⟩ := hS.at hlt_k
            have hxa := clade_le hall0 hx
            have hps := part_some (cl := xs) (s := x) (by omega)
            refine X_skip ?_
            refine at_then ?_
            refine X_seq ?_
            refine X_block ?_
            refine X_seq ?_
            refine X_region ?_
            refine XO_v0 (ev_indexSl rfl rfl slt_22 (by assumption) (fun hg => by first | omega | (simp [conj] at hg; omega))) rfl rfl rfl ?_
            refine XO_v0 (ev_load rfl sct_3 (fun hg => by first | exact Sl.get0 hS hx rfl | exact Cell.h0 rfl | exact Cell.h1 rfl | exact Cell.h2 rfl | exact Cell.h3 rfl | exact Cell.h4 rfl | exact Cell.h5 rfl | (repeat (first | exact Cell.here rfl | apply Cell.there | apply Cell.app)))) rfl rfl rfl ?_
            refine XO_v0 (ev_assign rfl) rfl rfl rfl ?_
            refine XO_nil ?_
            refine at_then ?_
            refine X_seq ?_
            refine X_region ?_
            refine XO_v0 (ev_move rfl) rfl rfl rfl ?_
            refine XO_v0 (ev_move rfl) rfl rfl rfl ?_
            refine XO_callV0 (cap := []) (vs := [_, _]) rfl rfl fun_29 (w_parts hS hn x (by omega)) rfl rfl ?_
            refine XO_v0 (ev_move rfl) rfl rfl rfl ?_
            refine XO_v0 (ev_extract rfl rfl) rfl rfl rfl ?_
            refine XO_v0 (ev_extract rfl rfl) rfl rfl rfl ?_
            refine XO_v0 (ev_extract rfl rfl) rfl rfl rfl ?_
            refine XO_v0 (ev_assign rfl) rfl rfl rfl ?_
            refine XO_v0 (ev_assign rfl) rfl rfl rfl ?_
            refine XO_v0 (ev_assign rfl) rfl rfl rfl ?_
            refine XO_nil ?_
            refine at_then ?_
            refine X_seq ?_
            refine X_region ?_
            refine XO_v0 (ev_move rfl) rfl rfl rfl ?_
            refine XO_v0 (ev_not rfl) rfl rfl rfl ?_
            refine XO_nil ?_
            refine at_then ?_
            refine X_cond rfl (fun hc66 => ?_) (fun hc66 => ?_)
            · skip
              have hsp : (splitF xs x == 0) = true := by rw [hps] at hc66; simpa using hc66
              refine X_seq ?_
              refine X_region ?_
              refine XO_v0 (ev_assign rfl) rfl rfl rfl ?_
              refine XO_nil ?_
              refine at_then ?_
              refine X_ret ?_
              refine at_block_r ?_
              refine at_then_r ?_
              refine at_then_r ?_
              refine at_block_r ?_
              refine at_then_r ?_
              first
              | exact at_ret1 rfl rfl (fun w hw => ⟨by rw [chkN_1 h6], hw.drop⟩)
              | exact at_ret1 rfl rfl (fun w hw => ⟨by rw [chkN_2 h6 h18], hw.drop⟩)
              | exact at_ret1 rfl rfl (fun w hw => ⟨by rw [chkN_3 h6 h18 (by rw [hS.len]; exact range_bad hlt_k (by unfold allS; rw [clade_at hx hl, hc40]; rfl))], hw.drop⟩)
              | exact at_ret1 rfl rfl (fun w hw => ⟨by rw [chkN_4 h6 h18 hall0 h67], hw.drop⟩)
              | exact at_ret1 rfl rfl (fun w hw => ⟨by rw [chkN_5 h6 h18 hall0 h67, any_yes hx hsp]; rfl, hw.drop⟩)
              | exact at_ret1 rfl rfl (fun w hw => ⟨by rw [chkN_5 h6 h18 hall0 h67, hno]; rfl, hw.drop⟩)
            · skip
              have hsp : (splitF xs x == 0) = false := by rw [hps] at hc66; simpa using hc66
              refine X_skip ?_
              refine at_block_n ?_
              refine at_then ?_
              refine X_region ?_
              refine XO_v0 (ev_arB rfl rfl rfl (fun hg => by first | omega | (simp [conj] at hg; omega))) rfl rfl rfl ?_
              refine XO_v0 (ev_move rfl) rfl rfl rfl ?_
              refine XO_nil ?_
              exact at_met2 _ _ ⟨n - (k + 1), by omega, k + 1, rfl, rfl, rfl, rfl, by omega, any_no hx hno hsp⟩ (.cons rfl (.cons rfl (.cons rfl (.cons rfl .nil)))) (by repeat (first | exact .refl | exact subL_left | refine subL_app ?_ | refine .drop ?_ | refine subL_add ?_))
          · skip
            have hge_k : n ≤ k := by have h := hc55; simp at h; omega
            rw [take_all hS.len hge_k] at hno
            refine X_exit ?_
            refine at_then_e ?_
            refine at_then_e ?_
            refine at_block_hit ?_
            refine at_then ?_
            refine X_seq ?_
            refine X_region ?_
            refine XO_v0 (ev_assign rfl) rfl rfl rfl ?_
            refine XO_nil ?_
            refine at_then ?_
            refine X_ret ?_
            first
            | exact at_ret1 rfl rfl (fun w hw => ⟨by rw [chkN_1 h6], hw.drop⟩)
            | exact at_ret1 rfl rfl (fun w hw => ⟨by rw [chkN_2 h6 h18], hw.drop⟩)
            | exact at_ret1 rfl rfl (fun w hw => ⟨by rw [chkN_3 h6 h18 (by rw [hS.len]; exact range_bad hlt_k (by unfold allS; rw [clade_at hx hl, hc40]; rfl))], hw.drop⟩)
            | exact at_ret1 rfl rfl (fun w hw => ⟨by rw [chkN_4 h6 h18 hall0 h67], hw.drop⟩)
            | exact at_ret1 rfl rfl (fun w hw => ⟨by rw [chkN_5 h6 h18 hall0 h67, any_yes hx hsp]; rfl, hw.drop⟩)
            | exact at_ret1 rfl rfl (fun w hw => ⟨by rw [chkN_5 h6 h18 hall0 h67, hno]; rfl, hw.drop⟩)
end Go.Proofs.YtkpmnnflikkhmaaDoor
end
section
namespace Go.Proofs.YtkpmnnflikkhmaaDoor
open Go Go.Kn Go.Proofs
theorem w_Parts {I : HMap} {av : Option Addr} {n c : Nat} {xs : List Int} (hS : Sl I 1 encI av n c xs) (hn : n ≤ 100000) (m s : Int) : RetV Tryd.prog 11 [.int .i64 m, .slice av n c, .int .i64 s] I (.tuple #[.int .i64 (iA m xs s), .int .i64 (iB m xs s), .int .i64 (partsE m xs s)]) := by
  intro g H w hw
  refine enter Tryd.func11 rfl Tryd.ntmps11 rfl hw ?_
  refine X_seq ?_
  refine X_region ?_
  refine XO_v0 (ev_assign rfl) rfl rfl rfl ?_
  refine XO_v0 (ev_assign rfl) rfl rfl rfl ?_
  refine XO_v0 (ev_assign rfl) rfl rfl rfl ?_
  refine XO_nil ?_
  refine at_then ?_
  refine X_seq ?_
  refine X_seq ?_
  refine X_region ?_
  refine XO_v0 (ev_move rfl) rfl rfl rfl ?_
  refine XO_v0 (ev_move rfl) rfl rfl rfl ?_
  refine XO_callV0 (cap := []) (vs := [_, _]) rfl rfl fun_13 (w_check hS _) rfl rfl ?_
  refine XO_v0 (ev_assign rfl) rfl rfl rfl ?_
  refine XO_nil ?_
  refine at_then ?_
  refine X_seq ?_
  refine X_region ?_
  refine XO_v0 (ev_move rfl) rfl rfl rfl ?_
  refine XO_v0 (ev_cmp rfl rfl rfl) rfl rfl rfl ?_
  refine XO_nil ?_
  refine at_then ?_
  refine X_cond rfl (fun hc13 => ?_) (fun hc13 => ?_)
  · skip
    have hb := partsE_chk (s := s) (show chkN m xs ≠ 0 by simpa using hc13)
    have hb2 := iA_bad (show partsE m xs s ≠ 0 by rw [hb]; simpa using hc13)
    refine X_seq ?_
    refine X_region ?_
    refine XO_v0 (ev_move rfl) rfl rfl rfl ?_
    refine XO_v0 (ev_assign rfl) rfl rfl rfl ?_
    refine XO_v0 (ev_assign rfl) rfl rfl rfl ?_
    refine XO_v0 (ev_assign rfl) rfl rfl rfl ?_
    refine XO_nil ?_
    refine at_then ?_
    refine X_ret ?_
    refine at_then_r ?_
    first
    | exact at_ret3 rfl rfl rfl rfl (fun w hw => ⟨by rw [hb2.1, hb2.2, hb]; rfl, hw.drop⟩)
    | exact at_ret3 rfl rfl rfl rfl (fun w hw => ⟨by rw [hb2.1, hb2.2, hb], hw.drop⟩)
  · skip
    have hc0 : chkN m xs = 0 := by simpa using hc13
    refine X_skip ?_
    refine at_then ?_
    refine X_seq ?_
    refine X_seq ?_
    refine X_region ?_
    refine XO_v0 (ev_move rfl) rfl rfl rfl ?_
    refine XO_v0 (ev_move rfl) rfl rfl rfl ?_
    refine XO_callV0 (cap := []) (vs := [_, _]) rfl rfl fun_28 (w_contains hS hn _) rfl rfl ?_
    refine XO_v0 (ev_not rfl) rfl rfl rfl ?_
    refine XO_nil ?_
    refine at_then ?_
    refine X_cond rfl (fun hc18 => ?_) (fun hc18 => ?_)
    · skip
      have hb := partsE_none (s := s) hc0 (by rw [← any_sym]; simpa using hc18)
      have hb2 := iA_bad (show partsE m xs s ≠ 0 by rw [hb]; decide)
      refine X_seq ?_
      refine X_region ?_
      refine XO_v0 (ev_assign rfl) rfl rfl rfl ?_
      refine XO_v0 (ev_assign rfl) rfl rfl rfl ?_
      refine XO_v0 (ev_assign rfl) rfl rfl rfl ?_
      refine XO_nil ?_
      refine at_then ?_
      refine X_ret ?_
      refine at_then_r ?_
      first
      | exact at_ret3 rfl rfl rfl rfl (fun w hw => ⟨by rw [hb2.1, hb2.2, hb]; rfl, hw.drop⟩)
      | exact at_ret3 rfl rfl rfl rfl (fun w hw => ⟨by rw [hb2.1, hb2.2, hb], hw.drop⟩)
    · skip
      have hin : xs.any (fun c => c == s) = true := by rw [← any_sym]; simpa using hc18
      have hb := partsE_ok hc0 hin
      have hb2 := iA_ok hb
      have hs := (chkN_ok hc0).2.2.2 s (by simpa using hin)
      refine X_skip ?_
      refine at_then ?_
      refine X_seq ?_
      refine X_region ?_
      refine XO_v0 (ev_move rfl) rfl rfl rfl ?_
      refine XO_v0 (ev_move rfl) rfl rfl rfl ?_
      refine XO_callV0 (cap := []) (vs := [_, _]) rfl rfl fun_29 (w_parts hS hn s (by omega)) rfl rfl ?_
      refine XO_v0 (ev_move rfl) rfl rfl rfl ?_
      refine XO_v0 (ev_extract rfl rfl) rfl rfl rfl ?_
      refine XO_v0 (ev_extract rfl rfl) rfl rfl rfl ?_
      refine XO_v0 (ev_extract rfl rfl) rfl rfl rfl ?_
      refine XO_v0 (ev_assign rfl) rfl rfl rfl ?_
      refine XO_v0 (ev_assign rfl) rfl rfl rfl ?_
      refine XO_nil ?_
      refine at_then ?_
      refine X_seq ?_
      refine X_region ?_
      refine XO_v0 (ev_move rfl) rfl rfl rfl ?_
      refine XO_v0 (ev_move rfl) rfl rfl rfl ?_
      refine XO_v0 (ev_assign rfl) rfl rfl rfl ?_
      refine XO_v0 (ev_assign rfl) rfl rfl rfl ?_
      refine XO_v0 (ev_assign rfl) rfl rfl rfl ?_
      refine XO_nil ?_
      refine at_then ?_
      refine X_ret ?_
      first
      | exact at_ret3 rfl rfl rfl rfl (fun w hw => ⟨by rw [hb2.1, hb2.2, hb]; rfl, hw.drop⟩)
      | exact at_ret3 rfl rfl rfl rfl (fun w hw => ⟨by rw [hb2.1, hb2.2, hb], hw.drop⟩)
theorem w_long (I : HMap) (a : Option Addr) (n c : Nat) : RetV Tryd.prog 55 [.slice a n c] I (.bool (decide ((n : Int) > 64))) := by
  intro g H w hw
  refine enter Tryd.func55 rfl Tryd.ntmps55 rfl hw ?_
  refine X_seq ?_
  refine X_region ?_
  refine XO_v0 (ev_assign rfl) rfl rfl rfl ?_
  refine XO_nil ?_
  refine at_then ?_
  refine X_seq ?_
  refine X_region ?_
  refine XO_v0 (ev_move rfl) rfl rfl rfl ?_
  refine XO_v0 (ev_lenS rfl slt_22) rfl rfl rfl ?_
  refine XO_v0 (ev_cmp rfl rfl rfl) rfl rfl rfl ?_
  refine XO_v0 (ev_assign rfl) rfl rfl rfl ?_
  refine XO_nil ?_
  refine at_then ?_
  refine X_ret ?_
  exact at_ret1 rfl rfl (fun w hw => ⟨by first | rfl | simp_all, hw.drop⟩)
theorem w_state (I : HMap) (v : Int) : RetV Tryd.prog 57 [.int .i64 v] I (.bool (decide (v < 0) || decide (v > 8589934592))) := by
  intro g H w hw
  refine enter Tryd.func57 rfl Tryd.ntmps57 rfl hw ?_
  refine X_seq ?_
  refine X_region ?_
  refine XO_v0 (ev_assign rfl) rfl rfl rfl ?_
  refine XO_nil ?_
  refine at_then ?_
  refine X_seq ?_
  refine X_region ?_
  refine XO_v0 (ev_move rfl) rfl rfl rfl ?_
  refine XO_v0 (ev_cmp rfl rfl rfl) rfl rfl rfl ?_
  refine XO_v0 (ev_move rfl) rfl rfl rfl ?_
  refine XO_pushF 2 rfl rfl rfl ?_
  refine XO_v1 (ev_move rfl) (.some rfl rfl rfl rfl gbf) rfl rfl rfl ?_
  refine XO_v1 (ev_cmp rfl rfl rfl) (.some rfl rfl rfl rfl gbf) rfl rfl rfl ?_
  refine XO_or0 rfl rfl rfl rfl rfl ?_
  refine XO_v0 (ev_assign rfl) rfl rfl rfl ?_
  refine XO_nil ?_
  refine at_then ?_
  refine X_ret ?_
  exact at_ret1 rfl rfl (fun w hw => ⟨by first | rfl | simp_all, hw.drop⟩)
theorem w_indexF {I : HMap} {bv : Option Addr} {n2 c2 : Nat} {hs : List Hd} (hH : Sl I 1 encH bv n2 c2 hs) (hn : n2 ≤ 100000) : RetV Tryd.prog 66 [.slice bv n2 c2, .func (.func 55) #[] #[]] I (.int .i64 (idxF (fun h : Hd => decide ((h.n : Int) > 64)) hs)) := by
  intro g H w hw
  refine enter Tryd.func66 rfl Tryd.ntmps66 rfl hw ?_
  refine X_seq ?_
  refine X_region ?_
  refine XO_v0 (ev_assign rfl) rfl rfl rfl ?_
  refine XO_nil ?_
  refine at_then ?_
  refine X_seq ?_
  refine X_seq ?_
  refine X_region ?_
  refine XO_v0 (ev_move rfl) rfl rfl rfl ?_
  refine XO_v0 (ev_lenS rfl slt_28) rfl rfl rfl ?_
  refine XO_v0 (ev_move rfl) rfl rfl rfl ?_
  refine XO_nil ?_
  refine at_then ?_
  refine X_block ?_
  refine X_loopT [(0, _), (1, _), (7, _)] (.cons rfl (.cons rfl (.cons rfl .nil))) (fun T L0 mz E I' loc' => ∃ (k : Nat), mz = n2 - k ∧ E = (8, .int .i64 k) :: T ∧ I = I' ∧ L0 = loc' ∧ k ≤ n2 ∧ (hs.take k).any (fun h : Hd => decide ((h.n : Int) > 64)) = false) _ _ _ _ ⟨0, rfl, rfl, rfl, rfl, Nat.zero_le _, rfl⟩ (.cons rfl (.cons rfl (.cons rfl (.cons rfl .nil)))) (HLe.refl _) rfl ?_
  rintro mz E I' loc' ⟨k, rfl, rfl, rfl, rfl, hk, hno⟩
  refine X_seq ?_
  refine X_region ?_
  refine XO_v0 (ev_cmp rfl rfl rfl) rfl rfl rfl ?_
  refine XO_nil ?_
  refine at_then ?_
  refine X_seq ?_
  refine X_cond rfl (fun hc9 => ?_) (fun hc9 => ?_)
  · skip
    have hlt_k : k < n2 := by have h := hc9; simp at h; omega
    obtain ⟨x, hx⟩ := hH.at hlt_k
    refine X_skip ?_
    refine at_then ?_
    refine X_seq ?_
    refine X_block ?_
    refine X_seq ?_
    refine X_region ?_
    refine XO_v0 (ev_move rfl) rfl rfl rfl ?_
    refine XO_v0 (ev_assign rfl) rfl rfl rfl ?_
    refine XO_nil ?_
    refine at_then ?_
    refine X_seq ?_
    refine X_region ?_
    refine XO_v0 (ev_move rfl) rfl rfl rfl ?_
    refine XO_v0 (ev_move rfl) rfl rfl rfl ?_
    refine XO_v0 (ev_move rfl) rfl rfl rfl ?_
    refine XO_v0 (ev_indexSl rfl rfl slt_28 (by assumption) (fun hg => by first | omega | (simp [conj] at hg; omega))) rfl rfl rfl ?_
    refine XO_v0 (ev_load rfl sct_22 (fun hg => by first | exact Sl.get0 hH hx rfl | exact Cell.h0 rfl | exact Cell.h1 rfl | exact Cell.h2 rfl | exact Cell.h3 rfl | exact Cell.h4 rfl | exact Cell.h5 rfl | (repeat (first | exact Cell.here rfl | apply Cell.there | apply Cell.app)))) rfl rfl rfl ?_
    refine XO_callV0 (cap := []) (vs := [_]) rfl rfl fun_55 (w_long I x.a x.n x.c) rfl rfl ?_
    refine XO_nil ?_
    refine at_then ?_
    refine X_cond rfl (fun hc16 => ?_) (fun hc16 => ?_)
    · skip
      refine X_seq ?_
      refine X_region ?_
      refine XO_v0 (ev_move rfl) rfl rfl rfl ?_
      refine XO_v0 (ev_assign rfl) rfl rfl rfl ?_
      refine XO_nil ?_
      refine at_then ?_
      refine X_ret ?_
      refine at_block_r ?_
      refine at_then_r ?_
      refine at_then_r ?_
      refine at_block_r ?_
      refine at_then_r ?_
      first
      | exact at_ret1 rfl rfl (fun w hw => ⟨by rw [idx_hit hno hx hc16], hw.drop⟩)
      | exact at_ret1 rfl rfl (fun w hw => ⟨by rw [idx_none hH.len hge_k hno], hw.drop⟩)
    · skip
      refine X_skip ?_
      refine at_block_n ?_
      refine at_then ?_
      refine X_region ?_
      refine XO_v0 (ev_arB rfl rfl rfl (fun _ => by omega)) rfl rfl rfl ?_
      refine XO_v0 (ev_move rfl) rfl rfl rfl ?_
      refine XO_nil ?_
      exact at_met2 _ _ ⟨n2 - (k + 1), by omega, k + 1, rfl, rfl, rfl, rfl, by omega, any_no hx hno hc16⟩ (.cons rfl (.cons rfl (.cons rfl (.cons rfl .nil)))) (by repeat (first | exact .refl | exact subL_left | refine subL_app ?_ | refine .drop ?_ | refine subL_add ?_))
  · skip
    have hge_k : n2 ≤ k := by have h := hc9; simp at h; omega
    refine X_exit ?_
    refine at_then_e ?_
    refine at_then_e ?_
    refine at_block_hit ?_
    refine at_then ?_
    refine X_seq ?_
    refine X_region ?_
    refine XO_v0 (ev_assign rfl) rfl rfl rfl ?_
    refine XO_nil ?_
    refine at_then ?_
    refine X_ret ?_
    first
    | exact at_ret1 rfl rfl (fun w hw => ⟨by rw [idx_hit hno hx hc16], hw.drop⟩)
    | exact at_ret1 rfl rfl (fun w hw => ⟨by rw [idx_none hH.len hge_k hno], hw.drop⟩)
theorem w_containsF {I : HMap} {bv : Option Addr} {n2 c2 : Nat} {hs : List Hd} (hH : Sl I 1 encH bv n2 c2 hs) (hn : n2 ≤ 100000) : RetV Tryd.prog 54 [.slice bv n2 c2, .func (.func 55) #[] #[]] I (.bool (hs.any (fun h : Hd => decide ((h.n : Int) > 64)))) := by
  intro g H w hw
  refine enter Tryd.func54 rfl Tryd.ntmps54 rfl hw ?_
  refine X_seq ?_
  refine X_region ?_
  refine XO_v0 (ev_assign rfl) rfl rfl rfl ?_
  refine XO_nil ?_
  refine at_then ?_
  refine X_seq ?_
  refine X_region ?_
  refine XO_v0 (ev_move rfl) rfl rfl rfl ?_
  refine XO_v0 (ev_move rfl) rfl rfl rfl ?_
  refine XO_callV0 (cap := []) (vs := [_, _]) rfl rfl fun_66 (w_indexF hH hn) rfl rfl ?_
  refine XO_v0 (ev_cmp rfl rfl rfl) rfl rfl rfl ?_
  refine XO_v0 (ev_assign rfl) rfl rfl rfl ?_
  refine XO_nil ?_
  refine at_then ?_
  refine X_ret ?_
  first
  | exact at_ret1 rfl rfl (fun w hw => ⟨by rw [← idx_any], hw.drop⟩)
theorem w_indexG {I : HMap} {av : Option Addr} {n c : Nat} {xs : List Int} (hS : Sl I 1 encI av n c xs) (hn : n ≤ 100000) : RetV Tryd.prog 67 [.slice av n c, .func (.func 57) #[] #[]] I (.int .i64 (idxF (fun v => decide (v < 0) || decide (v > 8589934592)) xs)) := by
  intro g H w hw
  refine enter Tryd.func67 rfl Tryd.ntmps67 rfl hw ?_
  refine X_seq ?_
  refine X_region ?_
  refine XO_v0 (ev_assign rfl) rfl rfl rfl ?_
  refine XO_nil ?_
  refine at_then ?_
  refine X_seq ?_
  refine X_seq ?_
  refine X_region ?_
  refine XO_v0 (ev_move rfl) rfl rfl rfl ?_
  refine XO_v0 (ev_lenS rfl slt_22) rfl rfl rfl ?_
  refine XO_v0 (ev_move rfl) rfl rfl rfl ?_
  refine XO_nil ?_
  refine at_then ?_
  refine X_block ?_
  refine X_loopT [(0, _), (1, _), (7, _)] (.cons rfl (.cons rfl (.cons rfl .nil))) (fun T L0 mz E I' loc' => ∃ (k : Nat), mz = n - k ∧ E = (8, .int .i64 k) :: T ∧ I = I' ∧ L0 = loc' ∧ k ≤ n ∧ (xs.take k).any (fun v => decide (v < 0) || decide (v > 8589934592)) = false) _ _ _ _ ⟨0, rfl, rfl, rfl, rfl, Nat.zero_le _, rfl⟩ (.cons rfl (.cons rfl (.cons rfl (.cons rfl .nil)))) (HLe.refl _) rfl ?_
  rintro mz E I' loc' ⟨k, rfl, rfl, rfl, rfl, hk, hno⟩
  refine X_seq ?_
  refine X_region ?_
  refine XO_v0 (ev_cmp rfl rfl rfl) rfl rfl rfl ?_
  refine XO_nil ?_
  refine at_then ?_
  refine X_seq ?_
  refine X_cond rfl (fun hc9 => ?_) (fun hc9 => ?_)
  · skip
    have hlt_k : k < n := by have h := hc9; simp at h; omega
    obtain ⟨x, hx⟩ := hS.at hlt_k
    refine X_skip ?_
    refine at_then ?_
    refine X_seq ?_
    refine X_block ?_
    refine X_seq ?_
    refine X_region ?_
    refine XO_v0 (ev_move rfl) rfl rfl rfl ?_
    refine XO_v0 (ev_assign rfl) rfl rfl rfl ?_
    refine XO_nil ?_
    refine at_then ?_
    refine X_seq ?_
    refine X_region ?_
    refine XO_v0 (ev_move rfl) rfl rfl rfl ?_
    refine XO_v0 (ev_move rfl) rfl rfl rfl ?_
    refine XO_v0 (ev_move rfl) rfl rfl rfl ?_
    refine XO_v0 (ev_indexSl rfl rfl slt_22 (by assumption) (fun hg => by first | omega | (simp [conj] at hg; omega))) rfl rfl rfl ?_
    refine XO_v0 (ev_load rfl sct_3 (fun hg => by first | exact Sl.get0 hS hx rfl | exact Cell.h0 rfl | exact Cell.h1 rfl | exact Cell.h2 rfl | exact Cell.h3 rfl | exact Cell.h4 rfl | exact Cell.h5 rfl | (repeat (first | exact Cell.here rfl | apply Cell.there | apply Cell.app)))) rfl rfl rfl ?_
    refine XO_callV0 (cap := []) (vs := [_]) rfl rfl fun_57 (w_state I _) rfl rfl ?_
    refine XO_nil ?_
    refine at_then ?_
    refine X_cond rfl (fun hc16 => ?_) (fun hc16 => ?_)
    · skip
      refine X_seq ?_
      refine X_region ?_
      refine XO_v0 (ev_move rfl) rfl rfl rfl ?_
      refine XO_v0 (ev_assign rfl) rfl rfl rfl ?_
      refine XO_nil ?_
      refine at_then ?_
      refine X_ret ?_
      refine at_block_r ?_
      refine at_then_r ?_
      refine at_then_r ?_
      refine at_block_r ?_
      refine at_then_r ?_
      first
      | exact at_ret1 rfl rfl (fun w hw => ⟨by rw [idx_hit hno hx hc16], hw.drop⟩)
      | exact at_ret1 rfl rfl (fun w hw => ⟨by rw [idx_none hS.len hge_k hno], hw.drop⟩)
    · skip
      refine X_skip ?_
      refine at_block_n ?_
      refine at_then ?_
      refine X_region ?_
      refine XO_v0 (ev_arB rfl rfl rfl (fun _ => by omega)) rfl rfl rfl ?_
      refine XO_v0 (ev_move rfl) rfl rfl rfl ?_
      refine XO_nil ?_
      exact at_met2 _ _ ⟨n - (k + 1), by omega, k + 1, rfl, rfl, rfl, rfl, by omega, any_no hx hno hc16⟩ (.cons rfl (.cons rfl (.cons rfl (.cons rfl .nil)))) (by repeat (first | exact .refl | exact subL_left | refine subL_app ?_ | refine .drop ?_ | refine subL_add ?_))
  · skip
    have hge_k : n ≤ k := by have h := hc9; simp at h; omega
    refine X_exit ?_
    refine at_then_e ?_
    refine at_then_e ?_
    refine at_block_hit ?_
    refine at_then ?_
    refine X_seq ?_
    refine X_region ?_
    refine XO_v0 (ev_assign rfl) rfl rfl rfl ?_
    refine XO_nil ?_
    refine at_then ?_
    refine X_ret ?_
    first
    | exact at_ret1 rfl rfl (fun w hw => ⟨by rw [idx_hit hno hx hc16], hw.drop⟩)
    | exact at_ret1 rfl rfl (fun w hw => ⟨by rw [idx_none hS.len hge_k hno], hw.drop⟩)
theorem w_containsG {I : HMap} {av : Option Addr} {n c : Nat} {xs : List Int} (hS : Sl I 1 encI av n c xs) (hn : n ≤ 100000) : RetV Tryd.prog 56 [.slice av n c, .func (.func 57) #[] #[]] I (.bool (xs.any (fun v => decide (v < 0) || decide (v > 8589934592)))) := by
  intro g H w hw
  refine enter Tryd.func56 rfl Tryd.ntmps56 rfl hw ?_
  refine X_seq ?_
  refine X_region ?_
  refine XO_v0 (ev_assign rfl) rfl rfl rfl ?_
  refine XO_nil ?_
  refine at_then ?_
  refine X_seq ?_
  refine X_region ?_
  refine XO_v0 (ev_move rfl) rfl rfl rfl ?_
  refine XO_v0 (ev_move rfl) rfl rfl rfl ?_
  refine XO_callV0 (cap := []) (vs := [_, _]) rfl rfl fun_67 (w_indexG hS hn) rfl rfl ?_
  refine XO_v0 (ev_cmp rfl rfl rfl) rfl rfl rfl ?_
  refine XO_v0 (ev_assign rfl) rfl rfl rfl ?_
  refine XO_nil ?_
  refine at_then ?_
  refine X_ret ?_
  first
  | exact at_ret1 rfl rfl (fun w hw => ⟨by rw [← idx_any], hw.drop⟩)
end Go.Proofs.YtkpmnnflikkhmaaDoor
end
section
namespace Go.Proofs.YtkpmnnflikkhmaaDoor
open Go Go.Kn Go.Proofs
def stateP (v : Int) : Bool := decide (v < 0) || decide (v > 8589934592)
def rowP (w : Nat) (r : List Int) : Bool := decide ((r.length : Int) ≠ w) || r.any stateP
def rowsN (rows : List (List Int)) : Int :=
  if decide ((rows.length : Int) > 6) || rows.any (fun r => decide ((r.length : Int) > 64)) then 2 else if rows.length = 0 then 420
  else if rows.any (rowP (rows.getD 0 []).length) then 420 else 0
theorem rows_1 {rows : List (List Int)} (h : (decide ((rows.length : Int) > 6) || rows.any (fun r => decide ((r.length : Int) > 64))) = true) : rowsN rows = 2 := by unfold rowsN; rw [if_pos h]
theorem rows_2 {rows : List (List Int)} (h : (decide ((rows.length : Int) > 6) || rows.any (fun r => decide ((r.length : Int) > 64))) = false) (h2 : rows.length = 0) : rowsN rows = 420 := by unfold rowsN; rw [if_neg (by rw [h]; decide), if_pos h2]
theorem rows_3 {rows : List (List Int)} (h : (decide ((rows.length : Int) > 6) || rows.any (fun r => decide ((r.length : Int) > 64))) = false) (h2 : ¬ rows.length = 0) : rowsN rows = if rows.any (rowP (rows.getD 0 []).length) then 420 else 0 := by
  unfold rowsN; rw [if_neg (by rw [h]; decide), if_neg h2]
theorem rows_64 {rows : List (List Int)} (h : (decide ((rows.length : Int) > 6) || rows.any (fun r => decide ((r.length : Int) > 64))) = false) {v : List Int} (hv : v ∈ rows) : v.length ≤ 64 := by
  rw [Bool.or_eq_false_iff] at h
  have := List.any_eq_false.1 h.2 v hv
  simp at this; omega
/-- A slice's heads have their lists' lengths. -/
theorem heads_any {I : HMap} {av : Option Addr} {n c : Nat} {hs : List Hd} {vss : List (List Int)} (h : SlH I av n c hs vss) (p : Int → Bool) : hs.any (fun x : Hd => p (x.n : Int)) = vss.any (fun r => p (r.length : Int)) := by
  have hl := h.2.1
  have hlen : ∀ (k : Nat) (x : Hd) (v : List Int), hs[k]? = some x → vss[k]? = some v → v.length = x.n := fun k x v a b => (h.2.2 k x v a b).len
  clear h
  rw [Bool.eq_iff_iff, List.any_eq_true, List.any_eq_true]
  constructor
  · rintro ⟨x, hx, hp⟩
    obtain ⟨k, hk⟩ := List.getElem?_of_mem hx
    have hk2 : vss[k]? = some (vss[k]'(by have := (List.getElem?_eq_some_iff.1 hk).1; omega)) := List.getElem?_eq_getElem _
    exact ⟨_, List.mem_of_getElem? hk2, by rw [hlen k _ _ hk hk2]; exact hp⟩
  · rintro ⟨v, hv, hp⟩
    obtain ⟨k, hk⟩ := List.getElem?_of_mem hv
    have hk2 : hs[k]? = some (hs[k]'(by have := (List.getElem?_eq_some_iff.1 hk).1; omega)) := List.getElem?_eq_getElem _
    exact ⟨_, List.mem_of_getElem? hk2, by rw [← hlen k _ _ hk2 hk]; exact hp⟩
end Go.Proofs.YtkpmnnflikkhmaaDoor
end
section
namespace Go.Proofs.YtkpmnnflikkhmaaDoor
open Go Go.Kn Go.Proofs
theorem w_few {I : HMap} {av : Option Addr} {n c : Nat} {rows : List (List Int)} (hV : SlN I av n c rows) : RetV Tryd.prog 18 [.slice av n c] I (.bool (fewR rows)) := by
  intro g H w hw
  refine enter Tryd.func18 rfl Tryd.ntmps18 rfl hw ?_
  obtain ⟨hs, hV⟩ := hV
  have hH := hV.1
  have hlV := hV.len
  refine X_seq ?_
  refine X_region ?_
  refine XO_v0 (ev_assign rfl) rfl rfl rfl ?_
  refine XO_nil ?_
  refine at_then ?_
  refine X_seq ?_
  refine X_seq ?_
  refine X_region ?_
  refine XO_v0 (ev_move rfl) rfl rfl rfl ?_
  refine XO_v0 (ev_lenS rfl slt_28) rfl rfl rfl ?_
  refine XO_v0 (ev_cmp rfl rfl rfl) rfl rfl rfl ?_
  refine XO_nil ?_
  refine at_then ?_
  refine X_cond rfl (fun hc6 => ?_) (fun hc6 => ?_)
  · skip
    have h6 : rows.length > 6 := by simp at hc6; omega
    refine X_seq ?_
    refine X_region ?_
    refine XO_v0 (ev_move rfl) rfl rfl rfl ?_
    refine XO_v0 (ev_lenS rfl slt_28) rfl rfl rfl ?_
    refine XO_v0 (ev_cmp rfl rfl rfl) rfl rfl rfl ?_
    refine XO_v0 (ev_assign rfl) rfl rfl rfl ?_
    refine XO_nil ?_
    refine at_then ?_
    refine X_ret ?_
    refine at_then_r ?_
    first
    | exact at_ret1 rfl rfl (fun w hw => ⟨by unfold fewR; rw [if_pos h6, hlV], hw.drop⟩)
    | exact at_ret1 rfl rfl (fun w hw => ⟨by unfold fewR; rw [if_neg h6, hall, hlV]; rfl, hw.drop⟩)
    | exact at_ret1 rfl rfl (fun w hw => ⟨by unfold fewR; rw [if_neg h6, List.all_eq_false.2 ⟨v, List.mem_of_getElem? hv, by rw [hQ.len, hc37]; decide⟩]; rfl, hw.drop⟩)
  · skip
    have h6 : ¬ rows.length > 6 := by simp at hc6; omega
    refine X_skip ?_
    refine at_then ?_
    refine X_seq ?_
    refine X_seq ?_
    refine X_region ?_
    refine XO_v0 (ev_assign rfl) rfl rfl rfl ?_
    refine XO_nil ?_
    refine at_then ?_
    refine X_block ?_
    refine X_loopT [(0, _)] (.cons rfl .nil) (fun T L0 mz E I' loc' => ∃ (k : Nat), mz = n - k ∧ E = (3, .int .i64 k) :: T ∧ I = I' ∧ L0 = loc' ∧ k ≤ n ∧ (rows.take k).all (fun r => !(decide ((r.length : Int) > 12) && (decide ((r.length : Int) ≤ 64) || decide ((r.length : Int) > 100)))) = true) _ _ _ _ ⟨0, rfl, rfl, rfl, rfl, Nat.zero_le _, rfl⟩ (.cons rfl (.cons rfl .nil)) (HLe.refl _) rfl ?_
    rintro mz E I' loc' ⟨k, rfl, rfl, rfl, rfl, hk, hall⟩
    refine X_seq ?_
    refine X_seq ?_
    refine X_region ?_
    refine XO_v0 (ev_move rfl) rfl rfl rfl ?_
    refine XO_v0 (ev_move rfl) rfl rfl rfl ?_
    refine XO_v0 (ev_lenS rfl slt_28) rfl rfl rfl ?_
    refine XO_v0 (ev_cmp rfl rfl rfl) rfl rfl rfl ?_
    refine XO_nil ?_
    refine at_then ?_
    refine X_cond rfl (fun hc13 => ?_) (fun hc13 => ?_)
    · skip
      have hlt_k : k < n := by have h := hc13; simp at h; omega
      obtain ⟨x, v, hx, hv, hQ⟩ := hV.at hlt_k
      refine X_skip ?_
      refine at_then ?_
      refine X_seq ?_
      refine X_block ?_
      refine X_seq ?_
      refine X_region ?_
      refine XO_v0 (ev_move rfl) rfl rfl rfl ?_
      refine XO_v0 (ev_move rfl) rfl rfl rfl ?_
      refine XO_v0 (ev_indexSl rfl rfl slt_28 (by assumption) (fun hg => by first | omega | (simp [conj] at hg; omega))) rfl rfl rfl ?_
      refine XO_v0 (ev_load rfl sct_22 (fun hg => by first | exact Sl.get0 hH hx rfl | exact Cell.h0 rfl | exact Cell.h1 rfl | exact Cell.h2 rfl | exact Cell.h3 rfl | exact Cell.h4 rfl | exact Cell.h5 rfl | (repeat (first | exact Cell.here rfl | apply Cell.there | apply Cell.app)))) rfl rfl rfl ?_
      refine XO_v0 (ev_lenS rfl slt_22) rfl rfl rfl ?_
      refine XO_v0 (ev_cmp rfl rfl rfl) rfl rfl rfl ?_
      refine XO_v0 (ev_move rfl) rfl rfl rfl ?_
      refine XO_pushT 6 rfl rfl rfl ?_
      refine XO_v1 (ev_move rfl) (.some rfl rfl rfl rfl gbt) rfl rfl rfl ?_
      refine XO_v1 (ev_move rfl) (.some rfl rfl rfl rfl gbt) rfl rfl rfl ?_
      refine XO_v1 (ev_indexSl rfl rfl slt_28 (by assumption) (fun hg => by first | omega | (simp [conj] at hg; omega))) (.some rfl rfl rfl rfl gbt) rfl rfl rfl ?_
      refine XO_v1 (ev_load rfl sct_22 (fun hg => by first | exact Sl.get0 hH hx rfl | exact Cell.h0 rfl | exact Cell.h1 rfl | exact Cell.h2 rfl | exact Cell.h3 rfl | exact Cell.h4 rfl | exact Cell.h5 rfl | (repeat (first | exact Cell.here rfl | apply Cell.there | apply Cell.app)))) (.some rfl rfl rfl rfl gbt) rfl rfl rfl ?_
      refine XO_v1 (ev_lenS rfl slt_22) (.some rfl rfl rfl rfl gbt) rfl rfl rfl ?_
      refine XO_v1 (ev_cmp rfl rfl rfl) (.some rfl rfl rfl rfl gbt) rfl rfl rfl ?_
      refine XO_v1 (ev_move rfl) (.some rfl rfl rfl rfl gbt) rfl rfl rfl ?_
      refine XO_pushF 13 rfl rfl rfl ?_
      refine XO_v1 (ev_move rfl) (.some rfl rfl rfl rfl gbf) rfl rfl rfl ?_
      refine XO_v1 (ev_move rfl) (.some rfl rfl rfl rfl gbf) rfl rfl rfl ?_
      refine XO_v1 (ev_indexSl rfl rfl slt_28 (by assumption) (fun hg => by first | omega | (simp [conj] at hg; omega))) (.some rfl rfl rfl rfl gbf) rfl rfl rfl ?_
      refine XO_v1 (ev_load rfl sct_22 (fun hg => by first | exact Sl.get0 hH hx rfl | exact Cell.h0 rfl | exact Cell.h1 rfl | exact Cell.h2 rfl | exact Cell.h3 rfl | exact Cell.h4 rfl | exact Cell.h5 rfl | (repeat (first | exact Cell.here rfl | apply Cell.there | apply Cell.app)))) (.some rfl rfl rfl rfl gbf) rfl rfl rfl ?_
      refine XO_v1 (ev_lenS rfl slt_22) (.some rfl rfl rfl rfl gbf) rfl rfl rfl ?_
      refine XO_v1 (ev_cmp rfl rfl rfl) (.some rfl rfl rfl rfl gbf) rfl rfl rfl ?_
      refine XO_or1 rfl rfl rfl (.some rfl rfl rfl rfl gbt) rfl rfl ?_
      refine XO_and0 rfl rfl rfl rfl rfl ?_
      refine XO_nil ?_
      refine at_then ?_
      refine X_cond rfl (fun hc37 => ?_) (fun hc37 => ?_)
      · skip
        refine X_seq ?_
        refine X_region ?_
        refine XO_v0 (ev_assign rfl) rfl rfl rfl ?_
        refine XO_nil ?_
        refine at_then ?_
        refine X_ret ?_
        refine at_block_r ?_
        refine at_then_r ?_
        refine at_then_r ?_
        refine at_block_r ?_
        refine at_then_r ?_
        first
        | exact at_ret1 rfl rfl (fun w hw => ⟨by unfold fewR; rw [if_pos h6, hlV], hw.drop⟩)
        | exact at_ret1 rfl rfl (fun w hw => ⟨by unfold fewR; rw [if_neg h6, hall, hlV]; rfl, hw.drop⟩)
        | exact at_ret1 rfl rfl (fun w hw => ⟨by unfold fewR; rw [if_neg h6, List.all_eq_false.2 ⟨v, List.mem_of_getElem? hv, by rw [hQ.len, hc37]; decide⟩]; rfl, hw.drop⟩)
      · skip
        refine X_skip ?_
        refine at_block_n ?_
        refine at_then ?_
        refine X_region ?_
        refine XO_v0 (ev_move rfl) rfl rfl rfl ?_
        refine XO_v0 (ev_arB rfl rfl rfl (fun _ => by omega)) rfl rfl rfl ?_
        refine XO_v0 (ev_assign rfl) rfl rfl rfl ?_
        refine XO_nil ?_
        exact at_met2 _ _ ⟨n - (k + 1), by omega, k + 1, rfl, rfl, rfl, rfl, by omega, by rw [List.take_add_one, hv, List.all_append, hall, Option.toList_some, List.all_cons, List.all_nil, hQ.len, hc37]; rfl⟩ (.cons rfl (.cons rfl .nil)) (by repeat (first | exact .refl | exact subL_left | refine subL_app ?_ | refine .drop ?_ | refine subL_add ?_))
    · skip
      have hge_k : n ≤ k := by have h := hc13; simp at h; omega
      rw [take_all hlV hge_k] at hall
      refine X_exit ?_
      refine at_then_e ?_
      refine at_then_e ?_
      refine at_block_hit ?_
      refine at_then ?_
      refine X_seq ?_
      refine X_region ?_
      refine XO_v0 (ev_move rfl) rfl rfl rfl ?_
      refine XO_v0 (ev_lenS rfl slt_28) rfl rfl rfl ?_
      refine XO_v0 (ev_cmp rfl rfl rfl) rfl rfl rfl ?_
      refine XO_v0 (ev_assign rfl) rfl rfl rfl ?_
      refine XO_nil ?_
      refine at_then ?_
      refine X_ret ?_
      first
      | exact at_ret1 rfl rfl (fun w hw => ⟨by unfold fewR; rw [if_pos h6, hlV], hw.drop⟩)
      | exact at_ret1 rfl rfl (fun w hw => ⟨by unfold fewR; rw [if_neg h6, hall, hlV]; rfl, hw.drop⟩)
      | exact at_ret1 rfl rfl (fun w hw => ⟨by unfold fewR; rw [if_neg h6, List.all_eq_false.2 ⟨v, List.mem_of_getElem? hv, by rw [hQ.len, hc37]; decide⟩]; rfl, hw.drop⟩)
theorem w_table {I : HMap} {av : Option Addr} {n c : Nat} {rows : List (List Int)} (hV : SlN I av n c rows) (hn : n ≤ 100000) : RetV Tryd.prog 36 [.slice av n c] I (.int .i64 (rowsN rows)) := by
  intro g H w hw
  refine enter Tryd.func36 rfl Tryd.ntmps36 rfl hw ?_
  obtain ⟨hs, hV⟩ := hV
  have hH := hV.1
  have hlV := hV.len
  refine X_seq ?_
  refine X_region ?_
  refine XO_v0 (ev_assign rfl) rfl rfl rfl ?_
  refine XO_nil ?_
  refine at_then ?_
  refine X_seq ?_
  refine X_seq ?_
  refine X_region ?_
  refine XO_v0 (ev_move rfl) rfl rfl rfl ?_
  refine XO_v0 (ev_lenS rfl slt_28) rfl rfl rfl ?_
  refine XO_v0 (ev_cmp rfl rfl rfl) rfl rfl rfl ?_
  refine XO_v0 (ev_move rfl) rfl rfl rfl ?_
  refine XO_pushF 3 rfl rfl rfl ?_
  refine XO_v1 (ev_move rfl) (.some rfl rfl rfl rfl gbf) rfl rfl rfl ?_
  refine XO_callV1 (cap := []) (vs := [_, _]) rfl rfl fun_54 (fun hg => w_containsF hH hn) (.some rfl rfl rfl rfl gbf) rfl rfl ?_
  refine XO_or0 rfl rfl rfl rfl rfl ?_
  refine XO_nil ?_
  refine at_then ?_
  refine X_cond rfl (fun hc11 => ?_) (fun hc11 => ?_)
  · skip
    have h1 : (decide ((rows.length : Int) > 6) || rows.any (fun r => decide ((r.length : Int) > 64))) = true := by rw [hlV, ← heads_any hV (fun q => decide (q > 64))]; exact hc11
    refine X_seq ?_
    refine X_region ?_
    refine XO_v0 (ev_assign rfl) rfl rfl rfl ?_
    refine XO_nil ?_
    refine at_then ?_
    refine X_ret ?_
    refine at_then_r ?_
    first
    | exact at_ret1 rfl rfl (fun w hw => ⟨by rw [rows_1 h1], hw.drop⟩)
    | exact at_ret1 rfl rfl (fun w hw => ⟨by rw [rows_2 h1 h2], hw.drop⟩)
    | exact at_ret1 rfl rfl (fun w hw => ⟨by rw [rows_3 h1 h2, any_yes hv (by rw [hrow]; exact hc31)]; rfl, hw.drop⟩)
    | exact at_ret1 rfl rfl (fun w hw => ⟨by rw [rows_3 h1 h2, hno]; rfl, hw.drop⟩)
  · skip
    have h1 : (decide ((rows.length : Int) > 6) || rows.any (fun r => decide ((r.length : Int) > 64))) = false := by rw [hlV, ← heads_any hV (fun q => decide (q > 64))]; exact hc11
    refine X_skip ?_
    refine at_then ?_
    refine X_seq ?_
    refine X_seq ?_
    refine X_region ?_
    refine XO_v0 (ev_move rfl) rfl rfl rfl ?_
    refine XO_v0 (ev_lenS rfl slt_28) rfl rfl rfl ?_
    refine XO_v0 (ev_cmp rfl rfl rfl) rfl rfl rfl ?_
    refine XO_nil ?_
    refine at_then ?_
    refine X_cond rfl (fun hc14 => ?_) (fun hc14 => ?_)
    · skip
      have h2 : rows.length = 0 := by simp at hc14; omega
      refine X_seq ?_
      refine X_region ?_
      refine XO_v0 (ev_assign rfl) rfl rfl rfl ?_
      refine XO_nil ?_
      refine at_then ?_
      refine X_ret ?_
      refine at_then_r ?_
      first
      | exact at_ret1 rfl rfl (fun w hw => ⟨by rw [rows_1 h1], hw.drop⟩)
      | exact at_ret1 rfl rfl (fun w hw => ⟨by rw [rows_2 h1 h2], hw.drop⟩)
      | exact at_ret1 rfl rfl (fun w hw => ⟨by rw [rows_3 h1 h2, any_yes hv (by rw [hrow]; exact hc31)]; rfl, hw.drop⟩)
      | exact at_ret1 rfl rfl (fun w hw => ⟨by rw [rows_3 h1 h2, hno]; rfl, hw.drop⟩)
    · skip
      have h2 : ¬ rows.length = 0 := by simp at hc14; omega
      obtain ⟨x0, v0, hx0, hv0, hQ0⟩ := hV.at (show 0 < n by omega)
      refine X_skip ?_
      refine at_then ?_
      refine X_seq ?_
      refine X_seq ?_
      refine X_region ?_
      refine XO_v0 (ev_move rfl) rfl rfl rfl ?_
      refine XO_v0 (ev_lenS rfl slt_28) rfl rfl rfl ?_
      refine XO_v0 (ev_move rfl) rfl rfl rfl ?_
      refine XO_nil ?_
      refine at_then ?_
      refine X_block ?_
      refine X_loopT [(0, _), (15, _), (16, _)] (.cons rfl (.cons rfl (.cons rfl .nil))) (fun T L0 mz E I' loc' => ∃ (k : Nat), mz = n - k ∧ E = (17, .int .i64 k) :: T ∧ I = I' ∧ L0 = loc' ∧ k ≤ n ∧ (rows.take k).any (rowP (rows.getD 0 []).length) = false) _ _ _ _ ⟨0, rfl, rfl, rfl, rfl, Nat.zero_le _, rfl⟩ (.cons rfl (.cons rfl (.cons rfl (.cons rfl .nil)))) (HLe.refl _) rfl ?_
      rintro mz E I' loc' ⟨k, rfl, rfl, rfl, rfl, hk, hno⟩
      refine X_seq ?_
      refine X_region ?_
      refine XO_v0 (ev_cmp rfl rfl rfl) rfl rfl rfl ?_
      refine XO_nil ?_
      refine at_then ?_
      refine X_seq ?_
      refine X_cond rfl (fun hc18 => ?_) (fun hc18 => ?_)
      · skip
        have hlt_k : k < n := by have h := hc18; simp at h; omega
        obtain ⟨x, v, hx, hv, hQ⟩ := hV.at hlt_k
        have hrow : rowP (rows.getD 0 []).length v = (((x.n : Int) != (x0.n : Int)) || v.any stateP) := by unfold rowP; rw [getD_of hv0, hQ.len, hQ0.len]; congr 1; exact Bool.eq_iff_iff.2 (by simp)
        refine X_skip ?_
        refine at_then ?_
        refine X_seq ?_
        refine X_block ?_
        refine X_seq ?_
        refine X_region ?_
        refine XO_v0 (ev_indexSl rfl rfl slt_28 (by assumption) (fun hg => by first | omega | (simp [conj] at hg; omega))) rfl rfl rfl ?_
        refine XO_v0 (ev_load rfl sct_22 (fun hg => by first | exact Sl.get0 hH hx rfl | exact Sl.get0 (k := 0) hH hx0 rfl | exact Cell.h0 rfl | exact Cell.h1 rfl | exact Cell.h2 rfl | exact Cell.h3 rfl | exact Cell.h4 rfl | exact Cell.h5 rfl | (repeat (first | exact Cell.here rfl | apply Cell.there | apply Cell.app)))) rfl rfl rfl ?_
        refine XO_v0 (ev_assign rfl) rfl rfl rfl ?_
        refine XO_nil ?_
        refine at_then ?_
        refine X_seq ?_
        refine X_region ?_
        refine XO_v0 (ev_move rfl) rfl rfl rfl ?_
        refine XO_v0 (ev_lenS rfl slt_22) rfl rfl rfl ?_
        refine XO_v0 (ev_move rfl) rfl rfl rfl ?_
        refine XO_v0 (ev_indexSl rfl rfl slt_28 (by assumption) (fun hg => by first | omega | (simp [conj] at hg; omega))) rfl rfl rfl ?_
        refine XO_v0 (ev_load rfl sct_22 (fun hg => by first | exact Sl.get0 hH hx rfl | exact Sl.get0 (k := 0) hH hx0 rfl | exact Cell.h0 rfl | exact Cell.h1 rfl | exact Cell.h2 rfl | exact Cell.h3 rfl | exact Cell.h4 rfl | exact Cell.h5 rfl | (repeat (first | exact Cell.here rfl | apply Cell.there | apply Cell.app)))) rfl rfl rfl ?_
        refine XO_v0 (ev_lenS rfl slt_22) rfl rfl rfl ?_
        refine XO_v0 (ev_cmp rfl rfl rfl) rfl rfl rfl ?_
        refine XO_v0 (ev_move rfl) rfl rfl rfl ?_
        refine XO_pushF 7 rfl rfl rfl ?_
        refine XO_v1 (ev_move rfl) (.some rfl rfl rfl rfl gbf) rfl rfl rfl ?_
        refine XO_callV1 (cap := []) (vs := [_, _]) rfl rfl fun_56 (fun hg => w_containsG hQ (by rw [← hQ.len]; have := rows_64 h1 (List.mem_of_getElem? hv); omega)) (.some rfl rfl rfl rfl gbf) rfl rfl ?_
        refine XO_or0 rfl rfl rfl rfl rfl ?_
        refine XO_nil ?_
        refine at_then ?_
        refine X_cond rfl (fun hc31 => ?_) (fun hc31 => ?_)
        · skip
          refine X_seq ?_
          refine X_region ?_
          refine XO_v0 (ev_assign rfl) rfl rfl rfl ?_
          refine XO_nil ?_
          refine at_then ?_
          refine X_ret ?_
          refine at_block_r ?_
          refine at_then_r ?_
          refine at_then_r ?_
          refine at_block_r ?_
          refine at_then_r ?_
          first
          | exact at_ret1 rfl rfl (fun w hw => ⟨by rw [rows_1 h1], hw.drop⟩)
          | exact at_ret1 rfl rfl (fun w hw => ⟨by rw [rows_2 h1 h2], hw.drop⟩)
          | exact at_ret1 rfl rfl (fun w hw => ⟨by rw [rows_3 h1 h2, any_yes hv (by rw [hrow]; exact hc31)]; rfl, hw.drop⟩)
          | exact at_ret1 rfl rfl (fun w hw => ⟨by rw [rows_3 h1 h2, hno]; rfl, hw.drop⟩)
        · skip
          refine X_skip ?_
          refine at_block_n ?_
          refine at_then ?_
          refine X_region ?_
          refine XO_v0 (ev_arB rfl rfl rfl (fun _ => by omega)) rfl rfl rfl ?_
          refine XO_v0 (ev_move rfl) rfl rfl rfl ?_
          refine XO_nil ?_
          exact at_met2 _ _ ⟨n - (k + 1), by omega, k + 1, rfl, rfl, rfl, rfl, by omega, any_no hv hno (by rw [hrow]; exact hc31)⟩ (.cons rfl (.cons rfl (.cons rfl (.cons rfl .nil)))) (by repeat (first | exact .refl | exact subL_left | refine subL_app ?_ | refine .drop ?_ | refine subL_add ?_))
      · skip
        have hge_k : n ≤ k := by have h := hc18; simp at h; omega
        rw [take_all hlV hge_k] at hno
        refine X_exit ?_
        refine at_then_e ?_
        refine at_then_e ?_
        refine at_block_hit ?_
        refine at_then ?_
        refine X_seq ?_
        refine X_region ?_
        refine XO_v0 (ev_assign rfl) rfl rfl rfl ?_
        refine XO_nil ?_
        refine at_then ?_
        refine X_ret ?_
        first
        | exact at_ret1 rfl rfl (fun w hw => ⟨by rw [rows_1 h1], hw.drop⟩)
        | exact at_ret1 rfl rfl (fun w hw => ⟨by rw [rows_2 h1 h2], hw.drop⟩)
        | exact at_ret1 rfl rfl (fun w hw => ⟨by rw [rows_3 h1 h2, any_yes hv (by rw [hrow]; exact hc31)]; rfl, hw.drop⟩)
        | exact at_ret1 rfl rfl (fun w hw => ⟨by rw [rows_3 h1 h2, hno]; rfl, hw.drop⟩)
end Go.Proofs.YtkpmnnflikkhmaaDoor
end
section
namespace Go.Proofs.YtkpmnnflikkhmaaDoor
open Go Go.Kn Go.Proofs
theorem take_next {α : Type} {xs ys : List α} {k : Nat} {x y : α} (hx : xs[k]? = some x) (hy : ys[k]? = some y) (he : xs.take k = ys.take k) (h : x = y) : xs.take (k + 1) = ys.take (k + 1) := by
  rw [List.take_add_one, List.take_add_one, hx, hy, he, h]
theorem same_ne {α : Type} [DecidableEq α] {xs ys : List α} {k : Nat} {x y : α} (hx : xs[k]? = some x) (hy : ys[k]? = some y) (h : x ≠ y) : sameF xs ys = false :=
  decide_eq_false fun e => h (by rw [e, hy] at hx; exact (Option.some.inj hx).symm)
theorem same_len {α : Type} [DecidableEq α] {xs ys : List α} {n m : Nat} (h1 : xs.length = n) (h2 : ys.length = m) (h : n ≠ m) : sameF xs ys = false :=
  decide_eq_false fun e => h (by rw [← h1, ← h2, e])
theorem w_same {I : HMap} {av : Option Addr} {n c : Nat} {rows : List (List Int)} (hV : SlN I av n c rows) {bv : Option Addr} {n2 c2 : Nat} {rows2 : List (List Int)} (hW : SlN I bv n2 c2 rows2) (hn : n ≤ 100000) (hr : ∀ r ∈ rows, r.length ≤ 100000) : RetV Tryd.prog 17 [.slice av n c, .slice bv n2 c2] I (.bool (sameF rows rows2)) := by
  intro g H w hw
  refine enter Tryd.func17 rfl Tryd.ntmps17 rfl hw ?_
  obtain ⟨hs, hV⟩ := hV
  obtain ⟨gs, hW⟩ := hW
  have hH := hV.1
  have hG := hW.1
  have hlV := hV.len
  have hlW := hW.len
  refine X_seq ?_
  refine X_region ?_
  refine XO_v0 (ev_assign rfl) rfl rfl rfl ?_
  refine XO_nil ?_
  refine at_then ?_
  refine X_seq ?_
  refine X_seq ?_
  refine X_region ?_
  refine XO_v0 (ev_move rfl) rfl rfl rfl ?_
  refine XO_v0 (ev_lenS rfl slt_28) rfl rfl rfl ?_
  refine XO_v0 (ev_move rfl) rfl rfl rfl ?_
  refine XO_v0 (ev_lenS rfl slt_28) rfl rfl rfl ?_
  refine XO_v0 (ev_cmp rfl rfl rfl) rfl rfl rfl ?_
  refine XO_nil ?_
  refine at_then ?_
  refine X_cond rfl (fun hc11 => ?_) (fun hc11 => ?_)
  · skip
    refine X_seq ?_
    refine X_region ?_
    refine XO_v0 (ev_assign rfl) rfl rfl rfl ?_
    refine XO_nil ?_
    refine at_then ?_
    refine X_ret ?_
    refine at_then_r ?_
    first
    | exact at_ret1 rfl rfl (fun w hw => ⟨by rw [same_len hlV hlW (by simp at hc11; omega)], hw.drop⟩)
    | exact at_ret1 rfl rfl (fun w hw => ⟨by rw [hall, same_self], hw.drop⟩)
    | exact at_ret1 rfl rfl (fun w hw => ⟨by rw [same_ne hv hw1 (fun e => hlne (by rw [← hQ.len, ← hR.len, e]))], hw.drop⟩)
    | exact at_ret1 rfl rfl (fun w hw => ⟨by rw [same_ne hv hw1 (fun e => absurd hc52 (by rw [e, hz] at hu; cases hu; simp))], hw.drop⟩)
  · skip
    have hnn : n = n2 := by simp at hc11; omega
    refine X_skip ?_
    refine at_then ?_
    refine X_seq ?_
    refine X_seq ?_
    refine X_region ?_
    refine XO_v0 (ev_assign rfl) rfl rfl rfl ?_
    refine XO_nil ?_
    refine at_then ?_
    refine X_block ?_
    refine X_loopT [(0, _), (1, _)] (.cons rfl (.cons rfl .nil)) (fun T L0 mz E I' loc' => ∃ (k : Nat), mz = n - k ∧ E = (5, .int .i64 k) :: T ∧ I = I' ∧ L0 = loc' ∧ k ≤ n ∧ rows.take k = rows2.take k) _ _ _ _ ⟨0, rfl, rfl, rfl, rfl, Nat.zero_le _, rfl⟩ (.cons rfl (.cons rfl (.cons rfl .nil))) (HLe.refl _) rfl ?_
    rintro mz E I' loc' ⟨k, rfl, rfl, rfl, rfl, hk, he⟩
    refine X_seq ?_
    refine X_seq ?_
    refine X_region ?_
    refine XO_v0 (ev_move rfl) rfl rfl rfl ?_
    refine XO_v0 (ev_move rfl) rfl rfl rfl ?_
    refine XO_v0 (ev_lenS rfl slt_28) rfl rfl rfl ?_
    refine XO_v0 (ev_cmp rfl rfl rfl) rfl rfl rfl ?_
    refine XO_nil ?_
    refine at_then ?_
    refine X_cond rfl (fun hc15 => ?_) (fun hc15 => ?_)
    · skip
      have hlt_k : k < n := by have h := hc15; simp at h; omega
      obtain ⟨x, v, hx, hv, hQ⟩ := hV.at hlt_k
      obtain ⟨y, w1, hy, hw1, hR⟩ := hW.at (show k < n2 by omega)
      have hxl : x.n ≤ 100000 := by rw [← hQ.len]; exact hr v (List.mem_of_getElem? hv)
      refine X_skip ?_
      refine at_then ?_
      refine X_seq ?_
      refine X_block ?_
      refine X_seq ?_
      refine X_seq ?_
      refine X_draw mixed (by kernel_rfl) ?_
      refine XQ_v0 (ev_move rfl) rfl rfl rfl ?_
      refine XQ_v0 (ev_move rfl) rfl rfl rfl ?_
      refine XQ_v0 (ev_indexSl rfl rfl slt_28 (by assumption) (fun hg => by first | omega | (simp [conj] at hg; omega))) rfl rfl rfl ?_
      refine XQ_v0 (ev_load rfl sct_22 (fun hg => by first | exact Sl.get0 hH hx rfl | exact Sl.get0 hG hy rfl | exact Sl.get0 hQ hu rfl | exact Sl.get0 hR hz rfl | exact Cell.h0 rfl | exact Cell.h1 rfl | exact Cell.h2 rfl | exact Cell.h3 rfl | exact Cell.h4 rfl | exact Cell.h5 rfl | (repeat (first | exact Cell.here rfl | apply Cell.there | apply Cell.app)))) rfl rfl rfl ?_
      refine XQ_v0 (ev_lenS rfl slt_22) rfl rfl rfl ?_
      refine XQ_v0 (ev_move rfl) rfl rfl rfl ?_
      refine XQ_v0 (ev_move rfl) rfl rfl rfl ?_
      refine XQ_v0 (ev_indexSl rfl rfl slt_28 (by assumption) (fun hg => by first | omega | (simp [conj] at hg; omega))) rfl rfl rfl ?_
      refine XQ_v0 (ev_load rfl sct_22 (fun hg => by first | exact Sl.get0 hH hx rfl | exact Sl.get0 hG hy rfl | exact Sl.get0 hQ hu rfl | exact Sl.get0 hR hz rfl | exact Cell.h0 rfl | exact Cell.h1 rfl | exact Cell.h2 rfl | exact Cell.h3 rfl | exact Cell.h4 rfl | exact Cell.h5 rfl | (repeat (first | exact Cell.here rfl | apply Cell.there | apply Cell.app)))) rfl rfl rfl ?_
      refine XQ_v0 (ev_lenS rfl slt_22) rfl rfl rfl ?_
      refine XQ_v0 (ev_cmp rfl rfl rfl) rfl rfl rfl ?_
      refine XQ_nil ?_
      refine at_then ?_
      refine X_cond rfl (fun hc28 => ?_) (fun hc28 => ?_)
      · skip
        have hlne : x.n ≠ y.n := by simp at hc28; omega
        refine X_seq ?_
        refine X_region ?_
        refine XO_v0 (ev_assign rfl) rfl rfl rfl ?_
        refine XO_nil ?_
        refine at_then ?_
        refine X_ret ?_
        refine at_then_r ?_
        refine at_block_r ?_
        refine at_then_r ?_
        refine at_then_r ?_
        refine at_block_r ?_
        refine at_then_r ?_
        first
        | exact at_ret1 rfl rfl (fun w hw => ⟨by rw [same_len hlV hlW (by simp at hc11; omega)], hw.drop⟩)
        | exact at_ret1 rfl rfl (fun w hw => ⟨by rw [hall, same_self], hw.drop⟩)
        | exact at_ret1 rfl rfl (fun w hw => ⟨by rw [same_ne hv hw1 (fun e => hlne (by rw [← hQ.len, ← hR.len, e]))], hw.drop⟩)
        | exact at_ret1 rfl rfl (fun w hw => ⟨by rw [same_ne hv hw1 (fun e => absurd hc52 (by rw [e, hz] at hu; cases hu; simp))], hw.drop⟩)
      · skip
        have hxy : x.n = y.n := by simp at hc28; omega
        refine X_skip ?_
        refine at_then ?_
        refine X_seq ?_
        refine X_region ?_
        refine XO_v0 (ev_assign rfl) rfl rfl rfl ?_
        refine XO_nil ?_
        refine at_then ?_
        refine X_block ?_
        refine X_loopT [(0, _), (1, _), (5, _)] (.cons rfl (.cons rfl (.cons rfl .nil))) (fun T L0 mz E I' loc' => ∃ (j : Nat), mz = x.n - j ∧ E = (6, .int .i64 j) :: T ∧ I = I' ∧ L0 = loc' ∧ j ≤ x.n ∧ v.take j = w1.take j) _ _ _ _ ⟨0, rfl, rfl, rfl, rfl, Nat.zero_le _, rfl⟩ (.cons rfl (.cons rfl (.cons rfl (.cons rfl .nil)))) (HLe.refl _) rfl ?_
        rintro mz E I' loc' ⟨j, rfl, rfl, rfl, rfl, hj, hj⟩
        refine X_seq ?_
        refine X_seq ?_
        refine X_region ?_
        refine XO_v0 (ev_move rfl) rfl rfl rfl ?_
        refine XO_v0 (ev_move rfl) rfl rfl rfl ?_
        refine XO_v0 (ev_move rfl) rfl rfl rfl ?_
        refine XO_v0 (ev_indexSl rfl rfl slt_28 (by assumption) (fun hg => by first | omega | (simp [conj] at hg; omega))) rfl rfl rfl ?_
        refine XO_v0 (ev_load rfl sct_22 (fun hg => by first | exact Sl.get0 hH hx rfl | exact Sl.get0 hG hy rfl | exact Sl.get0 hQ hu rfl | exact Sl.get0 hR hz rfl | exact Cell.h0 rfl | exact Cell.h1 rfl | exact Cell.h2 rfl | exact Cell.h3 rfl | exact Cell.h4 rfl | exact Cell.h5 rfl | (repeat (first | exact Cell.here rfl | apply Cell.there | apply Cell.app)))) rfl rfl rfl ?_
        refine XO_v0 (ev_lenS rfl slt_22) rfl rfl rfl ?_
        refine XO_v0 (ev_cmp rfl rfl rfl) rfl rfl rfl ?_
        refine XO_nil ?_
        refine at_then ?_
        refine X_cond rfl (fun hc35 => ?_) (fun hc35 => ?_)
        · skip
          have hlt_j : j < x.n := by have h := hc35; simp at h; omega
          obtain ⟨u, hu⟩ := hQ.at hlt_j
          obtain ⟨z, hz⟩ := hR.at (show j < y.n by omega)
          refine X_skip ?_
          refine at_then ?_
          refine X_seq ?_
          refine X_block ?_
          refine X_seq ?_
          refine X_draw mixed (by kernel_rfl) ?_
          refine XQ_v0 (ev_move rfl) rfl rfl rfl ?_
          refine XQ_v0 (ev_move rfl) rfl rfl rfl ?_
          refine XQ_v0 (ev_indexSl rfl rfl slt_28 (by assumption) (fun hg => by first | omega | (simp [conj] at hg; omega))) rfl rfl rfl ?_
          refine XQ_v0 (ev_load rfl sct_22 (fun hg => by first | exact Sl.get0 hH hx rfl | exact Sl.get0 hG hy rfl | exact Sl.get0 hQ hu rfl | exact Sl.get0 hR hz rfl | exact Cell.h0 rfl | exact Cell.h1 rfl | exact Cell.h2 rfl | exact Cell.h3 rfl | exact Cell.h4 rfl | exact Cell.h5 rfl | (repeat (first | exact Cell.here rfl | apply Cell.there | apply Cell.app)))) rfl rfl rfl ?_
          refine XQ_v0 (ev_move rfl) rfl rfl rfl ?_
          refine XQ_v0 (ev_indexSl rfl rfl slt_22 (by assumption) (fun hg => by first | omega | (simp [conj] at hg; omega))) rfl rfl rfl ?_
          refine XQ_v0 (ev_load rfl sct_3 (fun hg => by first | exact Sl.get0 hH hx rfl | exact Sl.get0 hG hy rfl | exact Sl.get0 hQ hu rfl | exact Sl.get0 hR hz rfl | exact Cell.h0 rfl | exact Cell.h1 rfl | exact Cell.h2 rfl | exact Cell.h3 rfl | exact Cell.h4 rfl | exact Cell.h5 rfl | (repeat (first | exact Cell.here rfl | apply Cell.there | apply Cell.app)))) rfl rfl rfl ?_
          refine XQ_v0 (ev_move rfl) rfl rfl rfl ?_
          refine XQ_v0 (ev_move rfl) rfl rfl rfl ?_
          refine XQ_v0 (ev_indexSl rfl rfl slt_28 (by assumption) (fun hg => by first | omega | (simp [conj] at hg; omega))) rfl rfl rfl ?_
          refine XQ_v0 (ev_load rfl sct_22 (fun hg => by first | exact Sl.get0 hH hx rfl | exact Sl.get0 hG hy rfl | exact Sl.get0 hQ hu rfl | exact Sl.get0 hR hz rfl | exact Cell.h0 rfl | exact Cell.h1 rfl | exact Cell.h2 rfl | exact Cell.h3 rfl | exact Cell.h4 rfl | exact Cell.h5 rfl | (repeat (first | exact Cell.here rfl | apply Cell.there | apply Cell.app)))) rfl rfl rfl ?_
          refine XQ_v0 (ev_move rfl) rfl rfl rfl ?_
          refine XQ_v0 (ev_indexSl rfl rfl slt_22 (by assumption) (fun hg => by first | omega | (simp [conj] at hg; omega))) rfl rfl rfl ?_
          refine XQ_v0 (ev_load rfl sct_3 (fun hg => by first | exact Sl.get0 hH hx rfl | exact Sl.get0 hG hy rfl | exact Sl.get0 hQ hu rfl | exact Sl.get0 hR hz rfl | exact Cell.h0 rfl | exact Cell.h1 rfl | exact Cell.h2 rfl | exact Cell.h3 rfl | exact Cell.h4 rfl | exact Cell.h5 rfl | (repeat (first | exact Cell.here rfl | apply Cell.there | apply Cell.app)))) rfl rfl rfl ?_
          refine XQ_v0 (ev_cmp rfl rfl rfl) rfl rfl rfl ?_
          refine XQ_nil ?_
          refine at_then ?_
          refine X_cond rfl (fun hc52 => ?_) (fun hc52 => ?_)
          · skip
            refine X_seq ?_
            refine X_region ?_
            refine XO_v0 (ev_assign rfl) rfl rfl rfl ?_
            refine XO_nil ?_
            refine at_then ?_
            refine X_ret ?_
            refine at_block_r ?_
            refine at_then_r ?_
            refine at_then_r ?_
            refine at_block_r ?_
            refine at_block_r ?_
            refine at_then_r ?_
            refine at_then_r ?_
            refine at_block_r ?_
            refine at_then_r ?_
            first
            | exact at_ret1 rfl rfl (fun w hw => ⟨by rw [same_len hlV hlW (by simp at hc11; omega)], hw.drop⟩)
            | exact at_ret1 rfl rfl (fun w hw => ⟨by rw [hall, same_self], hw.drop⟩)
            | exact at_ret1 rfl rfl (fun w hw => ⟨by rw [same_ne hv hw1 (fun e => hlne (by rw [← hQ.len, ← hR.len, e]))], hw.drop⟩)
            | exact at_ret1 rfl rfl (fun w hw => ⟨by rw [same_ne hv hw1 (fun e => absurd hc52 (by rw [e, hz] at hu; cases hu; simp))], hw.drop⟩)
          · skip
            refine X_skip ?_
            refine at_block_n ?_
            refine at_then ?_
            refine X_region ?_
            refine XO_v0 (ev_move rfl) rfl rfl rfl ?_
            refine XO_v0 (ev_arB rfl rfl rfl (fun _ => by omega)) rfl rfl rfl ?_
            refine XO_v0 (ev_assign rfl) rfl rfl rfl ?_
            refine XO_nil ?_
            exact at_met2 _ _ ⟨x.n - (j + 1), by omega, j + 1, rfl, rfl, rfl, rfl, by omega, take_next hu hz hj (by simpa using hc52)⟩ (.cons rfl (.cons rfl (.cons rfl (.cons rfl .nil)))) (by repeat (first | exact .refl | exact subL_left | refine subL_app ?_ | refine .drop ?_ | refine subL_add ?_))
        · skip
          have hge_j : x.n ≤ j := by have h := hc35; simp at h; omega
          have hvw : v = w1 := by rw [take_all hQ.len hge_j, take_all hR.len (by omega)] at hj; exact hj
          refine X_exit ?_
          refine at_then_e ?_
          refine at_then_e ?_
          refine at_block_hit ?_
          refine at_block_n ?_
          refine at_then ?_
          refine X_region ?_
          refine XO_v0 (ev_move rfl) rfl rfl rfl ?_
          refine XO_v0 (ev_arB rfl rfl rfl (fun _ => by omega)) rfl rfl rfl ?_
          refine XO_v0 (ev_assign rfl) rfl rfl rfl ?_
          refine XO_nil ?_
          exact at_met2 _ _ ⟨n - (k + 1), by omega, k + 1, rfl, rfl, rfl, rfl, by omega, take_next hv hw1 he hvw⟩ (.cons rfl (.cons rfl (.cons rfl .nil))) (by repeat (first | exact .refl | exact subL_left | refine subL_app ?_ | refine .drop ?_ | refine subL_add ?_))
    · skip
      have hge_k : n ≤ k := by have h := hc15; simp at h; omega
      have hall : rows = rows2 := by rw [take_all hlV hge_k, take_all hlW (by omega)] at he; exact he
      refine X_exit ?_
      refine at_then_e ?_
      refine at_then_e ?_
      refine at_block_hit ?_
      refine at_then ?_
      refine X_seq ?_
      refine X_region ?_
      refine XO_v0 (ev_assign rfl) rfl rfl rfl ?_
      refine XO_nil ?_
      refine at_then ?_
      refine X_ret ?_
      first
      | exact at_ret1 rfl rfl (fun w hw => ⟨by rw [same_len hlV hlW (by simp at hc11; omega)], hw.drop⟩)
      | exact at_ret1 rfl rfl (fun w hw => ⟨by rw [hall, same_self], hw.drop⟩)
      | exact at_ret1 rfl rfl (fun w hw => ⟨by rw [same_ne hv hw1 (fun e => hlne (by rw [← hQ.len, ← hR.len, e]))], hw.drop⟩)
      | exact at_ret1 rfl rfl (fun w hw => ⟨by rw [same_ne hv hw1 (fun e => absurd hc52 (by rw [e, hz] at hu; cases hu; simp))], hw.drop⟩)
end Go.Proofs.YtkpmnnflikkhmaaDoor
end
section
namespace Go.Proofs.YtkpmnnflikkhmaaDoor
open Go Go.Kn Go.Proofs
def stepF (f t : Int) : Int := if f = t then 0 else if t = 0 then 1 else if f = 0 then 4 else 2
theorem step_in (f t : Int) : 0 ≤ stepF f t ∧ stepF f t ≤ 4 := by
  unfold stepF
  split
  · omega
  · split
    · omega
    · split <;> omega
/-- The least cost below a state: of the first k states. -/
def bestK (st cs : List Int) (s : Int) (k : Nat) : Int := (List.range k).foldl (fun b i => minI b (stepF s (st.getD i 0) + cs.getD i 0)) 1048576
def belowF (st cs : List Int) (s : Int) : Int := bestK st cs s st.length
theorem bestK_step {st cs : List Int} {s : Int} {k : Nat} {x y : Int} (hx : st[k]? = some x) (hy : cs[k]? = some y) : bestK st cs s (k + 1) = minI (bestK st cs s k) (stepF s x + y) := by
  unfold bestK
  rw [List.range_succ, List.foldl_append, List.foldl_cons, List.foldl_nil, getD_of hx, getD_of hy]
/-- Lexicographically less. -/
def lexF : List Int → List Int → Bool
  | x :: a, y :: b => if x ≠ y then decide (x < y) else lexF a b
  | _, _ => false
theorem drop_cons {α : Type} {xs : List α} {k : Nat} {x : α} (h : xs[k]? = some x) : xs.drop k = x :: xs.drop (k + 1) := by
  obtain ⟨h1, h2⟩ := List.getElem?_eq_some_iff.1 h
  rw [List.drop_eq_getElem_cons h1, h2]
theorem lex_ne {a b : List Int} {k : Nat} {x y : Int} (hx : a[k]? = some x) (hy : b[k]? = some y) (h : x ≠ y) : lexF (a.drop k) (b.drop k) = decide (x < y) := by rw [drop_cons hx, drop_cons hy, lexF, if_pos h]
theorem lex_eq {a b : List Int} {k : Nat} {x y : Int} (hx : a[k]? = some x) (hy : b[k]? = some y) (h : x = y) : lexF (a.drop k) (b.drop k) = lexF (a.drop (k + 1)) (b.drop (k + 1)) := by rw [drop_cons hx, drop_cons hy, lexF, if_neg (fun e => e h)]
theorem lex_end {a b : List Int} {k : Nat} (h : a.length ≤ k ∨ b.length ≤ k) : lexF (a.drop k) (b.drop k) = false := by
  rcases h with h | h
  · rw [List.drop_eq_nil_of_le h]; simp [lexF]
  · rw [List.drop_eq_nil_of_le h]
    cases a.drop k <;> simp [lexF]
def kindF (n : Int) : Int := if n = 0 then 1 else 0
end Go.Proofs.YtkpmnnflikkhmaaDoor
end
section
namespace Go.Proofs.YtkpmnnflikkhmaaDoor
open Go Go.Kn Go.Proofs
theorem w_Step (I : HMap) (f t : Int) : RetV Tryd.prog 98 [.int .i64 f, .int .i64 t] I (.int .i64 (stepF f t)) := by
  intro g H w hw
  refine enter Tryd.func98 rfl Tryd.ntmps98 rfl hw ?_
  refine X_seq ?_
  refine X_region ?_
  refine XO_v0 (ev_assign rfl) rfl rfl rfl ?_
  refine XO_nil ?_
  refine at_then ?_
  refine X_seq ?_
  refine X_seq ?_
  refine X_region ?_
  refine XO_v0 (ev_move rfl) rfl rfl rfl ?_
  refine XO_v0 (ev_move rfl) rfl rfl rfl ?_
  refine XO_v0 (ev_cmp rfl rfl rfl) rfl rfl rfl ?_
  refine XO_nil ?_
  refine at_then ?_
  refine X_cond rfl (fun hc7 => ?_) (fun hc7 => ?_)
  · skip
    refine X_seq ?_
    refine X_region ?_
    refine XO_v0 (ev_assign rfl) rfl rfl rfl ?_
    refine XO_nil ?_
    refine at_then ?_
    refine X_ret ?_
    refine at_then_r ?_
    exact at_ret1 rfl rfl (fun w hw => ⟨by unfold stepF; simp_all, hw.drop⟩)
  · skip
    refine X_skip ?_
    refine at_then ?_
    refine X_seq ?_
    refine X_seq ?_
    refine X_region ?_
    refine XO_v0 (ev_move rfl) rfl rfl rfl ?_
    refine XO_v0 (ev_cmp rfl rfl rfl) rfl rfl rfl ?_
    refine XO_nil ?_
    refine at_then ?_
    refine X_cond rfl (fun hc9 => ?_) (fun hc9 => ?_)
    · skip
      refine X_seq ?_
      refine X_region ?_
      refine XO_v0 (ev_assign rfl) rfl rfl rfl ?_
      refine XO_nil ?_
      refine at_then ?_
      refine X_ret ?_
      refine at_then_r ?_
      exact at_ret1 rfl rfl (fun w hw => ⟨by unfold stepF; simp_all, hw.drop⟩)
    · skip
      refine X_skip ?_
      refine at_then ?_
      refine X_seq ?_
      refine X_seq ?_
      refine X_region ?_
      refine XO_v0 (ev_move rfl) rfl rfl rfl ?_
      refine XO_v0 (ev_cmp rfl rfl rfl) rfl rfl rfl ?_
      refine XO_nil ?_
      refine at_then ?_
      refine X_cond rfl (fun hc11 => ?_) (fun hc11 => ?_)
      · skip
        refine X_seq ?_
        refine X_region ?_
        refine XO_v0 (ev_assign rfl) rfl rfl rfl ?_
        refine XO_nil ?_
        refine at_then ?_
        refine X_ret ?_
        refine at_then_r ?_
        exact at_ret1 rfl rfl (fun w hw => ⟨by unfold stepF; simp_all, hw.drop⟩)
      · skip
        refine X_skip ?_
        refine at_then ?_
        refine X_seq ?_
        refine X_region ?_
        refine XO_v0 (ev_assign rfl) rfl rfl rfl ?_
        refine XO_nil ?_
        refine at_then ?_
        refine X_ret ?_
        exact at_ret1 rfl rfl (fun w hw => ⟨by unfold stepF; simp_all, hw.drop⟩)
theorem w_below {I : HMap} {av : Option Addr} {n c : Nat} {xs : List Int} (hS : Sl I 1 encI av n c xs) {bv : Option Addr} {n2 c2 : Nat} {cs : List Int} (hC : Sl I 1 encI bv n2 c2 cs) (hn : n ≤ 100000) (hnn : n = n2) (hcs : ∀ y ∈ cs, 0 ≤ y ∧ y ≤ 1099511627776) (i : Nat) (hi : i < n) : RetV Tryd.prog 73 [.slice av n c, .int .i64 i, .slice bv n2 c2] I (.int .i64 (belowF xs cs (xs.getD i 0))) := by
  intro g H w hw
  refine enter Tryd.func73 rfl Tryd.ntmps73 rfl hw ?_
  obtain ⟨s0, h0⟩ := hS.at hi
  rw [getD_of h0]
  refine X_seq ?_
  refine X_region ?_
  refine XO_v0 (ev_assign rfl) rfl rfl rfl ?_
  refine XO_nil ?_
  refine at_then ?_
  refine X_seq ?_
  refine X_region ?_
  refine XO_v0 (ev_assign rfl) rfl rfl rfl ?_
  refine XO_nil ?_
  refine at_then ?_
  refine X_seq ?_
  refine X_seq ?_
  refine X_region ?_
  refine XO_v0 (ev_assign rfl) rfl rfl rfl ?_
  refine XO_nil ?_
  refine at_then ?_
  refine X_block ?_
  refine X_loopT [(0, _), (1, _), (2, _)] (.cons rfl (.cons rfl (.cons rfl .nil))) (fun T L0 mz E I' loc' => ∃ (k : Nat) (b : Int), mz = n - k ∧ E = (7, .int .i64 b) :: (8, .int .i64 k) :: T ∧ I = I' ∧ L0 = loc' ∧ k ≤ n ∧ b = bestK xs cs s0 k) _ _ _ _ ⟨0, _, rfl, rfl, rfl, rfl, Nat.zero_le _, rfl⟩ (.cons rfl (.cons rfl (.cons rfl (.cons rfl (.cons rfl .nil))))) (HLe.refl _) rfl ?_
  rintro mz E I' loc' ⟨k, b, rfl, rfl, rfl, rfl, hk, hb⟩
  refine X_seq ?_
  refine X_seq ?_
  refine X_region ?_
  refine XO_v0 (ev_move rfl) rfl rfl rfl ?_
  refine XO_v0 (ev_move rfl) rfl rfl rfl ?_
  refine XO_v0 (ev_lenS rfl slt_22) rfl rfl rfl ?_
  refine XO_v0 (ev_cmp rfl rfl rfl) rfl rfl rfl ?_
  refine XO_nil ?_
  refine at_then ?_
  refine X_cond rfl (fun hc12 => ?_) (fun hc12 => ?_)
  · skip
    have hlt_k : k < n := by have h := hc12; simp at h; omega
    obtain ⟨x, hx⟩ := hS.at hlt_k
    obtain ⟨y, hy⟩ := hC.at (show k < n2 by omega)
    refine X_skip ?_
    refine at_then ?_
    refine X_seq ?_
    refine X_block ?_
    refine X_draw mixed (by kernel_rfl) ?_
    refine XQ_v0 (ev_move rfl) rfl rfl rfl ?_
    refine XQ_v0 (ev_move rfl) rfl rfl rfl ?_
    refine XQ_v0 (ev_move rfl) rfl rfl rfl ?_
    refine XQ_v0 (ev_indexSl rfl rfl slt_22 (by assumption) (fun hg => by first | omega | (simp [conj] at hg; omega))) rfl rfl rfl ?_
    refine XQ_v0 (ev_load rfl sct_3 (fun hg => by first | exact Sl.get0 hS h0 rfl | exact Sl.get0 hS hx rfl | exact Sl.get0 hC hy rfl | exact Cell.h0 rfl | exact Cell.h1 rfl | exact Cell.h2 rfl | exact Cell.h3 rfl | exact Cell.h4 rfl | exact Cell.h5 rfl | (repeat (first | exact Cell.here rfl | apply Cell.there | apply Cell.app)))) rfl rfl rfl ?_
    refine XQ_v0 (ev_move rfl) rfl rfl rfl ?_
    refine XQ_v0 (ev_move rfl) rfl rfl rfl ?_
    refine XQ_v0 (ev_indexSl rfl rfl slt_22 (by assumption) (fun hg => by first | omega | (simp [conj] at hg; omega))) rfl rfl rfl ?_
    refine XQ_v0 (ev_load rfl sct_3 (fun hg => by first | exact Sl.get0 hS h0 rfl | exact Sl.get0 hS hx rfl | exact Sl.get0 hC hy rfl | exact Cell.h0 rfl | exact Cell.h1 rfl | exact Cell.h2 rfl | exact Cell.h3 rfl | exact Cell.h4 rfl | exact Cell.h5 rfl | (repeat (first | exact Cell.here rfl | apply Cell.there | apply Cell.app)))) rfl rfl rfl ?_
    refine XQ_callV0 (cap := []) (vs := [_, _]) rfl rfl fun_98 (w_Step I _ _) rfl rfl ?_
    refine XQ_v0 (ev_move rfl) rfl rfl rfl ?_
    refine XQ_v0 (ev_move rfl) rfl rfl rfl ?_
    refine XQ_v0 (ev_indexSl rfl rfl slt_22 (by assumption) (fun hg => by first | omega | (simp [conj] at hg; omega))) rfl rfl rfl ?_
    refine XQ_v0 (ev_load rfl sct_3 (fun hg => by first | exact Sl.get0 hS h0 rfl | exact Sl.get0 hS hx rfl | exact Sl.get0 hC hy rfl | exact Cell.h0 rfl | exact Cell.h1 rfl | exact Cell.h2 rfl | exact Cell.h3 rfl | exact Cell.h4 rfl | exact Cell.h5 rfl | (repeat (first | exact Cell.here rfl | apply Cell.there | apply Cell.app)))) rfl rfl rfl ?_
    refine XQ_v0 (ev_arB rfl rfl rfl (fun _ => by have h1 := step_in s0 x; have h2 := hcs y (List.mem_of_getElem? hy); omega)) rfl rfl rfl ?_
    refine XQ_v0 (ev_min rfl rfl) rfl rfl rfl ?_
    refine XQ_v0 (ev_assign rfl) rfl rfl rfl ?_
    refine XQ_nil ?_
    refine at_block_n ?_
    refine at_then ?_
    refine X_region ?_
    refine XO_v0 (ev_move rfl) rfl rfl rfl ?_
    refine XO_v0 (ev_arB rfl rfl rfl (fun _ => by have h1 := step_in s0 x; have h2 := hcs y (List.mem_of_getElem? hy); omega)) rfl rfl rfl ?_
    refine XO_v0 (ev_assign rfl) rfl rfl rfl ?_
    refine XO_nil ?_
    exact at_met2 _ _ ⟨n - (k + 1), by omega, k + 1, _, rfl, rfl, rfl, rfl, by omega, by rw [bestK_step hx hy, hb]⟩ (.cons rfl (.cons rfl (.cons rfl (.cons rfl (.cons rfl .nil))))) (by repeat (first | exact .refl | exact subL_left | refine subL_app ?_ | refine .drop ?_ | refine subL_add ?_))
  · skip
    have hge_k : n ≤ k := by have h := hc12; simp at h; omega
    have hkn : k = n := by omega
    refine X_exit ?_
    refine at_then_e ?_
    refine at_then_e ?_
    refine at_block_hit ?_
    refine at_then ?_
    refine X_seq ?_
    refine X_region ?_
    refine XO_v0 (ev_move rfl) rfl rfl rfl ?_
    refine XO_v0 (ev_assign rfl) rfl rfl rfl ?_
    refine XO_nil ?_
    refine at_then ?_
    refine X_ret ?_
    exact at_ret1 rfl rfl (fun w hw => ⟨by rw [hb, hkn, ← hS.len]; rfl, hw.drop⟩)
end Go.Proofs.YtkpmnnflikkhmaaDoor
end
section
namespace Go.Proofs.YtkpmnnflikkhmaaDoor
open Go Go.Kn Go.Proofs
theorem w_rrows {I : HMap} {av : Option Addr} {n c : Nat} {rows : List (List Int)} (hV : SlN I av n c rows) (hn : n ≤ 100000) : RetV Tryd.prog 38 [.slice av n c] I (.int .i64 (rowsN rows)) := by
  intro g H w hw
  refine enter Tryd.func38 rfl Tryd.ntmps38 rfl hw ?_
  obtain ⟨hs, hV⟩ := hV
  have hH := hV.1
  have hlV := hV.len
  refine X_seq ?_
  refine X_region ?_
  refine XO_v0 (ev_assign rfl) rfl rfl rfl ?_
  refine XO_nil ?_
  refine at_then ?_
  refine X_seq ?_
  refine X_seq ?_
  refine X_region ?_
  refine XO_v0 (ev_move rfl) rfl rfl rfl ?_
  refine XO_v0 (ev_lenS rfl slt_28) rfl rfl rfl ?_
  refine XO_v0 (ev_cmp rfl rfl rfl) rfl rfl rfl ?_
  refine XO_nil ?_
  refine at_then ?_
  refine X_cond rfl (fun hc8 => ?_) (fun hc8 => ?_)
  · skip
    have h1 : (decide ((rows.length : Int) > 6) || rows.any (fun r => decide ((r.length : Int) > 64))) = true := by rw [hlV, hc8]; rfl
    refine X_seq ?_
    refine X_region ?_
    refine XO_v0 (ev_assign rfl) rfl rfl rfl ?_
    refine XO_nil ?_
    refine at_then ?_
    refine X_ret ?_
    refine at_then_r ?_
    first
    | exact at_ret1 rfl rfl (fun w hw => ⟨by rw [rows_1 h1], hw.drop⟩)
    | exact at_ret1 rfl rfl (fun w hw => ⟨by rw [rows_2 h1 h2], hw.drop⟩)
    | exact at_ret1 rfl rfl (fun w hw => ⟨by rw [rows_3 h1 h2, any_yes hv hbad]; rfl, hw.drop⟩)
    | exact at_ret1 rfl rfl (fun w hw => ⟨by rw [rows_3 h1 h2, hno2]; rfl, hw.drop⟩)
  · skip
    have h8 : decide ((rows.length : Int) > 6) = false := by rw [hlV]; exact hc8
    refine X_skip ?_
    refine at_then ?_
    refine X_seq ?_
    refine X_seq ?_
    refine X_region ?_
    refine XO_v0 (ev_assign rfl) rfl rfl rfl ?_
    refine XO_nil ?_
    refine at_then ?_
    refine X_block ?_
    refine X_loopT [(0, _)] (.cons rfl .nil) (fun T L0 mz E I' loc' => ∃ (k : Nat), mz = n - k ∧ E = (3, .int .i64 k) :: T ∧ I = I' ∧ L0 = loc' ∧ k ≤ n ∧ (rows.take k).any (fun r => decide ((r.length : Int) > 64)) = false) _ _ _ _ ⟨0, rfl, rfl, rfl, rfl, Nat.zero_le _, rfl⟩ (.cons rfl (.cons rfl .nil)) (HLe.refl _) rfl ?_
    rintro mz E I' loc' ⟨k, rfl, rfl, rfl, rfl, hk, hno⟩
    refine X_seq ?_
    refine X_seq ?_
    refine X_region ?_
    refine XO_v0 (ev_move rfl) rfl rfl rfl ?_
    refine XO_v0 (ev_move rfl) rfl rfl rfl ?_
    refine XO_v0 (ev_lenS rfl slt_28) rfl rfl rfl ?_
    refine XO_v0 (ev_cmp rfl rfl rfl) rfl rfl rfl ?_
    refine XO_nil ?_
    refine at_then ?_
    refine X_cond rfl (fun hc12 => ?_) (fun hc12 => ?_)
    · skip
      have hlt_k : k < n := by have h := hc12; simp at h; omega
      obtain ⟨x, v, hx, hv, hQ⟩ := hV.at hlt_k
      refine X_skip ?_
      refine at_then ?_
      refine X_seq ?_
      refine X_block ?_
      refine X_seq ?_
      refine X_region ?_
      refine XO_v0 (ev_move rfl) rfl rfl rfl ?_
      refine XO_v0 (ev_move rfl) rfl rfl rfl ?_
      refine XO_v0 (ev_indexSl rfl rfl slt_28 (by assumption) (fun hg => by first | omega | (simp [conj] at hg; omega))) rfl rfl rfl ?_
      refine XO_v0 (ev_load rfl sct_22 (fun hg => by first | exact Sl.get0 hH hx rfl | exact Sl.get0 (k := 0) hH hx0 rfl | exact Sl.get0 hQ hu rfl | exact Cell.h0 rfl | exact Cell.h1 rfl | exact Cell.h2 rfl | exact Cell.h3 rfl | exact Cell.h4 rfl | exact Cell.h5 rfl | (repeat (first | exact Cell.here rfl | apply Cell.there | apply Cell.app)))) rfl rfl rfl ?_
      refine XO_v0 (ev_lenS rfl slt_22) rfl rfl rfl ?_
      refine XO_v0 (ev_cmp rfl rfl rfl) rfl rfl rfl ?_
      refine XO_nil ?_
      refine at_then ?_
      refine X_cond rfl (fun hc20 => ?_) (fun hc20 => ?_)
      · skip
        have h1 : (decide ((rows.length : Int) > 6) || rows.any (fun r => decide ((r.length : Int) > 64))) = true := by rw [h8, any_yes hv (by rw [hQ.len]; exact hc20)]; rfl
        refine X_seq ?_
        refine X_region ?_
        refine XO_v0 (ev_assign rfl) rfl rfl rfl ?_
        refine XO_nil ?_
        refine at_then ?_
        refine X_ret ?_
        refine at_block_r ?_
        refine at_then_r ?_
        refine at_then_r ?_
        refine at_block_r ?_
        refine at_then_r ?_
        first
        | exact at_ret1 rfl rfl (fun w hw => ⟨by rw [rows_1 h1], hw.drop⟩)
        | exact at_ret1 rfl rfl (fun w hw => ⟨by rw [rows_2 h1 h2], hw.drop⟩)
        | exact at_ret1 rfl rfl (fun w hw => ⟨by rw [rows_3 h1 h2, any_yes hv hbad]; rfl, hw.drop⟩)
        | exact at_ret1 rfl rfl (fun w hw => ⟨by rw [rows_3 h1 h2, hno2]; rfl, hw.drop⟩)
      · skip
        refine X_skip ?_
        refine at_block_n ?_
        refine at_then ?_
        refine X_region ?_
        refine XO_v0 (ev_move rfl) rfl rfl rfl ?_
        refine XO_v0 (ev_arB rfl rfl rfl (fun _ => by omega)) rfl rfl rfl ?_
        refine XO_v0 (ev_assign rfl) rfl rfl rfl ?_
        refine XO_nil ?_
        exact at_met2 _ _ ⟨n - (k + 1), by omega, k + 1, rfl, rfl, rfl, rfl, by omega, any_no hv hno (by rw [hQ.len]; exact hc20)⟩ (.cons rfl (.cons rfl .nil)) (by repeat (first | exact .refl | exact subL_left | refine subL_app ?_ | refine .drop ?_ | refine subL_add ?_))
    · skip
      have hge_k : n ≤ k := by have h := hc12; simp at h; omega
      rw [take_all hlV hge_k] at hno
      have h1 : (decide ((rows.length : Int) > 6) || rows.any (fun r => decide ((r.length : Int) > 64))) = false := by rw [h8, hno]; rfl
      refine X_exit ?_
      refine at_then_e ?_
      refine at_then_e ?_
      refine at_block_hit ?_
      refine at_then ?_
      refine X_seq ?_
      refine X_seq ?_
      refine X_region ?_
      refine XO_v0 (ev_move rfl) rfl rfl rfl ?_
      refine XO_v0 (ev_lenS rfl slt_28) rfl rfl rfl ?_
      refine XO_v0 (ev_cmp rfl rfl rfl) rfl rfl rfl ?_
      refine XO_nil ?_
      refine at_then ?_
      refine X_cond rfl (fun hc23 => ?_) (fun hc23 => ?_)
      · skip
        have h2 : rows.length = 0 := by simp at hc23; omega
        refine X_seq ?_
        refine X_region ?_
        refine XO_v0 (ev_assign rfl) rfl rfl rfl ?_
        refine XO_nil ?_
        refine at_then ?_
        refine X_ret ?_
        refine at_then_r ?_
        first
        | exact at_ret1 rfl rfl (fun w hw => ⟨by rw [rows_1 h1], hw.drop⟩)
        | exact at_ret1 rfl rfl (fun w hw => ⟨by rw [rows_2 h1 h2], hw.drop⟩)
        | exact at_ret1 rfl rfl (fun w hw => ⟨by rw [rows_3 h1 h2, any_yes hv hbad]; rfl, hw.drop⟩)
        | exact at_ret1 rfl rfl (fun w hw => ⟨by rw [rows_3 h1 h2, hno2]; rfl, hw.drop⟩)
      · skip
        have h2 : ¬ rows.length = 0 := by simp at hc23; omega
        obtain ⟨x0, v0, hx0, hv0, hQ0⟩ := hV.at (show 0 < n by omega)
        refine X_skip ?_
        refine at_then ?_
        refine X_seq ?_
        refine X_seq ?_
        refine X_region ?_
        refine XO_v0 (ev_assign rfl) rfl rfl rfl ?_
        refine XO_nil ?_
        refine at_then ?_
        refine X_block ?_
        refine X_loopT [(0, _)] (.cons rfl .nil) (fun T L0 mz E I' loc' => ∃ (i : Nat), mz = n - i ∧ E = (4, .int .i64 i) :: T ∧ I = I' ∧ L0 = loc' ∧ i ≤ n ∧ (rows.take i).any (rowP (rows.getD 0 []).length) = false) _ _ _ _ ⟨0, rfl, rfl, rfl, rfl, Nat.zero_le _, rfl⟩ (.cons rfl (.cons rfl .nil)) (HLe.refl _) rfl ?_
        rintro mz E I' loc' ⟨i, rfl, rfl, rfl, rfl, hi, hno2⟩
        refine X_seq ?_
        refine X_seq ?_
        refine X_region ?_
        refine XO_v0 (ev_move rfl) rfl rfl rfl ?_
        refine XO_v0 (ev_move rfl) rfl rfl rfl ?_
        refine XO_v0 (ev_lenS rfl slt_28) rfl rfl rfl ?_
        refine XO_v0 (ev_cmp rfl rfl rfl) rfl rfl rfl ?_
        refine XO_nil ?_
        refine at_then ?_
        refine X_cond rfl (fun hc27 => ?_) (fun hc27 => ?_)
        · skip
          have hlt_i : i < n := by have h := hc27; simp at h; omega
          obtain ⟨x, v, hx, hv, hQ⟩ := hV.at hlt_i
          have hxl : x.n ≤ 100000 := by rw [← hQ.len]; have := rows_64 h1 (List.mem_of_getElem? hv); omega
          refine X_skip ?_
          refine at_then ?_
          refine X_seq ?_
          refine X_block ?_
          refine X_seq ?_
          refine X_seq ?_
          refine X_draw mixed (by kernel_rfl) ?_
          refine XQ_v0 (ev_move rfl) rfl rfl rfl ?_
          refine XQ_v0 (ev_move rfl) rfl rfl rfl ?_
          refine XQ_v0 (ev_indexSl rfl rfl slt_28 (by assumption) (fun hg => by first | omega | (simp [conj] at hg; omega))) rfl rfl rfl ?_
          refine XQ_v0 (ev_load rfl sct_22 (fun hg => by first | exact Sl.get0 hH hx rfl | exact Sl.get0 (k := 0) hH hx0 rfl | exact Sl.get0 hQ hu rfl | exact Cell.h0 rfl | exact Cell.h1 rfl | exact Cell.h2 rfl | exact Cell.h3 rfl | exact Cell.h4 rfl | exact Cell.h5 rfl | (repeat (first | exact Cell.here rfl | apply Cell.there | apply Cell.app)))) rfl rfl rfl ?_
          refine XQ_v0 (ev_lenS rfl slt_22) rfl rfl rfl ?_
          refine XQ_v0 (ev_move rfl) rfl rfl rfl ?_
          refine XQ_v0 (ev_indexSl rfl rfl slt_28 (by assumption) (fun hg => by first | omega | (simp [conj] at hg; omega))) rfl rfl rfl ?_
          refine XQ_v0 (ev_load rfl sct_22 (fun hg => by first | exact Sl.get0 hH hx rfl | exact Sl.get0 (k := 0) hH hx0 rfl | exact Sl.get0 hQ hu rfl | exact Cell.h0 rfl | exact Cell.h1 rfl | exact Cell.h2 rfl | exact Cell.h3 rfl | exact Cell.h4 rfl | exact Cell.h5 rfl | (repeat (first | exact Cell.here rfl | apply Cell.there | apply Cell.app)))) rfl rfl rfl ?_
          refine XQ_v0 (ev_lenS rfl slt_22) rfl rfl rfl ?_
          refine XQ_v0 (ev_cmp rfl rfl rfl) rfl rfl rfl ?_
          refine XQ_nil ?_
          refine at_then ?_
          refine X_cond rfl (fun hc39 => ?_) (fun hc39 => ?_)
          · skip
            have hbad : rowP (rows.getD 0 []).length v = true := by unfold rowP; rw [getD_of hv0, hQ.len, hQ0.len, decide_eq_true (by simpa using hc39)]; rfl
            refine X_seq ?_
            refine X_region ?_
            refine XO_v0 (ev_assign rfl) rfl rfl rfl ?_
            refine XO_nil ?_
            refine at_then ?_
            refine X_ret ?_
            refine at_then_r ?_
            refine at_block_r ?_
            refine at_then_r ?_
            refine at_then_r ?_
            refine at_block_r ?_
            refine at_then_r ?_
            first
            | exact at_ret1 rfl rfl (fun w hw => ⟨by rw [rows_1 h1], hw.drop⟩)
            | exact at_ret1 rfl rfl (fun w hw => ⟨by rw [rows_2 h1 h2], hw.drop⟩)
            | exact at_ret1 rfl rfl (fun w hw => ⟨by rw [rows_3 h1 h2, any_yes hv hbad]; rfl, hw.drop⟩)
            | exact at_ret1 rfl rfl (fun w hw => ⟨by rw [rows_3 h1 h2, hno2]; rfl, hw.drop⟩)
          · skip
            have hne : decide ((x.n : Int) ≠ (x0.n : Nat)) = false := decide_eq_false (by simpa using hc39)
            refine X_skip ?_
            refine at_then ?_
            refine X_seq ?_
            refine X_region ?_
            refine XO_v0 (ev_assign rfl) rfl rfl rfl ?_
            refine XO_nil ?_
            refine at_then ?_
            refine X_block ?_
            refine X_loopT [(0, _), (4, _)] (.cons rfl (.cons rfl .nil)) (fun T L0 mz E I' loc' => ∃ (j : Nat), mz = x.n - j ∧ E = (5, .int .i64 j) :: T ∧ I = I' ∧ L0 = loc' ∧ j ≤ x.n ∧ (v.take j).any stateP = false) _ _ _ _ ⟨0, rfl, rfl, rfl, rfl, Nat.zero_le _, rfl⟩ (.cons rfl (.cons rfl (.cons rfl .nil))) (HLe.refl _) rfl ?_
            rintro mz E I' loc' ⟨j, rfl, rfl, rfl, rfl, hj, hst⟩
            refine X_seq ?_
            refine X_seq ?_
            refine X_region ?_
            refine XO_v0 (ev_move rfl) rfl rfl rfl ?_
            refine XO_v0 (ev_move rfl) rfl rfl rfl ?_
            refine XO_v0 (ev_move rfl) rfl rfl rfl ?_
            refine XO_v0 (ev_indexSl rfl rfl slt_28 (by assumption) (fun hg => by first | omega | (simp [conj] at hg; omega))) rfl rfl rfl ?_
            refine XO_v0 (ev_load rfl sct_22 (fun hg => by first | exact Sl.get0 hH hx rfl | exact Sl.get0 (k := 0) hH hx0 rfl | exact Sl.get0 hQ hu rfl | exact Cell.h0 rfl | exact Cell.h1 rfl | exact Cell.h2 rfl | exact Cell.h3 rfl | exact Cell.h4 rfl | exact Cell.h5 rfl | (repeat (first | exact Cell.here rfl | apply Cell.there | apply Cell.app)))) rfl rfl rfl ?_
            refine XO_v0 (ev_lenS rfl slt_22) rfl rfl rfl ?_
            refine XO_v0 (ev_cmp rfl rfl rfl) rfl rfl rfl ?_
            refine XO_nil ?_
            refine at_then ?_
            refine X_cond rfl (fun hc46 => ?_) (fun hc46 => ?_)
            · skip
              have hlt_j : j < x.n := by have h := hc46; simp at h; omega
              obtain ⟨u, hu⟩ := hQ.at hlt_j
              refine X_skip ?_
              refine at_then ?_
              refine X_seq ?_
              refine X_block ?_
              refine X_seq ?_
              refine X_region ?_
              refine XO_v0 (ev_move rfl) rfl rfl rfl ?_
              refine XO_v0 (ev_move rfl) rfl rfl rfl ?_
              refine XO_v0 (ev_indexSl rfl rfl slt_28 (by assumption) (fun hg => by first | omega | (simp [conj] at hg; omega))) rfl rfl rfl ?_
              refine XO_v0 (ev_load rfl sct_22 (fun hg => by first | exact Sl.get0 hH hx rfl | exact Sl.get0 (k := 0) hH hx0 rfl | exact Sl.get0 hQ hu rfl | exact Cell.h0 rfl | exact Cell.h1 rfl | exact Cell.h2 rfl | exact Cell.h3 rfl | exact Cell.h4 rfl | exact Cell.h5 rfl | (repeat (first | exact Cell.here rfl | apply Cell.there | apply Cell.app)))) rfl rfl rfl ?_
              refine XO_v0 (ev_move rfl) rfl rfl rfl ?_
              refine XO_v0 (ev_indexSl rfl rfl slt_22 (by assumption) (fun hg => by first | omega | (simp [conj] at hg; omega))) rfl rfl rfl ?_
              refine XO_v0 (ev_load rfl sct_3 (fun hg => by first | exact Sl.get0 hH hx rfl | exact Sl.get0 (k := 0) hH hx0 rfl | exact Sl.get0 hQ hu rfl | exact Cell.h0 rfl | exact Cell.h1 rfl | exact Cell.h2 rfl | exact Cell.h3 rfl | exact Cell.h4 rfl | exact Cell.h5 rfl | (repeat (first | exact Cell.here rfl | apply Cell.there | apply Cell.app)))) rfl rfl rfl ?_
              refine XO_v0 (ev_cmp rfl rfl rfl) rfl rfl rfl ?_
              refine XO_v0 (ev_move rfl) rfl rfl rfl ?_
              refine XO_pushF 8 rfl rfl rfl ?_
              refine XO_v1 (ev_move rfl) (.some rfl rfl rfl rfl gbf) rfl rfl rfl ?_
              refine XO_v1 (ev_move rfl) (.some rfl rfl rfl rfl gbf) rfl rfl rfl ?_
              refine XO_v1 (ev_indexSl rfl rfl slt_28 (by assumption) (fun hg => by first | omega | (simp [conj] at hg; omega))) (.some rfl rfl rfl rfl gbf) rfl rfl rfl ?_
              refine XO_v1 (ev_load rfl sct_22 (fun hg => by first | exact Sl.get0 hH hx rfl | exact Sl.get0 (k := 0) hH hx0 rfl | exact Sl.get0 hQ hu rfl | exact Cell.h0 rfl | exact Cell.h1 rfl | exact Cell.h2 rfl | exact Cell.h3 rfl | exact Cell.h4 rfl | exact Cell.h5 rfl | (repeat (first | exact Cell.here rfl | apply Cell.there | apply Cell.app)))) (.some rfl rfl rfl rfl gbf) rfl rfl rfl ?_
              refine XO_v1 (ev_move rfl) (.some rfl rfl rfl rfl gbf) rfl rfl rfl ?_
              refine XO_v1 (ev_indexSl rfl rfl slt_22 (by assumption) (fun hg => by first | omega | (simp [conj] at hg; omega))) (.some rfl rfl rfl rfl gbf) rfl rfl rfl ?_
              refine XO_v1 (ev_load rfl sct_3 (fun hg => by first | exact Sl.get0 hH hx rfl | exact Sl.get0 (k := 0) hH hx0 rfl | exact Sl.get0 hQ hu rfl | exact Cell.h0 rfl | exact Cell.h1 rfl | exact Cell.h2 rfl | exact Cell.h3 rfl | exact Cell.h4 rfl | exact Cell.h5 rfl | (repeat (first | exact Cell.here rfl | apply Cell.there | apply Cell.app)))) (.some rfl rfl rfl rfl gbf) rfl rfl rfl ?_
              refine XO_v1 (ev_cmp rfl rfl rfl) (.some rfl rfl rfl rfl gbf) rfl rfl rfl ?_
              refine XO_or0 rfl rfl rfl rfl rfl ?_
              refine XO_nil ?_
              refine at_then ?_
              refine X_cond rfl (fun hc66 => ?_) (fun hc66 => ?_)
              · skip
                have hbad : rowP (rows.getD 0 []).length v = true := by unfold rowP; rw [any_yes hu (by unfold stateP; exact hc66), Bool.or_true]
                refine X_seq ?_
                refine X_region ?_
                refine XO_v0 (ev_assign rfl) rfl rfl rfl ?_
                refine XO_nil ?_
                refine at_then ?_
                refine X_ret ?_
                refine at_block_r ?_
                refine at_then_r ?_
                refine at_then_r ?_
                refine at_block_r ?_
                refine at_block_r ?_
                refine at_then_r ?_
                refine at_then_r ?_
                refine at_block_r ?_
                refine at_then_r ?_
                first
                | exact at_ret1 rfl rfl (fun w hw => ⟨by rw [rows_1 h1], hw.drop⟩)
                | exact at_ret1 rfl rfl (fun w hw => ⟨by rw [rows_2 h1 h2], hw.drop⟩)
                | exact at_ret1 rfl rfl (fun w hw => ⟨by rw [rows_3 h1 h2, any_yes hv hbad]; rfl, hw.drop⟩)
                | exact at_ret1 rfl rfl (fun w hw => ⟨by rw [rows_3 h1 h2, hno2]; rfl, hw.drop⟩)
              · skip
                refine X_skip ?_
                refine at_block_n ?_
                refine at_then ?_
                refine X_region ?_
                refine XO_v0 (ev_move rfl) rfl rfl rfl ?_
                refine XO_v0 (ev_arB rfl rfl rfl (fun _ => by omega)) rfl rfl rfl ?_
                refine XO_v0 (ev_assign rfl) rfl rfl rfl ?_
                refine XO_nil ?_
                exact at_met2 _ _ ⟨x.n - (j + 1), by omega, j + 1, rfl, rfl, rfl, rfl, by omega, any_no hu hst (by unfold stateP; exact hc66)⟩ (.cons rfl (.cons rfl (.cons rfl .nil))) (by repeat (first | exact .refl | exact subL_left | refine subL_app ?_ | refine .drop ?_ | refine subL_add ?_))
            · skip
              have hge_j : x.n ≤ j := by have h := hc46; simp at h; omega
              rw [take_all hQ.len hge_j] at hst
              have hrow : rowP (rows.getD 0 []).length v = false := by unfold rowP; rw [getD_of hv0, hQ.len, hQ0.len, hne, hst]; rfl
              refine X_exit ?_
              refine at_then_e ?_
              refine at_then_e ?_
              refine at_block_hit ?_
              refine at_block_n ?_
              refine at_then ?_
              refine X_region ?_
              refine XO_v0 (ev_move rfl) rfl rfl rfl ?_
              refine XO_v0 (ev_arB rfl rfl rfl (fun _ => by omega)) rfl rfl rfl ?_
              refine XO_v0 (ev_assign rfl) rfl rfl rfl ?_
              refine XO_nil ?_
              exact at_met2 _ _ ⟨n - (i + 1), by omega, i + 1, rfl, rfl, rfl, rfl, by omega, any_no hv hno2 hrow⟩ (.cons rfl (.cons rfl .nil)) (by repeat (first | exact .refl | exact subL_left | refine subL_app ?_ | refine .drop ?_ | refine subL_add ?_))
        · skip
          have hge_i : n ≤ i := by have h := hc27; simp at h; omega
          rw [take_all hlV hge_i] at hno2
          refine X_exit ?_
          refine at_then_e ?_
          refine at_then_e ?_
          refine at_block_hit ?_
          refine at_then ?_
          refine X_seq ?_
          refine X_region ?_
          refine XO_v0 (ev_assign rfl) rfl rfl rfl ?_
          refine XO_nil ?_
          refine at_then ?_
          refine X_ret ?_
          first
          | exact at_ret1 rfl rfl (fun w hw => ⟨by rw [rows_1 h1], hw.drop⟩)
          | exact at_ret1 rfl rfl (fun w hw => ⟨by rw [rows_2 h1 h2], hw.drop⟩)
          | exact at_ret1 rfl rfl (fun w hw => ⟨by rw [rows_3 h1 h2, any_yes hv hbad]; rfl, hw.drop⟩)
          | exact at_ret1 rfl rfl (fun w hw => ⟨by rw [rows_3 h1 h2, hno2]; rfl, hw.drop⟩)
end Go.Proofs.YtkpmnnflikkhmaaDoor
end
section
namespace Go.Proofs.YtkpmnnflikkhmaaDoor
open Go Go.Kn Go.Proofs
theorem w_less {I : HMap} {av : Option Addr} {n c : Nat} {xs : List Int} (hS : Sl I 1 encI av n c xs) {bv : Option Addr} {n2 c2 : Nat} {ys : List Int} (hT : Sl I 1 encI bv n2 c2 ys) (hn : n ≤ 100000) : RetV Tryd.prog 52 [.slice av n c, .slice bv n2 c2] I (.bool (lexF xs ys)) := by
  intro g H w hw
  refine enter Tryd.func52 rfl Tryd.ntmps52 rfl hw ?_
  refine X_seq ?_
  refine X_region ?_
  refine XO_v0 (ev_assign rfl) rfl rfl rfl ?_
  refine XO_nil ?_
  refine at_then ?_
  refine X_seq ?_
  refine X_seq ?_
  refine X_region ?_
  refine XO_v0 (ev_assign rfl) rfl rfl rfl ?_
  refine XO_nil ?_
  refine at_then ?_
  refine X_block ?_
  refine X_loopT [(0, _), (1, _)] (.cons rfl (.cons rfl .nil)) (fun T L0 mz E I' loc' => ∃ (k : Nat), mz = n - k ∧ E = (5, .int .i64 k) :: T ∧ I = I' ∧ L0 = loc' ∧ k ≤ n ∧ lexF xs ys = lexF (xs.drop k) (ys.drop k)) _ _ _ _ ⟨0, rfl, rfl, rfl, rfl, Nat.zero_le _, rfl⟩ (.cons rfl (.cons rfl (.cons rfl .nil))) (HLe.refl _) rfl ?_
  rintro mz E I' loc' ⟨k, rfl, rfl, rfl, rfl, hk, hlx⟩
  refine X_seq ?_
  refine X_seq ?_
  refine X_region ?_
  refine XO_v0 (ev_move rfl) rfl rfl rfl ?_
  refine XO_v0 (ev_move rfl) rfl rfl rfl ?_
  refine XO_v0 (ev_lenS rfl slt_22) rfl rfl rfl ?_
  refine XO_v0 (ev_cmp rfl rfl rfl) rfl rfl rfl ?_
  refine XO_v0 (ev_move rfl) rfl rfl rfl ?_
  refine XO_pushT 4 rfl rfl rfl ?_
  refine XO_v1 (ev_move rfl) (.some rfl rfl rfl rfl gbt) rfl rfl rfl ?_
  refine XO_v1 (ev_move rfl) (.some rfl rfl rfl rfl gbt) rfl rfl rfl ?_
  refine XO_v1 (ev_lenS rfl slt_22) (.some rfl rfl rfl rfl gbt) rfl rfl rfl ?_
  refine XO_v1 (ev_cmp rfl rfl rfl) (.some rfl rfl rfl rfl gbt) rfl rfl rfl ?_
  refine XO_and0 rfl rfl rfl rfl rfl ?_
  refine XO_nil ?_
  refine at_then ?_
  refine X_cond rfl (fun hc15 => ?_) (fun hc15 => ?_)
  · skip
    have hlt_k : k < n := by simp at hc15; omega
    have hlt_2 : k < n2 := by simp at hc15; omega
    obtain ⟨x, hx⟩ := hS.at hlt_k
    obtain ⟨y, hy⟩ := hT.at hlt_2
    refine X_skip ?_
    refine at_then ?_
    refine X_seq ?_
    refine X_block ?_
    refine X_seq ?_
    refine X_draw mixed (by kernel_rfl) ?_
    refine XQ_v0 (ev_move rfl) rfl rfl rfl ?_
    refine XQ_v0 (ev_move rfl) rfl rfl rfl ?_
    refine XQ_v0 (ev_indexSl rfl rfl slt_22 (by assumption) (fun hg => by first | omega | (simp [conj] at hg; omega))) rfl rfl rfl ?_
    refine XQ_v0 (ev_load rfl sct_3 (fun hg => by first | exact Sl.get0 hS hx rfl | exact Sl.get0 hT hy rfl | exact Cell.h0 rfl | exact Cell.h1 rfl | exact Cell.h2 rfl | exact Cell.h3 rfl | exact Cell.h4 rfl | exact Cell.h5 rfl | (repeat (first | exact Cell.here rfl | apply Cell.there | apply Cell.app)))) rfl rfl rfl ?_
    refine XQ_v0 (ev_move rfl) rfl rfl rfl ?_
    refine XQ_v0 (ev_move rfl) rfl rfl rfl ?_
    refine XQ_v0 (ev_indexSl rfl rfl slt_22 (by assumption) (fun hg => by first | omega | (simp [conj] at hg; omega))) rfl rfl rfl ?_
    refine XQ_v0 (ev_load rfl sct_3 (fun hg => by first | exact Sl.get0 hS hx rfl | exact Sl.get0 hT hy rfl | exact Cell.h0 rfl | exact Cell.h1 rfl | exact Cell.h2 rfl | exact Cell.h3 rfl | exact Cell.h4 rfl | exact Cell.h5 rfl | (repeat (first | exact Cell.here rfl | apply Cell.there | apply Cell.app)))) rfl rfl rfl ?_
    refine XQ_v0 (ev_cmp rfl rfl rfl) rfl rfl rfl ?_
    refine XQ_nil ?_
    refine at_then ?_
    refine X_cond rfl (fun hc26 => ?_) (fun hc26 => ?_)
    · skip
      refine X_seq ?_
      refine X_draw mixed (by kernel_rfl) ?_
      refine XQ_v0 (ev_move rfl) rfl rfl rfl ?_
      refine XQ_v0 (ev_move rfl) rfl rfl rfl ?_
      refine XQ_v0 (ev_indexSl rfl rfl slt_22 (by assumption) (fun hg => by first | omega | (simp [conj] at hg; omega))) rfl rfl rfl ?_
      refine XQ_v0 (ev_load rfl sct_3 (fun hg => by first | exact Sl.get0 hS hx rfl | exact Sl.get0 hT hy rfl | exact Cell.h0 rfl | exact Cell.h1 rfl | exact Cell.h2 rfl | exact Cell.h3 rfl | exact Cell.h4 rfl | exact Cell.h5 rfl | (repeat (first | exact Cell.here rfl | apply Cell.there | apply Cell.app)))) rfl rfl rfl ?_
      refine XQ_v0 (ev_move rfl) rfl rfl rfl ?_
      refine XQ_v0 (ev_move rfl) rfl rfl rfl ?_
      refine XQ_v0 (ev_indexSl rfl rfl slt_22 (by assumption) (fun hg => by first | omega | (simp [conj] at hg; omega))) rfl rfl rfl ?_
      refine XQ_v0 (ev_load rfl sct_3 (fun hg => by first | exact Sl.get0 hS hx rfl | exact Sl.get0 hT hy rfl | exact Cell.h0 rfl | exact Cell.h1 rfl | exact Cell.h2 rfl | exact Cell.h3 rfl | exact Cell.h4 rfl | exact Cell.h5 rfl | (repeat (first | exact Cell.here rfl | apply Cell.there | apply Cell.app)))) rfl rfl rfl ?_
      refine XQ_v0 (ev_cmp rfl rfl rfl) rfl rfl rfl ?_
      refine XQ_v0 (ev_assign rfl) rfl rfl rfl ?_
      refine XQ_nil ?_
      refine at_then ?_
      refine X_ret ?_
      refine at_block_r ?_
      refine at_then_r ?_
      refine at_then_r ?_
      refine at_block_r ?_
      refine at_then_r ?_
      first
      | exact at_ret1 rfl rfl (fun w hw => ⟨by rw [hlx, lex_ne hx hy (by simpa using hc26)], hw.drop⟩)
      | exact at_ret1 rfl rfl (fun w hw => ⟨by rw [hlx, lex_end hge], hw.drop⟩)
    · skip
      refine X_skip ?_
      refine at_block_n ?_
      refine at_then ?_
      refine X_region ?_
      refine XO_v0 (ev_move rfl) rfl rfl rfl ?_
      refine XO_v0 (ev_arB rfl rfl rfl (fun _ => by omega)) rfl rfl rfl ?_
      refine XO_v0 (ev_assign rfl) rfl rfl rfl ?_
      refine XO_nil ?_
      exact at_met2 _ _ ⟨n - (k + 1), by omega, k + 1, rfl, rfl, rfl, rfl, by omega, by rw [hlx, lex_eq hx hy (by simpa using hc26)]⟩ (.cons rfl (.cons rfl (.cons rfl .nil))) (by repeat (first | exact .refl | exact subL_left | refine subL_app ?_ | refine .drop ?_ | refine subL_add ?_))
  · skip
    have hge : xs.length ≤ k ∨ ys.length ≤ k := by rw [hS.len, hT.len]; simp at hc15; exact (Nat.lt_or_ge k n).elim (fun h => .inr (hc15 h)) .inl
    refine X_exit ?_
    refine at_then_e ?_
    refine at_then_e ?_
    refine at_block_hit ?_
    refine at_then ?_
    refine X_seq ?_
    refine X_region ?_
    refine XO_v0 (ev_assign rfl) rfl rfl rfl ?_
    refine XO_nil ?_
    refine at_then ?_
    refine X_ret ?_
    first
    | exact at_ret1 rfl rfl (fun w hw => ⟨by rw [hlx, lex_ne hx hy (by simpa using hc26)], hw.drop⟩)
    | exact at_ret1 rfl rfl (fun w hw => ⟨by rw [hlx, lex_end hge], hw.drop⟩)
theorem w_kind (I : HMap) (n : Int) : RetV Tryd.prog 95 [.int .i64 n] I (.int .i64 (kindF n)) := by
  intro g H w hw
  refine enter Tryd.func95 rfl Tryd.ntmps95 rfl hw ?_
  refine X_seq ?_
  refine X_region ?_
  refine XO_v0 (ev_assign rfl) rfl rfl rfl ?_
  refine XO_nil ?_
  refine at_then ?_
  refine X_seq ?_
  refine X_seq ?_
  refine X_region ?_
  refine XO_v0 (ev_move rfl) rfl rfl rfl ?_
  refine XO_v0 (ev_cmp rfl rfl rfl) rfl rfl rfl ?_
  refine XO_nil ?_
  refine at_then ?_
  refine X_cond rfl (fun hc4 => ?_) (fun hc4 => ?_)
  · skip
    refine X_seq ?_
    refine X_region ?_
    refine XO_v0 (ev_assign rfl) rfl rfl rfl ?_
    refine XO_nil ?_
    refine at_then ?_
    refine X_ret ?_
    refine at_then_r ?_
    exact at_ret1 rfl rfl (fun w hw => ⟨by unfold kindF; simp_all, hw.drop⟩)
  · skip
    refine X_skip ?_
    refine at_then ?_
    refine X_seq ?_
    refine X_region ?_
    refine XO_v0 (ev_assign rfl) rfl rfl rfl ?_
    refine XO_nil ?_
    refine at_then ?_
    refine X_ret ?_
    exact at_ret1 rfl rfl (fun w hw => ⟨by unfold kindF; simp_all, hw.drop⟩)
end Go.Proofs.YtkpmnnflikkhmaaDoor
end
section
namespace Go.Kn
open Go
section
variable {C : Cx} {E : Env} {I : HMap} {loc : Loc} {S : GS} {dst : Option Tmp} {ty : TypeId} {pos : String} {af : Array Edge} {gd : Option (Nat × Bool)} {x y z : Operand}
end
end Go.Kn
namespace Go.Kn
open Go
section
variable {g : World} {I I' H : HMap} {loc loc' L R : Loc} {w w' : World}
end
end Go.Kn
namespace Go.Kn
open Go
section
variable {C : Cx} {Q : Exit → Act → World → Prop} {E : Env} {I : HMap} {loc : Loc} {ops : Array Oper} {rest : List Oper} {d : Nat} {ty : TypeId} {pos : String} {af : Array Edge} {gd : Option (Nat × Bool)} {x y : Operand}
end
end Go.Kn
namespace Go.Kn
open Go
section
variable {C : Cx} {Q : Exit → Act → World → Prop} {E : Env} {I : HMap} {loc : Loc} {ops : Array Oper} {rest : List Oper} {d : Nat} {ty : TypeId} {pos : String} {af : Array Edge} {gd : Option (Nat × Bool)} {x y : Operand}
end
section
variable {C : Cx} {S : GS} {E : Env} {I : HMap} {loc : Loc} {dst : Option Tmp} {ty : TypeId} {pos : String} {af : Array Edge} {gd : Option (Nat × Bool)} {x y : Operand}
theorem ev_indexOwn {t e size b n c : Nat} {k : IntKind} {i : Int} (hx : evalS S E x = some (.slice (some ⟨b, 0, none⟩) n c)) (hy : evalS S E y = some (.int k i)) (hT : SlT C.P t e size) (hb : conj S = true → 0 ≤ i ∧ i < (n : Int)) :
    EvalOp C S E I loc ⟨dst, .indexAddr t x y, ty, pos, af, gd⟩ (.pointer (some ⟨b, i.toNat * size, none⟩)) := by
  have h := ev_indexAddr (I := I) (loc := loc) (dst := dst) (ty := ty) (pos := pos) (af := af) (gd := gd) hx hy hT hb
  rwa [Nat.zero_add] at h
end
/-- An element of an own slice: where it lies, and what a store leaves. -/
theorem OwnS.spot {α : Type} {e size n k : Nat} {enc : α → List Value} {v : Value} {xs : List α} {x : α} {L : Loc} (hO : OwnS e size v n (xs.flatMap enc) L) (hs : ∀ x, (enc x).length = size) (hsz : 0 < size) (hx : xs[k]? = some x) :
    k < n ∧ ∃ b c cur, v = .slice (some ⟨b, 0, none⟩) n c ∧ L = [(b, .cells (cur : List Value).toArray e (0, 0))] ∧ (cur.drop (k * size)).take size = enc x ∧ k * size + size ≤ cur.length ∧
      ∀ y, OwnS e size v n ((xs.set k y).flatMap enc) [(b, .cells (spliceL cur (k * size) (enc y)).toArray e (0, 0))] := by
  obtain ⟨hk, hxk⟩ := List.getElem?_eq_some_iff.1 hx
  have hl := hO.1
  rw [flat_len hs] at hl
  have hln : xs.length = n := Nat.eq_of_mul_eq_mul_right hsz hl
  rcases hO.2 with ⟨_, h2, _⟩ | ⟨b, c, cur, h1, h2, h3, h4, h5, h6⟩
  · omega
  obtain ⟨cl⟩ := cur
  simp only [List.size_toArray] at h5 h6
  have hspl : xs = xs.take k ++ x :: xs.drop (k + 1) := by
    rw [← hxk, ← List.drop_eq_getElem_cons hk, List.take_append_drop]
  have hb1 : (k + 1) * size ≤ n * size := Nat.mul_le_mul_right _ (by omega)
  have hb2 : n * size ≤ c * size := Nat.mul_le_mul_right _ h3
  rw [Nat.add_mul, Nat.one_mul] at hb1
  have htk : ((xs.take k).flatMap enc).length = k * size := by rw [flat_len hs, List.length_take]; congr 1; omega
  have hcl : cl.take (n * size) = (xs.take k).flatMap enc ++ (enc x ++ (xs.drop (k + 1)).flatMap enc) := by
    rw [h6]; conv => lhs; rw [hspl]
    rw [List.flatMap_append, List.flatMap_cons]
  have hdec : cl = (xs.take k).flatMap enc ++ (enc x ++ ((xs.drop (k + 1)).flatMap enc ++ cl.drop (n * size))) := by
    conv => lhs; rw [← List.take_append_drop (n * size) cl]
    rw [hcl]; simp only [List.append_assoc]
  have hdrop : cl.drop (k * size) = enc x ++ ((xs.drop (k + 1)).flatMap enc ++ cl.drop (n * size)) := by
    conv => lhs; rw [hdec]
    rw [← htk]; exact List.drop_left
  refine ⟨by omega, b, c, cl, h1, h2, ?_, by omega, fun y => ⟨?_, .inr ⟨b, c, _, h1, rfl, h3, h4, ?_, ?_⟩⟩⟩
  · rw [hdrop, ← hs x]; exact List.take_left
  · rw [flat_len hs, List.length_set]; omega
  · have hsl := splice_eq (A := cl) (off := k * size) (n := size) (vs := enc y) (by omega) (hs y)
    rw [List.size_toArray, hsl]
    simp only [List.length_append, List.length_take, List.length_drop, hs]
    omega
  · have hsl := splice_eq (A := cl) (off := k * size) (n := size) (vs := enc y) (by omega) (hs y)
    have e1 : cl.take (k * size) = (xs.take k).flatMap enc := by
      conv => lhs; rw [hdec]
      rw [← htk]; exact List.take_left
    have e2 : cl.drop (k * size + size) = (xs.drop (k + 1)).flatMap enc ++ cl.drop (n * size) := by
      have hd : ∀ l : List Value, List.drop size (enc x ++ l) = l := fun l => by rw [← hs x]; exact List.drop_left
      rw [← List.drop_drop, hdrop, hd]
    rw [hsl, e1, e2]
    have e3 : (xs.set k y).flatMap enc = (xs.take k).flatMap enc ++ (enc y ++ (xs.drop (k + 1)).flatMap enc) := by
      rw [List.set_eq_take_append_cons_drop, if_pos (by omega), List.flatMap_append, List.flatMap_cons]
    have e4 : ((xs.set k y).flatMap enc).length = n * size := by rw [flat_len hs, List.length_set]; omega
    show List.take (n * size) ((xs.take k).flatMap enc ++ (enc y ++ ((xs.drop (k + 1)).flatMap enc ++ cl.drop (n * size)))) = _
    rw [← List.append_assoc (enc y), ← List.append_assoc, ← e3, ← e4]
    exact List.take_left
/-- An element of one cell. -/
theorem OwnS.spot1 {α : Type} {e n k : Nat} {enc : α → List Value} {u : α → Value} {v : Value} {xs : List α} {x : α} {L : Loc} (hO : OwnS e 1 v n (xs.flatMap enc) L) (he : ∀ x, enc x = [u x]) (hx : xs[k]? = some x) :
    k < n ∧ ∃ b c cur, v = .slice (some ⟨b, 0, none⟩) n c ∧ L = [(b, .cells (cur : List Value).toArray e (0, 0))] ∧ (∀ (I : HMap) (l : Loc), Cell I ((b, .cells cur.toArray e (0, 0)) :: l) b (((k : Nat) : Int).toNat * 1) (u x)) ∧ Nat.blt (((k : Nat) : Int).toNat * 1) cur.toArray.size = true ∧
      ∀ y, OwnS e 1 v n ((xs.set k y).flatMap enc) [(b, .cells (cur.toArray.setIfInBounds (((k : Nat) : Int).toNat * 1) (u y)) e (0, 0))] := by
  obtain ⟨h1, b, c, cur, h2, h3, h4, h5, h6⟩ := hO.spot (fun x => by rw [he]; rfl) (by decide) hx
  have hk : k < cur.length := by omega
  have hck : cur[k]? = some (u x) := by
    have := congrArg (fun l : List Value => l[0]?) h4
    simpa [he] using this
  refine ⟨h1, b, c, cur, h2, h3, fun I l => ?_, ?_, fun y => ?_⟩
  · refine Cell.here ?_
    rw [lget_eq]
    show cur[k * 1]? = _
    rw [Nat.mul_one]; exact hck
  · show Nat.blt (k * 1) cur.length = true
    rw [Nat.mul_one, Nat.blt_eq]; exact hk
  · have h7 := h6 y
    rw [splice_eq (by rw [he]; simp; omega) rfl] at h7
    have e1 : cur.toArray.setIfInBounds (((k : Nat) : Int).toNat * 1) (u y) = (cur.take (k * 1) ++ (enc y ++ cur.drop (k * 1 + (enc y).length))).toArray := by
      show cur.toArray.setIfInBounds (k * 1) (u y) = _
      rw [he, Nat.mul_one, List.setIfInBounds_toArray, List.set_eq_take_append_cons_drop, if_pos hk]; rfl
    rw [e1]; exact h7
end Go.Kn
end
section
namespace Go.Proofs.YtkpmnnflikkhmaaDoor
open Go Go.Kn Go.Proofs
/-- A literal that is one's own. -/
theorem _root_.Go.Kn.OwnS.lit {e size b n : Nat} {vs : List Value} (h : vs.length = n * size) (hn : n ≤ maxLen) : OwnS e size (.slice (some ⟨b, 0, none⟩) n n) n vs [(b, .cells vs.toArray e (0, 0))] :=
  ⟨h, .inr ⟨b, n, _, rfl, rfl, Nat.le_refl _, hn, by simp [h], by rw [← h]; simp⟩⟩
theorem valn {e size n : Nat} {v : Value} {xs : List Value} {L : Go.Kn.Loc} (h : OwnS e size v n xs L) : ∃ a c, v = .slice a n c := by
  rcases h.2 with ⟨h1, h2, _⟩ | ⟨b, c, cur, h1, _⟩
  · subst h2; exact ⟨_, _, h1⟩
  · exact ⟨_, _, h1⟩
def stS (out : List Int) (n : Int) : List Int := if n == 8589934592 || out.any (fun x => x == n) then out else out ++ [n]
def statesF (rows : List (List Int)) (l : Nat) : List Int := (rows.map fun r => r.getD l 0).foldl stS [0]
theorem st_step {rows : List (List Int)} {l k : Nat} {r : List Int} (h : rows[k]? = some r) : statesF (rows.take (k + 1)) l = stS (statesF (rows.take k) l) (r.getD l 0) := by
  unfold statesF
  rw [List.take_add_one, h, List.map_append, List.foldl_append]; rfl
theorem st_yes {out : List Int} {n : Int} (h : (n == 8589934592 || out.any (fun x => x == n)) = true) : stS out n = out := by unfold stS; rw [if_pos h]
theorem st_no {out : List Int} {n : Int} (h : (n == 8589934592 || out.any (fun x => x == n)) = false) : stS out n = out ++ [n] := by unfold stS; rw [if_neg (by rw [h]; decide)]
theorem st_len {rows : List (List Int)} {l : Nat} : (statesF rows l).length ≤ rows.length + 1 := by
  have : ∀ (ns out : List Int), (ns.foldl stS out).length ≤ ns.length + out.length := by
    intro ns
    induction ns with
    | nil => intro out; simp
    | cons n ns ih =>
      intro out
      refine Nat.le_trans (ih _) ?_
      have : (stS out n).length ≤ out.length + 1 := by
        unfold stS
        split
        · omega
        · simp
      simp only [List.length_cons]; omega
  have := this (rows.map fun r => r.getD l 0) [0]
  simpa [statesF] using this
end Go.Proofs.YtkpmnnflikkhmaaDoor
end
section
namespace Go.Proofs.YtkpmnnflikkhmaaDoor
open Go Go.Kn Go.Proofs
theorem elt_22 : ElT Tryd.prog 22 3 1 8 := .of (by kernel_rfl)
theorem w_States {I : HMap} {av : Option Addr} {n c : Nat} {rows : List (List Int)} (hV : SlN I av n c rows) (hn : n ≤ 100000) (l : Nat) (hl : ∀ r ∈ rows, l < r.length) : RetM Tryd.prog 72 [.slice av n c, .int .i64 l] I [] (SlRes 1 encI (statesF rows l)) := by
  intro g H w hw
  refine enter Tryd.func72 rfl Tryd.ntmps72 rfl hw ?_
  have hIc := HLe.refl I
  obtain ⟨hs, hV⟩ := hV
  have hH := hV.1
  have hlV := hV.len
  refine X_seq ?_
  refine X_region ?_
  refine XO_v0 (ev_assign rfl) rfl rfl rfl ?_
  refine XO_nil ?_
  refine at_then ?_
  refine X_seq ?_
  refine X_region ?_
  refine XO_buildSlice (ps := [(0, _)]) (m := [encI (0 : Int)]) elt_22 rfl (.cons rfl (.nil)) rfl (by simp [encI_len]) (by decide) (by decide) rfl rfl (fun b_10 => ?_)
  refine XO_v0 (ev_assign rfl) rfl rfl rfl ?_
  refine XO_nil ?_
  refine at_then ?_
  refine X_seq ?_
  refine X_seq ?_
  refine X_region ?_
  refine XO_v0 (ev_assign rfl) rfl rfl rfl ?_
  refine XO_nil ?_
  refine at_then ?_
  refine X_block ?_
  refine X_loopT [(0, _), (1, _)] (.cons rfl (.cons rfl .nil)) (fun T L0 mz E I' loc' => ∃ (i : Nat) (w9 : Value) (q : Nat) (L : Go.Kn.Loc), mz = n - i ∧ E = (5, w9) :: (6, .int .i64 i) :: T ∧ HLe I I' ∧ L = loc' ∧ i ≤ n ∧ OwnS 3 1 w9 q ((statesF (rows.take i) l).flatMap encI) L ∧ q ≤ i + 1) _ _ _ _ ⟨0, _, 1, [(b_10, _)], rfl, rfl, HLe.refl _, rfl, Nat.zero_le _, OwnS.lit rfl (by decide), Nat.le_refl _⟩ (.cons rfl (.cons rfl (.cons rfl (.cons rfl .nil)))) (HLe.refl _) rfl ?_
  rintro mz E J1 loc' ⟨i, w9, q, L, rfl, rfl, hJ, rfl, hi, hO, hq⟩
  have hH := hH.mono hJ
  have hV := hV.mono hJ
  have hIc := hIc.trans hJ
  have hB0 := hJ
  obtain ⟨va, vc, rfl⟩ := valn hO
  refine X_seq ?_
  refine X_seq ?_
  refine X_region ?_
  refine XO_v0 (ev_move rfl) rfl rfl rfl ?_
  refine XO_v0 (ev_move rfl) rfl rfl rfl ?_
  refine XO_v0 (ev_lenS rfl slt_28) rfl rfl rfl ?_
  refine XO_v0 (ev_cmp rfl rfl rfl) rfl rfl rfl ?_
  refine XO_nil ?_
  refine at_then ?_
  refine X_cond rfl (fun hc14 => ?_) (fun hc14 => ?_)
  · skip
    have hlt_i : i < n := by have h := hc14; simp at h; omega
    obtain ⟨x, v, hx, hv, hQ⟩ := hV.at hlt_i
    have hlv := hl v (List.mem_of_getElem? hv)
    have hu := some_getD (d := 0) rfl hlv
    have hvn := hQ.len
    refine X_skip ?_
    refine at_then ?_
    refine X_seq ?_
    refine X_block ?_
    refine X_seq ?_
    refine X_region ?_
    refine XO_v0 (ev_move rfl) rfl rfl rfl ?_
    refine XO_v0 (ev_move rfl) rfl rfl rfl ?_
    refine XO_v0 (ev_indexSl rfl rfl slt_28 hH (fun hg => by first | omega | (simp [conj] at hg; omega))) rfl rfl rfl ?_
    refine XO_v0 (ev_load rfl sct_22 (fun hg => by first | exact Sl.get0 hH hx rfl | exact Sl.get0 hQ hu rfl | exact hcl _ _ | exact Cell.h0 rfl | exact Cell.h1 rfl | exact Cell.h2 rfl | exact Cell.h3 rfl | exact Cell.h4 rfl | exact Cell.h5 rfl | (repeat (first | exact Cell.here rfl | apply Cell.there | apply Cell.app)))) rfl rfl rfl ?_
    refine XO_v0 (ev_move rfl) rfl rfl rfl ?_
    refine XO_v0 (ev_indexSl rfl rfl slt_22 hQ (fun hg => by first | omega | (simp [conj] at hg; omega))) rfl rfl rfl ?_
    refine XO_v0 (ev_load rfl sct_3 (fun hg => by first | exact Sl.get0 hH hx rfl | exact Sl.get0 hQ hu rfl | exact hcl _ _ | exact Cell.h0 rfl | exact Cell.h1 rfl | exact Cell.h2 rfl | exact Cell.h3 rfl | exact Cell.h4 rfl | exact Cell.h5 rfl | (repeat (first | exact Cell.here rfl | apply Cell.there | apply Cell.app)))) rfl rfl rfl ?_
    refine XO_v0 (ev_assign rfl) rfl rfl rfl ?_
    refine XO_nil ?_
    refine at_then ?_
    refine X_seq ?_
    refine X_region ?_
    refine XO_v0 (ev_move rfl) rfl rfl rfl ?_
    refine XO_v0 (ev_cmp rfl rfl rfl) rfl rfl rfl ?_
    refine XO_v0 (ev_assign rfl) rfl rfl rfl ?_
    refine XO_nil ?_
    refine at_then ?_
    refine X_seq ?_
    refine X_seq ?_
    refine X_region ?_
    refine XO_v0 (ev_assign rfl) rfl rfl rfl ?_
    refine XO_nil ?_
    refine at_then ?_
    refine X_block ?_
    refine X_loopT [(0, _), (1, _), (5, _), (6, _), (7, _)] (.cons rfl (.cons rfl (.cons rfl (.cons rfl (.cons rfl .nil))))) (fun T L0 mz E I' loc' => ∃ (k : Nat) (m : Bool), mz = q - k ∧ E = (8, .bool m) :: (9, .int .i64 k) :: T ∧ J1 = I' ∧ L = loc' ∧ k ≤ q ∧ m = ((v.getD l 0) == 8589934592 || ((statesF (rows.take i) l).take k).any (fun x => x == (v.getD l 0)))) _ _ _ _ ⟨0, _, rfl, rfl, rfl, rfl, Nat.zero_le _, by simp⟩ (.cons rfl (.cons rfl (.cons rfl (.cons rfl (.cons rfl (.cons rfl (.cons rfl .nil))))))) (HLe.refl _) rfl ?_
    rintro mz E I' loc' ⟨k, m, rfl, rfl, rfl, rfl, hk, hm⟩
    refine X_seq ?_
    refine X_seq ?_
    refine X_region ?_
    refine XO_v0 (ev_move rfl) rfl rfl rfl ?_
    refine XO_v0 (ev_move rfl) rfl rfl rfl ?_
    refine XO_v0 (ev_lenS rfl slt_22) rfl rfl rfl ?_
    refine XO_v0 (ev_cmp rfl rfl rfl) rfl rfl rfl ?_
    refine XO_nil ?_
    refine at_then ?_
    refine X_cond rfl (fun hc29 => ?_) (fun hc29 => ?_)
    · skip
      have hlt_k : k < q := by have h := hc29; simp at h; omega
      have hql := hO.1
      rw [flat_len encI_len] at hql
      obtain ⟨y, hy⟩ : ∃ y, (statesF (rows.take i) l)[k]? = some y := ⟨_, List.getElem?_eq_getElem (by omega)⟩
      obtain ⟨_, b, cc, cur, hvv, rfl, hcl, _, _⟩ := hO.spot1 (u := fun x => .int .i64 x) (fun _ => rfl) hy
      cases hvv
      refine X_skip ?_
      refine at_then ?_
      refine X_seq ?_
      refine X_block ?_
      refine X_region ?_
      refine XO_v0 (ev_move rfl) rfl rfl rfl ?_
      refine XO_v0 (ev_move rfl) rfl rfl rfl ?_
      refine XO_pushF 1 rfl rfl rfl ?_
      refine XO_v1 (ev_move rfl) (.some rfl rfl rfl rfl gbf) rfl rfl rfl ?_
      refine XO_v1 (ev_move rfl) (.some rfl rfl rfl rfl gbf) rfl rfl rfl ?_
      refine XO_v1 (ev_indexOwn rfl rfl slt_22 (fun hg => by first | omega | (simp [conj] at hg; omega))) (.some rfl rfl rfl rfl gbf) rfl rfl rfl ?_
      refine XO_v1 (ev_load rfl sct_3 (fun hg => by first | exact Sl.get0 hH hx rfl | exact Sl.get0 hQ hu rfl | exact hcl _ _ | exact Cell.h0 rfl | exact Cell.h1 rfl | exact Cell.h2 rfl | exact Cell.h3 rfl | exact Cell.h4 rfl | exact Cell.h5 rfl | (repeat (first | exact Cell.here rfl | apply Cell.there | apply Cell.app)))) (.some rfl rfl rfl rfl gbf) rfl rfl rfl ?_
      refine XO_v1 (ev_move rfl) (.some rfl rfl rfl rfl gbf) rfl rfl rfl ?_
      refine XO_v1 (ev_cmp rfl rfl rfl) (.some rfl rfl rfl rfl gbf) rfl rfl rfl ?_
      refine XO_or0 rfl rfl rfl rfl rfl ?_
      refine XO_v0 (ev_assign rfl) rfl rfl rfl ?_
      refine XO_nil ?_
      refine at_block_n ?_
      refine at_then ?_
      refine X_region ?_
      refine XO_v0 (ev_move rfl) rfl rfl rfl ?_
      refine XO_v0 (ev_arB rfl rfl rfl (fun _ => by omega)) rfl rfl rfl ?_
      refine XO_v0 (ev_assign rfl) rfl rfl rfl ?_
      refine XO_nil ?_
      exact at_met2 _ _ ⟨q - (k + 1), by omega, k + 1, _, rfl, rfl, rfl, rfl, by omega, by rw [any_take hy, hm, Bool.or_assoc]⟩ (.cons rfl (.cons rfl (.cons rfl (.cons rfl (.cons rfl (.cons rfl (.cons rfl .nil))))))) (by repeat (first | exact .refl | exact subL_left | refine subL_app ?_ | refine .drop ?_ | refine subL_add ?_))
    · skip
      have hge_k : q ≤ k := by have h := hc29; simp at h; omega
      have hql := hO.1
      rw [flat_len encI_len] at hql
      rw [List.take_of_length_le (by omega)] at hm
      refine X_exit ?_
      refine at_then_e ?_
      refine at_then_e ?_
      refine at_block_hit ?_
      refine at_then ?_
      refine X_seq ?_
      refine X_region ?_
      refine XO_v0 (ev_move rfl) rfl rfl rfl ?_
      refine XO_v0 (ev_not rfl) rfl rfl rfl ?_
      refine XO_nil ?_
      refine at_then ?_
      refine X_cond rfl (fun hc42 => ?_) (fun hc42 => ?_)
      · skip
        refine X_region ?_
        refine XO_v0 (ev_move rfl) rfl rfl rfl ?_
        refine XO_v0 (ev_move rfl) rfl rfl rfl ?_
        refine XO_buildSlice (ps := [(0, _)]) (m := [encI (v.getD l 0)]) elt_22 rfl (.cons rfl (.nil)) rfl (by simp [encI_len]) (by decide) (by decide) rfl rfl (fun b_45 => ?_)
        refine XO_append (v := _) (ys := [v.getD l 0].flatMap encI) (L := L) rfl rfl elt_22 hO (by repeat (first | exact .cons .here .nil | exact split_all | exact split_app | apply split_cons | apply split_skip)) ⟨rfl, fun _ => rfl, Cells.here⟩ (one_I [v.getD l 0]) (by omega) rfl rfl ?_
        intro v9 L9 hO9 _; rw [← List.flatMap_append] at hO9
        refine XO_v0 (ev_assign rfl) rfl rfl rfl ?_
        refine XO_nil ?_
        refine at_block_n ?_
        refine at_then ?_
        refine X_region ?_
        refine XO_v0 (ev_move rfl) rfl rfl rfl ?_
        refine XO_v0 (ev_arB rfl rfl rfl (fun _ => by omega)) rfl rfl rfl ?_
        refine XO_v0 (ev_assign rfl) rfl rfl rfl ?_
        refine XO_nil ?_
        first
        | exact at_met2 _ _ ⟨n - (i + 1), by omega, i + 1, _, _, _, rfl, rfl, hB0, rfl, by omega, by rw [st_step hv, st_yes (by rw [← hm]; simpa using hc42)]; exact hO, by omega⟩ (.cons rfl (.cons rfl (.cons rfl (.cons rfl .nil)))) (by repeat (first | exact .refl | exact subL_left | refine subL_app ?_ | refine .drop ?_ | refine subL_add ?_))
        | exact at_met2 _ _ ⟨n - (i + 1), by omega, i + 1, _, _, _, rfl, rfl, hB0, rfl, by omega, by rw [st_step hv, st_no (by rw [← hm]; simpa using hc42)]; exact hO9, by omega⟩ (.cons rfl (.cons rfl (.cons rfl (.cons rfl .nil)))) (by repeat (first | exact .refl | exact subL_left | refine subL_app ?_ | refine .drop ?_ | refine subL_add ?_))
      · skip
        refine X_skip ?_
        refine at_block_n ?_
        refine at_then ?_
        refine X_region ?_
        refine XO_v0 (ev_move rfl) rfl rfl rfl ?_
        refine XO_v0 (ev_arB rfl rfl rfl (fun _ => by omega)) rfl rfl rfl ?_
        refine XO_v0 (ev_assign rfl) rfl rfl rfl ?_
        refine XO_nil ?_
        first
        | exact at_met2 _ _ ⟨n - (i + 1), by omega, i + 1, _, _, _, rfl, rfl, hB0, rfl, by omega, by rw [st_step hv, st_yes (by rw [← hm]; simpa using hc42)]; exact hO, by omega⟩ (.cons rfl (.cons rfl (.cons rfl (.cons rfl .nil)))) (by repeat (first | exact .refl | exact subL_left | refine subL_app ?_ | refine .drop ?_ | refine subL_add ?_))
        | exact at_met2 _ _ ⟨n - (i + 1), by omega, i + 1, _, _, _, rfl, rfl, hB0, rfl, by omega, by rw [st_step hv, st_no (by rw [← hm]; simpa using hc42)]; exact hO9, by omega⟩ (.cons rfl (.cons rfl (.cons rfl (.cons rfl .nil)))) (by repeat (first | exact .refl | exact subL_left | refine subL_app ?_ | refine .drop ?_ | refine subL_add ?_))
  · skip
    have hge_i : n ≤ i := by have h := hc14; simp at h; omega
    rw [take_all hlV hge_i] at hO
    refine X_exit ?_
    refine at_then_e ?_
    refine at_then_e ?_
    refine at_block_hit ?_
    refine at_then ?_
    refine X_seq ?_
    refine X_region ?_
    refine XO_v0 (ev_move rfl) rfl rfl rfl ?_
    refine XO_v0 (ev_assign rfl) rfl rfl rfl ?_
    refine XO_nil ?_
    refine at_then ?_
    refine X_ret ?_
    exact at_ret1 rfl rfl (fun w hw => by obtain ⟨I9, h91, h92, h93⟩ := OwnS.res hO encI_len (by decide) hw; exact ⟨_, I9, [], rfl, hIc.trans h91, h92, h93⟩)
end Go.Proofs.YtkpmnnflikkhmaaDoor
end
section
namespace Go.Proofs.YtkpmnnflikkhmaaDoor
open Go Go.Kn Go.Proofs
theorem take_snoc {α : Type} {xs : List α} {k : Nat} {x : α} (h : xs[k]? = some x) : xs.take (k + 1) = xs.take k ++ [x] := by
  rw [List.take_add_one, h]; rfl
section
variable {α : Type} {lt : α → α → Bool}
def bothG (lt : α → α → Bool) : List α → List α → List α
  | a, [] => a
  | a, y :: b => a.takeWhile (fun x => lt x y) ++ y :: bothG lt (a.dropWhile fun x => lt x y) b
theorem both_less {x y : α} {a b : List α} (h : lt x y = true) : bothG lt (x :: a) (y :: b) = x :: bothG lt a (y :: b) := by
  simp only [bothG]
  rw [List.takeWhile_cons, if_pos h, List.dropWhile_cons, if_pos h]; rfl
theorem both_stop {y : α} {a b : List α} (h : a = [] ∨ ∃ x a', a = x :: a' ∧ lt x y = false) : bothG lt a (y :: b) = y :: bothG lt a b := by
  rcases h with rfl | ⟨x, a', rfl, h⟩
  · simp [bothG]
  · simp only [bothG]
    rw [List.takeWhile_cons, if_neg (by simp [h]), List.dropWhile_cons, if_neg (by simp [h])]; rfl
theorem both_step {xs ys out : List α} {i k : Nat} {x y : α} (hx : xs[i]? = some x) (hy : ys[k]? = some y) (h : lt x y = true) (hb : out ++ bothG lt (xs.drop i) (ys.drop k) = bothG lt xs ys) : (out ++ [x]) ++ bothG lt (xs.drop (i + 1)) (ys.drop k) = bothG lt xs ys := by
  rw [drop_cons hx, drop_cons hy, both_less h] at hb
  rw [drop_cons hy, List.append_assoc]; exact hb
theorem both_put {xs ys out : List α} {i k n : Nat} {y d : α} (hn : xs.length = n) (hi : i ≤ n) (hy : ys[k]? = some y) (h : (decide ((i : Int) < (n : Int)) && lt (xs.getD i d) y) = false) (hb : out ++ bothG lt (xs.drop i) (ys.drop k) = bothG lt xs ys) : (out ++ [y]) ++ bothG lt (xs.drop i) (ys.drop (k + 1)) = bothG lt xs ys := by
  rw [drop_cons hy, both_stop] at hb
  · rw [List.append_assoc]; exact hb
  · by_cases e : i = n
    · left; exact List.drop_eq_nil_of_le (by omega)
    · right
      have hx : xs[i]? = some (xs[i]'(by omega)) := List.getElem?_eq_getElem _
      refine ⟨_, _, drop_cons hx, ?_⟩
      rw [getD_of hx, decide_eq_true (show (i : Int) < (n : Int) by omega), Bool.true_and] at h
      exact h
theorem both_lt {xs : List α} {i n : Nat} {x y d : α} (hx : xs[i]? = some x) (h : (decide ((i : Int) < (n : Int)) && lt (xs.getD i d) y) = true) : lt x y = true := by
  rw [Bool.and_eq_true, getD_of hx] at h
  exact h.2
theorem both_len (a b : List α) : (bothG lt a b).length = a.length + b.length := by
  induction b generalizing a with
  | nil => simp [bothG]
  | cons y b ih =>
    simp only [bothG]
    have := congrArg List.length (List.takeWhile_append_dropWhile (p := fun x => lt x y) (l := a))
    rw [List.length_append] at this
    rw [List.length_append, List.length_cons, ih, List.length_cons]
    omega
end
def ltI (a b : Int) : Bool := decide (a < b)
def joinF (xs ys : List Int) (s : Int) : List Int := bothG ltI xs ys ++ [s]
end Go.Proofs.YtkpmnnflikkhmaaDoor
end
section
namespace Go.Proofs.YtkpmnnflikkhmaaDoor
open Go Go.Kn Go.Proofs
theorem w_joined {I : HMap} {av : Option Addr} {n c : Nat} {xs : List Int} (hS : Sl I 1 encI av n c xs) (hn : n ≤ 100000) {bv : Option Addr} {n2 c2 : Nat} {ys : List Int} (hT : Sl I 1 encI bv n2 c2 ys) (hn2 : n2 ≤ 100000) (s : Int) : RetM Tryd.prog 53 [.slice av n c, .slice bv n2 c2, .int .i64 s] I [] (SlRes 1 encI (joinF xs ys s)) := by
  intro g H w hw
  refine enter Tryd.func53 rfl Tryd.ntmps53 rfl hw ?_
  have hIc := HLe.refl I
  refine X_seq ?_
  refine X_region ?_
  refine XO_v0 (ev_assign rfl) rfl rfl rfl ?_
  refine XO_nil ?_
  refine at_then ?_
  refine X_seq ?_
  refine X_region ?_
  refine XO_v0 (ev_assign rfl) rfl rfl rfl ?_
  refine XO_nil ?_
  refine at_then ?_
  refine X_seq ?_
  refine X_region ?_
  refine XO_v0 (ev_assign rfl) rfl rfl rfl ?_
  refine XO_nil ?_
  refine at_then ?_
  refine X_seq ?_
  refine X_seq ?_
  refine X_region ?_
  refine XO_v0 (ev_assign rfl) rfl rfl rfl ?_
  refine XO_nil ?_
  refine at_then ?_
  refine X_block ?_
  refine X_loopT [(0, _), (1, _), (2, _)] (.cons rfl (.cons rfl (.cons rfl .nil))) (fun T L0 mz E I' loc' => ∃ (k : Nat) (v : Value) (i : Nat) (out : List Int) (L : Go.Kn.Loc), mz = n2 - k ∧ E = (7, v) :: (8, .int .i64 i) :: (9, .int .i64 k) :: T ∧ I = I' ∧ L = loc' ∧ k ≤ n2 ∧ OwnS 3 1 v (i + k) (out.flatMap encI) L ∧ out ++ bothG ltI (xs.drop i) (ys.drop k) = bothG ltI xs ys ∧ i ≤ n) _ _ _ _ ⟨0, _, 0, [], [], rfl, rfl, rfl, rfl, Nat.zero_le _, OwnS.nil, by simp, Nat.zero_le _⟩ (.cons rfl (.cons rfl (.cons rfl (.cons rfl (.cons rfl (.cons rfl .nil)))))) (HLe.refl _) rfl ?_
  rintro mz E I' loc' ⟨k, v, i, out, L, rfl, rfl, rfl, rfl, hk, hO, hbo, hi⟩
  refine X_seq ?_
  refine X_seq ?_
  refine X_region ?_
  refine XO_v0 (ev_move rfl) rfl rfl rfl ?_
  refine XO_v0 (ev_move rfl) rfl rfl rfl ?_
  refine XO_v0 (ev_lenS rfl slt_22) rfl rfl rfl ?_
  refine XO_v0 (ev_cmp rfl rfl rfl) rfl rfl rfl ?_
  refine XO_nil ?_
  refine at_then ?_
  refine X_cond rfl (fun hc13 => ?_) (fun hc13 => ?_)
  · skip
    have hlt_k : k < n2 := by have h := hc13; simp at h; omega
    obtain ⟨y, hy⟩ := hT.at hlt_k
    refine X_skip ?_
    refine at_then ?_
    refine X_seq ?_
    refine X_block ?_
    refine X_seq ?_
    refine X_block ?_
    refine X_loopT [(0, _), (1, _), (2, _), (9, _)] (.cons rfl (.cons rfl (.cons rfl (.cons rfl .nil)))) (fun T L0 mz E I' loc' => ∃ (i2 : Nat) (v2 : Value) (out2 : List Int) (L2 : Go.Kn.Loc), mz = n - i2 ∧ E = (7, v2) :: (8, .int .i64 i2) :: T ∧ I = I' ∧ L2 = loc' ∧ i2 ≤ n ∧ OwnS 3 1 v2 (i2 + k) (out2.flatMap encI) L2 ∧ out2 ++ bothG ltI (xs.drop i2) (ys.drop k) = bothG ltI xs ys) _ _ _ _ ⟨i, v, out, L, rfl, rfl, rfl, rfl, hi, hO, hbo⟩ (.cons rfl (.cons rfl (.cons rfl (.cons rfl (.cons rfl (.cons rfl .nil)))))) (HLe.refl _) rfl ?_
    rintro mz E I' loc' ⟨i2, v2, out2, L2, rfl, rfl, rfl, rfl, hi2, hO2, hbo2⟩
    refine X_seq ?_
    refine X_seq ?_
    refine X_draw mixed (by kernel_rfl) ?_
    refine XQ_v0 (ev_move rfl) rfl rfl rfl ?_
    refine XQ_v0 (ev_move rfl) rfl rfl rfl ?_
    refine XQ_v0 (ev_lenS rfl slt_22) rfl rfl rfl ?_
    refine XQ_v0 (ev_cmp rfl rfl rfl) rfl rfl rfl ?_
    refine XQ_v0 (ev_move rfl) rfl rfl rfl ?_
    refine XQ_pushT 4 rfl rfl rfl ?_
    refine XQ_v1 (ev_move rfl) (.some rfl rfl rfl rfl gbt) rfl rfl rfl ?_
    refine XQ_v1 (ev_move rfl) (.some rfl rfl rfl rfl gbt) rfl rfl rfl ?_
    refine XQ_v1 (ev_indexSl rfl rfl slt_22 hS (fun hg => by first | omega | (simp [conj] at hg; omega))) (.some rfl rfl rfl rfl gbt) rfl rfl rfl ?_
    refine XQ_v1 (ev_load rfl sct_3 (fun hg => by first | exact Sl.get0 hS hx rfl | exact Sl.get0 (k := i2) hS (some_getD (d := 0) hS.len (by simp [conj] at hg; omega)) rfl | exact Sl.get0 hT hy rfl | exact Cell.h0 rfl | exact Cell.h1 rfl | exact Cell.h2 rfl | exact Cell.h3 rfl | exact Cell.h4 rfl | exact Cell.h5 rfl | (repeat (first | exact Cell.here rfl | apply Cell.there | apply Cell.app)))) (.some rfl rfl rfl rfl gbt) rfl rfl rfl ?_
    refine XQ_v1 (ev_move rfl) (.some rfl rfl rfl rfl gbt) rfl rfl rfl ?_
    refine XQ_v1 (ev_move rfl) (.some rfl rfl rfl rfl gbt) rfl rfl rfl ?_
    refine XQ_v1 (ev_indexSl rfl rfl slt_22 hT (fun hg => by first | omega | (simp [conj] at hg; omega))) (.some rfl rfl rfl rfl gbt) rfl rfl rfl ?_
    refine XQ_v1 (ev_load rfl sct_3 (fun hg => by first | exact Sl.get0 hS hx rfl | exact Sl.get0 (k := i2) hS (some_getD (d := 0) hS.len (by simp [conj] at hg; omega)) rfl | exact Sl.get0 hT hy rfl | exact Cell.h0 rfl | exact Cell.h1 rfl | exact Cell.h2 rfl | exact Cell.h3 rfl | exact Cell.h4 rfl | exact Cell.h5 rfl | (repeat (first | exact Cell.here rfl | apply Cell.there | apply Cell.app)))) (.some rfl rfl rfl rfl gbt) rfl rfl rfl ?_
    refine XQ_v1 (ev_cmp rfl rfl rfl) (.some rfl rfl rfl rfl gbt) rfl rfl rfl ?_
    refine XQ_and0 rfl rfl rfl rfl rfl ?_
    refine XQ_nil ?_
    refine at_then ?_
    refine X_cond rfl (fun hc30 => ?_) (fun hc30 => ?_)
    · skip
      have hlt_i : i2 < n := by have h := ((Bool.and_eq_true _ _).mp hc30).1; simp at h; omega
      obtain ⟨x, hx⟩ := hS.at hlt_i
      have hlt := both_lt (lt := ltI) hx hc30
      refine X_skip ?_
      refine at_then ?_
      refine X_block ?_
      refine X_seq ?_
      refine X_region ?_
      refine XO_v0 (ev_move rfl) rfl rfl rfl ?_
      refine XO_v0 (ev_move rfl) rfl rfl rfl ?_
      refine XO_v0 (ev_move rfl) rfl rfl rfl ?_
      refine XO_v0 (ev_indexSl rfl rfl slt_22 hS (fun hg => by first | omega | (simp [conj] at hg; omega))) rfl rfl rfl ?_
      refine XO_v0 (ev_load rfl sct_3 (fun hg => by first | exact Sl.get0 hS hx rfl | exact Sl.get0 (k := i2) hS (some_getD (d := 0) hS.len (by simp [conj] at hg; omega)) rfl | exact Sl.get0 hT hy rfl | exact Cell.h0 rfl | exact Cell.h1 rfl | exact Cell.h2 rfl | exact Cell.h3 rfl | exact Cell.h4 rfl | exact Cell.h5 rfl | (repeat (first | exact Cell.here rfl | apply Cell.there | apply Cell.app)))) rfl rfl rfl ?_
      refine XO_buildSlice (ps := [(0, _)]) (m := [encI x]) elt_22 rfl (.cons rfl (.nil)) rfl (by simp [encI_len]) (by decide) (by decide) rfl rfl (fun b_36 => ?_)
      refine XO_append (v := _) (ys := [x].flatMap encI) (L := L2) rfl rfl elt_22 hO2 (by repeat (first | exact .cons .here .nil | exact split_all | exact split_app | apply split_cons | apply split_skip)) ⟨rfl, fun _ => rfl, Cells.here⟩ (one_I [x]) (by omega) rfl rfl ?_
      intro v9 L9 hO9 _; rw [← List.flatMap_append] at hO9
      refine XO_v0 (ev_assign rfl) rfl rfl rfl ?_
      refine XO_nil ?_
      refine at_then ?_
      refine X_region ?_
      refine XO_v0 (ev_move rfl) rfl rfl rfl ?_
      refine XO_v0 (ev_arB rfl rfl rfl (fun _ => by omega)) rfl rfl rfl ?_
      refine XO_v0 (ev_assign rfl) rfl rfl rfl ?_
      refine XO_nil ?_
      refine at_block_n ?_
      exact at_met2 _ _ ⟨n - (i2 + 1), by omega, i2 + 1, _, _, _, rfl, rfl, rfl, rfl, by omega, by rw [show i2 + 1 + k = i2 + k + 1 by omega]; exact hO9, both_step hx hy hlt hbo2⟩ (.cons rfl (.cons rfl (.cons rfl (.cons rfl (.cons rfl (.cons rfl .nil)))))) (by repeat (first | exact .refl | exact subL_left | refine subL_app ?_ | refine .drop ?_ | refine subL_add ?_))
    · skip
      have hbo3 := both_put (lt := ltI) hS.len hi2 hy hc30 hbo2
      refine X_exit ?_
      refine at_then_e ?_
      refine at_then_e ?_
      refine at_block_hit ?_
      refine at_then ?_
      refine X_region ?_
      refine XO_v0 (ev_move rfl) rfl rfl rfl ?_
      refine XO_v0 (ev_move rfl) rfl rfl rfl ?_
      refine XO_v0 (ev_move rfl) rfl rfl rfl ?_
      refine XO_v0 (ev_indexSl rfl rfl slt_22 hT (fun hg => by first | omega | (simp [conj] at hg; omega))) rfl rfl rfl ?_
      refine XO_v0 (ev_load rfl sct_3 (fun hg => by first | exact Sl.get0 hS hx rfl | exact Sl.get0 (k := i2) hS (some_getD (d := 0) hS.len (by simp [conj] at hg; omega)) rfl | exact Sl.get0 hT hy rfl | exact Cell.h0 rfl | exact Cell.h1 rfl | exact Cell.h2 rfl | exact Cell.h3 rfl | exact Cell.h4 rfl | exact Cell.h5 rfl | (repeat (first | exact Cell.here rfl | apply Cell.there | apply Cell.app)))) rfl rfl rfl ?_
      refine XO_buildSlice (ps := [(0, _)]) (m := [encI y]) elt_22 rfl (.cons rfl (.nil)) rfl (by simp [encI_len]) (by decide) (by decide) rfl rfl (fun b_45 => ?_)
      refine XO_append (v := _) (ys := [y].flatMap encI) (L := L2) rfl rfl elt_22 hO2 (by repeat (first | exact .cons .here .nil | exact split_all | exact split_app | apply split_cons | apply split_skip)) ⟨rfl, fun _ => rfl, Cells.here⟩ (one_I [y]) (by omega) rfl rfl ?_
      intro v9 L9 hO9 _; rw [← List.flatMap_append] at hO9
      refine XO_v0 (ev_assign rfl) rfl rfl rfl ?_
      refine XO_nil ?_
      refine at_block_n ?_
      refine at_then ?_
      refine X_region ?_
      refine XO_v0 (ev_move rfl) rfl rfl rfl ?_
      refine XO_v0 (ev_arB rfl rfl rfl (fun _ => by omega)) rfl rfl rfl ?_
      refine XO_v0 (ev_assign rfl) rfl rfl rfl ?_
      refine XO_nil ?_
      exact at_met2 _ _ ⟨n2 - (k + 1), by omega, k + 1, _, i2, _, _, rfl, rfl, rfl, rfl, by omega, by rw [show i2 + (k + 1) = i2 + k + 1 by omega]; exact hO9, hbo3, hi2⟩ (.cons rfl (.cons rfl (.cons rfl (.cons rfl (.cons rfl (.cons rfl .nil)))))) (by repeat (first | exact .refl | exact subL_left | refine subL_app ?_ | refine .drop ?_ | refine subL_add ?_))
  · skip
    have hge_k : n2 ≤ k := by have h := hc13; simp at h; omega
    rw [show ys.drop k = [] from List.drop_eq_nil_of_le (by rw [hT.len]; exact hge_k)] at hbo
    have hbo : out ++ xs.drop i = bothG ltI xs ys := hbo
    have hle2 : k ≤ n2 := hk
    refine X_exit ?_
    refine at_then_e ?_
    refine at_then_e ?_
    refine at_block_hit ?_
    refine at_then ?_
    refine X_seq ?_
    refine X_region ?_
    refine XO_v0 (ev_move rfl) rfl rfl rfl ?_
    refine XO_v0 (ev_move rfl) rfl rfl rfl ?_
    refine XO_v0 (ev_move rfl) rfl rfl rfl ?_
    refine XO_v0 (ev_sliceLo rfl rfl slt_22 (fun hg => by first | omega | (simp [conj] at hg; omega))) rfl rfl rfl ?_
    refine XO_append (v := _) (ys := (xs.drop i).flatMap encI) (L := L) rfl rfl elt_22 hO (by repeat (first | exact .cons .here .nil | exact split_all | exact split_app | apply split_cons | apply split_skip)) ((hS.drop hi).src encI_len) (one_I _) (by omega) rfl rfl ?_
    intro v9 L9 hO9 _; rw [← List.flatMap_append] at hO9
    refine XO_v0 (ev_assign rfl) rfl rfl rfl ?_
    refine XO_nil ?_
    refine at_then ?_
    refine X_seq ?_
    refine X_region ?_
    refine XO_v0 (ev_move rfl) rfl rfl rfl ?_
    refine XO_v0 (ev_move rfl) rfl rfl rfl ?_
    refine XO_buildSlice (ps := [(0, _)]) (m := [encI s]) elt_22 rfl (.cons rfl (.nil)) rfl (by simp [encI_len]) (by decide) (by decide) rfl rfl (fun b_54 => ?_)
    refine XO_append (v := _) (ys := [s].flatMap encI) (L := L9) rfl rfl elt_22 hO9 (by repeat (first | exact .cons .here .nil | exact split_all | exact split_app | apply split_cons | apply split_skip)) ⟨rfl, fun _ => rfl, Cells.here⟩ (one_I [s]) (by omega) rfl rfl ?_
    intro v8 L8 hO8 _; rw [← List.flatMap_append] at hO8
    refine XO_v0 (ev_assign rfl) rfl rfl rfl ?_
    refine XO_nil ?_
    refine at_then ?_
    refine X_ret ?_
    exact at_ret1 rfl rfl (fun w hw => by obtain ⟨I9, h91, h92, h93⟩ := OwnS.res hO8 encI_len (by decide) (hw.subL (by repeat (first | exact .refl | exact subL_left))); rw [hbo] at h93; exact ⟨_, I9, [], rfl, hIc.trans h91, h92, h93⟩)
end Go.Proofs.YtkpmnnflikkhmaaDoor
end
section
namespace Go.Proofs.YtkpmnnflikkhmaaDoor
open Go Go.Kn Go.Proofs
/-- The witness of a single set. -/
def witF (s : Int) : Nat := s.toNat.log2
def shlI (w : Int) : Int := IntKind.i64.wrap (1 * 2 ^ (min w.toNat IntKind.i64.bits))
theorem wit_tab : ((List.range 64).all fun s => (List.range 7).all fun w => !singF (s : Int) || !decide (w ≤ witF (s : Int)) || (decide (shlI (w : Int) < (s : Int)) == decide (w < witF (s : Int)))) = true := by kernel_rfl
theorem wit_lt {s : Int} (hs : 1 ≤ s ∧ s ≤ 63) (h1 : singF s = true) {w : Nat} (hw : w ≤ witF s) (hw6 : w < 7) : decide (shlI (w : Int) < s) = decide (w < witF s) := by
  have h := List.all_eq_true.1 wit_tab s.toNat (List.mem_range.2 (by omega))
  have h := List.all_eq_true.1 h w (List.mem_range.2 hw6)
  rw [show ((s.toNat : Nat) : Int) = s by omega, h1] at h
  simpa [hw] using h
theorem wit_in : ((List.range 7).all fun n => (List.range 64).all fun s => !singF (s : Int) || !decide ((s : Int) ≤ allS (n : Int)) || decide (witF (s : Int) < n)) = true := by kernel_rfl
theorem wit_n {s : Int} {n : Nat} (hn : n ≤ 6) (hs : 1 ≤ s ∧ s ≤ 63) (h1 : singF s = true) (h : s ≤ allS (n : Int)) : witF s < n := by
  have h0 := List.all_eq_true.1 wit_in n (List.mem_range.2 (by omega))
  have h0 := List.all_eq_true.1 h0 s.toNat (List.mem_range.2 (by omega))
  rw [show ((s.toNat : Nat) : Int) = s by omega, h1] at h0
  simpa [h] using h0
theorem split_spec {cl : List Int} {c : Int} {a : Nat} (h : splitR cl c a ≠ 0) (ha : 1 ≤ a) : 1 ≤ splitR cl c a ∧ splitR cl c a < c ∧ splitP cl c (splitR cl c a) = true := by
  unfold splitR at h ⊢
  cases hf : (List.range' a (c.toNat - a)).find? (fun k : Nat => splitP cl c (k : Int)) with
  | none => rw [hf] at h; exact absurd rfl h
  | some k =>
    have h1 := List.find?_some hf
    have h2 := List.mem_range'_1.1 (List.mem_of_find?_eq_some hf)
    exact ⟨by show 1 ≤ (k : Int); omega, by show (k : Int) < c; omega, h1⟩
theorem wrapS {s : Int} (h : 1 ≤ s ∧ s ≤ 63) : IntKind.i64.wrap (s - 1) = s - 1 := wrap_in (by omega)
/-- A set that has costs. -/
def OkS (n : Nat) (cl : List Int) (s : Int) : Prop := 1 ≤ s ∧ s ≤ allS (n : Int) ∧ hasS cl s = true
theorem chkN_split {m : Int} {cl : List Int} (h : chkN m cl = 0) : ∀ c ∈ cl, splitF cl c ≠ 0 := by
  intro c hc hs
  unfold chkN at h
  repeat (split at h; · cases h)
  rename_i h5
  exact h5 (List.any_eq_true.2 ⟨c, hc, by simp [hs]⟩)
theorem ok_parts {n : Nat} {cl : List Int} {s : Int} (hc : chkN n cl = 0) (h : OkS n cl s) (h1 : (andI s (IntKind.i64.wrap (s - 1)) == 0) = false) : OkS n cl (splitF cl s) ∧ OkS n cl (s - splitF cl s) ∧ 1 ≤ splitF cl s ∧ splitF cl s < s := by
  obtain ⟨h2, h3, h4⟩ := h
  have hin : s ∈ cl := by
    unfold hasS singF at h4
    rw [h1, Bool.and_false, Bool.or_false, List.any_eq_true] at h4
    obtain ⟨c, hc2, e⟩ := h4
    have : c = s := by simpa using e
    exact this ▸ hc2
  obtain ⟨a1, a2, a3⟩ := split_spec (chkN_split hc s hin) (Nat.le_refl 1)
  unfold splitP at a3
  simp only [Bool.and_eq_true] at a3
  exact ⟨⟨a1, by show splitR cl s 1 ≤ _; omega, a3.1.2⟩, ⟨by show 1 ≤ s - splitR cl s 1; omega, by show s - splitR cl s 1 ≤ _; omega, a3.2⟩, a1, a2⟩
theorem ok_sing {n : Nat} {cl : List Int} {s : Int} (hn : n ≤ 6) (h : OkS n cl s) (h63 : s ≤ 63) (h1 : (andI s (IntKind.i64.wrap (s - 1)) == 0) = true) : singF s = true ∧ witF s < n := by
  have hs : singF s = true := by unfold singF; rw [h1, decide_eq_true (show s > 0 by have := h.1; omega)]; rfl
  exact ⟨hs, wit_n hn ⟨h.1, h63⟩ hs h.2.1⟩
def leafG (u x : Int) : Int := if decide (u ≠ 8589934592) && decide (u ≠ x) then 1048576 else 0
def costsF (rows : List (List Int)) (cl : List Int) (l : Nat) : Nat → Int → List Int
  | 0, _ => []
  | f + 1, s =>
    if (andI s (IntKind.i64.wrap (s - 1)) == 0) = true then (statesF rows l).map (leafG ((rows.getD (witF s) []).getD l 0))
    else (statesF rows l).map fun x => belowF (statesF rows l) (costsF rows cl l f (splitF cl s)) x + belowF (statesF rows l) (costsF rows cl l f (s - splitF cl s)) x
theorem costs_leaf {rows : List (List Int)} {cl : List Int} {l f : Nat} {s : Int} (h : (andI s (IntKind.i64.wrap (s - 1)) == 0) = true) : costsF rows cl l (f + 1) s = (statesF rows l).map (leafG ((rows.getD (witF s) []).getD l 0)) := by
  simp only [costsF]; rw [if_pos h]
def twoG (st L R : List Int) (x : Int) : Int := belowF st L x + belowF st R x
theorem costs_two {rows : List (List Int)} {cl : List Int} {l f : Nat} {s : Int} (h : (andI s (IntKind.i64.wrap (s - 1)) == 0) = false) : costsF rows cl l (f + 1) s = (statesF rows l).map (twoG (statesF rows l) (costsF rows cl l f (splitF cl s)) (costsF rows cl l f (s - splitF cl s))) := by
  simp only [costsF]; rw [if_neg (by rw [h]; decide)]; rfl
theorem below_in {st cs : List Int} {s : Int} (h : ∀ y ∈ cs, 0 ≤ y ∧ y ≤ 1099511627776) : 0 ≤ belowF st cs s ∧ belowF st cs s ≤ 1048576 := by
  unfold belowF
  have : ∀ k, 0 ≤ bestK st cs s k ∧ bestK st cs s k ≤ 1048576 := by
    intro k
    induction k with
    | zero => unfold bestK; simp
    | succ k ih =>
      have e : bestK st cs s (k + 1) = minI (bestK st cs s k) (stepF s (st.getD k 0) + cs.getD k 0) := by
        unfold bestK
        rw [List.range_succ, List.foldl_append, List.foldl_cons, List.foldl_nil]
      rw [e]
      have h1 := (step_in s (st.getD k 0)).1
      have h2 : 0 ≤ cs.getD k 0 := by
        cases hk : cs[k]? with
        | none => simp [List.getD, hk]
        | some y => rw [getD_of hk]; exact (h y (List.mem_of_getElem? hk)).1
      unfold minI
      split <;> omega
  exact this _
theorem costs_in {rows : List (List Int)} {cl : List Int} {l : Nat} : ∀ (f : Nat) (s : Int), ∀ y ∈ costsF rows cl l f s, 0 ≤ y ∧ y ≤ 1099511627776
  | 0, _ => fun y hy => by cases hy
  | f + 1, s => fun y hy => by
    cases h : (andI s (IntKind.i64.wrap (s - 1)) == 0) with
    | true =>
      rw [costs_leaf h, List.mem_map] at hy
      obtain ⟨x, _, rfl⟩ := hy
      unfold leafG
      split <;> omega
    | false =>
      rw [costs_two h, List.mem_map] at hy
      obtain ⟨x, _, rfl⟩ := hy
      have h1 := below_in (st := statesF rows l) (s := x) (costs_in (rows := rows) (cl := cl) (l := l) f (splitF cl s))
      have h2 := below_in (st := statesF rows l) (s := x) (costs_in (rows := rows) (cl := cl) (l := l) f (s - splitF cl s))
      unfold twoG
      omega
theorem costs_len {rows : List (List Int)} {cl : List Int} {l f : Nat} {s : Int} : (costsF rows cl l (f + 1) s).length = (statesF rows l).length := by
  cases h : (andI s (IntKind.i64.wrap (s - 1)) == 0) with
  | true => rw [costs_leaf h, List.length_map]
  | false => rw [costs_two h, List.length_map]
/-! ### A row that is filled -/
def cellsI (row : List Int) : Array Value := (row.flatMap encI).toArray
theorem cellsI_eq (row : List Int) : row.flatMap encI = row.map (Value.int .i64) := by
  induction row with
  | nil => rfl
  | cons b row ih => rw [List.flatMap_cons, ih]; rfl
theorem cellsI_set (row : List Int) (m : Nat) (b : Int) : (cellsI row).setIfInBounds ((m : Int).toNat * 1) (.int .i64 b) = cellsI (row.set m b) := by
  unfold cellsI
  rw [cellsI_eq, cellsI_eq, Nat.mul_one, List.setIfInBounds_toArray, List.map_set]; rfl
theorem bltI {row : List Int} {m : Nat} (h : m < row.length) : Nat.blt ((m : Int).toNat * 1) (cellsI row).size = true := by
  unfold cellsI
  rw [List.size_toArray, flat_len encI_len, Nat.mul_one, Nat.mul_one]
  rw [Nat.blt_eq]; exact h
theorem cellsI_new (n : Nat) : (List.replicate n (Value.int .i64 0)).toArray = cellsI (List.replicate n 0) := by
  unfold cellsI
  rw [cellsI_eq, List.map_replicate]
theorem own_rowI {b n e : Nat} {row : List Int} (h : row.length = n) (hn : n ≤ 1000000) : OwnS e 1 (.slice (some ⟨b, 0, none⟩) n n) n (row.flatMap encI) [(b, .cells (cellsI row) e (0, 0))] :=
  OwnS.lit (by rw [flat_len encI_len, h]) (by simp only [maxLen]; omega)
/-- The first k are filled. -/
def filK (st : List Int) (g : Int → Int) (k : Nat) : List Int := (st.take k).map g ++ List.replicate (st.length - k) 0
theorem fil_len {st : List Int} {g : Int → Int} {k : Nat} (h : k ≤ st.length) : (filK st g k).length = st.length := by
  unfold filK
  rw [List.length_append, List.length_map, List.length_take, List.length_replicate]; omega
theorem fil_zero {st : List Int} {g : Int → Int} : filK st g 0 = List.replicate st.length 0 := by simp [filK]
theorem fil_set {st : List Int} {g : Int → Int} {k : Nat} {x : Int} (hx : st[k]? = some x) : (filK st g k).set k (g x) = filK st g (k + 1) := by
  have hk := (List.getElem?_eq_some_iff.1 hx).1
  unfold filK
  rw [List.set_append_right _ _ (by simp; omega), List.take_add_one, hx]
  rw [show st.length - k = st.length - (k + 1) + 1 by omega, List.replicate_succ]
  rw [show k - (List.map g (List.take k st)).length = 0 by simp; omega, List.set_cons_zero]
  simp
theorem fil_skip {st : List Int} {g : Int → Int} {k : Nat} {x : Int} (hx : st[k]? = some x) (h : g x = 0) : filK st g k = filK st g (k + 1) := by
  rw [← fil_set hx, h]
  have hk := (List.getElem?_eq_some_iff.1 hx).1
  have hg : (filK st g k)[k]? = some 0 := by
    unfold filK
    rw [List.getElem?_append_right (by simp; omega), List.getElem?_replicate, if_pos (by simp; omega)]
  obtain ⟨h1, h2⟩ := List.getElem?_eq_some_iff.1 hg
  have := List.set_getElem_self h1
  rw [h2] at this
  exact this.symm
theorem fil_all {st : List Int} {g : Int → Int} {k : Nat} (h : st.length ≤ k) : filK st g k = st.map g := by
  unfold filK
  rw [List.take_of_length_le h, show st.length - k = 0 by omega]; simp
end Go.Proofs.YtkpmnnflikkhmaaDoor
end
section
namespace Go.Proofs.YtkpmnnflikkhmaaDoor
open Go Go.Kn Go.Proofs
theorem fun_59 : Fun Tryd.prog 59 := .of Tryd.func59 (by kernel_rfl) (by kernel_rfl)
theorem fun_72 : Fun Tryd.prog 72 := .of Tryd.func72 (by kernel_rfl) (by kernel_rfl)
theorem fun_73 : Fun Tryd.prog 73 := .of Tryd.func73 (by kernel_rfl) (by kernel_rfl)
theorem mkt_22 : MkT Tryd.prog 22 3 8 (.int .i64 0) := ⟨by kernel_rfl, by kernel_rfl, rfl⟩
theorem szt_3 : SzT Tryd.prog 3 1 := .of (by kernel_rfl)
theorem w_costs_leaf {I : HMap} {av : Option Addr} {n c : Nat} {xs : List Int} (hS : Sl I 1 encI av n c xs) (hn : n ≤ 100000) {bv : Option Addr} {n2 c2 : Nat} {rows : List (List Int)} (hV : SlN I bv n2 c2 rows) (hn2 : n2 ≤ 100000) (l : Nat) (hl : ∀ r ∈ rows, l < r.length) (hc : chkN rows.length xs = 0) (f : Nat) (s : Int) (hok : OkS rows.length xs s)  (hsg : (andI s (IntKind.i64.wrap (s - 1)) == 0) = true) : RetM Tryd.prog 59 [.slice bv n2 c2, .slice av n c, .int .i64 l, .int .i64 s] I [] (SlRes 1 encI (costsF rows xs l (f + 1) s)) := by
  intro g H w hw
  refine enter Tryd.func59 rfl Tryd.ntmps59 rfl hw ?_
  have hIc := HLe.refl I
  obtain ⟨hs, hV⟩ := hV
  have hH := hV.1
  have hlV := hV.len
  have hal := (chkN_ok hc).1
  have hal6 := (chkN_ok hc).2.1
  have ha63 := (all_in (n := (rows.length : Int)) ⟨hal, hal6⟩).2
  have hs0 := hok.1
  have hs1 := hok.2.1
  have hsl := st_len (rows := rows) (l := l)
  obtain ⟨hsing, hwn⟩ := ok_sing (by omega) hok (by omega) hsg
  refine X_seq ?_
  refine X_region ?_
  refine XO_v0 (ev_assign rfl) rfl rfl rfl ?_
  refine XO_nil ?_
  refine at_then ?_
  refine X_seq ?_
  refine X_region ?_
  refine XO_v0 (ev_move rfl) rfl rfl rfl ?_
  refine XO_v0 (ev_move rfl) rfl rfl rfl ?_
  refine XO_callM (cap := []) (vs := [_, _]) rfl rfl fun_72 .nil (w_States ⟨hs, hV⟩ hn2 l hl) rfl rfl ?_
  rintro vv1 I1 L1 hI1 ⟨rfl, a9, c9, rfl, hSt⟩
  have hS := hS.mono hI1
  have hH := hH.mono hI1
  have hV := hV.mono hI1
  have hIc := hIc.trans hI1
  refine XO_v0 (ev_assign rfl) rfl rfl rfl ?_
  refine XO_nil ?_
  refine at_then ?_
  refine X_seq ?_
  refine X_region ?_
  refine XO_v0 (ev_move rfl) rfl rfl rfl ?_
  refine XO_v0 (ev_lenS rfl slt_22) rfl rfl rfl ?_
  refine XO_makeSlice mkt_22 rfl rfl (by omega) (by decide) rfl rfl (fun b_22 => ?_)
  refine XO_v0 (ev_assign rfl) rfl rfl rfl ?_
  refine XO_nil ?_
  have e0 : (((statesF rows l).length : Nat) : Int).toNat = (statesF rows l).length := rfl
  rw [e0, cellsI_new, ← fil_zero (g := (leafG ((rows.getD (witF s) []).getD l 0)))]
  refine at_then ?_
  refine X_seq ?_
  refine X_seq ?_
  refine X_region ?_
  refine XO_v0 (ev_move rfl) rfl rfl rfl ?_
  refine XO_v0 (ev_move rfl) rfl rfl rfl ?_
  refine XO_v0 (ev_arB rfl rfl rfl (fun hg => by first | omega | (simp [conj] at hg; omega))) rfl rfl rfl ?_
  refine XO_v0 (ev_and rfl rfl) rfl rfl rfl ?_
  refine XO_v0 (ev_cmp rfl rfl rfl) rfl rfl rfl ?_
  refine XO_nil ?_
  refine at_then ?_
  refine X_cond rfl (fun hc27 => ?_) (fun hc27 => ?_)
  · skip
    refine X_seq ?_
    refine X_region ?_
    refine XO_v0 (ev_assign rfl) rfl rfl rfl ?_
    refine XO_nil ?_
    refine at_then ?_
    refine X_seq ?_
    refine X_block ?_
    refine X_loopT [(0, _), (2, _), (3, _), (9, _), (10, _)] (.cons rfl (.cons rfl (.cons rfl (.cons rfl (.cons rfl .nil))))) (fun T L0 mz E I' loc' => ∃ (k : Nat), mz = (witF s) - k ∧ E = (11, .int .i64 k) :: T ∧ I1 = I' ∧ [(b_22, .cells (cellsI (filK (statesF rows l) (leafG ((rows.getD (witF s) []).getD l 0)) 0)) 3 (0, 0))] = loc' ∧ k ≤ (witF s)) _ _ _ _ ⟨0, rfl, rfl, rfl, rfl, Nat.zero_le _⟩ (.cons rfl (.cons rfl (.cons rfl (.cons rfl (.cons rfl (.cons rfl .nil)))))) (HLe.refl _) rfl ?_
    rintro mz E I' loc' ⟨k, rfl, rfl, rfl, rfl, hk⟩
    refine X_seq ?_
    refine X_seq ?_
    refine X_region ?_
    refine XO_v0 (ev_move rfl) rfl rfl rfl ?_
    refine XO_v0 (ev_shl rfl rfl (fun hg => by first | decide | omega | (simp [conj] at hg; omega))) rfl rfl rfl ?_
    refine XO_v0 (ev_move rfl) rfl rfl rfl ?_
    refine XO_v0 (ev_cmp rfl rfl rfl) rfl rfl rfl ?_
    refine XO_nil ?_
    refine at_then ?_
    refine X_cond rfl (fun hc31 => ?_) (fun hc31 => ?_)
    · skip
      have hlt_k : k < witF s := by have := wit_lt (w := k) ⟨hs0, by omega⟩ hsing hk (by omega); have h9 : decide (shlI (k : Int) < s) = true := hc31; rw [this] at h9; simpa using h9
      refine X_skip ?_
      refine at_then ?_
      refine X_block ?_
      refine X_region ?_
      refine XO_v0 (ev_move rfl) rfl rfl rfl ?_
      refine XO_v0 (ev_arB rfl rfl rfl (fun hg => by first | omega | (simp [conj] at hg; omega))) rfl rfl rfl ?_
      refine XO_v0 (ev_assign rfl) rfl rfl rfl ?_
      refine XO_nil ?_
      refine at_block_n ?_
      exact at_met2 _ _ ⟨(witF s) - (k + 1), by omega, k + 1, rfl, rfl, rfl, rfl, by omega⟩ (.cons rfl (.cons rfl (.cons rfl (.cons rfl (.cons rfl (.cons rfl .nil)))))) (by repeat (first | exact .refl | exact subL_left | refine subL_app ?_ | refine .drop ?_ | refine subL_add ?_))
    · skip
      have hge_k : k = witF s := by have := wit_lt (w := k) ⟨hs0, by omega⟩ hsing hk (by omega); have h9 : decide (shlI (k : Int) < s) = false := hc31; rw [this] at h9; simp at h9; omega
      subst hge_k
      obtain ⟨x, v, hx, hv, hQ⟩ := hV.at (show witF s < n2 by omega)
      have hlv := hl v (List.mem_of_getElem? hv)
      have hu := some_getD (d := 0) rfl hlv
      have hvn := hQ.len
      have hgv : (rows.getD (witF s) []).getD l 0 = v.getD l 0 := by rw [getD_of hv]
      refine X_exit ?_
      refine at_then_e ?_
      refine at_then_e ?_
      refine at_block_hit ?_
      refine at_then ?_
      refine X_seq ?_
      refine X_seq ?_
      refine X_region ?_
      refine XO_v0 (ev_assign rfl) rfl rfl rfl ?_
      refine XO_nil ?_
      refine at_then ?_
      refine X_block ?_
      refine X_loopT [(0, _), (2, _), (9, _), (10, _), (11, _)] (.cons rfl (.cons rfl (.cons rfl (.cons rfl (.cons rfl .nil))))) (fun T L0 mz E I' loc' => ∃ (i : Nat), mz = (statesF rows l).length - i ∧ E = (12, .int .i64 i) :: T ∧ I1 = I' ∧ [(b_22, .cells (cellsI (filK (statesF rows l) (leafG ((rows.getD (witF s) []).getD l 0)) i)) 3 (0, 0))] = loc' ∧ i ≤ (statesF rows l).length) _ _ _ _ ⟨0, rfl, rfl, rfl, rfl, Nat.zero_le _⟩ (.cons rfl (.cons rfl (.cons rfl (.cons rfl (.cons rfl (.cons rfl .nil)))))) (HLe.refl _) rfl ?_
      rintro mz E I' loc' ⟨i, rfl, rfl, rfl, rfl, hi⟩
      refine X_seq ?_
      refine X_seq ?_
      refine X_region ?_
      refine XO_v0 (ev_move rfl) rfl rfl rfl ?_
      refine XO_v0 (ev_move rfl) rfl rfl rfl ?_
      refine XO_v0 (ev_lenS rfl slt_22) rfl rfl rfl ?_
      refine XO_v0 (ev_cmp rfl rfl rfl) rfl rfl rfl ?_
      refine XO_nil ?_
      refine at_then ?_
      refine X_cond rfl (fun hc37 => ?_) (fun hc37 => ?_)
      · skip
        have hlt_i : i < (statesF rows l).length := by have h := hc37; simp at h; omega
        obtain ⟨y, hy⟩ := hSt.at hlt_i
        refine X_skip ?_
        refine at_then ?_
        refine X_seq ?_
        refine X_block ?_
        refine X_seq ?_
        refine X_draw mixed (by kernel_rfl) ?_
        refine XQ_v0 (ev_move rfl) rfl rfl rfl ?_
        refine XQ_v0 (ev_move rfl) rfl rfl rfl ?_
        refine XQ_v0 (ev_indexSl rfl rfl slt_28 hH (fun hg => by first | omega | (simp [conj] at hg; omega))) rfl rfl rfl ?_
        refine XQ_v0 (ev_load rfl sct_22 (fun hg => by first | exact Sl.get0 hH hx rfl | exact Sl.get0 hQ hu rfl | exact Sl.get0 hSt hy rfl | exact Cell.h0 rfl | exact Cell.h1 rfl | exact Cell.h2 rfl | exact Cell.h3 rfl | exact Cell.h4 rfl | exact Cell.h5 rfl | (repeat (first | exact Cell.here rfl | apply Cell.there | apply Cell.app)))) rfl rfl rfl ?_
        refine XQ_v0 (ev_move rfl) rfl rfl rfl ?_
        refine XQ_v0 (ev_indexSl rfl rfl slt_22 hQ (fun hg => by first | omega | (simp [conj] at hg; omega))) rfl rfl rfl ?_
        refine XQ_v0 (ev_load rfl sct_3 (fun hg => by first | exact Sl.get0 hH hx rfl | exact Sl.get0 hQ hu rfl | exact Sl.get0 hSt hy rfl | exact Cell.h0 rfl | exact Cell.h1 rfl | exact Cell.h2 rfl | exact Cell.h3 rfl | exact Cell.h4 rfl | exact Cell.h5 rfl | (repeat (first | exact Cell.here rfl | apply Cell.there | apply Cell.app)))) rfl rfl rfl ?_
        refine XQ_v0 (ev_cmp rfl rfl rfl) rfl rfl rfl ?_
        refine XQ_v0 (ev_move rfl) rfl rfl rfl ?_
        refine XQ_pushT 8 rfl rfl rfl ?_
        refine XQ_v1 (ev_move rfl) (.some rfl rfl rfl rfl gbt) rfl rfl rfl ?_
        refine XQ_v1 (ev_move rfl) (.some rfl rfl rfl rfl gbt) rfl rfl rfl ?_
        refine XQ_v1 (ev_indexSl rfl rfl slt_28 hH (fun hg => by first | omega | (simp [conj] at hg; omega))) (.some rfl rfl rfl rfl gbt) rfl rfl rfl ?_
        refine XQ_v1 (ev_load rfl sct_22 (fun hg => by first | exact Sl.get0 hH hx rfl | exact Sl.get0 hQ hu rfl | exact Sl.get0 hSt hy rfl | exact Cell.h0 rfl | exact Cell.h1 rfl | exact Cell.h2 rfl | exact Cell.h3 rfl | exact Cell.h4 rfl | exact Cell.h5 rfl | (repeat (first | exact Cell.here rfl | apply Cell.there | apply Cell.app)))) (.some rfl rfl rfl rfl gbt) rfl rfl rfl ?_
        refine XQ_v1 (ev_move rfl) (.some rfl rfl rfl rfl gbt) rfl rfl rfl ?_
        refine XQ_v1 (ev_indexSl rfl rfl slt_22 hQ (fun hg => by first | omega | (simp [conj] at hg; omega))) (.some rfl rfl rfl rfl gbt) rfl rfl rfl ?_
        refine XQ_v1 (ev_load rfl sct_3 (fun hg => by first | exact Sl.get0 hH hx rfl | exact Sl.get0 hQ hu rfl | exact Sl.get0 hSt hy rfl | exact Cell.h0 rfl | exact Cell.h1 rfl | exact Cell.h2 rfl | exact Cell.h3 rfl | exact Cell.h4 rfl | exact Cell.h5 rfl | (repeat (first | exact Cell.here rfl | apply Cell.there | apply Cell.app)))) (.some rfl rfl rfl rfl gbt) rfl rfl rfl ?_
        refine XQ_v1 (ev_move rfl) (.some rfl rfl rfl rfl gbt) rfl rfl rfl ?_
        refine XQ_v1 (ev_move rfl) (.some rfl rfl rfl rfl gbt) rfl rfl rfl ?_
        refine XQ_v1 (ev_indexSl rfl rfl slt_22 hSt (fun hg => by first | omega | (simp [conj] at hg; omega))) (.some rfl rfl rfl rfl gbt) rfl rfl rfl ?_
        refine XQ_v1 (ev_load rfl sct_3 (fun hg => by first | exact Sl.get0 hH hx rfl | exact Sl.get0 hQ hu rfl | exact Sl.get0 hSt hy rfl | exact Cell.h0 rfl | exact Cell.h1 rfl | exact Cell.h2 rfl | exact Cell.h3 rfl | exact Cell.h4 rfl | exact Cell.h5 rfl | (repeat (first | exact Cell.here rfl | apply Cell.there | apply Cell.app)))) (.some rfl rfl rfl rfl gbt) rfl rfl rfl ?_
        refine XQ_v1 (ev_cmp rfl rfl rfl) (.some rfl rfl rfl rfl gbt) rfl rfl rfl ?_
        refine XQ_and0 rfl rfl rfl rfl rfl ?_
        refine XQ_nil ?_
        refine at_then ?_
        refine X_cond rfl (fun hc61 => ?_) (fun hc61 => ?_)
        · skip
          have hgy : (leafG ((rows.getD (witF s) []).getD l 0)) y = 1048576 := by unfold leafG; rw [hgv, if_pos (by simpa using hc61)]
          refine X_region ?_
          refine XO_v0 (ev_move rfl) rfl rfl rfl ?_
          refine XO_v0 (ev_move rfl) rfl rfl rfl ?_
          refine XO_v0 (ev_indexOwn rfl rfl slt_22 (fun hg => by first | omega | (simp [conj] at hg; omega))) rfl rfl rfl ?_
          refine XO_store rfl rfl szt_3 rfl rfl (by first | exact Upd.u0 | exact Upd.u1 | exact Upd.u2 | exact Upd.u3 | exact Upd.u4 | exact Upd.u5 | (repeat (first | exact Upd.here | apply Upd.there | apply upd_app))) (bltI (by rw [fil_len (by omega)]; omega)) ?_
          refine XO_nil ?_
          rw [cellsI_set, show (filK (statesF rows l) (leafG ((rows.getD (witF s) []).getD l 0)) i).set i 1048576 = filK (statesF rows l) (leafG ((rows.getD (witF s) []).getD l 0)) (i + 1) from by rw [← fil_set hy, hgy]]
          refine at_block_n ?_
          refine at_then ?_
          refine X_region ?_
          refine XO_v0 (ev_move rfl) rfl rfl rfl ?_
          refine XO_v0 (ev_arB rfl rfl rfl (fun hg => by first | omega | (simp [conj] at hg; omega))) rfl rfl rfl ?_
          refine XO_v0 (ev_assign rfl) rfl rfl rfl ?_
          refine XO_nil ?_
          exact at_met2 _ _ ⟨(statesF rows l).length - (i + 1), by omega, i + 1, rfl, rfl, rfl, rfl, by omega⟩ (.cons rfl (.cons rfl (.cons rfl (.cons rfl (.cons rfl (.cons rfl .nil)))))) (by repeat (first | exact .refl | exact subL_left | refine subL_app ?_ | refine .drop ?_ | refine subL_add ?_))
        · skip
          have hgy : (leafG ((rows.getD (witF s) []).getD l 0)) y = 0 := by unfold leafG; rw [hgv, if_neg (by simpa using hc61)]
          rw [fil_skip hy hgy]
          refine X_skip ?_
          refine at_block_n ?_
          refine at_then ?_
          refine X_region ?_
          refine XO_v0 (ev_move rfl) rfl rfl rfl ?_
          refine XO_v0 (ev_arB rfl rfl rfl (fun hg => by first | omega | (simp [conj] at hg; omega))) rfl rfl rfl ?_
          refine XO_v0 (ev_assign rfl) rfl rfl rfl ?_
          refine XO_nil ?_
          exact at_met2 _ _ ⟨(statesF rows l).length - (i + 1), by omega, i + 1, rfl, rfl, rfl, rfl, by omega⟩ (.cons rfl (.cons rfl (.cons rfl (.cons rfl (.cons rfl (.cons rfl .nil)))))) (by repeat (first | exact .refl | exact subL_left | refine subL_app ?_ | refine .drop ?_ | refine subL_add ?_))
      · skip
        have hge_i : (statesF rows l).length ≤ i := by have h := hc37; simp at h; omega
        rw [fil_all hge_i]
        refine X_exit ?_
        refine at_then_e ?_
        refine at_then_e ?_
        refine at_block_hit ?_
        refine at_then ?_
        refine X_seq ?_
        refine X_region ?_
        refine XO_v0 (ev_move rfl) rfl rfl rfl ?_
        refine XO_v0 (ev_assign rfl) rfl rfl rfl ?_
        refine XO_nil ?_
        refine at_then ?_
        refine X_ret ?_
        refine at_then_r ?_
        exact at_ret1 rfl rfl (fun w hw => by obtain ⟨I9, h91, h92, h93⟩ := OwnS.res (own_rowI (by rw [List.length_map]) (by omega)) encI_len (by decide) hw; rw [← costs_leaf (f := f) hsg] at h93; exact ⟨_, I9, [], rfl, hIc.trans h91, h92, h93⟩)
  · skip
    rw [← wrapS ⟨hs0, by omega⟩, hsg] at hc27; cases hc27
theorem w_costs_two {I : HMap} {av : Option Addr} {n c : Nat} {xs : List Int} (hS : Sl I 1 encI av n c xs) (hn : n ≤ 100000) {bv : Option Addr} {n2 c2 : Nat} {rows : List (List Int)} (hV : SlN I bv n2 c2 rows) (hn2 : n2 ≤ 100000) (l : Nat) (hl : ∀ r ∈ rows, l < r.length) (hc : chkN rows.length xs = 0) (f : Nat) (hf1 : 1 ≤ f) (s : Int) (hok : OkS rows.length xs s) (ih : ∀ (I' : HMap), HLe I I' → ∀ (s' : Int), OkS rows.length xs s' → s' < s → RetM Tryd.prog 59 [.slice bv n2 c2, .slice av n c, .int .i64 l, .int .i64 s'] I' [] (SlRes 1 encI (costsF rows xs l f s'))) (hsg : (andI s (IntKind.i64.wrap (s - 1)) == 0) = false) : RetM Tryd.prog 59 [.slice bv n2 c2, .slice av n c, .int .i64 l, .int .i64 s] I [] (SlRes 1 encI (costsF rows xs l (f + 1) s)) := by
  intro g H w hw
  refine enter Tryd.func59 rfl Tryd.ntmps59 rfl hw ?_
  have hIc := HLe.refl I
  obtain ⟨hs, hV⟩ := hV
  have hH := hV.1
  have hlV := hV.len
  have hal := (chkN_ok hc).1
  have hal6 := (chkN_ok hc).2.1
  have ha63 := (all_in (n := (rows.length : Int)) ⟨hal, hal6⟩).2
  have hs0 := hok.1
  have hs1 := hok.2.1
  have hsl := st_len (rows := rows) (l := l)
  obtain ⟨hk1, hk2, hp1, hp2⟩ := ok_parts hc hok hsg
  obtain ⟨f0, rfl⟩ : ∃ f0, f = f0 + 1 := ⟨f - 1, by omega⟩
  refine X_seq ?_
  refine X_region ?_
  refine XO_v0 (ev_assign rfl) rfl rfl rfl ?_
  refine XO_nil ?_
  refine at_then ?_
  refine X_seq ?_
  refine X_region ?_
  refine XO_v0 (ev_move rfl) rfl rfl rfl ?_
  refine XO_v0 (ev_move rfl) rfl rfl rfl ?_
  refine XO_callM (cap := []) (vs := [_, _]) rfl rfl fun_72 .nil (w_States ⟨hs, hV⟩ hn2 l hl) rfl rfl ?_
  rintro vv1 I1 L1 hI1 ⟨rfl, a9, c9, rfl, hSt⟩
  have hS := hS.mono hI1
  have hH := hH.mono hI1
  have hV := hV.mono hI1
  have hIc := hIc.trans hI1
  refine XO_v0 (ev_assign rfl) rfl rfl rfl ?_
  refine XO_nil ?_
  refine at_then ?_
  refine X_seq ?_
  refine X_region ?_
  refine XO_v0 (ev_move rfl) rfl rfl rfl ?_
  refine XO_v0 (ev_lenS rfl slt_22) rfl rfl rfl ?_
  refine XO_makeSlice mkt_22 rfl rfl (by omega) (by decide) rfl rfl (fun b_22 => ?_)
  refine XO_v0 (ev_assign rfl) rfl rfl rfl ?_
  refine XO_nil ?_
  have e0 : (((statesF rows l).length : Nat) : Int).toNat = (statesF rows l).length := rfl
  rw [e0, cellsI_new, ← fil_zero (g := (twoG (statesF rows l) (costsF rows xs l (f0 + 1) (splitF xs s)) (costsF rows xs l (f0 + 1) (s - splitF xs s))))]
  refine at_then ?_
  refine X_seq ?_
  refine X_seq ?_
  refine X_region ?_
  refine XO_v0 (ev_move rfl) rfl rfl rfl ?_
  refine XO_v0 (ev_move rfl) rfl rfl rfl ?_
  refine XO_v0 (ev_arB rfl rfl rfl (fun _ => by first | omega | (have hb1 := below_in (st := (statesF rows l)) (s := (statesF rows l).getD i 0) (costs_in (rows := rows) (cl := xs) (l := l) (f0 + 1) (splitF xs s)); have hb2 := below_in (st := (statesF rows l)) (s := (statesF rows l).getD i 0) (costs_in (rows := rows) (cl := xs) (l := l) (f0 + 1) (s - splitF xs s)); omega))) rfl rfl rfl ?_
  refine XO_v0 (ev_and rfl rfl) rfl rfl rfl ?_
  refine XO_v0 (ev_cmp rfl rfl rfl) rfl rfl rfl ?_
  refine XO_nil ?_
  refine at_then ?_
  refine X_cond rfl (fun hc27 => ?_) (fun hc27 => ?_)
  · skip
    rw [← wrapS ⟨hs0, by omega⟩, hsg] at hc27; cases hc27
  · skip
    refine X_skip ?_
    refine at_then ?_
    refine X_seq ?_
    refine X_region ?_
    refine XO_v0 (ev_move rfl) rfl rfl rfl ?_
    refine XO_v0 (ev_move rfl) rfl rfl rfl ?_
    refine XO_callV0 (cap := []) (vs := [_, _]) rfl rfl fun_30 (w_rsplit hS hn s (by omega)) rfl rfl ?_
    refine XO_v0 (ev_assign rfl) rfl rfl rfl ?_
    refine XO_nil ?_
    refine at_then ?_
    refine X_seq ?_
    refine X_region ?_
    refine XO_v0 (ev_move rfl) rfl rfl rfl ?_
    refine XO_v0 (ev_move rfl) rfl rfl rfl ?_
    refine XO_v0 (ev_move rfl) rfl rfl rfl ?_
    refine XO_v0 (ev_move rfl) rfl rfl rfl ?_
    refine XO_callM (cap := []) (vs := [_, _, _, _]) rfl rfl fun_59 .nil (ih _ hIc _ hk1 hp2) rfl rfl ?_
    rintro vv2 I2 L2 hI2 ⟨rfl, aL, cL, rfl, hLt⟩
    have hS := hS.mono hI2
    have hH := hH.mono hI2
    have hV := hV.mono hI2
    have hSt := hSt.mono hI2
    have hIc := hIc.trans hI2
    refine XO_v0 (ev_assign rfl) rfl rfl rfl ?_
    refine XO_nil ?_
    refine at_then ?_
    refine X_seq ?_
    refine X_region ?_
    refine XO_v0 (ev_move rfl) rfl rfl rfl ?_
    refine XO_v0 (ev_move rfl) rfl rfl rfl ?_
    refine XO_v0 (ev_move rfl) rfl rfl rfl ?_
    refine XO_v0 (ev_move rfl) rfl rfl rfl ?_
    refine XO_v0 (ev_move rfl) rfl rfl rfl ?_
    refine XO_v0 (ev_arB rfl rfl rfl (fun _ => by first | omega | (have hb1 := below_in (st := (statesF rows l)) (s := (statesF rows l).getD i 0) (costs_in (rows := rows) (cl := xs) (l := l) (f0 + 1) (splitF xs s)); have hb2 := below_in (st := (statesF rows l)) (s := (statesF rows l).getD i 0) (costs_in (rows := rows) (cl := xs) (l := l) (f0 + 1) (s - splitF xs s)); omega))) rfl rfl rfl ?_
    refine XO_callM (cap := []) (vs := [_, _, _, _]) rfl rfl fun_59 .nil (ih _ hIc _ hk2 (by omega)) rfl rfl ?_
    rintro vv3 I3 L3 hI3 ⟨rfl, aR, cR, rfl, hRt⟩
    have hS := hS.mono hI3
    have hH := hH.mono hI3
    have hV := hV.mono hI3
    have hSt := hSt.mono hI3
    have hLt := hLt.mono hI3
    have hIc := hIc.trans hI3
    refine XO_v0 (ev_assign rfl) rfl rfl rfl ?_
    refine XO_nil ?_
    refine at_then ?_
    refine X_seq ?_
    refine X_seq ?_
    refine X_region ?_
    refine XO_v0 (ev_assign rfl) rfl rfl rfl ?_
    refine XO_nil ?_
    refine at_then ?_
    refine X_block ?_
    refine X_loopT [(9, _), (10, _), (14, _), (15, _)] (.cons rfl (.cons rfl (.cons rfl (.cons rfl .nil)))) (fun T L0 mz E I' loc' => ∃ (i : Nat), mz = (statesF rows l).length - i ∧ E = (16, .int .i64 i) :: T ∧ I3 = I' ∧ [(b_22, .cells (cellsI (filK (statesF rows l) (twoG (statesF rows l) (costsF rows xs l (f0 + 1) (splitF xs s)) (costsF rows xs l (f0 + 1) (s - splitF xs s))) i)) 3 (0, 0))] = loc' ∧ i ≤ (statesF rows l).length) _ _ _ _ ⟨0, rfl, rfl, rfl, rfl, Nat.zero_le _⟩ (.cons rfl (.cons rfl (.cons rfl (.cons rfl (.cons rfl .nil))))) (HLe.refl _) rfl ?_
    rintro mz E I' loc' ⟨i, rfl, rfl, rfl, rfl, hi⟩
    refine X_seq ?_
    refine X_seq ?_
    refine X_region ?_
    refine XO_v0 (ev_move rfl) rfl rfl rfl ?_
    refine XO_v0 (ev_move rfl) rfl rfl rfl ?_
    refine XO_v0 (ev_lenS rfl slt_22) rfl rfl rfl ?_
    refine XO_v0 (ev_cmp rfl rfl rfl) rfl rfl rfl ?_
    refine XO_nil ?_
    refine at_then ?_
    refine X_cond rfl (fun hc84 => ?_) (fun hc84 => ?_)
    · skip
      have hlt_i : i < (statesF rows l).length := by have h := hc84; simp at h; omega
      obtain ⟨y, hy⟩ := hSt.at hlt_i
      refine X_skip ?_
      refine at_then ?_
      refine X_seq ?_
      refine X_block ?_
      refine X_region ?_
      refine XO_v0 (ev_move rfl) rfl rfl rfl ?_
      refine XO_v0 (ev_move rfl) rfl rfl rfl ?_
      refine XO_v0 (ev_move rfl) rfl rfl rfl ?_
      refine XO_v0 (ev_move rfl) rfl rfl rfl ?_
      refine XO_v0 (ev_move rfl) rfl rfl rfl ?_
      refine XO_callV0 (cap := []) (vs := [_, _, _]) rfl rfl fun_73 (w_below hSt hLt (by omega) costs_len.symm (costs_in _ _) i hlt_i) rfl rfl ?_
      refine XO_v0 (ev_move rfl) rfl rfl rfl ?_
      refine XO_v0 (ev_move rfl) rfl rfl rfl ?_
      refine XO_v0 (ev_move rfl) rfl rfl rfl ?_
      refine XO_callV0 (cap := []) (vs := [_, _, _]) rfl rfl fun_73 (w_below hSt hRt (by omega) costs_len.symm (costs_in _ _) i hlt_i) rfl rfl ?_
      refine XO_v0 (ev_arB rfl rfl rfl (fun _ => by first | omega | (have hb1 := below_in (st := (statesF rows l)) (s := (statesF rows l).getD i 0) (costs_in (rows := rows) (cl := xs) (l := l) (f0 + 1) (splitF xs s)); have hb2 := below_in (st := (statesF rows l)) (s := (statesF rows l).getD i 0) (costs_in (rows := rows) (cl := xs) (l := l) (f0 + 1) (s - splitF xs s)); omega))) rfl rfl rfl ?_
      refine XO_v0 (ev_indexOwn rfl rfl slt_22 (fun hg => by first | omega | (simp [conj] at hg; omega))) rfl rfl rfl ?_
      refine XO_store rfl rfl szt_3 rfl rfl (by first | exact Upd.u0 | exact Upd.u1 | exact Upd.u2 | exact Upd.u3 | exact Upd.u4 | exact Upd.u5 | (repeat (first | exact Upd.here | apply Upd.there | apply upd_app))) (bltI (by rw [fil_len (by omega)]; omega)) ?_
      refine XO_nil ?_
      rw [cellsI_set, show (filK (statesF rows l) (twoG (statesF rows l) (costsF rows xs l (f0 + 1) (splitF xs s)) (costsF rows xs l (f0 + 1) (s - splitF xs s))) i).set i (belowF (statesF rows l) (costsF rows xs l (f0 + 1) (splitF xs s)) ((statesF rows l).getD i 0) + belowF (statesF rows l) (costsF rows xs l (f0 + 1) (s - splitF xs s)) ((statesF rows l).getD i 0)) = filK (statesF rows l) (twoG (statesF rows l) (costsF rows xs l (f0 + 1) (splitF xs s)) (costsF rows xs l (f0 + 1) (s - splitF xs s))) (i + 1) from by rw [← fil_set hy, getD_of hy]; rfl]
      refine at_block_n ?_
      refine at_then ?_
      refine X_region ?_
      refine XO_v0 (ev_move rfl) rfl rfl rfl ?_
      refine XO_v0 (ev_arB rfl rfl rfl (fun _ => by first | omega | (have hb1 := below_in (st := (statesF rows l)) (s := (statesF rows l).getD i 0) (costs_in (rows := rows) (cl := xs) (l := l) (f0 + 1) (splitF xs s)); have hb2 := below_in (st := (statesF rows l)) (s := (statesF rows l).getD i 0) (costs_in (rows := rows) (cl := xs) (l := l) (f0 + 1) (s - splitF xs s)); omega))) rfl rfl rfl ?_
      refine XO_v0 (ev_assign rfl) rfl rfl rfl ?_
      refine XO_nil ?_
      exact at_met2 _ _ ⟨(statesF rows l).length - (i + 1), by omega, i + 1, rfl, rfl, rfl, rfl, by omega⟩ (.cons rfl (.cons rfl (.cons rfl (.cons rfl (.cons rfl .nil))))) (by repeat (first | exact .refl | exact subL_left | refine subL_app ?_ | refine .drop ?_ | refine subL_add ?_))
    · skip
      have hge_i : (statesF rows l).length ≤ i := by have h := hc84; simp at h; omega
      rw [fil_all hge_i]
      refine X_exit ?_
      refine at_then_e ?_
      refine at_then_e ?_
      refine at_block_hit ?_
      refine at_then ?_
      refine X_seq ?_
      refine X_region ?_
      refine XO_v0 (ev_move rfl) rfl rfl rfl ?_
      refine XO_v0 (ev_assign rfl) rfl rfl rfl ?_
      refine XO_nil ?_
      refine at_then ?_
      refine X_ret ?_
      exact at_ret1 rfl rfl (fun w hw => by obtain ⟨I9, h91, h92, h93⟩ := OwnS.res (own_rowI (by rw [List.length_map]) (by omega)) encI_len (by decide) hw; rw [← costs_two (f := f0 + 1) hsg] at h93; exact ⟨_, I9, [], rfl, hIc.trans h91, h92, h93⟩)
end Go.Proofs.YtkpmnnflikkhmaaDoor
end
section
namespace Go.Proofs.YtkpmnnflikkhmaaDoor
open Go Go.Kn Go.Proofs
theorem rows_ok {rows : List (List Int)} (h : rowsN rows = 0) : 1 ≤ rows.length ∧ rows.length ≤ 6 ∧ (rows.getD 0 []).length ≤ 64 ∧ ∀ r ∈ rows, r.length = (rows.getD 0 []).length ∧ ∀ v ∈ r, 0 ≤ v ∧ v ≤ 8589934592 := by
  unfold rowsN at h
  split at h
  · cases h
  · rename_i h1
    split at h
    · cases h
    · rename_i h2
      split at h
      · cases h
      · rename_i h3
        simp only [Bool.or_eq_true, decide_eq_true_eq, not_or, Bool.not_eq_true, List.any_eq_false] at h1 h3
        obtain ⟨r0, h0⟩ : ∃ r, rows[0]? = some r := ⟨_, List.getElem?_eq_getElem (by omega)⟩
        have hg := getD_of (d := ([] : List Int)) h0
        have h64 := h1.2 r0 (List.mem_of_getElem? h0)
        simp at h64
        refine ⟨by omega, by omega, by rw [hg]; omega, fun r hr => ?_⟩
        have := h3 r hr
        unfold rowP at this
        rw [Bool.or_eq_false_iff] at this
        obtain ⟨ha, hb⟩ := this
        refine ⟨Int.ofNat.inj (Decidable.not_not.1 (of_decide_eq_false ha)), fun v hv => ?_⟩
        have := List.any_eq_false.1 hb v hv
        unfold stateP at this
        simp at this
        omega
theorem ok_all {n : Nat} {cl : List Int} (h : chkN n cl = 0) : OkS n cl (allS n) := by
  obtain ⟨h1, h6, hlen, hin⟩ := chkN_ok h
  refine ⟨(all_in (n := (n : Int)) ⟨h1, h6⟩).1, Int.le_refl _, ?_⟩
  by_cases e : n = 1
  · subst e
    unfold hasS
    rw [show singF (allS ((1 : Nat) : Int)) = true from by decide, Bool.or_true]
  · unfold chkN at h
    repeat (split at h; · cases h)
    rename_i h4 _
    have hg : (n : Int) > 1 := by omega
    simp only [Bool.and_eq_true, decide_eq_true_eq, not_and, Decidable.not_not] at h4
    have h4 := h4 hg
    unfold hasS
    rw [Bool.or_eq_true]; left
    rw [List.any_eq_true]
    have hk : ((n : Int) - 2).toNat < cl.length := by omega
    refine ⟨cl[((n : Int) - 2).toNat], List.getElem_mem hk, ?_⟩
    rw [beq_iff_eq, ← h4]
    exact (getD_of (List.getElem?_eq_getElem hk)).symm
/-- The least of some costs. -/
def minK (cs : List Int) (k : Nat) : Int := (cs.take k).foldl minI (cs.getD 0 0)
def leastF (cs : List Int) : Int := minK cs cs.length
theorem minK_step {cs : List Int} {k : Nat} {x : Int} (hx : cs[k]? = some x) : minK cs (k + 1) = minI (minK cs k) x := by
  unfold minK
  rw [List.take_add_one, hx, List.foldl_append]; rfl
theorem minK_in {cs : List Int} (h : ∀ y ∈ cs, 0 ≤ y ∧ y ≤ 1099511627776) (h0 : 0 < cs.length) : ∀ k, 0 ≤ minK cs k ∧ minK cs k ≤ 1099511627776 := by
  have hz : 0 ≤ cs.getD 0 0 ∧ cs.getD 0 0 ≤ 1099511627776 := by
    have := List.getElem?_eq_getElem h0
    rw [getD_of this]; exact h _ (List.getElem_mem h0)
  intro k
  induction k with
  | zero => simpa [minK] using hz
  | succ k ih =>
    cases hk : cs[k]? with
    | none =>
      have : minK cs (k + 1) = minK cs k := by
        unfold minK
        rw [List.take_add_one, hk]; simp
      rw [this]; exact ih
    | some x =>
      rw [minK_step hk]
      have := h x (List.mem_of_getElem? hk)
      unfold minI
      split <;> omega
def priceK (rows : List (List Int)) (cl : List Int) (k : Nat) : Int := (List.range k).foldl (fun s l => s + leastF (costsF rows cl l 64 (allS rows.length))) 0
def priceF (rows : List (List Int)) (cl : List Int) : Int := priceK rows cl (rows.getD 0 []).length
theorem price_step {rows : List (List Int)} {cl : List Int} {k : Nat} : priceK rows cl (k + 1) = priceK rows cl k + leastF (costsF rows cl k 64 (allS rows.length)) := by
  unfold priceK
  rw [List.range_succ, List.foldl_append]; rfl
theorem st_pos {rows : List (List Int)} {l : Nat} : 0 < (statesF rows l).length := by
  have : ∀ (ns out : List Int), out.length ≤ (ns.foldl stS out).length := by
    intro ns
    induction ns with
    | nil => intro out; simp
    | cons n ns ih =>
      intro out
      refine Nat.le_trans ?_ (ih _)
      unfold stS
      split
      · omega
      · simp
  exact this (rows.map fun r => r.getD l 0) [0]
end Go.Proofs.YtkpmnnflikkhmaaDoor
end
section
namespace Go.Proofs.YtkpmnnflikkhmaaDoor
open Go Go.Kn Go.Proofs
theorem w_costs {av bv : Option Addr} {n c n2 c2 : Nat} {xs : List Int} {rows : List (List Int)} (hn : n ≤ 100000) (hn2 : n2 ≤ 100000) (l : Nat) (hl : ∀ r ∈ rows, l < r.length) (hc : chkN rows.length xs = 0) : ∀ (f : Nat) (I : HMap), Sl I 1 encI av n c xs → SlN I bv n2 c2 rows → ∀ (s : Int), OkS rows.length xs s → s.toNat ≤ f → RetM Tryd.prog 59 [.slice bv n2 c2, .slice av n c, .int .i64 l, .int .i64 s] I [] (SlRes 1 encI (costsF rows xs l f s))
  | 0, _, _, _, s, hok, hf => by have := hok.1; omega
  | f + 1, I, hS, hV, s, hok, hf => by
    cases hsg : (andI s (IntKind.i64.wrap (s - 1)) == 0) with
    | true => exact w_costs_leaf hS hn hV hn2 l hl hc f s hok hsg
    | false =>
      obtain ⟨_, _, hp1, hp2⟩ := ok_parts hc hok hsg
      exact w_costs_two hS hn hV hn2 l hl hc f (by omega) s hok (fun I' hI s' hok' hlt => w_costs hn hn2 l hl hc f I' (hS.mono hI) (hV.mono hI) s' hok' (by omega)) hsg
theorem w_costsA {I : HMap} {av bv : Option Addr} {n c n2 c2 : Nat} {xs : List Int} {rows : List (List Int)} (hS : Sl I 1 encI av n c xs) (hn : n ≤ 100000) (hV : SlN I bv n2 c2 rows) (hn2 : n2 ≤ 100000) (l : Nat) (hl : ∀ r ∈ rows, l < r.length) (hc : chkN rows.length xs = 0) : RetM Tryd.prog 59 [.slice bv n2 c2, .slice av n c, .int .i64 l, .int .i64 (IntKind.i64.wrap (1 * 2 ^ (min (n2 : Int).toNat IntKind.i64.bits)) - 1)] I [] (SlRes 1 encI (costsF rows xs l 64 (allS rows.length))) := by
  have hlV := hV.len
  subst hlV
  exact w_costs hn hn2 l hl hc 64 I hS hV (allS rows.length) (ok_all hc) (by have := (all_in (n := (rows.length : Int)) ⟨(chkN_ok hc).1, (chkN_ok hc).2.1⟩).2; omega)
theorem w_rprice {I : HMap} {av : Option Addr} {n c : Nat} {xs : List Int} (hS : Sl I 1 encI av n c xs) (hn : n ≤ 100000) {bv : Option Addr} {n2 c2 : Nat} {rows : List (List Int)} (hV : SlN I bv n2 c2 rows) (hn2 : n2 ≤ 100000) (hr : rowsN rows = 0) (hc : chkN rows.length xs = 0) : RetV Tryd.prog 39 [.slice bv n2 c2, .slice av n c] I (.int .i64 (priceF rows xs)) := by
  intro g H w hw
  refine enter Tryd.func39 rfl Tryd.ntmps39 rfl hw ?_
  have hIc := HLe.refl I
  obtain ⟨hs, hV⟩ := hV
  have hH := hV.1
  have hlV := hV.len
  obtain ⟨hr1, hr6, hr64, hrr⟩ := rows_ok hr
  obtain ⟨x0, v0, hx0, hv0, hQ0⟩ := hV.at (show 0 < n2 by omega)
  have hw0 := hQ0.len
  have hg0 := getD_of (d := ([] : List Int)) hv0
  have hv64 : v0.length ≤ 64 := by rw [← hg0]; exact hr64
  have hsh := shl_in (n := (n2 : Int)) ⟨by omega, by omega⟩
  refine X_seq ?_
  refine X_region ?_
  refine XO_v0 (ev_assign rfl) rfl rfl rfl ?_
  refine XO_nil ?_
  refine at_then ?_
  refine X_seq ?_
  refine X_region ?_
  refine XO_v0 (ev_assign rfl) rfl rfl rfl ?_
  refine XO_nil ?_
  refine at_then ?_
  refine X_seq ?_
  refine X_seq ?_
  refine X_region ?_
  refine XO_v0 (ev_assign rfl) rfl rfl rfl ?_
  refine XO_nil ?_
  refine at_then ?_
  refine X_block ?_
  refine X_loopT [(0, _), (1, _)] (.cons rfl (.cons rfl .nil)) (fun T L0 mz E I' loc' => ∃ (k : Nat) (sm : Int), mz = v0.length - k ∧ E = (5, .int .i64 sm) :: (6, .int .i64 k) :: T ∧ HLe I I' ∧ L0 = loc' ∧ k ≤ v0.length ∧ sm = priceK rows xs k ∧ 0 ≤ sm ∧ sm ≤ k * 1099511627776) _ _ _ _ ⟨0, _, rfl, rfl, HLe.refl _, rfl, Nat.zero_le _, rfl, Int.le_refl _, (show (0 : Int) ≤ ((0 : Nat) : Int) * 1099511627776 by decide)⟩ (.cons rfl (.cons rfl (.cons rfl (.cons rfl .nil)))) (HLe.refl _) rfl ?_
  rintro mz E J1 loc' ⟨k, sm, rfl, rfl, hJ, rfl, hk, hsm, hs1, hs2⟩
  have hS := hS.mono hJ
  have hH := hH.mono hJ
  have hV := hV.mono hJ
  have hIc := hIc.trans hJ
  have hB0 := hJ
  refine X_seq ?_
  refine X_seq ?_
  refine X_region ?_
  refine XO_v0 (ev_move rfl) rfl rfl rfl ?_
  refine XO_v0 (ev_move rfl) rfl rfl rfl ?_
  refine XO_v0 (ev_indexSl rfl rfl slt_28 hH (fun hg => by first | omega | (simp [conj] at hg; omega) | (rw [costs_len]; have := st_pos (rows := rows) (l := k); omega))) rfl rfl rfl ?_
  refine XO_v0 (ev_load rfl sct_22 (fun hg => by first | exact Sl.get0 (k := 0) hH hx0 rfl | exact Sl.get0 (k := 0) hC (some_getD (d := 0) rfl (by rw [costs_len]; exact st_pos)) rfl | exact Sl.get0 hC hy rfl | exact Cell.h0 rfl | exact Cell.h1 rfl | exact Cell.h2 rfl | exact Cell.h3 rfl | exact Cell.h4 rfl | exact Cell.h5 rfl | (repeat (first | exact Cell.here rfl | apply Cell.there | apply Cell.app)))) rfl rfl rfl ?_
  refine XO_v0 (ev_lenS rfl slt_22) rfl rfl rfl ?_
  refine XO_v0 (ev_cmp rfl rfl rfl) rfl rfl rfl ?_
  refine XO_nil ?_
  refine at_then ?_
  refine X_cond rfl (fun hc15 => ?_) (fun hc15 => ?_)
  · skip
    have hlt_k : k < v0.length := by have h := hc15; simp at h; omega
    refine X_skip ?_
    refine at_then ?_
    refine X_seq ?_
    refine X_block ?_
    refine X_seq ?_
    refine X_region ?_
    refine XO_v0 (ev_move rfl) rfl rfl rfl ?_
    refine XO_v0 (ev_move rfl) rfl rfl rfl ?_
    refine XO_v0 (ev_move rfl) rfl rfl rfl ?_
    refine XO_v0 (ev_move rfl) rfl rfl rfl ?_
    refine XO_v0 (ev_lenS rfl slt_28) rfl rfl rfl ?_
    refine XO_v0 (ev_shl rfl rfl (fun hg => by first | decide | omega | (simp [conj] at hg; omega))) rfl rfl rfl ?_
    refine XO_v0 (ev_arB rfl rfl rfl (fun _ => by first | omega | (have hcl : (costsF rows xs k 64 (allS rows.length)).length ≤ 7 := (by rw [costs_len]; have := st_len (rows := rows) (l := k); omega); omega) | (have hmi : 0 ≤ leastF (costsF rows xs k 64 (allS rows.length)) ∧ leastF (costsF rows xs k 64 (allS rows.length)) ≤ 1099511627776 := minK_in (cs := (costsF rows xs k 64 (allS rows.length))) (costs_in _ _) (by rw [costs_len]; exact st_pos) (costsF rows xs k 64 (allS rows.length)).length; omega))) rfl rfl rfl ?_
    refine XO_callM (cap := []) (vs := [_, _, _, _]) rfl rfl fun_59 .nil (w_costsA hS hn ⟨hs, hV⟩ hn2 k (fun r hm => by rw [(hrr r hm).1, hg0]; omega) hc) rfl rfl ?_
    rintro vv2 I2 L2 hI2 ⟨rfl, aC, cC, rfl, hC⟩
    have hS := hS.mono hI2
    have hH := hH.mono hI2
    have hV := hV.mono hI2
    have hIc := hIc.trans hI2
    have hB0 := hB0.trans hI2
    refine XO_v0 (ev_assign rfl) rfl rfl rfl ?_
    refine XO_nil ?_
    refine at_then ?_
    refine X_seq ?_
    refine X_region ?_
    refine XO_v0 (ev_move rfl) rfl rfl rfl ?_
    refine XO_v0 (ev_indexSl rfl rfl slt_22 hC (fun hg => by first | omega | (simp [conj] at hg; omega) | (rw [costs_len]; have := st_pos (rows := rows) (l := k); omega))) rfl rfl rfl ?_
    refine XO_v0 (ev_load rfl sct_3 (fun hg => by first | exact Sl.get0 (k := 0) hH hx0 rfl | exact Sl.get0 (k := 0) hC (some_getD (d := 0) rfl (by rw [costs_len]; exact st_pos)) rfl | exact Sl.get0 hC hy rfl | exact Cell.h0 rfl | exact Cell.h1 rfl | exact Cell.h2 rfl | exact Cell.h3 rfl | exact Cell.h4 rfl | exact Cell.h5 rfl | (repeat (first | exact Cell.here rfl | apply Cell.there | apply Cell.app)))) rfl rfl rfl ?_
    refine XO_v0 (ev_assign rfl) rfl rfl rfl ?_
    refine XO_nil ?_
    refine at_then ?_
    refine X_seq ?_
    refine X_seq ?_
    refine X_region ?_
    refine XO_v0 (ev_assign rfl) rfl rfl rfl ?_
    refine XO_nil ?_
    refine at_then ?_
    refine X_block ?_
    refine X_loopT [(0, _), (1, _), (5, _), (6, _), (7, _)] (.cons rfl (.cons rfl (.cons rfl (.cons rfl (.cons rfl .nil))))) (fun T L0 mz E I' loc' => ∃ (i : Nat) (b : Int), mz = (costsF rows xs k 64 (allS rows.length)).length - i ∧ E = (8, .int .i64 b) :: (9, .int .i64 i) :: T ∧ I2 = I' ∧ L0 = loc' ∧ i ≤ (costsF rows xs k 64 (allS rows.length)).length ∧ b = minK (costsF rows xs k 64 (allS rows.length)) i) _ _ _ _ ⟨0, _, rfl, rfl, rfl, rfl, Nat.zero_le _, by simp [minK]⟩ (.cons rfl (.cons rfl (.cons rfl (.cons rfl (.cons rfl (.cons rfl (.cons rfl .nil))))))) (HLe.refl _) rfl ?_
    rintro mz E I' loc' ⟨i, b, rfl, rfl, rfl, rfl, hi, hb⟩
    refine X_seq ?_
    refine X_seq ?_
    refine X_region ?_
    refine XO_v0 (ev_move rfl) rfl rfl rfl ?_
    refine XO_v0 (ev_move rfl) rfl rfl rfl ?_
    refine XO_v0 (ev_lenS rfl slt_22) rfl rfl rfl ?_
    refine XO_v0 (ev_cmp rfl rfl rfl) rfl rfl rfl ?_
    refine XO_nil ?_
    refine at_then ?_
    refine X_cond rfl (fun hc32 => ?_) (fun hc32 => ?_)
    · skip
      have hlt_i : i < (costsF rows xs k 64 (allS rows.length)).length := by have h := hc32; simp at h; omega
      obtain ⟨y, hy⟩ : ∃ y, (costsF rows xs k 64 (allS rows.length))[i]? = some y := ⟨_, List.getElem?_eq_getElem hlt_i⟩
      refine X_skip ?_
      refine at_then ?_
      refine X_seq ?_
      refine X_block ?_
      refine X_region ?_
      refine XO_v0 (ev_move rfl) rfl rfl rfl ?_
      refine XO_v0 (ev_move rfl) rfl rfl rfl ?_
      refine XO_v0 (ev_move rfl) rfl rfl rfl ?_
      refine XO_v0 (ev_indexSl rfl rfl slt_22 hC (fun hg => by first | omega | (simp [conj] at hg; omega) | (rw [costs_len]; have := st_pos (rows := rows) (l := k); omega))) rfl rfl rfl ?_
      refine XO_v0 (ev_load rfl sct_3 (fun hg => by first | exact Sl.get0 (k := 0) hH hx0 rfl | exact Sl.get0 (k := 0) hC (some_getD (d := 0) rfl (by rw [costs_len]; exact st_pos)) rfl | exact Sl.get0 hC hy rfl | exact Cell.h0 rfl | exact Cell.h1 rfl | exact Cell.h2 rfl | exact Cell.h3 rfl | exact Cell.h4 rfl | exact Cell.h5 rfl | (repeat (first | exact Cell.here rfl | apply Cell.there | apply Cell.app)))) rfl rfl rfl ?_
      refine XO_v0 (ev_min rfl rfl) rfl rfl rfl ?_
      refine XO_v0 (ev_assign rfl) rfl rfl rfl ?_
      refine XO_nil ?_
      refine at_block_n ?_
      refine at_then ?_
      refine X_region ?_
      refine XO_v0 (ev_move rfl) rfl rfl rfl ?_
      refine XO_v0 (ev_arB rfl rfl rfl (fun _ => by first | omega | (have hcl : (costsF rows xs k 64 (allS rows.length)).length ≤ 7 := (by rw [costs_len]; have := st_len (rows := rows) (l := k); omega); omega) | (have hmi : 0 ≤ leastF (costsF rows xs k 64 (allS rows.length)) ∧ leastF (costsF rows xs k 64 (allS rows.length)) ≤ 1099511627776 := minK_in (cs := (costsF rows xs k 64 (allS rows.length))) (costs_in _ _) (by rw [costs_len]; exact st_pos) (costsF rows xs k 64 (allS rows.length)).length; omega))) rfl rfl rfl ?_
      refine XO_v0 (ev_assign rfl) rfl rfl rfl ?_
      refine XO_nil ?_
      exact at_met2 _ _ ⟨(costsF rows xs k 64 (allS rows.length)).length - (i + 1), by omega, i + 1, _, rfl, rfl, rfl, rfl, by omega, by rw [minK_step hy, hb]⟩ (.cons rfl (.cons rfl (.cons rfl (.cons rfl (.cons rfl (.cons rfl (.cons rfl .nil))))))) (by repeat (first | exact .refl | exact subL_left | refine subL_app ?_ | refine .drop ?_ | refine subL_add ?_))
    · skip
      have hge_i : (costsF rows xs k 64 (allS rows.length)).length ≤ i := by have h := hc32; simp at h; omega
      have hie : i = (costsF rows xs k 64 (allS rows.length)).length := by omega
      rw [hie] at hb
      have hb : b = leastF (costsF rows xs k 64 (allS rows.length)) := hb
      refine X_exit ?_
      refine at_then_e ?_
      refine at_then_e ?_
      refine at_block_hit ?_
      refine at_then ?_
      refine X_region ?_
      refine XO_v0 (ev_move rfl) rfl rfl rfl ?_
      refine XO_v0 (ev_move rfl) rfl rfl rfl ?_
      refine XO_v0 (ev_arB rfl rfl rfl (fun _ => by first | omega | (have hcl : (costsF rows xs k 64 (allS rows.length)).length ≤ 7 := (by rw [costs_len]; have := st_len (rows := rows) (l := k); omega); omega) | (have hmi : 0 ≤ leastF (costsF rows xs k 64 (allS rows.length)) ∧ leastF (costsF rows xs k 64 (allS rows.length)) ≤ 1099511627776 := minK_in (cs := (costsF rows xs k 64 (allS rows.length))) (costs_in _ _) (by rw [costs_len]; exact st_pos) (costsF rows xs k 64 (allS rows.length)).length; omega))) rfl rfl rfl ?_
      refine XO_v0 (ev_assign rfl) rfl rfl rfl ?_
      refine XO_nil ?_
      refine at_block_n ?_
      refine at_then ?_
      refine X_region ?_
      refine XO_v0 (ev_move rfl) rfl rfl rfl ?_
      refine XO_v0 (ev_arB rfl rfl rfl (fun _ => by first | omega | (have hcl : (costsF rows xs k 64 (allS rows.length)).length ≤ 7 := (by rw [costs_len]; have := st_len (rows := rows) (l := k); omega); omega) | (have hmi : 0 ≤ leastF (costsF rows xs k 64 (allS rows.length)) ∧ leastF (costsF rows xs k 64 (allS rows.length)) ≤ 1099511627776 := minK_in (cs := (costsF rows xs k 64 (allS rows.length))) (costs_in _ _) (by rw [costs_len]; exact st_pos) (costsF rows xs k 64 (allS rows.length)).length; omega))) rfl rfl rfl ?_
      refine XO_v0 (ev_assign rfl) rfl rfl rfl ?_
      refine XO_nil ?_
      exact at_met2 _ _ ⟨v0.length - (k + 1), by omega, k + 1, _, rfl, rfl, hB0, rfl, by omega, by rw [price_step, hsm, hb], by have hmi : 0 ≤ leastF (costsF rows xs k 64 (allS rows.length)) ∧ leastF (costsF rows xs k 64 (allS rows.length)) ≤ 1099511627776 := minK_in (cs := (costsF rows xs k 64 (allS rows.length))) (costs_in _ _) (by rw [costs_len]; exact st_pos) (costsF rows xs k 64 (allS rows.length)).length; omega, by have hmi : 0 ≤ leastF (costsF rows xs k 64 (allS rows.length)) ∧ leastF (costsF rows xs k 64 (allS rows.length)) ≤ 1099511627776 := minK_in (cs := (costsF rows xs k 64 (allS rows.length))) (costs_in _ _) (by rw [costs_len]; exact st_pos) (costsF rows xs k 64 (allS rows.length)).length; omega⟩ (.cons rfl (.cons rfl (.cons rfl (.cons rfl .nil)))) (by repeat (first | exact .refl | exact subL_left | refine subL_app ?_ | refine .drop ?_ | refine subL_add ?_))
  · skip
    have hge_k : k = v0.length := by have h := hc15; simp at h; omega
    refine X_exit ?_
    refine at_then_e ?_
    refine at_then_e ?_
    refine at_block_hit ?_
    refine at_then ?_
    refine X_seq ?_
    refine X_region ?_
    refine XO_v0 (ev_move rfl) rfl rfl rfl ?_
    refine XO_v0 (ev_assign rfl) rfl rfl rfl ?_
    refine XO_nil ?_
    refine at_then ?_
    refine X_ret ?_
    first
    | exact at_ret1 rfl rfl (fun w hw => ⟨by rw [hsm, hge_k, ← hg0]; rfl, (hw.mono hIc).drop⟩)
end Go.Proofs.YtkpmnnflikkhmaaDoor
end
section
namespace Go.Proofs.YtkpmnnflikkhmaaDoor
open Go Go.Kn Go.Proofs
def costE (rows : List (List Int)) (cl : List Int) : Int := if rowsN rows ≠ 0 then rowsN rows else chkN rows.length cl
def costA (rows : List (List Int)) (cl : List Int) : Int := if costE rows cl ≠ 0 then 0 else priceF rows cl
theorem cost_1 {rows : List (List Int)} {cl : List Int} (h : rowsN rows ≠ 0) : costE rows cl = rowsN rows ∧ costA rows cl = 0 := by
  have e : costE rows cl = rowsN rows := by unfold costE; rw [if_pos h]
  exact ⟨e, by unfold costA; rw [if_pos (by rw [e]; exact h)]⟩
theorem cost_2 {rows : List (List Int)} {cl : List Int} (h : rowsN rows = 0) (h2 : chkN rows.length cl ≠ 0) : costE rows cl = chkN rows.length cl ∧ costA rows cl = 0 := by
  have e : costE rows cl = chkN rows.length cl := by unfold costE; rw [if_neg (by omega)]
  exact ⟨e, by unfold costA; rw [if_pos (by rw [e]; exact h2)]⟩
theorem cost_3 {rows : List (List Int)} {cl : List Int} (h : rowsN rows = 0) (h2 : chkN rows.length cl = 0) : costE rows cl = 0 ∧ costA rows cl = priceF rows cl := by
  have e : costE rows cl = 0 := by unfold costE; rw [if_neg (by omega), h2]
  exact ⟨e, by unfold costA; rw [if_neg (by omega)]⟩
/-- Heads and what they stand for. -/
def RelH (I : HMap) (hs : List Hd) (vss : List (List Int)) : Prop := hs.length = vss.length ∧ ∀ (k : Nat) (h : Hd) (v : List Int), hs[k]? = some h → vss[k]? = some v → Sl I 1 encI h.a h.n h.c v
theorem RelH.nil {I : HMap} : RelH I [] [] := ⟨rfl, fun k h v a => by simp at a⟩
theorem RelH.mono {I I' : HMap} {hs : List Hd} {vss : List (List Int)} (h : RelH I hs vss) (hI : HLe I I') : RelH I' hs vss := ⟨h.1, fun k x v a b => (h.2 k x v a b).mono hI⟩
theorem RelH.snoc {I : HMap} {hs : List Hd} {vss : List (List Int)} (h : RelH I hs vss) {hd : Hd} {v : List Int} (hV : Sl I 1 encI hd.a hd.n hd.c v) : RelH I (hs ++ [hd]) (vss ++ [v]) := by
  refine ⟨by simp [h.1], fun k x y a b => ?_⟩
  rw [List.getElem?_append] at a b
  rw [h.1] at a
  split at a
  · rename_i hk
    rw [if_pos hk] at b
    exact h.2 k x y a b
  · rename_i hk
    rw [if_neg hk] at b
    have e : k - vss.length = 0 := by
      cases hd2 : k - vss.length with
      | zero => rfl
      | succ m => rw [hd2] at a; simp at a
    rw [e] at a b
    simp at a b
    subst a; subst b; exact hV
theorem RelH.app {I : HMap} {hs gs : List Hd} {vss uss : List (List Int)} (h : RelH I hs vss) (g : RelH I gs uss) : RelH I (hs ++ gs) (vss ++ uss) := by
  refine ⟨by simp [h.1, g.1], fun k x y a b => ?_⟩
  rw [List.getElem?_append] at a b
  rw [h.1] at a
  split at a
  · rename_i hk
    rw [if_pos hk] at b
    exact h.2 k x y a b
  · rename_i hk
    rw [if_neg hk] at b
    exact g.2 _ x y a b
theorem RelH.drop {I : HMap} {hs : List Hd} {vss : List (List Int)} (h : RelH I hs vss) (i : Nat) : RelH I (hs.drop i) (vss.drop i) :=
  ⟨by simp [h.1], fun k x y a b => by rw [List.getElem?_drop] at a b; exact h.2 _ x y a b⟩
theorem RelH.take {I : HMap} {hs : List Hd} {vss : List (List Int)} (h : RelH I hs vss) (i : Nat) : RelH I (hs.take i) (vss.take i) :=
  ⟨by simp [h.1], fun k x y a b => by
    rw [List.getElem?_take] at a b
    split at a
    · rename_i hk
      rw [if_pos hk] at b
      exact h.2 _ x y a b
    · cases a⟩
theorem SlH.rel {I : HMap} {av : Option Addr} {n c : Nat} {hs : List Hd} {vss : List (List Int)} (h : SlH I av n c hs vss) : RelH I hs vss := h.2
def SlNRes (vss : List (List Int)) : Value → HMap → Go.Kn.Loc → Prop := fun v I' L => L = [] ∧ ∃ av c, v = .slice av vss.length c ∧ SlN I' av vss.length c vss
def sortF : Nat → List (List Int) → List (List Int)
  | 0, l => l
  | f + 1, l => if l.length < 2 then l else bothG lexF (sortF f (l.take (l.length / 2))) (sortF f (l.drop (l.length / 2)))
theorem sort_len : ∀ (f : Nat) (l : List (List Int)), (sortF f l).length = l.length
  | 0, _ => rfl
  | f + 1, l => by
    simp only [sortF]
    split
    · rfl
    · rw [both_len, sort_len f, sort_len f, List.length_take, List.length_drop]; omega
end Go.Proofs.YtkpmnnflikkhmaaDoor
end
