/- The walks of the register of rights, eleventh part: each function comes to its Lean function. -/
import Derived.Test.YtmflfccincbnaaaWalkJ
import Derived.Test.YtmflfccincbnaaaPlain
namespace Go.Proofs.Ytmflfccincbnaaa
open Go Go.Kn Go.Proofs
theorem put_end {xs : List Int} {n k : Nat} {v : Int} (hlen : xs.length = n) (hend : k < n → ¬ xs.getD k 0 < v) (hc : (decide ((k : Int) < (n : Int)) && xs.getD k 0 == v) = false) (x : Int) (hx : xs[k]? = some x) : ¬ x < v ∧ x ≠ v := by
  have hlt : k < n := by rw [← hlen]; exact (List.getElem?_eq_some_iff.1 hx).1
  have e : xs.getD k 0 = x := by simp [List.getD, hx]
  have h1 := hend hlt
  rw [e] at h1 hc
  refine ⟨h1, fun h => ?_⟩
  rw [Bool.and_eq_false_iff] at hc
  rcases hc with h2 | h2
  · have := of_decide_eq_false h2; omega
  · rw [h] at h2; simp at h2
theorem put_go {xs : List Int} {n k : Nat} {v : Int} (hk : k < n) (hc : (decide ((k : Int) < (n : Int)) && decide (xs.getD k 0 < v)) = false) (hv : xs.getD k 0 < v) : False := by
  rw [Bool.and_eq_false_iff] at hc
  rcases hc with h2 | h2
  · have := of_decide_eq_false h2; omega
  · exact of_decide_eq_false h2 hv

theorem allOne_int : ∀ (xs : List Int), allOne (xs.flatMap encI) = true
  | [] => rfl
  | x :: xs => by
    have := allOne_int xs
    simp only [allOne, List.flatMap_cons, encI, List.cons_append, List.nil_append, List.all_cons] at this ⊢
    rw [this]; rfl

theorem w_put {I : HMap} {av : Option Addr} {n c : Nat} {xs : List Int} (hS : Sl I 1 encI av n c xs) (hn : n ≤ 100000) (v : Int) : RetM Try.prog 51 [.slice av n c, .int .i64 v] I [] (SlRes 1 encI (putF xs v)) := by
  intro g H w hw
  refine enter Try.func51 rfl Try.ntmps51 rfl hw ?_
  refine X_seq ?_
  refine X_region ?_
  refine XO_v0 (ev_assign rfl) rfl rfl rfl ?_
  refine XO_nil ?_
  refine at_then ?_
  refine X_seq ?_
  refine X_region ?_
  refine XO_v0 (ev_assign rfl) rfl rfl rfl ?_
  refine XO_nil ?_
  refine at_then ?_
  refine X_cut (fun E I' loc' => ∃ k : Nat, E = [(0, .slice av n c), (1, .int .i64 v), (5, .int .i64 k)] ∧ I' = I ∧ loc' = [] ∧ k ≤ n ∧ (xs.take k).all (fun y => decide (y < v)) = true ∧ (k < n → ¬ xs.getD k 0 < v)) ?_ ?_
  · skip
    refine X_block ?_
    refine X_loop (fun m E I' loc' => ∃ k : Nat, m = n - k ∧ E = [(0, .slice av n c), (1, .int .i64 v), (5, .int .i64 k)] ∧ I' = I ∧ loc' = [] ∧ k ≤ n ∧ (xs.take k).all (fun y => decide (y < v)) = true) _ _ _ _ ⟨0, rfl, rfl, rfl, rfl, Nat.zero_le _, rfl⟩ (.cons rfl (.cons rfl (.cons rfl .nil))) (HLe.refl _) rfl ?_
    rintro m E I' loc' ⟨k, rfl, rfl, rfl, rfl, hk, hinv⟩
    refine X_seq ?_
    refine X_seq ?_
    refine X_region ?_
    refine XO_v0 (ev_move rfl) rfl rfl rfl ?_
    refine XO_v0 (ev_move rfl) rfl rfl rfl ?_
    refine XO_v0 (ev_lenS rfl slt_31) rfl rfl rfl ?_
    refine XO_v0 (ev_cmp rfl rfl rfl) rfl rfl rfl ?_
    refine XO_v0 (ev_move rfl) rfl rfl rfl ?_
    refine XO_pushT 4 rfl rfl rfl ?_
    refine XO_v1 (ev_move rfl) (.some rfl rfl rfl rfl gbt) rfl rfl rfl ?_
    refine XO_v1 (ev_move rfl) (.some rfl rfl rfl rfl gbt) rfl rfl rfl ?_
    refine XO_v1 (ev_indexSl rfl rfl slt_31 (by assumption) (fun hg => by (simp [conj] at hg; omega))) (.some rfl rfl rfl rfl gbt) rfl rfl rfl ?_
    refine XO_v1 (ev_load rfl sct_3 (fun hg => by first | exact Sl.getD0 hS (d := 0) (k := k) (by simpa [conj] using hg) rfl | exact Cell.h0 rfl | exact Cell.h1 rfl | exact Cell.h2 rfl | exact Cell.h3 rfl | exact Cell.h4 rfl | exact Cell.h5 rfl)) (.some rfl rfl rfl rfl gbt) rfl rfl rfl ?_
    refine XO_v1 (ev_move rfl) (.some rfl rfl rfl rfl gbt) rfl rfl rfl ?_
    refine XO_v1 (ev_cmp rfl rfl rfl) (.some rfl rfl rfl rfl gbt) rfl rfl rfl ?_
    refine XO_and0 rfl rfl rfl rfl rfl ?_
    refine XO_nil ?_
    refine at_then ?_
    refine X_cond rfl (fun hc18 => ?_) (fun hc18 => ?_)
    · skip
      rw [Bool.and_eq_true] at hc18
      have hlt : k < n := by simpa using hc18.1
      obtain ⟨x, hx⟩ := hS.at hlt
      have hlv : decide (x < v) = true := by have h2 := hc18.2; simpa [List.getD, hx] using h2
      refine X_skip ?_
      refine at_then ?_
      refine X_block ?_
      refine X_region ?_
      refine XO_v0 (ev_move rfl) rfl rfl rfl ?_
      refine XO_v0 (ev_arB rfl rfl rfl (fun _ => by omega)) rfl rfl rfl ?_
      refine XO_v0 (ev_assign rfl) rfl rfl rfl ?_
      refine XO_nil ?_
      refine at_block_n ?_
      exact at_met' _ ⟨n - (k + 1), by omega, k + 1, rfl, rfl, rfl, rfl, by omega, all_step hx hinv hlv⟩ (.cons rfl (.cons rfl (.cons rfl .nil)))
    · skip
      refine X_exit ?_
      refine at_then_e ?_
      refine at_then_e ?_
      refine at_block_hit ?_
      exact at_met' _ ⟨k, rfl, rfl, rfl, hk, hinv, fun h hv => put_go h hc18 hv⟩ (.cons rfl (.cons rfl (.cons rfl .nil)))
  · rintro E I' loc' ⟨k, rfl, rfl, rfl, hk, hinv, hend⟩
    refine X_seq ?_
    refine X_seq ?_
    refine X_region ?_
    refine XO_v0 (ev_move rfl) rfl rfl rfl ?_
    refine XO_v0 (ev_move rfl) rfl rfl rfl ?_
    refine XO_v0 (ev_lenS rfl slt_31) rfl rfl rfl ?_
    refine XO_v0 (ev_cmp rfl rfl rfl) rfl rfl rfl ?_
    refine XO_v0 (ev_move rfl) rfl rfl rfl ?_
    refine XO_pushT 4 rfl rfl rfl ?_
    refine XO_v1 (ev_move rfl) (.some rfl rfl rfl rfl gbt) rfl rfl rfl ?_
    refine XO_v1 (ev_move rfl) (.some rfl rfl rfl rfl gbt) rfl rfl rfl ?_
    refine XO_v1 (ev_indexSl rfl rfl slt_31 (by assumption) (fun hg => by (simp [conj] at hg; omega))) (.some rfl rfl rfl rfl gbt) rfl rfl rfl ?_
    refine XO_v1 (ev_load rfl sct_3 (fun hg => by first | exact Sl.getD0 hS (d := 0) (k := k) (by simpa [conj] using hg) rfl | exact Cell.h0 rfl | exact Cell.h1 rfl | exact Cell.h2 rfl | exact Cell.h3 rfl | exact Cell.h4 rfl | exact Cell.h5 rfl)) (.some rfl rfl rfl rfl gbt) rfl rfl rfl ?_
    refine XO_v1 (ev_move rfl) (.some rfl rfl rfl rfl gbt) rfl rfl rfl ?_
    refine XO_v1 (ev_cmp rfl rfl rfl) (.some rfl rfl rfl rfl gbt) rfl rfl rfl ?_
    refine XO_and0 rfl rfl rfl rfl rfl ?_
    refine XO_nil ?_
    refine at_then ?_
    refine X_cond rfl (fun hc32 => ?_) (fun hc32 => ?_)
    · skip
      rw [Bool.and_eq_true] at hc32
      have hlt : k < n := by simpa using hc32.1
      obtain ⟨x, hx⟩ := hS.at hlt
      have hxv : x = v := by have h2 := hc32.2; simpa [List.getD, hx] using h2
      have hput := putF_hit hinv (hxv ▸ hx)
      refine X_seq ?_
      refine X_region ?_
      refine XO_v0 (ev_move rfl) rfl rfl rfl ?_
      refine XO_v0 (ev_assign rfl) rfl rfl rfl ?_
      refine XO_nil ?_
      refine at_then ?_
      refine X_ret ?_
      refine at_then_r ?_
      first
      | exact at_ret1 rfl rfl (fun w hw => ⟨_, I', [], rfl, HLe.refl _, hw, by rw [hput]; exact ⟨rfl, av, c, by rw [hS.len], by rw [hS.len]; exact hS⟩⟩)
      | exact at_ret1 rfl rfl (fun w hw => by obtain ⟨I2, h1, h2, h3⟩ := OwnS.res (xs := putF xs v) (by rw [hput]; simpa [List.flatMap_append] using hO3) encI_len (by decide) (hw.subL subL_left); exact ⟨_, I2, [], rfl, h1, h2, h3⟩)
    · skip
      have hput := putF_in (v := v) hinv (by rw [hS.len]; exact hk) (put_end hS.len hend hc32)
      refine X_skip ?_
      refine at_then ?_
      refine X_seq ?_
      have hcap := hS.cap
      refine X_region ?_
      refine XO_buildSlice (ps := []) (m := []) elt_31 rfl (.nil) rfl (by simp [encR_len, encI_len, encP_len]) (by decide) (by decide) rfl rfl (fun b_34 => ?_)
      refine XO_v0 (ev_move rfl) rfl rfl rfl ?_
      refine XO_v0 (ev_move rfl) rfl rfl rfl ?_
      refine XO_v0 (ev_sliceHi rfl rfl slt_31 (fun hg => by (simp [conj] at hg; omega))) rfl rfl rfl ?_
      refine XO_append (v := _) (ys := (xs.take k).flatMap encI) (L := [(b_34, _)]) rfl rfl elt_31 (⟨rfl, .inr ⟨b_34, 0, #[], rfl, rfl, Nat.le_refl _, by decide, rfl, rfl⟩⟩ : OwnS 3 1 _ 0 [] _) split_all ((hS.take hk).src encI_len) (allOne_int _) (by omega) rfl rfl ?_
      intro v1 L1 hO1 _; rw [List.append_nil]
      refine XO_v0 (ev_assign rfl) rfl rfl rfl ?_
      refine XO_nil ?_
      refine at_then ?_
      refine X_seq ?_
      refine X_region ?_
      refine XO_v0 (ev_move rfl) rfl rfl rfl ?_
      refine XO_v0 (ev_move rfl) rfl rfl rfl ?_
      refine XO_buildSlice (ps := [(0, _)]) (m := [encI v]) elt_31 rfl (.cons rfl (.nil)) rfl (by simp [encR_len, encI_len, encP_len]) (by decide) (by decide) rfl rfl (fun b_41 => ?_)
      refine XO_append (v := v1) (ys := [encI v].flatten) (L := L1) rfl rfl elt_31 hO1 (split_right (A := [_])) ⟨rfl, fun _ => rfl, Cells.here⟩ rfl (by omega) rfl rfl ?_
      intro v2 L2 hO2 _
      refine XO_v0 (ev_assign rfl) rfl rfl rfl ?_
      refine XO_nil ?_
      refine at_then ?_
      refine X_seq ?_
      refine X_region ?_
      refine XO_v0 (ev_move rfl) rfl rfl rfl ?_
      refine XO_v0 (ev_move rfl) rfl rfl rfl ?_
      refine XO_v0 (ev_move rfl) rfl rfl rfl ?_
      refine XO_v0 (ev_sliceLo rfl rfl slt_31 (fun hg => by (simp [conj] at hg; omega))) rfl rfl rfl ?_
      refine XO_append (v := v2) (ys := (xs.drop k).flatMap encI) (L := L2) rfl rfl elt_31 hO2 split_app ((hS.drop hk).src encI_len) (allOne_int _) (by omega) rfl rfl ?_
      intro v3 L3 hO3 _
      refine XO_v0 (ev_assign rfl) rfl rfl rfl ?_
      refine XO_nil ?_
      refine at_then ?_
      refine X_ret ?_
      first
      | exact at_ret1 rfl rfl (fun w hw => ⟨_, I', [], rfl, HLe.refl _, hw, by rw [hput]; exact ⟨rfl, av, c, by rw [hS.len], by rw [hS.len]; exact hS⟩⟩)
      | exact at_ret1 rfl rfl (fun w hw => by obtain ⟨I2, h1, h2, h3⟩ := OwnS.res (xs := putF xs v) (by rw [hput]; simpa [List.flatMap_append] using hO3) encI_len (by decide) (hw.subL subL_left); exact ⟨_, I2, [], rfl, h1, h2, h3⟩)

theorem w_rholders {I : HMap} {av : Option Addr} {n c : Nat} {xs : List Rt} (hS : Sl I 11 encR av n c xs) (hn : n ≤ 100000) (ed sign : Int) : RetM Try.prog 36 [.slice av n c, .int .i64 ed, .int .i64 sign] I [] (SlRes 1 encI (holdR ed sign xs)) := by
  intro g H w hw
  refine enter Try.func36 rfl Try.ntmps36 rfl hw ?_
  refine X_seq ?_
  refine X_region ?_
  refine XO_v0 (ev_assign rfl) rfl rfl rfl ?_
  refine XO_nil ?_
  refine at_then ?_
  refine X_seq ?_
  refine X_region ?_
  refine XO_v0 (ev_assign rfl) rfl rfl rfl ?_
  refine XO_nil ?_
  refine at_then ?_
  refine X_cut (fun E I' loc' => ∃ (bv : Option Addr) (q c2 : Nat), E = [(0, .slice av n c), (1, .int .i64 ed), (2, .int .i64 sign), (7, .slice bv q c2)] ∧ HLe I I' ∧ loc' = [] ∧ Sl I' 1 encI bv q c2 (holdR ed sign xs)) ?_ ?_
  · skip
    refine X_seq ?_
    refine X_region ?_
    refine XO_v0 (ev_assign rfl) rfl rfl rfl ?_
    refine XO_nil ?_
    refine at_then ?_
    refine X_block ?_
    refine X_loop (fun m E I' loc' => ∃ (k : Nat) (bv : Option Addr) (q c2 : Nat), m = n - k ∧ E = [(0, .slice av n c), (1, .int .i64 ed), (2, .int .i64 sign), (7, .slice bv q c2), (8, .int .i64 k)] ∧ HLe I I' ∧ loc' = [] ∧ k ≤ n ∧ Sl I' 1 encI bv q c2 (holdR ed sign (xs.take k)) ∧ q ≤ k) _ _ _ _ ⟨0, none, 0, 0, rfl, rfl, HLe.refl _, rfl, Nat.zero_le _, .nil, Nat.le_refl _⟩ (.cons rfl (.cons rfl (.cons rfl (.cons rfl (.cons rfl .nil))))) (HLe.refl _) rfl ?_
    rintro m E I' loc' ⟨k, bv, q, c2, rfl, rfl, hI1, rfl, hk, hB, hq⟩
    have hS := hS.mono hI1
    refine X_seq ?_
    refine X_seq ?_
    refine X_region ?_
    refine XO_v0 (ev_move rfl) rfl rfl rfl ?_
    refine XO_v0 (ev_move rfl) rfl rfl rfl ?_
    refine XO_v0 (ev_lenS rfl slt_22) rfl rfl rfl ?_
    refine XO_v0 (ev_cmp rfl rfl rfl) rfl rfl rfl ?_
    refine XO_nil ?_
    refine at_then ?_
    refine X_cond rfl (fun hc12 => ?_) (fun hc12 => ?_)
    · skip
      have hlt : k < n := by simpa using hc12
      obtain ⟨x, hx⟩ := hS.at hlt
      refine X_skip ?_
      refine at_then ?_
      refine X_seq ?_
      refine X_block ?_
      refine X_seq ?_
      refine X_region ?_
      refine XO_v0 (ev_move rfl) rfl rfl rfl ?_
      refine XO_v0 (ev_move rfl) rfl rfl rfl ?_
      refine XO_v0 (ev_indexSl rfl rfl slt_22 (by assumption) (fun hg => by omega)) rfl rfl rfl ?_
      refine XO_v0 (ev_loadA rfl agt_45 (fun _ => by first | exact Sl.getA hS hx | exact Cells.g0 | exact Cells.g1 | exact Cells.g2 | exact Cells.g3 | exact Cells.g4 | exact Cells.g5) rfl) rfl rfl rfl ?_
      refine XO_v0 (ev_move rfl) rfl rfl rfl ?_
      refine XO_v0 (ev_move rfl) rfl rfl rfl ?_
      refine XO_callV0 (cap := []) (vs := [_, _, _, _]) rfl rfl fun_50 (w_covers _ x 2 ed sign) rfl rfl ?_
      refine XO_nil ?_
      refine at_then ?_
      refine X_cond rfl (fun hc21 => ?_) (fun hc21 => ?_)
      · skip
        refine X_region ?_
        refine XO_v0 (ev_move rfl) rfl rfl rfl ?_
        refine XO_v0 (ev_move rfl) rfl rfl rfl ?_
        refine XO_v0 (ev_move rfl) rfl rfl rfl ?_
        refine XO_v0 (ev_indexSl rfl rfl slt_22 (by assumption) (fun hg => by omega)) rfl rfl rfl ?_
        refine XO_v0 (ev_fieldAddr rfl fld_45_3) rfl rfl rfl ?_
        refine XO_v0 (ev_load rfl sct_3 (fun hg => by first | exact Sl.get hS hx rfl | exact Cell.h0 rfl | exact Cell.h1 rfl | exact Cell.h2 rfl | exact Cell.h3 rfl | exact Cell.h4 rfl | exact Cell.h5 rfl)) rfl rfl rfl ?_
        refine XO_callM (cap := []) (vs := [_, _]) rfl rfl fun_51 .nil (w_put hB (by omega) x.holder) rfl rfl ?_
        rintro v I2 L' hI2 ⟨rfl, bv2, c3, rfl, hB2⟩
        have hlen2 := putF_len (holdR ed sign (xs.take k)) x.holder
        rw [hB.len] at hlen2
        refine XO_v0 (ev_assign rfl) rfl rfl rfl ?_
        refine XO_nil ?_
        refine at_block_n ?_
        refine at_then ?_
        refine X_region ?_
        refine XO_v0 (ev_move rfl) rfl rfl rfl ?_
        refine XO_v0 (ev_arB rfl rfl rfl (fun _ => by omega)) rfl rfl rfl ?_
        refine XO_v0 (ev_assign rfl) rfl rfl rfl ?_
        refine XO_nil ?_
        first
        | exact at_met' _ ⟨n - (k + 1), by omega, k + 1, bv2, _, c3, rfl, rfl, hI1.trans hI2, rfl, by omega, by rw [holdR_step hx, if_pos hc21]; exact hB2, by omega⟩ (.cons rfl (.cons rfl (.cons rfl (.cons rfl (.cons rfl .nil)))))
        | exact at_met' _ ⟨n - (k + 1), by omega, k + 1, bv, q, c2, rfl, rfl, hI1, rfl, by omega, by rw [holdR_step hx, if_neg (by rw [hc21]; exact Bool.false_ne_true)]; exact hB, by omega⟩ (.cons rfl (.cons rfl (.cons rfl (.cons rfl (.cons rfl .nil)))))
      · skip
        refine X_skip ?_
        refine at_block_n ?_
        refine at_then ?_
        refine X_region ?_
        refine XO_v0 (ev_move rfl) rfl rfl rfl ?_
        refine XO_v0 (ev_arB rfl rfl rfl (fun _ => by omega)) rfl rfl rfl ?_
        refine XO_v0 (ev_assign rfl) rfl rfl rfl ?_
        refine XO_nil ?_
        first
        | exact at_met' _ ⟨n - (k + 1), by omega, k + 1, bv2, _, c3, rfl, rfl, hI1.trans hI2, rfl, by omega, by rw [holdR_step hx, if_pos hc21]; exact hB2, by omega⟩ (.cons rfl (.cons rfl (.cons rfl (.cons rfl (.cons rfl .nil)))))
        | exact at_met' _ ⟨n - (k + 1), by omega, k + 1, bv, q, c2, rfl, rfl, hI1, rfl, by omega, by rw [holdR_step hx, if_neg (by rw [hc21]; exact Bool.false_ne_true)]; exact hB, by omega⟩ (.cons rfl (.cons rfl (.cons rfl (.cons rfl (.cons rfl .nil)))))
    · skip
      have hge : n ≤ k := by simpa using hc12
      refine X_exit ?_
      refine at_then_e ?_
      refine at_then_e ?_
      refine at_block_hit ?_
      exact at_met' _ ⟨bv, q, c2, rfl, hI1, rfl, by rw [List.take_of_length_le (by rw [hS.len]; omega)] at hB; exact hB⟩ (.cons rfl (.cons rfl (.cons rfl (.cons rfl .nil))))
  · rintro E I' loc' ⟨bv, q, c2, rfl, hI1, rfl, hB⟩
    refine X_seq ?_
    refine X_region ?_
    refine XO_v0 (ev_move rfl) rfl rfl rfl ?_
    refine XO_v0 (ev_assign rfl) rfl rfl rfl ?_
    refine XO_nil ?_
    refine at_then ?_
    refine X_ret ?_
    exact at_ret1 rfl rfl (fun w hw => ⟨_, I', [], rfl, hI1, hw, rfl, bv, c2, by rw [hB.len], by rw [hB.len]; exact hB⟩)

theorem w_consents {I : HMap} {av : Option Addr} {n c : Nat} {xs : List Rt} (hS : Sl I 11 encR av n c xs) (hn : n ≤ 100000) (ed sign h : Int) : RetV Try.prog 37 [.slice av n c, .int .i64 ed, .int .i64 sign, .int .i64 h] I (.bool (xs.any (consP ed sign h))) := by
  intro g H w hw
  refine enter Try.func37 rfl Try.ntmps37 rfl hw ?_
  refine X_seq ?_
  refine X_region ?_
  refine XO_v0 (ev_assign rfl) rfl rfl rfl ?_
  refine XO_nil ?_
  refine at_then ?_
  refine X_cut (fun E I' loc' => E = [(0, .slice av n c), (1, .int .i64 ed), (2, .int .i64 sign), (3, .int .i64 h)] ∧ I' = I ∧ loc' = [] ∧ xs.any (consP ed sign h) = false) ?_ ?_
  · skip
    refine X_seq ?_
    refine X_region ?_
    refine XO_v0 (ev_assign rfl) rfl rfl rfl ?_
    refine XO_nil ?_
    refine at_then ?_
    refine X_block ?_
    refine X_loop (fun m E I' loc' => ∃ k : Nat, m = n - k ∧ E = [(0, .slice av n c), (1, .int .i64 ed), (2, .int .i64 sign), (3, .int .i64 h), (9, .int .i64 k)] ∧ I' = I ∧ loc' = [] ∧ k ≤ n ∧ (xs.take k).any (consP ed sign h) = false) _ _ _ _ ⟨0, rfl, rfl, rfl, rfl, Nat.zero_le _, rfl⟩ (.cons rfl (.cons rfl (.cons rfl (.cons rfl (.cons rfl .nil))))) (HLe.refl _) rfl ?_
    rintro m E I' loc' ⟨k, rfl, rfl, rfl, rfl, hk, hinv⟩
    refine X_seq ?_
    refine X_seq ?_
    refine X_region ?_
    refine XO_v0 (ev_move rfl) rfl rfl rfl ?_
    refine XO_v0 (ev_move rfl) rfl rfl rfl ?_
    refine XO_v0 (ev_lenS rfl slt_22) rfl rfl rfl ?_
    refine XO_v0 (ev_cmp rfl rfl rfl) rfl rfl rfl ?_
    refine XO_nil ?_
    refine at_then ?_
    refine X_cond rfl (fun hc13 => ?_) (fun hc13 => ?_)
    · skip
      have hlt : k < n := by simpa using hc13
      obtain ⟨x, hx⟩ := hS.at hlt
      refine X_skip ?_
      refine at_then ?_
      refine X_seq ?_
      refine X_block ?_
      refine X_seq ?_
      refine X_region ?_
      refine XO_v0 (ev_move rfl) rfl rfl rfl ?_
      refine XO_v0 (ev_move rfl) rfl rfl rfl ?_
      refine XO_v0 (ev_indexSl rfl rfl slt_22 (by assumption) (fun hg => by omega)) rfl rfl rfl ?_
      refine XO_v0 (ev_loadA rfl agt_45 (fun _ => by first | exact Sl.getA hS hx | exact Cells.g0 | exact Cells.g1 | exact Cells.g2 | exact Cells.g3 | exact Cells.g4 | exact Cells.g5) rfl) rfl rfl rfl ?_
      refine XO_v0 (ev_move rfl) rfl rfl rfl ?_
      refine XO_v0 (ev_move rfl) rfl rfl rfl ?_
      refine XO_callV0 (cap := []) (vs := [_, _, _, _]) rfl rfl fun_50 (w_covers _ x 3 ed sign) rfl rfl ?_
      refine XO_v0 (ev_move rfl) rfl rfl rfl ?_
      refine XO_pushT 7 rfl rfl rfl ?_
      refine XO_v1 (ev_move rfl) (.some rfl rfl rfl rfl gbt) rfl rfl rfl ?_
      refine XO_v1 (ev_move rfl) (.some rfl rfl rfl rfl gbt) rfl rfl rfl ?_
      refine XO_v1 (ev_indexSl rfl rfl slt_22 (by assumption) (fun hg => by omega)) (.some rfl rfl rfl rfl gbt) rfl rfl rfl ?_
      refine XO_v1 (ev_fieldAddr rfl fld_45_3) (.some rfl rfl rfl rfl gbt) rfl rfl rfl ?_
      refine XO_v1 (ev_load rfl sct_3 (fun hg => by first | exact Sl.get hS hx rfl | exact Cell.h0 rfl | exact Cell.h1 rfl | exact Cell.h2 rfl | exact Cell.h3 rfl | exact Cell.h4 rfl | exact Cell.h5 rfl)) (.some rfl rfl rfl rfl gbt) rfl rfl rfl ?_
      refine XO_v1 (ev_move rfl) (.some rfl rfl rfl rfl gbt) rfl rfl rfl ?_
      refine XO_v1 (ev_cmp rfl rfl rfl) (.some rfl rfl rfl rfl gbt) rfl rfl rfl ?_
      refine XO_and0 rfl rfl rfl rfl rfl ?_
      refine XO_nil ?_
      refine at_then ?_
      refine X_cond rfl (fun hc31 => ?_) (fun hc31 => ?_)
      · skip
        refine X_seq ?_
        refine X_region ?_
        refine XO_v0 (ev_assign rfl) rfl rfl rfl ?_
        refine XO_nil ?_
        refine at_then ?_
        refine X_ret ?_
        refine at_block_r ?_
        refine at_then_r ?_
        refine at_then_r ?_
        refine at_block_r ?_
        refine at_then_r ?_
        exact at_ret1 rfl rfl (fun w hw => ⟨by first | (rw [hfin]) | (rw [show xs.any (consP ed sign h) = true from any_hit hx hc31]), hw.drop⟩)
      · skip
        refine X_skip ?_
        refine at_block_n ?_
        refine at_then ?_
        refine X_region ?_
        refine XO_v0 (ev_move rfl) rfl rfl rfl ?_
        refine XO_v0 (ev_arB rfl rfl rfl (fun _ => by omega)) rfl rfl rfl ?_
        refine XO_v0 (ev_assign rfl) rfl rfl rfl ?_
        refine XO_nil ?_
        exact at_met' _ ⟨n - (k + 1), by omega, k + 1, rfl, rfl, rfl, rfl, by omega, any_step hx hinv hc31⟩ (.cons rfl (.cons rfl (.cons rfl (.cons rfl (.cons rfl .nil)))))
    · skip
      have hge : n ≤ k := by simpa using hc13
      refine X_exit ?_
      refine at_then_e ?_
      refine at_then_e ?_
      refine at_block_hit ?_
      exact at_met' _ ⟨rfl, rfl, rfl, any_end hinv (by rw [hS.len]; omega)⟩ (.cons rfl (.cons rfl (.cons rfl (.cons rfl .nil))))
  · rintro E I' loc' ⟨rfl, rfl, rfl, hfin⟩
    refine X_seq ?_
    refine X_region ?_
    refine XO_v0 (ev_assign rfl) rfl rfl rfl ?_
    refine XO_nil ?_
    refine at_then ?_
    refine X_ret ?_
    exact at_ret1 rfl rfl (fun w hw => ⟨by first | (rw [hfin]) | (rw [show xs.any (consP ed sign h) = true from any_hit hx hc31]), hw.drop⟩)

theorem hres_chk {chk sign : Int} {hs : List Int} (h : chk ≠ 0) {I : HMap} : SlE 1 encI (resF (hErr chk sign) hs) (hErr chk sign) (.tuple #[.slice none 0 0, .int .i64 chk]) I [] := by
  have : hErr chk sign = chk := by unfold hErr; rw [if_pos h]
  rw [this]; unfold resF; rw [if_pos h]
  exact ⟨rfl, none, 0, rfl, .nil⟩
theorem hres_arg {chk sign : Int} {hs : List Int} (h : chk = 0) (hw : within sign 0 1048576 = false) {I : HMap} : SlE 1 encI (resF (hErr chk sign) hs) (hErr chk sign) (.tuple #[.slice none 0 0, .int .i64 1]) I [] := by
  have : hErr chk sign = 1 := by unfold hErr; rw [if_neg (by omega), hw]; rfl
  rw [this]; unfold resF; rw [if_pos (by decide)]
  exact ⟨rfl, none, 0, rfl, .nil⟩
theorem hres_ok {chk sign : Int} {hs : List Int} (h : chk = 0) (hw : within sign 0 1048576 = true) {I : HMap} {av : Option Addr} {c : Nat} (hS : Sl I 1 encI av hs.length c hs) : SlE 1 encI (resF (hErr chk sign) hs) (hErr chk sign) (.tuple #[.slice av hs.length c, .int .i64 0]) I [] := by
  have : hErr chk sign = 0 := by unfold hErr; rw [if_neg (by omega), hw]; rfl
  rw [this]; unfold resF; rw [if_neg (by decide)]
  exact ⟨rfl, av, c, rfl, hS⟩

theorem hres_ref {chk ed sign : Int} {xs : List Rt} (h : chk = 0) (hw : within sign 0 1048576 = true) {I : HMap} {av : Option Addr} {c : Nat} (hB : Sl I 1 encI av (holdR ed sign (resF chk xs)).length c (holdR ed sign (resF chk xs))) :
    SlE 1 encI (resF (hErr chk sign) (holdR ed sign xs)) (hErr chk sign) (.tuple #[.slice av (holdR ed sign (resF chk xs)).length c, .int .i64 0]) I [] := by
  have e : resF chk xs = xs := by unfold resF; rw [if_neg (by omega)]
  rw [e] at hB ⊢
  exact hres_ok h hw hB

theorem w_Holders {I : HMap} {av : Option Addr} {n c : Nat} {xs : List Rt} (hS : Sl I 11 encR av n c xs) (hn : n ≤ 100000) (ed sign day time : Int) : RetM Try.prog 19 [.slice av n c, .int .i64 ed, .int .i64 sign, .int .i64 day, .int .i64 time] I [] (SlE 1 encI (resF (hErr (askedF (rCheck xs) day time) sign) (holdF sign (partsM 2 ed (standF xs day time)))) (hErr (askedF (rCheck xs) day time) sign)) := by
  intro g H w hw
  refine enter Try.func19 rfl Try.ntmps19 rfl hw ?_
  refine X_seq ?_
  refine X_region ?_
  refine XO_v0 (ev_assign rfl) rfl rfl rfl ?_
  refine XO_v0 (ev_assign rfl) rfl rfl rfl ?_
  refine XO_nil ?_
  refine at_then ?_
  refine X_seq ?_
  refine X_seq ?_
  refine X_region ?_
  refine XO_v0 (ev_move rfl) rfl rfl rfl ?_
  refine XO_v0 (ev_move rfl) rfl rfl rfl ?_
  refine XO_v0 (ev_move rfl) rfl rfl rfl ?_
  refine XO_callV0 (cap := []) (vs := [_, _, _]) rfl rfl fun_25 (w_asked hS hn _ _) rfl rfl ?_
  refine XO_v0 (ev_assign rfl) rfl rfl rfl ?_
  refine XO_nil ?_
  refine at_then ?_
  refine X_seq ?_
  refine X_region ?_
  refine XO_v0 (ev_move rfl) rfl rfl rfl ?_
  refine XO_v0 (ev_cmp rfl rfl rfl) rfl rfl rfl ?_
  refine XO_nil ?_
  refine at_then ?_
  refine X_cond rfl (fun hc17 => ?_) (fun hc17 => ?_)
  · skip
    refine X_seq ?_
    refine X_region ?_
    refine XO_v0 (ev_move rfl) rfl rfl rfl ?_
    refine XO_v0 (ev_assign rfl) rfl rfl rfl ?_
    refine XO_v0 (ev_assign rfl) rfl rfl rfl ?_
    refine XO_nil ?_
    refine at_then ?_
    refine X_ret ?_
    refine at_then_r ?_
    first
    | exact at_ret2 rfl rfl rfl (fun w hw => ⟨_, I, [], rfl, HLe.refl _, hw, hres_chk (by simpa using hc17)⟩)
    | exact at_ret2 rfl rfl rfl (fun w hw => ⟨_, I, [], rfl, HLe.refl _, hw, hres_arg (by simpa using hc17) (by simpa using hc21)⟩)
    | exact at_ret2 rfl rfl rfl (fun w hw => ⟨_, I2, [], rfl, hI1.trans hI2, hw, hres_ok (by simpa using hc17) (by simpa using hc21) hS'⟩)
  · skip
    refine X_skip ?_
    refine at_then ?_
    refine X_seq ?_
    refine X_seq ?_
    refine X_region ?_
    refine XO_v0 (ev_move rfl) rfl rfl rfl ?_
    refine XO_callV0 (cap := []) (vs := [_, _, _]) rfl rfl fun_31 (w_within _ _ _ _) rfl rfl ?_
    refine XO_v0 (ev_not rfl) rfl rfl rfl ?_
    refine XO_nil ?_
    refine at_then ?_
    refine X_cond rfl (fun hc21 => ?_) (fun hc21 => ?_)
    · skip
      refine X_seq ?_
      refine X_region ?_
      refine XO_v0 (ev_assign rfl) rfl rfl rfl ?_
      refine XO_v0 (ev_assign rfl) rfl rfl rfl ?_
      refine XO_nil ?_
      refine at_then ?_
      refine X_ret ?_
      refine at_then_r ?_
      first
      | exact at_ret2 rfl rfl rfl (fun w hw => ⟨_, I, [], rfl, HLe.refl _, hw, hres_chk (by simpa using hc17)⟩)
      | exact at_ret2 rfl rfl rfl (fun w hw => ⟨_, I, [], rfl, HLe.refl _, hw, hres_arg (by simpa using hc17) (by simpa using hc21)⟩)
      | exact at_ret2 rfl rfl rfl (fun w hw => ⟨_, I2, [], rfl, hI1.trans hI2, hw, hres_ok (by simpa using hc17) (by simpa using hc21) hS'⟩)
    · skip
      refine X_skip ?_
      refine at_then ?_
      refine X_seq ?_
      refine X_region ?_
      refine XO_v0 (ev_move rfl) rfl rfl rfl ?_
      refine XO_v0 (ev_move rfl) rfl rfl rfl ?_
      refine XO_v0 (ev_move rfl) rfl rfl rfl ?_
      refine XO_v0 (ev_move rfl) rfl rfl rfl ?_
      refine XO_callM (cap := []) (vs := [_, _, _, _, _]) rfl rfl fun_34 .nil (w_parts hS hn _ _ _ _) rfl rfl ?_
      rintro v I1 L' hI1 ⟨rfl, r, rfl, hr⟩
      refine XO_v0 (ev_move rfl) rfl rfl rfl ?_
      refine XO_callM (cap := []) (vs := [_, _]) rfl rfl fun_33 .nil (w_holders hr (by have h1 := partsM_len 2 ed (standF xs day time); have h2 := @standF_len xs day time; rw [hS.len] at h2; omega) sign) rfl rfl ?_
      rintro v I2 L' hI2 ⟨rfl, av', c', rfl, hS'⟩
      refine XO_v0 (ev_assign rfl) rfl rfl rfl ?_
      refine XO_v0 (ev_assign rfl) rfl rfl rfl ?_
      refine XO_nil ?_
      refine at_then ?_
      refine X_ret ?_
      first
      | exact at_ret2 rfl rfl rfl (fun w hw => ⟨_, I, [], rfl, HLe.refl _, hw, hres_chk (by simpa using hc17)⟩)
      | exact at_ret2 rfl rfl rfl (fun w hw => ⟨_, I, [], rfl, HLe.refl _, hw, hres_arg (by simpa using hc17) (by simpa using hc21)⟩)
      | exact at_ret2 rfl rfl rfl (fun w hw => ⟨_, I2, [], rfl, hI1.trans hI2, hw, hres_ok (by simpa using hc17) (by simpa using hc21) hS'⟩)

theorem w_rHolders {I : HMap} {av : Option Addr} {n c : Nat} {xs : List Rt} (hS : Sl I 11 encR av n c xs) (hn : n ≤ 100000) (ed sign day time : Int) : RetM Try.prog 20 [.slice av n c, .int .i64 ed, .int .i64 sign, .int .i64 day, .int .i64 time] I [] (SlE 1 encI (resF (hErr (askedF (fCheck xs) day time) sign) (holdR ed sign (standsF xs day time))) (hErr (askedF (fCheck xs) day time) sign)) := by
  intro g H w hw
  refine enter Try.func20 rfl Try.ntmps20 rfl hw ?_
  refine X_seq ?_
  refine X_region ?_
  refine XO_v0 (ev_assign rfl) rfl rfl rfl ?_
  refine XO_v0 (ev_assign rfl) rfl rfl rfl ?_
  refine XO_nil ?_
  refine at_then ?_
  refine X_seq ?_
  refine X_region ?_
  refine XO_v0 (ev_move rfl) rfl rfl rfl ?_
  refine XO_v0 (ev_move rfl) rfl rfl rfl ?_
  refine XO_v0 (ev_move rfl) rfl rfl rfl ?_
  refine XO_callM (cap := []) (vs := [_, _, _]) rfl rfl fun_13 .nil (w_rstanding hS hn _ _) rfl rfl ?_
  rintro v I1 L' hI1 ⟨rfl, av', c', rfl, hS'⟩
  have hz : (resF (askedF (fCheck xs) day time) (standsF xs day time)).length ≤ 100000 := Nat.le_trans resF_len (Nat.le_trans standsF_len (by rw [hS.len]; exact hn))
  refine XO_v0 (ev_move rfl) rfl rfl rfl ?_
  refine XO_v0 (ev_extract rfl rfl) rfl rfl rfl ?_
  refine XO_v0 (ev_extract rfl rfl) rfl rfl rfl ?_
  refine XO_v0 (ev_assign rfl) rfl rfl rfl ?_
  refine XO_v0 (ev_assign rfl) rfl rfl rfl ?_
  refine XO_nil ?_
  refine at_then ?_
  refine X_seq ?_
  refine X_seq ?_
  refine X_region ?_
  refine XO_v0 (ev_move rfl) rfl rfl rfl ?_
  refine XO_v0 (ev_cmp rfl rfl rfl) rfl rfl rfl ?_
  refine XO_nil ?_
  refine at_then ?_
  refine X_cond rfl (fun hc22 => ?_) (fun hc22 => ?_)
  · skip
    refine X_seq ?_
    refine X_region ?_
    refine XO_v0 (ev_move rfl) rfl rfl rfl ?_
    refine XO_v0 (ev_assign rfl) rfl rfl rfl ?_
    refine XO_v0 (ev_assign rfl) rfl rfl rfl ?_
    refine XO_nil ?_
    refine at_then ?_
    refine X_ret ?_
    refine at_then_r ?_
    first
    | exact at_ret2 rfl rfl rfl (fun w hw => ⟨_, I1, [], rfl, hI1, hw, hres_chk (by simpa using hc22)⟩)
    | exact at_ret2 rfl rfl rfl (fun w hw => ⟨_, I1, [], rfl, hI1, hw, hres_arg (by simpa using hc22) (by simpa using hc26)⟩)
    | exact at_ret2 rfl rfl rfl (fun w hw => ⟨_, I2, [], rfl, hI1.trans hI2, hw, hres_ref (by simpa using hc22) (by simpa using hc26) hB⟩)
  · skip
    refine X_skip ?_
    refine at_then ?_
    refine X_seq ?_
    refine X_seq ?_
    refine X_region ?_
    refine XO_v0 (ev_move rfl) rfl rfl rfl ?_
    refine XO_callV0 (cap := []) (vs := [_, _, _]) rfl rfl fun_35 (w_rwithin _ _ _ _) rfl rfl ?_
    refine XO_v0 (ev_not rfl) rfl rfl rfl ?_
    refine XO_nil ?_
    refine at_then ?_
    refine X_cond rfl (fun hc26 => ?_) (fun hc26 => ?_)
    · skip
      refine X_seq ?_
      refine X_region ?_
      refine XO_v0 (ev_assign rfl) rfl rfl rfl ?_
      refine XO_v0 (ev_assign rfl) rfl rfl rfl ?_
      refine XO_nil ?_
      refine at_then ?_
      refine X_ret ?_
      refine at_then_r ?_
      first
      | exact at_ret2 rfl rfl rfl (fun w hw => ⟨_, I1, [], rfl, hI1, hw, hres_chk (by simpa using hc22)⟩)
      | exact at_ret2 rfl rfl rfl (fun w hw => ⟨_, I1, [], rfl, hI1, hw, hres_arg (by simpa using hc22) (by simpa using hc26)⟩)
      | exact at_ret2 rfl rfl rfl (fun w hw => ⟨_, I2, [], rfl, hI1.trans hI2, hw, hres_ref (by simpa using hc22) (by simpa using hc26) hB⟩)
    · skip
      refine X_skip ?_
      refine at_then ?_
      refine X_seq ?_
      refine X_region ?_
      refine XO_v0 (ev_move rfl) rfl rfl rfl ?_
      refine XO_v0 (ev_move rfl) rfl rfl rfl ?_
      refine XO_v0 (ev_move rfl) rfl rfl rfl ?_
      refine XO_callM (cap := []) (vs := [_, _, _]) rfl rfl fun_36 .nil (w_rholders hS' hz ed sign) rfl rfl ?_
      rintro v I2 L' hI2 ⟨rfl, bv, c2, rfl, hB⟩
      refine XO_v0 (ev_assign rfl) rfl rfl rfl ?_
      refine XO_v0 (ev_assign rfl) rfl rfl rfl ?_
      refine XO_nil ?_
      refine at_then ?_
      refine X_ret ?_
      first
      | exact at_ret2 rfl rfl rfl (fun w hw => ⟨_, I1, [], rfl, hI1, hw, hres_chk (by simpa using hc22)⟩)
      | exact at_ret2 rfl rfl rfl (fun w hw => ⟨_, I1, [], rfl, hI1, hw, hres_arg (by simpa using hc22) (by simpa using hc26)⟩)
      | exact at_ret2 rfl rfl rfl (fun w hw => ⟨_, I2, [], rfl, hI1.trans hI2, hw, hres_ref (by simpa using hc22) (by simpa using hc26) hB⟩)
end Go.Proofs.Ytmflfccincbnaaa
