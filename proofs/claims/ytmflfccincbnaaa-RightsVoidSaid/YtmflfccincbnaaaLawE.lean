/- The walks of the register of rights, the laws, fifth part: each function comes to its Lean function. -/
import Derived.Test.YtmflfccincbnaaaLawD
import Derived.Test.YtmflfccincbnaaaPlainN
namespace Go.Proofs.Ytmflfccincbnaaa
open Go Go.Kn Go.Proofs
theorem allOne_encR (xs : List Rt) : allOne (xs.flatMap encR) = true := allOne_flat (fun _ => rfl) xs
theorem rCheck_no {xs : List Rt} (hx : ∀ x ∈ xs, okR x) (hc : rCheck xs = 0) {x : Rt} (h : x ∈ xs) : 0 ≤ x.no ∧ x.no ≤ 1048576 := by
  rw [check_eq hx] at hc
  obtain ⟨k, hk⟩ := List.getElem?_of_mem h
  exact fCheck_no hc k x hk
theorem void_law {xs : List Rt} {old v : Rt} (hx : ∀ x ∈ xs, okR x) (hc : rCheck xs = 0) (hc2 : rCheck (xs ++ [v]) = 0) (hold : old ∈ xs) (hv : v.kind = 4) (he : v.ends = w64 (old.no + 1)) (day time : Int) :
    resF (askedF (rCheck (xs ++ [v])) day time) (standF (xs ++ [v]) day time) = (resF (askedF (rCheck xs) day time) (standF xs day time)).filter (fun x => (x.no != old.no) || decide (time < v.known)) := by
  rw [hc, hc2]
  unfold resF
  split
  · rfl
  · have hb := rCheck_no hx hc hold
    unfold standF
    rw [List.filter_append, List.filter_filter]
    have e0 : [v].filter (stP (xs ++ [v]) day time) = [] := by
      simp [stP, hv]
    rw [e0, List.append_nil]
    apply List.filter_congr
    intro x hxm
    have e1 : goneF (xs ++ [v]) time x.no = (goneF xs time x.no || (decide (v.known ≤ time) && (old.no == x.no))) := by
      unfold goneF
      have : w64 (v.ends - 1) = old.no := by
        rw [he, w64_succ hb]
        rw [show old.no + 1 - 1 = old.no by omega]
        exact w64_eq ⟨by omega, by omega⟩
      rw [List.any_append]
      congr 1
      simp only [List.any_cons, List.any_nil, Bool.or_false, this, hv]
      show (true && _ && _) = _
      rw [Bool.true_and]
    unfold stP
    rw [e1]
    have e2 : (old.no == x.no) = !(x.no != old.no) := by
      by_cases h : old.no = x.no
      · rw [h]; simp
      · rw [beq_false_of_ne h]; simp [bne, beq_false_of_ne (Ne.symm h)]
    have e3 : decide (v.known ≤ time) = !decide (time < v.known) := by
      rw [Bool.eq_iff_iff]; simp
    rw [e2, e3]
    cases x.kind != 4 <;> cases decide (x.known ≤ time) <;> cases within day x.lo x.hi <;> cases goneF xs time x.no <;> cases x.no != old.no <;> cases decide (time < v.known) <;> rfl
theorem which_in {wh : Int} {n : Nat} (h : 0 ≤ wh ∧ wh ≤ 255) (hn : n ≠ 0) : 0 ≤ (IntKind.i64.wrap wh).tmod n ∧ (IntKind.i64.wrap wh).tmod n < n := by
  rw [show IntKind.i64.wrap wh = wh from w64_eq ⟨by omega, by omega⟩]
  have h0 : (0 : Int) < (n : Int) := by omega
  exact ⟨Int.tmod_nonneg _ h.1, Int.tmod_lt_of_pos _ h0⟩

theorem w_voidLaw {I : HMap} {av : Option Addr} {n c : Nat} {xs : List Rt} (hS : Sl I 11 encR av n c xs) (hx : ∀ x ∈ xs, okR x) {wh : Int} (hwh : 0 ≤ wh ∧ wh ≤ 255) (no known day time : Int) : RetV Try.prog 8 [.slice av n c, .int .u8 wh, .int .i64 no, .int .i64 known, .int .i64 day, .int .i64 time] I (.bool true) := by
  intro g H w hw
  refine enter Try.func8 rfl Try.ntmps8 rfl hw ?_
  have hIc := HLe.refl I
  refine X_seq ?_
  refine X_region ?_
  refine XO_v0 (ev_assign rfl) rfl rfl rfl ?_
  refine XO_nil ?_
  refine at_then ?_
  refine X_seq ?_
  refine X_seq ?_
  refine X_region ?_
  refine XO_callV0 (cap := []) (vs := []) rfl rfl fun_10 (w_sane _) rfl rfl ?_
  refine XO_v0 (ev_not rfl) rfl rfl rfl ?_
  refine XO_nil ?_
  refine at_then ?_
  refine X_cond rfl (fun hc23 => ?_) (fun hc23 => ?_)
  · skip
    exact absurd hc23 (by decide)
  · skip
    refine X_skip ?_
    refine at_then ?_
    refine X_seq ?_
    refine X_seq ?_
    refine X_region ?_
    refine XO_v0 (ev_move rfl) rfl rfl rfl ?_
    refine XO_v0 (ev_lenS rfl slt_22) rfl rfl rfl ?_
    refine XO_v0 (ev_cmp rfl rfl rfl) rfl rfl rfl ?_
    refine XO_v0 (ev_move rfl) rfl rfl rfl ?_
    refine XO_pushF 3 rfl rfl rfl ?_
    refine XO_v1 (ev_move rfl) (.some rfl rfl rfl rfl gbf) rfl rfl rfl ?_
    refine XO_v1 (ev_lenS rfl slt_22) (.some rfl rfl rfl rfl gbf) rfl rfl rfl ?_
    refine XO_v1 (ev_cmp rfl rfl rfl) (.some rfl rfl rfl rfl gbf) rfl rfl rfl ?_
    refine XO_or0 rfl rfl rfl rfl rfl ?_
    refine XO_v0 (ev_move rfl) rfl rfl rfl ?_
    refine XO_pushF 8 rfl rfl rfl ?_
    refine XO_v1 (ev_move rfl) (.some rfl rfl rfl rfl gbf) rfl rfl rfl ?_
    refine XO_callV1 (cap := []) (vs := [_]) rfl rfl fun_14 (fun hg => w_check hS (by simp [conj] at hg; omega)) (.some rfl rfl rfl rfl gbf) rfl rfl ?_
    refine XO_v1 (ev_cmp rfl rfl rfl) (.some rfl rfl rfl rfl gbf) rfl rfl rfl ?_
    refine XO_or0 rfl rfl rfl rfl rfl ?_
    refine XO_nil ?_
    refine at_then ?_
    refine X_cond rfl (fun hc36 => ?_) (fun hc36 => ?_)
    · skip
      refine X_seq ?_
      refine X_region ?_
      refine XO_v0 (ev_assign rfl) rfl rfl rfl ?_
      refine XO_nil ?_
      refine at_then ?_
      refine X_ret ?_
      refine at_then_r ?_
      first
      | exact at_ret1 rfl rfl (fun w hw => ⟨rfl, (hw.mono hIc).drop⟩)
      | exact at_ret1 rfl rfl (fun w hw => ⟨by rw [hzs, hys, void_law hx hck hck2 hom rfl rfl, same_self], (hw.mono hIc).drop⟩)
    · skip
      simp only [Bool.or_eq_false_iff] at hc36
      have hn0 : n ≠ 0 := by intro h; subst h; simp at hc36
      have hn1 : n ≤ 120 := by have := of_decide_eq_false hc36.1.2; omega
      have hn : n ≤ 100000 := by omega
      have hck : rCheck xs = 0 := by simpa using hc36.2
      refine X_skip ?_
      refine at_then ?_
      refine X_seq ?_
      have hix := which_in hwh hn0
      obtain ⟨old, hold⟩ := hS.at (k := ((IntKind.i64.wrap wh).tmod n).toNat) (by omega)
      have hom : old ∈ xs := List.mem_of_getElem? hold
      refine X_region ?_
      refine XO_v0 (ev_move rfl) rfl rfl rfl ?_
      refine XO_v0 (ev_move rfl) rfl rfl rfl ?_
      refine XO_v0 (ev_convI rfl cvt_5_3) rfl rfl rfl ?_
      refine XO_v0 (ev_move rfl) rfl rfl rfl ?_
      refine XO_v0 (ev_lenS rfl slt_22) rfl rfl rfl ?_
      refine XO_v0 (ev_rem rfl rfl (fun hg => by omega)) rfl rfl rfl ?_
      refine XO_v0 (ev_indexSl rfl rfl slt_22 (by assumption) (fun hg => by first | omega | exact hix)) rfl rfl rfl ?_
      refine XO_v0 (ev_loadA rfl agt_45 (fun _ => by first | exact Sl.getA hS hold | exact Sl.getA hY hx1 | exact Cells.g0 | exact Cells.g1 | exact Cells.g2 | exact Cells.g3 | exact Cells.g4 | exact Cells.g5 | (repeat (first | exact Cells.here | apply Cells.there | apply Cells.app))) rfl) rfl rfl rfl ?_
      refine XO_alloc zt_45 rfl rfl (fun b_13 => ?_)
      refine XO_storeA rfl rfl szt_45 rfl rfl rfl rfl (by first | exact Upd.u0 | exact Upd.u1 | exact Upd.u2 | exact Upd.u3 | exact Upd.u4 | exact Upd.u5 | (repeat (first | exact Upd.here | apply Upd.there | apply upd_app))) ?_
      refine XO_nil ?_
      refine at_then ?_
      refine X_cutT [(0, _), (3, _), (4, _), (5, _), (13, _)] (.cons rfl (.cons rfl (.cons rfl (.cons rfl (.cons rfl .nil))))) (fun T L0 E I' loc' => ∃ (v : Value) (L : Go.Kn.Loc), E = (14, v) :: T ∧ I = I' ∧ loc' = L ++ L0 ∧ OwnS 45 11 v (n + 1) ((xs ++ [(⟨no, 4, 0, 0, 0, w64 (old.no + 1), ⟨#[]⟩, ⟨#[]⟩, 0, 0, known⟩ : Rt)]).flatMap encR) L) ?_ ?_
      · skip
        refine X_drawC mixed ?_
        refine XD_take 1 rfl (ev_move rfl) (.none rfl) rfl rfl rfl (by kernel_rfl) (by kernel_rfl) (by kernel_rfl) noP_ok (HLe.refl _) (by repeat (first | exact .refl | refine .drop ?_ | refine subL_add ?_)) ?_
        refine XD_take 3 rfl (ev_move rfl) (.none rfl) rfl rfl rfl (by kernel_rfl) (by kernel_rfl) (by kernel_rfl) noP_ok (HLe.refl _) (by repeat (first | exact .refl | refine .drop ?_ | refine subL_add ?_)) ?_
        refine XD_take 4 rfl (ev_fieldAddr rfl fld_45_0) (.none rfl) rfl rfl rfl (by kernel_rfl) (by kernel_rfl) (by kernel_rfl) noP_ok (HLe.refl _) (by repeat (first | exact .refl | refine .drop ?_ | refine subL_add ?_)) ?_
        refine XD_take 5 rfl (ev_load rfl sct_3 (fun hg => by first | exact Cell.h0 rfl | exact Cell.h1 rfl | exact Cell.h2 rfl | exact Cell.h3 rfl | exact Cell.h4 rfl | exact Cell.h5 rfl | (repeat (first | exact Cell.here rfl | apply Cell.there | apply Cell.app)))) (.none rfl) rfl rfl rfl (by kernel_rfl) (by kernel_rfl) (by kernel_rfl) noP_ok (HLe.refl _) (by repeat (first | exact .refl | refine .drop ?_ | refine subL_add ?_)) ?_
        refine XD_take 6 rfl (ev_ar rfl rfl rfl) (.none rfl) rfl rfl rfl (by kernel_rfl) (by kernel_rfl) (by kernel_rfl) noP_ok (HLe.refl _) (by repeat (first | exact .refl | refine .drop ?_ | refine subL_add ?_)) ?_
        refine XD_take 7 rfl (ev_move rfl) (.none rfl) rfl rfl rfl (by kernel_rfl) (by kernel_rfl) (by kernel_rfl) noP_ok (HLe.refl _) (by repeat (first | exact .refl | refine .drop ?_ | refine subL_add ?_)) ?_
        refine XD_take 8 rfl (ev_buildL (ps := [(0, _), (1, _), (5, _), (10, _)]) [_, _, _, _, _, _, _, _, _, _, _] plt_45 rfl rfl) (.none rfl) rfl rfl rfl (by kernel_rfl) (by kernel_rfl) (by kernel_rfl) noP_ok (HLe.refl _) (by repeat (first | exact .refl | refine .drop ?_ | refine subL_add ?_)) ?_
        refine XD_two 0 9 rfl rfl (by kernel_rfl) ?_ ?_
        · skip
          refine XO_buildSlice (ps := []) (m := []) elt_22 rfl (.nil) rfl (by simp [encR_len, encI_len, encP_len]) (by decide) (by decide) rfl rfl (fun b_45 => ?_)
          refine XO_nil ?_
          refine at_D (HLe.refl _) (by repeat (first | exact .refl | refine .drop ?_ | refine subL_add ?_)) ?_
          refine XD_two 2 9 rfl rfl (by kernel_rfl) ?_ ?_
          · skip
            refine XO_append (v := _) (ys := xs.flatMap encR) (L := [(b_45, _)]) rfl rfl elt_22 (⟨rfl, .inr ⟨b_45, 0, #[], rfl, rfl, Nat.le_refl _, by decide, rfl, rfl⟩⟩ : OwnS 45 11 _ 0 [] _) (by first | exact .cons .here .nil | exact .cons (.there .here) .nil) (hS.src encR_len) (allOne_encR xs) (by omega) rfl rfl ?_
            intro v1 L1 hO1 _; rw [List.nil_append] at hO1
            refine XO_nil ?_
            refine at_D (HLe.refl _) (by repeat (first | exact .refl | refine .drop ?_ | refine subL_add ?_)) ?_
            refine XD_one 9 rfl (by kernel_rfl) ?_
            refine XO_buildSlice (ps := [(0, _)]) (m := [encR (⟨no, 4, 0, 0, 0, w64 (old.no + 1), ⟨#[]⟩, ⟨#[]⟩, 0, 0, known⟩ : Rt)]) elt_22 rfl (.cons rfl (.nil)) rfl (by simp [encR_len, encI_len, encP_len]) (by decide) (by decide) rfl rfl (fun b_54 => ?_)
            refine XO_nil ?_
            refine at_D (HLe.refl _) (by repeat (first | exact .refl | refine .drop ?_ | refine subL_add ?_)) ?_
            refine XD_one 10 rfl (by kernel_rfl) ?_
            refine XO_append (v := v1) (ys := [encR (⟨no, 4, 0, 0, 0, w64 (old.no + 1), ⟨#[]⟩, ⟨#[]⟩, 0, 0, known⟩ : Rt)].flatten) (L := L1) rfl rfl elt_22 hO1 (by first | exact split_app | exact split_mid (A := [_])) ⟨rfl, fun _ => rfl, (by first | exact Cells.here | exact .app Cells.here)⟩ rfl (by omega) rfl rfl ?_
            intro v2 L2 hO2 _; have hO3 : OwnS 45 11 v2 (n + 1) ((xs ++ [(⟨no, 4, 0, 0, 0, w64 (old.no + 1), ⟨#[]⟩, ⟨#[]⟩, 0, 0, known⟩ : Rt)]).flatMap encR) L2 := by rw [List.flatMap_append]; rw [show 0 + n + 1 = n + 1 by omega] at hO2; exact hO2
            refine XO_nil ?_
            refine at_D (HLe.refl _) (by repeat (first | exact .refl | refine .drop ?_ | refine subL_add ?_)) ?_
            refine XD_one 11 rfl (by kernel_rfl) ?_
            refine XO_v0 (ev_assign rfl) rfl rfl rfl ?_
            refine XO_nil ?_
            refine at_D (HLe.refl _) (by repeat (first | exact .refl | refine .drop ?_ | refine subL_add ?_)) ?_
            refine XD_done (by kernel_rfl) ?_
            refine at_noP ?_
            exact at_met2 _ _ ⟨v2, L2, rfl, rfl, rfl, hO3⟩ (.cons rfl (.cons rfl (.cons rfl (.cons rfl (.cons rfl (.cons rfl .nil)))))) (by repeat (first | exact .refl | refine subL_app ?_ | refine .drop ?_ | refine subL_add ?_))
          · skip
            refine XO_buildSlice (ps := [(0, _)]) (m := [encR (⟨no, 4, 0, 0, 0, w64 (old.no + 1), ⟨#[]⟩, ⟨#[]⟩, 0, 0, known⟩ : Rt)]) elt_22 rfl (.cons rfl (.nil)) rfl (by simp [encR_len, encI_len, encP_len]) (by decide) (by decide) rfl rfl (fun b_54 => ?_)
            refine XO_nil ?_
            refine at_D (HLe.refl _) (by repeat (first | exact .refl | refine .drop ?_ | refine subL_add ?_)) ?_
            refine XD_one 2 rfl (by kernel_rfl) ?_
            refine XO_append (v := _) (ys := xs.flatMap encR) (L := [(b_45, _)]) rfl rfl elt_22 (⟨rfl, .inr ⟨b_45, 0, #[], rfl, rfl, Nat.le_refl _, by decide, rfl, rfl⟩⟩ : OwnS 45 11 _ 0 [] _) (by first | exact .cons .here .nil | exact .cons (.there .here) .nil) (hS.src encR_len) (allOne_encR xs) (by omega) rfl rfl ?_
            intro v1 L1 hO1 _; rw [List.nil_append] at hO1
            refine XO_nil ?_
            refine at_D (HLe.refl _) (by repeat (first | exact .refl | refine .drop ?_ | refine subL_add ?_)) ?_
            refine XD_one 10 rfl (by kernel_rfl) ?_
            refine XO_append (v := v1) (ys := [encR (⟨no, 4, 0, 0, 0, w64 (old.no + 1), ⟨#[]⟩, ⟨#[]⟩, 0, 0, known⟩ : Rt)].flatten) (L := L1) rfl rfl elt_22 hO1 (by first | exact split_app | exact split_mid (A := [_])) ⟨rfl, fun _ => rfl, (by first | exact Cells.here | exact .app Cells.here)⟩ rfl (by omega) rfl rfl ?_
            intro v2 L2 hO2 _; have hO3 : OwnS 45 11 v2 (n + 1) ((xs ++ [(⟨no, 4, 0, 0, 0, w64 (old.no + 1), ⟨#[]⟩, ⟨#[]⟩, 0, 0, known⟩ : Rt)]).flatMap encR) L2 := by rw [List.flatMap_append]; rw [show 0 + n + 1 = n + 1 by omega] at hO2; exact hO2
            refine XO_nil ?_
            refine at_D (HLe.refl _) (by repeat (first | exact .refl | refine .drop ?_ | refine subL_add ?_)) ?_
            refine XD_one 11 rfl (by kernel_rfl) ?_
            refine XO_v0 (ev_assign rfl) rfl rfl rfl ?_
            refine XO_nil ?_
            refine at_D (HLe.refl _) (by repeat (first | exact .refl | refine .drop ?_ | refine subL_add ?_)) ?_
            refine XD_done (by kernel_rfl) ?_
            refine at_noP ?_
            exact at_met2 _ _ ⟨v2, L2, rfl, rfl, rfl, hO3⟩ (.cons rfl (.cons rfl (.cons rfl (.cons rfl (.cons rfl (.cons rfl .nil)))))) (by repeat (first | exact .refl | refine subL_app ?_ | refine .drop ?_ | refine subL_add ?_))
        · skip
          refine XO_buildSlice (ps := [(0, _)]) (m := [encR (⟨no, 4, 0, 0, 0, w64 (old.no + 1), ⟨#[]⟩, ⟨#[]⟩, 0, 0, known⟩ : Rt)]) elt_22 rfl (.cons rfl (.nil)) rfl (by simp [encR_len, encI_len, encP_len]) (by decide) (by decide) rfl rfl (fun b_54 => ?_)
          refine XO_nil ?_
          refine at_D (HLe.refl _) (by repeat (first | exact .refl | refine .drop ?_ | refine subL_add ?_)) ?_
          refine XD_one 0 rfl (by kernel_rfl) ?_
          refine XO_buildSlice (ps := []) (m := []) elt_22 rfl (.nil) rfl (by simp [encR_len, encI_len, encP_len]) (by decide) (by decide) rfl rfl (fun b_45 => ?_)
          refine XO_nil ?_
          refine at_D (HLe.refl _) (by repeat (first | exact .refl | refine .drop ?_ | refine subL_add ?_)) ?_
          refine XD_one 2 rfl (by kernel_rfl) ?_
          refine XO_append (v := _) (ys := xs.flatMap encR) (L := [(b_45, _)]) rfl rfl elt_22 (⟨rfl, .inr ⟨b_45, 0, #[], rfl, rfl, Nat.le_refl _, by decide, rfl, rfl⟩⟩ : OwnS 45 11 _ 0 [] _) (by first | exact .cons .here .nil | exact .cons (.there .here) .nil) (hS.src encR_len) (allOne_encR xs) (by omega) rfl rfl ?_
          intro v1 L1 hO1 _; rw [List.nil_append] at hO1
          refine XO_nil ?_
          refine at_D (HLe.refl _) (by repeat (first | exact .refl | refine .drop ?_ | refine subL_add ?_)) ?_
          refine XD_one 10 rfl (by kernel_rfl) ?_
          refine XO_append (v := v1) (ys := [encR (⟨no, 4, 0, 0, 0, w64 (old.no + 1), ⟨#[]⟩, ⟨#[]⟩, 0, 0, known⟩ : Rt)].flatten) (L := L1) rfl rfl elt_22 hO1 (by first | exact split_app | exact split_mid (A := [_])) ⟨rfl, fun _ => rfl, (by first | exact Cells.here | exact .app Cells.here)⟩ rfl (by omega) rfl rfl ?_
          intro v2 L2 hO2 _; have hO3 : OwnS 45 11 v2 (n + 1) ((xs ++ [(⟨no, 4, 0, 0, 0, w64 (old.no + 1), ⟨#[]⟩, ⟨#[]⟩, 0, 0, known⟩ : Rt)]).flatMap encR) L2 := by rw [List.flatMap_append]; rw [show 0 + n + 1 = n + 1 by omega] at hO2; exact hO2
          refine XO_nil ?_
          refine at_D (HLe.refl _) (by repeat (first | exact .refl | refine .drop ?_ | refine subL_add ?_)) ?_
          refine XD_one 11 rfl (by kernel_rfl) ?_
          refine XO_v0 (ev_assign rfl) rfl rfl rfl ?_
          refine XO_nil ?_
          refine at_D (HLe.refl _) (by repeat (first | exact .refl | refine .drop ?_ | refine subL_add ?_)) ?_
          refine XD_done (by kernel_rfl) ?_
          refine at_noP ?_
          exact at_met2 _ _ ⟨v2, L2, rfl, rfl, rfl, hO3⟩ (.cons rfl (.cons rfl (.cons rfl (.cons rfl (.cons rfl (.cons rfl .nil)))))) (by repeat (first | exact .refl | refine subL_app ?_ | refine .drop ?_ | refine subL_add ?_))
      · rintro E I' loc' ⟨v2, L2, rfl, rfl, rfl, hO3⟩
        refine X_seq ?_
        refine X_seq ?_
        refine X_freezeO hO3 encR_len (by decide) split_app (fun I2 hI2 af2 cf2 ef2 hM => ?_)
        subst ef2
        have hS := hS.mono hI2
        have hIc := hIc.trans hI2
        refine X_region ?_
        refine XO_v0 (ev_move rfl) rfl rfl rfl ?_
        refine XO_callV0 (cap := []) (vs := [_]) rfl rfl fun_14 (w_check hM (by omega)) rfl rfl ?_
        refine XO_v0 (ev_cmp rfl rfl rfl) rfl rfl rfl ?_
        refine XO_nil ?_
        refine at_then ?_
        refine X_cond rfl (fun hc58 => ?_) (fun hc58 => ?_)
        · skip
          refine X_seq ?_
          refine X_region ?_
          refine XO_v0 (ev_assign rfl) rfl rfl rfl ?_
          refine XO_nil ?_
          refine at_then ?_
          refine X_ret ?_
          refine at_then_r ?_
          first
          | exact at_ret1 rfl rfl (fun w hw => ⟨rfl, (hw.mono hIc).drop⟩)
          | exact at_ret1 rfl rfl (fun w hw => ⟨by rw [hzs, hys, void_law hx hck hck2 hom rfl rfl, same_self], (hw.mono hIc).drop⟩)
        · skip
          have hck2 : rCheck (xs ++ [(⟨no, 4, 0, 0, 0, w64 (old.no + 1), ⟨#[]⟩, ⟨#[]⟩, 0, 0, known⟩ : Rt)]) = 0 := by simpa using hc58
          refine X_skip ?_
          refine at_then ?_
          refine X_seq ?_
          refine X_region ?_
          refine XO_v0 (ev_move rfl) rfl rfl rfl ?_
          refine XO_v0 (ev_move rfl) rfl rfl rfl ?_
          refine XO_v0 (ev_move rfl) rfl rfl rfl ?_
          refine XO_callM (cap := []) (vs := [_, _, _]) rfl rfl fun_12 .nil ((w_standing_all hS hn _ _).absS) rfl rfl ?_
          rintro vv3 I3 L3 hI3 ⟨ys, e9, hys, he9, rfl, a3, c3, rfl, hY⟩
          have hS := hS.mono hI3
          have hM := hM.mono hI3
          have hIc := hIc.trans hI3
          refine XO_v0 (ev_move rfl) rfl rfl rfl ?_
          refine XO_v0 (ev_extract rfl rfl) rfl rfl rfl ?_
          refine XO_v0 (ev_extract rfl rfl) rfl rfl rfl ?_
          refine XO_v0 (ev_assign rfl) rfl rfl rfl ?_
          refine XO_v0 (ev_assign rfl) rfl rfl rfl ?_
          refine XO_nil ?_
          refine at_then ?_
          refine X_seq ?_
          refine X_region ?_
          refine XO_v0 (ev_move rfl) rfl rfl rfl ?_
          refine XO_v0 (ev_move rfl) rfl rfl rfl ?_
          refine XO_v0 (ev_move rfl) rfl rfl rfl ?_
          refine XO_callM (cap := []) (vs := [_, _, _]) rfl rfl fun_12 .nil ((w_standing_all hM (by omega) _ _).absS) rfl rfl ?_
          rintro vv4 I4 L4 hI4 ⟨zs, e10, hzs, he10, rfl, a4, c4, rfl, hZ⟩
          have hS := hS.mono hI4
          have hM := hM.mono hI4
          have hY := hY.mono hI4
          have hIc := hIc.trans hI4
          refine XO_v0 (ev_move rfl) rfl rfl rfl ?_
          refine XO_v0 (ev_extract rfl rfl) rfl rfl rfl ?_
          refine XO_v0 (ev_extract rfl rfl) rfl rfl rfl ?_
          refine XO_v0 (ev_assign rfl) rfl rfl rfl ?_
          refine XO_v0 (ev_assign rfl) rfl rfl rfl ?_
          refine XO_nil ?_
          refine at_then ?_
          refine X_seq ?_
          refine X_seq ?_
          refine X_region ?_
          refine XO_v0 (ev_move rfl) rfl rfl rfl ?_
          refine XO_v0 (ev_move rfl) rfl rfl rfl ?_
          refine XO_v0 (ev_cmp rfl rfl rfl) rfl rfl rfl ?_
          refine XO_nil ?_
          refine at_then ?_
          refine X_cond rfl (fun hc75 => ?_) (fun hc75 => ?_)
          · skip
            exact absurd hc75 (by rw [he9, he10, hck, hck2]; simp)
          · skip
            refine X_skip ?_
            refine at_then ?_
            refine X_seq ?_
            refine X_region ?_
            refine XO_v0 (ev_assign rfl) rfl rfl rfl ?_
            refine XO_nil ?_
            refine at_then ?_
            refine X_seq ?_
            refine X_seq ?_
            have hyl : ys.length ≤ 100000 := by rw [hys]; exact Nat.le_trans resF_len (Nat.le_trans standF_len (by rw [hS.len]; exact hn))
            refine X_region ?_
            refine XO_v0 (ev_move rfl) rfl rfl rfl ?_
            refine XO_v0 (ev_lenS rfl slt_22) rfl rfl rfl ?_
            refine XO_v0 (ev_move rfl) rfl rfl rfl ?_
            refine XO_nil ?_
            refine at_then ?_
            refine X_block ?_
            refine X_loopT [(3, _), (5, _), (13, _), (17, _), (76, _), (77, _)] (.cons rfl (.cons rfl (.cons rfl (.cons rfl (.cons rfl (.cons rfl .nil)))))) (fun T L0 mz E I' loc' => ∃ (k : Nat) (v : Value) (q : Nat) (L : Go.Kn.Loc), mz = ys.length - k ∧ E = (19, v) :: (78, .int .i64 k) :: T ∧ I4 = I' ∧ loc' = L ++ L0 ∧ k ≤ ys.length ∧ OwnS 45 11 v q (((ys.take k).filter (fun x => (x.no != old.no) || decide (time < known))).flatMap encR) L ∧ q ≤ k) _ _ _ _ ⟨0, _, 0, [], rfl, rfl, rfl, rfl, Nat.zero_le _, OwnS.nil, Nat.le_refl _⟩ (.cons rfl (.cons rfl (.cons rfl (.cons rfl (.cons rfl (.cons rfl (.cons rfl (.cons rfl .nil)))))))) (HLe.refl _) rfl ?_
            rintro mz E I' loc' ⟨k, v, q, L, rfl, rfl, rfl, rfl, hk, hO, hq⟩
            refine X_seq ?_
            refine X_region ?_
            refine XO_v0 (ev_cmp rfl rfl rfl) rfl rfl rfl ?_
            refine XO_nil ?_
            refine at_then ?_
            refine X_seq ?_
            refine X_cond rfl (fun hc79 => ?_) (fun hc79 => ?_)
            · skip
              have hlk : k < ys.length := by simpa using hc79
              obtain ⟨x1, hx1⟩ := hY.at hlk
              refine X_skip ?_
              refine at_then ?_
              refine X_seq ?_
              refine X_block ?_
              refine X_seq ?_
              refine X_region ?_
              refine XO_v0 (ev_indexSl rfl rfl slt_22 (by assumption) (fun hg => by first | omega | exact hix)) rfl rfl rfl ?_
              refine XO_v0 (ev_loadA rfl agt_45 (fun _ => by first | exact Sl.getA hS hold | exact Sl.getA hY hx1 | exact Cells.g0 | exact Cells.g1 | exact Cells.g2 | exact Cells.g3 | exact Cells.g4 | exact Cells.g5 | (repeat (first | exact Cells.here | apply Cells.there | apply Cells.app))) rfl) rfl rfl rfl ?_
              refine XO_alloc zt_45 rfl rfl (fun b_21 => ?_)
              refine XO_storeA rfl rfl szt_45 rfl rfl rfl rfl (by first | exact Upd.u0 | exact Upd.u1 | exact Upd.u2 | exact Upd.u3 | exact Upd.u4 | exact Upd.u5 | (repeat (first | exact Upd.here | apply Upd.there | apply upd_app))) ?_
              refine XO_nil ?_
              refine at_then ?_
              refine X_seq ?_
              refine X_region ?_
              refine XO_v0 (ev_fieldAddr rfl fld_45_0) rfl rfl rfl ?_
              refine XO_v0 (ev_load rfl sct_3 (fun hg => by first | exact Cell.h0 rfl | exact Cell.h1 rfl | exact Cell.h2 rfl | exact Cell.h3 rfl | exact Cell.h4 rfl | exact Cell.h5 rfl | (repeat (first | exact Cell.here rfl | apply Cell.there | apply Cell.app)))) rfl rfl rfl ?_
              refine XO_v0 (ev_fieldAddr rfl fld_45_0) rfl rfl rfl ?_
              refine XO_v0 (ev_load rfl sct_3 (fun hg => by first | exact Cell.h0 rfl | exact Cell.h1 rfl | exact Cell.h2 rfl | exact Cell.h3 rfl | exact Cell.h4 rfl | exact Cell.h5 rfl | (repeat (first | exact Cell.here rfl | apply Cell.there | apply Cell.app)))) rfl rfl rfl ?_
              refine XO_v0 (ev_cmp rfl rfl rfl) rfl rfl rfl ?_
              refine XO_v0 (ev_move rfl) rfl rfl rfl ?_
              refine XO_pushF 5 rfl rfl rfl ?_
              refine XO_v1 (ev_move rfl) (.some rfl rfl rfl rfl gbf) rfl rfl rfl ?_
              refine XO_v1 (ev_move rfl) (.some rfl rfl rfl rfl gbf) rfl rfl rfl ?_
              refine XO_v1 (ev_cmp rfl rfl rfl) (.some rfl rfl rfl rfl gbf) rfl rfl rfl ?_
              refine XO_or0 rfl rfl rfl rfl rfl ?_
              refine XO_nil ?_
              refine at_then ?_
              refine X_cond rfl (fun hc91 => ?_) (fun hc91 => ?_)
              · skip
                refine X_region ?_
                refine XO_v0 (ev_move rfl) rfl rfl rfl ?_
                refine XO_v0 (ev_loadA rfl agt_45 (fun _ => by first | exact Sl.getA hS hold | exact Sl.getA hY hx1 | exact Cells.g0 | exact Cells.g1 | exact Cells.g2 | exact Cells.g3 | exact Cells.g4 | exact Cells.g5 | (repeat (first | exact Cells.here | apply Cells.there | apply Cells.app))) rfl) rfl rfl rfl ?_
                refine XO_buildSlice (ps := [(0, _)]) (m := [_]) elt_22 rfl (.cons rfl (.nil)) rfl (by simp [encR_len, encI_len, encP_len]) (by decide) (by decide) rfl rfl (fun b_94 => ?_)
                refine XO_append (v := v) (ys := _) (L := L) rfl rfl elt_22 hO (split_mid (A := [_, _])) ⟨rfl, fun _ => rfl, Cells.here⟩ rfl (by omega) rfl rfl ?_
                intro v' L' hO' _
                refine XO_v0 (ev_assign rfl) rfl rfl rfl ?_
                refine XO_nil ?_
                refine at_block_n ?_
                refine at_then ?_
                refine X_region ?_
                refine XO_v0 (ev_arB rfl rfl rfl (fun _ => by omega)) rfl rfl rfl ?_
                refine XO_v0 (ev_move rfl) rfl rfl rfl ?_
                refine XO_nil ?_
                first
                | exact at_met2 _ _ ⟨ys.length - (k + 1), by omega, k + 1, v', q + 1, L', rfl, rfl, rfl, rfl, by omega, fil_yes hx1 hc91 hO', by omega⟩ (.cons rfl (.cons rfl (.cons rfl (.cons rfl (.cons rfl (.cons rfl (.cons rfl (.cons rfl .nil)))))))) (by repeat (first | exact .refl | refine subL_app ?_ | refine .drop ?_ | refine subL_add ?_))
                | exact at_met2 _ _ ⟨ys.length - (k + 1), by omega, k + 1, v, q, L, rfl, rfl, rfl, rfl, by omega, fil_no hx1 hc91 hO, by omega⟩ (.cons rfl (.cons rfl (.cons rfl (.cons rfl (.cons rfl (.cons rfl (.cons rfl (.cons rfl .nil)))))))) (by repeat (first | exact .refl | refine subL_app ?_ | refine .drop ?_ | refine subL_add ?_))
              · skip
                refine X_skip ?_
                refine at_block_n ?_
                refine at_then ?_
                refine X_region ?_
                refine XO_v0 (ev_arB rfl rfl rfl (fun _ => by omega)) rfl rfl rfl ?_
                refine XO_v0 (ev_move rfl) rfl rfl rfl ?_
                refine XO_nil ?_
                first
                | exact at_met2 _ _ ⟨ys.length - (k + 1), by omega, k + 1, v', q + 1, L', rfl, rfl, rfl, rfl, by omega, fil_yes hx1 hc91 hO', by omega⟩ (.cons rfl (.cons rfl (.cons rfl (.cons rfl (.cons rfl (.cons rfl (.cons rfl (.cons rfl .nil)))))))) (by repeat (first | exact .refl | refine subL_app ?_ | refine .drop ?_ | refine subL_add ?_))
                | exact at_met2 _ _ ⟨ys.length - (k + 1), by omega, k + 1, v, q, L, rfl, rfl, rfl, rfl, by omega, fil_no hx1 hc91 hO, by omega⟩ (.cons rfl (.cons rfl (.cons rfl (.cons rfl (.cons rfl (.cons rfl (.cons rfl (.cons rfl .nil)))))))) (by repeat (first | exact .refl | refine subL_app ?_ | refine .drop ?_ | refine subL_add ?_))
            · skip
              have hge : ys.length ≤ k := by simpa using hc79
              rw [take_all rfl hge] at hO
              refine X_exit ?_
              refine at_then_e ?_
              refine at_then_e ?_
              refine at_block_hit ?_
              refine at_then ?_
              refine X_seq ?_
              refine X_freezeO hO encR_len (by decide) split_app (fun I6 hI6 af6 cf6 ef6 hW => ?_)
              subst ef6
              have hS := hS.mono hI6
              have hM := hM.mono hI6
              have hY := hY.mono hI6
              have hZ := hZ.mono hI6
              have hIc := hIc.trans hI6
              refine X_region ?_
              refine XO_v0 (ev_move rfl) rfl rfl rfl ?_
              refine XO_v0 (ev_move rfl) rfl rfl rfl ?_
              refine XO_callV0 (cap := []) (vs := [_, _]) rfl rfl fun_16 (w_same hZ hW (by rw [hzs]; exact Nat.le_trans resF_len (Nat.le_trans standF_len (by rw [hM.len]; omega)))) rfl rfl ?_
              refine XO_v0 (ev_assign rfl) rfl rfl rfl ?_
              refine XO_nil ?_
              refine at_then ?_
              refine X_ret ?_
              first
              | exact at_ret1 rfl rfl (fun w hw => ⟨rfl, (hw.mono hIc).drop⟩)
              | exact at_ret1 rfl rfl (fun w hw => ⟨by rw [hzs, hys, void_law hx hck hck2 hom rfl rfl, same_self], (hw.mono hIc).drop⟩)
end Go.Proofs.Ytmflfccincbnaaa
