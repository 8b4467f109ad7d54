/- The walks of the register of rights, the laws, seventh part: each function comes to its Lean function. -/
import Derived.Test.YtmflfccincbnaaaLawF
import Derived.Test.YtmflfccincbnaaaPlainO
namespace Go.Proofs.Ytmflfccincbnaaa
open Go Go.Kn Go.Proofs
theorem own_late {xs : List Rt} {ed time : Int} {x : Rt} (h : earlyP time x = false) : ownQ xs ed time x = false := by unfold ownQ; rw [h, Bool.false_and]

theorem w_knownLaw {I : HMap} {av : Option Addr} {n c : Nat} {xs : List Rt} (hS : Sl I 11 encR av n c xs) (hx : ∀ x ∈ xs, okR x) {bv : Option Addr} {n2 c2 : Nat} {ss : List Int} (hT : Sl I 1 encI bv n2 c2 ss) (ed sg day time : Int) (name town : ByteArray) : RetV Try.prog 6 [.slice av n c, .agg #[.int .i64 ed, .int .i64 sg, .int .i64 day, .int .i64 time, .string name, .string town, .slice bv n2 c2]] I (.bool true) := by
  intro g H w hw
  refine enter Try.func6 rfl Try.ntmps6 rfl hw ?_
  have hIc := HLe.refl I
  refine X_seq ?_
  refine X_region ?_
  refine XO_box rfl rfl rfl (fun b_3 => ?_)
  refine XO_v0 (ev_assign rfl) rfl rfl rfl ?_
  refine XO_nil ?_
  refine at_then ?_
  refine X_seq ?_
  refine X_seq ?_
  refine X_region ?_
  refine XO_callV0 (cap := []) (vs := []) rfl rfl fun_10 (w_sane _) rfl rfl ?_
  refine XO_v0 (ev_not rfl) rfl rfl rfl ?_
  refine XO_nil ?_
  refine at_then ?_
  refine X_cond rfl (fun hc25 => ?_) (fun hc25 => ?_)
  · skip
    exact absurd hc25 (by decide)
  · skip
    refine X_skip ?_
    refine at_then ?_
    refine X_seq ?_
    refine X_seq ?_
    refine X_region ?_
    refine XO_v0 (ev_move rfl) rfl rfl rfl ?_
    refine XO_v0 (ev_lenS rfl slt_22) rfl rfl rfl ?_
    refine XO_v0 (ev_cmp rfl rfl rfl) rfl rfl rfl ?_
    refine XO_v0 (ev_move rfl) rfl rfl rfl ?_
    refine XO_pushF 3 rfl rfl rfl ?_
    refine XO_v1 (ev_fieldAddr rfl fld_33_6) (.some rfl rfl rfl rfl gbf) rfl rfl rfl ?_
    refine XO_v1 (ev_load rfl sct_31 (fun hg => by first | exact Cell.h0 rfl | exact Cell.h1 rfl | exact Cell.h2 rfl | exact Cell.h3 rfl | exact Cell.h4 rfl | exact Cell.h5 rfl | (repeat (first | exact Cell.here rfl | apply Cell.there | apply Cell.app)))) (.some rfl rfl rfl rfl gbf) rfl rfl rfl ?_
    refine XO_v1 (ev_lenS rfl slt_31) (.some rfl rfl rfl rfl gbf) rfl rfl rfl ?_
    refine XO_v1 (ev_cmp rfl rfl rfl) (.some rfl rfl rfl rfl gbf) rfl rfl rfl ?_
    refine XO_or0 rfl rfl rfl rfl rfl ?_
    refine XO_v0 (ev_move rfl) rfl rfl rfl ?_
    refine XO_pushF 9 rfl rfl rfl ?_
    refine XO_v1 (ev_move rfl) (.some rfl rfl rfl rfl gbf) rfl rfl rfl ?_
    refine XO_callV1 (cap := []) (vs := [_]) rfl rfl fun_14 (fun hg => w_check hS (by simp [conj] at hg; omega)) (.some rfl rfl rfl rfl gbf) rfl rfl ?_
    refine XO_v1 (ev_cmp rfl rfl rfl) (.some rfl rfl rfl rfl gbf) rfl rfl rfl ?_
    refine XO_or0 rfl rfl rfl rfl rfl ?_
    refine XO_nil ?_
    refine at_then ?_
    refine X_cond rfl (fun hc39 => ?_) (fun hc39 => ?_)
    · skip
      refine X_seq ?_
      refine X_region ?_
      refine XO_v0 (ev_assign rfl) rfl rfl rfl ?_
      refine XO_nil ?_
      refine at_then ?_
      refine X_ret ?_
      refine at_then_r ?_
      first
      | exact at_ret1 rfl rfl (fun w hw => ⟨rfl, (hw.mono hIc).drop⟩)
      | exact at_ret1 rfl rfl (fun w hw => ⟨by rw [he16, he17, he18, he19, hms, hms2, hys, hzs, hck, hck1, hck2, stand_early, stand_own, parts_ed, parts_ed, may_ed]; simp [same_self], (hw.mono hIc).drop⟩)
    · skip
      simp only [Bool.or_eq_false_iff] at hc39
      have hn1 : n ≤ 120 := by have := of_decide_eq_false hc39.1.1; omega
      have hn : n ≤ 100000 := by omega
      have hn7 : n2 ≤ 64 := by have := of_decide_eq_false hc39.1.2; omega
      have hn2 : n2 ≤ 100000 := by omega
      have hck : rCheck xs = 0 := by simpa using hc39.2
      have hc0 : fCheck xs = 0 := check_eq hx ▸ hck
      refine X_skip ?_
      refine at_then ?_
      refine X_seq ?_
      refine X_region ?_
      refine XO_v0 (ev_assign rfl) rfl rfl rfl ?_
      refine XO_v0 (ev_assign rfl) rfl rfl rfl ?_
      refine XO_nil ?_
      refine at_then ?_
      refine X_seq ?_
      refine X_region ?_
      refine XO_makeMap rfl rfl (fun r_40 => ?_)
      refine XO_v0 (ev_assign rfl) rfl rfl rfl ?_
      refine XO_nil ?_
      refine at_then ?_
      refine X_seq ?_
      refine X_seq ?_
      refine X_region ?_
      refine XO_v0 (ev_move rfl) rfl rfl rfl ?_
      refine XO_v0 (ev_lenS rfl slt_22) rfl rfl rfl ?_
      refine XO_v0 (ev_move rfl) rfl rfl rfl ?_
      refine XO_nil ?_
      refine at_then ?_
      refine X_block ?_
      refine X_loopT [(0, _), (3, _), (7, _), (41, _), (42, _)] (.cons rfl (.cons rfl (.cons rfl (.cons rfl (.cons rfl .nil))))) (fun T L0 mz E I' loc' => ∃ (k : Nat) (v1 v2 : Value) (q1 q2 : Nat) (L1 L2 : Go.Kn.Loc) (m : List (Int × Bool)), mz = n - k ∧ E = (5, v1) :: (6, v2) :: (43, .int .i64 k) :: T ∧ I = I' ∧ loc' = L1 ++ (L2 ++ [(r_40, mapO (.int .i64) .bool m), (b_3, Obj.cells #[.int .i64 ed, .int .i64 sg, .int .i64 day, .int .i64 time, .string name, .string town, .slice bv n2 c2] 33 (0, 0))]) ∧ k ≤ n ∧ OwnS 45 11 v1 q1 (((xs.take k).filter (earlyP time)).flatMap encR) L1 ∧ OwnS 45 11 v2 q2 (((xs.take k).filter (ownQ xs ed time)).flatMap encR) L2 ∧ q1 ≤ k ∧ q2 ≤ k ∧ ∀ z, (mget m z).getD false = ((xs.take k).filter (ownQ xs ed time)).any (fun y => y.no == z)) _ _ _ _ ⟨0, _, _, 0, 0, [], [], [], rfl, rfl, rfl, rfl, Nat.zero_le _, OwnS.nil, OwnS.nil, Nat.le_refl _, Nat.le_refl _, fun z => rfl⟩ (.cons rfl (.cons rfl (.cons rfl (.cons rfl (.cons rfl (.cons rfl (.cons rfl (.cons rfl .nil)))))))) (HLe.refl _) rfl ?_
      rintro mz E I' loc' ⟨k, v1, v2, q1, q2, L1, L2, m, rfl, rfl, rfl, rfl, hk, hO1, hO2, hq1, hq2, hmk⟩
      refine X_seq ?_
      refine X_region ?_
      refine XO_v0 (ev_cmp rfl rfl rfl) rfl rfl rfl ?_
      refine XO_nil ?_
      refine at_then ?_
      refine X_seq ?_
      refine X_cond rfl (fun hc44 => ?_) (fun hc44 => ?_)
      · skip
        have hlk : k < n := by simpa using hc44
        obtain ⟨x1, hx1⟩ := hS.at hlk
        refine X_skip ?_
        refine at_then ?_
        refine X_seq ?_
        refine X_block ?_
        refine X_seq ?_
        refine X_region ?_
        refine XO_v0 (ev_indexSl rfl rfl slt_22 (by assumption) (fun hg => by omega)) rfl rfl rfl ?_
        refine XO_v0 (ev_loadA rfl agt_45 (fun _ => by first | exact Sl.getA hS hx1 | exact Cells.g0 | exact Cells.g1 | exact Cells.g2 | exact Cells.g3 | exact Cells.g4 | exact Cells.g5 | (repeat (first | exact Cells.here | apply Cells.there | apply Cells.app))) rfl) rfl rfl rfl ?_
        refine XO_alloc zt_45 rfl rfl (fun b_9 => ?_)
        refine XO_storeA rfl rfl szt_45 rfl rfl rfl rfl (by first | exact Upd.u0 | exact Upd.u1 | exact Upd.u2 | exact Upd.u3 | exact Upd.u4 | exact Upd.u5 | (repeat (first | exact Upd.here | apply Upd.there | apply upd_app))) ?_
        refine XO_nil ?_
        refine at_then ?_
        refine X_seq ?_
        refine X_seq ?_
        refine X_region ?_
        refine XO_v0 (ev_fieldAddr rfl fld_45_10) rfl rfl rfl ?_
        refine XO_v0 (ev_load rfl sct_3 (fun hg => by first | exact Cell.h0 rfl | exact Cell.h1 rfl | exact Cell.h2 rfl | exact Cell.h3 rfl | exact Cell.h4 rfl | exact Cell.h5 rfl | (repeat (first | exact Cell.here rfl | apply Cell.there | apply Cell.app)))) rfl rfl rfl ?_
        refine XO_v0 (ev_fieldAddr rfl fld_33_3) rfl rfl rfl ?_
        refine XO_v0 (ev_load rfl sct_3 (fun hg => by first | exact Cell.h0 rfl | exact Cell.h1 rfl | exact Cell.h2 rfl | exact Cell.h3 rfl | exact Cell.h4 rfl | exact Cell.h5 rfl | (repeat (first | exact Cell.here rfl | apply Cell.there | apply Cell.app)))) rfl rfl rfl ?_
        refine XO_v0 (ev_cmp rfl rfl rfl) rfl rfl rfl ?_
        refine XO_nil ?_
        refine at_then ?_
        refine X_cond rfl (fun hc51 => ?_) (fun hc51 => ?_)
        · skip
          have hw0 : earlyP time x1 = false := by unfold earlyP; rw [hc51]; rfl
          refine X_exit ?_
          refine at_then_e ?_
          refine at_block_hit ?_
          refine at_then ?_
          refine X_region ?_
          refine XO_v0 (ev_arB rfl rfl rfl (fun _ => by omega)) rfl rfl rfl ?_
          refine XO_v0 (ev_move rfl) rfl rfl rfl ?_
          refine XO_nil ?_
          first
          | exact at_metP _ _ _ ⟨n - (k + 1), by omega, k + 1, v1', v2', q1 + 1, q2 + 1, L1', L2', _, rfl, rfl, rfl, rfl, by omega, fil_yes hx1 hw1 hO1', fil_yes hx1 (own_step hc0 hx1 hw1 hmk ▸ hc77) hO2', by omega, by omega, kept_step hx1 (own_step hc0 hx1 hw1 hmk ▸ hc77) hmk⟩ (.cons rfl (.cons rfl (.cons rfl (.cons rfl (.cons rfl (.cons rfl (.cons rfl (.cons rfl .nil)))))))) perm_swap2 (by repeat (first | exact .refl | refine subL_app ?_ | refine .drop ?_ | refine subL_add ?_))
          | exact at_met2 _ _ ⟨n - (k + 1), by omega, k + 1, v1', v2, q1 + 1, q2, L1', L2, m, rfl, rfl, rfl, rfl, by omega, fil_yes hx1 hw1 hO1', fil_no hx1 (own_step hc0 hx1 hw1 hmk ▸ hc77) hO2, by omega, by omega, kept_same hx1 (own_step hc0 hx1 hw1 hmk ▸ hc77) hmk⟩ (.cons rfl (.cons rfl (.cons rfl (.cons rfl (.cons rfl (.cons rfl (.cons rfl (.cons rfl .nil)))))))) (by repeat (first | exact .refl | refine subL_app ?_ | refine .drop ?_ | refine subL_add ?_))
          | exact at_met2 _ _ ⟨n - (k + 1), by omega, k + 1, v1, v2, q1, q2, L1, L2, m, rfl, rfl, rfl, rfl, by omega, fil_no hx1 hw0 hO1, fil_no hx1 (own_late hw0) hO2, by omega, by omega, kept_same hx1 (own_late hw0) hmk⟩ (.cons rfl (.cons rfl (.cons rfl (.cons rfl (.cons rfl (.cons rfl (.cons rfl (.cons rfl .nil)))))))) (by repeat (first | exact .refl | refine subL_app ?_ | refine .drop ?_ | refine subL_add ?_))
        · skip
          have hw1 : earlyP time x1 = true := by unfold earlyP; rw [hc51]; rfl
          refine X_skip ?_
          refine at_then ?_
          refine X_seq ?_
          refine X_region ?_
          refine XO_v0 (ev_move rfl) rfl rfl rfl ?_
          refine XO_v0 (ev_loadA rfl agt_45 (fun _ => by first | exact Sl.getA hS hx1 | exact Cells.g0 | exact Cells.g1 | exact Cells.g2 | exact Cells.g3 | exact Cells.g4 | exact Cells.g5 | (repeat (first | exact Cells.here | apply Cells.there | apply Cells.app))) rfl) rfl rfl rfl ?_
          refine XO_buildSlice (ps := [(0, _)]) (m := [encR x1]) elt_22 rfl (.cons rfl (.nil)) rfl (by simp [encR_len, encI_len, encP_len]) (by decide) (by decide) rfl rfl (fun b_54 => ?_)
          refine XO_append (v := v1) (ys := [encR x1].flatten) (L := L1) rfl rfl elt_22 hO1 (split_mid (A := [_, _])) ⟨rfl, fun _ => rfl, Cells.here⟩ rfl (by omega) rfl rfl ?_
          intro v1' L1' hO1' _
          refine XO_v0 (ev_assign rfl) rfl rfl rfl ?_
          refine XO_nil ?_
          refine at_then ?_
          refine X_seq ?_
          refine X_region ?_
          refine XO_v0 (ev_fieldAddr rfl fld_45_1) rfl rfl rfl ?_
          refine XO_v0 (ev_load rfl sct_3 (fun hg => by first | exact Cell.h0 rfl | exact Cell.h1 rfl | exact Cell.h2 rfl | exact Cell.h3 rfl | exact Cell.h4 rfl | exact Cell.h5 rfl | (repeat (first | exact Cell.here rfl | apply Cell.there | apply Cell.app)))) rfl rfl rfl ?_
          refine XO_v0 (ev_cmp rfl rfl rfl) rfl rfl rfl ?_
          refine XO_v0 (ev_move rfl) rfl rfl rfl ?_
          refine XO_pushT 3 rfl rfl rfl ?_
          refine XO_v1 (ev_move rfl) (.some rfl rfl rfl rfl gbt) rfl rfl rfl ?_
          refine XO_v1 (ev_fieldAddr rfl fld_45_5) (.some rfl rfl rfl rfl gbt) rfl rfl rfl ?_
          refine XO_v1 (ev_load rfl sct_3 (fun hg => by first | exact Cell.h0 rfl | exact Cell.h1 rfl | exact Cell.h2 rfl | exact Cell.h3 rfl | exact Cell.h4 rfl | exact Cell.h5 rfl | (repeat (first | exact Cell.here rfl | apply Cell.there | apply Cell.app)))) (.some rfl rfl rfl rfl gbt) rfl rfl rfl ?_
          refine XO_v1 (ev_ar rfl rfl rfl) (.some rfl rfl rfl rfl gbt) rfl rfl rfl ?_
          refine XO_v1 (ev_lookupBool (ek := Value.int .i64) (a := w64 (x1.ends - 1)) (m := m) mpt_47 key_3 rfl rfl (fun _ => (by repeat (first | exact Mem.m0 | apply Mem.there | apply Mem.app)))) (.some rfl rfl rfl rfl gbt) rfl rfl rfl ?_
          refine XO_and0 rfl rfl rfl rfl rfl ?_
          refine XO_v0 (ev_move rfl) rfl rfl rfl ?_
          refine XO_pushF 10 rfl rfl rfl ?_
          refine XO_v1 (ev_fieldAddr rfl fld_45_1) (.some rfl rfl rfl rfl gbf) rfl rfl rfl ?_
          refine XO_v1 (ev_load rfl sct_3 (fun hg => by first | exact Cell.h0 rfl | exact Cell.h1 rfl | exact Cell.h2 rfl | exact Cell.h3 rfl | exact Cell.h4 rfl | exact Cell.h5 rfl | (repeat (first | exact Cell.here rfl | apply Cell.there | apply Cell.app)))) (.some rfl rfl rfl rfl gbf) rfl rfl rfl ?_
          refine XO_v1 (ev_cmp rfl rfl rfl) (.some rfl rfl rfl rfl gbf) rfl rfl rfl ?_
          refine XO_v1 (ev_move rfl) (.some rfl rfl rfl rfl gbf) rfl rfl rfl ?_
          refine XO_pushT 14 rfl rfl rfl ?_
          refine XO_v1 (ev_fieldAddr rfl fld_45_2) (.some rfl rfl rfl rfl gbt) rfl rfl rfl ?_
          refine XO_v1 (ev_load rfl sct_3 (fun hg => by first | exact Cell.h0 rfl | exact Cell.h1 rfl | exact Cell.h2 rfl | exact Cell.h3 rfl | exact Cell.h4 rfl | exact Cell.h5 rfl | (repeat (first | exact Cell.here rfl | apply Cell.there | apply Cell.app)))) (.some rfl rfl rfl rfl gbt) rfl rfl rfl ?_
          refine XO_v1 (ev_fieldAddr rfl fld_33_0) (.some rfl rfl rfl rfl gbt) rfl rfl rfl ?_
          refine XO_v1 (ev_load rfl sct_3 (fun hg => by first | exact Cell.h0 rfl | exact Cell.h1 rfl | exact Cell.h2 rfl | exact Cell.h3 rfl | exact Cell.h4 rfl | exact Cell.h5 rfl | (repeat (first | exact Cell.here rfl | apply Cell.there | apply Cell.app)))) (.some rfl rfl rfl rfl gbt) rfl rfl rfl ?_
          refine XO_v1 (ev_cmp rfl rfl rfl) (.some rfl rfl rfl rfl gbt) rfl rfl rfl ?_
          refine XO_and1 rfl rfl rfl (.some rfl rfl rfl rfl gbf) rfl rfl ?_
          refine XO_or0 rfl rfl rfl rfl rfl ?_
          refine XO_nil ?_
          refine at_then ?_
          refine X_cond rfl (fun hc77 => ?_) (fun hc77 => ?_)
          · skip
            refine X_seq ?_
            refine X_region ?_
            refine XO_v0 (ev_move rfl) rfl rfl rfl ?_
            refine XO_v0 (ev_loadA rfl agt_45 (fun _ => by first | exact Sl.getA hS hx1 | exact Cells.g0 | exact Cells.g1 | exact Cells.g2 | exact Cells.g3 | exact Cells.g4 | exact Cells.g5 | (repeat (first | exact Cells.here | apply Cells.there | apply Cells.app))) rfl) rfl rfl rfl ?_
            refine XO_buildSlice (ps := [(0, _)]) (m := [encR x1]) elt_22 rfl (.cons rfl (.nil)) rfl (by simp [encR_len, encI_len, encP_len]) (by decide) (by decide) rfl rfl (fun b_80 => ?_)
            refine XO_append (v := v2) (ys := [encR x1].flatten) (L := L2) rfl rfl elt_22 hO2 (by repeat (first | exact split_app | apply split_cons | apply split_skip)) ⟨rfl, fun _ => rfl, Cells.here⟩ rfl (by omega) rfl rfl ?_
            intro v2' L2' hO2' _
            refine XO_v0 (ev_assign rfl) rfl rfl rfl ?_
            refine XO_nil ?_
            refine at_then ?_
            refine X_region ?_
            refine XO_v0 (ev_move rfl) rfl rfl rfl ?_
            refine XO_v0 (ev_fieldAddr rfl fld_45_0) rfl rfl rfl ?_
            refine XO_v0 (ev_load rfl sct_3 (fun hg => by first | exact Cell.h0 rfl | exact Cell.h1 rfl | exact Cell.h2 rfl | exact Cell.h3 rfl | exact Cell.h4 rfl | exact Cell.h5 rfl | (repeat (first | exact Cell.here rfl | apply Cell.there | apply Cell.app)))) rfl rfl rfl ?_
            refine XO_mapUpdate (m := m) true mpt_47 key_3 rfl rfl rfl rfl (by first | exact Upd.u0 | exact Upd.u1 | exact Upd.u2 | exact Upd.u3 | exact Upd.u4 | exact Upd.u5 | (repeat (first | exact Upd.here | apply Upd.there | apply upd_app))) ?_
            refine XO_nil ?_
            refine at_block_n ?_
            refine at_then ?_
            refine X_region ?_
            refine XO_v0 (ev_arB rfl rfl rfl (fun _ => by omega)) rfl rfl rfl ?_
            refine XO_v0 (ev_move rfl) rfl rfl rfl ?_
            refine XO_nil ?_
            first
            | exact at_metP _ _ _ ⟨n - (k + 1), by omega, k + 1, v1', v2', q1 + 1, q2 + 1, L1', L2', _, rfl, rfl, rfl, rfl, by omega, fil_yes hx1 hw1 hO1', fil_yes hx1 (own_step hc0 hx1 hw1 hmk ▸ hc77) hO2', by omega, by omega, kept_step hx1 (own_step hc0 hx1 hw1 hmk ▸ hc77) hmk⟩ (.cons rfl (.cons rfl (.cons rfl (.cons rfl (.cons rfl (.cons rfl (.cons rfl (.cons rfl .nil)))))))) perm_swap2 (by repeat (first | exact .refl | refine subL_app ?_ | refine .drop ?_ | refine subL_add ?_))
            | exact at_met2 _ _ ⟨n - (k + 1), by omega, k + 1, v1', v2, q1 + 1, q2, L1', L2, m, rfl, rfl, rfl, rfl, by omega, fil_yes hx1 hw1 hO1', fil_no hx1 (own_step hc0 hx1 hw1 hmk ▸ hc77) hO2, by omega, by omega, kept_same hx1 (own_step hc0 hx1 hw1 hmk ▸ hc77) hmk⟩ (.cons rfl (.cons rfl (.cons rfl (.cons rfl (.cons rfl (.cons rfl (.cons rfl (.cons rfl .nil)))))))) (by repeat (first | exact .refl | refine subL_app ?_ | refine .drop ?_ | refine subL_add ?_))
            | exact at_met2 _ _ ⟨n - (k + 1), by omega, k + 1, v1, v2, q1, q2, L1, L2, m, rfl, rfl, rfl, rfl, by omega, fil_no hx1 hw0 hO1, fil_no hx1 (own_late hw0) hO2, by omega, by omega, kept_same hx1 (own_late hw0) hmk⟩ (.cons rfl (.cons rfl (.cons rfl (.cons rfl (.cons rfl (.cons rfl (.cons rfl (.cons rfl .nil)))))))) (by repeat (first | exact .refl | refine subL_app ?_ | refine .drop ?_ | refine subL_add ?_))
          · skip
            refine X_skip ?_
            refine at_block_n ?_
            refine at_then ?_
            refine X_region ?_
            refine XO_v0 (ev_arB rfl rfl rfl (fun _ => by omega)) rfl rfl rfl ?_
            refine XO_v0 (ev_move rfl) rfl rfl rfl ?_
            refine XO_nil ?_
            first
            | exact at_metP _ _ _ ⟨n - (k + 1), by omega, k + 1, v1', v2', q1 + 1, q2 + 1, L1', L2', _, rfl, rfl, rfl, rfl, by omega, fil_yes hx1 hw1 hO1', fil_yes hx1 (own_step hc0 hx1 hw1 hmk ▸ hc77) hO2', by omega, by omega, kept_step hx1 (own_step hc0 hx1 hw1 hmk ▸ hc77) hmk⟩ (.cons rfl (.cons rfl (.cons rfl (.cons rfl (.cons rfl (.cons rfl (.cons rfl (.cons rfl .nil)))))))) perm_swap2 (by repeat (first | exact .refl | refine subL_app ?_ | refine .drop ?_ | refine subL_add ?_))
            | exact at_met2 _ _ ⟨n - (k + 1), by omega, k + 1, v1', v2, q1 + 1, q2, L1', L2, m, rfl, rfl, rfl, rfl, by omega, fil_yes hx1 hw1 hO1', fil_no hx1 (own_step hc0 hx1 hw1 hmk ▸ hc77) hO2, by omega, by omega, kept_same hx1 (own_step hc0 hx1 hw1 hmk ▸ hc77) hmk⟩ (.cons rfl (.cons rfl (.cons rfl (.cons rfl (.cons rfl (.cons rfl (.cons rfl (.cons rfl .nil)))))))) (by repeat (first | exact .refl | refine subL_app ?_ | refine .drop ?_ | refine subL_add ?_))
            | exact at_met2 _ _ ⟨n - (k + 1), by omega, k + 1, v1, v2, q1, q2, L1, L2, m, rfl, rfl, rfl, rfl, by omega, fil_no hx1 hw0 hO1, fil_no hx1 (own_late hw0) hO2, by omega, by omega, kept_same hx1 (own_late hw0) hmk⟩ (.cons rfl (.cons rfl (.cons rfl (.cons rfl (.cons rfl (.cons rfl (.cons rfl (.cons rfl .nil)))))))) (by repeat (first | exact .refl | refine subL_app ?_ | refine .drop ?_ | refine subL_add ?_))
      · skip
        have hge : n ≤ k := by simpa using hc44
        rw [take_all hS.len hge] at hO1 hO2
        obtain ⟨hck1, hck2⟩ := known_law hx hck ed time
        refine X_exit ?_
        refine at_then_e ?_
        refine at_then_e ?_
        refine at_block_hit ?_
        refine at_then ?_
        refine X_seq ?_
        refine X_freezeO hO1 encR_len (by decide) split_app (fun I2 hI2 af2 cf2 ef2 hE => ?_)
        subst ef2
        have hS := hS.mono hI2
        have hT := hT.mono hI2
        have hIc := hIc.trans hI2
        refine X_freezeO hO2 encR_len (by decide) split_app (fun I3 hI3 af3 cf3 ef3 hW => ?_)
        subst ef3
        have hS := hS.mono hI3
        have hT := hT.mono hI3
        have hE := hE.mono hI3
        have hIc := hIc.trans hI3
        refine X_region ?_
        refine XO_v0 (ev_move rfl) rfl rfl rfl ?_
        refine XO_v0 (ev_fieldAddr rfl fld_33_2) rfl rfl rfl ?_
        refine XO_v0 (ev_load rfl sct_3 (fun hg => by first | exact Cell.h0 rfl | exact Cell.h1 rfl | exact Cell.h2 rfl | exact Cell.h3 rfl | exact Cell.h4 rfl | exact Cell.h5 rfl | (repeat (first | exact Cell.here rfl | apply Cell.there | apply Cell.app)))) rfl rfl rfl ?_
        refine XO_v0 (ev_fieldAddr rfl fld_33_3) rfl rfl rfl ?_
        refine XO_v0 (ev_load rfl sct_3 (fun hg => by first | exact Cell.h0 rfl | exact Cell.h1 rfl | exact Cell.h2 rfl | exact Cell.h3 rfl | exact Cell.h4 rfl | exact Cell.h5 rfl | (repeat (first | exact Cell.here rfl | apply Cell.there | apply Cell.app)))) rfl rfl rfl ?_
        refine XO_callM (cap := []) (vs := [_, _, _]) rfl rfl fun_12 .nil ((w_standing_all hS hn _ _).absS) rfl rfl ?_
        rintro vv4 I4 L4 hI4 ⟨ys, e16, hys, he16, rfl, a4, c4, rfl, hA⟩
        have hS := hS.mono hI4
        have hT := hT.mono hI4
        have hE := hE.mono hI4
        have hW := hW.mono hI4
        have hIc := hIc.trans hI4
        refine XO_v0 (ev_move rfl) rfl rfl rfl ?_
        refine XO_v0 (ev_extract rfl rfl) rfl rfl rfl ?_
        refine XO_v0 (ev_extract rfl rfl) rfl rfl rfl ?_
        refine XO_v0 (ev_assign rfl) rfl rfl rfl ?_
        refine XO_v0 (ev_assign rfl) rfl rfl rfl ?_
        refine XO_nil ?_
        refine at_then ?_
        refine X_seq ?_
        refine X_region ?_
        refine XO_v0 (ev_move rfl) rfl rfl rfl ?_
        refine XO_v0 (ev_fieldAddr rfl fld_33_2) rfl rfl rfl ?_
        refine XO_v0 (ev_load rfl sct_3 (fun hg => by first | exact Cell.h0 rfl | exact Cell.h1 rfl | exact Cell.h2 rfl | exact Cell.h3 rfl | exact Cell.h4 rfl | exact Cell.h5 rfl | (repeat (first | exact Cell.here rfl | apply Cell.there | apply Cell.app)))) rfl rfl rfl ?_
        refine XO_v0 (ev_fieldAddr rfl fld_33_3) rfl rfl rfl ?_
        refine XO_v0 (ev_load rfl sct_3 (fun hg => by first | exact Cell.h0 rfl | exact Cell.h1 rfl | exact Cell.h2 rfl | exact Cell.h3 rfl | exact Cell.h4 rfl | exact Cell.h5 rfl | (repeat (first | exact Cell.here rfl | apply Cell.there | apply Cell.app)))) rfl rfl rfl ?_
        refine XO_callM (cap := []) (vs := [_, _, _]) rfl rfl fun_12 .nil ((w_standing_all hE (by omega) _ _).absS) rfl rfl ?_
        rintro vv5 I5 L5 hI5 ⟨zs, e17, hzs, he17, rfl, a5, c5, rfl, hB⟩
        have hS := hS.mono hI5
        have hT := hT.mono hI5
        have hE := hE.mono hI5
        have hW := hW.mono hI5
        have hA := hA.mono hI5
        have hIc := hIc.trans hI5
        refine XO_v0 (ev_move rfl) rfl rfl rfl ?_
        refine XO_v0 (ev_extract rfl rfl) rfl rfl rfl ?_
        refine XO_v0 (ev_extract rfl rfl) rfl rfl rfl ?_
        refine XO_v0 (ev_assign rfl) rfl rfl rfl ?_
        refine XO_v0 (ev_assign rfl) rfl rfl rfl ?_
        refine XO_nil ?_
        refine at_then ?_
        refine X_seq ?_
        refine X_region ?_
        refine XO_v0 (ev_move rfl) rfl rfl rfl ?_
        refine XO_v0 (ev_fieldAddr rfl fld_33_0) rfl rfl rfl ?_
        refine XO_v0 (ev_load rfl sct_3 (fun hg => by first | exact Cell.h0 rfl | exact Cell.h1 rfl | exact Cell.h2 rfl | exact Cell.h3 rfl | exact Cell.h4 rfl | exact Cell.h5 rfl | (repeat (first | exact Cell.here rfl | apply Cell.there | apply Cell.app)))) rfl rfl rfl ?_
        refine XO_v0 (ev_fieldAddr rfl fld_33_6) rfl rfl rfl ?_
        refine XO_v0 (ev_load rfl sct_31 (fun hg => by first | exact Cell.h0 rfl | exact Cell.h1 rfl | exact Cell.h2 rfl | exact Cell.h3 rfl | exact Cell.h4 rfl | exact Cell.h5 rfl | (repeat (first | exact Cell.here rfl | apply Cell.there | apply Cell.app)))) rfl rfl rfl ?_
        refine XO_v0 (ev_fieldAddr rfl fld_33_2) rfl rfl rfl ?_
        refine XO_v0 (ev_load rfl sct_3 (fun hg => by first | exact Cell.h0 rfl | exact Cell.h1 rfl | exact Cell.h2 rfl | exact Cell.h3 rfl | exact Cell.h4 rfl | exact Cell.h5 rfl | (repeat (first | exact Cell.here rfl | apply Cell.there | apply Cell.app)))) rfl rfl rfl ?_
        refine XO_v0 (ev_fieldAddr rfl fld_33_3) rfl rfl rfl ?_
        refine XO_v0 (ev_load rfl sct_3 (fun hg => by first | exact Cell.h0 rfl | exact Cell.h1 rfl | exact Cell.h2 rfl | exact Cell.h3 rfl | exact Cell.h4 rfl | exact Cell.h5 rfl | (repeat (first | exact Cell.here rfl | apply Cell.there | apply Cell.app)))) rfl rfl rfl ?_
        refine XO_callM (cap := []) (vs := [_, _, _, _, _]) rfl rfl fun_21 .nil ((w_Allowed hS hn hT hn2 _ _ _).absA) rfl rfl ?_
        rintro vv6 I6 L6 hI6 ⟨ms, e18, hms, he18, rfl, a6, c6, rfl, hC⟩
        have hS := hS.mono hI6
        have hT := hT.mono hI6
        have hE := hE.mono hI6
        have hW := hW.mono hI6
        have hA := hA.mono hI6
        have hB := hB.mono hI6
        have hIc := hIc.trans hI6
        have hml : ms.length ≤ 100000 := by rw [hms]; exact ss_len9 (xs := xs) hS.len (by omega) hT.len (by omega) ed day time
        refine XO_v0 (ev_move rfl) rfl rfl rfl ?_
        refine XO_v0 (ev_extract rfl rfl) rfl rfl rfl ?_
        refine XO_v0 (ev_extract rfl rfl) rfl rfl rfl ?_
        refine XO_v0 (ev_extract rfl rfl) rfl rfl rfl ?_
        refine XO_v0 (ev_assign rfl) rfl rfl rfl ?_
        refine XO_v0 (ev_assign rfl) rfl rfl rfl ?_
        refine XO_v0 (ev_assign rfl) rfl rfl rfl ?_
        refine XO_nil ?_
        refine at_then ?_
        refine X_seq ?_
        refine X_region ?_
        refine XO_v0 (ev_move rfl) rfl rfl rfl ?_
        refine XO_v0 (ev_fieldAddr rfl fld_33_0) rfl rfl rfl ?_
        refine XO_v0 (ev_load rfl sct_3 (fun hg => by first | exact Cell.h0 rfl | exact Cell.h1 rfl | exact Cell.h2 rfl | exact Cell.h3 rfl | exact Cell.h4 rfl | exact Cell.h5 rfl | (repeat (first | exact Cell.here rfl | apply Cell.there | apply Cell.app)))) rfl rfl rfl ?_
        refine XO_v0 (ev_fieldAddr rfl fld_33_6) rfl rfl rfl ?_
        refine XO_v0 (ev_load rfl sct_31 (fun hg => by first | exact Cell.h0 rfl | exact Cell.h1 rfl | exact Cell.h2 rfl | exact Cell.h3 rfl | exact Cell.h4 rfl | exact Cell.h5 rfl | (repeat (first | exact Cell.here rfl | apply Cell.there | apply Cell.app)))) rfl rfl rfl ?_
        refine XO_v0 (ev_fieldAddr rfl fld_33_2) rfl rfl rfl ?_
        refine XO_v0 (ev_load rfl sct_3 (fun hg => by first | exact Cell.h0 rfl | exact Cell.h1 rfl | exact Cell.h2 rfl | exact Cell.h3 rfl | exact Cell.h4 rfl | exact Cell.h5 rfl | (repeat (first | exact Cell.here rfl | apply Cell.there | apply Cell.app)))) rfl rfl rfl ?_
        refine XO_v0 (ev_fieldAddr rfl fld_33_3) rfl rfl rfl ?_
        refine XO_v0 (ev_load rfl sct_3 (fun hg => by first | exact Cell.h0 rfl | exact Cell.h1 rfl | exact Cell.h2 rfl | exact Cell.h3 rfl | exact Cell.h4 rfl | exact Cell.h5 rfl | (repeat (first | exact Cell.here rfl | apply Cell.there | apply Cell.app)))) rfl rfl rfl ?_
        refine XO_callM (cap := []) (vs := [_, _, _, _, _]) rfl rfl fun_21 .nil ((w_Allowed hW (by omega) hT hn2 _ _ _).absA) rfl rfl ?_
        rintro vv7 I7 L7 hI7 ⟨ms2, e19, hms2, he19, rfl, a7, c7, rfl, hD⟩
        have hS := hS.mono hI7
        have hT := hT.mono hI7
        have hE := hE.mono hI7
        have hW := hW.mono hI7
        have hA := hA.mono hI7
        have hB := hB.mono hI7
        have hC := hC.mono hI7
        have hIc := hIc.trans hI7
        refine XO_v0 (ev_move rfl) rfl rfl rfl ?_
        refine XO_v0 (ev_extract rfl rfl) rfl rfl rfl ?_
        refine XO_v0 (ev_extract rfl rfl) rfl rfl rfl ?_
        refine XO_v0 (ev_extract rfl rfl) rfl rfl rfl ?_
        refine XO_v0 (ev_assign rfl) rfl rfl rfl ?_
        refine XO_v0 (ev_assign rfl) rfl rfl rfl ?_
        refine XO_v0 (ev_assign rfl) rfl rfl rfl ?_
        refine XO_nil ?_
        refine at_then ?_
        refine X_seq ?_
        refine X_region ?_
        refine XO_v0 (ev_move rfl) rfl rfl rfl ?_
        refine XO_v0 (ev_fieldAddr rfl fld_33_0) rfl rfl rfl ?_
        refine XO_v0 (ev_load rfl sct_3 (fun hg => by first | exact Cell.h0 rfl | exact Cell.h1 rfl | exact Cell.h2 rfl | exact Cell.h3 rfl | exact Cell.h4 rfl | exact Cell.h5 rfl | (repeat (first | exact Cell.here rfl | apply Cell.there | apply Cell.app)))) rfl rfl rfl ?_
        refine XO_v0 (ev_fieldAddr rfl fld_33_4) rfl rfl rfl ?_
        refine XO_v0 (ev_load rfl sct_9 (fun hg => by first | exact Cell.h0 rfl | exact Cell.h1 rfl | exact Cell.h2 rfl | exact Cell.h3 rfl | exact Cell.h4 rfl | exact Cell.h5 rfl | (repeat (first | exact Cell.here rfl | apply Cell.there | apply Cell.app)))) rfl rfl rfl ?_
        refine XO_v0 (ev_fieldAddr rfl fld_33_5) rfl rfl rfl ?_
        refine XO_v0 (ev_load rfl sct_9 (fun hg => by first | exact Cell.h0 rfl | exact Cell.h1 rfl | exact Cell.h2 rfl | exact Cell.h3 rfl | exact Cell.h4 rfl | exact Cell.h5 rfl | (repeat (first | exact Cell.here rfl | apply Cell.there | apply Cell.app)))) rfl rfl rfl ?_
        refine XO_v0 (ev_fieldAddr rfl fld_33_2) rfl rfl rfl ?_
        refine XO_v0 (ev_load rfl sct_3 (fun hg => by first | exact Cell.h0 rfl | exact Cell.h1 rfl | exact Cell.h2 rfl | exact Cell.h3 rfl | exact Cell.h4 rfl | exact Cell.h5 rfl | (repeat (first | exact Cell.here rfl | apply Cell.there | apply Cell.app)))) rfl rfl rfl ?_
        refine XO_v0 (ev_fieldAddr rfl fld_33_3) rfl rfl rfl ?_
        refine XO_v0 (ev_load rfl sct_3 (fun hg => by first | exact Cell.h0 rfl | exact Cell.h1 rfl | exact Cell.h2 rfl | exact Cell.h3 rfl | exact Cell.h4 rfl | exact Cell.h5 rfl | (repeat (first | exact Cell.here rfl | apply Cell.there | apply Cell.app)))) rfl rfl rfl ?_
        refine XO_callV0 (cap := []) (vs := [_, _, _, _, _, _]) rfl rfl fun_17 (w_may hS hn _ _ _ _ _) rfl rfl ?_
        refine XO_v0 (ev_move rfl) rfl rfl rfl ?_
        refine XO_v0 (ev_extract rfl rfl) rfl rfl rfl ?_
        refine XO_v0 (ev_extract rfl rfl) rfl rfl rfl ?_
        refine XO_v0 (ev_assign rfl) rfl rfl rfl ?_
        refine XO_v0 (ev_assign rfl) rfl rfl rfl ?_
        refine XO_nil ?_
        refine at_then ?_
        refine X_seq ?_
        refine X_region ?_
        refine XO_v0 (ev_move rfl) rfl rfl rfl ?_
        refine XO_v0 (ev_fieldAddr rfl fld_33_0) rfl rfl rfl ?_
        refine XO_v0 (ev_load rfl sct_3 (fun hg => by first | exact Cell.h0 rfl | exact Cell.h1 rfl | exact Cell.h2 rfl | exact Cell.h3 rfl | exact Cell.h4 rfl | exact Cell.h5 rfl | (repeat (first | exact Cell.here rfl | apply Cell.there | apply Cell.app)))) rfl rfl rfl ?_
        refine XO_v0 (ev_fieldAddr rfl fld_33_4) rfl rfl rfl ?_
        refine XO_v0 (ev_load rfl sct_9 (fun hg => by first | exact Cell.h0 rfl | exact Cell.h1 rfl | exact Cell.h2 rfl | exact Cell.h3 rfl | exact Cell.h4 rfl | exact Cell.h5 rfl | (repeat (first | exact Cell.here rfl | apply Cell.there | apply Cell.app)))) rfl rfl rfl ?_
        refine XO_v0 (ev_fieldAddr rfl fld_33_5) rfl rfl rfl ?_
        refine XO_v0 (ev_load rfl sct_9 (fun hg => by first | exact Cell.h0 rfl | exact Cell.h1 rfl | exact Cell.h2 rfl | exact Cell.h3 rfl | exact Cell.h4 rfl | exact Cell.h5 rfl | (repeat (first | exact Cell.here rfl | apply Cell.there | apply Cell.app)))) rfl rfl rfl ?_
        refine XO_v0 (ev_fieldAddr rfl fld_33_2) rfl rfl rfl ?_
        refine XO_v0 (ev_load rfl sct_3 (fun hg => by first | exact Cell.h0 rfl | exact Cell.h1 rfl | exact Cell.h2 rfl | exact Cell.h3 rfl | exact Cell.h4 rfl | exact Cell.h5 rfl | (repeat (first | exact Cell.here rfl | apply Cell.there | apply Cell.app)))) rfl rfl rfl ?_
        refine XO_v0 (ev_fieldAddr rfl fld_33_3) rfl rfl rfl ?_
        refine XO_v0 (ev_load rfl sct_3 (fun hg => by first | exact Cell.h0 rfl | exact Cell.h1 rfl | exact Cell.h2 rfl | exact Cell.h3 rfl | exact Cell.h4 rfl | exact Cell.h5 rfl | (repeat (first | exact Cell.here rfl | apply Cell.there | apply Cell.app)))) rfl rfl rfl ?_
        refine XO_callV0 (cap := []) (vs := [_, _, _, _, _, _]) rfl rfl fun_17 (w_may hW (by omega) _ _ _ _ _) rfl rfl ?_
        refine XO_v0 (ev_move rfl) rfl rfl rfl ?_
        refine XO_v0 (ev_extract rfl rfl) rfl rfl rfl ?_
        refine XO_v0 (ev_extract rfl rfl) rfl rfl rfl ?_
        refine XO_v0 (ev_assign rfl) rfl rfl rfl ?_
        refine XO_v0 (ev_assign rfl) rfl rfl rfl ?_
        refine XO_nil ?_
        refine at_then ?_
        refine X_seq ?_
        refine X_region ?_
        refine XO_v0 (ev_move rfl) rfl rfl rfl ?_
        refine XO_v0 (ev_move rfl) rfl rfl rfl ?_
        refine XO_v0 (ev_cmp rfl rfl rfl) rfl rfl rfl ?_
        refine XO_v0 (ev_move rfl) rfl rfl rfl ?_
        refine XO_pushT 3 rfl rfl rfl ?_
        refine XO_v1 (ev_move rfl) (.some rfl rfl rfl rfl gbt) rfl rfl rfl ?_
        refine XO_v1 (ev_move rfl) (.some rfl rfl rfl rfl gbt) rfl rfl rfl ?_
        refine XO_callV1 (cap := []) (vs := [_, _]) rfl rfl fun_16 (fun hg => w_same hA hB (by rw [hys]; exact Nat.le_trans resF_len (Nat.le_trans standF_len (by rw [hS.len]; omega)))) (.some rfl rfl rfl rfl gbt) rfl rfl ?_
        refine XO_and0 rfl rfl rfl rfl rfl ?_
        refine XO_v0 (ev_move rfl) rfl rfl rfl ?_
        refine XO_pushT 8 rfl rfl rfl ?_
        refine XO_v1 (ev_move rfl) (.some rfl rfl rfl rfl gbt) rfl rfl rfl ?_
        refine XO_v1 (ev_move rfl) (.some rfl rfl rfl rfl gbt) rfl rfl rfl ?_
        refine XO_v1 (ev_boolR rfl rfl und_4) (.some rfl rfl rfl rfl gbt) rfl rfl rfl ?_
        refine XO_and0 rfl rfl rfl rfl rfl ?_
        refine XO_v0 (ev_move rfl) rfl rfl rfl ?_
        refine XO_pushT 13 rfl rfl rfl ?_
        refine XO_v1 (ev_move rfl) (.some rfl rfl rfl rfl gbt) rfl rfl rfl ?_
        refine XO_v1 (ev_move rfl) (.some rfl rfl rfl rfl gbt) rfl rfl rfl ?_
        refine XO_callV1 (cap := []) (vs := [_, _]) rfl rfl fun_24 (fun hg => w_sameP hC hD hml) (.some rfl rfl rfl rfl gbt) rfl rfl ?_
        refine XO_and0 rfl rfl rfl rfl rfl ?_
        refine XO_v0 (ev_move rfl) rfl rfl rfl ?_
        refine XO_pushT 18 rfl rfl rfl ?_
        refine XO_v1 (ev_move rfl) (.some rfl rfl rfl rfl gbt) rfl rfl rfl ?_
        refine XO_v1 (ev_move rfl) (.some rfl rfl rfl rfl gbt) rfl rfl rfl ?_
        refine XO_v1 (ev_cmp rfl rfl rfl) (.some rfl rfl rfl rfl gbt) rfl rfl rfl ?_
        refine XO_and0 rfl rfl rfl rfl rfl ?_
        refine XO_v0 (ev_move rfl) rfl rfl rfl ?_
        refine XO_pushT 23 rfl rfl rfl ?_
        refine XO_v1 (ev_move rfl) (.some rfl rfl rfl rfl gbt) rfl rfl rfl ?_
        refine XO_v1 (ev_move rfl) (.some rfl rfl rfl rfl gbt) rfl rfl rfl ?_
        refine XO_v1 (ev_boolR rfl rfl und_4) (.some rfl rfl rfl rfl gbt) rfl rfl rfl ?_
        refine XO_and0 rfl rfl rfl rfl rfl ?_
        refine XO_v0 (ev_move rfl) rfl rfl rfl ?_
        refine XO_pushT 28 rfl rfl rfl ?_
        refine XO_v1 (ev_move rfl) (.some rfl rfl rfl rfl gbt) rfl rfl rfl ?_
        refine XO_v1 (ev_move rfl) (.some rfl rfl rfl rfl gbt) rfl rfl rfl ?_
        refine XO_v1 (ev_cmp rfl rfl rfl) (.some rfl rfl rfl rfl gbt) rfl rfl rfl ?_
        refine XO_and0 rfl rfl rfl rfl rfl ?_
        refine XO_v0 (ev_assign rfl) rfl rfl rfl ?_
        refine XO_nil ?_
        refine at_then ?_
        refine X_ret ?_
        first
        | exact at_ret1 rfl rfl (fun w hw => ⟨rfl, (hw.mono hIc).drop⟩)
        | exact at_ret1 rfl rfl (fun w hw => ⟨by rw [he16, he17, he18, he19, hms, hms2, hys, hzs, hck, hck1, hck2, stand_early, stand_own, parts_ed, parts_ed, may_ed]; simp [same_self], (hw.mono hIc).drop⟩)
end Go.Proofs.Ytmflfccincbnaaa
