/- roomsSpec_holds, part C of the proof: what its theorems say holds without further conditions. -/
import Derived.Test.YtccomeanpppfmaaGreatSpecB
section
namespace Go.Proofs.YtccomeanpppfmaaGreat
open Go Go.Kn Go.Proofs
theorem w_nan (I : HMap) (x : Int) : RetV Tryz.prog 124 [.int .i64 x] I (.bool false) := by
  intro g H w hw
  refine enter Tryz.func124 rfl Tryz.ntmps124 rfl hw ?_
  refine X_seq ?_
  refine X_region ?_
  refine XO_v0 (ev_assign rfl) rfl rfl rfl ?_
  refine XO_nil ?_
  refine at_then ?_
  refine X_seq ?_
  refine X_region ?_
  refine XO_v0 (ev_move rfl) rfl rfl rfl ?_
  refine XO_v0 (ev_move rfl) rfl rfl rfl ?_
  refine XO_v0 (ev_cmp rfl rfl rfl) rfl rfl rfl ?_
  refine XO_v0 (ev_assign rfl) rfl rfl rfl ?_
  refine XO_nil ?_
  refine at_then ?_
  refine X_ret ?_
  exact at_ret1 rfl rfl (fun w hw => ⟨by simp, hw.drop⟩)
theorem w_cmp (I : HMap) (x y : Int) : RetV Tryz.prog 63 [.int .i64 x, .int .i64 y] I (.int .i64 (cmpF x y)) := by
  intro g H w hw
  refine enter Tryz.func63 rfl Tryz.ntmps63 rfl hw ?_
  refine X_seq ?_
  refine X_region ?_
  refine XO_v0 (ev_assign rfl) rfl rfl rfl ?_
  refine XO_nil ?_
  refine at_then ?_
  refine X_seq ?_
  refine X_region ?_
  refine XO_v0 (ev_move rfl) rfl rfl rfl ?_
  refine XO_callV0 (cap := []) (vs := [_]) rfl rfl fun_124 (w_nan I _) rfl rfl ?_
  refine XO_v0 (ev_assign rfl) rfl rfl rfl ?_
  refine XO_nil ?_
  refine at_then ?_
  refine X_seq ?_
  refine X_region ?_
  refine XO_v0 (ev_move rfl) rfl rfl rfl ?_
  refine XO_callV0 (cap := []) (vs := [_]) rfl rfl fun_124 (w_nan I _) rfl rfl ?_
  refine XO_v0 (ev_assign rfl) rfl rfl rfl ?_
  refine XO_nil ?_
  refine at_then ?_
  refine X_seq ?_
  refine X_seq ?_
  refine X_region ?_
  refine XO_v0 (ev_move rfl) rfl rfl rfl ?_
  refine XO_nil ?_
  refine at_then ?_
  refine X_cond rfl (fun hc11 => ?_) (fun hc11 => ?_)
  · skip
    cases hc11
  · skip
    refine X_skip ?_
    refine at_then ?_
    refine X_seq ?_
    refine X_seq ?_
    refine X_region ?_
    refine XO_v0 (ev_move rfl) rfl rfl rfl ?_
    refine XO_nil ?_
    refine at_then ?_
    refine X_cond rfl (fun hc13 => ?_) (fun hc13 => ?_)
    · skip
      cases hc13
    · skip
      refine X_skip ?_
      refine at_then ?_
      refine X_seq ?_
      refine X_seq ?_
      refine X_region ?_
      refine XO_v0 (ev_move rfl) rfl rfl rfl ?_
      refine XO_v0 (ev_move rfl) rfl rfl rfl ?_
      refine XO_v0 (ev_cmp rfl rfl rfl) rfl rfl rfl ?_
      refine XO_nil ?_
      refine at_then ?_
      refine X_cond rfl (fun hc16 => ?_) (fun hc16 => ?_)
      · skip
        refine X_seq ?_
        refine X_region ?_
        refine XO_v0 (ev_assign rfl) rfl rfl rfl ?_
        refine XO_nil ?_
        refine at_then ?_
        refine X_ret ?_
        refine at_then_r ?_
        exact at_ret1 rfl rfl (fun w hw => ⟨by unfold cmpF; first | (rw [if_pos (by simpa using hc16)]) | (rw [if_neg (by simpa using hc16), if_pos (by simpa using hc19)]) | (rw [if_neg (by simpa using hc16), if_neg (by simpa using hc19)]), hw.drop⟩)
      · skip
        refine X_skip ?_
        refine at_then ?_
        refine X_seq ?_
        refine X_seq ?_
        refine X_region ?_
        refine XO_v0 (ev_move rfl) rfl rfl rfl ?_
        refine XO_v0 (ev_move rfl) rfl rfl rfl ?_
        refine XO_v0 (ev_cmp rfl rfl rfl) rfl rfl rfl ?_
        refine XO_nil ?_
        refine at_then ?_
        refine X_cond rfl (fun hc19 => ?_) (fun hc19 => ?_)
        · skip
          refine X_seq ?_
          refine X_region ?_
          refine XO_v0 (ev_assign rfl) rfl rfl rfl ?_
          refine XO_nil ?_
          refine at_then ?_
          refine X_ret ?_
          refine at_then_r ?_
          exact at_ret1 rfl rfl (fun w hw => ⟨by unfold cmpF; first | (rw [if_pos (by simpa using hc16)]) | (rw [if_neg (by simpa using hc16), if_pos (by simpa using hc19)]) | (rw [if_neg (by simpa using hc16), if_neg (by simpa using hc19)]), hw.drop⟩)
        · skip
          refine X_skip ?_
          refine at_then ?_
          refine X_seq ?_
          refine X_region ?_
          refine XO_v0 (ev_assign rfl) rfl rfl rfl ?_
          refine XO_nil ?_
          refine at_then ?_
          refine X_ret ?_
          exact at_ret1 rfl rfl (fun w hw => ⟨by unfold cmpF; first | (rw [if_pos (by simpa using hc16)]) | (rw [if_neg (by simpa using hc16), if_pos (by simpa using hc19)]) | (rw [if_neg (by simpa using hc16), if_neg (by simpa using hc19)]), hw.drop⟩)
theorem w_mag (I : HMap) (n : Int) (hn : -1073741824 ≤ n ∧ n ≤ 1073741824) : RetV Tryz.prog 145 [.int .i64 n] I (.int .u64 (magI n)) := by
  intro g H w hw
  refine enter Tryz.func145 rfl Tryz.ntmps145 rfl hw ?_
  refine X_seq ?_
  refine X_region ?_
  refine XO_v0 (ev_assign rfl) rfl rfl rfl ?_
  refine XO_nil ?_
  refine at_then ?_
  refine X_seq ?_
  refine X_seq ?_
  refine X_region ?_
  refine XO_v0 (ev_move rfl) rfl rfl rfl ?_
  refine XO_v0 (ev_cmp rfl rfl rfl) rfl rfl rfl ?_
  refine XO_nil ?_
  refine at_then ?_
  refine X_cond rfl (fun hc4 => ?_) (fun hc4 => ?_)
  · skip
    refine X_seq ?_
    refine X_region ?_
    refine XO_v0 (ev_move rfl) rfl rfl rfl ?_
    refine XO_v0 (ev_convI rfl cvt_3_146) rfl rfl rfl ?_
    refine XO_v0 (ev_negU rfl) rfl rfl rfl ?_
    refine XO_v0 (ev_assign rfl) rfl rfl rfl ?_
    refine XO_nil ?_
    refine at_then ?_
    refine X_ret ?_
    refine at_then_r ?_
    first
    | exact at_ret1 rfl rfl (fun w hw => ⟨by rw [mag_neg hn (by simpa using hc4)], hw.drop⟩)
    | exact at_ret1 rfl rfl (fun w hw => ⟨by rw [mag_pos hn (by simpa using hc4)], hw.drop⟩)
  · skip
    refine X_skip ?_
    refine at_then ?_
    refine X_seq ?_
    refine X_region ?_
    refine XO_v0 (ev_move rfl) rfl rfl rfl ?_
    refine XO_v0 (ev_convI rfl cvt_3_146) rfl rfl rfl ?_
    refine XO_v0 (ev_assign rfl) rfl rfl rfl ?_
    refine XO_nil ?_
    refine at_then ?_
    refine X_ret ?_
    first
    | exact at_ret1 rfl rfl (fun w hw => ⟨by rw [mag_neg hn (by simpa using hc4)], hw.drop⟩)
    | exact at_ret1 rfl rfl (fun w hw => ⟨by rw [mag_pos hn (by simpa using hc4)], hw.drop⟩)
theorem w_rem (I : HMap) (a b : Int) : RetM Tryz.prog 179 [.int .u64 a, .int .u64 b] I [] (fun v I' L => I' = I ∧ ∃ b1 b2, v = .func (.func 192) #[] [capP b1, capP b2].toArray ∧ L = remL 146 b1 b2 a b) := by
  intro g H w hw
  refine enter Tryz.func179 rfl Tryz.ntmps179 rfl hw ?_
  refine X_seq ?_
  refine X_region ?_
  refine XO_box rfl rfl rfl (fun b_2 => ?_)
  refine XO_box rfl rfl rfl (fun b_3 => ?_)
  refine XO_v0 (ev_assign rfl) rfl rfl rfl ?_
  refine XO_nil ?_
  refine at_then ?_
  refine X_seq ?_
  refine X_region ?_
  refine XO_v0 (ev_makeFunc (us := []) (vs := [_, _]) rfl rfl) rfl rfl rfl ?_
  refine XO_v0 (ev_assign rfl) rfl rfl rfl ?_
  refine XO_nil ?_
  refine at_then ?_
  refine X_ret ?_
  exact at_ret1 rfl rfl (fun w hw => ⟨_, I, _, rfl, HLe.refl _, hw, rfl, _, _, rfl, rfl⟩)
theorem w_euclid (I : HMap) (a0 b0 : Nat) (b1 b2 : Nat) (hb0 : 0 < b0) (ha1 : a0 ≤ 9223372036854775807) (hb1 : b0 ≤ 9223372036854775807) : SeqL Tryz.prog 192 [capP b1, capP b2] I (remL 146 b1 b2 (a0) (b0)) (fun n : Nat => .int .u64 n) (remN a0 b0) := by
  intro g l J Jx hY I0 H w h0 hJ hw
  refine enter Tryz.func192 rfl Tryz.ntmps192 rfl hw ?_
  refine X_block ?_
  refine X_loopH (fun m E I' H' loc' => ∃ (a b : Nat) (pre : List Nat), m = b ∧ E = [(0, .func (.yield l) #[] #[]), (1, capP b1), (2, capP b2)] ∧ loc' = remL 146 b1 b2 (a) (b) ∧ HLe I0 I' ∧ J pre I' H' ∧ remN a0 b0 = pre ++ remN a b ∧ 0 < b ∧ a ≤ 9223372036854775807 ∧ b ≤ 9223372036854775807) _ _ _ ⟨a0, b0, [], rfl, rfl, rfl, HLe.refl _, hJ, rfl, hb0, ha1, hb1⟩ (.cons rfl (.cons rfl (.cons rfl .nil))) rfl ?_
  rintro m E I' H' loc' ⟨a, b, pre, hmb, rfl, rfl, hI1, hJk, hrem, hbp, hal, hbl⟩
  subst m
  have hI0 := h0.trans hI1
  refine X_seq ?_
  refine X_seq ?_
  refine X_region ?_
  refine XO_v0 (ev_load rfl sct_146 (fun hg => by first | exact Cell.h0 rfl | exact Cell.h1 rfl | exact Cell.h2 rfl | exact Cell.h3 rfl | exact Cell.h4 rfl | exact Cell.h5 rfl | (repeat (first | exact Cell.here rfl | apply Cell.there | apply Cell.app)))) rfl rfl rfl ?_
  refine XO_v0 (ev_cmp rfl rfl rfl) rfl rfl rfl ?_
  refine XO_v0 (ev_move rfl) rfl rfl rfl ?_
  refine XO_pushT 2 rfl rfl rfl ?_
  refine XO_v1 (ev_move rfl) (.some rfl rfl rfl rfl gbt) rfl rfl rfl ?_
  refine XO_v1 (ev_load rfl sct_146 (fun hg => by first | exact Cell.h0 rfl | exact Cell.h1 rfl | exact Cell.h2 rfl | exact Cell.h3 rfl | exact Cell.h4 rfl | exact Cell.h5 rfl | (repeat (first | exact Cell.here rfl | apply Cell.there | apply Cell.app)))) (.some rfl rfl rfl rfl gbt) rfl rfl rfl ?_
  refine XO_yield1 (vs := [_]) (Post := fun t I2 H2 => if t then J (pre ++ [a]) I2 H2 else Jx (pre ++ [a]) I2 H2) rfl rfl (.some rfl rfl rfl rfl gbt) rfl rfl (fun hcj => hY pre a _ _ (rem_pre hrem (by simpa [conj] using hcj)) hI0 hJk) ?_
  rintro t I2 H2 hI2 hyes hno
  refine XO_and0 rfl rfl rfl rfl rfl ?_
  refine XO_nil ?_
  refine at_then ?_
  refine X_cond rfl (fun hc10 => ?_) (fun hc10 => ?_)
  · skip
    have ha0 : a ≠ 0 := by simp at hc10; exact hc10.1
    have ht : t = true := by simp at hc10; exact hc10.2
    subst ht
    have hJ1 : J (pre ++ [a]) I2 H2 := hyes (by simp [conj]; exact ha0)
    refine X_skip ?_
    refine at_then ?_
    refine X_block ?_
    refine X_seq ?_
    have hD := HLe.refl I2
    refine X_noP ?_
    refine X_drawS I2 [] mixed ?_
    refine XD_three 0 1 2 rfl rfl rfl (by kernel_rfl) ?_ ?_ ?_
    · skip
      refine XO_v0 (ev_load rfl sct_146 (fun hg => by first | exact Cell.h0 rfl | exact Cell.h1 rfl | exact Cell.h2 rfl | exact Cell.h3 rfl | exact Cell.h4 rfl | exact Cell.h5 rfl | (repeat (first | exact Cell.here rfl | apply Cell.there | apply Cell.app)))) rfl rfl rfl ?_
      refine XO_nil ?_
      refine at_D hD (by repeat (first | exact .refl | exact subL_nil | refine .keep ?_ | refine .drop ?_ | refine subL_add ?_)) ?_
      refine XD_two 1 2 rfl rfl (by kernel_rfl) ?_ ?_
      · skip
        refine XO_v0 (ev_load rfl sct_146 (fun hg => by first | exact Cell.h0 rfl | exact Cell.h1 rfl | exact Cell.h2 rfl | exact Cell.h3 rfl | exact Cell.h4 rfl | exact Cell.h5 rfl | (repeat (first | exact Cell.here rfl | apply Cell.there | apply Cell.app)))) rfl rfl rfl ?_
        refine XO_nil ?_
        refine at_D hD (by repeat (first | exact .refl | exact subL_nil | refine .keep ?_ | refine .drop ?_ | refine subL_add ?_)) ?_
        refine XD_two 2 5 rfl rfl (by kernel_rfl) ?_ ?_
        · skip
          refine XO_v0 (ev_load rfl sct_146 (fun hg => by first | exact Cell.h0 rfl | exact Cell.h1 rfl | exact Cell.h2 rfl | exact Cell.h3 rfl | exact Cell.h4 rfl | exact Cell.h5 rfl | (repeat (first | exact Cell.here rfl | apply Cell.there | apply Cell.app)))) rfl rfl rfl ?_
          refine XO_nil ?_
          refine at_D hD (by repeat (first | exact .refl | exact subL_nil | refine .keep ?_ | refine .drop ?_ | refine subL_add ?_)) ?_
          refine XD_two 3 5 rfl rfl (by kernel_rfl) ?_ ?_
          · skip
            refine XO_v0 (ev_max rfl rfl) rfl rfl rfl ?_
            refine XO_nil ?_
            refine at_D hD (by repeat (first | exact .refl | exact subL_nil | refine .keep ?_ | refine .drop ?_ | refine subL_add ?_)) ?_
            refine XD_two 4 5 rfl rfl (by kernel_rfl) ?_ ?_
            · skip
              refine XO_v0 (ev_rem rfl rfl (fun hg => by rw [maxI_one hbp]; omega)) rfl rfl rfl ?_
              refine XO_nil ?_
              refine at_D hD (by repeat (first | exact .refl | exact subL_nil | refine .keep ?_ | refine .drop ?_ | refine subL_add ?_)) ?_
              refine XD_one 5 rfl (by kernel_rfl) ?_
              refine XO_store rfl rfl szt_146 rfl rfl (by first | exact Upd.u0 | exact Upd.u1 | exact Upd.u2 | exact Upd.u3 | exact Upd.u4 | exact Upd.u5 | (repeat (first | exact Upd.here | apply Upd.there | apply upd_app))) rfl ?_
              refine XO_nil ?_
              refine at_D hD (by repeat (first | exact .refl | exact subL_nil | refine .keep ?_ | refine .drop ?_ | refine subL_add ?_)) ?_
              refine XD_one 6 rfl (by kernel_rfl) ?_
              refine XO_store rfl rfl szt_146 rfl rfl (by first | exact Upd.u0 | exact Upd.u1 | exact Upd.u2 | exact Upd.u3 | exact Upd.u4 | exact Upd.u5 | (repeat (first | exact Upd.here | apply Upd.there | apply upd_app))) rfl ?_
              refine XO_nil ?_
              refine at_D hD (by repeat (first | exact .refl | exact subL_nil | refine .keep ?_ | refine .drop ?_ | refine subL_add ?_)) ?_
              refine XD_done (by kernel_rfl) ?_
              refine at_noP ?_
              rw [show ((a : Int)).tmod (maxI (b : Int) 1) = ((a % b : Nat) : Int) by rw [maxI_one hbp, tmod_nat]]
              refine at_then ?_
              refine X_seq ?_
              refine X_region ?_
              refine XO_v0 (ev_load rfl sct_146 (fun hg => by first | exact Cell.h0 rfl | exact Cell.h1 rfl | exact Cell.h2 rfl | exact Cell.h3 rfl | exact Cell.h4 rfl | exact Cell.h5 rfl | (repeat (first | exact Cell.here rfl | apply Cell.there | apply Cell.app)))) rfl rfl rfl ?_
              refine XO_v0 (ev_cmp rfl rfl rfl) rfl rfl rfl ?_
              refine XO_nil ?_
              refine at_then ?_
              refine X_cond rfl (fun hc17 => ?_) (fun hc17 => ?_)
              · skip
                have hab : a % b = 0 := by have h := hc17; simp only [beq_iff_eq] at h; omega
                have hpre2 : (pre ++ [a]) ++ [b] <+: remN a0 b0 := by rw [hrem, remN_end ha0 (by omega) hab, List.append_assoc]; exact List.prefix_rfl
                refine X_seq ?_
                refine X_region ?_
                refine XO_v0 (ev_move rfl) rfl rfl rfl ?_
                refine XO_v0 (ev_load rfl sct_146 (fun hg => by first | exact Cell.h0 rfl | exact Cell.h1 rfl | exact Cell.h2 rfl | exact Cell.h3 rfl | exact Cell.h4 rfl | exact Cell.h5 rfl | (repeat (first | exact Cell.here rfl | apply Cell.there | apply Cell.app)))) rfl rfl rfl ?_
                refine XO_yield0 (vs := [_]) (Post := fun t I3 H3 => if t then J ((pre ++ [a]) ++ [b]) I3 H3 else Jx ((pre ++ [a]) ++ [b]) I3 H3) rfl rfl rfl rfl (hY (pre ++ [a]) b _ _ hpre2 (hI0.trans hI2) hJ1) ?_
                rintro t3 I3 H3 hI3 hP3
                refine XO_nil ?_
                refine at_then ?_
                refine X_ret ?_
                refine at_block_r ?_
                refine at_then_r ?_
                refine at_block_r ?_
                first
                | (refine at_ret0 rfl (fun w hw => ⟨_, I3, H3, rfl, hI1.trans (hI2.trans hI3), hw.drop, ?_⟩); cases t3 with | true => exact .inl (by rw [hrem, remN_end ha0 (by omega) hab]; simpa using hP3) | false => exact .inr ⟨_, hpre2, hP3⟩)
                | (refine at_norm (at_ret0 rfl (fun w hw => ⟨_, I2, H2, rfl, hI1.trans hI2, hw.drop, ?_⟩)); by_cases ha0 : a = 0; (obtain ⟨e1, e2⟩ := hno (by simp [conj, ha0]); subst e1; subst e2; subst ha0; exact .inl (by rw [hrem, remN_zero, List.append_nil]; exact hJk)); (have ht : t = false := (by simp [ha0] at hc10; exact hc10); subst ht; exact .inr ⟨_, rem_pre hrem ha0, hyes (by simp [conj]; exact ha0)⟩))
              · skip
                have hab : a % b ≠ 0 := by have h := hc17; simp only [beq_eq_false_iff_ne, ne_eq] at h; omega
                refine X_skip ?_
                refine at_block_n ?_
                exact at_metH2 rfl rfl rfl _ (remL 146 b1 b2 (b) (((a % b : Nat) : Int))) ⟨a % b, Nat.mod_lt _ hbp, b, a % b, pre ++ [a], rfl, rfl, rfl, hI1.trans hI2, hJ1, by rw [hrem, remN_step ha0 (by omega) hab, List.append_assoc]; rfl, by omega, by omega, by have := Nat.mod_lt a hbp; omega⟩ (.cons rfl (.cons rfl (.cons rfl .nil))) .refl
            · skip
              refine XO_store rfl rfl szt_146 rfl rfl (by first | exact Upd.u0 | exact Upd.u1 | exact Upd.u2 | exact Upd.u3 | exact Upd.u4 | exact Upd.u5 | (repeat (first | exact Upd.here | apply Upd.there | apply upd_app))) rfl ?_
              refine XO_nil ?_
              refine at_D hD (by repeat (first | exact .refl | exact subL_nil | refine .keep ?_ | refine .drop ?_ | refine subL_add ?_)) ?_
              refine XD_one 4 rfl (by kernel_rfl) ?_
              refine XO_v0 (ev_rem rfl rfl (fun hg => by rw [maxI_one hbp]; omega)) rfl rfl rfl ?_
              refine XO_nil ?_
              refine at_D hD (by repeat (first | exact .refl | exact subL_nil | refine .keep ?_ | refine .drop ?_ | refine subL_add ?_)) ?_
              refine XD_one 6 rfl (by kernel_rfl) ?_
              refine XO_store rfl rfl szt_146 rfl rfl (by first | exact Upd.u0 | exact Upd.u1 | exact Upd.u2 | exact Upd.u3 | exact Upd.u4 | exact Upd.u5 | (repeat (first | exact Upd.here | apply Upd.there | apply upd_app))) rfl ?_
              refine XO_nil ?_
              refine at_D hD (by repeat (first | exact .refl | exact subL_nil | refine .keep ?_ | refine .drop ?_ | refine subL_add ?_)) ?_
              refine XD_done (by kernel_rfl) ?_
              refine at_noP ?_
              rw [show ((a : Int)).tmod (maxI (b : Int) 1) = ((a % b : Nat) : Int) by rw [maxI_one hbp, tmod_nat]]
              refine at_then ?_
              refine X_seq ?_
              refine X_region ?_
              refine XO_v0 (ev_load rfl sct_146 (fun hg => by first | exact Cell.h0 rfl | exact Cell.h1 rfl | exact Cell.h2 rfl | exact Cell.h3 rfl | exact Cell.h4 rfl | exact Cell.h5 rfl | (repeat (first | exact Cell.here rfl | apply Cell.there | apply Cell.app)))) rfl rfl rfl ?_
              refine XO_v0 (ev_cmp rfl rfl rfl) rfl rfl rfl ?_
              refine XO_nil ?_
              refine at_then ?_
              refine X_cond rfl (fun hc17 => ?_) (fun hc17 => ?_)
              · skip
                have hab : a % b = 0 := by have h := hc17; simp only [beq_iff_eq] at h; omega
                have hpre2 : (pre ++ [a]) ++ [b] <+: remN a0 b0 := by rw [hrem, remN_end ha0 (by omega) hab, List.append_assoc]; exact List.prefix_rfl
                refine X_seq ?_
                refine X_region ?_
                refine XO_v0 (ev_move rfl) rfl rfl rfl ?_
                refine XO_v0 (ev_load rfl sct_146 (fun hg => by first | exact Cell.h0 rfl | exact Cell.h1 rfl | exact Cell.h2 rfl | exact Cell.h3 rfl | exact Cell.h4 rfl | exact Cell.h5 rfl | (repeat (first | exact Cell.here rfl | apply Cell.there | apply Cell.app)))) rfl rfl rfl ?_
                refine XO_yield0 (vs := [_]) (Post := fun t I3 H3 => if t then J ((pre ++ [a]) ++ [b]) I3 H3 else Jx ((pre ++ [a]) ++ [b]) I3 H3) rfl rfl rfl rfl (hY (pre ++ [a]) b _ _ hpre2 (hI0.trans hI2) hJ1) ?_
                rintro t3 I3 H3 hI3 hP3
                refine XO_nil ?_
                refine at_then ?_
                refine X_ret ?_
                refine at_block_r ?_
                refine at_then_r ?_
                refine at_block_r ?_
                first
                | (refine at_ret0 rfl (fun w hw => ⟨_, I3, H3, rfl, hI1.trans (hI2.trans hI3), hw.drop, ?_⟩); cases t3 with | true => exact .inl (by rw [hrem, remN_end ha0 (by omega) hab]; simpa using hP3) | false => exact .inr ⟨_, hpre2, hP3⟩)
                | (refine at_norm (at_ret0 rfl (fun w hw => ⟨_, I2, H2, rfl, hI1.trans hI2, hw.drop, ?_⟩)); by_cases ha0 : a = 0; (obtain ⟨e1, e2⟩ := hno (by simp [conj, ha0]); subst e1; subst e2; subst ha0; exact .inl (by rw [hrem, remN_zero, List.append_nil]; exact hJk)); (have ht : t = false := (by simp [ha0] at hc10; exact hc10); subst ht; exact .inr ⟨_, rem_pre hrem ha0, hyes (by simp [conj]; exact ha0)⟩))
              · skip
                have hab : a % b ≠ 0 := by have h := hc17; simp only [beq_eq_false_iff_ne, ne_eq] at h; omega
                refine X_skip ?_
                refine at_block_n ?_
                exact at_metH2 rfl rfl rfl _ (remL 146 b1 b2 (b) (((a % b : Nat) : Int))) ⟨a % b, Nat.mod_lt _ hbp, b, a % b, pre ++ [a], rfl, rfl, rfl, hI1.trans hI2, hJ1, by rw [hrem, remN_step ha0 (by omega) hab, List.append_assoc]; rfl, by omega, by omega, by have := Nat.mod_lt a hbp; omega⟩ (.cons rfl (.cons rfl (.cons rfl .nil))) .refl
          · skip
            refine XO_store rfl rfl szt_146 rfl rfl (by first | exact Upd.u0 | exact Upd.u1 | exact Upd.u2 | exact Upd.u3 | exact Upd.u4 | exact Upd.u5 | (repeat (first | exact Upd.here | apply Upd.there | apply upd_app))) rfl ?_
            refine XO_nil ?_
            refine at_D hD (by repeat (first | exact .refl | exact subL_nil | refine .keep ?_ | refine .drop ?_ | refine subL_add ?_)) ?_
            refine XD_one 3 rfl (by kernel_rfl) ?_
            refine XO_v0 (ev_max rfl rfl) rfl rfl rfl ?_
            refine XO_nil ?_
            refine at_D hD (by repeat (first | exact .refl | exact subL_nil | refine .keep ?_ | refine .drop ?_ | refine subL_add ?_)) ?_
            refine XD_one 4 rfl (by kernel_rfl) ?_
            refine XO_v0 (ev_rem rfl rfl (fun hg => by rw [maxI_one hbp]; omega)) rfl rfl rfl ?_
            refine XO_nil ?_
            refine at_D hD (by repeat (first | exact .refl | exact subL_nil | refine .keep ?_ | refine .drop ?_ | refine subL_add ?_)) ?_
            refine XD_one 6 rfl (by kernel_rfl) ?_
            refine XO_store rfl rfl szt_146 rfl rfl (by first | exact Upd.u0 | exact Upd.u1 | exact Upd.u2 | exact Upd.u3 | exact Upd.u4 | exact Upd.u5 | (repeat (first | exact Upd.here | apply Upd.there | apply upd_app))) rfl ?_
            refine XO_nil ?_
            refine at_D hD (by repeat (first | exact .refl | exact subL_nil | refine .keep ?_ | refine .drop ?_ | refine subL_add ?_)) ?_
            refine XD_done (by kernel_rfl) ?_
            refine at_noP ?_
            rw [show ((a : Int)).tmod (maxI (b : Int) 1) = ((a % b : Nat) : Int) by rw [maxI_one hbp, tmod_nat]]
            refine at_then ?_
            refine X_seq ?_
            refine X_region ?_
            refine XO_v0 (ev_load rfl sct_146 (fun hg => by first | exact Cell.h0 rfl | exact Cell.h1 rfl | exact Cell.h2 rfl | exact Cell.h3 rfl | exact Cell.h4 rfl | exact Cell.h5 rfl | (repeat (first | exact Cell.here rfl | apply Cell.there | apply Cell.app)))) rfl rfl rfl ?_
            refine XO_v0 (ev_cmp rfl rfl rfl) rfl rfl rfl ?_
            refine XO_nil ?_
            refine at_then ?_
            refine X_cond rfl (fun hc17 => ?_) (fun hc17 => ?_)
            · skip
              have hab : a % b = 0 := by have h := hc17; simp only [beq_iff_eq] at h; omega
              have hpre2 : (pre ++ [a]) ++ [b] <+: remN a0 b0 := by rw [hrem, remN_end ha0 (by omega) hab, List.append_assoc]; exact List.prefix_rfl
              refine X_seq ?_
              refine X_region ?_
              refine XO_v0 (ev_move rfl) rfl rfl rfl ?_
              refine XO_v0 (ev_load rfl sct_146 (fun hg => by first | exact Cell.h0 rfl | exact Cell.h1 rfl | exact Cell.h2 rfl | exact Cell.h3 rfl | exact Cell.h4 rfl | exact Cell.h5 rfl | (repeat (first | exact Cell.here rfl | apply Cell.there | apply Cell.app)))) rfl rfl rfl ?_
              refine XO_yield0 (vs := [_]) (Post := fun t I3 H3 => if t then J ((pre ++ [a]) ++ [b]) I3 H3 else Jx ((pre ++ [a]) ++ [b]) I3 H3) rfl rfl rfl rfl (hY (pre ++ [a]) b _ _ hpre2 (hI0.trans hI2) hJ1) ?_
              rintro t3 I3 H3 hI3 hP3
              refine XO_nil ?_
              refine at_then ?_
              refine X_ret ?_
              refine at_block_r ?_
              refine at_then_r ?_
              refine at_block_r ?_
              first
              | (refine at_ret0 rfl (fun w hw => ⟨_, I3, H3, rfl, hI1.trans (hI2.trans hI3), hw.drop, ?_⟩); cases t3 with | true => exact .inl (by rw [hrem, remN_end ha0 (by omega) hab]; simpa using hP3) | false => exact .inr ⟨_, hpre2, hP3⟩)
              | (refine at_norm (at_ret0 rfl (fun w hw => ⟨_, I2, H2, rfl, hI1.trans hI2, hw.drop, ?_⟩)); by_cases ha0 : a = 0; (obtain ⟨e1, e2⟩ := hno (by simp [conj, ha0]); subst e1; subst e2; subst ha0; exact .inl (by rw [hrem, remN_zero, List.append_nil]; exact hJk)); (have ht : t = false := (by simp [ha0] at hc10; exact hc10); subst ht; exact .inr ⟨_, rem_pre hrem ha0, hyes (by simp [conj]; exact ha0)⟩))
            · skip
              have hab : a % b ≠ 0 := by have h := hc17; simp only [beq_eq_false_iff_ne, ne_eq] at h; omega
              refine X_skip ?_
              refine at_block_n ?_
              exact at_metH2 rfl rfl rfl _ (remL 146 b1 b2 (b) (((a % b : Nat) : Int))) ⟨a % b, Nat.mod_lt _ hbp, b, a % b, pre ++ [a], rfl, rfl, rfl, hI1.trans hI2, hJ1, by rw [hrem, remN_step ha0 (by omega) hab, List.append_assoc]; rfl, by omega, by omega, by have := Nat.mod_lt a hbp; omega⟩ (.cons rfl (.cons rfl (.cons rfl .nil))) .refl
        · skip
          refine XO_store rfl rfl szt_146 rfl rfl (by first | exact Upd.u0 | exact Upd.u1 | exact Upd.u2 | exact Upd.u3 | exact Upd.u4 | exact Upd.u5 | (repeat (first | exact Upd.here | apply Upd.there | apply upd_app))) rfl ?_
          refine XO_nil ?_
          refine at_D hD (by repeat (first | exact .refl | exact subL_nil | refine .keep ?_ | refine .drop ?_ | refine subL_add ?_)) ?_
          refine XD_one 2 rfl (by kernel_rfl) ?_
          refine XO_v0 (ev_load rfl sct_146 (fun hg => by first | exact Cell.h0 rfl | exact Cell.h1 rfl | exact Cell.h2 rfl | exact Cell.h3 rfl | exact Cell.h4 rfl | exact Cell.h5 rfl | (repeat (first | exact Cell.here rfl | apply Cell.there | apply Cell.app)))) rfl rfl rfl ?_
          refine XO_nil ?_
          refine at_D hD (by repeat (first | exact .refl | exact subL_nil | refine .keep ?_ | refine .drop ?_ | refine subL_add ?_)) ?_
          refine XD_one 3 rfl (by kernel_rfl) ?_
          refine XO_v0 (ev_max rfl rfl) rfl rfl rfl ?_
          refine XO_nil ?_
          refine at_D hD (by repeat (first | exact .refl | exact subL_nil | refine .keep ?_ | refine .drop ?_ | refine subL_add ?_)) ?_
          refine XD_one 4 rfl (by kernel_rfl) ?_
          refine XO_v0 (ev_rem rfl rfl (fun hg => by rw [maxI_one hbp]; omega)) rfl rfl rfl ?_
          refine XO_nil ?_
          refine at_D hD (by repeat (first | exact .refl | exact subL_nil | refine .keep ?_ | refine .drop ?_ | refine subL_add ?_)) ?_
          refine XD_one 6 rfl (by kernel_rfl) ?_
          refine XO_store rfl rfl szt_146 rfl rfl (by first | exact Upd.u0 | exact Upd.u1 | exact Upd.u2 | exact Upd.u3 | exact Upd.u4 | exact Upd.u5 | (repeat (first | exact Upd.here | apply Upd.there | apply upd_app))) rfl ?_
          refine XO_nil ?_
          refine at_D hD (by repeat (first | exact .refl | exact subL_nil | refine .keep ?_ | refine .drop ?_ | refine subL_add ?_)) ?_
          refine XD_done (by kernel_rfl) ?_
          refine at_noP ?_
          rw [show ((a : Int)).tmod (maxI (b : Int) 1) = ((a % b : Nat) : Int) by rw [maxI_one hbp, tmod_nat]]
          refine at_then ?_
          refine X_seq ?_
          refine X_region ?_
          refine XO_v0 (ev_load rfl sct_146 (fun hg => by first | exact Cell.h0 rfl | exact Cell.h1 rfl | exact Cell.h2 rfl | exact Cell.h3 rfl | exact Cell.h4 rfl | exact Cell.h5 rfl | (repeat (first | exact Cell.here rfl | apply Cell.there | apply Cell.app)))) rfl rfl rfl ?_
          refine XO_v0 (ev_cmp rfl rfl rfl) rfl rfl rfl ?_
          refine XO_nil ?_
          refine at_then ?_
          refine X_cond rfl (fun hc17 => ?_) (fun hc17 => ?_)
          · skip
            have hab : a % b = 0 := by have h := hc17; simp only [beq_iff_eq] at h; omega
            have hpre2 : (pre ++ [a]) ++ [b] <+: remN a0 b0 := by rw [hrem, remN_end ha0 (by omega) hab, List.append_assoc]; exact List.prefix_rfl
            refine X_seq ?_
            refine X_region ?_
            refine XO_v0 (ev_move rfl) rfl rfl rfl ?_
            refine XO_v0 (ev_load rfl sct_146 (fun hg => by first | exact Cell.h0 rfl | exact Cell.h1 rfl | exact Cell.h2 rfl | exact Cell.h3 rfl | exact Cell.h4 rfl | exact Cell.h5 rfl | (repeat (first | exact Cell.here rfl | apply Cell.there | apply Cell.app)))) rfl rfl rfl ?_
            refine XO_yield0 (vs := [_]) (Post := fun t I3 H3 => if t then J ((pre ++ [a]) ++ [b]) I3 H3 else Jx ((pre ++ [a]) ++ [b]) I3 H3) rfl rfl rfl rfl (hY (pre ++ [a]) b _ _ hpre2 (hI0.trans hI2) hJ1) ?_
            rintro t3 I3 H3 hI3 hP3
            refine XO_nil ?_
            refine at_then ?_
            refine X_ret ?_
            refine at_block_r ?_
            refine at_then_r ?_
            refine at_block_r ?_
            first
            | (refine at_ret0 rfl (fun w hw => ⟨_, I3, H3, rfl, hI1.trans (hI2.trans hI3), hw.drop, ?_⟩); cases t3 with | true => exact .inl (by rw [hrem, remN_end ha0 (by omega) hab]; simpa using hP3) | false => exact .inr ⟨_, hpre2, hP3⟩)
            | (refine at_norm (at_ret0 rfl (fun w hw => ⟨_, I2, H2, rfl, hI1.trans hI2, hw.drop, ?_⟩)); by_cases ha0 : a = 0; (obtain ⟨e1, e2⟩ := hno (by simp [conj, ha0]); subst e1; subst e2; subst ha0; exact .inl (by rw [hrem, remN_zero, List.append_nil]; exact hJk)); (have ht : t = false := (by simp [ha0] at hc10; exact hc10); subst ht; exact .inr ⟨_, rem_pre hrem ha0, hyes (by simp [conj]; exact ha0)⟩))
          · skip
            have hab : a % b ≠ 0 := by have h := hc17; simp only [beq_eq_false_iff_ne, ne_eq] at h; omega
            refine X_skip ?_
            refine at_block_n ?_
            exact at_metH2 rfl rfl rfl _ (remL 146 b1 b2 (b) (((a % b : Nat) : Int))) ⟨a % b, Nat.mod_lt _ hbp, b, a % b, pre ++ [a], rfl, rfl, rfl, hI1.trans hI2, hJ1, by rw [hrem, remN_step ha0 (by omega) hab, List.append_assoc]; rfl, by omega, by omega, by have := Nat.mod_lt a hbp; omega⟩ (.cons rfl (.cons rfl (.cons rfl .nil))) .refl
      · skip
        refine XO_v0 (ev_load rfl sct_146 (fun hg => by first | exact Cell.h0 rfl | exact Cell.h1 rfl | exact Cell.h2 rfl | exact Cell.h3 rfl | exact Cell.h4 rfl | exact Cell.h5 rfl | (repeat (first | exact Cell.here rfl | apply Cell.there | apply Cell.app)))) rfl rfl rfl ?_
        refine XO_nil ?_
        refine at_D hD (by repeat (first | exact .refl | exact subL_nil | refine .keep ?_ | refine .drop ?_ | refine subL_add ?_)) ?_
        refine XD_two 1 3 rfl rfl (by kernel_rfl) ?_ ?_
        · skip
          refine XO_v0 (ev_load rfl sct_146 (fun hg => by first | exact Cell.h0 rfl | exact Cell.h1 rfl | exact Cell.h2 rfl | exact Cell.h3 rfl | exact Cell.h4 rfl | exact Cell.h5 rfl | (repeat (first | exact Cell.here rfl | apply Cell.there | apply Cell.app)))) rfl rfl rfl ?_
          refine XO_nil ?_
          refine at_D hD (by repeat (first | exact .refl | exact subL_nil | refine .keep ?_ | refine .drop ?_ | refine subL_add ?_)) ?_
          refine XD_two 3 5 rfl rfl (by kernel_rfl) ?_ ?_
          · skip
            refine XO_v0 (ev_max rfl rfl) rfl rfl rfl ?_
            refine XO_nil ?_
            refine at_D hD (by repeat (first | exact .refl | exact subL_nil | refine .keep ?_ | refine .drop ?_ | refine subL_add ?_)) ?_
            refine XD_two 4 5 rfl rfl (by kernel_rfl) ?_ ?_
            · skip
              refine XO_v0 (ev_rem rfl rfl (fun hg => by rw [maxI_one hbp]; omega)) rfl rfl rfl ?_
              refine XO_nil ?_
              refine at_D hD (by repeat (first | exact .refl | exact subL_nil | refine .keep ?_ | refine .drop ?_ | refine subL_add ?_)) ?_
              refine XD_one 5 rfl (by kernel_rfl) ?_
              refine XO_store rfl rfl szt_146 rfl rfl (by first | exact Upd.u0 | exact Upd.u1 | exact Upd.u2 | exact Upd.u3 | exact Upd.u4 | exact Upd.u5 | (repeat (first | exact Upd.here | apply Upd.there | apply upd_app))) rfl ?_
              refine XO_nil ?_
              refine at_D hD (by repeat (first | exact .refl | exact subL_nil | refine .keep ?_ | refine .drop ?_ | refine subL_add ?_)) ?_
              refine XD_one 6 rfl (by kernel_rfl) ?_
              refine XO_store rfl rfl szt_146 rfl rfl (by first | exact Upd.u0 | exact Upd.u1 | exact Upd.u2 | exact Upd.u3 | exact Upd.u4 | exact Upd.u5 | (repeat (first | exact Upd.here | apply Upd.there | apply upd_app))) rfl ?_
              refine XO_nil ?_
              refine at_D hD (by repeat (first | exact .refl | exact subL_nil | refine .keep ?_ | refine .drop ?_ | refine subL_add ?_)) ?_
              refine XD_done (by kernel_rfl) ?_
              refine at_noP ?_
              rw [show ((a : Int)).tmod (maxI (b : Int) 1) = ((a % b : Nat) : Int) by rw [maxI_one hbp, tmod_nat]]
              refine at_then ?_
              refine X_seq ?_
              refine X_region ?_
              refine XO_v0 (ev_load rfl sct_146 (fun hg => by first | exact Cell.h0 rfl | exact Cell.h1 rfl | exact Cell.h2 rfl | exact Cell.h3 rfl | exact Cell.h4 rfl | exact Cell.h5 rfl | (repeat (first | exact Cell.here rfl | apply Cell.there | apply Cell.app)))) rfl rfl rfl ?_
              refine XO_v0 (ev_cmp rfl rfl rfl) rfl rfl rfl ?_
              refine XO_nil ?_
              refine at_then ?_
              refine X_cond rfl (fun hc17 => ?_) (fun hc17 => ?_)
              · skip
                have hab : a % b = 0 := by have h := hc17; simp only [beq_iff_eq] at h; omega
                have hpre2 : (pre ++ [a]) ++ [b] <+: remN a0 b0 := by rw [hrem, remN_end ha0 (by omega) hab, List.append_assoc]; exact List.prefix_rfl
                refine X_seq ?_
                refine X_region ?_
                refine XO_v0 (ev_move rfl) rfl rfl rfl ?_
                refine XO_v0 (ev_load rfl sct_146 (fun hg => by first | exact Cell.h0 rfl | exact Cell.h1 rfl | exact Cell.h2 rfl | exact Cell.h3 rfl | exact Cell.h4 rfl | exact Cell.h5 rfl | (repeat (first | exact Cell.here rfl | apply Cell.there | apply Cell.app)))) rfl rfl rfl ?_
                refine XO_yield0 (vs := [_]) (Post := fun t I3 H3 => if t then J ((pre ++ [a]) ++ [b]) I3 H3 else Jx ((pre ++ [a]) ++ [b]) I3 H3) rfl rfl rfl rfl (hY (pre ++ [a]) b _ _ hpre2 (hI0.trans hI2) hJ1) ?_
                rintro t3 I3 H3 hI3 hP3
                refine XO_nil ?_
                refine at_then ?_
                refine X_ret ?_
                refine at_block_r ?_
                refine at_then_r ?_
                refine at_block_r ?_
                first
                | (refine at_ret0 rfl (fun w hw => ⟨_, I3, H3, rfl, hI1.trans (hI2.trans hI3), hw.drop, ?_⟩); cases t3 with | true => exact .inl (by rw [hrem, remN_end ha0 (by omega) hab]; simpa using hP3) | false => exact .inr ⟨_, hpre2, hP3⟩)
                | (refine at_norm (at_ret0 rfl (fun w hw => ⟨_, I2, H2, rfl, hI1.trans hI2, hw.drop, ?_⟩)); by_cases ha0 : a = 0; (obtain ⟨e1, e2⟩ := hno (by simp [conj, ha0]); subst e1; subst e2; subst ha0; exact .inl (by rw [hrem, remN_zero, List.append_nil]; exact hJk)); (have ht : t = false := (by simp [ha0] at hc10; exact hc10); subst ht; exact .inr ⟨_, rem_pre hrem ha0, hyes (by simp [conj]; exact ha0)⟩))
              · skip
                have hab : a % b ≠ 0 := by have h := hc17; simp only [beq_eq_false_iff_ne, ne_eq] at h; omega
                refine X_skip ?_
                refine at_block_n ?_
                exact at_metH2 rfl rfl rfl _ (remL 146 b1 b2 (b) (((a % b : Nat) : Int))) ⟨a % b, Nat.mod_lt _ hbp, b, a % b, pre ++ [a], rfl, rfl, rfl, hI1.trans hI2, hJ1, by rw [hrem, remN_step ha0 (by omega) hab, List.append_assoc]; rfl, by omega, by omega, by have := Nat.mod_lt a hbp; omega⟩ (.cons rfl (.cons rfl (.cons rfl .nil))) .refl
            · skip
              refine XO_store rfl rfl szt_146 rfl rfl (by first | exact Upd.u0 | exact Upd.u1 | exact Upd.u2 | exact Upd.u3 | exact Upd.u4 | exact Upd.u5 | (repeat (first | exact Upd.here | apply Upd.there | apply upd_app))) rfl ?_
              refine XO_nil ?_
              refine at_D hD (by repeat (first | exact .refl | exact subL_nil | refine .keep ?_ | refine .drop ?_ | refine subL_add ?_)) ?_
              refine XD_one 4 rfl (by kernel_rfl) ?_
              refine XO_v0 (ev_rem rfl rfl (fun hg => by rw [maxI_one hbp]; omega)) rfl rfl rfl ?_
              refine XO_nil ?_
              refine at_D hD (by repeat (first | exact .refl | exact subL_nil | refine .keep ?_ | refine .drop ?_ | refine subL_add ?_)) ?_
              refine XD_one 6 rfl (by kernel_rfl) ?_
              refine XO_store rfl rfl szt_146 rfl rfl (by first | exact Upd.u0 | exact Upd.u1 | exact Upd.u2 | exact Upd.u3 | exact Upd.u4 | exact Upd.u5 | (repeat (first | exact Upd.here | apply Upd.there | apply upd_app))) rfl ?_
              refine XO_nil ?_
              refine at_D hD (by repeat (first | exact .refl | exact subL_nil | refine .keep ?_ | refine .drop ?_ | refine subL_add ?_)) ?_
              refine XD_done (by kernel_rfl) ?_
              refine at_noP ?_
              rw [show ((a : Int)).tmod (maxI (b : Int) 1) = ((a % b : Nat) : Int) by rw [maxI_one hbp, tmod_nat]]
              refine at_then ?_
              refine X_seq ?_
              refine X_region ?_
              refine XO_v0 (ev_load rfl sct_146 (fun hg => by first | exact Cell.h0 rfl | exact Cell.h1 rfl | exact Cell.h2 rfl | exact Cell.h3 rfl | exact Cell.h4 rfl | exact Cell.h5 rfl | (repeat (first | exact Cell.here rfl | apply Cell.there | apply Cell.app)))) rfl rfl rfl ?_
              refine XO_v0 (ev_cmp rfl rfl rfl) rfl rfl rfl ?_
              refine XO_nil ?_
              refine at_then ?_
              refine X_cond rfl (fun hc17 => ?_) (fun hc17 => ?_)
              · skip
                have hab : a % b = 0 := by have h := hc17; simp only [beq_iff_eq] at h; omega
                have hpre2 : (pre ++ [a]) ++ [b] <+: remN a0 b0 := by rw [hrem, remN_end ha0 (by omega) hab, List.append_assoc]; exact List.prefix_rfl
                refine X_seq ?_
                refine X_region ?_
                refine XO_v0 (ev_move rfl) rfl rfl rfl ?_
                refine XO_v0 (ev_load rfl sct_146 (fun hg => by first | exact Cell.h0 rfl | exact Cell.h1 rfl | exact Cell.h2 rfl | exact Cell.h3 rfl | exact Cell.h4 rfl | exact Cell.h5 rfl | (repeat (first | exact Cell.here rfl | apply Cell.there | apply Cell.app)))) rfl rfl rfl ?_
                refine XO_yield0 (vs := [_]) (Post := fun t I3 H3 => if t then J ((pre ++ [a]) ++ [b]) I3 H3 else Jx ((pre ++ [a]) ++ [b]) I3 H3) rfl rfl rfl rfl (hY (pre ++ [a]) b _ _ hpre2 (hI0.trans hI2) hJ1) ?_
                rintro t3 I3 H3 hI3 hP3
                refine XO_nil ?_
                refine at_then ?_
                refine X_ret ?_
                refine at_block_r ?_
                refine at_then_r ?_
                refine at_block_r ?_
                first
                | (refine at_ret0 rfl (fun w hw => ⟨_, I3, H3, rfl, hI1.trans (hI2.trans hI3), hw.drop, ?_⟩); cases t3 with | true => exact .inl (by rw [hrem, remN_end ha0 (by omega) hab]; simpa using hP3) | false => exact .inr ⟨_, hpre2, hP3⟩)
                | (refine at_norm (at_ret0 rfl (fun w hw => ⟨_, I2, H2, rfl, hI1.trans hI2, hw.drop, ?_⟩)); by_cases ha0 : a = 0; (obtain ⟨e1, e2⟩ := hno (by simp [conj, ha0]); subst e1; subst e2; subst ha0; exact .inl (by rw [hrem, remN_zero, List.append_nil]; exact hJk)); (have ht : t = false := (by simp [ha0] at hc10; exact hc10); subst ht; exact .inr ⟨_, rem_pre hrem ha0, hyes (by simp [conj]; exact ha0)⟩))
              · skip
                have hab : a % b ≠ 0 := by have h := hc17; simp only [beq_eq_false_iff_ne, ne_eq] at h; omega
                refine X_skip ?_
                refine at_block_n ?_
                exact at_metH2 rfl rfl rfl _ (remL 146 b1 b2 (b) (((a % b : Nat) : Int))) ⟨a % b, Nat.mod_lt _ hbp, b, a % b, pre ++ [a], rfl, rfl, rfl, hI1.trans hI2, hJ1, by rw [hrem, remN_step ha0 (by omega) hab, List.append_assoc]; rfl, by omega, by omega, by have := Nat.mod_lt a hbp; omega⟩ (.cons rfl (.cons rfl (.cons rfl .nil))) .refl
          · skip
            refine XO_store rfl rfl szt_146 rfl rfl (by first | exact Upd.u0 | exact Upd.u1 | exact Upd.u2 | exact Upd.u3 | exact Upd.u4 | exact Upd.u5 | (repeat (first | exact Upd.here | apply Upd.there | apply upd_app))) rfl ?_
            refine XO_nil ?_
            refine at_D hD (by repeat (first | exact .refl | exact subL_nil | refine .keep ?_ | refine .drop ?_ | refine subL_add ?_)) ?_
            refine XD_one 3 rfl (by kernel_rfl) ?_
            refine XO_v0 (ev_max rfl rfl) rfl rfl rfl ?_
            refine XO_nil ?_
            refine at_D hD (by repeat (first | exact .refl | exact subL_nil | refine .keep ?_ | refine .drop ?_ | refine subL_add ?_)) ?_
            refine XD_one 4 rfl (by kernel_rfl) ?_
            refine XO_v0 (ev_rem rfl rfl (fun hg => by rw [maxI_one hbp]; omega)) rfl rfl rfl ?_
            refine XO_nil ?_
            refine at_D hD (by repeat (first | exact .refl | exact subL_nil | refine .keep ?_ | refine .drop ?_ | refine subL_add ?_)) ?_
            refine XD_one 6 rfl (by kernel_rfl) ?_
            refine XO_store rfl rfl szt_146 rfl rfl (by first | exact Upd.u0 | exact Upd.u1 | exact Upd.u2 | exact Upd.u3 | exact Upd.u4 | exact Upd.u5 | (repeat (first | exact Upd.here | apply Upd.there | apply upd_app))) rfl ?_
            refine XO_nil ?_
            refine at_D hD (by repeat (first | exact .refl | exact subL_nil | refine .keep ?_ | refine .drop ?_ | refine subL_add ?_)) ?_
            refine XD_done (by kernel_rfl) ?_
            refine at_noP ?_
            rw [show ((a : Int)).tmod (maxI (b : Int) 1) = ((a % b : Nat) : Int) by rw [maxI_one hbp, tmod_nat]]
            refine at_then ?_
            refine X_seq ?_
            refine X_region ?_
            refine XO_v0 (ev_load rfl sct_146 (fun hg => by first | exact Cell.h0 rfl | exact Cell.h1 rfl | exact Cell.h2 rfl | exact Cell.h3 rfl | exact Cell.h4 rfl | exact Cell.h5 rfl | (repeat (first | exact Cell.here rfl | apply Cell.there | apply Cell.app)))) rfl rfl rfl ?_
            refine XO_v0 (ev_cmp rfl rfl rfl) rfl rfl rfl ?_
            refine XO_nil ?_
            refine at_then ?_
            refine X_cond rfl (fun hc17 => ?_) (fun hc17 => ?_)
            · skip
              have hab : a % b = 0 := by have h := hc17; simp only [beq_iff_eq] at h; omega
              have hpre2 : (pre ++ [a]) ++ [b] <+: remN a0 b0 := by rw [hrem, remN_end ha0 (by omega) hab, List.append_assoc]; exact List.prefix_rfl
              refine X_seq ?_
              refine X_region ?_
              refine XO_v0 (ev_move rfl) rfl rfl rfl ?_
              refine XO_v0 (ev_load rfl sct_146 (fun hg => by first | exact Cell.h0 rfl | exact Cell.h1 rfl | exact Cell.h2 rfl | exact Cell.h3 rfl | exact Cell.h4 rfl | exact Cell.h5 rfl | (repeat (first | exact Cell.here rfl | apply Cell.there | apply Cell.app)))) rfl rfl rfl ?_
              refine XO_yield0 (vs := [_]) (Post := fun t I3 H3 => if t then J ((pre ++ [a]) ++ [b]) I3 H3 else Jx ((pre ++ [a]) ++ [b]) I3 H3) rfl rfl rfl rfl (hY (pre ++ [a]) b _ _ hpre2 (hI0.trans hI2) hJ1) ?_
              rintro t3 I3 H3 hI3 hP3
              refine XO_nil ?_
              refine at_then ?_
              refine X_ret ?_
              refine at_block_r ?_
              refine at_then_r ?_
              refine at_block_r ?_
              first
              | (refine at_ret0 rfl (fun w hw => ⟨_, I3, H3, rfl, hI1.trans (hI2.trans hI3), hw.drop, ?_⟩); cases t3 with | true => exact .inl (by rw [hrem, remN_end ha0 (by omega) hab]; simpa using hP3) | false => exact .inr ⟨_, hpre2, hP3⟩)
              | (refine at_norm (at_ret0 rfl (fun w hw => ⟨_, I2, H2, rfl, hI1.trans hI2, hw.drop, ?_⟩)); by_cases ha0 : a = 0; (obtain ⟨e1, e2⟩ := hno (by simp [conj, ha0]); subst e1; subst e2; subst ha0; exact .inl (by rw [hrem, remN_zero, List.append_nil]; exact hJk)); (have ht : t = false := (by simp [ha0] at hc10; exact hc10); subst ht; exact .inr ⟨_, rem_pre hrem ha0, hyes (by simp [conj]; exact ha0)⟩))
            · skip
              have hab : a % b ≠ 0 := by have h := hc17; simp only [beq_eq_false_iff_ne, ne_eq] at h; omega
              refine X_skip ?_
              refine at_block_n ?_
              exact at_metH2 rfl rfl rfl _ (remL 146 b1 b2 (b) (((a % b : Nat) : Int))) ⟨a % b, Nat.mod_lt _ hbp, b, a % b, pre ++ [a], rfl, rfl, rfl, hI1.trans hI2, hJ1, by rw [hrem, remN_step ha0 (by omega) hab, List.append_assoc]; rfl, by omega, by omega, by have := Nat.mod_lt a hbp; omega⟩ (.cons rfl (.cons rfl (.cons rfl .nil))) .refl
        · skip
          refine XO_v0 (ev_max rfl rfl) rfl rfl rfl ?_
          refine XO_nil ?_
          refine at_D hD (by repeat (first | exact .refl | exact subL_nil | refine .keep ?_ | refine .drop ?_ | refine subL_add ?_)) ?_
          refine XD_one 1 rfl (by kernel_rfl) ?_
          refine XO_v0 (ev_load rfl sct_146 (fun hg => by first | exact Cell.h0 rfl | exact Cell.h1 rfl | exact Cell.h2 rfl | exact Cell.h3 rfl | exact Cell.h4 rfl | exact Cell.h5 rfl | (repeat (first | exact Cell.here rfl | apply Cell.there | apply Cell.app)))) rfl rfl rfl ?_
          refine XO_nil ?_
          refine at_D hD (by repeat (first | exact .refl | exact subL_nil | refine .keep ?_ | refine .drop ?_ | refine subL_add ?_)) ?_
          refine XD_two 4 5 rfl rfl (by kernel_rfl) ?_ ?_
          · skip
            refine XO_v0 (ev_rem rfl rfl (fun hg => by rw [maxI_one hbp]; omega)) rfl rfl rfl ?_
            refine XO_nil ?_
            refine at_D hD (by repeat (first | exact .refl | exact subL_nil | refine .keep ?_ | refine .drop ?_ | refine subL_add ?_)) ?_
            refine XD_one 5 rfl (by kernel_rfl) ?_
            refine XO_store rfl rfl szt_146 rfl rfl (by first | exact Upd.u0 | exact Upd.u1 | exact Upd.u2 | exact Upd.u3 | exact Upd.u4 | exact Upd.u5 | (repeat (first | exact Upd.here | apply Upd.there | apply upd_app))) rfl ?_
            refine XO_nil ?_
            refine at_D hD (by repeat (first | exact .refl | exact subL_nil | refine .keep ?_ | refine .drop ?_ | refine subL_add ?_)) ?_
            refine XD_one 6 rfl (by kernel_rfl) ?_
            refine XO_store rfl rfl szt_146 rfl rfl (by first | exact Upd.u0 | exact Upd.u1 | exact Upd.u2 | exact Upd.u3 | exact Upd.u4 | exact Upd.u5 | (repeat (first | exact Upd.here | apply Upd.there | apply upd_app))) rfl ?_
            refine XO_nil ?_
            refine at_D hD (by repeat (first | exact .refl | exact subL_nil | refine .keep ?_ | refine .drop ?_ | refine subL_add ?_)) ?_
            refine XD_done (by kernel_rfl) ?_
            refine at_noP ?_
            rw [show ((a : Int)).tmod (maxI (b : Int) 1) = ((a % b : Nat) : Int) by rw [maxI_one hbp, tmod_nat]]
            refine at_then ?_
            refine X_seq ?_
            refine X_region ?_
            refine XO_v0 (ev_load rfl sct_146 (fun hg => by first | exact Cell.h0 rfl | exact Cell.h1 rfl | exact Cell.h2 rfl | exact Cell.h3 rfl | exact Cell.h4 rfl | exact Cell.h5 rfl | (repeat (first | exact Cell.here rfl | apply Cell.there | apply Cell.app)))) rfl rfl rfl ?_
            refine XO_v0 (ev_cmp rfl rfl rfl) rfl rfl rfl ?_
            refine XO_nil ?_
            refine at_then ?_
            refine X_cond rfl (fun hc17 => ?_) (fun hc17 => ?_)
            · skip
              have hab : a % b = 0 := by have h := hc17; simp only [beq_iff_eq] at h; omega
              have hpre2 : (pre ++ [a]) ++ [b] <+: remN a0 b0 := by rw [hrem, remN_end ha0 (by omega) hab, List.append_assoc]; exact List.prefix_rfl
              refine X_seq ?_
              refine X_region ?_
              refine XO_v0 (ev_move rfl) rfl rfl rfl ?_
              refine XO_v0 (ev_load rfl sct_146 (fun hg => by first | exact Cell.h0 rfl | exact Cell.h1 rfl | exact Cell.h2 rfl | exact Cell.h3 rfl | exact Cell.h4 rfl | exact Cell.h5 rfl | (repeat (first | exact Cell.here rfl | apply Cell.there | apply Cell.app)))) rfl rfl rfl ?_
              refine XO_yield0 (vs := [_]) (Post := fun t I3 H3 => if t then J ((pre ++ [a]) ++ [b]) I3 H3 else Jx ((pre ++ [a]) ++ [b]) I3 H3) rfl rfl rfl rfl (hY (pre ++ [a]) b _ _ hpre2 (hI0.trans hI2) hJ1) ?_
              rintro t3 I3 H3 hI3 hP3
              refine XO_nil ?_
              refine at_then ?_
              refine X_ret ?_
              refine at_block_r ?_
              refine at_then_r ?_
              refine at_block_r ?_
              first
              | (refine at_ret0 rfl (fun w hw => ⟨_, I3, H3, rfl, hI1.trans (hI2.trans hI3), hw.drop, ?_⟩); cases t3 with | true => exact .inl (by rw [hrem, remN_end ha0 (by omega) hab]; simpa using hP3) | false => exact .inr ⟨_, hpre2, hP3⟩)
              | (refine at_norm (at_ret0 rfl (fun w hw => ⟨_, I2, H2, rfl, hI1.trans hI2, hw.drop, ?_⟩)); by_cases ha0 : a = 0; (obtain ⟨e1, e2⟩ := hno (by simp [conj, ha0]); subst e1; subst e2; subst ha0; exact .inl (by rw [hrem, remN_zero, List.append_nil]; exact hJk)); (have ht : t = false := (by simp [ha0] at hc10; exact hc10); subst ht; exact .inr ⟨_, rem_pre hrem ha0, hyes (by simp [conj]; exact ha0)⟩))
            · skip
              have hab : a % b ≠ 0 := by have h := hc17; simp only [beq_eq_false_iff_ne, ne_eq] at h; omega
              refine X_skip ?_
              refine at_block_n ?_
              exact at_metH2 rfl rfl rfl _ (remL 146 b1 b2 (b) (((a % b : Nat) : Int))) ⟨a % b, Nat.mod_lt _ hbp, b, a % b, pre ++ [a], rfl, rfl, rfl, hI1.trans hI2, hJ1, by rw [hrem, remN_step ha0 (by omega) hab, List.append_assoc]; rfl, by omega, by omega, by have := Nat.mod_lt a hbp; omega⟩ (.cons rfl (.cons rfl (.cons rfl .nil))) .refl
          · skip
            refine XO_store rfl rfl szt_146 rfl rfl (by first | exact Upd.u0 | exact Upd.u1 | exact Upd.u2 | exact Upd.u3 | exact Upd.u4 | exact Upd.u5 | (repeat (first | exact Upd.here | apply Upd.there | apply upd_app))) rfl ?_
            refine XO_nil ?_
            refine at_D hD (by repeat (first | exact .refl | exact subL_nil | refine .keep ?_ | refine .drop ?_ | refine subL_add ?_)) ?_
            refine XD_one 4 rfl (by kernel_rfl) ?_
            refine XO_v0 (ev_rem rfl rfl (fun hg => by rw [maxI_one hbp]; omega)) rfl rfl rfl ?_
            refine XO_nil ?_
            refine at_D hD (by repeat (first | exact .refl | exact subL_nil | refine .keep ?_ | refine .drop ?_ | refine subL_add ?_)) ?_
            refine XD_one 6 rfl (by kernel_rfl) ?_
            refine XO_store rfl rfl szt_146 rfl rfl (by first | exact Upd.u0 | exact Upd.u1 | exact Upd.u2 | exact Upd.u3 | exact Upd.u4 | exact Upd.u5 | (repeat (first | exact Upd.here | apply Upd.there | apply upd_app))) rfl ?_
            refine XO_nil ?_
            refine at_D hD (by repeat (first | exact .refl | exact subL_nil | refine .keep ?_ | refine .drop ?_ | refine subL_add ?_)) ?_
            refine XD_done (by kernel_rfl) ?_
            refine at_noP ?_
            rw [show ((a : Int)).tmod (maxI (b : Int) 1) = ((a % b : Nat) : Int) by rw [maxI_one hbp, tmod_nat]]
            refine at_then ?_
            refine X_seq ?_
            refine X_region ?_
            refine XO_v0 (ev_load rfl sct_146 (fun hg => by first | exact Cell.h0 rfl | exact Cell.h1 rfl | exact Cell.h2 rfl | exact Cell.h3 rfl | exact Cell.h4 rfl | exact Cell.h5 rfl | (repeat (first | exact Cell.here rfl | apply Cell.there | apply Cell.app)))) rfl rfl rfl ?_
            refine XO_v0 (ev_cmp rfl rfl rfl) rfl rfl rfl ?_
            refine XO_nil ?_
            refine at_then ?_
            refine X_cond rfl (fun hc17 => ?_) (fun hc17 => ?_)
            · skip
              have hab : a % b = 0 := by have h := hc17; simp only [beq_iff_eq] at h; omega
              have hpre2 : (pre ++ [a]) ++ [b] <+: remN a0 b0 := by rw [hrem, remN_end ha0 (by omega) hab, List.append_assoc]; exact List.prefix_rfl
              refine X_seq ?_
              refine X_region ?_
              refine XO_v0 (ev_move rfl) rfl rfl rfl ?_
              refine XO_v0 (ev_load rfl sct_146 (fun hg => by first | exact Cell.h0 rfl | exact Cell.h1 rfl | exact Cell.h2 rfl | exact Cell.h3 rfl | exact Cell.h4 rfl | exact Cell.h5 rfl | (repeat (first | exact Cell.here rfl | apply Cell.there | apply Cell.app)))) rfl rfl rfl ?_
              refine XO_yield0 (vs := [_]) (Post := fun t I3 H3 => if t then J ((pre ++ [a]) ++ [b]) I3 H3 else Jx ((pre ++ [a]) ++ [b]) I3 H3) rfl rfl rfl rfl (hY (pre ++ [a]) b _ _ hpre2 (hI0.trans hI2) hJ1) ?_
              rintro t3 I3 H3 hI3 hP3
              refine XO_nil ?_
              refine at_then ?_
              refine X_ret ?_
              refine at_block_r ?_
              refine at_then_r ?_
              refine at_block_r ?_
              first
              | (refine at_ret0 rfl (fun w hw => ⟨_, I3, H3, rfl, hI1.trans (hI2.trans hI3), hw.drop, ?_⟩); cases t3 with | true => exact .inl (by rw [hrem, remN_end ha0 (by omega) hab]; simpa using hP3) | false => exact .inr ⟨_, hpre2, hP3⟩)
              | (refine at_norm (at_ret0 rfl (fun w hw => ⟨_, I2, H2, rfl, hI1.trans hI2, hw.drop, ?_⟩)); by_cases ha0 : a = 0; (obtain ⟨e1, e2⟩ := hno (by simp [conj, ha0]); subst e1; subst e2; subst ha0; exact .inl (by rw [hrem, remN_zero, List.append_nil]; exact hJk)); (have ht : t = false := (by simp [ha0] at hc10; exact hc10); subst ht; exact .inr ⟨_, rem_pre hrem ha0, hyes (by simp [conj]; exact ha0)⟩))
            · skip
              have hab : a % b ≠ 0 := by have h := hc17; simp only [beq_eq_false_iff_ne, ne_eq] at h; omega
              refine X_skip ?_
              refine at_block_n ?_
              exact at_metH2 rfl rfl rfl _ (remL 146 b1 b2 (b) (((a % b : Nat) : Int))) ⟨a % b, Nat.mod_lt _ hbp, b, a % b, pre ++ [a], rfl, rfl, rfl, hI1.trans hI2, hJ1, by rw [hrem, remN_step ha0 (by omega) hab, List.append_assoc]; rfl, by omega, by omega, by have := Nat.mod_lt a hbp; omega⟩ (.cons rfl (.cons rfl (.cons rfl .nil))) .refl
    · skip
      refine XO_v0 (ev_load rfl sct_146 (fun hg => by first | exact Cell.h0 rfl | exact Cell.h1 rfl | exact Cell.h2 rfl | exact Cell.h3 rfl | exact Cell.h4 rfl | exact Cell.h5 rfl | (repeat (first | exact Cell.here rfl | apply Cell.there | apply Cell.app)))) rfl rfl rfl ?_
      refine XO_nil ?_
      refine at_D hD (by repeat (first | exact .refl | exact subL_nil | refine .keep ?_ | refine .drop ?_ | refine subL_add ?_)) ?_
      refine XD_two 0 2 rfl rfl (by kernel_rfl) ?_ ?_
      · skip
        refine XO_v0 (ev_load rfl sct_146 (fun hg => by first | exact Cell.h0 rfl | exact Cell.h1 rfl | exact Cell.h2 rfl | exact Cell.h3 rfl | exact Cell.h4 rfl | exact Cell.h5 rfl | (repeat (first | exact Cell.here rfl | apply Cell.there | apply Cell.app)))) rfl rfl rfl ?_
        refine XO_nil ?_
        refine at_D hD (by repeat (first | exact .refl | exact subL_nil | refine .keep ?_ | refine .drop ?_ | refine subL_add ?_)) ?_
        refine XD_two 2 5 rfl rfl (by kernel_rfl) ?_ ?_
        · skip
          refine XO_v0 (ev_load rfl sct_146 (fun hg => by first | exact Cell.h0 rfl | exact Cell.h1 rfl | exact Cell.h2 rfl | exact Cell.h3 rfl | exact Cell.h4 rfl | exact Cell.h5 rfl | (repeat (first | exact Cell.here rfl | apply Cell.there | apply Cell.app)))) rfl rfl rfl ?_
          refine XO_nil ?_
          refine at_D hD (by repeat (first | exact .refl | exact subL_nil | refine .keep ?_ | refine .drop ?_ | refine subL_add ?_)) ?_
          refine XD_two 3 5 rfl rfl (by kernel_rfl) ?_ ?_
          · skip
            refine XO_v0 (ev_max rfl rfl) rfl rfl rfl ?_
            refine XO_nil ?_
            refine at_D hD (by repeat (first | exact .refl | exact subL_nil | refine .keep ?_ | refine .drop ?_ | refine subL_add ?_)) ?_
            refine XD_two 4 5 rfl rfl (by kernel_rfl) ?_ ?_
            · skip
              refine XO_v0 (ev_rem rfl rfl (fun hg => by rw [maxI_one hbp]; omega)) rfl rfl rfl ?_
              refine XO_nil ?_
              refine at_D hD (by repeat (first | exact .refl | exact subL_nil | refine .keep ?_ | refine .drop ?_ | refine subL_add ?_)) ?_
              refine XD_one 5 rfl (by kernel_rfl) ?_
              refine XO_store rfl rfl szt_146 rfl rfl (by first | exact Upd.u0 | exact Upd.u1 | exact Upd.u2 | exact Upd.u3 | exact Upd.u4 | exact Upd.u5 | (repeat (first | exact Upd.here | apply Upd.there | apply upd_app))) rfl ?_
              refine XO_nil ?_
              refine at_D hD (by repeat (first | exact .refl | exact subL_nil | refine .keep ?_ | refine .drop ?_ | refine subL_add ?_)) ?_
              refine XD_one 6 rfl (by kernel_rfl) ?_
              refine XO_store rfl rfl szt_146 rfl rfl (by first | exact Upd.u0 | exact Upd.u1 | exact Upd.u2 | exact Upd.u3 | exact Upd.u4 | exact Upd.u5 | (repeat (first | exact Upd.here | apply Upd.there | apply upd_app))) rfl ?_
              refine XO_nil ?_
              refine at_D hD (by repeat (first | exact .refl | exact subL_nil | refine .keep ?_ | refine .drop ?_ | refine subL_add ?_)) ?_
              refine XD_done (by kernel_rfl) ?_
              refine at_noP ?_
              rw [show ((a : Int)).tmod (maxI (b : Int) 1) = ((a % b : Nat) : Int) by rw [maxI_one hbp, tmod_nat]]
              refine at_then ?_
              refine X_seq ?_
              refine X_region ?_
              refine XO_v0 (ev_load rfl sct_146 (fun hg => by first | exact Cell.h0 rfl | exact Cell.h1 rfl | exact Cell.h2 rfl | exact Cell.h3 rfl | exact Cell.h4 rfl | exact Cell.h5 rfl | (repeat (first | exact Cell.here rfl | apply Cell.there | apply Cell.app)))) rfl rfl rfl ?_
              refine XO_v0 (ev_cmp rfl rfl rfl) rfl rfl rfl ?_
              refine XO_nil ?_
              refine at_then ?_
              refine X_cond rfl (fun hc17 => ?_) (fun hc17 => ?_)
              · skip
                have hab : a % b = 0 := by have h := hc17; simp only [beq_iff_eq] at h; omega
                have hpre2 : (pre ++ [a]) ++ [b] <+: remN a0 b0 := by rw [hrem, remN_end ha0 (by omega) hab, List.append_assoc]; exact List.prefix_rfl
                refine X_seq ?_
                refine X_region ?_
                refine XO_v0 (ev_move rfl) rfl rfl rfl ?_
                refine XO_v0 (ev_load rfl sct_146 (fun hg => by first | exact Cell.h0 rfl | exact Cell.h1 rfl | exact Cell.h2 rfl | exact Cell.h3 rfl | exact Cell.h4 rfl | exact Cell.h5 rfl | (repeat (first | exact Cell.here rfl | apply Cell.there | apply Cell.app)))) rfl rfl rfl ?_
                refine XO_yield0 (vs := [_]) (Post := fun t I3 H3 => if t then J ((pre ++ [a]) ++ [b]) I3 H3 else Jx ((pre ++ [a]) ++ [b]) I3 H3) rfl rfl rfl rfl (hY (pre ++ [a]) b _ _ hpre2 (hI0.trans hI2) hJ1) ?_
                rintro t3 I3 H3 hI3 hP3
                refine XO_nil ?_
                refine at_then ?_
                refine X_ret ?_
                refine at_block_r ?_
                refine at_then_r ?_
                refine at_block_r ?_
                first
                | (refine at_ret0 rfl (fun w hw => ⟨_, I3, H3, rfl, hI1.trans (hI2.trans hI3), hw.drop, ?_⟩); cases t3 with | true => exact .inl (by rw [hrem, remN_end ha0 (by omega) hab]; simpa using hP3) | false => exact .inr ⟨_, hpre2, hP3⟩)
                | (refine at_norm (at_ret0 rfl (fun w hw => ⟨_, I2, H2, rfl, hI1.trans hI2, hw.drop, ?_⟩)); by_cases ha0 : a = 0; (obtain ⟨e1, e2⟩ := hno (by simp [conj, ha0]); subst e1; subst e2; subst ha0; exact .inl (by rw [hrem, remN_zero, List.append_nil]; exact hJk)); (have ht : t = false := (by simp [ha0] at hc10; exact hc10); subst ht; exact .inr ⟨_, rem_pre hrem ha0, hyes (by simp [conj]; exact ha0)⟩))
              · skip
                have hab : a % b ≠ 0 := by have h := hc17; simp only [beq_eq_false_iff_ne, ne_eq] at h; omega
                refine X_skip ?_
                refine at_block_n ?_
                exact at_metH2 rfl rfl rfl _ (remL 146 b1 b2 (b) (((a % b : Nat) : Int))) ⟨a % b, Nat.mod_lt _ hbp, b, a % b, pre ++ [a], rfl, rfl, rfl, hI1.trans hI2, hJ1, by rw [hrem, remN_step ha0 (by omega) hab, List.append_assoc]; rfl, by omega, by omega, by have := Nat.mod_lt a hbp; omega⟩ (.cons rfl (.cons rfl (.cons rfl .nil))) .refl
            · skip
              refine XO_store rfl rfl szt_146 rfl rfl (by first | exact Upd.u0 | exact Upd.u1 | exact Upd.u2 | exact Upd.u3 | exact Upd.u4 | exact Upd.u5 | (repeat (first | exact Upd.here | apply Upd.there | apply upd_app))) rfl ?_
              refine XO_nil ?_
              refine at_D hD (by repeat (first | exact .refl | exact subL_nil | refine .keep ?_ | refine .drop ?_ | refine subL_add ?_)) ?_
              refine XD_one 4 rfl (by kernel_rfl) ?_
              refine XO_v0 (ev_rem rfl rfl (fun hg => by rw [maxI_one hbp]; omega)) rfl rfl rfl ?_
              refine XO_nil ?_
              refine at_D hD (by repeat (first | exact .refl | exact subL_nil | refine .keep ?_ | refine .drop ?_ | refine subL_add ?_)) ?_
              refine XD_one 6 rfl (by kernel_rfl) ?_
              refine XO_store rfl rfl szt_146 rfl rfl (by first | exact Upd.u0 | exact Upd.u1 | exact Upd.u2 | exact Upd.u3 | exact Upd.u4 | exact Upd.u5 | (repeat (first | exact Upd.here | apply Upd.there | apply upd_app))) rfl ?_
              refine XO_nil ?_
              refine at_D hD (by repeat (first | exact .refl | exact subL_nil | refine .keep ?_ | refine .drop ?_ | refine subL_add ?_)) ?_
              refine XD_done (by kernel_rfl) ?_
              refine at_noP ?_
              rw [show ((a : Int)).tmod (maxI (b : Int) 1) = ((a % b : Nat) : Int) by rw [maxI_one hbp, tmod_nat]]
              refine at_then ?_
              refine X_seq ?_
              refine X_region ?_
              refine XO_v0 (ev_load rfl sct_146 (fun hg => by first | exact Cell.h0 rfl | exact Cell.h1 rfl | exact Cell.h2 rfl | exact Cell.h3 rfl | exact Cell.h4 rfl | exact Cell.h5 rfl | (repeat (first | exact Cell.here rfl | apply Cell.there | apply Cell.app)))) rfl rfl rfl ?_
              refine XO_v0 (ev_cmp rfl rfl rfl) rfl rfl rfl ?_
              refine XO_nil ?_
              refine at_then ?_
              refine X_cond rfl (fun hc17 => ?_) (fun hc17 => ?_)
              · skip
                have hab : a % b = 0 := by have h := hc17; simp only [beq_iff_eq] at h; omega
                have hpre2 : (pre ++ [a]) ++ [b] <+: remN a0 b0 := by rw [hrem, remN_end ha0 (by omega) hab, List.append_assoc]; exact List.prefix_rfl
                refine X_seq ?_
                refine X_region ?_
                refine XO_v0 (ev_move rfl) rfl rfl rfl ?_
                refine XO_v0 (ev_load rfl sct_146 (fun hg => by first | exact Cell.h0 rfl | exact Cell.h1 rfl | exact Cell.h2 rfl | exact Cell.h3 rfl | exact Cell.h4 rfl | exact Cell.h5 rfl | (repeat (first | exact Cell.here rfl | apply Cell.there | apply Cell.app)))) rfl rfl rfl ?_
                refine XO_yield0 (vs := [_]) (Post := fun t I3 H3 => if t then J ((pre ++ [a]) ++ [b]) I3 H3 else Jx ((pre ++ [a]) ++ [b]) I3 H3) rfl rfl rfl rfl (hY (pre ++ [a]) b _ _ hpre2 (hI0.trans hI2) hJ1) ?_
                rintro t3 I3 H3 hI3 hP3
                refine XO_nil ?_
                refine at_then ?_
                refine X_ret ?_
                refine at_block_r ?_
                refine at_then_r ?_
                refine at_block_r ?_
                first
                | (refine at_ret0 rfl (fun w hw => ⟨_, I3, H3, rfl, hI1.trans (hI2.trans hI3), hw.drop, ?_⟩); cases t3 with | true => exact .inl (by rw [hrem, remN_end ha0 (by omega) hab]; simpa using hP3) | false => exact .inr ⟨_, hpre2, hP3⟩)
                | (refine at_norm (at_ret0 rfl (fun w hw => ⟨_, I2, H2, rfl, hI1.trans hI2, hw.drop, ?_⟩)); by_cases ha0 : a = 0; (obtain ⟨e1, e2⟩ := hno (by simp [conj, ha0]); subst e1; subst e2; subst ha0; exact .inl (by rw [hrem, remN_zero, List.append_nil]; exact hJk)); (have ht : t = false := (by simp [ha0] at hc10; exact hc10); subst ht; exact .inr ⟨_, rem_pre hrem ha0, hyes (by simp [conj]; exact ha0)⟩))
              · skip
                have hab : a % b ≠ 0 := by have h := hc17; simp only [beq_eq_false_iff_ne, ne_eq] at h; omega
                refine X_skip ?_
                refine at_block_n ?_
                exact at_metH2 rfl rfl rfl _ (remL 146 b1 b2 (b) (((a % b : Nat) : Int))) ⟨a % b, Nat.mod_lt _ hbp, b, a % b, pre ++ [a], rfl, rfl, rfl, hI1.trans hI2, hJ1, by rw [hrem, remN_step ha0 (by omega) hab, List.append_assoc]; rfl, by omega, by omega, by have := Nat.mod_lt a hbp; omega⟩ (.cons rfl (.cons rfl (.cons rfl .nil))) .refl
          · skip
            refine XO_store rfl rfl szt_146 rfl rfl (by first | exact Upd.u0 | exact Upd.u1 | exact Upd.u2 | exact Upd.u3 | exact Upd.u4 | exact Upd.u5 | (repeat (first | exact Upd.here | apply Upd.there | apply upd_app))) rfl ?_
            refine XO_nil ?_
            refine at_D hD (by repeat (first | exact .refl | exact subL_nil | refine .keep ?_ | refine .drop ?_ | refine subL_add ?_)) ?_
            refine XD_one 3 rfl (by kernel_rfl) ?_
            refine XO_v0 (ev_max rfl rfl) rfl rfl rfl ?_
            refine XO_nil ?_
            refine at_D hD (by repeat (first | exact .refl | exact subL_nil | refine .keep ?_ | refine .drop ?_ | refine subL_add ?_)) ?_
            refine XD_one 4 rfl (by kernel_rfl) ?_
            refine XO_v0 (ev_rem rfl rfl (fun hg => by rw [maxI_one hbp]; omega)) rfl rfl rfl ?_
            refine XO_nil ?_
            refine at_D hD (by repeat (first | exact .refl | exact subL_nil | refine .keep ?_ | refine .drop ?_ | refine subL_add ?_)) ?_
            refine XD_one 6 rfl (by kernel_rfl) ?_
            refine XO_store rfl rfl szt_146 rfl rfl (by first | exact Upd.u0 | exact Upd.u1 | exact Upd.u2 | exact Upd.u3 | exact Upd.u4 | exact Upd.u5 | (repeat (first | exact Upd.here | apply Upd.there | apply upd_app))) rfl ?_
            refine XO_nil ?_
            refine at_D hD (by repeat (first | exact .refl | exact subL_nil | refine .keep ?_ | refine .drop ?_ | refine subL_add ?_)) ?_
            refine XD_done (by kernel_rfl) ?_
            refine at_noP ?_
            rw [show ((a : Int)).tmod (maxI (b : Int) 1) = ((a % b : Nat) : Int) by rw [maxI_one hbp, tmod_nat]]
            refine at_then ?_
            refine X_seq ?_
            refine X_region ?_
            refine XO_v0 (ev_load rfl sct_146 (fun hg => by first | exact Cell.h0 rfl | exact Cell.h1 rfl | exact Cell.h2 rfl | exact Cell.h3 rfl | exact Cell.h4 rfl | exact Cell.h5 rfl | (repeat (first | exact Cell.here rfl | apply Cell.there | apply Cell.app)))) rfl rfl rfl ?_
            refine XO_v0 (ev_cmp rfl rfl rfl) rfl rfl rfl ?_
            refine XO_nil ?_
            refine at_then ?_
            refine X_cond rfl (fun hc17 => ?_) (fun hc17 => ?_)
            · skip
              have hab : a % b = 0 := by have h := hc17; simp only [beq_iff_eq] at h; omega
              have hpre2 : (pre ++ [a]) ++ [b] <+: remN a0 b0 := by rw [hrem, remN_end ha0 (by omega) hab, List.append_assoc]; exact List.prefix_rfl
              refine X_seq ?_
              refine X_region ?_
              refine XO_v0 (ev_move rfl) rfl rfl rfl ?_
              refine XO_v0 (ev_load rfl sct_146 (fun hg => by first | exact Cell.h0 rfl | exact Cell.h1 rfl | exact Cell.h2 rfl | exact Cell.h3 rfl | exact Cell.h4 rfl | exact Cell.h5 rfl | (repeat (first | exact Cell.here rfl | apply Cell.there | apply Cell.app)))) rfl rfl rfl ?_
              refine XO_yield0 (vs := [_]) (Post := fun t I3 H3 => if t then J ((pre ++ [a]) ++ [b]) I3 H3 else Jx ((pre ++ [a]) ++ [b]) I3 H3) rfl rfl rfl rfl (hY (pre ++ [a]) b _ _ hpre2 (hI0.trans hI2) hJ1) ?_
              rintro t3 I3 H3 hI3 hP3
              refine XO_nil ?_
              refine at_then ?_
              refine X_ret ?_
              refine at_block_r ?_
              refine at_then_r ?_
              refine at_block_r ?_
              first
              | (refine at_ret0 rfl (fun w hw => ⟨_, I3, H3, rfl, hI1.trans (hI2.trans hI3), hw.drop, ?_⟩); cases t3 with | true => exact .inl (by rw [hrem, remN_end ha0 (by omega) hab]; simpa using hP3) | false => exact .inr ⟨_, hpre2, hP3⟩)
              | (refine at_norm (at_ret0 rfl (fun w hw => ⟨_, I2, H2, rfl, hI1.trans hI2, hw.drop, ?_⟩)); by_cases ha0 : a = 0; (obtain ⟨e1, e2⟩ := hno (by simp [conj, ha0]); subst e1; subst e2; subst ha0; exact .inl (by rw [hrem, remN_zero, List.append_nil]; exact hJk)); (have ht : t = false := (by simp [ha0] at hc10; exact hc10); subst ht; exact .inr ⟨_, rem_pre hrem ha0, hyes (by simp [conj]; exact ha0)⟩))
            · skip
              have hab : a % b ≠ 0 := by have h := hc17; simp only [beq_eq_false_iff_ne, ne_eq] at h; omega
              refine X_skip ?_
              refine at_block_n ?_
              exact at_metH2 rfl rfl rfl _ (remL 146 b1 b2 (b) (((a % b : Nat) : Int))) ⟨a % b, Nat.mod_lt _ hbp, b, a % b, pre ++ [a], rfl, rfl, rfl, hI1.trans hI2, hJ1, by rw [hrem, remN_step ha0 (by omega) hab, List.append_assoc]; rfl, by omega, by omega, by have := Nat.mod_lt a hbp; omega⟩ (.cons rfl (.cons rfl (.cons rfl .nil))) .refl
        · skip
          refine XO_store rfl rfl szt_146 rfl rfl (by first | exact Upd.u0 | exact Upd.u1 | exact Upd.u2 | exact Upd.u3 | exact Upd.u4 | exact Upd.u5 | (repeat (first | exact Upd.here | apply Upd.there | apply upd_app))) rfl ?_
          refine XO_nil ?_
          refine at_D hD (by repeat (first | exact .refl | exact subL_nil | refine .keep ?_ | refine .drop ?_ | refine subL_add ?_)) ?_
          refine XD_one 2 rfl (by kernel_rfl) ?_
          refine XO_v0 (ev_load rfl sct_146 (fun hg => by first | exact Cell.h0 rfl | exact Cell.h1 rfl | exact Cell.h2 rfl | exact Cell.h3 rfl | exact Cell.h4 rfl | exact Cell.h5 rfl | (repeat (first | exact Cell.here rfl | apply Cell.there | apply Cell.app)))) rfl rfl rfl ?_
          refine XO_nil ?_
          refine at_D hD (by repeat (first | exact .refl | exact subL_nil | refine .keep ?_ | refine .drop ?_ | refine subL_add ?_)) ?_
          refine XD_one 3 rfl (by kernel_rfl) ?_
          refine XO_v0 (ev_max rfl rfl) rfl rfl rfl ?_
          refine XO_nil ?_
          refine at_D hD (by repeat (first | exact .refl | exact subL_nil | refine .keep ?_ | refine .drop ?_ | refine subL_add ?_)) ?_
          refine XD_one 4 rfl (by kernel_rfl) ?_
          refine XO_v0 (ev_rem rfl rfl (fun hg => by rw [maxI_one hbp]; omega)) rfl rfl rfl ?_
          refine XO_nil ?_
          refine at_D hD (by repeat (first | exact .refl | exact subL_nil | refine .keep ?_ | refine .drop ?_ | refine subL_add ?_)) ?_
          refine XD_one 6 rfl (by kernel_rfl) ?_
          refine XO_store rfl rfl szt_146 rfl rfl (by first | exact Upd.u0 | exact Upd.u1 | exact Upd.u2 | exact Upd.u3 | exact Upd.u4 | exact Upd.u5 | (repeat (first | exact Upd.here | apply Upd.there | apply upd_app))) rfl ?_
          refine XO_nil ?_
          refine at_D hD (by repeat (first | exact .refl | exact subL_nil | refine .keep ?_ | refine .drop ?_ | refine subL_add ?_)) ?_
          refine XD_done (by kernel_rfl) ?_
          refine at_noP ?_
          rw [show ((a : Int)).tmod (maxI (b : Int) 1) = ((a % b : Nat) : Int) by rw [maxI_one hbp, tmod_nat]]
          refine at_then ?_
          refine X_seq ?_
          refine X_region ?_
          refine XO_v0 (ev_load rfl sct_146 (fun hg => by first | exact Cell.h0 rfl | exact Cell.h1 rfl | exact Cell.h2 rfl | exact Cell.h3 rfl | exact Cell.h4 rfl | exact Cell.h5 rfl | (repeat (first | exact Cell.here rfl | apply Cell.there | apply Cell.app)))) rfl rfl rfl ?_
          refine XO_v0 (ev_cmp rfl rfl rfl) rfl rfl rfl ?_
          refine XO_nil ?_
          refine at_then ?_
          refine X_cond rfl (fun hc17 => ?_) (fun hc17 => ?_)
          · skip
            have hab : a % b = 0 := by have h := hc17; simp only [beq_iff_eq] at h; omega
            have hpre2 : (pre ++ [a]) ++ [b] <+: remN a0 b0 := by rw [hrem, remN_end ha0 (by omega) hab, List.append_assoc]; exact List.prefix_rfl
            refine X_seq ?_
            refine X_region ?_
            refine XO_v0 (ev_move rfl) rfl rfl rfl ?_
            refine XO_v0 (ev_load rfl sct_146 (fun hg => by first | exact Cell.h0 rfl | exact Cell.h1 rfl | exact Cell.h2 rfl | exact Cell.h3 rfl | exact Cell.h4 rfl | exact Cell.h5 rfl | (repeat (first | exact Cell.here rfl | apply Cell.there | apply Cell.app)))) rfl rfl rfl ?_
            refine XO_yield0 (vs := [_]) (Post := fun t I3 H3 => if t then J ((pre ++ [a]) ++ [b]) I3 H3 else Jx ((pre ++ [a]) ++ [b]) I3 H3) rfl rfl rfl rfl (hY (pre ++ [a]) b _ _ hpre2 (hI0.trans hI2) hJ1) ?_
            rintro t3 I3 H3 hI3 hP3
            refine XO_nil ?_
            refine at_then ?_
            refine X_ret ?_
            refine at_block_r ?_
            refine at_then_r ?_
            refine at_block_r ?_
            first
            | (refine at_ret0 rfl (fun w hw => ⟨_, I3, H3, rfl, hI1.trans (hI2.trans hI3), hw.drop, ?_⟩); cases t3 with | true => exact .inl (by rw [hrem, remN_end ha0 (by omega) hab]; simpa using hP3) | false => exact .inr ⟨_, hpre2, hP3⟩)
            | (refine at_norm (at_ret0 rfl (fun w hw => ⟨_, I2, H2, rfl, hI1.trans hI2, hw.drop, ?_⟩)); by_cases ha0 : a = 0; (obtain ⟨e1, e2⟩ := hno (by simp [conj, ha0]); subst e1; subst e2; subst ha0; exact .inl (by rw [hrem, remN_zero, List.append_nil]; exact hJk)); (have ht : t = false := (by simp [ha0] at hc10; exact hc10); subst ht; exact .inr ⟨_, rem_pre hrem ha0, hyes (by simp [conj]; exact ha0)⟩))
          · skip
            have hab : a % b ≠ 0 := by have h := hc17; simp only [beq_eq_false_iff_ne, ne_eq] at h; omega
            refine X_skip ?_
            refine at_block_n ?_
            exact at_metH2 rfl rfl rfl _ (remL 146 b1 b2 (b) (((a % b : Nat) : Int))) ⟨a % b, Nat.mod_lt _ hbp, b, a % b, pre ++ [a], rfl, rfl, rfl, hI1.trans hI2, hJ1, by rw [hrem, remN_step ha0 (by omega) hab, List.append_assoc]; rfl, by omega, by omega, by have := Nat.mod_lt a hbp; omega⟩ (.cons rfl (.cons rfl (.cons rfl .nil))) .refl
      · skip
        refine XO_v0 (ev_load rfl sct_146 (fun hg => by first | exact Cell.h0 rfl | exact Cell.h1 rfl | exact Cell.h2 rfl | exact Cell.h3 rfl | exact Cell.h4 rfl | exact Cell.h5 rfl | (repeat (first | exact Cell.here rfl | apply Cell.there | apply Cell.app)))) rfl rfl rfl ?_
        refine XO_nil ?_
        refine at_D hD (by repeat (first | exact .refl | exact subL_nil | refine .keep ?_ | refine .drop ?_ | refine subL_add ?_)) ?_
        refine XD_two 0 3 rfl rfl (by kernel_rfl) ?_ ?_
        · skip
          refine XO_v0 (ev_load rfl sct_146 (fun hg => by first | exact Cell.h0 rfl | exact Cell.h1 rfl | exact Cell.h2 rfl | exact Cell.h3 rfl | exact Cell.h4 rfl | exact Cell.h5 rfl | (repeat (first | exact Cell.here rfl | apply Cell.there | apply Cell.app)))) rfl rfl rfl ?_
          refine XO_nil ?_
          refine at_D hD (by repeat (first | exact .refl | exact subL_nil | refine .keep ?_ | refine .drop ?_ | refine subL_add ?_)) ?_
          refine XD_two 3 5 rfl rfl (by kernel_rfl) ?_ ?_
          · skip
            refine XO_v0 (ev_max rfl rfl) rfl rfl rfl ?_
            refine XO_nil ?_
            refine at_D hD (by repeat (first | exact .refl | exact subL_nil | refine .keep ?_ | refine .drop ?_ | refine subL_add ?_)) ?_
            refine XD_two 4 5 rfl rfl (by kernel_rfl) ?_ ?_
            · skip
              refine XO_v0 (ev_rem rfl rfl (fun hg => by rw [maxI_one hbp]; omega)) rfl rfl rfl ?_
              refine XO_nil ?_
              refine at_D hD (by repeat (first | exact .refl | exact subL_nil | refine .keep ?_ | refine .drop ?_ | refine subL_add ?_)) ?_
              refine XD_one 5 rfl (by kernel_rfl) ?_
              refine XO_store rfl rfl szt_146 rfl rfl (by first | exact Upd.u0 | exact Upd.u1 | exact Upd.u2 | exact Upd.u3 | exact Upd.u4 | exact Upd.u5 | (repeat (first | exact Upd.here | apply Upd.there | apply upd_app))) rfl ?_
              refine XO_nil ?_
              refine at_D hD (by repeat (first | exact .refl | exact subL_nil | refine .keep ?_ | refine .drop ?_ | refine subL_add ?_)) ?_
              refine XD_one 6 rfl (by kernel_rfl) ?_
              refine XO_store rfl rfl szt_146 rfl rfl (by first | exact Upd.u0 | exact Upd.u1 | exact Upd.u2 | exact Upd.u3 | exact Upd.u4 | exact Upd.u5 | (repeat (first | exact Upd.here | apply Upd.there | apply upd_app))) rfl ?_
              refine XO_nil ?_
              refine at_D hD (by repeat (first | exact .refl | exact subL_nil | refine .keep ?_ | refine .drop ?_ | refine subL_add ?_)) ?_
              refine XD_done (by kernel_rfl) ?_
              refine at_noP ?_
              rw [show ((a : Int)).tmod (maxI (b : Int) 1) = ((a % b : Nat) : Int) by rw [maxI_one hbp, tmod_nat]]
              refine at_then ?_
              refine X_seq ?_
              refine X_region ?_
              refine XO_v0 (ev_load rfl sct_146 (fun hg => by first | exact Cell.h0 rfl | exact Cell.h1 rfl | exact Cell.h2 rfl | exact Cell.h3 rfl | exact Cell.h4 rfl | exact Cell.h5 rfl | (repeat (first | exact Cell.here rfl | apply Cell.there | apply Cell.app)))) rfl rfl rfl ?_
              refine XO_v0 (ev_cmp rfl rfl rfl) rfl rfl rfl ?_
              refine XO_nil ?_
              refine at_then ?_
              refine X_cond rfl (fun hc17 => ?_) (fun hc17 => ?_)
              · skip
                have hab : a % b = 0 := by have h := hc17; simp only [beq_iff_eq] at h; omega
                have hpre2 : (pre ++ [a]) ++ [b] <+: remN a0 b0 := by rw [hrem, remN_end ha0 (by omega) hab, List.append_assoc]; exact List.prefix_rfl
                refine X_seq ?_
                refine X_region ?_
                refine XO_v0 (ev_move rfl) rfl rfl rfl ?_
                refine XO_v0 (ev_load rfl sct_146 (fun hg => by first | exact Cell.h0 rfl | exact Cell.h1 rfl | exact Cell.h2 rfl | exact Cell.h3 rfl | exact Cell.h4 rfl | exact Cell.h5 rfl | (repeat (first | exact Cell.here rfl | apply Cell.there | apply Cell.app)))) rfl rfl rfl ?_
                refine XO_yield0 (vs := [_]) (Post := fun t I3 H3 => if t then J ((pre ++ [a]) ++ [b]) I3 H3 else Jx ((pre ++ [a]) ++ [b]) I3 H3) rfl rfl rfl rfl (hY (pre ++ [a]) b _ _ hpre2 (hI0.trans hI2) hJ1) ?_
                rintro t3 I3 H3 hI3 hP3
                refine XO_nil ?_
                refine at_then ?_
                refine X_ret ?_
                refine at_block_r ?_
                refine at_then_r ?_
                refine at_block_r ?_
                first
                | (refine at_ret0 rfl (fun w hw => ⟨_, I3, H3, rfl, hI1.trans (hI2.trans hI3), hw.drop, ?_⟩); cases t3 with | true => exact .inl (by rw [hrem, remN_end ha0 (by omega) hab]; simpa using hP3) | false => exact .inr ⟨_, hpre2, hP3⟩)
                | (refine at_norm (at_ret0 rfl (fun w hw => ⟨_, I2, H2, rfl, hI1.trans hI2, hw.drop, ?_⟩)); by_cases ha0 : a = 0; (obtain ⟨e1, e2⟩ := hno (by simp [conj, ha0]); subst e1; subst e2; subst ha0; exact .inl (by rw [hrem, remN_zero, List.append_nil]; exact hJk)); (have ht : t = false := (by simp [ha0] at hc10; exact hc10); subst ht; exact .inr ⟨_, rem_pre hrem ha0, hyes (by simp [conj]; exact ha0)⟩))
              · skip
                have hab : a % b ≠ 0 := by have h := hc17; simp only [beq_eq_false_iff_ne, ne_eq] at h; omega
                refine X_skip ?_
                refine at_block_n ?_
                exact at_metH2 rfl rfl rfl _ (remL 146 b1 b2 (b) (((a % b : Nat) : Int))) ⟨a % b, Nat.mod_lt _ hbp, b, a % b, pre ++ [a], rfl, rfl, rfl, hI1.trans hI2, hJ1, by rw [hrem, remN_step ha0 (by omega) hab, List.append_assoc]; rfl, by omega, by omega, by have := Nat.mod_lt a hbp; omega⟩ (.cons rfl (.cons rfl (.cons rfl .nil))) .refl
            · skip
              refine XO_store rfl rfl szt_146 rfl rfl (by first | exact Upd.u0 | exact Upd.u1 | exact Upd.u2 | exact Upd.u3 | exact Upd.u4 | exact Upd.u5 | (repeat (first | exact Upd.here | apply Upd.there | apply upd_app))) rfl ?_
              refine XO_nil ?_
              refine at_D hD (by repeat (first | exact .refl | exact subL_nil | refine .keep ?_ | refine .drop ?_ | refine subL_add ?_)) ?_
              refine XD_one 4 rfl (by kernel_rfl) ?_
              refine XO_v0 (ev_rem rfl rfl (fun hg => by rw [maxI_one hbp]; omega)) rfl rfl rfl ?_
              refine XO_nil ?_
              refine at_D hD (by repeat (first | exact .refl | exact subL_nil | refine .keep ?_ | refine .drop ?_ | refine subL_add ?_)) ?_
              refine XD_one 6 rfl (by kernel_rfl) ?_
              refine XO_store rfl rfl szt_146 rfl rfl (by first | exact Upd.u0 | exact Upd.u1 | exact Upd.u2 | exact Upd.u3 | exact Upd.u4 | exact Upd.u5 | (repeat (first | exact Upd.here | apply Upd.there | apply upd_app))) rfl ?_
              refine XO_nil ?_
              refine at_D hD (by repeat (first | exact .refl | exact subL_nil | refine .keep ?_ | refine .drop ?_ | refine subL_add ?_)) ?_
              refine XD_done (by kernel_rfl) ?_
              refine at_noP ?_
              rw [show ((a : Int)).tmod (maxI (b : Int) 1) = ((a % b : Nat) : Int) by rw [maxI_one hbp, tmod_nat]]
              refine at_then ?_
              refine X_seq ?_
              refine X_region ?_
              refine XO_v0 (ev_load rfl sct_146 (fun hg => by first | exact Cell.h0 rfl | exact Cell.h1 rfl | exact Cell.h2 rfl | exact Cell.h3 rfl | exact Cell.h4 rfl | exact Cell.h5 rfl | (repeat (first | exact Cell.here rfl | apply Cell.there | apply Cell.app)))) rfl rfl rfl ?_
              refine XO_v0 (ev_cmp rfl rfl rfl) rfl rfl rfl ?_
              refine XO_nil ?_
              refine at_then ?_
              refine X_cond rfl (fun hc17 => ?_) (fun hc17 => ?_)
              · skip
                have hab : a % b = 0 := by have h := hc17; simp only [beq_iff_eq] at h; omega
                have hpre2 : (pre ++ [a]) ++ [b] <+: remN a0 b0 := by rw [hrem, remN_end ha0 (by omega) hab, List.append_assoc]; exact List.prefix_rfl
                refine X_seq ?_
                refine X_region ?_
                refine XO_v0 (ev_move rfl) rfl rfl rfl ?_
                refine XO_v0 (ev_load rfl sct_146 (fun hg => by first | exact Cell.h0 rfl | exact Cell.h1 rfl | exact Cell.h2 rfl | exact Cell.h3 rfl | exact Cell.h4 rfl | exact Cell.h5 rfl | (repeat (first | exact Cell.here rfl | apply Cell.there | apply Cell.app)))) rfl rfl rfl ?_
                refine XO_yield0 (vs := [_]) (Post := fun t I3 H3 => if t then J ((pre ++ [a]) ++ [b]) I3 H3 else Jx ((pre ++ [a]) ++ [b]) I3 H3) rfl rfl rfl rfl (hY (pre ++ [a]) b _ _ hpre2 (hI0.trans hI2) hJ1) ?_
                rintro t3 I3 H3 hI3 hP3
                refine XO_nil ?_
                refine at_then ?_
                refine X_ret ?_
                refine at_block_r ?_
                refine at_then_r ?_
                refine at_block_r ?_
                first
                | (refine at_ret0 rfl (fun w hw => ⟨_, I3, H3, rfl, hI1.trans (hI2.trans hI3), hw.drop, ?_⟩); cases t3 with | true => exact .inl (by rw [hrem, remN_end ha0 (by omega) hab]; simpa using hP3) | false => exact .inr ⟨_, hpre2, hP3⟩)
                | (refine at_norm (at_ret0 rfl (fun w hw => ⟨_, I2, H2, rfl, hI1.trans hI2, hw.drop, ?_⟩)); by_cases ha0 : a = 0; (obtain ⟨e1, e2⟩ := hno (by simp [conj, ha0]); subst e1; subst e2; subst ha0; exact .inl (by rw [hrem, remN_zero, List.append_nil]; exact hJk)); (have ht : t = false := (by simp [ha0] at hc10; exact hc10); subst ht; exact .inr ⟨_, rem_pre hrem ha0, hyes (by simp [conj]; exact ha0)⟩))
              · skip
                have hab : a % b ≠ 0 := by have h := hc17; simp only [beq_eq_false_iff_ne, ne_eq] at h; omega
                refine X_skip ?_
                refine at_block_n ?_
                exact at_metH2 rfl rfl rfl _ (remL 146 b1 b2 (b) (((a % b : Nat) : Int))) ⟨a % b, Nat.mod_lt _ hbp, b, a % b, pre ++ [a], rfl, rfl, rfl, hI1.trans hI2, hJ1, by rw [hrem, remN_step ha0 (by omega) hab, List.append_assoc]; rfl, by omega, by omega, by have := Nat.mod_lt a hbp; omega⟩ (.cons rfl (.cons rfl (.cons rfl .nil))) .refl
          · skip
            refine XO_store rfl rfl szt_146 rfl rfl (by first | exact Upd.u0 | exact Upd.u1 | exact Upd.u2 | exact Upd.u3 | exact Upd.u4 | exact Upd.u5 | (repeat (first | exact Upd.here | apply Upd.there | apply upd_app))) rfl ?_
            refine XO_nil ?_
            refine at_D hD (by repeat (first | exact .refl | exact subL_nil | refine .keep ?_ | refine .drop ?_ | refine subL_add ?_)) ?_
            refine XD_one 3 rfl (by kernel_rfl) ?_
            refine XO_v0 (ev_max rfl rfl) rfl rfl rfl ?_
            refine XO_nil ?_
            refine at_D hD (by repeat (first | exact .refl | exact subL_nil | refine .keep ?_ | refine .drop ?_ | refine subL_add ?_)) ?_
            refine XD_one 4 rfl (by kernel_rfl) ?_
            refine XO_v0 (ev_rem rfl rfl (fun hg => by rw [maxI_one hbp]; omega)) rfl rfl rfl ?_
            refine XO_nil ?_
            refine at_D hD (by repeat (first | exact .refl | exact subL_nil | refine .keep ?_ | refine .drop ?_ | refine subL_add ?_)) ?_
            refine XD_one 6 rfl (by kernel_rfl) ?_
            refine XO_store rfl rfl szt_146 rfl rfl (by first | exact Upd.u0 | exact Upd.u1 | exact Upd.u2 | exact Upd.u3 | exact Upd.u4 | exact Upd.u5 | (repeat (first | exact Upd.here | apply Upd.there | apply upd_app))) rfl ?_
            refine XO_nil ?_
            refine at_D hD (by repeat (first | exact .refl | exact subL_nil | refine .keep ?_ | refine .drop ?_ | refine subL_add ?_)) ?_
            refine XD_done (by kernel_rfl) ?_
            refine at_noP ?_
            rw [show ((a : Int)).tmod (maxI (b : Int) 1) = ((a % b : Nat) : Int) by rw [maxI_one hbp, tmod_nat]]
            refine at_then ?_
            refine X_seq ?_
            refine X_region ?_
            refine XO_v0 (ev_load rfl sct_146 (fun hg => by first | exact Cell.h0 rfl | exact Cell.h1 rfl | exact Cell.h2 rfl | exact Cell.h3 rfl | exact Cell.h4 rfl | exact Cell.h5 rfl | (repeat (first | exact Cell.here rfl | apply Cell.there | apply Cell.app)))) rfl rfl rfl ?_
            refine XO_v0 (ev_cmp rfl rfl rfl) rfl rfl rfl ?_
            refine XO_nil ?_
            refine at_then ?_
            refine X_cond rfl (fun hc17 => ?_) (fun hc17 => ?_)
            · skip
              have hab : a % b = 0 := by have h := hc17; simp only [beq_iff_eq] at h; omega
              have hpre2 : (pre ++ [a]) ++ [b] <+: remN a0 b0 := by rw [hrem, remN_end ha0 (by omega) hab, List.append_assoc]; exact List.prefix_rfl
              refine X_seq ?_
              refine X_region ?_
              refine XO_v0 (ev_move rfl) rfl rfl rfl ?_
              refine XO_v0 (ev_load rfl sct_146 (fun hg => by first | exact Cell.h0 rfl | exact Cell.h1 rfl | exact Cell.h2 rfl | exact Cell.h3 rfl | exact Cell.h4 rfl | exact Cell.h5 rfl | (repeat (first | exact Cell.here rfl | apply Cell.there | apply Cell.app)))) rfl rfl rfl ?_
              refine XO_yield0 (vs := [_]) (Post := fun t I3 H3 => if t then J ((pre ++ [a]) ++ [b]) I3 H3 else Jx ((pre ++ [a]) ++ [b]) I3 H3) rfl rfl rfl rfl (hY (pre ++ [a]) b _ _ hpre2 (hI0.trans hI2) hJ1) ?_
              rintro t3 I3 H3 hI3 hP3
              refine XO_nil ?_
              refine at_then ?_
              refine X_ret ?_
              refine at_block_r ?_
              refine at_then_r ?_
              refine at_block_r ?_
              first
              | (refine at_ret0 rfl (fun w hw => ⟨_, I3, H3, rfl, hI1.trans (hI2.trans hI3), hw.drop, ?_⟩); cases t3 with | true => exact .inl (by rw [hrem, remN_end ha0 (by omega) hab]; simpa using hP3) | false => exact .inr ⟨_, hpre2, hP3⟩)
              | (refine at_norm (at_ret0 rfl (fun w hw => ⟨_, I2, H2, rfl, hI1.trans hI2, hw.drop, ?_⟩)); by_cases ha0 : a = 0; (obtain ⟨e1, e2⟩ := hno (by simp [conj, ha0]); subst e1; subst e2; subst ha0; exact .inl (by rw [hrem, remN_zero, List.append_nil]; exact hJk)); (have ht : t = false := (by simp [ha0] at hc10; exact hc10); subst ht; exact .inr ⟨_, rem_pre hrem ha0, hyes (by simp [conj]; exact ha0)⟩))
            · skip
              have hab : a % b ≠ 0 := by have h := hc17; simp only [beq_eq_false_iff_ne, ne_eq] at h; omega
              refine X_skip ?_
              refine at_block_n ?_
              exact at_metH2 rfl rfl rfl _ (remL 146 b1 b2 (b) (((a % b : Nat) : Int))) ⟨a % b, Nat.mod_lt _ hbp, b, a % b, pre ++ [a], rfl, rfl, rfl, hI1.trans hI2, hJ1, by rw [hrem, remN_step ha0 (by omega) hab, List.append_assoc]; rfl, by omega, by omega, by have := Nat.mod_lt a hbp; omega⟩ (.cons rfl (.cons rfl (.cons rfl .nil))) .refl
        · skip
          refine XO_v0 (ev_max rfl rfl) rfl rfl rfl ?_
          refine XO_nil ?_
          refine at_D hD (by repeat (first | exact .refl | exact subL_nil | refine .keep ?_ | refine .drop ?_ | refine subL_add ?_)) ?_
          refine XD_two 0 4 rfl rfl (by kernel_rfl) ?_ ?_
          · skip
            refine XO_v0 (ev_load rfl sct_146 (fun hg => by first | exact Cell.h0 rfl | exact Cell.h1 rfl | exact Cell.h2 rfl | exact Cell.h3 rfl | exact Cell.h4 rfl | exact Cell.h5 rfl | (repeat (first | exact Cell.here rfl | apply Cell.there | apply Cell.app)))) rfl rfl rfl ?_
            refine XO_nil ?_
            refine at_D hD (by repeat (first | exact .refl | exact subL_nil | refine .keep ?_ | refine .drop ?_ | refine subL_add ?_)) ?_
            refine XD_two 4 5 rfl rfl (by kernel_rfl) ?_ ?_
            · skip
              refine XO_v0 (ev_rem rfl rfl (fun hg => by rw [maxI_one hbp]; omega)) rfl rfl rfl ?_
              refine XO_nil ?_
              refine at_D hD (by repeat (first | exact .refl | exact subL_nil | refine .keep ?_ | refine .drop ?_ | refine subL_add ?_)) ?_
              refine XD_one 5 rfl (by kernel_rfl) ?_
              refine XO_store rfl rfl szt_146 rfl rfl (by first | exact Upd.u0 | exact Upd.u1 | exact Upd.u2 | exact Upd.u3 | exact Upd.u4 | exact Upd.u5 | (repeat (first | exact Upd.here | apply Upd.there | apply upd_app))) rfl ?_
              refine XO_nil ?_
              refine at_D hD (by repeat (first | exact .refl | exact subL_nil | refine .keep ?_ | refine .drop ?_ | refine subL_add ?_)) ?_
              refine XD_one 6 rfl (by kernel_rfl) ?_
              refine XO_store rfl rfl szt_146 rfl rfl (by first | exact Upd.u0 | exact Upd.u1 | exact Upd.u2 | exact Upd.u3 | exact Upd.u4 | exact Upd.u5 | (repeat (first | exact Upd.here | apply Upd.there | apply upd_app))) rfl ?_
              refine XO_nil ?_
              refine at_D hD (by repeat (first | exact .refl | exact subL_nil | refine .keep ?_ | refine .drop ?_ | refine subL_add ?_)) ?_
              refine XD_done (by kernel_rfl) ?_
              refine at_noP ?_
              rw [show ((a : Int)).tmod (maxI (b : Int) 1) = ((a % b : Nat) : Int) by rw [maxI_one hbp, tmod_nat]]
              refine at_then ?_
              refine X_seq ?_
              refine X_region ?_
              refine XO_v0 (ev_load rfl sct_146 (fun hg => by first | exact Cell.h0 rfl | exact Cell.h1 rfl | exact Cell.h2 rfl | exact Cell.h3 rfl | exact Cell.h4 rfl | exact Cell.h5 rfl | (repeat (first | exact Cell.here rfl | apply Cell.there | apply Cell.app)))) rfl rfl rfl ?_
              refine XO_v0 (ev_cmp rfl rfl rfl) rfl rfl rfl ?_
              refine XO_nil ?_
              refine at_then ?_
              refine X_cond rfl (fun hc17 => ?_) (fun hc17 => ?_)
              · skip
                have hab : a % b = 0 := by have h := hc17; simp only [beq_iff_eq] at h; omega
                have hpre2 : (pre ++ [a]) ++ [b] <+: remN a0 b0 := by rw [hrem, remN_end ha0 (by omega) hab, List.append_assoc]; exact List.prefix_rfl
                refine X_seq ?_
                refine X_region ?_
                refine XO_v0 (ev_move rfl) rfl rfl rfl ?_
                refine XO_v0 (ev_load rfl sct_146 (fun hg => by first | exact Cell.h0 rfl | exact Cell.h1 rfl | exact Cell.h2 rfl | exact Cell.h3 rfl | exact Cell.h4 rfl | exact Cell.h5 rfl | (repeat (first | exact Cell.here rfl | apply Cell.there | apply Cell.app)))) rfl rfl rfl ?_
                refine XO_yield0 (vs := [_]) (Post := fun t I3 H3 => if t then J ((pre ++ [a]) ++ [b]) I3 H3 else Jx ((pre ++ [a]) ++ [b]) I3 H3) rfl rfl rfl rfl (hY (pre ++ [a]) b _ _ hpre2 (hI0.trans hI2) hJ1) ?_
                rintro t3 I3 H3 hI3 hP3
                refine XO_nil ?_
                refine at_then ?_
                refine X_ret ?_
                refine at_block_r ?_
                refine at_then_r ?_
                refine at_block_r ?_
                first
                | (refine at_ret0 rfl (fun w hw => ⟨_, I3, H3, rfl, hI1.trans (hI2.trans hI3), hw.drop, ?_⟩); cases t3 with | true => exact .inl (by rw [hrem, remN_end ha0 (by omega) hab]; simpa using hP3) | false => exact .inr ⟨_, hpre2, hP3⟩)
                | (refine at_norm (at_ret0 rfl (fun w hw => ⟨_, I2, H2, rfl, hI1.trans hI2, hw.drop, ?_⟩)); by_cases ha0 : a = 0; (obtain ⟨e1, e2⟩ := hno (by simp [conj, ha0]); subst e1; subst e2; subst ha0; exact .inl (by rw [hrem, remN_zero, List.append_nil]; exact hJk)); (have ht : t = false := (by simp [ha0] at hc10; exact hc10); subst ht; exact .inr ⟨_, rem_pre hrem ha0, hyes (by simp [conj]; exact ha0)⟩))
              · skip
                have hab : a % b ≠ 0 := by have h := hc17; simp only [beq_eq_false_iff_ne, ne_eq] at h; omega
                refine X_skip ?_
                refine at_block_n ?_
                exact at_metH2 rfl rfl rfl _ (remL 146 b1 b2 (b) (((a % b : Nat) : Int))) ⟨a % b, Nat.mod_lt _ hbp, b, a % b, pre ++ [a], rfl, rfl, rfl, hI1.trans hI2, hJ1, by rw [hrem, remN_step ha0 (by omega) hab, List.append_assoc]; rfl, by omega, by omega, by have := Nat.mod_lt a hbp; omega⟩ (.cons rfl (.cons rfl (.cons rfl .nil))) .refl
            · skip
              refine XO_store rfl rfl szt_146 rfl rfl (by first | exact Upd.u0 | exact Upd.u1 | exact Upd.u2 | exact Upd.u3 | exact Upd.u4 | exact Upd.u5 | (repeat (first | exact Upd.here | apply Upd.there | apply upd_app))) rfl ?_
              refine XO_nil ?_
              refine at_D hD (by repeat (first | exact .refl | exact subL_nil | refine .keep ?_ | refine .drop ?_ | refine subL_add ?_)) ?_
              refine XD_one 4 rfl (by kernel_rfl) ?_
              refine XO_v0 (ev_rem rfl rfl (fun hg => by rw [maxI_one hbp]; omega)) rfl rfl rfl ?_
              refine XO_nil ?_
              refine at_D hD (by repeat (first | exact .refl | exact subL_nil | refine .keep ?_ | refine .drop ?_ | refine subL_add ?_)) ?_
              refine XD_one 6 rfl (by kernel_rfl) ?_
              refine XO_store rfl rfl szt_146 rfl rfl (by first | exact Upd.u0 | exact Upd.u1 | exact Upd.u2 | exact Upd.u3 | exact Upd.u4 | exact Upd.u5 | (repeat (first | exact Upd.here | apply Upd.there | apply upd_app))) rfl ?_
              refine XO_nil ?_
              refine at_D hD (by repeat (first | exact .refl | exact subL_nil | refine .keep ?_ | refine .drop ?_ | refine subL_add ?_)) ?_
              refine XD_done (by kernel_rfl) ?_
              refine at_noP ?_
              rw [show ((a : Int)).tmod (maxI (b : Int) 1) = ((a % b : Nat) : Int) by rw [maxI_one hbp, tmod_nat]]
              refine at_then ?_
              refine X_seq ?_
              refine X_region ?_
              refine XO_v0 (ev_load rfl sct_146 (fun hg => by first | exact Cell.h0 rfl | exact Cell.h1 rfl | exact Cell.h2 rfl | exact Cell.h3 rfl | exact Cell.h4 rfl | exact Cell.h5 rfl | (repeat (first | exact Cell.here rfl | apply Cell.there | apply Cell.app)))) rfl rfl rfl ?_
              refine XO_v0 (ev_cmp rfl rfl rfl) rfl rfl rfl ?_
              refine XO_nil ?_
              refine at_then ?_
              refine X_cond rfl (fun hc17 => ?_) (fun hc17 => ?_)
              · skip
                have hab : a % b = 0 := by have h := hc17; simp only [beq_iff_eq] at h; omega
                have hpre2 : (pre ++ [a]) ++ [b] <+: remN a0 b0 := by rw [hrem, remN_end ha0 (by omega) hab, List.append_assoc]; exact List.prefix_rfl
                refine X_seq ?_
                refine X_region ?_
                refine XO_v0 (ev_move rfl) rfl rfl rfl ?_
                refine XO_v0 (ev_load rfl sct_146 (fun hg => by first | exact Cell.h0 rfl | exact Cell.h1 rfl | exact Cell.h2 rfl | exact Cell.h3 rfl | exact Cell.h4 rfl | exact Cell.h5 rfl | (repeat (first | exact Cell.here rfl | apply Cell.there | apply Cell.app)))) rfl rfl rfl ?_
                refine XO_yield0 (vs := [_]) (Post := fun t I3 H3 => if t then J ((pre ++ [a]) ++ [b]) I3 H3 else Jx ((pre ++ [a]) ++ [b]) I3 H3) rfl rfl rfl rfl (hY (pre ++ [a]) b _ _ hpre2 (hI0.trans hI2) hJ1) ?_
                rintro t3 I3 H3 hI3 hP3
                refine XO_nil ?_
                refine at_then ?_
                refine X_ret ?_
                refine at_block_r ?_
                refine at_then_r ?_
                refine at_block_r ?_
                first
                | (refine at_ret0 rfl (fun w hw => ⟨_, I3, H3, rfl, hI1.trans (hI2.trans hI3), hw.drop, ?_⟩); cases t3 with | true => exact .inl (by rw [hrem, remN_end ha0 (by omega) hab]; simpa using hP3) | false => exact .inr ⟨_, hpre2, hP3⟩)
                | (refine at_norm (at_ret0 rfl (fun w hw => ⟨_, I2, H2, rfl, hI1.trans hI2, hw.drop, ?_⟩)); by_cases ha0 : a = 0; (obtain ⟨e1, e2⟩ := hno (by simp [conj, ha0]); subst e1; subst e2; subst ha0; exact .inl (by rw [hrem, remN_zero, List.append_nil]; exact hJk)); (have ht : t = false := (by simp [ha0] at hc10; exact hc10); subst ht; exact .inr ⟨_, rem_pre hrem ha0, hyes (by simp [conj]; exact ha0)⟩))
              · skip
                have hab : a % b ≠ 0 := by have h := hc17; simp only [beq_eq_false_iff_ne, ne_eq] at h; omega
                refine X_skip ?_
                refine at_block_n ?_
                exact at_metH2 rfl rfl rfl _ (remL 146 b1 b2 (b) (((a % b : Nat) : Int))) ⟨a % b, Nat.mod_lt _ hbp, b, a % b, pre ++ [a], rfl, rfl, rfl, hI1.trans hI2, hJ1, by rw [hrem, remN_step ha0 (by omega) hab, List.append_assoc]; rfl, by omega, by omega, by have := Nat.mod_lt a hbp; omega⟩ (.cons rfl (.cons rfl (.cons rfl .nil))) .refl
          · skip
            refine XO_v0 (ev_rem rfl rfl (fun hg => by rw [maxI_one hbp]; omega)) rfl rfl rfl ?_
            refine XO_nil ?_
            refine at_D hD (by repeat (first | exact .refl | exact subL_nil | refine .keep ?_ | refine .drop ?_ | refine subL_add ?_)) ?_
            refine XD_one 0 rfl (by kernel_rfl) ?_
            refine XO_v0 (ev_load rfl sct_146 (fun hg => by first | exact Cell.h0 rfl | exact Cell.h1 rfl | exact Cell.h2 rfl | exact Cell.h3 rfl | exact Cell.h4 rfl | exact Cell.h5 rfl | (repeat (first | exact Cell.here rfl | apply Cell.there | apply Cell.app)))) rfl rfl rfl ?_
            refine XO_nil ?_
            refine at_D hD (by repeat (first | exact .refl | exact subL_nil | refine .keep ?_ | refine .drop ?_ | refine subL_add ?_)) ?_
            refine XD_one 5 rfl (by kernel_rfl) ?_
            refine XO_store rfl rfl szt_146 rfl rfl (by first | exact Upd.u0 | exact Upd.u1 | exact Upd.u2 | exact Upd.u3 | exact Upd.u4 | exact Upd.u5 | (repeat (first | exact Upd.here | apply Upd.there | apply upd_app))) rfl ?_
            refine XO_nil ?_
            refine at_D hD (by repeat (first | exact .refl | exact subL_nil | refine .keep ?_ | refine .drop ?_ | refine subL_add ?_)) ?_
            refine XD_one 6 rfl (by kernel_rfl) ?_
            refine XO_store rfl rfl szt_146 rfl rfl (by first | exact Upd.u0 | exact Upd.u1 | exact Upd.u2 | exact Upd.u3 | exact Upd.u4 | exact Upd.u5 | (repeat (first | exact Upd.here | apply Upd.there | apply upd_app))) rfl ?_
            refine XO_nil ?_
            refine at_D hD (by repeat (first | exact .refl | exact subL_nil | refine .keep ?_ | refine .drop ?_ | refine subL_add ?_)) ?_
            refine XD_done (by kernel_rfl) ?_
            refine at_noP ?_
            rw [show ((a : Int)).tmod (maxI (b : Int) 1) = ((a % b : Nat) : Int) by rw [maxI_one hbp, tmod_nat]]
            refine at_then ?_
            refine X_seq ?_
            refine X_region ?_
            refine XO_v0 (ev_load rfl sct_146 (fun hg => by first | exact Cell.h0 rfl | exact Cell.h1 rfl | exact Cell.h2 rfl | exact Cell.h3 rfl | exact Cell.h4 rfl | exact Cell.h5 rfl | (repeat (first | exact Cell.here rfl | apply Cell.there | apply Cell.app)))) rfl rfl rfl ?_
            refine XO_v0 (ev_cmp rfl rfl rfl) rfl rfl rfl ?_
            refine XO_nil ?_
            refine at_then ?_
            refine X_cond rfl (fun hc17 => ?_) (fun hc17 => ?_)
            · skip
              have hab : a % b = 0 := by have h := hc17; simp only [beq_iff_eq] at h; omega
              have hpre2 : (pre ++ [a]) ++ [b] <+: remN a0 b0 := by rw [hrem, remN_end ha0 (by omega) hab, List.append_assoc]; exact List.prefix_rfl
              refine X_seq ?_
              refine X_region ?_
              refine XO_v0 (ev_move rfl) rfl rfl rfl ?_
              refine XO_v0 (ev_load rfl sct_146 (fun hg => by first | exact Cell.h0 rfl | exact Cell.h1 rfl | exact Cell.h2 rfl | exact Cell.h3 rfl | exact Cell.h4 rfl | exact Cell.h5 rfl | (repeat (first | exact Cell.here rfl | apply Cell.there | apply Cell.app)))) rfl rfl rfl ?_
              refine XO_yield0 (vs := [_]) (Post := fun t I3 H3 => if t then J ((pre ++ [a]) ++ [b]) I3 H3 else Jx ((pre ++ [a]) ++ [b]) I3 H3) rfl rfl rfl rfl (hY (pre ++ [a]) b _ _ hpre2 (hI0.trans hI2) hJ1) ?_
              rintro t3 I3 H3 hI3 hP3
              refine XO_nil ?_
              refine at_then ?_
              refine X_ret ?_
              refine at_block_r ?_
              refine at_then_r ?_
              refine at_block_r ?_
              first
              | (refine at_ret0 rfl (fun w hw => ⟨_, I3, H3, rfl, hI1.trans (hI2.trans hI3), hw.drop, ?_⟩); cases t3 with | true => exact .inl (by rw [hrem, remN_end ha0 (by omega) hab]; simpa using hP3) | false => exact .inr ⟨_, hpre2, hP3⟩)
              | (refine at_norm (at_ret0 rfl (fun w hw => ⟨_, I2, H2, rfl, hI1.trans hI2, hw.drop, ?_⟩)); by_cases ha0 : a = 0; (obtain ⟨e1, e2⟩ := hno (by simp [conj, ha0]); subst e1; subst e2; subst ha0; exact .inl (by rw [hrem, remN_zero, List.append_nil]; exact hJk)); (have ht : t = false := (by simp [ha0] at hc10; exact hc10); subst ht; exact .inr ⟨_, rem_pre hrem ha0, hyes (by simp [conj]; exact ha0)⟩))
            · skip
              have hab : a % b ≠ 0 := by have h := hc17; simp only [beq_eq_false_iff_ne, ne_eq] at h; omega
              refine X_skip ?_
              refine at_block_n ?_
              exact at_metH2 rfl rfl rfl _ (remL 146 b1 b2 (b) (((a % b : Nat) : Int))) ⟨a % b, Nat.mod_lt _ hbp, b, a % b, pre ++ [a], rfl, rfl, rfl, hI1.trans hI2, hJ1, by rw [hrem, remN_step ha0 (by omega) hab, List.append_assoc]; rfl, by omega, by omega, by have := Nat.mod_lt a hbp; omega⟩ (.cons rfl (.cons rfl (.cons rfl .nil))) .refl
    · skip
      refine XO_v0 (ev_load rfl sct_146 (fun hg => by first | exact Cell.h0 rfl | exact Cell.h1 rfl | exact Cell.h2 rfl | exact Cell.h3 rfl | exact Cell.h4 rfl | exact Cell.h5 rfl | (repeat (first | exact Cell.here rfl | apply Cell.there | apply Cell.app)))) rfl rfl rfl ?_
      refine XO_nil ?_
      refine at_D hD (by repeat (first | exact .refl | exact subL_nil | refine .keep ?_ | refine .drop ?_ | refine subL_add ?_)) ?_
      refine XD_three 0 1 3 rfl rfl rfl (by kernel_rfl) ?_ ?_ ?_
      · skip
        refine XO_v0 (ev_load rfl sct_146 (fun hg => by first | exact Cell.h0 rfl | exact Cell.h1 rfl | exact Cell.h2 rfl | exact Cell.h3 rfl | exact Cell.h4 rfl | exact Cell.h5 rfl | (repeat (first | exact Cell.here rfl | apply Cell.there | apply Cell.app)))) rfl rfl rfl ?_
        refine XO_nil ?_
        refine at_D hD (by repeat (first | exact .refl | exact subL_nil | refine .keep ?_ | refine .drop ?_ | refine subL_add ?_)) ?_
        refine XD_two 1 3 rfl rfl (by kernel_rfl) ?_ ?_
        · skip
          refine XO_v0 (ev_load rfl sct_146 (fun hg => by first | exact Cell.h0 rfl | exact Cell.h1 rfl | exact Cell.h2 rfl | exact Cell.h3 rfl | exact Cell.h4 rfl | exact Cell.h5 rfl | (repeat (first | exact Cell.here rfl | apply Cell.there | apply Cell.app)))) rfl rfl rfl ?_
          refine XO_nil ?_
          refine at_D hD (by repeat (first | exact .refl | exact subL_nil | refine .keep ?_ | refine .drop ?_ | refine subL_add ?_)) ?_
          refine XD_two 3 5 rfl rfl (by kernel_rfl) ?_ ?_
          · skip
            refine XO_v0 (ev_max rfl rfl) rfl rfl rfl ?_
            refine XO_nil ?_
            refine at_D hD (by repeat (first | exact .refl | exact subL_nil | refine .keep ?_ | refine .drop ?_ | refine subL_add ?_)) ?_
            refine XD_two 4 5 rfl rfl (by kernel_rfl) ?_ ?_
            · skip
              refine XO_v0 (ev_rem rfl rfl (fun hg => by rw [maxI_one hbp]; omega)) rfl rfl rfl ?_
              refine XO_nil ?_
              refine at_D hD (by repeat (first | exact .refl | exact subL_nil | refine .keep ?_ | refine .drop ?_ | refine subL_add ?_)) ?_
              refine XD_one 5 rfl (by kernel_rfl) ?_
              refine XO_store rfl rfl szt_146 rfl rfl (by first | exact Upd.u0 | exact Upd.u1 | exact Upd.u2 | exact Upd.u3 | exact Upd.u4 | exact Upd.u5 | (repeat (first | exact Upd.here | apply Upd.there | apply upd_app))) rfl ?_
              refine XO_nil ?_
              refine at_D hD (by repeat (first | exact .refl | exact subL_nil | refine .keep ?_ | refine .drop ?_ | refine subL_add ?_)) ?_
              refine XD_one 6 rfl (by kernel_rfl) ?_
              refine XO_store rfl rfl szt_146 rfl rfl (by first | exact Upd.u0 | exact Upd.u1 | exact Upd.u2 | exact Upd.u3 | exact Upd.u4 | exact Upd.u5 | (repeat (first | exact Upd.here | apply Upd.there | apply upd_app))) rfl ?_
              refine XO_nil ?_
              refine at_D hD (by repeat (first | exact .refl | exact subL_nil | refine .keep ?_ | refine .drop ?_ | refine subL_add ?_)) ?_
              refine XD_done (by kernel_rfl) ?_
              refine at_noP ?_
              rw [show ((a : Int)).tmod (maxI (b : Int) 1) = ((a % b : Nat) : Int) by rw [maxI_one hbp, tmod_nat]]
              refine at_then ?_
              refine X_seq ?_
              refine X_region ?_
              refine XO_v0 (ev_load rfl sct_146 (fun hg => by first | exact Cell.h0 rfl | exact Cell.h1 rfl | exact Cell.h2 rfl | exact Cell.h3 rfl | exact Cell.h4 rfl | exact Cell.h5 rfl | (repeat (first | exact Cell.here rfl | apply Cell.there | apply Cell.app)))) rfl rfl rfl ?_
              refine XO_v0 (ev_cmp rfl rfl rfl) rfl rfl rfl ?_
              refine XO_nil ?_
              refine at_then ?_
              refine X_cond rfl (fun hc17 => ?_) (fun hc17 => ?_)
              · skip
                have hab : a % b = 0 := by have h := hc17; simp only [beq_iff_eq] at h; omega
                have hpre2 : (pre ++ [a]) ++ [b] <+: remN a0 b0 := by rw [hrem, remN_end ha0 (by omega) hab, List.append_assoc]; exact List.prefix_rfl
                refine X_seq ?_
                refine X_region ?_
                refine XO_v0 (ev_move rfl) rfl rfl rfl ?_
                refine XO_v0 (ev_load rfl sct_146 (fun hg => by first | exact Cell.h0 rfl | exact Cell.h1 rfl | exact Cell.h2 rfl | exact Cell.h3 rfl | exact Cell.h4 rfl | exact Cell.h5 rfl | (repeat (first | exact Cell.here rfl | apply Cell.there | apply Cell.app)))) rfl rfl rfl ?_
                refine XO_yield0 (vs := [_]) (Post := fun t I3 H3 => if t then J ((pre ++ [a]) ++ [b]) I3 H3 else Jx ((pre ++ [a]) ++ [b]) I3 H3) rfl rfl rfl rfl (hY (pre ++ [a]) b _ _ hpre2 (hI0.trans hI2) hJ1) ?_
                rintro t3 I3 H3 hI3 hP3
                refine XO_nil ?_
                refine at_then ?_
                refine X_ret ?_
                refine at_block_r ?_
                refine at_then_r ?_
                refine at_block_r ?_
                first
                | (refine at_ret0 rfl (fun w hw => ⟨_, I3, H3, rfl, hI1.trans (hI2.trans hI3), hw.drop, ?_⟩); cases t3 with | true => exact .inl (by rw [hrem, remN_end ha0 (by omega) hab]; simpa using hP3) | false => exact .inr ⟨_, hpre2, hP3⟩)
                | (refine at_norm (at_ret0 rfl (fun w hw => ⟨_, I2, H2, rfl, hI1.trans hI2, hw.drop, ?_⟩)); by_cases ha0 : a = 0; (obtain ⟨e1, e2⟩ := hno (by simp [conj, ha0]); subst e1; subst e2; subst ha0; exact .inl (by rw [hrem, remN_zero, List.append_nil]; exact hJk)); (have ht : t = false := (by simp [ha0] at hc10; exact hc10); subst ht; exact .inr ⟨_, rem_pre hrem ha0, hyes (by simp [conj]; exact ha0)⟩))
              · skip
                have hab : a % b ≠ 0 := by have h := hc17; simp only [beq_eq_false_iff_ne, ne_eq] at h; omega
                refine X_skip ?_
                refine at_block_n ?_
                exact at_metH2 rfl rfl rfl _ (remL 146 b1 b2 (b) (((a % b : Nat) : Int))) ⟨a % b, Nat.mod_lt _ hbp, b, a % b, pre ++ [a], rfl, rfl, rfl, hI1.trans hI2, hJ1, by rw [hrem, remN_step ha0 (by omega) hab, List.append_assoc]; rfl, by omega, by omega, by have := Nat.mod_lt a hbp; omega⟩ (.cons rfl (.cons rfl (.cons rfl .nil))) .refl
            · skip
              refine XO_store rfl rfl szt_146 rfl rfl (by first | exact Upd.u0 | exact Upd.u1 | exact Upd.u2 | exact Upd.u3 | exact Upd.u4 | exact Upd.u5 | (repeat (first | exact Upd.here | apply Upd.there | apply upd_app))) rfl ?_
              refine XO_nil ?_
              refine at_D hD (by repeat (first | exact .refl | exact subL_nil | refine .keep ?_ | refine .drop ?_ | refine subL_add ?_)) ?_
              refine XD_one 4 rfl (by kernel_rfl) ?_
              refine XO_v0 (ev_rem rfl rfl (fun hg => by rw [maxI_one hbp]; omega)) rfl rfl rfl ?_
              refine XO_nil ?_
              refine at_D hD (by repeat (first | exact .refl | exact subL_nil | refine .keep ?_ | refine .drop ?_ | refine subL_add ?_)) ?_
              refine XD_one 6 rfl (by kernel_rfl) ?_
              refine XO_store rfl rfl szt_146 rfl rfl (by first | exact Upd.u0 | exact Upd.u1 | exact Upd.u2 | exact Upd.u3 | exact Upd.u4 | exact Upd.u5 | (repeat (first | exact Upd.here | apply Upd.there | apply upd_app))) rfl ?_
              refine XO_nil ?_
              refine at_D hD (by repeat (first | exact .refl | exact subL_nil | refine .keep ?_ | refine .drop ?_ | refine subL_add ?_)) ?_
              refine XD_done (by kernel_rfl) ?_
              refine at_noP ?_
              rw [show ((a : Int)).tmod (maxI (b : Int) 1) = ((a % b : Nat) : Int) by rw [maxI_one hbp, tmod_nat]]
              refine at_then ?_
              refine X_seq ?_
              refine X_region ?_
              refine XO_v0 (ev_load rfl sct_146 (fun hg => by first | exact Cell.h0 rfl | exact Cell.h1 rfl | exact Cell.h2 rfl | exact Cell.h3 rfl | exact Cell.h4 rfl | exact Cell.h5 rfl | (repeat (first | exact Cell.here rfl | apply Cell.there | apply Cell.app)))) rfl rfl rfl ?_
              refine XO_v0 (ev_cmp rfl rfl rfl) rfl rfl rfl ?_
              refine XO_nil ?_
              refine at_then ?_
              refine X_cond rfl (fun hc17 => ?_) (fun hc17 => ?_)
              · skip
                have hab : a % b = 0 := by have h := hc17; simp only [beq_iff_eq] at h; omega
                have hpre2 : (pre ++ [a]) ++ [b] <+: remN a0 b0 := by rw [hrem, remN_end ha0 (by omega) hab, List.append_assoc]; exact List.prefix_rfl
                refine X_seq ?_
                refine X_region ?_
                refine XO_v0 (ev_move rfl) rfl rfl rfl ?_
                refine XO_v0 (ev_load rfl sct_146 (fun hg => by first | exact Cell.h0 rfl | exact Cell.h1 rfl | exact Cell.h2 rfl | exact Cell.h3 rfl | exact Cell.h4 rfl | exact Cell.h5 rfl | (repeat (first | exact Cell.here rfl | apply Cell.there | apply Cell.app)))) rfl rfl rfl ?_
                refine XO_yield0 (vs := [_]) (Post := fun t I3 H3 => if t then J ((pre ++ [a]) ++ [b]) I3 H3 else Jx ((pre ++ [a]) ++ [b]) I3 H3) rfl rfl rfl rfl (hY (pre ++ [a]) b _ _ hpre2 (hI0.trans hI2) hJ1) ?_
                rintro t3 I3 H3 hI3 hP3
                refine XO_nil ?_
                refine at_then ?_
                refine X_ret ?_
                refine at_block_r ?_
                refine at_then_r ?_
                refine at_block_r ?_
                first
                | (refine at_ret0 rfl (fun w hw => ⟨_, I3, H3, rfl, hI1.trans (hI2.trans hI3), hw.drop, ?_⟩); cases t3 with | true => exact .inl (by rw [hrem, remN_end ha0 (by omega) hab]; simpa using hP3) | false => exact .inr ⟨_, hpre2, hP3⟩)
                | (refine at_norm (at_ret0 rfl (fun w hw => ⟨_, I2, H2, rfl, hI1.trans hI2, hw.drop, ?_⟩)); by_cases ha0 : a = 0; (obtain ⟨e1, e2⟩ := hno (by simp [conj, ha0]); subst e1; subst e2; subst ha0; exact .inl (by rw [hrem, remN_zero, List.append_nil]; exact hJk)); (have ht : t = false := (by simp [ha0] at hc10; exact hc10); subst ht; exact .inr ⟨_, rem_pre hrem ha0, hyes (by simp [conj]; exact ha0)⟩))
              · skip
                have hab : a % b ≠ 0 := by have h := hc17; simp only [beq_eq_false_iff_ne, ne_eq] at h; omega
                refine X_skip ?_
                refine at_block_n ?_
                exact at_metH2 rfl rfl rfl _ (remL 146 b1 b2 (b) (((a % b : Nat) : Int))) ⟨a % b, Nat.mod_lt _ hbp, b, a % b, pre ++ [a], rfl, rfl, rfl, hI1.trans hI2, hJ1, by rw [hrem, remN_step ha0 (by omega) hab, List.append_assoc]; rfl, by omega, by omega, by have := Nat.mod_lt a hbp; omega⟩ (.cons rfl (.cons rfl (.cons rfl .nil))) .refl
          · skip
            refine XO_store rfl rfl szt_146 rfl rfl (by first | exact Upd.u0 | exact Upd.u1 | exact Upd.u2 | exact Upd.u3 | exact Upd.u4 | exact Upd.u5 | (repeat (first | exact Upd.here | apply Upd.there | apply upd_app))) rfl ?_
            refine XO_nil ?_
            refine at_D hD (by repeat (first | exact .refl | exact subL_nil | refine .keep ?_ | refine .drop ?_ | refine subL_add ?_)) ?_
            refine XD_one 3 rfl (by kernel_rfl) ?_
            refine XO_v0 (ev_max rfl rfl) rfl rfl rfl ?_
            refine XO_nil ?_
            refine at_D hD (by repeat (first | exact .refl | exact subL_nil | refine .keep ?_ | refine .drop ?_ | refine subL_add ?_)) ?_
            refine XD_one 4 rfl (by kernel_rfl) ?_
            refine XO_v0 (ev_rem rfl rfl (fun hg => by rw [maxI_one hbp]; omega)) rfl rfl rfl ?_
            refine XO_nil ?_
            refine at_D hD (by repeat (first | exact .refl | exact subL_nil | refine .keep ?_ | refine .drop ?_ | refine subL_add ?_)) ?_
            refine XD_one 6 rfl (by kernel_rfl) ?_
            refine XO_store rfl rfl szt_146 rfl rfl (by first | exact Upd.u0 | exact Upd.u1 | exact Upd.u2 | exact Upd.u3 | exact Upd.u4 | exact Upd.u5 | (repeat (first | exact Upd.here | apply Upd.there | apply upd_app))) rfl ?_
            refine XO_nil ?_
            refine at_D hD (by repeat (first | exact .refl | exact subL_nil | refine .keep ?_ | refine .drop ?_ | refine subL_add ?_)) ?_
            refine XD_done (by kernel_rfl) ?_
            refine at_noP ?_
            rw [show ((a : Int)).tmod (maxI (b : Int) 1) = ((a % b : Nat) : Int) by rw [maxI_one hbp, tmod_nat]]
            refine at_then ?_
            refine X_seq ?_
            refine X_region ?_
            refine XO_v0 (ev_load rfl sct_146 (fun hg => by first | exact Cell.h0 rfl | exact Cell.h1 rfl | exact Cell.h2 rfl | exact Cell.h3 rfl | exact Cell.h4 rfl | exact Cell.h5 rfl | (repeat (first | exact Cell.here rfl | apply Cell.there | apply Cell.app)))) rfl rfl rfl ?_
            refine XO_v0 (ev_cmp rfl rfl rfl) rfl rfl rfl ?_
            refine XO_nil ?_
            refine at_then ?_
            refine X_cond rfl (fun hc17 => ?_) (fun hc17 => ?_)
            · skip
              have hab : a % b = 0 := by have h := hc17; simp only [beq_iff_eq] at h; omega
              have hpre2 : (pre ++ [a]) ++ [b] <+: remN a0 b0 := by rw [hrem, remN_end ha0 (by omega) hab, List.append_assoc]; exact List.prefix_rfl
              refine X_seq ?_
              refine X_region ?_
              refine XO_v0 (ev_move rfl) rfl rfl rfl ?_
              refine XO_v0 (ev_load rfl sct_146 (fun hg => by first | exact Cell.h0 rfl | exact Cell.h1 rfl | exact Cell.h2 rfl | exact Cell.h3 rfl | exact Cell.h4 rfl | exact Cell.h5 rfl | (repeat (first | exact Cell.here rfl | apply Cell.there | apply Cell.app)))) rfl rfl rfl ?_
              refine XO_yield0 (vs := [_]) (Post := fun t I3 H3 => if t then J ((pre ++ [a]) ++ [b]) I3 H3 else Jx ((pre ++ [a]) ++ [b]) I3 H3) rfl rfl rfl rfl (hY (pre ++ [a]) b _ _ hpre2 (hI0.trans hI2) hJ1) ?_
              rintro t3 I3 H3 hI3 hP3
              refine XO_nil ?_
              refine at_then ?_
              refine X_ret ?_
              refine at_block_r ?_
              refine at_then_r ?_
              refine at_block_r ?_
              first
              | (refine at_ret0 rfl (fun w hw => ⟨_, I3, H3, rfl, hI1.trans (hI2.trans hI3), hw.drop, ?_⟩); cases t3 with | true => exact .inl (by rw [hrem, remN_end ha0 (by omega) hab]; simpa using hP3) | false => exact .inr ⟨_, hpre2, hP3⟩)
              | (refine at_norm (at_ret0 rfl (fun w hw => ⟨_, I2, H2, rfl, hI1.trans hI2, hw.drop, ?_⟩)); by_cases ha0 : a = 0; (obtain ⟨e1, e2⟩ := hno (by simp [conj, ha0]); subst e1; subst e2; subst ha0; exact .inl (by rw [hrem, remN_zero, List.append_nil]; exact hJk)); (have ht : t = false := (by simp [ha0] at hc10; exact hc10); subst ht; exact .inr ⟨_, rem_pre hrem ha0, hyes (by simp [conj]; exact ha0)⟩))
            · skip
              have hab : a % b ≠ 0 := by have h := hc17; simp only [beq_eq_false_iff_ne, ne_eq] at h; omega
              refine X_skip ?_
              refine at_block_n ?_
              exact at_metH2 rfl rfl rfl _ (remL 146 b1 b2 (b) (((a % b : Nat) : Int))) ⟨a % b, Nat.mod_lt _ hbp, b, a % b, pre ++ [a], rfl, rfl, rfl, hI1.trans hI2, hJ1, by rw [hrem, remN_step ha0 (by omega) hab, List.append_assoc]; rfl, by omega, by omega, by have := Nat.mod_lt a hbp; omega⟩ (.cons rfl (.cons rfl (.cons rfl .nil))) .refl
        · skip
          refine XO_v0 (ev_max rfl rfl) rfl rfl rfl ?_
          refine XO_nil ?_
          refine at_D hD (by repeat (first | exact .refl | exact subL_nil | refine .keep ?_ | refine .drop ?_ | refine subL_add ?_)) ?_
          refine XD_one 1 rfl (by kernel_rfl) ?_
          refine XO_v0 (ev_load rfl sct_146 (fun hg => by first | exact Cell.h0 rfl | exact Cell.h1 rfl | exact Cell.h2 rfl | exact Cell.h3 rfl | exact Cell.h4 rfl | exact Cell.h5 rfl | (repeat (first | exact Cell.here rfl | apply Cell.there | apply Cell.app)))) rfl rfl rfl ?_
          refine XO_nil ?_
          refine at_D hD (by repeat (first | exact .refl | exact subL_nil | refine .keep ?_ | refine .drop ?_ | refine subL_add ?_)) ?_
          refine XD_two 4 5 rfl rfl (by kernel_rfl) ?_ ?_
          · skip
            refine XO_v0 (ev_rem rfl rfl (fun hg => by rw [maxI_one hbp]; omega)) rfl rfl rfl ?_
            refine XO_nil ?_
            refine at_D hD (by repeat (first | exact .refl | exact subL_nil | refine .keep ?_ | refine .drop ?_ | refine subL_add ?_)) ?_
            refine XD_one 5 rfl (by kernel_rfl) ?_
            refine XO_store rfl rfl szt_146 rfl rfl (by first | exact Upd.u0 | exact Upd.u1 | exact Upd.u2 | exact Upd.u3 | exact Upd.u4 | exact Upd.u5 | (repeat (first | exact Upd.here | apply Upd.there | apply upd_app))) rfl ?_
            refine XO_nil ?_
            refine at_D hD (by repeat (first | exact .refl | exact subL_nil | refine .keep ?_ | refine .drop ?_ | refine subL_add ?_)) ?_
            refine XD_one 6 rfl (by kernel_rfl) ?_
            refine XO_store rfl rfl szt_146 rfl rfl (by first | exact Upd.u0 | exact Upd.u1 | exact Upd.u2 | exact Upd.u3 | exact Upd.u4 | exact Upd.u5 | (repeat (first | exact Upd.here | apply Upd.there | apply upd_app))) rfl ?_
            refine XO_nil ?_
            refine at_D hD (by repeat (first | exact .refl | exact subL_nil | refine .keep ?_ | refine .drop ?_ | refine subL_add ?_)) ?_
            refine XD_done (by kernel_rfl) ?_
            refine at_noP ?_
            rw [show ((a : Int)).tmod (maxI (b : Int) 1) = ((a % b : Nat) : Int) by rw [maxI_one hbp, tmod_nat]]
            refine at_then ?_
            refine X_seq ?_
            refine X_region ?_
            refine XO_v0 (ev_load rfl sct_146 (fun hg => by first | exact Cell.h0 rfl | exact Cell.h1 rfl | exact Cell.h2 rfl | exact Cell.h3 rfl | exact Cell.h4 rfl | exact Cell.h5 rfl | (repeat (first | exact Cell.here rfl | apply Cell.there | apply Cell.app)))) rfl rfl rfl ?_
            refine XO_v0 (ev_cmp rfl rfl rfl) rfl rfl rfl ?_
            refine XO_nil ?_
            refine at_then ?_
            refine X_cond rfl (fun hc17 => ?_) (fun hc17 => ?_)
            · skip
              have hab : a % b = 0 := by have h := hc17; simp only [beq_iff_eq] at h; omega
              have hpre2 : (pre ++ [a]) ++ [b] <+: remN a0 b0 := by rw [hrem, remN_end ha0 (by omega) hab, List.append_assoc]; exact List.prefix_rfl
              refine X_seq ?_
              refine X_region ?_
              refine XO_v0 (ev_move rfl) rfl rfl rfl ?_
              refine XO_v0 (ev_load rfl sct_146 (fun hg => by first | exact Cell.h0 rfl | exact Cell.h1 rfl | exact Cell.h2 rfl | exact Cell.h3 rfl | exact Cell.h4 rfl | exact Cell.h5 rfl | (repeat (first | exact Cell.here rfl | apply Cell.there | apply Cell.app)))) rfl rfl rfl ?_
              refine XO_yield0 (vs := [_]) (Post := fun t I3 H3 => if t then J ((pre ++ [a]) ++ [b]) I3 H3 else Jx ((pre ++ [a]) ++ [b]) I3 H3) rfl rfl rfl rfl (hY (pre ++ [a]) b _ _ hpre2 (hI0.trans hI2) hJ1) ?_
              rintro t3 I3 H3 hI3 hP3
              refine XO_nil ?_
              refine at_then ?_
              refine X_ret ?_
              refine at_block_r ?_
              refine at_then_r ?_
              refine at_block_r ?_
              first
              | (refine at_ret0 rfl (fun w hw => ⟨_, I3, H3, rfl, hI1.trans (hI2.trans hI3), hw.drop, ?_⟩); cases t3 with | true => exact .inl (by rw [hrem, remN_end ha0 (by omega) hab]; simpa using hP3) | false => exact .inr ⟨_, hpre2, hP3⟩)
              | (refine at_norm (at_ret0 rfl (fun w hw => ⟨_, I2, H2, rfl, hI1.trans hI2, hw.drop, ?_⟩)); by_cases ha0 : a = 0; (obtain ⟨e1, e2⟩ := hno (by simp [conj, ha0]); subst e1; subst e2; subst ha0; exact .inl (by rw [hrem, remN_zero, List.append_nil]; exact hJk)); (have ht : t = false := (by simp [ha0] at hc10; exact hc10); subst ht; exact .inr ⟨_, rem_pre hrem ha0, hyes (by simp [conj]; exact ha0)⟩))
            · skip
              have hab : a % b ≠ 0 := by have h := hc17; simp only [beq_eq_false_iff_ne, ne_eq] at h; omega
              refine X_skip ?_
              refine at_block_n ?_
              exact at_metH2 rfl rfl rfl _ (remL 146 b1 b2 (b) (((a % b : Nat) : Int))) ⟨a % b, Nat.mod_lt _ hbp, b, a % b, pre ++ [a], rfl, rfl, rfl, hI1.trans hI2, hJ1, by rw [hrem, remN_step ha0 (by omega) hab, List.append_assoc]; rfl, by omega, by omega, by have := Nat.mod_lt a hbp; omega⟩ (.cons rfl (.cons rfl (.cons rfl .nil))) .refl
          · skip
            refine XO_store rfl rfl szt_146 rfl rfl (by first | exact Upd.u0 | exact Upd.u1 | exact Upd.u2 | exact Upd.u3 | exact Upd.u4 | exact Upd.u5 | (repeat (first | exact Upd.here | apply Upd.there | apply upd_app))) rfl ?_
            refine XO_nil ?_
            refine at_D hD (by repeat (first | exact .refl | exact subL_nil | refine .keep ?_ | refine .drop ?_ | refine subL_add ?_)) ?_
            refine XD_one 4 rfl (by kernel_rfl) ?_
            refine XO_v0 (ev_rem rfl rfl (fun hg => by rw [maxI_one hbp]; omega)) rfl rfl rfl ?_
            refine XO_nil ?_
            refine at_D hD (by repeat (first | exact .refl | exact subL_nil | refine .keep ?_ | refine .drop ?_ | refine subL_add ?_)) ?_
            refine XD_one 6 rfl (by kernel_rfl) ?_
            refine XO_store rfl rfl szt_146 rfl rfl (by first | exact Upd.u0 | exact Upd.u1 | exact Upd.u2 | exact Upd.u3 | exact Upd.u4 | exact Upd.u5 | (repeat (first | exact Upd.here | apply Upd.there | apply upd_app))) rfl ?_
            refine XO_nil ?_
            refine at_D hD (by repeat (first | exact .refl | exact subL_nil | refine .keep ?_ | refine .drop ?_ | refine subL_add ?_)) ?_
            refine XD_done (by kernel_rfl) ?_
            refine at_noP ?_
            rw [show ((a : Int)).tmod (maxI (b : Int) 1) = ((a % b : Nat) : Int) by rw [maxI_one hbp, tmod_nat]]
            refine at_then ?_
            refine X_seq ?_
            refine X_region ?_
            refine XO_v0 (ev_load rfl sct_146 (fun hg => by first | exact Cell.h0 rfl | exact Cell.h1 rfl | exact Cell.h2 rfl | exact Cell.h3 rfl | exact Cell.h4 rfl | exact Cell.h5 rfl | (repeat (first | exact Cell.here rfl | apply Cell.there | apply Cell.app)))) rfl rfl rfl ?_
            refine XO_v0 (ev_cmp rfl rfl rfl) rfl rfl rfl ?_
            refine XO_nil ?_
            refine at_then ?_
            refine X_cond rfl (fun hc17 => ?_) (fun hc17 => ?_)
            · skip
              have hab : a % b = 0 := by have h := hc17; simp only [beq_iff_eq] at h; omega
              have hpre2 : (pre ++ [a]) ++ [b] <+: remN a0 b0 := by rw [hrem, remN_end ha0 (by omega) hab, List.append_assoc]; exact List.prefix_rfl
              refine X_seq ?_
              refine X_region ?_
              refine XO_v0 (ev_move rfl) rfl rfl rfl ?_
              refine XO_v0 (ev_load rfl sct_146 (fun hg => by first | exact Cell.h0 rfl | exact Cell.h1 rfl | exact Cell.h2 rfl | exact Cell.h3 rfl | exact Cell.h4 rfl | exact Cell.h5 rfl | (repeat (first | exact Cell.here rfl | apply Cell.there | apply Cell.app)))) rfl rfl rfl ?_
              refine XO_yield0 (vs := [_]) (Post := fun t I3 H3 => if t then J ((pre ++ [a]) ++ [b]) I3 H3 else Jx ((pre ++ [a]) ++ [b]) I3 H3) rfl rfl rfl rfl (hY (pre ++ [a]) b _ _ hpre2 (hI0.trans hI2) hJ1) ?_
              rintro t3 I3 H3 hI3 hP3
              refine XO_nil ?_
              refine at_then ?_
              refine X_ret ?_
              refine at_block_r ?_
              refine at_then_r ?_
              refine at_block_r ?_
              first
              | (refine at_ret0 rfl (fun w hw => ⟨_, I3, H3, rfl, hI1.trans (hI2.trans hI3), hw.drop, ?_⟩); cases t3 with | true => exact .inl (by rw [hrem, remN_end ha0 (by omega) hab]; simpa using hP3) | false => exact .inr ⟨_, hpre2, hP3⟩)
              | (refine at_norm (at_ret0 rfl (fun w hw => ⟨_, I2, H2, rfl, hI1.trans hI2, hw.drop, ?_⟩)); by_cases ha0 : a = 0; (obtain ⟨e1, e2⟩ := hno (by simp [conj, ha0]); subst e1; subst e2; subst ha0; exact .inl (by rw [hrem, remN_zero, List.append_nil]; exact hJk)); (have ht : t = false := (by simp [ha0] at hc10; exact hc10); subst ht; exact .inr ⟨_, rem_pre hrem ha0, hyes (by simp [conj]; exact ha0)⟩))
            · skip
              have hab : a % b ≠ 0 := by have h := hc17; simp only [beq_eq_false_iff_ne, ne_eq] at h; omega
              refine X_skip ?_
              refine at_block_n ?_
              exact at_metH2 rfl rfl rfl _ (remL 146 b1 b2 (b) (((a % b : Nat) : Int))) ⟨a % b, Nat.mod_lt _ hbp, b, a % b, pre ++ [a], rfl, rfl, rfl, hI1.trans hI2, hJ1, by rw [hrem, remN_step ha0 (by omega) hab, List.append_assoc]; rfl, by omega, by omega, by have := Nat.mod_lt a hbp; omega⟩ (.cons rfl (.cons rfl (.cons rfl .nil))) .refl
      · skip
        refine XO_v0 (ev_load rfl sct_146 (fun hg => by first | exact Cell.h0 rfl | exact Cell.h1 rfl | exact Cell.h2 rfl | exact Cell.h3 rfl | exact Cell.h4 rfl | exact Cell.h5 rfl | (repeat (first | exact Cell.here rfl | apply Cell.there | apply Cell.app)))) rfl rfl rfl ?_
        refine XO_nil ?_
        refine at_D hD (by repeat (first | exact .refl | exact subL_nil | refine .keep ?_ | refine .drop ?_ | refine subL_add ?_)) ?_
        refine XD_two 0 3 rfl rfl (by kernel_rfl) ?_ ?_
        · skip
          refine XO_v0 (ev_load rfl sct_146 (fun hg => by first | exact Cell.h0 rfl | exact Cell.h1 rfl | exact Cell.h2 rfl | exact Cell.h3 rfl | exact Cell.h4 rfl | exact Cell.h5 rfl | (repeat (first | exact Cell.here rfl | apply Cell.there | apply Cell.app)))) rfl rfl rfl ?_
          refine XO_nil ?_
          refine at_D hD (by repeat (first | exact .refl | exact subL_nil | refine .keep ?_ | refine .drop ?_ | refine subL_add ?_)) ?_
          refine XD_two 3 5 rfl rfl (by kernel_rfl) ?_ ?_
          · skip
            refine XO_v0 (ev_max rfl rfl) rfl rfl rfl ?_
            refine XO_nil ?_
            refine at_D hD (by repeat (first | exact .refl | exact subL_nil | refine .keep ?_ | refine .drop ?_ | refine subL_add ?_)) ?_
            refine XD_two 4 5 rfl rfl (by kernel_rfl) ?_ ?_
            · skip
              refine XO_v0 (ev_rem rfl rfl (fun hg => by rw [maxI_one hbp]; omega)) rfl rfl rfl ?_
              refine XO_nil ?_
              refine at_D hD (by repeat (first | exact .refl | exact subL_nil | refine .keep ?_ | refine .drop ?_ | refine subL_add ?_)) ?_
              refine XD_one 5 rfl (by kernel_rfl) ?_
              refine XO_store rfl rfl szt_146 rfl rfl (by first | exact Upd.u0 | exact Upd.u1 | exact Upd.u2 | exact Upd.u3 | exact Upd.u4 | exact Upd.u5 | (repeat (first | exact Upd.here | apply Upd.there | apply upd_app))) rfl ?_
              refine XO_nil ?_
              refine at_D hD (by repeat (first | exact .refl | exact subL_nil | refine .keep ?_ | refine .drop ?_ | refine subL_add ?_)) ?_
              refine XD_one 6 rfl (by kernel_rfl) ?_
              refine XO_store rfl rfl szt_146 rfl rfl (by first | exact Upd.u0 | exact Upd.u1 | exact Upd.u2 | exact Upd.u3 | exact Upd.u4 | exact Upd.u5 | (repeat (first | exact Upd.here | apply Upd.there | apply upd_app))) rfl ?_
              refine XO_nil ?_
              refine at_D hD (by repeat (first | exact .refl | exact subL_nil | refine .keep ?_ | refine .drop ?_ | refine subL_add ?_)) ?_
              refine XD_done (by kernel_rfl) ?_
              refine at_noP ?_
              rw [show ((a : Int)).tmod (maxI (b : Int) 1) = ((a % b : Nat) : Int) by rw [maxI_one hbp, tmod_nat]]
              refine at_then ?_
              refine X_seq ?_
              refine X_region ?_
              refine XO_v0 (ev_load rfl sct_146 (fun hg => by first | exact Cell.h0 rfl | exact Cell.h1 rfl | exact Cell.h2 rfl | exact Cell.h3 rfl | exact Cell.h4 rfl | exact Cell.h5 rfl | (repeat (first | exact Cell.here rfl | apply Cell.there | apply Cell.app)))) rfl rfl rfl ?_
              refine XO_v0 (ev_cmp rfl rfl rfl) rfl rfl rfl ?_
              refine XO_nil ?_
              refine at_then ?_
              refine X_cond rfl (fun hc17 => ?_) (fun hc17 => ?_)
              · skip
                have hab : a % b = 0 := by have h := hc17; simp only [beq_iff_eq] at h; omega
                have hpre2 : (pre ++ [a]) ++ [b] <+: remN a0 b0 := by rw [hrem, remN_end ha0 (by omega) hab, List.append_assoc]; exact List.prefix_rfl
                refine X_seq ?_
                refine X_region ?_
                refine XO_v0 (ev_move rfl) rfl rfl rfl ?_
                refine XO_v0 (ev_load rfl sct_146 (fun hg => by first | exact Cell.h0 rfl | exact Cell.h1 rfl | exact Cell.h2 rfl | exact Cell.h3 rfl | exact Cell.h4 rfl | exact Cell.h5 rfl | (repeat (first | exact Cell.here rfl | apply Cell.there | apply Cell.app)))) rfl rfl rfl ?_
                refine XO_yield0 (vs := [_]) (Post := fun t I3 H3 => if t then J ((pre ++ [a]) ++ [b]) I3 H3 else Jx ((pre ++ [a]) ++ [b]) I3 H3) rfl rfl rfl rfl (hY (pre ++ [a]) b _ _ hpre2 (hI0.trans hI2) hJ1) ?_
                rintro t3 I3 H3 hI3 hP3
                refine XO_nil ?_
                refine at_then ?_
                refine X_ret ?_
                refine at_block_r ?_
                refine at_then_r ?_
                refine at_block_r ?_
                first
                | (refine at_ret0 rfl (fun w hw => ⟨_, I3, H3, rfl, hI1.trans (hI2.trans hI3), hw.drop, ?_⟩); cases t3 with | true => exact .inl (by rw [hrem, remN_end ha0 (by omega) hab]; simpa using hP3) | false => exact .inr ⟨_, hpre2, hP3⟩)
                | (refine at_norm (at_ret0 rfl (fun w hw => ⟨_, I2, H2, rfl, hI1.trans hI2, hw.drop, ?_⟩)); by_cases ha0 : a = 0; (obtain ⟨e1, e2⟩ := hno (by simp [conj, ha0]); subst e1; subst e2; subst ha0; exact .inl (by rw [hrem, remN_zero, List.append_nil]; exact hJk)); (have ht : t = false := (by simp [ha0] at hc10; exact hc10); subst ht; exact .inr ⟨_, rem_pre hrem ha0, hyes (by simp [conj]; exact ha0)⟩))
              · skip
                have hab : a % b ≠ 0 := by have h := hc17; simp only [beq_eq_false_iff_ne, ne_eq] at h; omega
                refine X_skip ?_
                refine at_block_n ?_
                exact at_metH2 rfl rfl rfl _ (remL 146 b1 b2 (b) (((a % b : Nat) : Int))) ⟨a % b, Nat.mod_lt _ hbp, b, a % b, pre ++ [a], rfl, rfl, rfl, hI1.trans hI2, hJ1, by rw [hrem, remN_step ha0 (by omega) hab, List.append_assoc]; rfl, by omega, by omega, by have := Nat.mod_lt a hbp; omega⟩ (.cons rfl (.cons rfl (.cons rfl .nil))) .refl
            · skip
              refine XO_store rfl rfl szt_146 rfl rfl (by first | exact Upd.u0 | exact Upd.u1 | exact Upd.u2 | exact Upd.u3 | exact Upd.u4 | exact Upd.u5 | (repeat (first | exact Upd.here | apply Upd.there | apply upd_app))) rfl ?_
              refine XO_nil ?_
              refine at_D hD (by repeat (first | exact .refl | exact subL_nil | refine .keep ?_ | refine .drop ?_ | refine subL_add ?_)) ?_
              refine XD_one 4 rfl (by kernel_rfl) ?_
              refine XO_v0 (ev_rem rfl rfl (fun hg => by rw [maxI_one hbp]; omega)) rfl rfl rfl ?_
              refine XO_nil ?_
              refine at_D hD (by repeat (first | exact .refl | exact subL_nil | refine .keep ?_ | refine .drop ?_ | refine subL_add ?_)) ?_
              refine XD_one 6 rfl (by kernel_rfl) ?_
              refine XO_store rfl rfl szt_146 rfl rfl (by first | exact Upd.u0 | exact Upd.u1 | exact Upd.u2 | exact Upd.u3 | exact Upd.u4 | exact Upd.u5 | (repeat (first | exact Upd.here | apply Upd.there | apply upd_app))) rfl ?_
              refine XO_nil ?_
              refine at_D hD (by repeat (first | exact .refl | exact subL_nil | refine .keep ?_ | refine .drop ?_ | refine subL_add ?_)) ?_
              refine XD_done (by kernel_rfl) ?_
              refine at_noP ?_
              rw [show ((a : Int)).tmod (maxI (b : Int) 1) = ((a % b : Nat) : Int) by rw [maxI_one hbp, tmod_nat]]
              refine at_then ?_
              refine X_seq ?_
              refine X_region ?_
              refine XO_v0 (ev_load rfl sct_146 (fun hg => by first | exact Cell.h0 rfl | exact Cell.h1 rfl | exact Cell.h2 rfl | exact Cell.h3 rfl | exact Cell.h4 rfl | exact Cell.h5 rfl | (repeat (first | exact Cell.here rfl | apply Cell.there | apply Cell.app)))) rfl rfl rfl ?_
              refine XO_v0 (ev_cmp rfl rfl rfl) rfl rfl rfl ?_
              refine XO_nil ?_
              refine at_then ?_
              refine X_cond rfl (fun hc17 => ?_) (fun hc17 => ?_)
              · skip
                have hab : a % b = 0 := by have h := hc17; simp only [beq_iff_eq] at h; omega
                have hpre2 : (pre ++ [a]) ++ [b] <+: remN a0 b0 := by rw [hrem, remN_end ha0 (by omega) hab, List.append_assoc]; exact List.prefix_rfl
                refine X_seq ?_
                refine X_region ?_
                refine XO_v0 (ev_move rfl) rfl rfl rfl ?_
                refine XO_v0 (ev_load rfl sct_146 (fun hg => by first | exact Cell.h0 rfl | exact Cell.h1 rfl | exact Cell.h2 rfl | exact Cell.h3 rfl | exact Cell.h4 rfl | exact Cell.h5 rfl | (repeat (first | exact Cell.here rfl | apply Cell.there | apply Cell.app)))) rfl rfl rfl ?_
                refine XO_yield0 (vs := [_]) (Post := fun t I3 H3 => if t then J ((pre ++ [a]) ++ [b]) I3 H3 else Jx ((pre ++ [a]) ++ [b]) I3 H3) rfl rfl rfl rfl (hY (pre ++ [a]) b _ _ hpre2 (hI0.trans hI2) hJ1) ?_
                rintro t3 I3 H3 hI3 hP3
                refine XO_nil ?_
                refine at_then ?_
                refine X_ret ?_
                refine at_block_r ?_
                refine at_then_r ?_
                refine at_block_r ?_
                first
                | (refine at_ret0 rfl (fun w hw => ⟨_, I3, H3, rfl, hI1.trans (hI2.trans hI3), hw.drop, ?_⟩); cases t3 with | true => exact .inl (by rw [hrem, remN_end ha0 (by omega) hab]; simpa using hP3) | false => exact .inr ⟨_, hpre2, hP3⟩)
                | (refine at_norm (at_ret0 rfl (fun w hw => ⟨_, I2, H2, rfl, hI1.trans hI2, hw.drop, ?_⟩)); by_cases ha0 : a = 0; (obtain ⟨e1, e2⟩ := hno (by simp [conj, ha0]); subst e1; subst e2; subst ha0; exact .inl (by rw [hrem, remN_zero, List.append_nil]; exact hJk)); (have ht : t = false := (by simp [ha0] at hc10; exact hc10); subst ht; exact .inr ⟨_, rem_pre hrem ha0, hyes (by simp [conj]; exact ha0)⟩))
              · skip
                have hab : a % b ≠ 0 := by have h := hc17; simp only [beq_eq_false_iff_ne, ne_eq] at h; omega
                refine X_skip ?_
                refine at_block_n ?_
                exact at_metH2 rfl rfl rfl _ (remL 146 b1 b2 (b) (((a % b : Nat) : Int))) ⟨a % b, Nat.mod_lt _ hbp, b, a % b, pre ++ [a], rfl, rfl, rfl, hI1.trans hI2, hJ1, by rw [hrem, remN_step ha0 (by omega) hab, List.append_assoc]; rfl, by omega, by omega, by have := Nat.mod_lt a hbp; omega⟩ (.cons rfl (.cons rfl (.cons rfl .nil))) .refl
          · skip
            refine XO_store rfl rfl szt_146 rfl rfl (by first | exact Upd.u0 | exact Upd.u1 | exact Upd.u2 | exact Upd.u3 | exact Upd.u4 | exact Upd.u5 | (repeat (first | exact Upd.here | apply Upd.there | apply upd_app))) rfl ?_
            refine XO_nil ?_
            refine at_D hD (by repeat (first | exact .refl | exact subL_nil | refine .keep ?_ | refine .drop ?_ | refine subL_add ?_)) ?_
            refine XD_one 3 rfl (by kernel_rfl) ?_
            refine XO_v0 (ev_max rfl rfl) rfl rfl rfl ?_
            refine XO_nil ?_
            refine at_D hD (by repeat (first | exact .refl | exact subL_nil | refine .keep ?_ | refine .drop ?_ | refine subL_add ?_)) ?_
            refine XD_one 4 rfl (by kernel_rfl) ?_
            refine XO_v0 (ev_rem rfl rfl (fun hg => by rw [maxI_one hbp]; omega)) rfl rfl rfl ?_
            refine XO_nil ?_
            refine at_D hD (by repeat (first | exact .refl | exact subL_nil | refine .keep ?_ | refine .drop ?_ | refine subL_add ?_)) ?_
            refine XD_one 6 rfl (by kernel_rfl) ?_
            refine XO_store rfl rfl szt_146 rfl rfl (by first | exact Upd.u0 | exact Upd.u1 | exact Upd.u2 | exact Upd.u3 | exact Upd.u4 | exact Upd.u5 | (repeat (first | exact Upd.here | apply Upd.there | apply upd_app))) rfl ?_
            refine XO_nil ?_
            refine at_D hD (by repeat (first | exact .refl | exact subL_nil | refine .keep ?_ | refine .drop ?_ | refine subL_add ?_)) ?_
            refine XD_done (by kernel_rfl) ?_
            refine at_noP ?_
            rw [show ((a : Int)).tmod (maxI (b : Int) 1) = ((a % b : Nat) : Int) by rw [maxI_one hbp, tmod_nat]]
            refine at_then ?_
            refine X_seq ?_
            refine X_region ?_
            refine XO_v0 (ev_load rfl sct_146 (fun hg => by first | exact Cell.h0 rfl | exact Cell.h1 rfl | exact Cell.h2 rfl | exact Cell.h3 rfl | exact Cell.h4 rfl | exact Cell.h5 rfl | (repeat (first | exact Cell.here rfl | apply Cell.there | apply Cell.app)))) rfl rfl rfl ?_
            refine XO_v0 (ev_cmp rfl rfl rfl) rfl rfl rfl ?_
            refine XO_nil ?_
            refine at_then ?_
            refine X_cond rfl (fun hc17 => ?_) (fun hc17 => ?_)
            · skip
              have hab : a % b = 0 := by have h := hc17; simp only [beq_iff_eq] at h; omega
              have hpre2 : (pre ++ [a]) ++ [b] <+: remN a0 b0 := by rw [hrem, remN_end ha0 (by omega) hab, List.append_assoc]; exact List.prefix_rfl
              refine X_seq ?_
              refine X_region ?_
              refine XO_v0 (ev_move rfl) rfl rfl rfl ?_
              refine XO_v0 (ev_load rfl sct_146 (fun hg => by first | exact Cell.h0 rfl | exact Cell.h1 rfl | exact Cell.h2 rfl | exact Cell.h3 rfl | exact Cell.h4 rfl | exact Cell.h5 rfl | (repeat (first | exact Cell.here rfl | apply Cell.there | apply Cell.app)))) rfl rfl rfl ?_
              refine XO_yield0 (vs := [_]) (Post := fun t I3 H3 => if t then J ((pre ++ [a]) ++ [b]) I3 H3 else Jx ((pre ++ [a]) ++ [b]) I3 H3) rfl rfl rfl rfl (hY (pre ++ [a]) b _ _ hpre2 (hI0.trans hI2) hJ1) ?_
              rintro t3 I3 H3 hI3 hP3
              refine XO_nil ?_
              refine at_then ?_
              refine X_ret ?_
              refine at_block_r ?_
              refine at_then_r ?_
              refine at_block_r ?_
              first
              | (refine at_ret0 rfl (fun w hw => ⟨_, I3, H3, rfl, hI1.trans (hI2.trans hI3), hw.drop, ?_⟩); cases t3 with | true => exact .inl (by rw [hrem, remN_end ha0 (by omega) hab]; simpa using hP3) | false => exact .inr ⟨_, hpre2, hP3⟩)
              | (refine at_norm (at_ret0 rfl (fun w hw => ⟨_, I2, H2, rfl, hI1.trans hI2, hw.drop, ?_⟩)); by_cases ha0 : a = 0; (obtain ⟨e1, e2⟩ := hno (by simp [conj, ha0]); subst e1; subst e2; subst ha0; exact .inl (by rw [hrem, remN_zero, List.append_nil]; exact hJk)); (have ht : t = false := (by simp [ha0] at hc10; exact hc10); subst ht; exact .inr ⟨_, rem_pre hrem ha0, hyes (by simp [conj]; exact ha0)⟩))
            · skip
              have hab : a % b ≠ 0 := by have h := hc17; simp only [beq_eq_false_iff_ne, ne_eq] at h; omega
              refine X_skip ?_
              refine at_block_n ?_
              exact at_metH2 rfl rfl rfl _ (remL 146 b1 b2 (b) (((a % b : Nat) : Int))) ⟨a % b, Nat.mod_lt _ hbp, b, a % b, pre ++ [a], rfl, rfl, rfl, hI1.trans hI2, hJ1, by rw [hrem, remN_step ha0 (by omega) hab, List.append_assoc]; rfl, by omega, by omega, by have := Nat.mod_lt a hbp; omega⟩ (.cons rfl (.cons rfl (.cons rfl .nil))) .refl
        · skip
          refine XO_v0 (ev_max rfl rfl) rfl rfl rfl ?_
          refine XO_nil ?_
          refine at_D hD (by repeat (first | exact .refl | exact subL_nil | refine .keep ?_ | refine .drop ?_ | refine subL_add ?_)) ?_
          refine XD_two 0 4 rfl rfl (by kernel_rfl) ?_ ?_
          · skip
            refine XO_v0 (ev_load rfl sct_146 (fun hg => by first | exact Cell.h0 rfl | exact Cell.h1 rfl | exact Cell.h2 rfl | exact Cell.h3 rfl | exact Cell.h4 rfl | exact Cell.h5 rfl | (repeat (first | exact Cell.here rfl | apply Cell.there | apply Cell.app)))) rfl rfl rfl ?_
            refine XO_nil ?_
            refine at_D hD (by repeat (first | exact .refl | exact subL_nil | refine .keep ?_ | refine .drop ?_ | refine subL_add ?_)) ?_
            refine XD_two 4 5 rfl rfl (by kernel_rfl) ?_ ?_
            · skip
              refine XO_v0 (ev_rem rfl rfl (fun hg => by rw [maxI_one hbp]; omega)) rfl rfl rfl ?_
              refine XO_nil ?_
              refine at_D hD (by repeat (first | exact .refl | exact subL_nil | refine .keep ?_ | refine .drop ?_ | refine subL_add ?_)) ?_
              refine XD_one 5 rfl (by kernel_rfl) ?_
              refine XO_store rfl rfl szt_146 rfl rfl (by first | exact Upd.u0 | exact Upd.u1 | exact Upd.u2 | exact Upd.u3 | exact Upd.u4 | exact Upd.u5 | (repeat (first | exact Upd.here | apply Upd.there | apply upd_app))) rfl ?_
              refine XO_nil ?_
              refine at_D hD (by repeat (first | exact .refl | exact subL_nil | refine .keep ?_ | refine .drop ?_ | refine subL_add ?_)) ?_
              refine XD_one 6 rfl (by kernel_rfl) ?_
              refine XO_store rfl rfl szt_146 rfl rfl (by first | exact Upd.u0 | exact Upd.u1 | exact Upd.u2 | exact Upd.u3 | exact Upd.u4 | exact Upd.u5 | (repeat (first | exact Upd.here | apply Upd.there | apply upd_app))) rfl ?_
              refine XO_nil ?_
              refine at_D hD (by repeat (first | exact .refl | exact subL_nil | refine .keep ?_ | refine .drop ?_ | refine subL_add ?_)) ?_
              refine XD_done (by kernel_rfl) ?_
              refine at_noP ?_
              rw [show ((a : Int)).tmod (maxI (b : Int) 1) = ((a % b : Nat) : Int) by rw [maxI_one hbp, tmod_nat]]
              refine at_then ?_
              refine X_seq ?_
              refine X_region ?_
              refine XO_v0 (ev_load rfl sct_146 (fun hg => by first | exact Cell.h0 rfl | exact Cell.h1 rfl | exact Cell.h2 rfl | exact Cell.h3 rfl | exact Cell.h4 rfl | exact Cell.h5 rfl | (repeat (first | exact Cell.here rfl | apply Cell.there | apply Cell.app)))) rfl rfl rfl ?_
              refine XO_v0 (ev_cmp rfl rfl rfl) rfl rfl rfl ?_
              refine XO_nil ?_
              refine at_then ?_
              refine X_cond rfl (fun hc17 => ?_) (fun hc17 => ?_)
              · skip
                have hab : a % b = 0 := by have h := hc17; simp only [beq_iff_eq] at h; omega
                have hpre2 : (pre ++ [a]) ++ [b] <+: remN a0 b0 := by rw [hrem, remN_end ha0 (by omega) hab, List.append_assoc]; exact List.prefix_rfl
                refine X_seq ?_
                refine X_region ?_
                refine XO_v0 (ev_move rfl) rfl rfl rfl ?_
                refine XO_v0 (ev_load rfl sct_146 (fun hg => by first | exact Cell.h0 rfl | exact Cell.h1 rfl | exact Cell.h2 rfl | exact Cell.h3 rfl | exact Cell.h4 rfl | exact Cell.h5 rfl | (repeat (first | exact Cell.here rfl | apply Cell.there | apply Cell.app)))) rfl rfl rfl ?_
                refine XO_yield0 (vs := [_]) (Post := fun t I3 H3 => if t then J ((pre ++ [a]) ++ [b]) I3 H3 else Jx ((pre ++ [a]) ++ [b]) I3 H3) rfl rfl rfl rfl (hY (pre ++ [a]) b _ _ hpre2 (hI0.trans hI2) hJ1) ?_
                rintro t3 I3 H3 hI3 hP3
                refine XO_nil ?_
                refine at_then ?_
                refine X_ret ?_
                refine at_block_r ?_
                refine at_then_r ?_
                refine at_block_r ?_
                first
                | (refine at_ret0 rfl (fun w hw => ⟨_, I3, H3, rfl, hI1.trans (hI2.trans hI3), hw.drop, ?_⟩); cases t3 with | true => exact .inl (by rw [hrem, remN_end ha0 (by omega) hab]; simpa using hP3) | false => exact .inr ⟨_, hpre2, hP3⟩)
                | (refine at_norm (at_ret0 rfl (fun w hw => ⟨_, I2, H2, rfl, hI1.trans hI2, hw.drop, ?_⟩)); by_cases ha0 : a = 0; (obtain ⟨e1, e2⟩ := hno (by simp [conj, ha0]); subst e1; subst e2; subst ha0; exact .inl (by rw [hrem, remN_zero, List.append_nil]; exact hJk)); (have ht : t = false := (by simp [ha0] at hc10; exact hc10); subst ht; exact .inr ⟨_, rem_pre hrem ha0, hyes (by simp [conj]; exact ha0)⟩))
              · skip
                have hab : a % b ≠ 0 := by have h := hc17; simp only [beq_eq_false_iff_ne, ne_eq] at h; omega
                refine X_skip ?_
                refine at_block_n ?_
                exact at_metH2 rfl rfl rfl _ (remL 146 b1 b2 (b) (((a % b : Nat) : Int))) ⟨a % b, Nat.mod_lt _ hbp, b, a % b, pre ++ [a], rfl, rfl, rfl, hI1.trans hI2, hJ1, by rw [hrem, remN_step ha0 (by omega) hab, List.append_assoc]; rfl, by omega, by omega, by have := Nat.mod_lt a hbp; omega⟩ (.cons rfl (.cons rfl (.cons rfl .nil))) .refl
            · skip
              refine XO_store rfl rfl szt_146 rfl rfl (by first | exact Upd.u0 | exact Upd.u1 | exact Upd.u2 | exact Upd.u3 | exact Upd.u4 | exact Upd.u5 | (repeat (first | exact Upd.here | apply Upd.there | apply upd_app))) rfl ?_
              refine XO_nil ?_
              refine at_D hD (by repeat (first | exact .refl | exact subL_nil | refine .keep ?_ | refine .drop ?_ | refine subL_add ?_)) ?_
              refine XD_one 4 rfl (by kernel_rfl) ?_
              refine XO_v0 (ev_rem rfl rfl (fun hg => by rw [maxI_one hbp]; omega)) rfl rfl rfl ?_
              refine XO_nil ?_
              refine at_D hD (by repeat (first | exact .refl | exact subL_nil | refine .keep ?_ | refine .drop ?_ | refine subL_add ?_)) ?_
              refine XD_one 6 rfl (by kernel_rfl) ?_
              refine XO_store rfl rfl szt_146 rfl rfl (by first | exact Upd.u0 | exact Upd.u1 | exact Upd.u2 | exact Upd.u3 | exact Upd.u4 | exact Upd.u5 | (repeat (first | exact Upd.here | apply Upd.there | apply upd_app))) rfl ?_
              refine XO_nil ?_
              refine at_D hD (by repeat (first | exact .refl | exact subL_nil | refine .keep ?_ | refine .drop ?_ | refine subL_add ?_)) ?_
              refine XD_done (by kernel_rfl) ?_
              refine at_noP ?_
              rw [show ((a : Int)).tmod (maxI (b : Int) 1) = ((a % b : Nat) : Int) by rw [maxI_one hbp, tmod_nat]]
              refine at_then ?_
              refine X_seq ?_
              refine X_region ?_
              refine XO_v0 (ev_load rfl sct_146 (fun hg => by first | exact Cell.h0 rfl | exact Cell.h1 rfl | exact Cell.h2 rfl | exact Cell.h3 rfl | exact Cell.h4 rfl | exact Cell.h5 rfl | (repeat (first | exact Cell.here rfl | apply Cell.there | apply Cell.app)))) rfl rfl rfl ?_
              refine XO_v0 (ev_cmp rfl rfl rfl) rfl rfl rfl ?_
              refine XO_nil ?_
              refine at_then ?_
              refine X_cond rfl (fun hc17 => ?_) (fun hc17 => ?_)
              · skip
                have hab : a % b = 0 := by have h := hc17; simp only [beq_iff_eq] at h; omega
                have hpre2 : (pre ++ [a]) ++ [b] <+: remN a0 b0 := by rw [hrem, remN_end ha0 (by omega) hab, List.append_assoc]; exact List.prefix_rfl
                refine X_seq ?_
                refine X_region ?_
                refine XO_v0 (ev_move rfl) rfl rfl rfl ?_
                refine XO_v0 (ev_load rfl sct_146 (fun hg => by first | exact Cell.h0 rfl | exact Cell.h1 rfl | exact Cell.h2 rfl | exact Cell.h3 rfl | exact Cell.h4 rfl | exact Cell.h5 rfl | (repeat (first | exact Cell.here rfl | apply Cell.there | apply Cell.app)))) rfl rfl rfl ?_
                refine XO_yield0 (vs := [_]) (Post := fun t I3 H3 => if t then J ((pre ++ [a]) ++ [b]) I3 H3 else Jx ((pre ++ [a]) ++ [b]) I3 H3) rfl rfl rfl rfl (hY (pre ++ [a]) b _ _ hpre2 (hI0.trans hI2) hJ1) ?_
                rintro t3 I3 H3 hI3 hP3
                refine XO_nil ?_
                refine at_then ?_
                refine X_ret ?_
                refine at_block_r ?_
                refine at_then_r ?_
                refine at_block_r ?_
                first
                | (refine at_ret0 rfl (fun w hw => ⟨_, I3, H3, rfl, hI1.trans (hI2.trans hI3), hw.drop, ?_⟩); cases t3 with | true => exact .inl (by rw [hrem, remN_end ha0 (by omega) hab]; simpa using hP3) | false => exact .inr ⟨_, hpre2, hP3⟩)
                | (refine at_norm (at_ret0 rfl (fun w hw => ⟨_, I2, H2, rfl, hI1.trans hI2, hw.drop, ?_⟩)); by_cases ha0 : a = 0; (obtain ⟨e1, e2⟩ := hno (by simp [conj, ha0]); subst e1; subst e2; subst ha0; exact .inl (by rw [hrem, remN_zero, List.append_nil]; exact hJk)); (have ht : t = false := (by simp [ha0] at hc10; exact hc10); subst ht; exact .inr ⟨_, rem_pre hrem ha0, hyes (by simp [conj]; exact ha0)⟩))
              · skip
                have hab : a % b ≠ 0 := by have h := hc17; simp only [beq_eq_false_iff_ne, ne_eq] at h; omega
                refine X_skip ?_
                refine at_block_n ?_
                exact at_metH2 rfl rfl rfl _ (remL 146 b1 b2 (b) (((a % b : Nat) : Int))) ⟨a % b, Nat.mod_lt _ hbp, b, a % b, pre ++ [a], rfl, rfl, rfl, hI1.trans hI2, hJ1, by rw [hrem, remN_step ha0 (by omega) hab, List.append_assoc]; rfl, by omega, by omega, by have := Nat.mod_lt a hbp; omega⟩ (.cons rfl (.cons rfl (.cons rfl .nil))) .refl
          · skip
            refine XO_v0 (ev_rem rfl rfl (fun hg => by rw [maxI_one hbp]; omega)) rfl rfl rfl ?_
            refine XO_nil ?_
            refine at_D hD (by repeat (first | exact .refl | exact subL_nil | refine .keep ?_ | refine .drop ?_ | refine subL_add ?_)) ?_
            refine XD_one 0 rfl (by kernel_rfl) ?_
            refine XO_v0 (ev_load rfl sct_146 (fun hg => by first | exact Cell.h0 rfl | exact Cell.h1 rfl | exact Cell.h2 rfl | exact Cell.h3 rfl | exact Cell.h4 rfl | exact Cell.h5 rfl | (repeat (first | exact Cell.here rfl | apply Cell.there | apply Cell.app)))) rfl rfl rfl ?_
            refine XO_nil ?_
            refine at_D hD (by repeat (first | exact .refl | exact subL_nil | refine .keep ?_ | refine .drop ?_ | refine subL_add ?_)) ?_
            refine XD_one 5 rfl (by kernel_rfl) ?_
            refine XO_store rfl rfl szt_146 rfl rfl (by first | exact Upd.u0 | exact Upd.u1 | exact Upd.u2 | exact Upd.u3 | exact Upd.u4 | exact Upd.u5 | (repeat (first | exact Upd.here | apply Upd.there | apply upd_app))) rfl ?_
            refine XO_nil ?_
            refine at_D hD (by repeat (first | exact .refl | exact subL_nil | refine .keep ?_ | refine .drop ?_ | refine subL_add ?_)) ?_
            refine XD_one 6 rfl (by kernel_rfl) ?_
            refine XO_store rfl rfl szt_146 rfl rfl (by first | exact Upd.u0 | exact Upd.u1 | exact Upd.u2 | exact Upd.u3 | exact Upd.u4 | exact Upd.u5 | (repeat (first | exact Upd.here | apply Upd.there | apply upd_app))) rfl ?_
            refine XO_nil ?_
            refine at_D hD (by repeat (first | exact .refl | exact subL_nil | refine .keep ?_ | refine .drop ?_ | refine subL_add ?_)) ?_
            refine XD_done (by kernel_rfl) ?_
            refine at_noP ?_
            rw [show ((a : Int)).tmod (maxI (b : Int) 1) = ((a % b : Nat) : Int) by rw [maxI_one hbp, tmod_nat]]
            refine at_then ?_
            refine X_seq ?_
            refine X_region ?_
            refine XO_v0 (ev_load rfl sct_146 (fun hg => by first | exact Cell.h0 rfl | exact Cell.h1 rfl | exact Cell.h2 rfl | exact Cell.h3 rfl | exact Cell.h4 rfl | exact Cell.h5 rfl | (repeat (first | exact Cell.here rfl | apply Cell.there | apply Cell.app)))) rfl rfl rfl ?_
            refine XO_v0 (ev_cmp rfl rfl rfl) rfl rfl rfl ?_
            refine XO_nil ?_
            refine at_then ?_
            refine X_cond rfl (fun hc17 => ?_) (fun hc17 => ?_)
            · skip
              have hab : a % b = 0 := by have h := hc17; simp only [beq_iff_eq] at h; omega
              have hpre2 : (pre ++ [a]) ++ [b] <+: remN a0 b0 := by rw [hrem, remN_end ha0 (by omega) hab, List.append_assoc]; exact List.prefix_rfl
              refine X_seq ?_
              refine X_region ?_
              refine XO_v0 (ev_move rfl) rfl rfl rfl ?_
              refine XO_v0 (ev_load rfl sct_146 (fun hg => by first | exact Cell.h0 rfl | exact Cell.h1 rfl | exact Cell.h2 rfl | exact Cell.h3 rfl | exact Cell.h4 rfl | exact Cell.h5 rfl | (repeat (first | exact Cell.here rfl | apply Cell.there | apply Cell.app)))) rfl rfl rfl ?_
              refine XO_yield0 (vs := [_]) (Post := fun t I3 H3 => if t then J ((pre ++ [a]) ++ [b]) I3 H3 else Jx ((pre ++ [a]) ++ [b]) I3 H3) rfl rfl rfl rfl (hY (pre ++ [a]) b _ _ hpre2 (hI0.trans hI2) hJ1) ?_
              rintro t3 I3 H3 hI3 hP3
              refine XO_nil ?_
              refine at_then ?_
              refine X_ret ?_
              refine at_block_r ?_
              refine at_then_r ?_
              refine at_block_r ?_
              first
              | (refine at_ret0 rfl (fun w hw => ⟨_, I3, H3, rfl, hI1.trans (hI2.trans hI3), hw.drop, ?_⟩); cases t3 with | true => exact .inl (by rw [hrem, remN_end ha0 (by omega) hab]; simpa using hP3) | false => exact .inr ⟨_, hpre2, hP3⟩)
              | (refine at_norm (at_ret0 rfl (fun w hw => ⟨_, I2, H2, rfl, hI1.trans hI2, hw.drop, ?_⟩)); by_cases ha0 : a = 0; (obtain ⟨e1, e2⟩ := hno (by simp [conj, ha0]); subst e1; subst e2; subst ha0; exact .inl (by rw [hrem, remN_zero, List.append_nil]; exact hJk)); (have ht : t = false := (by simp [ha0] at hc10; exact hc10); subst ht; exact .inr ⟨_, rem_pre hrem ha0, hyes (by simp [conj]; exact ha0)⟩))
            · skip
              have hab : a % b ≠ 0 := by have h := hc17; simp only [beq_eq_false_iff_ne, ne_eq] at h; omega
              refine X_skip ?_
              refine at_block_n ?_
              exact at_metH2 rfl rfl rfl _ (remL 146 b1 b2 (b) (((a % b : Nat) : Int))) ⟨a % b, Nat.mod_lt _ hbp, b, a % b, pre ++ [a], rfl, rfl, rfl, hI1.trans hI2, hJ1, by rw [hrem, remN_step ha0 (by omega) hab, List.append_assoc]; rfl, by omega, by omega, by have := Nat.mod_lt a hbp; omega⟩ (.cons rfl (.cons rfl (.cons rfl .nil))) .refl
      · skip
        refine XO_v0 (ev_max rfl rfl) rfl rfl rfl ?_
        refine XO_nil ?_
        refine at_D hD (by repeat (first | exact .refl | exact subL_nil | refine .keep ?_ | refine .drop ?_ | refine subL_add ?_)) ?_
        refine XD_two 0 1 rfl rfl (by kernel_rfl) ?_ ?_
        · skip
          refine XO_v0 (ev_load rfl sct_146 (fun hg => by first | exact Cell.h0 rfl | exact Cell.h1 rfl | exact Cell.h2 rfl | exact Cell.h3 rfl | exact Cell.h4 rfl | exact Cell.h5 rfl | (repeat (first | exact Cell.here rfl | apply Cell.there | apply Cell.app)))) rfl rfl rfl ?_
          refine XO_nil ?_
          refine at_D hD (by repeat (first | exact .refl | exact subL_nil | refine .keep ?_ | refine .drop ?_ | refine subL_add ?_)) ?_
          refine XD_one 1 rfl (by kernel_rfl) ?_
          refine XO_v0 (ev_load rfl sct_146 (fun hg => by first | exact Cell.h0 rfl | exact Cell.h1 rfl | exact Cell.h2 rfl | exact Cell.h3 rfl | exact Cell.h4 rfl | exact Cell.h5 rfl | (repeat (first | exact Cell.here rfl | apply Cell.there | apply Cell.app)))) rfl rfl rfl ?_
          refine XO_nil ?_
          refine at_D hD (by repeat (first | exact .refl | exact subL_nil | refine .keep ?_ | refine .drop ?_ | refine subL_add ?_)) ?_
          refine XD_two 4 5 rfl rfl (by kernel_rfl) ?_ ?_
          · skip
            refine XO_v0 (ev_rem rfl rfl (fun hg => by rw [maxI_one hbp]; omega)) rfl rfl rfl ?_
            refine XO_nil ?_
            refine at_D hD (by repeat (first | exact .refl | exact subL_nil | refine .keep ?_ | refine .drop ?_ | refine subL_add ?_)) ?_
            refine XD_one 5 rfl (by kernel_rfl) ?_
            refine XO_store rfl rfl szt_146 rfl rfl (by first | exact Upd.u0 | exact Upd.u1 | exact Upd.u2 | exact Upd.u3 | exact Upd.u4 | exact Upd.u5 | (repeat (first | exact Upd.here | apply Upd.there | apply upd_app))) rfl ?_
            refine XO_nil ?_
            refine at_D hD (by repeat (first | exact .refl | exact subL_nil | refine .keep ?_ | refine .drop ?_ | refine subL_add ?_)) ?_
            refine XD_one 6 rfl (by kernel_rfl) ?_
            refine XO_store rfl rfl szt_146 rfl rfl (by first | exact Upd.u0 | exact Upd.u1 | exact Upd.u2 | exact Upd.u3 | exact Upd.u4 | exact Upd.u5 | (repeat (first | exact Upd.here | apply Upd.there | apply upd_app))) rfl ?_
            refine XO_nil ?_
            refine at_D hD (by repeat (first | exact .refl | exact subL_nil | refine .keep ?_ | refine .drop ?_ | refine subL_add ?_)) ?_
            refine XD_done (by kernel_rfl) ?_
            refine at_noP ?_
            rw [show ((a : Int)).tmod (maxI (b : Int) 1) = ((a % b : Nat) : Int) by rw [maxI_one hbp, tmod_nat]]
            refine at_then ?_
            refine X_seq ?_
            refine X_region ?_
            refine XO_v0 (ev_load rfl sct_146 (fun hg => by first | exact Cell.h0 rfl | exact Cell.h1 rfl | exact Cell.h2 rfl | exact Cell.h3 rfl | exact Cell.h4 rfl | exact Cell.h5 rfl | (repeat (first | exact Cell.here rfl | apply Cell.there | apply Cell.app)))) rfl rfl rfl ?_
            refine XO_v0 (ev_cmp rfl rfl rfl) rfl rfl rfl ?_
            refine XO_nil ?_
            refine at_then ?_
            refine X_cond rfl (fun hc17 => ?_) (fun hc17 => ?_)
            · skip
              have hab : a % b = 0 := by have h := hc17; simp only [beq_iff_eq] at h; omega
              have hpre2 : (pre ++ [a]) ++ [b] <+: remN a0 b0 := by rw [hrem, remN_end ha0 (by omega) hab, List.append_assoc]; exact List.prefix_rfl
              refine X_seq ?_
              refine X_region ?_
              refine XO_v0 (ev_move rfl) rfl rfl rfl ?_
              refine XO_v0 (ev_load rfl sct_146 (fun hg => by first | exact Cell.h0 rfl | exact Cell.h1 rfl | exact Cell.h2 rfl | exact Cell.h3 rfl | exact Cell.h4 rfl | exact Cell.h5 rfl | (repeat (first | exact Cell.here rfl | apply Cell.there | apply Cell.app)))) rfl rfl rfl ?_
              refine XO_yield0 (vs := [_]) (Post := fun t I3 H3 => if t then J ((pre ++ [a]) ++ [b]) I3 H3 else Jx ((pre ++ [a]) ++ [b]) I3 H3) rfl rfl rfl rfl (hY (pre ++ [a]) b _ _ hpre2 (hI0.trans hI2) hJ1) ?_
              rintro t3 I3 H3 hI3 hP3
              refine XO_nil ?_
              refine at_then ?_
              refine X_ret ?_
              refine at_block_r ?_
              refine at_then_r ?_
              refine at_block_r ?_
              first
              | (refine at_ret0 rfl (fun w hw => ⟨_, I3, H3, rfl, hI1.trans (hI2.trans hI3), hw.drop, ?_⟩); cases t3 with | true => exact .inl (by rw [hrem, remN_end ha0 (by omega) hab]; simpa using hP3) | false => exact .inr ⟨_, hpre2, hP3⟩)
              | (refine at_norm (at_ret0 rfl (fun w hw => ⟨_, I2, H2, rfl, hI1.trans hI2, hw.drop, ?_⟩)); by_cases ha0 : a = 0; (obtain ⟨e1, e2⟩ := hno (by simp [conj, ha0]); subst e1; subst e2; subst ha0; exact .inl (by rw [hrem, remN_zero, List.append_nil]; exact hJk)); (have ht : t = false := (by simp [ha0] at hc10; exact hc10); subst ht; exact .inr ⟨_, rem_pre hrem ha0, hyes (by simp [conj]; exact ha0)⟩))
            · skip
              have hab : a % b ≠ 0 := by have h := hc17; simp only [beq_eq_false_iff_ne, ne_eq] at h; omega
              refine X_skip ?_
              refine at_block_n ?_
              exact at_metH2 rfl rfl rfl _ (remL 146 b1 b2 (b) (((a % b : Nat) : Int))) ⟨a % b, Nat.mod_lt _ hbp, b, a % b, pre ++ [a], rfl, rfl, rfl, hI1.trans hI2, hJ1, by rw [hrem, remN_step ha0 (by omega) hab, List.append_assoc]; rfl, by omega, by omega, by have := Nat.mod_lt a hbp; omega⟩ (.cons rfl (.cons rfl (.cons rfl .nil))) .refl
          · skip
            refine XO_store rfl rfl szt_146 rfl rfl (by first | exact Upd.u0 | exact Upd.u1 | exact Upd.u2 | exact Upd.u3 | exact Upd.u4 | exact Upd.u5 | (repeat (first | exact Upd.here | apply Upd.there | apply upd_app))) rfl ?_
            refine XO_nil ?_
            refine at_D hD (by repeat (first | exact .refl | exact subL_nil | refine .keep ?_ | refine .drop ?_ | refine subL_add ?_)) ?_
            refine XD_one 4 rfl (by kernel_rfl) ?_
            refine XO_v0 (ev_rem rfl rfl (fun hg => by rw [maxI_one hbp]; omega)) rfl rfl rfl ?_
            refine XO_nil ?_
            refine at_D hD (by repeat (first | exact .refl | exact subL_nil | refine .keep ?_ | refine .drop ?_ | refine subL_add ?_)) ?_
            refine XD_one 6 rfl (by kernel_rfl) ?_
            refine XO_store rfl rfl szt_146 rfl rfl (by first | exact Upd.u0 | exact Upd.u1 | exact Upd.u2 | exact Upd.u3 | exact Upd.u4 | exact Upd.u5 | (repeat (first | exact Upd.here | apply Upd.there | apply upd_app))) rfl ?_
            refine XO_nil ?_
            refine at_D hD (by repeat (first | exact .refl | exact subL_nil | refine .keep ?_ | refine .drop ?_ | refine subL_add ?_)) ?_
            refine XD_done (by kernel_rfl) ?_
            refine at_noP ?_
            rw [show ((a : Int)).tmod (maxI (b : Int) 1) = ((a % b : Nat) : Int) by rw [maxI_one hbp, tmod_nat]]
            refine at_then ?_
            refine X_seq ?_
            refine X_region ?_
            refine XO_v0 (ev_load rfl sct_146 (fun hg => by first | exact Cell.h0 rfl | exact Cell.h1 rfl | exact Cell.h2 rfl | exact Cell.h3 rfl | exact Cell.h4 rfl | exact Cell.h5 rfl | (repeat (first | exact Cell.here rfl | apply Cell.there | apply Cell.app)))) rfl rfl rfl ?_
            refine XO_v0 (ev_cmp rfl rfl rfl) rfl rfl rfl ?_
            refine XO_nil ?_
            refine at_then ?_
            refine X_cond rfl (fun hc17 => ?_) (fun hc17 => ?_)
            · skip
              have hab : a % b = 0 := by have h := hc17; simp only [beq_iff_eq] at h; omega
              have hpre2 : (pre ++ [a]) ++ [b] <+: remN a0 b0 := by rw [hrem, remN_end ha0 (by omega) hab, List.append_assoc]; exact List.prefix_rfl
              refine X_seq ?_
              refine X_region ?_
              refine XO_v0 (ev_move rfl) rfl rfl rfl ?_
              refine XO_v0 (ev_load rfl sct_146 (fun hg => by first | exact Cell.h0 rfl | exact Cell.h1 rfl | exact Cell.h2 rfl | exact Cell.h3 rfl | exact Cell.h4 rfl | exact Cell.h5 rfl | (repeat (first | exact Cell.here rfl | apply Cell.there | apply Cell.app)))) rfl rfl rfl ?_
              refine XO_yield0 (vs := [_]) (Post := fun t I3 H3 => if t then J ((pre ++ [a]) ++ [b]) I3 H3 else Jx ((pre ++ [a]) ++ [b]) I3 H3) rfl rfl rfl rfl (hY (pre ++ [a]) b _ _ hpre2 (hI0.trans hI2) hJ1) ?_
              rintro t3 I3 H3 hI3 hP3
              refine XO_nil ?_
              refine at_then ?_
              refine X_ret ?_
              refine at_block_r ?_
              refine at_then_r ?_
              refine at_block_r ?_
              first
              | (refine at_ret0 rfl (fun w hw => ⟨_, I3, H3, rfl, hI1.trans (hI2.trans hI3), hw.drop, ?_⟩); cases t3 with | true => exact .inl (by rw [hrem, remN_end ha0 (by omega) hab]; simpa using hP3) | false => exact .inr ⟨_, hpre2, hP3⟩)
              | (refine at_norm (at_ret0 rfl (fun w hw => ⟨_, I2, H2, rfl, hI1.trans hI2, hw.drop, ?_⟩)); by_cases ha0 : a = 0; (obtain ⟨e1, e2⟩ := hno (by simp [conj, ha0]); subst e1; subst e2; subst ha0; exact .inl (by rw [hrem, remN_zero, List.append_nil]; exact hJk)); (have ht : t = false := (by simp [ha0] at hc10; exact hc10); subst ht; exact .inr ⟨_, rem_pre hrem ha0, hyes (by simp [conj]; exact ha0)⟩))
            · skip
              have hab : a % b ≠ 0 := by have h := hc17; simp only [beq_eq_false_iff_ne, ne_eq] at h; omega
              refine X_skip ?_
              refine at_block_n ?_
              exact at_metH2 rfl rfl rfl _ (remL 146 b1 b2 (b) (((a % b : Nat) : Int))) ⟨a % b, Nat.mod_lt _ hbp, b, a % b, pre ++ [a], rfl, rfl, rfl, hI1.trans hI2, hJ1, by rw [hrem, remN_step ha0 (by omega) hab, List.append_assoc]; rfl, by omega, by omega, by have := Nat.mod_lt a hbp; omega⟩ (.cons rfl (.cons rfl (.cons rfl .nil))) .refl
        · skip
          refine XO_v0 (ev_load rfl sct_146 (fun hg => by first | exact Cell.h0 rfl | exact Cell.h1 rfl | exact Cell.h2 rfl | exact Cell.h3 rfl | exact Cell.h4 rfl | exact Cell.h5 rfl | (repeat (first | exact Cell.here rfl | apply Cell.there | apply Cell.app)))) rfl rfl rfl ?_
          refine XO_nil ?_
          refine at_D hD (by repeat (first | exact .refl | exact subL_nil | refine .keep ?_ | refine .drop ?_ | refine subL_add ?_)) ?_
          refine XD_two 0 4 rfl rfl (by kernel_rfl) ?_ ?_
          · skip
            refine XO_v0 (ev_load rfl sct_146 (fun hg => by first | exact Cell.h0 rfl | exact Cell.h1 rfl | exact Cell.h2 rfl | exact Cell.h3 rfl | exact Cell.h4 rfl | exact Cell.h5 rfl | (repeat (first | exact Cell.here rfl | apply Cell.there | apply Cell.app)))) rfl rfl rfl ?_
            refine XO_nil ?_
            refine at_D hD (by repeat (first | exact .refl | exact subL_nil | refine .keep ?_ | refine .drop ?_ | refine subL_add ?_)) ?_
            refine XD_two 4 5 rfl rfl (by kernel_rfl) ?_ ?_
            · skip
              refine XO_v0 (ev_rem rfl rfl (fun hg => by rw [maxI_one hbp]; omega)) rfl rfl rfl ?_
              refine XO_nil ?_
              refine at_D hD (by repeat (first | exact .refl | exact subL_nil | refine .keep ?_ | refine .drop ?_ | refine subL_add ?_)) ?_
              refine XD_one 5 rfl (by kernel_rfl) ?_
              refine XO_store rfl rfl szt_146 rfl rfl (by first | exact Upd.u0 | exact Upd.u1 | exact Upd.u2 | exact Upd.u3 | exact Upd.u4 | exact Upd.u5 | (repeat (first | exact Upd.here | apply Upd.there | apply upd_app))) rfl ?_
              refine XO_nil ?_
              refine at_D hD (by repeat (first | exact .refl | exact subL_nil | refine .keep ?_ | refine .drop ?_ | refine subL_add ?_)) ?_
              refine XD_one 6 rfl (by kernel_rfl) ?_
              refine XO_store rfl rfl szt_146 rfl rfl (by first | exact Upd.u0 | exact Upd.u1 | exact Upd.u2 | exact Upd.u3 | exact Upd.u4 | exact Upd.u5 | (repeat (first | exact Upd.here | apply Upd.there | apply upd_app))) rfl ?_
              refine XO_nil ?_
              refine at_D hD (by repeat (first | exact .refl | exact subL_nil | refine .keep ?_ | refine .drop ?_ | refine subL_add ?_)) ?_
              refine XD_done (by kernel_rfl) ?_
              refine at_noP ?_
              rw [show ((a : Int)).tmod (maxI (b : Int) 1) = ((a % b : Nat) : Int) by rw [maxI_one hbp, tmod_nat]]
              refine at_then ?_
              refine X_seq ?_
              refine X_region ?_
              refine XO_v0 (ev_load rfl sct_146 (fun hg => by first | exact Cell.h0 rfl | exact Cell.h1 rfl | exact Cell.h2 rfl | exact Cell.h3 rfl | exact Cell.h4 rfl | exact Cell.h5 rfl | (repeat (first | exact Cell.here rfl | apply Cell.there | apply Cell.app)))) rfl rfl rfl ?_
              refine XO_v0 (ev_cmp rfl rfl rfl) rfl rfl rfl ?_
              refine XO_nil ?_
              refine at_then ?_
              refine X_cond rfl (fun hc17 => ?_) (fun hc17 => ?_)
              · skip
                have hab : a % b = 0 := by have h := hc17; simp only [beq_iff_eq] at h; omega
                have hpre2 : (pre ++ [a]) ++ [b] <+: remN a0 b0 := by rw [hrem, remN_end ha0 (by omega) hab, List.append_assoc]; exact List.prefix_rfl
                refine X_seq ?_
                refine X_region ?_
                refine XO_v0 (ev_move rfl) rfl rfl rfl ?_
                refine XO_v0 (ev_load rfl sct_146 (fun hg => by first | exact Cell.h0 rfl | exact Cell.h1 rfl | exact Cell.h2 rfl | exact Cell.h3 rfl | exact Cell.h4 rfl | exact Cell.h5 rfl | (repeat (first | exact Cell.here rfl | apply Cell.there | apply Cell.app)))) rfl rfl rfl ?_
                refine XO_yield0 (vs := [_]) (Post := fun t I3 H3 => if t then J ((pre ++ [a]) ++ [b]) I3 H3 else Jx ((pre ++ [a]) ++ [b]) I3 H3) rfl rfl rfl rfl (hY (pre ++ [a]) b _ _ hpre2 (hI0.trans hI2) hJ1) ?_
                rintro t3 I3 H3 hI3 hP3
                refine XO_nil ?_
                refine at_then ?_
                refine X_ret ?_
                refine at_block_r ?_
                refine at_then_r ?_
                refine at_block_r ?_
                first
                | (refine at_ret0 rfl (fun w hw => ⟨_, I3, H3, rfl, hI1.trans (hI2.trans hI3), hw.drop, ?_⟩); cases t3 with | true => exact .inl (by rw [hrem, remN_end ha0 (by omega) hab]; simpa using hP3) | false => exact .inr ⟨_, hpre2, hP3⟩)
                | (refine at_norm (at_ret0 rfl (fun w hw => ⟨_, I2, H2, rfl, hI1.trans hI2, hw.drop, ?_⟩)); by_cases ha0 : a = 0; (obtain ⟨e1, e2⟩ := hno (by simp [conj, ha0]); subst e1; subst e2; subst ha0; exact .inl (by rw [hrem, remN_zero, List.append_nil]; exact hJk)); (have ht : t = false := (by simp [ha0] at hc10; exact hc10); subst ht; exact .inr ⟨_, rem_pre hrem ha0, hyes (by simp [conj]; exact ha0)⟩))
              · skip
                have hab : a % b ≠ 0 := by have h := hc17; simp only [beq_eq_false_iff_ne, ne_eq] at h; omega
                refine X_skip ?_
                refine at_block_n ?_
                exact at_metH2 rfl rfl rfl _ (remL 146 b1 b2 (b) (((a % b : Nat) : Int))) ⟨a % b, Nat.mod_lt _ hbp, b, a % b, pre ++ [a], rfl, rfl, rfl, hI1.trans hI2, hJ1, by rw [hrem, remN_step ha0 (by omega) hab, List.append_assoc]; rfl, by omega, by omega, by have := Nat.mod_lt a hbp; omega⟩ (.cons rfl (.cons rfl (.cons rfl .nil))) .refl
            · skip
              refine XO_store rfl rfl szt_146 rfl rfl (by first | exact Upd.u0 | exact Upd.u1 | exact Upd.u2 | exact Upd.u3 | exact Upd.u4 | exact Upd.u5 | (repeat (first | exact Upd.here | apply Upd.there | apply upd_app))) rfl ?_
              refine XO_nil ?_
              refine at_D hD (by repeat (first | exact .refl | exact subL_nil | refine .keep ?_ | refine .drop ?_ | refine subL_add ?_)) ?_
              refine XD_one 4 rfl (by kernel_rfl) ?_
              refine XO_v0 (ev_rem rfl rfl (fun hg => by rw [maxI_one hbp]; omega)) rfl rfl rfl ?_
              refine XO_nil ?_
              refine at_D hD (by repeat (first | exact .refl | exact subL_nil | refine .keep ?_ | refine .drop ?_ | refine subL_add ?_)) ?_
              refine XD_one 6 rfl (by kernel_rfl) ?_
              refine XO_store rfl rfl szt_146 rfl rfl (by first | exact Upd.u0 | exact Upd.u1 | exact Upd.u2 | exact Upd.u3 | exact Upd.u4 | exact Upd.u5 | (repeat (first | exact Upd.here | apply Upd.there | apply upd_app))) rfl ?_
              refine XO_nil ?_
              refine at_D hD (by repeat (first | exact .refl | exact subL_nil | refine .keep ?_ | refine .drop ?_ | refine subL_add ?_)) ?_
              refine XD_done (by kernel_rfl) ?_
              refine at_noP ?_
              rw [show ((a : Int)).tmod (maxI (b : Int) 1) = ((a % b : Nat) : Int) by rw [maxI_one hbp, tmod_nat]]
              refine at_then ?_
              refine X_seq ?_
              refine X_region ?_
              refine XO_v0 (ev_load rfl sct_146 (fun hg => by first | exact Cell.h0 rfl | exact Cell.h1 rfl | exact Cell.h2 rfl | exact Cell.h3 rfl | exact Cell.h4 rfl | exact Cell.h5 rfl | (repeat (first | exact Cell.here rfl | apply Cell.there | apply Cell.app)))) rfl rfl rfl ?_
              refine XO_v0 (ev_cmp rfl rfl rfl) rfl rfl rfl ?_
              refine XO_nil ?_
              refine at_then ?_
              refine X_cond rfl (fun hc17 => ?_) (fun hc17 => ?_)
              · skip
                have hab : a % b = 0 := by have h := hc17; simp only [beq_iff_eq] at h; omega
                have hpre2 : (pre ++ [a]) ++ [b] <+: remN a0 b0 := by rw [hrem, remN_end ha0 (by omega) hab, List.append_assoc]; exact List.prefix_rfl
                refine X_seq ?_
                refine X_region ?_
                refine XO_v0 (ev_move rfl) rfl rfl rfl ?_
                refine XO_v0 (ev_load rfl sct_146 (fun hg => by first | exact Cell.h0 rfl | exact Cell.h1 rfl | exact Cell.h2 rfl | exact Cell.h3 rfl | exact Cell.h4 rfl | exact Cell.h5 rfl | (repeat (first | exact Cell.here rfl | apply Cell.there | apply Cell.app)))) rfl rfl rfl ?_
                refine XO_yield0 (vs := [_]) (Post := fun t I3 H3 => if t then J ((pre ++ [a]) ++ [b]) I3 H3 else Jx ((pre ++ [a]) ++ [b]) I3 H3) rfl rfl rfl rfl (hY (pre ++ [a]) b _ _ hpre2 (hI0.trans hI2) hJ1) ?_
                rintro t3 I3 H3 hI3 hP3
                refine XO_nil ?_
                refine at_then ?_
                refine X_ret ?_
                refine at_block_r ?_
                refine at_then_r ?_
                refine at_block_r ?_
                first
                | (refine at_ret0 rfl (fun w hw => ⟨_, I3, H3, rfl, hI1.trans (hI2.trans hI3), hw.drop, ?_⟩); cases t3 with | true => exact .inl (by rw [hrem, remN_end ha0 (by omega) hab]; simpa using hP3) | false => exact .inr ⟨_, hpre2, hP3⟩)
                | (refine at_norm (at_ret0 rfl (fun w hw => ⟨_, I2, H2, rfl, hI1.trans hI2, hw.drop, ?_⟩)); by_cases ha0 : a = 0; (obtain ⟨e1, e2⟩ := hno (by simp [conj, ha0]); subst e1; subst e2; subst ha0; exact .inl (by rw [hrem, remN_zero, List.append_nil]; exact hJk)); (have ht : t = false := (by simp [ha0] at hc10; exact hc10); subst ht; exact .inr ⟨_, rem_pre hrem ha0, hyes (by simp [conj]; exact ha0)⟩))
              · skip
                have hab : a % b ≠ 0 := by have h := hc17; simp only [beq_eq_false_iff_ne, ne_eq] at h; omega
                refine X_skip ?_
                refine at_block_n ?_
                exact at_metH2 rfl rfl rfl _ (remL 146 b1 b2 (b) (((a % b : Nat) : Int))) ⟨a % b, Nat.mod_lt _ hbp, b, a % b, pre ++ [a], rfl, rfl, rfl, hI1.trans hI2, hJ1, by rw [hrem, remN_step ha0 (by omega) hab, List.append_assoc]; rfl, by omega, by omega, by have := Nat.mod_lt a hbp; omega⟩ (.cons rfl (.cons rfl (.cons rfl .nil))) .refl
          · skip
            refine XO_v0 (ev_rem rfl rfl (fun hg => by rw [maxI_one hbp]; omega)) rfl rfl rfl ?_
            refine XO_nil ?_
            refine at_D hD (by repeat (first | exact .refl | exact subL_nil | refine .keep ?_ | refine .drop ?_ | refine subL_add ?_)) ?_
            refine XD_one 0 rfl (by kernel_rfl) ?_
            refine XO_v0 (ev_load rfl sct_146 (fun hg => by first | exact Cell.h0 rfl | exact Cell.h1 rfl | exact Cell.h2 rfl | exact Cell.h3 rfl | exact Cell.h4 rfl | exact Cell.h5 rfl | (repeat (first | exact Cell.here rfl | apply Cell.there | apply Cell.app)))) rfl rfl rfl ?_
            refine XO_nil ?_
            refine at_D hD (by repeat (first | exact .refl | exact subL_nil | refine .keep ?_ | refine .drop ?_ | refine subL_add ?_)) ?_
            refine XD_one 5 rfl (by kernel_rfl) ?_
            refine XO_store rfl rfl szt_146 rfl rfl (by first | exact Upd.u0 | exact Upd.u1 | exact Upd.u2 | exact Upd.u3 | exact Upd.u4 | exact Upd.u5 | (repeat (first | exact Upd.here | apply Upd.there | apply upd_app))) rfl ?_
            refine XO_nil ?_
            refine at_D hD (by repeat (first | exact .refl | exact subL_nil | refine .keep ?_ | refine .drop ?_ | refine subL_add ?_)) ?_
            refine XD_one 6 rfl (by kernel_rfl) ?_
            refine XO_store rfl rfl szt_146 rfl rfl (by first | exact Upd.u0 | exact Upd.u1 | exact Upd.u2 | exact Upd.u3 | exact Upd.u4 | exact Upd.u5 | (repeat (first | exact Upd.here | apply Upd.there | apply upd_app))) rfl ?_
            refine XO_nil ?_
            refine at_D hD (by repeat (first | exact .refl | exact subL_nil | refine .keep ?_ | refine .drop ?_ | refine subL_add ?_)) ?_
            refine XD_done (by kernel_rfl) ?_
            refine at_noP ?_
            rw [show ((a : Int)).tmod (maxI (b : Int) 1) = ((a % b : Nat) : Int) by rw [maxI_one hbp, tmod_nat]]
            refine at_then ?_
            refine X_seq ?_
            refine X_region ?_
            refine XO_v0 (ev_load rfl sct_146 (fun hg => by first | exact Cell.h0 rfl | exact Cell.h1 rfl | exact Cell.h2 rfl | exact Cell.h3 rfl | exact Cell.h4 rfl | exact Cell.h5 rfl | (repeat (first | exact Cell.here rfl | apply Cell.there | apply Cell.app)))) rfl rfl rfl ?_
            refine XO_v0 (ev_cmp rfl rfl rfl) rfl rfl rfl ?_
            refine XO_nil ?_
            refine at_then ?_
            refine X_cond rfl (fun hc17 => ?_) (fun hc17 => ?_)
            · skip
              have hab : a % b = 0 := by have h := hc17; simp only [beq_iff_eq] at h; omega
              have hpre2 : (pre ++ [a]) ++ [b] <+: remN a0 b0 := by rw [hrem, remN_end ha0 (by omega) hab, List.append_assoc]; exact List.prefix_rfl
              refine X_seq ?_
              refine X_region ?_
              refine XO_v0 (ev_move rfl) rfl rfl rfl ?_
              refine XO_v0 (ev_load rfl sct_146 (fun hg => by first | exact Cell.h0 rfl | exact Cell.h1 rfl | exact Cell.h2 rfl | exact Cell.h3 rfl | exact Cell.h4 rfl | exact Cell.h5 rfl | (repeat (first | exact Cell.here rfl | apply Cell.there | apply Cell.app)))) rfl rfl rfl ?_
              refine XO_yield0 (vs := [_]) (Post := fun t I3 H3 => if t then J ((pre ++ [a]) ++ [b]) I3 H3 else Jx ((pre ++ [a]) ++ [b]) I3 H3) rfl rfl rfl rfl (hY (pre ++ [a]) b _ _ hpre2 (hI0.trans hI2) hJ1) ?_
              rintro t3 I3 H3 hI3 hP3
              refine XO_nil ?_
              refine at_then ?_
              refine X_ret ?_
              refine at_block_r ?_
              refine at_then_r ?_
              refine at_block_r ?_
              first
              | (refine at_ret0 rfl (fun w hw => ⟨_, I3, H3, rfl, hI1.trans (hI2.trans hI3), hw.drop, ?_⟩); cases t3 with | true => exact .inl (by rw [hrem, remN_end ha0 (by omega) hab]; simpa using hP3) | false => exact .inr ⟨_, hpre2, hP3⟩)
              | (refine at_norm (at_ret0 rfl (fun w hw => ⟨_, I2, H2, rfl, hI1.trans hI2, hw.drop, ?_⟩)); by_cases ha0 : a = 0; (obtain ⟨e1, e2⟩ := hno (by simp [conj, ha0]); subst e1; subst e2; subst ha0; exact .inl (by rw [hrem, remN_zero, List.append_nil]; exact hJk)); (have ht : t = false := (by simp [ha0] at hc10; exact hc10); subst ht; exact .inr ⟨_, rem_pre hrem ha0, hyes (by simp [conj]; exact ha0)⟩))
            · skip
              have hab : a % b ≠ 0 := by have h := hc17; simp only [beq_eq_false_iff_ne, ne_eq] at h; omega
              refine X_skip ?_
              refine at_block_n ?_
              exact at_metH2 rfl rfl rfl _ (remL 146 b1 b2 (b) (((a % b : Nat) : Int))) ⟨a % b, Nat.mod_lt _ hbp, b, a % b, pre ++ [a], rfl, rfl, rfl, hI1.trans hI2, hJ1, by rw [hrem, remN_step ha0 (by omega) hab, List.append_assoc]; rfl, by omega, by omega, by have := Nat.mod_lt a hbp; omega⟩ (.cons rfl (.cons rfl (.cons rfl .nil))) .refl
  · skip
    refine X_exit ?_
    refine at_then_e ?_
    refine at_then_e ?_
    refine at_block_hit ?_
    first
    | (refine at_ret0 rfl (fun w hw => ⟨_, I3, H3, rfl, hI1.trans (hI2.trans hI3), hw.drop, ?_⟩); cases t3 with | true => exact .inl (by rw [hrem, remN_end ha0 (by omega) hab]; simpa using hP3) | false => exact .inr ⟨_, hpre2, hP3⟩)
    | (refine at_norm (at_ret0 rfl (fun w hw => ⟨_, I2, H2, rfl, hI1.trans hI2, hw.drop, ?_⟩)); by_cases ha0 : a = 0; (obtain ⟨e1, e2⟩ := hno (by simp [conj, ha0]); subst e1; subst e2; subst ha0; exact .inl (by rw [hrem, remN_zero, List.append_nil]; exact hJk)); (have ht : t = false := (by simp [ha0] at hc10; exact hc10); subst ht; exact .inr ⟨_, rem_pre hrem ha0, hyes (by simp [conj]; exact ha0)⟩))
end Go.Proofs.YtccomeanpppfmaaGreat
end
section
namespace Go.Proofs.YtccomeanpppfmaaGreat
open Go Go.Kn Go.Proofs
theorem w_div (I : HMap) (a b : Nat) (hb : 0 < b) (ha : a ≤ 9223372036854775807) (hb2 : b ≤ 9223372036854775807) : RetV Tryz.prog 144 [.int .u64 a, .int .u64 b] I (.int .u64 (Nat.gcd a b : Nat)) := by
  intro g H w hw
  refine enterMs Tryz.func144 rfl Tryz.ntmps144 rfl hw ?_
  have hIc := HLe.refl I
  refine X_seq ?_
  refine X_region ?_
  refine XO_alloc zt_146 rfl rfl (fun b_4 => ?_)
  refine XO_nil ?_
  refine at_then ?_
  refine X_seq ?_
  refine X_seq ?_
  refine X_region ?_
  refine XO_v0 (ev_move rfl) rfl rfl rfl ?_
  refine XO_v0 (ev_cmp rfl rfl rfl) rfl rfl rfl ?_
  refine XO_nil ?_
  refine at_then ?_
  refine X_cond rfl (fun hc7 => ?_) (fun hc7 => ?_)
  · skip
    simp at hc7; omega
  · skip
    refine X_skip ?_
    refine at_then ?_
    refine X_seq ?_
    refine X_region ?_
    refine XO_v0 (ev_move rfl) rfl rfl rfl ?_
    refine XO_store rfl rfl szt_146 rfl rfl (by first | exact Upd.u0 | exact Upd.u1 | exact Upd.u2 | exact Upd.u3 | exact Upd.u4 | exact Upd.u5 | (repeat (first | exact Upd.here | apply Upd.there | apply upd_app))) rfl ?_
    refine XO_nil ?_
    refine at_then ?_
    refine X_seq ?_
    refine X_seq ?_
    refine X_region ?_
    refine XO_v0 (ev_move rfl) rfl rfl rfl ?_
    refine XO_v0 (ev_move rfl) rfl rfl rfl ?_
    refine XO_callM (cap := []) (vs := [_, _]) rfl rfl fun_179 .nil (w_rem I _ _) rfl rfl ?_
    rintro vv1 I1 L1 hI1 ⟨rfl, b1, b2, rfl, rfl⟩
    have hIc := hIc.trans hI1
    refine XO_nil ?_
    refine at_then ?_
    refine X_block ?_
    refine X_rangeFuncM (ms := []) (K := remL 146 b1 b2 (a) (b)) (L := [(b_4, .cells #[.int .u64 b] 146 (0, 0))]) (enc := fun n : Nat => .int .u64 n) (xs := remN a b) (fun pre I' loc' => loc' = [(b_4, .cells #[.int .u64 ((pre.getLastD b : Nat) : Int)] 146 (0, 0))]) (fun _ _ _ _ => False) (fun pre x E2 I2 loc2 => E2 = [(4, capP b_4), (5, .int .u64 x)] ∧ loc2 = [(b_4, .cells #[.int .u64 ((pre.getLastD b : Nat) : Int)] 146 (0, 0))]) rfl fun_192 (w_euclid _ a b b1 b2 hb ha hb2) rfl rfl ?_ ?_ ?_ ?_
    · rintro l pre x I1 loc1 H1 hpre hI1 rfl
      refine X_region ?_
      refine XO_v0 (ev_assign rfl) rfl rfl rfl ?_
      refine XO_nil ?_
      exact at_met' _ ⟨HLe.refl _, rfl, rfl⟩ (.cons rfl (.cons rfl .nil))
    · rintro l pre x E2 I2 loc2 H2 hpre hI2 ⟨rfl, rfl⟩
      refine X_block ?_
      refine X_region ?_
      refine XO_v0 (ev_move rfl) rfl rfl rfl ?_
      refine XO_store rfl rfl szt_146 rfl rfl (by first | exact Upd.u0 | exact Upd.u1 | exact Upd.u2 | exact Upd.u3 | exact Upd.u4 | exact Upd.u5 | (repeat (first | exact Upd.here | apply Upd.there | apply upd_app))) rfl ?_
      refine XO_nil ?_
      refine at_block_n ?_
      exact at_round2 ⟨HLe.refl _, by rw [last_snoc]; rfl⟩ .refl
    · rintro bd I1 loc1 hI1 rfl
      have hIc := hIc.trans hI1
      refine at_block_n ?_
      refine at_then ?_
      refine X_seq ?_
      refine X_region ?_
      refine XO_v0 (ev_load rfl sct_146 (fun hg => by first | exact Cell.h0 rfl | exact Cell.h1 rfl | exact Cell.h2 rfl | exact Cell.h3 rfl | exact Cell.h4 rfl | exact Cell.h5 rfl | (repeat (first | exact Cell.here rfl | apply Cell.there | apply Cell.app)))) rfl rfl rfl ?_
      refine XO_store rfl rfl szt_146 rfl rfl (by first | exact Upd.u0 | exact Upd.u1 | exact Upd.u2 | exact Upd.u3 | exact Upd.u4 | exact Upd.u5 | (repeat (first | exact Upd.here | apply Upd.there | apply upd_app))) rfl ?_
      refine XO_nil ?_
      refine at_then ?_
      refine X_ret ?_
      exact at_retMs (L := [(b_4, _)]) (fun a ha w hw => res1c rfl rfl sct_146 (Cell.h0 rfl) a ha w hw) (fun w hw => ⟨by rw [remN_gcd b (Nat.le_refl _) (by omega) (fun _ => rfl)], (hw.mono hIc).drop⟩)
    · rintro c bd pre I1 loc1 hI1 hpre hF; exact hF.elim
theorem w_divI (I : HMap) (n d : Int) (hn : -1073741824 ≤ n ∧ n ≤ 1073741824) (hd : 1 ≤ d ∧ d ≤ 1073741824) : RetV Tryz.prog 144 [.int .u64 (magI n), .int .u64 (IntKind.u64.wrap d)] I (.int .u64 (gcdI n d)) := by
  have h0 : 0 ≤ magI n ∧ magI n ≤ 1073741824 := by unfold magI; split <;> omega
  have h := w_div I (magI n).toNat d.toNat (by omega) (by omega) (by omega)
  rw [u64_id (by omega)]
  rw [Int.toNat_of_nonneg h0.1, Int.toNat_of_nonneg (by omega), mag_gcd, Int.toNat_of_nonneg (by omega)] at h
  exact h
theorem w_ratchk (I : HMap) (n d : Int) : RetV Tryz.prog 120 [encRA (n) (d)] I (.int .i64 (ratE n d)) := by
  intro g H w hw
  refine enter Tryz.func120 rfl Tryz.ntmps120 rfl hw ?_
  refine X_seq ?_
  refine X_region ?_
  refine XO_box rfl rfl rfl (fun b_1 => ?_)
  refine XO_v0 (ev_assign rfl) rfl rfl rfl ?_
  refine XO_nil ?_
  refine at_then ?_
  refine X_seq ?_
  refine X_seq ?_
  refine X_draw mixed (by kernel_rfl) ?_
  refine XQ_v0 (ev_fieldAddr rfl fld_43_1) rfl rfl rfl ?_
  refine XQ_v0 (ev_load rfl sct_3 (fun hg => by first | exact Cell.h0 rfl | exact Cell.h1 rfl | exact Cell.h2 rfl | exact Cell.h3 rfl | exact Cell.h4 rfl | exact Cell.h5 rfl | (repeat (first | exact Cell.here rfl | apply Cell.there | apply Cell.app)))) rfl rfl rfl ?_
  refine XQ_v0 (ev_cmp rfl rfl rfl) rfl rfl rfl ?_
  refine XQ_v0 (ev_move rfl) rfl rfl rfl ?_
  refine XQ_pushF 3 rfl rfl rfl ?_
  refine XQ_v1 (ev_fieldAddr rfl fld_43_1) (.some rfl rfl rfl rfl gbf) rfl rfl rfl ?_
  refine XQ_v1 (ev_load rfl sct_3 (fun hg => by first | exact Cell.h0 rfl | exact Cell.h1 rfl | exact Cell.h2 rfl | exact Cell.h3 rfl | exact Cell.h4 rfl | exact Cell.h5 rfl | (repeat (first | exact Cell.here rfl | apply Cell.there | apply Cell.app)))) (.some rfl rfl rfl rfl gbf) rfl rfl rfl ?_
  refine XQ_v1 (ev_cmp rfl rfl rfl) (.some rfl rfl rfl rfl gbf) rfl rfl rfl ?_
  refine XQ_or0 rfl rfl rfl rfl rfl ?_
  refine XQ_v0 (ev_move rfl) rfl rfl rfl ?_
  refine XQ_pushF 8 rfl rfl rfl ?_
  refine XQ_v1 (ev_fieldAddr rfl fld_43_0) (.some rfl rfl rfl rfl gbf) rfl rfl rfl ?_
  refine XQ_v1 (ev_load rfl sct_3 (fun hg => by first | exact Cell.h0 rfl | exact Cell.h1 rfl | exact Cell.h2 rfl | exact Cell.h3 rfl | exact Cell.h4 rfl | exact Cell.h5 rfl | (repeat (first | exact Cell.here rfl | apply Cell.there | apply Cell.app)))) (.some rfl rfl rfl rfl gbf) rfl rfl rfl ?_
  refine XQ_v1 (ev_cmp rfl rfl rfl) (.some rfl rfl rfl rfl gbf) rfl rfl rfl ?_
  refine XQ_or0 rfl rfl rfl rfl rfl ?_
  refine XQ_v0 (ev_move rfl) rfl rfl rfl ?_
  refine XQ_pushF 13 rfl rfl rfl ?_
  refine XQ_v1 (ev_fieldAddr rfl fld_43_0) (.some rfl rfl rfl rfl gbf) rfl rfl rfl ?_
  refine XQ_v1 (ev_load rfl sct_3 (fun hg => by first | exact Cell.h0 rfl | exact Cell.h1 rfl | exact Cell.h2 rfl | exact Cell.h3 rfl | exact Cell.h4 rfl | exact Cell.h5 rfl | (repeat (first | exact Cell.here rfl | apply Cell.there | apply Cell.app)))) (.some rfl rfl rfl rfl gbf) rfl rfl rfl ?_
  refine XQ_v1 (ev_cmp rfl rfl rfl) (.some rfl rfl rfl rfl gbf) rfl rfl rfl ?_
  refine XQ_or0 rfl rfl rfl rfl rfl ?_
  refine XQ_v0 (ev_move rfl) rfl rfl rfl ?_
  refine XQ_pushF 18 rfl rfl rfl ?_
  refine XQ_v1 (ev_fieldAddr rfl fld_43_0) (.some rfl rfl rfl rfl gbf) rfl rfl rfl ?_
  refine XQ_v1 (ev_load rfl sct_3 (fun hg => by first | exact Cell.h0 rfl | exact Cell.h1 rfl | exact Cell.h2 rfl | exact Cell.h3 rfl | exact Cell.h4 rfl | exact Cell.h5 rfl | (repeat (first | exact Cell.here rfl | apply Cell.there | apply Cell.app)))) (.some rfl rfl rfl rfl gbf) rfl rfl rfl ?_
  refine XQ_callV1 (cap := []) (vs := [_]) rfl rfl fun_145 (fun hg => w_mag I n (by simp [conj] at hg; omega)) (.some rfl rfl rfl rfl gbf) rfl rfl ?_
  refine XQ_v1 (ev_fieldAddr rfl fld_43_1) (.some rfl rfl rfl rfl gbf) rfl rfl rfl ?_
  refine XQ_v1 (ev_load rfl sct_3 (fun hg => by first | exact Cell.h0 rfl | exact Cell.h1 rfl | exact Cell.h2 rfl | exact Cell.h3 rfl | exact Cell.h4 rfl | exact Cell.h5 rfl | (repeat (first | exact Cell.here rfl | apply Cell.there | apply Cell.app)))) (.some rfl rfl rfl rfl gbf) rfl rfl rfl ?_
  refine XQ_v1 (ev_convI rfl cvt_3_146) (.some rfl rfl rfl rfl gbf) rfl rfl rfl ?_
  refine XQ_callV1 (cap := []) (vs := [_, _]) rfl rfl fun_144 (fun hg => w_divI I n d (by simp [conj] at hg; omega) (by simp [conj] at hg; omega)) (.some rfl rfl rfl rfl gbf) rfl rfl ?_
  refine XQ_v1 (ev_cmp rfl rfl rfl) (.some rfl rfl rfl rfl gbf) rfl rfl rfl ?_
  refine XQ_or0 rfl rfl rfl rfl rfl ?_
  refine XQ_nil ?_
  refine at_then ?_
  refine X_cond rfl (fun hc30 => ?_) (fun hc30 => ?_)
  · skip
    refine X_seq ?_
    refine X_region ?_
    refine XO_v0 (ev_assign rfl) rfl rfl rfl ?_
    refine XO_nil ?_
    refine at_then ?_
    refine X_ret ?_
    refine at_then_r ?_
    first
    | exact at_ret1 rfl rfl (fun w hw => ⟨by unfold ratE; rw [rat_bad hc30]; rfl, hw.drop⟩)
    | exact at_ret1 rfl rfl (fun w hw => ⟨by unfold ratE; rw [rat_good hc30]; rfl, hw.drop⟩)
  · skip
    refine X_skip ?_
    refine at_then ?_
    refine X_seq ?_
    refine X_region ?_
    refine XO_v0 (ev_assign rfl) rfl rfl rfl ?_
    refine XO_nil ?_
    refine at_then ?_
    refine X_ret ?_
    first
    | exact at_ret1 rfl rfl (fun w hw => ⟨by unfold ratE; rw [rat_bad hc30]; rfl, hw.drop⟩)
    | exact at_ret1 rfl rfl (fun w hw => ⟨by unfold ratE; rw [rat_good hc30]; rfl, hw.drop⟩)
end Go.Proofs.YtccomeanpppfmaaGreat
end
section
namespace Go.Proofs.YtccomeanpppfmaaGreat
open Go Go.Kn Go.Proofs
theorem w_rcmp (I : HMap) (an ad bn bd : Int) : RetV Tryz.prog 178 [encRA (an) (ad), encRA (bn) (bd)] I (.tuple #[.int .i64 (cmpV an ad bn bd), .int .i64 (cmpE an ad bn bd)]) := by
  intro g H w hw
  refine enter Tryz.func178 rfl Tryz.ntmps178 rfl hw ?_
  refine X_seq ?_
  refine X_region ?_
  refine XO_box rfl rfl rfl (fun b_2 => ?_)
  refine XO_box rfl rfl rfl (fun b_3 => ?_)
  refine XO_v0 (ev_assign rfl) rfl rfl rfl ?_
  refine XO_v0 (ev_assign rfl) rfl rfl rfl ?_
  refine XO_nil ?_
  refine at_then ?_
  refine X_seq ?_
  refine X_seq ?_
  refine X_region ?_
  refine XO_v0 (ev_loadA rfl agt_43 (fun hg => by first | exact Cells.g0 | exact Cells.g1 | exact Cells.g2 | exact Cells.g3 | exact Cells.g4 | exact Cells.g5 | exact Cells.s0 (vs := [_, _]) rfl | exact Cells.s1 (vs := [_, _]) rfl | exact Cells.s2 (vs := [_, _]) rfl | exact Cells.s3 (vs := [_, _]) rfl | exact Cells.s4 (vs := [_, _]) rfl | exact Cells.s5 (vs := [_, _]) rfl | (repeat (first | exact Cells.here | apply Cells.there | apply Cells.app))) rfl) rfl rfl rfl ?_
  refine XO_callV0 (cap := []) (vs := [_]) rfl rfl fun_120 (w_ratchk I _ _) rfl rfl ?_
  refine XO_v0 (ev_cmp rfl rfl rfl) rfl rfl rfl ?_
  refine XO_v0 (ev_move rfl) rfl rfl rfl ?_
  refine XO_pushF 3 rfl rfl rfl ?_
  refine XO_v1 (ev_loadA rfl agt_43 (fun hg => by first | exact Cells.g0 | exact Cells.g1 | exact Cells.g2 | exact Cells.g3 | exact Cells.g4 | exact Cells.g5 | exact Cells.s0 (vs := [_, _]) rfl | exact Cells.s1 (vs := [_, _]) rfl | exact Cells.s2 (vs := [_, _]) rfl | exact Cells.s3 (vs := [_, _]) rfl | exact Cells.s4 (vs := [_, _]) rfl | exact Cells.s5 (vs := [_, _]) rfl | (repeat (first | exact Cells.here | apply Cells.there | apply Cells.app))) rfl) (.some rfl rfl rfl rfl gbf) rfl rfl rfl ?_
  refine XO_callV1 (cap := []) (vs := [_]) rfl rfl fun_120 (fun hg => w_ratchk I _ _) (.some rfl rfl rfl rfl gbf) rfl rfl ?_
  refine XO_v1 (ev_cmp rfl rfl rfl) (.some rfl rfl rfl rfl gbf) rfl rfl rfl ?_
  refine XO_or0 rfl rfl rfl rfl rfl ?_
  refine XO_nil ?_
  refine at_then ?_
  refine X_cond rfl (fun hc13 => ?_) (fun hc13 => ?_)
  · skip
    have hb : (ratF an ad && ratF bn bd) = false := by have h := hc13; rw [span_eq, Bool.not_eq_true'] at h; exact h
    refine X_seq ?_
    refine X_region ?_
    refine XO_v0 (ev_assign rfl) rfl rfl rfl ?_
    refine XO_v0 (ev_assign rfl) rfl rfl rfl ?_
    refine XO_nil ?_
    refine at_then ?_
    refine X_ret ?_
    refine at_then_r ?_
    exact at_ret2 rfl rfl rfl (fun w hw => ⟨by unfold cmpV cmpE; rw [hb]; rfl, hw.drop⟩)
  · skip
    have hb : (ratF an ad && ratF bn bd) = true := by have h := hc13; rw [span_eq, Bool.not_eq_false'] at h; exact h
    have ⟨ha1, ha2⟩ := ratF_in (Bool.and_eq_true .. ▸ hb).1
    have ⟨hb1, hb2⟩ := ratF_in (Bool.and_eq_true .. ▸ hb).2
    refine X_skip ?_
    refine at_then ?_
    refine X_seq ?_
    refine X_region ?_
    refine XO_v0 (ev_fieldAddr rfl fld_43_0) rfl rfl rfl ?_
    refine XO_v0 (ev_load rfl sct_3 (fun hg => by first | exact Cell.h0 rfl | exact Cell.h1 rfl | exact Cell.h2 rfl | exact Cell.h3 rfl | exact Cell.h4 rfl | exact Cell.h5 rfl | (repeat (first | exact Cell.here rfl | apply Cell.there | apply Cell.app)))) rfl rfl rfl ?_
    refine XO_v0 (ev_fieldAddr rfl fld_43_1) rfl rfl rfl ?_
    refine XO_v0 (ev_load rfl sct_3 (fun hg => by first | exact Cell.h0 rfl | exact Cell.h1 rfl | exact Cell.h2 rfl | exact Cell.h3 rfl | exact Cell.h4 rfl | exact Cell.h5 rfl | (repeat (first | exact Cell.here rfl | apply Cell.there | apply Cell.app)))) rfl rfl rfl ?_
    refine XO_v0 (ev_arB rfl rfl rfl (fun _ => by exact mul_b (by omega) (by omega))) rfl rfl rfl ?_
    refine XO_v0 (ev_fieldAddr rfl fld_43_0) rfl rfl rfl ?_
    refine XO_v0 (ev_load rfl sct_3 (fun hg => by first | exact Cell.h0 rfl | exact Cell.h1 rfl | exact Cell.h2 rfl | exact Cell.h3 rfl | exact Cell.h4 rfl | exact Cell.h5 rfl | (repeat (first | exact Cell.here rfl | apply Cell.there | apply Cell.app)))) rfl rfl rfl ?_
    refine XO_v0 (ev_fieldAddr rfl fld_43_1) rfl rfl rfl ?_
    refine XO_v0 (ev_load rfl sct_3 (fun hg => by first | exact Cell.h0 rfl | exact Cell.h1 rfl | exact Cell.h2 rfl | exact Cell.h3 rfl | exact Cell.h4 rfl | exact Cell.h5 rfl | (repeat (first | exact Cell.here rfl | apply Cell.there | apply Cell.app)))) rfl rfl rfl ?_
    refine XO_v0 (ev_arB rfl rfl rfl (fun _ => by exact mul_b (by omega) (by omega))) rfl rfl rfl ?_
    refine XO_callV0 (cap := []) (vs := [_, _]) rfl rfl fun_63 (w_cmp I _ _) rfl rfl ?_
    refine XO_v0 (ev_assign rfl) rfl rfl rfl ?_
    refine XO_v0 (ev_assign rfl) rfl rfl rfl ?_
    refine XO_nil ?_
    refine at_then ?_
    refine X_ret ?_
    exact at_ret2 rfl rfl rfl (fun w hw => ⟨by unfold cmpV cmpE; rw [hb]; rfl, hw.drop⟩)
theorem w_fine (I : HMap) (an ad bn bd : Int) : RetV Tryz.prog 142 [encRA (an) (ad), encRA (bn) (bd)] I (.bool (spanF an ad bn bd)) := by
  intro g H w hw
  refine enter Tryz.func142 rfl Tryz.ntmps142 rfl hw ?_
  refine X_seq ?_
  refine X_region ?_
  refine XO_box rfl rfl rfl (fun b_2 => ?_)
  refine XO_box rfl rfl rfl (fun b_3 => ?_)
  refine XO_v0 (ev_assign rfl) rfl rfl rfl ?_
  refine XO_nil ?_
  refine at_then ?_
  refine X_seq ?_
  refine X_region ?_
  refine XO_v0 (ev_loadA rfl agt_43 (fun hg => by first | exact Cells.g0 | exact Cells.g1 | exact Cells.g2 | exact Cells.g3 | exact Cells.g4 | exact Cells.g5 | exact Cells.s0 (vs := [_, _]) rfl | exact Cells.s1 (vs := [_, _]) rfl | exact Cells.s2 (vs := [_, _]) rfl | exact Cells.s3 (vs := [_, _]) rfl | exact Cells.s4 (vs := [_, _]) rfl | exact Cells.s5 (vs := [_, _]) rfl | (repeat (first | exact Cells.here | apply Cells.there | apply Cells.app))) rfl) rfl rfl rfl ?_
  refine XO_v0 (ev_loadA rfl agt_43 (fun hg => by first | exact Cells.g0 | exact Cells.g1 | exact Cells.g2 | exact Cells.g3 | exact Cells.g4 | exact Cells.g5 | exact Cells.s0 (vs := [_, _]) rfl | exact Cells.s1 (vs := [_, _]) rfl | exact Cells.s2 (vs := [_, _]) rfl | exact Cells.s3 (vs := [_, _]) rfl | exact Cells.s4 (vs := [_, _]) rfl | exact Cells.s5 (vs := [_, _]) rfl | (repeat (first | exact Cells.here | apply Cells.there | apply Cells.app))) rfl) rfl rfl rfl ?_
  refine XO_callV0 (cap := []) (vs := [_, _]) rfl rfl fun_178 (w_rcmp I _ _ _ _) rfl rfl ?_
  refine XO_v0 (ev_move rfl) rfl rfl rfl ?_
  refine XO_v0 (ev_extract rfl rfl) rfl rfl rfl ?_
  refine XO_v0 (ev_extract rfl rfl) rfl rfl rfl ?_
  refine XO_v0 (ev_assign rfl) rfl rfl rfl ?_
  refine XO_v0 (ev_assign rfl) rfl rfl rfl ?_
  refine XO_nil ?_
  refine at_then ?_
  refine X_seq ?_
  refine X_region ?_
  refine XO_v0 (ev_move rfl) rfl rfl rfl ?_
  refine XO_v0 (ev_cmp rfl rfl rfl) rfl rfl rfl ?_
  refine XO_v0 (ev_move rfl) rfl rfl rfl ?_
  refine XO_pushT 2 rfl rfl rfl ?_
  refine XO_v1 (ev_move rfl) (.some rfl rfl rfl rfl gbt) rfl rfl rfl ?_
  refine XO_v1 (ev_cmp rfl rfl rfl) (.some rfl rfl rfl rfl gbt) rfl rfl rfl ?_
  refine XO_and0 rfl rfl rfl rfl rfl ?_
  refine XO_v0 (ev_move rfl) rfl rfl rfl ?_
  refine XO_pushT 6 rfl rfl rfl ?_
  refine XO_v1 (ev_fieldAddr rfl fld_43_0) (.some rfl rfl rfl rfl gbt) rfl rfl rfl ?_
  refine XO_v1 (ev_load rfl sct_3 (fun hg => by first | exact Cell.h0 rfl | exact Cell.h1 rfl | exact Cell.h2 rfl | exact Cell.h3 rfl | exact Cell.h4 rfl | exact Cell.h5 rfl | (repeat (first | exact Cell.here rfl | apply Cell.there | apply Cell.app)))) (.some rfl rfl rfl rfl gbt) rfl rfl rfl ?_
  refine XO_v1 (ev_cmp rfl rfl rfl) (.some rfl rfl rfl rfl gbt) rfl rfl rfl ?_
  refine XO_and0 rfl rfl rfl rfl rfl ?_
  refine XO_v0 (ev_move rfl) rfl rfl rfl ?_
  refine XO_pushT 11 rfl rfl rfl ?_
  refine XO_v1 (ev_fieldAddr rfl fld_43_0) (.some rfl rfl rfl rfl gbt) rfl rfl rfl ?_
  refine XO_v1 (ev_load rfl sct_3 (fun hg => by first | exact Cell.h0 rfl | exact Cell.h1 rfl | exact Cell.h2 rfl | exact Cell.h3 rfl | exact Cell.h4 rfl | exact Cell.h5 rfl | (repeat (first | exact Cell.here rfl | apply Cell.there | apply Cell.app)))) (.some rfl rfl rfl rfl gbt) rfl rfl rfl ?_
  refine XO_v1 (ev_fieldAddr rfl fld_43_1) (.some rfl rfl rfl rfl gbt) rfl rfl rfl ?_
  refine XO_v1 (ev_load rfl sct_3 (fun hg => by first | exact Cell.h0 rfl | exact Cell.h1 rfl | exact Cell.h2 rfl | exact Cell.h3 rfl | exact Cell.h4 rfl | exact Cell.h5 rfl | (repeat (first | exact Cell.here rfl | apply Cell.there | apply Cell.app)))) (.some rfl rfl rfl rfl gbt) rfl rfl rfl ?_
  refine XO_v1 (ev_cmp rfl rfl rfl) (.some rfl rfl rfl rfl gbt) rfl rfl rfl ?_
  refine XO_and0 rfl rfl rfl rfl rfl ?_
  refine XO_v0 (ev_assign rfl) rfl rfl rfl ?_
  refine XO_nil ?_
  refine at_then ?_
  refine X_ret ?_
  exact at_ret1 rfl rfl (fun w hw => ⟨by rw [← fine_eq], hw.drop⟩)
theorem w_within (I : HMap) (n lo hi : Int) : RetV Tryz.prog 59 [.int .i64 n, .int .i64 lo, .int .i64 hi] I (.bool (within n lo hi)) := by
  intro g H w hw
  refine enter Tryz.func59 rfl Tryz.ntmps59 rfl hw ?_
  refine X_seq ?_
  refine X_region ?_
  refine XO_v0 (ev_assign rfl) rfl rfl rfl ?_
  refine XO_nil ?_
  refine at_then ?_
  refine X_seq ?_
  refine X_region ?_
  refine XO_v0 (ev_move rfl) rfl rfl rfl ?_
  refine XO_v0 (ev_move rfl) rfl rfl rfl ?_
  refine XO_v0 (ev_cmp rfl rfl rfl) rfl rfl rfl ?_
  refine XO_v0 (ev_move rfl) rfl rfl rfl ?_
  refine XO_pushT 3 rfl rfl rfl ?_
  refine XO_v1 (ev_move rfl) (.some rfl rfl rfl rfl gbt) rfl rfl rfl ?_
  refine XO_v1 (ev_move rfl) (.some rfl rfl rfl rfl gbt) rfl rfl rfl ?_
  refine XO_v1 (ev_cmp rfl rfl rfl) (.some rfl rfl rfl rfl gbt) rfl rfl rfl ?_
  refine XO_and0 rfl rfl rfl rfl rfl ?_
  refine XO_v0 (ev_assign rfl) rfl rfl rfl ?_
  refine XO_nil ?_
  refine at_then ?_
  refine X_ret ?_
  exact at_ret1 rfl rfl (fun w hw => ⟨by first | rfl | simp_all, hw.drop⟩)
theorem w_frm (I : HMap) (x : Sg) : RetV Tryz.prog 91 [encGA x] I (.bool (frm x)) := by
  intro g H w hw
  refine enter Tryz.func91 rfl Tryz.ntmps91 rfl hw ?_
  refine X_seq ?_
  refine X_region ?_
  refine XO_box rfl rfl rfl (fun b_1 => ?_)
  refine XO_v0 (ev_assign rfl) rfl rfl rfl ?_
  refine XO_nil ?_
  refine at_then ?_
  refine X_seq ?_
  refine X_region ?_
  refine XO_v0 (ev_fieldAddr rfl fld_45_0) rfl rfl rfl ?_
  refine XO_v0 (ev_load rfl sct_3 (fun hg => by first | exact Cell.h0 rfl | exact Cell.h1 rfl | exact Cell.h2 rfl | exact Cell.h3 rfl | exact Cell.h4 rfl | exact Cell.h5 rfl | (repeat (first | exact Cell.here rfl | apply Cell.there | apply Cell.app)))) rfl rfl rfl ?_
  refine XO_callV0 (cap := []) (vs := [_, _, _]) rfl rfl fun_59 (w_within I _ _ _) rfl rfl ?_
  refine XO_v0 (ev_move rfl) rfl rfl rfl ?_
  refine XO_pushT 3 rfl rfl rfl ?_
  refine XO_v1 (ev_fieldAddr rfl fld_45_1) (.some rfl rfl rfl rfl gbt) rfl rfl rfl ?_
  refine XO_v1 (ev_load rfl sct_3 (fun hg => by first | exact Cell.h0 rfl | exact Cell.h1 rfl | exact Cell.h2 rfl | exact Cell.h3 rfl | exact Cell.h4 rfl | exact Cell.h5 rfl | (repeat (first | exact Cell.here rfl | apply Cell.there | apply Cell.app)))) (.some rfl rfl rfl rfl gbt) rfl rfl rfl ?_
  refine XO_callV1 (cap := []) (vs := [_, _, _]) rfl rfl fun_59 (fun hg => w_within I _ _ _) (.some rfl rfl rfl rfl gbt) rfl rfl ?_
  refine XO_and0 rfl rfl rfl rfl rfl ?_
  refine XO_v0 (ev_move rfl) rfl rfl rfl ?_
  refine XO_pushT 8 rfl rfl rfl ?_
  refine XO_v1 (ev_fieldAddr rfl fld_45_2) (.some rfl rfl rfl rfl gbt) rfl rfl rfl ?_
  refine XO_v1 (ev_load rfl sct_3 (fun hg => by first | exact Cell.h0 rfl | exact Cell.h1 rfl | exact Cell.h2 rfl | exact Cell.h3 rfl | exact Cell.h4 rfl | exact Cell.h5 rfl | (repeat (first | exact Cell.here rfl | apply Cell.there | apply Cell.app)))) (.some rfl rfl rfl rfl gbt) rfl rfl rfl ?_
  refine XO_callV1 (cap := []) (vs := [_, _, _]) rfl rfl fun_59 (fun hg => w_within I _ _ _) (.some rfl rfl rfl rfl gbt) rfl rfl ?_
  refine XO_and0 rfl rfl rfl rfl rfl ?_
  refine XO_v0 (ev_move rfl) rfl rfl rfl ?_
  refine XO_pushT 13 rfl rfl rfl ?_
  refine XO_v1 (ev_fieldAddr rfl fld_45_4) (.some rfl rfl rfl rfl gbt) rfl rfl rfl ?_
  refine XO_v1 (ev_load rfl sct_3 (fun hg => by first | exact Cell.h0 rfl | exact Cell.h1 rfl | exact Cell.h2 rfl | exact Cell.h3 rfl | exact Cell.h4 rfl | exact Cell.h5 rfl | (repeat (first | exact Cell.here rfl | apply Cell.there | apply Cell.app)))) (.some rfl rfl rfl rfl gbt) rfl rfl rfl ?_
  refine XO_callV1 (cap := []) (vs := [_, _, _]) rfl rfl fun_59 (fun hg => w_within I _ _ _) (.some rfl rfl rfl rfl gbt) rfl rfl ?_
  refine XO_and0 rfl rfl rfl rfl rfl ?_
  refine XO_v0 (ev_move rfl) rfl rfl rfl ?_
  refine XO_pushT 18 rfl rfl rfl ?_
  refine XO_v1 (ev_fieldAddr rfl fld_45_3) (.some rfl rfl rfl rfl gbt) rfl rfl rfl ?_
  refine XO_v1 (ev_load rfl sct_3 (fun hg => by first | exact Cell.h0 rfl | exact Cell.h1 rfl | exact Cell.h2 rfl | exact Cell.h3 rfl | exact Cell.h4 rfl | exact Cell.h5 rfl | (repeat (first | exact Cell.here rfl | apply Cell.there | apply Cell.app)))) (.some rfl rfl rfl rfl gbt) rfl rfl rfl ?_
  refine XO_callV1 (cap := []) (vs := [_, _, _]) rfl rfl fun_59 (fun hg => w_within I _ _ _) (.some rfl rfl rfl rfl gbt) rfl rfl ?_
  refine XO_and0 rfl rfl rfl rfl rfl ?_
  refine XO_v0 (ev_move rfl) rfl rfl rfl ?_
  refine XO_pushT 23 rfl rfl rfl ?_
  refine XO_v1 (ev_fieldAddr rfl fld_45_5) (.some rfl rfl rfl rfl gbt) rfl rfl rfl ?_
  refine XO_v1 (ev_load rfl sct_3 (fun hg => by first | exact Cell.h0 rfl | exact Cell.h1 rfl | exact Cell.h2 rfl | exact Cell.h3 rfl | exact Cell.h4 rfl | exact Cell.h5 rfl | (repeat (first | exact Cell.here rfl | apply Cell.there | apply Cell.app)))) (.some rfl rfl rfl rfl gbt) rfl rfl rfl ?_
  refine XO_callV1 (cap := []) (vs := [_, _, _]) rfl rfl fun_59 (fun hg => w_within I _ _ _) (.some rfl rfl rfl rfl gbt) rfl rfl ?_
  refine XO_and0 rfl rfl rfl rfl rfl ?_
  refine XO_v0 (ev_move rfl) rfl rfl rfl ?_
  refine XO_pushT 28 rfl rfl rfl ?_
  refine XO_v1 (ev_fieldAddr rfl fld_45_6) (.some rfl rfl rfl rfl gbt) rfl rfl rfl ?_
  refine XO_v1 (ev_load rfl sct_3 (fun hg => by first | exact Cell.h0 rfl | exact Cell.h1 rfl | exact Cell.h2 rfl | exact Cell.h3 rfl | exact Cell.h4 rfl | exact Cell.h5 rfl | (repeat (first | exact Cell.here rfl | apply Cell.there | apply Cell.app)))) (.some rfl rfl rfl rfl gbt) rfl rfl rfl ?_
  refine XO_callV1 (cap := []) (vs := [_, _, _]) rfl rfl fun_59 (fun hg => w_within I _ _ _) (.some rfl rfl rfl rfl gbt) rfl rfl ?_
  refine XO_and0 rfl rfl rfl rfl rfl ?_
  refine XO_v0 (ev_move rfl) rfl rfl rfl ?_
  refine XO_pushT 33 rfl rfl rfl ?_
  refine XO_v1 (ev_fieldAddr rfl fld_45_7) (.some rfl rfl rfl rfl gbt) rfl rfl rfl ?_
  refine XO_v1 (ev_load rfl sct_3 (fun hg => by first | exact Cell.h0 rfl | exact Cell.h1 rfl | exact Cell.h2 rfl | exact Cell.h3 rfl | exact Cell.h4 rfl | exact Cell.h5 rfl | (repeat (first | exact Cell.here rfl | apply Cell.there | apply Cell.app)))) (.some rfl rfl rfl rfl gbt) rfl rfl rfl ?_
  refine XO_callV1 (cap := []) (vs := [_, _, _]) rfl rfl fun_59 (fun hg => w_within I _ _ _) (.some rfl rfl rfl rfl gbt) rfl rfl ?_
  refine XO_and0 rfl rfl rfl rfl rfl ?_
  refine XO_v0 (ev_move rfl) rfl rfl rfl ?_
  refine XO_pushT 38 rfl rfl rfl ?_
  refine XO_v1 (ev_fieldAddr rfl fld_45_8) (.some rfl rfl rfl rfl gbt) rfl rfl rfl ?_
  refine XO_v1 (ev_load rfl sct_3 (fun hg => by first | exact Cell.h0 rfl | exact Cell.h1 rfl | exact Cell.h2 rfl | exact Cell.h3 rfl | exact Cell.h4 rfl | exact Cell.h5 rfl | (repeat (first | exact Cell.here rfl | apply Cell.there | apply Cell.app)))) (.some rfl rfl rfl rfl gbt) rfl rfl rfl ?_
  refine XO_callV1 (cap := []) (vs := [_, _, _]) rfl rfl fun_59 (fun hg => w_within I _ _ _) (.some rfl rfl rfl rfl gbt) rfl rfl ?_
  refine XO_and0 rfl rfl rfl rfl rfl ?_
  refine XO_v0 (ev_move rfl) rfl rfl rfl ?_
  refine XO_pushT 43 rfl rfl rfl ?_
  refine XO_v1 (ev_fieldAddr rfl fld_45_9) (.some rfl rfl rfl rfl gbt) rfl rfl rfl ?_
  refine XO_v1 (ev_load rfl sct_3 (fun hg => by first | exact Cell.h0 rfl | exact Cell.h1 rfl | exact Cell.h2 rfl | exact Cell.h3 rfl | exact Cell.h4 rfl | exact Cell.h5 rfl | (repeat (first | exact Cell.here rfl | apply Cell.there | apply Cell.app)))) (.some rfl rfl rfl rfl gbt) rfl rfl rfl ?_
  refine XO_callV1 (cap := []) (vs := [_, _, _]) rfl rfl fun_59 (fun hg => w_within I _ _ _) (.some rfl rfl rfl rfl gbt) rfl rfl ?_
  refine XO_and0 rfl rfl rfl rfl rfl ?_
  refine XO_v0 (ev_move rfl) rfl rfl rfl ?_
  refine XO_pushT 48 rfl rfl rfl ?_
  refine XO_v1 (ev_fieldAddr rfl fld_45_10) (.some rfl rfl rfl rfl gbt) rfl rfl rfl ?_
  refine XO_v1 (ev_loadA rfl agt_43 (fun hg => by first | exact Cells.g0 | exact Cells.g1 | exact Cells.g2 | exact Cells.g3 | exact Cells.g4 | exact Cells.g5 | exact Cells.s0 (vs := [_, _]) rfl | exact Cells.s1 (vs := [_, _]) rfl | exact Cells.s2 (vs := [_, _]) rfl | exact Cells.s3 (vs := [_, _]) rfl | exact Cells.s4 (vs := [_, _]) rfl | exact Cells.s5 (vs := [_, _]) rfl | (repeat (first | exact Cells.here | apply Cells.there | apply Cells.app))) rfl) (.some rfl rfl rfl rfl gbt) rfl rfl rfl ?_
  refine XO_v1 (ev_fieldAddr rfl fld_45_11) (.some rfl rfl rfl rfl gbt) rfl rfl rfl ?_
  refine XO_v1 (ev_loadA rfl agt_43 (fun hg => by first | exact Cells.g0 | exact Cells.g1 | exact Cells.g2 | exact Cells.g3 | exact Cells.g4 | exact Cells.g5 | exact Cells.s0 (vs := [_, _]) rfl | exact Cells.s1 (vs := [_, _]) rfl | exact Cells.s2 (vs := [_, _]) rfl | exact Cells.s3 (vs := [_, _]) rfl | exact Cells.s4 (vs := [_, _]) rfl | exact Cells.s5 (vs := [_, _]) rfl | (repeat (first | exact Cells.here | apply Cells.there | apply Cells.app))) rfl) (.some rfl rfl rfl rfl gbt) rfl rfl rfl ?_
  refine XO_callV1 (cap := []) (vs := [_, _]) rfl rfl fun_142 (fun hg => w_fine I _ _ _ _) (.some rfl rfl rfl rfl gbt) rfl rfl ?_
  refine XO_and0 rfl rfl rfl rfl rfl ?_
  refine XO_v0 (ev_assign rfl) rfl rfl rfl ?_
  refine XO_nil ?_
  refine at_then ?_
  refine X_ret ?_
  exact at_ret1 rfl rfl (fun w hw => ⟨by rfl, hw.drop⟩)
theorem w_chkG {I : HMap} {av : Option Addr} {n c : Nat} {xs : List Sg} (hS : Sl I 14 encG av n c xs) (hn : n ≤ 100000) : RetV Tryz.prog 58 [.slice av n c] I (.int .i64 (chkG xs)) := by
  intro g H w hw
  refine enter Tryz.func58 rfl Tryz.ntmps58 rfl hw ?_
  refine X_seq ?_
  refine X_region ?_
  refine XO_v0 (ev_assign rfl) rfl rfl rfl ?_
  refine XO_nil ?_
  refine at_then ?_
  refine X_seq ?_
  refine X_seq ?_
  refine X_region ?_
  refine XO_v0 (ev_move rfl) rfl rfl rfl ?_
  refine XO_v0 (ev_lenS rfl slt_33) rfl rfl rfl ?_
  refine XO_v0 (ev_cmp rfl rfl rfl) rfl rfl rfl ?_
  refine XO_nil ?_
  refine at_then ?_
  refine X_cond rfl (fun hc7 => ?_) (fun hc7 => ?_)
  · skip
    have h6 : xs.length > 4096 := by rw [hS.len]; simp at hc7; omega
    refine X_seq ?_
    refine X_region ?_
    refine XO_v0 (ev_assign rfl) rfl rfl rfl ?_
    refine XO_nil ?_
    refine at_then ?_
    refine X_ret ?_
    refine at_then_r ?_
    first
    | exact at_ret1 rfl rfl (fun w hw => ⟨by unfold chkG; rw [if_pos h6], hw.drop⟩)
    | exact at_ret1 rfl rfl (fun w hw => ⟨by unfold chkG skB; rw [if_neg h6, range_bad (k := k) (by rw [hS.len]; exact hlt_k) (by rw [skP_at hx, hc32]; rfl)]; rfl, hw.drop⟩)
    | exact at_ret1 rfl rfl (fun w hw => ⟨by unfold chkG skB; rw [if_neg h6, hS.len, show n = k by omega, hall]; rfl, hw.drop⟩)
  · skip
    have h6 : ¬ xs.length > 4096 := by rw [hS.len]; simp at hc7; omega
    refine X_skip ?_
    refine at_then ?_
    refine X_seq ?_
    refine X_seq ?_
    refine X_region ?_
    refine XO_v0 (ev_move rfl) rfl rfl rfl ?_
    refine XO_v0 (ev_lenS rfl slt_33) rfl rfl rfl ?_
    refine XO_v0 (ev_move rfl) rfl rfl rfl ?_
    refine XO_nil ?_
    refine at_then ?_
    refine X_block ?_
    refine X_loopT [(0, _), (8, _), (9, _)] (.cons rfl (.cons rfl (.cons rfl .nil))) (fun T L0 mz E I' loc' => ∃ (k : Nat), mz = n - k ∧ E = (10, .int .i64 k) :: T ∧ I = I' ∧ L0 = loc' ∧ k ≤ n ∧ (List.range k).all (skP xs) = true) _ _ _ _ ⟨0, rfl, rfl, rfl, rfl, Nat.zero_le _, rfl⟩ (.cons rfl (.cons rfl (.cons rfl (.cons rfl .nil)))) (HLe.refl _) rfl ?_
    rintro mz E I' loc' ⟨k, rfl, rfl, rfl, rfl, hk, hall⟩
    refine X_seq ?_
    refine X_region ?_
    refine XO_v0 (ev_cmp rfl rfl rfl) rfl rfl rfl ?_
    refine XO_nil ?_
    refine at_then ?_
    refine X_seq ?_
    refine X_cond rfl (fun hc11 => ?_) (fun hc11 => ?_)
    · skip
      have hlt_k : k < n := by have h := hc11; simp at h; omega
      obtain ⟨x, hx⟩ := hS.at hlt_k
      refine X_skip ?_
      refine at_then ?_
      refine X_seq ?_
      refine X_block ?_
      refine X_seq ?_
      refine X_region ?_
      refine XO_v0 (ev_move rfl) rfl rfl rfl ?_
      refine XO_v0 (ev_indexSl rfl rfl slt_33 (by assumption) (fun hg => by first | omega | (simp [conj] at hg; omega))) rfl rfl rfl ?_
      refine XO_v0 (ev_loadA rfl agt_45 (fun hg => by first | exact Sl.getA hS hx | exact Cells.g0 | exact Cells.g1 | exact Cells.g2 | exact Cells.g3 | exact Cells.g4 | exact Cells.g5 | exact Cells.s0 (vs := [_, _, _, _, _, _, _, _, _, _, _, _, _, _]) rfl | exact Cells.s1 (vs := [_, _, _, _, _, _, _, _, _, _, _, _, _, _]) rfl | exact Cells.s2 (vs := [_, _, _, _, _, _, _, _, _, _, _, _, _, _]) rfl | exact Cells.s3 (vs := [_, _, _, _, _, _, _, _, _, _, _, _, _, _]) rfl | exact Cells.s4 (vs := [_, _, _, _, _, _, _, _, _, _, _, _, _, _]) rfl | exact Cells.s5 (vs := [_, _, _, _, _, _, _, _, _, _, _, _, _, _]) rfl | (repeat (first | exact Cells.here | apply Cells.there | apply Cells.app))) rfl) rfl rfl rfl ?_
      refine XO_alloc zt_45 rfl rfl (fun b_4 => ?_)
      refine XO_v0 (ev_assign rfl) rfl rfl rfl ?_
      refine XO_storeA rfl rfl szt_45 rfl rfl rfl rfl (by first | exact Upd.u0 | exact Upd.u1 | exact Upd.u2 | exact Upd.u3 | exact Upd.u4 | exact Upd.u5 | (repeat (first | exact Upd.here | apply Upd.there | apply upd_app))) ?_
      refine XO_nil ?_
      refine at_then ?_
      refine X_seq ?_
      refine X_draw mixed (by kernel_rfl) ?_
      refine XQ_v0 (ev_loadA rfl agt_45 (fun hg => by first | exact Sl.getA hS hx | exact Cells.g0 | exact Cells.g1 | exact Cells.g2 | exact Cells.g3 | exact Cells.g4 | exact Cells.g5 | exact Cells.s0 (vs := [_, _, _, _, _, _, _, _, _, _, _, _, _, _]) rfl | exact Cells.s1 (vs := [_, _, _, _, _, _, _, _, _, _, _, _, _, _]) rfl | exact Cells.s2 (vs := [_, _, _, _, _, _, _, _, _, _, _, _, _, _]) rfl | exact Cells.s3 (vs := [_, _, _, _, _, _, _, _, _, _, _, _, _, _]) rfl | exact Cells.s4 (vs := [_, _, _, _, _, _, _, _, _, _, _, _, _, _]) rfl | exact Cells.s5 (vs := [_, _, _, _, _, _, _, _, _, _, _, _, _, _]) rfl | (repeat (first | exact Cells.here | apply Cells.there | apply Cells.app))) rfl) rfl rfl rfl ?_
      refine XQ_callV0 (cap := []) (vs := [_]) rfl rfl fun_91 (w_frm I _) rfl rfl ?_
      refine XQ_v0 (ev_not rfl) rfl rfl rfl ?_
      refine XQ_v0 (ev_move rfl) rfl rfl rfl ?_
      refine XQ_pushF 3 rfl rfl rfl ?_
      refine XQ_v1 (ev_move rfl) (.some rfl rfl rfl rfl gbf) rfl rfl rfl ?_
      refine XQ_v1 (ev_cmp rfl rfl rfl) (.some rfl rfl rfl rfl gbf) rfl rfl rfl ?_
      refine XQ_v1 (ev_move rfl) (.some rfl rfl rfl rfl gbf) rfl rfl rfl ?_
      refine XQ_pushT 6 rfl rfl rfl ?_
      refine XQ_v1 (ev_move rfl) (.some rfl rfl rfl rfl gbt) rfl rfl rfl ?_
      refine XQ_v1 (ev_move rfl) (.some rfl rfl rfl rfl gbt) rfl rfl rfl ?_
      refine XQ_v1 (ev_arB rfl rfl rfl (fun hg => by first | omega | (simp [conj] at hg; omega))) (.some rfl rfl rfl rfl gbt) rfl rfl rfl ?_
      refine XQ_v1 (ev_indexSl rfl rfl slt_33 (by assumption) (fun hg => by first | omega | (simp [conj] at hg; omega))) (.some rfl rfl rfl rfl gbt) rfl rfl rfl ?_
      refine XQ_v1 (ev_fieldAddr rfl fld_45_0) (.some rfl rfl rfl rfl gbt) rfl rfl rfl ?_
      refine XQ_v1 (ev_load rfl sct_3 (fun hg => by first | exact Sl.get0 (k := ((k : Int) - 1).toNat) hS (some_getD (d := zeroG) hS.len (by simp [conj] at hg; omega)) rfl | exact Cell.h0 rfl | exact Cell.h1 rfl | exact Cell.h2 rfl | exact Cell.h3 rfl | exact Cell.h4 rfl | exact Cell.h5 rfl | (repeat (first | exact Cell.here rfl | apply Cell.there | apply Cell.app)))) (.some rfl rfl rfl rfl gbt) rfl rfl rfl ?_
      refine XQ_v1 (ev_fieldAddr rfl fld_45_0) (.some rfl rfl rfl rfl gbt) rfl rfl rfl ?_
      refine XQ_v1 (ev_load rfl sct_3 (fun hg => by first | exact Sl.get0 (k := ((k : Int) - 1).toNat) hS (some_getD (d := zeroG) hS.len (by simp [conj] at hg; omega)) rfl | exact Cell.h0 rfl | exact Cell.h1 rfl | exact Cell.h2 rfl | exact Cell.h3 rfl | exact Cell.h4 rfl | exact Cell.h5 rfl | (repeat (first | exact Cell.here rfl | apply Cell.there | apply Cell.app)))) (.some rfl rfl rfl rfl gbt) rfl rfl rfl ?_
      refine XQ_v1 (ev_cmp rfl rfl rfl) (.some rfl rfl rfl rfl gbt) rfl rfl rfl ?_
      refine XQ_and1 rfl rfl rfl (.some rfl rfl rfl rfl gbf) rfl rfl ?_
      refine XQ_or0 rfl rfl rfl rfl rfl ?_
      refine XQ_nil ?_
      refine at_then ?_
      refine X_cond rfl (fun hc32 => ?_) (fun hc32 => ?_)
      · skip
        refine X_seq ?_
        refine X_region ?_
        refine XO_v0 (ev_assign rfl) rfl rfl rfl ?_
        refine XO_nil ?_
        refine at_then ?_
        refine X_ret ?_
        refine at_block_r ?_
        refine at_then_r ?_
        refine at_then_r ?_
        refine at_block_r ?_
        refine at_then_r ?_
        first
        | exact at_ret1 rfl rfl (fun w hw => ⟨by unfold chkG; rw [if_pos h6], hw.drop⟩)
        | exact at_ret1 rfl rfl (fun w hw => ⟨by unfold chkG skB; rw [if_neg h6, range_bad (k := k) (by rw [hS.len]; exact hlt_k) (by rw [skP_at hx, hc32]; rfl)]; rfl, hw.drop⟩)
        | exact at_ret1 rfl rfl (fun w hw => ⟨by unfold chkG skB; rw [if_neg h6, hS.len, show n = k by omega, hall]; rfl, hw.drop⟩)
      · skip
        refine X_skip ?_
        refine at_block_n ?_
        refine at_then ?_
        refine X_region ?_
        refine XO_v0 (ev_arB rfl rfl rfl (fun hg => by first | omega | (simp [conj] at hg; omega))) rfl rfl rfl ?_
        refine XO_v0 (ev_move rfl) rfl rfl rfl ?_
        refine XO_nil ?_
        exact at_met2 _ _ ⟨n - (k + 1), by omega, k + 1, rfl, rfl, rfl, rfl, by omega, range_step hall (by rw [skP_at hx, hc32]; rfl)⟩ (.cons rfl (.cons rfl (.cons rfl (.cons rfl .nil)))) (by repeat (first | exact .refl | exact subL_left | refine subL_app ?_ | refine .drop ?_ | refine subL_add ?_))
    · skip
      have hge_k : n ≤ k := by have h := hc11; simp at h; omega
      refine X_exit ?_
      refine at_then_e ?_
      refine at_then_e ?_
      refine at_block_hit ?_
      refine at_then ?_
      refine X_seq ?_
      refine X_region ?_
      refine XO_v0 (ev_assign rfl) rfl rfl rfl ?_
      refine XO_nil ?_
      refine at_then ?_
      refine X_ret ?_
      first
      | exact at_ret1 rfl rfl (fun w hw => ⟨by unfold chkG; rw [if_pos h6], hw.drop⟩)
      | exact at_ret1 rfl rfl (fun w hw => ⟨by unfold chkG skB; rw [if_neg h6, range_bad (k := k) (by rw [hS.len]; exact hlt_k) (by rw [skP_at hx, hc32]; rfl)]; rfl, hw.drop⟩)
      | exact at_ret1 rfl rfl (fun w hw => ⟨by unfold chkG skB; rw [if_neg h6, hS.len, show n = k by omega, hall]; rfl, hw.drop⟩)
theorem w_numbers (I : HMap) (b : Nat) : RetV Tryz.prog 132 [capP b] I (.agg (numL b).toArray) := by
  intro g H w hw
  refine enter Tryz.func132 rfl Tryz.ntmps132 rfl hw ?_
  refine X_seq ?_
  refine X_region ?_
  refine XO_alloc zt_157 rfl rfl (fun b_2 => ?_)
  refine XO_nil ?_
  refine at_then ?_
  refine X_seq ?_
  have hD := HLe.refl I
  refine X_noP ?_
  refine X_drawS I [] mixed ?_
  refine XD_take 0 rfl (ev_move rfl) (.none rfl) rfl rfl rfl (by kernel_rfl) (by kernel_rfl) (by kernel_rfl) noP_ok hD (by repeat (first | exact .refl | exact subL_nil | refine .keep ?_ | refine .drop ?_ | refine subL_add ?_)) ?_
  refine XD_take 1 rfl (ev_nilCheck rfl) (.none rfl) rfl rfl rfl (by kernel_rfl) (by kernel_rfl) (by kernel_rfl) noP_ok hD (by repeat (first | exact .refl | exact subL_nil | refine .keep ?_ | refine .drop ?_ | refine subL_add ?_)) ?_
  refine XD_take 2 rfl (ev_fieldAddr rfl fld_45_1) (.none rfl) rfl rfl rfl (by kernel_rfl) (by kernel_rfl) (by kernel_rfl) noP_ok hD (by repeat (first | exact .refl | exact subL_nil | refine .keep ?_ | refine .drop ?_ | refine subL_add ?_)) ?_
  refine XD_take 3 rfl (ev_move rfl) (.none rfl) rfl rfl rfl (by kernel_rfl) (by kernel_rfl) (by kernel_rfl) noP_ok hD (by repeat (first | exact .refl | exact subL_nil | refine .keep ?_ | refine .drop ?_ | refine subL_add ?_)) ?_
  refine XD_take 4 rfl (ev_nilCheck rfl) (.none rfl) rfl rfl rfl (by kernel_rfl) (by kernel_rfl) (by kernel_rfl) noP_ok hD (by repeat (first | exact .refl | exact subL_nil | refine .keep ?_ | refine .drop ?_ | refine subL_add ?_)) ?_
  refine XD_take 5 rfl (ev_fieldAddr rfl fld_45_2) (.none rfl) rfl rfl rfl (by kernel_rfl) (by kernel_rfl) (by kernel_rfl) noP_ok hD (by repeat (first | exact .refl | exact subL_nil | refine .keep ?_ | refine .drop ?_ | refine subL_add ?_)) ?_
  refine XD_take 6 rfl (ev_move rfl) (.none rfl) rfl rfl rfl (by kernel_rfl) (by kernel_rfl) (by kernel_rfl) noP_ok hD (by repeat (first | exact .refl | exact subL_nil | refine .keep ?_ | refine .drop ?_ | refine subL_add ?_)) ?_
  refine XD_take 7 rfl (ev_nilCheck rfl) (.none rfl) rfl rfl rfl (by kernel_rfl) (by kernel_rfl) (by kernel_rfl) noP_ok hD (by repeat (first | exact .refl | exact subL_nil | refine .keep ?_ | refine .drop ?_ | refine subL_add ?_)) ?_
  refine XD_take 8 rfl (ev_fieldAddr rfl fld_45_3) (.none rfl) rfl rfl rfl (by kernel_rfl) (by kernel_rfl) (by kernel_rfl) noP_ok hD (by repeat (first | exact .refl | exact subL_nil | refine .keep ?_ | refine .drop ?_ | refine subL_add ?_)) ?_
  refine XD_take 9 rfl (ev_move rfl) (.none rfl) rfl rfl rfl (by kernel_rfl) (by kernel_rfl) (by kernel_rfl) noP_ok hD (by repeat (first | exact .refl | exact subL_nil | refine .keep ?_ | refine .drop ?_ | refine subL_add ?_)) ?_
  refine XD_take 10 rfl (ev_nilCheck rfl) (.none rfl) rfl rfl rfl (by kernel_rfl) (by kernel_rfl) (by kernel_rfl) noP_ok hD (by repeat (first | exact .refl | exact subL_nil | refine .keep ?_ | refine .drop ?_ | refine subL_add ?_)) ?_
  refine XD_take 11 rfl (ev_fieldAddr rfl fld_45_5) (.none rfl) rfl rfl rfl (by kernel_rfl) (by kernel_rfl) (by kernel_rfl) noP_ok hD (by repeat (first | exact .refl | exact subL_nil | refine .keep ?_ | refine .drop ?_ | refine subL_add ?_)) ?_
  refine XD_take 12 rfl (ev_move rfl) (.none rfl) rfl rfl rfl (by kernel_rfl) (by kernel_rfl) (by kernel_rfl) noP_ok hD (by repeat (first | exact .refl | exact subL_nil | refine .keep ?_ | refine .drop ?_ | refine subL_add ?_)) ?_
  refine XD_take 13 rfl (ev_nilCheck rfl) (.none rfl) rfl rfl rfl (by kernel_rfl) (by kernel_rfl) (by kernel_rfl) noP_ok hD (by repeat (first | exact .refl | exact subL_nil | refine .keep ?_ | refine .drop ?_ | refine subL_add ?_)) ?_
  refine XD_take 14 rfl (ev_fieldAddr rfl fld_45_6) (.none rfl) rfl rfl rfl (by kernel_rfl) (by kernel_rfl) (by kernel_rfl) noP_ok hD (by repeat (first | exact .refl | exact subL_nil | refine .keep ?_ | refine .drop ?_ | refine subL_add ?_)) ?_
  refine XD_take 15 rfl (ev_move rfl) (.none rfl) rfl rfl rfl (by kernel_rfl) (by kernel_rfl) (by kernel_rfl) noP_ok hD (by repeat (first | exact .refl | exact subL_nil | refine .keep ?_ | refine .drop ?_ | refine subL_add ?_)) ?_
  refine XD_take 16 rfl (ev_nilCheck rfl) (.none rfl) rfl rfl rfl (by kernel_rfl) (by kernel_rfl) (by kernel_rfl) noP_ok hD (by repeat (first | exact .refl | exact subL_nil | refine .keep ?_ | refine .drop ?_ | refine subL_add ?_)) ?_
  refine XD_take 17 rfl (ev_fieldAddr rfl fld_45_7) (.none rfl) rfl rfl rfl (by kernel_rfl) (by kernel_rfl) (by kernel_rfl) noP_ok hD (by repeat (first | exact .refl | exact subL_nil | refine .keep ?_ | refine .drop ?_ | refine subL_add ?_)) ?_
  refine XD_take 18 rfl (ev_move rfl) (.none rfl) rfl rfl rfl (by kernel_rfl) (by kernel_rfl) (by kernel_rfl) noP_ok hD (by repeat (first | exact .refl | exact subL_nil | refine .keep ?_ | refine .drop ?_ | refine subL_add ?_)) ?_
  refine XD_take 19 rfl (ev_nilCheck rfl) (.none rfl) rfl rfl rfl (by kernel_rfl) (by kernel_rfl) (by kernel_rfl) noP_ok hD (by repeat (first | exact .refl | exact subL_nil | refine .keep ?_ | refine .drop ?_ | refine subL_add ?_)) ?_
  refine XD_take 20 rfl (ev_fieldAddr rfl fld_45_8) (.none rfl) rfl rfl rfl (by kernel_rfl) (by kernel_rfl) (by kernel_rfl) noP_ok hD (by repeat (first | exact .refl | exact subL_nil | refine .keep ?_ | refine .drop ?_ | refine subL_add ?_)) ?_
  refine XD_take 21 rfl (ev_move rfl) (.none rfl) rfl rfl rfl (by kernel_rfl) (by kernel_rfl) (by kernel_rfl) noP_ok hD (by repeat (first | exact .refl | exact subL_nil | refine .keep ?_ | refine .drop ?_ | refine subL_add ?_)) ?_
  refine XD_take 22 rfl (ev_nilCheck rfl) (.none rfl) rfl rfl rfl (by kernel_rfl) (by kernel_rfl) (by kernel_rfl) noP_ok hD (by repeat (first | exact .refl | exact subL_nil | refine .keep ?_ | refine .drop ?_ | refine subL_add ?_)) ?_
  refine XD_take 23 rfl (ev_fieldAddr rfl fld_45_9) (.none rfl) rfl rfl rfl (by kernel_rfl) (by kernel_rfl) (by kernel_rfl) noP_ok hD (by repeat (first | exact .refl | exact subL_nil | refine .keep ?_ | refine .drop ?_ | refine subL_add ?_)) ?_
  refine XD_take 24 rfl (ev_buildArr (ps := [(1, _), (2, _), (3, _), (4, _), (5, _), (6, _), (7, _), (8, _)]) [_, _, _, _, _, _, _, _, _] art_157 zt_157 rfl rfl) (.none rfl) rfl rfl rfl (by kernel_rfl) (by kernel_rfl) (by kernel_rfl) noP_ok hD (by repeat (first | exact .refl | exact subL_nil | refine .keep ?_ | refine .drop ?_ | refine subL_add ?_)) ?_
  refine XD_one 25 rfl (by kernel_rfl) ?_
  refine XO_storeA rfl rfl szt_157 rfl rfl rfl rfl (by first | exact Upd.u0 | exact Upd.u1 | exact Upd.u2 | exact Upd.u3 | exact Upd.u4 | exact Upd.u5 | (repeat (first | exact Upd.here | apply Upd.there | apply upd_app))) ?_
  refine XO_nil ?_
  refine at_D hD (by repeat (first | exact .refl | exact subL_nil | refine .keep ?_ | refine .drop ?_ | refine subL_add ?_)) ?_
  refine XD_done (by kernel_rfl) ?_
  refine at_noP ?_
  refine at_then ?_
  refine X_ret ?_
  exact at_retA rfl rfl agt_157 Cells.g0 rfl (fun w hw => ⟨rfl, hw.drop⟩)
theorem w_set (I : HMap) (x : Sg) (f : Int) (y : Sg) (hf : isF f) : RetV Tryz.prog 74 [encGA x, .int .i64 f, encGA y] I (encGA (setG x f y)) := by
  intro g H w hw
  refine enter Tryz.func74 rfl Tryz.ntmps74 rfl hw ?_
  refine X_seq ?_
  refine X_region ?_
  refine XO_box rfl rfl rfl (fun b_3 => ?_)
  refine XO_box rfl rfl rfl (fun b_5 => ?_)
  refine XO_alloc zt_45 rfl rfl (fun b_6 => ?_)
  refine XO_nil ?_
  refine at_then ?_
  refine X_seq ?_
  refine X_seq ?_
  refine X_region ?_
  refine XO_v0 (ev_move rfl) rfl rfl rfl ?_
  refine XO_v0 (ev_cmp rfl rfl rfl) rfl rfl rfl ?_
  refine XO_nil ?_
  refine at_then ?_
  refine X_cond rfl (fun hc8 => ?_) (fun hc8 => ?_)
  · skip
    have hf9 : f = 9 := by simpa using hc8
    refine X_seq ?_
    refine X_region ?_
    refine XO_v0 (ev_fieldAddr rfl fld_45_10) rfl rfl rfl ?_
    refine XO_v0 (ev_loadA rfl agt_43 (fun hg => by first | exact Cells.g0 | exact Cells.g1 | exact Cells.g2 | exact Cells.g3 | exact Cells.g4 | exact Cells.g5 | exact Cells.s0 (vs := [_, _]) rfl | exact Cells.s1 (vs := [_, _]) rfl | exact Cells.s2 (vs := [_, _]) rfl | exact Cells.s3 (vs := [_, _]) rfl | exact Cells.s4 (vs := [_, _]) rfl | exact Cells.s5 (vs := [_, _]) rfl | (repeat (first | exact Cells.here | apply Cells.there | apply Cells.app))) rfl) rfl rfl rfl ?_
    refine XO_v0 (ev_fieldAddr rfl fld_45_11) rfl rfl rfl ?_
    refine XO_v0 (ev_loadA rfl agt_43 (fun hg => by first | exact Cells.g0 | exact Cells.g1 | exact Cells.g2 | exact Cells.g3 | exact Cells.g4 | exact Cells.g5 | exact Cells.s0 (vs := [_, _]) rfl | exact Cells.s1 (vs := [_, _]) rfl | exact Cells.s2 (vs := [_, _]) rfl | exact Cells.s3 (vs := [_, _]) rfl | exact Cells.s4 (vs := [_, _]) rfl | exact Cells.s5 (vs := [_, _]) rfl | (repeat (first | exact Cells.here | apply Cells.there | apply Cells.app))) rfl) rfl rfl rfl ?_
    refine XO_v0 (ev_fieldAddr rfl fld_45_10) rfl rfl rfl ?_
    refine XO_storeP rfl rfl szt_43 rfl rfl rfl rfl (by first | exact Upd.u0 | exact Upd.u1 | exact Upd.u2 | exact Upd.u3 | exact Upd.u4 | exact Upd.u5 | (repeat (first | exact Upd.here | apply Upd.there | apply upd_app))) ?_
    refine XO_v0 (ev_fieldAddr rfl fld_45_11) rfl rfl rfl ?_
    refine XO_storeP rfl rfl szt_43 rfl rfl rfl rfl (by first | exact Upd.u0 | exact Upd.u1 | exact Upd.u2 | exact Upd.u3 | exact Upd.u4 | exact Upd.u5 | (repeat (first | exact Upd.here | apply Upd.there | apply upd_app))) ?_
    refine XO_nil ?_
    refine at_then ?_
    refine X_seq ?_
    refine X_region ?_
    refine XO_v0 (ev_loadA rfl agt_45 (fun hg => by first | exact Cells.g0 | exact Cells.g1 | exact Cells.g2 | exact Cells.g3 | exact Cells.g4 | exact Cells.g5 | exact Cells.s0 (vs := [_, _, _, _, _, _, _, _, _, _, _, _, _, _]) rfl | exact Cells.s1 (vs := [_, _, _, _, _, _, _, _, _, _, _, _, _, _]) rfl | exact Cells.s2 (vs := [_, _, _, _, _, _, _, _, _, _, _, _, _, _]) rfl | exact Cells.s3 (vs := [_, _, _, _, _, _, _, _, _, _, _, _, _, _]) rfl | exact Cells.s4 (vs := [_, _, _, _, _, _, _, _, _, _, _, _, _, _]) rfl | exact Cells.s5 (vs := [_, _, _, _, _, _, _, _, _, _, _, _, _, _]) rfl | (repeat (first | exact Cells.here | apply Cells.there | apply Cells.app))) rfl) rfl rfl rfl ?_
    refine XO_storeA rfl rfl szt_45 rfl rfl rfl rfl (by first | exact Upd.u0 | exact Upd.u1 | exact Upd.u2 | exact Upd.u3 | exact Upd.u4 | exact Upd.u5 | (repeat (first | exact Upd.here | apply Upd.there | apply upd_app))) ?_
    refine XO_nil ?_
    refine at_then ?_
    refine X_ret ?_
    refine at_then_r ?_
    first
    | exact at_retA rfl rfl agt_45 Cells.g0 rfl (fun w hw => ⟨by rw [hf9]; rfl, hw.drop⟩)
    | exact at_retA rfl rfl agt_45 Cells.g0 rfl (fun w hw => ⟨rfl, hw.drop⟩)
  · skip
    have hf8 : 1 ≤ f ∧ f ≤ 8 := by have h := hc8; unfold isF at hf; simp at h; omega
    refine X_skip ?_
    refine at_then ?_
    refine X_seq ?_
    have hD := HLe.refl I
    refine X_noP ?_
    refine X_drawS I [(b_5, .cells (encGA y).cells 45 (0, 0))] mixed ?_
    refine XD_take 1 rfl (ev_move rfl) (.none rfl) rfl rfl rfl (by kernel_rfl) (by kernel_rfl) (by kernel_rfl) noP_ok hD (by repeat (first | exact .refl | exact subL_nil | refine .keep ?_ | refine .drop ?_ | refine subL_add ?_)) ?_
    refine XD_take 4 rfl (ev_move rfl) (.none rfl) rfl rfl rfl (by kernel_rfl) (by kernel_rfl) (by kernel_rfl) noP_ok hD (by repeat (first | exact .refl | exact subL_nil | refine .keep ?_ | refine .drop ?_ | refine subL_add ?_)) ?_
    refine XD_one 0 rfl (by kernel_rfl) ?_
    refine XO_callV0 (cap := []) (vs := [_]) rfl rfl fun_132 (w_numbers I _) rfl rfl ?_
    refine XO_nil ?_
    refine at_D hD (by repeat (first | exact .refl | exact subL_nil | refine .keep ?_ | refine .drop ?_ | refine subL_add ?_)) ?_
    refine XD_two 2 3 rfl rfl (by kernel_rfl) ?_ ?_
    · skip
      refine XO_v0 (ev_index rfl rfl art_157 sct_141 (fun hg => by omega) (fun hg => num_at hf8 b_3)) rfl rfl rfl ?_
      refine XO_nil ?_
      refine at_D hD (by repeat (first | exact .refl | exact subL_nil | refine .keep ?_ | refine .drop ?_ | refine subL_add ?_)) ?_
      refine XD_one 3 rfl (by kernel_rfl) ?_
      refine XO_callV0 (cap := []) (vs := [_]) rfl rfl fun_132 (w_numbers I _) rfl rfl ?_
      refine XO_nil ?_
      refine at_D hD (by repeat (first | exact .refl | exact subL_nil | refine .keep ?_ | refine .drop ?_ | refine subL_add ?_)) ?_
      refine XD_one 5 rfl (by kernel_rfl) ?_
      refine XO_v0 (ev_index rfl rfl art_157 sct_141 (fun hg => by omega) (fun hg => num_at hf8 b_5)) rfl rfl rfl ?_
      refine XO_nil ?_
      refine at_D hD (by repeat (first | exact .refl | exact subL_nil | refine .keep ?_ | refine .drop ?_ | refine subL_add ?_)) ?_
      refine XD_take 6 rfl (ev_nilCheck rfl) (.none rfl) rfl rfl rfl (by kernel_rfl) (by kernel_rfl) (by kernel_rfl) noP_ok hD (by repeat (first | exact .refl | exact subL_nil | refine .keep ?_ | refine .drop ?_ | refine subL_add ?_)) ?_
      refine XD_take 7 rfl (ev_load rfl sct_3 (fun hg => by first | exact Cell.h0 (cell_fo hf8 y) | exact Cell.h0 rfl | exact Cell.h1 rfl | exact Cell.h2 rfl | exact Cell.h3 rfl | exact Cell.h4 rfl | exact Cell.h5 rfl | (repeat (first | exact Cell.here rfl | apply Cell.there | apply Cell.app)))) (.none rfl) rfl rfl rfl (by kernel_rfl) (by kernel_rfl) (by kernel_rfl) noP_ok hD (by repeat (first | exact .refl | exact subL_nil | refine .keep ?_ | refine .drop ?_ | refine subL_add ?_)) ?_
      refine XD_take 8 rfl (ev_nilCheck rfl) (.none rfl) rfl rfl rfl (by kernel_rfl) (by kernel_rfl) (by kernel_rfl) noP_ok hD (by repeat (first | exact .refl | exact subL_nil | refine .keep ?_ | refine .drop ?_ | refine subL_add ?_)) ?_
      refine XD_one 9 rfl (by kernel_rfl) ?_
      refine XO_store rfl rfl szt_3 rfl rfl Upd.u2 (by exact fo_lt) ?_
      rw [show (encGA x).cells.setIfInBounds (foF f) (.int .i64 (getF y f)) = (encG (setG x f y)).toArray from set_fo hf8 x y]
      refine XO_nil ?_
      refine at_D hD (by repeat (first | exact .refl | exact subL_nil | refine .keep ?_ | refine .drop ?_ | refine subL_add ?_)) ?_
      refine XD_done (by kernel_rfl) ?_
      refine at_noP ?_
      refine at_then ?_
      refine X_seq ?_
      refine X_region ?_
      refine XO_v0 (ev_loadA rfl agt_45 (fun hg => by first | exact Cells.g0 | exact Cells.g1 | exact Cells.g2 | exact Cells.g3 | exact Cells.g4 | exact Cells.g5 | exact Cells.s0 (vs := [_, _, _, _, _, _, _, _, _, _, _, _, _, _]) rfl | exact Cells.s1 (vs := [_, _, _, _, _, _, _, _, _, _, _, _, _, _]) rfl | exact Cells.s2 (vs := [_, _, _, _, _, _, _, _, _, _, _, _, _, _]) rfl | exact Cells.s3 (vs := [_, _, _, _, _, _, _, _, _, _, _, _, _, _]) rfl | exact Cells.s4 (vs := [_, _, _, _, _, _, _, _, _, _, _, _, _, _]) rfl | exact Cells.s5 (vs := [_, _, _, _, _, _, _, _, _, _, _, _, _, _]) rfl | (repeat (first | exact Cells.here | apply Cells.there | apply Cells.app))) rfl) rfl rfl rfl ?_
      refine XO_storeA rfl rfl szt_45 rfl rfl rfl rfl (by first | exact Upd.u0 | exact Upd.u1 | exact Upd.u2 | exact Upd.u3 | exact Upd.u4 | exact Upd.u5 | (repeat (first | exact Upd.here | apply Upd.there | apply upd_app))) ?_
      refine XO_nil ?_
      refine at_then ?_
      refine X_ret ?_
      first
      | exact at_retA rfl rfl agt_45 Cells.g0 rfl (fun w hw => ⟨by rw [hf9]; rfl, hw.drop⟩)
      | exact at_retA rfl rfl agt_45 Cells.g0 rfl (fun w hw => ⟨rfl, hw.drop⟩)
    · skip
      refine XO_callV0 (cap := []) (vs := [_]) rfl rfl fun_132 (w_numbers I _) rfl rfl ?_
      refine XO_nil ?_
      refine at_D hD (by repeat (first | exact .refl | exact subL_nil | refine .keep ?_ | refine .drop ?_ | refine subL_add ?_)) ?_
      refine XD_two 2 5 rfl rfl (by kernel_rfl) ?_ ?_
      · skip
        refine XO_v0 (ev_index rfl rfl art_157 sct_141 (fun hg => by omega) (fun hg => num_at hf8 b_3)) rfl rfl rfl ?_
        refine XO_nil ?_
        refine at_D hD (by repeat (first | exact .refl | exact subL_nil | refine .keep ?_ | refine .drop ?_ | refine subL_add ?_)) ?_
        refine XD_one 5 rfl (by kernel_rfl) ?_
        refine XO_v0 (ev_index rfl rfl art_157 sct_141 (fun hg => by omega) (fun hg => num_at hf8 b_5)) rfl rfl rfl ?_
        refine XO_nil ?_
        refine at_D hD (by repeat (first | exact .refl | exact subL_nil | refine .keep ?_ | refine .drop ?_ | refine subL_add ?_)) ?_
        refine XD_take 6 rfl (ev_nilCheck rfl) (.none rfl) rfl rfl rfl (by kernel_rfl) (by kernel_rfl) (by kernel_rfl) noP_ok hD (by repeat (first | exact .refl | exact subL_nil | refine .keep ?_ | refine .drop ?_ | refine subL_add ?_)) ?_
        refine XD_take 7 rfl (ev_load rfl sct_3 (fun hg => by first | exact Cell.h0 (cell_fo hf8 y) | exact Cell.h0 rfl | exact Cell.h1 rfl | exact Cell.h2 rfl | exact Cell.h3 rfl | exact Cell.h4 rfl | exact Cell.h5 rfl | (repeat (first | exact Cell.here rfl | apply Cell.there | apply Cell.app)))) (.none rfl) rfl rfl rfl (by kernel_rfl) (by kernel_rfl) (by kernel_rfl) noP_ok hD (by repeat (first | exact .refl | exact subL_nil | refine .keep ?_ | refine .drop ?_ | refine subL_add ?_)) ?_
        refine XD_take 8 rfl (ev_nilCheck rfl) (.none rfl) rfl rfl rfl (by kernel_rfl) (by kernel_rfl) (by kernel_rfl) noP_ok hD (by repeat (first | exact .refl | exact subL_nil | refine .keep ?_ | refine .drop ?_ | refine subL_add ?_)) ?_
        refine XD_one 9 rfl (by kernel_rfl) ?_
        refine XO_store rfl rfl szt_3 rfl rfl Upd.u2 (by exact fo_lt) ?_
        rw [show (encGA x).cells.setIfInBounds (foF f) (.int .i64 (getF y f)) = (encG (setG x f y)).toArray from set_fo hf8 x y]
        refine XO_nil ?_
        refine at_D hD (by repeat (first | exact .refl | exact subL_nil | refine .keep ?_ | refine .drop ?_ | refine subL_add ?_)) ?_
        refine XD_done (by kernel_rfl) ?_
        refine at_noP ?_
        refine at_then ?_
        refine X_seq ?_
        refine X_region ?_
        refine XO_v0 (ev_loadA rfl agt_45 (fun hg => by first | exact Cells.g0 | exact Cells.g1 | exact Cells.g2 | exact Cells.g3 | exact Cells.g4 | exact Cells.g5 | exact Cells.s0 (vs := [_, _, _, _, _, _, _, _, _, _, _, _, _, _]) rfl | exact Cells.s1 (vs := [_, _, _, _, _, _, _, _, _, _, _, _, _, _]) rfl | exact Cells.s2 (vs := [_, _, _, _, _, _, _, _, _, _, _, _, _, _]) rfl | exact Cells.s3 (vs := [_, _, _, _, _, _, _, _, _, _, _, _, _, _]) rfl | exact Cells.s4 (vs := [_, _, _, _, _, _, _, _, _, _, _, _, _, _]) rfl | exact Cells.s5 (vs := [_, _, _, _, _, _, _, _, _, _, _, _, _, _]) rfl | (repeat (first | exact Cells.here | apply Cells.there | apply Cells.app))) rfl) rfl rfl rfl ?_
        refine XO_storeA rfl rfl szt_45 rfl rfl rfl rfl (by first | exact Upd.u0 | exact Upd.u1 | exact Upd.u2 | exact Upd.u3 | exact Upd.u4 | exact Upd.u5 | (repeat (first | exact Upd.here | apply Upd.there | apply upd_app))) ?_
        refine XO_nil ?_
        refine at_then ?_
        refine X_ret ?_
        first
        | exact at_retA rfl rfl agt_45 Cells.g0 rfl (fun w hw => ⟨by rw [hf9]; rfl, hw.drop⟩)
        | exact at_retA rfl rfl agt_45 Cells.g0 rfl (fun w hw => ⟨rfl, hw.drop⟩)
      · skip
        refine XO_v0 (ev_index rfl rfl art_157 sct_141 (fun hg => by omega) (fun hg => num_at hf8 b_5)) rfl rfl rfl ?_
        refine XO_nil ?_
        refine at_D hD (by repeat (first | exact .refl | exact subL_nil | refine .keep ?_ | refine .drop ?_ | refine subL_add ?_)) ?_
        refine XD_take 6 rfl (ev_nilCheck rfl) (.none rfl) rfl rfl rfl (by kernel_rfl) (by kernel_rfl) (by kernel_rfl) noP_ok hD (by repeat (first | exact .refl | exact subL_nil | refine .keep ?_ | refine .drop ?_ | refine subL_add ?_)) ?_
        refine XD_take 7 rfl (ev_load rfl sct_3 (fun hg => by first | exact Cell.h0 (cell_fo hf8 y) | exact Cell.h0 rfl | exact Cell.h1 rfl | exact Cell.h2 rfl | exact Cell.h3 rfl | exact Cell.h4 rfl | exact Cell.h5 rfl | (repeat (first | exact Cell.here rfl | apply Cell.there | apply Cell.app)))) (.none rfl) rfl rfl rfl (by kernel_rfl) (by kernel_rfl) (by kernel_rfl) noP_ok hD (by repeat (first | exact .refl | exact subL_nil | refine .keep ?_ | refine .drop ?_ | refine subL_add ?_)) ?_
        refine XD_one 2 rfl (by kernel_rfl) ?_
        refine XO_v0 (ev_index rfl rfl art_157 sct_141 (fun hg => by omega) (fun hg => num_at hf8 b_3)) rfl rfl rfl ?_
        refine XO_nil ?_
        refine at_D hD (by repeat (first | exact .refl | exact subL_nil | refine .keep ?_ | refine .drop ?_ | refine subL_add ?_)) ?_
        refine XD_take 8 rfl (ev_nilCheck rfl) (.none rfl) rfl rfl rfl (by kernel_rfl) (by kernel_rfl) (by kernel_rfl) noP_ok hD (by repeat (first | exact .refl | exact subL_nil | refine .keep ?_ | refine .drop ?_ | refine subL_add ?_)) ?_
        refine XD_one 9 rfl (by kernel_rfl) ?_
        refine XO_store rfl rfl szt_3 rfl rfl Upd.u2 (by exact fo_lt) ?_
        rw [show (encGA x).cells.setIfInBounds (foF f) (.int .i64 (getF y f)) = (encG (setG x f y)).toArray from set_fo hf8 x y]
        refine XO_nil ?_
        refine at_D hD (by repeat (first | exact .refl | exact subL_nil | refine .keep ?_ | refine .drop ?_ | refine subL_add ?_)) ?_
        refine XD_done (by kernel_rfl) ?_
        refine at_noP ?_
        refine at_then ?_
        refine X_seq ?_
        refine X_region ?_
        refine XO_v0 (ev_loadA rfl agt_45 (fun hg => by first | exact Cells.g0 | exact Cells.g1 | exact Cells.g2 | exact Cells.g3 | exact Cells.g4 | exact Cells.g5 | exact Cells.s0 (vs := [_, _, _, _, _, _, _, _, _, _, _, _, _, _]) rfl | exact Cells.s1 (vs := [_, _, _, _, _, _, _, _, _, _, _, _, _, _]) rfl | exact Cells.s2 (vs := [_, _, _, _, _, _, _, _, _, _, _, _, _, _]) rfl | exact Cells.s3 (vs := [_, _, _, _, _, _, _, _, _, _, _, _, _, _]) rfl | exact Cells.s4 (vs := [_, _, _, _, _, _, _, _, _, _, _, _, _, _]) rfl | exact Cells.s5 (vs := [_, _, _, _, _, _, _, _, _, _, _, _, _, _]) rfl | (repeat (first | exact Cells.here | apply Cells.there | apply Cells.app))) rfl) rfl rfl rfl ?_
        refine XO_storeA rfl rfl szt_45 rfl rfl rfl rfl (by first | exact Upd.u0 | exact Upd.u1 | exact Upd.u2 | exact Upd.u3 | exact Upd.u4 | exact Upd.u5 | (repeat (first | exact Upd.here | apply Upd.there | apply upd_app))) ?_
        refine XO_nil ?_
        refine at_then ?_
        refine X_ret ?_
        first
        | exact at_retA rfl rfl agt_45 Cells.g0 rfl (fun w hw => ⟨by rw [hf9]; rfl, hw.drop⟩)
        | exact at_retA rfl rfl agt_45 Cells.g0 rfl (fun w hw => ⟨rfl, hw.drop⟩)
end Go.Proofs.YtccomeanpppfmaaGreat
end
