/- The walks of the register of rights, thirteenth part: each function comes to its Lean function. -/
import Derived.Test.YtmflfccincbnaaaWalkL
import Derived.Test.YtmflfccincbnaaaPlain
namespace Go.Proofs.Ytmflfccincbnaaa
open Go Go.Kn Go.Proofs
theorem w_rAllowed {I : HMap} {av : Option Addr} {n c : Nat} {xs : List Rt} (hS : Sl I 11 encR av n c xs) (hn : n ≤ 100000) {bv : Option Addr} {n2 c2 : Nat} {ss : List Int} (hT : Sl I 1 encI bv n2 c2 ss) (hn2 : n2 ≤ 100000) (ed day time : Int) : RetM Try.prog 22 [.slice av n c, .int .i64 ed, .slice bv n2 c2, .int .i64 day, .int .i64 time] I [] (AlE (aErr (askedF (fCheck xs) day time) ss) (missA (fun s => holdR ed s (standsF xs day time)) (fun s h => !(standsF xs day time).any (consP ed s h)) ss)) := by
  intro g H w hw
  refine enter Try.func22 rfl Try.ntmps22 rfl hw ?_
  refine X_seq ?_
  refine X_region ?_
  refine XO_v0 (ev_assign rfl) rfl rfl rfl ?_
  refine XO_v0 (ev_assign rfl) rfl rfl rfl ?_
  refine XO_v0 (ev_assign rfl) rfl rfl rfl ?_
  refine XO_nil ?_
  refine at_then ?_
  refine X_seq ?_
  refine X_region ?_
  refine XO_v0 (ev_move rfl) rfl rfl rfl ?_
  refine XO_v0 (ev_move rfl) rfl rfl rfl ?_
  refine XO_v0 (ev_move rfl) rfl rfl rfl ?_
  refine XO_callM (cap := []) (vs := [_, _, _]) rfl rfl fun_13 .nil (w_rstanding hS hn _ _) rfl rfl ?_
  rintro vq J1 L' hJ1 ⟨rfl, av', c', rfl, hZ⟩
  have hz : (resF (askedF (fCheck xs) day time) (standsF xs day time)).length ≤ 100000 := Nat.le_trans resF_len (Nat.le_trans standsF_len (by rw [hS.len]; exact hn))
  have hT := hT.mono hJ1
  generalize hzs : resF (askedF (fCheck xs) day time) (standsF xs day time) = zs at hZ hz
  refine XO_v0 (ev_move rfl) rfl rfl rfl ?_
  refine XO_v0 (ev_extract rfl rfl) rfl rfl rfl ?_
  refine XO_v0 (ev_extract rfl rfl) rfl rfl rfl ?_
  refine XO_v0 (ev_assign rfl) rfl rfl rfl ?_
  refine XO_v0 (ev_assign rfl) rfl rfl rfl ?_
  refine XO_nil ?_
  refine at_then ?_
  refine X_seq ?_
  refine X_seq ?_
  refine X_region ?_
  refine XO_v0 (ev_move rfl) rfl rfl rfl ?_
  refine XO_v0 (ev_cmp rfl rfl rfl) rfl rfl rfl ?_
  refine XO_nil ?_
  refine at_then ?_
  refine X_cond rfl (fun hc28 => ?_) (fun hc28 => ?_)
  · skip
    have hchk : askedF (fCheck xs) day time ≠ 0 := by simpa using hc28
    refine X_seq ?_
    refine X_region ?_
    refine XO_v0 (ev_move rfl) rfl rfl rfl ?_
    refine XO_v0 (ev_assign rfl) rfl rfl rfl ?_
    refine XO_v0 (ev_assign rfl) rfl rfl rfl ?_
    refine XO_v0 (ev_assign rfl) rfl rfl rfl ?_
    refine XO_nil ?_
    refine at_then ?_
    refine X_ret ?_
    refine at_then_r ?_
    first
    | exact at_ret3 rfl rfl rfl rfl (fun w hw => ⟨_, _, [], rfl, hJ1, hw, by rw [aErr_chk hchk]; exact AlE.bad hchk⟩)
    | exact at_ret3 rfl rfl rfl rfl (fun w hw => ⟨_, _, [], rfl, hJ1, hw, by rw [aErr_many hchk hmany]; exact AlE.bad (by decide)⟩)
    | exact at_ret3 rfl rfl rfl rfl (fun w hw => ⟨_, _, [], rfl, hJ1, hw, by rw [aErr_bad hchk hmany hsok]; exact AlE.bad (by decide)⟩)
    | exact at_ret3 rfl rfl rfl rfl (fun w hw => by obtain ⟨I4, h1, h2, av2, c2, e2, h4⟩ := hO.freeze' encP_len (by decide) hw; cases e2; have hz0 : zs = standsF xs day time := by { rw [← hzs]; unfold resF; rw [if_neg (by omega)] }; exact ⟨_, I4, [], rfl, hJ1.trans (hJ.trans h1), h2, by rw [aErr_ok hchk hmany hsok, ← hz0]; exact AlE.good h4.len h4⟩)
  · skip
    have hchk : askedF (fCheck xs) day time = 0 := by simpa using hc28
    refine X_skip ?_
    refine at_then ?_
    refine X_seq ?_
    refine X_seq ?_
    refine X_region ?_
    refine XO_v0 (ev_move rfl) rfl rfl rfl ?_
    refine XO_v0 (ev_lenS rfl slt_31) rfl rfl rfl ?_
    refine XO_v0 (ev_cmp rfl rfl rfl) rfl rfl rfl ?_
    refine XO_nil ?_
    refine at_then ?_
    refine X_cond rfl (fun hc32 => ?_) (fun hc32 => ?_)
    · skip
      have hmany : ss.length > 64 := by rw [hT.len]; simp at hc32; omega
      refine X_seq ?_
      refine X_region ?_
      refine XO_v0 (ev_assign rfl) rfl rfl rfl ?_
      refine XO_v0 (ev_assign rfl) rfl rfl rfl ?_
      refine XO_v0 (ev_assign rfl) rfl rfl rfl ?_
      refine XO_nil ?_
      refine at_then ?_
      refine X_ret ?_
      refine at_then_r ?_
      first
      | exact at_ret3 rfl rfl rfl rfl (fun w hw => ⟨_, _, [], rfl, hJ1, hw, by rw [aErr_chk hchk]; exact AlE.bad hchk⟩)
      | exact at_ret3 rfl rfl rfl rfl (fun w hw => ⟨_, _, [], rfl, hJ1, hw, by rw [aErr_many hchk hmany]; exact AlE.bad (by decide)⟩)
      | exact at_ret3 rfl rfl rfl rfl (fun w hw => ⟨_, _, [], rfl, hJ1, hw, by rw [aErr_bad hchk hmany hsok]; exact AlE.bad (by decide)⟩)
      | exact at_ret3 rfl rfl rfl rfl (fun w hw => by obtain ⟨I4, h1, h2, av2, c2, e2, h4⟩ := hO.freeze' encP_len (by decide) hw; cases e2; have hz0 : zs = standsF xs day time := by { rw [← hzs]; unfold resF; rw [if_neg (by omega)] }; exact ⟨_, I4, [], rfl, hJ1.trans (hJ.trans h1), h2, by rw [aErr_ok hchk hmany hsok, ← hz0]; exact AlE.good h4.len h4⟩)
    · skip
      have hmany : ¬ ss.length > 64 := by rw [hT.len]; simp at hc32; omega
      refine X_skip ?_
      refine at_then ?_
      refine X_cut (fun E I' loc' => E = [(0, .slice av n c), (1, .int .i64 ed), (2, .slice bv n2 c2), (3, .int .i64 day), (4, .int .i64 time), (13, .slice av' zs.length c')] ∧ I' = J1 ∧ loc' = [] ∧ signOK ss = true) ?_ ?_
      · skip
        refine X_seq ?_
        refine X_region ?_
        refine XO_v0 (ev_assign rfl) rfl rfl rfl ?_
        refine XO_nil ?_
        refine at_then ?_
        refine X_block ?_
        refine X_loop (fun m E I' loc' => ∃ k : Nat, m = n2 - k ∧ E = [(0, .slice av n c), (1, .int .i64 ed), (2, .slice bv n2 c2), (3, .int .i64 day), (4, .int .i64 time), (13, .slice av' zs.length c'), (15, .int .i64 k)] ∧ I' = J1 ∧ loc' = [] ∧ k ≤ n2 ∧ (List.range k).all (signP ss) = true) _ _ _ _ ⟨0, rfl, rfl, rfl, rfl, Nat.zero_le _, rfl⟩ (.cons rfl (.cons rfl (.cons rfl (.cons rfl (.cons rfl (.cons rfl (.cons rfl .nil))))))) (HLe.refl _) rfl ?_
        rintro m E I' loc' ⟨k, rfl, rfl, rfl, rfl, hk, hinv⟩
        refine X_seq ?_
        refine X_seq ?_
        refine X_region ?_
        refine XO_v0 (ev_move rfl) rfl rfl rfl ?_
        refine XO_v0 (ev_move rfl) rfl rfl rfl ?_
        refine XO_v0 (ev_lenS rfl slt_31) rfl rfl rfl ?_
        refine XO_v0 (ev_cmp rfl rfl rfl) rfl rfl rfl ?_
        refine XO_nil ?_
        refine at_then ?_
        refine X_cond rfl (fun hc36 => ?_) (fun hc36 => ?_)
        · skip
          have hlt : k < n2 := by simpa using hc36
          refine X_skip ?_
          refine at_then ?_
          refine X_seq ?_
          refine X_block ?_
          refine X_seq ?_
          refine X_draw mixed (by kernel_rfl) ?_
          refine XQ_v0 (ev_move rfl) rfl rfl rfl ?_
          refine XQ_v0 (ev_move rfl) rfl rfl rfl ?_
          refine XQ_v0 (ev_indexSl rfl rfl slt_31 hT (fun hg => by first | omega | (simp [conj] at hg; omega))) rfl rfl rfl ?_
          refine XQ_v0 (ev_load rfl sct_3 (fun hg => by first | exact Sl.getD0 hT (d := 0) (k := ((k : Int) - 1).toNat) (by simp [conj] at hg; omega) rfl | exact Sl.getD0 hT (d := 0) (k := k) hlt rfl | exact Sl.getD0 hH (d := 0) (k := j) hjl rfl | exact Cell.h0 rfl | exact Cell.h1 rfl | exact Cell.h2 rfl | exact Cell.h3 rfl | exact Cell.h4 rfl | exact Cell.h5 rfl)) rfl rfl rfl ?_
          refine XQ_callV0 (cap := []) (vs := [_, _, _]) rfl rfl fun_35 (w_rwithin _ _ _ _) rfl rfl ?_
          refine XQ_v0 (ev_not rfl) rfl rfl rfl ?_
          refine XQ_v0 (ev_move rfl) rfl rfl rfl ?_
          refine XQ_pushF 6 rfl rfl rfl ?_
          refine XQ_v1 (ev_move rfl) (.some rfl rfl rfl rfl gbf) rfl rfl rfl ?_
          refine XQ_v1 (ev_cmp rfl rfl rfl) (.some rfl rfl rfl rfl gbf) rfl rfl rfl ?_
          refine XQ_v1 (ev_move rfl) (.some rfl rfl rfl rfl gbf) rfl rfl rfl ?_
          refine XQ_pushT 9 rfl rfl rfl ?_
          refine XQ_v1 (ev_move rfl) (.some rfl rfl rfl rfl gbt) rfl rfl rfl ?_
          refine XQ_v1 (ev_move rfl) (.some rfl rfl rfl rfl gbt) rfl rfl rfl ?_
          refine XQ_v1 (ev_indexSl rfl rfl slt_31 hT (fun hg => by first | omega | (simp [conj] at hg; omega))) (.some rfl rfl rfl rfl gbt) rfl rfl rfl ?_
          refine XQ_v1 (ev_load rfl sct_3 (fun hg => by first | exact Sl.getD0 hT (d := 0) (k := ((k : Int) - 1).toNat) (by simp [conj] at hg; omega) rfl | exact Sl.getD0 hT (d := 0) (k := k) hlt rfl | exact Sl.getD0 hH (d := 0) (k := j) hjl rfl | exact Cell.h0 rfl | exact Cell.h1 rfl | exact Cell.h2 rfl | exact Cell.h3 rfl | exact Cell.h4 rfl | exact Cell.h5 rfl)) (.some rfl rfl rfl rfl gbt) rfl rfl rfl ?_
          refine XQ_v1 (ev_move rfl) (.some rfl rfl rfl rfl gbt) rfl rfl rfl ?_
          refine XQ_v1 (ev_move rfl) (.some rfl rfl rfl rfl gbt) rfl rfl rfl ?_
          refine XQ_v1 (ev_arB rfl rfl rfl (fun _ => by omega)) (.some rfl rfl rfl rfl gbt) rfl rfl rfl ?_
          refine XQ_v1 (ev_indexSl rfl rfl slt_31 hT (fun hg => by first | omega | (simp [conj] at hg; omega))) (.some rfl rfl rfl rfl gbt) rfl rfl rfl ?_
          refine XQ_v1 (ev_load rfl sct_3 (fun hg => by first | exact Sl.getD0 hT (d := 0) (k := ((k : Int) - 1).toNat) (by simp [conj] at hg; omega) rfl | exact Sl.getD0 hT (d := 0) (k := k) hlt rfl | exact Sl.getD0 hH (d := 0) (k := j) hjl rfl | exact Cell.h0 rfl | exact Cell.h1 rfl | exact Cell.h2 rfl | exact Cell.h3 rfl | exact Cell.h4 rfl | exact Cell.h5 rfl)) (.some rfl rfl rfl rfl gbt) rfl rfl rfl ?_
          refine XQ_v1 (ev_cmp rfl rfl rfl) (.some rfl rfl rfl rfl gbt) rfl rfl rfl ?_
          refine XQ_and1 rfl rfl rfl (.some rfl rfl rfl rfl gbf) rfl rfl ?_
          refine XQ_or0 rfl rfl rfl rfl rfl ?_
          refine XQ_nil ?_
          refine at_then ?_
          refine X_cond rfl (fun hc60 => ?_) (fun hc60 => ?_)
          · skip
            have hsok := sign_bad hT.len hlt (signP_t hc60)
            refine X_seq ?_
            refine X_region ?_
            refine XO_v0 (ev_assign rfl) rfl rfl rfl ?_
            refine XO_v0 (ev_assign rfl) rfl rfl rfl ?_
            refine XO_v0 (ev_assign rfl) rfl rfl rfl ?_
            refine XO_nil ?_
            refine at_then ?_
            refine X_ret ?_
            refine at_block_r ?_
            refine at_then_r ?_
            refine at_then_r ?_
            refine at_block_r ?_
            refine at_then_r ?_
            first
            | exact at_ret3 rfl rfl rfl rfl (fun w hw => ⟨_, _, [], rfl, hJ1, hw, by rw [aErr_chk hchk]; exact AlE.bad hchk⟩)
            | exact at_ret3 rfl rfl rfl rfl (fun w hw => ⟨_, _, [], rfl, hJ1, hw, by rw [aErr_many hchk hmany]; exact AlE.bad (by decide)⟩)
            | exact at_ret3 rfl rfl rfl rfl (fun w hw => ⟨_, _, [], rfl, hJ1, hw, by rw [aErr_bad hchk hmany hsok]; exact AlE.bad (by decide)⟩)
            | exact at_ret3 rfl rfl rfl rfl (fun w hw => by obtain ⟨I4, h1, h2, av2, c2, e2, h4⟩ := hO.freeze' encP_len (by decide) hw; cases e2; have hz0 : zs = standsF xs day time := by { rw [← hzs]; unfold resF; rw [if_neg (by omega)] }; exact ⟨_, I4, [], rfl, hJ1.trans (hJ.trans h1), h2, by rw [aErr_ok hchk hmany hsok, ← hz0]; exact AlE.good h4.len h4⟩)
          · skip
            refine X_skip ?_
            refine at_block_n ?_
            refine at_then ?_
            refine X_region ?_
            refine XO_v0 (ev_move rfl) rfl rfl rfl ?_
            refine XO_v0 (ev_arB rfl rfl rfl (fun _ => by omega)) rfl rfl rfl ?_
            refine XO_v0 (ev_assign rfl) rfl rfl rfl ?_
            refine XO_nil ?_
            exact at_met' _ ⟨n2 - (k + 1), by omega, k + 1, rfl, rfl, rfl, rfl, by omega, sign_step hinv (signP_f hc60)⟩ (.cons rfl (.cons rfl (.cons rfl (.cons rfl (.cons rfl (.cons rfl (.cons rfl .nil)))))))
        · skip
          have hge : n2 ≤ k := by simpa using hc36
          refine X_exit ?_
          refine at_then_e ?_
          refine at_then_e ?_
          refine at_block_hit ?_
          exact at_met' _ ⟨rfl, rfl, rfl, by unfold signOK; rw [show ss.length = k from by rw [hT.len]; omega]; exact hinv⟩ (.cons rfl (.cons rfl (.cons rfl (.cons rfl (.cons rfl (.cons rfl .nil))))))
      · rintro E I' loc' ⟨rfl, hIe, rfl, hsok⟩
        refine X_seq ?_
        obtain rfl := hIe.symm
        refine X_region ?_
        refine XO_v0 (ev_assign rfl) rfl rfl rfl ?_
        refine XO_nil ?_
        refine at_then ?_
        refine X_cut (fun E I' loc' => ∃ (v : Value) (q : Nat) (L : Go.Kn.Loc), E = [(0, .slice av n c), (1, .int .i64 ed), (2, .slice bv n2 c2), (3, .int .i64 day), (4, .int .i64 time), (16, v)] ∧ HLe J1 I' ∧ loc' = L ∧ OwnS 46 2 v q ((missA (fun s => holdR ed s zs) (fun s h => !zs.any (consP ed s h)) ss).flatMap encP) L) ?_ ?_
        · skip
          refine X_seq ?_
          refine X_region ?_
          refine XO_v0 (ev_assign rfl) rfl rfl rfl ?_
          refine XO_nil ?_
          refine at_then ?_
          refine X_block ?_
          refine X_loop (fun m E I' loc' => ∃ (k : Nat) (v : Value) (q : Nat) (L : Go.Kn.Loc), m = n2 - k ∧ E = [(0, .slice av n c), (1, .int .i64 ed), (2, .slice bv n2 c2), (3, .int .i64 day), (4, .int .i64 time), (13, .slice av' zs.length c'), (16, v), (17, .int .i64 k)] ∧ HLe J1 I' ∧ loc' = L ∧ k ≤ n2 ∧ OwnS 46 2 v q ((missA (fun s => holdR ed s zs) (fun s h => !zs.any (consP ed s h)) (ss.take k)).flatMap encP) L ∧ q ≤ k * 100000) _ _ _ _ ⟨0, _, 0, [], rfl, rfl, HLe.refl _, rfl, Nat.zero_le _, OwnS.nil, Nat.le_refl _⟩ (.cons rfl (.cons rfl (.cons rfl (.cons rfl (.cons rfl (.cons rfl (.cons rfl (.cons rfl .nil)))))))) (HLe.refl _) rfl ?_
          rintro m E I' loc' ⟨k, v, q, L, rfl, rfl, hJ, rfl, hk, hO, hq⟩
          have hT := hT.mono hJ; have hZ := hZ.mono hJ
          refine X_seq ?_
          refine X_seq ?_
          refine X_region ?_
          refine XO_v0 (ev_move rfl) rfl rfl rfl ?_
          refine XO_v0 (ev_move rfl) rfl rfl rfl ?_
          refine XO_v0 (ev_lenS rfl slt_31) rfl rfl rfl ?_
          refine XO_v0 (ev_cmp rfl rfl rfl) rfl rfl rfl ?_
          refine XO_nil ?_
          refine at_then ?_
          refine X_cond rfl (fun hc64 => ?_) (fun hc64 => ?_)
          · skip
            have hlt : k < n2 := by simpa using hc64
            refine X_skip ?_
            refine at_then ?_
            refine X_seq ?_
            refine X_block ?_
            refine X_seq ?_
            refine X_region ?_
            refine XO_v0 (ev_move rfl) rfl rfl rfl ?_
            refine XO_v0 (ev_move rfl) rfl rfl rfl ?_
            refine XO_v0 (ev_move rfl) rfl rfl rfl ?_
            refine XO_v0 (ev_move rfl) rfl rfl rfl ?_
            refine XO_v0 (ev_indexSl rfl rfl slt_31 hT (fun hg => by first | omega | (simp [conj] at hg; omega))) rfl rfl rfl ?_
            refine XO_v0 (ev_load rfl sct_3 (fun hg => by first | exact Sl.getD0 hT (d := 0) (k := ((k : Int) - 1).toNat) (by simp [conj] at hg; omega) rfl | exact Sl.getD0 hT (d := 0) (k := k) hlt rfl | exact Sl.getD0 hH (d := 0) (k := j) hjl rfl | exact Cell.h0 rfl | exact Cell.h1 rfl | exact Cell.h2 rfl | exact Cell.h3 rfl | exact Cell.h4 rfl | exact Cell.h5 rfl)) rfl rfl rfl ?_
            refine XO_callM (cap := []) (vs := [_, _, _]) rfl rfl fun_36 .nil (w_rholders hZ hz ed (ss.getD k 0)) rfl rfl ?_
            rintro vh I3 L' hI3 ⟨rfl, hv, hcp, rfl, hH⟩
            have hfl : (holdR ed (ss.getD k 0) zs).length ≤ 100000 := Nat.le_trans (holdR_len _ _ _) hz
            have hT := hT.mono hI3; have hZ := hZ.mono hI3
            generalize hhs : holdR ed (ss.getD k 0) zs = hs at hH hfl
            refine XO_v0 (ev_assign rfl) rfl rfl rfl ?_
            refine XO_nil ?_
            refine at_then ?_
            refine X_seq ?_
            refine X_region ?_
            refine XO_v0 (ev_assign rfl) rfl rfl rfl ?_
            refine XO_nil ?_
            refine at_then ?_
            refine X_block ?_
            refine X_loop (fun m E I' loc' => ∃ (j : Nat) (v : Value) (q : Nat) (L : Go.Kn.Loc), m = hs.length - j ∧ E = [(0, .slice av n c), (1, .int .i64 ed), (2, .slice bv n2 c2), (3, .int .i64 day), (4, .int .i64 time), (13, .slice av' zs.length c'), (16, v), (17, .int .i64 k), (18, .slice hv hs.length hcp), (19, .int .i64 j)] ∧ I' = I3 ∧ loc' = L ∧ j ≤ hs.length ∧ OwnS 46 2 v q ((missA (fun s => holdR ed s zs) (fun s h => !zs.any (consP ed s h)) (ss.take k) ++ ((hs.take j).filter ((fun s h => !zs.any (consP ed s h)) (ss.getD k 0))).map (fun h => (ss.getD k 0, h))).flatMap encP) L ∧ q ≤ k * 100000 + j) _ _ _ _ ⟨0, v, q, loc', rfl, rfl, rfl, rfl, Nat.zero_le _, by simpa using hO, Nat.le_trans hq (Nat.le_add_right _ _)⟩ (.cons rfl (.cons rfl (.cons rfl (.cons rfl (.cons rfl (.cons rfl (.cons rfl (.cons rfl (.cons rfl (.cons rfl .nil)))))))))) (HLe.refl _) rfl ?_
            rintro m E I' loc' ⟨j, v, q, L, rfl, rfl, rfl, rfl, hj, hO, hq⟩
            refine X_seq ?_
            refine X_seq ?_
            refine X_region ?_
            refine XO_v0 (ev_move rfl) rfl rfl rfl ?_
            refine XO_v0 (ev_move rfl) rfl rfl rfl ?_
            refine XO_v0 (ev_lenS rfl slt_31) rfl rfl rfl ?_
            refine XO_v0 (ev_cmp rfl rfl rfl) rfl rfl rfl ?_
            refine XO_nil ?_
            refine at_then ?_
            refine X_cond rfl (fun hc77 => ?_) (fun hc77 => ?_)
            · skip
              have hjl : j < hs.length := by simpa using hc77
              refine X_skip ?_
              refine at_then ?_
              refine X_seq ?_
              refine X_block ?_
              refine X_seq ?_
              refine X_draw mixed (by kernel_rfl) ?_
              refine XQ_v0 (ev_move rfl) rfl rfl rfl ?_
              refine XQ_v0 (ev_move rfl) rfl rfl rfl ?_
              refine XQ_v0 (ev_move rfl) rfl rfl rfl ?_
              refine XQ_v0 (ev_move rfl) rfl rfl rfl ?_
              refine XQ_v0 (ev_indexSl rfl rfl slt_31 hT (fun hg => by first | omega | (simp [conj] at hg; omega))) rfl rfl rfl ?_
              refine XQ_v0 (ev_load rfl sct_3 (fun hg => by first | exact Sl.getD0 hT (d := 0) (k := ((k : Int) - 1).toNat) (by simp [conj] at hg; omega) rfl | exact Sl.getD0 hT (d := 0) (k := k) hlt rfl | exact Sl.getD0 hH (d := 0) (k := j) hjl rfl | exact Cell.h0 rfl | exact Cell.h1 rfl | exact Cell.h2 rfl | exact Cell.h3 rfl | exact Cell.h4 rfl | exact Cell.h5 rfl)) rfl rfl rfl ?_
              refine XQ_v0 (ev_move rfl) rfl rfl rfl ?_
              refine XQ_v0 (ev_move rfl) rfl rfl rfl ?_
              refine XQ_v0 (ev_indexSl rfl rfl slt_31 hH (fun hg => by first | omega | (simp [conj] at hg; omega))) rfl rfl rfl ?_
              refine XQ_v0 (ev_load rfl sct_3 (fun hg => by first | exact Sl.getD0 hT (d := 0) (k := ((k : Int) - 1).toNat) (by simp [conj] at hg; omega) rfl | exact Sl.getD0 hT (d := 0) (k := k) hlt rfl | exact Sl.getD0 hH (d := 0) (k := j) hjl rfl | exact Cell.h0 rfl | exact Cell.h1 rfl | exact Cell.h2 rfl | exact Cell.h3 rfl | exact Cell.h4 rfl | exact Cell.h5 rfl)) rfl rfl rfl ?_
              refine XQ_callV0 (cap := []) (vs := [_, _, _, _]) rfl rfl fun_37 (w_consents hZ hz _ _ _) rfl rfl ?_
              refine XQ_v0 (ev_not rfl) rfl rfl rfl ?_
              refine XQ_nil ?_
              refine at_then ?_
              refine X_cond rfl (fun hc91 => ?_) (fun hc91 => ?_)
              · skip
                refine X_noP ?_
                refine X_drawS I' [] mixed ?_
                refine XD_take 0 rfl (ev_move rfl) (.none rfl) rfl rfl rfl (by kernel_rfl) (by kernel_rfl) (by kernel_rfl) noP_ok (HLe.refl _) subL_nil ?_
                refine XD_take 1 rfl (ev_move rfl) (.none rfl) rfl rfl rfl (by kernel_rfl) (by kernel_rfl) (by kernel_rfl) noP_ok (HLe.refl _) subL_nil ?_
                refine XD_take 2 rfl (ev_move rfl) (.none rfl) rfl rfl rfl (by kernel_rfl) (by kernel_rfl) (by kernel_rfl) noP_ok (HLe.refl _) subL_nil ?_
                refine XD_take 3 rfl (ev_indexSl rfl rfl slt_31 hT (fun _ => by omega)) (.none rfl) rfl rfl rfl (by kernel_rfl) (by kernel_rfl) (by kernel_rfl) noP_ok (HLe.refl _) subL_nil ?_
                refine XD_take 4 rfl (ev_load rfl sct_3 (fun _ => Sl.getD0 hT (d := 0) (k := k) hlt rfl)) (.none rfl) rfl rfl rfl (by kernel_rfl) (by kernel_rfl) (by kernel_rfl) noP_ok (HLe.refl _) subL_nil ?_
                refine XD_take 5 rfl (ev_move rfl) (.none rfl) rfl rfl rfl (by kernel_rfl) (by kernel_rfl) (by kernel_rfl) noP_ok (HLe.refl _) subL_nil ?_
                refine XD_take 6 rfl (ev_move rfl) (.none rfl) rfl rfl rfl (by kernel_rfl) (by kernel_rfl) (by kernel_rfl) noP_ok (HLe.refl _) subL_nil ?_
                refine XD_take 7 rfl (ev_indexSl rfl rfl slt_31 hH (fun _ => by omega)) (.none rfl) rfl rfl rfl (by kernel_rfl) (by kernel_rfl) (by kernel_rfl) noP_ok (HLe.refl _) subL_nil ?_
                refine XD_take 8 rfl (ev_load rfl sct_3 (fun _ => Sl.getD0 hH (d := 0) (k := j) hjl rfl)) (.none rfl) rfl rfl rfl (by kernel_rfl) (by kernel_rfl) (by kernel_rfl) noP_ok (HLe.refl _) subL_nil ?_
                refine XD_take 9 rfl (ev_build2 ar2_46 zt_46 rfl rfl) (.none rfl) rfl rfl rfl (by kernel_rfl) (by kernel_rfl) (by kernel_rfl) noP_ok (HLe.refl _) subL_nil ?_
                refine XD_one 10 rfl (by kernel_rfl) ?_
                refine XO_buildSlice (ps := [(0, _)]) (m := [encP (ss.getD k 0, hs.getD j 0)]) elt_38 rfl (.cons rfl .nil) rfl (by simp [encP_len]) (by decide) (by decide) rfl rfl (fun b_102 => ?_)
                refine XO_nil ?_
                refine at_D (HLe.refl _) subL_nil ?_
                refine XD_one 11 rfl (by kernel_rfl) ?_
                refine XO_append (v := v) (ys := [encP (ss.getD k 0, hs.getD j 0)].flatten) (L := loc') rfl rfl elt_38 hO (split_right (A := [_])) ⟨rfl, fun _ => rfl, Cells.here⟩ rfl (by omega) rfl rfl ?_
                intro v' L' hO' _
                refine XO_nil ?_
                refine at_D (HLe.refl _) subL_nil ?_
                refine XD_one 12 rfl (by kernel_rfl) ?_
                refine XO_v0 (ev_assign rfl) rfl rfl rfl ?_
                refine XO_nil ?_
                refine at_D (HLe.refl _) subL_nil ?_
                refine XD_done (by kernel_rfl) ?_
                refine at_noP ?_
                refine at_block_n ?_
                refine at_then ?_
                refine X_region ?_
                refine XO_v0 (ev_move rfl) rfl rfl rfl ?_
                refine XO_v0 (ev_arB rfl rfl rfl (fun _ => by omega)) rfl rfl rfl ?_
                refine XO_v0 (ev_assign rfl) rfl rfl rfl ?_
                refine XO_nil ?_
                first
                | exact at_met2 _ _ ⟨hs.length - (j + 1), by omega, j + 1, v', q + 1, L', rfl, rfl, rfl, rfl, by omega, by rw [filter_step (getD_some rfl hjl), if_pos (show (fun s h => !zs.any (consP ed s h)) (ss.getD k 0) (hs.getD j 0) = true from hc91)]; simpa [List.flatMap_append] using hO', by omega⟩ (.cons rfl (.cons rfl (.cons rfl (.cons rfl (.cons rfl (.cons rfl (.cons rfl (.cons rfl (.cons rfl (.cons rfl .nil)))))))))) subL_left
                | exact at_met2 _ _ ⟨hs.length - (j + 1), by omega, j + 1, v, q, loc', rfl, rfl, rfl, rfl, by omega, by rw [filter_step (getD_some rfl hjl), if_neg (show ¬ (fun s h => !zs.any (consP ed s h)) (ss.getD k 0) (hs.getD j 0) = true from by rw [show (fun s h => !zs.any (consP ed s h)) (ss.getD k 0) (hs.getD j 0) = false from hc91]; exact Bool.false_ne_true), List.append_nil]; exact hO, by omega⟩ (.cons rfl (.cons rfl (.cons rfl (.cons rfl (.cons rfl (.cons rfl (.cons rfl (.cons rfl (.cons rfl (.cons rfl .nil)))))))))) .refl
              · skip
                refine X_skip ?_
                refine at_block_n ?_
                refine at_then ?_
                refine X_region ?_
                refine XO_v0 (ev_move rfl) rfl rfl rfl ?_
                refine XO_v0 (ev_arB rfl rfl rfl (fun _ => by omega)) rfl rfl rfl ?_
                refine XO_v0 (ev_assign rfl) rfl rfl rfl ?_
                refine XO_nil ?_
                first
                | exact at_met2 _ _ ⟨hs.length - (j + 1), by omega, j + 1, v', q + 1, L', rfl, rfl, rfl, rfl, by omega, by rw [filter_step (getD_some rfl hjl), if_pos (show (fun s h => !zs.any (consP ed s h)) (ss.getD k 0) (hs.getD j 0) = true from hc91)]; simpa [List.flatMap_append] using hO', by omega⟩ (.cons rfl (.cons rfl (.cons rfl (.cons rfl (.cons rfl (.cons rfl (.cons rfl (.cons rfl (.cons rfl (.cons rfl .nil)))))))))) subL_left
                | exact at_met2 _ _ ⟨hs.length - (j + 1), by omega, j + 1, v, q, loc', rfl, rfl, rfl, rfl, by omega, by rw [filter_step (getD_some rfl hjl), if_neg (show ¬ (fun s h => !zs.any (consP ed s h)) (ss.getD k 0) (hs.getD j 0) = true from by rw [show (fun s h => !zs.any (consP ed s h)) (ss.getD k 0) (hs.getD j 0) = false from hc91]; exact Bool.false_ne_true), List.append_nil]; exact hO, by omega⟩ (.cons rfl (.cons rfl (.cons rfl (.cons rfl (.cons rfl (.cons rfl (.cons rfl (.cons rfl (.cons rfl (.cons rfl .nil)))))))))) .refl
            · skip
              have hjg : hs.length ≤ j := by simpa using hc77
              refine X_exit ?_
              refine at_then_e ?_
              refine at_then_e ?_
              refine at_block_hit ?_
              refine at_block_n ?_
              refine at_then ?_
              refine X_region ?_
              refine XO_v0 (ev_move rfl) rfl rfl rfl ?_
              refine XO_v0 (ev_arB rfl rfl rfl (fun _ => by omega)) rfl rfl rfl ?_
              refine XO_v0 (ev_assign rfl) rfl rfl rfl ?_
              refine XO_nil ?_
              exact at_met' _ ⟨n2 - (k + 1), by omega, k + 1, v, q, loc', rfl, rfl, hJ.trans hI3, rfl, by omega, by rw [List.take_of_length_le hjg] at hO; rw [missA_step (getD_some hT.len hlt)]; simpa only [hhs] using hO, by rw [Nat.add_mul]; omega⟩ (.cons rfl (.cons rfl (.cons rfl (.cons rfl (.cons rfl (.cons rfl (.cons rfl (.cons rfl .nil))))))))
          · skip
            have hge : n2 ≤ k := by simpa using hc64
            refine X_exit ?_
            refine at_then_e ?_
            refine at_then_e ?_
            refine at_block_hit ?_
            exact at_met' _ ⟨v, q, loc', rfl, hJ, rfl, by rw [List.take_of_length_le (by rw [hT.len]; omega)] at hO; exact hO⟩ (.cons rfl (.cons rfl (.cons rfl (.cons rfl (.cons rfl (.cons rfl .nil))))))
        · rintro E I' loc' ⟨v, q, L, rfl, hJ, rfl, hO⟩
          refine X_seq ?_
          obtain ⟨av3, c3, rfl⟩ := hO.shape
          refine X_region ?_
          refine XO_v0 (ev_move rfl) rfl rfl rfl ?_
          refine XO_v0 (ev_lenS rfl slt_38) rfl rfl rfl ?_
          refine XO_v0 (ev_cmp rfl rfl rfl) rfl rfl rfl ?_
          refine XO_v0 (ev_move rfl) rfl rfl rfl ?_
          refine XO_v0 (ev_assign rfl) rfl rfl rfl ?_
          refine XO_v0 (ev_assign rfl) rfl rfl rfl ?_
          refine XO_v0 (ev_assign rfl) rfl rfl rfl ?_
          refine XO_nil ?_
          refine at_then ?_
          refine X_ret ?_
          first
          | exact at_ret3 rfl rfl rfl rfl (fun w hw => ⟨_, _, [], rfl, hJ1, hw, by rw [aErr_chk hchk]; exact AlE.bad hchk⟩)
          | exact at_ret3 rfl rfl rfl rfl (fun w hw => ⟨_, _, [], rfl, hJ1, hw, by rw [aErr_many hchk hmany]; exact AlE.bad (by decide)⟩)
          | exact at_ret3 rfl rfl rfl rfl (fun w hw => ⟨_, _, [], rfl, hJ1, hw, by rw [aErr_bad hchk hmany hsok]; exact AlE.bad (by decide)⟩)
          | exact at_ret3 rfl rfl rfl rfl (fun w hw => by obtain ⟨I4, h1, h2, av2, c2, e2, h4⟩ := hO.freeze' encP_len (by decide) hw; cases e2; have hz0 : zs = standsF xs day time := by { rw [← hzs]; unfold resF; rw [if_neg (by omega)] }; exact ⟨_, I4, [], rfl, hJ1.trans (hJ.trans h1), h2, by rw [aErr_ok hchk hmany hsok, ← hz0]; exact AlE.good h4.len h4⟩)
end Go.Proofs.Ytmflfccincbnaaa
