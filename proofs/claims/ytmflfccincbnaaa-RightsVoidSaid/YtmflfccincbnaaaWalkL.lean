/- The walks of the register of rights, twelfth part: each function comes to its Lean function. -/
import Derived.Test.YtmflfccincbnaaaWalkK
import Derived.Test.YtmflfccincbnaaaPlain
namespace Go.Proofs.Ytmflfccincbnaaa
open Go Go.Kn Go.Proofs
theorem holdF_len (sign : Int) (m : List ((Int × Int) × Bool)) : (holdF sign m).length ≤ m.length := by
  unfold holdF sortI pickL
  refine Nat.le_trans (Lib.compact_length_le _) ?_
  rw [List.length_mergeSort, List.length_map]
  exact List.length_filter_le ..
theorem getD_some {xs : List Int} {n k : Nat} (hl : xs.length = n) (h : k < n) : xs[k]? = some (xs.getD k 0) := by
  have : k < xs.length := by omega
  simp [List.getD, this]
theorem aErr_chk {chk : Int} {ss : List Int} (h : chk ≠ 0) : aErr chk ss = chk := by unfold aErr; rw [if_pos h]
theorem aErr_many {chk : Int} {ss : List Int} (h : chk = 0) (h2 : ss.length > 64) : aErr chk ss = 2 := by unfold aErr; rw [if_neg (by omega), if_pos h2]
theorem aErr_bad {chk : Int} {ss : List Int} (h : chk = 0) (h2 : ¬ ss.length > 64) (h3 : signOK ss = false) : aErr chk ss = 460 := by unfold aErr; rw [if_neg (by omega), if_neg h2, h3]; rfl
theorem aErr_ok {chk : Int} {ss : List Int} (h : chk = 0) (h2 : ¬ ss.length > 64) (h3 : signOK ss = true) : aErr chk ss = 0 := by unfold aErr; rw [if_neg (by omega), if_neg h2, h3]; rfl
theorem sign_step {ss : List Int} {k : Nat} (h : (List.range k).all (signP ss) = true) (h2 : signP ss k = true) : (List.range (k + 1)).all (signP ss) = true := by
  rw [List.range_succ, List.all_append, h]; simpa using h2
theorem sign_bad {ss : List Int} {n k : Nat} (hl : ss.length = n) (hk : k < n) (h : signP ss k = false) : signOK ss = false := by
  cases hb : signOK ss with
  | false => rfl
  | true =>
    rw [signOK, List.all_eq_true] at hb
    rw [hb k (List.mem_range.2 (by omega))] at h; cases h
theorem signP_t {ss : List Int} {k : Nat} (h : (!within (ss.getD k 0) 0 1048576 || (decide ((k : Int) > 0) && decide (ss.getD k 0 ≤ ss.getD ((k : Int) - 1).toNat 0))) = true) : signP ss k = false := by
  unfold signP
  cases h1 : within (ss.getD k 0) 0 1048576
  · rfl
  · rw [h1] at h; simp only [Bool.not_true, Bool.false_or] at h; rw [h]; rfl
theorem signP_f {ss : List Int} {k : Nat} (h : (!within (ss.getD k 0) 0 1048576 || (decide ((k : Int) > 0) && decide (ss.getD k 0 ≤ ss.getD ((k : Int) - 1).toNat 0))) = false) : signP ss k = true := by
  unfold signP
  rw [Bool.or_eq_false_iff] at h
  rw [h.2, show within (ss.getD k 0) 0 1048576 = true by simpa using h.1]; rfl

theorem w_Allowed {I : HMap} {av : Option Addr} {n c : Nat} {xs : List Rt} (hS : Sl I 11 encR av n c xs) (hn : n ≤ 100000) {bv : Option Addr} {n2 c2 : Nat} {ss : List Int} (hT : Sl I 1 encI bv n2 c2 ss) (hn2 : n2 ≤ 100000) (ed day time : Int) : RetM Try.prog 21 [.slice av n c, .int .i64 ed, .slice bv n2 c2, .int .i64 day, .int .i64 time] I [] (AlE (aErr (askedF (rCheck xs) day time) ss) (missA (fun s => holdF s (partsM 2 ed (standF xs day time))) (missP (partsM 3 ed (standF xs day time))) ss)) := by
  intro g H w hw
  refine enter Try.func21 rfl Try.ntmps21 rfl hw ?_
  refine X_seq ?_
  refine X_region ?_
  refine XO_v0 (ev_assign rfl) rfl rfl rfl ?_
  refine XO_v0 (ev_assign rfl) rfl rfl rfl ?_
  refine XO_v0 (ev_assign rfl) rfl rfl rfl ?_
  refine XO_nil ?_
  refine at_then ?_
  refine X_seq ?_
  refine X_seq ?_
  refine X_region ?_
  refine XO_v0 (ev_move rfl) rfl rfl rfl ?_
  refine XO_v0 (ev_move rfl) rfl rfl rfl ?_
  refine XO_v0 (ev_move rfl) rfl rfl rfl ?_
  refine XO_callV0 (cap := []) (vs := [_, _, _]) rfl rfl fun_25 (w_asked hS hn _ _) rfl rfl ?_
  refine XO_v0 (ev_assign rfl) rfl rfl rfl ?_
  refine XO_nil ?_
  refine at_then ?_
  refine X_seq ?_
  refine X_region ?_
  refine XO_v0 (ev_move rfl) rfl rfl rfl ?_
  refine XO_v0 (ev_cmp rfl rfl rfl) rfl rfl rfl ?_
  refine XO_nil ?_
  refine at_then ?_
  refine X_cond rfl (fun hc26 => ?_) (fun hc26 => ?_)
  · skip
    have hchk : askedF (rCheck xs) day time ≠ 0 := by simpa using hc26
    refine X_seq ?_
    refine X_region ?_
    refine XO_v0 (ev_move rfl) rfl rfl rfl ?_
    refine XO_v0 (ev_assign rfl) rfl rfl rfl ?_
    refine XO_v0 (ev_assign rfl) rfl rfl rfl ?_
    refine XO_v0 (ev_assign rfl) rfl rfl rfl ?_
    refine XO_nil ?_
    refine at_then ?_
    refine X_ret ?_
    refine at_then_r ?_
    first
    | exact at_ret3 rfl rfl rfl rfl (fun w hw => ⟨_, I, [], rfl, HLe.refl _, hw, by rw [aErr_chk hchk]; exact AlE.bad hchk⟩)
    | exact at_ret3 rfl rfl rfl rfl (fun w hw => ⟨_, I, [], rfl, HLe.refl _, hw, by rw [aErr_many hchk hmany]; exact AlE.bad (by decide)⟩)
    | exact at_ret3 rfl rfl rfl rfl (fun w hw => ⟨_, _, [], rfl, HLe.refl _, hw, by rw [aErr_bad hchk hmany hsok]; exact AlE.bad (by decide)⟩)
    | exact at_ret3 rfl rfl rfl rfl (fun w hw => by obtain ⟨I4, h1, h2, av2, c2, e2, h4⟩ := hO.freeze' encP_len (by decide) hw; cases e2; exact ⟨_, I4, [], rfl, (hI1.trans hI2).trans (hJ.trans h1), h2, by rw [aErr_ok hchk hmany hsok]; exact AlE.good h4.len h4⟩)
  · skip
    have hchk : askedF (rCheck xs) day time = 0 := by simpa using hc26
    refine X_skip ?_
    refine at_then ?_
    refine X_seq ?_
    refine X_seq ?_
    refine X_region ?_
    refine XO_v0 (ev_move rfl) rfl rfl rfl ?_
    refine XO_v0 (ev_lenS rfl slt_31) rfl rfl rfl ?_
    refine XO_v0 (ev_cmp rfl rfl rfl) rfl rfl rfl ?_
    refine XO_nil ?_
    refine at_then ?_
    refine X_cond rfl (fun hc30 => ?_) (fun hc30 => ?_)
    · skip
      have hmany : ss.length > 64 := by rw [hT.len]; simp at hc30; omega
      refine X_seq ?_
      refine X_region ?_
      refine XO_v0 (ev_assign rfl) rfl rfl rfl ?_
      refine XO_v0 (ev_assign rfl) rfl rfl rfl ?_
      refine XO_v0 (ev_assign rfl) rfl rfl rfl ?_
      refine XO_nil ?_
      refine at_then ?_
      refine X_ret ?_
      refine at_then_r ?_
      first
      | exact at_ret3 rfl rfl rfl rfl (fun w hw => ⟨_, I, [], rfl, HLe.refl _, hw, by rw [aErr_chk hchk]; exact AlE.bad hchk⟩)
      | exact at_ret3 rfl rfl rfl rfl (fun w hw => ⟨_, I, [], rfl, HLe.refl _, hw, by rw [aErr_many hchk hmany]; exact AlE.bad (by decide)⟩)
      | exact at_ret3 rfl rfl rfl rfl (fun w hw => ⟨_, _, [], rfl, HLe.refl _, hw, by rw [aErr_bad hchk hmany hsok]; exact AlE.bad (by decide)⟩)
      | exact at_ret3 rfl rfl rfl rfl (fun w hw => by obtain ⟨I4, h1, h2, av2, c2, e2, h4⟩ := hO.freeze' encP_len (by decide) hw; cases e2; exact ⟨_, I4, [], rfl, (hI1.trans hI2).trans (hJ.trans h1), h2, by rw [aErr_ok hchk hmany hsok]; exact AlE.good h4.len h4⟩)
    · skip
      have hmany : ¬ ss.length > 64 := by rw [hT.len]; simp at hc30; omega
      refine X_skip ?_
      refine at_then ?_
      refine X_cut (fun E I' loc' => E = [(0, .slice av n c), (1, .int .i64 ed), (2, .slice bv n2 c2), (3, .int .i64 day), (4, .int .i64 time), (11, .slice none 0 0)] ∧ I' = I ∧ loc' = [] ∧ signOK ss = true) ?_ ?_
      · skip
        refine X_seq ?_
        refine X_region ?_
        refine XO_v0 (ev_move rfl) rfl rfl rfl ?_
        refine XO_v0 (ev_lenS rfl slt_31) rfl rfl rfl ?_
        refine XO_v0 (ev_move rfl) rfl rfl rfl ?_
        refine XO_nil ?_
        refine at_then ?_
        refine X_block ?_
        refine X_loop (fun m E I' loc' => ∃ k : Nat, m = n2 - k ∧ E = [(0, .slice av n c), (1, .int .i64 ed), (2, .slice bv n2 c2), (3, .int .i64 day), (4, .int .i64 time), (11, .slice none 0 0), (31, .slice bv n2 c2), (32, .int .i64 n2), (33, .int .i64 k)] ∧ I' = I ∧ loc' = [] ∧ k ≤ n2 ∧ (List.range k).all (signP ss) = true) _ _ _ _ ⟨0, rfl, rfl, rfl, rfl, Nat.zero_le _, rfl⟩ (.cons rfl (.cons rfl (.cons rfl (.cons rfl (.cons rfl (.cons rfl (.cons rfl (.cons rfl (.cons rfl .nil))))))))) (HLe.refl _) rfl ?_
        rintro m E I' loc' ⟨k, rfl, rfl, rfl, rfl, hk, hinv⟩
        refine X_seq ?_
        refine X_region ?_
        refine XO_v0 (ev_cmp rfl rfl rfl) rfl rfl rfl ?_
        refine XO_nil ?_
        refine at_then ?_
        refine X_seq ?_
        refine X_cond rfl (fun hc34 => ?_) (fun hc34 => ?_)
        · skip
          have hlt : k < n2 := by simpa using hc34
          refine X_skip ?_
          refine at_then ?_
          refine X_seq ?_
          refine X_block ?_
          refine X_seq ?_
          refine X_region ?_
          refine XO_v0 (ev_move rfl) rfl rfl rfl ?_
          refine XO_v0 (ev_indexSl rfl rfl slt_31 hT (fun hg => by first | omega | (simp [conj] at hg; omega))) rfl rfl rfl ?_
          refine XO_v0 (ev_load rfl sct_3 (fun hg => by first | exact Sl.getD0 hT (d := 0) (k := ((k : Int) - 1).toNat) (by simp [conj] at hg; omega) rfl | exact Sl.getD0 hT (d := 0) (k := k) hlt rfl | exact Sl.getD0 hH (d := 0) (k := j) hjl rfl | exact Cell.h0 rfl | exact Cell.h1 rfl | exact Cell.h2 rfl | exact Cell.h3 rfl | exact Cell.h4 rfl | exact Cell.h5 rfl)) rfl rfl rfl ?_
          refine XO_v0 (ev_assign rfl) rfl rfl rfl ?_
          refine XO_v0 (ev_assign rfl) rfl rfl rfl ?_
          refine XO_nil ?_
          refine at_then ?_
          refine X_seq ?_
          refine X_region ?_
          refine XO_v0 (ev_move rfl) rfl rfl rfl ?_
          refine XO_callV0 (cap := []) (vs := [_, _, _]) rfl rfl fun_31 (w_within _ _ _ _) rfl rfl ?_
          refine XO_v0 (ev_not rfl) rfl rfl rfl ?_
          refine XO_v0 (ev_move rfl) rfl rfl rfl ?_
          refine XO_pushF 3 rfl rfl rfl ?_
          refine XO_v1 (ev_move rfl) (.some rfl rfl rfl rfl gbf) rfl rfl rfl ?_
          refine XO_v1 (ev_cmp rfl rfl rfl) (.some rfl rfl rfl rfl gbf) rfl rfl rfl ?_
          refine XO_v1 (ev_move rfl) (.some rfl rfl rfl rfl gbf) rfl rfl rfl ?_
          refine XO_pushT 6 rfl rfl rfl ?_
          refine XO_v1 (ev_move rfl) (.some rfl rfl rfl rfl gbt) rfl rfl rfl ?_
          refine XO_v1 (ev_move rfl) (.some rfl rfl rfl rfl gbt) rfl rfl rfl ?_
          refine XO_v1 (ev_move rfl) (.some rfl rfl rfl rfl gbt) rfl rfl rfl ?_
          refine XO_v1 (ev_arB rfl rfl rfl (fun _ => by omega)) (.some rfl rfl rfl rfl gbt) rfl rfl rfl ?_
          refine XO_v1 (ev_indexSl rfl rfl slt_31 hT (fun hg => by first | omega | (simp [conj] at hg; omega))) (.some rfl rfl rfl rfl gbt) rfl rfl rfl ?_
          refine XO_v1 (ev_load rfl sct_3 (fun hg => by first | exact Sl.getD0 hT (d := 0) (k := ((k : Int) - 1).toNat) (by simp [conj] at hg; omega) rfl | exact Sl.getD0 hT (d := 0) (k := k) hlt rfl | exact Sl.getD0 hH (d := 0) (k := j) hjl rfl | exact Cell.h0 rfl | exact Cell.h1 rfl | exact Cell.h2 rfl | exact Cell.h3 rfl | exact Cell.h4 rfl | exact Cell.h5 rfl)) (.some rfl rfl rfl rfl gbt) rfl rfl rfl ?_
          refine XO_v1 (ev_cmp rfl rfl rfl) (.some rfl rfl rfl rfl gbt) rfl rfl rfl ?_
          refine XO_and1 rfl rfl rfl (.some rfl rfl rfl rfl gbf) rfl rfl ?_
          refine XO_or0 rfl rfl rfl rfl rfl ?_
          refine XO_nil ?_
          refine at_then ?_
          refine X_cond rfl (fun hc53 => ?_) (fun hc53 => ?_)
          · skip
            have hsok := sign_bad hT.len hlt (signP_t hc53)
            refine X_seq ?_
            refine X_region ?_
            refine XO_v0 (ev_assign rfl) rfl rfl rfl ?_
            refine XO_v0 (ev_assign rfl) rfl rfl rfl ?_
            refine XO_v0 (ev_assign rfl) rfl rfl rfl ?_
            refine XO_nil ?_
            refine at_then ?_
            refine X_ret ?_
            refine at_block_r ?_
            refine at_then_r ?_
            refine at_then_r ?_
            refine at_block_r ?_
            refine at_then_r ?_
            first
            | exact at_ret3 rfl rfl rfl rfl (fun w hw => ⟨_, I, [], rfl, HLe.refl _, hw, by rw [aErr_chk hchk]; exact AlE.bad hchk⟩)
            | exact at_ret3 rfl rfl rfl rfl (fun w hw => ⟨_, I, [], rfl, HLe.refl _, hw, by rw [aErr_many hchk hmany]; exact AlE.bad (by decide)⟩)
            | exact at_ret3 rfl rfl rfl rfl (fun w hw => ⟨_, _, [], rfl, HLe.refl _, hw, by rw [aErr_bad hchk hmany hsok]; exact AlE.bad (by decide)⟩)
            | exact at_ret3 rfl rfl rfl rfl (fun w hw => by obtain ⟨I4, h1, h2, av2, c2, e2, h4⟩ := hO.freeze' encP_len (by decide) hw; cases e2; exact ⟨_, I4, [], rfl, (hI1.trans hI2).trans (hJ.trans h1), h2, by rw [aErr_ok hchk hmany hsok]; exact AlE.good h4.len h4⟩)
          · skip
            refine X_skip ?_
            refine at_block_n ?_
            refine at_then ?_
            refine X_region ?_
            refine XO_v0 (ev_arB rfl rfl rfl (fun _ => by omega)) rfl rfl rfl ?_
            refine XO_v0 (ev_move rfl) rfl rfl rfl ?_
            refine XO_nil ?_
            exact at_met' _ ⟨n2 - (k + 1), by omega, k + 1, rfl, rfl, rfl, rfl, by omega, sign_step hinv (signP_f hc53)⟩ (.cons rfl (.cons rfl (.cons rfl (.cons rfl (.cons rfl (.cons rfl (.cons rfl (.cons rfl (.cons rfl .nil)))))))))
        · skip
          have hge : n2 ≤ k := by simpa using hc34
          refine X_exit ?_
          refine at_then_e ?_
          refine at_then_e ?_
          refine at_block_hit ?_
          exact at_met' _ ⟨rfl, rfl, rfl, by unfold signOK; rw [show ss.length = k from by rw [hT.len]; omega]; exact hinv⟩ (.cons rfl (.cons rfl (.cons rfl (.cons rfl (.cons rfl (.cons rfl .nil))))))
      · rintro E I' loc' ⟨rfl, rfl, rfl, hsok⟩
        refine X_seq ?_
        refine X_region ?_
        refine XO_v0 (ev_move rfl) rfl rfl rfl ?_
        refine XO_v0 (ev_move rfl) rfl rfl rfl ?_
        refine XO_v0 (ev_move rfl) rfl rfl rfl ?_
        refine XO_v0 (ev_move rfl) rfl rfl rfl ?_
        refine XO_callM (cap := []) (vs := [_, _, _, _, _]) rfl rfl fun_34 .nil (w_parts hS hn 2 _ _ _) rfl rfl ?_
        rintro vr2 I1 L' hI1 ⟨rfl, r2, rfl, hr2⟩
        refine XO_v0 (ev_move rfl) rfl rfl rfl ?_
        refine XO_v0 (ev_move rfl) rfl rfl rfl ?_
        refine XO_v0 (ev_move rfl) rfl rfl rfl ?_
        refine XO_v0 (ev_move rfl) rfl rfl rfl ?_
        refine XO_callM (cap := []) (vs := [_, _, _, _, _]) rfl rfl fun_34 .nil (w_parts (hS.mono hI1) hn 3 _ _ _) rfl rfl ?_
        rintro vr3 I2 L' hI2 ⟨rfl, r3, rfl, hr3⟩
        have hT2 := hT.mono (hI1.trans hI2)
        have hr2 := hI2 _ _ hr2
        refine XO_v0 (ev_assign rfl) rfl rfl rfl ?_
        refine XO_v0 (ev_assign rfl) rfl rfl rfl ?_
        refine XO_nil ?_
        refine at_then ?_
        refine X_cut (fun E I' loc' => ∃ (v : Value) (q : Nat) (L : Go.Kn.Loc), E = [(0, .slice av n c), (1, .int .i64 ed), (2, .slice bv n2 c2), (3, .int .i64 day), (4, .int .i64 time), (11, v)] ∧ HLe I2 I' ∧ loc' = L ∧ OwnS 46 2 v q ((missA (fun s => holdF s (partsM 2 ed (standF xs day time))) (missP (partsM 3 ed (standF xs day time))) ss).flatMap encP) L) ?_ ?_
        · skip
          refine X_seq ?_
          refine X_region ?_
          refine XO_v0 (ev_move rfl) rfl rfl rfl ?_
          refine XO_v0 (ev_lenS rfl slt_31) rfl rfl rfl ?_
          refine XO_v0 (ev_move rfl) rfl rfl rfl ?_
          refine XO_nil ?_
          refine at_then ?_
          refine X_block ?_
          refine X_loop (fun m E I' loc' => ∃ (k : Nat) (v : Value) (q : Nat) (L : Go.Kn.Loc), m = n2 - k ∧ E = [(0, .slice av n c), (1, .int .i64 ed), (2, .slice bv n2 c2), (3, .int .i64 day), (4, .int .i64 time), (11, v), (15, .map (some r2)), (16, .map (some r3)), (65, .slice bv n2 c2), (66, .int .i64 n2), (67, .int .i64 k)] ∧ HLe I2 I' ∧ loc' = L ∧ k ≤ n2 ∧ OwnS 46 2 v q ((missA (fun s => holdF s (partsM 2 ed (standF xs day time))) (missP (partsM 3 ed (standF xs day time))) (ss.take k)).flatMap encP) L ∧ q ≤ k * 100000) _ _ _ _ ⟨0, _, 0, [], rfl, rfl, HLe.refl _, rfl, Nat.zero_le _, OwnS.nil, Nat.le_refl _⟩ (.cons rfl (.cons rfl (.cons rfl (.cons rfl (.cons rfl (.cons rfl (.cons rfl (.cons rfl (.cons rfl (.cons rfl (.cons rfl .nil))))))))))) (HLe.refl _) rfl ?_
          rintro m E I' loc' ⟨k, v, q, L, rfl, rfl, hJ, rfl, hk, hO, hq⟩
          have hT := hT2.mono hJ
          have hr2 := hJ _ _ hr2; have hr3 := hJ _ _ hr3
          refine X_seq ?_
          refine X_region ?_
          refine XO_v0 (ev_cmp rfl rfl rfl) rfl rfl rfl ?_
          refine XO_nil ?_
          refine at_then ?_
          refine X_seq ?_
          refine X_cond rfl (fun hc68 => ?_) (fun hc68 => ?_)
          · skip
            have hlt : k < n2 := by simpa using hc68
            refine X_skip ?_
            refine at_then ?_
            refine X_seq ?_
            refine X_block ?_
            refine X_seq ?_
            refine X_region ?_
            refine XO_v0 (ev_indexSl rfl rfl slt_31 hT (fun hg => by first | omega | (simp [conj] at hg; omega))) rfl rfl rfl ?_
            refine XO_v0 (ev_load rfl sct_3 (fun hg => by first | exact Sl.getD0 hT (d := 0) (k := ((k : Int) - 1).toNat) (by simp [conj] at hg; omega) rfl | exact Sl.getD0 hT (d := 0) (k := k) hlt rfl | exact Sl.getD0 hH (d := 0) (k := j) hjl rfl | exact Cell.h0 rfl | exact Cell.h1 rfl | exact Cell.h2 rfl | exact Cell.h3 rfl | exact Cell.h4 rfl | exact Cell.h5 rfl)) rfl rfl rfl ?_
            refine XO_v0 (ev_assign rfl) rfl rfl rfl ?_
            refine XO_nil ?_
            refine at_then ?_
            refine X_seq ?_
            refine X_region ?_
            refine XO_v0 (ev_move rfl) rfl rfl rfl ?_
            refine XO_v0 (ev_move rfl) rfl rfl rfl ?_
            refine XO_callM (cap := []) (vs := [_, _]) rfl rfl fun_33 .nil (w_holders hr2 (by have h1 := partsM_len 2 ed (standF xs day time); have h2 := @standF_len xs day time; rw [hS.len] at h2; omega) (ss.getD k 0)) rfl rfl ?_
            rintro vh I3 L' hI3 ⟨rfl, hv, hcp, rfl, hH⟩
            have hfl : (holdF (ss.getD k 0) (partsM 2 ed (standF xs day time))).length ≤ 100000 := Nat.le_trans (holdF_len _ _) (Nat.le_trans (partsM_len _ _ _) (Nat.le_trans standF_len (by rw [hS.len]; exact hn)))
            have hr3 := hI3 _ _ hr3
            generalize hhs : holdF (ss.getD k 0) (partsM 2 ed (standF xs day time)) = hs at hH hfl
            refine XO_v0 (ev_lenS rfl slt_31) rfl rfl rfl ?_
            refine XO_v0 (ev_move rfl) rfl rfl rfl ?_
            refine XO_nil ?_
            refine at_then ?_
            refine X_block ?_
            refine X_loop (fun m E I' loc' => ∃ (j : Nat) (v : Value) (q : Nat) (L : Go.Kn.Loc), m = hs.length - j ∧ E = [(0, .slice av n c), (1, .int .i64 ed), (2, .slice bv n2 c2), (3, .int .i64 day), (4, .int .i64 time), (11, v), (15, .map (some r2)), (16, .map (some r3)), (18, .int .i64 (ss.getD k 0)), (65, .slice bv n2 c2), (66, .int .i64 n2), (67, .int .i64 k), (73, .slice hv hs.length hcp), (74, .int .i64 hs.length), (75, .int .i64 j)] ∧ I' = I3 ∧ loc' = L ∧ j ≤ hs.length ∧ OwnS 46 2 v q ((missA (fun s => holdF s (partsM 2 ed (standF xs day time))) (missP (partsM 3 ed (standF xs day time))) (ss.take k) ++ ((hs.take j).filter ((missP (partsM 3 ed (standF xs day time))) (ss.getD k 0))).map (fun h => (ss.getD k 0, h))).flatMap encP) L ∧ q ≤ k * 100000 + j) _ _ _ _ ⟨0, v, q, loc', rfl, rfl, rfl, rfl, Nat.zero_le _, by simpa using hO, Nat.le_trans hq (Nat.le_add_right _ _)⟩ (.cons rfl (.cons rfl (.cons rfl (.cons rfl (.cons rfl (.cons rfl (.cons rfl (.cons rfl (.cons rfl (.cons rfl (.cons rfl (.cons rfl (.cons rfl (.cons rfl (.cons rfl .nil))))))))))))))) (HLe.refl _) rfl ?_
            rintro m E I' loc' ⟨j, v, q, L, rfl, rfl, rfl, rfl, hj, hO, hq⟩
            refine X_seq ?_
            refine X_region ?_
            refine XO_v0 (ev_cmp rfl rfl rfl) rfl rfl rfl ?_
            refine XO_nil ?_
            refine at_then ?_
            refine X_seq ?_
            refine X_cond rfl (fun hc76 => ?_) (fun hc76 => ?_)
            · skip
              have hjl : j < hs.length := by simpa using hc76
              refine X_skip ?_
              refine at_then ?_
              refine X_seq ?_
              refine X_block ?_
              refine X_seq ?_
              refine X_region ?_
              refine XO_v0 (ev_indexSl rfl rfl slt_31 hH (fun hg => by first | omega | (simp [conj] at hg; omega))) rfl rfl rfl ?_
              refine XO_v0 (ev_load rfl sct_3 (fun hg => by first | exact Sl.getD0 hT (d := 0) (k := ((k : Int) - 1).toNat) (by simp [conj] at hg; omega) rfl | exact Sl.getD0 hT (d := 0) (k := k) hlt rfl | exact Sl.getD0 hH (d := 0) (k := j) hjl rfl | exact Cell.h0 rfl | exact Cell.h1 rfl | exact Cell.h2 rfl | exact Cell.h3 rfl | exact Cell.h4 rfl | exact Cell.h5 rfl)) rfl rfl rfl ?_
              refine XO_v0 (ev_assign rfl) rfl rfl rfl ?_
              refine XO_nil ?_
              refine at_then ?_
              refine X_seq ?_
              refine X_region ?_
              refine XO_v0 (ev_move rfl) rfl rfl rfl ?_
              refine XO_v0 (ev_move rfl) rfl rfl rfl ?_
              refine XO_v0 (ev_buildL (ps := [(0, _), (1, _)]) [_, _] plt_68 rfl rfl) rfl rfl rfl ?_
              refine XO_v0 (ev_lookupBool (m := partsM 3 ed (standF xs day time)) (a := (hs.getD j 0, 0)) (ek := encK2) mpt_64 key_68 rfl rfl (fun _ => (.inl hr3))) rfl rfl rfl ?_
              refine XO_v0 (ev_not rfl) rfl rfl rfl ?_
              refine XO_v0 (ev_move rfl) rfl rfl rfl ?_
              refine XO_pushT 5 rfl rfl rfl ?_
              refine XO_v1 (ev_move rfl) (.some rfl rfl rfl rfl gbt) rfl rfl rfl ?_
              refine XO_v1 (ev_move rfl) (.some rfl rfl rfl rfl gbt) rfl rfl rfl ?_
              refine XO_v1 (ev_move rfl) (.some rfl rfl rfl rfl gbt) rfl rfl rfl ?_
              refine XO_v1 (ev_ar rfl rfl rfl) (.some rfl rfl rfl rfl gbt) rfl rfl rfl ?_
              refine XO_v1 (ev_buildL (ps := [(0, _), (1, _)]) [_, _] plt_68 rfl rfl) (.some rfl rfl rfl rfl gbt) rfl rfl rfl ?_
              refine XO_v1 (ev_lookupBool (m := partsM 3 ed (standF xs day time)) (a := (hs.getD j 0, w64 (ss.getD k 0 + 1))) (ek := encK2) mpt_64 key_68 rfl rfl (fun _ => (.inl hr3))) (.some rfl rfl rfl rfl gbt) rfl rfl rfl ?_
              refine XO_v1 (ev_not rfl) (.some rfl rfl rfl rfl gbt) rfl rfl rfl ?_
              refine XO_and0 rfl rfl rfl rfl rfl ?_
              refine XO_nil ?_
              refine at_then ?_
              refine X_cond rfl (fun hc92 => ?_) (fun hc92 => ?_)
              · skip
                refine X_region ?_
                refine XO_v0 (ev_move rfl) rfl rfl rfl ?_
                refine XO_v0 (ev_move rfl) rfl rfl rfl ?_
                refine XO_v0 (ev_move rfl) rfl rfl rfl ?_
                refine XO_v0 (ev_build2 ar2_46 zt_46 rfl rfl) rfl rfl rfl ?_
                refine XO_buildSlice (ps := [(0, _)]) (m := [encP (ss.getD k 0, hs.getD j 0)]) elt_38 rfl (.cons rfl (.nil)) rfl (by simp [encR_len, encI_len, encP_len]) (by decide) (by decide) rfl rfl (fun b_97 => ?_)
                refine XO_append (v := v) (ys := [encP (ss.getD k 0, hs.getD j 0)].flatten) (L := loc') rfl rfl elt_38 hO (split_right (A := [_])) ⟨rfl, fun _ => rfl, Cells.here⟩ rfl (by omega) rfl rfl ?_
                intro v' L' hO' _
                refine XO_v0 (ev_assign rfl) rfl rfl rfl ?_
                refine XO_nil ?_
                refine at_block_n ?_
                refine at_then ?_
                refine X_region ?_
                refine XO_v0 (ev_arB rfl rfl rfl (fun _ => by omega)) rfl rfl rfl ?_
                refine XO_v0 (ev_move rfl) rfl rfl rfl ?_
                refine XO_nil ?_
                first
                | exact at_met2 _ _ ⟨hs.length - (j + 1), by omega, j + 1, v', q + 1, L', rfl, rfl, rfl, rfl, by omega, by rw [filter_step (getD_some rfl hjl), if_pos (show (missP (partsM 3 ed (standF xs day time))) (ss.getD k 0) (hs.getD j 0) = true from hc92)]; simpa [List.flatMap_append] using hO', by omega⟩ (.cons rfl (.cons rfl (.cons rfl (.cons rfl (.cons rfl (.cons rfl (.cons rfl (.cons rfl (.cons rfl (.cons rfl (.cons rfl (.cons rfl (.cons rfl (.cons rfl (.cons rfl .nil))))))))))))))) subL_left
                | exact at_met2 _ _ ⟨hs.length - (j + 1), by omega, j + 1, v, q, loc', rfl, rfl, rfl, rfl, by omega, by rw [filter_step (getD_some rfl hjl), if_neg (show ¬ (missP (partsM 3 ed (standF xs day time))) (ss.getD k 0) (hs.getD j 0) = true from by rw [show (missP (partsM 3 ed (standF xs day time))) (ss.getD k 0) (hs.getD j 0) = false from hc92]; exact Bool.false_ne_true), List.append_nil]; exact hO, by omega⟩ (.cons rfl (.cons rfl (.cons rfl (.cons rfl (.cons rfl (.cons rfl (.cons rfl (.cons rfl (.cons rfl (.cons rfl (.cons rfl (.cons rfl (.cons rfl (.cons rfl (.cons rfl .nil))))))))))))))) .refl
              · skip
                refine X_skip ?_
                refine at_block_n ?_
                refine at_then ?_
                refine X_region ?_
                refine XO_v0 (ev_arB rfl rfl rfl (fun _ => by omega)) rfl rfl rfl ?_
                refine XO_v0 (ev_move rfl) rfl rfl rfl ?_
                refine XO_nil ?_
                first
                | exact at_met2 _ _ ⟨hs.length - (j + 1), by omega, j + 1, v', q + 1, L', rfl, rfl, rfl, rfl, by omega, by rw [filter_step (getD_some rfl hjl), if_pos (show (missP (partsM 3 ed (standF xs day time))) (ss.getD k 0) (hs.getD j 0) = true from hc92)]; simpa [List.flatMap_append] using hO', by omega⟩ (.cons rfl (.cons rfl (.cons rfl (.cons rfl (.cons rfl (.cons rfl (.cons rfl (.cons rfl (.cons rfl (.cons rfl (.cons rfl (.cons rfl (.cons rfl (.cons rfl (.cons rfl .nil))))))))))))))) subL_left
                | exact at_met2 _ _ ⟨hs.length - (j + 1), by omega, j + 1, v, q, loc', rfl, rfl, rfl, rfl, by omega, by rw [filter_step (getD_some rfl hjl), if_neg (show ¬ (missP (partsM 3 ed (standF xs day time))) (ss.getD k 0) (hs.getD j 0) = true from by rw [show (missP (partsM 3 ed (standF xs day time))) (ss.getD k 0) (hs.getD j 0) = false from hc92]; exact Bool.false_ne_true), List.append_nil]; exact hO, by omega⟩ (.cons rfl (.cons rfl (.cons rfl (.cons rfl (.cons rfl (.cons rfl (.cons rfl (.cons rfl (.cons rfl (.cons rfl (.cons rfl (.cons rfl (.cons rfl (.cons rfl (.cons rfl .nil))))))))))))))) .refl
            · skip
              have hjg : hs.length ≤ j := by simpa using hc76
              refine X_exit ?_
              refine at_then_e ?_
              refine at_then_e ?_
              refine at_block_hit ?_
              refine at_block_n ?_
              refine at_then ?_
              refine X_region ?_
              refine XO_v0 (ev_arB rfl rfl rfl (fun _ => by omega)) rfl rfl rfl ?_
              refine XO_v0 (ev_move rfl) rfl rfl rfl ?_
              refine XO_nil ?_
              exact at_met' _ ⟨n2 - (k + 1), by omega, k + 1, v, q, loc', rfl, rfl, hJ.trans hI3, rfl, by omega, by rw [List.take_of_length_le hjg] at hO; rw [missA_step (getD_some hT.len hlt)]; simpa only [hhs] using hO, by rw [Nat.add_mul]; omega⟩ (.cons rfl (.cons rfl (.cons rfl (.cons rfl (.cons rfl (.cons rfl (.cons rfl (.cons rfl (.cons rfl (.cons rfl (.cons rfl .nil)))))))))))
          · skip
            have hge : n2 ≤ k := by simpa using hc68
            refine X_exit ?_
            refine at_then_e ?_
            refine at_then_e ?_
            refine at_block_hit ?_
            exact at_met' _ ⟨v, q, loc', rfl, hJ, rfl, by rw [List.take_of_length_le (by rw [hT.len]; omega)] at hO; exact hO⟩ (.cons rfl (.cons rfl (.cons rfl (.cons rfl (.cons rfl (.cons rfl .nil))))))
        · rintro E I' loc' ⟨v, q, L, rfl, hJ, rfl, hO⟩
          refine X_seq ?_
          obtain ⟨av', c', rfl⟩ := hO.shape
          refine X_region ?_
          refine XO_v0 (ev_move rfl) rfl rfl rfl ?_
          refine XO_v0 (ev_lenS rfl slt_38) rfl rfl rfl ?_
          refine XO_v0 (ev_cmp rfl rfl rfl) rfl rfl rfl ?_
          refine XO_v0 (ev_move rfl) rfl rfl rfl ?_
          refine XO_v0 (ev_assign rfl) rfl rfl rfl ?_
          refine XO_v0 (ev_assign rfl) rfl rfl rfl ?_
          refine XO_v0 (ev_assign rfl) rfl rfl rfl ?_
          refine XO_nil ?_
          refine at_then ?_
          refine X_ret ?_
          first
          | exact at_ret3 rfl rfl rfl rfl (fun w hw => ⟨_, I, [], rfl, HLe.refl _, hw, by rw [aErr_chk hchk]; exact AlE.bad hchk⟩)
          | exact at_ret3 rfl rfl rfl rfl (fun w hw => ⟨_, I, [], rfl, HLe.refl _, hw, by rw [aErr_many hchk hmany]; exact AlE.bad (by decide)⟩)
          | exact at_ret3 rfl rfl rfl rfl (fun w hw => ⟨_, _, [], rfl, HLe.refl _, hw, by rw [aErr_bad hchk hmany hsok]; exact AlE.bad (by decide)⟩)
          | exact at_ret3 rfl rfl rfl rfl (fun w hw => by obtain ⟨I4, h1, h2, av2, c2, e2, h4⟩ := hO.freeze' encP_len (by decide) hw; cases e2; exact ⟨_, I4, [], rfl, (hI1.trans hI2).trans (hJ.trans h1), h2, by rw [aErr_ok hchk hmany hsok]; exact AlE.good h4.len h4⟩)
end Go.Proofs.Ytmflfccincbnaaa
