/- stemmaCost_holds, part D of the proof: what its theorems say holds without further conditions. -/
import Derived.ProofKit
import Derived.Deep.Slices
import Derived.Test.YtkpmnnflikkhmaaDoorRows
import Derived.LaidMore
import Derived.MakeChecks
import Derived.Lib.LaidTab
import Derived.Test.YtkpmnnflikkhmaaDoorCards
import Derived.Test.YtkpmnnflikkhmaaDoorTie
import Derived.Stop.Joined
import Derived.SevenTiedAt
import Derived.Test.YtkpmnnflikkhmaaDoorSCC
section
namespace Go.Proofs.YtkpmnnflikkhmaaDoor
open Go Go.Kn Go.Proofs
theorem fun_25 : Fun Tryd.prog 25 := .of Tryd.func25 (by kernel_rfl) (by kernel_rfl)
theorem fun_26 : Fun Tryd.prog 26 := .of Tryd.func26 (by kernel_rfl) (by kernel_rfl)
theorem sct_41 : ScT Tryd.prog 41 := .of (by kernel_rfl)
theorem sct_43 : ScT Tryd.prog 43 := .of (by kernel_rfl)
theorem w_stp (I : HMap) (x y : Int) : RetV Tryd.prog 25 [.int .i64 x, .int .i64 y] I (.int .i64 (stepF x y)) := by
  intro g H w hw
  refine enter Tryd.func25 rfl Tryd.ntmps25 rfl hw ?_
  refine X_seq ?_
  refine X_region ?_
  refine XO_v0 (ev_assign rfl) rfl rfl rfl ?_
  refine XO_nil ?_
  refine at_then ?_
  refine X_seq ?_
  refine X_block ?_
  refine X_seq ?_
  refine X_region ?_
  refine XO_v0 (ev_move rfl) rfl rfl rfl ?_
  refine XO_v0 (ev_move rfl) rfl rfl rfl ?_
  refine XO_v0 (ev_cmp rfl rfl rfl) rfl rfl rfl ?_
  refine XO_v0 (ev_assign rfl) rfl rfl rfl ?_
  refine XO_nil ?_
  refine at_then ?_
  refine X_cond rfl (fun hc5 => ?_) (fun hc5 => ?_)
  · skip
    refine X_seq ?_
    refine X_region ?_
    refine XO_v0 (ev_assign rfl) rfl rfl rfl ?_
    refine XO_nil ?_
    refine at_then ?_
    refine X_ret ?_
    refine at_block_r ?_
    refine at_then_r ?_
    first
    | exact at_ret1 rfl rfl (fun w hw => ⟨by unfold stepF; rw [if_pos (by simpa using hc5)], hw.drop⟩)
    | exact at_ret1 rfl rfl (fun w hw => ⟨by unfold stepF; rw [if_neg (by simpa using hc5), if_pos (by simpa using hc9)], hw.drop⟩)
    | exact at_ret1 rfl rfl (fun w hw => ⟨by unfold stepF; rw [if_neg (by simpa using hc5), if_neg (by simpa using hc9), if_pos (by simpa using hc12)], hw.drop⟩)
    | exact at_ret1 rfl rfl (fun w hw => ⟨by unfold stepF; rw [if_neg (by simpa using hc5), if_neg (by simpa using hc9), if_neg (by simpa using hc12)], hw.drop⟩)
  · skip
    refine X_seq ?_
    refine X_region ?_
    refine XO_v0 (ev_move rfl) rfl rfl rfl ?_
    refine XO_v0 (ev_cmp rfl rfl rfl) rfl rfl rfl ?_
    refine XO_v0 (ev_assign rfl) rfl rfl rfl ?_
    refine XO_nil ?_
    refine at_then ?_
    refine X_cond rfl (fun hc9 => ?_) (fun hc9 => ?_)
    · skip
      refine X_seq ?_
      refine X_region ?_
      refine XO_v0 (ev_assign rfl) rfl rfl rfl ?_
      refine XO_nil ?_
      refine at_then ?_
      refine X_ret ?_
      refine at_block_r ?_
      refine at_then_r ?_
      first
      | exact at_ret1 rfl rfl (fun w hw => ⟨by unfold stepF; rw [if_pos (by simpa using hc5)], hw.drop⟩)
      | exact at_ret1 rfl rfl (fun w hw => ⟨by unfold stepF; rw [if_neg (by simpa using hc5), if_pos (by simpa using hc9)], hw.drop⟩)
      | exact at_ret1 rfl rfl (fun w hw => ⟨by unfold stepF; rw [if_neg (by simpa using hc5), if_neg (by simpa using hc9), if_pos (by simpa using hc12)], hw.drop⟩)
      | exact at_ret1 rfl rfl (fun w hw => ⟨by unfold stepF; rw [if_neg (by simpa using hc5), if_neg (by simpa using hc9), if_neg (by simpa using hc12)], hw.drop⟩)
    · skip
      refine X_seq ?_
      refine X_region ?_
      refine XO_v0 (ev_move rfl) rfl rfl rfl ?_
      refine XO_v0 (ev_cmp rfl rfl rfl) rfl rfl rfl ?_
      refine XO_v0 (ev_assign rfl) rfl rfl rfl ?_
      refine XO_nil ?_
      refine at_then ?_
      refine X_cond rfl (fun hc12 => ?_) (fun hc12 => ?_)
      · skip
        refine X_seq ?_
        refine X_region ?_
        refine XO_v0 (ev_assign rfl) rfl rfl rfl ?_
        refine XO_nil ?_
        refine at_then ?_
        refine X_ret ?_
        refine at_block_r ?_
        refine at_then_r ?_
        first
        | exact at_ret1 rfl rfl (fun w hw => ⟨by unfold stepF; rw [if_pos (by simpa using hc5)], hw.drop⟩)
        | exact at_ret1 rfl rfl (fun w hw => ⟨by unfold stepF; rw [if_neg (by simpa using hc5), if_pos (by simpa using hc9)], hw.drop⟩)
        | exact at_ret1 rfl rfl (fun w hw => ⟨by unfold stepF; rw [if_neg (by simpa using hc5), if_neg (by simpa using hc9), if_pos (by simpa using hc12)], hw.drop⟩)
        | exact at_ret1 rfl rfl (fun w hw => ⟨by unfold stepF; rw [if_neg (by simpa using hc5), if_neg (by simpa using hc9), if_neg (by simpa using hc12)], hw.drop⟩)
      · skip
        refine X_skip ?_
        refine at_block_n ?_
        refine at_then ?_
        refine X_seq ?_
        refine X_region ?_
        refine XO_v0 (ev_assign rfl) rfl rfl rfl ?_
        refine XO_nil ?_
        refine at_then ?_
        refine X_ret ?_
        first
        | exact at_ret1 rfl rfl (fun w hw => ⟨by unfold stepF; rw [if_pos (by simpa using hc5)], hw.drop⟩)
        | exact at_ret1 rfl rfl (fun w hw => ⟨by unfold stepF; rw [if_neg (by simpa using hc5), if_pos (by simpa using hc9)], hw.drop⟩)
        | exact at_ret1 rfl rfl (fun w hw => ⟨by unfold stepF; rw [if_neg (by simpa using hc5), if_neg (by simpa using hc9), if_pos (by simpa using hc12)], hw.drop⟩)
        | exact at_ret1 rfl rfl (fun w hw => ⟨by unfold stepF; rw [if_neg (by simpa using hc5), if_neg (by simpa using hc9), if_neg (by simpa using hc12)], hw.drop⟩)
theorem w_PartsC {I : HMap} {av : Option Addr} {n c m : Nat} {xs : List Int} (hS : Sl I 1 encI av n c xs) (hn : n ≤ 100000) (hc : chkN m xs = 0) {s : Int} (hin : s ∈ xs) : RetV Tryd.prog 11 [.int .i64 m, .slice av n c, .int .i64 s] I (.tuple #[.int .i64 (splitF xs s), .int .i64 (s - splitF xs s), .int .i64 0]) := by
  have h := w_Parts hS hn (m : Int) s
  have e : partsE (m : Int) xs s = 0 := partsE_ok hc (List.any_eq_true.2 ⟨s, hin, by simp⟩)
  obtain ⟨e1, e2⟩ := parts_both (m := (m : Int)) (cl := xs) (s := s)
  rw [e1, e2, e] at h
  unfold partsA partsB at h
  rw [if_neg (by omega), if_neg (by omega)] at h
  exact h
theorem w_give_step {I : HMap} {bop bst bgi bse bcl bro bsp bbe rm : Nat} {ao as9 av bv : Option Addr} {no co ns cs n c n2 c2 : Nat} {O St xs : List Int} {rows : List (List Int)} (hE : GvE I 26 25 bop bst bgi bse bcl bro bsp rm [capP bop, capP bst, capP bgi, capP bse, capP bcl, capP bro, capP bsp, capP bbe] ao as9 av bv no co ns cs n c n2 c2 O St xs rows) (hn : n ≤ 100000) (hn2 : n2 ≤ 100000) (hno : no ≤ 100000) (hns : ns ≤ 100000) (hc : chkN rows.length xs = 0) (hnd : O.Nodup) (k : Nat) (hk : k ≤ O.length) (m : List (Int × Int)) (b : Int) (ih : k < O.length → ∀ (m' : List (Int × Int)) (b' : Int), RetM Tryd.prog 26 ([.int .i64 ((k : Int) + 1)] ++ [capP bop, capP bst, capP bgi, capP bse, capP bcl, capP bro, capP bsp, capP bbe]) I [(bbe, .cells #[.int .i64 b'] 3 (0, 0)), (rm, mapO eiv eiv m')] (fun v I' L' => v = .bool true ∧ I' = I ∧ ∃ m2 b2, L' = [(bbe, .cells #[.int .i64 b2] 3 (0, 0)), (rm, mapO eiv eiv m2)] ∧ GiveQ O St (costC xs) (k + 1) (mG m') b' b2 (mG m2))) : RetM Tryd.prog 26 [.int .i64 k, capP bop, capP bst, capP bgi, capP bse, capP bcl, capP bro, capP bsp, capP bbe] I [(bbe, .cells #[.int .i64 b] 3 (0, 0)), (rm, mapO eiv eiv m)] (fun v I' L' => v = .bool true ∧ I' = I ∧ ∃ m' b', L' = [(bbe, .cells #[.int .i64 b'] 3 (0, 0)), (rm, mapO eiv eiv m')] ∧ GiveQ O St (costC xs) k (mG m) b b' (mG m')) := by
  intro g H w hw
  refine enter Tryd.func26 rfl Tryd.ntmps26 rfl hw ?_
  have hOl := hE.hO.len
  have hTl := hE.hT.len
  have hSl := hE.hS.len
  have hVl := hE.hV.len
  subst hVl
  refine X_seq ?_
  refine X_region ?_
  refine XO_v0 (ev_assign rfl) rfl rfl rfl ?_
  refine XO_nil ?_
  refine at_then ?_
  refine X_seq ?_
  refine X_seq ?_
  refine X_region ?_
  refine XO_v0 (ev_move rfl) rfl rfl rfl ?_
  refine XO_v0 (ev_load rfl sct_22 (fun hg => by first | exact hE.op.any | exact hE.st.any | exact hE.gi.any | exact hE.se.any | exact hE.cl.any | exact hE.ro.any | exact hE.sp.any | exact Sl.get0 hE.hT hst rfl | exact Sl.get0 hE.hO hok rfl | exact Sl.get0 hE.hS hcx rfl | exact .here rfl | exact Cell.h0 rfl | exact Cell.h1 rfl | exact Cell.h2 rfl | exact Cell.h3 rfl | exact Cell.h4 rfl | exact Cell.h5 rfl | (repeat (first | exact Cell.here rfl | apply Cell.there | apply Cell.app)))) rfl rfl rfl ?_
  refine XO_v0 (ev_lenS rfl slt_22) rfl rfl rfl ?_
  refine XO_v0 (ev_cmp rfl rfl rfl) rfl rfl rfl ?_
  refine XO_nil ?_
  refine at_then ?_
  refine X_cond rfl (fun hc22 => ?_) (fun hc22 => ?_)
  · skip
    have hkl : k < O.length := by have h := hc22; simp at h; omega
    obtain ⟨o, hok⟩ : ∃ o, O[k]? = some o := ⟨_, List.getElem?_eq_getElem hkl⟩
    refine X_seq ?_
    refine X_seq ?_
    refine X_region ?_
    refine XO_v0 (ev_load rfl sct_22 (fun hg => by first | exact hE.op.any | exact hE.st.any | exact hE.gi.any | exact hE.se.any | exact hE.cl.any | exact hE.ro.any | exact hE.sp.any | exact Sl.get0 hE.hT hst rfl | exact Sl.get0 hE.hO hok rfl | exact Sl.get0 hE.hS hcx rfl | exact .here rfl | exact Cell.h0 rfl | exact Cell.h1 rfl | exact Cell.h2 rfl | exact Cell.h3 rfl | exact Cell.h4 rfl | exact Cell.h5 rfl | (repeat (first | exact Cell.here rfl | apply Cell.there | apply Cell.app)))) rfl rfl rfl ?_
    refine XO_v0 (ev_lenS rfl slt_22) rfl rfl rfl ?_
    refine XO_v0 (ev_move rfl) rfl rfl rfl ?_
    refine XO_nil ?_
    refine at_then ?_
    refine X_block ?_
    refine X_loopT [(0, _), (1, _), (3, _), (4, _), (23, _), (24, _)] (.cons rfl (.cons rfl (.cons rfl (.cons rfl (.cons rfl (.cons rfl .nil)))))) (fun T L0 mz E I' loc' => ∃ (i : Nat) (m1 : List (Int × Int)) (b1 : Int), mz = ns - i ∧ E = (25, .int .i64 i) :: T ∧ I = I' ∧ [(bbe, .cells #[.int .i64 b1] 3 (0, 0)), (rm, mapO eiv eiv m1)] = loc' ∧ i ≤ ns ∧ LoopQ O St (costC xs) k (mG m) b o i b1 (mG m1)) _ _ _ _ ⟨0, m, b, rfl, rfl, rfl, rfl, Nat.zero_le _, loop_0⟩ (.cons rfl (.cons rfl (.cons rfl (.cons rfl (.cons rfl (.cons rfl (.cons rfl .nil))))))) (HLe.refl _) rfl ?_
    rintro mz E I' loc' ⟨i, m1, b1, rfl, rfl, rfl, rfl, hi, hlo⟩
    refine X_seq ?_
    refine X_region ?_
    refine XO_v0 (ev_cmp rfl rfl rfl) rfl rfl rfl ?_
    refine XO_nil ?_
    refine at_then ?_
    refine X_seq ?_
    refine X_cond rfl (fun hc26 => ?_) (fun hc26 => ?_)
    · skip
      have hlt_i : i < ns := by have h := hc26; simp at h; omega
      obtain ⟨s, hst⟩ := hE.hT.at hlt_i
      refine X_skip ?_
      refine at_then ?_
      refine X_seq ?_
      refine X_block ?_
      refine X_seq ?_
      refine X_region ?_
      refine XO_v0 (ev_indexSl rfl rfl slt_22 hE.hT (fun hg => by first | omega | (simp [conj] at hg; omega))) rfl rfl rfl ?_
      refine XO_v0 (ev_load rfl sct_3 (fun hg => by first | exact hE.op.any | exact hE.st.any | exact hE.gi.any | exact hE.se.any | exact hE.cl.any | exact hE.ro.any | exact hE.sp.any | exact Sl.get0 hE.hT hst rfl | exact Sl.get0 hE.hO hok rfl | exact Sl.get0 hE.hS hcx rfl | exact .here rfl | exact Cell.h0 rfl | exact Cell.h1 rfl | exact Cell.h2 rfl | exact Cell.h3 rfl | exact Cell.h4 rfl | exact Cell.h5 rfl | (repeat (first | exact Cell.here rfl | apply Cell.there | apply Cell.app)))) rfl rfl rfl ?_
      refine XO_v0 (ev_assign rfl) rfl rfl rfl ?_
      refine XO_nil ?_
      refine at_then ?_
      refine X_seq ?_
      have hD := HLe.refl I
      refine X_noP ?_
      refine X_drawS I [] mixed ?_
      refine XD_take 0 rfl (ev_load rfl sct_42 (fun hg => by first | exact hE.op.any | exact hE.st.any | exact hE.gi.any | exact hE.se.any | exact hE.cl.any | exact hE.ro.any | exact hE.sp.any | exact Sl.get0 hE.hT hst rfl | exact Sl.get0 hE.hO hok rfl | exact Sl.get0 hE.hS hcx rfl | exact .here rfl | exact Cell.h0 rfl | exact Cell.h1 rfl | exact Cell.h2 rfl | exact Cell.h3 rfl | exact Cell.h4 rfl | exact Cell.h5 rfl | (repeat (first | exact Cell.here rfl | apply Cell.there | apply Cell.app)))) (.none rfl) rfl rfl rfl (by kernel_rfl) (by kernel_rfl) (by kernel_rfl) noP_ok hD (by repeat (first | exact .refl | exact subL_nil | refine .keep ?_ | refine .drop ?_ | refine subL_add ?_)) ?_
      refine XD_take 1 rfl (ev_load rfl sct_22 (fun hg => by first | exact hE.op.any | exact hE.st.any | exact hE.gi.any | exact hE.se.any | exact hE.cl.any | exact hE.ro.any | exact hE.sp.any | exact Sl.get0 hE.hT hst rfl | exact Sl.get0 hE.hO hok rfl | exact Sl.get0 hE.hS hcx rfl | exact .here rfl | exact Cell.h0 rfl | exact Cell.h1 rfl | exact Cell.h2 rfl | exact Cell.h3 rfl | exact Cell.h4 rfl | exact Cell.h5 rfl | (repeat (first | exact Cell.here rfl | apply Cell.there | apply Cell.app)))) (.none rfl) rfl rfl rfl (by kernel_rfl) (by kernel_rfl) (by kernel_rfl) noP_ok hD (by repeat (first | exact .refl | exact subL_nil | refine .keep ?_ | refine .drop ?_ | refine subL_add ?_)) ?_
      refine XD_take 2 rfl (ev_move rfl) (.none rfl) rfl rfl rfl (by kernel_rfl) (by kernel_rfl) (by kernel_rfl) noP_ok hD (by repeat (first | exact .refl | exact subL_nil | refine .keep ?_ | refine .drop ?_ | refine subL_add ?_)) ?_
      refine XD_take 3 rfl (ev_indexSl rfl rfl slt_22 hE.hO (fun hg => by first | omega | (simp [conj] at hg; omega))) (.none rfl) rfl rfl rfl (by kernel_rfl) (by kernel_rfl) (by kernel_rfl) noP_ok hD (by repeat (first | exact .refl | exact subL_nil | refine .keep ?_ | refine .drop ?_ | refine subL_add ?_)) ?_
      refine XD_take 4 rfl (ev_load rfl sct_3 (fun hg => by first | exact hE.op.any | exact hE.st.any | exact hE.gi.any | exact hE.se.any | exact hE.cl.any | exact hE.ro.any | exact hE.sp.any | exact Sl.get0 hE.hT hst rfl | exact Sl.get0 hE.hO hok rfl | exact Sl.get0 hE.hS hcx rfl | exact .here rfl | exact Cell.h0 rfl | exact Cell.h1 rfl | exact Cell.h2 rfl | exact Cell.h3 rfl | exact Cell.h4 rfl | exact Cell.h5 rfl | (repeat (first | exact Cell.here rfl | apply Cell.there | apply Cell.app)))) (.none rfl) rfl rfl rfl (by kernel_rfl) (by kernel_rfl) (by kernel_rfl) noP_ok hD (by repeat (first | exact .refl | exact subL_nil | refine .keep ?_ | refine .drop ?_ | refine subL_add ?_)) ?_
      refine XD_take 5 rfl (ev_move rfl) (.none rfl) rfl rfl rfl (by kernel_rfl) (by kernel_rfl) (by kernel_rfl) noP_ok hD (by repeat (first | exact .refl | exact subL_nil | refine .keep ?_ | refine .drop ?_ | refine subL_add ?_)) ?_
      refine XD_one 6 rfl (by kernel_rfl) ?_
      refine XO_mapUpdate (m := m1) (ek := eiv) (ev := eiv) (a := o) s mpt_42 key_3 rfl rfl rfl rfl (by first | exact Upd.u0 | exact Upd.u1 | exact Upd.u2 | exact Upd.u3 | exact Upd.u4 | exact Upd.u5 | (repeat (first | exact Upd.here | apply Upd.there | apply upd_app))) ?_
      refine XO_nil ?_
      refine at_D hD (by repeat (first | exact .refl | exact subL_nil | refine .keep ?_ | refine .drop ?_ | refine subL_add ?_)) ?_
      refine XD_done (by kernel_rfl) ?_
      refine at_noP ?_
      refine at_then ?_
      refine X_seq ?_
      refine X_region ?_
      refine XO_v0 (ev_load rfl sct_43 (fun hg => by first | exact hE.op.any | exact hE.st.any | exact hE.gi.any | exact hE.se.any | exact hE.cl.any | exact hE.ro.any | exact hE.sp.any | exact Sl.get0 hE.hT hst rfl | exact Sl.get0 hE.hO hok rfl | exact Sl.get0 hE.hS hcx rfl | exact .here rfl | exact Cell.h0 rfl | exact Cell.h1 rfl | exact Cell.h2 rfl | exact Cell.h3 rfl | exact Cell.h4 rfl | exact Cell.h5 rfl | (repeat (first | exact Cell.here rfl | apply Cell.there | apply Cell.app)))) rfl rfl rfl ?_
      refine XO_v0 (ev_move rfl) rfl rfl rfl ?_
      refine XO_v0 (ev_arB rfl rfl rfl (fun hg => by first | omega | (have hck := costK_in (cl := xs) (h := mG m) j (by omega); have hs1 := step_in ((mget m cc).getD 0) ((mget m (splitF xs cc)).getD 0); have hs2 := step_in ((mget m cc).getD 0) ((mget m (cc - splitF xs cc)).getD 0); omega) | (simp [conj] at hg; omega))) rfl rfl rfl ?_
      refine XO_callM (cap := [capP bop, capP bst, capP bgi, capP bse, capP bcl, capP bro, capP bsp, capP bbe]) (vs := [_]) rfl rfl fun_26 split_all (ih hkl _ _) rfl rfl ?_
      rintro vv2 I2 L2 hI2 ⟨rfl, rfl, m2, b2, rfl, hgv⟩
      have hE := hE.mono hI2
      rw [List.append_nil]
      refine XO_v0 (ev_not rfl) rfl rfl rfl ?_
      refine XO_nil ?_
      refine at_then ?_
      refine X_cond rfl (fun hc39 => ?_) (fun hc39 => ?_)
      · skip
        cases hc39
      · skip
        refine X_skip ?_
        refine at_block_n ?_
        refine at_then ?_
        refine X_region ?_
        refine XO_v0 (ev_arB rfl rfl rfl (fun hg => by first | omega | (have hck := costK_in (cl := xs) (h := mG m) j (by omega); have hs1 := step_in ((mget m cc).getD 0) ((mget m (splitF xs cc)).getD 0); have hs2 := step_in ((mget m cc).getD 0) ((mget m (cc - splitF xs cc)).getD 0); omega) | (simp [conj] at hg; omega))) rfl rfl rfl ?_
        refine XO_v0 (ev_move rfl) rfl rfl rfl ?_
        refine XO_nil ?_
        exact at_met2 _ _ ⟨ns - (i + 1), by omega, i + 1, m2, b2, rfl, rfl, rfl, rfl, by omega, loop_1 hnd hok hst hlo (fun y => mG_set y) hgv⟩ (.cons rfl (.cons rfl (.cons rfl (.cons rfl (.cons rfl (.cons rfl (.cons rfl .nil))))))) (by repeat (first | exact .refl | exact subL_left | refine subL_app ?_ | refine .drop ?_ | refine subL_add ?_))
    · skip
      have hge_i : ns ≤ i := by have h := hc26; simp at h; omega
      rw [show i = St.length by omega] at hlo
      refine X_exit ?_
      refine at_then_e ?_
      refine at_then_e ?_
      refine at_block_hit ?_
      refine at_then ?_
      refine X_seq ?_
      refine X_region ?_
      refine XO_v0 (ev_assign rfl) rfl rfl rfl ?_
      refine XO_nil ?_
      refine at_then ?_
      refine X_ret ?_
      refine at_then_r ?_
      first
      | exact at_ret1 rfl rfl (fun w hw => ⟨_, I, _, rfl, HLe.refl _, hw, rfl, rfl, m1, b1, rfl, loop_end hok hlo⟩)
      | exact at_ret1 rfl rfl (fun w hw => ⟨_, I, _, rfl, HLe.refl _, hw, rfl, rfl, m, _, rfl, give_end hke⟩)
  · skip
    have hke : O.length ≤ k := by have h := hc22; simp at h; omega
    refine X_skip ?_
    refine at_then ?_
    refine X_seq ?_
    refine X_region ?_
    refine XO_v0 (ev_assign rfl) rfl rfl rfl ?_
    refine XO_nil ?_
    refine at_then ?_
    refine X_seq ?_
    refine X_seq ?_
    refine X_region ?_
    refine XO_v0 (ev_load rfl sct_22 (fun hg => by first | exact hE.op.any | exact hE.st.any | exact hE.gi.any | exact hE.se.any | exact hE.cl.any | exact hE.ro.any | exact hE.sp.any | exact Sl.get0 hE.hT hst rfl | exact Sl.get0 hE.hO hok rfl | exact Sl.get0 hE.hS hcx rfl | exact .here rfl | exact Cell.h0 rfl | exact Cell.h1 rfl | exact Cell.h2 rfl | exact Cell.h3 rfl | exact Cell.h4 rfl | exact Cell.h5 rfl | (repeat (first | exact Cell.here rfl | apply Cell.there | apply Cell.app)))) rfl rfl rfl ?_
    refine XO_v0 (ev_lenS rfl slt_22) rfl rfl rfl ?_
    refine XO_v0 (ev_move rfl) rfl rfl rfl ?_
    refine XO_nil ?_
    refine at_then ?_
    refine X_block ?_
    refine X_loopT [(3, _), (5, _), (6, _), (7, _), (8, _), (41, _), (42, _)] (.cons rfl (.cons rfl (.cons rfl (.cons rfl (.cons rfl (.cons rfl (.cons rfl .nil))))))) (fun T L0 mz E I' loc' => ∃ (j : Nat), mz = n - j ∧ E = (13, .int .i64 (costK xs (mG m) j)) :: (43, .int .i64 j) :: T ∧ I = I' ∧ [(bbe, .cells #[.int .i64 b] 3 (0, 0)), (rm, mapO eiv eiv m)] = loc' ∧ j ≤ n) _ _ _ _ ⟨0, rfl, rfl, rfl, rfl, Nat.zero_le _⟩ (.cons rfl (.cons rfl (.cons rfl (.cons rfl (.cons rfl (.cons rfl (.cons rfl (.cons rfl (.cons rfl .nil))))))))) (HLe.refl _) rfl ?_
    rintro mz E I' loc' ⟨j, rfl, rfl, rfl, rfl, hj⟩
    refine X_seq ?_
    refine X_region ?_
    refine XO_v0 (ev_cmp rfl rfl rfl) rfl rfl rfl ?_
    refine XO_nil ?_
    refine at_then ?_
    refine X_seq ?_
    refine X_cond rfl (fun hc44 => ?_) (fun hc44 => ?_)
    · skip
      have hlt_j : j < n := by have h := hc44; simp at h; omega
      obtain ⟨cc, hcx⟩ := hE.hS.at hlt_j
      obtain ⟨x1, x2, x3, x4⟩ := both_at hc (List.mem_of_getElem? hcx)
      refine X_skip ?_
      refine at_then ?_
      refine X_seq ?_
      refine X_block ?_
      refine X_seq ?_
      refine X_region ?_
      refine XO_v0 (ev_indexSl rfl rfl slt_22 hE.hS (fun hg => by first | omega | (simp [conj] at hg; omega))) rfl rfl rfl ?_
      refine XO_v0 (ev_load rfl sct_3 (fun hg => by first | exact hE.op.any | exact hE.st.any | exact hE.gi.any | exact hE.se.any | exact hE.cl.any | exact hE.ro.any | exact hE.sp.any | exact Sl.get0 hE.hT hst rfl | exact Sl.get0 hE.hO hok rfl | exact Sl.get0 hE.hS hcx rfl | exact .here rfl | exact Cell.h0 rfl | exact Cell.h1 rfl | exact Cell.h2 rfl | exact Cell.h3 rfl | exact Cell.h4 rfl | exact Cell.h5 rfl | (repeat (first | exact Cell.here rfl | apply Cell.there | apply Cell.app)))) rfl rfl rfl ?_
      refine XO_v0 (ev_assign rfl) rfl rfl rfl ?_
      refine XO_nil ?_
      refine at_then ?_
      refine X_seq ?_
      refine X_region ?_
      refine XO_v0 (ev_load rfl sct_28 (fun hg => by first | exact hE.op.any | exact hE.st.any | exact hE.gi.any | exact hE.se.any | exact hE.cl.any | exact hE.ro.any | exact hE.sp.any | exact Sl.get0 hE.hT hst rfl | exact Sl.get0 hE.hO hok rfl | exact Sl.get0 hE.hS hcx rfl | exact .here rfl | exact Cell.h0 rfl | exact Cell.h1 rfl | exact Cell.h2 rfl | exact Cell.h3 rfl | exact Cell.h4 rfl | exact Cell.h5 rfl | (repeat (first | exact Cell.here rfl | apply Cell.there | apply Cell.app)))) rfl rfl rfl ?_
      refine XO_v0 (ev_lenS rfl slt_28) rfl rfl rfl ?_
      refine XO_v0 (ev_load rfl sct_22 (fun hg => by first | exact hE.op.any | exact hE.st.any | exact hE.gi.any | exact hE.se.any | exact hE.cl.any | exact hE.ro.any | exact hE.sp.any | exact Sl.get0 hE.hT hst rfl | exact Sl.get0 hE.hO hok rfl | exact Sl.get0 hE.hS hcx rfl | exact .here rfl | exact Cell.h0 rfl | exact Cell.h1 rfl | exact Cell.h2 rfl | exact Cell.h3 rfl | exact Cell.h4 rfl | exact Cell.h5 rfl | (repeat (first | exact Cell.here rfl | apply Cell.there | apply Cell.app)))) rfl rfl rfl ?_
      refine XO_v0 (ev_move rfl) rfl rfl rfl ?_
      refine XO_callV0 (cap := []) (vs := [_, _, _]) rfl rfl fun_11 (w_PartsC hE.hS hn hc (List.mem_of_getElem? hcx)) rfl rfl ?_
      refine XO_v0 (ev_move rfl) rfl rfl rfl ?_
      refine XO_v0 (ev_extract rfl rfl) rfl rfl rfl ?_
      refine XO_v0 (ev_extract rfl rfl) rfl rfl rfl ?_
      refine XO_v0 (ev_extract rfl rfl) rfl rfl rfl ?_
      refine XO_v0 (ev_assign rfl) rfl rfl rfl ?_
      refine XO_v0 (ev_assign rfl) rfl rfl rfl ?_
      refine XO_v0 (ev_assign rfl) rfl rfl rfl ?_
      refine XO_nil ?_
      refine at_then ?_
      refine X_seq ?_
      refine X_seq ?_
      refine X_region ?_
      refine XO_v0 (ev_move rfl) rfl rfl rfl ?_
      refine XO_v0 (ev_cmp rfl rfl rfl) rfl rfl rfl ?_
      refine XO_v0 (ev_move rfl) rfl rfl rfl ?_
      refine XO_pushF 2 rfl rfl rfl ?_
      refine XO_v1 (ev_move rfl) (.some rfl rfl rfl rfl gbf) rfl rfl rfl ?_
      refine XO_v1 (ev_move rfl) (.some rfl rfl rfl rfl gbf) rfl rfl rfl ?_
      refine XO_v1 (ev_and rfl rfl) (.some rfl rfl rfl rfl gbf) rfl rfl rfl ?_
      refine XO_v1 (ev_cmp rfl rfl rfl) (.some rfl rfl rfl rfl gbf) rfl rfl rfl ?_
      refine XO_or0 rfl rfl rfl rfl rfl ?_
      refine XO_v0 (ev_move rfl) rfl rfl rfl ?_
      refine XO_pushF 8 rfl rfl rfl ?_
      refine XO_v1 (ev_move rfl) (.some rfl rfl rfl rfl gbf) rfl rfl rfl ?_
      refine XO_v1 (ev_move rfl) (.some rfl rfl rfl rfl gbf) rfl rfl rfl ?_
      refine XO_v1 (ev_or rfl rfl) (.some rfl rfl rfl rfl gbf) rfl rfl rfl ?_
      refine XO_v1 (ev_move rfl) (.some rfl rfl rfl rfl gbf) rfl rfl rfl ?_
      refine XO_v1 (ev_cmp rfl rfl rfl) (.some rfl rfl rfl rfl gbf) rfl rfl rfl ?_
      refine XO_or0 rfl rfl rfl rfl rfl ?_
      refine XO_v0 (ev_move rfl) rfl rfl rfl ?_
      refine XO_pushF 15 rfl rfl rfl ?_
      refine XO_v1 (ev_move rfl) (.some rfl rfl rfl rfl gbf) rfl rfl rfl ?_
      refine XO_v1 (ev_cmp rfl rfl rfl) (.some rfl rfl rfl rfl gbf) rfl rfl rfl ?_
      refine XO_or0 rfl rfl rfl rfl rfl ?_
      refine XO_v0 (ev_move rfl) rfl rfl rfl ?_
      refine XO_pushF 19 rfl rfl rfl ?_
      refine XO_v1 (ev_move rfl) (.some rfl rfl rfl rfl gbf) rfl rfl rfl ?_
      refine XO_v1 (ev_cmp rfl rfl rfl) (.some rfl rfl rfl rfl gbf) rfl rfl rfl ?_
      refine XO_or0 rfl rfl rfl rfl rfl ?_
      refine XO_nil ?_
      refine at_then ?_
      refine X_cond rfl (fun hc78 => ?_) (fun hc78 => ?_)
      · skip
        rw [x1, x2] at hc78; simp [x3, x4] at hc78
      · skip
        refine X_skip ?_
        refine at_then ?_
        refine X_draw mixed (by kernel_rfl) ?_
        refine XQ_v0 (ev_move rfl) rfl rfl rfl ?_
        refine XQ_v0 (ev_load rfl sct_41 (fun hg => by first | exact hE.op.any | exact hE.st.any | exact hE.gi.any | exact hE.se.any | exact hE.cl.any | exact hE.ro.any | exact hE.sp.any | exact Sl.get0 hE.hT hst rfl | exact Sl.get0 hE.hO hok rfl | exact Sl.get0 hE.hS hcx rfl | exact .here rfl | exact Cell.h0 rfl | exact Cell.h1 rfl | exact Cell.h2 rfl | exact Cell.h3 rfl | exact Cell.h4 rfl | exact Cell.h5 rfl | (repeat (first | exact Cell.here rfl | apply Cell.there | apply Cell.app)))) rfl rfl rfl ?_
        refine XQ_v0 (ev_load rfl sct_42 (fun hg => by first | exact hE.op.any | exact hE.st.any | exact hE.gi.any | exact hE.se.any | exact hE.cl.any | exact hE.ro.any | exact hE.sp.any | exact Sl.get0 hE.hT hst rfl | exact Sl.get0 hE.hO hok rfl | exact Sl.get0 hE.hS hcx rfl | exact .here rfl | exact Cell.h0 rfl | exact Cell.h1 rfl | exact Cell.h2 rfl | exact Cell.h3 rfl | exact Cell.h4 rfl | exact Cell.h5 rfl | (repeat (first | exact Cell.here rfl | apply Cell.there | apply Cell.app)))) rfl rfl rfl ?_
        refine XQ_v0 (ev_move rfl) rfl rfl rfl ?_
        refine XQ_v0 (ev_lookupI (m := m) (a := cc) mpt_42 key_3 rfl rfl (fun _ => (by first | exact Mem.m0 | exact Mem.m1 | exact Mem.m2 | exact Mem.m3 | exact Mem.m4 | exact Mem.m5 | (repeat (first | exact Mem.m0 | apply Mem.there | apply Mem.app))))) rfl rfl rfl ?_
        refine XQ_v0 (ev_load rfl sct_42 (fun hg => by first | exact hE.op.any | exact hE.st.any | exact hE.gi.any | exact hE.se.any | exact hE.cl.any | exact hE.ro.any | exact hE.sp.any | exact Sl.get0 hE.hT hst rfl | exact Sl.get0 hE.hO hok rfl | exact Sl.get0 hE.hS hcx rfl | exact .here rfl | exact Cell.h0 rfl | exact Cell.h1 rfl | exact Cell.h2 rfl | exact Cell.h3 rfl | exact Cell.h4 rfl | exact Cell.h5 rfl | (repeat (first | exact Cell.here rfl | apply Cell.there | apply Cell.app)))) rfl rfl rfl ?_
        refine XQ_v0 (ev_move rfl) rfl rfl rfl ?_
        refine XQ_v0 (ev_lookupI (m := m) (a := splitF xs cc) mpt_42 key_3 rfl rfl (fun _ => (by first | exact Mem.m0 | exact Mem.m1 | exact Mem.m2 | exact Mem.m3 | exact Mem.m4 | exact Mem.m5 | (repeat (first | exact Mem.m0 | apply Mem.there | apply Mem.app))))) rfl rfl rfl ?_
        refine XQ_callV0 (cap := []) (vs := [_, _]) rfl rfl fun_25 (w_stp _ _ _) rfl rfl ?_
        refine XQ_v0 (ev_load rfl sct_41 (fun hg => by first | exact hE.op.any | exact hE.st.any | exact hE.gi.any | exact hE.se.any | exact hE.cl.any | exact hE.ro.any | exact hE.sp.any | exact Sl.get0 hE.hT hst rfl | exact Sl.get0 hE.hO hok rfl | exact Sl.get0 hE.hS hcx rfl | exact .here rfl | exact Cell.h0 rfl | exact Cell.h1 rfl | exact Cell.h2 rfl | exact Cell.h3 rfl | exact Cell.h4 rfl | exact Cell.h5 rfl | (repeat (first | exact Cell.here rfl | apply Cell.there | apply Cell.app)))) rfl rfl rfl ?_
        refine XQ_v0 (ev_load rfl sct_42 (fun hg => by first | exact hE.op.any | exact hE.st.any | exact hE.gi.any | exact hE.se.any | exact hE.cl.any | exact hE.ro.any | exact hE.sp.any | exact Sl.get0 hE.hT hst rfl | exact Sl.get0 hE.hO hok rfl | exact Sl.get0 hE.hS hcx rfl | exact .here rfl | exact Cell.h0 rfl | exact Cell.h1 rfl | exact Cell.h2 rfl | exact Cell.h3 rfl | exact Cell.h4 rfl | exact Cell.h5 rfl | (repeat (first | exact Cell.here rfl | apply Cell.there | apply Cell.app)))) rfl rfl rfl ?_
        refine XQ_v0 (ev_move rfl) rfl rfl rfl ?_
        refine XQ_v0 (ev_lookupI (m := m) (a := cc) mpt_42 key_3 rfl rfl (fun _ => (by first | exact Mem.m0 | exact Mem.m1 | exact Mem.m2 | exact Mem.m3 | exact Mem.m4 | exact Mem.m5 | (repeat (first | exact Mem.m0 | apply Mem.there | apply Mem.app))))) rfl rfl rfl ?_
        refine XQ_v0 (ev_load rfl sct_42 (fun hg => by first | exact hE.op.any | exact hE.st.any | exact hE.gi.any | exact hE.se.any | exact hE.cl.any | exact hE.ro.any | exact hE.sp.any | exact Sl.get0 hE.hT hst rfl | exact Sl.get0 hE.hO hok rfl | exact Sl.get0 hE.hS hcx rfl | exact .here rfl | exact Cell.h0 rfl | exact Cell.h1 rfl | exact Cell.h2 rfl | exact Cell.h3 rfl | exact Cell.h4 rfl | exact Cell.h5 rfl | (repeat (first | exact Cell.here rfl | apply Cell.there | apply Cell.app)))) rfl rfl rfl ?_
        refine XQ_v0 (ev_move rfl) rfl rfl rfl ?_
        refine XQ_v0 (ev_lookupI (m := m) (a := cc - splitF xs cc) mpt_42 key_3 rfl rfl (fun _ => (by first | exact Mem.m0 | exact Mem.m1 | exact Mem.m2 | exact Mem.m3 | exact Mem.m4 | exact Mem.m5 | (repeat (first | exact Mem.m0 | apply Mem.there | apply Mem.app))))) rfl rfl rfl ?_
        refine XQ_callV0 (cap := []) (vs := [_, _]) rfl rfl fun_25 (w_stp _ _ _) rfl rfl ?_
        refine XQ_v0 (ev_arB rfl rfl rfl (fun hg => by first | omega | (have hck := costK_in (cl := xs) (h := mG m) j (by omega); have hs1 := step_in ((mget m cc).getD 0) ((mget m (splitF xs cc)).getD 0); have hs2 := step_in ((mget m cc).getD 0) ((mget m (cc - splitF xs cc)).getD 0); omega) | (simp [conj] at hg; omega))) rfl rfl rfl ?_
        refine XQ_v0 (ev_arB rfl rfl rfl (fun hg => by first | omega | (have hck := costK_in (cl := xs) (h := mG m) j (by omega); have hs1 := step_in ((mget m cc).getD 0) ((mget m (splitF xs cc)).getD 0); have hs2 := step_in ((mget m cc).getD 0) ((mget m (cc - splitF xs cc)).getD 0); omega) | (simp [conj] at hg; omega))) rfl rfl rfl ?_
        refine XQ_v0 (ev_assign rfl) rfl rfl rfl ?_
        refine XQ_nil ?_
        rw [show costK xs (mG m) j + (stepF ((mget m cc).getD 0) ((mget m (splitF xs cc)).getD 0) + stepF ((mget m cc).getD 0) ((mget m (cc - splitF xs cc)).getD 0)) = costK xs (mG m) (j + 1) from (costK_step hcx).symm]
        refine at_block_n ?_
        refine at_then ?_
        refine X_region ?_
        refine XO_v0 (ev_arB rfl rfl rfl (fun hg => by first | omega | (have hck := costK_in (cl := xs) (h := mG m) j (by omega); have hs1 := step_in ((mget m cc).getD 0) ((mget m (splitF xs cc)).getD 0); have hs2 := step_in ((mget m cc).getD 0) ((mget m (cc - splitF xs cc)).getD 0); omega) | (simp [conj] at hg; omega))) rfl rfl rfl ?_
        refine XO_v0 (ev_move rfl) rfl rfl rfl ?_
        refine XO_nil ?_
        exact at_met2 _ _ ⟨n - (j + 1), by omega, j + 1, rfl, rfl, rfl, rfl, by omega⟩ (.cons rfl (.cons rfl (.cons rfl (.cons rfl (.cons rfl (.cons rfl (.cons rfl (.cons rfl (.cons rfl .nil))))))))) (by repeat (first | exact .refl | exact subL_left | refine subL_app ?_ | refine .drop ?_ | refine subL_add ?_))
    · skip
      have hge_j : n ≤ j := by have h := hc44; simp at h; omega
      rw [show j = xs.length by omega]
      refine X_exit ?_
      refine at_then_e ?_
      refine at_then_e ?_
      refine at_block_hit ?_
      refine at_then ?_
      refine X_seq ?_
      refine X_region ?_
      refine XO_v0 (ev_load rfl sct_3 (fun hg => by first | exact hE.op.any | exact hE.st.any | exact hE.gi.any | exact hE.se.any | exact hE.cl.any | exact hE.ro.any | exact hE.sp.any | exact Sl.get0 hE.hT hst rfl | exact Sl.get0 hE.hO hok rfl | exact Sl.get0 hE.hS hcx rfl | exact .here rfl | exact Cell.h0 rfl | exact Cell.h1 rfl | exact Cell.h2 rfl | exact Cell.h3 rfl | exact Cell.h4 rfl | exact Cell.h5 rfl | (repeat (first | exact Cell.here rfl | apply Cell.there | apply Cell.app)))) rfl rfl rfl ?_
      refine XO_v0 (ev_move rfl) rfl rfl rfl ?_
      refine XO_v0 (ev_min rfl rfl) rfl rfl rfl ?_
      refine XO_store rfl rfl szt_3 rfl rfl (by first | exact Upd.u0 | exact Upd.u1 | exact Upd.u2 | exact Upd.u3 | exact Upd.u4 | exact Upd.u5 | (repeat (first | exact Upd.here | apply Upd.there | apply upd_app))) rfl ?_
      refine XO_nil ?_
      refine at_then ?_
      refine X_seq ?_
      refine X_region ?_
      refine XO_v0 (ev_assign rfl) rfl rfl rfl ?_
      refine XO_nil ?_
      refine at_then ?_
      refine X_ret ?_
      first
      | exact at_ret1 rfl rfl (fun w hw => ⟨_, I, _, rfl, HLe.refl _, hw, rfl, rfl, m1, b1, rfl, loop_end hok hlo⟩)
      | exact at_ret1 rfl rfl (fun w hw => ⟨_, I, _, rfl, HLe.refl _, hw, rfl, rfl, m, _, rfl, give_end hke⟩)
end Go.Proofs.YtkpmnnflikkhmaaDoor
end
section
namespace Go.Proofs.YtkpmnnflikkhmaaDoor
open Go Go.Kn Go.Proofs
theorem szt_41 : SzT Tryd.prog 41 1 := .of (by kernel_rfl)
theorem szt_43 : SzT Tryd.prog 43 1 := .of (by kernel_rfl)
theorem zt_41 : ZeroT Tryd.prog 41 .nilFunc := .of (by kernel_rfl)
theorem zt_43 : ZeroT Tryd.prog 43 .nilFunc := .of (by kernel_rfl)
theorem w_give {I : HMap} {bop bst bgi bse bcl bro bsp bbe rm : Nat} {ao as9 av bv : Option Addr} {no co ns cs n c n2 c2 : Nat} {O St xs : List Int} {rows : List (List Int)} (hE : GvE I 26 25 bop bst bgi bse bcl bro bsp rm [capP bop, capP bst, capP bgi, capP bse, capP bcl, capP bro, capP bsp, capP bbe] ao as9 av bv no co ns cs n c n2 c2 O St xs rows) (hn : n ≤ 100000) (hn2 : n2 ≤ 100000) (hno : no ≤ 100000) (hns : ns ≤ 100000) (hc : chkN rows.length xs = 0) (hnd : O.Nodup) : ∀ (d k : Nat), k + d = O.length → ∀ (m : List (Int × Int)) (b : Int), RetM Tryd.prog 26 ([.int .i64 (k : Int)] ++ [capP bop, capP bst, capP bgi, capP bse, capP bcl, capP bro, capP bsp, capP bbe]) I [(bbe, .cells #[.int .i64 b] 3 (0, 0)), (rm, mapO eiv eiv m)] (fun v I' L' => v = .bool true ∧ I' = I ∧ ∃ m' b', L' = [(bbe, .cells #[.int .i64 b'] 3 (0, 0)), (rm, mapO eiv eiv m')] ∧ GiveQ O St (costC xs) k (mG m) b b' (mG m'))
  | 0, k, hk, m, b => w_give_step hE hn hn2 hno hns hc hnd k (by omega) m b fun h => by omega
  | d + 1, k, hk, m, b => w_give_step hE hn hn2 hno hns hc hnd k (by omega) m b fun _ m' b' => w_give hE hn hn2 hno hns hc hnd d (k + 1) (by omega) m' b'
theorem w_CostN {I : HMap} {av : Option Addr} {n c : Nat} {xs : List Int} (hS : Sl I 1 encI av n c xs) {bv : Option Addr} {n2 c2 : Nat} {rows : List (List Int)} (hV : SlN I bv n2 c2 rows) (hn2 : n2 ≤ 100000) (hDb : DebOK I) : RetV Tryd.prog 19 [.slice bv n2 c2, .slice av n c] I (.tuple #[.int .i64 (costA rows xs), .int .i64 (costE rows xs)]) := by
  intro g H w hw
  refine enter Tryd.func19 rfl Tryd.ntmps19 rfl hw ?_
  have hlV := hV.len
  subst hlV
  refine X_seq ?_
  refine X_region ?_
  refine XO_v0 (ev_assign rfl) rfl rfl rfl ?_
  refine XO_v0 (ev_assign rfl) rfl rfl rfl ?_
  refine XO_nil ?_
  refine at_then ?_
  refine X_seq ?_
  refine X_seq ?_
  refine X_region ?_
  refine XO_v0 (ev_move rfl) rfl rfl rfl ?_
  refine XO_callV0 (cap := []) (vs := [_]) rfl rfl fun_36 (w_table hV hn2) rfl rfl ?_
  refine XO_v0 (ev_assign rfl) rfl rfl rfl ?_
  refine XO_nil ?_
  refine at_then ?_
  refine X_seq ?_
  refine X_region ?_
  refine XO_v0 (ev_move rfl) rfl rfl rfl ?_
  refine XO_v0 (ev_cmp rfl rfl rfl) rfl rfl rfl ?_
  refine XO_nil ?_
  refine at_then ?_
  refine X_cond rfl (fun hc9 => ?_) (fun hc9 => ?_)
  · skip
    have hr0 : rowsN rows ≠ 0 := by simpa using hc9
    obtain ⟨e1, e2⟩ := cost_1 (cl := xs) hr0
    refine X_seq ?_
    refine X_region ?_
    refine XO_v0 (ev_move rfl) rfl rfl rfl ?_
    refine XO_v0 (ev_assign rfl) rfl rfl rfl ?_
    refine XO_v0 (ev_assign rfl) rfl rfl rfl ?_
    refine XO_nil ?_
    refine at_then ?_
    refine X_ret ?_
    refine at_then_r ?_
    first
    | exact at_ret2 rfl rfl rfl (fun w hw => ⟨by rw [e1, e2], hw.drop⟩)
  · skip
    have hr0 : rowsN rows = 0 := by simpa using hc9
    refine X_skip ?_
    refine at_then ?_
    refine X_seq ?_
    refine X_seq ?_
    refine X_region ?_
    refine XO_v0 (ev_move rfl) rfl rfl rfl ?_
    refine XO_v0 (ev_lenS rfl slt_28) rfl rfl rfl ?_
    refine XO_v0 (ev_move rfl) rfl rfl rfl ?_
    refine XO_callV0 (cap := []) (vs := [_, _]) rfl rfl fun_13 (w_check hS _) rfl rfl ?_
    refine XO_v0 (ev_assign rfl) rfl rfl rfl ?_
    refine XO_nil ?_
    refine at_then ?_
    refine X_seq ?_
    refine X_region ?_
    refine XO_v0 (ev_move rfl) rfl rfl rfl ?_
    refine XO_v0 (ev_cmp rfl rfl rfl) rfl rfl rfl ?_
    refine XO_nil ?_
    refine at_then ?_
    refine X_cond rfl (fun hc16 => ?_) (fun hc16 => ?_)
    · skip
      have hc0 : chkN rows.length xs ≠ 0 := by simpa using hc16
      obtain ⟨e1, e2⟩ := cost_2 hr0 hc0
      refine X_seq ?_
      refine X_region ?_
      refine XO_v0 (ev_move rfl) rfl rfl rfl ?_
      refine XO_v0 (ev_assign rfl) rfl rfl rfl ?_
      refine XO_v0 (ev_assign rfl) rfl rfl rfl ?_
      refine XO_nil ?_
      refine at_then ?_
      refine X_ret ?_
      refine at_then_r ?_
      first
      | exact at_ret2 rfl rfl rfl (fun w hw => ⟨by rw [e1, e2], hw.drop⟩)
    · skip
      have hc0 : chkN rows.length xs = 0 := by simpa using hc16
      obtain ⟨e1, e2⟩ := cost_3 hr0 hc0
      have hn : n ≤ 100000 := by have h1 := (chkN_ok hc0).2.2.1; have h2 := hS.len; omega
      refine X_skip ?_
      refine at_then ?_
      refine X_seq ?_
      refine X_region ?_
      refine XO_v0 (ev_move rfl) rfl rfl rfl ?_
      refine XO_v0 (ev_move rfl) rfl rfl rfl ?_
      refine XO_callV0 (cap := []) (vs := [_, _]) rfl rfl fun_37 (w_cost hS hn hV hn2 hDb hr0 hc0) rfl rfl ?_
      refine XO_v0 (ev_assign rfl) rfl rfl rfl ?_
      refine XO_v0 (ev_assign rfl) rfl rfl rfl ?_
      refine XO_nil ?_
      refine at_then ?_
      refine X_ret ?_
      first
      | exact at_ret2 rfl rfl rfl (fun w hw => ⟨by rw [e1, e2], hw.drop⟩)
set_option maxHeartbeats 1600000 in
theorem w_costLaw {I : HMap} {av : Option Addr} {n c : Nat} {xs : List Int} (hS : Sl I 1 encI av n c xs) {bv : Option Addr} {n2 c2 : Nat} {rows : List (List Int)} (hVn : SlN I bv n2 c2 rows) (hbg : n2 ≤ 9223372036854775807) (hDb : DebOK I) : RetV Tryd.prog 6 [.slice bv n2 c2, .slice av n c] I (.bool true) := by
  intro g H w hw
  refine enter Tryd.func6 rfl Tryd.ntmps6 rfl hw ?_
  have hIc := HLe.refl I
  have hlV := hVn.len
  subst hlV
  have hVn9 := hVn
  obtain ⟨hs, hV⟩ := hVn9
  have hH := hV.1
  refine X_seq ?_
  refine X_region ?_
  refine XO_box rfl rfl rfl (fun b_2 => ?_)
  refine XO_box rfl rfl rfl (fun b_3 => ?_)
  refine XO_v0 (ev_assign rfl) rfl rfl rfl ?_
  refine XO_nil ?_
  refine at_then ?_
  refine X_seq ?_
  refine X_seq ?_
  refine X_region ?_
  refine XO_callV0 (cap := []) (vs := []) rfl rfl fun_10 (w_sane hDb) rfl rfl ?_
  refine XO_v0 (ev_not rfl) rfl rfl rfl ?_
  refine XO_nil ?_
  refine at_then ?_
  refine X_cond rfl (fun hc20 => ?_) (fun hc20 => ?_)
  · skip
    cases hc20
  · skip
    refine X_skip ?_
    refine at_then ?_
    refine X_seq ?_
    refine X_seq ?_
    refine X_region ?_
    refine XO_v0 (ev_load rfl sct_28 (fun hg => by first | exact hB2.any | exact hB3.any | exact hB7.any | exact hC18.any | exact Sl.get0 hH hx0 rfl | exact Sl.get0 hH hx rfl | exact Sl.get0 hQ hu rfl | exact Cell.here rfl | exact Cell.there (Cell.here rfl) | exact Cell.h0 rfl | exact Cell.h1 rfl | exact Cell.h2 rfl | exact Cell.h3 rfl | exact Cell.h4 rfl | exact Cell.h5 rfl | (repeat (first | exact Cell.here rfl | apply Cell.there | apply Cell.app)))) rfl rfl rfl ?_
    refine XO_v0 (ev_lenS rfl slt_28) rfl rfl rfl ?_
    refine XO_v0 (ev_cmp rfl rfl rfl) rfl rfl rfl ?_
    refine XO_v0 (ev_move rfl) rfl rfl rfl ?_
    refine XO_pushF 3 rfl rfl rfl ?_
    refine XO_v1 (ev_load rfl sct_28 (fun hg => by first | exact hB2.any | exact hB3.any | exact hB7.any | exact hC18.any | exact Sl.get0 hH hx0 rfl | exact Sl.get0 hH hx rfl | exact Sl.get0 hQ hu rfl | exact Cell.here rfl | exact Cell.there (Cell.here rfl) | exact Cell.h0 rfl | exact Cell.h1 rfl | exact Cell.h2 rfl | exact Cell.h3 rfl | exact Cell.h4 rfl | exact Cell.h5 rfl | (repeat (first | exact Cell.here rfl | apply Cell.there | apply Cell.app)))) (.some rfl rfl rfl rfl gbf) rfl rfl rfl ?_
    refine XO_callV1 (cap := []) (vs := [_, _]) rfl rfl fun_23 (fun hg => w_small hVn hbg 3) (.some rfl rfl rfl rfl gbf) rfl rfl ?_
    refine XO_v1 (ev_not rfl) (.some rfl rfl rfl rfl gbf) rfl rfl rfl ?_
    refine XO_or0 rfl rfl rfl rfl rfl ?_
    refine XO_nil ?_
    refine at_then ?_
    refine X_cond rfl (fun hc28 => ?_) (fun hc28 => ?_)
    · skip
      refine X_seq ?_
      refine X_region ?_
      refine XO_v0 (ev_assign rfl) rfl rfl rfl ?_
      refine XO_nil ?_
      refine at_then ?_
      refine X_ret ?_
      refine at_then_r ?_
      first
      | exact at_ret1 rfl rfl (fun w hw => ⟨by rfl, (hw.mono hIc).drop⟩)
      | exact at_ret1 rfl rfl (fun w hw => ⟨by rw [(cost_3 hr0 hc0).2, hsm, show priceF rows xs = priceK rows xs l by unfold priceF; rw [hg0, hx0l, hge_l]]; simp, (hw.mono hIc).drop⟩)
    · skip
      have hsml : rows.length ≤ 4 ∧ smallF rows 3 = true := by cases hf : smallF rows 3 with
      | true => rw [hf] at hc28; simp at hc28; exact ⟨by omega, rfl⟩
      | false => rw [hf] at hc28; simp at hc28
      have h4 := hsml.1
      have hn2 : rows.length ≤ 100000 := by omega
      refine X_skip ?_
      refine at_then ?_
      refine X_seq ?_
      refine X_region ?_
      refine XO_v0 (ev_load rfl sct_28 (fun hg => by first | exact hB2.any | exact hB3.any | exact hB7.any | exact hC18.any | exact Sl.get0 hH hx0 rfl | exact Sl.get0 hH hx rfl | exact Sl.get0 hQ hu rfl | exact Cell.here rfl | exact Cell.there (Cell.here rfl) | exact Cell.h0 rfl | exact Cell.h1 rfl | exact Cell.h2 rfl | exact Cell.h3 rfl | exact Cell.h4 rfl | exact Cell.h5 rfl | (repeat (first | exact Cell.here rfl | apply Cell.there | apply Cell.app)))) rfl rfl rfl ?_
      refine XO_v0 (ev_load rfl sct_22 (fun hg => by first | exact hB2.any | exact hB3.any | exact hB7.any | exact hC18.any | exact Sl.get0 hH hx0 rfl | exact Sl.get0 hH hx rfl | exact Sl.get0 hQ hu rfl | exact Cell.here rfl | exact Cell.there (Cell.here rfl) | exact Cell.h0 rfl | exact Cell.h1 rfl | exact Cell.h2 rfl | exact Cell.h3 rfl | exact Cell.h4 rfl | exact Cell.h5 rfl | (repeat (first | exact Cell.here rfl | apply Cell.there | apply Cell.app)))) rfl rfl rfl ?_
      refine XO_callV0 (cap := []) (vs := [_, _]) rfl rfl fun_19 (w_CostN hS hVn hn2 hDb) rfl rfl ?_
      refine XO_v0 (ev_move rfl) rfl rfl rfl ?_
      refine XO_v0 (ev_extract rfl rfl) rfl rfl rfl ?_
      refine XO_v0 (ev_extract rfl rfl) rfl rfl rfl ?_
      refine XO_v0 (ev_assign rfl) rfl rfl rfl ?_
      refine XO_v0 (ev_assign rfl) rfl rfl rfl ?_
      refine XO_nil ?_
      refine at_then ?_
      refine X_seq ?_
      refine X_seq ?_
      refine X_region ?_
      refine XO_v0 (ev_move rfl) rfl rfl rfl ?_
      refine XO_v0 (ev_cmp rfl rfl rfl) rfl rfl rfl ?_
      refine XO_nil ?_
      refine at_then ?_
      refine X_cond rfl (fun hc36 => ?_) (fun hc36 => ?_)
      · skip
        refine X_seq ?_
        refine X_region ?_
        refine XO_v0 (ev_assign rfl) rfl rfl rfl ?_
        refine XO_nil ?_
        refine at_then ?_
        refine X_ret ?_
        refine at_then_r ?_
        first
        | exact at_ret1 rfl rfl (fun w hw => ⟨by rfl, (hw.mono hIc).drop⟩)
        | exact at_ret1 rfl rfl (fun w hw => ⟨by rw [(cost_3 hr0 hc0).2, hsm, show priceF rows xs = priceK rows xs l by unfold priceF; rw [hg0, hx0l, hge_l]]; simp, (hw.mono hIc).drop⟩)
      · skip
        have hcE : costE rows xs = 0 := by simpa using hc36
        have hr0 : rowsN rows = 0 := by cases Decidable.em (rowsN rows = 0) with
      | inl h => exact h
      | inr h => exact absurd ((cost_1 h).1.symm.trans hcE) h
        have hc0 : chkN rows.length xs = 0 := by have h := hcE; unfold costE at h; rw [if_neg (by omega)] at h; exact h
        obtain ⟨hr1, hr6, hr64, hrr⟩ := rows_ok hr0
        obtain ⟨x0, v0, hx0, hv0, hQ0⟩ := hV.at (k := 0) (by omega)
        have hx0l := hQ0.len
        have hg0 : rows.getD 0 [] = v0 := getD_of hv0
        rw [hg0] at hr64 hrr
        have hxl := (chkN_ok hc0).2.2.1
        have hSl := hS.len
        have hn : n ≤ 100000 := by omega
        refine X_skip ?_
        refine at_then ?_
        refine X_seq ?_
        refine X_region ?_
        refine XO_alloc zt_41 rfl rfl (fun b_7 => ?_)
        refine XO_store rfl rfl szt_41 rfl rfl (by first | exact Upd.u0 | exact Upd.u1 | exact Upd.u2 | exact Upd.u3 | exact Upd.u4 | exact Upd.u5 | (repeat (first | exact Upd.here | apply Upd.there | apply upd_app))) rfl ?_
        refine XO_nil ?_
        refine at_then ?_
        refine X_seq ?_
        refine X_freezeAll (fun I1 hI1 hall => ?_)
        have hS := hS.mono hI1
        have hVn := hVn.mono hI1
        have hV := hV.mono hI1
        have hH := hH.mono hI1
        have hDb := hDb.mono hI1
        have hIc := hIc.trans hI1
        have hB2 : Cell I1 [] b_2 0 (.slice bv rows.length c2) := .imm (hall _ _ (by repeat (first | exact List.mem_cons_self .. | apply List.mem_cons_of_mem))) rfl
        have hB3 : Cell I1 [] b_3 0 (.slice av n c) := .imm (hall _ _ (by repeat (first | exact List.mem_cons_self .. | apply List.mem_cons_of_mem))) rfl
        have hB7 : Cell I1 [] b_7 0 (.func (.func 25) #[] #[]) := .imm (hall _ _ (by repeat (first | exact List.mem_cons_self .. | apply List.mem_cons_of_mem))) rfl
        refine X_region ?_
        refine XO_v0 (ev_assign rfl) rfl rfl rfl ?_
        refine XO_nil ?_
        refine at_then ?_
        refine X_seq ?_
        refine X_seq ?_
        refine X_region ?_
        refine XO_v0 (ev_load rfl sct_28 (fun hg => by first | exact hB2.any | exact hB3.any | exact hB7.any | exact hC18.any | exact Sl.get0 hH hx0 rfl | exact Sl.get0 hH hx rfl | exact Sl.get0 hQ hu rfl | exact Cell.here rfl | exact Cell.there (Cell.here rfl) | exact Cell.h0 rfl | exact Cell.h1 rfl | exact Cell.h2 rfl | exact Cell.h3 rfl | exact Cell.h4 rfl | exact Cell.h5 rfl | (repeat (first | exact Cell.here rfl | apply Cell.there | apply Cell.app)))) rfl rfl rfl ?_
        refine XO_v0 (ev_indexSl rfl rfl slt_28 hH (fun hg => by first | omega | (simp [conj] at hg; omega))) rfl rfl rfl ?_
        refine XO_v0 (ev_load rfl sct_22 (fun hg => by first | exact hB2.any | exact hB3.any | exact hB7.any | exact hC18.any | exact Sl.get0 hH hx0 rfl | exact Sl.get0 hH hx rfl | exact Sl.get0 hQ hu rfl | exact Cell.here rfl | exact Cell.there (Cell.here rfl) | exact Cell.h0 rfl | exact Cell.h1 rfl | exact Cell.h2 rfl | exact Cell.h3 rfl | exact Cell.h4 rfl | exact Cell.h5 rfl | (repeat (first | exact Cell.here rfl | apply Cell.there | apply Cell.app)))) rfl rfl rfl ?_
        refine XO_v0 (ev_lenS rfl slt_22) rfl rfl rfl ?_
        refine XO_v0 (ev_move rfl) rfl rfl rfl ?_
        refine XO_nil ?_
        refine at_then ?_
        refine X_block ?_
        refine X_loopT [(2, _), (3, _), (5, _), (7, _), (40, _)] (.cons rfl (.cons rfl (.cons rfl (.cons rfl (.cons rfl .nil))))) (fun T L0 mz E I' loc' => ∃ (l : Nat) (sm : Int), mz = x0.n - l ∧ E = (8, .int .i64 sm) :: (41, .int .i64 l) :: T ∧ HLe I1 I' ∧ [] = loc' ∧ l ≤ x0.n ∧ sm = priceK rows xs l ∧ 0 ≤ sm ∧ sm ≤ l * 1099511627776) _ _ _ _ ⟨0, _, rfl, rfl, HLe.refl _, rfl, Nat.zero_le _, rfl, Int.le_refl _, (show (0 : Int) ≤ ((0 : Nat) : Int) * 1099511627776 by decide)⟩ (.cons rfl (.cons rfl (.cons rfl (.cons rfl (.cons rfl (.cons rfl (.cons rfl .nil))))))) (HLe.refl _) rfl ?_
        rintro mz E J2 loc' ⟨l, sm, rfl, rfl, hJ, rfl, hl, hsm, hs1, hs2⟩
        have hS := hS.mono hJ
        have hVn := hVn.mono hJ
        have hV := hV.mono hJ
        have hH := hH.mono hJ
        have hDb := hDb.mono hJ
        have hB2 := hB2.mono hJ
        have hB3 := hB3.mono hJ
        have hB7 := hB7.mono hJ
        have hIc := hIc.trans hJ
        have hB0 := hJ
        refine X_seq ?_
        refine X_region ?_
        refine XO_v0 (ev_cmp rfl rfl rfl) rfl rfl rfl ?_
        refine XO_nil ?_
        refine at_then ?_
        refine X_seq ?_
        refine X_cond rfl (fun hc42 => ?_) (fun hc42 => ?_)
        · skip
          have hlt_l : l < x0.n := by have h := hc42; simp at h; omega
          refine X_skip ?_
          refine at_then ?_
          refine X_seq ?_
          refine X_block ?_
          refine X_seq ?_
          refine X_region ?_
          refine XO_v0 (ev_move rfl) rfl rfl rfl ?_
          refine XO_v0 (ev_assign rfl) rfl rfl rfl ?_
          refine XO_nil ?_
          refine at_then ?_
          refine X_seq ?_
          refine X_region ?_
          refine XO_buildSlice (ps := [(0, _)]) (m := [encI (0 : Int)]) elt_22 rfl (.cons rfl (.nil)) rfl (by simp [encH_len, encI_len]) (by decide) (by decide) rfl rfl (fun b_44 => ?_)
          refine XO_alloc zt_22 rfl rfl (fun b_10 => ?_)
          refine XO_store rfl rfl szt_22 rfl rfl (by first | exact Upd.u0 | exact Upd.u1 | exact Upd.u2 | exact Upd.u3 | exact Upd.u4 | exact Upd.u5 | (repeat (first | exact Upd.here | apply Upd.there | apply upd_app))) rfl ?_
          refine XO_nil ?_
          refine at_then ?_
          refine X_seq ?_
          refine X_seq ?_
          refine X_region ?_
          refine XO_v0 (ev_load rfl sct_28 (fun hg => by first | exact hB2.any | exact hB3.any | exact hB7.any | exact hC18.any | exact Sl.get0 hH hx0 rfl | exact Sl.get0 hH hx rfl | exact Sl.get0 hQ hu rfl | exact Cell.here rfl | exact Cell.there (Cell.here rfl) | exact Cell.h0 rfl | exact Cell.h1 rfl | exact Cell.h2 rfl | exact Cell.h3 rfl | exact Cell.h4 rfl | exact Cell.h5 rfl | (repeat (first | exact Cell.here rfl | apply Cell.there | apply Cell.app)))) rfl rfl rfl ?_
          refine XO_v0 (ev_lenS rfl slt_28) rfl rfl rfl ?_
          refine XO_v0 (ev_move rfl) rfl rfl rfl ?_
          refine XO_nil ?_
          refine at_then ?_
          refine X_block ?_
          refine X_loopT [(2, _), (3, _), (5, _), (7, _), (8, _), (9, _), (10, _), (40, _), (41, _), (45, _), (46, _)] (.cons rfl (.cons rfl (.cons rfl (.cons rfl (.cons rfl (.cons rfl (.cons rfl (.cons rfl (.cons rfl (.cons rfl (.cons rfl .nil))))))))))) (fun T L0 mz E I' loc' => ∃ (i : Nat) (v10 : Value) (q : Nat) (L : Go.Kn.Loc), mz = rows.length - i ∧ E = (47, .int .i64 i) :: T ∧ J2 = I' ∧ (b_10, .cells #[v10] 22 (0, 0)) :: L = loc' ∧ i ≤ rows.length ∧ OwnS 3 1 v10 q ((stL rows l i).flatMap encI) L ∧ q ≤ i + 1) _ _ _ _ ⟨0, _, 1, [(b_44, _)], rfl, rfl, rfl, rfl, Nat.zero_le _, OwnS.lit rfl (by decide), Nat.le_refl _⟩ (.cons rfl (.cons rfl (.cons rfl (.cons rfl (.cons rfl (.cons rfl (.cons rfl (.cons rfl (.cons rfl (.cons rfl (.cons rfl (.cons rfl .nil)))))))))))) (HLe.refl _) rfl ?_
          rintro mz E I' loc' ⟨i, v10, q, L, rfl, rfl, rfl, rfl, hi, hO, hq⟩
          obtain ⟨va, vc, rfl⟩ := valn hO
          refine X_seq ?_
          refine X_region ?_
          refine XO_v0 (ev_cmp rfl rfl rfl) rfl rfl rfl ?_
          refine XO_nil ?_
          refine at_then ?_
          refine X_seq ?_
          refine X_cond rfl (fun hc48 => ?_) (fun hc48 => ?_)
          · skip
            have hlt_i : i < rows.length := by have h := hc48; simp at h; omega
            obtain ⟨x, v, hx, hv, hQ⟩ := hV.at hlt_i
            have hlv : l < v.length := by rw [(hrr v (List.mem_of_getElem? hv)).1]; omega
            have hu := some_getD (d := 0) rfl hlv
            have hvn := hQ.len
            have hUF : uF rows l i = v.getD l 0 := by unfold uF; rw [getD_of hv]
            refine X_skip ?_
            refine at_then ?_
            refine X_seq ?_
            refine X_block ?_
            refine X_seq ?_
            refine X_region ?_
            refine XO_v0 (ev_indexSl rfl rfl slt_28 hH (fun hg => by first | omega | (simp [conj] at hg; omega))) rfl rfl rfl ?_
            refine XO_v0 (ev_load rfl sct_22 (fun hg => by first | exact hB2.any | exact hB3.any | exact hB7.any | exact hC18.any | exact Sl.get0 hH hx0 rfl | exact Sl.get0 hH hx rfl | exact Sl.get0 hQ hu rfl | exact Cell.here rfl | exact Cell.there (Cell.here rfl) | exact Cell.h0 rfl | exact Cell.h1 rfl | exact Cell.h2 rfl | exact Cell.h3 rfl | exact Cell.h4 rfl | exact Cell.h5 rfl | (repeat (first | exact Cell.here rfl | apply Cell.there | apply Cell.app)))) rfl rfl rfl ?_
            refine XO_v0 (ev_assign rfl) rfl rfl rfl ?_
            refine XO_nil ?_
            refine at_then ?_
            refine X_seq ?_
            refine X_region ?_
            refine XO_v0 (ev_move rfl) rfl rfl rfl ?_
            refine XO_v0 (ev_move rfl) rfl rfl rfl ?_
            refine XO_v0 (ev_indexSl rfl rfl slt_22 hQ (fun hg => by first | omega | (simp [conj] at hg; omega))) rfl rfl rfl ?_
            refine XO_v0 (ev_load rfl sct_3 (fun hg => by first | exact hB2.any | exact hB3.any | exact hB7.any | exact hC18.any | exact Sl.get0 hH hx0 rfl | exact Sl.get0 hH hx rfl | exact Sl.get0 hQ hu rfl | exact Cell.here rfl | exact Cell.there (Cell.here rfl) | exact Cell.h0 rfl | exact Cell.h1 rfl | exact Cell.h2 rfl | exact Cell.h3 rfl | exact Cell.h4 rfl | exact Cell.h5 rfl | (repeat (first | exact Cell.here rfl | apply Cell.there | apply Cell.app)))) rfl rfl rfl ?_
            refine XO_v0 (ev_cmp rfl rfl rfl) rfl rfl rfl ?_
            refine XO_nil ?_
            refine at_then ?_
            refine X_cond rfl (fun hc55 => ?_) (fun hc55 => ?_)
            · skip
              have hne : uF rows l i ≠ 8589934592 := by rw [hUF]; simpa using hc55
              have hD := HLe.refl J2
              refine X_noP ?_
              refine X_drawS J2 [] mixed ?_
              refine XD_take 1 rfl (ev_move rfl) (.none rfl) rfl rfl rfl (by kernel_rfl) (by kernel_rfl) (by kernel_rfl) noP_ok hD (by repeat (first | exact .refl | exact subL_nil | refine .keep ?_ | refine .drop ?_ | refine subL_add ?_)) ?_
              refine XD_take 2 rfl (ev_move rfl) (.none rfl) rfl rfl rfl (by kernel_rfl) (by kernel_rfl) (by kernel_rfl) noP_ok hD (by repeat (first | exact .refl | exact subL_nil | refine .keep ?_ | refine .drop ?_ | refine subL_add ?_)) ?_
              refine XD_take 3 rfl (ev_indexSl rfl rfl slt_22 hQ (fun hg => by first | omega | (simp [conj] at hg; omega))) (.none rfl) rfl rfl rfl (by kernel_rfl) (by kernel_rfl) (by kernel_rfl) noP_ok hD (by repeat (first | exact .refl | exact subL_nil | refine .keep ?_ | refine .drop ?_ | refine subL_add ?_)) ?_
              refine XD_take 4 rfl (ev_load rfl sct_3 (fun hg => by first | exact hB2.any | exact hB3.any | exact hB7.any | exact hC18.any | exact Sl.get0 hH hx0 rfl | exact Sl.get0 hH hx rfl | exact Sl.get0 hQ hu rfl | exact Cell.here rfl | exact Cell.there (Cell.here rfl) | exact Cell.h0 rfl | exact Cell.h1 rfl | exact Cell.h2 rfl | exact Cell.h3 rfl | exact Cell.h4 rfl | exact Cell.h5 rfl | (repeat (first | exact Cell.here rfl | apply Cell.there | apply Cell.app)))) (.none rfl) rfl rfl rfl (by kernel_rfl) (by kernel_rfl) (by kernel_rfl) noP_ok hD (by repeat (first | exact .refl | exact subL_nil | refine .keep ?_ | refine .drop ?_ | refine subL_add ?_)) ?_
              refine XD_two 0 5 rfl rfl (by kernel_rfl) ?_ ?_
              · skip
                refine XO_v0 (ev_load rfl sct_22 (fun hg => by first | exact hB2.any | exact hB3.any | exact hB7.any | exact hC18.any | exact Sl.get0 hH hx0 rfl | exact Sl.get0 hH hx rfl | exact Sl.get0 hQ hu rfl | exact Cell.here rfl | exact Cell.there (Cell.here rfl) | exact Cell.h0 rfl | exact Cell.h1 rfl | exact Cell.h2 rfl | exact Cell.h3 rfl | exact Cell.h4 rfl | exact Cell.h5 rfl | (repeat (first | exact Cell.here rfl | apply Cell.there | apply Cell.app)))) rfl rfl rfl ?_
                refine XO_nil ?_
                refine at_D hD (by repeat (first | exact .refl | exact subL_nil | refine .keep ?_ | refine .drop ?_ | refine subL_add ?_)) ?_
                refine XD_one 5 rfl (by kernel_rfl) ?_
                refine XO_buildSlice (ps := [(0, _)]) (m := [encI (v.getD l 0)]) elt_22 rfl (.cons rfl (.nil)) rfl (by simp [encH_len, encI_len]) (by decide) (by decide) rfl rfl (fun b_61 => ?_)
                refine XO_nil ?_
                refine at_D hD (by repeat (first | exact .refl | exact subL_nil | refine .keep ?_ | refine .drop ?_ | refine subL_add ?_)) ?_
                refine XD_one 6 rfl (by kernel_rfl) ?_
                refine XO_append (v := _) (ys := [v.getD l 0].flatMap encI) (L := L) rfl rfl elt_22 hO (by repeat (first | exact .cons .here .nil | exact split_all | exact split_app | apply split_cons | apply split_skip)) ⟨rfl, fun _ => rfl, by repeat (first | exact Cells.here | apply Cells.there | apply Cells.app)⟩ (one_I [v.getD l 0]) (by omega) rfl rfl ?_
                intro v9 L9 hO9 _; rw [← List.flatMap_append] at hO9; obtain ⟨va9, vc9, rfl⟩ := valn hO9
                refine XO_nil ?_
                refine at_D hD (by repeat (first | exact .refl | exact subL_nil | refine .keep ?_ | refine .drop ?_ | refine subL_add ?_)) ?_
                refine XD_one 7 rfl (by kernel_rfl) ?_
                refine XO_store rfl rfl szt_22 rfl rfl (by first | exact Upd.u0 | exact Upd.u1 | exact Upd.u2 | exact Upd.u3 | exact Upd.u4 | exact Upd.u5 | (repeat (first | exact Upd.here | apply Upd.there | apply upd_app))) rfl ?_
                refine XO_nil ?_
                refine at_D hD (by repeat (first | exact .refl | exact subL_nil | refine .keep ?_ | refine .drop ?_ | refine subL_add ?_)) ?_
                refine XD_done (by kernel_rfl) ?_
                refine at_noP ?_
                refine at_block_n ?_
                refine at_then ?_
                refine X_region ?_
                refine XO_v0 (ev_arB rfl rfl rfl (fun hg => by first | omega | (simp [conj] at hg; omega))) rfl rfl rfl ?_
                refine XO_v0 (ev_move rfl) rfl rfl rfl ?_
                refine XO_nil ?_
                first
                | exact at_met2 _ _ ⟨rows.length - (i + 1), by omega, i + 1, _, q, L, rfl, rfl, rfl, rfl, by omega, by rw [sl_no heq]; exact hO, by omega⟩ (.cons rfl (.cons rfl (.cons rfl (.cons rfl (.cons rfl (.cons rfl (.cons rfl (.cons rfl (.cons rfl (.cons rfl (.cons rfl (.cons rfl .nil)))))))))))) (by repeat (first | exact .refl | exact subL_left | refine subL_app ?_ | refine .drop ?_ | refine subL_add ?_))
                | exact at_metP _ _ (L9 ++ [(b_10, _)]) ⟨rows.length - (i + 1), by omega, i + 1, _, q + 1, L9, rfl, rfl, rfl, rfl, by omega, by rw [sl_yes hne, hUF]; exact hO9, by omega⟩ (.cons rfl (.cons rfl (.cons rfl (.cons rfl (.cons rfl (.cons rfl (.cons rfl (.cons rfl (.cons rfl (.cons rfl (.cons rfl (.cons rfl .nil)))))))))))) (List.perm_append_comm (l₁ := [_])) (by repeat (first | exact .refl | exact subL_left | refine subL_app ?_ | refine .drop ?_ | refine subL_add ?_))
              · skip
                refine XO_buildSlice (ps := [(0, _)]) (m := [encI (v.getD l 0)]) elt_22 rfl (.cons rfl (.nil)) rfl (by simp [encH_len, encI_len]) (by decide) (by decide) rfl rfl (fun b_61 => ?_)
                refine XO_nil ?_
                refine at_D hD (by repeat (first | exact .refl | exact subL_nil | refine .keep ?_ | refine .drop ?_ | refine subL_add ?_)) ?_
                refine XD_one 0 rfl (by kernel_rfl) ?_
                refine XO_v0 (ev_load rfl sct_22 (fun hg => by first | exact hB2.any | exact hB3.any | exact hB7.any | exact hC18.any | exact Sl.get0 hH hx0 rfl | exact Sl.get0 hH hx rfl | exact Sl.get0 hQ hu rfl | exact Cell.here rfl | exact Cell.there (Cell.here rfl) | exact Cell.h0 rfl | exact Cell.h1 rfl | exact Cell.h2 rfl | exact Cell.h3 rfl | exact Cell.h4 rfl | exact Cell.h5 rfl | (repeat (first | exact Cell.here rfl | apply Cell.there | apply Cell.app)))) rfl rfl rfl ?_
                refine XO_nil ?_
                refine at_D hD (by repeat (first | exact .refl | exact subL_nil | refine .keep ?_ | refine .drop ?_ | refine subL_add ?_)) ?_
                refine XD_one 6 rfl (by kernel_rfl) ?_
                refine XO_append (v := _) (ys := [v.getD l 0].flatMap encI) (L := L) rfl rfl elt_22 hO (by repeat (first | exact .cons .here .nil | exact split_all | exact split_app | apply split_cons | apply split_skip)) ⟨rfl, fun _ => rfl, by repeat (first | exact Cells.here | apply Cells.there | apply Cells.app)⟩ (one_I [v.getD l 0]) (by omega) rfl rfl ?_
                intro v9 L9 hO9 _; rw [← List.flatMap_append] at hO9; obtain ⟨va9, vc9, rfl⟩ := valn hO9
                refine XO_nil ?_
                refine at_D hD (by repeat (first | exact .refl | exact subL_nil | refine .keep ?_ | refine .drop ?_ | refine subL_add ?_)) ?_
                refine XD_one 7 rfl (by kernel_rfl) ?_
                refine XO_store rfl rfl szt_22 rfl rfl (by first | exact Upd.u0 | exact Upd.u1 | exact Upd.u2 | exact Upd.u3 | exact Upd.u4 | exact Upd.u5 | (repeat (first | exact Upd.here | apply Upd.there | apply upd_app))) rfl ?_
                refine XO_nil ?_
                refine at_D hD (by repeat (first | exact .refl | exact subL_nil | refine .keep ?_ | refine .drop ?_ | refine subL_add ?_)) ?_
                refine XD_done (by kernel_rfl) ?_
                refine at_noP ?_
                refine at_block_n ?_
                refine at_then ?_
                refine X_region ?_
                refine XO_v0 (ev_arB rfl rfl rfl (fun hg => by first | omega | (simp [conj] at hg; omega))) rfl rfl rfl ?_
                refine XO_v0 (ev_move rfl) rfl rfl rfl ?_
                refine XO_nil ?_
                first
                | exact at_met2 _ _ ⟨rows.length - (i + 1), by omega, i + 1, _, q, L, rfl, rfl, rfl, rfl, by omega, by rw [sl_no heq]; exact hO, by omega⟩ (.cons rfl (.cons rfl (.cons rfl (.cons rfl (.cons rfl (.cons rfl (.cons rfl (.cons rfl (.cons rfl (.cons rfl (.cons rfl (.cons rfl .nil)))))))))))) (by repeat (first | exact .refl | exact subL_left | refine subL_app ?_ | refine .drop ?_ | refine subL_add ?_))
                | exact at_metP _ _ (L9 ++ [(b_10, _)]) ⟨rows.length - (i + 1), by omega, i + 1, _, q + 1, L9, rfl, rfl, rfl, rfl, by omega, by rw [sl_yes hne, hUF]; exact hO9, by omega⟩ (.cons rfl (.cons rfl (.cons rfl (.cons rfl (.cons rfl (.cons rfl (.cons rfl (.cons rfl (.cons rfl (.cons rfl (.cons rfl (.cons rfl .nil)))))))))))) (List.perm_append_comm (l₁ := [_])) (by repeat (first | exact .refl | exact subL_left | refine subL_app ?_ | refine .drop ?_ | refine subL_add ?_))
            · skip
              have heq : uF rows l i = 8589934592 := by rw [hUF]; simpa using hc55
              refine X_skip ?_
              refine at_block_n ?_
              refine at_then ?_
              refine X_region ?_
              refine XO_v0 (ev_arB rfl rfl rfl (fun hg => by first | omega | (simp [conj] at hg; omega))) rfl rfl rfl ?_
              refine XO_v0 (ev_move rfl) rfl rfl rfl ?_
              refine XO_nil ?_
              first
              | exact at_met2 _ _ ⟨rows.length - (i + 1), by omega, i + 1, _, q, L, rfl, rfl, rfl, rfl, by omega, by rw [sl_no heq]; exact hO, by omega⟩ (.cons rfl (.cons rfl (.cons rfl (.cons rfl (.cons rfl (.cons rfl (.cons rfl (.cons rfl (.cons rfl (.cons rfl (.cons rfl (.cons rfl .nil)))))))))))) (by repeat (first | exact .refl | exact subL_left | refine subL_app ?_ | refine .drop ?_ | refine subL_add ?_))
              | exact at_metP _ _ (L9 ++ [(b_10, _)]) ⟨rows.length - (i + 1), by omega, i + 1, _, q + 1, L9, rfl, rfl, rfl, rfl, by omega, by rw [sl_yes hne, hUF]; exact hO9, by omega⟩ (.cons rfl (.cons rfl (.cons rfl (.cons rfl (.cons rfl (.cons rfl (.cons rfl (.cons rfl (.cons rfl (.cons rfl (.cons rfl (.cons rfl .nil)))))))))))) (List.perm_append_comm (l₁ := [_])) (by repeat (first | exact .refl | exact subL_left | refine subL_app ?_ | refine .drop ?_ | refine subL_add ?_))
          · skip
            have hge_i : rows.length ≤ i := by have h := hc48; simp at h; omega
            rw [show i = rows.length by omega] at hO
            refine X_exit ?_
            refine at_then_e ?_
            refine at_then_e ?_
            refine at_block_hit ?_
            refine at_then ?_
            refine X_seq ?_
            refine X_region ?_
            refine XO_makeMap rfl rfl (fun r_64 => ?_)
            refine XO_alloc zt_42 rfl rfl (fun b_13 => ?_)
            refine XO_store rfl rfl szt_42 rfl rfl (by first | exact Upd.u0 | exact Upd.u1 | exact Upd.u2 | exact Upd.u3 | exact Upd.u4 | exact Upd.u5 | (repeat (first | exact Upd.here | apply Upd.there | apply upd_app))) rfl ?_
            refine XO_nil ?_
            refine at_then ?_
            refine X_seq ?_
            refine X_region ?_
            refine XO_alloc zt_22 rfl rfl (fun b_14 => ?_)
            refine XO_nil ?_
            refine at_then ?_
            refine X_seq ?_
            refine X_seq ?_
            refine X_region ?_
            refine XO_v0 (ev_load rfl sct_28 (fun hg => by first | exact hB2.any | exact hB3.any | exact hB7.any | exact hC18.any | exact Sl.get0 hH hx0 rfl | exact Sl.get0 hH hx rfl | exact Sl.get0 hQ hu rfl | exact Cell.here rfl | exact Cell.there (Cell.here rfl) | exact Cell.h0 rfl | exact Cell.h1 rfl | exact Cell.h2 rfl | exact Cell.h3 rfl | exact Cell.h4 rfl | exact Cell.h5 rfl | (repeat (first | exact Cell.here rfl | apply Cell.there | apply Cell.app)))) rfl rfl rfl ?_
            refine XO_v0 (ev_lenS rfl slt_28) rfl rfl rfl ?_
            refine XO_v0 (ev_move rfl) rfl rfl rfl ?_
            refine XO_nil ?_
            refine at_then ?_
            refine X_block ?_
            refine X_loopT [(2, _), (3, _), (5, _), (7, _), (8, _), (9, _), (10, _), (13, _), (14, _), (40, _), (41, _), (65, _), (66, _)] (.cons rfl (.cons rfl (.cons rfl (.cons rfl (.cons rfl (.cons rfl (.cons rfl (.cons rfl (.cons rfl (.cons rfl (.cons rfl (.cons rfl (.cons rfl .nil))))))))))))) (fun T L0 mz E I' loc' => ∃ (w : Nat) (v14 : Value) (q4 : Nat) (L4 : Go.Kn.Loc) (m : List (Int × Int)), mz = rows.length - w ∧ E = (67, .int .i64 w) :: T ∧ J2 = I' ∧ L4 ++ ((b_14, .cells #[v14] 22 (0, 0)) :: (b_13, .cells #[.map (some r_64)] 42 (0, 0)) :: (r_64, mapO eiv eiv m) :: (b_10, .cells #[.slice va q vc] 22 (0, 0)) :: L) = loc' ∧ w ≤ rows.length ∧ OwnS 3 1 v14 q4 ((opL rows l w).flatMap encI) L4 ∧ q4 ≤ w ∧ GivM rows l w m) _ _ _ _ ⟨0, _, 0, [], [], rfl, rfl, rfl, rfl, Nat.zero_le _, OwnS.nil, Nat.le_refl _, givM_0⟩ (.cons rfl (.cons rfl (.cons rfl (.cons rfl (.cons rfl (.cons rfl (.cons rfl (.cons rfl (.cons rfl (.cons rfl (.cons rfl (.cons rfl (.cons rfl (.cons rfl .nil)))))))))))))) (HLe.refl _) rfl ?_
            rintro mz E I' loc' ⟨w, v14, q4, L4, m, rfl, rfl, rfl, rfl, hw, hO4, hq4, hgm⟩
            obtain ⟨va4, vc4, rfl⟩ := valn hO4
            refine X_seq ?_
            refine X_region ?_
            refine XO_v0 (ev_cmp rfl rfl rfl) rfl rfl rfl ?_
            refine XO_nil ?_
            refine at_then ?_
            refine X_seq ?_
            refine X_cond rfl (fun hc68 => ?_) (fun hc68 => ?_)
            · skip
              have hlt_w : w < rows.length := by have h := hc68; simp at h; omega
              obtain ⟨x, v, hx, hv, hQ⟩ := hV.at hlt_w
              have hlv : l < v.length := by rw [(hrr v (List.mem_of_getElem? hv)).1]; omega
              have hu := some_getD (d := 0) rfl hlv
              have hvn := hQ.len
              have hUF : uF rows l w = v.getD l 0 := by unfold uF; rw [getD_of hv]
              have hw6 : w < 6 := by omega
              refine X_skip ?_
              refine at_then ?_
              refine X_seq ?_
              refine X_block ?_
              refine X_seq ?_
              refine X_region ?_
              refine XO_v0 (ev_move rfl) rfl rfl rfl ?_
              refine XO_v0 (ev_indexSl rfl rfl slt_28 hH (fun hg => by first | omega | (simp [conj] at hg; omega))) rfl rfl rfl ?_
              refine XO_v0 (ev_load rfl sct_22 (fun hg => by first | exact hB2.any | exact hB3.any | exact hB7.any | exact hC18.any | exact Sl.get0 hH hx0 rfl | exact Sl.get0 hH hx rfl | exact Sl.get0 hQ hu rfl | exact Cell.here rfl | exact Cell.there (Cell.here rfl) | exact Cell.h0 rfl | exact Cell.h1 rfl | exact Cell.h2 rfl | exact Cell.h3 rfl | exact Cell.h4 rfl | exact Cell.h5 rfl | (repeat (first | exact Cell.here rfl | apply Cell.there | apply Cell.app)))) rfl rfl rfl ?_
              refine XO_v0 (ev_assign rfl) rfl rfl rfl ?_
              refine XO_v0 (ev_assign rfl) rfl rfl rfl ?_
              refine XO_nil ?_
              refine at_then ?_
              refine X_seq ?_
              refine X_region ?_
              refine XO_v0 (ev_move rfl) rfl rfl rfl ?_
              refine XO_v0 (ev_move rfl) rfl rfl rfl ?_
              refine XO_v0 (ev_indexSl rfl rfl slt_22 hQ (fun hg => by first | omega | (simp [conj] at hg; omega))) rfl rfl rfl ?_
              refine XO_v0 (ev_load rfl sct_3 (fun hg => by first | exact hB2.any | exact hB3.any | exact hB7.any | exact hC18.any | exact Sl.get0 hH hx0 rfl | exact Sl.get0 hH hx rfl | exact Sl.get0 hQ hu rfl | exact Cell.here rfl | exact Cell.there (Cell.here rfl) | exact Cell.h0 rfl | exact Cell.h1 rfl | exact Cell.h2 rfl | exact Cell.h3 rfl | exact Cell.h4 rfl | exact Cell.h5 rfl | (repeat (first | exact Cell.here rfl | apply Cell.there | apply Cell.app)))) rfl rfl rfl ?_
              refine XO_v0 (ev_cmp rfl rfl rfl) rfl rfl rfl ?_
              refine XO_nil ?_
              refine at_then ?_
              refine X_cond rfl (fun hc76 => ?_) (fun hc76 => ?_)
              · skip
                have heq : uF rows l w = 8589934592 := by rw [hUF]; simpa using hc76
                have hD := HLe.refl J2
                refine X_noP ?_
                refine X_drawS J2 [] mixed ?_
                refine XD_take 1 rfl (ev_move rfl) (.none rfl) rfl rfl rfl (by kernel_rfl) (by kernel_rfl) (by kernel_rfl) noP_ok hD (by repeat (first | exact .refl | exact subL_nil | refine .keep ?_ | refine .drop ?_ | refine subL_add ?_)) ?_
                refine XD_take 2 rfl (ev_shl rfl rfl (fun hg => by first | decide | omega | (simp [conj] at hg; omega))) (.none rfl) rfl rfl rfl (by kernel_rfl) (by kernel_rfl) (by kernel_rfl) noP_ok hD (by repeat (first | exact .refl | exact subL_nil | refine .keep ?_ | refine .drop ?_ | refine subL_add ?_)) ?_
                refine XD_two 0 3 rfl rfl (by kernel_rfl) ?_ ?_
                · skip
                  refine XO_v0 (ev_load rfl sct_22 (fun hg => by first | exact hB2.any | exact hB3.any | exact hB7.any | exact hC18.any | exact Sl.get0 hH hx0 rfl | exact Sl.get0 hH hx rfl | exact Sl.get0 hQ hu rfl | exact Cell.here rfl | exact Cell.there (Cell.here rfl) | exact Cell.h0 rfl | exact Cell.h1 rfl | exact Cell.h2 rfl | exact Cell.h3 rfl | exact Cell.h4 rfl | exact Cell.h5 rfl | (repeat (first | exact Cell.here rfl | apply Cell.there | apply Cell.app)))) rfl rfl rfl ?_
                  refine XO_nil ?_
                  refine at_D hD (by repeat (first | exact .refl | exact subL_nil | refine .keep ?_ | refine .drop ?_ | refine subL_add ?_)) ?_
                  refine XD_one 3 rfl (by kernel_rfl) ?_
                  refine XO_buildSlice (ps := [(0, _)]) (m := [encI (IntKind.i64.wrap (1 * 2 ^ (min ((w : Nat) : Int).toNat IntKind.i64.bits)))]) elt_22 rfl (.cons rfl (.nil)) rfl (by simp [encH_len, encI_len]) (by decide) (by decide) rfl rfl (fun b_80 => ?_)
                  refine XO_nil ?_
                  refine at_D hD (by repeat (first | exact .refl | exact subL_nil | refine .keep ?_ | refine .drop ?_ | refine subL_add ?_)) ?_
                  refine XD_one 4 rfl (by kernel_rfl) ?_
                  refine XO_append (v := _) (ys := [(IntKind.i64.wrap (1 * 2 ^ (min ((w : Nat) : Int).toNat IntKind.i64.bits)))].flatMap encI) (L := L4) rfl rfl elt_22 hO4 (by repeat (first | exact .cons .here .nil | exact split_all | exact split_app | apply split_cons | apply split_skip)) ⟨rfl, fun _ => rfl, by repeat (first | exact Cells.here | apply Cells.there | apply Cells.app)⟩ (one_I [(IntKind.i64.wrap (1 * 2 ^ (min ((w : Nat) : Int).toNat IntKind.i64.bits)))]) (by omega) rfl rfl ?_
                  intro v9 L9 hO9 _; rw [← List.flatMap_append, shl_at hw6] at hO9; obtain ⟨va9, vc9, rfl⟩ := valn hO9
                  refine XO_nil ?_
                  refine at_D hD (by repeat (first | exact .refl | exact subL_nil | refine .keep ?_ | refine .drop ?_ | refine subL_add ?_)) ?_
                  refine XD_one 5 rfl (by kernel_rfl) ?_
                  refine XO_store rfl rfl szt_22 rfl rfl (by first | exact Upd.u0 | exact Upd.u1 | exact Upd.u2 | exact Upd.u3 | exact Upd.u4 | exact Upd.u5 | (repeat (first | exact Upd.here | apply Upd.there | apply upd_app))) rfl ?_
                  refine XO_nil ?_
                  refine at_D hD (by repeat (first | exact .refl | exact subL_nil | refine .keep ?_ | refine .drop ?_ | refine subL_add ?_)) ?_
                  refine XD_done (by kernel_rfl) ?_
                  refine at_noP ?_
                  refine at_block_n ?_
                  refine at_then ?_
                  refine X_region ?_
                  refine XO_v0 (ev_arB rfl rfl rfl (fun hg => by first | omega | (simp [conj] at hg; omega))) rfl rfl rfl ?_
                  refine XO_v0 (ev_move rfl) rfl rfl rfl ?_
                  refine XO_nil ?_
                  first
                  | exact at_met2 _ _ ⟨rows.length - (w + 1), by omega, w + 1, _, q4 + 1, L9, m, rfl, rfl, rfl, rfl, by omega, by rw [op_yes heq]; exact hO9, by omega, givM_no hgm heq⟩ (.cons rfl (.cons rfl (.cons rfl (.cons rfl (.cons rfl (.cons rfl (.cons rfl (.cons rfl (.cons rfl (.cons rfl (.cons rfl (.cons rfl (.cons rfl (.cons rfl .nil)))))))))))))) (by repeat (first | exact .refl | exact subL_left | refine subL_app ?_ | refine .drop ?_ | refine subL_add ?_))
                  | exact at_met2 _ _ ⟨rows.length - (w + 1), by omega, w + 1, _, q4, L4, _, rfl, rfl, rfl, rfl, by omega, by rw [op_no hne]; exact hO4, by omega, hgm9⟩ (.cons rfl (.cons rfl (.cons rfl (.cons rfl (.cons rfl (.cons rfl (.cons rfl (.cons rfl (.cons rfl (.cons rfl (.cons rfl (.cons rfl (.cons rfl (.cons rfl .nil)))))))))))))) (by repeat (first | exact .refl | exact subL_left | refine subL_app ?_ | refine .drop ?_ | refine subL_add ?_))
                · skip
                  refine XO_buildSlice (ps := [(0, _)]) (m := [encI (IntKind.i64.wrap (1 * 2 ^ (min ((w : Nat) : Int).toNat IntKind.i64.bits)))]) elt_22 rfl (.cons rfl (.nil)) rfl (by simp [encH_len, encI_len]) (by decide) (by decide) rfl rfl (fun b_80 => ?_)
                  refine XO_nil ?_
                  refine at_D hD (by repeat (first | exact .refl | exact subL_nil | refine .keep ?_ | refine .drop ?_ | refine subL_add ?_)) ?_
                  refine XD_one 0 rfl (by kernel_rfl) ?_
                  refine XO_v0 (ev_load rfl sct_22 (fun hg => by first | exact hB2.any | exact hB3.any | exact hB7.any | exact hC18.any | exact Sl.get0 hH hx0 rfl | exact Sl.get0 hH hx rfl | exact Sl.get0 hQ hu rfl | exact Cell.here rfl | exact Cell.there (Cell.here rfl) | exact Cell.h0 rfl | exact Cell.h1 rfl | exact Cell.h2 rfl | exact Cell.h3 rfl | exact Cell.h4 rfl | exact Cell.h5 rfl | (repeat (first | exact Cell.here rfl | apply Cell.there | apply Cell.app)))) rfl rfl rfl ?_
                  refine XO_nil ?_
                  refine at_D hD (by repeat (first | exact .refl | exact subL_nil | refine .keep ?_ | refine .drop ?_ | refine subL_add ?_)) ?_
                  refine XD_one 4 rfl (by kernel_rfl) ?_
                  refine XO_append (v := _) (ys := [(IntKind.i64.wrap (1 * 2 ^ (min ((w : Nat) : Int).toNat IntKind.i64.bits)))].flatMap encI) (L := L4) rfl rfl elt_22 hO4 (by repeat (first | exact .cons .here .nil | exact split_all | exact split_app | apply split_cons | apply split_skip)) ⟨rfl, fun _ => rfl, by repeat (first | exact Cells.here | apply Cells.there | apply Cells.app)⟩ (one_I [(IntKind.i64.wrap (1 * 2 ^ (min ((w : Nat) : Int).toNat IntKind.i64.bits)))]) (by omega) rfl rfl ?_
                  intro v9 L9 hO9 _; rw [← List.flatMap_append, shl_at hw6] at hO9; obtain ⟨va9, vc9, rfl⟩ := valn hO9
                  refine XO_nil ?_
                  refine at_D hD (by repeat (first | exact .refl | exact subL_nil | refine .keep ?_ | refine .drop ?_ | refine subL_add ?_)) ?_
                  refine XD_one 5 rfl (by kernel_rfl) ?_
                  refine XO_store rfl rfl szt_22 rfl rfl (by first | exact Upd.u0 | exact Upd.u1 | exact Upd.u2 | exact Upd.u3 | exact Upd.u4 | exact Upd.u5 | (repeat (first | exact Upd.here | apply Upd.there | apply upd_app))) rfl ?_
                  refine XO_nil ?_
                  refine at_D hD (by repeat (first | exact .refl | exact subL_nil | refine .keep ?_ | refine .drop ?_ | refine subL_add ?_)) ?_
                  refine XD_done (by kernel_rfl) ?_
                  refine at_noP ?_
                  refine at_block_n ?_
                  refine at_then ?_
                  refine X_region ?_
                  refine XO_v0 (ev_arB rfl rfl rfl (fun hg => by first | omega | (simp [conj] at hg; omega))) rfl rfl rfl ?_
                  refine XO_v0 (ev_move rfl) rfl rfl rfl ?_
                  refine XO_nil ?_
                  first
                  | exact at_met2 _ _ ⟨rows.length - (w + 1), by omega, w + 1, _, q4 + 1, L9, m, rfl, rfl, rfl, rfl, by omega, by rw [op_yes heq]; exact hO9, by omega, givM_no hgm heq⟩ (.cons rfl (.cons rfl (.cons rfl (.cons rfl (.cons rfl (.cons rfl (.cons rfl (.cons rfl (.cons rfl (.cons rfl (.cons rfl (.cons rfl (.cons rfl (.cons rfl .nil)))))))))))))) (by repeat (first | exact .refl | exact subL_left | refine subL_app ?_ | refine .drop ?_ | refine subL_add ?_))
                  | exact at_met2 _ _ ⟨rows.length - (w + 1), by omega, w + 1, _, q4, L4, _, rfl, rfl, rfl, rfl, by omega, by rw [op_no hne]; exact hO4, by omega, hgm9⟩ (.cons rfl (.cons rfl (.cons rfl (.cons rfl (.cons rfl (.cons rfl (.cons rfl (.cons rfl (.cons rfl (.cons rfl (.cons rfl (.cons rfl (.cons rfl (.cons rfl .nil)))))))))))))) (by repeat (first | exact .refl | exact subL_left | refine subL_app ?_ | refine .drop ?_ | refine subL_add ?_))
              · skip
                have hne : uF rows l w ≠ 8589934592 := by rw [hUF]; simpa using hc76
                have hgm9 := givM_yes (by omega) hgm
                rw [hUF] at hgm9
                have hD := HLe.refl J2
                refine X_noP ?_
                refine X_drawS J2 [] mixed ?_
                refine XD_take 1 rfl (ev_move rfl) (.none rfl) rfl rfl rfl (by kernel_rfl) (by kernel_rfl) (by kernel_rfl) noP_ok hD (by repeat (first | exact .refl | exact subL_nil | refine .keep ?_ | refine .drop ?_ | refine subL_add ?_)) ?_
                refine XD_take 2 rfl (ev_shl rfl rfl (fun hg => by first | decide | omega | (simp [conj] at hg; omega))) (.none rfl) rfl rfl rfl (by kernel_rfl) (by kernel_rfl) (by kernel_rfl) noP_ok hD (by repeat (first | exact .refl | exact subL_nil | refine .keep ?_ | refine .drop ?_ | refine subL_add ?_)) ?_
                refine XD_take 3 rfl (ev_move rfl) (.none rfl) rfl rfl rfl (by kernel_rfl) (by kernel_rfl) (by kernel_rfl) noP_ok hD (by repeat (first | exact .refl | exact subL_nil | refine .keep ?_ | refine .drop ?_ | refine subL_add ?_)) ?_
                refine XD_take 4 rfl (ev_move rfl) (.none rfl) rfl rfl rfl (by kernel_rfl) (by kernel_rfl) (by kernel_rfl) noP_ok hD (by repeat (first | exact .refl | exact subL_nil | refine .keep ?_ | refine .drop ?_ | refine subL_add ?_)) ?_
                refine XD_take 5 rfl (ev_indexSl rfl rfl slt_22 hQ (fun hg => by first | omega | (simp [conj] at hg; omega))) (.none rfl) rfl rfl rfl (by kernel_rfl) (by kernel_rfl) (by kernel_rfl) noP_ok hD (by repeat (first | exact .refl | exact subL_nil | refine .keep ?_ | refine .drop ?_ | refine subL_add ?_)) ?_
                refine XD_take 6 rfl (ev_load rfl sct_3 (fun hg => by first | exact hB2.any | exact hB3.any | exact hB7.any | exact hC18.any | exact Sl.get0 hH hx0 rfl | exact Sl.get0 hH hx rfl | exact Sl.get0 hQ hu rfl | exact Cell.here rfl | exact Cell.there (Cell.here rfl) | exact Cell.h0 rfl | exact Cell.h1 rfl | exact Cell.h2 rfl | exact Cell.h3 rfl | exact Cell.h4 rfl | exact Cell.h5 rfl | (repeat (first | exact Cell.here rfl | apply Cell.there | apply Cell.app)))) (.none rfl) rfl rfl rfl (by kernel_rfl) (by kernel_rfl) (by kernel_rfl) noP_ok hD (by repeat (first | exact .refl | exact subL_nil | refine .keep ?_ | refine .drop ?_ | refine subL_add ?_)) ?_
                refine XD_one 0 rfl (by kernel_rfl) ?_
                refine XO_v0 (ev_load rfl sct_42 (fun hg => by first | exact hB2.any | exact hB3.any | exact hB7.any | exact hC18.any | exact Sl.get0 hH hx0 rfl | exact Sl.get0 hH hx rfl | exact Sl.get0 hQ hu rfl | exact Cell.here rfl | exact Cell.there (Cell.here rfl) | exact Cell.h0 rfl | exact Cell.h1 rfl | exact Cell.h2 rfl | exact Cell.h3 rfl | exact Cell.h4 rfl | exact Cell.h5 rfl | (repeat (first | exact Cell.here rfl | apply Cell.there | apply Cell.app)))) rfl rfl rfl ?_
                refine XO_nil ?_
                refine at_D hD (by repeat (first | exact .refl | exact subL_nil | refine .keep ?_ | refine .drop ?_ | refine subL_add ?_)) ?_
                refine XD_one 7 rfl (by kernel_rfl) ?_
                refine XO_mapUpdate (m := m) (ek := eiv) (ev := eiv) (a := (IntKind.i64.wrap (1 * 2 ^ (min ((w : Nat) : Int).toNat IntKind.i64.bits)))) (v.getD l 0) mpt_42 key_3 rfl rfl rfl rfl (by first | exact Upd.u0 | exact Upd.u1 | exact Upd.u2 | exact Upd.u3 | exact Upd.u4 | exact Upd.u5 | (repeat (first | exact Upd.here | apply Upd.there | apply upd_app))) ?_
                refine XO_nil ?_
                refine at_D hD (by repeat (first | exact .refl | exact subL_nil | refine .keep ?_ | refine .drop ?_ | refine subL_add ?_)) ?_
                refine XD_done (by kernel_rfl) ?_
                refine at_noP ?_
                rw [shl_at hw6]
                refine at_block_n ?_
                refine at_then ?_
                refine X_region ?_
                refine XO_v0 (ev_arB rfl rfl rfl (fun hg => by first | omega | (simp [conj] at hg; omega))) rfl rfl rfl ?_
                refine XO_v0 (ev_move rfl) rfl rfl rfl ?_
                refine XO_nil ?_
                first
                | exact at_met2 _ _ ⟨rows.length - (w + 1), by omega, w + 1, _, q4 + 1, L9, m, rfl, rfl, rfl, rfl, by omega, by rw [op_yes heq]; exact hO9, by omega, givM_no hgm heq⟩ (.cons rfl (.cons rfl (.cons rfl (.cons rfl (.cons rfl (.cons rfl (.cons rfl (.cons rfl (.cons rfl (.cons rfl (.cons rfl (.cons rfl (.cons rfl (.cons rfl .nil)))))))))))))) (by repeat (first | exact .refl | exact subL_left | refine subL_app ?_ | refine .drop ?_ | refine subL_add ?_))
                | exact at_met2 _ _ ⟨rows.length - (w + 1), by omega, w + 1, _, q4, L4, _, rfl, rfl, rfl, rfl, by omega, by rw [op_no hne]; exact hO4, by omega, hgm9⟩ (.cons rfl (.cons rfl (.cons rfl (.cons rfl (.cons rfl (.cons rfl (.cons rfl (.cons rfl (.cons rfl (.cons rfl (.cons rfl (.cons rfl (.cons rfl (.cons rfl .nil)))))))))))))) (by repeat (first | exact .refl | exact subL_left | refine subL_app ?_ | refine .drop ?_ | refine subL_add ?_))
            · skip
              have hge_w : rows.length ≤ w := by have h := hc68; simp at h; omega
              rw [show w = rows.length by omega] at hO4 hgm
              refine X_exit ?_
              refine at_then_e ?_
              refine at_then_e ?_
              refine at_block_hit ?_
              refine at_then ?_
              refine X_seq ?_
              refine X_region ?_
              refine XO_v0 (ev_load rfl sct_22 (fun hg => by first | exact hB2.any | exact hB3.any | exact hB7.any | exact hC18.any | exact Sl.get0 hH hx0 rfl | exact Sl.get0 hH hx rfl | exact Sl.get0 hQ hu rfl | exact Cell.here rfl | exact Cell.there (Cell.here rfl) | exact Cell.h0 rfl | exact Cell.h1 rfl | exact Cell.h2 rfl | exact Cell.h3 rfl | exact Cell.h4 rfl | exact Cell.h5 rfl | (repeat (first | exact Cell.here rfl | apply Cell.there | apply Cell.app)))) rfl rfl rfl ?_
              refine XO_v0 (ev_load rfl sct_22 (fun hg => by first | exact hB2.any | exact hB3.any | exact hB7.any | exact hC18.any | exact Sl.get0 hH hx0 rfl | exact Sl.get0 hH hx rfl | exact Sl.get0 hQ hu rfl | exact Cell.here rfl | exact Cell.there (Cell.here rfl) | exact Cell.h0 rfl | exact Cell.h1 rfl | exact Cell.h2 rfl | exact Cell.h3 rfl | exact Cell.h4 rfl | exact Cell.h5 rfl | (repeat (first | exact Cell.here rfl | apply Cell.there | apply Cell.app)))) rfl rfl rfl ?_
              refine XO_append (v := _) (ys := xs.flatMap encI) (L := L4) rfl rfl elt_22 hO4 (by repeat (first | exact .cons .here .nil | exact split_all | exact split_app | apply split_cons | apply split_skip)) (hS.src encI_len) (one_I _) (by omega) rfl rfl ?_
              intro v5 L5 hO5 _; rw [← List.flatMap_append] at hO5; obtain ⟨va5, vc5, rfl⟩ := valn hO5
              refine XO_store rfl rfl szt_22 rfl rfl (by first | exact Upd.u0 | exact Upd.u1 | exact Upd.u2 | exact Upd.u3 | exact Upd.u4 | exact Upd.u5 | (repeat (first | exact Upd.here | apply Upd.there | apply upd_app))) rfl ?_
              refine XO_nil ?_
              refine at_then ?_
              refine X_seq ?_
              refine X_region ?_
              refine XO_alloc zt_3 rfl rfl (fun b_17 => ?_)
              refine XO_store rfl rfl szt_3 rfl rfl (by first | exact Upd.u0 | exact Upd.u1 | exact Upd.u2 | exact Upd.u3 | exact Upd.u4 | exact Upd.u5 | (repeat (first | exact Upd.here | apply Upd.there | apply upd_app))) rfl ?_
              refine XO_nil ?_
              refine at_then ?_
              refine X_seq ?_
              refine X_region ?_
              refine XO_alloc zt_43 rfl rfl (fun b_18 => ?_)
              refine XO_nil ?_
              refine at_then ?_
              refine X_seq ?_
              refine X_region ?_
              refine XO_v0 (ev_makeFunc (us := []) (vs := [_, _, _, _, _, _, _, _]) rfl rfl) rfl rfl rfl ?_
              refine XO_store rfl rfl szt_43 rfl rfl (by first | exact Upd.u0 | exact Upd.u1 | exact Upd.u2 | exact Upd.u3 | exact Upd.u4 | exact Upd.u5 | (repeat (first | exact Upd.here | apply Upd.there | apply upd_app))) rfl ?_
              refine XO_nil ?_
              refine at_then ?_
              refine X_seq ?_
              refine X_seq ?_
              refine X_freezeO hO5 encI_len (by decide) (by repeat (first | exact .cons .here .nil | exact split_all | exact split_app | apply split_cons | apply split_skip)) (fun I5 hI5 af5 cf5 ef5 hOp => ?_)
              cases ef5
              have hS := hS.mono hI5
              have hVn := hVn.mono hI5
              have hV := hV.mono hI5
              have hH := hH.mono hI5
              have hDb := hDb.mono hI5
              have hB2 := hB2.mono hI5
              have hB3 := hB3.mono hI5
              have hB7 := hB7.mono hI5
              have hIc := hIc.trans hI5
              have hB0 := hB0.trans hI5
              refine X_freezeO hO encI_len (by decide) (by repeat (first | exact .cons .here .nil | exact split_all | exact split_app | apply split_cons | apply split_skip)) (fun I6 hI6 af6 cf6 ef6 hSt => ?_)
              cases ef6
              have hS := hS.mono hI6
              have hVn := hVn.mono hI6
              have hV := hV.mono hI6
              have hH := hH.mono hI6
              have hDb := hDb.mono hI6
              have hB2 := hB2.mono hI6
              have hB3 := hB3.mono hI6
              have hB7 := hB7.mono hI6
              have hOp := hOp.mono hI6
              have hIc := hIc.trans hI6
              have hB0 := hB0.trans hI6
              refine X_freeze (b := b_18) (by repeat (first | exact Take.here | apply Take.there)) (fun I7 hI7 hb7 => ?_)
              have hS := hS.mono hI7
              have hVn := hVn.mono hI7
              have hV := hV.mono hI7
              have hH := hH.mono hI7
              have hDb := hDb.mono hI7
              have hB2 := hB2.mono hI7
              have hB3 := hB3.mono hI7
              have hB7 := hB7.mono hI7
              have hOp := hOp.mono hI7
              have hSt := hSt.mono hI7
              have hIc := hIc.trans hI7
              have hB0 := hB0.trans hI7
              have hC18 : Cell I7 [] b_18 0 (.func (.func 26) #[] ([capP b_14, capP b_10, capP b_13, capP b_18, capP b_3, capP b_2, capP b_7, capP b_17]).toArray) := .imm hb7 rfl
              refine X_freeze (b := b_14) (by repeat (first | exact Take.here | apply Take.there)) (fun I8 hI8 hb8 => ?_)
              have hS := hS.mono hI8
              have hVn := hVn.mono hI8
              have hV := hV.mono hI8
              have hH := hH.mono hI8
              have hDb := hDb.mono hI8
              have hB2 := hB2.mono hI8
              have hB3 := hB3.mono hI8
              have hB7 := hB7.mono hI8
              have hOp := hOp.mono hI8
              have hSt := hSt.mono hI8
              have hC18 := hC18.mono hI8
              have hIc := hIc.trans hI8
              have hB0 := hB0.trans hI8
              have hC14 : Cell I8 [] b_14 0 (.slice va5 (q4 + n) vc5) := .imm hb8 rfl
              refine X_freeze (b := b_13) (by repeat (first | exact Take.here | apply Take.there)) (fun I9 hI9 hb9 => ?_)
              have hS := hS.mono hI9
              have hVn := hVn.mono hI9
              have hV := hV.mono hI9
              have hH := hH.mono hI9
              have hDb := hDb.mono hI9
              have hB2 := hB2.mono hI9
              have hB3 := hB3.mono hI9
              have hB7 := hB7.mono hI9
              have hOp := hOp.mono hI9
              have hSt := hSt.mono hI9
              have hC18 := hC18.mono hI9
              have hC14 := hC14.mono hI9
              have hIc := hIc.trans hI9
              have hB0 := hB0.trans hI9
              have hC13 : Cell I9 [] b_13 0 (.map (some r_64)) := .imm hb9 rfl
              refine X_freeze (b := b_10) (by repeat (first | exact Take.here | apply Take.there)) (fun I10 hI10 hb10 => ?_)
              have hS := hS.mono hI10
              have hVn := hVn.mono hI10
              have hV := hV.mono hI10
              have hH := hH.mono hI10
              have hDb := hDb.mono hI10
              have hB2 := hB2.mono hI10
              have hB3 := hB3.mono hI10
              have hB7 := hB7.mono hI10
              have hOp := hOp.mono hI10
              have hSt := hSt.mono hI10
              have hC18 := hC18.mono hI10
              have hC14 := hC14.mono hI10
              have hC13 := hC13.mono hI10
              have hIc := hIc.trans hI10
              have hB0 := hB0.trans hI10
              have hC10 : Cell I10 [] b_10 0 (.slice va q vc) := .imm hb10 rfl
              have hGE : GvE I10 26 25 b_14 b_10 b_13 b_18 b_3 b_2 b_7 r_64 [capP b_14, capP b_10, capP b_13, capP b_18, capP b_3, capP b_2, capP b_7, capP b_17] va5 va av bv (q4 + n) vc5 q vc n c rows.length c2 (opL rows l rows.length ++ xs) (stL rows l rows.length) xs rows := ⟨hC14, hC10, hC13, hC18, hB3, hB2, hB7, hOp, hSt, hS, hVn⟩
              refine X_region ?_
              refine XO_v0 (ev_load rfl sct_43 (fun hg => by first | exact hB2.any | exact hB3.any | exact hB7.any | exact hC18.any | exact Sl.get0 hH hx0 rfl | exact Sl.get0 hH hx rfl | exact Sl.get0 hQ hu rfl | exact Cell.here rfl | exact Cell.there (Cell.here rfl) | exact Cell.h0 rfl | exact Cell.h1 rfl | exact Cell.h2 rfl | exact Cell.h3 rfl | exact Cell.h4 rfl | exact Cell.h5 rfl | (repeat (first | exact Cell.here rfl | apply Cell.there | apply Cell.app)))) rfl rfl rfl ?_
              refine XO_callM (cap := [capP b_14, capP b_10, capP b_13, capP b_18, capP b_3, capP b_2, capP b_7, capP b_17]) (vs := [_]) rfl rfl fun_26 split_all (w_give hGE hn hn2 (by omega) (by omega) hc0 (open_nd hr0 hc0) _ 0 (Nat.zero_add _) m 1048576) rfl rfl ?_
              rintro vv11 I11 L11 hI11 ⟨rfl, rfl, m9, b9, rfl, hgv⟩
              have hS := hS.mono hI11
              have hVn := hVn.mono hI11
              have hV := hV.mono hI11
              have hH := hH.mono hI11
              have hDb := hDb.mono hI11
              have hB2 := hB2.mono hI11
              have hB3 := hB3.mono hI11
              have hB7 := hB7.mono hI11
              have hOp := hOp.mono hI11
              have hSt := hSt.mono hI11
              have hC18 := hC18.mono hI11
              have hC14 := hC14.mono hI11
              have hC13 := hC13.mono hI11
              have hC10 := hC10.mono hI11
              have hIc := hIc.trans hI11
              have hB0 := hB0.trans hI11
              rw [List.append_nil]
              refine XO_v0 (ev_not rfl) rfl rfl rfl ?_
              refine XO_nil ?_
              refine at_then ?_
              refine X_cond rfl (fun hc96 => ?_) (fun hc96 => ?_)
              · skip
                cases hc96
              · skip
                refine X_skip ?_
                refine at_then ?_
                have hb9 := give_min hr0 hc0 (fun y => open_mem y) (fun y => sl_mem) hgm hgv
                have hcap := least_cap (rows := rows) (cl := xs) (k := l) (s := allS rows.length)
                refine X_region ?_
                refine XO_v0 (ev_move rfl) rfl rfl rfl ?_
                refine XO_v0 (ev_load rfl sct_3 (fun hg => by first | exact hB2.any | exact hB3.any | exact hB7.any | exact hC18.any | exact Sl.get0 hH hx0 rfl | exact Sl.get0 hH hx rfl | exact Sl.get0 hQ hu rfl | exact Cell.here rfl | exact Cell.there (Cell.here rfl) | exact Cell.h0 rfl | exact Cell.h1 rfl | exact Cell.h2 rfl | exact Cell.h3 rfl | exact Cell.h4 rfl | exact Cell.h5 rfl | (repeat (first | exact Cell.here rfl | apply Cell.there | apply Cell.app)))) rfl rfl rfl ?_
                refine XO_v0 (ev_arB rfl rfl rfl (fun hg => by first | omega | (simp [conj] at hg; omega))) rfl rfl rfl ?_
                refine XO_v0 (ev_assign rfl) rfl rfl rfl ?_
                refine XO_nil ?_
                refine at_block_n ?_
                refine at_then ?_
                refine X_region ?_
                refine XO_v0 (ev_arB rfl rfl rfl (fun hg => by first | omega | (simp [conj] at hg; omega))) rfl rfl rfl ?_
                refine XO_v0 (ev_move rfl) rfl rfl rfl ?_
                refine XO_nil ?_
                exact at_met2 _ _ ⟨x0.n - (l + 1), by omega, l + 1, _, rfl, rfl, hB0, rfl, by omega, by rw [price_step, hsm, hb9], by omega, by omega⟩ (.cons rfl (.cons rfl (.cons rfl (.cons rfl (.cons rfl (.cons rfl (.cons rfl .nil))))))) (by repeat (first | exact .refl | exact subL_left | refine subL_app ?_ | refine .drop ?_ | refine subL_add ?_))
        · skip
          have hge_l : l = x0.n := by have h := hc42; simp at h; omega
          refine X_exit ?_
          refine at_then_e ?_
          refine at_then_e ?_
          refine at_block_hit ?_
          refine at_then ?_
          refine X_seq ?_
          refine X_region ?_
          refine XO_v0 (ev_move rfl) rfl rfl rfl ?_
          refine XO_v0 (ev_move rfl) rfl rfl rfl ?_
          refine XO_v0 (ev_cmp rfl rfl rfl) rfl rfl rfl ?_
          refine XO_v0 (ev_assign rfl) rfl rfl rfl ?_
          refine XO_nil ?_
          refine at_then ?_
          refine X_ret ?_
          first
          | exact at_ret1 rfl rfl (fun w hw => ⟨by rfl, (hw.mono hIc).drop⟩)
          | exact at_ret1 rfl rfl (fun w hw => ⟨by rw [(cost_3 hr0 hc0).2, hsm, show priceF rows xs = priceK rows xs l by unfold priceF; rw [hg0, hx0l, hge_l]]; simp, (hw.mono hIc).drop⟩)
end Go.Proofs.YtkpmnnflikkhmaaDoor
end
section
namespace Go.Kn
open Go Go.ChangeShapes Go.WideShapes Go.ChangeAt Go.RowKit
/-- All that lies in the world is read only. -/
def heapI (W : World) : HMap := fun b => W.heap[b]?
theorem St.start (W : World) : St W (heapI W) (fun _ => none) [] W :=
  ⟨rfl, rfl, rfl, ⟨Nat.le_refl _, Nat.le_refl _⟩, fun _ _ h => h, (fun _ _ h => by cases h), (fun _ _ h => by cases h), fun _ => .inr rfl, (fun _ _ h => by cases h), by simp⟩
theorem St.below {W w : World} {H : HMap} {loc : Loc} (h : St W (heapI W) H loc w) : Below W.heap.size W w :=
  ⟨h.os, h.tape, h.out, h.size.1, fun k hk => by
    have e : W.heap[k]? = some W.heap[k] := Array.getElem?_eq_getElem hk
    rw [h.imm k _ e, e]⟩
theorem RetV.law {P : Program} {f : FuncId} {args : List Value} {W : World} {v : Value} (h : RetV P f args (heapI W) v) : Calls P f args.toArray W fun e w' => e = .returned v ∧ Below W.heap.size W w' :=
  (h W _ W (St.start W)).mono fun _ _ ⟨he, hs⟩ => ⟨he, hs.below⟩
theorem keptBut_below {W w : World} {may : MemPlace → Prop} (h : Below W.heap.size W w) : W.keptBut w may := by
  refine ⟨h.os, h.output, fun i hi => ?_⟩
  rw [h.block i hi]
  rw [Array.getElem?_eq_getElem hi]
  cases W.heap[i] <;> simp
theorem trodAll_stays {H : Type} {enc : TypeId × Value → H} {P : Program} {W W' : World} (hl : laidOutB P = true) (hB : Below W.heap.size W W') (sp : Nat → Bool) : ∀ (ts : List TypeId) (vs : List Value) (ds : List (DataW H)) (ps : List MemPlace), (∀ t ∈ ts, P.readableRec t = true ∧ t < P.types.size) →
    DataW.TrodAll enc P W 0 (fun _ => true) true ts vs ds ps → (∀ x ∈ ps, x.block < W.heap.size ∧ sp x.block = true) → DataW.TrodAll enc P W' 0 sp true ts vs ds ps
  | [], [], [], ps, _, h, _ => h
  | t :: ts, v :: vs, d :: ds, ps, hr, ⟨p, q, h1, h2, e⟩, hlt => by
    subst e
    exact ⟨p, q, WideElems.Trod_stays hl (hr t (List.mem_cons_self ..)).1 (hr t (List.mem_cons_self ..)).2 h1 (fun x hx => hB.same (hlt x (List.mem_append_left _ hx)).1) (fun x hx => (hlt x (List.mem_append_left _ hx)).2),
      trodAll_stays hl hB sp ts vs ds q (fun t ht => hr t (List.mem_cons_of_mem _ ht)) h2 (fun x hx => hlt x (List.mem_append_right _ hx)), rfl⟩
/-- A law's row: it hands back true; the input reads as it did. -/
theorem post_law {H : Type} {enc : TypeId × Value → H} {P : Program} {f : Func} {s : ChangeSpec} {again : Bool} {W W' : World} {args : Array Value} {ds : List (DataW H)} {before : List MemPlace} {tb : TypeId}
    (hl : laidOutB P = true) (hr : f.resultTypes = #[tb]) (hb : P.underlying tb = some .bool) (hv : s.vars = []) (hs : (s.fn H (ds ++ [])) = { results := [.lit (.bool true)], args := ds }) (hrd : ∀ t ∈ f.params.toList, P.readableRec t = true ∧ t < P.types.size)
    (hW : DataW.Whole enc P f.params.toList s.vars false W args.toList ds [] before) (hB : Below W.heap.size W W') : s.post enc P f false true false again W args (.bool true) W' := by
  have hlt : ∀ x ∈ before, x.block < W.heap.size := fun x hx => by simpa using hW.lt x hx
  have hW0 := hW
  obtain ⟨p, q, hA, hV, rfl, hfz, _⟩ := hW
  rw [hv] at hV
  obtain ⟨_, rfl⟩ := trodVars_none hV
  rw [List.append_nil] at hlt hfz hW0
  have hres : ∀ (b : Nat) (sp : Nat → Bool) (hd : Bool), DataW.TrodAll enc P W' b sp hd f.resultTypes.toList ((Value.bool true).resultList f.resultTypes.size) [.lit (.bool true)] [] := fun b sp hd => by
    rw [hr]; exact trodAll_mk1 (shut_bool hb true)
  have hargs : ∀ sp : Nat → Bool, (∀ x ∈ p, sp x.block = true) → DataW.TrodAll enc P W' 0 sp true f.params.toList args.toList ds p := fun sp h => trodAll_stays hl hB sp _ _ _ _ hrd hA (fun x hx => ⟨hlt x hx, h x hx⟩)
  have hnil : ∀ sp : Nat → Bool, DataW.TrodVars enc P W' sp s.vars [] [] := fun sp => by rw [hv]; rfl
  refine ⟨ds, [], p, [], p, [], hW0, ?_, ?_, ?_, keptBut_below hB, fun _ => ?_⟩
  · rw [hs]; exact hres _ _ _
  · rw [hs]; exact hargs _ (fun x hx => by simpa using hlt x hx)
  · rw [hs]; exact hnil _
  · refine ⟨fun j t r ht hr' => ?_, [.lit (.bool true)] ++ ds, [], [] ++ p, ⟨[] ++ p, [], trodAll_append (hargs _ (fun _ _ => rfl)) (hres _ _ _), hnil _, by simp, ?_, fun h => by cases h⟩, fun x hx _ => by simpa using hx⟩
    · rw [hr] at ht hr'
      cases j with
      | zero => simp [Value.resultList] at ht hr'; subst ht; subst hr'; exact okWide_bool_mk hb _
      | succ j => simp at ht
    · intro b off hx
      rw [hB.frozen (hlt _ (by simpa using hx))]
      exact hfz b off (by simpa using hx)
theorem cell_heap {W : World} {b o : Nat} {u : Value} (h : W.cell? ⟨b, o, none⟩ = some u) : Cell (heapI W) [] b o u := by
  unfold World.cell? at h
  split at h
  · rename_i c t fz hb
    simp only [Option.isSome_none, Bool.false_eq_true, if_false] at h
    exact ⟨c, t, fz, .inl hb, h⟩
  · cases h
/-- A slice that came in, as it is read. -/
theorem open_SlT {H : Type} {enc : TypeId × Value → H} {P : Program} {W : World} {t e : TypeId} {size fuel0 : Nat} {cs : List Value} {x0 : DataW H × List MemPlace} {α : Type} (enc' : α → List Value) (ok : α → Prop)
    (ht : P.underlying t = some (.slice e)) (hc : P.cellsOf e = size) (hpos : 0 < size) (hlen : ∀ y, (enc' y).length = size)
    (hel : ∀ fuel cs x, DataW.trod enc P W 0 (fun _ => true) true fuel e cs = some x → ∃ y, ok y ∧ enc' y = cs)
    (hf' : DataW.trod enc P W 0 (fun _ => true) true fuel0 t cs = some x0) : ∃ av n c xs, cs = [.slice av n c] ∧ Sl (heapI W) size enc' av n c xs ∧ (∀ x ∈ xs, ok x) ∧ c ≤ maxLen := by
  rcases Go.Deep.open_slice ht hf' with ⟨e1, _⟩ | ⟨a, len0, cap0, m, n, D, Pl, e1, hb, hl, hm, hmm, _, hx⟩
  · subst e1
    exact ⟨none, 0, 0, [], rfl, .nil, (fun x hx => by cases hx), Nat.zero_le _⟩
  · subst e1
    have hlm : len0 ≤ m := by rw [hmm]; simp; exact hl
    have each : ∀ i, i < len0 → ∃ y, ok y ∧ W.cells? 0 (a.add (i * size)) size = some (enc' y) := fun i hi => by
      obtain ⟨cs', h1, h2⟩ := hx i (by omega)
      obtain ⟨y, hy, e⟩ := hel _ _ _ h2
      rw [hc] at h1
      exact ⟨y, hy, by rw [h1, e]⟩
    have all : ∀ k, k ≤ len0 → ∃ xs : List α, xs.length = k ∧ ∀ i x, xs[i]? = some x → ok x ∧ W.cells? 0 (a.add (i * size)) size = some (enc' x) := by
      intro k
      induction k with
      | zero => intro _; exact ⟨[], rfl, fun i x h => by simp at h⟩
      | succ k ih =>
        intro hk
        obtain ⟨xs, hl', hxs⟩ := ih (by omega)
        obtain ⟨y, hy, hcy⟩ := each k (by omega)
        refine ⟨xs ++ [y], by simp [hl'], fun i x h => ?_⟩
        by_cases hi : i < xs.length
        · rw [List.getElem?_append_left hi] at h; exact hxs i x h
        · rw [List.getElem?_append_right (by omega)] at h
          have : i = k := by have := (List.getElem?_eq_some_iff.1 h).1; simp at this; omega
          subst this
          rw [hl'] at h; simp at h; subst h
          exact ⟨hy, hcy⟩
    obtain ⟨xs, hl', hxs⟩ := all len0 (Nat.le_refl _)
    have add0 : ∀ (b o n : Nat), (⟨b, o, none⟩ : Addr).add n = ⟨b, o + n, none⟩ := fun b o n => by
      unfold Addr.add
      split
      · rename_i e; subst e; rfl
      · rfl
    have hspot : 0 < xs.length → a.spot = none := fun hx => by
      have hx0 : xs[0]? = some xs[0] := List.getElem?_eq_getElem hx
      have hp0 : 0 < (enc' xs[0]).length := by rw [hlen]; exact hpos
      obtain ⟨_, h1, h2⟩ := World.cells?_some (hxs 0 _ hx0).2
      have h3 := h2 0 hpos
      rw [List.getElem?_eq_getElem hp0] at h3
      simpa [Addr.add] using World.cell?_spot h3
    have cellat : ∀ i x, xs[i]? = some x → ∀ j u, (enc' x)[j]? = some u → W.cell? ⟨a.block, a.off + i * size + j, none⟩ = some u := fun i x hx j u hu => by
      obtain ⟨_, h1, h2⟩ := World.cells?_some (hxs i x hx).2
      have hj : j < size := by rw [← hlen x]; exact (List.getElem?_eq_some_iff.1 hu).1
      have h3 := h2 j hj
      rw [hu] at h3
      have hsp := hspot (by have := (List.getElem?_eq_some_iff.1 hx).1; omega)
      obtain ⟨b, o, sp⟩ := a
      simp only at hsp
      subst hsp
      rw [add0, add0] at h3
      exact h3
    refine ⟨some a, len0, cap0, xs, rfl, ⟨hl', hl, fun hn => ?_, fun k x hx j u hu => ?_⟩, fun x hx => ?_, hm⟩
    · have := hspot (by omega)
      obtain ⟨b, o, sp⟩ := a
      simp only at this
      subst this; rfl
    · exact cell_heap (cellat k x hx j u hu)
    · obtain ⟨i, hi⟩ := List.getElem?_of_mem hx
      exact (hxs i x hi).1
theorem open_Sl {H : Type} {enc : TypeId × Value → H} {P : Program} {W : World} {base : Nat} {t e : TypeId} {size : Nat} {v : Value} {d : DataW H} {p : List MemPlace} {α : Type} (enc' : α → List Value) (ok : α → Prop)
    (ht : P.underlying t = some (.slice e)) (hc : P.cellsOf e = size) (hpos : 0 < size) (hlen : ∀ y, (enc' y).length = size)
    (hel : ∀ fuel cs x, DataW.trod enc P W 0 (fun _ => true) true fuel e cs = some x → ∃ y, ok y ∧ enc' y = cs)
    (hv : Value.okWide P W .any base t v) (h : DataW.Trod enc P W 0 (fun _ => true) true t v d p) : ∃ av n c xs, v = .slice av n c ∧ Sl (heapI W) size enc' av n c xs ∧ (∀ x ∈ xs, ok x) ∧ c ≤ maxLen := by
  obtain ⟨a0, len0, cap0, rfl⟩ := okWide_slice ht hv
  obtain ⟨fuel, hf⟩ := h
  obtain ⟨av, n, c, xs, e, h1, h2, h3⟩ := open_SlT enc' ok ht hc hpos hlen hel (cs := [.slice a0 len0 cap0]) (by simpa [Value.cells] using hf)
  cases e
  exact ⟨_, _, _, xs, rfl, h1, h2, h3⟩
/-- A slice of one-cell ints. -/
theorem el_int {H : Type} {enc : TypeId × Value → H} {P : Program} {W : World} {e : TypeId} {k : IntKind} (he : P.underlying e = some (.int k)) (hk : k = .i64) (fuel : Nat) (cs : List Value) (x : DataW H × List MemPlace) (h : DataW.trod enc P W 0 (fun _ => true) true fuel e cs = some x) :
    ∃ y : Int, (-9223372036854775808 ≤ y ∧ y ≤ 9223372036854775807) ∧ [Value.int .i64 y] = cs := by
  subst hk
  obtain ⟨v, hv⟩ : ∃ v, cs = [v] := by
    have := h
    cases fuel with
    | zero => simp [DataW.trod] at this
    | succ m => unfold DataW.trod at this; rw [he] at this; split at this <;> simp_all
  subst hv
  obtain ⟨n, e, _, w⟩ := DataW.trod_int he h
  cases e
  simp only [Lit.wf, Bool.and_eq_true, decide_eq_true_eq] at w
  exact ⟨n, w, rfl⟩
end Go.Kn
end
section
namespace Go.Proofs.YtkpmnnflikkhmaaDoor
open Go Go.Kn Go.Proofs
open Go.ChangeShapes Go.WideShapes Go.ChangeAt Go.RowKit
set_option maxRecDepth 100000
theorem ound_3 : Tryd.prog.underlying 3 = some (.int .i64) := by kernel_rfl
theorem ound_4 : Tryd.prog.underlying 4 = some .bool := by kernel_rfl
theorem ound_5 : Tryd.prog.underlying 5 = some (.int .u8) := by kernel_rfl
theorem open_ints {H : Type} {enc : TypeId × Value → H} {W : World} {base : Nat} {v : Value} {d : DataW H} {p : List MemPlace} (hv : Value.okWide Tryd.prog W .any base 22 v) (h : DataW.Trod enc Tryd.prog W 0 (fun _ => true) true 22 v d p) :
    ∃ av n c xs, v = .slice av n c ∧ Sl (heapI W) 1 encI av n c xs ∧ n ≤ 9223372036854775807 := by
  obtain ⟨av, n, c, xs, e, hS, _, hm⟩ := open_Sl (e := 3) encI (fun _ => True) (by kernel_rfl) (by kernel_rfl) (by decide) encI_len (fun fuel cs x h => by
    obtain ⟨y, _, e⟩ := el_int ound_3 rfl fuel cs x h
    exact ⟨y, trivial, e⟩) hv h
  exact ⟨av, n, c, xs, e, hS, by have := hS.cap; simp only [maxLen] at hm; omega⟩
theorem heads {I : HMap} : ∀ (hs : List Hd), (∀ h ∈ hs, ∃ v, Sl I 1 encI h.a h.n h.c v) → ∃ vss, RelH I hs vss
  | [], _ => ⟨[], RelH.nil⟩
  | x :: hs, H => by
    obtain ⟨vss, hl, hv⟩ := heads hs fun h hh => H h (List.mem_cons_of_mem _ hh)
    obtain ⟨v0, h0⟩ := H x (List.mem_cons_self ..)
    refine ⟨v0 :: vss, by simp [hl], fun k h v a b => ?_⟩
    cases k with
    | zero => cases a; cases b; exact h0
    | succ k => exact hv k h v a b
theorem open_nest {H : Type} {enc : TypeId × Value → H} {W : World} {base : Nat} {v : Value} {d : DataW H} {p : List MemPlace} (hv : Value.okWide Tryd.prog W .any base 28 v) (h : DataW.Trod enc Tryd.prog W 0 (fun _ => true) true 28 v d p) :
    ∃ av n c vss, v = .slice av n c ∧ SlN (heapI W) av n c vss ∧ n ≤ 9223372036854775807 := by
  obtain ⟨av, n, c, hs, e, hS, hok, hm⟩ := open_Sl (e := 22) encH (fun h => ∃ v, Sl (heapI W) 1 encI h.a h.n h.c v) (by kernel_rfl) (by kernel_rfl) (by decide) encH_len (fun fuel cs x h => by
    obtain ⟨a, m, q, ys, e, hT, _⟩ := open_SlT (t := 22) (e := 3) encI (fun _ => True) (by kernel_rfl) (by kernel_rfl) (by decide) encI_len (fun fuel cs x h => by
      obtain ⟨y, _, e⟩ := el_int ound_3 rfl fuel cs x h
      exact ⟨y, trivial, e⟩) h
    exact ⟨⟨a, m, q⟩, ⟨ys, hT⟩, e.symm⟩) hv h
  obtain ⟨vss, hr⟩ := heads hs hok
  exact ⟨av, n, c, vss, e, ⟨hs, hS, hr⟩, by have := hS.cap; simp only [maxLen] at hm; omega⟩
/-- What the tie lists. -/
def laid2 : List (String × DataW Unit) := [("math/bits.deBruijn32tab", Rows.laid_math_bits_deBruijn32tab), ("math/bits.deBruijn64tab", Rows.laid_math_bits_deBruijn64tab)]
theorem gDeb : Tryd.prog.globalNamed "math/bits.deBruijn64tab" = some 1 := by kernel_rfl
theorem tDeb : (Tryd.prog.globals[1]?).map (·.type) = some 116 := by kernel_rfl
theorem deb_is : (Rows.laid_math_bits_deBruijn64tab : DataW Unit) = Lib.tabData .u8 debT := by rfl
theorem deb_of {W : World} (h : laidMetH Tryd.prog laid2 W) : DebOK (heapI W) := by
  rw [MakeChecks.laidMetH_plain _ _ _ (by kernel_rfl)] at h
  obtain ⟨ps, ⟨g0, t0, cs0, f0, p0, q0, hg0, ht0, hv0, hd0, ⟨g1, t1, cs1, f1, p1, q1, hg1, ht1, hv1, hd1, _, _⟩, _⟩, _, _⟩ := h
  obtain rfl := Option.some.inj (gDeb.symm.trans hg1)
  obtain rfl := Option.some.inj (tDeb.symm.trans ht1)
  rw [deb_is] at hd1
  have hcs := Lib.cells_of_tab (n := 64) (e := 5) (by kernel_rfl) ound_5 (by kernel_rfl) (by kernel_rfl) hd1
  intro i hi
  refine cell_heap ?_
  have := World.var?_cell hg1 hv1 i
  rw [this]
  have hl : i < debT.length := hi
  have e : cs1 = (debT.map fun z => Value.int .u8 z).toArray := Array.ext' hcs
  rw [e]
  simp [List.getD, hl]
/-- The door's own heap meets the condition. -/
theorem door_met (os : Os) (args : Array Value) : laidMetH Tryd.prog laid2 ((World.doorLaid Tryd.prog 400 os).forCall (fun _ _ => 0) ⟨#[], args, []⟩).memory :=
  laidMetH_of_parts3 (fuel := 8) (laidMet_of_run' 8 (by kernel_rfl) (by kernel_rfl)) (by kernel_rfl) (by kernel_rfl)
end Go.Proofs.YtkpmnnflikkhmaaDoor
end
section
namespace Go.Proofs.YtkpmnnflikkhmaaDoor
open Go Go.Kn Go.Proofs
open Go.ChangeShapes Go.WideShapes Go.ChangeAt Go.RowKit
theorem own : ownKnob Tryd.prog.godebug = none := by kernel_rfl
theorem laidOut : laidOutB Tryd.prog = true := by kernel_rfl
set_option maxRecDepth 100000 in
theorem stemmaCost_lifted (os : Os) (started : os.Started) (H : Type) (enc : TypeId × Value → H) :
    ReturnsInHanded {} Tryd.checked os 6 .any (fun w args => (Rows.stemmaCostSpec.pre enc Tryd.prog Tryd.f6 [] false w args ∧ laidMetH Tryd.prog laid2 w) ∧ sizedMet enc Tryd.prog Tryd.f6 (OpenSpec.ofChange Rows.stemmaCostSpec) false w args)
      (Rows.stemmaCostSpec.post enc Tryd.prog Tryd.f6 false true false false) := by
  refine returnsInHanded_of_change_and (C := Tryd.checked) (X := fun w _ => laidMetH Tryd.prog laid2 w) (fun _ _ _ hh h => h.of_heap hh) own started (by kernel_rfl) Tryd.func6
    (ChangeSpec.witness_shaped (enc := enc) (C := Tryd.checked) (os := os) (X := fun w _ => laidMetH Tryd.prog laid2 w) false (World.doorLaid Tryd.prog 400 os) #[.slice none 0 0, .slice none 0 0] 8 rfl (World.shaped_of_RefB (by kernel_rfl) (by kernel_rfl)) (by kernel_rfl) (by kernel_rfl) (by kernel_rfl) (door_met os _)) ?_
  intro W base args ds gs before hval0 hW _ _ hL _
  have hval : ∀ (j : Nat) t v, Tryd.f6.params[j]? = some t → args[j]? = some v → Value.okWide Tryd.prog W .any base t v := hval0
  have hW' := hW
  obtain ⟨p, q, hA0, hV, rfl, hfz, hnd⟩ := hW
  have hA : DataW.TrodAll enc Tryd.prog W 0 (fun _ => true) true Tryd.f6.params.toList args.toList ds p := hA0
  rw [Tryd.params6] at hA hval
  obtain ⟨v0, vs1, d0, ds1, p0, q1, ea, rfl, rfl, h0, hA⟩ := trodAll_cons hA
  obtain ⟨v1, vs2, d1, ds2, p1, q2, rfl, rfl, rfl, h1, hA⟩ := trodAll_cons hA
  obtain ⟨rfl, rfl, rfl⟩ := trodAll_nil hA
  have ea' : args = #[v0, v1] := by rw [← Array.toArray_toList (xs := args), ea]
  subst ea'
  obtain ⟨rfl, rfl⟩ := trodVars_none hV
  have hDb := deb_of hL
  obtain ⟨bv, n2, c2, rows, rfl, hV, hbg⟩ := open_nest (hval 0 28 v0 rfl rfl) h0
  obtain ⟨av, n, c, xs, rfl, hS, hbn⟩ := open_ints (hval 1 22 v1 rfl rfl) h1
  refine (RetV.law (w_costLaw hS hV hbg hDb)).mono fun e W' ⟨he, hB⟩ => ?_
  subst he
  exact ⟨_, rfl, post_law laidOut (by kernel_rfl) ound_4 rfl rfl (by rw [Tryd.params6]; simp only [List.mem_cons, List.not_mem_nil, or_false, forall_eq_or_imp, forall_eq]; exact ⟨⟨by kernel_rfl, of_decide_eq_true (by kernel_rfl)⟩, ⟨by kernel_rfl, of_decide_eq_true (by kernel_rfl)⟩⟩) hW' hB⟩
theorem stemmaCost_row : Rows.StemmaCostSaid :=
  OpenClaim.holds_of_wide 6 Tryd.f6 rfl rfl rfl rfl rfl rfl rfl ⟨rfl, rfl, rfl, rfl, rfl⟩ rfl rfl rfl rfl rfl (by kernel_rfl) Tryd.func6 (by kernel_rfl)
    (of_decide_eq_true (by kernel_rfl)) (by unfold Func.isWrapper; first | (rw [if_pos (by decide +kernel)]; kernel_rfl) | (rw [if_neg (by decide +kernel)]; exact ⟨rfl, rfl⟩))
    (fun os started H enc _ => stemmaCost_lifted os started H enc)
theorem stemmaCost_holds : Rows.StemmaCostCardSaid :=
  Claim7.holds_tied_plain_at .later [] [.data, .data] true (true, "ee01672d72051c55a553832d8f1b557e85fe7de91745a851b14c5bb6cd11ba6c") false
    stemmaCost_row (fun _ h => by cases h) (by kernel_rfl) (fun _ h => by cases h) stemmaCost_row_tie rfl ⟨rfl, rfl⟩ (by kernel_rfl) rfl
    (fun f fn hf hfn => by
      obtain rfl : f = 6 := Option.some.inj ((show Tryd.prog.funcNamed "kinesphere/kinespherelaw42.StemmaCost" = some 6 by kernel_rfl).symm.trans hf) |>.symm
      obtain rfl : fn = Tryd.f6 := (Option.some.inj (Tryd.func6.symm.trans hfn)).symm
      exact ⟨by kernel_rfl, fun j t ht => by
        rw [Tryd.params6] at ht
        have hm : t ∈ [28, 22] := by simpa using Array.mem_of_getElem? ht
        have hall : ([28, 22].all fun u => !Tryd.prog.wantsStandIn u) = true := by kernel_rfl
        exact (show Tryd.prog.wantsStandIn t = false by simpa using List.all_eq_true.1 hall t hm)⟩)
    (by kernel_rfl)
#print axioms stemmaCost_holds
end Go.Proofs.YtkpmnnflikkhmaaDoor
end
