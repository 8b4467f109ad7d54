/- roomsSignsSpec_holds, part C of the proof: what its theorems say holds without further conditions. -/
import Derived.Lib.SlicesCompact
import Derived.Lib.RowBridge
import Derived.Shelf.Small.Bits
import Derived.Shelf.Strconv.Itoa0
import Derived.Shelf.Sort.Plain
import Derived.Ground.Names2Prog
import Derived.Shelf.Slices.Clone
import Derived.Shelf.Slices.CompactI
import Derived.Shelf.Slices.SearchI
import Derived.Shelf.Slices.Cells
import Derived.Shelf.Slices.In.SortNone
import Derived.Shelf.Slices.Empties
import Derived.Ground.SlgnProg
import Derived.Shelf.SlicesE.Clone
import Derived.Shelf.SlicesQ.Reverse
import Derived.Ground.SlsfProg
import Derived.Shelf.SlSortCmp.InsertionK
import Derived.Shelf.SlSortCmp.SiftDownK
import Derived.Shelf.SlSortCmp.HeapSortK
import Derived.Shelf.SlSortCmp.MedianK
import Derived.Shelf.SlSortCmp.PivotK
import Derived.Shelf.SlSortCmp.ReverseRangeK
import Derived.Shelf.SlSortCmp.PartialInsertionK
import Derived.Shelf.SlSortCmp.PartitionEqualK
import Derived.Shelf.SlSortCmp.PartitionK
import Derived.Shelf.SlSortCmp.PdqK
import Derived.Shelf.SlSortCmp.WholeK
import Derived.Shelf.SlSortCmp.NoneTotal
import Derived.Test.YtccomeanpppfmaaGreatProg
import Derived.Test.YtccomeanpppfmaaGreatSignsB
section
namespace Go.Proofs.YtccomeanpppfmaaGreat
open Go Go.Kn Go.Proofs
theorem w_nan (I : HMap) (x : Int) : RetV Tryz.prog 124 [.int .i64 x] I (.bool false) := by
 intro g H w hw
 refine enter Tryz.func124 rfl Tryz.ntmps124 rfl hw ?_
 refine X_seq (X_region ?_)
 refine XO_v0 (ev_assign rfl) rfl rfl rfl ?_
 refine XO_nil (at_then ?_)
 refine X_seq (X_region ?_)
 refine XO_v0 (ev_move rfl) rfl rfl rfl ?_
 refine XO_v0 (ev_move rfl) rfl rfl rfl ?_
 refine XO_v0 (ev_cmp rfl rfl rfl) rfl rfl rfl ?_
 refine XO_v0 (ev_assign rfl) rfl rfl rfl ?_
 refine XO_nil (at_then ?_)
 refine X_ret ?_
 exact at_ret1 rfl rfl (fun w hw => ⟨by simp, hw.drop⟩)
theorem w_cmp (I : HMap) (x y : Int) : RetV Tryz.prog 63 [.int .i64 x, .int .i64 y] I (.int .i64 (cmpF x y)) := by
 intro g H w hw
 refine enter Tryz.func63 rfl Tryz.ntmps63 rfl hw ?_
 refine X_seq (X_region ?_)
 refine XO_v0 (ev_assign rfl) rfl rfl rfl ?_
 refine XO_nil (at_then ?_)
 refine X_seq (X_region ?_)
 refine XO_v0 (ev_move rfl) rfl rfl rfl ?_
 refine XO_callV0 (cap := []) (vs := [_]) rfl rfl fun_124 (w_nan I _) rfl rfl ?_
 refine XO_v0 (ev_assign rfl) rfl rfl rfl ?_
 refine XO_nil (at_then ?_)
 refine X_seq (X_region ?_)
 refine XO_v0 (ev_move rfl) rfl rfl rfl ?_
 refine XO_callV0 (cap := []) (vs := [_]) rfl rfl fun_124 (w_nan I _) rfl rfl ?_
 refine XO_v0 (ev_assign rfl) rfl rfl rfl ?_
 refine XO_nil (at_then ?_)
 refine X_seq ?_
 refine X_seq (X_region ?_)
 refine XO_v0 (ev_move rfl) rfl rfl rfl ?_
 refine XO_nil (at_then ?_)
 refine X_cond rfl (fun hc11 => ?_) (fun hc11 => ?_)
 ·
  cases hc11
 ·
  refine X_skip ?_
  refine at_then ?_
  refine X_seq ?_
  refine X_seq (X_region ?_)
  refine XO_v0 (ev_move rfl) rfl rfl rfl ?_
  refine XO_nil (at_then ?_)
  refine X_cond rfl (fun hc13 => ?_) (fun hc13 => ?_)
  ·
   cases hc13
  ·
   refine X_skip ?_
   refine at_then ?_
   refine X_seq ?_
   refine X_seq (X_region ?_)
   refine XO_v0 (ev_move rfl) rfl rfl rfl ?_
   refine XO_v0 (ev_move rfl) rfl rfl rfl ?_
   refine XO_v0 (ev_cmp rfl rfl rfl) rfl rfl rfl ?_
   refine XO_nil (at_then ?_)
   refine X_cond rfl (fun hc16 => ?_) (fun hc16 => ?_)
   ·
    refine X_seq (X_region ?_)
    refine XO_v0 (ev_assign rfl) rfl rfl rfl ?_
    refine XO_nil (at_then ?_)
    refine X_ret ?_
    refine at_then_r ?_
    exact at_ret1 rfl rfl (fun w hw => ⟨by unfold cmpF; first | (rw [if_pos (by simpa using hc16)]) | (rw [if_neg (by simpa using hc16), if_pos (by simpa using hc19)]) | (rw [if_neg (by simpa using hc16), if_neg (by simpa using hc19)]), hw.drop⟩)
   ·
    refine X_skip ?_
    refine at_then ?_
    refine X_seq ?_
    refine X_seq (X_region ?_)
    refine XO_v0 (ev_move rfl) rfl rfl rfl ?_
    refine XO_v0 (ev_move rfl) rfl rfl rfl ?_
    refine XO_v0 (ev_cmp rfl rfl rfl) rfl rfl rfl ?_
    refine XO_nil (at_then ?_)
    refine X_cond rfl (fun hc19 => ?_) (fun hc19 => ?_)
    ·
     refine X_seq (X_region ?_)
     refine XO_v0 (ev_assign rfl) rfl rfl rfl ?_
     refine XO_nil (at_then ?_)
     refine X_ret ?_
     refine at_then_r ?_
     exact at_ret1 rfl rfl (fun w hw => ⟨by unfold cmpF; first | (rw [if_pos (by simpa using hc16)]) | (rw [if_neg (by simpa using hc16), if_pos (by simpa using hc19)]) | (rw [if_neg (by simpa using hc16), if_neg (by simpa using hc19)]), hw.drop⟩)
    ·
     refine X_skip ?_
     refine at_then ?_
     refine X_seq (X_region ?_)
     refine XO_v0 (ev_assign rfl) rfl rfl rfl ?_
     refine XO_nil (at_then ?_)
     refine X_ret ?_
     exact at_ret1 rfl rfl (fun w hw => ⟨by unfold cmpF; first | (rw [if_pos (by simpa using hc16)]) | (rw [if_neg (by simpa using hc16), if_pos (by simpa using hc19)]) | (rw [if_neg (by simpa using hc16), if_neg (by simpa using hc19)]), hw.drop⟩)
theorem w_mag (I : HMap) (n : Int) (hn : -1073741824 ≤ n ∧ n ≤ 1073741824) : RetV Tryz.prog 145 [.int .i64 n] I (.int .u64 (magI n)) := by
 intro g H w hw
 refine enter Tryz.func145 rfl Tryz.ntmps145 rfl hw ?_
 refine X_seq (X_region ?_)
 refine XO_v0 (ev_assign rfl) rfl rfl rfl ?_
 refine XO_nil (at_then ?_)
 refine X_seq ?_
 refine X_seq (X_region ?_)
 refine XO_v0 (ev_move rfl) rfl rfl rfl ?_
 refine XO_v0 (ev_cmp rfl rfl rfl) rfl rfl rfl ?_
 refine XO_nil (at_then ?_)
 refine X_cond rfl (fun hc4 => ?_) (fun hc4 => ?_)
 ·
  refine X_seq (X_region ?_)
  refine XO_v0 (ev_move rfl) rfl rfl rfl ?_
  refine XO_v0 (ev_convI rfl cvt_3_146) rfl rfl rfl ?_
  refine XO_v0 (ev_negU rfl) rfl rfl rfl ?_
  refine XO_v0 (ev_assign rfl) rfl rfl rfl ?_
  refine XO_nil (at_then ?_)
  refine X_ret ?_
  refine at_then_r ?_
  exact at_ret1 rfl rfl (fun w hw => ⟨by rw [mag_neg hn (by simpa using hc4)], hw.drop⟩)
 ·
  refine X_skip ?_
  refine at_then ?_
  refine X_seq (X_region ?_)
  refine XO_v0 (ev_move rfl) rfl rfl rfl ?_
  refine XO_v0 (ev_convI rfl cvt_3_146) rfl rfl rfl ?_
  refine XO_v0 (ev_assign rfl) rfl rfl rfl ?_
  refine XO_nil (at_then ?_)
  refine X_ret ?_
  exact at_ret1 rfl rfl (fun w hw => ⟨by rw [mag_pos hn (by simpa using hc4)], hw.drop⟩)
theorem w_rem (I : HMap) (a b : Int) : RetM Tryz.prog 179 [.int .u64 a, .int .u64 b] I [] (fun v I' L => I' = I ∧ ∃ b1 b2, v = .func (.func 192) #[] [capP b1, capP b2].toArray ∧ L = remL 146 b1 b2 a b) := by
 intro g H w hw
 refine enter Tryz.func179 rfl Tryz.ntmps179 rfl hw ?_
 refine X_seq (X_region ?_)
 refine XO_box rfl rfl rfl (fun b_2 => ?_)
 refine XO_box rfl rfl rfl (fun b_3 => ?_)
 refine XO_v0 (ev_assign rfl) rfl rfl rfl ?_
 refine XO_nil (at_then ?_)
 refine X_seq (X_region ?_)
 refine XO_v0 (ev_makeFunc (us := []) (vs := [_, _]) rfl rfl) rfl rfl rfl ?_
 refine XO_v0 (ev_assign rfl) rfl rfl rfl ?_
 refine XO_nil (at_then ?_)
 refine X_ret ?_
 exact at_ret1 rfl rfl (fun w hw => ⟨_, I, _, rfl, HLe.refl _, hw, rfl, _, _, rfl, rfl⟩)
theorem w_euclid (I : HMap) (a0 b0 : Nat) (b1 b2 : Nat) (hb0 : 0 < b0) (ha1 : a0 ≤ 9223372036854775807) (hb1 : b0 ≤ 9223372036854775807) : SeqL Tryz.prog 192 [capP b1, capP b2] I (remL 146 b1 b2 (a0) (b0)) (fun n : Nat => .int .u64 n) (remN a0 b0) := by
 intro g l J Jx hY I0 H w h0 hJ hw
 refine enter Tryz.func192 rfl Tryz.ntmps192 rfl hw ?_
 refine X_block ?_
 refine X_loopH (fun m E I' H' loc' => ∃ (a b : Nat) (pre : List Nat), m = b ∧ E = [(0, .func (.yield l) #[] #[]), (1, capP b1), (2, capP b2)] ∧ loc' = remL 146 b1 b2 (a) (b) ∧ HLe I0 I' ∧ J pre I' H' ∧ remN a0 b0 = pre ++ remN a b ∧ 0 < b ∧ a ≤ 9223372036854775807 ∧ b ≤ 9223372036854775807) _ _ _ ⟨a0, b0, [], rfl, rfl, rfl, HLe.refl _, hJ, rfl, hb0, ha1, hb1⟩ (.cons rfl (.cons rfl (.cons rfl .nil))) rfl ?_
 rintro m E I' H' loc' ⟨a, b, pre, hmb, rfl, rfl, hI1, hJk, hrem, hbp, hal, hbl⟩
 subst m
 have hI0 := h0.trans hI1
 refine X_seq ?_
 refine X_seq (X_region ?_)
 refine XO_v0 (ev_load rfl sct_146 (fun hg => by repeat (first | exact Cell.here rfl | apply Cell.there | apply Cell.app))) rfl rfl rfl ?_
 refine XO_v0 (ev_cmp rfl rfl rfl) rfl rfl rfl ?_
 refine XO_v0 (ev_move rfl) rfl rfl rfl ?_
 refine XO_pushT 2 rfl rfl rfl ?_
 refine XO_v1 (ev_move rfl) (.some rfl rfl rfl rfl gbt) rfl rfl rfl ?_
 refine XO_v1 (ev_load rfl sct_146 (fun hg => by repeat (first | exact Cell.here rfl | apply Cell.there | apply Cell.app))) (.some rfl rfl rfl rfl gbt) rfl rfl rfl ?_
 refine XO_yield1 (vs := [_]) (Post := fun t I2 H2 => if t then J (pre ++ [a]) I2 H2 else Jx (pre ++ [a]) I2 H2) rfl rfl (.some rfl rfl rfl rfl gbt) rfl rfl (fun hcj => hY pre a _ _ (rem_pre hrem (by simpa [conj] using hcj)) hI0 hJk) ?_
 rintro t I2 H2 hI2 hyes hno
 refine XO_and0 rfl rfl rfl rfl rfl ?_
 refine XO_nil (at_then ?_)
 refine X_cond rfl (fun hc10 => ?_) (fun hc10 => ?_)
 ·
  have ha0 : a ≠ 0 := by simp at hc10; exact hc10.1
  have ht : t = true := by simp at hc10; exact hc10.2
  subst ht
  have hJ1 : J (pre ++ [a]) I2 H2 := hyes (by simp [conj]; exact ha0)
  refine X_skip ?_
  refine at_then ?_
  refine X_block ?_
  refine X_seq ?_
  have hD := HLe.refl I2
  refine X_noP ?_
  refine X_drawS I2 [] mixed ?_
  refine XD_three 0 1 2 rfl rfl rfl (by kernel_rfl) ?_ ?_ ?_
  ·
   refine XO_v0 (ev_load rfl sct_146 (fun hg => by repeat (first | exact Cell.here rfl | apply Cell.there | apply Cell.app))) rfl rfl rfl ?_
   refine XO_nil ?_
   refine at_D hD (by repeat (first | exact .refl | exact subL_nil | refine .keep ?_ | refine .drop ?_ | refine subL_add ?_)) ?_
   refine XD_two 1 2 rfl rfl (by kernel_rfl) ?_ ?_
   ·
    refine XO_v0 (ev_load rfl sct_146 (fun hg => by repeat (first | exact Cell.here rfl | apply Cell.there | apply Cell.app))) rfl rfl rfl ?_
    refine XO_nil ?_
    refine at_D hD (by repeat (first | exact .refl | exact subL_nil | refine .keep ?_ | refine .drop ?_ | refine subL_add ?_)) ?_
    refine XD_two 2 5 rfl rfl (by kernel_rfl) ?_ ?_
    ·
     refine XO_v0 (ev_load rfl sct_146 (fun hg => by repeat (first | exact Cell.here rfl | apply Cell.there | apply Cell.app))) rfl rfl rfl ?_
     refine XO_nil ?_
     refine at_D hD (by repeat (first | exact .refl | exact subL_nil | refine .keep ?_ | refine .drop ?_ | refine subL_add ?_)) ?_
     refine XD_two 3 5 rfl rfl (by kernel_rfl) ?_ ?_
     ·
      refine XO_v0 (ev_max rfl rfl) rfl rfl rfl ?_
      refine XO_nil ?_
      refine at_D hD (by repeat (first | exact .refl | exact subL_nil | refine .keep ?_ | refine .drop ?_ | refine subL_add ?_)) ?_
      refine XD_two 4 5 rfl rfl (by kernel_rfl) ?_ ?_
      ·
       refine XO_v0 (ev_rem rfl rfl (fun hg => by rw [maxI_one hbp]; omega)) rfl rfl rfl ?_
       refine XO_nil ?_
       refine at_D hD (by repeat (first | exact .refl | exact subL_nil | refine .keep ?_ | refine .drop ?_ | refine subL_add ?_)) ?_
       refine XD_one 5 rfl (by kernel_rfl) ?_
       refine XO_store rfl rfl szt_146 rfl rfl (by repeat (first | exact Upd.here | apply Upd.there | apply upd_app)) rfl ?_
       refine XO_nil ?_
       refine at_D hD (by repeat (first | exact .refl | exact subL_nil | refine .keep ?_ | refine .drop ?_ | refine subL_add ?_)) ?_
       refine XD_one 6 rfl (by kernel_rfl) ?_
       refine XO_store rfl rfl szt_146 rfl rfl (by repeat (first | exact Upd.here | apply Upd.there | apply upd_app)) rfl ?_
       refine XO_nil ?_
       refine at_D hD (by repeat (first | exact .refl | exact subL_nil | refine .keep ?_ | refine .drop ?_ | refine subL_add ?_)) ?_
       refine XD_done (by kernel_rfl) ?_
       refine at_noP ?_
       rw [show ((a : Int)).tmod (maxI (b : Int) 1) = ((a % b : Nat) : Int) by rw [maxI_one hbp, tmod_nat]]
       refine at_then ?_
       refine X_seq (X_region ?_)
       refine XO_v0 (ev_load rfl sct_146 (fun hg => by repeat (first | exact Cell.here rfl | apply Cell.there | apply Cell.app))) rfl rfl rfl ?_
       refine XO_v0 (ev_cmp rfl rfl rfl) rfl rfl rfl ?_
       refine XO_nil (at_then ?_)
       refine X_cond rfl (fun hc17 => ?_) (fun hc17 => ?_)
       ·
        have hab : a % b = 0 := by have h := hc17; simp only [beq_iff_eq] at h; omega
        have hpre2 : (pre ++ [a]) ++ [b] <+: remN a0 b0 := by rw [hrem, remN_end ha0 (by omega) hab, List.append_assoc]; exact List.prefix_rfl
        refine X_seq (X_region ?_)
        refine XO_v0 (ev_move rfl) rfl rfl rfl ?_
        refine XO_v0 (ev_load rfl sct_146 (fun hg => by repeat (first | exact Cell.here rfl | apply Cell.there | apply Cell.app))) rfl rfl rfl ?_
        refine XO_yield0 (vs := [_]) (Post := fun t I3 H3 => if t then J ((pre ++ [a]) ++ [b]) I3 H3 else Jx ((pre ++ [a]) ++ [b]) I3 H3) rfl rfl rfl rfl (hY (pre ++ [a]) b _ _ hpre2 (hI0.trans hI2) hJ1) ?_
        rintro t3 I3 H3 hI3 hP3
        refine XO_nil (at_then ?_)
        refine X_ret ?_
        refine at_block_r ?_
        refine at_then_r ?_
        refine at_block_r ?_
        first
        | (refine at_ret0 rfl (fun w hw => ⟨_, I3, H3, rfl, hI1.trans (hI2.trans hI3), hw.drop, ?_⟩); cases t3 with | true => exact .inl (by rw [hrem, remN_end ha0 (by omega) hab]; simpa using hP3) | false => exact .inr ⟨_, hpre2, hP3⟩)
       ·
        have hab : a % b ≠ 0 := by have h := hc17; simp only [beq_eq_false_iff_ne, ne_eq] at h; omega
        refine X_skip ?_
        refine at_block_n ?_
        exact at_metH2 rfl rfl rfl _ (remL 146 b1 b2 (b) (((a % b : Nat) : Int))) ⟨a % b, Nat.mod_lt _ hbp, b, a % b, pre ++ [a], rfl, rfl, rfl, hI1.trans hI2, hJ1, by rw [hrem, remN_step ha0 (by omega) hab, List.append_assoc]; rfl, by omega, by omega, by have := Nat.mod_lt a hbp; omega⟩ (.cons rfl (.cons rfl (.cons rfl .nil))) .refl
      ·
       refine XO_store rfl rfl szt_146 rfl rfl (by repeat (first | exact Upd.here | apply Upd.there | apply upd_app)) rfl ?_
       refine XO_nil ?_
       refine at_D hD (by repeat (first | exact .refl | exact subL_nil | refine .keep ?_ | refine .drop ?_ | refine subL_add ?_)) ?_
       refine XD_one 4 rfl (by kernel_rfl) ?_
       refine XO_v0 (ev_rem rfl rfl (fun hg => by rw [maxI_one hbp]; omega)) rfl rfl rfl ?_
       refine XO_nil ?_
       refine at_D hD (by repeat (first | exact .refl | exact subL_nil | refine .keep ?_ | refine .drop ?_ | refine subL_add ?_)) ?_
       refine XD_one 6 rfl (by kernel_rfl) ?_
       refine XO_store rfl rfl szt_146 rfl rfl (by repeat (first | exact Upd.here | apply Upd.there | apply upd_app)) rfl ?_
       refine XO_nil ?_
       refine at_D hD (by repeat (first | exact .refl | exact subL_nil | refine .keep ?_ | refine .drop ?_ | refine subL_add ?_)) ?_
       refine XD_done (by kernel_rfl) ?_
       refine at_noP ?_
       rw [show ((a : Int)).tmod (maxI (b : Int) 1) = ((a % b : Nat) : Int) by rw [maxI_one hbp, tmod_nat]]
       refine at_then ?_
       refine X_seq (X_region ?_)
       refine XO_v0 (ev_load rfl sct_146 (fun hg => by repeat (first | exact Cell.here rfl | apply Cell.there | apply Cell.app))) rfl rfl rfl ?_
       refine XO_v0 (ev_cmp rfl rfl rfl) rfl rfl rfl ?_
       refine XO_nil (at_then ?_)
       refine X_cond rfl (fun hc17 => ?_) (fun hc17 => ?_)
       ·
        have hab : a % b = 0 := by have h := hc17; simp only [beq_iff_eq] at h; omega
        have hpre2 : (pre ++ [a]) ++ [b] <+: remN a0 b0 := by rw [hrem, remN_end ha0 (by omega) hab, List.append_assoc]; exact List.prefix_rfl
        refine X_seq (X_region ?_)
        refine XO_v0 (ev_move rfl) rfl rfl rfl ?_
        refine XO_v0 (ev_load rfl sct_146 (fun hg => by repeat (first | exact Cell.here rfl | apply Cell.there | apply Cell.app))) rfl rfl rfl ?_
        refine XO_yield0 (vs := [_]) (Post := fun t I3 H3 => if t then J ((pre ++ [a]) ++ [b]) I3 H3 else Jx ((pre ++ [a]) ++ [b]) I3 H3) rfl rfl rfl rfl (hY (pre ++ [a]) b _ _ hpre2 (hI0.trans hI2) hJ1) ?_
        rintro t3 I3 H3 hI3 hP3
        refine XO_nil (at_then ?_)
        refine X_ret ?_
        refine at_block_r ?_
        refine at_then_r ?_
        refine at_block_r ?_
        first
        | (refine at_ret0 rfl (fun w hw => ⟨_, I3, H3, rfl, hI1.trans (hI2.trans hI3), hw.drop, ?_⟩); cases t3 with | true => exact .inl (by rw [hrem, remN_end ha0 (by omega) hab]; simpa using hP3) | false => exact .inr ⟨_, hpre2, hP3⟩)
       ·
        have hab : a % b ≠ 0 := by have h := hc17; simp only [beq_eq_false_iff_ne, ne_eq] at h; omega
        refine X_skip ?_
        refine at_block_n ?_
        exact at_metH2 rfl rfl rfl _ (remL 146 b1 b2 (b) (((a % b : Nat) : Int))) ⟨a % b, Nat.mod_lt _ hbp, b, a % b, pre ++ [a], rfl, rfl, rfl, hI1.trans hI2, hJ1, by rw [hrem, remN_step ha0 (by omega) hab, List.append_assoc]; rfl, by omega, by omega, by have := Nat.mod_lt a hbp; omega⟩ (.cons rfl (.cons rfl (.cons rfl .nil))) .refl
     ·
      refine XO_store rfl rfl szt_146 rfl rfl (by repeat (first | exact Upd.here | apply Upd.there | apply upd_app)) rfl ?_
      refine XO_nil ?_
      refine at_D hD (by repeat (first | exact .refl | exact subL_nil | refine .keep ?_ | refine .drop ?_ | refine subL_add ?_)) ?_
      refine XD_one 3 rfl (by kernel_rfl) ?_
      refine XO_v0 (ev_max rfl rfl) rfl rfl rfl ?_
      refine XO_nil ?_
      refine at_D hD (by repeat (first | exact .refl | exact subL_nil | refine .keep ?_ | refine .drop ?_ | refine subL_add ?_)) ?_
      refine XD_one 4 rfl (by kernel_rfl) ?_
      refine XO_v0 (ev_rem rfl rfl (fun hg => by rw [maxI_one hbp]; omega)) rfl rfl rfl ?_
      refine XO_nil ?_
      refine at_D hD (by repeat (first | exact .refl | exact subL_nil | refine .keep ?_ | refine .drop ?_ | refine subL_add ?_)) ?_
      refine XD_one 6 rfl (by kernel_rfl) ?_
      refine XO_store rfl rfl szt_146 rfl rfl (by repeat (first | exact Upd.here | apply Upd.there | apply upd_app)) rfl ?_
      refine XO_nil ?_
      refine at_D hD (by repeat (first | exact .refl | exact subL_nil | refine .keep ?_ | refine .drop ?_ | refine subL_add ?_)) ?_
      refine XD_done (by kernel_rfl) ?_
      refine at_noP ?_
      rw [show ((a : Int)).tmod (maxI (b : Int) 1) = ((a % b : Nat) : Int) by rw [maxI_one hbp, tmod_nat]]
      refine at_then ?_
      refine X_seq (X_region ?_)
      refine XO_v0 (ev_load rfl sct_146 (fun hg => by repeat (first | exact Cell.here rfl | apply Cell.there | apply Cell.app))) rfl rfl rfl ?_
      refine XO_v0 (ev_cmp rfl rfl rfl) rfl rfl rfl ?_
      refine XO_nil (at_then ?_)
      refine X_cond rfl (fun hc17 => ?_) (fun hc17 => ?_)
      ·
       have hab : a % b = 0 := by have h := hc17; simp only [beq_iff_eq] at h; omega
       have hpre2 : (pre ++ [a]) ++ [b] <+: remN a0 b0 := by rw [hrem, remN_end ha0 (by omega) hab, List.append_assoc]; exact List.prefix_rfl
       refine X_seq (X_region ?_)
       refine XO_v0 (ev_move rfl) rfl rfl rfl ?_
       refine XO_v0 (ev_load rfl sct_146 (fun hg => by repeat (first | exact Cell.here rfl | apply Cell.there | apply Cell.app))) rfl rfl rfl ?_
       refine XO_yield0 (vs := [_]) (Post := fun t I3 H3 => if t then J ((pre ++ [a]) ++ [b]) I3 H3 else Jx ((pre ++ [a]) ++ [b]) I3 H3) rfl rfl rfl rfl (hY (pre ++ [a]) b _ _ hpre2 (hI0.trans hI2) hJ1) ?_
       rintro t3 I3 H3 hI3 hP3
       refine XO_nil (at_then ?_)
       refine X_ret ?_
       refine at_block_r ?_
       refine at_then_r ?_
       refine at_block_r ?_
       first
       | (refine at_ret0 rfl (fun w hw => ⟨_, I3, H3, rfl, hI1.trans (hI2.trans hI3), hw.drop, ?_⟩); cases t3 with | true => exact .inl (by rw [hrem, remN_end ha0 (by omega) hab]; simpa using hP3) | false => exact .inr ⟨_, hpre2, hP3⟩)
      ·
       have hab : a % b ≠ 0 := by have h := hc17; simp only [beq_eq_false_iff_ne, ne_eq] at h; omega
       refine X_skip ?_
       refine at_block_n ?_
       exact at_metH2 rfl rfl rfl _ (remL 146 b1 b2 (b) (((a % b : Nat) : Int))) ⟨a % b, Nat.mod_lt _ hbp, b, a % b, pre ++ [a], rfl, rfl, rfl, hI1.trans hI2, hJ1, by rw [hrem, remN_step ha0 (by omega) hab, List.append_assoc]; rfl, by omega, by omega, by have := Nat.mod_lt a hbp; omega⟩ (.cons rfl (.cons rfl (.cons rfl .nil))) .refl
    ·
     refine XO_store rfl rfl szt_146 rfl rfl (by repeat (first | exact Upd.here | apply Upd.there | apply upd_app)) rfl ?_
     refine XO_nil ?_
     refine at_D hD (by repeat (first | exact .refl | exact subL_nil | refine .keep ?_ | refine .drop ?_ | refine subL_add ?_)) ?_
     refine XD_one 2 rfl (by kernel_rfl) ?_
     refine XO_v0 (ev_load rfl sct_146 (fun hg => by repeat (first | exact Cell.here rfl | apply Cell.there | apply Cell.app))) rfl rfl rfl ?_
     refine XO_nil ?_
     refine at_D hD (by repeat (first | exact .refl | exact subL_nil | refine .keep ?_ | refine .drop ?_ | refine subL_add ?_)) ?_
     refine XD_one 3 rfl (by kernel_rfl) ?_
     refine XO_v0 (ev_max rfl rfl) rfl rfl rfl ?_
     refine XO_nil ?_
     refine at_D hD (by repeat (first | exact .refl | exact subL_nil | refine .keep ?_ | refine .drop ?_ | refine subL_add ?_)) ?_
     refine XD_one 4 rfl (by kernel_rfl) ?_
     refine XO_v0 (ev_rem rfl rfl (fun hg => by rw [maxI_one hbp]; omega)) rfl rfl rfl ?_
     refine XO_nil ?_
     refine at_D hD (by repeat (first | exact .refl | exact subL_nil | refine .keep ?_ | refine .drop ?_ | refine subL_add ?_)) ?_
     refine XD_one 6 rfl (by kernel_rfl) ?_
     refine XO_store rfl rfl szt_146 rfl rfl (by repeat (first | exact Upd.here | apply Upd.there | apply upd_app)) rfl ?_
     refine XO_nil ?_
     refine at_D hD (by repeat (first | exact .refl | exact subL_nil | refine .keep ?_ | refine .drop ?_ | refine subL_add ?_)) ?_
     refine XD_done (by kernel_rfl) ?_
     refine at_noP ?_
     rw [show ((a : Int)).tmod (maxI (b : Int) 1) = ((a % b : Nat) : Int) by rw [maxI_one hbp, tmod_nat]]
     refine at_then ?_
     refine X_seq (X_region ?_)
     refine XO_v0 (ev_load rfl sct_146 (fun hg => by repeat (first | exact Cell.here rfl | apply Cell.there | apply Cell.app))) rfl rfl rfl ?_
     refine XO_v0 (ev_cmp rfl rfl rfl) rfl rfl rfl ?_
     refine XO_nil (at_then ?_)
     refine X_cond rfl (fun hc17 => ?_) (fun hc17 => ?_)
     ·
      have hab : a % b = 0 := by have h := hc17; simp only [beq_iff_eq] at h; omega
      have hpre2 : (pre ++ [a]) ++ [b] <+: remN a0 b0 := by rw [hrem, remN_end ha0 (by omega) hab, List.append_assoc]; exact List.prefix_rfl
      refine X_seq (X_region ?_)
      refine XO_v0 (ev_move rfl) rfl rfl rfl ?_
      refine XO_v0 (ev_load rfl sct_146 (fun hg => by repeat (first | exact Cell.here rfl | apply Cell.there | apply Cell.app))) rfl rfl rfl ?_
      refine XO_yield0 (vs := [_]) (Post := fun t I3 H3 => if t then J ((pre ++ [a]) ++ [b]) I3 H3 else Jx ((pre ++ [a]) ++ [b]) I3 H3) rfl rfl rfl rfl (hY (pre ++ [a]) b _ _ hpre2 (hI0.trans hI2) hJ1) ?_
      rintro t3 I3 H3 hI3 hP3
      refine XO_nil (at_then ?_)
      refine X_ret ?_
      refine at_block_r ?_
      refine at_then_r ?_
      refine at_block_r ?_
      first
      | (refine at_ret0 rfl (fun w hw => ⟨_, I3, H3, rfl, hI1.trans (hI2.trans hI3), hw.drop, ?_⟩); cases t3 with | true => exact .inl (by rw [hrem, remN_end ha0 (by omega) hab]; simpa using hP3) | false => exact .inr ⟨_, hpre2, hP3⟩)
     ·
      have hab : a % b ≠ 0 := by have h := hc17; simp only [beq_eq_false_iff_ne, ne_eq] at h; omega
      refine X_skip ?_
      refine at_block_n ?_
      exact at_metH2 rfl rfl rfl _ (remL 146 b1 b2 (b) (((a % b : Nat) : Int))) ⟨a % b, Nat.mod_lt _ hbp, b, a % b, pre ++ [a], rfl, rfl, rfl, hI1.trans hI2, hJ1, by rw [hrem, remN_step ha0 (by omega) hab, List.append_assoc]; rfl, by omega, by omega, by have := Nat.mod_lt a hbp; omega⟩ (.cons rfl (.cons rfl (.cons rfl .nil))) .refl
   ·
    refine XO_v0 (ev_load rfl sct_146 (fun hg => by repeat (first | exact Cell.here rfl | apply Cell.there | apply Cell.app))) rfl rfl rfl ?_
    refine XO_nil ?_
    refine at_D hD (by repeat (first | exact .refl | exact subL_nil | refine .keep ?_ | refine .drop ?_ | refine subL_add ?_)) ?_
    refine XD_two 1 3 rfl rfl (by kernel_rfl) ?_ ?_
    ·
     refine XO_v0 (ev_load rfl sct_146 (fun hg => by repeat (first | exact Cell.here rfl | apply Cell.there | apply Cell.app))) rfl rfl rfl ?_
     refine XO_nil ?_
     refine at_D hD (by repeat (first | exact .refl | exact subL_nil | refine .keep ?_ | refine .drop ?_ | refine subL_add ?_)) ?_
     refine XD_two 3 5 rfl rfl (by kernel_rfl) ?_ ?_
     ·
      refine XO_v0 (ev_max rfl rfl) rfl rfl rfl ?_
      refine XO_nil ?_
      refine at_D hD (by repeat (first | exact .refl | exact subL_nil | refine .keep ?_ | refine .drop ?_ | refine subL_add ?_)) ?_
      refine XD_two 4 5 rfl rfl (by kernel_rfl) ?_ ?_
      ·
       refine XO_v0 (ev_rem rfl rfl (fun hg => by rw [maxI_one hbp]; omega)) rfl rfl rfl ?_
       refine XO_nil ?_
       refine at_D hD (by repeat (first | exact .refl | exact subL_nil | refine .keep ?_ | refine .drop ?_ | refine subL_add ?_)) ?_
       refine XD_one 5 rfl (by kernel_rfl) ?_
       refine XO_store rfl rfl szt_146 rfl rfl (by repeat (first | exact Upd.here | apply Upd.there | apply upd_app)) rfl ?_
       refine XO_nil ?_
       refine at_D hD (by repeat (first | exact .refl | exact subL_nil | refine .keep ?_ | refine .drop ?_ | refine subL_add ?_)) ?_
       refine XD_one 6 rfl (by kernel_rfl) ?_
       refine XO_store rfl rfl szt_146 rfl rfl (by repeat (first | exact Upd.here | apply Upd.there | apply upd_app)) rfl ?_
       refine XO_nil ?_
       refine at_D hD (by repeat (first | exact .refl | exact subL_nil | refine .keep ?_ | refine .drop ?_ | refine subL_add ?_)) ?_
       refine XD_done (by kernel_rfl) ?_
       refine at_noP ?_
       rw [show ((a : Int)).tmod (maxI (b : Int) 1) = ((a % b : Nat) : Int) by rw [maxI_one hbp, tmod_nat]]
       refine at_then ?_
       refine X_seq (X_region ?_)
       refine XO_v0 (ev_load rfl sct_146 (fun hg => by repeat (first | exact Cell.here rfl | apply Cell.there | apply Cell.app))) rfl rfl rfl ?_
       refine XO_v0 (ev_cmp rfl rfl rfl) rfl rfl rfl ?_
       refine XO_nil (at_then ?_)
       refine X_cond rfl (fun hc17 => ?_) (fun hc17 => ?_)
       ·
        have hab : a % b = 0 := by have h := hc17; simp only [beq_iff_eq] at h; omega
        have hpre2 : (pre ++ [a]) ++ [b] <+: remN a0 b0 := by rw [hrem, remN_end ha0 (by omega) hab, List.append_assoc]; exact List.prefix_rfl
        refine X_seq (X_region ?_)
        refine XO_v0 (ev_move rfl) rfl rfl rfl ?_
        refine XO_v0 (ev_load rfl sct_146 (fun hg => by repeat (first | exact Cell.here rfl | apply Cell.there | apply Cell.app))) rfl rfl rfl ?_
        refine XO_yield0 (vs := [_]) (Post := fun t I3 H3 => if t then J ((pre ++ [a]) ++ [b]) I3 H3 else Jx ((pre ++ [a]) ++ [b]) I3 H3) rfl rfl rfl rfl (hY (pre ++ [a]) b _ _ hpre2 (hI0.trans hI2) hJ1) ?_
        rintro t3 I3 H3 hI3 hP3
        refine XO_nil (at_then ?_)
        refine X_ret ?_
        refine at_block_r ?_
        refine at_then_r ?_
        refine at_block_r ?_
        first
        | (refine at_ret0 rfl (fun w hw => ⟨_, I3, H3, rfl, hI1.trans (hI2.trans hI3), hw.drop, ?_⟩); cases t3 with | true => exact .inl (by rw [hrem, remN_end ha0 (by omega) hab]; simpa using hP3) | false => exact .inr ⟨_, hpre2, hP3⟩)
       ·
        have hab : a % b ≠ 0 := by have h := hc17; simp only [beq_eq_false_iff_ne, ne_eq] at h; omega
        refine X_skip ?_
        refine at_block_n ?_
        exact at_metH2 rfl rfl rfl _ (remL 146 b1 b2 (b) (((a % b : Nat) : Int))) ⟨a % b, Nat.mod_lt _ hbp, b, a % b, pre ++ [a], rfl, rfl, rfl, hI1.trans hI2, hJ1, by rw [hrem, remN_step ha0 (by omega) hab, List.append_assoc]; rfl, by omega, by omega, by have := Nat.mod_lt a hbp; omega⟩ (.cons rfl (.cons rfl (.cons rfl .nil))) .refl
      ·
       refine XO_store rfl rfl szt_146 rfl rfl (by repeat (first | exact Upd.here | apply Upd.there | apply upd_app)) rfl ?_
       refine XO_nil ?_
       refine at_D hD (by repeat (first | exact .refl | exact subL_nil | refine .keep ?_ | refine .drop ?_ | refine subL_add ?_)) ?_
       refine XD_one 4 rfl (by kernel_rfl) ?_
       refine XO_v0 (ev_rem rfl rfl (fun hg => by rw [maxI_one hbp]; omega)) rfl rfl rfl ?_
       refine XO_nil ?_
       refine at_D hD (by repeat (first | exact .refl | exact subL_nil | refine .keep ?_ | refine .drop ?_ | refine subL_add ?_)) ?_
       refine XD_one 6 rfl (by kernel_rfl) ?_
       refine XO_store rfl rfl szt_146 rfl rfl (by repeat (first | exact Upd.here | apply Upd.there | apply upd_app)) rfl ?_
       refine XO_nil ?_
       refine at_D hD (by repeat (first | exact .refl | exact subL_nil | refine .keep ?_ | refine .drop ?_ | refine subL_add ?_)) ?_
       refine XD_done (by kernel_rfl) ?_
       refine at_noP ?_
       rw [show ((a : Int)).tmod (maxI (b : Int) 1) = ((a % b : Nat) : Int) by rw [maxI_one hbp, tmod_nat]]
       refine at_then ?_
       refine X_seq (X_region ?_)
       refine XO_v0 (ev_load rfl sct_146 (fun hg => by repeat (first | exact Cell.here rfl | apply Cell.there | apply Cell.app))) rfl rfl rfl ?_
       refine XO_v0 (ev_cmp rfl rfl rfl) rfl rfl rfl ?_
       refine XO_nil (at_then ?_)
       refine X_cond rfl (fun hc17 => ?_) (fun hc17 => ?_)
       ·
        have hab : a % b = 0 := by have h := hc17; simp only [beq_iff_eq] at h; omega
        have hpre2 : (pre ++ [a]) ++ [b] <+: remN a0 b0 := by rw [hrem, remN_end ha0 (by omega) hab, List.append_assoc]; exact List.prefix_rfl
        refine X_seq (X_region ?_)
        refine XO_v0 (ev_move rfl) rfl rfl rfl ?_
        refine XO_v0 (ev_load rfl sct_146 (fun hg => by repeat (first | exact Cell.here rfl | apply Cell.there | apply Cell.app))) rfl rfl rfl ?_
        refine XO_yield0 (vs := [_]) (Post := fun t I3 H3 => if t then J ((pre ++ [a]) ++ [b]) I3 H3 else Jx ((pre ++ [a]) ++ [b]) I3 H3) rfl rfl rfl rfl (hY (pre ++ [a]) b _ _ hpre2 (hI0.trans hI2) hJ1) ?_
        rintro t3 I3 H3 hI3 hP3
        refine XO_nil (at_then ?_)
        refine X_ret ?_
        refine at_block_r ?_
        refine at_then_r ?_
        refine at_block_r ?_
        first
        | (refine at_ret0 rfl (fun w hw => ⟨_, I3, H3, rfl, hI1.trans (hI2.trans hI3), hw.drop, ?_⟩); cases t3 with | true => exact .inl (by rw [hrem, remN_end ha0 (by omega) hab]; simpa using hP3) | false => exact .inr ⟨_, hpre2, hP3⟩)
       ·
        have hab : a % b ≠ 0 := by have h := hc17; simp only [beq_eq_false_iff_ne, ne_eq] at h; omega
        refine X_skip ?_
        refine at_block_n ?_
        exact at_metH2 rfl rfl rfl _ (remL 146 b1 b2 (b) (((a % b : Nat) : Int))) ⟨a % b, Nat.mod_lt _ hbp, b, a % b, pre ++ [a], rfl, rfl, rfl, hI1.trans hI2, hJ1, by rw [hrem, remN_step ha0 (by omega) hab, List.append_assoc]; rfl, by omega, by omega, by have := Nat.mod_lt a hbp; omega⟩ (.cons rfl (.cons rfl (.cons rfl .nil))) .refl
     ·
      refine XO_store rfl rfl szt_146 rfl rfl (by repeat (first | exact Upd.here | apply Upd.there | apply upd_app)) rfl ?_
      refine XO_nil ?_
      refine at_D hD (by repeat (first | exact .refl | exact subL_nil | refine .keep ?_ | refine .drop ?_ | refine subL_add ?_)) ?_
      refine XD_one 3 rfl (by kernel_rfl) ?_
      refine XO_v0 (ev_max rfl rfl) rfl rfl rfl ?_
      refine XO_nil ?_
      refine at_D hD (by repeat (first | exact .refl | exact subL_nil | refine .keep ?_ | refine .drop ?_ | refine subL_add ?_)) ?_
      refine XD_one 4 rfl (by kernel_rfl) ?_
      refine XO_v0 (ev_rem rfl rfl (fun hg => by rw [maxI_one hbp]; omega)) rfl rfl rfl ?_
      refine XO_nil ?_
      refine at_D hD (by repeat (first | exact .refl | exact subL_nil | refine .keep ?_ | refine .drop ?_ | refine subL_add ?_)) ?_
      refine XD_one 6 rfl (by kernel_rfl) ?_
      refine XO_store rfl rfl szt_146 rfl rfl (by repeat (first | exact Upd.here | apply Upd.there | apply upd_app)) rfl ?_
      refine XO_nil ?_
      refine at_D hD (by repeat (first | exact .refl | exact subL_nil | refine .keep ?_ | refine .drop ?_ | refine subL_add ?_)) ?_
      refine XD_done (by kernel_rfl) ?_
      refine at_noP ?_
      rw [show ((a : Int)).tmod (maxI (b : Int) 1) = ((a % b : Nat) : Int) by rw [maxI_one hbp, tmod_nat]]
      refine at_then ?_
      refine X_seq (X_region ?_)
      refine XO_v0 (ev_load rfl sct_146 (fun hg => by repeat (first | exact Cell.here rfl | apply Cell.there | apply Cell.app))) rfl rfl rfl ?_
      refine XO_v0 (ev_cmp rfl rfl rfl) rfl rfl rfl ?_
      refine XO_nil (at_then ?_)
      refine X_cond rfl (fun hc17 => ?_) (fun hc17 => ?_)
      ·
       have hab : a % b = 0 := by have h := hc17; simp only [beq_iff_eq] at h; omega
       have hpre2 : (pre ++ [a]) ++ [b] <+: remN a0 b0 := by rw [hrem, remN_end ha0 (by omega) hab, List.append_assoc]; exact List.prefix_rfl
       refine X_seq (X_region ?_)
       refine XO_v0 (ev_move rfl) rfl rfl rfl ?_
       refine XO_v0 (ev_load rfl sct_146 (fun hg => by repeat (first | exact Cell.here rfl | apply Cell.there | apply Cell.app))) rfl rfl rfl ?_
       refine XO_yield0 (vs := [_]) (Post := fun t I3 H3 => if t then J ((pre ++ [a]) ++ [b]) I3 H3 else Jx ((pre ++ [a]) ++ [b]) I3 H3) rfl rfl rfl rfl (hY (pre ++ [a]) b _ _ hpre2 (hI0.trans hI2) hJ1) ?_
       rintro t3 I3 H3 hI3 hP3
       refine XO_nil (at_then ?_)
       refine X_ret ?_
       refine at_block_r ?_
       refine at_then_r ?_
       refine at_block_r ?_
       first
       | (refine at_ret0 rfl (fun w hw => ⟨_, I3, H3, rfl, hI1.trans (hI2.trans hI3), hw.drop, ?_⟩); cases t3 with | true => exact .inl (by rw [hrem, remN_end ha0 (by omega) hab]; simpa using hP3) | false => exact .inr ⟨_, hpre2, hP3⟩)
      ·
       have hab : a % b ≠ 0 := by have h := hc17; simp only [beq_eq_false_iff_ne, ne_eq] at h; omega
       refine X_skip ?_
       refine at_block_n ?_
       exact at_metH2 rfl rfl rfl _ (remL 146 b1 b2 (b) (((a % b : Nat) : Int))) ⟨a % b, Nat.mod_lt _ hbp, b, a % b, pre ++ [a], rfl, rfl, rfl, hI1.trans hI2, hJ1, by rw [hrem, remN_step ha0 (by omega) hab, List.append_assoc]; rfl, by omega, by omega, by have := Nat.mod_lt a hbp; omega⟩ (.cons rfl (.cons rfl (.cons rfl .nil))) .refl
    ·
     refine XO_v0 (ev_max rfl rfl) rfl rfl rfl ?_
     refine XO_nil ?_
     refine at_D hD (by repeat (first | exact .refl | exact subL_nil | refine .keep ?_ | refine .drop ?_ | refine subL_add ?_)) ?_
     refine XD_one 1 rfl (by kernel_rfl) ?_
     refine XO_v0 (ev_load rfl sct_146 (fun hg => by repeat (first | exact Cell.here rfl | apply Cell.there | apply Cell.app))) rfl rfl rfl ?_
     refine XO_nil ?_
     refine at_D hD (by repeat (first | exact .refl | exact subL_nil | refine .keep ?_ | refine .drop ?_ | refine subL_add ?_)) ?_
     refine XD_two 4 5 rfl rfl (by kernel_rfl) ?_ ?_
     ·
      refine XO_v0 (ev_rem rfl rfl (fun hg => by rw [maxI_one hbp]; omega)) rfl rfl rfl ?_
      refine XO_nil ?_
      refine at_D hD (by repeat (first | exact .refl | exact subL_nil | refine .keep ?_ | refine .drop ?_ | refine subL_add ?_)) ?_
      refine XD_one 5 rfl (by kernel_rfl) ?_
      refine XO_store rfl rfl szt_146 rfl rfl (by repeat (first | exact Upd.here | apply Upd.there | apply upd_app)) rfl ?_
      refine XO_nil ?_
      refine at_D hD (by repeat (first | exact .refl | exact subL_nil | refine .keep ?_ | refine .drop ?_ | refine subL_add ?_)) ?_
      refine XD_one 6 rfl (by kernel_rfl) ?_
      refine XO_store rfl rfl szt_146 rfl rfl (by repeat (first | exact Upd.here | apply Upd.there | apply upd_app)) rfl ?_
      refine XO_nil ?_
      refine at_D hD (by repeat (first | exact .refl | exact subL_nil | refine .keep ?_ | refine .drop ?_ | refine subL_add ?_)) ?_
      refine XD_done (by kernel_rfl) ?_
      refine at_noP ?_
      rw [show ((a : Int)).tmod (maxI (b : Int) 1) = ((a % b : Nat) : Int) by rw [maxI_one hbp, tmod_nat]]
      refine at_then ?_
      refine X_seq (X_region ?_)
      refine XO_v0 (ev_load rfl sct_146 (fun hg => by repeat (first | exact Cell.here rfl | apply Cell.there | apply Cell.app))) rfl rfl rfl ?_
      refine XO_v0 (ev_cmp rfl rfl rfl) rfl rfl rfl ?_
      refine XO_nil (at_then ?_)
      refine X_cond rfl (fun hc17 => ?_) (fun hc17 => ?_)
      ·
       have hab : a % b = 0 := by have h := hc17; simp only [beq_iff_eq] at h; omega
       have hpre2 : (pre ++ [a]) ++ [b] <+: remN a0 b0 := by rw [hrem, remN_end ha0 (by omega) hab, List.append_assoc]; exact List.prefix_rfl
       refine X_seq (X_region ?_)
       refine XO_v0 (ev_move rfl) rfl rfl rfl ?_
       refine XO_v0 (ev_load rfl sct_146 (fun hg => by repeat (first | exact Cell.here rfl | apply Cell.there | apply Cell.app))) rfl rfl rfl ?_
       refine XO_yield0 (vs := [_]) (Post := fun t I3 H3 => if t then J ((pre ++ [a]) ++ [b]) I3 H3 else Jx ((pre ++ [a]) ++ [b]) I3 H3) rfl rfl rfl rfl (hY (pre ++ [a]) b _ _ hpre2 (hI0.trans hI2) hJ1) ?_
       rintro t3 I3 H3 hI3 hP3
       refine XO_nil (at_then ?_)
       refine X_ret ?_
       refine at_block_r ?_
       refine at_then_r ?_
       refine at_block_r ?_
       first
       | (refine at_ret0 rfl (fun w hw => ⟨_, I3, H3, rfl, hI1.trans (hI2.trans hI3), hw.drop, ?_⟩); cases t3 with | true => exact .inl (by rw [hrem, remN_end ha0 (by omega) hab]; simpa using hP3) | false => exact .inr ⟨_, hpre2, hP3⟩)
      ·
       have hab : a % b ≠ 0 := by have h := hc17; simp only [beq_eq_false_iff_ne, ne_eq] at h; omega
       refine X_skip ?_
       refine at_block_n ?_
       exact at_metH2 rfl rfl rfl _ (remL 146 b1 b2 (b) (((a % b : Nat) : Int))) ⟨a % b, Nat.mod_lt _ hbp, b, a % b, pre ++ [a], rfl, rfl, rfl, hI1.trans hI2, hJ1, by rw [hrem, remN_step ha0 (by omega) hab, List.append_assoc]; rfl, by omega, by omega, by have := Nat.mod_lt a hbp; omega⟩ (.cons rfl (.cons rfl (.cons rfl .nil))) .refl
     ·
      refine XO_store rfl rfl szt_146 rfl rfl (by repeat (first | exact Upd.here | apply Upd.there | apply upd_app)) rfl ?_
      refine XO_nil ?_
      refine at_D hD (by repeat (first | exact .refl | exact subL_nil | refine .keep ?_ | refine .drop ?_ | refine subL_add ?_)) ?_
      refine XD_one 4 rfl (by kernel_rfl) ?_
      refine XO_v0 (ev_rem rfl rfl (fun hg => by rw [maxI_one hbp]; omega)) rfl rfl rfl ?_
      refine XO_nil ?_
      refine at_D hD (by repeat (first | exact .refl | exact subL_nil | refine .keep ?_ | refine .drop ?_ | refine subL_add ?_)) ?_
      refine XD_one 6 rfl (by kernel_rfl) ?_
      refine XO_store rfl rfl szt_146 rfl rfl (by repeat (first | exact Upd.here | apply Upd.there | apply upd_app)) rfl ?_
      refine XO_nil ?_
      refine at_D hD (by repeat (first | exact .refl | exact subL_nil | refine .keep ?_ | refine .drop ?_ | refine subL_add ?_)) ?_
      refine XD_done (by kernel_rfl) ?_
      refine at_noP ?_
      rw [show ((a : Int)).tmod (maxI (b : Int) 1) = ((a % b : Nat) : Int) by rw [maxI_one hbp, tmod_nat]]
      refine at_then ?_
      refine X_seq (X_region ?_)
      refine XO_v0 (ev_load rfl sct_146 (fun hg => by repeat (first | exact Cell.here rfl | apply Cell.there | apply Cell.app))) rfl rfl rfl ?_
      refine XO_v0 (ev_cmp rfl rfl rfl) rfl rfl rfl ?_
      refine XO_nil (at_then ?_)
      refine X_cond rfl (fun hc17 => ?_) (fun hc17 => ?_)
      ·
       have hab : a % b = 0 := by have h := hc17; simp only [beq_iff_eq] at h; omega
       have hpre2 : (pre ++ [a]) ++ [b] <+: remN a0 b0 := by rw [hrem, remN_end ha0 (by omega) hab, List.append_assoc]; exact List.prefix_rfl
       refine X_seq (X_region ?_)
       refine XO_v0 (ev_move rfl) rfl rfl rfl ?_
       refine XO_v0 (ev_load rfl sct_146 (fun hg => by repeat (first | exact Cell.here rfl | apply Cell.there | apply Cell.app))) rfl rfl rfl ?_
       refine XO_yield0 (vs := [_]) (Post := fun t I3 H3 => if t then J ((pre ++ [a]) ++ [b]) I3 H3 else Jx ((pre ++ [a]) ++ [b]) I3 H3) rfl rfl rfl rfl (hY (pre ++ [a]) b _ _ hpre2 (hI0.trans hI2) hJ1) ?_
       rintro t3 I3 H3 hI3 hP3
       refine XO_nil (at_then ?_)
       refine X_ret ?_
       refine at_block_r ?_
       refine at_then_r ?_
       refine at_block_r ?_
       first
       | (refine at_ret0 rfl (fun w hw => ⟨_, I3, H3, rfl, hI1.trans (hI2.trans hI3), hw.drop, ?_⟩); cases t3 with | true => exact .inl (by rw [hrem, remN_end ha0 (by omega) hab]; simpa using hP3) | false => exact .inr ⟨_, hpre2, hP3⟩)
      ·
       have hab : a % b ≠ 0 := by have h := hc17; simp only [beq_eq_false_iff_ne, ne_eq] at h; omega
       refine X_skip ?_
       refine at_block_n ?_
       exact at_metH2 rfl rfl rfl _ (remL 146 b1 b2 (b) (((a % b : Nat) : Int))) ⟨a % b, Nat.mod_lt _ hbp, b, a % b, pre ++ [a], rfl, rfl, rfl, hI1.trans hI2, hJ1, by rw [hrem, remN_step ha0 (by omega) hab, List.append_assoc]; rfl, by omega, by omega, by have := Nat.mod_lt a hbp; omega⟩ (.cons rfl (.cons rfl (.cons rfl .nil))) .refl
  ·
   refine XO_v0 (ev_load rfl sct_146 (fun hg => by repeat (first | exact Cell.here rfl | apply Cell.there | apply Cell.app))) rfl rfl rfl ?_
   refine XO_nil ?_
   refine at_D hD (by repeat (first | exact .refl | exact subL_nil | refine .keep ?_ | refine .drop ?_ | refine subL_add ?_)) ?_
   refine XD_two 0 2 rfl rfl (by kernel_rfl) ?_ ?_
   ·
    refine XO_v0 (ev_load rfl sct_146 (fun hg => by repeat (first | exact Cell.here rfl | apply Cell.there | apply Cell.app))) rfl rfl rfl ?_
    refine XO_nil ?_
    refine at_D hD (by repeat (first | exact .refl | exact subL_nil | refine .keep ?_ | refine .drop ?_ | refine subL_add ?_)) ?_
    refine XD_two 2 5 rfl rfl (by kernel_rfl) ?_ ?_
    ·
     refine XO_v0 (ev_load rfl sct_146 (fun hg => by repeat (first | exact Cell.here rfl | apply Cell.there | apply Cell.app))) rfl rfl rfl ?_
     refine XO_nil ?_
     refine at_D hD (by repeat (first | exact .refl | exact subL_nil | refine .keep ?_ | refine .drop ?_ | refine subL_add ?_)) ?_
     refine XD_two 3 5 rfl rfl (by kernel_rfl) ?_ ?_
     ·
      refine XO_v0 (ev_max rfl rfl) rfl rfl rfl ?_
      refine XO_nil ?_
      refine at_D hD (by repeat (first | exact .refl | exact subL_nil | refine .keep ?_ | refine .drop ?_ | refine subL_add ?_)) ?_
      refine XD_two 4 5 rfl rfl (by kernel_rfl) ?_ ?_
      ·
       refine XO_v0 (ev_rem rfl rfl (fun hg => by rw [maxI_one hbp]; omega)) rfl rfl rfl ?_
       refine XO_nil ?_
       refine at_D hD (by repeat (first | exact .refl | exact subL_nil | refine .keep ?_ | refine .drop ?_ | refine subL_add ?_)) ?_
       refine XD_one 5 rfl (by kernel_rfl) ?_
       refine XO_store rfl rfl szt_146 rfl rfl (by repeat (first | exact Upd.here | apply Upd.there | apply upd_app)) rfl ?_
       refine XO_nil ?_
       refine at_D hD (by repeat (first | exact .refl | exact subL_nil | refine .keep ?_ | refine .drop ?_ | refine subL_add ?_)) ?_
       refine XD_one 6 rfl (by kernel_rfl) ?_
       refine XO_store rfl rfl szt_146 rfl rfl (by repeat (first | exact Upd.here | apply Upd.there | apply upd_app)) rfl ?_
       refine XO_nil ?_
       refine at_D hD (by repeat (first | exact .refl | exact subL_nil | refine .keep ?_ | refine .drop ?_ | refine subL_add ?_)) ?_
       refine XD_done (by kernel_rfl) ?_
       refine at_noP ?_
       rw [show ((a : Int)).tmod (maxI (b : Int) 1) = ((a % b : Nat) : Int) by rw [maxI_one hbp, tmod_nat]]
       refine at_then ?_
       refine X_seq (X_region ?_)
       refine XO_v0 (ev_load rfl sct_146 (fun hg => by repeat (first | exact Cell.here rfl | apply Cell.there | apply Cell.app))) rfl rfl rfl ?_
       refine XO_v0 (ev_cmp rfl rfl rfl) rfl rfl rfl ?_
       refine XO_nil (at_then ?_)
       refine X_cond rfl (fun hc17 => ?_) (fun hc17 => ?_)
       ·
        have hab : a % b = 0 := by have h := hc17; simp only [beq_iff_eq] at h; omega
        have hpre2 : (pre ++ [a]) ++ [b] <+: remN a0 b0 := by rw [hrem, remN_end ha0 (by omega) hab, List.append_assoc]; exact List.prefix_rfl
        refine X_seq (X_region ?_)
        refine XO_v0 (ev_move rfl) rfl rfl rfl ?_
        refine XO_v0 (ev_load rfl sct_146 (fun hg => by repeat (first | exact Cell.here rfl | apply Cell.there | apply Cell.app))) rfl rfl rfl ?_
        refine XO_yield0 (vs := [_]) (Post := fun t I3 H3 => if t then J ((pre ++ [a]) ++ [b]) I3 H3 else Jx ((pre ++ [a]) ++ [b]) I3 H3) rfl rfl rfl rfl (hY (pre ++ [a]) b _ _ hpre2 (hI0.trans hI2) hJ1) ?_
        rintro t3 I3 H3 hI3 hP3
        refine XO_nil (at_then ?_)
        refine X_ret ?_
        refine at_block_r ?_
        refine at_then_r ?_
        refine at_block_r ?_
        first
        | (refine at_ret0 rfl (fun w hw => ⟨_, I3, H3, rfl, hI1.trans (hI2.trans hI3), hw.drop, ?_⟩); cases t3 with | true => exact .inl (by rw [hrem, remN_end ha0 (by omega) hab]; simpa using hP3) | false => exact .inr ⟨_, hpre2, hP3⟩)
       ·
        have hab : a % b ≠ 0 := by have h := hc17; simp only [beq_eq_false_iff_ne, ne_eq] at h; omega
        refine X_skip ?_
        refine at_block_n ?_
        exact at_metH2 rfl rfl rfl _ (remL 146 b1 b2 (b) (((a % b : Nat) : Int))) ⟨a % b, Nat.mod_lt _ hbp, b, a % b, pre ++ [a], rfl, rfl, rfl, hI1.trans hI2, hJ1, by rw [hrem, remN_step ha0 (by omega) hab, List.append_assoc]; rfl, by omega, by omega, by have := Nat.mod_lt a hbp; omega⟩ (.cons rfl (.cons rfl (.cons rfl .nil))) .refl
      ·
       refine XO_store rfl rfl szt_146 rfl rfl (by repeat (first | exact Upd.here | apply Upd.there | apply upd_app)) rfl ?_
       refine XO_nil ?_
       refine at_D hD (by repeat (first | exact .refl | exact subL_nil | refine .keep ?_ | refine .drop ?_ | refine subL_add ?_)) ?_
       refine XD_one 4 rfl (by kernel_rfl) ?_
       refine XO_v0 (ev_rem rfl rfl (fun hg => by rw [maxI_one hbp]; omega)) rfl rfl rfl ?_
       refine XO_nil ?_
       refine at_D hD (by repeat (first | exact .refl | exact subL_nil | refine .keep ?_ | refine .drop ?_ | refine subL_add ?_)) ?_
       refine XD_one 6 rfl (by kernel_rfl) ?_
       refine XO_store rfl rfl szt_146 rfl rfl (by repeat (first | exact Upd.here | apply Upd.there | apply upd_app)) rfl ?_
       refine XO_nil ?_
       refine at_D hD (by repeat (first | exact .refl | exact subL_nil | refine .keep ?_ | refine .drop ?_ | refine subL_add ?_)) ?_
       refine XD_done (by kernel_rfl) ?_
       refine at_noP ?_
       rw [show ((a : Int)).tmod (maxI (b : Int) 1) = ((a % b : Nat) : Int) by rw [maxI_one hbp, tmod_nat]]
       refine at_then ?_
       refine X_seq (X_region ?_)
       refine XO_v0 (ev_load rfl sct_146 (fun hg => by repeat (first | exact Cell.here rfl | apply Cell.there | apply Cell.app))) rfl rfl rfl ?_
       refine XO_v0 (ev_cmp rfl rfl rfl) rfl rfl rfl ?_
       refine XO_nil (at_then ?_)
       refine X_cond rfl (fun hc17 => ?_) (fun hc17 => ?_)
       ·
        have hab : a % b = 0 := by have h := hc17; simp only [beq_iff_eq] at h; omega
        have hpre2 : (pre ++ [a]) ++ [b] <+: remN a0 b0 := by rw [hrem, remN_end ha0 (by omega) hab, List.append_assoc]; exact List.prefix_rfl
        refine X_seq (X_region ?_)
        refine XO_v0 (ev_move rfl) rfl rfl rfl ?_
        refine XO_v0 (ev_load rfl sct_146 (fun hg => by repeat (first | exact Cell.here rfl | apply Cell.there | apply Cell.app))) rfl rfl rfl ?_
        refine XO_yield0 (vs := [_]) (Post := fun t I3 H3 => if t then J ((pre ++ [a]) ++ [b]) I3 H3 else Jx ((pre ++ [a]) ++ [b]) I3 H3) rfl rfl rfl rfl (hY (pre ++ [a]) b _ _ hpre2 (hI0.trans hI2) hJ1) ?_
        rintro t3 I3 H3 hI3 hP3
        refine XO_nil (at_then ?_)
        refine X_ret ?_
        refine at_block_r ?_
        refine at_then_r ?_
        refine at_block_r ?_
        first
        | (refine at_ret0 rfl (fun w hw => ⟨_, I3, H3, rfl, hI1.trans (hI2.trans hI3), hw.drop, ?_⟩); cases t3 with | true => exact .inl (by rw [hrem, remN_end ha0 (by omega) hab]; simpa using hP3) | false => exact .inr ⟨_, hpre2, hP3⟩)
       ·
        have hab : a % b ≠ 0 := by have h := hc17; simp only [beq_eq_false_iff_ne, ne_eq] at h; omega
        refine X_skip ?_
        refine at_block_n ?_
        exact at_metH2 rfl rfl rfl _ (remL 146 b1 b2 (b) (((a % b : Nat) : Int))) ⟨a % b, Nat.mod_lt _ hbp, b, a % b, pre ++ [a], rfl, rfl, rfl, hI1.trans hI2, hJ1, by rw [hrem, remN_step ha0 (by omega) hab, List.append_assoc]; rfl, by omega, by omega, by have := Nat.mod_lt a hbp; omega⟩ (.cons rfl (.cons rfl (.cons rfl .nil))) .refl
     ·
      refine XO_store rfl rfl szt_146 rfl rfl (by repeat (first | exact Upd.here | apply Upd.there | apply upd_app)) rfl ?_
      refine XO_nil ?_
      refine at_D hD (by repeat (first | exact .refl | exact subL_nil | refine .keep ?_ | refine .drop ?_ | refine subL_add ?_)) ?_
      refine XD_one 3 rfl (by kernel_rfl) ?_
      refine XO_v0 (ev_max rfl rfl) rfl rfl rfl ?_
      refine XO_nil ?_
      refine at_D hD (by repeat (first | exact .refl | exact subL_nil | refine .keep ?_ | refine .drop ?_ | refine subL_add ?_)) ?_
      refine XD_one 4 rfl (by kernel_rfl) ?_
      refine XO_v0 (ev_rem rfl rfl (fun hg => by rw [maxI_one hbp]; omega)) rfl rfl rfl ?_
      refine XO_nil ?_
      refine at_D hD (by repeat (first | exact .refl | exact subL_nil | refine .keep ?_ | refine .drop ?_ | refine subL_add ?_)) ?_
      refine XD_one 6 rfl (by kernel_rfl) ?_
      refine XO_store rfl rfl szt_146 rfl rfl (by repeat (first | exact Upd.here | apply Upd.there | apply upd_app)) rfl ?_
      refine XO_nil ?_
      refine at_D hD (by repeat (first | exact .refl | exact subL_nil | refine .keep ?_ | refine .drop ?_ | refine subL_add ?_)) ?_
      refine XD_done (by kernel_rfl) ?_
      refine at_noP ?_
      rw [show ((a : Int)).tmod (maxI (b : Int) 1) = ((a % b : Nat) : Int) by rw [maxI_one hbp, tmod_nat]]
      refine at_then ?_
      refine X_seq (X_region ?_)
      refine XO_v0 (ev_load rfl sct_146 (fun hg => by repeat (first | exact Cell.here rfl | apply Cell.there | apply Cell.app))) rfl rfl rfl ?_
      refine XO_v0 (ev_cmp rfl rfl rfl) rfl rfl rfl ?_
      refine XO_nil (at_then ?_)
      refine X_cond rfl (fun hc17 => ?_) (fun hc17 => ?_)
      ·
       have hab : a % b = 0 := by have h := hc17; simp only [beq_iff_eq] at h; omega
       have hpre2 : (pre ++ [a]) ++ [b] <+: remN a0 b0 := by rw [hrem, remN_end ha0 (by omega) hab, List.append_assoc]; exact List.prefix_rfl
       refine X_seq (X_region ?_)
       refine XO_v0 (ev_move rfl) rfl rfl rfl ?_
       refine XO_v0 (ev_load rfl sct_146 (fun hg => by repeat (first | exact Cell.here rfl | apply Cell.there | apply Cell.app))) rfl rfl rfl ?_
       refine XO_yield0 (vs := [_]) (Post := fun t I3 H3 => if t then J ((pre ++ [a]) ++ [b]) I3 H3 else Jx ((pre ++ [a]) ++ [b]) I3 H3) rfl rfl rfl rfl (hY (pre ++ [a]) b _ _ hpre2 (hI0.trans hI2) hJ1) ?_
       rintro t3 I3 H3 hI3 hP3
       refine XO_nil (at_then ?_)
       refine X_ret ?_
       refine at_block_r ?_
       refine at_then_r ?_
       refine at_block_r ?_
       first
       | (refine at_ret0 rfl (fun w hw => ⟨_, I3, H3, rfl, hI1.trans (hI2.trans hI3), hw.drop, ?_⟩); cases t3 with | true => exact .inl (by rw [hrem, remN_end ha0 (by omega) hab]; simpa using hP3) | false => exact .inr ⟨_, hpre2, hP3⟩)
      ·
       have hab : a % b ≠ 0 := by have h := hc17; simp only [beq_eq_false_iff_ne, ne_eq] at h; omega
       refine X_skip ?_
       refine at_block_n ?_
       exact at_metH2 rfl rfl rfl _ (remL 146 b1 b2 (b) (((a % b : Nat) : Int))) ⟨a % b, Nat.mod_lt _ hbp, b, a % b, pre ++ [a], rfl, rfl, rfl, hI1.trans hI2, hJ1, by rw [hrem, remN_step ha0 (by omega) hab, List.append_assoc]; rfl, by omega, by omega, by have := Nat.mod_lt a hbp; omega⟩ (.cons rfl (.cons rfl (.cons rfl .nil))) .refl
    ·
     refine XO_store rfl rfl szt_146 rfl rfl (by repeat (first | exact Upd.here | apply Upd.there | apply upd_app)) rfl ?_
     refine XO_nil ?_
     refine at_D hD (by repeat (first | exact .refl | exact subL_nil | refine .keep ?_ | refine .drop ?_ | refine subL_add ?_)) ?_
     refine XD_one 2 rfl (by kernel_rfl) ?_
     refine XO_v0 (ev_load rfl sct_146 (fun hg => by repeat (first | exact Cell.here rfl | apply Cell.there | apply Cell.app))) rfl rfl rfl ?_
     refine XO_nil ?_
     refine at_D hD (by repeat (first | exact .refl | exact subL_nil | refine .keep ?_ | refine .drop ?_ | refine subL_add ?_)) ?_
     refine XD_one 3 rfl (by kernel_rfl) ?_
     refine XO_v0 (ev_max rfl rfl) rfl rfl rfl ?_
     refine XO_nil ?_
     refine at_D hD (by repeat (first | exact .refl | exact subL_nil | refine .keep ?_ | refine .drop ?_ | refine subL_add ?_)) ?_
     refine XD_one 4 rfl (by kernel_rfl) ?_
     refine XO_v0 (ev_rem rfl rfl (fun hg => by rw [maxI_one hbp]; omega)) rfl rfl rfl ?_
     refine XO_nil ?_
     refine at_D hD (by repeat (first | exact .refl | exact subL_nil | refine .keep ?_ | refine .drop ?_ | refine subL_add ?_)) ?_
     refine XD_one 6 rfl (by kernel_rfl) ?_
     refine XO_store rfl rfl szt_146 rfl rfl (by repeat (first | exact Upd.here | apply Upd.there | apply upd_app)) rfl ?_
     refine XO_nil ?_
     refine at_D hD (by repeat (first | exact .refl | exact subL_nil | refine .keep ?_ | refine .drop ?_ | refine subL_add ?_)) ?_
     refine XD_done (by kernel_rfl) ?_
     refine at_noP ?_
     rw [show ((a : Int)).tmod (maxI (b : Int) 1) = ((a % b : Nat) : Int) by rw [maxI_one hbp, tmod_nat]]
     refine at_then ?_
     refine X_seq (X_region ?_)
     refine XO_v0 (ev_load rfl sct_146 (fun hg => by repeat (first | exact Cell.here rfl | apply Cell.there | apply Cell.app))) rfl rfl rfl ?_
     refine XO_v0 (ev_cmp rfl rfl rfl) rfl rfl rfl ?_
     refine XO_nil (at_then ?_)
     refine X_cond rfl (fun hc17 => ?_) (fun hc17 => ?_)
     ·
      have hab : a % b = 0 := by have h := hc17; simp only [beq_iff_eq] at h; omega
      have hpre2 : (pre ++ [a]) ++ [b] <+: remN a0 b0 := by rw [hrem, remN_end ha0 (by omega) hab, List.append_assoc]; exact List.prefix_rfl
      refine X_seq (X_region ?_)
      refine XO_v0 (ev_move rfl) rfl rfl rfl ?_
      refine XO_v0 (ev_load rfl sct_146 (fun hg => by repeat (first | exact Cell.here rfl | apply Cell.there | apply Cell.app))) rfl rfl rfl ?_
      refine XO_yield0 (vs := [_]) (Post := fun t I3 H3 => if t then J ((pre ++ [a]) ++ [b]) I3 H3 else Jx ((pre ++ [a]) ++ [b]) I3 H3) rfl rfl rfl rfl (hY (pre ++ [a]) b _ _ hpre2 (hI0.trans hI2) hJ1) ?_
      rintro t3 I3 H3 hI3 hP3
      refine XO_nil (at_then ?_)
      refine X_ret ?_
      refine at_block_r ?_
      refine at_then_r ?_
      refine at_block_r ?_
      first
      | (refine at_ret0 rfl (fun w hw => ⟨_, I3, H3, rfl, hI1.trans (hI2.trans hI3), hw.drop, ?_⟩); cases t3 with | true => exact .inl (by rw [hrem, remN_end ha0 (by omega) hab]; simpa using hP3) | false => exact .inr ⟨_, hpre2, hP3⟩)
     ·
      have hab : a % b ≠ 0 := by have h := hc17; simp only [beq_eq_false_iff_ne, ne_eq] at h; omega
      refine X_skip ?_
      refine at_block_n ?_
      exact at_metH2 rfl rfl rfl _ (remL 146 b1 b2 (b) (((a % b : Nat) : Int))) ⟨a % b, Nat.mod_lt _ hbp, b, a % b, pre ++ [a], rfl, rfl, rfl, hI1.trans hI2, hJ1, by rw [hrem, remN_step ha0 (by omega) hab, List.append_assoc]; rfl, by omega, by omega, by have := Nat.mod_lt a hbp; omega⟩ (.cons rfl (.cons rfl (.cons rfl .nil))) .refl
   ·
    refine XO_v0 (ev_load rfl sct_146 (fun hg => by repeat (first | exact Cell.here rfl | apply Cell.there | apply Cell.app))) rfl rfl rfl ?_
    refine XO_nil ?_
    refine at_D hD (by repeat (first | exact .refl | exact subL_nil | refine .keep ?_ | refine .drop ?_ | refine subL_add ?_)) ?_
    refine XD_two 0 3 rfl rfl (by kernel_rfl) ?_ ?_
    ·
     refine XO_v0 (ev_load rfl sct_146 (fun hg => by repeat (first | exact Cell.here rfl | apply Cell.there | apply Cell.app))) rfl rfl rfl ?_
     refine XO_nil ?_
     refine at_D hD (by repeat (first | exact .refl | exact subL_nil | refine .keep ?_ | refine .drop ?_ | refine subL_add ?_)) ?_
     refine XD_two 3 5 rfl rfl (by kernel_rfl) ?_ ?_
     ·
      refine XO_v0 (ev_max rfl rfl) rfl rfl rfl ?_
      refine XO_nil ?_
      refine at_D hD (by repeat (first | exact .refl | exact subL_nil | refine .keep ?_ | refine .drop ?_ | refine subL_add ?_)) ?_
      refine XD_two 4 5 rfl rfl (by kernel_rfl) ?_ ?_
      ·
       refine XO_v0 (ev_rem rfl rfl (fun hg => by rw [maxI_one hbp]; omega)) rfl rfl rfl ?_
       refine XO_nil ?_
       refine at_D hD (by repeat (first | exact .refl | exact subL_nil | refine .keep ?_ | refine .drop ?_ | refine subL_add ?_)) ?_
       refine XD_one 5 rfl (by kernel_rfl) ?_
       refine XO_store rfl rfl szt_146 rfl rfl (by repeat (first | exact Upd.here | apply Upd.there | apply upd_app)) rfl ?_
       refine XO_nil ?_
       refine at_D hD (by repeat (first | exact .refl | exact subL_nil | refine .keep ?_ | refine .drop ?_ | refine subL_add ?_)) ?_
       refine XD_one 6 rfl (by kernel_rfl) ?_
       refine XO_store rfl rfl szt_146 rfl rfl (by repeat (first | exact Upd.here | apply Upd.there | apply upd_app)) rfl ?_
       refine XO_nil ?_
       refine at_D hD (by repeat (first | exact .refl | exact subL_nil | refine .keep ?_ | refine .drop ?_ | refine subL_add ?_)) ?_
       refine XD_done (by kernel_rfl) ?_
       refine at_noP ?_
       rw [show ((a : Int)).tmod (maxI (b : Int) 1) = ((a % b : Nat) : Int) by rw [maxI_one hbp, tmod_nat]]
       refine at_then ?_
       refine X_seq (X_region ?_)
       refine XO_v0 (ev_load rfl sct_146 (fun hg => by repeat (first | exact Cell.here rfl | apply Cell.there | apply Cell.app))) rfl rfl rfl ?_
       refine XO_v0 (ev_cmp rfl rfl rfl) rfl rfl rfl ?_
       refine XO_nil (at_then ?_)
       refine X_cond rfl (fun hc17 => ?_) (fun hc17 => ?_)
       ·
        have hab : a % b = 0 := by have h := hc17; simp only [beq_iff_eq] at h; omega
        have hpre2 : (pre ++ [a]) ++ [b] <+: remN a0 b0 := by rw [hrem, remN_end ha0 (by omega) hab, List.append_assoc]; exact List.prefix_rfl
        refine X_seq (X_region ?_)
        refine XO_v0 (ev_move rfl) rfl rfl rfl ?_
        refine XO_v0 (ev_load rfl sct_146 (fun hg => by repeat (first | exact Cell.here rfl | apply Cell.there | apply Cell.app))) rfl rfl rfl ?_
        refine XO_yield0 (vs := [_]) (Post := fun t I3 H3 => if t then J ((pre ++ [a]) ++ [b]) I3 H3 else Jx ((pre ++ [a]) ++ [b]) I3 H3) rfl rfl rfl rfl (hY (pre ++ [a]) b _ _ hpre2 (hI0.trans hI2) hJ1) ?_
        rintro t3 I3 H3 hI3 hP3
        refine XO_nil (at_then ?_)
        refine X_ret ?_
        refine at_block_r ?_
        refine at_then_r ?_
        refine at_block_r ?_
        first
        | (refine at_ret0 rfl (fun w hw => ⟨_, I3, H3, rfl, hI1.trans (hI2.trans hI3), hw.drop, ?_⟩); cases t3 with | true => exact .inl (by rw [hrem, remN_end ha0 (by omega) hab]; simpa using hP3) | false => exact .inr ⟨_, hpre2, hP3⟩)
       ·
        have hab : a % b ≠ 0 := by have h := hc17; simp only [beq_eq_false_iff_ne, ne_eq] at h; omega
        refine X_skip ?_
        refine at_block_n ?_
        exact at_metH2 rfl rfl rfl _ (remL 146 b1 b2 (b) (((a % b : Nat) : Int))) ⟨a % b, Nat.mod_lt _ hbp, b, a % b, pre ++ [a], rfl, rfl, rfl, hI1.trans hI2, hJ1, by rw [hrem, remN_step ha0 (by omega) hab, List.append_assoc]; rfl, by omega, by omega, by have := Nat.mod_lt a hbp; omega⟩ (.cons rfl (.cons rfl (.cons rfl .nil))) .refl
      ·
       refine XO_store rfl rfl szt_146 rfl rfl (by repeat (first | exact Upd.here | apply Upd.there | apply upd_app)) rfl ?_
       refine XO_nil ?_
       refine at_D hD (by repeat (first | exact .refl | exact subL_nil | refine .keep ?_ | refine .drop ?_ | refine subL_add ?_)) ?_
       refine XD_one 4 rfl (by kernel_rfl) ?_
       refine XO_v0 (ev_rem rfl rfl (fun hg => by rw [maxI_one hbp]; omega)) rfl rfl rfl ?_
       refine XO_nil ?_
       refine at_D hD (by repeat (first | exact .refl | exact subL_nil | refine .keep ?_ | refine .drop ?_ | refine subL_add ?_)) ?_
       refine XD_one 6 rfl (by kernel_rfl) ?_
       refine XO_store rfl rfl szt_146 rfl rfl (by repeat (first | exact Upd.here | apply Upd.there | apply upd_app)) rfl ?_
       refine XO_nil ?_
       refine at_D hD (by repeat (first | exact .refl | exact subL_nil | refine .keep ?_ | refine .drop ?_ | refine subL_add ?_)) ?_
       refine XD_done (by kernel_rfl) ?_
       refine at_noP ?_
       rw [show ((a : Int)).tmod (maxI (b : Int) 1) = ((a % b : Nat) : Int) by rw [maxI_one hbp, tmod_nat]]
       refine at_then ?_
       refine X_seq (X_region ?_)
       refine XO_v0 (ev_load rfl sct_146 (fun hg => by repeat (first | exact Cell.here rfl | apply Cell.there | apply Cell.app))) rfl rfl rfl ?_
       refine XO_v0 (ev_cmp rfl rfl rfl) rfl rfl rfl ?_
       refine XO_nil (at_then ?_)
       refine X_cond rfl (fun hc17 => ?_) (fun hc17 => ?_)
       ·
        have hab : a % b = 0 := by have h := hc17; simp only [beq_iff_eq] at h; omega
        have hpre2 : (pre ++ [a]) ++ [b] <+: remN a0 b0 := by rw [hrem, remN_end ha0 (by omega) hab, List.append_assoc]; exact List.prefix_rfl
        refine X_seq (X_region ?_)
        refine XO_v0 (ev_move rfl) rfl rfl rfl ?_
        refine XO_v0 (ev_load rfl sct_146 (fun hg => by repeat (first | exact Cell.here rfl | apply Cell.there | apply Cell.app))) rfl rfl rfl ?_
        refine XO_yield0 (vs := [_]) (Post := fun t I3 H3 => if t then J ((pre ++ [a]) ++ [b]) I3 H3 else Jx ((pre ++ [a]) ++ [b]) I3 H3) rfl rfl rfl rfl (hY (pre ++ [a]) b _ _ hpre2 (hI0.trans hI2) hJ1) ?_
        rintro t3 I3 H3 hI3 hP3
        refine XO_nil (at_then ?_)
        refine X_ret ?_
        refine at_block_r ?_
        refine at_then_r ?_
        refine at_block_r ?_
        first
        | (refine at_ret0 rfl (fun w hw => ⟨_, I3, H3, rfl, hI1.trans (hI2.trans hI3), hw.drop, ?_⟩); cases t3 with | true => exact .inl (by rw [hrem, remN_end ha0 (by omega) hab]; simpa using hP3) | false => exact .inr ⟨_, hpre2, hP3⟩)
       ·
        have hab : a % b ≠ 0 := by have h := hc17; simp only [beq_eq_false_iff_ne, ne_eq] at h; omega
        refine X_skip ?_
        refine at_block_n ?_
        exact at_metH2 rfl rfl rfl _ (remL 146 b1 b2 (b) (((a % b : Nat) : Int))) ⟨a % b, Nat.mod_lt _ hbp, b, a % b, pre ++ [a], rfl, rfl, rfl, hI1.trans hI2, hJ1, by rw [hrem, remN_step ha0 (by omega) hab, List.append_assoc]; rfl, by omega, by omega, by have := Nat.mod_lt a hbp; omega⟩ (.cons rfl (.cons rfl (.cons rfl .nil))) .refl
     ·
      refine XO_store rfl rfl szt_146 rfl rfl (by repeat (first | exact Upd.here | apply Upd.there | apply upd_app)) rfl ?_
      refine XO_nil ?_
      refine at_D hD (by repeat (first | exact .refl | exact subL_nil | refine .keep ?_ | refine .drop ?_ | refine subL_add ?_)) ?_
      refine XD_one 3 rfl (by kernel_rfl) ?_
      refine XO_v0 (ev_max rfl rfl) rfl rfl rfl ?_
      refine XO_nil ?_
      refine at_D hD (by repeat (first | exact .refl | exact subL_nil | refine .keep ?_ | refine .drop ?_ | refine subL_add ?_)) ?_
      refine XD_one 4 rfl (by kernel_rfl) ?_
      refine XO_v0 (ev_rem rfl rfl (fun hg => by rw [maxI_one hbp]; omega)) rfl rfl rfl ?_
      refine XO_nil ?_
      refine at_D hD (by repeat (first | exact .refl | exact subL_nil | refine .keep ?_ | refine .drop ?_ | refine subL_add ?_)) ?_
      refine XD_one 6 rfl (by kernel_rfl) ?_
      refine XO_store rfl rfl szt_146 rfl rfl (by repeat (first | exact Upd.here | apply Upd.there | apply upd_app)) rfl ?_
      refine XO_nil ?_
      refine at_D hD (by repeat (first | exact .refl | exact subL_nil | refine .keep ?_ | refine .drop ?_ | refine subL_add ?_)) ?_
      refine XD_done (by kernel_rfl) ?_
      refine at_noP ?_
      rw [show ((a : Int)).tmod (maxI (b : Int) 1) = ((a % b : Nat) : Int) by rw [maxI_one hbp, tmod_nat]]
      refine at_then ?_
      refine X_seq (X_region ?_)
      refine XO_v0 (ev_load rfl sct_146 (fun hg => by repeat (first | exact Cell.here rfl | apply Cell.there | apply Cell.app))) rfl rfl rfl ?_
      refine XO_v0 (ev_cmp rfl rfl rfl) rfl rfl rfl ?_
      refine XO_nil (at_then ?_)
      refine X_cond rfl (fun hc17 => ?_) (fun hc17 => ?_)
      ·
       have hab : a % b = 0 := by have h := hc17; simp only [beq_iff_eq] at h; omega
       have hpre2 : (pre ++ [a]) ++ [b] <+: remN a0 b0 := by rw [hrem, remN_end ha0 (by omega) hab, List.append_assoc]; exact List.prefix_rfl
       refine X_seq (X_region ?_)
       refine XO_v0 (ev_move rfl) rfl rfl rfl ?_
       refine XO_v0 (ev_load rfl sct_146 (fun hg => by repeat (first | exact Cell.here rfl | apply Cell.there | apply Cell.app))) rfl rfl rfl ?_
       refine XO_yield0 (vs := [_]) (Post := fun t I3 H3 => if t then J ((pre ++ [a]) ++ [b]) I3 H3 else Jx ((pre ++ [a]) ++ [b]) I3 H3) rfl rfl rfl rfl (hY (pre ++ [a]) b _ _ hpre2 (hI0.trans hI2) hJ1) ?_
       rintro t3 I3 H3 hI3 hP3
       refine XO_nil (at_then ?_)
       refine X_ret ?_
       refine at_block_r ?_
       refine at_then_r ?_
       refine at_block_r ?_
       first
       | (refine at_ret0 rfl (fun w hw => ⟨_, I3, H3, rfl, hI1.trans (hI2.trans hI3), hw.drop, ?_⟩); cases t3 with | true => exact .inl (by rw [hrem, remN_end ha0 (by omega) hab]; simpa using hP3) | false => exact .inr ⟨_, hpre2, hP3⟩)
      ·
       have hab : a % b ≠ 0 := by have h := hc17; simp only [beq_eq_false_iff_ne, ne_eq] at h; omega
       refine X_skip ?_
       refine at_block_n ?_
       exact at_metH2 rfl rfl rfl _ (remL 146 b1 b2 (b) (((a % b : Nat) : Int))) ⟨a % b, Nat.mod_lt _ hbp, b, a % b, pre ++ [a], rfl, rfl, rfl, hI1.trans hI2, hJ1, by rw [hrem, remN_step ha0 (by omega) hab, List.append_assoc]; rfl, by omega, by omega, by have := Nat.mod_lt a hbp; omega⟩ (.cons rfl (.cons rfl (.cons rfl .nil))) .refl
    ·
     refine XO_v0 (ev_max rfl rfl) rfl rfl rfl ?_
     refine XO_nil ?_
     refine at_D hD (by repeat (first | exact .refl | exact subL_nil | refine .keep ?_ | refine .drop ?_ | refine subL_add ?_)) ?_
     refine XD_two 0 4 rfl rfl (by kernel_rfl) ?_ ?_
     ·
      refine XO_v0 (ev_load rfl sct_146 (fun hg => by repeat (first | exact Cell.here rfl | apply Cell.there | apply Cell.app))) rfl rfl rfl ?_
      refine XO_nil ?_
      refine at_D hD (by repeat (first | exact .refl | exact subL_nil | refine .keep ?_ | refine .drop ?_ | refine subL_add ?_)) ?_
      refine XD_two 4 5 rfl rfl (by kernel_rfl) ?_ ?_
      ·
       refine XO_v0 (ev_rem rfl rfl (fun hg => by rw [maxI_one hbp]; omega)) rfl rfl rfl ?_
       refine XO_nil ?_
       refine at_D hD (by repeat (first | exact .refl | exact subL_nil | refine .keep ?_ | refine .drop ?_ | refine subL_add ?_)) ?_
       refine XD_one 5 rfl (by kernel_rfl) ?_
       refine XO_store rfl rfl szt_146 rfl rfl (by repeat (first | exact Upd.here | apply Upd.there | apply upd_app)) rfl ?_
       refine XO_nil ?_
       refine at_D hD (by repeat (first | exact .refl | exact subL_nil | refine .keep ?_ | refine .drop ?_ | refine subL_add ?_)) ?_
       refine XD_one 6 rfl (by kernel_rfl) ?_
       refine XO_store rfl rfl szt_146 rfl rfl (by repeat (first | exact Upd.here | apply Upd.there | apply upd_app)) rfl ?_
       refine XO_nil ?_
       refine at_D hD (by repeat (first | exact .refl | exact subL_nil | refine .keep ?_ | refine .drop ?_ | refine subL_add ?_)) ?_
       refine XD_done (by kernel_rfl) ?_
       refine at_noP ?_
       rw [show ((a : Int)).tmod (maxI (b : Int) 1) = ((a % b : Nat) : Int) by rw [maxI_one hbp, tmod_nat]]
       refine at_then ?_
       refine X_seq (X_region ?_)
       refine XO_v0 (ev_load rfl sct_146 (fun hg => by repeat (first | exact Cell.here rfl | apply Cell.there | apply Cell.app))) rfl rfl rfl ?_
       refine XO_v0 (ev_cmp rfl rfl rfl) rfl rfl rfl ?_
       refine XO_nil (at_then ?_)
       refine X_cond rfl (fun hc17 => ?_) (fun hc17 => ?_)
       ·
        have hab : a % b = 0 := by have h := hc17; simp only [beq_iff_eq] at h; omega
        have hpre2 : (pre ++ [a]) ++ [b] <+: remN a0 b0 := by rw [hrem, remN_end ha0 (by omega) hab, List.append_assoc]; exact List.prefix_rfl
        refine X_seq (X_region ?_)
        refine XO_v0 (ev_move rfl) rfl rfl rfl ?_
        refine XO_v0 (ev_load rfl sct_146 (fun hg => by repeat (first | exact Cell.here rfl | apply Cell.there | apply Cell.app))) rfl rfl rfl ?_
        refine XO_yield0 (vs := [_]) (Post := fun t I3 H3 => if t then J ((pre ++ [a]) ++ [b]) I3 H3 else Jx ((pre ++ [a]) ++ [b]) I3 H3) rfl rfl rfl rfl (hY (pre ++ [a]) b _ _ hpre2 (hI0.trans hI2) hJ1) ?_
        rintro t3 I3 H3 hI3 hP3
        refine XO_nil (at_then ?_)
        refine X_ret ?_
        refine at_block_r ?_
        refine at_then_r ?_
        refine at_block_r ?_
        first
        | (refine at_ret0 rfl (fun w hw => ⟨_, I3, H3, rfl, hI1.trans (hI2.trans hI3), hw.drop, ?_⟩); cases t3 with | true => exact .inl (by rw [hrem, remN_end ha0 (by omega) hab]; simpa using hP3) | false => exact .inr ⟨_, hpre2, hP3⟩)
       ·
        have hab : a % b ≠ 0 := by have h := hc17; simp only [beq_eq_false_iff_ne, ne_eq] at h; omega
        refine X_skip ?_
        refine at_block_n ?_
        exact at_metH2 rfl rfl rfl _ (remL 146 b1 b2 (b) (((a % b : Nat) : Int))) ⟨a % b, Nat.mod_lt _ hbp, b, a % b, pre ++ [a], rfl, rfl, rfl, hI1.trans hI2, hJ1, by rw [hrem, remN_step ha0 (by omega) hab, List.append_assoc]; rfl, by omega, by omega, by have := Nat.mod_lt a hbp; omega⟩ (.cons rfl (.cons rfl (.cons rfl .nil))) .refl
      ·
       refine XO_store rfl rfl szt_146 rfl rfl (by repeat (first | exact Upd.here | apply Upd.there | apply upd_app)) rfl ?_
       refine XO_nil ?_
       refine at_D hD (by repeat (first | exact .refl | exact subL_nil | refine .keep ?_ | refine .drop ?_ | refine subL_add ?_)) ?_
       refine XD_one 4 rfl (by kernel_rfl) ?_
       refine XO_v0 (ev_rem rfl rfl (fun hg => by rw [maxI_one hbp]; omega)) rfl rfl rfl ?_
       refine XO_nil ?_
       refine at_D hD (by repeat (first | exact .refl | exact subL_nil | refine .keep ?_ | refine .drop ?_ | refine subL_add ?_)) ?_
       refine XD_one 6 rfl (by kernel_rfl) ?_
       refine XO_store rfl rfl szt_146 rfl rfl (by repeat (first | exact Upd.here | apply Upd.there | apply upd_app)) rfl ?_
       refine XO_nil ?_
       refine at_D hD (by repeat (first | exact .refl | exact subL_nil | refine .keep ?_ | refine .drop ?_ | refine subL_add ?_)) ?_
       refine XD_done (by kernel_rfl) ?_
       refine at_noP ?_
       rw [show ((a : Int)).tmod (maxI (b : Int) 1) = ((a % b : Nat) : Int) by rw [maxI_one hbp, tmod_nat]]
       refine at_then ?_
       refine X_seq (X_region ?_)
       refine XO_v0 (ev_load rfl sct_146 (fun hg => by repeat (first | exact Cell.here rfl | apply Cell.there | apply Cell.app))) rfl rfl rfl ?_
       refine XO_v0 (ev_cmp rfl rfl rfl) rfl rfl rfl ?_
       refine XO_nil (at_then ?_)
       refine X_cond rfl (fun hc17 => ?_) (fun hc17 => ?_)
       ·
        have hab : a % b = 0 := by have h := hc17; simp only [beq_iff_eq] at h; omega
        have hpre2 : (pre ++ [a]) ++ [b] <+: remN a0 b0 := by rw [hrem, remN_end ha0 (by omega) hab, List.append_assoc]; exact List.prefix_rfl
        refine X_seq (X_region ?_)
        refine XO_v0 (ev_move rfl) rfl rfl rfl ?_
        refine XO_v0 (ev_load rfl sct_146 (fun hg => by repeat (first | exact Cell.here rfl | apply Cell.there | apply Cell.app))) rfl rfl rfl ?_
        refine XO_yield0 (vs := [_]) (Post := fun t I3 H3 => if t then J ((pre ++ [a]) ++ [b]) I3 H3 else Jx ((pre ++ [a]) ++ [b]) I3 H3) rfl rfl rfl rfl (hY (pre ++ [a]) b _ _ hpre2 (hI0.trans hI2) hJ1) ?_
        rintro t3 I3 H3 hI3 hP3
        refine XO_nil (at_then ?_)
        refine X_ret ?_
        refine at_block_r ?_
        refine at_then_r ?_
        refine at_block_r ?_
        first
        | (refine at_ret0 rfl (fun w hw => ⟨_, I3, H3, rfl, hI1.trans (hI2.trans hI3), hw.drop, ?_⟩); cases t3 with | true => exact .inl (by rw [hrem, remN_end ha0 (by omega) hab]; simpa using hP3) | false => exact .inr ⟨_, hpre2, hP3⟩)
       ·
        have hab : a % b ≠ 0 := by have h := hc17; simp only [beq_eq_false_iff_ne, ne_eq] at h; omega
        refine X_skip ?_
        refine at_block_n ?_
        exact at_metH2 rfl rfl rfl _ (remL 146 b1 b2 (b) (((a % b : Nat) : Int))) ⟨a % b, Nat.mod_lt _ hbp, b, a % b, pre ++ [a], rfl, rfl, rfl, hI1.trans hI2, hJ1, by rw [hrem, remN_step ha0 (by omega) hab, List.append_assoc]; rfl, by omega, by omega, by have := Nat.mod_lt a hbp; omega⟩ (.cons rfl (.cons rfl (.cons rfl .nil))) .refl
     ·
      refine XO_v0 (ev_rem rfl rfl (fun hg => by rw [maxI_one hbp]; omega)) rfl rfl rfl ?_
      refine XO_nil ?_
      refine at_D hD (by repeat (first | exact .refl | exact subL_nil | refine .keep ?_ | refine .drop ?_ | refine subL_add ?_)) ?_
      refine XD_one 0 rfl (by kernel_rfl) ?_
      refine XO_v0 (ev_load rfl sct_146 (fun hg => by repeat (first | exact Cell.here rfl | apply Cell.there | apply Cell.app))) rfl rfl rfl ?_
      refine XO_nil ?_
      refine at_D hD (by repeat (first | exact .refl | exact subL_nil | refine .keep ?_ | refine .drop ?_ | refine subL_add ?_)) ?_
      refine XD_one 5 rfl (by kernel_rfl) ?_
      refine XO_store rfl rfl szt_146 rfl rfl (by repeat (first | exact Upd.here | apply Upd.there | apply upd_app)) rfl ?_
      refine XO_nil ?_
      refine at_D hD (by repeat (first | exact .refl | exact subL_nil | refine .keep ?_ | refine .drop ?_ | refine subL_add ?_)) ?_
      refine XD_one 6 rfl (by kernel_rfl) ?_
      refine XO_store rfl rfl szt_146 rfl rfl (by repeat (first | exact Upd.here | apply Upd.there | apply upd_app)) rfl ?_
      refine XO_nil ?_
      refine at_D hD (by repeat (first | exact .refl | exact subL_nil | refine .keep ?_ | refine .drop ?_ | refine subL_add ?_)) ?_
      refine XD_done (by kernel_rfl) ?_
      refine at_noP ?_
      rw [show ((a : Int)).tmod (maxI (b : Int) 1) = ((a % b : Nat) : Int) by rw [maxI_one hbp, tmod_nat]]
      refine at_then ?_
      refine X_seq (X_region ?_)
      refine XO_v0 (ev_load rfl sct_146 (fun hg => by repeat (first | exact Cell.here rfl | apply Cell.there | apply Cell.app))) rfl rfl rfl ?_
      refine XO_v0 (ev_cmp rfl rfl rfl) rfl rfl rfl ?_
      refine XO_nil (at_then ?_)
      refine X_cond rfl (fun hc17 => ?_) (fun hc17 => ?_)
      ·
       have hab : a % b = 0 := by have h := hc17; simp only [beq_iff_eq] at h; omega
       have hpre2 : (pre ++ [a]) ++ [b] <+: remN a0 b0 := by rw [hrem, remN_end ha0 (by omega) hab, List.append_assoc]; exact List.prefix_rfl
       refine X_seq (X_region ?_)
       refine XO_v0 (ev_move rfl) rfl rfl rfl ?_
       refine XO_v0 (ev_load rfl sct_146 (fun hg => by repeat (first | exact Cell.here rfl | apply Cell.there | apply Cell.app))) rfl rfl rfl ?_
       refine XO_yield0 (vs := [_]) (Post := fun t I3 H3 => if t then J ((pre ++ [a]) ++ [b]) I3 H3 else Jx ((pre ++ [a]) ++ [b]) I3 H3) rfl rfl rfl rfl (hY (pre ++ [a]) b _ _ hpre2 (hI0.trans hI2) hJ1) ?_
       rintro t3 I3 H3 hI3 hP3
       refine XO_nil (at_then ?_)
       refine X_ret ?_
       refine at_block_r ?_
       refine at_then_r ?_
       refine at_block_r ?_
       first
       | (refine at_ret0 rfl (fun w hw => ⟨_, I3, H3, rfl, hI1.trans (hI2.trans hI3), hw.drop, ?_⟩); cases t3 with | true => exact .inl (by rw [hrem, remN_end ha0 (by omega) hab]; simpa using hP3) | false => exact .inr ⟨_, hpre2, hP3⟩)
      ·
       have hab : a % b ≠ 0 := by have h := hc17; simp only [beq_eq_false_iff_ne, ne_eq] at h; omega
       refine X_skip ?_
       refine at_block_n ?_
       exact at_metH2 rfl rfl rfl _ (remL 146 b1 b2 (b) (((a % b : Nat) : Int))) ⟨a % b, Nat.mod_lt _ hbp, b, a % b, pre ++ [a], rfl, rfl, rfl, hI1.trans hI2, hJ1, by rw [hrem, remN_step ha0 (by omega) hab, List.append_assoc]; rfl, by omega, by omega, by have := Nat.mod_lt a hbp; omega⟩ (.cons rfl (.cons rfl (.cons rfl .nil))) .refl
  ·
   refine XO_v0 (ev_load rfl sct_146 (fun hg => by repeat (first | exact Cell.here rfl | apply Cell.there | apply Cell.app))) rfl rfl rfl ?_
   refine XO_nil ?_
   refine at_D hD (by repeat (first | exact .refl | exact subL_nil | refine .keep ?_ | refine .drop ?_ | refine subL_add ?_)) ?_
   refine XD_three 0 1 3 rfl rfl rfl (by kernel_rfl) ?_ ?_ ?_
   ·
    refine XO_v0 (ev_load rfl sct_146 (fun hg => by repeat (first | exact Cell.here rfl | apply Cell.there | apply Cell.app))) rfl rfl rfl ?_
    refine XO_nil ?_
    refine at_D hD (by repeat (first | exact .refl | exact subL_nil | refine .keep ?_ | refine .drop ?_ | refine subL_add ?_)) ?_
    refine XD_two 1 3 rfl rfl (by kernel_rfl) ?_ ?_
    ·
     refine XO_v0 (ev_load rfl sct_146 (fun hg => by repeat (first | exact Cell.here rfl | apply Cell.there | apply Cell.app))) rfl rfl rfl ?_
     refine XO_nil ?_
     refine at_D hD (by repeat (first | exact .refl | exact subL_nil | refine .keep ?_ | refine .drop ?_ | refine subL_add ?_)) ?_
     refine XD_two 3 5 rfl rfl (by kernel_rfl) ?_ ?_
     ·
      refine XO_v0 (ev_max rfl rfl) rfl rfl rfl ?_
      refine XO_nil ?_
      refine at_D hD (by repeat (first | exact .refl | exact subL_nil | refine .keep ?_ | refine .drop ?_ | refine subL_add ?_)) ?_
      refine XD_two 4 5 rfl rfl (by kernel_rfl) ?_ ?_
      ·
       refine XO_v0 (ev_rem rfl rfl (fun hg => by rw [maxI_one hbp]; omega)) rfl rfl rfl ?_
       refine XO_nil ?_
       refine at_D hD (by repeat (first | exact .refl | exact subL_nil | refine .keep ?_ | refine .drop ?_ | refine subL_add ?_)) ?_
       refine XD_one 5 rfl (by kernel_rfl) ?_
       refine XO_store rfl rfl szt_146 rfl rfl (by repeat (first | exact Upd.here | apply Upd.there | apply upd_app)) rfl ?_
       refine XO_nil ?_
       refine at_D hD (by repeat (first | exact .refl | exact subL_nil | refine .keep ?_ | refine .drop ?_ | refine subL_add ?_)) ?_
       refine XD_one 6 rfl (by kernel_rfl) ?_
       refine XO_store rfl rfl szt_146 rfl rfl (by repeat (first | exact Upd.here | apply Upd.there | apply upd_app)) rfl ?_
       refine XO_nil ?_
       refine at_D hD (by repeat (first | exact .refl | exact subL_nil | refine .keep ?_ | refine .drop ?_ | refine subL_add ?_)) ?_
       refine XD_done (by kernel_rfl) ?_
       refine at_noP ?_
       rw [show ((a : Int)).tmod (maxI (b : Int) 1) = ((a % b : Nat) : Int) by rw [maxI_one hbp, tmod_nat]]
       refine at_then ?_
       refine X_seq (X_region ?_)
       refine XO_v0 (ev_load rfl sct_146 (fun hg => by repeat (first | exact Cell.here rfl | apply Cell.there | apply Cell.app))) rfl rfl rfl ?_
       refine XO_v0 (ev_cmp rfl rfl rfl) rfl rfl rfl ?_
       refine XO_nil (at_then ?_)
       refine X_cond rfl (fun hc17 => ?_) (fun hc17 => ?_)
       ·
        have hab : a % b = 0 := by have h := hc17; simp only [beq_iff_eq] at h; omega
        have hpre2 : (pre ++ [a]) ++ [b] <+: remN a0 b0 := by rw [hrem, remN_end ha0 (by omega) hab, List.append_assoc]; exact List.prefix_rfl
        refine X_seq (X_region ?_)
        refine XO_v0 (ev_move rfl) rfl rfl rfl ?_
        refine XO_v0 (ev_load rfl sct_146 (fun hg => by repeat (first | exact Cell.here rfl | apply Cell.there | apply Cell.app))) rfl rfl rfl ?_
        refine XO_yield0 (vs := [_]) (Post := fun t I3 H3 => if t then J ((pre ++ [a]) ++ [b]) I3 H3 else Jx ((pre ++ [a]) ++ [b]) I3 H3) rfl rfl rfl rfl (hY (pre ++ [a]) b _ _ hpre2 (hI0.trans hI2) hJ1) ?_
        rintro t3 I3 H3 hI3 hP3
        refine XO_nil (at_then ?_)
        refine X_ret ?_
        refine at_block_r ?_
        refine at_then_r ?_
        refine at_block_r ?_
        first
        | (refine at_ret0 rfl (fun w hw => ⟨_, I3, H3, rfl, hI1.trans (hI2.trans hI3), hw.drop, ?_⟩); cases t3 with | true => exact .inl (by rw [hrem, remN_end ha0 (by omega) hab]; simpa using hP3) | false => exact .inr ⟨_, hpre2, hP3⟩)
       ·
        have hab : a % b ≠ 0 := by have h := hc17; simp only [beq_eq_false_iff_ne, ne_eq] at h; omega
        refine X_skip ?_
        refine at_block_n ?_
        exact at_metH2 rfl rfl rfl _ (remL 146 b1 b2 (b) (((a % b : Nat) : Int))) ⟨a % b, Nat.mod_lt _ hbp, b, a % b, pre ++ [a], rfl, rfl, rfl, hI1.trans hI2, hJ1, by rw [hrem, remN_step ha0 (by omega) hab, List.append_assoc]; rfl, by omega, by omega, by have := Nat.mod_lt a hbp; omega⟩ (.cons rfl (.cons rfl (.cons rfl .nil))) .refl
      ·
       refine XO_store rfl rfl szt_146 rfl rfl (by repeat (first | exact Upd.here | apply Upd.there | apply upd_app)) rfl ?_
       refine XO_nil ?_
       refine at_D hD (by repeat (first | exact .refl | exact subL_nil | refine .keep ?_ | refine .drop ?_ | refine subL_add ?_)) ?_
       refine XD_one 4 rfl (by kernel_rfl) ?_
       refine XO_v0 (ev_rem rfl rfl (fun hg => by rw [maxI_one hbp]; omega)) rfl rfl rfl ?_
       refine XO_nil ?_
       refine at_D hD (by repeat (first | exact .refl | exact subL_nil | refine .keep ?_ | refine .drop ?_ | refine subL_add ?_)) ?_
       refine XD_one 6 rfl (by kernel_rfl) ?_
       refine XO_store rfl rfl szt_146 rfl rfl (by repeat (first | exact Upd.here | apply Upd.there | apply upd_app)) rfl ?_
       refine XO_nil ?_
       refine at_D hD (by repeat (first | exact .refl | exact subL_nil | refine .keep ?_ | refine .drop ?_ | refine subL_add ?_)) ?_
       refine XD_done (by kernel_rfl) ?_
       refine at_noP ?_
       rw [show ((a : Int)).tmod (maxI (b : Int) 1) = ((a % b : Nat) : Int) by rw [maxI_one hbp, tmod_nat]]
       refine at_then ?_
       refine X_seq (X_region ?_)
       refine XO_v0 (ev_load rfl sct_146 (fun hg => by repeat (first | exact Cell.here rfl | apply Cell.there | apply Cell.app))) rfl rfl rfl ?_
       refine XO_v0 (ev_cmp rfl rfl rfl) rfl rfl rfl ?_
       refine XO_nil (at_then ?_)
       refine X_cond rfl (fun hc17 => ?_) (fun hc17 => ?_)
       ·
        have hab : a % b = 0 := by have h := hc17; simp only [beq_iff_eq] at h; omega
        have hpre2 : (pre ++ [a]) ++ [b] <+: remN a0 b0 := by rw [hrem, remN_end ha0 (by omega) hab, List.append_assoc]; exact List.prefix_rfl
        refine X_seq (X_region ?_)
        refine XO_v0 (ev_move rfl) rfl rfl rfl ?_
        refine XO_v0 (ev_load rfl sct_146 (fun hg => by repeat (first | exact Cell.here rfl | apply Cell.there | apply Cell.app))) rfl rfl rfl ?_
        refine XO_yield0 (vs := [_]) (Post := fun t I3 H3 => if t then J ((pre ++ [a]) ++ [b]) I3 H3 else Jx ((pre ++ [a]) ++ [b]) I3 H3) rfl rfl rfl rfl (hY (pre ++ [a]) b _ _ hpre2 (hI0.trans hI2) hJ1) ?_
        rintro t3 I3 H3 hI3 hP3
        refine XO_nil (at_then ?_)
        refine X_ret ?_
        refine at_block_r ?_
        refine at_then_r ?_
        refine at_block_r ?_
        first
        | (refine at_ret0 rfl (fun w hw => ⟨_, I3, H3, rfl, hI1.trans (hI2.trans hI3), hw.drop, ?_⟩); cases t3 with | true => exact .inl (by rw [hrem, remN_end ha0 (by omega) hab]; simpa using hP3) | false => exact .inr ⟨_, hpre2, hP3⟩)
       ·
        have hab : a % b ≠ 0 := by have h := hc17; simp only [beq_eq_false_iff_ne, ne_eq] at h; omega
        refine X_skip ?_
        refine at_block_n ?_
        exact at_metH2 rfl rfl rfl _ (remL 146 b1 b2 (b) (((a % b : Nat) : Int))) ⟨a % b, Nat.mod_lt _ hbp, b, a % b, pre ++ [a], rfl, rfl, rfl, hI1.trans hI2, hJ1, by rw [hrem, remN_step ha0 (by omega) hab, List.append_assoc]; rfl, by omega, by omega, by have := Nat.mod_lt a hbp; omega⟩ (.cons rfl (.cons rfl (.cons rfl .nil))) .refl
     ·
      refine XO_store rfl rfl szt_146 rfl rfl (by repeat (first | exact Upd.here | apply Upd.there | apply upd_app)) rfl ?_
      refine XO_nil ?_
      refine at_D hD (by repeat (first | exact .refl | exact subL_nil | refine .keep ?_ | refine .drop ?_ | refine subL_add ?_)) ?_
      refine XD_one 3 rfl (by kernel_rfl) ?_
      refine XO_v0 (ev_max rfl rfl) rfl rfl rfl ?_
      refine XO_nil ?_
      refine at_D hD (by repeat (first | exact .refl | exact subL_nil | refine .keep ?_ | refine .drop ?_ | refine subL_add ?_)) ?_
      refine XD_one 4 rfl (by kernel_rfl) ?_
      refine XO_v0 (ev_rem rfl rfl (fun hg => by rw [maxI_one hbp]; omega)) rfl rfl rfl ?_
      refine XO_nil ?_
      refine at_D hD (by repeat (first | exact .refl | exact subL_nil | refine .keep ?_ | refine .drop ?_ | refine subL_add ?_)) ?_
      refine XD_one 6 rfl (by kernel_rfl) ?_
      refine XO_store rfl rfl szt_146 rfl rfl (by repeat (first | exact Upd.here | apply Upd.there | apply upd_app)) rfl ?_
      refine XO_nil ?_
      refine at_D hD (by repeat (first | exact .refl | exact subL_nil | refine .keep ?_ | refine .drop ?_ | refine subL_add ?_)) ?_
      refine XD_done (by kernel_rfl) ?_
      refine at_noP ?_
      rw [show ((a : Int)).tmod (maxI (b : Int) 1) = ((a % b : Nat) : Int) by rw [maxI_one hbp, tmod_nat]]
      refine at_then ?_
      refine X_seq (X_region ?_)
      refine XO_v0 (ev_load rfl sct_146 (fun hg => by repeat (first | exact Cell.here rfl | apply Cell.there | apply Cell.app))) rfl rfl rfl ?_
      refine XO_v0 (ev_cmp rfl rfl rfl) rfl rfl rfl ?_
      refine XO_nil (at_then ?_)
      refine X_cond rfl (fun hc17 => ?_) (fun hc17 => ?_)
      ·
       have hab : a % b = 0 := by have h := hc17; simp only [beq_iff_eq] at h; omega
       have hpre2 : (pre ++ [a]) ++ [b] <+: remN a0 b0 := by rw [hrem, remN_end ha0 (by omega) hab, List.append_assoc]; exact List.prefix_rfl
       refine X_seq (X_region ?_)
       refine XO_v0 (ev_move rfl) rfl rfl rfl ?_
       refine XO_v0 (ev_load rfl sct_146 (fun hg => by repeat (first | exact Cell.here rfl | apply Cell.there | apply Cell.app))) rfl rfl rfl ?_
       refine XO_yield0 (vs := [_]) (Post := fun t I3 H3 => if t then J ((pre ++ [a]) ++ [b]) I3 H3 else Jx ((pre ++ [a]) ++ [b]) I3 H3) rfl rfl rfl rfl (hY (pre ++ [a]) b _ _ hpre2 (hI0.trans hI2) hJ1) ?_
       rintro t3 I3 H3 hI3 hP3
       refine XO_nil (at_then ?_)
       refine X_ret ?_
       refine at_block_r ?_
       refine at_then_r ?_
       refine at_block_r ?_
       first
       | (refine at_ret0 rfl (fun w hw => ⟨_, I3, H3, rfl, hI1.trans (hI2.trans hI3), hw.drop, ?_⟩); cases t3 with | true => exact .inl (by rw [hrem, remN_end ha0 (by omega) hab]; simpa using hP3) | false => exact .inr ⟨_, hpre2, hP3⟩)
      ·
       have hab : a % b ≠ 0 := by have h := hc17; simp only [beq_eq_false_iff_ne, ne_eq] at h; omega
       refine X_skip ?_
       refine at_block_n ?_
       exact at_metH2 rfl rfl rfl _ (remL 146 b1 b2 (b) (((a % b : Nat) : Int))) ⟨a % b, Nat.mod_lt _ hbp, b, a % b, pre ++ [a], rfl, rfl, rfl, hI1.trans hI2, hJ1, by rw [hrem, remN_step ha0 (by omega) hab, List.append_assoc]; rfl, by omega, by omega, by have := Nat.mod_lt a hbp; omega⟩ (.cons rfl (.cons rfl (.cons rfl .nil))) .refl
    ·
     refine XO_v0 (ev_max rfl rfl) rfl rfl rfl ?_
     refine XO_nil ?_
     refine at_D hD (by repeat (first | exact .refl | exact subL_nil | refine .keep ?_ | refine .drop ?_ | refine subL_add ?_)) ?_
     refine XD_one 1 rfl (by kernel_rfl) ?_
     refine XO_v0 (ev_load rfl sct_146 (fun hg => by repeat (first | exact Cell.here rfl | apply Cell.there | apply Cell.app))) rfl rfl rfl ?_
     refine XO_nil ?_
     refine at_D hD (by repeat (first | exact .refl | exact subL_nil | refine .keep ?_ | refine .drop ?_ | refine subL_add ?_)) ?_
     refine XD_two 4 5 rfl rfl (by kernel_rfl) ?_ ?_
     ·
      refine XO_v0 (ev_rem rfl rfl (fun hg => by rw [maxI_one hbp]; omega)) rfl rfl rfl ?_
      refine XO_nil ?_
      refine at_D hD (by repeat (first | exact .refl | exact subL_nil | refine .keep ?_ | refine .drop ?_ | refine subL_add ?_)) ?_
      refine XD_one 5 rfl (by kernel_rfl) ?_
      refine XO_store rfl rfl szt_146 rfl rfl (by repeat (first | exact Upd.here | apply Upd.there | apply upd_app)) rfl ?_
      refine XO_nil ?_
      refine at_D hD (by repeat (first | exact .refl | exact subL_nil | refine .keep ?_ | refine .drop ?_ | refine subL_add ?_)) ?_
      refine XD_one 6 rfl (by kernel_rfl) ?_
      refine XO_store rfl rfl szt_146 rfl rfl (by repeat (first | exact Upd.here | apply Upd.there | apply upd_app)) rfl ?_
      refine XO_nil ?_
      refine at_D hD (by repeat (first | exact .refl | exact subL_nil | refine .keep ?_ | refine .drop ?_ | refine subL_add ?_)) ?_
      refine XD_done (by kernel_rfl) ?_
      refine at_noP ?_
      rw [show ((a : Int)).tmod (maxI (b : Int) 1) = ((a % b : Nat) : Int) by rw [maxI_one hbp, tmod_nat]]
      refine at_then ?_
      refine X_seq (X_region ?_)
      refine XO_v0 (ev_load rfl sct_146 (fun hg => by repeat (first | exact Cell.here rfl | apply Cell.there | apply Cell.app))) rfl rfl rfl ?_
      refine XO_v0 (ev_cmp rfl rfl rfl) rfl rfl rfl ?_
      refine XO_nil (at_then ?_)
      refine X_cond rfl (fun hc17 => ?_) (fun hc17 => ?_)
      ·
       have hab : a % b = 0 := by have h := hc17; simp only [beq_iff_eq] at h; omega
       have hpre2 : (pre ++ [a]) ++ [b] <+: remN a0 b0 := by rw [hrem, remN_end ha0 (by omega) hab, List.append_assoc]; exact List.prefix_rfl
       refine X_seq (X_region ?_)
       refine XO_v0 (ev_move rfl) rfl rfl rfl ?_
       refine XO_v0 (ev_load rfl sct_146 (fun hg => by repeat (first | exact Cell.here rfl | apply Cell.there | apply Cell.app))) rfl rfl rfl ?_
       refine XO_yield0 (vs := [_]) (Post := fun t I3 H3 => if t then J ((pre ++ [a]) ++ [b]) I3 H3 else Jx ((pre ++ [a]) ++ [b]) I3 H3) rfl rfl rfl rfl (hY (pre ++ [a]) b _ _ hpre2 (hI0.trans hI2) hJ1) ?_
       rintro t3 I3 H3 hI3 hP3
       refine XO_nil (at_then ?_)
       refine X_ret ?_
       refine at_block_r ?_
       refine at_then_r ?_
       refine at_block_r ?_
       first
       | (refine at_ret0 rfl (fun w hw => ⟨_, I3, H3, rfl, hI1.trans (hI2.trans hI3), hw.drop, ?_⟩); cases t3 with | true => exact .inl (by rw [hrem, remN_end ha0 (by omega) hab]; simpa using hP3) | false => exact .inr ⟨_, hpre2, hP3⟩)
      ·
       have hab : a % b ≠ 0 := by have h := hc17; simp only [beq_eq_false_iff_ne, ne_eq] at h; omega
       refine X_skip ?_
       refine at_block_n ?_
       exact at_metH2 rfl rfl rfl _ (remL 146 b1 b2 (b) (((a % b : Nat) : Int))) ⟨a % b, Nat.mod_lt _ hbp, b, a % b, pre ++ [a], rfl, rfl, rfl, hI1.trans hI2, hJ1, by rw [hrem, remN_step ha0 (by omega) hab, List.append_assoc]; rfl, by omega, by omega, by have := Nat.mod_lt a hbp; omega⟩ (.cons rfl (.cons rfl (.cons rfl .nil))) .refl
     ·
      refine XO_store rfl rfl szt_146 rfl rfl (by repeat (first | exact Upd.here | apply Upd.there | apply upd_app)) rfl ?_
      refine XO_nil ?_
      refine at_D hD (by repeat (first | exact .refl | exact subL_nil | refine .keep ?_ | refine .drop ?_ | refine subL_add ?_)) ?_
      refine XD_one 4 rfl (by kernel_rfl) ?_
      refine XO_v0 (ev_rem rfl rfl (fun hg => by rw [maxI_one hbp]; omega)) rfl rfl rfl ?_
      refine XO_nil ?_
      refine at_D hD (by repeat (first | exact .refl | exact subL_nil | refine .keep ?_ | refine .drop ?_ | refine subL_add ?_)) ?_
      refine XD_one 6 rfl (by kernel_rfl) ?_
      refine XO_store rfl rfl szt_146 rfl rfl (by repeat (first | exact Upd.here | apply Upd.there | apply upd_app)) rfl ?_
      refine XO_nil ?_
      refine at_D hD (by repeat (first | exact .refl | exact subL_nil | refine .keep ?_ | refine .drop ?_ | refine subL_add ?_)) ?_
      refine XD_done (by kernel_rfl) ?_
      refine at_noP ?_
      rw [show ((a : Int)).tmod (maxI (b : Int) 1) = ((a % b : Nat) : Int) by rw [maxI_one hbp, tmod_nat]]
      refine at_then ?_
      refine X_seq (X_region ?_)
      refine XO_v0 (ev_load rfl sct_146 (fun hg => by repeat (first | exact Cell.here rfl | apply Cell.there | apply Cell.app))) rfl rfl rfl ?_
      refine XO_v0 (ev_cmp rfl rfl rfl) rfl rfl rfl ?_
      refine XO_nil (at_then ?_)
      refine X_cond rfl (fun hc17 => ?_) (fun hc17 => ?_)
      ·
       have hab : a % b = 0 := by have h := hc17; simp only [beq_iff_eq] at h; omega
       have hpre2 : (pre ++ [a]) ++ [b] <+: remN a0 b0 := by rw [hrem, remN_end ha0 (by omega) hab, List.append_assoc]; exact List.prefix_rfl
       refine X_seq (X_region ?_)
       refine XO_v0 (ev_move rfl) rfl rfl rfl ?_
       refine XO_v0 (ev_load rfl sct_146 (fun hg => by repeat (first | exact Cell.here rfl | apply Cell.there | apply Cell.app))) rfl rfl rfl ?_
       refine XO_yield0 (vs := [_]) (Post := fun t I3 H3 => if t then J ((pre ++ [a]) ++ [b]) I3 H3 else Jx ((pre ++ [a]) ++ [b]) I3 H3) rfl rfl rfl rfl (hY (pre ++ [a]) b _ _ hpre2 (hI0.trans hI2) hJ1) ?_
       rintro t3 I3 H3 hI3 hP3
       refine XO_nil (at_then ?_)
       refine X_ret ?_
       refine at_block_r ?_
       refine at_then_r ?_
       refine at_block_r ?_
       first
       | (refine at_ret0 rfl (fun w hw => ⟨_, I3, H3, rfl, hI1.trans (hI2.trans hI3), hw.drop, ?_⟩); cases t3 with | true => exact .inl (by rw [hrem, remN_end ha0 (by omega) hab]; simpa using hP3) | false => exact .inr ⟨_, hpre2, hP3⟩)
      ·
       have hab : a % b ≠ 0 := by have h := hc17; simp only [beq_eq_false_iff_ne, ne_eq] at h; omega
       refine X_skip ?_
       refine at_block_n ?_
       exact at_metH2 rfl rfl rfl _ (remL 146 b1 b2 (b) (((a % b : Nat) : Int))) ⟨a % b, Nat.mod_lt _ hbp, b, a % b, pre ++ [a], rfl, rfl, rfl, hI1.trans hI2, hJ1, by rw [hrem, remN_step ha0 (by omega) hab, List.append_assoc]; rfl, by omega, by omega, by have := Nat.mod_lt a hbp; omega⟩ (.cons rfl (.cons rfl (.cons rfl .nil))) .refl
   ·
    refine XO_v0 (ev_load rfl sct_146 (fun hg => by repeat (first | exact Cell.here rfl | apply Cell.there | apply Cell.app))) rfl rfl rfl ?_
    refine XO_nil ?_
    refine at_D hD (by repeat (first | exact .refl | exact subL_nil | refine .keep ?_ | refine .drop ?_ | refine subL_add ?_)) ?_
    refine XD_two 0 3 rfl rfl (by kernel_rfl) ?_ ?_
    ·
     refine XO_v0 (ev_load rfl sct_146 (fun hg => by repeat (first | exact Cell.here rfl | apply Cell.there | apply Cell.app))) rfl rfl rfl ?_
     refine XO_nil ?_
     refine at_D hD (by repeat (first | exact .refl | exact subL_nil | refine .keep ?_ | refine .drop ?_ | refine subL_add ?_)) ?_
     refine XD_two 3 5 rfl rfl (by kernel_rfl) ?_ ?_
     ·
      refine XO_v0 (ev_max rfl rfl) rfl rfl rfl ?_
      refine XO_nil ?_
      refine at_D hD (by repeat (first | exact .refl | exact subL_nil | refine .keep ?_ | refine .drop ?_ | refine subL_add ?_)) ?_
      refine XD_two 4 5 rfl rfl (by kernel_rfl) ?_ ?_
      ·
       refine XO_v0 (ev_rem rfl rfl (fun hg => by rw [maxI_one hbp]; omega)) rfl rfl rfl ?_
       refine XO_nil ?_
       refine at_D hD (by repeat (first | exact .refl | exact subL_nil | refine .keep ?_ | refine .drop ?_ | refine subL_add ?_)) ?_
       refine XD_one 5 rfl (by kernel_rfl) ?_
       refine XO_store rfl rfl szt_146 rfl rfl (by repeat (first | exact Upd.here | apply Upd.there | apply upd_app)) rfl ?_
       refine XO_nil ?_
       refine at_D hD (by repeat (first | exact .refl | exact subL_nil | refine .keep ?_ | refine .drop ?_ | refine subL_add ?_)) ?_
       refine XD_one 6 rfl (by kernel_rfl) ?_
       refine XO_store rfl rfl szt_146 rfl rfl (by repeat (first | exact Upd.here | apply Upd.there | apply upd_app)) rfl ?_
       refine XO_nil ?_
       refine at_D hD (by repeat (first | exact .refl | exact subL_nil | refine .keep ?_ | refine .drop ?_ | refine subL_add ?_)) ?_
       refine XD_done (by kernel_rfl) ?_
       refine at_noP ?_
       rw [show ((a : Int)).tmod (maxI (b : Int) 1) = ((a % b : Nat) : Int) by rw [maxI_one hbp, tmod_nat]]
       refine at_then ?_
       refine X_seq (X_region ?_)
       refine XO_v0 (ev_load rfl sct_146 (fun hg => by repeat (first | exact Cell.here rfl | apply Cell.there | apply Cell.app))) rfl rfl rfl ?_
       refine XO_v0 (ev_cmp rfl rfl rfl) rfl rfl rfl ?_
       refine XO_nil (at_then ?_)
       refine X_cond rfl (fun hc17 => ?_) (fun hc17 => ?_)
       ·
        have hab : a % b = 0 := by have h := hc17; simp only [beq_iff_eq] at h; omega
        have hpre2 : (pre ++ [a]) ++ [b] <+: remN a0 b0 := by rw [hrem, remN_end ha0 (by omega) hab, List.append_assoc]; exact List.prefix_rfl
        refine X_seq (X_region ?_)
        refine XO_v0 (ev_move rfl) rfl rfl rfl ?_
        refine XO_v0 (ev_load rfl sct_146 (fun hg => by repeat (first | exact Cell.here rfl | apply Cell.there | apply Cell.app))) rfl rfl rfl ?_
        refine XO_yield0 (vs := [_]) (Post := fun t I3 H3 => if t then J ((pre ++ [a]) ++ [b]) I3 H3 else Jx ((pre ++ [a]) ++ [b]) I3 H3) rfl rfl rfl rfl (hY (pre ++ [a]) b _ _ hpre2 (hI0.trans hI2) hJ1) ?_
        rintro t3 I3 H3 hI3 hP3
        refine XO_nil (at_then ?_)
        refine X_ret ?_
        refine at_block_r ?_
        refine at_then_r ?_
        refine at_block_r ?_
        first
        | (refine at_ret0 rfl (fun w hw => ⟨_, I3, H3, rfl, hI1.trans (hI2.trans hI3), hw.drop, ?_⟩); cases t3 with | true => exact .inl (by rw [hrem, remN_end ha0 (by omega) hab]; simpa using hP3) | false => exact .inr ⟨_, hpre2, hP3⟩)
       ·
        have hab : a % b ≠ 0 := by have h := hc17; simp only [beq_eq_false_iff_ne, ne_eq] at h; omega
        refine X_skip ?_
        refine at_block_n ?_
        exact at_metH2 rfl rfl rfl _ (remL 146 b1 b2 (b) (((a % b : Nat) : Int))) ⟨a % b, Nat.mod_lt _ hbp, b, a % b, pre ++ [a], rfl, rfl, rfl, hI1.trans hI2, hJ1, by rw [hrem, remN_step ha0 (by omega) hab, List.append_assoc]; rfl, by omega, by omega, by have := Nat.mod_lt a hbp; omega⟩ (.cons rfl (.cons rfl (.cons rfl .nil))) .refl
      ·
       refine XO_store rfl rfl szt_146 rfl rfl (by repeat (first | exact Upd.here | apply Upd.there | apply upd_app)) rfl ?_
       refine XO_nil ?_
       refine at_D hD (by repeat (first | exact .refl | exact subL_nil | refine .keep ?_ | refine .drop ?_ | refine subL_add ?_)) ?_
       refine XD_one 4 rfl (by kernel_rfl) ?_
       refine XO_v0 (ev_rem rfl rfl (fun hg => by rw [maxI_one hbp]; omega)) rfl rfl rfl ?_
       refine XO_nil ?_
       refine at_D hD (by repeat (first | exact .refl | exact subL_nil | refine .keep ?_ | refine .drop ?_ | refine subL_add ?_)) ?_
       refine XD_one 6 rfl (by kernel_rfl) ?_
       refine XO_store rfl rfl szt_146 rfl rfl (by repeat (first | exact Upd.here | apply Upd.there | apply upd_app)) rfl ?_
       refine XO_nil ?_
       refine at_D hD (by repeat (first | exact .refl | exact subL_nil | refine .keep ?_ | refine .drop ?_ | refine subL_add ?_)) ?_
       refine XD_done (by kernel_rfl) ?_
       refine at_noP ?_
       rw [show ((a : Int)).tmod (maxI (b : Int) 1) = ((a % b : Nat) : Int) by rw [maxI_one hbp, tmod_nat]]
       refine at_then ?_
       refine X_seq (X_region ?_)
       refine XO_v0 (ev_load rfl sct_146 (fun hg => by repeat (first | exact Cell.here rfl | apply Cell.there | apply Cell.app))) rfl rfl rfl ?_
       refine XO_v0 (ev_cmp rfl rfl rfl) rfl rfl rfl ?_
       refine XO_nil (at_then ?_)
       refine X_cond rfl (fun hc17 => ?_) (fun hc17 => ?_)
       ·
        have hab : a % b = 0 := by have h := hc17; simp only [beq_iff_eq] at h; omega
        have hpre2 : (pre ++ [a]) ++ [b] <+: remN a0 b0 := by rw [hrem, remN_end ha0 (by omega) hab, List.append_assoc]; exact List.prefix_rfl
        refine X_seq (X_region ?_)
        refine XO_v0 (ev_move rfl) rfl rfl rfl ?_
        refine XO_v0 (ev_load rfl sct_146 (fun hg => by repeat (first | exact Cell.here rfl | apply Cell.there | apply Cell.app))) rfl rfl rfl ?_
        refine XO_yield0 (vs := [_]) (Post := fun t I3 H3 => if t then J ((pre ++ [a]) ++ [b]) I3 H3 else Jx ((pre ++ [a]) ++ [b]) I3 H3) rfl rfl rfl rfl (hY (pre ++ [a]) b _ _ hpre2 (hI0.trans hI2) hJ1) ?_
        rintro t3 I3 H3 hI3 hP3
        refine XO_nil (at_then ?_)
        refine X_ret ?_
        refine at_block_r ?_
        refine at_then_r ?_
        refine at_block_r ?_
        first
        | (refine at_ret0 rfl (fun w hw => ⟨_, I3, H3, rfl, hI1.trans (hI2.trans hI3), hw.drop, ?_⟩); cases t3 with | true => exact .inl (by rw [hrem, remN_end ha0 (by omega) hab]; simpa using hP3) | false => exact .inr ⟨_, hpre2, hP3⟩)
       ·
        have hab : a % b ≠ 0 := by have h := hc17; simp only [beq_eq_false_iff_ne, ne_eq] at h; omega
        refine X_skip ?_
        refine at_block_n ?_
        exact at_metH2 rfl rfl rfl _ (remL 146 b1 b2 (b) (((a % b : Nat) : Int))) ⟨a % b, Nat.mod_lt _ hbp, b, a % b, pre ++ [a], rfl, rfl, rfl, hI1.trans hI2, hJ1, by rw [hrem, remN_step ha0 (by omega) hab, List.append_assoc]; rfl, by omega, by omega, by have := Nat.mod_lt a hbp; omega⟩ (.cons rfl (.cons rfl (.cons rfl .nil))) .refl
     ·
      refine XO_store rfl rfl szt_146 rfl rfl (by repeat (first | exact Upd.here | apply Upd.there | apply upd_app)) rfl ?_
      refine XO_nil ?_
      refine at_D hD (by repeat (first | exact .refl | exact subL_nil | refine .keep ?_ | refine .drop ?_ | refine subL_add ?_)) ?_
      refine XD_one 3 rfl (by kernel_rfl) ?_
      refine XO_v0 (ev_max rfl rfl) rfl rfl rfl ?_
      refine XO_nil ?_
      refine at_D hD (by repeat (first | exact .refl | exact subL_nil | refine .keep ?_ | refine .drop ?_ | refine subL_add ?_)) ?_
      refine XD_one 4 rfl (by kernel_rfl) ?_
      refine XO_v0 (ev_rem rfl rfl (fun hg => by rw [maxI_one hbp]; omega)) rfl rfl rfl ?_
      refine XO_nil ?_
      refine at_D hD (by repeat (first | exact .refl | exact subL_nil | refine .keep ?_ | refine .drop ?_ | refine subL_add ?_)) ?_
      refine XD_one 6 rfl (by kernel_rfl) ?_
      refine XO_store rfl rfl szt_146 rfl rfl (by repeat (first | exact Upd.here | apply Upd.there | apply upd_app)) rfl ?_
      refine XO_nil ?_
      refine at_D hD (by repeat (first | exact .refl | exact subL_nil | refine .keep ?_ | refine .drop ?_ | refine subL_add ?_)) ?_
      refine XD_done (by kernel_rfl) ?_
      refine at_noP ?_
      rw [show ((a : Int)).tmod (maxI (b : Int) 1) = ((a % b : Nat) : Int) by rw [maxI_one hbp, tmod_nat]]
      refine at_then ?_
      refine X_seq (X_region ?_)
      refine XO_v0 (ev_load rfl sct_146 (fun hg => by repeat (first | exact Cell.here rfl | apply Cell.there | apply Cell.app))) rfl rfl rfl ?_
      refine XO_v0 (ev_cmp rfl rfl rfl) rfl rfl rfl ?_
      refine XO_nil (at_then ?_)
      refine X_cond rfl (fun hc17 => ?_) (fun hc17 => ?_)
      ·
       have hab : a % b = 0 := by have h := hc17; simp only [beq_iff_eq] at h; omega
       have hpre2 : (pre ++ [a]) ++ [b] <+: remN a0 b0 := by rw [hrem, remN_end ha0 (by omega) hab, List.append_assoc]; exact List.prefix_rfl
       refine X_seq (X_region ?_)
       refine XO_v0 (ev_move rfl) rfl rfl rfl ?_
       refine XO_v0 (ev_load rfl sct_146 (fun hg => by repeat (first | exact Cell.here rfl | apply Cell.there | apply Cell.app))) rfl rfl rfl ?_
       refine XO_yield0 (vs := [_]) (Post := fun t I3 H3 => if t then J ((pre ++ [a]) ++ [b]) I3 H3 else Jx ((pre ++ [a]) ++ [b]) I3 H3) rfl rfl rfl rfl (hY (pre ++ [a]) b _ _ hpre2 (hI0.trans hI2) hJ1) ?_
       rintro t3 I3 H3 hI3 hP3
       refine XO_nil (at_then ?_)
       refine X_ret ?_
       refine at_block_r ?_
       refine at_then_r ?_
       refine at_block_r ?_
       first
       | (refine at_ret0 rfl (fun w hw => ⟨_, I3, H3, rfl, hI1.trans (hI2.trans hI3), hw.drop, ?_⟩); cases t3 with | true => exact .inl (by rw [hrem, remN_end ha0 (by omega) hab]; simpa using hP3) | false => exact .inr ⟨_, hpre2, hP3⟩)
      ·
       have hab : a % b ≠ 0 := by have h := hc17; simp only [beq_eq_false_iff_ne, ne_eq] at h; omega
       refine X_skip ?_
       refine at_block_n ?_
       exact at_metH2 rfl rfl rfl _ (remL 146 b1 b2 (b) (((a % b : Nat) : Int))) ⟨a % b, Nat.mod_lt _ hbp, b, a % b, pre ++ [a], rfl, rfl, rfl, hI1.trans hI2, hJ1, by rw [hrem, remN_step ha0 (by omega) hab, List.append_assoc]; rfl, by omega, by omega, by have := Nat.mod_lt a hbp; omega⟩ (.cons rfl (.cons rfl (.cons rfl .nil))) .refl
    ·
     refine XO_v0 (ev_max rfl rfl) rfl rfl rfl ?_
     refine XO_nil ?_
     refine at_D hD (by repeat (first | exact .refl | exact subL_nil | refine .keep ?_ | refine .drop ?_ | refine subL_add ?_)) ?_
     refine XD_two 0 4 rfl rfl (by kernel_rfl) ?_ ?_
     ·
      refine XO_v0 (ev_load rfl sct_146 (fun hg => by repeat (first | exact Cell.here rfl | apply Cell.there | apply Cell.app))) rfl rfl rfl ?_
      refine XO_nil ?_
      refine at_D hD (by repeat (first | exact .refl | exact subL_nil | refine .keep ?_ | refine .drop ?_ | refine subL_add ?_)) ?_
      refine XD_two 4 5 rfl rfl (by kernel_rfl) ?_ ?_
      ·
       refine XO_v0 (ev_rem rfl rfl (fun hg => by rw [maxI_one hbp]; omega)) rfl rfl rfl ?_
       refine XO_nil ?_
       refine at_D hD (by repeat (first | exact .refl | exact subL_nil | refine .keep ?_ | refine .drop ?_ | refine subL_add ?_)) ?_
       refine XD_one 5 rfl (by kernel_rfl) ?_
       refine XO_store rfl rfl szt_146 rfl rfl (by repeat (first | exact Upd.here | apply Upd.there | apply upd_app)) rfl ?_
       refine XO_nil ?_
       refine at_D hD (by repeat (first | exact .refl | exact subL_nil | refine .keep ?_ | refine .drop ?_ | refine subL_add ?_)) ?_
       refine XD_one 6 rfl (by kernel_rfl) ?_
       refine XO_store rfl rfl szt_146 rfl rfl (by repeat (first | exact Upd.here | apply Upd.there | apply upd_app)) rfl ?_
       refine XO_nil ?_
       refine at_D hD (by repeat (first | exact .refl | exact subL_nil | refine .keep ?_ | refine .drop ?_ | refine subL_add ?_)) ?_
       refine XD_done (by kernel_rfl) ?_
       refine at_noP ?_
       rw [show ((a : Int)).tmod (maxI (b : Int) 1) = ((a % b : Nat) : Int) by rw [maxI_one hbp, tmod_nat]]
       refine at_then ?_
       refine X_seq (X_region ?_)
       refine XO_v0 (ev_load rfl sct_146 (fun hg => by repeat (first | exact Cell.here rfl | apply Cell.there | apply Cell.app))) rfl rfl rfl ?_
       refine XO_v0 (ev_cmp rfl rfl rfl) rfl rfl rfl ?_
       refine XO_nil (at_then ?_)
       refine X_cond rfl (fun hc17 => ?_) (fun hc17 => ?_)
       ·
        have hab : a % b = 0 := by have h := hc17; simp only [beq_iff_eq] at h; omega
        have hpre2 : (pre ++ [a]) ++ [b] <+: remN a0 b0 := by rw [hrem, remN_end ha0 (by omega) hab, List.append_assoc]; exact List.prefix_rfl
        refine X_seq (X_region ?_)
        refine XO_v0 (ev_move rfl) rfl rfl rfl ?_
        refine XO_v0 (ev_load rfl sct_146 (fun hg => by repeat (first | exact Cell.here rfl | apply Cell.there | apply Cell.app))) rfl rfl rfl ?_
        refine XO_yield0 (vs := [_]) (Post := fun t I3 H3 => if t then J ((pre ++ [a]) ++ [b]) I3 H3 else Jx ((pre ++ [a]) ++ [b]) I3 H3) rfl rfl rfl rfl (hY (pre ++ [a]) b _ _ hpre2 (hI0.trans hI2) hJ1) ?_
        rintro t3 I3 H3 hI3 hP3
        refine XO_nil (at_then ?_)
        refine X_ret ?_
        refine at_block_r ?_
        refine at_then_r ?_
        refine at_block_r ?_
        first
        | (refine at_ret0 rfl (fun w hw => ⟨_, I3, H3, rfl, hI1.trans (hI2.trans hI3), hw.drop, ?_⟩); cases t3 with | true => exact .inl (by rw [hrem, remN_end ha0 (by omega) hab]; simpa using hP3) | false => exact .inr ⟨_, hpre2, hP3⟩)
       ·
        have hab : a % b ≠ 0 := by have h := hc17; simp only [beq_eq_false_iff_ne, ne_eq] at h; omega
        refine X_skip ?_
        refine at_block_n ?_
        exact at_metH2 rfl rfl rfl _ (remL 146 b1 b2 (b) (((a % b : Nat) : Int))) ⟨a % b, Nat.mod_lt _ hbp, b, a % b, pre ++ [a], rfl, rfl, rfl, hI1.trans hI2, hJ1, by rw [hrem, remN_step ha0 (by omega) hab, List.append_assoc]; rfl, by omega, by omega, by have := Nat.mod_lt a hbp; omega⟩ (.cons rfl (.cons rfl (.cons rfl .nil))) .refl
      ·
       refine XO_store rfl rfl szt_146 rfl rfl (by repeat (first | exact Upd.here | apply Upd.there | apply upd_app)) rfl ?_
       refine XO_nil ?_
       refine at_D hD (by repeat (first | exact .refl | exact subL_nil | refine .keep ?_ | refine .drop ?_ | refine subL_add ?_)) ?_
       refine XD_one 4 rfl (by kernel_rfl) ?_
       refine XO_v0 (ev_rem rfl rfl (fun hg => by rw [maxI_one hbp]; omega)) rfl rfl rfl ?_
       refine XO_nil ?_
       refine at_D hD (by repeat (first | exact .refl | exact subL_nil | refine .keep ?_ | refine .drop ?_ | refine subL_add ?_)) ?_
       refine XD_one 6 rfl (by kernel_rfl) ?_
       refine XO_store rfl rfl szt_146 rfl rfl (by repeat (first | exact Upd.here | apply Upd.there | apply upd_app)) rfl ?_
       refine XO_nil ?_
       refine at_D hD (by repeat (first | exact .refl | exact subL_nil | refine .keep ?_ | refine .drop ?_ | refine subL_add ?_)) ?_
       refine XD_done (by kernel_rfl) ?_
       refine at_noP ?_
       rw [show ((a : Int)).tmod (maxI (b : Int) 1) = ((a % b : Nat) : Int) by rw [maxI_one hbp, tmod_nat]]
       refine at_then ?_
       refine X_seq (X_region ?_)
       refine XO_v0 (ev_load rfl sct_146 (fun hg => by repeat (first | exact Cell.here rfl | apply Cell.there | apply Cell.app))) rfl rfl rfl ?_
       refine XO_v0 (ev_cmp rfl rfl rfl) rfl rfl rfl ?_
       refine XO_nil (at_then ?_)
       refine X_cond rfl (fun hc17 => ?_) (fun hc17 => ?_)
       ·
        have hab : a % b = 0 := by have h := hc17; simp only [beq_iff_eq] at h; omega
        have hpre2 : (pre ++ [a]) ++ [b] <+: remN a0 b0 := by rw [hrem, remN_end ha0 (by omega) hab, List.append_assoc]; exact List.prefix_rfl
        refine X_seq (X_region ?_)
        refine XO_v0 (ev_move rfl) rfl rfl rfl ?_
        refine XO_v0 (ev_load rfl sct_146 (fun hg => by repeat (first | exact Cell.here rfl | apply Cell.there | apply Cell.app))) rfl rfl rfl ?_
        refine XO_yield0 (vs := [_]) (Post := fun t I3 H3 => if t then J ((pre ++ [a]) ++ [b]) I3 H3 else Jx ((pre ++ [a]) ++ [b]) I3 H3) rfl rfl rfl rfl (hY (pre ++ [a]) b _ _ hpre2 (hI0.trans hI2) hJ1) ?_
        rintro t3 I3 H3 hI3 hP3
        refine XO_nil (at_then ?_)
        refine X_ret ?_
        refine at_block_r ?_
        refine at_then_r ?_
        refine at_block_r ?_
        first
        | (refine at_ret0 rfl (fun w hw => ⟨_, I3, H3, rfl, hI1.trans (hI2.trans hI3), hw.drop, ?_⟩); cases t3 with | true => exact .inl (by rw [hrem, remN_end ha0 (by omega) hab]; simpa using hP3) | false => exact .inr ⟨_, hpre2, hP3⟩)
       ·
        have hab : a % b ≠ 0 := by have h := hc17; simp only [beq_eq_false_iff_ne, ne_eq] at h; omega
        refine X_skip ?_
        refine at_block_n ?_
        exact at_metH2 rfl rfl rfl _ (remL 146 b1 b2 (b) (((a % b : Nat) : Int))) ⟨a % b, Nat.mod_lt _ hbp, b, a % b, pre ++ [a], rfl, rfl, rfl, hI1.trans hI2, hJ1, by rw [hrem, remN_step ha0 (by omega) hab, List.append_assoc]; rfl, by omega, by omega, by have := Nat.mod_lt a hbp; omega⟩ (.cons rfl (.cons rfl (.cons rfl .nil))) .refl
     ·
      refine XO_v0 (ev_rem rfl rfl (fun hg => by rw [maxI_one hbp]; omega)) rfl rfl rfl ?_
      refine XO_nil ?_
      refine at_D hD (by repeat (first | exact .refl | exact subL_nil | refine .keep ?_ | refine .drop ?_ | refine subL_add ?_)) ?_
      refine XD_one 0 rfl (by kernel_rfl) ?_
      refine XO_v0 (ev_load rfl sct_146 (fun hg => by repeat (first | exact Cell.here rfl | apply Cell.there | apply Cell.app))) rfl rfl rfl ?_
      refine XO_nil ?_
      refine at_D hD (by repeat (first | exact .refl | exact subL_nil | refine .keep ?_ | refine .drop ?_ | refine subL_add ?_)) ?_
      refine XD_one 5 rfl (by kernel_rfl) ?_
      refine XO_store rfl rfl szt_146 rfl rfl (by repeat (first | exact Upd.here | apply Upd.there | apply upd_app)) rfl ?_
      refine XO_nil ?_
      refine at_D hD (by repeat (first | exact .refl | exact subL_nil | refine .keep ?_ | refine .drop ?_ | refine subL_add ?_)) ?_
      refine XD_one 6 rfl (by kernel_rfl) ?_
      refine XO_store rfl rfl szt_146 rfl rfl (by repeat (first | exact Upd.here | apply Upd.there | apply upd_app)) rfl ?_
      refine XO_nil ?_
      refine at_D hD (by repeat (first | exact .refl | exact subL_nil | refine .keep ?_ | refine .drop ?_ | refine subL_add ?_)) ?_
      refine XD_done (by kernel_rfl) ?_
      refine at_noP ?_
      rw [show ((a : Int)).tmod (maxI (b : Int) 1) = ((a % b : Nat) : Int) by rw [maxI_one hbp, tmod_nat]]
      refine at_then ?_
      refine X_seq (X_region ?_)
      refine XO_v0 (ev_load rfl sct_146 (fun hg => by repeat (first | exact Cell.here rfl | apply Cell.there | apply Cell.app))) rfl rfl rfl ?_
      refine XO_v0 (ev_cmp rfl rfl rfl) rfl rfl rfl ?_
      refine XO_nil (at_then ?_)
      refine X_cond rfl (fun hc17 => ?_) (fun hc17 => ?_)
      ·
       have hab : a % b = 0 := by have h := hc17; simp only [beq_iff_eq] at h; omega
       have hpre2 : (pre ++ [a]) ++ [b] <+: remN a0 b0 := by rw [hrem, remN_end ha0 (by omega) hab, List.append_assoc]; exact List.prefix_rfl
       refine X_seq (X_region ?_)
       refine XO_v0 (ev_move rfl) rfl rfl rfl ?_
       refine XO_v0 (ev_load rfl sct_146 (fun hg => by repeat (first | exact Cell.here rfl | apply Cell.there | apply Cell.app))) rfl rfl rfl ?_
       refine XO_yield0 (vs := [_]) (Post := fun t I3 H3 => if t then J ((pre ++ [a]) ++ [b]) I3 H3 else Jx ((pre ++ [a]) ++ [b]) I3 H3) rfl rfl rfl rfl (hY (pre ++ [a]) b _ _ hpre2 (hI0.trans hI2) hJ1) ?_
       rintro t3 I3 H3 hI3 hP3
       refine XO_nil (at_then ?_)
       refine X_ret ?_
       refine at_block_r ?_
       refine at_then_r ?_
       refine at_block_r ?_
       first
       | (refine at_ret0 rfl (fun w hw => ⟨_, I3, H3, rfl, hI1.trans (hI2.trans hI3), hw.drop, ?_⟩); cases t3 with | true => exact .inl (by rw [hrem, remN_end ha0 (by omega) hab]; simpa using hP3) | false => exact .inr ⟨_, hpre2, hP3⟩)
      ·
       have hab : a % b ≠ 0 := by have h := hc17; simp only [beq_eq_false_iff_ne, ne_eq] at h; omega
       refine X_skip ?_
       refine at_block_n ?_
       exact at_metH2 rfl rfl rfl _ (remL 146 b1 b2 (b) (((a % b : Nat) : Int))) ⟨a % b, Nat.mod_lt _ hbp, b, a % b, pre ++ [a], rfl, rfl, rfl, hI1.trans hI2, hJ1, by rw [hrem, remN_step ha0 (by omega) hab, List.append_assoc]; rfl, by omega, by omega, by have := Nat.mod_lt a hbp; omega⟩ (.cons rfl (.cons rfl (.cons rfl .nil))) .refl
   ·
    refine XO_v0 (ev_max rfl rfl) rfl rfl rfl ?_
    refine XO_nil ?_
    refine at_D hD (by repeat (first | exact .refl | exact subL_nil | refine .keep ?_ | refine .drop ?_ | refine subL_add ?_)) ?_
    refine XD_two 0 1 rfl rfl (by kernel_rfl) ?_ ?_
    ·
     refine XO_v0 (ev_load rfl sct_146 (fun hg => by repeat (first | exact Cell.here rfl | apply Cell.there | apply Cell.app))) rfl rfl rfl ?_
     refine XO_nil ?_
     refine at_D hD (by repeat (first | exact .refl | exact subL_nil | refine .keep ?_ | refine .drop ?_ | refine subL_add ?_)) ?_
     refine XD_one 1 rfl (by kernel_rfl) ?_
     refine XO_v0 (ev_load rfl sct_146 (fun hg => by repeat (first | exact Cell.here rfl | apply Cell.there | apply Cell.app))) rfl rfl rfl ?_
     refine XO_nil ?_
     refine at_D hD (by repeat (first | exact .refl | exact subL_nil | refine .keep ?_ | refine .drop ?_ | refine subL_add ?_)) ?_
     refine XD_two 4 5 rfl rfl (by kernel_rfl) ?_ ?_
     ·
      refine XO_v0 (ev_rem rfl rfl (fun hg => by rw [maxI_one hbp]; omega)) rfl rfl rfl ?_
      refine XO_nil ?_
      refine at_D hD (by repeat (first | exact .refl | exact subL_nil | refine .keep ?_ | refine .drop ?_ | refine subL_add ?_)) ?_
      refine XD_one 5 rfl (by kernel_rfl) ?_
      refine XO_store rfl rfl szt_146 rfl rfl (by repeat (first | exact Upd.here | apply Upd.there | apply upd_app)) rfl ?_
      refine XO_nil ?_
      refine at_D hD (by repeat (first | exact .refl | exact subL_nil | refine .keep ?_ | refine .drop ?_ | refine subL_add ?_)) ?_
      refine XD_one 6 rfl (by kernel_rfl) ?_
      refine XO_store rfl rfl szt_146 rfl rfl (by repeat (first | exact Upd.here | apply Upd.there | apply upd_app)) rfl ?_
      refine XO_nil ?_
      refine at_D hD (by repeat (first | exact .refl | exact subL_nil | refine .keep ?_ | refine .drop ?_ | refine subL_add ?_)) ?_
      refine XD_done (by kernel_rfl) ?_
      refine at_noP ?_
      rw [show ((a : Int)).tmod (maxI (b : Int) 1) = ((a % b : Nat) : Int) by rw [maxI_one hbp, tmod_nat]]
      refine at_then ?_
      refine X_seq (X_region ?_)
      refine XO_v0 (ev_load rfl sct_146 (fun hg => by repeat (first | exact Cell.here rfl | apply Cell.there | apply Cell.app))) rfl rfl rfl ?_
      refine XO_v0 (ev_cmp rfl rfl rfl) rfl rfl rfl ?_
      refine XO_nil (at_then ?_)
      refine X_cond rfl (fun hc17 => ?_) (fun hc17 => ?_)
      ·
       have hab : a % b = 0 := by have h := hc17; simp only [beq_iff_eq] at h; omega
       have hpre2 : (pre ++ [a]) ++ [b] <+: remN a0 b0 := by rw [hrem, remN_end ha0 (by omega) hab, List.append_assoc]; exact List.prefix_rfl
       refine X_seq (X_region ?_)
       refine XO_v0 (ev_move rfl) rfl rfl rfl ?_
       refine XO_v0 (ev_load rfl sct_146 (fun hg => by repeat (first | exact Cell.here rfl | apply Cell.there | apply Cell.app))) rfl rfl rfl ?_
       refine XO_yield0 (vs := [_]) (Post := fun t I3 H3 => if t then J ((pre ++ [a]) ++ [b]) I3 H3 else Jx ((pre ++ [a]) ++ [b]) I3 H3) rfl rfl rfl rfl (hY (pre ++ [a]) b _ _ hpre2 (hI0.trans hI2) hJ1) ?_
       rintro t3 I3 H3 hI3 hP3
       refine XO_nil (at_then ?_)
       refine X_ret ?_
       refine at_block_r ?_
       refine at_then_r ?_
       refine at_block_r ?_
       first
       | (refine at_ret0 rfl (fun w hw => ⟨_, I3, H3, rfl, hI1.trans (hI2.trans hI3), hw.drop, ?_⟩); cases t3 with | true => exact .inl (by rw [hrem, remN_end ha0 (by omega) hab]; simpa using hP3) | false => exact .inr ⟨_, hpre2, hP3⟩)
      ·
       have hab : a % b ≠ 0 := by have h := hc17; simp only [beq_eq_false_iff_ne, ne_eq] at h; omega
       refine X_skip ?_
       refine at_block_n ?_
       exact at_metH2 rfl rfl rfl _ (remL 146 b1 b2 (b) (((a % b : Nat) : Int))) ⟨a % b, Nat.mod_lt _ hbp, b, a % b, pre ++ [a], rfl, rfl, rfl, hI1.trans hI2, hJ1, by rw [hrem, remN_step ha0 (by omega) hab, List.append_assoc]; rfl, by omega, by omega, by have := Nat.mod_lt a hbp; omega⟩ (.cons rfl (.cons rfl (.cons rfl .nil))) .refl
     ·
      refine XO_store rfl rfl szt_146 rfl rfl (by repeat (first | exact Upd.here | apply Upd.there | apply upd_app)) rfl ?_
      refine XO_nil ?_
      refine at_D hD (by repeat (first | exact .refl | exact subL_nil | refine .keep ?_ | refine .drop ?_ | refine subL_add ?_)) ?_
      refine XD_one 4 rfl (by kernel_rfl) ?_
      refine XO_v0 (ev_rem rfl rfl (fun hg => by rw [maxI_one hbp]; omega)) rfl rfl rfl ?_
      refine XO_nil ?_
      refine at_D hD (by repeat (first | exact .refl | exact subL_nil | refine .keep ?_ | refine .drop ?_ | refine subL_add ?_)) ?_
      refine XD_one 6 rfl (by kernel_rfl) ?_
      refine XO_store rfl rfl szt_146 rfl rfl (by repeat (first | exact Upd.here | apply Upd.there | apply upd_app)) rfl ?_
      refine XO_nil ?_
      refine at_D hD (by repeat (first | exact .refl | exact subL_nil | refine .keep ?_ | refine .drop ?_ | refine subL_add ?_)) ?_
      refine XD_done (by kernel_rfl) ?_
      refine at_noP ?_
      rw [show ((a : Int)).tmod (maxI (b : Int) 1) = ((a % b : Nat) : Int) by rw [maxI_one hbp, tmod_nat]]
      refine at_then ?_
      refine X_seq (X_region ?_)
      refine XO_v0 (ev_load rfl sct_146 (fun hg => by repeat (first | exact Cell.here rfl | apply Cell.there | apply Cell.app))) rfl rfl rfl ?_
      refine XO_v0 (ev_cmp rfl rfl rfl) rfl rfl rfl ?_
      refine XO_nil (at_then ?_)
      refine X_cond rfl (fun hc17 => ?_) (fun hc17 => ?_)
      ·
       have hab : a % b = 0 := by have h := hc17; simp only [beq_iff_eq] at h; omega
       have hpre2 : (pre ++ [a]) ++ [b] <+: remN a0 b0 := by rw [hrem, remN_end ha0 (by omega) hab, List.append_assoc]; exact List.prefix_rfl
       refine X_seq (X_region ?_)
       refine XO_v0 (ev_move rfl) rfl rfl rfl ?_
       refine XO_v0 (ev_load rfl sct_146 (fun hg => by repeat (first | exact Cell.here rfl | apply Cell.there | apply Cell.app))) rfl rfl rfl ?_
       refine XO_yield0 (vs := [_]) (Post := fun t I3 H3 => if t then J ((pre ++ [a]) ++ [b]) I3 H3 else Jx ((pre ++ [a]) ++ [b]) I3 H3) rfl rfl rfl rfl (hY (pre ++ [a]) b _ _ hpre2 (hI0.trans hI2) hJ1) ?_
       rintro t3 I3 H3 hI3 hP3
       refine XO_nil (at_then ?_)
       refine X_ret ?_
       refine at_block_r ?_
       refine at_then_r ?_
       refine at_block_r ?_
       first
       | (refine at_ret0 rfl (fun w hw => ⟨_, I3, H3, rfl, hI1.trans (hI2.trans hI3), hw.drop, ?_⟩); cases t3 with | true => exact .inl (by rw [hrem, remN_end ha0 (by omega) hab]; simpa using hP3) | false => exact .inr ⟨_, hpre2, hP3⟩)
      ·
       have hab : a % b ≠ 0 := by have h := hc17; simp only [beq_eq_false_iff_ne, ne_eq] at h; omega
       refine X_skip ?_
       refine at_block_n ?_
       exact at_metH2 rfl rfl rfl _ (remL 146 b1 b2 (b) (((a % b : Nat) : Int))) ⟨a % b, Nat.mod_lt _ hbp, b, a % b, pre ++ [a], rfl, rfl, rfl, hI1.trans hI2, hJ1, by rw [hrem, remN_step ha0 (by omega) hab, List.append_assoc]; rfl, by omega, by omega, by have := Nat.mod_lt a hbp; omega⟩ (.cons rfl (.cons rfl (.cons rfl .nil))) .refl
    ·
     refine XO_v0 (ev_load rfl sct_146 (fun hg => by repeat (first | exact Cell.here rfl | apply Cell.there | apply Cell.app))) rfl rfl rfl ?_
     refine XO_nil ?_
     refine at_D hD (by repeat (first | exact .refl | exact subL_nil | refine .keep ?_ | refine .drop ?_ | refine subL_add ?_)) ?_
     refine XD_two 0 4 rfl rfl (by kernel_rfl) ?_ ?_
     ·
      refine XO_v0 (ev_load rfl sct_146 (fun hg => by repeat (first | exact Cell.here rfl | apply Cell.there | apply Cell.app))) rfl rfl rfl ?_
      refine XO_nil ?_
      refine at_D hD (by repeat (first | exact .refl | exact subL_nil | refine .keep ?_ | refine .drop ?_ | refine subL_add ?_)) ?_
      refine XD_two 4 5 rfl rfl (by kernel_rfl) ?_ ?_
      ·
       refine XO_v0 (ev_rem rfl rfl (fun hg => by rw [maxI_one hbp]; omega)) rfl rfl rfl ?_
       refine XO_nil ?_
       refine at_D hD (by repeat (first | exact .refl | exact subL_nil | refine .keep ?_ | refine .drop ?_ | refine subL_add ?_)) ?_
       refine XD_one 5 rfl (by kernel_rfl) ?_
       refine XO_store rfl rfl szt_146 rfl rfl (by repeat (first | exact Upd.here | apply Upd.there | apply upd_app)) rfl ?_
       refine XO_nil ?_
       refine at_D hD (by repeat (first | exact .refl | exact subL_nil | refine .keep ?_ | refine .drop ?_ | refine subL_add ?_)) ?_
       refine XD_one 6 rfl (by kernel_rfl) ?_
       refine XO_store rfl rfl szt_146 rfl rfl (by repeat (first | exact Upd.here | apply Upd.there | apply upd_app)) rfl ?_
       refine XO_nil ?_
       refine at_D hD (by repeat (first | exact .refl | exact subL_nil | refine .keep ?_ | refine .drop ?_ | refine subL_add ?_)) ?_
       refine XD_done (by kernel_rfl) ?_
       refine at_noP ?_
       rw [show ((a : Int)).tmod (maxI (b : Int) 1) = ((a % b : Nat) : Int) by rw [maxI_one hbp, tmod_nat]]
       refine at_then ?_
       refine X_seq (X_region ?_)
       refine XO_v0 (ev_load rfl sct_146 (fun hg => by repeat (first | exact Cell.here rfl | apply Cell.there | apply Cell.app))) rfl rfl rfl ?_
       refine XO_v0 (ev_cmp rfl rfl rfl) rfl rfl rfl ?_
       refine XO_nil (at_then ?_)
       refine X_cond rfl (fun hc17 => ?_) (fun hc17 => ?_)
       ·
        have hab : a % b = 0 := by have h := hc17; simp only [beq_iff_eq] at h; omega
        have hpre2 : (pre ++ [a]) ++ [b] <+: remN a0 b0 := by rw [hrem, remN_end ha0 (by omega) hab, List.append_assoc]; exact List.prefix_rfl
        refine X_seq (X_region ?_)
        refine XO_v0 (ev_move rfl) rfl rfl rfl ?_
        refine XO_v0 (ev_load rfl sct_146 (fun hg => by repeat (first | exact Cell.here rfl | apply Cell.there | apply Cell.app))) rfl rfl rfl ?_
        refine XO_yield0 (vs := [_]) (Post := fun t I3 H3 => if t then J ((pre ++ [a]) ++ [b]) I3 H3 else Jx ((pre ++ [a]) ++ [b]) I3 H3) rfl rfl rfl rfl (hY (pre ++ [a]) b _ _ hpre2 (hI0.trans hI2) hJ1) ?_
        rintro t3 I3 H3 hI3 hP3
        refine XO_nil (at_then ?_)
        refine X_ret ?_
        refine at_block_r ?_
        refine at_then_r ?_
        refine at_block_r ?_
        first
        | (refine at_ret0 rfl (fun w hw => ⟨_, I3, H3, rfl, hI1.trans (hI2.trans hI3), hw.drop, ?_⟩); cases t3 with | true => exact .inl (by rw [hrem, remN_end ha0 (by omega) hab]; simpa using hP3) | false => exact .inr ⟨_, hpre2, hP3⟩)
       ·
        have hab : a % b ≠ 0 := by have h := hc17; simp only [beq_eq_false_iff_ne, ne_eq] at h; omega
        refine X_skip ?_
        refine at_block_n ?_
        exact at_metH2 rfl rfl rfl _ (remL 146 b1 b2 (b) (((a % b : Nat) : Int))) ⟨a % b, Nat.mod_lt _ hbp, b, a % b, pre ++ [a], rfl, rfl, rfl, hI1.trans hI2, hJ1, by rw [hrem, remN_step ha0 (by omega) hab, List.append_assoc]; rfl, by omega, by omega, by have := Nat.mod_lt a hbp; omega⟩ (.cons rfl (.cons rfl (.cons rfl .nil))) .refl
      ·
       refine XO_store rfl rfl szt_146 rfl rfl (by repeat (first | exact Upd.here | apply Upd.there | apply upd_app)) rfl ?_
       refine XO_nil ?_
       refine at_D hD (by repeat (first | exact .refl | exact subL_nil | refine .keep ?_ | refine .drop ?_ | refine subL_add ?_)) ?_
       refine XD_one 4 rfl (by kernel_rfl) ?_
       refine XO_v0 (ev_rem rfl rfl (fun hg => by rw [maxI_one hbp]; omega)) rfl rfl rfl ?_
       refine XO_nil ?_
       refine at_D hD (by repeat (first | exact .refl | exact subL_nil | refine .keep ?_ | refine .drop ?_ | refine subL_add ?_)) ?_
       refine XD_one 6 rfl (by kernel_rfl) ?_
       refine XO_store rfl rfl szt_146 rfl rfl (by repeat (first | exact Upd.here | apply Upd.there | apply upd_app)) rfl ?_
       refine XO_nil ?_
       refine at_D hD (by repeat (first | exact .refl | exact subL_nil | refine .keep ?_ | refine .drop ?_ | refine subL_add ?_)) ?_
       refine XD_done (by kernel_rfl) ?_
       refine at_noP ?_
       rw [show ((a : Int)).tmod (maxI (b : Int) 1) = ((a % b : Nat) : Int) by rw [maxI_one hbp, tmod_nat]]
       refine at_then ?_
       refine X_seq (X_region ?_)
       refine XO_v0 (ev_load rfl sct_146 (fun hg => by repeat (first | exact Cell.here rfl | apply Cell.there | apply Cell.app))) rfl rfl rfl ?_
       refine XO_v0 (ev_cmp rfl rfl rfl) rfl rfl rfl ?_
       refine XO_nil (at_then ?_)
       refine X_cond rfl (fun hc17 => ?_) (fun hc17 => ?_)
       ·
        have hab : a % b = 0 := by have h := hc17; simp only [beq_iff_eq] at h; omega
        have hpre2 : (pre ++ [a]) ++ [b] <+: remN a0 b0 := by rw [hrem, remN_end ha0 (by omega) hab, List.append_assoc]; exact List.prefix_rfl
        refine X_seq (X_region ?_)
        refine XO_v0 (ev_move rfl) rfl rfl rfl ?_
        refine XO_v0 (ev_load rfl sct_146 (fun hg => by repeat (first | exact Cell.here rfl | apply Cell.there | apply Cell.app))) rfl rfl rfl ?_
        refine XO_yield0 (vs := [_]) (Post := fun t I3 H3 => if t then J ((pre ++ [a]) ++ [b]) I3 H3 else Jx ((pre ++ [a]) ++ [b]) I3 H3) rfl rfl rfl rfl (hY (pre ++ [a]) b _ _ hpre2 (hI0.trans hI2) hJ1) ?_
        rintro t3 I3 H3 hI3 hP3
        refine XO_nil (at_then ?_)
        refine X_ret ?_
        refine at_block_r ?_
        refine at_then_r ?_
        refine at_block_r ?_
        first
        | (refine at_ret0 rfl (fun w hw => ⟨_, I3, H3, rfl, hI1.trans (hI2.trans hI3), hw.drop, ?_⟩); cases t3 with | true => exact .inl (by rw [hrem, remN_end ha0 (by omega) hab]; simpa using hP3) | false => exact .inr ⟨_, hpre2, hP3⟩)
       ·
        have hab : a % b ≠ 0 := by have h := hc17; simp only [beq_eq_false_iff_ne, ne_eq] at h; omega
        refine X_skip ?_
        refine at_block_n ?_
        exact at_metH2 rfl rfl rfl _ (remL 146 b1 b2 (b) (((a % b : Nat) : Int))) ⟨a % b, Nat.mod_lt _ hbp, b, a % b, pre ++ [a], rfl, rfl, rfl, hI1.trans hI2, hJ1, by rw [hrem, remN_step ha0 (by omega) hab, List.append_assoc]; rfl, by omega, by omega, by have := Nat.mod_lt a hbp; omega⟩ (.cons rfl (.cons rfl (.cons rfl .nil))) .refl
     ·
      refine XO_v0 (ev_rem rfl rfl (fun hg => by rw [maxI_one hbp]; omega)) rfl rfl rfl ?_
      refine XO_nil ?_
      refine at_D hD (by repeat (first | exact .refl | exact subL_nil | refine .keep ?_ | refine .drop ?_ | refine subL_add ?_)) ?_
      refine XD_one 0 rfl (by kernel_rfl) ?_
      refine XO_v0 (ev_load rfl sct_146 (fun hg => by repeat (first | exact Cell.here rfl | apply Cell.there | apply Cell.app))) rfl rfl rfl ?_
      refine XO_nil ?_
      refine at_D hD (by repeat (first | exact .refl | exact subL_nil | refine .keep ?_ | refine .drop ?_ | refine subL_add ?_)) ?_
      refine XD_one 5 rfl (by kernel_rfl) ?_
      refine XO_store rfl rfl szt_146 rfl rfl (by repeat (first | exact Upd.here | apply Upd.there | apply upd_app)) rfl ?_
      refine XO_nil ?_
      refine at_D hD (by repeat (first | exact .refl | exact subL_nil | refine .keep ?_ | refine .drop ?_ | refine subL_add ?_)) ?_
      refine XD_one 6 rfl (by kernel_rfl) ?_
      refine XO_store rfl rfl szt_146 rfl rfl (by repeat (first | exact Upd.here | apply Upd.there | apply upd_app)) rfl ?_
      refine XO_nil ?_
      refine at_D hD (by repeat (first | exact .refl | exact subL_nil | refine .keep ?_ | refine .drop ?_ | refine subL_add ?_)) ?_
      refine XD_done (by kernel_rfl) ?_
      refine at_noP ?_
      rw [show ((a : Int)).tmod (maxI (b : Int) 1) = ((a % b : Nat) : Int) by rw [maxI_one hbp, tmod_nat]]
      refine at_then ?_
      refine X_seq (X_region ?_)
      refine XO_v0 (ev_load rfl sct_146 (fun hg => by repeat (first | exact Cell.here rfl | apply Cell.there | apply Cell.app))) rfl rfl rfl ?_
      refine XO_v0 (ev_cmp rfl rfl rfl) rfl rfl rfl ?_
      refine XO_nil (at_then ?_)
      refine X_cond rfl (fun hc17 => ?_) (fun hc17 => ?_)
      ·
       have hab : a % b = 0 := by have h := hc17; simp only [beq_iff_eq] at h; omega
       have hpre2 : (pre ++ [a]) ++ [b] <+: remN a0 b0 := by rw [hrem, remN_end ha0 (by omega) hab, List.append_assoc]; exact List.prefix_rfl
       refine X_seq (X_region ?_)
       refine XO_v0 (ev_move rfl) rfl rfl rfl ?_
       refine XO_v0 (ev_load rfl sct_146 (fun hg => by repeat (first | exact Cell.here rfl | apply Cell.there | apply Cell.app))) rfl rfl rfl ?_
       refine XO_yield0 (vs := [_]) (Post := fun t I3 H3 => if t then J ((pre ++ [a]) ++ [b]) I3 H3 else Jx ((pre ++ [a]) ++ [b]) I3 H3) rfl rfl rfl rfl (hY (pre ++ [a]) b _ _ hpre2 (hI0.trans hI2) hJ1) ?_
       rintro t3 I3 H3 hI3 hP3
       refine XO_nil (at_then ?_)
       refine X_ret ?_
       refine at_block_r ?_
       refine at_then_r ?_
       refine at_block_r ?_
       first
       | (refine at_ret0 rfl (fun w hw => ⟨_, I3, H3, rfl, hI1.trans (hI2.trans hI3), hw.drop, ?_⟩); cases t3 with | true => exact .inl (by rw [hrem, remN_end ha0 (by omega) hab]; simpa using hP3) | false => exact .inr ⟨_, hpre2, hP3⟩)
      ·
       have hab : a % b ≠ 0 := by have h := hc17; simp only [beq_eq_false_iff_ne, ne_eq] at h; omega
       refine X_skip ?_
       refine at_block_n ?_
       exact at_metH2 rfl rfl rfl _ (remL 146 b1 b2 (b) (((a % b : Nat) : Int))) ⟨a % b, Nat.mod_lt _ hbp, b, a % b, pre ++ [a], rfl, rfl, rfl, hI1.trans hI2, hJ1, by rw [hrem, remN_step ha0 (by omega) hab, List.append_assoc]; rfl, by omega, by omega, by have := Nat.mod_lt a hbp; omega⟩ (.cons rfl (.cons rfl (.cons rfl .nil))) .refl
 ·
  refine X_exit ?_
  refine at_then_e ?_
  refine at_then_e ?_
  refine at_block_hit ?_
  first
  | (refine at_norm (at_ret0 rfl (fun w hw => ⟨_, I2, H2, rfl, hI1.trans hI2, hw.drop, ?_⟩)); by_cases ha0 : a = 0; (obtain ⟨e1, e2⟩ := hno (by simp [conj, ha0]); subst e1; subst e2; subst ha0; exact .inl (by rw [hrem, remN_zero, List.append_nil]; exact hJk)); (have ht : t = false := (by simp [ha0] at hc10; exact hc10); subst ht; exact .inr ⟨_, rem_pre hrem ha0, hyes (by simp [conj]; exact ha0)⟩))
end Go.Proofs.YtccomeanpppfmaaGreat
end
section
namespace Go.Proofs.YtccomeanpppfmaaGreat
open Go Go.Kn Go.Proofs
theorem w_div (I : HMap) (a b : Nat) (hb : 0 < b) (ha : a ≤ 9223372036854775807) (hb2 : b ≤ 9223372036854775807) : RetV Tryz.prog 144 [.int .u64 a, .int .u64 b] I (.int .u64 (Nat.gcd a b : Nat)) := by
 intro g H w hw
 refine enterMs Tryz.func144 rfl Tryz.ntmps144 rfl hw ?_
 have hIc := HLe.refl I
 refine X_seq (X_region ?_)
 refine XO_alloc zt_146 rfl rfl (fun b_4 => ?_)
 refine XO_nil (at_then ?_)
 refine X_seq ?_
 refine X_seq (X_region ?_)
 refine XO_v0 (ev_move rfl) rfl rfl rfl ?_
 refine XO_v0 (ev_cmp rfl rfl rfl) rfl rfl rfl ?_
 refine XO_nil (at_then ?_)
 refine X_cond rfl (fun hc7 => ?_) (fun hc7 => ?_)
 ·
  simp at hc7; omega
 ·
  refine X_skip ?_
  refine at_then ?_
  refine X_seq (X_region ?_)
  refine XO_v0 (ev_move rfl) rfl rfl rfl ?_
  refine XO_store rfl rfl szt_146 rfl rfl (by repeat (first | exact Upd.here | apply Upd.there | apply upd_app)) rfl ?_
  refine XO_nil (at_then ?_)
  refine X_seq ?_
  refine X_seq (X_region ?_)
  refine XO_v0 (ev_move rfl) rfl rfl rfl ?_
  refine XO_v0 (ev_move rfl) rfl rfl rfl ?_
  refine XO_callM (cap := []) (vs := [_, _]) rfl rfl fun_179 .nil (w_rem I _ _) rfl rfl ?_
  rintro vv1 I1 L1 hI1 ⟨rfl, b1, b2, rfl, rfl⟩
  have hIc := hIc.trans hI1
  refine XO_nil (at_then ?_)
  refine X_block ?_
  refine X_rangeFuncM (ms := []) (K := remL 146 b1 b2 (a) (b)) (L := [(b_4, .cells #[.int .u64 b] 146 (0, 0))]) (enc := fun n : Nat => .int .u64 n) (xs := remN a b) (fun pre I' loc' => loc' = [(b_4, .cells #[.int .u64 ((pre.getLastD b : Nat) : Int)] 146 (0, 0))]) (fun _ _ _ _ => False) (fun pre x E2 I2 loc2 => E2 = [(4, capP b_4), (5, .int .u64 x)] ∧ loc2 = [(b_4, .cells #[.int .u64 ((pre.getLastD b : Nat) : Int)] 146 (0, 0))]) rfl fun_192 (w_euclid _ a b b1 b2 hb ha hb2) rfl rfl ?_ ?_ ?_ ?_
  ·
   rintro l pre x I1 loc1 H1 hpre hI1 rfl
   refine X_region ?_
   refine XO_v0 (ev_assign rfl) rfl rfl rfl ?_
   refine XO_nil ?_
   exact at_met' _ ⟨HLe.refl _, rfl, rfl⟩ (.cons rfl (.cons rfl .nil))
  ·
   rintro l pre x E2 I2 loc2 H2 hpre hI2 ⟨rfl, rfl⟩
   refine X_block ?_
   refine X_region ?_
   refine XO_v0 (ev_move rfl) rfl rfl rfl ?_
   refine XO_store rfl rfl szt_146 rfl rfl (by repeat (first | exact Upd.here | apply Upd.there | apply upd_app)) rfl ?_
   refine XO_nil ?_
   refine at_block_n ?_
   exact at_round2 ⟨HLe.refl _, by rw [last_snoc]; rfl⟩ .refl
  ·
   rintro bd I1 loc1 hI1 rfl
   have hIc := hIc.trans hI1
   refine at_block_n ?_
   refine at_then ?_
   refine X_seq (X_region ?_)
   refine XO_v0 (ev_load rfl sct_146 (fun hg => by repeat (first | exact Cell.here rfl | apply Cell.there | apply Cell.app))) rfl rfl rfl ?_
   refine XO_store rfl rfl szt_146 rfl rfl (by repeat (first | exact Upd.here | apply Upd.there | apply upd_app)) rfl ?_
   refine XO_nil (at_then ?_)
   refine X_ret ?_
   exact at_retMs (L := [(b_4, _)]) (fun a ha w hw => res1c rfl rfl sct_146 (Cell.h0 rfl) a ha w hw) (fun w hw => ⟨by rw [remN_gcd b (Nat.le_refl _) (by omega) (fun _ => rfl)], (hw.mono hIc).drop⟩)
  ·
   rintro c bd pre I1 loc1 hI1 hpre hF; exact hF.elim
theorem w_divI (I : HMap) (n d : Int) (hn : -1073741824 ≤ n ∧ n ≤ 1073741824) (hd : 1 ≤ d ∧ d ≤ 1073741824) : RetV Tryz.prog 144 [.int .u64 (magI n), .int .u64 (IntKind.u64.wrap d)] I (.int .u64 (gcdI n d)) := by
 have h0 : 0 ≤ magI n ∧ magI n ≤ 1073741824 := by unfold magI; split <;> omega
 have h := w_div I (magI n).toNat d.toNat (by omega) (by omega) (by omega)
 rw [u64_id (by omega)]
 rw [Int.toNat_of_nonneg h0.1, Int.toNat_of_nonneg (by omega), mag_gcd, Int.toNat_of_nonneg (by omega)] at h
 exact h
theorem w_ratchk (I : HMap) (n d : Int) : RetV Tryz.prog 120 [encRA (n) (d)] I (.int .i64 (ratE n d)) := by
 intro g H w hw
 refine enter Tryz.func120 rfl Tryz.ntmps120 rfl hw ?_
 refine X_seq (X_region ?_)
 refine XO_box rfl rfl rfl (fun b_1 => ?_)
 refine XO_v0 (ev_assign rfl) rfl rfl rfl ?_
 refine XO_nil (at_then ?_)
 refine X_seq ?_
 refine X_seq ?_
 refine X_draw mixed (by kernel_rfl) ?_
 refine XQ_v0 (ev_fieldAddr rfl fld_43_1) rfl rfl rfl ?_
 refine XQ_v0 (ev_load rfl sct_3 (fun hg => by repeat (first | exact Cell.here rfl | apply Cell.there | apply Cell.app))) rfl rfl rfl ?_
 refine XQ_v0 (ev_cmp rfl rfl rfl) rfl rfl rfl ?_
 refine XQ_v0 (ev_move rfl) rfl rfl rfl ?_
 refine XQ_pushF 3 rfl rfl rfl ?_
 refine XQ_v1 (ev_fieldAddr rfl fld_43_1) (.some rfl rfl rfl rfl gbf) rfl rfl rfl ?_
 refine XQ_v1 (ev_load rfl sct_3 (fun hg => by repeat (first | exact Cell.here rfl | apply Cell.there | apply Cell.app))) (.some rfl rfl rfl rfl gbf) rfl rfl rfl ?_
 refine XQ_v1 (ev_cmp rfl rfl rfl) (.some rfl rfl rfl rfl gbf) rfl rfl rfl ?_
 refine XQ_or0 rfl rfl rfl rfl rfl ?_
 refine XQ_v0 (ev_move rfl) rfl rfl rfl ?_
 refine XQ_pushF 8 rfl rfl rfl ?_
 refine XQ_v1 (ev_fieldAddr rfl fld_43_0) (.some rfl rfl rfl rfl gbf) rfl rfl rfl ?_
 refine XQ_v1 (ev_load rfl sct_3 (fun hg => by repeat (first | exact Cell.here rfl | apply Cell.there | apply Cell.app))) (.some rfl rfl rfl rfl gbf) rfl rfl rfl ?_
 refine XQ_v1 (ev_cmp rfl rfl rfl) (.some rfl rfl rfl rfl gbf) rfl rfl rfl ?_
 refine XQ_or0 rfl rfl rfl rfl rfl ?_
 refine XQ_v0 (ev_move rfl) rfl rfl rfl ?_
 refine XQ_pushF 13 rfl rfl rfl ?_
 refine XQ_v1 (ev_fieldAddr rfl fld_43_0) (.some rfl rfl rfl rfl gbf) rfl rfl rfl ?_
 refine XQ_v1 (ev_load rfl sct_3 (fun hg => by repeat (first | exact Cell.here rfl | apply Cell.there | apply Cell.app))) (.some rfl rfl rfl rfl gbf) rfl rfl rfl ?_
 refine XQ_v1 (ev_cmp rfl rfl rfl) (.some rfl rfl rfl rfl gbf) rfl rfl rfl ?_
 refine XQ_or0 rfl rfl rfl rfl rfl ?_
 refine XQ_v0 (ev_move rfl) rfl rfl rfl ?_
 refine XQ_pushF 18 rfl rfl rfl ?_
 refine XQ_v1 (ev_fieldAddr rfl fld_43_0) (.some rfl rfl rfl rfl gbf) rfl rfl rfl ?_
 refine XQ_v1 (ev_load rfl sct_3 (fun hg => by repeat (first | exact Cell.here rfl | apply Cell.there | apply Cell.app))) (.some rfl rfl rfl rfl gbf) rfl rfl rfl ?_
 refine XQ_callV1 (cap := []) (vs := [_]) rfl rfl fun_145 (fun hg => w_mag I n (by simp [conj] at hg; omega)) (.some rfl rfl rfl rfl gbf) rfl rfl ?_
 refine XQ_v1 (ev_fieldAddr rfl fld_43_1) (.some rfl rfl rfl rfl gbf) rfl rfl rfl ?_
 refine XQ_v1 (ev_load rfl sct_3 (fun hg => by repeat (first | exact Cell.here rfl | apply Cell.there | apply Cell.app))) (.some rfl rfl rfl rfl gbf) rfl rfl rfl ?_
 refine XQ_v1 (ev_convI rfl cvt_3_146) (.some rfl rfl rfl rfl gbf) rfl rfl rfl ?_
 refine XQ_callV1 (cap := []) (vs := [_, _]) rfl rfl fun_144 (fun hg => w_divI I n d (by simp [conj] at hg; omega) (by simp [conj] at hg; omega)) (.some rfl rfl rfl rfl gbf) rfl rfl ?_
 refine XQ_v1 (ev_cmp rfl rfl rfl) (.some rfl rfl rfl rfl gbf) rfl rfl rfl ?_
 refine XQ_or0 rfl rfl rfl rfl rfl ?_
 refine XQ_nil ?_
 refine at_then ?_
 refine X_cond rfl (fun hc30 => ?_) (fun hc30 => ?_)
 ·
  refine X_seq (X_region ?_)
  refine XO_v0 (ev_assign rfl) rfl rfl rfl ?_
  refine XO_nil (at_then ?_)
  refine X_ret ?_
  refine at_then_r ?_
  first
  | exact at_ret1 rfl rfl (fun w hw => ⟨by unfold ratE; rw [rat_bad hc30]; rfl, hw.drop⟩)
 ·
  refine X_skip ?_
  refine at_then ?_
  refine X_seq (X_region ?_)
  refine XO_v0 (ev_assign rfl) rfl rfl rfl ?_
  refine XO_nil (at_then ?_)
  refine X_ret ?_
  first
  | exact at_ret1 rfl rfl (fun w hw => ⟨by unfold ratE; rw [rat_good hc30]; rfl, hw.drop⟩)
end Go.Proofs.YtccomeanpppfmaaGreat
end
section
namespace Go.Proofs.YtccomeanpppfmaaGreat
open Go Go.Kn Go.Proofs
theorem w_rcmp (I : HMap) (an ad bn bd : Int) : RetV Tryz.prog 178 [encRA (an) (ad), encRA (bn) (bd)] I (.tuple #[.int .i64 (cmpV an ad bn bd), .int .i64 (cmpE an ad bn bd)]) := by
 intro g H w hw
 refine enter Tryz.func178 rfl Tryz.ntmps178 rfl hw ?_
 refine X_seq (X_region ?_)
 refine XO_box rfl rfl rfl (fun b_2 => ?_)
 refine XO_box rfl rfl rfl (fun b_3 => ?_)
 refine XO_v0 (ev_assign rfl) rfl rfl rfl ?_
 refine XO_v0 (ev_assign rfl) rfl rfl rfl ?_
 refine XO_nil (at_then ?_)
 refine X_seq ?_
 refine X_seq (X_region ?_)
 refine XO_v0 (ev_loadA rfl agt_43 (fun hg => by first | (repeat (first | exact Cells.here | exact Cells.s0 (vs := [_, _]) rfl | apply Cells.there | apply Cells.app))) rfl) rfl rfl rfl ?_
 refine XO_callV0 (cap := []) (vs := [_]) rfl rfl fun_120 (w_ratchk I _ _) rfl rfl ?_
 refine XO_v0 (ev_cmp rfl rfl rfl) rfl rfl rfl ?_
 refine XO_v0 (ev_move rfl) rfl rfl rfl ?_
 refine XO_pushF 3 rfl rfl rfl ?_
 refine XO_v1 (ev_loadA rfl agt_43 (fun hg => by first | (repeat (first | exact Cells.here | exact Cells.s0 (vs := [_, _]) rfl | apply Cells.there | apply Cells.app))) rfl) (.some rfl rfl rfl rfl gbf) rfl rfl rfl ?_
 refine XO_callV1 (cap := []) (vs := [_]) rfl rfl fun_120 (fun hg => w_ratchk I _ _) (.some rfl rfl rfl rfl gbf) rfl rfl ?_
 refine XO_v1 (ev_cmp rfl rfl rfl) (.some rfl rfl rfl rfl gbf) rfl rfl rfl ?_
 refine XO_or0 rfl rfl rfl rfl rfl ?_
 refine XO_nil (at_then ?_)
 refine X_cond rfl (fun hc13 => ?_) (fun hc13 => ?_)
 ·
  have hb : (ratF an ad && ratF bn bd) = false := by have h := hc13; rw [span_eq, Bool.not_eq_true'] at h; exact h
  refine X_seq (X_region ?_)
  refine XO_v0 (ev_assign rfl) rfl rfl rfl ?_
  refine XO_v0 (ev_assign rfl) rfl rfl rfl ?_
  refine XO_nil (at_then ?_)
  refine X_ret ?_
  refine at_then_r ?_
  exact at_ret2 rfl rfl rfl (fun w hw => ⟨by unfold cmpV cmpE; rw [hb]; rfl, hw.drop⟩)
 ·
  have hb : (ratF an ad && ratF bn bd) = true := by have h := hc13; rw [span_eq, Bool.not_eq_false'] at h; exact h
  have ⟨ha1, ha2⟩ := ratF_in (Bool.and_eq_true .. ▸ hb).1
  have ⟨hb1, hb2⟩ := ratF_in (Bool.and_eq_true .. ▸ hb).2
  refine X_skip ?_
  refine at_then ?_
  refine X_seq (X_region ?_)
  refine XO_v0 (ev_fieldAddr rfl fld_43_0) rfl rfl rfl ?_
  refine XO_v0 (ev_load rfl sct_3 (fun hg => by repeat (first | exact Cell.here rfl | apply Cell.there | apply Cell.app))) rfl rfl rfl ?_
  refine XO_v0 (ev_fieldAddr rfl fld_43_1) rfl rfl rfl ?_
  refine XO_v0 (ev_load rfl sct_3 (fun hg => by repeat (first | exact Cell.here rfl | apply Cell.there | apply Cell.app))) rfl rfl rfl ?_
  refine XO_v0 (ev_arB rfl rfl rfl (fun _ => by exact mul_b (by omega) (by omega))) rfl rfl rfl ?_
  refine XO_v0 (ev_fieldAddr rfl fld_43_0) rfl rfl rfl ?_
  refine XO_v0 (ev_load rfl sct_3 (fun hg => by repeat (first | exact Cell.here rfl | apply Cell.there | apply Cell.app))) rfl rfl rfl ?_
  refine XO_v0 (ev_fieldAddr rfl fld_43_1) rfl rfl rfl ?_
  refine XO_v0 (ev_load rfl sct_3 (fun hg => by repeat (first | exact Cell.here rfl | apply Cell.there | apply Cell.app))) rfl rfl rfl ?_
  refine XO_v0 (ev_arB rfl rfl rfl (fun _ => by exact mul_b (by omega) (by omega))) rfl rfl rfl ?_
  refine XO_callV0 (cap := []) (vs := [_, _]) rfl rfl fun_63 (w_cmp I _ _) rfl rfl ?_
  refine XO_v0 (ev_assign rfl) rfl rfl rfl ?_
  refine XO_v0 (ev_assign rfl) rfl rfl rfl ?_
  refine XO_nil (at_then ?_)
  refine X_ret ?_
  exact at_ret2 rfl rfl rfl (fun w hw => ⟨by unfold cmpV cmpE; rw [hb]; rfl, hw.drop⟩)
theorem w_fine (I : HMap) (an ad bn bd : Int) : RetV Tryz.prog 142 [encRA (an) (ad), encRA (bn) (bd)] I (.bool (spanF an ad bn bd)) := by
 intro g H w hw
 refine enter Tryz.func142 rfl Tryz.ntmps142 rfl hw ?_
 refine X_seq (X_region ?_)
 refine XO_box rfl rfl rfl (fun b_2 => ?_)
 refine XO_box rfl rfl rfl (fun b_3 => ?_)
 refine XO_v0 (ev_assign rfl) rfl rfl rfl ?_
 refine XO_nil (at_then ?_)
 refine X_seq (X_region ?_)
 refine XO_v0 (ev_loadA rfl agt_43 (fun hg => by first | (repeat (first | exact Cells.here | exact Cells.s0 (vs := [_, _]) rfl | apply Cells.there | apply Cells.app))) rfl) rfl rfl rfl ?_
 refine XO_v0 (ev_loadA rfl agt_43 (fun hg => by first | (repeat (first | exact Cells.here | exact Cells.s0 (vs := [_, _]) rfl | apply Cells.there | apply Cells.app))) rfl) rfl rfl rfl ?_
 refine XO_callV0 (cap := []) (vs := [_, _]) rfl rfl fun_178 (w_rcmp I _ _ _ _) rfl rfl ?_
 refine XO_v0 (ev_move rfl) rfl rfl rfl ?_
 refine XO_v0 (ev_extract rfl rfl) rfl rfl rfl ?_
 refine XO_v0 (ev_extract rfl rfl) rfl rfl rfl ?_
 refine XO_v0 (ev_assign rfl) rfl rfl rfl ?_
 refine XO_v0 (ev_assign rfl) rfl rfl rfl ?_
 refine XO_nil (at_then ?_)
 refine X_seq (X_region ?_)
 refine XO_v0 (ev_move rfl) rfl rfl rfl ?_
 refine XO_v0 (ev_cmp rfl rfl rfl) rfl rfl rfl ?_
 refine XO_v0 (ev_move rfl) rfl rfl rfl ?_
 refine XO_pushT 2 rfl rfl rfl ?_
 refine XO_v1 (ev_move rfl) (.some rfl rfl rfl rfl gbt) rfl rfl rfl ?_
 refine XO_v1 (ev_cmp rfl rfl rfl) (.some rfl rfl rfl rfl gbt) rfl rfl rfl ?_
 refine XO_and0 rfl rfl rfl rfl rfl ?_
 refine XO_v0 (ev_move rfl) rfl rfl rfl ?_
 refine XO_pushT 6 rfl rfl rfl ?_
 refine XO_v1 (ev_fieldAddr rfl fld_43_0) (.some rfl rfl rfl rfl gbt) rfl rfl rfl ?_
 refine XO_v1 (ev_load rfl sct_3 (fun hg => by repeat (first | exact Cell.here rfl | apply Cell.there | apply Cell.app))) (.some rfl rfl rfl rfl gbt) rfl rfl rfl ?_
 refine XO_v1 (ev_cmp rfl rfl rfl) (.some rfl rfl rfl rfl gbt) rfl rfl rfl ?_
 refine XO_and0 rfl rfl rfl rfl rfl ?_
 refine XO_v0 (ev_move rfl) rfl rfl rfl ?_
 refine XO_pushT 11 rfl rfl rfl ?_
 refine XO_v1 (ev_fieldAddr rfl fld_43_0) (.some rfl rfl rfl rfl gbt) rfl rfl rfl ?_
 refine XO_v1 (ev_load rfl sct_3 (fun hg => by repeat (first | exact Cell.here rfl | apply Cell.there | apply Cell.app))) (.some rfl rfl rfl rfl gbt) rfl rfl rfl ?_
 refine XO_v1 (ev_fieldAddr rfl fld_43_1) (.some rfl rfl rfl rfl gbt) rfl rfl rfl ?_
 refine XO_v1 (ev_load rfl sct_3 (fun hg => by repeat (first | exact Cell.here rfl | apply Cell.there | apply Cell.app))) (.some rfl rfl rfl rfl gbt) rfl rfl rfl ?_
 refine XO_v1 (ev_cmp rfl rfl rfl) (.some rfl rfl rfl rfl gbt) rfl rfl rfl ?_
 refine XO_and0 rfl rfl rfl rfl rfl ?_
 refine XO_v0 (ev_assign rfl) rfl rfl rfl ?_
 refine XO_nil (at_then ?_)
 refine X_ret ?_
 exact at_ret1 rfl rfl (fun w hw => ⟨by rw [← fine_eq], hw.drop⟩)
theorem w_within (I : HMap) (n lo hi : Int) : RetV Tryz.prog 59 [.int .i64 n, .int .i64 lo, .int .i64 hi] I (.bool (within n lo hi)) := by
 intro g H w hw
 refine enter Tryz.func59 rfl Tryz.ntmps59 rfl hw ?_
 refine X_seq (X_region ?_)
 refine XO_v0 (ev_assign rfl) rfl rfl rfl ?_
 refine XO_nil (at_then ?_)
 refine X_seq (X_region ?_)
 refine XO_v0 (ev_move rfl) rfl rfl rfl ?_
 refine XO_v0 (ev_move rfl) rfl rfl rfl ?_
 refine XO_v0 (ev_cmp rfl rfl rfl) rfl rfl rfl ?_
 refine XO_v0 (ev_move rfl) rfl rfl rfl ?_
 refine XO_pushT 3 rfl rfl rfl ?_
 refine XO_v1 (ev_move rfl) (.some rfl rfl rfl rfl gbt) rfl rfl rfl ?_
 refine XO_v1 (ev_move rfl) (.some rfl rfl rfl rfl gbt) rfl rfl rfl ?_
 refine XO_v1 (ev_cmp rfl rfl rfl) (.some rfl rfl rfl rfl gbt) rfl rfl rfl ?_
 refine XO_and0 rfl rfl rfl rfl rfl ?_
 refine XO_v0 (ev_assign rfl) rfl rfl rfl ?_
 refine XO_nil (at_then ?_)
 refine X_ret ?_
 exact at_ret1 rfl rfl (fun w hw => ⟨by first | rfl | simp_all, hw.drop⟩)
theorem w_frm (I : HMap) (x : Sg) : RetV Tryz.prog 91 [encGA x] I (.bool (frm x)) := by
 intro g H w hw
 refine enter Tryz.func91 rfl Tryz.ntmps91 rfl hw ?_
 refine X_seq (X_region ?_)
 refine XO_box rfl rfl rfl (fun b_1 => ?_)
 refine XO_v0 (ev_assign rfl) rfl rfl rfl ?_
 refine XO_nil (at_then ?_)
 refine X_seq (X_region ?_)
 refine XO_v0 (ev_fieldAddr rfl fld_45_0) rfl rfl rfl ?_
 refine XO_v0 (ev_load rfl sct_3 (fun hg => by repeat (first | exact Cell.here rfl | apply Cell.there | apply Cell.app))) rfl rfl rfl ?_
 refine XO_callV0 (cap := []) (vs := [_, _, _]) rfl rfl fun_59 (w_within I _ _ _) rfl rfl ?_
 refine XO_v0 (ev_move rfl) rfl rfl rfl ?_
 refine XO_pushT 3 rfl rfl rfl ?_
 refine XO_v1 (ev_fieldAddr rfl fld_45_1) (.some rfl rfl rfl rfl gbt) rfl rfl rfl ?_
 refine XO_v1 (ev_load rfl sct_3 (fun hg => by repeat (first | exact Cell.here rfl | apply Cell.there | apply Cell.app))) (.some rfl rfl rfl rfl gbt) rfl rfl rfl ?_
 refine XO_callV1 (cap := []) (vs := [_, _, _]) rfl rfl fun_59 (fun hg => w_within I _ _ _) (.some rfl rfl rfl rfl gbt) rfl rfl ?_
 refine XO_and0 rfl rfl rfl rfl rfl ?_
 refine XO_v0 (ev_move rfl) rfl rfl rfl ?_
 refine XO_pushT 8 rfl rfl rfl ?_
 refine XO_v1 (ev_fieldAddr rfl fld_45_2) (.some rfl rfl rfl rfl gbt) rfl rfl rfl ?_
 refine XO_v1 (ev_load rfl sct_3 (fun hg => by repeat (first | exact Cell.here rfl | apply Cell.there | apply Cell.app))) (.some rfl rfl rfl rfl gbt) rfl rfl rfl ?_
 refine XO_callV1 (cap := []) (vs := [_, _, _]) rfl rfl fun_59 (fun hg => w_within I _ _ _) (.some rfl rfl rfl rfl gbt) rfl rfl ?_
 refine XO_and0 rfl rfl rfl rfl rfl ?_
 refine XO_v0 (ev_move rfl) rfl rfl rfl ?_
 refine XO_pushT 13 rfl rfl rfl ?_
 refine XO_v1 (ev_fieldAddr rfl fld_45_4) (.some rfl rfl rfl rfl gbt) rfl rfl rfl ?_
 refine XO_v1 (ev_load rfl sct_3 (fun hg => by repeat (first | exact Cell.here rfl | apply Cell.there | apply Cell.app))) (.some rfl rfl rfl rfl gbt) rfl rfl rfl ?_
 refine XO_callV1 (cap := []) (vs := [_, _, _]) rfl rfl fun_59 (fun hg => w_within I _ _ _) (.some rfl rfl rfl rfl gbt) rfl rfl ?_
 refine XO_and0 rfl rfl rfl rfl rfl ?_
 refine XO_v0 (ev_move rfl) rfl rfl rfl ?_
 refine XO_pushT 18 rfl rfl rfl ?_
 refine XO_v1 (ev_fieldAddr rfl fld_45_3) (.some rfl rfl rfl rfl gbt) rfl rfl rfl ?_
 refine XO_v1 (ev_load rfl sct_3 (fun hg => by repeat (first | exact Cell.here rfl | apply Cell.there | apply Cell.app))) (.some rfl rfl rfl rfl gbt) rfl rfl rfl ?_
 refine XO_callV1 (cap := []) (vs := [_, _, _]) rfl rfl fun_59 (fun hg => w_within I _ _ _) (.some rfl rfl rfl rfl gbt) rfl rfl ?_
 refine XO_and0 rfl rfl rfl rfl rfl ?_
 refine XO_v0 (ev_move rfl) rfl rfl rfl ?_
 refine XO_pushT 23 rfl rfl rfl ?_
 refine XO_v1 (ev_fieldAddr rfl fld_45_5) (.some rfl rfl rfl rfl gbt) rfl rfl rfl ?_
 refine XO_v1 (ev_load rfl sct_3 (fun hg => by repeat (first | exact Cell.here rfl | apply Cell.there | apply Cell.app))) (.some rfl rfl rfl rfl gbt) rfl rfl rfl ?_
 refine XO_callV1 (cap := []) (vs := [_, _, _]) rfl rfl fun_59 (fun hg => w_within I _ _ _) (.some rfl rfl rfl rfl gbt) rfl rfl ?_
 refine XO_and0 rfl rfl rfl rfl rfl ?_
 refine XO_v0 (ev_move rfl) rfl rfl rfl ?_
 refine XO_pushT 28 rfl rfl rfl ?_
 refine XO_v1 (ev_fieldAddr rfl fld_45_6) (.some rfl rfl rfl rfl gbt) rfl rfl rfl ?_
 refine XO_v1 (ev_load rfl sct_3 (fun hg => by repeat (first | exact Cell.here rfl | apply Cell.there | apply Cell.app))) (.some rfl rfl rfl rfl gbt) rfl rfl rfl ?_
 refine XO_callV1 (cap := []) (vs := [_, _, _]) rfl rfl fun_59 (fun hg => w_within I _ _ _) (.some rfl rfl rfl rfl gbt) rfl rfl ?_
 refine XO_and0 rfl rfl rfl rfl rfl ?_
 refine XO_v0 (ev_move rfl) rfl rfl rfl ?_
 refine XO_pushT 33 rfl rfl rfl ?_
 refine XO_v1 (ev_fieldAddr rfl fld_45_7) (.some rfl rfl rfl rfl gbt) rfl rfl rfl ?_
 refine XO_v1 (ev_load rfl sct_3 (fun hg => by repeat (first | exact Cell.here rfl | apply Cell.there | apply Cell.app))) (.some rfl rfl rfl rfl gbt) rfl rfl rfl ?_
 refine XO_callV1 (cap := []) (vs := [_, _, _]) rfl rfl fun_59 (fun hg => w_within I _ _ _) (.some rfl rfl rfl rfl gbt) rfl rfl ?_
 refine XO_and0 rfl rfl rfl rfl rfl ?_
 refine XO_v0 (ev_move rfl) rfl rfl rfl ?_
 refine XO_pushT 38 rfl rfl rfl ?_
 refine XO_v1 (ev_fieldAddr rfl fld_45_8) (.some rfl rfl rfl rfl gbt) rfl rfl rfl ?_
 refine XO_v1 (ev_load rfl sct_3 (fun hg => by repeat (first | exact Cell.here rfl | apply Cell.there | apply Cell.app))) (.some rfl rfl rfl rfl gbt) rfl rfl rfl ?_
 refine XO_callV1 (cap := []) (vs := [_, _, _]) rfl rfl fun_59 (fun hg => w_within I _ _ _) (.some rfl rfl rfl rfl gbt) rfl rfl ?_
 refine XO_and0 rfl rfl rfl rfl rfl ?_
 refine XO_v0 (ev_move rfl) rfl rfl rfl ?_
 refine XO_pushT 43 rfl rfl rfl ?_
 refine XO_v1 (ev_fieldAddr rfl fld_45_9) (.some rfl rfl rfl rfl gbt) rfl rfl rfl ?_
 refine XO_v1 (ev_load rfl sct_3 (fun hg => by repeat (first | exact Cell.here rfl | apply Cell.there | apply Cell.app))) (.some rfl rfl rfl rfl gbt) rfl rfl rfl ?_
 refine XO_callV1 (cap := []) (vs := [_, _, _]) rfl rfl fun_59 (fun hg => w_within I _ _ _) (.some rfl rfl rfl rfl gbt) rfl rfl ?_
 refine XO_and0 rfl rfl rfl rfl rfl ?_
 refine XO_v0 (ev_move rfl) rfl rfl rfl ?_
 refine XO_pushT 48 rfl rfl rfl ?_
 refine XO_v1 (ev_fieldAddr rfl fld_45_10) (.some rfl rfl rfl rfl gbt) rfl rfl rfl ?_
 refine XO_v1 (ev_loadA rfl agt_43 (fun hg => by first | (repeat (first | exact Cells.here | exact Cells.s0 (vs := [_, _]) rfl | apply Cells.there | apply Cells.app))) rfl) (.some rfl rfl rfl rfl gbt) rfl rfl rfl ?_
 refine XO_v1 (ev_fieldAddr rfl fld_45_11) (.some rfl rfl rfl rfl gbt) rfl rfl rfl ?_
 refine XO_v1 (ev_loadA rfl agt_43 (fun hg => by first | (repeat (first | exact Cells.here | exact Cells.s0 (vs := [_, _]) rfl | apply Cells.there | apply Cells.app))) rfl) (.some rfl rfl rfl rfl gbt) rfl rfl rfl ?_
 refine XO_callV1 (cap := []) (vs := [_, _]) rfl rfl fun_142 (fun hg => w_fine I _ _ _ _) (.some rfl rfl rfl rfl gbt) rfl rfl ?_
 refine XO_and0 rfl rfl rfl rfl rfl ?_
 refine XO_v0 (ev_assign rfl) rfl rfl rfl ?_
 refine XO_nil (at_then ?_)
 refine X_ret ?_
 exact at_ret1 rfl rfl (fun w hw => ⟨by rfl, hw.drop⟩)
theorem w_chkG {I : HMap} {av : Option Addr} {n c : Nat} {xs : List Sg} (hS : Sl I 14 encG av n c xs) (hn : n ≤ 100000) : RetV Tryz.prog 58 [.slice av n c] I (.int .i64 (chkG xs)) := by
 intro g H w hw
 refine enter Tryz.func58 rfl Tryz.ntmps58 rfl hw ?_
 refine X_seq (X_region ?_)
 refine XO_v0 (ev_assign rfl) rfl rfl rfl ?_
 refine XO_nil (at_then ?_)
 refine X_seq ?_
 refine X_seq (X_region ?_)
 refine XO_v0 (ev_move rfl) rfl rfl rfl ?_
 refine XO_v0 (ev_lenS rfl slt_33) rfl rfl rfl ?_
 refine XO_v0 (ev_cmp rfl rfl rfl) rfl rfl rfl ?_
 refine XO_nil (at_then ?_)
 refine X_cond rfl (fun hc7 => ?_) (fun hc7 => ?_)
 ·
  have h6 : xs.length > 4096 := by rw [hS.len]; simp at hc7; omega
  refine X_seq (X_region ?_)
  refine XO_v0 (ev_assign rfl) rfl rfl rfl ?_
  refine XO_nil (at_then ?_)
  refine X_ret ?_
  refine at_then_r ?_
  first
  | exact at_ret1 rfl rfl (fun w hw => ⟨by unfold chkG; rw [if_pos h6], hw.drop⟩)
 ·
  have h6 : ¬ xs.length > 4096 := by rw [hS.len]; simp at hc7; omega
  refine X_skip ?_
  refine at_then ?_
  refine X_seq ?_
  refine X_seq (X_region ?_)
  refine XO_v0 (ev_move rfl) rfl rfl rfl ?_
  refine XO_v0 (ev_lenS rfl slt_33) rfl rfl rfl ?_
  refine XO_v0 (ev_move rfl) rfl rfl rfl ?_
  refine XO_nil (at_then ?_)
  refine X_block ?_
  refine X_loopT [(0, _), (8, _), (9, _)] (.cons rfl (.cons rfl (.cons rfl .nil))) (fun T L0 mz E I' loc' => ∃ (k : Nat), mz = n - k ∧ E = (10, .int .i64 k) :: T ∧ I = I' ∧ L0 = loc' ∧ k ≤ n ∧ (List.range k).all (skP xs) = true) _ _ _ _ ⟨0, rfl, rfl, rfl, rfl, Nat.zero_le _, rfl⟩ (.cons rfl (.cons rfl (.cons rfl (.cons rfl .nil)))) (HLe.refl _) rfl ?_
  rintro mz E I' loc' ⟨k, rfl, rfl, rfl, rfl, hk, hall⟩
  refine X_seq (X_region ?_)
  refine XO_v0 (ev_cmp rfl rfl rfl) rfl rfl rfl ?_
  refine XO_nil (at_then ?_)
  refine X_seq ?_
  refine X_cond rfl (fun hc11 => ?_) (fun hc11 => ?_)
  ·
   have hlt_k : k < n := by have h := hc11; simp at h; omega
   obtain ⟨x, hx⟩ := hS.at hlt_k
   refine X_skip ?_
   refine at_then ?_
   refine X_seq ?_
   refine X_block ?_
   refine X_seq (X_region ?_)
   refine XO_v0 (ev_move rfl) rfl rfl rfl ?_
   refine XO_v0 (ev_indexSl rfl rfl slt_33 (by assumption) (fun hg => by first | omega | (simp [conj] at hg; omega))) rfl rfl rfl ?_
   refine XO_v0 (ev_loadA rfl agt_45 (fun hg => by first | exact Sl.getA hS hx | (repeat (first | exact Cells.here | exact Cells.s0 (vs := [_, _, _, _, _, _, _, _, _, _, _, _, _, _]) rfl | apply Cells.there | apply Cells.app))) rfl) rfl rfl rfl ?_
   refine XO_alloc zt_45 rfl rfl (fun b_4 => ?_)
   refine XO_v0 (ev_assign rfl) rfl rfl rfl ?_
   refine XO_storeA rfl rfl szt_45 rfl rfl rfl rfl (by repeat (first | exact Upd.here | apply Upd.there | apply upd_app)) ?_
   refine XO_nil (at_then ?_)
   refine X_seq ?_
   refine X_draw mixed (by kernel_rfl) ?_
   refine XQ_v0 (ev_loadA rfl agt_45 (fun hg => by first | exact Sl.getA hS hx | (repeat (first | exact Cells.here | exact Cells.s0 (vs := [_, _, _, _, _, _, _, _, _, _, _, _, _, _]) rfl | apply Cells.there | apply Cells.app))) rfl) rfl rfl rfl ?_
   refine XQ_callV0 (cap := []) (vs := [_]) rfl rfl fun_91 (w_frm I _) rfl rfl ?_
   refine XQ_v0 (ev_not rfl) rfl rfl rfl ?_
   refine XQ_v0 (ev_move rfl) rfl rfl rfl ?_
   refine XQ_pushF 3 rfl rfl rfl ?_
   refine XQ_v1 (ev_move rfl) (.some rfl rfl rfl rfl gbf) rfl rfl rfl ?_
   refine XQ_v1 (ev_cmp rfl rfl rfl) (.some rfl rfl rfl rfl gbf) rfl rfl rfl ?_
   refine XQ_v1 (ev_move rfl) (.some rfl rfl rfl rfl gbf) rfl rfl rfl ?_
   refine XQ_pushT 6 rfl rfl rfl ?_
   refine XQ_v1 (ev_move rfl) (.some rfl rfl rfl rfl gbt) rfl rfl rfl ?_
   refine XQ_v1 (ev_move rfl) (.some rfl rfl rfl rfl gbt) rfl rfl rfl ?_
   refine XQ_v1 (ev_arB rfl rfl rfl (fun hg => by first | omega | (simp [conj] at hg; omega))) (.some rfl rfl rfl rfl gbt) rfl rfl rfl ?_
   refine XQ_v1 (ev_indexSl rfl rfl slt_33 (by assumption) (fun hg => by first | omega | (simp [conj] at hg; omega))) (.some rfl rfl rfl rfl gbt) rfl rfl rfl ?_
   refine XQ_v1 (ev_fieldAddr rfl fld_45_0) (.some rfl rfl rfl rfl gbt) rfl rfl rfl ?_
   refine XQ_v1 (ev_load rfl sct_3 (fun hg => by first | exact Sl.get0 (k := ((k : Int) - 1).toNat) hS (some_getD (d := zeroG) hS.len (by simp [conj] at hg; omega)) rfl | (repeat (first | exact Cell.here rfl | apply Cell.there | apply Cell.app)))) (.some rfl rfl rfl rfl gbt) rfl rfl rfl ?_
   refine XQ_v1 (ev_fieldAddr rfl fld_45_0) (.some rfl rfl rfl rfl gbt) rfl rfl rfl ?_
   refine XQ_v1 (ev_load rfl sct_3 (fun hg => by first | exact Sl.get0 (k := ((k : Int) - 1).toNat) hS (some_getD (d := zeroG) hS.len (by simp [conj] at hg; omega)) rfl | (repeat (first | exact Cell.here rfl | apply Cell.there | apply Cell.app)))) (.some rfl rfl rfl rfl gbt) rfl rfl rfl ?_
   refine XQ_v1 (ev_cmp rfl rfl rfl) (.some rfl rfl rfl rfl gbt) rfl rfl rfl ?_
   refine XQ_and1 rfl rfl rfl (.some rfl rfl rfl rfl gbf) rfl rfl ?_
   refine XQ_or0 rfl rfl rfl rfl rfl ?_
   refine XQ_nil ?_
   refine at_then ?_
   refine X_cond rfl (fun hc32 => ?_) (fun hc32 => ?_)
   ·
    refine X_seq (X_region ?_)
    refine XO_v0 (ev_assign rfl) rfl rfl rfl ?_
    refine XO_nil (at_then ?_)
    refine X_ret ?_
    refine at_block_r ?_
    refine at_then_r ?_
    refine at_then_r ?_
    refine at_block_r ?_
    refine at_then_r ?_
    first
    | exact at_ret1 rfl rfl (fun w hw => ⟨by unfold chkG skB; rw [if_neg h6, range_bad (k := k) (by rw [hS.len]; exact hlt_k) (by rw [skP_at hx, hc32]; rfl)]; rfl, hw.drop⟩)
   ·
    refine X_skip ?_
    refine at_block_n ?_
    refine at_then ?_
    refine X_region ?_
    refine XO_v0 (ev_arB rfl rfl rfl (fun hg => by first | omega | (simp [conj] at hg; omega))) rfl rfl rfl ?_
    refine XO_v0 (ev_move rfl) rfl rfl rfl ?_
    refine XO_nil ?_
    exact at_met2 _ _ ⟨n - (k + 1), by omega, k + 1, rfl, rfl, rfl, rfl, by omega, range_step hall (by rw [skP_at hx, hc32]; rfl)⟩ (.cons rfl (.cons rfl (.cons rfl (.cons rfl .nil)))) (by repeat (first | exact .refl | exact subL_left | refine subL_app ?_ | refine .drop ?_ | refine subL_add ?_))
  ·
   have hge_k : n ≤ k := by have h := hc11; simp at h; omega
   refine X_exit ?_
   refine at_then_e ?_
   refine at_then_e ?_
   refine at_block_hit ?_
   refine at_then ?_
   refine X_seq (X_region ?_)
   refine XO_v0 (ev_assign rfl) rfl rfl rfl ?_
   refine XO_nil (at_then ?_)
   refine X_ret ?_
   first
   | exact at_ret1 rfl rfl (fun w hw => ⟨by unfold chkG skB; rw [if_neg h6, hS.len, show n = k by omega, hall]; rfl, hw.drop⟩)
theorem w_numbers (I : HMap) (b : Nat) : RetV Tryz.prog 132 [capP b] I (.agg (numL b).toArray) := by
 intro g H w hw
 refine enter Tryz.func132 rfl Tryz.ntmps132 rfl hw ?_
 refine X_seq (X_region ?_)
 refine XO_alloc zt_157 rfl rfl (fun b_2 => ?_)
 refine XO_nil (at_then ?_)
 refine X_seq ?_
 have hD := HLe.refl I
 refine X_noP ?_
 refine X_drawS I [] mixed ?_
 refine XD_take 0 rfl (ev_move rfl) (.none rfl) rfl rfl rfl (by kernel_rfl) (by kernel_rfl) (by kernel_rfl) noP_ok hD (by repeat (first | exact .refl | exact subL_nil | refine .keep ?_ | refine .drop ?_ | refine subL_add ?_)) ?_
 refine XD_take 1 rfl (ev_nilCheck rfl) (.none rfl) rfl rfl rfl (by kernel_rfl) (by kernel_rfl) (by kernel_rfl) noP_ok hD (by repeat (first | exact .refl | exact subL_nil | refine .keep ?_ | refine .drop ?_ | refine subL_add ?_)) ?_
 refine XD_take 2 rfl (ev_fieldAddr rfl fld_45_1) (.none rfl) rfl rfl rfl (by kernel_rfl) (by kernel_rfl) (by kernel_rfl) noP_ok hD (by repeat (first | exact .refl | exact subL_nil | refine .keep ?_ | refine .drop ?_ | refine subL_add ?_)) ?_
 refine XD_take 3 rfl (ev_move rfl) (.none rfl) rfl rfl rfl (by kernel_rfl) (by kernel_rfl) (by kernel_rfl) noP_ok hD (by repeat (first | exact .refl | exact subL_nil | refine .keep ?_ | refine .drop ?_ | refine subL_add ?_)) ?_
 refine XD_take 4 rfl (ev_nilCheck rfl) (.none rfl) rfl rfl rfl (by kernel_rfl) (by kernel_rfl) (by kernel_rfl) noP_ok hD (by repeat (first | exact .refl | exact subL_nil | refine .keep ?_ | refine .drop ?_ | refine subL_add ?_)) ?_
 refine XD_take 5 rfl (ev_fieldAddr rfl fld_45_2) (.none rfl) rfl rfl rfl (by kernel_rfl) (by kernel_rfl) (by kernel_rfl) noP_ok hD (by repeat (first | exact .refl | exact subL_nil | refine .keep ?_ | refine .drop ?_ | refine subL_add ?_)) ?_
 refine XD_take 6 rfl (ev_move rfl) (.none rfl) rfl rfl rfl (by kernel_rfl) (by kernel_rfl) (by kernel_rfl) noP_ok hD (by repeat (first | exact .refl | exact subL_nil | refine .keep ?_ | refine .drop ?_ | refine subL_add ?_)) ?_
 refine XD_take 7 rfl (ev_nilCheck rfl) (.none rfl) rfl rfl rfl (by kernel_rfl) (by kernel_rfl) (by kernel_rfl) noP_ok hD (by repeat (first | exact .refl | exact subL_nil | refine .keep ?_ | refine .drop ?_ | refine subL_add ?_)) ?_
 refine XD_take 8 rfl (ev_fieldAddr rfl fld_45_3) (.none rfl) rfl rfl rfl (by kernel_rfl) (by kernel_rfl) (by kernel_rfl) noP_ok hD (by repeat (first | exact .refl | exact subL_nil | refine .keep ?_ | refine .drop ?_ | refine subL_add ?_)) ?_
 refine XD_take 9 rfl (ev_move rfl) (.none rfl) rfl rfl rfl (by kernel_rfl) (by kernel_rfl) (by kernel_rfl) noP_ok hD (by repeat (first | exact .refl | exact subL_nil | refine .keep ?_ | refine .drop ?_ | refine subL_add ?_)) ?_
 refine XD_take 10 rfl (ev_nilCheck rfl) (.none rfl) rfl rfl rfl (by kernel_rfl) (by kernel_rfl) (by kernel_rfl) noP_ok hD (by repeat (first | exact .refl | exact subL_nil | refine .keep ?_ | refine .drop ?_ | refine subL_add ?_)) ?_
 refine XD_take 11 rfl (ev_fieldAddr rfl fld_45_5) (.none rfl) rfl rfl rfl (by kernel_rfl) (by kernel_rfl) (by kernel_rfl) noP_ok hD (by repeat (first | exact .refl | exact subL_nil | refine .keep ?_ | refine .drop ?_ | refine subL_add ?_)) ?_
 refine XD_take 12 rfl (ev_move rfl) (.none rfl) rfl rfl rfl (by kernel_rfl) (by kernel_rfl) (by kernel_rfl) noP_ok hD (by repeat (first | exact .refl | exact subL_nil | refine .keep ?_ | refine .drop ?_ | refine subL_add ?_)) ?_
 refine XD_take 13 rfl (ev_nilCheck rfl) (.none rfl) rfl rfl rfl (by kernel_rfl) (by kernel_rfl) (by kernel_rfl) noP_ok hD (by repeat (first | exact .refl | exact subL_nil | refine .keep ?_ | refine .drop ?_ | refine subL_add ?_)) ?_
 refine XD_take 14 rfl (ev_fieldAddr rfl fld_45_6) (.none rfl) rfl rfl rfl (by kernel_rfl) (by kernel_rfl) (by kernel_rfl) noP_ok hD (by repeat (first | exact .refl | exact subL_nil | refine .keep ?_ | refine .drop ?_ | refine subL_add ?_)) ?_
 refine XD_take 15 rfl (ev_move rfl) (.none rfl) rfl rfl rfl (by kernel_rfl) (by kernel_rfl) (by kernel_rfl) noP_ok hD (by repeat (first | exact .refl | exact subL_nil | refine .keep ?_ | refine .drop ?_ | refine subL_add ?_)) ?_
 refine XD_take 16 rfl (ev_nilCheck rfl) (.none rfl) rfl rfl rfl (by kernel_rfl) (by kernel_rfl) (by kernel_rfl) noP_ok hD (by repeat (first | exact .refl | exact subL_nil | refine .keep ?_ | refine .drop ?_ | refine subL_add ?_)) ?_
 refine XD_take 17 rfl (ev_fieldAddr rfl fld_45_7) (.none rfl) rfl rfl rfl (by kernel_rfl) (by kernel_rfl) (by kernel_rfl) noP_ok hD (by repeat (first | exact .refl | exact subL_nil | refine .keep ?_ | refine .drop ?_ | refine subL_add ?_)) ?_
 refine XD_take 18 rfl (ev_move rfl) (.none rfl) rfl rfl rfl (by kernel_rfl) (by kernel_rfl) (by kernel_rfl) noP_ok hD (by repeat (first | exact .refl | exact subL_nil | refine .keep ?_ | refine .drop ?_ | refine subL_add ?_)) ?_
 refine XD_take 19 rfl (ev_nilCheck rfl) (.none rfl) rfl rfl rfl (by kernel_rfl) (by kernel_rfl) (by kernel_rfl) noP_ok hD (by repeat (first | exact .refl | exact subL_nil | refine .keep ?_ | refine .drop ?_ | refine subL_add ?_)) ?_
 refine XD_take 20 rfl (ev_fieldAddr rfl fld_45_8) (.none rfl) rfl rfl rfl (by kernel_rfl) (by kernel_rfl) (by kernel_rfl) noP_ok hD (by repeat (first | exact .refl | exact subL_nil | refine .keep ?_ | refine .drop ?_ | refine subL_add ?_)) ?_
 refine XD_take 21 rfl (ev_move rfl) (.none rfl) rfl rfl rfl (by kernel_rfl) (by kernel_rfl) (by kernel_rfl) noP_ok hD (by repeat (first | exact .refl | exact subL_nil | refine .keep ?_ | refine .drop ?_ | refine subL_add ?_)) ?_
 refine XD_take 22 rfl (ev_nilCheck rfl) (.none rfl) rfl rfl rfl (by kernel_rfl) (by kernel_rfl) (by kernel_rfl) noP_ok hD (by repeat (first | exact .refl | exact subL_nil | refine .keep ?_ | refine .drop ?_ | refine subL_add ?_)) ?_
 refine XD_take 23 rfl (ev_fieldAddr rfl fld_45_9) (.none rfl) rfl rfl rfl (by kernel_rfl) (by kernel_rfl) (by kernel_rfl) noP_ok hD (by repeat (first | exact .refl | exact subL_nil | refine .keep ?_ | refine .drop ?_ | refine subL_add ?_)) ?_
 refine XD_take 24 rfl (ev_buildArr (ps := [(1, _), (2, _), (3, _), (4, _), (5, _), (6, _), (7, _), (8, _)]) [_, _, _, _, _, _, _, _, _] art_157 zt_157 rfl rfl) (.none rfl) rfl rfl rfl (by kernel_rfl) (by kernel_rfl) (by kernel_rfl) noP_ok hD (by repeat (first | exact .refl | exact subL_nil | refine .keep ?_ | refine .drop ?_ | refine subL_add ?_)) ?_
 refine XD_one 25 rfl (by kernel_rfl) ?_
 refine XO_storeA rfl rfl szt_157 rfl rfl rfl rfl (by repeat (first | exact Upd.here | apply Upd.there | apply upd_app)) ?_
 refine XO_nil ?_
 refine at_D hD (by repeat (first | exact .refl | exact subL_nil | refine .keep ?_ | refine .drop ?_ | refine subL_add ?_)) ?_
 refine XD_done (by kernel_rfl) ?_
 refine at_noP ?_
 refine at_then ?_
 refine X_ret ?_
 exact at_retA rfl rfl agt_157 Cells.g0 rfl (fun w hw => ⟨rfl, hw.drop⟩)
theorem w_set (I : HMap) (x : Sg) (f : Int) (y : Sg) (hf : isF f) : RetV Tryz.prog 74 [encGA x, .int .i64 f, encGA y] I (encGA (setG x f y)) := by
 intro g H w hw
 refine enter Tryz.func74 rfl Tryz.ntmps74 rfl hw ?_
 refine X_seq (X_region ?_)
 refine XO_box rfl rfl rfl (fun b_3 => ?_)
 refine XO_box rfl rfl rfl (fun b_5 => ?_)
 refine XO_alloc zt_45 rfl rfl (fun b_6 => ?_)
 refine XO_nil (at_then ?_)
 refine X_seq ?_
 refine X_seq (X_region ?_)
 refine XO_v0 (ev_move rfl) rfl rfl rfl ?_
 refine XO_v0 (ev_cmp rfl rfl rfl) rfl rfl rfl ?_
 refine XO_nil (at_then ?_)
 refine X_cond rfl (fun hc8 => ?_) (fun hc8 => ?_)
 ·
  have hf9 : f = 9 := by simpa using hc8
  refine X_seq (X_region ?_)
  refine XO_v0 (ev_fieldAddr rfl fld_45_10) rfl rfl rfl ?_
  refine XO_v0 (ev_loadA rfl agt_43 (fun hg => by first | (repeat (first | exact Cells.here | exact Cells.s0 (vs := [_, _]) rfl | apply Cells.there | apply Cells.app))) rfl) rfl rfl rfl ?_
  refine XO_v0 (ev_fieldAddr rfl fld_45_11) rfl rfl rfl ?_
  refine XO_v0 (ev_loadA rfl agt_43 (fun hg => by first | (repeat (first | exact Cells.here | exact Cells.s0 (vs := [_, _]) rfl | apply Cells.there | apply Cells.app))) rfl) rfl rfl rfl ?_
  refine XO_v0 (ev_fieldAddr rfl fld_45_10) rfl rfl rfl ?_
  refine XO_storeP rfl rfl szt_43 rfl rfl rfl rfl (by repeat (first | exact Upd.here | apply Upd.there | apply upd_app)) ?_
  refine XO_v0 (ev_fieldAddr rfl fld_45_11) rfl rfl rfl ?_
  refine XO_storeP rfl rfl szt_43 rfl rfl rfl rfl (by repeat (first | exact Upd.here | apply Upd.there | apply upd_app)) ?_
  refine XO_nil (at_then ?_)
  refine X_seq (X_region ?_)
  refine XO_v0 (ev_loadA rfl agt_45 (fun hg => by first | (repeat (first | exact Cells.here | exact Cells.s0 (vs := [_, _, _, _, _, _, _, _, _, _, _, _, _, _]) rfl | apply Cells.there | apply Cells.app))) rfl) rfl rfl rfl ?_
  refine XO_storeA rfl rfl szt_45 rfl rfl rfl rfl (by repeat (first | exact Upd.here | apply Upd.there | apply upd_app)) ?_
  refine XO_nil (at_then ?_)
  refine X_ret ?_
  refine at_then_r ?_
  first
  | exact at_retA rfl rfl agt_45 Cells.g0 rfl (fun w hw => ⟨by rw [hf9]; rfl, hw.drop⟩)
 ·
  have hf8 : 1 ≤ f ∧ f ≤ 8 := by have h := hc8; unfold isF at hf; simp at h; omega
  refine X_skip ?_
  refine at_then ?_
  refine X_seq ?_
  have hD := HLe.refl I
  refine X_noP ?_
  refine X_drawS I [(b_5, .cells (encGA y).cells 45 (0, 0))] mixed ?_
  refine XD_take 1 rfl (ev_move rfl) (.none rfl) rfl rfl rfl (by kernel_rfl) (by kernel_rfl) (by kernel_rfl) noP_ok hD (by repeat (first | exact .refl | exact subL_nil | refine .keep ?_ | refine .drop ?_ | refine subL_add ?_)) ?_
  refine XD_take 4 rfl (ev_move rfl) (.none rfl) rfl rfl rfl (by kernel_rfl) (by kernel_rfl) (by kernel_rfl) noP_ok hD (by repeat (first | exact .refl | exact subL_nil | refine .keep ?_ | refine .drop ?_ | refine subL_add ?_)) ?_
  refine XD_one 0 rfl (by kernel_rfl) ?_
  refine XO_callV0 (cap := []) (vs := [_]) rfl rfl fun_132 (w_numbers I _) rfl rfl ?_
  refine XO_nil ?_
  refine at_D hD (by repeat (first | exact .refl | exact subL_nil | refine .keep ?_ | refine .drop ?_ | refine subL_add ?_)) ?_
  refine XD_two 2 3 rfl rfl (by kernel_rfl) ?_ ?_
  ·
   refine XO_v0 (ev_index rfl rfl art_157 sct_141 (fun hg => by omega) (fun hg => num_at hf8 b_3)) rfl rfl rfl ?_
   refine XO_nil ?_
   refine at_D hD (by repeat (first | exact .refl | exact subL_nil | refine .keep ?_ | refine .drop ?_ | refine subL_add ?_)) ?_
   refine XD_one 3 rfl (by kernel_rfl) ?_
   refine XO_callV0 (cap := []) (vs := [_]) rfl rfl fun_132 (w_numbers I _) rfl rfl ?_
   refine XO_nil ?_
   refine at_D hD (by repeat (first | exact .refl | exact subL_nil | refine .keep ?_ | refine .drop ?_ | refine subL_add ?_)) ?_
   refine XD_one 5 rfl (by kernel_rfl) ?_
   refine XO_v0 (ev_index rfl rfl art_157 sct_141 (fun hg => by omega) (fun hg => num_at hf8 b_5)) rfl rfl rfl ?_
   refine XO_nil ?_
   refine at_D hD (by repeat (first | exact .refl | exact subL_nil | refine .keep ?_ | refine .drop ?_ | refine subL_add ?_)) ?_
   refine XD_take 6 rfl (ev_nilCheck rfl) (.none rfl) rfl rfl rfl (by kernel_rfl) (by kernel_rfl) (by kernel_rfl) noP_ok hD (by repeat (first | exact .refl | exact subL_nil | refine .keep ?_ | refine .drop ?_ | refine subL_add ?_)) ?_
   refine XD_take 7 rfl (ev_load rfl sct_3 (fun hg => by first | exact Cell.h0 (cell_fo hf8 y) | (repeat (first | exact Cell.here rfl | apply Cell.there | apply Cell.app)))) (.none rfl) rfl rfl rfl (by kernel_rfl) (by kernel_rfl) (by kernel_rfl) noP_ok hD (by repeat (first | exact .refl | exact subL_nil | refine .keep ?_ | refine .drop ?_ | refine subL_add ?_)) ?_
   refine XD_take 8 rfl (ev_nilCheck rfl) (.none rfl) rfl rfl rfl (by kernel_rfl) (by kernel_rfl) (by kernel_rfl) noP_ok hD (by repeat (first | exact .refl | exact subL_nil | refine .keep ?_ | refine .drop ?_ | refine subL_add ?_)) ?_
   refine XD_one 9 rfl (by kernel_rfl) ?_
   refine XO_store rfl rfl szt_3 rfl rfl Upd.u2 (by exact fo_lt) ?_
   rw [show (encGA x).cells.setIfInBounds (foF f) (.int .i64 (getF y f)) = (encG (setG x f y)).toArray from set_fo hf8 x y]
   refine XO_nil ?_
   refine at_D hD (by repeat (first | exact .refl | exact subL_nil | refine .keep ?_ | refine .drop ?_ | refine subL_add ?_)) ?_
   refine XD_done (by kernel_rfl) ?_
   refine at_noP ?_
   refine at_then ?_
   refine X_seq (X_region ?_)
   refine XO_v0 (ev_loadA rfl agt_45 (fun hg => by first | (repeat (first | exact Cells.here | exact Cells.s0 (vs := [_, _, _, _, _, _, _, _, _, _, _, _, _, _]) rfl | apply Cells.there | apply Cells.app))) rfl) rfl rfl rfl ?_
   refine XO_storeA rfl rfl szt_45 rfl rfl rfl rfl (by repeat (first | exact Upd.here | apply Upd.there | apply upd_app)) ?_
   refine XO_nil (at_then ?_)
   refine X_ret ?_
   exact at_retA rfl rfl agt_45 Cells.g0 rfl (fun w hw => ⟨rfl, hw.drop⟩)
  ·
   refine XO_callV0 (cap := []) (vs := [_]) rfl rfl fun_132 (w_numbers I _) rfl rfl ?_
   refine XO_nil ?_
   refine at_D hD (by repeat (first | exact .refl | exact subL_nil | refine .keep ?_ | refine .drop ?_ | refine subL_add ?_)) ?_
   refine XD_two 2 5 rfl rfl (by kernel_rfl) ?_ ?_
   ·
    refine XO_v0 (ev_index rfl rfl art_157 sct_141 (fun hg => by omega) (fun hg => num_at hf8 b_3)) rfl rfl rfl ?_
    refine XO_nil ?_
    refine at_D hD (by repeat (first | exact .refl | exact subL_nil | refine .keep ?_ | refine .drop ?_ | refine subL_add ?_)) ?_
    refine XD_one 5 rfl (by kernel_rfl) ?_
    refine XO_v0 (ev_index rfl rfl art_157 sct_141 (fun hg => by omega) (fun hg => num_at hf8 b_5)) rfl rfl rfl ?_
    refine XO_nil ?_
    refine at_D hD (by repeat (first | exact .refl | exact subL_nil | refine .keep ?_ | refine .drop ?_ | refine subL_add ?_)) ?_
    refine XD_take 6 rfl (ev_nilCheck rfl) (.none rfl) rfl rfl rfl (by kernel_rfl) (by kernel_rfl) (by kernel_rfl) noP_ok hD (by repeat (first | exact .refl | exact subL_nil | refine .keep ?_ | refine .drop ?_ | refine subL_add ?_)) ?_
    refine XD_take 7 rfl (ev_load rfl sct_3 (fun hg => by first | exact Cell.h0 (cell_fo hf8 y) | (repeat (first | exact Cell.here rfl | apply Cell.there | apply Cell.app)))) (.none rfl) rfl rfl rfl (by kernel_rfl) (by kernel_rfl) (by kernel_rfl) noP_ok hD (by repeat (first | exact .refl | exact subL_nil | refine .keep ?_ | refine .drop ?_ | refine subL_add ?_)) ?_
    refine XD_take 8 rfl (ev_nilCheck rfl) (.none rfl) rfl rfl rfl (by kernel_rfl) (by kernel_rfl) (by kernel_rfl) noP_ok hD (by repeat (first | exact .refl | exact subL_nil | refine .keep ?_ | refine .drop ?_ | refine subL_add ?_)) ?_
    refine XD_one 9 rfl (by kernel_rfl) ?_
    refine XO_store rfl rfl szt_3 rfl rfl Upd.u2 (by exact fo_lt) ?_
    rw [show (encGA x).cells.setIfInBounds (foF f) (.int .i64 (getF y f)) = (encG (setG x f y)).toArray from set_fo hf8 x y]
    refine XO_nil ?_
    refine at_D hD (by repeat (first | exact .refl | exact subL_nil | refine .keep ?_ | refine .drop ?_ | refine subL_add ?_)) ?_
    refine XD_done (by kernel_rfl) ?_
    refine at_noP ?_
    refine at_then ?_
    refine X_seq (X_region ?_)
    refine XO_v0 (ev_loadA rfl agt_45 (fun hg => by first | (repeat (first | exact Cells.here | exact Cells.s0 (vs := [_, _, _, _, _, _, _, _, _, _, _, _, _, _]) rfl | apply Cells.there | apply Cells.app))) rfl) rfl rfl rfl ?_
    refine XO_storeA rfl rfl szt_45 rfl rfl rfl rfl (by repeat (first | exact Upd.here | apply Upd.there | apply upd_app)) ?_
    refine XO_nil (at_then ?_)
    refine X_ret ?_
    exact at_retA rfl rfl agt_45 Cells.g0 rfl (fun w hw => ⟨rfl, hw.drop⟩)
   ·
    refine XO_v0 (ev_index rfl rfl art_157 sct_141 (fun hg => by omega) (fun hg => num_at hf8 b_5)) rfl rfl rfl ?_
    refine XO_nil ?_
    refine at_D hD (by repeat (first | exact .refl | exact subL_nil | refine .keep ?_ | refine .drop ?_ | refine subL_add ?_)) ?_
    refine XD_take 6 rfl (ev_nilCheck rfl) (.none rfl) rfl rfl rfl (by kernel_rfl) (by kernel_rfl) (by kernel_rfl) noP_ok hD (by repeat (first | exact .refl | exact subL_nil | refine .keep ?_ | refine .drop ?_ | refine subL_add ?_)) ?_
    refine XD_take 7 rfl (ev_load rfl sct_3 (fun hg => by first | exact Cell.h0 (cell_fo hf8 y) | (repeat (first | exact Cell.here rfl | apply Cell.there | apply Cell.app)))) (.none rfl) rfl rfl rfl (by kernel_rfl) (by kernel_rfl) (by kernel_rfl) noP_ok hD (by repeat (first | exact .refl | exact subL_nil | refine .keep ?_ | refine .drop ?_ | refine subL_add ?_)) ?_
    refine XD_one 2 rfl (by kernel_rfl) ?_
    refine XO_v0 (ev_index rfl rfl art_157 sct_141 (fun hg => by omega) (fun hg => num_at hf8 b_3)) rfl rfl rfl ?_
    refine XO_nil ?_
    refine at_D hD (by repeat (first | exact .refl | exact subL_nil | refine .keep ?_ | refine .drop ?_ | refine subL_add ?_)) ?_
    refine XD_take 8 rfl (ev_nilCheck rfl) (.none rfl) rfl rfl rfl (by kernel_rfl) (by kernel_rfl) (by kernel_rfl) noP_ok hD (by repeat (first | exact .refl | exact subL_nil | refine .keep ?_ | refine .drop ?_ | refine subL_add ?_)) ?_
    refine XD_one 9 rfl (by kernel_rfl) ?_
    refine XO_store rfl rfl szt_3 rfl rfl Upd.u2 (by exact fo_lt) ?_
    rw [show (encGA x).cells.setIfInBounds (foF f) (.int .i64 (getF y f)) = (encG (setG x f y)).toArray from set_fo hf8 x y]
    refine XO_nil ?_
    refine at_D hD (by repeat (first | exact .refl | exact subL_nil | refine .keep ?_ | refine .drop ?_ | refine subL_add ?_)) ?_
    refine XD_done (by kernel_rfl) ?_
    refine at_noP ?_
    refine at_then ?_
    refine X_seq (X_region ?_)
    refine XO_v0 (ev_loadA rfl agt_45 (fun hg => by first | (repeat (first | exact Cells.here | exact Cells.s0 (vs := [_, _, _, _, _, _, _, _, _, _, _, _, _, _]) rfl | apply Cells.there | apply Cells.app))) rfl) rfl rfl rfl ?_
    refine XO_storeA rfl rfl szt_45 rfl rfl rfl rfl (by repeat (first | exact Upd.here | apply Upd.there | apply upd_app)) ?_
    refine XO_nil (at_then ?_)
    refine X_ret ?_
    exact at_retA rfl rfl agt_45 Cells.g0 rfl (fun w hw => ⟨rfl, hw.drop⟩)
end Go.Proofs.YtccomeanpppfmaaGreat
end
section
namespace Go.Proofs.YtccomeanpppfmaaGreat
open Go Go.Kn
def sortI (zs : List Int) : List Int := zs.mergeSort fun x y => decide (x ≤ y)
theorem flat_int (zs : List Int) : zs.flatMap encI = zs.map (Value.int .i64) := by
  induction zs with
  | nil => rfl
  | cons z zs ih => rw [List.flatMap_cons, ih]; rfl
theorem comp_inv (d : Array Int) (hs : ∀ j, 0 < j → j < d.size → d[j - 1]! ≤ d[j]!) : ∀ m, m ≤ d.size → (Lib.compactUpTo d m).Pairwise (· < ·) ∧ (∀ x ∈ Lib.compactUpTo d m, 0 < m ∧ x ≤ d[m - 1]!) ∧ ∀ x, x ∈ Lib.compactUpTo d m ↔ ∃ j, j < m ∧ d[j]! = x
  | 0, _ => ⟨.nil, (fun x h => by cases h), fun x => ⟨(fun h => by cases h), fun ⟨j, h, _⟩ => by omega⟩⟩
  | m + 1, hm => by
    obtain ⟨h1, h2, h3⟩ := comp_inv d hs m (by omega)
    rw [Lib.compactUpTo_succ]
    by_cases hk : Lib.keeps d m = true
    · rw [if_pos hk]
      have hlt : ∀ x ∈ Lib.compactUpTo d m, x < d[m]! := fun x hx => by
        obtain ⟨a, b⟩ := h2 x hx
        have h4 := hs m a (by omega)
        unfold Lib.keeps at hk
        have h5 := of_decide_eq_true hk
        omega
      refine ⟨?_, ?_, ?_⟩
      · rw [List.pairwise_append]
        exact ⟨h1, List.pairwise_singleton .., fun y hy z hz => by rw [List.mem_singleton] at hz; rw [hz]; exact hlt y hy⟩
      · intro x hx
        refine ⟨by omega, ?_⟩
        rw [show m + 1 - 1 = m from by omega]
        rcases List.mem_append.1 hx with hx | hx
        · have := hlt x hx; omega
        · rw [List.mem_singleton] at hx; rw [hx]; exact Int.le_refl _
      · intro x
        rw [List.mem_append, h3, List.mem_singleton]
        constructor
        · rintro (⟨j, a, b⟩ | e)
          · exact ⟨j, by omega, b⟩
          · exact ⟨m, by omega, e.symm⟩
        · rintro ⟨j, a, b⟩
          by_cases e : j = m
          · subst e; exact .inr b.symm
          · exact .inl ⟨j, by omega, b⟩
    · rw [if_neg hk, List.append_nil]
      unfold Lib.keeps at hk
      have h5 : ¬ (m = 0 ∨ d[m]! ≠ d[m - 1]!) := fun h => hk (decide_eq_true h)
      have h6 : 0 < m ∧ d[m]! = d[m - 1]! := by omega
      refine ⟨h1, ?_, ?_⟩
      · intro x hx
        have := h2 x hx
        rw [show m + 1 - 1 = m from by omega]
        omega
      · intro x
        rw [h3]
        constructor
        · rintro ⟨j, a, b⟩; exact ⟨j, by omega, b⟩
        · rintro ⟨j, a, b⟩
          by_cases e : j = m
          · subst e; exact ⟨j - 1, by omega, by rw [← h6.2]; exact b⟩
          · exact ⟨j, by omega, b⟩
theorem comp_sort (zs : List Int) : (Lib.compact (sortI zs)).Pairwise (· < ·) ∧ ∀ x, x ∈ Lib.compact (sortI zs) ↔ x ∈ zs := by
  have hp : (sortI zs).Pairwise (fun a b => decide (a ≤ b) = true) := List.pairwise_mergeSort (by intro a b c; simp; omega) (by intro a b; simp; omega) zs
  have hget : ∀ j, j < (sortI zs).length → (sortI zs).toArray[j]! = (sortI zs)[j]! := fun j hj => by simp
  have hs : ∀ j, 0 < j → j < (sortI zs).toArray.size → (sortI zs).toArray[j - 1]! ≤ (sortI zs).toArray[j]! := by
    intro j h0 hj
    have hj' : j < (sortI zs).length := by simpa using hj
    have h1 := List.pairwise_iff_getElem.1 hp (j - 1) j (by omega) hj' (by omega)
    have h2 := of_decide_eq_true h1
    simpa [hj', show j - 1 < (sortI zs).length from by omega] using h2
  obtain ⟨h1, _, h3⟩ := comp_inv (sortI zs).toArray hs (sortI zs).length (by simp)
  refine ⟨h1, fun x => ?_⟩
  unfold Lib.compact
  rw [h3]
  have hmem : x ∈ sortI zs ↔ x ∈ zs := (List.mergeSort_perm zs _).mem_iff
  rw [← hmem]
  constructor
  · rintro ⟨j, hj, e⟩
    have : (sortI zs)[j] = x := by simpa [hj] using e
    rw [← this]; exact List.getElem_mem hj
  · intro h
    obtain ⟨j, hj, e⟩ := List.getElem_of_mem h
    exact ⟨j, hj, by simpa [hj] using e⟩
theorem comp_sort_eq {zs ys : List Int} (hy : ys.Pairwise (· < ·)) (h : ∀ x, x ∈ zs ↔ x ∈ ys) : Lib.compact (sortI zs) = ys :=
  sorted_ext (comp_sort zs).1 hy fun a => by rw [(comp_sort zs).2, h]
end Go.Proofs.YtccomeanpppfmaaGreat
end
section
namespace Go.Proofs.YtccomeanpppfmaaGreat
open Go Go.Kn Go.Proofs
theorem half_eq (i j : Nat) (h : i + j ≤ 1000000) : IntKind.i64.wrap ((IntKind.u64.wrap ((i : Int) + (j : Int))).fdiv (2 ^ 1)) = (((i + j) / 2 : Nat) : Int) := by
  have h1 : IntKind.u64.wrap ((i : Int) + (j : Int)) = ((i + j : Nat) : Int) := by
    rw [show ((i : Int) + (j : Int)) = ((i + j : Nat) : Int) by omega]
    exact u64_id ⟨by omega, by omega⟩
  rw [h1, show ((2 : Int) ^ 1) = ((2 : Nat) : Int) from rfl, Int.fdiv_eq_ediv_of_nonneg _ (by omega), ← Int.natCast_ediv]
  exact wrap_in ⟨by omega, by omega⟩
theorem cmp_lt {x y : Int} : decide (cmpF x y < 0) = decide (x < y) := by
  unfold cmpF
  by_cases h : x < y
  · rw [if_pos h]; simp [h]
  · rw [if_neg h]; split <;> simp [h]
section
variable {α : Type} {key : α → Int} {xs : List α} {t : Int}
theorem bs_lo (hs : xs.Pairwise (fun a b => key a < key b)) {h : Nat} {y : α} (hy : xs[h]? = some y) (hlt : key y < t) : ∀ q z, q < h + 1 → xs[q]? = some z → key z < t := fun q z hq hz => by
  obtain ⟨h1, h2⟩ := List.getElem?_eq_some_iff.1 hz
  obtain ⟨h3, h4⟩ := List.getElem?_eq_some_iff.1 hy
  by_cases e : q = h
  · subst e; rw [hy] at hz; cases hz; exact hlt
  · have := List.pairwise_iff_getElem.1 hs q h h1 h3 (by omega)
    rw [h2, h4] at this; omega
theorem bs_hi (hs : xs.Pairwise (fun a b => key a < key b)) {h : Nat} {y : α} (hy : xs[h]? = some y) (hlt : ¬ key y < t) : ∀ q z, h ≤ q → xs[q]? = some z → ¬ key z < t := fun q z hq hz => by
  obtain ⟨h1, h2⟩ := List.getElem?_eq_some_iff.1 hz
  obtain ⟨h3, h4⟩ := List.getElem?_eq_some_iff.1 hy
  by_cases e : q = h
  · subst e; rw [hy] at hz; cases hz; exact hlt
  · have := List.pairwise_iff_getElem.1 hs h q h3 h1 (by omega)
    rw [h2, h4] at this; omega
/-- The number found: how many are less. -/
def lowK (key : α → Int) (xs : List α) (t : Int) : Nat := (xs.takeWhile fun x => decide (key x < t)).length
theorem low_at {i : Nat} (hi : i ≤ xs.length) (hlo : ∀ q z, q < i → xs[q]? = some z → key z < t) (hhi : ∀ q z, i ≤ q → xs[q]? = some z → ¬ key z < t) : lowK key xs t = i := by
  unfold lowK
  have h1 : (xs.take i).all (fun x => decide (key x < t)) = true := by
    rw [List.all_eq_true]
    intro z hz
    obtain ⟨q, hq⟩ := List.getElem?_of_mem hz
    have hq1 : q < i := by have := (List.getElem?_eq_some_iff.1 hq).1; rw [List.length_take] at this; omega
    rw [List.getElem?_take_of_lt hq1] at hq
    exact decide_eq_true (hlo q z hq1 hq)
  rw [(tw_eq h1 hi (fun y hy => decide_eq_false (hhi i y (Nat.le_refl _) hy))).1, List.length_take]; omega
theorem found_at {i n : Nat} {d : α} (hl : xs.length = n) (hlo : ∀ q z, q < i → xs[q]? = some z → key z < t) (hhi : ∀ q z, i ≤ q → xs[q]? = some z → ¬ key z < t) (hs : xs.Pairwise (fun a b => key a < key b)) : (decide ((i : Int) < (n : Int)) && (key (xs.getD i d) == t)) = xs.any fun x => key x == t := by
  rw [Bool.eq_iff_iff, List.any_eq_true, Bool.and_eq_true]
  constructor
  · rintro ⟨h1, h2⟩
    have hi : i < n := by have := of_decide_eq_true h1; omega
    exact ⟨_, List.mem_of_getElem? (some_getD hl hi), h2⟩
  · rintro ⟨x, hx, e⟩
    have e : key x = t := by simpa using e
    obtain ⟨q, hq⟩ := List.getElem?_of_mem hx
    have hqn := (List.getElem?_eq_some_iff.1 hq).1
    have h1 : i ≤ q := by
      rcases Nat.lt_or_ge q i with h | h
      · have := hlo q x h hq; omega
      · exact h
    have h2 : q = i := by
      by_cases e2 : q = i
      · exact e2
      · have hy := some_getD (d := d) hl (show i < n by omega)
        obtain ⟨h3, h4⟩ := List.getElem?_eq_some_iff.1 hq
        obtain ⟨h5, h6⟩ := List.getElem?_eq_some_iff.1 hy
        have h7 := List.pairwise_iff_getElem.1 hs i q h5 h3 (by omega)
        rw [h4, h6] at h7
        have := hhi i _ (Nat.le_refl _) hy
        omega
    subst h2
    refine ⟨decide_eq_true (by omega), ?_⟩
    rw [getD_of hq, e]; simp
end
instance : Inhabited Sg := ⟨zeroG⟩
def cmpG (a b : Sg) : Int := cmpF a.id b.id
theorem ltG (a b : Sg) : Go.Proofs.ltOf cmpG a b = decide (a.id < b.id) := by unfold Go.Proofs.ltOf cmpG; exact cmp_lt
theorem swoG : Go.Sort.SWO (Go.Proofs.ltOf cmpG) where
  irrefl := fun x => by rw [ltG]; simp
  trans := fun x y z h1 h2 => by rw [ltG] at *; simp at *; omega
  ntrans := fun x y z h1 h2 => by rw [ltG] at *; simp at *; omega
/-- A permutation in order, of signs with different IDs. -/
theorem perm_srt {zs zs' : List Sg} (hp : zs'.Perm zs) (hs : zs'.Pairwise (fun x y => Go.Proofs.ltOf cmpG y x = false)) (hn : (zs.map (·.id)).Nodup) : Srt zs' := by
  have hn' : (zs'.map (·.id)).Nodup := (hp.map (·.id)).nodup_iff.2 hn
  unfold Srt
  have h2 : zs'.Pairwise (fun a b => a.id ≠ b.id) := List.pairwise_map.1 hn'
  refine (hs.and h2).imp fun {a b} h => ?_
  have := h.1
  rw [ltG] at this
  simp at this
  have := h.2
  omega
end Go.Proofs.YtccomeanpppfmaaGreat
end
section
namespace Go.Proofs.YtccomeanpppfmaaGreat
open Go Go.Kn Go.Proofs
def incP (v : List Int) (i : Nat) : Bool := !(decide ((i : Int) > 0) && decide (v.getD i 0 ≤ v.getD ((i : Int) - 1).toNat 0))
theorem incB_eq {v : List Int} : incB v = (List.range v.length).all (incP v) := rfl
theorem incP_zero (v : List Int) : (List.range 1).all (incP v) = true := by simp [incP]
theorem incP_at {v : List Int} {k : Nat} {x : Int} (hx : v[k]? = some x) (h : 1 ≤ k) : incP v k = !decide (x ≤ v.getD ((k : Int) - 1).toNat 0) := by
  unfold incP
  rw [getD_of hx, decide_eq_true (show (k : Int) > 0 by omega), Bool.true_and]
theorem range_cut {p : Nat → Bool} {n k : Nat} (h : (List.range k).all p = true) (hn : n ≤ k) : (List.range n).all p = true := by
  rw [List.all_eq_true] at *
  intro i hi
  exact h i (List.mem_range.2 (Nat.lt_of_lt_of_le (List.mem_range.1 hi) hn))
end Go.Proofs.YtccomeanpppfmaaGreat
end
section
namespace Go.Proofs
open Go.Shelf
def Tryz.lays189_ren : Go.Shelf.Ren := ⟨fun | 189 => 72 | 125 => 131 | 257 => 130 | 128 => 167 | 129 => 168 | 294 => 159 | 295 => 160 | 296 => 161 | 297 => 162 | 298 => 163 | 299 => 164 | 216 => 135 | 300 => 165 | 301 => 166 | 328 => 182 | 329 => 183 | 330 => 184 | 331 => 185 | 332 => 186 | 215 => 124 | 343 => 193 | n => n, fun | 28 => 23 | 3 => 3 | 46 => 146 | 0 => 0 | 51 => 181 | 53 => 183 | 4 => 4 | 183 => 175 | 182 => 174 | 131 => 78 | 5 => 5 | 9 => 9 | 218 => 197 | 222 => 141 | 228 => 204 | 229 => 195 | n => n, fun | n => n⟩
theorem Tryz.lays189 : Go.Proofs.Lays.n189 Tryz.prog Tryz.lays189_ren := {
  mixed := by kernel_rfl
  f125 := Tryz.func131.trans (congrArg some (by kernel_rfl))
  f128 := Tryz.func167.trans (congrArg some (by kernel_rfl))
  f129 := Tryz.func168.trans (congrArg some (by kernel_rfl))
  f189 := Tryz.func72.trans (congrArg some (by kernel_rfl))
  f215 := Tryz.func124.trans (congrArg some (by kernel_rfl))
  f216 := Tryz.func135.trans (congrArg some (by kernel_rfl))
  f257 := Tryz.func130.trans (congrArg some (by kernel_rfl))
  f294 := Tryz.func159.trans (congrArg some (by kernel_rfl))
  f295 := Tryz.func160.trans (congrArg some (by kernel_rfl))
  f296 := Tryz.func161.trans (congrArg some (by kernel_rfl))
  f297 := Tryz.func162.trans (congrArg some (by kernel_rfl))
  f298 := Tryz.func163.trans (congrArg some (by kernel_rfl))
  f299 := Tryz.func164.trans (congrArg some (by kernel_rfl))
  f300 := Tryz.func165.trans (congrArg some (by kernel_rfl))
  f301 := Tryz.func166.trans (congrArg some (by kernel_rfl))
  f328 := Tryz.func182.trans (congrArg some (by kernel_rfl))
  f329 := Tryz.func183.trans (congrArg some (by kernel_rfl))
  f330 := Tryz.func184.trans (congrArg some (by kernel_rfl))
  f331 := Tryz.func185.trans (congrArg some (by kernel_rfl))
  f332 := Tryz.func186.trans (congrArg some (by kernel_rfl))
  f343 := Tryz.func193.trans (congrArg some (by kernel_rfl))
  t0 := Tryz.underlying0
  a0 := Tryz.isAgg0
  z0 := Tryz.sizeOf0
  v0 := Tryz.zeroValue0
  t3 := Tryz.underlying3
  a3 := Tryz.isAgg3
  z3 := Tryz.sizeOf3
  v3 := Tryz.zeroValue3
  t4 := Tryz.underlying4
  a4 := Tryz.isAgg4
  z4 := Tryz.sizeOf4
  v4 := Tryz.zeroValue4
  t5 := Tryz.underlying5
  a5 := Tryz.isAgg5
  z5 := Tryz.sizeOf5
  v5 := Tryz.zeroValue5
  t9 := Tryz.underlying9
  a9 := Tryz.isAgg9
  z9 := Tryz.sizeOf9
  v9 := Tryz.zeroValue9
  t28 := Tryz.underlying23
  a28 := Tryz.isAgg23
  z28 := Tryz.sizeOf23
  v28 := Tryz.zeroValue23
  t46 := Tryz.underlying146
  a46 := Tryz.isAgg146
  z46 := Tryz.sizeOf146
  v46 := Tryz.zeroValue146
  t51 := Tryz.underlying181
  a51 := Tryz.isAgg181
  z51 := Tryz.sizeOf181
  v51 := Tryz.zeroValue181
  t53 := Tryz.underlying183
  a53 := Tryz.isAgg183
  z53 := Tryz.sizeOf183
  v53 := Tryz.zeroValue183
  t131 := Tryz.underlying78
  a131 := Tryz.isAgg78
  z131 := Tryz.sizeOf78
  v131 := Tryz.zeroValue78
  t182 := Tryz.underlying174
  a182 := Tryz.isAgg174
  z182 := Tryz.sizeOf174
  v182 := Tryz.zeroValue174
  t183 := Tryz.underlying175
  a183 := Tryz.isAgg175
  z183 := Tryz.sizeOf175
  v183 := Tryz.zeroValue175
  t218 := Tryz.underlying197
  a218 := Tryz.isAgg197
  z218 := Tryz.sizeOf197
  v218 := Tryz.zeroValue197
  t222 := Tryz.underlying141
  a222 := Tryz.isAgg141
  z222 := Tryz.sizeOf141
  v222 := Tryz.zeroValue141
  t228 := Tryz.underlying204
  a228 := Tryz.isAgg204
  z228 := Tryz.sizeOf204
  v228 := Tryz.zeroValue204
  t229 := Tryz.underlying195
  a229 := Tryz.isAgg195
  z229 := Tryz.sizeOf195
  v229 := Tryz.zeroValue195 }
open Go.Sort Go.RowKit in
theorem Tryz.slices_Sort_int (blk off cap : Nat) (zs : List Int) (w : World) (hH : Holds (Value.int .i64) w blk off zs.toArray) (hblk : blk < w.heap.size) (hsz : zs.length < 4611686018427387904) :
    Calls Tryz.prog 72 #[.slice (some ⟨blk, off, none⟩) zs.length cap] w fun e w' =>
      e = .returned (.tuple #[]) ∧ ∃ n os, w' = grow (putRow (Value.int .i64) (Sort.ahead w n) blk off (zs.mergeSort fun x y => decide (x ≤ y)).toArray) os := Any.slices_Sort_int Tryz.lays189 blk off cap zs w hH hblk hsz
def Tryz.laysNm220_ren : Go.Shelf.Ren := ⟨fun | 20 => 73 | n => n, fun | 22 => 23 | 3 => 3 | 4 => 4 | 0 => 0 | n => n, fun | n => n⟩
theorem Tryz.laysNm220 : Go.Proofs.Lays2.n20 Tryz.prog Tryz.laysNm220_ren := {
  mixed := by kernel_rfl
  f20 := Tryz.func73.trans (congrArg some (by kernel_rfl))
  t0 := Tryz.underlying0
  a0 := Tryz.isAgg0
  z0 := Tryz.sizeOf0
  v0 := Tryz.zeroValue0
  t3 := Tryz.underlying3
  a3 := Tryz.isAgg3
  z3 := Tryz.sizeOf3
  v3 := Tryz.zeroValue3
  t4 := Tryz.underlying4
  a4 := Tryz.isAgg4
  z4 := Tryz.sizeOf4
  v4 := Tryz.zeroValue4
  t22 := Tryz.underlying23
  a22 := Tryz.isAgg23
  z22 := Tryz.sizeOf23
  v22 := Tryz.zeroValue23
  i3 := by kernel_rfl }
open Go.RowKit Go.Lib Go.Sort in
theorem Tryz.slices_Compact_int (blk off cap : Nat) (zs : List Int) (w : World) (hH : Holds (Value.int .i64) w blk off zs.toArray) (hsz : zs.length ≤ 9223372036854775807) (hcap : zs.length ≤ cap) :
    Calls Tryz.prog 73 #[.slice (some ⟨blk, off, none⟩) zs.length cap] w fun e w' => e = .returned (.slice (some ⟨blk, off, none⟩) (Lib.compact zs).length cap) ∧ ∃ q, w' = putRow (Value.int .i64) (Sort.ahead w q) blk off (Lib.compact zs ++ List.replicate (zs.length - (Lib.compact zs).length) 0).toArray := Any.slices_Compact_int Tryz.laysNm220 blk off cap zs w hH hsz hcap
open Go.RowKit Go.Lib Go.Sort in
theorem Tryz.slices_Compact_int_empty (a : Option Addr) (cap : Nat) (w : World) :
    Calls Tryz.prog 73 #[.slice a 0 cap] w fun e w' => e = .returned (.slice a 0 cap) ∧ w' = w := Any.slices_Compact_int_empty Tryz.laysNm220 a cap w
open Go.RowKit Go.Sort in
theorem Tryz.slices_Sort_int_none (p : Option Addr) (cap : Nat) (w : World) :
    Calls Tryz.prog 72 #[.slice p 0 cap] w fun e w' => e = .returned (.tuple #[]) ∧ w' = w := Any.slices_Sort_int_none Tryz.lays189 p cap w
def Tryz.laysSlF06_f80_ren : Go.Shelf.Ren := ⟨fun | 6 => 80 | 15 => 131 | 14 => 137 | 28 => 167 | 29 => 168 | 20 => 169 | 21 => 170 | 22 => 171 | 23 => 172 | 24 => 173 | 25 => 174 | 26 => 175 | 27 => 176 | 46 => 187 | 47 => 183 | 48 => 184 | 49 => 188 | 50 => 189 | 57 => 194 | n => n, fun | 22 => 33 | 24 => 45 | 25 => 117 | 3 => 3 | 39 => 146 | 0 => 0 | 53 => 181 | 55 => 183 | 4 => 4 | 46 => 175 | 45 => 174 | 50 => 78 | 5 => 5 | 9 => 9 | 66 => 197 | 70 => 141 | 76 => 204 | 77 => 195 | n => n, fun | n => n⟩
theorem Tryz.laysSlF06_f80 : Go.Proofs.SlLaysF0.n6 Tryz.prog Tryz.laysSlF06_f80_ren := {
  mixed := by kernel_rfl
  f6 := ⟨Tryz.f80.name, by decide, Tryz.func80.trans (congrArg some (by kernel_rfl))⟩
  f14 := ⟨Tryz.f137.name, by decide, Tryz.func137.trans (congrArg some (by kernel_rfl))⟩
  f15 := Tryz.func131.trans (congrArg some (by kernel_rfl))
  f20 := ⟨Tryz.f169.name, by decide, Tryz.func169.trans (congrArg some (by kernel_rfl))⟩
  f21 := ⟨Tryz.f170.name, by decide, Tryz.func170.trans (congrArg some (by kernel_rfl))⟩
  f22 := ⟨Tryz.f171.name, by decide, Tryz.func171.trans (congrArg some (by kernel_rfl))⟩
  f23 := ⟨Tryz.f172.name, by decide, Tryz.func172.trans (congrArg some (by kernel_rfl))⟩
  f24 := ⟨Tryz.f173.name, by decide, Tryz.func173.trans (congrArg some (by kernel_rfl))⟩
  f25 := ⟨Tryz.f174.name, by decide, Tryz.func174.trans (congrArg some (by kernel_rfl))⟩
  f26 := ⟨Tryz.f175.name, by decide, Tryz.func175.trans (congrArg some (by kernel_rfl))⟩
  f27 := ⟨Tryz.f176.name, by decide, Tryz.func176.trans (congrArg some (by kernel_rfl))⟩
  f28 := Tryz.func167.trans (congrArg some (by kernel_rfl))
  f29 := Tryz.func168.trans (congrArg some (by kernel_rfl))
  f46 := ⟨Tryz.f187.name, by decide, Tryz.func187.trans (congrArg some (by kernel_rfl))⟩
  f47 := Tryz.func183.trans (congrArg some (by kernel_rfl))
  f48 := Tryz.func184.trans (congrArg some (by kernel_rfl))
  f49 := ⟨Tryz.f188.name, by decide, Tryz.func188.trans (congrArg some (by kernel_rfl))⟩
  f50 := ⟨Tryz.f189.name, by decide, Tryz.func189.trans (congrArg some (by kernel_rfl))⟩
  f57 := ⟨Tryz.f194.name, by decide, Tryz.func194.trans (congrArg some (by kernel_rfl))⟩
  t0 := Tryz.underlying0
  a0 := Tryz.isAgg0
  z0 := Tryz.sizeOf0
  v0 := Tryz.zeroValue0
  t3 := Tryz.underlying3
  a3 := Tryz.isAgg3
  z3 := Tryz.sizeOf3
  v3 := Tryz.zeroValue3
  t4 := Tryz.underlying4
  a4 := Tryz.isAgg4
  z4 := Tryz.sizeOf4
  v4 := Tryz.zeroValue4
  t5 := Tryz.underlying5
  a5 := Tryz.isAgg5
  z5 := Tryz.sizeOf5
  v5 := Tryz.zeroValue5
  t9 := Tryz.underlying9
  a9 := Tryz.isAgg9
  z9 := Tryz.sizeOf9
  v9 := Tryz.zeroValue9
  t22 := Tryz.underlying33
  a22 := Tryz.isAgg33
  z22 := Tryz.sizeOf33
  v22 := Tryz.zeroValue33
  t25 := Tryz.underlying117
  a25 := Tryz.isAgg117
  z25 := Tryz.sizeOf117
  v25 := Tryz.zeroValue117
  t39 := Tryz.underlying146
  a39 := Tryz.isAgg146
  z39 := Tryz.sizeOf146
  v39 := Tryz.zeroValue146
  t45 := Tryz.underlying174
  a45 := Tryz.isAgg174
  z45 := Tryz.sizeOf174
  v45 := Tryz.zeroValue174
  t46 := Tryz.underlying175
  a46 := Tryz.isAgg175
  z46 := Tryz.sizeOf175
  v46 := Tryz.zeroValue175
  t50 := Tryz.underlying78
  a50 := Tryz.isAgg78
  z50 := Tryz.sizeOf78
  v50 := Tryz.zeroValue78
  t53 := Tryz.underlying181
  a53 := Tryz.isAgg181
  z53 := Tryz.sizeOf181
  v53 := Tryz.zeroValue181
  t55 := Tryz.underlying183
  a55 := Tryz.isAgg183
  z55 := Tryz.sizeOf183
  v55 := Tryz.zeroValue183
  t66 := Tryz.underlying197
  a66 := Tryz.isAgg197
  z66 := Tryz.sizeOf197
  v66 := Tryz.zeroValue197
  t70 := Tryz.underlying141
  a70 := Tryz.isAgg141
  z70 := Tryz.sizeOf141
  v70 := Tryz.zeroValue141
  t76 := Tryz.underlying204
  a76 := Tryz.isAgg204
  z76 := Tryz.sizeOf204
  v76 := Tryz.zeroValue204
  t77 := Tryz.underlying195
  a77 := Tryz.isAgg195
  z77 := Tryz.sizeOf195
  v77 := Tryz.zeroValue195 }
open Go.RowKit Go.Lib Go.Sort in
theorem Tryz.slices_SortFunc {α : Type} [Inhabited α] (k : Nat) (aE : ∀ w, (isAgg (Tryz.laysSlF06_f80_ren.t 24)).run Tryz.prog w = .ok true w) (zE : ∀ w, (Go.sizeOf (Tryz.laysSlF06_f80_ren.t 24)).run Tryz.prog w = .ok k w) (enc : α → List Value) (hk : ∀ x, (enc x).length = k) (h1 : ∀ x, ∀ v ∈ enc x, v.oneCell' = true) (cf : α → α → Int) (hO : SWO (ltOf cf)) (g : Nat) (cb : Array Value) (blk off cap : Nat) (d : Array α) (w : World) (eg : ∀ args w, (callFunc g args).run Tryz.prog w = .ok (.enter g args) w) (hcmp : CmpLays Tryz.prog g cb enc k cf blk off d.size w) (hH : HoldsK enc k w blk off d) (hblk : blk < w.heap.size) (hsz : d.size < 4611686018427387904) :
    Calls Tryz.prog 80 #[.slice (some ⟨blk, off, none⟩) d.size cap, .func (.func g) #[] cb] w fun e w' =>
      e = .returned (.tuple #[]) ∧ ∃ d' n os, PermIn 0 d.size d d' ∧ SortedIn (ltOf cf) 0 d.size d' ∧ w' = sortWorldK enc k w blk off n d' os := AnyQ.slices_SortFunc Tryz.laysSlF06_f80 k aE zE enc hk h1 cf hO g cb blk off cap d w eg hcmp hH hblk hsz
open Go.RowKit Go.Lib Go.Sort in
theorem Tryz.slices_SortFunc_none {α : Type} [Inhabited α] (p : Option Addr) (cap : Nat) (fv : Value) (w : World) :
    Calls Tryz.prog 80 #[.slice p 0 cap, fv] w fun e w' => e = .returned (.tuple #[]) ∧ w' = w := AnyF.slices_SortFunc_none Tryz.laysSlF06_f80 p cap fv w
end Go.Proofs
end
section
namespace Go.Proofs.YtccomeanpppfmaaGreat
open Go Go.Kn Go.Proofs
theorem w_sort (e : Nat) (zs : List Int) {v : Value} {n : Nat} {L : Go.Kn.Loc} (hO : OwnS e 1 v n (zs.map (Value.int .i64)) L) (hn : n ≤ 1000000) (I : HMap) :
  RetM Tryz.prog 72 [v] I L (fun u I' L' => u = .tuple #[] ∧ I' = I ∧ OwnS e 1 v n ((sortI zs).map (Value.int .i64)) L') :=
 retSort Tryz.slices_Sort_int Tryz.slices_Sort_int_none zs hO hn I
theorem w_compact (e : Nat) (zs : List Int) {v : Value} {n : Nat} {L : Go.Kn.Loc} (hO : OwnS e 1 v n (zs.map (Value.int .i64)) L) (hn : n ≤ 1000000) (I : HMap) :
  RetM Tryz.prog 73 [v] I L (fun u I' L' => I' = I ∧ OwnS e 1 u (Lib.compact zs).length ((Lib.compact zs).map (Value.int .i64)) L') :=
 retCompact Lib.compact Lib.compact_length_le rfl Tryz.slices_Compact_int Tryz.slices_Compact_int_empty zs hO hn I
theorem w_cmpG (I : HMap) (x y : Sg) : RetV Tryz.prog 81 [encGA x, encGA y] I (.int .i64 (cmpG x y)) := by
 intro g H w hw
 refine enter Tryz.func81 rfl Tryz.ntmps81 rfl hw ?_
 refine X_seq (X_region ?_)
 refine XO_box rfl rfl rfl (fun b_2 => ?_)
 refine XO_box rfl rfl rfl (fun b_3 => ?_)
 refine XO_v0 (ev_assign rfl) rfl rfl rfl ?_
 refine XO_nil (at_then ?_)
 refine X_seq (X_region ?_)
 refine XO_v0 (ev_fieldAddr rfl fld_45_0) rfl rfl rfl ?_
 refine XO_v0 (ev_load rfl sct_3 (fun hg => by repeat (first | exact Cell.here rfl | apply Cell.there | apply Cell.app))) rfl rfl rfl ?_
 refine XO_v0 (ev_fieldAddr rfl fld_45_0) rfl rfl rfl ?_
 refine XO_v0 (ev_load rfl sct_3 (fun hg => by repeat (first | exact Cell.here rfl | apply Cell.there | apply Cell.app))) rfl rfl rfl ?_
 refine XO_callV0 (cap := []) (vs := [_, _]) rfl rfl fun_63 (w_cmp I _ _) rfl rfl ?_
 refine XO_v0 (ev_assign rfl) rfl rfl rfl ?_
 refine XO_nil (at_then ?_)
 refine X_ret ?_
 exact at_ret1 rfl rfl (fun w hw => ⟨by first | rfl | simp_all, hw.drop⟩)
theorem w_sortG (e : Nat) (zs : List Sg) {v : Value} {n : Nat} {L : Go.Kn.Loc} (hO : OwnS e 14 v n (zs.flatMap encG) L) (hn : n ≤ 1000000) (I : HMap) :
  RetM Tryz.prog 80 [v, .func (.func 81) #[] #[]] I L (fun u I' L' => u = .tuple #[] ∧ I' = I ∧ ∃ zs' : List Sg, zs'.Perm zs ∧ zs'.Pairwise (fun x y => Go.Proofs.ltOf cmpG y x = false) ∧ OwnS e 14 v n (zs'.flatMap encG) L') :=
 retSortK encG_len (by decide) (fun blk off cap d w hC hH hb hs => Tryz.slices_SortFunc 14 (fun w => run_isAgg_ag agt_45) (fun w => by obtain ⟨i, hi, hz⟩ := szt_45; rw [← hz]; exact Go.Kn.run_sizeOf hi) encG encG_len (fun x => allOne_iff (by rfl)) cmpG swoG 81 #[] blk off cap d w (fun args w => run_callFunc fun_81 args w) hC hH hb hs)
  (Tryz.slices_SortFunc_none (α := Sg)) (fun I x y => w_cmpG I x y) zs hO hn I
theorem w_nan2 (I : HMap) (x : Int) : RetV Tryz.prog 136 [.int .i64 x] I (.bool false) := by
 intro g H w hw
 refine enter Tryz.func136 rfl Tryz.ntmps136 rfl hw ?_
 refine X_seq (X_region ?_)
 refine XO_v0 (ev_assign rfl) rfl rfl rfl ?_
 refine XO_nil (at_then ?_)
 refine X_seq (X_region ?_)
 refine XO_v0 (ev_move rfl) rfl rfl rfl ?_
 refine XO_v0 (ev_move rfl) rfl rfl rfl ?_
 refine XO_v0 (ev_cmp rfl rfl rfl) rfl rfl rfl ?_
 refine XO_v0 (ev_assign rfl) rfl rfl rfl ?_
 refine XO_nil (at_then ?_)
 refine X_ret ?_
 exact at_ret1 rfl rfl (fun w hw => ⟨by simp, hw.drop⟩)
theorem w_less (I : HMap) (x y : Int) : RetV Tryz.prog 135 [.int .i64 x, .int .i64 y] I (.bool (decide (x < y))) := by
 intro g H w hw
 refine enter Tryz.func135 rfl Tryz.ntmps135 rfl hw ?_
 refine X_seq (X_region ?_)
 refine XO_v0 (ev_assign rfl) rfl rfl rfl ?_
 refine XO_nil (at_then ?_)
 refine X_seq (X_region ?_)
 refine XO_v0 (ev_move rfl) rfl rfl rfl ?_
 refine XO_callV0 (cap := []) (vs := [_]) rfl rfl fun_124 (w_nan I _) rfl rfl ?_
 refine XO_v0 (ev_move rfl) rfl rfl rfl ?_
 refine XO_pushT 2 rfl rfl rfl ?_
 refine XO_v1 (ev_move rfl) (.some rfl rfl rfl rfl gbt) rfl rfl rfl ?_
 refine XO_callV1 (cap := []) (vs := [_]) rfl rfl fun_124 (fun hg => w_nan I _) (.some rfl rfl rfl rfl gbt) rfl rfl ?_
 refine XO_v1 (ev_not rfl) (.some rfl rfl rfl rfl gbt) rfl rfl rfl ?_
 refine XO_and0 rfl rfl rfl rfl rfl ?_
 refine XO_v0 (ev_move rfl) rfl rfl rfl ?_
 refine XO_pushF 7 rfl rfl rfl ?_
 refine XO_v1 (ev_move rfl) (.some rfl rfl rfl rfl gbf) rfl rfl rfl ?_
 refine XO_v1 (ev_move rfl) (.some rfl rfl rfl rfl gbf) rfl rfl rfl ?_
 refine XO_v1 (ev_cmp rfl rfl rfl) (.some rfl rfl rfl rfl gbf) rfl rfl rfl ?_
 refine XO_or0 rfl rfl rfl rfl rfl ?_
 refine XO_v0 (ev_assign rfl) rfl rfl rfl ?_
 refine XO_nil (at_then ?_)
 refine X_ret ?_
 exact at_ret1 rfl rfl (fun w hw => ⟨by first | rfl | (simp), hw.drop⟩)
theorem w_bsI {I : HMap} {av : Option Addr} {n c : Nat} {xs : List Int} (hS : Sl I 1 encI av n c xs) (hn : n ≤ 100000) (hs : xs.Pairwise (· < ·)) (t : Int) : RetV Tryz.prog 79 [.slice av n c, .int .i64 t] I (.tuple #[.int .i64 (lowK (fun x : Int => x) xs t : Nat), .bool (xs.any fun x => x == t)]) := by
 intro g H w hw
 refine enter Tryz.func79 rfl Tryz.ntmps79 rfl hw ?_
 refine X_seq (X_region ?_)
 refine XO_v0 (ev_assign rfl) rfl rfl rfl ?_
 refine XO_v0 (ev_assign rfl) rfl rfl rfl ?_
 refine XO_nil (at_then ?_)
 refine X_seq (X_region ?_)
 refine XO_v0 (ev_move rfl) rfl rfl rfl ?_
 refine XO_v0 (ev_lenS rfl slt_23) rfl rfl rfl ?_
 refine XO_v0 (ev_assign rfl) rfl rfl rfl ?_
 refine XO_nil (at_then ?_)
 refine X_seq (X_region ?_)
 refine XO_v0 (ev_move rfl) rfl rfl rfl ?_
 refine XO_v0 (ev_assign rfl) rfl rfl rfl ?_
 refine XO_v0 (ev_assign rfl) rfl rfl rfl ?_
 refine XO_nil (at_then ?_)
 refine X_seq ?_
 refine X_block ?_
 refine X_loopT [(0, _), (1, _), (6, _)] (.cons rfl (.cons rfl (.cons rfl .nil))) (fun T L0 mz E I' loc' => ∃ (i j : Nat), mz = j - i ∧ E = (7, .int .i64 i) :: (8, .int .i64 j) :: T ∧ I = I' ∧ L0 = loc' ∧ i ≤ j ∧ j ≤ n ∧ (∀ q z, q < i → xs[q]? = some z → z < t) ∧ ∀ q z, j ≤ q → xs[q]? = some z → ¬ z < t) _ _ _ _ ⟨0, n, rfl, rfl, rfl, rfl, Nat.zero_le _, Nat.le_refl _, fun q z h => absurd h (by omega), fun q z h1 h2 => by have := (List.getElem?_eq_some_iff.1 h2).1; rw [hS.len] at this; omega⟩ (.cons rfl (.cons rfl (.cons rfl (.cons rfl (.cons rfl .nil))))) (HLe.refl _) rfl ?_
 rintro mz E I' loc' ⟨i, j, rfl, rfl, rfl, rfl, hij, hjn, hlo, hhi⟩
 refine X_seq ?_
 refine X_seq (X_region ?_)
 refine XO_v0 (ev_move rfl) rfl rfl rfl ?_
 refine XO_v0 (ev_move rfl) rfl rfl rfl ?_
 refine XO_v0 (ev_cmp rfl rfl rfl) rfl rfl rfl ?_
 refine XO_nil (at_then ?_)
 refine X_cond rfl (fun hc15 => ?_) (fun hc15 => ?_)
 ·
  have hlt : i < j := by have h := hc15; simp at h; omega
  obtain ⟨y, hy⟩ := hS.at (k := (i + j) / 2) (by omega)
  refine X_skip ?_
  refine at_then ?_
  refine X_block ?_
  refine X_seq (X_region ?_)
  refine XO_v0 (ev_move rfl) rfl rfl rfl ?_
  refine XO_v0 (ev_move rfl) rfl rfl rfl ?_
  refine XO_v0 (ev_arB rfl rfl rfl (fun _ => by omega)) rfl rfl rfl ?_
  refine XO_v0 (ev_convI rfl cvt_3_146) rfl rfl rfl ?_
  refine XO_v0 (ev_shr rfl rfl (by decide) (rfl : min _ _ = 1)) rfl rfl rfl ?_
  refine XO_v0 (ev_convI rfl cvt_146_3) rfl rfl rfl ?_
  refine XO_v0 (ev_assign rfl) rfl rfl rfl ?_
  refine XO_nil ?_
  rw [half_eq i j (by omega)]
  refine at_then ?_
  refine X_seq (X_region ?_)
  refine XO_v0 (ev_move rfl) rfl rfl rfl ?_
  refine XO_v0 (ev_move rfl) rfl rfl rfl ?_
  refine XO_v0 (ev_indexSl rfl rfl slt_23 (by assumption) (fun hg => by first | omega | (simp [conj] at hg; omega))) rfl rfl rfl ?_
  refine XO_v0 (ev_load rfl sct_3 (fun hg => by first | exact Sl.get0 (k := (i + j) / 2) hS hy rfl | exact Sl.getD0 (k := i) (d := 0) hS (by simp [conj] at hg; omega) rfl | exact Sl.getD0 (k := j) (d := 0) hS (by simp [conj] at hg; omega) rfl | (repeat (first | exact Cell.here rfl | apply Cell.there | apply Cell.app)))) rfl rfl rfl ?_
  refine XO_v0 (ev_move rfl) rfl rfl rfl ?_
  refine XO_callV0 (cap := []) (vs := [_, _]) rfl rfl fun_135 (w_less I _ _) rfl rfl ?_
  refine XO_nil (at_then ?_)
  refine X_cond rfl (fun hc27 => ?_) (fun hc27 => ?_)
  ·
   refine X_region ?_
   refine XO_v0 (ev_move rfl) rfl rfl rfl ?_
   refine XO_v0 (ev_arB rfl rfl rfl (fun _ => by omega)) rfl rfl rfl ?_
   refine XO_v0 (ev_assign rfl) rfl rfl rfl ?_
   refine XO_nil ?_
   refine at_block_n ?_
   exact at_met2 _ _ ⟨j - ((i + j) / 2 + 1), by omega, (i + j) / 2 + 1, j, rfl, rfl, rfl, rfl, by omega, hjn, bs_lo (key := fun x : Int => x) hs hy (by simpa using hc27), hhi⟩ (.cons rfl (.cons rfl (.cons rfl (.cons rfl (.cons rfl .nil))))) (by repeat (first | exact .refl | exact subL_left | refine subL_app ?_ | refine .drop ?_ | refine subL_add ?_))
  ·
   refine X_region ?_
   refine XO_v0 (ev_move rfl) rfl rfl rfl ?_
   refine XO_v0 (ev_assign rfl) rfl rfl rfl ?_
   refine XO_nil ?_
   refine at_block_n ?_
   exact at_met2 _ _ ⟨(i + j) / 2 - i, by omega, i, (i + j) / 2, rfl, rfl, rfl, rfl, by omega, by omega, hlo, bs_hi (key := fun x : Int => x) hs hy (by simpa using hc27)⟩ (.cons rfl (.cons rfl (.cons rfl (.cons rfl (.cons rfl .nil))))) (by repeat (first | exact .refl | exact subL_left | refine subL_app ?_ | refine .drop ?_ | refine subL_add ?_))
 ·
  have hge : j ≤ i := by have h := hc15; simp at h; omega
  have hje : j = i := by omega
  subst hje
  refine X_exit ?_
  refine at_then_e ?_
  refine at_then_e ?_
  refine at_block_hit ?_
  refine at_then ?_
  refine X_seq (X_region ?_)
  refine XO_v0 (ev_move rfl) rfl rfl rfl ?_
  refine XO_v0 (ev_move rfl) rfl rfl rfl ?_
  refine XO_v0 (ev_move rfl) rfl rfl rfl ?_
  refine XO_v0 (ev_cmp rfl rfl rfl) rfl rfl rfl ?_
  refine XO_v0 (ev_move rfl) rfl rfl rfl ?_
  refine XO_pushT 4 rfl rfl rfl ?_
  refine XO_v1 (ev_move rfl) (.some rfl rfl rfl rfl gbt) rfl rfl rfl ?_
  refine XO_v1 (ev_move rfl) (.some rfl rfl rfl rfl gbt) rfl rfl rfl ?_
  refine XO_v1 (ev_indexSl rfl rfl slt_23 (by assumption) (fun hg => by first | omega | (simp [conj] at hg; omega))) (.some rfl rfl rfl rfl gbt) rfl rfl rfl ?_
  refine XO_v1 (ev_load rfl sct_3 (fun hg => by first | exact Sl.get0 (k := (i + j) / 2) hS hy rfl | exact Sl.getD0 (k := i) (d := 0) hS (by simp [conj] at hg; omega) rfl | exact Sl.getD0 (k := j) (d := 0) hS (by simp [conj] at hg; omega) rfl | (repeat (first | exact Cell.here rfl | apply Cell.there | apply Cell.app)))) (.some rfl rfl rfl rfl gbt) rfl rfl rfl ?_
  refine XO_v1 (ev_move rfl) (.some rfl rfl rfl rfl gbt) rfl rfl rfl ?_
  refine XO_v1 (ev_cmp rfl rfl rfl) (.some rfl rfl rfl rfl gbt) rfl rfl rfl ?_
  refine XO_v1 (ev_move rfl) (.some rfl rfl rfl rfl gbt) rfl rfl rfl ?_
  refine XO_pushF 11 rfl rfl rfl ?_
  refine XO_v1 (ev_move rfl) (.some rfl rfl rfl rfl gbf) rfl rfl rfl ?_
  refine XO_v1 (ev_move rfl) (.some rfl rfl rfl rfl gbf) rfl rfl rfl ?_
  refine XO_v1 (ev_indexSl rfl rfl slt_23 (by assumption) (fun hg => by first | omega | (simp [conj] at hg; omega))) (.some rfl rfl rfl rfl gbf) rfl rfl rfl ?_
  refine XO_v1 (ev_load rfl sct_3 (fun hg => by first | exact Sl.get0 (k := (i + j) / 2) hS hy rfl | exact Sl.getD0 (k := i) (d := 0) hS (by simp [conj] at hg; omega) rfl | exact Sl.getD0 (k := j) (d := 0) hS (by simp [conj] at hg; omega) rfl | (repeat (first | exact Cell.here rfl | apply Cell.there | apply Cell.app)))) (.some rfl rfl rfl rfl gbf) rfl rfl rfl ?_
  refine XO_callV1 (cap := []) (vs := [_]) rfl rfl fun_136 (fun hg => w_nan2 I _) (.some rfl rfl rfl rfl gbf) rfl rfl ?_
  refine XO_v1 (ev_move rfl) (.some rfl rfl rfl rfl gbf) rfl rfl rfl ?_
  refine XO_pushT 17 rfl rfl rfl ?_
  refine XO_v1 (ev_move rfl) (.some rfl rfl rfl rfl gbt) rfl rfl rfl ?_
  refine XO_callV1 (cap := []) (vs := [_]) rfl rfl fun_136 (fun hg => w_nan2 I _) (.some rfl rfl rfl rfl gbt) rfl rfl ?_
  refine XO_and1 rfl rfl rfl (.some rfl rfl rfl rfl gbf) rfl rfl ?_
  refine XO_or1 rfl rfl rfl (.some rfl rfl rfl rfl gbt) rfl rfl ?_
  refine XO_and0 rfl rfl rfl rfl rfl ?_
  refine XO_v0 (ev_assign rfl) rfl rfl rfl ?_
  refine XO_v0 (ev_assign rfl) rfl rfl rfl ?_
  refine XO_nil (at_then ?_)
  refine X_ret ?_
  exact at_ret2 rfl rfl rfl (fun w hw => ⟨by rw [← found_at (key := fun x : Int => x) (d := 0) hS.len hlo hhi hs, low_at (key := fun x : Int => x) (by rw [hS.len]; omega) hlo hhi]; simp, hw.drop⟩)
theorem w_incr {I : HMap} {av : Option Addr} {n c : Nat} {xs : List Int} (hS : Sl I 1 encI av n c xs) (hn : n ≤ 100000) : RetV Tryz.prog 70 [.slice av n c] I (.bool (incB xs)) := by
 intro g H w hw
 refine enter Tryz.func70 rfl Tryz.ntmps70 rfl hw ?_
 refine X_seq (X_region ?_)
 refine XO_v0 (ev_assign rfl) rfl rfl rfl ?_
 refine XO_nil (at_then ?_)
 refine X_seq ?_
 refine X_seq (X_region ?_)
 refine XO_v0 (ev_assign rfl) rfl rfl rfl ?_
 refine XO_nil (at_then ?_)
 refine X_block ?_
 refine X_loopT [(0, _)] (.cons rfl .nil) (fun T L0 mz E I' loc' => ∃ (k : Nat), mz = (max n 1) - k ∧ E = (3, .int .i64 k) :: T ∧ I = I' ∧ L0 = loc' ∧ k ≤ (max n 1) ∧ 1 ≤ k ∧ (List.range k).all (incP xs) = true) _ _ _ _ ⟨1, rfl, rfl, rfl, rfl, by omega, Nat.le_refl _, incP_zero xs⟩ (.cons rfl (.cons rfl .nil)) (HLe.refl _) rfl ?_
 rintro mz E I' loc' ⟨k, rfl, rfl, rfl, rfl, hk, h1, hall⟩
 refine X_seq ?_
 refine X_seq (X_region ?_)
 refine XO_v0 (ev_move rfl) rfl rfl rfl ?_
 refine XO_v0 (ev_move rfl) rfl rfl rfl ?_
 refine XO_v0 (ev_lenS rfl slt_23) rfl rfl rfl ?_
 refine XO_v0 (ev_cmp rfl rfl rfl) rfl rfl rfl ?_
 refine XO_nil (at_then ?_)
 refine X_cond rfl (fun hc7 => ?_) (fun hc7 => ?_)
 ·
  have hlt_k : k < n := by have h := hc7; simp at h; omega
  obtain ⟨x, hx⟩ := hS.at hlt_k
  refine X_skip ?_
  refine at_then ?_
  refine X_seq ?_
  refine X_block ?_
  refine X_seq ?_
  refine X_draw mixed (by kernel_rfl) ?_
  refine XQ_v0 (ev_move rfl) rfl rfl rfl ?_
  refine XQ_v0 (ev_move rfl) rfl rfl rfl ?_
  refine XQ_v0 (ev_indexSl rfl rfl slt_23 (by assumption) (fun hg => by first | omega | (simp [conj] at hg; omega))) rfl rfl rfl ?_
  refine XQ_v0 (ev_load rfl sct_3 (fun hg => by first | exact Sl.get0 (k := k) hS hx rfl | exact Sl.getD0 (k := ((k : Int) - 1).toNat) (d := 0) hS (by omega) rfl | (repeat (first | exact Cell.here rfl | apply Cell.there | apply Cell.app)))) rfl rfl rfl ?_
  refine XQ_v0 (ev_move rfl) rfl rfl rfl ?_
  refine XQ_v0 (ev_move rfl) rfl rfl rfl ?_
  refine XQ_v0 (ev_arB rfl rfl rfl (fun _ => by omega)) rfl rfl rfl ?_
  refine XQ_v0 (ev_indexSl rfl rfl slt_23 (by assumption) (fun hg => by first | omega | (simp [conj] at hg; omega))) rfl rfl rfl ?_
  refine XQ_v0 (ev_load rfl sct_3 (fun hg => by first | exact Sl.get0 (k := k) hS hx rfl | exact Sl.getD0 (k := ((k : Int) - 1).toNat) (d := 0) hS (by omega) rfl | (repeat (first | exact Cell.here rfl | apply Cell.there | apply Cell.app)))) rfl rfl rfl ?_
  refine XQ_v0 (ev_cmp rfl rfl rfl) rfl rfl rfl ?_
  refine XQ_nil ?_
  refine at_then ?_
  refine X_cond rfl (fun hc19 => ?_) (fun hc19 => ?_)
  ·
   refine X_seq (X_region ?_)
   refine XO_v0 (ev_assign rfl) rfl rfl rfl ?_
   refine XO_nil (at_then ?_)
   refine X_ret ?_
   refine at_block_r ?_
   refine at_then_r ?_
   refine at_then_r ?_
   refine at_block_r ?_
   refine at_then_r ?_
   first
   | exact at_ret1 rfl rfl (fun w hw => ⟨by rw [incB_eq, range_bad (k := k) (by rw [hS.len]; exact hlt_k) (by rw [incP_at hx h1, hc19]; rfl)], hw.drop⟩)
  ·
   refine X_skip ?_
   refine at_block_n ?_
   refine at_then ?_
   refine X_region ?_
   refine XO_v0 (ev_move rfl) rfl rfl rfl ?_
   refine XO_v0 (ev_arB rfl rfl rfl (fun _ => by omega)) rfl rfl rfl ?_
   refine XO_v0 (ev_assign rfl) rfl rfl rfl ?_
   refine XO_nil ?_
   exact at_met2 _ _ ⟨(max n 1) - (k + 1), by omega, k + 1, rfl, rfl, rfl, rfl, by omega, by omega, range_step hall (by rw [incP_at hx h1, hc19]; rfl)⟩ (.cons rfl (.cons rfl .nil)) (by repeat (first | exact .refl | exact subL_left | refine subL_app ?_ | refine .drop ?_ | refine subL_add ?_))
 ·
  have hge_k : n ≤ k := by have h := hc7; simp at h; omega
  refine X_exit ?_
  refine at_then_e ?_
  refine at_then_e ?_
  refine at_block_hit ?_
  refine at_then ?_
  refine X_seq (X_region ?_)
  refine XO_v0 (ev_assign rfl) rfl rfl rfl ?_
  refine XO_nil (at_then ?_)
  refine X_ret ?_
  exact at_ret1 rfl rfl (fun w hw => ⟨by rw [incB_eq, hS.len, range_cut hall (show n ≤ k from hge_k)], hw.drop⟩)
theorem w_cloneI {I : HMap} {av : Option Addr} {n c : Nat} {xs : List Int} (hS : Sl I 1 encI av n c xs) (hn : n ≤ 400000) : RetM Tryz.prog 68 [.slice av n c] I [] (fun v I' L => I' = I ∧ OwnS 3 1 v n (xs.flatMap encI) L) := by
 intro g H w hw
 refine enter Tryz.func68 rfl Tryz.ntmps68 rfl hw ?_
 refine X_seq (X_region ?_)
 refine XO_v0 (ev_assign rfl) rfl rfl rfl ?_
 refine XO_nil (at_then ?_)
 refine X_seq ?_
 refine X_seq (X_region ?_)
 refine XO_v0 (ev_move rfl) rfl rfl rfl ?_
 refine XO_v0 (ev_eqNil rfl rfl slt_23) rfl rfl rfl ?_
 refine XO_nil (at_then ?_)
 refine X_cond rfl (fun hc4 => ?_) (fun hc4 => ?_)
 ·
  have hn0 : n = 0 := Decidable.byContradiction fun h => by have := hS.base h; rw [this] at hc4; cases hc4
  have hl := hS.len
  subst hn0
  have hx0 := List.eq_nil_of_length_eq_zero hl
  subst hx0
  refine X_seq (X_region ?_)
  refine XO_v0 (ev_assign rfl) rfl rfl rfl ?_
  refine XO_nil (at_then ?_)
  refine X_ret ?_
  refine at_then_r ?_
  exact at_ret1 rfl rfl (fun w hw => ⟨_, I, _, rfl, HLe.refl _, hw, rfl, OwnS.nil⟩)
 ·
  refine X_skip ?_
  refine at_then ?_
  refine X_seq (X_region ?_)
  refine XO_buildSlice (ps := []) (m := []) elt_23 rfl (.nil) rfl (by simp) (by decide) (by decide) rfl rfl (fun b_5 => ?_)
  refine XO_v0 (ev_move rfl) rfl rfl rfl ?_
  refine XO_append (v := _) (ys := xs.flatMap encI) (L := [(b_5, _)]) rfl rfl elt_23 OwnS.new (by repeat (first | exact .cons .here .nil | exact split_all | exact split_app | apply split_cons | apply split_skip)) (hS.src encI_len) (one_I _) (by omega) rfl rfl ?_
  intro v1 L1 hO1 _; rw [List.nil_append, Nat.zero_add] at hO1
  refine XO_v0 (ev_assign rfl) rfl rfl rfl ?_
  refine XO_nil (at_then ?_)
  refine X_ret ?_
  exact at_ret1 rfl rfl (fun w hw => ⟨_, I, _, rfl, HLe.refl _, hw.subL subL_left, rfl, hO1⟩)
theorem w_cloneG {I : HMap} {av : Option Addr} {n c : Nat} {xs : List Sg} (hS : Sl I 14 encG av n c xs) (hn : n ≤ 400000) : RetM Tryz.prog 78 [.slice av n c] I [] (fun v I' L => I' = I ∧ OwnS 45 14 v n (xs.flatMap encG) L) := by
 intro g H w hw
 refine enter Tryz.func78 rfl Tryz.ntmps78 rfl hw ?_
 refine X_seq (X_region ?_)
 refine XO_v0 (ev_assign rfl) rfl rfl rfl ?_
 refine XO_nil (at_then ?_)
 refine X_seq ?_
 refine X_seq (X_region ?_)
 refine XO_v0 (ev_move rfl) rfl rfl rfl ?_
 refine XO_v0 (ev_eqNil rfl rfl slt_33) rfl rfl rfl ?_
 refine XO_nil (at_then ?_)
 refine X_cond rfl (fun hc4 => ?_) (fun hc4 => ?_)
 ·
  have hn0 : n = 0 := Decidable.byContradiction fun h => by have := hS.base h; rw [this] at hc4; cases hc4
  have hl := hS.len
  subst hn0
  have hx0 := List.eq_nil_of_length_eq_zero hl
  subst hx0
  refine X_seq (X_region ?_)
  refine XO_v0 (ev_assign rfl) rfl rfl rfl ?_
  refine XO_nil (at_then ?_)
  refine X_ret ?_
  refine at_then_r ?_
  exact at_ret1 rfl rfl (fun w hw => ⟨_, I, _, rfl, HLe.refl _, hw, rfl, OwnS.nil⟩)
 ·
  refine X_skip ?_
  refine at_then ?_
  refine X_seq (X_region ?_)
  refine XO_buildSlice (ps := []) (m := []) elt_33 rfl (.nil) rfl (by simp) (by decide) (by decide) rfl rfl (fun b_5 => ?_)
  refine XO_v0 (ev_move rfl) rfl rfl rfl ?_
  refine XO_append (v := _) (ys := xs.flatMap encG) (L := [(b_5, _)]) rfl rfl elt_33 OwnS.new (by repeat (first | exact .cons .here .nil | exact split_all | exact split_app | apply split_cons | apply split_skip)) (hS.src encG_len) (one_G _) (by omega) rfl rfl ?_
  intro v1 L1 hO1 _; rw [List.nil_append, Nat.zero_add] at hO1
  refine XO_v0 (ev_assign rfl) rfl rfl rfl ?_
  refine XO_nil (at_then ?_)
  refine X_ret ?_
  exact at_ret1 rfl rfl (fun w hw => ⟨_, I, _, rfl, HLe.refl _, hw.subL subL_left, rfl, hO1⟩)
theorem w_union {I : HMap} {av : Option Addr} {n c : Nat} {xs : List Int} (hS : Sl I 1 encI av n c xs) (hn : n ≤ 400000) {bv : Option Addr} {n2 c2 : Nat} {ys : List Int} (hT : Sl I 1 encI bv n2 c2 ys) (hn2 : n2 ≤ 100000) : RetM Tryz.prog 33 [.slice av n c, .slice bv n2 c2] I [] (SlRes 1 encI (Lib.compact (sortI (xs ++ ys)))) := by
 intro g H w hw
 refine enter Tryz.func33 rfl Tryz.ntmps33 rfl hw ?_
 have hIc := HLe.refl I
 refine X_seq (X_region ?_)
 refine XO_v0 (ev_assign rfl) rfl rfl rfl ?_
 refine XO_nil (at_then ?_)
 refine X_seq (X_region ?_)
 refine XO_v0 (ev_move rfl) rfl rfl rfl ?_
 refine XO_callM (cap := []) (vs := [_]) rfl rfl fun_68 .nil (w_cloneI hS hn) rfl rfl ?_
 rintro vv1 I1 L1 hI1 ⟨rfl, hO⟩
 have hS := hS.mono hI1
 have hT := hT.mono hI1
 have hIc := hIc.trans hI1
 refine XO_v0 (ev_move rfl) rfl rfl rfl ?_
 refine XO_append (v := _) (ys := ys.flatMap encI) (L := _) rfl rfl elt_23 hO split_app (hT.src encI_len) (one_I _) (by omega) rfl rfl ?_
 intro v2 L2 hO2 _; rw [← List.flatMap_append, flat_int] at hO2
 refine XO_v0 (ev_assign rfl) rfl rfl rfl ?_
 refine XO_nil (at_then ?_)
 refine X_seq (X_region ?_)
 refine XO_v0 (ev_move rfl) rfl rfl rfl ?_
 refine XO_callM (cap := []) (vs := [_]) rfl rfl fun_72 split_app (w_sort 3 (xs ++ ys) hO2 (by omega) _) rfl rfl ?_
 rintro vv2 I2 L2 hI2 ⟨rfl, rfl, hO3⟩
 have hS := hS.mono hI2
 have hT := hT.mono hI2
 have hIc := hIc.trans hI2
 refine XO_nil (at_then ?_)
 refine X_seq (X_region ?_)
 refine XO_v0 (ev_move rfl) rfl rfl rfl ?_
 refine XO_callM (cap := []) (vs := [_]) rfl rfl fun_73 split_app (w_compact 3 _ hO3 (by omega) _) rfl rfl ?_
 rintro vv3 I3 L3 hI3 ⟨rfl, hO4⟩
 have hS := hS.mono hI3
 have hT := hT.mono hI3
 have hIc := hIc.trans hI3
 refine XO_v0 (ev_assign rfl) rfl rfl rfl ?_
 refine XO_nil (at_then ?_)
 refine X_ret ?_
 rw [← flat_int] at hO4
 exact at_ret1 rfl rfl (fun w hw => by obtain ⟨I9, h91, h92, h93⟩ := OwnS.res hO4 encI_len (by decide) (hw.subL (by first | exact subL_left | exact .refl)); exact ⟨_, I9, [], rfl, hIc.trans h91, h92, h93⟩)
end Go.Proofs.YtccomeanpppfmaaGreat
end
