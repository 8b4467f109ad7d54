/- topCourse_holds, part C of the proof: what its theorems say holds without further conditions. -/
import Derived.Shelf.SlSortCmp.WholeK
import Derived.Lib.SlicesCompact
import Derived.Lib.RowBridge
import Derived.Shelf.Small.Bits
import Derived.Shelf.Small.Wraps
import Derived.Shelf.Strconv.Itoa0
import Derived.Shelf.Sort.Plain
import Derived.Shelf.Slices.Turned
import Derived.Shelf.Slices.Equal
import Derived.Ground.Names2Prog
import Derived.Shelf.Slices.Clone
import Derived.Shelf.Slices.CompactI
import Derived.Shelf.Slices.SearchI
import Derived.Shelf.Slices.Cells
import Derived.Shelf.Slices.In.SortNone
import Derived.Shelf.Slices.Empties
import Derived.Shelf.Slices.Empties2
import Derived.Ground.SlgnProg
import Derived.Shelf.SlicesE.Clone
import Derived.Shelf.SlicesQ.Reverse
import Derived.Ground.SlsfProg
import Derived.Shelf.SlSortCmp.InsertionK
import Derived.Shelf.SlSortCmp.SiftDownK
import Derived.Shelf.SlSortCmp.HeapSortK
import Derived.Shelf.SlSortCmp.MedianK
import Derived.Shelf.SlSortCmp.PivotK
import Derived.Shelf.SlSortCmp.ReverseRangeK
import Derived.Shelf.SlSortCmp.PartialInsertionK
import Derived.Shelf.SlSortCmp.PartitionEqualK
import Derived.Shelf.SlSortCmp.PartitionK
import Derived.Shelf.SlSortCmp.PdqK
import Derived.Shelf.SlSortCmp.NoneTotal
import Derived.Test.YtclkmnidgdkekaaGreatProg
import Derived.Test.YtclkmnidgdkekaaGreatTCB
section
namespace Go.Proofs.YtclkmnidgdkekaaGreat
open Go Go.Kn Go.Proofs
theorem w_nan (I : HMap) (x : Int) : RetV Tryz.prog 80 [.int .i64 x] I (.bool false) := by
 intro g H w hw
 refine enter Tryz.func80 rfl Tryz.ntmps80 rfl hw ?_
 refine zR ?_
 refine zA ?_
 refine zN (zR ?_)
 refine zM ?_
 refine zM ?_
 refine zC ?_
 refine zA ?_
 refine zN ?_
 refine X_ret ?_
 exact at_ret1 rfl rfl (fun w hw => ⟨by simp, hw.drop⟩)
theorem w_cmp (I : HMap) (x y : Int) : RetV Tryz.prog 48 [.int .i64 x, .int .i64 y] I (.int .i64 (cmpF x y)) := by
 intro g H w hw
 refine enter Tryz.func48 rfl Tryz.ntmps48 rfl hw ?_
 refine zR ?_
 refine zA ?_
 refine zN (zR ?_)
 refine zM ?_
 refine XO_callV0 (cap := []) (vs := [_]) rfl rfl fun_80 (w_nan I _) rfl rfl ?_
 refine zA ?_
 refine zN (zR ?_)
 refine zM ?_
 refine XO_callV0 (cap := []) (vs := [_]) rfl rfl fun_80 (w_nan I _) rfl rfl ?_
 refine zA ?_
 refine zN ?_
 refine X_seq ?_
 refine zR ?_
 refine zM ?_
 refine zN ?_
 refine zI ?_ ?_ <;> intro hc11
 ·
  cases hc11
 refine X_skip ?_
 refine at_then ?_
 refine X_seq ?_
 refine zR ?_
 refine zM ?_
 refine zN ?_
 refine zI ?_ ?_ <;> intro hc13
 ·
  cases hc13
 refine X_skip ?_
 refine at_then ?_
 refine X_seq ?_
 refine zR ?_
 refine zM ?_
 refine zM ?_
 refine zC ?_
 refine zN ?_
 refine zI ?_ ?_ <;> intro hc16
 ·
  refine zR ?_
  refine zA ?_
  refine zN ?_
  refine X_ret ?_
  refine at_then_r ?_
  exact at_ret1 rfl rfl (fun w hw => ⟨by unfold cmpF; first | (rw [if_pos (by simpa using hc16)]) | (rw [if_neg (by simpa using hc16), if_pos (by simpa using hc19)]) | (rw [if_neg (by simpa using hc16), if_neg (by simpa using hc19)]), hw.drop⟩)
 refine X_skip ?_
 refine at_then ?_
 refine X_seq ?_
 refine zR ?_
 refine zM ?_
 refine zM ?_
 refine zC ?_
 refine zN ?_
 refine zI ?_ ?_ <;> intro hc19
 ·
  refine zR ?_
  refine zA ?_
  refine zN ?_
  refine X_ret ?_
  refine at_then_r ?_
  exact at_ret1 rfl rfl (fun w hw => ⟨by unfold cmpF; first | (rw [if_pos (by simpa using hc16)]) | (rw [if_neg (by simpa using hc16), if_pos (by simpa using hc19)]) | (rw [if_neg (by simpa using hc16), if_neg (by simpa using hc19)]), hw.drop⟩)
 refine X_skip ?_
 refine at_then ?_
 refine zR ?_
 refine zA ?_
 refine zN ?_
 refine X_ret ?_
 exact at_ret1 rfl rfl (fun w hw => ⟨by unfold cmpF; first | (rw [if_pos (by simpa using hc16)]) | (rw [if_neg (by simpa using hc16), if_pos (by simpa using hc19)]) | (rw [if_neg (by simpa using hc16), if_neg (by simpa using hc19)]), hw.drop⟩)
theorem w_mag (I : HMap) (n : Int) (hn : -1073741824 ≤ n ∧ n ≤ 1073741824) : RetV Tryz.prog 138 [.int .i64 n] I (.int .u64 (magI n)) := by
 intro g H w hw
 refine enter Tryz.func138 rfl Tryz.ntmps138 rfl hw ?_
 refine zR ?_
 refine zA ?_
 refine zN ?_
 refine X_seq ?_
 refine zR ?_
 refine zM ?_
 refine zC ?_
 refine zN ?_
 refine zI ?_ ?_ <;> intro hc4
 ·
  refine zR ?_
  refine zM ?_
  refine zV (ev_convI rfl cvt_3_118) ?_
  refine zV (ev_negU rfl) ?_
  refine zA ?_
  refine zN ?_
  refine X_ret ?_
  refine at_then_r ?_
  first
  | exact at_ret1 rfl rfl (fun w hw => ⟨by rw [mag_neg hn (by simpa using hc4)], hw.drop⟩)
  | exact at_ret1 rfl rfl (fun w hw => ⟨by rw [mag_pos hn (by simpa using hc4)], hw.drop⟩)
 refine X_skip ?_
 refine at_then ?_
 refine zR ?_
 refine zM ?_
 refine zV (ev_convI rfl cvt_3_118) ?_
 refine zA ?_
 refine zN ?_
 refine X_ret ?_
 first
 | exact at_ret1 rfl rfl (fun w hw => ⟨by rw [mag_neg hn (by simpa using hc4)], hw.drop⟩)
 | exact at_ret1 rfl rfl (fun w hw => ⟨by rw [mag_pos hn (by simpa using hc4)], hw.drop⟩)
theorem w_rem (I : HMap) (a b : Int) : RetM Tryz.prog 139 [.int .u64 a, .int .u64 b] I [] (fun v I' L => I' = I ∧ ∃ b1 b2, v = .func (.func 140) #[] [capP b1, capP b2].toArray ∧ L = remL 118 b1 b2 a b) := by
 intro g H w hw
 refine enter Tryz.func139 rfl Tryz.ntmps139 rfl hw ?_
 refine zR ?_
 refine XO_box rfl rfl rfl (fun b_2 => ?_)
 refine XO_box rfl rfl rfl (fun b_3 => ?_)
 refine zA ?_
 refine zN (zR ?_)
 refine zV (ev_makeFunc (us := []) (vs := [_, _]) rfl rfl) ?_
 refine zA ?_
 refine zN ?_
 refine X_ret ?_
 exact at_ret1 rfl rfl (fun w hw => ⟨_, I, _, rfl, HLe.refl _, hw, rfl, _, _, rfl, rfl⟩)
theorem w_euclid (I : HMap) (a0 b0 : Nat) (b1 b2 : Nat) (hb0 : 0 < b0) (ha1 : a0 ≤ 9223372036854775807) (hb1 : b0 ≤ 9223372036854775807) : SeqL Tryz.prog 140 [capP b1, capP b2] I (remL 118 b1 b2 (a0) (b0)) (fun n : Nat => .int .u64 n) (remN a0 b0) := by
 intro g l J Jx hY I0 H w h0 hJ hw
 refine enter Tryz.func140 rfl Tryz.ntmps140 rfl hw ?_
 refine X_block ?_
 refine X_loopH (fun m E I' H' loc' => ∃ (a b : Nat) (pre : List Nat), m = b ∧ E = [(0, .func (.yield l) #[] #[]), (1, capP b1), (2, capP b2)] ∧ loc' = remL 118 b1 b2 (a) (b) ∧ HLe I0 I' ∧ J pre I' H' ∧ remN a0 b0 = pre ++ remN a b ∧ 0 < b ∧ a ≤ 9223372036854775807 ∧ b ≤ 9223372036854775807) _ _ _ ⟨a0, b0, [], rfl, rfl, rfl, HLe.refl _, hJ, rfl, hb0, ha1, hb1⟩ (.cons rfl (.cons rfl (.cons rfl .nil))) rfl ?_
 rintro m E I' H' loc' ⟨a, b, pre, hmb, rfl, rfl, hI1, hJk, hrem, hbp, hal, hbl⟩
 subst m
 have hI0 := h0.trans hI1
 refine X_seq ?_
 refine zR ?_
 refine zL sct_118 ?_
 refine zC ?_
 refine zM ?_
 refine XO_pushT 2 rfl rfl rfl ?_
 refine zK (ev_move rfl) ?_
 refine zK (ev_load rfl sct_118 (fun hg => by repeat (first | exact Cell.here rfl | apply Cell.there | apply Cell.app))) ?_
 refine XO_yield1 (vs := [_]) (Post := fun t I2 H2 => if t then J (pre ++ [a]) I2 H2 else Jx (pre ++ [a]) I2 H2) rfl rfl (.some rfl rfl rfl rfl gbt) rfl rfl (fun hcj => hY pre a _ _ (rem_pre hrem (by simpa [conj] using hcj)) hI0 hJk) ?_
 rintro t I2 H2 hI2 hyes hno
 refine XO_and0 rfl rfl rfl rfl rfl ?_
 refine zN ?_
 refine zI ?_ ?_ <;> intro hc10
 ·
  have ha0 : a ≠ 0 := by simp at hc10; exact hc10.1
  have ht : t = true := by simp at hc10; exact hc10.2
  subst ht
  have hJ1 : J (pre ++ [a]) I2 H2 := hyes (by simp [conj]; exact ha0)
  refine X_skip ?_
  refine at_then ?_
  refine X_block ?_
  refine X_seq ?_
  have hD := HLe.refl I2
  refine X_noP ?_
  refine X_drawS I2 [] mixed ?_
  refine XD_three 0 1 2 rfl rfl rfl (by kernel_rfl) ?_ ?_ ?_
  ·
   refine zL sct_118 ?_
   refine XO_nil ?_
   refine zD hD ?_
   refine XD_two 1 2 rfl rfl (by kernel_rfl) ?_ ?_
   ·
    refine zL sct_118 ?_
    refine XO_nil ?_
    refine zD hD ?_
    refine XD_two 2 5 rfl rfl (by kernel_rfl) ?_ ?_
    ·
     refine zL sct_118 ?_
     refine XO_nil ?_
     refine zD hD ?_
     refine XD_two 3 5 rfl rfl (by kernel_rfl) ?_ ?_
     ·
      refine zV (ev_max rfl rfl) ?_
      refine XO_nil ?_
      refine zD hD ?_
      refine XD_two 4 5 rfl rfl (by kernel_rfl) ?_ ?_
      ·
       refine zV (ev_rem rfl rfl (fun hg => by rw [maxI_one hbp]; omega)) ?_
       refine XO_nil ?_
       refine zD hD ?_
       refine XD_one 5 rfl (by kernel_rfl) ?_
       refine zS szt_118 ?_
       refine XO_nil ?_
       refine zD hD ?_
       refine XD_one 6 rfl (by kernel_rfl) ?_
       refine zS szt_118 ?_
       refine XO_nil ?_
       refine zD hD ?_
       refine XD_done (by kernel_rfl) ?_
       refine at_noP ?_
       rw [show ((a : Int)).tmod (maxI (b : Int) 1) = ((a % b : Nat) : Int) by rw [maxI_one hbp, tmod_nat]]
       refine at_then ?_
       refine zR ?_
       refine zL sct_118 ?_
       refine zC ?_
       refine zN ?_
       refine zI ?_ ?_ <;> intro hc17
       ·
        have hab : a % b = 0 := by have h := hc17; simp only [beq_iff_eq] at h; omega
        have hpre2 : (pre ++ [a]) ++ [b] <+: remN a0 b0 := by rw [hrem, remN_end ha0 (by omega) hab, List.append_assoc]; exact List.prefix_rfl
        refine zR ?_
        refine zM ?_
        refine zL sct_118 ?_
        refine XO_yield0 (vs := [_]) (Post := fun t I3 H3 => if t then J ((pre ++ [a]) ++ [b]) I3 H3 else Jx ((pre ++ [a]) ++ [b]) I3 H3) rfl rfl rfl rfl (hY (pre ++ [a]) b _ _ hpre2 (hI0.trans hI2) hJ1) ?_
        rintro t3 I3 H3 hI3 hP3
        refine zN ?_
        refine X_ret ?_
        refine at_block_r ?_
        refine at_then_r ?_
        refine at_block_r ?_
        first
        | (refine at_ret0 rfl (fun w hw => ⟨_, I3, H3, rfl, hI1.trans (hI2.trans hI3), hw.drop, ?_⟩); cases t3 with | true => exact .inl (by rw [hrem, remN_end ha0 (by omega) hab]; simpa using hP3) | false => exact .inr ⟨_, hpre2, hP3⟩)
        | (refine at_norm (at_ret0 rfl (fun w hw => ⟨_, I2, H2, rfl, hI1.trans hI2, hw.drop, ?_⟩)); by_cases ha0 : a = 0; (obtain ⟨e1, e2⟩ := hno (by simp [conj, ha0]); subst e1; subst e2; subst ha0; exact .inl (by rw [hrem, remN_zero, List.append_nil]; exact hJk)); (have ht : t = false := (by simp [ha0] at hc10; exact hc10); subst ht; exact .inr ⟨_, rem_pre hrem ha0, hyes (by simp [conj]; exact ha0)⟩))
       have hab : a % b ≠ 0 := by have h := hc17; simp only [beq_eq_false_iff_ne, ne_eq] at h; omega
       refine X_skip ?_
       refine at_block_n ?_
       exact at_metH2 rfl rfl rfl _ (remL 118 b1 b2 (b) (((a % b : Nat) : Int))) ⟨a % b, Nat.mod_lt _ hbp, b, a % b, pre ++ [a], rfl, rfl, rfl, hI1.trans hI2, hJ1, by rw [hrem, remN_step ha0 (by omega) hab, List.append_assoc]; rfl, by omega, by omega, by have := Nat.mod_lt a hbp; omega⟩ (.cons rfl (.cons rfl (.cons rfl .nil))) .refl
      refine zS szt_118 ?_
      refine XO_nil ?_
      refine zD hD ?_
      refine XD_one 4 rfl (by kernel_rfl) ?_
      refine zV (ev_rem rfl rfl (fun hg => by rw [maxI_one hbp]; omega)) ?_
      refine XO_nil ?_
      refine zD hD ?_
      refine XD_one 6 rfl (by kernel_rfl) ?_
      refine zS szt_118 ?_
      refine XO_nil ?_
      refine zD hD ?_
      refine XD_done (by kernel_rfl) ?_
      refine at_noP ?_
      rw [show ((a : Int)).tmod (maxI (b : Int) 1) = ((a % b : Nat) : Int) by rw [maxI_one hbp, tmod_nat]]
      refine at_then ?_
      refine zR ?_
      refine zL sct_118 ?_
      refine zC ?_
      refine zN ?_
      refine zI ?_ ?_ <;> intro hc17
      ·
       have hab : a % b = 0 := by have h := hc17; simp only [beq_iff_eq] at h; omega
       have hpre2 : (pre ++ [a]) ++ [b] <+: remN a0 b0 := by rw [hrem, remN_end ha0 (by omega) hab, List.append_assoc]; exact List.prefix_rfl
       refine zR ?_
       refine zM ?_
       refine zL sct_118 ?_
       refine XO_yield0 (vs := [_]) (Post := fun t I3 H3 => if t then J ((pre ++ [a]) ++ [b]) I3 H3 else Jx ((pre ++ [a]) ++ [b]) I3 H3) rfl rfl rfl rfl (hY (pre ++ [a]) b _ _ hpre2 (hI0.trans hI2) hJ1) ?_
       rintro t3 I3 H3 hI3 hP3
       refine zN ?_
       refine X_ret ?_
       refine at_block_r ?_
       refine at_then_r ?_
       refine at_block_r ?_
       first
       | (refine at_ret0 rfl (fun w hw => ⟨_, I3, H3, rfl, hI1.trans (hI2.trans hI3), hw.drop, ?_⟩); cases t3 with | true => exact .inl (by rw [hrem, remN_end ha0 (by omega) hab]; simpa using hP3) | false => exact .inr ⟨_, hpre2, hP3⟩)
       | (refine at_norm (at_ret0 rfl (fun w hw => ⟨_, I2, H2, rfl, hI1.trans hI2, hw.drop, ?_⟩)); by_cases ha0 : a = 0; (obtain ⟨e1, e2⟩ := hno (by simp [conj, ha0]); subst e1; subst e2; subst ha0; exact .inl (by rw [hrem, remN_zero, List.append_nil]; exact hJk)); (have ht : t = false := (by simp [ha0] at hc10; exact hc10); subst ht; exact .inr ⟨_, rem_pre hrem ha0, hyes (by simp [conj]; exact ha0)⟩))
      have hab : a % b ≠ 0 := by have h := hc17; simp only [beq_eq_false_iff_ne, ne_eq] at h; omega
      refine X_skip ?_
      refine at_block_n ?_
      exact at_metH2 rfl rfl rfl _ (remL 118 b1 b2 (b) (((a % b : Nat) : Int))) ⟨a % b, Nat.mod_lt _ hbp, b, a % b, pre ++ [a], rfl, rfl, rfl, hI1.trans hI2, hJ1, by rw [hrem, remN_step ha0 (by omega) hab, List.append_assoc]; rfl, by omega, by omega, by have := Nat.mod_lt a hbp; omega⟩ (.cons rfl (.cons rfl (.cons rfl .nil))) .refl
     refine zS szt_118 ?_
     refine XO_nil ?_
     refine zD hD ?_
     refine XD_one 3 rfl (by kernel_rfl) ?_
     refine zV (ev_max rfl rfl) ?_
     refine XO_nil ?_
     refine zD hD ?_
     refine XD_one 4 rfl (by kernel_rfl) ?_
     refine zV (ev_rem rfl rfl (fun hg => by rw [maxI_one hbp]; omega)) ?_
     refine XO_nil ?_
     refine zD hD ?_
     refine XD_one 6 rfl (by kernel_rfl) ?_
     refine zS szt_118 ?_
     refine XO_nil ?_
     refine zD hD ?_
     refine XD_done (by kernel_rfl) ?_
     refine at_noP ?_
     rw [show ((a : Int)).tmod (maxI (b : Int) 1) = ((a % b : Nat) : Int) by rw [maxI_one hbp, tmod_nat]]
     refine at_then ?_
     refine zR ?_
     refine zL sct_118 ?_
     refine zC ?_
     refine zN ?_
     refine zI ?_ ?_ <;> intro hc17
     ·
      have hab : a % b = 0 := by have h := hc17; simp only [beq_iff_eq] at h; omega
      have hpre2 : (pre ++ [a]) ++ [b] <+: remN a0 b0 := by rw [hrem, remN_end ha0 (by omega) hab, List.append_assoc]; exact List.prefix_rfl
      refine zR ?_
      refine zM ?_
      refine zL sct_118 ?_
      refine XO_yield0 (vs := [_]) (Post := fun t I3 H3 => if t then J ((pre ++ [a]) ++ [b]) I3 H3 else Jx ((pre ++ [a]) ++ [b]) I3 H3) rfl rfl rfl rfl (hY (pre ++ [a]) b _ _ hpre2 (hI0.trans hI2) hJ1) ?_
      rintro t3 I3 H3 hI3 hP3
      refine zN ?_
      refine X_ret ?_
      refine at_block_r ?_
      refine at_then_r ?_
      refine at_block_r ?_
      first
      | (refine at_ret0 rfl (fun w hw => ⟨_, I3, H3, rfl, hI1.trans (hI2.trans hI3), hw.drop, ?_⟩); cases t3 with | true => exact .inl (by rw [hrem, remN_end ha0 (by omega) hab]; simpa using hP3) | false => exact .inr ⟨_, hpre2, hP3⟩)
      | (refine at_norm (at_ret0 rfl (fun w hw => ⟨_, I2, H2, rfl, hI1.trans hI2, hw.drop, ?_⟩)); by_cases ha0 : a = 0; (obtain ⟨e1, e2⟩ := hno (by simp [conj, ha0]); subst e1; subst e2; subst ha0; exact .inl (by rw [hrem, remN_zero, List.append_nil]; exact hJk)); (have ht : t = false := (by simp [ha0] at hc10; exact hc10); subst ht; exact .inr ⟨_, rem_pre hrem ha0, hyes (by simp [conj]; exact ha0)⟩))
     have hab : a % b ≠ 0 := by have h := hc17; simp only [beq_eq_false_iff_ne, ne_eq] at h; omega
     refine X_skip ?_
     refine at_block_n ?_
     exact at_metH2 rfl rfl rfl _ (remL 118 b1 b2 (b) (((a % b : Nat) : Int))) ⟨a % b, Nat.mod_lt _ hbp, b, a % b, pre ++ [a], rfl, rfl, rfl, hI1.trans hI2, hJ1, by rw [hrem, remN_step ha0 (by omega) hab, List.append_assoc]; rfl, by omega, by omega, by have := Nat.mod_lt a hbp; omega⟩ (.cons rfl (.cons rfl (.cons rfl .nil))) .refl
    refine zS szt_118 ?_
    refine XO_nil ?_
    refine zD hD ?_
    refine XD_one 2 rfl (by kernel_rfl) ?_
    refine zL sct_118 ?_
    refine XO_nil ?_
    refine zD hD ?_
    refine XD_one 3 rfl (by kernel_rfl) ?_
    refine zV (ev_max rfl rfl) ?_
    refine XO_nil ?_
    refine zD hD ?_
    refine XD_one 4 rfl (by kernel_rfl) ?_
    refine zV (ev_rem rfl rfl (fun hg => by rw [maxI_one hbp]; omega)) ?_
    refine XO_nil ?_
    refine zD hD ?_
    refine XD_one 6 rfl (by kernel_rfl) ?_
    refine zS szt_118 ?_
    refine XO_nil ?_
    refine zD hD ?_
    refine XD_done (by kernel_rfl) ?_
    refine at_noP ?_
    rw [show ((a : Int)).tmod (maxI (b : Int) 1) = ((a % b : Nat) : Int) by rw [maxI_one hbp, tmod_nat]]
    refine at_then ?_
    refine zR ?_
    refine zL sct_118 ?_
    refine zC ?_
    refine zN ?_
    refine zI ?_ ?_ <;> intro hc17
    ·
     have hab : a % b = 0 := by have h := hc17; simp only [beq_iff_eq] at h; omega
     have hpre2 : (pre ++ [a]) ++ [b] <+: remN a0 b0 := by rw [hrem, remN_end ha0 (by omega) hab, List.append_assoc]; exact List.prefix_rfl
     refine zR ?_
     refine zM ?_
     refine zL sct_118 ?_
     refine XO_yield0 (vs := [_]) (Post := fun t I3 H3 => if t then J ((pre ++ [a]) ++ [b]) I3 H3 else Jx ((pre ++ [a]) ++ [b]) I3 H3) rfl rfl rfl rfl (hY (pre ++ [a]) b _ _ hpre2 (hI0.trans hI2) hJ1) ?_
     rintro t3 I3 H3 hI3 hP3
     refine zN ?_
     refine X_ret ?_
     refine at_block_r ?_
     refine at_then_r ?_
     refine at_block_r ?_
     first
     | (refine at_ret0 rfl (fun w hw => ⟨_, I3, H3, rfl, hI1.trans (hI2.trans hI3), hw.drop, ?_⟩); cases t3 with | true => exact .inl (by rw [hrem, remN_end ha0 (by omega) hab]; simpa using hP3) | false => exact .inr ⟨_, hpre2, hP3⟩)
     | (refine at_norm (at_ret0 rfl (fun w hw => ⟨_, I2, H2, rfl, hI1.trans hI2, hw.drop, ?_⟩)); by_cases ha0 : a = 0; (obtain ⟨e1, e2⟩ := hno (by simp [conj, ha0]); subst e1; subst e2; subst ha0; exact .inl (by rw [hrem, remN_zero, List.append_nil]; exact hJk)); (have ht : t = false := (by simp [ha0] at hc10; exact hc10); subst ht; exact .inr ⟨_, rem_pre hrem ha0, hyes (by simp [conj]; exact ha0)⟩))
    have hab : a % b ≠ 0 := by have h := hc17; simp only [beq_eq_false_iff_ne, ne_eq] at h; omega
    refine X_skip ?_
    refine at_block_n ?_
    exact at_metH2 rfl rfl rfl _ (remL 118 b1 b2 (b) (((a % b : Nat) : Int))) ⟨a % b, Nat.mod_lt _ hbp, b, a % b, pre ++ [a], rfl, rfl, rfl, hI1.trans hI2, hJ1, by rw [hrem, remN_step ha0 (by omega) hab, List.append_assoc]; rfl, by omega, by omega, by have := Nat.mod_lt a hbp; omega⟩ (.cons rfl (.cons rfl (.cons rfl .nil))) .refl
   refine zL sct_118 ?_
   refine XO_nil ?_
   refine zD hD ?_
   refine XD_two 1 3 rfl rfl (by kernel_rfl) ?_ ?_
   ·
    refine zL sct_118 ?_
    refine XO_nil ?_
    refine zD hD ?_
    refine XD_two 3 5 rfl rfl (by kernel_rfl) ?_ ?_
    ·
     refine zV (ev_max rfl rfl) ?_
     refine XO_nil ?_
     refine zD hD ?_
     refine XD_two 4 5 rfl rfl (by kernel_rfl) ?_ ?_
     ·
      refine zV (ev_rem rfl rfl (fun hg => by rw [maxI_one hbp]; omega)) ?_
      refine XO_nil ?_
      refine zD hD ?_
      refine XD_one 5 rfl (by kernel_rfl) ?_
      refine zS szt_118 ?_
      refine XO_nil ?_
      refine zD hD ?_
      refine XD_one 6 rfl (by kernel_rfl) ?_
      refine zS szt_118 ?_
      refine XO_nil ?_
      refine zD hD ?_
      refine XD_done (by kernel_rfl) ?_
      refine at_noP ?_
      rw [show ((a : Int)).tmod (maxI (b : Int) 1) = ((a % b : Nat) : Int) by rw [maxI_one hbp, tmod_nat]]
      refine at_then ?_
      refine zR ?_
      refine zL sct_118 ?_
      refine zC ?_
      refine zN ?_
      refine zI ?_ ?_ <;> intro hc17
      ·
       have hab : a % b = 0 := by have h := hc17; simp only [beq_iff_eq] at h; omega
       have hpre2 : (pre ++ [a]) ++ [b] <+: remN a0 b0 := by rw [hrem, remN_end ha0 (by omega) hab, List.append_assoc]; exact List.prefix_rfl
       refine zR ?_
       refine zM ?_
       refine zL sct_118 ?_
       refine XO_yield0 (vs := [_]) (Post := fun t I3 H3 => if t then J ((pre ++ [a]) ++ [b]) I3 H3 else Jx ((pre ++ [a]) ++ [b]) I3 H3) rfl rfl rfl rfl (hY (pre ++ [a]) b _ _ hpre2 (hI0.trans hI2) hJ1) ?_
       rintro t3 I3 H3 hI3 hP3
       refine zN ?_
       refine X_ret ?_
       refine at_block_r ?_
       refine at_then_r ?_
       refine at_block_r ?_
       first
       | (refine at_ret0 rfl (fun w hw => ⟨_, I3, H3, rfl, hI1.trans (hI2.trans hI3), hw.drop, ?_⟩); cases t3 with | true => exact .inl (by rw [hrem, remN_end ha0 (by omega) hab]; simpa using hP3) | false => exact .inr ⟨_, hpre2, hP3⟩)
       | (refine at_norm (at_ret0 rfl (fun w hw => ⟨_, I2, H2, rfl, hI1.trans hI2, hw.drop, ?_⟩)); by_cases ha0 : a = 0; (obtain ⟨e1, e2⟩ := hno (by simp [conj, ha0]); subst e1; subst e2; subst ha0; exact .inl (by rw [hrem, remN_zero, List.append_nil]; exact hJk)); (have ht : t = false := (by simp [ha0] at hc10; exact hc10); subst ht; exact .inr ⟨_, rem_pre hrem ha0, hyes (by simp [conj]; exact ha0)⟩))
      have hab : a % b ≠ 0 := by have h := hc17; simp only [beq_eq_false_iff_ne, ne_eq] at h; omega
      refine X_skip ?_
      refine at_block_n ?_
      exact at_metH2 rfl rfl rfl _ (remL 118 b1 b2 (b) (((a % b : Nat) : Int))) ⟨a % b, Nat.mod_lt _ hbp, b, a % b, pre ++ [a], rfl, rfl, rfl, hI1.trans hI2, hJ1, by rw [hrem, remN_step ha0 (by omega) hab, List.append_assoc]; rfl, by omega, by omega, by have := Nat.mod_lt a hbp; omega⟩ (.cons rfl (.cons rfl (.cons rfl .nil))) .refl
     refine zS szt_118 ?_
     refine XO_nil ?_
     refine zD hD ?_
     refine XD_one 4 rfl (by kernel_rfl) ?_
     refine zV (ev_rem rfl rfl (fun hg => by rw [maxI_one hbp]; omega)) ?_
     refine XO_nil ?_
     refine zD hD ?_
     refine XD_one 6 rfl (by kernel_rfl) ?_
     refine zS szt_118 ?_
     refine XO_nil ?_
     refine zD hD ?_
     refine XD_done (by kernel_rfl) ?_
     refine at_noP ?_
     rw [show ((a : Int)).tmod (maxI (b : Int) 1) = ((a % b : Nat) : Int) by rw [maxI_one hbp, tmod_nat]]
     refine at_then ?_
     refine zR ?_
     refine zL sct_118 ?_
     refine zC ?_
     refine zN ?_
     refine zI ?_ ?_ <;> intro hc17
     ·
      have hab : a % b = 0 := by have h := hc17; simp only [beq_iff_eq] at h; omega
      have hpre2 : (pre ++ [a]) ++ [b] <+: remN a0 b0 := by rw [hrem, remN_end ha0 (by omega) hab, List.append_assoc]; exact List.prefix_rfl
      refine zR ?_
      refine zM ?_
      refine zL sct_118 ?_
      refine XO_yield0 (vs := [_]) (Post := fun t I3 H3 => if t then J ((pre ++ [a]) ++ [b]) I3 H3 else Jx ((pre ++ [a]) ++ [b]) I3 H3) rfl rfl rfl rfl (hY (pre ++ [a]) b _ _ hpre2 (hI0.trans hI2) hJ1) ?_
      rintro t3 I3 H3 hI3 hP3
      refine zN ?_
      refine X_ret ?_
      refine at_block_r ?_
      refine at_then_r ?_
      refine at_block_r ?_
      first
      | (refine at_ret0 rfl (fun w hw => ⟨_, I3, H3, rfl, hI1.trans (hI2.trans hI3), hw.drop, ?_⟩); cases t3 with | true => exact .inl (by rw [hrem, remN_end ha0 (by omega) hab]; simpa using hP3) | false => exact .inr ⟨_, hpre2, hP3⟩)
      | (refine at_norm (at_ret0 rfl (fun w hw => ⟨_, I2, H2, rfl, hI1.trans hI2, hw.drop, ?_⟩)); by_cases ha0 : a = 0; (obtain ⟨e1, e2⟩ := hno (by simp [conj, ha0]); subst e1; subst e2; subst ha0; exact .inl (by rw [hrem, remN_zero, List.append_nil]; exact hJk)); (have ht : t = false := (by simp [ha0] at hc10; exact hc10); subst ht; exact .inr ⟨_, rem_pre hrem ha0, hyes (by simp [conj]; exact ha0)⟩))
     have hab : a % b ≠ 0 := by have h := hc17; simp only [beq_eq_false_iff_ne, ne_eq] at h; omega
     refine X_skip ?_
     refine at_block_n ?_
     exact at_metH2 rfl rfl rfl _ (remL 118 b1 b2 (b) (((a % b : Nat) : Int))) ⟨a % b, Nat.mod_lt _ hbp, b, a % b, pre ++ [a], rfl, rfl, rfl, hI1.trans hI2, hJ1, by rw [hrem, remN_step ha0 (by omega) hab, List.append_assoc]; rfl, by omega, by omega, by have := Nat.mod_lt a hbp; omega⟩ (.cons rfl (.cons rfl (.cons rfl .nil))) .refl
    refine zS szt_118 ?_
    refine XO_nil ?_
    refine zD hD ?_
    refine XD_one 3 rfl (by kernel_rfl) ?_
    refine zV (ev_max rfl rfl) ?_
    refine XO_nil ?_
    refine zD hD ?_
    refine XD_one 4 rfl (by kernel_rfl) ?_
    refine zV (ev_rem rfl rfl (fun hg => by rw [maxI_one hbp]; omega)) ?_
    refine XO_nil ?_
    refine zD hD ?_
    refine XD_one 6 rfl (by kernel_rfl) ?_
    refine zS szt_118 ?_
    refine XO_nil ?_
    refine zD hD ?_
    refine XD_done (by kernel_rfl) ?_
    refine at_noP ?_
    rw [show ((a : Int)).tmod (maxI (b : Int) 1) = ((a % b : Nat) : Int) by rw [maxI_one hbp, tmod_nat]]
    refine at_then ?_
    refine zR ?_
    refine zL sct_118 ?_
    refine zC ?_
    refine zN ?_
    refine zI ?_ ?_ <;> intro hc17
    ·
     have hab : a % b = 0 := by have h := hc17; simp only [beq_iff_eq] at h; omega
     have hpre2 : (pre ++ [a]) ++ [b] <+: remN a0 b0 := by rw [hrem, remN_end ha0 (by omega) hab, List.append_assoc]; exact List.prefix_rfl
     refine zR ?_
     refine zM ?_
     refine zL sct_118 ?_
     refine XO_yield0 (vs := [_]) (Post := fun t I3 H3 => if t then J ((pre ++ [a]) ++ [b]) I3 H3 else Jx ((pre ++ [a]) ++ [b]) I3 H3) rfl rfl rfl rfl (hY (pre ++ [a]) b _ _ hpre2 (hI0.trans hI2) hJ1) ?_
     rintro t3 I3 H3 hI3 hP3
     refine zN ?_
     refine X_ret ?_
     refine at_block_r ?_
     refine at_then_r ?_
     refine at_block_r ?_
     first
     | (refine at_ret0 rfl (fun w hw => ⟨_, I3, H3, rfl, hI1.trans (hI2.trans hI3), hw.drop, ?_⟩); cases t3 with | true => exact .inl (by rw [hrem, remN_end ha0 (by omega) hab]; simpa using hP3) | false => exact .inr ⟨_, hpre2, hP3⟩)
     | (refine at_norm (at_ret0 rfl (fun w hw => ⟨_, I2, H2, rfl, hI1.trans hI2, hw.drop, ?_⟩)); by_cases ha0 : a = 0; (obtain ⟨e1, e2⟩ := hno (by simp [conj, ha0]); subst e1; subst e2; subst ha0; exact .inl (by rw [hrem, remN_zero, List.append_nil]; exact hJk)); (have ht : t = false := (by simp [ha0] at hc10; exact hc10); subst ht; exact .inr ⟨_, rem_pre hrem ha0, hyes (by simp [conj]; exact ha0)⟩))
    have hab : a % b ≠ 0 := by have h := hc17; simp only [beq_eq_false_iff_ne, ne_eq] at h; omega
    refine X_skip ?_
    refine at_block_n ?_
    exact at_metH2 rfl rfl rfl _ (remL 118 b1 b2 (b) (((a % b : Nat) : Int))) ⟨a % b, Nat.mod_lt _ hbp, b, a % b, pre ++ [a], rfl, rfl, rfl, hI1.trans hI2, hJ1, by rw [hrem, remN_step ha0 (by omega) hab, List.append_assoc]; rfl, by omega, by omega, by have := Nat.mod_lt a hbp; omega⟩ (.cons rfl (.cons rfl (.cons rfl .nil))) .refl
   refine zV (ev_max rfl rfl) ?_
   refine XO_nil ?_
   refine zD hD ?_
   refine XD_one 1 rfl (by kernel_rfl) ?_
   refine zL sct_118 ?_
   refine XO_nil ?_
   refine zD hD ?_
   refine XD_two 4 5 rfl rfl (by kernel_rfl) ?_ ?_
   ·
    refine zV (ev_rem rfl rfl (fun hg => by rw [maxI_one hbp]; omega)) ?_
    refine XO_nil ?_
    refine zD hD ?_
    refine XD_one 5 rfl (by kernel_rfl) ?_
    refine zS szt_118 ?_
    refine XO_nil ?_
    refine zD hD ?_
    refine XD_one 6 rfl (by kernel_rfl) ?_
    refine zS szt_118 ?_
    refine XO_nil ?_
    refine zD hD ?_
    refine XD_done (by kernel_rfl) ?_
    refine at_noP ?_
    rw [show ((a : Int)).tmod (maxI (b : Int) 1) = ((a % b : Nat) : Int) by rw [maxI_one hbp, tmod_nat]]
    refine at_then ?_
    refine zR ?_
    refine zL sct_118 ?_
    refine zC ?_
    refine zN ?_
    refine zI ?_ ?_ <;> intro hc17
    ·
     have hab : a % b = 0 := by have h := hc17; simp only [beq_iff_eq] at h; omega
     have hpre2 : (pre ++ [a]) ++ [b] <+: remN a0 b0 := by rw [hrem, remN_end ha0 (by omega) hab, List.append_assoc]; exact List.prefix_rfl
     refine zR ?_
     refine zM ?_
     refine zL sct_118 ?_
     refine XO_yield0 (vs := [_]) (Post := fun t I3 H3 => if t then J ((pre ++ [a]) ++ [b]) I3 H3 else Jx ((pre ++ [a]) ++ [b]) I3 H3) rfl rfl rfl rfl (hY (pre ++ [a]) b _ _ hpre2 (hI0.trans hI2) hJ1) ?_
     rintro t3 I3 H3 hI3 hP3
     refine zN ?_
     refine X_ret ?_
     refine at_block_r ?_
     refine at_then_r ?_
     refine at_block_r ?_
     first
     | (refine at_ret0 rfl (fun w hw => ⟨_, I3, H3, rfl, hI1.trans (hI2.trans hI3), hw.drop, ?_⟩); cases t3 with | true => exact .inl (by rw [hrem, remN_end ha0 (by omega) hab]; simpa using hP3) | false => exact .inr ⟨_, hpre2, hP3⟩)
     | (refine at_norm (at_ret0 rfl (fun w hw => ⟨_, I2, H2, rfl, hI1.trans hI2, hw.drop, ?_⟩)); by_cases ha0 : a = 0; (obtain ⟨e1, e2⟩ := hno (by simp [conj, ha0]); subst e1; subst e2; subst ha0; exact .inl (by rw [hrem, remN_zero, List.append_nil]; exact hJk)); (have ht : t = false := (by simp [ha0] at hc10; exact hc10); subst ht; exact .inr ⟨_, rem_pre hrem ha0, hyes (by simp [conj]; exact ha0)⟩))
    have hab : a % b ≠ 0 := by have h := hc17; simp only [beq_eq_false_iff_ne, ne_eq] at h; omega
    refine X_skip ?_
    refine at_block_n ?_
    exact at_metH2 rfl rfl rfl _ (remL 118 b1 b2 (b) (((a % b : Nat) : Int))) ⟨a % b, Nat.mod_lt _ hbp, b, a % b, pre ++ [a], rfl, rfl, rfl, hI1.trans hI2, hJ1, by rw [hrem, remN_step ha0 (by omega) hab, List.append_assoc]; rfl, by omega, by omega, by have := Nat.mod_lt a hbp; omega⟩ (.cons rfl (.cons rfl (.cons rfl .nil))) .refl
   refine zS szt_118 ?_
   refine XO_nil ?_
   refine zD hD ?_
   refine XD_one 4 rfl (by kernel_rfl) ?_
   refine zV (ev_rem rfl rfl (fun hg => by rw [maxI_one hbp]; omega)) ?_
   refine XO_nil ?_
   refine zD hD ?_
   refine XD_one 6 rfl (by kernel_rfl) ?_
   refine zS szt_118 ?_
   refine XO_nil ?_
   refine zD hD ?_
   refine XD_done (by kernel_rfl) ?_
   refine at_noP ?_
   rw [show ((a : Int)).tmod (maxI (b : Int) 1) = ((a % b : Nat) : Int) by rw [maxI_one hbp, tmod_nat]]
   refine at_then ?_
   refine zR ?_
   refine zL sct_118 ?_
   refine zC ?_
   refine zN ?_
   refine zI ?_ ?_ <;> intro hc17
   ·
    have hab : a % b = 0 := by have h := hc17; simp only [beq_iff_eq] at h; omega
    have hpre2 : (pre ++ [a]) ++ [b] <+: remN a0 b0 := by rw [hrem, remN_end ha0 (by omega) hab, List.append_assoc]; exact List.prefix_rfl
    refine zR ?_
    refine zM ?_
    refine zL sct_118 ?_
    refine XO_yield0 (vs := [_]) (Post := fun t I3 H3 => if t then J ((pre ++ [a]) ++ [b]) I3 H3 else Jx ((pre ++ [a]) ++ [b]) I3 H3) rfl rfl rfl rfl (hY (pre ++ [a]) b _ _ hpre2 (hI0.trans hI2) hJ1) ?_
    rintro t3 I3 H3 hI3 hP3
    refine zN ?_
    refine X_ret ?_
    refine at_block_r ?_
    refine at_then_r ?_
    refine at_block_r ?_
    first
    | (refine at_ret0 rfl (fun w hw => ⟨_, I3, H3, rfl, hI1.trans (hI2.trans hI3), hw.drop, ?_⟩); cases t3 with | true => exact .inl (by rw [hrem, remN_end ha0 (by omega) hab]; simpa using hP3) | false => exact .inr ⟨_, hpre2, hP3⟩)
    | (refine at_norm (at_ret0 rfl (fun w hw => ⟨_, I2, H2, rfl, hI1.trans hI2, hw.drop, ?_⟩)); by_cases ha0 : a = 0; (obtain ⟨e1, e2⟩ := hno (by simp [conj, ha0]); subst e1; subst e2; subst ha0; exact .inl (by rw [hrem, remN_zero, List.append_nil]; exact hJk)); (have ht : t = false := (by simp [ha0] at hc10; exact hc10); subst ht; exact .inr ⟨_, rem_pre hrem ha0, hyes (by simp [conj]; exact ha0)⟩))
   have hab : a % b ≠ 0 := by have h := hc17; simp only [beq_eq_false_iff_ne, ne_eq] at h; omega
   refine X_skip ?_
   refine at_block_n ?_
   exact at_metH2 rfl rfl rfl _ (remL 118 b1 b2 (b) (((a % b : Nat) : Int))) ⟨a % b, Nat.mod_lt _ hbp, b, a % b, pre ++ [a], rfl, rfl, rfl, hI1.trans hI2, hJ1, by rw [hrem, remN_step ha0 (by omega) hab, List.append_assoc]; rfl, by omega, by omega, by have := Nat.mod_lt a hbp; omega⟩ (.cons rfl (.cons rfl (.cons rfl .nil))) .refl
  ·
   refine zL sct_118 ?_
   refine XO_nil ?_
   refine zD hD ?_
   refine XD_two 0 2 rfl rfl (by kernel_rfl) ?_ ?_
   ·
    refine zL sct_118 ?_
    refine XO_nil ?_
    refine zD hD ?_
    refine XD_two 2 5 rfl rfl (by kernel_rfl) ?_ ?_
    ·
     refine zL sct_118 ?_
     refine XO_nil ?_
     refine zD hD ?_
     refine XD_two 3 5 rfl rfl (by kernel_rfl) ?_ ?_
     ·
      refine zV (ev_max rfl rfl) ?_
      refine XO_nil ?_
      refine zD hD ?_
      refine XD_two 4 5 rfl rfl (by kernel_rfl) ?_ ?_
      ·
       refine zV (ev_rem rfl rfl (fun hg => by rw [maxI_one hbp]; omega)) ?_
       refine XO_nil ?_
       refine zD hD ?_
       refine XD_one 5 rfl (by kernel_rfl) ?_
       refine zS szt_118 ?_
       refine XO_nil ?_
       refine zD hD ?_
       refine XD_one 6 rfl (by kernel_rfl) ?_
       refine zS szt_118 ?_
       refine XO_nil ?_
       refine zD hD ?_
       refine XD_done (by kernel_rfl) ?_
       refine at_noP ?_
       rw [show ((a : Int)).tmod (maxI (b : Int) 1) = ((a % b : Nat) : Int) by rw [maxI_one hbp, tmod_nat]]
       refine at_then ?_
       refine zR ?_
       refine zL sct_118 ?_
       refine zC ?_
       refine zN ?_
       refine zI ?_ ?_ <;> intro hc17
       ·
        have hab : a % b = 0 := by have h := hc17; simp only [beq_iff_eq] at h; omega
        have hpre2 : (pre ++ [a]) ++ [b] <+: remN a0 b0 := by rw [hrem, remN_end ha0 (by omega) hab, List.append_assoc]; exact List.prefix_rfl
        refine zR ?_
        refine zM ?_
        refine zL sct_118 ?_
        refine XO_yield0 (vs := [_]) (Post := fun t I3 H3 => if t then J ((pre ++ [a]) ++ [b]) I3 H3 else Jx ((pre ++ [a]) ++ [b]) I3 H3) rfl rfl rfl rfl (hY (pre ++ [a]) b _ _ hpre2 (hI0.trans hI2) hJ1) ?_
        rintro t3 I3 H3 hI3 hP3
        refine zN ?_
        refine X_ret ?_
        refine at_block_r ?_
        refine at_then_r ?_
        refine at_block_r ?_
        first
        | (refine at_ret0 rfl (fun w hw => ⟨_, I3, H3, rfl, hI1.trans (hI2.trans hI3), hw.drop, ?_⟩); cases t3 with | true => exact .inl (by rw [hrem, remN_end ha0 (by omega) hab]; simpa using hP3) | false => exact .inr ⟨_, hpre2, hP3⟩)
        | (refine at_norm (at_ret0 rfl (fun w hw => ⟨_, I2, H2, rfl, hI1.trans hI2, hw.drop, ?_⟩)); by_cases ha0 : a = 0; (obtain ⟨e1, e2⟩ := hno (by simp [conj, ha0]); subst e1; subst e2; subst ha0; exact .inl (by rw [hrem, remN_zero, List.append_nil]; exact hJk)); (have ht : t = false := (by simp [ha0] at hc10; exact hc10); subst ht; exact .inr ⟨_, rem_pre hrem ha0, hyes (by simp [conj]; exact ha0)⟩))
       have hab : a % b ≠ 0 := by have h := hc17; simp only [beq_eq_false_iff_ne, ne_eq] at h; omega
       refine X_skip ?_
       refine at_block_n ?_
       exact at_metH2 rfl rfl rfl _ (remL 118 b1 b2 (b) (((a % b : Nat) : Int))) ⟨a % b, Nat.mod_lt _ hbp, b, a % b, pre ++ [a], rfl, rfl, rfl, hI1.trans hI2, hJ1, by rw [hrem, remN_step ha0 (by omega) hab, List.append_assoc]; rfl, by omega, by omega, by have := Nat.mod_lt a hbp; omega⟩ (.cons rfl (.cons rfl (.cons rfl .nil))) .refl
      refine zS szt_118 ?_
      refine XO_nil ?_
      refine zD hD ?_
      refine XD_one 4 rfl (by kernel_rfl) ?_
      refine zV (ev_rem rfl rfl (fun hg => by rw [maxI_one hbp]; omega)) ?_
      refine XO_nil ?_
      refine zD hD ?_
      refine XD_one 6 rfl (by kernel_rfl) ?_
      refine zS szt_118 ?_
      refine XO_nil ?_
      refine zD hD ?_
      refine XD_done (by kernel_rfl) ?_
      refine at_noP ?_
      rw [show ((a : Int)).tmod (maxI (b : Int) 1) = ((a % b : Nat) : Int) by rw [maxI_one hbp, tmod_nat]]
      refine at_then ?_
      refine zR ?_
      refine zL sct_118 ?_
      refine zC ?_
      refine zN ?_
      refine zI ?_ ?_ <;> intro hc17
      ·
       have hab : a % b = 0 := by have h := hc17; simp only [beq_iff_eq] at h; omega
       have hpre2 : (pre ++ [a]) ++ [b] <+: remN a0 b0 := by rw [hrem, remN_end ha0 (by omega) hab, List.append_assoc]; exact List.prefix_rfl
       refine zR ?_
       refine zM ?_
       refine zL sct_118 ?_
       refine XO_yield0 (vs := [_]) (Post := fun t I3 H3 => if t then J ((pre ++ [a]) ++ [b]) I3 H3 else Jx ((pre ++ [a]) ++ [b]) I3 H3) rfl rfl rfl rfl (hY (pre ++ [a]) b _ _ hpre2 (hI0.trans hI2) hJ1) ?_
       rintro t3 I3 H3 hI3 hP3
       refine zN ?_
       refine X_ret ?_
       refine at_block_r ?_
       refine at_then_r ?_
       refine at_block_r ?_
       first
       | (refine at_ret0 rfl (fun w hw => ⟨_, I3, H3, rfl, hI1.trans (hI2.trans hI3), hw.drop, ?_⟩); cases t3 with | true => exact .inl (by rw [hrem, remN_end ha0 (by omega) hab]; simpa using hP3) | false => exact .inr ⟨_, hpre2, hP3⟩)
       | (refine at_norm (at_ret0 rfl (fun w hw => ⟨_, I2, H2, rfl, hI1.trans hI2, hw.drop, ?_⟩)); by_cases ha0 : a = 0; (obtain ⟨e1, e2⟩ := hno (by simp [conj, ha0]); subst e1; subst e2; subst ha0; exact .inl (by rw [hrem, remN_zero, List.append_nil]; exact hJk)); (have ht : t = false := (by simp [ha0] at hc10; exact hc10); subst ht; exact .inr ⟨_, rem_pre hrem ha0, hyes (by simp [conj]; exact ha0)⟩))
      have hab : a % b ≠ 0 := by have h := hc17; simp only [beq_eq_false_iff_ne, ne_eq] at h; omega
      refine X_skip ?_
      refine at_block_n ?_
      exact at_metH2 rfl rfl rfl _ (remL 118 b1 b2 (b) (((a % b : Nat) : Int))) ⟨a % b, Nat.mod_lt _ hbp, b, a % b, pre ++ [a], rfl, rfl, rfl, hI1.trans hI2, hJ1, by rw [hrem, remN_step ha0 (by omega) hab, List.append_assoc]; rfl, by omega, by omega, by have := Nat.mod_lt a hbp; omega⟩ (.cons rfl (.cons rfl (.cons rfl .nil))) .refl
     refine zS szt_118 ?_
     refine XO_nil ?_
     refine zD hD ?_
     refine XD_one 3 rfl (by kernel_rfl) ?_
     refine zV (ev_max rfl rfl) ?_
     refine XO_nil ?_
     refine zD hD ?_
     refine XD_one 4 rfl (by kernel_rfl) ?_
     refine zV (ev_rem rfl rfl (fun hg => by rw [maxI_one hbp]; omega)) ?_
     refine XO_nil ?_
     refine zD hD ?_
     refine XD_one 6 rfl (by kernel_rfl) ?_
     refine zS szt_118 ?_
     refine XO_nil ?_
     refine zD hD ?_
     refine XD_done (by kernel_rfl) ?_
     refine at_noP ?_
     rw [show ((a : Int)).tmod (maxI (b : Int) 1) = ((a % b : Nat) : Int) by rw [maxI_one hbp, tmod_nat]]
     refine at_then ?_
     refine zR ?_
     refine zL sct_118 ?_
     refine zC ?_
     refine zN ?_
     refine zI ?_ ?_ <;> intro hc17
     ·
      have hab : a % b = 0 := by have h := hc17; simp only [beq_iff_eq] at h; omega
      have hpre2 : (pre ++ [a]) ++ [b] <+: remN a0 b0 := by rw [hrem, remN_end ha0 (by omega) hab, List.append_assoc]; exact List.prefix_rfl
      refine zR ?_
      refine zM ?_
      refine zL sct_118 ?_
      refine XO_yield0 (vs := [_]) (Post := fun t I3 H3 => if t then J ((pre ++ [a]) ++ [b]) I3 H3 else Jx ((pre ++ [a]) ++ [b]) I3 H3) rfl rfl rfl rfl (hY (pre ++ [a]) b _ _ hpre2 (hI0.trans hI2) hJ1) ?_
      rintro t3 I3 H3 hI3 hP3
      refine zN ?_
      refine X_ret ?_
      refine at_block_r ?_
      refine at_then_r ?_
      refine at_block_r ?_
      first
      | (refine at_ret0 rfl (fun w hw => ⟨_, I3, H3, rfl, hI1.trans (hI2.trans hI3), hw.drop, ?_⟩); cases t3 with | true => exact .inl (by rw [hrem, remN_end ha0 (by omega) hab]; simpa using hP3) | false => exact .inr ⟨_, hpre2, hP3⟩)
      | (refine at_norm (at_ret0 rfl (fun w hw => ⟨_, I2, H2, rfl, hI1.trans hI2, hw.drop, ?_⟩)); by_cases ha0 : a = 0; (obtain ⟨e1, e2⟩ := hno (by simp [conj, ha0]); subst e1; subst e2; subst ha0; exact .inl (by rw [hrem, remN_zero, List.append_nil]; exact hJk)); (have ht : t = false := (by simp [ha0] at hc10; exact hc10); subst ht; exact .inr ⟨_, rem_pre hrem ha0, hyes (by simp [conj]; exact ha0)⟩))
     have hab : a % b ≠ 0 := by have h := hc17; simp only [beq_eq_false_iff_ne, ne_eq] at h; omega
     refine X_skip ?_
     refine at_block_n ?_
     exact at_metH2 rfl rfl rfl _ (remL 118 b1 b2 (b) (((a % b : Nat) : Int))) ⟨a % b, Nat.mod_lt _ hbp, b, a % b, pre ++ [a], rfl, rfl, rfl, hI1.trans hI2, hJ1, by rw [hrem, remN_step ha0 (by omega) hab, List.append_assoc]; rfl, by omega, by omega, by have := Nat.mod_lt a hbp; omega⟩ (.cons rfl (.cons rfl (.cons rfl .nil))) .refl
    refine zS szt_118 ?_
    refine XO_nil ?_
    refine zD hD ?_
    refine XD_one 2 rfl (by kernel_rfl) ?_
    refine zL sct_118 ?_
    refine XO_nil ?_
    refine zD hD ?_
    refine XD_one 3 rfl (by kernel_rfl) ?_
    refine zV (ev_max rfl rfl) ?_
    refine XO_nil ?_
    refine zD hD ?_
    refine XD_one 4 rfl (by kernel_rfl) ?_
    refine zV (ev_rem rfl rfl (fun hg => by rw [maxI_one hbp]; omega)) ?_
    refine XO_nil ?_
    refine zD hD ?_
    refine XD_one 6 rfl (by kernel_rfl) ?_
    refine zS szt_118 ?_
    refine XO_nil ?_
    refine zD hD ?_
    refine XD_done (by kernel_rfl) ?_
    refine at_noP ?_
    rw [show ((a : Int)).tmod (maxI (b : Int) 1) = ((a % b : Nat) : Int) by rw [maxI_one hbp, tmod_nat]]
    refine at_then ?_
    refine zR ?_
    refine zL sct_118 ?_
    refine zC ?_
    refine zN ?_
    refine zI ?_ ?_ <;> intro hc17
    ·
     have hab : a % b = 0 := by have h := hc17; simp only [beq_iff_eq] at h; omega
     have hpre2 : (pre ++ [a]) ++ [b] <+: remN a0 b0 := by rw [hrem, remN_end ha0 (by omega) hab, List.append_assoc]; exact List.prefix_rfl
     refine zR ?_
     refine zM ?_
     refine zL sct_118 ?_
     refine XO_yield0 (vs := [_]) (Post := fun t I3 H3 => if t then J ((pre ++ [a]) ++ [b]) I3 H3 else Jx ((pre ++ [a]) ++ [b]) I3 H3) rfl rfl rfl rfl (hY (pre ++ [a]) b _ _ hpre2 (hI0.trans hI2) hJ1) ?_
     rintro t3 I3 H3 hI3 hP3
     refine zN ?_
     refine X_ret ?_
     refine at_block_r ?_
     refine at_then_r ?_
     refine at_block_r ?_
     first
     | (refine at_ret0 rfl (fun w hw => ⟨_, I3, H3, rfl, hI1.trans (hI2.trans hI3), hw.drop, ?_⟩); cases t3 with | true => exact .inl (by rw [hrem, remN_end ha0 (by omega) hab]; simpa using hP3) | false => exact .inr ⟨_, hpre2, hP3⟩)
     | (refine at_norm (at_ret0 rfl (fun w hw => ⟨_, I2, H2, rfl, hI1.trans hI2, hw.drop, ?_⟩)); by_cases ha0 : a = 0; (obtain ⟨e1, e2⟩ := hno (by simp [conj, ha0]); subst e1; subst e2; subst ha0; exact .inl (by rw [hrem, remN_zero, List.append_nil]; exact hJk)); (have ht : t = false := (by simp [ha0] at hc10; exact hc10); subst ht; exact .inr ⟨_, rem_pre hrem ha0, hyes (by simp [conj]; exact ha0)⟩))
    have hab : a % b ≠ 0 := by have h := hc17; simp only [beq_eq_false_iff_ne, ne_eq] at h; omega
    refine X_skip ?_
    refine at_block_n ?_
    exact at_metH2 rfl rfl rfl _ (remL 118 b1 b2 (b) (((a % b : Nat) : Int))) ⟨a % b, Nat.mod_lt _ hbp, b, a % b, pre ++ [a], rfl, rfl, rfl, hI1.trans hI2, hJ1, by rw [hrem, remN_step ha0 (by omega) hab, List.append_assoc]; rfl, by omega, by omega, by have := Nat.mod_lt a hbp; omega⟩ (.cons rfl (.cons rfl (.cons rfl .nil))) .refl
   refine zL sct_118 ?_
   refine XO_nil ?_
   refine zD hD ?_
   refine XD_two 0 3 rfl rfl (by kernel_rfl) ?_ ?_
   ·
    refine zL sct_118 ?_
    refine XO_nil ?_
    refine zD hD ?_
    refine XD_two 3 5 rfl rfl (by kernel_rfl) ?_ ?_
    ·
     refine zV (ev_max rfl rfl) ?_
     refine XO_nil ?_
     refine zD hD ?_
     refine XD_two 4 5 rfl rfl (by kernel_rfl) ?_ ?_
     ·
      refine zV (ev_rem rfl rfl (fun hg => by rw [maxI_one hbp]; omega)) ?_
      refine XO_nil ?_
      refine zD hD ?_
      refine XD_one 5 rfl (by kernel_rfl) ?_
      refine zS szt_118 ?_
      refine XO_nil ?_
      refine zD hD ?_
      refine XD_one 6 rfl (by kernel_rfl) ?_
      refine zS szt_118 ?_
      refine XO_nil ?_
      refine zD hD ?_
      refine XD_done (by kernel_rfl) ?_
      refine at_noP ?_
      rw [show ((a : Int)).tmod (maxI (b : Int) 1) = ((a % b : Nat) : Int) by rw [maxI_one hbp, tmod_nat]]
      refine at_then ?_
      refine zR ?_
      refine zL sct_118 ?_
      refine zC ?_
      refine zN ?_
      refine zI ?_ ?_ <;> intro hc17
      ·
       have hab : a % b = 0 := by have h := hc17; simp only [beq_iff_eq] at h; omega
       have hpre2 : (pre ++ [a]) ++ [b] <+: remN a0 b0 := by rw [hrem, remN_end ha0 (by omega) hab, List.append_assoc]; exact List.prefix_rfl
       refine zR ?_
       refine zM ?_
       refine zL sct_118 ?_
       refine XO_yield0 (vs := [_]) (Post := fun t I3 H3 => if t then J ((pre ++ [a]) ++ [b]) I3 H3 else Jx ((pre ++ [a]) ++ [b]) I3 H3) rfl rfl rfl rfl (hY (pre ++ [a]) b _ _ hpre2 (hI0.trans hI2) hJ1) ?_
       rintro t3 I3 H3 hI3 hP3
       refine zN ?_
       refine X_ret ?_
       refine at_block_r ?_
       refine at_then_r ?_
       refine at_block_r ?_
       first
       | (refine at_ret0 rfl (fun w hw => ⟨_, I3, H3, rfl, hI1.trans (hI2.trans hI3), hw.drop, ?_⟩); cases t3 with | true => exact .inl (by rw [hrem, remN_end ha0 (by omega) hab]; simpa using hP3) | false => exact .inr ⟨_, hpre2, hP3⟩)
       | (refine at_norm (at_ret0 rfl (fun w hw => ⟨_, I2, H2, rfl, hI1.trans hI2, hw.drop, ?_⟩)); by_cases ha0 : a = 0; (obtain ⟨e1, e2⟩ := hno (by simp [conj, ha0]); subst e1; subst e2; subst ha0; exact .inl (by rw [hrem, remN_zero, List.append_nil]; exact hJk)); (have ht : t = false := (by simp [ha0] at hc10; exact hc10); subst ht; exact .inr ⟨_, rem_pre hrem ha0, hyes (by simp [conj]; exact ha0)⟩))
      have hab : a % b ≠ 0 := by have h := hc17; simp only [beq_eq_false_iff_ne, ne_eq] at h; omega
      refine X_skip ?_
      refine at_block_n ?_
      exact at_metH2 rfl rfl rfl _ (remL 118 b1 b2 (b) (((a % b : Nat) : Int))) ⟨a % b, Nat.mod_lt _ hbp, b, a % b, pre ++ [a], rfl, rfl, rfl, hI1.trans hI2, hJ1, by rw [hrem, remN_step ha0 (by omega) hab, List.append_assoc]; rfl, by omega, by omega, by have := Nat.mod_lt a hbp; omega⟩ (.cons rfl (.cons rfl (.cons rfl .nil))) .refl
     refine zS szt_118 ?_
     refine XO_nil ?_
     refine zD hD ?_
     refine XD_one 4 rfl (by kernel_rfl) ?_
     refine zV (ev_rem rfl rfl (fun hg => by rw [maxI_one hbp]; omega)) ?_
     refine XO_nil ?_
     refine zD hD ?_
     refine XD_one 6 rfl (by kernel_rfl) ?_
     refine zS szt_118 ?_
     refine XO_nil ?_
     refine zD hD ?_
     refine XD_done (by kernel_rfl) ?_
     refine at_noP ?_
     rw [show ((a : Int)).tmod (maxI (b : Int) 1) = ((a % b : Nat) : Int) by rw [maxI_one hbp, tmod_nat]]
     refine at_then ?_
     refine zR ?_
     refine zL sct_118 ?_
     refine zC ?_
     refine zN ?_
     refine zI ?_ ?_ <;> intro hc17
     ·
      have hab : a % b = 0 := by have h := hc17; simp only [beq_iff_eq] at h; omega
      have hpre2 : (pre ++ [a]) ++ [b] <+: remN a0 b0 := by rw [hrem, remN_end ha0 (by omega) hab, List.append_assoc]; exact List.prefix_rfl
      refine zR ?_
      refine zM ?_
      refine zL sct_118 ?_
      refine XO_yield0 (vs := [_]) (Post := fun t I3 H3 => if t then J ((pre ++ [a]) ++ [b]) I3 H3 else Jx ((pre ++ [a]) ++ [b]) I3 H3) rfl rfl rfl rfl (hY (pre ++ [a]) b _ _ hpre2 (hI0.trans hI2) hJ1) ?_
      rintro t3 I3 H3 hI3 hP3
      refine zN ?_
      refine X_ret ?_
      refine at_block_r ?_
      refine at_then_r ?_
      refine at_block_r ?_
      first
      | (refine at_ret0 rfl (fun w hw => ⟨_, I3, H3, rfl, hI1.trans (hI2.trans hI3), hw.drop, ?_⟩); cases t3 with | true => exact .inl (by rw [hrem, remN_end ha0 (by omega) hab]; simpa using hP3) | false => exact .inr ⟨_, hpre2, hP3⟩)
      | (refine at_norm (at_ret0 rfl (fun w hw => ⟨_, I2, H2, rfl, hI1.trans hI2, hw.drop, ?_⟩)); by_cases ha0 : a = 0; (obtain ⟨e1, e2⟩ := hno (by simp [conj, ha0]); subst e1; subst e2; subst ha0; exact .inl (by rw [hrem, remN_zero, List.append_nil]; exact hJk)); (have ht : t = false := (by simp [ha0] at hc10; exact hc10); subst ht; exact .inr ⟨_, rem_pre hrem ha0, hyes (by simp [conj]; exact ha0)⟩))
     have hab : a % b ≠ 0 := by have h := hc17; simp only [beq_eq_false_iff_ne, ne_eq] at h; omega
     refine X_skip ?_
     refine at_block_n ?_
     exact at_metH2 rfl rfl rfl _ (remL 118 b1 b2 (b) (((a % b : Nat) : Int))) ⟨a % b, Nat.mod_lt _ hbp, b, a % b, pre ++ [a], rfl, rfl, rfl, hI1.trans hI2, hJ1, by rw [hrem, remN_step ha0 (by omega) hab, List.append_assoc]; rfl, by omega, by omega, by have := Nat.mod_lt a hbp; omega⟩ (.cons rfl (.cons rfl (.cons rfl .nil))) .refl
    refine zS szt_118 ?_
    refine XO_nil ?_
    refine zD hD ?_
    refine XD_one 3 rfl (by kernel_rfl) ?_
    refine zV (ev_max rfl rfl) ?_
    refine XO_nil ?_
    refine zD hD ?_
    refine XD_one 4 rfl (by kernel_rfl) ?_
    refine zV (ev_rem rfl rfl (fun hg => by rw [maxI_one hbp]; omega)) ?_
    refine XO_nil ?_
    refine zD hD ?_
    refine XD_one 6 rfl (by kernel_rfl) ?_
    refine zS szt_118 ?_
    refine XO_nil ?_
    refine zD hD ?_
    refine XD_done (by kernel_rfl) ?_
    refine at_noP ?_
    rw [show ((a : Int)).tmod (maxI (b : Int) 1) = ((a % b : Nat) : Int) by rw [maxI_one hbp, tmod_nat]]
    refine at_then ?_
    refine zR ?_
    refine zL sct_118 ?_
    refine zC ?_
    refine zN ?_
    refine zI ?_ ?_ <;> intro hc17
    ·
     have hab : a % b = 0 := by have h := hc17; simp only [beq_iff_eq] at h; omega
     have hpre2 : (pre ++ [a]) ++ [b] <+: remN a0 b0 := by rw [hrem, remN_end ha0 (by omega) hab, List.append_assoc]; exact List.prefix_rfl
     refine zR ?_
     refine zM ?_
     refine zL sct_118 ?_
     refine XO_yield0 (vs := [_]) (Post := fun t I3 H3 => if t then J ((pre ++ [a]) ++ [b]) I3 H3 else Jx ((pre ++ [a]) ++ [b]) I3 H3) rfl rfl rfl rfl (hY (pre ++ [a]) b _ _ hpre2 (hI0.trans hI2) hJ1) ?_
     rintro t3 I3 H3 hI3 hP3
     refine zN ?_
     refine X_ret ?_
     refine at_block_r ?_
     refine at_then_r ?_
     refine at_block_r ?_
     first
     | (refine at_ret0 rfl (fun w hw => ⟨_, I3, H3, rfl, hI1.trans (hI2.trans hI3), hw.drop, ?_⟩); cases t3 with | true => exact .inl (by rw [hrem, remN_end ha0 (by omega) hab]; simpa using hP3) | false => exact .inr ⟨_, hpre2, hP3⟩)
     | (refine at_norm (at_ret0 rfl (fun w hw => ⟨_, I2, H2, rfl, hI1.trans hI2, hw.drop, ?_⟩)); by_cases ha0 : a = 0; (obtain ⟨e1, e2⟩ := hno (by simp [conj, ha0]); subst e1; subst e2; subst ha0; exact .inl (by rw [hrem, remN_zero, List.append_nil]; exact hJk)); (have ht : t = false := (by simp [ha0] at hc10; exact hc10); subst ht; exact .inr ⟨_, rem_pre hrem ha0, hyes (by simp [conj]; exact ha0)⟩))
    have hab : a % b ≠ 0 := by have h := hc17; simp only [beq_eq_false_iff_ne, ne_eq] at h; omega
    refine X_skip ?_
    refine at_block_n ?_
    exact at_metH2 rfl rfl rfl _ (remL 118 b1 b2 (b) (((a % b : Nat) : Int))) ⟨a % b, Nat.mod_lt _ hbp, b, a % b, pre ++ [a], rfl, rfl, rfl, hI1.trans hI2, hJ1, by rw [hrem, remN_step ha0 (by omega) hab, List.append_assoc]; rfl, by omega, by omega, by have := Nat.mod_lt a hbp; omega⟩ (.cons rfl (.cons rfl (.cons rfl .nil))) .refl
   refine zV (ev_max rfl rfl) ?_
   refine XO_nil ?_
   refine zD hD ?_
   refine XD_two 0 4 rfl rfl (by kernel_rfl) ?_ ?_
   ·
    refine zL sct_118 ?_
    refine XO_nil ?_
    refine zD hD ?_
    refine XD_two 4 5 rfl rfl (by kernel_rfl) ?_ ?_
    ·
     refine zV (ev_rem rfl rfl (fun hg => by rw [maxI_one hbp]; omega)) ?_
     refine XO_nil ?_
     refine zD hD ?_
     refine XD_one 5 rfl (by kernel_rfl) ?_
     refine zS szt_118 ?_
     refine XO_nil ?_
     refine zD hD ?_
     refine XD_one 6 rfl (by kernel_rfl) ?_
     refine zS szt_118 ?_
     refine XO_nil ?_
     refine zD hD ?_
     refine XD_done (by kernel_rfl) ?_
     refine at_noP ?_
     rw [show ((a : Int)).tmod (maxI (b : Int) 1) = ((a % b : Nat) : Int) by rw [maxI_one hbp, tmod_nat]]
     refine at_then ?_
     refine zR ?_
     refine zL sct_118 ?_
     refine zC ?_
     refine zN ?_
     refine zI ?_ ?_ <;> intro hc17
     ·
      have hab : a % b = 0 := by have h := hc17; simp only [beq_iff_eq] at h; omega
      have hpre2 : (pre ++ [a]) ++ [b] <+: remN a0 b0 := by rw [hrem, remN_end ha0 (by omega) hab, List.append_assoc]; exact List.prefix_rfl
      refine zR ?_
      refine zM ?_
      refine zL sct_118 ?_
      refine XO_yield0 (vs := [_]) (Post := fun t I3 H3 => if t then J ((pre ++ [a]) ++ [b]) I3 H3 else Jx ((pre ++ [a]) ++ [b]) I3 H3) rfl rfl rfl rfl (hY (pre ++ [a]) b _ _ hpre2 (hI0.trans hI2) hJ1) ?_
      rintro t3 I3 H3 hI3 hP3
      refine zN ?_
      refine X_ret ?_
      refine at_block_r ?_
      refine at_then_r ?_
      refine at_block_r ?_
      first
      | (refine at_ret0 rfl (fun w hw => ⟨_, I3, H3, rfl, hI1.trans (hI2.trans hI3), hw.drop, ?_⟩); cases t3 with | true => exact .inl (by rw [hrem, remN_end ha0 (by omega) hab]; simpa using hP3) | false => exact .inr ⟨_, hpre2, hP3⟩)
      | (refine at_norm (at_ret0 rfl (fun w hw => ⟨_, I2, H2, rfl, hI1.trans hI2, hw.drop, ?_⟩)); by_cases ha0 : a = 0; (obtain ⟨e1, e2⟩ := hno (by simp [conj, ha0]); subst e1; subst e2; subst ha0; exact .inl (by rw [hrem, remN_zero, List.append_nil]; exact hJk)); (have ht : t = false := (by simp [ha0] at hc10; exact hc10); subst ht; exact .inr ⟨_, rem_pre hrem ha0, hyes (by simp [conj]; exact ha0)⟩))
     have hab : a % b ≠ 0 := by have h := hc17; simp only [beq_eq_false_iff_ne, ne_eq] at h; omega
     refine X_skip ?_
     refine at_block_n ?_
     exact at_metH2 rfl rfl rfl _ (remL 118 b1 b2 (b) (((a % b : Nat) : Int))) ⟨a % b, Nat.mod_lt _ hbp, b, a % b, pre ++ [a], rfl, rfl, rfl, hI1.trans hI2, hJ1, by rw [hrem, remN_step ha0 (by omega) hab, List.append_assoc]; rfl, by omega, by omega, by have := Nat.mod_lt a hbp; omega⟩ (.cons rfl (.cons rfl (.cons rfl .nil))) .refl
    refine zS szt_118 ?_
    refine XO_nil ?_
    refine zD hD ?_
    refine XD_one 4 rfl (by kernel_rfl) ?_
    refine zV (ev_rem rfl rfl (fun hg => by rw [maxI_one hbp]; omega)) ?_
    refine XO_nil ?_
    refine zD hD ?_
    refine XD_one 6 rfl (by kernel_rfl) ?_
    refine zS szt_118 ?_
    refine XO_nil ?_
    refine zD hD ?_
    refine XD_done (by kernel_rfl) ?_
    refine at_noP ?_
    rw [show ((a : Int)).tmod (maxI (b : Int) 1) = ((a % b : Nat) : Int) by rw [maxI_one hbp, tmod_nat]]
    refine at_then ?_
    refine zR ?_
    refine zL sct_118 ?_
    refine zC ?_
    refine zN ?_
    refine zI ?_ ?_ <;> intro hc17
    ·
     have hab : a % b = 0 := by have h := hc17; simp only [beq_iff_eq] at h; omega
     have hpre2 : (pre ++ [a]) ++ [b] <+: remN a0 b0 := by rw [hrem, remN_end ha0 (by omega) hab, List.append_assoc]; exact List.prefix_rfl
     refine zR ?_
     refine zM ?_
     refine zL sct_118 ?_
     refine XO_yield0 (vs := [_]) (Post := fun t I3 H3 => if t then J ((pre ++ [a]) ++ [b]) I3 H3 else Jx ((pre ++ [a]) ++ [b]) I3 H3) rfl rfl rfl rfl (hY (pre ++ [a]) b _ _ hpre2 (hI0.trans hI2) hJ1) ?_
     rintro t3 I3 H3 hI3 hP3
     refine zN ?_
     refine X_ret ?_
     refine at_block_r ?_
     refine at_then_r ?_
     refine at_block_r ?_
     first
     | (refine at_ret0 rfl (fun w hw => ⟨_, I3, H3, rfl, hI1.trans (hI2.trans hI3), hw.drop, ?_⟩); cases t3 with | true => exact .inl (by rw [hrem, remN_end ha0 (by omega) hab]; simpa using hP3) | false => exact .inr ⟨_, hpre2, hP3⟩)
     | (refine at_norm (at_ret0 rfl (fun w hw => ⟨_, I2, H2, rfl, hI1.trans hI2, hw.drop, ?_⟩)); by_cases ha0 : a = 0; (obtain ⟨e1, e2⟩ := hno (by simp [conj, ha0]); subst e1; subst e2; subst ha0; exact .inl (by rw [hrem, remN_zero, List.append_nil]; exact hJk)); (have ht : t = false := (by simp [ha0] at hc10; exact hc10); subst ht; exact .inr ⟨_, rem_pre hrem ha0, hyes (by simp [conj]; exact ha0)⟩))
    have hab : a % b ≠ 0 := by have h := hc17; simp only [beq_eq_false_iff_ne, ne_eq] at h; omega
    refine X_skip ?_
    refine at_block_n ?_
    exact at_metH2 rfl rfl rfl _ (remL 118 b1 b2 (b) (((a % b : Nat) : Int))) ⟨a % b, Nat.mod_lt _ hbp, b, a % b, pre ++ [a], rfl, rfl, rfl, hI1.trans hI2, hJ1, by rw [hrem, remN_step ha0 (by omega) hab, List.append_assoc]; rfl, by omega, by omega, by have := Nat.mod_lt a hbp; omega⟩ (.cons rfl (.cons rfl (.cons rfl .nil))) .refl
   refine zV (ev_rem rfl rfl (fun hg => by rw [maxI_one hbp]; omega)) ?_
   refine XO_nil ?_
   refine zD hD ?_
   refine XD_one 0 rfl (by kernel_rfl) ?_
   refine zL sct_118 ?_
   refine XO_nil ?_
   refine zD hD ?_
   refine XD_one 5 rfl (by kernel_rfl) ?_
   refine zS szt_118 ?_
   refine XO_nil ?_
   refine zD hD ?_
   refine XD_one 6 rfl (by kernel_rfl) ?_
   refine zS szt_118 ?_
   refine XO_nil ?_
   refine zD hD ?_
   refine XD_done (by kernel_rfl) ?_
   refine at_noP ?_
   rw [show ((a : Int)).tmod (maxI (b : Int) 1) = ((a % b : Nat) : Int) by rw [maxI_one hbp, tmod_nat]]
   refine at_then ?_
   refine zR ?_
   refine zL sct_118 ?_
   refine zC ?_
   refine zN ?_
   refine zI ?_ ?_ <;> intro hc17
   ·
    have hab : a % b = 0 := by have h := hc17; simp only [beq_iff_eq] at h; omega
    have hpre2 : (pre ++ [a]) ++ [b] <+: remN a0 b0 := by rw [hrem, remN_end ha0 (by omega) hab, List.append_assoc]; exact List.prefix_rfl
    refine zR ?_
    refine zM ?_
    refine zL sct_118 ?_
    refine XO_yield0 (vs := [_]) (Post := fun t I3 H3 => if t then J ((pre ++ [a]) ++ [b]) I3 H3 else Jx ((pre ++ [a]) ++ [b]) I3 H3) rfl rfl rfl rfl (hY (pre ++ [a]) b _ _ hpre2 (hI0.trans hI2) hJ1) ?_
    rintro t3 I3 H3 hI3 hP3
    refine zN ?_
    refine X_ret ?_
    refine at_block_r ?_
    refine at_then_r ?_
    refine at_block_r ?_
    first
    | (refine at_ret0 rfl (fun w hw => ⟨_, I3, H3, rfl, hI1.trans (hI2.trans hI3), hw.drop, ?_⟩); cases t3 with | true => exact .inl (by rw [hrem, remN_end ha0 (by omega) hab]; simpa using hP3) | false => exact .inr ⟨_, hpre2, hP3⟩)
    | (refine at_norm (at_ret0 rfl (fun w hw => ⟨_, I2, H2, rfl, hI1.trans hI2, hw.drop, ?_⟩)); by_cases ha0 : a = 0; (obtain ⟨e1, e2⟩ := hno (by simp [conj, ha0]); subst e1; subst e2; subst ha0; exact .inl (by rw [hrem, remN_zero, List.append_nil]; exact hJk)); (have ht : t = false := (by simp [ha0] at hc10; exact hc10); subst ht; exact .inr ⟨_, rem_pre hrem ha0, hyes (by simp [conj]; exact ha0)⟩))
   have hab : a % b ≠ 0 := by have h := hc17; simp only [beq_eq_false_iff_ne, ne_eq] at h; omega
   refine X_skip ?_
   refine at_block_n ?_
   exact at_metH2 rfl rfl rfl _ (remL 118 b1 b2 (b) (((a % b : Nat) : Int))) ⟨a % b, Nat.mod_lt _ hbp, b, a % b, pre ++ [a], rfl, rfl, rfl, hI1.trans hI2, hJ1, by rw [hrem, remN_step ha0 (by omega) hab, List.append_assoc]; rfl, by omega, by omega, by have := Nat.mod_lt a hbp; omega⟩ (.cons rfl (.cons rfl (.cons rfl .nil))) .refl
  refine zL sct_118 ?_
  refine XO_nil ?_
  refine zD hD ?_
  refine XD_three 0 1 3 rfl rfl rfl (by kernel_rfl) ?_ ?_ ?_
  ·
   refine zL sct_118 ?_
   refine XO_nil ?_
   refine zD hD ?_
   refine XD_two 1 3 rfl rfl (by kernel_rfl) ?_ ?_
   ·
    refine zL sct_118 ?_
    refine XO_nil ?_
    refine zD hD ?_
    refine XD_two 3 5 rfl rfl (by kernel_rfl) ?_ ?_
    ·
     refine zV (ev_max rfl rfl) ?_
     refine XO_nil ?_
     refine zD hD ?_
     refine XD_two 4 5 rfl rfl (by kernel_rfl) ?_ ?_
     ·
      refine zV (ev_rem rfl rfl (fun hg => by rw [maxI_one hbp]; omega)) ?_
      refine XO_nil ?_
      refine zD hD ?_
      refine XD_one 5 rfl (by kernel_rfl) ?_
      refine zS szt_118 ?_
      refine XO_nil ?_
      refine zD hD ?_
      refine XD_one 6 rfl (by kernel_rfl) ?_
      refine zS szt_118 ?_
      refine XO_nil ?_
      refine zD hD ?_
      refine XD_done (by kernel_rfl) ?_
      refine at_noP ?_
      rw [show ((a : Int)).tmod (maxI (b : Int) 1) = ((a % b : Nat) : Int) by rw [maxI_one hbp, tmod_nat]]
      refine at_then ?_
      refine zR ?_
      refine zL sct_118 ?_
      refine zC ?_
      refine zN ?_
      refine zI ?_ ?_ <;> intro hc17
      ·
       have hab : a % b = 0 := by have h := hc17; simp only [beq_iff_eq] at h; omega
       have hpre2 : (pre ++ [a]) ++ [b] <+: remN a0 b0 := by rw [hrem, remN_end ha0 (by omega) hab, List.append_assoc]; exact List.prefix_rfl
       refine zR ?_
       refine zM ?_
       refine zL sct_118 ?_
       refine XO_yield0 (vs := [_]) (Post := fun t I3 H3 => if t then J ((pre ++ [a]) ++ [b]) I3 H3 else Jx ((pre ++ [a]) ++ [b]) I3 H3) rfl rfl rfl rfl (hY (pre ++ [a]) b _ _ hpre2 (hI0.trans hI2) hJ1) ?_
       rintro t3 I3 H3 hI3 hP3
       refine zN ?_
       refine X_ret ?_
       refine at_block_r ?_
       refine at_then_r ?_
       refine at_block_r ?_
       first
       | (refine at_ret0 rfl (fun w hw => ⟨_, I3, H3, rfl, hI1.trans (hI2.trans hI3), hw.drop, ?_⟩); cases t3 with | true => exact .inl (by rw [hrem, remN_end ha0 (by omega) hab]; simpa using hP3) | false => exact .inr ⟨_, hpre2, hP3⟩)
       | (refine at_norm (at_ret0 rfl (fun w hw => ⟨_, I2, H2, rfl, hI1.trans hI2, hw.drop, ?_⟩)); by_cases ha0 : a = 0; (obtain ⟨e1, e2⟩ := hno (by simp [conj, ha0]); subst e1; subst e2; subst ha0; exact .inl (by rw [hrem, remN_zero, List.append_nil]; exact hJk)); (have ht : t = false := (by simp [ha0] at hc10; exact hc10); subst ht; exact .inr ⟨_, rem_pre hrem ha0, hyes (by simp [conj]; exact ha0)⟩))
      have hab : a % b ≠ 0 := by have h := hc17; simp only [beq_eq_false_iff_ne, ne_eq] at h; omega
      refine X_skip ?_
      refine at_block_n ?_
      exact at_metH2 rfl rfl rfl _ (remL 118 b1 b2 (b) (((a % b : Nat) : Int))) ⟨a % b, Nat.mod_lt _ hbp, b, a % b, pre ++ [a], rfl, rfl, rfl, hI1.trans hI2, hJ1, by rw [hrem, remN_step ha0 (by omega) hab, List.append_assoc]; rfl, by omega, by omega, by have := Nat.mod_lt a hbp; omega⟩ (.cons rfl (.cons rfl (.cons rfl .nil))) .refl
     refine zS szt_118 ?_
     refine XO_nil ?_
     refine zD hD ?_
     refine XD_one 4 rfl (by kernel_rfl) ?_
     refine zV (ev_rem rfl rfl (fun hg => by rw [maxI_one hbp]; omega)) ?_
     refine XO_nil ?_
     refine zD hD ?_
     refine XD_one 6 rfl (by kernel_rfl) ?_
     refine zS szt_118 ?_
     refine XO_nil ?_
     refine zD hD ?_
     refine XD_done (by kernel_rfl) ?_
     refine at_noP ?_
     rw [show ((a : Int)).tmod (maxI (b : Int) 1) = ((a % b : Nat) : Int) by rw [maxI_one hbp, tmod_nat]]
     refine at_then ?_
     refine zR ?_
     refine zL sct_118 ?_
     refine zC ?_
     refine zN ?_
     refine zI ?_ ?_ <;> intro hc17
     ·
      have hab : a % b = 0 := by have h := hc17; simp only [beq_iff_eq] at h; omega
      have hpre2 : (pre ++ [a]) ++ [b] <+: remN a0 b0 := by rw [hrem, remN_end ha0 (by omega) hab, List.append_assoc]; exact List.prefix_rfl
      refine zR ?_
      refine zM ?_
      refine zL sct_118 ?_
      refine XO_yield0 (vs := [_]) (Post := fun t I3 H3 => if t then J ((pre ++ [a]) ++ [b]) I3 H3 else Jx ((pre ++ [a]) ++ [b]) I3 H3) rfl rfl rfl rfl (hY (pre ++ [a]) b _ _ hpre2 (hI0.trans hI2) hJ1) ?_
      rintro t3 I3 H3 hI3 hP3
      refine zN ?_
      refine X_ret ?_
      refine at_block_r ?_
      refine at_then_r ?_
      refine at_block_r ?_
      first
      | (refine at_ret0 rfl (fun w hw => ⟨_, I3, H3, rfl, hI1.trans (hI2.trans hI3), hw.drop, ?_⟩); cases t3 with | true => exact .inl (by rw [hrem, remN_end ha0 (by omega) hab]; simpa using hP3) | false => exact .inr ⟨_, hpre2, hP3⟩)
      | (refine at_norm (at_ret0 rfl (fun w hw => ⟨_, I2, H2, rfl, hI1.trans hI2, hw.drop, ?_⟩)); by_cases ha0 : a = 0; (obtain ⟨e1, e2⟩ := hno (by simp [conj, ha0]); subst e1; subst e2; subst ha0; exact .inl (by rw [hrem, remN_zero, List.append_nil]; exact hJk)); (have ht : t = false := (by simp [ha0] at hc10; exact hc10); subst ht; exact .inr ⟨_, rem_pre hrem ha0, hyes (by simp [conj]; exact ha0)⟩))
     have hab : a % b ≠ 0 := by have h := hc17; simp only [beq_eq_false_iff_ne, ne_eq] at h; omega
     refine X_skip ?_
     refine at_block_n ?_
     exact at_metH2 rfl rfl rfl _ (remL 118 b1 b2 (b) (((a % b : Nat) : Int))) ⟨a % b, Nat.mod_lt _ hbp, b, a % b, pre ++ [a], rfl, rfl, rfl, hI1.trans hI2, hJ1, by rw [hrem, remN_step ha0 (by omega) hab, List.append_assoc]; rfl, by omega, by omega, by have := Nat.mod_lt a hbp; omega⟩ (.cons rfl (.cons rfl (.cons rfl .nil))) .refl
    refine zS szt_118 ?_
    refine XO_nil ?_
    refine zD hD ?_
    refine XD_one 3 rfl (by kernel_rfl) ?_
    refine zV (ev_max rfl rfl) ?_
    refine XO_nil ?_
    refine zD hD ?_
    refine XD_one 4 rfl (by kernel_rfl) ?_
    refine zV (ev_rem rfl rfl (fun hg => by rw [maxI_one hbp]; omega)) ?_
    refine XO_nil ?_
    refine zD hD ?_
    refine XD_one 6 rfl (by kernel_rfl) ?_
    refine zS szt_118 ?_
    refine XO_nil ?_
    refine zD hD ?_
    refine XD_done (by kernel_rfl) ?_
    refine at_noP ?_
    rw [show ((a : Int)).tmod (maxI (b : Int) 1) = ((a % b : Nat) : Int) by rw [maxI_one hbp, tmod_nat]]
    refine at_then ?_
    refine zR ?_
    refine zL sct_118 ?_
    refine zC ?_
    refine zN ?_
    refine zI ?_ ?_ <;> intro hc17
    ·
     have hab : a % b = 0 := by have h := hc17; simp only [beq_iff_eq] at h; omega
     have hpre2 : (pre ++ [a]) ++ [b] <+: remN a0 b0 := by rw [hrem, remN_end ha0 (by omega) hab, List.append_assoc]; exact List.prefix_rfl
     refine zR ?_
     refine zM ?_
     refine zL sct_118 ?_
     refine XO_yield0 (vs := [_]) (Post := fun t I3 H3 => if t then J ((pre ++ [a]) ++ [b]) I3 H3 else Jx ((pre ++ [a]) ++ [b]) I3 H3) rfl rfl rfl rfl (hY (pre ++ [a]) b _ _ hpre2 (hI0.trans hI2) hJ1) ?_
     rintro t3 I3 H3 hI3 hP3
     refine zN ?_
     refine X_ret ?_
     refine at_block_r ?_
     refine at_then_r ?_
     refine at_block_r ?_
     first
     | (refine at_ret0 rfl (fun w hw => ⟨_, I3, H3, rfl, hI1.trans (hI2.trans hI3), hw.drop, ?_⟩); cases t3 with | true => exact .inl (by rw [hrem, remN_end ha0 (by omega) hab]; simpa using hP3) | false => exact .inr ⟨_, hpre2, hP3⟩)
     | (refine at_norm (at_ret0 rfl (fun w hw => ⟨_, I2, H2, rfl, hI1.trans hI2, hw.drop, ?_⟩)); by_cases ha0 : a = 0; (obtain ⟨e1, e2⟩ := hno (by simp [conj, ha0]); subst e1; subst e2; subst ha0; exact .inl (by rw [hrem, remN_zero, List.append_nil]; exact hJk)); (have ht : t = false := (by simp [ha0] at hc10; exact hc10); subst ht; exact .inr ⟨_, rem_pre hrem ha0, hyes (by simp [conj]; exact ha0)⟩))
    have hab : a % b ≠ 0 := by have h := hc17; simp only [beq_eq_false_iff_ne, ne_eq] at h; omega
    refine X_skip ?_
    refine at_block_n ?_
    exact at_metH2 rfl rfl rfl _ (remL 118 b1 b2 (b) (((a % b : Nat) : Int))) ⟨a % b, Nat.mod_lt _ hbp, b, a % b, pre ++ [a], rfl, rfl, rfl, hI1.trans hI2, hJ1, by rw [hrem, remN_step ha0 (by omega) hab, List.append_assoc]; rfl, by omega, by omega, by have := Nat.mod_lt a hbp; omega⟩ (.cons rfl (.cons rfl (.cons rfl .nil))) .refl
   refine zV (ev_max rfl rfl) ?_
   refine XO_nil ?_
   refine zD hD ?_
   refine XD_one 1 rfl (by kernel_rfl) ?_
   refine zL sct_118 ?_
   refine XO_nil ?_
   refine zD hD ?_
   refine XD_two 4 5 rfl rfl (by kernel_rfl) ?_ ?_
   ·
    refine zV (ev_rem rfl rfl (fun hg => by rw [maxI_one hbp]; omega)) ?_
    refine XO_nil ?_
    refine zD hD ?_
    refine XD_one 5 rfl (by kernel_rfl) ?_
    refine zS szt_118 ?_
    refine XO_nil ?_
    refine zD hD ?_
    refine XD_one 6 rfl (by kernel_rfl) ?_
    refine zS szt_118 ?_
    refine XO_nil ?_
    refine zD hD ?_
    refine XD_done (by kernel_rfl) ?_
    refine at_noP ?_
    rw [show ((a : Int)).tmod (maxI (b : Int) 1) = ((a % b : Nat) : Int) by rw [maxI_one hbp, tmod_nat]]
    refine at_then ?_
    refine zR ?_
    refine zL sct_118 ?_
    refine zC ?_
    refine zN ?_
    refine zI ?_ ?_ <;> intro hc17
    ·
     have hab : a % b = 0 := by have h := hc17; simp only [beq_iff_eq] at h; omega
     have hpre2 : (pre ++ [a]) ++ [b] <+: remN a0 b0 := by rw [hrem, remN_end ha0 (by omega) hab, List.append_assoc]; exact List.prefix_rfl
     refine zR ?_
     refine zM ?_
     refine zL sct_118 ?_
     refine XO_yield0 (vs := [_]) (Post := fun t I3 H3 => if t then J ((pre ++ [a]) ++ [b]) I3 H3 else Jx ((pre ++ [a]) ++ [b]) I3 H3) rfl rfl rfl rfl (hY (pre ++ [a]) b _ _ hpre2 (hI0.trans hI2) hJ1) ?_
     rintro t3 I3 H3 hI3 hP3
     refine zN ?_
     refine X_ret ?_
     refine at_block_r ?_
     refine at_then_r ?_
     refine at_block_r ?_
     first
     | (refine at_ret0 rfl (fun w hw => ⟨_, I3, H3, rfl, hI1.trans (hI2.trans hI3), hw.drop, ?_⟩); cases t3 with | true => exact .inl (by rw [hrem, remN_end ha0 (by omega) hab]; simpa using hP3) | false => exact .inr ⟨_, hpre2, hP3⟩)
     | (refine at_norm (at_ret0 rfl (fun w hw => ⟨_, I2, H2, rfl, hI1.trans hI2, hw.drop, ?_⟩)); by_cases ha0 : a = 0; (obtain ⟨e1, e2⟩ := hno (by simp [conj, ha0]); subst e1; subst e2; subst ha0; exact .inl (by rw [hrem, remN_zero, List.append_nil]; exact hJk)); (have ht : t = false := (by simp [ha0] at hc10; exact hc10); subst ht; exact .inr ⟨_, rem_pre hrem ha0, hyes (by simp [conj]; exact ha0)⟩))
    have hab : a % b ≠ 0 := by have h := hc17; simp only [beq_eq_false_iff_ne, ne_eq] at h; omega
    refine X_skip ?_
    refine at_block_n ?_
    exact at_metH2 rfl rfl rfl _ (remL 118 b1 b2 (b) (((a % b : Nat) : Int))) ⟨a % b, Nat.mod_lt _ hbp, b, a % b, pre ++ [a], rfl, rfl, rfl, hI1.trans hI2, hJ1, by rw [hrem, remN_step ha0 (by omega) hab, List.append_assoc]; rfl, by omega, by omega, by have := Nat.mod_lt a hbp; omega⟩ (.cons rfl (.cons rfl (.cons rfl .nil))) .refl
   refine zS szt_118 ?_
   refine XO_nil ?_
   refine zD hD ?_
   refine XD_one 4 rfl (by kernel_rfl) ?_
   refine zV (ev_rem rfl rfl (fun hg => by rw [maxI_one hbp]; omega)) ?_
   refine XO_nil ?_
   refine zD hD ?_
   refine XD_one 6 rfl (by kernel_rfl) ?_
   refine zS szt_118 ?_
   refine XO_nil ?_
   refine zD hD ?_
   refine XD_done (by kernel_rfl) ?_
   refine at_noP ?_
   rw [show ((a : Int)).tmod (maxI (b : Int) 1) = ((a % b : Nat) : Int) by rw [maxI_one hbp, tmod_nat]]
   refine at_then ?_
   refine zR ?_
   refine zL sct_118 ?_
   refine zC ?_
   refine zN ?_
   refine zI ?_ ?_ <;> intro hc17
   ·
    have hab : a % b = 0 := by have h := hc17; simp only [beq_iff_eq] at h; omega
    have hpre2 : (pre ++ [a]) ++ [b] <+: remN a0 b0 := by rw [hrem, remN_end ha0 (by omega) hab, List.append_assoc]; exact List.prefix_rfl
    refine zR ?_
    refine zM ?_
    refine zL sct_118 ?_
    refine XO_yield0 (vs := [_]) (Post := fun t I3 H3 => if t then J ((pre ++ [a]) ++ [b]) I3 H3 else Jx ((pre ++ [a]) ++ [b]) I3 H3) rfl rfl rfl rfl (hY (pre ++ [a]) b _ _ hpre2 (hI0.trans hI2) hJ1) ?_
    rintro t3 I3 H3 hI3 hP3
    refine zN ?_
    refine X_ret ?_
    refine at_block_r ?_
    refine at_then_r ?_
    refine at_block_r ?_
    first
    | (refine at_ret0 rfl (fun w hw => ⟨_, I3, H3, rfl, hI1.trans (hI2.trans hI3), hw.drop, ?_⟩); cases t3 with | true => exact .inl (by rw [hrem, remN_end ha0 (by omega) hab]; simpa using hP3) | false => exact .inr ⟨_, hpre2, hP3⟩)
    | (refine at_norm (at_ret0 rfl (fun w hw => ⟨_, I2, H2, rfl, hI1.trans hI2, hw.drop, ?_⟩)); by_cases ha0 : a = 0; (obtain ⟨e1, e2⟩ := hno (by simp [conj, ha0]); subst e1; subst e2; subst ha0; exact .inl (by rw [hrem, remN_zero, List.append_nil]; exact hJk)); (have ht : t = false := (by simp [ha0] at hc10; exact hc10); subst ht; exact .inr ⟨_, rem_pre hrem ha0, hyes (by simp [conj]; exact ha0)⟩))
   have hab : a % b ≠ 0 := by have h := hc17; simp only [beq_eq_false_iff_ne, ne_eq] at h; omega
   refine X_skip ?_
   refine at_block_n ?_
   exact at_metH2 rfl rfl rfl _ (remL 118 b1 b2 (b) (((a % b : Nat) : Int))) ⟨a % b, Nat.mod_lt _ hbp, b, a % b, pre ++ [a], rfl, rfl, rfl, hI1.trans hI2, hJ1, by rw [hrem, remN_step ha0 (by omega) hab, List.append_assoc]; rfl, by omega, by omega, by have := Nat.mod_lt a hbp; omega⟩ (.cons rfl (.cons rfl (.cons rfl .nil))) .refl
  ·
   refine zL sct_118 ?_
   refine XO_nil ?_
   refine zD hD ?_
   refine XD_two 0 3 rfl rfl (by kernel_rfl) ?_ ?_
   ·
    refine zL sct_118 ?_
    refine XO_nil ?_
    refine zD hD ?_
    refine XD_two 3 5 rfl rfl (by kernel_rfl) ?_ ?_
    ·
     refine zV (ev_max rfl rfl) ?_
     refine XO_nil ?_
     refine zD hD ?_
     refine XD_two 4 5 rfl rfl (by kernel_rfl) ?_ ?_
     ·
      refine zV (ev_rem rfl rfl (fun hg => by rw [maxI_one hbp]; omega)) ?_
      refine XO_nil ?_
      refine zD hD ?_
      refine XD_one 5 rfl (by kernel_rfl) ?_
      refine zS szt_118 ?_
      refine XO_nil ?_
      refine zD hD ?_
      refine XD_one 6 rfl (by kernel_rfl) ?_
      refine zS szt_118 ?_
      refine XO_nil ?_
      refine zD hD ?_
      refine XD_done (by kernel_rfl) ?_
      refine at_noP ?_
      rw [show ((a : Int)).tmod (maxI (b : Int) 1) = ((a % b : Nat) : Int) by rw [maxI_one hbp, tmod_nat]]
      refine at_then ?_
      refine zR ?_
      refine zL sct_118 ?_
      refine zC ?_
      refine zN ?_
      refine zI ?_ ?_ <;> intro hc17
      ·
       have hab : a % b = 0 := by have h := hc17; simp only [beq_iff_eq] at h; omega
       have hpre2 : (pre ++ [a]) ++ [b] <+: remN a0 b0 := by rw [hrem, remN_end ha0 (by omega) hab, List.append_assoc]; exact List.prefix_rfl
       refine zR ?_
       refine zM ?_
       refine zL sct_118 ?_
       refine XO_yield0 (vs := [_]) (Post := fun t I3 H3 => if t then J ((pre ++ [a]) ++ [b]) I3 H3 else Jx ((pre ++ [a]) ++ [b]) I3 H3) rfl rfl rfl rfl (hY (pre ++ [a]) b _ _ hpre2 (hI0.trans hI2) hJ1) ?_
       rintro t3 I3 H3 hI3 hP3
       refine zN ?_
       refine X_ret ?_
       refine at_block_r ?_
       refine at_then_r ?_
       refine at_block_r ?_
       first
       | (refine at_ret0 rfl (fun w hw => ⟨_, I3, H3, rfl, hI1.trans (hI2.trans hI3), hw.drop, ?_⟩); cases t3 with | true => exact .inl (by rw [hrem, remN_end ha0 (by omega) hab]; simpa using hP3) | false => exact .inr ⟨_, hpre2, hP3⟩)
       | (refine at_norm (at_ret0 rfl (fun w hw => ⟨_, I2, H2, rfl, hI1.trans hI2, hw.drop, ?_⟩)); by_cases ha0 : a = 0; (obtain ⟨e1, e2⟩ := hno (by simp [conj, ha0]); subst e1; subst e2; subst ha0; exact .inl (by rw [hrem, remN_zero, List.append_nil]; exact hJk)); (have ht : t = false := (by simp [ha0] at hc10; exact hc10); subst ht; exact .inr ⟨_, rem_pre hrem ha0, hyes (by simp [conj]; exact ha0)⟩))
      have hab : a % b ≠ 0 := by have h := hc17; simp only [beq_eq_false_iff_ne, ne_eq] at h; omega
      refine X_skip ?_
      refine at_block_n ?_
      exact at_metH2 rfl rfl rfl _ (remL 118 b1 b2 (b) (((a % b : Nat) : Int))) ⟨a % b, Nat.mod_lt _ hbp, b, a % b, pre ++ [a], rfl, rfl, rfl, hI1.trans hI2, hJ1, by rw [hrem, remN_step ha0 (by omega) hab, List.append_assoc]; rfl, by omega, by omega, by have := Nat.mod_lt a hbp; omega⟩ (.cons rfl (.cons rfl (.cons rfl .nil))) .refl
     refine zS szt_118 ?_
     refine XO_nil ?_
     refine zD hD ?_
     refine XD_one 4 rfl (by kernel_rfl) ?_
     refine zV (ev_rem rfl rfl (fun hg => by rw [maxI_one hbp]; omega)) ?_
     refine XO_nil ?_
     refine zD hD ?_
     refine XD_one 6 rfl (by kernel_rfl) ?_
     refine zS szt_118 ?_
     refine XO_nil ?_
     refine zD hD ?_
     refine XD_done (by kernel_rfl) ?_
     refine at_noP ?_
     rw [show ((a : Int)).tmod (maxI (b : Int) 1) = ((a % b : Nat) : Int) by rw [maxI_one hbp, tmod_nat]]
     refine at_then ?_
     refine zR ?_
     refine zL sct_118 ?_
     refine zC ?_
     refine zN ?_
     refine zI ?_ ?_ <;> intro hc17
     ·
      have hab : a % b = 0 := by have h := hc17; simp only [beq_iff_eq] at h; omega
      have hpre2 : (pre ++ [a]) ++ [b] <+: remN a0 b0 := by rw [hrem, remN_end ha0 (by omega) hab, List.append_assoc]; exact List.prefix_rfl
      refine zR ?_
      refine zM ?_
      refine zL sct_118 ?_
      refine XO_yield0 (vs := [_]) (Post := fun t I3 H3 => if t then J ((pre ++ [a]) ++ [b]) I3 H3 else Jx ((pre ++ [a]) ++ [b]) I3 H3) rfl rfl rfl rfl (hY (pre ++ [a]) b _ _ hpre2 (hI0.trans hI2) hJ1) ?_
      rintro t3 I3 H3 hI3 hP3
      refine zN ?_
      refine X_ret ?_
      refine at_block_r ?_
      refine at_then_r ?_
      refine at_block_r ?_
      first
      | (refine at_ret0 rfl (fun w hw => ⟨_, I3, H3, rfl, hI1.trans (hI2.trans hI3), hw.drop, ?_⟩); cases t3 with | true => exact .inl (by rw [hrem, remN_end ha0 (by omega) hab]; simpa using hP3) | false => exact .inr ⟨_, hpre2, hP3⟩)
      | (refine at_norm (at_ret0 rfl (fun w hw => ⟨_, I2, H2, rfl, hI1.trans hI2, hw.drop, ?_⟩)); by_cases ha0 : a = 0; (obtain ⟨e1, e2⟩ := hno (by simp [conj, ha0]); subst e1; subst e2; subst ha0; exact .inl (by rw [hrem, remN_zero, List.append_nil]; exact hJk)); (have ht : t = false := (by simp [ha0] at hc10; exact hc10); subst ht; exact .inr ⟨_, rem_pre hrem ha0, hyes (by simp [conj]; exact ha0)⟩))
     have hab : a % b ≠ 0 := by have h := hc17; simp only [beq_eq_false_iff_ne, ne_eq] at h; omega
     refine X_skip ?_
     refine at_block_n ?_
     exact at_metH2 rfl rfl rfl _ (remL 118 b1 b2 (b) (((a % b : Nat) : Int))) ⟨a % b, Nat.mod_lt _ hbp, b, a % b, pre ++ [a], rfl, rfl, rfl, hI1.trans hI2, hJ1, by rw [hrem, remN_step ha0 (by omega) hab, List.append_assoc]; rfl, by omega, by omega, by have := Nat.mod_lt a hbp; omega⟩ (.cons rfl (.cons rfl (.cons rfl .nil))) .refl
    refine zS szt_118 ?_
    refine XO_nil ?_
    refine zD hD ?_
    refine XD_one 3 rfl (by kernel_rfl) ?_
    refine zV (ev_max rfl rfl) ?_
    refine XO_nil ?_
    refine zD hD ?_
    refine XD_one 4 rfl (by kernel_rfl) ?_
    refine zV (ev_rem rfl rfl (fun hg => by rw [maxI_one hbp]; omega)) ?_
    refine XO_nil ?_
    refine zD hD ?_
    refine XD_one 6 rfl (by kernel_rfl) ?_
    refine zS szt_118 ?_
    refine XO_nil ?_
    refine zD hD ?_
    refine XD_done (by kernel_rfl) ?_
    refine at_noP ?_
    rw [show ((a : Int)).tmod (maxI (b : Int) 1) = ((a % b : Nat) : Int) by rw [maxI_one hbp, tmod_nat]]
    refine at_then ?_
    refine zR ?_
    refine zL sct_118 ?_
    refine zC ?_
    refine zN ?_
    refine zI ?_ ?_ <;> intro hc17
    ·
     have hab : a % b = 0 := by have h := hc17; simp only [beq_iff_eq] at h; omega
     have hpre2 : (pre ++ [a]) ++ [b] <+: remN a0 b0 := by rw [hrem, remN_end ha0 (by omega) hab, List.append_assoc]; exact List.prefix_rfl
     refine zR ?_
     refine zM ?_
     refine zL sct_118 ?_
     refine XO_yield0 (vs := [_]) (Post := fun t I3 H3 => if t then J ((pre ++ [a]) ++ [b]) I3 H3 else Jx ((pre ++ [a]) ++ [b]) I3 H3) rfl rfl rfl rfl (hY (pre ++ [a]) b _ _ hpre2 (hI0.trans hI2) hJ1) ?_
     rintro t3 I3 H3 hI3 hP3
     refine zN ?_
     refine X_ret ?_
     refine at_block_r ?_
     refine at_then_r ?_
     refine at_block_r ?_
     first
     | (refine at_ret0 rfl (fun w hw => ⟨_, I3, H3, rfl, hI1.trans (hI2.trans hI3), hw.drop, ?_⟩); cases t3 with | true => exact .inl (by rw [hrem, remN_end ha0 (by omega) hab]; simpa using hP3) | false => exact .inr ⟨_, hpre2, hP3⟩)
     | (refine at_norm (at_ret0 rfl (fun w hw => ⟨_, I2, H2, rfl, hI1.trans hI2, hw.drop, ?_⟩)); by_cases ha0 : a = 0; (obtain ⟨e1, e2⟩ := hno (by simp [conj, ha0]); subst e1; subst e2; subst ha0; exact .inl (by rw [hrem, remN_zero, List.append_nil]; exact hJk)); (have ht : t = false := (by simp [ha0] at hc10; exact hc10); subst ht; exact .inr ⟨_, rem_pre hrem ha0, hyes (by simp [conj]; exact ha0)⟩))
    have hab : a % b ≠ 0 := by have h := hc17; simp only [beq_eq_false_iff_ne, ne_eq] at h; omega
    refine X_skip ?_
    refine at_block_n ?_
    exact at_metH2 rfl rfl rfl _ (remL 118 b1 b2 (b) (((a % b : Nat) : Int))) ⟨a % b, Nat.mod_lt _ hbp, b, a % b, pre ++ [a], rfl, rfl, rfl, hI1.trans hI2, hJ1, by rw [hrem, remN_step ha0 (by omega) hab, List.append_assoc]; rfl, by omega, by omega, by have := Nat.mod_lt a hbp; omega⟩ (.cons rfl (.cons rfl (.cons rfl .nil))) .refl
   refine zV (ev_max rfl rfl) ?_
   refine XO_nil ?_
   refine zD hD ?_
   refine XD_two 0 4 rfl rfl (by kernel_rfl) ?_ ?_
   ·
    refine zL sct_118 ?_
    refine XO_nil ?_
    refine zD hD ?_
    refine XD_two 4 5 rfl rfl (by kernel_rfl) ?_ ?_
    ·
     refine zV (ev_rem rfl rfl (fun hg => by rw [maxI_one hbp]; omega)) ?_
     refine XO_nil ?_
     refine zD hD ?_
     refine XD_one 5 rfl (by kernel_rfl) ?_
     refine zS szt_118 ?_
     refine XO_nil ?_
     refine zD hD ?_
     refine XD_one 6 rfl (by kernel_rfl) ?_
     refine zS szt_118 ?_
     refine XO_nil ?_
     refine zD hD ?_
     refine XD_done (by kernel_rfl) ?_
     refine at_noP ?_
     rw [show ((a : Int)).tmod (maxI (b : Int) 1) = ((a % b : Nat) : Int) by rw [maxI_one hbp, tmod_nat]]
     refine at_then ?_
     refine zR ?_
     refine zL sct_118 ?_
     refine zC ?_
     refine zN ?_
     refine zI ?_ ?_ <;> intro hc17
     ·
      have hab : a % b = 0 := by have h := hc17; simp only [beq_iff_eq] at h; omega
      have hpre2 : (pre ++ [a]) ++ [b] <+: remN a0 b0 := by rw [hrem, remN_end ha0 (by omega) hab, List.append_assoc]; exact List.prefix_rfl
      refine zR ?_
      refine zM ?_
      refine zL sct_118 ?_
      refine XO_yield0 (vs := [_]) (Post := fun t I3 H3 => if t then J ((pre ++ [a]) ++ [b]) I3 H3 else Jx ((pre ++ [a]) ++ [b]) I3 H3) rfl rfl rfl rfl (hY (pre ++ [a]) b _ _ hpre2 (hI0.trans hI2) hJ1) ?_
      rintro t3 I3 H3 hI3 hP3
      refine zN ?_
      refine X_ret ?_
      refine at_block_r ?_
      refine at_then_r ?_
      refine at_block_r ?_
      first
      | (refine at_ret0 rfl (fun w hw => ⟨_, I3, H3, rfl, hI1.trans (hI2.trans hI3), hw.drop, ?_⟩); cases t3 with | true => exact .inl (by rw [hrem, remN_end ha0 (by omega) hab]; simpa using hP3) | false => exact .inr ⟨_, hpre2, hP3⟩)
      | (refine at_norm (at_ret0 rfl (fun w hw => ⟨_, I2, H2, rfl, hI1.trans hI2, hw.drop, ?_⟩)); by_cases ha0 : a = 0; (obtain ⟨e1, e2⟩ := hno (by simp [conj, ha0]); subst e1; subst e2; subst ha0; exact .inl (by rw [hrem, remN_zero, List.append_nil]; exact hJk)); (have ht : t = false := (by simp [ha0] at hc10; exact hc10); subst ht; exact .inr ⟨_, rem_pre hrem ha0, hyes (by simp [conj]; exact ha0)⟩))
     have hab : a % b ≠ 0 := by have h := hc17; simp only [beq_eq_false_iff_ne, ne_eq] at h; omega
     refine X_skip ?_
     refine at_block_n ?_
     exact at_metH2 rfl rfl rfl _ (remL 118 b1 b2 (b) (((a % b : Nat) : Int))) ⟨a % b, Nat.mod_lt _ hbp, b, a % b, pre ++ [a], rfl, rfl, rfl, hI1.trans hI2, hJ1, by rw [hrem, remN_step ha0 (by omega) hab, List.append_assoc]; rfl, by omega, by omega, by have := Nat.mod_lt a hbp; omega⟩ (.cons rfl (.cons rfl (.cons rfl .nil))) .refl
    refine zS szt_118 ?_
    refine XO_nil ?_
    refine zD hD ?_
    refine XD_one 4 rfl (by kernel_rfl) ?_
    refine zV (ev_rem rfl rfl (fun hg => by rw [maxI_one hbp]; omega)) ?_
    refine XO_nil ?_
    refine zD hD ?_
    refine XD_one 6 rfl (by kernel_rfl) ?_
    refine zS szt_118 ?_
    refine XO_nil ?_
    refine zD hD ?_
    refine XD_done (by kernel_rfl) ?_
    refine at_noP ?_
    rw [show ((a : Int)).tmod (maxI (b : Int) 1) = ((a % b : Nat) : Int) by rw [maxI_one hbp, tmod_nat]]
    refine at_then ?_
    refine zR ?_
    refine zL sct_118 ?_
    refine zC ?_
    refine zN ?_
    refine zI ?_ ?_ <;> intro hc17
    ·
     have hab : a % b = 0 := by have h := hc17; simp only [beq_iff_eq] at h; omega
     have hpre2 : (pre ++ [a]) ++ [b] <+: remN a0 b0 := by rw [hrem, remN_end ha0 (by omega) hab, List.append_assoc]; exact List.prefix_rfl
     refine zR ?_
     refine zM ?_
     refine zL sct_118 ?_
     refine XO_yield0 (vs := [_]) (Post := fun t I3 H3 => if t then J ((pre ++ [a]) ++ [b]) I3 H3 else Jx ((pre ++ [a]) ++ [b]) I3 H3) rfl rfl rfl rfl (hY (pre ++ [a]) b _ _ hpre2 (hI0.trans hI2) hJ1) ?_
     rintro t3 I3 H3 hI3 hP3
     refine zN ?_
     refine X_ret ?_
     refine at_block_r ?_
     refine at_then_r ?_
     refine at_block_r ?_
     first
     | (refine at_ret0 rfl (fun w hw => ⟨_, I3, H3, rfl, hI1.trans (hI2.trans hI3), hw.drop, ?_⟩); cases t3 with | true => exact .inl (by rw [hrem, remN_end ha0 (by omega) hab]; simpa using hP3) | false => exact .inr ⟨_, hpre2, hP3⟩)
     | (refine at_norm (at_ret0 rfl (fun w hw => ⟨_, I2, H2, rfl, hI1.trans hI2, hw.drop, ?_⟩)); by_cases ha0 : a = 0; (obtain ⟨e1, e2⟩ := hno (by simp [conj, ha0]); subst e1; subst e2; subst ha0; exact .inl (by rw [hrem, remN_zero, List.append_nil]; exact hJk)); (have ht : t = false := (by simp [ha0] at hc10; exact hc10); subst ht; exact .inr ⟨_, rem_pre hrem ha0, hyes (by simp [conj]; exact ha0)⟩))
    have hab : a % b ≠ 0 := by have h := hc17; simp only [beq_eq_false_iff_ne, ne_eq] at h; omega
    refine X_skip ?_
    refine at_block_n ?_
    exact at_metH2 rfl rfl rfl _ (remL 118 b1 b2 (b) (((a % b : Nat) : Int))) ⟨a % b, Nat.mod_lt _ hbp, b, a % b, pre ++ [a], rfl, rfl, rfl, hI1.trans hI2, hJ1, by rw [hrem, remN_step ha0 (by omega) hab, List.append_assoc]; rfl, by omega, by omega, by have := Nat.mod_lt a hbp; omega⟩ (.cons rfl (.cons rfl (.cons rfl .nil))) .refl
   refine zV (ev_rem rfl rfl (fun hg => by rw [maxI_one hbp]; omega)) ?_
   refine XO_nil ?_
   refine zD hD ?_
   refine XD_one 0 rfl (by kernel_rfl) ?_
   refine zL sct_118 ?_
   refine XO_nil ?_
   refine zD hD ?_
   refine XD_one 5 rfl (by kernel_rfl) ?_
   refine zS szt_118 ?_
   refine XO_nil ?_
   refine zD hD ?_
   refine XD_one 6 rfl (by kernel_rfl) ?_
   refine zS szt_118 ?_
   refine XO_nil ?_
   refine zD hD ?_
   refine XD_done (by kernel_rfl) ?_
   refine at_noP ?_
   rw [show ((a : Int)).tmod (maxI (b : Int) 1) = ((a % b : Nat) : Int) by rw [maxI_one hbp, tmod_nat]]
   refine at_then ?_
   refine zR ?_
   refine zL sct_118 ?_
   refine zC ?_
   refine zN ?_
   refine zI ?_ ?_ <;> intro hc17
   ·
    have hab : a % b = 0 := by have h := hc17; simp only [beq_iff_eq] at h; omega
    have hpre2 : (pre ++ [a]) ++ [b] <+: remN a0 b0 := by rw [hrem, remN_end ha0 (by omega) hab, List.append_assoc]; exact List.prefix_rfl
    refine zR ?_
    refine zM ?_
    refine zL sct_118 ?_
    refine XO_yield0 (vs := [_]) (Post := fun t I3 H3 => if t then J ((pre ++ [a]) ++ [b]) I3 H3 else Jx ((pre ++ [a]) ++ [b]) I3 H3) rfl rfl rfl rfl (hY (pre ++ [a]) b _ _ hpre2 (hI0.trans hI2) hJ1) ?_
    rintro t3 I3 H3 hI3 hP3
    refine zN ?_
    refine X_ret ?_
    refine at_block_r ?_
    refine at_then_r ?_
    refine at_block_r ?_
    first
    | (refine at_ret0 rfl (fun w hw => ⟨_, I3, H3, rfl, hI1.trans (hI2.trans hI3), hw.drop, ?_⟩); cases t3 with | true => exact .inl (by rw [hrem, remN_end ha0 (by omega) hab]; simpa using hP3) | false => exact .inr ⟨_, hpre2, hP3⟩)
    | (refine at_norm (at_ret0 rfl (fun w hw => ⟨_, I2, H2, rfl, hI1.trans hI2, hw.drop, ?_⟩)); by_cases ha0 : a = 0; (obtain ⟨e1, e2⟩ := hno (by simp [conj, ha0]); subst e1; subst e2; subst ha0; exact .inl (by rw [hrem, remN_zero, List.append_nil]; exact hJk)); (have ht : t = false := (by simp [ha0] at hc10; exact hc10); subst ht; exact .inr ⟨_, rem_pre hrem ha0, hyes (by simp [conj]; exact ha0)⟩))
   have hab : a % b ≠ 0 := by have h := hc17; simp only [beq_eq_false_iff_ne, ne_eq] at h; omega
   refine X_skip ?_
   refine at_block_n ?_
   exact at_metH2 rfl rfl rfl _ (remL 118 b1 b2 (b) (((a % b : Nat) : Int))) ⟨a % b, Nat.mod_lt _ hbp, b, a % b, pre ++ [a], rfl, rfl, rfl, hI1.trans hI2, hJ1, by rw [hrem, remN_step ha0 (by omega) hab, List.append_assoc]; rfl, by omega, by omega, by have := Nat.mod_lt a hbp; omega⟩ (.cons rfl (.cons rfl (.cons rfl .nil))) .refl
  refine zV (ev_max rfl rfl) ?_
  refine XO_nil ?_
  refine zD hD ?_
  refine XD_two 0 1 rfl rfl (by kernel_rfl) ?_ ?_
  ·
   refine zL sct_118 ?_
   refine XO_nil ?_
   refine zD hD ?_
   refine XD_one 1 rfl (by kernel_rfl) ?_
   refine zL sct_118 ?_
   refine XO_nil ?_
   refine zD hD ?_
   refine XD_two 4 5 rfl rfl (by kernel_rfl) ?_ ?_
   ·
    refine zV (ev_rem rfl rfl (fun hg => by rw [maxI_one hbp]; omega)) ?_
    refine XO_nil ?_
    refine zD hD ?_
    refine XD_one 5 rfl (by kernel_rfl) ?_
    refine zS szt_118 ?_
    refine XO_nil ?_
    refine zD hD ?_
    refine XD_one 6 rfl (by kernel_rfl) ?_
    refine zS szt_118 ?_
    refine XO_nil ?_
    refine zD hD ?_
    refine XD_done (by kernel_rfl) ?_
    refine at_noP ?_
    rw [show ((a : Int)).tmod (maxI (b : Int) 1) = ((a % b : Nat) : Int) by rw [maxI_one hbp, tmod_nat]]
    refine at_then ?_
    refine zR ?_
    refine zL sct_118 ?_
    refine zC ?_
    refine zN ?_
    refine zI ?_ ?_ <;> intro hc17
    ·
     have hab : a % b = 0 := by have h := hc17; simp only [beq_iff_eq] at h; omega
     have hpre2 : (pre ++ [a]) ++ [b] <+: remN a0 b0 := by rw [hrem, remN_end ha0 (by omega) hab, List.append_assoc]; exact List.prefix_rfl
     refine zR ?_
     refine zM ?_
     refine zL sct_118 ?_
     refine XO_yield0 (vs := [_]) (Post := fun t I3 H3 => if t then J ((pre ++ [a]) ++ [b]) I3 H3 else Jx ((pre ++ [a]) ++ [b]) I3 H3) rfl rfl rfl rfl (hY (pre ++ [a]) b _ _ hpre2 (hI0.trans hI2) hJ1) ?_
     rintro t3 I3 H3 hI3 hP3
     refine zN ?_
     refine X_ret ?_
     refine at_block_r ?_
     refine at_then_r ?_
     refine at_block_r ?_
     first
     | (refine at_ret0 rfl (fun w hw => ⟨_, I3, H3, rfl, hI1.trans (hI2.trans hI3), hw.drop, ?_⟩); cases t3 with | true => exact .inl (by rw [hrem, remN_end ha0 (by omega) hab]; simpa using hP3) | false => exact .inr ⟨_, hpre2, hP3⟩)
     | (refine at_norm (at_ret0 rfl (fun w hw => ⟨_, I2, H2, rfl, hI1.trans hI2, hw.drop, ?_⟩)); by_cases ha0 : a = 0; (obtain ⟨e1, e2⟩ := hno (by simp [conj, ha0]); subst e1; subst e2; subst ha0; exact .inl (by rw [hrem, remN_zero, List.append_nil]; exact hJk)); (have ht : t = false := (by simp [ha0] at hc10; exact hc10); subst ht; exact .inr ⟨_, rem_pre hrem ha0, hyes (by simp [conj]; exact ha0)⟩))
    have hab : a % b ≠ 0 := by have h := hc17; simp only [beq_eq_false_iff_ne, ne_eq] at h; omega
    refine X_skip ?_
    refine at_block_n ?_
    exact at_metH2 rfl rfl rfl _ (remL 118 b1 b2 (b) (((a % b : Nat) : Int))) ⟨a % b, Nat.mod_lt _ hbp, b, a % b, pre ++ [a], rfl, rfl, rfl, hI1.trans hI2, hJ1, by rw [hrem, remN_step ha0 (by omega) hab, List.append_assoc]; rfl, by omega, by omega, by have := Nat.mod_lt a hbp; omega⟩ (.cons rfl (.cons rfl (.cons rfl .nil))) .refl
   refine zS szt_118 ?_
   refine XO_nil ?_
   refine zD hD ?_
   refine XD_one 4 rfl (by kernel_rfl) ?_
   refine zV (ev_rem rfl rfl (fun hg => by rw [maxI_one hbp]; omega)) ?_
   refine XO_nil ?_
   refine zD hD ?_
   refine XD_one 6 rfl (by kernel_rfl) ?_
   refine zS szt_118 ?_
   refine XO_nil ?_
   refine zD hD ?_
   refine XD_done (by kernel_rfl) ?_
   refine at_noP ?_
   rw [show ((a : Int)).tmod (maxI (b : Int) 1) = ((a % b : Nat) : Int) by rw [maxI_one hbp, tmod_nat]]
   refine at_then ?_
   refine zR ?_
   refine zL sct_118 ?_
   refine zC ?_
   refine zN ?_
   refine zI ?_ ?_ <;> intro hc17
   ·
    have hab : a % b = 0 := by have h := hc17; simp only [beq_iff_eq] at h; omega
    have hpre2 : (pre ++ [a]) ++ [b] <+: remN a0 b0 := by rw [hrem, remN_end ha0 (by omega) hab, List.append_assoc]; exact List.prefix_rfl
    refine zR ?_
    refine zM ?_
    refine zL sct_118 ?_
    refine XO_yield0 (vs := [_]) (Post := fun t I3 H3 => if t then J ((pre ++ [a]) ++ [b]) I3 H3 else Jx ((pre ++ [a]) ++ [b]) I3 H3) rfl rfl rfl rfl (hY (pre ++ [a]) b _ _ hpre2 (hI0.trans hI2) hJ1) ?_
    rintro t3 I3 H3 hI3 hP3
    refine zN ?_
    refine X_ret ?_
    refine at_block_r ?_
    refine at_then_r ?_
    refine at_block_r ?_
    first
    | (refine at_ret0 rfl (fun w hw => ⟨_, I3, H3, rfl, hI1.trans (hI2.trans hI3), hw.drop, ?_⟩); cases t3 with | true => exact .inl (by rw [hrem, remN_end ha0 (by omega) hab]; simpa using hP3) | false => exact .inr ⟨_, hpre2, hP3⟩)
    | (refine at_norm (at_ret0 rfl (fun w hw => ⟨_, I2, H2, rfl, hI1.trans hI2, hw.drop, ?_⟩)); by_cases ha0 : a = 0; (obtain ⟨e1, e2⟩ := hno (by simp [conj, ha0]); subst e1; subst e2; subst ha0; exact .inl (by rw [hrem, remN_zero, List.append_nil]; exact hJk)); (have ht : t = false := (by simp [ha0] at hc10; exact hc10); subst ht; exact .inr ⟨_, rem_pre hrem ha0, hyes (by simp [conj]; exact ha0)⟩))
   have hab : a % b ≠ 0 := by have h := hc17; simp only [beq_eq_false_iff_ne, ne_eq] at h; omega
   refine X_skip ?_
   refine at_block_n ?_
   exact at_metH2 rfl rfl rfl _ (remL 118 b1 b2 (b) (((a % b : Nat) : Int))) ⟨a % b, Nat.mod_lt _ hbp, b, a % b, pre ++ [a], rfl, rfl, rfl, hI1.trans hI2, hJ1, by rw [hrem, remN_step ha0 (by omega) hab, List.append_assoc]; rfl, by omega, by omega, by have := Nat.mod_lt a hbp; omega⟩ (.cons rfl (.cons rfl (.cons rfl .nil))) .refl
  refine zL sct_118 ?_
  refine XO_nil ?_
  refine zD hD ?_
  refine XD_two 0 4 rfl rfl (by kernel_rfl) ?_ ?_
  ·
   refine zL sct_118 ?_
   refine XO_nil ?_
   refine zD hD ?_
   refine XD_two 4 5 rfl rfl (by kernel_rfl) ?_ ?_
   ·
    refine zV (ev_rem rfl rfl (fun hg => by rw [maxI_one hbp]; omega)) ?_
    refine XO_nil ?_
    refine zD hD ?_
    refine XD_one 5 rfl (by kernel_rfl) ?_
    refine zS szt_118 ?_
    refine XO_nil ?_
    refine zD hD ?_
    refine XD_one 6 rfl (by kernel_rfl) ?_
    refine zS szt_118 ?_
    refine XO_nil ?_
    refine zD hD ?_
    refine XD_done (by kernel_rfl) ?_
    refine at_noP ?_
    rw [show ((a : Int)).tmod (maxI (b : Int) 1) = ((a % b : Nat) : Int) by rw [maxI_one hbp, tmod_nat]]
    refine at_then ?_
    refine zR ?_
    refine zL sct_118 ?_
    refine zC ?_
    refine zN ?_
    refine zI ?_ ?_ <;> intro hc17
    ·
     have hab : a % b = 0 := by have h := hc17; simp only [beq_iff_eq] at h; omega
     have hpre2 : (pre ++ [a]) ++ [b] <+: remN a0 b0 := by rw [hrem, remN_end ha0 (by omega) hab, List.append_assoc]; exact List.prefix_rfl
     refine zR ?_
     refine zM ?_
     refine zL sct_118 ?_
     refine XO_yield0 (vs := [_]) (Post := fun t I3 H3 => if t then J ((pre ++ [a]) ++ [b]) I3 H3 else Jx ((pre ++ [a]) ++ [b]) I3 H3) rfl rfl rfl rfl (hY (pre ++ [a]) b _ _ hpre2 (hI0.trans hI2) hJ1) ?_
     rintro t3 I3 H3 hI3 hP3
     refine zN ?_
     refine X_ret ?_
     refine at_block_r ?_
     refine at_then_r ?_
     refine at_block_r ?_
     first
     | (refine at_ret0 rfl (fun w hw => ⟨_, I3, H3, rfl, hI1.trans (hI2.trans hI3), hw.drop, ?_⟩); cases t3 with | true => exact .inl (by rw [hrem, remN_end ha0 (by omega) hab]; simpa using hP3) | false => exact .inr ⟨_, hpre2, hP3⟩)
     | (refine at_norm (at_ret0 rfl (fun w hw => ⟨_, I2, H2, rfl, hI1.trans hI2, hw.drop, ?_⟩)); by_cases ha0 : a = 0; (obtain ⟨e1, e2⟩ := hno (by simp [conj, ha0]); subst e1; subst e2; subst ha0; exact .inl (by rw [hrem, remN_zero, List.append_nil]; exact hJk)); (have ht : t = false := (by simp [ha0] at hc10; exact hc10); subst ht; exact .inr ⟨_, rem_pre hrem ha0, hyes (by simp [conj]; exact ha0)⟩))
    have hab : a % b ≠ 0 := by have h := hc17; simp only [beq_eq_false_iff_ne, ne_eq] at h; omega
    refine X_skip ?_
    refine at_block_n ?_
    exact at_metH2 rfl rfl rfl _ (remL 118 b1 b2 (b) (((a % b : Nat) : Int))) ⟨a % b, Nat.mod_lt _ hbp, b, a % b, pre ++ [a], rfl, rfl, rfl, hI1.trans hI2, hJ1, by rw [hrem, remN_step ha0 (by omega) hab, List.append_assoc]; rfl, by omega, by omega, by have := Nat.mod_lt a hbp; omega⟩ (.cons rfl (.cons rfl (.cons rfl .nil))) .refl
   refine zS szt_118 ?_
   refine XO_nil ?_
   refine zD hD ?_
   refine XD_one 4 rfl (by kernel_rfl) ?_
   refine zV (ev_rem rfl rfl (fun hg => by rw [maxI_one hbp]; omega)) ?_
   refine XO_nil ?_
   refine zD hD ?_
   refine XD_one 6 rfl (by kernel_rfl) ?_
   refine zS szt_118 ?_
   refine XO_nil ?_
   refine zD hD ?_
   refine XD_done (by kernel_rfl) ?_
   refine at_noP ?_
   rw [show ((a : Int)).tmod (maxI (b : Int) 1) = ((a % b : Nat) : Int) by rw [maxI_one hbp, tmod_nat]]
   refine at_then ?_
   refine zR ?_
   refine zL sct_118 ?_
   refine zC ?_
   refine zN ?_
   refine zI ?_ ?_ <;> intro hc17
   ·
    have hab : a % b = 0 := by have h := hc17; simp only [beq_iff_eq] at h; omega
    have hpre2 : (pre ++ [a]) ++ [b] <+: remN a0 b0 := by rw [hrem, remN_end ha0 (by omega) hab, List.append_assoc]; exact List.prefix_rfl
    refine zR ?_
    refine zM ?_
    refine zL sct_118 ?_
    refine XO_yield0 (vs := [_]) (Post := fun t I3 H3 => if t then J ((pre ++ [a]) ++ [b]) I3 H3 else Jx ((pre ++ [a]) ++ [b]) I3 H3) rfl rfl rfl rfl (hY (pre ++ [a]) b _ _ hpre2 (hI0.trans hI2) hJ1) ?_
    rintro t3 I3 H3 hI3 hP3
    refine zN ?_
    refine X_ret ?_
    refine at_block_r ?_
    refine at_then_r ?_
    refine at_block_r ?_
    first
    | (refine at_ret0 rfl (fun w hw => ⟨_, I3, H3, rfl, hI1.trans (hI2.trans hI3), hw.drop, ?_⟩); cases t3 with | true => exact .inl (by rw [hrem, remN_end ha0 (by omega) hab]; simpa using hP3) | false => exact .inr ⟨_, hpre2, hP3⟩)
    | (refine at_norm (at_ret0 rfl (fun w hw => ⟨_, I2, H2, rfl, hI1.trans hI2, hw.drop, ?_⟩)); by_cases ha0 : a = 0; (obtain ⟨e1, e2⟩ := hno (by simp [conj, ha0]); subst e1; subst e2; subst ha0; exact .inl (by rw [hrem, remN_zero, List.append_nil]; exact hJk)); (have ht : t = false := (by simp [ha0] at hc10; exact hc10); subst ht; exact .inr ⟨_, rem_pre hrem ha0, hyes (by simp [conj]; exact ha0)⟩))
   have hab : a % b ≠ 0 := by have h := hc17; simp only [beq_eq_false_iff_ne, ne_eq] at h; omega
   refine X_skip ?_
   refine at_block_n ?_
   exact at_metH2 rfl rfl rfl _ (remL 118 b1 b2 (b) (((a % b : Nat) : Int))) ⟨a % b, Nat.mod_lt _ hbp, b, a % b, pre ++ [a], rfl, rfl, rfl, hI1.trans hI2, hJ1, by rw [hrem, remN_step ha0 (by omega) hab, List.append_assoc]; rfl, by omega, by omega, by have := Nat.mod_lt a hbp; omega⟩ (.cons rfl (.cons rfl (.cons rfl .nil))) .refl
  refine zV (ev_rem rfl rfl (fun hg => by rw [maxI_one hbp]; omega)) ?_
  refine XO_nil ?_
  refine zD hD ?_
  refine XD_one 0 rfl (by kernel_rfl) ?_
  refine zL sct_118 ?_
  refine XO_nil ?_
  refine zD hD ?_
  refine XD_one 5 rfl (by kernel_rfl) ?_
  refine zS szt_118 ?_
  refine XO_nil ?_
  refine zD hD ?_
  refine XD_one 6 rfl (by kernel_rfl) ?_
  refine zS szt_118 ?_
  refine XO_nil ?_
  refine zD hD ?_
  refine XD_done (by kernel_rfl) ?_
  refine at_noP ?_
  rw [show ((a : Int)).tmod (maxI (b : Int) 1) = ((a % b : Nat) : Int) by rw [maxI_one hbp, tmod_nat]]
  refine at_then ?_
  refine zR ?_
  refine zL sct_118 ?_
  refine zC ?_
  refine zN ?_
  refine zI ?_ ?_ <;> intro hc17
  ·
   have hab : a % b = 0 := by have h := hc17; simp only [beq_iff_eq] at h; omega
   have hpre2 : (pre ++ [a]) ++ [b] <+: remN a0 b0 := by rw [hrem, remN_end ha0 (by omega) hab, List.append_assoc]; exact List.prefix_rfl
   refine zR ?_
   refine zM ?_
   refine zL sct_118 ?_
   refine XO_yield0 (vs := [_]) (Post := fun t I3 H3 => if t then J ((pre ++ [a]) ++ [b]) I3 H3 else Jx ((pre ++ [a]) ++ [b]) I3 H3) rfl rfl rfl rfl (hY (pre ++ [a]) b _ _ hpre2 (hI0.trans hI2) hJ1) ?_
   rintro t3 I3 H3 hI3 hP3
   refine zN ?_
   refine X_ret ?_
   refine at_block_r ?_
   refine at_then_r ?_
   refine at_block_r ?_
   first
   | (refine at_ret0 rfl (fun w hw => ⟨_, I3, H3, rfl, hI1.trans (hI2.trans hI3), hw.drop, ?_⟩); cases t3 with | true => exact .inl (by rw [hrem, remN_end ha0 (by omega) hab]; simpa using hP3) | false => exact .inr ⟨_, hpre2, hP3⟩)
   | (refine at_norm (at_ret0 rfl (fun w hw => ⟨_, I2, H2, rfl, hI1.trans hI2, hw.drop, ?_⟩)); by_cases ha0 : a = 0; (obtain ⟨e1, e2⟩ := hno (by simp [conj, ha0]); subst e1; subst e2; subst ha0; exact .inl (by rw [hrem, remN_zero, List.append_nil]; exact hJk)); (have ht : t = false := (by simp [ha0] at hc10; exact hc10); subst ht; exact .inr ⟨_, rem_pre hrem ha0, hyes (by simp [conj]; exact ha0)⟩))
  have hab : a % b ≠ 0 := by have h := hc17; simp only [beq_eq_false_iff_ne, ne_eq] at h; omega
  refine X_skip ?_
  refine at_block_n ?_
  exact at_metH2 rfl rfl rfl _ (remL 118 b1 b2 (b) (((a % b : Nat) : Int))) ⟨a % b, Nat.mod_lt _ hbp, b, a % b, pre ++ [a], rfl, rfl, rfl, hI1.trans hI2, hJ1, by rw [hrem, remN_step ha0 (by omega) hab, List.append_assoc]; rfl, by omega, by omega, by have := Nat.mod_lt a hbp; omega⟩ (.cons rfl (.cons rfl (.cons rfl .nil))) .refl
 refine X_exit ?_
 refine at_then_e ?_
 refine at_then_e ?_
 refine at_block_hit ?_
 first
 | (refine at_ret0 rfl (fun w hw => ⟨_, I3, H3, rfl, hI1.trans (hI2.trans hI3), hw.drop, ?_⟩); cases t3 with | true => exact .inl (by rw [hrem, remN_end ha0 (by omega) hab]; simpa using hP3) | false => exact .inr ⟨_, hpre2, hP3⟩)
 | (refine at_norm (at_ret0 rfl (fun w hw => ⟨_, I2, H2, rfl, hI1.trans hI2, hw.drop, ?_⟩)); by_cases ha0 : a = 0; (obtain ⟨e1, e2⟩ := hno (by simp [conj, ha0]); subst e1; subst e2; subst ha0; exact .inl (by rw [hrem, remN_zero, List.append_nil]; exact hJk)); (have ht : t = false := (by simp [ha0] at hc10; exact hc10); subst ht; exact .inr ⟨_, rem_pre hrem ha0, hyes (by simp [conj]; exact ha0)⟩))
end Go.Proofs.YtclkmnidgdkekaaGreat
end
section
namespace Go.Proofs.YtclkmnidgdkekaaGreat
open Go Go.Kn Go.Proofs
theorem w_div (I : HMap) (a b : Nat) (hb : 0 < b) (ha : a ≤ 9223372036854775807) (hb2 : b ≤ 9223372036854775807) : RetV Tryz.prog 137 [.int .u64 a, .int .u64 b] I (.int .u64 (Nat.gcd a b : Nat)) := by
 intro g H w hw
 refine enterMs Tryz.func137 rfl Tryz.ntmps137 rfl hw ?_
 have hIc := HLe.refl I
 refine zR ?_
 refine XO_alloc zt_118 rfl rfl (fun b_4 => ?_)
 refine zN ?_
 refine X_seq ?_
 refine zR ?_
 refine zM ?_
 refine zC ?_
 refine zN ?_
 refine zI ?_ ?_ <;> intro hc7
 ·
  simp at hc7; omega
 refine X_skip ?_
 refine at_then ?_
 refine zR ?_
 refine zM ?_
 refine zS szt_118 ?_
 refine zN ?_
 refine X_seq ?_
 refine zR ?_
 refine zM ?_
 refine zM ?_
 refine XO_callM (cap := []) (vs := [_, _]) rfl rfl fun_139 .nil (w_rem I _ _) rfl rfl ?_
 rintro vv1 I1 L1 hI1 ⟨rfl, b1, b2, rfl, rfl⟩
 have hIc := hIc.trans hI1
 refine zN ?_
 refine X_block ?_
 refine X_rangeFuncM (ms := []) (K := remL 118 b1 b2 (a) (b)) (L := [(b_4, .cells #[.int .u64 b] 118 (0, 0))]) (enc := fun n : Nat => .int .u64 n) (xs := remN a b) (fun pre I' loc' => loc' = [(b_4, .cells #[.int .u64 ((pre.getLastD b : Nat) : Int)] 118 (0, 0))]) (fun _ _ _ _ => False) (fun pre x E2 I2 loc2 => E2 = [(4, capP b_4), (5, .int .u64 x)] ∧ loc2 = [(b_4, .cells #[.int .u64 ((pre.getLastD b : Nat) : Int)] 118 (0, 0))]) rfl fun_140 (w_euclid _ a b b1 b2 hb ha hb2) rfl rfl ?_ ?_ ?_ ?_
 ·
  rintro l pre x I1 loc1 H1 hpre hI1 rfl
  refine X_region ?_
  refine zA ?_
  refine XO_nil ?_
  exact at_met' _ ⟨HLe.refl _, rfl, rfl⟩ (.cons rfl (.cons rfl .nil))
 ·
  rintro l pre x E2 I2 loc2 H2 hpre hI2 ⟨rfl, rfl⟩
  refine X_block ?_
  refine X_region ?_
  refine zM ?_
  refine zS szt_118 ?_
  refine XO_nil ?_
  refine at_block_n ?_
  exact at_round2 ⟨HLe.refl _, by rw [last_snoc]; rfl⟩ .refl
 ·
  rintro bd I1 loc1 hI1 rfl
  have hIc := hIc.trans hI1
  refine at_block_n ?_
  refine at_then ?_
  refine zR ?_
  refine zL sct_118 ?_
  refine zS szt_118 ?_
  refine zN ?_
  refine X_ret ?_
  exact at_retMs (L := [(b_4, _)]) (fun a ha w hw => res1c rfl rfl sct_118 (Cell.h0 rfl) a ha w hw) (fun w hw => ⟨by rw [remN_gcd b (Nat.le_refl _) (by omega) (fun _ => rfl)], (hw.mono hIc).drop⟩)
 rintro c bd pre I1 loc1 hI1 hpre hF; exact hF.elim
theorem w_divI (I : HMap) (n d : Int) (hn : -1073741824 ≤ n ∧ n ≤ 1073741824) (hd : 1 ≤ d ∧ d ≤ 1073741824) : RetV Tryz.prog 137 [.int .u64 (magI n), .int .u64 (IntKind.u64.wrap d)] I (.int .u64 (gcdI n d)) := by
 have h0 : 0 ≤ magI n ∧ magI n ≤ 1073741824 := by unfold magI; split <;> omega
 have h := w_div I (magI n).toNat d.toNat (by omega) (by omega) (by omega)
 rw [u64_id (by omega)]
 rw [Int.toNat_of_nonneg h0.1, Int.toNat_of_nonneg (by omega), mag_gcd, Int.toNat_of_nonneg (by omega)] at h
 exact h
theorem w_ratchk (I : HMap) (n d : Int) : RetV Tryz.prog 136 [encRA (n) (d)] I (.int .i64 (ratE n d)) := by
 intro g H w hw
 refine enter Tryz.func136 rfl Tryz.ntmps136 rfl hw ?_
 refine zR ?_
 refine XO_box rfl rfl rfl (fun b_1 => ?_)
 refine zA ?_
 refine zN ?_
 refine X_seq ?_
 refine X_seq ?_
 refine X_draw mixed (by kernel_rfl) ?_
 refine XQ_v0 (ev_fieldAddr rfl fld_62_1) rfl rfl rfl ?_
 refine XQ_v0 (ev_load rfl sct_3 (fun hg => by repeat (first | exact Cell.here rfl | apply Cell.there | apply Cell.app))) rfl rfl rfl ?_
 refine XQ_v0 (ev_cmp rfl rfl rfl) rfl rfl rfl ?_
 refine XQ_v0 (ev_move rfl) rfl rfl rfl ?_
 refine XQ_pushF 3 rfl rfl rfl ?_
 refine XQ_v1 (ev_fieldAddr rfl fld_62_1) (.some rfl rfl rfl rfl gbf) rfl rfl rfl ?_
 refine XQ_v1 (ev_load rfl sct_3 (fun hg => by repeat (first | exact Cell.here rfl | apply Cell.there | apply Cell.app))) (.some rfl rfl rfl rfl gbf) rfl rfl rfl ?_
 refine XQ_v1 (ev_cmp rfl rfl rfl) (.some rfl rfl rfl rfl gbf) rfl rfl rfl ?_
 refine XQ_or0 rfl rfl rfl rfl rfl ?_
 refine XQ_v0 (ev_move rfl) rfl rfl rfl ?_
 refine XQ_pushF 8 rfl rfl rfl ?_
 refine XQ_v1 (ev_fieldAddr rfl fld_62_0) (.some rfl rfl rfl rfl gbf) rfl rfl rfl ?_
 refine XQ_v1 (ev_load rfl sct_3 (fun hg => by repeat (first | exact Cell.here rfl | apply Cell.there | apply Cell.app))) (.some rfl rfl rfl rfl gbf) rfl rfl rfl ?_
 refine XQ_v1 (ev_cmp rfl rfl rfl) (.some rfl rfl rfl rfl gbf) rfl rfl rfl ?_
 refine XQ_or0 rfl rfl rfl rfl rfl ?_
 refine XQ_v0 (ev_move rfl) rfl rfl rfl ?_
 refine XQ_pushF 13 rfl rfl rfl ?_
 refine XQ_v1 (ev_fieldAddr rfl fld_62_0) (.some rfl rfl rfl rfl gbf) rfl rfl rfl ?_
 refine XQ_v1 (ev_load rfl sct_3 (fun hg => by repeat (first | exact Cell.here rfl | apply Cell.there | apply Cell.app))) (.some rfl rfl rfl rfl gbf) rfl rfl rfl ?_
 refine XQ_v1 (ev_cmp rfl rfl rfl) (.some rfl rfl rfl rfl gbf) rfl rfl rfl ?_
 refine XQ_or0 rfl rfl rfl rfl rfl ?_
 refine XQ_v0 (ev_move rfl) rfl rfl rfl ?_
 refine XQ_pushF 18 rfl rfl rfl ?_
 refine XQ_v1 (ev_fieldAddr rfl fld_62_0) (.some rfl rfl rfl rfl gbf) rfl rfl rfl ?_
 refine XQ_v1 (ev_load rfl sct_3 (fun hg => by repeat (first | exact Cell.here rfl | apply Cell.there | apply Cell.app))) (.some rfl rfl rfl rfl gbf) rfl rfl rfl ?_
 refine XQ_callV1 (cap := []) (vs := [_]) rfl rfl fun_138 (fun hg => w_mag I n (by simp [conj] at hg; omega)) (.some rfl rfl rfl rfl gbf) rfl rfl ?_
 refine XQ_v1 (ev_fieldAddr rfl fld_62_1) (.some rfl rfl rfl rfl gbf) rfl rfl rfl ?_
 refine XQ_v1 (ev_load rfl sct_3 (fun hg => by repeat (first | exact Cell.here rfl | apply Cell.there | apply Cell.app))) (.some rfl rfl rfl rfl gbf) rfl rfl rfl ?_
 refine XQ_v1 (ev_convI rfl cvt_3_118) (.some rfl rfl rfl rfl gbf) rfl rfl rfl ?_
 refine XQ_callV1 (cap := []) (vs := [_, _]) rfl rfl fun_137 (fun hg => w_divI I n d (by simp [conj] at hg; omega) (by simp [conj] at hg; omega)) (.some rfl rfl rfl rfl gbf) rfl rfl ?_
 refine XQ_v1 (ev_cmp rfl rfl rfl) (.some rfl rfl rfl rfl gbf) rfl rfl rfl ?_
 refine XQ_or0 rfl rfl rfl rfl rfl ?_
 refine XQ_nil ?_
 refine at_then ?_
 refine zI ?_ ?_ <;> intro hc30
 ·
  refine zR ?_
  refine zA ?_
  refine zN ?_
  refine X_ret ?_
  refine at_then_r ?_
  first
  | exact at_ret1 rfl rfl (fun w hw => ⟨by unfold ratE; rw [rat_bad hc30]; rfl, hw.drop⟩)
  | exact at_ret1 rfl rfl (fun w hw => ⟨by unfold ratE; rw [rat_good hc30]; rfl, hw.drop⟩)
 refine X_skip ?_
 refine at_then ?_
 refine zR ?_
 refine zA ?_
 refine zN ?_
 refine X_ret ?_
 first
 | exact at_ret1 rfl rfl (fun w hw => ⟨by unfold ratE; rw [rat_bad hc30]; rfl, hw.drop⟩)
 | exact at_ret1 rfl rfl (fun w hw => ⟨by unfold ratE; rw [rat_good hc30]; rfl, hw.drop⟩)
end Go.Proofs.YtclkmnidgdkekaaGreat
end
section
namespace Go.Proofs.YtclkmnidgdkekaaGreat
open Go Go.Kn Go.Proofs
theorem w_rcmp (I : HMap) (an ad bn bd : Int) : RetV Tryz.prog 134 [encRA (an) (ad), encRA (bn) (bd)] I (.tuple #[.int .i64 (cmpV an ad bn bd), .int .i64 (cmpE an ad bn bd)]) := by
 intro g H w hw
 refine enter Tryz.func134 rfl Tryz.ntmps134 rfl hw ?_
 refine zR ?_
 refine XO_box rfl rfl rfl (fun b_2 => ?_)
 refine XO_box rfl rfl rfl (fun b_3 => ?_)
 refine zA ?_
 refine zA ?_
 refine zN ?_
 refine X_seq ?_
 refine zR ?_
 refine zV (ev_loadA rfl agt_62 (fun hg => by first | (repeat (first | exact Cells.here | exact Cells.s0 (vs := [_, _]) rfl | apply Cells.there | apply Cells.app))) rfl) ?_
 refine XO_callV0 (cap := []) (vs := [_]) rfl rfl fun_136 (w_ratchk I _ _) rfl rfl ?_
 refine zC ?_
 refine zM ?_
 refine XO_pushF 3 rfl rfl rfl ?_
 refine zJ (ev_loadA rfl agt_62 (fun hg => by first | (repeat (first | exact Cells.here | exact Cells.s0 (vs := [_, _]) rfl | apply Cells.there | apply Cells.app))) rfl) ?_
 refine XO_callV1 (cap := []) (vs := [_]) rfl rfl fun_136 (fun hg => w_ratchk I _ _) (.some rfl rfl rfl rfl gbf) rfl rfl ?_
 refine zJ (ev_cmp rfl rfl rfl) ?_
 refine XO_or0 rfl rfl rfl rfl rfl ?_
 refine zN ?_
 refine zI ?_ ?_ <;> intro hc13
 ·
  have hb : (ratF an ad && ratF bn bd) = false := by have h := hc13; rw [span_eq, Bool.not_eq_true'] at h; exact h
  refine zR ?_
  refine zA ?_
  refine zA ?_
  refine zN ?_
  refine X_ret ?_
  refine at_then_r ?_
  exact at_ret2 rfl rfl rfl (fun w hw => ⟨by unfold cmpV cmpE; rw [hb]; rfl, hw.drop⟩)
 have hb : (ratF an ad && ratF bn bd) = true := by have h := hc13; rw [span_eq, Bool.not_eq_false'] at h; exact h
 have ⟨ha1, ha2⟩ := ratF_in (Bool.and_eq_true .. ▸ hb).1
 have ⟨hb1, hb2⟩ := ratF_in (Bool.and_eq_true .. ▸ hb).2
 refine X_skip ?_
 refine at_then ?_
 refine zR ?_
 refine zF fld_62_0 ?_
 refine zL sct_3 ?_
 refine zF fld_62_1 ?_
 refine zL sct_3 ?_
 refine zV (ev_arB rfl rfl rfl (fun _ => by exact mul_b (by omega) (by omega))) ?_
 refine zF fld_62_0 ?_
 refine zL sct_3 ?_
 refine zF fld_62_1 ?_
 refine zL sct_3 ?_
 refine zV (ev_arB rfl rfl rfl (fun _ => by exact mul_b (by omega) (by omega))) ?_
 refine XO_callV0 (cap := []) (vs := [_, _]) rfl rfl fun_48 (w_cmp I _ _) rfl rfl ?_
 refine zA ?_
 refine zA ?_
 refine zN ?_
 refine X_ret ?_
 exact at_ret2 rfl rfl rfl (fun w hw => ⟨by unfold cmpV cmpE; rw [hb]; rfl, hw.drop⟩)
theorem w_fine (I : HMap) (an ad bn bd : Int) : RetV Tryz.prog 130 [encRA (an) (ad), encRA (bn) (bd)] I (.bool (spanF an ad bn bd)) := by
 intro g H w hw
 refine enter Tryz.func130 rfl Tryz.ntmps130 rfl hw ?_
 refine zR ?_
 refine XO_box rfl rfl rfl (fun b_2 => ?_)
 refine XO_box rfl rfl rfl (fun b_3 => ?_)
 refine zA ?_
 refine zN (zR ?_)
 refine zV (ev_loadA rfl agt_62 (fun hg => by first | (repeat (first | exact Cells.here | exact Cells.s0 (vs := [_, _]) rfl | apply Cells.there | apply Cells.app))) rfl) ?_
 refine zV (ev_loadA rfl agt_62 (fun hg => by first | (repeat (first | exact Cells.here | exact Cells.s0 (vs := [_, _]) rfl | apply Cells.there | apply Cells.app))) rfl) ?_
 refine XO_callV0 (cap := []) (vs := [_, _]) rfl rfl fun_134 (w_rcmp I _ _ _ _) rfl rfl ?_
 refine zM ?_
 refine zE ?_
 refine zE ?_
 refine zA ?_
 refine zA ?_
 refine zN (zR ?_)
 refine zM ?_
 refine zC ?_
 refine zM ?_
 refine XO_pushT 2 rfl rfl rfl ?_
 refine zK (ev_move rfl) ?_
 refine zK (ev_cmp rfl rfl rfl) ?_
 refine XO_and0 rfl rfl rfl rfl rfl ?_
 refine zM ?_
 refine XO_pushT 6 rfl rfl rfl ?_
 refine zK (ev_fieldAddr rfl fld_62_0) ?_
 refine zK (ev_load rfl sct_3 (fun hg => by repeat (first | exact Cell.here rfl | apply Cell.there | apply Cell.app))) ?_
 refine zK (ev_cmp rfl rfl rfl) ?_
 refine XO_and0 rfl rfl rfl rfl rfl ?_
 refine zM ?_
 refine XO_pushT 11 rfl rfl rfl ?_
 refine zK (ev_fieldAddr rfl fld_62_0) ?_
 refine zK (ev_load rfl sct_3 (fun hg => by repeat (first | exact Cell.here rfl | apply Cell.there | apply Cell.app))) ?_
 refine zK (ev_fieldAddr rfl fld_62_1) ?_
 refine zK (ev_load rfl sct_3 (fun hg => by repeat (first | exact Cell.here rfl | apply Cell.there | apply Cell.app))) ?_
 refine zK (ev_cmp rfl rfl rfl) ?_
 refine XO_and0 rfl rfl rfl rfl rfl ?_
 refine zA ?_
 refine zN ?_
 refine X_ret ?_
 exact at_ret1 rfl rfl (fun w hw => ⟨by rw [← fine_eq], hw.drop⟩)
theorem w_within (I : HMap) (n lo hi : Int) : RetV Tryz.prog 129 [.int .i64 n, .int .i64 lo, .int .i64 hi] I (.bool (within n lo hi)) := by
 intro g H w hw
 refine enter Tryz.func129 rfl Tryz.ntmps129 rfl hw ?_
 refine zR ?_
 refine zA ?_
 refine zN (zR ?_)
 refine zM ?_
 refine zM ?_
 refine zC ?_
 refine zM ?_
 refine XO_pushT 3 rfl rfl rfl ?_
 refine zK (ev_move rfl) ?_
 refine zK (ev_move rfl) ?_
 refine zK (ev_cmp rfl rfl rfl) ?_
 refine XO_and0 rfl rfl rfl rfl rfl ?_
 refine zA ?_
 refine zN ?_
 refine X_ret ?_
 exact at_ret1 rfl rfl (fun w hw => ⟨by first | rfl | simp_all, hw.drop⟩)
theorem w_frm (I : HMap) (x : Sg) : RetV Tryz.prog 119 [encGA x] I (.bool (frm x)) := by
 intro g H w hw
 refine enter Tryz.func119 rfl Tryz.ntmps119 rfl hw ?_
 refine zR ?_
 refine XO_box rfl rfl rfl (fun b_1 => ?_)
 refine zA ?_
 refine zN (zR ?_)
 refine zF fld_64_0 ?_
 refine zL sct_3 ?_
 refine XO_callV0 (cap := []) (vs := [_, _, _]) rfl rfl fun_129 (w_within I _ _ _) rfl rfl ?_
 refine zM ?_
 refine XO_pushT 3 rfl rfl rfl ?_
 refine zK (ev_fieldAddr rfl fld_64_1) ?_
 refine zK (ev_load rfl sct_3 (fun hg => by repeat (first | exact Cell.here rfl | apply Cell.there | apply Cell.app))) ?_
 refine XO_callV1 (cap := []) (vs := [_, _, _]) rfl rfl fun_129 (fun hg => w_within I _ _ _) (.some rfl rfl rfl rfl gbt) rfl rfl ?_
 refine XO_and0 rfl rfl rfl rfl rfl ?_
 refine zM ?_
 refine XO_pushT 8 rfl rfl rfl ?_
 refine zK (ev_fieldAddr rfl fld_64_2) ?_
 refine zK (ev_load rfl sct_3 (fun hg => by repeat (first | exact Cell.here rfl | apply Cell.there | apply Cell.app))) ?_
 refine XO_callV1 (cap := []) (vs := [_, _, _]) rfl rfl fun_129 (fun hg => w_within I _ _ _) (.some rfl rfl rfl rfl gbt) rfl rfl ?_
 refine XO_and0 rfl rfl rfl rfl rfl ?_
 refine zM ?_
 refine XO_pushT 13 rfl rfl rfl ?_
 refine zK (ev_fieldAddr rfl fld_64_4) ?_
 refine zK (ev_load rfl sct_3 (fun hg => by repeat (first | exact Cell.here rfl | apply Cell.there | apply Cell.app))) ?_
 refine XO_callV1 (cap := []) (vs := [_, _, _]) rfl rfl fun_129 (fun hg => w_within I _ _ _) (.some rfl rfl rfl rfl gbt) rfl rfl ?_
 refine XO_and0 rfl rfl rfl rfl rfl ?_
 refine zM ?_
 refine XO_pushT 18 rfl rfl rfl ?_
 refine zK (ev_fieldAddr rfl fld_64_3) ?_
 refine zK (ev_load rfl sct_3 (fun hg => by repeat (first | exact Cell.here rfl | apply Cell.there | apply Cell.app))) ?_
 refine XO_callV1 (cap := []) (vs := [_, _, _]) rfl rfl fun_129 (fun hg => w_within I _ _ _) (.some rfl rfl rfl rfl gbt) rfl rfl ?_
 refine XO_and0 rfl rfl rfl rfl rfl ?_
 refine zM ?_
 refine XO_pushT 23 rfl rfl rfl ?_
 refine zK (ev_fieldAddr rfl fld_64_5) ?_
 refine zK (ev_load rfl sct_3 (fun hg => by repeat (first | exact Cell.here rfl | apply Cell.there | apply Cell.app))) ?_
 refine XO_callV1 (cap := []) (vs := [_, _, _]) rfl rfl fun_129 (fun hg => w_within I _ _ _) (.some rfl rfl rfl rfl gbt) rfl rfl ?_
 refine XO_and0 rfl rfl rfl rfl rfl ?_
 refine zM ?_
 refine XO_pushT 28 rfl rfl rfl ?_
 refine zK (ev_fieldAddr rfl fld_64_6) ?_
 refine zK (ev_load rfl sct_3 (fun hg => by repeat (first | exact Cell.here rfl | apply Cell.there | apply Cell.app))) ?_
 refine XO_callV1 (cap := []) (vs := [_, _, _]) rfl rfl fun_129 (fun hg => w_within I _ _ _) (.some rfl rfl rfl rfl gbt) rfl rfl ?_
 refine XO_and0 rfl rfl rfl rfl rfl ?_
 refine zM ?_
 refine XO_pushT 33 rfl rfl rfl ?_
 refine zK (ev_fieldAddr rfl fld_64_7) ?_
 refine zK (ev_load rfl sct_3 (fun hg => by repeat (first | exact Cell.here rfl | apply Cell.there | apply Cell.app))) ?_
 refine XO_callV1 (cap := []) (vs := [_, _, _]) rfl rfl fun_129 (fun hg => w_within I _ _ _) (.some rfl rfl rfl rfl gbt) rfl rfl ?_
 refine XO_and0 rfl rfl rfl rfl rfl ?_
 refine zM ?_
 refine XO_pushT 38 rfl rfl rfl ?_
 refine zK (ev_fieldAddr rfl fld_64_8) ?_
 refine zK (ev_load rfl sct_3 (fun hg => by repeat (first | exact Cell.here rfl | apply Cell.there | apply Cell.app))) ?_
 refine XO_callV1 (cap := []) (vs := [_, _, _]) rfl rfl fun_129 (fun hg => w_within I _ _ _) (.some rfl rfl rfl rfl gbt) rfl rfl ?_
 refine XO_and0 rfl rfl rfl rfl rfl ?_
 refine zM ?_
 refine XO_pushT 43 rfl rfl rfl ?_
 refine zK (ev_fieldAddr rfl fld_64_9) ?_
 refine zK (ev_load rfl sct_3 (fun hg => by repeat (first | exact Cell.here rfl | apply Cell.there | apply Cell.app))) ?_
 refine XO_callV1 (cap := []) (vs := [_, _, _]) rfl rfl fun_129 (fun hg => w_within I _ _ _) (.some rfl rfl rfl rfl gbt) rfl rfl ?_
 refine XO_and0 rfl rfl rfl rfl rfl ?_
 refine zM ?_
 refine XO_pushT 48 rfl rfl rfl ?_
 refine zK (ev_fieldAddr rfl fld_64_10) ?_
 refine zK (ev_loadA rfl agt_62 (fun hg => by first | (repeat (first | exact Cells.here | exact Cells.s0 (vs := [_, _]) rfl | apply Cells.there | apply Cells.app))) rfl) ?_
 refine zK (ev_fieldAddr rfl fld_64_11) ?_
 refine zK (ev_loadA rfl agt_62 (fun hg => by first | (repeat (first | exact Cells.here | exact Cells.s0 (vs := [_, _]) rfl | apply Cells.there | apply Cells.app))) rfl) ?_
 refine XO_callV1 (cap := []) (vs := [_, _]) rfl rfl fun_130 (fun hg => w_fine I _ _ _ _) (.some rfl rfl rfl rfl gbt) rfl rfl ?_
 refine XO_and0 rfl rfl rfl rfl rfl ?_
 refine zA ?_
 refine zN ?_
 refine X_ret ?_
 exact at_ret1 rfl rfl (fun w hw => ⟨by rfl, hw.drop⟩)
theorem w_chkG {I : HMap} {av : Option Addr} {n c : Nat} {xs : List Sg} (hS : Sl I 14 encG av n c xs) (hn : n ≤ 100000) : RetV Tryz.prog 109 [.slice av n c] I (.int .i64 (chkG xs)) := by
 intro g H w hw
 refine enter Tryz.func109 rfl Tryz.ntmps109 rfl hw ?_
 refine zR ?_
 refine zA ?_
 refine zN ?_
 refine X_seq ?_
 refine zR ?_
 refine zM ?_
 refine zQ slt_170 ?_
 refine zC ?_
 refine zN ?_
 refine zI ?_ ?_ <;> intro hc7
 ·
  have h6 : xs.length > 4096 := by rw [hS.len]; simp at hc7; omega
  refine zR ?_
  refine zA ?_
  refine zN ?_
  refine X_ret ?_
  refine at_then_r ?_
  first
  | exact at_ret1 rfl rfl (fun w hw => ⟨by unfold chkG; rw [if_pos h6], hw.drop⟩)
  | exact at_ret1 rfl rfl (fun w hw => ⟨by unfold chkG skB; rw [if_neg h6, range_bad (k := k) (by rw [hS.len]; exact hlt_k) (by rw [skP_at hx, hc32]; rfl)]; rfl, hw.drop⟩)
  | exact at_ret1 rfl rfl (fun w hw => ⟨by unfold chkG skB; rw [if_neg h6, hS.len, show n = k by omega, hall]; rfl, hw.drop⟩)
 have h6 : ¬ xs.length > 4096 := by rw [hS.len]; simp at hc7; omega
 refine X_skip ?_
 refine at_then ?_
 refine X_seq ?_
 refine zR ?_
 refine zM ?_
 refine zQ slt_170 ?_
 refine zM ?_
 refine zN ?_
 refine X_block ?_
 refine X_loopT [(0, _), (8, _), (9, _)] (.cons rfl (.cons rfl (.cons rfl .nil))) (fun T L0 mz E I' loc' => ∃ (k : Nat), mz = n - k ∧ E = (10, .int .i64 k) :: T ∧ I = I' ∧ L0 = loc' ∧ k ≤ n ∧ (List.range k).all (skP xs) = true) _ _ _ _ ⟨0, rfl, rfl, rfl, rfl, Nat.zero_le _, rfl⟩ (.cons rfl (.cons rfl (.cons rfl (.cons rfl .nil)))) (HLe.refl _) rfl ?_
 rintro mz E I' loc' ⟨k, rfl, rfl, rfl, rfl, hk, hall⟩
 refine zR ?_
 refine zC ?_
 refine zN ?_
 refine X_seq ?_
 refine zI ?_ ?_ <;> intro hc11
 ·
  have hlt_k : k < n := by have h := hc11; simp at h; omega
  obtain ⟨x, hx⟩ := hS.at hlt_k
  refine X_skip ?_
  refine at_then ?_
  refine X_seq ?_
  refine X_block ?_
  refine zR ?_
  refine zM ?_
  refine zV (ev_indexSl rfl rfl slt_170 (by assumption) (fun hg => by first | omega | (simp [conj] at hg; omega))) ?_
  refine zV (ev_loadA rfl agt_64 (fun hg => by first | exact Sl.getA hS hx | (repeat (first | exact Cells.here | exact Cells.s0 (vs := [_, _, _, _, _, _, _, _, _, _, _, _, _, _]) rfl | apply Cells.there | apply Cells.app))) rfl) ?_
  refine XO_alloc zt_64 rfl rfl (fun b_4 => ?_)
  refine zA ?_
  refine XO_storeA rfl rfl szt_64 rfl rfl rfl rfl (by repeat (first | exact Upd.here | apply Upd.there | apply upd_app)) ?_
  refine zN ?_
  refine X_seq ?_
  refine X_draw mixed (by kernel_rfl) ?_
  refine XQ_v0 (ev_loadA rfl agt_64 (fun hg => by first | exact Sl.getA hS hx | (repeat (first | exact Cells.here | exact Cells.s0 (vs := [_, _, _, _, _, _, _, _, _, _, _, _, _, _]) rfl | apply Cells.there | apply Cells.app))) rfl) rfl rfl rfl ?_
  refine XQ_callV0 (cap := []) (vs := [_]) rfl rfl fun_119 (w_frm I _) rfl rfl ?_
  refine XQ_v0 (ev_not rfl) rfl rfl rfl ?_
  refine XQ_v0 (ev_move rfl) rfl rfl rfl ?_
  refine XQ_pushF 3 rfl rfl rfl ?_
  refine XQ_v1 (ev_move rfl) (.some rfl rfl rfl rfl gbf) rfl rfl rfl ?_
  refine XQ_v1 (ev_cmp rfl rfl rfl) (.some rfl rfl rfl rfl gbf) rfl rfl rfl ?_
  refine XQ_v1 (ev_move rfl) (.some rfl rfl rfl rfl gbf) rfl rfl rfl ?_
  refine XQ_pushT 6 rfl rfl rfl ?_
  refine XQ_v1 (ev_move rfl) (.some rfl rfl rfl rfl gbt) rfl rfl rfl ?_
  refine XQ_v1 (ev_move rfl) (.some rfl rfl rfl rfl gbt) rfl rfl rfl ?_
  refine XQ_v1 (ev_arB rfl rfl rfl (fun hg => by first | omega | (simp [conj] at hg; omega))) (.some rfl rfl rfl rfl gbt) rfl rfl rfl ?_
  refine XQ_v1 (ev_indexSl rfl rfl slt_170 (by assumption) (fun hg => by first | omega | (simp [conj] at hg; omega))) (.some rfl rfl rfl rfl gbt) rfl rfl rfl ?_
  refine XQ_v1 (ev_fieldAddr rfl fld_64_0) (.some rfl rfl rfl rfl gbt) rfl rfl rfl ?_
  refine XQ_v1 (ev_load rfl sct_3 (fun hg => by first | exact Sl.get0 (k := ((k : Int) - 1).toNat) hS (some_getD (d := zeroG) hS.len (by simp [conj] at hg; omega)) rfl | (repeat (first | exact Cell.here rfl | apply Cell.there | apply Cell.app)))) (.some rfl rfl rfl rfl gbt) rfl rfl rfl ?_
  refine XQ_v1 (ev_fieldAddr rfl fld_64_0) (.some rfl rfl rfl rfl gbt) rfl rfl rfl ?_
  refine XQ_v1 (ev_load rfl sct_3 (fun hg => by first | exact Sl.get0 (k := ((k : Int) - 1).toNat) hS (some_getD (d := zeroG) hS.len (by simp [conj] at hg; omega)) rfl | (repeat (first | exact Cell.here rfl | apply Cell.there | apply Cell.app)))) (.some rfl rfl rfl rfl gbt) rfl rfl rfl ?_
  refine XQ_v1 (ev_cmp rfl rfl rfl) (.some rfl rfl rfl rfl gbt) rfl rfl rfl ?_
  refine XQ_and1 rfl rfl rfl (.some rfl rfl rfl rfl gbf) rfl rfl ?_
  refine XQ_or0 rfl rfl rfl rfl rfl ?_
  refine XQ_nil ?_
  refine at_then ?_
  refine zI ?_ ?_ <;> intro hc32
  ·
   refine zR ?_
   refine zA ?_
   refine zN ?_
   refine X_ret ?_
   refine at_block_r ?_
   refine at_then_r ?_
   refine at_then_r ?_
   refine at_block_r ?_
   refine at_then_r ?_
   first
   | exact at_ret1 rfl rfl (fun w hw => ⟨by unfold chkG; rw [if_pos h6], hw.drop⟩)
   | exact at_ret1 rfl rfl (fun w hw => ⟨by unfold chkG skB; rw [if_neg h6, range_bad (k := k) (by rw [hS.len]; exact hlt_k) (by rw [skP_at hx, hc32]; rfl)]; rfl, hw.drop⟩)
   | exact at_ret1 rfl rfl (fun w hw => ⟨by unfold chkG skB; rw [if_neg h6, hS.len, show n = k by omega, hall]; rfl, hw.drop⟩)
  refine X_skip ?_
  refine at_block_n ?_
  refine at_then ?_
  refine X_region ?_
  refine zB ?_
  refine zM ?_
  refine XO_nil ?_
  exact at_met2 _ _ ⟨n - (k + 1), by omega, k + 1, rfl, rfl, rfl, rfl, by omega, range_step hall (by rw [skP_at hx, hc32]; rfl)⟩ (.cons rfl (.cons rfl (.cons rfl (.cons rfl .nil)))) (by repeat (first | exact .refl | exact subL_left | refine subL_app ?_ | refine .drop ?_ | refine subL_add ?_))
 have hge_k : n ≤ k := by have h := hc11; simp at h; omega
 refine X_exit ?_
 refine at_then_e ?_
 refine at_then_e ?_
 refine at_block_hit ?_
 refine at_then ?_
 refine zR ?_
 refine zA ?_
 refine zN ?_
 refine X_ret ?_
 first
 | exact at_ret1 rfl rfl (fun w hw => ⟨by unfold chkG; rw [if_pos h6], hw.drop⟩)
 | exact at_ret1 rfl rfl (fun w hw => ⟨by unfold chkG skB; rw [if_neg h6, range_bad (k := k) (by rw [hS.len]; exact hlt_k) (by rw [skP_at hx, hc32]; rfl)]; rfl, hw.drop⟩)
 | exact at_ret1 rfl rfl (fun w hw => ⟨by unfold chkG skB; rw [if_neg h6, hS.len, show n = k by omega, hall]; rfl, hw.drop⟩)
theorem w_numbers (I : HMap) (b : Nat) : RetV Tryz.prog 108 [capP b] I (.agg (numL b).toArray) := by
 intro g H w hw
 refine enter Tryz.func108 rfl Tryz.ntmps108 rfl hw ?_
 refine zR ?_
 refine XO_alloc zt_166 rfl rfl (fun b_2 => ?_)
 refine zN ?_
 refine X_seq ?_
 have hD := HLe.refl I
 refine X_noP ?_
 refine X_drawS I [] mixed ?_
 refine zT 0 rfl (ev_move rfl) hD ?_
 refine zT 1 rfl (ev_nilCheck rfl) hD ?_
 refine zT 2 rfl (ev_fieldAddr rfl fld_64_1) hD ?_
 refine zT 3 rfl (ev_move rfl) hD ?_
 refine zT 4 rfl (ev_nilCheck rfl) hD ?_
 refine zT 5 rfl (ev_fieldAddr rfl fld_64_2) hD ?_
 refine zT 6 rfl (ev_move rfl) hD ?_
 refine zT 7 rfl (ev_nilCheck rfl) hD ?_
 refine zT 8 rfl (ev_fieldAddr rfl fld_64_3) hD ?_
 refine zT 9 rfl (ev_move rfl) hD ?_
 refine zT 10 rfl (ev_nilCheck rfl) hD ?_
 refine zT 11 rfl (ev_fieldAddr rfl fld_64_5) hD ?_
 refine zT 12 rfl (ev_move rfl) hD ?_
 refine zT 13 rfl (ev_nilCheck rfl) hD ?_
 refine zT 14 rfl (ev_fieldAddr rfl fld_64_6) hD ?_
 refine zT 15 rfl (ev_move rfl) hD ?_
 refine zT 16 rfl (ev_nilCheck rfl) hD ?_
 refine zT 17 rfl (ev_fieldAddr rfl fld_64_7) hD ?_
 refine zT 18 rfl (ev_move rfl) hD ?_
 refine zT 19 rfl (ev_nilCheck rfl) hD ?_
 refine zT 20 rfl (ev_fieldAddr rfl fld_64_8) hD ?_
 refine zT 21 rfl (ev_move rfl) hD ?_
 refine zT 22 rfl (ev_nilCheck rfl) hD ?_
 refine zT 23 rfl (ev_fieldAddr rfl fld_64_9) hD ?_
 refine zT 24 rfl (ev_buildArr (ps := [(1, _), (2, _), (3, _), (4, _), (5, _), (6, _), (7, _), (8, _)]) [_, _, _, _, _, _, _, _, _] art_166 zt_166 rfl rfl) hD ?_
 refine XD_one 25 rfl (by kernel_rfl) ?_
 refine XO_storeA rfl rfl szt_166 rfl rfl rfl rfl (by repeat (first | exact Upd.here | apply Upd.there | apply upd_app)) ?_
 refine XO_nil ?_
 refine zD hD ?_
 refine XD_done (by kernel_rfl) ?_
 refine at_noP ?_
 refine at_then ?_
 refine X_ret ?_
 exact at_retA rfl rfl agt_166 Cells.g0 rfl (fun w hw => ⟨rfl, hw.drop⟩)
theorem w_set (I : HMap) (x : Sg) (f : Int) (y : Sg) (hf : isF f) : RetV Tryz.prog 85 [encGA x, .int .i64 f, encGA y] I (encGA (setG x f y)) := by
 intro g H w hw
 refine enter Tryz.func85 rfl Tryz.ntmps85 rfl hw ?_
 refine zR ?_
 refine XO_box rfl rfl rfl (fun b_3 => ?_)
 refine XO_box rfl rfl rfl (fun b_5 => ?_)
 refine XO_alloc zt_64 rfl rfl (fun b_6 => ?_)
 refine zN ?_
 refine X_seq ?_
 refine zR ?_
 refine zM ?_
 refine zC ?_
 refine zN ?_
 refine zI ?_ ?_ <;> intro hc8
 ·
  have hf9 : f = 9 := by simpa using hc8
  refine zR ?_
  refine zF fld_64_10 ?_
  refine zV (ev_loadA rfl agt_62 (fun hg => by first | (repeat (first | exact Cells.here | exact Cells.s0 (vs := [_, _]) rfl | apply Cells.there | apply Cells.app))) rfl) ?_
  refine zF fld_64_11 ?_
  refine zV (ev_loadA rfl agt_62 (fun hg => by first | (repeat (first | exact Cells.here | exact Cells.s0 (vs := [_, _]) rfl | apply Cells.there | apply Cells.app))) rfl) ?_
  refine zF fld_64_10 ?_
  refine XO_storeP rfl rfl szt_62 rfl rfl rfl rfl (by repeat (first | exact Upd.here | apply Upd.there | apply upd_app)) ?_
  refine zF fld_64_11 ?_
  refine XO_storeP rfl rfl szt_62 rfl rfl rfl rfl (by repeat (first | exact Upd.here | apply Upd.there | apply upd_app)) ?_
  refine zN (zR ?_)
  refine zV (ev_loadA rfl agt_64 (fun hg => by first | (repeat (first | exact Cells.here | exact Cells.s0 (vs := [_, _, _, _, _, _, _, _, _, _, _, _, _, _]) rfl | apply Cells.there | apply Cells.app))) rfl) ?_
  refine XO_storeA rfl rfl szt_64 rfl rfl rfl rfl (by repeat (first | exact Upd.here | apply Upd.there | apply upd_app)) ?_
  refine zN ?_
  refine X_ret ?_
  refine at_then_r ?_
  first
  | exact at_retA rfl rfl agt_64 Cells.g0 rfl (fun w hw => ⟨by rw [hf9]; rfl, hw.drop⟩)
  | exact at_retA rfl rfl agt_64 Cells.g0 rfl (fun w hw => ⟨rfl, hw.drop⟩)
 have hf8 : 1 ≤ f ∧ f ≤ 8 := by have h := hc8; unfold isF at hf; simp at h; omega
 refine X_skip ?_
 refine at_then ?_
 refine X_seq ?_
 have hD := HLe.refl I
 refine X_noP ?_
 refine X_drawS I [(b_5, .cells (encGA y).cells 64 (0, 0))] mixed ?_
 refine zT 1 rfl (ev_move rfl) hD ?_
 refine zT 4 rfl (ev_move rfl) hD ?_
 refine XD_one 0 rfl (by kernel_rfl) ?_
 refine XO_callV0 (cap := []) (vs := [_]) rfl rfl fun_108 (w_numbers I _) rfl rfl ?_
 refine XO_nil ?_
 refine zD hD ?_
 refine XD_two 2 3 rfl rfl (by kernel_rfl) ?_ ?_
 ·
  refine zV (ev_index rfl rfl art_166 sct_165 (fun hg => by omega) (fun hg => num_at hf8 b_3)) ?_
  refine XO_nil ?_
  refine zD hD ?_
  refine XD_one 3 rfl (by kernel_rfl) ?_
  refine XO_callV0 (cap := []) (vs := [_]) rfl rfl fun_108 (w_numbers I _) rfl rfl ?_
  refine XO_nil ?_
  refine zD hD ?_
  refine XD_one 5 rfl (by kernel_rfl) ?_
  refine zV (ev_index rfl rfl art_166 sct_165 (fun hg => by omega) (fun hg => num_at hf8 b_5)) ?_
  refine XO_nil ?_
  refine zD hD ?_
  refine zT 6 rfl (ev_nilCheck rfl) hD ?_
  refine zT 7 rfl (ev_load rfl sct_3 (fun hg => by first | exact Cell.h0 (cell_fo hf8 y) | (repeat (first | exact Cell.here rfl | apply Cell.there | apply Cell.app)))) hD ?_
  refine zT 8 rfl (ev_nilCheck rfl) hD ?_
  refine XD_one 9 rfl (by kernel_rfl) ?_
  refine XO_store rfl rfl szt_3 rfl rfl Upd.u2 (by exact fo_lt) ?_
  rw [show (encGA x).cells.setIfInBounds (foF f) (.int .i64 (getF y f)) = (encG (setG x f y)).toArray from set_fo hf8 x y]
  refine XO_nil ?_
  refine zD hD ?_
  refine XD_done (by kernel_rfl) ?_
  refine at_noP ?_
  refine at_then ?_
  refine zR ?_
  refine zV (ev_loadA rfl agt_64 (fun hg => by first | (repeat (first | exact Cells.here | exact Cells.s0 (vs := [_, _, _, _, _, _, _, _, _, _, _, _, _, _]) rfl | apply Cells.there | apply Cells.app))) rfl) ?_
  refine XO_storeA rfl rfl szt_64 rfl rfl rfl rfl (by repeat (first | exact Upd.here | apply Upd.there | apply upd_app)) ?_
  refine zN ?_
  refine X_ret ?_
  first
  | exact at_retA rfl rfl agt_64 Cells.g0 rfl (fun w hw => ⟨by rw [hf9]; rfl, hw.drop⟩)
  | exact at_retA rfl rfl agt_64 Cells.g0 rfl (fun w hw => ⟨rfl, hw.drop⟩)
 refine XO_callV0 (cap := []) (vs := [_]) rfl rfl fun_108 (w_numbers I _) rfl rfl ?_
 refine XO_nil ?_
 refine zD hD ?_
 refine XD_two 2 5 rfl rfl (by kernel_rfl) ?_ ?_
 ·
  refine zV (ev_index rfl rfl art_166 sct_165 (fun hg => by omega) (fun hg => num_at hf8 b_3)) ?_
  refine XO_nil ?_
  refine zD hD ?_
  refine XD_one 5 rfl (by kernel_rfl) ?_
  refine zV (ev_index rfl rfl art_166 sct_165 (fun hg => by omega) (fun hg => num_at hf8 b_5)) ?_
  refine XO_nil ?_
  refine zD hD ?_
  refine zT 6 rfl (ev_nilCheck rfl) hD ?_
  refine zT 7 rfl (ev_load rfl sct_3 (fun hg => by first | exact Cell.h0 (cell_fo hf8 y) | (repeat (first | exact Cell.here rfl | apply Cell.there | apply Cell.app)))) hD ?_
  refine zT 8 rfl (ev_nilCheck rfl) hD ?_
  refine XD_one 9 rfl (by kernel_rfl) ?_
  refine XO_store rfl rfl szt_3 rfl rfl Upd.u2 (by exact fo_lt) ?_
  rw [show (encGA x).cells.setIfInBounds (foF f) (.int .i64 (getF y f)) = (encG (setG x f y)).toArray from set_fo hf8 x y]
  refine XO_nil ?_
  refine zD hD ?_
  refine XD_done (by kernel_rfl) ?_
  refine at_noP ?_
  refine at_then ?_
  refine zR ?_
  refine zV (ev_loadA rfl agt_64 (fun hg => by first | (repeat (first | exact Cells.here | exact Cells.s0 (vs := [_, _, _, _, _, _, _, _, _, _, _, _, _, _]) rfl | apply Cells.there | apply Cells.app))) rfl) ?_
  refine XO_storeA rfl rfl szt_64 rfl rfl rfl rfl (by repeat (first | exact Upd.here | apply Upd.there | apply upd_app)) ?_
  refine zN ?_
  refine X_ret ?_
  first
  | exact at_retA rfl rfl agt_64 Cells.g0 rfl (fun w hw => ⟨by rw [hf9]; rfl, hw.drop⟩)
  | exact at_retA rfl rfl agt_64 Cells.g0 rfl (fun w hw => ⟨rfl, hw.drop⟩)
 refine zV (ev_index rfl rfl art_166 sct_165 (fun hg => by omega) (fun hg => num_at hf8 b_5)) ?_
 refine XO_nil ?_
 refine zD hD ?_
 refine zT 6 rfl (ev_nilCheck rfl) hD ?_
 refine zT 7 rfl (ev_load rfl sct_3 (fun hg => by first | exact Cell.h0 (cell_fo hf8 y) | (repeat (first | exact Cell.here rfl | apply Cell.there | apply Cell.app)))) hD ?_
 refine XD_one 2 rfl (by kernel_rfl) ?_
 refine zV (ev_index rfl rfl art_166 sct_165 (fun hg => by omega) (fun hg => num_at hf8 b_3)) ?_
 refine XO_nil ?_
 refine zD hD ?_
 refine zT 8 rfl (ev_nilCheck rfl) hD ?_
 refine XD_one 9 rfl (by kernel_rfl) ?_
 refine XO_store rfl rfl szt_3 rfl rfl Upd.u2 (by exact fo_lt) ?_
 rw [show (encGA x).cells.setIfInBounds (foF f) (.int .i64 (getF y f)) = (encG (setG x f y)).toArray from set_fo hf8 x y]
 refine XO_nil ?_
 refine zD hD ?_
 refine XD_done (by kernel_rfl) ?_
 refine at_noP ?_
 refine at_then ?_
 refine zR ?_
 refine zV (ev_loadA rfl agt_64 (fun hg => by first | (repeat (first | exact Cells.here | exact Cells.s0 (vs := [_, _, _, _, _, _, _, _, _, _, _, _, _, _]) rfl | apply Cells.there | apply Cells.app))) rfl) ?_
 refine XO_storeA rfl rfl szt_64 rfl rfl rfl rfl (by repeat (first | exact Upd.here | apply Upd.there | apply upd_app)) ?_
 refine zN ?_
 refine X_ret ?_
 first
 | exact at_retA rfl rfl agt_64 Cells.g0 rfl (fun w hw => ⟨by rw [hf9]; rfl, hw.drop⟩)
 | exact at_retA rfl rfl agt_64 Cells.g0 rfl (fun w hw => ⟨rfl, hw.drop⟩)
end Go.Proofs.YtclkmnidgdkekaaGreat
end
section
namespace Go.Kn
open Go Go.Sort Go.Shelf Go.Lib Go.Proofs
/-- Behind a call that reads: the world has grown, and has drawn. -/
theorem grown_of {w w' : World} {L : Loc} (h : St w (fun b => w.heap[b]?) (fun _ => none) L w') : ∃ q os', w' = grow (w.drewN q) os' := by
  refine ⟨w'.drawn - w.drawn, w'.heap.extract w.heap.size w'.heap.size, ?_⟩
  have h1 := h.size
  have hh : w.heap ++ w'.heap.extract w.heap.size w'.heap.size = w'.heap := by
    apply Array.ext'
    apply List.ext_getElem?
    intro i
    by_cases hi : i < w.heap.size
    · have := h.imm i _ (Array.getElem?_eq_getElem hi)
      rw [Array.getElem?_toList, Array.getElem?_toList, this, Array.getElem?_append_left hi, Array.getElem?_eq_getElem hi]
    · rw [Array.getElem?_toList, Array.getElem?_toList, Array.getElem?_append_right (by omega), Array.getElem?_extract]
      by_cases h2 : i < w'.heap.size
      · rw [if_pos (by omega), show w.heap.size + (i - w.heap.size) = i by omega]
      · rw [if_neg (by omega), Array.getElem?_eq_none (by omega)]
  have e1 := h.os; have e2 := h.tape; have e3 := h.out
  cases w; cases w'
  simp only [grow, World.drewN] at *
  subst e1; subst e2; subst e3
  simp only [World.mk.injEq, true_and, and_true]
  exact ⟨hh.symm, by omega⟩
theorem flat_eq {α : Type} [Inhabited α] {enc : α → List Value} {k : Nat} (hk : ∀ x, (enc x).length = k) (hpos : 0 < k) (xs : List α) : flatK enc k xs.toArray = (xs.flatMap enc).toArray := by
  have hl : (xs.flatMap enc).length = xs.length * k := flat_len hk xs
  apply Array.ext
  · rw [size_flatK]; simp [hl]
  · intro t h1 h2
    have ht : t < xs.length * k := by rw [size_flatK] at h1; simpa using h1
    have hq : t / k < xs.length := by rw [Nat.div_lt_iff_lt_mul hpos]; exact ht
    have hr : t % k < k := Nat.mod_lt _ hpos
    have hx : xs[t / k]? = some xs[t / k] := List.getElem?_eq_getElem hq
    have hu : (enc xs[t / k])[t % k]? = some ((enc xs[t / k])[t % k]'(by rw [hk]; exact hr)) := List.getElem?_eq_getElem _
    have h3 := flat_at hk xs (t / k) _ hx (t % k) _ hu
    rw [Nat.mul_comm, Nat.div_add_mod] at h3
    have h4 := get_flatK enc k xs.toArray t (by simpa using ht)
    rw [getElem!_pos (flatK enc k xs.toArray) t h1] at h4
    rw [h4]
    have e1 : xs.toArray[t / k]! = xs[t / k]'hq := by simp [hq]
    rw [e1]
    have e2 : (enc (xs[t / k]'hq))[t % k]! = (enc (xs[t / k]'hq))[t % k]'(by rw [hk]; exact hr) := getElem!_pos (enc (xs[t / k]'hq)) (t % k) (by rw [hk]; exact hr)
    rw [e2]
    have e3 : (xs.flatMap enc).toArray[t]? = some ((enc xs[t / k])[t % k]'(by rw [hk]; exact hr)) := by simpa using h3
    rw [Array.getElem?_eq_getElem h2] at e3
    exact (Option.some.inj e3).symm
theorem retSortK {α : Type} [Inhabited α] {P : Program} {f g0 : FuncId} {e : TypeId} {k : Nat} {enc : α → List Value} {cf : α → α → Int} (hk : ∀ x, (enc x).length = k) (hpos : 0 < k)
    (hs : ∀ (blk off cap : Nat) (d : Array α) (w : World), CmpLays P g0 #[] enc k cf blk off d.size w → HoldsK enc k w blk off d → blk < w.heap.size → d.size < 4611686018427387904 →
      Calls P f #[.slice (some ⟨blk, off, none⟩) d.size cap, .func (.func g0) #[] #[]] w fun e w' => e = .returned (.tuple #[]) ∧ ∃ d' n os, PermIn 0 d.size d d' ∧ SortedIn (ltOf cf) 0 d.size d' ∧ w' = sortWorldK enc k w blk off n d' os)
    (h0 : ∀ (p : Option Addr) (cap : Nat) (fv : Value) (w : World), Calls P f #[.slice p 0 cap, fv] w fun e w' => e = .returned (.tuple #[]) ∧ w' = w)
    (hcmp : ∀ (I : HMap) (x y : α), RetV P g0 [.agg (enc x).toArray, .agg (enc y).toArray] I (.int .i64 (cf x y)))
    (zs : List α) {v : Value} {n : Nat} {L : Loc} (hO : OwnS e k v n (zs.flatMap enc) L) (hn : n ≤ 1000000) (I : HMap) :
    RetM P f [v, .func (.func g0) #[] #[]] I L (fun u I' L' => u = .tuple #[] ∧ I' = I ∧ ∃ zs' : List α, zs'.Perm zs ∧ zs'.Pairwise (fun x y => ltOf cf y x = false) ∧ OwnS e k v n (zs'.flatMap enc) L') := by
  intro g H w hw
  have hl : zs.length = n := by
    have := hO.1
    rw [flat_len hk] at this
    exact Nat.eq_of_mul_eq_mul_right hpos this
  subst hl
  rcases hO.2 with ⟨rfl, h00, rfl⟩ | ⟨b, c, cur, rfl, rfl, hc, hc2, hsz, htk⟩
  · have : zs = [] := List.length_eq_zero_iff.1 h00
    subst this
    refine (h0 none 0 _ w).mono ?_
    rintro e w' ⟨rfl, rfl⟩
    exact ⟨_, I, [], rfl, HLe.refl _, hw, rfl, rfl, [], .nil, .nil, by simp, .inl ⟨rfl, rfl, rfl⟩⟩
  · have hb := hw.own b _ (List.mem_singleton.2 rfl)
    have hbs : b < w.heap.size := (Array.getElem?_eq_some_iff.1 hb).1
    have hfl : (zs.flatMap enc).length = zs.length * k := flat_len hk zs
    have hH : HoldsK enc k w b 0 zs.toArray := by
      unfold HoldsK
      rw [flat_eq hk hpos]
      exact holds_own (enc := id) hw (List.mem_singleton.2 rfl) (zs.flatMap enc) (by rw [hfl, htk]; simp)
    have hC : CmpLays P g0 #[] enc k cf b 0 zs.toArray.size w := by
      intro m os dk _ x y
      have h1 := hcmp (fun q => (sortWorldK enc k w b 0 m dk os).heap[q]?) x y (sortWorldK enc k w b 0 m dk os) (fun _ => none) (sortWorldK enc k w b 0 m dk os)
        ⟨rfl, rfl, rfl, ⟨Nat.le_refl _, Nat.le_refl _⟩, fun _ _ h => h, (fun _ _ h => by cases h), (fun _ _ h => by cases h), fun _ => .inr rfl, (fun _ _ h => by cases h), by simp⟩
      refine Calls.mono h1 ?_
      rintro e w' ⟨rfl, hs⟩
      exact ⟨rfl, grown_of hs⟩
    have hcall := hs b 0 c zs.toArray w hC hH hbs (by simp; omega)
    rw [List.size_toArray] at hcall
    refine hcall.mono ?_
    rintro e w' ⟨rfl, d', m, os, hp, hsd, rfl⟩
    have hps : d'.size = zs.length := by simpa using hp.1
    have hperm : d'.toList.Perm zs := by
      have := hp.2.2
      simpa [Array.extract_eq_self_of_le, hps] using this
    have hdl : d' = d'.toList.toArray := by simp
    have hfd : (d'.toList.flatMap enc).length = zs.length * k := by rw [flat_len hk, Array.length_toList, hps]
    refine ⟨_, I, [(b, .cells (putCells id 0 (d'.toList.flatMap enc).toArray cur) e (0, 0))], rfl, HLe.refl _, ?_, rfl, rfl, d'.toList, hperm, ?_, ?_⟩
    · unfold sortWorldK putRowK
      rw [hdl, flat_eq hk hpos]
      simp only [List.toList_toArray]
      exact (((hw.aheadN m).rowPut (enc := id) _ .here).grown os)
    · rw [List.pairwise_iff_getElem]
      intro i j hi hj hij
      have := hsd i j (Nat.zero_le _) hij (by rw [← hps]; simpa using hj)
      rw [getElem!_pos d' i (by simpa using hi), getElem!_pos d' j (by simpa using hj)] at this
      simpa using this
    · refine ⟨by rw [hfd], .inr ⟨b, c, _, rfl, rfl, hc, hc2, by simp [putCells, hsz], ?_⟩⟩
      have := take_put (enc := id) (cs := cur) (n := zs.length * k) (d'.toList.flatMap enc) hfd (by rw [hsz]; exact Nat.mul_le_mul_right k hc)
      simpa using this
end Go.Kn
end
section
namespace Go.Proofs.YtclkmnidgdkekaaGreat
open Go Go.Kn
def sortI (zs : List Int) : List Int := zs.mergeSort fun x y => decide (x ≤ y)
theorem flat_int (zs : List Int) : zs.flatMap encI = zs.map (Value.int .i64) := by
  induction zs with
  | nil => rfl
  | cons z zs ih => rw [List.flatMap_cons, ih]; rfl
theorem comp_inv (d : Array Int) (hs : ∀ j, 0 < j → j < d.size → d[j - 1]! ≤ d[j]!) : ∀ m, m ≤ d.size → (Lib.compactUpTo d m).Pairwise (· < ·) ∧ (∀ x ∈ Lib.compactUpTo d m, 0 < m ∧ x ≤ d[m - 1]!) ∧ ∀ x, x ∈ Lib.compactUpTo d m ↔ ∃ j, j < m ∧ d[j]! = x
  | 0, _ => ⟨.nil, (fun x h => by cases h), fun x => ⟨(fun h => by cases h), fun ⟨j, h, _⟩ => by omega⟩⟩
  | m + 1, hm => by
    obtain ⟨h1, h2, h3⟩ := comp_inv d hs m (by omega)
    rw [Lib.compactUpTo_succ]
    by_cases hk : Lib.keeps d m = true
    · rw [if_pos hk]
      have hlt : ∀ x ∈ Lib.compactUpTo d m, x < d[m]! := fun x hx => by
        obtain ⟨a, b⟩ := h2 x hx
        have h4 := hs m a (by omega)
        unfold Lib.keeps at hk
        have h5 := of_decide_eq_true hk
        omega
      refine ⟨?_, ?_, ?_⟩
      · rw [List.pairwise_append]
        exact ⟨h1, List.pairwise_singleton .., fun y hy z hz => by rw [List.mem_singleton] at hz; rw [hz]; exact hlt y hy⟩
      · intro x hx
        refine ⟨by omega, ?_⟩
        rw [show m + 1 - 1 = m from by omega]
        rcases List.mem_append.1 hx with hx | hx
        · have := hlt x hx; omega
        · rw [List.mem_singleton] at hx; rw [hx]; exact Int.le_refl _
      · intro x
        rw [List.mem_append, h3, List.mem_singleton]
        constructor
        · rintro (⟨j, a, b⟩ | e)
          · exact ⟨j, by omega, b⟩
          · exact ⟨m, by omega, e.symm⟩
        · rintro ⟨j, a, b⟩
          by_cases e : j = m
          · subst e; exact .inr b.symm
          · exact .inl ⟨j, by omega, b⟩
    · rw [if_neg hk, List.append_nil]
      unfold Lib.keeps at hk
      have h5 : ¬ (m = 0 ∨ d[m]! ≠ d[m - 1]!) := fun h => hk (decide_eq_true h)
      have h6 : 0 < m ∧ d[m]! = d[m - 1]! := by omega
      refine ⟨h1, ?_, ?_⟩
      · intro x hx
        have := h2 x hx
        rw [show m + 1 - 1 = m from by omega]
        omega
      · intro x
        rw [h3]
        constructor
        · rintro ⟨j, a, b⟩; exact ⟨j, by omega, b⟩
        · rintro ⟨j, a, b⟩
          by_cases e : j = m
          · subst e; exact ⟨j - 1, by omega, by rw [← h6.2]; exact b⟩
          · exact ⟨j, by omega, b⟩
theorem comp_sort (zs : List Int) : (Lib.compact (sortI zs)).Pairwise (· < ·) ∧ ∀ x, x ∈ Lib.compact (sortI zs) ↔ x ∈ zs := by
  have hp : (sortI zs).Pairwise (fun a b => decide (a ≤ b) = true) := List.pairwise_mergeSort (by intro a b c; simp; omega) (by intro a b; simp; omega) zs
  have hget : ∀ j, j < (sortI zs).length → (sortI zs).toArray[j]! = (sortI zs)[j]! := fun j hj => by simp
  have hs : ∀ j, 0 < j → j < (sortI zs).toArray.size → (sortI zs).toArray[j - 1]! ≤ (sortI zs).toArray[j]! := by
    intro j h0 hj
    have hj' : j < (sortI zs).length := by simpa using hj
    have h1 := List.pairwise_iff_getElem.1 hp (j - 1) j (by omega) hj' (by omega)
    have h2 := of_decide_eq_true h1
    simpa [hj', show j - 1 < (sortI zs).length from by omega] using h2
  obtain ⟨h1, _, h3⟩ := comp_inv (sortI zs).toArray hs (sortI zs).length (by simp)
  refine ⟨h1, fun x => ?_⟩
  unfold Lib.compact
  rw [h3]
  have hmem : x ∈ sortI zs ↔ x ∈ zs := (List.mergeSort_perm zs _).mem_iff
  rw [← hmem]
  constructor
  · rintro ⟨j, hj, e⟩
    have : (sortI zs)[j] = x := by simpa [hj] using e
    rw [← this]; exact List.getElem_mem hj
  · intro h
    obtain ⟨j, hj, e⟩ := List.getElem_of_mem h
    exact ⟨j, hj, by simpa [hj] using e⟩
theorem comp_sort_eq {zs ys : List Int} (hy : ys.Pairwise (· < ·)) (h : ∀ x, x ∈ zs ↔ x ∈ ys) : Lib.compact (sortI zs) = ys :=
  sorted_ext (comp_sort zs).1 hy fun a => by rw [(comp_sort zs).2, h]
end Go.Proofs.YtclkmnidgdkekaaGreat
end
section
namespace Go.Proofs.YtclkmnidgdkekaaGreat
open Go Go.Kn Go.Proofs
theorem half_eq (i j : Nat) (h : i + j ≤ 1000000) : IntKind.i64.wrap ((IntKind.u64.wrap ((i : Int) + (j : Int))).fdiv (2 ^ 1)) = (((i + j) / 2 : Nat) : Int) := by
  have h1 : IntKind.u64.wrap ((i : Int) + (j : Int)) = ((i + j : Nat) : Int) := by
    rw [show ((i : Int) + (j : Int)) = ((i + j : Nat) : Int) by omega]
    exact u64_id ⟨by omega, by omega⟩
  rw [h1, show ((2 : Int) ^ 1) = ((2 : Nat) : Int) from rfl, Int.fdiv_eq_ediv_of_nonneg _ (by omega), ← Int.natCast_ediv]
  exact wrap_in ⟨by omega, by omega⟩
theorem cmp_lt {x y : Int} : decide (cmpF x y < 0) = decide (x < y) := by
  unfold cmpF
  by_cases h : x < y
  · rw [if_pos h]; simp [h]
  · rw [if_neg h]; split <;> simp [h]
section
variable {α : Type} {key : α → Int} {xs : List α} {t : Int}
theorem bs_lo (hs : xs.Pairwise (fun a b => key a < key b)) {h : Nat} {y : α} (hy : xs[h]? = some y) (hlt : key y < t) : ∀ q z, q < h + 1 → xs[q]? = some z → key z < t := fun q z hq hz => by
  obtain ⟨h1, h2⟩ := List.getElem?_eq_some_iff.1 hz
  obtain ⟨h3, h4⟩ := List.getElem?_eq_some_iff.1 hy
  by_cases e : q = h
  · subst e; rw [hy] at hz; cases hz; exact hlt
  · have := List.pairwise_iff_getElem.1 hs q h h1 h3 (by omega)
    rw [h2, h4] at this; omega
theorem bs_hi (hs : xs.Pairwise (fun a b => key a < key b)) {h : Nat} {y : α} (hy : xs[h]? = some y) (hlt : ¬ key y < t) : ∀ q z, h ≤ q → xs[q]? = some z → ¬ key z < t := fun q z hq hz => by
  obtain ⟨h1, h2⟩ := List.getElem?_eq_some_iff.1 hz
  obtain ⟨h3, h4⟩ := List.getElem?_eq_some_iff.1 hy
  by_cases e : q = h
  · subst e; rw [hy] at hz; cases hz; exact hlt
  · have := List.pairwise_iff_getElem.1 hs h q h3 h1 (by omega)
    rw [h2, h4] at this; omega
/-- The number found: how many are less. -/
def lowK (key : α → Int) (xs : List α) (t : Int) : Nat := (xs.takeWhile fun x => decide (key x < t)).length
theorem low_at {i : Nat} (hi : i ≤ xs.length) (hlo : ∀ q z, q < i → xs[q]? = some z → key z < t) (hhi : ∀ q z, i ≤ q → xs[q]? = some z → ¬ key z < t) : lowK key xs t = i := by
  unfold lowK
  have h1 : (xs.take i).all (fun x => decide (key x < t)) = true := by
    rw [List.all_eq_true]
    intro z hz
    obtain ⟨q, hq⟩ := List.getElem?_of_mem hz
    have hq1 : q < i := by have := (List.getElem?_eq_some_iff.1 hq).1; rw [List.length_take] at this; omega
    rw [List.getElem?_take_of_lt hq1] at hq
    exact decide_eq_true (hlo q z hq1 hq)
  rw [(tw_eq h1 hi (fun y hy => decide_eq_false (hhi i y (Nat.le_refl _) hy))).1, List.length_take]; omega
theorem found_at {i n : Nat} {d : α} (hl : xs.length = n) (hlo : ∀ q z, q < i → xs[q]? = some z → key z < t) (hhi : ∀ q z, i ≤ q → xs[q]? = some z → ¬ key z < t) (hs : xs.Pairwise (fun a b => key a < key b)) : (decide ((i : Int) < (n : Int)) && (key (xs.getD i d) == t)) = xs.any fun x => key x == t := by
  rw [Bool.eq_iff_iff, List.any_eq_true, Bool.and_eq_true]
  constructor
  · rintro ⟨h1, h2⟩
    have hi : i < n := by have := of_decide_eq_true h1; omega
    exact ⟨_, List.mem_of_getElem? (some_getD hl hi), h2⟩
  · rintro ⟨x, hx, e⟩
    have e : key x = t := by simpa using e
    obtain ⟨q, hq⟩ := List.getElem?_of_mem hx
    have hqn := (List.getElem?_eq_some_iff.1 hq).1
    have h1 : i ≤ q := by
      rcases Nat.lt_or_ge q i with h | h
      · have := hlo q x h hq; omega
      · exact h
    have h2 : q = i := by
      by_cases e2 : q = i
      · exact e2
      · have hy := some_getD (d := d) hl (show i < n by omega)
        obtain ⟨h3, h4⟩ := List.getElem?_eq_some_iff.1 hq
        obtain ⟨h5, h6⟩ := List.getElem?_eq_some_iff.1 hy
        have h7 := List.pairwise_iff_getElem.1 hs i q h5 h3 (by omega)
        rw [h4, h6] at h7
        have := hhi i _ (Nat.le_refl _) hy
        omega
    subst h2
    refine ⟨decide_eq_true (by omega), ?_⟩
    rw [getD_of hq, e]; simp
end
instance : Inhabited Sg := ⟨zeroG⟩
end Go.Proofs.YtclkmnidgdkekaaGreat
end
section
namespace Go.Proofs.YtclkmnidgdkekaaGreat
open Go Go.Kn Go.Proofs
def incP (v : List Int) (i : Nat) : Bool := !(decide ((i : Int) > 0) && decide (v.getD i 0 ≤ v.getD ((i : Int) - 1).toNat 0))
theorem incB_eq {v : List Int} : incB v = (List.range v.length).all (incP v) := rfl
theorem incP_zero (v : List Int) : (List.range 1).all (incP v) = true := by simp [incP]
theorem incP_at {v : List Int} {k : Nat} {x : Int} (hx : v[k]? = some x) (h : 1 ≤ k) : incP v k = !decide (x ≤ v.getD ((k : Int) - 1).toNat 0) := by
  unfold incP
  rw [getD_of hx, decide_eq_true (show (k : Int) > 0 by omega), Bool.true_and]
theorem range_cut {p : Nat → Bool} {n k : Nat} (h : (List.range k).all p = true) (hn : n ≤ k) : (List.range n).all p = true := by
  rw [List.all_eq_true] at *
  intro i hi
  exact h i (List.mem_range.2 (Nat.lt_of_lt_of_le (List.mem_range.1 hi) hn))
end Go.Proofs.YtclkmnidgdkekaaGreat
end
section
namespace Go.Proofs
open Go.Shelf
def Tryz.lays189_ren : Go.Shelf.Ren := ⟨fun | 189 => 31 | 125 => 65 | 257 => 64 | 128 => 98 | 129 => 99 | 294 => 90 | 295 => 91 | 296 => 92 | 297 => 93 | 298 => 94 | 299 => 95 | 216 => 60 | 300 => 96 | 301 => 97 | 328 => 111 | 329 => 112 | 330 => 113 | 331 => 114 | 332 => 115 | 215 => 80 | 343 => 120 | n => n, fun | 28 => 24 | 3 => 3 | 46 => 118 | 0 => 0 | 51 => 158 | 53 => 160 | 4 => 4 | 183 => 153 | 182 => 152 | 131 => 77 | 5 => 5 | 9 => 9 | 218 => 171 | 222 => 165 | 228 => 179 | 229 => 180 | n => n, fun | n => n⟩
theorem Tryz.lays189 : Go.Proofs.Lays.n189 Tryz.prog Tryz.lays189_ren := {
  mixed := by kernel_rfl
  f125 := Tryz.func65.trans (congrArg some (by kernel_rfl))
  f128 := Tryz.func98.trans (congrArg some (by kernel_rfl))
  f129 := Tryz.func99.trans (congrArg some (by kernel_rfl))
  f189 := Tryz.func31.trans (congrArg some (by kernel_rfl))
  f215 := Tryz.func80.trans (congrArg some (by kernel_rfl))
  f216 := Tryz.func60.trans (congrArg some (by kernel_rfl))
  f257 := Tryz.func64.trans (congrArg some (by kernel_rfl))
  f294 := Tryz.func90.trans (congrArg some (by kernel_rfl))
  f295 := Tryz.func91.trans (congrArg some (by kernel_rfl))
  f296 := Tryz.func92.trans (congrArg some (by kernel_rfl))
  f297 := Tryz.func93.trans (congrArg some (by kernel_rfl))
  f298 := Tryz.func94.trans (congrArg some (by kernel_rfl))
  f299 := Tryz.func95.trans (congrArg some (by kernel_rfl))
  f300 := Tryz.func96.trans (congrArg some (by kernel_rfl))
  f301 := Tryz.func97.trans (congrArg some (by kernel_rfl))
  f328 := Tryz.func111.trans (congrArg some (by kernel_rfl))
  f329 := Tryz.func112.trans (congrArg some (by kernel_rfl))
  f330 := Tryz.func113.trans (congrArg some (by kernel_rfl))
  f331 := Tryz.func114.trans (congrArg some (by kernel_rfl))
  f332 := Tryz.func115.trans (congrArg some (by kernel_rfl))
  f343 := Tryz.func120.trans (congrArg some (by kernel_rfl))
  t0 := Tryz.underlying0
  a0 := Tryz.isAgg0
  z0 := Tryz.sizeOf0
  v0 := Tryz.zeroValue0
  t3 := Tryz.underlying3
  a3 := Tryz.isAgg3
  z3 := Tryz.sizeOf3
  v3 := Tryz.zeroValue3
  t4 := Tryz.underlying4
  a4 := Tryz.isAgg4
  z4 := Tryz.sizeOf4
  v4 := Tryz.zeroValue4
  t5 := Tryz.underlying5
  a5 := Tryz.isAgg5
  z5 := Tryz.sizeOf5
  v5 := Tryz.zeroValue5
  t9 := Tryz.underlying9
  a9 := Tryz.isAgg9
  z9 := Tryz.sizeOf9
  v9 := Tryz.zeroValue9
  t28 := Tryz.underlying24
  a28 := Tryz.isAgg24
  z28 := Tryz.sizeOf24
  v28 := Tryz.zeroValue24
  t46 := Tryz.underlying118
  a46 := Tryz.isAgg118
  z46 := Tryz.sizeOf118
  v46 := Tryz.zeroValue118
  t51 := Tryz.underlying158
  a51 := Tryz.isAgg158
  z51 := Tryz.sizeOf158
  v51 := Tryz.zeroValue158
  t53 := Tryz.underlying160
  a53 := Tryz.isAgg160
  z53 := Tryz.sizeOf160
  v53 := Tryz.zeroValue160
  t131 := Tryz.underlying77
  a131 := Tryz.isAgg77
  z131 := Tryz.sizeOf77
  v131 := Tryz.zeroValue77
  t182 := Tryz.underlying152
  a182 := Tryz.isAgg152
  z182 := Tryz.sizeOf152
  v182 := Tryz.zeroValue152
  t183 := Tryz.underlying153
  a183 := Tryz.isAgg153
  z183 := Tryz.sizeOf153
  v183 := Tryz.zeroValue153
  t218 := Tryz.underlying171
  a218 := Tryz.isAgg171
  z218 := Tryz.sizeOf171
  v218 := Tryz.zeroValue171
  t222 := Tryz.underlying165
  a222 := Tryz.isAgg165
  z222 := Tryz.sizeOf165
  v222 := Tryz.zeroValue165
  t228 := Tryz.underlying179
  a228 := Tryz.isAgg179
  z228 := Tryz.sizeOf179
  v228 := Tryz.zeroValue179
  t229 := Tryz.underlying180
  a229 := Tryz.isAgg180
  z229 := Tryz.sizeOf180
  v229 := Tryz.zeroValue180 }
open Go.Sort Go.RowKit in
theorem Tryz.slices_Sort_int (blk off cap : Nat) (zs : List Int) (w : World) (hH : Holds (Value.int .i64) w blk off zs.toArray) (hblk : blk < w.heap.size) (hsz : zs.length < 4611686018427387904) :
    Calls Tryz.prog 31 #[.slice (some ⟨blk, off, none⟩) zs.length cap] w fun e w' =>
      e = .returned (.tuple #[]) ∧ ∃ n os, w' = grow (putRow (Value.int .i64) (Sort.ahead w n) blk off (zs.mergeSort fun x y => decide (x ≤ y)).toArray) os := Any.slices_Sort_int Tryz.lays189 blk off cap zs w hH hblk hsz
def Tryz.laysNm220_ren : Go.Shelf.Ren := ⟨fun | 20 => 110 | n => n, fun | 22 => 24 | 3 => 3 | 4 => 4 | 0 => 0 | n => n, fun | n => n⟩
theorem Tryz.laysNm220 : Go.Proofs.Lays2.n20 Tryz.prog Tryz.laysNm220_ren := {
  mixed := by kernel_rfl
  f20 := Tryz.func110.trans (congrArg some (by kernel_rfl))
  t0 := Tryz.underlying0
  a0 := Tryz.isAgg0
  z0 := Tryz.sizeOf0
  v0 := Tryz.zeroValue0
  t3 := Tryz.underlying3
  a3 := Tryz.isAgg3
  z3 := Tryz.sizeOf3
  v3 := Tryz.zeroValue3
  t4 := Tryz.underlying4
  a4 := Tryz.isAgg4
  z4 := Tryz.sizeOf4
  v4 := Tryz.zeroValue4
  t22 := Tryz.underlying24
  a22 := Tryz.isAgg24
  z22 := Tryz.sizeOf24
  v22 := Tryz.zeroValue24
  i3 := by kernel_rfl }
open Go.RowKit Go.Lib Go.Sort in
theorem Tryz.slices_Compact_int (blk off cap : Nat) (zs : List Int) (w : World) (hH : Holds (Value.int .i64) w blk off zs.toArray) (hsz : zs.length ≤ 9223372036854775807) (hcap : zs.length ≤ cap) :
    Calls Tryz.prog 110 #[.slice (some ⟨blk, off, none⟩) zs.length cap] w fun e w' => e = .returned (.slice (some ⟨blk, off, none⟩) (Lib.compact zs).length cap) ∧ ∃ q, w' = putRow (Value.int .i64) (Sort.ahead w q) blk off (Lib.compact zs ++ List.replicate (zs.length - (Lib.compact zs).length) 0).toArray := Any.slices_Compact_int Tryz.laysNm220 blk off cap zs w hH hsz hcap
open Go.RowKit Go.Lib Go.Sort in
theorem Tryz.slices_Compact_int_empty (a : Option Addr) (cap : Nat) (w : World) :
    Calls Tryz.prog 110 #[.slice a 0 cap] w fun e w' => e = .returned (.slice a 0 cap) ∧ w' = w := Any.slices_Compact_int_empty Tryz.laysNm220 a cap w
open Go.RowKit Go.Sort in
theorem Tryz.slices_Sort_int_none (p : Option Addr) (cap : Nat) (w : World) :
    Calls Tryz.prog 31 #[.slice p 0 cap] w fun e w' => e = .returned (.tuple #[]) ∧ w' = w := Any.slices_Sort_int_none Tryz.lays189 p cap w
def Tryz.laysSlE035_f28_ren : Go.Shelf.Ren := ⟨fun | 35 => 28 | n => n, fun | 22 => 22 | 23 => 66 | 3 => 3 | 4 => 4 | 0 => 0 | n => n, fun | n => n⟩
theorem Tryz.laysSlE035_f28 : Go.Proofs.SlLaysE0.n35 Tryz.prog Tryz.laysSlE035_f28_ren := {
  mixed := by kernel_rfl
  f35 := ⟨Tryz.f28.name, by decide, Tryz.func28.trans (congrArg some (by kernel_rfl))⟩
  t0 := Tryz.underlying0
  a0 := Tryz.isAgg0
  z0 := Tryz.sizeOf0
  v0 := Tryz.zeroValue0
  t3 := Tryz.underlying3
  a3 := Tryz.isAgg3
  z3 := Tryz.sizeOf3
  v3 := Tryz.zeroValue3
  t4 := Tryz.underlying4
  a4 := Tryz.isAgg4
  z4 := Tryz.sizeOf4
  v4 := Tryz.zeroValue4
  t22 := Tryz.underlying22
  a22 := Tryz.isAgg22
  z22 := Tryz.sizeOf22
  v22 := Tryz.zeroValue22 }
open Go.RowKit Go.Lib Go.Sort in
theorem Tryz.slices_Reverse {α : Type} [Inhabited α] (k : Nat) (aE : ∀ w, (isAgg (Tryz.laysSlE035_f28_ren.t 23)).run Tryz.prog w = .ok true w) (zE : ∀ w, (Go.sizeOf (Tryz.laysSlE035_f28_ren.t 23)).run Tryz.prog w = .ok k w) (enc : α → List Value) (hk : ∀ x, (enc x).length = k) (h1 : ∀ x, ∀ v ∈ enc x, v.oneCell' = true) (blk off cap : Nat) (d : Array α) (w : World) (hH : HoldsK enc k w blk off d) (hsz : d.size ≤ 9223372036854775807) :
    Calls Tryz.prog 28 #[.slice (some ⟨blk, off, none⟩) d.size cap] w fun e w' => e = .returned (.tuple #[]) ∧ ∃ n, w' = putRowK enc k (Sort.ahead w n) blk off d.reverse := AnyQ.slices_Reverse Tryz.laysSlE035_f28 k aE zE enc hk h1 blk off cap d w hH hsz
open Go.RowKit Go.Lib Go.Sort in
theorem Tryz.slices_Reverse_empty {α : Type} [Inhabited α] (a : Option Addr) (cap : Nat) (w : World) :
    Calls Tryz.prog 28 #[.slice a 0 cap] w fun e w' => e = .returned (.tuple #[]) ∧ w' = w := AnyQ.slices_Reverse_empty Tryz.laysSlE035_f28 a cap w
def Tryz.laysSlF06_f105_ren : Go.Shelf.Ren := ⟨fun | 6 => 105 | 15 => 65 | 14 => 117 | 28 => 98 | 29 => 99 | 20 => 121 | 21 => 122 | 22 => 123 | 23 => 124 | 24 => 125 | 25 => 126 | 26 => 127 | 27 => 128 | 46 => 131 | 47 => 112 | 48 => 113 | 49 => 132 | 50 => 133 | 57 => 135 | n => n, fun | 22 => 96 | 24 => 98 | 25 => 142 | 3 => 3 | 39 => 118 | 0 => 0 | 53 => 158 | 55 => 160 | 4 => 4 | 46 => 153 | 45 => 152 | 50 => 77 | 5 => 5 | 9 => 9 | 66 => 171 | 70 => 165 | 76 => 179 | 77 => 180 | n => n, fun | n => n⟩
theorem Tryz.laysSlF06_f105 : Go.Proofs.SlLaysF0.n6 Tryz.prog Tryz.laysSlF06_f105_ren := {
  mixed := by kernel_rfl
  f6 := ⟨Tryz.f105.name, by decide, Tryz.func105.trans (congrArg some (by kernel_rfl))⟩
  f14 := ⟨Tryz.f117.name, by decide, Tryz.func117.trans (congrArg some (by kernel_rfl))⟩
  f15 := Tryz.func65.trans (congrArg some (by kernel_rfl))
  f20 := ⟨Tryz.f121.name, by decide, Tryz.func121.trans (congrArg some (by kernel_rfl))⟩
  f21 := ⟨Tryz.f122.name, by decide, Tryz.func122.trans (congrArg some (by kernel_rfl))⟩
  f22 := ⟨Tryz.f123.name, by decide, Tryz.func123.trans (congrArg some (by kernel_rfl))⟩
  f23 := ⟨Tryz.f124.name, by decide, Tryz.func124.trans (congrArg some (by kernel_rfl))⟩
  f24 := ⟨Tryz.f125.name, by decide, Tryz.func125.trans (congrArg some (by kernel_rfl))⟩
  f25 := ⟨Tryz.f126.name, by decide, Tryz.func126.trans (congrArg some (by kernel_rfl))⟩
  f26 := ⟨Tryz.f127.name, by decide, Tryz.func127.trans (congrArg some (by kernel_rfl))⟩
  f27 := ⟨Tryz.f128.name, by decide, Tryz.func128.trans (congrArg some (by kernel_rfl))⟩
  f28 := Tryz.func98.trans (congrArg some (by kernel_rfl))
  f29 := Tryz.func99.trans (congrArg some (by kernel_rfl))
  f46 := ⟨Tryz.f131.name, by decide, Tryz.func131.trans (congrArg some (by kernel_rfl))⟩
  f47 := Tryz.func112.trans (congrArg some (by kernel_rfl))
  f48 := Tryz.func113.trans (congrArg some (by kernel_rfl))
  f49 := ⟨Tryz.f132.name, by decide, Tryz.func132.trans (congrArg some (by kernel_rfl))⟩
  f50 := ⟨Tryz.f133.name, by decide, Tryz.func133.trans (congrArg some (by kernel_rfl))⟩
  f57 := ⟨Tryz.f135.name, by decide, Tryz.func135.trans (congrArg some (by kernel_rfl))⟩
  t0 := Tryz.underlying0
  a0 := Tryz.isAgg0
  z0 := Tryz.sizeOf0
  v0 := Tryz.zeroValue0
  t3 := Tryz.underlying3
  a3 := Tryz.isAgg3
  z3 := Tryz.sizeOf3
  v3 := Tryz.zeroValue3
  t4 := Tryz.underlying4
  a4 := Tryz.isAgg4
  z4 := Tryz.sizeOf4
  v4 := Tryz.zeroValue4
  t5 := Tryz.underlying5
  a5 := Tryz.isAgg5
  z5 := Tryz.sizeOf5
  v5 := Tryz.zeroValue5
  t9 := Tryz.underlying9
  a9 := Tryz.isAgg9
  z9 := Tryz.sizeOf9
  v9 := Tryz.zeroValue9
  t22 := Tryz.underlying96
  a22 := Tryz.isAgg96
  z22 := Tryz.sizeOf96
  v22 := Tryz.zeroValue96
  t25 := Tryz.underlying142
  a25 := Tryz.isAgg142
  z25 := Tryz.sizeOf142
  v25 := Tryz.zeroValue142
  t39 := Tryz.underlying118
  a39 := Tryz.isAgg118
  z39 := Tryz.sizeOf118
  v39 := Tryz.zeroValue118
  t45 := Tryz.underlying152
  a45 := Tryz.isAgg152
  z45 := Tryz.sizeOf152
  v45 := Tryz.zeroValue152
  t46 := Tryz.underlying153
  a46 := Tryz.isAgg153
  z46 := Tryz.sizeOf153
  v46 := Tryz.zeroValue153
  t50 := Tryz.underlying77
  a50 := Tryz.isAgg77
  z50 := Tryz.sizeOf77
  v50 := Tryz.zeroValue77
  t53 := Tryz.underlying158
  a53 := Tryz.isAgg158
  z53 := Tryz.sizeOf158
  v53 := Tryz.zeroValue158
  t55 := Tryz.underlying160
  a55 := Tryz.isAgg160
  z55 := Tryz.sizeOf160
  v55 := Tryz.zeroValue160
  t66 := Tryz.underlying171
  a66 := Tryz.isAgg171
  z66 := Tryz.sizeOf171
  v66 := Tryz.zeroValue171
  t70 := Tryz.underlying165
  a70 := Tryz.isAgg165
  z70 := Tryz.sizeOf165
  v70 := Tryz.zeroValue165
  t76 := Tryz.underlying179
  a76 := Tryz.isAgg179
  z76 := Tryz.sizeOf179
  v76 := Tryz.zeroValue179
  t77 := Tryz.underlying180
  a77 := Tryz.isAgg180
  z77 := Tryz.sizeOf180
  v77 := Tryz.zeroValue180 }
open Go.RowKit Go.Lib Go.Sort in
theorem Tryz.slices_SortFunc {α : Type} [Inhabited α] (k : Nat) (aE : ∀ w, (isAgg (Tryz.laysSlF06_f105_ren.t 24)).run Tryz.prog w = .ok true w) (zE : ∀ w, (Go.sizeOf (Tryz.laysSlF06_f105_ren.t 24)).run Tryz.prog w = .ok k w) (enc : α → List Value) (hk : ∀ x, (enc x).length = k) (h1 : ∀ x, ∀ v ∈ enc x, v.oneCell' = true) (cf : α → α → Int) (hO : SWO (ltOf cf)) (g : Nat) (cb : Array Value) (blk off cap : Nat) (d : Array α) (w : World) (eg : ∀ args w, (callFunc g args).run Tryz.prog w = .ok (.enter g args) w) (hcmp : CmpLays Tryz.prog g cb enc k cf blk off d.size w) (hH : HoldsK enc k w blk off d) (hblk : blk < w.heap.size) (hsz : d.size < 4611686018427387904) :
    Calls Tryz.prog 105 #[.slice (some ⟨blk, off, none⟩) d.size cap, .func (.func g) #[] cb] w fun e w' =>
      e = .returned (.tuple #[]) ∧ ∃ d' n os, PermIn 0 d.size d d' ∧ SortedIn (ltOf cf) 0 d.size d' ∧ w' = sortWorldK enc k w blk off n d' os := AnyQ.slices_SortFunc Tryz.laysSlF06_f105 k aE zE enc hk h1 cf hO g cb blk off cap d w eg hcmp hH hblk hsz
open Go.RowKit Go.Lib Go.Sort in
theorem Tryz.slices_SortFunc_none {α : Type} [Inhabited α] (p : Option Addr) (cap : Nat) (fv : Value) (w : World) :
    Calls Tryz.prog 105 #[.slice p 0 cap, fv] w fun e w' => e = .returned (.tuple #[]) ∧ w' = w := AnyF.slices_SortFunc_none Tryz.laysSlF06_f105 p cap fv w
end Go.Proofs
end
section
namespace Go.Proofs.YtclkmnidgdkekaaGreat
open Go Go.Kn Go.Proofs
theorem w_sort (e : Nat) (zs : List Int) {v : Value} {n : Nat} {L : Go.Kn.Loc} (hO : OwnS e 1 v n (zs.map (Value.int .i64)) L) (hn : n ≤ 1000000) (I : HMap) :
  RetM Tryz.prog 31 [v] I L (fun u I' L' => u = .tuple #[] ∧ I' = I ∧ OwnS e 1 v n ((sortI zs).map (Value.int .i64)) L') :=
 retSort Tryz.slices_Sort_int Tryz.slices_Sort_int_none zs hO hn I
theorem w_compact (e : Nat) (zs : List Int) {v : Value} {n : Nat} {L : Go.Kn.Loc} (hO : OwnS e 1 v n (zs.map (Value.int .i64)) L) (hn : n ≤ 1000000) (I : HMap) :
  RetM Tryz.prog 110 [v] I L (fun u I' L' => I' = I ∧ OwnS e 1 u (Lib.compact zs).length ((Lib.compact zs).map (Value.int .i64)) L') :=
 retCompact Lib.compact Lib.compact_length_le rfl Tryz.slices_Compact_int Tryz.slices_Compact_int_empty zs hO hn I
theorem w_nan2 (I : HMap) (x : Int) : RetV Tryz.prog 61 [.int .i64 x] I (.bool false) := by
 intro g H w hw
 refine enter Tryz.func61 rfl Tryz.ntmps61 rfl hw ?_
 refine zR ?_
 refine zA ?_
 refine zN (zR ?_)
 refine zM ?_
 refine zM ?_
 refine zC ?_
 refine zA ?_
 refine zN ?_
 refine X_ret ?_
 exact at_ret1 rfl rfl (fun w hw => ⟨by simp, hw.drop⟩)
theorem w_less (I : HMap) (x y : Int) : RetV Tryz.prog 60 [.int .i64 x, .int .i64 y] I (.bool (decide (x < y))) := by
 intro g H w hw
 refine enter Tryz.func60 rfl Tryz.ntmps60 rfl hw ?_
 refine zR ?_
 refine zA ?_
 refine zN (zR ?_)
 refine zM ?_
 refine XO_callV0 (cap := []) (vs := [_]) rfl rfl fun_80 (w_nan I _) rfl rfl ?_
 refine zM ?_
 refine XO_pushT 2 rfl rfl rfl ?_
 refine zK (ev_move rfl) ?_
 refine XO_callV1 (cap := []) (vs := [_]) rfl rfl fun_80 (fun hg => w_nan I _) (.some rfl rfl rfl rfl gbt) rfl rfl ?_
 refine zK (ev_not rfl) ?_
 refine XO_and0 rfl rfl rfl rfl rfl ?_
 refine zM ?_
 refine XO_pushF 7 rfl rfl rfl ?_
 refine zJ (ev_move rfl) ?_
 refine zJ (ev_move rfl) ?_
 refine zJ (ev_cmp rfl rfl rfl) ?_
 refine XO_or0 rfl rfl rfl rfl rfl ?_
 refine zA ?_
 refine zN ?_
 refine X_ret ?_
 exact at_ret1 rfl rfl (fun w hw => ⟨by first | rfl | (simp), hw.drop⟩)
theorem w_bsI {I : HMap} {av : Option Addr} {n c : Nat} {xs : List Int} (hS : Sl I 1 encI av n c xs) (hn : n ≤ 100000) (hs : xs.Pairwise (· < ·)) (t : Int) : RetV Tryz.prog 27 [.slice av n c, .int .i64 t] I (.tuple #[.int .i64 (lowK (fun x : Int => x) xs t : Nat), .bool (xs.any fun x => x == t)]) := by
 intro g H w hw
 refine enter Tryz.func27 rfl Tryz.ntmps27 rfl hw ?_
 refine zR ?_
 refine zA ?_
 refine zA ?_
 refine zN (zR ?_)
 refine zM ?_
 refine zQ slt_24 ?_
 refine zA ?_
 refine zN (zR ?_)
 refine zM ?_
 refine zA ?_
 refine zA ?_
 refine zN ?_
 refine X_seq ?_
 refine X_block ?_
 refine X_loopT [(0, _), (1, _), (6, _)] (.cons rfl (.cons rfl (.cons rfl .nil))) (fun T L0 mz E I' loc' => ∃ (i j : Nat), mz = j - i ∧ E = (7, .int .i64 i) :: (8, .int .i64 j) :: T ∧ I = I' ∧ L0 = loc' ∧ i ≤ j ∧ j ≤ n ∧ (∀ q z, q < i → xs[q]? = some z → z < t) ∧ ∀ q z, j ≤ q → xs[q]? = some z → ¬ z < t) _ _ _ _ ⟨0, n, rfl, rfl, rfl, rfl, Nat.zero_le _, Nat.le_refl _, fun q z h => absurd h (by omega), fun q z h1 h2 => by have := (List.getElem?_eq_some_iff.1 h2).1; rw [hS.len] at this; omega⟩ (.cons rfl (.cons rfl (.cons rfl (.cons rfl (.cons rfl .nil))))) (HLe.refl _) rfl ?_
 rintro mz E I' loc' ⟨i, j, rfl, rfl, rfl, rfl, hij, hjn, hlo, hhi⟩
 refine X_seq ?_
 refine zR ?_
 refine zM ?_
 refine zM ?_
 refine zC ?_
 refine zN ?_
 refine zI ?_ ?_ <;> intro hc15
 ·
  have hlt : i < j := by have h := hc15; simp at h; omega
  obtain ⟨y, hy⟩ := hS.at (k := (i + j) / 2) (by omega)
  refine X_skip ?_
  refine at_then ?_
  refine X_block ?_
  refine zR ?_
  refine zM ?_
  refine zM ?_
  refine zV (ev_arB rfl rfl rfl (fun _ => by omega)) ?_
  refine zV (ev_convI rfl cvt_3_118) ?_
  refine zV (ev_shr rfl rfl (by decide) (rfl : min _ _ = 1)) ?_
  refine zV (ev_convI rfl cvt_118_3) ?_
  refine zA ?_
  refine XO_nil ?_
  rw [half_eq i j (by omega)]
  refine at_then ?_
  refine zR ?_
  refine zM ?_
  refine zM ?_
  refine zV (ev_indexSl rfl rfl slt_24 (by assumption) (fun hg => by first | omega | (simp [conj] at hg; omega))) ?_
  refine zV (ev_load rfl sct_3 (fun hg => by first | exact Sl.get0 (k := (i + j) / 2) hS hy rfl | exact Sl.getD0 (k := i) (d := 0) hS (by simp [conj] at hg; omega) rfl | exact Sl.getD0 (k := j) (d := 0) hS (by simp [conj] at hg; omega) rfl | (repeat (first | exact Cell.here rfl | apply Cell.there | apply Cell.app)))) ?_
  refine zM ?_
  refine XO_callV0 (cap := []) (vs := [_, _]) rfl rfl fun_60 (w_less I _ _) rfl rfl ?_
  refine zN ?_
  refine zI ?_ ?_ <;> intro hc27
  ·
   refine X_region ?_
   refine zM ?_
   refine zV (ev_arB rfl rfl rfl (fun _ => by omega)) ?_
   refine zA ?_
   refine XO_nil ?_
   refine at_block_n ?_
   first
   | exact at_met2 _ _ ⟨j - ((i + j) / 2 + 1), by omega, (i + j) / 2 + 1, j, rfl, rfl, rfl, rfl, by omega, hjn, bs_lo (key := fun x : Int => x) hs hy (by simpa using hc27), hhi⟩ (.cons rfl (.cons rfl (.cons rfl (.cons rfl (.cons rfl .nil))))) (by repeat (first | exact .refl | exact subL_left | refine subL_app ?_ | refine .drop ?_ | refine subL_add ?_))
   | exact at_met2 _ _ ⟨(i + j) / 2 - i, by omega, i, (i + j) / 2, rfl, rfl, rfl, rfl, by omega, by omega, hlo, bs_hi (key := fun x : Int => x) hs hy (by simpa using hc27)⟩ (.cons rfl (.cons rfl (.cons rfl (.cons rfl (.cons rfl .nil))))) (by repeat (first | exact .refl | exact subL_left | refine subL_app ?_ | refine .drop ?_ | refine subL_add ?_))
  refine X_region ?_
  refine zM ?_
  refine zA ?_
  refine XO_nil ?_
  refine at_block_n ?_
  first
  | exact at_met2 _ _ ⟨j - ((i + j) / 2 + 1), by omega, (i + j) / 2 + 1, j, rfl, rfl, rfl, rfl, by omega, hjn, bs_lo (key := fun x : Int => x) hs hy (by simpa using hc27), hhi⟩ (.cons rfl (.cons rfl (.cons rfl (.cons rfl (.cons rfl .nil))))) (by repeat (first | exact .refl | exact subL_left | refine subL_app ?_ | refine .drop ?_ | refine subL_add ?_))
  | exact at_met2 _ _ ⟨(i + j) / 2 - i, by omega, i, (i + j) / 2, rfl, rfl, rfl, rfl, by omega, by omega, hlo, bs_hi (key := fun x : Int => x) hs hy (by simpa using hc27)⟩ (.cons rfl (.cons rfl (.cons rfl (.cons rfl (.cons rfl .nil))))) (by repeat (first | exact .refl | exact subL_left | refine subL_app ?_ | refine .drop ?_ | refine subL_add ?_))
 have hge : j ≤ i := by have h := hc15; simp at h; omega
 have hje : j = i := by omega
 subst hje
 refine X_exit ?_
 refine at_then_e ?_
 refine at_then_e ?_
 refine at_block_hit ?_
 refine at_then ?_
 refine zR ?_
 refine zM ?_
 refine zM ?_
 refine zM ?_
 refine zC ?_
 refine zM ?_
 refine XO_pushT 4 rfl rfl rfl ?_
 refine zK (ev_move rfl) ?_
 refine zK (ev_move rfl) ?_
 refine zK (ev_indexSl rfl rfl slt_24 (by assumption) (fun hg => by first | omega | (simp [conj] at hg; omega))) ?_
 refine zK (ev_load rfl sct_3 (fun hg => by first | exact Sl.get0 (k := (i + j) / 2) hS hy rfl | exact Sl.getD0 (k := i) (d := 0) hS (by simp [conj] at hg; omega) rfl | exact Sl.getD0 (k := j) (d := 0) hS (by simp [conj] at hg; omega) rfl | (repeat (first | exact Cell.here rfl | apply Cell.there | apply Cell.app)))) ?_
 refine zK (ev_move rfl) ?_
 refine zK (ev_cmp rfl rfl rfl) ?_
 refine zK (ev_move rfl) ?_
 refine XO_pushF 11 rfl rfl rfl ?_
 refine zJ (ev_move rfl) ?_
 refine zJ (ev_move rfl) ?_
 refine zJ (ev_indexSl rfl rfl slt_24 (by assumption) (fun hg => by first | omega | (simp [conj] at hg; omega))) ?_
 refine zJ (ev_load rfl sct_3 (fun hg => by first | exact Sl.get0 (k := (i + j) / 2) hS hy rfl | exact Sl.getD0 (k := i) (d := 0) hS (by simp [conj] at hg; omega) rfl | exact Sl.getD0 (k := j) (d := 0) hS (by simp [conj] at hg; omega) rfl | (repeat (first | exact Cell.here rfl | apply Cell.there | apply Cell.app)))) ?_
 refine XO_callV1 (cap := []) (vs := [_]) rfl rfl fun_61 (fun hg => w_nan2 I _) (.some rfl rfl rfl rfl gbf) rfl rfl ?_
 refine zJ (ev_move rfl) ?_
 refine XO_pushT 17 rfl rfl rfl ?_
 refine zK (ev_move rfl) ?_
 refine XO_callV1 (cap := []) (vs := [_]) rfl rfl fun_61 (fun hg => w_nan2 I _) (.some rfl rfl rfl rfl gbt) rfl rfl ?_
 refine XO_and1 rfl rfl rfl (.some rfl rfl rfl rfl gbf) rfl rfl ?_
 refine XO_or1 rfl rfl rfl (.some rfl rfl rfl rfl gbt) rfl rfl ?_
 refine XO_and0 rfl rfl rfl rfl rfl ?_
 refine zA ?_
 refine zA ?_
 refine zN ?_
 refine X_ret ?_
 exact at_ret2 rfl rfl rfl (fun w hw => ⟨by rw [← found_at (key := fun x : Int => x) (d := 0) hS.len hlo hhi hs, low_at (key := fun x : Int => x) (by rw [hS.len]; omega) hlo hhi]; simp, hw.drop⟩)
theorem w_incr {I : HMap} {av : Option Addr} {n c : Nat} {xs : List Int} (hS : Sl I 1 encI av n c xs) (hn : n ≤ 100000) : RetV Tryz.prog 88 [.slice av n c] I (.bool (incB xs)) := by
 intro g H w hw
 refine enter Tryz.func88 rfl Tryz.ntmps88 rfl hw ?_
 refine zR ?_
 refine zA ?_
 refine zN ?_
 refine X_seq ?_
 refine zR ?_
 refine zA ?_
 refine zN ?_
 refine X_block ?_
 refine X_loopT [(0, _)] (.cons rfl .nil) (fun T L0 mz E I' loc' => ∃ (k : Nat), mz = (max n 1) - k ∧ E = (3, .int .i64 k) :: T ∧ I = I' ∧ L0 = loc' ∧ k ≤ (max n 1) ∧ 1 ≤ k ∧ (List.range k).all (incP xs) = true) _ _ _ _ ⟨1, rfl, rfl, rfl, rfl, by omega, Nat.le_refl _, incP_zero xs⟩ (.cons rfl (.cons rfl .nil)) (HLe.refl _) rfl ?_
 rintro mz E I' loc' ⟨k, rfl, rfl, rfl, rfl, hk, h1, hall⟩
 refine X_seq ?_
 refine zR ?_
 refine zM ?_
 refine zM ?_
 refine zQ slt_24 ?_
 refine zC ?_
 refine zN ?_
 refine zI ?_ ?_ <;> intro hc7
 ·
  have hlt_k : k < n := by have h := hc7; simp at h; omega
  obtain ⟨x, hx⟩ := hS.at hlt_k
  refine X_skip ?_
  refine at_then ?_
  refine X_seq ?_
  refine X_block ?_
  refine X_seq ?_
  refine X_draw mixed (by kernel_rfl) ?_
  refine XQ_v0 (ev_move rfl) rfl rfl rfl ?_
  refine XQ_v0 (ev_move rfl) rfl rfl rfl ?_
  refine XQ_v0 (ev_indexSl rfl rfl slt_24 (by assumption) (fun hg => by first | omega | (simp [conj] at hg; omega))) rfl rfl rfl ?_
  refine XQ_v0 (ev_load rfl sct_3 (fun hg => by first | exact Sl.get0 (k := k) hS hx rfl | exact Sl.getD0 (k := ((k : Int) - 1).toNat) (d := 0) hS (by omega) rfl | (repeat (first | exact Cell.here rfl | apply Cell.there | apply Cell.app)))) rfl rfl rfl ?_
  refine XQ_v0 (ev_move rfl) rfl rfl rfl ?_
  refine XQ_v0 (ev_move rfl) rfl rfl rfl ?_
  refine XQ_v0 (ev_arB rfl rfl rfl (fun _ => by omega)) rfl rfl rfl ?_
  refine XQ_v0 (ev_indexSl rfl rfl slt_24 (by assumption) (fun hg => by first | omega | (simp [conj] at hg; omega))) rfl rfl rfl ?_
  refine XQ_v0 (ev_load rfl sct_3 (fun hg => by first | exact Sl.get0 (k := k) hS hx rfl | exact Sl.getD0 (k := ((k : Int) - 1).toNat) (d := 0) hS (by omega) rfl | (repeat (first | exact Cell.here rfl | apply Cell.there | apply Cell.app)))) rfl rfl rfl ?_
  refine XQ_v0 (ev_cmp rfl rfl rfl) rfl rfl rfl ?_
  refine XQ_nil ?_
  refine at_then ?_
  refine zI ?_ ?_ <;> intro hc19
  ·
   refine zR ?_
   refine zA ?_
   refine zN ?_
   refine X_ret ?_
   refine at_block_r ?_
   refine at_then_r ?_
   refine at_then_r ?_
   refine at_block_r ?_
   refine at_then_r ?_
   first
   | exact at_ret1 rfl rfl (fun w hw => ⟨by rw [incB_eq, range_bad (k := k) (by rw [hS.len]; exact hlt_k) (by rw [incP_at hx h1, hc19]; rfl)], hw.drop⟩)
   | exact at_ret1 rfl rfl (fun w hw => ⟨by rw [incB_eq, hS.len, range_cut hall (show n ≤ k from hge_k)], hw.drop⟩)
  refine X_skip ?_
  refine at_block_n ?_
  refine at_then ?_
  refine X_region ?_
  refine zM ?_
  refine zV (ev_arB rfl rfl rfl (fun _ => by omega)) ?_
  refine zA ?_
  refine XO_nil ?_
  exact at_met2 _ _ ⟨(max n 1) - (k + 1), by omega, k + 1, rfl, rfl, rfl, rfl, by omega, by omega, range_step hall (by rw [incP_at hx h1, hc19]; rfl)⟩ (.cons rfl (.cons rfl .nil)) (by repeat (first | exact .refl | exact subL_left | refine subL_app ?_ | refine .drop ?_ | refine subL_add ?_))
 have hge_k : n ≤ k := by have h := hc7; simp at h; omega
 refine X_exit ?_
 refine at_then_e ?_
 refine at_then_e ?_
 refine at_block_hit ?_
 refine at_then ?_
 refine zR ?_
 refine zA ?_
 refine zN ?_
 refine X_ret ?_
 first
 | exact at_ret1 rfl rfl (fun w hw => ⟨by rw [incB_eq, range_bad (k := k) (by rw [hS.len]; exact hlt_k) (by rw [incP_at hx h1, hc19]; rfl)], hw.drop⟩)
 | exact at_ret1 rfl rfl (fun w hw => ⟨by rw [incB_eq, hS.len, range_cut hall (show n ≤ k from hge_k)], hw.drop⟩)
theorem w_cloneI {I : HMap} {av : Option Addr} {n c : Nat} {xs : List Int} (hS : Sl I 1 encI av n c xs) (hn : n ≤ 400000) : RetM Tryz.prog 74 [.slice av n c] I [] (fun v I' L => I' = I ∧ OwnS 3 1 v n (xs.flatMap encI) L) := by
 intro g H w hw
 refine enter Tryz.func74 rfl Tryz.ntmps74 rfl hw ?_
 refine zR ?_
 refine zA ?_
 refine zN ?_
 refine X_seq ?_
 refine zR ?_
 refine zM ?_
 refine zV (ev_eqNil rfl rfl slt_24) ?_
 refine zN ?_
 refine zI ?_ ?_ <;> intro hc4
 ·
  have hn0 : n = 0 := Decidable.byContradiction fun h => by have := hS.base h; rw [this] at hc4; cases hc4
  have hl := hS.len
  subst hn0
  have hx0 := List.eq_nil_of_length_eq_zero hl
  subst hx0
  refine zR ?_
  refine zA ?_
  refine zN ?_
  refine X_ret ?_
  refine at_then_r ?_
  first
  | exact at_ret1 rfl rfl (fun w hw => ⟨_, I, _, rfl, HLe.refl _, hw, rfl, OwnS.nil⟩)
  | exact at_ret1 rfl rfl (fun w hw => ⟨_, I, _, rfl, HLe.refl _, hw.subL subL_left, rfl, hO1⟩)
 refine X_skip ?_
 refine at_then ?_
 refine zR ?_
 refine XO_buildSlice (ps := []) (m := []) elt_24 rfl (.nil) rfl (by simp) (by decide) (by decide) rfl rfl (fun b_5 => ?_)
 refine zM ?_
 refine XO_append (v := _) (ys := xs.flatMap encI) (L := [(b_5, _)]) rfl rfl elt_24 OwnS.new (by repeat (first | exact .cons .here .nil | exact split_all | exact split_app | apply split_cons | apply split_skip)) (hS.src encI_len) (one_I _) (by omega) rfl rfl ?_
 intro v1 L1 hO1 _; rw [List.nil_append, Nat.zero_add] at hO1
 refine zA ?_
 refine zN ?_
 refine X_ret ?_
 first
 | exact at_ret1 rfl rfl (fun w hw => ⟨_, I, _, rfl, HLe.refl _, hw, rfl, OwnS.nil⟩)
 | exact at_ret1 rfl rfl (fun w hw => ⟨_, I, _, rfl, HLe.refl _, hw.subL subL_left, rfl, hO1⟩)
theorem w_union {I : HMap} {av : Option Addr} {n c : Nat} {xs : List Int} (hS : Sl I 1 encI av n c xs) (hn : n ≤ 400000) {bv : Option Addr} {n2 c2 : Nat} {ys : List Int} (hT : Sl I 1 encI bv n2 c2 ys) (hn2 : n2 ≤ 100000) : RetM Tryz.prog 89 [.slice av n c, .slice bv n2 c2] I [] (SlRes 1 encI (Lib.compact (sortI (xs ++ ys)))) := by
 intro g H w hw
 refine enter Tryz.func89 rfl Tryz.ntmps89 rfl hw ?_
 have hIc := HLe.refl I
 refine zR ?_
 refine zA ?_
 refine zN (zR ?_)
 refine zM ?_
 refine XO_callM (cap := []) (vs := [_]) rfl rfl fun_74 .nil (w_cloneI hS hn) rfl rfl ?_
 rintro vv1 I1 L1 hI1 ⟨rfl, hO⟩
 have hS := hS.mono hI1; have hT := hT.mono hI1; have hIc := hIc.trans hI1
 refine zM ?_
 refine XO_append (v := _) (ys := ys.flatMap encI) (L := _) rfl rfl elt_24 hO split_app (hT.src encI_len) (one_I _) (by omega) rfl rfl ?_
 intro v2 L2 hO2 _; rw [← List.flatMap_append, flat_int] at hO2
 refine zA ?_
 refine zN (zR ?_)
 refine zM ?_
 refine XO_callM (cap := []) (vs := [_]) rfl rfl fun_31 split_app (w_sort 3 (xs ++ ys) hO2 (by omega) _) rfl rfl ?_
 rintro vv2 I2 L2 hI2 ⟨rfl, rfl, hO3⟩
 have hS := hS.mono hI2; have hT := hT.mono hI2; have hIc := hIc.trans hI2
 refine zN (zR ?_)
 refine zM ?_
 refine XO_callM (cap := []) (vs := [_]) rfl rfl fun_110 split_app (w_compact 3 _ hO3 (by omega) _) rfl rfl ?_
 rintro vv3 I3 L3 hI3 ⟨rfl, hO4⟩
 have hS := hS.mono hI3; have hT := hT.mono hI3; have hIc := hIc.trans hI3
 refine zA ?_
 refine zN ?_
 refine X_ret ?_
 rw [← flat_int] at hO4
 exact at_ret1 rfl rfl (fun w hw => by obtain ⟨I9, h91, h92, h93⟩ := OwnS.res hO4 encI_len (by decide) (hw.subL (by first | exact subL_left | exact .refl)); exact ⟨_, I9, [], rfl, hIc.trans h91, h92, h93⟩)
end Go.Proofs.YtclkmnidgdkekaaGreat
end
section
namespace Go.Proofs.YtclkmnidgdkekaaGreat
open Go Go.Kn Go.Proofs
def refV (b : Nat) : Value := .map (some b)
/-- A set of numbers, each one true. -/
structure SetQ (s : List (Int × Bool)) (A : Int → Bool) : Prop where
  nodup : (s.map (·.1)).Nodup
  all : ∀ q ∈ s, q.2 = true
  mem : ∀ x, setM s x = A x
theorem SetQ.nil : SetQ [] (fun _ => false) := ⟨.nil, (fun q hq => by cases hq), fun _ => rfl⟩
theorem SetQ.put {s : List (Int × Bool)} {A : Int → Bool} (h : SetQ s A) (a : Int) : SetQ (mset s a true) (fun x => decide (a = x) || A x) where
  nodup := mset_nodup a true h.nodup
  all := by
    have key : ∀ (s : List (Int × Bool)), (∀ q ∈ s, q.2 = true) → ∀ q ∈ mset s a true, q.2 = true := by
      intro s
      induction s with
      | nil => intro _ q hq; simp [mset] at hq; rw [hq]
      | cons p s ih =>
        intro h q hq
        unfold mset at hq
        split at hq
        · rcases List.mem_cons.1 hq with rfl | hq
          · rfl
          · exact h q (List.mem_cons_of_mem _ hq)
        · rcases List.mem_cons.1 hq with rfl | hq
          · exact h _ (List.mem_cons_self ..)
          · exact ih (fun q hq => h q (List.mem_cons_of_mem _ hq)) q hq
    exact key s h.all
  mem := fun x => by rw [setM_put, h.mem]
theorem SetQ.congr {s : List (Int × Bool)} {A B : Int → Bool} (h : SetQ s A) (e : ∀ x, A x = B x) : SetQ s B := ⟨h.nodup, h.all, fun x => by rw [h.mem, e]⟩
theorem SetQ.key {s : List (Int × Bool)} {A : Int → Bool} (h : SetQ s A) {x : Int} : A x = true ↔ x ∈ s.map (·.1) := by
  rw [← h.mem]
  unfold setM
  constructor
  · intro h1
    cases hg : mget s x with
    | none => rw [hg] at h1; cases h1
    | some b => exact List.mem_map.2 ⟨_, mget_mem hg, rfl⟩
  · intro h1
    obtain ⟨q, hq, rfl⟩ := List.mem_map.1 h1
    rw [mget_at h.nodup hq, h.all q hq]; rfl
def OnS (I : HMap) (ref : Nat) (A : Int → Bool) : Prop := ∃ s : List (Int × Bool), I ref = some (mapO (Value.int .i64) Value.bool s) ∧ SetQ s A
theorem OnS.mono {I I' : HMap} {ref : Nat} {A : Int → Bool} (h : OnS I ref A) (hI : HLe I I') : OnS I' ref A := by
  obtain ⟨s, h1, h2⟩ := h
  exact ⟨s, hI _ _ h1, h2⟩
/-- For each patch what it stands on. -/
def OnL (I : HMap) (m : List (Int × Nat)) (ps : List Pt) : Prop := m.map (·.1) = ps.map (·.id) ∧ ∀ q ∈ m, OnS I q.2 (onF ps q.1)
theorem OnL.mono {I I' : HMap} {m : List (Int × Nat)} {ps : List Pt} (h : OnL I m ps) (hI : HLe I I') : OnL I' m ps := ⟨h.1, fun q hq => (h.2 q hq).mono hI⟩
theorem OnL.nil {I : HMap} {ps : List Pt} : OnL I [] (ps.take 0) := ⟨by simp, fun q hq => by cases hq⟩
def OnM (I : HMap) (r : Nat) (ps : List Pt) : Prop := ∃ m : List (Int × Nat), I r = some (mapO (Value.int .i64) refV m) ∧ OnL I m ps
theorem OnM.mono {I I' : HMap} {r : Nat} {ps : List Pt} (h : OnM I r ps) (hI : HLe I I') : OnM I' r ps := by
  obtain ⟨m, h1, h2⟩ := h
  exact ⟨m, hI _ _ h1, h2.mono hI⟩
theorem OnL.get {I : HMap} {m : List (Int × Nat)} {ps : List Pt} (h : OnL I m ps) {a : Int} (ha : ∃ q ∈ ps, q.id = a) : ∃ ref, mget m a = some ref ∧ OnS I ref (onF ps a) := by
  cases hg : mget m a with
  | none =>
    have := mget_none.1 hg
    rw [h.1] at this
    obtain ⟨q, hq, rfl⟩ := ha
    exact absurd (List.mem_map.2 ⟨q, hq, rfl⟩) this
  | some ref => exact ⟨ref, rfl, h.2 _ (mget_mem hg)⟩
theorem Lst.before {ps : List Pt} (h : Lst ps) {k : Nat} {p : Pt} (hk : ps[k]? = some p) {n : Int} (hn : n ∈ p.needs) : ∃ q ∈ ps.take k, q.id = n := by
  obtain ⟨h1, q, hq, rfl⟩ := h.has p (List.mem_of_getElem? hk) n hn
  obtain ⟨j, hj⟩ := List.getElem?_of_mem hq
  obtain ⟨hj1, hj2⟩ := List.getElem?_eq_some_iff.1 hj
  obtain ⟨hk1, hk2⟩ := List.getElem?_eq_some_iff.1 hk
  have hjk : j < k := by
    rcases Nat.lt_or_ge j k with h3 | h3
    · exact h3
    · exfalso
      by_cases e : k = j
      · subst e; rw [hk] at hj; cases hj; omega
      · have := List.pairwise_iff_getElem.1 h.inc k j hk1 hj1 (by omega)
        rw [hj2, hk2] at this; omega
  refine ⟨q, ?_, rfl⟩
  rw [List.mem_take_iff_getElem]
  exact ⟨j, by omega, hj2⟩
theorem Lst.fresh {ps : List Pt} (h : Lst ps) {k : Nat} {p : Pt} (hk : ps[k]? = some p) : ∀ q ∈ ps.take k, q.id < p.id := fun q hq => by
  obtain ⟨j, hj, rfl⟩ := List.mem_take_iff_getElem.1 hq
  obtain ⟨hk1, hk2⟩ := List.getElem?_eq_some_iff.1 hk
  have := List.pairwise_iff_getElem.1 h.inc j k (by omega) hk1 (by omega)
  rw [hk2] at this; exact this
theorem OnL.step {I : HMap} {m : List (Int × Nat)} {ps : List Pt} {k ref : Nat} {p : Pt} {s : List (Int × Bool)} (hL : Lst ps) (hk : ps[k]? = some p) (hm : OnL I m (ps.take k)) (hb : I ref = some (mapO (Value.int .i64) Value.bool s))
    (hs : SetQ s (fun x => p.needs.any fun n => n == x || onF (ps.take k) n x)) : OnL I (mset m p.id ref) (ps.take (k + 1)) := by
  have hfr := hL.fresh hk
  have hnew : p.id ∉ m.map (·.1) := by
    rw [hm.1]
    intro h
    obtain ⟨q, hq, e⟩ := List.mem_map.1 h
    have := hfr q hq; omega
  have hmi : mset m p.id ref = m ++ [(p.id, ref)] := by
    refine mset_new m p.id ref 0 ?_
    have := mget_none.2 hnew
    rw [← mget_midx m p.id 0] at this
    simpa using this
  rw [take_snoc hk]
  refine ⟨by rw [mset_keys, if_neg hnew, hm.1]; simp, fun q hq => ?_⟩
  rw [hmi] at hq
  rcases List.mem_append.1 hq with hq | hq
  · obtain ⟨s', h1, h2⟩ := hm.2 q hq
    refine ⟨s', h1, h2.congr fun x => ?_⟩
    have hne : q.1 ≠ p.id := fun e => hnew (by rw [← e]; exact List.mem_map.2 ⟨q, hq, rfl⟩)
    rw [onF_left (fun z hz => by simp at hz; subst hz; exact fun e => hne e.symm)]
  · simp at hq; subst hq
    refine ⟨s, hb, hs.congr fun x => ?_⟩
    exact (onF_split (fun z hz => by cases hz)).symm
/-- A set that takes in the keys of another one, in whatever order. -/
def Seen (sn : List (Int × Bool)) (seen : List Nat) (x : Int) : Bool := seen.any fun i => (sn[i]?.map (·.1)) == some x
theorem seen_nil (sn : List (Int × Bool)) (x : Int) : Seen sn [] x = false := rfl
theorem seen_snoc {sn : List (Int × Bool)} {seen : List Nat} {i : Nat} {p : Int × Bool} (hp : sn[i]? = some p) (x : Int) : Seen sn (seen ++ [i]) x = (decide (p.1 = x) || Seen sn seen x) := by
  unfold Seen
  rw [List.any_append, Bool.eq_iff_iff]
  simp [hp, or_comm]
theorem seen_all {sn : List (Int × Bool)} {A : Int → Bool} (h : SetQ sn A) {seen : List Nat} (hall : ∀ i p, sn[i]? = some p → i ∈ seen) (x : Int) : Seen sn seen x = A x := by
  rw [Bool.eq_iff_iff, h.key]
  unfold Seen
  rw [List.any_eq_true]
  constructor
  · rintro ⟨i, _, hi⟩
    cases hx : sn[i]? with
    | none => rw [hx] at hi; simp at hi
    | some p => rw [hx] at hi; simp at hi; exact List.mem_map.2 ⟨p, List.mem_of_getElem? hx, hi⟩
  · intro hx
    obtain ⟨p, hp, rfl⟩ := List.mem_map.1 hx
    obtain ⟨i, hi⟩ := List.getElem?_of_mem hp
    exact ⟨i, hall i p hi, by rw [hi]; simp⟩
end Go.Proofs.YtclkmnidgdkekaaGreat
end
section
namespace Go.Proofs.YtclkmnidgdkekaaGreat
open Go Go.Kn Go.Proofs
theorem w_stands {I : HMap} {av : Option Addr} {n c : Nat} {ps : List Pt} (hP : SlP I av n c ps) (hn : n ≤ 100000) (hL : Lst ps) (hnd : ∀ p ∈ ps, p.n ≤ 100000) : RetM Tryz.prog 57 [.slice av n c] I [] (fun v I' L => L = [] ∧ ∃ r, v = .map (some r) ∧ OnM I' r ps) := by
 intro g H w hw
 refine enter Tryz.func57 rfl Tryz.ntmps57 rfl hw ?_
 have hIc := HLe.refl I
 refine zR ?_
 refine zA ?_
 refine zN (zR ?_)
 refine XO_makeMap rfl rfl (fun r_10 => ?_)
 refine zA ?_
 refine zN ?_
 refine X_seq ?_
 refine zR ?_
 refine zM ?_
 refine zQ slt_22 ?_
 refine zM ?_
 refine zN ?_
 refine X_block ?_
 refine X_loopT [(3, _), (11, _), (12, _)] (.cons rfl (.cons rfl (.cons rfl .nil))) (fun T L0 mz E I' loc' => ∃ (k : Nat) (m : List (Int × Nat)), mz = n - k ∧ E = (13, .int .i64 k) :: T ∧ HLe I I' ∧ [(r_10, mapO (Value.int .i64) refV m)] = loc' ∧ k ≤ n ∧ OnL I' m (ps.take k)) _ _ _ _ ⟨0, [], rfl, rfl, HLe.refl _, rfl, Nat.zero_le _, OnL.nil⟩ (.cons rfl (.cons rfl (.cons rfl (.cons rfl .nil)))) (HLe.refl _) rfl ?_
 rintro mz E J1 loc' ⟨k, m, rfl, rfl, hJ, rfl, hk, hm⟩
 have hP := hP.mono hJ; have hIc := hIc.trans hJ
 have hB0 := hJ
 refine zR ?_
 refine zC ?_
 refine zN ?_
 refine X_seq ?_
 refine zI ?_ ?_ <;> intro hc14
 ·
  have hlt_k : k < n := by have h := hc14; simp at h; omega
  have hP1 := hP.1
  obtain ⟨p, hp, hN⟩ := hP.at hlt_k
  have hpm := List.mem_of_getElem? hp
  have hN : Sl J1 1 encI p.a p.n p.c p.needs := hN
  have hpn := hnd p hpm
  refine X_skip ?_
  refine at_then ?_
  refine X_seq ?_
  refine X_block ?_
  refine zR ?_
  refine zV (ev_indexSl rfl rfl slt_22 (by assumption) (fun hg => by first | omega | (simp [conj] at hg; omega))) ?_
  refine zV (ev_loadA rfl agt_66 (fun hg => by first | exact Sl.getA hP.1 hp | (repeat (first | exact Cells.here | exact Cells.s0 (vs := [_, _, _, _, _, _, _, _, _, _, _, _, _, _, _, _, _, _, _]) rfl | apply Cells.there | apply Cells.app))) rfl) ?_
  refine XO_alloc zt_66 rfl rfl (fun b_5 => ?_)
  refine XO_storeA rfl rfl szt_66 rfl rfl rfl rfl (by repeat (first | exact Upd.here | apply Upd.there | apply upd_app)) ?_
  refine zN (zR ?_)
  refine XO_makeMap rfl rfl (fun r_17 => ?_)
  refine zA ?_
  refine zN ?_
  refine X_seq ?_
  refine zR ?_
  refine zF fld_66_5 ?_
  refine zV (ev_load rfl sct_24 (fun hg => by first | exact Sl.get0 hN hy rfl | (repeat (first | exact Cell.here rfl | apply Cell.there | apply Cell.app)))) ?_
  refine zQ slt_24 ?_
  refine zM ?_
  refine zN ?_
  refine X_block ?_
  refine X_loopT [(3, _), (5, _), (6, _), (11, _), (12, _), (13, _), (19, _), (20, _)] (.cons rfl (.cons rfl (.cons rfl (.cons rfl (.cons rfl (.cons rfl (.cons rfl (.cons rfl .nil)))))))) (fun T L0 mz E I' loc' => ∃ (j : Nat) (s : List (Int × Bool)), mz = p.n - j ∧ E = (21, .int .i64 j) :: T ∧ J1 = I' ∧ [(r_17, mapO (Value.int .i64) Value.bool s), (b_5, .cells (encP p).toArray 66 (0, 0)), (r_10, mapO (Value.int .i64) refV m)] = loc' ∧ j ≤ p.n ∧ SetQ s (fun x => (p.needs.take j).any fun n => n == x || onF (ps.take k) n x)) _ _ _ _ ⟨0, [], rfl, rfl, rfl, rfl, Nat.zero_le _, SetQ.nil⟩ (.cons rfl (.cons rfl (.cons rfl (.cons rfl (.cons rfl (.cons rfl (.cons rfl (.cons rfl (.cons rfl .nil))))))))) (HLe.refl _) rfl ?_
  rintro mz E I' loc' ⟨j, s, rfl, rfl, rfl, rfl, hj, hs⟩
  refine zR ?_
  refine zC ?_
  refine zN ?_
  refine X_seq ?_
  refine zI ?_ ?_ <;> intro hc22
  ·
   have hlt_j : j < p.n := by have h := hc22; simp at h; omega
   obtain ⟨y, hy⟩ := hN.at hlt_j
   obtain ⟨ref, hget, sn, hsn, hsq⟩ := hm.get (hL.before hp (List.mem_of_getElem? hy))
   refine X_skip ?_
   refine at_then ?_
   refine X_seq ?_
   refine X_block ?_
   refine zR ?_
   refine zV (ev_indexSl rfl rfl slt_24 (by assumption) (fun hg => by first | omega | (simp [conj] at hg; omega))) ?_
   refine zV (ev_load rfl sct_3 (fun hg => by first | exact Sl.get0 hN hy rfl | (repeat (first | exact Cell.here rfl | apply Cell.there | apply Cell.app)))) ?_
   refine zA ?_
   refine zN (zR ?_)
   refine zM ?_
   refine zM ?_
   refine XO_mapUpdate (m := s) (ek := Value.int .i64) (ev := Value.bool) (a := y) true mpt_112 key_3 rfl rfl rfl rfl (by repeat (first | exact Upd.here | apply Upd.there | apply upd_app)) ?_
   refine zN (zR ?_)
   refine zM ?_
   refine zM ?_
   refine zV (ev_lookupG (m := m) (ek := Value.int .i64) (ev := refV) (a := y) hget mpt_114 key_3 rfl rfl (fun _ => .inr (by simp))) ?_
   refine XO_range (ek := Value.int .i64) (ev := Value.bool) (m := sn) rfl mpt_112 rfl rfl (.inl hsn) (fun b_30 => ?_)
   refine zN ?_
   refine X_block ?_
   refine X_loopT [(3, _), (5, _), (6, _), (11, _), (12, _), (13, _), (19, _), (20, _), (21, _), (30, _)] (.cons rfl (.cons rfl (.cons rfl (.cons rfl (.cons rfl (.cons rfl (.cons rfl (.cons rfl (.cons rfl (.cons rfl .nil)))))))))) (fun T L0 mz E I' loc' => ∃ (seen : List Nat) (s : List (Int × Bool)), mz = sn.length - seen.length ∧ E = T ∧ J1 = I' ∧ [(b_30, iterO ref sn.length seen), (r_17, mapO (Value.int .i64) Value.bool s), (b_5, .cells (encP p).toArray 66 (0, 0)), (r_10, mapO (Value.int .i64) refV m)] = loc' ∧ SetQ s (fun x => Seen sn seen x || (decide (y = x) || (p.needs.take j).any fun n => n == x || onF (ps.take k) n x)) ∧ seen.Nodup ∧ ∀ i ∈ seen, i < sn.length) _ _ _ _ ⟨[], _, rfl, rfl, rfl, rfl, (hs.put y).congr (fun x => by rw [seen_nil, Bool.false_or]), .nil, fun i h => by cases h⟩ (.cons rfl (.cons rfl (.cons rfl (.cons rfl (.cons rfl (.cons rfl (.cons rfl (.cons rfl (.cons rfl (.cons rfl .nil)))))))))) (HLe.refl _) rfl ?_
   rintro mz E I' loc' ⟨seen, s, rfl, rfl, rfl, rfl, hs, hnd2, hlt⟩
   have hsl := seen_lt hnd2 hlt
   refine zR ?_
   refine XO_next2 (ek := Value.int .i64) (ev := Value.bool) (m := sn) (fun s' => [(b_30, iterO ref sn.length s'), (r_17, mapO (Value.int .i64) Value.bool s), (b_5, .cells (encP p).toArray 66 (0, 0)), (r_10, mapO (Value.int .i64) refV m)]) rfl (fun s' => .here) rfl rfl rfl rfl rfl (.inl hsn) (by simp) ?_
   intro t tv s' hno hyes
   refine zN ?_
   refine X_seq ?_
   refine zI ?_ ?_ <;> intro hc32
   ·
    obtain ⟨i, q, hq, hns, rfl⟩ := hyes hc32
    refine X_skip ?_
    refine at_then ?_
    refine X_block ?_
    refine zR ?_
    refine zV (ev_entry (ek := Value.int .i64) (ev := Value.bool) (m := sn) (p := q) (seen := seen) (i := i) rfl (.inl hsn) (.inr (by simp)) hq) ?_
    refine zE ?_
    refine zA ?_
    refine zN ?_
    refine X_region ?_
    refine zM ?_
    refine zM ?_
    refine XO_mapUpdate (m := s) (ek := Value.int .i64) (ev := Value.bool) (a := q.1) true mpt_112 key_3 rfl rfl rfl rfl (by repeat (first | exact Upd.here | apply Upd.there | apply upd_app)) ?_
    refine XO_nil ?_
    refine at_block_n ?_
    have hnd3 : (seen ++ [i]).Nodup := List.nodup_append.2 ⟨hnd2, by simp, fun a ha b hb e => hns (by simp at hb; subst hb; subst e; exact ha)⟩
    have hlt3 : ∀ j ∈ seen ++ [i], j < sn.length := fun j hj => (List.mem_append.1 hj).elim (hlt j) (fun h => by simp at h; subst h; exact (List.getElem?_eq_some_iff.1 hq).1)
    have hsl2 := seen_lt hnd3 hlt3
    rw [List.length_append, List.length_singleton] at hsl2
    exact at_met2 _ _ ⟨sn.length - (seen ++ [i]).length, by rw [List.length_append, List.length_singleton]; omega, seen ++ [i], _, rfl, rfl, rfl, rfl, (hs.put q.1).congr (fun x => by rw [seen_snoc hq, Bool.or_assoc]), hnd3, hlt3⟩ (.cons rfl (.cons rfl (.cons rfl (.cons rfl (.cons rfl (.cons rfl (.cons rfl (.cons rfl (.cons rfl (.cons rfl .nil)))))))))) (by repeat (first | exact .refl | exact subL_left | refine subL_app ?_ | refine .drop ?_ | refine subL_add ?_))
   obtain ⟨rfl, hall⟩ := hno hc32
   refine X_exit ?_
   refine at_then_e ?_
   refine at_then_e ?_
   refine at_block_hit ?_
   refine at_block_n ?_
   refine at_then ?_
   refine X_region ?_
   refine zV (ev_arB rfl rfl rfl (fun _ => by omega)) ?_
   refine zM ?_
   refine XO_nil ?_
   exact at_met2 _ _ ⟨p.n - (j + 1), by omega, j + 1, _, rfl, rfl, rfl, rfl, by omega, hs.congr (fun x => by rw [any_take hy, seen_all hsq hall x]; rw [Bool.eq_iff_iff]; simp; grind)⟩ (.cons rfl (.cons rfl (.cons rfl (.cons rfl (.cons rfl (.cons rfl (.cons rfl (.cons rfl (.cons rfl .nil))))))))) (by repeat (first | exact .refl | exact subL_left | refine subL_app ?_ | refine .drop ?_ | refine subL_add ?_))
  have hge_j : p.n ≤ j := by have h := hc22; simp at h; omega
  refine X_exit ?_
  refine at_then_e ?_
  refine at_then_e ?_
  refine at_block_hit ?_
  refine at_then ?_
  refine X_freeze .here (fun I4 hI4 hb4 => ?_)
  have hP := hP.mono hI4; have hm := hm.mono hI4; have hIc := hIc.trans hI4; have hB0 := hB0.trans hI4
  have hbx := hb4
  refine X_region ?_
  refine zM ?_
  refine zF fld_66_0 ?_
  refine zV (ev_load rfl sct_3 (fun hg => by first | exact Sl.get0 hN hy rfl | (repeat (first | exact Cell.here rfl | apply Cell.there | apply Cell.app)))) ?_
  refine zM ?_
  refine XO_mapUpdate (m := m) (ek := Value.int .i64) (ev := refV) (a := p.id) r_17 mpt_114 key_3 rfl rfl rfl rfl (by repeat (first | exact Upd.here | apply Upd.there | apply upd_app)) ?_
  refine XO_nil ?_
  refine at_block_n ?_
  refine at_then ?_
  refine X_region ?_
  refine zV (ev_arB rfl rfl rfl (fun _ => by omega)) ?_
  refine zM ?_
  refine XO_nil ?_
  exact at_met2 _ _ ⟨n - (k + 1), by omega, k + 1, _, rfl, rfl, hB0, rfl, by omega, OnL.step hL hp hm hbx (by rw [take_all hN.len hge_j] at hs; exact hs)⟩ (.cons rfl (.cons rfl (.cons rfl (.cons rfl .nil)))) (by repeat (first | exact .refl | exact subL_left | refine subL_app ?_ | refine .drop ?_ | refine subL_add ?_))
 have hge_k : n ≤ k := by have h := hc14; simp at h; omega
 rw [take_all hP.len hge_k] at hm
 refine X_exit ?_
 refine at_then_e ?_
 refine at_then_e ?_
 refine at_block_hit ?_
 refine at_then ?_
 refine zR ?_
 refine zM ?_
 refine zA ?_
 refine zN ?_
 refine X_ret ?_
 exact at_ret1 rfl rfl (fun w hw => by obtain ⟨I9, h91, h92, h93⟩ := hw.freezeAll; exact ⟨_, I9, [], rfl, hIc.trans h91, h92, rfl, r_10, rfl, m, h93 _ _ (by simp), hm.mono h91⟩)
end Go.Proofs.YtclkmnidgdkekaaGreat
end
section
namespace Go.Proofs.YtclkmnidgdkekaaGreat
open Go Go.Kn Go.Proofs
theorem chk_one (x : Sg) : (chkG [x] == 0) = frm x := by
 unfold chkG skB skP
 cases h : frm x <;> simp [h]
theorem and_k1 (a b c d x y : Bool) : (((((a && b) && c) && d) && x) && y) = (((a && b) && (c && d)) && (x && y)) := by simp only [Bool.and_assoc]
theorem and_k2 (a b c d x y z : Bool) : ((((((a && b) && c) && d) && x) && y) && z) = (((a && b) && (c && d)) && (x && (y && z))) := by simp only [Bool.and_assoc]
theorem w_form (I : HMap) (x : Sg) : RetV Tryz.prog 86 [encGA x] I (.bool (frm x)) := by
 intro g H w hw
 refine enter Tryz.func86 rfl Tryz.ntmps86 rfl hw ?_
 have hIc := HLe.refl I
 refine zR ?_
 refine XO_box rfl rfl rfl (fun b_1 => ?_)
 refine zA ?_
 refine zN (zR ?_)
 refine zV (ev_loadA rfl agt_64 (fun hg => by first | (repeat (first | exact Cells.here | exact Cells.s0 (vs := [_, _, _, _, _, _, _, _, _, _, _, _, _, _]) rfl | apply Cells.there | apply Cells.app))) rfl) ?_
 refine XO_buildSlice (ps := [(0, _)]) (m := [encG x]) elt_170 rfl (.cons rfl (.nil)) rfl (by simp [encG_len]) (by decide) (by decide) rfl rfl (fun b_4 => ?_)
 refine XO_freeze .here (fun I1 hI1 hb1 => ?_)
 have hIc := hIc.trans hI1
 have hS := Sl.lit [x] rfl encG_len (show _ = some (Obj.cells (([x] : List Sg).flatMap encG).toArray 64 (0, 0)) from hb1)
 refine XO_callV0 (cap := []) (vs := [_]) rfl rfl fun_109 (w_chkG hS (by decide)) rfl rfl ?_
 refine zC ?_
 refine zA ?_
 refine zN ?_
 refine X_ret ?_
 exact at_ret1 rfl rfl (fun w hw => ⟨by rw [chk_one], (hw.mono hIc).drop⟩)
theorem w_pchk {I : HMap} (p : Pt) (hN : Nd I p) : RetV Tryz.prog 54 [encPA p] I (.int .i64 (pchk p)) := by
 intro g H w hw
 refine enter Tryz.func54 rfl Tryz.ntmps54 rfl hw ?_
 have hN : Sl I 1 encI p.a p.n p.c p.needs := hN
 refine zR ?_
 refine XO_box rfl rfl rfl (fun b_1 => ?_)
 refine zA ?_
 refine zN ?_
 refine X_seq ?_
 refine zR ?_
 refine zF fld_66_5 ?_
 refine zV (ev_load rfl sct_24 (fun hg => by first | exact Sl.get0 hN hx rfl | (repeat (first | exact Cell.here rfl | apply Cell.there | apply Cell.app)))) ?_
 refine zQ slt_24 ?_
 refine zC ?_
 refine zN ?_
 refine zI ?_ ?_ <;> intro hc11
 ·
  have hlen : p.needs.length > 32 := by rw [hN.len]; simp at hc11; omega
  refine zR ?_
  refine zA ?_
  refine zN ?_
  refine X_ret ?_
  refine at_then_r ?_
  first
  | exact at_ret1 rfl rfl (fun w hw => ⟨by rw [pchk_1 hlen], hw.drop⟩)
  | exact at_ret1 rfl rfl (fun w hw => ⟨by rw [pchk_2 hlen hnd], hw.drop⟩)
  | exact at_ret1 rfl rfl (fun w hw => ⟨by rw [pchk_3 hlen hnd hb], hw.drop⟩)
  | exact at_ret1 rfl rfl (fun w hw => ⟨by rw [pchk_4 hlen hnd hb], hw.drop⟩)
 have hlen : ¬ p.needs.length > 32 := by rw [hN.len]; simp at hc11; omega
 have hpn : p.n ≤ 100000 := by have := hN.len; omega
 refine X_skip ?_
 refine at_then ?_
 refine zR ?_
 refine zA ?_
 refine zN ?_
 refine X_seq ?_
 refine zR ?_
 refine zF fld_66_5 ?_
 refine zV (ev_load rfl sct_24 (fun hg => by first | exact Sl.get0 hN hx rfl | (repeat (first | exact Cell.here rfl | apply Cell.there | apply Cell.app)))) ?_
 refine zQ slt_24 ?_
 refine zM ?_
 refine zN ?_
 refine X_block ?_
 refine X_loopT [(1, _), (13, _), (14, _)] (.cons rfl (.cons rfl (.cons rfl .nil))) (fun T L0 mz E I' loc' => ∃ (k : Nat) (l : Int), mz = p.n - k ∧ E = (3, .int .i64 l) :: (15, .int .i64 k) :: T ∧ I = I' ∧ L0 = loc' ∧ k ≤ p.n ∧ (List.range k).all (ndP p.id p.needs) = true ∧ lastI p.needs k l) _ _ _ _ ⟨0, 0, rfl, rfl, rfl, rfl, Nat.zero_le _, rfl, ⟨fun _ => rfl, fun y hy h => absurd rfl h⟩⟩ (.cons rfl (.cons rfl (.cons rfl (.cons rfl (.cons rfl .nil))))) (HLe.refl _) rfl ?_
 rintro mz E I' loc' ⟨k, l, rfl, rfl, rfl, rfl, hk, hall, hl⟩
 refine zR ?_
 refine zC ?_
 refine zN ?_
 refine X_seq ?_
 refine zI ?_ ?_ <;> intro hc16
 ·
  have hlt_k : k < p.n := by have h := hc16; simp at h; omega
  obtain ⟨x, hx⟩ := hN.at hlt_k
  refine X_skip ?_
  refine at_then ?_
  refine X_seq ?_
  refine X_block ?_
  refine zR ?_
  refine zV (ev_indexSl rfl rfl slt_24 (by assumption) (fun hg => by first | omega | (simp [conj] at hg; omega))) ?_
  refine zV (ev_load rfl sct_3 (fun hg => by first | exact Sl.get0 hN hx rfl | (repeat (first | exact Cell.here rfl | apply Cell.there | apply Cell.app)))) ?_
  refine zA ?_
  refine zN ?_
  refine X_seq ?_
  refine zR ?_
  refine zM ?_
  refine zM ?_
  refine zC ?_
  refine zM ?_
  refine XO_pushF 3 rfl rfl rfl ?_
  refine zJ (ev_move rfl) ?_
  refine zJ (ev_fieldAddr rfl fld_66_0) ?_
  refine zJ (ev_load rfl sct_3 (fun hg => by first | exact Sl.get0 hN hx rfl | (repeat (first | exact Cell.here rfl | apply Cell.there | apply Cell.app)))) ?_
  refine zJ (ev_cmp rfl rfl rfl) ?_
  refine XO_or0 rfl rfl rfl rfl rfl ?_
  refine zN ?_
  refine zI ?_ ?_ <;> intro hc27
  ·
   have hnd : ndB p.id p.needs = false := by unfold ndB; exact range_bad (k := k) (by rw [hN.len]; exact hlt_k) (by rw [nd_at hall hl hx, hc27]; rfl)
   refine zR ?_
   refine zA ?_
   refine zN ?_
   refine X_ret ?_
   refine at_then_r ?_
   refine at_block_r ?_
   refine at_then_r ?_
   refine at_then_r ?_
   refine at_block_r ?_
   refine at_then_r ?_
   first
   | exact at_ret1 rfl rfl (fun w hw => ⟨by rw [pchk_1 hlen], hw.drop⟩)
   | exact at_ret1 rfl rfl (fun w hw => ⟨by rw [pchk_2 hlen hnd], hw.drop⟩)
   | exact at_ret1 rfl rfl (fun w hw => ⟨by rw [pchk_3 hlen hnd hb], hw.drop⟩)
   | exact at_ret1 rfl rfl (fun w hw => ⟨by rw [pchk_4 hlen hnd hb], hw.drop⟩)
  refine X_skip ?_
  refine at_then ?_
  refine X_region ?_
  refine zM ?_
  refine zA ?_
  refine XO_nil ?_
  refine at_block_n ?_
  refine at_then ?_
  refine X_region ?_
  refine zV (ev_arB rfl rfl rfl (fun _ => by omega)) ?_
  refine zM ?_
  refine XO_nil ?_
  exact at_met2 _ _ ⟨p.n - (k + 1), by omega, k + 1, _, rfl, rfl, rfl, rfl, by omega, range_step hall (by rw [nd_at hall hl hx, hc27]; rfl), lastI_step hx⟩ (.cons rfl (.cons rfl (.cons rfl (.cons rfl (.cons rfl .nil))))) (by repeat (first | exact .refl | exact subL_left | refine subL_app ?_ | refine .drop ?_ | refine subL_add ?_))
 have hge_k : p.n ≤ k := by have h := hc16; simp at h; omega
 have hnd : ndB p.id p.needs = true := by unfold ndB; rw [hN.len, show p.n = k by omega]; exact hall
 refine X_exit ?_
 refine at_then_e ?_
 refine at_then_e ?_
 refine at_block_hit ?_
 refine at_then ?_
 refine zR ?_
 refine zF fld_66_0 ?_
 refine zV (ev_load rfl sct_3 (fun hg => by first | exact Sl.get0 hN hx rfl | (repeat (first | exact Cell.here rfl | apply Cell.there | apply Cell.app)))) ?_
 refine zC ?_
 refine zM ?_
 refine XO_pushT 3 rfl rfl rfl ?_
 refine zK (ev_fieldAddr rfl fld_66_0) ?_
 refine zK (ev_load rfl sct_3 (fun hg => by first | exact Sl.get0 hN hx rfl | (repeat (first | exact Cell.here rfl | apply Cell.there | apply Cell.app)))) ?_
 refine zK (ev_cmp rfl rfl rfl) ?_
 refine XO_and0 rfl rfl rfl rfl rfl ?_
 refine zM ?_
 refine XO_pushT 8 rfl rfl rfl ?_
 refine zK (ev_fieldAddr rfl fld_66_2) ?_
 refine zK (ev_load rfl sct_3 (fun hg => by first | exact Sl.get0 hN hx rfl | (repeat (first | exact Cell.here rfl | apply Cell.there | apply Cell.app)))) ?_
 refine zK (ev_cmp rfl rfl rfl) ?_
 refine XO_and0 rfl rfl rfl rfl rfl ?_
 refine zM ?_
 refine XO_pushT 13 rfl rfl rfl ?_
 refine zK (ev_fieldAddr rfl fld_66_2) ?_
 refine zK (ev_load rfl sct_3 (fun hg => by first | exact Sl.get0 hN hx rfl | (repeat (first | exact Cell.here rfl | apply Cell.there | apply Cell.app)))) ?_
 refine zK (ev_cmp rfl rfl rfl) ?_
 refine XO_and0 rfl rfl rfl rfl rfl ?_
 refine zA ?_
 refine zN ?_
 refine X_seq ?_
 refine zR ?_
 refine zF fld_66_1 ?_
 refine zV (ev_load rfl sct_3 (fun hg => by first | exact Sl.get0 hN hx rfl | (repeat (first | exact Cell.here rfl | apply Cell.there | apply Cell.app)))) ?_
 refine zN ?_
 refine X_block ?_
 refine zR ?_
 refine zC ?_
 refine zA ?_
 refine zN ?_
 refine zI ?_ ?_ <;> intro hc50
 ·
  have hk : p.kind = 1 := by simpa using hc50
  refine X_seq ?_
  refine zR ?_
  refine zF fld_66_3 ?_
  refine zV (ev_load rfl sct_3 (fun hg => by first | exact Sl.get0 hN hx rfl | (repeat (first | exact Cell.here rfl | apply Cell.there | apply Cell.app)))) ?_
  refine zC ?_
  refine zM ?_
  refine XO_pushF 3 rfl rfl rfl ?_
  refine zJ (ev_fieldAddr rfl fld_66_3) ?_
  refine zJ (ev_load rfl sct_3 (fun hg => by first | exact Sl.get0 hN hx rfl | (repeat (first | exact Cell.here rfl | apply Cell.there | apply Cell.app)))) ?_
  refine zJ (ev_cmp rfl rfl rfl) ?_
  refine XO_or0 rfl rfl rfl rfl rfl ?_
  refine zN ?_
  refine zI ?_ ?_ <;> intro hc59
  ·
   have hb : (idB p && kndB p) = false := knd_1n hk (by unfold within; simp at hc59 ⊢; omega)
   refine zR ?_
   refine zA ?_
   refine zN ?_
   refine X_ret ?_
   refine at_then_r ?_
   refine at_block_r ?_
   refine at_then_r ?_
   first
   | exact at_ret1 rfl rfl (fun w hw => ⟨by rw [pchk_1 hlen], hw.drop⟩)
   | exact at_ret1 rfl rfl (fun w hw => ⟨by rw [pchk_2 hlen hnd], hw.drop⟩)
   | exact at_ret1 rfl rfl (fun w hw => ⟨by rw [pchk_3 hlen hnd hb], hw.drop⟩)
   | exact at_ret1 rfl rfl (fun w hw => ⟨by rw [pchk_4 hlen hnd hb], hw.drop⟩)
  have hf : isF p.field := by have h := hc59; unfold isF; simp at h; omega
  have hw1 : within p.field 1 9 = true := by have h := hc59; unfold within; simp at h ⊢; omega
  refine X_skip ?_
  refine at_then ?_
  refine zR ?_
  refine zV (ev_buildL (ps := [(1, _)]) [_, _] plt_62 rfl rfl) ?_
  refine zV (ev_buildL (ps := [(0, _), (1, _)]) [_, _] plt_62 rfl rfl) ?_
  refine zV (ev_buildL (ps := [(3, _), (4, _), (10, _), (11, _)]) [_, _, _, _, _, _, _, _, _, _, _, _, _, _] plt_64 rfl rfl) ?_
  refine XO_alloc zt_64 rfl rfl (fun b_7 => ?_)
  refine XO_storeA rfl rfl szt_64 rfl rfl rfl rfl (by repeat (first | exact Upd.here | apply Upd.there | apply upd_app)) ?_
  refine zN ?_
  refine X_region ?_
  refine zM ?_
  refine zM ?_
  refine XO_pushT 1 rfl rfl rfl ?_
  refine zK (ev_fieldAddr rfl fld_66_4) ?_
  refine zK (ev_loadA rfl agt_64 (fun hg => by first | (repeat (first | exact Cells.here | exact Cells.s0 (vs := [_, _, _, _, _, _, _, _, _, _, _, _, _, _]) rfl | apply Cells.there | apply Cells.app))) rfl) ?_
  refine zK (ev_fieldAddr rfl fld_66_3) ?_
  refine zK (ev_load rfl sct_3 (fun hg => by first | exact Sl.get0 hN hx rfl | (repeat (first | exact Cell.here rfl | apply Cell.there | apply Cell.app)))) ?_
  refine zK (ev_buildL (ps := []) [_, _, _, _, _, _, _, _, _, _, _, _, _, _] plt_64 rfl rfl) ?_
  refine XO_callV1 (cap := []) (vs := [_, _, _]) rfl rfl fun_85 (fun hg => w_set I p.nw p.field zeroG hf) (.some rfl rfl rfl rfl gbt) rfl rfl ?_
  refine zK (ev_buildL (ps := []) [_, _, _, _, _, _, _, _, _, _, _, _, _, _] plt_64 rfl rfl) ?_
  refine zK (ev_eqS2 rfl rfl eqt2_64 rfl) ?_
  refine XO_and0 rfl rfl rfl rfl rfl ?_
  refine zM ?_
  refine XO_pushT 11 rfl rfl rfl ?_
  refine zK (ev_loadA rfl agt_64 (fun hg => by first | (repeat (first | exact Cells.here | exact Cells.s0 (vs := [_, _, _, _, _, _, _, _, _, _, _, _, _, _]) rfl | apply Cells.there | apply Cells.app))) rfl) ?_
  refine zK (ev_fieldAddr rfl fld_66_3) ?_
  refine zK (ev_load rfl sct_3 (fun hg => by first | exact Sl.get0 hN hx rfl | (repeat (first | exact Cell.here rfl | apply Cell.there | apply Cell.app)))) ?_
  refine zK (ev_fieldAddr rfl fld_66_4) ?_
  refine zK (ev_loadA rfl agt_64 (fun hg => by first | (repeat (first | exact Cells.here | exact Cells.s0 (vs := [_, _, _, _, _, _, _, _, _, _, _, _, _, _]) rfl | apply Cells.there | apply Cells.app))) rfl) ?_
  refine XO_callV1 (cap := []) (vs := [_, _, _]) rfl rfl fun_85 (fun hg => w_set I plainG p.field p.nw hf) (.some rfl rfl rfl rfl gbt) rfl rfl ?_
  refine XO_callV1 (cap := []) (vs := [_]) rfl rfl fun_86 (fun hg => w_form I _) (.some rfl rfl rfl rfl gbt) rfl rfl ?_
  refine XO_and0 rfl rfl rfl rfl rfl ?_
  refine zA ?_
  refine XO_nil ?_
  refine at_block_n ?_
  refine at_then ?_
  refine X_seq ?_
  refine zR ?_
  refine zM ?_
  refine zO ?_
  refine zN ?_
  refine zI ?_ ?_ <;> intro hc119
  ·
   have hb : (idB p && kndB p) = false := by first | (exact (show (idB p && kndB p) = false from by rw [knd_1 hk hw1]; exact (and_k1 _ _ _ _ _ _).symm.trans ((Bool.not_eq_true' _).mp hc119))) | (exact (show (idB p && kndB p) = false from by rw [knd_2 hk]; exact (and_k2 _ _ _ _ _ _ _).symm.trans ((Bool.not_eq_true' _).mp hc119))) | (exact (show (idB p && kndB p) = false from by rw [knd_3 hk]; exact (and_k1 _ _ _ _ _ _).symm.trans ((Bool.not_eq_true' _).mp hc119))) | exact knd_4 hk1 hk2 hk3
   refine zR ?_
   refine zA ?_
   refine zN ?_
   refine X_ret ?_
   refine at_then_r ?_
   first
   | exact at_ret1 rfl rfl (fun w hw => ⟨by rw [pchk_1 hlen], hw.drop⟩)
   | exact at_ret1 rfl rfl (fun w hw => ⟨by rw [pchk_2 hlen hnd], hw.drop⟩)
   | exact at_ret1 rfl rfl (fun w hw => ⟨by rw [pchk_3 hlen hnd hb], hw.drop⟩)
   | exact at_ret1 rfl rfl (fun w hw => ⟨by rw [pchk_4 hlen hnd hb], hw.drop⟩)
  have hb : (idB p && kndB p) = true := by first | (exact (show (idB p && kndB p) = true from by rw [knd_1 hk hw1]; exact (and_k1 _ _ _ _ _ _).symm.trans ((Bool.not_eq_false' _).mp hc119))) | (exact (show (idB p && kndB p) = true from by rw [knd_2 hk]; exact (and_k2 _ _ _ _ _ _ _).symm.trans ((Bool.not_eq_false' _).mp hc119))) | (exact (show (idB p && kndB p) = true from by rw [knd_3 hk]; exact (and_k1 _ _ _ _ _ _).symm.trans ((Bool.not_eq_false' _).mp hc119))) | (exfalso; have h := hc119; simp at h)
  refine X_skip ?_
  refine at_then ?_
  refine zR ?_
  refine zA ?_
  refine zN ?_
  refine X_ret ?_
  first
  | exact at_ret1 rfl rfl (fun w hw => ⟨by rw [pchk_1 hlen], hw.drop⟩)
  | exact at_ret1 rfl rfl (fun w hw => ⟨by rw [pchk_2 hlen hnd], hw.drop⟩)
  | exact at_ret1 rfl rfl (fun w hw => ⟨by rw [pchk_3 hlen hnd hb], hw.drop⟩)
  | exact at_ret1 rfl rfl (fun w hw => ⟨by rw [pchk_4 hlen hnd hb], hw.drop⟩)
 have hk1 : p.kind ≠ 1 := by simpa using hc50
 refine zR ?_
 refine zC ?_
 refine zA ?_
 refine zN ?_
 refine zI ?_ ?_ <;> intro hc83
 ·
  have hk : p.kind = 2 := by simpa using hc83
  refine X_region ?_
  refine zM ?_
  refine zM ?_
  refine XO_pushT 1 rfl rfl rfl ?_
  refine zK (ev_fieldAddr rfl fld_66_3) ?_
  refine zK (ev_load rfl sct_3 (fun hg => by first | exact Sl.get0 hN hx rfl | (repeat (first | exact Cell.here rfl | apply Cell.there | apply Cell.app)))) ?_
  refine zK (ev_cmp rfl rfl rfl) ?_
  refine XO_and0 rfl rfl rfl rfl rfl ?_
  refine zM ?_
  refine XO_pushT 6 rfl rfl rfl ?_
  refine zK (ev_fieldAddr rfl fld_66_4) ?_
  refine zK (ev_fieldAddr rfl fld_64_0) ?_
  refine zK (ev_load rfl sct_3 (fun hg => by first | exact Sl.get0 hN hx rfl | (repeat (first | exact Cell.here rfl | apply Cell.there | apply Cell.app)))) ?_
  refine zK (ev_fieldAddr rfl fld_66_2) ?_
  refine zK (ev_load rfl sct_3 (fun hg => by first | exact Sl.get0 hN hx rfl | (repeat (first | exact Cell.here rfl | apply Cell.there | apply Cell.app)))) ?_
  refine zK (ev_cmp rfl rfl rfl) ?_
  refine XO_and0 rfl rfl rfl rfl rfl ?_
  refine zM ?_
  refine XO_pushT 14 rfl rfl rfl ?_
  refine zK (ev_fieldAddr rfl fld_66_4) ?_
  refine zK (ev_loadA rfl agt_64 (fun hg => by first | (repeat (first | exact Cells.here | exact Cells.s0 (vs := [_, _, _, _, _, _, _, _, _, _, _, _, _, _]) rfl | apply Cells.there | apply Cells.app))) rfl) ?_
  refine XO_callV1 (cap := []) (vs := [_]) rfl rfl fun_86 (fun hg => w_form I _) (.some rfl rfl rfl rfl gbt) rfl rfl ?_
  refine XO_and0 rfl rfl rfl rfl rfl ?_
  refine zA ?_
  refine XO_nil ?_
  refine at_block_n ?_
  refine at_then ?_
  refine X_seq ?_
  refine zR ?_
  refine zM ?_
  refine zO ?_
  refine zN ?_
  refine zI ?_ ?_ <;> intro hc119
  ·
   have hb : (idB p && kndB p) = false := by first | (exact (show (idB p && kndB p) = false from by rw [knd_1 hk hw1]; exact (and_k1 _ _ _ _ _ _).symm.trans ((Bool.not_eq_true' _).mp hc119))) | (exact (show (idB p && kndB p) = false from by rw [knd_2 hk]; exact (and_k2 _ _ _ _ _ _ _).symm.trans ((Bool.not_eq_true' _).mp hc119))) | (exact (show (idB p && kndB p) = false from by rw [knd_3 hk]; exact (and_k1 _ _ _ _ _ _).symm.trans ((Bool.not_eq_true' _).mp hc119))) | exact knd_4 hk1 hk2 hk3
   refine zR ?_
   refine zA ?_
   refine zN ?_
   refine X_ret ?_
   refine at_then_r ?_
   first
   | exact at_ret1 rfl rfl (fun w hw => ⟨by rw [pchk_1 hlen], hw.drop⟩)
   | exact at_ret1 rfl rfl (fun w hw => ⟨by rw [pchk_2 hlen hnd], hw.drop⟩)
   | exact at_ret1 rfl rfl (fun w hw => ⟨by rw [pchk_3 hlen hnd hb], hw.drop⟩)
   | exact at_ret1 rfl rfl (fun w hw => ⟨by rw [pchk_4 hlen hnd hb], hw.drop⟩)
  have hb : (idB p && kndB p) = true := by first | (exact (show (idB p && kndB p) = true from by rw [knd_1 hk hw1]; exact (and_k1 _ _ _ _ _ _).symm.trans ((Bool.not_eq_false' _).mp hc119))) | (exact (show (idB p && kndB p) = true from by rw [knd_2 hk]; exact (and_k2 _ _ _ _ _ _ _).symm.trans ((Bool.not_eq_false' _).mp hc119))) | (exact (show (idB p && kndB p) = true from by rw [knd_3 hk]; exact (and_k1 _ _ _ _ _ _).symm.trans ((Bool.not_eq_false' _).mp hc119))) | (exfalso; have h := hc119; simp at h)
  refine X_skip ?_
  refine at_then ?_
  refine zR ?_
  refine zA ?_
  refine zN ?_
  refine X_ret ?_
  first
  | exact at_ret1 rfl rfl (fun w hw => ⟨by rw [pchk_1 hlen], hw.drop⟩)
  | exact at_ret1 rfl rfl (fun w hw => ⟨by rw [pchk_2 hlen hnd], hw.drop⟩)
  | exact at_ret1 rfl rfl (fun w hw => ⟨by rw [pchk_3 hlen hnd hb], hw.drop⟩)
  | exact at_ret1 rfl rfl (fun w hw => ⟨by rw [pchk_4 hlen hnd hb], hw.drop⟩)
 have hk2 : p.kind ≠ 2 := by simpa using hc83
 refine zR ?_
 refine zC ?_
 refine zA ?_
 refine zN ?_
 refine zI ?_ ?_ <;> intro hc104
 ·
  have hk : p.kind = 3 := by simpa using hc104
  refine X_region ?_
  refine zM ?_
  refine zM ?_
  refine XO_pushT 1 rfl rfl rfl ?_
  refine zK (ev_fieldAddr rfl fld_66_3) ?_
  refine zK (ev_load rfl sct_3 (fun hg => by first | exact Sl.get0 hN hx rfl | (repeat (first | exact Cell.here rfl | apply Cell.there | apply Cell.app)))) ?_
  refine zK (ev_cmp rfl rfl rfl) ?_
  refine XO_and0 rfl rfl rfl rfl rfl ?_
  refine zM ?_
  refine XO_pushT 6 rfl rfl rfl ?_
  refine zK (ev_fieldAddr rfl fld_66_4) ?_
  refine zK (ev_loadA rfl agt_64 (fun hg => by first | (repeat (first | exact Cells.here | exact Cells.s0 (vs := [_, _, _, _, _, _, _, _, _, _, _, _, _, _]) rfl | apply Cells.there | apply Cells.app))) rfl) ?_
  refine zK (ev_buildL (ps := []) [_, _, _, _, _, _, _, _, _, _, _, _, _, _] plt_64 rfl rfl) ?_
  refine zK (ev_eqS2 rfl rfl eqt2_64 rfl) ?_
  refine XO_and0 rfl rfl rfl rfl rfl ?_
  refine zA ?_
  refine XO_nil ?_
  refine at_block_n ?_
  refine at_then ?_
  refine X_seq ?_
  refine zR ?_
  refine zM ?_
  refine zO ?_
  refine zN ?_
  refine zI ?_ ?_ <;> intro hc119
  ·
   have hb : (idB p && kndB p) = false := by first | (exact (show (idB p && kndB p) = false from by rw [knd_1 hk hw1]; exact (and_k1 _ _ _ _ _ _).symm.trans ((Bool.not_eq_true' _).mp hc119))) | (exact (show (idB p && kndB p) = false from by rw [knd_2 hk]; exact (and_k2 _ _ _ _ _ _ _).symm.trans ((Bool.not_eq_true' _).mp hc119))) | (exact (show (idB p && kndB p) = false from by rw [knd_3 hk]; exact (and_k1 _ _ _ _ _ _).symm.trans ((Bool.not_eq_true' _).mp hc119))) | exact knd_4 hk1 hk2 hk3
   refine zR ?_
   refine zA ?_
   refine zN ?_
   refine X_ret ?_
   refine at_then_r ?_
   first
   | exact at_ret1 rfl rfl (fun w hw => ⟨by rw [pchk_1 hlen], hw.drop⟩)
   | exact at_ret1 rfl rfl (fun w hw => ⟨by rw [pchk_2 hlen hnd], hw.drop⟩)
   | exact at_ret1 rfl rfl (fun w hw => ⟨by rw [pchk_3 hlen hnd hb], hw.drop⟩)
   | exact at_ret1 rfl rfl (fun w hw => ⟨by rw [pchk_4 hlen hnd hb], hw.drop⟩)
  have hb : (idB p && kndB p) = true := by first | (exact (show (idB p && kndB p) = true from by rw [knd_1 hk hw1]; exact (and_k1 _ _ _ _ _ _).symm.trans ((Bool.not_eq_false' _).mp hc119))) | (exact (show (idB p && kndB p) = true from by rw [knd_2 hk]; exact (and_k2 _ _ _ _ _ _ _).symm.trans ((Bool.not_eq_false' _).mp hc119))) | (exact (show (idB p && kndB p) = true from by rw [knd_3 hk]; exact (and_k1 _ _ _ _ _ _).symm.trans ((Bool.not_eq_false' _).mp hc119))) | (exfalso; have h := hc119; simp at h)
  refine X_skip ?_
  refine at_then ?_
  refine zR ?_
  refine zA ?_
  refine zN ?_
  refine X_ret ?_
  first
  | exact at_ret1 rfl rfl (fun w hw => ⟨by rw [pchk_1 hlen], hw.drop⟩)
  | exact at_ret1 rfl rfl (fun w hw => ⟨by rw [pchk_2 hlen hnd], hw.drop⟩)
  | exact at_ret1 rfl rfl (fun w hw => ⟨by rw [pchk_3 hlen hnd hb], hw.drop⟩)
  | exact at_ret1 rfl rfl (fun w hw => ⟨by rw [pchk_4 hlen hnd hb], hw.drop⟩)
 have hk3 : p.kind ≠ 3 := by simpa using hc104
 refine X_region ?_
 refine zA ?_
 refine XO_nil ?_
 refine at_block_n ?_
 refine at_then ?_
 refine X_seq ?_
 refine zR ?_
 refine zM ?_
 refine zO ?_
 refine zN ?_
 refine zI ?_ ?_ <;> intro hc119
 ·
  have hb : (idB p && kndB p) = false := by first | (exact (show (idB p && kndB p) = false from by rw [knd_1 hk hw1]; exact (and_k1 _ _ _ _ _ _).symm.trans ((Bool.not_eq_true' _).mp hc119))) | (exact (show (idB p && kndB p) = false from by rw [knd_2 hk]; exact (and_k2 _ _ _ _ _ _ _).symm.trans ((Bool.not_eq_true' _).mp hc119))) | (exact (show (idB p && kndB p) = false from by rw [knd_3 hk]; exact (and_k1 _ _ _ _ _ _).symm.trans ((Bool.not_eq_true' _).mp hc119))) | exact knd_4 hk1 hk2 hk3
  refine zR ?_
  refine zA ?_
  refine zN ?_
  refine X_ret ?_
  refine at_then_r ?_
  first
  | exact at_ret1 rfl rfl (fun w hw => ⟨by rw [pchk_1 hlen], hw.drop⟩)
  | exact at_ret1 rfl rfl (fun w hw => ⟨by rw [pchk_2 hlen hnd], hw.drop⟩)
  | exact at_ret1 rfl rfl (fun w hw => ⟨by rw [pchk_3 hlen hnd hb], hw.drop⟩)
  | exact at_ret1 rfl rfl (fun w hw => ⟨by rw [pchk_4 hlen hnd hb], hw.drop⟩)
 have hb : (idB p && kndB p) = true := by first | (exact (show (idB p && kndB p) = true from by rw [knd_1 hk hw1]; exact (and_k1 _ _ _ _ _ _).symm.trans ((Bool.not_eq_false' _).mp hc119))) | (exact (show (idB p && kndB p) = true from by rw [knd_2 hk]; exact (and_k2 _ _ _ _ _ _ _).symm.trans ((Bool.not_eq_false' _).mp hc119))) | (exact (show (idB p && kndB p) = true from by rw [knd_3 hk]; exact (and_k1 _ _ _ _ _ _).symm.trans ((Bool.not_eq_false' _).mp hc119))) | (exfalso; have h := hc119; simp at h)
 refine X_skip ?_
 refine at_then ?_
 refine zR ?_
 refine zA ?_
 refine zN ?_
 refine X_ret ?_
 first
 | exact at_ret1 rfl rfl (fun w hw => ⟨by rw [pchk_1 hlen], hw.drop⟩)
 | exact at_ret1 rfl rfl (fun w hw => ⟨by rw [pchk_2 hlen hnd], hw.drop⟩)
 | exact at_ret1 rfl rfl (fun w hw => ⟨by rw [pchk_3 hlen hnd hb], hw.drop⟩)
 | exact at_ret1 rfl rfl (fun w hw => ⟨by rw [pchk_4 hlen hnd hb], hw.drop⟩)
theorem w_ixI {I : HMap} {av : Option Addr} {n c : Nat} {xs : List Int} (hS : Sl I 1 encI av n c xs) (hn : n ≤ 100000) {fid : Nat} {cap : List Value} {P : Int → Bool} (hF : Fun Tryz.prog fid) (hf : ∀ x ∈ xs, RetV Tryz.prog fid ([.int .i64 x] ++ cap) I (.bool (P x))) : RetV Tryz.prog 87 [.slice av n c, .func (.func fid) #[] cap.toArray] I (.int .i64 (idxF P xs)) := by
 intro g H w hw
 refine enter Tryz.func87 rfl Tryz.ntmps87 rfl hw ?_
 have hS := hS
 refine zR ?_
 refine zA ?_
 refine zN ?_
 refine X_seq ?_
 refine zR ?_
 refine zM ?_
 refine zQ slt_24 ?_
 refine zM ?_
 refine zN ?_
 refine X_block ?_
 refine X_loopT [(0, _), (1, _), (7, _)] (.cons rfl (.cons rfl (.cons rfl .nil))) (fun T L0 mz E I' loc' => ∃ (k : Nat), mz = n - k ∧ E = (8, .int .i64 k) :: T ∧ I = I' ∧ L0 = loc' ∧ k ≤ n ∧ (xs.take k).any P = false) _ _ _ _ ⟨0, rfl, rfl, rfl, rfl, Nat.zero_le _, rfl⟩ (.cons rfl (.cons rfl (.cons rfl (.cons rfl .nil)))) (HLe.refl _) rfl ?_
 rintro mz E I' loc' ⟨k, rfl, rfl, rfl, rfl, hk, hno⟩
 refine zR ?_
 refine zC ?_
 refine zN ?_
 refine X_seq ?_
 refine zI ?_ ?_ <;> intro hc9
 ·
  have hlt_k : k < n := by have h := hc9; simp at h; omega
  obtain ⟨x, hx⟩ := hS.at hlt_k
  refine X_skip ?_
  refine at_then ?_
  refine X_seq ?_
  refine X_block ?_
  refine zR ?_
  refine zM ?_
  refine zA ?_
  refine zN (zR ?_)
  refine zM ?_
  refine zM ?_
  refine zM ?_
  refine zV (ev_indexSl rfl rfl slt_24 (by assumption) (fun hg => by first | omega | (simp [conj] at hg; omega))) ?_
  refine zV (ev_load rfl sct_3 (fun hg => by first | exact Sl.get0 hS hx rfl | (repeat (first | exact Cell.here rfl | apply Cell.there | apply Cell.app)))) ?_
  refine XO_callV0 (cap := cap) (vs := [_]) rfl rfl hF (hf x (List.mem_of_getElem? hx)) rfl rfl ?_
  refine zN ?_
  refine zI ?_ ?_ <;> intro hc16
  ·
   refine zR ?_
   refine zM ?_
   refine zA ?_
   refine zN ?_
   refine X_ret ?_
   refine at_block_r ?_
   refine at_then_r ?_
   refine at_then_r ?_
   refine at_block_r ?_
   refine at_then_r ?_
   first
   | exact at_ret1 rfl rfl (fun w hw => ⟨by rw [idx_hit hno hx hc16], hw.drop⟩)
   | exact at_ret1 rfl rfl (fun w hw => ⟨by rw [idx_none hS.len hge_k hno], hw.drop⟩)
  refine X_skip ?_
  refine at_block_n ?_
  refine at_then ?_
  refine X_region ?_
  refine zV (ev_arB rfl rfl rfl (fun _ => by omega)) ?_
  refine zM ?_
  refine XO_nil ?_
  exact at_met2 _ _ ⟨n - (k + 1), by omega, k + 1, rfl, rfl, rfl, rfl, by omega, any_no hx hno hc16⟩ (.cons rfl (.cons rfl (.cons rfl (.cons rfl .nil)))) (by repeat (first | exact .refl | exact subL_left | refine subL_app ?_ | refine .drop ?_ | refine subL_add ?_))
 have hge_k : n ≤ k := by have h := hc9; simp at h; omega
 refine X_exit ?_
 refine at_then_e ?_
 refine at_then_e ?_
 refine at_block_hit ?_
 refine at_then ?_
 refine zR ?_
 refine zA ?_
 refine zN ?_
 refine X_ret ?_
 first
 | exact at_ret1 rfl rfl (fun w hw => ⟨by rw [idx_hit hno hx hc16], hw.drop⟩)
 | exact at_ret1 rfl rfl (fun w hw => ⟨by rw [idx_none hS.len hge_k hno], hw.drop⟩)
theorem w_cnI {I : HMap} {av : Option Addr} {n c : Nat} {xs : List Int} (hS : Sl I 1 encI av n c xs) (hn : n ≤ 100000) {fid : Nat} {cap : List Value} {P : Int → Bool} (hF : Fun Tryz.prog fid) (hf : ∀ x ∈ xs, RetV Tryz.prog fid ([.int .i64 x] ++ cap) I (.bool (P x))) : RetV Tryz.prog 55 [.slice av n c, .func (.func fid) #[] cap.toArray] I (.bool (xs.any P)) := by
 intro g H w hw
 refine enter Tryz.func55 rfl Tryz.ntmps55 rfl hw ?_
 refine zR ?_
 refine zA ?_
 refine zN (zR ?_)
 refine zM ?_
 refine zM ?_
 refine XO_callV0 (cap := []) (vs := [_, _]) rfl rfl fun_87 (w_ixI hS hn hF hf) rfl rfl ?_
 refine zC ?_
 refine zA ?_
 refine zN ?_
 refine X_ret ?_
 exact at_ret1 rfl rfl (fun w hw => ⟨by rw [← idx_any], hw.drop⟩)
theorem w_ck1 {I : HMap} {b r : Nat} {s : List (Int × Bool)} (hb : I b = some (.cells #[.map (some r)] 112 (0, 0))) (hr : I r = some (mapO (Value.int .i64) Value.bool s)) (x : Int) : RetV Tryz.prog 56 [.int .i64 x, .pointer (some ⟨b, 0, none⟩)] I (.bool (!setM s x)) := by
 intro g H w hw
 refine enter Tryz.func56 rfl Tryz.ntmps56 rfl hw ?_
 refine zR ?_
 refine zA ?_
 refine zN (zR ?_)
 refine zV (ev_load rfl sct_112 (fun hg => by first | exact .imm hb rfl | (repeat (first | exact Cell.here rfl | apply Cell.there | apply Cell.app)))) ?_
 refine zM ?_
 refine zV (ev_lookupBool  mpt_112 key_3 rfl rfl (fun _ => .inl hr)) ?_
 refine zO ?_
 refine zA ?_
 refine zN ?_
 refine X_ret ?_
 exact at_ret1 rfl rfl (fun w hw => ⟨by first | rfl | simp_all, hw.drop⟩)
end Go.Proofs.YtclkmnidgdkekaaGreat
end
section
namespace Go.Proofs.YtclkmnidgdkekaaGreat
open Go Go.Kn Go.Proofs
def idsP (ps : List Pt) : List Int := ps.map (·.id)
def lsQ (ps : List Pt) (i : Nat) : Bool := !((decide ((i : Int) > 0) && decide ((ps.getD i zeroP).id ≤ (ps.getD ((i : Int) - 1).toNat zeroP).id)) || (ps.getD i zeroP).needs.any (fun n => !hasI (ps.take i) n))
theorem lsQ_at {ps : List Pt} {k : Nat} {p : Pt} {l : Int} {s : List (Int × Bool)} (hp : ps[k]? = some p) (h1 : 1 ≤ p.id) (hl : lastI (idsP ps) k l) (hs : ∀ x, setM s x = hasI (ps.take k) x) : lsQ ps k = !(decide (p.id ≤ l) || p.needs.any fun x => !setM s x) := by
  unfold lsQ
  rw [getD_of hp]
  simp only [hs]
  congr 2
  cases k with
  | zero =>
    rw [hl.1 rfl, Bool.eq_iff_iff]; simp; omega
  | succ k =>
    have hk := (List.getElem?_eq_some_iff.1 hp).1
    have hy : ps[k]? = some (ps[k]'(by omega)) := List.getElem?_eq_getElem _
    have e := hl.2 (ps[k]'(by omega)).id (by rw [Nat.add_sub_cancel]; simp [idsP, hy]) (by omega)
    rw [show (((k + 1 : Nat) : Int) - 1).toNat = k by omega, getD_of hy, ← e, Bool.eq_iff_iff]; simp
theorem lastP_step {ps : List Pt} {k : Nat} {p : Pt} (hp : ps[k]? = some p) : lastI (idsP ps) (k + 1) p.id := lastI_step (by simp [idsP, hp])
theorem has_snoc {ps : List Pt} {k : Nat} {p : Pt} (hp : ps[k]? = some p) (x : Int) : hasI (ps.take (k + 1)) x = (decide (p.id = x) || hasI (ps.take k) x) := by
  unfold hasI
  rw [take_snoc hp, List.any_append, Bool.eq_iff_iff]
  simp [or_comm]
theorem has_take {ps : List Pt} {k : Nat} {n : Int} (h : hasI (ps.take k) n = true) : hasI ps n = true := by
  obtain ⟨q, hq, e⟩ := hasI_iff.1 h
  exact hasI_iff.2 ⟨q, List.mem_of_mem_take hq, e⟩
theorem lsQ_lsP {ps : List Pt} (h0 : orF (ps.map pchk) = 0) : (List.range ps.length).all (lsQ ps) = lsB ps := by
  rw [Bool.eq_iff_iff]
  constructor
  · intro h
    unfold lsB
    rw [List.all_eq_true] at h ⊢
    intro i hi
    have := h i hi
    unfold lsQ at this
    unfold lsP
    simp only [Bool.not_eq_true', Bool.or_eq_false_iff] at this ⊢
    refine ⟨this.1, ?_⟩
    have h2 := this.2
    rw [List.any_eq_false] at h2 ⊢
    intro n hn hc
    refine h2 n hn ?_
    rw [Bool.not_eq_true'] at hc ⊢
    cases hh : hasI (ps.take i) n with
    | false => rfl
    | true => rw [has_take hh] at hc; cases hc
  · intro h
    have hL := ls_lst h0 h
    unfold lsB at h
    rw [List.all_eq_true] at h ⊢
    intro i hi
    have := h i hi
    unfold lsP at this
    unfold lsQ
    simp only [Bool.not_eq_true', Bool.or_eq_false_iff] at this ⊢
    refine ⟨this.1, ?_⟩
    rw [List.any_eq_false]
    intro n hn hc
    have hk : ps[i]? = some (ps.getD i zeroP) := some_getD rfl (List.mem_range.1 hi)
    obtain ⟨q, hq, e⟩ := hL.before hk hn
    rw [hasI_iff.2 ⟨q, hq, e⟩] at hc
    cases hc
/-! ### Inserts and removes of a sign -/
def kindL (k : Int) (ps : List Pt) (s : Int) : List Int := (ps.filter fun q => q.kind == k && q.sign == s).map (·.id)
theorem kindL_snoc {c : Int} {ps : List Pt} {k : Nat} {p : Pt} (hp : ps[k]? = some p) (s : Int) : kindL c (ps.take (k + 1)) s = kindL c (ps.take k) s ++ (if p.kind = c ∧ p.sign = s then [p.id] else []) := by
  unfold kindL
  rw [take_snoc hp, List.filter_append, List.map_append]
  congr 1
  by_cases h : p.kind = c ∧ p.sign = s
  · rw [if_pos h]; simp [h.1, h.2]
  · rw [if_neg h]
    have : (p.kind == c && p.sign == s) = false := by
      rw [Bool.eq_false_iff]; intro hc; simp at hc; exact h hc
    simp [this]
theorem mem_kindL {c : Int} {ps : List Pt} {s x : Int} : x ∈ kindL c ps s ↔ ∃ q ∈ ps, q.kind = c ∧ q.sign = s ∧ q.id = x := by
  unfold kindL
  rw [mem_ids]
  simp [and_assoc]
def InsM (mi : List (Int × Int)) (ps : List Pt) : Prop := ∀ s, kindL 2 ps s = (mget mi s).toList
theorem InsM.nil {ps : List Pt} : InsM [] (ps.take 0) := fun s => by simp [kindL, mget]
theorem InsM.put {mi : List (Int × Int)} {ps : List Pt} {k : Nat} {p : Pt} (h : InsM mi (ps.take k)) (hp : ps[k]? = some p) (hk : p.kind = 2) (hn : mget mi p.sign = none) : InsM (mset mi p.sign p.id) (ps.take (k + 1)) := fun s => by
  rw [kindL_snoc hp, h s, mget_mset]
  by_cases e : p.sign = s
  · subst e; rw [if_pos ⟨hk, rfl⟩, if_pos rfl, hn]; rfl
  · rw [if_neg (fun q => e q.2), if_neg e, List.append_nil]
theorem InsM.skip {mi : List (Int × Int)} {ps : List Pt} {k : Nat} {p : Pt} (h : InsM mi (ps.take k)) (hp : ps[k]? = some p) (hk : p.kind ≠ 2) : InsM mi (ps.take (k + 1)) := fun s => by
  rw [kindL_snoc hp, h s, if_neg (fun q => hk q.1), List.append_nil]
def RemM (mr : List (Int × (Value × Nat × List Value))) (ps : List Pt) : Prop := ∀ s, ((mget mr s).getD nilT).2.2 = (kindL 3 ps s).flatMap encI
theorem RemM.nil {ps : List Pt} : RemM [] (ps.take 0) := fun s => by simp [kindL, mget, nilT]
theorem RemM.put {mr : List (Int × (Value × Nat × List Value))} {ps : List Pt} {k n : Nat} {p : Pt} {v : Value} (h : RemM mr (ps.take k)) (hp : ps[k]? = some p) (hk : p.kind = 3) : RemM (mset mr p.sign (v, n, ((mget mr p.sign).getD nilT).2.2 ++ [p.id].flatMap encI)) (ps.take (k + 1)) := fun s => by
  rw [kindL_snoc hp, mget_mset]
  by_cases e : p.sign = s
  · subst e; rw [if_pos rfl, if_pos ⟨hk, rfl⟩, List.flatMap_append, ← h]; rfl
  · rw [if_neg e, if_neg (fun q => e q.2), List.append_nil, h s]
theorem RemM.skip {mr : List (Int × (Value × Nat × List Value))} {ps : List Pt} {k : Nat} {p : Pt} (h : RemM mr (ps.take k)) (hp : ps[k]? = some p) (hk : p.kind ≠ 3) : RemM mr (ps.take (k + 1)) := fun s => by
  rw [kindL_snoc hp, h s, if_neg (fun q => hk q.1), List.append_nil]
theorem kindL_len {c : Int} {ps : List Pt} {s : Int} : (kindL c ps s).length ≤ ps.length := by
  unfold kindL
  rw [List.length_map]
  exact List.length_filter_le _ _
theorem rem_sl {I : HMap} {e : Nat} {mr : List (Int × (Value × Nat × List Value))} {ps : List Pt} {L : Go.Kn.Loc} (h : RemM mr ps) (hA : OwnAll e 1 (mr.map (·.2)) L) (hI : ∀ b o, (b, o) ∈ L → I b = some o) (s : Int) :
    ∃ av c, ((mget mr s).getD nilT).1 = .slice av (kindL 3 ps s).length c ∧ Sl I 1 encI av (kindL 3 ps s).length c (kindL 3 ps s) := by
  obtain ⟨A, Lt, B, rfl, hO, _⟩ := hA.at s
  rw [h s] at hO
  obtain ⟨av, c, e1, e2⟩ := hO.sl encI_len (by decide) (fun b o hb => hI b o (by simp [hb]))
  have hn := e2.len
  rw [← hn] at e1 e2
  exact ⟨av, c, e1, e2⟩
theorem rem_le {e : Nat} {mr : List (Int × (Value × Nat × List Value))} {ps : List Pt} {s : Int} {L : Go.Kn.Loc} (h : RemM mr ps) (hO : OwnS e 1 ((mget mr s).getD nilT).1 ((mget mr s).getD nilT).2.1 ((mget mr s).getD nilT).2.2 L) : ((mget mr s).getD nilT).2.1 ≤ ps.length := by
  have h1 := hO.1
  rw [h s, lenI] at h1
  have h2 := kindL_len (c := 3) (ps := ps) (s := s)
  omega
theorem perm_in {x y : Nat × Obj} {A L B : Go.Kn.Loc} : (x :: y :: (A ++ (L ++ B))).Perm (L ++ (x :: y :: (A ++ B))) := List.perm_append_comm_assoc (x :: y :: A) L B
/-- A patch with those of its sign that put it in or strike it. -/
def tgP (ps : List Pt) (p : Pt) : Bool := !(((kindL 2 ps p.sign).any fun i => p.id != i && !onF ps p.id i) || (kindL 3 ps p.sign).any (onF ps p.id))
theorem tog_eq {ps : List Pt} (hL : Lst ps) {mi : List (Int × Int)} (hi : InsM mi ps) : togA ps = ps.all (tgP ps) := by
  unfold togA
  rw [Bool.eq_iff_iff, List.all_eq_true, List.all_eq_true]
  refine forall_congr' fun p => forall_congr' fun hp => ?_
  unfold tgP
  rw [List.all_eq_true]
  simp only [Bool.not_eq_true', Bool.or_eq_false_iff, List.any_eq_false, mem_kindL]
  constructor
  · intro h
    constructor
    · rintro x ⟨q, hq, h2, hs, rfl⟩ hc
      have := h q hq
      unfold togB at this
      rw [if_neg (by simpa using hs.symm), if_pos h2] at this
      simp at this hc
      rcases this with e | e
      · exact hc.1 e
      · rw [hc.2] at e; cases e.2
    · rintro x ⟨q, hq, h3, hs, rfl⟩ hc
      have := h q hq
      unfold togB at this
      rw [if_neg (by simpa using hs.symm), if_neg (by omega), if_pos h3] at this
      simp at this
      rcases this with e | e
      · rw [e, hL.on_irr] at hc; cases hc
      · rw [e] at hc; cases hc
  · rintro ⟨h1, h2⟩ q hq
    unfold togB
    by_cases hs : p.sign = q.sign
    · rw [if_neg (by simpa using hs)]
      by_cases e : p.id = q.id
      · simp [e]
      · by_cases k2 : q.kind = 2
        · rw [if_pos k2]
          have := h1 q.id ⟨q, hq, k2, hs.symm, rfl⟩
          have hk : p.kind ≠ 2 := fun k => e (by
            have hm1 := mem_kindL.2 ⟨p, hp, k, rfl, rfl⟩
            have hm2 := mem_kindL.2 ⟨q, hq, k2, hs.symm, rfl⟩
            rw [hi p.sign] at hm1 hm2
            cases hg : mget mi p.sign with
            | none => rw [hg] at hm1; cases hm1
            | some z => rw [hg] at hm1 hm2; simp at hm1 hm2; rw [hm1, hm2])
          simp [e] at this
          simp [this, hk]
        · rw [if_neg k2]
          by_cases k3 : q.kind = 3
          · rw [if_pos k3]
            have := h2 q.id ⟨q, hq, k3, hs.symm, rfl⟩
            simp at this
            simp [this]
          · rw [if_neg k3]; simp
    · rw [if_pos hs]; simp
theorem tog_two {ps : List Pt} (hL : Lst ps) {mi : List (Int × Int)} {k : Nat} {p : Pt} {id : Int} (h : InsM mi (ps.take k)) (hp : ps[k]? = some p) (hk : p.kind = 2) (hn : mget mi p.sign = some id) : togA ps = false := by
  have hm : id ∈ kindL 2 (ps.take k) p.sign := by rw [h, hn]; simp
  obtain ⟨q, hq, k2, hs, rfl⟩ := mem_kindL.1 hm
  have hlt := hL.fresh hp q hq
  unfold togA
  rw [Bool.eq_false_iff]
  intro hc
  rw [List.all_eq_true] at hc
  have h1 := hc p (List.mem_of_getElem? hp)
  rw [List.all_eq_true] at h1
  have h2 := h1 q (List.mem_of_mem_take hq)
  unfold togB at h2
  rw [if_neg (by simpa using hs.symm), if_pos k2] at h2
  simp [hk] at h2
  omega
theorem tg_ins {ps : List Pt} {p : Pt} {mi : List (Int × Int)} (hi : InsM mi ps) : ((mget mi p.sign).isSome && (p.id != (mget mi p.sign).getD 0) && !onF ps p.id ((mget mi p.sign).getD 0)) = ((kindL 2 ps p.sign).any fun i => p.id != i && !onF ps p.id i) := by
  rw [hi p.sign]
  cases mget mi p.sign with
  | none => rfl
  | some x => simp
theorem chkR_1 {ps : List Pt} (h : ps.length > 512) : chkR ps = 2 := by unfold chkR; rw [if_pos h]
theorem chkR_2 {ps : List Pt} (h : ¬ ps.length > 512) {k : Nat} {p : Pt} (hp : ps[k]? = some p) (h0 : orF ((ps.take k).map pchk) = 0) (h1 : pchk p ≠ 0) : chkR ps = pchk p := by
  have : orF (ps.map pchk) = pchk p := orF_take (k := k) (by simp [hp]) (by rw [← List.map_take]; exact h0) h1
  unfold chkR; rw [if_neg h, this, if_pos h1]
theorem chkR_3 {ps : List Pt} (h : ¬ ps.length > 512) (h0 : orF (ps.map pchk) = 0) (h1 : lsB ps = false) : chkR ps = 380 := by unfold chkR; rw [if_neg h, if_neg (by omega), h1]; rfl
theorem chkR_4 {ps : List Pt} (h : ¬ ps.length > 512) (h0 : orF (ps.map pchk) = 0) (h1 : lsB ps = true) (h2 : togA ps = false) : chkR ps = 380 := by unfold chkR; rw [if_neg h, if_neg (by omega), h1, h2]; rfl
theorem chkR_5 {ps : List Pt} (h : ¬ ps.length > 512) (h0 : orF (ps.map pchk) = 0) (h1 : lsB ps = true) (h2 : togA ps = true) : chkR ps = 0 := by unfold chkR; rw [if_neg h, if_neg (by omega), h1, h2]; rfl
theorem or_snoc {ps : List Pt} {k : Nat} {p : Pt} (hp : ps[k]? = some p) (h0 : orF ((ps.take k).map pchk) = 0) (h1 : pchk p = 0) : orF ((ps.take (k + 1)).map pchk) = 0 := by
  rw [orF_zero] at h0 ⊢
  intro x hx
  rw [take_snoc hp, List.map_append, List.mem_append] at hx
  rcases hx with hx | hx
  · exact h0 x hx
  · simp at hx; rw [hx, h1]
theorem pchk_pos {p : Pt} (h : pchk p = 0) : 1 ≤ p.id ∧ p.id ≤ 1048576 ∧ 0 ≤ p.sign ∧ p.sign ≤ 1048576 ∧ p.needs.length ≤ 32 := by
  unfold pchk at h
  split at h
  · cases h
  · split at h
    · rename_i h1 h2
      simp only [Bool.and_eq_true] at h2
      have h3 := h2.2.1
      unfold idB at h3
      simp at h3
      omega
    · cases h
theorem nd_of {I : HMap} {av : Option Addr} {n c : Nat} {ps : List Pt} (hP : SlP I av n c ps) (hz : ∀ p ∈ ps, pchk p = 0) : ∀ p ∈ ps, p.n ≤ 100000 := fun p hp => by
  have h1 : Sl I 1 encI p.a p.n p.c p.needs := hP.2 p hp
  have h2 := hz p hp
  have h3 := h1.len
  unfold pchk at h2
  split at h2
  · cases h2
  · omega
theorem nd_chk {I : HMap} {av : Option Addr} {n c : Nat} {ps : List Pt} (hP : SlP I av n c ps) (h : chkR ps = 0) : ∀ p ∈ ps, p.n ≤ 100000 := nd_of hP fun p hp => orF_zero.1 (chkR_ok h).2.1 _ (List.mem_map.2 ⟨p, hp, rfl⟩)
end Go.Proofs.YtclkmnidgdkekaaGreat
end
