/- editionSignsSpec_holds, part D of the proof: what its theorems say holds without further conditions. -/
import Derived.Test.YthcffaheamikgaaGreatDoorSGC
namespace Go.Proofs.YthcffaheamikgaaGreatDoor
section
open Go Go.Kn Go.Proofs
theorem agt_46 : AgT Tryz.prog 46 2 := .of (by kernel_rfl)
theorem fld_46_0 : FieldAt Tryz.prog 46 0 0 := .of (by kernel_rfl)
theorem fld_46_1 : FieldAt Tryz.prog 46 1 1 := .of (by kernel_rfl)
theorem fld_48_0 : FieldAt Tryz.prog 48 0 0 := .of (by kernel_rfl)
theorem fld_48_10 : FieldAt Tryz.prog 48 10 10 := .of (by kernel_rfl)
theorem fld_48_11 : FieldAt Tryz.prog 48 11 12 := .of (by kernel_rfl)
theorem fld_48_2 : FieldAt Tryz.prog 48 2 2 := .of (by kernel_rfl)
theorem fld_48_3 : FieldAt Tryz.prog 48 3 3 := .of (by kernel_rfl)
theorem fun_107 : Fun Tryz.prog 107 := .of Tryz.func107 (by kernel_rfl) (by kernel_rfl)
theorem fun_118 : Fun Tryz.prog 118 := .of Tryz.func118 (by kernel_rfl) (by kernel_rfl)
theorem fun_124 : Fun Tryz.prog 124 := .of Tryz.func124 (by kernel_rfl) (by kernel_rfl)
theorem fun_125 : Fun Tryz.prog 125 := .of Tryz.func125 (by kernel_rfl) (by kernel_rfl)
theorem fun_134 : Fun Tryz.prog 134 := .of Tryz.func134 (by kernel_rfl) (by kernel_rfl)
theorem fun_137 : Fun Tryz.prog 137 := .of Tryz.func137 (by kernel_rfl) (by kernel_rfl)
theorem fun_138 : Fun Tryz.prog 138 := .of Tryz.func138 (by kernel_rfl) (by kernel_rfl)
theorem fun_140 : Fun Tryz.prog 140 := .of Tryz.func140 (by kernel_rfl) (by kernel_rfl)
theorem fun_141 : Fun Tryz.prog 141 := .of Tryz.func141 (by kernel_rfl) (by kernel_rfl)
theorem fun_144 : Fun Tryz.prog 144 := .of Tryz.func144 (by kernel_rfl) (by kernel_rfl)
theorem fun_145 : Fun Tryz.prog 145 := .of Tryz.func145 (by kernel_rfl) (by kernel_rfl)
theorem sct_100 : ScT Tryz.prog 100 := .of (by kernel_rfl)
theorem slt_36 : SlT Tryz.prog 36 48 14 := .of (by kernel_rfl)
theorem szt_100 : SzT Tryz.prog 100 1 := .of (by kernel_rfl)
theorem zt_100 : ZeroT Tryz.prog 100 (.int .u64 0) := .of (by kernel_rfl)
theorem w_nan (I : HMap) (x : Int) : RetV Tryz.prog 118 [.int .i64 x] I (.bool false) := by
 intro g H w hw
 refine enter Tryz.func118 rfl Tryz.ntmps118 rfl hw ?_
 refine zR (zA ?_)
 refine zN (zR ?_)
 refine zM ?_
 refine zM ?_
 refine zC ?_
 refine zA (zN (X_ret ?_))
 exact at_ret1 rfl rfl (fun w hw => ⟨by simp, hw.drop⟩)
theorem w_cmp (I : HMap) (x y : Int) : RetV Tryz.prog 138 [.int .i64 x, .int .i64 y] I (.int .i64 (cmpI x y)) := by
 intro g H w hw
 refine enter Tryz.func138 rfl Tryz.ntmps138 rfl hw ?_
 refine zR (zA ?_)
 refine zN (zR ?_)
 refine zM ?_
 refine XO_callV0 (cap := []) (vs := [_]) rfl rfl fun_118 (w_nan I _) rfl rfl ?_
 refine zA ?_
 refine zN (zR ?_)
 refine zM ?_
 refine XO_callV0 (cap := []) (vs := [_]) rfl rfl fun_118 (w_nan I _) rfl rfl ?_
 refine zA (zN (X_seq (zR ?_)))
 refine zM (zN ?_)
 refine zI ?_ ?_ <;> intro hc11
 ·
  cases hc11
 refine X_skip (at_then (X_seq (zR (zM (zN ?_)))))
 refine zI ?_ ?_ <;> intro hc13
 ·
  cases hc13
 refine X_skip (at_then (X_seq (zR (zM ?_))))
 refine zM ?_
 refine zC (zN ?_)
 refine zI ?_ ?_ <;> intro hc16
 ·
  refine zR (zA (zN (X_ret (at_then_r ?_))))
  exact at_ret1 rfl rfl (fun w hw => ⟨by unfold cmpI; first | (rw [if_pos (by simpa using hc16)]) | (rw [if_neg (by simpa using hc16), if_pos (by simpa using hc19)]) | (rw [if_neg (by simpa using hc16), if_neg (by simpa using hc19)]), hw.drop⟩)
 refine X_skip (at_then (X_seq (zR (zM ?_))))
 refine zM ?_
 refine zC (zN ?_)
 refine zI ?_ ?_ <;> intro hc19
 ·
  refine zR (zA (zN (X_ret (at_then_r ?_))))
  exact at_ret1 rfl rfl (fun w hw => ⟨by unfold cmpI; first | (rw [if_pos (by simpa using hc16)]) | (rw [if_neg (by simpa using hc16), if_pos (by simpa using hc19)]) | (rw [if_neg (by simpa using hc16), if_neg (by simpa using hc19)]), hw.drop⟩)
 refine X_skip (at_then (zR (zA (zN (X_ret ?_)))))
 exact at_ret1 rfl rfl (fun w hw => ⟨by unfold cmpI; first | (rw [if_pos (by simpa using hc16)]) | (rw [if_neg (by simpa using hc16), if_pos (by simpa using hc19)]) | (rw [if_neg (by simpa using hc16), if_neg (by simpa using hc19)]), hw.drop⟩)
theorem w_mag (I : HMap) (n : Int) (hn : -1073741824 ≤ n ∧ n ≤ 1073741824) : RetV Tryz.prog 141 [.int .i64 n] I (.int .u64 (magI n)) := by
 intro g H w hw
 refine enter Tryz.func141 rfl Tryz.ntmps141 rfl hw ?_
 refine zR (zA (zN (X_seq (zR ?_))))
 refine zM ?_
 refine zC (zN ?_)
 refine zI ?_ ?_ <;> intro hc4
 ·
  refine zR (zM ?_)
  refine zV (ev_convI rfl cvt_3_100) ?_
  refine zV (ev_negU rfl) ?_
  refine zA (zN (X_ret (at_then_r ?_)))
  exact at_ret1 rfl rfl (fun w hw => ⟨by rw [mag_neg hn (by simpa using hc4)], hw.drop⟩)
 refine X_skip (at_then (zR (zM ?_)))
 refine zV (ev_convI rfl cvt_3_100) ?_
 refine zA (zN (X_ret ?_))
 exact at_ret1 rfl rfl (fun w hw => ⟨by rw [mag_pos hn (by simpa using hc4)], hw.drop⟩)
theorem w_rem (I : HMap) (a b : Int) : RetM Tryz.prog 144 [.int .u64 a, .int .u64 b] I [] (fun v I' L => I' = I ∧ ∃ b1 b2, v = .func (.func 145) #[] [capP b1, capP b2].toArray ∧ L = remL 100 b1 b2 a b) := by
 intro g H w hw
 refine enter Tryz.func144 rfl Tryz.ntmps144 rfl hw ?_
 refine zR ?_
 refine XO_box rfl rfl rfl (fun b_2 => ?_)
 refine XO_box rfl rfl rfl (fun b_3 => ?_)
 refine zA ?_
 refine zN (zR ?_)
 refine zV (ev_makeFunc (us := []) (vs := [_, _]) rfl rfl) ?_
 refine zA (zN (X_ret ?_))
 exact at_ret1 rfl rfl (fun w hw => ⟨_, I, _, rfl, HLe.refl _, hw, rfl, _, _, rfl, rfl⟩)
theorem w_euclid (I : HMap) (a0 b0 : Nat) (b1 b2 : Nat) (hb0 : 0 < b0) (ha1 : a0 ≤ 9223372036854775807) (hb1 : b0 ≤ 9223372036854775807) : SeqL Tryz.prog 145 [capP b1, capP b2] I (remL 100 b1 b2 (a0) (b0)) (fun n : Nat => .int .u64 n) (remN a0 b0) := by
 intro g l J Jx hY I0 H w h0 hJ hw
 refine enter Tryz.func145 rfl Tryz.ntmps145 rfl hw ?_
 refine X_block ?_
 refine X_loopH (fun m E I' H' loc' => ∃ (a b : Nat) (pre : List Nat), m = b ∧ E = [(0, .func (.yield l) #[] #[]), (1, capP b1), (2, capP b2)] ∧ loc' = remL 100 b1 b2 (a) (b) ∧ HLe I0 I' ∧ J pre I' H' ∧ remN a0 b0 = pre ++ remN a b ∧ 0 < b ∧ a ≤ 9223372036854775807 ∧ b ≤ 9223372036854775807) _ _ _ ⟨a0, b0, [], rfl, rfl, rfl, HLe.refl _, hJ, rfl, hb0, ha1, hb1⟩ (.cons rfl (.cons rfl (.cons rfl .nil))) rfl ?_
 rintro m E I' H' loc' ⟨a, b, pre, hmb, rfl, rfl, hI1, hJk, hrem, hbp, hal, hbl⟩
 subst m
 have hI0 := h0.trans hI1
 refine X_seq (zR ?_)
 refine zV (ev_load rfl sct_100 (fun hg => by exact Cell.h1 rfl)) ?_
 refine zC ?_
 refine zM ?_
 refine XO_pushT 2 rfl rfl rfl ?_
 refine zK (ev_move rfl) ?_
 refine zK (ev_load rfl sct_100 (fun hg => by exact Cell.h1 rfl)) ?_
 refine XO_yield1 (vs := [_]) (Post := fun t I2 H2 => if t then J (pre ++ [a]) I2 H2 else Jx (pre ++ [a]) I2 H2) rfl rfl (.some rfl rfl rfl rfl gbt) rfl rfl (fun hcj => hY pre a _ _ (rem_pre hrem (by simpa [conj] using hcj)) hI0 hJk) ?_
 rintro t I2 H2 hI2 hyes hno
 refine XO_and0 rfl rfl rfl rfl rfl ?_
 refine zN ?_
 refine zI ?_ ?_ <;> intro hc10
 ·
  have ha0 : a ≠ 0 := by simp at hc10; exact hc10.1
  have ht : t = true := by simp at hc10; exact hc10.2
  subst ht
  have hJ1 : J (pre ++ [a]) I2 H2 := hyes (by simp [conj]; exact ha0)
  refine X_skip (at_then (X_block (X_seq ?_)))
  apply cutD
  ·
   intro key
   have hD := HLe.refl I2
   refine X_noP ?_
   refine X_drawS I2 [] mixed ?_
   refine XD_three 0 1 2 rfl rfl rfl (by kernel_rfl) ?_ ?_ ?_
   ·
    refine zV (ev_load rfl sct_100 (fun hg => by exact Cell.h0 rfl)) ?_
    refine XO_nil ?_
    refine zD hD ?_
    refine XD_two 1 2 rfl rfl (by kernel_rfl) ?_ ?_
    ·
     refine zV (ev_load rfl sct_100 (fun hg => by exact Cell.h1 rfl)) ?_
     refine XO_nil ?_
     refine zD hD ?_
     refine XD_two 2 5 rfl rfl (by kernel_rfl) ?_ ?_
     ·
      refine zV (ev_load rfl sct_100 (fun hg => by exact Cell.h0 rfl)) ?_
      refine XO_nil ?_
      refine zD hD ?_
      refine XD_two 3 5 rfl rfl (by kernel_rfl) ?_ ?_
      ·
       refine zV (ev_max rfl rfl) ?_
       refine XO_nil ?_
       refine zD hD ?_
       refine XD_two 4 5 rfl rfl (by kernel_rfl) ?_ ?_
       ·
        refine zV (ev_rem rfl rfl (fun hg => by rw [maxI_one hbp]; omega)) ?_
        refine XO_nil ?_
        refine zD hD ?_
        refine XD_one 5 rfl (by kernel_rfl) ?_
        refine zS szt_100 ?_
        refine XO_nil ?_
        refine zD hD ?_
        refine XD_one 6 rfl (by kernel_rfl) ?_
        refine zS szt_100 ?_
        refine XO_nil ?_
        refine zD hD ?_
        refine XD_done (by kernel_rfl) ?_
        refine at_noP ?_
        first | exact key.out | exact at_sub key
       refine zS szt_100 ?_
       refine XO_nil ?_
       refine zD hD ?_
       refine XD_one 4 rfl (by kernel_rfl) ?_
       refine zV (ev_rem rfl rfl (fun hg => by rw [maxI_one hbp]; omega)) ?_
       refine XO_nil ?_
       refine zD hD ?_
       refine XD_one 6 rfl (by kernel_rfl) ?_
       refine zS szt_100 ?_
       refine XO_nil ?_
       refine zD hD ?_
       refine XD_done (by kernel_rfl) ?_
       refine at_noP ?_
       first | exact key.out | exact at_sub key
      refine zS szt_100 ?_
      refine XO_nil ?_
      refine zD hD ?_
      refine XD_one 3 rfl (by kernel_rfl) ?_
      refine zV (ev_max rfl rfl) ?_
      refine XO_nil ?_
      refine zD hD ?_
      refine XD_one 4 rfl (by kernel_rfl) ?_
      refine zV (ev_rem rfl rfl (fun hg => by rw [maxI_one hbp]; omega)) ?_
      refine XO_nil ?_
      refine zD hD ?_
      refine XD_one 6 rfl (by kernel_rfl) ?_
      refine zS szt_100 ?_
      refine XO_nil ?_
      refine zD hD ?_
      refine XD_done (by kernel_rfl) ?_
      refine at_noP ?_
      first | exact key.out | exact at_sub key
     refine zS szt_100 ?_
     refine XO_nil ?_
     refine zD hD ?_
     refine XD_one 2 rfl (by kernel_rfl) ?_
     refine zV (ev_load rfl sct_100 (fun hg => by exact Cell.h0 rfl)) ?_
     refine XO_nil ?_
     refine zD hD ?_
     refine XD_one 3 rfl (by kernel_rfl) ?_
     refine zV (ev_max rfl rfl) ?_
     refine XO_nil ?_
     refine zD hD ?_
     refine XD_one 4 rfl (by kernel_rfl) ?_
     refine zV (ev_rem rfl rfl (fun hg => by rw [maxI_one hbp]; omega)) ?_
     refine XO_nil ?_
     refine zD hD ?_
     refine XD_one 6 rfl (by kernel_rfl) ?_
     refine zS szt_100 ?_
     refine XO_nil ?_
     refine zD hD ?_
     refine XD_done (by kernel_rfl) ?_
     refine at_noP ?_
     first | exact key.out | exact at_sub key
    refine zV (ev_load rfl sct_100 (fun hg => by exact Cell.h0 rfl)) ?_
    refine XO_nil ?_
    refine zD hD ?_
    refine XD_two 1 3 rfl rfl (by kernel_rfl) ?_ ?_
    ·
     refine zV (ev_load rfl sct_100 (fun hg => by exact Cell.h1 rfl)) ?_
     refine XO_nil ?_
     refine zD hD ?_
     refine XD_two 3 5 rfl rfl (by kernel_rfl) ?_ ?_
     ·
      refine zV (ev_max rfl rfl) ?_
      refine XO_nil ?_
      refine zD hD ?_
      refine XD_two 4 5 rfl rfl (by kernel_rfl) ?_ ?_
      ·
       refine zV (ev_rem rfl rfl (fun hg => by rw [maxI_one hbp]; omega)) ?_
       refine XO_nil ?_
       refine zD hD ?_
       refine XD_one 5 rfl (by kernel_rfl) ?_
       refine zS szt_100 ?_
       refine XO_nil ?_
       refine zD hD ?_
       refine XD_one 6 rfl (by kernel_rfl) ?_
       refine zS szt_100 ?_
       refine XO_nil ?_
       refine zD hD ?_
       refine XD_done (by kernel_rfl) ?_
       refine at_noP ?_
       first | exact key.out | exact at_sub key
      refine zS szt_100 ?_
      refine XO_nil ?_
      refine zD hD ?_
      refine XD_one 4 rfl (by kernel_rfl) ?_
      refine zV (ev_rem rfl rfl (fun hg => by rw [maxI_one hbp]; omega)) ?_
      refine XO_nil ?_
      refine zD hD ?_
      refine XD_one 6 rfl (by kernel_rfl) ?_
      refine zS szt_100 ?_
      refine XO_nil ?_
      refine zD hD ?_
      refine XD_done (by kernel_rfl) ?_
      refine at_noP ?_
      first | exact key.out | exact at_sub key
     refine zS szt_100 ?_
     refine XO_nil ?_
     refine zD hD ?_
     refine XD_one 3 rfl (by kernel_rfl) ?_
     refine zV (ev_max rfl rfl) ?_
     refine XO_nil ?_
     refine zD hD ?_
     refine XD_one 4 rfl (by kernel_rfl) ?_
     refine zV (ev_rem rfl rfl (fun hg => by rw [maxI_one hbp]; omega)) ?_
     refine XO_nil ?_
     refine zD hD ?_
     refine XD_one 6 rfl (by kernel_rfl) ?_
     refine zS szt_100 ?_
     refine XO_nil ?_
     refine zD hD ?_
     refine XD_done (by kernel_rfl) ?_
     refine at_noP ?_
     first | exact key.out | exact at_sub key
    refine zV (ev_max rfl rfl) ?_
    refine XO_nil ?_
    refine zD hD ?_
    refine XD_one 1 rfl (by kernel_rfl) ?_
    refine zV (ev_load rfl sct_100 (fun hg => by exact Cell.h1 rfl)) ?_
    refine XO_nil ?_
    refine zD hD ?_
    refine XD_two 4 5 rfl rfl (by kernel_rfl) ?_ ?_
    ·
     refine zV (ev_rem rfl rfl (fun hg => by rw [maxI_one hbp]; omega)) ?_
     refine XO_nil ?_
     refine zD hD ?_
     refine XD_one 5 rfl (by kernel_rfl) ?_
     refine zS szt_100 ?_
     refine XO_nil ?_
     refine zD hD ?_
     refine XD_one 6 rfl (by kernel_rfl) ?_
     refine zS szt_100 ?_
     refine XO_nil ?_
     refine zD hD ?_
     refine XD_done (by kernel_rfl) ?_
     refine at_noP ?_
     first | exact key.out | exact at_sub key
    refine zS szt_100 ?_
    refine XO_nil ?_
    refine zD hD ?_
    refine XD_one 4 rfl (by kernel_rfl) ?_
    refine zV (ev_rem rfl rfl (fun hg => by rw [maxI_one hbp]; omega)) ?_
    refine XO_nil ?_
    refine zD hD ?_
    refine XD_one 6 rfl (by kernel_rfl) ?_
    refine zS szt_100 ?_
    refine XO_nil ?_
    refine zD hD ?_
    refine XD_done (by kernel_rfl) ?_
    refine at_noP ?_
    first | exact key.out | exact at_sub key
   ·
    refine zV (ev_load rfl sct_100 (fun hg => by exact Cell.h1 rfl)) ?_
    refine XO_nil ?_
    refine zD hD ?_
    refine XD_two 0 2 rfl rfl (by kernel_rfl) ?_ ?_
    ·
     refine zV (ev_load rfl sct_100 (fun hg => by exact Cell.h0 rfl)) ?_
     refine XO_nil ?_
     refine zD hD ?_
     refine XD_two 2 5 rfl rfl (by kernel_rfl) ?_ ?_
     ·
      refine zV (ev_load rfl sct_100 (fun hg => by exact Cell.h0 rfl)) ?_
      refine XO_nil ?_
      refine zD hD ?_
      refine XD_two 3 5 rfl rfl (by kernel_rfl) ?_ ?_
      ·
       refine zV (ev_max rfl rfl) ?_
       refine XO_nil ?_
       refine zD hD ?_
       refine XD_two 4 5 rfl rfl (by kernel_rfl) ?_ ?_
       ·
        refine zV (ev_rem rfl rfl (fun hg => by rw [maxI_one hbp]; omega)) ?_
        refine XO_nil ?_
        refine zD hD ?_
        refine XD_one 5 rfl (by kernel_rfl) ?_
        refine zS szt_100 ?_
        refine XO_nil ?_
        refine zD hD ?_
        refine XD_one 6 rfl (by kernel_rfl) ?_
        refine zS szt_100 ?_
        refine XO_nil ?_
        refine zD hD ?_
        refine XD_done (by kernel_rfl) ?_
        refine at_noP ?_
        first | exact key.out | exact at_sub key
       refine zS szt_100 ?_
       refine XO_nil ?_
       refine zD hD ?_
       refine XD_one 4 rfl (by kernel_rfl) ?_
       refine zV (ev_rem rfl rfl (fun hg => by rw [maxI_one hbp]; omega)) ?_
       refine XO_nil ?_
       refine zD hD ?_
       refine XD_one 6 rfl (by kernel_rfl) ?_
       refine zS szt_100 ?_
       refine XO_nil ?_
       refine zD hD ?_
       refine XD_done (by kernel_rfl) ?_
       refine at_noP ?_
       first | exact key.out | exact at_sub key
      refine zS szt_100 ?_
      refine XO_nil ?_
      refine zD hD ?_
      refine XD_one 3 rfl (by kernel_rfl) ?_
      refine zV (ev_max rfl rfl) ?_
      refine XO_nil ?_
      refine zD hD ?_
      refine XD_one 4 rfl (by kernel_rfl) ?_
      refine zV (ev_rem rfl rfl (fun hg => by rw [maxI_one hbp]; omega)) ?_
      refine XO_nil ?_
      refine zD hD ?_
      refine XD_one 6 rfl (by kernel_rfl) ?_
      refine zS szt_100 ?_
      refine XO_nil ?_
      refine zD hD ?_
      refine XD_done (by kernel_rfl) ?_
      refine at_noP ?_
      first | exact key.out | exact at_sub key
     refine zS szt_100 ?_
     refine XO_nil ?_
     refine zD hD ?_
     refine XD_one 2 rfl (by kernel_rfl) ?_
     refine zV (ev_load rfl sct_100 (fun hg => by exact Cell.h0 rfl)) ?_
     refine XO_nil ?_
     refine zD hD ?_
     refine XD_one 3 rfl (by kernel_rfl) ?_
     refine zV (ev_max rfl rfl) ?_
     refine XO_nil ?_
     refine zD hD ?_
     refine XD_one 4 rfl (by kernel_rfl) ?_
     refine zV (ev_rem rfl rfl (fun hg => by rw [maxI_one hbp]; omega)) ?_
     refine XO_nil ?_
     refine zD hD ?_
     refine XD_one 6 rfl (by kernel_rfl) ?_
     refine zS szt_100 ?_
     refine XO_nil ?_
     refine zD hD ?_
     refine XD_done (by kernel_rfl) ?_
     refine at_noP ?_
     first | exact key.out | exact at_sub key
    refine zV (ev_load rfl sct_100 (fun hg => by exact Cell.h0 rfl)) ?_
    refine XO_nil ?_
    refine zD hD ?_
    refine XD_two 0 3 rfl rfl (by kernel_rfl) ?_ ?_
    ·
     refine zV (ev_load rfl sct_100 (fun hg => by exact Cell.h0 rfl)) ?_
     refine XO_nil ?_
     refine zD hD ?_
     refine XD_two 3 5 rfl rfl (by kernel_rfl) ?_ ?_
     ·
      refine zV (ev_max rfl rfl) ?_
      refine XO_nil ?_
      refine zD hD ?_
      refine XD_two 4 5 rfl rfl (by kernel_rfl) ?_ ?_
      ·
       refine zV (ev_rem rfl rfl (fun hg => by rw [maxI_one hbp]; omega)) ?_
       refine XO_nil ?_
       refine zD hD ?_
       refine XD_one 5 rfl (by kernel_rfl) ?_
       refine zS szt_100 ?_
       refine XO_nil ?_
       refine zD hD ?_
       refine XD_one 6 rfl (by kernel_rfl) ?_
       refine zS szt_100 ?_
       refine XO_nil ?_
       refine zD hD ?_
       refine XD_done (by kernel_rfl) ?_
       refine at_noP ?_
       first | exact key.out | exact at_sub key
      refine zS szt_100 ?_
      refine XO_nil ?_
      refine zD hD ?_
      refine XD_one 4 rfl (by kernel_rfl) ?_
      refine zV (ev_rem rfl rfl (fun hg => by rw [maxI_one hbp]; omega)) ?_
      refine XO_nil ?_
      refine zD hD ?_
      refine XD_one 6 rfl (by kernel_rfl) ?_
      refine zS szt_100 ?_
      refine XO_nil ?_
      refine zD hD ?_
      refine XD_done (by kernel_rfl) ?_
      refine at_noP ?_
      first | exact key.out | exact at_sub key
     refine zS szt_100 ?_
     refine XO_nil ?_
     refine zD hD ?_
     refine XD_one 3 rfl (by kernel_rfl) ?_
     refine zV (ev_max rfl rfl) ?_
     refine XO_nil ?_
     refine zD hD ?_
     refine XD_one 4 rfl (by kernel_rfl) ?_
     refine zV (ev_rem rfl rfl (fun hg => by rw [maxI_one hbp]; omega)) ?_
     refine XO_nil ?_
     refine zD hD ?_
     refine XD_one 6 rfl (by kernel_rfl) ?_
     refine zS szt_100 ?_
     refine XO_nil ?_
     refine zD hD ?_
     refine XD_done (by kernel_rfl) ?_
     refine at_noP ?_
     first | exact key.out | exact at_sub key
    refine zV (ev_max rfl rfl) ?_
    refine XO_nil ?_
    refine zD hD ?_
    refine XD_two 0 4 rfl rfl (by kernel_rfl) ?_ ?_
    ·
     refine zV (ev_load rfl sct_100 (fun hg => by exact Cell.h0 rfl)) ?_
     refine XO_nil ?_
     refine zD hD ?_
     refine XD_two 4 5 rfl rfl (by kernel_rfl) ?_ ?_
     ·
      refine zV (ev_rem rfl rfl (fun hg => by rw [maxI_one hbp]; omega)) ?_
      refine XO_nil ?_
      refine zD hD ?_
      refine XD_one 5 rfl (by kernel_rfl) ?_
      refine zS szt_100 ?_
      refine XO_nil ?_
      refine zD hD ?_
      refine XD_one 6 rfl (by kernel_rfl) ?_
      refine zS szt_100 ?_
      refine XO_nil ?_
      refine zD hD ?_
      refine XD_done (by kernel_rfl) ?_
      refine at_noP ?_
      first | exact key.out | exact at_sub key
     refine zS szt_100 ?_
     refine XO_nil ?_
     refine zD hD ?_
     refine XD_one 4 rfl (by kernel_rfl) ?_
     refine zV (ev_rem rfl rfl (fun hg => by rw [maxI_one hbp]; omega)) ?_
     refine XO_nil ?_
     refine zD hD ?_
     refine XD_one 6 rfl (by kernel_rfl) ?_
     refine zS szt_100 ?_
     refine XO_nil ?_
     refine zD hD ?_
     refine XD_done (by kernel_rfl) ?_
     refine at_noP ?_
     first | exact key.out | exact at_sub key
    refine zV (ev_rem rfl rfl (fun hg => by rw [maxI_one hbp]; omega)) ?_
    refine XO_nil ?_
    refine zD hD ?_
    refine XD_one 0 rfl (by kernel_rfl) ?_
    refine zV (ev_load rfl sct_100 (fun hg => by exact Cell.h0 rfl)) ?_
    refine XO_nil ?_
    refine zD hD ?_
    refine XD_one 5 rfl (by kernel_rfl) ?_
    refine zS szt_100 ?_
    refine XO_nil ?_
    refine zD hD ?_
    refine XD_one 6 rfl (by kernel_rfl) ?_
    refine zS szt_100 ?_
    refine XO_nil ?_
    refine zD hD ?_
    refine XD_done (by kernel_rfl) ?_
    refine at_noP ?_
    first | exact key.out | exact at_sub key
   refine zV (ev_load rfl sct_100 (fun hg => by exact Cell.h0 rfl)) ?_
   refine XO_nil ?_
   refine zD hD ?_
   refine XD_three 0 1 3 rfl rfl rfl (by kernel_rfl) ?_ ?_ ?_
   ·
    refine zV (ev_load rfl sct_100 (fun hg => by exact Cell.h0 rfl)) ?_
    refine XO_nil ?_
    refine zD hD ?_
    refine XD_two 1 3 rfl rfl (by kernel_rfl) ?_ ?_
    ·
     refine zV (ev_load rfl sct_100 (fun hg => by exact Cell.h1 rfl)) ?_
     refine XO_nil ?_
     refine zD hD ?_
     refine XD_two 3 5 rfl rfl (by kernel_rfl) ?_ ?_
     ·
      refine zV (ev_max rfl rfl) ?_
      refine XO_nil ?_
      refine zD hD ?_
      refine XD_two 4 5 rfl rfl (by kernel_rfl) ?_ ?_
      ·
       refine zV (ev_rem rfl rfl (fun hg => by rw [maxI_one hbp]; omega)) ?_
       refine XO_nil ?_
       refine zD hD ?_
       refine XD_one 5 rfl (by kernel_rfl) ?_
       refine zS szt_100 ?_
       refine XO_nil ?_
       refine zD hD ?_
       refine XD_one 6 rfl (by kernel_rfl) ?_
       refine zS szt_100 ?_
       refine XO_nil ?_
       refine zD hD ?_
       refine XD_done (by kernel_rfl) ?_
       refine at_noP ?_
       first | exact key.out | exact at_sub key
      refine zS szt_100 ?_
      refine XO_nil ?_
      refine zD hD ?_
      refine XD_one 4 rfl (by kernel_rfl) ?_
      refine zV (ev_rem rfl rfl (fun hg => by rw [maxI_one hbp]; omega)) ?_
      refine XO_nil ?_
      refine zD hD ?_
      refine XD_one 6 rfl (by kernel_rfl) ?_
      refine zS szt_100 ?_
      refine XO_nil ?_
      refine zD hD ?_
      refine XD_done (by kernel_rfl) ?_
      refine at_noP ?_
      first | exact key.out | exact at_sub key
     refine zS szt_100 ?_
     refine XO_nil ?_
     refine zD hD ?_
     refine XD_one 3 rfl (by kernel_rfl) ?_
     refine zV (ev_max rfl rfl) ?_
     refine XO_nil ?_
     refine zD hD ?_
     refine XD_one 4 rfl (by kernel_rfl) ?_
     refine zV (ev_rem rfl rfl (fun hg => by rw [maxI_one hbp]; omega)) ?_
     refine XO_nil ?_
     refine zD hD ?_
     refine XD_one 6 rfl (by kernel_rfl) ?_
     refine zS szt_100 ?_
     refine XO_nil ?_
     refine zD hD ?_
     refine XD_done (by kernel_rfl) ?_
     refine at_noP ?_
     first | exact key.out | exact at_sub key
    refine zV (ev_max rfl rfl) ?_
    refine XO_nil ?_
    refine zD hD ?_
    refine XD_one 1 rfl (by kernel_rfl) ?_
    refine zV (ev_load rfl sct_100 (fun hg => by exact Cell.h1 rfl)) ?_
    refine XO_nil ?_
    refine zD hD ?_
    refine XD_two 4 5 rfl rfl (by kernel_rfl) ?_ ?_
    ·
     refine zV (ev_rem rfl rfl (fun hg => by rw [maxI_one hbp]; omega)) ?_
     refine XO_nil ?_
     refine zD hD ?_
     refine XD_one 5 rfl (by kernel_rfl) ?_
     refine zS szt_100 ?_
     refine XO_nil ?_
     refine zD hD ?_
     refine XD_one 6 rfl (by kernel_rfl) ?_
     refine zS szt_100 ?_
     refine XO_nil ?_
     refine zD hD ?_
     refine XD_done (by kernel_rfl) ?_
     refine at_noP ?_
     first | exact key.out | exact at_sub key
    refine zS szt_100 ?_
    refine XO_nil ?_
    refine zD hD ?_
    refine XD_one 4 rfl (by kernel_rfl) ?_
    refine zV (ev_rem rfl rfl (fun hg => by rw [maxI_one hbp]; omega)) ?_
    refine XO_nil ?_
    refine zD hD ?_
    refine XD_one 6 rfl (by kernel_rfl) ?_
    refine zS szt_100 ?_
    refine XO_nil ?_
    refine zD hD ?_
    refine XD_done (by kernel_rfl) ?_
    refine at_noP ?_
    first | exact key.out | exact at_sub key
   ·
    refine zV (ev_load rfl sct_100 (fun hg => by exact Cell.h1 rfl)) ?_
    refine XO_nil ?_
    refine zD hD ?_
    refine XD_two 0 3 rfl rfl (by kernel_rfl) ?_ ?_
    ·
     refine zV (ev_load rfl sct_100 (fun hg => by exact Cell.h0 rfl)) ?_
     refine XO_nil ?_
     refine zD hD ?_
     refine XD_two 3 5 rfl rfl (by kernel_rfl) ?_ ?_
     ·
      refine zV (ev_max rfl rfl) ?_
      refine XO_nil ?_
      refine zD hD ?_
      refine XD_two 4 5 rfl rfl (by kernel_rfl) ?_ ?_
      ·
       refine zV (ev_rem rfl rfl (fun hg => by rw [maxI_one hbp]; omega)) ?_
       refine XO_nil ?_
       refine zD hD ?_
       refine XD_one 5 rfl (by kernel_rfl) ?_
       refine zS szt_100 ?_
       refine XO_nil ?_
       refine zD hD ?_
       refine XD_one 6 rfl (by kernel_rfl) ?_
       refine zS szt_100 ?_
       refine XO_nil ?_
       refine zD hD ?_
       refine XD_done (by kernel_rfl) ?_
       refine at_noP ?_
       first | exact key.out | exact at_sub key
      refine zS szt_100 ?_
      refine XO_nil ?_
      refine zD hD ?_
      refine XD_one 4 rfl (by kernel_rfl) ?_
      refine zV (ev_rem rfl rfl (fun hg => by rw [maxI_one hbp]; omega)) ?_
      refine XO_nil ?_
      refine zD hD ?_
      refine XD_one 6 rfl (by kernel_rfl) ?_
      refine zS szt_100 ?_
      refine XO_nil ?_
      refine zD hD ?_
      refine XD_done (by kernel_rfl) ?_
      refine at_noP ?_
      first | exact key.out | exact at_sub key
     refine zS szt_100 ?_
     refine XO_nil ?_
     refine zD hD ?_
     refine XD_one 3 rfl (by kernel_rfl) ?_
     refine zV (ev_max rfl rfl) ?_
     refine XO_nil ?_
     refine zD hD ?_
     refine XD_one 4 rfl (by kernel_rfl) ?_
     refine zV (ev_rem rfl rfl (fun hg => by rw [maxI_one hbp]; omega)) ?_
     refine XO_nil ?_
     refine zD hD ?_
     refine XD_one 6 rfl (by kernel_rfl) ?_
     refine zS szt_100 ?_
     refine XO_nil ?_
     refine zD hD ?_
     refine XD_done (by kernel_rfl) ?_
     refine at_noP ?_
     first | exact key.out | exact at_sub key
    refine zV (ev_max rfl rfl) ?_
    refine XO_nil ?_
    refine zD hD ?_
    refine XD_two 0 4 rfl rfl (by kernel_rfl) ?_ ?_
    ·
     refine zV (ev_load rfl sct_100 (fun hg => by exact Cell.h0 rfl)) ?_
     refine XO_nil ?_
     refine zD hD ?_
     refine XD_two 4 5 rfl rfl (by kernel_rfl) ?_ ?_
     ·
      refine zV (ev_rem rfl rfl (fun hg => by rw [maxI_one hbp]; omega)) ?_
      refine XO_nil ?_
      refine zD hD ?_
      refine XD_one 5 rfl (by kernel_rfl) ?_
      refine zS szt_100 ?_
      refine XO_nil ?_
      refine zD hD ?_
      refine XD_one 6 rfl (by kernel_rfl) ?_
      refine zS szt_100 ?_
      refine XO_nil ?_
      refine zD hD ?_
      refine XD_done (by kernel_rfl) ?_
      refine at_noP ?_
      first | exact key.out | exact at_sub key
     refine zS szt_100 ?_
     refine XO_nil ?_
     refine zD hD ?_
     refine XD_one 4 rfl (by kernel_rfl) ?_
     refine zV (ev_rem rfl rfl (fun hg => by rw [maxI_one hbp]; omega)) ?_
     refine XO_nil ?_
     refine zD hD ?_
     refine XD_one 6 rfl (by kernel_rfl) ?_
     refine zS szt_100 ?_
     refine XO_nil ?_
     refine zD hD ?_
     refine XD_done (by kernel_rfl) ?_
     refine at_noP ?_
     first | exact key.out | exact at_sub key
    refine zV (ev_rem rfl rfl (fun hg => by rw [maxI_one hbp]; omega)) ?_
    refine XO_nil ?_
    refine zD hD ?_
    refine XD_one 0 rfl (by kernel_rfl) ?_
    refine zV (ev_load rfl sct_100 (fun hg => by exact Cell.h0 rfl)) ?_
    refine XO_nil ?_
    refine zD hD ?_
    refine XD_one 5 rfl (by kernel_rfl) ?_
    refine zS szt_100 ?_
    refine XO_nil ?_
    refine zD hD ?_
    refine XD_one 6 rfl (by kernel_rfl) ?_
    refine zS szt_100 ?_
    refine XO_nil ?_
    refine zD hD ?_
    refine XD_done (by kernel_rfl) ?_
    refine at_noP ?_
    first | exact key.out | exact at_sub key
   refine zV (ev_max rfl rfl) ?_
   refine XO_nil ?_
   refine zD hD ?_
   refine XD_two 0 1 rfl rfl (by kernel_rfl) ?_ ?_
   ·
    refine zV (ev_load rfl sct_100 (fun hg => by exact Cell.h0 rfl)) ?_
    refine XO_nil ?_
    refine zD hD ?_
    refine XD_one 1 rfl (by kernel_rfl) ?_
    refine zV (ev_load rfl sct_100 (fun hg => by exact Cell.h1 rfl)) ?_
    refine XO_nil ?_
    refine zD hD ?_
    refine XD_two 4 5 rfl rfl (by kernel_rfl) ?_ ?_
    ·
     refine zV (ev_rem rfl rfl (fun hg => by rw [maxI_one hbp]; omega)) ?_
     refine XO_nil ?_
     refine zD hD ?_
     refine XD_one 5 rfl (by kernel_rfl) ?_
     refine zS szt_100 ?_
     refine XO_nil ?_
     refine zD hD ?_
     refine XD_one 6 rfl (by kernel_rfl) ?_
     refine zS szt_100 ?_
     refine XO_nil ?_
     refine zD hD ?_
     refine XD_done (by kernel_rfl) ?_
     refine at_noP ?_
     first | exact key.out | exact at_sub key
    refine zS szt_100 ?_
    refine XO_nil ?_
    refine zD hD ?_
    refine XD_one 4 rfl (by kernel_rfl) ?_
    refine zV (ev_rem rfl rfl (fun hg => by rw [maxI_one hbp]; omega)) ?_
    refine XO_nil ?_
    refine zD hD ?_
    refine XD_one 6 rfl (by kernel_rfl) ?_
    refine zS szt_100 ?_
    refine XO_nil ?_
    refine zD hD ?_
    refine XD_done (by kernel_rfl) ?_
    refine at_noP ?_
    first | exact key.out | exact at_sub key
   refine zV (ev_load rfl sct_100 (fun hg => by exact Cell.h1 rfl)) ?_
   refine XO_nil ?_
   refine zD hD ?_
   refine XD_two 0 4 rfl rfl (by kernel_rfl) ?_ ?_
   ·
    refine zV (ev_load rfl sct_100 (fun hg => by exact Cell.h0 rfl)) ?_
    refine XO_nil ?_
    refine zD hD ?_
    refine XD_two 4 5 rfl rfl (by kernel_rfl) ?_ ?_
    ·
     refine zV (ev_rem rfl rfl (fun hg => by rw [maxI_one hbp]; omega)) ?_
     refine XO_nil ?_
     refine zD hD ?_
     refine XD_one 5 rfl (by kernel_rfl) ?_
     refine zS szt_100 ?_
     refine XO_nil ?_
     refine zD hD ?_
     refine XD_one 6 rfl (by kernel_rfl) ?_
     refine zS szt_100 ?_
     refine XO_nil ?_
     refine zD hD ?_
     refine XD_done (by kernel_rfl) ?_
     refine at_noP ?_
     first | exact key.out | exact at_sub key
    refine zS szt_100 ?_
    refine XO_nil ?_
    refine zD hD ?_
    refine XD_one 4 rfl (by kernel_rfl) ?_
    refine zV (ev_rem rfl rfl (fun hg => by rw [maxI_one hbp]; omega)) ?_
    refine XO_nil ?_
    refine zD hD ?_
    refine XD_one 6 rfl (by kernel_rfl) ?_
    refine zS szt_100 ?_
    refine XO_nil ?_
    refine zD hD ?_
    refine XD_done (by kernel_rfl) ?_
    refine at_noP ?_
    first | exact key.out | exact at_sub key
   refine zV (ev_rem rfl rfl (fun hg => by rw [maxI_one hbp]; omega)) ?_
   refine XO_nil ?_
   refine zD hD ?_
   refine XD_one 0 rfl (by kernel_rfl) ?_
   refine zV (ev_load rfl sct_100 (fun hg => by exact Cell.h0 rfl)) ?_
   refine XO_nil ?_
   refine zD hD ?_
   refine XD_one 5 rfl (by kernel_rfl) ?_
   refine zS szt_100 ?_
   refine XO_nil ?_
   refine zD hD ?_
   refine XD_one 6 rfl (by kernel_rfl) ?_
   refine zS szt_100 ?_
   refine XO_nil ?_
   refine zD hD ?_
   refine XD_done (by kernel_rfl) ?_
   refine at_noP ?_
   first | exact key.out | exact at_sub key
  rw [show ((a : Int)).tmod (maxI (b : Int) 1) = ((a % b : Nat) : Int) by rw [maxI_one hbp, tmod_nat]]
  refine at_then (zR ?_)
  refine zV (ev_load rfl sct_100 (fun hg => by exact Cell.h0 rfl)) ?_
  refine zC (zN ?_)
  refine zI ?_ ?_ <;> intro hc17
  ·
   have hab : a % b = 0 := by have h := hc17; simp only [beq_iff_eq] at h; omega
   have hpre2 : (pre ++ [a]) ++ [b] <+: remN a0 b0 := by rw [hrem, remN_end ha0 (by omega) hab, List.append_assoc]; exact List.prefix_rfl
   refine zR (zM ?_)
   refine zV (ev_load rfl sct_100 (fun hg => by exact Cell.h1 rfl)) ?_
   refine XO_yield0 (vs := [_]) (Post := fun t I3 H3 => if t then J ((pre ++ [a]) ++ [b]) I3 H3 else Jx ((pre ++ [a]) ++ [b]) I3 H3) rfl rfl rfl rfl (hY (pre ++ [a]) b _ _ hpre2 (hI0.trans hI2) hJ1) ?_
   rintro t3 I3 H3 hI3 hP3
   refine zN (X_ret (at_block_r (at_then_r (at_block_r ?_))))
   first
   | (refine at_ret0 rfl (fun w hw => ⟨_, I3, H3, rfl, hI1.trans (hI2.trans hI3), hw.drop, ?_⟩); cases t3 with | true => exact .inl (by rw [hrem, remN_end ha0 (by omega) hab]; simpa using hP3) | false => exact .inr ⟨_, hpre2, hP3⟩)
  have hab : a % b ≠ 0 := by have h := hc17; simp only [beq_eq_false_iff_ne, ne_eq] at h; omega
  refine X_skip (at_block_n ?_)
  exact at_metH2 rfl rfl rfl _ (remL 100 b1 b2 (b) (((a % b : Nat) : Int))) ⟨a % b, Nat.mod_lt _ hbp, b, a % b, pre ++ [a], rfl, rfl, rfl, hI1.trans hI2, hJ1, by rw [hrem, remN_step ha0 (by omega) hab, List.append_assoc]; rfl, by omega, by omega, by have := Nat.mod_lt a hbp; omega⟩ (.cons rfl (.cons rfl (.cons rfl .nil))) .refl
 refine X_exit (at_then_e (at_then_e (at_block_hit ?_)))
 first
 | (refine at_norm (at_ret0 rfl (fun w hw => ⟨_, I2, H2, rfl, hI1.trans hI2, hw.drop, ?_⟩)); by_cases ha0 : a = 0; (obtain ⟨e1, e2⟩ := hno (by simp [conj, ha0]); subst e1; subst e2; subst ha0; exact .inl (by rw [hrem, remN_zero, List.append_nil]; exact hJk)); (have ht : t = false := (by simp [ha0] at hc10; exact hc10); subst ht; exact .inr ⟨_, rem_pre hrem ha0, hyes (by simp [conj]; exact ha0)⟩))
theorem w_div (I : HMap) (a b : Nat) (hb : 0 < b) (ha : a ≤ 9223372036854775807) (hb2 : b ≤ 9223372036854775807) : RetV Tryz.prog 140 [.int .u64 a, .int .u64 b] I (.int .u64 (Nat.gcd a b : Nat)) := by
 intro g H w hw
 refine enterMs Tryz.func140 rfl Tryz.ntmps140 rfl hw ?_
 have hIc := HLe.refl I
 refine zR ?_
 refine XO_alloc zt_100 rfl rfl (fun b_4 => ?_)
 refine zN (X_seq (zR (zM ?_)))
 refine zC (zN ?_)
 refine zI ?_ ?_ <;> intro hc7
 ·
  simp at hc7; omega
 refine X_skip (at_then (zR (zM ?_)))
 refine zS szt_100 ?_
 refine zN (X_seq (zR (zM ?_)))
 refine zM ?_
 refine XO_callM (cap := []) (vs := [_, _]) rfl rfl fun_144 .nil (w_rem I _ _) rfl rfl ?_
 rintro vv1 I1 L1 hI1 ⟨rfl, b1, b2, rfl, rfl⟩
 have hIc := hIc.trans hI1
 refine zN (X_block ?_)
 refine X_rangeFuncM (ms := []) (K := remL 100 b1 b2 (a) (b)) (L := [(b_4, .cells #[.int .u64 b] 100 (0, 0))]) (enc := fun n : Nat => .int .u64 n) (xs := remN a b) (fun pre I' loc' => loc' = [(b_4, .cells #[.int .u64 ((pre.getLastD b : Nat) : Int)] 100 (0, 0))]) (fun _ _ _ _ => False) (fun pre x E2 I2 loc2 => E2 = [(4, capP b_4), (5, .int .u64 x)] ∧ loc2 = [(b_4, .cells #[.int .u64 ((pre.getLastD b : Nat) : Int)] 100 (0, 0))]) rfl fun_145 (w_euclid _ a b b1 b2 hb ha hb2) rfl rfl ?_ ?_ ?_ ?_
 ·
  rintro l pre x I1 loc1 H1 hpre hI1 rfl
  refine X_region (zA (XO_nil ?_))
  exact at_met' _ ⟨HLe.refl _, rfl, rfl⟩ (.cons rfl (.cons rfl .nil))
 ·
  rintro l pre x E2 I2 loc2 H2 hpre hI2 ⟨rfl, rfl⟩
  refine X_block (X_region (zM ?_))
  refine zS szt_100 ?_
  refine XO_nil (at_block_n ?_)
  exact at_round2 ⟨HLe.refl _, by rw [last_snoc]; rfl⟩ .refl
 ·
  rintro bd I1 loc1 hI1 rfl
  have hIc := hIc.trans hI1
  refine at_block_n (at_then (zR ?_))
  refine zV (ev_load rfl sct_100 (fun hg => by exact Cell.h0 rfl)) ?_
  refine zS szt_100 ?_
  refine zN (X_ret ?_)
  exact at_retMs (L := [(b_4, _)]) (fun a ha w hw => res1c rfl rfl sct_100 (Cell.h0 rfl) a ha w hw) (fun w hw => ⟨by rw [remN_gcd b (Nat.le_refl _) (by omega) (fun _ => rfl)], (hw.mono hIc).drop⟩)
 rintro c bd pre I1 loc1 hI1 hpre hF; exact hF.elim
theorem w_divI (I : HMap) (n d : Int) (hn : -1073741824 ≤ n ∧ n ≤ 1073741824) (hd : 1 ≤ d ∧ d ≤ 1073741824) : RetV Tryz.prog 140 [.int .u64 (magI n), .int .u64 (IntKind.u64.wrap d)] I (.int .u64 (gcdI n d)) := by
 have h0 : 0 ≤ magI n ∧ magI n ≤ 1073741824 := by unfold magI; split <;> omega
 have h := w_div I (magI n).toNat d.toNat (by omega) (by omega) (by omega)
 rw [u64_id (by omega)]
 rw [Int.toNat_of_nonneg h0.1, Int.toNat_of_nonneg (by omega), mag_gcd, Int.toNat_of_nonneg (by omega)] at h
 exact h
theorem w_ratchk (I : HMap) (n d : Int) : RetV Tryz.prog 137 [encRA (n) (d)] I (.int .i64 (ratE n d)) := by
 intro g H w hw
 refine enter Tryz.func137 rfl Tryz.ntmps137 rfl hw ?_
 refine zR ?_
 refine XO_box rfl rfl rfl (fun b_1 => ?_)
 refine zA (zN (X_seq (X_seq ?_)))
 refine X_draw mixed (by kernel_rfl) ?_
 refine XQ_v0 (ev_fieldAddr rfl fld_46_1) rfl rfl rfl ?_
 refine XQ_v0 (ev_load rfl sct_3 (fun hg => by exact Cell.h0 rfl)) rfl rfl rfl ?_
 refine XQ_v0 (ev_cmp rfl rfl rfl) rfl rfl rfl ?_
 refine XQ_v0 (ev_move rfl) rfl rfl rfl ?_
 refine XQ_pushF 3 rfl rfl rfl ?_
 refine XQ_v1 (ev_fieldAddr rfl fld_46_1) (.some rfl rfl rfl rfl gbf) rfl rfl rfl ?_
 refine XQ_v1 (ev_load rfl sct_3 (fun hg => by exact Cell.h0 rfl)) (.some rfl rfl rfl rfl gbf) rfl rfl rfl ?_
 refine XQ_v1 (ev_cmp rfl rfl rfl) (.some rfl rfl rfl rfl gbf) rfl rfl rfl ?_
 refine XQ_or0 rfl rfl rfl rfl rfl ?_
 refine XQ_v0 (ev_move rfl) rfl rfl rfl ?_
 refine XQ_pushF 8 rfl rfl rfl ?_
 refine XQ_v1 (ev_fieldAddr rfl fld_46_0) (.some rfl rfl rfl rfl gbf) rfl rfl rfl ?_
 refine XQ_v1 (ev_load rfl sct_3 (fun hg => by exact Cell.h0 rfl)) (.some rfl rfl rfl rfl gbf) rfl rfl rfl ?_
 refine XQ_v1 (ev_cmp rfl rfl rfl) (.some rfl rfl rfl rfl gbf) rfl rfl rfl ?_
 refine XQ_or0 rfl rfl rfl rfl rfl ?_
 refine XQ_v0 (ev_move rfl) rfl rfl rfl ?_
 refine XQ_pushF 13 rfl rfl rfl ?_
 refine XQ_v1 (ev_fieldAddr rfl fld_46_0) (.some rfl rfl rfl rfl gbf) rfl rfl rfl ?_
 refine XQ_v1 (ev_load rfl sct_3 (fun hg => by exact Cell.h0 rfl)) (.some rfl rfl rfl rfl gbf) rfl rfl rfl ?_
 refine XQ_v1 (ev_cmp rfl rfl rfl) (.some rfl rfl rfl rfl gbf) rfl rfl rfl ?_
 refine XQ_or0 rfl rfl rfl rfl rfl ?_
 refine XQ_v0 (ev_move rfl) rfl rfl rfl ?_
 refine XQ_pushF 18 rfl rfl rfl ?_
 refine XQ_v1 (ev_fieldAddr rfl fld_46_0) (.some rfl rfl rfl rfl gbf) rfl rfl rfl ?_
 refine XQ_v1 (ev_load rfl sct_3 (fun hg => by exact Cell.h0 rfl)) (.some rfl rfl rfl rfl gbf) rfl rfl rfl ?_
 refine XQ_callV1 (cap := []) (vs := [_]) rfl rfl fun_141 (fun hg => w_mag I n (by simp [conj] at hg; omega)) (.some rfl rfl rfl rfl gbf) rfl rfl ?_
 refine XQ_v1 (ev_fieldAddr rfl fld_46_1) (.some rfl rfl rfl rfl gbf) rfl rfl rfl ?_
 refine XQ_v1 (ev_load rfl sct_3 (fun hg => by exact Cell.h0 rfl)) (.some rfl rfl rfl rfl gbf) rfl rfl rfl ?_
 refine XQ_v1 (ev_convI rfl cvt_3_100) (.some rfl rfl rfl rfl gbf) rfl rfl rfl ?_
 refine XQ_callV1 (cap := []) (vs := [_, _]) rfl rfl fun_140 (fun hg => w_divI I n d (by simp [conj] at hg; omega) (by simp [conj] at hg; omega)) (.some rfl rfl rfl rfl gbf) rfl rfl ?_
 refine XQ_v1 (ev_cmp rfl rfl rfl) (.some rfl rfl rfl rfl gbf) rfl rfl rfl ?_
 refine XQ_or0 rfl rfl rfl rfl rfl ?_
 refine XQ_nil ?_
 refine at_then ?_
 refine zI ?_ ?_ <;> intro hc30
 ·
  refine zR (zA (zN (X_ret (at_then_r ?_))))
  first
  | exact at_ret1 rfl rfl (fun w hw => ⟨by unfold ratE; rw [rat_bad hc30]; rfl, hw.drop⟩)
 refine X_skip (at_then (zR (zA (zN (X_ret ?_)))))
 first
 | exact at_ret1 rfl rfl (fun w hw => ⟨by unfold ratE; rw [rat_good hc30]; rfl, hw.drop⟩)
theorem w_rcmp (I : HMap) (an ad bn bd : Int) : RetV Tryz.prog 134 [encRA (an) (ad), encRA (bn) (bd)] I (.tuple #[.int .i64 (cmpV an ad bn bd), .int .i64 (cmpE an ad bn bd)]) := by
 intro g H w hw
 refine enter Tryz.func134 rfl Tryz.ntmps134 rfl hw ?_
 refine zR ?_
 refine XO_box rfl rfl rfl (fun b_2 => ?_)
 refine XO_box rfl rfl rfl (fun b_3 => ?_)
 refine zA ?_
 refine zA (zN (X_seq (zR ?_)))
 refine zV (ev_loadA rfl agt_46 (fun hg => by exact Cells.g1) rfl) ?_
 refine XO_callV0 (cap := []) (vs := [_]) rfl rfl fun_137 (w_ratchk I _ _) rfl rfl ?_
 refine zC ?_
 refine zM ?_
 refine XO_pushF 3 rfl rfl rfl ?_
 refine zJ (ev_loadA rfl agt_46 (fun hg => by exact Cells.g0) rfl) ?_
 refine XO_callV1 (cap := []) (vs := [_]) rfl rfl fun_137 (fun hg => w_ratchk I _ _) (.some rfl rfl rfl rfl gbf) rfl rfl ?_
 refine zJ (ev_cmp rfl rfl rfl) ?_
 refine XO_or0 rfl rfl rfl rfl rfl ?_
 refine zN ?_
 refine zI ?_ ?_ <;> intro hc13
 ·
  have hb : (ratF an ad && ratF bn bd) = false := by have h := hc13; rw [span_eq, Bool.not_eq_true'] at h; exact h
  refine zR (zA ?_)
  refine zA (zN (X_ret (at_then_r ?_)))
  exact at_ret2 rfl rfl rfl (fun w hw => ⟨by unfold cmpV cmpE; rw [hb]; rfl, hw.drop⟩)
 have hb : (ratF an ad && ratF bn bd) = true := by have h := hc13; rw [span_eq, Bool.not_eq_false'] at h; exact h
 have ⟨ha1, ha2⟩ := ratF_in (Bool.and_eq_true .. ▸ hb).1
 have ⟨hb1, hb2⟩ := ratF_in (Bool.and_eq_true .. ▸ hb).2
 refine X_skip (at_then (zR ?_))
 refine zF fld_46_0 ?_
 refine zV (ev_load rfl sct_3 (fun hg => by exact Cell.h1 rfl)) ?_
 refine zF fld_46_1 ?_
 refine zV (ev_load rfl sct_3 (fun hg => by exact Cell.h0 rfl)) ?_
 refine zV (ev_arB rfl rfl rfl (fun _ => by exact mul_b (by omega) (by omega))) ?_
 refine zF fld_46_0 ?_
 refine zV (ev_load rfl sct_3 (fun hg => by exact Cell.h0 rfl)) ?_
 refine zF fld_46_1 ?_
 refine zV (ev_load rfl sct_3 (fun hg => by exact Cell.h1 rfl)) ?_
 refine zV (ev_arB rfl rfl rfl (fun _ => by exact mul_b (by omega) (by omega))) ?_
 refine XO_callV0 (cap := []) (vs := [_, _]) rfl rfl fun_138 (w_cmp I _ _) rfl rfl ?_
 refine zA ?_
 refine zA (zN (X_ret ?_))
 exact at_ret2 rfl rfl rfl (fun w hw => ⟨by unfold cmpV cmpE; rw [hb]; rfl, hw.drop⟩)
theorem w_fine (I : HMap) (an ad bn bd : Int) : RetV Tryz.prog 125 [encRA (an) (ad), encRA (bn) (bd)] I (.bool (spanF an ad bn bd)) := by
 intro g H w hw
 refine enter Tryz.func125 rfl Tryz.ntmps125 rfl hw ?_
 refine zR ?_
 refine XO_box rfl rfl rfl (fun b_2 => ?_)
 refine XO_box rfl rfl rfl (fun b_3 => ?_)
 refine zA ?_
 refine zN (zR ?_)
 refine zV (ev_loadA rfl agt_46 (fun hg => by exact Cells.g1) rfl) ?_
 refine zV (ev_loadA rfl agt_46 (fun hg => by exact Cells.g0) rfl) ?_
 refine XO_callV0 (cap := []) (vs := [_, _]) rfl rfl fun_134 (w_rcmp I _ _ _ _) rfl rfl ?_
 refine zM ?_
 refine zE ?_
 refine zE ?_
 refine zA ?_
 refine zA ?_
 refine zN (zR ?_)
 refine zM ?_
 refine zC ?_
 refine zM ?_
 refine XO_pushT 2 rfl rfl rfl ?_
 refine zK (ev_move rfl) ?_
 refine zK (ev_cmp rfl rfl rfl) ?_
 refine XO_and0 rfl rfl rfl rfl rfl ?_
 refine zM ?_
 refine XO_pushT 6 rfl rfl rfl ?_
 refine zK (ev_fieldAddr rfl fld_46_0) ?_
 refine zK (ev_load rfl sct_3 (fun hg => by exact Cell.h1 rfl)) ?_
 refine zK (ev_cmp rfl rfl rfl) ?_
 refine XO_and0 rfl rfl rfl rfl rfl ?_
 refine zM ?_
 refine XO_pushT 11 rfl rfl rfl ?_
 refine zK (ev_fieldAddr rfl fld_46_0) ?_
 refine zK (ev_load rfl sct_3 (fun hg => by exact Cell.h0 rfl)) ?_
 refine zK (ev_fieldAddr rfl fld_46_1) ?_
 refine zK (ev_load rfl sct_3 (fun hg => by exact Cell.h0 rfl)) ?_
 refine zK (ev_cmp rfl rfl rfl) ?_
 refine XO_and0 rfl rfl rfl rfl rfl ?_
 refine zA (zN (X_ret ?_))
 exact at_ret1 rfl rfl (fun w hw => ⟨by rw [← fine_eq], hw.drop⟩)
theorem w_within (I : HMap) (n lo hi : Int) : RetV Tryz.prog 124 [.int .i64 n, .int .i64 lo, .int .i64 hi] I (.bool (within n lo hi)) := by
 intro g H w hw
 refine enter Tryz.func124 rfl Tryz.ntmps124 rfl hw ?_
 refine zR (zA ?_)
 refine zN (zR ?_)
 refine zM ?_
 refine zM ?_
 refine zC ?_
 refine zM ?_
 refine XO_pushT 3 rfl rfl rfl ?_
 refine zK (ev_move rfl) ?_
 refine zK (ev_move rfl) ?_
 refine zK (ev_cmp rfl rfl rfl) ?_
 refine XO_and0 rfl rfl rfl rfl rfl ?_
 refine zA (zN (X_ret ?_))
 exact at_ret1 rfl rfl (fun w hw => ⟨by rfl, hw.drop⟩)
theorem w_frm (I : HMap) (x : Sg) : RetV Tryz.prog 107 [encGA x] I (.bool (frm x)) := by
 intro g H w hw
 refine enter Tryz.func107 rfl Tryz.ntmps107 rfl hw ?_
 refine zR ?_
 refine XO_box rfl rfl rfl (fun b_1 => ?_)
 refine zA ?_
 refine zN (zR ?_)
 refine zF fld_48_0 ?_
 refine zV (ev_load rfl sct_3 (fun hg => by exact Cell.h0 rfl)) ?_
 refine XO_callV0 (cap := []) (vs := [_, _, _]) rfl rfl fun_124 (w_within I _ _ _) rfl rfl ?_
 refine zM ?_
 refine XO_pushT 3 rfl rfl rfl ?_
 refine zK (ev_fieldAddr rfl fld_48_1) ?_
 refine zK (ev_load rfl sct_3 (fun hg => by exact Cell.h0 rfl)) ?_
 refine XO_callV1 (cap := []) (vs := [_, _, _]) rfl rfl fun_124 (fun hg => w_within I _ _ _) (.some rfl rfl rfl rfl gbt) rfl rfl ?_
 refine XO_and0 rfl rfl rfl rfl rfl ?_
 refine zM ?_
 refine XO_pushT 8 rfl rfl rfl ?_
 refine zK (ev_fieldAddr rfl fld_48_2) ?_
 refine zK (ev_load rfl sct_3 (fun hg => by exact Cell.h0 rfl)) ?_
 refine XO_callV1 (cap := []) (vs := [_, _, _]) rfl rfl fun_124 (fun hg => w_within I _ _ _) (.some rfl rfl rfl rfl gbt) rfl rfl ?_
 refine XO_and0 rfl rfl rfl rfl rfl ?_
 refine zM ?_
 refine XO_pushT 13 rfl rfl rfl ?_
 refine zK (ev_fieldAddr rfl fld_48_4) ?_
 refine zK (ev_load rfl sct_3 (fun hg => by exact Cell.h0 rfl)) ?_
 refine XO_callV1 (cap := []) (vs := [_, _, _]) rfl rfl fun_124 (fun hg => w_within I _ _ _) (.some rfl rfl rfl rfl gbt) rfl rfl ?_
 refine XO_and0 rfl rfl rfl rfl rfl ?_
 refine zM ?_
 refine XO_pushT 18 rfl rfl rfl ?_
 refine zK (ev_fieldAddr rfl fld_48_3) ?_
 refine zK (ev_load rfl sct_3 (fun hg => by exact Cell.h0 rfl)) ?_
 refine XO_callV1 (cap := []) (vs := [_, _, _]) rfl rfl fun_124 (fun hg => w_within I _ _ _) (.some rfl rfl rfl rfl gbt) rfl rfl ?_
 refine XO_and0 rfl rfl rfl rfl rfl ?_
 refine zM ?_
 refine XO_pushT 23 rfl rfl rfl ?_
 refine zK (ev_fieldAddr rfl fld_48_5) ?_
 refine zK (ev_load rfl sct_3 (fun hg => by exact Cell.h0 rfl)) ?_
 refine XO_callV1 (cap := []) (vs := [_, _, _]) rfl rfl fun_124 (fun hg => w_within I _ _ _) (.some rfl rfl rfl rfl gbt) rfl rfl ?_
 refine XO_and0 rfl rfl rfl rfl rfl ?_
 refine zM ?_
 refine XO_pushT 28 rfl rfl rfl ?_
 refine zK (ev_fieldAddr rfl fld_48_6) ?_
 refine zK (ev_load rfl sct_3 (fun hg => by exact Cell.h0 rfl)) ?_
 refine XO_callV1 (cap := []) (vs := [_, _, _]) rfl rfl fun_124 (fun hg => w_within I _ _ _) (.some rfl rfl rfl rfl gbt) rfl rfl ?_
 refine XO_and0 rfl rfl rfl rfl rfl ?_
 refine zM ?_
 refine XO_pushT 33 rfl rfl rfl ?_
 refine zK (ev_fieldAddr rfl fld_48_7) ?_
 refine zK (ev_load rfl sct_3 (fun hg => by exact Cell.h0 rfl)) ?_
 refine XO_callV1 (cap := []) (vs := [_, _, _]) rfl rfl fun_124 (fun hg => w_within I _ _ _) (.some rfl rfl rfl rfl gbt) rfl rfl ?_
 refine XO_and0 rfl rfl rfl rfl rfl ?_
 refine zM ?_
 refine XO_pushT 38 rfl rfl rfl ?_
 refine zK (ev_fieldAddr rfl fld_48_8) ?_
 refine zK (ev_load rfl sct_3 (fun hg => by exact Cell.h0 rfl)) ?_
 refine XO_callV1 (cap := []) (vs := [_, _, _]) rfl rfl fun_124 (fun hg => w_within I _ _ _) (.some rfl rfl rfl rfl gbt) rfl rfl ?_
 refine XO_and0 rfl rfl rfl rfl rfl ?_
 refine zM ?_
 refine XO_pushT 43 rfl rfl rfl ?_
 refine zK (ev_fieldAddr rfl fld_48_9) ?_
 refine zK (ev_load rfl sct_3 (fun hg => by exact Cell.h0 rfl)) ?_
 refine XO_callV1 (cap := []) (vs := [_, _, _]) rfl rfl fun_124 (fun hg => w_within I _ _ _) (.some rfl rfl rfl rfl gbt) rfl rfl ?_
 refine XO_and0 rfl rfl rfl rfl rfl ?_
 refine zM ?_
 refine XO_pushT 48 rfl rfl rfl ?_
 refine zK (ev_fieldAddr rfl fld_48_10) ?_
 refine zK (ev_loadA rfl agt_46 (fun hg => by exact Cells.s0 (vs := [_, _]) rfl) rfl) ?_
 refine zK (ev_fieldAddr rfl fld_48_11) ?_
 refine zK (ev_loadA rfl agt_46 (fun hg => by exact Cells.s0 (vs := [_, _]) rfl) rfl) ?_
 refine XO_callV1 (cap := []) (vs := [_, _]) rfl rfl fun_125 (fun hg => w_fine I _ _ _ _) (.some rfl rfl rfl rfl gbt) rfl rfl ?_
 refine XO_and0 rfl rfl rfl rfl rfl ?_
 refine zA (zN (X_ret ?_))
 exact at_ret1 rfl rfl (fun w hw => ⟨by rfl, hw.drop⟩)
theorem w_chkG {I : HMap} {av : Option Addr} {n c : Nat} {xs : List Sg} (hS : Sl I 14 encG av n c xs) (hn : n ≤ 100000) : RetV Tryz.prog 75 [.slice av n c] I (.int .i64 (chkG xs)) := by
 intro g H w hw
 refine enter Tryz.func75 rfl Tryz.ntmps75 rfl hw ?_
 refine zR (zA (zN (X_seq (zR ?_))))
 refine zM ?_
 refine zQ slt_36 ?_
 refine zC (zN ?_)
 refine zI ?_ ?_ <;> intro hc7
 ·
  have h6 : xs.length > 4096 := by rw [hS.len]; simp at hc7; omega
  refine zR (zA (zN (X_ret (at_then_r ?_))))
  first
  | exact at_ret1 rfl rfl (fun w hw => ⟨by unfold chkG; rw [if_pos h6], hw.drop⟩)
 have h6 : ¬ xs.length > 4096 := by rw [hS.len]; simp at hc7; omega
 refine X_skip (at_then (X_seq (zR (zM ?_))))
 refine zQ slt_36 ?_
 refine zM (zN (X_block ?_))
 refine X_loopT [(0, _), (8, _), (9, _)] (.cons rfl (.cons rfl (.cons rfl .nil))) (fun T L0 mz E I' loc' => ∃ (k : Nat), mz = n - k ∧ E = (10, .int .i64 k) :: T ∧ I = I' ∧ L0 = loc' ∧ k ≤ n ∧ (List.range k).all (skP xs) = true) _ _ _ _ ⟨0, rfl, rfl, rfl, rfl, Nat.zero_le _, rfl⟩ (.cons rfl (.cons rfl (.cons rfl (.cons rfl .nil)))) (HLe.refl _) rfl ?_
 rintro mz E I' loc' ⟨k, rfl, rfl, rfl, rfl, hk, hall⟩
 refine zR (zC (zN (X_seq ?_)))
 refine zI ?_ ?_ <;> intro hc11
 ·
  have hlt_k : k < n := by have h := hc11; simp at h; omega
  obtain ⟨x, hx⟩ := hS.at hlt_k
  refine X_skip (at_then (X_seq (X_block (zR (zM ?_)))))
  refine zV (ev_indexSl rfl rfl slt_36 (by assumption) (fun hg => by omega)) ?_
  refine zV (ev_loadA rfl agt_48 (fun hg => by exact Sl.getA hS hx) rfl) ?_
  refine XO_alloc zt_48 rfl rfl (fun b_4 => ?_)
  refine zA ?_
  refine XO_storeA rfl rfl szt_48 rfl rfl rfl rfl (by repeat (first | exact Upd.here | apply Upd.there | apply upd_app)) ?_
  refine zN (X_seq ?_)
  refine X_draw mixed (by kernel_rfl) ?_
  refine XQ_v0 (ev_loadA rfl agt_48 (fun hg => by exact Cells.g0) rfl) rfl rfl rfl ?_
  refine XQ_callV0 (cap := []) (vs := [_]) rfl rfl fun_107 (w_frm I _) rfl rfl ?_
  refine XQ_v0 (ev_not rfl) rfl rfl rfl ?_
  refine XQ_v0 (ev_move rfl) rfl rfl rfl ?_
  refine XQ_pushF 3 rfl rfl rfl ?_
  refine XQ_v1 (ev_move rfl) (.some rfl rfl rfl rfl gbf) rfl rfl rfl ?_
  refine XQ_v1 (ev_cmp rfl rfl rfl) (.some rfl rfl rfl rfl gbf) rfl rfl rfl ?_
  refine XQ_v1 (ev_move rfl) (.some rfl rfl rfl rfl gbf) rfl rfl rfl ?_
  refine XQ_pushT 6 rfl rfl rfl ?_
  refine XQ_v1 (ev_move rfl) (.some rfl rfl rfl rfl gbt) rfl rfl rfl ?_
  refine XQ_v1 (ev_move rfl) (.some rfl rfl rfl rfl gbt) rfl rfl rfl ?_
  refine XQ_v1 (ev_arB rfl rfl rfl (fun hg => by omega)) (.some rfl rfl rfl rfl gbt) rfl rfl rfl ?_
  refine XQ_v1 (ev_indexSl rfl rfl slt_36 (by assumption) (fun hg => by (simp [conj] at hg; omega))) (.some rfl rfl rfl rfl gbt) rfl rfl rfl ?_
  refine XQ_v1 (ev_fieldAddr rfl fld_48_0) (.some rfl rfl rfl rfl gbt) rfl rfl rfl ?_
  refine XQ_v1 (ev_load rfl sct_3 (fun hg => by exact Sl.get0 (k := ((k : Int) - 1).toNat) hS (some_getD (d := zeroG) hS.len (by simp [conj] at hg; omega)) rfl)) (.some rfl rfl rfl rfl gbt) rfl rfl rfl ?_
  refine XQ_v1 (ev_fieldAddr rfl fld_48_0) (.some rfl rfl rfl rfl gbt) rfl rfl rfl ?_
  refine XQ_v1 (ev_load rfl sct_3 (fun hg => by exact Cell.h0 rfl)) (.some rfl rfl rfl rfl gbt) rfl rfl rfl ?_
  refine XQ_v1 (ev_cmp rfl rfl rfl) (.some rfl rfl rfl rfl gbt) rfl rfl rfl ?_
  refine XQ_and1 rfl rfl rfl (.some rfl rfl rfl rfl gbf) rfl rfl ?_
  refine XQ_or0 rfl rfl rfl rfl rfl ?_
  refine XQ_nil ?_
  refine at_then ?_
  refine zI ?_ ?_ <;> intro hc32
  ·
   refine zR (zA (zN (X_ret (at_block_r (at_then_r (at_then_r (at_block_r ?_)))))))
   refine at_then_r ?_
   first
   | exact at_ret1 rfl rfl (fun w hw => ⟨by unfold chkG skB; rw [if_neg h6, range_bad (k := k) (by rw [hS.len]; exact hlt_k) (by rw [skP_at hx, hc32]; rfl)]; rfl, hw.drop⟩)
  refine X_skip (at_block_n (at_then (X_region (zB ?_))))
  refine zM (XO_nil ?_)
  exact at_met2 _ _ ⟨n - (k + 1), by omega, k + 1, rfl, rfl, rfl, rfl, by omega, range_step hall (by rw [skP_at hx, hc32]; rfl)⟩ (.cons rfl (.cons rfl (.cons rfl (.cons rfl .nil)))) (by repeat (first | exact .refl | exact subL_left | refine subL_app ?_ | refine .drop ?_ | refine subL_add ?_))
 have hge_k : n ≤ k := by have h := hc11; simp at h; omega
 refine X_exit (at_then_e (at_then_e (at_block_hit (at_then (zR (zA (zN ?_)))))))
 refine X_ret ?_
 first
 | exact at_ret1 rfl rfl (fun w hw => ⟨by unfold chkG skB; rw [if_neg h6, hS.len, show n = k by omega, hall]; rfl, hw.drop⟩)
end
section
open Go Go.Kn Go.Proofs
structure Wr where
 no : Int
 yr : Int
 rs : List Rd
def SlWH (I : HMap) (av : Option Addr) (n c : Nat) (ws : List Wt) (xs : List Wr) : Prop := Sl I 3 encW av n c ws ∧ ws.length = xs.length ∧ ∀ (k : Nat) (w : Wt) (x : Wr), ws[k]? = some w → xs[k]? = some x → w.no = x.no ∧ w.yr = x.yr ∧ Sl I 15 encRd w.a w.n w.c x.rs
def SlW (I : HMap) (av : Option Addr) (n c : Nat) (xs : List Wr) : Prop := ∃ ws : List Wt, SlWH I av n c ws xs
theorem SlWH.mono {I I' : HMap} {av : Option Addr} {n c : Nat} {ws : List Wt} {xs : List Wr} (h : SlWH I av n c ws xs) (hI : HLe I I') : SlWH I' av n c ws xs :=
 ⟨h.1.mono hI, h.2.1, fun k w x h1 h2 => ⟨(h.2.2 k w x h1 h2).1, (h.2.2 k w x h1 h2).2.1, (h.2.2 k w x h1 h2).2.2.mono hI⟩⟩
theorem SlW.mono {I I' : HMap} {av : Option Addr} {n c : Nat} {xs : List Wr} (h : SlW I av n c xs) (hI : HLe I I') : SlW I' av n c xs := by
 obtain ⟨ws, h⟩ := h; exact ⟨ws, h.mono hI⟩
theorem SlWH.len {I : HMap} {av : Option Addr} {n c : Nat} {ws : List Wt} {xs : List Wr} (h : SlWH I av n c ws xs) : xs.length = n := by rw [← h.2.1]; exact h.1.len
theorem SlWH.at {I : HMap} {av : Option Addr} {n c : Nat} {ws : List Wt} {xs : List Wr} (h : SlWH I av n c ws xs) {k : Nat} (hk : k < n) : ∃ w x, ws[k]? = some w ∧ xs[k]? = some x ∧ w.no = x.no ∧ w.yr = x.yr ∧ Sl I 15 encRd w.a w.n w.c x.rs := by
 obtain ⟨w, hw⟩ := h.1.at hk
 have hl := h.len
 obtain ⟨x, hx⟩ : ∃ x, xs[k]? = some x := ⟨_, List.getElem?_eq_getElem (by omega)⟩
 exact ⟨w, x, hw, hx, h.2.2 k w x hw hx⟩
def sgEq (x y : Sg) : Bool := x.id == y.id && (x.role == y.role && (x.bar == y.bar && (x.mark == y.mark && (x.kind == y.kind && (x.side == y.side && (x.dir == y.dir && (x.level == y.level && (x.size == y.size && (x.wth == y.wth && (x.fn == y.fn && (x.fd == y.fd && (x.tn == y.tn && (x.td == y.td && true)))))))))))))
theorem sgEq_iff {x y : Sg} : sgEq x y = true ↔ x = y := by
 obtain ⟨a1, a2, a3, a4, a5, a6, a7, a8, a9, a10, a11, a12, a13, a14⟩ := x
 obtain ⟨b1, b2, b3, b4, b5, b6, b7, b8, b9, b10, b11, b12, b13, b14⟩ := y
 simp [sgEq]
instance : DecidableEq Sg := fun a b => decidable_of_iff (sgEq a b = true) sgEq_iff
def badR (r : Rd) : Bool := (r.lost && !sgEq r.sg zeroG) || (!r.lost && ((r.sg.id != 0) || (chkG [r.sg] != 0)))
theorem badR_l {r : Rd} (h : r.lost = true) (b : Bool) (h2 : (!sgEq r.sg zeroG) = b) : badR r = b := by unfold badR; rw [h, h2]; cases b <;> rfl
theorem badR_i {r : Rd} (h : r.lost = false) (h2 : (r.sg.id != 0) = true) : badR r = true := by unfold badR; rw [h, h2]; rfl
theorem badR_c {r : Rd} (h : r.lost = false) (h2 : (r.sg.id != 0) = false) : badR r = (chkG [r.sg] != 0) := by unfold badR; rw [h, h2]; simp
theorem rd_split (r : Rd) : (r.lost = true ∧ (!sgEq r.sg zeroG) = true) ∨ (r.lost = true ∧ (!sgEq r.sg zeroG) = false) ∨ (r.lost = false ∧ (r.sg.id != 0) = true) ∨ (r.lost = false ∧ (r.sg.id != 0) = false) := by
 cases r.lost <;> cases (!sgEq r.sg zeroG) <;> cases (r.sg.id != 0) <;> simp
def badW (l : Int) (x : Wr) : Bool := ((decide (x.no ≤ l) || decide (x.no > 1048576)) || decide (x.yr < 0)) || decide (x.yr > 3000)
def goodW : Int → List Wr → Bool
 | _, [] => true
 | l, x :: xs => !badW l x && (!x.rs.any badR && goodW x.no xs)
def chkW (xs : List Wr) : Int := if xs.length > 24 then 2 else if xs.any (fun x => decide (x.rs.length > 64)) = true then 2 else if goodW 0 xs = true then 0 else 410
theorem chkW_1 {xs : List Wr} (h : xs.length > 24) : chkW xs = 2 := by unfold chkW; rw [if_pos h]
theorem chkW_2 {xs : List Wr} (h : ¬ xs.length > 24) (h2 : xs.any (fun x => decide (x.rs.length > 64)) = true) : chkW xs = 2 := by unfold chkW; rw [if_neg h, if_pos h2]
theorem chkW_3 {xs : List Wr} (h : ¬ xs.length > 24) (h2 : xs.any (fun x => decide (x.rs.length > 64)) = false) (h3 : goodW 0 xs = false) : chkW xs = 410 := by unfold chkW; rw [if_neg h, h2, h3]; rfl
theorem chkW_4 {xs : List Wr} (h : ¬ xs.length > 24) (h2 : xs.any (fun x => decide (x.rs.length > 64)) = false) (h3 : goodW 0 xs = true) : chkW xs = 0 := by unfold chkW; rw [if_neg h, h2, h3]; rfl
theorem goodW_bad {xs : List Wr} {k : Nat} {l : Int} {x : Wr} (hx : xs[k]? = some x) (hb : badW l x = true) : goodW l (xs.drop k) = false := by rw [drop_cons hx]; unfold goodW; rw [hb]; rfl
theorem goodW_rd {xs : List Wr} {k : Nat} {l : Int} {x : Wr} {r : Rd} {j : Nat} (hx : xs[k]? = some x) (hr : x.rs[j]? = some r) (hb : badR r = true) : goodW l (xs.drop k) = false := by
 rw [drop_cons hx]; unfold goodW
 rw [show x.rs.any badR = true from List.any_eq_true.2 ⟨r, List.mem_of_getElem? hr, hb⟩]; simp
theorem goodW_step {xs : List Wr} {k : Nat} {l : Int} {x : Wr} (hx : xs[k]? = some x) (hb : badW l x = false) (hr : x.rs.any badR = false) : goodW l (xs.drop k) = goodW x.no (xs.drop (k + 1)) := by
 rw [drop_cons hx]
 show (!badW l x && (!x.rs.any badR && goodW x.no (xs.drop (k + 1)))) = _
 rw [hb, hr]; rfl
theorem goodW_end {xs : List Wr} {k : Nat} {l : Int} (h : xs.length ≤ k) : goodW l (xs.drop k) = true := by rw [List.drop_eq_nil_of_le h]; rfl
end
end Go.Proofs.YthcffaheamikgaaGreatDoor
namespace Go.Kn
section
open Go
section
variable {C : Cx} {Q : Exit → Act → World → Prop} {E G : Env} {I I' I0 : HMap} {loc loc' loc0 L R : Loc} {ops : Array Oper} {rest : List Oper} {S : GS}
variable {dst : Option Nat} {d : Nat} {ty : TypeId} {pos : String} {af : Array Edge} {gd : Option (Nat × Bool)} {x y z : Operand} {a b c : Int}
theorem ev_min3 {k : IntKind} {ats : Array TypeId} (hx : evalS S E x = some (.int k a)) (hy : evalS S E y = some (.int k b)) (hz : evalS S E z = some (.int k c)) : EvalOp C S E I loc ⟨dst, .call ⟨.builtin .min, #[x, y, z], ats⟩, ty, pos, af, gd⟩ (.int k (minI (minI a b) c)) :=
 .of (by intro c e; cases e) fun ac w ha hg hc hw => by
  simp only [execOp, resolve, List.map_toArray, List.map_cons, List.map_nil, evalS_sound ha hg hc hx, evalS_sound ha hg hc hy, evalS_sound ha hg hc hz, Sem.run_bind, Sem.run_pure, Result.andThen, invoke, builtin]; rfl
def sayNo (u : Value) (want : Bool) : Bool := match u with | .bool b => b != want | _ => true
theorem wanted_no {j dj : Nat} {want : Bool} {oj o : Oper} {u : Value} {N : Nat} {D : List Deferred} {a : Act} (hg : o.guard = some (j, want)) (hj : ops[j]? = some oj) (hd : oj.dst = some dj) (ha : Fits N D E a) (hl : look E dj = some u) (hu : sayNo u want = true) : Region.wanted o (yielded ops a.tmps) = false := by
 have h := ha.env _ _ hl
 simp only [Region.wanted, hg]
 cases u with
 | bool b0 =>
  rw [yielded_bool hj hd h]
  cases b0 <;> cases want <;> first | rfl | cases hu
 | _ =>
  have hy : yielded ops a.tmps j = none := by
   unfold yielded
   simp only [hj, Option.bind_some, hd]
   cases e : a.tmps[dj]? with
   | none => rfl
   | some v =>
    simp [e] at h; rw [h]
  rw [hy]; rfl
theorem XO_skipW {op : Op} {j dj : Nat} {want : Bool} {oj : Oper} {u : Value} (hj : ops[j]? = some oj) (hd : oj.dst = some dj) (hl : look E dj = some u) (hu : sayNo u want = true) (hN : Nat.blt d C.N = true)
  (h : XO C Q ops rest [] ((d, undef) :: E) I loc) : XO C Q ops (⟨some d, op, ty, pos, af, some (j, want)⟩ :: rest) [] E I loc := by
 intro a w ha hg hw
 simp only [wpListIn]
 rw [wanted_no (o := ⟨some d, op, ty, pos, af, some (j, want)⟩) rfl hj hd ha hl hu]
 simp only [Bool.false_eq_true, if_false]
 exact ⟨fun _ _ => trivial, h _ _ (ha.put hN undef) trivial hw⟩
theorem XD_skipW (i : Nat) {j dj fuel : Nat} {want : Bool} {oj : Oper} {listed : Array Bool} {op : Op} {u : Value} (hi : ops[i]? = some ⟨some d, op, ty, pos, af, some (j, want)⟩) (hj : ops[j]? = some oj) (hd : oj.dst = some dj) (hlk : look E dj = some u) (hu : sayNo u want = true)
  (hdf : ∀ c, op ≠ .defer c) (hN : Nat.blt d C.N = true)
  (hs : Region.noSelect ops = true) (hfr : Region.free .any ops listed i = true) (hr : (Region.ready .any ops listed).contains i = true) (hQ : NoPanic Q) (hI : HLe I0 I) (hl : SubL loc0 loc)
  (h : XD C Q ops I0 loc0 fuel (listed.setIfInBounds i true) [] ((d, undef) :: E) I loc) : XD C Q ops I0 loc0 (fuel + 1) listed [] E I loc := by
 intro a w ha hg hw
 have hp := ha.put hN undef
 refine wpAnyS_first (v := undef) hi hdf (Region.noSelect_spec hs) (fun c a w => hQ c a d _ w) fuel listed a w (Region.free_spec hi hfr) (by simpa using hr) ?_ ((hw.mono hI).subL hl) (h _ _ hp trivial hw)
 exact .inr ⟨by rw [wanted_no (o := ⟨some d, op, ty, pos, af, some (j, want)⟩) rfl hj hd ha hlk hu], rfl⟩
theorem zW (i dj : Nat) {j fuel : Nat} {want : Bool} {oj : Oper} {listed : Array Bool} {op : Op} {u : Value} (hI : HLe I0 I) (h : XD C Q ops I0 loc0 fuel (listed.setIfInBounds i true) [] ((d, undef) :: E) I loc) (hi : ops[i]? = some ⟨some d, op, ty, pos, af, some (j, want)⟩ := by exact rfl) (hj : ops[j]? = some oj := by exact rfl) (hd : oj.dst = some dj := by exact rfl) (hlk : look E dj = some u := by exact rfl) (hu : sayNo u want = true := by exact rfl)
  (hdf : ∀ c, op ≠ .defer c := by (intro c e; cases e)) (hN : Nat.blt d C.N = true := by exact rfl) (hs : Region.noSelect ops = true := by kernel_rfl) (hfr : Region.free .any ops listed i = true := by kernel_rfl) (hr : (Region.ready .any ops listed).contains i = true := by kernel_rfl) (hQ : NoPanic Q := by exact noP_ok) (hl : SubL loc0 loc := by repeat (first | exact .refl | exact subL_nil | refine .keep ?_ | refine .drop ?_ | refine subL_add ?_)) : XD C Q ops I0 loc0 (fuel + 1) listed [] E I loc := XD_skipW i hi hj hd hlk hu hdf hN hs hfr hr hQ hI hl h
end
end
end Go.Kn
namespace Go.Proofs.YthcffaheamikgaaGreatDoor
section
open Go Go.Kn Go.Proofs
theorem agt_54 : AgT Tryz.prog 54 3 := .of (by kernel_rfl)
theorem elt_36 : ElT Tryz.prog 36 48 14 112 := .of (by kernel_rfl)
theorem eqt2_48 : EqT2 Tryz.prog 48 [.int, .int, .int, .int, .int, .int, .int, .int, .int, .int, .int, .int, .int, .int] := ⟨by kernel_rfl, by kernel_rfl, by kernel_rfl, by kernel_rfl⟩
theorem fld_54_0 : FieldAt Tryz.prog 54 0 0 := .of (by kernel_rfl)
theorem fld_54_1 : FieldAt Tryz.prog 54 1 1 := .of (by kernel_rfl)
theorem fun_75 : Fun Tryz.prog 75 := .of Tryz.func75 (by kernel_rfl) (by kernel_rfl)
theorem szt_54 : SzT Tryz.prog 54 3 := .of (by kernel_rfl)
theorem zt_54 : ZeroT Tryz.prog 54 (.agg #[(.int .i64 0), (.int .i64 0), (.slice none 0 0)]) := .of (by kernel_rfl)
theorem w_chkW {I : HMap} {av : Option Addr} {n c : Nat} {xs : List Wr} (hW : SlW I av n c xs) (hn : n ≤ 100000) : RetV Tryz.prog 41 [.slice av n c] I (.int .i64 (chkW xs)) := by
 intro g H w hw
 refine enter Tryz.func41 rfl Tryz.ntmps41 rfl hw ?_
 have hIc := HLe.refl I
 obtain ⟨ws, hW⟩ := hW
 have hH := hW.1
 have hlW := hW.len
 refine zR (zA (zN (X_seq (zR ?_))))
 refine zM ?_
 refine zQ slt_31 ?_
 refine zC (zN ?_)
 refine zI ?_ ?_ <;> intro hc12
 ·
  have h1 : xs.length > 24 := by rw [hlW]; simp at hc12; omega
  refine zR (zA (zN (X_ret (at_then_r ?_))))
  exact at_ret1 rfl rfl (fun w hw => ⟨by rw [chkW_1 h1], (hw.mono hIc).drop⟩)
 have h1 : ¬ xs.length > 24 := by rw [hlW]; simp at hc12; omega
 refine X_skip (at_then (X_seq (zR (zM ?_))))
 refine zQ slt_31 ?_
 refine zM (zN (X_block ?_))
 refine X_loopT [(0, _), (13, _), (14, _)] (.cons rfl (.cons rfl (.cons rfl .nil))) (fun T L0 mz E I' loc' => ∃ (k : Nat), mz = n - k ∧ E = (15, .int .i64 k) :: T ∧ I = I' ∧ L0 = loc' ∧ k ≤ n ∧ (xs.take k).any (fun x => decide (x.rs.length > 64)) = false) _ _ _ _ ⟨0, rfl, rfl, rfl, rfl, Nat.zero_le _, rfl⟩ (.cons rfl (.cons rfl (.cons rfl (.cons rfl .nil)))) (HLe.refl _) rfl ?_
 rintro mz E I' loc' ⟨k, rfl, rfl, rfl, rfl, hk, hno⟩
 refine zR (zC (zN (X_seq ?_)))
 refine zI ?_ ?_ <;> intro hc16
 ·
  have hlt_k : k < n := by have h := hc16; simp at h; omega
  obtain ⟨w, x, hx, hv, e1, e2, hR⟩ := hW.at hlt_k
  refine X_skip (at_then (X_seq (X_block (zR ?_))))
  refine zV (zX slt_31 hH) ?_
  refine zV (ev_loadA rfl agt_54 (fun hg => by exact Sl.getA hH hx) rfl) ?_
  refine XO_alloc zt_54 rfl rfl (fun b_4 => ?_)
  refine XO_storeA rfl rfl szt_54 rfl rfl rfl rfl (by repeat (first | exact Upd.here | apply Upd.there | apply upd_app)) ?_
  refine zN (zR ?_)
  refine zF fld_54_2 ?_
  refine zV (ev_load rfl sct_52 (fun hg => by exact Cell.h0 rfl)) ?_
  refine zQ slt_52 ?_
  refine zC (zN ?_)
  refine zI ?_ ?_ <;> intro hc22
  ·
   have h2 : xs.any (fun x => decide (x.rs.length > 64)) = true := any_yes hv (by rw [hR.len]; have h := hc22; simp at h ⊢; omega)
   refine zR (zA (zN (X_ret (at_block_r (at_then_r (at_then_r (at_block_r ?_)))))))
   refine at_then_r ?_
   exact at_ret1 rfl rfl (fun w hw => ⟨by rw [chkW_2 h1 h2], (hw.mono hIc).drop⟩)
  refine X_skip (at_block_n (at_then (X_region (zB ?_))))
  refine zM (XO_nil ?_)
  exact at_met2 _ _ ⟨n - (k + 1), by omega, k + 1, rfl, rfl, rfl, rfl, by omega, any_no hv hno (by rw [hR.len]; have h := hc22; simp at h ⊢; omega)⟩ (.cons rfl (.cons rfl (.cons rfl (.cons rfl .nil)))) (by repeat (first | exact .refl | exact subL_left | refine subL_app ?_ | refine .drop ?_ | refine subL_add ?_))
 have hge_k : n ≤ k := by have h := hc16; simp at h; omega
 rw [take_all hlW hge_k] at hno
 refine X_exit (at_then_e (at_then_e (at_block_hit (at_then (zR (zA (zN ?_)))))))
 refine X_seq (zR (zM ?_))
 refine zQ slt_31 ?_
 refine zM (zN (X_block ?_))
 refine X_loopT [(24, _), (25, _)] (.cons rfl (.cons rfl .nil)) (fun T L0 mz E I' loc' => ∃ (k : Nat) (l : Int), mz = n - k ∧ E = (5, .int .i64 l) :: (26, .int .i64 k) :: T ∧ HLe I I' ∧ L0 = loc' ∧ k ≤ n ∧ goodW 0 xs = goodW l (xs.drop k)) _ _ _ _ ⟨0, 0, rfl, rfl, HLe.refl _, rfl, Nat.zero_le _, rfl⟩ (.cons rfl (.cons rfl (.cons rfl (.cons rfl .nil)))) (HLe.refl _) rfl ?_
 rintro mz E J2 loc' ⟨k, l, rfl, rfl, hJ, rfl, hk, hgo⟩
 have hW := hW.mono hJ; have hH := hH.mono hJ; have hIc := hIc.trans hJ
 have hB2 := hJ
 refine zR (zC (zN (X_seq ?_)))
 refine zI ?_ ?_ <;> intro hc27
 ·
  have hlt_k : k < n := by have h := hc27; simp at h; omega
  obtain ⟨w, x, hx, hv, e1, e2, hR⟩ := hW.at hlt_k
  have hrn := hR.len
  have hR64 : w.n ≤ 64 := by have := List.any_eq_false.1 hno x (List.mem_of_getElem? hv); simp at this; omega
  refine X_skip (at_then (X_seq (X_block (zR ?_))))
  refine zV (zX slt_31 hH) ?_
  refine zV (ev_loadA rfl agt_54 (fun hg => by exact Sl.getA hH hx) rfl) ?_
  refine XO_alloc zt_54 rfl rfl (fun b_7 => ?_)
  refine XO_storeA rfl rfl szt_54 rfl rfl rfl rfl (by repeat (first | exact Upd.here | apply Upd.there | apply upd_app)) ?_
  refine zN (X_seq (zR ?_))
  refine zF fld_54_0 ?_
  refine zV (ev_load rfl sct_3 (fun hg => by exact Cell.h0 rfl)) ?_
  refine zM ?_
  refine zC ?_
  refine zM ?_
  refine XO_pushF 4 rfl rfl rfl ?_
  refine zJ (ev_fieldAddr rfl fld_54_0) ?_
  refine zJ (ev_load rfl sct_3 (fun hg => by exact Cell.h0 rfl)) ?_
  refine zJ (ev_cmp rfl rfl rfl) ?_
  refine XO_or0 rfl rfl rfl rfl rfl ?_
  refine zM ?_
  refine XO_pushF 9 rfl rfl rfl ?_
  refine zJ (ev_fieldAddr rfl fld_54_1) ?_
  refine zJ (ev_load rfl sct_3 (fun hg => by exact Cell.h0 rfl)) ?_
  refine zJ (ev_cmp rfl rfl rfl) ?_
  refine XO_or0 rfl rfl rfl rfl rfl ?_
  refine zM ?_
  refine XO_pushF 14 rfl rfl rfl ?_
  refine zJ (ev_fieldAddr rfl fld_54_1) ?_
  refine zJ (ev_load rfl sct_3 (fun hg => by exact Cell.h0 rfl)) ?_
  refine zJ (ev_cmp rfl rfl rfl) ?_
  refine XO_or0 rfl rfl rfl rfl rfl ?_
  refine zN ?_
  refine zI ?_ ?_ <;> intro hc48
  ·
   have hbw : badW l x = true := by unfold badW; rw [← e1, ← e2]; exact hc48
   refine zR (zA (zN (X_ret (at_then_r (at_block_r (at_then_r (at_then_r ?_)))))))
   refine at_block_r (at_then_r ?_)
   exact at_ret1 rfl rfl (fun w hw => ⟨by rw [chkW_3 h1 hno (hgo.trans (goodW_bad hv hbw))], (hw.mono hIc).drop⟩)
  have hbw : badW l x = false := by unfold badW; rw [← e1, ← e2]; exact hc48
  refine X_skip (at_then (zR ?_))
  refine zF fld_54_0 ?_
  refine zV (ev_load rfl sct_3 (fun hg => by exact Cell.h0 rfl)) ?_
  refine zA ?_
  refine zN (zR ?_)
  refine zF fld_54_2 ?_
  refine zV (ev_load rfl sct_52 (fun hg => by exact Cell.h0 rfl)) ?_
  refine zQ slt_52 ?_
  refine zM (zN (X_block ?_))
  refine X_loopT [(5, _), (24, _), (25, _), (26, _), (52, _), (53, _)] (.cons rfl (.cons rfl (.cons rfl (.cons rfl (.cons rfl (.cons rfl .nil)))))) (fun T L0 mz E I' loc' => ∃ (j : Nat), mz = w.n - j ∧ E = (54, .int .i64 j) :: T ∧ HLe J2 I' ∧ [(b_7, .cells (encW w).toArray 54 (0, 0))] = loc' ∧ j ≤ w.n ∧ (x.rs.take j).any badR = false) _ _ _ _ ⟨0, rfl, rfl, HLe.refl _, rfl, Nat.zero_le _, rfl⟩ (.cons rfl (.cons rfl (.cons rfl (.cons rfl (.cons rfl (.cons rfl (.cons rfl .nil))))))) (HLe.refl _) rfl ?_
  rintro mz E J3 loc' ⟨j, rfl, rfl, hJ, rfl, hj, hnr⟩
  have hW := hW.mono hJ; have hH := hH.mono hJ; have hR := hR.mono hJ; have hIc := hIc.trans hJ; have hB2 := hB2.trans hJ
  have hB4 := hJ
  refine zR (zC (zN (X_seq ?_)))
  refine zI ?_ ?_ <;> intro hc55
  ·
   have hlt_j : j < w.n := by have h := hc55; simp at h; omega
   obtain ⟨r, hr⟩ := hR.at hlt_j
   refine X_skip (at_then (X_seq (X_block (zR ?_))))
   refine zV (zX slt_52 hR) ?_
   refine zV (ev_loadA rfl agt_51 (fun hg => by exact Sl.getA hR hr) rfl) ?_
   refine XO_alloc zt_51 rfl rfl (fun b_9 => ?_)
   refine XO_storeA rfl rfl szt_51 rfl rfl rfl rfl (by repeat (first | exact Upd.here | apply Upd.there | apply upd_app)) ?_
   refine zN (X_seq ?_)
   obtain ⟨hlo, hz⟩ | ⟨hlo, hz⟩ | ⟨hlo, hz⟩ | ⟨hlo, hz⟩ := rd_split r
   ·
    have hbr := badR_l hlo true hz
    refine X_region ?_
    refine zF fld_51_0 ?_
    refine zV (ev_load rfl sct_4 (fun hg => by exact Cell.h0 rfl)) ?_
    rw [hlo]
    refine zM ?_
    refine XO_want (dj := 60) rfl rfl rfl ?_
    refine zF fld_51_1 ?_
    refine XO_want (dj := 60) rfl rfl rfl ?_
    refine zV (ev_loadA rfl agt_48 (fun hg => by exact Cells.s0 (vs := [_, _, _, _, _, _, _, _, _, _, _, _, _, _]) rfl) rfl) ?_
    refine XO_want (dj := 60) rfl rfl rfl ?_
    refine zV (ev_buildL (ps := []) [_, _, _, _, _, _, _, _, _, _, _, _, _, _] plt_48 rfl rfl) ?_
    refine XO_want (dj := 60) rfl rfl rfl ?_
    refine zV (v := .bool (!sgEq r.sg zeroG)) (ev_neS2 rfl rfl eqt2_48 rfl) ?_
    rw [hz]
    refine zV (ev_pickb rfl rfl rfl) ?_
    refine zM ?_
    refine XO_skipW (dj := 66) rfl rfl rfl rfl rfl ?_
    refine XO_skipW (dj := 66) rfl rfl rfl rfl rfl ?_
    refine XO_skipW (dj := 66) rfl rfl rfl rfl rfl ?_
    refine XO_skipW (dj := 66) rfl rfl rfl rfl rfl ?_
    refine XO_skipW (dj := 70) rfl rfl rfl rfl rfl ?_
    refine XO_skipW (dj := 70) rfl rfl rfl rfl rfl ?_
    refine XO_skipW (dj := 70) rfl rfl rfl rfl rfl ?_
    refine XO_skipW (dj := 70) rfl rfl rfl rfl rfl ?_
    refine XO_skipW (dj := 70) rfl rfl rfl rfl rfl ?_
    refine XO_skipW (dj := 75) rfl rfl rfl rfl rfl ?_
    refine XO_skipW (dj := 75) rfl rfl rfl rfl rfl ?_
    refine XO_skipW (dj := 75) rfl rfl rfl rfl rfl ?_
    refine XO_skipW (dj := 75) rfl rfl rfl rfl rfl ?_
    refine XO_skipW (dj := 75) rfl rfl rfl rfl rfl ?_
    refine XO_skipW (dj := 70) rfl rfl rfl rfl rfl ?_
    refine XO_skipW (dj := 66) rfl rfl rfl rfl rfl ?_
    refine zV (ev_pick rfl rfl rfl) ?_
    refine zN ?_
    refine zI ?_ ?_ <;> intro hc83
    ·
     refine zR (zA (zN (X_ret (at_block_r (at_then_r (at_then_r (at_block_r ?_)))))))
     refine at_block_r (at_then_r (at_then_r (at_block_r (at_then_r ?_))))
     exact at_ret1 rfl rfl (fun w hw => ⟨by rw [chkW_3 h1 hno (hgo.trans (goodW_rd hv hr hbr))], (hw.mono hIc).drop⟩)
    cases hc83
   ·
    have hbr := badR_l hlo false hz
    refine X_region ?_
    refine zF fld_51_0 ?_
    refine zV (ev_load rfl sct_4 (fun hg => by exact Cell.h0 rfl)) ?_
    rw [hlo]
    refine zM ?_
    refine XO_want (dj := 60) rfl rfl rfl ?_
    refine zF fld_51_1 ?_
    refine XO_want (dj := 60) rfl rfl rfl ?_
    refine zV (ev_loadA rfl agt_48 (fun hg => by exact Cells.s0 (vs := [_, _, _, _, _, _, _, _, _, _, _, _, _, _]) rfl) rfl) ?_
    refine XO_want (dj := 60) rfl rfl rfl ?_
    refine zV (ev_buildL (ps := []) [_, _, _, _, _, _, _, _, _, _, _, _, _, _] plt_48 rfl rfl) ?_
    refine XO_want (dj := 60) rfl rfl rfl ?_
    refine zV (v := .bool (!sgEq r.sg zeroG)) (ev_neS2 rfl rfl eqt2_48 rfl) ?_
    rw [hz]
    refine zV (ev_pickb rfl rfl rfl) ?_
    refine zM ?_
    refine XO_want (dj := 66) rfl rfl rfl ?_
    refine zF fld_51_0 ?_
    refine XO_want (dj := 66) rfl rfl rfl ?_
    refine zV (ev_load rfl sct_4 (fun hg => by exact Cell.h0 rfl)) ?_
    rw [hlo]
    refine XO_want (dj := 66) rfl rfl rfl ?_
    refine zO ?_
    refine XO_want (dj := 66) rfl rfl rfl ?_
    refine zM ?_
    refine XO_skipW (dj := 70) rfl rfl rfl rfl rfl ?_
    refine XO_skipW (dj := 70) rfl rfl rfl rfl rfl ?_
    refine XO_skipW (dj := 70) rfl rfl rfl rfl rfl ?_
    refine XO_skipW (dj := 70) rfl rfl rfl rfl rfl ?_
    refine XO_skipW (dj := 70) rfl rfl rfl rfl rfl ?_
    refine XO_skipW (dj := 75) rfl rfl rfl rfl rfl ?_
    refine XO_skipW (dj := 75) rfl rfl rfl rfl rfl ?_
    refine XO_skipW (dj := 75) rfl rfl rfl rfl rfl ?_
    refine XO_skipW (dj := 75) rfl rfl rfl rfl rfl ?_
    refine XO_skipW (dj := 75) rfl rfl rfl rfl rfl ?_
    refine XO_skipW (dj := 70) rfl rfl rfl rfl rfl ?_
    refine XO_want (dj := 66) rfl rfl rfl ?_
    refine zV (ev_pick rfl rfl rfl) ?_
    refine zV (ev_pickb rfl rfl rfl) ?_
    refine zN ?_
    refine zI ?_ ?_ <;> intro hc83
    ·
     cases hc83
    refine X_skip (at_block_n (at_then (X_region (zB ?_))))
    refine zM (XO_nil ?_)
    exact at_met2 _ _ ⟨w.n - (j + 1), by omega, j + 1, rfl, rfl, hB4, rfl, by omega, any_no hr hnr hbr⟩ (.cons rfl (.cons rfl (.cons rfl (.cons rfl (.cons rfl (.cons rfl (.cons rfl .nil))))))) (by repeat (first | exact .refl | exact subL_left | refine subL_app ?_ | refine .drop ?_ | refine subL_add ?_))
   ·
    have hbr := badR_i hlo hz
    refine X_region ?_
    refine zF fld_51_0 ?_
    refine zV (ev_load rfl sct_4 (fun hg => by exact Cell.h0 rfl)) ?_
    rw [hlo]
    refine zM ?_
    refine XO_skipW (dj := 60) rfl rfl rfl rfl rfl ?_
    refine XO_skipW (dj := 60) rfl rfl rfl rfl rfl ?_
    refine XO_skipW (dj := 60) rfl rfl rfl rfl rfl ?_
    refine XO_skipW (dj := 60) rfl rfl rfl rfl rfl ?_
    refine zV (ev_pick rfl rfl rfl) ?_
    refine zM ?_
    refine XO_want (dj := 66) rfl rfl rfl ?_
    refine zF fld_51_0 ?_
    refine XO_want (dj := 66) rfl rfl rfl ?_
    refine zV (ev_load rfl sct_4 (fun hg => by exact Cell.h0 rfl)) ?_
    rw [hlo]
    refine XO_want (dj := 66) rfl rfl rfl ?_
    refine zO ?_
    refine XO_want (dj := 66) rfl rfl rfl ?_
    refine zM ?_
    refine XO_want (dj := 70) rfl rfl rfl ?_
    refine zF fld_51_1 ?_
    refine XO_want (dj := 70) rfl rfl rfl ?_
    refine zF fld_48_0 ?_
    refine XO_want (dj := 70) rfl rfl rfl ?_
    refine zV (ev_load rfl sct_3 (fun hg => by exact Cell.h0 rfl)) ?_
    refine XO_want (dj := 70) rfl rfl rfl ?_
    refine zC ?_
    rw [hz]
    refine XO_want (dj := 70) rfl rfl rfl ?_
    refine zM ?_
    refine XO_skipW (dj := 75) rfl rfl rfl rfl rfl ?_
    refine XO_skipW (dj := 75) rfl rfl rfl rfl rfl ?_
    refine XO_skipW (dj := 75) rfl rfl rfl rfl rfl ?_
    refine XO_skipW (dj := 75) rfl rfl rfl rfl rfl ?_
    refine XO_skipW (dj := 75) rfl rfl rfl rfl rfl ?_
    refine XO_want (dj := 70) rfl rfl rfl ?_
    refine zV (ev_pick rfl rfl rfl) ?_
    refine XO_want (dj := 66) rfl rfl rfl ?_
    refine zV (ev_pickb rfl rfl rfl) ?_
    refine zV (ev_pickb rfl rfl rfl) ?_
    refine zN ?_
    refine zI ?_ ?_ <;> intro hc83
    ·
     refine zR (zA (zN (X_ret (at_block_r (at_then_r (at_then_r (at_block_r ?_)))))))
     refine at_block_r (at_then_r (at_then_r (at_block_r (at_then_r ?_))))
     exact at_ret1 rfl rfl (fun w hw => ⟨by rw [chkW_3 h1 hno (hgo.trans (goodW_rd hv hr hbr))], (hw.mono hIc).drop⟩)
    cases hc83
   have hbr := badR_c hlo hz
   refine X_region ?_
   refine zF fld_51_0 ?_
   refine zV (ev_load rfl sct_4 (fun hg => by exact Cell.h0 rfl)) ?_
   rw [hlo]
   refine zM ?_
   refine XO_skipW (dj := 60) rfl rfl rfl rfl rfl ?_
   refine XO_skipW (dj := 60) rfl rfl rfl rfl rfl ?_
   refine XO_skipW (dj := 60) rfl rfl rfl rfl rfl ?_
   refine XO_skipW (dj := 60) rfl rfl rfl rfl rfl ?_
   refine zV (ev_pick rfl rfl rfl) ?_
   refine zM ?_
   refine XO_want (dj := 66) rfl rfl rfl ?_
   refine zF fld_51_0 ?_
   refine XO_want (dj := 66) rfl rfl rfl ?_
   refine zV (ev_load rfl sct_4 (fun hg => by exact Cell.h0 rfl)) ?_
   rw [hlo]
   refine XO_want (dj := 66) rfl rfl rfl ?_
   refine zO ?_
   refine XO_want (dj := 66) rfl rfl rfl ?_
   refine zM ?_
   refine XO_want (dj := 70) rfl rfl rfl ?_
   refine zF fld_51_1 ?_
   refine XO_want (dj := 70) rfl rfl rfl ?_
   refine zF fld_48_0 ?_
   refine XO_want (dj := 70) rfl rfl rfl ?_
   refine zV (ev_load rfl sct_3 (fun hg => by exact Cell.h0 rfl)) ?_
   refine XO_want (dj := 70) rfl rfl rfl ?_
   refine zC ?_
   rw [hz]
   refine XO_want (dj := 70) rfl rfl rfl ?_
   refine zM ?_
   refine XO_want (dj := 75) rfl rfl rfl ?_
   refine zF fld_51_1 ?_
   refine XO_want (dj := 75) rfl rfl rfl ?_
   refine zV (ev_loadA rfl agt_48 (fun hg => by exact Cells.s0 (vs := [_, _, _, _, _, _, _, _, _, _, _, _, _, _]) rfl) rfl) ?_
   refine XO_want (dj := 75) rfl rfl rfl ?_
   refine XO_buildSlice (ps := [(0, _)]) (m := [encG r.sg]) elt_36 rfl (.cons rfl (.nil)) rfl (by simp [encG_len]) (by decide) (by decide) rfl rfl (fun b_78 => ?_)
   refine XO_freeze (b := b_78) (by repeat (first | exact Take.here | apply Take.there)) (fun I4 hI4 hb4 => ?_)
   have hW := hW.mono hI4; have hH := hH.mono hI4; have hR := hR.mono hI4; have hIc := hIc.trans hI4; have hB2 := hB2.trans hI4; have hB4 := hB4.trans hI4
   have hSg : Sl I4 14 encG (some ⟨b_78, 0, none⟩) 1 1 [r.sg] := Sl.lit [r.sg] rfl encG_len (show _ = some (Obj.cells ([r.sg].flatMap encG).toArray 48 (0, 0)) from hb4)
   refine XO_want (dj := 75) rfl rfl rfl ?_
   refine XO_callV0 (cap := []) (vs := [_]) rfl rfl fun_75 (w_chkG hSg (by decide)) rfl rfl ?_
   refine XO_want (dj := 75) rfl rfl rfl ?_
   refine zC ?_
   refine XO_want (dj := 70) rfl rfl rfl ?_
   refine zV (ev_pickb rfl rfl rfl) ?_
   refine XO_want (dj := 66) rfl rfl rfl ?_
   refine zV (ev_pickb rfl rfl rfl) ?_
   refine zV (ev_pickb rfl rfl rfl) ?_
   refine zN ?_
   refine zI ?_ ?_ <;> intro hc83
   ·
    have hbr := hbr.trans hc83
    refine zR (zA (zN (X_ret (at_block_r (at_then_r (at_then_r (at_block_r ?_)))))))
    refine at_block_r (at_then_r (at_then_r (at_block_r (at_then_r ?_))))
    exact at_ret1 rfl rfl (fun w hw => ⟨by rw [chkW_3 h1 hno (hgo.trans (goodW_rd hv hr hbr))], (hw.mono hIc).drop⟩)
   have hbr := hbr.trans hc83
   refine X_skip (at_block_n (at_then (X_region (zB ?_))))
   refine zM (XO_nil ?_)
   exact at_met2 _ _ ⟨w.n - (j + 1), by omega, j + 1, rfl, rfl, hB4, rfl, by omega, any_no hr hnr hbr⟩ (.cons rfl (.cons rfl (.cons rfl (.cons rfl (.cons rfl (.cons rfl (.cons rfl .nil))))))) (by repeat (first | exact .refl | exact subL_left | refine subL_app ?_ | refine .drop ?_ | refine subL_add ?_))
  have hge_j : w.n ≤ j := by have h := hc55; simp at h; omega
  rw [take_all hrn hge_j] at hnr
  refine X_exit (at_then_e (at_then_e (at_block_hit (at_block_n (at_then (X_region (zB ?_)))))))
  refine zM (XO_nil ?_)
  exact at_met2 _ _ ⟨n - (k + 1), by omega, k + 1, _, rfl, rfl, hB2, rfl, by omega, by rw [hgo, goodW_step hv hbw hnr, e1]⟩ (.cons rfl (.cons rfl (.cons rfl (.cons rfl .nil)))) (by repeat (first | exact .refl | exact subL_left | refine subL_app ?_ | refine .drop ?_ | refine subL_add ?_))
 have hge_k : n ≤ k := by have h := hc27; simp at h; omega
 rw [goodW_end (by omega)] at hgo
 refine X_exit (at_then_e (at_then_e (at_block_hit (at_then (zR (zA (zN ?_)))))))
 refine X_ret ?_
 exact at_ret1 rfl rfl (fun w hw => ⟨by rw [chkW_4 h1 hno hgo], (hw.mono hIc).drop⟩)
end
section
open Go Go.Kn Go.Proofs
def lcG : Nat → List Int → List Int → Int
 | _, [], ys => 2 * (ys.length : Int)
 | _, x :: xs, [] => 2 * ((x :: xs).length : Int)
 | 0, _ :: _, _ :: _ => 0
 | f + 1, x :: xs, y :: ys => minI (minI (besN x y + lcG f xs ys) (2 + lcG f xs (y :: ys))) (2 + lcG f (x :: xs) ys)
theorem lcG_fuel : ∀ (f : Nat) (xs ys : List Int), xs.length + ys.length ≤ f → lcG f xs ys = lcG (xs.length + ys.length) xs ys
 | _, [], ys, _ => by simp [lcG]
 | _, x :: xs, [], _ => by simp [lcG]
 | 0, _ :: _, _ :: _, h => by simp at h
 | f + 1, x :: xs, y :: ys, h => by
  simp only [List.length_cons] at h
  have e : (x :: xs).length + (y :: ys).length = (xs.length + ys.length + 1) + 1 := by simp only [List.length_cons]; omega
  rw [e]
  simp only [lcG]
  rw [lcG_fuel f xs ys (by omega), lcG_fuel f xs (y :: ys) (by simp only [List.length_cons]; omega), lcG_fuel f (x :: xs) ys (by simp only [List.length_cons]; omega)]
  rw [lcG_fuel (xs.length + ys.length + 1) xs ys (by omega), lcG_fuel (xs.length + ys.length + 1) xs (y :: ys) (by simp only [List.length_cons]; omega), lcG_fuel (xs.length + ys.length + 1) (x :: xs) ys (by simp only [List.length_cons]; omega)]
theorem besN_in (x y : Int) : 0 ≤ besN x y ∧ besN x y ≤ 3 := by unfold besN; split <;> omega
theorem minI_le {a b : Int} : minI a b ≤ a ∧ minI a b ≤ b ∧ (minI a b = a ∨ minI a b = b) := by unfold minI; split <;> omega
theorem lcG_in : ∀ (f : Nat) (xs ys : List Int), 0 ≤ lcG f xs ys ∧ lcG f xs ys ≤ 2 * ((xs.length : Int) + ys.length)
 | _, [], ys => by simp only [lcG, List.length_nil]; omega
 | _, x :: xs, [] => by simp only [lcG, List.length_nil]; omega
 | 0, _ :: _, _ :: _ => by simp only [lcG]; omega
 | f + 1, x :: xs, y :: ys => by
  have h1 := lcG_in f xs ys
  have h2 := lcG_in f xs (y :: ys)
  have h3 := lcG_in f (x :: xs) ys
  have hb := besN_in x y
  simp only [lcG]
  have m1 := @minI_le (besN x y + lcG f xs ys) (2 + lcG f xs (y :: ys))
  have m2 := @minI_le (minI (besN x y + lcG f xs ys) (2 + lcG f xs (y :: ys))) (2 + lcG f (x :: xs) ys)
  simp only [List.length_cons] at *
  omega
def LC (a b : List Int) (i k : Nat) : Int := lcG ((a.drop i).length + (b.drop k).length) (a.drop i) (b.drop k)
theorem LC_end {a b : List Int} {i k : Nat} (hi : i ≤ a.length) (hk : k ≤ b.length) (h : i = a.length ∨ k = b.length) : LC a b i k = 2 * ((a.length : Int) - i + b.length - k) := by
 unfold LC
 rcases h with rfl | rfl
 ·
  rw [List.drop_length]; simp only [lcG, List.length_drop]; omega
 ·
  rw [List.drop_length]
  cases h : a.drop i with
  | nil => have := congrArg List.length h; simp at this; simp only [lcG, List.length_nil]; omega
  | cons x xs => have := congrArg List.length h; simp only [List.length_drop] at this; simp only [lcG]; omega
theorem LC_step {a b : List Int} {i k : Nat} {x y : Int} (hx : a[i]? = some x) (hy : b[k]? = some y) : LC a b i k = minI (minI (besN x y + LC a b (i + 1) (k + 1)) (2 + LC a b (i + 1) k)) (2 + LC a b i (k + 1)) := by
 unfold LC
 rw [drop_cons hx, drop_cons hy]
 have e : (x :: a.drop (i + 1)).length + (y :: b.drop (k + 1)).length = ((a.drop (i + 1)).length + (b.drop (k + 1)).length + 1) + 1 := by simp only [List.length_cons]; omega
 rw [e]
 simp only [lcG]
 rw [lcG_fuel (_ + 1) (a.drop (i + 1)) (b.drop (k + 1)) (by omega), lcG_fuel (_ + 1) (a.drop (i + 1)) (y :: b.drop (k + 1)) (by simp only [List.length_cons]; omega), lcG_fuel (_ + 1) (x :: a.drop (i + 1)) (b.drop (k + 1)) (by simp only [List.length_cons]; omega)]
theorem LC_in (a b : List Int) (i k : Nat) : 0 ≤ LC a b i k ∧ LC a b i k ≤ 2 * ((a.length : Int) + b.length) := by
 have h := lcG_in ((a.drop i).length + (b.drop k).length) (a.drop i) (b.drop k)
 unfold LC
 simp only [List.length_drop] at *
 omega
def isLC (a b : List Int) (i k : Nat) (v : Int) : Prop := v = LC a b i k
theorem isLC.inn {a b : List Int} {i k : Nat} {v : Int} (h : isLC a b i k v) : 0 ≤ v ∧ v ≤ 2 * ((a.length : Int) + b.length) := by unfold isLC at h; rw [h]; exact LC_in a b i k
theorem isLC.fin {a b : List Int} {i k : Nat} (hi : i ≤ a.length) (hk : k ≤ b.length) (h : i = a.length ∨ k = b.length) : isLC a b i k (2 * ((a.length : Int) - i + b.length - k)) := (LC_end hi hk h).symm
theorem isLC.step {a b : List Int} {i k : Nat} {x y A B C : Int} (hx : a[i]? = some x) (hy : b[k]? = some y) (hA : isLC a b (i + 1) (k + 1) A) (hB : isLC a b (i + 1) k B) (hC : isLC a b i (k + 1) C) : isLC a b i k (minI (minI (besN x y + A) (2 + B)) (2 + C)) := by
 unfold isLC at *; rw [LC_step hx hy, hA, hB, hC]
def MOK (a b : List Int) (m : List ((Int × Int) × Int)) : Prop := ∀ (i k : Nat) (v : Int), mget m ((i : Int), (k : Int)) = some v → isLC a b i k v
theorem MOK.nil {a b : List Int} : MOK a b [] := fun _ _ _ h => by cases h
theorem MOK.set {a b : List Int} {m : List ((Int × Int) × Int)} (h : MOK a b m) {i k : Nat} {v : Int} (hv : isLC a b i k v) : MOK a b (mset m ((i : Int), (k : Int)) v) := fun i' k' v' e => by
 rw [mget_mset] at e
 split at e
 ·
  rename_i h2
  simp only [Prod.mk.injEq] at h2
  obtain ⟨rfl, rfl⟩ : i = i' ∧ k = k' := by omega
  cases e; exact hv
 ·
  exact h i' k' v' e
structure LsE (I : HMap) (fid ba bb bk bs r : Nat) (av bv : Option Addr) (n c n2 c2 : Nat) (xs ys : List Int) : Prop where
 a : Cell I [] ba 0 (.slice av n c)
 b : Cell I [] bb 0 (.slice bv n2 c2)
 kn : Cell I [] bk 0 (.map (some r))
 se : Cell I [] bs 0 (.func (.func fid) #[] #[capP ba, capP bb, capP bk, capP bs])
 hA : Sl I 1 encI av n c xs
 hB : Sl I 1 encI bv n2 c2 ys
theorem LsE.mono {I I' : HMap} {fid ba bb bk bs r : Nat} {av bv : Option Addr} {n c n2 c2 : Nat} {xs ys : List Int} (h : LsE I fid ba bb bk bs r av bv n c n2 c2 xs ys) (hI : HLe I I') : LsE I' fid ba bb bk bs r av bv n c n2 c2 xs ys :=
 ⟨h.a.mono hI, h.b.mono hI, h.kn.mono hI, h.se.mono hI, h.hA.mono hI, h.hB.mono hI⟩
def eivI : Int → Value := Value.int .i64
/-! ### The pairs -/
def encQ (p : Int × Int) : List Value := [.int .i64 p.1, .int .i64 p.2]
theorem encQ_len (p : Int × Int) : (encQ p).length = 2 := rfl
theorem one_Q (xs : List (Int × Int)) : allOne (xs.flatMap encQ) = true := allOne_flat (fun _ => rfl) xs
def bothP (a b : List Int) (i k : Nat) : Bool := decide (i < a.length) && decide (k < b.length) && (LC a b i k == besN (a.getD i 0) (b.getD k 0) + LC a b (i + 1) (k + 1))
def oneP (a b : List Int) (i k : Nat) : Bool := decide (i < a.length) && (LC a b i k == 2 + LC a b (i + 1) k)
def paF (a b : List Int) : Nat → Nat → Nat → List (Int × Int)
 | 0, _, _ => []
 | f + 1, i, k =>
  if (decide (i < a.length) || decide (k < b.length)) = true then
   if bothP a b i k = true then (((i + 1 : Nat) : Int), ((k + 1 : Nat) : Int)) :: paF a b f (i + 1) (k + 1)
   else if oneP a b i k = true then (((i + 1 : Nat) : Int), 0) :: paF a b f (i + 1) k
   else (0, ((k + 1 : Nat) : Int)) :: paF a b f i (k + 1)
  else []
def PaQ (a b : List Int) (pre : List (Int × Int)) (i k : Nat) : Prop := ∃ f, a.length - i + (b.length - k) ≤ f ∧ paF a b (a.length + b.length) 0 0 = pre ++ paF a b f i k
theorem PaQ.start {a b : List Int} : PaQ a b [] 0 0 := ⟨a.length + b.length, by omega, rfl⟩
theorem PaQ.fin {a b : List Int} {pre : List (Int × Int)} {i k : Nat} (h : PaQ a b pre i k) (hi : a.length ≤ i) (hk : b.length ≤ k) : paF a b (a.length + b.length) 0 0 = pre := by
 obtain ⟨f, _, e⟩ := h
 rw [e]
 cases f with
 | zero => simp [paF]
 | succ f => unfold paF; rw [if_neg (by simp; omega), List.append_nil]
theorem PaQ.fuel {a b : List Int} {pre : List (Int × Int)} {i k : Nat} (h : PaQ a b pre i k) (hg : i < a.length ∨ k < b.length) : ∃ f, a.length - i + (b.length - k) ≤ f + 1 ∧ paF a b (a.length + b.length) 0 0 = pre ++ paF a b (f + 1) i k := by
 obtain ⟨f, hf, e⟩ := h
 cases f with
 | zero => omega
 | succ f => exact ⟨f, hf, e⟩
theorem PaQ.both {a b : List Int} {pre : List (Int × Int)} {i k : Nat} (h : PaQ a b pre i k) (hb : bothP a b i k = true) : PaQ a b (pre ++ [(((i + 1 : Nat) : Int), ((k + 1 : Nat) : Int))]) (i + 1) (k + 1) := by
 have h1 : i < a.length ∧ k < b.length := by unfold bothP at hb; simp at hb; omega
 obtain ⟨f, hf, e⟩ := h.fuel (.inl h1.1)
 refine ⟨f, by omega, ?_⟩
 rw [e]
 show pre ++ (if (decide (i < a.length) || decide (k < b.length)) = true then _ else _) = _
 rw [if_pos (by simp; omega), if_pos hb, List.append_assoc]; rfl
theorem PaQ.one {a b : List Int} {pre : List (Int × Int)} {i k : Nat} (h : PaQ a b pre i k) (hb : bothP a b i k = false) (ho : oneP a b i k = true) : PaQ a b (pre ++ [(((i + 1 : Nat) : Int), 0)]) (i + 1) k := by
 have h1 : i < a.length := by unfold oneP at ho; simp at ho; omega
 obtain ⟨f, hf, e⟩ := h.fuel (.inl h1)
 refine ⟨f, by omega, ?_⟩
 rw [e]
 show pre ++ (if (decide (i < a.length) || decide (k < b.length)) = true then _ else _) = _
 rw [if_pos (by simp; omega), if_neg (by rw [hb]; decide), if_pos ho, List.append_assoc]; rfl
theorem two_lt {a b : List Int} {i k : Nat} (hi : i ≤ a.length) (hk : k ≤ b.length) (hg : i < a.length ∨ k < b.length) (hb : bothP a b i k = false) (ho : oneP a b i k = false) : k < b.length := by
 by_cases h : k < b.length
 ·
  exact h
 ·
  have hia : i < a.length := by omega
  have e1 := LC_end (a := a) (b := b) hi hk (.inr (by omega))
  have e2 := LC_end (a := a) (b := b) (i := i + 1) (by omega) hk (.inr (by omega))
  unfold oneP at ho
  simp only [Bool.and_eq_false_iff, decide_eq_false_iff_not, beq_eq_false_iff_ne] at ho
  rcases ho with ho | ho
  ·
   omega
  ·
   omega
theorem PaQ.two {a b : List Int} {pre : List (Int × Int)} {i k : Nat} (h : PaQ a b pre i k) (hg : k < b.length) (hb : bothP a b i k = false) (ho : oneP a b i k = false) : PaQ a b (pre ++ [(0, ((k + 1 : Nat) : Int))]) i (k + 1) := by
 obtain ⟨f, hf, e⟩ := h.fuel (.inr hg)
 refine ⟨f, by omega, ?_⟩
 rw [e]
 show pre ++ (if (decide (i < a.length) || decide (k < b.length)) = true then _ else _) = _
 rw [if_pos (by simp; omega), if_neg (by rw [hb]; decide), if_neg (by rw [ho]; decide), List.append_assoc]; rfl
def pairL (a b : List Int) : List (Int × Int) := paF a b (a.length + b.length) 0 0
def badC (c : Int) : Bool := (signE c != 0) && (c != 8589934592)
def pairE (a b : List Int) : Int := if a.length > 64 ∨ b.length > 64 then 2 else if (a.any badC || b.any badC) = true then 410 else 0
theorem lt_three {i k n m : Nat} (h : i < n ∨ k < m) : (decide ((i : Int) < (n : Int)) = true ∧ decide ((k : Int) < (m : Int)) = true ∧ i < n ∧ k < m) ∨ (decide ((i : Int) < (n : Int)) = true ∧ decide ((k : Int) < (m : Int)) = false ∧ i < n ∧ m ≤ k) ∨ (decide ((i : Int) < (n : Int)) = false ∧ decide ((k : Int) < (m : Int)) = true ∧ n ≤ i ∧ k < m) := by
 by_cases h1 : i < n
 ·
  by_cases h2 : k < m
  ·
   exact .inl ⟨decide_eq_true (by omega), decide_eq_true (by omega), h1, h2⟩
  ·
   exact .inr (.inl ⟨decide_eq_true (by omega), decide_eq_false (by omega), h1, by omega⟩)
 ·
  exact .inr (.inr ⟨decide_eq_false (by omega), decide_eq_true (by omega), by omega, by omega⟩)
theorem bothP_of {a b : List Int} {i k : Nat} {x y V A : Int} {t : Bool} (hx : a[i]? = some x) (hy : b[k]? = some y) (hV : isLC a b i k V) (hA : isLC a b (i + 1) (k + 1) A) (h : (V == besN x y + A) = t) : bothP a b i k = t := by
 have h1 := (List.getElem?_eq_some_iff.1 hx).1
 have h2 := (List.getElem?_eq_some_iff.1 hy).1
 unfold isLC at hV hA
 unfold bothP
 rw [getD_of hx, getD_of hy, ← hV, ← hA, h, decide_eq_true h1, decide_eq_true h2]; rfl
theorem bothP_no {a b : List Int} {i k : Nat} (h : a.length ≤ i ∨ b.length ≤ k) : bothP a b i k = false := by
 unfold bothP
 rcases h with h | h
 ·
  rw [decide_eq_false (show ¬ i < a.length by omega)]; rfl
 ·
  rw [decide_eq_false (show ¬ k < b.length by omega), Bool.and_false]; rfl
theorem oneP_of {a b : List Int} {i k : Nat} {V B : Int} {t : Bool} (hi : i < a.length) (hV : isLC a b i k V) (hB : isLC a b (i + 1) k B) (h : (V == 2 + B) = t) : oneP a b i k = t := by
 unfold isLC at hV hB
 unfold oneP
 rw [← hV, ← hB, h, decide_eq_true hi]; rfl
theorem oneP_no {a b : List Int} {i k : Nat} (h : a.length ≤ i) : oneP a b i k = false := by
 unfold oneP
 rw [decide_eq_false (show ¬ i < a.length by omega)]; rfl
theorem pairE_1 {a b : List Int} (h : a.length > 64 ∨ b.length > 64) : pairE a b = 2 := by unfold pairE; rw [if_pos h]
theorem pairE_2 {a b : List Int} (h : ¬ (a.length > 64 ∨ b.length > 64)) (h2 : (a.any badC || b.any badC) = true) : pairE a b = 410 := by unfold pairE; rw [if_neg h, if_pos h2]
theorem pairE_3 {a b : List Int} (h : ¬ (a.length > 64 ∨ b.length > 64)) (h2 : (a.any badC || b.any badC) = false) : pairE a b = 0 := by unfold pairE; rw [if_neg h, h2]; rfl
def pairR (a b : List Int) : List (Int × Int) := if pairE a b ≠ 0 then [] else pairL a b
def PairQ (a b : List Int) : Value → HMap → Go.Kn.Loc → Prop := fun v I' L => L = [] ∧ ∃ z av c, v = .tuple #[.int .i64 z, .slice av (pairR a b).length c, .int .i64 (pairE a b)] ∧ Sl I' 2 encQ av (pairR a b).length c (pairR a b)
theorem pairR_bad {a b : List Int} (h : pairE a b ≠ 0) : pairR a b = [] := by unfold pairR; rw [if_pos h]
theorem pairR_ok {a b : List Int} (h : pairE a b = 0) : pairR a b = pairL a b := by unfold pairR; rw [if_neg (by omega)]
theorem two_lists {I : HMap} {av bv : Option Addr} {n c n2 c2 : Nat} {xs ys : List Int} (hA : Sl I 1 encI av n c xs) (hB : Sl I 1 encI bv n2 c2 ys) {q : Nat} (hq : q < 2) : ∃ hd zs, ([⟨av, n, c⟩, ⟨bv, n2, c2⟩] : List Hd)[q]? = some hd ∧ ([xs, ys] : List (List Int))[q]? = some zs ∧ Sl I 1 encI hd.a hd.n hd.c zs ∧ (hd.n = n ∨ hd.n = n2) := by
 rcases (show q = 0 ∨ q = 1 by omega) with rfl | rfl
 ·
  exact ⟨_, xs, rfl, rfl, hA, .inl rfl⟩
 ·
  exact ⟨_, ys, rfl, rfl, hB, .inr rfl⟩
end
section
open Go Go.Kn Go.Proofs
theorem fun_76 : Fun Tryz.prog 76 := .of Tryz.func76 (by kernel_rfl) (by kernel_rfl)
theorem fun_77 : Fun Tryz.prog 77 := .of Tryz.func77 (by kernel_rfl) (by kernel_rfl)
theorem key_94 : KeyOK (α := Int × Int) Tryz.prog 94 encK2 := key_arr2 ar2_94
theorem mpt_114 : MpT Tryz.prog 114 94 3 (.int .i64 0) := ⟨by kernel_rfl, .of (by kernel_rfl)⟩
theorem sct_114 : ScT Tryz.prog 114 := .of (by kernel_rfl)
theorem sct_65 : ScT Tryz.prog 65 := .of (by kernel_rfl)
set_option maxHeartbeats 1600000 in
theorem w_lsP_step {I : HMap} {ba bb bk bs r : Nat} {av bv : Option Addr} {n c n2 c2 : Nat} {xs ys : List Int} (hE : (LsE I 76 ba bb bk bs r av bv n c n2 c2 xs ys)) (hn : n ≤ 100000) (hn2 : n2 ≤ 100000) (i k : Nat) (hi : i ≤ xs.length) (hk : k ≤ ys.length) (m1 : List ((Int × Int) × Int)) (hm1 : MOK xs ys m1) (ihA : ∀ (m' : List ((Int × Int) × Int)), i < xs.length ∧ k < ys.length → MOK xs ys m' → RetM Tryz.prog 76 ([.int .i64 ((i : Int) + 1), .int .i64 ((k : Int) + 1)] ++ [capP ba, capP bb, capP bk, capP bs]) I [(r, mapO encK2 eivI m')] (fun v I' L' => ∃ A, isLC xs ys (i + 1) (k + 1) A ∧ v = .int .i64 A ∧ I' = I ∧ ∃ m', MOK xs ys m' ∧ L' = [(r, mapO encK2 eivI m')])) (ihB : ∀ (m' : List ((Int × Int) × Int)), i < xs.length ∧ k < ys.length → MOK xs ys m' → RetM Tryz.prog 76 ([.int .i64 ((i : Int) + 1), .int .i64 ((k : Int))] ++ [capP ba, capP bb, capP bk, capP bs]) I [(r, mapO encK2 eivI m')] (fun v I' L' => ∃ A, isLC xs ys (i + 1) (k) A ∧ v = .int .i64 A ∧ I' = I ∧ ∃ m', MOK xs ys m' ∧ L' = [(r, mapO encK2 eivI m')])) (ihC : ∀ (m' : List ((Int × Int) × Int)), i < xs.length ∧ k < ys.length → MOK xs ys m' → RetM Tryz.prog 76 ([.int .i64 ((i : Int)), .int .i64 ((k : Int) + 1)] ++ [capP ba, capP bb, capP bk, capP bs]) I [(r, mapO encK2 eivI m')] (fun v I' L' => ∃ A, isLC xs ys (i) (k + 1) A ∧ v = .int .i64 A ∧ I' = I ∧ ∃ m', MOK xs ys m' ∧ L' = [(r, mapO encK2 eivI m')])) : RetM Tryz.prog 76 [.int .i64 i, .int .i64 k, capP ba, capP bb, capP bk, capP bs] I [(r, mapO encK2 eivI m1)] (fun v I' L' => ∃ A, isLC xs ys (i) (k) A ∧ v = .int .i64 A ∧ I' = I ∧ ∃ m', MOK xs ys m' ∧ L' = [(r, mapO encK2 eivI m')]) := by
 intro g H w hw
 refine enter Tryz.func76 rfl Tryz.ntmps76 rfl hw ?_
 have hAl := hE.hA.len
 subst hAl
 have hBl := hE.hB.len
 subst hBl
 refine zR (zA (zN (X_seq (zR ?_))))
 refine zM ?_
 refine zV (ev_load rfl sct_23 (fun hg => by exact hE.a.any)) ?_
 refine zQ slt_23 ?_
 refine zC ?_
 refine zM ?_
 refine XO_pushF 4 rfl rfl rfl ?_
 refine zJ (ev_move rfl) ?_
 refine zJ (ev_load rfl sct_23 (fun hg => by exact hE.b.any)) ?_
 refine zJ (ev_lenS rfl slt_23) ?_
 refine zJ (ev_cmp rfl rfl rfl) ?_
 refine XO_or0 rfl rfl rfl rfl rfl ?_
 refine zN ?_
 refine zI ?_ ?_ <;> intro hc20
 ·
  have hend : i = xs.length ∨ k = ys.length := by have h := hc20; simp at h; omega
  refine zR ?_
  refine zV (ev_load rfl sct_23 (fun hg => by exact hE.a.any)) ?_
  refine zQ slt_23 ?_
  refine zM ?_
  refine zB ?_
  refine zV (ev_load rfl sct_23 (fun hg => by exact hE.b.any)) ?_
  refine zQ slt_23 ?_
  refine zB ?_
  refine zM ?_
  refine zB ?_
  refine zB ?_
  refine zA (zN (X_ret (at_then_r ?_)))
  exact at_ret1 rfl rfl (fun w hw => ⟨_, _, _, rfl, HLe.refl _, hw, _, isLC.fin hi hk hend, rfl, rfl, m1, hm1, rfl⟩)
 have hlt : i < xs.length ∧ k < ys.length := by have h := hc20; simp at h; omega
 obtain ⟨x, hx⟩ := hE.hA.at hlt.1
 obtain ⟨y, hy⟩ := hE.hB.at hlt.2
 have hbn := besN_in x y
 refine X_skip (at_then (zR ?_))
 refine zV (ev_load rfl sct_114 (fun hg => by exact hE.kn.any)) ?_
 refine zM ?_
 refine zM ?_
 refine zV (ev_buildArr (ps := [(0, _), (1, _)]) [_, _] art_94 zt_94 rfl rfl) ?_
 refine zV (ev_lookupOkI (m := m1) (ek := encK2) (a := ((i : Int), (k : Int))) mpt_114 key_94 rfl rfl (fun _ => (by exact Mem.m0))) ?_
 refine zM ?_
 refine zE ?_
 refine zE ?_
 refine zA ?_
 refine zA (zN (X_seq (zR ?_)))
 refine zM ?_
 refine zO (zN ?_)
 refine zI ?_ ?_ <;> intro hc40
 ·
  refine X_seq ?_
  have hD := HLe.refl I
  refine X_noP ?_
  refine X_drawS I [] mixed ?_
  refine zT 0 rfl (ev_load rfl sct_23 (fun hg => by exact hE.a.any)) hD ?_
  refine zT 1 rfl (ev_move rfl) hD ?_
  refine zT 2 rfl (ev_indexSl rfl rfl slt_23 hE.hA (fun hg => by omega)) hD ?_
  refine zT 3 rfl (ev_load rfl sct_3 (fun hg => by exact Sl.get0 hE.hA hx rfl)) hD ?_
  refine zT 4 rfl (ev_load rfl sct_23 (fun hg => by exact hE.b.any)) hD ?_
  refine zT 5 rfl (ev_move rfl) hD ?_
  refine zT 6 rfl (ev_indexSl rfl rfl slt_23 hE.hB (fun hg => by omega)) hD ?_
  refine zT 7 rfl (ev_load rfl sct_3 (fun hg => by exact Sl.get0 hE.hB hy rfl)) hD ?_
  refine zT 9 rfl (ev_load rfl sct_65 (fun hg => by exact hE.se.any)) hD ?_
  refine zT 10 rfl (ev_move rfl) hD ?_
  refine zT 11 rfl (ev_arB rfl rfl rfl (fun hg => by omega)) hD ?_
  refine zT 12 rfl (ev_move rfl) hD ?_
  refine zT 13 rfl (ev_arB rfl rfl rfl (fun hg => by omega)) hD ?_
  refine zT 16 rfl (ev_load rfl sct_65 (fun hg => by exact hE.se.any)) hD ?_
  refine zT 17 rfl (ev_move rfl) hD ?_
  refine zT 18 rfl (ev_arB rfl rfl rfl (fun hg => by omega)) hD ?_
  refine zT 19 rfl (ev_move rfl) hD ?_
  refine zT 22 rfl (ev_load rfl sct_65 (fun hg => by exact hE.se.any)) hD ?_
  refine zT 23 rfl (ev_move rfl) hD ?_
  refine zT 24 rfl (ev_move rfl) hD ?_
  refine zT 25 rfl (ev_arB rfl rfl rfl (fun hg => by omega)) hD ?_
  refine XD_one 8 rfl (by kernel_rfl) ?_
  refine XO_callV0 (cap := []) (vs := [_, _]) rfl rfl fun_77 (w_beside I _ _) rfl rfl ?_
  refine XO_nil ?_
  refine zD hD ?_
  refine XD_one 14 rfl (by kernel_rfl) ?_
  refine XO_callM (cap := [capP ba, capP bb, capP bk, capP bs]) (vs := [_, _]) rfl rfl fun_76 split_all (ihA m1 hlt hm1) rfl rfl ?_
  rintro vv1 I1 L1 hI1 ⟨VA, hLA, rfl, rfl, m2, hm2, rfl⟩
  have hE := hE.mono hI1; have hD := hD.trans hI1
  have hbA := hLA.inn
  refine XO_nil ?_
  refine zD hD ?_
  refine zT 15 rfl (ev_arB rfl rfl rfl (fun hg => by omega)) hD ?_
  refine XD_one 20 rfl (by kernel_rfl) ?_
  refine XO_callM (cap := [capP ba, capP bb, capP bk, capP bs]) (vs := [_, _]) rfl rfl fun_76 split_all (ihB m2 hlt hm2) rfl rfl ?_
  rintro vv2 I2 L2 hI2 ⟨VB, hLB, rfl, rfl, m3, hm3, rfl⟩
  have hE := hE.mono hI2; have hD := hD.trans hI2
  have hbB := hLB.inn
  refine XO_nil ?_
  refine zD hD ?_
  refine zT 21 rfl (ev_arB rfl rfl rfl (fun hg => by omega)) hD ?_
  refine XD_one 26 rfl (by kernel_rfl) ?_
  refine XO_callM (cap := [capP ba, capP bb, capP bk, capP bs]) (vs := [_, _]) rfl rfl fun_76 split_all (ihC m3 hlt hm3) rfl rfl ?_
  rintro vv3 I3 L3 hI3 ⟨VC, hLC, rfl, rfl, m4, hm4, rfl⟩
  have hE := hE.mono hI3; have hD := hD.trans hI3
  have hbC := hLC.inn
  refine XO_nil ?_
  refine zD hD ?_
  refine zT 27 rfl (ev_arB rfl rfl rfl (fun hg => by omega)) hD ?_
  refine zT 28 rfl (ev_min3 rfl rfl rfl) hD ?_
  refine zT 29 rfl (ev_assign rfl) hD ?_
  refine XD_done (by kernel_rfl) ?_
  refine at_noP ?_
  have hst := isLC.step hx hy hLA hLB hLC
  refine at_then (X_region ?_)
  refine zV (ev_load rfl sct_114 (fun hg => by exact hE.kn.any)) ?_
  refine zM ?_
  refine zM ?_
  refine zV (ev_buildArr (ps := [(0, _), (1, _)]) [_, _] art_94 zt_94 rfl rfl) ?_
  refine zM ?_
  refine XO_mapUpdate (m := m4) (ev := eivI) (ek := encK2) (a := ((i : Int), (k : Int))) (minI (minI (besN x y + VA) (2 + VB)) (2 + VC)) mpt_114 key_94 rfl rfl rfl rfl (by repeat (first | exact Upd.here | apply Upd.there | apply upd_app)) ?_
  refine zN (zR ?_)
  refine zM ?_
  refine zA (zN (X_ret ?_))
  exact at_ret1 rfl rfl (fun w hw => ⟨_, _, _, rfl, HLe.refl _, hw, _, hst, rfl, rfl, _, hm4.set hst, rfl⟩)
 obtain ⟨v, hv⟩ := Option.isSome_iff_exists.1 (by simpa using hc40)
 have hv2 := hm1 i k v hv
 rw [hv]
 refine X_skip (at_then (zR (zM ?_)))
 refine zA (zN (X_ret ?_))
 exact at_ret1 rfl rfl (fun w hw => ⟨_, _, _, rfl, HLe.refl _, hw, _, hv2, rfl, rfl, m1, hm1, rfl⟩)
theorem w_lsP {I : HMap} {ba bb bk bs r : Nat} {av bv : Option Addr} {n c n2 c2 : Nat} {xs ys : List Int} (hE : (LsE I 76 ba bb bk bs r av bv n c n2 c2 xs ys)) (hn : n ≤ 100000) (hn2 : n2 ≤ 100000) : ∀ (q i k : Nat) (m1 : List ((Int × Int) × Int)), xs.length + ys.length ≤ q + (i + k) → i ≤ xs.length → k ≤ ys.length → MOK xs ys m1 → RetM Tryz.prog 76 ([.int .i64 i, .int .i64 k] ++ [capP ba, capP bb, capP bk, capP bs]) I [(r, mapO encK2 eivI m1)] (fun v I' L' => ∃ A, isLC xs ys (i) (k) A ∧ v = .int .i64 A ∧ I' = I ∧ ∃ m', MOK xs ys m' ∧ L' = [(r, mapO encK2 eivI m')])
 | 0, i, k, m1, hq, hi, hk, hm => w_lsP_step hE hn hn2 i k hi hk m1 hm (fun m' h => by omega) (fun m' h => by omega) (fun m' h => by omega)
 | q + 1, i, k, m1, hq, hi, hk, hm => w_lsP_step hE hn hn2 i k hi hk m1 hm (fun m' h hm' => w_lsP hE hn hn2 q (i + 1) (k + 1) m' (by omega) (by omega) (by omega) hm') (fun m' h hm' => w_lsP hE hn hn2 q (i + 1) k m' (by omega) (by omega) (by omega) hm') (fun m' h hm' => w_lsP hE hn hn2 q i (k + 1) m' (by omega) (by omega) (by omega) hm')
end
section
open Go Go.Kn Go.Proofs
theorem elt_88 : ElT Tryz.prog 88 94 2 16 := .of (by kernel_rfl)
theorem fun_30 : Fun Tryz.prog 30 := .of Tryz.func30 (by kernel_rfl) (by kernel_rfl)
theorem szt_114 : SzT Tryz.prog 114 1 := .of (by kernel_rfl)
theorem szt_65 : SzT Tryz.prog 65 1 := .of (by kernel_rfl)
theorem zt_114 : ZeroT Tryz.prog 114 (.map none) := .of (by kernel_rfl)
theorem zt_65 : ZeroT Tryz.prog 65 .nilFunc := .of (by kernel_rfl)
theorem w_lsPA {I : HMap} {ba bb bk bs r : Nat} {av bv : Option Addr} {n c n2 c2 : Nat} {xs ys : List Int} (hE : (LsE I 76 ba bb bk bs r av bv n c n2 c2 xs ys)) (hn : n ≤ 100000) (hn2 : n2 ≤ 100000) (i k : Nat) (m1 : List ((Int × Int) × Int)) (h : i < xs.length ∧ k < ys.length) (hm : MOK xs ys m1) : RetM Tryz.prog 76 ([.int .i64 ((i : Int) + 1), .int .i64 ((k : Int) + 1)] ++ [capP ba, capP bb, capP bk, capP bs]) I [(r, mapO encK2 eivI m1)] (fun v I' L' => ∃ A, isLC xs ys (i + 1) (k + 1) A ∧ v = .int .i64 A ∧ I' = I ∧ ∃ m', MOK xs ys m' ∧ L' = [(r, mapO encK2 eivI m')]) := w_lsP hE hn hn2 (xs.length + ys.length) (i + 1) (k + 1) m1 (by omega) (by omega) (by omega) hm
theorem w_lsPB {I : HMap} {ba bb bk bs r : Nat} {av bv : Option Addr} {n c n2 c2 : Nat} {xs ys : List Int} (hE : (LsE I 76 ba bb bk bs r av bv n c n2 c2 xs ys)) (hn : n ≤ 100000) (hn2 : n2 ≤ 100000) (i k : Nat) (m1 : List ((Int × Int) × Int)) (h : i < xs.length ∧ k ≤ ys.length) (hm : MOK xs ys m1) : RetM Tryz.prog 76 ([.int .i64 ((i : Int) + 1), .int .i64 ((k : Int))] ++ [capP ba, capP bb, capP bk, capP bs]) I [(r, mapO encK2 eivI m1)] (fun v I' L' => ∃ A, isLC xs ys (i + 1) (k) A ∧ v = .int .i64 A ∧ I' = I ∧ ∃ m', MOK xs ys m' ∧ L' = [(r, mapO encK2 eivI m')]) := w_lsP hE hn hn2 (xs.length + ys.length) (i + 1) (k) m1 (by omega) (by omega) (by omega) hm
theorem w_lsPZ {I : HMap} {ba bb bk bs r : Nat} {av bv : Option Addr} {n c n2 c2 : Nat} {xs ys : List Int} (hE : (LsE I 76 ba bb bk bs r av bv n c n2 c2 xs ys)) (hn : n ≤ 100000) (hn2 : n2 ≤ 100000) (i k : Nat) (m1 : List ((Int × Int) × Int)) (h : True) (hm : MOK xs ys m1) : RetM Tryz.prog 76 ([.int .i64 (0), .int .i64 (0)] ++ [capP ba, capP bb, capP bk, capP bs]) I [(r, mapO encK2 eivI m1)] (fun v I' L' => ∃ A, isLC xs ys (0) (0) A ∧ v = .int .i64 A ∧ I' = I ∧ ∃ m', MOK xs ys m' ∧ L' = [(r, mapO encK2 eivI m')]) := w_lsP hE hn hn2 (xs.length + ys.length) (0) (0) m1 (by omega) (by omega) (by omega) hm
set_option maxHeartbeats 1600000 in
theorem w_Pair {I : HMap} {av : Option Addr} {n c : Nat} {xs : List Int} (hA : Sl I 1 encI av n c xs) {bv : Option Addr} {n2 c2 : Nat} {ys : List Int} (hB : Sl I 1 encI bv n2 c2 ys) (hnn : n ≤ 1000000) (hnn2 : n2 ≤ 1000000) : RetM Tryz.prog 43 [.slice av n c, .slice bv n2 c2] I [] (PairQ xs ys) := by
 intro g H w hw
 refine enter Tryz.func43 rfl Tryz.ntmps43 rfl hw ?_
 have hIc := HLe.refl I
 have hlA := hA.len
 subst hlA
 have hlB := hB.len
 subst hlB
 refine zR ?_
 refine XO_box rfl rfl rfl (fun b_2 => ?_)
 refine XO_box rfl rfl rfl (fun b_3 => ?_)
 refine zA ?_
 refine zA ?_
 refine zA (zN (X_seq (X_seq ?_)))
 refine X_freezeAll (fun I1 hI1 hall => ?_)
 have hA := hA.mono hI1; have hB := hB.mono hI1; have hIc := hIc.trans hI1
 have hB2 : Cell I1 [] b_2 0 (.slice av xs.length c) := .imm (hall _ _ (by repeat (first | exact List.mem_cons_self .. | apply List.mem_cons_of_mem))) rfl
 have hB3 : Cell I1 [] b_3 0 (.slice bv ys.length c2) := .imm (hall _ _ (by repeat (first | exact List.mem_cons_self .. | apply List.mem_cons_of_mem))) rfl
 refine X_region ?_
 refine zV (ev_load rfl sct_23 (fun hg => by exact hB2.any)) ?_
 refine zQ slt_23 ?_
 refine zC ?_
 refine zM ?_
 refine XO_pushF 3 rfl rfl rfl ?_
 refine zJ (ev_load rfl sct_23 (fun hg => by exact hB3.any)) ?_
 refine zJ (ev_lenS rfl slt_23) ?_
 refine zJ (ev_cmp rfl rfl rfl) ?_
 refine XO_or0 rfl rfl rfl rfl rfl ?_
 refine zN ?_
 refine zI ?_ ?_ <;> intro hc25
 ·
  have hlong : xs.length > 64 ∨ ys.length > 64 := by have h := hc25; simp at h; omega
  refine zR (zA ?_)
  refine zA ?_
  refine zA (zN (X_ret (at_then_r ?_)))
  first
  | exact at_ret3 rfl rfl rfl rfl (fun w hw => ⟨_, _, [], rfl, hIc, hw.drop, rfl, _, none, 0, by rw [pairE_1 hlong, pairR_bad (by rw [pairE_1 hlong]; decide)]; rfl, by rw [pairR_bad (by rw [pairE_1 hlong]; decide)]; exact .nil⟩)
 have hlong : ¬ (xs.length > 64 ∨ ys.length > 64) := by have h := hc25; simp at h; omega
 refine X_skip (at_then (X_seq (zR ?_)))
 refine zV (ev_load rfl sct_23 (fun hg => by exact hB2.any)) ?_
 refine zV (ev_load rfl sct_23 (fun hg => by exact hB3.any)) ?_
 refine XO_buildSlice (ps := [(0, _), (1, _)]) (m := [encH ⟨av, xs.length, c⟩, encH ⟨bv, ys.length, c2⟩]) elt_22 rfl (.cons rfl (.cons rfl (.nil))) rfl (by simp [encH_len]) (by decide) (by decide) rfl rfl (fun b_28 => ?_)
 refine zQ slt_22 ?_
 refine zM (XO_nil ?_)
 refine X_freezeAll (fun I2 hI2 hall => ?_)
 have hA := hA.mono hI2; have hB := hB.mono hI2; have hB2 := hB2.mono hI2; have hB3 := hB3.mono hI2; have hIc := hIc.trans hI2
 have hAB : Sl I2 1 encH (some ⟨b_28, 0, none⟩) 2 2 ([⟨av, xs.length, c⟩, ⟨bv, ys.length, c2⟩] : List Hd) := Sl.lit _ rfl encH_len (show _ = some (Obj.cells (([⟨av, xs.length, c⟩, ⟨bv, ys.length, c2⟩] : List Hd).flatMap encH).toArray 23 (0, 0)) from (hall _ _ (by repeat (first | exact List.mem_cons_self .. | apply List.mem_cons_of_mem))))
 refine at_then (X_block ?_)
 refine X_loopT [(2, _), (3, _), (28, _), (29, _)] (.cons rfl (.cons rfl (.cons rfl (.cons rfl .nil)))) (fun T L0 mz E I' loc' => ∃ (z : Nat), mz = 2 - z ∧ E = (5, .slice none 0 0) :: (30, .int .i64 z) :: T ∧ I2 = I' ∧ [] = loc' ∧ z ≤ 2 ∧ ([xs, ys].take z).any (fun l => l.any badC) = false) _ _ _ _ ⟨0, rfl, rfl, rfl, rfl, Nat.zero_le _, rfl⟩ (.cons rfl (.cons rfl (.cons rfl (.cons rfl (.cons rfl (.cons rfl .nil)))))) (HLe.refl _) rfl ?_
 rintro mz E I' loc' ⟨z, rfl, rfl, rfl, rfl, hz, hno⟩
 refine zR (zC (zN (X_seq ?_)))
 refine zI ?_ ?_ <;> intro hc31
 ·
  have hlt_z : z < 2 := by have h := hc31; simp at h; omega
  obtain ⟨hd, zs, hhd, hzs, hZ, hz2⟩ := two_lists hA hB hlt_z
  refine X_skip (at_then (X_seq (X_block (zR ?_))))
  refine zV (zX slt_22 hAB) ?_
  refine zV (ev_load rfl sct_23 (fun hg => by exact Sl.get0 hAB hhd rfl)) ?_
  refine zA ?_
  refine zN (zR ?_)
  refine zM ?_
  refine zQ slt_23 ?_
  refine zM (zN (X_block ?_))
  refine X_loopT [(2, _), (3, _), (28, _), (29, _), (30, _), (34, _), (35, _)] (.cons rfl (.cons rfl (.cons rfl (.cons rfl (.cons rfl (.cons rfl (.cons rfl .nil))))))) (fun T L0 mz E I' loc' => ∃ (j : Nat), mz = hd.n - j ∧ E = (5, .slice none 0 0) :: (36, .int .i64 j) :: T ∧ I2 = I' ∧ [] = loc' ∧ j ≤ hd.n ∧ (zs.take j).any badC = false) _ _ _ _ ⟨0, rfl, rfl, rfl, rfl, Nat.zero_le _, rfl⟩ (.cons rfl (.cons rfl (.cons rfl (.cons rfl (.cons rfl (.cons rfl (.cons rfl (.cons rfl (.cons rfl .nil))))))))) (HLe.refl _) rfl ?_
  rintro mz E I' loc' ⟨j, rfl, rfl, rfl, rfl, hj, hzb⟩
  refine zR (zC (zN (X_seq ?_)))
  refine zI ?_ ?_ <;> intro hc37
  ·
   have hlt_j : j < hd.n := by have h := hc37; simp at h; omega
   obtain ⟨cc, hz⟩ := hZ.at hlt_j
   refine X_skip (at_then (X_seq (X_block (zR ?_))))
   refine zV (zX slt_23 hZ) ?_
   refine zV (ev_load rfl sct_3 (fun hg => by exact Sl.get0 hZ hz rfl)) ?_
   refine zA ?_
   refine zN (zR ?_)
   refine zM ?_
   refine XO_callV0 (cap := []) (vs := [_]) rfl rfl fun_30 (w_Sign _ _) rfl rfl ?_
   refine zM ?_
   refine zE ?_
   refine zE ?_
   refine XO_alloc zt_48 rfl rfl (fun b_11 => ?_)
   refine XO_storeA rfl rfl szt_48 rfl rfl rfl rfl (by repeat (first | exact Upd.here | apply Upd.there | apply upd_app)) ?_
   refine zA ?_
   refine zN (zR ?_)
   refine zM ?_
   refine zC ?_
   refine zM ?_
   refine XO_pushT 2 rfl rfl rfl ?_
   refine zK (ev_move rfl) ?_
   refine zK (ev_cmp rfl rfl rfl) ?_
   refine XO_and0 rfl rfl rfl rfl rfl ?_
   refine zN ?_
   refine zI ?_ ?_ <;> intro hc50
   ·
    have hbc : badC cc = true := hc50
    have hyes : (xs.any badC || ys.any badC) = true := by have h := any_yes (p := fun l : List Int => l.any badC) hzs (any_yes hz hbc); simpa using h
    refine zR (zA ?_)
    refine zA ?_
    refine zA (zN (X_ret (at_block_r (at_then_r (at_then_r (at_block_r (at_block_r ?_)))))))
    refine at_then_r (at_then_r (at_block_r (at_then_r ?_)))
    first
    | exact at_ret3 rfl rfl rfl rfl (fun w hw => ⟨_, _, [], rfl, hIc, hw.drop, rfl, _, none, 0, by rw [pairE_2 hlong hyes, pairR_bad (by rw [pairE_2 hlong hyes]; decide)]; rfl, by rw [pairR_bad (by rw [pairE_2 hlong hyes]; decide)]; exact .nil⟩)
   have hbc : badC cc = false := hc50
   refine X_skip (at_block_n (at_then (X_region (zB ?_))))
   refine zM (XO_nil ?_)
   exact at_met2 _ _ ⟨hd.n - (j + 1), by omega, j + 1, rfl, rfl, rfl, rfl, by omega, any_no hz hzb hbc⟩ (.cons rfl (.cons rfl (.cons rfl (.cons rfl (.cons rfl (.cons rfl (.cons rfl (.cons rfl (.cons rfl .nil))))))))) (by repeat (first | exact .refl | exact subL_left | refine subL_app ?_ | refine .drop ?_ | refine subL_add ?_))
  have hge_j : hd.n ≤ j := by have h := hc37; simp at h; omega
  rw [take_all hZ.len hge_j] at hzb
  refine X_exit (at_then_e (at_then_e (at_block_hit (at_block_n (at_then (X_region (zB ?_)))))))
  refine zM (XO_nil ?_)
  exact at_met2 _ _ ⟨2 - (z + 1), by omega, z + 1, rfl, rfl, rfl, rfl, by omega, any_no hzs hno hzb⟩ (.cons rfl (.cons rfl (.cons rfl (.cons rfl (.cons rfl (.cons rfl .nil)))))) (by repeat (first | exact .refl | exact subL_left | refine subL_app ?_ | refine .drop ?_ | refine subL_add ?_))
 have hge_z : 2 ≤ z := by have h := hc31; simp at h; omega
 rw [List.take_of_length_le (by simpa using hge_z)] at hno
 have hno2 : (xs.any badC || ys.any badC) = false := by simpa using hno
 refine X_exit (at_then_e (at_then_e (at_block_hit (at_then (zR ?_)))))
 refine XO_makeMap rfl rfl (fun r_53 => ?_)
 refine XO_alloc zt_114 rfl rfl (fun b_13 => ?_)
 refine zS szt_114 ?_
 refine zN (zR ?_)
 refine XO_alloc zt_65 rfl rfl (fun b_14 => ?_)
 refine zN (zR ?_)
 refine zV (ev_makeFunc (us := []) (vs := [_, _, _, _]) rfl rfl) ?_
 refine zS szt_65 ?_
 refine zN (X_seq (X_seq ?_))
 refine X_freeze (b := b_14) (by repeat (first | exact Take.here | apply Take.there)) (fun I5 hI5 hb5 => ?_)
 have hA := hA.mono hI5; have hB := hB.mono hI5; have hB2 := hB2.mono hI5; have hB3 := hB3.mono hI5; have hAB := hAB.mono hI5; have hIc := hIc.trans hI5
 have hC14 : Cell I5 [] b_14 0 (.func (.func 76) #[] #[capP b_2, capP b_3, capP b_13, capP b_14]) := .imm hb5 rfl
 refine X_freeze (b := b_13) (by repeat (first | exact Take.here | apply Take.there)) (fun I6 hI6 hb6 => ?_)
 have hA := hA.mono hI6; have hB := hB.mono hI6; have hB2 := hB2.mono hI6; have hB3 := hB3.mono hI6; have hAB := hAB.mono hI6; have hC14 := hC14.mono hI6; have hIc := hIc.trans hI6
 have hC13 : Cell I6 [] b_13 0 (.map (some r_53)) := .imm hb6 rfl
 have hLE : LsE I6 76 b_2 b_3 b_13 b_14 r_53 av bv xs.length c ys.length c2 xs ys := ⟨hB2, hB3, hC13, hC14, hA, hB⟩
 refine X_region (zA ?_)
 refine zA (zN (X_block ?_))
 refine X_loopT [(2, _), (3, _), (14, _)] (.cons rfl (.cons rfl (.cons rfl .nil))) (fun T L0 mz E I' loc' => ∃ (i k : Nat) (m : List ((Int × Int) × Int)) (pre : List (Int × Int)) (v5 : Value) (q : Nat) (L : Go.Kn.Loc), mz = xs.length - i + (ys.length - k) ∧ E = (5, v5) :: (15, .int .i64 i) :: (16, .int .i64 k) :: T ∧ HLe I6 I' ∧ L ++ [(r_53, mapO encK2 eivI m)] = loc' ∧ i ≤ xs.length ∧ k ≤ ys.length ∧ MOK xs ys m ∧ PaQ xs ys pre i k ∧ OwnS 94 2 v5 q (pre.flatMap encQ) L ∧ q ≤ i + k) _ _ _ _ ⟨0, 0, [], [], _, 0, [], rfl, rfl, HLe.refl _, rfl, Nat.zero_le _, Nat.zero_le _, .nil, .start, OwnS.nil, Nat.le_refl _⟩ (.cons rfl (.cons rfl (.cons rfl (.cons rfl (.cons rfl (.cons rfl .nil)))))) (HLe.refl _) rfl ?_
 rintro mz E J7 loc' ⟨i, k, m, pre, v5, q, L, rfl, rfl, hJ, rfl, hi, hk, hm, hpq, hO, hq⟩
 have hA := hA.mono hJ; have hB := hB.mono hJ; have hB2 := hB2.mono hJ; have hB3 := hB3.mono hJ; have hAB := hAB.mono hJ; have hC14 := hC14.mono hJ; have hC13 := hC13.mono hJ; have hLE := hLE.mono hJ; have hIc := hIc.trans hJ
 have hB4 := hJ
 refine X_seq (zR (zM ?_))
 refine zV (ev_load rfl sct_23 (fun hg => by exact hB2.any)) ?_
 refine zQ slt_23 ?_
 refine zC ?_
 refine zM ?_
 refine XO_pushF 4 rfl rfl rfl ?_
 refine zJ (ev_move rfl) ?_
 refine zJ (ev_load rfl sct_23 (fun hg => by exact hB3.any)) ?_
 refine zJ (ev_lenS rfl slt_23) ?_
 refine zJ (ev_cmp rfl rfl rfl) ?_
 refine XO_or0 rfl rfl rfl rfl rfl ?_
 refine zN ?_
 refine zI ?_ ?_ <;> intro hc64
 ·
  have hor : i < xs.length ∨ k < ys.length := by have h := hc64; simp at h; omega
  refine X_skip (at_then (X_block (zR ?_)))
  refine zV (ev_load rfl sct_65 (fun hg => by exact hLE.se.any)) ?_
  refine zM ?_
  refine zM ?_
  refine XO_callM (cap := [capP b_2, capP b_3, capP b_13, capP b_14]) (vs := [_, _]) rfl rfl fun_76 (by repeat (first | exact .cons .here .nil | exact split_all | exact split_app | apply split_cons | apply split_skip)) (w_lsP hLE (by omega) (by omega) (xs.length + ys.length) i k m (by omega) hi hk hm) rfl rfl ?_
  rintro vv8 I8 L8 hI8 ⟨VV, hLV, rfl, rfl, m1, hm1, rfl⟩
  have hA := hA.mono hI8; have hB := hB.mono hI8; have hB2 := hB2.mono hI8; have hB3 := hB3.mono hI8; have hAB := hAB.mono hI8; have hC14 := hC14.mono hI8; have hC13 := hC13.mono hI8; have hLE := hLE.mono hI8; have hLE := hLE.mono hI8; have hIc := hIc.trans hI8; have hB4 := hB4.trans hI8
  have hbV := hLV.inn
  refine zA (zN (X_block (X_seq ?_)))
  obtain ⟨hd1, hd2, h5, h6⟩ | ⟨hd1, hd2, h5, h6⟩ | ⟨hd1, hd2, h5, h6⟩ := lt_three hor
  ·
   obtain ⟨x, hx⟩ := hLE.hA.at h5
   obtain ⟨y, hy⟩ := hLE.hB.at h6
   have hbn := besN_in x y
   have hD := HLe.refl I8
   refine X_noP ?_
   refine X_drawS I8 [] mixed ?_
   refine zT 0 rfl (ev_move rfl) hD ?_
   refine zT 1 rfl (ev_load rfl sct_23 (fun hg => by exact hB2.any)) hD ?_
   refine zT 2 rfl (ev_lenS rfl slt_23) hD ?_
   refine zT 3 rfl (ev_cmp rfl rfl rfl) hD ?_
   rw [hd1]
   refine zT 4 rfl (ev_move rfl) hD ?_
   refine XD_takeW 5 rfl rfl rfl (dj := 81) rfl (ev_move rfl) rfl (by kernel_rfl) (by kernel_rfl) (by kernel_rfl) noP_ok hD (by repeat (first | exact .refl | exact subL_nil | refine .keep ?_ | refine .drop ?_ | refine subL_add ?_)) ?_
   refine XD_takeW 6 rfl rfl rfl (dj := 81) rfl (ev_load rfl sct_23 (fun hg => by exact hB3.any)) rfl (by kernel_rfl) (by kernel_rfl) (by kernel_rfl) noP_ok hD (by repeat (first | exact .refl | exact subL_nil | refine .keep ?_ | refine .drop ?_ | refine subL_add ?_)) ?_
   refine XD_takeW 7 rfl rfl rfl (dj := 81) rfl (ev_lenS rfl slt_23) rfl (by kernel_rfl) (by kernel_rfl) (by kernel_rfl) noP_ok hD (by repeat (first | exact .refl | exact subL_nil | refine .keep ?_ | refine .drop ?_ | refine subL_add ?_)) ?_
   refine XD_takeW 8 rfl rfl rfl (dj := 81) rfl (ev_cmp rfl rfl rfl) rfl (by kernel_rfl) (by kernel_rfl) (by kernel_rfl) noP_ok hD (by repeat (first | exact .refl | exact subL_nil | refine .keep ?_ | refine .drop ?_ | refine subL_add ?_)) ?_
   rw [hd2]
   refine zT 9 rfl (ev_pickb rfl rfl rfl) hD ?_
   refine zT 10 rfl (ev_move rfl) hD ?_
   refine XD_takeW 11 rfl rfl rfl (dj := 87) rfl (ev_move rfl) rfl (by kernel_rfl) (by kernel_rfl) (by kernel_rfl) noP_ok hD (by repeat (first | exact .refl | exact subL_nil | refine .keep ?_ | refine .drop ?_ | refine subL_add ?_)) ?_
   refine XD_takeW 12 rfl rfl rfl (dj := 87) rfl (ev_load rfl sct_23 (fun hg => by exact hB2.any)) rfl (by kernel_rfl) (by kernel_rfl) (by kernel_rfl) noP_ok hD (by repeat (first | exact .refl | exact subL_nil | refine .keep ?_ | refine .drop ?_ | refine subL_add ?_)) ?_
   refine XD_takeW 13 rfl rfl rfl (dj := 87) rfl (ev_move rfl) rfl (by kernel_rfl) (by kernel_rfl) (by kernel_rfl) noP_ok hD (by repeat (first | exact .refl | exact subL_nil | refine .keep ?_ | refine .drop ?_ | refine subL_add ?_)) ?_
   refine XD_takeW 14 rfl rfl rfl (dj := 87) rfl (ev_indexSl rfl rfl slt_23 hLE.hA (fun hg => by omega)) rfl (by kernel_rfl) (by kernel_rfl) (by kernel_rfl) noP_ok hD (by repeat (first | exact .refl | exact subL_nil | refine .keep ?_ | refine .drop ?_ | refine subL_add ?_)) ?_
   refine XD_takeW 15 rfl rfl rfl (dj := 87) rfl (ev_load rfl sct_3 (fun hg => by exact Sl.get0 hLE.hA hx rfl)) rfl (by kernel_rfl) (by kernel_rfl) (by kernel_rfl) noP_ok hD (by repeat (first | exact .refl | exact subL_nil | refine .keep ?_ | refine .drop ?_ | refine subL_add ?_)) ?_
   refine XD_takeW 16 rfl rfl rfl (dj := 87) rfl (ev_load rfl sct_23 (fun hg => by exact hB3.any)) rfl (by kernel_rfl) (by kernel_rfl) (by kernel_rfl) noP_ok hD (by repeat (first | exact .refl | exact subL_nil | refine .keep ?_ | refine .drop ?_ | refine subL_add ?_)) ?_
   refine XD_takeW 17 rfl rfl rfl (dj := 87) rfl (ev_move rfl) rfl (by kernel_rfl) (by kernel_rfl) (by kernel_rfl) noP_ok hD (by repeat (first | exact .refl | exact subL_nil | refine .keep ?_ | refine .drop ?_ | refine subL_add ?_)) ?_
   refine XD_takeW 18 rfl rfl rfl (dj := 87) rfl (ev_indexSl rfl rfl slt_23 hLE.hB (fun hg => by omega)) rfl (by kernel_rfl) (by kernel_rfl) (by kernel_rfl) noP_ok hD (by repeat (first | exact .refl | exact subL_nil | refine .keep ?_ | refine .drop ?_ | refine subL_add ?_)) ?_
   refine XD_takeW 19 rfl rfl rfl (dj := 87) rfl (ev_load rfl sct_3 (fun hg => by exact Sl.get0 hLE.hB hy rfl)) rfl (by kernel_rfl) (by kernel_rfl) (by kernel_rfl) noP_ok hD (by repeat (first | exact .refl | exact subL_nil | refine .keep ?_ | refine .drop ?_ | refine subL_add ?_)) ?_
   refine XD_takeW 21 rfl rfl rfl (dj := 87) rfl (ev_load rfl sct_65 (fun hg => by exact hLE.se.any)) rfl (by kernel_rfl) (by kernel_rfl) (by kernel_rfl) noP_ok hD (by repeat (first | exact .refl | exact subL_nil | refine .keep ?_ | refine .drop ?_ | refine subL_add ?_)) ?_
   refine XD_takeW 22 rfl rfl rfl (dj := 87) rfl (ev_move rfl) rfl (by kernel_rfl) (by kernel_rfl) (by kernel_rfl) noP_ok hD (by repeat (first | exact .refl | exact subL_nil | refine .keep ?_ | refine .drop ?_ | refine subL_add ?_)) ?_
   refine XD_takeW 23 rfl rfl rfl (dj := 87) rfl (ev_arB rfl rfl rfl (fun hg => by omega)) rfl (by kernel_rfl) (by kernel_rfl) (by kernel_rfl) noP_ok hD (by repeat (first | exact .refl | exact subL_nil | refine .keep ?_ | refine .drop ?_ | refine subL_add ?_)) ?_
   refine XD_takeW 24 rfl rfl rfl (dj := 87) rfl (ev_move rfl) rfl (by kernel_rfl) (by kernel_rfl) (by kernel_rfl) noP_ok hD (by repeat (first | exact .refl | exact subL_nil | refine .keep ?_ | refine .drop ?_ | refine subL_add ?_)) ?_
   refine XD_takeW 25 rfl rfl rfl (dj := 87) rfl (ev_arB rfl rfl rfl (fun hg => by omega)) rfl (by kernel_rfl) (by kernel_rfl) (by kernel_rfl) noP_ok hD (by repeat (first | exact .refl | exact subL_nil | refine .keep ?_ | refine .drop ?_ | refine subL_add ?_)) ?_
   refine XD_one 20 rfl (by kernel_rfl) ?_
   refine XO_want (dj := 87) rfl rfl rfl ?_
   refine XO_callV0 (cap := []) (vs := [_, _]) rfl rfl fun_77 (w_beside _ _ _) rfl rfl ?_
   refine XO_nil ?_
   refine zD hD ?_
   refine XD_one 26 rfl (by kernel_rfl) ?_
   refine XO_want (dj := 87) rfl rfl rfl ?_
   refine XO_callM (cap := [capP b_2, capP b_3, capP b_13, capP b_14]) (vs := [_, _]) rfl rfl fun_76 (by repeat (first | exact .cons .here .nil | exact split_all | exact split_app | apply split_cons | apply split_skip)) (w_lsPA hLE (by omega) (by omega) i k m1 (by omega) hm1) rfl rfl ?_
   rintro vv9 I9 L9 hI9 ⟨VA, hLA, rfl, rfl, m2, hm2, rfl⟩
   have hA := hA.mono hI9; have hB := hB.mono hI9; have hB2 := hB2.mono hI9; have hB3 := hB3.mono hI9; have hAB := hAB.mono hI9; have hC14 := hC14.mono hI9; have hC13 := hC13.mono hI9; have hLE := hLE.mono hI9; have hLE := hLE.mono hI9; have hIc := hIc.trans hI9; have hB4 := hB4.trans hI9; have hD := hD.trans hI9
   have hbA := hLA.inn
   refine XO_nil ?_
   refine zD hD ?_
   refine XD_takeW 27 rfl rfl rfl (dj := 87) rfl (ev_arB rfl rfl rfl (fun hg => by omega)) rfl (by kernel_rfl) (by kernel_rfl) (by kernel_rfl) noP_ok hD (by repeat (first | exact .refl | exact subL_nil | refine .keep ?_ | refine .drop ?_ | refine subL_add ?_)) ?_
   refine XD_takeW 28 rfl rfl rfl (dj := 87) rfl (ev_cmp rfl rfl rfl) rfl (by kernel_rfl) (by kernel_rfl) (by kernel_rfl) noP_ok hD (by repeat (first | exact .refl | exact subL_nil | refine .keep ?_ | refine .drop ?_ | refine subL_add ?_)) ?_
   refine zT 29 rfl (ev_pickb rfl rfl rfl) hD ?_
   refine zT 30 rfl (ev_assign rfl) hD ?_
   refine XD_done (by kernel_rfl) ?_
   refine at_noP ?_
   refine at_then ?_
   refine zI ?_ ?_ <;> intro hc76
   ·
    have hbo := bothP_of (t := true) hx hy hLV hLA (by simpa using hc76)
    refine zR (zM ?_)
    refine zB ?_
    refine zM ?_
    refine zB ?_
    refine zA ?_
    refine zA (zN (X_region ?_))
    refine zM ?_
    refine zM ?_
    refine zM ?_
    refine zV (ev_buildArr (ps := [(0, _), (1, _)]) [_, _] art_94 zt_94 rfl rfl) ?_
    refine XO_buildSlice (ps := [(0, _)]) (m := [encQ ((i : Int) + 1, (k : Int) + 1)]) elt_88 rfl (.cons rfl (.nil)) rfl (by simp [encQ_len]) (by decide) (by decide) rfl rfl (fun b_115 => ?_)
    refine XO_append (v := _) (ys := [((i : Int) + 1, (k : Int) + 1)].flatMap encQ) (L := L) rfl rfl elt_88 hO (by repeat (first | exact .cons .here .nil | exact split_all | exact split_app | apply split_cons | apply split_skip)) ⟨rfl, fun _ => rfl, by repeat (first | exact Cells.here | apply Cells.there | apply Cells.app)⟩ (one_Q [((i : Int) + 1, (k : Int) + 1)]) (by omega) rfl rfl ?_
    intro v9 L9 hO9 _; rw [← List.flatMap_append] at hO9
    refine zA (XO_nil (at_block_n (at_block_n ?_)))
    exact at_met2 _ _ ⟨xs.length - (i + 1) + (ys.length - (k + 1)), by omega, i + 1, k + 1, _, _, _, _, _, rfl, rfl, hB4, rfl, by omega, by omega, hm2, hpq.both hbo, hO9, by omega⟩ (.cons rfl (.cons rfl (.cons rfl (.cons rfl (.cons rfl (.cons rfl .nil)))))) (by repeat (first | exact .refl | exact subL_left | refine subL_app ?_ | refine .drop ?_ | refine subL_add ?_))
   have hbo := bothP_of (t := false) hx hy hLV hLA (by simpa using hc76)
   refine zR (zM ?_)
   refine zV (ev_load rfl sct_23 (fun hg => by exact hB2.any)) ?_
   refine zQ slt_23 ?_
   refine zC ?_
   rw [hd1]
   refine zM ?_
   refine XO_want (dj := 122) rfl rfl rfl ?_
   refine zM ?_
   refine XO_want (dj := 122) rfl rfl rfl ?_
   refine zV (ev_load rfl sct_65 (fun hg => by exact hLE.se.any)) ?_
   refine XO_want (dj := 122) rfl rfl rfl ?_
   refine zM ?_
   refine XO_want (dj := 122) rfl rfl rfl ?_
   refine zB ?_
   refine XO_want (dj := 122) rfl rfl rfl ?_
   refine zM ?_
   refine XO_want (dj := 122) rfl rfl rfl ?_
   refine XO_callM (cap := [capP b_2, capP b_3, capP b_13, capP b_14]) (vs := [_, _]) rfl rfl fun_76 (by repeat (first | exact .cons .here .nil | exact split_all | exact split_app | apply split_cons | apply split_skip)) (w_lsPB hLE (by omega) (by omega) i k m2 (by omega) hm2) rfl rfl ?_
   rintro vv10 I10 L10 hI10 ⟨VB, hLB, rfl, rfl, m3, hm3, rfl⟩
   have hA := hA.mono hI10; have hB := hB.mono hI10; have hB2 := hB2.mono hI10; have hB3 := hB3.mono hI10; have hAB := hAB.mono hI10; have hC14 := hC14.mono hI10; have hC13 := hC13.mono hI10; have hLE := hLE.mono hI10; have hLE := hLE.mono hI10; have hIc := hIc.trans hI10; have hB4 := hB4.trans hI10
   have hbB := hLB.inn
   refine XO_want (dj := 122) rfl rfl rfl ?_
   refine zB ?_
   refine XO_want (dj := 122) rfl rfl rfl ?_
   refine zC ?_
   refine zV (ev_pickb rfl rfl rfl) ?_
   refine zA (zN ?_)
   refine zI ?_ ?_ <;> intro hc117
   ·
    have hon := oneP_of (t := true) h5 hLV hLB (by simpa using hc117)
    refine zR (zM ?_)
    refine zB ?_
    refine zA (zN (X_region ?_))
    refine zM ?_
    refine zM ?_
    refine zV (ev_buildArr (ps := [(0, _), (1, _)]) [_, _] art_94 zt_94 rfl rfl) ?_
    refine XO_buildSlice (ps := [(0, _)]) (m := [encQ ((i : Int) + 1, (0 : Int))]) elt_88 rfl (.cons rfl (.nil)) rfl (by simp [encQ_len]) (by decide) (by decide) rfl rfl (fun b_137 => ?_)
    refine XO_append (v := _) (ys := [((i : Int) + 1, (0 : Int))].flatMap encQ) (L := L) rfl rfl elt_88 hO (by repeat (first | exact .cons .here .nil | exact split_all | exact split_app | apply split_cons | apply split_skip)) ⟨rfl, fun _ => rfl, by repeat (first | exact Cells.here | apply Cells.there | apply Cells.app)⟩ (one_Q [((i : Int) + 1, (0 : Int))]) (by omega) rfl rfl ?_
    intro v9 L9 hO9 _; rw [← List.flatMap_append] at hO9
    refine zA (XO_nil (at_block_n (at_block_n ?_)))
    exact at_met2 _ _ ⟨xs.length - (i + 1) + (ys.length - (k)), by omega, i + 1, k, _, _, _, _, _, rfl, rfl, hB4, rfl, by omega, by omega, hm3, hpq.one hbo hon, hO9, by omega⟩ (.cons rfl (.cons rfl (.cons rfl (.cons rfl (.cons rfl (.cons rfl .nil)))))) (by repeat (first | exact .refl | exact subL_left | refine subL_app ?_ | refine .drop ?_ | refine subL_add ?_))
   have hon := oneP_of (t := false) h5 hLV hLB (by simpa using hc117)
   refine zR (zM ?_)
   refine zB ?_
   refine zA (zN (X_region ?_))
   refine zM ?_
   refine zM ?_
   refine zV (ev_buildArr (ps := [(0, _), (1, _)]) [_, _] art_94 zt_94 rfl rfl) ?_
   refine XO_buildSlice (ps := [(0, _)]) (m := [encQ ((0 : Int), (k : Int) + 1)]) elt_88 rfl (.cons rfl (.nil)) rfl (by simp [encQ_len]) (by decide) (by decide) rfl rfl (fun b_74 => ?_)
   refine XO_append (v := _) (ys := [((0 : Int), (k : Int) + 1)].flatMap encQ) (L := L) rfl rfl elt_88 hO (by repeat (first | exact .cons .here .nil | exact split_all | exact split_app | apply split_cons | apply split_skip)) ⟨rfl, fun _ => rfl, by repeat (first | exact Cells.here | apply Cells.there | apply Cells.app)⟩ (one_Q [((0 : Int), (k : Int) + 1)]) (by omega) rfl rfl ?_
   intro v9 L9 hO9 _; rw [← List.flatMap_append] at hO9
   refine zA (XO_nil (at_block_n (at_block_n ?_)))
   exact at_met2 _ _ ⟨xs.length - (i) + (ys.length - (k + 1)), by omega, i, k + 1, _, _, _, _, _, rfl, rfl, hB4, rfl, by omega, by omega, hm3, hpq.two h6 hbo hon, hO9, by omega⟩ (.cons rfl (.cons rfl (.cons rfl (.cons rfl (.cons rfl (.cons rfl .nil)))))) (by repeat (first | exact .refl | exact subL_left | refine subL_app ?_ | refine .drop ?_ | refine subL_add ?_))
  ·
   have hD := HLe.refl I8
   refine X_noP ?_
   refine X_drawS I8 [] mixed ?_
   refine zT 0 rfl (ev_move rfl) hD ?_
   refine zT 1 rfl (ev_load rfl sct_23 (fun hg => by exact hB2.any)) hD ?_
   refine zT 2 rfl (ev_lenS rfl slt_23) hD ?_
   refine zT 3 rfl (ev_cmp rfl rfl rfl) hD ?_
   rw [hd1]
   refine zT 4 rfl (ev_move rfl) hD ?_
   refine XD_takeW 5 rfl rfl rfl (dj := 81) rfl (ev_move rfl) rfl (by kernel_rfl) (by kernel_rfl) (by kernel_rfl) noP_ok hD (by repeat (first | exact .refl | exact subL_nil | refine .keep ?_ | refine .drop ?_ | refine subL_add ?_)) ?_
   refine XD_takeW 6 rfl rfl rfl (dj := 81) rfl (ev_load rfl sct_23 (fun hg => by exact hB3.any)) rfl (by kernel_rfl) (by kernel_rfl) (by kernel_rfl) noP_ok hD (by repeat (first | exact .refl | exact subL_nil | refine .keep ?_ | refine .drop ?_ | refine subL_add ?_)) ?_
   refine XD_takeW 7 rfl rfl rfl (dj := 81) rfl (ev_lenS rfl slt_23) rfl (by kernel_rfl) (by kernel_rfl) (by kernel_rfl) noP_ok hD (by repeat (first | exact .refl | exact subL_nil | refine .keep ?_ | refine .drop ?_ | refine subL_add ?_)) ?_
   refine XD_takeW 8 rfl rfl rfl (dj := 81) rfl (ev_cmp rfl rfl rfl) rfl (by kernel_rfl) (by kernel_rfl) (by kernel_rfl) noP_ok hD (by repeat (first | exact .refl | exact subL_nil | refine .keep ?_ | refine .drop ?_ | refine subL_add ?_)) ?_
   rw [hd2]
   refine zT 9 rfl (ev_pickb rfl rfl rfl) hD ?_
   refine zT 10 rfl (ev_move rfl) hD ?_
   refine zW 11 87 hD ?_
   refine zW 12 87 hD ?_
   refine zW 13 87 hD ?_
   refine zW 14 87 hD ?_
   refine zW 15 87 hD ?_
   refine zW 16 87 hD ?_
   refine zW 17 87 hD ?_
   refine zW 18 87 hD ?_
   refine zW 19 87 hD ?_
   refine zW 20 87 hD ?_
   refine zW 21 87 hD ?_
   refine zW 22 87 hD ?_
   refine zW 23 87 hD ?_
   refine zW 24 87 hD ?_
   refine zW 25 87 hD ?_
   refine zW 26 87 hD ?_
   refine zW 27 87 hD ?_
   refine zW 28 87 hD ?_
   refine zT 29 rfl (ev_pick rfl rfl rfl) hD ?_
   refine zT 30 rfl (ev_assign rfl) hD ?_
   refine XD_done (by kernel_rfl) ?_
   refine at_noP ?_
   refine at_then ?_
   refine zI ?_ ?_ <;> intro hc76
   ·
    cases hc76
   have hbo := bothP_no (a := xs) (b := ys) (i := i) (k := k) (.inr h6)
   refine zR (zM ?_)
   refine zV (ev_load rfl sct_23 (fun hg => by exact hB2.any)) ?_
   refine zQ slt_23 ?_
   refine zC ?_
   rw [hd1]
   refine zM ?_
   refine XO_want (dj := 122) rfl rfl rfl ?_
   refine zM ?_
   refine XO_want (dj := 122) rfl rfl rfl ?_
   refine zV (ev_load rfl sct_65 (fun hg => by exact hLE.se.any)) ?_
   refine XO_want (dj := 122) rfl rfl rfl ?_
   refine zM ?_
   refine XO_want (dj := 122) rfl rfl rfl ?_
   refine zB ?_
   refine XO_want (dj := 122) rfl rfl rfl ?_
   refine zM ?_
   refine XO_want (dj := 122) rfl rfl rfl ?_
   refine XO_callM (cap := [capP b_2, capP b_3, capP b_13, capP b_14]) (vs := [_, _]) rfl rfl fun_76 (by repeat (first | exact .cons .here .nil | exact split_all | exact split_app | apply split_cons | apply split_skip)) (w_lsPB hLE (by omega) (by omega) i k m1 (by omega) hm1) rfl rfl ?_
   rintro vv11 I11 L11 hI11 ⟨VB, hLB, rfl, rfl, m3, hm3, rfl⟩
   have hA := hA.mono hI11; have hB := hB.mono hI11; have hB2 := hB2.mono hI11; have hB3 := hB3.mono hI11; have hAB := hAB.mono hI11; have hC14 := hC14.mono hI11; have hC13 := hC13.mono hI11; have hLE := hLE.mono hI11; have hLE := hLE.mono hI11; have hIc := hIc.trans hI11; have hB4 := hB4.trans hI11
   have hbB := hLB.inn
   refine XO_want (dj := 122) rfl rfl rfl ?_
   refine zB ?_
   refine XO_want (dj := 122) rfl rfl rfl ?_
   refine zC ?_
   refine zV (ev_pickb rfl rfl rfl) ?_
   refine zA (zN ?_)
   refine zI ?_ ?_ <;> intro hc117
   ·
    have hon := oneP_of (t := true) h5 hLV hLB (by simpa using hc117)
    refine zR (zM ?_)
    refine zB ?_
    refine zA (zN (X_region ?_))
    refine zM ?_
    refine zM ?_
    refine zV (ev_buildArr (ps := [(0, _), (1, _)]) [_, _] art_94 zt_94 rfl rfl) ?_
    refine XO_buildSlice (ps := [(0, _)]) (m := [encQ ((i : Int) + 1, (0 : Int))]) elt_88 rfl (.cons rfl (.nil)) rfl (by simp [encQ_len]) (by decide) (by decide) rfl rfl (fun b_137 => ?_)
    refine XO_append (v := _) (ys := [((i : Int) + 1, (0 : Int))].flatMap encQ) (L := L) rfl rfl elt_88 hO (by repeat (first | exact .cons .here .nil | exact split_all | exact split_app | apply split_cons | apply split_skip)) ⟨rfl, fun _ => rfl, by repeat (first | exact Cells.here | apply Cells.there | apply Cells.app)⟩ (one_Q [((i : Int) + 1, (0 : Int))]) (by omega) rfl rfl ?_
    intro v9 L9 hO9 _; rw [← List.flatMap_append] at hO9
    refine zA (XO_nil (at_block_n (at_block_n ?_)))
    exact at_met2 _ _ ⟨xs.length - (i + 1) + (ys.length - (k)), by omega, i + 1, k, _, _, _, _, _, rfl, rfl, hB4, rfl, by omega, by omega, hm3, hpq.one hbo hon, hO9, by omega⟩ (.cons rfl (.cons rfl (.cons rfl (.cons rfl (.cons rfl (.cons rfl .nil)))))) (by repeat (first | exact .refl | exact subL_left | refine subL_app ?_ | refine .drop ?_ | refine subL_add ?_))
   have hon := oneP_of (t := false) h5 hLV hLB (by simpa using hc117)
   exact absurd (two_lt hi hk (.inl h5) hbo hon) (by omega)
  have hD := HLe.refl I8
  refine X_noP ?_
  refine X_drawS I8 [] mixed ?_
  refine zT 0 rfl (ev_move rfl) hD ?_
  refine zT 1 rfl (ev_load rfl sct_23 (fun hg => by exact hB2.any)) hD ?_
  refine zT 2 rfl (ev_lenS rfl slt_23) hD ?_
  refine zT 3 rfl (ev_cmp rfl rfl rfl) hD ?_
  rw [hd1]
  refine zT 4 rfl (ev_move rfl) hD ?_
  refine zW 5 81 hD ?_
  refine zW 6 81 hD ?_
  refine zW 7 81 hD ?_
  refine zW 8 81 hD ?_
  refine zT 9 rfl (ev_pick rfl rfl rfl) hD ?_
  refine zT 10 rfl (ev_move rfl) hD ?_
  refine zW 11 87 hD ?_
  refine zW 12 87 hD ?_
  refine zW 13 87 hD ?_
  refine zW 14 87 hD ?_
  refine zW 15 87 hD ?_
  refine zW 16 87 hD ?_
  refine zW 17 87 hD ?_
  refine zW 18 87 hD ?_
  refine zW 19 87 hD ?_
  refine zW 20 87 hD ?_
  refine zW 21 87 hD ?_
  refine zW 22 87 hD ?_
  refine zW 23 87 hD ?_
  refine zW 24 87 hD ?_
  refine zW 25 87 hD ?_
  refine zW 26 87 hD ?_
  refine zW 27 87 hD ?_
  refine zW 28 87 hD ?_
  refine zT 29 rfl (ev_pick rfl rfl rfl) hD ?_
  refine zT 30 rfl (ev_assign rfl) hD ?_
  refine XD_done (by kernel_rfl) ?_
  refine at_noP ?_
  refine at_then ?_
  refine zI ?_ ?_ <;> intro hc76
  ·
   cases hc76
  have hbo := bothP_no (a := xs) (b := ys) (i := i) (k := k) (.inl h5)
  refine zR (zM ?_)
  refine zV (ev_load rfl sct_23 (fun hg => by exact hB2.any)) ?_
  refine zQ slt_23 ?_
  refine zC ?_
  rw [hd1]
  refine zM ?_
  refine XO_skipW (dj := 122) rfl rfl rfl rfl rfl ?_
  refine XO_skipW (dj := 122) rfl rfl rfl rfl rfl ?_
  refine XO_skipW (dj := 122) rfl rfl rfl rfl rfl ?_
  refine XO_skipW (dj := 122) rfl rfl rfl rfl rfl ?_
  refine XO_skipW (dj := 122) rfl rfl rfl rfl rfl ?_
  refine XO_skipW (dj := 122) rfl rfl rfl rfl rfl ?_
  refine XO_skipW (dj := 122) rfl rfl rfl rfl rfl ?_
  refine XO_skipW (dj := 122) rfl rfl rfl rfl rfl ?_
  refine zV (ev_pick rfl rfl rfl) ?_
  refine zA (zN ?_)
  refine zI ?_ ?_ <;> intro hc117
  ·
   cases hc117
  have hon := oneP_no (a := xs) (b := ys) (i := i) (k := k) h5
  refine zR (zM ?_)
  refine zB ?_
  refine zA (zN (X_region ?_))
  refine zM ?_
  refine zM ?_
  refine zV (ev_buildArr (ps := [(0, _), (1, _)]) [_, _] art_94 zt_94 rfl rfl) ?_
  refine XO_buildSlice (ps := [(0, _)]) (m := [encQ ((0 : Int), (k : Int) + 1)]) elt_88 rfl (.cons rfl (.nil)) rfl (by simp [encQ_len]) (by decide) (by decide) rfl rfl (fun b_74 => ?_)
  refine XO_append (v := _) (ys := [((0 : Int), (k : Int) + 1)].flatMap encQ) (L := L) rfl rfl elt_88 hO (by repeat (first | exact .cons .here .nil | exact split_all | exact split_app | apply split_cons | apply split_skip)) ⟨rfl, fun _ => rfl, by repeat (first | exact Cells.here | apply Cells.there | apply Cells.app)⟩ (one_Q [((0 : Int), (k : Int) + 1)]) (by omega) rfl rfl ?_
  intro v9 L9 hO9 _; rw [← List.flatMap_append] at hO9
  refine zA (XO_nil (at_block_n (at_block_n ?_)))
  exact at_met2 _ _ ⟨xs.length - (i) + (ys.length - (k + 1)), by omega, i, k + 1, _, _, _, _, _, rfl, rfl, hB4, rfl, by omega, by omega, hm1, hpq.two h6 hbo hon, hO9, by omega⟩ (.cons rfl (.cons rfl (.cons rfl (.cons rfl (.cons rfl (.cons rfl .nil)))))) (by repeat (first | exact .refl | exact subL_left | refine subL_app ?_ | refine .drop ?_ | refine subL_add ?_))
 have hnor : xs.length ≤ i ∧ ys.length ≤ k := by have h := hc64; simp at h; omega
 have hfin : pairL xs ys = pre := hpq.fin hnor.1 hnor.2
 have hE0 := pairE_3 hlong hno2
 have hR0 := (pairR_ok hE0).trans hfin
 refine X_exit (at_then_e (at_then_e (at_block_hit (at_then (zR ?_)))))
 refine zV (ev_load rfl sct_65 (fun hg => by exact hLE.se.any)) ?_
 refine XO_callM (cap := [capP b_2, capP b_3, capP b_13, capP b_14]) (vs := [_, _]) rfl rfl fun_76 (by repeat (first | exact .cons .here .nil | exact split_all | exact split_app | apply split_cons | apply split_skip)) (w_lsPZ hLE (by omega) (by omega) i k m trivial hm) rfl rfl ?_
 rintro vv12 I12 L12 hI12 ⟨VZ, hLZ, rfl, rfl, m5, hm5, rfl⟩
 have hA := hA.mono hI12; have hB := hB.mono hI12; have hB2 := hB2.mono hI12; have hB3 := hB3.mono hI12; have hAB := hAB.mono hI12; have hC14 := hC14.mono hI12; have hC13 := hC13.mono hI12; have hLE := hLE.mono hI12; have hLE := hLE.mono hI12; have hIc := hIc.trans hI12; have hB4 := hB4.trans hI12
 refine zM ?_
 refine zA ?_
 refine zA ?_
 refine zA (zN (X_ret ?_))
 first
 | exact at_ret3 rfl rfl rfl rfl (fun w hw => by obtain ⟨I9, av9, c9, h1', h2', e9, h4'⟩ := OwnS.freeze (R := []) hO encQ_len (by decide) (by rw [List.append_nil]; exact hw.subL (by repeat (first | exact .refl | exact subL_left | exact subL_left (L := L) (R := []) | refine .drop ?_))); have hq9 := h4'.len; subst hq9; exact ⟨_, I9, [], rfl, hIc.trans h1', h2', rfl, _, av9, c9, by rw [hE0, hR0, e9], by rw [hR0]; exact h4'⟩)
end
section
open Go Go.Kn Go.Proofs
def aloF (a : Int) : List (Int × Int) → List (Int × Int)
 | [] => []
 | p :: ps => if p.1 > 0 then aloF p.1 ps else (a, p.2 - 1) :: aloF a ps
def aloL (ps : List (Int × Int)) : List (Int × Int) := aloF 0 ps
theorem alo_yes {a : Int} {ps : List (Int × Int)} {k : Nat} {p : Int × Int} (hp : ps[k]? = some p) (h : decide (p.1 > 0) = true) : aloF a (ps.drop k) = aloF p.1 (ps.drop (k + 1)) := by
 rw [drop_cons hp]
 show (if p.1 > 0 then aloF p.1 (ps.drop (k + 1)) else (a, p.2 - 1) :: aloF a (ps.drop (k + 1))) = _
 rw [if_pos (by simpa using h)]
theorem alo_no {a : Int} {ps : List (Int × Int)} {k : Nat} {p : Int × Int} (hp : ps[k]? = some p) (h : decide (p.1 > 0) = false) : aloF a (ps.drop k) = (a, p.2 - 1) :: aloF a (ps.drop (k + 1)) := by
 rw [drop_cons hp]
 show (if p.1 > 0 then aloF p.1 (ps.drop (k + 1)) else (a, p.2 - 1) :: aloF a (ps.drop (k + 1))) = _
 rw [if_neg (by simpa using h)]
theorem alo_end {a : Int} {ps pre : List (Int × Int)} {k : Nat} (h : aloL ps = pre ++ aloF a (ps.drop k)) (hk : ps.length ≤ k) : aloL ps = pre := by
 rw [h, List.drop_eq_nil_of_le hk]; simp [aloF]
theorem alo_pre {a : Int} {ps pre : List (Int × Int)} {k : Nat} {p : Int × Int} (h : aloL ps = pre ++ aloF a (ps.drop k)) (hp : ps[k]? = some p) (hn : decide (p.1 > 0) = false) : pre ++ [(a, p.2 - 1)] <+: aloL ps := by
 rw [h, alo_no hp hn]
 exact ⟨aloF a (ps.drop (k + 1)), by simp⟩
def en1Q (q : Int × Int) : Value := .int .i64 q.1
def en2Q (q : Int × Int) : Value := .int .i64 q.2
end
end Go.Proofs.YthcffaheamikgaaGreatDoor
section
namespace Go.Kn
open Go
def SeqL2 {α : Type} (P : Program) (f : FuncId) (cap : List Value) (I : HMap) (K : Loc) (en1 en2 : α → Value) (xs : List α) : Prop :=
 ∀ g l (J Jx : List α → HMap → HMap → Prop),
  (∀ pre x I' H', pre ++ [x] <+: xs → HLe I I' → J pre I' H' → YieldOK P g l [en1 x, en2 x] I' H' fun b I2 H2 => if b then J (pre ++ [x]) I2 H2 else Jx (pre ++ [x]) I2 H2) →
  ∀ I0 H w, HLe I I0 → J [] I0 H → St g I0 H K w → Calls P f ((.func (.yield l) #[] #[] : Value) :: cap).toArray w fun e w' => ∃ v I' H', e = .returned v ∧ HLe I0 I' ∧ St g I' H' [] w' ∧ (J xs I' H' ∨ ∃ pre, pre <+: xs ∧ Jx pre I' H')
section
variable {α : Type} {C : Cx} {Q : Exit → Act → World → Prop} {E E' : Env} {I I' : HMap} {loc loc' L R : Loc} {ops : Array Oper} {rest : List Oper} {S : GS}
variable {Jc : List α → HMap → Loc → Prop} {Jx : Code → List α → HMap → Loc → Prop} {pre : List α}
theorem X_rangeFuncD2 {P : Program} {N : Nat} {D : List Deferred} {K : Loc} {g : World} {H : HMap} {gop : Operand} {p q : Nat} {assign body : Code} {f : FuncId} {cap : List Value} {en1 en2 : α → Value} {xs : List α}
  (Jc : List α → HMap → Loc → Prop) (Jx : Code → List α → HMap → Loc → Prop) (Ja : List α → α → Env → HMap → Loc → Prop)
  (hg : evalS [] E gop = some (.func (.func f) #[] cap.toArray)) (hF : Fun P f) (hseq : SeqL2 P f cap I K en1 en2 xs) (hp : Nat.blt p N = true) (hq9 : Nat.blt q N = true) (h0 : Jc [] I loc)
  (hass : ∀ l pre x I' loc' H1, pre ++ [x] <+: xs → HLe I I' → Jc pre I' loc' → X ⟨P, some l, N, [], g, H1⟩ (Exit.then (Met ⟨P, some l, N, [], g, H1⟩ fun E2 I2 loc2 => HLe I' I2 ∧ Ja pre x E2 I2 loc2) (fun _ _ _ => False)) assign ((q, en2 x) :: (p, en1 x) :: E) I' loc')
  (hbody : ∀ l pre x E2 I2 loc2 H2, pre ++ [x] <+: xs → HLe I I2 → Ja pre x E2 I2 loc2 → X ⟨P, some l, N, [], g, H2⟩ (RoundQ g H2 (fun q0 I3 loc3 => HLe I2 I3 ∧ Jc q0 I3 loc3) (fun c q0 I3 loc3 => HLe I2 I3 ∧ Jx c q0 I3 loc3) (pre ++ [x])) body E2 I2 loc2)
  (hdone : ∀ bd I' loc', HLe I I' → Jc xs I' loc' → At ⟨P, none, N, { target := .collected bd, args := #[] } :: D, g, H⟩ Q .normal E I' (loc' ++ [(bd, .deferred (some []))]))
  (hstop : ∀ c bd pre I' loc', HLe I I' → pre <+: xs → Jx c pre I' loc' → X ⟨P, none, N, { target := .collected bd, args := #[] } :: D, g, H⟩ Q c E I' (loc' ++ [(bd, .deferred (some []))])) :
  X ⟨P, none, N, D, g, H⟩ Q (.rangeFunc gop #[p, q] assign body) E I (K ++ loc) := by
 intro a w ha hw
 refine wpIn_rangeFunc fun fn _ => ?_
 have hen := run_enterLoop_outer (P := P) (w := w) fn a.tmps #[p, q] assign body
 generalize hbd : w.heap.size = bd at hen
 let rec_ : LoopState → Option Code → Obj := fun st pd => .loop { state := st, pending := pd, fn, tmps := a.tmps, params := #[p, q], assign, body, defers := bd }
 have hw1 : St g I H ((bd + 1, rec_ .ready none) :: (bd, .deferred (some [])) :: (K ++ loc)) ((w.alloc (.deferred (some []))).alloc (rec_ .ready none)) := by
  have h1 := hw.alloc (.deferred (some []))
  have h2 := h1.alloc (rec_ .ready none)
  rw [World.size_alloc, hbd] at h2
  exact h2
 have hev := evalS_sound (S := []) ha trivial rfl hg
 refine ⟨bd + 1, [{ target := .collected bd, args := #[] }], _, { target := .fn (.func f) cap.toArray, args := #[.func (.yield (bd + 1)) #[] #[]] }, (w.alloc (.deferred (some []))).alloc (rec_ .ready none), f, ((.func (.yield (bd + 1)) #[] #[] : Value) :: cap).toArray, (w.alloc (.deferred (some []))).alloc (rec_ .ready none), hen, ?_, fun _ _ => trivial, ?_, by simp [FR], callsFR.2 ?_⟩
 ·
  have e2 : a.eval (.const (.func (.yield (bd + 1)) #[] #[])) = .func (.yield (bd + 1)) #[] #[] := rfl
  simp only [resolve, List.map_toArray, List.map_cons, List.map_nil, e2, hev, Deferred.ofValue]
  rfl
 ·
  simp only [invoke, run_callFunc hF]
  simp
 -- the caller's blocks, between two rounds
 let Lr : LoopState → Option Code → Loc → Loc := fun st pd l' => l' ++ [(bd + 1, rec_ st pd), (bd, .deferred (some []))]
 have okL : ∀ {I' H1 l' W st pd}, St g I' H1 (Lr st pd l') W → ((Lr st pd l').map (·.1)).Nodup := fun h => h.nodup
 let J : List α → HMap → HMap → Prop := fun pre I' H' => ∃ l', Jc pre I' l' ∧ HLe I I' ∧ H' = addL H (Lr .ready none l') ∧ ((Lr .ready none l').map (·.1)).Nodup ∧ ∀ b o, (b, o) ∈ Lr .ready none l' → H b = none
 let Jy : List α → HMap → HMap → Prop := fun pre I' H' => ∃ c l', Jx c pre I' l' ∧ HLe I I' ∧ H' = addL H (Lr .done (some c) l') ∧ ((Lr .done (some c) l').map (·.1)).Nodup ∧ ∀ b o, (b, o) ∈ Lr .done (some c) l' → H b = none
 have hw2 : St g I H (K ++ Lr .ready none loc) ((w.alloc (.deferred (some []))).alloc (rec_ .ready none)) := by
  have hp : (K ++ Lr .ready none loc).Perm ((bd + 1, rec_ .ready none) :: (bd, .deferred (some [])) :: (K ++ loc)) := by
   show (K ++ (loc ++ [(bd + 1, rec_ .ready none), (bd, .deferred (some []))])).Perm _
   rw [← List.append_assoc]
   exact List.perm_append_comm
  exact hw1.perm (fun q => hp.mem_iff) ((hp.map (·.1)).nodup_iff.2 hw1.nodup)
 have hw2r := hw2.rest split_app
 have hJ0 : J [] I (addL H (Lr .ready none loc)) := ⟨loc, h0, HLe.refl I, rfl, hw2r.nodup, fun b o hm => (hw2r.sepIL b o hm).2⟩
 refine (hseq g (bd + 1) J Jy ?_ I _ _ (HLe.refl I) hJ0 hw2.hideR).mono ?_
 ·
  -- a round
  intro pre x I' H' hpre hI ⟨l', hJc, _, hH, hnd, hdj⟩ lit W hW
  subst hH
  have hS1 := hW.swap hnd hdj
  have hrec : W.heap[bd + 1]? = some (rec_ .ready none) := hS1.own _ _ (by simp [Lr])
  refine ⟨fn, _, assign, body, run_yield (P := P) hrec (by simp), ?_⟩
  have hfit : Fits N [] ((q, en2 x) :: (p, en1 x) :: E) { tmps := (a.tmps.setIfInBounds p (en1 x)).setIfInBounds q (en2 x), defers := [] } := by
   have h1 := (ha.put hp (en1 x)).put hq9 (en2 x)
   exact ⟨h1.size, rfl, h1.env⟩
  have hdjK : ∀ b o, (b, o) ∈ lit → H b = none := fun b o hm => (addL_none (hW.sepIL b o hm).2).1
  refine roundIn_of_wpIn (F := Fence.wide) trivial ?_
  have htm : ((#[p, q] : Array Tmp).zip #[en1 x, en2 x]).foldl (fun tmps (t, v) => tmps.setIfInBounds t v) a.tmps = (a.tmps.setIfInBounds p (en1 x)).setIfInBounds q (en2 x) := by simp
  show Code.wpIn _ _ _ _ _ { tmps := ((#[p, q] : Array Tmp).zip #[en1 x, en2 x]).foldl (fun tmps (t, v) => tmps.setIfInBounds t v) a.tmps, defers := [] } _
  rw [htm]
  have hA := hass (bd + 1) pre x I' l' (addL (addL H lit) [(bd + 1, rec_ .ready none), (bd, .deferred (some []))]) hpre hI hJc _ W hfit hS1.hideR
  refine wpIn_mono (F := Fence.wide.inRound (bd + 1)) (n := 0) (P := P) (show assign.wpIn (Fence.wide.inRound (bd + 1)) 0 P _ _ _ from hA) ?_
  intro e a1 W1 hq
  cases e with
  | normal =>
   obtain ⟨E2, I2, loc2, ⟨hI2, hJa⟩, hf2, hs2⟩ := hq
   have hs3 : St g I2 (addL H lit) (loc2 ++ [(bd + 1, rec_ .ready none), (bd, .deferred (some []))]) W1 := St.unhide (hS1.rest split_app) hs2
   have hrec1 : W1.heap[bd + 1]? = some (rec_ .ready none) := hs3.own _ _ (by simp)
   have hs4 := hs3.putObj (o' := rec_ .busy none) (b := bd + 1) (upd_app .here)
   refine ⟨_, run_beginRound (P := P) hrec1 rfl, ?_⟩
   have hB := hbody (bd + 1) pre x E2 I2 loc2 (addL (addL H lit) [(bd + 1, rec_ .busy none), (bd, .deferred (some []))]) hpre (hI.trans hI2) hJa a1 _ hf2 hs4.hideR
   refine wpIn_mono (F := Fence.wide.inRound (bd + 1)) (n := 0) (P := P) (show body.wpIn (Fence.wide.inRound (bd + 1)) 0 P _ _ _ from hB) ?_
   have fin : ∀ (W3 : World) (I3 : HMap) (loc3 : Loc) (jump : Option Code) (st : LoopState), St g I3 (addL (addL H lit) [(bd + 1, rec_ .busy none), (bd, .deferred (some []))]) loc3 W3 →
     (st = if jump.isNone then .ready else .done) →
     ∃ W4, (Instr.endRound (bd + 1) jump).run P W3 = .ok (.bool jump.isNone) W4 ∧ St g I3 (addL H (Lr st jump loc3)) lit W4 ∧ ((Lr st jump loc3).map (·.1)).Nodup ∧ ∀ b o, (b, o) ∈ Lr st jump loc3 → H b = none := by
    intro W3 I3 loc3 jump st hs hst
    have hs5 : St g I3 (addL H lit) (loc3 ++ [(bd + 1, rec_ .busy none), (bd, .deferred (some []))]) W3 := St.unhide (hs4.rest split_app) hs
    have hrec3 : W3.heap[bd + 1]? = some (rec_ .busy none) := hs5.own _ _ (by simp)
    have hs6 := hs5.putObj (o' := rec_ st jump) (b := bd + 1) (upd_app .here)
    refine ⟨_, run_endRound (P := P) jump hrec3, ?_, hs6.nodup, fun b o hm => (addL_none (hs6.sepIL b o hm).2).1⟩
    rw [← hst]
    exact hs6.swap hW.nodup hdjK
   intro e a3 W3 hq
   cases e with
   | normal =>
    obtain ⟨I3, loc3, ⟨hI3, hJ3⟩, hs⟩ := hq
    obtain ⟨W4, h1, h2, h3, h4⟩ := fin W3 I3 loc3 none .ready hs rfl
    exact ⟨_, W4, h1, true, I3, _, rfl, hI2.trans hI3, h2, loc3, hJ3, (hI.trans hI2).trans hI3, rfl, h3, h4⟩
   | ret =>
    obtain ⟨I3, loc3, ⟨hI3, hJ3⟩, hs⟩ := hq
    obtain ⟨W4, h1, h2, h3, h4⟩ := fin W3 I3 loc3 (some .ret) .done hs rfl
    exact ⟨_, W4, h1, false, I3, _, rfl, hI2.trans hI3, h2, .ret, loc3, hJ3, (hI.trans hI2).trans hI3, rfl, h3, h4⟩
   | exit id =>
    obtain ⟨I3, loc3, ⟨hI3, hJ3⟩, hs⟩ := hq
    obtain ⟨W4, h1, h2, h3, h4⟩ := fin W3 I3 loc3 (some (.exit id)) .done hs rfl
    exact ⟨_, W4, h1, false, I3, _, rfl, hI2.trans hI3, h2, .exit id, loc3, hJ3, (hI.trans hI2).trans hI3, rfl, h3, h4⟩
   | goto t => exact hq.elim
   | panic c => exact hq.elim
   | outgrown => exact hq.elim
  | _ => exact hq.elim
 ·
  -- behind the call
  rintro e w' ⟨v, I', H', rfl, hI, hs, hJ | ⟨pre, hpre, hJ⟩⟩
  ·
   obtain ⟨l', hJc, hI1, rfl, hnd, hdj⟩ := hJ
   have hs1 := hs.swap hnd hdj
   have hrec : w'.heap[bd + 1]? = some (rec_ .ready none) := hs1.own _ _ (by simp [Lr])
   have hs2 := hs1.putObj (o' := rec_ .exhausted none) (b := bd + 1) (upd_app .here)
   refine ⟨none, _, run_endLoop (P := P) hrec (by simp), ?_⟩
   refine hdone bd I' l' hI1 hJc _ _ ⟨ha.size, by simp [ha.defers], ha.env⟩ ?_
   refine hs2.rest (L := [(bd + 1, rec_ .exhausted none)]) ?_
   have : Split (l' ++ [(bd + 1, rec_ .exhausted none), (bd, .deferred (some []))]) [(bd + 1, rec_ .exhausted none)] (l' ++ [(bd, .deferred (some []))]) := by
    refine .cons ?_ .nil
    clear hdj hnd hs2 hs1 hs hJc hrec
    induction l' with
    | nil => exact .here
    | cons q l ih => exact .there ih
   exact this
  ·
   obtain ⟨c, l', hJc, hI1, rfl, hnd, hdj⟩ := hJ
   have hs1 := hs.swap hnd hdj
   have hrec : w'.heap[bd + 1]? = some (rec_ .done (some c)) := hs1.own _ _ (by simp [Lr])
   have hs2 := hs1.putObj (o' := rec_ .exhausted (some c)) (b := bd + 1) (upd_app .here)
   refine ⟨some c, _, run_endLoop (P := P) hrec (by simp), ?_⟩
   refine hstop c bd pre I' l' hI1 hpre hJc _ _ ⟨ha.size, by simp [ha.defers], ha.env⟩ ?_
   refine hs2.rest (L := [(bd + 1, rec_ .exhausted (some c))]) ?_
   have : Split (l' ++ [(bd + 1, rec_ .exhausted (some c)), (bd, .deferred (some []))]) [(bd + 1, rec_ .exhausted (some c))] (l' ++ [(bd, .deferred (some []))]) := by
    refine .cons ?_ .nil
    clear hdj hnd hs2 hs1 hs hJc hrec
    induction l' with
    | nil => exact .here
    | cons q l ih => exact .there ih
   exact this
end
section
variable {P : Program} {r : Option Nat} {N : Nat} {g : World} {H : HMap} {Q : Exit → Act → World → Prop} {E E' : Env} {I I' : HMap} {loc loc' L R : Loc} {ms : List Nat}
theorem X_rangeFuncM2 {α : Type} {gop : Operand} {p q : Nat} {assign body : Code} {f : FuncId} {cap : List Value} {K : Loc} {en1 en2 : α → Value} {xs : List α}
  (Jc : List α → HMap → Loc → Prop) (Jx : Code → List α → HMap → Loc → Prop) (Ja : List α → α → Env → HMap → Loc → Prop)
  (hg : evalS [] E gop = some (.func (.func f) #[] cap.toArray)) (hF : Fun P f) (hseq : SeqL2 P f cap I K en1 en2 xs) (hp : Nat.blt p N = true) (hq9 : Nat.blt q N = true) (h0 : Jc [] I L)
  (hass : ∀ l pre x I' loc' H1, pre ++ [x] <+: xs → HLe I I' → Jc pre I' loc' → X ⟨P, some l, N, [], g, H1⟩ (Exit.then (Met ⟨P, some l, N, [], g, H1⟩ fun E2 I2 loc2 => HLe I' I2 ∧ Ja pre x E2 I2 loc2) (fun _ _ _ => False)) assign ((q, en2 x) :: (p, en1 x) :: E) I' loc')
  (hbody : ∀ l pre x E2 I2 loc2 H2, pre ++ [x] <+: xs → HLe I I2 → Ja pre x E2 I2 loc2 → X ⟨P, some l, N, [], g, H2⟩ (RoundQ g H2 (fun q0 I3 loc3 => HLe I2 I3 ∧ Jc q0 I3 loc3) (fun c q0 I3 loc3 => HLe I2 I3 ∧ Jx c q0 I3 loc3) (pre ++ [x])) body E2 I2 loc2)
  (hdone : ∀ bd I' loc', HLe I I' → Jc xs I' loc' → At ⟨P, none, N, mk (bd :: ms), g, H⟩ Q .normal E I' (loc' ++ MB (bd :: ms)))
  (hstop : ∀ c bd pre I' loc', HLe I I' → pre <+: xs → Jx c pre I' loc' → X ⟨P, none, N, mk (bd :: ms), g, H⟩ Q c E I' (loc' ++ MB (bd :: ms))) :
  X ⟨P, none, N, mk ms, g, H⟩ Q (.rangeFunc gop #[p, q] assign body) E I (K ++ (L ++ MB ms)) := by
 intro a w ha hw
 have back : ∀ {I' : HMap} {loc' : Loc} {bd : Nat} {w' : World}, St g I' (addL H (MB ms)) (loc' ++ [(bd, .deferred (some []))]) w' → St g I' H (loc' ++ MB (bd :: ms)) w' := fun {I' loc' bd w'} h => by
  have h1 := St.unhide ((hw.rest split_app).rest split_app) h
  refine h1.perm (fun p => ?_) ?_
  ·
   simp only [MB, List.mem_append]
   constructor
   ·
    rintro (h | h | h)
    ·
     exact .inl (.inl h)
    ·
     exact .inr h
    ·
     exact .inl (.inr h)
   ·
    rintro ((h | h) | h)
    ·
     exact .inl h
    ·
     exact .inr (.inr h)
    ·
     exact .inr (.inl h)
  ·
   have hn := h1.nodup
   have hpm : (loc' ++ MB (bd :: ms)).Perm (loc' ++ [(bd, .deferred (some []))] ++ MB ms) := by
    rw [List.append_assoc]
    exact (List.Perm.refl loc').append List.perm_append_comm
   exact (hpm.map (·.1)).nodup_iff.2 hn
 refine X_rangeFuncD2 (K := K) (P := P) (N := N) (D := mk ms) (g := g) (H := addL H (MB ms)) (Q := Q) Jc Jx Ja hg hF hseq hp hq9 h0 hass hbody ?_ ?_ a w ha (show St g I (addL H (MB ms)) (K ++ L) w from (show St g I H ((K ++ L) ++ MB ms) w by rw [List.append_assoc]; exact hw).hideR)
 ·
  intro bd I' loc' hI hJ a' w' ha' hw'
  exact hdone bd I' loc' hI hJ a' w' ha' (back hw')
 ·
  intro c bd pre I' loc' hI hpre hJ a' w' ha' hw'
  exact hstop c bd pre I' loc' hI hpre hJ a' w' ha' (back hw')
end
end Go.Kn
namespace Go.Kn
open Go
section
variable {C : Cx} {Q : Exit → Act → World → Prop} {E E' : Env} {I I' I0 : HMap} {loc loc' loc0 L R : Loc} {ops : Array Oper} {rest : List Oper} {S : GS}
theorem at_freeze {e : Exit} {b : Nat} {o : Obj} (ht : Take loc b o loc') (h : ∀ I', HLe I I' → I' b = some o → At C Q e E I' loc') : At C Q e E I loc := fun a w ha hw =>
 let ⟨h1, h2, h3⟩ := hw.freeze ht; h _ h2 h3 a w ha h1
theorem X_locEq {c : Code} (h : loc = loc') (hx : X C Q c E I loc') : X C Q c E I loc := h ▸ hx
theorem XD_four (i j k m : Nat) {oi oj ok om : Oper} {fuel : Nat} {listed : Array Bool} (hi : ops[i]? = some oi) (hj : ops[j]? = some oj) (hk : ops[k]? = some ok) (hm : ops[m]? = some om) (hr : Region.ready .any ops listed = [i, j, k, m])
  (h1 : XO C (fun e a w => match e with | .normal => St C.g I0 C.H loc0 w ∧ wpAnyS C.r C.P .any ops Q (fun w => St C.g I0 C.H loc0 w) fuel (listed.setIfInBounds i true) a w | e => Q e a w) ops [oi] S E I loc)
  (h2 : XO C (fun e a w => match e with | .normal => St C.g I0 C.H loc0 w ∧ wpAnyS C.r C.P .any ops Q (fun w => St C.g I0 C.H loc0 w) fuel (listed.setIfInBounds j true) a w | e => Q e a w) ops [oj] S E I loc)
  (h3 : XO C (fun e a w => match e with | .normal => St C.g I0 C.H loc0 w ∧ wpAnyS C.r C.P .any ops Q (fun w => St C.g I0 C.H loc0 w) fuel (listed.setIfInBounds k true) a w | e => Q e a w) ops [ok] S E I loc)
  (h4 : XO C (fun e a w => match e with | .normal => St C.g I0 C.H loc0 w ∧ wpAnyS C.r C.P .any ops Q (fun w => St C.g I0 C.H loc0 w) fuel (listed.setIfInBounds m true) a w | e => Q e a w) ops [om] S E I loc) : XD C Q ops I0 loc0 (fuel + 1) listed S E I loc := by
 intro a w ha hg hw
 refine ⟨(fun h0 => by rw [hr] at h0; cases h0), fun q hq => ?_⟩
 rw [hr] at hq
 rcases List.mem_cons.1 hq with e | hq
 ·
  subst e; exact XD_key hi ha hg hw h1
 ·
  rcases List.mem_cons.1 hq with e | hq
  ·
   subst e; exact XD_key hj ha hg hw h2
  ·
   rcases List.mem_cons.1 hq with e | hq
   ·
    subst e; exact XD_key hk ha hg hw h3
   ·
    obtain rfl := List.mem_singleton.1 hq; exact XD_key hm ha hg hw h4
end
end Go.Kn
end
namespace Go.Proofs.YthcffaheamikgaaGreatDoor
section
open Go Go.Kn Go.Proofs
theorem fun_78 : Fun Tryz.prog 78 := .of Tryz.func78 (by kernel_rfl) (by kernel_rfl)
theorem sct_88 : ScT Tryz.prog 88 := .of (by kernel_rfl)
theorem slt_88 : SlT Tryz.prog 88 94 2 := .of (by kernel_rfl)
theorem szt_94 : SzT Tryz.prog 94 2 := .of (by kernel_rfl)
theorem w_alone (I : HMap) (av : Option Addr) (n c : Nat) : RetM Tryz.prog 44 [.slice av n c] I [] (fun v I' L => L = [] ∧ ∃ b1, v = .func (.func 78) #[] [capP b1].toArray ∧ I' b1 = some (.cells #[.slice av n c] 88 (0, 0))) := by
 intro g H w hw
 refine enter Tryz.func44 rfl Tryz.ntmps44 rfl hw ?_
 have hIc := HLe.refl I
 refine zR ?_
 refine XO_box rfl rfl rfl (fun b_1 => ?_)
 refine zA (zN (X_seq ?_))
 refine X_freeze .here (fun I1 hI1 hb1 => ?_)
 have hIc := hIc.trans hI1
 have h1 := hb1
 refine X_region ?_
 refine zV (ev_makeFunc (us := []) (vs := [_]) rfl rfl) ?_
 refine zA (zN (X_ret ?_))
 exact at_ret1 rfl rfl (fun w hw => ⟨_, I1, [], rfl, hIc, hw.drop, rfl, b_1, rfl, h1⟩)
theorem w_aloit {I : HMap} {av : Option Addr} {n c : Nat} {ps : List (Int × Int)} (hS : Sl I 2 encQ av n c ps) (hn9 : n ≤ 1000000) (hps : ∀ p ∈ ps, -1000000 ≤ p.2 ∧ p.2 ≤ 1000000) {b1 : Nat} (h1 : I b1 = some (.cells #[.slice av n c] 88 (0, 0))) : SeqL2 Tryz.prog 78 [capP b1] I [] en1Q en2Q (aloL ps) := by
 intro g y J Jx hY I0 H w h0 hJ hw
 have hS := hS.mono h0
 have h1 := h0 _ _ h1
 refine enter Tryz.func78 rfl Tryz.ntmps78 rfl hw ?_
 have hSl := hS.len
 subst hSl
 refine zR (zA ?_)
 refine zN (zR ?_)
 refine zV (ev_load rfl sct_88 (fun hg => by exact Cell.imm h1 rfl)) ?_
 refine zQ slt_88 ?_
 refine zM (zN (X_block ?_))
 refine X_loopH (fun m E I' H' loc' => ∃ (k : Nat) (a : Int) (pre : List (Int × Int)), m = ps.length - k ∧ E = [(0, .func (.yield y) #[] #[]), (1, capP b1), (3, .int .i64 a), (6, .slice av ps.length c), (7, .int .i64 ps.length), (8, .int .i64 k)] ∧ loc' = [] ∧ HLe I0 I' ∧ k ≤ ps.length ∧ J pre I' H' ∧ aloL ps = pre ++ aloF a (ps.drop k)) _ _ _ ⟨0, 0, [], rfl, rfl, rfl, HLe.refl _, Nat.zero_le _, hJ, rfl⟩ (.cons rfl (.cons rfl (.cons rfl (.cons rfl (.cons rfl (.cons rfl .nil)))))) rfl ?_
 rintro m E I' H' loc' ⟨k, a, pre, rfl, rfl, rfl, hI1, hk, hJk, hal⟩
 have hS := hS.mono hI1
 have h1 := hI1 _ _ h1
 have hI0 := h0.trans hI1
 refine zR (zC (zN (X_seq ?_)))
 refine zI ?_ ?_ <;> intro hc9
 ·
  have hlt : k < ps.length := by have h := hc9; simp at h; omega
  obtain ⟨p, hp⟩ := hS.at hlt
  refine X_skip (at_then (X_seq (X_block (zR ?_))))
  refine zV (zX slt_88 hS) ?_
  refine zV (ev_loadA rfl agt_94 (fun hg => by exact Sl.getA hS hp) rfl) ?_
  refine XO_alloc zt_94 rfl rfl (fun b_5 => ?_)
  refine XO_storeA rfl rfl szt_94 rfl rfl rfl rfl (by repeat (first | exact Upd.here | apply Upd.there | apply upd_app)) ?_
  refine zN (zR ?_)
  refine zV (ev_indexArr rfl rfl art_94 (fun hg => by decide)) ?_
  refine zV (ev_load rfl sct_3 (fun hg => by exact Cell.h0 rfl)) ?_
  refine zC (zN ?_)
  refine zI ?_ ?_ <;> intro hc14
  ·
   refine X_region ?_
   refine zV (ev_indexArr rfl rfl art_94 (fun hg => by decide)) ?_
   refine zV (ev_load rfl sct_3 (fun hg => by exact Cell.h0 rfl)) ?_
   refine zA (XO_nil (at_block_n (at_then (X_region ?_))))
   refine zV (ev_arB rfl rfl rfl (fun _ => by omega)) ?_
   refine zM (XO_nil ?_)
   exact at_metH2 rfl rfl rfl _ [] ⟨ps.length - (k + 1), by omega, k + 1, p.1, pre, rfl, rfl, rfl, hI1, by omega, hJk, by rw [hal, alo_yes hp hc14]⟩ (.cons rfl (.cons rfl (.cons rfl (.cons rfl (.cons rfl (.cons rfl .nil)))))) (.drop .refl)
  have hpre2 := alo_pre hal hp hc14
  refine zR (zM ?_)
  refine zM ?_
  refine zV (ev_indexArr rfl rfl art_94 (fun hg => by decide)) ?_
  refine zV (ev_load rfl sct_3 (fun hg => by exact Cell.h0 rfl)) ?_
  refine zV (ev_arB rfl rfl rfl (fun _ => by (have hp9 := hps p (List.mem_of_getElem? hp); omega))) ?_
  refine XO_yield0 (vs := [_, _]) (Post := fun b I2 H2 => if b then J (pre ++ [(a, p.2 - 1)]) I2 H2 else Jx (pre ++ [(a, p.2 - 1)]) I2 H2) rfl rfl rfl rfl (hY pre (a, p.2 - 1) _ _ hpre2 hI0 hJk) ?_
  rintro t I2 H2 hI2 hP2
  refine zO (zN ?_)
  refine zI ?_ ?_ <;> intro hc23
  ·
   have ht : t = false := by simpa using hc23
   subst ht
   have hJ2 : Jx (pre ++ [(a, p.2 - 1)]) I2 H2 := hP2
   refine X_ret (at_block_r (at_then_r (at_then_r (at_block_r ?_))))
   exact at_ret0 rfl (fun w hw => ⟨_, I2, H2, rfl, hI1.trans hI2, hw.drop, .inr ⟨_, hpre2, hJ2⟩⟩)
  have ht : t = true := by simpa using hc23
  subst ht
  have hJ2 : J (pre ++ [(a, p.2 - 1)]) I2 H2 := hP2
  refine X_skip (at_block_n (at_then (X_region ?_)))
  refine zV (ev_arB rfl rfl rfl (fun _ => by omega)) ?_
  refine zM (XO_nil ?_)
  first
  | exact at_metH2 rfl rfl rfl _ [] ⟨ps.length - (k + 1), by omega, k + 1, a, pre ++ [(a, p.2 - 1)], rfl, rfl, rfl, hI1.trans hI2, by omega, hJ2, by rw [hal, alo_no hp hc14, List.append_assoc]; rfl⟩ (.cons rfl (.cons rfl (.cons rfl (.cons rfl (.cons rfl (.cons rfl .nil)))))) (.drop .refl)
 have hge : ps.length ≤ k := by have h := hc9; simp at h; omega
 refine X_exit (at_then_e (at_then_e (at_block_hit ?_)))
 first
 | exact at_norm (at_ret0 rfl (fun w hw => ⟨_, I', H', rfl, hI1, hw, .inl (by rw [alo_end hal hge]; exact hJk)⟩))
end
section
open Go Go.Kn Go.Proofs
/-! ### Lists as functions -/
def rngL (n : Nat) (f : Nat → Int) : List Int := (List.range n).map f
def updF {β : Type} (f : Nat → β) (a : Nat) (v : β) : Nat → β := fun j => if j = a then v else f j
def natF (f : Nat → Nat) : Nat → Int := fun j => ((f j : Nat) : Int)
theorem rngL_len {n : Nat} {f : Nat → Int} : (rngL n f).length = n := by unfold rngL; simp
theorem rngL_at {n a : Nat} {f : Nat → Int} (h : a < n) : (rngL n f)[a]? = some (f a) := by unfold rngL; simp [h]
theorem updF_same {β : Type} {f : Nat → β} {a : Nat} {v : β} : updF f a v a = v := if_pos rfl
theorem updF_ne {β : Type} {f : Nat → β} {a j : Nat} {v : β} (h : j ≠ a) : updF f a v j = f j := if_neg h
theorem rngL_set {n a : Nat} {f : Nat → Int} {v : Int} : (rngL n f).set a v = rngL n (updF f a v) := by
 apply List.ext_getElem?
 intro j
 rw [List.getElem?_set]
 by_cases hj : j < n
 ·
  rw [rngL_at hj, rngL_at hj, rngL_len]
  by_cases h : a = j
  ·
   subst h; rw [updF_same]; simp [hj]
  ·
   rw [if_neg h, updF_ne (Ne.symm h)]
 ·
  rw [List.getElem?_eq_none (l := rngL n (updF f a v)) (by rw [rngL_len]; omega), rngL_len]
  by_cases h : a = j
  ·
   subst h; simp [hj]
  ·
   rw [if_neg h, List.getElem?_eq_none (by rw [rngL_len]; omega)]
theorem rngL_zero {n : Nat} : List.replicate n (0 : Int) = rngL n (fun _ => 0) := by
 apply List.ext_getElem?
 intro j
 unfold rngL
 by_cases h : j < n <;> simp [h]
theorem nat_upd {f : Nat → Nat} {a v : Nat} : updF (natF f) a (v : Int) = natF (updF f a v) := by
 funext j
 by_cases h : j = a
 ·
  subst h; rw [updF_same]; unfold natF; rw [updF_same]
 ·
  rw [updF_ne h]; unfold natF; rw [updF_ne h]
theorem nat_zero : (fun _ => 0 : Nat → Int) = natF (fun _ => 0) := by funext j; rfl
theorem maxI_nat {a b : Nat} : maxI (a : Int) (b : Int) = ((max a b : Nat) : Int) := by unfold maxI; split <;> omega
/-! ### Counts -/
def cnt (pre : List (Int × Int)) : Nat → Nat := pre.foldl (fun c q => updF c q.1.toNat (c q.1.toNat + 1)) (fun _ => 0)
theorem cnt_snoc {pre : List (Int × Int)} {q : Int × Int} : cnt (pre ++ [q]) = updF (cnt pre) q.1.toNat (cnt pre q.1.toNat + 1) := by unfold cnt; rw [List.foldl_append]; rfl
theorem cnt_one {pre : List (Int × Int)} {q : Int × Int} {a : Nat} (h : q.1.toNat = a) : cnt (pre ++ [q]) a = cnt pre a + 1 := by rw [cnt_snoc, h]; unfold updF; rw [if_pos rfl]
theorem cnt_le {pre : List (Int × Int)} {q : Int × Int} {a : Nat} : cnt pre a ≤ cnt (pre ++ [q]) a := by
 rw [cnt_snoc]; unfold updF; split
 ·
  rename_i h; subst h; omega
 ·
  exact Nat.le_refl _
theorem cnt_app (pre : List (Int × Int)) (a : Nat) : ∀ (r : Nat) (qs : List (Int × Int)), qs.length ≤ r → cnt pre a ≤ cnt (pre ++ qs) a := by
 intro r qs _
 induction qs generalizing pre with
 | nil => simp
 | cons q qs ih =>
  have h1 := ih (pre ++ [q]) (by simp at *; omega)
  rw [List.append_assoc] at h1
  exact Nat.le_trans cnt_le h1
theorem cnt_pre {pre xs : List (Int × Int)} {a : Nat} (h : pre <+: xs) : cnt pre a ≤ cnt xs a := by
 obtain ⟨qs, rfl⟩ := h; exact cnt_app pre a qs.length qs (Nat.le_refl _)
theorem cnt_foldl (qs : List (Int × Int)) : ∀ (c : Nat → Nat) (a : Nat), (qs.foldl (fun c q => updF c q.1.toNat (c q.1.toNat + 1)) c) a ≤ c a + qs.length := by
 induction qs with
 | nil => intro c a; simp
 | cons q qs ih =>
  intro c a
  rw [List.foldl_cons]
  have h := ih (updF c q.1.toNat (c q.1.toNat + 1)) a
  have h2 : updF c q.1.toNat (c q.1.toNat + 1) a ≤ c a + 1 := by unfold updF; split <;> (try (rename_i e; subst e)) <;> omega
  rw [List.length_cons]; omega
theorem cnt_len {pre : List (Int × Int)} {a : Nat} : cnt pre a ≤ pre.length := by
 have h := cnt_foldl pre (fun _ => 0) a
 unfold cnt; omega
/-! ### How wide the places are -/
def wmx (w : Nat → Nat) (pre : List (Int × Int)) : Nat → Nat := fun a => max (w a) (cnt pre a)
def wdF (al : Nat → List (Int × Int)) : Nat → Nat → Nat
 | 0 => fun _ => 0
 | i + 1 => wmx (wdF al i) (al i)
theorem wmx_nil {w : Nat → Nat} : wmx w [] = w := by funext a; unfold wmx; show max (w a) 0 = w a; omega
theorem wmx_snoc {w : Nat → Nat} {pre : List (Int × Int)} {q : Int × Int} {a : Nat} (h : q.1.toNat = a) : updF (wmx w pre) a (max (wmx w pre a) (cnt (pre ++ [q]) a)) = wmx w (pre ++ [q]) := by
 funext j
 unfold updF
 split
 ·
  rename_i e; subst e
  rw [cnt_one h]
  show max (max (w j) (cnt pre j)) (cnt pre j + 1) = max (w j) (cnt (pre ++ [q]) j)
  rw [cnt_one h]; omega
 ·
  rename_i e
  show max (w j) (cnt pre j) = max (w j) (cnt (pre ++ [q]) j)
  rw [cnt_snoc, h]; unfold updF; rw [if_neg e]
theorem wdF_one {al : Nat → List (Int × Int)} (h : al 0 = []) : wdF al 1 = fun _ => 0 := by
 show wmx (wdF al 0) (al 0) = _
 rw [h, wmx_nil]; rfl
theorem wdF_le {al : Nat → List (Int × Int)} {B : Nat} (h : ∀ j, (al j).length ≤ B) : ∀ (i a : Nat), wdF al i a ≤ B
 | 0, a => Nat.zero_le _
 | i + 1, a => by
  show max (wdF al i a) (cnt (al i) a) ≤ B
  have h1 := wdF_le h i a
  have h2 := @cnt_len (al i) a
  have h3 := h i
  omega
theorem wdF_ge {al : Nat → List (Int × Int)} {j : Nat} : ∀ {i a : Nat}, j < i → cnt (al j) a ≤ wdF al i a
 | 0, _, h => by omega
 | i + 1, a, h => by
  show _ ≤ max (wdF al i a) (cnt (al i) a)
  by_cases e : j = i
  ·
   subst e; omega
  ·
   have := wdF_ge (al := al) (a := a) (show j < i by omega); omega
/-! ### Where the places begin -/
def sumF (w : Nat → Nat) : Nat → Nat
 | 0 => 0
 | k + 1 => sumF w k + (w k + 1)
theorem sumF_le {w : Nat → Nat} {B : Nat} (h : ∀ a, w a ≤ B) : ∀ k, sumF w k ≤ k * (B + 1)
 | 0 => Nat.zero_le _
 | k + 1 => by
  have h1 := sumF_le h k
  have h2 := h k
  show sumF w k + (w k + 1) ≤ _
  rw [Nat.add_mul]; omega
theorem sumF_lt {w : Nat → Nat} {k : Nat} : ∀ {j : Nat}, k < j → sumF w k + w k + 1 ≤ sumF w j
 | 0, h => by omega
 | j + 1, h => by
  show _ ≤ sumF w j + (w j + 1)
  by_cases e : k = j
  ·
   subst e; omega
  ·
   have := sumF_lt (w := w) (show k < j by omega); omega
theorem sumF_ge {w : Nat → Nat} : ∀ k, k ≤ sumF w k
 | 0 => Nat.le_refl _
 | k + 1 => by have := sumF_ge (w := w) k; show k + 1 ≤ sumF w k + (w k + 1); omega
def atK (w : Nat → Nat) (k : Nat) : Nat → Nat := fun j => if j < k then sumF w j else 0
theorem atK_zero {w : Nat → Nat} : atK w 0 = fun _ => 0 := by funext j; unfold atK; simp
theorem atK_next {w : Nat → Nat} {k : Nat} : updF (atK w k) k (sumF w k) = atK w (k + 1) := by
 funext j
 unfold updF atK
 by_cases e : j = k
 ·
  subst e; rw [if_pos rfl, if_pos (by omega)]
 ·
  rw [if_neg e]
  by_cases h : j < k
  ·
   rw [if_pos h, if_pos (by omega)]
  ·
   rw [if_neg h, if_neg (by omega)]
theorem atK_all {w : Nat → Nat} {n : Nat} : rngL n (natF (atK w n)) = rngL n (natF (sumF w)) := by
 unfold rngL
 refine List.map_congr_left fun j hj => ?_
 unfold natF atK
 rw [if_pos (List.mem_range.1 hj)]
/-! ### Rows -/
def txF (w : Nat → Nat) (T : List Int) : Nat → Nat → Int
 | 0 => fun _ => 0
 | k + 1 => updF (txF w T k) (sumF w k + w k) (T.getD k 0)
def prF (w : Nat → Nat) (l : List Int) (f : Nat → Int) (y : Int × Int) : Nat → Int :=
 if (decide (y.1 > 0) && decide (y.2 > 0)) = true then updF f (sumF w (y.1 - 1).toNat + w (y.1 - 1).toNat) (l.getD (y.2 - 1).toNat 0) else f
def alS (w : Nat → Nat) (l : List Int) (s : (Nat → Int) × (Nat → Nat)) (q : Int × Int) : (Nat → Int) × (Nat → Nat) :=
 (updF s.1 (sumF w q.1.toNat + s.2 q.1.toNat) (l.getD q.2.toNat 0), updF s.2 q.1.toNat (s.2 q.1.toNat + 1))
def alP (w : Nat → Nat) (l : List Int) (f : Nat → Int) (pre : List (Int × Int)) : (Nat → Int) × (Nat → Nat) := pre.foldl (alS w l) (f, fun _ => 0)
theorem alP_cnt {w : Nat → Nat} {l : List Int} {f : Nat → Int} {pre : List (Int × Int)} : (alP w l f pre).2 = cnt pre := by
 have key : ∀ (f : Nat → Int) (c : Nat → Nat), (pre.foldl (alS w l) (f, c)).2 = pre.foldl (fun c q => updF c q.1.toNat (c q.1.toNat + 1)) c := by
  induction pre with
  | nil => intro f c; rfl
  | cons q pre ih => intro f c; rw [List.foldl_cons, List.foldl_cons]; exact ih _ _
 exact key f _
theorem alP_snoc {w : Nat → Nat} {l : List Int} {f : Nat → Int} {pre : List (Int × Int)} {q : Int × Int} : (alP w l f (pre ++ [q])).1 = updF (alP w l f pre).1 (sumF w q.1.toNat + cnt pre q.1.toNat) (l.getD q.2.toNat 0) := by
 rw [← alP_cnt (w := w) (l := l) (f := f)]
 unfold alP
 rw [List.foldl_append]; rfl
def rowF (w : Nat → Nat) (T l : List Int) (i : Nat) (ps : List (Int × Int)) : Nat → Int :=
 (alP w l (ps.foldl (prF w l) (if i = 0 then txF w T T.length else fun _ => 0)) (aloL ps)).1
theorem prF_next {w : Nat → Nat} {l : List Int} {f : Nat → Int} {ps : List (Int × Int)} {k : Nat} {y : Int × Int} (hy : ps[k]? = some y) : (ps.take (k + 1)).foldl (prF w l) f = prF w l ((ps.take k).foldl (prF w l) f) y := by
 rw [List.take_add_one, hy, List.foldl_append]; rfl
/-! ### A table -/
def codesW (x : Wr) : List Int := x.rs.map codeR
def csW (xs : List Wr) (i : Nat) : List Int := ((xs[i]?).map codesW).getD []
def pfW (xs : List Wr) (i : Nat) : List (Int × Int) := if i = 0 then [] else pairR (csW xs 0) (csW xs i)
def alW (xs : List Wr) (i : Nat) : List (Int × Int) := aloL (pfW xs i)
def wdW (xs : List Wr) : Nat → Nat := wdF (alW xs) xs.length
def loW (xs : List Wr) : Nat := sumF (wdW xs) ((csW xs 0).length + 1) - 1
def rowW (xs : List Wr) (i : Nat) : List Int := rngL (loW xs) (rowF (wdW xs) (csW xs 0) (csW xs i) i (pfW xs i))
def tabE (xs : List Wr) : Int := if (chkW xs != 0 || xs.length == 0) = true then chkW xs else if loW xs > 256 then 2 else 0
def tabR (xs : List Wr) : List (List Int) := if (chkW xs != 0 || xs.length == 0) = true ∨ loW xs > 256 then [] else (List.range xs.length).map (rowW xs)
theorem tab_1 {xs : List Wr} (h : (chkW xs != 0 || xs.length == 0) = true) : tabE xs = chkW xs ∧ tabR xs = [] := by unfold tabE tabR; rw [if_pos h, if_pos (.inl h)]; exact ⟨rfl, rfl⟩
theorem tab_2 {xs : List Wr} (h : (chkW xs != 0 || xs.length == 0) = false) (h2 : loW xs > 256) : tabE xs = 2 ∧ tabR xs = [] := by unfold tabE tabR; rw [if_neg (by rw [h]; decide), if_pos h2, if_pos (.inr h2)]; exact ⟨rfl, rfl⟩
theorem tab_3 {xs : List Wr} (h : (chkW xs != 0 || xs.length == 0) = false) (h2 : ¬ loW xs > 256) : tabE xs = 0 ∧ tabR xs = (List.range xs.length).map (rowW xs) := by unfold tabE tabR; rw [if_neg (by rw [h]; decide), if_neg h2, if_neg (by rw [h]; simp; omega)]; exact ⟨rfl, rfl⟩
theorem csW_at {xs : List Wr} {i : Nat} {x : Wr} (h : xs[i]? = some x) : csW xs i = x.rs.map codeR := by unfold csW; rw [h]; rfl
theorem alW_zero {xs : List Wr} : alW xs 0 = [] := rfl
/-! ### What lies in alignments -/
def QOK (m n : Nat) (p : Int × Int) : Prop := ∃ i k : Nat, p = ((i : Int), (k : Int)) ∧ i ≤ m ∧ k ≤ n ∧ (0 < i ∨ 0 < k)
theorem pa_ok {a b : List Int} : ∀ (f i k : Nat), i ≤ a.length → k ≤ b.length → (∀ p ∈ paF a b f i k, QOK a.length b.length p) ∧ (paF a b f i k).length ≤ f
 | 0, _, _, _, _ => ⟨(fun p hp => by cases hp), Nat.le_refl _⟩
 | f + 1, i, k, hi, hk => by
  unfold paF
  split
  ·
   rename_i hg
   split
   ·
    rename_i hb
    have h1 : i < a.length ∧ k < b.length := by unfold bothP at hb; simp at hb; omega
    have ih := pa_ok f (i + 1) (k + 1) h1.1 h1.2
    refine ⟨fun p hp => ?_, by rw [List.length_cons]; omega⟩
    rcases List.mem_cons.1 hp with rfl | hp
    ·
     exact ⟨i + 1, k + 1, rfl, h1.1, h1.2, by omega⟩
    ·
     exact ih.1 p hp
   ·
    rename_i hb
    split
    ·
     rename_i ho
     have h1 : i < a.length := by unfold oneP at ho; simp at ho; omega
     have ih := pa_ok f (i + 1) k h1 hk
     refine ⟨fun p hp => ?_, by rw [List.length_cons]; omega⟩
     rcases List.mem_cons.1 hp with rfl | hp
     ·
      exact ⟨i + 1, 0, rfl, h1, Nat.zero_le _, by omega⟩
     ·
      exact ih.1 p hp
    ·
     rename_i ho
     have h1 : k < b.length := two_lt hi hk (by simp at hg; omega) (by simpa using hb) (by simpa using ho)
     have ih := pa_ok f i (k + 1) hi h1
     refine ⟨fun p hp => ?_, by rw [List.length_cons]; omega⟩
     rcases List.mem_cons.1 hp with rfl | hp
     ·
      exact ⟨0, k + 1, rfl, Nat.zero_le _, h1, by omega⟩
     ·
      exact ih.1 p hp
  ·
   exact ⟨(fun p hp => by cases hp), Nat.zero_le _⟩
theorem pairR_okQ {a b : List Int} : (∀ p ∈ pairR a b, QOK a.length b.length p) ∧ (pairR a b).length ≤ a.length + b.length := by
 unfold pairR
 split
 ·
  exact ⟨(fun p hp => by cases hp), Nat.zero_le _⟩
 ·
  exact pa_ok _ 0 0 (Nat.zero_le _) (Nat.zero_le _)
theorem alo_ok {m n : Nat} : ∀ (ps : List (Int × Int)) (a : Nat), a ≤ m → (∀ p ∈ ps, QOK m n p) → (∀ q ∈ aloF (a : Int) ps, ∃ c r : Nat, q = ((c : Int), (r : Int)) ∧ c ≤ m ∧ r < n) ∧ (aloF (a : Int) ps).length ≤ ps.length
 | [], _, _, _ => ⟨(fun q hq => by cases hq), Nat.le_refl _⟩
 | p :: ps, a, ha, h => by
  obtain ⟨i, k, rfl, hi, hk, h0⟩ := h p (List.mem_cons_self ..)
  unfold aloF
  split
  ·
   have ih := alo_ok ps i hi fun p hp => h p (List.mem_cons_of_mem _ hp)
   exact ⟨ih.1, Nat.le_succ_of_le ih.2⟩
  ·
   rename_i hn
   have hi0 : i = 0 := by simp at hn; omega
   have ih := alo_ok ps a ha fun p hp => h p (List.mem_cons_of_mem _ hp)
   refine ⟨fun q hq => ?_, by rw [List.length_cons, List.length_cons]; omega⟩
   rcases List.mem_cons.1 hq with rfl | hq
   ·
    exact ⟨a, k - 1, by simp; omega, ha, by omega⟩
   ·
    exact ih.1 q hq
theorem pfW_ok {xs : List Wr} {i : Nat} : (∀ p ∈ pfW xs i, QOK (csW xs 0).length (csW xs i).length p) ∧ (pfW xs i).length ≤ (csW xs 0).length + (csW xs i).length := by
 unfold pfW
 split
 ·
  exact ⟨(fun p hp => by cases hp), Nat.zero_le _⟩
 ·
  exact pairR_okQ
theorem alW_ok {xs : List Wr} {i : Nat} : (∀ q ∈ alW xs i, ∃ c r : Nat, q = ((c : Int), (r : Int)) ∧ c ≤ (csW xs 0).length ∧ r < (csW xs i).length) ∧ (alW xs i).length ≤ (csW xs 0).length + (csW xs i).length := by
 have h := alo_ok (pfW xs i) 0 (Nat.zero_le _) (pfW_ok (xs := xs) (i := i)).1
 exact ⟨h.1, Nat.le_trans h.2 pfW_ok.2⟩
theorem csW_len {xs : List Wr} {i B : Nat} (h : ∀ x ∈ xs, x.rs.length ≤ B) : (csW xs i).length ≤ B := by
 unfold csW
 cases hx : xs[i]? with
 | none => exact Nat.zero_le _
 | some x =>
  have := h x (List.mem_of_getElem? hx)
  show (x.rs.map codeR).length ≤ B
  rw [List.length_map]; exact this
def PrQ (I : HMap) (xs : List Wr) (hs : List Hd) (i : Nat) : Prop := ∀ j, j < i → ∃ h, hs[j]? = some h ∧ h.n = (pfW xs j).length ∧ Sl I 2 encQ h.a h.n h.c (pfW xs j)
theorem PrQ.mono {I I' : HMap} {xs : List Wr} {hs : List Hd} {i : Nat} (h : PrQ I xs hs i) (hI : HLe I I') : PrQ I' xs hs i := fun j hj => by
 obtain ⟨x, h1, h2, h3⟩ := h j hj; exact ⟨x, h1, h2, h3.mono hI⟩
theorem PrQ.start {I : HMap} {xs : List Wr} {n : Nat} (hn : 0 < n) : PrQ I xs (List.replicate n ⟨none, 0, 0⟩) 1 := fun j hj => by
 obtain rfl : j = 0 := by omega
 exact ⟨_, by simp [hn]; rfl, rfl, .nil⟩
theorem PrQ.put {I : HMap} {xs : List Wr} {hs : List Hd} {i : Nat} {a : Option Addr} {n c : Nat} (h : PrQ I xs hs i) (hi : 0 < i) (hil : i < hs.length) (hS : Sl I 2 encQ a n c (pairR (csW xs 0) (csW xs i))) : PrQ I xs (hs.set i ⟨a, n, c⟩) (i + 1) := fun j hj => by
 have hp : pfW xs i = pairR (csW xs 0) (csW xs i) := by unfold pfW; rw [if_neg (by omega)]
 by_cases e : j = i
 ·
  subst e
  exact ⟨⟨a, n, c⟩, by rw [List.getElem?_set_self hil], by rw [hp]; exact hS.len.symm, by rw [hp]; exact hS⟩
 ·
  obtain ⟨x, h1, h2, h3⟩ := h j (by omega)
  exact ⟨x, by rw [List.getElem?_set_ne (Ne.symm e)]; exact h1, h2, h3⟩
end
section
open Go Go.Kn Go.Proofs
theorem cellsI_setN (row : List Int) (m : Nat) (b : Int) : (cellsI row).setIfInBounds (m * 1) (.int .i64 b) = cellsI (row.set m b) := by
 unfold cellsI
 rw [cellsI_eq, cellsI_eq, Nat.mul_one, List.setIfInBounds_toArray, List.map_set]
theorem bltN {row : List Int} {m : Nat} (h : m < row.length) : Nat.blt (m * 1) (cellsI row).size = true := by
 unfold cellsI
 rw [cellsI_eq, Nat.mul_one]
 simpa [Nat.blt_eq] using h
theorem cellH_at {I : HMap} {b t k : Nat} {hs : List Hd} {h : Hd} {l : Go.Kn.Loc} (e : hs[k]? = some h) : Cell I ((b, .cells (cellsH hs) t (0, 0)) :: l) b (k * 1) (.slice h.a h.n h.c) := by
 refine .here ?_
 rw [lget_eq]
 unfold cellsH
 rw [flat_H1, Nat.mul_one]
 simp [e]
theorem chkW_ok {xs : List Wr} (h : (chkW xs != 0 || xs.length == 0) = false) : chkW xs = 0 ∧ 0 < xs.length ∧ xs.length ≤ 24 ∧ ∀ x ∈ xs, x.rs.length ≤ 64 := by
 have h1 : chkW xs = 0 ∧ ¬ xs.length = 0 := by simpa using h
 obtain ⟨h1, h2⟩ := h1
 unfold chkW at h1
 split at h1
 ·
  cases h1
 ·
  rename_i h3
  split at h1
  ·
   cases h1
  ·
   rename_i h4
   refine ⟨by unfold chkW; rw [if_neg h3, if_neg h4]; exact h1, by omega, by omega, fun x hx => ?_⟩
   have h5 : xs.any (fun x => decide (x.rs.length > 64)) = false := by simpa using h4
   have := List.any_eq_false.1 h5 x hx
   simp at this; omega
theorem alW_in {xs : List Wr} {i : Nat} {q : Int × Int} {pre : List (Int × Int)} (h : pre ++ [q] <+: alW xs i) : 0 ≤ q.1 ∧ q.1.toNat < (csW xs 0).length + 1 ∧ 0 ≤ q.2 ∧ q.2.toNat < (csW xs i).length ∧ cnt pre q.1.toNat < cnt (alW xs i) q.1.toNat := by
 obtain ⟨c, r, rfl, h1, h2⟩ := alW_ok.1 q (h.subset (by simp))
 have h3 := cnt_pre (a := ((c : Int), (r : Int)).1.toNat) h
 rw [cnt_one rfl] at h3
 exact ⟨by simp, by simp; omega, by simp, by simpa using h2, h3⟩
theorem alW_b {xs : List Wr} (h : ∀ x ∈ xs, x.rs.length ≤ 64) (i : Nat) : (alW xs i).length ≤ 128 := by
 have h1 := (alW_ok (xs := xs) (i := i)).2
 have h2 := csW_len (i := 0) h
 have h3 := csW_len (i := i) h
 omega
theorem pfW_in {xs : List Wr} {i k : Nat} {y : Int × Int} (h : (pfW xs i)[k]? = some y) : 0 ≤ y.1 ∧ y.1 ≤ (csW xs 0).length ∧ 0 ≤ y.2 ∧ y.2 ≤ (csW xs i).length := by
 obtain ⟨a, b, rfl, h1, h2, _⟩ := pfW_ok.1 y (List.mem_of_getElem? h)
 simp; omega
theorem pfW_2 {xs : List Wr} (hb : ∀ x ∈ xs, x.rs.length ≤ 64) (i : Nat) : ∀ p ∈ pfW xs i, -1000000 ≤ p.2 ∧ p.2 ≤ 1000000 := fun p hp => by
 obtain ⟨a, b, rfl, h1, h2, _⟩ := pfW_ok.1 p hp
 have := csW_len (i := i) hb
 simp; omega
theorem pos_lt {xs : List Wr} {k : Nat} (h : k < (csW xs 0).length) : sumF (wdW xs) k + wdW xs k < loW xs := by
 have h1 := sumF_lt (w := wdW xs) (show k < k + 1 by omega)
 have h2 := sumF_lt (w := wdW xs) (show k + 1 < (csW xs 0).length + 1 by omega)
 have h3 : sumF (wdW xs) (k + 1) = sumF (wdW xs) k + (wdW xs k + 1) := rfl
 unfold loW; omega
theorem pos_lt2 {xs : List Wr} {a i c : Nat} (ha : a < (csW xs 0).length + 1) (hi : i < xs.length) (hc : c < cnt (alW xs i) a) : sumF (wdW xs) a + c < loW xs := by
 have h1 := sumF_lt (w := wdW xs) ha
 have h2 : cnt (alW xs i) a ≤ wdW xs a := wdF_ge hi
 unfold loW; omega
theorem lo_eq {xs : List Wr} : ((sumF (wdW xs) ((csW xs 0).length + 1) : Nat) : Int) - 1 = ((loW xs : Nat) : Int) := by
 have := sumF_ge (w := wdW xs) ((csW xs 0).length + 1)
 unfold loW; omega
theorem prF_yes {w : Nat → Nat} {l : List Int} {f : Nat → Int} {y : Int × Int} (h : (decide (y.1 > 0) && decide (y.2 > 0)) = true) : prF w l f y = updF f (sumF w (y.1 - 1).toNat + w (y.1 - 1).toNat) (l.getD (y.2 - 1).toNat 0) := by unfold prF; rw [if_pos h]
theorem prF_no {w : Nat → Nat} {l : List Int} {f : Nat → Int} {y : Int × Int} (h : (decide (y.1 > 0) && decide (y.2 > 0)) = false) : prF w l f y = f := by unfold prF; rw [if_neg (by rw [h]; decide)]
theorem natF_max {f g : Nat → Nat} {a : Nat} : maxI (natF f a) (natF g a) = ((max (f a) (g a) : Nat) : Int) := maxI_nat
theorem natF_in {f : Nat → Nat} {a B : Nat} (h : f a ≤ B) : 0 ≤ natF f a ∧ natF f a ≤ (B : Int) := by unfold natF; omega
theorem len_zero {n : Nat} : ((n : Int) == 0) = (n == 0) := by rw [Bool.eq_iff_iff]; simp
end
end Go.Proofs.YthcffaheamikgaaGreatDoor
