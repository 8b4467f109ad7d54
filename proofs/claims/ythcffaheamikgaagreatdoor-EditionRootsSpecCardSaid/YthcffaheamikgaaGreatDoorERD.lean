/- editionRootsSpec_holds, part D of the proof: what its theorems say holds without further conditions. -/
import Derived.Test.YthcffaheamikgaaGreatDoorERC
section
namespace Go.Proofs.YthcffaheamikgaaGreatDoor
open Go Go.Kn Go.Proofs
def lbN (b : Nat) (c : Int) : Int := andI c (IntKind.i64.wrap (1 * 2 ^ (min (b : Int).toNat IntKind.i64.bits)) - 1)
def shN (b : Nat) (c : Int) : Int := c.fdiv (2 ^ (min (b : Int).toNat IntKind.i64.bits))
def rawS (c : Int) : Sg := ⟨0, shN 4 (shN 2 (shN 4 (shN 2 (shN 8 (shN 7 c))))), 0, 0, lbN 4 (shN 2 (shN 4 (shN 2 (shN 8 (shN 7 c))))), lbN 2 (shN 4 (shN 2 (shN 8 (shN 7 c)))), lbN 4 (shN 2 (shN 8 (shN 7 c))), lbN 2 (shN 8 (shN 7 c)), lbN 8 (shN 7 c), lbN 7 c, 0, 0, 0, 0⟩
def zeroS : Sg := ⟨0, 0, 0, 0, 0, 0, 0, 0, 0, 0, 0, 0, 0, 0⟩
def signE (c : Int) : Int := codeE (rawS c)
def signF (c : Int) : Sg := if signE c ≠ 0 then zeroS else rawS c
end Go.Proofs.YthcffaheamikgaaGreatDoor
end
section
namespace Go.Proofs.YthcffaheamikgaaGreatDoor
open Go Go.Kn Go.Proofs
theorem agt_48 : AgT Tryz.prog 48 14 := .of (by kernel_rfl)
theorem fun_58 : Fun Tryz.prog 58 := .of Tryz.func58 (by kernel_rfl) (by kernel_rfl)
theorem fun_59 : Fun Tryz.prog 59 := .of Tryz.func59 (by kernel_rfl) (by kernel_rfl)
theorem plt_48 : PlT Tryz.prog 48 #[(0, 1), (1, 1), (2, 1), (3, 1), (4, 1), (5, 1), (6, 1), (7, 1), (8, 1), (9, 1), (10, 2), (12, 2)] (.agg #[(.int .i64 0), (.int .i64 0), (.int .i64 0), (.int .i64 0), (.int .i64 0), (.int .i64 0), (.int .i64 0), (.int .i64 0), (.int .i64 0), (.int .i64 0), (.int .i64 0), (.int .i64 0), (.int .i64 0), (.int .i64 0)]) := ⟨.of (by kernel_rfl), by kernel_rfl, fun w => by kernel_rfl⟩
theorem szt_48 : SzT Tryz.prog 48 14 := .of (by kernel_rfl)
theorem zt_48 : ZeroT Tryz.prog 48 (.agg #[(.int .i64 0), (.int .i64 0), (.int .i64 0), (.int .i64 0), (.int .i64 0), (.int .i64 0), (.int .i64 0), (.int .i64 0), (.int .i64 0), (.int .i64 0), (.int .i64 0), (.int .i64 0), (.int .i64 0), (.int .i64 0)]) := .of (by kernel_rfl)
theorem w_lastN (I : HMap) (r : Nat) (c : Int) (b : Nat) (hb : b ≤ 8) : RetM Tryz.prog 58 [.int .i64 b, capP r] I [(r, .cells #[.int .i64 c] 3 (0, 0))] (fun v I' L' => v = .int .i64 (lbN b c) ∧ I' = I ∧ L' = [(r, .cells #[.int .i64 (shN b c)] 3 (0, 0))]) := w_lastB I r c b hb
set_option maxHeartbeats 1600000 in
theorem w_Sign (I : HMap) (c : Int) : RetV Tryz.prog 30 [.int .i64 c] I (.tuple #[encGA (signF c), .int .i64 (signE c)]) := by
 intro g H w hw
 refine enter Tryz.func30 rfl Tryz.ntmps30 rfl hw ?_
 have hIc := HLe.refl I
 refine X_seq (X_region ?_)
 refine XO_alloc zt_48 rfl rfl (fun b_2 => ?_)
 refine zA ?_
 refine XO_nil (at_then (X_seq (X_region ?_)))
 refine zM ?_
 refine XO_alloc zt_3 rfl rfl (fun b_4 => ?_)
 refine zS szt_3 ?_
 refine XO_nil (at_then (X_seq (X_region ?_)))
 refine XO_v0 (ev_makeFunc (us := []) (vs := [_]) rfl rfl) rfl rfl rfl ?_
 refine zA ?_
 refine XO_nil (at_then (X_seq (X_region ?_)))
 refine zM ?_
 refine XO_callM (cap := [capP b_4]) (vs := [_]) rfl rfl fun_58 (by repeat (first | exact .cons .here .nil | exact split_all | exact split_app | apply split_cons | apply split_skip)) (w_lastN _ b_4 c 7 (by decide)) rfl rfl ?_
 rintro vv1 I1 L1 hI1 ⟨rfl, rfl, rfl⟩
 have hIc := hIc.trans hI1
 refine XO_v0 (ev_fieldAddr rfl fld_48_9) rfl rfl rfl ?_
 refine zS szt_3 ?_
 refine XO_nil (at_then (X_seq (X_region ?_)))
 refine zM ?_
 refine XO_callM (cap := [capP b_4]) (vs := [_]) rfl rfl fun_58 (by repeat (first | exact .cons .here .nil | exact split_all | exact split_app | apply split_cons | apply split_skip)) (w_lastN _ b_4 (shN 7 c) 8 (by decide)) rfl rfl ?_
 rintro vv2 I2 L2 hI2 ⟨rfl, rfl, rfl⟩
 have hIc := hIc.trans hI2
 refine XO_v0 (ev_fieldAddr rfl fld_48_8) rfl rfl rfl ?_
 refine zS szt_3 ?_
 refine XO_nil (at_then (X_seq (X_region ?_)))
 refine zM ?_
 refine XO_callM (cap := [capP b_4]) (vs := [_]) rfl rfl fun_58 (by repeat (first | exact .cons .here .nil | exact split_all | exact split_app | apply split_cons | apply split_skip)) (w_lastN _ b_4 (shN 8 (shN 7 c)) 2 (by decide)) rfl rfl ?_
 rintro vv3 I3 L3 hI3 ⟨rfl, rfl, rfl⟩
 have hIc := hIc.trans hI3
 refine XO_v0 (ev_fieldAddr rfl fld_48_7) rfl rfl rfl ?_
 refine zS szt_3 ?_
 refine XO_nil (at_then (X_seq (X_region ?_)))
 refine zM ?_
 refine XO_callM (cap := [capP b_4]) (vs := [_]) rfl rfl fun_58 (by repeat (first | exact .cons .here .nil | exact split_all | exact split_app | apply split_cons | apply split_skip)) (w_lastN _ b_4 (shN 2 (shN 8 (shN 7 c))) 4 (by decide)) rfl rfl ?_
 rintro vv4 I4 L4 hI4 ⟨rfl, rfl, rfl⟩
 have hIc := hIc.trans hI4
 refine XO_v0 (ev_fieldAddr rfl fld_48_6) rfl rfl rfl ?_
 refine zS szt_3 ?_
 refine XO_nil (at_then (X_seq (X_region ?_)))
 refine zM ?_
 refine XO_callM (cap := [capP b_4]) (vs := [_]) rfl rfl fun_58 (by repeat (first | exact .cons .here .nil | exact split_all | exact split_app | apply split_cons | apply split_skip)) (w_lastN _ b_4 (shN 4 (shN 2 (shN 8 (shN 7 c)))) 2 (by decide)) rfl rfl ?_
 rintro vv5 I5 L5 hI5 ⟨rfl, rfl, rfl⟩
 have hIc := hIc.trans hI5
 refine XO_v0 (ev_fieldAddr rfl fld_48_5) rfl rfl rfl ?_
 refine zS szt_3 ?_
 refine XO_nil (at_then (X_seq (X_region ?_)))
 refine zM ?_
 refine XO_callM (cap := [capP b_4]) (vs := [_]) rfl rfl fun_58 (by repeat (first | exact .cons .here .nil | exact split_all | exact split_app | apply split_cons | apply split_skip)) (w_lastN _ b_4 (shN 2 (shN 4 (shN 2 (shN 8 (shN 7 c))))) 4 (by decide)) rfl rfl ?_
 rintro vv6 I6 L6 hI6 ⟨rfl, rfl, rfl⟩
 have hIc := hIc.trans hI6
 refine XO_v0 (ev_fieldAddr rfl fld_48_4) rfl rfl rfl ?_
 refine zS szt_3 ?_
 refine XO_nil (at_then (X_seq (X_region ?_)))
 refine XO_v0 (ev_load rfl sct_3 (fun hg => by exact Cell.h0 rfl)) rfl rfl rfl ?_
 refine XO_v0 (ev_fieldAddr rfl fld_48_1) rfl rfl rfl ?_
 refine zS szt_3 ?_
 refine XO_nil (at_then ?_)
 refine X_seq ?_
 refine X_seq (X_region ?_)
 refine XO_v0 (ev_loadA rfl agt_48 (fun hg => by exact Cells.g1) rfl) rfl rfl rfl ?_
 refine XO_callV0 (cap := []) (vs := [_]) rfl rfl fun_59 (w_code _ (rawS c)) rfl rfl ?_
 refine zM ?_
 refine XO_v0 (ev_extract rfl rfl) rfl rfl rfl ?_
 refine XO_v0 (ev_extract rfl rfl) rfl rfl rfl ?_
 refine zA ?_
 refine XO_nil (at_then (X_seq (X_region ?_)))
 refine zM ?_
 refine zC ?_
 refine XO_nil (at_then ?_)
 refine X_cond rfl (fun hc34 => ?_) (fun hc34 => ?_)
 ·
  have he : signE c ≠ 0 := by unfold signE; simpa using hc34
  have k1 : signF c = zeroS := if_pos he
  have he9 : signE c = codeE (rawS c) := rfl
  refine X_seq (X_region ?_)
  refine XO_v0 (ev_buildL (ps := []) [_, _, _, _, _, _, _, _, _, _, _, _, _, _] plt_48 rfl rfl) rfl rfl rfl ?_
  refine zM ?_
  refine XO_storeA rfl rfl szt_48 rfl rfl rfl rfl (by repeat (first | exact Upd.here | apply Upd.there | apply upd_app)) ?_
  refine zA ?_
  refine XO_nil (at_then ?_)
  refine X_ret ?_
  refine at_then_r ?_
  exact at_ret2A rfl rfl rfl agt_48 (by repeat (first | exact Cells.here | apply Cells.there)) rfl (fun w hw => ⟨by rw [k1, he9]; rfl, (hw.mono hIc).drop⟩)
 ·
  have he : signE c = 0 := by unfold signE; simpa using hc34
  have k1 : signF c = rawS c := if_neg (by omega)
  have he9 := he
  refine X_skip ?_
  refine at_then ?_
  refine X_seq (X_region ?_)
  refine XO_v0 (ev_loadA rfl agt_48 (fun hg => by exact Cells.g1) rfl) rfl rfl rfl ?_
  refine XO_storeA rfl rfl szt_48 rfl rfl rfl rfl (by repeat (first | exact Upd.here | apply Upd.there | apply upd_app)) ?_
  refine zA ?_
  refine XO_nil (at_then ?_)
  refine X_ret ?_
  exact at_ret2A rfl rfl rfl agt_48 (by repeat (first | exact Cells.here | apply Cells.there)) rfl (fun w hw => ⟨by rw [k1, he9]; rfl, (hw.mono hIc).drop⟩)
end Go.Proofs.YthcffaheamikgaaGreatDoor
end
section
namespace Go.Proofs.YthcffaheamikgaaGreatDoor
open Go Go.Kn Go.Proofs
def besN (x y : Int) : Int := if (x != y && x != 8589934592 && y != 8589934592) = true then 3 else 0
end Go.Proofs.YthcffaheamikgaaGreatDoor
end
section
namespace Go.Proofs.YthcffaheamikgaaGreatDoor
open Go Go.Kn Go.Proofs
theorem w_beside (I : HMap) (x y : Int) : RetV Tryz.prog 77 [.int .i64 x, .int .i64 y] I (.int .i64 (besN x y)) := by
 intro g H w hw
 refine enter Tryz.func77 rfl Tryz.ntmps77 rfl hw ?_
 refine X_seq (X_region ?_)
 refine zA ?_
 refine XO_nil (at_then ?_)
 refine X_seq ?_
 refine X_seq (X_region ?_)
 refine zM ?_
 refine zM ?_
 refine zC ?_
 refine zM ?_
 refine XO_pushT 3 rfl rfl rfl ?_
 refine XO_v1 (ev_move rfl) (.some rfl rfl rfl rfl gbt) rfl rfl rfl ?_
 refine XO_v1 (ev_cmp rfl rfl rfl) (.some rfl rfl rfl rfl gbt) rfl rfl rfl ?_
 refine XO_and0 rfl rfl rfl rfl rfl ?_
 refine zM ?_
 refine XO_pushT 7 rfl rfl rfl ?_
 refine XO_v1 (ev_move rfl) (.some rfl rfl rfl rfl gbt) rfl rfl rfl ?_
 refine XO_v1 (ev_cmp rfl rfl rfl) (.some rfl rfl rfl rfl gbt) rfl rfl rfl ?_
 refine XO_and0 rfl rfl rfl rfl rfl ?_
 refine XO_nil (at_then ?_)
 refine X_cond rfl (fun hc15 => ?_) (fun hc15 => ?_)
 ·
  refine X_seq (X_region ?_)
  refine zA ?_
  refine XO_nil (at_then ?_)
  refine X_ret ?_
  refine at_then_r ?_
  first
  | exact at_ret1 rfl rfl (fun w hw => ⟨by unfold besN; rw [if_pos (by assumption)], hw.drop⟩)
 ·
  refine X_skip ?_
  refine at_then ?_
  refine X_seq (X_region ?_)
  refine zA ?_
  refine XO_nil (at_then ?_)
  refine X_ret ?_
  first
  | exact at_ret1 rfl rfl (fun w hw => ⟨by unfold besN; rw [if_neg (by simp_all)], hw.drop⟩)
end Go.Proofs.YthcffaheamikgaaGreatDoor
end
section
namespace Go.Proofs.YthcffaheamikgaaGreatDoor
open Go Go.Kn Go.Proofs
structure Rd where
  lost : Bool
  sg : Sg
def encRd (r : Rd) : List Value := .bool r.lost :: encG r.sg
theorem encRd_len (r : Rd) : (encRd r).length = 15 := rfl
def codeR (r : Rd) : Int := if r.lost = true then 8589934592 else codeF r.sg
end Go.Proofs.YthcffaheamikgaaGreatDoor
end
section
namespace Go.Proofs.YthcffaheamikgaaGreatDoor
open Go Go.Kn Go.Proofs
theorem agt_51 : AgT Tryz.prog 51 15 := .of (by kernel_rfl)
theorem fld_51_0 : FieldAt Tryz.prog 51 0 0 := .of (by kernel_rfl)
theorem fld_51_1 : FieldAt Tryz.prog 51 1 1 := .of (by kernel_rfl)
theorem fld_54_2 : FieldAt Tryz.prog 54 2 2 := .of (by kernel_rfl)
theorem sct_4 : ScT Tryz.prog 4 := .of (by kernel_rfl)
theorem sct_52 : ScT Tryz.prog 52 := .of (by kernel_rfl)
theorem slt_52 : SlT Tryz.prog 52 51 15 := .of (by kernel_rfl)
theorem szt_51 : SzT Tryz.prog 51 15 := .of (by kernel_rfl)
theorem zt_51 : ZeroT Tryz.prog 51 (.agg #[(.bool false), (.int .i64 0), (.int .i64 0), (.int .i64 0), (.int .i64 0), (.int .i64 0), (.int .i64 0), (.int .i64 0), (.int .i64 0), (.int .i64 0), (.int .i64 0), (.int .i64 0), (.int .i64 0), (.int .i64 0), (.int .i64 0)]) := .of (by kernel_rfl)
theorem w_codes {I : HMap} {av : Option Addr} {n c : Nat} {rs : List Rd} (hR : Sl I 15 encRd av n c rs) (hn : n ≤ 100000) (no yr : Int) : RetM Tryz.prog 42 [.agg #[.int .i64 no, .int .i64 yr, .slice av n c]] I [] (SlRes 1 encI (rs.map codeR)) := by
 intro g H w hw
 refine enter Tryz.func42 rfl Tryz.ntmps42 rfl hw ?_
 have hIc := HLe.refl I
 refine X_seq (X_region ?_)
 refine XO_box rfl rfl rfl (fun b_1 => ?_)
 refine zA ?_
 refine XO_nil (at_then ?_)
 refine X_seq ?_
 refine X_seq ?_
 refine X_freezeAll (fun I1 hI1 hall => ?_)
 have hR := hR.mono hI1
 have hIc := hIc.trans hI1
 have hCw : Cell I1 [] b_1 2 (.slice av n c) := .imm (hall _ _ (by repeat (first | exact List.mem_cons_self .. | apply List.mem_cons_of_mem))) rfl
 refine X_region ?_
 refine XO_v0 (ev_fieldAddr rfl fld_54_2) rfl rfl rfl ?_
 refine XO_v0 (ev_load rfl sct_52 (fun hg => by exact hCw.any)) rfl rfl rfl ?_
 refine XO_v0 (ev_lenS rfl slt_52) rfl rfl rfl ?_
 refine zM ?_
 refine XO_nil (at_then ?_)
 refine X_block ?_
 refine X_loopT [(7, _), (8, _)] (.cons rfl (.cons rfl .nil)) (fun T L0 mz E I' loc' => ∃ (k : Nat) (v2 : Value) (L : Go.Kn.Loc), mz = n - k ∧ E = (2, v2) :: (9, .int .i64 k) :: T ∧ I1 = I' ∧ L = loc' ∧ k ≤ n ∧ OwnS 3 1 v2 k (((rs.take k).map codeR).flatMap encI) L) _ _ _ _ ⟨0, _, [], rfl, rfl, rfl, rfl, Nat.zero_le _, OwnS.nil⟩ (.cons rfl (.cons rfl (.cons rfl (.cons rfl .nil)))) (HLe.refl _) rfl ?_
 rintro mz E I' loc' ⟨k, v2, L, rfl, rfl, rfl, rfl, hk, hO⟩
 refine X_seq (X_region ?_)
 refine zC ?_
 refine XO_nil (at_then ?_)
 refine X_seq ?_
 refine X_cond rfl (fun hc10 => ?_) (fun hc10 => ?_)
 ·
  have hlt_k : k < n := by have h := hc10; simp at h; omega
  obtain ⟨r, hr⟩ := hR.at hlt_k
  refine X_skip ?_
  refine at_then ?_
  refine X_seq ?_
  refine X_block ?_
  refine X_seq (X_region ?_)
  refine XO_v0 (ev_indexSl rfl rfl slt_52 hR (fun hg => by first | omega | (simp [conj] at hg; omega))) rfl rfl rfl ?_
  refine XO_v0 (ev_loadA rfl agt_51 (fun hg => by exact Sl.getA hR hr) rfl) rfl rfl rfl ?_
  refine XO_alloc zt_51 rfl rfl (fun b_4 => ?_)
  refine XO_storeA rfl rfl szt_51 rfl rfl rfl rfl (by repeat (first | exact Upd.here | apply Upd.there | apply upd_app)) ?_
  refine XO_nil (at_then (X_seq (X_region ?_)))
  refine zA ?_
  refine XO_nil (at_then ?_)
  refine X_seq ?_
  refine X_seq (X_region ?_)
  refine XO_v0 (ev_fieldAddr rfl fld_51_0) rfl rfl rfl ?_
  refine XO_v0 (ev_load rfl sct_4 (fun hg => by exact Cell.here rfl)) rfl rfl rfl ?_
  refine XO_v0 (ev_not rfl) rfl rfl rfl ?_
  refine XO_nil (at_then ?_)
  refine X_cond rfl (fun hc15 => ?_) (fun hc15 => ?_)
  ·
   have hlo : codeR r = codeF r.sg := by unfold codeR; rw [if_neg (by simpa using hc15)]
   refine X_region ?_
   refine XO_v0 (ev_fieldAddr rfl fld_51_1) rfl rfl rfl ?_
   refine XO_v0 (ev_loadA rfl agt_48 (fun hg => by exact Cells.s0 (vs := [_, _, _, _, _, _, _, _, _, _, _, _, _, _]) rfl) rfl) rfl rfl rfl ?_
   refine XO_callV0 (cap := []) (vs := [_]) rfl rfl fun_59 (w_code _ r.sg) rfl rfl ?_
   refine zM ?_
   refine XO_v0 (ev_extract rfl rfl) rfl rfl rfl ?_
   refine XO_v0 (ev_extract rfl rfl) rfl rfl rfl ?_
   refine zA ?_
   refine XO_nil ?_
   rw [← hlo]
   refine at_then ?_
   refine X_region ?_
   refine zM ?_
   refine zM ?_
   refine XO_buildSlice (ps := [(0, _)]) (m := [encI (codeR r)]) elt_23 rfl (.cons rfl (.nil)) rfl (by simp [encI_len]) (by decide) (by decide) rfl rfl (fun b_24 => ?_)
   refine XO_append (v := _) (ys := [codeR r].flatMap encI) (L := L) rfl rfl elt_23 hO (by repeat (first | exact .cons .here .nil | exact split_all | exact split_app | apply split_cons | apply split_skip)) ⟨rfl, fun _ => rfl, by repeat (first | exact Cells.here | apply Cells.there | apply Cells.app)⟩ (one_I [codeR r]) (by omega) rfl rfl ?_
   intro v9 L9 hO9 _; rw [← List.flatMap_append] at hO9
   refine zA ?_
   refine XO_nil ?_
   refine at_block_n ?_
   refine at_then ?_
   refine X_region ?_
   refine XO_v0 (ev_arB rfl rfl rfl (fun _ => by omega)) rfl rfl rfl ?_
   refine zM ?_
   refine XO_nil ?_
   exact at_met2 _ _ ⟨n - (k + 1), by omega, k + 1, _, _, rfl, rfl, rfl, rfl, by omega, by rw [map_next hr]; exact hO9⟩ (.cons rfl (.cons rfl (.cons rfl (.cons rfl .nil)))) (by repeat (first | exact .refl | exact subL_left | refine subL_app ?_ | refine .drop ?_ | refine subL_add ?_))
  ·
   have hlo : codeR r = 8589934592 := by unfold codeR; rw [if_pos (by simpa using hc15)]
   rw [← hlo]
   refine X_skip ?_
   refine at_then ?_
   refine X_region ?_
   refine zM ?_
   refine zM ?_
   refine XO_buildSlice (ps := [(0, _)]) (m := [encI (codeR r)]) elt_23 rfl (.cons rfl (.nil)) rfl (by simp [encI_len]) (by decide) (by decide) rfl rfl (fun b_24 => ?_)
   refine XO_append (v := _) (ys := [codeR r].flatMap encI) (L := L) rfl rfl elt_23 hO (by repeat (first | exact .cons .here .nil | exact split_all | exact split_app | apply split_cons | apply split_skip)) ⟨rfl, fun _ => rfl, by repeat (first | exact Cells.here | apply Cells.there | apply Cells.app)⟩ (one_I [codeR r]) (by omega) rfl rfl ?_
   intro v9 L9 hO9 _; rw [← List.flatMap_append] at hO9
   refine zA ?_
   refine XO_nil ?_
   refine at_block_n ?_
   refine at_then ?_
   refine X_region ?_
   refine XO_v0 (ev_arB rfl rfl rfl (fun _ => by omega)) rfl rfl rfl ?_
   refine zM ?_
   refine XO_nil ?_
   exact at_met2 _ _ ⟨n - (k + 1), by omega, k + 1, _, _, rfl, rfl, rfl, rfl, by omega, by rw [map_next hr]; exact hO9⟩ (.cons rfl (.cons rfl (.cons rfl (.cons rfl .nil)))) (by repeat (first | exact .refl | exact subL_left | refine subL_app ?_ | refine .drop ?_ | refine subL_add ?_))
 ·
  have hge_k : n ≤ k := by have h := hc10; simp at h; omega
  rw [take_all hR.len hge_k, show k = n by omega] at hO
  refine X_exit ?_
  refine at_then_e ?_
  refine at_then_e ?_
  refine at_block_hit ?_
  refine at_then ?_
  refine X_seq (X_region ?_)
  refine zM ?_
  refine zA ?_
  refine XO_nil (at_then ?_)
  refine X_ret ?_
  exact at_ret1 rfl rfl (fun w hw => by obtain ⟨I9, h91, h92, h93⟩ := OwnS.res hO encI_len (by decide) hw; exact ⟨_, I9, [], rfl, hIc.trans h91, h92, h93⟩)
end Go.Proofs.YthcffaheamikgaaGreatDoor
end
section
namespace Go.Proofs.YthcffaheamikgaaGreatDoor
open Go Go.Kn Go.Proofs
structure Wt where
  no : Int
  yr : Int
  a : Option Addr
  n : Nat
  c : Nat
def encW (w : Wt) : List Value := [.int .i64 w.no, .int .i64 w.yr, .slice w.a w.n w.c]
theorem encW_len (w : Wt) : (encW w).length = 3 := rfl
end Go.Proofs.YthcffaheamikgaaGreatDoor
end
section
namespace Go.Proofs.YthcffaheamikgaaGreatDoor
open Go Go.Kn Go.Proofs
theorem slt_31 : SlT Tryz.prog 31 54 3 := .of (by kernel_rfl)
end Go.Proofs.YthcffaheamikgaaGreatDoor
end
section
namespace Go.Proofs.YthcffaheamikgaaGreatDoor
open Go Go.Kn Go.Proofs
def zeroG : Sg := zeroS
def within (n lo hi : Int) : Bool := decide (n ≥ lo) && decide (n ≤ hi)
/-! ### Ratios -/
def magI (n : Int) : Int := if n < 0 then 0 - n else n
def gcdI (a b : Int) : Int := (Int.gcd a b : Int)
/-- Is n / d a ratio? -/
def ratF (n d : Int) : Bool := !(((((decide (d < 1) || decide (d > 1073741824)) || decide (n < -1073741824)) || decide (n > 1073741824)) || (gcdI n d != 1)))
/-- May a sign last from one ratio to another one? -/
def spanF (fn fd tn td : Int) : Bool := (ratF fn fd && ratF tn td) && (decide (fn * td < tn * fd) && (decide (fn ≥ 0) && decide (tn ≤ td)))
/-! ### Signs -/
def frmL (k : Sg) : Bool := within k.id 0 1048576 && within k.role 0 63 && within k.bar 0 4095 && within k.kind 1 9 && within k.mark 1 3 && within k.side 0 2 && within k.dir 0 8 && within k.level 0 3 && within k.size 0 255 && within k.wth 0 64
def frm (k : Sg) : Bool := frmL k && spanF k.fn k.fd k.tn k.td
def skP (xs : List Sg) (i : Nat) : Bool := !(!frm (xs.getD i zeroG) || (decide ((i : Int) > 0) && decide ((xs.getD ((i : Int) - 1).toNat zeroG).id ≥ (xs.getD i zeroG).id)))
def skB (xs : List Sg) : Bool := (List.range xs.length).all (skP xs)
def chkG (xs : List Sg) : Int := if xs.length > 4096 then 2 else if skB xs then 0 else 360
def encR2 (n d : Int) : List Value := [.int .i64 n, .int .i64 d]
def encRA (n d : Int) : Value := .agg (encR2 n d).toArray
theorem u64_id {n : Int} (h : 0 ≤ n ∧ n ≤ 9223372036854775807) : IntKind.u64.wrap n = n := by
  unfold IntKind.wrap IntKind.signed IntKind.bits
  simp
  omega
theorem mag_pos {n : Int} (hn : -1073741824 ≤ n ∧ n ≤ 1073741824) (h : ¬ n < 0) : IntKind.u64.wrap n = magI n := by
  rw [u64_id (by omega)]
  unfold magI; rw [if_neg h]
theorem mag_neg {n : Int} (hn : -1073741824 ≤ n ∧ n ≤ 1073741824) (h : n < 0) : IntKind.u64.wrap (0 - IntKind.u64.wrap n) = magI n := by
  unfold magI; rw [if_pos h]
  unfold IntKind.wrap IntKind.signed IntKind.bits
  simp
  omega
/-- The cells of the iterator of Euclid's algorithm. -/
def remL (t b1 b2 : Nat) (a b : Int) : Go.Kn.Loc := [(b2, .cells #[.int .u64 b] t (0, 0)), (b1, .cells #[.int .u64 a] t (0, 0))]
/-- The numbers of Euclid's algorithm. -/
def remN (a b : Nat) : List Nat := if a = 0 then [] else if b = 0 then [a, 0] else if a % b = 0 then [a, b] else a :: remN b (a % b)
termination_by b
decreasing_by exact Nat.mod_lt _ (by omega)
theorem remN_zero (b : Nat) : remN 0 b = [] := by rw [remN]; rfl
theorem remN_end {a b : Nat} (ha : a ≠ 0) (hb : b ≠ 0) (h : a % b = 0) : remN a b = [a, b] := by rw [remN, if_neg ha, if_neg hb, if_pos h]
theorem remN_step {a b : Nat} (ha : a ≠ 0) (hb : b ≠ 0) (h : a % b ≠ 0) : remN a b = a :: remN b (a % b) := by rw [remN, if_neg ha, if_neg hb, if_neg h]
theorem remN_gcd : ∀ (m : Nat) {a b d : Nat}, b ≤ m → b ≠ 0 → (a = 0 → d = b) → (remN a b).getLastD d = Nat.gcd a b := by
  intro m
  induction m with
  | zero => intro a b d h1 h2; omega
  | succ m ih =>
    intro a b d h1 h2 hd
    by_cases ha : a = 0
    · subst ha; rw [remN_zero, Nat.gcd_zero_left, hd rfl]; rfl
    · by_cases h : a % b = 0
      · rw [remN_end ha h2 h]
        show b = _
        rw [Nat.gcd_comm, Nat.gcd_rec, h, Nat.gcd_zero_left]
      · rw [remN_step ha h2 h, List.getLastD_cons, ih (by have := Nat.mod_lt a (show 0 < b by omega); omega) h (fun e => absurd e h2)]
        rw [Nat.gcd_comm b, ← Nat.gcd_rec, Nat.gcd_comm]
theorem tmod_nat (a b : Nat) : ((a : Int)).tmod (b : Int) = ((a % b : Nat) : Int) := by
  rw [Int.tmod_eq_emod_of_nonneg (by omega)]; rfl
theorem mul_b {a b : Int} (ha : -1073741824 ≤ a ∧ a ≤ 1073741824) (hb : -1073741824 ≤ b ∧ b ≤ 1073741824) : -9223372036854775808 ≤ a * b ∧ a * b ≤ 9223372036854775807 := by
  have h1 : (a * b).natAbs ≤ 1073741824 * 1073741824 := by
    rw [Int.natAbs_mul]
    exact Nat.mul_le_mul (by omega) (by omega)
  omega
def ratE (n d : Int) : Int := if ratF n d then 0 else 120
theorem ratF_in {n d : Int} (h : ratF n d = true) : (1 ≤ d ∧ d ≤ 1073741824) ∧ -1073741824 ≤ n ∧ n ≤ 1073741824 := by
  unfold ratF at h
  simp at h
  omega
theorem mag_gcd (n d : Int) : Nat.gcd (magI n).toNat d.toNat = Int.gcd n d.toNat := by
  unfold Int.gcd magI
  congr 1
  split <;> omega
theorem maxI_one {b : Nat} (h : 0 < b) : maxI (b : Int) 1 = (b : Int) := by
  unfold maxI
  split <;> omega
theorem rem_pre {a0 b0 a b : Nat} {pre : List Nat} (h : remN a0 b0 = pre ++ remN a b) (ha : a ≠ 0) : pre ++ [a] <+: remN a0 b0 := by
  rw [h, remN, if_neg ha]
  have key : ∀ l : List Nat, pre ++ [a] <+: pre ++ a :: l := fun l => ⟨l, by simp⟩
  split
  · exact key _
  · split <;> exact key _
theorem last_snoc {l : List Nat} {x d : Nat} : (l ++ [x]).getLastD d = x := by simp [List.getLastD_eq_getLast?]
theorem rat_bad {n d : Int} (h : ((((decide (d < 1) || decide (d > 1073741824)) || decide (n < -1073741824)) || decide (n > 1073741824)) || (gcdI n d != 1)) = true) : ratF n d = false := by unfold ratF; rw [h]; rfl
theorem rat_good {n d : Int} (h : ((((decide (d < 1) || decide (d > 1073741824)) || decide (n < -1073741824)) || decide (n > 1073741824)) || (gcdI n d != 1)) = false) : ratF n d = true := by unfold ratF; rw [h]; rfl
theorem span_eq {fn fd tn td : Int} : (ratE fn fd != 0 || ratE tn td != 0) = !(ratF fn fd && ratF tn td) := by
  unfold ratE
  cases ratF fn fd <;> cases ratF tn td <;> rfl
def cmpE (an ad bn bd : Int) : Int := if ratF an ad && ratF bn bd then 0 else 120
def cmpV (an ad bn bd : Int) : Int := if ratF an ad && ratF bn bd then cmpI (an * bd) (bn * ad) else 0
theorem fine_eq {fn fd tn td : Int} : (((cmpE fn fd tn td == 0) && decide (cmpV fn fd tn td < 0)) && decide (fn ≥ 0) && decide (tn ≤ td)) = spanF fn fd tn td := by
  unfold cmpE cmpV spanF cmpI
  cases h : (ratF fn fd && ratF tn td) with
  | false => rfl
  | true =>
    simp only [if_true, Bool.true_and]
    by_cases h2 : fn * td < tn * fd
    · simp [h2, Bool.and_assoc]
    · by_cases h3 : fn * td > tn * fd <;> simp [h2, h3]
theorem skP_at {xs : List Sg} {k : Nat} {x : Sg} (hx : xs[k]? = some x) : skP xs k = !(!frm x || (decide ((k : Int) > 0) && decide ((xs.getD ((k : Int) - 1).toNat zeroG).id ≥ x.id))) := by unfold skP; rw [getD_of hx]
end Go.Proofs.YthcffaheamikgaaGreatDoor
end
section
namespace Go.Proofs.YthcffaheamikgaaGreatDoor
open Go Go.Kn Go.Proofs
theorem agt_46 : AgT Tryz.prog 46 2 := .of (by kernel_rfl)
theorem fld_46_0 : FieldAt Tryz.prog 46 0 0 := .of (by kernel_rfl)
theorem fld_46_1 : FieldAt Tryz.prog 46 1 1 := .of (by kernel_rfl)
theorem fld_48_0 : FieldAt Tryz.prog 48 0 0 := .of (by kernel_rfl)
theorem fld_48_10 : FieldAt Tryz.prog 48 10 10 := .of (by kernel_rfl)
theorem fld_48_11 : FieldAt Tryz.prog 48 11 12 := .of (by kernel_rfl)
theorem fld_48_2 : FieldAt Tryz.prog 48 2 2 := .of (by kernel_rfl)
theorem fld_48_3 : FieldAt Tryz.prog 48 3 3 := .of (by kernel_rfl)
theorem fun_107 : Fun Tryz.prog 107 := .of Tryz.func107 (by kernel_rfl) (by kernel_rfl)
theorem fun_118 : Fun Tryz.prog 118 := .of Tryz.func118 (by kernel_rfl) (by kernel_rfl)
theorem fun_124 : Fun Tryz.prog 124 := .of Tryz.func124 (by kernel_rfl) (by kernel_rfl)
theorem fun_125 : Fun Tryz.prog 125 := .of Tryz.func125 (by kernel_rfl) (by kernel_rfl)
theorem fun_134 : Fun Tryz.prog 134 := .of Tryz.func134 (by kernel_rfl) (by kernel_rfl)
theorem fun_137 : Fun Tryz.prog 137 := .of Tryz.func137 (by kernel_rfl) (by kernel_rfl)
theorem fun_138 : Fun Tryz.prog 138 := .of Tryz.func138 (by kernel_rfl) (by kernel_rfl)
theorem fun_140 : Fun Tryz.prog 140 := .of Tryz.func140 (by kernel_rfl) (by kernel_rfl)
theorem fun_141 : Fun Tryz.prog 141 := .of Tryz.func141 (by kernel_rfl) (by kernel_rfl)
theorem fun_144 : Fun Tryz.prog 144 := .of Tryz.func144 (by kernel_rfl) (by kernel_rfl)
theorem fun_145 : Fun Tryz.prog 145 := .of Tryz.func145 (by kernel_rfl) (by kernel_rfl)
theorem sct_100 : ScT Tryz.prog 100 := .of (by kernel_rfl)
theorem slt_36 : SlT Tryz.prog 36 48 14 := .of (by kernel_rfl)
theorem szt_100 : SzT Tryz.prog 100 1 := .of (by kernel_rfl)
theorem zt_100 : ZeroT Tryz.prog 100 (.int .u64 0) := .of (by kernel_rfl)
theorem w_nan (I : HMap) (x : Int) : RetV Tryz.prog 118 [.int .i64 x] I (.bool false) := by
 intro g H w hw
 refine enter Tryz.func118 rfl Tryz.ntmps118 rfl hw ?_
 refine X_seq (X_region ?_)
 refine zA ?_
 refine XO_nil (at_then (X_seq (X_region ?_)))
 refine zM ?_
 refine zM ?_
 refine zC ?_
 refine zA ?_
 refine XO_nil (at_then ?_)
 refine X_ret ?_
 exact at_ret1 rfl rfl (fun w hw => ⟨by simp, hw.drop⟩)
theorem w_cmp (I : HMap) (x y : Int) : RetV Tryz.prog 138 [.int .i64 x, .int .i64 y] I (.int .i64 (cmpI x y)) := by
 intro g H w hw
 refine enter Tryz.func138 rfl Tryz.ntmps138 rfl hw ?_
 refine X_seq (X_region ?_)
 refine zA ?_
 refine XO_nil (at_then (X_seq (X_region ?_)))
 refine zM ?_
 refine XO_callV0 (cap := []) (vs := [_]) rfl rfl fun_118 (w_nan I _) rfl rfl ?_
 refine zA ?_
 refine XO_nil (at_then (X_seq (X_region ?_)))
 refine zM ?_
 refine XO_callV0 (cap := []) (vs := [_]) rfl rfl fun_118 (w_nan I _) rfl rfl ?_
 refine zA ?_
 refine XO_nil (at_then ?_)
 refine X_seq ?_
 refine X_seq (X_region ?_)
 refine zM ?_
 refine XO_nil (at_then ?_)
 refine X_cond rfl (fun hc11 => ?_) (fun hc11 => ?_)
 ·
  cases hc11
 ·
  refine X_skip ?_
  refine at_then ?_
  refine X_seq ?_
  refine X_seq (X_region ?_)
  refine zM ?_
  refine XO_nil (at_then ?_)
  refine X_cond rfl (fun hc13 => ?_) (fun hc13 => ?_)
  ·
   cases hc13
  ·
   refine X_skip ?_
   refine at_then ?_
   refine X_seq ?_
   refine X_seq (X_region ?_)
   refine zM ?_
   refine zM ?_
   refine zC ?_
   refine XO_nil (at_then ?_)
   refine X_cond rfl (fun hc16 => ?_) (fun hc16 => ?_)
   ·
    refine X_seq (X_region ?_)
    refine zA ?_
    refine XO_nil (at_then ?_)
    refine X_ret ?_
    refine at_then_r ?_
    exact at_ret1 rfl rfl (fun w hw => ⟨by unfold cmpI; first | (rw [if_pos (by simpa using hc16)]) | (rw [if_neg (by simpa using hc16), if_pos (by simpa using hc19)]) | (rw [if_neg (by simpa using hc16), if_neg (by simpa using hc19)]), hw.drop⟩)
   ·
    refine X_skip ?_
    refine at_then ?_
    refine X_seq ?_
    refine X_seq (X_region ?_)
    refine zM ?_
    refine zM ?_
    refine zC ?_
    refine XO_nil (at_then ?_)
    refine X_cond rfl (fun hc19 => ?_) (fun hc19 => ?_)
    ·
     refine X_seq (X_region ?_)
     refine zA ?_
     refine XO_nil (at_then ?_)
     refine X_ret ?_
     refine at_then_r ?_
     exact at_ret1 rfl rfl (fun w hw => ⟨by unfold cmpI; first | (rw [if_pos (by simpa using hc16)]) | (rw [if_neg (by simpa using hc16), if_pos (by simpa using hc19)]) | (rw [if_neg (by simpa using hc16), if_neg (by simpa using hc19)]), hw.drop⟩)
    ·
     refine X_skip ?_
     refine at_then ?_
     refine X_seq (X_region ?_)
     refine zA ?_
     refine XO_nil (at_then ?_)
     refine X_ret ?_
     exact at_ret1 rfl rfl (fun w hw => ⟨by unfold cmpI; first | (rw [if_pos (by simpa using hc16)]) | (rw [if_neg (by simpa using hc16), if_pos (by simpa using hc19)]) | (rw [if_neg (by simpa using hc16), if_neg (by simpa using hc19)]), hw.drop⟩)
theorem w_mag (I : HMap) (n : Int) (hn : -1073741824 ≤ n ∧ n ≤ 1073741824) : RetV Tryz.prog 141 [.int .i64 n] I (.int .u64 (magI n)) := by
 intro g H w hw
 refine enter Tryz.func141 rfl Tryz.ntmps141 rfl hw ?_
 refine X_seq (X_region ?_)
 refine zA ?_
 refine XO_nil (at_then ?_)
 refine X_seq ?_
 refine X_seq (X_region ?_)
 refine zM ?_
 refine zC ?_
 refine XO_nil (at_then ?_)
 refine X_cond rfl (fun hc4 => ?_) (fun hc4 => ?_)
 ·
  refine X_seq (X_region ?_)
  refine zM ?_
  refine XO_v0 (ev_convI rfl cvt_3_100) rfl rfl rfl ?_
  refine XO_v0 (ev_negU rfl) rfl rfl rfl ?_
  refine zA ?_
  refine XO_nil (at_then ?_)
  refine X_ret ?_
  refine at_then_r ?_
  exact at_ret1 rfl rfl (fun w hw => ⟨by rw [mag_neg hn (by simpa using hc4)], hw.drop⟩)
 ·
  refine X_skip ?_
  refine at_then ?_
  refine X_seq (X_region ?_)
  refine zM ?_
  refine XO_v0 (ev_convI rfl cvt_3_100) rfl rfl rfl ?_
  refine zA ?_
  refine XO_nil (at_then ?_)
  refine X_ret ?_
  exact at_ret1 rfl rfl (fun w hw => ⟨by rw [mag_pos hn (by simpa using hc4)], hw.drop⟩)
theorem w_rem (I : HMap) (a b : Int) : RetM Tryz.prog 144 [.int .u64 a, .int .u64 b] I [] (fun v I' L => I' = I ∧ ∃ b1 b2, v = .func (.func 145) #[] [capP b1, capP b2].toArray ∧ L = remL 100 b1 b2 a b) := by
 intro g H w hw
 refine enter Tryz.func144 rfl Tryz.ntmps144 rfl hw ?_
 refine X_seq (X_region ?_)
 refine XO_box rfl rfl rfl (fun b_2 => ?_)
 refine XO_box rfl rfl rfl (fun b_3 => ?_)
 refine zA ?_
 refine XO_nil (at_then (X_seq (X_region ?_)))
 refine XO_v0 (ev_makeFunc (us := []) (vs := [_, _]) rfl rfl) rfl rfl rfl ?_
 refine zA ?_
 refine XO_nil (at_then ?_)
 refine X_ret ?_
 exact at_ret1 rfl rfl (fun w hw => ⟨_, I, _, rfl, HLe.refl _, hw, rfl, _, _, rfl, rfl⟩)
theorem w_euclid (I : HMap) (a0 b0 : Nat) (b1 b2 : Nat) (hb0 : 0 < b0) (ha1 : a0 ≤ 9223372036854775807) (hb1 : b0 ≤ 9223372036854775807) : SeqL Tryz.prog 145 [capP b1, capP b2] I (remL 100 b1 b2 (a0) (b0)) (fun n : Nat => .int .u64 n) (remN a0 b0) := by
 intro g l J Jx hY I0 H w h0 hJ hw
 refine enter Tryz.func145 rfl Tryz.ntmps145 rfl hw ?_
 refine X_block ?_
 refine X_loopH (fun m E I' H' loc' => ∃ (a b : Nat) (pre : List Nat), m = b ∧ E = [(0, .func (.yield l) #[] #[]), (1, capP b1), (2, capP b2)] ∧ loc' = remL 100 b1 b2 (a) (b) ∧ HLe I0 I' ∧ J pre I' H' ∧ remN a0 b0 = pre ++ remN a b ∧ 0 < b ∧ a ≤ 9223372036854775807 ∧ b ≤ 9223372036854775807) _ _ _ ⟨a0, b0, [], rfl, rfl, rfl, HLe.refl _, hJ, rfl, hb0, ha1, hb1⟩ (.cons rfl (.cons rfl (.cons rfl .nil))) rfl ?_
 rintro m E I' H' loc' ⟨a, b, pre, hmb, rfl, rfl, hI1, hJk, hrem, hbp, hal, hbl⟩
 subst m
 have hI0 := h0.trans hI1
 refine X_seq ?_
 refine X_seq (X_region ?_)
 refine XO_v0 (ev_load rfl sct_100 (fun hg => by exact Cell.h1 rfl)) rfl rfl rfl ?_
 refine zC ?_
 refine zM ?_
 refine XO_pushT 2 rfl rfl rfl ?_
 refine XO_v1 (ev_move rfl) (.some rfl rfl rfl rfl gbt) rfl rfl rfl ?_
 refine XO_v1 (ev_load rfl sct_100 (fun hg => by exact Cell.h1 rfl)) (.some rfl rfl rfl rfl gbt) rfl rfl rfl ?_
 refine XO_yield1 (vs := [_]) (Post := fun t I2 H2 => if t then J (pre ++ [a]) I2 H2 else Jx (pre ++ [a]) I2 H2) rfl rfl (.some rfl rfl rfl rfl gbt) rfl rfl (fun hcj => hY pre a _ _ (rem_pre hrem (by simpa [conj] using hcj)) hI0 hJk) ?_
 rintro t I2 H2 hI2 hyes hno
 refine XO_and0 rfl rfl rfl rfl rfl ?_
 refine XO_nil (at_then ?_)
 refine X_cond rfl (fun hc10 => ?_) (fun hc10 => ?_)
 ·
  have ha0 : a ≠ 0 := by simp at hc10; exact hc10.1
  have ht : t = true := by simp at hc10; exact hc10.2
  subst ht
  have hJ1 : J (pre ++ [a]) I2 H2 := hyes (by simp [conj]; exact ha0)
  refine X_skip ?_
  refine at_then ?_
  refine X_block ?_
  refine X_seq ?_
  have hD := HLe.refl I2
  refine X_noP ?_
  refine X_drawS I2 [] mixed ?_
  refine XD_three 0 1 2 rfl rfl rfl (by kernel_rfl) ?_ ?_ ?_
  ·
   refine XO_v0 (ev_load rfl sct_100 (fun hg => by exact Cell.h0 rfl)) rfl rfl rfl ?_
   refine XO_nil ?_
   refine zD hD ?_
   refine XD_two 1 2 rfl rfl (by kernel_rfl) ?_ ?_
   ·
    refine XO_v0 (ev_load rfl sct_100 (fun hg => by exact Cell.h1 rfl)) rfl rfl rfl ?_
    refine XO_nil ?_
    refine zD hD ?_
    refine XD_two 2 5 rfl rfl (by kernel_rfl) ?_ ?_
    ·
     refine XO_v0 (ev_load rfl sct_100 (fun hg => by exact Cell.h0 rfl)) rfl rfl rfl ?_
     refine XO_nil ?_
     refine zD hD ?_
     refine XD_two 3 5 rfl rfl (by kernel_rfl) ?_ ?_
     ·
      refine XO_v0 (ev_max rfl rfl) rfl rfl rfl ?_
      refine XO_nil ?_
      refine zD hD ?_
      refine XD_two 4 5 rfl rfl (by kernel_rfl) ?_ ?_
      ·
       refine XO_v0 (ev_rem rfl rfl (fun hg => by rw [maxI_one hbp]; omega)) rfl rfl rfl ?_
       refine XO_nil ?_
       refine zD hD ?_
       refine XD_one 5 rfl (by kernel_rfl) ?_
       refine zS szt_100 ?_
       refine XO_nil ?_
       refine zD hD ?_
       refine XD_one 6 rfl (by kernel_rfl) ?_
       refine zS szt_100 ?_
       refine XO_nil ?_
       refine zD hD ?_
       refine XD_done (by kernel_rfl) ?_
       refine at_noP ?_
       rw [show ((a : Int)).tmod (maxI (b : Int) 1) = ((a % b : Nat) : Int) by rw [maxI_one hbp, tmod_nat]]
       refine at_then ?_
       refine X_seq (X_region ?_)
       refine XO_v0 (ev_load rfl sct_100 (fun hg => by exact Cell.h0 rfl)) rfl rfl rfl ?_
       refine zC ?_
       refine XO_nil (at_then ?_)
       refine X_cond rfl (fun hc17 => ?_) (fun hc17 => ?_)
       ·
        have hab : a % b = 0 := by have h := hc17; simp only [beq_iff_eq] at h; omega
        have hpre2 : (pre ++ [a]) ++ [b] <+: remN a0 b0 := by rw [hrem, remN_end ha0 (by omega) hab, List.append_assoc]; exact List.prefix_rfl
        refine X_seq (X_region ?_)
        refine zM ?_
        refine XO_v0 (ev_load rfl sct_100 (fun hg => by exact Cell.h1 rfl)) rfl rfl rfl ?_
        refine XO_yield0 (vs := [_]) (Post := fun t I3 H3 => if t then J ((pre ++ [a]) ++ [b]) I3 H3 else Jx ((pre ++ [a]) ++ [b]) I3 H3) rfl rfl rfl rfl (hY (pre ++ [a]) b _ _ hpre2 (hI0.trans hI2) hJ1) ?_
        rintro t3 I3 H3 hI3 hP3
        refine XO_nil (at_then ?_)
        refine X_ret ?_
        refine at_block_r ?_
        refine at_then_r ?_
        refine at_block_r ?_
        first
        | (refine at_ret0 rfl (fun w hw => ⟨_, I3, H3, rfl, hI1.trans (hI2.trans hI3), hw.drop, ?_⟩); cases t3 with | true => exact .inl (by rw [hrem, remN_end ha0 (by omega) hab]; simpa using hP3) | false => exact .inr ⟨_, hpre2, hP3⟩)
       ·
        have hab : a % b ≠ 0 := by have h := hc17; simp only [beq_eq_false_iff_ne, ne_eq] at h; omega
        refine X_skip ?_
        refine at_block_n ?_
        exact at_metH2 rfl rfl rfl _ (remL 100 b1 b2 (b) (((a % b : Nat) : Int))) ⟨a % b, Nat.mod_lt _ hbp, b, a % b, pre ++ [a], rfl, rfl, rfl, hI1.trans hI2, hJ1, by rw [hrem, remN_step ha0 (by omega) hab, List.append_assoc]; rfl, by omega, by omega, by have := Nat.mod_lt a hbp; omega⟩ (.cons rfl (.cons rfl (.cons rfl .nil))) .refl
      ·
       refine zS szt_100 ?_
       refine XO_nil ?_
       refine zD hD ?_
       refine XD_one 4 rfl (by kernel_rfl) ?_
       refine XO_v0 (ev_rem rfl rfl (fun hg => by rw [maxI_one hbp]; omega)) rfl rfl rfl ?_
       refine XO_nil ?_
       refine zD hD ?_
       refine XD_one 6 rfl (by kernel_rfl) ?_
       refine zS szt_100 ?_
       refine XO_nil ?_
       refine zD hD ?_
       refine XD_done (by kernel_rfl) ?_
       refine at_noP ?_
       rw [show ((a : Int)).tmod (maxI (b : Int) 1) = ((a % b : Nat) : Int) by rw [maxI_one hbp, tmod_nat]]
       refine at_then ?_
       refine X_seq (X_region ?_)
       refine XO_v0 (ev_load rfl sct_100 (fun hg => by exact Cell.h0 rfl)) rfl rfl rfl ?_
       refine zC ?_
       refine XO_nil (at_then ?_)
       refine X_cond rfl (fun hc17 => ?_) (fun hc17 => ?_)
       ·
        have hab : a % b = 0 := by have h := hc17; simp only [beq_iff_eq] at h; omega
        have hpre2 : (pre ++ [a]) ++ [b] <+: remN a0 b0 := by rw [hrem, remN_end ha0 (by omega) hab, List.append_assoc]; exact List.prefix_rfl
        refine X_seq (X_region ?_)
        refine zM ?_
        refine XO_v0 (ev_load rfl sct_100 (fun hg => by exact Cell.h1 rfl)) rfl rfl rfl ?_
        refine XO_yield0 (vs := [_]) (Post := fun t I3 H3 => if t then J ((pre ++ [a]) ++ [b]) I3 H3 else Jx ((pre ++ [a]) ++ [b]) I3 H3) rfl rfl rfl rfl (hY (pre ++ [a]) b _ _ hpre2 (hI0.trans hI2) hJ1) ?_
        rintro t3 I3 H3 hI3 hP3
        refine XO_nil (at_then ?_)
        refine X_ret ?_
        refine at_block_r ?_
        refine at_then_r ?_
        refine at_block_r ?_
        first
        | (refine at_ret0 rfl (fun w hw => ⟨_, I3, H3, rfl, hI1.trans (hI2.trans hI3), hw.drop, ?_⟩); cases t3 with | true => exact .inl (by rw [hrem, remN_end ha0 (by omega) hab]; simpa using hP3) | false => exact .inr ⟨_, hpre2, hP3⟩)
       ·
        have hab : a % b ≠ 0 := by have h := hc17; simp only [beq_eq_false_iff_ne, ne_eq] at h; omega
        refine X_skip ?_
        refine at_block_n ?_
        exact at_metH2 rfl rfl rfl _ (remL 100 b1 b2 (b) (((a % b : Nat) : Int))) ⟨a % b, Nat.mod_lt _ hbp, b, a % b, pre ++ [a], rfl, rfl, rfl, hI1.trans hI2, hJ1, by rw [hrem, remN_step ha0 (by omega) hab, List.append_assoc]; rfl, by omega, by omega, by have := Nat.mod_lt a hbp; omega⟩ (.cons rfl (.cons rfl (.cons rfl .nil))) .refl
     ·
      refine zS szt_100 ?_
      refine XO_nil ?_
      refine zD hD ?_
      refine XD_one 3 rfl (by kernel_rfl) ?_
      refine XO_v0 (ev_max rfl rfl) rfl rfl rfl ?_
      refine XO_nil ?_
      refine zD hD ?_
      refine XD_one 4 rfl (by kernel_rfl) ?_
      refine XO_v0 (ev_rem rfl rfl (fun hg => by rw [maxI_one hbp]; omega)) rfl rfl rfl ?_
      refine XO_nil ?_
      refine zD hD ?_
      refine XD_one 6 rfl (by kernel_rfl) ?_
      refine zS szt_100 ?_
      refine XO_nil ?_
      refine zD hD ?_
      refine XD_done (by kernel_rfl) ?_
      refine at_noP ?_
      rw [show ((a : Int)).tmod (maxI (b : Int) 1) = ((a % b : Nat) : Int) by rw [maxI_one hbp, tmod_nat]]
      refine at_then ?_
      refine X_seq (X_region ?_)
      refine XO_v0 (ev_load rfl sct_100 (fun hg => by exact Cell.h0 rfl)) rfl rfl rfl ?_
      refine zC ?_
      refine XO_nil (at_then ?_)
      refine X_cond rfl (fun hc17 => ?_) (fun hc17 => ?_)
      ·
       have hab : a % b = 0 := by have h := hc17; simp only [beq_iff_eq] at h; omega
       have hpre2 : (pre ++ [a]) ++ [b] <+: remN a0 b0 := by rw [hrem, remN_end ha0 (by omega) hab, List.append_assoc]; exact List.prefix_rfl
       refine X_seq (X_region ?_)
       refine zM ?_
       refine XO_v0 (ev_load rfl sct_100 (fun hg => by exact Cell.h1 rfl)) rfl rfl rfl ?_
       refine XO_yield0 (vs := [_]) (Post := fun t I3 H3 => if t then J ((pre ++ [a]) ++ [b]) I3 H3 else Jx ((pre ++ [a]) ++ [b]) I3 H3) rfl rfl rfl rfl (hY (pre ++ [a]) b _ _ hpre2 (hI0.trans hI2) hJ1) ?_
       rintro t3 I3 H3 hI3 hP3
       refine XO_nil (at_then ?_)
       refine X_ret ?_
       refine at_block_r ?_
       refine at_then_r ?_
       refine at_block_r ?_
       first
       | (refine at_ret0 rfl (fun w hw => ⟨_, I3, H3, rfl, hI1.trans (hI2.trans hI3), hw.drop, ?_⟩); cases t3 with | true => exact .inl (by rw [hrem, remN_end ha0 (by omega) hab]; simpa using hP3) | false => exact .inr ⟨_, hpre2, hP3⟩)
      ·
       have hab : a % b ≠ 0 := by have h := hc17; simp only [beq_eq_false_iff_ne, ne_eq] at h; omega
       refine X_skip ?_
       refine at_block_n ?_
       exact at_metH2 rfl rfl rfl _ (remL 100 b1 b2 (b) (((a % b : Nat) : Int))) ⟨a % b, Nat.mod_lt _ hbp, b, a % b, pre ++ [a], rfl, rfl, rfl, hI1.trans hI2, hJ1, by rw [hrem, remN_step ha0 (by omega) hab, List.append_assoc]; rfl, by omega, by omega, by have := Nat.mod_lt a hbp; omega⟩ (.cons rfl (.cons rfl (.cons rfl .nil))) .refl
    ·
     refine zS szt_100 ?_
     refine XO_nil ?_
     refine zD hD ?_
     refine XD_one 2 rfl (by kernel_rfl) ?_
     refine XO_v0 (ev_load rfl sct_100 (fun hg => by exact Cell.h0 rfl)) rfl rfl rfl ?_
     refine XO_nil ?_
     refine zD hD ?_
     refine XD_one 3 rfl (by kernel_rfl) ?_
     refine XO_v0 (ev_max rfl rfl) rfl rfl rfl ?_
     refine XO_nil ?_
     refine zD hD ?_
     refine XD_one 4 rfl (by kernel_rfl) ?_
     refine XO_v0 (ev_rem rfl rfl (fun hg => by rw [maxI_one hbp]; omega)) rfl rfl rfl ?_
     refine XO_nil ?_
     refine zD hD ?_
     refine XD_one 6 rfl (by kernel_rfl) ?_
     refine zS szt_100 ?_
     refine XO_nil ?_
     refine zD hD ?_
     refine XD_done (by kernel_rfl) ?_
     refine at_noP ?_
     rw [show ((a : Int)).tmod (maxI (b : Int) 1) = ((a % b : Nat) : Int) by rw [maxI_one hbp, tmod_nat]]
     refine at_then ?_
     refine X_seq (X_region ?_)
     refine XO_v0 (ev_load rfl sct_100 (fun hg => by exact Cell.h0 rfl)) rfl rfl rfl ?_
     refine zC ?_
     refine XO_nil (at_then ?_)
     refine X_cond rfl (fun hc17 => ?_) (fun hc17 => ?_)
     ·
      have hab : a % b = 0 := by have h := hc17; simp only [beq_iff_eq] at h; omega
      have hpre2 : (pre ++ [a]) ++ [b] <+: remN a0 b0 := by rw [hrem, remN_end ha0 (by omega) hab, List.append_assoc]; exact List.prefix_rfl
      refine X_seq (X_region ?_)
      refine zM ?_
      refine XO_v0 (ev_load rfl sct_100 (fun hg => by exact Cell.h1 rfl)) rfl rfl rfl ?_
      refine XO_yield0 (vs := [_]) (Post := fun t I3 H3 => if t then J ((pre ++ [a]) ++ [b]) I3 H3 else Jx ((pre ++ [a]) ++ [b]) I3 H3) rfl rfl rfl rfl (hY (pre ++ [a]) b _ _ hpre2 (hI0.trans hI2) hJ1) ?_
      rintro t3 I3 H3 hI3 hP3
      refine XO_nil (at_then ?_)
      refine X_ret ?_
      refine at_block_r ?_
      refine at_then_r ?_
      refine at_block_r ?_
      first
      | (refine at_ret0 rfl (fun w hw => ⟨_, I3, H3, rfl, hI1.trans (hI2.trans hI3), hw.drop, ?_⟩); cases t3 with | true => exact .inl (by rw [hrem, remN_end ha0 (by omega) hab]; simpa using hP3) | false => exact .inr ⟨_, hpre2, hP3⟩)
     ·
      have hab : a % b ≠ 0 := by have h := hc17; simp only [beq_eq_false_iff_ne, ne_eq] at h; omega
      refine X_skip ?_
      refine at_block_n ?_
      exact at_metH2 rfl rfl rfl _ (remL 100 b1 b2 (b) (((a % b : Nat) : Int))) ⟨a % b, Nat.mod_lt _ hbp, b, a % b, pre ++ [a], rfl, rfl, rfl, hI1.trans hI2, hJ1, by rw [hrem, remN_step ha0 (by omega) hab, List.append_assoc]; rfl, by omega, by omega, by have := Nat.mod_lt a hbp; omega⟩ (.cons rfl (.cons rfl (.cons rfl .nil))) .refl
   ·
    refine XO_v0 (ev_load rfl sct_100 (fun hg => by exact Cell.h0 rfl)) rfl rfl rfl ?_
    refine XO_nil ?_
    refine zD hD ?_
    refine XD_two 1 3 rfl rfl (by kernel_rfl) ?_ ?_
    ·
     refine XO_v0 (ev_load rfl sct_100 (fun hg => by exact Cell.h1 rfl)) rfl rfl rfl ?_
     refine XO_nil ?_
     refine zD hD ?_
     refine XD_two 3 5 rfl rfl (by kernel_rfl) ?_ ?_
     ·
      refine XO_v0 (ev_max rfl rfl) rfl rfl rfl ?_
      refine XO_nil ?_
      refine zD hD ?_
      refine XD_two 4 5 rfl rfl (by kernel_rfl) ?_ ?_
      ·
       refine XO_v0 (ev_rem rfl rfl (fun hg => by rw [maxI_one hbp]; omega)) rfl rfl rfl ?_
       refine XO_nil ?_
       refine zD hD ?_
       refine XD_one 5 rfl (by kernel_rfl) ?_
       refine zS szt_100 ?_
       refine XO_nil ?_
       refine zD hD ?_
       refine XD_one 6 rfl (by kernel_rfl) ?_
       refine zS szt_100 ?_
       refine XO_nil ?_
       refine zD hD ?_
       refine XD_done (by kernel_rfl) ?_
       refine at_noP ?_
       rw [show ((a : Int)).tmod (maxI (b : Int) 1) = ((a % b : Nat) : Int) by rw [maxI_one hbp, tmod_nat]]
       refine at_then ?_
       refine X_seq (X_region ?_)
       refine XO_v0 (ev_load rfl sct_100 (fun hg => by exact Cell.h0 rfl)) rfl rfl rfl ?_
       refine zC ?_
       refine XO_nil (at_then ?_)
       refine X_cond rfl (fun hc17 => ?_) (fun hc17 => ?_)
       ·
        have hab : a % b = 0 := by have h := hc17; simp only [beq_iff_eq] at h; omega
        have hpre2 : (pre ++ [a]) ++ [b] <+: remN a0 b0 := by rw [hrem, remN_end ha0 (by omega) hab, List.append_assoc]; exact List.prefix_rfl
        refine X_seq (X_region ?_)
        refine zM ?_
        refine XO_v0 (ev_load rfl sct_100 (fun hg => by exact Cell.h1 rfl)) rfl rfl rfl ?_
        refine XO_yield0 (vs := [_]) (Post := fun t I3 H3 => if t then J ((pre ++ [a]) ++ [b]) I3 H3 else Jx ((pre ++ [a]) ++ [b]) I3 H3) rfl rfl rfl rfl (hY (pre ++ [a]) b _ _ hpre2 (hI0.trans hI2) hJ1) ?_
        rintro t3 I3 H3 hI3 hP3
        refine XO_nil (at_then ?_)
        refine X_ret ?_
        refine at_block_r ?_
        refine at_then_r ?_
        refine at_block_r ?_
        first
        | (refine at_ret0 rfl (fun w hw => ⟨_, I3, H3, rfl, hI1.trans (hI2.trans hI3), hw.drop, ?_⟩); cases t3 with | true => exact .inl (by rw [hrem, remN_end ha0 (by omega) hab]; simpa using hP3) | false => exact .inr ⟨_, hpre2, hP3⟩)
       ·
        have hab : a % b ≠ 0 := by have h := hc17; simp only [beq_eq_false_iff_ne, ne_eq] at h; omega
        refine X_skip ?_
        refine at_block_n ?_
        exact at_metH2 rfl rfl rfl _ (remL 100 b1 b2 (b) (((a % b : Nat) : Int))) ⟨a % b, Nat.mod_lt _ hbp, b, a % b, pre ++ [a], rfl, rfl, rfl, hI1.trans hI2, hJ1, by rw [hrem, remN_step ha0 (by omega) hab, List.append_assoc]; rfl, by omega, by omega, by have := Nat.mod_lt a hbp; omega⟩ (.cons rfl (.cons rfl (.cons rfl .nil))) .refl
      ·
       refine zS szt_100 ?_
       refine XO_nil ?_
       refine zD hD ?_
       refine XD_one 4 rfl (by kernel_rfl) ?_
       refine XO_v0 (ev_rem rfl rfl (fun hg => by rw [maxI_one hbp]; omega)) rfl rfl rfl ?_
       refine XO_nil ?_
       refine zD hD ?_
       refine XD_one 6 rfl (by kernel_rfl) ?_
       refine zS szt_100 ?_
       refine XO_nil ?_
       refine zD hD ?_
       refine XD_done (by kernel_rfl) ?_
       refine at_noP ?_
       rw [show ((a : Int)).tmod (maxI (b : Int) 1) = ((a % b : Nat) : Int) by rw [maxI_one hbp, tmod_nat]]
       refine at_then ?_
       refine X_seq (X_region ?_)
       refine XO_v0 (ev_load rfl sct_100 (fun hg => by exact Cell.h0 rfl)) rfl rfl rfl ?_
       refine zC ?_
       refine XO_nil (at_then ?_)
       refine X_cond rfl (fun hc17 => ?_) (fun hc17 => ?_)
       ·
        have hab : a % b = 0 := by have h := hc17; simp only [beq_iff_eq] at h; omega
        have hpre2 : (pre ++ [a]) ++ [b] <+: remN a0 b0 := by rw [hrem, remN_end ha0 (by omega) hab, List.append_assoc]; exact List.prefix_rfl
        refine X_seq (X_region ?_)
        refine zM ?_
        refine XO_v0 (ev_load rfl sct_100 (fun hg => by exact Cell.h1 rfl)) rfl rfl rfl ?_
        refine XO_yield0 (vs := [_]) (Post := fun t I3 H3 => if t then J ((pre ++ [a]) ++ [b]) I3 H3 else Jx ((pre ++ [a]) ++ [b]) I3 H3) rfl rfl rfl rfl (hY (pre ++ [a]) b _ _ hpre2 (hI0.trans hI2) hJ1) ?_
        rintro t3 I3 H3 hI3 hP3
        refine XO_nil (at_then ?_)
        refine X_ret ?_
        refine at_block_r ?_
        refine at_then_r ?_
        refine at_block_r ?_
        first
        | (refine at_ret0 rfl (fun w hw => ⟨_, I3, H3, rfl, hI1.trans (hI2.trans hI3), hw.drop, ?_⟩); cases t3 with | true => exact .inl (by rw [hrem, remN_end ha0 (by omega) hab]; simpa using hP3) | false => exact .inr ⟨_, hpre2, hP3⟩)
       ·
        have hab : a % b ≠ 0 := by have h := hc17; simp only [beq_eq_false_iff_ne, ne_eq] at h; omega
        refine X_skip ?_
        refine at_block_n ?_
        exact at_metH2 rfl rfl rfl _ (remL 100 b1 b2 (b) (((a % b : Nat) : Int))) ⟨a % b, Nat.mod_lt _ hbp, b, a % b, pre ++ [a], rfl, rfl, rfl, hI1.trans hI2, hJ1, by rw [hrem, remN_step ha0 (by omega) hab, List.append_assoc]; rfl, by omega, by omega, by have := Nat.mod_lt a hbp; omega⟩ (.cons rfl (.cons rfl (.cons rfl .nil))) .refl
     ·
      refine zS szt_100 ?_
      refine XO_nil ?_
      refine zD hD ?_
      refine XD_one 3 rfl (by kernel_rfl) ?_
      refine XO_v0 (ev_max rfl rfl) rfl rfl rfl ?_
      refine XO_nil ?_
      refine zD hD ?_
      refine XD_one 4 rfl (by kernel_rfl) ?_
      refine XO_v0 (ev_rem rfl rfl (fun hg => by rw [maxI_one hbp]; omega)) rfl rfl rfl ?_
      refine XO_nil ?_
      refine zD hD ?_
      refine XD_one 6 rfl (by kernel_rfl) ?_
      refine zS szt_100 ?_
      refine XO_nil ?_
      refine zD hD ?_
      refine XD_done (by kernel_rfl) ?_
      refine at_noP ?_
      rw [show ((a : Int)).tmod (maxI (b : Int) 1) = ((a % b : Nat) : Int) by rw [maxI_one hbp, tmod_nat]]
      refine at_then ?_
      refine X_seq (X_region ?_)
      refine XO_v0 (ev_load rfl sct_100 (fun hg => by exact Cell.h0 rfl)) rfl rfl rfl ?_
      refine zC ?_
      refine XO_nil (at_then ?_)
      refine X_cond rfl (fun hc17 => ?_) (fun hc17 => ?_)
      ·
       have hab : a % b = 0 := by have h := hc17; simp only [beq_iff_eq] at h; omega
       have hpre2 : (pre ++ [a]) ++ [b] <+: remN a0 b0 := by rw [hrem, remN_end ha0 (by omega) hab, List.append_assoc]; exact List.prefix_rfl
       refine X_seq (X_region ?_)
       refine zM ?_
       refine XO_v0 (ev_load rfl sct_100 (fun hg => by exact Cell.h1 rfl)) rfl rfl rfl ?_
       refine XO_yield0 (vs := [_]) (Post := fun t I3 H3 => if t then J ((pre ++ [a]) ++ [b]) I3 H3 else Jx ((pre ++ [a]) ++ [b]) I3 H3) rfl rfl rfl rfl (hY (pre ++ [a]) b _ _ hpre2 (hI0.trans hI2) hJ1) ?_
       rintro t3 I3 H3 hI3 hP3
       refine XO_nil (at_then ?_)
       refine X_ret ?_
       refine at_block_r ?_
       refine at_then_r ?_
       refine at_block_r ?_
       first
       | (refine at_ret0 rfl (fun w hw => ⟨_, I3, H3, rfl, hI1.trans (hI2.trans hI3), hw.drop, ?_⟩); cases t3 with | true => exact .inl (by rw [hrem, remN_end ha0 (by omega) hab]; simpa using hP3) | false => exact .inr ⟨_, hpre2, hP3⟩)
      ·
       have hab : a % b ≠ 0 := by have h := hc17; simp only [beq_eq_false_iff_ne, ne_eq] at h; omega
       refine X_skip ?_
       refine at_block_n ?_
       exact at_metH2 rfl rfl rfl _ (remL 100 b1 b2 (b) (((a % b : Nat) : Int))) ⟨a % b, Nat.mod_lt _ hbp, b, a % b, pre ++ [a], rfl, rfl, rfl, hI1.trans hI2, hJ1, by rw [hrem, remN_step ha0 (by omega) hab, List.append_assoc]; rfl, by omega, by omega, by have := Nat.mod_lt a hbp; omega⟩ (.cons rfl (.cons rfl (.cons rfl .nil))) .refl
    ·
     refine XO_v0 (ev_max rfl rfl) rfl rfl rfl ?_
     refine XO_nil ?_
     refine zD hD ?_
     refine XD_one 1 rfl (by kernel_rfl) ?_
     refine XO_v0 (ev_load rfl sct_100 (fun hg => by exact Cell.h1 rfl)) rfl rfl rfl ?_
     refine XO_nil ?_
     refine zD hD ?_
     refine XD_two 4 5 rfl rfl (by kernel_rfl) ?_ ?_
     ·
      refine XO_v0 (ev_rem rfl rfl (fun hg => by rw [maxI_one hbp]; omega)) rfl rfl rfl ?_
      refine XO_nil ?_
      refine zD hD ?_
      refine XD_one 5 rfl (by kernel_rfl) ?_
      refine zS szt_100 ?_
      refine XO_nil ?_
      refine zD hD ?_
      refine XD_one 6 rfl (by kernel_rfl) ?_
      refine zS szt_100 ?_
      refine XO_nil ?_
      refine zD hD ?_
      refine XD_done (by kernel_rfl) ?_
      refine at_noP ?_
      rw [show ((a : Int)).tmod (maxI (b : Int) 1) = ((a % b : Nat) : Int) by rw [maxI_one hbp, tmod_nat]]
      refine at_then ?_
      refine X_seq (X_region ?_)
      refine XO_v0 (ev_load rfl sct_100 (fun hg => by exact Cell.h0 rfl)) rfl rfl rfl ?_
      refine zC ?_
      refine XO_nil (at_then ?_)
      refine X_cond rfl (fun hc17 => ?_) (fun hc17 => ?_)
      ·
       have hab : a % b = 0 := by have h := hc17; simp only [beq_iff_eq] at h; omega
       have hpre2 : (pre ++ [a]) ++ [b] <+: remN a0 b0 := by rw [hrem, remN_end ha0 (by omega) hab, List.append_assoc]; exact List.prefix_rfl
       refine X_seq (X_region ?_)
       refine zM ?_
       refine XO_v0 (ev_load rfl sct_100 (fun hg => by exact Cell.h1 rfl)) rfl rfl rfl ?_
       refine XO_yield0 (vs := [_]) (Post := fun t I3 H3 => if t then J ((pre ++ [a]) ++ [b]) I3 H3 else Jx ((pre ++ [a]) ++ [b]) I3 H3) rfl rfl rfl rfl (hY (pre ++ [a]) b _ _ hpre2 (hI0.trans hI2) hJ1) ?_
       rintro t3 I3 H3 hI3 hP3
       refine XO_nil (at_then ?_)
       refine X_ret ?_
       refine at_block_r ?_
       refine at_then_r ?_
       refine at_block_r ?_
       first
       | (refine at_ret0 rfl (fun w hw => ⟨_, I3, H3, rfl, hI1.trans (hI2.trans hI3), hw.drop, ?_⟩); cases t3 with | true => exact .inl (by rw [hrem, remN_end ha0 (by omega) hab]; simpa using hP3) | false => exact .inr ⟨_, hpre2, hP3⟩)
      ·
       have hab : a % b ≠ 0 := by have h := hc17; simp only [beq_eq_false_iff_ne, ne_eq] at h; omega
       refine X_skip ?_
       refine at_block_n ?_
       exact at_metH2 rfl rfl rfl _ (remL 100 b1 b2 (b) (((a % b : Nat) : Int))) ⟨a % b, Nat.mod_lt _ hbp, b, a % b, pre ++ [a], rfl, rfl, rfl, hI1.trans hI2, hJ1, by rw [hrem, remN_step ha0 (by omega) hab, List.append_assoc]; rfl, by omega, by omega, by have := Nat.mod_lt a hbp; omega⟩ (.cons rfl (.cons rfl (.cons rfl .nil))) .refl
     ·
      refine zS szt_100 ?_
      refine XO_nil ?_
      refine zD hD ?_
      refine XD_one 4 rfl (by kernel_rfl) ?_
      refine XO_v0 (ev_rem rfl rfl (fun hg => by rw [maxI_one hbp]; omega)) rfl rfl rfl ?_
      refine XO_nil ?_
      refine zD hD ?_
      refine XD_one 6 rfl (by kernel_rfl) ?_
      refine zS szt_100 ?_
      refine XO_nil ?_
      refine zD hD ?_
      refine XD_done (by kernel_rfl) ?_
      refine at_noP ?_
      rw [show ((a : Int)).tmod (maxI (b : Int) 1) = ((a % b : Nat) : Int) by rw [maxI_one hbp, tmod_nat]]
      refine at_then ?_
      refine X_seq (X_region ?_)
      refine XO_v0 (ev_load rfl sct_100 (fun hg => by exact Cell.h0 rfl)) rfl rfl rfl ?_
      refine zC ?_
      refine XO_nil (at_then ?_)
      refine X_cond rfl (fun hc17 => ?_) (fun hc17 => ?_)
      ·
       have hab : a % b = 0 := by have h := hc17; simp only [beq_iff_eq] at h; omega
       have hpre2 : (pre ++ [a]) ++ [b] <+: remN a0 b0 := by rw [hrem, remN_end ha0 (by omega) hab, List.append_assoc]; exact List.prefix_rfl
       refine X_seq (X_region ?_)
       refine zM ?_
       refine XO_v0 (ev_load rfl sct_100 (fun hg => by exact Cell.h1 rfl)) rfl rfl rfl ?_
       refine XO_yield0 (vs := [_]) (Post := fun t I3 H3 => if t then J ((pre ++ [a]) ++ [b]) I3 H3 else Jx ((pre ++ [a]) ++ [b]) I3 H3) rfl rfl rfl rfl (hY (pre ++ [a]) b _ _ hpre2 (hI0.trans hI2) hJ1) ?_
       rintro t3 I3 H3 hI3 hP3
       refine XO_nil (at_then ?_)
       refine X_ret ?_
       refine at_block_r ?_
       refine at_then_r ?_
       refine at_block_r ?_
       first
       | (refine at_ret0 rfl (fun w hw => ⟨_, I3, H3, rfl, hI1.trans (hI2.trans hI3), hw.drop, ?_⟩); cases t3 with | true => exact .inl (by rw [hrem, remN_end ha0 (by omega) hab]; simpa using hP3) | false => exact .inr ⟨_, hpre2, hP3⟩)
      ·
       have hab : a % b ≠ 0 := by have h := hc17; simp only [beq_eq_false_iff_ne, ne_eq] at h; omega
       refine X_skip ?_
       refine at_block_n ?_
       exact at_metH2 rfl rfl rfl _ (remL 100 b1 b2 (b) (((a % b : Nat) : Int))) ⟨a % b, Nat.mod_lt _ hbp, b, a % b, pre ++ [a], rfl, rfl, rfl, hI1.trans hI2, hJ1, by rw [hrem, remN_step ha0 (by omega) hab, List.append_assoc]; rfl, by omega, by omega, by have := Nat.mod_lt a hbp; omega⟩ (.cons rfl (.cons rfl (.cons rfl .nil))) .refl
  ·
   refine XO_v0 (ev_load rfl sct_100 (fun hg => by exact Cell.h1 rfl)) rfl rfl rfl ?_
   refine XO_nil ?_
   refine zD hD ?_
   refine XD_two 0 2 rfl rfl (by kernel_rfl) ?_ ?_
   ·
    refine XO_v0 (ev_load rfl sct_100 (fun hg => by exact Cell.h0 rfl)) rfl rfl rfl ?_
    refine XO_nil ?_
    refine zD hD ?_
    refine XD_two 2 5 rfl rfl (by kernel_rfl) ?_ ?_
    ·
     refine XO_v0 (ev_load rfl sct_100 (fun hg => by exact Cell.h0 rfl)) rfl rfl rfl ?_
     refine XO_nil ?_
     refine zD hD ?_
     refine XD_two 3 5 rfl rfl (by kernel_rfl) ?_ ?_
     ·
      refine XO_v0 (ev_max rfl rfl) rfl rfl rfl ?_
      refine XO_nil ?_
      refine zD hD ?_
      refine XD_two 4 5 rfl rfl (by kernel_rfl) ?_ ?_
      ·
       refine XO_v0 (ev_rem rfl rfl (fun hg => by rw [maxI_one hbp]; omega)) rfl rfl rfl ?_
       refine XO_nil ?_
       refine zD hD ?_
       refine XD_one 5 rfl (by kernel_rfl) ?_
       refine zS szt_100 ?_
       refine XO_nil ?_
       refine zD hD ?_
       refine XD_one 6 rfl (by kernel_rfl) ?_
       refine zS szt_100 ?_
       refine XO_nil ?_
       refine zD hD ?_
       refine XD_done (by kernel_rfl) ?_
       refine at_noP ?_
       rw [show ((a : Int)).tmod (maxI (b : Int) 1) = ((a % b : Nat) : Int) by rw [maxI_one hbp, tmod_nat]]
       refine at_then ?_
       refine X_seq (X_region ?_)
       refine XO_v0 (ev_load rfl sct_100 (fun hg => by exact Cell.h0 rfl)) rfl rfl rfl ?_
       refine zC ?_
       refine XO_nil (at_then ?_)
       refine X_cond rfl (fun hc17 => ?_) (fun hc17 => ?_)
       ·
        have hab : a % b = 0 := by have h := hc17; simp only [beq_iff_eq] at h; omega
        have hpre2 : (pre ++ [a]) ++ [b] <+: remN a0 b0 := by rw [hrem, remN_end ha0 (by omega) hab, List.append_assoc]; exact List.prefix_rfl
        refine X_seq (X_region ?_)
        refine zM ?_
        refine XO_v0 (ev_load rfl sct_100 (fun hg => by exact Cell.h1 rfl)) rfl rfl rfl ?_
        refine XO_yield0 (vs := [_]) (Post := fun t I3 H3 => if t then J ((pre ++ [a]) ++ [b]) I3 H3 else Jx ((pre ++ [a]) ++ [b]) I3 H3) rfl rfl rfl rfl (hY (pre ++ [a]) b _ _ hpre2 (hI0.trans hI2) hJ1) ?_
        rintro t3 I3 H3 hI3 hP3
        refine XO_nil (at_then ?_)
        refine X_ret ?_
        refine at_block_r ?_
        refine at_then_r ?_
        refine at_block_r ?_
        first
        | (refine at_ret0 rfl (fun w hw => ⟨_, I3, H3, rfl, hI1.trans (hI2.trans hI3), hw.drop, ?_⟩); cases t3 with | true => exact .inl (by rw [hrem, remN_end ha0 (by omega) hab]; simpa using hP3) | false => exact .inr ⟨_, hpre2, hP3⟩)
       ·
        have hab : a % b ≠ 0 := by have h := hc17; simp only [beq_eq_false_iff_ne, ne_eq] at h; omega
        refine X_skip ?_
        refine at_block_n ?_
        exact at_metH2 rfl rfl rfl _ (remL 100 b1 b2 (b) (((a % b : Nat) : Int))) ⟨a % b, Nat.mod_lt _ hbp, b, a % b, pre ++ [a], rfl, rfl, rfl, hI1.trans hI2, hJ1, by rw [hrem, remN_step ha0 (by omega) hab, List.append_assoc]; rfl, by omega, by omega, by have := Nat.mod_lt a hbp; omega⟩ (.cons rfl (.cons rfl (.cons rfl .nil))) .refl
      ·
       refine zS szt_100 ?_
       refine XO_nil ?_
       refine zD hD ?_
       refine XD_one 4 rfl (by kernel_rfl) ?_
       refine XO_v0 (ev_rem rfl rfl (fun hg => by rw [maxI_one hbp]; omega)) rfl rfl rfl ?_
       refine XO_nil ?_
       refine zD hD ?_
       refine XD_one 6 rfl (by kernel_rfl) ?_
       refine zS szt_100 ?_
       refine XO_nil ?_
       refine zD hD ?_
       refine XD_done (by kernel_rfl) ?_
       refine at_noP ?_
       rw [show ((a : Int)).tmod (maxI (b : Int) 1) = ((a % b : Nat) : Int) by rw [maxI_one hbp, tmod_nat]]
       refine at_then ?_
       refine X_seq (X_region ?_)
       refine XO_v0 (ev_load rfl sct_100 (fun hg => by exact Cell.h0 rfl)) rfl rfl rfl ?_
       refine zC ?_
       refine XO_nil (at_then ?_)
       refine X_cond rfl (fun hc17 => ?_) (fun hc17 => ?_)
       ·
        have hab : a % b = 0 := by have h := hc17; simp only [beq_iff_eq] at h; omega
        have hpre2 : (pre ++ [a]) ++ [b] <+: remN a0 b0 := by rw [hrem, remN_end ha0 (by omega) hab, List.append_assoc]; exact List.prefix_rfl
        refine X_seq (X_region ?_)
        refine zM ?_
        refine XO_v0 (ev_load rfl sct_100 (fun hg => by exact Cell.h1 rfl)) rfl rfl rfl ?_
        refine XO_yield0 (vs := [_]) (Post := fun t I3 H3 => if t then J ((pre ++ [a]) ++ [b]) I3 H3 else Jx ((pre ++ [a]) ++ [b]) I3 H3) rfl rfl rfl rfl (hY (pre ++ [a]) b _ _ hpre2 (hI0.trans hI2) hJ1) ?_
        rintro t3 I3 H3 hI3 hP3
        refine XO_nil (at_then ?_)
        refine X_ret ?_
        refine at_block_r ?_
        refine at_then_r ?_
        refine at_block_r ?_
        first
        | (refine at_ret0 rfl (fun w hw => ⟨_, I3, H3, rfl, hI1.trans (hI2.trans hI3), hw.drop, ?_⟩); cases t3 with | true => exact .inl (by rw [hrem, remN_end ha0 (by omega) hab]; simpa using hP3) | false => exact .inr ⟨_, hpre2, hP3⟩)
       ·
        have hab : a % b ≠ 0 := by have h := hc17; simp only [beq_eq_false_iff_ne, ne_eq] at h; omega
        refine X_skip ?_
        refine at_block_n ?_
        exact at_metH2 rfl rfl rfl _ (remL 100 b1 b2 (b) (((a % b : Nat) : Int))) ⟨a % b, Nat.mod_lt _ hbp, b, a % b, pre ++ [a], rfl, rfl, rfl, hI1.trans hI2, hJ1, by rw [hrem, remN_step ha0 (by omega) hab, List.append_assoc]; rfl, by omega, by omega, by have := Nat.mod_lt a hbp; omega⟩ (.cons rfl (.cons rfl (.cons rfl .nil))) .refl
     ·
      refine zS szt_100 ?_
      refine XO_nil ?_
      refine zD hD ?_
      refine XD_one 3 rfl (by kernel_rfl) ?_
      refine XO_v0 (ev_max rfl rfl) rfl rfl rfl ?_
      refine XO_nil ?_
      refine zD hD ?_
      refine XD_one 4 rfl (by kernel_rfl) ?_
      refine XO_v0 (ev_rem rfl rfl (fun hg => by rw [maxI_one hbp]; omega)) rfl rfl rfl ?_
      refine XO_nil ?_
      refine zD hD ?_
      refine XD_one 6 rfl (by kernel_rfl) ?_
      refine zS szt_100 ?_
      refine XO_nil ?_
      refine zD hD ?_
      refine XD_done (by kernel_rfl) ?_
      refine at_noP ?_
      rw [show ((a : Int)).tmod (maxI (b : Int) 1) = ((a % b : Nat) : Int) by rw [maxI_one hbp, tmod_nat]]
      refine at_then ?_
      refine X_seq (X_region ?_)
      refine XO_v0 (ev_load rfl sct_100 (fun hg => by exact Cell.h0 rfl)) rfl rfl rfl ?_
      refine zC ?_
      refine XO_nil (at_then ?_)
      refine X_cond rfl (fun hc17 => ?_) (fun hc17 => ?_)
      ·
       have hab : a % b = 0 := by have h := hc17; simp only [beq_iff_eq] at h; omega
       have hpre2 : (pre ++ [a]) ++ [b] <+: remN a0 b0 := by rw [hrem, remN_end ha0 (by omega) hab, List.append_assoc]; exact List.prefix_rfl
       refine X_seq (X_region ?_)
       refine zM ?_
       refine XO_v0 (ev_load rfl sct_100 (fun hg => by exact Cell.h1 rfl)) rfl rfl rfl ?_
       refine XO_yield0 (vs := [_]) (Post := fun t I3 H3 => if t then J ((pre ++ [a]) ++ [b]) I3 H3 else Jx ((pre ++ [a]) ++ [b]) I3 H3) rfl rfl rfl rfl (hY (pre ++ [a]) b _ _ hpre2 (hI0.trans hI2) hJ1) ?_
       rintro t3 I3 H3 hI3 hP3
       refine XO_nil (at_then ?_)
       refine X_ret ?_
       refine at_block_r ?_
       refine at_then_r ?_
       refine at_block_r ?_
       first
       | (refine at_ret0 rfl (fun w hw => ⟨_, I3, H3, rfl, hI1.trans (hI2.trans hI3), hw.drop, ?_⟩); cases t3 with | true => exact .inl (by rw [hrem, remN_end ha0 (by omega) hab]; simpa using hP3) | false => exact .inr ⟨_, hpre2, hP3⟩)
      ·
       have hab : a % b ≠ 0 := by have h := hc17; simp only [beq_eq_false_iff_ne, ne_eq] at h; omega
       refine X_skip ?_
       refine at_block_n ?_
       exact at_metH2 rfl rfl rfl _ (remL 100 b1 b2 (b) (((a % b : Nat) : Int))) ⟨a % b, Nat.mod_lt _ hbp, b, a % b, pre ++ [a], rfl, rfl, rfl, hI1.trans hI2, hJ1, by rw [hrem, remN_step ha0 (by omega) hab, List.append_assoc]; rfl, by omega, by omega, by have := Nat.mod_lt a hbp; omega⟩ (.cons rfl (.cons rfl (.cons rfl .nil))) .refl
    ·
     refine zS szt_100 ?_
     refine XO_nil ?_
     refine zD hD ?_
     refine XD_one 2 rfl (by kernel_rfl) ?_
     refine XO_v0 (ev_load rfl sct_100 (fun hg => by exact Cell.h0 rfl)) rfl rfl rfl ?_
     refine XO_nil ?_
     refine zD hD ?_
     refine XD_one 3 rfl (by kernel_rfl) ?_
     refine XO_v0 (ev_max rfl rfl) rfl rfl rfl ?_
     refine XO_nil ?_
     refine zD hD ?_
     refine XD_one 4 rfl (by kernel_rfl) ?_
     refine XO_v0 (ev_rem rfl rfl (fun hg => by rw [maxI_one hbp]; omega)) rfl rfl rfl ?_
     refine XO_nil ?_
     refine zD hD ?_
     refine XD_one 6 rfl (by kernel_rfl) ?_
     refine zS szt_100 ?_
     refine XO_nil ?_
     refine zD hD ?_
     refine XD_done (by kernel_rfl) ?_
     refine at_noP ?_
     rw [show ((a : Int)).tmod (maxI (b : Int) 1) = ((a % b : Nat) : Int) by rw [maxI_one hbp, tmod_nat]]
     refine at_then ?_
     refine X_seq (X_region ?_)
     refine XO_v0 (ev_load rfl sct_100 (fun hg => by exact Cell.h0 rfl)) rfl rfl rfl ?_
     refine zC ?_
     refine XO_nil (at_then ?_)
     refine X_cond rfl (fun hc17 => ?_) (fun hc17 => ?_)
     ·
      have hab : a % b = 0 := by have h := hc17; simp only [beq_iff_eq] at h; omega
      have hpre2 : (pre ++ [a]) ++ [b] <+: remN a0 b0 := by rw [hrem, remN_end ha0 (by omega) hab, List.append_assoc]; exact List.prefix_rfl
      refine X_seq (X_region ?_)
      refine zM ?_
      refine XO_v0 (ev_load rfl sct_100 (fun hg => by exact Cell.h1 rfl)) rfl rfl rfl ?_
      refine XO_yield0 (vs := [_]) (Post := fun t I3 H3 => if t then J ((pre ++ [a]) ++ [b]) I3 H3 else Jx ((pre ++ [a]) ++ [b]) I3 H3) rfl rfl rfl rfl (hY (pre ++ [a]) b _ _ hpre2 (hI0.trans hI2) hJ1) ?_
      rintro t3 I3 H3 hI3 hP3
      refine XO_nil (at_then ?_)
      refine X_ret ?_
      refine at_block_r ?_
      refine at_then_r ?_
      refine at_block_r ?_
      first
      | (refine at_ret0 rfl (fun w hw => ⟨_, I3, H3, rfl, hI1.trans (hI2.trans hI3), hw.drop, ?_⟩); cases t3 with | true => exact .inl (by rw [hrem, remN_end ha0 (by omega) hab]; simpa using hP3) | false => exact .inr ⟨_, hpre2, hP3⟩)
     ·
      have hab : a % b ≠ 0 := by have h := hc17; simp only [beq_eq_false_iff_ne, ne_eq] at h; omega
      refine X_skip ?_
      refine at_block_n ?_
      exact at_metH2 rfl rfl rfl _ (remL 100 b1 b2 (b) (((a % b : Nat) : Int))) ⟨a % b, Nat.mod_lt _ hbp, b, a % b, pre ++ [a], rfl, rfl, rfl, hI1.trans hI2, hJ1, by rw [hrem, remN_step ha0 (by omega) hab, List.append_assoc]; rfl, by omega, by omega, by have := Nat.mod_lt a hbp; omega⟩ (.cons rfl (.cons rfl (.cons rfl .nil))) .refl
   ·
    refine XO_v0 (ev_load rfl sct_100 (fun hg => by exact Cell.h0 rfl)) rfl rfl rfl ?_
    refine XO_nil ?_
    refine zD hD ?_
    refine XD_two 0 3 rfl rfl (by kernel_rfl) ?_ ?_
    ·
     refine XO_v0 (ev_load rfl sct_100 (fun hg => by exact Cell.h0 rfl)) rfl rfl rfl ?_
     refine XO_nil ?_
     refine zD hD ?_
     refine XD_two 3 5 rfl rfl (by kernel_rfl) ?_ ?_
     ·
      refine XO_v0 (ev_max rfl rfl) rfl rfl rfl ?_
      refine XO_nil ?_
      refine zD hD ?_
      refine XD_two 4 5 rfl rfl (by kernel_rfl) ?_ ?_
      ·
       refine XO_v0 (ev_rem rfl rfl (fun hg => by rw [maxI_one hbp]; omega)) rfl rfl rfl ?_
       refine XO_nil ?_
       refine zD hD ?_
       refine XD_one 5 rfl (by kernel_rfl) ?_
       refine zS szt_100 ?_
       refine XO_nil ?_
       refine zD hD ?_
       refine XD_one 6 rfl (by kernel_rfl) ?_
       refine zS szt_100 ?_
       refine XO_nil ?_
       refine zD hD ?_
       refine XD_done (by kernel_rfl) ?_
       refine at_noP ?_
       rw [show ((a : Int)).tmod (maxI (b : Int) 1) = ((a % b : Nat) : Int) by rw [maxI_one hbp, tmod_nat]]
       refine at_then ?_
       refine X_seq (X_region ?_)
       refine XO_v0 (ev_load rfl sct_100 (fun hg => by exact Cell.h0 rfl)) rfl rfl rfl ?_
       refine zC ?_
       refine XO_nil (at_then ?_)
       refine X_cond rfl (fun hc17 => ?_) (fun hc17 => ?_)
       ·
        have hab : a % b = 0 := by have h := hc17; simp only [beq_iff_eq] at h; omega
        have hpre2 : (pre ++ [a]) ++ [b] <+: remN a0 b0 := by rw [hrem, remN_end ha0 (by omega) hab, List.append_assoc]; exact List.prefix_rfl
        refine X_seq (X_region ?_)
        refine zM ?_
        refine XO_v0 (ev_load rfl sct_100 (fun hg => by exact Cell.h1 rfl)) rfl rfl rfl ?_
        refine XO_yield0 (vs := [_]) (Post := fun t I3 H3 => if t then J ((pre ++ [a]) ++ [b]) I3 H3 else Jx ((pre ++ [a]) ++ [b]) I3 H3) rfl rfl rfl rfl (hY (pre ++ [a]) b _ _ hpre2 (hI0.trans hI2) hJ1) ?_
        rintro t3 I3 H3 hI3 hP3
        refine XO_nil (at_then ?_)
        refine X_ret ?_
        refine at_block_r ?_
        refine at_then_r ?_
        refine at_block_r ?_
        first
        | (refine at_ret0 rfl (fun w hw => ⟨_, I3, H3, rfl, hI1.trans (hI2.trans hI3), hw.drop, ?_⟩); cases t3 with | true => exact .inl (by rw [hrem, remN_end ha0 (by omega) hab]; simpa using hP3) | false => exact .inr ⟨_, hpre2, hP3⟩)
       ·
        have hab : a % b ≠ 0 := by have h := hc17; simp only [beq_eq_false_iff_ne, ne_eq] at h; omega
        refine X_skip ?_
        refine at_block_n ?_
        exact at_metH2 rfl rfl rfl _ (remL 100 b1 b2 (b) (((a % b : Nat) : Int))) ⟨a % b, Nat.mod_lt _ hbp, b, a % b, pre ++ [a], rfl, rfl, rfl, hI1.trans hI2, hJ1, by rw [hrem, remN_step ha0 (by omega) hab, List.append_assoc]; rfl, by omega, by omega, by have := Nat.mod_lt a hbp; omega⟩ (.cons rfl (.cons rfl (.cons rfl .nil))) .refl
      ·
       refine zS szt_100 ?_
       refine XO_nil ?_
       refine zD hD ?_
       refine XD_one 4 rfl (by kernel_rfl) ?_
       refine XO_v0 (ev_rem rfl rfl (fun hg => by rw [maxI_one hbp]; omega)) rfl rfl rfl ?_
       refine XO_nil ?_
       refine zD hD ?_
       refine XD_one 6 rfl (by kernel_rfl) ?_
       refine zS szt_100 ?_
       refine XO_nil ?_
       refine zD hD ?_
       refine XD_done (by kernel_rfl) ?_
       refine at_noP ?_
       rw [show ((a : Int)).tmod (maxI (b : Int) 1) = ((a % b : Nat) : Int) by rw [maxI_one hbp, tmod_nat]]
       refine at_then ?_
       refine X_seq (X_region ?_)
       refine XO_v0 (ev_load rfl sct_100 (fun hg => by exact Cell.h0 rfl)) rfl rfl rfl ?_
       refine zC ?_
       refine XO_nil (at_then ?_)
       refine X_cond rfl (fun hc17 => ?_) (fun hc17 => ?_)
       ·
        have hab : a % b = 0 := by have h := hc17; simp only [beq_iff_eq] at h; omega
        have hpre2 : (pre ++ [a]) ++ [b] <+: remN a0 b0 := by rw [hrem, remN_end ha0 (by omega) hab, List.append_assoc]; exact List.prefix_rfl
        refine X_seq (X_region ?_)
        refine zM ?_
        refine XO_v0 (ev_load rfl sct_100 (fun hg => by exact Cell.h1 rfl)) rfl rfl rfl ?_
        refine XO_yield0 (vs := [_]) (Post := fun t I3 H3 => if t then J ((pre ++ [a]) ++ [b]) I3 H3 else Jx ((pre ++ [a]) ++ [b]) I3 H3) rfl rfl rfl rfl (hY (pre ++ [a]) b _ _ hpre2 (hI0.trans hI2) hJ1) ?_
        rintro t3 I3 H3 hI3 hP3
        refine XO_nil (at_then ?_)
        refine X_ret ?_
        refine at_block_r ?_
        refine at_then_r ?_
        refine at_block_r ?_
        first
        | (refine at_ret0 rfl (fun w hw => ⟨_, I3, H3, rfl, hI1.trans (hI2.trans hI3), hw.drop, ?_⟩); cases t3 with | true => exact .inl (by rw [hrem, remN_end ha0 (by omega) hab]; simpa using hP3) | false => exact .inr ⟨_, hpre2, hP3⟩)
       ·
        have hab : a % b ≠ 0 := by have h := hc17; simp only [beq_eq_false_iff_ne, ne_eq] at h; omega
        refine X_skip ?_
        refine at_block_n ?_
        exact at_metH2 rfl rfl rfl _ (remL 100 b1 b2 (b) (((a % b : Nat) : Int))) ⟨a % b, Nat.mod_lt _ hbp, b, a % b, pre ++ [a], rfl, rfl, rfl, hI1.trans hI2, hJ1, by rw [hrem, remN_step ha0 (by omega) hab, List.append_assoc]; rfl, by omega, by omega, by have := Nat.mod_lt a hbp; omega⟩ (.cons rfl (.cons rfl (.cons rfl .nil))) .refl
     ·
      refine zS szt_100 ?_
      refine XO_nil ?_
      refine zD hD ?_
      refine XD_one 3 rfl (by kernel_rfl) ?_
      refine XO_v0 (ev_max rfl rfl) rfl rfl rfl ?_
      refine XO_nil ?_
      refine zD hD ?_
      refine XD_one 4 rfl (by kernel_rfl) ?_
      refine XO_v0 (ev_rem rfl rfl (fun hg => by rw [maxI_one hbp]; omega)) rfl rfl rfl ?_
      refine XO_nil ?_
      refine zD hD ?_
      refine XD_one 6 rfl (by kernel_rfl) ?_
      refine zS szt_100 ?_
      refine XO_nil ?_
      refine zD hD ?_
      refine XD_done (by kernel_rfl) ?_
      refine at_noP ?_
      rw [show ((a : Int)).tmod (maxI (b : Int) 1) = ((a % b : Nat) : Int) by rw [maxI_one hbp, tmod_nat]]
      refine at_then ?_
      refine X_seq (X_region ?_)
      refine XO_v0 (ev_load rfl sct_100 (fun hg => by exact Cell.h0 rfl)) rfl rfl rfl ?_
      refine zC ?_
      refine XO_nil (at_then ?_)
      refine X_cond rfl (fun hc17 => ?_) (fun hc17 => ?_)
      ·
       have hab : a % b = 0 := by have h := hc17; simp only [beq_iff_eq] at h; omega
       have hpre2 : (pre ++ [a]) ++ [b] <+: remN a0 b0 := by rw [hrem, remN_end ha0 (by omega) hab, List.append_assoc]; exact List.prefix_rfl
       refine X_seq (X_region ?_)
       refine zM ?_
       refine XO_v0 (ev_load rfl sct_100 (fun hg => by exact Cell.h1 rfl)) rfl rfl rfl ?_
       refine XO_yield0 (vs := [_]) (Post := fun t I3 H3 => if t then J ((pre ++ [a]) ++ [b]) I3 H3 else Jx ((pre ++ [a]) ++ [b]) I3 H3) rfl rfl rfl rfl (hY (pre ++ [a]) b _ _ hpre2 (hI0.trans hI2) hJ1) ?_
       rintro t3 I3 H3 hI3 hP3
       refine XO_nil (at_then ?_)
       refine X_ret ?_
       refine at_block_r ?_
       refine at_then_r ?_
       refine at_block_r ?_
       first
       | (refine at_ret0 rfl (fun w hw => ⟨_, I3, H3, rfl, hI1.trans (hI2.trans hI3), hw.drop, ?_⟩); cases t3 with | true => exact .inl (by rw [hrem, remN_end ha0 (by omega) hab]; simpa using hP3) | false => exact .inr ⟨_, hpre2, hP3⟩)
      ·
       have hab : a % b ≠ 0 := by have h := hc17; simp only [beq_eq_false_iff_ne, ne_eq] at h; omega
       refine X_skip ?_
       refine at_block_n ?_
       exact at_metH2 rfl rfl rfl _ (remL 100 b1 b2 (b) (((a % b : Nat) : Int))) ⟨a % b, Nat.mod_lt _ hbp, b, a % b, pre ++ [a], rfl, rfl, rfl, hI1.trans hI2, hJ1, by rw [hrem, remN_step ha0 (by omega) hab, List.append_assoc]; rfl, by omega, by omega, by have := Nat.mod_lt a hbp; omega⟩ (.cons rfl (.cons rfl (.cons rfl .nil))) .refl
    ·
     refine XO_v0 (ev_max rfl rfl) rfl rfl rfl ?_
     refine XO_nil ?_
     refine zD hD ?_
     refine XD_two 0 4 rfl rfl (by kernel_rfl) ?_ ?_
     ·
      refine XO_v0 (ev_load rfl sct_100 (fun hg => by exact Cell.h0 rfl)) rfl rfl rfl ?_
      refine XO_nil ?_
      refine zD hD ?_
      refine XD_two 4 5 rfl rfl (by kernel_rfl) ?_ ?_
      ·
       refine XO_v0 (ev_rem rfl rfl (fun hg => by rw [maxI_one hbp]; omega)) rfl rfl rfl ?_
       refine XO_nil ?_
       refine zD hD ?_
       refine XD_one 5 rfl (by kernel_rfl) ?_
       refine zS szt_100 ?_
       refine XO_nil ?_
       refine zD hD ?_
       refine XD_one 6 rfl (by kernel_rfl) ?_
       refine zS szt_100 ?_
       refine XO_nil ?_
       refine zD hD ?_
       refine XD_done (by kernel_rfl) ?_
       refine at_noP ?_
       rw [show ((a : Int)).tmod (maxI (b : Int) 1) = ((a % b : Nat) : Int) by rw [maxI_one hbp, tmod_nat]]
       refine at_then ?_
       refine X_seq (X_region ?_)
       refine XO_v0 (ev_load rfl sct_100 (fun hg => by exact Cell.h0 rfl)) rfl rfl rfl ?_
       refine zC ?_
       refine XO_nil (at_then ?_)
       refine X_cond rfl (fun hc17 => ?_) (fun hc17 => ?_)
       ·
        have hab : a % b = 0 := by have h := hc17; simp only [beq_iff_eq] at h; omega
        have hpre2 : (pre ++ [a]) ++ [b] <+: remN a0 b0 := by rw [hrem, remN_end ha0 (by omega) hab, List.append_assoc]; exact List.prefix_rfl
        refine X_seq (X_region ?_)
        refine zM ?_
        refine XO_v0 (ev_load rfl sct_100 (fun hg => by exact Cell.h1 rfl)) rfl rfl rfl ?_
        refine XO_yield0 (vs := [_]) (Post := fun t I3 H3 => if t then J ((pre ++ [a]) ++ [b]) I3 H3 else Jx ((pre ++ [a]) ++ [b]) I3 H3) rfl rfl rfl rfl (hY (pre ++ [a]) b _ _ hpre2 (hI0.trans hI2) hJ1) ?_
        rintro t3 I3 H3 hI3 hP3
        refine XO_nil (at_then ?_)
        refine X_ret ?_
        refine at_block_r ?_
        refine at_then_r ?_
        refine at_block_r ?_
        first
        | (refine at_ret0 rfl (fun w hw => ⟨_, I3, H3, rfl, hI1.trans (hI2.trans hI3), hw.drop, ?_⟩); cases t3 with | true => exact .inl (by rw [hrem, remN_end ha0 (by omega) hab]; simpa using hP3) | false => exact .inr ⟨_, hpre2, hP3⟩)
       ·
        have hab : a % b ≠ 0 := by have h := hc17; simp only [beq_eq_false_iff_ne, ne_eq] at h; omega
        refine X_skip ?_
        refine at_block_n ?_
        exact at_metH2 rfl rfl rfl _ (remL 100 b1 b2 (b) (((a % b : Nat) : Int))) ⟨a % b, Nat.mod_lt _ hbp, b, a % b, pre ++ [a], rfl, rfl, rfl, hI1.trans hI2, hJ1, by rw [hrem, remN_step ha0 (by omega) hab, List.append_assoc]; rfl, by omega, by omega, by have := Nat.mod_lt a hbp; omega⟩ (.cons rfl (.cons rfl (.cons rfl .nil))) .refl
      ·
       refine zS szt_100 ?_
       refine XO_nil ?_
       refine zD hD ?_
       refine XD_one 4 rfl (by kernel_rfl) ?_
       refine XO_v0 (ev_rem rfl rfl (fun hg => by rw [maxI_one hbp]; omega)) rfl rfl rfl ?_
       refine XO_nil ?_
       refine zD hD ?_
       refine XD_one 6 rfl (by kernel_rfl) ?_
       refine zS szt_100 ?_
       refine XO_nil ?_
       refine zD hD ?_
       refine XD_done (by kernel_rfl) ?_
       refine at_noP ?_
       rw [show ((a : Int)).tmod (maxI (b : Int) 1) = ((a % b : Nat) : Int) by rw [maxI_one hbp, tmod_nat]]
       refine at_then ?_
       refine X_seq (X_region ?_)
       refine XO_v0 (ev_load rfl sct_100 (fun hg => by exact Cell.h0 rfl)) rfl rfl rfl ?_
       refine zC ?_
       refine XO_nil (at_then ?_)
       refine X_cond rfl (fun hc17 => ?_) (fun hc17 => ?_)
       ·
        have hab : a % b = 0 := by have h := hc17; simp only [beq_iff_eq] at h; omega
        have hpre2 : (pre ++ [a]) ++ [b] <+: remN a0 b0 := by rw [hrem, remN_end ha0 (by omega) hab, List.append_assoc]; exact List.prefix_rfl
        refine X_seq (X_region ?_)
        refine zM ?_
        refine XO_v0 (ev_load rfl sct_100 (fun hg => by exact Cell.h1 rfl)) rfl rfl rfl ?_
        refine XO_yield0 (vs := [_]) (Post := fun t I3 H3 => if t then J ((pre ++ [a]) ++ [b]) I3 H3 else Jx ((pre ++ [a]) ++ [b]) I3 H3) rfl rfl rfl rfl (hY (pre ++ [a]) b _ _ hpre2 (hI0.trans hI2) hJ1) ?_
        rintro t3 I3 H3 hI3 hP3
        refine XO_nil (at_then ?_)
        refine X_ret ?_
        refine at_block_r ?_
        refine at_then_r ?_
        refine at_block_r ?_
        first
        | (refine at_ret0 rfl (fun w hw => ⟨_, I3, H3, rfl, hI1.trans (hI2.trans hI3), hw.drop, ?_⟩); cases t3 with | true => exact .inl (by rw [hrem, remN_end ha0 (by omega) hab]; simpa using hP3) | false => exact .inr ⟨_, hpre2, hP3⟩)
       ·
        have hab : a % b ≠ 0 := by have h := hc17; simp only [beq_eq_false_iff_ne, ne_eq] at h; omega
        refine X_skip ?_
        refine at_block_n ?_
        exact at_metH2 rfl rfl rfl _ (remL 100 b1 b2 (b) (((a % b : Nat) : Int))) ⟨a % b, Nat.mod_lt _ hbp, b, a % b, pre ++ [a], rfl, rfl, rfl, hI1.trans hI2, hJ1, by rw [hrem, remN_step ha0 (by omega) hab, List.append_assoc]; rfl, by omega, by omega, by have := Nat.mod_lt a hbp; omega⟩ (.cons rfl (.cons rfl (.cons rfl .nil))) .refl
     ·
      refine XO_v0 (ev_rem rfl rfl (fun hg => by rw [maxI_one hbp]; omega)) rfl rfl rfl ?_
      refine XO_nil ?_
      refine zD hD ?_
      refine XD_one 0 rfl (by kernel_rfl) ?_
      refine XO_v0 (ev_load rfl sct_100 (fun hg => by exact Cell.h0 rfl)) rfl rfl rfl ?_
      refine XO_nil ?_
      refine zD hD ?_
      refine XD_one 5 rfl (by kernel_rfl) ?_
      refine zS szt_100 ?_
      refine XO_nil ?_
      refine zD hD ?_
      refine XD_one 6 rfl (by kernel_rfl) ?_
      refine zS szt_100 ?_
      refine XO_nil ?_
      refine zD hD ?_
      refine XD_done (by kernel_rfl) ?_
      refine at_noP ?_
      rw [show ((a : Int)).tmod (maxI (b : Int) 1) = ((a % b : Nat) : Int) by rw [maxI_one hbp, tmod_nat]]
      refine at_then ?_
      refine X_seq (X_region ?_)
      refine XO_v0 (ev_load rfl sct_100 (fun hg => by exact Cell.h0 rfl)) rfl rfl rfl ?_
      refine zC ?_
      refine XO_nil (at_then ?_)
      refine X_cond rfl (fun hc17 => ?_) (fun hc17 => ?_)
      ·
       have hab : a % b = 0 := by have h := hc17; simp only [beq_iff_eq] at h; omega
       have hpre2 : (pre ++ [a]) ++ [b] <+: remN a0 b0 := by rw [hrem, remN_end ha0 (by omega) hab, List.append_assoc]; exact List.prefix_rfl
       refine X_seq (X_region ?_)
       refine zM ?_
       refine XO_v0 (ev_load rfl sct_100 (fun hg => by exact Cell.h1 rfl)) rfl rfl rfl ?_
       refine XO_yield0 (vs := [_]) (Post := fun t I3 H3 => if t then J ((pre ++ [a]) ++ [b]) I3 H3 else Jx ((pre ++ [a]) ++ [b]) I3 H3) rfl rfl rfl rfl (hY (pre ++ [a]) b _ _ hpre2 (hI0.trans hI2) hJ1) ?_
       rintro t3 I3 H3 hI3 hP3
       refine XO_nil (at_then ?_)
       refine X_ret ?_
       refine at_block_r ?_
       refine at_then_r ?_
       refine at_block_r ?_
       first
       | (refine at_ret0 rfl (fun w hw => ⟨_, I3, H3, rfl, hI1.trans (hI2.trans hI3), hw.drop, ?_⟩); cases t3 with | true => exact .inl (by rw [hrem, remN_end ha0 (by omega) hab]; simpa using hP3) | false => exact .inr ⟨_, hpre2, hP3⟩)
      ·
       have hab : a % b ≠ 0 := by have h := hc17; simp only [beq_eq_false_iff_ne, ne_eq] at h; omega
       refine X_skip ?_
       refine at_block_n ?_
       exact at_metH2 rfl rfl rfl _ (remL 100 b1 b2 (b) (((a % b : Nat) : Int))) ⟨a % b, Nat.mod_lt _ hbp, b, a % b, pre ++ [a], rfl, rfl, rfl, hI1.trans hI2, hJ1, by rw [hrem, remN_step ha0 (by omega) hab, List.append_assoc]; rfl, by omega, by omega, by have := Nat.mod_lt a hbp; omega⟩ (.cons rfl (.cons rfl (.cons rfl .nil))) .refl
  ·
   refine XO_v0 (ev_load rfl sct_100 (fun hg => by exact Cell.h0 rfl)) rfl rfl rfl ?_
   refine XO_nil ?_
   refine zD hD ?_
   refine XD_three 0 1 3 rfl rfl rfl (by kernel_rfl) ?_ ?_ ?_
   ·
    refine XO_v0 (ev_load rfl sct_100 (fun hg => by exact Cell.h0 rfl)) rfl rfl rfl ?_
    refine XO_nil ?_
    refine zD hD ?_
    refine XD_two 1 3 rfl rfl (by kernel_rfl) ?_ ?_
    ·
     refine XO_v0 (ev_load rfl sct_100 (fun hg => by exact Cell.h1 rfl)) rfl rfl rfl ?_
     refine XO_nil ?_
     refine zD hD ?_
     refine XD_two 3 5 rfl rfl (by kernel_rfl) ?_ ?_
     ·
      refine XO_v0 (ev_max rfl rfl) rfl rfl rfl ?_
      refine XO_nil ?_
      refine zD hD ?_
      refine XD_two 4 5 rfl rfl (by kernel_rfl) ?_ ?_
      ·
       refine XO_v0 (ev_rem rfl rfl (fun hg => by rw [maxI_one hbp]; omega)) rfl rfl rfl ?_
       refine XO_nil ?_
       refine zD hD ?_
       refine XD_one 5 rfl (by kernel_rfl) ?_
       refine zS szt_100 ?_
       refine XO_nil ?_
       refine zD hD ?_
       refine XD_one 6 rfl (by kernel_rfl) ?_
       refine zS szt_100 ?_
       refine XO_nil ?_
       refine zD hD ?_
       refine XD_done (by kernel_rfl) ?_
       refine at_noP ?_
       rw [show ((a : Int)).tmod (maxI (b : Int) 1) = ((a % b : Nat) : Int) by rw [maxI_one hbp, tmod_nat]]
       refine at_then ?_
       refine X_seq (X_region ?_)
       refine XO_v0 (ev_load rfl sct_100 (fun hg => by exact Cell.h0 rfl)) rfl rfl rfl ?_
       refine zC ?_
       refine XO_nil (at_then ?_)
       refine X_cond rfl (fun hc17 => ?_) (fun hc17 => ?_)
       ·
        have hab : a % b = 0 := by have h := hc17; simp only [beq_iff_eq] at h; omega
        have hpre2 : (pre ++ [a]) ++ [b] <+: remN a0 b0 := by rw [hrem, remN_end ha0 (by omega) hab, List.append_assoc]; exact List.prefix_rfl
        refine X_seq (X_region ?_)
        refine zM ?_
        refine XO_v0 (ev_load rfl sct_100 (fun hg => by exact Cell.h1 rfl)) rfl rfl rfl ?_
        refine XO_yield0 (vs := [_]) (Post := fun t I3 H3 => if t then J ((pre ++ [a]) ++ [b]) I3 H3 else Jx ((pre ++ [a]) ++ [b]) I3 H3) rfl rfl rfl rfl (hY (pre ++ [a]) b _ _ hpre2 (hI0.trans hI2) hJ1) ?_
        rintro t3 I3 H3 hI3 hP3
        refine XO_nil (at_then ?_)
        refine X_ret ?_
        refine at_block_r ?_
        refine at_then_r ?_
        refine at_block_r ?_
        first
        | (refine at_ret0 rfl (fun w hw => ⟨_, I3, H3, rfl, hI1.trans (hI2.trans hI3), hw.drop, ?_⟩); cases t3 with | true => exact .inl (by rw [hrem, remN_end ha0 (by omega) hab]; simpa using hP3) | false => exact .inr ⟨_, hpre2, hP3⟩)
       ·
        have hab : a % b ≠ 0 := by have h := hc17; simp only [beq_eq_false_iff_ne, ne_eq] at h; omega
        refine X_skip ?_
        refine at_block_n ?_
        exact at_metH2 rfl rfl rfl _ (remL 100 b1 b2 (b) (((a % b : Nat) : Int))) ⟨a % b, Nat.mod_lt _ hbp, b, a % b, pre ++ [a], rfl, rfl, rfl, hI1.trans hI2, hJ1, by rw [hrem, remN_step ha0 (by omega) hab, List.append_assoc]; rfl, by omega, by omega, by have := Nat.mod_lt a hbp; omega⟩ (.cons rfl (.cons rfl (.cons rfl .nil))) .refl
      ·
       refine zS szt_100 ?_
       refine XO_nil ?_
       refine zD hD ?_
       refine XD_one 4 rfl (by kernel_rfl) ?_
       refine XO_v0 (ev_rem rfl rfl (fun hg => by rw [maxI_one hbp]; omega)) rfl rfl rfl ?_
       refine XO_nil ?_
       refine zD hD ?_
       refine XD_one 6 rfl (by kernel_rfl) ?_
       refine zS szt_100 ?_
       refine XO_nil ?_
       refine zD hD ?_
       refine XD_done (by kernel_rfl) ?_
       refine at_noP ?_
       rw [show ((a : Int)).tmod (maxI (b : Int) 1) = ((a % b : Nat) : Int) by rw [maxI_one hbp, tmod_nat]]
       refine at_then ?_
       refine X_seq (X_region ?_)
       refine XO_v0 (ev_load rfl sct_100 (fun hg => by exact Cell.h0 rfl)) rfl rfl rfl ?_
       refine zC ?_
       refine XO_nil (at_then ?_)
       refine X_cond rfl (fun hc17 => ?_) (fun hc17 => ?_)
       ·
        have hab : a % b = 0 := by have h := hc17; simp only [beq_iff_eq] at h; omega
        have hpre2 : (pre ++ [a]) ++ [b] <+: remN a0 b0 := by rw [hrem, remN_end ha0 (by omega) hab, List.append_assoc]; exact List.prefix_rfl
        refine X_seq (X_region ?_)
        refine zM ?_
        refine XO_v0 (ev_load rfl sct_100 (fun hg => by exact Cell.h1 rfl)) rfl rfl rfl ?_
        refine XO_yield0 (vs := [_]) (Post := fun t I3 H3 => if t then J ((pre ++ [a]) ++ [b]) I3 H3 else Jx ((pre ++ [a]) ++ [b]) I3 H3) rfl rfl rfl rfl (hY (pre ++ [a]) b _ _ hpre2 (hI0.trans hI2) hJ1) ?_
        rintro t3 I3 H3 hI3 hP3
        refine XO_nil (at_then ?_)
        refine X_ret ?_
        refine at_block_r ?_
        refine at_then_r ?_
        refine at_block_r ?_
        first
        | (refine at_ret0 rfl (fun w hw => ⟨_, I3, H3, rfl, hI1.trans (hI2.trans hI3), hw.drop, ?_⟩); cases t3 with | true => exact .inl (by rw [hrem, remN_end ha0 (by omega) hab]; simpa using hP3) | false => exact .inr ⟨_, hpre2, hP3⟩)
       ·
        have hab : a % b ≠ 0 := by have h := hc17; simp only [beq_eq_false_iff_ne, ne_eq] at h; omega
        refine X_skip ?_
        refine at_block_n ?_
        exact at_metH2 rfl rfl rfl _ (remL 100 b1 b2 (b) (((a % b : Nat) : Int))) ⟨a % b, Nat.mod_lt _ hbp, b, a % b, pre ++ [a], rfl, rfl, rfl, hI1.trans hI2, hJ1, by rw [hrem, remN_step ha0 (by omega) hab, List.append_assoc]; rfl, by omega, by omega, by have := Nat.mod_lt a hbp; omega⟩ (.cons rfl (.cons rfl (.cons rfl .nil))) .refl
     ·
      refine zS szt_100 ?_
      refine XO_nil ?_
      refine zD hD ?_
      refine XD_one 3 rfl (by kernel_rfl) ?_
      refine XO_v0 (ev_max rfl rfl) rfl rfl rfl ?_
      refine XO_nil ?_
      refine zD hD ?_
      refine XD_one 4 rfl (by kernel_rfl) ?_
      refine XO_v0 (ev_rem rfl rfl (fun hg => by rw [maxI_one hbp]; omega)) rfl rfl rfl ?_
      refine XO_nil ?_
      refine zD hD ?_
      refine XD_one 6 rfl (by kernel_rfl) ?_
      refine zS szt_100 ?_
      refine XO_nil ?_
      refine zD hD ?_
      refine XD_done (by kernel_rfl) ?_
      refine at_noP ?_
      rw [show ((a : Int)).tmod (maxI (b : Int) 1) = ((a % b : Nat) : Int) by rw [maxI_one hbp, tmod_nat]]
      refine at_then ?_
      refine X_seq (X_region ?_)
      refine XO_v0 (ev_load rfl sct_100 (fun hg => by exact Cell.h0 rfl)) rfl rfl rfl ?_
      refine zC ?_
      refine XO_nil (at_then ?_)
      refine X_cond rfl (fun hc17 => ?_) (fun hc17 => ?_)
      ·
       have hab : a % b = 0 := by have h := hc17; simp only [beq_iff_eq] at h; omega
       have hpre2 : (pre ++ [a]) ++ [b] <+: remN a0 b0 := by rw [hrem, remN_end ha0 (by omega) hab, List.append_assoc]; exact List.prefix_rfl
       refine X_seq (X_region ?_)
       refine zM ?_
       refine XO_v0 (ev_load rfl sct_100 (fun hg => by exact Cell.h1 rfl)) rfl rfl rfl ?_
       refine XO_yield0 (vs := [_]) (Post := fun t I3 H3 => if t then J ((pre ++ [a]) ++ [b]) I3 H3 else Jx ((pre ++ [a]) ++ [b]) I3 H3) rfl rfl rfl rfl (hY (pre ++ [a]) b _ _ hpre2 (hI0.trans hI2) hJ1) ?_
       rintro t3 I3 H3 hI3 hP3
       refine XO_nil (at_then ?_)
       refine X_ret ?_
       refine at_block_r ?_
       refine at_then_r ?_
       refine at_block_r ?_
       first
       | (refine at_ret0 rfl (fun w hw => ⟨_, I3, H3, rfl, hI1.trans (hI2.trans hI3), hw.drop, ?_⟩); cases t3 with | true => exact .inl (by rw [hrem, remN_end ha0 (by omega) hab]; simpa using hP3) | false => exact .inr ⟨_, hpre2, hP3⟩)
      ·
       have hab : a % b ≠ 0 := by have h := hc17; simp only [beq_eq_false_iff_ne, ne_eq] at h; omega
       refine X_skip ?_
       refine at_block_n ?_
       exact at_metH2 rfl rfl rfl _ (remL 100 b1 b2 (b) (((a % b : Nat) : Int))) ⟨a % b, Nat.mod_lt _ hbp, b, a % b, pre ++ [a], rfl, rfl, rfl, hI1.trans hI2, hJ1, by rw [hrem, remN_step ha0 (by omega) hab, List.append_assoc]; rfl, by omega, by omega, by have := Nat.mod_lt a hbp; omega⟩ (.cons rfl (.cons rfl (.cons rfl .nil))) .refl
    ·
     refine XO_v0 (ev_max rfl rfl) rfl rfl rfl ?_
     refine XO_nil ?_
     refine zD hD ?_
     refine XD_one 1 rfl (by kernel_rfl) ?_
     refine XO_v0 (ev_load rfl sct_100 (fun hg => by exact Cell.h1 rfl)) rfl rfl rfl ?_
     refine XO_nil ?_
     refine zD hD ?_
     refine XD_two 4 5 rfl rfl (by kernel_rfl) ?_ ?_
     ·
      refine XO_v0 (ev_rem rfl rfl (fun hg => by rw [maxI_one hbp]; omega)) rfl rfl rfl ?_
      refine XO_nil ?_
      refine zD hD ?_
      refine XD_one 5 rfl (by kernel_rfl) ?_
      refine zS szt_100 ?_
      refine XO_nil ?_
      refine zD hD ?_
      refine XD_one 6 rfl (by kernel_rfl) ?_
      refine zS szt_100 ?_
      refine XO_nil ?_
      refine zD hD ?_
      refine XD_done (by kernel_rfl) ?_
      refine at_noP ?_
      rw [show ((a : Int)).tmod (maxI (b : Int) 1) = ((a % b : Nat) : Int) by rw [maxI_one hbp, tmod_nat]]
      refine at_then ?_
      refine X_seq (X_region ?_)
      refine XO_v0 (ev_load rfl sct_100 (fun hg => by exact Cell.h0 rfl)) rfl rfl rfl ?_
      refine zC ?_
      refine XO_nil (at_then ?_)
      refine X_cond rfl (fun hc17 => ?_) (fun hc17 => ?_)
      ·
       have hab : a % b = 0 := by have h := hc17; simp only [beq_iff_eq] at h; omega
       have hpre2 : (pre ++ [a]) ++ [b] <+: remN a0 b0 := by rw [hrem, remN_end ha0 (by omega) hab, List.append_assoc]; exact List.prefix_rfl
       refine X_seq (X_region ?_)
       refine zM ?_
       refine XO_v0 (ev_load rfl sct_100 (fun hg => by exact Cell.h1 rfl)) rfl rfl rfl ?_
       refine XO_yield0 (vs := [_]) (Post := fun t I3 H3 => if t then J ((pre ++ [a]) ++ [b]) I3 H3 else Jx ((pre ++ [a]) ++ [b]) I3 H3) rfl rfl rfl rfl (hY (pre ++ [a]) b _ _ hpre2 (hI0.trans hI2) hJ1) ?_
       rintro t3 I3 H3 hI3 hP3
       refine XO_nil (at_then ?_)
       refine X_ret ?_
       refine at_block_r ?_
       refine at_then_r ?_
       refine at_block_r ?_
       first
       | (refine at_ret0 rfl (fun w hw => ⟨_, I3, H3, rfl, hI1.trans (hI2.trans hI3), hw.drop, ?_⟩); cases t3 with | true => exact .inl (by rw [hrem, remN_end ha0 (by omega) hab]; simpa using hP3) | false => exact .inr ⟨_, hpre2, hP3⟩)
      ·
       have hab : a % b ≠ 0 := by have h := hc17; simp only [beq_eq_false_iff_ne, ne_eq] at h; omega
       refine X_skip ?_
       refine at_block_n ?_
       exact at_metH2 rfl rfl rfl _ (remL 100 b1 b2 (b) (((a % b : Nat) : Int))) ⟨a % b, Nat.mod_lt _ hbp, b, a % b, pre ++ [a], rfl, rfl, rfl, hI1.trans hI2, hJ1, by rw [hrem, remN_step ha0 (by omega) hab, List.append_assoc]; rfl, by omega, by omega, by have := Nat.mod_lt a hbp; omega⟩ (.cons rfl (.cons rfl (.cons rfl .nil))) .refl
     ·
      refine zS szt_100 ?_
      refine XO_nil ?_
      refine zD hD ?_
      refine XD_one 4 rfl (by kernel_rfl) ?_
      refine XO_v0 (ev_rem rfl rfl (fun hg => by rw [maxI_one hbp]; omega)) rfl rfl rfl ?_
      refine XO_nil ?_
      refine zD hD ?_
      refine XD_one 6 rfl (by kernel_rfl) ?_
      refine zS szt_100 ?_
      refine XO_nil ?_
      refine zD hD ?_
      refine XD_done (by kernel_rfl) ?_
      refine at_noP ?_
      rw [show ((a : Int)).tmod (maxI (b : Int) 1) = ((a % b : Nat) : Int) by rw [maxI_one hbp, tmod_nat]]
      refine at_then ?_
      refine X_seq (X_region ?_)
      refine XO_v0 (ev_load rfl sct_100 (fun hg => by exact Cell.h0 rfl)) rfl rfl rfl ?_
      refine zC ?_
      refine XO_nil (at_then ?_)
      refine X_cond rfl (fun hc17 => ?_) (fun hc17 => ?_)
      ·
       have hab : a % b = 0 := by have h := hc17; simp only [beq_iff_eq] at h; omega
       have hpre2 : (pre ++ [a]) ++ [b] <+: remN a0 b0 := by rw [hrem, remN_end ha0 (by omega) hab, List.append_assoc]; exact List.prefix_rfl
       refine X_seq (X_region ?_)
       refine zM ?_
       refine XO_v0 (ev_load rfl sct_100 (fun hg => by exact Cell.h1 rfl)) rfl rfl rfl ?_
       refine XO_yield0 (vs := [_]) (Post := fun t I3 H3 => if t then J ((pre ++ [a]) ++ [b]) I3 H3 else Jx ((pre ++ [a]) ++ [b]) I3 H3) rfl rfl rfl rfl (hY (pre ++ [a]) b _ _ hpre2 (hI0.trans hI2) hJ1) ?_
       rintro t3 I3 H3 hI3 hP3
       refine XO_nil (at_then ?_)
       refine X_ret ?_
       refine at_block_r ?_
       refine at_then_r ?_
       refine at_block_r ?_
       first
       | (refine at_ret0 rfl (fun w hw => ⟨_, I3, H3, rfl, hI1.trans (hI2.trans hI3), hw.drop, ?_⟩); cases t3 with | true => exact .inl (by rw [hrem, remN_end ha0 (by omega) hab]; simpa using hP3) | false => exact .inr ⟨_, hpre2, hP3⟩)
      ·
       have hab : a % b ≠ 0 := by have h := hc17; simp only [beq_eq_false_iff_ne, ne_eq] at h; omega
       refine X_skip ?_
       refine at_block_n ?_
       exact at_metH2 rfl rfl rfl _ (remL 100 b1 b2 (b) (((a % b : Nat) : Int))) ⟨a % b, Nat.mod_lt _ hbp, b, a % b, pre ++ [a], rfl, rfl, rfl, hI1.trans hI2, hJ1, by rw [hrem, remN_step ha0 (by omega) hab, List.append_assoc]; rfl, by omega, by omega, by have := Nat.mod_lt a hbp; omega⟩ (.cons rfl (.cons rfl (.cons rfl .nil))) .refl
   ·
    refine XO_v0 (ev_load rfl sct_100 (fun hg => by exact Cell.h1 rfl)) rfl rfl rfl ?_
    refine XO_nil ?_
    refine zD hD ?_
    refine XD_two 0 3 rfl rfl (by kernel_rfl) ?_ ?_
    ·
     refine XO_v0 (ev_load rfl sct_100 (fun hg => by exact Cell.h0 rfl)) rfl rfl rfl ?_
     refine XO_nil ?_
     refine zD hD ?_
     refine XD_two 3 5 rfl rfl (by kernel_rfl) ?_ ?_
     ·
      refine XO_v0 (ev_max rfl rfl) rfl rfl rfl ?_
      refine XO_nil ?_
      refine zD hD ?_
      refine XD_two 4 5 rfl rfl (by kernel_rfl) ?_ ?_
      ·
       refine XO_v0 (ev_rem rfl rfl (fun hg => by rw [maxI_one hbp]; omega)) rfl rfl rfl ?_
       refine XO_nil ?_
       refine zD hD ?_
       refine XD_one 5 rfl (by kernel_rfl) ?_
       refine zS szt_100 ?_
       refine XO_nil ?_
       refine zD hD ?_
       refine XD_one 6 rfl (by kernel_rfl) ?_
       refine zS szt_100 ?_
       refine XO_nil ?_
       refine zD hD ?_
       refine XD_done (by kernel_rfl) ?_
       refine at_noP ?_
       rw [show ((a : Int)).tmod (maxI (b : Int) 1) = ((a % b : Nat) : Int) by rw [maxI_one hbp, tmod_nat]]
       refine at_then ?_
       refine X_seq (X_region ?_)
       refine XO_v0 (ev_load rfl sct_100 (fun hg => by exact Cell.h0 rfl)) rfl rfl rfl ?_
       refine zC ?_
       refine XO_nil (at_then ?_)
       refine X_cond rfl (fun hc17 => ?_) (fun hc17 => ?_)
       ·
        have hab : a % b = 0 := by have h := hc17; simp only [beq_iff_eq] at h; omega
        have hpre2 : (pre ++ [a]) ++ [b] <+: remN a0 b0 := by rw [hrem, remN_end ha0 (by omega) hab, List.append_assoc]; exact List.prefix_rfl
        refine X_seq (X_region ?_)
        refine zM ?_
        refine XO_v0 (ev_load rfl sct_100 (fun hg => by exact Cell.h1 rfl)) rfl rfl rfl ?_
        refine XO_yield0 (vs := [_]) (Post := fun t I3 H3 => if t then J ((pre ++ [a]) ++ [b]) I3 H3 else Jx ((pre ++ [a]) ++ [b]) I3 H3) rfl rfl rfl rfl (hY (pre ++ [a]) b _ _ hpre2 (hI0.trans hI2) hJ1) ?_
        rintro t3 I3 H3 hI3 hP3
        refine XO_nil (at_then ?_)
        refine X_ret ?_
        refine at_block_r ?_
        refine at_then_r ?_
        refine at_block_r ?_
        first
        | (refine at_ret0 rfl (fun w hw => ⟨_, I3, H3, rfl, hI1.trans (hI2.trans hI3), hw.drop, ?_⟩); cases t3 with | true => exact .inl (by rw [hrem, remN_end ha0 (by omega) hab]; simpa using hP3) | false => exact .inr ⟨_, hpre2, hP3⟩)
       ·
        have hab : a % b ≠ 0 := by have h := hc17; simp only [beq_eq_false_iff_ne, ne_eq] at h; omega
        refine X_skip ?_
        refine at_block_n ?_
        exact at_metH2 rfl rfl rfl _ (remL 100 b1 b2 (b) (((a % b : Nat) : Int))) ⟨a % b, Nat.mod_lt _ hbp, b, a % b, pre ++ [a], rfl, rfl, rfl, hI1.trans hI2, hJ1, by rw [hrem, remN_step ha0 (by omega) hab, List.append_assoc]; rfl, by omega, by omega, by have := Nat.mod_lt a hbp; omega⟩ (.cons rfl (.cons rfl (.cons rfl .nil))) .refl
      ·
       refine zS szt_100 ?_
       refine XO_nil ?_
       refine zD hD ?_
       refine XD_one 4 rfl (by kernel_rfl) ?_
       refine XO_v0 (ev_rem rfl rfl (fun hg => by rw [maxI_one hbp]; omega)) rfl rfl rfl ?_
       refine XO_nil ?_
       refine zD hD ?_
       refine XD_one 6 rfl (by kernel_rfl) ?_
       refine zS szt_100 ?_
       refine XO_nil ?_
       refine zD hD ?_
       refine XD_done (by kernel_rfl) ?_
       refine at_noP ?_
       rw [show ((a : Int)).tmod (maxI (b : Int) 1) = ((a % b : Nat) : Int) by rw [maxI_one hbp, tmod_nat]]
       refine at_then ?_
       refine X_seq (X_region ?_)
       refine XO_v0 (ev_load rfl sct_100 (fun hg => by exact Cell.h0 rfl)) rfl rfl rfl ?_
       refine zC ?_
       refine XO_nil (at_then ?_)
       refine X_cond rfl (fun hc17 => ?_) (fun hc17 => ?_)
       ·
        have hab : a % b = 0 := by have h := hc17; simp only [beq_iff_eq] at h; omega
        have hpre2 : (pre ++ [a]) ++ [b] <+: remN a0 b0 := by rw [hrem, remN_end ha0 (by omega) hab, List.append_assoc]; exact List.prefix_rfl
        refine X_seq (X_region ?_)
        refine zM ?_
        refine XO_v0 (ev_load rfl sct_100 (fun hg => by exact Cell.h1 rfl)) rfl rfl rfl ?_
        refine XO_yield0 (vs := [_]) (Post := fun t I3 H3 => if t then J ((pre ++ [a]) ++ [b]) I3 H3 else Jx ((pre ++ [a]) ++ [b]) I3 H3) rfl rfl rfl rfl (hY (pre ++ [a]) b _ _ hpre2 (hI0.trans hI2) hJ1) ?_
        rintro t3 I3 H3 hI3 hP3
        refine XO_nil (at_then ?_)
        refine X_ret ?_
        refine at_block_r ?_
        refine at_then_r ?_
        refine at_block_r ?_
        first
        | (refine at_ret0 rfl (fun w hw => ⟨_, I3, H3, rfl, hI1.trans (hI2.trans hI3), hw.drop, ?_⟩); cases t3 with | true => exact .inl (by rw [hrem, remN_end ha0 (by omega) hab]; simpa using hP3) | false => exact .inr ⟨_, hpre2, hP3⟩)
       ·
        have hab : a % b ≠ 0 := by have h := hc17; simp only [beq_eq_false_iff_ne, ne_eq] at h; omega
        refine X_skip ?_
        refine at_block_n ?_
        exact at_metH2 rfl rfl rfl _ (remL 100 b1 b2 (b) (((a % b : Nat) : Int))) ⟨a % b, Nat.mod_lt _ hbp, b, a % b, pre ++ [a], rfl, rfl, rfl, hI1.trans hI2, hJ1, by rw [hrem, remN_step ha0 (by omega) hab, List.append_assoc]; rfl, by omega, by omega, by have := Nat.mod_lt a hbp; omega⟩ (.cons rfl (.cons rfl (.cons rfl .nil))) .refl
     ·
      refine zS szt_100 ?_
      refine XO_nil ?_
      refine zD hD ?_
      refine XD_one 3 rfl (by kernel_rfl) ?_
      refine XO_v0 (ev_max rfl rfl) rfl rfl rfl ?_
      refine XO_nil ?_
      refine zD hD ?_
      refine XD_one 4 rfl (by kernel_rfl) ?_
      refine XO_v0 (ev_rem rfl rfl (fun hg => by rw [maxI_one hbp]; omega)) rfl rfl rfl ?_
      refine XO_nil ?_
      refine zD hD ?_
      refine XD_one 6 rfl (by kernel_rfl) ?_
      refine zS szt_100 ?_
      refine XO_nil ?_
      refine zD hD ?_
      refine XD_done (by kernel_rfl) ?_
      refine at_noP ?_
      rw [show ((a : Int)).tmod (maxI (b : Int) 1) = ((a % b : Nat) : Int) by rw [maxI_one hbp, tmod_nat]]
      refine at_then ?_
      refine X_seq (X_region ?_)
      refine XO_v0 (ev_load rfl sct_100 (fun hg => by exact Cell.h0 rfl)) rfl rfl rfl ?_
      refine zC ?_
      refine XO_nil (at_then ?_)
      refine X_cond rfl (fun hc17 => ?_) (fun hc17 => ?_)
      ·
       have hab : a % b = 0 := by have h := hc17; simp only [beq_iff_eq] at h; omega
       have hpre2 : (pre ++ [a]) ++ [b] <+: remN a0 b0 := by rw [hrem, remN_end ha0 (by omega) hab, List.append_assoc]; exact List.prefix_rfl
       refine X_seq (X_region ?_)
       refine zM ?_
       refine XO_v0 (ev_load rfl sct_100 (fun hg => by exact Cell.h1 rfl)) rfl rfl rfl ?_
       refine XO_yield0 (vs := [_]) (Post := fun t I3 H3 => if t then J ((pre ++ [a]) ++ [b]) I3 H3 else Jx ((pre ++ [a]) ++ [b]) I3 H3) rfl rfl rfl rfl (hY (pre ++ [a]) b _ _ hpre2 (hI0.trans hI2) hJ1) ?_
       rintro t3 I3 H3 hI3 hP3
       refine XO_nil (at_then ?_)
       refine X_ret ?_
       refine at_block_r ?_
       refine at_then_r ?_
       refine at_block_r ?_
       first
       | (refine at_ret0 rfl (fun w hw => ⟨_, I3, H3, rfl, hI1.trans (hI2.trans hI3), hw.drop, ?_⟩); cases t3 with | true => exact .inl (by rw [hrem, remN_end ha0 (by omega) hab]; simpa using hP3) | false => exact .inr ⟨_, hpre2, hP3⟩)
      ·
       have hab : a % b ≠ 0 := by have h := hc17; simp only [beq_eq_false_iff_ne, ne_eq] at h; omega
       refine X_skip ?_
       refine at_block_n ?_
       exact at_metH2 rfl rfl rfl _ (remL 100 b1 b2 (b) (((a % b : Nat) : Int))) ⟨a % b, Nat.mod_lt _ hbp, b, a % b, pre ++ [a], rfl, rfl, rfl, hI1.trans hI2, hJ1, by rw [hrem, remN_step ha0 (by omega) hab, List.append_assoc]; rfl, by omega, by omega, by have := Nat.mod_lt a hbp; omega⟩ (.cons rfl (.cons rfl (.cons rfl .nil))) .refl
    ·
     refine XO_v0 (ev_max rfl rfl) rfl rfl rfl ?_
     refine XO_nil ?_
     refine zD hD ?_
     refine XD_two 0 4 rfl rfl (by kernel_rfl) ?_ ?_
     ·
      refine XO_v0 (ev_load rfl sct_100 (fun hg => by exact Cell.h0 rfl)) rfl rfl rfl ?_
      refine XO_nil ?_
      refine zD hD ?_
      refine XD_two 4 5 rfl rfl (by kernel_rfl) ?_ ?_
      ·
       refine XO_v0 (ev_rem rfl rfl (fun hg => by rw [maxI_one hbp]; omega)) rfl rfl rfl ?_
       refine XO_nil ?_
       refine zD hD ?_
       refine XD_one 5 rfl (by kernel_rfl) ?_
       refine zS szt_100 ?_
       refine XO_nil ?_
       refine zD hD ?_
       refine XD_one 6 rfl (by kernel_rfl) ?_
       refine zS szt_100 ?_
       refine XO_nil ?_
       refine zD hD ?_
       refine XD_done (by kernel_rfl) ?_
       refine at_noP ?_
       rw [show ((a : Int)).tmod (maxI (b : Int) 1) = ((a % b : Nat) : Int) by rw [maxI_one hbp, tmod_nat]]
       refine at_then ?_
       refine X_seq (X_region ?_)
       refine XO_v0 (ev_load rfl sct_100 (fun hg => by exact Cell.h0 rfl)) rfl rfl rfl ?_
       refine zC ?_
       refine XO_nil (at_then ?_)
       refine X_cond rfl (fun hc17 => ?_) (fun hc17 => ?_)
       ·
        have hab : a % b = 0 := by have h := hc17; simp only [beq_iff_eq] at h; omega
        have hpre2 : (pre ++ [a]) ++ [b] <+: remN a0 b0 := by rw [hrem, remN_end ha0 (by omega) hab, List.append_assoc]; exact List.prefix_rfl
        refine X_seq (X_region ?_)
        refine zM ?_
        refine XO_v0 (ev_load rfl sct_100 (fun hg => by exact Cell.h1 rfl)) rfl rfl rfl ?_
        refine XO_yield0 (vs := [_]) (Post := fun t I3 H3 => if t then J ((pre ++ [a]) ++ [b]) I3 H3 else Jx ((pre ++ [a]) ++ [b]) I3 H3) rfl rfl rfl rfl (hY (pre ++ [a]) b _ _ hpre2 (hI0.trans hI2) hJ1) ?_
        rintro t3 I3 H3 hI3 hP3
        refine XO_nil (at_then ?_)
        refine X_ret ?_
        refine at_block_r ?_
        refine at_then_r ?_
        refine at_block_r ?_
        first
        | (refine at_ret0 rfl (fun w hw => ⟨_, I3, H3, rfl, hI1.trans (hI2.trans hI3), hw.drop, ?_⟩); cases t3 with | true => exact .inl (by rw [hrem, remN_end ha0 (by omega) hab]; simpa using hP3) | false => exact .inr ⟨_, hpre2, hP3⟩)
       ·
        have hab : a % b ≠ 0 := by have h := hc17; simp only [beq_eq_false_iff_ne, ne_eq] at h; omega
        refine X_skip ?_
        refine at_block_n ?_
        exact at_metH2 rfl rfl rfl _ (remL 100 b1 b2 (b) (((a % b : Nat) : Int))) ⟨a % b, Nat.mod_lt _ hbp, b, a % b, pre ++ [a], rfl, rfl, rfl, hI1.trans hI2, hJ1, by rw [hrem, remN_step ha0 (by omega) hab, List.append_assoc]; rfl, by omega, by omega, by have := Nat.mod_lt a hbp; omega⟩ (.cons rfl (.cons rfl (.cons rfl .nil))) .refl
      ·
       refine zS szt_100 ?_
       refine XO_nil ?_
       refine zD hD ?_
       refine XD_one 4 rfl (by kernel_rfl) ?_
       refine XO_v0 (ev_rem rfl rfl (fun hg => by rw [maxI_one hbp]; omega)) rfl rfl rfl ?_
       refine XO_nil ?_
       refine zD hD ?_
       refine XD_one 6 rfl (by kernel_rfl) ?_
       refine zS szt_100 ?_
       refine XO_nil ?_
       refine zD hD ?_
       refine XD_done (by kernel_rfl) ?_
       refine at_noP ?_
       rw [show ((a : Int)).tmod (maxI (b : Int) 1) = ((a % b : Nat) : Int) by rw [maxI_one hbp, tmod_nat]]
       refine at_then ?_
       refine X_seq (X_region ?_)
       refine XO_v0 (ev_load rfl sct_100 (fun hg => by exact Cell.h0 rfl)) rfl rfl rfl ?_
       refine zC ?_
       refine XO_nil (at_then ?_)
       refine X_cond rfl (fun hc17 => ?_) (fun hc17 => ?_)
       ·
        have hab : a % b = 0 := by have h := hc17; simp only [beq_iff_eq] at h; omega
        have hpre2 : (pre ++ [a]) ++ [b] <+: remN a0 b0 := by rw [hrem, remN_end ha0 (by omega) hab, List.append_assoc]; exact List.prefix_rfl
        refine X_seq (X_region ?_)
        refine zM ?_
        refine XO_v0 (ev_load rfl sct_100 (fun hg => by exact Cell.h1 rfl)) rfl rfl rfl ?_
        refine XO_yield0 (vs := [_]) (Post := fun t I3 H3 => if t then J ((pre ++ [a]) ++ [b]) I3 H3 else Jx ((pre ++ [a]) ++ [b]) I3 H3) rfl rfl rfl rfl (hY (pre ++ [a]) b _ _ hpre2 (hI0.trans hI2) hJ1) ?_
        rintro t3 I3 H3 hI3 hP3
        refine XO_nil (at_then ?_)
        refine X_ret ?_
        refine at_block_r ?_
        refine at_then_r ?_
        refine at_block_r ?_
        first
        | (refine at_ret0 rfl (fun w hw => ⟨_, I3, H3, rfl, hI1.trans (hI2.trans hI3), hw.drop, ?_⟩); cases t3 with | true => exact .inl (by rw [hrem, remN_end ha0 (by omega) hab]; simpa using hP3) | false => exact .inr ⟨_, hpre2, hP3⟩)
       ·
        have hab : a % b ≠ 0 := by have h := hc17; simp only [beq_eq_false_iff_ne, ne_eq] at h; omega
        refine X_skip ?_
        refine at_block_n ?_
        exact at_metH2 rfl rfl rfl _ (remL 100 b1 b2 (b) (((a % b : Nat) : Int))) ⟨a % b, Nat.mod_lt _ hbp, b, a % b, pre ++ [a], rfl, rfl, rfl, hI1.trans hI2, hJ1, by rw [hrem, remN_step ha0 (by omega) hab, List.append_assoc]; rfl, by omega, by omega, by have := Nat.mod_lt a hbp; omega⟩ (.cons rfl (.cons rfl (.cons rfl .nil))) .refl
     ·
      refine XO_v0 (ev_rem rfl rfl (fun hg => by rw [maxI_one hbp]; omega)) rfl rfl rfl ?_
      refine XO_nil ?_
      refine zD hD ?_
      refine XD_one 0 rfl (by kernel_rfl) ?_
      refine XO_v0 (ev_load rfl sct_100 (fun hg => by exact Cell.h0 rfl)) rfl rfl rfl ?_
      refine XO_nil ?_
      refine zD hD ?_
      refine XD_one 5 rfl (by kernel_rfl) ?_
      refine zS szt_100 ?_
      refine XO_nil ?_
      refine zD hD ?_
      refine XD_one 6 rfl (by kernel_rfl) ?_
      refine zS szt_100 ?_
      refine XO_nil ?_
      refine zD hD ?_
      refine XD_done (by kernel_rfl) ?_
      refine at_noP ?_
      rw [show ((a : Int)).tmod (maxI (b : Int) 1) = ((a % b : Nat) : Int) by rw [maxI_one hbp, tmod_nat]]
      refine at_then ?_
      refine X_seq (X_region ?_)
      refine XO_v0 (ev_load rfl sct_100 (fun hg => by exact Cell.h0 rfl)) rfl rfl rfl ?_
      refine zC ?_
      refine XO_nil (at_then ?_)
      refine X_cond rfl (fun hc17 => ?_) (fun hc17 => ?_)
      ·
       have hab : a % b = 0 := by have h := hc17; simp only [beq_iff_eq] at h; omega
       have hpre2 : (pre ++ [a]) ++ [b] <+: remN a0 b0 := by rw [hrem, remN_end ha0 (by omega) hab, List.append_assoc]; exact List.prefix_rfl
       refine X_seq (X_region ?_)
       refine zM ?_
       refine XO_v0 (ev_load rfl sct_100 (fun hg => by exact Cell.h1 rfl)) rfl rfl rfl ?_
       refine XO_yield0 (vs := [_]) (Post := fun t I3 H3 => if t then J ((pre ++ [a]) ++ [b]) I3 H3 else Jx ((pre ++ [a]) ++ [b]) I3 H3) rfl rfl rfl rfl (hY (pre ++ [a]) b _ _ hpre2 (hI0.trans hI2) hJ1) ?_
       rintro t3 I3 H3 hI3 hP3
       refine XO_nil (at_then ?_)
       refine X_ret ?_
       refine at_block_r ?_
       refine at_then_r ?_
       refine at_block_r ?_
       first
       | (refine at_ret0 rfl (fun w hw => ⟨_, I3, H3, rfl, hI1.trans (hI2.trans hI3), hw.drop, ?_⟩); cases t3 with | true => exact .inl (by rw [hrem, remN_end ha0 (by omega) hab]; simpa using hP3) | false => exact .inr ⟨_, hpre2, hP3⟩)
      ·
       have hab : a % b ≠ 0 := by have h := hc17; simp only [beq_eq_false_iff_ne, ne_eq] at h; omega
       refine X_skip ?_
       refine at_block_n ?_
       exact at_metH2 rfl rfl rfl _ (remL 100 b1 b2 (b) (((a % b : Nat) : Int))) ⟨a % b, Nat.mod_lt _ hbp, b, a % b, pre ++ [a], rfl, rfl, rfl, hI1.trans hI2, hJ1, by rw [hrem, remN_step ha0 (by omega) hab, List.append_assoc]; rfl, by omega, by omega, by have := Nat.mod_lt a hbp; omega⟩ (.cons rfl (.cons rfl (.cons rfl .nil))) .refl
   ·
    refine XO_v0 (ev_max rfl rfl) rfl rfl rfl ?_
    refine XO_nil ?_
    refine zD hD ?_
    refine XD_two 0 1 rfl rfl (by kernel_rfl) ?_ ?_
    ·
     refine XO_v0 (ev_load rfl sct_100 (fun hg => by exact Cell.h0 rfl)) rfl rfl rfl ?_
     refine XO_nil ?_
     refine zD hD ?_
     refine XD_one 1 rfl (by kernel_rfl) ?_
     refine XO_v0 (ev_load rfl sct_100 (fun hg => by exact Cell.h1 rfl)) rfl rfl rfl ?_
     refine XO_nil ?_
     refine zD hD ?_
     refine XD_two 4 5 rfl rfl (by kernel_rfl) ?_ ?_
     ·
      refine XO_v0 (ev_rem rfl rfl (fun hg => by rw [maxI_one hbp]; omega)) rfl rfl rfl ?_
      refine XO_nil ?_
      refine zD hD ?_
      refine XD_one 5 rfl (by kernel_rfl) ?_
      refine zS szt_100 ?_
      refine XO_nil ?_
      refine zD hD ?_
      refine XD_one 6 rfl (by kernel_rfl) ?_
      refine zS szt_100 ?_
      refine XO_nil ?_
      refine zD hD ?_
      refine XD_done (by kernel_rfl) ?_
      refine at_noP ?_
      rw [show ((a : Int)).tmod (maxI (b : Int) 1) = ((a % b : Nat) : Int) by rw [maxI_one hbp, tmod_nat]]
      refine at_then ?_
      refine X_seq (X_region ?_)
      refine XO_v0 (ev_load rfl sct_100 (fun hg => by exact Cell.h0 rfl)) rfl rfl rfl ?_
      refine zC ?_
      refine XO_nil (at_then ?_)
      refine X_cond rfl (fun hc17 => ?_) (fun hc17 => ?_)
      ·
       have hab : a % b = 0 := by have h := hc17; simp only [beq_iff_eq] at h; omega
       have hpre2 : (pre ++ [a]) ++ [b] <+: remN a0 b0 := by rw [hrem, remN_end ha0 (by omega) hab, List.append_assoc]; exact List.prefix_rfl
       refine X_seq (X_region ?_)
       refine zM ?_
       refine XO_v0 (ev_load rfl sct_100 (fun hg => by exact Cell.h1 rfl)) rfl rfl rfl ?_
       refine XO_yield0 (vs := [_]) (Post := fun t I3 H3 => if t then J ((pre ++ [a]) ++ [b]) I3 H3 else Jx ((pre ++ [a]) ++ [b]) I3 H3) rfl rfl rfl rfl (hY (pre ++ [a]) b _ _ hpre2 (hI0.trans hI2) hJ1) ?_
       rintro t3 I3 H3 hI3 hP3
       refine XO_nil (at_then ?_)
       refine X_ret ?_
       refine at_block_r ?_
       refine at_then_r ?_
       refine at_block_r ?_
       first
       | (refine at_ret0 rfl (fun w hw => ⟨_, I3, H3, rfl, hI1.trans (hI2.trans hI3), hw.drop, ?_⟩); cases t3 with | true => exact .inl (by rw [hrem, remN_end ha0 (by omega) hab]; simpa using hP3) | false => exact .inr ⟨_, hpre2, hP3⟩)
      ·
       have hab : a % b ≠ 0 := by have h := hc17; simp only [beq_eq_false_iff_ne, ne_eq] at h; omega
       refine X_skip ?_
       refine at_block_n ?_
       exact at_metH2 rfl rfl rfl _ (remL 100 b1 b2 (b) (((a % b : Nat) : Int))) ⟨a % b, Nat.mod_lt _ hbp, b, a % b, pre ++ [a], rfl, rfl, rfl, hI1.trans hI2, hJ1, by rw [hrem, remN_step ha0 (by omega) hab, List.append_assoc]; rfl, by omega, by omega, by have := Nat.mod_lt a hbp; omega⟩ (.cons rfl (.cons rfl (.cons rfl .nil))) .refl
     ·
      refine zS szt_100 ?_
      refine XO_nil ?_
      refine zD hD ?_
      refine XD_one 4 rfl (by kernel_rfl) ?_
      refine XO_v0 (ev_rem rfl rfl (fun hg => by rw [maxI_one hbp]; omega)) rfl rfl rfl ?_
      refine XO_nil ?_
      refine zD hD ?_
      refine XD_one 6 rfl (by kernel_rfl) ?_
      refine zS szt_100 ?_
      refine XO_nil ?_
      refine zD hD ?_
      refine XD_done (by kernel_rfl) ?_
      refine at_noP ?_
      rw [show ((a : Int)).tmod (maxI (b : Int) 1) = ((a % b : Nat) : Int) by rw [maxI_one hbp, tmod_nat]]
      refine at_then ?_
      refine X_seq (X_region ?_)
      refine XO_v0 (ev_load rfl sct_100 (fun hg => by exact Cell.h0 rfl)) rfl rfl rfl ?_
      refine zC ?_
      refine XO_nil (at_then ?_)
      refine X_cond rfl (fun hc17 => ?_) (fun hc17 => ?_)
      ·
       have hab : a % b = 0 := by have h := hc17; simp only [beq_iff_eq] at h; omega
       have hpre2 : (pre ++ [a]) ++ [b] <+: remN a0 b0 := by rw [hrem, remN_end ha0 (by omega) hab, List.append_assoc]; exact List.prefix_rfl
       refine X_seq (X_region ?_)
       refine zM ?_
       refine XO_v0 (ev_load rfl sct_100 (fun hg => by exact Cell.h1 rfl)) rfl rfl rfl ?_
       refine XO_yield0 (vs := [_]) (Post := fun t I3 H3 => if t then J ((pre ++ [a]) ++ [b]) I3 H3 else Jx ((pre ++ [a]) ++ [b]) I3 H3) rfl rfl rfl rfl (hY (pre ++ [a]) b _ _ hpre2 (hI0.trans hI2) hJ1) ?_
       rintro t3 I3 H3 hI3 hP3
       refine XO_nil (at_then ?_)
       refine X_ret ?_
       refine at_block_r ?_
       refine at_then_r ?_
       refine at_block_r ?_
       first
       | (refine at_ret0 rfl (fun w hw => ⟨_, I3, H3, rfl, hI1.trans (hI2.trans hI3), hw.drop, ?_⟩); cases t3 with | true => exact .inl (by rw [hrem, remN_end ha0 (by omega) hab]; simpa using hP3) | false => exact .inr ⟨_, hpre2, hP3⟩)
      ·
       have hab : a % b ≠ 0 := by have h := hc17; simp only [beq_eq_false_iff_ne, ne_eq] at h; omega
       refine X_skip ?_
       refine at_block_n ?_
       exact at_metH2 rfl rfl rfl _ (remL 100 b1 b2 (b) (((a % b : Nat) : Int))) ⟨a % b, Nat.mod_lt _ hbp, b, a % b, pre ++ [a], rfl, rfl, rfl, hI1.trans hI2, hJ1, by rw [hrem, remN_step ha0 (by omega) hab, List.append_assoc]; rfl, by omega, by omega, by have := Nat.mod_lt a hbp; omega⟩ (.cons rfl (.cons rfl (.cons rfl .nil))) .refl
    ·
     refine XO_v0 (ev_load rfl sct_100 (fun hg => by exact Cell.h1 rfl)) rfl rfl rfl ?_
     refine XO_nil ?_
     refine zD hD ?_
     refine XD_two 0 4 rfl rfl (by kernel_rfl) ?_ ?_
     ·
      refine XO_v0 (ev_load rfl sct_100 (fun hg => by exact Cell.h0 rfl)) rfl rfl rfl ?_
      refine XO_nil ?_
      refine zD hD ?_
      refine XD_two 4 5 rfl rfl (by kernel_rfl) ?_ ?_
      ·
       refine XO_v0 (ev_rem rfl rfl (fun hg => by rw [maxI_one hbp]; omega)) rfl rfl rfl ?_
       refine XO_nil ?_
       refine zD hD ?_
       refine XD_one 5 rfl (by kernel_rfl) ?_
       refine zS szt_100 ?_
       refine XO_nil ?_
       refine zD hD ?_
       refine XD_one 6 rfl (by kernel_rfl) ?_
       refine zS szt_100 ?_
       refine XO_nil ?_
       refine zD hD ?_
       refine XD_done (by kernel_rfl) ?_
       refine at_noP ?_
       rw [show ((a : Int)).tmod (maxI (b : Int) 1) = ((a % b : Nat) : Int) by rw [maxI_one hbp, tmod_nat]]
       refine at_then ?_
       refine X_seq (X_region ?_)
       refine XO_v0 (ev_load rfl sct_100 (fun hg => by exact Cell.h0 rfl)) rfl rfl rfl ?_
       refine zC ?_
       refine XO_nil (at_then ?_)
       refine X_cond rfl (fun hc17 => ?_) (fun hc17 => ?_)
       ·
        have hab : a % b = 0 := by have h := hc17; simp only [beq_iff_eq] at h; omega
        have hpre2 : (pre ++ [a]) ++ [b] <+: remN a0 b0 := by rw [hrem, remN_end ha0 (by omega) hab, List.append_assoc]; exact List.prefix_rfl
        refine X_seq (X_region ?_)
        refine zM ?_
        refine XO_v0 (ev_load rfl sct_100 (fun hg => by exact Cell.h1 rfl)) rfl rfl rfl ?_
        refine XO_yield0 (vs := [_]) (Post := fun t I3 H3 => if t then J ((pre ++ [a]) ++ [b]) I3 H3 else Jx ((pre ++ [a]) ++ [b]) I3 H3) rfl rfl rfl rfl (hY (pre ++ [a]) b _ _ hpre2 (hI0.trans hI2) hJ1) ?_
        rintro t3 I3 H3 hI3 hP3
        refine XO_nil (at_then ?_)
        refine X_ret ?_
        refine at_block_r ?_
        refine at_then_r ?_
        refine at_block_r ?_
        first
        | (refine at_ret0 rfl (fun w hw => ⟨_, I3, H3, rfl, hI1.trans (hI2.trans hI3), hw.drop, ?_⟩); cases t3 with | true => exact .inl (by rw [hrem, remN_end ha0 (by omega) hab]; simpa using hP3) | false => exact .inr ⟨_, hpre2, hP3⟩)
       ·
        have hab : a % b ≠ 0 := by have h := hc17; simp only [beq_eq_false_iff_ne, ne_eq] at h; omega
        refine X_skip ?_
        refine at_block_n ?_
        exact at_metH2 rfl rfl rfl _ (remL 100 b1 b2 (b) (((a % b : Nat) : Int))) ⟨a % b, Nat.mod_lt _ hbp, b, a % b, pre ++ [a], rfl, rfl, rfl, hI1.trans hI2, hJ1, by rw [hrem, remN_step ha0 (by omega) hab, List.append_assoc]; rfl, by omega, by omega, by have := Nat.mod_lt a hbp; omega⟩ (.cons rfl (.cons rfl (.cons rfl .nil))) .refl
      ·
       refine zS szt_100 ?_
       refine XO_nil ?_
       refine zD hD ?_
       refine XD_one 4 rfl (by kernel_rfl) ?_
       refine XO_v0 (ev_rem rfl rfl (fun hg => by rw [maxI_one hbp]; omega)) rfl rfl rfl ?_
       refine XO_nil ?_
       refine zD hD ?_
       refine XD_one 6 rfl (by kernel_rfl) ?_
       refine zS szt_100 ?_
       refine XO_nil ?_
       refine zD hD ?_
       refine XD_done (by kernel_rfl) ?_
       refine at_noP ?_
       rw [show ((a : Int)).tmod (maxI (b : Int) 1) = ((a % b : Nat) : Int) by rw [maxI_one hbp, tmod_nat]]
       refine at_then ?_
       refine X_seq (X_region ?_)
       refine XO_v0 (ev_load rfl sct_100 (fun hg => by exact Cell.h0 rfl)) rfl rfl rfl ?_
       refine zC ?_
       refine XO_nil (at_then ?_)
       refine X_cond rfl (fun hc17 => ?_) (fun hc17 => ?_)
       ·
        have hab : a % b = 0 := by have h := hc17; simp only [beq_iff_eq] at h; omega
        have hpre2 : (pre ++ [a]) ++ [b] <+: remN a0 b0 := by rw [hrem, remN_end ha0 (by omega) hab, List.append_assoc]; exact List.prefix_rfl
        refine X_seq (X_region ?_)
        refine zM ?_
        refine XO_v0 (ev_load rfl sct_100 (fun hg => by exact Cell.h1 rfl)) rfl rfl rfl ?_
        refine XO_yield0 (vs := [_]) (Post := fun t I3 H3 => if t then J ((pre ++ [a]) ++ [b]) I3 H3 else Jx ((pre ++ [a]) ++ [b]) I3 H3) rfl rfl rfl rfl (hY (pre ++ [a]) b _ _ hpre2 (hI0.trans hI2) hJ1) ?_
        rintro t3 I3 H3 hI3 hP3
        refine XO_nil (at_then ?_)
        refine X_ret ?_
        refine at_block_r ?_
        refine at_then_r ?_
        refine at_block_r ?_
        first
        | (refine at_ret0 rfl (fun w hw => ⟨_, I3, H3, rfl, hI1.trans (hI2.trans hI3), hw.drop, ?_⟩); cases t3 with | true => exact .inl (by rw [hrem, remN_end ha0 (by omega) hab]; simpa using hP3) | false => exact .inr ⟨_, hpre2, hP3⟩)
       ·
        have hab : a % b ≠ 0 := by have h := hc17; simp only [beq_eq_false_iff_ne, ne_eq] at h; omega
        refine X_skip ?_
        refine at_block_n ?_
        exact at_metH2 rfl rfl rfl _ (remL 100 b1 b2 (b) (((a % b : Nat) : Int))) ⟨a % b, Nat.mod_lt _ hbp, b, a % b, pre ++ [a], rfl, rfl, rfl, hI1.trans hI2, hJ1, by rw [hrem, remN_step ha0 (by omega) hab, List.append_assoc]; rfl, by omega, by omega, by have := Nat.mod_lt a hbp; omega⟩ (.cons rfl (.cons rfl (.cons rfl .nil))) .refl
     ·
      refine XO_v0 (ev_rem rfl rfl (fun hg => by rw [maxI_one hbp]; omega)) rfl rfl rfl ?_
      refine XO_nil ?_
      refine zD hD ?_
      refine XD_one 0 rfl (by kernel_rfl) ?_
      refine XO_v0 (ev_load rfl sct_100 (fun hg => by exact Cell.h0 rfl)) rfl rfl rfl ?_
      refine XO_nil ?_
      refine zD hD ?_
      refine XD_one 5 rfl (by kernel_rfl) ?_
      refine zS szt_100 ?_
      refine XO_nil ?_
      refine zD hD ?_
      refine XD_one 6 rfl (by kernel_rfl) ?_
      refine zS szt_100 ?_
      refine XO_nil ?_
      refine zD hD ?_
      refine XD_done (by kernel_rfl) ?_
      refine at_noP ?_
      rw [show ((a : Int)).tmod (maxI (b : Int) 1) = ((a % b : Nat) : Int) by rw [maxI_one hbp, tmod_nat]]
      refine at_then ?_
      refine X_seq (X_region ?_)
      refine XO_v0 (ev_load rfl sct_100 (fun hg => by exact Cell.h0 rfl)) rfl rfl rfl ?_
      refine zC ?_
      refine XO_nil (at_then ?_)
      refine X_cond rfl (fun hc17 => ?_) (fun hc17 => ?_)
      ·
       have hab : a % b = 0 := by have h := hc17; simp only [beq_iff_eq] at h; omega
       have hpre2 : (pre ++ [a]) ++ [b] <+: remN a0 b0 := by rw [hrem, remN_end ha0 (by omega) hab, List.append_assoc]; exact List.prefix_rfl
       refine X_seq (X_region ?_)
       refine zM ?_
       refine XO_v0 (ev_load rfl sct_100 (fun hg => by exact Cell.h1 rfl)) rfl rfl rfl ?_
       refine XO_yield0 (vs := [_]) (Post := fun t I3 H3 => if t then J ((pre ++ [a]) ++ [b]) I3 H3 else Jx ((pre ++ [a]) ++ [b]) I3 H3) rfl rfl rfl rfl (hY (pre ++ [a]) b _ _ hpre2 (hI0.trans hI2) hJ1) ?_
       rintro t3 I3 H3 hI3 hP3
       refine XO_nil (at_then ?_)
       refine X_ret ?_
       refine at_block_r ?_
       refine at_then_r ?_
       refine at_block_r ?_
       first
       | (refine at_ret0 rfl (fun w hw => ⟨_, I3, H3, rfl, hI1.trans (hI2.trans hI3), hw.drop, ?_⟩); cases t3 with | true => exact .inl (by rw [hrem, remN_end ha0 (by omega) hab]; simpa using hP3) | false => exact .inr ⟨_, hpre2, hP3⟩)
      ·
       have hab : a % b ≠ 0 := by have h := hc17; simp only [beq_eq_false_iff_ne, ne_eq] at h; omega
       refine X_skip ?_
       refine at_block_n ?_
       exact at_metH2 rfl rfl rfl _ (remL 100 b1 b2 (b) (((a % b : Nat) : Int))) ⟨a % b, Nat.mod_lt _ hbp, b, a % b, pre ++ [a], rfl, rfl, rfl, hI1.trans hI2, hJ1, by rw [hrem, remN_step ha0 (by omega) hab, List.append_assoc]; rfl, by omega, by omega, by have := Nat.mod_lt a hbp; omega⟩ (.cons rfl (.cons rfl (.cons rfl .nil))) .refl
 ·
  refine X_exit ?_
  refine at_then_e ?_
  refine at_then_e ?_
  refine at_block_hit ?_
  first
  | (refine at_norm (at_ret0 rfl (fun w hw => ⟨_, I2, H2, rfl, hI1.trans hI2, hw.drop, ?_⟩)); by_cases ha0 : a = 0; (obtain ⟨e1, e2⟩ := hno (by simp [conj, ha0]); subst e1; subst e2; subst ha0; exact .inl (by rw [hrem, remN_zero, List.append_nil]; exact hJk)); (have ht : t = false := (by simp [ha0] at hc10; exact hc10); subst ht; exact .inr ⟨_, rem_pre hrem ha0, hyes (by simp [conj]; exact ha0)⟩))
theorem w_div (I : HMap) (a b : Nat) (hb : 0 < b) (ha : a ≤ 9223372036854775807) (hb2 : b ≤ 9223372036854775807) : RetV Tryz.prog 140 [.int .u64 a, .int .u64 b] I (.int .u64 (Nat.gcd a b : Nat)) := by
 intro g H w hw
 refine enterMs Tryz.func140 rfl Tryz.ntmps140 rfl hw ?_
 have hIc := HLe.refl I
 refine X_seq (X_region ?_)
 refine XO_alloc zt_100 rfl rfl (fun b_4 => ?_)
 refine XO_nil (at_then ?_)
 refine X_seq ?_
 refine X_seq (X_region ?_)
 refine zM ?_
 refine zC ?_
 refine XO_nil (at_then ?_)
 refine X_cond rfl (fun hc7 => ?_) (fun hc7 => ?_)
 ·
  simp at hc7; omega
 ·
  refine X_skip ?_
  refine at_then ?_
  refine X_seq (X_region ?_)
  refine zM ?_
  refine zS szt_100 ?_
  refine XO_nil (at_then ?_)
  refine X_seq ?_
  refine X_seq (X_region ?_)
  refine zM ?_
  refine zM ?_
  refine XO_callM (cap := []) (vs := [_, _]) rfl rfl fun_144 .nil (w_rem I _ _) rfl rfl ?_
  rintro vv1 I1 L1 hI1 ⟨rfl, b1, b2, rfl, rfl⟩
  have hIc := hIc.trans hI1
  refine XO_nil (at_then ?_)
  refine X_block ?_
  refine X_rangeFuncM (ms := []) (K := remL 100 b1 b2 (a) (b)) (L := [(b_4, .cells #[.int .u64 b] 100 (0, 0))]) (enc := fun n : Nat => .int .u64 n) (xs := remN a b) (fun pre I' loc' => loc' = [(b_4, .cells #[.int .u64 ((pre.getLastD b : Nat) : Int)] 100 (0, 0))]) (fun _ _ _ _ => False) (fun pre x E2 I2 loc2 => E2 = [(4, capP b_4), (5, .int .u64 x)] ∧ loc2 = [(b_4, .cells #[.int .u64 ((pre.getLastD b : Nat) : Int)] 100 (0, 0))]) rfl fun_145 (w_euclid _ a b b1 b2 hb ha hb2) rfl rfl ?_ ?_ ?_ ?_
  ·
   rintro l pre x I1 loc1 H1 hpre hI1 rfl
   refine X_region ?_
   refine zA ?_
   refine XO_nil ?_
   exact at_met' _ ⟨HLe.refl _, rfl, rfl⟩ (.cons rfl (.cons rfl .nil))
  ·
   rintro l pre x E2 I2 loc2 H2 hpre hI2 ⟨rfl, rfl⟩
   refine X_block ?_
   refine X_region ?_
   refine zM ?_
   refine zS szt_100 ?_
   refine XO_nil ?_
   refine at_block_n ?_
   exact at_round2 ⟨HLe.refl _, by rw [last_snoc]; rfl⟩ .refl
  ·
   rintro bd I1 loc1 hI1 rfl
   have hIc := hIc.trans hI1
   refine at_block_n ?_
   refine at_then ?_
   refine X_seq (X_region ?_)
   refine XO_v0 (ev_load rfl sct_100 (fun hg => by exact Cell.h0 rfl)) rfl rfl rfl ?_
   refine zS szt_100 ?_
   refine XO_nil (at_then ?_)
   refine X_ret ?_
   exact at_retMs (L := [(b_4, _)]) (fun a ha w hw => res1c rfl rfl sct_100 (Cell.h0 rfl) a ha w hw) (fun w hw => ⟨by rw [remN_gcd b (Nat.le_refl _) (by omega) (fun _ => rfl)], (hw.mono hIc).drop⟩)
  ·
   rintro c bd pre I1 loc1 hI1 hpre hF; exact hF.elim
theorem w_divI (I : HMap) (n d : Int) (hn : -1073741824 ≤ n ∧ n ≤ 1073741824) (hd : 1 ≤ d ∧ d ≤ 1073741824) : RetV Tryz.prog 140 [.int .u64 (magI n), .int .u64 (IntKind.u64.wrap d)] I (.int .u64 (gcdI n d)) := by
 have h0 : 0 ≤ magI n ∧ magI n ≤ 1073741824 := by unfold magI; split <;> omega
 have h := w_div I (magI n).toNat d.toNat (by omega) (by omega) (by omega)
 rw [u64_id (by omega)]
 rw [Int.toNat_of_nonneg h0.1, Int.toNat_of_nonneg (by omega), mag_gcd, Int.toNat_of_nonneg (by omega)] at h
 exact h
theorem w_ratchk (I : HMap) (n d : Int) : RetV Tryz.prog 137 [encRA (n) (d)] I (.int .i64 (ratE n d)) := by
 intro g H w hw
 refine enter Tryz.func137 rfl Tryz.ntmps137 rfl hw ?_
 refine X_seq (X_region ?_)
 refine XO_box rfl rfl rfl (fun b_1 => ?_)
 refine zA ?_
 refine XO_nil (at_then ?_)
 refine X_seq ?_
 refine X_seq ?_
 refine X_draw mixed (by kernel_rfl) ?_
 refine XQ_v0 (ev_fieldAddr rfl fld_46_1) rfl rfl rfl ?_
 refine XQ_v0 (ev_load rfl sct_3 (fun hg => by exact Cell.h0 rfl)) rfl rfl rfl ?_
 refine XQ_v0 (ev_cmp rfl rfl rfl) rfl rfl rfl ?_
 refine XQ_v0 (ev_move rfl) rfl rfl rfl ?_
 refine XQ_pushF 3 rfl rfl rfl ?_
 refine XQ_v1 (ev_fieldAddr rfl fld_46_1) (.some rfl rfl rfl rfl gbf) rfl rfl rfl ?_
 refine XQ_v1 (ev_load rfl sct_3 (fun hg => by exact Cell.h0 rfl)) (.some rfl rfl rfl rfl gbf) rfl rfl rfl ?_
 refine XQ_v1 (ev_cmp rfl rfl rfl) (.some rfl rfl rfl rfl gbf) rfl rfl rfl ?_
 refine XQ_or0 rfl rfl rfl rfl rfl ?_
 refine XQ_v0 (ev_move rfl) rfl rfl rfl ?_
 refine XQ_pushF 8 rfl rfl rfl ?_
 refine XQ_v1 (ev_fieldAddr rfl fld_46_0) (.some rfl rfl rfl rfl gbf) rfl rfl rfl ?_
 refine XQ_v1 (ev_load rfl sct_3 (fun hg => by exact Cell.h0 rfl)) (.some rfl rfl rfl rfl gbf) rfl rfl rfl ?_
 refine XQ_v1 (ev_cmp rfl rfl rfl) (.some rfl rfl rfl rfl gbf) rfl rfl rfl ?_
 refine XQ_or0 rfl rfl rfl rfl rfl ?_
 refine XQ_v0 (ev_move rfl) rfl rfl rfl ?_
 refine XQ_pushF 13 rfl rfl rfl ?_
 refine XQ_v1 (ev_fieldAddr rfl fld_46_0) (.some rfl rfl rfl rfl gbf) rfl rfl rfl ?_
 refine XQ_v1 (ev_load rfl sct_3 (fun hg => by exact Cell.h0 rfl)) (.some rfl rfl rfl rfl gbf) rfl rfl rfl ?_
 refine XQ_v1 (ev_cmp rfl rfl rfl) (.some rfl rfl rfl rfl gbf) rfl rfl rfl ?_
 refine XQ_or0 rfl rfl rfl rfl rfl ?_
 refine XQ_v0 (ev_move rfl) rfl rfl rfl ?_
 refine XQ_pushF 18 rfl rfl rfl ?_
 refine XQ_v1 (ev_fieldAddr rfl fld_46_0) (.some rfl rfl rfl rfl gbf) rfl rfl rfl ?_
 refine XQ_v1 (ev_load rfl sct_3 (fun hg => by exact Cell.h0 rfl)) (.some rfl rfl rfl rfl gbf) rfl rfl rfl ?_
 refine XQ_callV1 (cap := []) (vs := [_]) rfl rfl fun_141 (fun hg => w_mag I n (by simp [conj] at hg; omega)) (.some rfl rfl rfl rfl gbf) rfl rfl ?_
 refine XQ_v1 (ev_fieldAddr rfl fld_46_1) (.some rfl rfl rfl rfl gbf) rfl rfl rfl ?_
 refine XQ_v1 (ev_load rfl sct_3 (fun hg => by exact Cell.h0 rfl)) (.some rfl rfl rfl rfl gbf) rfl rfl rfl ?_
 refine XQ_v1 (ev_convI rfl cvt_3_100) (.some rfl rfl rfl rfl gbf) rfl rfl rfl ?_
 refine XQ_callV1 (cap := []) (vs := [_, _]) rfl rfl fun_140 (fun hg => w_divI I n d (by simp [conj] at hg; omega) (by simp [conj] at hg; omega)) (.some rfl rfl rfl rfl gbf) rfl rfl ?_
 refine XQ_v1 (ev_cmp rfl rfl rfl) (.some rfl rfl rfl rfl gbf) rfl rfl rfl ?_
 refine XQ_or0 rfl rfl rfl rfl rfl ?_
 refine XQ_nil ?_
 refine at_then ?_
 refine X_cond rfl (fun hc30 => ?_) (fun hc30 => ?_)
 ·
  refine X_seq (X_region ?_)
  refine zA ?_
  refine XO_nil (at_then ?_)
  refine X_ret ?_
  refine at_then_r ?_
  first
  | exact at_ret1 rfl rfl (fun w hw => ⟨by unfold ratE; rw [rat_bad hc30]; rfl, hw.drop⟩)
 ·
  refine X_skip ?_
  refine at_then ?_
  refine X_seq (X_region ?_)
  refine zA ?_
  refine XO_nil (at_then ?_)
  refine X_ret ?_
  first
  | exact at_ret1 rfl rfl (fun w hw => ⟨by unfold ratE; rw [rat_good hc30]; rfl, hw.drop⟩)
theorem w_rcmp (I : HMap) (an ad bn bd : Int) : RetV Tryz.prog 134 [encRA (an) (ad), encRA (bn) (bd)] I (.tuple #[.int .i64 (cmpV an ad bn bd), .int .i64 (cmpE an ad bn bd)]) := by
 intro g H w hw
 refine enter Tryz.func134 rfl Tryz.ntmps134 rfl hw ?_
 refine X_seq (X_region ?_)
 refine XO_box rfl rfl rfl (fun b_2 => ?_)
 refine XO_box rfl rfl rfl (fun b_3 => ?_)
 refine zA ?_
 refine zA ?_
 refine XO_nil (at_then ?_)
 refine X_seq ?_
 refine X_seq (X_region ?_)
 refine XO_v0 (ev_loadA rfl agt_46 (fun hg => by exact Cells.g1) rfl) rfl rfl rfl ?_
 refine XO_callV0 (cap := []) (vs := [_]) rfl rfl fun_137 (w_ratchk I _ _) rfl rfl ?_
 refine zC ?_
 refine zM ?_
 refine XO_pushF 3 rfl rfl rfl ?_
 refine XO_v1 (ev_loadA rfl agt_46 (fun hg => by exact Cells.g0) rfl) (.some rfl rfl rfl rfl gbf) rfl rfl rfl ?_
 refine XO_callV1 (cap := []) (vs := [_]) rfl rfl fun_137 (fun hg => w_ratchk I _ _) (.some rfl rfl rfl rfl gbf) rfl rfl ?_
 refine XO_v1 (ev_cmp rfl rfl rfl) (.some rfl rfl rfl rfl gbf) rfl rfl rfl ?_
 refine XO_or0 rfl rfl rfl rfl rfl ?_
 refine XO_nil (at_then ?_)
 refine X_cond rfl (fun hc13 => ?_) (fun hc13 => ?_)
 ·
  have hb : (ratF an ad && ratF bn bd) = false := by have h := hc13; rw [span_eq, Bool.not_eq_true'] at h; exact h
  refine X_seq (X_region ?_)
  refine zA ?_
  refine zA ?_
  refine XO_nil (at_then ?_)
  refine X_ret ?_
  refine at_then_r ?_
  exact at_ret2 rfl rfl rfl (fun w hw => ⟨by unfold cmpV cmpE; rw [hb]; rfl, hw.drop⟩)
 ·
  have hb : (ratF an ad && ratF bn bd) = true := by have h := hc13; rw [span_eq, Bool.not_eq_false'] at h; exact h
  have ⟨ha1, ha2⟩ := ratF_in (Bool.and_eq_true .. ▸ hb).1
  have ⟨hb1, hb2⟩ := ratF_in (Bool.and_eq_true .. ▸ hb).2
  refine X_skip ?_
  refine at_then ?_
  refine X_seq (X_region ?_)
  refine XO_v0 (ev_fieldAddr rfl fld_46_0) rfl rfl rfl ?_
  refine XO_v0 (ev_load rfl sct_3 (fun hg => by exact Cell.h1 rfl)) rfl rfl rfl ?_
  refine XO_v0 (ev_fieldAddr rfl fld_46_1) rfl rfl rfl ?_
  refine XO_v0 (ev_load rfl sct_3 (fun hg => by exact Cell.h0 rfl)) rfl rfl rfl ?_
  refine XO_v0 (ev_arB rfl rfl rfl (fun _ => by exact mul_b (by omega) (by omega))) rfl rfl rfl ?_
  refine XO_v0 (ev_fieldAddr rfl fld_46_0) rfl rfl rfl ?_
  refine XO_v0 (ev_load rfl sct_3 (fun hg => by exact Cell.h0 rfl)) rfl rfl rfl ?_
  refine XO_v0 (ev_fieldAddr rfl fld_46_1) rfl rfl rfl ?_
  refine XO_v0 (ev_load rfl sct_3 (fun hg => by exact Cell.h1 rfl)) rfl rfl rfl ?_
  refine XO_v0 (ev_arB rfl rfl rfl (fun _ => by exact mul_b (by omega) (by omega))) rfl rfl rfl ?_
  refine XO_callV0 (cap := []) (vs := [_, _]) rfl rfl fun_138 (w_cmp I _ _) rfl rfl ?_
  refine zA ?_
  refine zA ?_
  refine XO_nil (at_then ?_)
  refine X_ret ?_
  exact at_ret2 rfl rfl rfl (fun w hw => ⟨by unfold cmpV cmpE; rw [hb]; rfl, hw.drop⟩)
theorem w_fine (I : HMap) (an ad bn bd : Int) : RetV Tryz.prog 125 [encRA (an) (ad), encRA (bn) (bd)] I (.bool (spanF an ad bn bd)) := by
 intro g H w hw
 refine enter Tryz.func125 rfl Tryz.ntmps125 rfl hw ?_
 refine X_seq (X_region ?_)
 refine XO_box rfl rfl rfl (fun b_2 => ?_)
 refine XO_box rfl rfl rfl (fun b_3 => ?_)
 refine zA ?_
 refine XO_nil (at_then (X_seq (X_region ?_)))
 refine XO_v0 (ev_loadA rfl agt_46 (fun hg => by exact Cells.g1) rfl) rfl rfl rfl ?_
 refine XO_v0 (ev_loadA rfl agt_46 (fun hg => by exact Cells.g0) rfl) rfl rfl rfl ?_
 refine XO_callV0 (cap := []) (vs := [_, _]) rfl rfl fun_134 (w_rcmp I _ _ _ _) rfl rfl ?_
 refine zM ?_
 refine XO_v0 (ev_extract rfl rfl) rfl rfl rfl ?_
 refine XO_v0 (ev_extract rfl rfl) rfl rfl rfl ?_
 refine zA ?_
 refine zA ?_
 refine XO_nil (at_then (X_seq (X_region ?_)))
 refine zM ?_
 refine zC ?_
 refine zM ?_
 refine XO_pushT 2 rfl rfl rfl ?_
 refine XO_v1 (ev_move rfl) (.some rfl rfl rfl rfl gbt) rfl rfl rfl ?_
 refine XO_v1 (ev_cmp rfl rfl rfl) (.some rfl rfl rfl rfl gbt) rfl rfl rfl ?_
 refine XO_and0 rfl rfl rfl rfl rfl ?_
 refine zM ?_
 refine XO_pushT 6 rfl rfl rfl ?_
 refine XO_v1 (ev_fieldAddr rfl fld_46_0) (.some rfl rfl rfl rfl gbt) rfl rfl rfl ?_
 refine XO_v1 (ev_load rfl sct_3 (fun hg => by exact Cell.h1 rfl)) (.some rfl rfl rfl rfl gbt) rfl rfl rfl ?_
 refine XO_v1 (ev_cmp rfl rfl rfl) (.some rfl rfl rfl rfl gbt) rfl rfl rfl ?_
 refine XO_and0 rfl rfl rfl rfl rfl ?_
 refine zM ?_
 refine XO_pushT 11 rfl rfl rfl ?_
 refine XO_v1 (ev_fieldAddr rfl fld_46_0) (.some rfl rfl rfl rfl gbt) rfl rfl rfl ?_
 refine XO_v1 (ev_load rfl sct_3 (fun hg => by exact Cell.h0 rfl)) (.some rfl rfl rfl rfl gbt) rfl rfl rfl ?_
 refine XO_v1 (ev_fieldAddr rfl fld_46_1) (.some rfl rfl rfl rfl gbt) rfl rfl rfl ?_
 refine XO_v1 (ev_load rfl sct_3 (fun hg => by exact Cell.h0 rfl)) (.some rfl rfl rfl rfl gbt) rfl rfl rfl ?_
 refine XO_v1 (ev_cmp rfl rfl rfl) (.some rfl rfl rfl rfl gbt) rfl rfl rfl ?_
 refine XO_and0 rfl rfl rfl rfl rfl ?_
 refine zA ?_
 refine XO_nil (at_then ?_)
 refine X_ret ?_
 exact at_ret1 rfl rfl (fun w hw => ⟨by rw [← fine_eq], hw.drop⟩)
theorem w_within (I : HMap) (n lo hi : Int) : RetV Tryz.prog 124 [.int .i64 n, .int .i64 lo, .int .i64 hi] I (.bool (within n lo hi)) := by
 intro g H w hw
 refine enter Tryz.func124 rfl Tryz.ntmps124 rfl hw ?_
 refine X_seq (X_region ?_)
 refine zA ?_
 refine XO_nil (at_then (X_seq (X_region ?_)))
 refine zM ?_
 refine zM ?_
 refine zC ?_
 refine zM ?_
 refine XO_pushT 3 rfl rfl rfl ?_
 refine XO_v1 (ev_move rfl) (.some rfl rfl rfl rfl gbt) rfl rfl rfl ?_
 refine XO_v1 (ev_move rfl) (.some rfl rfl rfl rfl gbt) rfl rfl rfl ?_
 refine XO_v1 (ev_cmp rfl rfl rfl) (.some rfl rfl rfl rfl gbt) rfl rfl rfl ?_
 refine XO_and0 rfl rfl rfl rfl rfl ?_
 refine zA ?_
 refine XO_nil (at_then ?_)
 refine X_ret ?_
 exact at_ret1 rfl rfl (fun w hw => ⟨by first | rfl | simp_all, hw.drop⟩)
theorem w_frm (I : HMap) (x : Sg) : RetV Tryz.prog 107 [encGA x] I (.bool (frm x)) := by
 intro g H w hw
 refine enter Tryz.func107 rfl Tryz.ntmps107 rfl hw ?_
 refine X_seq (X_region ?_)
 refine XO_box rfl rfl rfl (fun b_1 => ?_)
 refine zA ?_
 refine XO_nil (at_then (X_seq (X_region ?_)))
 refine XO_v0 (ev_fieldAddr rfl fld_48_0) rfl rfl rfl ?_
 refine XO_v0 (ev_load rfl sct_3 (fun hg => by exact Cell.h0 rfl)) rfl rfl rfl ?_
 refine XO_callV0 (cap := []) (vs := [_, _, _]) rfl rfl fun_124 (w_within I _ _ _) rfl rfl ?_
 refine zM ?_
 refine XO_pushT 3 rfl rfl rfl ?_
 refine XO_v1 (ev_fieldAddr rfl fld_48_1) (.some rfl rfl rfl rfl gbt) rfl rfl rfl ?_
 refine XO_v1 (ev_load rfl sct_3 (fun hg => by exact Cell.h0 rfl)) (.some rfl rfl rfl rfl gbt) rfl rfl rfl ?_
 refine XO_callV1 (cap := []) (vs := [_, _, _]) rfl rfl fun_124 (fun hg => w_within I _ _ _) (.some rfl rfl rfl rfl gbt) rfl rfl ?_
 refine XO_and0 rfl rfl rfl rfl rfl ?_
 refine zM ?_
 refine XO_pushT 8 rfl rfl rfl ?_
 refine XO_v1 (ev_fieldAddr rfl fld_48_2) (.some rfl rfl rfl rfl gbt) rfl rfl rfl ?_
 refine XO_v1 (ev_load rfl sct_3 (fun hg => by exact Cell.h0 rfl)) (.some rfl rfl rfl rfl gbt) rfl rfl rfl ?_
 refine XO_callV1 (cap := []) (vs := [_, _, _]) rfl rfl fun_124 (fun hg => w_within I _ _ _) (.some rfl rfl rfl rfl gbt) rfl rfl ?_
 refine XO_and0 rfl rfl rfl rfl rfl ?_
 refine zM ?_
 refine XO_pushT 13 rfl rfl rfl ?_
 refine XO_v1 (ev_fieldAddr rfl fld_48_4) (.some rfl rfl rfl rfl gbt) rfl rfl rfl ?_
 refine XO_v1 (ev_load rfl sct_3 (fun hg => by exact Cell.h0 rfl)) (.some rfl rfl rfl rfl gbt) rfl rfl rfl ?_
 refine XO_callV1 (cap := []) (vs := [_, _, _]) rfl rfl fun_124 (fun hg => w_within I _ _ _) (.some rfl rfl rfl rfl gbt) rfl rfl ?_
 refine XO_and0 rfl rfl rfl rfl rfl ?_
 refine zM ?_
 refine XO_pushT 18 rfl rfl rfl ?_
 refine XO_v1 (ev_fieldAddr rfl fld_48_3) (.some rfl rfl rfl rfl gbt) rfl rfl rfl ?_
 refine XO_v1 (ev_load rfl sct_3 (fun hg => by exact Cell.h0 rfl)) (.some rfl rfl rfl rfl gbt) rfl rfl rfl ?_
 refine XO_callV1 (cap := []) (vs := [_, _, _]) rfl rfl fun_124 (fun hg => w_within I _ _ _) (.some rfl rfl rfl rfl gbt) rfl rfl ?_
 refine XO_and0 rfl rfl rfl rfl rfl ?_
 refine zM ?_
 refine XO_pushT 23 rfl rfl rfl ?_
 refine XO_v1 (ev_fieldAddr rfl fld_48_5) (.some rfl rfl rfl rfl gbt) rfl rfl rfl ?_
 refine XO_v1 (ev_load rfl sct_3 (fun hg => by exact Cell.h0 rfl)) (.some rfl rfl rfl rfl gbt) rfl rfl rfl ?_
 refine XO_callV1 (cap := []) (vs := [_, _, _]) rfl rfl fun_124 (fun hg => w_within I _ _ _) (.some rfl rfl rfl rfl gbt) rfl rfl ?_
 refine XO_and0 rfl rfl rfl rfl rfl ?_
 refine zM ?_
 refine XO_pushT 28 rfl rfl rfl ?_
 refine XO_v1 (ev_fieldAddr rfl fld_48_6) (.some rfl rfl rfl rfl gbt) rfl rfl rfl ?_
 refine XO_v1 (ev_load rfl sct_3 (fun hg => by exact Cell.h0 rfl)) (.some rfl rfl rfl rfl gbt) rfl rfl rfl ?_
 refine XO_callV1 (cap := []) (vs := [_, _, _]) rfl rfl fun_124 (fun hg => w_within I _ _ _) (.some rfl rfl rfl rfl gbt) rfl rfl ?_
 refine XO_and0 rfl rfl rfl rfl rfl ?_
 refine zM ?_
 refine XO_pushT 33 rfl rfl rfl ?_
 refine XO_v1 (ev_fieldAddr rfl fld_48_7) (.some rfl rfl rfl rfl gbt) rfl rfl rfl ?_
 refine XO_v1 (ev_load rfl sct_3 (fun hg => by exact Cell.h0 rfl)) (.some rfl rfl rfl rfl gbt) rfl rfl rfl ?_
 refine XO_callV1 (cap := []) (vs := [_, _, _]) rfl rfl fun_124 (fun hg => w_within I _ _ _) (.some rfl rfl rfl rfl gbt) rfl rfl ?_
 refine XO_and0 rfl rfl rfl rfl rfl ?_
 refine zM ?_
 refine XO_pushT 38 rfl rfl rfl ?_
 refine XO_v1 (ev_fieldAddr rfl fld_48_8) (.some rfl rfl rfl rfl gbt) rfl rfl rfl ?_
 refine XO_v1 (ev_load rfl sct_3 (fun hg => by exact Cell.h0 rfl)) (.some rfl rfl rfl rfl gbt) rfl rfl rfl ?_
 refine XO_callV1 (cap := []) (vs := [_, _, _]) rfl rfl fun_124 (fun hg => w_within I _ _ _) (.some rfl rfl rfl rfl gbt) rfl rfl ?_
 refine XO_and0 rfl rfl rfl rfl rfl ?_
 refine zM ?_
 refine XO_pushT 43 rfl rfl rfl ?_
 refine XO_v1 (ev_fieldAddr rfl fld_48_9) (.some rfl rfl rfl rfl gbt) rfl rfl rfl ?_
 refine XO_v1 (ev_load rfl sct_3 (fun hg => by exact Cell.h0 rfl)) (.some rfl rfl rfl rfl gbt) rfl rfl rfl ?_
 refine XO_callV1 (cap := []) (vs := [_, _, _]) rfl rfl fun_124 (fun hg => w_within I _ _ _) (.some rfl rfl rfl rfl gbt) rfl rfl ?_
 refine XO_and0 rfl rfl rfl rfl rfl ?_
 refine zM ?_
 refine XO_pushT 48 rfl rfl rfl ?_
 refine XO_v1 (ev_fieldAddr rfl fld_48_10) (.some rfl rfl rfl rfl gbt) rfl rfl rfl ?_
 refine XO_v1 (ev_loadA rfl agt_46 (fun hg => by exact Cells.s0 (vs := [_, _]) rfl) rfl) (.some rfl rfl rfl rfl gbt) rfl rfl rfl ?_
 refine XO_v1 (ev_fieldAddr rfl fld_48_11) (.some rfl rfl rfl rfl gbt) rfl rfl rfl ?_
 refine XO_v1 (ev_loadA rfl agt_46 (fun hg => by exact Cells.s0 (vs := [_, _]) rfl) rfl) (.some rfl rfl rfl rfl gbt) rfl rfl rfl ?_
 refine XO_callV1 (cap := []) (vs := [_, _]) rfl rfl fun_125 (fun hg => w_fine I _ _ _ _) (.some rfl rfl rfl rfl gbt) rfl rfl ?_
 refine XO_and0 rfl rfl rfl rfl rfl ?_
 refine zA ?_
 refine XO_nil (at_then ?_)
 refine X_ret ?_
 exact at_ret1 rfl rfl (fun w hw => ⟨by rfl, hw.drop⟩)
theorem w_chkG {I : HMap} {av : Option Addr} {n c : Nat} {xs : List Sg} (hS : Sl I 14 encG av n c xs) (hn : n ≤ 100000) : RetV Tryz.prog 75 [.slice av n c] I (.int .i64 (chkG xs)) := by
 intro g H w hw
 refine enter Tryz.func75 rfl Tryz.ntmps75 rfl hw ?_
 refine X_seq (X_region ?_)
 refine zA ?_
 refine XO_nil (at_then ?_)
 refine X_seq ?_
 refine X_seq (X_region ?_)
 refine zM ?_
 refine XO_v0 (ev_lenS rfl slt_36) rfl rfl rfl ?_
 refine zC ?_
 refine XO_nil (at_then ?_)
 refine X_cond rfl (fun hc7 => ?_) (fun hc7 => ?_)
 ·
  have h6 : xs.length > 4096 := by rw [hS.len]; simp at hc7; omega
  refine X_seq (X_region ?_)
  refine zA ?_
  refine XO_nil (at_then ?_)
  refine X_ret ?_
  refine at_then_r ?_
  first
  | exact at_ret1 rfl rfl (fun w hw => ⟨by unfold chkG; rw [if_pos h6], hw.drop⟩)
 ·
  have h6 : ¬ xs.length > 4096 := by rw [hS.len]; simp at hc7; omega
  refine X_skip ?_
  refine at_then ?_
  refine X_seq ?_
  refine X_seq (X_region ?_)
  refine zM ?_
  refine XO_v0 (ev_lenS rfl slt_36) rfl rfl rfl ?_
  refine zM ?_
  refine XO_nil (at_then ?_)
  refine X_block ?_
  refine X_loopT [(0, _), (8, _), (9, _)] (.cons rfl (.cons rfl (.cons rfl .nil))) (fun T L0 mz E I' loc' => ∃ (k : Nat), mz = n - k ∧ E = (10, .int .i64 k) :: T ∧ I = I' ∧ L0 = loc' ∧ k ≤ n ∧ (List.range k).all (skP xs) = true) _ _ _ _ ⟨0, rfl, rfl, rfl, rfl, Nat.zero_le _, rfl⟩ (.cons rfl (.cons rfl (.cons rfl (.cons rfl .nil)))) (HLe.refl _) rfl ?_
  rintro mz E I' loc' ⟨k, rfl, rfl, rfl, rfl, hk, hall⟩
  refine X_seq (X_region ?_)
  refine zC ?_
  refine XO_nil (at_then ?_)
  refine X_seq ?_
  refine X_cond rfl (fun hc11 => ?_) (fun hc11 => ?_)
  ·
   have hlt_k : k < n := by have h := hc11; simp at h; omega
   obtain ⟨x, hx⟩ := hS.at hlt_k
   refine X_skip ?_
   refine at_then ?_
   refine X_seq ?_
   refine X_block ?_
   refine X_seq (X_region ?_)
   refine zM ?_
   refine XO_v0 (ev_indexSl rfl rfl slt_36 (by assumption) (fun hg => by first | omega | (simp [conj] at hg; omega))) rfl rfl rfl ?_
   refine XO_v0 (ev_loadA rfl agt_48 (fun hg => by exact Sl.getA hS hx) rfl) rfl rfl rfl ?_
   refine XO_alloc zt_48 rfl rfl (fun b_4 => ?_)
   refine zA ?_
   refine XO_storeA rfl rfl szt_48 rfl rfl rfl rfl (by repeat (first | exact Upd.here | apply Upd.there | apply upd_app)) ?_
   refine XO_nil (at_then ?_)
   refine X_seq ?_
   refine X_draw mixed (by kernel_rfl) ?_
   refine XQ_v0 (ev_loadA rfl agt_48 (fun hg => by exact Cells.g0) rfl) rfl rfl rfl ?_
   refine XQ_callV0 (cap := []) (vs := [_]) rfl rfl fun_107 (w_frm I _) rfl rfl ?_
   refine XQ_v0 (ev_not rfl) rfl rfl rfl ?_
   refine XQ_v0 (ev_move rfl) rfl rfl rfl ?_
   refine XQ_pushF 3 rfl rfl rfl ?_
   refine XQ_v1 (ev_move rfl) (.some rfl rfl rfl rfl gbf) rfl rfl rfl ?_
   refine XQ_v1 (ev_cmp rfl rfl rfl) (.some rfl rfl rfl rfl gbf) rfl rfl rfl ?_
   refine XQ_v1 (ev_move rfl) (.some rfl rfl rfl rfl gbf) rfl rfl rfl ?_
   refine XQ_pushT 6 rfl rfl rfl ?_
   refine XQ_v1 (ev_move rfl) (.some rfl rfl rfl rfl gbt) rfl rfl rfl ?_
   refine XQ_v1 (ev_move rfl) (.some rfl rfl rfl rfl gbt) rfl rfl rfl ?_
   refine XQ_v1 (ev_arB rfl rfl rfl (fun hg => by first | omega | (simp [conj] at hg; omega))) (.some rfl rfl rfl rfl gbt) rfl rfl rfl ?_
   refine XQ_v1 (ev_indexSl rfl rfl slt_36 (by assumption) (fun hg => by first | omega | (simp [conj] at hg; omega))) (.some rfl rfl rfl rfl gbt) rfl rfl rfl ?_
   refine XQ_v1 (ev_fieldAddr rfl fld_48_0) (.some rfl rfl rfl rfl gbt) rfl rfl rfl ?_
   refine XQ_v1 (ev_load rfl sct_3 (fun hg => by exact Sl.get0 (k := ((k : Int) - 1).toNat) hS (some_getD (d := zeroG) hS.len (by simp [conj] at hg; omega)) rfl)) (.some rfl rfl rfl rfl gbt) rfl rfl rfl ?_
   refine XQ_v1 (ev_fieldAddr rfl fld_48_0) (.some rfl rfl rfl rfl gbt) rfl rfl rfl ?_
   refine XQ_v1 (ev_load rfl sct_3 (fun hg => by exact Cell.h0 rfl)) (.some rfl rfl rfl rfl gbt) rfl rfl rfl ?_
   refine XQ_v1 (ev_cmp rfl rfl rfl) (.some rfl rfl rfl rfl gbt) rfl rfl rfl ?_
   refine XQ_and1 rfl rfl rfl (.some rfl rfl rfl rfl gbf) rfl rfl ?_
   refine XQ_or0 rfl rfl rfl rfl rfl ?_
   refine XQ_nil ?_
   refine at_then ?_
   refine X_cond rfl (fun hc32 => ?_) (fun hc32 => ?_)
   ·
    refine X_seq (X_region ?_)
    refine zA ?_
    refine XO_nil (at_then ?_)
    refine X_ret ?_
    refine at_block_r ?_
    refine at_then_r ?_
    refine at_then_r ?_
    refine at_block_r ?_
    refine at_then_r ?_
    first
    | exact at_ret1 rfl rfl (fun w hw => ⟨by unfold chkG skB; rw [if_neg h6, range_bad (k := k) (by rw [hS.len]; exact hlt_k) (by rw [skP_at hx, hc32]; rfl)]; rfl, hw.drop⟩)
   ·
    refine X_skip ?_
    refine at_block_n ?_
    refine at_then ?_
    refine X_region ?_
    refine zB ?_
    refine zM ?_
    refine XO_nil ?_
    exact at_met2 _ _ ⟨n - (k + 1), by omega, k + 1, rfl, rfl, rfl, rfl, by omega, range_step hall (by rw [skP_at hx, hc32]; rfl)⟩ (.cons rfl (.cons rfl (.cons rfl (.cons rfl .nil)))) (by repeat (first | exact .refl | exact subL_left | refine subL_app ?_ | refine .drop ?_ | refine subL_add ?_))
  ·
   have hge_k : n ≤ k := by have h := hc11; simp at h; omega
   refine X_exit ?_
   refine at_then_e ?_
   refine at_then_e ?_
   refine at_block_hit ?_
   refine at_then ?_
   refine X_seq (X_region ?_)
   refine zA ?_
   refine XO_nil (at_then ?_)
   refine X_ret ?_
   first
   | exact at_ret1 rfl rfl (fun w hw => ⟨by unfold chkG skB; rw [if_neg h6, hS.len, show n = k by omega, hall]; rfl, hw.drop⟩)
end Go.Proofs.YthcffaheamikgaaGreatDoor
end
section
namespace Go.Proofs.YthcffaheamikgaaGreatDoor
open Go Go.Kn Go.Proofs
structure Wr where
  no : Int
  yr : Int
  rs : List Rd
/-- A slice of witnesses: the heads, and the readings that they point to. -/
def SlWH (I : HMap) (av : Option Addr) (n c : Nat) (ws : List Wt) (xs : List Wr) : Prop := Sl I 3 encW av n c ws ∧ ws.length = xs.length ∧ ∀ (k : Nat) (w : Wt) (x : Wr), ws[k]? = some w → xs[k]? = some x → w.no = x.no ∧ w.yr = x.yr ∧ Sl I 15 encRd w.a w.n w.c x.rs
def SlW (I : HMap) (av : Option Addr) (n c : Nat) (xs : List Wr) : Prop := ∃ ws : List Wt, SlWH I av n c ws xs
theorem SlWH.mono {I I' : HMap} {av : Option Addr} {n c : Nat} {ws : List Wt} {xs : List Wr} (h : SlWH I av n c ws xs) (hI : HLe I I') : SlWH I' av n c ws xs :=
  ⟨h.1.mono hI, h.2.1, fun k w x h1 h2 => ⟨(h.2.2 k w x h1 h2).1, (h.2.2 k w x h1 h2).2.1, (h.2.2 k w x h1 h2).2.2.mono hI⟩⟩
theorem SlW.mono {I I' : HMap} {av : Option Addr} {n c : Nat} {xs : List Wr} (h : SlW I av n c xs) (hI : HLe I I') : SlW I' av n c xs := by
  obtain ⟨ws, h⟩ := h; exact ⟨ws, h.mono hI⟩
theorem SlWH.len {I : HMap} {av : Option Addr} {n c : Nat} {ws : List Wt} {xs : List Wr} (h : SlWH I av n c ws xs) : xs.length = n := by rw [← h.2.1]; exact h.1.len
theorem SlWH.at {I : HMap} {av : Option Addr} {n c : Nat} {ws : List Wt} {xs : List Wr} (h : SlWH I av n c ws xs) {k : Nat} (hk : k < n) : ∃ w x, ws[k]? = some w ∧ xs[k]? = some x ∧ w.no = x.no ∧ w.yr = x.yr ∧ Sl I 15 encRd w.a w.n w.c x.rs := by
  obtain ⟨w, hw⟩ := h.1.at hk
  have hl := h.len
  obtain ⟨x, hx⟩ : ∃ x, xs[k]? = some x := ⟨_, List.getElem?_eq_getElem (by omega)⟩
  exact ⟨w, x, hw, hx, h.2.2 k w x hw hx⟩
def sgEq (x y : Sg) : Bool := x.id == y.id && (x.role == y.role && (x.bar == y.bar && (x.mark == y.mark && (x.kind == y.kind && (x.side == y.side && (x.dir == y.dir && (x.level == y.level && (x.size == y.size && (x.wth == y.wth && (x.fn == y.fn && (x.fd == y.fd && (x.tn == y.tn && (x.td == y.td && true)))))))))))))
theorem sgEq_iff {x y : Sg} : sgEq x y = true ↔ x = y := by
  obtain ⟨a1, a2, a3, a4, a5, a6, a7, a8, a9, a10, a11, a12, a13, a14⟩ := x
  obtain ⟨b1, b2, b3, b4, b5, b6, b7, b8, b9, b10, b11, b12, b13, b14⟩ := y
  simp [sgEq]
instance : DecidableEq Sg := fun a b => decidable_of_iff (sgEq a b = true) sgEq_iff
/-- Is a reading wrong? -/
def badR (r : Rd) : Bool := (r.lost && !sgEq r.sg zeroG) || (!r.lost && ((r.sg.id != 0) || (chkG [r.sg] != 0)))
theorem badR_l {r : Rd} (h : r.lost = true) (b : Bool) (h2 : (!sgEq r.sg zeroG) = b) : badR r = b := by unfold badR; rw [h, h2]; cases b <;> rfl
theorem badR_i {r : Rd} (h : r.lost = false) (h2 : (r.sg.id != 0) = true) : badR r = true := by unfold badR; rw [h, h2]; rfl
theorem badR_c {r : Rd} (h : r.lost = false) (h2 : (r.sg.id != 0) = false) : badR r = (chkG [r.sg] != 0) := by unfold badR; rw [h, h2]; simp
theorem rd_split (r : Rd) : (r.lost = true ∧ (!sgEq r.sg zeroG) = true) ∨ (r.lost = true ∧ (!sgEq r.sg zeroG) = false) ∨ (r.lost = false ∧ (r.sg.id != 0) = true) ∨ (r.lost = false ∧ (r.sg.id != 0) = false) := by
  cases r.lost <;> cases (!sgEq r.sg zeroG) <;> cases (r.sg.id != 0) <;> simp
def badW (l : Int) (x : Wr) : Bool := ((decide (x.no ≤ l) || decide (x.no > 1048576)) || decide (x.yr < 0)) || decide (x.yr > 3000)
/-- Are the numbers, years and readings right, where the last number was l? -/
def goodW : Int → List Wr → Bool
  | _, [] => true
  | l, x :: xs => !badW l x && (!x.rs.any badR && goodW x.no xs)
def chkW (xs : List Wr) : Int := if xs.length > 24 then 2 else if xs.any (fun x => decide (x.rs.length > 64)) = true then 2 else if goodW 0 xs = true then 0 else 410
theorem chkW_1 {xs : List Wr} (h : xs.length > 24) : chkW xs = 2 := by unfold chkW; rw [if_pos h]
theorem chkW_2 {xs : List Wr} (h : ¬ xs.length > 24) (h2 : xs.any (fun x => decide (x.rs.length > 64)) = true) : chkW xs = 2 := by unfold chkW; rw [if_neg h, if_pos h2]
theorem chkW_3 {xs : List Wr} (h : ¬ xs.length > 24) (h2 : xs.any (fun x => decide (x.rs.length > 64)) = false) (h3 : goodW 0 xs = false) : chkW xs = 410 := by unfold chkW; rw [if_neg h, h2, h3]; rfl
theorem chkW_4 {xs : List Wr} (h : ¬ xs.length > 24) (h2 : xs.any (fun x => decide (x.rs.length > 64)) = false) (h3 : goodW 0 xs = true) : chkW xs = 0 := by unfold chkW; rw [if_neg h, h2, h3]; rfl
theorem goodW_bad {xs : List Wr} {k : Nat} {l : Int} {x : Wr} (hx : xs[k]? = some x) (hb : badW l x = true) : goodW l (xs.drop k) = false := by rw [drop_cons hx]; unfold goodW; rw [hb]; rfl
theorem goodW_rd {xs : List Wr} {k : Nat} {l : Int} {x : Wr} {r : Rd} {j : Nat} (hx : xs[k]? = some x) (hr : x.rs[j]? = some r) (hb : badR r = true) : goodW l (xs.drop k) = false := by
  rw [drop_cons hx]; unfold goodW
  rw [show x.rs.any badR = true from List.any_eq_true.2 ⟨r, List.mem_of_getElem? hr, hb⟩]; simp
theorem goodW_step {xs : List Wr} {k : Nat} {l : Int} {x : Wr} (hx : xs[k]? = some x) (hb : badW l x = false) (hr : x.rs.any badR = false) : goodW l (xs.drop k) = goodW x.no (xs.drop (k + 1)) := by
  rw [drop_cons hx]
  show (!badW l x && (!x.rs.any badR && goodW x.no (xs.drop (k + 1)))) = _
  rw [hb, hr]; rfl
theorem goodW_end {xs : List Wr} {k : Nat} {l : Int} (h : xs.length ≤ k) : goodW l (xs.drop k) = true := by rw [List.drop_eq_nil_of_le h]; rfl
end Go.Proofs.YthcffaheamikgaaGreatDoor
end
section
namespace Go.Kn
open Go
section
variable {C : Cx} {Q : Exit → Act → World → Prop} {E G : Env} {I I' I0 : HMap} {loc loc' loc0 L R : Loc} {ops : Array Oper} {rest : List Oper} {S : GS}
variable {dst : Option Nat} {d : Nat} {ty : TypeId} {pos : String} {af : Array Edge} {gd : Option (Nat × Bool)} {x y z : Operand} {a b c : Int}
theorem ev_min3 {k : IntKind} {ats : Array TypeId} (hx : evalS S E x = some (.int k a)) (hy : evalS S E y = some (.int k b)) (hz : evalS S E z = some (.int k c)) : EvalOp C S E I loc ⟨dst, .call ⟨.builtin .min, #[x, y, z], ats⟩, ty, pos, af, gd⟩ (.int k (minI (minI a b) c)) :=
  .of (by intro c e; cases e) fun ac w ha hg hc hw => by
    simp only [execOp, resolve, List.map_toArray, List.map_cons, List.map_nil, evalS_sound ha hg hc hx, evalS_sound ha hg hc hy, evalS_sound ha hg hc hz, Sem.run_bind, Sem.run_pure, Result.andThen, invoke, builtin]; rfl
/-- Does a guard's value say no? One that was not reckoned says no. -/
def sayNo (u : Value) (want : Bool) : Bool := match u with | .bool b => b != want | _ => true
theorem wanted_no {j dj : Nat} {want : Bool} {oj o : Oper} {u : Value} {N : Nat} {D : List Deferred} {a : Act} (hg : o.guard = some (j, want)) (hj : ops[j]? = some oj) (hd : oj.dst = some dj) (ha : Fits N D E a) (hl : look E dj = some u) (hu : sayNo u want = true) : Region.wanted o (yielded ops a.tmps) = false := by
  have h := ha.env _ _ hl
  simp only [Region.wanted, hg]
  cases u with
  | bool b0 =>
    rw [yielded_bool hj hd h]
    cases b0 <;> cases want <;> first | rfl | cases hu
  | _ =>
    have hy : yielded ops a.tmps j = none := by
      unfold yielded
      simp only [hj, Option.bind_some, hd]
      cases e : a.tmps[dj]? with
      | none => rfl
      | some v =>
        simp [e] at h; rw [h]
    rw [hy]; rfl
/-- An operation whose guard is known to say no. -/
theorem XO_skipW {op : Op} {j dj : Nat} {want : Bool} {oj : Oper} {u : Value} (hj : ops[j]? = some oj) (hd : oj.dst = some dj) (hl : look E dj = some u) (hu : sayNo u want = true) (hN : Nat.blt d C.N = true)
    (h : XO C Q ops rest [] ((d, undef) :: E) I loc) : XO C Q ops (⟨some d, op, ty, pos, af, some (j, want)⟩ :: rest) [] E I loc := by
  intro a w ha hg hw
  simp only [wpListIn]
  rw [wanted_no (o := ⟨some d, op, ty, pos, af, some (j, want)⟩) rfl hj hd ha hl hu]
  simp only [Bool.false_eq_true, if_false]
  exact ⟨fun _ _ => trivial, h _ _ (ha.put hN undef) trivial hw⟩
theorem XD_skipW (i : Nat) {j dj fuel : Nat} {want : Bool} {oj : Oper} {listed : Array Bool} {op : Op} {u : Value} (hi : ops[i]? = some ⟨some d, op, ty, pos, af, some (j, want)⟩) (hj : ops[j]? = some oj) (hd : oj.dst = some dj) (hlk : look E dj = some u) (hu : sayNo u want = true)
    (hdf : ∀ c, op ≠ .defer c) (hN : Nat.blt d C.N = true)
    (hs : Region.noSelect ops = true) (hfr : Region.free .any ops listed i = true) (hr : (Region.ready .any ops listed).contains i = true) (hQ : NoPanic Q) (hI : HLe I0 I) (hl : SubL loc0 loc)
    (h : XD C Q ops I0 loc0 fuel (listed.setIfInBounds i true) [] ((d, undef) :: E) I loc) : XD C Q ops I0 loc0 (fuel + 1) listed [] E I loc := by
  intro a w ha hg hw
  have hp := ha.put hN undef
  refine wpAnyS_first (v := undef) hi hdf (Region.noSelect_spec hs) (fun c a w => hQ c a d _ w) fuel listed a w (Region.free_spec hi hfr) (by simpa using hr) ?_ ((hw.mono hI).subL hl) (h _ _ hp trivial hw)
  exact .inr ⟨by rw [wanted_no (o := ⟨some d, op, ty, pos, af, some (j, want)⟩) rfl hj hd ha hlk hu], rfl⟩
end
end Go.Kn
end
section
namespace Go.Proofs.YthcffaheamikgaaGreatDoor
open Go Go.Kn Go.Proofs
theorem agt_54 : AgT Tryz.prog 54 3 := .of (by kernel_rfl)
theorem elt_36 : ElT Tryz.prog 36 48 14 112 := .of (by kernel_rfl)
theorem eqt2_48 : EqT2 Tryz.prog 48 [.int, .int, .int, .int, .int, .int, .int, .int, .int, .int, .int, .int, .int, .int] := ⟨by kernel_rfl, by kernel_rfl, by kernel_rfl, by kernel_rfl⟩
theorem fld_54_0 : FieldAt Tryz.prog 54 0 0 := .of (by kernel_rfl)
theorem fld_54_1 : FieldAt Tryz.prog 54 1 1 := .of (by kernel_rfl)
theorem fun_75 : Fun Tryz.prog 75 := .of Tryz.func75 (by kernel_rfl) (by kernel_rfl)
theorem szt_54 : SzT Tryz.prog 54 3 := .of (by kernel_rfl)
theorem zt_54 : ZeroT Tryz.prog 54 (.agg #[(.int .i64 0), (.int .i64 0), (.slice none 0 0)]) := .of (by kernel_rfl)
theorem w_chkW {I : HMap} {av : Option Addr} {n c : Nat} {xs : List Wr} (hW : SlW I av n c xs) (hn : n ≤ 100000) : RetV Tryz.prog 41 [.slice av n c] I (.int .i64 (chkW xs)) := by
 intro g H w hw
 refine enter Tryz.func41 rfl Tryz.ntmps41 rfl hw ?_
 have hIc := HLe.refl I
 obtain ⟨ws, hW⟩ := hW
 have hH := hW.1
 have hlW := hW.len
 refine X_seq (X_region ?_)
 refine zA ?_
 refine XO_nil (at_then ?_)
 refine X_seq ?_
 refine X_seq (X_region ?_)
 refine zM ?_
 refine XO_v0 (ev_lenS rfl slt_31) rfl rfl rfl ?_
 refine zC ?_
 refine XO_nil (at_then ?_)
 refine X_cond rfl (fun hc12 => ?_) (fun hc12 => ?_)
 ·
  have h1 : xs.length > 24 := by rw [hlW]; simp at hc12; omega
  refine X_seq (X_region ?_)
  refine zA ?_
  refine XO_nil (at_then ?_)
  refine X_ret ?_
  refine at_then_r ?_
  exact at_ret1 rfl rfl (fun w hw => ⟨by rw [chkW_1 h1], (hw.mono hIc).drop⟩)
 ·
  have h1 : ¬ xs.length > 24 := by rw [hlW]; simp at hc12; omega
  refine X_skip ?_
  refine at_then ?_
  refine X_seq ?_
  refine X_seq (X_region ?_)
  refine zM ?_
  refine XO_v0 (ev_lenS rfl slt_31) rfl rfl rfl ?_
  refine zM ?_
  refine XO_nil (at_then ?_)
  refine X_block ?_
  refine X_loopT [(0, _), (13, _), (14, _)] (.cons rfl (.cons rfl (.cons rfl .nil))) (fun T L0 mz E I' loc' => ∃ (k : Nat), mz = n - k ∧ E = (15, .int .i64 k) :: T ∧ I = I' ∧ L0 = loc' ∧ k ≤ n ∧ (xs.take k).any (fun x => decide (x.rs.length > 64)) = false) _ _ _ _ ⟨0, rfl, rfl, rfl, rfl, Nat.zero_le _, rfl⟩ (.cons rfl (.cons rfl (.cons rfl (.cons rfl .nil)))) (HLe.refl _) rfl ?_
  rintro mz E I' loc' ⟨k, rfl, rfl, rfl, rfl, hk, hno⟩
  refine X_seq (X_region ?_)
  refine zC ?_
  refine XO_nil (at_then ?_)
  refine X_seq ?_
  refine X_cond rfl (fun hc16 => ?_) (fun hc16 => ?_)
  ·
   have hlt_k : k < n := by have h := hc16; simp at h; omega
   obtain ⟨w, x, hx, hv, e1, e2, hR⟩ := hW.at hlt_k
   refine X_skip ?_
   refine at_then ?_
   refine X_seq ?_
   refine X_block ?_
   refine X_seq (X_region ?_)
   refine XO_v0 (ev_indexSl rfl rfl slt_31 hH (fun hg => by first | omega | (simp [conj] at hg; omega))) rfl rfl rfl ?_
   refine XO_v0 (ev_loadA rfl agt_54 (fun hg => by exact Sl.getA hH hx) rfl) rfl rfl rfl ?_
   refine XO_alloc zt_54 rfl rfl (fun b_4 => ?_)
   refine XO_storeA rfl rfl szt_54 rfl rfl rfl rfl (by repeat (first | exact Upd.here | apply Upd.there | apply upd_app)) ?_
   refine XO_nil (at_then (X_seq (X_region ?_)))
   refine XO_v0 (ev_fieldAddr rfl fld_54_2) rfl rfl rfl ?_
   refine XO_v0 (ev_load rfl sct_52 (fun hg => by exact Cell.h0 rfl)) rfl rfl rfl ?_
   refine XO_v0 (ev_lenS rfl slt_52) rfl rfl rfl ?_
   refine zC ?_
   refine XO_nil (at_then ?_)
   refine X_cond rfl (fun hc22 => ?_) (fun hc22 => ?_)
   ·
    have h2 : xs.any (fun x => decide (x.rs.length > 64)) = true := any_yes hv (by rw [hR.len]; have h := hc22; simp at h ⊢; omega)
    refine X_seq (X_region ?_)
    refine zA ?_
    refine XO_nil (at_then ?_)
    refine X_ret ?_
    refine at_block_r ?_
    refine at_then_r ?_
    refine at_then_r ?_
    refine at_block_r ?_
    refine at_then_r ?_
    exact at_ret1 rfl rfl (fun w hw => ⟨by rw [chkW_2 h1 h2], (hw.mono hIc).drop⟩)
   ·
    refine X_skip ?_
    refine at_block_n ?_
    refine at_then ?_
    refine X_region ?_
    refine zB ?_
    refine zM ?_
    refine XO_nil ?_
    exact at_met2 _ _ ⟨n - (k + 1), by omega, k + 1, rfl, rfl, rfl, rfl, by omega, any_no hv hno (by rw [hR.len]; have h := hc22; simp at h ⊢; omega)⟩ (.cons rfl (.cons rfl (.cons rfl (.cons rfl .nil)))) (by repeat (first | exact .refl | exact subL_left | refine subL_app ?_ | refine .drop ?_ | refine subL_add ?_))
  ·
   have hge_k : n ≤ k := by have h := hc16; simp at h; omega
   rw [take_all hlW hge_k] at hno
   refine X_exit ?_
   refine at_then_e ?_
   refine at_then_e ?_
   refine at_block_hit ?_
   refine at_then ?_
   refine X_seq (X_region ?_)
   refine zA ?_
   refine XO_nil (at_then ?_)
   refine X_seq ?_
   refine X_seq (X_region ?_)
   refine zM ?_
   refine XO_v0 (ev_lenS rfl slt_31) rfl rfl rfl ?_
   refine zM ?_
   refine XO_nil (at_then ?_)
   refine X_block ?_
   refine X_loopT [(24, _), (25, _)] (.cons rfl (.cons rfl .nil)) (fun T L0 mz E I' loc' => ∃ (k : Nat) (l : Int), mz = n - k ∧ E = (5, .int .i64 l) :: (26, .int .i64 k) :: T ∧ HLe I I' ∧ L0 = loc' ∧ k ≤ n ∧ goodW 0 xs = goodW l (xs.drop k)) _ _ _ _ ⟨0, 0, rfl, rfl, HLe.refl _, rfl, Nat.zero_le _, rfl⟩ (.cons rfl (.cons rfl (.cons rfl (.cons rfl .nil)))) (HLe.refl _) rfl ?_
   rintro mz E J2 loc' ⟨k, l, rfl, rfl, hJ, rfl, hk, hgo⟩
   have hW := hW.mono hJ
   have hH := hH.mono hJ
   have hIc := hIc.trans hJ
   have hB2 := hJ
   refine X_seq (X_region ?_)
   refine zC ?_
   refine XO_nil (at_then ?_)
   refine X_seq ?_
   refine X_cond rfl (fun hc27 => ?_) (fun hc27 => ?_)
   ·
    have hlt_k : k < n := by have h := hc27; simp at h; omega
    obtain ⟨w, x, hx, hv, e1, e2, hR⟩ := hW.at hlt_k
    have hrn := hR.len
    have hR64 : w.n ≤ 64 := by have := List.any_eq_false.1 hno x (List.mem_of_getElem? hv); simp at this; omega
    refine X_skip ?_
    refine at_then ?_
    refine X_seq ?_
    refine X_block ?_
    refine X_seq (X_region ?_)
    refine XO_v0 (ev_indexSl rfl rfl slt_31 hH (fun hg => by first | omega | (simp [conj] at hg; omega))) rfl rfl rfl ?_
    refine XO_v0 (ev_loadA rfl agt_54 (fun hg => by exact Sl.getA hH hx) rfl) rfl rfl rfl ?_
    refine XO_alloc zt_54 rfl rfl (fun b_7 => ?_)
    refine XO_storeA rfl rfl szt_54 rfl rfl rfl rfl (by repeat (first | exact Upd.here | apply Upd.there | apply upd_app)) ?_
    refine XO_nil (at_then ?_)
    refine X_seq ?_
    refine X_seq (X_region ?_)
    refine XO_v0 (ev_fieldAddr rfl fld_54_0) rfl rfl rfl ?_
    refine XO_v0 (ev_load rfl sct_3 (fun hg => by exact Cell.h0 rfl)) rfl rfl rfl ?_
    refine zM ?_
    refine zC ?_
    refine zM ?_
    refine XO_pushF 4 rfl rfl rfl ?_
    refine XO_v1 (ev_fieldAddr rfl fld_54_0) (.some rfl rfl rfl rfl gbf) rfl rfl rfl ?_
    refine XO_v1 (ev_load rfl sct_3 (fun hg => by exact Cell.h0 rfl)) (.some rfl rfl rfl rfl gbf) rfl rfl rfl ?_
    refine XO_v1 (ev_cmp rfl rfl rfl) (.some rfl rfl rfl rfl gbf) rfl rfl rfl ?_
    refine XO_or0 rfl rfl rfl rfl rfl ?_
    refine zM ?_
    refine XO_pushF 9 rfl rfl rfl ?_
    refine XO_v1 (ev_fieldAddr rfl fld_54_1) (.some rfl rfl rfl rfl gbf) rfl rfl rfl ?_
    refine XO_v1 (ev_load rfl sct_3 (fun hg => by exact Cell.h0 rfl)) (.some rfl rfl rfl rfl gbf) rfl rfl rfl ?_
    refine XO_v1 (ev_cmp rfl rfl rfl) (.some rfl rfl rfl rfl gbf) rfl rfl rfl ?_
    refine XO_or0 rfl rfl rfl rfl rfl ?_
    refine zM ?_
    refine XO_pushF 14 rfl rfl rfl ?_
    refine XO_v1 (ev_fieldAddr rfl fld_54_1) (.some rfl rfl rfl rfl gbf) rfl rfl rfl ?_
    refine XO_v1 (ev_load rfl sct_3 (fun hg => by exact Cell.h0 rfl)) (.some rfl rfl rfl rfl gbf) rfl rfl rfl ?_
    refine XO_v1 (ev_cmp rfl rfl rfl) (.some rfl rfl rfl rfl gbf) rfl rfl rfl ?_
    refine XO_or0 rfl rfl rfl rfl rfl ?_
    refine XO_nil (at_then ?_)
    refine X_cond rfl (fun hc48 => ?_) (fun hc48 => ?_)
    ·
     have hbw : badW l x = true := by unfold badW; rw [← e1, ← e2]; exact hc48
     refine X_seq (X_region ?_)
     refine zA ?_
     refine XO_nil (at_then ?_)
     refine X_ret ?_
     refine at_then_r ?_
     refine at_block_r ?_
     refine at_then_r ?_
     refine at_then_r ?_
     refine at_block_r ?_
     refine at_then_r ?_
     exact at_ret1 rfl rfl (fun w hw => ⟨by rw [chkW_3 h1 hno (hgo.trans (goodW_bad hv hbw))], (hw.mono hIc).drop⟩)
    ·
     have hbw : badW l x = false := by unfold badW; rw [← e1, ← e2]; exact hc48
     refine X_skip ?_
     refine at_then ?_
     refine X_seq (X_region ?_)
     refine XO_v0 (ev_fieldAddr rfl fld_54_0) rfl rfl rfl ?_
     refine XO_v0 (ev_load rfl sct_3 (fun hg => by exact Cell.h0 rfl)) rfl rfl rfl ?_
     refine zA ?_
     refine XO_nil (at_then (X_seq (X_region ?_)))
     refine XO_v0 (ev_fieldAddr rfl fld_54_2) rfl rfl rfl ?_
     refine XO_v0 (ev_load rfl sct_52 (fun hg => by exact Cell.h0 rfl)) rfl rfl rfl ?_
     refine XO_v0 (ev_lenS rfl slt_52) rfl rfl rfl ?_
     refine zM ?_
     refine XO_nil (at_then ?_)
     refine X_block ?_
     refine X_loopT [(5, _), (24, _), (25, _), (26, _), (52, _), (53, _)] (.cons rfl (.cons rfl (.cons rfl (.cons rfl (.cons rfl (.cons rfl .nil)))))) (fun T L0 mz E I' loc' => ∃ (j : Nat), mz = w.n - j ∧ E = (54, .int .i64 j) :: T ∧ HLe J2 I' ∧ [(b_7, .cells (encW w).toArray 54 (0, 0))] = loc' ∧ j ≤ w.n ∧ (x.rs.take j).any badR = false) _ _ _ _ ⟨0, rfl, rfl, HLe.refl _, rfl, Nat.zero_le _, rfl⟩ (.cons rfl (.cons rfl (.cons rfl (.cons rfl (.cons rfl (.cons rfl (.cons rfl .nil))))))) (HLe.refl _) rfl ?_
     rintro mz E J3 loc' ⟨j, rfl, rfl, hJ, rfl, hj, hnr⟩
     have hW := hW.mono hJ
     have hH := hH.mono hJ
     have hR := hR.mono hJ
     have hIc := hIc.trans hJ
     have hB2 := hB2.trans hJ
     have hB4 := hJ
     refine X_seq (X_region ?_)
     refine zC ?_
     refine XO_nil (at_then ?_)
     refine X_seq ?_
     refine X_cond rfl (fun hc55 => ?_) (fun hc55 => ?_)
     ·
      have hlt_j : j < w.n := by have h := hc55; simp at h; omega
      obtain ⟨r, hr⟩ := hR.at hlt_j
      refine X_skip ?_
      refine at_then ?_
      refine X_seq ?_
      refine X_block ?_
      refine X_seq (X_region ?_)
      refine XO_v0 (ev_indexSl rfl rfl slt_52 hR (fun hg => by first | omega | (simp [conj] at hg; omega))) rfl rfl rfl ?_
      refine XO_v0 (ev_loadA rfl agt_51 (fun hg => by exact Sl.getA hR hr) rfl) rfl rfl rfl ?_
      refine XO_alloc zt_51 rfl rfl (fun b_9 => ?_)
      refine XO_storeA rfl rfl szt_51 rfl rfl rfl rfl (by repeat (first | exact Upd.here | apply Upd.there | apply upd_app)) ?_
      refine XO_nil (at_then ?_)
      refine X_seq ?_
      obtain ⟨hlo, hz⟩ | ⟨hlo, hz⟩ | ⟨hlo, hz⟩ | ⟨hlo, hz⟩ := rd_split r
      ·
       have hbr := badR_l hlo true hz
       refine X_region ?_
       refine XO_v0 (ev_fieldAddr rfl fld_51_0) rfl rfl rfl ?_
       refine XO_v0 (ev_load rfl sct_4 (fun hg => by exact Cell.h0 rfl)) rfl rfl rfl ?_
       rw [hlo]
       refine zM ?_
       refine XO_want (dj := 60) rfl rfl rfl ?_
       refine XO_v0 (ev_fieldAddr rfl fld_51_1) rfl rfl rfl ?_
       refine XO_want (dj := 60) rfl rfl rfl ?_
       refine XO_v0 (ev_loadA rfl agt_48 (fun hg => by exact Cells.s0 (vs := [_, _, _, _, _, _, _, _, _, _, _, _, _, _]) rfl) rfl) rfl rfl rfl ?_
       refine XO_want (dj := 60) rfl rfl rfl ?_
       refine XO_v0 (ev_buildL (ps := []) [_, _, _, _, _, _, _, _, _, _, _, _, _, _] plt_48 rfl rfl) rfl rfl rfl ?_
       refine XO_want (dj := 60) rfl rfl rfl ?_
       refine XO_v0 (v := .bool (!sgEq r.sg zeroG)) (ev_neS2 rfl rfl eqt2_48 rfl) rfl rfl rfl ?_
       rw [hz]
       refine XO_v0 (ev_pickb rfl rfl rfl) rfl rfl rfl ?_
       refine zM ?_
       refine XO_skipW (dj := 66) rfl rfl rfl rfl rfl ?_
       refine XO_skipW (dj := 66) rfl rfl rfl rfl rfl ?_
       refine XO_skipW (dj := 66) rfl rfl rfl rfl rfl ?_
       refine XO_skipW (dj := 66) rfl rfl rfl rfl rfl ?_
       refine XO_skipW (dj := 70) rfl rfl rfl rfl rfl ?_
       refine XO_skipW (dj := 70) rfl rfl rfl rfl rfl ?_
       refine XO_skipW (dj := 70) rfl rfl rfl rfl rfl ?_
       refine XO_skipW (dj := 70) rfl rfl rfl rfl rfl ?_
       refine XO_skipW (dj := 70) rfl rfl rfl rfl rfl ?_
       refine XO_skipW (dj := 75) rfl rfl rfl rfl rfl ?_
       refine XO_skipW (dj := 75) rfl rfl rfl rfl rfl ?_
       refine XO_skipW (dj := 75) rfl rfl rfl rfl rfl ?_
       refine XO_skipW (dj := 75) rfl rfl rfl rfl rfl ?_
       refine XO_skipW (dj := 75) rfl rfl rfl rfl rfl ?_
       refine XO_skipW (dj := 70) rfl rfl rfl rfl rfl ?_
       refine XO_skipW (dj := 66) rfl rfl rfl rfl rfl ?_
       refine XO_v0 (ev_pick rfl rfl rfl) rfl rfl rfl ?_
       refine XO_nil (at_then ?_)
       refine X_cond rfl (fun hc83 => ?_) (fun hc83 => ?_)
       ·
        refine X_seq (X_region ?_)
        refine zA ?_
        refine XO_nil (at_then ?_)
        refine X_ret ?_
        refine at_block_r ?_
        refine at_then_r ?_
        refine at_then_r ?_
        refine at_block_r ?_
        refine at_block_r ?_
        refine at_then_r ?_
        refine at_then_r ?_
        refine at_block_r ?_
        refine at_then_r ?_
        exact at_ret1 rfl rfl (fun w hw => ⟨by rw [chkW_3 h1 hno (hgo.trans (goodW_rd hv hr hbr))], (hw.mono hIc).drop⟩)
       ·
        cases hc83
      ·
       have hbr := badR_l hlo false hz
       refine X_region ?_
       refine XO_v0 (ev_fieldAddr rfl fld_51_0) rfl rfl rfl ?_
       refine XO_v0 (ev_load rfl sct_4 (fun hg => by exact Cell.h0 rfl)) rfl rfl rfl ?_
       rw [hlo]
       refine zM ?_
       refine XO_want (dj := 60) rfl rfl rfl ?_
       refine XO_v0 (ev_fieldAddr rfl fld_51_1) rfl rfl rfl ?_
       refine XO_want (dj := 60) rfl rfl rfl ?_
       refine XO_v0 (ev_loadA rfl agt_48 (fun hg => by exact Cells.s0 (vs := [_, _, _, _, _, _, _, _, _, _, _, _, _, _]) rfl) rfl) rfl rfl rfl ?_
       refine XO_want (dj := 60) rfl rfl rfl ?_
       refine XO_v0 (ev_buildL (ps := []) [_, _, _, _, _, _, _, _, _, _, _, _, _, _] plt_48 rfl rfl) rfl rfl rfl ?_
       refine XO_want (dj := 60) rfl rfl rfl ?_
       refine XO_v0 (v := .bool (!sgEq r.sg zeroG)) (ev_neS2 rfl rfl eqt2_48 rfl) rfl rfl rfl ?_
       rw [hz]
       refine XO_v0 (ev_pickb rfl rfl rfl) rfl rfl rfl ?_
       refine zM ?_
       refine XO_want (dj := 66) rfl rfl rfl ?_
       refine XO_v0 (ev_fieldAddr rfl fld_51_0) rfl rfl rfl ?_
       refine XO_want (dj := 66) rfl rfl rfl ?_
       refine XO_v0 (ev_load rfl sct_4 (fun hg => by exact Cell.h0 rfl)) rfl rfl rfl ?_
       rw [hlo]
       refine XO_want (dj := 66) rfl rfl rfl ?_
       refine XO_v0 (ev_not rfl) rfl rfl rfl ?_
       refine XO_want (dj := 66) rfl rfl rfl ?_
       refine zM ?_
       refine XO_skipW (dj := 70) rfl rfl rfl rfl rfl ?_
       refine XO_skipW (dj := 70) rfl rfl rfl rfl rfl ?_
       refine XO_skipW (dj := 70) rfl rfl rfl rfl rfl ?_
       refine XO_skipW (dj := 70) rfl rfl rfl rfl rfl ?_
       refine XO_skipW (dj := 70) rfl rfl rfl rfl rfl ?_
       refine XO_skipW (dj := 75) rfl rfl rfl rfl rfl ?_
       refine XO_skipW (dj := 75) rfl rfl rfl rfl rfl ?_
       refine XO_skipW (dj := 75) rfl rfl rfl rfl rfl ?_
       refine XO_skipW (dj := 75) rfl rfl rfl rfl rfl ?_
       refine XO_skipW (dj := 75) rfl rfl rfl rfl rfl ?_
       refine XO_skipW (dj := 70) rfl rfl rfl rfl rfl ?_
       refine XO_want (dj := 66) rfl rfl rfl ?_
       refine XO_v0 (ev_pick rfl rfl rfl) rfl rfl rfl ?_
       refine XO_v0 (ev_pickb rfl rfl rfl) rfl rfl rfl ?_
       refine XO_nil (at_then ?_)
       refine X_cond rfl (fun hc83 => ?_) (fun hc83 => ?_)
       ·
        cases hc83
       ·
        refine X_skip ?_
        refine at_block_n ?_
        refine at_then ?_
        refine X_region ?_
        refine zB ?_
        refine zM ?_
        refine XO_nil ?_
        exact at_met2 _ _ ⟨w.n - (j + 1), by omega, j + 1, rfl, rfl, hB4, rfl, by omega, any_no hr hnr hbr⟩ (.cons rfl (.cons rfl (.cons rfl (.cons rfl (.cons rfl (.cons rfl (.cons rfl .nil))))))) (by repeat (first | exact .refl | exact subL_left | refine subL_app ?_ | refine .drop ?_ | refine subL_add ?_))
      ·
       have hbr := badR_i hlo hz
       refine X_region ?_
       refine XO_v0 (ev_fieldAddr rfl fld_51_0) rfl rfl rfl ?_
       refine XO_v0 (ev_load rfl sct_4 (fun hg => by exact Cell.h0 rfl)) rfl rfl rfl ?_
       rw [hlo]
       refine zM ?_
       refine XO_skipW (dj := 60) rfl rfl rfl rfl rfl ?_
       refine XO_skipW (dj := 60) rfl rfl rfl rfl rfl ?_
       refine XO_skipW (dj := 60) rfl rfl rfl rfl rfl ?_
       refine XO_skipW (dj := 60) rfl rfl rfl rfl rfl ?_
       refine XO_v0 (ev_pick rfl rfl rfl) rfl rfl rfl ?_
       refine zM ?_
       refine XO_want (dj := 66) rfl rfl rfl ?_
       refine XO_v0 (ev_fieldAddr rfl fld_51_0) rfl rfl rfl ?_
       refine XO_want (dj := 66) rfl rfl rfl ?_
       refine XO_v0 (ev_load rfl sct_4 (fun hg => by exact Cell.h0 rfl)) rfl rfl rfl ?_
       rw [hlo]
       refine XO_want (dj := 66) rfl rfl rfl ?_
       refine XO_v0 (ev_not rfl) rfl rfl rfl ?_
       refine XO_want (dj := 66) rfl rfl rfl ?_
       refine zM ?_
       refine XO_want (dj := 70) rfl rfl rfl ?_
       refine XO_v0 (ev_fieldAddr rfl fld_51_1) rfl rfl rfl ?_
       refine XO_want (dj := 70) rfl rfl rfl ?_
       refine XO_v0 (ev_fieldAddr rfl fld_48_0) rfl rfl rfl ?_
       refine XO_want (dj := 70) rfl rfl rfl ?_
       refine XO_v0 (ev_load rfl sct_3 (fun hg => by exact Cell.h0 rfl)) rfl rfl rfl ?_
       refine XO_want (dj := 70) rfl rfl rfl ?_
       refine zC ?_
       rw [hz]
       refine XO_want (dj := 70) rfl rfl rfl ?_
       refine zM ?_
       refine XO_skipW (dj := 75) rfl rfl rfl rfl rfl ?_
       refine XO_skipW (dj := 75) rfl rfl rfl rfl rfl ?_
       refine XO_skipW (dj := 75) rfl rfl rfl rfl rfl ?_
       refine XO_skipW (dj := 75) rfl rfl rfl rfl rfl ?_
       refine XO_skipW (dj := 75) rfl rfl rfl rfl rfl ?_
       refine XO_want (dj := 70) rfl rfl rfl ?_
       refine XO_v0 (ev_pick rfl rfl rfl) rfl rfl rfl ?_
       refine XO_want (dj := 66) rfl rfl rfl ?_
       refine XO_v0 (ev_pickb rfl rfl rfl) rfl rfl rfl ?_
       refine XO_v0 (ev_pickb rfl rfl rfl) rfl rfl rfl ?_
       refine XO_nil (at_then ?_)
       refine X_cond rfl (fun hc83 => ?_) (fun hc83 => ?_)
       ·
        refine X_seq (X_region ?_)
        refine zA ?_
        refine XO_nil (at_then ?_)
        refine X_ret ?_
        refine at_block_r ?_
        refine at_then_r ?_
        refine at_then_r ?_
        refine at_block_r ?_
        refine at_block_r ?_
        refine at_then_r ?_
        refine at_then_r ?_
        refine at_block_r ?_
        refine at_then_r ?_
        exact at_ret1 rfl rfl (fun w hw => ⟨by rw [chkW_3 h1 hno (hgo.trans (goodW_rd hv hr hbr))], (hw.mono hIc).drop⟩)
       ·
        cases hc83
      ·
       have hbr := badR_c hlo hz
       refine X_region ?_
       refine XO_v0 (ev_fieldAddr rfl fld_51_0) rfl rfl rfl ?_
       refine XO_v0 (ev_load rfl sct_4 (fun hg => by exact Cell.h0 rfl)) rfl rfl rfl ?_
       rw [hlo]
       refine zM ?_
       refine XO_skipW (dj := 60) rfl rfl rfl rfl rfl ?_
       refine XO_skipW (dj := 60) rfl rfl rfl rfl rfl ?_
       refine XO_skipW (dj := 60) rfl rfl rfl rfl rfl ?_
       refine XO_skipW (dj := 60) rfl rfl rfl rfl rfl ?_
       refine XO_v0 (ev_pick rfl rfl rfl) rfl rfl rfl ?_
       refine zM ?_
       refine XO_want (dj := 66) rfl rfl rfl ?_
       refine XO_v0 (ev_fieldAddr rfl fld_51_0) rfl rfl rfl ?_
       refine XO_want (dj := 66) rfl rfl rfl ?_
       refine XO_v0 (ev_load rfl sct_4 (fun hg => by exact Cell.h0 rfl)) rfl rfl rfl ?_
       rw [hlo]
       refine XO_want (dj := 66) rfl rfl rfl ?_
       refine XO_v0 (ev_not rfl) rfl rfl rfl ?_
       refine XO_want (dj := 66) rfl rfl rfl ?_
       refine zM ?_
       refine XO_want (dj := 70) rfl rfl rfl ?_
       refine XO_v0 (ev_fieldAddr rfl fld_51_1) rfl rfl rfl ?_
       refine XO_want (dj := 70) rfl rfl rfl ?_
       refine XO_v0 (ev_fieldAddr rfl fld_48_0) rfl rfl rfl ?_
       refine XO_want (dj := 70) rfl rfl rfl ?_
       refine XO_v0 (ev_load rfl sct_3 (fun hg => by exact Cell.h0 rfl)) rfl rfl rfl ?_
       refine XO_want (dj := 70) rfl rfl rfl ?_
       refine zC ?_
       rw [hz]
       refine XO_want (dj := 70) rfl rfl rfl ?_
       refine zM ?_
       refine XO_want (dj := 75) rfl rfl rfl ?_
       refine XO_v0 (ev_fieldAddr rfl fld_51_1) rfl rfl rfl ?_
       refine XO_want (dj := 75) rfl rfl rfl ?_
       refine XO_v0 (ev_loadA rfl agt_48 (fun hg => by exact Cells.s0 (vs := [_, _, _, _, _, _, _, _, _, _, _, _, _, _]) rfl) rfl) rfl rfl rfl ?_
       refine XO_want (dj := 75) rfl rfl rfl ?_
       refine XO_buildSlice (ps := [(0, _)]) (m := [encG r.sg]) elt_36 rfl (.cons rfl (.nil)) rfl (by simp [encG_len]) (by decide) (by decide) rfl rfl (fun b_78 => ?_)
       refine XO_freeze (b := b_78) (by repeat (first | exact Take.here | apply Take.there)) (fun I4 hI4 hb4 => ?_)
       have hW := hW.mono hI4
       have hH := hH.mono hI4
       have hR := hR.mono hI4
       have hIc := hIc.trans hI4
       have hB2 := hB2.trans hI4
       have hB4 := hB4.trans hI4
       have hSg : Sl I4 14 encG (some ⟨b_78, 0, none⟩) 1 1 [r.sg] := Sl.lit [r.sg] rfl encG_len (show _ = some (Obj.cells ([r.sg].flatMap encG).toArray 48 (0, 0)) from hb4)
       refine XO_want (dj := 75) rfl rfl rfl ?_
       refine XO_callV0 (cap := []) (vs := [_]) rfl rfl fun_75 (w_chkG hSg (by decide)) rfl rfl ?_
       refine XO_want (dj := 75) rfl rfl rfl ?_
       refine zC ?_
       refine XO_want (dj := 70) rfl rfl rfl ?_
       refine XO_v0 (ev_pickb rfl rfl rfl) rfl rfl rfl ?_
       refine XO_want (dj := 66) rfl rfl rfl ?_
       refine XO_v0 (ev_pickb rfl rfl rfl) rfl rfl rfl ?_
       refine XO_v0 (ev_pickb rfl rfl rfl) rfl rfl rfl ?_
       refine XO_nil (at_then ?_)
       refine X_cond rfl (fun hc83 => ?_) (fun hc83 => ?_)
       ·
        have hbr := hbr.trans hc83
        refine X_seq (X_region ?_)
        refine zA ?_
        refine XO_nil (at_then ?_)
        refine X_ret ?_
        refine at_block_r ?_
        refine at_then_r ?_
        refine at_then_r ?_
        refine at_block_r ?_
        refine at_block_r ?_
        refine at_then_r ?_
        refine at_then_r ?_
        refine at_block_r ?_
        refine at_then_r ?_
        exact at_ret1 rfl rfl (fun w hw => ⟨by rw [chkW_3 h1 hno (hgo.trans (goodW_rd hv hr hbr))], (hw.mono hIc).drop⟩)
       ·
        have hbr := hbr.trans hc83
        refine X_skip ?_
        refine at_block_n ?_
        refine at_then ?_
        refine X_region ?_
        refine zB ?_
        refine zM ?_
        refine XO_nil ?_
        exact at_met2 _ _ ⟨w.n - (j + 1), by omega, j + 1, rfl, rfl, hB4, rfl, by omega, any_no hr hnr hbr⟩ (.cons rfl (.cons rfl (.cons rfl (.cons rfl (.cons rfl (.cons rfl (.cons rfl .nil))))))) (by repeat (first | exact .refl | exact subL_left | refine subL_app ?_ | refine .drop ?_ | refine subL_add ?_))
     ·
      have hge_j : w.n ≤ j := by have h := hc55; simp at h; omega
      rw [take_all hrn hge_j] at hnr
      refine X_exit ?_
      refine at_then_e ?_
      refine at_then_e ?_
      refine at_block_hit ?_
      refine at_block_n ?_
      refine at_then ?_
      refine X_region ?_
      refine zB ?_
      refine zM ?_
      refine XO_nil ?_
      exact at_met2 _ _ ⟨n - (k + 1), by omega, k + 1, _, rfl, rfl, hB2, rfl, by omega, by rw [hgo, goodW_step hv hbw hnr, e1]⟩ (.cons rfl (.cons rfl (.cons rfl (.cons rfl .nil)))) (by repeat (first | exact .refl | exact subL_left | refine subL_app ?_ | refine .drop ?_ | refine subL_add ?_))
   ·
    have hge_k : n ≤ k := by have h := hc27; simp at h; omega
    rw [goodW_end (by omega)] at hgo
    refine X_exit ?_
    refine at_then_e ?_
    refine at_then_e ?_
    refine at_block_hit ?_
    refine at_then ?_
    refine X_seq (X_region ?_)
    refine zA ?_
    refine XO_nil (at_then ?_)
    refine X_ret ?_
    exact at_ret1 rfl rfl (fun w hw => ⟨by rw [chkW_4 h1 hno hgo], (hw.mono hIc).drop⟩)
end Go.Proofs.YthcffaheamikgaaGreatDoor
end
section
namespace Go.Proofs.YthcffaheamikgaaGreatDoor
open Go Go.Kn Go.Proofs
def lcG : Nat → List Int → List Int → Int
  | _, [], ys => 2 * (ys.length : Int)
  | _, x :: xs, [] => 2 * ((x :: xs).length : Int)
  | 0, _ :: _, _ :: _ => 0
  | f + 1, x :: xs, y :: ys => minI (minI (besN x y + lcG f xs ys) (2 + lcG f xs (y :: ys))) (2 + lcG f (x :: xs) ys)
theorem lcG_fuel : ∀ (f : Nat) (xs ys : List Int), xs.length + ys.length ≤ f → lcG f xs ys = lcG (xs.length + ys.length) xs ys
  | _, [], ys, _ => by simp [lcG]
  | _, x :: xs, [], _ => by simp [lcG]
  | 0, _ :: _, _ :: _, h => by simp at h
  | f + 1, x :: xs, y :: ys, h => by
    simp only [List.length_cons] at h
    have e : (x :: xs).length + (y :: ys).length = (xs.length + ys.length + 1) + 1 := by simp only [List.length_cons]; omega
    rw [e]
    simp only [lcG]
    rw [lcG_fuel f xs ys (by omega), lcG_fuel f xs (y :: ys) (by simp only [List.length_cons]; omega), lcG_fuel f (x :: xs) ys (by simp only [List.length_cons]; omega)]
    rw [lcG_fuel (xs.length + ys.length + 1) xs ys (by omega), lcG_fuel (xs.length + ys.length + 1) xs (y :: ys) (by simp only [List.length_cons]; omega), lcG_fuel (xs.length + ys.length + 1) (x :: xs) ys (by simp only [List.length_cons]; omega)]
theorem besN_in (x y : Int) : 0 ≤ besN x y ∧ besN x y ≤ 3 := by unfold besN; split <;> omega
theorem minI_le {a b : Int} : minI a b ≤ a ∧ minI a b ≤ b ∧ (minI a b = a ∨ minI a b = b) := by unfold minI; split <;> omega
theorem lcG_in : ∀ (f : Nat) (xs ys : List Int), 0 ≤ lcG f xs ys ∧ lcG f xs ys ≤ 2 * ((xs.length : Int) + ys.length)
  | _, [], ys => by simp only [lcG, List.length_nil]; omega
  | _, x :: xs, [] => by simp only [lcG, List.length_nil]; omega
  | 0, _ :: _, _ :: _ => by simp only [lcG]; omega
  | f + 1, x :: xs, y :: ys => by
    have h1 := lcG_in f xs ys
    have h2 := lcG_in f xs (y :: ys)
    have h3 := lcG_in f (x :: xs) ys
    have hb := besN_in x y
    simp only [lcG]
    have m1 := @minI_le (besN x y + lcG f xs ys) (2 + lcG f xs (y :: ys))
    have m2 := @minI_le (minI (besN x y + lcG f xs ys) (2 + lcG f xs (y :: ys))) (2 + lcG f (x :: xs) ys)
    simp only [List.length_cons] at *
    omega
/-- The least cost of what is left behind i and k. -/
def LC (a b : List Int) (i k : Nat) : Int := lcG ((a.drop i).length + (b.drop k).length) (a.drop i) (b.drop k)
theorem LC_end {a b : List Int} {i k : Nat} (hi : i ≤ a.length) (hk : k ≤ b.length) (h : i = a.length ∨ k = b.length) : LC a b i k = 2 * ((a.length : Int) - i + b.length - k) := by
  unfold LC
  rcases h with rfl | rfl
  · rw [List.drop_length]; simp only [lcG, List.length_drop]; omega
  · rw [List.drop_length]
    cases h : a.drop i with
    | nil => have := congrArg List.length h; simp at this; simp only [lcG, List.length_nil]; omega
    | cons x xs => have := congrArg List.length h; simp only [List.length_drop] at this; simp only [lcG]; omega
theorem LC_step {a b : List Int} {i k : Nat} {x y : Int} (hx : a[i]? = some x) (hy : b[k]? = some y) : LC a b i k = minI (minI (besN x y + LC a b (i + 1) (k + 1)) (2 + LC a b (i + 1) k)) (2 + LC a b i (k + 1)) := by
  unfold LC
  rw [drop_cons hx, drop_cons hy]
  have e : (x :: a.drop (i + 1)).length + (y :: b.drop (k + 1)).length = ((a.drop (i + 1)).length + (b.drop (k + 1)).length + 1) + 1 := by simp only [List.length_cons]; omega
  rw [e]
  simp only [lcG]
  rw [lcG_fuel (_ + 1) (a.drop (i + 1)) (b.drop (k + 1)) (by omega), lcG_fuel (_ + 1) (a.drop (i + 1)) (y :: b.drop (k + 1)) (by simp only [List.length_cons]; omega), lcG_fuel (_ + 1) (x :: a.drop (i + 1)) (b.drop (k + 1)) (by simp only [List.length_cons]; omega)]
theorem LC_in (a b : List Int) (i k : Nat) : 0 ≤ LC a b i k ∧ LC a b i k ≤ 2 * ((a.length : Int) + b.length) := by
  have h := lcG_in ((a.drop i).length + (b.drop k).length) (a.drop i) (b.drop k)
  unfold LC
  simp only [List.length_drop] at *
  omega
/-- A number is that least cost (a name of its own, so that nobody unfolds it). -/
def isLC (a b : List Int) (i k : Nat) (v : Int) : Prop := v = LC a b i k
theorem isLC.inn {a b : List Int} {i k : Nat} {v : Int} (h : isLC a b i k v) : 0 ≤ v ∧ v ≤ 2 * ((a.length : Int) + b.length) := by unfold isLC at h; rw [h]; exact LC_in a b i k
theorem isLC.fin {a b : List Int} {i k : Nat} (hi : i ≤ a.length) (hk : k ≤ b.length) (h : i = a.length ∨ k = b.length) : isLC a b i k (2 * ((a.length : Int) - i + b.length - k)) := (LC_end hi hk h).symm
theorem isLC.step {a b : List Int} {i k : Nat} {x y A B C : Int} (hx : a[i]? = some x) (hy : b[k]? = some y) (hA : isLC a b (i + 1) (k + 1) A) (hB : isLC a b (i + 1) k B) (hC : isLC a b i (k + 1) C) : isLC a b i k (minI (minI (besN x y + A) (2 + B)) (2 + C)) := by
  unfold isLC at *; rw [LC_step hx hy, hA, hB, hC]
/-- What is remembered is right. -/
def MOK (a b : List Int) (m : List ((Int × Int) × Int)) : Prop := ∀ (i k : Nat) (v : Int), mget m ((i : Int), (k : Int)) = some v → isLC a b i k v
theorem MOK.nil {a b : List Int} : MOK a b [] := fun _ _ _ h => by cases h
theorem MOK.set {a b : List Int} {m : List ((Int × Int) × Int)} (h : MOK a b m) {i k : Nat} {v : Int} (hv : isLC a b i k v) : MOK a b (mset m ((i : Int), (k : Int)) v) := fun i' k' v' e => by
  rw [mget_mset] at e
  split at e
  · rename_i h2
    simp only [Prod.mk.injEq] at h2
    obtain ⟨rfl, rfl⟩ : i = i' ∧ k = k' := by omega
    cases e; exact hv
  · exact h i' k' v' e
/-- What the closure of Pair holds. -/
structure LsE (I : HMap) (fid ba bb bk bs r : Nat) (av bv : Option Addr) (n c n2 c2 : Nat) (xs ys : List Int) : Prop where
  a : Cell I [] ba 0 (.slice av n c)
  b : Cell I [] bb 0 (.slice bv n2 c2)
  kn : Cell I [] bk 0 (.map (some r))
  se : Cell I [] bs 0 (.func (.func fid) #[] #[capP ba, capP bb, capP bk, capP bs])
  hA : Sl I 1 encI av n c xs
  hB : Sl I 1 encI bv n2 c2 ys
theorem LsE.mono {I I' : HMap} {fid ba bb bk bs r : Nat} {av bv : Option Addr} {n c n2 c2 : Nat} {xs ys : List Int} (h : LsE I fid ba bb bk bs r av bv n c n2 c2 xs ys) (hI : HLe I I') : LsE I' fid ba bb bk bs r av bv n c n2 c2 xs ys :=
  ⟨h.a.mono hI, h.b.mono hI, h.kn.mono hI, h.se.mono hI, h.hA.mono hI, h.hB.mono hI⟩
def eivI : Int → Value := Value.int .i64
/-! ### The pairs -/
def encQ (p : Int × Int) : List Value := [.int .i64 p.1, .int .i64 p.2]
theorem encQ_len (p : Int × Int) : (encQ p).length = 2 := rfl
theorem one_Q (xs : List (Int × Int)) : allOne (xs.flatMap encQ) = true := allOne_flat (fun _ => rfl) xs
def bothP (a b : List Int) (i k : Nat) : Bool := decide (i < a.length) && decide (k < b.length) && (LC a b i k == besN (a.getD i 0) (b.getD k 0) + LC a b (i + 1) (k + 1))
def oneP (a b : List Int) (i k : Nat) : Bool := decide (i < a.length) && (LC a b i k == 2 + LC a b (i + 1) k)
def paF (a b : List Int) : Nat → Nat → Nat → List (Int × Int)
  | 0, _, _ => []
  | f + 1, i, k =>
    if (decide (i < a.length) || decide (k < b.length)) = true then
      if bothP a b i k = true then (((i + 1 : Nat) : Int), ((k + 1 : Nat) : Int)) :: paF a b f (i + 1) (k + 1)
      else if oneP a b i k = true then (((i + 1 : Nat) : Int), 0) :: paF a b f (i + 1) k
      else (0, ((k + 1 : Nat) : Int)) :: paF a b f i (k + 1)
    else []
/-- Behind i and k the pairs are those; the fuel is enough. -/
def PaQ (a b : List Int) (pre : List (Int × Int)) (i k : Nat) : Prop := ∃ f, a.length - i + (b.length - k) ≤ f ∧ paF a b (a.length + b.length) 0 0 = pre ++ paF a b f i k
theorem PaQ.start {a b : List Int} : PaQ a b [] 0 0 := ⟨a.length + b.length, by omega, rfl⟩
theorem PaQ.fin {a b : List Int} {pre : List (Int × Int)} {i k : Nat} (h : PaQ a b pre i k) (hi : a.length ≤ i) (hk : b.length ≤ k) : paF a b (a.length + b.length) 0 0 = pre := by
  obtain ⟨f, _, e⟩ := h
  rw [e]
  cases f with
  | zero => simp [paF]
  | succ f => unfold paF; rw [if_neg (by simp; omega), List.append_nil]
theorem PaQ.fuel {a b : List Int} {pre : List (Int × Int)} {i k : Nat} (h : PaQ a b pre i k) (hg : i < a.length ∨ k < b.length) : ∃ f, a.length - i + (b.length - k) ≤ f + 1 ∧ paF a b (a.length + b.length) 0 0 = pre ++ paF a b (f + 1) i k := by
  obtain ⟨f, hf, e⟩ := h
  cases f with
  | zero => omega
  | succ f => exact ⟨f, hf, e⟩
theorem PaQ.both {a b : List Int} {pre : List (Int × Int)} {i k : Nat} (h : PaQ a b pre i k) (hb : bothP a b i k = true) : PaQ a b (pre ++ [(((i + 1 : Nat) : Int), ((k + 1 : Nat) : Int))]) (i + 1) (k + 1) := by
  have h1 : i < a.length ∧ k < b.length := by unfold bothP at hb; simp at hb; omega
  obtain ⟨f, hf, e⟩ := h.fuel (.inl h1.1)
  refine ⟨f, by omega, ?_⟩
  rw [e]
  show pre ++ (if (decide (i < a.length) || decide (k < b.length)) = true then _ else _) = _
  rw [if_pos (by simp; omega), if_pos hb, List.append_assoc]; rfl
theorem PaQ.one {a b : List Int} {pre : List (Int × Int)} {i k : Nat} (h : PaQ a b pre i k) (hb : bothP a b i k = false) (ho : oneP a b i k = true) : PaQ a b (pre ++ [(((i + 1 : Nat) : Int), 0)]) (i + 1) k := by
  have h1 : i < a.length := by unfold oneP at ho; simp at ho; omega
  obtain ⟨f, hf, e⟩ := h.fuel (.inl h1)
  refine ⟨f, by omega, ?_⟩
  rw [e]
  show pre ++ (if (decide (i < a.length) || decide (k < b.length)) = true then _ else _) = _
  rw [if_pos (by simp; omega), if_neg (by rw [hb]; decide), if_pos ho, List.append_assoc]; rfl
/-- Where neither holds, the second list goes on. -/
theorem two_lt {a b : List Int} {i k : Nat} (hi : i ≤ a.length) (hk : k ≤ b.length) (hg : i < a.length ∨ k < b.length) (hb : bothP a b i k = false) (ho : oneP a b i k = false) : k < b.length := by
  by_cases h : k < b.length
  · exact h
  · have hia : i < a.length := by omega
    have e1 := LC_end (a := a) (b := b) hi hk (.inr (by omega))
    have e2 := LC_end (a := a) (b := b) (i := i + 1) (by omega) hk (.inr (by omega))
    unfold oneP at ho
    simp only [Bool.and_eq_false_iff, decide_eq_false_iff_not, beq_eq_false_iff_ne] at ho
    rcases ho with ho | ho
    · omega
    · omega
theorem PaQ.two {a b : List Int} {pre : List (Int × Int)} {i k : Nat} (h : PaQ a b pre i k) (hg : k < b.length) (hb : bothP a b i k = false) (ho : oneP a b i k = false) : PaQ a b (pre ++ [(0, ((k + 1 : Nat) : Int))]) i (k + 1) := by
  obtain ⟨f, hf, e⟩ := h.fuel (.inr hg)
  refine ⟨f, by omega, ?_⟩
  rw [e]
  show pre ++ (if (decide (i < a.length) || decide (k < b.length)) = true then _ else _) = _
  rw [if_pos (by simp; omega), if_neg (by rw [hb]; decide), if_neg (by rw [ho]; decide), List.append_assoc]; rfl
def pairL (a b : List Int) : List (Int × Int) := paF a b (a.length + b.length) 0 0
/-- Is a code neither a sign's nor that of what is lost? -/
def badC (c : Int) : Bool := (signE c != 0) && (c != 8589934592)
def pairE (a b : List Int) : Int := if a.length > 64 ∨ b.length > 64 then 2 else if (a.any badC || b.any badC) = true then 410 else 0
theorem lt_three {i k n m : Nat} (h : i < n ∨ k < m) : (decide ((i : Int) < (n : Int)) = true ∧ decide ((k : Int) < (m : Int)) = true ∧ i < n ∧ k < m) ∨ (decide ((i : Int) < (n : Int)) = true ∧ decide ((k : Int) < (m : Int)) = false ∧ i < n ∧ m ≤ k) ∨ (decide ((i : Int) < (n : Int)) = false ∧ decide ((k : Int) < (m : Int)) = true ∧ n ≤ i ∧ k < m) := by
  by_cases h1 : i < n
  · by_cases h2 : k < m
    · exact .inl ⟨decide_eq_true (by omega), decide_eq_true (by omega), h1, h2⟩
    · exact .inr (.inl ⟨decide_eq_true (by omega), decide_eq_false (by omega), h1, by omega⟩)
  · exact .inr (.inr ⟨decide_eq_false (by omega), decide_eq_true (by omega), by omega, by omega⟩)
theorem bothP_of {a b : List Int} {i k : Nat} {x y V A : Int} {t : Bool} (hx : a[i]? = some x) (hy : b[k]? = some y) (hV : isLC a b i k V) (hA : isLC a b (i + 1) (k + 1) A) (h : (V == besN x y + A) = t) : bothP a b i k = t := by
  have h1 := (List.getElem?_eq_some_iff.1 hx).1
  have h2 := (List.getElem?_eq_some_iff.1 hy).1
  unfold isLC at hV hA
  unfold bothP
  rw [getD_of hx, getD_of hy, ← hV, ← hA, h, decide_eq_true h1, decide_eq_true h2]; rfl
theorem bothP_no {a b : List Int} {i k : Nat} (h : a.length ≤ i ∨ b.length ≤ k) : bothP a b i k = false := by
  unfold bothP
  rcases h with h | h
  · rw [decide_eq_false (show ¬ i < a.length by omega)]; rfl
  · rw [decide_eq_false (show ¬ k < b.length by omega), Bool.and_false]; rfl
theorem oneP_of {a b : List Int} {i k : Nat} {V B : Int} {t : Bool} (hi : i < a.length) (hV : isLC a b i k V) (hB : isLC a b (i + 1) k B) (h : (V == 2 + B) = t) : oneP a b i k = t := by
  unfold isLC at hV hB
  unfold oneP
  rw [← hV, ← hB, h, decide_eq_true hi]; rfl
theorem oneP_no {a b : List Int} {i k : Nat} (h : a.length ≤ i) : oneP a b i k = false := by
  unfold oneP
  rw [decide_eq_false (show ¬ i < a.length by omega)]; rfl
theorem pairE_1 {a b : List Int} (h : a.length > 64 ∨ b.length > 64) : pairE a b = 2 := by unfold pairE; rw [if_pos h]
theorem pairE_2 {a b : List Int} (h : ¬ (a.length > 64 ∨ b.length > 64)) (h2 : (a.any badC || b.any badC) = true) : pairE a b = 410 := by unfold pairE; rw [if_neg h, if_pos h2]
theorem pairE_3 {a b : List Int} (h : ¬ (a.length > 64 ∨ b.length > 64)) (h2 : (a.any badC || b.any badC) = false) : pairE a b = 0 := by unfold pairE; rw [if_neg h, h2]; rfl
/-- The pairs that Pair hands back. -/
def pairR (a b : List Int) : List (Int × Int) := if pairE a b ≠ 0 then [] else pairL a b
def PairQ (a b : List Int) : Value → HMap → Go.Kn.Loc → Prop := fun v I' L => L = [] ∧ ∃ z av c, v = .tuple #[.int .i64 z, .slice av (pairR a b).length c, .int .i64 (pairE a b)] ∧ Sl I' 2 encQ av (pairR a b).length c (pairR a b)
theorem pairR_bad {a b : List Int} (h : pairE a b ≠ 0) : pairR a b = [] := by unfold pairR; rw [if_pos h]
theorem pairR_ok {a b : List Int} (h : pairE a b = 0) : pairR a b = pairL a b := by unfold pairR; rw [if_neg (by omega)]
theorem two_lists {I : HMap} {av bv : Option Addr} {n c n2 c2 : Nat} {xs ys : List Int} (hA : Sl I 1 encI av n c xs) (hB : Sl I 1 encI bv n2 c2 ys) {q : Nat} (hq : q < 2) : ∃ hd zs, ([⟨av, n, c⟩, ⟨bv, n2, c2⟩] : List Hd)[q]? = some hd ∧ ([xs, ys] : List (List Int))[q]? = some zs ∧ Sl I 1 encI hd.a hd.n hd.c zs ∧ (hd.n = n ∨ hd.n = n2) := by
  rcases (show q = 0 ∨ q = 1 by omega) with rfl | rfl
  · exact ⟨_, xs, rfl, rfl, hA, .inl rfl⟩
  · exact ⟨_, ys, rfl, rfl, hB, .inr rfl⟩
end Go.Proofs.YthcffaheamikgaaGreatDoor
end
section
namespace Go.Proofs.YthcffaheamikgaaGreatDoor
open Go Go.Kn Go.Proofs
theorem fun_76 : Fun Tryz.prog 76 := .of Tryz.func76 (by kernel_rfl) (by kernel_rfl)
theorem fun_77 : Fun Tryz.prog 77 := .of Tryz.func77 (by kernel_rfl) (by kernel_rfl)
theorem key_94 : KeyOK (α := Int × Int) Tryz.prog 94 encK2 := key_arr2 ar2_94
theorem mpt_114 : MpT Tryz.prog 114 94 3 (.int .i64 0) := ⟨by kernel_rfl, .of (by kernel_rfl)⟩
theorem sct_114 : ScT Tryz.prog 114 := .of (by kernel_rfl)
theorem sct_65 : ScT Tryz.prog 65 := .of (by kernel_rfl)
set_option maxHeartbeats 1600000 in
theorem w_lsP_step {I : HMap} {ba bb bk bs r : Nat} {av bv : Option Addr} {n c n2 c2 : Nat} {xs ys : List Int} (hE : (LsE I 76 ba bb bk bs r av bv n c n2 c2 xs ys)) (hn : n ≤ 100000) (hn2 : n2 ≤ 100000) (i k : Nat) (hi : i ≤ xs.length) (hk : k ≤ ys.length) (m1 : List ((Int × Int) × Int)) (hm1 : MOK xs ys m1) (ihA : ∀ (m' : List ((Int × Int) × Int)), i < xs.length ∧ k < ys.length → MOK xs ys m' → RetM Tryz.prog 76 ([.int .i64 ((i : Int) + 1), .int .i64 ((k : Int) + 1)] ++ [capP ba, capP bb, capP bk, capP bs]) I [(r, mapO encK2 eivI m')] (fun v I' L' => ∃ A, isLC xs ys (i + 1) (k + 1) A ∧ v = .int .i64 A ∧ I' = I ∧ ∃ m', MOK xs ys m' ∧ L' = [(r, mapO encK2 eivI m')])) (ihB : ∀ (m' : List ((Int × Int) × Int)), i < xs.length ∧ k < ys.length → MOK xs ys m' → RetM Tryz.prog 76 ([.int .i64 ((i : Int) + 1), .int .i64 ((k : Int))] ++ [capP ba, capP bb, capP bk, capP bs]) I [(r, mapO encK2 eivI m')] (fun v I' L' => ∃ A, isLC xs ys (i + 1) (k) A ∧ v = .int .i64 A ∧ I' = I ∧ ∃ m', MOK xs ys m' ∧ L' = [(r, mapO encK2 eivI m')])) (ihC : ∀ (m' : List ((Int × Int) × Int)), i < xs.length ∧ k < ys.length → MOK xs ys m' → RetM Tryz.prog 76 ([.int .i64 ((i : Int)), .int .i64 ((k : Int) + 1)] ++ [capP ba, capP bb, capP bk, capP bs]) I [(r, mapO encK2 eivI m')] (fun v I' L' => ∃ A, isLC xs ys (i) (k + 1) A ∧ v = .int .i64 A ∧ I' = I ∧ ∃ m', MOK xs ys m' ∧ L' = [(r, mapO encK2 eivI m')])) : RetM Tryz.prog 76 [.int .i64 i, .int .i64 k, capP ba, capP bb, capP bk, capP bs] I [(r, mapO encK2 eivI m1)] (fun v I' L' => ∃ A, isLC xs ys (i) (k) A ∧ v = .int .i64 A ∧ I' = I ∧ ∃ m', MOK xs ys m' ∧ L' = [(r, mapO encK2 eivI m')]) := by
 intro g H w hw
 refine enter Tryz.func76 rfl Tryz.ntmps76 rfl hw ?_
 have hAl := hE.hA.len
 subst hAl
 have hBl := hE.hB.len
 subst hBl
 refine X_seq (X_region ?_)
 refine zA ?_
 refine XO_nil (at_then ?_)
 refine X_seq ?_
 refine X_seq (X_region ?_)
 refine zM ?_
 refine XO_v0 (ev_load rfl sct_23 (fun hg => by exact hE.a.any)) rfl rfl rfl ?_
 refine XO_v0 (ev_lenS rfl slt_23) rfl rfl rfl ?_
 refine zC ?_
 refine zM ?_
 refine XO_pushF 4 rfl rfl rfl ?_
 refine XO_v1 (ev_move rfl) (.some rfl rfl rfl rfl gbf) rfl rfl rfl ?_
 refine XO_v1 (ev_load rfl sct_23 (fun hg => by exact hE.b.any)) (.some rfl rfl rfl rfl gbf) rfl rfl rfl ?_
 refine XO_v1 (ev_lenS rfl slt_23) (.some rfl rfl rfl rfl gbf) rfl rfl rfl ?_
 refine XO_v1 (ev_cmp rfl rfl rfl) (.some rfl rfl rfl rfl gbf) rfl rfl rfl ?_
 refine XO_or0 rfl rfl rfl rfl rfl ?_
 refine XO_nil (at_then ?_)
 refine X_cond rfl (fun hc20 => ?_) (fun hc20 => ?_)
 ·
  have hend : i = xs.length ∨ k = ys.length := by have h := hc20; simp at h; omega
  refine X_seq (X_region ?_)
  refine XO_v0 (ev_load rfl sct_23 (fun hg => by exact hE.a.any)) rfl rfl rfl ?_
  refine XO_v0 (ev_lenS rfl slt_23) rfl rfl rfl ?_
  refine zM ?_
  refine zB ?_
  refine XO_v0 (ev_load rfl sct_23 (fun hg => by exact hE.b.any)) rfl rfl rfl ?_
  refine XO_v0 (ev_lenS rfl slt_23) rfl rfl rfl ?_
  refine zB ?_
  refine zM ?_
  refine zB ?_
  refine zB ?_
  refine zA ?_
  refine XO_nil (at_then ?_)
  refine X_ret ?_
  refine at_then_r ?_
  exact at_ret1 rfl rfl (fun w hw => ⟨_, _, _, rfl, HLe.refl _, hw, _, isLC.fin hi hk hend, rfl, rfl, m1, hm1, rfl⟩)
 ·
  have hlt : i < xs.length ∧ k < ys.length := by have h := hc20; simp at h; omega
  obtain ⟨x, hx⟩ := hE.hA.at hlt.1
  obtain ⟨y, hy⟩ := hE.hB.at hlt.2
  have hbn := besN_in x y
  refine X_skip ?_
  refine at_then ?_
  refine X_seq (X_region ?_)
  refine XO_v0 (ev_load rfl sct_114 (fun hg => by exact hE.kn.any)) rfl rfl rfl ?_
  refine zM ?_
  refine zM ?_
  refine XO_v0 (ev_buildArr (ps := [(0, _), (1, _)]) [_, _] art_94 zt_94 rfl rfl) rfl rfl rfl ?_
  refine XO_v0 (ev_lookupOkI (m := m1) (ek := encK2) (a := ((i : Int), (k : Int))) mpt_114 key_94 rfl rfl (fun _ => (by first | exact Mem.m0 | exact Mem.m1 | exact Mem.m2 | exact Mem.m3 | exact Mem.m4 | exact Mem.m5 | (repeat (first | exact Mem.m0 | apply Mem.there | apply Mem.app))))) rfl rfl rfl ?_
  refine zM ?_
  refine XO_v0 (ev_extract rfl rfl) rfl rfl rfl ?_
  refine XO_v0 (ev_extract rfl rfl) rfl rfl rfl ?_
  refine zA ?_
  refine zA ?_
  refine XO_nil (at_then ?_)
  refine X_seq ?_
  refine X_seq (X_region ?_)
  refine zM ?_
  refine XO_v0 (ev_not rfl) rfl rfl rfl ?_
  refine XO_nil (at_then ?_)
  refine X_cond rfl (fun hc40 => ?_) (fun hc40 => ?_)
  ·
   refine X_seq ?_
   have hD := HLe.refl I
   refine X_noP ?_
   refine X_drawS I [] mixed ?_
   refine XD_take 0 rfl (ev_load rfl sct_23 (fun hg => by exact hE.a.any)) (.none rfl) rfl rfl rfl (by kernel_rfl) (by kernel_rfl) (by kernel_rfl) noP_ok hD (by repeat (first | exact .refl | exact subL_nil | refine .keep ?_ | refine .drop ?_ | refine subL_add ?_)) ?_
   refine XD_take 1 rfl (ev_move rfl) (.none rfl) rfl rfl rfl (by kernel_rfl) (by kernel_rfl) (by kernel_rfl) noP_ok hD (by repeat (first | exact .refl | exact subL_nil | refine .keep ?_ | refine .drop ?_ | refine subL_add ?_)) ?_
   refine XD_take 2 rfl (ev_indexSl rfl rfl slt_23 hE.hA (fun hg => by first | omega | (simp [conj] at hg; omega))) (.none rfl) rfl rfl rfl (by kernel_rfl) (by kernel_rfl) (by kernel_rfl) noP_ok hD (by repeat (first | exact .refl | exact subL_nil | refine .keep ?_ | refine .drop ?_ | refine subL_add ?_)) ?_
   refine XD_take 3 rfl (ev_load rfl sct_3 (fun hg => by exact Sl.get0 hE.hA hx rfl)) (.none rfl) rfl rfl rfl (by kernel_rfl) (by kernel_rfl) (by kernel_rfl) noP_ok hD (by repeat (first | exact .refl | exact subL_nil | refine .keep ?_ | refine .drop ?_ | refine subL_add ?_)) ?_
   refine XD_take 4 rfl (ev_load rfl sct_23 (fun hg => by exact hE.b.any)) (.none rfl) rfl rfl rfl (by kernel_rfl) (by kernel_rfl) (by kernel_rfl) noP_ok hD (by repeat (first | exact .refl | exact subL_nil | refine .keep ?_ | refine .drop ?_ | refine subL_add ?_)) ?_
   refine XD_take 5 rfl (ev_move rfl) (.none rfl) rfl rfl rfl (by kernel_rfl) (by kernel_rfl) (by kernel_rfl) noP_ok hD (by repeat (first | exact .refl | exact subL_nil | refine .keep ?_ | refine .drop ?_ | refine subL_add ?_)) ?_
   refine XD_take 6 rfl (ev_indexSl rfl rfl slt_23 hE.hB (fun hg => by first | omega | (simp [conj] at hg; omega))) (.none rfl) rfl rfl rfl (by kernel_rfl) (by kernel_rfl) (by kernel_rfl) noP_ok hD (by repeat (first | exact .refl | exact subL_nil | refine .keep ?_ | refine .drop ?_ | refine subL_add ?_)) ?_
   refine XD_take 7 rfl (ev_load rfl sct_3 (fun hg => by exact Sl.get0 hE.hB hy rfl)) (.none rfl) rfl rfl rfl (by kernel_rfl) (by kernel_rfl) (by kernel_rfl) noP_ok hD (by repeat (first | exact .refl | exact subL_nil | refine .keep ?_ | refine .drop ?_ | refine subL_add ?_)) ?_
   refine XD_take 9 rfl (ev_load rfl sct_65 (fun hg => by exact hE.se.any)) (.none rfl) rfl rfl rfl (by kernel_rfl) (by kernel_rfl) (by kernel_rfl) noP_ok hD (by repeat (first | exact .refl | exact subL_nil | refine .keep ?_ | refine .drop ?_ | refine subL_add ?_)) ?_
   refine XD_take 10 rfl (ev_move rfl) (.none rfl) rfl rfl rfl (by kernel_rfl) (by kernel_rfl) (by kernel_rfl) noP_ok hD (by repeat (first | exact .refl | exact subL_nil | refine .keep ?_ | refine .drop ?_ | refine subL_add ?_)) ?_
   refine XD_take 11 rfl (ev_arB rfl rfl rfl (fun hg => by first | omega | (simp [conj] at hg; omega))) (.none rfl) rfl rfl rfl (by kernel_rfl) (by kernel_rfl) (by kernel_rfl) noP_ok hD (by repeat (first | exact .refl | exact subL_nil | refine .keep ?_ | refine .drop ?_ | refine subL_add ?_)) ?_
   refine XD_take 12 rfl (ev_move rfl) (.none rfl) rfl rfl rfl (by kernel_rfl) (by kernel_rfl) (by kernel_rfl) noP_ok hD (by repeat (first | exact .refl | exact subL_nil | refine .keep ?_ | refine .drop ?_ | refine subL_add ?_)) ?_
   refine XD_take 13 rfl (ev_arB rfl rfl rfl (fun hg => by first | omega | (simp [conj] at hg; omega))) (.none rfl) rfl rfl rfl (by kernel_rfl) (by kernel_rfl) (by kernel_rfl) noP_ok hD (by repeat (first | exact .refl | exact subL_nil | refine .keep ?_ | refine .drop ?_ | refine subL_add ?_)) ?_
   refine XD_take 16 rfl (ev_load rfl sct_65 (fun hg => by exact hE.se.any)) (.none rfl) rfl rfl rfl (by kernel_rfl) (by kernel_rfl) (by kernel_rfl) noP_ok hD (by repeat (first | exact .refl | exact subL_nil | refine .keep ?_ | refine .drop ?_ | refine subL_add ?_)) ?_
   refine XD_take 17 rfl (ev_move rfl) (.none rfl) rfl rfl rfl (by kernel_rfl) (by kernel_rfl) (by kernel_rfl) noP_ok hD (by repeat (first | exact .refl | exact subL_nil | refine .keep ?_ | refine .drop ?_ | refine subL_add ?_)) ?_
   refine XD_take 18 rfl (ev_arB rfl rfl rfl (fun hg => by first | omega | (simp [conj] at hg; omega))) (.none rfl) rfl rfl rfl (by kernel_rfl) (by kernel_rfl) (by kernel_rfl) noP_ok hD (by repeat (first | exact .refl | exact subL_nil | refine .keep ?_ | refine .drop ?_ | refine subL_add ?_)) ?_
   refine XD_take 19 rfl (ev_move rfl) (.none rfl) rfl rfl rfl (by kernel_rfl) (by kernel_rfl) (by kernel_rfl) noP_ok hD (by repeat (first | exact .refl | exact subL_nil | refine .keep ?_ | refine .drop ?_ | refine subL_add ?_)) ?_
   refine XD_take 22 rfl (ev_load rfl sct_65 (fun hg => by exact hE.se.any)) (.none rfl) rfl rfl rfl (by kernel_rfl) (by kernel_rfl) (by kernel_rfl) noP_ok hD (by repeat (first | exact .refl | exact subL_nil | refine .keep ?_ | refine .drop ?_ | refine subL_add ?_)) ?_
   refine XD_take 23 rfl (ev_move rfl) (.none rfl) rfl rfl rfl (by kernel_rfl) (by kernel_rfl) (by kernel_rfl) noP_ok hD (by repeat (first | exact .refl | exact subL_nil | refine .keep ?_ | refine .drop ?_ | refine subL_add ?_)) ?_
   refine XD_take 24 rfl (ev_move rfl) (.none rfl) rfl rfl rfl (by kernel_rfl) (by kernel_rfl) (by kernel_rfl) noP_ok hD (by repeat (first | exact .refl | exact subL_nil | refine .keep ?_ | refine .drop ?_ | refine subL_add ?_)) ?_
   refine XD_take 25 rfl (ev_arB rfl rfl rfl (fun hg => by first | omega | (simp [conj] at hg; omega))) (.none rfl) rfl rfl rfl (by kernel_rfl) (by kernel_rfl) (by kernel_rfl) noP_ok hD (by repeat (first | exact .refl | exact subL_nil | refine .keep ?_ | refine .drop ?_ | refine subL_add ?_)) ?_
   refine XD_one 8 rfl (by kernel_rfl) ?_
   refine XO_callV0 (cap := []) (vs := [_, _]) rfl rfl fun_77 (w_beside I _ _) rfl rfl ?_
   refine XO_nil ?_
   refine zD hD ?_
   refine XD_one 14 rfl (by kernel_rfl) ?_
   refine XO_callM (cap := [capP ba, capP bb, capP bk, capP bs]) (vs := [_, _]) rfl rfl fun_76 split_all (ihA m1 hlt hm1) rfl rfl ?_
   rintro vv1 I1 L1 hI1 ⟨VA, hLA, rfl, rfl, m2, hm2, rfl⟩
   have hE := hE.mono hI1
   have hD := hD.trans hI1
   have hbA := hLA.inn
   refine XO_nil ?_
   refine zD hD ?_
   refine XD_take 15 rfl (ev_arB rfl rfl rfl (fun hg => by first | omega | (simp [conj] at hg; omega))) (.none rfl) rfl rfl rfl (by kernel_rfl) (by kernel_rfl) (by kernel_rfl) noP_ok hD (by repeat (first | exact .refl | exact subL_nil | refine .keep ?_ | refine .drop ?_ | refine subL_add ?_)) ?_
   refine XD_one 20 rfl (by kernel_rfl) ?_
   refine XO_callM (cap := [capP ba, capP bb, capP bk, capP bs]) (vs := [_, _]) rfl rfl fun_76 split_all (ihB m2 hlt hm2) rfl rfl ?_
   rintro vv2 I2 L2 hI2 ⟨VB, hLB, rfl, rfl, m3, hm3, rfl⟩
   have hE := hE.mono hI2
   have hD := hD.trans hI2
   have hbB := hLB.inn
   refine XO_nil ?_
   refine zD hD ?_
   refine XD_take 21 rfl (ev_arB rfl rfl rfl (fun hg => by first | omega | (simp [conj] at hg; omega))) (.none rfl) rfl rfl rfl (by kernel_rfl) (by kernel_rfl) (by kernel_rfl) noP_ok hD (by repeat (first | exact .refl | exact subL_nil | refine .keep ?_ | refine .drop ?_ | refine subL_add ?_)) ?_
   refine XD_one 26 rfl (by kernel_rfl) ?_
   refine XO_callM (cap := [capP ba, capP bb, capP bk, capP bs]) (vs := [_, _]) rfl rfl fun_76 split_all (ihC m3 hlt hm3) rfl rfl ?_
   rintro vv3 I3 L3 hI3 ⟨VC, hLC, rfl, rfl, m4, hm4, rfl⟩
   have hE := hE.mono hI3
   have hD := hD.trans hI3
   have hbC := hLC.inn
   refine XO_nil ?_
   refine zD hD ?_
   refine XD_take 27 rfl (ev_arB rfl rfl rfl (fun hg => by first | omega | (simp [conj] at hg; omega))) (.none rfl) rfl rfl rfl (by kernel_rfl) (by kernel_rfl) (by kernel_rfl) noP_ok hD (by repeat (first | exact .refl | exact subL_nil | refine .keep ?_ | refine .drop ?_ | refine subL_add ?_)) ?_
   refine XD_take 28 rfl (ev_min3 rfl rfl rfl) (.none rfl) rfl rfl rfl (by kernel_rfl) (by kernel_rfl) (by kernel_rfl) noP_ok hD (by repeat (first | exact .refl | exact subL_nil | refine .keep ?_ | refine .drop ?_ | refine subL_add ?_)) ?_
   refine XD_take 29 rfl (ev_assign rfl) (.none rfl) rfl rfl rfl (by kernel_rfl) (by kernel_rfl) (by kernel_rfl) noP_ok hD (by repeat (first | exact .refl | exact subL_nil | refine .keep ?_ | refine .drop ?_ | refine subL_add ?_)) ?_
   refine XD_done (by kernel_rfl) ?_
   refine at_noP ?_
   have hst := isLC.step hx hy hLA hLB hLC
   refine at_then ?_
   refine X_region ?_
   refine XO_v0 (ev_load rfl sct_114 (fun hg => by exact hE.kn.any)) rfl rfl rfl ?_
   refine zM ?_
   refine zM ?_
   refine XO_v0 (ev_buildArr (ps := [(0, _), (1, _)]) [_, _] art_94 zt_94 rfl rfl) rfl rfl rfl ?_
   refine zM ?_
   refine XO_mapUpdate (m := m4) (ev := eivI) (ek := encK2) (a := ((i : Int), (k : Int))) (minI (minI (besN x y + VA) (2 + VB)) (2 + VC)) mpt_114 key_94 rfl rfl rfl rfl (by repeat (first | exact Upd.here | apply Upd.there | apply upd_app)) ?_
   refine XO_nil (at_then (X_seq (X_region ?_)))
   refine zM ?_
   refine zA ?_
   refine XO_nil (at_then ?_)
   refine X_ret ?_
   exact at_ret1 rfl rfl (fun w hw => ⟨_, _, _, rfl, HLe.refl _, hw, _, hst, rfl, rfl, _, hm4.set hst, rfl⟩)
  ·
   obtain ⟨v, hv⟩ := Option.isSome_iff_exists.1 (by simpa using hc40)
   have hv2 := hm1 i k v hv
   rw [hv]
   refine X_skip ?_
   refine at_then ?_
   refine X_seq (X_region ?_)
   refine zM ?_
   refine zA ?_
   refine XO_nil (at_then ?_)
   refine X_ret ?_
   exact at_ret1 rfl rfl (fun w hw => ⟨_, _, _, rfl, HLe.refl _, hw, _, hv2, rfl, rfl, m1, hm1, rfl⟩)
theorem w_lsP {I : HMap} {ba bb bk bs r : Nat} {av bv : Option Addr} {n c n2 c2 : Nat} {xs ys : List Int} (hE : (LsE I 76 ba bb bk bs r av bv n c n2 c2 xs ys)) (hn : n ≤ 100000) (hn2 : n2 ≤ 100000) : ∀ (q i k : Nat) (m1 : List ((Int × Int) × Int)), xs.length + ys.length ≤ q + (i + k) → i ≤ xs.length → k ≤ ys.length → MOK xs ys m1 → RetM Tryz.prog 76 ([.int .i64 i, .int .i64 k] ++ [capP ba, capP bb, capP bk, capP bs]) I [(r, mapO encK2 eivI m1)] (fun v I' L' => ∃ A, isLC xs ys (i) (k) A ∧ v = .int .i64 A ∧ I' = I ∧ ∃ m', MOK xs ys m' ∧ L' = [(r, mapO encK2 eivI m')])
 | 0, i, k, m1, hq, hi, hk, hm => w_lsP_step hE hn hn2 i k hi hk m1 hm (fun m' h => by omega) (fun m' h => by omega) (fun m' h => by omega)
 | q + 1, i, k, m1, hq, hi, hk, hm => w_lsP_step hE hn hn2 i k hi hk m1 hm (fun m' h hm' => w_lsP hE hn hn2 q (i + 1) (k + 1) m' (by omega) (by omega) (by omega) hm') (fun m' h hm' => w_lsP hE hn hn2 q (i + 1) k m' (by omega) (by omega) (by omega) hm') (fun m' h hm' => w_lsP hE hn hn2 q i (k + 1) m' (by omega) (by omega) (by omega) hm')
end Go.Proofs.YthcffaheamikgaaGreatDoor
end
