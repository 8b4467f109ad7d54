/- topRooms_holds, part C of the proof: what its theorems say holds without further conditions. -/
import Derived.Shelf.SlSortCmp.WholeK
import Derived.Lib.SlicesCompact
import Derived.Lib.RowBridge
import Derived.Shelf.Small.Bits
import Derived.Shelf.Small.Wraps
import Derived.Shelf.Strconv.Itoa0
import Derived.Shelf.Sort.Plain
import Derived.Ground.Names2Prog
import Derived.Shelf.Slices.Clone
import Derived.Shelf.Slices.CompactI
import Derived.Shelf.Slices.SearchI
import Derived.Shelf.Slices.Cells
import Derived.Shelf.Slices.In.SortNone
import Derived.Shelf.Slices.Empties
import Derived.Ground.SlgnProg
import Derived.Shelf.SlicesE.Clone
import Derived.Shelf.SlicesQ.Reverse
import Derived.Ground.SlsfProg
import Derived.Shelf.SlSortCmp.InsertionK
import Derived.Shelf.SlSortCmp.SiftDownK
import Derived.Shelf.SlSortCmp.HeapSortK
import Derived.Shelf.SlSortCmp.MedianK
import Derived.Shelf.SlSortCmp.PivotK
import Derived.Shelf.SlSortCmp.ReverseRangeK
import Derived.Shelf.SlSortCmp.PartialInsertionK
import Derived.Shelf.SlSortCmp.PartitionEqualK
import Derived.Shelf.SlSortCmp.PartitionK
import Derived.Shelf.SlSortCmp.PdqK
import Derived.Shelf.SlSortCmp.NoneTotal
import Derived.Test.YtoicbikdenlioaaGreatProg
import Derived.Test.YtoicbikdenlioaaGreatTRB
section
namespace Go.Proofs.YtoicbikdenlioaaGreat
open Go Go.Kn Go.Proofs
theorem w_rcmp (I : HMap) (an ad bn bd : Int) : RetV Tryz.prog 117 [encRA (an) (ad), encRA (bn) (bd)] I (.tuple #[.int .i64 (cmpV an ad bn bd), .int .i64 (cmpE an ad bn bd)]) := by
 intro g H w hw
 refine enter Tryz.func117 rfl Tryz.ntmps117 rfl hw ?_
 refine zR ?_
 refine XO_box rfl rfl rfl (fun b_2 => ?_)
 refine XO_box rfl rfl rfl (fun b_3 => ?_)
 refine zA ?_
 refine zA ?_
 refine zN ?_
 refine X_seq ?_
 refine zR ?_
 refine zV (ev_loadA rfl agt_24 (fun hg => by first | (repeat (first | exact Cells.here | exact Cells.s0 (vs := [_, _]) rfl | apply Cells.there | apply Cells.app))) rfl) ?_
 refine XO_callV0 (cap := []) (vs := [_]) rfl rfl fun_67 (w_ratchk I _ _) rfl rfl ?_
 refine zC ?_
 refine zM ?_
 refine XO_pushF 3 rfl rfl rfl ?_
 refine zJ (ev_loadA rfl agt_24 (fun hg => by first | (repeat (first | exact Cells.here | exact Cells.s0 (vs := [_, _]) rfl | apply Cells.there | apply Cells.app))) rfl) ?_
 refine XO_callV1 (cap := []) (vs := [_]) rfl rfl fun_67 (fun hg => w_ratchk I _ _) (.some rfl rfl rfl rfl gbf) rfl rfl ?_
 refine zJ (ev_cmp rfl rfl rfl) ?_
 refine XO_or0 rfl rfl rfl rfl rfl ?_
 refine zN ?_
 refine zI ?_ ?_ <;> intro hc13
 ·
  have hb : (ratF an ad && ratF bn bd) = false := by have h := hc13; rw [span_eq, Bool.not_eq_true'] at h; exact h
  refine zR ?_
  refine zA ?_
  refine zA ?_
  refine zN ?_
  refine X_ret ?_
  refine at_then_r ?_
  exact at_ret2 rfl rfl rfl (fun w hw => ⟨by unfold cmpV cmpE; rw [hb]; rfl, hw.drop⟩)
 have hb : (ratF an ad && ratF bn bd) = true := by have h := hc13; rw [span_eq, Bool.not_eq_false'] at h; exact h
 have ⟨ha1, ha2⟩ := ratF_in (Bool.and_eq_true .. ▸ hb).1
 have ⟨hb1, hb2⟩ := ratF_in (Bool.and_eq_true .. ▸ hb).2
 refine X_skip ?_
 refine at_then ?_
 refine zR ?_
 refine zF fld_24_0 ?_
 refine zL sct_3 ?_
 refine zF fld_24_1 ?_
 refine zL sct_3 ?_
 refine zV (ev_arB rfl rfl rfl (fun _ => by exact mul_b (by omega) (by omega))) ?_
 refine zF fld_24_0 ?_
 refine zL sct_3 ?_
 refine zF fld_24_1 ?_
 refine zL sct_3 ?_
 refine zV (ev_arB rfl rfl rfl (fun _ => by exact mul_b (by omega) (by omega))) ?_
 refine XO_callV0 (cap := []) (vs := [_, _]) rfl rfl fun_20 (w_cmp I _ _) rfl rfl ?_
 refine zA ?_
 refine zA ?_
 refine zN ?_
 refine X_ret ?_
 exact at_ret2 rfl rfl rfl (fun w hw => ⟨by unfold cmpV cmpE; rw [hb]; rfl, hw.drop⟩)
theorem w_fine (I : HMap) (an ad bn bd : Int) : RetV Tryz.prog 92 [encRA (an) (ad), encRA (bn) (bd)] I (.bool (spanF an ad bn bd)) := by
 intro g H w hw
 refine enter Tryz.func92 rfl Tryz.ntmps92 rfl hw ?_
 refine zR ?_
 refine XO_box rfl rfl rfl (fun b_2 => ?_)
 refine XO_box rfl rfl rfl (fun b_3 => ?_)
 refine zA ?_
 refine zN (zR ?_)
 refine zV (ev_loadA rfl agt_24 (fun hg => by first | (repeat (first | exact Cells.here | exact Cells.s0 (vs := [_, _]) rfl | apply Cells.there | apply Cells.app))) rfl) ?_
 refine zV (ev_loadA rfl agt_24 (fun hg => by first | (repeat (first | exact Cells.here | exact Cells.s0 (vs := [_, _]) rfl | apply Cells.there | apply Cells.app))) rfl) ?_
 refine XO_callV0 (cap := []) (vs := [_, _]) rfl rfl fun_117 (w_rcmp I _ _ _ _) rfl rfl ?_
 refine zM ?_
 refine zE ?_
 refine zE ?_
 refine zA ?_
 refine zA ?_
 refine zN (zR ?_)
 refine zM ?_
 refine zC ?_
 refine zM ?_
 refine XO_pushT 2 rfl rfl rfl ?_
 refine zK (ev_move rfl) ?_
 refine zK (ev_cmp rfl rfl rfl) ?_
 refine XO_and0 rfl rfl rfl rfl rfl ?_
 refine zM ?_
 refine XO_pushT 6 rfl rfl rfl ?_
 refine zK (ev_fieldAddr rfl fld_24_0) ?_
 refine zK (ev_load rfl sct_3 (fun hg => by repeat (first | exact Cell.here rfl | apply Cell.there | apply Cell.app))) ?_
 refine zK (ev_cmp rfl rfl rfl) ?_
 refine XO_and0 rfl rfl rfl rfl rfl ?_
 refine zM ?_
 refine XO_pushT 11 rfl rfl rfl ?_
 refine zK (ev_fieldAddr rfl fld_24_0) ?_
 refine zK (ev_load rfl sct_3 (fun hg => by repeat (first | exact Cell.here rfl | apply Cell.there | apply Cell.app))) ?_
 refine zK (ev_fieldAddr rfl fld_24_1) ?_
 refine zK (ev_load rfl sct_3 (fun hg => by repeat (first | exact Cell.here rfl | apply Cell.there | apply Cell.app))) ?_
 refine zK (ev_cmp rfl rfl rfl) ?_
 refine XO_and0 rfl rfl rfl rfl rfl ?_
 refine zA ?_
 refine zN ?_
 refine X_ret ?_
 exact at_ret1 rfl rfl (fun w hw => ⟨by rw [← fine_eq], hw.drop⟩)
theorem w_within (I : HMap) (n lo hi : Int) : RetV Tryz.prog 16 [.int .i64 n, .int .i64 lo, .int .i64 hi] I (.bool (within n lo hi)) := by
 intro g H w hw
 refine enter Tryz.func16 rfl Tryz.ntmps16 rfl hw ?_
 refine zR ?_
 refine zA ?_
 refine zN (zR ?_)
 refine zM ?_
 refine zM ?_
 refine zC ?_
 refine zM ?_
 refine XO_pushT 3 rfl rfl rfl ?_
 refine zK (ev_move rfl) ?_
 refine zK (ev_move rfl) ?_
 refine zK (ev_cmp rfl rfl rfl) ?_
 refine XO_and0 rfl rfl rfl rfl rfl ?_
 refine zA ?_
 refine zN ?_
 refine X_ret ?_
 exact at_ret1 rfl rfl (fun w hw => ⟨by rfl, hw.drop⟩)
theorem w_frm (I : HMap) (x : Sg) : RetV Tryz.prog 38 [encGA x] I (.bool (frm x)) := by
 intro g H w hw
 refine enter Tryz.func38 rfl Tryz.ntmps38 rfl hw ?_
 refine zR ?_
 refine XO_box rfl rfl rfl (fun b_1 => ?_)
 refine zA ?_
 refine zN (zR ?_)
 refine zF fld_26_0 ?_
 refine zL sct_3 ?_
 refine XO_callV0 (cap := []) (vs := [_, _, _]) rfl rfl fun_16 (w_within I _ _ _) rfl rfl ?_
 refine zM ?_
 refine XO_pushT 3 rfl rfl rfl ?_
 refine zK (ev_fieldAddr rfl fld_26_1) ?_
 refine zK (ev_load rfl sct_3 (fun hg => by repeat (first | exact Cell.here rfl | apply Cell.there | apply Cell.app))) ?_
 refine XO_callV1 (cap := []) (vs := [_, _, _]) rfl rfl fun_16 (fun hg => w_within I _ _ _) (.some rfl rfl rfl rfl gbt) rfl rfl ?_
 refine XO_and0 rfl rfl rfl rfl rfl ?_
 refine zM ?_
 refine XO_pushT 8 rfl rfl rfl ?_
 refine zK (ev_fieldAddr rfl fld_26_2) ?_
 refine zK (ev_load rfl sct_3 (fun hg => by repeat (first | exact Cell.here rfl | apply Cell.there | apply Cell.app))) ?_
 refine XO_callV1 (cap := []) (vs := [_, _, _]) rfl rfl fun_16 (fun hg => w_within I _ _ _) (.some rfl rfl rfl rfl gbt) rfl rfl ?_
 refine XO_and0 rfl rfl rfl rfl rfl ?_
 refine zM ?_
 refine XO_pushT 13 rfl rfl rfl ?_
 refine zK (ev_fieldAddr rfl fld_26_4) ?_
 refine zK (ev_load rfl sct_3 (fun hg => by repeat (first | exact Cell.here rfl | apply Cell.there | apply Cell.app))) ?_
 refine XO_callV1 (cap := []) (vs := [_, _, _]) rfl rfl fun_16 (fun hg => w_within I _ _ _) (.some rfl rfl rfl rfl gbt) rfl rfl ?_
 refine XO_and0 rfl rfl rfl rfl rfl ?_
 refine zM ?_
 refine XO_pushT 18 rfl rfl rfl ?_
 refine zK (ev_fieldAddr rfl fld_26_3) ?_
 refine zK (ev_load rfl sct_3 (fun hg => by repeat (first | exact Cell.here rfl | apply Cell.there | apply Cell.app))) ?_
 refine XO_callV1 (cap := []) (vs := [_, _, _]) rfl rfl fun_16 (fun hg => w_within I _ _ _) (.some rfl rfl rfl rfl gbt) rfl rfl ?_
 refine XO_and0 rfl rfl rfl rfl rfl ?_
 refine zM ?_
 refine XO_pushT 23 rfl rfl rfl ?_
 refine zK (ev_fieldAddr rfl fld_26_5) ?_
 refine zK (ev_load rfl sct_3 (fun hg => by repeat (first | exact Cell.here rfl | apply Cell.there | apply Cell.app))) ?_
 refine XO_callV1 (cap := []) (vs := [_, _, _]) rfl rfl fun_16 (fun hg => w_within I _ _ _) (.some rfl rfl rfl rfl gbt) rfl rfl ?_
 refine XO_and0 rfl rfl rfl rfl rfl ?_
 refine zM ?_
 refine XO_pushT 28 rfl rfl rfl ?_
 refine zK (ev_fieldAddr rfl fld_26_6) ?_
 refine zK (ev_load rfl sct_3 (fun hg => by repeat (first | exact Cell.here rfl | apply Cell.there | apply Cell.app))) ?_
 refine XO_callV1 (cap := []) (vs := [_, _, _]) rfl rfl fun_16 (fun hg => w_within I _ _ _) (.some rfl rfl rfl rfl gbt) rfl rfl ?_
 refine XO_and0 rfl rfl rfl rfl rfl ?_
 refine zM ?_
 refine XO_pushT 33 rfl rfl rfl ?_
 refine zK (ev_fieldAddr rfl fld_26_7) ?_
 refine zK (ev_load rfl sct_3 (fun hg => by repeat (first | exact Cell.here rfl | apply Cell.there | apply Cell.app))) ?_
 refine XO_callV1 (cap := []) (vs := [_, _, _]) rfl rfl fun_16 (fun hg => w_within I _ _ _) (.some rfl rfl rfl rfl gbt) rfl rfl ?_
 refine XO_and0 rfl rfl rfl rfl rfl ?_
 refine zM ?_
 refine XO_pushT 38 rfl rfl rfl ?_
 refine zK (ev_fieldAddr rfl fld_26_8) ?_
 refine zK (ev_load rfl sct_3 (fun hg => by repeat (first | exact Cell.here rfl | apply Cell.there | apply Cell.app))) ?_
 refine XO_callV1 (cap := []) (vs := [_, _, _]) rfl rfl fun_16 (fun hg => w_within I _ _ _) (.some rfl rfl rfl rfl gbt) rfl rfl ?_
 refine XO_and0 rfl rfl rfl rfl rfl ?_
 refine zM ?_
 refine XO_pushT 43 rfl rfl rfl ?_
 refine zK (ev_fieldAddr rfl fld_26_9) ?_
 refine zK (ev_load rfl sct_3 (fun hg => by repeat (first | exact Cell.here rfl | apply Cell.there | apply Cell.app))) ?_
 refine XO_callV1 (cap := []) (vs := [_, _, _]) rfl rfl fun_16 (fun hg => w_within I _ _ _) (.some rfl rfl rfl rfl gbt) rfl rfl ?_
 refine XO_and0 rfl rfl rfl rfl rfl ?_
 refine zM ?_
 refine XO_pushT 48 rfl rfl rfl ?_
 refine zK (ev_fieldAddr rfl fld_26_10) ?_
 refine zK (ev_loadA rfl agt_24 (fun hg => by first | (repeat (first | exact Cells.here | exact Cells.s0 (vs := [_, _]) rfl | apply Cells.there | apply Cells.app))) rfl) ?_
 refine zK (ev_fieldAddr rfl fld_26_11) ?_
 refine zK (ev_loadA rfl agt_24 (fun hg => by first | (repeat (first | exact Cells.here | exact Cells.s0 (vs := [_, _]) rfl | apply Cells.there | apply Cells.app))) rfl) ?_
 refine XO_callV1 (cap := []) (vs := [_, _]) rfl rfl fun_92 (fun hg => w_fine I _ _ _ _) (.some rfl rfl rfl rfl gbt) rfl rfl ?_
 refine XO_and0 rfl rfl rfl rfl rfl ?_
 refine zA ?_
 refine zN ?_
 refine X_ret ?_
 exact at_ret1 rfl rfl (fun w hw => ⟨by rfl, hw.drop⟩)
theorem w_chkG {I : HMap} {av : Option Addr} {n c : Nat} {xs : List Sg} (hS : Sl I 14 encG av n c xs) (hn : n ≤ 100000) : RetV Tryz.prog 15 [.slice av n c] I (.int .i64 (chkG xs)) := by
 intro g H w hw
 refine enter Tryz.func15 rfl Tryz.ntmps15 rfl hw ?_
 refine zR ?_
 refine zA ?_
 refine zN ?_
 refine X_seq ?_
 refine zR ?_
 refine zM ?_
 refine zQ slt_22 ?_
 refine zC ?_
 refine zN ?_
 refine zI ?_ ?_ <;> intro hc7
 ·
  have h6 : xs.length > 4096 := by rw [hS.len]; simp at hc7; omega
  refine zR ?_
  refine zA ?_
  refine zN ?_
  refine X_ret ?_
  refine at_then_r ?_
  first
  | exact at_ret1 rfl rfl (fun w hw => ⟨by unfold chkG; rw [if_pos h6], hw.drop⟩)
 have h6 : ¬ xs.length > 4096 := by rw [hS.len]; simp at hc7; omega
 refine X_skip ?_
 refine at_then ?_
 refine X_seq ?_
 refine zR ?_
 refine zM ?_
 refine zQ slt_22 ?_
 refine zM ?_
 refine zN ?_
 refine X_block ?_
 refine X_loopT [(0, _), (8, _), (9, _)] (.cons rfl (.cons rfl (.cons rfl .nil))) (fun T L0 mz E I' loc' => ∃ (k : Nat), mz = n - k ∧ E = (10, .int .i64 k) :: T ∧ I = I' ∧ L0 = loc' ∧ k ≤ n ∧ (List.range k).all (skP xs) = true) _ _ _ _ ⟨0, rfl, rfl, rfl, rfl, Nat.zero_le _, rfl⟩ (.cons rfl (.cons rfl (.cons rfl (.cons rfl .nil)))) (HLe.refl _) rfl ?_
 rintro mz E I' loc' ⟨k, rfl, rfl, rfl, rfl, hk, hall⟩
 refine zR ?_
 refine zC ?_
 refine zN ?_
 refine X_seq ?_
 refine zI ?_ ?_ <;> intro hc11
 ·
  have hlt_k : k < n := by have h := hc11; simp at h; omega
  obtain ⟨x, hx⟩ := hS.at hlt_k
  refine X_skip ?_
  refine at_then ?_
  refine X_seq ?_
  refine X_block ?_
  refine zR ?_
  refine zM ?_
  refine zV (ev_indexSl rfl rfl slt_22 (by assumption) (fun hg => by omega)) ?_
  refine zV (ev_loadA rfl agt_26 (fun hg => by exact Sl.getA hS hx) rfl) ?_
  refine XO_alloc zt_26 rfl rfl (fun b_4 => ?_)
  refine zA ?_
  refine XO_storeA rfl rfl szt_26 rfl rfl rfl rfl (by repeat (first | exact Upd.here | apply Upd.there | apply upd_app)) ?_
  refine zN ?_
  refine X_seq ?_
  refine X_draw mixed (by kernel_rfl) ?_
  refine XQ_v0 (ev_loadA rfl agt_26 (fun hg => by (repeat (first | exact Cells.here | exact Cells.s0 (vs := [_, _, _, _, _, _, _, _, _, _, _, _, _, _]) rfl | apply Cells.there | apply Cells.app))) rfl) rfl rfl rfl ?_
  refine XQ_callV0 (cap := []) (vs := [_]) rfl rfl fun_38 (w_frm I _) rfl rfl ?_
  refine XQ_v0 (ev_not rfl) rfl rfl rfl ?_
  refine XQ_v0 (ev_move rfl) rfl rfl rfl ?_
  refine XQ_pushF 3 rfl rfl rfl ?_
  refine XQ_v1 (ev_move rfl) (.some rfl rfl rfl rfl gbf) rfl rfl rfl ?_
  refine XQ_v1 (ev_cmp rfl rfl rfl) (.some rfl rfl rfl rfl gbf) rfl rfl rfl ?_
  refine XQ_v1 (ev_move rfl) (.some rfl rfl rfl rfl gbf) rfl rfl rfl ?_
  refine XQ_pushT 6 rfl rfl rfl ?_
  refine XQ_v1 (ev_move rfl) (.some rfl rfl rfl rfl gbt) rfl rfl rfl ?_
  refine XQ_v1 (ev_move rfl) (.some rfl rfl rfl rfl gbt) rfl rfl rfl ?_
  refine XQ_v1 (ev_arB rfl rfl rfl (fun hg => by omega)) (.some rfl rfl rfl rfl gbt) rfl rfl rfl ?_
  refine XQ_v1 (ev_indexSl rfl rfl slt_22 (by assumption) (fun hg => by (simp [conj] at hg; omega))) (.some rfl rfl rfl rfl gbt) rfl rfl rfl ?_
  refine XQ_v1 (ev_fieldAddr rfl fld_26_0) (.some rfl rfl rfl rfl gbt) rfl rfl rfl ?_
  refine XQ_v1 (ev_load rfl sct_3 (fun hg => by exact Sl.get0 (k := ((k : Int) - 1).toNat) hS (some_getD (d := zeroG) hS.len (by simp [conj] at hg; omega)) rfl)) (.some rfl rfl rfl rfl gbt) rfl rfl rfl ?_
  refine XQ_v1 (ev_fieldAddr rfl fld_26_0) (.some rfl rfl rfl rfl gbt) rfl rfl rfl ?_
  refine XQ_v1 (ev_load rfl sct_3 (fun hg => by (repeat (first | exact Cell.here rfl | apply Cell.there | apply Cell.app)))) (.some rfl rfl rfl rfl gbt) rfl rfl rfl ?_
  refine XQ_v1 (ev_cmp rfl rfl rfl) (.some rfl rfl rfl rfl gbt) rfl rfl rfl ?_
  refine XQ_and1 rfl rfl rfl (.some rfl rfl rfl rfl gbf) rfl rfl ?_
  refine XQ_or0 rfl rfl rfl rfl rfl ?_
  refine XQ_nil ?_
  refine at_then ?_
  refine zI ?_ ?_ <;> intro hc32
  ·
   refine zR ?_
   refine zA ?_
   refine zN ?_
   refine X_ret ?_
   refine at_block_r ?_
   refine at_then_r ?_
   refine at_then_r ?_
   refine at_block_r ?_
   refine at_then_r ?_
   first
   | exact at_ret1 rfl rfl (fun w hw => ⟨by unfold chkG skB; rw [if_neg h6, range_bad (k := k) (by rw [hS.len]; exact hlt_k) (by rw [skP_at hx, hc32]; rfl)]; rfl, hw.drop⟩)
  refine X_skip ?_
  refine at_block_n ?_
  refine at_then ?_
  refine X_region ?_
  refine zB ?_
  refine zM ?_
  refine XO_nil ?_
  exact at_met2 _ _ ⟨n - (k + 1), by omega, k + 1, rfl, rfl, rfl, rfl, by omega, range_step hall (by rw [skP_at hx, hc32]; rfl)⟩ (.cons rfl (.cons rfl (.cons rfl (.cons rfl .nil)))) (by repeat (first | exact .refl | exact subL_left | refine subL_app ?_ | refine .drop ?_ | refine subL_add ?_))
 have hge_k : n ≤ k := by have h := hc11; simp at h; omega
 refine X_exit ?_
 refine at_then_e ?_
 refine at_then_e ?_
 refine at_block_hit ?_
 refine at_then ?_
 refine zR ?_
 refine zA ?_
 refine zN ?_
 refine X_ret ?_
 first
 | exact at_ret1 rfl rfl (fun w hw => ⟨by unfold chkG skB; rw [if_neg h6, hS.len, show n = k by omega, hall]; rfl, hw.drop⟩)
theorem w_numbers (I : HMap) (b : Nat) : RetV Tryz.prog 107 [capP b] I (.agg (numL b).toArray) := by
 intro g H w hw
 refine enter Tryz.func107 rfl Tryz.ntmps107 rfl hw ?_
 refine zR ?_
 refine XO_alloc zt_134 rfl rfl (fun b_2 => ?_)
 refine zN ?_
 refine X_seq ?_
 have hD := HLe.refl I
 refine X_noP ?_
 refine X_drawS I [] mixed ?_
 refine zT 0 rfl (ev_move rfl) hD ?_
 refine zT 1 rfl (ev_nilCheck rfl) hD ?_
 refine zT 2 rfl (ev_fieldAddr rfl fld_26_1) hD ?_
 refine zT 3 rfl (ev_move rfl) hD ?_
 refine zT 4 rfl (ev_nilCheck rfl) hD ?_
 refine zT 5 rfl (ev_fieldAddr rfl fld_26_2) hD ?_
 refine zT 6 rfl (ev_move rfl) hD ?_
 refine zT 7 rfl (ev_nilCheck rfl) hD ?_
 refine zT 8 rfl (ev_fieldAddr rfl fld_26_3) hD ?_
 refine zT 9 rfl (ev_move rfl) hD ?_
 refine zT 10 rfl (ev_nilCheck rfl) hD ?_
 refine zT 11 rfl (ev_fieldAddr rfl fld_26_5) hD ?_
 refine zT 12 rfl (ev_move rfl) hD ?_
 refine zT 13 rfl (ev_nilCheck rfl) hD ?_
 refine zT 14 rfl (ev_fieldAddr rfl fld_26_6) hD ?_
 refine zT 15 rfl (ev_move rfl) hD ?_
 refine zT 16 rfl (ev_nilCheck rfl) hD ?_
 refine zT 17 rfl (ev_fieldAddr rfl fld_26_7) hD ?_
 refine zT 18 rfl (ev_move rfl) hD ?_
 refine zT 19 rfl (ev_nilCheck rfl) hD ?_
 refine zT 20 rfl (ev_fieldAddr rfl fld_26_8) hD ?_
 refine zT 21 rfl (ev_move rfl) hD ?_
 refine zT 22 rfl (ev_nilCheck rfl) hD ?_
 refine zT 23 rfl (ev_fieldAddr rfl fld_26_9) hD ?_
 refine zT 24 rfl (ev_buildArr (ps := [(1, _), (2, _), (3, _), (4, _), (5, _), (6, _), (7, _), (8, _)]) [_, _, _, _, _, _, _, _, _] art_134 zt_134 rfl rfl) hD ?_
 refine XD_one 25 rfl (by kernel_rfl) ?_
 refine XO_storeA rfl rfl szt_134 rfl rfl rfl rfl (by repeat (first | exact Upd.here | apply Upd.there | apply upd_app)) ?_
 refine XO_nil ?_
 refine zD hD ?_
 refine XD_done (by kernel_rfl) ?_
 refine at_noP ?_
 refine at_then ?_
 refine X_ret ?_
 exact at_retA rfl rfl agt_134 Cells.g0 rfl (fun w hw => ⟨rfl, hw.drop⟩)
theorem w_set (I : HMap) (x : Sg) (f : Int) (y : Sg) (hf : isF f) : RetV Tryz.prog 76 [encGA x, .int .i64 f, encGA y] I (encGA (setG x f y)) := by
 intro g H w hw
 refine enter Tryz.func76 rfl Tryz.ntmps76 rfl hw ?_
 refine zR ?_
 refine XO_box rfl rfl rfl (fun b_3 => ?_)
 refine XO_box rfl rfl rfl (fun b_5 => ?_)
 refine XO_alloc zt_26 rfl rfl (fun b_6 => ?_)
 refine zN ?_
 refine X_seq ?_
 refine zR ?_
 refine zM ?_
 refine zC ?_
 refine zN ?_
 refine zI ?_ ?_ <;> intro hc8
 ·
  have hf9 : f = 9 := by simpa using hc8
  refine zR ?_
  refine zF fld_26_10 ?_
  refine zV (ev_loadA rfl agt_24 (fun hg => by first | (repeat (first | exact Cells.here | exact Cells.s0 (vs := [_, _]) rfl | apply Cells.there | apply Cells.app))) rfl) ?_
  refine zF fld_26_11 ?_
  refine zV (ev_loadA rfl agt_24 (fun hg => by first | (repeat (first | exact Cells.here | exact Cells.s0 (vs := [_, _]) rfl | apply Cells.there | apply Cells.app))) rfl) ?_
  refine zF fld_26_10 ?_
  refine XO_storeP rfl rfl szt_24 rfl rfl rfl rfl (by repeat (first | exact Upd.here | apply Upd.there | apply upd_app)) ?_
  refine zF fld_26_11 ?_
  refine XO_storeP rfl rfl szt_24 rfl rfl rfl rfl (by repeat (first | exact Upd.here | apply Upd.there | apply upd_app)) ?_
  refine zN (zR ?_)
  refine zV (ev_loadA rfl agt_26 (fun hg => by first | (repeat (first | exact Cells.here | exact Cells.s0 (vs := [_, _, _, _, _, _, _, _, _, _, _, _, _, _]) rfl | apply Cells.there | apply Cells.app))) rfl) ?_
  refine XO_storeA rfl rfl szt_26 rfl rfl rfl rfl (by repeat (first | exact Upd.here | apply Upd.there | apply upd_app)) ?_
  refine zN ?_
  refine X_ret ?_
  refine at_then_r ?_
  first
  | exact at_retA rfl rfl agt_26 Cells.g0 rfl (fun w hw => ⟨by rw [hf9]; rfl, hw.drop⟩)
 have hf8 : 1 ≤ f ∧ f ≤ 8 := by have h := hc8; unfold isF at hf; simp at h; omega
 refine X_skip ?_
 refine at_then ?_
 refine X_seq ?_
 have hD := HLe.refl I
 refine X_noP ?_
 refine X_drawS I [(b_5, .cells (encGA y).cells 26 (0, 0))] mixed ?_
 refine zT 1 rfl (ev_move rfl) hD ?_
 refine zT 4 rfl (ev_move rfl) hD ?_
 refine XD_one 0 rfl (by kernel_rfl) ?_
 refine XO_callV0 (cap := []) (vs := [_]) rfl rfl fun_107 (w_numbers I _) rfl rfl ?_
 refine XO_nil ?_
 refine zD hD ?_
 refine XD_two 2 3 rfl rfl (by kernel_rfl) ?_ ?_
 ·
  refine zV (ev_index rfl rfl art_134 sct_103 (fun hg => by omega) (fun hg => num_at hf8 b_3)) ?_
  refine XO_nil ?_
  refine zD hD ?_
  refine XD_one 3 rfl (by kernel_rfl) ?_
  refine XO_callV0 (cap := []) (vs := [_]) rfl rfl fun_107 (w_numbers I _) rfl rfl ?_
  refine XO_nil ?_
  refine zD hD ?_
  refine XD_one 5 rfl (by kernel_rfl) ?_
  refine zV (ev_index rfl rfl art_134 sct_103 (fun hg => by omega) (fun hg => num_at hf8 b_5)) ?_
  refine XO_nil ?_
  refine zD hD ?_
  refine zT 6 rfl (ev_nilCheck rfl) hD ?_
  refine zT 7 rfl (ev_load rfl sct_3 (fun hg => by exact Cell.h0 (cell_fo hf8 y))) hD ?_
  refine zT 8 rfl (ev_nilCheck rfl) hD ?_
  refine XD_one 9 rfl (by kernel_rfl) ?_
  refine XO_store rfl rfl szt_3 rfl rfl Upd.u2 (by exact fo_lt) ?_
  rw [show (encGA x).cells.setIfInBounds (foF f) (.int .i64 (getF y f)) = (encG (setG x f y)).toArray from set_fo hf8 x y]
  refine XO_nil ?_
  refine zD hD ?_
  refine XD_done (by kernel_rfl) ?_
  refine at_noP ?_
  refine at_then ?_
  refine zR ?_
  refine zV (ev_loadA rfl agt_26 (fun hg => by first | (repeat (first | exact Cells.here | exact Cells.s0 (vs := [_, _, _, _, _, _, _, _, _, _, _, _, _, _]) rfl | apply Cells.there | apply Cells.app))) rfl) ?_
  refine XO_storeA rfl rfl szt_26 rfl rfl rfl rfl (by repeat (first | exact Upd.here | apply Upd.there | apply upd_app)) ?_
  refine zN ?_
  refine X_ret ?_
  exact at_retA rfl rfl agt_26 Cells.g0 rfl (fun w hw => ⟨rfl, hw.drop⟩)
 refine XO_callV0 (cap := []) (vs := [_]) rfl rfl fun_107 (w_numbers I _) rfl rfl ?_
 refine XO_nil ?_
 refine zD hD ?_
 refine XD_two 2 5 rfl rfl (by kernel_rfl) ?_ ?_
 ·
  refine zV (ev_index rfl rfl art_134 sct_103 (fun hg => by omega) (fun hg => num_at hf8 b_3)) ?_
  refine XO_nil ?_
  refine zD hD ?_
  refine XD_one 5 rfl (by kernel_rfl) ?_
  refine zV (ev_index rfl rfl art_134 sct_103 (fun hg => by omega) (fun hg => num_at hf8 b_5)) ?_
  refine XO_nil ?_
  refine zD hD ?_
  refine zT 6 rfl (ev_nilCheck rfl) hD ?_
  refine zT 7 rfl (ev_load rfl sct_3 (fun hg => by exact Cell.h0 (cell_fo hf8 y))) hD ?_
  refine zT 8 rfl (ev_nilCheck rfl) hD ?_
  refine XD_one 9 rfl (by kernel_rfl) ?_
  refine XO_store rfl rfl szt_3 rfl rfl Upd.u2 (by exact fo_lt) ?_
  rw [show (encGA x).cells.setIfInBounds (foF f) (.int .i64 (getF y f)) = (encG (setG x f y)).toArray from set_fo hf8 x y]
  refine XO_nil ?_
  refine zD hD ?_
  refine XD_done (by kernel_rfl) ?_
  refine at_noP ?_
  refine at_then ?_
  refine zR ?_
  refine zV (ev_loadA rfl agt_26 (fun hg => by first | (repeat (first | exact Cells.here | exact Cells.s0 (vs := [_, _, _, _, _, _, _, _, _, _, _, _, _, _]) rfl | apply Cells.there | apply Cells.app))) rfl) ?_
  refine XO_storeA rfl rfl szt_26 rfl rfl rfl rfl (by repeat (first | exact Upd.here | apply Upd.there | apply upd_app)) ?_
  refine zN ?_
  refine X_ret ?_
  exact at_retA rfl rfl agt_26 Cells.g0 rfl (fun w hw => ⟨rfl, hw.drop⟩)
 refine zV (ev_index rfl rfl art_134 sct_103 (fun hg => by omega) (fun hg => num_at hf8 b_5)) ?_
 refine XO_nil ?_
 refine zD hD ?_
 refine zT 6 rfl (ev_nilCheck rfl) hD ?_
 refine zT 7 rfl (ev_load rfl sct_3 (fun hg => by exact Cell.h0 (cell_fo hf8 y))) hD ?_
 refine XD_one 2 rfl (by kernel_rfl) ?_
 refine zV (ev_index rfl rfl art_134 sct_103 (fun hg => by omega) (fun hg => num_at hf8 b_3)) ?_
 refine XO_nil ?_
 refine zD hD ?_
 refine zT 8 rfl (ev_nilCheck rfl) hD ?_
 refine XD_one 9 rfl (by kernel_rfl) ?_
 refine XO_store rfl rfl szt_3 rfl rfl Upd.u2 (by exact fo_lt) ?_
 rw [show (encGA x).cells.setIfInBounds (foF f) (.int .i64 (getF y f)) = (encG (setG x f y)).toArray from set_fo hf8 x y]
 refine XO_nil ?_
 refine zD hD ?_
 refine XD_done (by kernel_rfl) ?_
 refine at_noP ?_
 refine at_then ?_
 refine zR ?_
 refine zV (ev_loadA rfl agt_26 (fun hg => by first | (repeat (first | exact Cells.here | exact Cells.s0 (vs := [_, _, _, _, _, _, _, _, _, _, _, _, _, _]) rfl | apply Cells.there | apply Cells.app))) rfl) ?_
 refine XO_storeA rfl rfl szt_26 rfl rfl rfl rfl (by repeat (first | exact Upd.here | apply Upd.there | apply upd_app)) ?_
 refine zN ?_
 refine X_ret ?_
 exact at_retA rfl rfl agt_26 Cells.g0 rfl (fun w hw => ⟨rfl, hw.drop⟩)
end Go.Proofs.YtoicbikdenlioaaGreat
end
section
namespace Go.Kn
open Go Go.Sort Go.Shelf Go.Lib Go.Proofs
/-- Behind a call that reads: the world has grown, and has drawn. -/
theorem grown_of {w w' : World} {L : Loc} (h : St w (fun b => w.heap[b]?) (fun _ => none) L w') : ∃ q os', w' = grow (w.drewN q) os' := by
  refine ⟨w'.drawn - w.drawn, w'.heap.extract w.heap.size w'.heap.size, ?_⟩
  have h1 := h.size
  have hh : w.heap ++ w'.heap.extract w.heap.size w'.heap.size = w'.heap := by
    apply Array.ext'
    apply List.ext_getElem?
    intro i
    by_cases hi : i < w.heap.size
    · have := h.imm i _ (Array.getElem?_eq_getElem hi)
      rw [Array.getElem?_toList, Array.getElem?_toList, this, Array.getElem?_append_left hi, Array.getElem?_eq_getElem hi]
    · rw [Array.getElem?_toList, Array.getElem?_toList, Array.getElem?_append_right (by omega), Array.getElem?_extract]
      by_cases h2 : i < w'.heap.size
      · rw [if_pos (by omega), show w.heap.size + (i - w.heap.size) = i by omega]
      · rw [if_neg (by omega), Array.getElem?_eq_none (by omega)]
  have e1 := h.os; have e2 := h.tape; have e3 := h.out
  cases w; cases w'
  simp only [grow, World.drewN] at *
  subst e1; subst e2; subst e3
  simp only [World.mk.injEq, true_and, and_true]
  exact ⟨hh.symm, by omega⟩
theorem flat_eq {α : Type} [Inhabited α] {enc : α → List Value} {k : Nat} (hk : ∀ x, (enc x).length = k) (hpos : 0 < k) (xs : List α) : flatK enc k xs.toArray = (xs.flatMap enc).toArray := by
  have hl : (xs.flatMap enc).length = xs.length * k := flat_len hk xs
  apply Array.ext
  · rw [size_flatK]; simp [hl]
  · intro t h1 h2
    have ht : t < xs.length * k := by rw [size_flatK] at h1; simpa using h1
    have hq : t / k < xs.length := by rw [Nat.div_lt_iff_lt_mul hpos]; exact ht
    have hr : t % k < k := Nat.mod_lt _ hpos
    have hx : xs[t / k]? = some xs[t / k] := List.getElem?_eq_getElem hq
    have hu : (enc xs[t / k])[t % k]? = some ((enc xs[t / k])[t % k]'(by rw [hk]; exact hr)) := List.getElem?_eq_getElem _
    have h3 := flat_at hk xs (t / k) _ hx (t % k) _ hu
    rw [Nat.mul_comm, Nat.div_add_mod] at h3
    have h4 := get_flatK enc k xs.toArray t (by simpa using ht)
    rw [getElem!_pos (flatK enc k xs.toArray) t h1] at h4
    rw [h4]
    have e1 : xs.toArray[t / k]! = xs[t / k]'hq := by simp [hq]
    rw [e1]
    have e2 : (enc (xs[t / k]'hq))[t % k]! = (enc (xs[t / k]'hq))[t % k]'(by rw [hk]; exact hr) := getElem!_pos (enc (xs[t / k]'hq)) (t % k) (by rw [hk]; exact hr)
    rw [e2]
    have e3 : (xs.flatMap enc).toArray[t]? = some ((enc xs[t / k])[t % k]'(by rw [hk]; exact hr)) := by simpa using h3
    rw [Array.getElem?_eq_getElem h2] at e3
    exact (Option.some.inj e3).symm
theorem retSortK {α : Type} [Inhabited α] {P : Program} {f g0 : FuncId} {e : TypeId} {k : Nat} {enc : α → List Value} {cf : α → α → Int} (hk : ∀ x, (enc x).length = k) (hpos : 0 < k)
    (hs : ∀ (blk off cap : Nat) (d : Array α) (w : World), CmpLays P g0 #[] enc k cf blk off d.size w → HoldsK enc k w blk off d → blk < w.heap.size → d.size < 4611686018427387904 →
      Calls P f #[.slice (some ⟨blk, off, none⟩) d.size cap, .func (.func g0) #[] #[]] w fun e w' => e = .returned (.tuple #[]) ∧ ∃ d' n os, PermIn 0 d.size d d' ∧ SortedIn (ltOf cf) 0 d.size d' ∧ w' = sortWorldK enc k w blk off n d' os)
    (h0 : ∀ (p : Option Addr) (cap : Nat) (fv : Value) (w : World), Calls P f #[.slice p 0 cap, fv] w fun e w' => e = .returned (.tuple #[]) ∧ w' = w)
    (hcmp : ∀ (I : HMap) (x y : α), RetV P g0 [.agg (enc x).toArray, .agg (enc y).toArray] I (.int .i64 (cf x y)))
    (zs : List α) {v : Value} {n : Nat} {L : Loc} (hO : OwnS e k v n (zs.flatMap enc) L) (hn : n ≤ 1000000) (I : HMap) :
    RetM P f [v, .func (.func g0) #[] #[]] I L (fun u I' L' => u = .tuple #[] ∧ I' = I ∧ ∃ zs' : List α, zs'.Perm zs ∧ zs'.Pairwise (fun x y => ltOf cf y x = false) ∧ OwnS e k v n (zs'.flatMap enc) L') := by
  intro g H w hw
  have hl : zs.length = n := by
    have := hO.1
    rw [flat_len hk] at this
    exact Nat.eq_of_mul_eq_mul_right hpos this
  subst hl
  rcases hO.2 with ⟨rfl, h00, rfl⟩ | ⟨b, c, cur, rfl, rfl, hc, hc2, hsz, htk⟩
  · have : zs = [] := List.length_eq_zero_iff.1 h00
    subst this
    refine (h0 none 0 _ w).mono ?_
    rintro e w' ⟨rfl, rfl⟩
    exact ⟨_, I, [], rfl, HLe.refl _, hw, rfl, rfl, [], .nil, .nil, by simp, .inl ⟨rfl, rfl, rfl⟩⟩
  · have hb := hw.own b _ (List.mem_singleton.2 rfl)
    have hbs : b < w.heap.size := (Array.getElem?_eq_some_iff.1 hb).1
    have hfl : (zs.flatMap enc).length = zs.length * k := flat_len hk zs
    have hH : HoldsK enc k w b 0 zs.toArray := by
      unfold HoldsK
      rw [flat_eq hk hpos]
      exact holds_own (enc := id) hw (List.mem_singleton.2 rfl) (zs.flatMap enc) (by rw [hfl, htk]; simp)
    have hC : CmpLays P g0 #[] enc k cf b 0 zs.toArray.size w := by
      intro m os dk _ x y
      have h1 := hcmp (fun q => (sortWorldK enc k w b 0 m dk os).heap[q]?) x y (sortWorldK enc k w b 0 m dk os) (fun _ => none) (sortWorldK enc k w b 0 m dk os)
        ⟨rfl, rfl, rfl, ⟨Nat.le_refl _, Nat.le_refl _⟩, fun _ _ h => h, (fun _ _ h => by cases h), (fun _ _ h => by cases h), fun _ => .inr rfl, (fun _ _ h => by cases h), by simp⟩
      refine Calls.mono h1 ?_
      rintro e w' ⟨rfl, hs⟩
      exact ⟨rfl, grown_of hs⟩
    have hcall := hs b 0 c zs.toArray w hC hH hbs (by simp; omega)
    rw [List.size_toArray] at hcall
    refine hcall.mono ?_
    rintro e w' ⟨rfl, d', m, os, hp, hsd, rfl⟩
    have hps : d'.size = zs.length := by simpa using hp.1
    have hperm : d'.toList.Perm zs := by
      have := hp.2.2
      simpa [Array.extract_eq_self_of_le, hps] using this
    have hdl : d' = d'.toList.toArray := by simp
    have hfd : (d'.toList.flatMap enc).length = zs.length * k := by rw [flat_len hk, Array.length_toList, hps]
    refine ⟨_, I, [(b, .cells (putCells id 0 (d'.toList.flatMap enc).toArray cur) e (0, 0))], rfl, HLe.refl _, ?_, rfl, rfl, d'.toList, hperm, ?_, ?_⟩
    · unfold sortWorldK putRowK
      rw [hdl, flat_eq hk hpos]
      simp only [List.toList_toArray]
      exact (((hw.aheadN m).rowPut (enc := id) _ .here).grown os)
    · rw [List.pairwise_iff_getElem]
      intro i j hi hj hij
      have := hsd i j (Nat.zero_le _) hij (by rw [← hps]; simpa using hj)
      rw [getElem!_pos d' i (by simpa using hi), getElem!_pos d' j (by simpa using hj)] at this
      simpa using this
    · refine ⟨by rw [hfd], .inr ⟨b, c, _, rfl, rfl, hc, hc2, by simp [putCells, hsz], ?_⟩⟩
      have := take_put (enc := id) (cs := cur) (n := zs.length * k) (d'.toList.flatMap enc) hfd (by rw [hsz]; exact Nat.mul_le_mul_right k hc)
      simpa using this
end Go.Kn
end
section
namespace Go.Proofs.YtoicbikdenlioaaGreat
open Go Go.Kn
def sortI (zs : List Int) : List Int := zs.mergeSort fun x y => decide (x ≤ y)
theorem flat_int (zs : List Int) : zs.flatMap encI = zs.map (Value.int .i64) := by
  induction zs with
  | nil => rfl
  | cons z zs ih => rw [List.flatMap_cons, ih]; rfl
theorem comp_inv (d : Array Int) (hs : ∀ j, 0 < j → j < d.size → d[j - 1]! ≤ d[j]!) : ∀ m, m ≤ d.size → (Lib.compactUpTo d m).Pairwise (· < ·) ∧ (∀ x ∈ Lib.compactUpTo d m, 0 < m ∧ x ≤ d[m - 1]!) ∧ ∀ x, x ∈ Lib.compactUpTo d m ↔ ∃ j, j < m ∧ d[j]! = x
  | 0, _ => ⟨.nil, (fun x h => by cases h), fun x => ⟨(fun h => by cases h), fun ⟨j, h, _⟩ => by omega⟩⟩
  | m + 1, hm => by
    obtain ⟨h1, h2, h3⟩ := comp_inv d hs m (by omega)
    rw [Lib.compactUpTo_succ]
    by_cases hk : Lib.keeps d m = true
    · rw [if_pos hk]
      have hlt : ∀ x ∈ Lib.compactUpTo d m, x < d[m]! := fun x hx => by
        obtain ⟨a, b⟩ := h2 x hx
        have h4 := hs m a (by omega)
        unfold Lib.keeps at hk
        have h5 := of_decide_eq_true hk
        omega
      refine ⟨?_, ?_, ?_⟩
      · rw [List.pairwise_append]
        exact ⟨h1, List.pairwise_singleton .., fun y hy z hz => by rw [List.mem_singleton] at hz; rw [hz]; exact hlt y hy⟩
      · intro x hx
        refine ⟨by omega, ?_⟩
        rw [show m + 1 - 1 = m from by omega]
        rcases List.mem_append.1 hx with hx | hx
        · have := hlt x hx; omega
        · rw [List.mem_singleton] at hx; rw [hx]; exact Int.le_refl _
      · intro x
        rw [List.mem_append, h3, List.mem_singleton]
        constructor
        · rintro (⟨j, a, b⟩ | e)
          · exact ⟨j, by omega, b⟩
          · exact ⟨m, by omega, e.symm⟩
        · rintro ⟨j, a, b⟩
          by_cases e : j = m
          · subst e; exact .inr b.symm
          · exact .inl ⟨j, by omega, b⟩
    · rw [if_neg hk, List.append_nil]
      unfold Lib.keeps at hk
      have h5 : ¬ (m = 0 ∨ d[m]! ≠ d[m - 1]!) := fun h => hk (decide_eq_true h)
      have h6 : 0 < m ∧ d[m]! = d[m - 1]! := by omega
      refine ⟨h1, ?_, ?_⟩
      · intro x hx
        have := h2 x hx
        rw [show m + 1 - 1 = m from by omega]
        omega
      · intro x
        rw [h3]
        constructor
        · rintro ⟨j, a, b⟩; exact ⟨j, by omega, b⟩
        · rintro ⟨j, a, b⟩
          by_cases e : j = m
          · subst e; exact ⟨j - 1, by omega, by rw [← h6.2]; exact b⟩
          · exact ⟨j, by omega, b⟩
theorem comp_sort (zs : List Int) : (Lib.compact (sortI zs)).Pairwise (· < ·) ∧ ∀ x, x ∈ Lib.compact (sortI zs) ↔ x ∈ zs := by
  have hp : (sortI zs).Pairwise (fun a b => decide (a ≤ b) = true) := List.pairwise_mergeSort (by intro a b c; simp; omega) (by intro a b; simp; omega) zs
  have hget : ∀ j, j < (sortI zs).length → (sortI zs).toArray[j]! = (sortI zs)[j]! := fun j hj => by simp
  have hs : ∀ j, 0 < j → j < (sortI zs).toArray.size → (sortI zs).toArray[j - 1]! ≤ (sortI zs).toArray[j]! := by
    intro j h0 hj
    have hj' : j < (sortI zs).length := by simpa using hj
    have h1 := List.pairwise_iff_getElem.1 hp (j - 1) j (by omega) hj' (by omega)
    have h2 := of_decide_eq_true h1
    simpa [hj', show j - 1 < (sortI zs).length from by omega] using h2
  obtain ⟨h1, _, h3⟩ := comp_inv (sortI zs).toArray hs (sortI zs).length (by simp)
  refine ⟨h1, fun x => ?_⟩
  unfold Lib.compact
  rw [h3]
  have hmem : x ∈ sortI zs ↔ x ∈ zs := (List.mergeSort_perm zs _).mem_iff
  rw [← hmem]
  constructor
  · rintro ⟨j, hj, e⟩
    have : (sortI zs)[j] = x := by simpa [hj] using e
    rw [← this]; exact List.getElem_mem hj
  · intro h
    obtain ⟨j, hj, e⟩ := List.getElem_of_mem h
    exact ⟨j, hj, by simpa [hj] using e⟩
theorem comp_sort_eq {zs ys : List Int} (hy : ys.Pairwise (· < ·)) (h : ∀ x, x ∈ zs ↔ x ∈ ys) : Lib.compact (sortI zs) = ys :=
  sorted_ext (comp_sort zs).1 hy fun a => by rw [(comp_sort zs).2, h]
end Go.Proofs.YtoicbikdenlioaaGreat
end
section
namespace Go.Proofs.YtoicbikdenlioaaGreat
open Go Go.Kn Go.Proofs
theorem half_eq (i j : Nat) (h : i + j ≤ 1000000) : IntKind.i64.wrap ((IntKind.u64.wrap ((i : Int) + (j : Int))).fdiv (2 ^ 1)) = (((i + j) / 2 : Nat) : Int) := by
  have h1 : IntKind.u64.wrap ((i : Int) + (j : Int)) = ((i + j : Nat) : Int) := by
    rw [show ((i : Int) + (j : Int)) = ((i + j : Nat) : Int) by omega]
    exact u64_id ⟨by omega, by omega⟩
  rw [h1, show ((2 : Int) ^ 1) = ((2 : Nat) : Int) from rfl, Int.fdiv_eq_ediv_of_nonneg _ (by omega), ← Int.natCast_ediv]
  exact wrap_in ⟨by omega, by omega⟩
theorem cmp_lt {x y : Int} : decide (cmpF x y < 0) = decide (x < y) := by
  unfold cmpF
  by_cases h : x < y
  · rw [if_pos h]; simp [h]
  · rw [if_neg h]; split <;> simp [h]
section
variable {α : Type} {key : α → Int} {xs : List α} {t : Int}
theorem bs_lo (hs : xs.Pairwise (fun a b => key a < key b)) {h : Nat} {y : α} (hy : xs[h]? = some y) (hlt : key y < t) : ∀ q z, q < h + 1 → xs[q]? = some z → key z < t := fun q z hq hz => by
  obtain ⟨h1, h2⟩ := List.getElem?_eq_some_iff.1 hz
  obtain ⟨h3, h4⟩ := List.getElem?_eq_some_iff.1 hy
  by_cases e : q = h
  · subst e; rw [hy] at hz; cases hz; exact hlt
  · have := List.pairwise_iff_getElem.1 hs q h h1 h3 (by omega)
    rw [h2, h4] at this; omega
theorem bs_hi (hs : xs.Pairwise (fun a b => key a < key b)) {h : Nat} {y : α} (hy : xs[h]? = some y) (hlt : ¬ key y < t) : ∀ q z, h ≤ q → xs[q]? = some z → ¬ key z < t := fun q z hq hz => by
  obtain ⟨h1, h2⟩ := List.getElem?_eq_some_iff.1 hz
  obtain ⟨h3, h4⟩ := List.getElem?_eq_some_iff.1 hy
  by_cases e : q = h
  · subst e; rw [hy] at hz; cases hz; exact hlt
  · have := List.pairwise_iff_getElem.1 hs h q h3 h1 (by omega)
    rw [h2, h4] at this; omega
/-- The number found: how many are less. -/
def lowK (key : α → Int) (xs : List α) (t : Int) : Nat := (xs.takeWhile fun x => decide (key x < t)).length
theorem low_at {i : Nat} (hi : i ≤ xs.length) (hlo : ∀ q z, q < i → xs[q]? = some z → key z < t) (hhi : ∀ q z, i ≤ q → xs[q]? = some z → ¬ key z < t) : lowK key xs t = i := by
  unfold lowK
  have h1 : (xs.take i).all (fun x => decide (key x < t)) = true := by
    rw [List.all_eq_true]
    intro z hz
    obtain ⟨q, hq⟩ := List.getElem?_of_mem hz
    have hq1 : q < i := by have := (List.getElem?_eq_some_iff.1 hq).1; rw [List.length_take] at this; omega
    rw [List.getElem?_take_of_lt hq1] at hq
    exact decide_eq_true (hlo q z hq1 hq)
  rw [(tw_eq h1 hi (fun y hy => decide_eq_false (hhi i y (Nat.le_refl _) hy))).1, List.length_take]; omega
theorem found_at {i n : Nat} {d : α} (hl : xs.length = n) (hlo : ∀ q z, q < i → xs[q]? = some z → key z < t) (hhi : ∀ q z, i ≤ q → xs[q]? = some z → ¬ key z < t) (hs : xs.Pairwise (fun a b => key a < key b)) : (decide ((i : Int) < (n : Int)) && (key (xs.getD i d) == t)) = xs.any fun x => key x == t := by
  rw [Bool.eq_iff_iff, List.any_eq_true, Bool.and_eq_true]
  constructor
  · rintro ⟨h1, h2⟩
    have hi : i < n := by have := of_decide_eq_true h1; omega
    exact ⟨_, List.mem_of_getElem? (some_getD hl hi), h2⟩
  · rintro ⟨x, hx, e⟩
    have e : key x = t := by simpa using e
    obtain ⟨q, hq⟩ := List.getElem?_of_mem hx
    have hqn := (List.getElem?_eq_some_iff.1 hq).1
    have h1 : i ≤ q := by
      rcases Nat.lt_or_ge q i with h | h
      · have := hlo q x h hq; omega
      · exact h
    have h2 : q = i := by
      by_cases e2 : q = i
      · exact e2
      · have hy := some_getD (d := d) hl (show i < n by omega)
        obtain ⟨h3, h4⟩ := List.getElem?_eq_some_iff.1 hq
        obtain ⟨h5, h6⟩ := List.getElem?_eq_some_iff.1 hy
        have h7 := List.pairwise_iff_getElem.1 hs i q h5 h3 (by omega)
        rw [h4, h6] at h7
        have := hhi i _ (Nat.le_refl _) hy
        omega
    subst h2
    refine ⟨decide_eq_true (by omega), ?_⟩
    rw [getD_of hq, e]; simp
end
instance : Inhabited Sg := ⟨zeroG⟩
def cmpG (a b : Sg) : Int := cmpF a.id b.id
theorem ltG (a b : Sg) : Go.Proofs.ltOf cmpG a b = decide (a.id < b.id) := by unfold Go.Proofs.ltOf cmpG; exact cmp_lt
theorem swoG : Go.Sort.SWO (Go.Proofs.ltOf cmpG) where
  irrefl := fun x => by rw [ltG]; simp
  trans := fun x y z h1 h2 => by rw [ltG] at *; simp at *; omega
  ntrans := fun x y z h1 h2 => by rw [ltG] at *; simp at *; omega
/-- A permutation in order, of signs with different IDs. -/
theorem perm_srt {zs zs' : List Sg} (hp : zs'.Perm zs) (hs : zs'.Pairwise (fun x y => Go.Proofs.ltOf cmpG y x = false)) (hn : (zs.map (·.id)).Nodup) : Srt zs' := by
  have hn' : (zs'.map (·.id)).Nodup := (hp.map (·.id)).nodup_iff.2 hn
  unfold Srt
  have h2 : zs'.Pairwise (fun a b => a.id ≠ b.id) := List.pairwise_map.1 hn'
  refine (hs.and h2).imp fun {a b} h => ?_
  have := h.1
  rw [ltG] at this
  simp at this
  have := h.2
  omega
end Go.Proofs.YtoicbikdenlioaaGreat
end
section
namespace Go.Proofs.YtoicbikdenlioaaGreat
open Go Go.Kn Go.Proofs
theorem sub_zero {x t : Int} : (x - t == 0) = (x == t) := by
  rw [Bool.eq_iff_iff]; simp; omega
def incP (v : List Int) (i : Nat) : Bool := !(decide ((i : Int) > 0) && decide (v.getD i 0 ≤ v.getD ((i : Int) - 1).toNat 0))
theorem incB_eq {v : List Int} : incB v = (List.range v.length).all (incP v) := rfl
theorem incP_zero (v : List Int) : (List.range 1).all (incP v) = true := by simp [incP]
theorem incP_at {v : List Int} {k : Nat} {x : Int} (hx : v[k]? = some x) (h : 1 ≤ k) : incP v k = !decide (x ≤ v.getD ((k : Int) - 1).toNat 0) := by
  unfold incP
  rw [getD_of hx, decide_eq_true (show (k : Int) > 0 by omega), Bool.true_and]
theorem range_cut {p : Nat → Bool} {n k : Nat} (h : (List.range k).all p = true) (hn : n ≤ k) : (List.range n).all p = true := by
  rw [List.all_eq_true] at *
  intro i hi
  exact h i (List.mem_range.2 (Nat.lt_of_lt_of_le (List.mem_range.1 hi) hn))
end Go.Proofs.YtoicbikdenlioaaGreat
end
section
namespace Go.Proofs
open Go.Shelf
def Tryz.lays189_ren : Go.Shelf.Ren := ⟨fun | 189 => 85 | 125 => 111 | 257 => 113 | 128 => 129 | 129 => 130 | 294 => 131 | 295 => 132 | 296 => 133 | 297 => 134 | 298 => 135 | 299 => 136 | 216 => 108 | 300 => 137 | 301 => 138 | 328 => 145 | 329 => 141 | 330 => 142 | 331 => 146 | 332 => 147 | 215 => 71 | 343 => 149 | n => n, fun | 28 => 38 | 3 => 3 | 46 => 108 | 0 => 0 | 51 => 160 | 53 => 162 | 4 => 4 | 183 => 154 | 182 => 153 | 131 => 64 | 5 => 5 | 9 => 9 | 218 => 169 | 222 => 103 | 228 => 175 | 229 => 150 | n => n, fun | n => n⟩
theorem Tryz.lays189 : Go.Proofs.Lays.n189 Tryz.prog Tryz.lays189_ren := {
  mixed := by kernel_rfl
  f125 := Tryz.func111.trans (congrArg some (by kernel_rfl))
  f128 := Tryz.func129.trans (congrArg some (by kernel_rfl))
  f129 := Tryz.func130.trans (congrArg some (by kernel_rfl))
  f189 := Tryz.func85.trans (congrArg some (by kernel_rfl))
  f215 := Tryz.func71.trans (congrArg some (by kernel_rfl))
  f216 := Tryz.func108.trans (congrArg some (by kernel_rfl))
  f257 := Tryz.func113.trans (congrArg some (by kernel_rfl))
  f294 := Tryz.func131.trans (congrArg some (by kernel_rfl))
  f295 := Tryz.func132.trans (congrArg some (by kernel_rfl))
  f296 := Tryz.func133.trans (congrArg some (by kernel_rfl))
  f297 := Tryz.func134.trans (congrArg some (by kernel_rfl))
  f298 := Tryz.func135.trans (congrArg some (by kernel_rfl))
  f299 := Tryz.func136.trans (congrArg some (by kernel_rfl))
  f300 := Tryz.func137.trans (congrArg some (by kernel_rfl))
  f301 := Tryz.func138.trans (congrArg some (by kernel_rfl))
  f328 := Tryz.func145.trans (congrArg some (by kernel_rfl))
  f329 := Tryz.func141.trans (congrArg some (by kernel_rfl))
  f330 := Tryz.func142.trans (congrArg some (by kernel_rfl))
  f331 := Tryz.func146.trans (congrArg some (by kernel_rfl))
  f332 := Tryz.func147.trans (congrArg some (by kernel_rfl))
  f343 := Tryz.func149.trans (congrArg some (by kernel_rfl))
  t0 := Tryz.underlying0
  a0 := Tryz.isAgg0
  z0 := Tryz.sizeOf0
  v0 := Tryz.zeroValue0
  t3 := Tryz.underlying3
  a3 := Tryz.isAgg3
  z3 := Tryz.sizeOf3
  v3 := Tryz.zeroValue3
  t4 := Tryz.underlying4
  a4 := Tryz.isAgg4
  z4 := Tryz.sizeOf4
  v4 := Tryz.zeroValue4
  t5 := Tryz.underlying5
  a5 := Tryz.isAgg5
  z5 := Tryz.sizeOf5
  v5 := Tryz.zeroValue5
  t9 := Tryz.underlying9
  a9 := Tryz.isAgg9
  z9 := Tryz.sizeOf9
  v9 := Tryz.zeroValue9
  t28 := Tryz.underlying38
  a28 := Tryz.isAgg38
  z28 := Tryz.sizeOf38
  v28 := Tryz.zeroValue38
  t46 := Tryz.underlying108
  a46 := Tryz.isAgg108
  z46 := Tryz.sizeOf108
  v46 := Tryz.zeroValue108
  t51 := Tryz.underlying160
  a51 := Tryz.isAgg160
  z51 := Tryz.sizeOf160
  v51 := Tryz.zeroValue160
  t53 := Tryz.underlying162
  a53 := Tryz.isAgg162
  z53 := Tryz.sizeOf162
  v53 := Tryz.zeroValue162
  t131 := Tryz.underlying64
  a131 := Tryz.isAgg64
  z131 := Tryz.sizeOf64
  v131 := Tryz.zeroValue64
  t182 := Tryz.underlying153
  a182 := Tryz.isAgg153
  z182 := Tryz.sizeOf153
  v182 := Tryz.zeroValue153
  t183 := Tryz.underlying154
  a183 := Tryz.isAgg154
  z183 := Tryz.sizeOf154
  v183 := Tryz.zeroValue154
  t218 := Tryz.underlying169
  a218 := Tryz.isAgg169
  z218 := Tryz.sizeOf169
  v218 := Tryz.zeroValue169
  t222 := Tryz.underlying103
  a222 := Tryz.isAgg103
  z222 := Tryz.sizeOf103
  v222 := Tryz.zeroValue103
  t228 := Tryz.underlying175
  a228 := Tryz.isAgg175
  z228 := Tryz.sizeOf175
  v228 := Tryz.zeroValue175
  t229 := Tryz.underlying150
  a229 := Tryz.isAgg150
  z229 := Tryz.sizeOf150
  v229 := Tryz.zeroValue150 }
open Go.Sort Go.RowKit in
theorem Tryz.slices_Sort_int (blk off cap : Nat) (zs : List Int) (w : World) (hH : Holds (Value.int .i64) w blk off zs.toArray) (hblk : blk < w.heap.size) (hsz : zs.length < 4611686018427387904) :
    Calls Tryz.prog 85 #[.slice (some ⟨blk, off, none⟩) zs.length cap] w fun e w' =>
      e = .returned (.tuple #[]) ∧ ∃ n os, w' = grow (putRow (Value.int .i64) (Sort.ahead w n) blk off (zs.mergeSort fun x y => decide (x ≤ y)).toArray) os := Any.slices_Sort_int Tryz.lays189 blk off cap zs w hH hblk hsz
def Tryz.laysNm220_ren : Go.Shelf.Ren := ⟨fun | 20 => 86 | n => n, fun | 22 => 38 | 3 => 3 | 4 => 4 | 0 => 0 | n => n, fun | n => n⟩
theorem Tryz.laysNm220 : Go.Proofs.Lays2.n20 Tryz.prog Tryz.laysNm220_ren := {
  mixed := by kernel_rfl
  f20 := Tryz.func86.trans (congrArg some (by kernel_rfl))
  t0 := Tryz.underlying0
  a0 := Tryz.isAgg0
  z0 := Tryz.sizeOf0
  v0 := Tryz.zeroValue0
  t3 := Tryz.underlying3
  a3 := Tryz.isAgg3
  z3 := Tryz.sizeOf3
  v3 := Tryz.zeroValue3
  t4 := Tryz.underlying4
  a4 := Tryz.isAgg4
  z4 := Tryz.sizeOf4
  v4 := Tryz.zeroValue4
  t22 := Tryz.underlying38
  a22 := Tryz.isAgg38
  z22 := Tryz.sizeOf38
  v22 := Tryz.zeroValue38
  i3 := by kernel_rfl }
open Go.RowKit Go.Lib Go.Sort in
theorem Tryz.slices_Compact_int (blk off cap : Nat) (zs : List Int) (w : World) (hH : Holds (Value.int .i64) w blk off zs.toArray) (hsz : zs.length ≤ 9223372036854775807) (hcap : zs.length ≤ cap) :
    Calls Tryz.prog 86 #[.slice (some ⟨blk, off, none⟩) zs.length cap] w fun e w' => e = .returned (.slice (some ⟨blk, off, none⟩) (Lib.compact zs).length cap) ∧ ∃ q, w' = putRow (Value.int .i64) (Sort.ahead w q) blk off (Lib.compact zs ++ List.replicate (zs.length - (Lib.compact zs).length) 0).toArray := Any.slices_Compact_int Tryz.laysNm220 blk off cap zs w hH hsz hcap
open Go.RowKit Go.Lib Go.Sort in
theorem Tryz.slices_Compact_int_empty (a : Option Addr) (cap : Nat) (w : World) :
    Calls Tryz.prog 86 #[.slice a 0 cap] w fun e w' => e = .returned (.slice a 0 cap) ∧ w' = w := Any.slices_Compact_int_empty Tryz.laysNm220 a cap w
open Go.RowKit Go.Sort in
theorem Tryz.slices_Sort_int_none (p : Option Addr) (cap : Nat) (w : World) :
    Calls Tryz.prog 85 #[.slice p 0 cap] w fun e w' => e = .returned (.tuple #[]) ∧ w' = w := Any.slices_Sort_int_none Tryz.lays189 p cap w
def Tryz.laysSlF06_f81_ren : Go.Shelf.Ren := ⟨fun | 6 => 81 | 15 => 111 | 14 => 110 | 28 => 129 | 29 => 130 | 20 => 121 | 21 => 122 | 22 => 123 | 23 => 124 | 24 => 125 | 25 => 126 | 26 => 127 | 27 => 128 | 46 => 140 | 47 => 141 | 48 => 142 | 49 => 143 | 50 => 144 | 57 => 148 | n => n, fun | 22 => 22 | 24 => 26 | 25 => 67 | 3 => 3 | 39 => 108 | 0 => 0 | 53 => 160 | 55 => 162 | 4 => 4 | 46 => 154 | 45 => 153 | 50 => 64 | 5 => 5 | 9 => 9 | 66 => 169 | 70 => 103 | 76 => 175 | 77 => 150 | n => n, fun | n => n⟩
theorem Tryz.laysSlF06_f81 : Go.Proofs.SlLaysF0.n6 Tryz.prog Tryz.laysSlF06_f81_ren := {
  mixed := by kernel_rfl
  f6 := ⟨Tryz.f81.name, by decide, Tryz.func81.trans (congrArg some (by kernel_rfl))⟩
  f14 := ⟨Tryz.f110.name, by decide, Tryz.func110.trans (congrArg some (by kernel_rfl))⟩
  f15 := Tryz.func111.trans (congrArg some (by kernel_rfl))
  f20 := ⟨Tryz.f121.name, by decide, Tryz.func121.trans (congrArg some (by kernel_rfl))⟩
  f21 := ⟨Tryz.f122.name, by decide, Tryz.func122.trans (congrArg some (by kernel_rfl))⟩
  f22 := ⟨Tryz.f123.name, by decide, Tryz.func123.trans (congrArg some (by kernel_rfl))⟩
  f23 := ⟨Tryz.f124.name, by decide, Tryz.func124.trans (congrArg some (by kernel_rfl))⟩
  f24 := ⟨Tryz.f125.name, by decide, Tryz.func125.trans (congrArg some (by kernel_rfl))⟩
  f25 := ⟨Tryz.f126.name, by decide, Tryz.func126.trans (congrArg some (by kernel_rfl))⟩
  f26 := ⟨Tryz.f127.name, by decide, Tryz.func127.trans (congrArg some (by kernel_rfl))⟩
  f27 := ⟨Tryz.f128.name, by decide, Tryz.func128.trans (congrArg some (by kernel_rfl))⟩
  f28 := Tryz.func129.trans (congrArg some (by kernel_rfl))
  f29 := Tryz.func130.trans (congrArg some (by kernel_rfl))
  f46 := ⟨Tryz.f140.name, by decide, Tryz.func140.trans (congrArg some (by kernel_rfl))⟩
  f47 := Tryz.func141.trans (congrArg some (by kernel_rfl))
  f48 := Tryz.func142.trans (congrArg some (by kernel_rfl))
  f49 := ⟨Tryz.f143.name, by decide, Tryz.func143.trans (congrArg some (by kernel_rfl))⟩
  f50 := ⟨Tryz.f144.name, by decide, Tryz.func144.trans (congrArg some (by kernel_rfl))⟩
  f57 := ⟨Tryz.f148.name, by decide, Tryz.func148.trans (congrArg some (by kernel_rfl))⟩
  t0 := Tryz.underlying0
  a0 := Tryz.isAgg0
  z0 := Tryz.sizeOf0
  v0 := Tryz.zeroValue0
  t3 := Tryz.underlying3
  a3 := Tryz.isAgg3
  z3 := Tryz.sizeOf3
  v3 := Tryz.zeroValue3
  t4 := Tryz.underlying4
  a4 := Tryz.isAgg4
  z4 := Tryz.sizeOf4
  v4 := Tryz.zeroValue4
  t5 := Tryz.underlying5
  a5 := Tryz.isAgg5
  z5 := Tryz.sizeOf5
  v5 := Tryz.zeroValue5
  t9 := Tryz.underlying9
  a9 := Tryz.isAgg9
  z9 := Tryz.sizeOf9
  v9 := Tryz.zeroValue9
  t22 := Tryz.underlying22
  a22 := Tryz.isAgg22
  z22 := Tryz.sizeOf22
  v22 := Tryz.zeroValue22
  t25 := Tryz.underlying67
  a25 := Tryz.isAgg67
  z25 := Tryz.sizeOf67
  v25 := Tryz.zeroValue67
  t39 := Tryz.underlying108
  a39 := Tryz.isAgg108
  z39 := Tryz.sizeOf108
  v39 := Tryz.zeroValue108
  t45 := Tryz.underlying153
  a45 := Tryz.isAgg153
  z45 := Tryz.sizeOf153
  v45 := Tryz.zeroValue153
  t46 := Tryz.underlying154
  a46 := Tryz.isAgg154
  z46 := Tryz.sizeOf154
  v46 := Tryz.zeroValue154
  t50 := Tryz.underlying64
  a50 := Tryz.isAgg64
  z50 := Tryz.sizeOf64
  v50 := Tryz.zeroValue64
  t53 := Tryz.underlying160
  a53 := Tryz.isAgg160
  z53 := Tryz.sizeOf160
  v53 := Tryz.zeroValue160
  t55 := Tryz.underlying162
  a55 := Tryz.isAgg162
  z55 := Tryz.sizeOf162
  v55 := Tryz.zeroValue162
  t66 := Tryz.underlying169
  a66 := Tryz.isAgg169
  z66 := Tryz.sizeOf169
  v66 := Tryz.zeroValue169
  t70 := Tryz.underlying103
  a70 := Tryz.isAgg103
  z70 := Tryz.sizeOf103
  v70 := Tryz.zeroValue103
  t76 := Tryz.underlying175
  a76 := Tryz.isAgg175
  z76 := Tryz.sizeOf175
  v76 := Tryz.zeroValue175
  t77 := Tryz.underlying150
  a77 := Tryz.isAgg150
  z77 := Tryz.sizeOf150
  v77 := Tryz.zeroValue150 }
open Go.RowKit Go.Lib Go.Sort in
theorem Tryz.slices_SortFunc {α : Type} [Inhabited α] (k : Nat) (aE : ∀ w, (isAgg (Tryz.laysSlF06_f81_ren.t 24)).run Tryz.prog w = .ok true w) (zE : ∀ w, (Go.sizeOf (Tryz.laysSlF06_f81_ren.t 24)).run Tryz.prog w = .ok k w) (enc : α → List Value) (hk : ∀ x, (enc x).length = k) (h1 : ∀ x, ∀ v ∈ enc x, v.oneCell' = true) (cf : α → α → Int) (hO : SWO (ltOf cf)) (g : Nat) (cb : Array Value) (blk off cap : Nat) (d : Array α) (w : World) (eg : ∀ args w, (callFunc g args).run Tryz.prog w = .ok (.enter g args) w) (hcmp : CmpLays Tryz.prog g cb enc k cf blk off d.size w) (hH : HoldsK enc k w blk off d) (hblk : blk < w.heap.size) (hsz : d.size < 4611686018427387904) :
    Calls Tryz.prog 81 #[.slice (some ⟨blk, off, none⟩) d.size cap, .func (.func g) #[] cb] w fun e w' =>
      e = .returned (.tuple #[]) ∧ ∃ d' n os, PermIn 0 d.size d d' ∧ SortedIn (ltOf cf) 0 d.size d' ∧ w' = sortWorldK enc k w blk off n d' os := AnyQ.slices_SortFunc Tryz.laysSlF06_f81 k aE zE enc hk h1 cf hO g cb blk off cap d w eg hcmp hH hblk hsz
open Go.RowKit Go.Lib Go.Sort in
theorem Tryz.slices_SortFunc_none {α : Type} [Inhabited α] (p : Option Addr) (cap : Nat) (fv : Value) (w : World) :
    Calls Tryz.prog 81 #[.slice p 0 cap, fv] w fun e w' => e = .returned (.tuple #[]) ∧ w' = w := AnyF.slices_SortFunc_none Tryz.laysSlF06_f81 p cap fv w
end Go.Proofs
end
section
namespace Go.Proofs.YtoicbikdenlioaaGreat
open Go Go.Kn Go.Proofs
theorem w_sort (e : Nat) (zs : List Int) {v : Value} {n : Nat} {L : Go.Kn.Loc} (hO : OwnS e 1 v n (zs.map (Value.int .i64)) L) (hn : n ≤ 1000000) (I : HMap) :
  RetM Tryz.prog 85 [v] I L (fun u I' L' => u = .tuple #[] ∧ I' = I ∧ OwnS e 1 v n ((sortI zs).map (Value.int .i64)) L') :=
 retSort Tryz.slices_Sort_int Tryz.slices_Sort_int_none zs hO hn I
theorem w_compact (e : Nat) (zs : List Int) {v : Value} {n : Nat} {L : Go.Kn.Loc} (hO : OwnS e 1 v n (zs.map (Value.int .i64)) L) (hn : n ≤ 1000000) (I : HMap) :
  RetM Tryz.prog 86 [v] I L (fun u I' L' => I' = I ∧ OwnS e 1 u (Lib.compact zs).length ((Lib.compact zs).map (Value.int .i64)) L') :=
 retCompact Lib.compact Lib.compact_length_le rfl Tryz.slices_Compact_int Tryz.slices_Compact_int_empty zs hO hn I
theorem w_cmpG (I : HMap) (x y : Sg) : RetV Tryz.prog 82 [encGA x, encGA y] I (.int .i64 (cmpG x y)) := by
 intro g H w hw
 refine enter Tryz.func82 rfl Tryz.ntmps82 rfl hw ?_
 refine zR ?_
 refine XO_box rfl rfl rfl (fun b_2 => ?_)
 refine XO_box rfl rfl rfl (fun b_3 => ?_)
 refine zA ?_
 refine zN (zR ?_)
 refine zF fld_26_0 ?_
 refine zL sct_3 ?_
 refine zF fld_26_0 ?_
 refine zL sct_3 ?_
 refine XO_callV0 (cap := []) (vs := [_, _]) rfl rfl fun_20 (w_cmp I _ _) rfl rfl ?_
 refine zA ?_
 refine zN ?_
 refine X_ret ?_
 exact at_ret1 rfl rfl (fun w hw => ⟨by rfl, hw.drop⟩)
theorem w_sortG (e : Nat) (zs : List Sg) {v : Value} {n : Nat} {L : Go.Kn.Loc} (hO : OwnS e 14 v n (zs.flatMap encG) L) (hn : n ≤ 1000000) (I : HMap) :
  RetM Tryz.prog 81 [v, .func (.func 82) #[] #[]] I L (fun u I' L' => u = .tuple #[] ∧ I' = I ∧ ∃ zs' : List Sg, zs'.Perm zs ∧ zs'.Pairwise (fun x y => Go.Proofs.ltOf cmpG y x = false) ∧ OwnS e 14 v n (zs'.flatMap encG) L') :=
 retSortK encG_len (by decide) (fun blk off cap d w hC hH hb hs => Tryz.slices_SortFunc 14 (fun w => run_isAgg_ag agt_26) (fun w => by obtain ⟨i, hi, hz⟩ := szt_26; rw [← hz]; exact Go.Kn.run_sizeOf hi) encG encG_len (fun x => allOne_iff (by rfl)) cmpG swoG 82 #[] blk off cap d w (fun args w => run_callFunc fun_82 args w) hC hH hb hs)
  (Tryz.slices_SortFunc_none (α := Sg)) (fun I x y => w_cmpG I x y) zs hO hn I
theorem w_nan2 (I : HMap) (x : Int) : RetV Tryz.prog 109 [.int .i64 x] I (.bool false) := by
 intro g H w hw
 refine enter Tryz.func109 rfl Tryz.ntmps109 rfl hw ?_
 refine zR ?_
 refine zA ?_
 refine zN (zR ?_)
 refine zM ?_
 refine zM ?_
 refine zC ?_
 refine zA ?_
 refine zN ?_
 refine X_ret ?_
 exact at_ret1 rfl rfl (fun w hw => ⟨by simp, hw.drop⟩)
theorem w_less (I : HMap) (x y : Int) : RetV Tryz.prog 108 [.int .i64 x, .int .i64 y] I (.bool (decide (x < y))) := by
 intro g H w hw
 refine enter Tryz.func108 rfl Tryz.ntmps108 rfl hw ?_
 refine zR ?_
 refine zA ?_
 refine zN (zR ?_)
 refine zM ?_
 refine XO_callV0 (cap := []) (vs := [_]) rfl rfl fun_71 (w_nan I _) rfl rfl ?_
 refine zM ?_
 refine XO_pushT 2 rfl rfl rfl ?_
 refine zK (ev_move rfl) ?_
 refine XO_callV1 (cap := []) (vs := [_]) rfl rfl fun_71 (fun hg => w_nan I _) (.some rfl rfl rfl rfl gbt) rfl rfl ?_
 refine zK (ev_not rfl) ?_
 refine XO_and0 rfl rfl rfl rfl rfl ?_
 refine zM ?_
 refine XO_pushF 7 rfl rfl rfl ?_
 refine zJ (ev_move rfl) ?_
 refine zJ (ev_move rfl) ?_
 refine zJ (ev_cmp rfl rfl rfl) ?_
 refine XO_or0 rfl rfl rfl rfl rfl ?_
 refine zA ?_
 refine zN ?_
 refine X_ret ?_
 exact at_ret1 rfl rfl (fun w hw => ⟨by rfl, hw.drop⟩)
theorem w_bsI {I : HMap} {av : Option Addr} {n c : Nat} {xs : List Int} (hS : Sl I 1 encI av n c xs) (hn : n ≤ 100000) (hs : xs.Pairwise (· < ·)) (t : Int) : RetV Tryz.prog 80 [.slice av n c, .int .i64 t] I (.tuple #[.int .i64 (lowK (fun x : Int => x) xs t : Nat), .bool (xs.any fun x => x == t)]) := by
 intro g H w hw
 refine enter Tryz.func80 rfl Tryz.ntmps80 rfl hw ?_
 refine zR ?_
 refine zA ?_
 refine zA ?_
 refine zN (zR ?_)
 refine zM ?_
 refine zQ slt_38 ?_
 refine zA ?_
 refine zN (zR ?_)
 refine zM ?_
 refine zA ?_
 refine zA ?_
 refine zN ?_
 refine X_seq ?_
 refine X_block ?_
 refine X_loopT [(0, _), (1, _), (6, _)] (.cons rfl (.cons rfl (.cons rfl .nil))) (fun T L0 mz E I' loc' => ∃ (i j : Nat), mz = j - i ∧ E = (7, .int .i64 i) :: (8, .int .i64 j) :: T ∧ I = I' ∧ L0 = loc' ∧ i ≤ j ∧ j ≤ n ∧ (∀ q z, q < i → xs[q]? = some z → z < t) ∧ ∀ q z, j ≤ q → xs[q]? = some z → ¬ z < t) _ _ _ _ ⟨0, n, rfl, rfl, rfl, rfl, Nat.zero_le _, Nat.le_refl _, fun q z h => absurd h (by omega), fun q z h1 h2 => by have := (List.getElem?_eq_some_iff.1 h2).1; rw [hS.len] at this; omega⟩ (.cons rfl (.cons rfl (.cons rfl (.cons rfl (.cons rfl .nil))))) (HLe.refl _) rfl ?_
 rintro mz E I' loc' ⟨i, j, rfl, rfl, rfl, rfl, hij, hjn, hlo, hhi⟩
 refine X_seq ?_
 refine zR ?_
 refine zM ?_
 refine zM ?_
 refine zC ?_
 refine zN ?_
 refine zI ?_ ?_ <;> intro hc15
 ·
  have hlt : i < j := by have h := hc15; simp at h; omega
  obtain ⟨y, hy⟩ := hS.at (k := (i + j) / 2) (by omega)
  refine X_skip ?_
  refine at_then ?_
  refine X_block ?_
  refine zR ?_
  refine zM ?_
  refine zM ?_
  refine zV (ev_arB rfl rfl rfl (fun _ => by omega)) ?_
  refine zV (ev_convI rfl cvt_3_108) ?_
  refine zV (ev_shr rfl rfl (by decide) (rfl : min _ _ = 1)) ?_
  refine zV (ev_convI rfl cvt_108_3) ?_
  refine zA ?_
  refine XO_nil ?_
  rw [half_eq i j (by omega)]
  refine at_then ?_
  refine zR ?_
  refine zM ?_
  refine zM ?_
  refine zV (ev_indexSl rfl rfl slt_38 (by assumption) (fun hg => by omega)) ?_
  refine zV (ev_load rfl sct_3 (fun hg => by exact Sl.get0 (k := (i + j) / 2) hS hy rfl)) ?_
  refine zM ?_
  refine XO_callV0 (cap := []) (vs := [_, _]) rfl rfl fun_108 (w_less I _ _) rfl rfl ?_
  refine zN ?_
  refine zI ?_ ?_ <;> intro hc27
  ·
   refine X_region ?_
   refine zM ?_
   refine zV (ev_arB rfl rfl rfl (fun _ => by omega)) ?_
   refine zA ?_
   refine XO_nil ?_
   refine at_block_n ?_
   exact at_met2 _ _ ⟨j - ((i + j) / 2 + 1), by omega, (i + j) / 2 + 1, j, rfl, rfl, rfl, rfl, by omega, hjn, bs_lo (key := fun x : Int => x) hs hy (by simpa using hc27), hhi⟩ (.cons rfl (.cons rfl (.cons rfl (.cons rfl (.cons rfl .nil))))) (by repeat (first | exact .refl | exact subL_left | refine subL_app ?_ | refine .drop ?_ | refine subL_add ?_))
  refine X_region ?_
  refine zM ?_
  refine zA ?_
  refine XO_nil ?_
  refine at_block_n ?_
  exact at_met2 _ _ ⟨(i + j) / 2 - i, by omega, i, (i + j) / 2, rfl, rfl, rfl, rfl, by omega, by omega, hlo, bs_hi (key := fun x : Int => x) hs hy (by simpa using hc27)⟩ (.cons rfl (.cons rfl (.cons rfl (.cons rfl (.cons rfl .nil))))) (by repeat (first | exact .refl | exact subL_left | refine subL_app ?_ | refine .drop ?_ | refine subL_add ?_))
 have hge : j ≤ i := by have h := hc15; simp at h; omega
 have hje : j = i := by omega
 subst hje
 refine X_exit ?_
 refine at_then_e ?_
 refine at_then_e ?_
 refine at_block_hit ?_
 refine at_then ?_
 refine zR ?_
 refine zM ?_
 refine zM ?_
 refine zM ?_
 refine zC ?_
 refine zM ?_
 refine XO_pushT 4 rfl rfl rfl ?_
 refine zK (ev_move rfl) ?_
 refine zK (ev_move rfl) ?_
 refine zK (ev_indexSl rfl rfl slt_38 (by assumption) (fun hg => by (simp [conj] at hg; omega))) ?_
 refine zK (ev_load rfl sct_3 (fun hg => by exact Sl.getD0 (k := j) (d := 0) hS (by simp [conj] at hg; omega) rfl)) ?_
 refine zK (ev_move rfl) ?_
 refine zK (ev_cmp rfl rfl rfl) ?_
 refine zK (ev_move rfl) ?_
 refine XO_pushF 11 rfl rfl rfl ?_
 refine zJ (ev_move rfl) ?_
 refine zJ (ev_move rfl) ?_
 refine zJ (ev_indexSl rfl rfl slt_38 (by assumption) (fun hg => by (simp [conj] at hg; omega))) ?_
 refine zJ (ev_load rfl sct_3 (fun hg => by exact Sl.getD0 (k := j) (d := 0) hS (by simp [conj] at hg; omega) rfl)) ?_
 refine XO_callV1 (cap := []) (vs := [_]) rfl rfl fun_109 (fun hg => w_nan2 I _) (.some rfl rfl rfl rfl gbf) rfl rfl ?_
 refine zJ (ev_move rfl) ?_
 refine XO_pushT 17 rfl rfl rfl ?_
 refine zK (ev_move rfl) ?_
 refine XO_callV1 (cap := []) (vs := [_]) rfl rfl fun_109 (fun hg => w_nan2 I _) (.some rfl rfl rfl rfl gbt) rfl rfl ?_
 refine XO_and1 rfl rfl rfl (.some rfl rfl rfl rfl gbf) rfl rfl ?_
 refine XO_or1 rfl rfl rfl (.some rfl rfl rfl rfl gbt) rfl rfl ?_
 refine XO_and0 rfl rfl rfl rfl rfl ?_
 refine zA ?_
 refine zA ?_
 refine zN ?_
 refine X_ret ?_
 exact at_ret2 rfl rfl rfl (fun w hw => ⟨by rw [← found_at (key := fun x : Int => x) (d := 0) hS.len hlo hhi hs, low_at (key := fun x : Int => x) (by rw [hS.len]; omega) hlo hhi]; simp, hw.drop⟩)
theorem w_atc (I : HMap) (x : Sg) (id : Int) (hx : 0 ≤ x.id ∧ x.id ≤ 1048576) (hi : 0 ≤ id ∧ id ≤ 1048576) : RetV Tryz.prog 116 [encGA x, .int .i64 id] I (.int .i64 (x.id - id)) := by
 intro g H w hw
 refine enter Tryz.func116 rfl Tryz.ntmps116 rfl hw ?_
 refine zR ?_
 refine XO_box rfl rfl rfl (fun b_2 => ?_)
 refine zA ?_
 refine zN (zR ?_)
 refine zF fld_26_0 ?_
 refine zL sct_3 ?_
 refine zM ?_
 refine zV (ev_arB rfl rfl rfl (fun _ => by (show -9223372036854775808 ≤ x.id - id ∧ x.id - id ≤ 9223372036854775807; omega))) ?_
 refine zA ?_
 refine zN ?_
 refine X_ret ?_
 exact at_ret1 rfl rfl (fun w hw => ⟨by rfl, hw.drop⟩)
theorem w_bsG {I : HMap} {av : Option Addr} {n c : Nat} {xs : List Sg} (hS : Sl I 14 encG av n c xs) (hn : n ≤ 100000) (hs : Srt xs) (hx : ∀ x ∈ xs, 0 ≤ x.id ∧ x.id ≤ 1048576) (t : Int) (ht : 0 ≤ t ∧ t ≤ 1048576) : RetV Tryz.prog 115 [.slice av n c, .int .i64 t, .func (.func 116) #[] #[]] I (.tuple #[.int .i64 (lowK Sg.id xs t : Nat), .bool (hasS xs t)]) := by
 intro g H w hw
 refine enter Tryz.func115 rfl Tryz.ntmps115 rfl hw ?_
 refine zR ?_
 refine zA ?_
 refine zA ?_
 refine zN (zR ?_)
 refine zM ?_
 refine zQ slt_22 ?_
 refine zA ?_
 refine zN (zR ?_)
 refine zM ?_
 refine zA ?_
 refine zA ?_
 refine zN ?_
 refine X_seq ?_
 refine X_block ?_
 refine X_loopT [(0, _), (1, _), (2, _), (8, _)] (.cons rfl (.cons rfl (.cons rfl (.cons rfl .nil)))) (fun T L0 mz E I' loc' => ∃ (i j : Nat), mz = j - i ∧ E = (9, .int .i64 i) :: (10, .int .i64 j) :: T ∧ I = I' ∧ L0 = loc' ∧ i ≤ j ∧ j ≤ n ∧ (∀ q z, q < i → xs[q]? = some z → z.id < t) ∧ ∀ q z, j ≤ q → xs[q]? = some z → ¬ z.id < t) _ _ _ _ ⟨0, n, rfl, rfl, rfl, rfl, Nat.zero_le _, Nat.le_refl _, fun q z h => absurd h (by omega), fun q z h1 h2 => by have := (List.getElem?_eq_some_iff.1 h2).1; rw [hS.len] at this; omega⟩ (.cons rfl (.cons rfl (.cons rfl (.cons rfl (.cons rfl (.cons rfl .nil)))))) (HLe.refl _) rfl ?_
 rintro mz E I' loc' ⟨i, j, rfl, rfl, rfl, rfl, hij, hjn, hlo, hhi⟩
 refine X_seq ?_
 refine zR ?_
 refine zM ?_
 refine zM ?_
 refine zC ?_
 refine zN ?_
 refine zI ?_ ?_ <;> intro hc17
 ·
  have hlt : i < j := by have h := hc17; simp at h; omega
  obtain ⟨y, hy⟩ := hS.at (k := (i + j) / 2) (by omega)
  refine X_skip ?_
  refine at_then ?_
  refine X_block ?_
  refine zR ?_
  refine zM ?_
  refine zM ?_
  refine zV (ev_arB rfl rfl rfl (fun _ => by omega)) ?_
  refine zV (ev_convI rfl cvt_3_108) ?_
  refine zV (ev_shr rfl rfl (by decide) (rfl : min _ _ = 1)) ?_
  refine zV (ev_convI rfl cvt_108_3) ?_
  refine zA ?_
  refine XO_nil ?_
  rw [half_eq i j (by omega)]
  refine at_then ?_
  refine zR ?_
  refine zM ?_
  refine zM ?_
  refine zM ?_
  refine zV (ev_indexSl rfl rfl slt_22 (by assumption) (fun hg => by omega)) ?_
  refine zV (ev_loadA rfl agt_26 (fun hg => by exact Sl.getA (k := (i + j) / 2) hS hy) rfl) ?_
  refine zM ?_
  refine XO_callV0 (cap := []) (vs := [_, _]) rfl rfl fun_116 (w_atc I _ _ (hx y (List.mem_of_getElem? hy)) ht) rfl rfl ?_
  refine zC ?_
  refine zN ?_
  refine zI ?_ ?_ <;> intro hc31
  ·
   refine X_region ?_
   refine zM ?_
   refine zV (ev_arB rfl rfl rfl (fun _ => by omega)) ?_
   refine zA ?_
   refine XO_nil ?_
   refine at_block_n ?_
   first
   | exact at_met2 _ _ ⟨j - ((i + j) / 2 + 1), by omega, (i + j) / 2 + 1, j, rfl, rfl, rfl, rfl, by omega, hjn, bs_lo (key := Sg.id) hs hy (by simp at hc31; omega), hhi⟩ (.cons rfl (.cons rfl (.cons rfl (.cons rfl (.cons rfl (.cons rfl .nil)))))) (by repeat (first | exact .refl | exact subL_left | refine subL_app ?_ | refine .drop ?_ | refine subL_add ?_))
  refine X_region ?_
  refine zM ?_
  refine zA ?_
  refine XO_nil ?_
  refine at_block_n ?_
  first
  | exact at_met2 _ _ ⟨(i + j) / 2 - i, by omega, i, (i + j) / 2, rfl, rfl, rfl, rfl, by omega, by omega, hlo, bs_hi (key := Sg.id) hs hy (by simp at hc31; omega)⟩ (.cons rfl (.cons rfl (.cons rfl (.cons rfl (.cons rfl (.cons rfl .nil)))))) (by repeat (first | exact .refl | exact subL_left | refine subL_app ?_ | refine .drop ?_ | refine subL_add ?_))
 have hge : j ≤ i := by have h := hc17; simp at h; omega
 have hje : j = i := by omega
 subst hje
 refine X_exit ?_
 refine at_then_e ?_
 refine at_then_e ?_
 refine at_block_hit ?_
 refine at_then ?_
 refine zR ?_
 refine zM ?_
 refine zM ?_
 refine zM ?_
 refine zC ?_
 refine zM ?_
 refine XO_pushT 4 rfl rfl rfl ?_
 refine zK (ev_move rfl) ?_
 refine zK (ev_move rfl) ?_
 refine zK (ev_move rfl) ?_
 refine zK (ev_indexSl rfl rfl slt_22 (by assumption) (fun hg => by (simp [conj] at hg; omega))) ?_
 refine zK (ev_loadA rfl agt_26 (fun hg => by exact Sl.getA (k := j) hS (some_getD (d := zeroG) hS.len (by simp [conj] at hg; omega))) rfl) ?_
 refine zK (ev_move rfl) ?_
 refine XO_callV1 (cap := []) (vs := [_, _]) rfl rfl fun_116 (fun hg => w_atc I _ _ (hx _ (List.mem_of_getElem? (some_getD (d := zeroG) hS.len (by simp [conj] at hg; omega)))) ht) (.some rfl rfl rfl rfl gbt) rfl rfl ?_
 refine zK (ev_cmp rfl rfl rfl) ?_
 refine XO_and0 rfl rfl rfl rfl rfl ?_
 refine zA ?_
 refine zA ?_
 refine zN ?_
 refine X_ret ?_
 exact at_ret2 rfl rfl rfl (fun w hw => ⟨by unfold hasS; rw [← found_at (key := Sg.id) (d := zeroG) hS.len hlo hhi hs, low_at (key := Sg.id) (by rw [hS.len]; omega) hlo hhi, sub_zero], hw.drop⟩)
theorem w_at {I : HMap} {av : Option Addr} {n c : Nat} {xs : List Sg} (hS : Sl I 14 encG av n c xs) (hn : n ≤ 100000) (hs : Srt xs) (hx : ∀ x ∈ xs, 0 ≤ x.id ∧ x.id ≤ 1048576) (t : Int) (ht : 0 ≤ t ∧ t ≤ 1048576) : RetV Tryz.prog 91 [.slice av n c, .int .i64 t] I (.tuple #[.int .i64 (lowK Sg.id xs t : Nat), .bool (hasS xs t)]) := by
 intro g H w hw
 refine enter Tryz.func91 rfl Tryz.ntmps91 rfl hw ?_
 refine zR ?_
 refine zA ?_
 refine zA ?_
 refine zN (zR ?_)
 refine zM ?_
 refine zM ?_
 refine XO_callV0 (cap := []) (vs := [_, _, _]) rfl rfl fun_115 (w_bsG hS hn hs hx t ht) rfl rfl ?_
 refine zE ?_
 refine zE ?_
 refine zA ?_
 refine zA ?_
 refine zN ?_
 refine X_ret ?_
 exact at_ret2 rfl rfl rfl (fun w hw => ⟨by rfl, hw.drop⟩)
theorem w_incr {I : HMap} {av : Option Addr} {n c : Nat} {xs : List Int} (hS : Sl I 1 encI av n c xs) (hn : n ≤ 100000) : RetV Tryz.prog 112 [.slice av n c] I (.bool (incB xs)) := by
 intro g H w hw
 refine enter Tryz.func112 rfl Tryz.ntmps112 rfl hw ?_
 refine zR ?_
 refine zA ?_
 refine zN ?_
 refine X_seq ?_
 refine zR ?_
 refine zA ?_
 refine zN ?_
 refine X_block ?_
 refine X_loopT [(0, _)] (.cons rfl .nil) (fun T L0 mz E I' loc' => ∃ (k : Nat), mz = (max n 1) - k ∧ E = (3, .int .i64 k) :: T ∧ I = I' ∧ L0 = loc' ∧ k ≤ (max n 1) ∧ 1 ≤ k ∧ (List.range k).all (incP xs) = true) _ _ _ _ ⟨1, rfl, rfl, rfl, rfl, by omega, Nat.le_refl _, incP_zero xs⟩ (.cons rfl (.cons rfl .nil)) (HLe.refl _) rfl ?_
 rintro mz E I' loc' ⟨k, rfl, rfl, rfl, rfl, hk, h1, hall⟩
 refine X_seq ?_
 refine zR ?_
 refine zM ?_
 refine zM ?_
 refine zQ slt_38 ?_
 refine zC ?_
 refine zN ?_
 refine zI ?_ ?_ <;> intro hc7
 ·
  have hlt_k : k < n := by have h := hc7; simp at h; omega
  obtain ⟨x, hx⟩ := hS.at hlt_k
  refine X_skip ?_
  refine at_then ?_
  refine X_seq ?_
  refine X_block ?_
  refine X_seq ?_
  refine X_draw mixed (by kernel_rfl) ?_
  refine XQ_v0 (ev_move rfl) rfl rfl rfl ?_
  refine XQ_v0 (ev_move rfl) rfl rfl rfl ?_
  refine XQ_v0 (ev_indexSl rfl rfl slt_38 (by assumption) (fun hg => by omega)) rfl rfl rfl ?_
  refine XQ_v0 (ev_load rfl sct_3 (fun hg => by exact Sl.get0 (k := k) hS hx rfl)) rfl rfl rfl ?_
  refine XQ_v0 (ev_move rfl) rfl rfl rfl ?_
  refine XQ_v0 (ev_move rfl) rfl rfl rfl ?_
  refine XQ_v0 (ev_arB rfl rfl rfl (fun _ => by omega)) rfl rfl rfl ?_
  refine XQ_v0 (ev_indexSl rfl rfl slt_38 (by assumption) (fun hg => by omega)) rfl rfl rfl ?_
  refine XQ_v0 (ev_load rfl sct_3 (fun hg => by exact Sl.getD0 (k := ((k : Int) - 1).toNat) (d := 0) hS (by omega) rfl)) rfl rfl rfl ?_
  refine XQ_v0 (ev_cmp rfl rfl rfl) rfl rfl rfl ?_
  refine XQ_nil ?_
  refine at_then ?_
  refine zI ?_ ?_ <;> intro hc19
  ·
   refine zR ?_
   refine zA ?_
   refine zN ?_
   refine X_ret ?_
   refine at_block_r ?_
   refine at_then_r ?_
   refine at_then_r ?_
   refine at_block_r ?_
   refine at_then_r ?_
   first
   | exact at_ret1 rfl rfl (fun w hw => ⟨by rw [incB_eq, range_bad (k := k) (by rw [hS.len]; exact hlt_k) (by rw [incP_at hx h1, hc19]; rfl)], hw.drop⟩)
  refine X_skip ?_
  refine at_block_n ?_
  refine at_then ?_
  refine X_region ?_
  refine zM ?_
  refine zV (ev_arB rfl rfl rfl (fun _ => by omega)) ?_
  refine zA ?_
  refine XO_nil ?_
  exact at_met2 _ _ ⟨(max n 1) - (k + 1), by omega, k + 1, rfl, rfl, rfl, rfl, by omega, by omega, range_step hall (by rw [incP_at hx h1, hc19]; rfl)⟩ (.cons rfl (.cons rfl .nil)) (by repeat (first | exact .refl | exact subL_left | refine subL_app ?_ | refine .drop ?_ | refine subL_add ?_))
 have hge_k : n ≤ k := by have h := hc7; simp at h; omega
 refine X_exit ?_
 refine at_then_e ?_
 refine at_then_e ?_
 refine at_block_hit ?_
 refine at_then ?_
 refine zR ?_
 refine zA ?_
 refine zN ?_
 refine X_ret ?_
 exact at_ret1 rfl rfl (fun w hw => ⟨by rw [incB_eq, hS.len, range_cut hall (show n ≤ k from hge_k)], hw.drop⟩)
theorem w_cloneI {I : HMap} {av : Option Addr} {n c : Nat} {xs : List Int} (hS : Sl I 1 encI av n c xs) (hn : n ≤ 400000) : RetM Tryz.prog 25 [.slice av n c] I [] (fun v I' L => I' = I ∧ OwnS 3 1 v n (xs.flatMap encI) L) := by
 intro g H w hw
 refine enter Tryz.func25 rfl Tryz.ntmps25 rfl hw ?_
 refine zR ?_
 refine zA ?_
 refine zN ?_
 refine X_seq ?_
 refine zR ?_
 refine zM ?_
 refine zV (ev_eqNil rfl rfl slt_38) ?_
 refine zN ?_
 refine zI ?_ ?_ <;> intro hc4
 ·
  have hn0 : n = 0 := Decidable.byContradiction fun h => by have := hS.base h; rw [this] at hc4; cases hc4
  have hl := hS.len
  subst hn0
  have hx0 := List.eq_nil_of_length_eq_zero hl
  subst hx0
  refine zR ?_
  refine zA ?_
  refine zN ?_
  refine X_ret ?_
  refine at_then_r ?_
  exact at_ret1 rfl rfl (fun w hw => ⟨_, I, _, rfl, HLe.refl _, hw, rfl, OwnS.nil⟩)
 refine X_skip ?_
 refine at_then ?_
 refine zR ?_
 refine XO_buildSlice (ps := []) (m := []) elt_38 rfl (.nil) rfl (by simp) (by decide) (by decide) rfl rfl (fun b_5 => ?_)
 refine zM ?_
 refine XO_append (v := _) (ys := xs.flatMap encI) (L := [(b_5, _)]) rfl rfl elt_38 OwnS.new (by repeat (first | exact .cons .here .nil | exact split_all | exact split_app | apply split_cons | apply split_skip)) (hS.src encI_len) (one_I _) (by omega) rfl rfl ?_
 intro v1 L1 hO1 _; rw [List.nil_append, Nat.zero_add] at hO1
 refine zA ?_
 refine zN ?_
 refine X_ret ?_
 exact at_ret1 rfl rfl (fun w hw => ⟨_, I, _, rfl, HLe.refl _, hw.subL subL_left, rfl, hO1⟩)
theorem w_cloneG {I : HMap} {av : Option Addr} {n c : Nat} {xs : List Sg} (hS : Sl I 14 encG av n c xs) (hn : n ≤ 400000) : RetM Tryz.prog 79 [.slice av n c] I [] (fun v I' L => I' = I ∧ OwnS 26 14 v n (xs.flatMap encG) L) := by
 intro g H w hw
 refine enter Tryz.func79 rfl Tryz.ntmps79 rfl hw ?_
 refine zR ?_
 refine zA ?_
 refine zN ?_
 refine X_seq ?_
 refine zR ?_
 refine zM ?_
 refine zV (ev_eqNil rfl rfl slt_22) ?_
 refine zN ?_
 refine zI ?_ ?_ <;> intro hc4
 ·
  have hn0 : n = 0 := Decidable.byContradiction fun h => by have := hS.base h; rw [this] at hc4; cases hc4
  have hl := hS.len
  subst hn0
  have hx0 := List.eq_nil_of_length_eq_zero hl
  subst hx0
  refine zR ?_
  refine zA ?_
  refine zN ?_
  refine X_ret ?_
  refine at_then_r ?_
  exact at_ret1 rfl rfl (fun w hw => ⟨_, I, _, rfl, HLe.refl _, hw, rfl, OwnS.nil⟩)
 refine X_skip ?_
 refine at_then ?_
 refine zR ?_
 refine XO_buildSlice (ps := []) (m := []) elt_22 rfl (.nil) rfl (by simp) (by decide) (by decide) rfl rfl (fun b_5 => ?_)
 refine zM ?_
 refine XO_append (v := _) (ys := xs.flatMap encG) (L := [(b_5, _)]) rfl rfl elt_22 OwnS.new (by repeat (first | exact .cons .here .nil | exact split_all | exact split_app | apply split_cons | apply split_skip)) (hS.src encG_len) (one_G _) (by omega) rfl rfl ?_
 intro v1 L1 hO1 _; rw [List.nil_append, Nat.zero_add] at hO1
 refine zA ?_
 refine zN ?_
 refine X_ret ?_
 exact at_ret1 rfl rfl (fun w hw => ⟨_, I, _, rfl, HLe.refl _, hw.subL subL_left, rfl, hO1⟩)
theorem w_union {I : HMap} {av : Option Addr} {n c : Nat} {xs : List Int} (hS : Sl I 1 encI av n c xs) (hn : n ≤ 400000) {bv : Option Addr} {n2 c2 : Nat} {ys : List Int} (hT : Sl I 1 encI bv n2 c2 ys) (hn2 : n2 ≤ 100000) : RetM Tryz.prog 33 [.slice av n c, .slice bv n2 c2] I [] (SlRes 1 encI (Lib.compact (sortI (xs ++ ys)))) := by
 intro g H w hw
 refine enter Tryz.func33 rfl Tryz.ntmps33 rfl hw ?_
 have hIc := HLe.refl I
 refine zR ?_
 refine zA ?_
 refine zN (zR ?_)
 refine zM ?_
 refine XO_callM (cap := []) (vs := [_]) rfl rfl fun_25 .nil (w_cloneI hS hn) rfl rfl ?_
 rintro vv1 I1 L1 hI1 ⟨rfl, hO⟩
 have hS := hS.mono hI1; have hT := hT.mono hI1; have hIc := hIc.trans hI1
 refine zM ?_
 refine XO_append (v := _) (ys := ys.flatMap encI) (L := _) rfl rfl elt_38 hO split_app (hT.src encI_len) (one_I _) (by omega) rfl rfl ?_
 intro v2 L2 hO2 _; rw [← List.flatMap_append, flat_int] at hO2
 refine zA ?_
 refine zN (zR ?_)
 refine zM ?_
 refine XO_callM (cap := []) (vs := [_]) rfl rfl fun_85 split_app (w_sort 3 (xs ++ ys) hO2 (by omega) _) rfl rfl ?_
 rintro vv2 I2 L2 hI2 ⟨rfl, rfl, hO3⟩
 have hS := hS.mono hI2; have hT := hT.mono hI2; have hIc := hIc.trans hI2
 refine zN (zR ?_)
 refine zM ?_
 refine XO_callM (cap := []) (vs := [_]) rfl rfl fun_86 split_app (w_compact 3 _ hO3 (by omega) _) rfl rfl ?_
 rintro vv3 I3 L3 hI3 ⟨rfl, hO4⟩
 have hS := hS.mono hI3; have hT := hT.mono hI3; have hIc := hIc.trans hI3
 refine zA ?_
 refine zN ?_
 refine X_ret ?_
 rw [← flat_int] at hO4
 exact at_ret1 rfl rfl (fun w hw => by obtain ⟨I9, h91, h92, h93⟩ := OwnS.res hO4 encI_len (by decide) (hw.subL (by exact subL_left)); exact ⟨_, I9, [], rfl, hIc.trans h91, h92, h93⟩)
end Go.Proofs.YtoicbikdenlioaaGreat
end
section
namespace Go.Proofs.YtoicbikdenlioaaGreat
open Go Go.Kn Go.Proofs
def refV (b : Nat) : Value := .map (some b)
/-- A set of numbers, each one true. -/
structure SetQ (s : List (Int × Bool)) (A : Int → Bool) : Prop where
  nodup : (s.map (·.1)).Nodup
  all : ∀ q ∈ s, q.2 = true
  mem : ∀ x, setM s x = A x
theorem SetQ.nil : SetQ [] (fun _ => false) := ⟨.nil, (fun q hq => by cases hq), fun _ => rfl⟩
theorem SetQ.put {s : List (Int × Bool)} {A : Int → Bool} (h : SetQ s A) (a : Int) : SetQ (mset s a true) (fun x => decide (a = x) || A x) where
  nodup := mset_nodup a true h.nodup
  all := by
    have key : ∀ (s : List (Int × Bool)), (∀ q ∈ s, q.2 = true) → ∀ q ∈ mset s a true, q.2 = true := by
      intro s
      induction s with
      | nil => intro _ q hq; simp [mset] at hq; rw [hq]
      | cons p s ih =>
        intro h q hq
        unfold mset at hq
        split at hq
        · rcases List.mem_cons.1 hq with rfl | hq
          · rfl
          · exact h q (List.mem_cons_of_mem _ hq)
        · rcases List.mem_cons.1 hq with rfl | hq
          · exact h _ (List.mem_cons_self ..)
          · exact ih (fun q hq => h q (List.mem_cons_of_mem _ hq)) q hq
    exact key s h.all
  mem := fun x => by rw [setM_put, h.mem]
theorem SetQ.congr {s : List (Int × Bool)} {A B : Int → Bool} (h : SetQ s A) (e : ∀ x, A x = B x) : SetQ s B := ⟨h.nodup, h.all, fun x => by rw [h.mem, e]⟩
theorem SetQ.key {s : List (Int × Bool)} {A : Int → Bool} (h : SetQ s A) {x : Int} : A x = true ↔ x ∈ s.map (·.1) := by
  rw [← h.mem]
  unfold setM
  constructor
  · intro h1
    cases hg : mget s x with
    | none => rw [hg] at h1; cases h1
    | some b => exact List.mem_map.2 ⟨_, mget_mem hg, rfl⟩
  · intro h1
    obtain ⟨q, hq, rfl⟩ := List.mem_map.1 h1
    rw [mget_at h.nodup hq, h.all q hq]; rfl
def OnS (I : HMap) (ref : Nat) (A : Int → Bool) : Prop := ∃ s : List (Int × Bool), I ref = some (mapO (Value.int .i64) Value.bool s) ∧ SetQ s A
theorem OnS.mono {I I' : HMap} {ref : Nat} {A : Int → Bool} (h : OnS I ref A) (hI : HLe I I') : OnS I' ref A := by
  obtain ⟨s, h1, h2⟩ := h
  exact ⟨s, hI _ _ h1, h2⟩
/-- For each patch what it stands on. -/
def OnL (I : HMap) (m : List (Int × Nat)) (ps : List Pt) : Prop := m.map (·.1) = ps.map (·.id) ∧ ∀ q ∈ m, OnS I q.2 (onF ps q.1)
theorem OnL.mono {I I' : HMap} {m : List (Int × Nat)} {ps : List Pt} (h : OnL I m ps) (hI : HLe I I') : OnL I' m ps := ⟨h.1, fun q hq => (h.2 q hq).mono hI⟩
theorem OnL.nil {I : HMap} {ps : List Pt} : OnL I [] (ps.take 0) := ⟨by simp, fun q hq => by cases hq⟩
def OnM (I : HMap) (r : Nat) (ps : List Pt) : Prop := ∃ m : List (Int × Nat), I r = some (mapO (Value.int .i64) refV m) ∧ OnL I m ps
theorem OnM.mono {I I' : HMap} {r : Nat} {ps : List Pt} (h : OnM I r ps) (hI : HLe I I') : OnM I' r ps := by
  obtain ⟨m, h1, h2⟩ := h
  exact ⟨m, hI _ _ h1, h2.mono hI⟩
theorem OnL.get {I : HMap} {m : List (Int × Nat)} {ps : List Pt} (h : OnL I m ps) {a : Int} (ha : ∃ q ∈ ps, q.id = a) : ∃ ref, mget m a = some ref ∧ OnS I ref (onF ps a) := by
  cases hg : mget m a with
  | none =>
    have := mget_none.1 hg
    rw [h.1] at this
    obtain ⟨q, hq, rfl⟩ := ha
    exact absurd (List.mem_map.2 ⟨q, hq, rfl⟩) this
  | some ref => exact ⟨ref, rfl, h.2 _ (mget_mem hg)⟩
theorem Lst.before {ps : List Pt} (h : Lst ps) {k : Nat} {p : Pt} (hk : ps[k]? = some p) {n : Int} (hn : n ∈ p.needs) : ∃ q ∈ ps.take k, q.id = n := by
  obtain ⟨h1, q, hq, rfl⟩ := h.has p (List.mem_of_getElem? hk) n hn
  obtain ⟨j, hj⟩ := List.getElem?_of_mem hq
  obtain ⟨hj1, hj2⟩ := List.getElem?_eq_some_iff.1 hj
  obtain ⟨hk1, hk2⟩ := List.getElem?_eq_some_iff.1 hk
  have hjk : j < k := by
    rcases Nat.lt_or_ge j k with h3 | h3
    · exact h3
    · exfalso
      by_cases e : k = j
      · subst e; rw [hk] at hj; cases hj; omega
      · have := List.pairwise_iff_getElem.1 h.inc k j hk1 hj1 (by omega)
        rw [hj2, hk2] at this; omega
  refine ⟨q, ?_, rfl⟩
  rw [List.mem_take_iff_getElem]
  exact ⟨j, by omega, hj2⟩
theorem Lst.fresh {ps : List Pt} (h : Lst ps) {k : Nat} {p : Pt} (hk : ps[k]? = some p) : ∀ q ∈ ps.take k, q.id < p.id := fun q hq => by
  obtain ⟨j, hj, rfl⟩ := List.mem_take_iff_getElem.1 hq
  obtain ⟨hk1, hk2⟩ := List.getElem?_eq_some_iff.1 hk
  have := List.pairwise_iff_getElem.1 h.inc j k (by omega) hk1 (by omega)
  rw [hk2] at this; exact this
theorem OnL.step {I : HMap} {m : List (Int × Nat)} {ps : List Pt} {k ref : Nat} {p : Pt} {s : List (Int × Bool)} (hL : Lst ps) (hk : ps[k]? = some p) (hm : OnL I m (ps.take k)) (hb : I ref = some (mapO (Value.int .i64) Value.bool s))
    (hs : SetQ s (fun x => p.needs.any fun n => n == x || onF (ps.take k) n x)) : OnL I (mset m p.id ref) (ps.take (k + 1)) := by
  have hfr := hL.fresh hk
  have hnew : p.id ∉ m.map (·.1) := by
    rw [hm.1]
    intro h
    obtain ⟨q, hq, e⟩ := List.mem_map.1 h
    have := hfr q hq; omega
  have hmi : mset m p.id ref = m ++ [(p.id, ref)] := by
    refine mset_new m p.id ref 0 ?_
    have := mget_none.2 hnew
    rw [← mget_midx m p.id 0] at this
    simpa using this
  rw [take_snoc hk]
  refine ⟨by rw [mset_keys, if_neg hnew, hm.1]; simp, fun q hq => ?_⟩
  rw [hmi] at hq
  rcases List.mem_append.1 hq with hq | hq
  · obtain ⟨s', h1, h2⟩ := hm.2 q hq
    refine ⟨s', h1, h2.congr fun x => ?_⟩
    have hne : q.1 ≠ p.id := fun e => hnew (by rw [← e]; exact List.mem_map.2 ⟨q, hq, rfl⟩)
    rw [onF_left (fun z hz => by simp at hz; subst hz; exact fun e => hne e.symm)]
  · simp at hq; subst hq
    refine ⟨s, hb, hs.congr fun x => ?_⟩
    exact (onF_split (fun z hz => by cases hz)).symm
/-- A set that takes in the keys of another one, in whatever order. -/
def Seen (sn : List (Int × Bool)) (seen : List Nat) (x : Int) : Bool := seen.any fun i => (sn[i]?.map (·.1)) == some x
theorem seen_nil (sn : List (Int × Bool)) (x : Int) : Seen sn [] x = false := rfl
theorem seen_snoc {sn : List (Int × Bool)} {seen : List Nat} {i : Nat} {p : Int × Bool} (hp : sn[i]? = some p) (x : Int) : Seen sn (seen ++ [i]) x = (decide (p.1 = x) || Seen sn seen x) := by
  unfold Seen
  rw [List.any_append, Bool.eq_iff_iff]
  simp [hp, or_comm]
theorem seen_all {sn : List (Int × Bool)} {A : Int → Bool} (h : SetQ sn A) {seen : List Nat} (hall : ∀ i p, sn[i]? = some p → i ∈ seen) (x : Int) : Seen sn seen x = A x := by
  rw [Bool.eq_iff_iff, h.key]
  unfold Seen
  rw [List.any_eq_true]
  constructor
  · rintro ⟨i, _, hi⟩
    cases hx : sn[i]? with
    | none => rw [hx] at hi; simp at hi
    | some p => rw [hx] at hi; simp at hi; exact List.mem_map.2 ⟨p, List.mem_of_getElem? hx, hi⟩
  · intro hx
    obtain ⟨p, hp, rfl⟩ := List.mem_map.1 hx
    obtain ⟨i, hi⟩ := List.getElem?_of_mem hp
    exact ⟨i, hall i p hi, by rw [hi]; simp⟩
end Go.Proofs.YtoicbikdenlioaaGreat
end
section
namespace Go.Proofs.YtoicbikdenlioaaGreat
open Go Go.Kn Go.Proofs
theorem w_stands {I : HMap} {av : Option Addr} {n c : Nat} {ps : List Pt} (hP : SlP I av n c ps) (hn : n ≤ 100000) (hL : Lst ps) (hnd : ∀ p ∈ ps, p.n ≤ 100000) : RetM Tryz.prog 29 [.slice av n c] I [] (fun v I' L => L = [] ∧ ∃ r, v = .map (some r) ∧ OnM I' r ps) := by
 intro g H w hw
 refine enter Tryz.func29 rfl Tryz.ntmps29 rfl hw ?_
 have hIc := HLe.refl I
 refine zR ?_
 refine zA ?_
 refine zN (zR ?_)
 refine XO_makeMap rfl rfl (fun r_10 => ?_)
 refine zA ?_
 refine zN ?_
 refine X_seq ?_
 refine zR ?_
 refine zM ?_
 refine zQ slt_33 ?_
 refine zM ?_
 refine zN ?_
 refine X_block ?_
 refine X_loopT [(3, _), (11, _), (12, _)] (.cons rfl (.cons rfl (.cons rfl .nil))) (fun T L0 mz E I' loc' => ∃ (k : Nat) (m : List (Int × Nat)), mz = n - k ∧ E = (13, .int .i64 k) :: T ∧ HLe I I' ∧ [(r_10, mapO (Value.int .i64) refV m)] = loc' ∧ k ≤ n ∧ OnL I' m (ps.take k)) _ _ _ _ ⟨0, [], rfl, rfl, HLe.refl _, rfl, Nat.zero_le _, OnL.nil⟩ (.cons rfl (.cons rfl (.cons rfl (.cons rfl .nil)))) (HLe.refl _) rfl ?_
 rintro mz E J1 loc' ⟨k, m, rfl, rfl, hJ, rfl, hk, hm⟩
 have hP := hP.mono hJ; have hIc := hIc.trans hJ
 have hB0 := hJ
 refine zR ?_
 refine zC ?_
 refine zN ?_
 refine X_seq ?_
 refine zI ?_ ?_ <;> intro hc14
 ·
  have hlt_k : k < n := by have h := hc14; simp at h; omega
  have hP1 := hP.1
  obtain ⟨p, hp, hN⟩ := hP.at hlt_k
  have hpm := List.mem_of_getElem? hp
  have hN : Sl J1 1 encI p.a p.n p.c p.needs := hN
  have hpn := hnd p hpm
  refine X_skip ?_
  refine at_then ?_
  refine X_seq ?_
  refine X_block ?_
  refine zR ?_
  refine zV (ev_indexSl rfl rfl slt_33 (by assumption) (fun hg => by omega)) ?_
  refine zV (ev_loadA rfl agt_44 (fun hg => by exact Sl.getA hP.1 hp) rfl) ?_
  refine XO_alloc zt_44 rfl rfl (fun b_5 => ?_)
  refine XO_storeA rfl rfl szt_44 rfl rfl rfl rfl (by repeat (first | exact Upd.here | apply Upd.there | apply upd_app)) ?_
  refine zN (zR ?_)
  refine XO_makeMap rfl rfl (fun r_17 => ?_)
  refine zA ?_
  refine zN ?_
  refine X_seq ?_
  refine zR ?_
  refine zF fld_44_5 ?_
  refine zV (ev_load rfl sct_38 (fun hg => by (repeat (first | exact Cell.here rfl | apply Cell.there | apply Cell.app)))) ?_
  refine zQ slt_38 ?_
  refine zM ?_
  refine zN ?_
  refine X_block ?_
  refine X_loopT [(3, _), (5, _), (6, _), (11, _), (12, _), (13, _), (19, _), (20, _)] (.cons rfl (.cons rfl (.cons rfl (.cons rfl (.cons rfl (.cons rfl (.cons rfl (.cons rfl .nil)))))))) (fun T L0 mz E I' loc' => ∃ (j : Nat) (s : List (Int × Bool)), mz = p.n - j ∧ E = (21, .int .i64 j) :: T ∧ J1 = I' ∧ [(r_17, mapO (Value.int .i64) Value.bool s), (b_5, .cells (encP p).toArray 44 (0, 0)), (r_10, mapO (Value.int .i64) refV m)] = loc' ∧ j ≤ p.n ∧ SetQ s (fun x => (p.needs.take j).any fun n => n == x || onF (ps.take k) n x)) _ _ _ _ ⟨0, [], rfl, rfl, rfl, rfl, Nat.zero_le _, SetQ.nil⟩ (.cons rfl (.cons rfl (.cons rfl (.cons rfl (.cons rfl (.cons rfl (.cons rfl (.cons rfl (.cons rfl .nil))))))))) (HLe.refl _) rfl ?_
  rintro mz E I' loc' ⟨j, s, rfl, rfl, rfl, rfl, hj, hs⟩
  refine zR ?_
  refine zC ?_
  refine zN ?_
  refine X_seq ?_
  refine zI ?_ ?_ <;> intro hc22
  ·
   have hlt_j : j < p.n := by have h := hc22; simp at h; omega
   obtain ⟨y, hy⟩ := hN.at hlt_j
   obtain ⟨ref, hget, sn, hsn, hsq⟩ := hm.get (hL.before hp (List.mem_of_getElem? hy))
   refine X_skip ?_
   refine at_then ?_
   refine X_seq ?_
   refine X_block ?_
   refine zR ?_
   refine zV (ev_indexSl rfl rfl slt_38 (by assumption) (fun hg => by omega)) ?_
   refine zV (ev_load rfl sct_3 (fun hg => by exact Sl.get0 hN hy rfl)) ?_
   refine zA ?_
   refine zN (zR ?_)
   refine zM ?_
   refine zM ?_
   refine XO_mapUpdate (m := s) (ek := Value.int .i64) (ev := Value.bool) (a := y) true mpt_77 key_3 rfl rfl rfl rfl (by repeat (first | exact Upd.here | apply Upd.there | apply upd_app)) ?_
   refine zN (zR ?_)
   refine zM ?_
   refine zM ?_
   refine zV (ev_lookupG (m := m) (ek := Value.int .i64) (ev := refV) (a := y) hget mpt_80 key_3 rfl rfl (fun _ => .inr (by simp))) ?_
   refine XO_range (ek := Value.int .i64) (ev := Value.bool) (m := sn) rfl mpt_77 rfl rfl (.inl hsn) (fun b_30 => ?_)
   refine zN ?_
   refine X_block ?_
   refine X_loopT [(3, _), (5, _), (6, _), (11, _), (12, _), (13, _), (19, _), (20, _), (21, _), (30, _)] (.cons rfl (.cons rfl (.cons rfl (.cons rfl (.cons rfl (.cons rfl (.cons rfl (.cons rfl (.cons rfl (.cons rfl .nil)))))))))) (fun T L0 mz E I' loc' => ∃ (seen : List Nat) (s : List (Int × Bool)), mz = sn.length - seen.length ∧ E = T ∧ J1 = I' ∧ [(b_30, iterO ref sn.length seen), (r_17, mapO (Value.int .i64) Value.bool s), (b_5, .cells (encP p).toArray 44 (0, 0)), (r_10, mapO (Value.int .i64) refV m)] = loc' ∧ SetQ s (fun x => Seen sn seen x || (decide (y = x) || (p.needs.take j).any fun n => n == x || onF (ps.take k) n x)) ∧ seen.Nodup ∧ ∀ i ∈ seen, i < sn.length) _ _ _ _ ⟨[], _, rfl, rfl, rfl, rfl, (hs.put y).congr (fun x => by rw [seen_nil, Bool.false_or]), .nil, fun i h => by cases h⟩ (.cons rfl (.cons rfl (.cons rfl (.cons rfl (.cons rfl (.cons rfl (.cons rfl (.cons rfl (.cons rfl (.cons rfl .nil)))))))))) (HLe.refl _) rfl ?_
   rintro mz E I' loc' ⟨seen, s, rfl, rfl, rfl, rfl, hs, hnd2, hlt⟩
   have hsl := seen_lt hnd2 hlt
   refine zR ?_
   refine XO_next2 (ek := Value.int .i64) (ev := Value.bool) (m := sn) (fun s' => [(b_30, iterO ref sn.length s'), (r_17, mapO (Value.int .i64) Value.bool s), (b_5, .cells (encP p).toArray 44 (0, 0)), (r_10, mapO (Value.int .i64) refV m)]) rfl (fun s' => .here) rfl rfl rfl rfl rfl (.inl hsn) (by simp) ?_
   intro t tv s' hno hyes
   refine zN ?_
   refine X_seq ?_
   refine zI ?_ ?_ <;> intro hc32
   ·
    obtain ⟨i, q, hq, hns, rfl⟩ := hyes hc32
    refine X_skip ?_
    refine at_then ?_
    refine X_block ?_
    refine zR ?_
    refine zV (ev_entry (ek := Value.int .i64) (ev := Value.bool) (m := sn) (p := q) (seen := seen) (i := i) rfl (.inl hsn) (.inr (by simp)) hq) ?_
    refine zE ?_
    refine zA ?_
    refine zN ?_
    refine X_region ?_
    refine zM ?_
    refine zM ?_
    refine XO_mapUpdate (m := s) (ek := Value.int .i64) (ev := Value.bool) (a := q.1) true mpt_77 key_3 rfl rfl rfl rfl (by repeat (first | exact Upd.here | apply Upd.there | apply upd_app)) ?_
    refine XO_nil ?_
    refine at_block_n ?_
    have hnd3 : (seen ++ [i]).Nodup := List.nodup_append.2 ⟨hnd2, by simp, fun a ha b hb e => hns (by simp at hb; subst hb; subst e; exact ha)⟩
    have hlt3 : ∀ j ∈ seen ++ [i], j < sn.length := fun j hj => (List.mem_append.1 hj).elim (hlt j) (fun h => by simp at h; subst h; exact (List.getElem?_eq_some_iff.1 hq).1)
    have hsl2 := seen_lt hnd3 hlt3
    rw [List.length_append, List.length_singleton] at hsl2
    exact at_met2 _ _ ⟨sn.length - (seen ++ [i]).length, by rw [List.length_append, List.length_singleton]; omega, seen ++ [i], _, rfl, rfl, rfl, rfl, (hs.put q.1).congr (fun x => by rw [seen_snoc hq, Bool.or_assoc]), hnd3, hlt3⟩ (.cons rfl (.cons rfl (.cons rfl (.cons rfl (.cons rfl (.cons rfl (.cons rfl (.cons rfl (.cons rfl (.cons rfl .nil)))))))))) (by repeat (first | exact .refl | exact subL_left | refine subL_app ?_ | refine .drop ?_ | refine subL_add ?_))
   obtain ⟨rfl, hall⟩ := hno hc32
   refine X_exit ?_
   refine at_then_e ?_
   refine at_then_e ?_
   refine at_block_hit ?_
   refine at_block_n ?_
   refine at_then ?_
   refine X_region ?_
   refine zV (ev_arB rfl rfl rfl (fun _ => by omega)) ?_
   refine zM ?_
   refine XO_nil ?_
   exact at_met2 _ _ ⟨p.n - (j + 1), by omega, j + 1, _, rfl, rfl, rfl, rfl, by omega, hs.congr (fun x => by rw [any_take hy, seen_all hsq hall x]; rw [Bool.eq_iff_iff]; simp; grind)⟩ (.cons rfl (.cons rfl (.cons rfl (.cons rfl (.cons rfl (.cons rfl (.cons rfl (.cons rfl (.cons rfl .nil))))))))) (by repeat (first | exact .refl | exact subL_left | refine subL_app ?_ | refine .drop ?_ | refine subL_add ?_))
  have hge_j : p.n ≤ j := by have h := hc22; simp at h; omega
  refine X_exit ?_
  refine at_then_e ?_
  refine at_then_e ?_
  refine at_block_hit ?_
  refine at_then ?_
  refine X_freeze .here (fun I4 hI4 hb4 => ?_)
  have hP := hP.mono hI4; have hm := hm.mono hI4; have hIc := hIc.trans hI4; have hB0 := hB0.trans hI4
  have hbx := hb4
  refine X_region ?_
  refine zM ?_
  refine zF fld_44_0 ?_
  refine zV (ev_load rfl sct_3 (fun hg => by (repeat (first | exact Cell.here rfl | apply Cell.there | apply Cell.app)))) ?_
  refine zM ?_
  refine XO_mapUpdate (m := m) (ek := Value.int .i64) (ev := refV) (a := p.id) r_17 mpt_80 key_3 rfl rfl rfl rfl (by repeat (first | exact Upd.here | apply Upd.there | apply upd_app)) ?_
  refine XO_nil ?_
  refine at_block_n ?_
  refine at_then ?_
  refine X_region ?_
  refine zV (ev_arB rfl rfl rfl (fun _ => by omega)) ?_
  refine zM ?_
  refine XO_nil ?_
  exact at_met2 _ _ ⟨n - (k + 1), by omega, k + 1, _, rfl, rfl, hB0, rfl, by omega, OnL.step hL hp hm hbx (by rw [take_all hN.len hge_j] at hs; exact hs)⟩ (.cons rfl (.cons rfl (.cons rfl (.cons rfl .nil)))) (by repeat (first | exact .refl | exact subL_left | refine subL_app ?_ | refine .drop ?_ | refine subL_add ?_))
 have hge_k : n ≤ k := by have h := hc14; simp at h; omega
 rw [take_all hP.len hge_k] at hm
 refine X_exit ?_
 refine at_then_e ?_
 refine at_then_e ?_
 refine at_block_hit ?_
 refine at_then ?_
 refine zR ?_
 refine zM ?_
 refine zA ?_
 refine zN ?_
 refine X_ret ?_
 exact at_ret1 rfl rfl (fun w hw => by obtain ⟨I9, h91, h92, h93⟩ := hw.freezeAll; exact ⟨_, I9, [], rfl, hIc.trans h91, h92, rfl, r_10, rfl, m, h93 _ _ (by simp), hm.mono h91⟩)
end Go.Proofs.YtoicbikdenlioaaGreat
end
section
namespace Go.Proofs.YtoicbikdenlioaaGreat
open Go Go.Kn Go.Proofs
theorem chk_one (x : Sg) : (chkG [x] == 0) = frm x := by
 unfold chkG skB skP
 cases h : frm x <;> simp [h]
theorem and_k1 (a b c d x y : Bool) : (((((a && b) && c) && d) && x) && y) = (((a && b) && (c && d)) && (x && y)) := by simp only [Bool.and_assoc]
theorem and_k2 (a b c d x y z : Bool) : ((((((a && b) && c) && d) && x) && y) && z) = (((a && b) && (c && d)) && (x && (y && z))) := by simp only [Bool.and_assoc]
theorem w_form (I : HMap) (x : Sg) : RetV Tryz.prog 77 [encGA x] I (.bool (frm x)) := by
 intro g H w hw
 refine enter Tryz.func77 rfl Tryz.ntmps77 rfl hw ?_
 have hIc := HLe.refl I
 refine zR ?_
 refine XO_box rfl rfl rfl (fun b_1 => ?_)
 refine zA ?_
 refine zN (zR ?_)
 refine zV (ev_loadA rfl agt_26 (fun hg => by first | (repeat (first | exact Cells.here | exact Cells.s0 (vs := [_, _, _, _, _, _, _, _, _, _, _, _, _, _]) rfl | apply Cells.there | apply Cells.app))) rfl) ?_
 refine XO_buildSlice (ps := [(0, _)]) (m := [encG x]) elt_22 rfl (.cons rfl (.nil)) rfl (by simp [encG_len]) (by decide) (by decide) rfl rfl (fun b_4 => ?_)
 refine XO_freeze .here (fun I1 hI1 hb1 => ?_)
 have hIc := hIc.trans hI1
 have hS := Sl.lit [x] rfl encG_len (show _ = some (Obj.cells (([x] : List Sg).flatMap encG).toArray 26 (0, 0)) from hb1)
 refine XO_callV0 (cap := []) (vs := [_]) rfl rfl fun_15 (w_chkG hS (by decide)) rfl rfl ?_
 refine zC ?_
 refine zA ?_
 refine zN ?_
 refine X_ret ?_
 exact at_ret1 rfl rfl (fun w hw => ⟨by rw [chk_one], (hw.mono hIc).drop⟩)
theorem w_pchk {I : HMap} (p : Pt) (hN : Nd I p) : RetV Tryz.prog 26 [encPA p] I (.int .i64 (pchk p)) := by
 intro g H w hw
 refine enter Tryz.func26 rfl Tryz.ntmps26 rfl hw ?_
 have hN : Sl I 1 encI p.a p.n p.c p.needs := hN
 refine zR ?_
 refine XO_box rfl rfl rfl (fun b_1 => ?_)
 refine zA ?_
 refine zN ?_
 refine X_seq ?_
 refine zR ?_
 refine zF fld_44_5 ?_
 refine zV (ev_load rfl sct_38 (fun hg => by (repeat (first | exact Cell.here rfl | apply Cell.there | apply Cell.app)))) ?_
 refine zQ slt_38 ?_
 refine zC ?_
 refine zN ?_
 refine zI ?_ ?_ <;> intro hc11
 ·
  have hlen : p.needs.length > 32 := by rw [hN.len]; simp at hc11; omega
  refine zR ?_
  refine zA ?_
  refine zN ?_
  refine X_ret ?_
  refine at_then_r ?_
  exact at_ret1 rfl rfl (fun w hw => ⟨by rw [pchk_1 hlen], hw.drop⟩)
 have hlen : ¬ p.needs.length > 32 := by rw [hN.len]; simp at hc11; omega
 have hpn : p.n ≤ 100000 := by have := hN.len; omega
 refine X_skip ?_
 refine at_then ?_
 refine zR ?_
 refine zA ?_
 refine zN ?_
 refine X_seq ?_
 refine zR ?_
 refine zF fld_44_5 ?_
 refine zV (ev_load rfl sct_38 (fun hg => by (repeat (first | exact Cell.here rfl | apply Cell.there | apply Cell.app)))) ?_
 refine zQ slt_38 ?_
 refine zM ?_
 refine zN ?_
 refine X_block ?_
 refine X_loopT [(1, _), (13, _), (14, _)] (.cons rfl (.cons rfl (.cons rfl .nil))) (fun T L0 mz E I' loc' => ∃ (k : Nat) (l : Int), mz = p.n - k ∧ E = (3, .int .i64 l) :: (15, .int .i64 k) :: T ∧ I = I' ∧ L0 = loc' ∧ k ≤ p.n ∧ (List.range k).all (ndP p.id p.needs) = true ∧ lastI p.needs k l) _ _ _ _ ⟨0, 0, rfl, rfl, rfl, rfl, Nat.zero_le _, rfl, ⟨fun _ => rfl, fun y hy h => absurd rfl h⟩⟩ (.cons rfl (.cons rfl (.cons rfl (.cons rfl (.cons rfl .nil))))) (HLe.refl _) rfl ?_
 rintro mz E I' loc' ⟨k, l, rfl, rfl, rfl, rfl, hk, hall, hl⟩
 refine zR ?_
 refine zC ?_
 refine zN ?_
 refine X_seq ?_
 refine zI ?_ ?_ <;> intro hc16
 ·
  have hlt_k : k < p.n := by have h := hc16; simp at h; omega
  obtain ⟨x, hx⟩ := hN.at hlt_k
  refine X_skip ?_
  refine at_then ?_
  refine X_seq ?_
  refine X_block ?_
  refine zR ?_
  refine zV (ev_indexSl rfl rfl slt_38 (by assumption) (fun hg => by omega)) ?_
  refine zV (ev_load rfl sct_3 (fun hg => by exact Sl.get0 hN hx rfl)) ?_
  refine zA ?_
  refine zN ?_
  refine X_seq ?_
  refine zR ?_
  refine zM ?_
  refine zM ?_
  refine zC ?_
  refine zM ?_
  refine XO_pushF 3 rfl rfl rfl ?_
  refine zJ (ev_move rfl) ?_
  refine zJ (ev_fieldAddr rfl fld_44_0) ?_
  refine zJ (ev_load rfl sct_3 (fun hg => by (repeat (first | exact Cell.here rfl | apply Cell.there | apply Cell.app)))) ?_
  refine zJ (ev_cmp rfl rfl rfl) ?_
  refine XO_or0 rfl rfl rfl rfl rfl ?_
  refine zN ?_
  refine zI ?_ ?_ <;> intro hc27
  ·
   have hnd : ndB p.id p.needs = false := by unfold ndB; exact range_bad (k := k) (by rw [hN.len]; exact hlt_k) (by rw [nd_at hall hl hx, hc27]; rfl)
   refine zR ?_
   refine zA ?_
   refine zN ?_
   refine X_ret ?_
   refine at_then_r ?_
   refine at_block_r ?_
   refine at_then_r ?_
   refine at_then_r ?_
   refine at_block_r ?_
   refine at_then_r ?_
   exact at_ret1 rfl rfl (fun w hw => ⟨by rw [pchk_2 hlen hnd], hw.drop⟩)
  refine X_skip ?_
  refine at_then ?_
  refine X_region ?_
  refine zM ?_
  refine zA ?_
  refine XO_nil ?_
  refine at_block_n ?_
  refine at_then ?_
  refine X_region ?_
  refine zV (ev_arB rfl rfl rfl (fun _ => by omega)) ?_
  refine zM ?_
  refine XO_nil ?_
  exact at_met2 _ _ ⟨p.n - (k + 1), by omega, k + 1, _, rfl, rfl, rfl, rfl, by omega, range_step hall (by rw [nd_at hall hl hx, hc27]; rfl), lastI_step hx⟩ (.cons rfl (.cons rfl (.cons rfl (.cons rfl (.cons rfl .nil))))) (by repeat (first | exact .refl | exact subL_left | refine subL_app ?_ | refine .drop ?_ | refine subL_add ?_))
 have hge_k : p.n ≤ k := by have h := hc16; simp at h; omega
 have hnd : ndB p.id p.needs = true := by unfold ndB; rw [hN.len, show p.n = k by omega]; exact hall
 refine X_exit ?_
 refine at_then_e ?_
 refine at_then_e ?_
 refine at_block_hit ?_
 refine at_then ?_
 refine zR ?_
 refine zF fld_44_0 ?_
 refine zV (ev_load rfl sct_3 (fun hg => by (repeat (first | exact Cell.here rfl | apply Cell.there | apply Cell.app)))) ?_
 refine zC ?_
 refine zM ?_
 refine XO_pushT 3 rfl rfl rfl ?_
 refine zK (ev_fieldAddr rfl fld_44_0) ?_
 refine zK (ev_load rfl sct_3 (fun hg => by (repeat (first | exact Cell.here rfl | apply Cell.there | apply Cell.app)))) ?_
 refine zK (ev_cmp rfl rfl rfl) ?_
 refine XO_and0 rfl rfl rfl rfl rfl ?_
 refine zM ?_
 refine XO_pushT 8 rfl rfl rfl ?_
 refine zK (ev_fieldAddr rfl fld_44_2) ?_
 refine zK (ev_load rfl sct_3 (fun hg => by (repeat (first | exact Cell.here rfl | apply Cell.there | apply Cell.app)))) ?_
 refine zK (ev_cmp rfl rfl rfl) ?_
 refine XO_and0 rfl rfl rfl rfl rfl ?_
 refine zM ?_
 refine XO_pushT 13 rfl rfl rfl ?_
 refine zK (ev_fieldAddr rfl fld_44_2) ?_
 refine zK (ev_load rfl sct_3 (fun hg => by (repeat (first | exact Cell.here rfl | apply Cell.there | apply Cell.app)))) ?_
 refine zK (ev_cmp rfl rfl rfl) ?_
 refine XO_and0 rfl rfl rfl rfl rfl ?_
 refine zA ?_
 refine zN ?_
 refine X_seq ?_
 refine zR ?_
 refine zF fld_44_1 ?_
 refine zV (ev_load rfl sct_3 (fun hg => by (repeat (first | exact Cell.here rfl | apply Cell.there | apply Cell.app)))) ?_
 refine zN ?_
 refine X_block ?_
 refine zR ?_
 refine zC ?_
 refine zA ?_
 refine zN ?_
 refine zI ?_ ?_ <;> intro hc50
 ·
  have hk : p.kind = 1 := by simpa using hc50
  refine X_seq ?_
  refine zR ?_
  refine zF fld_44_3 ?_
  refine zV (ev_load rfl sct_3 (fun hg => by (repeat (first | exact Cell.here rfl | apply Cell.there | apply Cell.app)))) ?_
  refine zC ?_
  refine zM ?_
  refine XO_pushF 3 rfl rfl rfl ?_
  refine zJ (ev_fieldAddr rfl fld_44_3) ?_
  refine zJ (ev_load rfl sct_3 (fun hg => by (repeat (first | exact Cell.here rfl | apply Cell.there | apply Cell.app)))) ?_
  refine zJ (ev_cmp rfl rfl rfl) ?_
  refine XO_or0 rfl rfl rfl rfl rfl ?_
  refine zN ?_
  refine zI ?_ ?_ <;> intro hc59
  ·
   have hb : (idB p && kndB p) = false := knd_1n hk (by unfold within; simp at hc59 ⊢; omega)
   refine zR ?_
   refine zA ?_
   refine zN ?_
   refine X_ret ?_
   refine at_then_r ?_
   refine at_block_r ?_
   refine at_then_r ?_
   exact at_ret1 rfl rfl (fun w hw => ⟨by rw [pchk_3 hlen hnd hb], hw.drop⟩)
  have hf : isF p.field := by have h := hc59; unfold isF; simp at h; omega
  have hw1 : within p.field 1 9 = true := by have h := hc59; unfold within; simp at h ⊢; omega
  refine X_skip ?_
  refine at_then ?_
  refine zR ?_
  refine zV (ev_buildL (ps := [(1, _)]) [_, _] plt_24 rfl rfl) ?_
  refine zV (ev_buildL (ps := [(0, _), (1, _)]) [_, _] plt_24 rfl rfl) ?_
  refine zV (ev_buildL (ps := [(3, _), (4, _), (10, _), (11, _)]) [_, _, _, _, _, _, _, _, _, _, _, _, _, _] plt_26 rfl rfl) ?_
  refine XO_alloc zt_26 rfl rfl (fun b_7 => ?_)
  refine XO_storeA rfl rfl szt_26 rfl rfl rfl rfl (by repeat (first | exact Upd.here | apply Upd.there | apply upd_app)) ?_
  refine zN ?_
  refine X_region ?_
  refine zM ?_
  refine zM ?_
  refine XO_pushT 1 rfl rfl rfl ?_
  refine zK (ev_fieldAddr rfl fld_44_4) ?_
  refine zK (ev_loadA rfl agt_26 (fun hg => by first | (repeat (first | exact Cells.here | exact Cells.s0 (vs := [_, _, _, _, _, _, _, _, _, _, _, _, _, _]) rfl | apply Cells.there | apply Cells.app))) rfl) ?_
  refine zK (ev_fieldAddr rfl fld_44_3) ?_
  refine zK (ev_load rfl sct_3 (fun hg => by (repeat (first | exact Cell.here rfl | apply Cell.there | apply Cell.app)))) ?_
  refine zK (ev_buildL (ps := []) [_, _, _, _, _, _, _, _, _, _, _, _, _, _] plt_26 rfl rfl) ?_
  refine XO_callV1 (cap := []) (vs := [_, _, _]) rfl rfl fun_76 (fun hg => w_set I p.nw p.field zeroG hf) (.some rfl rfl rfl rfl gbt) rfl rfl ?_
  refine zK (ev_buildL (ps := []) [_, _, _, _, _, _, _, _, _, _, _, _, _, _] plt_26 rfl rfl) ?_
  refine zK (ev_eqS2 rfl rfl eqt2_26 rfl) ?_
  refine XO_and0 rfl rfl rfl rfl rfl ?_
  refine zM ?_
  refine XO_pushT 11 rfl rfl rfl ?_
  refine zK (ev_loadA rfl agt_26 (fun hg => by first | (repeat (first | exact Cells.here | exact Cells.s0 (vs := [_, _, _, _, _, _, _, _, _, _, _, _, _, _]) rfl | apply Cells.there | apply Cells.app))) rfl) ?_
  refine zK (ev_fieldAddr rfl fld_44_3) ?_
  refine zK (ev_load rfl sct_3 (fun hg => by (repeat (first | exact Cell.here rfl | apply Cell.there | apply Cell.app)))) ?_
  refine zK (ev_fieldAddr rfl fld_44_4) ?_
  refine zK (ev_loadA rfl agt_26 (fun hg => by first | (repeat (first | exact Cells.here | exact Cells.s0 (vs := [_, _, _, _, _, _, _, _, _, _, _, _, _, _]) rfl | apply Cells.there | apply Cells.app))) rfl) ?_
  refine XO_callV1 (cap := []) (vs := [_, _, _]) rfl rfl fun_76 (fun hg => w_set I plainG p.field p.nw hf) (.some rfl rfl rfl rfl gbt) rfl rfl ?_
  refine XO_callV1 (cap := []) (vs := [_]) rfl rfl fun_77 (fun hg => w_form I _) (.some rfl rfl rfl rfl gbt) rfl rfl ?_
  refine XO_and0 rfl rfl rfl rfl rfl ?_
  refine zA ?_
  refine XO_nil ?_
  refine at_block_n ?_
  refine at_then ?_
  refine X_seq ?_
  refine zR ?_
  refine zM ?_
  refine zO ?_
  refine zN ?_
  refine zI ?_ ?_ <;> intro hc119
  ·
   have hb : (idB p && kndB p) = false := by (exact (show (idB p && kndB p) = false from by rw [knd_1 hk hw1]; exact (and_k1 _ _ _ _ _ _).symm.trans ((Bool.not_eq_true' _).mp hc119)))
   refine zR ?_
   refine zA ?_
   refine zN ?_
   refine X_ret ?_
   refine at_then_r ?_
   exact at_ret1 rfl rfl (fun w hw => ⟨by rw [pchk_3 hlen hnd hb], hw.drop⟩)
  have hb : (idB p && kndB p) = true := by (exact (show (idB p && kndB p) = true from by rw [knd_1 hk hw1]; exact (and_k1 _ _ _ _ _ _).symm.trans ((Bool.not_eq_false' _).mp hc119)))
  refine X_skip ?_
  refine at_then ?_
  refine zR ?_
  refine zA ?_
  refine zN ?_
  refine X_ret ?_
  exact at_ret1 rfl rfl (fun w hw => ⟨by rw [pchk_4 hlen hnd hb], hw.drop⟩)
 have hk1 : p.kind ≠ 1 := by simpa using hc50
 refine zR ?_
 refine zC ?_
 refine zA ?_
 refine zN ?_
 refine zI ?_ ?_ <;> intro hc83
 ·
  have hk : p.kind = 2 := by simpa using hc83
  refine X_region ?_
  refine zM ?_
  refine zM ?_
  refine XO_pushT 1 rfl rfl rfl ?_
  refine zK (ev_fieldAddr rfl fld_44_3) ?_
  refine zK (ev_load rfl sct_3 (fun hg => by (repeat (first | exact Cell.here rfl | apply Cell.there | apply Cell.app)))) ?_
  refine zK (ev_cmp rfl rfl rfl) ?_
  refine XO_and0 rfl rfl rfl rfl rfl ?_
  refine zM ?_
  refine XO_pushT 6 rfl rfl rfl ?_
  refine zK (ev_fieldAddr rfl fld_44_4) ?_
  refine zK (ev_fieldAddr rfl fld_26_0) ?_
  refine zK (ev_load rfl sct_3 (fun hg => by (repeat (first | exact Cell.here rfl | apply Cell.there | apply Cell.app)))) ?_
  refine zK (ev_fieldAddr rfl fld_44_2) ?_
  refine zK (ev_load rfl sct_3 (fun hg => by (repeat (first | exact Cell.here rfl | apply Cell.there | apply Cell.app)))) ?_
  refine zK (ev_cmp rfl rfl rfl) ?_
  refine XO_and0 rfl rfl rfl rfl rfl ?_
  refine zM ?_
  refine XO_pushT 14 rfl rfl rfl ?_
  refine zK (ev_fieldAddr rfl fld_44_4) ?_
  refine zK (ev_loadA rfl agt_26 (fun hg => by first | (repeat (first | exact Cells.here | exact Cells.s0 (vs := [_, _, _, _, _, _, _, _, _, _, _, _, _, _]) rfl | apply Cells.there | apply Cells.app))) rfl) ?_
  refine XO_callV1 (cap := []) (vs := [_]) rfl rfl fun_77 (fun hg => w_form I _) (.some rfl rfl rfl rfl gbt) rfl rfl ?_
  refine XO_and0 rfl rfl rfl rfl rfl ?_
  refine zA ?_
  refine XO_nil ?_
  refine at_block_n ?_
  refine at_then ?_
  refine X_seq ?_
  refine zR ?_
  refine zM ?_
  refine zO ?_
  refine zN ?_
  refine zI ?_ ?_ <;> intro hc119
  ·
   have hb : (idB p && kndB p) = false := by (exact (show (idB p && kndB p) = false from by rw [knd_2 hk]; exact (and_k2 _ _ _ _ _ _ _).symm.trans ((Bool.not_eq_true' _).mp hc119)))
   refine zR ?_
   refine zA ?_
   refine zN ?_
   refine X_ret ?_
   refine at_then_r ?_
   exact at_ret1 rfl rfl (fun w hw => ⟨by rw [pchk_3 hlen hnd hb], hw.drop⟩)
  have hb : (idB p && kndB p) = true := by (exact (show (idB p && kndB p) = true from by rw [knd_2 hk]; exact (and_k2 _ _ _ _ _ _ _).symm.trans ((Bool.not_eq_false' _).mp hc119)))
  refine X_skip ?_
  refine at_then ?_
  refine zR ?_
  refine zA ?_
  refine zN ?_
  refine X_ret ?_
  exact at_ret1 rfl rfl (fun w hw => ⟨by rw [pchk_4 hlen hnd hb], hw.drop⟩)
 have hk2 : p.kind ≠ 2 := by simpa using hc83
 refine zR ?_
 refine zC ?_
 refine zA ?_
 refine zN ?_
 refine zI ?_ ?_ <;> intro hc104
 ·
  have hk : p.kind = 3 := by simpa using hc104
  refine X_region ?_
  refine zM ?_
  refine zM ?_
  refine XO_pushT 1 rfl rfl rfl ?_
  refine zK (ev_fieldAddr rfl fld_44_3) ?_
  refine zK (ev_load rfl sct_3 (fun hg => by (repeat (first | exact Cell.here rfl | apply Cell.there | apply Cell.app)))) ?_
  refine zK (ev_cmp rfl rfl rfl) ?_
  refine XO_and0 rfl rfl rfl rfl rfl ?_
  refine zM ?_
  refine XO_pushT 6 rfl rfl rfl ?_
  refine zK (ev_fieldAddr rfl fld_44_4) ?_
  refine zK (ev_loadA rfl agt_26 (fun hg => by first | (repeat (first | exact Cells.here | exact Cells.s0 (vs := [_, _, _, _, _, _, _, _, _, _, _, _, _, _]) rfl | apply Cells.there | apply Cells.app))) rfl) ?_
  refine zK (ev_buildL (ps := []) [_, _, _, _, _, _, _, _, _, _, _, _, _, _] plt_26 rfl rfl) ?_
  refine zK (ev_eqS2 rfl rfl eqt2_26 rfl) ?_
  refine XO_and0 rfl rfl rfl rfl rfl ?_
  refine zA ?_
  refine XO_nil ?_
  refine at_block_n ?_
  refine at_then ?_
  refine X_seq ?_
  refine zR ?_
  refine zM ?_
  refine zO ?_
  refine zN ?_
  refine zI ?_ ?_ <;> intro hc119
  ·
   have hb : (idB p && kndB p) = false := by (exact (show (idB p && kndB p) = false from by rw [knd_3 hk]; exact (and_k1 _ _ _ _ _ _).symm.trans ((Bool.not_eq_true' _).mp hc119)))
   refine zR ?_
   refine zA ?_
   refine zN ?_
   refine X_ret ?_
   refine at_then_r ?_
   exact at_ret1 rfl rfl (fun w hw => ⟨by rw [pchk_3 hlen hnd hb], hw.drop⟩)
  have hb : (idB p && kndB p) = true := by (exact (show (idB p && kndB p) = true from by rw [knd_3 hk]; exact (and_k1 _ _ _ _ _ _).symm.trans ((Bool.not_eq_false' _).mp hc119)))
  refine X_skip ?_
  refine at_then ?_
  refine zR ?_
  refine zA ?_
  refine zN ?_
  refine X_ret ?_
  exact at_ret1 rfl rfl (fun w hw => ⟨by rw [pchk_4 hlen hnd hb], hw.drop⟩)
 have hk3 : p.kind ≠ 3 := by simpa using hc104
 refine X_region ?_
 refine zA ?_
 refine XO_nil ?_
 refine at_block_n ?_
 refine at_then ?_
 refine X_seq ?_
 refine zR ?_
 refine zM ?_
 refine zO ?_
 refine zN ?_
 refine zI ?_ ?_ <;> intro hc119
 ·
  have hb : (idB p && kndB p) = false := by exact knd_4 hk1 hk2 hk3
  refine zR ?_
  refine zA ?_
  refine zN ?_
  refine X_ret ?_
  refine at_then_r ?_
  exact at_ret1 rfl rfl (fun w hw => ⟨by rw [pchk_3 hlen hnd hb], hw.drop⟩)
 have hb : (idB p && kndB p) = true := by (exfalso; have h := hc119; simp at h)
 refine X_skip ?_
 refine at_then ?_
 refine zR ?_
 refine zA ?_
 refine zN ?_
 refine X_ret ?_
 exact at_ret1 rfl rfl (fun w hw => ⟨by rw [pchk_4 hlen hnd hb], hw.drop⟩)
theorem w_ixI {I : HMap} {av : Option Addr} {n c : Nat} {xs : List Int} (hS : Sl I 1 encI av n c xs) (hn : n ≤ 100000) {fid : Nat} {cap : List Value} {P : Int → Bool} (hF : Fun Tryz.prog fid) (hf : ∀ x ∈ xs, RetV Tryz.prog fid ([.int .i64 x] ++ cap) I (.bool (P x))) : RetV Tryz.prog 78 [.slice av n c, .func (.func fid) #[] cap.toArray] I (.int .i64 (idxF P xs)) := by
 intro g H w hw
 refine enter Tryz.func78 rfl Tryz.ntmps78 rfl hw ?_
 have hS := hS
 refine zR ?_
 refine zA ?_
 refine zN ?_
 refine X_seq ?_
 refine zR ?_
 refine zM ?_
 refine zQ slt_38 ?_
 refine zM ?_
 refine zN ?_
 refine X_block ?_
 refine X_loopT [(0, _), (1, _), (7, _)] (.cons rfl (.cons rfl (.cons rfl .nil))) (fun T L0 mz E I' loc' => ∃ (k : Nat), mz = n - k ∧ E = (8, .int .i64 k) :: T ∧ I = I' ∧ L0 = loc' ∧ k ≤ n ∧ (xs.take k).any P = false) _ _ _ _ ⟨0, rfl, rfl, rfl, rfl, Nat.zero_le _, rfl⟩ (.cons rfl (.cons rfl (.cons rfl (.cons rfl .nil)))) (HLe.refl _) rfl ?_
 rintro mz E I' loc' ⟨k, rfl, rfl, rfl, rfl, hk, hno⟩
 refine zR ?_
 refine zC ?_
 refine zN ?_
 refine X_seq ?_
 refine zI ?_ ?_ <;> intro hc9
 ·
  have hlt_k : k < n := by have h := hc9; simp at h; omega
  obtain ⟨x, hx⟩ := hS.at hlt_k
  refine X_skip ?_
  refine at_then ?_
  refine X_seq ?_
  refine X_block ?_
  refine zR ?_
  refine zM ?_
  refine zA ?_
  refine zN (zR ?_)
  refine zM ?_
  refine zM ?_
  refine zM ?_
  refine zV (ev_indexSl rfl rfl slt_38 (by assumption) (fun hg => by omega)) ?_
  refine zV (ev_load rfl sct_3 (fun hg => by exact Sl.get0 hS hx rfl)) ?_
  refine XO_callV0 (cap := cap) (vs := [_]) rfl rfl hF (hf x (List.mem_of_getElem? hx)) rfl rfl ?_
  refine zN ?_
  refine zI ?_ ?_ <;> intro hc16
  ·
   refine zR ?_
   refine zM ?_
   refine zA ?_
   refine zN ?_
   refine X_ret ?_
   refine at_block_r ?_
   refine at_then_r ?_
   refine at_then_r ?_
   refine at_block_r ?_
   refine at_then_r ?_
   exact at_ret1 rfl rfl (fun w hw => ⟨by rw [idx_hit hno hx hc16], hw.drop⟩)
  refine X_skip ?_
  refine at_block_n ?_
  refine at_then ?_
  refine X_region ?_
  refine zV (ev_arB rfl rfl rfl (fun _ => by omega)) ?_
  refine zM ?_
  refine XO_nil ?_
  exact at_met2 _ _ ⟨n - (k + 1), by omega, k + 1, rfl, rfl, rfl, rfl, by omega, any_no hx hno hc16⟩ (.cons rfl (.cons rfl (.cons rfl (.cons rfl .nil)))) (by repeat (first | exact .refl | exact subL_left | refine subL_app ?_ | refine .drop ?_ | refine subL_add ?_))
 have hge_k : n ≤ k := by have h := hc9; simp at h; omega
 refine X_exit ?_
 refine at_then_e ?_
 refine at_then_e ?_
 refine at_block_hit ?_
 refine at_then ?_
 refine zR ?_
 refine zA ?_
 refine zN ?_
 refine X_ret ?_
 exact at_ret1 rfl rfl (fun w hw => ⟨by rw [idx_none hS.len hge_k hno], hw.drop⟩)
theorem w_cnI {I : HMap} {av : Option Addr} {n c : Nat} {xs : List Int} (hS : Sl I 1 encI av n c xs) (hn : n ≤ 100000) {fid : Nat} {cap : List Value} {P : Int → Bool} (hF : Fun Tryz.prog fid) (hf : ∀ x ∈ xs, RetV Tryz.prog fid ([.int .i64 x] ++ cap) I (.bool (P x))) : RetV Tryz.prog 27 [.slice av n c, .func (.func fid) #[] cap.toArray] I (.bool (xs.any P)) := by
 intro g H w hw
 refine enter Tryz.func27 rfl Tryz.ntmps27 rfl hw ?_
 refine zR ?_
 refine zA ?_
 refine zN (zR ?_)
 refine zM ?_
 refine zM ?_
 refine XO_callV0 (cap := []) (vs := [_, _]) rfl rfl fun_78 (w_ixI hS hn hF hf) rfl rfl ?_
 refine zC ?_
 refine zA ?_
 refine zN ?_
 refine X_ret ?_
 exact at_ret1 rfl rfl (fun w hw => ⟨by rw [← idx_any], hw.drop⟩)
theorem w_ixP {I : HMap} {av : Option Addr} {n c : Nat} {ps : List Pt} (hP : SlP I av n c ps) (hn : n ≤ 100000) {fid : Nat} {cap : List Value} {P : Pt → Bool} (hF : Fun Tryz.prog fid) (hf : ∀ x ∈ ps, RetV Tryz.prog fid ([encPA x] ++ cap) I (.bool (P x))) : RetV Tryz.prog 114 [.slice av n c, .func (.func fid) #[] cap.toArray] I (.int .i64 (idxF P ps)) := by
 intro g H w hw
 refine enter Tryz.func114 rfl Tryz.ntmps114 rfl hw ?_
 have hS := hP.1
 refine zR ?_
 refine zA ?_
 refine zN ?_
 refine X_seq ?_
 refine zR ?_
 refine zM ?_
 refine zQ slt_33 ?_
 refine zM ?_
 refine zN ?_
 refine X_block ?_
 refine X_loopT [(0, _), (1, _), (7, _)] (.cons rfl (.cons rfl (.cons rfl .nil))) (fun T L0 mz E I' loc' => ∃ (k : Nat), mz = n - k ∧ E = (8, .int .i64 k) :: T ∧ I = I' ∧ L0 = loc' ∧ k ≤ n ∧ (ps.take k).any P = false) _ _ _ _ ⟨0, rfl, rfl, rfl, rfl, Nat.zero_le _, rfl⟩ (.cons rfl (.cons rfl (.cons rfl (.cons rfl .nil)))) (HLe.refl _) rfl ?_
 rintro mz E I' loc' ⟨k, rfl, rfl, rfl, rfl, hk, hno⟩
 refine zR ?_
 refine zC ?_
 refine zN ?_
 refine X_seq ?_
 refine zI ?_ ?_ <;> intro hc9
 ·
  have hlt_k : k < n := by have h := hc9; simp at h; omega
  obtain ⟨x, hx⟩ := hS.at hlt_k
  refine X_skip ?_
  refine at_then ?_
  refine X_seq ?_
  refine X_block ?_
  refine zR ?_
  refine zM ?_
  refine zA ?_
  refine zN (zR ?_)
  refine zM ?_
  refine zM ?_
  refine zM ?_
  refine zV (ev_indexSl rfl rfl slt_33 (by assumption) (fun hg => by omega)) ?_
  refine zV (ev_loadA rfl agt_44 (fun hg => by exact Sl.getA hS hx) rfl) ?_
  refine XO_callV0 (cap := cap) (vs := [_]) rfl rfl hF (hf x (List.mem_of_getElem? hx)) rfl rfl ?_
  refine zN ?_
  refine zI ?_ ?_ <;> intro hc16
  ·
   refine zR ?_
   refine zM ?_
   refine zA ?_
   refine zN ?_
   refine X_ret ?_
   refine at_block_r ?_
   refine at_then_r ?_
   refine at_then_r ?_
   refine at_block_r ?_
   refine at_then_r ?_
   exact at_ret1 rfl rfl (fun w hw => ⟨by rw [idx_hit hno hx hc16], hw.drop⟩)
  refine X_skip ?_
  refine at_block_n ?_
  refine at_then ?_
  refine X_region ?_
  refine zV (ev_arB rfl rfl rfl (fun _ => by omega)) ?_
  refine zM ?_
  refine XO_nil ?_
  exact at_met2 _ _ ⟨n - (k + 1), by omega, k + 1, rfl, rfl, rfl, rfl, by omega, any_no hx hno hc16⟩ (.cons rfl (.cons rfl (.cons rfl (.cons rfl .nil)))) (by repeat (first | exact .refl | exact subL_left | refine subL_app ?_ | refine .drop ?_ | refine subL_add ?_))
 have hge_k : n ≤ k := by have h := hc9; simp at h; omega
 refine X_exit ?_
 refine at_then_e ?_
 refine at_then_e ?_
 refine at_block_hit ?_
 refine at_then ?_
 refine zR ?_
 refine zA ?_
 refine zN ?_
 refine X_ret ?_
 exact at_ret1 rfl rfl (fun w hw => ⟨by rw [idx_none hS.len hge_k hno], hw.drop⟩)
theorem w_cnP {I : HMap} {av : Option Addr} {n c : Nat} {ps : List Pt} (hP : SlP I av n c ps) (hn : n ≤ 100000) {fid : Nat} {cap : List Value} {P : Pt → Bool} (hF : Fun Tryz.prog fid) (hf : ∀ x ∈ ps, RetV Tryz.prog fid ([encPA x] ++ cap) I (.bool (P x))) : RetV Tryz.prog 89 [.slice av n c, .func (.func fid) #[] cap.toArray] I (.bool (ps.any P)) := by
 intro g H w hw
 refine enter Tryz.func89 rfl Tryz.ntmps89 rfl hw ?_
 refine zR ?_
 refine zA ?_
 refine zN (zR ?_)
 refine zM ?_
 refine zM ?_
 refine XO_callV0 (cap := []) (vs := [_, _]) rfl rfl fun_114 (w_ixP hP hn hF hf) rfl rfl ?_
 refine zC ?_
 refine zA ?_
 refine zN ?_
 refine X_ret ?_
 exact at_ret1 rfl rfl (fun w hw => ⟨by rw [← idx_any], hw.drop⟩)
theorem w_ck1 {I : HMap} {b r : Nat} {s : List (Int × Bool)} (hb : I b = some (.cells #[.map (some r)] 77 (0, 0))) (hr : I r = some (mapO (Value.int .i64) Value.bool s)) (x : Int) : RetV Tryz.prog 28 [.int .i64 x, .pointer (some ⟨b, 0, none⟩)] I (.bool (!setM s x)) := by
 intro g H w hw
 refine enter Tryz.func28 rfl Tryz.ntmps28 rfl hw ?_
 refine zR ?_
 refine zA ?_
 refine zN (zR ?_)
 refine zV (ev_load rfl sct_77 (fun hg => by exact .imm hb rfl)) ?_
 refine zM ?_
 refine zV (ev_lookupBool  mpt_77 key_3 rfl rfl (fun _ => .inl hr)) ?_
 refine zO ?_
 refine zA ?_
 refine zN ?_
 refine X_ret ?_
 exact at_ret1 rfl rfl (fun w hw => ⟨by rfl, hw.drop⟩)
end Go.Proofs.YtoicbikdenlioaaGreat
end
section
namespace Go.Proofs.YtoicbikdenlioaaGreat
open Go Go.Kn Go.Proofs
def idsP (ps : List Pt) : List Int := ps.map (·.id)
def lsQ (ps : List Pt) (i : Nat) : Bool := !((decide ((i : Int) > 0) && decide ((ps.getD i zeroP).id ≤ (ps.getD ((i : Int) - 1).toNat zeroP).id)) || (ps.getD i zeroP).needs.any (fun n => !hasI (ps.take i) n))
theorem lsQ_at {ps : List Pt} {k : Nat} {p : Pt} {l : Int} {s : List (Int × Bool)} (hp : ps[k]? = some p) (h1 : 1 ≤ p.id) (hl : lastI (idsP ps) k l) (hs : ∀ x, setM s x = hasI (ps.take k) x) : lsQ ps k = !(decide (p.id ≤ l) || p.needs.any fun x => !setM s x) := by
  unfold lsQ
  rw [getD_of hp]
  simp only [hs]
  congr 2
  cases k with
  | zero =>
    rw [hl.1 rfl, Bool.eq_iff_iff]; simp; omega
  | succ k =>
    have hk := (List.getElem?_eq_some_iff.1 hp).1
    have hy : ps[k]? = some (ps[k]'(by omega)) := List.getElem?_eq_getElem _
    have e := hl.2 (ps[k]'(by omega)).id (by rw [Nat.add_sub_cancel]; simp [idsP, hy]) (by omega)
    rw [show (((k + 1 : Nat) : Int) - 1).toNat = k by omega, getD_of hy, ← e, Bool.eq_iff_iff]; simp
theorem lastP_step {ps : List Pt} {k : Nat} {p : Pt} (hp : ps[k]? = some p) : lastI (idsP ps) (k + 1) p.id := lastI_step (by simp [idsP, hp])
theorem has_snoc {ps : List Pt} {k : Nat} {p : Pt} (hp : ps[k]? = some p) (x : Int) : hasI (ps.take (k + 1)) x = (decide (p.id = x) || hasI (ps.take k) x) := by
  unfold hasI
  rw [take_snoc hp, List.any_append, Bool.eq_iff_iff]
  simp [or_comm]
theorem has_take {ps : List Pt} {k : Nat} {n : Int} (h : hasI (ps.take k) n = true) : hasI ps n = true := by
  obtain ⟨q, hq, e⟩ := hasI_iff.1 h
  exact hasI_iff.2 ⟨q, List.mem_of_mem_take hq, e⟩
theorem lsQ_lsP {ps : List Pt} (h0 : orF (ps.map pchk) = 0) : (List.range ps.length).all (lsQ ps) = lsB ps := by
  rw [Bool.eq_iff_iff]
  constructor
  · intro h
    unfold lsB
    rw [List.all_eq_true] at h ⊢
    intro i hi
    have := h i hi
    unfold lsQ at this
    unfold lsP
    simp only [Bool.not_eq_true', Bool.or_eq_false_iff] at this ⊢
    refine ⟨this.1, ?_⟩
    have h2 := this.2
    rw [List.any_eq_false] at h2 ⊢
    intro n hn hc
    refine h2 n hn ?_
    rw [Bool.not_eq_true'] at hc ⊢
    cases hh : hasI (ps.take i) n with
    | false => rfl
    | true => rw [has_take hh] at hc; cases hc
  · intro h
    have hL := ls_lst h0 h
    unfold lsB at h
    rw [List.all_eq_true] at h ⊢
    intro i hi
    have := h i hi
    unfold lsP at this
    unfold lsQ
    simp only [Bool.not_eq_true', Bool.or_eq_false_iff] at this ⊢
    refine ⟨this.1, ?_⟩
    rw [List.any_eq_false]
    intro n hn hc
    have hk : ps[i]? = some (ps.getD i zeroP) := some_getD rfl (List.mem_range.1 hi)
    obtain ⟨q, hq, e⟩ := hL.before hk hn
    rw [hasI_iff.2 ⟨q, hq, e⟩] at hc
    cases hc
/-! ### Inserts and removes of a sign -/
def kindL (k : Int) (ps : List Pt) (s : Int) : List Int := (ps.filter fun q => q.kind == k && q.sign == s).map (·.id)
theorem kindL_snoc {c : Int} {ps : List Pt} {k : Nat} {p : Pt} (hp : ps[k]? = some p) (s : Int) : kindL c (ps.take (k + 1)) s = kindL c (ps.take k) s ++ (if p.kind = c ∧ p.sign = s then [p.id] else []) := by
  unfold kindL
  rw [take_snoc hp, List.filter_append, List.map_append]
  congr 1
  by_cases h : p.kind = c ∧ p.sign = s
  · rw [if_pos h]; simp [h.1, h.2]
  · rw [if_neg h]
    have : (p.kind == c && p.sign == s) = false := by
      rw [Bool.eq_false_iff]; intro hc; simp at hc; exact h hc
    simp [this]
theorem mem_kindL {c : Int} {ps : List Pt} {s x : Int} : x ∈ kindL c ps s ↔ ∃ q ∈ ps, q.kind = c ∧ q.sign = s ∧ q.id = x := by
  unfold kindL
  rw [mem_ids]
  simp [and_assoc]
def InsM (mi : List (Int × Int)) (ps : List Pt) : Prop := ∀ s, kindL 2 ps s = (mget mi s).toList
theorem InsM.nil {ps : List Pt} : InsM [] (ps.take 0) := fun s => by simp [kindL, mget]
theorem InsM.put {mi : List (Int × Int)} {ps : List Pt} {k : Nat} {p : Pt} (h : InsM mi (ps.take k)) (hp : ps[k]? = some p) (hk : p.kind = 2) (hn : mget mi p.sign = none) : InsM (mset mi p.sign p.id) (ps.take (k + 1)) := fun s => by
  rw [kindL_snoc hp, h s, mget_mset]
  by_cases e : p.sign = s
  · subst e; rw [if_pos ⟨hk, rfl⟩, if_pos rfl, hn]; rfl
  · rw [if_neg (fun q => e q.2), if_neg e, List.append_nil]
theorem InsM.skip {mi : List (Int × Int)} {ps : List Pt} {k : Nat} {p : Pt} (h : InsM mi (ps.take k)) (hp : ps[k]? = some p) (hk : p.kind ≠ 2) : InsM mi (ps.take (k + 1)) := fun s => by
  rw [kindL_snoc hp, h s, if_neg (fun q => hk q.1), List.append_nil]
def RemM (mr : List (Int × (Value × Nat × List Value))) (ps : List Pt) : Prop := ∀ s, ((mget mr s).getD nilT).2.2 = (kindL 3 ps s).flatMap encI
theorem RemM.nil {ps : List Pt} : RemM [] (ps.take 0) := fun s => by simp [kindL, mget, nilT]
theorem RemM.put {mr : List (Int × (Value × Nat × List Value))} {ps : List Pt} {k n : Nat} {p : Pt} {v : Value} (h : RemM mr (ps.take k)) (hp : ps[k]? = some p) (hk : p.kind = 3) : RemM (mset mr p.sign (v, n, ((mget mr p.sign).getD nilT).2.2 ++ [p.id].flatMap encI)) (ps.take (k + 1)) := fun s => by
  rw [kindL_snoc hp, mget_mset]
  by_cases e : p.sign = s
  · subst e; rw [if_pos rfl, if_pos ⟨hk, rfl⟩, List.flatMap_append, ← h]; rfl
  · rw [if_neg e, if_neg (fun q => e q.2), List.append_nil, h s]
theorem RemM.skip {mr : List (Int × (Value × Nat × List Value))} {ps : List Pt} {k : Nat} {p : Pt} (h : RemM mr (ps.take k)) (hp : ps[k]? = some p) (hk : p.kind ≠ 3) : RemM mr (ps.take (k + 1)) := fun s => by
  rw [kindL_snoc hp, h s, if_neg (fun q => hk q.1), List.append_nil]
theorem kindL_len {c : Int} {ps : List Pt} {s : Int} : (kindL c ps s).length ≤ ps.length := by
  unfold kindL
  rw [List.length_map]
  exact List.length_filter_le _ _
theorem rem_sl {I : HMap} {e : Nat} {mr : List (Int × (Value × Nat × List Value))} {ps : List Pt} {L : Go.Kn.Loc} (h : RemM mr ps) (hA : OwnAll e 1 (mr.map (·.2)) L) (hI : ∀ b o, (b, o) ∈ L → I b = some o) (s : Int) :
    ∃ av c, ((mget mr s).getD nilT).1 = .slice av (kindL 3 ps s).length c ∧ Sl I 1 encI av (kindL 3 ps s).length c (kindL 3 ps s) := by
  obtain ⟨A, Lt, B, rfl, hO, _⟩ := hA.at s
  rw [h s] at hO
  obtain ⟨av, c, e1, e2⟩ := hO.sl encI_len (by decide) (fun b o hb => hI b o (by simp [hb]))
  have hn := e2.len
  rw [← hn] at e1 e2
  exact ⟨av, c, e1, e2⟩
theorem rem_le {e : Nat} {mr : List (Int × (Value × Nat × List Value))} {ps : List Pt} {s : Int} {L : Go.Kn.Loc} (h : RemM mr ps) (hO : OwnS e 1 ((mget mr s).getD nilT).1 ((mget mr s).getD nilT).2.1 ((mget mr s).getD nilT).2.2 L) : ((mget mr s).getD nilT).2.1 ≤ ps.length := by
  have h1 := hO.1
  rw [h s, lenI] at h1
  have h2 := kindL_len (c := 3) (ps := ps) (s := s)
  omega
theorem perm_in {x y : Nat × Obj} {A L B : Go.Kn.Loc} : (x :: y :: (A ++ (L ++ B))).Perm (L ++ (x :: y :: (A ++ B))) := List.perm_append_comm_assoc (x :: y :: A) L B
/-- A patch with those of its sign that put it in or strike it. -/
def tgP (ps : List Pt) (p : Pt) : Bool := !(((kindL 2 ps p.sign).any fun i => p.id != i && !onF ps p.id i) || (kindL 3 ps p.sign).any (onF ps p.id))
theorem tog_eq {ps : List Pt} (hL : Lst ps) {mi : List (Int × Int)} (hi : InsM mi ps) : togA ps = ps.all (tgP ps) := by
  unfold togA
  rw [Bool.eq_iff_iff, List.all_eq_true, List.all_eq_true]
  refine forall_congr' fun p => forall_congr' fun hp => ?_
  unfold tgP
  rw [List.all_eq_true]
  simp only [Bool.not_eq_true', Bool.or_eq_false_iff, List.any_eq_false, mem_kindL]
  constructor
  · intro h
    constructor
    · rintro x ⟨q, hq, h2, hs, rfl⟩ hc
      have := h q hq
      unfold togB at this
      rw [if_neg (by simpa using hs.symm), if_pos h2] at this
      simp at this hc
      rcases this with e | e
      · exact hc.1 e
      · rw [hc.2] at e; cases e.2
    · rintro x ⟨q, hq, h3, hs, rfl⟩ hc
      have := h q hq
      unfold togB at this
      rw [if_neg (by simpa using hs.symm), if_neg (by omega), if_pos h3] at this
      simp at this
      rcases this with e | e
      · rw [e, hL.on_irr] at hc; cases hc
      · rw [e] at hc; cases hc
  · rintro ⟨h1, h2⟩ q hq
    unfold togB
    by_cases hs : p.sign = q.sign
    · rw [if_neg (by simpa using hs)]
      by_cases e : p.id = q.id
      · simp [e]
      · by_cases k2 : q.kind = 2
        · rw [if_pos k2]
          have := h1 q.id ⟨q, hq, k2, hs.symm, rfl⟩
          have hk : p.kind ≠ 2 := fun k => e (by
            have hm1 := mem_kindL.2 ⟨p, hp, k, rfl, rfl⟩
            have hm2 := mem_kindL.2 ⟨q, hq, k2, hs.symm, rfl⟩
            rw [hi p.sign] at hm1 hm2
            cases hg : mget mi p.sign with
            | none => rw [hg] at hm1; cases hm1
            | some z => rw [hg] at hm1 hm2; simp at hm1 hm2; rw [hm1, hm2])
          simp [e] at this
          simp [this, hk]
        · rw [if_neg k2]
          by_cases k3 : q.kind = 3
          · rw [if_pos k3]
            have := h2 q.id ⟨q, hq, k3, hs.symm, rfl⟩
            simp at this
            simp [this]
          · rw [if_neg k3]; simp
    · rw [if_pos hs]; simp
theorem tog_two {ps : List Pt} (hL : Lst ps) {mi : List (Int × Int)} {k : Nat} {p : Pt} {id : Int} (h : InsM mi (ps.take k)) (hp : ps[k]? = some p) (hk : p.kind = 2) (hn : mget mi p.sign = some id) : togA ps = false := by
  have hm : id ∈ kindL 2 (ps.take k) p.sign := by rw [h, hn]; simp
  obtain ⟨q, hq, k2, hs, rfl⟩ := mem_kindL.1 hm
  have hlt := hL.fresh hp q hq
  unfold togA
  rw [Bool.eq_false_iff]
  intro hc
  rw [List.all_eq_true] at hc
  have h1 := hc p (List.mem_of_getElem? hp)
  rw [List.all_eq_true] at h1
  have h2 := h1 q (List.mem_of_mem_take hq)
  unfold togB at h2
  rw [if_neg (by simpa using hs.symm), if_pos k2] at h2
  simp [hk] at h2
  omega
theorem tg_ins {ps : List Pt} {p : Pt} {mi : List (Int × Int)} (hi : InsM mi ps) : ((mget mi p.sign).isSome && (p.id != (mget mi p.sign).getD 0) && !onF ps p.id ((mget mi p.sign).getD 0)) = ((kindL 2 ps p.sign).any fun i => p.id != i && !onF ps p.id i) := by
  rw [hi p.sign]
  cases mget mi p.sign with
  | none => rfl
  | some x => simp
theorem chkR_1 {ps : List Pt} (h : ps.length > 512) : chkR ps = 2 := by unfold chkR; rw [if_pos h]
theorem chkR_2 {ps : List Pt} (h : ¬ ps.length > 512) {k : Nat} {p : Pt} (hp : ps[k]? = some p) (h0 : orF ((ps.take k).map pchk) = 0) (h1 : pchk p ≠ 0) : chkR ps = pchk p := by
  have : orF (ps.map pchk) = pchk p := orF_take (k := k) (by simp [hp]) (by rw [← List.map_take]; exact h0) h1
  unfold chkR; rw [if_neg h, this, if_pos h1]
theorem chkR_3 {ps : List Pt} (h : ¬ ps.length > 512) (h0 : orF (ps.map pchk) = 0) (h1 : lsB ps = false) : chkR ps = 380 := by unfold chkR; rw [if_neg h, if_neg (by omega), h1]; rfl
theorem chkR_4 {ps : List Pt} (h : ¬ ps.length > 512) (h0 : orF (ps.map pchk) = 0) (h1 : lsB ps = true) (h2 : togA ps = false) : chkR ps = 380 := by unfold chkR; rw [if_neg h, if_neg (by omega), h1, h2]; rfl
theorem chkR_5 {ps : List Pt} (h : ¬ ps.length > 512) (h0 : orF (ps.map pchk) = 0) (h1 : lsB ps = true) (h2 : togA ps = true) : chkR ps = 0 := by unfold chkR; rw [if_neg h, if_neg (by omega), h1, h2]; rfl
theorem or_snoc {ps : List Pt} {k : Nat} {p : Pt} (hp : ps[k]? = some p) (h0 : orF ((ps.take k).map pchk) = 0) (h1 : pchk p = 0) : orF ((ps.take (k + 1)).map pchk) = 0 := by
  rw [orF_zero] at h0 ⊢
  intro x hx
  rw [take_snoc hp, List.map_append, List.mem_append] at hx
  rcases hx with hx | hx
  · exact h0 x hx
  · simp at hx; rw [hx, h1]
theorem pchk_pos {p : Pt} (h : pchk p = 0) : 1 ≤ p.id ∧ p.id ≤ 1048576 ∧ 0 ≤ p.sign ∧ p.sign ≤ 1048576 ∧ p.needs.length ≤ 32 := by
  unfold pchk at h
  split at h
  · cases h
  · split at h
    · rename_i h1 h2
      simp only [Bool.and_eq_true] at h2
      have h3 := h2.2.1
      unfold idB at h3
      simp at h3
      omega
    · cases h
theorem nd_of {I : HMap} {av : Option Addr} {n c : Nat} {ps : List Pt} (hP : SlP I av n c ps) (hz : ∀ p ∈ ps, pchk p = 0) : ∀ p ∈ ps, p.n ≤ 100000 := fun p hp => by
  have h1 : Sl I 1 encI p.a p.n p.c p.needs := hP.2 p hp
  have h2 := hz p hp
  have h3 := h1.len
  unfold pchk at h2
  split at h2
  · cases h2
  · omega
theorem nd_chk {I : HMap} {av : Option Addr} {n c : Nat} {ps : List Pt} (hP : SlP I av n c ps) (h : chkR ps = 0) : ∀ p ∈ ps, p.n ≤ 100000 := nd_of hP fun p hp => orF_zero.1 (chkR_ok h).2.1 _ (List.mem_map.2 ⟨p, hp, rfl⟩)
end Go.Proofs.YtoicbikdenlioaaGreat
end
section
namespace Go.Proofs.YtoicbikdenlioaaGreat
open Go Go.Kn Go.Proofs
theorem w_chkR {I : HMap} {av : Option Addr} {n c : Nat} {ps : List Pt} (hP : SlP I av n c ps) (hn : n ≤ 100000) : RetV Tryz.prog 7 [.slice av n c] I (.int .i64 (chkR ps)) := by
 intro g H w hw
 refine enter Tryz.func7 rfl Tryz.ntmps7 rfl hw ?_
 have hIc := HLe.refl I
 refine zR ?_
 refine zA ?_
 refine zN ?_
 refine X_seq ?_
 refine zR ?_
 refine zM ?_
 refine zQ slt_33 ?_
 refine zC ?_
 refine zN ?_
 refine zI ?_ ?_ <;> intro hc24
 ·
  have hlen : ps.length > 512 := by rw [hP.len]; simp at hc24; omega
  refine zR ?_
  refine zA ?_
  refine zN ?_
  refine X_ret ?_
  refine at_then_r ?_
  exact at_ret1 rfl rfl (fun w hw => ⟨by rw [chkR_1 hlen], (hw.mono hIc).drop⟩)
 have hlen : ¬ ps.length > 512 := by rw [hP.len]; simp at hc24; omega
 refine X_skip ?_
 refine at_then ?_
 refine X_seq ?_
 refine zR ?_
 refine zM ?_
 refine zQ slt_33 ?_
 refine zM ?_
 refine zN ?_
 refine X_block ?_
 refine X_loopT [(0, _), (25, _), (26, _)] (.cons rfl (.cons rfl (.cons rfl .nil))) (fun T L0 mz E I' loc' => ∃ (k : Nat) (e : Int), mz = n - k ∧ E = (27, .int .i64 k) :: T ∧ I = I' ∧ L0 = loc' ∧ k ≤ n ∧ e = 0 ∧ orF ((ps.take k).map pchk) = 0) _ _ _ _ ⟨0, 0, rfl, rfl, rfl, rfl, Nat.zero_le _, rfl, rfl⟩ (.cons rfl (.cons rfl (.cons rfl (.cons rfl .nil)))) (HLe.refl _) rfl ?_
 rintro mz E I' loc' ⟨k, e, rfl, rfl, rfl, rfl, hk, he, h0⟩
 refine zR ?_
 refine zC ?_
 refine zN ?_
 refine X_seq ?_
 refine zI ?_ ?_ <;> intro hc28
 ·
  have hlt_k : k < n := by have h := hc28; simp at h; omega
  have hP1 := hP.1
  obtain ⟨p, hp, hN⟩ := hP.at hlt_k
  have hpm := List.mem_of_getElem? hp
  have hN : Sl I 1 encI p.a p.n p.c p.needs := hN
  refine X_skip ?_
  refine at_then ?_
  refine X_seq ?_
  refine X_block ?_
  refine zR ?_
  refine zV (ev_indexSl rfl rfl slt_33 (by assumption) (fun hg => by omega)) ?_
  refine zV (ev_loadA rfl agt_44 (fun hg => by exact Sl.getA hP1 hp) rfl) ?_
  refine XO_alloc zt_44 rfl rfl (fun b_4 => ?_)
  refine XO_storeA rfl rfl szt_44 rfl rfl rfl rfl (by repeat (first | exact Upd.here | apply Upd.there | apply upd_app)) ?_
  refine zN (zR ?_)
  refine zV (ev_loadA rfl agt_44 (fun hg => by (repeat (first | exact Cells.here | exact Cells.s0 (vs := [_, _, _, _, _, _, _, _, _, _, _, _, _, _, _, _, _, _, _]) rfl | apply Cells.there | apply Cells.app))) rfl) ?_
  refine XO_callV0 (cap := []) (vs := [_]) rfl rfl fun_26 (w_pchk p hN) rfl rfl ?_
  refine zA ?_
  refine zN (zR ?_)
  refine zM ?_
  refine zC ?_
  refine zN ?_
  refine zI ?_ ?_ <;> intro hc34
  ·
   have hbad : chkR ps = pchk p := chkR_2 hlen hp h0 (by simpa using hc34)
   refine zR ?_
   refine zM ?_
   refine zA ?_
   refine zN ?_
   refine X_ret ?_
   refine at_block_r ?_
   refine at_then_r ?_
   refine at_then_r ?_
   refine at_block_r ?_
   refine at_then_r ?_
   exact at_ret1 rfl rfl (fun w hw => ⟨by rw [hbad], (hw.mono hIc).drop⟩)
  have hpk : pchk p = 0 := by simpa using hc34
  refine X_skip ?_
  refine at_block_n ?_
  refine at_then ?_
  refine X_region ?_
  refine zV (ev_arB rfl rfl rfl (fun _ => by omega)) ?_
  refine zM ?_
  refine XO_nil ?_
  exact at_met2 _ _ ⟨n - (k + 1), by omega, k + 1, _, rfl, rfl, rfl, rfl, by omega, hpk, or_snoc hp h0 hpk⟩ (.cons rfl (.cons rfl (.cons rfl (.cons rfl .nil)))) (by repeat (first | exact .refl | exact subL_left | refine subL_app ?_ | refine .drop ?_ | refine subL_add ?_))
 have hge_k : n ≤ k := by have h := hc28; simp at h; omega
 have h0 : orF (ps.map pchk) = 0 := by rw [take_all hP.len hge_k] at h0; exact h0
 have hz : ∀ p ∈ ps, pchk p = 0 := fun p hp => orF_zero.1 h0 _ (List.mem_map.2 ⟨p, hp, rfl⟩)
 have hnd := nd_of hP hz
 refine X_exit ?_
 refine at_then_e ?_
 refine at_then_e ?_
 refine at_block_hit ?_
 refine at_then ?_
 refine zR ?_
 refine XO_makeMap rfl rfl (fun r_37 => ?_)
 refine XO_alloc zt_77 rfl rfl (fun b_5 => ?_)
 refine zS szt_77 ?_
 refine zA ?_
 refine zN ?_
 refine X_seq ?_
 refine zR ?_
 refine zM ?_
 refine zQ slt_33 ?_
 refine zM ?_
 refine zN ?_
 refine X_block ?_
 refine X_loopT [(0, _), (5, _), (38, _), (39, _)] (.cons rfl (.cons rfl (.cons rfl (.cons rfl .nil)))) (fun T L0 mz E I' loc' => ∃ (k : Nat) (l : Int) (s : List (Int × Bool)), mz = n - k ∧ E = (6, .int .i64 l) :: (40, .int .i64 k) :: T ∧ I = I' ∧ [(b_5, .cells #[.map (some r_37)] 77 (0, 0)), (r_37, mapO (Value.int .i64) Value.bool s)] = loc' ∧ k ≤ n ∧ (List.range k).all (lsQ ps) = true ∧ lastI (idsP ps) k l ∧ ∀ x, setM s x = hasI (ps.take k) x) _ _ _ _ ⟨0, 0, [], rfl, rfl, rfl, rfl, Nat.zero_le _, rfl, ⟨fun _ => rfl, fun y hy h => absurd rfl h⟩, fun x => rfl⟩ (.cons rfl (.cons rfl (.cons rfl (.cons rfl (.cons rfl (.cons rfl .nil)))))) (HLe.refl _) rfl ?_
 rintro mz E I' loc' ⟨k, l, s, rfl, rfl, rfl, rfl, hk, hall, hl, hs⟩
 refine zR ?_
 refine zC ?_
 refine zN ?_
 refine X_seq ?_
 refine zI ?_ ?_ <;> intro hc41
 ·
  have hlt_k : k < n := by have h := hc41; simp at h; omega
  have hP1 := hP.1
  obtain ⟨p, hp, hN⟩ := hP.at hlt_k
  have hpm := List.mem_of_getElem? hp
  have hN : Sl I 1 encI p.a p.n p.c p.needs := hN
  have hpn := hnd p hpm
  have hp1 := (pchk_pos (hz p hpm)).1
  refine X_skip ?_
  refine at_then ?_
  refine X_seq ?_
  refine X_block ?_
  refine zR ?_
  refine zV (ev_indexSl rfl rfl slt_33 (by assumption) (fun hg => by omega)) ?_
  refine zV (ev_loadA rfl agt_44 (fun hg => by exact Sl.getA hP1 hp) rfl) ?_
  refine XO_alloc zt_44 rfl rfl (fun b_8 => ?_)
  refine XO_storeA rfl rfl szt_44 rfl rfl rfl rfl (by repeat (first | exact Upd.here | apply Upd.there | apply upd_app)) ?_
  refine zN ?_
  refine X_seq ?_
  refine zR ?_
  refine zF fld_44_0 ?_
  refine zV (ev_load rfl sct_3 (fun hg => by (repeat (first | exact Cell.here rfl | apply Cell.there | apply Cell.app)))) ?_
  refine zM ?_
  refine zC ?_
  refine zM ?_
  refine XO_pushF 4 rfl rfl rfl ?_
  refine zJ (ev_fieldAddr rfl fld_44_5) ?_
  refine zJ (ev_load rfl sct_38 (fun hg => by (repeat (first | exact Cell.here rfl | apply Cell.there | apply Cell.app)))) ?_
  refine zJ (ev_makeFunc (us := []) (vs := [_]) rfl rfl) ?_
  refine XO_callK1 (cap := []) (vs := [_, _]) rfl rfl fun_27 split_all (fun hg => RetK.ofV fun I' hI' hL' => w_cnI (cap := [.pointer (some ⟨b_5, 0, none⟩)]) (hN.mono hI') hpn fun_28 (fun x _ => w_ck1 (b := b_5) (r := r_37) (s := s) (hL' b_5 _ (by simp)) (hL' r_37 _ (by simp)) x)) (.some rfl rfl rfl rfl gbf) rfl rfl ?_
  refine XO_or0 rfl rfl rfl rfl rfl ?_
  refine zN ?_
  refine zI ?_ ?_ <;> intro hc53
  ·
   have hbad : chkR ps = 380 := chkR_3 hlen h0 (by rw [← lsQ_lsP h0]; exact range_bad (k := k) (by rw [hP.len]; exact hlt_k) (by rw [lsQ_at hp hp1 hl hs]; exact congrArg (! ·) hc53))
   refine zR ?_
   refine zA ?_
   refine zN ?_
   refine X_ret ?_
   refine at_then_r ?_
   refine at_block_r ?_
   refine at_then_r ?_
   refine at_then_r ?_
   refine at_block_r ?_
   refine at_then_r ?_
   exact at_ret1 rfl rfl (fun w hw => ⟨by rw [hbad], (hw.mono hIc).drop⟩)
  refine X_skip ?_
  refine at_then ?_
  have hD := HLe.refl I
  refine X_noP ?_
  refine X_drawS I [(b_8, .cells (encP p).toArray 44 (0, 0)), (b_5, .cells #[.map (some r_37)] 77 (0, 0))] mixed ?_
  refine zT 0 rfl (ev_load rfl sct_77 (fun hg => by (repeat (first | exact Cell.here rfl | apply Cell.there | apply Cell.app)))) hD ?_
  refine zT 1 rfl (ev_fieldAddr rfl fld_44_0) hD ?_
  refine zT 2 rfl (ev_load rfl sct_3 (fun hg => by (repeat (first | exact Cell.here rfl | apply Cell.there | apply Cell.app)))) hD ?_
  refine zT 3 rfl (ev_fieldAddr rfl fld_44_0) hD ?_
  refine zT 4 rfl (ev_load rfl sct_3 (fun hg => by (repeat (first | exact Cell.here rfl | apply Cell.there | apply Cell.app)))) hD ?_
  refine XD_one 5 rfl (by kernel_rfl) ?_
  refine XO_mapUpdate (m := s) (ek := Value.int .i64) (ev := Value.bool) (a := p.id)  true mpt_77 key_3 rfl rfl rfl rfl (by repeat (first | exact Upd.here | apply Upd.there | apply upd_app)) ?_
  refine XO_nil ?_
  refine zD hD ?_
  refine zT 6 rfl (ev_assign rfl) hD ?_
  refine XD_done (by kernel_rfl) ?_
  refine at_noP ?_
  refine at_block_n ?_
  refine at_then ?_
  refine X_region ?_
  refine zV (ev_arB rfl rfl rfl (fun _ => by omega)) ?_
  refine zM ?_
  refine XO_nil ?_
  exact at_met2 _ _ ⟨n - (k + 1), by omega, k + 1, _, _, rfl, rfl, rfl, rfl, by omega, range_step hall (by rw [lsQ_at hp hp1 hl hs]; exact congrArg (! ·) hc53), lastP_step hp, fun x => by rw [setM_put, hs, has_snoc hp]⟩ (.cons rfl (.cons rfl (.cons rfl (.cons rfl (.cons rfl (.cons rfl .nil)))))) (by repeat (first | exact .refl | exact subL_left | refine subL_app ?_ | refine .drop ?_ | refine subL_add ?_))
 have hge_k : n ≤ k := by have h := hc41; simp at h; omega
 have hls : lsB ps = true := by rw [← lsQ_lsP h0, hP.len, show n = k by omega]; exact hall
 have hL : Lst ps := ls_lst h0 hls
 refine X_exit ?_
 refine at_then_e ?_
 refine at_then_e ?_
 refine at_block_hit ?_
 refine at_then ?_
 refine zR ?_
 refine zM ?_
 refine XO_callM (cap := []) (vs := [_]) rfl rfl fun_29 .nil (w_stands hP hn hL hnd) rfl rfl ?_
 rintro vv3 I3 L3 hI3 ⟨rfl, r9, rfl, hOn⟩
 have hP := hP.mono hI3; have hIc := hIc.trans hI3
 refine zA ?_
 refine zN (zR ?_)
 refine XO_makeMap rfl rfl (fun r_62 => ?_)
 refine XO_makeMap rfl rfl (fun r_63 => ?_)
 refine zA ?_
 refine zA ?_
 refine zN ?_
 refine X_seq ?_
 refine X_seq ?_
 refine X_dropTo [(r_63, mapO (Value.int .i64) fstT []), (r_62, mapO (Value.int .i64) (Value.int .i64) [])] (by repeat (first | exact subL_nil | exact .refl | refine .keep ?_ | refine .drop ?_)) ?_
 refine X_region ?_
 refine zM ?_
 refine zQ slt_33 ?_
 refine zM ?_
 refine zN ?_
 refine X_block ?_
 refine X_loopT [(0, _), (9, _), (10, _), (11, _), (64, _), (65, _)] (.cons rfl (.cons rfl (.cons rfl (.cons rfl (.cons rfl (.cons rfl .nil)))))) (fun T L0 mz E I' loc' => ∃ (k : Nat) (mi : List (Int × Int)) (mr : List (Int × (Value × Nat × List Value))) (L : Go.Kn.Loc), mz = n - k ∧ E = (66, .int .i64 k) :: T ∧ I3 = I' ∧ (r_63, mapO (Value.int .i64) fstT mr) :: (r_62, mapO (Value.int .i64) (Value.int .i64) mi) :: L = loc' ∧ k ≤ n ∧ InsM mi (ps.take k) ∧ RemM mr (ps.take k) ∧ OwnAll 3 1 (mr.map (·.2)) L) _ _ _ _ ⟨0, [], [], [], rfl, rfl, rfl, rfl, Nat.zero_le _, InsM.nil, RemM.nil, OwnAll.nil⟩ (.cons rfl (.cons rfl (.cons rfl (.cons rfl (.cons rfl (.cons rfl (.cons rfl .nil))))))) (HLe.refl _) rfl ?_
 rintro mz E I' loc' ⟨k, mi, mr, L, rfl, rfl, rfl, rfl, hk, hmi, hmr, hAll⟩
 refine zR ?_
 refine zC ?_
 refine zN ?_
 refine X_seq ?_
 refine zI ?_ ?_ <;> intro hc67
 ·
  have hlt_k : k < n := by have h := hc67; simp at h; omega
  have hP1 := hP.1
  obtain ⟨p, hp, hN⟩ := hP.at hlt_k
  have hpm := List.mem_of_getElem? hp
  have hN : Sl I3 1 encI p.a p.n p.c p.needs := hN
  have hpn := hnd p hpm
  refine X_skip ?_
  refine at_then ?_
  refine X_seq ?_
  refine X_block ?_
  refine zR ?_
  refine zV (ev_indexSl rfl rfl slt_33 (by assumption) (fun hg => by omega)) ?_
  refine zV (ev_loadA rfl agt_44 (fun hg => by exact Sl.getA hP1 hp) rfl) ?_
  refine XO_alloc zt_44 rfl rfl (fun b_13 => ?_)
  refine XO_storeA rfl rfl szt_44 rfl rfl rfl rfl (by repeat (first | exact Upd.here | apply Upd.there | apply upd_app)) ?_
  refine zN (zR ?_)
  refine zF fld_44_1 ?_
  refine zV (ev_load rfl sct_3 (fun hg => by (repeat (first | exact Cell.here rfl | apply Cell.there | apply Cell.app)))) ?_
  refine zN ?_
  refine X_block ?_
  refine zR ?_
  refine zC ?_
  refine zA ?_
  refine zN ?_
  refine zI ?_ ?_ <;> intro hc72
  ·
   have hk2 : p.kind = 2 := by simpa using hc72
   refine X_seq ?_
   refine zR ?_
   refine zM ?_
   refine zF fld_44_2 ?_
   refine zV (ev_load rfl sct_3 (fun hg => by (repeat (first | exact Cell.here rfl | apply Cell.there | apply Cell.app)))) ?_
   refine zV (ev_lookupOkI (m := mi) (ek := Value.int .i64) (a := p.sign)  mpt_82 key_3 rfl rfl (fun _ => .inr (by simp))) ?_
   refine zM ?_
   refine zE ?_
   refine zE ?_
   refine zA ?_
   refine zA ?_
   refine zN (zR ?_)
   refine zM ?_
   refine zN ?_
   refine zI ?_ ?_ <;> intro hc81
   ·
    obtain ⟨id, hid⟩ := Option.isSome_iff_exists.1 hc81
    have hbad : chkR ps = 380 := chkR_4 hlen h0 hls (tog_two hL hmi hp hk2 hid)
    refine zR ?_
    refine zA ?_
    refine zN ?_
    refine X_ret ?_
    refine at_then_r ?_
    refine at_block_r ?_
    refine at_block_r ?_
    refine at_then_r ?_
    refine at_then_r ?_
    refine at_block_r ?_
    refine at_then_r ?_
    exact at_ret1 rfl rfl (fun w hw => ⟨by rw [hbad], (hw.mono hIc).drop⟩)
   have hnone : mget mi p.sign = none := by simpa using hc81
   refine X_skip ?_
   refine at_then ?_
   refine X_region ?_
   refine zM ?_
   refine zF fld_44_2 ?_
   refine zV (ev_load rfl sct_3 (fun hg => by (repeat (first | exact Cell.here rfl | apply Cell.there | apply Cell.app)))) ?_
   refine zF fld_44_0 ?_
   refine zV (ev_load rfl sct_3 (fun hg => by (repeat (first | exact Cell.here rfl | apply Cell.there | apply Cell.app)))) ?_
   refine XO_mapUpdate (m := mi) (ek := Value.int .i64) (ev := Value.int .i64) (a := p.sign)  p.id mpt_82 key_3 rfl rfl rfl rfl (by repeat (first | exact Upd.here | apply Upd.there | apply upd_app)) ?_
   refine XO_nil ?_
   refine at_block_n ?_
   refine at_block_n ?_
   refine at_then ?_
   refine X_region ?_
   refine zV (ev_arB rfl rfl rfl (fun _ => by omega)) ?_
   refine zM ?_
   refine XO_nil ?_
   exact at_met2 _ _ ⟨n - (k + 1), by omega, k + 1, _, _, _, rfl, rfl, rfl, rfl, by omega, hmi.put hp hk2 hnone, hmr.skip hp (by omega), hAll⟩ (.cons rfl (.cons rfl (.cons rfl (.cons rfl (.cons rfl (.cons rfl (.cons rfl .nil))))))) (by repeat (first | exact .refl | exact subL_left | refine subL_app ?_ | refine .drop ?_ | refine subL_add ?_))
  have hk2n : p.kind ≠ 2 := by simpa using hc72
  refine zR ?_
  refine zC ?_
  refine zA ?_
  refine zN ?_
  refine zI ?_ ?_ <;> intro hc87
  ·
   have hk3 : p.kind = 3 := by simpa using hc87
   obtain ⟨A, Lt, B, rfl, hOt, hset⟩ := hAll.at p.sign
   have hq := rem_le hmr hOt
   have hq2 := List.length_take_le k ps
   have hD := HLe.refl I3
   refine X_noP ?_
   refine X_drawS I3 [(b_13, .cells (encP p).toArray 44 (0, 0))] mixed ?_
   refine zT 0 rfl (ev_move rfl) hD ?_
   refine zT 1 rfl (ev_fieldAddr rfl fld_44_2) hD ?_
   refine zT 2 rfl (ev_load rfl sct_3 (fun hg => by (repeat (first | exact Cell.here rfl | apply Cell.there | apply Cell.app)))) hD ?_
   refine zT 3 rfl (ev_move rfl) hD ?_
   refine zT 4 rfl (ev_fieldAddr rfl fld_44_2) hD ?_
   refine zT 5 rfl (ev_load rfl sct_3 (fun hg => by (repeat (first | exact Cell.here rfl | apply Cell.there | apply Cell.app)))) hD ?_
   refine zT 7 rfl (ev_fieldAddr rfl fld_44_0) hD ?_
   refine zT 8 rfl (ev_load rfl sct_3 (fun hg => by (repeat (first | exact Cell.here rfl | apply Cell.there | apply Cell.app)))) hD ?_
   refine XD_two 6 9 rfl rfl (by kernel_rfl) ?_ ?_
   ·
    refine zV (ev_lookupT (m := mr) (ek := Value.int .i64) (a := p.sign)  mpt_83 key_3 rfl rfl (fun _ => .inr (by simp))) ?_
    refine XO_nil ?_
    refine zD hD ?_
    refine XD_one 9 rfl (by kernel_rfl) ?_
    refine XO_buildSlice (ps := [(0, _)]) (m := [encI p.id]) elt_38 rfl (.cons rfl (.nil)) rfl (by simp [encI_len]) (by decide) (by decide) rfl rfl (fun b_98 => ?_)
    refine XO_nil ?_
    refine zD hD ?_
    refine XD_one 10 rfl (by kernel_rfl) ?_
    refine XO_append (v := _) (ys := [p.id].flatMap encI) (L := Lt) rfl rfl elt_38 hOt (by repeat (first | exact .cons .here .nil | exact split_all | exact split_app | apply split_cons | apply split_skip)) ⟨rfl, fun _ => rfl, Cells.here⟩ (one_I [p.id]) (by omega) rfl rfl ?_
    intro v9 L9 hO9 _
    refine XO_nil ?_
    refine zD hD ?_
    refine XD_one 11 rfl (by kernel_rfl) ?_
    refine XO_mapUpdate (m := mr) (ek := Value.int .i64) (ev := fstT) (a := p.sign)  (v9, ((mget mr p.sign).getD nilT).2.1 + 1, ((mget mr p.sign).getD nilT).2.2 ++ [p.id].flatMap encI) mpt_83 key_3 rfl rfl rfl rfl (by repeat (first | exact Upd.here | apply Upd.there | apply upd_app)) ?_
    refine XO_nil ?_
    refine zD hD ?_
    refine XD_done (by kernel_rfl) ?_
    refine at_noP ?_
    refine at_block_n ?_
    refine at_block_n ?_
    refine at_then ?_
    refine X_region ?_
    refine zV (ev_arB rfl rfl rfl (fun _ => by omega)) ?_
    refine zM ?_
    refine XO_nil ?_
    exact at_metP _ _ (L9 ++ ((r_63, _) :: (r_62, _) :: (A ++ B))) ⟨n - (k + 1), by omega, k + 1, _, _, A ++ (L9 ++ B), rfl, rfl, rfl, rfl, by omega, hmi.skip hp hk2n, hmr.put hp hk3, hset (v9, _, _) L9 hO9⟩ (.cons rfl (.cons rfl (.cons rfl (.cons rfl (.cons rfl (.cons rfl (.cons rfl .nil))))))) perm_in (by repeat (first | exact .refl | exact subL_left | refine subL_app ?_ | refine .drop ?_ | refine subL_add ?_))
   refine XO_buildSlice (ps := [(0, _)]) (m := [encI p.id]) elt_38 rfl (.cons rfl (.nil)) rfl (by simp [encI_len]) (by decide) (by decide) rfl rfl (fun b_98 => ?_)
   refine XO_nil ?_
   refine zD hD ?_
   refine XD_one 6 rfl (by kernel_rfl) ?_
   refine zV (ev_lookupT (m := mr) (ek := Value.int .i64) (a := p.sign)  mpt_83 key_3 rfl rfl (fun _ => .inr (by simp))) ?_
   refine XO_nil ?_
   refine zD hD ?_
   refine XD_one 10 rfl (by kernel_rfl) ?_
   refine XO_append (v := _) (ys := [p.id].flatMap encI) (L := Lt) rfl rfl elt_38 hOt (by repeat (first | exact .cons .here .nil | exact split_all | exact split_app | apply split_cons | apply split_skip)) ⟨rfl, fun _ => rfl, Cells.here⟩ (one_I [p.id]) (by omega) rfl rfl ?_
   intro v9 L9 hO9 _
   refine XO_nil ?_
   refine zD hD ?_
   refine XD_one 11 rfl (by kernel_rfl) ?_
   refine XO_mapUpdate (m := mr) (ek := Value.int .i64) (ev := fstT) (a := p.sign)  (v9, ((mget mr p.sign).getD nilT).2.1 + 1, ((mget mr p.sign).getD nilT).2.2 ++ [p.id].flatMap encI) mpt_83 key_3 rfl rfl rfl rfl (by repeat (first | exact Upd.here | apply Upd.there | apply upd_app)) ?_
   refine XO_nil ?_
   refine zD hD ?_
   refine XD_done (by kernel_rfl) ?_
   refine at_noP ?_
   refine at_block_n ?_
   refine at_block_n ?_
   refine at_then ?_
   refine X_region ?_
   refine zV (ev_arB rfl rfl rfl (fun _ => by omega)) ?_
   refine zM ?_
   refine XO_nil ?_
   exact at_metP _ _ (L9 ++ ((r_63, _) :: (r_62, _) :: (A ++ B))) ⟨n - (k + 1), by omega, k + 1, _, _, A ++ (L9 ++ B), rfl, rfl, rfl, rfl, by omega, hmi.skip hp hk2n, hmr.put hp hk3, hset (v9, _, _) L9 hO9⟩ (.cons rfl (.cons rfl (.cons rfl (.cons rfl (.cons rfl (.cons rfl (.cons rfl .nil))))))) perm_in (by repeat (first | exact .refl | exact subL_left | refine subL_app ?_ | refine .drop ?_ | refine subL_add ?_))
  have hk3n : p.kind ≠ 3 := by simpa using hc87
  refine X_skip ?_
  refine at_block_n ?_
  refine at_block_n ?_
  refine at_then ?_
  refine X_region ?_
  refine zV (ev_arB rfl rfl rfl (fun _ => by omega)) ?_
  refine zM ?_
  refine XO_nil ?_
  exact at_met2 _ _ ⟨n - (k + 1), by omega, k + 1, _, _, _, rfl, rfl, rfl, rfl, by omega, hmi.skip hp hk2n, hmr.skip hp hk3n, hAll⟩ (.cons rfl (.cons rfl (.cons rfl (.cons rfl (.cons rfl (.cons rfl (.cons rfl .nil))))))) (by repeat (first | exact .refl | exact subL_left | refine subL_app ?_ | refine .drop ?_ | refine subL_add ?_))
 have hge_k : n ≤ k := by have h := hc67; simp at h; omega
 rw [take_all hP.len hge_k] at hmi hmr
 refine X_exit ?_
 refine at_then_e ?_
 refine at_then_e ?_
 refine at_block_hit ?_
 refine at_then ?_
 refine X_seq ?_
 refine X_seq ?_
 refine X_freezeAll (fun I5 hI5 hb5 => ?_)
 have hP := hP.mono hI5; have hOn := hOn.mono hI5; have hIc := hIc.trans hI5
 have hmiI : I5 r_62 = some (mapO (Value.int .i64) (Value.int .i64) mi) := hb5 _ _ (by simp)
 have hmrI : I5 r_63 = some (mapO (Value.int .i64) fstT mr) := hb5 _ _ (by simp)
 have hrem := rem_sl hmr hAll (fun b o h => hb5 b o (by simp [h]))
 obtain ⟨m, hm1, hm2⟩ := hOn
 refine X_region ?_
 refine zM ?_
 refine zQ slt_33 ?_
 refine zM ?_
 refine zN ?_
 refine X_block ?_
 refine X_loopT [(9, _), (10, _), (11, _), (101, _), (102, _)] (.cons rfl (.cons rfl (.cons rfl (.cons rfl (.cons rfl .nil))))) (fun T L0 mz E I' loc' => ∃ (k : Nat), mz = n - k ∧ E = (103, .int .i64 k) :: T ∧ I5 = I' ∧ [] = loc' ∧ k ≤ n ∧ (ps.take k).all (tgP ps) = true) _ _ _ _ ⟨0, rfl, rfl, rfl, rfl, Nat.zero_le _, rfl⟩ (.cons rfl (.cons rfl (.cons rfl (.cons rfl (.cons rfl (.cons rfl .nil)))))) (HLe.refl _) rfl ?_
 rintro mz E I' loc' ⟨k, rfl, rfl, rfl, rfl, hk, htg⟩
 refine zR ?_
 refine zC ?_
 refine zN ?_
 refine X_seq ?_
 refine zI ?_ ?_ <;> intro hc104
 ·
  have hlt_k : k < n := by have h := hc104; simp at h; omega
  have hP1 := hP.1
  obtain ⟨p, hp, hN⟩ := hP.at hlt_k
  have hpm := List.mem_of_getElem? hp
  have hN : Sl I5 1 encI p.a p.n p.c p.needs := hN
  have hpn := hnd p hpm
  obtain ⟨ref, hget, sn, hsn, hsq⟩ := hm2.get ⟨p, hpm, rfl⟩
  refine X_skip ?_
  refine at_then ?_
  refine X_seq ?_
  refine X_block ?_
  refine zR ?_
  refine zV (ev_indexSl rfl rfl slt_33 (by assumption) (fun hg => by omega)) ?_
  refine zV (ev_loadA rfl agt_44 (fun hg => by exact Sl.getA hP1 hp) rfl) ?_
  refine XO_alloc zt_44 rfl rfl (fun b_17 => ?_)
  refine XO_storeA rfl rfl szt_44 rfl rfl rfl rfl (by repeat (first | exact Upd.here | apply Upd.there | apply upd_app)) ?_
  refine zN ?_
  refine X_seq ?_
  refine zR ?_
  refine zM ?_
  refine zF fld_44_2 ?_
  refine zV (ev_load rfl sct_3 (fun hg => by (repeat (first | exact Cell.here rfl | apply Cell.there | apply Cell.app)))) ?_
  refine zV (ev_lookupOkI (m := mi) (ek := Value.int .i64) (a := p.sign)  mpt_82 key_3 rfl rfl (fun _ => .inl hmiI)) ?_
  refine zM ?_
  refine zE ?_
  refine zE ?_
  refine zA ?_
  refine zA ?_
  refine zN (zR ?_)
  refine zM ?_
  refine zM ?_
  refine XO_pushT 1 rfl rfl rfl ?_
  refine zK (ev_fieldAddr rfl fld_44_0) ?_
  refine zK (ev_load rfl sct_3 (fun hg => by (repeat (first | exact Cell.here rfl | apply Cell.there | apply Cell.app)))) ?_
  refine zK (ev_move rfl) ?_
  refine zK (ev_cmp rfl rfl rfl) ?_
  refine XO_and0 rfl rfl rfl rfl rfl ?_
  refine zM ?_
  refine XO_pushT 7 rfl rfl rfl ?_
  refine zK (ev_move rfl) ?_
  refine zK (ev_fieldAddr rfl fld_44_0) ?_
  refine zK (ev_load rfl sct_3 (fun hg => by (repeat (first | exact Cell.here rfl | apply Cell.there | apply Cell.app)))) ?_
  refine zK (ev_lookupG (m := m) (ek := Value.int .i64) (ev := refV) (a := p.id) hget mpt_80 key_3 rfl rfl (fun _ => .inl hm1)) ?_
  refine zK (ev_move rfl) ?_
  refine zK (ev_lookupBool (m := sn) mpt_77 key_3 rfl rfl (fun _ => .inl hsn)) ?_
  refine zK (ev_not rfl) ?_
  refine XO_and0 rfl rfl rfl rfl rfl ?_
  refine zN ?_
  refine zI ?_ ?_ <;> intro hc129
  ·
   have hA := hc129
   simp only [show ∀ x, (mget sn x).getD false = onF ps p.id x from fun x => hsq.mem x] at hA
   have hbad : chkR ps = 380 := chkR_4 hlen h0 hls (by rw [tog_eq hL hmi]; exact all_no hp (by unfold tgP; rw [← tg_ins hmi, hA]; rfl))
   refine zR ?_
   refine zA ?_
   refine zN ?_
   refine X_ret ?_
   refine at_then_r ?_
   refine at_block_r ?_
   refine at_then_r ?_
   refine at_then_r ?_
   refine at_block_r ?_
   refine at_then_r ?_
   exact at_ret1 rfl rfl (fun w hw => ⟨by rw [hbad], (hw.mono hIc).drop⟩)
  have hA := hc129
  simp only [show ∀ x, (mget sn x).getD false = onF ps p.id x from fun x => hsq.mem x] at hA
  refine X_skip ?_
  refine at_then ?_
  refine X_seq ?_
  obtain ⟨av2, c2, hv2, hS2⟩ := hrem p.sign
  have hk3l := kindL_len (c := 3) (ps := ps) (s := p.sign)
  have hpl := hP.len
  refine X_region ?_
  refine zM ?_
  refine zF fld_44_2 ?_
  refine zV (ev_load rfl sct_3 (fun hg => by (repeat (first | exact Cell.here rfl | apply Cell.there | apply Cell.app)))) ?_
  refine zV (ev_lookupTE (m := mr) (ek := Value.int .i64) (a := p.sign) hv2 mpt_83 key_3 rfl rfl (fun _ => .inl hmrI)) ?_
  refine zQ slt_38 ?_
  refine zM ?_
  refine zN ?_
  refine X_block ?_
  refine X_loopT [(9, _), (10, _), (11, _), (17, _), (101, _), (102, _), (103, _), (133, _), (134, _)] (.cons rfl (.cons rfl (.cons rfl (.cons rfl (.cons rfl (.cons rfl (.cons rfl (.cons rfl (.cons rfl .nil))))))))) (fun T L0 mz E I' loc' => ∃ (j : Nat), mz = (kindL 3 ps p.sign).length - j ∧ E = (135, .int .i64 j) :: T ∧ I5 = I' ∧ [(b_17, .cells (encP p).toArray 44 (0, 0))] = loc' ∧ j ≤ (kindL 3 ps p.sign).length ∧ ((kindL 3 ps p.sign).take j).any (onF ps p.id) = false) _ _ _ _ ⟨0, rfl, rfl, rfl, rfl, Nat.zero_le _, rfl⟩ (.cons rfl (.cons rfl (.cons rfl (.cons rfl (.cons rfl (.cons rfl (.cons rfl (.cons rfl (.cons rfl (.cons rfl .nil)))))))))) (HLe.refl _) rfl ?_
  rintro mz E I' loc' ⟨j, rfl, rfl, rfl, rfl, hj, hno⟩
  refine zR ?_
  refine zC ?_
  refine zN ?_
  refine X_seq ?_
  refine zI ?_ ?_ <;> intro hc136
  ·
   have hlt_j : j < (kindL 3 ps p.sign).length := by have h := hc136; simp at h; omega
   obtain ⟨y, hy⟩ := hS2.at hlt_j
   refine X_skip ?_
   refine at_then ?_
   refine X_seq ?_
   refine X_block ?_
   refine zR ?_
   refine zV (ev_indexSl rfl rfl slt_38 (by assumption) (fun hg => by omega)) ?_
   refine zV (ev_load rfl sct_3 (fun hg => by exact Sl.get0 hS2 hy rfl)) ?_
   refine zA ?_
   refine zN (zR ?_)
   refine zM ?_
   refine zF fld_44_0 ?_
   refine zV (ev_load rfl sct_3 (fun hg => by (repeat (first | exact Cell.here rfl | apply Cell.there | apply Cell.app)))) ?_
   refine zV (ev_lookupG (m := m) (ek := Value.int .i64) (ev := refV) (a := p.id) hget mpt_80 key_3 rfl rfl (fun _ => .inl hm1)) ?_
   refine zM ?_
   refine zV (ev_lookupBool (m := sn) mpt_77 key_3 rfl rfl (fun _ => .inl hsn)) ?_
   refine zN ?_
   refine zI ?_ ?_ <;> intro hc144
   ·
    have hon := hc144
    simp only [show ∀ x, (mget sn x).getD false = onF ps p.id x from fun x => hsq.mem x] at hon
    have hbad : chkR ps = 380 := chkR_4 hlen h0 hls (by rw [tog_eq hL hmi]; exact all_no hp (by unfold tgP; rw [any_yes hy hon, Bool.or_true]; rfl))
    refine zR ?_
    refine zA ?_
    refine zN ?_
    refine X_ret ?_
    refine at_block_r ?_
    refine at_then_r ?_
    refine at_then_r ?_
    refine at_block_r ?_
    refine at_block_r ?_
    refine at_then_r ?_
    refine at_then_r ?_
    refine at_block_r ?_
    refine at_then_r ?_
    exact at_ret1 rfl rfl (fun w hw => ⟨by rw [hbad], (hw.mono hIc).drop⟩)
   have hon := hc144
   simp only [show ∀ x, (mget sn x).getD false = onF ps p.id x from fun x => hsq.mem x] at hon
   refine X_skip ?_
   refine at_block_n ?_
   refine at_then ?_
   refine X_region ?_
   refine zV (ev_arB rfl rfl rfl (fun _ => by omega)) ?_
   refine zM ?_
   refine XO_nil ?_
   exact at_met2 _ _ ⟨(kindL 3 ps p.sign).length - (j + 1), by omega, j + 1, rfl, rfl, rfl, rfl, by omega, any_no hy hno hon⟩ (.cons rfl (.cons rfl (.cons rfl (.cons rfl (.cons rfl (.cons rfl (.cons rfl (.cons rfl (.cons rfl (.cons rfl .nil)))))))))) (by repeat (first | exact .refl | exact subL_left | refine subL_app ?_ | refine .drop ?_ | refine subL_add ?_))
  have hge_j : (kindL 3 ps p.sign).length ≤ j := by have h := hc136; simp at h; omega
  rw [take_all rfl hge_j] at hno
  have htp : tgP ps p = true := by unfold tgP; rw [← tg_ins hmi, hA, hno]; rfl
  refine X_exit ?_
  refine at_then_e ?_
  refine at_then_e ?_
  refine at_block_hit ?_
  refine at_block_n ?_
  refine at_then ?_
  refine X_region ?_
  refine zV (ev_arB rfl rfl rfl (fun _ => by omega)) ?_
  refine zM ?_
  refine XO_nil ?_
  exact at_met2 _ _ ⟨n - (k + 1), by omega, k + 1, rfl, rfl, rfl, rfl, by omega, all_yes hp htg htp⟩ (.cons rfl (.cons rfl (.cons rfl (.cons rfl (.cons rfl (.cons rfl .nil)))))) (by repeat (first | exact .refl | exact subL_left | refine subL_app ?_ | refine .drop ?_ | refine subL_add ?_))
 have hge_k : n ≤ k := by have h := hc104; simp at h; omega
 have htog : togA ps = true := by rw [tog_eq hL hmi]; rw [take_all hP.len hge_k] at htg; exact htg
 refine X_exit ?_
 refine at_then_e ?_
 refine at_then_e ?_
 refine at_block_hit ?_
 refine at_then ?_
 refine zR ?_
 refine zA ?_
 refine zN ?_
 refine X_ret ?_
 exact at_ret1 rfl rfl (fun w hw => ⟨by rw [chkR_5 hlen h0 hls htog], (hw.mono hIc).drop⟩)
end Go.Proofs.YtoicbikdenlioaaGreat
end
section
namespace Go.Proofs.YtoicbikdenlioaaGreat
open Go Go.Kn Go.Proofs
/-- A list and an error. -/
def Res2 (e : Int) (xs : List Int) : Value → HMap → Go.Kn.Loc → Prop := fun v I' L => L = [] ∧ ∃ av c, v = .tuple #[.slice av xs.length c, .int .i64 e] ∧ Sl I' 1 encI av xs.length c xs
theorem Res2.empty {e : Int} {xs : List Int} {I : HMap} (h : xs = []) : Res2 e xs (.tuple #[.slice none 0 0, .int .i64 e]) I [] := by
  subst h
  exact ⟨rfl, none, 0, rfl, .nil⟩
theorem Res2.good {e e' : Int} {xs ys : List Int} {I : HMap} {av : Option Addr} {n c : Nat} (h : e = e') (hx : ys = xs) (hS : Sl I 1 encI av n c ys) : Res2 e' xs (.tuple #[.slice av n c, .int .i64 e]) I [] := by
  subst h; subst hx
  have hn := hS.len
  subst hn
  exact ⟨rfl, av, c, rfl, hS⟩
def clE (ps : List Pt) (ids : List Int) : Int := if ids.length > 512 then 2 else if chB ps ids then 0 else 380
theorem clE_1 {ps : List Pt} {ids : List Int} (h : ids.length > 512) : clE ps ids = 2 := by unfold clE; rw [if_pos h]
theorem clE_2 {ps : List Pt} {ids : List Int} (h : ¬ ids.length > 512) (h2 : chB ps ids = false) : clE ps ids = 380 := by unfold clE; rw [if_neg h, h2]; rfl
theorem clE_3 {ps : List Pt} {ids : List Int} (h : ¬ ids.length > 512) (h2 : chB ps ids = true) : clE ps ids = 0 := by unfold clE; rw [if_neg h, h2]; rfl
theorem ch_inc {ps : List Pt} {ids : List Int} (h : incB ids = false) : chB ps ids = false := by unfold chB; rw [h]; rfl
theorem ch_has {ps : List Pt} {ids : List Int} {k : Nat} {x : Int} (hx : ids[k]? = some x) (h : hasI ps x = false) : chB ps ids = false := by unfold chB; rw [all_no hx h, Bool.and_false]
theorem ch_all {ps : List Pt} {ids : List Int} (h : incB ids = true) (h2 : ids.all (hasI ps) = true) : chB ps ids = true := by unfold chB; rw [h, h2]; rfl
/-- What a closure's list has when k IDs are done, and some more. -/
def CloM (ps : List Pt) (ids : List Int) (k : Nat) (zs : List Int) (S : Int → Bool) : Prop := ∀ x, x ∈ zs ↔ (x ∈ ids ∨ ∃ n ∈ ids.take k, onF ps n x = true) ∨ S x = true
theorem CloM.start {ps : List Pt} {ids : List Int} : CloM ps ids 0 ids (fun _ => false) := fun x => by simp
theorem CloM.put {ps : List Pt} {ids zs : List Int} {k : Nat} {S S' : Int → Bool} {a : Int} (h : CloM ps ids k zs S) (e : ∀ x, S' x = (decide (a = x) || S x)) : CloM ps ids k (zs ++ [a]) S' := fun x => by
  rw [List.mem_append, h x, e x]
  simp only [List.mem_singleton, Bool.or_eq_true, decide_eq_true_eq]
  constructor
  · rintro (h | h)
    · rcases h with h | h
      · exact .inl h
      · exact .inr (.inr h)
    · exact .inr (.inl h.symm)
  · rintro (h | h | h)
    · exact .inl (.inl h)
    · exact .inr h.symm
    · exact .inl (.inr h)
theorem CloM.next {ps : List Pt} {ids zs : List Int} {k : Nat} {S : Int → Bool} {n : Int} (h : CloM ps ids k zs S) (hn : ids[k]? = some n) (e : ∀ x, S x = onF ps n x) : CloM ps ids (k + 1) zs (fun _ => false) := fun x => by
  rw [h x, e x, take_snoc hn]
  simp only [List.mem_append, List.mem_singleton, Bool.false_eq_true, or_false]
  constructor
  · rintro (h | h)
    · rcases h with h | ⟨m, hm, h⟩
      · exact .inl h
      · exact .inr ⟨m, .inl hm, h⟩
    · exact .inr ⟨n, .inr rfl, h⟩
  · rintro (h | ⟨m, hm | rfl, h⟩)
    · exact .inl (.inl h)
    · exact .inl (.inr ⟨m, hm, h⟩)
    · exact .inr h
theorem CloM.congr {ps : List Pt} {ids zs : List Int} {k : Nat} {S S' : Int → Bool} (h : CloM ps ids k zs S) (e : ∀ x, S x = S' x) : CloM ps ids k zs S' := fun x => by rw [h x, e x]
theorem clo_made {ps : List Pt} {ids zs : List Int} {n : Nat} (hL : Lst ps) (h : CloM ps ids n zs (fun _ => false)) (hn : ids.length = n) (hall : ids.all (hasI ps) = true) : Lib.compact (sortI (zs ++ [])) = cloF ps ids := by
  rw [List.append_nil]
  refine comp_sort_eq (clo_sorted hL ids) fun x => ?_
  rw [h x, mem_clo, ← hn, List.take_length]
  simp only [Bool.false_eq_true, or_false]
  constructor
  · rintro (hx | ⟨m, hm, ho⟩)
    · exact ⟨hasI_iff.1 (List.all_eq_true.1 hall x hx), x, hx, .inl rfl⟩
    · exact ⟨(hL.on_lt ho).2, m, hm, .inr ho⟩
  · rintro ⟨_, m, hm, rfl | ho⟩
    · exact .inl hm
    · exact .inr ⟨m, hm, ho⟩
theorem on_few {ps : List Pt} (hL : Lst ps) {a : Int} {sn : List (Int × Bool)} (h : SetQ sn (onF ps a)) : sn.length ≤ ps.length := by
  have := List.Nodup.length_le_of_subset h.nodup (l₂ := idsP ps) (fun x hx => by
    obtain ⟨_, q, hq, e⟩ := hL.on_lt (h.key.2 hx)
    exact List.mem_map.2 ⟨q, hq, e⟩)
  simpa [idsP] using this
theorem OnL.hit {I : HMap} {m : List (Int × Nat)} {ps : List Pt} (h : OnL I m ps) {a : Int} {ref : Nat} (hg : mget m a = some ref) : hasI ps a = true ∧ OnS I ref (onF ps a) := by
  have hm := mget_mem hg
  refine ⟨?_, h.2 _ hm⟩
  have hk : a ∈ m.map (·.1) := List.mem_map.2 ⟨_, hm, rfl⟩
  rw [h.1] at hk
  obtain ⟨q, hq, e⟩ := List.mem_map.1 hk
  exact hasI_iff.2 ⟨q, hq, e⟩
theorem OnL.miss {I : HMap} {m : List (Int × Nat)} {ps : List Pt} (h : OnL I m ps) {a : Int} (hg : mget m a = none) : hasI ps a = false := by
  cases hh : hasI ps a with
  | false => rfl
  | true =>
    obtain ⟨ref, h1, _⟩ := h.get (hasI_iff.1 hh)
    rw [hg] at h1; cases h1
def vrE (ps : List Pt) (v : List Int) : Int := if v.length > 512 then 2 else if verB ps v then 0 else 380
theorem vr_eq {ps : List Pt} (hL : Lst ps) {v : List Int} {w : Int} (h : w = (resF (clE ps v) (cloF ps v)).length) : (if ((clE ps v == 0) && (w != (v.length : Int))) = true then 380 else clE ps v) = vrE ps v := by
  unfold vrE
  by_cases h1 : v.length > 512
  · rw [if_pos h1, clE_1 h1]; rfl
  · rw [if_neg h1]
    cases hc : chB ps v with
    | false =>
      rw [clE_2 h1 hc]
      unfold verB
      rw [hc]; rfl
    | true =>
      rw [clE_3 h1 hc, resF_ok rfl] at *
      have h2 := clo_len hL hc
      subst h
      cases hv : verB ps v with
      | true =>
        rw [hv] at h2
        simp at h2
        simp [h2]
      | false =>
        rw [hv] at h2
        simp at h2
        rw [if_pos]
        · rfl
        · simp; omega
def vsK (a b : List Int) (k : Nat) : List Int := if k = 0 then a else b
theorem two_at {I : HMap} {h1 h2 x : Hd} {k : Nat} {a b : List Int} (hx : [h1, h2][k]? = some x) (ha : Sl I 1 encI h1.a h1.n h1.c a) (hb : Sl I 1 encI h2.a h2.n h2.c b) : Sl I 1 encI x.a x.n x.c (vsK a b k) := by
  rcases k with _ | _ | k
  · cases hx; exact ha
  · cases hx; exact hb
  · simp at hx
theorem mrg_1 {ps : List Pt} {a b : List Int} (h : chkR ps ≠ 0) : mrgE ps a b = chkR ps := by unfold mrgE; rw [if_pos h]
theorem mrg_2 {ps : List Pt} {a b : List Int} (h : chkR ps = 0) (h2 : a.length > 512 ∨ b.length > 512) : mrgE ps a b = 2 := by
  unfold mrgE; rw [if_neg (by omega), if_pos (by simpa using h2)]
theorem vr_neg {ps : List Pt} {v : List Int} (h : ¬ v.length > 512) (h2 : vrE ps v ≠ 0) : verB ps v = false ∧ vrE ps v = 380 := by
  unfold vrE at *
  rw [if_neg h] at *
  cases hv : verB ps v with
  | true => rw [hv] at h2; exact absurd rfl h2
  | false => exact ⟨rfl, rfl⟩
theorem mrg_3 {ps : List Pt} {a b : List Int} (h : chkR ps = 0) (h2 : ¬ (a.length > 512 ∨ b.length > 512)) {k : Nat} (hk : vrE ps (vsK a b k) ≠ 0) : mrgE ps a b = vrE ps (vsK a b k) := by
  have hv := vr_neg (by unfold vsK; split <;> omega) hk
  rw [hv.2]
  unfold mrgE
  rw [if_neg (by omega), if_neg (by simpa using h2)]
  have h3 := hv.1
  unfold vsK at h3
  split at h3
  · rw [h3]; rfl
  · rw [h3, Bool.and_false]; rfl
theorem vr_ver {ps : List Pt} {v : List Int} (h : vrE ps v = 0) : verB ps v = true := by
  unfold vrE at h
  split at h
  · cases h
  · split at h
    · assumption
    · cases h
theorem mrg_4 {ps : List Pt} {a b : List Int} (h : chkR ps = 0) (h2 : ¬ (a.length > 512 ∨ b.length > 512)) (ha : vrE ps a = 0) (hb : vrE ps b = 0) : mrgE ps a b = 0 := by
  unfold mrgE
  rw [if_neg (by omega), if_neg (by simpa using h2), vr_ver ha, vr_ver hb]; rfl
theorem mrg_made {ps : List Pt} {a b : List Int} (hL : Lst ps) (ha : vrE ps a = 0) (hb : vrE ps b = 0) : Lib.compact (sortI (a ++ b)) = mrgF ps a b := by
  have va := (verB_iff hL).1 (vr_ver ha)
  have vb := (verB_iff hL).1 (vr_ver hb)
  exact comp_sort_eq (mrg_ver hL va vb).inc fun x => by rw [List.mem_append, mem_mrg' va vb]
theorem max_gt {n m : Nat} : decide (maxI (n : Int) (m : Int) > 512) = true ↔ n > 512 ∨ m > 512 := by
  unfold maxI
  split <;> simp <;> omega
theorem perm_snoc (x : Nat × Obj) (L : Go.Kn.Loc) : (x :: L).Perm (L ++ [x]) := (List.perm_append_comm (l₁ := L) (l₂ := [x])).symm
theorem two_le {h1 h2 x : Hd} {k : Nat} (hx : [h1, h2][k]? = some x) (ha : h1.n ≤ 100000) (hb : h2.n ≤ 100000) : x.n ≤ 100000 := by
  rcases k with _ | _ | k
  · cases hx; exact ha
  · cases hx; exact hb
  · simp at hx
end Go.Proofs.YtoicbikdenlioaaGreat
end
section
namespace Go.Proofs.YtoicbikdenlioaaGreat
open Go Go.Kn Go.Proofs
theorem w_closure {I : HMap} {av : Option Addr} {n c : Nat} {ps : List Pt} (hP : SlP I av n c ps) (hn : n ≤ 512) (hL : Lst ps) (hnd : ∀ p ∈ ps, p.n ≤ 100000) {bv : Option Addr} {n2 c2 : Nat} {ys : List Int} (hT : Sl I 1 encI bv n2 c2 ys) (hn2 : n2 ≤ 100000) : RetM Tryz.prog 84 [.slice av n c, .slice bv n2 c2] I [] (Res2 (clE ps ys) (resF (clE ps ys) (cloF ps ys))) := by
 intro g H w hw
 refine enter Tryz.func84 rfl Tryz.ntmps84 rfl hw ?_
 have hIc := HLe.refl I
 refine zR ?_
 refine zA ?_
 refine zA ?_
 refine zN ?_
 refine X_seq ?_
 refine zR ?_
 refine zM ?_
 refine zQ slt_38 ?_
 refine zC ?_
 refine zN ?_
 refine zI ?_ ?_ <;> intro hc12
 ·
  have hlen : ys.length > 512 := by rw [hT.len]; simp at hc12; omega
  refine zR ?_
  refine zA ?_
  refine zA ?_
  refine zN ?_
  refine X_ret ?_
  refine at_then_r ?_
  first
  | exact at_ret2 rfl rfl rfl (fun w hw => ⟨_, I, [], rfl, hIc, hw.drop, by rw [clE_1 hlen]; exact Res2.empty rfl⟩)
 have hlen : ¬ ys.length > 512 := by rw [hT.len]; simp at hc12; omega
 refine X_skip ?_
 refine at_then ?_
 refine zR ?_
 refine zM ?_
 refine XO_callM (cap := []) (vs := [_]) rfl rfl fun_29 .nil (w_stands hP (by omega) hL hnd) rfl rfl ?_
 rintro vv1 I1 L1 hI1 ⟨rfl, r9, rfl, hOn⟩
 have hP := hP.mono hI1; have hT := hT.mono hI1; have hIc := hIc.trans hI1
 refine zA ?_
 refine zN (zR ?_)
 refine zM ?_
 refine XO_callM (cap := []) (vs := [_]) rfl rfl fun_25 .nil (w_cloneI hT (by omega)) rfl rfl ?_
 rintro vv2 I2 L2 hI2 ⟨rfl, hO⟩
 have hP := hP.mono hI2; have hT := hT.mono hI2; have hOn := hOn.mono hI2; have hIc := hIc.trans hI2
 refine zA ?_
 refine zN ?_
 refine X_seq ?_
 refine X_seq ?_
 refine X_dropTo _ subL_left ?_
 refine X_region ?_
 refine zM ?_
 refine zQ slt_38 ?_
 refine zM ?_
 refine zN ?_
 refine X_block ?_
 refine X_loopT [(1, _), (6, _), (17, _), (18, _)] (.cons rfl (.cons rfl (.cons rfl (.cons rfl .nil)))) (fun T L0 mz E I' loc' => ∃ (k : Nat) (zs : List Int) (v : Value) (q : Nat) (L : Go.Kn.Loc), mz = n2 - k ∧ E = (4, v) :: (19, .int .i64 k) :: T ∧ I2 = I' ∧ L = loc' ∧ k ≤ n2 ∧ OwnS 3 1 v q (zs.flatMap encI) L ∧ q ≤ n2 + 512 * k ∧ CloM ps ys k zs (fun _ => false) ∧ (ys.take k).all (hasI ps) = true) _ _ _ _ ⟨0, ys, _, n2, _, rfl, rfl, rfl, rfl, Nat.zero_le _, hO, by omega, CloM.start, rfl⟩ (.cons rfl (.cons rfl (.cons rfl (.cons rfl (.cons rfl (.cons rfl .nil)))))) (HLe.refl _) rfl ?_
 rintro mz E I' loc' ⟨k, zs, v, q, L, rfl, rfl, rfl, rfl, hk, hO, hq5, hM, hall⟩
 refine zR ?_
 refine zC ?_
 refine zN ?_
 refine X_seq ?_
 refine zI ?_ ?_ <;> intro hc20
 ·
  have hlt_k : k < n2 := by have h := hc20; simp at h; omega
  obtain ⟨y, hy⟩ := hT.at hlt_k
  refine X_skip ?_
  refine at_then ?_
  refine X_seq ?_
  refine X_block ?_
  refine zR ?_
  refine zV (ev_indexSl rfl rfl slt_38 (by assumption) (fun hg => by omega)) ?_
  refine zV (ev_load rfl sct_3 (fun hg => by exact Sl.get0 hT hy rfl)) ?_
  refine zA ?_
  refine zN ?_
  refine X_seq ?_
  refine X_seq ?_
  obtain ⟨m, hm1, hm2⟩ := hOn
  refine X_region ?_
  refine zM ?_
  refine zM ?_
  refine zV (ev_lookupM (m := m) (ek := Value.int .i64) mpt_80 key_3 rfl rfl (fun _ => .inl hm1)) ?_
  refine zV (ev_mapNil rfl rfl und_77) ?_
  refine zN ?_
  refine zI ?_ ?_ <;> intro hc26
  ·
   have hmiss : hasI ps y = false := hm2.miss (Option.isNone_iff_eq_none.1 hc26)
   have hbad : clE ps ys = 380 := clE_2 hlen (ch_has hy hmiss)
   refine zR ?_
   refine zA ?_
   refine zA ?_
   refine zN ?_
   refine X_ret ?_
   refine at_then_r ?_
   refine at_block_r ?_
   refine at_then_r ?_
   refine at_then_r ?_
   refine at_block_r ?_
   refine at_then_r ?_
   first
   | exact at_ret2 rfl rfl rfl (fun w hw => ⟨_, I2, [], rfl, hIc, hw.drop, by rw [hbad]; exact Res2.empty rfl⟩)
  obtain ⟨ref, hget⟩ : ∃ ref, mget m y = some ref := by cases hg : mget m y with | none => rw [hg] at hc26; cases hc26 | some r => exact ⟨r, rfl⟩
  obtain ⟨hhas, sn, hsn, hsq⟩ := hm2.hit hget
  have hfew := on_few hL hsq
  have hpl := hP.len
  refine X_skip ?_
  refine at_then ?_
  refine zR ?_
  refine zM ?_
  refine zM ?_
  refine zV (ev_lookupM (m := m) (ek := Value.int .i64) mpt_80 key_3 rfl rfl (fun _ => .inl hm1)) ?_
  rw [hget]
  refine XO_range (ek := Value.int .i64) (ev := Value.bool) (m := sn) rfl mpt_77 rfl rfl (.inl hsn) (fun b_30 => ?_)
  refine zN ?_
  refine X_block ?_
  refine X_loopT [(1, _), (6, _), (17, _), (18, _), (19, _), (30, _)] (.cons rfl (.cons rfl (.cons rfl (.cons rfl (.cons rfl (.cons rfl .nil)))))) (fun T L0 mz E I' loc' => ∃ (seen : List Nat) (zs : List Int) (v : Value) (q : Nat) (L : Go.Kn.Loc), mz = sn.length - seen.length ∧ E = (4, v) :: T ∧ I2 = I' ∧ (b_30, iterO ref sn.length seen) :: L = loc' ∧ OwnS 3 1 v q (zs.flatMap encI) L ∧ q ≤ n2 + 512 * k + seen.length ∧ CloM ps ys k zs (Seen sn seen) ∧ seen.Nodup ∧ ∀ i ∈ seen, i < sn.length) _ _ _ _ ⟨[], zs, v, q, L, rfl, rfl, rfl, rfl, hO, by simpa using hq5, hM.congr (fun x => (seen_nil sn x).symm), .nil, fun i h => by cases h⟩ (.cons rfl (.cons rfl (.cons rfl (.cons rfl (.cons rfl (.cons rfl (.cons rfl .nil))))))) (HLe.refl _) rfl ?_
  rintro mz E I' loc' ⟨seen, zs, v, q, L, rfl, rfl, rfl, rfl, hO, hq5, hM, hnd2, hlt⟩
  have hsl := seen_lt hnd2 hlt
  refine zR ?_
  refine XO_next2 (ek := Value.int .i64) (ev := Value.bool) (m := sn) (fun s' => (b_30, iterO ref sn.length s') :: L) rfl (fun s' => .here) rfl rfl rfl rfl rfl (.inl hsn) (by simp) ?_
  intro t tv s' hno hyes
  refine zN ?_
  refine X_seq ?_
  refine zI ?_ ?_ <;> intro hc32
  ·
   obtain ⟨i, q, hq, hns, rfl⟩ := hyes hc32
   refine X_skip ?_
   refine at_then ?_
   refine X_block ?_
   refine zR ?_
   refine zV (ev_entry (ek := Value.int .i64) (ev := Value.bool) (m := sn) (p := q) (seen := seen) (i := i) rfl (.inl hsn) (.inr (by simp)) hq) ?_
   refine zE ?_
   refine zA ?_
   refine zN ?_
   refine X_region ?_
   refine zM ?_
   refine zM ?_
   refine XO_buildSlice (ps := [(0, _)]) (m := [encI q.1]) elt_38 rfl (.cons rfl (.nil)) rfl (by simp [encI_len]) (by decide) (by decide) rfl rfl (fun b_37 => ?_)
   refine XO_append (v := _) (ys := [q.1].flatMap encI) (L := L) rfl rfl elt_38 hO (by repeat (first | exact .cons .here .nil | exact split_all | exact split_app | apply split_cons | apply split_skip)) ⟨rfl, fun _ => rfl, Cells.here⟩ (one_I [q.1]) (by omega) rfl rfl ?_
   intro v9 L9 hO9 _; rw [← List.flatMap_append] at hO9
   refine zA ?_
   refine XO_nil ?_
   refine at_block_n ?_
   have hnd3 : (seen ++ [i]).Nodup := List.nodup_append.2 ⟨hnd2, by simp, fun a ha b hb e => hns (by simp at hb; subst hb; subst e; exact ha)⟩
   have hlt3 : ∀ j ∈ seen ++ [i], j < sn.length := fun j hj => (List.mem_append.1 hj).elim (hlt j) (fun h => by simp at h; subst h; exact (List.getElem?_eq_some_iff.1 hq).1)
   have hsl2 := seen_lt hnd3 hlt3
   rw [List.length_append, List.length_singleton] at hsl2
   exact at_metP _ _ (L9 ++ [(b_30, _)]) ⟨sn.length - (seen ++ [i]).length, by rw [List.length_append, List.length_singleton]; omega, seen ++ [i], zs ++ [q.1], v9, _, L9, rfl, rfl, rfl, rfl, hO9, by rw [List.length_append, List.length_singleton]; omega, hM.put (fun x => seen_snoc hq x), hnd3, hlt3⟩ (.cons rfl (.cons rfl (.cons rfl (.cons rfl (.cons rfl (.cons rfl (.cons rfl .nil))))))) (perm_snoc _ _) (by repeat (first | exact .refl | exact subL_left | refine subL_app ?_ | refine .drop ?_ | refine subL_add ?_))
  obtain ⟨rfl, hall2⟩ := hno hc32
  refine X_exit ?_
  refine at_then_e ?_
  refine at_then_e ?_
  refine at_block_hit ?_
  refine at_block_n ?_
  refine at_then ?_
  refine X_region ?_
  refine zV (ev_arB rfl rfl rfl (fun _ => by omega)) ?_
  refine zM ?_
  refine XO_nil ?_
  exact at_met2 _ _ ⟨n2 - (k + 1), by omega, k + 1, zs, v, q, L, rfl, rfl, rfl, rfl, by omega, hO, by omega, (hM.next hy (fun x => seen_all hsq hall2 x)), all_yes hy hall hhas⟩ (.cons rfl (.cons rfl (.cons rfl (.cons rfl (.cons rfl (.cons rfl .nil)))))) (by repeat (first | exact .refl | exact subL_left | refine subL_app ?_ | refine .drop ?_ | refine subL_add ?_))
 have hge_k : n2 ≤ k := by have h := hc20; simp at h; omega
 rw [take_all hT.len hge_k] at hall
 have hk2 : n2 = k := by omega
 refine X_exit ?_
 refine at_then_e ?_
 refine at_then_e ?_
 refine at_block_hit ?_
 refine at_then ?_
 refine X_seq ?_
 refine zR ?_
 refine zM ?_
 refine XO_callV0 (cap := []) (vs := [_]) rfl rfl fun_112 (w_incr hT hn2) rfl rfl ?_
 refine zO ?_
 refine zN ?_
 refine zI ?_ ?_ <;> intro hc42
 ·
  have hbad : clE ps ys = 380 := clE_2 hlen (ch_inc (by simpa using hc42))
  refine zR ?_
  refine zA ?_
  refine zA ?_
  refine zN ?_
  refine X_ret ?_
  refine at_then_r ?_
  first
  | exact at_ret2 rfl rfl rfl (fun w hw => ⟨_, I2, [], rfl, hIc, hw.drop, by rw [hbad]; exact Res2.empty rfl⟩)
 have hgood : clE ps ys = 0 := clE_3 hlen (ch_all (by simpa using hc42) hall)
 refine X_skip ?_
 refine at_then ?_
 refine X_seq ?_
 refine X_freezeO hO encI_len (by decide) (by repeat (first | exact .cons .here .nil | exact split_all | exact split_app | apply split_cons | apply split_skip)) (fun I5 hI5 af5 cf5 ef5 hZ => ?_)
 subst ef5
 have hP := hP.mono hI5; have hT := hT.mono hI5; have hOn := hOn.mono hI5; have hIc := hIc.trans hI5
 refine X_region ?_
 refine zM ?_
 refine XO_callM (cap := []) (vs := [_, _]) rfl rfl fun_33 .nil (w_union hZ (by have := hT.len; omega) .nil (by omega)) rfl rfl ?_
 rintro vv6 I6 L6 hI6 ⟨rfl, av9, c9, rfl, hR⟩
 have hP := hP.mono hI6; have hT := hT.mono hI6; have hOn := hOn.mono hI6; have hZ := hZ.mono hI6; have hIc := hIc.trans hI6
 refine zA ?_
 refine zA ?_
 refine zN ?_
 refine X_ret ?_
 first
 | exact at_ret2 rfl rfl rfl (fun w hw => ⟨_, I6, [], rfl, hIc, hw.drop, by rw [hgood]; exact Res2.good rfl (by rw [resF_ok rfl]; exact clo_made hL hM (by rw [hT.len]; omega) hall) hR⟩)
theorem w_version {I : HMap} {av : Option Addr} {n c : Nat} {ps : List Pt} (hP : SlP I av n c ps) (hn : n ≤ 512) (hL : Lst ps) (hnd : ∀ p ∈ ps, p.n ≤ 100000) {bv : Option Addr} {n2 c2 : Nat} {ys : List Int} (hT : Sl I 1 encI bv n2 c2 ys) (hn2 : n2 ≤ 100000) : RetV Tryz.prog 32 [.slice av n c, .slice bv n2 c2] I (.int .i64 (vrE ps ys)) := by
 intro g H w hw
 refine enter Tryz.func32 rfl Tryz.ntmps32 rfl hw ?_
 have hIc := HLe.refl I
 refine zR ?_
 refine zA ?_
 refine zN (zR ?_)
 refine zM ?_
 refine zM ?_
 refine XO_callM (cap := []) (vs := [_, _]) rfl rfl fun_84 .nil (w_closure hP hn hL hnd hT hn2) rfl rfl ?_
 rintro vv1 I1 L1 hI1 ⟨rfl, av9, c9, rfl, hR⟩
 have hP := hP.mono hI1; have hT := hT.mono hI1; have hIc := hIc.trans hI1
 refine zM ?_
 refine zE ?_
 refine zE ?_
 refine zA ?_
 refine zA ?_
 refine zN ?_
 refine X_seq ?_
 refine zR ?_
 refine zM ?_
 refine zC ?_
 refine zM ?_
 refine XO_pushT 2 rfl rfl rfl ?_
 refine zK (ev_move rfl) ?_
 refine zK (ev_lenS rfl slt_38) ?_
 refine zK (ev_move rfl) ?_
 refine zK (ev_lenS rfl slt_38) ?_
 refine zK (ev_cmp rfl rfl rfl) ?_
 refine XO_and0 rfl rfl rfl rfl rfl ?_
 refine zN ?_
 refine zI ?_ ?_ <;> intro hc20
 ·
  have hv : vrE ps ys = 380 := by rw [← vr_eq (v := ys) hL rfl, hT.len, if_pos hc20]
  refine zR ?_
  refine zA ?_
  refine zN ?_
  refine X_ret ?_
  refine at_then_r ?_
  exact at_ret1 rfl rfl (fun w hw => ⟨by rw [hv] <;> rfl, (hw.mono hIc).drop⟩)
 have hv : vrE ps ys = clE ps ys := by rw [← vr_eq (v := ys) hL rfl, hT.len, if_neg (by rw [hc20]; exact Bool.false_ne_true)]
 refine X_skip ?_
 refine at_then ?_
 refine zR ?_
 refine zM ?_
 refine zA ?_
 refine zN ?_
 refine X_ret ?_
 exact at_ret1 rfl rfl (fun w hw => ⟨by rw [hv] <;> rfl, (hw.mono hIc).drop⟩)
theorem w_merge {I : HMap} {av : Option Addr} {n c : Nat} {ps : List Pt} (hP : SlP I av n c ps) (hn : n ≤ 100000) {bv : Option Addr} {n2 c2 : Nat} {ys : List Int} (hT : Sl I 1 encI bv n2 c2 ys) (hn2 : n2 ≤ 100000) {dv : Option Addr} {n3 c3 : Nat} {zs : List Int} (hU : Sl I 1 encI dv n3 c3 zs) (hn3 : n3 ≤ 100000) : RetM Tryz.prog 10 [.slice av n c, .slice bv n2 c2, .slice dv n3 c3] I [] (Res2 (mrgE ps ys zs) (resF (mrgE ps ys zs) (mrgF ps ys zs))) := by
 intro g H w hw
 refine enter Tryz.func10 rfl Tryz.ntmps10 rfl hw ?_
 have hIc := HLe.refl I
 refine zR ?_
 refine zA ?_
 refine zA ?_
 refine zN ?_
 refine X_seq ?_
 refine zR ?_
 refine zM ?_
 refine XO_callV0 (cap := []) (vs := [_]) rfl rfl fun_7 (w_chkR hP hn) rfl rfl ?_
 refine zA ?_
 refine zN (zR ?_)
 refine zM ?_
 refine zC ?_
 refine zN ?_
 refine zI ?_ ?_ <;> intro hc13
 ·
  have hck : chkR ps ≠ 0 := by simpa using hc13
  refine zR ?_
  refine zM ?_
  refine zA ?_
  refine zA ?_
  refine zN ?_
  refine X_ret ?_
  refine at_then_r ?_
  first
  | exact at_ret2 rfl rfl rfl (fun w hw => ⟨_, I, [], rfl, hIc, hw.drop, by rw [mrg_1 hck]; exact Res2.empty (resF_bad hck)⟩)
 have hck : chkR ps = 0 := by simpa using hc13
 have hn5 : n ≤ 512 := by have := (chkR_ok hck).1; rw [hP.len] at this; omega
 have hL := chkR_lst hck
 have hnd := nd_chk hP hck
 refine X_skip ?_
 refine at_then ?_
 refine X_seq ?_
 refine zR ?_
 refine zM ?_
 refine zQ slt_38 ?_
 refine zM ?_
 refine zQ slt_38 ?_
 refine zV (ev_max rfl rfl) ?_
 refine zC ?_
 refine zN ?_
 refine zI ?_ ?_ <;> intro hc20
 ·
  have hlen : ys.length > 512 ∨ zs.length > 512 := by rw [hT.len, hU.len]; exact max_gt.1 hc20
  refine zR ?_
  refine zA ?_
  refine zA ?_
  refine zN ?_
  refine X_ret ?_
  refine at_then_r ?_
  first
  | exact at_ret2 rfl rfl rfl (fun w hw => ⟨_, I, [], rfl, hIc, hw.drop, by rw [mrg_2 hck hlen]; exact Res2.empty rfl⟩)
 have hlen : ¬ (ys.length > 512 ∨ zs.length > 512) := by rw [hT.len, hU.len]; intro h; rw [max_gt.2 h] at hc20; cases hc20
 refine X_skip ?_
 refine at_then ?_
 refine X_seq ?_
 refine zR ?_
 refine zM ?_
 refine zM ?_
 refine XO_buildSlice (ps := [(0, _), (1, _)]) (m := [encH ⟨bv, n2, c2⟩, encH ⟨dv, n3, c3⟩]) elt_90 rfl (.cons rfl (.cons rfl (.nil))) rfl (by simp [encH_len]) (by decide) (by decide) rfl rfl (fun b_23 => ?_)
 refine XO_freeze .here (fun I1 hI1 hb1 => ?_)
 have hP := hP.mono hI1; have hT := hT.mono hI1; have hU := hU.mono hI1; have hIc := hIc.trans hI1
 have hH := Sl.lit ([⟨bv, n2, c2⟩, ⟨dv, n3, c3⟩] : List Hd) rfl encH_len (show _ = some (Obj.cells (([⟨bv, n2, c2⟩, ⟨dv, n3, c3⟩] : List Hd).flatMap encH).toArray 38 (0, 0)) from hb1)
 refine zQ slt_90 ?_
 refine zM ?_
 refine zN ?_
 refine X_block ?_
 refine X_loopT [(0, _), (1, _), (2, _), (23, _), (24, _)] (.cons rfl (.cons rfl (.cons rfl (.cons rfl (.cons rfl .nil))))) (fun T L0 mz E I' loc' => ∃ (k : Nat), mz = 2 - k ∧ E = (25, .int .i64 k) :: T ∧ I1 = I' ∧ L0 = loc' ∧ k ≤ 2 ∧ ∀ j, j < k → vrE ps (vsK ys zs j) = 0) _ _ _ _ ⟨0, rfl, rfl, rfl, rfl, Nat.zero_le _, fun j h => absurd h (by omega)⟩ (.cons rfl (.cons rfl (.cons rfl (.cons rfl (.cons rfl (.cons rfl .nil)))))) (HLe.refl _) rfl ?_
 rintro mz E I' loc' ⟨k, rfl, rfl, rfl, rfl, hk, hv⟩
 refine zR ?_
 refine zC ?_
 refine zN ?_
 refine X_seq ?_
 refine zI ?_ ?_ <;> intro hc26
 ·
  have hlt_k : k < 2 := by have h := hc26; simp at h; omega
  obtain ⟨x, hx⟩ := hH.at hlt_k
  have hxn : x.n ≤ 100000 := two_le hx hn2 hn3
  refine X_skip ?_
  refine at_then ?_
  refine X_seq ?_
  refine X_block ?_
  refine zR ?_
  refine zV (ev_indexSl rfl rfl slt_90 (by assumption) (fun hg => by omega)) ?_
  refine zV (ev_load rfl sct_38 (fun hg => by exact Sl.get0 hH hx rfl)) ?_
  refine zA ?_
  refine zN (zR ?_)
  refine zM ?_
  refine zM ?_
  refine XO_callV0 (cap := []) (vs := [_, _]) rfl rfl fun_32 (w_version hP hn5 hL hnd (two_at hx hT hU) hxn) rfl rfl ?_
  refine zA ?_
  refine zN (zR ?_)
  refine zM ?_
  refine zC ?_
  refine zN ?_
  refine zI ?_ ?_ <;> intro hc33
  ·
   have hv1 : vrE ps (vsK ys zs k) ≠ 0 := by simpa using hc33
   refine zR ?_
   refine zM ?_
   refine zA ?_
   refine zA ?_
   refine zN ?_
   refine X_ret ?_
   refine at_block_r ?_
   refine at_then_r ?_
   refine at_then_r ?_
   refine at_block_r ?_
   refine at_then_r ?_
   first
   | exact at_ret2 rfl rfl rfl (fun w hw => ⟨_, I1, [], rfl, hIc, hw.drop, by rw [mrg_3 hck hlen hv1]; exact Res2.empty (resF_bad hv1)⟩)
  have hv1 : vrE ps (vsK ys zs k) = 0 := by simpa using hc33
  refine X_skip ?_
  refine at_block_n ?_
  refine at_then ?_
  refine X_region ?_
  refine zV (ev_arB rfl rfl rfl (fun _ => by omega)) ?_
  refine zM ?_
  refine XO_nil ?_
  exact at_met2 _ _ ⟨2 - (k + 1), by omega, k + 1, rfl, rfl, rfl, rfl, by omega, fun j h => by by_cases e : j = k; (subst e; exact hv1); exact hv j (by omega)⟩ (.cons rfl (.cons rfl (.cons rfl (.cons rfl (.cons rfl (.cons rfl .nil)))))) (by repeat (first | exact .refl | exact subL_left | refine subL_app ?_ | refine .drop ?_ | refine subL_add ?_))
 have hge_k : 2 ≤ k := by have h := hc26; simp at h; omega
 refine X_exit ?_
 refine at_then_e ?_
 refine at_then_e ?_
 refine at_block_hit ?_
 refine at_then ?_
 refine zR ?_
 refine zM ?_
 refine zM ?_
 refine XO_callM (cap := []) (vs := [_, _]) rfl rfl fun_33 .nil (w_union hT (by omega) hU hn3) rfl rfl ?_
 rintro vv3 I3 L3 hI3 ⟨rfl, av9, c9, rfl, hR⟩
 have hP := hP.mono hI3; have hT := hT.mono hI3; have hU := hU.mono hI3; have hH := hH.mono hI3; have hIc := hIc.trans hI3
 refine zA ?_
 refine zA ?_
 refine zN ?_
 refine X_ret ?_
 first
 | exact at_ret2 rfl rfl rfl (fun w hw => ⟨_, I3, [], rfl, hIc, hw.drop, by have e0 := hv 0 (by omega); have e1 := hv 1 (by omega); rw [mrg_4 hck hlen e0 e1]; exact Res2.good rfl (by rw [resF_ok rfl]; exact mrg_made hL e0 e1) hR⟩)
end Go.Proofs.YtoicbikdenlioaaGreat
end
section
namespace Go.Proofs.YtoicbikdenlioaaGreat
open Go Go.Kn Go.Proofs
abbrev Trip := Value × Nat × List Value
theorem verL_no {ps : List Pt} {ws : List Int} {k : Nat} {p : Pt} (hp : ps[k]? = some p) (h : (ws.any fun x => x == p.id) = false) : verL (ps.take (k + 1)) ws = verL (ps.take k) ws := by
  unfold verL
  rw [take_snoc hp, List.filter_append, List.filter_cons, h]; simp
theorem verL_yes {ps : List Pt} {ws : List Int} {k : Nat} {p : Pt} (hp : ps[k]? = some p) (h : (ws.any fun x => x == p.id) = true) : verL (ps.take (k + 1)) ws = verL (ps.take k) ws ++ [p] := by
  unfold verL
  rw [take_snoc hp, List.filter_append, List.filter_cons, h]; rfl
/-! ### Removes -/
theorem RemM.start : RemM [] [] := fun s => rfl
theorem RemM.put' {mr : List (Int × Trip)} {l : List Pt} {n : Nat} {p : Pt} {v : Value} (h : RemM mr l) (hk : p.kind = 3) : RemM (mset mr p.sign (v, n, ((mget mr p.sign).getD nilT).2.2 ++ [p.id].flatMap encI)) (l ++ [p]) := by
  have h1 : RemM mr ((l ++ [p]).take l.length) := by simpa using h
  have := RemM.put (v := v) (n := n) h1 (show (l ++ [p])[l.length]? = some p by simp) hk
  rw [show (l ++ [p]).take (l.length + 1) = l ++ [p] from List.take_of_length_le (by simp)] at this
  exact this
theorem RemM.skip' {mr : List (Int × Trip)} {l : List Pt} {p : Pt} (h : RemM mr l) (hk : p.kind ≠ 3) : RemM mr (l ++ [p]) := by
  have h1 : RemM mr ((l ++ [p]).take l.length) := by simpa using h
  have := RemM.skip h1 (show (l ++ [p])[l.length]? = some p by simp) hk
  rw [show (l ++ [p]).take (l.length + 1) = l ++ [p] from List.take_of_length_le (by simp)] at this
  exact this
/-! ### Sets -/
def SetM (ms : List ((Int × Int) × Trip)) (l : List Pt) : Prop := ∀ q : Int × Int, ((mget ms q).getD nilT).2.2 = (stF l q.1 q.2).flatMap encP
theorem SetM.start : SetM [] [] := fun q => rfl
theorem stF_snoc (l : List Pt) (p : Pt) (s f : Int) : stF (l ++ [p]) s f = stF l s f ++ (if p.kind = 1 ∧ p.sign = s ∧ p.field = f then [p] else []) := by
  unfold stF
  rw [List.filter_append]
  congr 1
  by_cases h : p.kind = 1 ∧ p.sign = s ∧ p.field = f
  · rw [if_pos h]; simp [h.1, h.2.1, h.2.2]
  · rw [if_neg h]
    have : (p.kind == 1 && (p.sign == s && p.field == f)) = false := by
      rw [Bool.eq_false_iff]; intro hc; simp at hc; exact h hc
    simp [this]
theorem SetM.put {ms : List ((Int × Int) × Trip)} {l : List Pt} {n : Nat} {p : Pt} {v : Value} (h : SetM ms l) (hk : p.kind = 1) : SetM (mset ms (p.sign, p.field) (v, n, ((mget ms (p.sign, p.field)).getD nilT).2.2 ++ [p].flatMap encP)) (l ++ [p]) := fun q => by
  rw [stF_snoc, mget_mset]
  by_cases e : (p.sign, p.field) = q
  · subst e; rw [if_pos rfl, if_pos ⟨hk, rfl, rfl⟩, List.flatMap_append, ← h]; rfl
  · rw [if_neg e, if_neg (fun h2 => e (Prod.ext h2.2.1 h2.2.2)), List.append_nil, h q]
theorem SetM.skip {ms : List ((Int × Int) × Trip)} {l : List Pt} {p : Pt} (h : SetM ms l) (hk : p.kind ≠ 1) : SetM ms (l ++ [p]) := fun q => by
  rw [stF_snoc, if_neg (fun h2 => hk h2.1), List.append_nil, h q]
theorem stF_len {l : List Pt} {s f : Int} : (stF l s f).length ≤ l.length := List.length_filter_le _ _
theorem set_le {e : Nat} {ms : List ((Int × Int) × Trip)} {l : List Pt} {q : Int × Int} {L : Go.Kn.Loc} (h : SetM ms l) (hO : OwnS e 19 ((mget ms q).getD nilT).1 ((mget ms q).getD nilT).2.1 ((mget ms q).getD nilT).2.2 L) : ((mget ms q).getD nilT).2.1 ≤ l.length := by
  have h1 := hO.1
  rw [h q, flat_len encP_len] at h1
  have h2 := stF_len (l := l) (s := q.1) (f := q.2)
  omega
theorem set_sl {I : HMap} {e : Nat} {ms : List ((Int × Int) × Trip)} {l : List Pt} {L : Go.Kn.Loc} (h : SetM ms l) (hA : OwnAll e 19 (ms.map (·.2)) L) (hI : ∀ b o, (b, o) ∈ L → I b = some o) (q : Int × Int) :
    ∃ av c, ((mget ms q).getD nilT).1 = .slice av (stF l q.1 q.2).length c ∧ Sl I 19 encP av (stF l q.1 q.2).length c (stF l q.1 q.2) := by
  obtain ⟨A, Lt, B, rfl, hO, _⟩ := hA.at q
  rw [h q] at hO
  obtain ⟨av, c, e1, e2⟩ := hO.sl encP_len (by decide) (fun b o hb => hI b o (by simp [hb]))
  have hn := e2.len
  rw [← hn] at e1 e2
  exact ⟨av, c, e1, e2⟩
/-! ### Signs that are known -/
def KnowM (s : List (Int × Bool)) (bs : List Sg) (l : List Pt) : Prop := ∀ x, setM s x = (hasS bs x || insB l x)
theorem hasS_snoc {bs : List Sg} {k : Nat} {b : Sg} (hb : bs[k]? = some b) (x : Int) : hasS (bs.take (k + 1)) x = (decide (b.id = x) || hasS (bs.take k) x) := by
  unfold hasS
  rw [take_snoc hb, List.any_append, Bool.eq_iff_iff]
  simp [or_comm]
theorem insB_snoc (l : List Pt) (p : Pt) (x : Int) : insB (l ++ [p]) x = (insB l x || (p.kind == 2 && p.sign == x)) := by
  unfold insB
  rw [List.any_append]; simp
theorem KnowM.put {s : List (Int × Bool)} {bs : List Sg} {l : List Pt} {p : Pt} (h : KnowM s bs l) (hk : p.kind = 2) : KnowM (mset s p.sign true) bs (l ++ [p]) := fun x => by
  rw [setM_put, h x, insB_snoc, hk, Bool.eq_iff_iff]
  simp only [Bool.or_eq_true, decide_eq_true_eq, Bool.and_eq_true, beq_iff_eq, true_and]
  constructor
  · rintro (h | h | h)
    · exact .inr (.inr h)
    · exact .inl h
    · exact .inr (.inl h)
  · rintro (h | h | h)
    · exact .inr (.inl h)
    · exact .inr (.inr h)
    · exact .inl h
theorem KnowM.skip {s : List (Int × Bool)} {bs : List Sg} {l : List Pt} {p : Pt} (h : KnowM s bs l) (hk : p.kind ≠ 2) : KnowM s bs (l ++ [p]) := fun x => by
  rw [h x, insB_snoc, show (p.kind == 2) = false by simpa using hk, Bool.false_and, Bool.or_false]
theorem know_start {s : List (Int × Bool)} {bs : List Sg} {n : Nat} (h : ∀ x, setM s x = hasS (bs.take n) x) (hn : bs.length ≤ n) : KnowM s bs [] := fun x => by
  rw [h x, List.take_of_length_le hn]; simp [insB]
theorem lt_take {ps : List Pt} (hL : Lst ps) {k : Nat} {p q : Pt} (hp : ps[k]? = some p) (hq : q ∈ ps) (h : q.id < p.id) : q ∈ ps.take k := by
  obtain ⟨j, hj⟩ := List.getElem?_of_mem hq
  obtain ⟨hj1, hj2⟩ := List.getElem?_eq_some_iff.1 hj
  obtain ⟨hk1, hk2⟩ := List.getElem?_eq_some_iff.1 hp
  rw [List.mem_take_iff_getElem]
  refine ⟨j, ?_, hj2⟩
  have hjk : j < k := by
    rcases Nat.lt_or_ge j k with h3 | h3
    · exact h3
    · exfalso
      by_cases e : k = j
      · subst e; rw [hp] at hj; cases hj; omega
      · have := List.pairwise_iff_getElem.1 hL.inc k j hk1 hj1 (by omega)
        rw [hj2, hk2] at this; omega
  omega
theorem insB_iff {l : List Pt} {s : Int} : insB l s = true ↔ ∃ q ∈ l, q.kind = 2 ∧ q.sign = s := by
  unfold insB
  rw [List.any_eq_true]; simp
theorem fit_step {ps : List Pt} {ws : List Int} {bs : List Sg} {k : Nat} {p : Pt} {kn : Bool} (hS : Sto ps) (hp : ps[k]? = some p) (hin : (ws.any fun x => x == p.id) = true) (hkn : kn = (hasS bs p.sign || insB (verL (ps.take k) ws) p.sign)) :
    (kn == (p.kind == 2)) = !fitP bs (verL ps ws) p := by
  subst hkn
  have hpm := List.mem_of_getElem? hp
  unfold fitP
  by_cases hk : p.kind = 2
  · have h1 : insB (verL (ps.take k) ws) p.sign = false := by
      rw [Bool.eq_false_iff]
      intro hc
      obtain ⟨q, hq, hq2, hqs⟩ := insB_iff.1 hc
      obtain ⟨hq1, _⟩ := mem_verL.1 hq
      have hlt := hS.lst.fresh hp q hq1
      rcases hS.ins hpm (List.mem_of_mem_take hq1) hqs.symm hq2 with rfl | ⟨h, _⟩
      · omega
      · exact h hk
    rw [h1, hk]; simp
  · have h1 : insB (verL (ps.take k) ws) p.sign = insB (verL ps ws) p.sign := by
      rw [Bool.eq_iff_iff, insB_iff, insB_iff]
      constructor
      · rintro ⟨q, hq, h⟩
        obtain ⟨hq1, hq2⟩ := mem_verL.1 hq
        exact ⟨q, mem_verL.2 ⟨List.mem_of_mem_take hq1, hq2⟩, h⟩
      · rintro ⟨q, hq, h2, hs⟩
        obtain ⟨hq1, hq2⟩ := mem_verL.1 hq
        rcases hS.ins hpm hq1 hs.symm h2 with rfl | ⟨_, h⟩
        · exact absurd h2 hk
        · exact ⟨q, mem_verL.2 ⟨lt_take hS.lst hp hq1 (hS.lst.on_lt h).1, hq2⟩, h2, hs⟩
    rw [h1, show (p.kind == 2) = false by simpa using hk]
    have : (p.kind != 2) = true := by simpa using hk
    rw [this]
    cases hasS bs p.sign <;> cases insB (verL ps ws) p.sign <;> rfl
/-! ### Signs that are inserted -/
def insS (l : List Pt) : List Sg := (l.filter fun p => p.kind == 2).map (·.nw)
theorem insS_yes {l : List Pt} {p : Pt} (h : p.kind = 2) : insS (l ++ [p]) = insS l ++ [p.nw] := by
  unfold insS; rw [List.filter_append]; simp [h]
theorem insS_no {l : List Pt} {p : Pt} (h : p.kind ≠ 2) : insS (l ++ [p]) = insS l := by
  unfold insS; rw [List.filter_append]; simp [h]
theorem put_perm (xs : List Sg) (k : Sg) : (putF xs k).Perm (k :: xs) := by
  unfold putF
  refine List.perm_middle.trans (List.Perm.cons _ ?_)
  rw [List.takeWhile_append_dropWhile]
theorem all_perm : ∀ (l : List Pt) (bs : List Sg), (allG bs l).Perm (bs ++ insS l)
  | [], bs => by unfold allG insS; simp
  | p :: l, bs => by
    have h := all_perm l (if p.kind = 2 then putF bs p.nw else bs)
    have e : allG bs (p :: l) = allG (if p.kind = 2 then putF bs p.nw else bs) l := rfl
    rw [e]
    refine h.trans ?_
    by_cases hk : p.kind = 2
    · rw [if_pos hk]
      have e2 : insS (p :: l) = p.nw :: insS l := by unfold insS; simp [hk]
      rw [e2]
      exact ((put_perm bs p.nw).append_right _).trans List.perm_middle.symm
    · rw [if_neg hk]
      have e2 : insS (p :: l) = insS l := by unfold insS; simp [hk]
      rw [e2]
theorem look_perm {xs ys : List Sg} (h1 : Srt xs) (h2 : Srt ys) (hp : ∀ a, a ∈ xs ↔ a ∈ ys) : xs = ys := by
  have key : ∀ {xs ys : List Sg}, Srt ys → (∀ a ∈ xs, a ∈ ys) → ∀ s x, lookG xs s = some x → lookG ys s = some x := fun h hm s x hx => by
    have := look_of h (hm x (look_mem hx))
    rw [look_id hx] at this
    exact this
  refine srt_ext h1 h2 fun s => ?_
  cases hx : lookG xs s with
  | some x => exact (key h2 (fun a ha => (hp a).1 ha) s x hx).symm
  | none =>
    cases hy : lookG ys s with
    | none => rfl
    | some y => rw [key h1 (fun a ha => (hp a).2 ha) s y hy] at hx; cases hx
theorem all_made {bs zs : List Sg} {l : List Pt} (hb : Srt bs) (hS : Sto l) (hf : fitB bs l = true) (hp : zs.Perm (bs ++ insS l)) (hs : zs.Pairwise (fun x y => Go.Proofs.ltOf cmpG y x = false)) : zs = allG bs l := by
  have h1 := (all_look hb hS hf).1
  have hp2 := all_perm l bs
  have hnd : ((allG bs l).map (·.id)).Nodup := by
    rw [List.nodup_iff_pairwise_ne, List.pairwise_map]
    exact List.Pairwise.imp (fun {a b} h => by omega) h1
  have hnd2 : ((bs ++ insS l).map (·.id)).Nodup := (hp2.map (·.id)).nodup_iff.1 hnd
  exact look_perm (perm_srt hp hs hnd2) h1 fun a => (hp.trans hp2.symm).mem_iff
/-! ### The state -/
def SetR (I : HMap) (r : Nat) (l : List Pt) : Prop := ∃ ms : List ((Int × Int) × Trip), I r = some (mapO encK2 fstT ms) ∧ ∀ q : Int × Int, ∃ av c, ((mget ms q).getD nilT).1 = .slice av (stF l q.1 q.2).length c ∧ Sl I 19 encP av (stF l q.1 q.2).length c (stF l q.1 q.2)
theorem SetR.mono {I I' : HMap} {r : Nat} {l : List Pt} (h : SetR I r l) (hI : HLe I I') : SetR I' r l := by
  obtain ⟨ms, h1, h2⟩ := h
  exact ⟨ms, hI _ _ h1, fun q => by obtain ⟨av, c, h3, h4⟩ := h2 q; exact ⟨av, c, h3, h4.mono hI⟩⟩
def RemR (I : HMap) (r : Nat) (l : List Pt) : Prop := ∃ mr : List (Int × Trip), I r = some (mapO (Value.int .i64) fstT mr) ∧ ∀ s, ∃ av c, ((mget mr s).getD nilT).1 = .slice av (rmF l s).length c ∧ Sl I 1 encI av (rmF l s).length c (rmF l s)
theorem RemR.mono {I I' : HMap} {r : Nat} {l : List Pt} (h : RemR I r l) (hI : HLe I I') : RemR I' r l := by
  obtain ⟨mr, h1, h2⟩ := h
  exact ⟨mr, hI _ _ h1, fun s => by obtain ⟨av, c, h3, h4⟩ := h2 s; exact ⟨av, c, h3, h4.mono hI⟩⟩
/-- A state: a version l of the store ps, over signs bs. -/
structure StQ (I : HMap) (ps l : List Pt) (xs : List Sg) (r1 r2 r3 : Nat) (av : Option Addr) (n c : Nat) : Prop where
  on : OnM I r1 ps
  set : SetR I r2 l
  rem : RemR I r3 l
  sg : Sl I 14 encG av n c xs
  sub : ∀ p ∈ l, p ∈ ps
  nd : ∀ p ∈ ps, Nd I p
  lst : Lst ps
  few : ps.length ≤ 512
  fewl : l.length ≤ 512
theorem StQ.mono {I I' : HMap} {ps l : List Pt} {xs : List Sg} {r1 r2 r3 : Nat} {av : Option Addr} {n c : Nat} (h : StQ I ps l xs r1 r2 r3 av n c) (hI : HLe I I') : StQ I' ps l xs r1 r2 r3 av n c :=
  ⟨h.on.mono hI, h.set.mono hI, h.rem.mono hI, h.sg.mono hI, h.sub, fun p hp => (h.nd p hp).mono hI, h.lst, h.few, h.fewl⟩
def stA (r1 r2 r3 : Nat) (av : Option Addr) (n c : Nat) : Value := .agg #[.map (some r1), .map (some r2), .map (some r3), .slice av n c]
/-- What a reading of the state comes to. -/
def RdQ (e : Int) (ps l : List Pt) (xs : List Sg) : Value → HMap → Go.Kn.Loc → Prop := fun v I' L => L = [] ∧ ∃ m1 m2 m3 av n c, v = .tuple #[.agg #[.map m1, .map m2, .map m3, .slice av n c], .int .i64 e] ∧ (e = 0 → ∃ r1 r2 r3, m1 = some r1 ∧ m2 = some r2 ∧ m3 = some r3 ∧ StQ I' ps l xs r1 r2 r3 av n c)
theorem pat_1 {ps : List Pt} {bs : List Sg} {ws : List Int} (h : chkR ps ≠ 0) : patE ps bs ws = chkR ps := by unfold patE; rw [if_pos h]
theorem pat_2 {ps : List Pt} {bs : List Sg} {ws : List Int} (h : chkR ps = 0) (h2 : chkG bs ≠ 0) : patE ps bs ws = chkG bs := by unfold patE; rw [if_neg (by omega), if_pos h2]
theorem pat_3 {ps : List Pt} {bs : List Sg} {ws : List Int} (h : chkR ps = 0) (h2 : chkG bs = 0) (h3 : vrE ps ws ≠ 0) : patE ps bs ws = vrE ps ws := by
  unfold patE; rw [if_neg (by omega), if_neg (by omega)]
  unfold vrE at *
  split
  · rfl
  · rename_i h4
    rw [if_neg h4] at h3
    cases hv : verB ps ws with
    | true => rw [hv] at h3; exact absurd rfl h3
    | false => rfl
theorem vr_len {ps : List Pt} {ws : List Int} (h : vrE ps ws = 0) : ¬ ws.length > 512 := fun h2 => by unfold vrE at h; rw [if_pos h2] at h; cases h
theorem pat_4 {ps : List Pt} {bs : List Sg} {ws : List Int} (h : chkR ps = 0) (h2 : chkG bs = 0) (h3 : vrE ps ws = 0) (h4 : fitB bs (verL ps ws) = false) : patE ps bs ws = 380 := by
  unfold patE; rw [if_neg (by omega), if_neg (by omega), if_neg (vr_len h3), h4, Bool.and_false]; rfl
theorem pat_5 {ps : List Pt} {bs : List Sg} {ws : List Int} (h : chkR ps = 0) (h2 : chkG bs = 0) (h3 : vrE ps ws = 0) (h4 : fitB bs (verL ps ws) = true) : patE ps bs ws = 0 := by
  unfold patE; rw [if_neg (by omega), if_neg (by omega), if_neg (vr_len h3), h4, vr_ver h3]; rfl
theorem fit_bad {ps : List Pt} {bs : List Sg} {ws : List Int} {p : Pt} (hp : p ∈ ps) (hin : (ws.any fun x => x == p.id) = true) (h : fitP bs (verL ps ws) p = false) : fitB bs (verL ps ws) = false := by
  unfold fitB
  exact List.all_eq_false.2 ⟨p, List.mem_filter.2 ⟨hp, hin⟩, by rw [h]; exact Bool.false_ne_true⟩
theorem perm_a {x a b c : Nat × Obj} {Lg Ls Lr : Go.Kn.Loc} : (x :: (Lg ++ (a :: b :: c :: (Ls ++ Lr)))).Perm (Lg ++ (x :: a :: b :: c :: (Ls ++ Lr))) := List.perm_middle.symm
theorem perm_b {x a b c : Nat × Obj} {Lg A L B Lr : Go.Kn.Loc} : (x :: (Lg ++ (a :: b :: c :: ((A ++ (L ++ B)) ++ Lr)))).Perm (L ++ (x :: (Lg ++ (a :: b :: c :: (A ++ (B ++ Lr)))))) := by
  have h1 : ((A ++ (L ++ B)) ++ Lr).Perm (L ++ (A ++ (B ++ Lr))) := by
    rw [List.append_assoc, List.append_assoc]; exact List.perm_append_comm_assoc A L _
  have h2 : (x :: (Lg ++ (a :: b :: c :: ((A ++ (L ++ B)) ++ Lr)))).Perm (x :: (Lg ++ (a :: b :: c :: (L ++ (A ++ (B ++ Lr)))))) := ((h1.cons c |>.cons b |>.cons a).append_left Lg).cons x
  refine h2.trans ?_
  have h3 : (a :: b :: c :: (L ++ (A ++ (B ++ Lr)))).Perm (L ++ (a :: b :: c :: (A ++ (B ++ Lr)))) := List.perm_append_comm_assoc [a, b, c] L _
  refine ((h3.append_left Lg).cons x).trans ?_
  exact List.perm_append_comm_assoc (x :: Lg) L _
theorem perm_c {x a b c : Nat × Obj} {Lg A L B Ls : Go.Kn.Loc} : (x :: (Lg ++ (a :: b :: c :: (Ls ++ (A ++ (L ++ B)))))).Perm (L ++ (x :: (Lg ++ (a :: b :: c :: (Ls ++ (A ++ B)))))) := by
  have h1 : (Ls ++ (A ++ (L ++ B))).Perm (L ++ (Ls ++ (A ++ B))) := by
    refine ((List.perm_append_comm_assoc A L B).append_left Ls).trans (List.perm_append_comm_assoc Ls L _)
  have h2 := ((h1.cons c |>.cons b |>.cons a).append_left Lg).cons x
  refine h2.trans ?_
  have h3 : (a :: b :: c :: (L ++ (Ls ++ (A ++ B)))).Perm (L ++ (a :: b :: c :: (Ls ++ (A ++ B)))) := List.perm_append_comm_assoc [a, b, c] L _
  refine ((h3.append_left Lg).cons x).trans ?_
  exact List.perm_append_comm_assoc (x :: Lg) L _
end Go.Proofs.YtoicbikdenlioaaGreat
end
