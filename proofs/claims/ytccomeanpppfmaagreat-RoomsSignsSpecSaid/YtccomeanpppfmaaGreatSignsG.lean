/- roomsSignsSpec_holds, part G of the proof: what its theorems say holds without further conditions. -/
import Derived.ProofKit
import Derived.Deep.Slices
import Derived.Test.YtccomeanpppfmaaGreatRows
import Derived.Test.YtccomeanpppfmaaGreatSignsF
section
namespace Go.Proofs.YtccomeanpppfmaaGreat
open Go Go.Kn Go.Proofs
theorem fun_139 : Fun Tryz.prog 139 := .of Tryz.func139 (by kernel_rfl) (by kernel_rfl)
theorem fun_140 : Fun Tryz.prog 140 := .of Tryz.func140 (by kernel_rfl) (by kernel_rfl)
theorem fun_53 : Fun Tryz.prog 53 := .of Tryz.func53 (by kernel_rfl) (by kernel_rfl)
theorem r_findG {I : HMap} {av : Option Addr} {n c : Nat} {xs : List Sg} (hS : Sl I 14 encG av n c xs) (hn : n ≤ 100000) (t : Int) : RetV Tryz.prog 139 [.slice av n c, .int .i64 t] I (.int .i64 (idxF (fun x : Sg => x.id == t) xs)) := by
 intro g H w hw
 refine enter Tryz.func139 rfl Tryz.ntmps139 rfl hw ?_
 refine X_seq (X_region ?_)
 refine XO_v0 (ev_assign rfl) rfl rfl rfl ?_
 refine XO_nil (at_then ?_)
 refine X_seq ?_
 refine X_seq (X_region ?_)
 refine XO_v0 (ev_assign rfl) rfl rfl rfl ?_
 refine XO_nil (at_then ?_)
 refine X_block ?_
 refine X_loopT [(0, _), (1, _)] (.cons rfl (.cons rfl .nil)) (fun T L0 mz E I' loc' => ∃ (k : Nat), mz = n - k ∧ E = (5, .int .i64 k) :: T ∧ I = I' ∧ L0 = loc' ∧ k ≤ n ∧ (xs.take k).any (fun x => x.id == t) = false) _ _ _ _ ⟨0, rfl, rfl, rfl, rfl, Nat.zero_le _, by simp⟩ (.cons rfl (.cons rfl (.cons rfl .nil))) (HLe.refl _) rfl ?_
 rintro mz E I' loc' ⟨k, rfl, rfl, rfl, rfl, hk, hno⟩
 refine X_seq ?_
 refine X_seq (X_region ?_)
 refine XO_v0 (ev_move rfl) rfl rfl rfl ?_
 refine XO_v0 (ev_move rfl) rfl rfl rfl ?_
 refine XO_v0 (ev_lenS rfl slt_33) rfl rfl rfl ?_
 refine XO_v0 (ev_cmp rfl rfl rfl) rfl rfl rfl ?_
 refine XO_nil (at_then ?_)
 refine X_cond rfl (fun hc9 => ?_) (fun hc9 => ?_)
 ·
  have hlt_k : k < n := by have h := hc9; simp at h; omega
  obtain ⟨x, hx⟩ := hS.at hlt_k
  refine X_skip ?_
  refine at_then ?_
  refine X_seq ?_
  refine X_block ?_
  refine X_seq (X_region ?_)
  refine XO_v0 (ev_move rfl) rfl rfl rfl ?_
  refine XO_v0 (ev_move rfl) rfl rfl rfl ?_
  refine XO_v0 (ev_indexSl rfl rfl slt_33 (by assumption) (fun hg => by first | omega | (simp [conj] at hg; omega))) rfl rfl rfl ?_
  refine XO_v0 (ev_fieldAddr rfl fld_45_0) rfl rfl rfl ?_
  refine XO_v0 (ev_load rfl sct_3 (fun hg => by first | exact Sl.get hS hx rfl | (repeat (first | exact Cell.here rfl | apply Cell.there | apply Cell.app)))) rfl rfl rfl ?_
  refine XO_v0 (ev_move rfl) rfl rfl rfl ?_
  refine XO_v0 (ev_cmp rfl rfl rfl) rfl rfl rfl ?_
  refine XO_nil (at_then ?_)
  refine X_cond rfl (fun hc18 => ?_) (fun hc18 => ?_)
  ·
   refine X_seq (X_region ?_)
   refine XO_v0 (ev_move rfl) rfl rfl rfl ?_
   refine XO_v0 (ev_assign rfl) rfl rfl rfl ?_
   refine XO_nil (at_then ?_)
   refine X_ret ?_
   refine at_block_r ?_
   refine at_then_r ?_
   refine at_then_r ?_
   refine at_block_r ?_
   refine at_then_r ?_
   exact at_ret1 rfl rfl (fun w hw => ⟨by rw [idx_hit (p := fun x : Sg => x.id == t) hno hx hc18], hw.drop⟩)
  ·
   refine X_skip ?_
   refine at_block_n ?_
   refine at_then ?_
   refine X_region ?_
   refine XO_v0 (ev_move rfl) rfl rfl rfl ?_
   refine XO_v0 (ev_arB rfl rfl rfl (fun _ => by omega)) rfl rfl rfl ?_
   refine XO_v0 (ev_assign rfl) rfl rfl rfl ?_
   refine XO_nil ?_
   exact at_met2 _ _ ⟨n - (k + 1), by omega, k + 1, rfl, rfl, rfl, rfl, by omega, any_no hx hno hc18⟩ (.cons rfl (.cons rfl (.cons rfl .nil))) (by repeat (first | exact .refl | exact subL_left | refine subL_app ?_ | refine .drop ?_ | refine subL_add ?_))
 ·
  have hge_k : n ≤ k := by have h := hc9; simp at h; omega
  refine X_exit ?_
  refine at_then_e ?_
  refine at_then_e ?_
  refine at_block_hit ?_
  refine at_then ?_
  refine X_seq (X_region ?_)
  refine XO_v0 (ev_assign rfl) rfl rfl rfl ?_
  refine XO_nil (at_then ?_)
  refine X_ret ?_
  exact at_ret1 rfl rfl (fun w hw => ⟨by rw [idx_none hS.len hge_k hno], hw.drop⟩)
theorem r_put {I : HMap} {av : Option Addr} {n c : Nat} {xs : List Sg} (hS : Sl I 14 encG av n c xs) (hn : n ≤ 100000) (k : Sg) : RetM Tryz.prog 46 [.slice av n c, encGA k] I [] (SlRes 14 encG (putF xs k)) := by
 intro g H w hw
 refine enter Tryz.func46 rfl Tryz.ntmps46 rfl hw ?_
 have hIc := HLe.refl I
 have hcap := hS.cap
 refine X_seq (X_region ?_)
 refine XO_box rfl rfl rfl (fun b_3 => ?_)
 refine XO_v0 (ev_assign rfl) rfl rfl rfl ?_
 refine XO_nil (at_then ?_)
 refine X_seq (X_region ?_)
 refine XO_v0 (ev_assign rfl) rfl rfl rfl ?_
 refine XO_nil (at_then ?_)
 refine X_seq ?_
 refine X_block ?_
 refine X_loopT [(0, _), (3, _)] (.cons rfl (.cons rfl .nil)) (fun T L0 mz E I' loc' => ∃ (i : Nat), mz = n - i ∧ E = (5, .int .i64 i) :: T ∧ I = I' ∧ (b_3, .cells (encG k).toArray 45 (0, 0)) :: [] = loc' ∧ i ≤ n ∧ ∀ q z, q < i → xs[q]? = some z → z.id < k.id) _ _ _ _ ⟨0, rfl, rfl, rfl, rfl, Nat.zero_le _, fun q z h => absurd h (by omega)⟩ (.cons rfl (.cons rfl (.cons rfl .nil))) (HLe.refl _) rfl ?_
 rintro mz E I' loc' ⟨i, rfl, rfl, rfl, rfl, hi, hlo⟩
 refine X_seq ?_
 refine X_seq ?_
 refine X_draw mixed (by kernel_rfl) ?_
 refine XQ_v0 (ev_move rfl) rfl rfl rfl ?_
 refine XQ_v0 (ev_move rfl) rfl rfl rfl ?_
 refine XQ_v0 (ev_lenS rfl slt_33) rfl rfl rfl ?_
 refine XQ_v0 (ev_cmp rfl rfl rfl) rfl rfl rfl ?_
 refine XQ_v0 (ev_move rfl) rfl rfl rfl ?_
 refine XQ_pushT 4 rfl rfl rfl ?_
 refine XQ_v1 (ev_move rfl) (.some rfl rfl rfl rfl gbt) rfl rfl rfl ?_
 refine XQ_v1 (ev_move rfl) (.some rfl rfl rfl rfl gbt) rfl rfl rfl ?_
 refine XQ_v1 (ev_indexSl rfl rfl slt_33 (by assumption) (fun hg => by first | omega | (simp [conj] at hg; omega))) (.some rfl rfl rfl rfl gbt) rfl rfl rfl ?_
 refine XQ_v1 (ev_fieldAddr rfl fld_45_0) (.some rfl rfl rfl rfl gbt) rfl rfl rfl ?_
 refine XQ_v1 (ev_load rfl sct_3 (fun hg => by first | exact Sl.get (k := i) hS (some_getD (d := zeroG) hS.len (by simp [conj] at hg; omega)) rfl | (repeat (first | exact Cell.here rfl | apply Cell.there | apply Cell.app)))) (.some rfl rfl rfl rfl gbt) rfl rfl rfl ?_
 refine XQ_v1 (ev_fieldAddr rfl fld_45_0) (.some rfl rfl rfl rfl gbt) rfl rfl rfl ?_
 refine XQ_v1 (ev_load rfl sct_3 (fun hg => by first | exact Sl.get (k := i) hS (some_getD (d := zeroG) hS.len (by simp [conj] at hg; omega)) rfl | (repeat (first | exact Cell.here rfl | apply Cell.there | apply Cell.app)))) (.some rfl rfl rfl rfl gbt) rfl rfl rfl ?_
 refine XQ_v1 (ev_cmp rfl rfl rfl) (.some rfl rfl rfl rfl gbt) rfl rfl rfl ?_
 refine XQ_and0 rfl rfl rfl rfl rfl ?_
 refine XQ_nil ?_
 refine at_then ?_
 refine X_cond rfl (fun hc20 => ?_) (fun hc20 => ?_)
 ·
  have hlt_i : i < n := by have h := ((Bool.and_eq_true _ _).mp hc20).1; simp at h; omega
  obtain ⟨x, hx⟩ := hS.at hlt_i
  have hlt2 : x.id < k.id := putc hS.len hx hc20
  refine X_skip ?_
  refine at_then ?_
  refine X_block ?_
  refine X_region ?_
  refine XO_v0 (ev_move rfl) rfl rfl rfl ?_
  refine XO_v0 (ev_arB rfl rfl rfl (fun _ => by omega)) rfl rfl rfl ?_
  refine XO_v0 (ev_assign rfl) rfl rfl rfl ?_
  refine XO_nil ?_
  refine at_block_n ?_
  exact at_met2 _ _ ⟨n - (i + 1), by omega, i + 1, rfl, rfl, rfl, rfl, by omega, low_more hlo hx hlt2⟩ (.cons rfl (.cons rfl (.cons rfl .nil))) (by repeat (first | exact .refl | exact subL_left | refine subL_app ?_ | refine .drop ?_ | refine subL_add ?_))
 ·
  have hli : lowK Sg.id xs k.id = i := putd hS.len hi hlo hc20
  have hpe := put_low (xs := xs) (k := k)
  rw [hli] at hpe
  refine X_exit ?_
  refine at_then_e ?_
  refine at_then_e ?_
  refine at_block_hit ?_
  refine at_then ?_
  refine X_seq (X_region ?_)
  refine XO_buildSlice (ps := []) (m := []) elt_33 rfl (.nil) rfl (by simp [encG_len]) (by decide) (by decide) rfl rfl (fun b_23 => ?_)
  refine XO_v0 (ev_move rfl) rfl rfl rfl ?_
  refine XO_v0 (ev_move rfl) rfl rfl rfl ?_
  refine XO_v0 (ev_sliceHi rfl rfl slt_33 (fun hg => by first | omega | (simp [conj] at hg; omega))) rfl rfl rfl ?_
  refine XO_append (v := _) (ys := (xs.take i).flatMap encG) (L := [(b_23, _)]) rfl rfl elt_33 OwnS.new (by repeat (first | exact .cons .here .nil | exact split_all | exact split_app | apply split_cons | apply split_skip)) ((hS.take hi).src encG_len) (one_G _) (by omega) rfl rfl ?_
  intro v1 L1 hO1 _; rw [List.nil_append, Nat.zero_add] at hO1
  refine XO_v0 (ev_assign rfl) rfl rfl rfl ?_
  refine XO_nil (at_then ?_)
  refine X_seq (X_region ?_)
  refine XO_v0 (ev_move rfl) rfl rfl rfl ?_
  refine XO_v0 (ev_loadA rfl agt_45 (fun hg => by first | (repeat (first | exact Cells.here | exact Cells.s0 (vs := [_, _, _, _, _, _, _, _, _, _, _, _, _, _]) rfl | apply Cells.there | apply Cells.app))) rfl) rfl rfl rfl ?_
  refine XO_buildSlice (ps := [(0, _)]) (m := [encG k]) elt_33 rfl (.cons rfl (.nil)) rfl (by simp [encG_len]) (by decide) (by decide) rfl rfl (fun b_30 => ?_)
  refine XO_append (v := _) (ys := [k].flatMap encG) (L := L1) rfl rfl elt_33 hO1 (by repeat (first | exact .cons .here .nil | exact split_all | exact split_app | apply split_cons | apply split_skip)) ⟨rfl, fun _ => rfl, by repeat (first | exact Cells.here | apply Cells.there | apply Cells.app)⟩ (one_G [k]) (by omega) rfl rfl ?_
  intro v2 L2 hO2 _; rw [← List.flatMap_append] at hO2
  refine XO_v0 (ev_assign rfl) rfl rfl rfl ?_
  refine XO_nil (at_then ?_)
  refine X_seq (X_region ?_)
  refine XO_v0 (ev_move rfl) rfl rfl rfl ?_
  refine XO_v0 (ev_move rfl) rfl rfl rfl ?_
  refine XO_v0 (ev_move rfl) rfl rfl rfl ?_
  refine XO_v0 (ev_sliceLo rfl rfl slt_33 (fun hg => by first | omega | (simp [conj] at hg; omega))) rfl rfl rfl ?_
  refine XO_append (v := _) (ys := (xs.drop i).flatMap encG) (L := L2) rfl rfl elt_33 hO2 (by repeat (first | exact .cons .here .nil | exact split_all | exact split_app | apply split_cons | apply split_skip)) ((hS.drop hi).src encG_len) (one_G _) (by omega) rfl rfl ?_
  intro v3 L3 hO3 _; rw [← List.flatMap_append] at hO3
  refine XO_v0 (ev_assign rfl) rfl rfl rfl ?_
  refine XO_nil (at_then ?_)
  refine X_ret ?_
  exact at_ret1 rfl rfl (fun w hw => by obtain ⟨I9, h91, h92, h93⟩ := OwnS.res hO3 encG_len (by decide) (hw.subL subL_left); rw [← hpe] at h93; exact ⟨_, I9, [], rfl, hIc.trans h91, h92, h93⟩)
theorem of_one {I : HMap} {av : Option Addr} {n c : Nat} {ps : List Pt} {f : Pt → Bool} (hP : SlP I av n c ps) : ∀ p ∈ ps.filter f, Nd I p := fun p hp => hP.2 p (List.mem_filter.1 hp).1
theorem r_of {I : HMap} {av : Option Addr} {n c : Nat} {ps : List Pt} (hP : SlP I av n c ps) (hn : n ≤ 100000) {f : Pt → Bool} {bv : Option Addr} {c2 : Nat} (hF : Sl I 1 encB bv n c2 (ps.map f)) : RetM Tryz.prog 84 [.slice av n c, .slice bv n c2] I [] (SlRes 19 encP (ps.filter f)) := by
 intro g H w hw
 refine enter Tryz.func84 rfl Tryz.ntmps84 rfl hw ?_
 have hIc := HLe.refl I
 refine X_seq (X_region ?_)
 refine XO_v0 (ev_assign rfl) rfl rfl rfl ?_
 refine XO_nil (at_then ?_)
 refine X_seq (X_region ?_)
 refine XO_v0 (ev_assign rfl) rfl rfl rfl ?_
 refine XO_nil (at_then ?_)
 refine X_seq ?_
 refine X_seq (X_region ?_)
 refine XO_v0 (ev_assign rfl) rfl rfl rfl ?_
 refine XO_nil (at_then ?_)
 refine X_block ?_
 refine X_loopT [(0, _), (1, _)] (.cons rfl (.cons rfl .nil)) (fun T L0 mz E I' loc' => ∃ (k : Nat) (v : Value) (q : Nat) (L : Go.Kn.Loc), mz = n - k ∧ E = (5, v) :: (6, .int .i64 k) :: T ∧ I = I' ∧ L = loc' ∧ k ≤ n ∧ OwnS 53 19 v q (((ps.take k).filter f).flatMap encP) L ∧ q ≤ k) _ _ _ _ ⟨0, _, 0, [], rfl, rfl, rfl, rfl, Nat.zero_le _, by rw [List.take_zero]; exact OwnS.nil, Nat.le_refl _⟩ (.cons rfl (.cons rfl (.cons rfl (.cons rfl .nil)))) (HLe.refl _) rfl ?_
 rintro mz E I' loc' ⟨k, v, q, L, rfl, rfl, rfl, rfl, hk, hO, hq⟩
 refine X_seq ?_
 refine X_seq (X_region ?_)
 refine XO_v0 (ev_move rfl) rfl rfl rfl ?_
 refine XO_v0 (ev_move rfl) rfl rfl rfl ?_
 refine XO_v0 (ev_lenS rfl slt_22) rfl rfl rfl ?_
 refine XO_v0 (ev_cmp rfl rfl rfl) rfl rfl rfl ?_
 refine XO_nil (at_then ?_)
 refine X_cond rfl (fun hc10 => ?_) (fun hc10 => ?_)
 ·
  have hlt_k : k < n := by have h := hc10; simp at h; omega
  have hP1 := hP.1
  obtain ⟨p, hp⟩ := hP1.at hlt_k
  have hb : (ps.map f)[k]? = some (f p) := by simp [hp]
  refine X_skip ?_
  refine at_then ?_
  refine X_seq ?_
  refine X_block ?_
  refine X_seq (X_region ?_)
  refine XO_v0 (ev_move rfl) rfl rfl rfl ?_
  refine XO_v0 (ev_move rfl) rfl rfl rfl ?_
  refine XO_v0 (ev_indexSl rfl rfl slt_61 (by assumption) (fun hg => by first | omega | (simp [conj] at hg; omega))) rfl rfl rfl ?_
  refine XO_v0 (ev_load rfl sct_4 (fun hg => by first | exact Sl.get0 hF hb rfl | (repeat (first | exact Cell.here rfl | apply Cell.there | apply Cell.app)))) rfl rfl rfl ?_
  refine XO_nil (at_then ?_)
  refine X_cond rfl (fun hc16 => ?_) (fun hc16 => ?_)
  ·
   refine X_region ?_
   refine XO_v0 (ev_move rfl) rfl rfl rfl ?_
   refine XO_v0 (ev_move rfl) rfl rfl rfl ?_
   refine XO_v0 (ev_move rfl) rfl rfl rfl ?_
   refine XO_v0 (ev_indexSl rfl rfl slt_22 (by assumption) (fun hg => by first | omega | (simp [conj] at hg; omega))) rfl rfl rfl ?_
   refine XO_v0 (ev_loadA rfl agt_53 (fun hg => by first | exact Sl.getA hP1 hp | (repeat (first | exact Cells.here | exact Cells.s0 (vs := [_, _, _, _, _, _, _, _, _, _, _, _, _, _, _, _, _, _, _]) rfl | apply Cells.there | apply Cells.app))) rfl) rfl rfl rfl ?_
   refine XO_buildSlice (ps := [(0, _)]) (m := [encP p]) elt_22 rfl (.cons rfl (.nil)) rfl (by simp [encP_len]) (by decide) (by decide) rfl rfl (fun b_22 => ?_)
   refine XO_append (v := _) (ys := [p].flatMap encP) (L := L) rfl rfl elt_22 hO (by repeat (first | exact .cons .here .nil | exact split_all | exact split_app | apply split_cons | apply split_skip)) ⟨rfl, fun _ => rfl, Cells.here⟩ (one_P [p]) (by omega) rfl rfl ?_
   intro v9 L9 hO9 _; rw [← List.flatMap_append] at hO9
   refine XO_v0 (ev_assign rfl) rfl rfl rfl ?_
   refine XO_nil ?_
   refine at_block_n ?_
   refine at_then ?_
   refine X_region ?_
   refine XO_v0 (ev_move rfl) rfl rfl rfl ?_
   refine XO_v0 (ev_arB rfl rfl rfl (fun _ => by omega)) rfl rfl rfl ?_
   refine XO_v0 (ev_assign rfl) rfl rfl rfl ?_
   refine XO_nil ?_
   first
   | exact at_met2 _ _ ⟨n - (k + 1), by omega, k + 1, _, _, _, rfl, rfl, rfl, rfl, by omega, by rw [flt_yes hp hc16]; exact hO9, by omega⟩ (.cons rfl (.cons rfl (.cons rfl (.cons rfl .nil)))) (by repeat (first | exact .refl | exact subL_left | refine subL_app ?_ | refine .drop ?_ | refine subL_add ?_))
  ·
   refine X_skip ?_
   refine at_block_n ?_
   refine at_then ?_
   refine X_region ?_
   refine XO_v0 (ev_move rfl) rfl rfl rfl ?_
   refine XO_v0 (ev_arB rfl rfl rfl (fun _ => by omega)) rfl rfl rfl ?_
   refine XO_v0 (ev_assign rfl) rfl rfl rfl ?_
   refine XO_nil ?_
   first
   | exact at_met2 _ _ ⟨n - (k + 1), by omega, k + 1, _, _, _, rfl, rfl, rfl, rfl, by omega, by rw [flt_no hp hc16]; exact hO, by omega⟩ (.cons rfl (.cons rfl (.cons rfl (.cons rfl .nil)))) (by repeat (first | exact .refl | exact subL_left | refine subL_app ?_ | refine .drop ?_ | refine subL_add ?_))
 ·
  have hge_k : n ≤ k := by have h := hc10; simp at h; omega
  rw [take_all hP.len hge_k] at hO
  refine X_exit ?_
  refine at_then_e ?_
  refine at_then_e ?_
  refine at_block_hit ?_
  refine at_then ?_
  refine X_seq (X_region ?_)
  refine XO_v0 (ev_move rfl) rfl rfl rfl ?_
  refine XO_v0 (ev_assign rfl) rfl rfl rfl ?_
  refine XO_nil (at_then ?_)
  refine X_ret ?_
  exact at_ret1 rfl rfl (fun w hw => by obtain ⟨I9, h91, h92, h93⟩ := OwnS.res hO encP_len (by decide) hw; exact ⟨_, I9, [], rfl, hIc.trans h91, h92, h93⟩)
theorem r_ins {I : HMap} {av : Option Addr} {n c : Nat} {ps : List Pt} (hP : SlP I av n c ps) (hn : n ≤ 100000) (s : Int) : RetV Tryz.prog 140 [.slice av n c, .int .i64 s] I (.int .i64 (idxF (fun q : Pt => q.kind == 2 && q.sign == s) ps)) := by
 intro g H w hw
 refine enter Tryz.func140 rfl Tryz.ntmps140 rfl hw ?_
 refine X_seq (X_region ?_)
 refine XO_v0 (ev_assign rfl) rfl rfl rfl ?_
 refine XO_nil (at_then ?_)
 refine X_seq ?_
 refine X_seq (X_region ?_)
 refine XO_v0 (ev_assign rfl) rfl rfl rfl ?_
 refine XO_nil (at_then ?_)
 refine X_block ?_
 refine X_loopT [(0, _), (1, _)] (.cons rfl (.cons rfl .nil)) (fun T L0 mz E I' loc' => ∃ (k : Nat), mz = n - k ∧ E = (5, .int .i64 k) :: T ∧ I = I' ∧ L0 = loc' ∧ k ≤ n ∧ (ps.take k).any (fun q : Pt => q.kind == 2 && q.sign == s) = false) _ _ _ _ ⟨0, rfl, rfl, rfl, rfl, Nat.zero_le _, by simp⟩ (.cons rfl (.cons rfl (.cons rfl .nil))) (HLe.refl _) rfl ?_
 rintro mz E I' loc' ⟨k, rfl, rfl, rfl, rfl, hk, hno⟩
 refine X_seq ?_
 refine X_seq (X_region ?_)
 refine XO_v0 (ev_move rfl) rfl rfl rfl ?_
 refine XO_v0 (ev_move rfl) rfl rfl rfl ?_
 refine XO_v0 (ev_lenS rfl slt_22) rfl rfl rfl ?_
 refine XO_v0 (ev_cmp rfl rfl rfl) rfl rfl rfl ?_
 refine XO_nil (at_then ?_)
 refine X_cond rfl (fun hc9 => ?_) (fun hc9 => ?_)
 ·
  have hlt_k : k < n := by have h := hc9; simp at h; omega
  have hP1 := hP.1
  obtain ⟨p, hp⟩ := hP1.at hlt_k
  refine X_skip ?_
  refine at_then ?_
  refine X_seq ?_
  refine X_block ?_
  refine X_seq (X_region ?_)
  refine XO_v0 (ev_move rfl) rfl rfl rfl ?_
  refine XO_v0 (ev_move rfl) rfl rfl rfl ?_
  refine XO_v0 (ev_indexSl rfl rfl slt_22 (by assumption) (fun hg => by first | omega | (simp [conj] at hg; omega))) rfl rfl rfl ?_
  refine XO_v0 (ev_fieldAddr rfl fld_53_1) rfl rfl rfl ?_
  refine XO_v0 (ev_load rfl sct_3 (fun hg => by first | exact Sl.get hP1 hp rfl | (repeat (first | exact Cell.here rfl | apply Cell.there | apply Cell.app)))) rfl rfl rfl ?_
  refine XO_v0 (ev_cmp rfl rfl rfl) rfl rfl rfl ?_
  refine XO_v0 (ev_move rfl) rfl rfl rfl ?_
  refine XO_pushT 6 rfl rfl rfl ?_
  refine XO_v1 (ev_move rfl) (.some rfl rfl rfl rfl gbt) rfl rfl rfl ?_
  refine XO_v1 (ev_move rfl) (.some rfl rfl rfl rfl gbt) rfl rfl rfl ?_
  refine XO_v1 (ev_indexSl rfl rfl slt_22 (by assumption) (fun hg => by first | omega | (simp [conj] at hg; omega))) (.some rfl rfl rfl rfl gbt) rfl rfl rfl ?_
  refine XO_v1 (ev_fieldAddr rfl fld_53_2) (.some rfl rfl rfl rfl gbt) rfl rfl rfl ?_
  refine XO_v1 (ev_load rfl sct_3 (fun hg => by first | exact Sl.get hP1 hp rfl | (repeat (first | exact Cell.here rfl | apply Cell.there | apply Cell.app)))) (.some rfl rfl rfl rfl gbt) rfl rfl rfl ?_
  refine XO_v1 (ev_move rfl) (.some rfl rfl rfl rfl gbt) rfl rfl rfl ?_
  refine XO_v1 (ev_cmp rfl rfl rfl) (.some rfl rfl rfl rfl gbt) rfl rfl rfl ?_
  refine XO_and0 rfl rfl rfl rfl rfl ?_
  refine XO_nil (at_then ?_)
  refine X_cond rfl (fun hc26 => ?_) (fun hc26 => ?_)
  ·
   refine X_seq (X_region ?_)
   refine XO_v0 (ev_move rfl) rfl rfl rfl ?_
   refine XO_v0 (ev_assign rfl) rfl rfl rfl ?_
   refine XO_nil (at_then ?_)
   refine X_ret ?_
   refine at_block_r ?_
   refine at_then_r ?_
   refine at_then_r ?_
   refine at_block_r ?_
   refine at_then_r ?_
   exact at_ret1 rfl rfl (fun w hw => ⟨by rw [idx_hit (p := (fun q : Pt => q.kind == 2 && q.sign == s)) hno hp hc26], hw.drop⟩)
  ·
   refine X_skip ?_
   refine at_block_n ?_
   refine at_then ?_
   refine X_region ?_
   refine XO_v0 (ev_move rfl) rfl rfl rfl ?_
   refine XO_v0 (ev_arB rfl rfl rfl (fun _ => by omega)) rfl rfl rfl ?_
   refine XO_v0 (ev_assign rfl) rfl rfl rfl ?_
   refine XO_nil ?_
   exact at_met2 _ _ ⟨n - (k + 1), by omega, k + 1, rfl, rfl, rfl, rfl, by omega, any_no hp hno hc26⟩ (.cons rfl (.cons rfl (.cons rfl .nil))) (by repeat (first | exact .refl | exact subL_left | refine subL_app ?_ | refine .drop ?_ | refine subL_add ?_))
 ·
  have hge_k : n ≤ k := by have h := hc9; simp at h; omega
  refine X_exit ?_
  refine at_then_e ?_
  refine at_then_e ?_
  refine at_block_hit ?_
  refine at_then ?_
  refine X_seq (X_region ?_)
  refine XO_v0 (ev_assign rfl) rfl rfl rfl ?_
  refine XO_nil (at_then ?_)
  refine X_ret ?_
  exact at_ret1 rfl rfl (fun w hw => ⟨by rw [idx_none hP.len hge_k hno], hw.drop⟩)
theorem r_fits {I : HMap} {av : Option Addr} {n c : Nat} {ps : List Pt} (hP : SlP I av n c ps) (hn : n ≤ 100000) {bv : Option Addr} {n2 c2 : Nat} {bs : List Sg} (hB : Sl I 14 encG bv n2 c2 bs) (hn2 : n2 ≤ 100000) : RetV Tryz.prog 85 [.slice av n c, .slice bv n2 c2] I (.bool (fitB bs ps)) := by
 intro g H w hw
 refine enter Tryz.func85 rfl Tryz.ntmps85 rfl hw ?_
 refine X_seq (X_region ?_)
 refine XO_v0 (ev_assign rfl) rfl rfl rfl ?_
 refine XO_nil (at_then ?_)
 refine X_seq ?_
 refine X_seq (X_region ?_)
 refine XO_v0 (ev_assign rfl) rfl rfl rfl ?_
 refine XO_nil (at_then ?_)
 refine X_block ?_
 refine X_loopT [(0, _), (1, _)] (.cons rfl (.cons rfl .nil)) (fun T L0 mz E I' loc' => ∃ (k : Nat), mz = n - k ∧ E = (5, .int .i64 k) :: T ∧ I = I' ∧ L0 = loc' ∧ k ≤ n ∧ (ps.take k).all (fitP bs ps) = true) _ _ _ _ ⟨0, rfl, rfl, rfl, rfl, Nat.zero_le _, by simp⟩ (.cons rfl (.cons rfl (.cons rfl .nil))) (HLe.refl _) rfl ?_
 rintro mz E I' loc' ⟨k, rfl, rfl, rfl, rfl, hk, hall⟩
 refine X_seq ?_
 refine X_seq (X_region ?_)
 refine XO_v0 (ev_move rfl) rfl rfl rfl ?_
 refine XO_v0 (ev_move rfl) rfl rfl rfl ?_
 refine XO_v0 (ev_lenS rfl slt_22) rfl rfl rfl ?_
 refine XO_v0 (ev_cmp rfl rfl rfl) rfl rfl rfl ?_
 refine XO_nil (at_then ?_)
 refine X_cond rfl (fun hc10 => ?_) (fun hc10 => ?_)
 ·
  have hlt_k : k < n := by have h := hc10; simp at h; omega
  have hP1 := hP.1
  obtain ⟨p, hp⟩ := hP1.at hlt_k
  refine X_skip ?_
  refine at_then ?_
  refine X_seq ?_
  refine X_block ?_
  refine X_seq (X_region ?_)
  refine XO_v0 (ev_move rfl) rfl rfl rfl ?_
  refine XO_v0 (ev_move rfl) rfl rfl rfl ?_
  refine XO_v0 (ev_move rfl) rfl rfl rfl ?_
  refine XO_v0 (ev_indexSl rfl rfl slt_22 (by assumption) (fun hg => by first | omega | (simp [conj] at hg; omega))) rfl rfl rfl ?_
  refine XO_v0 (ev_fieldAddr rfl fld_53_2) rfl rfl rfl ?_
  refine XO_v0 (ev_load rfl sct_3 (fun hg => by first | exact Sl.get hP1 hp rfl | (repeat (first | exact Cell.here rfl | apply Cell.there | apply Cell.app)))) rfl rfl rfl ?_
  refine XO_callV0 (cap := []) (vs := [_, _]) rfl rfl fun_139 (r_findG hB hn2 _) rfl rfl ?_
  refine XO_v0 (ev_cmp rfl rfl rfl) rfl rfl rfl ?_
  refine XO_v0 (ev_assign rfl) rfl rfl rfl ?_
  refine XO_nil (at_then ?_)
  refine X_seq (X_region ?_)
  refine XO_v0 (ev_move rfl) rfl rfl rfl ?_
  refine XO_v0 (ev_move rfl) rfl rfl rfl ?_
  refine XO_v0 (ev_indexSl rfl rfl slt_22 (by assumption) (fun hg => by first | omega | (simp [conj] at hg; omega))) rfl rfl rfl ?_
  refine XO_v0 (ev_fieldAddr rfl fld_53_1) rfl rfl rfl ?_
  refine XO_v0 (ev_load rfl sct_3 (fun hg => by first | exact Sl.get hP1 hp rfl | (repeat (first | exact Cell.here rfl | apply Cell.there | apply Cell.app)))) rfl rfl rfl ?_
  refine XO_v0 (ev_cmp rfl rfl rfl) rfl rfl rfl ?_
  refine XO_v0 (ev_move rfl) rfl rfl rfl ?_
  refine XO_pushT 6 rfl rfl rfl ?_
  refine XO_v1 (ev_move rfl) (.some rfl rfl rfl rfl gbt) rfl rfl rfl ?_
  refine XO_and0 rfl rfl rfl rfl rfl ?_
  refine XO_v0 (ev_move rfl) rfl rfl rfl ?_
  refine XO_pushF 9 rfl rfl rfl ?_
  refine XO_v1 (ev_move rfl) (.some rfl rfl rfl rfl gbf) rfl rfl rfl ?_
  refine XO_v1 (ev_move rfl) (.some rfl rfl rfl rfl gbf) rfl rfl rfl ?_
  refine XO_v1 (ev_indexSl rfl rfl slt_22 (by assumption) (fun hg => by first | omega | (simp [conj] at hg; omega))) (.some rfl rfl rfl rfl gbf) rfl rfl rfl ?_
  refine XO_v1 (ev_fieldAddr rfl fld_53_1) (.some rfl rfl rfl rfl gbf) rfl rfl rfl ?_
  refine XO_v1 (ev_load rfl sct_3 (fun hg => by first | exact Sl.get hP1 hp rfl | (repeat (first | exact Cell.here rfl | apply Cell.there | apply Cell.app)))) (.some rfl rfl rfl rfl gbf) rfl rfl rfl ?_
  refine XO_v1 (ev_cmp rfl rfl rfl) (.some rfl rfl rfl rfl gbf) rfl rfl rfl ?_
  refine XO_v1 (ev_move rfl) (.some rfl rfl rfl rfl gbf) rfl rfl rfl ?_
  refine XO_pushT 16 rfl rfl rfl ?_
  refine XO_v1 (ev_move rfl) (.some rfl rfl rfl rfl gbt) rfl rfl rfl ?_
  refine XO_v1 (ev_not rfl) (.some rfl rfl rfl rfl gbt) rfl rfl rfl ?_
  refine XO_and1 rfl rfl rfl (.some rfl rfl rfl rfl gbf) rfl rfl ?_
  refine XO_v1 (ev_move rfl) (.some rfl rfl rfl rfl gbf) rfl rfl rfl ?_
  refine XO_pushT 20 rfl rfl rfl ?_
  refine XO_v1 (ev_move rfl) (.some rfl rfl rfl rfl gbt) rfl rfl rfl ?_
  refine XO_v1 (ev_move rfl) (.some rfl rfl rfl rfl gbt) rfl rfl rfl ?_
  refine XO_v1 (ev_move rfl) (.some rfl rfl rfl rfl gbt) rfl rfl rfl ?_
  refine XO_v1 (ev_indexSl rfl rfl slt_22 (by assumption) (fun hg => by first | omega | (simp [conj] at hg; omega))) (.some rfl rfl rfl rfl gbt) rfl rfl rfl ?_
  refine XO_v1 (ev_fieldAddr rfl fld_53_2) (.some rfl rfl rfl rfl gbt) rfl rfl rfl ?_
  refine XO_v1 (ev_load rfl sct_3 (fun hg => by first | exact Sl.get hP1 hp rfl | (repeat (first | exact Cell.here rfl | apply Cell.there | apply Cell.app)))) (.some rfl rfl rfl rfl gbt) rfl rfl rfl ?_
  refine XO_callV1 (cap := []) (vs := [_, _]) rfl rfl fun_140 (fun hg => r_ins hP hn _) (.some rfl rfl rfl rfl gbt) rfl rfl ?_
  refine XO_v1 (ev_cmp rfl rfl rfl) (.some rfl rfl rfl rfl gbt) rfl rfl rfl ?_
  refine XO_and1 rfl rfl rfl (.some rfl rfl rfl rfl gbf) rfl rfl ?_
  refine XO_or0 rfl rfl rfl rfl rfl ?_
  refine XO_nil (at_then ?_)
  refine X_cond rfl (fun hc51 => ?_) (fun hc51 => ?_)
  ·
   refine X_seq (X_region ?_)
   refine XO_v0 (ev_assign rfl) rfl rfl rfl ?_
   refine XO_nil (at_then ?_)
   refine X_ret ?_
   refine at_block_r ?_
   refine at_then_r ?_
   refine at_then_r ?_
   refine at_block_r ?_
   refine at_then_r ?_
   first
   | exact at_ret1 rfl rfl (fun w hw => ⟨by unfold fitB; rw [all_no hp (by rw [ft_eq, ← fts_eq, hc51]; rfl)], hw.drop⟩)
  ·
   refine X_skip ?_
   refine at_block_n ?_
   refine at_then ?_
   refine X_region ?_
   refine XO_v0 (ev_move rfl) rfl rfl rfl ?_
   refine XO_v0 (ev_arB rfl rfl rfl (fun _ => by omega)) rfl rfl rfl ?_
   refine XO_v0 (ev_assign rfl) rfl rfl rfl ?_
   refine XO_nil ?_
   exact at_met2 _ _ ⟨n - (k + 1), by omega, k + 1, rfl, rfl, rfl, rfl, by omega, all_yes hp hall (by rw [ft_eq, ← fts_eq, hc51]; rfl)⟩ (.cons rfl (.cons rfl (.cons rfl .nil))) (by repeat (first | exact .refl | exact subL_left | refine subL_app ?_ | refine .drop ?_ | refine subL_add ?_))
 ·
  have hge_k : n ≤ k := by have h := hc10; simp at h; omega
  rw [take_all hP.len hge_k] at hall
  refine X_exit ?_
  refine at_then_e ?_
  refine at_then_e ?_
  refine at_block_hit ?_
  refine at_then ?_
  refine X_seq (X_region ?_)
  refine XO_v0 (ev_assign rfl) rfl rfl rfl ?_
  refine XO_nil (at_then ?_)
  refine X_ret ?_
  first
  | exact at_ret1 rfl rfl (fun w hw => ⟨by unfold fitB; rw [hall], hw.drop⟩)
def UnQ (ps : List Pt) (s : Int) (n : Nat) : Value → HMap → Go.Kn.Loc → Prop := fun v I' L => L = [] ∧ ∃ a1 c1 a2 c2, v = .tuple #[.slice a1 (ixK ps (seP ps s) n).length c1, .slice a2 (ixK ps (rmP s) n).length c2] ∧ Sl I' 1 encI a1 (ixK ps (seP ps s) n).length c1 (ixK ps (seP ps s) n) ∧ Sl I' 1 encI a2 (ixK ps (rmP s) n).length c2 (ixK ps (rmP s) n)
theorem r_uns {I : HMap} {av : Option Addr} {n c : Nat} {ps : List Pt} (hP : SlP I av n c ps) (hn : n ≤ 100000) {ov : Option Addr} {oc : Nat} (hM : SlM encB 1 I ov n oc (ps.map (rowF ps))) (s : Int) : RetM Tryz.prog 53 [.slice av n c, .slice ov n oc, .int .i64 s] I [] (UnQ ps s n) := by
 intro g H w hw
 refine enter Tryz.func53 rfl Tryz.ntmps53 rfl hw ?_
 have hIc := HLe.refl I
 refine X_seq (X_region ?_)
 refine XO_v0 (ev_assign rfl) rfl rfl rfl ?_
 refine XO_v0 (ev_assign rfl) rfl rfl rfl ?_
 refine XO_nil (at_then ?_)
 refine X_seq (X_region ?_)
 refine XO_v0 (ev_assign rfl) rfl rfl rfl ?_
 refine XO_nil (at_then ?_)
 refine X_seq (X_region ?_)
 refine XO_v0 (ev_assign rfl) rfl rfl rfl ?_
 refine XO_nil (at_then ?_)
 refine X_seq ?_
 refine X_seq (X_region ?_)
 refine XO_v0 (ev_assign rfl) rfl rfl rfl ?_
 refine XO_nil (at_then ?_)
 refine X_block ?_
 refine X_loopT [(0, _), (1, _), (2, _), (8, _)] (.cons rfl (.cons rfl (.cons rfl (.cons rfl .nil)))) (fun T L0 mz E I' loc' => ∃ (k : Nat) (v : Value) (qr : Nat) (L : Go.Kn.Loc), mz = n - k ∧ E = (9, v) :: (10, .int .i64 k) :: T ∧ I = I' ∧ L = loc' ∧ k ≤ n ∧ OwnS 3 1 v qr ((ixK ps (rmP s) k).flatMap encI) L ∧ qr ≤ k) _ _ _ _ ⟨0, _, 0, [], rfl, rfl, rfl, rfl, Nat.zero_le _, OwnS.nil, Nat.le_refl _⟩ (.cons rfl (.cons rfl (.cons rfl (.cons rfl (.cons rfl (.cons rfl .nil)))))) (HLe.refl _) rfl ?_
 rintro mz E I' loc' ⟨k, v, qr, L, rfl, rfl, rfl, rfl, hk, hO, hq⟩
 refine X_seq ?_
 refine X_seq (X_region ?_)
 refine XO_v0 (ev_move rfl) rfl rfl rfl ?_
 refine XO_v0 (ev_move rfl) rfl rfl rfl ?_
 refine XO_v0 (ev_lenS rfl slt_22) rfl rfl rfl ?_
 refine XO_v0 (ev_cmp rfl rfl rfl) rfl rfl rfl ?_
 refine XO_nil (at_then ?_)
 refine X_cond rfl (fun hc17 => ?_) (fun hc17 => ?_)
 ·
  have hlt_k : k < n := by have h := hc17; simp at h; omega
  have hP1 := hP.1
  obtain ⟨p, hp⟩ := hP1.at hlt_k
  refine X_skip ?_
  refine at_then ?_
  refine X_seq ?_
  refine X_block ?_
  refine X_seq (X_region ?_)
  refine XO_v0 (ev_move rfl) rfl rfl rfl ?_
  refine XO_v0 (ev_move rfl) rfl rfl rfl ?_
  refine XO_v0 (ev_indexSl rfl rfl slt_22 (by assumption) (fun hg => by first | omega | (simp [conj] at hg; omega))) rfl rfl rfl ?_
  refine XO_v0 (ev_fieldAddr rfl fld_53_2) rfl rfl rfl ?_
  refine XO_v0 (ev_load rfl sct_3 (fun hg => by first | exact Sl.get hP1 hp rfl | exact Sl.get0 hRm hx rfl | exact Sl.get0 hH hhd rfl | exact Sl.get0 hRow hb rfl | (repeat (first | exact Cell.here rfl | apply Cell.there | apply Cell.app)))) rfl rfl rfl ?_
  refine XO_v0 (ev_move rfl) rfl rfl rfl ?_
  refine XO_v0 (ev_cmp rfl rfl rfl) rfl rfl rfl ?_
  refine XO_v0 (ev_move rfl) rfl rfl rfl ?_
  refine XO_pushT 7 rfl rfl rfl ?_
  refine XO_v1 (ev_move rfl) (.some rfl rfl rfl rfl gbt) rfl rfl rfl ?_
  refine XO_v1 (ev_move rfl) (.some rfl rfl rfl rfl gbt) rfl rfl rfl ?_
  refine XO_v1 (ev_indexSl rfl rfl slt_22 (by assumption) (fun hg => by first | omega | (simp [conj] at hg; omega))) (.some rfl rfl rfl rfl gbt) rfl rfl rfl ?_
  refine XO_v1 (ev_fieldAddr rfl fld_53_1) (.some rfl rfl rfl rfl gbt) rfl rfl rfl ?_
  refine XO_v1 (ev_load rfl sct_3 (fun hg => by first | exact Sl.get hP1 hp rfl | exact Sl.get0 hRm hx rfl | exact Sl.get0 hH hhd rfl | exact Sl.get0 hRow hb rfl | (repeat (first | exact Cell.here rfl | apply Cell.there | apply Cell.app)))) (.some rfl rfl rfl rfl gbt) rfl rfl rfl ?_
  refine XO_v1 (ev_cmp rfl rfl rfl) (.some rfl rfl rfl rfl gbt) rfl rfl rfl ?_
  refine XO_and0 rfl rfl rfl rfl rfl ?_
  refine XO_nil (at_then ?_)
  refine X_cond rfl (fun hc34 => ?_) (fun hc34 => ?_)
  ·
   refine X_region ?_
   refine XO_v0 (ev_move rfl) rfl rfl rfl ?_
   refine XO_v0 (ev_move rfl) rfl rfl rfl ?_
   refine XO_buildSlice (ps := [(0, _)]) (m := [encI (k : Int)]) elt_23 rfl (.cons rfl (.nil)) rfl (by simp [encI_len]) (by decide) (by decide) rfl rfl (fun b_37 => ?_)
   refine XO_append (v := _) (ys := [(k : Int)].flatMap encI) (L := L) rfl rfl elt_23 hO (by repeat (first | exact .cons .here .nil | exact split_all | exact split_app | apply split_cons | apply split_skip)) ⟨rfl, fun _ => rfl, Cells.here⟩ (one_I [(k : Int)]) (by omega) rfl rfl ?_
   intro v9 L9 hO9 _; rw [← List.flatMap_append] at hO9
   refine XO_v0 (ev_assign rfl) rfl rfl rfl ?_
   refine XO_nil ?_
   refine at_block_n ?_
   refine at_then ?_
   refine X_region ?_
   refine XO_v0 (ev_move rfl) rfl rfl rfl ?_
   refine XO_v0 (ev_arB rfl rfl rfl (fun _ => by omega)) rfl rfl rfl ?_
   refine XO_v0 (ev_assign rfl) rfl rfl rfl ?_
   refine XO_nil ?_
   first
   | exact at_met2 _ _ ⟨n - (k + 1), by omega, k + 1, _, _, _, rfl, rfl, rfl, rfl, by omega, by rw [ix_yes hp hc34]; exact hO9, by omega⟩ (.cons rfl (.cons rfl (.cons rfl (.cons rfl (.cons rfl (.cons rfl .nil)))))) (by repeat (first | exact .refl | exact subL_left | refine subL_app ?_ | refine .drop ?_ | refine subL_add ?_))
  ·
   refine X_skip ?_
   refine at_block_n ?_
   refine at_then ?_
   refine X_region ?_
   refine XO_v0 (ev_move rfl) rfl rfl rfl ?_
   refine XO_v0 (ev_arB rfl rfl rfl (fun _ => by omega)) rfl rfl rfl ?_
   refine XO_v0 (ev_assign rfl) rfl rfl rfl ?_
   refine XO_nil ?_
   first
   | exact at_met2 _ _ ⟨n - (k + 1), by omega, k + 1, _, _, _, rfl, rfl, rfl, rfl, by omega, by rw [ix_no hp hc34]; exact hO, by omega⟩ (.cons rfl (.cons rfl (.cons rfl (.cons rfl (.cons rfl (.cons rfl .nil)))))) (by repeat (first | exact .refl | exact subL_left | refine subL_app ?_ | refine .drop ?_ | refine subL_add ?_))
 ·
  have hge_k : n ≤ k := by have h := hc17; simp at h; omega
  refine X_exit ?_
  refine at_then_e ?_
  refine at_then_e ?_
  refine at_block_hit ?_
  refine at_then ?_
  refine X_seq ?_
  refine X_seq ?_
  refine X_freezeO hO encI_len (by decide) (by repeat (first | exact .cons .here .nil | exact split_all | exact split_app | apply split_cons | apply split_skip)) (fun I2 hI2 af2 cf2 ef2 hRm => ?_)
  subst ef2
  have hP := hP.mono hI2
  have hM := hM.mono hI2
  have hIc := hIc.trans hI2
  have hkn : n = k := by omega
  subst hkn
  have hrl := hRm.len
  have hrk := ix_len (ps := ps) (P := rmP s) (k := n)
  refine X_region ?_
  refine XO_v0 (ev_assign rfl) rfl rfl rfl ?_
  refine XO_nil (at_then ?_)
  refine X_block ?_
  refine X_loopT [(0, _), (1, _), (2, _), (9, _)] (.cons rfl (.cons rfl (.cons rfl (.cons rfl .nil)))) (fun T L0 mz E I' loc' => ∃ (i : Nat) (v : Value) (q : Nat) (L : Go.Kn.Loc), mz = n - i ∧ E = (8, v) :: (11, .int .i64 i) :: T ∧ I2 = I' ∧ L = loc' ∧ i ≤ n ∧ OwnS 3 1 v q ((ixK ps (seP ps s) i).flatMap encI) L ∧ q ≤ i) _ _ _ _ ⟨0, _, 0, [], rfl, rfl, rfl, rfl, Nat.zero_le _, OwnS.nil, Nat.le_refl _⟩ (.cons rfl (.cons rfl (.cons rfl (.cons rfl (.cons rfl (.cons rfl .nil)))))) (HLe.refl _) rfl ?_
  rintro mz E I' loc' ⟨i, v, q, L, rfl, rfl, rfl, rfl, hi, hO, hq⟩
  refine X_seq ?_
  refine X_seq (X_region ?_)
  refine XO_v0 (ev_move rfl) rfl rfl rfl ?_
  refine XO_v0 (ev_move rfl) rfl rfl rfl ?_
  refine XO_v0 (ev_lenS rfl slt_22) rfl rfl rfl ?_
  refine XO_v0 (ev_cmp rfl rfl rfl) rfl rfl rfl ?_
  refine XO_nil (at_then ?_)
  refine X_cond rfl (fun hc42 => ?_) (fun hc42 => ?_)
  ·
   have hlt_i : i < n := by have h := hc42; simp at h; omega
   have hP1 := hP.1
   obtain ⟨p, hp⟩ := hP1.at hlt_i
   refine X_skip ?_
   refine at_then ?_
   refine X_seq ?_
   refine X_block ?_
   refine X_seq (X_region ?_)
   refine XO_v0 (ev_assign rfl) rfl rfl rfl ?_
   refine XO_nil (at_then ?_)
   refine X_seq ?_
   refine X_seq (X_region ?_)
   refine XO_v0 (ev_assign rfl) rfl rfl rfl ?_
   refine XO_nil (at_then ?_)
   refine X_block ?_
   refine X_loopT [(0, _), (1, _), (2, _), (8, _), (9, _), (11, _)] (.cons rfl (.cons rfl (.cons rfl (.cons rfl (.cons rfl (.cons rfl .nil)))))) (fun T L0 mz E I' loc' => ∃ (j : Nat) (o : Bool), mz = qr - j ∧ E = (12, .bool o) :: (13, .int .i64 j) :: T ∧ I2 = I' ∧ L0 = loc' ∧ j ≤ qr ∧ o = ((ixK ps (rmP s) n).take j).any (fun x => !onF ps (atI ps x).id p.id)) _ _ _ _ ⟨0, false, rfl, rfl, rfl, rfl, Nat.zero_le _, by simp⟩ (.cons rfl (.cons rfl (.cons rfl (.cons rfl (.cons rfl (.cons rfl (.cons rfl (.cons rfl .nil)))))))) (HLe.refl _) rfl ?_
   rintro mz E I' loc' ⟨j, o, rfl, rfl, rfl, rfl, hj, ho⟩
   refine X_seq ?_
   refine X_seq (X_region ?_)
   refine XO_v0 (ev_move rfl) rfl rfl rfl ?_
   refine XO_v0 (ev_move rfl) rfl rfl rfl ?_
   refine XO_v0 (ev_lenS rfl slt_23) rfl rfl rfl ?_
   refine XO_v0 (ev_cmp rfl rfl rfl) rfl rfl rfl ?_
   refine XO_nil (at_then ?_)
   refine X_cond rfl (fun hc48 => ?_) (fun hc48 => ?_)
   ·
    have hlt_j : j < qr := by have h := hc48; simp at h; omega
    obtain ⟨x, hx⟩ := hRm.at hlt_j
    obtain ⟨m, r, rfl, hmn, hrm, _⟩ := ix_at hP.len hx
    obtain ⟨hs, hd, rr, hH, hhd, hrr, hRow⟩ := hM.at hmn
    have hr0 : rr = rowF ps r := by rw [List.getElem?_map, hrm] at hrr; exact (Option.some.inj hrr).symm
    subst hr0
    have hdn : n = hd.n := by rw [← hRow.len, ← hP.len]; simp [rowF]
    have hb : (rowF ps r)[i]? = some (onF ps r.id p.id) := by simp [rowF, hp]
    refine X_skip ?_
    refine at_then ?_
    refine X_seq ?_
    refine X_block ?_
    refine X_region ?_
    refine XO_v0 (ev_move rfl) rfl rfl rfl ?_
    refine XO_v0 (ev_move rfl) rfl rfl rfl ?_
    refine XO_pushF 1 rfl rfl rfl ?_
    refine XO_v1 (ev_move rfl) (.some rfl rfl rfl rfl gbf) rfl rfl rfl ?_
    refine XO_v1 (ev_move rfl) (.some rfl rfl rfl rfl gbf) rfl rfl rfl ?_
    refine XO_v1 (ev_move rfl) (.some rfl rfl rfl rfl gbf) rfl rfl rfl ?_
    refine XO_v1 (ev_indexSl rfl rfl slt_23 hRm (fun hg => by first | omega | (simp [conj] at hg; omega))) (.some rfl rfl rfl rfl gbf) rfl rfl rfl ?_
    refine XO_v1 (ev_load rfl sct_3 (fun hg => by first | exact Sl.get hP1 hp rfl | exact Sl.get0 hRm hx rfl | exact Sl.get0 hH hhd rfl | exact Sl.get0 hRow hb rfl | (repeat (first | exact Cell.here rfl | apply Cell.there | apply Cell.app)))) (.some rfl rfl rfl rfl gbf) rfl rfl rfl ?_
    refine XO_v1 (ev_indexSl rfl rfl slt_80 hH (fun hg => by first | omega | (simp [conj] at hg; omega))) (.some rfl rfl rfl rfl gbf) rfl rfl rfl ?_
    refine XO_v1 (ev_load rfl sct_61 (fun hg => by first | exact Sl.get hP1 hp rfl | exact Sl.get0 hRm hx rfl | exact Sl.get0 hH hhd rfl | exact Sl.get0 hRow hb rfl | (repeat (first | exact Cell.here rfl | apply Cell.there | apply Cell.app)))) (.some rfl rfl rfl rfl gbf) rfl rfl rfl ?_
    refine XO_v1 (ev_move rfl) (.some rfl rfl rfl rfl gbf) rfl rfl rfl ?_
    refine XO_v1 (ev_indexSl rfl rfl slt_61 hRow (fun hg => by first | omega | (simp [conj] at hg; omega))) (.some rfl rfl rfl rfl gbf) rfl rfl rfl ?_
    refine XO_v1 (ev_load rfl sct_4 (fun hg => by first | exact Sl.get hP1 hp rfl | exact Sl.get0 hRm hx rfl | exact Sl.get0 hH hhd rfl | exact Sl.get0 hRow hb rfl | (repeat (first | exact Cell.here rfl | apply Cell.there | apply Cell.app)))) (.some rfl rfl rfl rfl gbf) rfl rfl rfl ?_
    refine XO_v1 (ev_not rfl) (.some rfl rfl rfl rfl gbf) rfl rfl rfl ?_
    refine XO_or0 rfl rfl rfl rfl rfl ?_
    refine XO_v0 (ev_assign rfl) rfl rfl rfl ?_
    refine XO_nil ?_
    refine at_block_n ?_
    refine at_then ?_
    refine X_region ?_
    refine XO_v0 (ev_move rfl) rfl rfl rfl ?_
    refine XO_v0 (ev_arB rfl rfl rfl (fun _ => by omega)) rfl rfl rfl ?_
    refine XO_v0 (ev_assign rfl) rfl rfl rfl ?_
    refine XO_nil ?_
    exact at_met2 _ _ ⟨qr - (j + 1), by omega, j + 1, _, rfl, rfl, rfl, rfl, by omega, by rw [fold_any hx, ← ho, atI_at hrm]⟩ (.cons rfl (.cons rfl (.cons rfl (.cons rfl (.cons rfl (.cons rfl (.cons rfl (.cons rfl .nil)))))))) (by repeat (first | exact .refl | exact subL_left | refine subL_app ?_ | refine .drop ?_ | refine subL_add ?_))
   ·
    have hge_j : qr ≤ j := by have h := hc48; simp at h; omega
    rw [take_all hrl hge_j, ix_any (Q := fun r => !onF ps r.id p.id) hP.len] at ho
    refine X_exit ?_
    refine at_then_e ?_
    refine at_then_e ?_
    refine at_block_hit ?_
    refine at_then ?_
    refine X_seq (X_region ?_)
    refine XO_v0 (ev_move rfl) rfl rfl rfl ?_
    refine XO_v0 (ev_move rfl) rfl rfl rfl ?_
    refine XO_v0 (ev_indexSl rfl rfl slt_22 (by assumption) (fun hg => by first | omega | (simp [conj] at hg; omega))) rfl rfl rfl ?_
    refine XO_v0 (ev_fieldAddr rfl fld_53_2) rfl rfl rfl ?_
    refine XO_v0 (ev_load rfl sct_3 (fun hg => by first | exact Sl.get hP1 hp rfl | exact Sl.get0 hRm hx rfl | exact Sl.get0 hH hhd rfl | exact Sl.get0 hRow hb rfl | (repeat (first | exact Cell.here rfl | apply Cell.there | apply Cell.app)))) rfl rfl rfl ?_
    refine XO_v0 (ev_move rfl) rfl rfl rfl ?_
    refine XO_v0 (ev_cmp rfl rfl rfl) rfl rfl rfl ?_
    refine XO_v0 (ev_move rfl) rfl rfl rfl ?_
    refine XO_pushT 7 rfl rfl rfl ?_
    refine XO_v1 (ev_move rfl) (.some rfl rfl rfl rfl gbt) rfl rfl rfl ?_
    refine XO_v1 (ev_move rfl) (.some rfl rfl rfl rfl gbt) rfl rfl rfl ?_
    refine XO_v1 (ev_indexSl rfl rfl slt_22 (by assumption) (fun hg => by first | omega | (simp [conj] at hg; omega))) (.some rfl rfl rfl rfl gbt) rfl rfl rfl ?_
    refine XO_v1 (ev_fieldAddr rfl fld_53_1) (.some rfl rfl rfl rfl gbt) rfl rfl rfl ?_
    refine XO_v1 (ev_load rfl sct_3 (fun hg => by first | exact Sl.get hP1 hp rfl | exact Sl.get0 hRm hx rfl | exact Sl.get0 hH hhd rfl | exact Sl.get0 hRow hb rfl | (repeat (first | exact Cell.here rfl | apply Cell.there | apply Cell.app)))) (.some rfl rfl rfl rfl gbt) rfl rfl rfl ?_
    refine XO_v1 (ev_cmp rfl rfl rfl) (.some rfl rfl rfl rfl gbt) rfl rfl rfl ?_
    refine XO_and0 rfl rfl rfl rfl rfl ?_
    refine XO_v0 (ev_move rfl) rfl rfl rfl ?_
    refine XO_pushT 15 rfl rfl rfl ?_
    refine XO_v1 (ev_move rfl) (.some rfl rfl rfl rfl gbt) rfl rfl rfl ?_
    refine XO_and0 rfl rfl rfl rfl rfl ?_
    refine XO_nil (at_then ?_)
    refine X_cond rfl (fun hc82 => ?_) (fun hc82 => ?_)
    ·
     have hsp : seP ps s p = true := by unfold seP; rw [← ho]; exact hc82
     refine X_region ?_
     refine XO_v0 (ev_move rfl) rfl rfl rfl ?_
     refine XO_v0 (ev_move rfl) rfl rfl rfl ?_
     refine XO_buildSlice (ps := [(0, _)]) (m := [encI (i : Int)]) elt_23 rfl (.cons rfl (.nil)) rfl (by simp [encI_len]) (by decide) (by decide) rfl rfl (fun b_85 => ?_)
     refine XO_append (v := _) (ys := [(i : Int)].flatMap encI) (L := L) rfl rfl elt_23 hO (by repeat (first | exact .cons .here .nil | exact split_all | exact split_app | apply split_cons | apply split_skip)) ⟨rfl, fun _ => rfl, Cells.here⟩ (one_I [(i : Int)]) (by omega) rfl rfl ?_
     intro v9 L9 hO9 _; rw [← List.flatMap_append] at hO9
     refine XO_v0 (ev_assign rfl) rfl rfl rfl ?_
     refine XO_nil ?_
     refine at_block_n ?_
     refine at_then ?_
     refine X_region ?_
     refine XO_v0 (ev_move rfl) rfl rfl rfl ?_
     refine XO_v0 (ev_arB rfl rfl rfl (fun _ => by omega)) rfl rfl rfl ?_
     refine XO_v0 (ev_assign rfl) rfl rfl rfl ?_
     refine XO_nil ?_
     first
     | exact at_met2 _ _ ⟨n - (i + 1), by omega, i + 1, _, _, _, rfl, rfl, rfl, rfl, by omega, by rw [ix_yes hp hsp]; exact hO9, by omega⟩ (.cons rfl (.cons rfl (.cons rfl (.cons rfl (.cons rfl (.cons rfl .nil)))))) (by repeat (first | exact .refl | exact subL_left | refine subL_app ?_ | refine .drop ?_ | refine subL_add ?_))
    ·
     have hsp : seP ps s p = false := by unfold seP; rw [← ho]; exact hc82
     refine X_skip ?_
     refine at_block_n ?_
     refine at_then ?_
     refine X_region ?_
     refine XO_v0 (ev_move rfl) rfl rfl rfl ?_
     refine XO_v0 (ev_arB rfl rfl rfl (fun _ => by omega)) rfl rfl rfl ?_
     refine XO_v0 (ev_assign rfl) rfl rfl rfl ?_
     refine XO_nil ?_
     first
     | exact at_met2 _ _ ⟨n - (i + 1), by omega, i + 1, _, _, _, rfl, rfl, rfl, rfl, by omega, by rw [ix_no hp hsp]; exact hO, by omega⟩ (.cons rfl (.cons rfl (.cons rfl (.cons rfl (.cons rfl (.cons rfl .nil)))))) (by repeat (first | exact .refl | exact subL_left | refine subL_app ?_ | refine .drop ?_ | refine subL_add ?_))
  ·
   have hge_i : n ≤ i := by have h := hc42; simp at h; omega
   have hin : n = i := by omega
   subst hin
   refine X_exit ?_
   refine at_then_e ?_
   refine at_then_e ?_
   refine at_block_hit ?_
   refine at_then ?_
   refine X_seq (X_region ?_)
   refine XO_v0 (ev_move rfl) rfl rfl rfl ?_
   refine XO_v0 (ev_move rfl) rfl rfl rfl ?_
   refine XO_v0 (ev_assign rfl) rfl rfl rfl ?_
   refine XO_v0 (ev_assign rfl) rfl rfl rfl ?_
   refine XO_nil (at_then ?_)
   refine X_ret ?_
   exact at_ret2 rfl rfl rfl (fun w hw => by obtain ⟨I9, h91, h92, h93⟩ := OwnS.res hO encI_len (by decide) hw; obtain ⟨_, a9, c9, e9, h94⟩ := h93; subst e9; subst hrl; exact ⟨_, I9, [], rfl, hIc.trans h91, h92, rfl, a9, c9, _, _, rfl, h94, hRm.mono h91⟩)
theorem r_ex {I : HMap} {av : Option Addr} {n c : Nat} {ps : List Pt} (hP : SlP I av n c ps) (hn : n ≤ 100000) {ov : Option Addr} {oc : Nat} (hM : SlM encB 1 I ov n oc (ps.map (rowF ps))) (s : Int) : RetV Tryz.prog 47 [.slice av n c, .slice ov n oc, .int .i64 s] I (.bool (exB (onF ps) ps s)) := by
 intro g H w hw
 refine enter Tryz.func47 rfl Tryz.ntmps47 rfl hw ?_
 have hIc := HLe.refl I
 refine X_seq (X_region ?_)
 refine XO_v0 (ev_assign rfl) rfl rfl rfl ?_
 refine XO_nil (at_then ?_)
 refine X_seq (X_region ?_)
 refine XO_v0 (ev_move rfl) rfl rfl rfl ?_
 refine XO_v0 (ev_move rfl) rfl rfl rfl ?_
 refine XO_v0 (ev_move rfl) rfl rfl rfl ?_
 refine XO_callM (cap := []) (vs := [_, _, _]) rfl rfl fun_53 .nil (r_uns hP hn hM s) rfl rfl ?_
 rintro vv1 I1 L1 hI1 ⟨rfl, a1, c1, a2, c2, rfl, hS1, hS2⟩
 have hIc := hIc.trans hI1
 refine XO_v0 (ev_move rfl) rfl rfl rfl ?_
 refine XO_v0 (ev_extract rfl rfl) rfl rfl rfl ?_
 refine XO_v0 (ev_extract rfl rfl) rfl rfl rfl ?_
 refine XO_v0 (ev_assign rfl) rfl rfl rfl ?_
 refine XO_v0 (ev_assign rfl) rfl rfl rfl ?_
 refine XO_nil (at_then ?_)
 refine X_seq (X_region ?_)
 refine XO_v0 (ev_move rfl) rfl rfl rfl ?_
 refine XO_v0 (ev_lenS rfl slt_23) rfl rfl rfl ?_
 refine XO_v0 (ev_cmp rfl rfl rfl) rfl rfl rfl ?_
 refine XO_v0 (ev_move rfl) rfl rfl rfl ?_
 refine XO_pushF 3 rfl rfl rfl ?_
 refine XO_v1 (ev_move rfl) (.some rfl rfl rfl rfl gbf) rfl rfl rfl ?_
 refine XO_v1 (ev_lenS rfl slt_23) (.some rfl rfl rfl rfl gbf) rfl rfl rfl ?_
 refine XO_v1 (ev_cmp rfl rfl rfl) (.some rfl rfl rfl rfl gbf) rfl rfl rfl ?_
 refine XO_or0 rfl rfl rfl rfl rfl ?_
 refine XO_v0 (ev_assign rfl) rfl rfl rfl ?_
 refine XO_nil (at_then ?_)
 refine X_ret ?_
 exact at_ret1 rfl rfl (fun w hw => ⟨by rw [← ex_ix hP.len], (hw.mono hIc).drop⟩)
end Go.Proofs.YtccomeanpppfmaaGreat
end
section
namespace Go.Proofs.YtccomeanpppfmaaGreat
open Go Go.Kn Go.Proofs
theorem fun_56 : Fun Tryz.prog 56 := .of Tryz.func56 (by kernel_rfl) (by kernel_rfl)
theorem r_lat {I : HMap} {av : Option Addr} {n c : Nat} {ps : List Pt} (hP : SlP I av n c ps) (hn : n ≤ 100000) {ov : Option Addr} {oc : Nat} (hM : SlM encB 1 I ov n oc (ps.map (rowF ps))) (s f : Int) : RetM Tryz.prog 56 [.slice av n c, .slice ov n oc, .int .i64 s, .int .i64 f] I [] (SlRes 1 encI (ixK ps (laP ps s f) n)) := by
 intro g H w hw
 refine enter Tryz.func56 rfl Tryz.ntmps56 rfl hw ?_
 have hIc := HLe.refl I
 refine X_seq (X_region ?_)
 refine XO_v0 (ev_assign rfl) rfl rfl rfl ?_
 refine XO_nil (at_then ?_)
 refine X_seq (X_region ?_)
 refine XO_v0 (ev_assign rfl) rfl rfl rfl ?_
 refine XO_nil (at_then ?_)
 refine X_seq ?_
 refine X_seq (X_region ?_)
 refine XO_v0 (ev_assign rfl) rfl rfl rfl ?_
 refine XO_nil (at_then ?_)
 refine X_block ?_
 refine X_loopT [(0, _), (1, _), (2, _), (3, _)] (.cons rfl (.cons rfl (.cons rfl (.cons rfl .nil)))) (fun T L0 mz E I' loc' => ∃ (i : Nat) (v : Value) (q : Nat) (L : Go.Kn.Loc), mz = n - i ∧ E = (9, v) :: (10, .int .i64 i) :: T ∧ I = I' ∧ L = loc' ∧ i ≤ n ∧ OwnS 3 1 v q ((ixK ps (laP ps s f) i).flatMap encI) L ∧ q ≤ i) _ _ _ _ ⟨0, _, 0, [], rfl, rfl, rfl, rfl, Nat.zero_le _, OwnS.nil, Nat.le_refl _⟩ (.cons rfl (.cons rfl (.cons rfl (.cons rfl (.cons rfl (.cons rfl .nil)))))) (HLe.refl _) rfl ?_
 rintro mz E I' loc' ⟨i, v, q, L, rfl, rfl, rfl, rfl, hi, hO, hq⟩
 refine X_seq ?_
 refine X_seq (X_region ?_)
 refine XO_v0 (ev_move rfl) rfl rfl rfl ?_
 refine XO_v0 (ev_move rfl) rfl rfl rfl ?_
 refine XO_v0 (ev_lenS rfl slt_22) rfl rfl rfl ?_
 refine XO_v0 (ev_cmp rfl rfl rfl) rfl rfl rfl ?_
 refine XO_nil (at_then ?_)
 refine X_cond rfl (fun hc16 => ?_) (fun hc16 => ?_)
 ·
  have hlt_i : i < n := by have h := hc16; simp at h; omega
  have hP1 := hP.1
  obtain ⟨p, hp⟩ := hP1.at hlt_i
  refine X_skip ?_
  refine at_then ?_
  refine X_seq ?_
  refine X_block ?_
  refine X_seq (X_region ?_)
  refine XO_v0 (ev_move rfl) rfl rfl rfl ?_
  refine XO_v0 (ev_move rfl) rfl rfl rfl ?_
  refine XO_v0 (ev_indexSl rfl rfl slt_22 (by assumption) (fun hg => by first | omega | (simp [conj] at hg; omega))) rfl rfl rfl ?_
  refine XO_v0 (ev_fieldAddr rfl fld_53_1) rfl rfl rfl ?_
  refine XO_v0 (ev_load rfl sct_3 (fun hg => by first | exact Sl.get hP1 hp rfl | exact Sl.get hP.1 hq rfl | exact Sl.get0 hH hhd rfl | exact Sl.get0 hRow hb rfl | (repeat (first | exact Cell.here rfl | apply Cell.there | apply Cell.app)))) rfl rfl rfl ?_
  refine XO_v0 (ev_cmp rfl rfl rfl) rfl rfl rfl ?_
  refine XO_v0 (ev_move rfl) rfl rfl rfl ?_
  refine XO_pushT 6 rfl rfl rfl ?_
  refine XO_v1 (ev_move rfl) (.some rfl rfl rfl rfl gbt) rfl rfl rfl ?_
  refine XO_v1 (ev_move rfl) (.some rfl rfl rfl rfl gbt) rfl rfl rfl ?_
  refine XO_v1 (ev_indexSl rfl rfl slt_22 (by assumption) (fun hg => by first | omega | (simp [conj] at hg; omega))) (.some rfl rfl rfl rfl gbt) rfl rfl rfl ?_
  refine XO_v1 (ev_fieldAddr rfl fld_53_2) (.some rfl rfl rfl rfl gbt) rfl rfl rfl ?_
  refine XO_v1 (ev_load rfl sct_3 (fun hg => by first | exact Sl.get hP1 hp rfl | exact Sl.get hP.1 hq rfl | exact Sl.get0 hH hhd rfl | exact Sl.get0 hRow hb rfl | (repeat (first | exact Cell.here rfl | apply Cell.there | apply Cell.app)))) (.some rfl rfl rfl rfl gbt) rfl rfl rfl ?_
  refine XO_v1 (ev_move rfl) (.some rfl rfl rfl rfl gbt) rfl rfl rfl ?_
  refine XO_v1 (ev_cmp rfl rfl rfl) (.some rfl rfl rfl rfl gbt) rfl rfl rfl ?_
  refine XO_and0 rfl rfl rfl rfl rfl ?_
  refine XO_v0 (ev_move rfl) rfl rfl rfl ?_
  refine XO_pushT 15 rfl rfl rfl ?_
  refine XO_v1 (ev_move rfl) (.some rfl rfl rfl rfl gbt) rfl rfl rfl ?_
  refine XO_v1 (ev_move rfl) (.some rfl rfl rfl rfl gbt) rfl rfl rfl ?_
  refine XO_v1 (ev_indexSl rfl rfl slt_22 (by assumption) (fun hg => by first | omega | (simp [conj] at hg; omega))) (.some rfl rfl rfl rfl gbt) rfl rfl rfl ?_
  refine XO_v1 (ev_fieldAddr rfl fld_53_3) (.some rfl rfl rfl rfl gbt) rfl rfl rfl ?_
  refine XO_v1 (ev_load rfl sct_3 (fun hg => by first | exact Sl.get hP1 hp rfl | exact Sl.get hP.1 hq rfl | exact Sl.get0 hH hhd rfl | exact Sl.get0 hRow hb rfl | (repeat (first | exact Cell.here rfl | apply Cell.there | apply Cell.app)))) (.some rfl rfl rfl rfl gbt) rfl rfl rfl ?_
  refine XO_v1 (ev_move rfl) (.some rfl rfl rfl rfl gbt) rfl rfl rfl ?_
  refine XO_v1 (ev_cmp rfl rfl rfl) (.some rfl rfl rfl rfl gbt) rfl rfl rfl ?_
  refine XO_and0 rfl rfl rfl rfl rfl ?_
  refine XO_v0 (ev_assign rfl) rfl rfl rfl ?_
  refine XO_nil (at_then ?_)
  refine X_seq ?_
  refine X_seq (X_region ?_)
  refine XO_v0 (ev_assign rfl) rfl rfl rfl ?_
  refine XO_nil (at_then ?_)
  refine X_block ?_
  refine X_loopT [(0, _), (1, _), (2, _), (3, _), (9, _), (10, _)] (.cons rfl (.cons rfl (.cons rfl (.cons rfl (.cons rfl (.cons rfl .nil)))))) (fun T L0 mz E I' loc' => ∃ (k : Nat) (b : Bool), mz = n - k ∧ E = (11, .bool b) :: (12, .int .i64 k) :: T ∧ I = I' ∧ L0 = loc' ∧ k ≤ n ∧ b = (stP s f p && !(ps.take k).any fun q => stP s f q && onF ps q.id p.id)) _ _ _ _ ⟨0, stP s f p, rfl, rfl, rfl, rfl, Nat.zero_le _, by simp⟩ (.cons rfl (.cons rfl (.cons rfl (.cons rfl (.cons rfl (.cons rfl (.cons rfl (.cons rfl .nil)))))))) (HLe.refl _) rfl ?_
  rintro mz E I' loc' ⟨k, b, rfl, rfl, rfl, rfl, hk, hbb⟩
  refine X_seq ?_
  refine X_seq (X_region ?_)
  refine XO_v0 (ev_move rfl) rfl rfl rfl ?_
  refine XO_v0 (ev_move rfl) rfl rfl rfl ?_
  refine XO_v0 (ev_lenS rfl slt_22) rfl rfl rfl ?_
  refine XO_v0 (ev_cmp rfl rfl rfl) rfl rfl rfl ?_
  refine XO_v0 (ev_move rfl) rfl rfl rfl ?_
  refine XO_pushT 4 rfl rfl rfl ?_
  refine XO_v1 (ev_move rfl) (.some rfl rfl rfl rfl gbt) rfl rfl rfl ?_
  refine XO_and0 rfl rfl rfl rfl rfl ?_
  refine XO_nil (at_then ?_)
  refine X_cond rfl (fun hc49 => ?_) (fun hc49 => ?_)
  ·
   have hlt_k : k < n := by have h := ((Bool.and_eq_true _ _).mp hc49).1; simp at h; omega
   obtain ⟨q, hq⟩ := hP.1.at hlt_k
   obtain ⟨hs, hd, rr, hH, hhd, hrr, hRow⟩ := hM.at hlt_k
   have hr0 : rr = rowF ps q := by rw [List.getElem?_map, hq] at hrr; exact (Option.some.inj hrr).symm
   subst hr0
   have hdn : n = hd.n := by rw [← hRow.len, ← hP.len]; simp [rowF]
   have hb : (rowF ps q)[i]? = some (onF ps q.id p.id) := by simp [rowF, hp]
   refine X_skip ?_
   refine at_then ?_
   refine X_seq ?_
   refine X_block ?_
   refine X_seq (X_region ?_)
   refine XO_v0 (ev_move rfl) rfl rfl rfl ?_
   refine XO_v0 (ev_move rfl) rfl rfl rfl ?_
   refine XO_v0 (ev_indexSl rfl rfl slt_22 hP.1 (fun hg => by first | omega | (simp [conj] at hg; omega))) rfl rfl rfl ?_
   refine XO_v0 (ev_fieldAddr rfl fld_53_1) rfl rfl rfl ?_
   refine XO_v0 (ev_load rfl sct_3 (fun hg => by first | exact Sl.get hP1 hp rfl | exact Sl.get hP.1 hq rfl | exact Sl.get0 hH hhd rfl | exact Sl.get0 hRow hb rfl | (repeat (first | exact Cell.here rfl | apply Cell.there | apply Cell.app)))) rfl rfl rfl ?_
   refine XO_v0 (ev_cmp rfl rfl rfl) rfl rfl rfl ?_
   refine XO_v0 (ev_move rfl) rfl rfl rfl ?_
   refine XO_pushT 6 rfl rfl rfl ?_
   refine XO_v1 (ev_move rfl) (.some rfl rfl rfl rfl gbt) rfl rfl rfl ?_
   refine XO_v1 (ev_move rfl) (.some rfl rfl rfl rfl gbt) rfl rfl rfl ?_
   refine XO_v1 (ev_indexSl rfl rfl slt_22 hP.1 (fun hg => by first | omega | (simp [conj] at hg; omega))) (.some rfl rfl rfl rfl gbt) rfl rfl rfl ?_
   refine XO_v1 (ev_fieldAddr rfl fld_53_2) (.some rfl rfl rfl rfl gbt) rfl rfl rfl ?_
   refine XO_v1 (ev_load rfl sct_3 (fun hg => by first | exact Sl.get hP1 hp rfl | exact Sl.get hP.1 hq rfl | exact Sl.get0 hH hhd rfl | exact Sl.get0 hRow hb rfl | (repeat (first | exact Cell.here rfl | apply Cell.there | apply Cell.app)))) (.some rfl rfl rfl rfl gbt) rfl rfl rfl ?_
   refine XO_v1 (ev_move rfl) (.some rfl rfl rfl rfl gbt) rfl rfl rfl ?_
   refine XO_v1 (ev_cmp rfl rfl rfl) (.some rfl rfl rfl rfl gbt) rfl rfl rfl ?_
   refine XO_and0 rfl rfl rfl rfl rfl ?_
   refine XO_v0 (ev_move rfl) rfl rfl rfl ?_
   refine XO_pushT 15 rfl rfl rfl ?_
   refine XO_v1 (ev_move rfl) (.some rfl rfl rfl rfl gbt) rfl rfl rfl ?_
   refine XO_v1 (ev_move rfl) (.some rfl rfl rfl rfl gbt) rfl rfl rfl ?_
   refine XO_v1 (ev_indexSl rfl rfl slt_22 hP.1 (fun hg => by first | omega | (simp [conj] at hg; omega))) (.some rfl rfl rfl rfl gbt) rfl rfl rfl ?_
   refine XO_v1 (ev_fieldAddr rfl fld_53_3) (.some rfl rfl rfl rfl gbt) rfl rfl rfl ?_
   refine XO_v1 (ev_load rfl sct_3 (fun hg => by first | exact Sl.get hP1 hp rfl | exact Sl.get hP.1 hq rfl | exact Sl.get0 hH hhd rfl | exact Sl.get0 hRow hb rfl | (repeat (first | exact Cell.here rfl | apply Cell.there | apply Cell.app)))) (.some rfl rfl rfl rfl gbt) rfl rfl rfl ?_
   refine XO_v1 (ev_move rfl) (.some rfl rfl rfl rfl gbt) rfl rfl rfl ?_
   refine XO_v1 (ev_cmp rfl rfl rfl) (.some rfl rfl rfl rfl gbt) rfl rfl rfl ?_
   refine XO_and0 rfl rfl rfl rfl rfl ?_
   refine XO_v0 (ev_move rfl) rfl rfl rfl ?_
   refine XO_pushT 24 rfl rfl rfl ?_
   refine XO_v1 (ev_move rfl) (.some rfl rfl rfl rfl gbt) rfl rfl rfl ?_
   refine XO_v1 (ev_move rfl) (.some rfl rfl rfl rfl gbt) rfl rfl rfl ?_
   refine XO_v1 (ev_indexSl rfl rfl slt_80 hH (fun hg => by first | omega | (simp [conj] at hg; omega))) (.some rfl rfl rfl rfl gbt) rfl rfl rfl ?_
   refine XO_v1 (ev_load rfl sct_61 (fun hg => by first | exact Sl.get hP1 hp rfl | exact Sl.get hP.1 hq rfl | exact Sl.get0 hH hhd rfl | exact Sl.get0 hRow hb rfl | (repeat (first | exact Cell.here rfl | apply Cell.there | apply Cell.app)))) (.some rfl rfl rfl rfl gbt) rfl rfl rfl ?_
   refine XO_v1 (ev_move rfl) (.some rfl rfl rfl rfl gbt) rfl rfl rfl ?_
   refine XO_v1 (ev_indexSl rfl rfl slt_61 hRow (fun hg => by first | omega | (simp [conj] at hg; omega))) (.some rfl rfl rfl rfl gbt) rfl rfl rfl ?_
   refine XO_v1 (ev_load rfl sct_4 (fun hg => by first | exact Sl.get hP1 hp rfl | exact Sl.get hP.1 hq rfl | exact Sl.get0 hH hhd rfl | exact Sl.get0 hRow hb rfl | (repeat (first | exact Cell.here rfl | apply Cell.there | apply Cell.app)))) (.some rfl rfl rfl rfl gbt) rfl rfl rfl ?_
   refine XO_and0 rfl rfl rfl rfl rfl ?_
   refine XO_nil (at_then ?_)
   refine X_cond rfl (fun hc84 => ?_) (fun hc84 => ?_)
   ·
    have h84 : (stP s f q && onF ps q.id p.id) = true := hc84
    refine X_region ?_
    refine XO_v0 (ev_assign rfl) rfl rfl rfl ?_
    refine XO_nil ?_
    refine at_block_n ?_
    refine at_then ?_
    refine X_region ?_
    refine XO_v0 (ev_move rfl) rfl rfl rfl ?_
    refine XO_v0 (ev_arB rfl rfl rfl (fun _ => by omega)) rfl rfl rfl ?_
    refine XO_v0 (ev_assign rfl) rfl rfl rfl ?_
    refine XO_nil ?_
    exact at_met2 _ _ ⟨n - (k + 1), by omega, k + 1, _, rfl, rfl, rfl, rfl, by omega, la_one hq h84⟩ (.cons rfl (.cons rfl (.cons rfl (.cons rfl (.cons rfl (.cons rfl (.cons rfl (.cons rfl .nil)))))))) (by repeat (first | exact .refl | exact subL_left | refine subL_app ?_ | refine .drop ?_ | refine subL_add ?_))
   ·
    have h84 : (stP s f q && onF ps q.id p.id) = false := hc84
    refine X_skip ?_
    refine at_block_n ?_
    refine at_then ?_
    refine X_region ?_
    refine XO_v0 (ev_move rfl) rfl rfl rfl ?_
    refine XO_v0 (ev_arB rfl rfl rfl (fun _ => by omega)) rfl rfl rfl ?_
    refine XO_v0 (ev_assign rfl) rfl rfl rfl ?_
    refine XO_nil ?_
    exact at_met2 _ _ ⟨n - (k + 1), by omega, k + 1, _, rfl, rfl, rfl, rfl, by omega, la_two hq h84 hbb⟩ (.cons rfl (.cons rfl (.cons rfl (.cons rfl (.cons rfl (.cons rfl (.cons rfl (.cons rfl .nil)))))))) (by repeat (first | exact .refl | exact subL_left | refine subL_app ?_ | refine .drop ?_ | refine subL_add ?_))
  ·
   have hbe := la_end hP.len hbb hc49
   refine X_exit ?_
   refine at_then_e ?_
   refine at_then_e ?_
   refine at_block_hit ?_
   refine at_then ?_
   refine X_seq (X_region ?_)
   refine XO_v0 (ev_move rfl) rfl rfl rfl ?_
   refine XO_nil (at_then ?_)
   refine X_cond rfl (fun hc85 => ?_) (fun hc85 => ?_)
   ·
    have hla : laP ps s f p = true := by rw [← hbe]; exact hc85
    refine X_region ?_
    refine XO_v0 (ev_move rfl) rfl rfl rfl ?_
    refine XO_v0 (ev_move rfl) rfl rfl rfl ?_
    refine XO_buildSlice (ps := [(0, _)]) (m := [encI (i : Int)]) elt_23 rfl (.cons rfl (.nil)) rfl (by simp [encI_len]) (by decide) (by decide) rfl rfl (fun b_88 => ?_)
    refine XO_append (v := _) (ys := [(i : Int)].flatMap encI) (L := L) rfl rfl elt_23 hO (by repeat (first | exact .cons .here .nil | exact split_all | exact split_app | apply split_cons | apply split_skip)) ⟨rfl, fun _ => rfl, Cells.here⟩ (one_I [(i : Int)]) (by omega) rfl rfl ?_
    intro v9 L9 hO9 _; rw [← List.flatMap_append] at hO9
    refine XO_v0 (ev_assign rfl) rfl rfl rfl ?_
    refine XO_nil ?_
    refine at_block_n ?_
    refine at_then ?_
    refine X_region ?_
    refine XO_v0 (ev_move rfl) rfl rfl rfl ?_
    refine XO_v0 (ev_arB rfl rfl rfl (fun _ => by omega)) rfl rfl rfl ?_
    refine XO_v0 (ev_assign rfl) rfl rfl rfl ?_
    refine XO_nil ?_
    first
    | exact at_met2 _ _ ⟨n - (i + 1), by omega, i + 1, _, _, _, rfl, rfl, rfl, rfl, by omega, by rw [ix_yes hp hla]; exact hO9, by omega⟩ (.cons rfl (.cons rfl (.cons rfl (.cons rfl (.cons rfl (.cons rfl .nil)))))) (by repeat (first | exact .refl | exact subL_left | refine subL_app ?_ | refine .drop ?_ | refine subL_add ?_))
   ·
    have hla : laP ps s f p = false := by rw [← hbe]; exact hc85
    refine X_skip ?_
    refine at_block_n ?_
    refine at_then ?_
    refine X_region ?_
    refine XO_v0 (ev_move rfl) rfl rfl rfl ?_
    refine XO_v0 (ev_arB rfl rfl rfl (fun _ => by omega)) rfl rfl rfl ?_
    refine XO_v0 (ev_assign rfl) rfl rfl rfl ?_
    refine XO_nil ?_
    first
    | exact at_met2 _ _ ⟨n - (i + 1), by omega, i + 1, _, _, _, rfl, rfl, rfl, rfl, by omega, by rw [ix_no hp hla]; exact hO, by omega⟩ (.cons rfl (.cons rfl (.cons rfl (.cons rfl (.cons rfl (.cons rfl .nil)))))) (by repeat (first | exact .refl | exact subL_left | refine subL_app ?_ | refine .drop ?_ | refine subL_add ?_))
 ·
  have hge_i : n ≤ i := by have h := hc16; simp at h; omega
  have hin : n = i := by omega
  subst hin
  refine X_exit ?_
  refine at_then_e ?_
  refine at_then_e ?_
  refine at_block_hit ?_
  refine at_then ?_
  refine X_seq (X_region ?_)
  refine XO_v0 (ev_move rfl) rfl rfl rfl ?_
  refine XO_v0 (ev_assign rfl) rfl rfl rfl ?_
  refine XO_nil (at_then ?_)
  refine X_ret ?_
  exact at_ret1 rfl rfl (fun w hw => by obtain ⟨I9, h91, h92, h93⟩ := OwnS.res hO encI_len (by decide) hw; exact ⟨_, I9, [], rfl, hIc.trans h91, h92, h93⟩)
theorem r_cur {I : HMap} {av : Option Addr} {n c : Nat} {ps : List Pt} (hP : SlP I av n c ps) (hn : n ≤ 100000) {ov : Option Addr} {oc : Nat} (hM : SlM encB 1 I ov n oc (ps.map (rowF ps))) (x : Sg) : RetV Tryz.prog 48 [.slice av n c, .slice ov n oc, encGA x] I (encGA (curF (onF ps) ps x)) := by
 intro g H w hw
 refine enter Tryz.func48 rfl Tryz.ntmps48 rfl hw ?_
 have hIc := HLe.refl I
 refine X_seq (X_region ?_)
 refine XO_box rfl rfl rfl (fun b_5 => ?_)
 refine XO_alloc zt_45 rfl rfl (fun b_6 => ?_)
 refine XO_nil (at_then ?_)
 refine X_seq ?_
 refine X_seq (X_region ?_)
 refine XO_v0 (ev_assign rfl) rfl rfl rfl ?_
 refine XO_nil (at_then ?_)
 refine X_block ?_
 refine X_loopT [(0, _), (1, _), (5, _), (6, _)] (.cons rfl (.cons rfl (.cons rfl (.cons rfl .nil)))) (fun T L0 mz E I' loc' => ∃ (k : Nat) (y : Sg), mz = 9 - k ∧ E = (7, .int .i64 ((k : Int) + 1)) :: T ∧ HLe I I' ∧ (b_6, .cells (encG zeroG).toArray 45 (0, 0)) :: (b_5, .cells (encG y).toArray 45 (0, 0)) :: [] = loc' ∧ k ≤ 9 ∧ y = curK (onF ps) ps x k) _ _ _ _ ⟨0, x, rfl, rfl, HLe.refl _, rfl, Nat.zero_le _, cur_start⟩ (.cons rfl (.cons rfl (.cons rfl (.cons rfl (.cons rfl .nil))))) (HLe.refl _) rfl ?_
 rintro mz E J1 loc' ⟨k, y, rfl, rfl, hJ, rfl, hk, hy⟩
 have hP := hP.mono hJ
 have hM := hM.mono hJ
 have hIc := hIc.trans hJ
 have hB0 := hJ
 refine X_seq ?_
 refine X_seq (X_region ?_)
 refine XO_v0 (ev_move rfl) rfl rfl rfl ?_
 refine XO_v0 (ev_cmp rfl rfl rfl) rfl rfl rfl ?_
 refine XO_nil (at_then ?_)
 refine X_cond rfl (fun hc10 => ?_) (fun hc10 => ?_)
 ·
  have hlt_k : k < 9 := by have h := hc10; simp at h; omega
  refine X_skip ?_
  refine at_then ?_
  refine X_seq ?_
  refine X_block ?_
  refine X_seq (X_region ?_)
  refine XO_v0 (ev_move rfl) rfl rfl rfl ?_
  refine XO_v0 (ev_move rfl) rfl rfl rfl ?_
  refine XO_v0 (ev_fieldAddr rfl fld_45_0) rfl rfl rfl ?_
  refine XO_v0 (ev_load rfl sct_3 (fun hg => by first | exact Sl.get0 (k := 0) hLa hx0 rfl | (repeat (first | exact Cell.here rfl | apply Cell.there | apply Cell.app)))) rfl rfl rfl ?_
  refine XO_v0 (ev_move rfl) rfl rfl rfl ?_
  refine XO_callM (cap := []) (vs := [_, _, _, _]) rfl rfl fun_56 .nil (r_lat hP hn hM y.id ((k : Int) + 1)) rfl rfl ?_
  rintro vv2 I2 L2 hI2 ⟨rfl, a9, c9, rfl, hLa⟩
  have hP := hP.mono hI2
  have hM := hM.mono hI2
  have hIc := hIc.trans hI2
  have hB0 := hB0.trans hI2
  refine XO_v0 (ev_assign rfl) rfl rfl rfl ?_
  refine XO_nil (at_then ?_)
  refine X_seq (X_region ?_)
  refine XO_v0 (ev_move rfl) rfl rfl rfl ?_
  refine XO_v0 (ev_lenS rfl slt_23) rfl rfl rfl ?_
  refine XO_v0 (ev_cmp rfl rfl rfl) rfl rfl rfl ?_
  refine XO_nil (at_then ?_)
  refine X_cond rfl (fun hc21 => ?_) (fun hc21 => ?_)
  ·
   have hl0 : 0 < (ixK ps (laP ps y.id ((k : Int) + 1)) n).length := by have h := hc21; simp at h; omega
   obtain ⟨x0, hx0⟩ := hLa.at hl0
   obtain ⟨m, q, rfl, hmn, hqm, hfil⟩ := ix_at hP.len hx0
   have hset : setO y ((k : Int) + 1) (latF (onF ps) ps y.id ((k : Int) + 1)) = setG y ((k : Int) + 1) q.nw := setO_at (by rw [la_eq]; exact hfil)
   have hD := HLe.refl I2
   refine X_noP ?_
   refine X_drawS I2 [] mixed ?_
   refine XD_take 1 rfl (ev_move rfl) (.none rfl) rfl rfl rfl (by kernel_rfl) (by kernel_rfl) (by kernel_rfl) noP_ok hD (by repeat (first | exact .refl | exact subL_nil | refine .keep ?_ | refine .drop ?_ | refine subL_add ?_)) ?_
   refine XD_take 2 rfl (ev_move rfl) (.none rfl) rfl rfl rfl (by kernel_rfl) (by kernel_rfl) (by kernel_rfl) noP_ok hD (by repeat (first | exact .refl | exact subL_nil | refine .keep ?_ | refine .drop ?_ | refine subL_add ?_)) ?_
   refine XD_take 3 rfl (ev_move rfl) (.none rfl) rfl rfl rfl (by kernel_rfl) (by kernel_rfl) (by kernel_rfl) noP_ok hD (by repeat (first | exact .refl | exact subL_nil | refine .keep ?_ | refine .drop ?_ | refine subL_add ?_)) ?_
   refine XD_take 4 rfl (ev_indexSl rfl rfl slt_23 hLa (fun hg => by first | omega | (simp [conj] at hg; omega))) (.none rfl) rfl rfl rfl (by kernel_rfl) (by kernel_rfl) (by kernel_rfl) noP_ok hD (by repeat (first | exact .refl | exact subL_nil | refine .keep ?_ | refine .drop ?_ | refine subL_add ?_)) ?_
   refine XD_take 5 rfl (ev_load rfl sct_3 (fun hg => by first | exact Sl.get0 (k := 0) hLa hx0 rfl | (repeat (first | exact Cell.here rfl | apply Cell.there | apply Cell.app)))) (.none rfl) rfl rfl rfl (by kernel_rfl) (by kernel_rfl) (by kernel_rfl) noP_ok hD (by repeat (first | exact .refl | exact subL_nil | refine .keep ?_ | refine .drop ?_ | refine subL_add ?_)) ?_
   refine XD_take 6 rfl (ev_indexSl rfl rfl slt_22 hP.1 (fun hg => by first | omega | (simp [conj] at hg; omega))) (.none rfl) rfl rfl rfl (by kernel_rfl) (by kernel_rfl) (by kernel_rfl) noP_ok hD (by repeat (first | exact .refl | exact subL_nil | refine .keep ?_ | refine .drop ?_ | refine subL_add ?_)) ?_
   refine XD_take 7 rfl (ev_fieldAddr rfl fld_53_4) (.none rfl) rfl rfl rfl (by kernel_rfl) (by kernel_rfl) (by kernel_rfl) noP_ok hD (by repeat (first | exact .refl | exact subL_nil | refine .keep ?_ | refine .drop ?_ | refine subL_add ?_)) ?_
   refine XD_take 8 rfl (ev_loadA rfl agt_45 (fun hg => by first | exact Sl.seg (vs := encG q.nw) (o := 4) hP.1 hqm rfl | (repeat (first | exact Cells.here | exact Cells.s0 (vs := [_, _, _, _, _, _, _, _, _, _, _, _, _, _]) rfl | apply Cells.there | apply Cells.app))) rfl) (.none rfl) rfl rfl rfl (by kernel_rfl) (by kernel_rfl) (by kernel_rfl) noP_ok hD (by repeat (first | exact .refl | exact subL_nil | refine .keep ?_ | refine .drop ?_ | refine subL_add ?_)) ?_
   refine XD_one 0 rfl (by kernel_rfl) ?_
   refine XO_v0 (ev_loadA rfl agt_45 (fun hg => by first | exact Sl.seg (vs := encG q.nw) (o := 4) hP.1 hqm rfl | (repeat (first | exact Cells.here | exact Cells.s0 (vs := [_, _, _, _, _, _, _, _, _, _, _, _, _, _]) rfl | apply Cells.there | apply Cells.app))) rfl) rfl rfl rfl ?_
   refine XO_nil ?_
   refine at_D hD (by repeat (first | exact .refl | exact subL_nil | refine .keep ?_ | refine .drop ?_ | refine subL_add ?_)) ?_
   refine XD_one 9 rfl (by kernel_rfl) ?_
   refine XO_callV0 (cap := []) (vs := [_, _, _]) rfl rfl fun_86 (r_set _ y ((k : Int) + 1) q.nw) rfl rfl ?_
   refine XO_nil ?_
   refine at_D hD (by repeat (first | exact .refl | exact subL_nil | refine .keep ?_ | refine .drop ?_ | refine subL_add ?_)) ?_
   refine XD_one 10 rfl (by kernel_rfl) ?_
   refine XO_storeA rfl rfl szt_45 rfl rfl rfl rfl (by repeat (first | exact Upd.here | apply Upd.there | apply upd_app)) ?_
   refine XO_nil ?_
   refine at_D hD (by repeat (first | exact .refl | exact subL_nil | refine .keep ?_ | refine .drop ?_ | refine subL_add ?_)) ?_
   refine XD_done (by kernel_rfl) ?_
   refine at_noP ?_
   refine at_block_n ?_
   refine at_then ?_
   refine X_region ?_
   refine XO_v0 (ev_move rfl) rfl rfl rfl ?_
   refine XO_v0 (ev_arB rfl rfl rfl (fun _ => by omega)) rfl rfl rfl ?_
   refine XO_v0 (ev_assign rfl) rfl rfl rfl ?_
   refine XO_nil ?_
   exact at_met2 _ _ ⟨9 - (k + 1), by omega, k + 1, _, rfl, rfl, hB0, rfl, by omega, by rw [← cur_next hy, hset]⟩ (.cons rfl (.cons rfl (.cons rfl (.cons rfl (.cons rfl .nil))))) (by repeat (first | exact .refl | refine .keep ?_ | refine .drop ?_))
  ·
   have hnil := la_nil hP.len hc21
   refine X_skip ?_
   refine at_block_n ?_
   refine at_then ?_
   refine X_region ?_
   refine XO_v0 (ev_move rfl) rfl rfl rfl ?_
   refine XO_v0 (ev_arB rfl rfl rfl (fun _ => by omega)) rfl rfl rfl ?_
   refine XO_v0 (ev_assign rfl) rfl rfl rfl ?_
   refine XO_nil ?_
   exact at_met2 _ _ ⟨9 - (k + 1), by omega, k + 1, y, rfl, rfl, hB0, rfl, by omega, by rw [← cur_next hy, setO_nil hnil]⟩ (.cons rfl (.cons rfl (.cons rfl (.cons rfl (.cons rfl .nil))))) (by repeat (first | exact .refl | refine .keep ?_ | refine .drop ?_))
 ·
  have hk9 : 9 = k := by have h := hc10; simp at h; omega
  subst hk9
  refine X_exit ?_
  refine at_then_e ?_
  refine at_then_e ?_
  refine at_block_hit ?_
  refine at_then ?_
  refine X_seq (X_region ?_)
  refine XO_v0 (ev_loadA rfl agt_45 (fun hg => by first | exact Sl.seg (vs := encG q.nw) (o := 4) hP.1 hqm rfl | (repeat (first | exact Cells.here | exact Cells.s0 (vs := [_, _, _, _, _, _, _, _, _, _, _, _, _, _]) rfl | apply Cells.there | apply Cells.app))) rfl) rfl rfl rfl ?_
  refine XO_storeA rfl rfl szt_45 rfl rfl rfl rfl (by repeat (first | exact Upd.here | apply Upd.there | apply upd_app)) ?_
  refine XO_nil (at_then ?_)
  refine X_ret ?_
  exact at_retA rfl rfl agt_45 Cells.g0 rfl (fun w hw => ⟨by rw [hy]; rfl, (hw.mono hIc).drop⟩)
end Go.Proofs.YtccomeanpppfmaaGreat
end
section
namespace Go.Proofs.YtccomeanpppfmaaGreat
open Go Go.Kn Go.Proofs
theorem fun_45 : Fun Tryz.prog 45 := .of Tryz.func45 (by kernel_rfl) (by kernel_rfl)
theorem fun_46 : Fun Tryz.prog 46 := .of Tryz.func46 (by kernel_rfl) (by kernel_rfl)
theorem fun_47 : Fun Tryz.prog 47 := .of Tryz.func47 (by kernel_rfl) (by kernel_rfl)
theorem fun_48 : Fun Tryz.prog 48 := .of Tryz.func48 (by kernel_rfl) (by kernel_rfl)
theorem fun_84 : Fun Tryz.prog 84 := .of Tryz.func84 (by kernel_rfl) (by kernel_rfl)
theorem fun_85 : Fun Tryz.prog 85 := .of Tryz.func85 (by kernel_rfl) (by kernel_rfl)
theorem r_pats_no {I : HMap} {av : Option Addr} {n c : Nat} {ps : List Pt} (hP : SlP I av n c ps) (hn : n ≤ 1000) {bv : Option Addr} {n2 c2 : Nat} {bs : List Sg} (hB : Sl I 14 encG bv n2 c2 bs) (hn2 : n2 ≤ 1000) {dv : Option Addr} {n3 c3 : Nat} {ws : List Int} (hV : Sl I 1 encI dv n3 c3 ws) (hn3 : n3 ≤ 100000) (hvb : verB ps ws = false) : RetM Tryz.prog 45 [.slice av n c, .slice bv n2 c2, .slice dv n3 c3] I [] (PtsQ (patE ps bs ws) (resF (patE ps bs ws) (verL ps ws))) := by
 intro g H w hw
 refine enter Tryz.func45 rfl Tryz.ntmps45 rfl hw ?_
 have hIc := HLe.refl I
 refine X_seq (X_region ?_)
 refine XO_v0 (ev_assign rfl) rfl rfl rfl ?_
 refine XO_v0 (ev_assign rfl) rfl rfl rfl ?_
 refine XO_nil (at_then ?_)
 refine X_seq (X_region ?_)
 refine XO_v0 (ev_move rfl) rfl rfl rfl ?_
 refine XO_callV0 (cap := []) (vs := [_]) rfl rfl fun_13 (r_chkR hP (by omega)) rfl rfl ?_
 refine XO_v0 (ev_assign rfl) rfl rfl rfl ?_
 refine XO_nil (at_then ?_)
 refine X_seq ?_
 refine X_seq (X_region ?_)
 refine XO_v0 (ev_move rfl) rfl rfl rfl ?_
 refine XO_v0 (ev_cmp rfl rfl rfl) rfl rfl rfl ?_
 refine XO_nil (at_then ?_)
 refine X_cond rfl (fun hc16 => ?_) (fun hc16 => ?_)
 ·
  have hck : chkR ps ≠ 0 := by simpa using hc16
  refine X_seq (X_region ?_)
  refine XO_v0 (ev_move rfl) rfl rfl rfl ?_
  refine XO_v0 (ev_assign rfl) rfl rfl rfl ?_
  refine XO_v0 (ev_assign rfl) rfl rfl rfl ?_
  refine XO_nil (at_then ?_)
  refine X_ret ?_
  refine at_then_r ?_
  first
  | exact at_ret2 rfl rfl rfl (fun w hw => ⟨_, I, [], rfl, hIc, hw.drop, by rw [pat_1 hck]; exact PtsQ.empty (resF_bad (by first | assumption | decide))⟩)
 ·
  have hck : chkR ps = 0 := by simpa using hc16
  have hL := chkR_lst hck
  have hnd := nd_chk hP hck
  refine X_skip ?_
  refine at_then ?_
  refine X_seq (X_region ?_)
  refine XO_v0 (ev_move rfl) rfl rfl rfl ?_
  refine XO_callV0 (cap := []) (vs := [_]) rfl rfl fun_83 (r_chkG hB (by omega)) rfl rfl ?_
  refine XO_v0 (ev_assign rfl) rfl rfl rfl ?_
  refine XO_nil (at_then ?_)
  refine X_seq ?_
  refine X_seq (X_region ?_)
  refine XO_v0 (ev_move rfl) rfl rfl rfl ?_
  refine XO_v0 (ev_cmp rfl rfl rfl) rfl rfl rfl ?_
  refine XO_nil (at_then ?_)
  refine X_cond rfl (fun hc21 => ?_) (fun hc21 => ?_)
  ·
   have hcg : chkG bs ≠ 0 := by simpa using hc21
   refine X_seq (X_region ?_)
   refine XO_v0 (ev_move rfl) rfl rfl rfl ?_
   refine XO_v0 (ev_assign rfl) rfl rfl rfl ?_
   refine XO_v0 (ev_assign rfl) rfl rfl rfl ?_
   refine XO_nil (at_then ?_)
   refine X_ret ?_
   refine at_then_r ?_
   first
   | exact at_ret2 rfl rfl rfl (fun w hw => ⟨_, I, [], rfl, hIc, hw.drop, by rw [pat_2 hck hcg]; exact PtsQ.empty (resF_bad (by first | assumption | decide))⟩)
  ·
   have hcg : chkG bs = 0 := by simpa using hc21
   refine X_skip ?_
   refine at_then ?_
   refine X_seq ?_
   refine X_seq (X_region ?_)
   refine XO_v0 (ev_move rfl) rfl rfl rfl ?_
   refine XO_v0 (ev_lenS rfl slt_23) rfl rfl rfl ?_
   refine XO_v0 (ev_cmp rfl rfl rfl) rfl rfl rfl ?_
   refine XO_nil (at_then ?_)
   refine X_cond rfl (fun hc25 => ?_) (fun hc25 => ?_)
   ·
    have hlen : ws.length > 512 := by rw [hV.len]; simp at hc25; omega
    refine X_seq (X_region ?_)
    refine XO_v0 (ev_assign rfl) rfl rfl rfl ?_
    refine XO_v0 (ev_assign rfl) rfl rfl rfl ?_
    refine XO_nil (at_then ?_)
    refine X_ret ?_
    refine at_then_r ?_
    first
    | exact at_ret2 rfl rfl rfl (fun w hw => ⟨_, I, [], rfl, hIc, hw.drop, by rw [pat_2' hck hcg hlen]; exact PtsQ.empty (resF_bad (by first | assumption | decide))⟩)
   ·
    have hlen : ¬ ws.length > 512 := by rw [hV.len]; simp at hc25; omega
    refine X_skip ?_
    refine at_then ?_
    refine X_seq (X_region ?_)
    refine XO_v0 (ev_move rfl) rfl rfl rfl ?_
    refine XO_v0 (ev_move rfl) rfl rfl rfl ?_
    refine XO_callM (cap := []) (vs := [_, _]) rfl rfl fun_34 .nil (r_v_no hP (by omega) hL hnd hV hn3 hvb) rfl rfl ?_
    rintro vv1 I1 L1 hI1 ⟨rfl, rfl⟩
    have hP := hP.mono hI1
    have hB := hB.mono hI1
    have hV := hV.mono hI1
    have hIc := hIc.trans hI1
    refine XO_v0 (ev_move rfl) rfl rfl rfl ?_
    refine XO_v0 (ev_extract rfl rfl) rfl rfl rfl ?_
    refine XO_v0 (ev_extract rfl rfl) rfl rfl rfl ?_
    refine XO_v0 (ev_assign rfl) rfl rfl rfl ?_
    refine XO_v0 (ev_assign rfl) rfl rfl rfl ?_
    refine XO_nil (at_then ?_)
    refine X_seq ?_
    refine X_seq (X_region ?_)
    refine XO_v0 (ev_move rfl) rfl rfl rfl ?_
    refine XO_v0 (ev_not rfl) rfl rfl rfl ?_
    refine XO_nil (at_then ?_)
    refine X_cond rfl (fun hc33 => ?_) (fun hc33 => ?_)
    ·
     refine X_seq (X_region ?_)
     refine XO_v0 (ev_assign rfl) rfl rfl rfl ?_
     refine XO_v0 (ev_assign rfl) rfl rfl rfl ?_
     refine XO_nil (at_then ?_)
     refine X_ret ?_
     refine at_then_r ?_
     first
     | exact at_ret2 rfl rfl rfl (fun w hw => ⟨_, I1, [], rfl, hIc, hw.drop, by rw [pat_no hck hcg hlen (by rw [hvb]; rfl)]; exact PtsQ.empty (resF_bad (by first | assumption | decide))⟩)
    ·
     cases hc33
theorem r_pats_yes {I : HMap} {av : Option Addr} {n c : Nat} {ps : List Pt} (hP : SlP I av n c ps) (hn : n ≤ 1000) {bv : Option Addr} {n2 c2 : Nat} {bs : List Sg} (hB : Sl I 14 encG bv n2 c2 bs) (hn2 : n2 ≤ 1000) {dv : Option Addr} {n3 c3 : Nat} {ws : List Int} (hV : Sl I 1 encI dv n3 c3 ws) (hn3 : n3 ≤ 100000) (hvb : verB ps ws = true) : RetM Tryz.prog 45 [.slice av n c, .slice bv n2 c2, .slice dv n3 c3] I [] (PtsQ (patE ps bs ws) (resF (patE ps bs ws) (verL ps ws))) := by
 intro g H w hw
 refine enter Tryz.func45 rfl Tryz.ntmps45 rfl hw ?_
 have hIc := HLe.refl I
 refine X_seq (X_region ?_)
 refine XO_v0 (ev_assign rfl) rfl rfl rfl ?_
 refine XO_v0 (ev_assign rfl) rfl rfl rfl ?_
 refine XO_nil (at_then ?_)
 refine X_seq (X_region ?_)
 refine XO_v0 (ev_move rfl) rfl rfl rfl ?_
 refine XO_callV0 (cap := []) (vs := [_]) rfl rfl fun_13 (r_chkR hP (by omega)) rfl rfl ?_
 refine XO_v0 (ev_assign rfl) rfl rfl rfl ?_
 refine XO_nil (at_then ?_)
 refine X_seq ?_
 refine X_seq (X_region ?_)
 refine XO_v0 (ev_move rfl) rfl rfl rfl ?_
 refine XO_v0 (ev_cmp rfl rfl rfl) rfl rfl rfl ?_
 refine XO_nil (at_then ?_)
 refine X_cond rfl (fun hc16 => ?_) (fun hc16 => ?_)
 ·
  have hck : chkR ps ≠ 0 := by simpa using hc16
  refine X_seq (X_region ?_)
  refine XO_v0 (ev_move rfl) rfl rfl rfl ?_
  refine XO_v0 (ev_assign rfl) rfl rfl rfl ?_
  refine XO_v0 (ev_assign rfl) rfl rfl rfl ?_
  refine XO_nil (at_then ?_)
  refine X_ret ?_
  refine at_then_r ?_
  first
  | exact at_ret2 rfl rfl rfl (fun w hw => ⟨_, I, [], rfl, hIc, hw.drop, by rw [pat_1 hck]; exact PtsQ.empty (resF_bad (by first | assumption | decide))⟩)
 ·
  have hck : chkR ps = 0 := by simpa using hc16
  have hL := chkR_lst hck
  have hnd := nd_chk hP hck
  refine X_skip ?_
  refine at_then ?_
  refine X_seq (X_region ?_)
  refine XO_v0 (ev_move rfl) rfl rfl rfl ?_
  refine XO_callV0 (cap := []) (vs := [_]) rfl rfl fun_83 (r_chkG hB (by omega)) rfl rfl ?_
  refine XO_v0 (ev_assign rfl) rfl rfl rfl ?_
  refine XO_nil (at_then ?_)
  refine X_seq ?_
  refine X_seq (X_region ?_)
  refine XO_v0 (ev_move rfl) rfl rfl rfl ?_
  refine XO_v0 (ev_cmp rfl rfl rfl) rfl rfl rfl ?_
  refine XO_nil (at_then ?_)
  refine X_cond rfl (fun hc21 => ?_) (fun hc21 => ?_)
  ·
   have hcg : chkG bs ≠ 0 := by simpa using hc21
   refine X_seq (X_region ?_)
   refine XO_v0 (ev_move rfl) rfl rfl rfl ?_
   refine XO_v0 (ev_assign rfl) rfl rfl rfl ?_
   refine XO_v0 (ev_assign rfl) rfl rfl rfl ?_
   refine XO_nil (at_then ?_)
   refine X_ret ?_
   refine at_then_r ?_
   first
   | exact at_ret2 rfl rfl rfl (fun w hw => ⟨_, I, [], rfl, hIc, hw.drop, by rw [pat_2 hck hcg]; exact PtsQ.empty (resF_bad (by first | assumption | decide))⟩)
  ·
   have hcg : chkG bs = 0 := by simpa using hc21
   refine X_skip ?_
   refine at_then ?_
   refine X_seq ?_
   refine X_seq (X_region ?_)
   refine XO_v0 (ev_move rfl) rfl rfl rfl ?_
   refine XO_v0 (ev_lenS rfl slt_23) rfl rfl rfl ?_
   refine XO_v0 (ev_cmp rfl rfl rfl) rfl rfl rfl ?_
   refine XO_nil (at_then ?_)
   refine X_cond rfl (fun hc25 => ?_) (fun hc25 => ?_)
   ·
    have hlen : ws.length > 512 := by rw [hV.len]; simp at hc25; omega
    refine X_seq (X_region ?_)
    refine XO_v0 (ev_assign rfl) rfl rfl rfl ?_
    refine XO_v0 (ev_assign rfl) rfl rfl rfl ?_
    refine XO_nil (at_then ?_)
    refine X_ret ?_
    refine at_then_r ?_
    first
    | exact at_ret2 rfl rfl rfl (fun w hw => ⟨_, I, [], rfl, hIc, hw.drop, by rw [pat_2' hck hcg hlen]; exact PtsQ.empty (resF_bad (by first | assumption | decide))⟩)
   ·
    have hlen : ¬ ws.length > 512 := by rw [hV.len]; simp at hc25; omega
    refine X_skip ?_
    refine at_then ?_
    refine X_seq (X_region ?_)
    refine XO_v0 (ev_move rfl) rfl rfl rfl ?_
    refine XO_v0 (ev_move rfl) rfl rfl rfl ?_
    refine XO_callM (cap := []) (vs := [_, _]) rfl rfl fun_34 .nil (r_v_yes hP (by omega) hL hnd hV hn3 hvb) rfl rfl ?_
    rintro vv1 I1 L1 hI1 ⟨b9, rfl, rfl⟩
    have hP := hP.mono hI1
    have hB := hB.mono hI1
    have hV := hV.mono hI1
    have hIc := hIc.trans hI1
    refine XO_v0 (ev_move rfl) rfl rfl rfl ?_
    refine XO_v0 (ev_extract rfl rfl) rfl rfl rfl ?_
    refine XO_v0 (ev_extract rfl rfl) rfl rfl rfl ?_
    refine XO_v0 (ev_assign rfl) rfl rfl rfl ?_
    refine XO_v0 (ev_assign rfl) rfl rfl rfl ?_
    refine XO_nil (at_then ?_)
    refine X_seq ?_
    refine X_seq (X_region ?_)
    refine XO_v0 (ev_move rfl) rfl rfl rfl ?_
    refine XO_v0 (ev_not rfl) rfl rfl rfl ?_
    refine XO_nil (at_then ?_)
    refine X_cond rfl (fun hc33 => ?_) (fun hc33 => ?_)
    ·
     cases hc33
    ·
     refine X_skip ?_
     refine at_then ?_
     refine X_seq ?_
     refine X_freeze .here (fun I2 hI2 hbF => ?_)
     have hP := hP.mono hI2
     have hB := hB.mono hI2
     have hV := hV.mono hI2
     have hIc := hIc.trans hI2
     have hF : Sl I2 1 encB (some ⟨b9, 0, none⟩) n n (ps.map (chF ws)) := Sl.lit _ (by simp [hP.len]) encB_len hbF
     refine X_region ?_
     refine XO_v0 (ev_move rfl) rfl rfl rfl ?_
     refine XO_v0 (ev_move rfl) rfl rfl rfl ?_
     refine XO_callM (cap := []) (vs := [_, _]) rfl rfl fun_84 .nil (r_of hP (by omega) hF) rfl rfl ?_
     rintro vv3 I3 L3 hI3 ⟨rfl, a9, c9, rfl, hl⟩
     have hP := hP.mono hI3
     have hB := hB.mono hI3
     have hV := hV.mono hI3
     have hF := hF.mono hI3
     have hIc := hIc.trans hI3
     have hPl : SlP I3 a9 _ c9 (verL ps ws) := ⟨hl, of_one hP⟩
     refine XO_v0 (ev_assign rfl) rfl rfl rfl ?_
     refine XO_nil (at_then ?_)
     refine X_seq ?_
     refine X_seq (X_region ?_)
     refine XO_v0 (ev_move rfl) rfl rfl rfl ?_
     refine XO_v0 (ev_move rfl) rfl rfl rfl ?_
     refine XO_callV0 (cap := []) (vs := [_, _]) rfl rfl fun_85 (r_fits hPl (Nat.le_trans (List.length_filter_le ..) (by rw [hP.len]; omega)) hB (by omega)) rfl rfl ?_
     refine XO_v0 (ev_not rfl) rfl rfl rfl ?_
     refine XO_nil (at_then ?_)
     refine X_cond rfl (fun hc40 => ?_) (fun hc40 => ?_)
     ·
      have hft : fitB bs (verL ps ws) = false := by simpa using hc40
      refine X_seq (X_region ?_)
      refine XO_v0 (ev_assign rfl) rfl rfl rfl ?_
      refine XO_v0 (ev_assign rfl) rfl rfl rfl ?_
      refine XO_nil (at_then ?_)
      refine X_ret ?_
      refine at_then_r ?_
      first
      | exact at_ret2 rfl rfl rfl (fun w hw => ⟨_, I3, [], rfl, hIc, hw.drop, by rw [pat_no hck hcg hlen (by rw [hvb, hft]; rfl)]; exact PtsQ.empty (resF_bad (by first | assumption | decide))⟩)
     ·
      have hft : fitB bs (verL ps ws) = true := by simpa using hc40
      refine X_skip ?_
      refine at_then ?_
      refine X_seq (X_region ?_)
      refine XO_v0 (ev_move rfl) rfl rfl rfl ?_
      refine XO_v0 (ev_assign rfl) rfl rfl rfl ?_
      refine XO_v0 (ev_assign rfl) rfl rfl rfl ?_
      refine XO_nil (at_then ?_)
      refine X_ret ?_
      first
      | exact at_ret2 rfl rfl rfl (fun w hw => ⟨_, I3, [], rfl, hIc, hw.drop, by rw [pat_yes hck hcg hlen hvb hft, resF_ok rfl]; exact ⟨rfl, _, _, rfl, hPl⟩⟩)
theorem r_pats {I : HMap} {av : Option Addr} {n c : Nat} {ps : List Pt} (hP : SlP I av n c ps) (hn : n ≤ 1000) {bv : Option Addr} {n2 c2 : Nat} {bs : List Sg} (hB : Sl I 14 encG bv n2 c2 bs) (hn2 : n2 ≤ 1000) {dv : Option Addr} {n3 c3 : Nat} {ws : List Int} (hV : Sl I 1 encI dv n3 c3 ws) (hn3 : n3 ≤ 100000) : RetM Tryz.prog 45 [.slice av n c, .slice bv n2 c2, .slice dv n3 c3] I [] (PtsQ (patE ps bs ws) (resF (patE ps bs ws) (verL ps ws))) := by
 cases h : verB ps ws with
 | false => exact r_pats_no hP hn hB hn2 hV hn3 h
 | true => exact r_pats_yes hP hn hB hn2 hV hn3 h
theorem ver_few {ps : List Pt} {ws : List Int} : (verL ps ws).length ≤ ps.length := List.length_filter_le ..
theorem r_sgns {I : HMap} {av : Option Addr} {n c : Nat} {ps : List Pt} (hP : SlP I av n c ps) (hn : n ≤ 1000) {bv : Option Addr} {n2 c2 : Nat} {bs : List Sg} (hB : Sl I 14 encG bv n2 c2 bs) (hn2 : n2 ≤ 1000) {dv : Option Addr} {n3 c3 : Nat} {ws : List Int} (hV : Sl I 1 encI dv n3 c3 ws) (hn3 : n3 ≤ 100000) : RetM Tryz.prog 16 [.slice av n c, .slice bv n2 c2, .slice dv n3 c3] I [] (ResG (sgnE ps bs ws) (sgnF ps bs ws)) := by
 intro g H w hw
 refine enter Tryz.func16 rfl Tryz.ntmps16 rfl hw ?_
 have hIc := HLe.refl I
 refine X_seq (X_region ?_)
 refine XO_v0 (ev_assign rfl) rfl rfl rfl ?_
 refine XO_v0 (ev_assign rfl) rfl rfl rfl ?_
 refine XO_nil (at_then ?_)
 refine X_seq (X_region ?_)
 refine XO_v0 (ev_move rfl) rfl rfl rfl ?_
 refine XO_v0 (ev_move rfl) rfl rfl rfl ?_
 refine XO_v0 (ev_move rfl) rfl rfl rfl ?_
 refine XO_callM (cap := []) (vs := [_, _, _]) rfl rfl fun_45 .nil (r_pats hP hn hB hn2 hV hn3) rfl rfl ?_
 rintro vv1 I1 L1 hI1 ⟨rfl, a9, c9, rfl, hPl⟩
 have hP := hP.mono hI1
 have hB := hB.mono hI1
 have hV := hV.mono hI1
 have hIc := hIc.trans hI1
 generalize hml : (resF (patE ps bs ws) (verL ps ws)) = pl at hPl ⊢
 refine XO_v0 (ev_move rfl) rfl rfl rfl ?_
 refine XO_v0 (ev_extract rfl rfl) rfl rfl rfl ?_
 refine XO_v0 (ev_extract rfl rfl) rfl rfl rfl ?_
 refine XO_v0 (ev_assign rfl) rfl rfl rfl ?_
 refine XO_v0 (ev_assign rfl) rfl rfl rfl ?_
 refine XO_nil (at_then ?_)
 refine X_seq ?_
 refine X_seq (X_region ?_)
 refine XO_v0 (ev_move rfl) rfl rfl rfl ?_
 refine XO_v0 (ev_cmp rfl rfl rfl) rfl rfl rfl ?_
 refine XO_nil (at_then ?_)
 refine X_cond rfl (fun hc23 => ?_) (fun hc23 => ?_)
 ·
  have he : patE ps bs ws ≠ 0 := by simpa using hc23
  refine X_seq (X_region ?_)
  refine XO_v0 (ev_move rfl) rfl rfl rfl ?_
  refine XO_v0 (ev_assign rfl) rfl rfl rfl ?_
  refine XO_v0 (ev_assign rfl) rfl rfl rfl ?_
  refine XO_nil (at_then ?_)
  refine X_ret ?_
  refine at_then_r ?_
  first
  | exact at_ret2 rfl rfl rfl (fun w hw => ⟨_, I1, [], rfl, hIc, hw.drop, by unfold sgnF; rw [sgn_bad he]; exact ResG.empty (resF_bad he)⟩)
 ·
  have he : patE ps bs ws = 0 := by simpa using hc23
  rw [he, resF_ok rfl] at hml
  subst hml
  obtain ⟨hck, hcg, hVer, hft⟩ := pat_parts he
  have hL := chkR_lst hck
  have hLl := verL_lst hL hVer
  have hnl : (verL ps ws).length ≤ 1000 := by have := ver_few (ps := ps) (ws := ws); rw [hP.len] at this; omega
  have hnd : ∀ p ∈ verL ps ws, p.n ≤ 100000 := fun p hp => nd_chk hP hck p (mem_verL.1 hp).1
  refine X_skip ?_
  refine at_then ?_
  refine X_seq (X_region ?_)
  refine XO_buildSlice (ps := []) (m := []) elt_33 rfl (.nil) rfl (by simp [encG_len]) (by decide) (by decide) rfl rfl (fun b_25 => ?_)
  refine XO_v0 (ev_move rfl) rfl rfl rfl ?_
  refine XO_append (v := _) (ys := bs.flatMap encG) (L := [(b_25, _)]) rfl rfl elt_33 OwnS.new (by repeat (first | exact .cons .here .nil | exact split_all | exact split_app | apply split_cons | apply split_skip)) (hB.src encG_len) (one_G _) (by omega) rfl rfl ?_
  intro v1 L1 hO1 _; rw [List.nil_append, Nat.zero_add] at hO1
  refine XO_v0 (ev_assign rfl) rfl rfl rfl ?_
  refine XO_nil (at_then ?_)
  refine X_seq ?_
  refine X_seq ?_
  refine X_freezeO hO1 encG_len (by decide) (by repeat (first | exact .cons .here .nil | exact split_all | exact split_app | apply split_cons | apply split_skip)) (fun I2 hI2 af2 cf2 ef2 hA0 => ?_)
  subst ef2
  have hP := hP.mono hI2
  have hB := hB.mono hI2
  have hV := hV.mono hI2
  have hPl := hPl.mono hI2
  have hIc := hIc.trans hI2
  refine X_region ?_
  refine XO_v0 (ev_assign rfl) rfl rfl rfl ?_
  refine XO_nil (at_then ?_)
  refine X_block ?_
  refine X_loopT [(8, _)] (.cons rfl .nil) (fun T L0 mz E I' loc' => ∃ (k : Nat) (a1 : Option Addr) (m1 : Nat) (c1 : Nat), mz = (verL ps ws).length - k ∧ E = (10, .slice a1 m1 c1) :: (11, .int .i64 k) :: T ∧ HLe I2 I' ∧ L0 = loc' ∧ k ≤ (verL ps ws).length ∧ Sl I' 14 encG a1 m1 c1 (allG bs ((verL ps ws).take k)) ∧ m1 ≤ n2 + k) _ _ _ _ ⟨0, _, n2, _, rfl, rfl, HLe.refl _, rfl, Nat.zero_le _, hA0, Nat.le_refl _⟩ (.cons rfl (.cons rfl (.cons rfl .nil))) (HLe.refl _) rfl ?_
  rintro mz E J3 loc' ⟨k, a1, m1, c1, rfl, rfl, hJ, rfl, hk, hAl, hm1⟩
  have hP := hP.mono hJ
  have hB := hB.mono hJ
  have hV := hV.mono hJ
  have hPl := hPl.mono hJ
  have hA0 := hA0.mono hJ
  have hIc := hIc.trans hJ
  have hB0 := hJ
  refine X_seq ?_
  refine X_seq (X_region ?_)
  refine XO_v0 (ev_move rfl) rfl rfl rfl ?_
  refine XO_v0 (ev_move rfl) rfl rfl rfl ?_
  refine XO_v0 (ev_lenS rfl slt_22) rfl rfl rfl ?_
  refine XO_v0 (ev_cmp rfl rfl rfl) rfl rfl rfl ?_
  refine XO_nil (at_then ?_)
  refine X_cond rfl (fun hc31 => ?_) (fun hc31 => ?_)
  ·
   have hlt_k : k < (verL ps ws).length := by have h := hc31; simp at h; omega
   obtain ⟨p, hp, _⟩ := hPl.at hlt_k
   refine X_skip ?_
   refine at_then ?_
   refine X_seq ?_
   refine X_block ?_
   refine X_seq (X_region ?_)
   refine XO_v0 (ev_move rfl) rfl rfl rfl ?_
   refine XO_v0 (ev_move rfl) rfl rfl rfl ?_
   refine XO_v0 (ev_indexSl rfl rfl slt_22 hPl.1 (fun hg => by first | omega | (simp [conj] at hg; omega))) rfl rfl rfl ?_
   refine XO_v0 (ev_fieldAddr rfl fld_53_1) rfl rfl rfl ?_
   refine XO_v0 (ev_load rfl sct_3 (fun hg => by first | exact Sl.get hPl.1 hp rfl | exact Sl.get hAl hx rfl | (repeat (first | exact Cell.here rfl | apply Cell.there | apply Cell.app)))) rfl rfl rfl ?_
   refine XO_v0 (ev_cmp rfl rfl rfl) rfl rfl rfl ?_
   refine XO_nil (at_then ?_)
   refine X_cond rfl (fun hc39 => ?_) (fun hc39 => ?_)
   ·
    have hk2 : p.kind = 2 := by simpa using hc39
    refine X_region ?_
    refine XO_v0 (ev_move rfl) rfl rfl rfl ?_
    refine XO_v0 (ev_move rfl) rfl rfl rfl ?_
    refine XO_v0 (ev_move rfl) rfl rfl rfl ?_
    refine XO_v0 (ev_indexSl rfl rfl slt_22 hPl.1 (fun hg => by first | omega | (simp [conj] at hg; omega))) rfl rfl rfl ?_
    refine XO_v0 (ev_fieldAddr rfl fld_53_4) rfl rfl rfl ?_
    refine XO_v0 (ev_loadA rfl agt_45 (fun hg => by first | exact Sl.seg (vs := encG p.nw) (o := 4) hPl.1 hp rfl | exact Sl.getA hAl hx | (repeat (first | exact Cells.here | exact Cells.s0 (vs := [_, _, _, _, _, _, _, _, _, _, _, _, _, _]) rfl | apply Cells.there | apply Cells.app))) rfl) rfl rfl rfl ?_
    refine XO_callM (cap := []) (vs := [_, _]) rfl rfl fun_46 .nil (r_put hAl (by omega) p.nw) rfl rfl ?_
    rintro vv4 I4 L4 hI4 ⟨rfl, a8, c8, rfl, hPu⟩
    have hP := hP.mono hI4
    have hB := hB.mono hI4
    have hV := hV.mono hI4
    have hPl := hPl.mono hI4
    have hA0 := hA0.mono hI4
    have hAl := hAl.mono hI4
    have hIc := hIc.trans hI4
    have hB0 := hB0.trans hI4
    refine XO_v0 (ev_assign rfl) rfl rfl rfl ?_
    refine XO_nil ?_
    refine at_block_n ?_
    refine at_then ?_
    refine X_region ?_
    refine XO_v0 (ev_move rfl) rfl rfl rfl ?_
    refine XO_v0 (ev_arB rfl rfl rfl (fun _ => by omega)) rfl rfl rfl ?_
    refine XO_v0 (ev_assign rfl) rfl rfl rfl ?_
    refine XO_nil ?_
    first
    | exact at_met2 _ _ ⟨(verL ps ws).length - (k + 1), by omega, k + 1, _, _, _, rfl, rfl, hB0, rfl, by omega, by rw [all_take1 hp, if_pos hk2]; exact hPu, by rw [put_len, hAl.len]; omega⟩ (.cons rfl (.cons rfl (.cons rfl .nil))) (by repeat (first | exact .refl | exact subL_left | refine subL_app ?_ | refine .drop ?_ | refine subL_add ?_))
   ·
    have hk2 : ¬ p.kind = 2 := by simpa using hc39
    refine X_skip ?_
    refine at_block_n ?_
    refine at_then ?_
    refine X_region ?_
    refine XO_v0 (ev_move rfl) rfl rfl rfl ?_
    refine XO_v0 (ev_arB rfl rfl rfl (fun _ => by omega)) rfl rfl rfl ?_
    refine XO_v0 (ev_assign rfl) rfl rfl rfl ?_
    refine XO_nil ?_
    first
    | exact at_met2 _ _ ⟨(verL ps ws).length - (k + 1), by omega, k + 1, _, _, _, rfl, rfl, hB0, rfl, by omega, by rw [all_take1 hp, if_neg hk2]; exact hAl, by omega⟩ (.cons rfl (.cons rfl (.cons rfl .nil))) (by repeat (first | exact .refl | exact subL_left | refine subL_app ?_ | refine .drop ?_ | refine subL_add ?_))
  ·
   have hge_k : (verL ps ws).length ≤ k := by have h := hc31; simp at h; omega
   rw [take_all rfl hge_k] at hAl
   have hkv : k = (verL ps ws).length := by omega
   rw [hkv] at hm1
   refine X_exit ?_
   refine at_then_e ?_
   refine at_then_e ?_
   refine at_block_hit ?_
   refine at_then ?_
   refine X_seq (X_region ?_)
   refine XO_v0 (ev_move rfl) rfl rfl rfl ?_
   refine XO_callM (cap := []) (vs := [_]) rfl rfl fun_41 .nil (r_stn hPl (by omega) hLl hnd) rfl rfl ?_
   rintro vv5 I5 L5 hI5 ⟨rfl, ao, co, rfl, hM⟩
   have hP := hP.mono hI5
   have hB := hB.mono hI5
   have hV := hV.mono hI5
   have hPl := hPl.mono hI5
   have hA0 := hA0.mono hI5
   have hAl := hAl.mono hI5
   have hIc := hIc.trans hI5
   have hB0 := hB0.trans hI5
   refine XO_v0 (ev_assign rfl) rfl rfl rfl ?_
   refine XO_nil (at_then ?_)
   refine X_seq (X_region ?_)
   refine XO_v0 (ev_assign rfl) rfl rfl rfl ?_
   refine XO_nil (at_then ?_)
   refine X_seq ?_
   refine X_seq (X_region ?_)
   refine XO_v0 (ev_assign rfl) rfl rfl rfl ?_
   refine XO_nil (at_then ?_)
   refine X_block ?_
   refine X_loopT [(8, _), (10, _), (12, _)] (.cons rfl (.cons rfl (.cons rfl .nil))) (fun T L0 mz E I' loc' => ∃ (k : Nat) (v : Value) (q : Nat) (L : Go.Kn.Loc), mz = m1 - k ∧ E = (13, v) :: (14, .int .i64 k) :: T ∧ I5 = I' ∧ L = loc' ∧ k ≤ m1 ∧ OwnS 45 14 v q ((exL (onF (verL ps ws)) (verL ps ws) ((allG bs (verL ps ws)).take k)).flatMap encG) L ∧ q ≤ k) _ _ _ _ ⟨0, _, 0, [], rfl, rfl, rfl, rfl, Nat.zero_le _, by rw [ex_zero]; exact OwnS.nil, Nat.le_refl _⟩ (.cons rfl (.cons rfl (.cons rfl (.cons rfl (.cons rfl .nil))))) (HLe.refl _) rfl ?_
   rintro mz E I' loc' ⟨k, v, q, L, rfl, rfl, rfl, rfl, hk, hO, hq⟩
   refine X_seq ?_
   refine X_seq (X_region ?_)
   refine XO_v0 (ev_move rfl) rfl rfl rfl ?_
   refine XO_v0 (ev_move rfl) rfl rfl rfl ?_
   refine XO_v0 (ev_lenS rfl slt_33) rfl rfl rfl ?_
   refine XO_v0 (ev_cmp rfl rfl rfl) rfl rfl rfl ?_
   refine XO_nil (at_then ?_)
   refine X_cond rfl (fun hc52 => ?_) (fun hc52 => ?_)
   ·
    have hlt_k : k < m1 := by have h := hc52; simp at h; omega
    obtain ⟨x, hx⟩ := hAl.at hlt_k
    refine X_skip ?_
    refine at_then ?_
    refine X_seq ?_
    refine X_block ?_
    refine X_seq (X_region ?_)
    refine XO_v0 (ev_move rfl) rfl rfl rfl ?_
    refine XO_v0 (ev_move rfl) rfl rfl rfl ?_
    refine XO_v0 (ev_move rfl) rfl rfl rfl ?_
    refine XO_v0 (ev_move rfl) rfl rfl rfl ?_
    refine XO_v0 (ev_indexSl rfl rfl slt_33 hAl (fun hg => by first | omega | (simp [conj] at hg; omega))) rfl rfl rfl ?_
    refine XO_v0 (ev_fieldAddr rfl fld_45_0) rfl rfl rfl ?_
    refine XO_v0 (ev_load rfl sct_3 (fun hg => by first | exact Sl.get hPl.1 hp rfl | exact Sl.get hAl hx rfl | (repeat (first | exact Cell.here rfl | apply Cell.there | apply Cell.app)))) rfl rfl rfl ?_
    refine XO_callV0 (cap := []) (vs := [_, _, _]) rfl rfl fun_47 (r_ex hPl (by omega) hM x.id) rfl rfl ?_
    refine XO_nil (at_then ?_)
    refine X_cond rfl (fun hc62 => ?_) (fun hc62 => ?_)
    ·
     have hex := hc62
     refine X_region ?_
     refine XO_v0 (ev_move rfl) rfl rfl rfl ?_
     refine XO_v0 (ev_move rfl) rfl rfl rfl ?_
     refine XO_v0 (ev_move rfl) rfl rfl rfl ?_
     refine XO_v0 (ev_move rfl) rfl rfl rfl ?_
     refine XO_v0 (ev_move rfl) rfl rfl rfl ?_
     refine XO_v0 (ev_indexSl rfl rfl slt_33 hAl (fun hg => by first | omega | (simp [conj] at hg; omega))) rfl rfl rfl ?_
     refine XO_v0 (ev_loadA rfl agt_45 (fun hg => by first | exact Sl.seg (vs := encG p.nw) (o := 4) hPl.1 hp rfl | exact Sl.getA hAl hx | (repeat (first | exact Cells.here | exact Cells.s0 (vs := [_, _, _, _, _, _, _, _, _, _, _, _, _, _]) rfl | apply Cells.there | apply Cells.app))) rfl) rfl rfl rfl ?_
     refine XO_callV0 (cap := []) (vs := [_, _, _]) rfl rfl fun_48 (r_cur hPl (by omega) hM x) rfl rfl ?_
     refine XO_buildSlice (ps := [(0, _)]) (m := [encG (curF (onF (verL ps ws)) (verL ps ws) x)]) elt_33 rfl (.cons rfl (.nil)) rfl (by simp [encG_len]) (by decide) (by decide) rfl rfl (fun b_71 => ?_)
     refine XO_append (v := _) (ys := [curF (onF (verL ps ws)) (verL ps ws) x].flatMap encG) (L := L) rfl rfl elt_33 hO (by repeat (first | exact .cons .here .nil | exact split_all | exact split_app | apply split_cons | apply split_skip)) ⟨rfl, fun _ => rfl, Cells.here⟩ (one_G [curF (onF (verL ps ws)) (verL ps ws) x]) (by omega) rfl rfl ?_
     intro v9 L9 hO9 _; rw [← List.flatMap_append] at hO9
     refine XO_v0 (ev_assign rfl) rfl rfl rfl ?_
     refine XO_nil ?_
     refine at_block_n ?_
     refine at_then ?_
     refine X_region ?_
     refine XO_v0 (ev_move rfl) rfl rfl rfl ?_
     refine XO_v0 (ev_arB rfl rfl rfl (fun _ => by omega)) rfl rfl rfl ?_
     refine XO_v0 (ev_assign rfl) rfl rfl rfl ?_
     refine XO_nil ?_
     first
     | exact at_met2 _ _ ⟨m1 - (k + 1), by omega, k + 1, _, _, _, rfl, rfl, rfl, rfl, by omega, by rw [ex_yes hx hex]; exact hO9, by omega⟩ (.cons rfl (.cons rfl (.cons rfl (.cons rfl (.cons rfl .nil))))) (by repeat (first | exact .refl | exact subL_left | refine subL_app ?_ | refine .drop ?_ | refine subL_add ?_))
    ·
     have hex := hc62
     refine X_skip ?_
     refine at_block_n ?_
     refine at_then ?_
     refine X_region ?_
     refine XO_v0 (ev_move rfl) rfl rfl rfl ?_
     refine XO_v0 (ev_arB rfl rfl rfl (fun _ => by omega)) rfl rfl rfl ?_
     refine XO_v0 (ev_assign rfl) rfl rfl rfl ?_
     refine XO_nil ?_
     first
     | exact at_met2 _ _ ⟨m1 - (k + 1), by omega, k + 1, _, _, _, rfl, rfl, rfl, rfl, by omega, by rw [ex_no hx hex]; exact hO, by omega⟩ (.cons rfl (.cons rfl (.cons rfl (.cons rfl (.cons rfl .nil))))) (by repeat (first | exact .refl | exact subL_left | refine subL_app ?_ | refine .drop ?_ | refine subL_add ?_))
   ·
    have hge_k : m1 ≤ k := by have h := hc52; simp at h; omega
    rw [take_all hAl.len hge_k, sgn_made he] at hO
    obtain ⟨va, vc, rfl⟩ := valn hO
    have hql := hO.1
    rw [flat_len encG_len] at hql
    refine X_exit ?_
    refine at_then_e ?_
    refine at_then_e ?_
    refine at_block_hit ?_
    refine at_then ?_
    refine X_seq ?_
    refine X_seq (X_region ?_)
    refine XO_v0 (ev_move rfl) rfl rfl rfl ?_
    refine XO_v0 (ev_lenS rfl slt_33) rfl rfl rfl ?_
    refine XO_v0 (ev_cmp rfl rfl rfl) rfl rfl rfl ?_
    refine XO_nil (at_then ?_)
    refine X_cond rfl (fun hc75 => ?_) (fun hc75 => ?_)
    ·
     have hS2 := sgn_big he (by have h := hc75; simp at h; omega)
     refine X_seq (X_region ?_)
     refine XO_v0 (ev_assign rfl) rfl rfl rfl ?_
     refine XO_v0 (ev_assign rfl) rfl rfl rfl ?_
     refine XO_nil (at_then ?_)
     refine X_ret ?_
     refine at_then_r ?_
     first
     | exact at_ret2 rfl rfl rfl (fun w hw => ⟨_, I5, [], rfl, hIc, hw.drop, by unfold sgnF; rw [hS2]; exact ResG.empty (resF_bad (by decide))⟩)
    ·
     have hS0 := sgn_fine he (by have h := hc75; simp at h; omega)
     refine X_skip ?_
     refine at_then ?_
     refine X_seq (X_region ?_)
     refine XO_v0 (ev_move rfl) rfl rfl rfl ?_
     refine XO_v0 (ev_assign rfl) rfl rfl rfl ?_
     refine XO_v0 (ev_assign rfl) rfl rfl rfl ?_
     refine XO_nil (at_then ?_)
     refine X_ret ?_
     first
     | exact at_ret2 rfl rfl rfl (fun w hw => by obtain ⟨I9, h91, h92, h93⟩ := OwnS.res hO encG_len (by decide) hw; obtain ⟨_, a9, c9, e9, h94⟩ := h93; cases e9; exact ⟨_, I9, [], rfl, hIc.trans h91, h92, ResG.good hS0.symm (by unfold sgnF; rw [hS0, resF_ok rfl]) h94⟩)
end Go.Proofs.YtccomeanpppfmaaGreat
end
section
namespace Go.Proofs.YtccomeanpppfmaaGreat
open Go Go.Kn Go.Proofs
theorem map_step {α β : Type} {f : α → β} {xs : List α} {k : Nat} {x : α} (hx : xs[k]? = some x) : (xs.take (k + 1)).map f = (xs.take k).map f ++ [f x] := by rw [take_snoc hx, List.map_append]; rfl
def bothF : List Int → List Int → List Int
  | a, [] => a
  | a, y :: b => a.takeWhile (fun x => decide (x < y)) ++ y :: bothF (a.dropWhile fun x => decide (x < y)) b
theorem both_less {x y : Int} {a b : List Int} (h : x < y) : bothF (x :: a) (y :: b) = x :: bothF a (y :: b) := by
  simp only [bothF]
  rw [List.takeWhile_cons, if_pos (by simpa using h), List.dropWhile_cons, if_pos (by simpa using h)]; rfl
theorem both_stop {y : Int} {a b : List Int} (h : a = [] ∨ ∃ x a', a = x :: a' ∧ ¬ x < y) : bothF a (y :: b) = y :: bothF a b := by
  rcases h with rfl | ⟨x, a', rfl, h⟩
  · simp [bothF]
  · simp only [bothF]
    rw [List.takeWhile_cons, if_neg (by simpa using h), List.dropWhile_cons, if_neg (by simpa using h)]; rfl
theorem both_step {xs ys out : List Int} {i k : Nat} {x y : Int} (hx : xs[i]? = some x) (hy : ys[k]? = some y) (h : x < y) (hb : out ++ bothF (xs.drop i) (ys.drop k) = bothF xs ys) : (out ++ [x]) ++ bothF (xs.drop (i + 1)) (ys.drop k) = bothF xs ys := by
  rw [drop_cons hx, drop_cons hy, both_less h] at hb
  rw [drop_cons hy, List.append_assoc]; exact hb
theorem both_put {xs ys out : List Int} {i k n : Nat} {y : Int} (hn : xs.length = n) (hi : i ≤ n) (hy : ys[k]? = some y) (h : (decide ((i : Int) < (n : Int)) && decide (xs.getD i 0 < y)) = false) (hb : out ++ bothF (xs.drop i) (ys.drop k) = bothF xs ys) : (out ++ [y]) ++ bothF (xs.drop i) (ys.drop (k + 1)) = bothF xs ys := by
  rw [drop_cons hy, both_stop] at hb
  · rw [List.append_assoc]; exact hb
  · by_cases e : i = n
    · left; exact List.drop_eq_nil_of_le (by omega)
    · right
      have hx : xs[i]? = some (xs[i]'(by omega)) := List.getElem?_eq_getElem _
      refine ⟨_, _, drop_cons hx, ?_⟩
      rw [getD_of hx, decide_eq_true (show (i : Int) < (n : Int) by omega), Bool.true_and] at h
      exact of_decide_eq_false h
theorem both_lt {xs : List Int} {i n : Nat} {x y : Int} (hn : xs.length = n) (hx : xs[i]? = some x) (h : (decide ((i : Int) < (n : Int)) && decide (xs.getD i 0 < y)) = true) : x < y := by
  rw [Bool.and_eq_true, getD_of hx] at h
  exact of_decide_eq_true h.2
theorem mem_both {x : Int} : ∀ {a b : List Int}, x ∈ bothF a b ↔ x ∈ a ∨ x ∈ b
  | a, [] => by simp [bothF]
  | a, y :: b => by
    simp only [bothF]
    rw [List.mem_append, List.mem_cons, mem_both (a := a.dropWhile _) (b := b), List.mem_cons]
    have : x ∈ a ↔ x ∈ a.takeWhile (fun x => decide (x < y)) ∨ x ∈ a.dropWhile fun x => decide (x < y) := by
      rw [← List.mem_append, List.takeWhile_append_dropWhile]
    rw [this]
    constructor
    · rintro (h | h | h | h)
      · exact .inl (.inl h)
      · exact .inr (.inl h)
      · exact .inl (.inr h)
      · exact .inr (.inr h)
    · rintro ((h | h) | h | h)
      · exact .inl h
      · exact .inr (.inr (.inl h))
      · exact .inr (.inl h)
      · exact .inr (.inr (.inr h))
theorem both_sorted : ∀ {a b : List Int}, a.Pairwise (· < ·) → b.Pairwise (· < ·) → (∀ x ∈ a, x ∉ b) → (bothF a b).Pairwise (· < ·)
  | a, [], ha, _, _ => by simpa [bothF] using ha
  | a, y :: b, ha, hb, hd => by
    have hsp := List.takeWhile_append_dropWhile (p := fun x => decide (x < y)) (l := a)
    have ha' := ha
    rw [← hsp, List.pairwise_append] at ha'
    obtain ⟨h1, h2, h3⟩ := ha'
    rw [List.pairwise_cons] at hb
    have hdr : ∀ x ∈ a.dropWhile (fun x => decide (x < y)), x ∈ a := fun x hx => (List.dropWhile_sublist _).mem hx
    have hge : ∀ x ∈ a.dropWhile (fun x => decide (x < y)), y < x := by
      cases hc : a.dropWhile (fun x => decide (x < y)) with
      | nil => intro x hx; cases hx
      | cons z zs =>
        have hz : ¬ z < y := by
          have := List.head_dropWhile_not (fun x => decide (x < y)) (l := a) (by rw [hc]; simp)
          simp only [hc, List.head_cons] at this
          simpa using this
        have hzy : z ≠ y := fun e => hd z (hdr z (by rw [hc]; simp)) (by rw [e]; simp)
        rw [hc, List.pairwise_cons] at h2
        intro x hx
        rcases List.mem_cons.1 hx with rfl | hx
        · omega
        · have := h2.1 x hx; omega
    have hlt : ∀ x ∈ a.takeWhile (fun x => decide (x < y)), x < y := fun x hx => by
      have := List.all_takeWhile (p := fun x => decide (x < y)) (l := a)
      rw [List.all_eq_true] at this
      simpa using this x hx
    have ih := both_sorted h2 hb.2 (fun x hx hxb => hd x (hdr x hx) (by simp [hxb]))
    simp only [bothF]
    rw [List.pairwise_append, List.pairwise_cons]
    refine ⟨h1, ⟨fun x hx => ?_, ih⟩, fun x hx z hz => ?_⟩
    · rcases mem_both.1 hx with hx | hx
      · exact hge x hx
      · exact hb.1 x hx
    · rcases List.mem_cons.1 hz with rfl | hz
      · exact hlt x hx
      · have := hlt x hx
        rcases mem_both.1 hz with hz | hz
        · have := hge z hz; omega
        · have := hb.1 z hz; omega
/-! ### The signs that patches are about -/
def abS (out : List Int) (s : Int) : List Int := if s ∈ out then out else out.takeWhile (fun x => decide (x < s)) ++ s :: out.dropWhile fun x => decide (x < s)
def abF (ps : List Pt) : List Int := (ps.map (·.sign)).foldl abS []
theorem ab_step {ps : List Pt} {k : Nat} {p : Pt} (hp : ps[k]? = some p) : abF (ps.take (k + 1)) = abS (abF (ps.take k)) p.sign := by
  unfold abF
  rw [take_snoc hp, List.map_append, List.foldl_append]; rfl
theorem abS_both {out : List Int} {s : Int} (h : s ∉ out) : abS out s = bothF out [s] := by
  unfold abS; rw [if_neg h]; simp [bothF]
theorem abS_mem {out : List Int} {s x : Int} : x ∈ abS out s ↔ x ∈ out ∨ x = s := by
  by_cases h : s ∈ out
  · unfold abS; rw [if_pos h]
    constructor
    · exact .inl
    · rintro (h1 | rfl)
      · exact h1
      · exact h
  · rw [abS_both h, mem_both]; simp
theorem abS_sorted {out : List Int} {s : Int} (h : out.Pairwise (· < ·)) : (abS out s).Pairwise (· < ·) := by
  by_cases h2 : s ∈ out
  · unfold abS; rw [if_pos h2]; exact h
  · rw [abS_both h2]
    exact both_sorted h (by simp) (fun x hx hxs => h2 (by simp at hxs; subst hxs; exact hx))
theorem ab_all (l : List Int) : ∀ (out : List Int), out.Pairwise (· < ·) → (l.foldl abS out).Pairwise (· < ·) ∧ ∀ x, x ∈ l.foldl abS out ↔ x ∈ out ∨ x ∈ l := by
  induction l with
  | nil => intro out h; exact ⟨h, fun x => by simp⟩
  | cons s l ih =>
    intro out h
    obtain ⟨h1, h2⟩ := ih (abS out s) (abS_sorted h)
    refine ⟨h1, fun x => ?_⟩
    rw [List.foldl_cons, h2, abS_mem, List.mem_cons, or_assoc]
theorem ab_sorted (ps : List Pt) : (abF ps).Pairwise (· < ·) := (ab_all _ [] .nil).1
theorem ab_mem {ps : List Pt} {s : Int} : s ∈ abF ps ↔ ∃ p ∈ ps, p.sign = s := by
  unfold abF
  rw [(ab_all _ [] .nil).2]; simp
theorem ab_len {ps : List Pt} {k : Nat} : (abF (ps.take k)).length ≤ k := by
  have hl : ∀ (l out : List Int), (l.foldl abS out).length ≤ out.length + l.length := by
    intro l
    induction l with
    | nil => intro out; simp
    | cons s l ih =>
      intro out
      rw [List.foldl_cons, List.length_cons]
      refine Nat.le_trans (ih _) ?_
      have : (abS out s).length ≤ out.length + 1 := by
        unfold abS
        split
        · omega
        · have := congrArg List.length (List.takeWhile_append_dropWhile (p := fun x => decide (x < s)) (l := out))
          rw [List.length_append] at this
          rw [List.length_append, List.length_cons]; omega
      omega
  have := hl ((ps.take k).map (·.sign)) []
  unfold abF
  rw [List.length_map, List.length_take, List.length_nil] at this
  omega
/-- The place of a number in an increasing list. -/
theorem tw_stop {xs : List Int} {t : Int} {i n : Nat} (hn : xs.length = n) (hi : i ≤ n) (hlo : ∀ q z, q < i → xs[q]? = some z → z < t) (h : (decide ((i : Int) < (n : Int)) && decide (xs.getD i 0 < t)) = false) : xs.takeWhile (fun x => decide (x < t)) = xs.take i ∧ xs.dropWhile (fun x => decide (x < t)) = xs.drop i := by
  induction xs generalizing i n with
  | nil => simp
  | cons x xs ih =>
    simp only [List.length_cons] at hn
    cases i with
    | zero =>
      have : ¬ x < t := by
        rw [decide_eq_true (show ((0 : Nat) : Int) < (n : Int) by omega), Bool.true_and] at h
        simpa using h
      rw [List.takeWhile_cons, if_neg (by simpa using this), List.dropWhile_cons, if_neg (by simpa using this)]
      exact ⟨rfl, rfl⟩
    | succ i =>
      have h0 := hlo 0 x (by omega) rfl
      obtain ⟨e1, e2⟩ := ih (i := i) (n := n - 1) (by omega) (by omega) (fun q z hq hz => hlo (q + 1) z (by omega) (by simpa using hz)) (by
        rw [← h]
        congr 1
        rw [Bool.eq_iff_iff]; simp; omega)
      rw [List.takeWhile_cons, if_pos (by simpa using h0), List.dropWhile_cons, if_pos (by simpa using h0), e1, e2]
      exact ⟨rfl, rfl⟩
theorem ab_here {xs : List Int} {t : Int} {i n : Nat} (hn : xs.length = n) (hi : i ≤ n) (h : (((i : Int) == (n : Int)) || (xs.getD i 0 != t)) = false) : abS xs t = xs := by
  rw [Bool.or_eq_false_iff] at h
  have h1 : i ≠ n := by have := h.1; rw [beq_eq_false_iff_ne] at this; omega
  have hx : xs[i]? = some (xs[i]'(by omega)) := List.getElem?_eq_getElem _
  unfold abS
  rw [if_pos]
  have h2 := h.2
  rw [getD_of hx] at h2
  have : xs[i]'(by omega) = t := by simpa using h2
  rw [← this]; exact List.getElem_mem _
theorem ab_new {xs : List Int} {t : Int} {i n : Nat} (hs : xs.Pairwise (· < ·)) (hn : xs.length = n) (hi : i ≤ n) (hlo : ∀ q z, q < i → xs[q]? = some z → z < t) (h0 : (decide ((i : Int) < (n : Int)) && decide (xs.getD i 0 < t)) = false) (h : (((i : Int) == (n : Int)) || (xs.getD i 0 != t)) = true) : abS xs t = (xs.take i ++ [t]) ++ xs.drop i := by
  obtain ⟨e1, e2⟩ := tw_stop hn hi hlo h0
  unfold abS
  rw [if_neg, e1, e2, List.append_assoc]; rfl
  intro ht
  obtain ⟨q, hq⟩ := List.getElem?_of_mem ht
  have hqi : ¬ q < i := fun hqi => by have := hlo q t hqi hq; omega
  obtain ⟨hq1, hq2⟩ := List.getElem?_eq_some_iff.1 hq
  have hx : xs[i]? = some (xs[i]'(by omega)) := List.getElem?_eq_getElem _
  rw [decide_eq_true (show (i : Int) < (n : Int) by omega), Bool.true_and, getD_of hx] at h0
  have h0 : ¬ xs[i]'(by omega) < t := of_decide_eq_false h0
  by_cases e : q = i
  · subst e
    rw [getD_of hq, Bool.or_eq_true] at h
    rcases h with h | h
    · have : (q : Int) = n := by simpa using h
      omega
    · simp at h
  · have := List.pairwise_iff_getElem.1 hs i q (by omega) hq1 (by omega)
    rw [hq2] at this; omega
theorem low_moreI {xs : List Int} {t : Int} {k : Nat} {x : Int} (hlo : ∀ q z, q < k → xs[q]? = some z → z < t) (hx : xs[k]? = some x) (h : x < t) : ∀ q z, q < k + 1 → xs[q]? = some z → z < t := fun q z hq hz => by
  by_cases e : q = k
  · subst e; rw [hx] at hz; cases hz; exact h
  · exact hlo q z (by omega) hz
theorem dif_yes {F : List Pt} {k : Nat} {z p0 : Pt} (h0 : F[0]? = some p0) (hk : F[k]? = some z) (h1 : 1 ≤ k) (h : (!sgEq z.nw p0.nw) = true) : difB F = true := by
  cases F with
  | nil => cases h0
  | cons p F =>
    simp at h0; subst h0
    unfold difB
    rw [List.any_eq_true]
    refine ⟨z, List.mem_of_getElem? (i := k - 1) ?_, h⟩
    rw [show k = k - 1 + 1 by omega, List.getElem?_cons_succ] at hk
    exact hk
theorem dif_no {F : List Pt} (h : ∀ j z p0, 1 ≤ j → F[j]? = some z → F[0]? = some p0 → sgEq z.nw p0.nw = true) : difB F = false := by
  cases F with
  | nil => rfl
  | cons p F =>
    unfold difB
    rw [List.any_eq_false]
    intro z hz
    obtain ⟨j, hj⟩ := List.getElem?_of_mem hz
    rw [h (j + 1) z p (by omega) (by simpa using hj) rfl]; decide
theorem dif_more {F : List Pt} {k : Nat} {z p0 : Pt} (h : ∀ j z p0, 1 ≤ j → j < k → F[j]? = some z → F[0]? = some p0 → sgEq z.nw p0.nw = true) (h0 : F[0]? = some p0) (hk : F[k]? = some z) (he : (!sgEq z.nw p0.nw) = false) : ∀ j z p0, 1 ≤ j → j < k + 1 → F[j]? = some z → F[0]? = some p0 → sgEq z.nw p0.nw = true := fun j z' p0' h1 h2 hj hp => by
  by_cases e : j = k
  · subst e; rw [hk] at hj; rw [h0] at hp; cases hj; cases hp
    simpa using he
  · exact h j z' p0' h1 (by omega) hj hp
theorem cf0_n {l : List Pt} {s : Int} {n : Nat} (hn : l.length = n) (h : decide (((ixK l (seP l s) n).length : Int) > 0) = false) : cf0 (onF l) l s = [] := by
  unfold cf0
  rw [ix_size hn] at h
  rw [if_pos]
  rw [un_eq, List.isEmpty_iff]
  exact List.eq_nil_of_length_eq_zero (by simp at h; simpa using h)
theorem flat_next {α β : Type} {f : α → List β} {xs : List α} {k : Nat} {x : α} (hx : xs[k]? = some x) : (xs.take (k + 1)).flatMap f = (xs.take k).flatMap f ++ f x := by rw [take_snoc hx, List.flatMap_append]; simp
theorem cfS_none {on : Int → Int → Bool} {l : List Pt} {s : Int} (h : ∀ p ∈ l, p.sign ≠ s) : cfS on l s = [] := by
  unfold cfS
  rw [List.append_eq_nil_iff, List.flatMap_eq_nil_iff]
  refine ⟨?_, fun k _ => ?_⟩
  · unfold cf0
    rw [if_pos]
    rw [List.isEmpty_iff]
    unfold unF
    rw [List.filter_eq_nil_iff]
    intro p hp
    have := h p hp
    simp [this]
  · unfold cfK
    have e : stF l s ((k : Int) + 1) = [] := by
      unfold stF
      rw [List.filter_eq_nil_iff]
      intro p hp
      have := h p hp
      simp [this]
    have : latF on l s ((k : Int) + 1) = [] := by unfold latF; rw [e]; rfl
    rw [this]
    simp [difB]
theorem flat_drop {α β : Type} {f : α → List β} {P : α → Bool} : ∀ {l : List α}, (∀ a ∈ l, P a = false → f a = []) → l.flatMap f = (l.filter P).flatMap f
  | [], _ => rfl
  | a :: l, h => by
    have ih := flat_drop (f := f) (P := P) (l := l) fun b hb => h b (List.mem_cons_of_mem _ hb)
    rw [List.flatMap_cons, List.filter_cons]
    cases hp : P a with
    | true => rw [if_pos rfl, List.flatMap_cons, ih]
    | false => rw [if_neg (by decide), h a (List.mem_cons_self ..) hp, ih]; rfl
theorem cfl_about {on : Int → Int → Bool} {bs : List Sg} {l : List Pt} (hb : Srt bs) (hs : Sto l) (hf : fitB bs l = true) : cfL on bs l = (abF l).flatMap (cfS on l) := by
  obtain ⟨hA, hlk⟩ := all_look hb hs hf
  have e1 : cfL on bs l = ((allG bs l).map (·.id)).flatMap (cfS on l) := by
    unfold cfL; rw [List.flatMap_map]
  rw [e1, flat_drop (P := fun s => l.any fun p => p.sign == s) (fun s _ h => cfS_none fun p hp e => by
    rw [List.any_eq_false] at h
    exact h p hp (by simpa using e))]
  congr 1
  refine sorted_ext (List.Pairwise.filter _ (List.pairwise_map.2 hA)) (ab_sorted l) fun s => ?_
  rw [List.mem_filter, ab_mem, List.any_eq_true]
  constructor
  · rintro ⟨_, p, hp, e⟩
    exact ⟨p, hp, by simpa using e⟩
  · rintro ⟨p, hp, rfl⟩
    refine ⟨?_, p, hp, by simp⟩
    rw [List.mem_map]
    have h1 : (lookG (allG bs l) p.sign).isSome = true := by
      rw [hlk]
      rcases fit_has hf hp with h1 | h1
      · obtain ⟨x, hx⟩ := Option.isSome_iff_exists.1 h1; rw [hx]; rfl
      · obtain ⟨x, hx⟩ := Option.isSome_iff_exists.1 h1
        rw [hx]
        cases lookG bs p.sign <;> rfl
    obtain ⟨x, hx⟩ := Option.isSome_iff_exists.1 h1
    exact ⟨x, look_mem hx, look_id hx⟩
theorem cf0_both {l : List Pt} {s : Int} (hL : Lst l) : bothF ((l.filter (seP l s)).map (·.id)) ((l.filter (rmP s)).map (·.id)) = (l.filter fun p => p.sign == s && (unB (onF l) l p || p.kind == 3)).map (·.id) := by
  rw [← un_eq, ← rm_eq]
  refine sorted_ext (both_sorted (ids_sorted hL _) (ids_sorted hL _) fun x hx hx2 => ?_) (ids_sorted hL _) fun x => ?_
  · obtain ⟨p, hp, h1, rfl⟩ := mem_ids.1 hx
    obtain ⟨q, hq, h2, e⟩ := mem_ids.1 hx2
    have := hL.uniq hp hq e.symm
    subst this
    unfold unB at h1
    simp at h1 h2
    omega
  · rw [mem_both]
    unfold unF rmF
    rw [mem_ids, mem_ids, mem_ids]
    constructor
    · rintro (⟨p, hp, h, e⟩ | ⟨p, hp, h, e⟩)
      · refine ⟨p, hp, ?_, e⟩
        rw [Bool.and_eq_true] at h ⊢
        exact ⟨h.1, by rw [h.2]; rfl⟩
      · refine ⟨p, hp, ?_, e⟩
        rw [Bool.and_eq_true] at h ⊢
        exact ⟨h.2, by rw [h.1]; simp⟩
    · rintro ⟨p, hp, h, e⟩
      rw [Bool.and_eq_true, Bool.or_eq_true] at h
      rcases h.2 with h2 | h2
      · exact .inl ⟨p, hp, by rw [h.1, h2]; rfl, e⟩
      · exact .inr ⟨p, hp, by rw [h.1, h2]; rfl, e⟩
theorem cf0_y {l : List Pt} {s : Int} {n : Nat} (hL : Lst l) (hn : l.length = n) (h : decide (((ixK l (seP l s) n).length : Int) > 0) = true) : cf0 (onF l) l s = [(s, 0, bothF ((l.filter (seP l s)).map (·.id)) ((l.filter (rmP s)).map (·.id)))] := by
  unfold cf0
  rw [ix_size hn, ← un_eq] at h
  rw [if_neg (by rw [List.isEmpty_iff]; intro e; rw [e] at h; simp at h), cf0_both hL]
theorem cfl_made {ps : List Pt} {bs : List Sg} {ws : List Int} (h : sgnE ps bs ws = 0) (hp : patE ps bs ws = 0) : cflF ps bs ws = (abF (verL ps ws)).flatMap (cfS (onF (verL ps ws)) (verL ps ws)) := by
  obtain ⟨h1, h2, h3, h4⟩ := pat_parts hp
  unfold cflF
  rw [resF_ok h, ← cfL_eq (verL_onEq (chkR_lst h1) h3)]
  exact cfl_about (skB_srt (chkG_ok h2).2) (verL_sto (chkR_sto h1) h3) h4
end Go.Proofs.YtccomeanpppfmaaGreat
end
section
namespace Go.Proofs.YtccomeanpppfmaaGreat
open Go Go.Kn Go.Proofs
theorem r_named {I : HMap} {av : Option Addr} {n c : Nat} {ps : List Pt} (hP : SlP I av n c ps) (hn : n ≤ 100000) {P : Pt → Bool} {bv : Option Addr} {m2 c2 : Nat} (hI : Sl I 1 encI bv m2 c2 (ixK ps P n)) : RetM Tryz.prog 55 [.slice av n c, .slice bv m2 c2] I [] (SlRes 1 encI ((ps.filter P).map (·.id))) := by
 intro g H w hw
 refine enter Tryz.func55 rfl Tryz.ntmps55 rfl hw ?_
 have hIc := HLe.refl I
 have hil := hI.len
 have hlk := ix_len (ps := ps) (P := P) (k := n)
 refine X_seq (X_region ?_)
 refine XO_v0 (ev_assign rfl) rfl rfl rfl ?_
 refine XO_nil (at_then ?_)
 refine X_seq (X_region ?_)
 refine XO_v0 (ev_assign rfl) rfl rfl rfl ?_
 refine XO_nil (at_then ?_)
 refine X_seq ?_
 refine X_seq (X_region ?_)
 refine XO_v0 (ev_assign rfl) rfl rfl rfl ?_
 refine XO_nil (at_then ?_)
 refine X_block ?_
 refine X_loopT [(0, _), (1, _)] (.cons rfl (.cons rfl .nil)) (fun T L0 mz E I' loc' => ∃ (j : Nat) (v : Value) (q : Nat) (L : Go.Kn.Loc), mz = m2 - j ∧ E = (5, v) :: (6, .int .i64 j) :: T ∧ I = I' ∧ L = loc' ∧ j ≤ m2 ∧ OwnS 3 1 v q ((((ixK ps P n).take j).map (fun x => (atI ps x).id)).flatMap encI) L ∧ q ≤ j) _ _ _ _ ⟨0, _, 0, [], rfl, rfl, rfl, rfl, Nat.zero_le _, OwnS.nil, Nat.le_refl _⟩ (.cons rfl (.cons rfl (.cons rfl (.cons rfl .nil)))) (HLe.refl _) rfl ?_
 rintro mz E I' loc' ⟨j, v, q, L, rfl, rfl, rfl, rfl, hj, hO, hq⟩
 refine X_seq ?_
 refine X_seq (X_region ?_)
 refine XO_v0 (ev_move rfl) rfl rfl rfl ?_
 refine XO_v0 (ev_move rfl) rfl rfl rfl ?_
 refine XO_v0 (ev_lenS rfl slt_23) rfl rfl rfl ?_
 refine XO_v0 (ev_cmp rfl rfl rfl) rfl rfl rfl ?_
 refine XO_nil (at_then ?_)
 refine X_cond rfl (fun hc10 => ?_) (fun hc10 => ?_)
 ·
  have hlt_j : j < m2 := by have h := hc10; simp at h; omega
  obtain ⟨x, hx⟩ := hI.at hlt_j
  obtain ⟨m, r, rfl, hmn, hrm, _⟩ := ix_at hP.len hx
  refine X_skip ?_
  refine at_then ?_
  refine X_seq ?_
  refine X_block ?_
  refine X_region ?_
  refine XO_v0 (ev_move rfl) rfl rfl rfl ?_
  refine XO_v0 (ev_move rfl) rfl rfl rfl ?_
  refine XO_v0 (ev_move rfl) rfl rfl rfl ?_
  refine XO_v0 (ev_move rfl) rfl rfl rfl ?_
  refine XO_v0 (ev_indexSl rfl rfl slt_23 hI (fun hg => by first | omega | (simp [conj] at hg; omega))) rfl rfl rfl ?_
  refine XO_v0 (ev_load rfl sct_3 (fun hg => by first | exact Sl.get0 hI hx rfl | exact Sl.get hP.1 hrm rfl | (repeat (first | exact Cell.here rfl | apply Cell.there | apply Cell.app)))) rfl rfl rfl ?_
  refine XO_v0 (ev_indexSl rfl rfl slt_22 hP.1 (fun hg => by first | omega | (simp [conj] at hg; omega))) rfl rfl rfl ?_
  refine XO_v0 (ev_fieldAddr rfl fld_53_0) rfl rfl rfl ?_
  refine XO_v0 (ev_load rfl sct_3 (fun hg => by first | exact Sl.get0 hI hx rfl | exact Sl.get hP.1 hrm rfl | (repeat (first | exact Cell.here rfl | apply Cell.there | apply Cell.app)))) rfl rfl rfl ?_
  refine XO_buildSlice (ps := [(0, _)]) (m := [encI r.id]) elt_23 rfl (.cons rfl (.nil)) rfl (by simp [encI_len]) (by decide) (by decide) rfl rfl (fun b_22 => ?_)
  refine XO_append (v := _) (ys := [r.id].flatMap encI) (L := L) rfl rfl elt_23 hO (by repeat (first | exact .cons .here .nil | exact split_all | exact split_app | apply split_cons | apply split_skip)) ⟨rfl, fun _ => rfl, Cells.here⟩ (one_I [r.id]) (by omega) rfl rfl ?_
  intro v9 L9 hO9 _; rw [← List.flatMap_append] at hO9
  refine XO_v0 (ev_assign rfl) rfl rfl rfl ?_
  refine XO_nil ?_
  refine at_block_n ?_
  refine at_then ?_
  refine X_region ?_
  refine XO_v0 (ev_move rfl) rfl rfl rfl ?_
  refine XO_v0 (ev_arB rfl rfl rfl (fun _ => by omega)) rfl rfl rfl ?_
  refine XO_v0 (ev_assign rfl) rfl rfl rfl ?_
  refine XO_nil ?_
  exact at_met2 _ _ ⟨m2 - (j + 1), by omega, j + 1, _, _, _, rfl, rfl, rfl, rfl, by omega, by rw [map_step hx, atI_at hrm]; exact hO9, by omega⟩ (.cons rfl (.cons rfl (.cons rfl (.cons rfl .nil)))) (by repeat (first | exact .refl | exact subL_left | refine subL_app ?_ | refine .drop ?_ | refine subL_add ?_))
 ·
  have hge_j : m2 ≤ j := by have h := hc10; simp at h; omega
  rw [take_all hil hge_j, show ((ixK ps P n).map fun x => (atI ps x).id) = (ps.filter P).map (·.id) from by rw [← ix_full hP.len, List.map_map]; rfl] at hO
  refine X_exit ?_
  refine at_then_e ?_
  refine at_then_e ?_
  refine at_block_hit ?_
  refine at_then ?_
  refine X_seq (X_region ?_)
  refine XO_v0 (ev_move rfl) rfl rfl rfl ?_
  refine XO_v0 (ev_assign rfl) rfl rfl rfl ?_
  refine XO_nil (at_then ?_)
  refine X_ret ?_
  exact at_ret1 rfl rfl (fun w hw => by obtain ⟨I9, h91, h92, h93⟩ := OwnS.res hO encI_len (by decide) hw; exact ⟨_, I9, [], rfl, hIc.trans h91, h92, h93⟩)
theorem r_both2 {I : HMap} {av : Option Addr} {n c : Nat} {xs : List Int} (hS : Sl I 1 encI av n c xs) (hn : n ≤ 100000) {bv : Option Addr} {n2 c2 : Nat} {ys : List Int} (hT : Sl I 1 encI bv n2 c2 ys) (hn2 : n2 ≤ 100000) : RetM Tryz.prog 54 [.slice av n c, .slice bv n2 c2] I [] (SlRes 1 encI (bothF xs ys)) := by
 intro g H w hw
 refine enter Tryz.func54 rfl Tryz.ntmps54 rfl hw ?_
 have hIc := HLe.refl I
 refine X_seq (X_region ?_)
 refine XO_v0 (ev_assign rfl) rfl rfl rfl ?_
 refine XO_nil (at_then ?_)
 refine X_seq (X_region ?_)
 refine XO_v0 (ev_assign rfl) rfl rfl rfl ?_
 refine XO_nil (at_then ?_)
 refine X_seq (X_region ?_)
 refine XO_v0 (ev_assign rfl) rfl rfl rfl ?_
 refine XO_nil (at_then ?_)
 refine X_seq ?_
 refine X_seq (X_region ?_)
 refine XO_v0 (ev_assign rfl) rfl rfl rfl ?_
 refine XO_nil (at_then ?_)
 refine X_block ?_
 refine X_loopT [(0, _), (1, _)] (.cons rfl (.cons rfl .nil)) (fun T L0 mz E I' loc' => ∃ (k : Nat) (v : Value) (i : Nat) (out : List Int) (L : Go.Kn.Loc), mz = n2 - k ∧ E = (5, v) :: (6, .int .i64 i) :: (7, .int .i64 k) :: T ∧ I = I' ∧ L = loc' ∧ k ≤ n2 ∧ OwnS 3 1 v (i + k) (out.flatMap encI) L ∧ out ++ bothF (xs.drop i) (ys.drop k) = bothF xs ys ∧ i ≤ n) _ _ _ _ ⟨0, _, 0, [], [], rfl, rfl, rfl, rfl, Nat.zero_le _, OwnS.nil, by simp, Nat.zero_le _⟩ (.cons rfl (.cons rfl (.cons rfl (.cons rfl (.cons rfl .nil))))) (HLe.refl _) rfl ?_
 rintro mz E I' loc' ⟨k, v, i, out, L, rfl, rfl, rfl, rfl, hk, hO, hbo, hi⟩
 refine X_seq ?_
 refine X_seq (X_region ?_)
 refine XO_v0 (ev_move rfl) rfl rfl rfl ?_
 refine XO_v0 (ev_move rfl) rfl rfl rfl ?_
 refine XO_v0 (ev_lenS rfl slt_23) rfl rfl rfl ?_
 refine XO_v0 (ev_cmp rfl rfl rfl) rfl rfl rfl ?_
 refine XO_nil (at_then ?_)
 refine X_cond rfl (fun hc11 => ?_) (fun hc11 => ?_)
 ·
  have hlt_k : k < n2 := by have h := hc11; simp at h; omega
  obtain ⟨y, hy⟩ := hT.at hlt_k
  refine X_skip ?_
  refine at_then ?_
  refine X_seq ?_
  refine X_block ?_
  refine X_seq ?_
  refine X_block ?_
  refine X_loopT [(0, _), (1, _), (7, _)] (.cons rfl (.cons rfl (.cons rfl .nil))) (fun T L0 mz E I' loc' => ∃ (i2 : Nat) (v2 : Value) (out2 : List Int) (L2 : Go.Kn.Loc), mz = n - i2 ∧ E = (5, v2) :: (6, .int .i64 i2) :: T ∧ I = I' ∧ L2 = loc' ∧ i2 ≤ n ∧ OwnS 3 1 v2 (i2 + k) (out2.flatMap encI) L2 ∧ out2 ++ bothF (xs.drop i2) (ys.drop k) = bothF xs ys) _ _ _ _ ⟨i, v, out, L, rfl, rfl, rfl, rfl, hi, hO, hbo⟩ (.cons rfl (.cons rfl (.cons rfl (.cons rfl (.cons rfl .nil))))) (HLe.refl _) rfl ?_
  rintro mz E I' loc' ⟨i2, v2, out2, L2, rfl, rfl, rfl, rfl, hi2, hO2, hbo2⟩
  refine X_seq ?_
  refine X_seq ?_
  refine X_draw mixed (by kernel_rfl) ?_
  refine XQ_v0 (ev_move rfl) rfl rfl rfl ?_
  refine XQ_v0 (ev_move rfl) rfl rfl rfl ?_
  refine XQ_v0 (ev_lenS rfl slt_23) rfl rfl rfl ?_
  refine XQ_v0 (ev_cmp rfl rfl rfl) rfl rfl rfl ?_
  refine XQ_v0 (ev_move rfl) rfl rfl rfl ?_
  refine XQ_pushT 4 rfl rfl rfl ?_
  refine XQ_v1 (ev_move rfl) (.some rfl rfl rfl rfl gbt) rfl rfl rfl ?_
  refine XQ_v1 (ev_move rfl) (.some rfl rfl rfl rfl gbt) rfl rfl rfl ?_
  refine XQ_v1 (ev_indexSl rfl rfl slt_23 hS (fun hg => by first | omega | (simp [conj] at hg; omega))) (.some rfl rfl rfl rfl gbt) rfl rfl rfl ?_
  refine XQ_v1 (ev_load rfl sct_3 (fun hg => by first | exact Sl.get0 hS hx rfl | exact Sl.get0 (k := i2) hS (some_getD (d := 0) hS.len (by simp [conj] at hg; omega)) rfl | exact Sl.get0 hT hy rfl | (repeat (first | exact Cell.here rfl | apply Cell.there | apply Cell.app)))) (.some rfl rfl rfl rfl gbt) rfl rfl rfl ?_
  refine XQ_v1 (ev_move rfl) (.some rfl rfl rfl rfl gbt) rfl rfl rfl ?_
  refine XQ_v1 (ev_move rfl) (.some rfl rfl rfl rfl gbt) rfl rfl rfl ?_
  refine XQ_v1 (ev_indexSl rfl rfl slt_23 hT (fun hg => by first | omega | (simp [conj] at hg; omega))) (.some rfl rfl rfl rfl gbt) rfl rfl rfl ?_
  refine XQ_v1 (ev_load rfl sct_3 (fun hg => by first | exact Sl.get0 hS hx rfl | exact Sl.get0 (k := i2) hS (some_getD (d := 0) hS.len (by simp [conj] at hg; omega)) rfl | exact Sl.get0 hT hy rfl | (repeat (first | exact Cell.here rfl | apply Cell.there | apply Cell.app)))) (.some rfl rfl rfl rfl gbt) rfl rfl rfl ?_
  refine XQ_v1 (ev_cmp rfl rfl rfl) (.some rfl rfl rfl rfl gbt) rfl rfl rfl ?_
  refine XQ_and0 rfl rfl rfl rfl rfl ?_
  refine XQ_nil ?_
  refine at_then ?_
  refine X_cond rfl (fun hc28 => ?_) (fun hc28 => ?_)
  ·
   have hlt_i : i2 < n := by have h := ((Bool.and_eq_true _ _).mp hc28).1; simp at h; omega
   obtain ⟨x, hx⟩ := hS.at hlt_i
   have hlt := both_lt hS.len hx hc28
   refine X_skip ?_
   refine at_then ?_
   refine X_block ?_
   refine X_seq (X_region ?_)
   refine XO_v0 (ev_move rfl) rfl rfl rfl ?_
   refine XO_v0 (ev_move rfl) rfl rfl rfl ?_
   refine XO_v0 (ev_move rfl) rfl rfl rfl ?_
   refine XO_v0 (ev_indexSl rfl rfl slt_23 hS (fun hg => by first | omega | (simp [conj] at hg; omega))) rfl rfl rfl ?_
   refine XO_v0 (ev_load rfl sct_3 (fun hg => by first | exact Sl.get0 hS hx rfl | exact Sl.get0 (k := i2) hS (some_getD (d := 0) hS.len (by simp [conj] at hg; omega)) rfl | exact Sl.get0 hT hy rfl | (repeat (first | exact Cell.here rfl | apply Cell.there | apply Cell.app)))) rfl rfl rfl ?_
   refine XO_buildSlice (ps := [(0, _)]) (m := [encI x]) elt_23 rfl (.cons rfl (.nil)) rfl (by simp [encI_len]) (by decide) (by decide) rfl rfl (fun b_34 => ?_)
   refine XO_append (v := _) (ys := [x].flatMap encI) (L := L2) rfl rfl elt_23 hO2 (by repeat (first | exact .cons .here .nil | exact split_all | exact split_app | apply split_cons | apply split_skip)) ⟨rfl, fun _ => rfl, Cells.here⟩ (one_I [x]) (by omega) rfl rfl ?_
   intro v9 L9 hO9 _; rw [← List.flatMap_append] at hO9
   refine XO_v0 (ev_assign rfl) rfl rfl rfl ?_
   refine XO_nil (at_then ?_)
   refine X_region ?_
   refine XO_v0 (ev_move rfl) rfl rfl rfl ?_
   refine XO_v0 (ev_arB rfl rfl rfl (fun _ => by omega)) rfl rfl rfl ?_
   refine XO_v0 (ev_assign rfl) rfl rfl rfl ?_
   refine XO_nil ?_
   refine at_block_n ?_
   exact at_met2 _ _ ⟨n - (i2 + 1), by omega, i2 + 1, _, _, _, rfl, rfl, rfl, rfl, by omega, by rw [show i2 + 1 + k = i2 + k + 1 by omega]; exact hO9, both_step hx hy hlt hbo2⟩ (.cons rfl (.cons rfl (.cons rfl (.cons rfl (.cons rfl .nil))))) (by repeat (first | exact .refl | exact subL_left | refine subL_app ?_ | refine .drop ?_ | refine subL_add ?_))
  ·
   have hbo3 := both_put hS.len hi2 hy hc28 hbo2
   refine X_exit ?_
   refine at_then_e ?_
   refine at_then_e ?_
   refine at_block_hit ?_
   refine at_then ?_
   refine X_region ?_
   refine XO_v0 (ev_move rfl) rfl rfl rfl ?_
   refine XO_v0 (ev_move rfl) rfl rfl rfl ?_
   refine XO_v0 (ev_move rfl) rfl rfl rfl ?_
   refine XO_v0 (ev_indexSl rfl rfl slt_23 hT (fun hg => by first | omega | (simp [conj] at hg; omega))) rfl rfl rfl ?_
   refine XO_v0 (ev_load rfl sct_3 (fun hg => by first | exact Sl.get0 hS hx rfl | exact Sl.get0 (k := i2) hS (some_getD (d := 0) hS.len (by simp [conj] at hg; omega)) rfl | exact Sl.get0 hT hy rfl | (repeat (first | exact Cell.here rfl | apply Cell.there | apply Cell.app)))) rfl rfl rfl ?_
   refine XO_buildSlice (ps := [(0, _)]) (m := [encI y]) elt_23 rfl (.cons rfl (.nil)) rfl (by simp [encI_len]) (by decide) (by decide) rfl rfl (fun b_43 => ?_)
   refine XO_append (v := _) (ys := [y].flatMap encI) (L := L2) rfl rfl elt_23 hO2 (by repeat (first | exact .cons .here .nil | exact split_all | exact split_app | apply split_cons | apply split_skip)) ⟨rfl, fun _ => rfl, Cells.here⟩ (one_I [y]) (by omega) rfl rfl ?_
   intro v9 L9 hO9 _; rw [← List.flatMap_append] at hO9
   refine XO_v0 (ev_assign rfl) rfl rfl rfl ?_
   refine XO_nil ?_
   refine at_block_n ?_
   refine at_then ?_
   refine X_region ?_
   refine XO_v0 (ev_move rfl) rfl rfl rfl ?_
   refine XO_v0 (ev_arB rfl rfl rfl (fun _ => by omega)) rfl rfl rfl ?_
   refine XO_v0 (ev_assign rfl) rfl rfl rfl ?_
   refine XO_nil ?_
   exact at_met2 _ _ ⟨n2 - (k + 1), by omega, k + 1, _, i2, _, _, rfl, rfl, rfl, rfl, by omega, by rw [show i2 + (k + 1) = i2 + k + 1 by omega]; exact hO9, hbo3, hi2⟩ (.cons rfl (.cons rfl (.cons rfl (.cons rfl (.cons rfl .nil))))) (by repeat (first | exact .refl | exact subL_left | refine subL_app ?_ | refine .drop ?_ | refine subL_add ?_))
 ·
  have hge_k : n2 ≤ k := by have h := hc11; simp at h; omega
  rw [show ys.drop k = [] from List.drop_eq_nil_of_le (by rw [hT.len]; exact hge_k)] at hbo
  have hbo : out ++ xs.drop i = bothF xs ys := hbo
  have hle2 : k ≤ n2 := hk
  refine X_exit ?_
  refine at_then_e ?_
  refine at_then_e ?_
  refine at_block_hit ?_
  refine at_then ?_
  refine X_seq (X_region ?_)
  refine XO_v0 (ev_move rfl) rfl rfl rfl ?_
  refine XO_v0 (ev_move rfl) rfl rfl rfl ?_
  refine XO_v0 (ev_move rfl) rfl rfl rfl ?_
  refine XO_v0 (ev_sliceLo rfl rfl slt_23 (fun hg => by first | omega | (simp [conj] at hg; omega))) rfl rfl rfl ?_
  refine XO_append (v := _) (ys := (xs.drop i).flatMap encI) (L := L) rfl rfl elt_23 hO (by repeat (first | exact .cons .here .nil | exact split_all | exact split_app | apply split_cons | apply split_skip)) ((hS.drop hi).src encI_len) (one_I _) (by omega) rfl rfl ?_
  intro v9 L9 hO9 _; rw [← List.flatMap_append] at hO9
  refine XO_v0 (ev_assign rfl) rfl rfl rfl ?_
  refine XO_nil (at_then ?_)
  refine X_ret ?_
  exact at_ret1 rfl rfl (fun w hw => by obtain ⟨I9, h91, h92, h93⟩ := OwnS.res hO9 encI_len (by decide) (hw.subL (by repeat (first | exact .refl | exact subL_left))); rw [hbo] at h93; exact ⟨_, I9, [], rfl, hIc.trans h91, h92, h93⟩)
theorem r_dif {I : HMap} {av : Option Addr} {n c : Nat} {ps : List Pt} (hP : SlP I av n c ps) (hn : n ≤ 100000) {P : Pt → Bool} {bv : Option Addr} {m2 c2 : Nat} (hI : Sl I 1 encI bv m2 c2 (ixK ps P n)) : RetV Tryz.prog 57 [.slice av n c, .slice bv m2 c2] I (.bool (difB (ps.filter P))) := by
 intro g H w hw
 refine enter Tryz.func57 rfl Tryz.ntmps57 rfl hw ?_
 have hil := hI.len
 have hlk := ix_len (ps := ps) (P := P) (k := n)
 refine X_seq (X_region ?_)
 refine XO_v0 (ev_assign rfl) rfl rfl rfl ?_
 refine XO_nil (at_then ?_)
 refine X_seq ?_
 refine X_seq (X_region ?_)
 refine XO_v0 (ev_assign rfl) rfl rfl rfl ?_
 refine XO_nil (at_then ?_)
 refine X_block ?_
 refine X_loopT [(0, _), (1, _)] (.cons rfl (.cons rfl .nil)) (fun T L0 mz E I' loc' => ∃ (k : Nat), mz = (max m2 1) - k ∧ E = (5, .int .i64 k) :: T ∧ I = I' ∧ L0 = loc' ∧ k ≤ (max m2 1) ∧ 1 ≤ k ∧ ∀ j z p0, 1 ≤ j → j < k → (ps.filter P)[j]? = some z → (ps.filter P)[0]? = some p0 → sgEq z.nw p0.nw = true) _ _ _ _ ⟨1, rfl, rfl, rfl, rfl, by omega, Nat.le_refl _, fun j z p0 h1 h2 => absurd h2 (by omega)⟩ (.cons rfl (.cons rfl (.cons rfl .nil))) (HLe.refl _) rfl ?_
 rintro mz E I' loc' ⟨k, rfl, rfl, rfl, rfl, hk, h1, hd⟩
 refine X_seq ?_
 refine X_seq (X_region ?_)
 refine XO_v0 (ev_move rfl) rfl rfl rfl ?_
 refine XO_v0 (ev_move rfl) rfl rfl rfl ?_
 refine XO_v0 (ev_lenS rfl slt_23) rfl rfl rfl ?_
 refine XO_v0 (ev_cmp rfl rfl rfl) rfl rfl rfl ?_
 refine XO_nil (at_then ?_)
 refine X_cond rfl (fun hc9 => ?_) (fun hc9 => ?_)
 ·
  have hlt_k : k < m2 := by have h := hc9; simp at h; omega
  obtain ⟨x, hx⟩ := hI.at hlt_k
  obtain ⟨m, z, rfl, hmn, hzm, hfk⟩ := ix_at hP.len hx
  obtain ⟨x0, hx0⟩ := hI.at (show 0 < m2 by omega)
  obtain ⟨m0, p0, rfl, hm0, hpm, hf0⟩ := ix_at hP.len hx0
  refine X_skip ?_
  refine at_then ?_
  refine X_seq ?_
  refine X_block ?_
  refine X_seq ?_
  refine X_draw mixed (by kernel_rfl) ?_
  refine XQ_v0 (ev_move rfl) rfl rfl rfl ?_
  refine XQ_v0 (ev_move rfl) rfl rfl rfl ?_
  refine XQ_v0 (ev_move rfl) rfl rfl rfl ?_
  refine XQ_v0 (ev_indexSl rfl rfl slt_23 hI (fun hg => by first | omega | (simp [conj] at hg; omega))) rfl rfl rfl ?_
  refine XQ_v0 (ev_load rfl sct_3 (fun hg => by first | exact Sl.get0 hI hx rfl | exact Sl.get0 hI hx0 rfl | (repeat (first | exact Cell.here rfl | apply Cell.there | apply Cell.app)))) rfl rfl rfl ?_
  refine XQ_v0 (ev_indexSl rfl rfl slt_22 hP.1 (fun hg => by first | omega | (simp [conj] at hg; omega))) rfl rfl rfl ?_
  refine XQ_v0 (ev_fieldAddr rfl fld_53_4) rfl rfl rfl ?_
  refine XQ_v0 (ev_loadA rfl agt_45 (fun hg => by first | exact Sl.seg (vs := encG z.nw) (o := 4) hP.1 hzm rfl | exact Sl.seg (vs := encG p0.nw) (o := 4) hP.1 hpm rfl | (repeat (first | exact Cells.here | exact Cells.s0 (vs := [_, _, _, _, _, _, _, _, _, _, _, _, _, _]) rfl | apply Cells.there | apply Cells.app))) rfl) rfl rfl rfl ?_
  refine XQ_v0 (ev_move rfl) rfl rfl rfl ?_
  refine XQ_v0 (ev_move rfl) rfl rfl rfl ?_
  refine XQ_v0 (ev_indexSl rfl rfl slt_23 hI (fun hg => by first | omega | (simp [conj] at hg; omega))) rfl rfl rfl ?_
  refine XQ_v0 (ev_load rfl sct_3 (fun hg => by first | exact Sl.get0 hI hx rfl | exact Sl.get0 hI hx0 rfl | (repeat (first | exact Cell.here rfl | apply Cell.there | apply Cell.app)))) rfl rfl rfl ?_
  refine XQ_v0 (ev_indexSl rfl rfl slt_22 hP.1 (fun hg => by first | omega | (simp [conj] at hg; omega))) rfl rfl rfl ?_
  refine XQ_v0 (ev_fieldAddr rfl fld_53_4) rfl rfl rfl ?_
  refine XQ_v0 (ev_loadA rfl agt_45 (fun hg => by first | exact Sl.seg (vs := encG z.nw) (o := 4) hP.1 hzm rfl | exact Sl.seg (vs := encG p0.nw) (o := 4) hP.1 hpm rfl | (repeat (first | exact Cells.here | exact Cells.s0 (vs := [_, _, _, _, _, _, _, _, _, _, _, _, _, _]) rfl | apply Cells.there | apply Cells.app))) rfl) rfl rfl rfl ?_
  refine XQ_v0 (ev_neS2 rfl rfl eqt2_45 rfl) rfl rfl rfl ?_
  refine XQ_nil ?_
  refine at_then ?_
  refine X_cond rfl (fun hc27 => ?_) (fun hc27 => ?_)
  ·
   refine X_seq (X_region ?_)
   refine XO_v0 (ev_assign rfl) rfl rfl rfl ?_
   refine XO_nil (at_then ?_)
   refine X_ret ?_
   refine at_block_r ?_
   refine at_then_r ?_
   refine at_then_r ?_
   refine at_block_r ?_
   refine at_then_r ?_
   exact at_ret1 rfl rfl (fun w hw => ⟨by rw [dif_yes hf0 hfk h1 hc27], hw.drop⟩)
  ·
   refine X_skip ?_
   refine at_block_n ?_
   refine at_then ?_
   refine X_region ?_
   refine XO_v0 (ev_move rfl) rfl rfl rfl ?_
   refine XO_v0 (ev_arB rfl rfl rfl (fun _ => by omega)) rfl rfl rfl ?_
   refine XO_v0 (ev_assign rfl) rfl rfl rfl ?_
   refine XO_nil ?_
   exact at_met2 _ _ ⟨(max m2 1) - (k + 1), by omega, k + 1, rfl, rfl, rfl, rfl, by omega, by omega, dif_more hd hf0 hfk hc27⟩ (.cons rfl (.cons rfl (.cons rfl .nil))) (by repeat (first | exact .refl | exact subL_left | refine subL_app ?_ | refine .drop ?_ | refine subL_add ?_))
 ·
  have hge_k : m2 ≤ k := by have h := hc9; simp at h; omega
  refine X_exit ?_
  refine at_then_e ?_
  refine at_then_e ?_
  refine at_block_hit ?_
  refine at_then ?_
  refine X_seq (X_region ?_)
  refine XO_v0 (ev_assign rfl) rfl rfl rfl ?_
  refine XO_nil (at_then ?_)
  refine X_ret ?_
  first
  | exact at_ret1 rfl rfl (fun w hw => ⟨by rw [dif_no (fun j z p0 h1 hj h0 => hd j z p0 h1 (by have := (List.getElem?_eq_some_iff.1 hj).1; rw [← ix_size hP.len, hil] at this; omega) hj h0)], hw.drop⟩)
theorem r_ab {I : HMap} {av : Option Addr} {n c : Nat} {ps : List Pt} (hP : SlP I av n c ps) (hn : n ≤ 1000) : RetM Tryz.prog 52 [.slice av n c] I [] (SlRes 1 encI (abF ps)) := by
 intro g H w hw
 refine enter Tryz.func52 rfl Tryz.ntmps52 rfl hw ?_
 have hIc := HLe.refl I
 refine X_seq (X_region ?_)
 refine XO_v0 (ev_assign rfl) rfl rfl rfl ?_
 refine XO_nil (at_then ?_)
 refine X_seq (X_region ?_)
 refine XO_v0 (ev_assign rfl) rfl rfl rfl ?_
 refine XO_nil (at_then ?_)
 refine X_seq ?_
 refine X_seq (X_region ?_)
 refine XO_v0 (ev_assign rfl) rfl rfl rfl ?_
 refine XO_nil (at_then ?_)
 refine X_block ?_
 refine X_loopT [(0, _)] (.cons rfl .nil) (fun T L0 mz E I' loc' => ∃ (i : Nat) (a1 : Option Addr) (m1 : Nat) (c1 : Nat), mz = n - i ∧ E = (3, .slice a1 m1 c1) :: (4, .int .i64 i) :: T ∧ HLe I I' ∧ L0 = loc' ∧ i ≤ n ∧ Sl I' 1 encI a1 m1 c1 (abF (ps.take i))) _ _ _ _ ⟨0, none, 0, 0, rfl, rfl, HLe.refl _, rfl, Nat.zero_le _, by rw [List.take_zero]; exact .nil⟩ (.cons rfl (.cons rfl (.cons rfl .nil))) (HLe.refl _) rfl ?_
 rintro mz E J1 loc' ⟨i, a1, m1, c1, rfl, rfl, hJ, rfl, hi, hA⟩
 have hP := hP.mono hJ
 have hIc := hIc.trans hJ
 have hB0 := hJ
 have hm1 : m1 ≤ i := by rw [← hA.len]; exact ab_len
 have hcapA := hA.cap
 refine X_seq ?_
 refine X_seq (X_region ?_)
 refine XO_v0 (ev_move rfl) rfl rfl rfl ?_
 refine XO_v0 (ev_move rfl) rfl rfl rfl ?_
 refine XO_v0 (ev_lenS rfl slt_22) rfl rfl rfl ?_
 refine XO_v0 (ev_cmp rfl rfl rfl) rfl rfl rfl ?_
 refine XO_nil (at_then ?_)
 refine X_cond rfl (fun hc9 => ?_) (fun hc9 => ?_)
 ·
  have hlt_i : i < n := by have h := hc9; simp at h; omega
  obtain ⟨p, hp⟩ := hP.1.at hlt_i
  refine X_skip ?_
  refine at_then ?_
  refine X_seq ?_
  refine X_block ?_
  refine X_seq (X_region ?_)
  refine XO_v0 (ev_assign rfl) rfl rfl rfl ?_
  refine XO_nil (at_then ?_)
  refine X_seq ?_
  refine X_block ?_
  refine X_loopT [(0, _), (3, _), (4, _)] (.cons rfl (.cons rfl (.cons rfl .nil))) (fun T L0 mz E I' loc' => ∃ (k : Nat), mz = m1 - k ∧ E = (5, .int .i64 k) :: T ∧ J1 = I' ∧ L0 = loc' ∧ k ≤ m1 ∧ ∀ q z, q < k → (abF (ps.take i))[q]? = some z → z < p.sign) _ _ _ _ ⟨0, rfl, rfl, rfl, rfl, Nat.zero_le _, fun q z h => absurd h (by omega)⟩ (.cons rfl (.cons rfl (.cons rfl (.cons rfl .nil)))) (HLe.refl _) rfl ?_
  rintro mz E I' loc' ⟨k, rfl, rfl, rfl, rfl, hk, hlo⟩
  refine X_seq ?_
  refine X_seq ?_
  refine X_draw mixed (by kernel_rfl) ?_
  refine XQ_v0 (ev_move rfl) rfl rfl rfl ?_
  refine XQ_v0 (ev_move rfl) rfl rfl rfl ?_
  refine XQ_v0 (ev_lenS rfl slt_23) rfl rfl rfl ?_
  refine XQ_v0 (ev_cmp rfl rfl rfl) rfl rfl rfl ?_
  refine XQ_v0 (ev_move rfl) rfl rfl rfl ?_
  refine XQ_pushT 4 rfl rfl rfl ?_
  refine XQ_v1 (ev_move rfl) (.some rfl rfl rfl rfl gbt) rfl rfl rfl ?_
  refine XQ_v1 (ev_move rfl) (.some rfl rfl rfl rfl gbt) rfl rfl rfl ?_
  refine XQ_v1 (ev_indexSl rfl rfl slt_23 hA (fun hg => by first | omega | (simp [conj] at hg; omega))) (.some rfl rfl rfl rfl gbt) rfl rfl rfl ?_
  refine XQ_v1 (ev_load rfl sct_3 (fun hg => by first | exact Sl.get0 (k := k) hA (some_getD (d := 0) hA.len (by simp [conj] at hg; omega)) rfl | exact Sl.get hP.1 hp rfl | (repeat (first | exact Cell.here rfl | apply Cell.there | apply Cell.app)))) (.some rfl rfl rfl rfl gbt) rfl rfl rfl ?_
  refine XQ_v1 (ev_move rfl) (.some rfl rfl rfl rfl gbt) rfl rfl rfl ?_
  refine XQ_v1 (ev_move rfl) (.some rfl rfl rfl rfl gbt) rfl rfl rfl ?_
  refine XQ_v1 (ev_indexSl rfl rfl slt_22 hP.1 (fun hg => by first | omega | (simp [conj] at hg; omega))) (.some rfl rfl rfl rfl gbt) rfl rfl rfl ?_
  refine XQ_v1 (ev_fieldAddr rfl fld_53_2) (.some rfl rfl rfl rfl gbt) rfl rfl rfl ?_
  refine XQ_v1 (ev_load rfl sct_3 (fun hg => by first | exact Sl.get0 (k := k) hA (some_getD (d := 0) hA.len (by simp [conj] at hg; omega)) rfl | exact Sl.get hP.1 hp rfl | (repeat (first | exact Cell.here rfl | apply Cell.there | apply Cell.app)))) (.some rfl rfl rfl rfl gbt) rfl rfl rfl ?_
  refine XQ_v1 (ev_cmp rfl rfl rfl) (.some rfl rfl rfl rfl gbt) rfl rfl rfl ?_
  refine XQ_and0 rfl rfl rfl rfl rfl ?_
  refine XQ_nil ?_
  refine at_then ?_
  refine X_cond rfl (fun hc27 => ?_) (fun hc27 => ?_)
  ·
   have hlt_k : k < m1 := by have h := ((Bool.and_eq_true _ _).mp hc27).1; simp at h; omega
   obtain ⟨x, hx⟩ := hA.at hlt_k
   have hlt := both_lt hA.len hx hc27
   refine X_skip ?_
   refine at_then ?_
   refine X_block ?_
   refine X_region ?_
   refine XO_v0 (ev_move rfl) rfl rfl rfl ?_
   refine XO_v0 (ev_arB rfl rfl rfl (fun _ => by omega)) rfl rfl rfl ?_
   refine XO_v0 (ev_assign rfl) rfl rfl rfl ?_
   refine XO_nil ?_
   refine at_block_n ?_
   exact at_met2 _ _ ⟨m1 - (k + 1), by omega, k + 1, rfl, rfl, rfl, rfl, by omega, low_moreI hlo hx hlt⟩ (.cons rfl (.cons rfl (.cons rfl (.cons rfl .nil)))) (by repeat (first | exact .refl | exact subL_left | refine subL_app ?_ | refine .drop ?_ | refine subL_add ?_))
  ·
   refine X_exit ?_
   refine at_then_e ?_
   refine at_then_e ?_
   refine at_block_hit ?_
   refine at_then ?_
   refine X_seq ?_
   refine X_draw mixed (by kernel_rfl) ?_
   refine XQ_v0 (ev_move rfl) rfl rfl rfl ?_
   refine XQ_v0 (ev_move rfl) rfl rfl rfl ?_
   refine XQ_v0 (ev_lenS rfl slt_23) rfl rfl rfl ?_
   refine XQ_v0 (ev_cmp rfl rfl rfl) rfl rfl rfl ?_
   refine XQ_v0 (ev_move rfl) rfl rfl rfl ?_
   refine XQ_pushF 4 rfl rfl rfl ?_
   refine XQ_v1 (ev_move rfl) (.some rfl rfl rfl rfl gbf) rfl rfl rfl ?_
   refine XQ_v1 (ev_move rfl) (.some rfl rfl rfl rfl gbf) rfl rfl rfl ?_
   refine XQ_v1 (ev_indexSl rfl rfl slt_23 hA (fun hg => by first | omega | (simp [conj] at hg; omega))) (.some rfl rfl rfl rfl gbf) rfl rfl rfl ?_
   refine XQ_v1 (ev_load rfl sct_3 (fun hg => by first | exact Sl.get0 (k := k) hA (some_getD (d := 0) hA.len (by simp [conj] at hg; omega)) rfl | exact Sl.get hP.1 hp rfl | (repeat (first | exact Cell.here rfl | apply Cell.there | apply Cell.app)))) (.some rfl rfl rfl rfl gbf) rfl rfl rfl ?_
   refine XQ_v1 (ev_move rfl) (.some rfl rfl rfl rfl gbf) rfl rfl rfl ?_
   refine XQ_v1 (ev_move rfl) (.some rfl rfl rfl rfl gbf) rfl rfl rfl ?_
   refine XQ_v1 (ev_indexSl rfl rfl slt_22 hP.1 (fun hg => by first | omega | (simp [conj] at hg; omega))) (.some rfl rfl rfl rfl gbf) rfl rfl rfl ?_
   refine XQ_v1 (ev_fieldAddr rfl fld_53_2) (.some rfl rfl rfl rfl gbf) rfl rfl rfl ?_
   refine XQ_v1 (ev_load rfl sct_3 (fun hg => by first | exact Sl.get0 (k := k) hA (some_getD (d := 0) hA.len (by simp [conj] at hg; omega)) rfl | exact Sl.get hP.1 hp rfl | (repeat (first | exact Cell.here rfl | apply Cell.there | apply Cell.app)))) (.some rfl rfl rfl rfl gbf) rfl rfl rfl ?_
   refine XQ_v1 (ev_cmp rfl rfl rfl) (.some rfl rfl rfl rfl gbf) rfl rfl rfl ?_
   refine XQ_or0 rfl rfl rfl rfl rfl ?_
   refine XQ_nil ?_
   refine at_then ?_
   refine X_cond rfl (fun hc45 => ?_) (fun hc45 => ?_)
   ·
    have hnew := ab_new (ab_sorted _) hA.len hk hlo hc27 hc45
    have hD := HLe.refl J1
    refine X_noP ?_
    refine X_drawS J1 [] mixed ?_
    refine XD_take 1 rfl (ev_move rfl) (.none rfl) rfl rfl rfl (by kernel_rfl) (by kernel_rfl) (by kernel_rfl) noP_ok hD (by repeat (first | exact .refl | exact subL_nil | refine .keep ?_ | refine .drop ?_ | refine subL_add ?_)) ?_
    refine XD_take 2 rfl (ev_move rfl) (.none rfl) rfl rfl rfl (by kernel_rfl) (by kernel_rfl) (by kernel_rfl) noP_ok hD (by repeat (first | exact .refl | exact subL_nil | refine .keep ?_ | refine .drop ?_ | refine subL_add ?_)) ?_
    refine XD_take 3 rfl (ev_sliceHi rfl rfl slt_23 (fun hg => by first | omega | (simp [conj] at hg; omega))) (.none rfl) rfl rfl rfl (by kernel_rfl) (by kernel_rfl) (by kernel_rfl) noP_ok hD (by repeat (first | exact .refl | exact subL_nil | refine .keep ?_ | refine .drop ?_ | refine subL_add ?_)) ?_
    refine XD_take 5 rfl (ev_move rfl) (.none rfl) rfl rfl rfl (by kernel_rfl) (by kernel_rfl) (by kernel_rfl) noP_ok hD (by repeat (first | exact .refl | exact subL_nil | refine .keep ?_ | refine .drop ?_ | refine subL_add ?_)) ?_
    refine XD_take 6 rfl (ev_move rfl) (.none rfl) rfl rfl rfl (by kernel_rfl) (by kernel_rfl) (by kernel_rfl) noP_ok hD (by repeat (first | exact .refl | exact subL_nil | refine .keep ?_ | refine .drop ?_ | refine subL_add ?_)) ?_
    refine XD_take 7 rfl (ev_indexSl rfl rfl slt_22 hP.1 (fun hg => by first | omega | (simp [conj] at hg; omega))) (.none rfl) rfl rfl rfl (by kernel_rfl) (by kernel_rfl) (by kernel_rfl) noP_ok hD (by repeat (first | exact .refl | exact subL_nil | refine .keep ?_ | refine .drop ?_ | refine subL_add ?_)) ?_
    refine XD_take 8 rfl (ev_fieldAddr rfl fld_53_2) (.none rfl) rfl rfl rfl (by kernel_rfl) (by kernel_rfl) (by kernel_rfl) noP_ok hD (by repeat (first | exact .refl | exact subL_nil | refine .keep ?_ | refine .drop ?_ | refine subL_add ?_)) ?_
    refine XD_take 9 rfl (ev_load rfl sct_3 (fun hg => by first | exact Sl.get0 (k := k) hA (some_getD (d := 0) hA.len (by simp [conj] at hg; omega)) rfl | exact Sl.get hP.1 hp rfl | (repeat (first | exact Cell.here rfl | apply Cell.there | apply Cell.app)))) (.none rfl) rfl rfl rfl (by kernel_rfl) (by kernel_rfl) (by kernel_rfl) noP_ok hD (by repeat (first | exact .refl | exact subL_nil | refine .keep ?_ | refine .drop ?_ | refine subL_add ?_)) ?_
    refine XD_take 12 rfl (ev_move rfl) (.none rfl) rfl rfl rfl (by kernel_rfl) (by kernel_rfl) (by kernel_rfl) noP_ok hD (by repeat (first | exact .refl | exact subL_nil | refine .keep ?_ | refine .drop ?_ | refine subL_add ?_)) ?_
    refine XD_take 13 rfl (ev_move rfl) (.none rfl) rfl rfl rfl (by kernel_rfl) (by kernel_rfl) (by kernel_rfl) noP_ok hD (by repeat (first | exact .refl | exact subL_nil | refine .keep ?_ | refine .drop ?_ | refine subL_add ?_)) ?_
    refine XD_take 14 rfl (ev_sliceLo rfl rfl slt_23 (fun hg => by first | omega | (simp [conj] at hg; omega))) (.none rfl) rfl rfl rfl (by kernel_rfl) (by kernel_rfl) (by kernel_rfl) noP_ok hD (by repeat (first | exact .refl | exact subL_nil | refine .keep ?_ | refine .drop ?_ | refine subL_add ?_)) ?_
    refine XD_two 0 10 rfl rfl (by kernel_rfl) ?_ ?_
    ·
     refine XO_buildSlice (ps := []) (m := []) elt_23 rfl (.nil) rfl (by simp [encI_len]) (by decide) (by decide) rfl rfl (fun b_46 => ?_)
     refine XO_nil ?_
     refine at_D hD (by repeat (first | exact .refl | exact subL_nil | refine .keep ?_ | refine .drop ?_ | refine subL_add ?_)) ?_
     refine XD_two 4 10 rfl rfl (by kernel_rfl) ?_ ?_
     ·
      refine XO_append (v := _) (ys := ((abF (ps.take i)).take k).flatMap encI) (L := [(b_46, _)]) rfl rfl elt_23 OwnS.new (by repeat (first | exact .cons .here .nil | exact split_all | exact split_app | apply split_cons | apply split_skip)) ((hA.take hk).src encI_len) (one_I _) (by omega) rfl rfl ?_
      intro v1 L1 hO1 _; rw [List.nil_append, Nat.zero_add] at hO1
      refine XO_nil ?_
      refine at_D hD (by repeat (first | exact .refl | exact subL_nil | refine .keep ?_ | refine .drop ?_ | refine subL_add ?_)) ?_
      refine XD_one 10 rfl (by kernel_rfl) ?_
      refine XO_buildSlice (ps := [(0, _)]) (m := [encI p.sign]) elt_23 rfl (.cons rfl (.nil)) rfl (by simp [encI_len]) (by decide) (by decide) rfl rfl (fun b_56 => ?_)
      refine XO_nil ?_
      refine at_D hD (by repeat (first | exact .refl | exact subL_nil | refine .keep ?_ | refine .drop ?_ | refine subL_add ?_)) ?_
      refine XD_one 11 rfl (by kernel_rfl) ?_
      refine XO_append (v := _) (ys := [p.sign].flatMap encI) (L := L1) rfl rfl elt_23 hO1 (by repeat (first | exact .cons .here .nil | exact split_all | exact split_app | apply split_cons | apply split_skip)) ⟨rfl, fun _ => rfl, by repeat (first | exact Cells.here | apply Cells.there | apply Cells.app)⟩ (one_I [p.sign]) (by omega) rfl rfl ?_
      intro v2 L2 hO2 _; rw [← List.flatMap_append] at hO2
      refine XO_nil ?_
      refine at_D hD (by repeat (first | exact .refl | exact subL_nil | refine .keep ?_ | refine .drop ?_ | refine subL_add ?_)) ?_
      refine XD_one 15 rfl (by kernel_rfl) ?_
      refine XO_append (v := _) (ys := ((abF (ps.take i)).drop k).flatMap encI) (L := L2) rfl rfl elt_23 hO2 (by repeat (first | exact .cons .here .nil | exact split_all | exact split_app | apply split_cons | apply split_skip)) ((hA.drop hk).src encI_len) (one_I _) (by omega) rfl rfl ?_
      intro v3 L3 hO3 _; rw [← List.flatMap_append] at hO3
      refine XO_nil ?_
      refine at_D hD (by repeat (first | exact .refl | exact subL_nil | refine .keep ?_ | refine .drop ?_ | refine subL_add ?_)) ?_
      refine XD_take 16 rfl (ev_assign rfl) (.none rfl) rfl rfl rfl (by kernel_rfl) (by kernel_rfl) (by kernel_rfl) noP_ok hD (by repeat (first | exact .refl | exact subL_nil | refine .keep ?_ | refine .drop ?_ | refine subL_add ?_)) ?_
      refine XD_done (by kernel_rfl) ?_
      refine at_noP ?_
      refine at_freezeO hO3 encI_len (by decide) (by repeat (first | exact .cons .here .nil | exact split_all | exact split_app | apply split_cons | apply split_skip)) (fun I3 hI3 af3 cf3 ef3 hA2 => ?_)
      subst ef3
      have hP := hP.mono hI3
      have hA := hA.mono hI3
      have hIc := hIc.trans hI3
      have hB0 := hB0.trans hI3
      refine at_block_n ?_
      refine at_then ?_
      refine X_region ?_
      refine XO_v0 (ev_move rfl) rfl rfl rfl ?_
      refine XO_v0 (ev_arB rfl rfl rfl (fun _ => by omega)) rfl rfl rfl ?_
      refine XO_v0 (ev_assign rfl) rfl rfl rfl ?_
      refine XO_nil ?_
      first
      | exact at_met2 _ _ ⟨n - (i + 1), by omega, i + 1, _, _, _, rfl, rfl, hB0, rfl, by omega, by rw [ab_step hp, hnew]; exact hA2⟩ (.cons rfl (.cons rfl (.cons rfl .nil))) (by repeat (first | exact .refl | exact subL_left | refine subL_app ?_ | refine .drop ?_ | refine subL_add ?_))
     ·
      refine XO_buildSlice (ps := [(0, _)]) (m := [encI p.sign]) elt_23 rfl (.cons rfl (.nil)) rfl (by simp [encI_len]) (by decide) (by decide) rfl rfl (fun b_56 => ?_)
      refine XO_nil ?_
      refine at_D hD (by repeat (first | exact .refl | exact subL_nil | refine .keep ?_ | refine .drop ?_ | refine subL_add ?_)) ?_
      refine XD_one 4 rfl (by kernel_rfl) ?_
      refine XO_append (v := _) (ys := ((abF (ps.take i)).take k).flatMap encI) (L := [(b_46, _)]) rfl rfl elt_23 OwnS.new (by repeat (first | exact .cons .here .nil | exact split_all | exact split_app | apply split_cons | apply split_skip)) ((hA.take hk).src encI_len) (one_I _) (by omega) rfl rfl ?_
      intro v1 L1 hO1 _; rw [List.nil_append, Nat.zero_add] at hO1
      refine XO_nil ?_
      refine at_D hD (by repeat (first | exact .refl | exact subL_nil | refine .keep ?_ | refine .drop ?_ | refine subL_add ?_)) ?_
      refine XD_one 11 rfl (by kernel_rfl) ?_
      refine XO_append (v := _) (ys := [p.sign].flatMap encI) (L := L1) rfl rfl elt_23 hO1 (by repeat (first | exact .cons .here .nil | exact split_all | exact split_app | apply split_cons | apply split_skip)) ⟨rfl, fun _ => rfl, by repeat (first | exact Cells.here | apply Cells.there | apply Cells.app)⟩ (one_I [p.sign]) (by omega) rfl rfl ?_
      intro v2 L2 hO2 _; rw [← List.flatMap_append] at hO2
      refine XO_nil ?_
      refine at_D hD (by repeat (first | exact .refl | exact subL_nil | refine .keep ?_ | refine .drop ?_ | refine subL_add ?_)) ?_
      refine XD_one 15 rfl (by kernel_rfl) ?_
      refine XO_append (v := _) (ys := ((abF (ps.take i)).drop k).flatMap encI) (L := L2) rfl rfl elt_23 hO2 (by repeat (first | exact .cons .here .nil | exact split_all | exact split_app | apply split_cons | apply split_skip)) ((hA.drop hk).src encI_len) (one_I _) (by omega) rfl rfl ?_
      intro v3 L3 hO3 _; rw [← List.flatMap_append] at hO3
      refine XO_nil ?_
      refine at_D hD (by repeat (first | exact .refl | exact subL_nil | refine .keep ?_ | refine .drop ?_ | refine subL_add ?_)) ?_
      refine XD_take 16 rfl (ev_assign rfl) (.none rfl) rfl rfl rfl (by kernel_rfl) (by kernel_rfl) (by kernel_rfl) noP_ok hD (by repeat (first | exact .refl | exact subL_nil | refine .keep ?_ | refine .drop ?_ | refine subL_add ?_)) ?_
      refine XD_done (by kernel_rfl) ?_
      refine at_noP ?_
      refine at_freezeO hO3 encI_len (by decide) (by repeat (first | exact .cons .here .nil | exact split_all | exact split_app | apply split_cons | apply split_skip)) (fun I4 hI4 af4 cf4 ef4 hA2 => ?_)
      subst ef4
      have hP := hP.mono hI4
      have hA := hA.mono hI4
      have hIc := hIc.trans hI4
      have hB0 := hB0.trans hI4
      refine at_block_n ?_
      refine at_then ?_
      refine X_region ?_
      refine XO_v0 (ev_move rfl) rfl rfl rfl ?_
      refine XO_v0 (ev_arB rfl rfl rfl (fun _ => by omega)) rfl rfl rfl ?_
      refine XO_v0 (ev_assign rfl) rfl rfl rfl ?_
      refine XO_nil ?_
      first
      | exact at_met2 _ _ ⟨n - (i + 1), by omega, i + 1, _, _, _, rfl, rfl, hB0, rfl, by omega, by rw [ab_step hp, hnew]; exact hA2⟩ (.cons rfl (.cons rfl (.cons rfl .nil))) (by repeat (first | exact .refl | exact subL_left | refine subL_app ?_ | refine .drop ?_ | refine subL_add ?_))
    ·
     refine XO_buildSlice (ps := [(0, _)]) (m := [encI p.sign]) elt_23 rfl (.cons rfl (.nil)) rfl (by simp [encI_len]) (by decide) (by decide) rfl rfl (fun b_56 => ?_)
     refine XO_nil ?_
     refine at_D hD (by repeat (first | exact .refl | exact subL_nil | refine .keep ?_ | refine .drop ?_ | refine subL_add ?_)) ?_
     refine XD_one 0 rfl (by kernel_rfl) ?_
     refine XO_buildSlice (ps := []) (m := []) elt_23 rfl (.nil) rfl (by simp [encI_len]) (by decide) (by decide) rfl rfl (fun b_46 => ?_)
     refine XO_nil ?_
     refine at_D hD (by repeat (first | exact .refl | exact subL_nil | refine .keep ?_ | refine .drop ?_ | refine subL_add ?_)) ?_
     refine XD_one 4 rfl (by kernel_rfl) ?_
     refine XO_append (v := _) (ys := ((abF (ps.take i)).take k).flatMap encI) (L := [(b_46, _)]) rfl rfl elt_23 OwnS.new (by repeat (first | exact .cons .here .nil | exact split_all | exact split_app | apply split_cons | apply split_skip)) ((hA.take hk).src encI_len) (one_I _) (by omega) rfl rfl ?_
     intro v1 L1 hO1 _; rw [List.nil_append, Nat.zero_add] at hO1
     refine XO_nil ?_
     refine at_D hD (by repeat (first | exact .refl | exact subL_nil | refine .keep ?_ | refine .drop ?_ | refine subL_add ?_)) ?_
     refine XD_one 11 rfl (by kernel_rfl) ?_
     refine XO_append (v := _) (ys := [p.sign].flatMap encI) (L := L1) rfl rfl elt_23 hO1 (by repeat (first | exact .cons .here .nil | exact split_all | exact split_app | apply split_cons | apply split_skip)) ⟨rfl, fun _ => rfl, by repeat (first | exact Cells.here | apply Cells.there | apply Cells.app)⟩ (one_I [p.sign]) (by omega) rfl rfl ?_
     intro v2 L2 hO2 _; rw [← List.flatMap_append] at hO2
     refine XO_nil ?_
     refine at_D hD (by repeat (first | exact .refl | exact subL_nil | refine .keep ?_ | refine .drop ?_ | refine subL_add ?_)) ?_
     refine XD_one 15 rfl (by kernel_rfl) ?_
     refine XO_append (v := _) (ys := ((abF (ps.take i)).drop k).flatMap encI) (L := L2) rfl rfl elt_23 hO2 (by repeat (first | exact .cons .here .nil | exact split_all | exact split_app | apply split_cons | apply split_skip)) ((hA.drop hk).src encI_len) (one_I _) (by omega) rfl rfl ?_
     intro v3 L3 hO3 _; rw [← List.flatMap_append] at hO3
     refine XO_nil ?_
     refine at_D hD (by repeat (first | exact .refl | exact subL_nil | refine .keep ?_ | refine .drop ?_ | refine subL_add ?_)) ?_
     refine XD_take 16 rfl (ev_assign rfl) (.none rfl) rfl rfl rfl (by kernel_rfl) (by kernel_rfl) (by kernel_rfl) noP_ok hD (by repeat (first | exact .refl | exact subL_nil | refine .keep ?_ | refine .drop ?_ | refine subL_add ?_)) ?_
     refine XD_done (by kernel_rfl) ?_
     refine at_noP ?_
     refine at_freezeO hO3 encI_len (by decide) (by repeat (first | exact .cons .here .nil | exact split_all | exact split_app | apply split_cons | apply split_skip)) (fun I5 hI5 af5 cf5 ef5 hA2 => ?_)
     subst ef5
     have hP := hP.mono hI5
     have hA := hA.mono hI5
     have hIc := hIc.trans hI5
     have hB0 := hB0.trans hI5
     refine at_block_n ?_
     refine at_then ?_
     refine X_region ?_
     refine XO_v0 (ev_move rfl) rfl rfl rfl ?_
     refine XO_v0 (ev_arB rfl rfl rfl (fun _ => by omega)) rfl rfl rfl ?_
     refine XO_v0 (ev_assign rfl) rfl rfl rfl ?_
     refine XO_nil ?_
     first
     | exact at_met2 _ _ ⟨n - (i + 1), by omega, i + 1, _, _, _, rfl, rfl, hB0, rfl, by omega, by rw [ab_step hp, hnew]; exact hA2⟩ (.cons rfl (.cons rfl (.cons rfl .nil))) (by repeat (first | exact .refl | exact subL_left | refine subL_app ?_ | refine .drop ?_ | refine subL_add ?_))
   ·
    have hsame := ab_here hA.len hk hc45
    refine X_skip ?_
    refine at_block_n ?_
    refine at_then ?_
    refine X_region ?_
    refine XO_v0 (ev_move rfl) rfl rfl rfl ?_
    refine XO_v0 (ev_arB rfl rfl rfl (fun _ => by omega)) rfl rfl rfl ?_
    refine XO_v0 (ev_assign rfl) rfl rfl rfl ?_
    refine XO_nil ?_
    first
    | exact at_met2 _ _ ⟨n - (i + 1), by omega, i + 1, _, _, _, rfl, rfl, hB0, rfl, by omega, by rw [ab_step hp, hsame]; exact hA⟩ (.cons rfl (.cons rfl (.cons rfl .nil))) (by repeat (first | exact .refl | exact subL_left | refine subL_app ?_ | refine .drop ?_ | refine subL_add ?_))
 ·
  have hge_i : n ≤ i := by have h := hc9; simp at h; omega
  rw [take_all hP.len hge_i] at hA
  refine X_exit ?_
  refine at_then_e ?_
  refine at_then_e ?_
  refine at_block_hit ?_
  refine at_then ?_
  refine X_seq (X_region ?_)
  refine XO_v0 (ev_move rfl) rfl rfl rfl ?_
  refine XO_v0 (ev_assign rfl) rfl rfl rfl ?_
  refine XO_nil (at_then ?_)
  refine X_ret ?_
  exact at_ret1 rfl rfl (fun w hw => ⟨_, J1, [], rfl, hIc, hw.drop, by have hml := hA.len; subst hml; exact ⟨rfl, a1, c1, rfl, hA⟩⟩)
end Go.Proofs.YtccomeanpppfmaaGreat
end
section
namespace Go.Proofs.YtccomeanpppfmaaGreat
open Go Go.Kn Go.Proofs
theorem fun_16 : Fun Tryz.prog 16 := .of Tryz.func16 (by kernel_rfl) (by kernel_rfl)
theorem fun_52 : Fun Tryz.prog 52 := .of Tryz.func52 (by kernel_rfl) (by kernel_rfl)
theorem fun_54 : Fun Tryz.prog 54 := .of Tryz.func54 (by kernel_rfl) (by kernel_rfl)
theorem fun_55 : Fun Tryz.prog 55 := .of Tryz.func55 (by kernel_rfl) (by kernel_rfl)
theorem fun_57 : Fun Tryz.prog 57 := .of Tryz.func57 (by kernel_rfl) (by kernel_rfl)
theorem r_conf {I : HMap} {av : Option Addr} {n c : Nat} {ps : List Pt} (hP : SlP I av n c ps) (hn : n ≤ 1000) {bv : Option Addr} {n2 c2 : Nat} {bs : List Sg} (hB : Sl I 14 encG bv n2 c2 bs) (hn2 : n2 ≤ 1000) {dv : Option Addr} {n3 c3 : Nat} {ws : List Int} (hV : Sl I 1 encI dv n3 c3 ws) (hn3 : n3 ≤ 100000) : RetM Tryz.prog 18 [.slice av n c, .slice bv n2 c2, .slice dv n3 c3] I [] (ResC (sgnE ps bs ws) (cflF ps bs ws)) := by
 intro g H w hw
 refine enter Tryz.func18 rfl Tryz.ntmps18 rfl hw ?_
 have hIc := HLe.refl I
 refine X_seq (X_region ?_)
 refine XO_v0 (ev_assign rfl) rfl rfl rfl ?_
 refine XO_v0 (ev_assign rfl) rfl rfl rfl ?_
 refine XO_nil (at_then ?_)
 refine X_seq (X_region ?_)
 refine XO_v0 (ev_move rfl) rfl rfl rfl ?_
 refine XO_v0 (ev_move rfl) rfl rfl rfl ?_
 refine XO_v0 (ev_move rfl) rfl rfl rfl ?_
 refine XO_callM (cap := []) (vs := [_, _, _]) rfl rfl fun_16 .nil (r_sgns hP hn hB hn2 hV hn3) rfl rfl ?_
 rintro vv1 I1 L1 hI1 ⟨rfl, as9, cs9, rfl, hSg⟩
 have hP := hP.mono hI1
 have hB := hB.mono hI1
 have hV := hV.mono hI1
 have hIc := hIc.trans hI1
 refine XO_v0 (ev_move rfl) rfl rfl rfl ?_
 refine XO_v0 (ev_extract rfl rfl) rfl rfl rfl ?_
 refine XO_v0 (ev_extract rfl rfl) rfl rfl rfl ?_
 refine XO_v0 (ev_assign rfl) rfl rfl rfl ?_
 refine XO_v0 (ev_assign rfl) rfl rfl rfl ?_
 refine XO_nil (at_then ?_)
 refine X_seq ?_
 refine X_seq (X_region ?_)
 refine XO_v0 (ev_move rfl) rfl rfl rfl ?_
 refine XO_v0 (ev_cmp rfl rfl rfl) rfl rfl rfl ?_
 refine XO_nil (at_then ?_)
 refine X_cond rfl (fun hc28 => ?_) (fun hc28 => ?_)
 ·
  have hs0 : sgnE ps bs ws ≠ 0 := by simpa using hc28
  refine X_seq (X_region ?_)
  refine XO_v0 (ev_move rfl) rfl rfl rfl ?_
  refine XO_v0 (ev_assign rfl) rfl rfl rfl ?_
  refine XO_v0 (ev_assign rfl) rfl rfl rfl ?_
  refine XO_nil (at_then ?_)
  refine X_ret ?_
  refine at_then_r ?_
  first
  | exact at_ret2 rfl rfl rfl (fun w hw => ⟨_, I1, [], rfl, hIc, hw.drop, ResC.empty (by unfold cflF; exact resF_bad hs0)⟩)
 ·
  have hs0 : sgnE ps bs ws = 0 := by simpa using hc28
  have he : patE ps bs ws = 0 := Classical.byContradiction fun h => by rw [sgn_bad h] at hs0; exact h hs0
  refine X_skip ?_
  refine at_then ?_
  refine X_seq (X_region ?_)
  refine XO_v0 (ev_move rfl) rfl rfl rfl ?_
  refine XO_v0 (ev_move rfl) rfl rfl rfl ?_
  refine XO_v0 (ev_move rfl) rfl rfl rfl ?_
  refine XO_callM (cap := []) (vs := [_, _, _]) rfl rfl fun_45 .nil (r_pats hP hn hB hn2 hV hn3) rfl rfl ?_
  rintro vv2 I2 L2 hI2 ⟨rfl, a9, c9, rfl, hPl⟩
  have hP := hP.mono hI2
  have hB := hB.mono hI2
  have hV := hV.mono hI2
  have hIc := hIc.trans hI2
  generalize hml : (resF (patE ps bs ws) (verL ps ws)) = pl at hPl ⊢
  refine XO_v0 (ev_move rfl) rfl rfl rfl ?_
  refine XO_v0 (ev_extract rfl rfl) rfl rfl rfl ?_
  refine XO_v0 (ev_extract rfl rfl) rfl rfl rfl ?_
  refine XO_v0 (ev_assign rfl) rfl rfl rfl ?_
  refine XO_v0 (ev_assign rfl) rfl rfl rfl ?_
  refine XO_nil (at_then ?_)
  refine X_seq ?_
  rw [he, resF_ok rfl] at hml
  subst hml
  obtain ⟨hck, hcg, hVer, hft⟩ := pat_parts he
  have hL := chkR_lst hck
  have hLl := verL_lst hL hVer
  have hnl : (verL ps ws).length ≤ 1000 := by have := ver_few (ps := ps) (ws := ws); rw [hP.len] at this; omega
  have hnd : ∀ p ∈ verL ps ws, p.n ≤ 100000 := fun p hp => nd_chk hP hck p (mem_verL.1 hp).1
  refine X_region ?_
  refine XO_v0 (ev_move rfl) rfl rfl rfl ?_
  refine XO_callM (cap := []) (vs := [_]) rfl rfl fun_41 .nil (r_stn hPl (by omega) hLl hnd) rfl rfl ?_
  rintro vv3 I3 L3 hI3 ⟨rfl, ao, co, rfl, hM⟩
  have hP := hP.mono hI3
  have hB := hB.mono hI3
  have hV := hV.mono hI3
  have hPl := hPl.mono hI3
  have hIc := hIc.trans hI3
  refine XO_v0 (ev_assign rfl) rfl rfl rfl ?_
  refine XO_nil (at_then ?_)
  refine X_seq (X_region ?_)
  refine XO_v0 (ev_move rfl) rfl rfl rfl ?_
  refine XO_callM (cap := []) (vs := [_]) rfl rfl fun_52 .nil (r_ab hPl (by omega)) rfl rfl ?_
  rintro vv4 I4 L4 hI4 ⟨rfl, a7, c7, rfl, hAb⟩
  have hP := hP.mono hI4
  have hB := hB.mono hI4
  have hV := hV.mono hI4
  have hPl := hPl.mono hI4
  have hM := hM.mono hI4
  have hIc := hIc.trans hI4
  have hal := ab_len (ps := (verL ps ws)) (k := (verL ps ws).length)
  rw [List.take_length] at hal
  refine XO_v0 (ev_assign rfl) rfl rfl rfl ?_
  refine XO_nil (at_then ?_)
  refine X_seq (X_region ?_)
  refine XO_v0 (ev_assign rfl) rfl rfl rfl ?_
  refine XO_nil (at_then ?_)
  refine X_seq ?_
  refine X_seq (X_region ?_)
  refine XO_v0 (ev_assign rfl) rfl rfl rfl ?_
  refine XO_nil (at_then ?_)
  refine X_block ?_
  refine X_loopT [(10, _), (12, _), (13, _)] (.cons rfl (.cons rfl (.cons rfl .nil))) (fun T L0 mz E I' loc' => ∃ (i : Nat) (v : Value) (q : Nat) (cs : List Cf) (L : Go.Kn.Loc), mz = (abF (verL ps ws)).length - i ∧ E = (14, v) :: (15, .int .i64 i) :: T ∧ HLe I4 I' ∧ L = loc' ∧ i ≤ (abF (verL ps ws)).length ∧ OwnS 60 3 v q (cs.flatMap encC) L ∧ q ≤ i * 10 ∧ CsQ I' cs (((abF (verL ps ws)).take i).flatMap (cfS (onF (verL ps ws)) (verL ps ws)))) _ _ _ _ ⟨0, _, 0, [], [], rfl, rfl, HLe.refl _, rfl, Nat.zero_le _, OwnS.nil, Nat.zero_le _, CsQ.nil⟩ (.cons rfl (.cons rfl (.cons rfl (.cons rfl (.cons rfl .nil))))) (HLe.refl _) rfl ?_
  rintro mz E J5 loc' ⟨i, v, q, cs, L, rfl, rfl, hJ, rfl, hi, hO, hq, hcs⟩
  have hP := hP.mono hJ
  have hB := hB.mono hJ
  have hV := hV.mono hJ
  have hPl := hPl.mono hJ
  have hM := hM.mono hJ
  have hAb := hAb.mono hJ
  have hIc := hIc.trans hJ
  have hB0 := hJ
  refine X_seq ?_
  refine X_seq (X_region ?_)
  refine XO_v0 (ev_move rfl) rfl rfl rfl ?_
  refine XO_v0 (ev_move rfl) rfl rfl rfl ?_
  refine XO_v0 (ev_lenS rfl slt_23) rfl rfl rfl ?_
  refine XO_v0 (ev_cmp rfl rfl rfl) rfl rfl rfl ?_
  refine XO_nil (at_then ?_)
  refine X_cond rfl (fun hc44 => ?_) (fun hc44 => ?_)
  ·
   have hlt_i : i < (abF (verL ps ws)).length := by have h := hc44; simp at h; omega
   obtain ⟨x, hx⟩ := hAb.at hlt_i
   refine X_skip ?_
   refine at_then ?_
   refine X_seq ?_
   refine X_block ?_
   refine X_seq (X_region ?_)
   refine XO_v0 (ev_move rfl) rfl rfl rfl ?_
   refine XO_v0 (ev_move rfl) rfl rfl rfl ?_
   refine XO_v0 (ev_move rfl) rfl rfl rfl ?_
   refine XO_v0 (ev_move rfl) rfl rfl rfl ?_
   refine XO_v0 (ev_indexSl rfl rfl slt_23 hAb (fun hg => by first | omega | (simp [conj] at hg; omega))) rfl rfl rfl ?_
   refine XO_v0 (ev_load rfl sct_3 (fun hg => by first | exact Sl.get0 hAb hx rfl | (repeat (first | exact Cell.here rfl | apply Cell.there | apply Cell.app)))) rfl rfl rfl ?_
   refine XO_callM (cap := []) (vs := [_, _, _]) rfl rfl fun_53 .nil (r_uns hPl (by omega) hM x) rfl rfl ?_
   rintro vv6 I6 L6 hI6 ⟨rfl, a1, c1, a2, c2, rfl, hS1, hS2⟩
   have hP := hP.mono hI6
   have hB := hB.mono hI6
   have hV := hV.mono hI6
   have hPl := hPl.mono hI6
   have hM := hM.mono hI6
   have hAb := hAb.mono hI6
   have hcs := hcs.mono hI6
   have hIc := hIc.trans hI6
   have hB0 := hB0.trans hI6
   have hl1 := ix_len (ps := (verL ps ws)) (P := seP (verL ps ws) x) (k := (verL ps ws).length)
   have hl2 := ix_len (ps := (verL ps ws)) (P := rmP x) (k := (verL ps ws).length)
   refine XO_v0 (ev_move rfl) rfl rfl rfl ?_
   refine XO_v0 (ev_extract rfl rfl) rfl rfl rfl ?_
   refine XO_v0 (ev_extract rfl rfl) rfl rfl rfl ?_
   refine XO_v0 (ev_assign rfl) rfl rfl rfl ?_
   refine XO_v0 (ev_assign rfl) rfl rfl rfl ?_
   refine XO_nil (at_then ?_)
   refine X_cutT [(10, _), (12, _), (13, _), (15, _)] (.cons rfl (.cons rfl (.cons rfl (.cons rfl .nil)))) (fun T L0 E I' loc' => ∃ (v : Value) (q : Nat) (cs : List Cf) (L : Go.Kn.Loc), E = (14, v) :: T ∧ HLe I6 I' ∧ L = loc' ∧ OwnS 60 3 v q (cs.flatMap encC) L ∧ q ≤ i * 10 + 1 ∧ CsQ I' cs (((abF (verL ps ws)).take i).flatMap (cfS (onF (verL ps ws)) (verL ps ws)) ++ cf0 (onF (verL ps ws)) (verL ps ws) x)) ?_ ?_
   ·
    have hKc12 := HLe.refl I6
    refine X_seq (X_region ?_)
    refine XO_v0 (ev_move rfl) rfl rfl rfl ?_
    refine XO_v0 (ev_lenS rfl slt_23) rfl rfl rfl ?_
    refine XO_v0 (ev_cmp rfl rfl rfl) rfl rfl rfl ?_
    refine XO_nil (at_then ?_)
    refine X_cond rfl (fun hc59 => ?_) (fun hc59 => ?_)
    ·
     have hD := HLe.refl I6
     refine X_noP ?_
     refine X_drawS I6 [] mixed ?_
     refine XD_take 0 rfl (ev_move rfl) (.none rfl) rfl rfl rfl (by kernel_rfl) (by kernel_rfl) (by kernel_rfl) noP_ok hD (by repeat (first | exact .refl | exact subL_nil | refine .keep ?_ | refine .drop ?_ | refine subL_add ?_)) ?_
     refine XD_take 1 rfl (ev_move rfl) (.none rfl) rfl rfl rfl (by kernel_rfl) (by kernel_rfl) (by kernel_rfl) noP_ok hD (by repeat (first | exact .refl | exact subL_nil | refine .keep ?_ | refine .drop ?_ | refine subL_add ?_)) ?_
     refine XD_take 2 rfl (ev_move rfl) (.none rfl) rfl rfl rfl (by kernel_rfl) (by kernel_rfl) (by kernel_rfl) noP_ok hD (by repeat (first | exact .refl | exact subL_nil | refine .keep ?_ | refine .drop ?_ | refine subL_add ?_)) ?_
     refine XD_take 3 rfl (ev_indexSl rfl rfl slt_23 hAb (fun hg => by first | omega | (simp [conj] at hg; omega))) (.none rfl) rfl rfl rfl (by kernel_rfl) (by kernel_rfl) (by kernel_rfl) noP_ok hD (by repeat (first | exact .refl | exact subL_nil | refine .keep ?_ | refine .drop ?_ | refine subL_add ?_)) ?_
     refine XD_take 4 rfl (ev_load rfl sct_3 (fun hg => by first | exact Sl.get0 hAb hx rfl | (repeat (first | exact Cell.here rfl | apply Cell.there | apply Cell.app)))) (.none rfl) rfl rfl rfl (by kernel_rfl) (by kernel_rfl) (by kernel_rfl) noP_ok hD (by repeat (first | exact .refl | exact subL_nil | refine .keep ?_ | refine .drop ?_ | refine subL_add ?_)) ?_
     refine XD_take 5 rfl (ev_move rfl) (.none rfl) rfl rfl rfl (by kernel_rfl) (by kernel_rfl) (by kernel_rfl) noP_ok hD (by repeat (first | exact .refl | exact subL_nil | refine .keep ?_ | refine .drop ?_ | refine subL_add ?_)) ?_
     refine XD_take 6 rfl (ev_move rfl) (.none rfl) rfl rfl rfl (by kernel_rfl) (by kernel_rfl) (by kernel_rfl) noP_ok hD (by repeat (first | exact .refl | exact subL_nil | refine .keep ?_ | refine .drop ?_ | refine subL_add ?_)) ?_
     refine XD_take 8 rfl (ev_move rfl) (.none rfl) rfl rfl rfl (by kernel_rfl) (by kernel_rfl) (by kernel_rfl) noP_ok hD (by repeat (first | exact .refl | exact subL_nil | refine .keep ?_ | refine .drop ?_ | refine subL_add ?_)) ?_
     refine XD_take 9 rfl (ev_move rfl) (.none rfl) rfl rfl rfl (by kernel_rfl) (by kernel_rfl) (by kernel_rfl) noP_ok hD (by repeat (first | exact .refl | exact subL_nil | refine .keep ?_ | refine .drop ?_ | refine subL_add ?_)) ?_
     refine XD_one 7 rfl (by kernel_rfl) ?_
     refine XO_callM (cap := []) (vs := [_, _]) rfl rfl fun_55 .nil (r_named hPl (by omega) hS1) rfl rfl ?_
     rintro vv7 I7 L7 hI7 ⟨rfl, an1, cn1, rfl, hN1⟩
     have hP := hP.mono hI7
     have hB := hB.mono hI7
     have hV := hV.mono hI7
     have hPl := hPl.mono hI7
     have hM := hM.mono hI7
     have hAb := hAb.mono hI7
     have hcs := hcs.mono hI7
     have hS1 := hS1.mono hI7
     have hS2 := hS2.mono hI7
     have hIc := hIc.trans hI7
     have hB0 := hB0.trans hI7
     have hKc12 := hKc12.trans hI7
     have hD := hD.trans hI7
     refine XO_nil ?_
     refine at_D hD (by repeat (first | exact .refl | exact subL_nil | refine .keep ?_ | refine .drop ?_ | refine subL_add ?_)) ?_
     refine XD_one 10 rfl (by kernel_rfl) ?_
     refine XO_callM (cap := []) (vs := [_, _]) rfl rfl fun_55 .nil (r_named hPl (by omega) hS2) rfl rfl ?_
     rintro vv8 I8 L8 hI8 ⟨rfl, an2, cn2, rfl, hN2⟩
     have hP := hP.mono hI8
     have hB := hB.mono hI8
     have hV := hV.mono hI8
     have hPl := hPl.mono hI8
     have hM := hM.mono hI8
     have hAb := hAb.mono hI8
     have hcs := hcs.mono hI8
     have hS1 := hS1.mono hI8
     have hS2 := hS2.mono hI8
     have hN1 := hN1.mono hI8
     have hIc := hIc.trans hI8
     have hB0 := hB0.trans hI8
     have hKc12 := hKc12.trans hI8
     have hD := hD.trans hI8
     refine XO_nil ?_
     refine at_D hD (by repeat (first | exact .refl | exact subL_nil | refine .keep ?_ | refine .drop ?_ | refine subL_add ?_)) ?_
     refine XD_one 11 rfl (by kernel_rfl) ?_
     refine XO_callM (cap := []) (vs := [_, _]) rfl rfl fun_54 .nil (r_both2 hN1 (by rw [List.length_map]; have := List.length_filter_le (seP (verL ps ws) x) (verL ps ws); omega) hN2 (by rw [List.length_map]; have := List.length_filter_le (rmP x) (verL ps ws); omega)) rfl rfl ?_
     rintro vv9 I9 L9 hI9 ⟨rfl, avu, cu, rfl, hU⟩
     have hP := hP.mono hI9
     have hB := hB.mono hI9
     have hV := hV.mono hI9
     have hPl := hPl.mono hI9
     have hM := hM.mono hI9
     have hAb := hAb.mono hI9
     have hcs := hcs.mono hI9
     have hS1 := hS1.mono hI9
     have hS2 := hS2.mono hI9
     have hN1 := hN1.mono hI9
     have hN2 := hN2.mono hI9
     have hIc := hIc.trans hI9
     have hB0 := hB0.trans hI9
     have hKc12 := hKc12.trans hI9
     have hD := hD.trans hI9
     refine XO_nil ?_
     refine at_D hD (by repeat (first | exact .refl | exact subL_nil | refine .keep ?_ | refine .drop ?_ | refine subL_add ?_)) ?_
     refine XD_take 12 rfl (ev_buildL (ps := [(0, _), (2, _)]) [_, _, _] plt_60 rfl rfl) (.none rfl) rfl rfl rfl (by kernel_rfl) (by kernel_rfl) (by kernel_rfl) noP_ok hD (by repeat (first | exact .refl | exact subL_nil | refine .keep ?_ | refine .drop ?_ | refine subL_add ?_)) ?_
     refine XD_one 13 rfl (by kernel_rfl) ?_
     refine XO_buildSlice (ps := [(0, _)]) (m := [encC (⟨x, 0, avu, (bothF (((verL ps ws).filter (seP (verL ps ws) x)).map (·.id)) (((verL ps ws).filter (rmP x)).map (·.id))).length, cu, (bothF (((verL ps ws).filter (seP (verL ps ws) x)).map (·.id)) (((verL ps ws).filter (rmP x)).map (·.id)))⟩ : Cf)]) elt_36 rfl (.cons rfl (.nil)) rfl (by simp [encC_len]) (by decide) (by decide) rfl rfl (fun b_73 => ?_)
     refine XO_nil ?_
     refine at_D hD (by repeat (first | exact .refl | exact subL_nil | refine .keep ?_ | refine .drop ?_ | refine subL_add ?_)) ?_
     refine XD_one 14 rfl (by kernel_rfl) ?_
     refine XO_append (v := _) (ys := [(⟨x, 0, avu, (bothF (((verL ps ws).filter (seP (verL ps ws) x)).map (·.id)) (((verL ps ws).filter (rmP x)).map (·.id))).length, cu, (bothF (((verL ps ws).filter (seP (verL ps ws) x)).map (·.id)) (((verL ps ws).filter (rmP x)).map (·.id)))⟩ : Cf)].flatMap encC) (L := L) rfl rfl elt_36 hO (by repeat (first | exact .cons .here .nil | exact split_all | exact split_app | apply split_cons | apply split_skip)) ⟨rfl, fun _ => rfl, Cells.here⟩ (one_C [(⟨x, 0, avu, (bothF (((verL ps ws).filter (seP (verL ps ws) x)).map (·.id)) (((verL ps ws).filter (rmP x)).map (·.id))).length, cu, (bothF (((verL ps ws).filter (seP (verL ps ws) x)).map (·.id)) (((verL ps ws).filter (rmP x)).map (·.id)))⟩ : Cf)]) (by omega) rfl rfl ?_
     intro v9 L9 hO9 _; rw [← List.flatMap_append] at hO9
     refine XO_nil ?_
     refine at_D hD (by repeat (first | exact .refl | exact subL_nil | refine .keep ?_ | refine .drop ?_ | refine subL_add ?_)) ?_
     refine XD_take 15 rfl (ev_assign rfl) (.none rfl) rfl rfl rfl (by kernel_rfl) (by kernel_rfl) (by kernel_rfl) noP_ok hD (by repeat (first | exact .refl | exact subL_nil | refine .keep ?_ | refine .drop ?_ | refine subL_add ?_)) ?_
     refine XD_done (by kernel_rfl) ?_
     refine at_noP ?_
     first
     | exact at_met2 _ _ ⟨v9, _, _, L9, rfl, hKc12, rfl, hO9, by omega, (hcs.snoc (z := (⟨x, 0, avu, (bothF (((verL ps ws).filter (seP (verL ps ws) x)).map (·.id)) (((verL ps ws).filter (rmP x)).map (·.id))).length, cu, (bothF (((verL ps ws).filter (seP (verL ps ws) x)).map (·.id)) (((verL ps ws).filter (rmP x)).map (·.id)))⟩ : Cf)) hU).congr (by rw [cf0_y hLl rfl hc59]; rfl)⟩ (.cons rfl (.cons rfl (.cons rfl (.cons rfl (.cons rfl .nil))))) (by repeat (first | exact .refl | exact subL_left | refine subL_app ?_ | refine .drop ?_ | refine subL_add ?_))
    ·
     refine X_skip ?_
     exact at_met2 _ _ ⟨_, _, _, _, rfl, hKc12, rfl, hO, by omega, hcs.congr (by rw [cf0_n rfl hc59, List.append_nil])⟩ (.cons rfl (.cons rfl (.cons rfl (.cons rfl (.cons rfl .nil))))) (by repeat (first | exact .refl | exact subL_left | refine subL_app ?_ | refine .drop ?_ | refine subL_add ?_))
   ·
    rintro E J10 loc' ⟨v, q, cs, L, rfl, hJc, rfl, hO, hq, hcs1⟩
    have hP := hP.mono hJc
    have hB := hB.mono hJc
    have hV := hV.mono hJc
    have hPl := hPl.mono hJc
    have hM := hM.mono hJc
    have hAb := hAb.mono hJc
    have hcs := hcs.mono hJc
    have hS1 := hS1.mono hJc
    have hS2 := hS2.mono hJc
    have hIc := hIc.trans hJc
    have hB0 := hB0.trans hJc
    refine X_seq (X_region ?_)
    refine XO_v0 (ev_assign rfl) rfl rfl rfl ?_
    refine XO_nil (at_then ?_)
    refine X_block ?_
    refine X_loopT [(10, _), (12, _), (13, _), (15, _)] (.cons rfl (.cons rfl (.cons rfl (.cons rfl .nil)))) (fun T L0 mz E I' loc' => ∃ (k : Nat) (v : Value) (q : Nat) (cs : List Cf) (L : Go.Kn.Loc), mz = 9 - k ∧ E = (14, v) :: (18, .int .i64 ((k : Int) + 1)) :: T ∧ HLe J10 I' ∧ L = loc' ∧ k ≤ 9 ∧ OwnS 60 3 v q (cs.flatMap encC) L ∧ q ≤ i * 10 + 1 + k ∧ CsQ I' cs ((((abF (verL ps ws)).take i).flatMap (cfS (onF (verL ps ws)) (verL ps ws)) ++ cf0 (onF (verL ps ws)) (verL ps ws) x) ++ cfR (onF (verL ps ws)) (verL ps ws) x k)) _ _ _ _ ⟨0, v, q, cs, L, rfl, rfl, HLe.refl _, rfl, Nat.zero_le _, hO, hq, hcs1.congr (by rw [show cfR (onF (verL ps ws)) (verL ps ws) x 0 = [] from rfl, List.append_nil])⟩ (.cons rfl (.cons rfl (.cons rfl (.cons rfl (.cons rfl (.cons rfl .nil)))))) (HLe.refl _) rfl ?_
    rintro mz E J11 loc' ⟨k, v, q, cs, L, rfl, rfl, hJ, rfl, hk, hO, hq, hcs2⟩
    have hP := hP.mono hJ
    have hB := hB.mono hJ
    have hV := hV.mono hJ
    have hPl := hPl.mono hJ
    have hM := hM.mono hJ
    have hAb := hAb.mono hJ
    have hcs := hcs.mono hJ
    have hS1 := hS1.mono hJ
    have hS2 := hS2.mono hJ
    have hcs1 := hcs1.mono hJ
    have hIc := hIc.trans hJ
    have hB0 := hB0.trans hJ
    have hB2 := hJ
    refine X_seq ?_
    refine X_seq (X_region ?_)
    refine XO_v0 (ev_move rfl) rfl rfl rfl ?_
    refine XO_v0 (ev_cmp rfl rfl rfl) rfl rfl rfl ?_
    refine XO_v0 (ev_move rfl) rfl rfl rfl ?_
    refine XO_pushT 2 rfl rfl rfl ?_
    refine XO_v1 (ev_move rfl) (.some rfl rfl rfl rfl gbt) rfl rfl rfl ?_
    refine XO_v1 (ev_move rfl) (.some rfl rfl rfl rfl gbt) rfl rfl rfl ?_
    refine XO_v1 (ev_move rfl) (.some rfl rfl rfl rfl gbt) rfl rfl rfl ?_
    refine XO_v1 (ev_move rfl) (.some rfl rfl rfl rfl gbt) rfl rfl rfl ?_
    refine XO_v1 (ev_indexSl rfl rfl slt_23 hAb (fun hg => by first | omega | (simp [conj] at hg; omega))) (.some rfl rfl rfl rfl gbt) rfl rfl rfl ?_
    refine XO_v1 (ev_load rfl sct_3 (fun hg => by first | exact Sl.get0 hAb hx rfl | (repeat (first | exact Cell.here rfl | apply Cell.there | apply Cell.app)))) (.some rfl rfl rfl rfl gbt) rfl rfl rfl ?_
    refine XO_callV1 (cap := []) (vs := [_, _, _]) rfl rfl fun_47 (fun hg => r_ex hPl (by omega) hM x) (.some rfl rfl rfl rfl gbt) rfl rfl ?_
    refine XO_and0 rfl rfl rfl rfl rfl ?_
    refine XO_nil (at_then ?_)
    refine X_cond rfl (fun hc85 => ?_) (fun hc85 => ?_)
    ·
     have hex := ((Bool.and_eq_true _ _).mp hc85).2
     have hlt_k : k < 9 := by have h := ((Bool.and_eq_true _ _).mp hc85).1; simp at h; omega
     refine X_skip ?_
     refine at_then ?_
     refine X_seq ?_
     refine X_block ?_
     refine X_seq (X_region ?_)
     refine XO_v0 (ev_move rfl) rfl rfl rfl ?_
     refine XO_v0 (ev_move rfl) rfl rfl rfl ?_
     refine XO_v0 (ev_move rfl) rfl rfl rfl ?_
     refine XO_v0 (ev_move rfl) rfl rfl rfl ?_
     refine XO_v0 (ev_indexSl rfl rfl slt_23 hAb (fun hg => by first | omega | (simp [conj] at hg; omega))) rfl rfl rfl ?_
     refine XO_v0 (ev_load rfl sct_3 (fun hg => by first | exact Sl.get0 hAb hx rfl | (repeat (first | exact Cell.here rfl | apply Cell.there | apply Cell.app)))) rfl rfl rfl ?_
     refine XO_v0 (ev_move rfl) rfl rfl rfl ?_
     refine XO_callM (cap := []) (vs := [_, _, _, _]) rfl rfl fun_56 .nil (r_lat hPl (by omega) hM x _) rfl rfl ?_
     rintro vv12 I12 L12 hI12 ⟨rfl, al, cl, rfl, hLx⟩
     have hP := hP.mono hI12
     have hB := hB.mono hI12
     have hV := hV.mono hI12
     have hPl := hPl.mono hI12
     have hM := hM.mono hI12
     have hAb := hAb.mono hI12
     have hcs := hcs.mono hI12
     have hS1 := hS1.mono hI12
     have hS2 := hS2.mono hI12
     have hcs1 := hcs1.mono hI12
     have hcs2 := hcs2.mono hI12
     have hIc := hIc.trans hI12
     have hB0 := hB0.trans hI12
     have hB2 := hB2.trans hI12
     refine XO_v0 (ev_assign rfl) rfl rfl rfl ?_
     refine XO_nil (at_then ?_)
     refine X_seq (X_region ?_)
     refine XO_v0 (ev_move rfl) rfl rfl rfl ?_
     refine XO_v0 (ev_move rfl) rfl rfl rfl ?_
     refine XO_callV0 (cap := []) (vs := [_, _]) rfl rfl fun_57 (r_dif hPl (by omega) hLx) rfl rfl ?_
     refine XO_nil (at_then ?_)
     refine X_cond rfl (fun hc98 => ?_) (fun hc98 => ?_)
     ·
      have hdf : difB (latF (onF (verL ps ws)) (verL ps ws) x ((k : Int) + 1)) = true := by rw [la_eq]; exact hc98
      have hD := HLe.refl I12
      refine X_noP ?_
      refine X_drawS I12 [] mixed ?_
      refine XD_take 0 rfl (ev_move rfl) (.none rfl) rfl rfl rfl (by kernel_rfl) (by kernel_rfl) (by kernel_rfl) noP_ok hD (by repeat (first | exact .refl | exact subL_nil | refine .keep ?_ | refine .drop ?_ | refine subL_add ?_)) ?_
      refine XD_take 1 rfl (ev_move rfl) (.none rfl) rfl rfl rfl (by kernel_rfl) (by kernel_rfl) (by kernel_rfl) noP_ok hD (by repeat (first | exact .refl | exact subL_nil | refine .keep ?_ | refine .drop ?_ | refine subL_add ?_)) ?_
      refine XD_take 2 rfl (ev_move rfl) (.none rfl) rfl rfl rfl (by kernel_rfl) (by kernel_rfl) (by kernel_rfl) noP_ok hD (by repeat (first | exact .refl | exact subL_nil | refine .keep ?_ | refine .drop ?_ | refine subL_add ?_)) ?_
      refine XD_take 3 rfl (ev_indexSl rfl rfl slt_23 hAb (fun hg => by first | omega | (simp [conj] at hg; omega))) (.none rfl) rfl rfl rfl (by kernel_rfl) (by kernel_rfl) (by kernel_rfl) noP_ok hD (by repeat (first | exact .refl | exact subL_nil | refine .keep ?_ | refine .drop ?_ | refine subL_add ?_)) ?_
      refine XD_take 4 rfl (ev_load rfl sct_3 (fun hg => by first | exact Sl.get0 hAb hx rfl | (repeat (first | exact Cell.here rfl | apply Cell.there | apply Cell.app)))) (.none rfl) rfl rfl rfl (by kernel_rfl) (by kernel_rfl) (by kernel_rfl) noP_ok hD (by repeat (first | exact .refl | exact subL_nil | refine .keep ?_ | refine .drop ?_ | refine subL_add ?_)) ?_
      refine XD_take 5 rfl (ev_move rfl) (.none rfl) rfl rfl rfl (by kernel_rfl) (by kernel_rfl) (by kernel_rfl) noP_ok hD (by repeat (first | exact .refl | exact subL_nil | refine .keep ?_ | refine .drop ?_ | refine subL_add ?_)) ?_
      refine XD_take 6 rfl (ev_move rfl) (.none rfl) rfl rfl rfl (by kernel_rfl) (by kernel_rfl) (by kernel_rfl) noP_ok hD (by repeat (first | exact .refl | exact subL_nil | refine .keep ?_ | refine .drop ?_ | refine subL_add ?_)) ?_
      refine XD_take 7 rfl (ev_move rfl) (.none rfl) rfl rfl rfl (by kernel_rfl) (by kernel_rfl) (by kernel_rfl) noP_ok hD (by repeat (first | exact .refl | exact subL_nil | refine .keep ?_ | refine .drop ?_ | refine subL_add ?_)) ?_
      refine XD_one 8 rfl (by kernel_rfl) ?_
      refine XO_callM (cap := []) (vs := [_, _]) rfl rfl fun_55 .nil (r_named hPl (by omega) hLx) rfl rfl ?_
      rintro vv13 I13 L13 hI13 ⟨rfl, avn, cn, rfl, hN⟩
      have hP := hP.mono hI13
      have hB := hB.mono hI13
      have hV := hV.mono hI13
      have hPl := hPl.mono hI13
      have hM := hM.mono hI13
      have hAb := hAb.mono hI13
      have hcs := hcs.mono hI13
      have hS1 := hS1.mono hI13
      have hS2 := hS2.mono hI13
      have hcs1 := hcs1.mono hI13
      have hcs2 := hcs2.mono hI13
      have hLx := hLx.mono hI13
      have hIc := hIc.trans hI13
      have hB0 := hB0.trans hI13
      have hB2 := hB2.trans hI13
      have hD := hD.trans hI13
      refine XO_nil ?_
      refine at_D hD (by repeat (first | exact .refl | exact subL_nil | refine .keep ?_ | refine .drop ?_ | refine subL_add ?_)) ?_
      refine XD_take 9 rfl (ev_buildL (ps := [(0, _), (1, _), (2, _)]) [_, _, _] plt_60 rfl rfl) (.none rfl) rfl rfl rfl (by kernel_rfl) (by kernel_rfl) (by kernel_rfl) noP_ok hD (by repeat (first | exact .refl | exact subL_nil | refine .keep ?_ | refine .drop ?_ | refine subL_add ?_)) ?_
      refine XD_one 10 rfl (by kernel_rfl) ?_
      refine XO_buildSlice (ps := [(0, _)]) (m := [encC (⟨x, (k : Int) + 1, avn, (((verL ps ws).filter (laP (verL ps ws) x ((k : Int) + 1))).map (·.id)).length, cn, (((verL ps ws).filter (laP (verL ps ws) x ((k : Int) + 1))).map (·.id))⟩ : Cf)]) elt_36 rfl (.cons rfl (.nil)) rfl (by simp [encC_len]) (by decide) (by decide) rfl rfl (fun b_109 => ?_)
      refine XO_nil ?_
      refine at_D hD (by repeat (first | exact .refl | exact subL_nil | refine .keep ?_ | refine .drop ?_ | refine subL_add ?_)) ?_
      refine XD_one 11 rfl (by kernel_rfl) ?_
      refine XO_append (v := _) (ys := [(⟨x, (k : Int) + 1, avn, (((verL ps ws).filter (laP (verL ps ws) x ((k : Int) + 1))).map (·.id)).length, cn, (((verL ps ws).filter (laP (verL ps ws) x ((k : Int) + 1))).map (·.id))⟩ : Cf)].flatMap encC) (L := L) rfl rfl elt_36 hO (by repeat (first | exact .cons .here .nil | exact split_all | exact split_app | apply split_cons | apply split_skip)) ⟨rfl, fun _ => rfl, Cells.here⟩ (one_C [(⟨x, (k : Int) + 1, avn, (((verL ps ws).filter (laP (verL ps ws) x ((k : Int) + 1))).map (·.id)).length, cn, (((verL ps ws).filter (laP (verL ps ws) x ((k : Int) + 1))).map (·.id))⟩ : Cf)]) (by omega) rfl rfl ?_
      intro v7 L7 hO7 _; rw [← List.flatMap_append] at hO7
      refine XO_nil ?_
      refine at_D hD (by repeat (first | exact .refl | exact subL_nil | refine .keep ?_ | refine .drop ?_ | refine subL_add ?_)) ?_
      refine XD_take 12 rfl (ev_assign rfl) (.none rfl) rfl rfl rfl (by kernel_rfl) (by kernel_rfl) (by kernel_rfl) noP_ok hD (by repeat (first | exact .refl | exact subL_nil | refine .keep ?_ | refine .drop ?_ | refine subL_add ?_)) ?_
      refine XD_done (by kernel_rfl) ?_
      refine at_noP ?_
      refine at_block_n ?_
      refine at_then ?_
      refine X_region ?_
      refine XO_v0 (ev_move rfl) rfl rfl rfl ?_
      refine XO_v0 (ev_arB rfl rfl rfl (fun _ => by omega)) rfl rfl rfl ?_
      refine XO_v0 (ev_assign rfl) rfl rfl rfl ?_
      refine XO_nil ?_
      first
      | exact at_met2 _ _ ⟨9 - (k + 1), by omega, k + 1, _, _, _, _, rfl, rfl, hB2, rfl, by omega, hO7, by omega, (hcs2.snoc (z := (⟨x, (k : Int) + 1, avn, (((verL ps ws).filter (laP (verL ps ws) x ((k : Int) + 1))).map (·.id)).length, cn, (((verL ps ws).filter (laP (verL ps ws) x ((k : Int) + 1))).map (·.id))⟩ : Cf)) hN).congr (by rw [cfR_next, cfK_yes hex hdf, la_eq]; simp only [List.append_assoc]; rfl)⟩ (.cons rfl (.cons rfl (.cons rfl (.cons rfl (.cons rfl (.cons rfl .nil)))))) (by repeat (first | exact .refl | exact subL_left | refine subL_app ?_ | refine .drop ?_ | refine subL_add ?_))
     ·
      have hdf : difB (latF (onF (verL ps ws)) (verL ps ws) x ((k : Int) + 1)) = false := by rw [la_eq]; exact hc98
      refine X_skip ?_
      refine at_block_n ?_
      refine at_then ?_
      refine X_region ?_
      refine XO_v0 (ev_move rfl) rfl rfl rfl ?_
      refine XO_v0 (ev_arB rfl rfl rfl (fun _ => by omega)) rfl rfl rfl ?_
      refine XO_v0 (ev_assign rfl) rfl rfl rfl ?_
      refine XO_nil ?_
      first
      | exact at_met2 _ _ ⟨9 - (k + 1), by omega, k + 1, _, _, _, _, rfl, rfl, hB2, rfl, by omega, hO, by omega, hcs2.congr (by rw [cfR_next, cfK_no hdf]; simp)⟩ (.cons rfl (.cons rfl (.cons rfl (.cons rfl (.cons rfl (.cons rfl .nil)))))) (by repeat (first | exact .refl | exact subL_left | refine subL_app ?_ | refine .drop ?_ | refine subL_add ?_))
    ·
     have hend := hc85
     refine X_exit ?_
     refine at_then_e ?_
     refine at_then_e ?_
     refine at_block_hit ?_
     refine at_block_n ?_
     refine at_then ?_
     refine X_region ?_
     refine XO_v0 (ev_move rfl) rfl rfl rfl ?_
     refine XO_v0 (ev_arB rfl rfl rfl (fun _ => by omega)) rfl rfl rfl ?_
     refine XO_v0 (ev_assign rfl) rfl rfl rfl ?_
     refine XO_nil ?_
     exact at_met2 _ _ ⟨(abF (verL ps ws)).length - (i + 1), by omega, i + 1, _, _, _, _, rfl, rfl, hB0, rfl, by omega, hO, by omega, hcs2.congr (by rw [flat_next hx, ← cfS_end hk hend]; simp only [List.append_assoc])⟩ (.cons rfl (.cons rfl (.cons rfl (.cons rfl (.cons rfl .nil))))) (by repeat (first | exact .refl | exact subL_left | refine subL_app ?_ | refine .drop ?_ | refine subL_add ?_))
  ·
   have hge_i : (abF (verL ps ws)).length ≤ i := by have h := hc44; simp at h; omega
   rw [take_all rfl hge_i, ← cfl_made hs0 he] at hcs
   refine X_exit ?_
   refine at_then_e ?_
   refine at_then_e ?_
   refine at_block_hit ?_
   refine at_then ?_
   refine X_seq (X_region ?_)
   refine XO_v0 (ev_move rfl) rfl rfl rfl ?_
   refine XO_v0 (ev_assign rfl) rfl rfl rfl ?_
   refine XO_v0 (ev_assign rfl) rfl rfl rfl ?_
   refine XO_nil (at_then ?_)
   refine X_ret ?_
   first
   | exact at_ret2 rfl rfl rfl (fun w hw => by obtain ⟨I9, h91, h92, h93⟩ := OwnS.res hO encC_len (by decide) hw; obtain ⟨_, a9, c9, e9, h94⟩ := h93; subst e9; exact ⟨_, I9, [], rfl, hIc.trans h91, h92, rfl, cs, a9, c9, by rw [hs0], ⟨h94, fun z hz => (hcs.1 z hz).mono h91⟩, hcs.2⟩)
end Go.Proofs.YtccomeanpppfmaaGreat
end
section
namespace Go.Proofs.YtccomeanpppfmaaGreat
open Go Go.Kn Go.Proofs
theorem fun_18 : Fun Tryz.prog 18 := .of Tryz.func18 (by kernel_rfl) (by kernel_rfl)
theorem few_in2 {n m k : Nat} (h : ((!((decide ((n : Int) ≤ 40) || (decide ((n : Int) > 512) && decide ((n : Int) ≤ 600))) && decide ((m : Int) ≤ 60))) || decide ((k : Int) > 600)) = false) : n ≤ 600 ∧ m ≤ 60 ∧ k ≤ 600 := by
 simp only [Bool.or_eq_false_iff, Bool.not_eq_false', Bool.and_eq_true, Bool.or_eq_true, decide_eq_true_eq, decide_eq_false_iff_not] at h
 omega
theorem w_signsLaw {I : HMap} {av : Option Addr} {n c : Nat} {ps : List Pt} (hP : SlP I av n c ps) {bv : Option Addr} {n2 c2 : Nat} {bs : List Sg} (hB : Sl I 14 encG bv n2 c2 bs) {dv : Option Addr} {n3 c3 : Nat} {ws : List Int} (hV : Sl I 1 encI dv n3 c3 ws) : RetV Tryz.prog 4 [.slice av n c, .slice bv n2 c2, .slice dv n3 c3] I (.bool true) := by
 intro g H w hw
 refine enter Tryz.func4 rfl Tryz.ntmps4 rfl hw ?_
 have hIc := HLe.refl I
 refine X_seq (X_region ?_)
 refine XO_v0 (ev_assign rfl) rfl rfl rfl ?_
 refine XO_nil (at_then ?_)
 refine X_seq ?_
 refine X_seq (X_region ?_)
 refine XO_callV0 (cap := []) (vs := []) rfl rfl fun_6 (w_sane _) rfl rfl ?_
 refine XO_v0 (ev_not rfl) rfl rfl rfl ?_
 refine XO_nil (at_then ?_)
 refine X_cond rfl (fun hc16 => ?_) (fun hc16 => ?_)
 ·
  cases hc16
 ·
  refine X_skip ?_
  refine at_then ?_
  refine X_seq ?_
  refine X_seq (X_region ?_)
  refine XO_v0 (ev_move rfl) rfl rfl rfl ?_
  refine XO_v0 (ev_move rfl) rfl rfl rfl ?_
  refine XO_callV0 (cap := []) (vs := [_, _]) rfl rfl fun_7 (r_few _ _ _ _ _ _ _) rfl rfl ?_
  refine XO_v0 (ev_not rfl) rfl rfl rfl ?_
  refine XO_v0 (ev_move rfl) rfl rfl rfl ?_
  refine XO_pushF 4 rfl rfl rfl ?_
  refine XO_v1 (ev_move rfl) (.some rfl rfl rfl rfl gbf) rfl rfl rfl ?_
  refine XO_v1 (ev_lenS rfl slt_23) (.some rfl rfl rfl rfl gbf) rfl rfl rfl ?_
  refine XO_v1 (ev_cmp rfl rfl rfl) (.some rfl rfl rfl rfl gbf) rfl rfl rfl ?_
  refine XO_or0 rfl rfl rfl rfl rfl ?_
  refine XO_nil (at_then ?_)
  refine X_cond rfl (fun hc25 => ?_) (fun hc25 => ?_)
  ·
   refine X_seq (X_region ?_)
   refine XO_v0 (ev_assign rfl) rfl rfl rfl ?_
   refine XO_nil (at_then ?_)
   refine X_ret ?_
   refine at_then_r ?_
   exact at_ret1 rfl rfl (fun w hw => ⟨by rfl, (hw.mono hIc).drop⟩)
  ·
   have hfw := few_in2 hc25
   have hn : n ≤ 100000 := by omega
   have hPl := hP.len
   have hBl := hB.len
   refine X_skip ?_
   refine at_then ?_
   refine X_seq (X_region ?_)
   refine XO_v0 (ev_move rfl) rfl rfl rfl ?_
   refine XO_v0 (ev_move rfl) rfl rfl rfl ?_
   refine XO_v0 (ev_move rfl) rfl rfl rfl ?_
   refine XO_callM (cap := []) (vs := [_, _, _]) rfl rfl fun_15 .nil (w_Signs hP hn hB (by omega) hV (by omega)) rfl rfl ?_
   rintro vv1 I1 L1 hI1 ⟨rfl, a1, c1, rfl, hA⟩
   have hP := hP.mono hI1
   have hB := hB.mono hI1
   have hV := hV.mono hI1
   have hIc := hIc.trans hI1
   refine XO_v0 (ev_move rfl) rfl rfl rfl ?_
   refine XO_v0 (ev_extract rfl rfl) rfl rfl rfl ?_
   refine XO_v0 (ev_extract rfl rfl) rfl rfl rfl ?_
   refine XO_v0 (ev_assign rfl) rfl rfl rfl ?_
   refine XO_v0 (ev_assign rfl) rfl rfl rfl ?_
   refine XO_nil (at_then ?_)
   refine X_seq (X_region ?_)
   refine XO_v0 (ev_move rfl) rfl rfl rfl ?_
   refine XO_v0 (ev_move rfl) rfl rfl rfl ?_
   refine XO_v0 (ev_move rfl) rfl rfl rfl ?_
   refine XO_callM (cap := []) (vs := [_, _, _]) rfl rfl fun_16 .nil (r_sgns hP (by omega) hB (by omega) hV (by omega)) rfl rfl ?_
   rintro vv2 I2 L2 hI2 ⟨rfl, a2, c2, rfl, hD⟩
   have hP := hP.mono hI2
   have hB := hB.mono hI2
   have hV := hV.mono hI2
   have hA := hA.mono hI2
   have hIc := hIc.trans hI2
   refine XO_v0 (ev_move rfl) rfl rfl rfl ?_
   refine XO_v0 (ev_extract rfl rfl) rfl rfl rfl ?_
   refine XO_v0 (ev_extract rfl rfl) rfl rfl rfl ?_
   refine XO_v0 (ev_assign rfl) rfl rfl rfl ?_
   refine XO_v0 (ev_assign rfl) rfl rfl rfl ?_
   refine XO_nil (at_then ?_)
   refine X_seq (X_region ?_)
   refine XO_v0 (ev_move rfl) rfl rfl rfl ?_
   refine XO_v0 (ev_move rfl) rfl rfl rfl ?_
   refine XO_v0 (ev_move rfl) rfl rfl rfl ?_
   refine XO_callM (cap := []) (vs := [_, _, _]) rfl rfl fun_17 .nil (w_Conflicts hP hn hB (by omega) hV (by omega)) rfl rfl ?_
   rintro vv3 I3 L3 hI3 ⟨rfl, cs1, a3, c3, rfl, hE, hkE⟩
   have hP := hP.mono hI3
   have hB := hB.mono hI3
   have hV := hV.mono hI3
   have hA := hA.mono hI3
   have hD := hD.mono hI3
   have hIc := hIc.trans hI3
   refine XO_v0 (ev_move rfl) rfl rfl rfl ?_
   refine XO_v0 (ev_extract rfl rfl) rfl rfl rfl ?_
   refine XO_v0 (ev_extract rfl rfl) rfl rfl rfl ?_
   refine XO_v0 (ev_assign rfl) rfl rfl rfl ?_
   refine XO_v0 (ev_assign rfl) rfl rfl rfl ?_
   refine XO_nil (at_then ?_)
   refine X_seq (X_region ?_)
   refine XO_v0 (ev_move rfl) rfl rfl rfl ?_
   refine XO_v0 (ev_move rfl) rfl rfl rfl ?_
   refine XO_v0 (ev_move rfl) rfl rfl rfl ?_
   refine XO_callM (cap := []) (vs := [_, _, _]) rfl rfl fun_18 .nil (r_conf hP (by omega) hB (by omega) hV (by omega)) rfl rfl ?_
   rintro vv4 I4 L4 hI4 ⟨rfl, cs2, a4, c4, rfl, hF, hkF⟩
   have hP := hP.mono hI4
   have hB := hB.mono hI4
   have hV := hV.mono hI4
   have hA := hA.mono hI4
   have hD := hD.mono hI4
   have hE := hE.mono hI4
   have hIc := hIc.trans hI4
   refine XO_v0 (ev_move rfl) rfl rfl rfl ?_
   refine XO_v0 (ev_extract rfl rfl) rfl rfl rfl ?_
   refine XO_v0 (ev_extract rfl rfl) rfl rfl rfl ?_
   refine XO_v0 (ev_assign rfl) rfl rfl rfl ?_
   refine XO_v0 (ev_assign rfl) rfl rfl rfl ?_
   refine XO_nil (at_then ?_)
   refine X_seq (X_region ?_)
   refine XO_v0 (ev_move rfl) rfl rfl rfl ?_
   refine XO_v0 (ev_move rfl) rfl rfl rfl ?_
   refine XO_callV0 (cap := []) (vs := [_, _]) rfl rfl fun_19 (w_sameG hA (Nat.le_trans sgF_few (by omega)) hD) rfl rfl ?_
   refine XO_v0 (ev_move rfl) rfl rfl rfl ?_
   refine XO_pushT 3 rfl rfl rfl ?_
   refine XO_v1 (ev_move rfl) (.some rfl rfl rfl rfl gbt) rfl rfl rfl ?_
   refine XO_v1 (ev_move rfl) (.some rfl rfl rfl rfl gbt) rfl rfl rfl ?_
   refine XO_v1 (ev_cmp rfl rfl rfl) (.some rfl rfl rfl rfl gbt) rfl rfl rfl ?_
   refine XO_and0 rfl rfl rfl rfl rfl ?_
   refine XO_v0 (ev_move rfl) rfl rfl rfl ?_
   refine XO_pushT 8 rfl rfl rfl ?_
   refine XO_v1 (ev_move rfl) (.some rfl rfl rfl rfl gbt) rfl rfl rfl ?_
   refine XO_v1 (ev_move rfl) (.some rfl rfl rfl rfl gbt) rfl rfl rfl ?_
   refine XO_callV1 (cap := []) (vs := [_, _]) rfl rfl fun_20 (fun hg => w_sameC hE (Nat.le_trans (cs_few hkE) (by omega)) hF (fun z hz => Nat.le_trans (cs_ids hE hkE z hz) (by omega))) (.some rfl rfl rfl rfl gbt) rfl rfl ?_
   refine XO_and0 rfl rfl rfl rfl rfl ?_
   refine XO_v0 (ev_move rfl) rfl rfl rfl ?_
   refine XO_pushT 13 rfl rfl rfl ?_
   refine XO_v1 (ev_move rfl) (.some rfl rfl rfl rfl gbt) rfl rfl rfl ?_
   refine XO_v1 (ev_move rfl) (.some rfl rfl rfl rfl gbt) rfl rfl rfl ?_
   refine XO_v1 (ev_cmp rfl rfl rfl) (.some rfl rfl rfl rfl gbt) rfl rfl rfl ?_
   refine XO_and0 rfl rfl rfl rfl rfl ?_
   refine XO_v0 (ev_assign rfl) rfl rfl rfl ?_
   refine XO_nil (at_then ?_)
   refine X_ret ?_
   first
   | exact at_ret1 rfl rfl (fun w hw => ⟨by rw [same_self, hkE, hkF, same_self]; simp, (hw.mono hIc).drop⟩)
end Go.Proofs.YtccomeanpppfmaaGreat
end
section
namespace Go.Kn
open Go Go.ChangeShapes Go.WideShapes Go.ChangeAt Go.RowKit
/-- All that lies in the world is read only. -/
def heapI (W : World) : HMap := fun b => W.heap[b]?
theorem St.start (W : World) : St W (heapI W) (fun _ => none) [] W :=
  ⟨rfl, rfl, rfl, ⟨Nat.le_refl _, Nat.le_refl _⟩, fun _ _ h => h, (fun _ _ h => by cases h), (fun _ _ h => by cases h), fun _ => .inr rfl, (fun _ _ h => by cases h), by simp⟩
theorem St.below {W w : World} {H : HMap} {loc : Loc} (h : St W (heapI W) H loc w) : Below W.heap.size W w :=
  ⟨h.os, h.tape, h.out, h.size.1, fun k hk => by
    have e : W.heap[k]? = some W.heap[k] := Array.getElem?_eq_getElem hk
    rw [h.imm k _ e, e]⟩
theorem RetV.law {P : Program} {f : FuncId} {args : List Value} {W : World} {v : Value} (h : RetV P f args (heapI W) v) : Calls P f args.toArray W fun e w' => e = .returned v ∧ Below W.heap.size W w' :=
  (h W _ W (St.start W)).mono fun _ _ ⟨he, hs⟩ => ⟨he, hs.below⟩
theorem keptBut_below {W w : World} {may : MemPlace → Prop} (h : Below W.heap.size W w) : W.keptBut w may := by
  refine ⟨h.os, h.output, fun i hi => ?_⟩
  rw [h.block i hi]
  rw [Array.getElem?_eq_getElem hi]
  cases W.heap[i] <;> simp
theorem trodAll_stays {H : Type} {enc : TypeId × Value → H} {P : Program} {W W' : World} (hl : laidOutB P = true) (hB : Below W.heap.size W W') (sp : Nat → Bool) : ∀ (ts : List TypeId) (vs : List Value) (ds : List (DataW H)) (ps : List MemPlace), (∀ t ∈ ts, P.readableRec t = true ∧ t < P.types.size) →
    DataW.TrodAll enc P W 0 (fun _ => true) true ts vs ds ps → (∀ x ∈ ps, x.block < W.heap.size ∧ sp x.block = true) → DataW.TrodAll enc P W' 0 sp true ts vs ds ps
  | [], [], [], ps, _, h, _ => h
  | t :: ts, v :: vs, d :: ds, ps, hr, ⟨p, q, h1, h2, e⟩, hlt => by
    subst e
    exact ⟨p, q, WideElems.Trod_stays hl (hr t (List.mem_cons_self ..)).1 (hr t (List.mem_cons_self ..)).2 h1 (fun x hx => hB.same (hlt x (List.mem_append_left _ hx)).1) (fun x hx => (hlt x (List.mem_append_left _ hx)).2),
      trodAll_stays hl hB sp ts vs ds q (fun t ht => hr t (List.mem_cons_of_mem _ ht)) h2 (fun x hx => hlt x (List.mem_append_right _ hx)), rfl⟩
/-- A law's row: it hands back true; the input reads as it did. -/
theorem post_law {H : Type} {enc : TypeId × Value → H} {P : Program} {f : Func} {s : ChangeSpec} {again : Bool} {W W' : World} {args : Array Value} {ds : List (DataW H)} {before : List MemPlace} {tb : TypeId}
    (hl : laidOutB P = true) (hr : f.resultTypes = #[tb]) (hb : P.underlying tb = some .bool) (hv : s.vars = []) (hs : (s.fn H (ds ++ [])) = { results := [.lit (.bool true)], args := ds }) (hrd : ∀ t ∈ f.params.toList, P.readableRec t = true ∧ t < P.types.size)
    (hW : DataW.Whole enc P f.params.toList s.vars false W args.toList ds [] before) (hB : Below W.heap.size W W') : s.post enc P f false true false again W args (.bool true) W' := by
  have hlt : ∀ x ∈ before, x.block < W.heap.size := fun x hx => by simpa using hW.lt x hx
  have hW0 := hW
  obtain ⟨p, q, hA, hV, rfl, hfz, _⟩ := hW
  rw [hv] at hV
  obtain ⟨_, rfl⟩ := trodVars_none hV
  rw [List.append_nil] at hlt hfz hW0
  have hres : ∀ (b : Nat) (sp : Nat → Bool) (hd : Bool), DataW.TrodAll enc P W' b sp hd f.resultTypes.toList ((Value.bool true).resultList f.resultTypes.size) [.lit (.bool true)] [] := fun b sp hd => by
    rw [hr]; exact trodAll_mk1 (shut_bool hb true)
  have hargs : ∀ sp : Nat → Bool, (∀ x ∈ p, sp x.block = true) → DataW.TrodAll enc P W' 0 sp true f.params.toList args.toList ds p := fun sp h => trodAll_stays hl hB sp _ _ _ _ hrd hA (fun x hx => ⟨hlt x hx, h x hx⟩)
  have hnil : ∀ sp : Nat → Bool, DataW.TrodVars enc P W' sp s.vars [] [] := fun sp => by rw [hv]; rfl
  refine ⟨ds, [], p, [], p, [], hW0, ?_, ?_, ?_, keptBut_below hB, fun _ => ?_⟩
  · rw [hs]; exact hres _ _ _
  · rw [hs]; exact hargs _ (fun x hx => by simpa using hlt x hx)
  · rw [hs]; exact hnil _
  · refine ⟨fun j t r ht hr' => ?_, [.lit (.bool true)] ++ ds, [], [] ++ p, ⟨[] ++ p, [], trodAll_append (hargs _ (fun _ _ => rfl)) (hres _ _ _), hnil _, by simp, ?_, fun h => by cases h⟩, fun x hx _ => by simpa using hx⟩
    · rw [hr] at ht hr'
      cases j with
      | zero => simp [Value.resultList] at ht hr'; subst ht; subst hr'; exact okWide_bool_mk hb _
      | succ j => simp at ht
    · intro b off hx
      rw [hB.frozen (hlt _ (by simpa using hx))]
      exact hfz b off (by simpa using hx)
theorem cell_heap {W : World} {b o : Nat} {u : Value} (h : W.cell? ⟨b, o, none⟩ = some u) : Cell (heapI W) [] b o u := by
  unfold World.cell? at h
  split at h
  · rename_i c t fz hb
    simp only [Option.isSome_none, Bool.false_eq_true, if_false] at h
    exact ⟨c, t, fz, .inl hb, h⟩
  · cases h
/-- A slice that came in, as it is read. -/
theorem open_SlT {H : Type} {enc : TypeId × Value → H} {P : Program} {W : World} {t e : TypeId} {size fuel0 : Nat} {cs : List Value} {x0 : DataW H × List MemPlace} {α : Type} (enc' : α → List Value) (ok : α → Prop)
    (ht : P.underlying t = some (.slice e)) (hc : P.cellsOf e = size) (hpos : 0 < size) (hlen : ∀ y, (enc' y).length = size)
    (hel : ∀ fuel cs x, DataW.trod enc P W 0 (fun _ => true) true fuel e cs = some x → ∃ y, ok y ∧ enc' y = cs)
    (hf' : DataW.trod enc P W 0 (fun _ => true) true fuel0 t cs = some x0) : ∃ av n c xs, cs = [.slice av n c] ∧ Sl (heapI W) size enc' av n c xs ∧ (∀ x ∈ xs, ok x) ∧ c ≤ maxLen := by
  rcases Go.Deep.open_slice ht hf' with ⟨e1, _⟩ | ⟨a, len0, cap0, m, n, D, Pl, e1, hb, hl, hm, hmm, _, hx⟩
  · subst e1
    exact ⟨none, 0, 0, [], rfl, .nil, (fun x hx => by cases hx), Nat.zero_le _⟩
  · subst e1
    have hlm : len0 ≤ m := by rw [hmm]; simp; exact hl
    have each : ∀ i, i < len0 → ∃ y, ok y ∧ W.cells? 0 (a.add (i * size)) size = some (enc' y) := fun i hi => by
      obtain ⟨cs', h1, h2⟩ := hx i (by omega)
      obtain ⟨y, hy, e⟩ := hel _ _ _ h2
      rw [hc] at h1
      exact ⟨y, hy, by rw [h1, e]⟩
    have all : ∀ k, k ≤ len0 → ∃ xs : List α, xs.length = k ∧ ∀ i x, xs[i]? = some x → ok x ∧ W.cells? 0 (a.add (i * size)) size = some (enc' x) := by
      intro k
      induction k with
      | zero => intro _; exact ⟨[], rfl, fun i x h => by simp at h⟩
      | succ k ih =>
        intro hk
        obtain ⟨xs, hl', hxs⟩ := ih (by omega)
        obtain ⟨y, hy, hcy⟩ := each k (by omega)
        refine ⟨xs ++ [y], by simp [hl'], fun i x h => ?_⟩
        by_cases hi : i < xs.length
        · rw [List.getElem?_append_left hi] at h; exact hxs i x h
        · rw [List.getElem?_append_right (by omega)] at h
          have : i = k := by have := (List.getElem?_eq_some_iff.1 h).1; simp at this; omega
          subst this
          rw [hl'] at h; simp at h; subst h
          exact ⟨hy, hcy⟩
    obtain ⟨xs, hl', hxs⟩ := all len0 (Nat.le_refl _)
    have add0 : ∀ (b o n : Nat), (⟨b, o, none⟩ : Addr).add n = ⟨b, o + n, none⟩ := fun b o n => by
      unfold Addr.add
      split
      · rename_i e; subst e; rfl
      · rfl
    have hspot : 0 < xs.length → a.spot = none := fun hx => by
      have hx0 : xs[0]? = some xs[0] := List.getElem?_eq_getElem hx
      have hp0 : 0 < (enc' xs[0]).length := by rw [hlen]; exact hpos
      obtain ⟨_, h1, h2⟩ := World.cells?_some (hxs 0 _ hx0).2
      have h3 := h2 0 hpos
      rw [List.getElem?_eq_getElem hp0] at h3
      simpa [Addr.add] using World.cell?_spot h3
    have cellat : ∀ i x, xs[i]? = some x → ∀ j u, (enc' x)[j]? = some u → W.cell? ⟨a.block, a.off + i * size + j, none⟩ = some u := fun i x hx j u hu => by
      obtain ⟨_, h1, h2⟩ := World.cells?_some (hxs i x hx).2
      have hj : j < size := by rw [← hlen x]; exact (List.getElem?_eq_some_iff.1 hu).1
      have h3 := h2 j hj
      rw [hu] at h3
      have hsp := hspot (by have := (List.getElem?_eq_some_iff.1 hx).1; omega)
      obtain ⟨b, o, sp⟩ := a
      simp only at hsp
      subst hsp
      rw [add0, add0] at h3
      exact h3
    refine ⟨some a, len0, cap0, xs, rfl, ⟨hl', hl, fun hn => ?_, fun k x hx j u hu => ?_⟩, fun x hx => ?_, hm⟩
    · have := hspot (by omega)
      obtain ⟨b, o, sp⟩ := a
      simp only at this
      subst this; rfl
    · exact cell_heap (cellat k x hx j u hu)
    · obtain ⟨i, hi⟩ := List.getElem?_of_mem hx
      exact (hxs i x hi).1
theorem open_Sl {H : Type} {enc : TypeId × Value → H} {P : Program} {W : World} {base : Nat} {t e : TypeId} {size : Nat} {v : Value} {d : DataW H} {p : List MemPlace} {α : Type} (enc' : α → List Value) (ok : α → Prop)
    (ht : P.underlying t = some (.slice e)) (hc : P.cellsOf e = size) (hpos : 0 < size) (hlen : ∀ y, (enc' y).length = size)
    (hel : ∀ fuel cs x, DataW.trod enc P W 0 (fun _ => true) true fuel e cs = some x → ∃ y, ok y ∧ enc' y = cs)
    (hv : Value.okWide P W .any base t v) (h : DataW.Trod enc P W 0 (fun _ => true) true t v d p) : ∃ av n c xs, v = .slice av n c ∧ Sl (heapI W) size enc' av n c xs ∧ (∀ x ∈ xs, ok x) ∧ c ≤ maxLen := by
  obtain ⟨a0, len0, cap0, rfl⟩ := okWide_slice ht hv
  obtain ⟨fuel, hf⟩ := h
  obtain ⟨av, n, c, xs, e, h1, h2, h3⟩ := open_SlT enc' ok ht hc hpos hlen hel (cs := [.slice a0 len0 cap0]) (by simpa [Value.cells] using hf)
  cases e
  exact ⟨_, _, _, xs, rfl, h1, h2, h3⟩
/-- A slice of one-cell ints. -/
theorem el_int {H : Type} {enc : TypeId × Value → H} {P : Program} {W : World} {e : TypeId} {k : IntKind} (he : P.underlying e = some (.int k)) (hk : k = .i64) (fuel : Nat) (cs : List Value) (x : DataW H × List MemPlace) (h : DataW.trod enc P W 0 (fun _ => true) true fuel e cs = some x) :
    ∃ y : Int, (-9223372036854775808 ≤ y ∧ y ≤ 9223372036854775807) ∧ [Value.int .i64 y] = cs := by
  subst hk
  obtain ⟨v, hv⟩ : ∃ v, cs = [v] := by
    have := h
    cases fuel with
    | zero => simp [DataW.trod] at this
    | succ m => unfold DataW.trod at this; rw [he] at this; split at this <;> simp_all
  subst hv
  obtain ⟨n, e, _, w⟩ := DataW.trod_int he h
  cases e
  simp only [Lit.wf, Bool.and_eq_true, decide_eq_true_eq] at w
  exact ⟨n, w, rfl⟩
end Go.Kn
end
section
namespace Go.Kn
open Go
theorem trod_seg {H : Type} {enc : TypeId × Value → H} {P : Program} {W : World} {base : Nat} {spare : Nat → Bool} {held : Bool} {t C : Nat} {fs : Array Field} {fuel : Nat} {cs : List Value} {x : DataW H × List MemPlace} (hs : P.underlying t = some (.struct fs))
    (hC : P.cellsOf t = C) (h : DataW.trod enc P W base spare held fuel t cs = some x) :
    cs.length = C ∧ ∃ n, ∀ (i ty off k : Nat), ((fs[i]?).map fun f => (f.type, f.offset)) = some (ty, off) → P.cellsOf ty = k → ∃ y, DataW.trod enc P W base spare held n ty ((cs.drop off).take k) = some y := by
  obtain ⟨xs, n, _, _, hl, hxl, hf⟩ := DataW.trod_struct hs h
  refine ⟨hl.trans hC, n, fun i ty off k hi hk => ?_⟩
  obtain ⟨f, hfi, e⟩ := Option.map_eq_some_iff.1 hi
  cases e
  have g := hf i f hfi
  have hix : i < xs.length := by rw [hxl]; exact (Array.getElem?_eq_some_iff.1 hfi).1
  rw [hk, List.getElem?_eq_getElem hix] at g
  exact ⟨_, g⟩
end Go.Kn
end
section
namespace Go.Proofs.YtccomeanpppfmaaGreat
open Go Go.Kn Go.Proofs
open Go.ChangeShapes Go.WideShapes Go.ChangeAt Go.RowKit
set_option maxRecDepth 100000
theorem ound_3 : Tryz.prog.underlying 3 = some (.int .i64) := by kernel_rfl
theorem ostr_43 : Tryz.prog.underlying 43 = some (.struct (Tryz.prog.fieldsOf 43)) := by kernel_rfl
theorem ostr_45 : Tryz.prog.underlying 45 = some (.struct (Tryz.prog.fieldsOf 45)) := by kernel_rfl
theorem ound_23 : Tryz.prog.underlying 23 = some (.slice 3) := by kernel_rfl
theorem ostr_53 : Tryz.prog.underlying 53 = some (.struct (Tryz.prog.fieldsOf 53)) := by kernel_rfl
theorem ound_22 : Tryz.prog.underlying 22 = some (.slice 53) := by kernel_rfl
theorem ound_33 : Tryz.prog.underlying 33 = some (.slice 45) := by kernel_rfl
theorem el_sg {H : Type} {enc : TypeId × Value → H} {W : World} (fuel : Nat) (cs : List Value) (x : DataW H × List MemPlace) (h : DataW.trod enc Tryz.prog W 0 (fun _ => true) true fuel 45 cs = some x) : ∃ y : Sg, (fun _ => True) y ∧ encG y = cs := by
  obtain ⟨hl, n0_, f0⟩ := trod_seg (C := 14) ostr_45 (by kernel_rfl) h
  match cs, hl with
  | [c0, c1, c2, c3, c4, c5, c6, c7, c8, c9, c10, c11, c12, c13], _ =>
    obtain ⟨_, g0_0⟩ := f0 0 3 0 1 (by kernel_rfl) (by kernel_rfl)
    obtain ⟨n0, e0, _, w0⟩ := DataW.trod_int ound_3 (show DataW.trod enc Tryz.prog W 0 (fun _ => true) true n0_ 3 [c0] = some _ from g0_0)
    obtain ⟨_, g0_1⟩ := f0 1 3 1 1 (by kernel_rfl) (by kernel_rfl)
    obtain ⟨n1, e1, _, w1⟩ := DataW.trod_int ound_3 (show DataW.trod enc Tryz.prog W 0 (fun _ => true) true n0_ 3 [c1] = some _ from g0_1)
    obtain ⟨_, g0_2⟩ := f0 2 3 2 1 (by kernel_rfl) (by kernel_rfl)
    obtain ⟨n2, e2, _, w2⟩ := DataW.trod_int ound_3 (show DataW.trod enc Tryz.prog W 0 (fun _ => true) true n0_ 3 [c2] = some _ from g0_2)
    obtain ⟨_, g0_3⟩ := f0 3 3 3 1 (by kernel_rfl) (by kernel_rfl)
    obtain ⟨n3, e3, _, w3⟩ := DataW.trod_int ound_3 (show DataW.trod enc Tryz.prog W 0 (fun _ => true) true n0_ 3 [c3] = some _ from g0_3)
    obtain ⟨_, g0_4⟩ := f0 4 3 4 1 (by kernel_rfl) (by kernel_rfl)
    obtain ⟨n4, e4, _, w4⟩ := DataW.trod_int ound_3 (show DataW.trod enc Tryz.prog W 0 (fun _ => true) true n0_ 3 [c4] = some _ from g0_4)
    obtain ⟨_, g0_5⟩ := f0 5 3 5 1 (by kernel_rfl) (by kernel_rfl)
    obtain ⟨n5, e5, _, w5⟩ := DataW.trod_int ound_3 (show DataW.trod enc Tryz.prog W 0 (fun _ => true) true n0_ 3 [c5] = some _ from g0_5)
    obtain ⟨_, g0_6⟩ := f0 6 3 6 1 (by kernel_rfl) (by kernel_rfl)
    obtain ⟨n6, e6, _, w6⟩ := DataW.trod_int ound_3 (show DataW.trod enc Tryz.prog W 0 (fun _ => true) true n0_ 3 [c6] = some _ from g0_6)
    obtain ⟨_, g0_7⟩ := f0 7 3 7 1 (by kernel_rfl) (by kernel_rfl)
    obtain ⟨n7, e7, _, w7⟩ := DataW.trod_int ound_3 (show DataW.trod enc Tryz.prog W 0 (fun _ => true) true n0_ 3 [c7] = some _ from g0_7)
    obtain ⟨_, g0_8⟩ := f0 8 3 8 1 (by kernel_rfl) (by kernel_rfl)
    obtain ⟨n8, e8, _, w8⟩ := DataW.trod_int ound_3 (show DataW.trod enc Tryz.prog W 0 (fun _ => true) true n0_ 3 [c8] = some _ from g0_8)
    obtain ⟨_, g0_9⟩ := f0 9 3 9 1 (by kernel_rfl) (by kernel_rfl)
    obtain ⟨n9, e9, _, w9⟩ := DataW.trod_int ound_3 (show DataW.trod enc Tryz.prog W 0 (fun _ => true) true n0_ 3 [c9] = some _ from g0_9)
    obtain ⟨_, g0_10⟩ := f0 10 43 10 2 (by kernel_rfl) (by kernel_rfl)
    obtain ⟨_, n1_, f1⟩ := trod_seg (C := 2) ostr_43 (by kernel_rfl) (show DataW.trod enc Tryz.prog W 0 (fun _ => true) true n0_ 43 [c10, c11] = some _ from g0_10)
    obtain ⟨_, g1_0⟩ := f1 0 3 0 1 (by kernel_rfl) (by kernel_rfl)
    obtain ⟨n10, e10, _, w10⟩ := DataW.trod_int ound_3 (show DataW.trod enc Tryz.prog W 0 (fun _ => true) true n1_ 3 [c10] = some _ from g1_0)
    obtain ⟨_, g1_1⟩ := f1 1 3 1 1 (by kernel_rfl) (by kernel_rfl)
    obtain ⟨n11, e11, _, w11⟩ := DataW.trod_int ound_3 (show DataW.trod enc Tryz.prog W 0 (fun _ => true) true n1_ 3 [c11] = some _ from g1_1)
    obtain ⟨_, g0_11⟩ := f0 11 43 12 2 (by kernel_rfl) (by kernel_rfl)
    obtain ⟨_, n2_, f2⟩ := trod_seg (C := 2) ostr_43 (by kernel_rfl) (show DataW.trod enc Tryz.prog W 0 (fun _ => true) true n0_ 43 [c12, c13] = some _ from g0_11)
    obtain ⟨_, g2_0⟩ := f2 0 3 0 1 (by kernel_rfl) (by kernel_rfl)
    obtain ⟨n12, e12, _, w12⟩ := DataW.trod_int ound_3 (show DataW.trod enc Tryz.prog W 0 (fun _ => true) true n2_ 3 [c12] = some _ from g2_0)
    obtain ⟨_, g2_1⟩ := f2 1 3 1 1 (by kernel_rfl) (by kernel_rfl)
    obtain ⟨n13, e13, _, w13⟩ := DataW.trod_int ound_3 (show DataW.trod enc Tryz.prog W 0 (fun _ => true) true n2_ 3 [c13] = some _ from g2_1)
    cases e0; cases e1; cases e2; cases e3; cases e4; cases e5; cases e6; cases e7; cases e8; cases e9; cases e10; cases e11; cases e12; cases e13
    exact ⟨⟨n0, n1, n2, n3, n4, n5, n6, n7, n8, n9, n10, n11, n12, n13⟩, trivial, rfl⟩
theorem el_pt {H : Type} {enc : TypeId × Value → H} {W : World} (fuel : Nat) (cs : List Value) (x : DataW H × List MemPlace) (h : DataW.trod enc Tryz.prog W 0 (fun _ => true) true fuel 53 cs = some x) : ∃ y : Pt, (fun p => Nd (heapI W) p) y ∧ encP y = cs := by
  obtain ⟨hl, n0_, f0⟩ := trod_seg (C := 19) ostr_53 (by kernel_rfl) h
  match cs, hl with
  | [c0, c1, c2, c3, c4, c5, c6, c7, c8, c9, c10, c11, c12, c13, c14, c15, c16, c17, c18], _ =>
    obtain ⟨_, g0_0⟩ := f0 0 3 0 1 (by kernel_rfl) (by kernel_rfl)
    obtain ⟨n0, e0, _, w0⟩ := DataW.trod_int ound_3 (show DataW.trod enc Tryz.prog W 0 (fun _ => true) true n0_ 3 [c0] = some _ from g0_0)
    obtain ⟨_, g0_1⟩ := f0 1 3 1 1 (by kernel_rfl) (by kernel_rfl)
    obtain ⟨n1, e1, _, w1⟩ := DataW.trod_int ound_3 (show DataW.trod enc Tryz.prog W 0 (fun _ => true) true n0_ 3 [c1] = some _ from g0_1)
    obtain ⟨_, g0_2⟩ := f0 2 3 2 1 (by kernel_rfl) (by kernel_rfl)
    obtain ⟨n2, e2, _, w2⟩ := DataW.trod_int ound_3 (show DataW.trod enc Tryz.prog W 0 (fun _ => true) true n0_ 3 [c2] = some _ from g0_2)
    obtain ⟨_, g0_3⟩ := f0 3 3 3 1 (by kernel_rfl) (by kernel_rfl)
    obtain ⟨n3, e3, _, w3⟩ := DataW.trod_int ound_3 (show DataW.trod enc Tryz.prog W 0 (fun _ => true) true n0_ 3 [c3] = some _ from g0_3)
    obtain ⟨_, g0_4⟩ := f0 4 45 4 14 (by kernel_rfl) (by kernel_rfl)
    obtain ⟨_, n1_, f1⟩ := trod_seg (C := 14) ostr_45 (by kernel_rfl) (show DataW.trod enc Tryz.prog W 0 (fun _ => true) true n0_ 45 [c4, c5, c6, c7, c8, c9, c10, c11, c12, c13, c14, c15, c16, c17] = some _ from g0_4)
    obtain ⟨_, g1_0⟩ := f1 0 3 0 1 (by kernel_rfl) (by kernel_rfl)
    obtain ⟨n4, e4, _, w4⟩ := DataW.trod_int ound_3 (show DataW.trod enc Tryz.prog W 0 (fun _ => true) true n1_ 3 [c4] = some _ from g1_0)
    obtain ⟨_, g1_1⟩ := f1 1 3 1 1 (by kernel_rfl) (by kernel_rfl)
    obtain ⟨n5, e5, _, w5⟩ := DataW.trod_int ound_3 (show DataW.trod enc Tryz.prog W 0 (fun _ => true) true n1_ 3 [c5] = some _ from g1_1)
    obtain ⟨_, g1_2⟩ := f1 2 3 2 1 (by kernel_rfl) (by kernel_rfl)
    obtain ⟨n6, e6, _, w6⟩ := DataW.trod_int ound_3 (show DataW.trod enc Tryz.prog W 0 (fun _ => true) true n1_ 3 [c6] = some _ from g1_2)
    obtain ⟨_, g1_3⟩ := f1 3 3 3 1 (by kernel_rfl) (by kernel_rfl)
    obtain ⟨n7, e7, _, w7⟩ := DataW.trod_int ound_3 (show DataW.trod enc Tryz.prog W 0 (fun _ => true) true n1_ 3 [c7] = some _ from g1_3)
    obtain ⟨_, g1_4⟩ := f1 4 3 4 1 (by kernel_rfl) (by kernel_rfl)
    obtain ⟨n8, e8, _, w8⟩ := DataW.trod_int ound_3 (show DataW.trod enc Tryz.prog W 0 (fun _ => true) true n1_ 3 [c8] = some _ from g1_4)
    obtain ⟨_, g1_5⟩ := f1 5 3 5 1 (by kernel_rfl) (by kernel_rfl)
    obtain ⟨n9, e9, _, w9⟩ := DataW.trod_int ound_3 (show DataW.trod enc Tryz.prog W 0 (fun _ => true) true n1_ 3 [c9] = some _ from g1_5)
    obtain ⟨_, g1_6⟩ := f1 6 3 6 1 (by kernel_rfl) (by kernel_rfl)
    obtain ⟨n10, e10, _, w10⟩ := DataW.trod_int ound_3 (show DataW.trod enc Tryz.prog W 0 (fun _ => true) true n1_ 3 [c10] = some _ from g1_6)
    obtain ⟨_, g1_7⟩ := f1 7 3 7 1 (by kernel_rfl) (by kernel_rfl)
    obtain ⟨n11, e11, _, w11⟩ := DataW.trod_int ound_3 (show DataW.trod enc Tryz.prog W 0 (fun _ => true) true n1_ 3 [c11] = some _ from g1_7)
    obtain ⟨_, g1_8⟩ := f1 8 3 8 1 (by kernel_rfl) (by kernel_rfl)
    obtain ⟨n12, e12, _, w12⟩ := DataW.trod_int ound_3 (show DataW.trod enc Tryz.prog W 0 (fun _ => true) true n1_ 3 [c12] = some _ from g1_8)
    obtain ⟨_, g1_9⟩ := f1 9 3 9 1 (by kernel_rfl) (by kernel_rfl)
    obtain ⟨n13, e13, _, w13⟩ := DataW.trod_int ound_3 (show DataW.trod enc Tryz.prog W 0 (fun _ => true) true n1_ 3 [c13] = some _ from g1_9)
    obtain ⟨_, g1_10⟩ := f1 10 43 10 2 (by kernel_rfl) (by kernel_rfl)
    obtain ⟨_, n2_, f2⟩ := trod_seg (C := 2) ostr_43 (by kernel_rfl) (show DataW.trod enc Tryz.prog W 0 (fun _ => true) true n1_ 43 [c14, c15] = some _ from g1_10)
    obtain ⟨_, g2_0⟩ := f2 0 3 0 1 (by kernel_rfl) (by kernel_rfl)
    obtain ⟨n14, e14, _, w14⟩ := DataW.trod_int ound_3 (show DataW.trod enc Tryz.prog W 0 (fun _ => true) true n2_ 3 [c14] = some _ from g2_0)
    obtain ⟨_, g2_1⟩ := f2 1 3 1 1 (by kernel_rfl) (by kernel_rfl)
    obtain ⟨n15, e15, _, w15⟩ := DataW.trod_int ound_3 (show DataW.trod enc Tryz.prog W 0 (fun _ => true) true n2_ 3 [c15] = some _ from g2_1)
    obtain ⟨_, g1_11⟩ := f1 11 43 12 2 (by kernel_rfl) (by kernel_rfl)
    obtain ⟨_, n3_, f3⟩ := trod_seg (C := 2) ostr_43 (by kernel_rfl) (show DataW.trod enc Tryz.prog W 0 (fun _ => true) true n1_ 43 [c16, c17] = some _ from g1_11)
    obtain ⟨_, g3_0⟩ := f3 0 3 0 1 (by kernel_rfl) (by kernel_rfl)
    obtain ⟨n16, e16, _, w16⟩ := DataW.trod_int ound_3 (show DataW.trod enc Tryz.prog W 0 (fun _ => true) true n3_ 3 [c16] = some _ from g3_0)
    obtain ⟨_, g3_1⟩ := f3 1 3 1 1 (by kernel_rfl) (by kernel_rfl)
    obtain ⟨n17, e17, _, w17⟩ := DataW.trod_int ound_3 (show DataW.trod enc Tryz.prog W 0 (fun _ => true) true n3_ 3 [c17] = some _ from g3_1)
    obtain ⟨_, g0_5⟩ := f0 5 23 18 1 (by kernel_rfl) (by kernel_rfl)
    obtain ⟨a18, m18, q18, n18, e18, s18, o18, _⟩ := open_SlT (t := 23) (e := 3) encI (fun n : Int => -9223372036854775808 ≤ n ∧ n ≤ 9223372036854775807) ound_23 (by kernel_rfl) (by decide) encI_len (fun fuel cs x h => el_int ound_3 rfl fuel cs x h) (show DataW.trod enc Tryz.prog W 0 (fun _ => true) true n0_ 23 [c18] = some _ from g0_5)
    cases e0; cases e1; cases e2; cases e3; cases e4; cases e5; cases e6; cases e7; cases e8; cases e9; cases e10; cases e11; cases e12; cases e13; cases e14; cases e15; cases e16; cases e17; cases e18
    exact ⟨⟨n0, n1, n2, n3, ⟨n4, n5, n6, n7, n8, n9, n10, n11, n12, n13, n14, n15, n16, n17⟩, a18, m18, q18, n18⟩, s18, rfl⟩
theorem open_ps {H : Type} {enc : TypeId × Value → H} {W : World} {base : Nat} {v : Value} {d : DataW H} {p : List MemPlace} (hv : Value.okWide Tryz.prog W .any base 22 v) (h : DataW.Trod enc Tryz.prog W 0 (fun _ => true) true 22 v d p) :
    ∃ av n c xs, v = .slice av n c ∧ SlP (heapI W) av n c xs := by
  obtain ⟨av, n, c, xs, e, hS, hok, _⟩ := open_Sl (e := 53) encP (fun p => Nd (heapI W) p) ound_22 (by kernel_rfl) (by decide) encP_len (fun fuel cs x h => el_pt fuel cs x h) hv h
  exact ⟨av, n, c, xs, e, ⟨hS, hok⟩⟩
theorem open_sgs {H : Type} {enc : TypeId × Value → H} {W : World} {base : Nat} {v : Value} {d : DataW H} {p : List MemPlace} (hv : Value.okWide Tryz.prog W .any base 33 v) (h : DataW.Trod enc Tryz.prog W 0 (fun _ => true) true 33 v d p) :
    ∃ av n c xs, v = .slice av n c ∧ Sl (heapI W) 14 encG av n c xs := by
  obtain ⟨av, n, c, xs, e, hS, hok, _⟩ := open_Sl (e := 45) encG (fun _ => True) ound_33 (by kernel_rfl) (by decide) encG_len (fun fuel cs x h => el_sg fuel cs x h) hv h
  exact ⟨av, n, c, xs, e, hS⟩
theorem open_ints {H : Type} {enc : TypeId × Value → H} {W : World} {base : Nat} {v : Value} {d : DataW H} {p : List MemPlace} (hv : Value.okWide Tryz.prog W .any base 23 v) (h : DataW.Trod enc Tryz.prog W 0 (fun _ => true) true 23 v d p) :
    ∃ av n c xs, v = .slice av n c ∧ Sl (heapI W) 1 encI av n c xs := by
  obtain ⟨av, n, c, xs, e, hS, hok, _⟩ := open_Sl (e := 3) encI (fun n : Int => -9223372036854775808 ≤ n ∧ n ≤ 9223372036854775807) ound_23 (by kernel_rfl) (by decide) encI_len (fun fuel cs x h => el_int ound_3 rfl fuel cs x h) hv h
  exact ⟨av, n, c, xs, e, hS⟩
end Go.Proofs.YtccomeanpppfmaaGreat
end
section
namespace Go.Proofs.YtccomeanpppfmaaGreat
open Go Go.Kn Go.Proofs
open Go.ChangeShapes Go.WideShapes Go.ChangeAt Go.RowKit
theorem own : ownKnob Tryz.prog.godebug = none := by kernel_rfl
theorem laidOut : laidOutB Tryz.prog = true := by kernel_rfl
set_option maxRecDepth 100000 in
theorem roomsSignsSpec_lifted (os : Os) (started : os.Started) (H : Type) (enc : TypeId × Value → H) :
    ReturnsInHanded {} Tryz.checked os 4 .any (Rows.roomsSignsSpecSpec.pre6 enc Tryz.prog Tryz.f4 Rows.roomsSignsSpecRow.domain false) (Rows.roomsSignsSpecSpec.post enc Tryz.prog Tryz.f4 false true false false) := by
  refine returnsInHanded_of_change (C := Tryz.checked) own started (by kernel_rfl) Tryz.func4
    (ChangeSpec.witness6 (enc := enc) (C := Tryz.checked) false ⟨#[], #[.slice none 0 0, .slice none 0 0, .slice none 0 0], []⟩ 8 (by kernel_rfl) (by kernel_rfl) (by kernel_rfl) (by kernel_rfl)) ?_
  intro W base args ds gs before hval0 hW hcnd _
  have hval : ∀ (j : Nat) t v, Tryz.f4.params[j]? = some t → args[j]? = some v → Value.okWide Tryz.prog W .any base t v := hval0
  have hW' := hW
  obtain ⟨p, q, hA0, hV, rfl, hfz, hnd⟩ := hW
  have hA : DataW.TrodAll enc Tryz.prog W 0 (fun _ => true) true Tryz.f4.params.toList args.toList ds p := hA0
  rw [Tryz.params4] at hA hval
  obtain ⟨v0, vs1, d0, ds1, p0, q1, ea, rfl, rfl, h0, hA⟩ := trodAll_cons hA
  obtain ⟨v1, vs2, d1, ds2, p1, q2, rfl, rfl, rfl, h1, hA⟩ := trodAll_cons hA
  obtain ⟨v2, vs3, d2, ds3, p2, q3, rfl, rfl, rfl, h2, hA⟩ := trodAll_cons hA
  obtain ⟨rfl, rfl, rfl⟩ := trodAll_nil hA
  have ea' : args = #[v0, v1, v2] := by rw [← Array.toArray_toList (xs := args), ea]
  subst ea'
  obtain ⟨rfl, rfl⟩ := trodVars_none hV
  obtain ⟨av, n, c, ps, rfl, hP⟩ := open_ps (hval 0 22 v0 rfl rfl) h0
  obtain ⟨bv, n2, c2, bs, rfl, hB⟩ := open_sgs (hval 1 33 v1 rfl rfl) h1
  obtain ⟨dv, n3, c3, ws, rfl, hV⟩ := open_ints (hval 2 23 v2 rfl rfl) h2
  refine (RetV.law (w_signsLaw hP hB hV)).mono fun e W' ⟨he, hB⟩ => ?_
  subst he
  exact ⟨_, rfl, post_law laidOut (by kernel_rfl) und_4 rfl rfl (by rw [Tryz.params4]; simp only [List.mem_cons, List.not_mem_nil, or_false, forall_eq_or_imp, forall_eq]; exact ⟨⟨by kernel_rfl, of_decide_eq_true (by kernel_rfl)⟩, ⟨by kernel_rfl, of_decide_eq_true (by kernel_rfl)⟩, ⟨by kernel_rfl, of_decide_eq_true (by kernel_rfl)⟩⟩) hW' hB⟩
theorem roomsSignsSpec_holds : Rows.RoomsSignsSpecSaid :=
  OpenClaim.holds_of_wide 4 Tryz.f4 rfl rfl rfl rfl rfl rfl rfl ⟨rfl, rfl, rfl, rfl, rfl⟩ rfl rfl rfl rfl rfl (by kernel_rfl) Tryz.func4 (by kernel_rfl)
    (of_decide_eq_true (by kernel_rfl)) (by unfold Func.isWrapper; first | (rw [if_pos (by decide +kernel)]; kernel_rfl) | (rw [if_neg (by decide +kernel)]; exact ⟨rfl, rfl⟩))
    (fun os started H enc _ => roomsSignsSpec_lifted os started H enc)
#print axioms roomsSignsSpec_holds
end Go.Proofs.YtccomeanpppfmaaGreat
end
