/- topRooms_holds, part F of the proof: what its theorems say holds without further conditions. -/
import Derived.ProofKit
import Derived.Deep.Slices
import Derived.Test.YtoicbikdenlioaaGreatRows
import Derived.Test.YtoicbikdenlioaaGreatTRE
section
namespace Go.Proofs.YtoicbikdenlioaaGreat
open Go Go.Kn Go.Proofs
theorem fun_19 : Fun Tryz.prog 19 := .of Tryz.func19 (by kernel_rfl) (by kernel_rfl)
theorem und_3 : Tryz.prog.underlying 3 = some (.int .i64) := by kernel_rfl
theorem w_cmpS (I : HMap) (x y : Sg) : RetV Tryz.prog 19 [encGA x, encGA y] I (.int .i64 (cmpF x.id y.id)) := by
 intro g H w hw
 refine enter Tryz.func19 rfl Tryz.ntmps19 rfl hw ?_
 refine zR ?_
 refine XO_box rfl rfl rfl (fun b_2 => ?_)
 refine XO_box rfl rfl rfl (fun b_3 => ?_)
 refine zA ?_
 refine zN (zR ?_)
 refine zF fld_26_0 ?_
 refine zL sct_3 ?_
 refine zF fld_26_0 ?_
 refine zL sct_3 ?_
 refine XO_callV0 (cap := []) (vs := [_, _]) rfl rfl fun_20 (w_cmp I _ _) rfl rfl ?_
 refine zA ?_
 refine zN ?_
 refine X_ret ?_
 exact at_ret1 rfl rfl (fun w hw => ⟨by first | rfl | simp_all, hw.drop⟩)
theorem w_bsS {I : HMap} {av : Option Addr} {n c : Nat} {xs : List Sg} (hS : Sl I 14 encG av n c xs) (hn : n ≤ 100000) (t : Sg) : RetV Tryz.prog 18 [.slice av n c, encGA t, .func (.func 19) #[] #[]] I (.tuple #[.int .i64 (bsL xs t.id 0 n : Nat), .bool (decide (bsL xs t.id 0 n < n) && (cmpF (xs.getD (bsL xs t.id 0 n) zeroG).id t.id == 0))]) := by
 intro g H w hw
 refine enter Tryz.func18 rfl Tryz.ntmps18 rfl hw ?_
 refine zR ?_
 refine XO_box rfl rfl rfl (fun b_4 => ?_)
 refine zA ?_
 refine zA ?_
 refine zN (zR ?_)
 refine zM ?_
 refine zQ slt_22 ?_
 refine zA ?_
 refine zN (zR ?_)
 refine zM ?_
 refine zA ?_
 refine zA ?_
 refine zN ?_
 refine X_seq ?_
 refine X_block ?_
 refine X_loopT [(0, _), (2, _), (4, _), (8, _)] (.cons rfl (.cons rfl (.cons rfl (.cons rfl .nil)))) (fun T L0 mz E I' loc' => ∃ (i j : Nat), mz = j - i ∧ E = (9, .int .i64 i) :: (10, .int .i64 j) :: T ∧ I = I' ∧ L0 = loc' ∧ i ≤ j ∧ j ≤ n ∧ bsL xs t.id i j = bsL xs t.id 0 n) _ _ _ _ ⟨0, n, rfl, rfl, rfl, rfl, Nat.zero_le _, Nat.le_refl _, rfl⟩ (.cons rfl (.cons rfl (.cons rfl (.cons rfl (.cons rfl (.cons rfl .nil)))))) (HLe.refl _) rfl ?_
 rintro mz E I' loc' ⟨i, j, rfl, rfl, rfl, rfl, hij, hjn, hbs⟩
 refine X_seq ?_
 refine zR ?_
 refine zM ?_
 refine zM ?_
 refine zC ?_
 refine zN ?_
 refine zI ?_ ?_ <;> intro hc17
 ·
  have hlt : i < j := by have h := hc17; simp at h; omega
  obtain ⟨y, hy⟩ := hS.at (k := (i + j) / 2) (by omega)
  refine X_skip ?_
  refine at_then ?_
  refine X_block ?_
  refine zR ?_
  refine zM ?_
  refine zM ?_
  refine zV (ev_arB rfl rfl rfl (fun _ => by omega)) ?_
  refine zV (ev_convI rfl cvt_3_108) ?_
  refine zV (ev_shr rfl rfl (by decide) (rfl : min _ _ = 1)) ?_
  refine zV (ev_convI rfl cvt_108_3) ?_
  refine zA ?_
  refine XO_nil ?_
  rw [half_eq i j (by omega)]
  refine at_then ?_
  refine X_seq ?_
  refine X_draw mixed (by kernel_rfl) ?_
  refine XQ_v0 (ev_move rfl) rfl rfl rfl ?_
  refine XQ_v0 (ev_move rfl) rfl rfl rfl ?_
  refine XQ_v0 (ev_move rfl) rfl rfl rfl ?_
  refine XQ_v0 (ev_indexSl rfl rfl slt_22 (by assumption) (fun hg => by first | omega | (simp [conj] at hg; omega))) rfl rfl rfl ?_
  refine XQ_v0 (ev_loadA rfl agt_26 (fun hg => by first | exact Sl.getA (k := (i + j) / 2) hS hy | exact Sl.getA (k := i) hS (some_getD (d := zeroG) hS.len (by simp [conj] at hg; omega)) | exact Sl.getA (k := j) hS (some_getD (d := zeroG) hS.len (by simp [conj] at hg; omega)) | exact Cells.here | (repeat (first | exact Cells.here | exact Cells.s0 (vs := [_, _, _, _, _, _, _, _, _, _, _, _, _, _]) rfl | apply Cells.there | apply Cells.app))) rfl) rfl rfl rfl ?_
  refine XQ_v0 (ev_loadA rfl agt_26 (fun hg => by first | exact Sl.getA (k := (i + j) / 2) hS hy | exact Sl.getA (k := i) hS (some_getD (d := zeroG) hS.len (by simp [conj] at hg; omega)) | exact Sl.getA (k := j) hS (some_getD (d := zeroG) hS.len (by simp [conj] at hg; omega)) | exact Cells.here | (repeat (first | exact Cells.here | exact Cells.s0 (vs := [_, _, _, _, _, _, _, _, _, _, _, _, _, _]) rfl | apply Cells.there | apply Cells.app))) rfl) rfl rfl rfl ?_
  refine XQ_callV0 (cap := []) (vs := [_, _]) rfl rfl fun_19 (w_cmpS I _ _) rfl rfl ?_
  refine XQ_v0 (ev_cmp rfl rfl rfl) rfl rfl rfl ?_
  refine XQ_nil ?_
  refine at_then ?_
  refine zI ?_ ?_ <;> intro hc31
  ·
   refine X_region ?_
   refine zM ?_
   refine zV (ev_arB rfl rfl rfl (fun _ => by omega)) ?_
   refine zA ?_
   refine XO_nil ?_
   refine at_block_n ?_
   first
   | exact at_met2 _ _ ⟨j - ((i + j) / 2 + 1), by omega, (i + j) / 2 + 1, j, rfl, rfl, rfl, rfl, by omega, hjn, by rw [← hbs, bs_up hlt hy (by simpa using hc31)]⟩ (.cons rfl (.cons rfl (.cons rfl (.cons rfl (.cons rfl (.cons rfl .nil)))))) (by repeat (first | exact .refl | exact subL_left | refine subL_app ?_ | refine .drop ?_ | refine subL_add ?_))
   | exact at_met2 _ _ ⟨(i + j) / 2 - i, by omega, i, (i + j) / 2, rfl, rfl, rfl, rfl, by omega, by omega, by rw [← hbs, bs_down hlt hy (by simpa using hc31)]⟩ (.cons rfl (.cons rfl (.cons rfl (.cons rfl (.cons rfl (.cons rfl .nil)))))) (by repeat (first | exact .refl | exact subL_left | refine subL_app ?_ | refine .drop ?_ | refine subL_add ?_))
  refine X_region ?_
  refine zM ?_
  refine zA ?_
  refine XO_nil ?_
  refine at_block_n ?_
  first
  | exact at_met2 _ _ ⟨j - ((i + j) / 2 + 1), by omega, (i + j) / 2 + 1, j, rfl, rfl, rfl, rfl, by omega, hjn, by rw [← hbs, bs_up hlt hy (by simpa using hc31)]⟩ (.cons rfl (.cons rfl (.cons rfl (.cons rfl (.cons rfl (.cons rfl .nil)))))) (by repeat (first | exact .refl | exact subL_left | refine subL_app ?_ | refine .drop ?_ | refine subL_add ?_))
  | exact at_met2 _ _ ⟨(i + j) / 2 - i, by omega, i, (i + j) / 2, rfl, rfl, rfl, rfl, by omega, by omega, by rw [← hbs, bs_down hlt hy (by simpa using hc31)]⟩ (.cons rfl (.cons rfl (.cons rfl (.cons rfl (.cons rfl (.cons rfl .nil)))))) (by repeat (first | exact .refl | exact subL_left | refine subL_app ?_ | refine .drop ?_ | refine subL_add ?_))
 have hge : j ≤ i := by have h := hc17; simp at h; omega
 have hje : j = i := by omega
 subst hje
 rw [bs_end] at hbs
 refine X_exit ?_
 refine at_then_e ?_
 refine at_then_e ?_
 refine at_block_hit ?_
 refine at_then ?_
 refine X_seq ?_
 refine X_draw mixed (by kernel_rfl) ?_
 refine XQ_v0 (ev_move rfl) rfl rfl rfl ?_
 refine XQ_v0 (ev_move rfl) rfl rfl rfl ?_
 refine XQ_v0 (ev_move rfl) rfl rfl rfl ?_
 refine XQ_v0 (ev_cmp rfl rfl rfl) rfl rfl rfl ?_
 refine XQ_v0 (ev_move rfl) rfl rfl rfl ?_
 refine XQ_pushT 4 rfl rfl rfl ?_
 refine XQ_v1 (ev_move rfl) (.some rfl rfl rfl rfl gbt) rfl rfl rfl ?_
 refine XQ_v1 (ev_move rfl) (.some rfl rfl rfl rfl gbt) rfl rfl rfl ?_
 refine XQ_v1 (ev_move rfl) (.some rfl rfl rfl rfl gbt) rfl rfl rfl ?_
 refine XQ_v1 (ev_indexSl rfl rfl slt_22 (by assumption) (fun hg => by first | omega | (simp [conj] at hg; omega))) (.some rfl rfl rfl rfl gbt) rfl rfl rfl ?_
 refine XQ_v1 (ev_loadA rfl agt_26 (fun hg => by first | exact Sl.getA (k := (i + j) / 2) hS hy | exact Sl.getA (k := i) hS (some_getD (d := zeroG) hS.len (by simp [conj] at hg; omega)) | exact Sl.getA (k := j) hS (some_getD (d := zeroG) hS.len (by simp [conj] at hg; omega)) | exact Cells.here | (repeat (first | exact Cells.here | exact Cells.s0 (vs := [_, _, _, _, _, _, _, _, _, _, _, _, _, _]) rfl | apply Cells.there | apply Cells.app))) rfl) (.some rfl rfl rfl rfl gbt) rfl rfl rfl ?_
 refine XQ_v1 (ev_loadA rfl agt_26 (fun hg => by first | exact Sl.getA (k := (i + j) / 2) hS hy | exact Sl.getA (k := i) hS (some_getD (d := zeroG) hS.len (by simp [conj] at hg; omega)) | exact Sl.getA (k := j) hS (some_getD (d := zeroG) hS.len (by simp [conj] at hg; omega)) | exact Cells.here | (repeat (first | exact Cells.here | exact Cells.s0 (vs := [_, _, _, _, _, _, _, _, _, _, _, _, _, _]) rfl | apply Cells.there | apply Cells.app))) rfl) (.some rfl rfl rfl rfl gbt) rfl rfl rfl ?_
 refine XQ_callV1 (cap := []) (vs := [_, _]) rfl rfl fun_19 (fun hg => w_cmpS I _ _) (.some rfl rfl rfl rfl gbt) rfl rfl ?_
 refine XQ_v1 (ev_cmp rfl rfl rfl) (.some rfl rfl rfl rfl gbt) rfl rfl rfl ?_
 refine XQ_and0 rfl rfl rfl rfl rfl ?_
 refine XQ_v0 (ev_assign rfl) rfl rfl rfl ?_
 refine XQ_v0 (ev_assign rfl) rfl rfl rfl ?_
 refine XQ_nil ?_
 refine at_then ?_
 refine X_ret ?_
 exact at_ret2 rfl rfl rfl (fun w hw => ⟨by rw [← hbs]; simp, hw.drop⟩)
theorem split3G {zs : List Value} {a b : Nat} (h : a + b ≤ zs.length) : ∃ p q r, zs = p ++ (q ++ r) ∧ p.length = a ∧ q.length = b :=
 ⟨zs.take a, (zs.drop a).take b, (zs.drop a).drop b, by rw [List.take_append_drop, List.take_append_drop], by rw [List.length_take]; omega, by rw [List.length_take, List.length_drop]; omega⟩
theorem lenG9 (xs : List Sg) : (xs.flatMap encG).length = xs.length * 14 := flat_len encG_len xs
theorem own_rowG {b n c : Nat} {xs : List Sg} {cur rest : List Value} (hl : xs.length = n) (hn : n ≤ c) (hc : c ≤ maxLen) (hcur : cur = xs.flatMap encG ++ rest) (hs : cur.length = c * 14) : OwnS 26 14 (.slice (some ⟨b, 0, none⟩) n c) n (xs.flatMap encG) [(b, .cells cur.toArray 26 (0, 0))] := by
 subst hcur
 refine ⟨by rw [lenG9, hl], .inr ⟨b, c, _, rfl, rfl, hn, hc, by simpa using hs, ?_⟩⟩
 rw [List.take_left' (by rw [lenG9, hl])]
theorem w_ins_end {I : HMap} {av : Option Addr} {n c : Nat} {xs : List Sg} {L : Go.Kn.Loc} (hO : OwnS 26 14 (.slice av n c) n (xs.flatMap encG) L) (hn : n ≤ 100000) (hl : xs.length = n) (b2 : Nat) (y : Sg) : RetM Tryz.prog 21 [.slice av n c, .int .i64 n, .slice (some ⟨b2, 0, none⟩) 1 1] I (L ++ [(b2, .cells [encG y].flatten.toArray 26 (0, 0))]) (fun v' I' L' => I' = I ∧ OwnS 26 14 v' (n + 1) ((xs.take n ++ y :: xs.drop n).flatMap encG) L') := by
 intro g H w hw
 refine enter Tryz.func21 rfl Tryz.ntmps21 rfl hw ?_
 refine zR ?_
 refine zA ?_
 refine zN (zR ?_)
 refine zM ?_
 refine zM ?_
 refine zV (ev_sliceLo rfl rfl slt_22 (fun hg => by omega)) ?_
 refine zN (zR ?_)
 refine zM ?_
 refine zQ slt_22 ?_
 refine zA ?_
 refine zN ?_
 refine X_seq ?_
 refine zR ?_
 refine zM ?_
 refine zC ?_
 refine zN ?_
 refine zI ?_ ?_ <;> intro hc16
 ·
  exact absurd hc16 (by decide)
 refine X_skip ?_
 refine at_then ?_
 refine zR ?_
 refine zM ?_
 refine zQ slt_22 ?_
 refine zA ?_
 refine zN ?_
 refine X_seq ?_
 refine zR ?_
 refine zM ?_
 refine zM ?_
 refine zC ?_
 refine zN ?_
 refine zI ?_ ?_ <;> intro hc22
 ·
  refine zR ?_
  refine zM ?_
  refine zM ?_
  refine XO_append (v := _) (ys := [encG y].flatten) (L := L) rfl rfl elt_22 hO (by repeat (first | exact .cons .here .nil | exact split_all | exact split_app | apply split_cons | apply split_skip)) ⟨rfl, fun _ => rfl, .app Cells.here⟩ rfl (by omega) rfl rfl ?_
  intro v' L' hO' _
  refine zA ?_
  refine zN ?_
  refine X_ret ?_
  refine at_then_r ?_
  exact at_ret1 rfl rfl (fun w hw => ⟨_, I, _, rfl, HLe.refl _, hw.subL subL_left, rfl, by rw [List.take_of_length_le (by omega), List.drop_eq_nil_of_le (by omega)]; simpa [List.flatMap_append] using hO'⟩)
 exact absurd hc22 (by simp)
theorem w_ins_in {I : HMap} {b n c i : Nat} {xs : List Sg} {R : List Value} (hl : xs.length = n) (hi : i < n) (hn : n ≤ 100000) (hnc : n ≤ c) (hcm : c ≤ maxLen) (hR : (((xs.take i).flatMap encG) ++ ((xs.drop i).flatMap encG) ++ R).length = c * 14) (b2 : Nat) (hne : b2 ≠ b) (y : Sg) : RetM Tryz.prog 21 [.slice (some ⟨b, 0, none⟩) n c, .int .i64 i, .slice (some ⟨b2, 0, none⟩) 1 1] I ([(b, .cells (((xs.take i).flatMap encG) ++ ((xs.drop i).flatMap encG) ++ R).toArray 26 (0, 0)), (b2, .cells [encG y].flatten.toArray 26 (0, 0))]) (fun v' I' L' => I' = I ∧ OwnS 26 14 v' (n + 1) ((xs.take i ++ y :: xs.drop i).flatMap encG) L') := by
 intro g H w hw
 refine enter Tryz.func21 rfl Tryz.ntmps21 rfl hw ?_
 have hA : ((xs.take i).flatMap encG).length = i * 14 := by rw [lenG9, List.length_take]; omega
 have hB : ((xs.drop i).flatMap encG).length = (n - i) * 14 := by rw [lenG9, List.length_drop]; omega
 refine zR ?_
 refine zA ?_
 refine zN (zR ?_)
 refine zM ?_
 refine zM ?_
 refine zV (ev_sliceLoB rfl rfl slt_22 (by omega)) ?_
 refine zN (zR ?_)
 refine zM ?_
 refine zQ slt_22 ?_
 refine zA ?_
 refine zN ?_
 refine X_seq ?_
 refine zR ?_
 refine zM ?_
 refine zC ?_
 refine zN ?_
 refine zI ?_ ?_ <;> intro hc16
 ·
  exact absurd hc16 (by decide)
 refine X_skip ?_
 refine at_then ?_
 refine zR ?_
 refine zM ?_
 refine zQ slt_22 ?_
 refine zA ?_
 refine zN ?_
 refine X_seq ?_
 refine zR ?_
 refine zM ?_
 refine zM ?_
 refine zC ?_
 refine zN ?_
 refine zI ?_ ?_ <;> intro hc22
 ·
  have h := hc22; simp at h; omega
 refine X_skip ?_
 refine at_then ?_
 refine X_seq ?_
 refine zR ?_
 refine zM ?_
 refine zM ?_
 refine zV (ev_arB rfl rfl rfl (fun _ => by omega)) ?_
 refine zM ?_
 refine zV (ev_cap rfl slt_22) ?_
 refine zC ?_
 refine zN ?_
 refine zI ?_ ?_ <;> intro hc31
 ·
  have hgr : c < n + 1 := by have h := hc31; simp at h; omega
  refine zR ?_
  refine zM ?_
  refine zM ?_
  refine zV (ev_sliceHi rfl rfl slt_22 (fun hg => by omega)) ?_
  refine zM ?_
  refine zM ?_
  refine zV (ev_arB rfl rfl rfl (fun _ => by omega)) ?_
  refine zM ?_
  refine zV (ev_arB rfl rfl rfl (fun _ => by omega)) ?_
  refine XO_appendZ (ys := ((xs.take i).flatMap encG)) rfl rfl elt_22 und_3 (by omega) (by decide) (by omega) hA (Cells.part (pre := []) (post := ((xs.drop i).flatMap encG) ++ R) (by rw [List.nil_append, ← List.append_assoc]; exact .here) rfl) (by omega) rfl rfl (fun b3 c3 zs hc3 hm3 hz3 => ?_)
  obtain ⟨z1, z2, z3, rfl, hz1, hz2⟩ := split3G (zs := zs) (a := 14) (b := (n - i) * 14) (by rw [List.length_append, hA] at hz3; omega)
  refine zA ?_
  refine zN (zR ?_)
  refine zM ?_
  refine zM ?_
  refine zV (ev_sliceLoB rfl rfl slt_22 (by omega)) ?_
  refine zM ?_
  refine XO_copy (pre := ((xs.take i).flatMap encG)) (old := z1) (post := z2 ++ z3) (vs := [encG y].flatten) (cur' := (((xs.take i).flatMap encG) ++ [encG y].flatten ++ (z2 ++ z3)).toArray) (by rw [List.append_assoc]) rfl rfl rfl slt_22 (by show 14 = _; simp only [Nat.min_def]; split <;> omega) (by rw [hz1]; rfl) (by omega) (fun _ => rfl) (.there (.there .here)) rfl rfl rfl .here ?_
  refine zN ?_
  refine X_seq ?_
  have hD := HLe.refl I
  refine X_noP ?_
  refine X_drawS I [] mixed ?_
  refine zT 0 rfl (ev_move rfl) hD ?_
  refine zT 1 rfl (ev_move rfl) hD ?_
  refine zT 2 rfl (ev_move rfl) hD ?_
  refine zT 3 rfl (ev_arB rfl rfl rfl (fun _ => by omega)) hD ?_
  refine zT 4 rfl (ev_sliceLoB rfl rfl slt_22 (by omega)) hD ?_
  refine zT 5 rfl (ev_move rfl) hD ?_
  refine zT 6 rfl (ev_move rfl) hD ?_
  refine zT 7 rfl (ev_sliceLoB rfl rfl slt_22 (by omega)) hD ?_
  refine XD_one 8 rfl (by kernel_rfl) ?_
  refine XO_copy (pre := ((xs.take i).flatMap encG) ++ [encG y].flatten) (old := z2) (post := z3) (vs := ((xs.drop i).flatMap encG)) (cur' := (((xs.take i).flatMap encG) ++ [encG y].flatten ++ ((xs.drop i).flatMap encG) ++ z3).toArray) (by rw [List.append_assoc, List.append_assoc, List.append_assoc]) rfl rfl rfl slt_22 (by rw [hB]; simp only [Nat.min_def]; split <;> omega) (by rw [hz2, hB]) (by rw [List.length_append, hA]; show i * 14 + 14 = _; omega) (fun _ => rfl) (.there (Cells.part (pre := ((xs.take i).flatMap encG)) (post := R) .here (by show 0 + _ = _; rw [hA]; omega))) (one_G _) rfl rfl .here ?_
  refine XO_nil ?_
  refine zD hD ?_
  refine XD_done (by kernel_rfl) ?_
  refine at_noP ?_
  refine at_then ?_
  refine zR ?_
  refine zM ?_
  refine zA ?_
  refine zN ?_
  refine X_ret ?_
  refine at_then_r ?_
  first
  | exact at_ret1 rfl rfl (fun w hw => ⟨_, I, _, rfl, HLe.refl _, hw.subL (.keep subL_nil), rfl, by rw [show (i : Int).toNat + ((n : Int) + ((1 : Nat) : Int) - (i : Int)).toNat = n + 1 by omega]; exact own_rowG (rest := z3) (by simp [hl]; omega) (by omega) hm3 (by simp [List.flatMap_append, List.flatMap_cons]) (by simp only [List.length_append, hA, hB, hz1, hz2] at hz3 ⊢; show _ + 14 + _ + _ = _; omega)⟩)
  | exact at_ret1 rfl rfl (fun w hw => ⟨_, I, _, rfl, HLe.refl _, hw.subL (.keep subL_nil), rfl, by rw [show ((n : Int) + ((1 : Nat) : Int)).toNat = n + 1 by omega]; exact own_rowG (rest := R2) (by simp [hl]; omega) hgr hcm (by simp [List.flatMap_append, List.flatMap_cons]) (by simp only [List.length_append, hA, hB, hr5] at hR ⊢; show _ + 14 + _ = _; omega)⟩)
 have hgr : n + 1 ≤ c := by have h := hc31; simp at h; omega
 refine X_skip ?_
 refine at_then ?_
 refine X_seq ?_
 obtain ⟨r5, R2, rfl, hr5⟩ : ∃ r5 R2, R = r5 ++ R2 ∧ r5.length = 14 := ⟨R.take 14, R.drop 14, by rw [List.take_append_drop], by rw [List.length_take]; simp only [List.length_append, hA, hB] at hR; omega⟩
 obtain ⟨p1, p2, hpp, hp1, hp2⟩ : ∃ p1 p2, ((xs.drop i).flatMap encG) ++ r5 = p1 ++ p2 ∧ p1.length = 14 ∧ p2.length = (n - i) * 14 := ⟨(((xs.drop i).flatMap encG) ++ r5).take 14, (((xs.drop i).flatMap encG) ++ r5).drop 14, by rw [List.take_append_drop], by rw [List.length_take, List.length_append, hB, hr5]; omega, by rw [List.length_drop, List.length_append, hB, hr5]; omega⟩
 have hcur : (((xs.take i).flatMap encG) ++ ((xs.drop i).flatMap encG) ++ (r5 ++ R2)).toArray = (((xs.take i).flatMap encG) ++ p1 ++ p2 ++ R2).toArray := by rw [List.append_assoc (((xs.take i).flatMap encG) ++ p1), List.append_assoc ((xs.take i).flatMap encG) p1, ← List.append_assoc p1, ← hpp]; simp only [List.append_assoc]
 refine X_region ?_
 refine zM ?_
 refine zM ?_
 refine zM ?_
 refine zV (ev_arB rfl rfl rfl (fun _ => by omega)) ?_
 refine zV (ev_sliceHi rfl rfl slt_22 (fun hg => by omega)) ?_
 refine zA ?_
 refine zN ?_
 refine X_seq ?_
 refine zR ?_
 refine zM ?_
 refine zM ?_
 refine zM ?_
 refine zM ?_
 refine zV (ev_arB rfl rfl rfl (fun _ => by omega)) ?_
 refine zV (ev_sliceLoB rfl rfl slt_22 (by omega)) ?_
 refine XO_overlaps rfl rfl rfl Tryz.func72 (by kernel_rfl) (by kernel_rfl) (by kernel_rfl) (by kernel_rfl : Extern.find Tryz.f72 = some (Extern.SlicesOverlaps.overlaps #[22, 22] #[4])) slt_22 hne (List.mem_cons_of_mem _ (List.mem_cons_self ..)) (List.mem_cons_self ..) (by rw [List.size_toArray, hR]; omega) rfl rfl ?_
 refine zO ?_
 refine zN ?_
 refine zI ?_ ?_ <;> intro hc68
 ·
  refine X_seq ?_
  have hD := HLe.refl I
  refine X_noP ?_
  refine X_drawS I [] mixed ?_
  refine zT 0 rfl (ev_move rfl) hD ?_
  refine zT 1 rfl (ev_move rfl) hD ?_
  refine zT 2 rfl (ev_move rfl) hD ?_
  refine zT 3 rfl (ev_arB rfl rfl rfl (fun _ => by omega)) hD ?_
  refine zT 4 rfl (ev_sliceLoB rfl rfl slt_22 (by omega)) hD ?_
  refine zT 5 rfl (ev_move rfl) hD ?_
  refine zT 6 rfl (ev_move rfl) hD ?_
  refine zT 7 rfl (ev_sliceLoB rfl rfl slt_22 (by omega)) hD ?_
  refine XD_one 8 rfl (by kernel_rfl) ?_
  refine XO_copy (pre := ((xs.take i).flatMap encG) ++ p1) (old := p2) (post := R2) (vs := ((xs.drop i).flatMap encG)) (cur' := (((xs.take i).flatMap encG) ++ p1 ++ ((xs.drop i).flatMap encG) ++ R2).toArray) hcur rfl rfl rfl slt_22 (by rw [hB]; simp only [Nat.min_def]; split <;> omega) (by rw [hp2, hB]) (by rw [List.length_append, hA, hp1]; omega) (fun _ => rfl) (Cells.part (pre := ((xs.take i).flatMap encG)) (post := r5 ++ R2) .here (by show 0 + _ = _; rw [hA]; omega)) (one_G _) rfl rfl .here ?_
  refine XO_nil ?_
  refine zD hD ?_
  refine XD_done (by kernel_rfl) ?_
  refine at_noP ?_
  refine at_then ?_
  refine zR ?_
  refine zM ?_
  refine zM ?_
  refine zV (ev_sliceLoB rfl rfl slt_22 (by omega)) ?_
  refine zM ?_
  refine XO_copy (pre := ((xs.take i).flatMap encG)) (old := p1) (post := ((xs.drop i).flatMap encG) ++ R2) (vs := [encG y].flatten) (cur' := (((xs.take i).flatMap encG) ++ [encG y].flatten ++ (((xs.drop i).flatMap encG) ++ R2)).toArray) (by rw [List.append_assoc (_ ++ _)]) rfl rfl rfl slt_22 (by show 14 = _; simp only [Nat.min_def]; split <;> omega) (by rw [hp1]; rfl) (by omega) (fun _ => rfl) (.there .here) rfl rfl rfl .here ?_
  refine zN (zR ?_)
  refine zM ?_
  refine zA ?_
  refine zN ?_
  refine X_ret ?_
  refine at_then_r ?_
  first
  | exact at_ret1 rfl rfl (fun w hw => ⟨_, I, _, rfl, HLe.refl _, hw.subL (.keep subL_nil), rfl, by rw [show (i : Int).toNat + ((n : Int) + ((1 : Nat) : Int) - (i : Int)).toNat = n + 1 by omega]; exact own_rowG (rest := z3) (by simp [hl]; omega) (by omega) hm3 (by simp [List.flatMap_append, List.flatMap_cons]) (by simp only [List.length_append, hA, hB, hz1, hz2] at hz3 ⊢; show _ + 14 + _ + _ = _; omega)⟩)
  | exact at_ret1 rfl rfl (fun w hw => ⟨_, I, _, rfl, HLe.refl _, hw.subL (.keep subL_nil), rfl, by rw [show ((n : Int) + ((1 : Nat) : Int)).toNat = n + 1 by omega]; exact own_rowG (rest := R2) (by simp [hl]; omega) hgr hcm (by simp [List.flatMap_append, List.flatMap_cons]) (by simp only [List.length_append, hA, hB, hr5] at hR ⊢; show _ + 14 + _ = _; omega)⟩)
 cases hc68
theorem w_insert {I : HMap} {v : Value} {n : Nat} {xs : List Sg} {L : Go.Kn.Loc} (hO : OwnS 26 14 v n (xs.flatMap encG) L) (hn : n ≤ 100000) (hl : xs.length = n) {i : Nat} (hi : i ≤ n) (b2 : Nat) (y : Sg) :
  RetM Tryz.prog 21 [v, .int .i64 i, .slice (some ⟨b2, 0, none⟩) 1 1] I (L ++ [(b2, .cells [encG y].flatten.toArray 26 (0, 0))]) (fun v' I' L' => I' = I ∧ OwnS 26 14 v' (n + 1) ((xs.take i ++ y :: xs.drop i).flatMap encG) L') := by
 by_cases hin : i = n
 ·
  subst hin
  obtain ⟨av, c, rfl⟩ := hO.shape
  exact w_ins_end hO hn hl b2 y
 rcases hO.2 with ⟨_, h0, _⟩ | ⟨b, c, cur, rfl, rfl, hnc, hcm, hcs, ht⟩
 ·
  omega
 intro g H w hw
 have hne : b2 ≠ b := fun e => by
  have := hw.nodup
  subst e
  simp at this
 have hsplit : (xs.take i).flatMap encG ++ (xs.drop i).flatMap encG = xs.flatMap encG := by rw [← List.flatMap_append, List.take_append_drop]
 have hcur : cur = ((xs.take i).flatMap encG ++ (xs.drop i).flatMap encG ++ cur.toList.drop (n * 14)).toArray := by
  rw [hsplit, ← ht, List.take_append_drop, Array.toArray_toList]
 rw [hcur] at hw
 exact w_ins_in hl (by omega) hn hnc hcm (by rw [hsplit, ← ht, List.take_append_drop, Array.length_toList, hcs]) b2 hne y g H w hw
end Go.Proofs.YtoicbikdenlioaaGreat
end
section
namespace Go.Proofs.YtoicbikdenlioaaGreat
open Go Go.Kn Go.Proofs
theorem eqt3_28 : EqT3 Tryz.prog 28 [.int, .int, .int, .int, .int, .int, .int, .int, .int, .int, .int, .int, .int, .int, .int, .int, .int, .int, .int, .int, .int, .int] := ⟨by kernel_rfl, by kernel_rfl, by kernel_rfl, by kernel_rfl⟩
theorem fun_17 : Fun Tryz.prog 17 := .of Tryz.func17 (by kernel_rfl) (by kernel_rfl)
theorem fun_18 : Fun Tryz.prog 18 := .of Tryz.func18 (by kernel_rfl) (by kernel_rfl)
theorem fun_21 : Fun Tryz.prog 21 := .of Tryz.func21 (by kernel_rfl) (by kernel_rfl)
theorem zt_58 : ZeroT Tryz.prog 58 (.agg #[.nilFunc, .nilFunc, .nilFunc]) := .of (by kernel_rfl)
theorem w_Apply {I : HMap} {av : Option Addr} {n c : Nat} {xs : List Sg} (hS : Sl I 14 encG av n c xs) (hn : n ≤ 1000) (e : Ed) : RetM Tryz.prog 5 [.slice av n c, encEA e] I [] (fun v I' L => L = [] ∧ ∃ a9 n9 c9 ys er, v = .tuple #[.slice a9 n9 c9, .int .i64 er] ∧ Sl I' 14 encG a9 n9 c9 ys ∧ n9 ≤ n + 1 ∧ (er = 0 → AppR xs e.kind e.sign.id ys) ∧ (chkG xs = 0 → within e.kind 1 7 = false → er = 360)) := by
 intro g H w hw
 refine enter Tryz.func5 rfl Tryz.ntmps5 rfl hw ?_
 have hIc := HLe.refl I
 refine zR ?_
 refine XO_box rfl rfl rfl (fun b_3 => ?_)
 refine zA ?_
 refine zA ?_
 refine zN ?_
 refine X_seq ?_
 refine X_seq ?_
 refine X_freeze .here (fun I1 hI1 hb1 => ?_)
 have hS := hS.mono hI1; have hIc := hIc.trans hI1
 have hE := ImmC.of hb1
 refine X_region ?_
 refine zM ?_
 refine XO_callV0 (cap := []) (vs := [_]) rfl rfl fun_15 (w_chkG hS (by omega)) rfl rfl ?_
 refine zA ?_
 refine zN (zR ?_)
 refine zM ?_
 refine zC ?_
 refine zN ?_
 refine zI ?_ ?_ <;> intro hc18
 ·
  have hne : chkG xs ≠ 0 := by simpa using hc18
  refine zR ?_
  refine zM ?_
  refine zA ?_
  refine zA ?_
  refine zN ?_
  refine X_ret ?_
  refine at_then_r ?_
  first
  | exact at_ret2 rfl rfl rfl (fun w hw => ⟨_, I1, [], rfl, hIc, hw.drop, rfl, none, 0, 0, [], _, rfl, .nil, Nat.zero_le _, fun h => absurd h hne, fun h => absurd h hne⟩)
  | exact at_ret2 rfl rfl rfl (fun w hw => ⟨_, I1, [], rfl, hIc, hw.drop, rfl, none, 0, 0, [], _, rfl, .nil, Nat.zero_le _, fun h => absurd h (by decide), fun _ _ => rfl⟩)
  | exact at_ret2 rfl rfl rfl (fun w hw => ⟨_, I1, [], rfl, hIc, hw.drop, rfl, none, 0, 0, [], _, rfl, .nil, Nat.zero_le _, fun h => absurd h hye, fun _ h => by rw [hwi] at h; cases h⟩)
  | exact at_freezeO hO encG_len (by decide) (by repeat (first | exact .cons .here .nil | exact split_all | exact split_app | apply split_cons | apply split_skip)) (fun I7 hI7 a7 c7 e7 hS7 => by cases e7; exact at_ret2 rfl rfl rfl (fun w hw => ⟨_, I7, [], rfl, hIc.trans hI7, hw.drop, rfl, pa, q, pc, ys, _, rfl, hS7, by omega, fun _ => hfr.app_r hx0 hy0, fun _ h => by rw [hwi] at h; cases h⟩))
 have hx0 : chkG xs = 0 := by simpa using hc18
 refine X_skip ?_
 refine at_then ?_
 refine X_seq ?_
 refine zR ?_
 refine zF fld_28_0 ?_
 refine zV (ev_load rfl sct_3 (fun hg => by first | exact Cell.imm hE rfl | (repeat (first | exact Cell.here rfl | apply Cell.there | apply Cell.app)))) ?_
 refine XO_callV0 (cap := []) (vs := [_, _, _]) rfl rfl fun_16 (w_within I1 _ _ _) rfl rfl ?_
 refine zO ?_
 refine zN ?_
 refine zI ?_ ?_ <;> intro hc23
 ·
  have hwi : within e.kind 1 7 = false := by simpa using hc23
  refine zR ?_
  refine zA ?_
  refine zA ?_
  refine zN ?_
  refine X_ret ?_
  refine at_then_r ?_
  first
  | exact at_ret2 rfl rfl rfl (fun w hw => ⟨_, I1, [], rfl, hIc, hw.drop, rfl, none, 0, 0, [], _, rfl, .nil, Nat.zero_le _, fun h => absurd h hne, fun h => absurd h hne⟩)
  | exact at_ret2 rfl rfl rfl (fun w hw => ⟨_, I1, [], rfl, hIc, hw.drop, rfl, none, 0, 0, [], _, rfl, .nil, Nat.zero_le _, fun h => absurd h (by decide), fun _ _ => rfl⟩)
  | exact at_ret2 rfl rfl rfl (fun w hw => ⟨_, I1, [], rfl, hIc, hw.drop, rfl, none, 0, 0, [], _, rfl, .nil, Nat.zero_le _, fun h => absurd h hye, fun _ h => by rw [hwi] at h; cases h⟩)
  | exact at_freezeO hO encG_len (by decide) (by repeat (first | exact .cons .here .nil | exact split_all | exact split_app | apply split_cons | apply split_skip)) (fun I7 hI7 a7 c7 e7 hS7 => by cases e7; exact at_ret2 rfl rfl rfl (fun w hw => ⟨_, I7, [], rfl, hIc.trans hI7, hw.drop, rfl, pa, q, pc, ys, _, rfl, hS7, by omega, fun _ => hfr.app_r hx0 hy0, fun _ h => by rw [hwi] at h; cases h⟩))
 have hwi : within e.kind 1 7 = true := by simpa using hc23
 have hk7 := win7 hwi
 refine X_skip ?_
 refine at_then ?_
 refine X_cutT [(0, _), (3, _), (4, _)] (.cons rfl (.cons rfl (.cons rfl .nil))) (fun T L0 E I' loc' => ∃ (p6 f0 f1 f2 : Nat) (c0 c1 c2 : List Value), E = (6, capP p6) :: T ∧ HLe I1 I' ∧ [(p6, .cells #[.func (.func f0) #[] c0.toArray, .func (.func f1) #[] c1.toArray, .func (.func f2) #[] c2.toArray] 58 (0, 0))] = loc' ∧ KdR Tryz.prog I' f0 f1 f2 c0 c1 c2) ?_ ?_
 ·
  have hKc6 := HLe.refl I1
  have hD := HLe.refl I1
  refine X_noP ?_
  refine X_drawS I1 [] mixed ?_
  refine zT 1 rfl (ev_fieldAddr rfl fld_28_0) hD ?_
  refine zT 2 rfl (ev_load rfl sct_3 (fun hg => by first | exact Cell.imm hE rfl | (repeat (first | exact Cell.here rfl | apply Cell.there | apply Cell.app)))) hD ?_
  refine XD_two 0 4 rfl rfl (by kernel_rfl) ?_ ?_
  ·
   refine XO_callM (cap := []) (vs := []) rfl rfl fun_17 .nil (w_kinds I1) rfl rfl ?_
   rintro vv2 I2 L2 hI2 ⟨rfl, b1, rfl, hb1⟩
   have hS := hS.mono hI2; have hE := hE.mono hI2; have hIc := hIc.trans hI2; have hKc6 := hKc6.trans hI2; have hD := hD.trans hI2
   obtain ⟨f0, f1, f2, c0, c1, c2, hkd, hKd⟩ := kd_at hb1 hk7
   refine XO_nil ?_
   refine zD hD ?_
   refine XD_two 3 4 rfl rfl (by kernel_rfl) ?_ ?_
   ·
    refine zV (ev_indexAg rfl rfl art_59 agt_58 (fun hg => by omega)) ?_
    rw [hkd]
    refine XO_nil ?_
    refine zD hD ?_
    refine XD_one 4 rfl (by kernel_rfl) ?_
    refine XO_alloc zt_58 rfl rfl (fun b_6 => ?_)
    refine XO_nil ?_
    refine zD hD ?_
    refine XD_one 5 rfl (by kernel_rfl) ?_
    refine XO_storeA rfl rfl szt_58 rfl rfl rfl rfl (by repeat (first | exact Upd.here | apply Upd.there | apply upd_app)) ?_
    refine XO_nil ?_
    refine zD hD ?_
    refine XD_done (by kernel_rfl) ?_
    refine at_noP ?_
    exact at_met2 _ _ ⟨_, f0, f1, f2, c0, c1, c2, rfl, hKc6, rfl, hKd⟩ (.cons rfl (.cons rfl (.cons rfl (.cons rfl .nil)))) (by repeat (first | exact .refl | exact subL_left | refine subL_app ?_ | refine .drop ?_ | refine subL_add ?_))
   refine XO_alloc zt_58 rfl rfl (fun b_6 => ?_)
   refine XO_nil ?_
   refine zD hD ?_
   refine XD_one 3 rfl (by kernel_rfl) ?_
   refine zV (ev_indexAg rfl rfl art_59 agt_58 (fun hg => by omega)) ?_
   rw [hkd]
   refine XO_nil ?_
   refine zD hD ?_
   refine XD_one 5 rfl (by kernel_rfl) ?_
   refine XO_storeA rfl rfl szt_58 rfl rfl rfl rfl (by repeat (first | exact Upd.here | apply Upd.there | apply upd_app)) ?_
   refine XO_nil ?_
   refine zD hD ?_
   refine XD_done (by kernel_rfl) ?_
   refine at_noP ?_
   exact at_met2 _ _ ⟨_, f0, f1, f2, c0, c1, c2, rfl, hKc6, rfl, hKd⟩ (.cons rfl (.cons rfl (.cons rfl (.cons rfl .nil)))) (by repeat (first | exact .refl | exact subL_left | refine subL_app ?_ | refine .drop ?_ | refine subL_add ?_))
  refine XO_alloc zt_58 rfl rfl (fun b_6 => ?_)
  refine XO_nil ?_
  refine zD hD ?_
  refine XD_one 0 rfl (by kernel_rfl) ?_
  refine XO_callM (cap := []) (vs := []) rfl rfl fun_17 .nil (w_kinds I1) rfl rfl ?_
  rintro vv3 I3 L3 hI3 ⟨rfl, b1, rfl, hb1⟩
  have hS := hS.mono hI3; have hE := hE.mono hI3; have hIc := hIc.trans hI3; have hKc6 := hKc6.trans hI3; have hD := hD.trans hI3
  obtain ⟨f0, f1, f2, c0, c1, c2, hkd, hKd⟩ := kd_at hb1 hk7
  refine XO_nil ?_
  refine zD hD ?_
  refine XD_one 3 rfl (by kernel_rfl) ?_
  refine zV (ev_indexAg rfl rfl art_59 agt_58 (fun hg => by omega)) ?_
  rw [hkd]
  refine XO_nil ?_
  refine zD hD ?_
  refine XD_one 5 rfl (by kernel_rfl) ?_
  refine XO_storeA rfl rfl szt_58 rfl rfl rfl rfl (by repeat (first | exact Upd.here | apply Upd.there | apply upd_app)) ?_
  refine XO_nil ?_
  refine zD hD ?_
  refine XD_done (by kernel_rfl) ?_
  refine at_noP ?_
  exact at_met2 _ _ ⟨_, f0, f1, f2, c0, c1, c2, rfl, hKc6, rfl, hKd⟩ (.cons rfl (.cons rfl (.cons rfl (.cons rfl .nil)))) (by repeat (first | exact .refl | exact subL_left | refine subL_app ?_ | refine .drop ?_ | refine subL_add ?_))
 rintro E J4 loc' ⟨p6, f0, f1, f2, c0, c1, c2, rfl, hJ, rfl, hKd⟩
 have hS := hS.mono hJ; have hE := hE.mono hJ; have hIc := hIc.trans hJ
 obtain ⟨⟨hF0, hr⟩, ⟨hF1, hf⟩, hF2, hd⟩ := hKd
 obtain ⟨e2, hr0⟩ := hr _ (HLe.refl _) e
 obtain ⟨g1, hf1⟩ := hf _ (HLe.refl _) e
 refine zR ?_
 refine zF fld_58_0 ?_
 refine zV (ev_load rfl sct_54 (fun hg => by first | exact Cell.imm hE rfl | (repeat (first | exact Cell.here rfl | apply Cell.there | apply Cell.app)))) ?_
 refine zV (ev_loadA rfl agt_28 (fun hg => by first | exact Sl.getA hS hx | exact imm_sg hE | exact Cells.immC (vs := encE e) hE | exact Cells.here | (repeat (first | exact Cells.here | exact Cells.s0 (vs := [_, _, _, _, _, _, _, _, _, _, _, _, _, _, _, _, _, _, _, _, _, _]) rfl | apply Cells.there | apply Cells.app))) rfl) ?_
 refine XO_callV0 (cap := c0) (vs := [_]) rfl rfl hF0 (hr0) rfl rfl ?_
 refine XO_alloc zt_28 rfl rfl (fun b_7 => ?_)
 refine XO_storeA rfl rfl szt_28 rfl rfl rfl rfl (by repeat (first | exact Upd.here | apply Upd.there | apply upd_app)) ?_
 refine zN (zR ?_)
 refine zF fld_28_0 ?_
 refine zV (ev_load rfl sct_3 (fun hg => by first | exact Cell.imm hE rfl | (repeat (first | exact Cell.here rfl | apply Cell.there | apply Cell.app)))) ?_
 refine zF fld_28_0 ?_
 refine zS szt_3 ?_
 refine XO_nil ?_
 rw [set_ekind]
 refine at_then ?_
 refine X_seq ?_
 refine zR ?_
 refine zV (ev_loadA rfl agt_28 (fun hg => by first | exact Sl.getA hS hx | exact imm_sg hE | exact Cells.immC (vs := encE e) hE | exact Cells.here | (repeat (first | exact Cells.here | exact Cells.s0 (vs := [_, _, _, _, _, _, _, _, _, _, _, _, _, _, _, _, _, _, _, _, _, _]) rfl | apply Cells.there | apply Cells.app))) rfl) ?_
 refine zV (ev_loadA rfl agt_28 (fun hg => by first | exact Sl.getA hS hx | exact imm_sg hE | exact Cells.immC (vs := encE e) hE | exact Cells.here | (repeat (first | exact Cells.here | exact Cells.s0 (vs := [_, _, _, _, _, _, _, _, _, _, _, _, _, _, _, _, _, _, _, _, _, _]) rfl | apply Cells.there | apply Cells.app))) rfl) ?_
 refine zV (ev_neS3 rfl rfl eqt3_28 rfl) ?_
 refine zM ?_
 refine XO_pushF 3 rfl rfl rfl ?_
 refine zJ (ev_fieldAddr rfl fld_58_1) ?_
 refine zJ (ev_load rfl sct_55 (fun hg => by first | exact Cell.imm hE rfl | (repeat (first | exact Cell.here rfl | apply Cell.there | apply Cell.app)))) ?_
 refine zJ (ev_loadA rfl agt_28 (fun hg => by first | exact Sl.getA hS hx | exact imm_sg hE | exact Cells.immC (vs := encE e) hE | exact Cells.here | (repeat (first | exact Cells.here | exact Cells.s0 (vs := [_, _, _, _, _, _, _, _, _, _, _, _, _, _, _, _, _, _, _, _, _, _]) rfl | apply Cells.there | apply Cells.app))) rfl) ?_
 refine XO_callV1 (cap := c1) (vs := [_]) rfl rfl hF1 (fun hg => hf1) (.some rfl rfl rfl rfl gbf) rfl rfl ?_
 refine zJ (ev_not rfl) ?_
 refine XO_or0 rfl rfl rfl rfl rfl ?_
 refine zN ?_
 refine zI ?_ ?_ <;> intro hc44
 ·
  refine zR ?_
  refine zA ?_
  refine zA ?_
  refine zN ?_
  refine X_ret ?_
  refine at_then_r ?_
  first
  | exact at_ret2 rfl rfl rfl (fun w hw => ⟨_, J4, [], rfl, hIc, hw.drop, rfl, none, 0, 0, [], _, rfl, .nil, Nat.zero_le _, fun h => absurd h hne, fun h => absurd h hne⟩)
  | exact at_ret2 rfl rfl rfl (fun w hw => ⟨_, J4, [], rfl, hIc, hw.drop, rfl, none, 0, 0, [], _, rfl, .nil, Nat.zero_le _, fun h => absurd h (by decide), fun _ _ => rfl⟩)
  | exact at_ret2 rfl rfl rfl (fun w hw => ⟨_, J4, [], rfl, hIc, hw.drop, rfl, none, 0, 0, [], _, rfl, .nil, Nat.zero_le _, fun h => absurd h hye, fun _ h => by rw [hwi] at h; cases h⟩)
  | exact at_freezeO hO encG_len (by decide) (by repeat (first | exact .cons .here .nil | exact split_all | exact split_app | apply split_cons | apply split_skip)) (fun I7 hI7 a7 c7 e7 hS7 => by cases e7; exact at_ret2 rfl rfl rfl (fun w hw => ⟨_, I7, [], rfl, hIc.trans hI7, hw.drop, rfl, pa, q, pc, ys, _, rfl, hS7, by omega, fun _ => hfr.app_r hx0 hy0, fun _ h => by rw [hwi] at h; cases h⟩))
 refine X_skip ?_
 refine at_then ?_
 refine X_cutT [(0, _), (3, _), (4, _)] (.cons rfl (.cons rfl (.cons rfl .nil))) (fun T L0 E I' loc' => ∃ (wv : Value), E = (8, wv) :: T ∧ HLe J4 I' ∧ [] = loc' ∧ WorkR Tryz.prog I' wv) ?_ ?_
 ·
  have hKc11 := HLe.refl J4
  refine X_region ?_
  refine zF fld_58_2 ?_
  refine zV (ev_load rfl sct_56 (fun hg => by first | exact Cell.imm hE rfl | (repeat (first | exact Cell.here rfl | apply Cell.there | apply Cell.app)))) ?_
  refine zV (ev_loadA rfl agt_28 (fun hg => by first | exact Sl.getA hS hx | exact imm_sg hE | exact Cells.immC (vs := encE e) hE | exact Cells.here | (repeat (first | exact Cells.here | exact Cells.s0 (vs := [_, _, _, _, _, _, _, _, _, _, _, _, _, _, _, _, _, _, _, _, _, _]) rfl | apply Cells.there | apply Cells.app))) rfl) ?_
  refine XO_callM (cap := c2) (vs := [_]) rfl rfl hF2 .nil (hd _ (HLe.refl _) e) rfl rfl ?_
  rintro vv5 I5 L5 hI5 ⟨rfl, hW⟩
  have hS := hS.mono hI5; have hE := hE.mono hI5; have hIc := hIc.trans hI5; have hKc11 := hKc11.trans hI5
  refine zA ?_
  refine XO_nil ?_
  exact at_met2 _ _ ⟨_, rfl, hKc11, rfl, hW⟩ (.cons rfl (.cons rfl (.cons rfl (.cons rfl .nil)))) (by repeat (first | exact .refl | exact subL_left | refine subL_app ?_ | refine .drop ?_ | refine subL_add ?_))
 rintro E J6 loc' ⟨wv, rfl, hJ, rfl, hW⟩
 have hS := hS.mono hJ; have hE := hE.mono hJ; have hIc := hIc.trans hJ
 refine X_seq ?_
 refine zR ?_
 refine zM ?_
 refine zQ slt_22 ?_
 refine zM ?_
 refine zN ?_
 refine X_block ?_
 refine X_loopT [(3, _), (8, _), (49, _), (50, _)] (.cons rfl (.cons rfl (.cons rfl (.cons rfl .nil)))) (fun T L0 mz E I' loc' => ∃ (k : Nat) (v : Value) (q : Nat) (L : Go.Kn.Loc) (ys : List Sg), mz = n - k ∧ E = (4, v) :: (51, .int .i64 k) :: T ∧ HLe J6 I' ∧ L = loc' ∧ k ≤ n ∧ OwnS 26 14 v q (ys.flatMap encG) L ∧ q ≤ k ∧ FromA xs e ys) _ _ _ _ ⟨0, _, 0, [], [], rfl, rfl, HLe.refl _, rfl, Nat.zero_le _, OwnS.nil, Nat.le_refl _, FromA.nil⟩ (.cons rfl (.cons rfl (.cons rfl (.cons rfl (.cons rfl (.cons rfl .nil)))))) (HLe.refl _) rfl ?_
 rintro mz E J7 loc' ⟨k, v, q, L, ys, rfl, rfl, hJ, rfl, hk, hO, hq, hfr⟩
 have hS := hS.mono hJ; have hE := hE.mono hJ; have hW := hW.mono hJ; have hIc := hIc.trans hJ
 have hB0 := hJ
 refine zR ?_
 refine zC ?_
 refine zN ?_
 refine X_seq ?_
 refine zI ?_ ?_ <;> intro hc52
 ·
  have hlt_k : k < n := by have h := hc52; simp at h; omega
  obtain ⟨x, hx⟩ := hS.at hlt_k
  have hW2 := hW
  obtain ⟨fw, cw, rfl, hFw, hw9⟩ := hW2
  refine X_skip ?_
  refine at_then ?_
  refine X_seq ?_
  refine X_block ?_
  refine zR ?_
  refine zV (ev_indexSl rfl rfl slt_22 (by assumption) (fun hg => by first | omega | (simp [conj] at hg; omega))) ?_
  refine zV (ev_loadA rfl agt_26 (fun hg => by first | exact Sl.getA hS hx | exact imm_sg hE | exact Cells.immC (vs := encE e) hE | exact Cells.here | (repeat (first | exact Cells.here | exact Cells.s0 (vs := [_, _, _, _, _, _, _, _, _, _, _, _, _, _]) rfl | apply Cells.there | apply Cells.app))) rfl) ?_
  refine XO_alloc zt_26 rfl rfl (fun b_10 => ?_)
  refine XO_storeA rfl rfl szt_26 rfl rfl rfl rfl (by repeat (first | exact Upd.here | apply Upd.there | apply upd_app)) ?_
  refine zN (zR ?_)
  refine zM ?_
  refine zV (ev_loadA rfl agt_26 (fun hg => by first | exact Sl.getA hS hx | exact imm_sg hE | exact Cells.immC (vs := encE e) hE | exact Cells.here | (repeat (first | exact Cells.here | exact Cells.s0 (vs := [_, _, _, _, _, _, _, _, _, _, _, _, _, _]) rfl | apply Cells.there | apply Cells.app))) rfl) ?_
  refine XO_callM (cap := cw) (vs := [_]) rfl rfl hFw .nil (hw9 _ (HLe.refl _) x) rfl rfl ?_
  rintro vv8 I8 L8 hI8 ⟨rfl, zav, zn, zc, zs, zg, rfl, hZ, hz1, hzid⟩
  have hS := hS.mono hI8; have hE := hE.mono hI8; have hW := hW.mono hI8; have hIc := hIc.trans hI8; have hB0 := hB0.trans hI8
  refine zM ?_
  refine zE ?_
  refine zE ?_
  refine zA ?_
  refine zA ?_
  refine zN ?_
  refine X_seq ?_
  refine zR ?_
  refine zM ?_
  refine zO ?_
  refine zN ?_
  refine zI ?_ ?_ <;> intro hc62
  ·
   refine zR ?_
   refine zA ?_
   refine zA ?_
   refine zN ?_
   refine X_ret ?_
   refine at_then_r ?_
   refine at_block_r ?_
   refine at_then_r ?_
   refine at_then_r ?_
   refine at_block_r ?_
   refine at_then_r ?_
   first
   | exact at_ret2 rfl rfl rfl (fun w hw => ⟨_, I8, [], rfl, hIc, hw.drop, rfl, none, 0, 0, [], _, rfl, .nil, Nat.zero_le _, fun h => absurd h hne, fun h => absurd h hne⟩)
   | exact at_ret2 rfl rfl rfl (fun w hw => ⟨_, I8, [], rfl, hIc, hw.drop, rfl, none, 0, 0, [], _, rfl, .nil, Nat.zero_le _, fun h => absurd h (by decide), fun _ _ => rfl⟩)
   | exact at_ret2 rfl rfl rfl (fun w hw => ⟨_, I8, [], rfl, hIc, hw.drop, rfl, none, 0, 0, [], _, rfl, .nil, Nat.zero_le _, fun h => absurd h hye, fun _ h => by rw [hwi] at h; cases h⟩)
   | exact at_freezeO hO encG_len (by decide) (by repeat (first | exact .cons .here .nil | exact split_all | exact split_app | apply split_cons | apply split_skip)) (fun I7 hI7 a7 c7 e7 hS7 => by cases e7; exact at_ret2 rfl rfl rfl (fun w hw => ⟨_, I7, [], rfl, hIc.trans hI7, hw.drop, rfl, pa, q, pc, ys, _, rfl, hS7, by omega, fun _ => hfr.app_r hx0 hy0, fun _ h => by rw [hwi] at h; cases h⟩))
  refine X_skip ?_
  refine at_then ?_
  refine X_region ?_
  refine zM ?_
  refine zM ?_
  refine XO_append (v := _) (ys := zs.flatMap encG) (L := L) rfl rfl elt_22 hO (by repeat (first | exact .cons .here .nil | exact split_all | exact split_app | apply split_cons | apply split_skip)) (hZ.src encG_len) (one_G zs) (by omega) rfl rfl ?_
  intro v9 L9 hO9 _; rw [← List.flatMap_append] at hO9
  refine zA ?_
  refine XO_nil ?_
  refine at_block_n ?_
  refine at_then ?_
  refine X_region ?_
  refine zB ?_
  refine zM ?_
  refine XO_nil ?_
  exact at_met2 _ _ ⟨n - (k + 1), by omega, k + 1, _, q + zn, _, ys ++ zs, rfl, rfl, hB0, rfl, by omega, hO9, by omega, hfr.app (List.mem_of_getElem? hx) hzid⟩ (.cons rfl (.cons rfl (.cons rfl (.cons rfl (.cons rfl (.cons rfl .nil)))))) (by repeat (first | exact .refl | exact subL_left | refine subL_app ?_ | refine .drop ?_ | refine subL_add ?_))
 have hge_k : n ≤ k := by have h := hc52; simp at h; omega
 obtain ⟨pa, pc, rfl⟩ := hO.shape
 have hlen : ys.length = q := by have h := hO.1; rw [flat_len encG_len] at h; omega
 refine X_exit ?_
 refine at_then_e ?_
 refine at_then_e ?_
 refine at_block_hit ?_
 refine at_then ?_
 refine X_cutT [] .nil (fun T L0 E I' loc' => ∃ (v : Value) (q : Nat) (L : Go.Kn.Loc) (ys : List Sg), E = (4, v) :: T ∧ HLe J7 I' ∧ L = loc' ∧ OwnS 26 14 v q (ys.flatMap encG) L ∧ q ≤ n + 1 ∧ FromA xs e ys) ?_ ?_
 ·
  have hKc20 := HLe.refl J7
  refine zR ?_
  refine zF fld_28_0 ?_
  refine zV (ev_load rfl sct_3 (fun hg => by first | exact Cell.imm hE rfl | (repeat (first | exact Cell.here rfl | apply Cell.there | apply Cell.app)))) ?_
  refine zC ?_
  refine zN ?_
  refine zI ?_ ?_ <;> intro hc69
  ·
   have hk5 : e.kind = 5 := by simpa using hc69
   refine zR ?_
   refine zM ?_
   refine zF fld_28_7 ?_
   refine zV (ev_loadA rfl agt_26 (fun hg => by first | exact Sl.getA hS hx | exact imm_sg hE | exact Cells.immC (vs := encE e) hE | exact Cells.here | (repeat (first | exact Cells.here | exact Cells.s0 (vs := [_, _, _, _, _, _, _, _, _, _, _, _, _, _]) rfl | apply Cells.there | apply Cells.app))) rfl) ?_
   refine XO_callK0 (cap := []) (vs := [_, _, _]) rfl rfl fun_18 split_all (RetK.ofV fun I' hI' hL' => w_bsS (slv hO encG_len (by decide) hL') (by omega) e.sign) rfl rfl ?_
   refine zM ?_
   refine zE ?_
   refine zE ?_
   refine zA ?_
   refine zA ?_
   refine zN ?_
   refine X_region ?_
   refine zM ?_
   refine zM ?_
   refine zF fld_28_7 ?_
   refine zV (ev_loadA rfl agt_26 (fun hg => by first | exact Sl.getA hS hx | exact imm_sg hE | exact Cells.immC (vs := encE e) hE | exact Cells.here | (repeat (first | exact Cells.here | exact Cells.s0 (vs := [_, _, _, _, _, _, _, _, _, _, _, _, _, _]) rfl | apply Cells.there | apply Cells.app))) rfl) ?_
   refine XO_buildSlice (ps := [(0, _)]) (m := [encG e.sign]) elt_22 rfl (.cons rfl (.nil)) rfl (by simp [encG_len]) (by decide) (by decide) rfl rfl (fun b_81 => ?_)
   refine XO_callM (cap := []) (vs := [_, _, _]) rfl rfl fun_21 split_snoc0 (w_insert hO (by omega) hlen (bs_le (Nat.zero_le _)) b_81 e.sign) rfl rfl ?_
   rintro vv9 I9 L9 hI9 ⟨rfl, hO9⟩
   have hS := hS.mono hI9; have hE := hE.mono hI9; have hW := hW.mono hI9; have hIc := hIc.trans hI9; have hB0 := hB0.trans hI9; have hKc20 := hKc20.trans hI9
   refine zA ?_
   refine XO_nil ?_
   first
   | exact at_met2 _ _ ⟨_, _, _, _, rfl, hKc20, rfl, hO9, by omega, hfr.ins hk5⟩ (.cons rfl .nil) (by repeat (first | exact .refl | exact subL_left | refine subL_app ?_ | refine .drop ?_ | refine subL_add ?_))
   | exact at_met2 _ _ ⟨_, _, _, _, rfl, hKc20, rfl, hO, by omega, hfr⟩ (.cons rfl .nil) (by repeat (first | exact .refl | exact subL_left | refine subL_app ?_ | refine .drop ?_ | refine subL_add ?_))
  refine X_skip ?_
  first
  | exact at_met2 _ _ ⟨_, _, _, _, rfl, hKc20, rfl, hO9, by omega, hfr.ins hk5⟩ (.cons rfl .nil) (by repeat (first | exact .refl | exact subL_left | refine subL_app ?_ | refine .drop ?_ | refine subL_add ?_))
  | exact at_met2 _ _ ⟨_, _, _, _, rfl, hKc20, rfl, hO, by omega, hfr⟩ (.cons rfl .nil) (by repeat (first | exact .refl | exact subL_left | refine subL_app ?_ | refine .drop ?_ | refine subL_add ?_))
 rintro E J10 loc' ⟨v, q, L, ys, rfl, hJ, rfl, hO, hq, hfr⟩
 have hS := hS.mono hJ; have hE := hE.mono hJ; have hW := hW.mono hJ; have hIc := hIc.trans hJ; have hB0 := hB0.trans hJ
 obtain ⟨pa, pc, rfl⟩ := hO.shape
 refine X_seq ?_
 refine zR ?_
 refine zM ?_
 refine XO_callK0 (cap := []) (vs := [_]) rfl rfl fun_15 split_all (RetK.ofV fun I' hI' hL' => w_chkG (slv hO encG_len (by decide) hL') (by omega)) rfl rfl ?_
 refine zA ?_
 refine zN (zR ?_)
 refine zM ?_
 refine zC ?_
 refine zN ?_
 refine zI ?_ ?_ <;> intro hc86
 ·
  have hye : chkG ys ≠ 0 := by simpa using hc86
  refine zR ?_
  refine zM ?_
  refine zA ?_
  refine zA ?_
  refine zN ?_
  refine X_ret ?_
  refine at_then_r ?_
  first
  | exact at_ret2 rfl rfl rfl (fun w hw => ⟨_, J10, [], rfl, hIc, hw.drop, rfl, none, 0, 0, [], _, rfl, .nil, Nat.zero_le _, fun h => absurd h hne, fun h => absurd h hne⟩)
  | exact at_ret2 rfl rfl rfl (fun w hw => ⟨_, J10, [], rfl, hIc, hw.drop, rfl, none, 0, 0, [], _, rfl, .nil, Nat.zero_le _, fun h => absurd h (by decide), fun _ _ => rfl⟩)
  | exact at_ret2 rfl rfl rfl (fun w hw => ⟨_, J10, [], rfl, hIc, hw.drop, rfl, none, 0, 0, [], _, rfl, .nil, Nat.zero_le _, fun h => absurd h hye, fun _ h => by rw [hwi] at h; cases h⟩)
  | exact at_freezeO hO encG_len (by decide) (by repeat (first | exact .cons .here .nil | exact split_all | exact split_app | apply split_cons | apply split_skip)) (fun I7 hI7 a7 c7 e7 hS7 => by cases e7; exact at_ret2 rfl rfl rfl (fun w hw => ⟨_, I7, [], rfl, hIc.trans hI7, hw.drop, rfl, pa, q, pc, ys, _, rfl, hS7, by omega, fun _ => hfr.app_r hx0 hy0, fun _ h => by rw [hwi] at h; cases h⟩))
 have hy0 : chkG ys = 0 := by simpa using hc86
 refine X_skip ?_
 refine at_then ?_
 refine zR ?_
 refine zM ?_
 refine zA ?_
 refine zA ?_
 refine zN ?_
 refine X_ret ?_
 first
 | exact at_ret2 rfl rfl rfl (fun w hw => ⟨_, J10, [], rfl, hIc, hw.drop, rfl, none, 0, 0, [], _, rfl, .nil, Nat.zero_le _, fun h => absurd h hne, fun h => absurd h hne⟩)
 | exact at_ret2 rfl rfl rfl (fun w hw => ⟨_, J10, [], rfl, hIc, hw.drop, rfl, none, 0, 0, [], _, rfl, .nil, Nat.zero_le _, fun h => absurd h (by decide), fun _ _ => rfl⟩)
 | exact at_ret2 rfl rfl rfl (fun w hw => ⟨_, J10, [], rfl, hIc, hw.drop, rfl, none, 0, 0, [], _, rfl, .nil, Nat.zero_le _, fun h => absurd h hye, fun _ h => by rw [hwi] at h; cases h⟩)
 | exact at_freezeO hO encG_len (by decide) (by repeat (first | exact .cons .here .nil | exact split_all | exact split_app | apply split_cons | apply split_skip)) (fun I7 hI7 a7 c7 e7 hS7 => by cases e7; exact at_ret2 rfl rfl rfl (fun w hw => ⟨_, I7, [], rfl, hIc.trans hI7, hw.drop, rfl, pa, q, pc, ys, _, rfl, hS7, by omega, fun _ => hfr.app_r hx0 hy0, fun _ h => by rw [hwi] at h; cases h⟩))
end Go.Proofs.YtoicbikdenlioaaGreat
end
section
namespace Go.Proofs.YtoicbikdenlioaaGreat
open Go Go.Kn Go.Proofs
theorem mrg_nil : mrgE [] [] [] = 0 ∧ mrgF [] [] [] = [] := ⟨by decide, rfl⟩
/-- No two patches are about the same. -/
def Ovn (ps qs : List Pt) (k : Nat) : Prop := ∀ x ∈ ps.take k, ∀ y ∈ qs, ovB x y = false
theorem Ovn.start {ps qs : List Pt} : Ovn ps qs 0 := fun x hx => by simp at hx
theorem Ovn.step {ps qs : List Pt} {k : Nat} {x : Pt} (h : Ovn ps qs k) (hx : ps[k]? = some x) (hq : ∀ y ∈ qs, ovB x y = false) : Ovn ps qs (k + 1) := fun z hz => by
  rw [take_snoc hx] at hz
  rcases List.mem_append.1 hz with h1 | h1
  · exact h z h1
  · simp only [List.mem_singleton] at h1; subst h1; exact hq
theorem Ovn.all {ps qs : List Pt} {k : Nat} (h : Ovn ps qs k) (hk : ps.length ≤ k) : ∀ x ∈ ps, ∀ y ∈ qs, ¬ (x.sign = y.sign ∧ ((x.kind ≠ 1 ∨ y.kind ≠ 1) ∨ x.field = y.field)) := fun x hx y hy => ovB_no (h x (by rw [List.take_of_length_le hk]; exact hx) y hy)
def Ovi (x : Pt) (qs : List Pt) (j : Nat) : Prop := ∀ y ∈ qs.take j, ovB x y = false
theorem Ovi.start {x : Pt} {qs : List Pt} : Ovi x qs 0 := fun y hy => by simp at hy
theorem Ovi.step {x : Pt} {qs : List Pt} {j : Nat} {y : Pt} (h : Ovi x qs j) (hy : qs[j]? = some y) (h0 : ovB x y = false) : Ovi x qs (j + 1) := fun z hz => by
  rw [take_snoc hy] at hz
  rcases List.mem_append.1 hz with h1 | h1
  · exact h z h1
  · simp only [List.mem_singleton] at h1; subst h1; exact h0
theorem Ovi.all {x : Pt} {qs : List Pt} {j : Nat} (h : Ovi x qs j) (hj : qs.length ≤ j) : ∀ y ∈ qs, ovB x y = false := fun y hy => h y (by rw [List.take_of_length_le hj]; exact hy)
theorem ov_val {x y : Pt} (hx : pchk x = 0) (hy : pchk y = 0) : ovE x y = 0 ∧ ovV x y = ovB x y := by
  have hE : ovE x y = 0 := by unfold ovE; rw [if_neg (by rw [hx]; decide), hy]
  exact ⟨hE, by unfold ovV; rw [hE, if_neg (by decide)]⟩
theorem slp_app {I' : HMap} {av bv dv : Option Addr} {n c m d k e : Nat} {ps qs : List Pt} (hP : SlP I' av n c ps) (hQ : SlP I' bv m d qs) (h : Sl I' 19 encP dv k e (ps ++ qs)) : SlP I' dv k e (ps ++ qs) := ⟨h, fun p hp => by
  rcases List.mem_append.1 hp with h1 | h1
  · exact hP.2 p h1
  · exact hQ.2 p h1⟩
end Go.Proofs.YtoicbikdenlioaaGreat
end
section
namespace Go.Proofs.YtoicbikdenlioaaGreat
open Go Go.Kn Go.Proofs
theorem fun_10 : Fun Tryz.prog 10 := .of Tryz.func10 (by kernel_rfl) (by kernel_rfl)
theorem fun_5 : Fun Tryz.prog 5 := .of Tryz.func5 (by kernel_rfl) (by kernel_rfl)
theorem w_sane38 (I : HMap) : RetV Tryz.prog 4 [] I (.bool true) := by
 intro g H w hw
 refine enter Tryz.func4 rfl Tryz.ntmps4 rfl hw ?_
 have hIc := HLe.refl I
 refine zR ?_
 refine zA ?_
 refine zN (zR ?_)
 refine XO_callM (cap := []) (vs := [_, _, _]) rfl rfl fun_10 .nil (w_merge (show SlP I none 0 0 [] from SlP.nil) (by omega) (show Sl I 1 encI none 0 0 [] from .nil) (by omega) (show Sl I 1 encI none 0 0 [] from .nil) (by omega)) rfl rfl ?_
 rintro vv1 I1 L1 hI1 ⟨rfl, a8, c8, rfl, hV⟩
 have hIc := hIc.trans hI1
 refine zM ?_
 refine zE ?_
 refine zE ?_
 refine zA ?_
 refine zA ?_
 refine zN (zR ?_)
 refine zV (ev_buildL (ps := []) [_, _, _, _, _, _, _, _, _, _, _, _, _, _, _, _, _, _, _, _, _, _] plt_28 rfl rfl) ?_
 refine XO_callM (cap := []) (vs := [_, _]) rfl rfl fun_5 .nil (w_Apply (show Sl I1 14 encG none 0 0 [] from .nil) (by omega) zeroE) rfl rfl ?_
 rintro vv2 I2 L2 hI2 ⟨rfl, a9, n9, c9, ys, er, rfl, hY, hny, hap, her⟩
 have hIc := hIc.trans hI2
 have h360 := her (by decide) (by decide)
 subst h360
 refine zM ?_
 refine zE ?_
 refine zE ?_
 refine zA ?_
 refine zA ?_
 refine zN (zR ?_)
 refine zM ?_
 refine zC ?_
 refine zM ?_
 refine XO_pushT 2 rfl rfl rfl ?_
 refine zK (ev_move rfl) ?_
 refine zK (ev_cmp rfl rfl rfl) ?_
 refine XO_and0 rfl rfl rfl rfl rfl ?_
 refine zM ?_
 refine XO_pushT 6 rfl rfl rfl ?_
 refine zK (ev_move rfl) ?_
 refine zK (ev_lenS rfl slt_38) ?_
 refine zK (ev_cmp rfl rfl rfl) ?_
 refine XO_and0 rfl rfl rfl rfl rfl ?_
 refine zA ?_
 refine zN ?_
 refine X_ret ?_
 exact at_ret1 rfl rfl (fun w hw => ⟨by rw [mrg_nil.1, mrg_nil.2]; rfl, (hw.mono hIc).drop⟩)
end Go.Proofs.YtoicbikdenlioaaGreat
end
section
namespace Go.Proofs.YtoicbikdenlioaaGreat
open Go Go.Kn Go.Proofs
theorem fun_11 : Fun Tryz.prog 11 := .of Tryz.func11 (by kernel_rfl) (by kernel_rfl)
theorem fun_12 : Fun Tryz.prog 12 := .of Tryz.func12 (by kernel_rfl) (by kernel_rfl)
theorem fun_13 : Fun Tryz.prog 13 := .of Tryz.func13 (by kernel_rfl) (by kernel_rfl)
theorem fun_14 : Fun Tryz.prog 14 := .of Tryz.func14 (by kernel_rfl) (by kernel_rfl)
theorem fun_4 : Fun Tryz.prog 4 := .of Tryz.func4 (by kernel_rfl) (by kernel_rfl)
theorem fun_6 : Fun Tryz.prog 6 := .of Tryz.func6 (by kernel_rfl) (by kernel_rfl)
theorem fun_8 : Fun Tryz.prog 8 := .of Tryz.func8 (by kernel_rfl) (by kernel_rfl)
theorem fun_9 : Fun Tryz.prog 9 := .of Tryz.func9 (by kernel_rfl) (by kernel_rfl)
set_option maxRecDepth 100000 in
theorem w_topRooms {I : HMap} {av : Option Addr} {n c : Nat} {xs : List Sg} (hS : Sl I 14 encG av n c xs) (e1 e2 e3 : Ed) : RetV Tryz.prog 3 [.slice av n c, encEA e1, encEA e2, encEA e3] I (.bool true) := by
 intro g H w hw
 refine enter Tryz.func3 rfl Tryz.ntmps3 rfl hw ?_
 have hIc := HLe.refl I
 have hlx := hS.len
 refine zR ?_
 refine XO_box rfl rfl rfl (fun b_5 => ?_)
 refine XO_box rfl rfl rfl (fun b_6 => ?_)
 refine XO_box rfl rfl rfl (fun b_7 => ?_)
 refine zA ?_
 refine zN ?_
 refine X_seq ?_
 refine X_seq ?_
 refine X_freeze .here (fun I1 hI1 hb1 => ?_)
 have hS := hS.mono hI1; have hIc := hIc.trans hI1
 have hE3 := ImmC.of hb1
 refine X_freeze .here (fun I2 hI2 hb2 => ?_)
 have hS := hS.mono hI2; have hE3 := hE3.mono hI2; have hIc := hIc.trans hI2
 have hE2 := ImmC.of hb2
 refine X_freeze .here (fun I3 hI3 hb3 => ?_)
 have hS := hS.mono hI3; have hE3 := hE3.mono hI3; have hE2 := hE2.mono hI3; have hIc := hIc.trans hI3
 have hE1 := ImmC.of hb3
 refine X_region ?_
 refine XO_callV0 (cap := []) (vs := []) rfl rfl fun_4 (w_sane38 I3) rfl rfl ?_
 refine zO ?_
 refine zN ?_
 refine zI ?_ ?_ <;> intro hc46
 ·
  cases hc46
 refine X_skip ?_
 refine at_then ?_
 refine X_seq ?_
 refine zR ?_
 refine zM ?_
 refine zQ slt_22 ?_
 refine zC ?_
 refine zN ?_
 refine zI ?_ ?_ <;> intro hc49
 ·
  refine zR ?_
  refine zA ?_
  refine zN ?_
  refine X_ret ?_
  refine at_then_r ?_
  first
  | exact at_ret1 rfl rfl (fun w hw => ⟨by rfl, (hw.mono hIc).drop⟩)
  | exact at_ret1 rfl rfl (fun w hw => ⟨by rw [hv1]; rfl, (hw.mono hIc).drop⟩)
  | exact at_ret1 rfl rfl (fun w hw => ⟨by rw [hk1, hk2, hk3]; simp, (hw.mono hIc).drop⟩)
  | exact at_ret1 rfl rfl (fun w hw => ⟨by rw [hk5]; rfl, (hw.mono hIc).drop⟩)
  | exact at_ret1 rfl rfl (fun w hw => ⟨by rcases hgr with h | h | h <;> rw [h] <;> rfl, (hw.mono hIc).drop⟩)
  | exact at_ret1 rfl rfl (fun w hw => ⟨by rw [same_self]; rfl, (hw.mono hIc).drop⟩)
 have hn4 : n ≤ 40 := by have h := hc49; simp at h; omega
 refine X_skip ?_
 refine at_then ?_
 refine zR ?_
 refine zM ?_
 refine zV (ev_loadA rfl agt_28 (fun hg => by first | exact Cells.immC (vs := encE e1) hE1 | exact Cells.immC (vs := encE e2) hE2 | exact Cells.immC (vs := encE e3) hE3 | exact Sl.getA hP.1 hx | exact Sl.getA hQ.1 hy | exact Cells.here | exact Cells.there Cells.here | (repeat (first | exact Cells.here | exact Cells.s0 (vs := [_, _, _, _, _, _, _, _, _, _, _, _, _, _, _, _, _, _, _, _, _, _]) rfl | apply Cells.there | apply Cells.app))) rfl) ?_
 refine XO_callM (cap := []) (vs := [_, _]) rfl rfl fun_5 .nil (w_Apply hS (by omega) e1) rfl rfl ?_
 rintro vv4 I4 L4 hI4 ⟨rfl, aa, na, ca, as1, era, rfl, hA, hna, hapa, _⟩
 have hS := hS.mono hI4; have hE3 := hE3.mono hI4; have hE2 := hE2.mono hI4; have hE1 := hE1.mono hI4; have hIc := hIc.trans hI4
 refine zM ?_
 refine zE ?_
 refine zE ?_
 refine zA ?_
 refine zA ?_
 refine zN (zR ?_)
 refine zM ?_
 refine zV (ev_loadA rfl agt_28 (fun hg => by first | exact Cells.immC (vs := encE e1) hE1 | exact Cells.immC (vs := encE e2) hE2 | exact Cells.immC (vs := encE e3) hE3 | exact Sl.getA hP.1 hx | exact Sl.getA hQ.1 hy | exact Cells.here | exact Cells.there Cells.here | (repeat (first | exact Cells.here | exact Cells.s0 (vs := [_, _, _, _, _, _, _, _, _, _, _, _, _, _, _, _, _, _, _, _, _, _]) rfl | apply Cells.there | apply Cells.app))) rfl) ?_
 refine XO_callM (cap := []) (vs := [_, _]) rfl rfl fun_5 .nil (w_Apply hS (by omega) e2) rfl rfl ?_
 rintro vv5 I5 L5 hI5 ⟨rfl, ab, nb, cb, bs, erb, rfl, hB, hnb, hapb, _⟩
 have hS := hS.mono hI5; have hE3 := hE3.mono hI5; have hE2 := hE2.mono hI5; have hE1 := hE1.mono hI5; have hA := hA.mono hI5; have hIc := hIc.trans hI5
 refine zM ?_
 refine zE ?_
 refine zE ?_
 refine zA ?_
 refine zA ?_
 refine zN ?_
 refine X_seq ?_
 refine zR ?_
 refine zM ?_
 refine zC ?_
 refine zM ?_
 refine XO_pushF 2 rfl rfl rfl ?_
 refine zJ (ev_move rfl) ?_
 refine zJ (ev_cmp rfl rfl rfl) ?_
 refine XO_or0 rfl rfl rfl rfl rfl ?_
 refine zM ?_
 refine XO_pushF 6 rfl rfl rfl ?_
 refine zJ (ev_move rfl) ?_
 refine zJ (ev_lenS rfl slt_22) ?_
 refine zJ (ev_cmp rfl rfl rfl) ?_
 refine XO_or0 rfl rfl rfl rfl rfl ?_
 refine zM ?_
 refine XO_pushF 11 rfl rfl rfl ?_
 refine zJ (ev_move rfl) ?_
 refine zJ (ev_lenS rfl slt_22) ?_
 refine zJ (ev_cmp rfl rfl rfl) ?_
 refine XO_or0 rfl rfl rfl rfl rfl ?_
 refine zN ?_
 refine zI ?_ ?_ <;> intro hc77
 ·
  refine zR ?_
  refine zA ?_
  refine zN ?_
  refine X_ret ?_
  refine at_then_r ?_
  first
  | exact at_ret1 rfl rfl (fun w hw => ⟨by rfl, (hw.mono hIc).drop⟩)
  | exact at_ret1 rfl rfl (fun w hw => ⟨by rw [hv1]; rfl, (hw.mono hIc).drop⟩)
  | exact at_ret1 rfl rfl (fun w hw => ⟨by rw [hk1, hk2, hk3]; simp, (hw.mono hIc).drop⟩)
  | exact at_ret1 rfl rfl (fun w hw => ⟨by rw [hk5]; rfl, (hw.mono hIc).drop⟩)
  | exact at_ret1 rfl rfl (fun w hw => ⟨by rcases hgr with h | h | h <;> rw [h] <;> rfl, (hw.mono hIc).drop⟩)
  | exact at_ret1 rfl rfl (fun w hw => ⟨by rw [same_self]; rfl, (hw.mono hIc).drop⟩)
 obtain ⟨he1, he2, hn1, hn2⟩ : era = 0 ∧ erb = 0 ∧ na ≤ 45 ∧ nb ≤ 45 := by have h := hc77; simp at h; omega
 have hA1 := hapa he1
 have hB1 := hapb he2
 have hla := hA.len
 have hlb := hB.len
 refine X_skip ?_
 refine at_then ?_
 refine zR ?_
 refine zM ?_
 refine zM ?_
 refine XO_callM (cap := []) (vs := [_, _, _, _]) rfl rfl fun_6 .nil (w_Diff hS (by omega) hA (by omega) 1 (show Sl I5 1 encI none 0 0 [] from .nil) (by omega)) rfl rfl ?_
 rintro vv6 I6 L6 hI6 ⟨rfl, pa, pm, pc, ps, rfl, hP, hdp⟩
 have hS := hS.mono hI6; have hE3 := hE3.mono hI6; have hE2 := hE2.mono hI6; have hE1 := hE1.mono hI6; have hA := hA.mono hI6; have hB := hB.mono hI6; have hIc := hIc.trans hI6
 have hlpm := hP.len
 subst hlpm
 refine zM ?_
 refine zE ?_
 refine zE ?_
 refine zA ?_
 refine zA ?_
 refine zN ?_
 refine X_seq ?_
 refine zR ?_
 refine zM ?_
 refine zC ?_
 refine zM ?_
 refine XO_pushF 2 rfl rfl rfl ?_
 refine zJ (ev_move rfl) ?_
 refine zJ (ev_lenS rfl slt_33) ?_
 refine zJ (ev_cmp rfl rfl rfl) ?_
 refine XO_or0 rfl rfl rfl rfl rfl ?_
 refine zN ?_
 refine zI ?_ ?_ <;> intro hc90
 ·
  have hgr := difE_range (a := xs) (b := as1) (first := 1) (needs := []) hA1.cb hA1.ca
  refine zR ?_
  refine zM ?_
  refine zC ?_
  refine zM ?_
  refine XO_pushF 2 rfl rfl rfl ?_
  refine zJ (ev_move rfl) ?_
  refine zJ (ev_cmp rfl rfl rfl) ?_
  refine XO_or0 rfl rfl rfl rfl rfl ?_
  refine zM ?_
  refine XO_pushF 6 rfl rfl rfl ?_
  refine zJ (ev_move rfl) ?_
  refine zJ (ev_cmp rfl rfl rfl) ?_
  refine XO_or0 rfl rfl rfl rfl rfl ?_
  refine zA ?_
  refine zN ?_
  refine X_ret ?_
  refine at_then_r ?_
  first
  | exact at_ret1 rfl rfl (fun w hw => ⟨by rfl, (hw.mono hIc).drop⟩)
  | exact at_ret1 rfl rfl (fun w hw => ⟨by rw [hv1]; rfl, (hw.mono hIc).drop⟩)
  | exact at_ret1 rfl rfl (fun w hw => ⟨by rw [hk1, hk2, hk3]; simp, (hw.mono hIc).drop⟩)
  | exact at_ret1 rfl rfl (fun w hw => ⟨by rw [hk5]; rfl, (hw.mono hIc).drop⟩)
  | exact at_ret1 rfl rfl (fun w hw => ⟨by rcases hgr with h | h | h <;> rw [h] <;> rfl, (hw.mono hIc).drop⟩)
  | exact at_ret1 rfl rfl (fun w hw => ⟨by rw [same_self]; rfl, (hw.mono hIc).drop⟩)
 obtain ⟨hg0, hp30⟩ : difE xs as1 (1) [] = 0 ∧ ps.length ≤ 30 := by have h := hc90; simp at h; omega
 refine X_skip ?_
 refine at_then ?_
 refine zR ?_
 refine zM ?_
 refine zM ?_
 refine zM ?_
 refine zQ slt_33 ?_
 refine zB ?_
 refine XO_callM (cap := []) (vs := [_, _, _, _]) rfl rfl fun_6 .nil (w_Diff hS (by omega) hB (by omega) (1 + (ps.length : Int)) (show Sl I6 1 encI none 0 0 [] from .nil) (by omega)) rfl rfl ?_
 rintro vv7 I7 L7 hI7 ⟨rfl, qa, qm, qc, qs, rfl, hQ, hdq⟩
 have hS := hS.mono hI7; have hE3 := hE3.mono hI7; have hE2 := hE2.mono hI7; have hE1 := hE1.mono hI7; have hA := hA.mono hI7; have hB := hB.mono hI7; have hP := hP.mono hI7; have hIc := hIc.trans hI7
 have hlqm := hQ.len
 subst hlqm
 refine zM ?_
 refine zE ?_
 refine zE ?_
 refine zA ?_
 refine zA ?_
 refine zN ?_
 refine X_seq ?_
 refine zR ?_
 refine zM ?_
 refine zC ?_
 refine zM ?_
 refine XO_pushF 2 rfl rfl rfl ?_
 refine zJ (ev_move rfl) ?_
 refine zJ (ev_lenS rfl slt_33) ?_
 refine zJ (ev_cmp rfl rfl rfl) ?_
 refine XO_or0 rfl rfl rfl rfl rfl ?_
 refine zN ?_
 refine zI ?_ ?_ <;> intro hc116
 ·
  have hgr := difE_range (a := xs) (b := bs) (first := (1 + (ps.length : Int))) (needs := []) hB1.cb hB1.ca
  refine zR ?_
  refine zM ?_
  refine zC ?_
  refine zM ?_
  refine XO_pushF 2 rfl rfl rfl ?_
  refine zJ (ev_move rfl) ?_
  refine zJ (ev_cmp rfl rfl rfl) ?_
  refine XO_or0 rfl rfl rfl rfl rfl ?_
  refine zM ?_
  refine XO_pushF 6 rfl rfl rfl ?_
  refine zJ (ev_move rfl) ?_
  refine zJ (ev_cmp rfl rfl rfl) ?_
  refine XO_or0 rfl rfl rfl rfl rfl ?_
  refine zA ?_
  refine zN ?_
  refine X_ret ?_
  refine at_then_r ?_
  first
  | exact at_ret1 rfl rfl (fun w hw => ⟨by rfl, (hw.mono hIc).drop⟩)
  | exact at_ret1 rfl rfl (fun w hw => ⟨by rw [hv1]; rfl, (hw.mono hIc).drop⟩)
  | exact at_ret1 rfl rfl (fun w hw => ⟨by rw [hk1, hk2, hk3]; simp, (hw.mono hIc).drop⟩)
  | exact at_ret1 rfl rfl (fun w hw => ⟨by rw [hk5]; rfl, (hw.mono hIc).drop⟩)
  | exact at_ret1 rfl rfl (fun w hw => ⟨by rcases hgr with h | h | h <;> rw [h] <;> rfl, (hw.mono hIc).drop⟩)
  | exact at_ret1 rfl rfl (fun w hw => ⟨by rw [same_self]; rfl, (hw.mono hIc).drop⟩)
 obtain ⟨hh0, hq30⟩ : difE xs bs ((1 + (ps.length : Int))) [] = 0 ∧ qs.length ≤ 30 := by have h := hc116; simp at h; omega
 refine X_skip ?_
 refine at_then ?_
 refine zR ?_
 refine XO_buildSlice (ps := []) (m := []) elt_33 rfl (.nil) rfl (by simp) (by decide) (by decide) rfl rfl (fun b_127 => ?_)
 refine zM ?_
 refine XO_append (v := _) (ys := ps.flatMap encP) (L := [(b_127, _)]) rfl rfl elt_33 OwnS.new (by repeat (first | exact .cons .here .nil | exact split_all | exact split_app | apply split_cons | apply split_skip)) (hP.1.src encP_len) (one_P _) (by omega) rfl rfl ?_
 intro v1 L1 hO1 _; rw [List.nil_append, Nat.zero_add] at hO1
 refine zM ?_
 refine XO_append (v := _) (ys := qs.flatMap encP) (L := L1) rfl rfl elt_33 hO1 (by repeat (first | exact .cons .here .nil | exact split_all | exact split_app | apply split_cons | apply split_skip)) (hQ.1.src encP_len) (one_P _) (by omega) rfl rfl ?_
 intro v2 L2 hO2 _; rw [← List.flatMap_append] at hO2
 refine zA ?_
 refine zN ?_
 refine X_seq ?_
 refine X_seq ?_
 refine X_freezeO hO2 encP_len (by decide) (by repeat (first | exact .cons .here .nil | exact split_all | exact split_app | apply split_cons | apply split_skip)) (fun I8 hI8 sa sc e8 hT9 => ?_)
 subst e8
 have hS := hS.mono hI8; have hE3 := hE3.mono hI8; have hE2 := hE2.mono hI8; have hE1 := hE1.mono hI8; have hA := hA.mono hI8; have hB := hB.mono hI8; have hP := hP.mono hI8; have hQ := hQ.mono hI8; have hIc := hIc.trans hI8
 have hT := slp_app hP hQ hT9
 refine X_region ?_
 refine zM ?_
 refine XO_callV0 (cap := []) (vs := [_]) rfl rfl fun_7 (w_chkR hT (by omega)) rfl rfl ?_
 refine zC ?_
 refine zN ?_
 refine zI ?_ ?_ <;> intro hc134
 ·
  have hcr : chkR (ps ++ qs) ≠ 0 := by simpa using hc134
  have htw := two_of hg0 hh0 hdp hdq hp30 hq30 (by omega)
  obtain ⟨hk1, hk2, hk3⟩ := both_ins hA1 hB1 htw.dp htw.dq (htw.no hcr)
  refine zR ?_
  refine zF fld_28_0 ?_
  refine zV (ev_load rfl sct_3 (fun hg => by first | exact Cell.imm hE1 rfl | exact Cell.imm hE2 rfl | exact Cell.imm hE3 rfl | (repeat (first | exact Cell.here rfl | apply Cell.there | apply Cell.app)))) ?_
  refine zC ?_
  refine zM ?_
  refine XO_pushT 3 rfl rfl rfl ?_
  refine zK (ev_fieldAddr rfl fld_28_0) ?_
  refine zK (ev_load rfl sct_3 (fun hg => by first | exact Cell.imm hE1 rfl | exact Cell.imm hE2 rfl | exact Cell.imm hE3 rfl | (repeat (first | exact Cell.here rfl | apply Cell.there | apply Cell.app)))) ?_
  refine zK (ev_cmp rfl rfl rfl) ?_
  refine XO_and0 rfl rfl rfl rfl rfl ?_
  refine zM ?_
  refine XO_pushT 8 rfl rfl rfl ?_
  refine zK (ev_fieldAddr rfl fld_28_7) ?_
  refine zK (ev_fieldAddr rfl fld_26_0) ?_
  refine zK (ev_load rfl sct_3 (fun hg => by first | exact Cell.imm hE1 rfl | exact Cell.imm hE2 rfl | exact Cell.imm hE3 rfl | (repeat (first | exact Cell.here rfl | apply Cell.there | apply Cell.app)))) ?_
  refine zK (ev_fieldAddr rfl fld_28_7) ?_
  refine zK (ev_fieldAddr rfl fld_26_0) ?_
  refine zK (ev_load rfl sct_3 (fun hg => by first | exact Cell.imm hE1 rfl | exact Cell.imm hE2 rfl | exact Cell.imm hE3 rfl | (repeat (first | exact Cell.here rfl | apply Cell.there | apply Cell.app)))) ?_
  refine zK (ev_cmp rfl rfl rfl) ?_
  refine XO_and0 rfl rfl rfl rfl rfl ?_
  refine zA ?_
  refine zN ?_
  refine X_ret ?_
  refine at_then_r ?_
  first
  | exact at_ret1 rfl rfl (fun w hw => ⟨by rfl, (hw.mono hIc).drop⟩)
  | exact at_ret1 rfl rfl (fun w hw => ⟨by rw [hv1]; rfl, (hw.mono hIc).drop⟩)
  | exact at_ret1 rfl rfl (fun w hw => ⟨by rw [hk1, hk2, hk3]; simp, (hw.mono hIc).drop⟩)
  | exact at_ret1 rfl rfl (fun w hw => ⟨by rw [hk5]; rfl, (hw.mono hIc).drop⟩)
  | exact at_ret1 rfl rfl (fun w hw => ⟨by rcases hgr with h | h | h <;> rw [h] <;> rfl, (hw.mono hIc).drop⟩)
  | exact at_ret1 rfl rfl (fun w hw => ⟨by rw [same_self]; rfl, (hw.mono hIc).drop⟩)
 have hcr : chkR (ps ++ qs) = 0 := by simpa using hc134
 have htw := two_of hg0 hh0 hdp hdq hp30 hq30 (by omega)
 have hown := htw.own hcr
 have hoth := htw.other hcr
 have hmrg := htw.mrg hcr
 refine X_skip ?_
 refine at_then ?_
 refine zR ?_
 refine zM ?_
 refine zM ?_
 refine zM ?_
 refine XO_callM (cap := []) (vs := [_]) rfl rfl fun_9 .nil (w_ids hP (by omega)) rfl rfl ?_
 rintro vv9 I9 L9 hI9 ⟨rfl, ia, ic, rfl, hIp⟩
 have hS := hS.mono hI9; have hE3 := hE3.mono hI9; have hE2 := hE2.mono hI9; have hE1 := hE1.mono hI9; have hA := hA.mono hI9; have hB := hB.mono hI9; have hP := hP.mono hI9; have hQ := hQ.mono hI9; have hT := hT.mono hI9; have hIc := hIc.trans hI9
 refine XO_callM (cap := []) (vs := [_, _, _]) rfl rfl fun_8 .nil ((show RetM _ _ _ _ _ (ResG 0 as1) from by have h := w_Signs hT (by first | omega | (simp only [List.length_append, List.length_map]; omega)) hS (by omega) hIp (by first | omega | (simp only [List.length_append, List.length_map]; omega)); rwa [hown.1, hown.2] at h)) rfl rfl ?_
 rintro vv10 I10 L10 hI10 ⟨rfl, oa, oc, rfl, hOw⟩
 have hS := hS.mono hI10; have hE3 := hE3.mono hI10; have hE2 := hE2.mono hI10; have hE1 := hE1.mono hI10; have hA := hA.mono hI10; have hB := hB.mono hI10; have hP := hP.mono hI10; have hQ := hQ.mono hI10; have hT := hT.mono hI10; have hIp := hIp.mono hI10; have hIc := hIc.trans hI10
 refine zM ?_
 refine zE ?_
 refine zE ?_
 refine zA ?_
 refine zA ?_
 refine zN (zR ?_)
 refine zM ?_
 refine zM ?_
 refine zM ?_
 refine XO_callM (cap := []) (vs := [_]) rfl rfl fun_9 .nil (w_ids hQ (by omega)) rfl rfl ?_
 rintro vv11 I11 L11 hI11 ⟨rfl, ja, jc, rfl, hIq⟩
 have hS := hS.mono hI11; have hE3 := hE3.mono hI11; have hE2 := hE2.mono hI11; have hE1 := hE1.mono hI11; have hA := hA.mono hI11; have hB := hB.mono hI11; have hP := hP.mono hI11; have hQ := hQ.mono hI11; have hT := hT.mono hI11; have hIp := hIp.mono hI11; have hOw := hOw.mono hI11; have hIc := hIc.trans hI11
 refine XO_callM (cap := []) (vs := [_, _, _]) rfl rfl fun_8 .nil ((show RetM _ _ _ _ _ (ResG 0 bs) from by have h := w_Signs hT (by first | omega | (simp only [List.length_append, List.length_map]; omega)) hS (by omega) hIq (by first | omega | (simp only [List.length_append, List.length_map]; omega)); rwa [hoth.1, hoth.2] at h)) rfl rfl ?_
 rintro vv12 I12 L12 hI12 ⟨rfl, ua, uc, rfl, hOt⟩
 have hS := hS.mono hI12; have hE3 := hE3.mono hI12; have hE2 := hE2.mono hI12; have hE1 := hE1.mono hI12; have hA := hA.mono hI12; have hB := hB.mono hI12; have hP := hP.mono hI12; have hQ := hQ.mono hI12; have hT := hT.mono hI12; have hIp := hIp.mono hI12; have hOw := hOw.mono hI12; have hIq := hIq.mono hI12
 have hIc := hIc.trans hI12
 refine zM ?_
 refine zE ?_
 refine zE ?_
 refine zA ?_
 refine zA ?_
 refine zN (zR ?_)
 refine zM ?_
 refine zM ?_
 refine XO_callM (cap := []) (vs := [_]) rfl rfl fun_9 .nil (w_ids hP (by omega)) rfl rfl ?_
 rintro vv13 I13 L13 hI13 ⟨rfl, ka, kc, rfl, hJp⟩
 have hS := hS.mono hI13; have hE3 := hE3.mono hI13; have hE2 := hE2.mono hI13; have hE1 := hE1.mono hI13; have hA := hA.mono hI13; have hB := hB.mono hI13; have hP := hP.mono hI13; have hQ := hQ.mono hI13; have hT := hT.mono hI13; have hIp := hIp.mono hI13; have hOw := hOw.mono hI13; have hIq := hIq.mono hI13
 have hOt := hOt.mono hI13; have hIc := hIc.trans hI13
 refine zM ?_
 refine XO_callM (cap := []) (vs := [_]) rfl rfl fun_9 .nil (w_ids hQ (by omega)) rfl rfl ?_
 rintro vv14 I14 L14 hI14 ⟨rfl, la, lc, rfl, hJq⟩
 have hS := hS.mono hI14; have hE3 := hE3.mono hI14; have hE2 := hE2.mono hI14; have hE1 := hE1.mono hI14; have hA := hA.mono hI14; have hB := hB.mono hI14; have hP := hP.mono hI14; have hQ := hQ.mono hI14; have hT := hT.mono hI14; have hIp := hIp.mono hI14; have hOw := hOw.mono hI14; have hIq := hIq.mono hI14
 have hOt := hOt.mono hI14; have hJp := hJp.mono hI14; have hIc := hIc.trans hI14
 refine XO_callM (cap := []) (vs := [_, _, _]) rfl rfl fun_10 .nil ((show RetM _ _ _ _ _ (Res2 0 ((ps ++ qs).map (·.id))) from by have h := w_merge hT (by omega) hJp (by first | omega | (simp only [List.length_map]; omega)) hJq (by first | omega | (simp only [List.length_map]; omega)); rwa [hmrg.1, hmrg.2, resF_ok rfl] at h)) rfl rfl ?_
 rintro vv15 I15 L15 hI15 ⟨rfl, va, vc, rfl, hV⟩
 have hS := hS.mono hI15; have hE3 := hE3.mono hI15; have hE2 := hE2.mono hI15; have hE1 := hE1.mono hI15; have hA := hA.mono hI15; have hB := hB.mono hI15; have hP := hP.mono hI15; have hQ := hQ.mono hI15; have hT := hT.mono hI15; have hIp := hIp.mono hI15; have hOw := hOw.mono hI15; have hIq := hIq.mono hI15
 have hOt := hOt.mono hI15; have hJp := hJp.mono hI15; have hJq := hJq.mono hI15; have hIc := hIc.trans hI15
 refine zM ?_
 refine zE ?_
 refine zE ?_
 refine zA ?_
 refine zA ?_
 refine zN ?_
 refine X_seq ?_
 refine zR ?_
 refine zM ?_
 refine zC ?_
 refine zM ?_
 refine XO_pushF 2 rfl rfl rfl ?_
 refine zJ (ev_move rfl) ?_
 refine zJ (ev_cmp rfl rfl rfl) ?_
 refine XO_or0 rfl rfl rfl rfl rfl ?_
 refine zM ?_
 refine XO_pushF 6 rfl rfl rfl ?_
 refine zJ (ev_move rfl) ?_
 refine zJ (ev_cmp rfl rfl rfl) ?_
 refine XO_or0 rfl rfl rfl rfl rfl ?_
 refine zM ?_
 refine XO_pushF 10 rfl rfl rfl ?_
 refine zJ (ev_move rfl) ?_
 refine zJ (ev_move rfl) ?_
 refine XO_callV1 (cap := []) (vs := [_, _]) rfl rfl fun_11 (fun hg => w_sameG hOw (by omega) hA) (.some rfl rfl rfl rfl gbf) rfl rfl ?_
 refine zJ (ev_not rfl) ?_
 refine XO_or0 rfl rfl rfl rfl rfl ?_
 refine zM ?_
 refine XO_pushF 16 rfl rfl rfl ?_
 refine zJ (ev_move rfl) ?_
 refine zJ (ev_move rfl) ?_
 refine XO_callV1 (cap := []) (vs := [_, _]) rfl rfl fun_11 (fun hg => w_sameG hOt (by omega) hB) (.some rfl rfl rfl rfl gbf) rfl rfl ?_
 refine zJ (ev_not rfl) ?_
 refine XO_or0 rfl rfl rfl rfl rfl ?_
 refine zM ?_
 refine XO_pushF 22 rfl rfl rfl ?_
 refine zJ (ev_move rfl) ?_
 refine zJ (ev_lenS rfl slt_38) ?_
 refine zJ (ev_move rfl) ?_
 refine zJ (ev_lenS rfl slt_33) ?_
 refine zJ (ev_cmp rfl rfl rfl) ?_
 refine XO_or0 rfl rfl rfl rfl rfl ?_
 refine zN ?_
 refine zI ?_ ?_ <;> intro hc205
 ·
  simp [same_self] at hc205
 refine X_skip ?_
 refine at_then ?_
 refine X_seq ?_
 refine zR ?_
 refine zM ?_
 refine zQ slt_33 ?_
 refine zM ?_
 refine zN ?_
 refine X_block ?_
 refine X_loopT [(0, _), (7, _), (13, _), (15, _), (17, _), (22, _), (206, _), (207, _)] (.cons rfl (.cons rfl (.cons rfl (.cons rfl (.cons rfl (.cons rfl (.cons rfl (.cons rfl .nil)))))))) (fun T L0 mz E I' loc' => ∃ (k : Nat), mz = ps.length - k ∧ E = (208, .int .i64 k) :: T ∧ I15 = I' ∧ L0 = loc' ∧ k ≤ ps.length ∧ Ovn ps qs k) _ _ _ _ ⟨0, rfl, rfl, rfl, rfl, Nat.zero_le _, Ovn.start⟩ (.cons rfl (.cons rfl (.cons rfl (.cons rfl (.cons rfl (.cons rfl (.cons rfl (.cons rfl (.cons rfl .nil))))))))) (HLe.refl _) rfl ?_
 rintro mz E I' loc' ⟨k, rfl, rfl, rfl, rfl, hk, hov⟩
 refine zR ?_
 refine zC ?_
 refine zN ?_
 refine X_seq ?_
 refine zI ?_ ?_ <;> intro hc209
 ·
  have hlt_k : k < ps.length := by have h := hc209; simp at h; omega
  obtain ⟨x, hx⟩ : ∃ x, ps[k]? = some x := ⟨_, List.getElem?_eq_getElem hlt_k⟩
  have hNx := hP.2 x (List.mem_of_getElem? hx)
  have hxc := htw.ok x (List.mem_append_left _ (List.mem_of_getElem? hx))
  refine X_skip ?_
  refine at_then ?_
  refine X_seq ?_
  refine X_block ?_
  refine zR ?_
  refine zV (ev_indexSl rfl rfl slt_33 hP.1 (fun hg => by first | omega | (simp [conj] at hg; omega))) ?_
  refine zV (ev_loadA rfl agt_44 (fun hg => by first | exact Cells.immC (vs := encE e1) hE1 | exact Cells.immC (vs := encE e2) hE2 | exact Cells.immC (vs := encE e3) hE3 | exact Sl.getA hP.1 hx | exact Sl.getA hQ.1 hy | exact Cells.here | exact Cells.there Cells.here | (repeat (first | exact Cells.here | exact Cells.s0 (vs := [_, _, _, _, _, _, _, _, _, _, _, _, _, _, _, _, _, _, _]) rfl | apply Cells.there | apply Cells.app))) rfl) ?_
  refine XO_alloc zt_44 rfl rfl (fun b_25 => ?_)
  refine XO_storeA rfl rfl szt_44 rfl rfl rfl rfl (by repeat (first | exact Upd.here | apply Upd.there | apply upd_app)) ?_
  refine zN (zR ?_)
  refine zM ?_
  refine zQ slt_33 ?_
  refine zM ?_
  refine zN ?_
  refine X_block ?_
  refine X_loopT [(0, _), (7, _), (13, _), (15, _), (17, _), (22, _), (25, _), (206, _), (207, _), (208, _), (212, _), (213, _)] (.cons rfl (.cons rfl (.cons rfl (.cons rfl (.cons rfl (.cons rfl (.cons rfl (.cons rfl (.cons rfl (.cons rfl (.cons rfl (.cons rfl .nil)))))))))))) (fun T L0 mz E I' loc' => ∃ (j : Nat), mz = qs.length - j ∧ E = (214, .int .i64 j) :: T ∧ I15 = I' ∧ L0 = loc' ∧ j ≤ qs.length ∧ Ovi x qs j) _ _ _ _ ⟨0, rfl, rfl, rfl, rfl, Nat.zero_le _, Ovi.start⟩ (.cons rfl (.cons rfl (.cons rfl (.cons rfl (.cons rfl (.cons rfl (.cons rfl (.cons rfl (.cons rfl (.cons rfl (.cons rfl (.cons rfl (.cons rfl .nil))))))))))))) (HLe.refl _) rfl ?_
  rintro mz E I' loc' ⟨j, rfl, rfl, rfl, rfl, hj, hoi⟩
  refine zR ?_
  refine zC ?_
  refine zN ?_
  refine X_seq ?_
  refine zI ?_ ?_ <;> intro hc215
  ·
   have hlt_j : j < qs.length := by have h := hc215; simp at h; omega
   obtain ⟨y, hy⟩ : ∃ y, qs[j]? = some y := ⟨_, List.getElem?_eq_getElem hlt_j⟩
   have hNy := hQ.2 y (List.mem_of_getElem? hy)
   have hyc := htw.ok y (List.mem_append_right _ (List.mem_of_getElem? hy))
   obtain ⟨hv1, hv2⟩ := ov_val hxc hyc
   refine X_skip ?_
   refine at_then ?_
   refine X_seq ?_
   refine X_block ?_
   refine zR ?_
   refine zV (ev_indexSl rfl rfl slt_33 hQ.1 (fun hg => by first | omega | (simp [conj] at hg; omega))) ?_
   refine zV (ev_loadA rfl agt_44 (fun hg => by first | exact Cells.immC (vs := encE e1) hE1 | exact Cells.immC (vs := encE e2) hE2 | exact Cells.immC (vs := encE e3) hE3 | exact Sl.getA hP.1 hx | exact Sl.getA hQ.1 hy | exact Cells.here | exact Cells.there Cells.here | (repeat (first | exact Cells.here | exact Cells.s0 (vs := [_, _, _, _, _, _, _, _, _, _, _, _, _, _, _, _, _, _, _]) rfl | apply Cells.there | apply Cells.app))) rfl) ?_
   refine XO_alloc zt_44 rfl rfl (fun b_27 => ?_)
   refine XO_storeA rfl rfl szt_44 rfl rfl rfl rfl (by repeat (first | exact Upd.here | apply Upd.there | apply upd_app)) ?_
   refine zN (zR ?_)
   refine zV (ev_loadA rfl agt_44 (fun hg => by first | exact Cells.immC (vs := encE e1) hE1 | exact Cells.immC (vs := encE e2) hE2 | exact Cells.immC (vs := encE e3) hE3 | exact Sl.getA hP.1 hx | exact Sl.getA hQ.1 hy | exact Cells.here | exact Cells.there Cells.here | (repeat (first | exact Cells.here | exact Cells.s0 (vs := [_, _, _, _, _, _, _, _, _, _, _, _, _, _, _, _, _, _, _]) rfl | apply Cells.there | apply Cells.app))) rfl) ?_
   refine zV (ev_loadA rfl agt_44 (fun hg => by first | exact Cells.immC (vs := encE e1) hE1 | exact Cells.immC (vs := encE e2) hE2 | exact Cells.immC (vs := encE e3) hE3 | exact Sl.getA hP.1 hx | exact Sl.getA hQ.1 hy | exact Cells.here | exact Cells.there Cells.here | (repeat (first | exact Cells.here | exact Cells.s0 (vs := [_, _, _, _, _, _, _, _, _, _, _, _, _, _, _, _, _, _, _]) rfl | apply Cells.there | apply Cells.app))) rfl) ?_
   refine XO_callV0 (cap := []) (vs := [_, _]) rfl rfl fun_12 (w_over x y hNx hNy) rfl rfl ?_
   refine zM ?_
   refine zE ?_
   refine zE ?_
   refine zA ?_
   refine zA ?_
   refine zN (zR ?_)
   refine zM ?_
   refine zC ?_
   refine zM ?_
   refine XO_pushF 2 rfl rfl rfl ?_
   refine zJ (ev_move rfl) ?_
   refine XO_or0 rfl rfl rfl rfl rfl ?_
   refine zN ?_
   refine zI ?_ ?_ <;> intro hc228
   ·
    refine zR ?_
    refine zM ?_
    refine zC ?_
    refine zA ?_
    refine zN ?_
    refine X_ret ?_
    refine at_block_r ?_
    refine at_then_r ?_
    refine at_then_r ?_
    refine at_block_r ?_
    refine at_block_r ?_
    refine at_then_r ?_
    refine at_then_r ?_
    refine at_block_r ?_
    refine at_then_r ?_
    first
    | exact at_ret1 rfl rfl (fun w hw => ⟨by rfl, (hw.mono hIc).drop⟩)
    | exact at_ret1 rfl rfl (fun w hw => ⟨by rw [hv1]; rfl, (hw.mono hIc).drop⟩)
    | exact at_ret1 rfl rfl (fun w hw => ⟨by rw [hk1, hk2, hk3]; simp, (hw.mono hIc).drop⟩)
    | exact at_ret1 rfl rfl (fun w hw => ⟨by rw [hk5]; rfl, (hw.mono hIc).drop⟩)
    | exact at_ret1 rfl rfl (fun w hw => ⟨by rcases hgr with h | h | h <;> rw [h] <;> rfl, (hw.mono hIc).drop⟩)
    | exact at_ret1 rfl rfl (fun w hw => ⟨by rw [same_self]; rfl, (hw.mono hIc).drop⟩)
   have hob : ovB x y = false := by have h := hc228; rw [hv1, hv2] at h; simpa using h
   refine X_skip ?_
   refine at_block_n ?_
   refine at_then ?_
   refine X_region ?_
   refine zB ?_
   refine zM ?_
   refine XO_nil ?_
   exact at_met2 _ _ ⟨qs.length - (j + 1), by omega, j + 1, rfl, rfl, rfl, rfl, by omega, hoi.step hy hob⟩ (.cons rfl (.cons rfl (.cons rfl (.cons rfl (.cons rfl (.cons rfl (.cons rfl (.cons rfl (.cons rfl (.cons rfl (.cons rfl (.cons rfl (.cons rfl .nil))))))))))))) (by repeat (first | exact .refl | exact subL_left | refine subL_app ?_ | refine .drop ?_ | refine subL_add ?_))
  have hge_j : qs.length ≤ j := by have h := hc215; simp at h; omega
  refine X_exit ?_
  refine at_then_e ?_
  refine at_then_e ?_
  refine at_block_hit ?_
  refine at_block_n ?_
  refine at_then ?_
  refine X_region ?_
  refine zB ?_
  refine zM ?_
  refine XO_nil ?_
  exact at_met2 _ _ ⟨ps.length - (k + 1), by omega, k + 1, rfl, rfl, rfl, rfl, by omega, hov.step hx (hoi.all hge_j)⟩ (.cons rfl (.cons rfl (.cons rfl (.cons rfl (.cons rfl (.cons rfl (.cons rfl (.cons rfl (.cons rfl .nil))))))))) (by repeat (first | exact .refl | exact subL_left | refine subL_app ?_ | refine .drop ?_ | refine subL_add ?_))
 have hge_k : ps.length ≤ k := by have h := hc209; simp at h; omega
 have hno := hov.all hge_k
 have hal := htw.all hcr hno
 obtain ⟨hrun, hlook, hmlen⟩ := htw.mgst hcr hno
 refine X_exit ?_
 refine at_then_e ?_
 refine at_then_e ?_
 refine at_block_hit ?_
 refine at_then ?_
 refine zR ?_
 refine zM ?_
 refine zM ?_
 refine zM ?_
 refine XO_callM (cap := []) (vs := [_, _, _]) rfl rfl fun_13 .nil ((show RetM _ _ _ _ _ (ResC 0 []) from by have h := w_Conflicts hT (by omega) hS (by omega) hV (by first | omega | (simp only [List.length_append, List.length_map]; omega)); rwa [hal.1, hal.2.1] at h)) rfl rfl ?_
 rintro vv18 I18 L18 hI18 ⟨rfl, cs, xa, xc, rfl, _, hck⟩
 have hS := hS.mono hI18; have hE3 := hE3.mono hI18; have hE2 := hE2.mono hI18; have hE1 := hE1.mono hI18; have hA := hA.mono hI18; have hB := hB.mono hI18; have hP := hP.mono hI18; have hQ := hQ.mono hI18; have hT := hT.mono hI18; have hIp := hIp.mono hI18; have hOw := hOw.mono hI18; have hIq := hIq.mono hI18
 have hOt := hOt.mono hI18; have hJp := hJp.mono hI18; have hJq := hJq.mono hI18; have hV := hV.mono hI18; have hIc := hIc.trans hI18
 have hcs : cs = [] := List.map_eq_nil_iff.1 hck
 subst hcs
 refine zM ?_
 refine zE ?_
 refine zE ?_
 refine zA ?_
 refine zA ?_
 refine zN (zR ?_)
 refine zM ?_
 refine zM ?_
 refine zM ?_
 refine XO_callM (cap := []) (vs := [_, _, _]) rfl rfl fun_8 .nil ((show RetM _ _ _ _ _ (ResG 0 (mgS xs (ps ++ qs))) from by have h := w_Signs hT (by omega) hS (by omega) hV (by first | omega | (simp only [List.length_append, List.length_map]; omega)); rwa [hal.1, hal.2.2.1] at h)) rfl rfl ?_
 rintro vv19 I19 L19 hI19 ⟨rfl, ga, gc, rfl, hMs⟩
 have hS := hS.mono hI19; have hE3 := hE3.mono hI19; have hE2 := hE2.mono hI19; have hE1 := hE1.mono hI19; have hA := hA.mono hI19; have hB := hB.mono hI19; have hP := hP.mono hI19; have hQ := hQ.mono hI19; have hT := hT.mono hI19; have hIp := hIp.mono hI19; have hOw := hOw.mono hI19; have hIq := hIq.mono hI19
 have hOt := hOt.mono hI19; have hJp := hJp.mono hI19; have hJq := hJq.mono hI19; have hV := hV.mono hI19; have hIc := hIc.trans hI19
 refine zM ?_
 refine zE ?_
 refine zE ?_
 refine zA ?_
 refine zA ?_
 refine zN (zR ?_)
 refine zM ?_
 refine zM ?_
 refine XO_callM (cap := []) (vs := [_, _]) rfl rfl fun_14 .nil ((show RetM _ _ _ _ _ (ResG 0 (mgS xs (ps ++ qs))) from by have h := w_Run hS (by omega) hT (by omega) (by omega); rwa [hal.2.2.2.1] at h)) rfl rfl ?_
 rintro vv20 I20 L20 hI20 ⟨rfl, ra, rc, rfl, hR1⟩
 have hS := hS.mono hI20; have hE3 := hE3.mono hI20; have hE2 := hE2.mono hI20; have hE1 := hE1.mono hI20; have hA := hA.mono hI20; have hB := hB.mono hI20; have hP := hP.mono hI20; have hQ := hQ.mono hI20; have hT := hT.mono hI20; have hIp := hIp.mono hI20; have hOw := hOw.mono hI20; have hIq := hIq.mono hI20
 have hOt := hOt.mono hI20; have hJp := hJp.mono hI20; have hJq := hJq.mono hI20; have hV := hV.mono hI20; have hMs := hMs.mono hI20; have hIc := hIc.trans hI20
 refine zM ?_
 refine zE ?_
 refine zE ?_
 refine zA ?_
 refine zA ?_
 refine zN (zR ?_)
 refine zM ?_
 refine XO_buildSlice (ps := []) (m := []) elt_33 rfl (.nil) rfl (by simp) (by decide) (by decide) rfl rfl (fun b_255 => ?_)
 refine zM ?_
 refine XO_append (v := _) (ys := qs.flatMap encP) (L := [(b_255, _)]) rfl rfl elt_33 OwnS.new (by repeat (first | exact .cons .here .nil | exact split_all | exact split_app | apply split_cons | apply split_skip)) (hQ.1.src encP_len) (one_P _) (by omega) rfl rfl ?_
 intro v3 L3 hO3 _; rw [List.nil_append, Nat.zero_add] at hO3
 refine zM ?_
 refine XO_append (v := _) (ys := ps.flatMap encP) (L := L3) rfl rfl elt_33 hO3 (by repeat (first | exact .cons .here .nil | exact split_all | exact split_app | apply split_cons | apply split_skip)) (hP.1.src encP_len) (one_P _) (by omega) rfl rfl ?_
 intro v4 L4 hO4 _; rw [← List.flatMap_append] at hO4
 refine XO_freezeO hO4 encP_len (by decide) (by repeat (first | exact .cons .here .nil | exact split_all | exact split_app | apply split_cons | apply split_skip)) (fun I21 hI21 af21 cf21 e21 hU9 => ?_)
 subst e21
 have hS := hS.mono hI21; have hE3 := hE3.mono hI21; have hE2 := hE2.mono hI21; have hE1 := hE1.mono hI21; have hA := hA.mono hI21; have hB := hB.mono hI21; have hP := hP.mono hI21; have hQ := hQ.mono hI21; have hT := hT.mono hI21; have hIp := hIp.mono hI21; have hOw := hOw.mono hI21; have hIq := hIq.mono hI21
 have hOt := hOt.mono hI21; have hJp := hJp.mono hI21; have hJq := hJq.mono hI21; have hV := hV.mono hI21; have hMs := hMs.mono hI21; have hR1 := hR1.mono hI21; have hIc := hIc.trans hI21
 have hU := slp_app hQ hP hU9
 refine XO_callM (cap := []) (vs := [_, _]) rfl rfl fun_14 .nil ((show RetM _ _ _ _ _ (ResG 0 (mgS xs (ps ++ qs))) from by have h := w_Run hS (by omega) hU (by omega) (by omega); rwa [hal.2.2.2.2] at h)) rfl rfl ?_
 rintro vv22 I22 L22 hI22 ⟨rfl, rb, rd, rfl, hR2⟩
 have hS := hS.mono hI22; have hE3 := hE3.mono hI22; have hE2 := hE2.mono hI22; have hE1 := hE1.mono hI22; have hA := hA.mono hI22; have hB := hB.mono hI22; have hP := hP.mono hI22; have hQ := hQ.mono hI22; have hT := hT.mono hI22; have hIp := hIp.mono hI22; have hOw := hOw.mono hI22; have hIq := hIq.mono hI22
 have hOt := hOt.mono hI22; have hJp := hJp.mono hI22; have hJq := hJq.mono hI22; have hV := hV.mono hI22; have hMs := hMs.mono hI22; have hR1 := hR1.mono hI22; have hU := hU.mono hI22; have hIc := hIc.trans hI22
 refine zM ?_
 refine zE ?_
 refine zE ?_
 refine zA ?_
 refine zA ?_
 refine zN ?_
 refine X_seq ?_
 refine zR ?_
 refine zM ?_
 refine zC ?_
 refine zM ?_
 refine XO_pushF 2 rfl rfl rfl ?_
 refine zJ (ev_move rfl) ?_
 refine zJ (ev_cmp rfl rfl rfl) ?_
 refine XO_or0 rfl rfl rfl rfl rfl ?_
 refine zM ?_
 refine XO_pushF 6 rfl rfl rfl ?_
 refine zJ (ev_move rfl) ?_
 refine zJ (ev_cmp rfl rfl rfl) ?_
 refine XO_or0 rfl rfl rfl rfl rfl ?_
 refine zM ?_
 refine XO_pushF 10 rfl rfl rfl ?_
 refine zJ (ev_move rfl) ?_
 refine zJ (ev_cmp rfl rfl rfl) ?_
 refine XO_or0 rfl rfl rfl rfl rfl ?_
 refine zM ?_
 refine XO_pushF 14 rfl rfl rfl ?_
 refine zJ (ev_move rfl) ?_
 refine zJ (ev_lenS rfl slt_47) ?_
 refine zJ (ev_cmp rfl rfl rfl) ?_
 refine XO_or0 rfl rfl rfl rfl rfl ?_
 refine zM ?_
 refine XO_pushF 19 rfl rfl rfl ?_
 refine zJ (ev_move rfl) ?_
 refine zJ (ev_move rfl) ?_
 refine XO_callV1 (cap := []) (vs := [_, _]) rfl rfl fun_11 (fun hg => w_sameG hMs (by omega) hR1) (.some rfl rfl rfl rfl gbf) rfl rfl ?_
 refine zJ (ev_not rfl) ?_
 refine XO_or0 rfl rfl rfl rfl rfl ?_
 refine zM ?_
 refine XO_pushF 25 rfl rfl rfl ?_
 refine zJ (ev_move rfl) ?_
 refine zJ (ev_move rfl) ?_
 refine XO_callV1 (cap := []) (vs := [_, _]) rfl rfl fun_11 (fun hg => w_sameG hMs (by omega) hR2) (.some rfl rfl rfl rfl gbf) rfl rfl ?_
 refine zJ (ev_not rfl) ?_
 refine XO_or0 rfl rfl rfl rfl rfl ?_
 refine zN ?_
 refine zI ?_ ?_ <;> intro hc293
 ·
  simp [same_self] at hc293
 refine X_skip ?_
 refine at_then ?_
 refine zR ?_
 refine zM ?_
 refine zV (ev_loadA rfl agt_28 (fun hg => by first | exact Cells.immC (vs := encE e1) hE1 | exact Cells.immC (vs := encE e2) hE2 | exact Cells.immC (vs := encE e3) hE3 | exact Sl.getA hP.1 hx | exact Sl.getA hQ.1 hy | exact Cells.here | exact Cells.there Cells.here | (repeat (first | exact Cells.here | exact Cells.s0 (vs := [_, _, _, _, _, _, _, _, _, _, _, _, _, _, _, _, _, _, _, _, _, _]) rfl | apply Cells.there | apply Cells.app))) rfl) ?_
 refine XO_callM (cap := []) (vs := [_, _]) rfl rfl fun_5 .nil (w_Apply hMs (by omega) e3) rfl rfl ?_
 rintro vv23 I23 L23 hI23 ⟨rfl, ac, nc, cc, cs3, erc, rfl, hC, hnc, hapc, _⟩
 have hS := hS.mono hI23; have hE3 := hE3.mono hI23; have hE2 := hE2.mono hI23; have hE1 := hE1.mono hI23; have hA := hA.mono hI23; have hB := hB.mono hI23; have hP := hP.mono hI23; have hQ := hQ.mono hI23; have hT := hT.mono hI23; have hIp := hIp.mono hI23; have hOw := hOw.mono hI23; have hIq := hIq.mono hI23
 have hOt := hOt.mono hI23; have hJp := hJp.mono hI23; have hJq := hJq.mono hI23; have hV := hV.mono hI23; have hMs := hMs.mono hI23; have hR1 := hR1.mono hI23; have hU := hU.mono hI23; have hR2 := hR2.mono hI23; have hIc := hIc.trans hI23
 refine zM ?_
 refine zE ?_
 refine zE ?_
 refine zA ?_
 refine zA ?_
 refine zN ?_
 refine X_seq ?_
 refine zR ?_
 refine zM ?_
 refine zC ?_
 refine zM ?_
 refine XO_pushF 2 rfl rfl rfl ?_
 refine zJ (ev_move rfl) ?_
 refine zJ (ev_lenS rfl slt_38) ?_
 refine zJ (ev_cmp rfl rfl rfl) ?_
 refine XO_or0 rfl rfl rfl rfl rfl ?_
 refine zM ?_
 refine XO_pushF 7 rfl rfl rfl ?_
 refine zJ (ev_move rfl) ?_
 refine zJ (ev_lenS rfl slt_22) ?_
 refine zJ (ev_cmp rfl rfl rfl) ?_
 refine XO_or0 rfl rfl rfl rfl rfl ?_
 refine zN ?_
 refine zI ?_ ?_ <;> intro hc311
 ·
  refine zR ?_
  refine zA ?_
  refine zN ?_
  refine X_ret ?_
  refine at_then_r ?_
  first
  | exact at_ret1 rfl rfl (fun w hw => ⟨by rfl, (hw.mono hIc).drop⟩)
  | exact at_ret1 rfl rfl (fun w hw => ⟨by rw [hv1]; rfl, (hw.mono hIc).drop⟩)
  | exact at_ret1 rfl rfl (fun w hw => ⟨by rw [hk1, hk2, hk3]; simp, (hw.mono hIc).drop⟩)
  | exact at_ret1 rfl rfl (fun w hw => ⟨by rw [hk5]; rfl, (hw.mono hIc).drop⟩)
  | exact at_ret1 rfl rfl (fun w hw => ⟨by rcases hgr with h | h | h <;> rw [h] <;> rfl, (hw.mono hIc).drop⟩)
  | exact at_ret1 rfl rfl (fun w hw => ⟨by rw [same_self]; rfl, (hw.mono hIc).drop⟩)
 obtain ⟨he3, hv32, hn3⟩ : erc = 0 ∧ (ps ++ qs).length ≤ 32 ∧ nc ≤ 50 := by have h := hc311; simp only [List.length_map] at h; simp at h ⊢; omega
 have hC1 := hapc he3
 have hlc := hC.len
 refine X_skip ?_
 refine at_then ?_
 refine zR ?_
 refine zM ?_
 refine zM ?_
 refine zM ?_
 refine zQ slt_33 ?_
 refine zB ?_
 refine zM ?_
 refine XO_callM (cap := []) (vs := [_, _, _, _]) rfl rfl fun_6 .nil (w_Diff hMs (by omega) hC (by omega) (1 + ((ps.length + qs.length : Nat) : Int)) hV (by first | omega | (simp only [List.length_append, List.length_map]; omega))) rfl rfl ?_
 rintro vv24 I24 L24 hI24 ⟨rfl, da, dm, dc, ds, rfl, hD9, hdd⟩
 have hS := hS.mono hI24; have hE3 := hE3.mono hI24; have hE2 := hE2.mono hI24; have hE1 := hE1.mono hI24; have hA := hA.mono hI24; have hB := hB.mono hI24; have hP := hP.mono hI24; have hQ := hQ.mono hI24; have hT := hT.mono hI24; have hIp := hIp.mono hI24; have hOw := hOw.mono hI24; have hIq := hIq.mono hI24
 have hOt := hOt.mono hI24; have hJp := hJp.mono hI24; have hJq := hJq.mono hI24; have hV := hV.mono hI24; have hMs := hMs.mono hI24; have hR1 := hR1.mono hI24; have hU := hU.mono hI24; have hR2 := hR2.mono hI24; have hC := hC.mono hI24; have hIc := hIc.trans hI24
 have hldm := hD9.len
 subst hldm
 refine zM ?_
 refine zE ?_
 refine zE ?_
 refine zA ?_
 refine zA ?_
 refine zN ?_
 refine X_seq ?_
 refine zR ?_
 refine zM ?_
 refine zC ?_
 refine zM ?_
 refine XO_pushF 2 rfl rfl rfl ?_
 refine zJ (ev_move rfl) ?_
 refine zJ (ev_lenS rfl slt_33) ?_
 refine zJ (ev_cmp rfl rfl rfl) ?_
 refine XO_or0 rfl rfl rfl rfl rfl ?_
 refine zN ?_
 refine zI ?_ ?_ <;> intro hc328
 ·
  have hgr := difE_range (a := (mgS xs (ps ++ qs))) (b := cs3) (first := (1 + ((ps.length + qs.length : Nat) : Int))) (needs := ((ps ++ qs).map (·.id))) hC1.cb hC1.ca
  refine zR ?_
  refine zM ?_
  refine zC ?_
  refine zM ?_
  refine XO_pushF 2 rfl rfl rfl ?_
  refine zJ (ev_move rfl) ?_
  refine zJ (ev_cmp rfl rfl rfl) ?_
  refine XO_or0 rfl rfl rfl rfl rfl ?_
  refine zM ?_
  refine XO_pushF 6 rfl rfl rfl ?_
  refine zJ (ev_move rfl) ?_
  refine zJ (ev_cmp rfl rfl rfl) ?_
  refine XO_or0 rfl rfl rfl rfl rfl ?_
  refine zA ?_
  refine zN ?_
  refine X_ret ?_
  refine at_then_r ?_
  first
  | exact at_ret1 rfl rfl (fun w hw => ⟨by rfl, (hw.mono hIc).drop⟩)
  | exact at_ret1 rfl rfl (fun w hw => ⟨by rw [hv1]; rfl, (hw.mono hIc).drop⟩)
  | exact at_ret1 rfl rfl (fun w hw => ⟨by rw [hk1, hk2, hk3]; simp, (hw.mono hIc).drop⟩)
  | exact at_ret1 rfl rfl (fun w hw => ⟨by rw [hk5]; rfl, (hw.mono hIc).drop⟩)
  | exact at_ret1 rfl rfl (fun w hw => ⟨by rcases hgr with h | h | h <;> rw [h] <;> rfl, (hw.mono hIc).drop⟩)
  | exact at_ret1 rfl rfl (fun w hw => ⟨by rw [same_self]; rfl, (hw.mono hIc).drop⟩)
 obtain ⟨hw0, hd30⟩ : difE (mgS xs (ps ++ qs)) cs3 (1 + ((ps.length + qs.length : Nat) : Int)) ((ps ++ qs).map (·.id)) = 0 ∧ ds.length ≤ 30 := by have h := hc328; simp at h ⊢; omega
 have hfst : (1 + ((ps.length + qs.length : Nat) : Int)) = 1 + ((ps ++ qs).length : Int) := by rw [List.length_append]
 rw [hfst] at hw0 hdd
 obtain ⟨hon2, hdc, hpk, hms0, hcc0⟩ := htw.on2 hw0 hdd
 refine X_skip ?_
 refine at_then ?_
 refine zR ?_
 refine XO_buildSlice (ps := []) (m := []) elt_33 rfl (.nil) rfl (by simp) (by decide) (by decide) rfl rfl (fun b_339 => ?_)
 refine zM ?_
 refine XO_append (v := _) (ys := (ps ++ qs).flatMap encP) (L := [(b_339, _)]) rfl rfl elt_33 OwnS.new (by repeat (first | exact .cons .here .nil | exact split_all | exact split_app | apply split_cons | apply split_skip)) (hT.1.src encP_len) (one_P _) (by omega) rfl rfl ?_
 intro v5 L5 hO5 _; rw [List.nil_append, Nat.zero_add] at hO5
 refine zM ?_
 refine XO_append (v := _) (ys := ds.flatMap encP) (L := L5) rfl rfl elt_33 hO5 (by repeat (first | exact .cons .here .nil | exact split_all | exact split_app | apply split_cons | apply split_skip)) (hD9.1.src encP_len) (one_P _) (by omega) rfl rfl ?_
 intro v6 L6 hO6 _; rw [← List.flatMap_append] at hO6
 refine zA ?_
 refine zN ?_
 refine X_seq ?_
 refine X_seq ?_
 refine X_freezeO hO6 encP_len (by decide) (by repeat (first | exact .cons .here .nil | exact split_all | exact split_app | apply split_cons | apply split_skip)) (fun I25 hI25 ma mc e25 hM9 => ?_)
 subst e25
 have hS := hS.mono hI25; have hE3 := hE3.mono hI25; have hE2 := hE2.mono hI25; have hE1 := hE1.mono hI25; have hA := hA.mono hI25; have hB := hB.mono hI25; have hP := hP.mono hI25; have hQ := hQ.mono hI25; have hT := hT.mono hI25; have hIp := hIp.mono hI25; have hOw := hOw.mono hI25; have hIq := hIq.mono hI25
 have hOt := hOt.mono hI25; have hJp := hJp.mono hI25; have hJq := hJq.mono hI25; have hV := hV.mono hI25; have hMs := hMs.mono hI25; have hR1 := hR1.mono hI25; have hU := hU.mono hI25; have hR2 := hR2.mono hI25; have hC := hC.mono hI25; have hD9 := hD9.mono hI25; have hIc := hIc.trans hI25
 have hM := slp_app hT hD9 hM9
 refine X_region ?_
 refine zM ?_
 refine XO_callV0 (cap := []) (vs := [_]) rfl rfl fun_7 (w_chkR hM (by omega)) rfl rfl ?_
 refine zC ?_
 refine zN ?_
 refine zI ?_ ?_ <;> intro hc346
 ·
  have hcm : chkR ((ps ++ qs) ++ ds) ≠ 0 := by simpa using hc346
  have hk5 := more_no hcm (by simp only [List.length_append]; omega) hon2 hpk (chkR_sto hcr) hlook hdc hC1
  refine zR ?_
  refine zF fld_28_0 ?_
  refine zV (ev_load rfl sct_3 (fun hg => by first | exact Cell.imm hE1 rfl | exact Cell.imm hE2 rfl | exact Cell.imm hE3 rfl | (repeat (first | exact Cell.here rfl | apply Cell.there | apply Cell.app)))) ?_
  refine zC ?_
  refine zA ?_
  refine zN ?_
  refine X_ret ?_
  refine at_then_r ?_
  first
  | exact at_ret1 rfl rfl (fun w hw => ⟨by rfl, (hw.mono hIc).drop⟩)
  | exact at_ret1 rfl rfl (fun w hw => ⟨by rw [hv1]; rfl, (hw.mono hIc).drop⟩)
  | exact at_ret1 rfl rfl (fun w hw => ⟨by rw [hk1, hk2, hk3]; simp, (hw.mono hIc).drop⟩)
  | exact at_ret1 rfl rfl (fun w hw => ⟨by rw [hk5]; rfl, (hw.mono hIc).drop⟩)
  | exact at_ret1 rfl rfl (fun w hw => ⟨by rcases hgr with h | h | h <;> rw [h] <;> rfl, (hw.mono hIc).drop⟩)
  | exact at_ret1 rfl rfl (fun w hw => ⟨by rw [same_self]; rfl, (hw.mono hIc).drop⟩)
 have hcm : chkR ((ps ++ qs) ++ ds) = 0 := by simpa using hc346
 have hmo := more_ok hcm htw.cb hms0 hcc0 hon2 (apart_two htw.lst htw.dp htw.dq hno) (fit_two htw.dp htw.dq) hrun hlook hdc (by simp only [List.length_append]; omega) (by omega) (ver_all hon2.lst)
 refine X_skip ?_
 refine at_then ?_
 refine zR ?_
 refine zM ?_
 refine zM ?_
 refine zM ?_
 refine XO_callM (cap := []) (vs := [_]) rfl rfl fun_9 .nil (w_ids hM (by omega)) rfl rfl ?_
 rintro vv26 I26 L26 hI26 ⟨rfl, na2, nc2, rfl, hIm⟩
 have hS := hS.mono hI26; have hE3 := hE3.mono hI26; have hE2 := hE2.mono hI26; have hE1 := hE1.mono hI26; have hA := hA.mono hI26; have hB := hB.mono hI26; have hP := hP.mono hI26; have hQ := hQ.mono hI26; have hT := hT.mono hI26; have hIp := hIp.mono hI26; have hOw := hOw.mono hI26; have hIq := hIq.mono hI26
 have hOt := hOt.mono hI26; have hJp := hJp.mono hI26; have hJq := hJq.mono hI26; have hV := hV.mono hI26; have hMs := hMs.mono hI26; have hR1 := hR1.mono hI26; have hU := hU.mono hI26; have hR2 := hR2.mono hI26; have hC := hC.mono hI26; have hD9 := hD9.mono hI26; have hM := hM.mono hI26; have hIc := hIc.trans hI26
 refine XO_callM (cap := []) (vs := [_, _, _]) rfl rfl fun_8 .nil ((show RetM _ _ _ _ _ (ResG 0 cs3) from by have h := w_Signs hM (by omega) hS (by omega) hIm (by first | omega | (simp only [List.length_append, List.length_map]; omega)); rwa [hmo.1, hmo.2] at h)) rfl rfl ?_
 rintro vv27 I27 L27 hI27 ⟨rfl, za, zc, rfl, hLast⟩
 have hS := hS.mono hI27; have hE3 := hE3.mono hI27; have hE2 := hE2.mono hI27; have hE1 := hE1.mono hI27; have hA := hA.mono hI27; have hB := hB.mono hI27; have hP := hP.mono hI27; have hQ := hQ.mono hI27; have hT := hT.mono hI27; have hIp := hIp.mono hI27; have hOw := hOw.mono hI27; have hIq := hIq.mono hI27
 have hOt := hOt.mono hI27; have hJp := hJp.mono hI27; have hJq := hJq.mono hI27; have hV := hV.mono hI27; have hMs := hMs.mono hI27; have hR1 := hR1.mono hI27; have hU := hU.mono hI27; have hR2 := hR2.mono hI27; have hC := hC.mono hI27; have hD9 := hD9.mono hI27; have hM := hM.mono hI27; have hIm := hIm.mono hI27
 have hIc := hIc.trans hI27
 refine zM ?_
 refine zE ?_
 refine zE ?_
 refine zA ?_
 refine zA ?_
 refine zN (zR ?_)
 refine zM ?_
 refine zC ?_
 refine zM ?_
 refine XO_pushT 2 rfl rfl rfl ?_
 refine zK (ev_move rfl) ?_
 refine zK (ev_move rfl) ?_
 refine XO_callV1 (cap := []) (vs := [_, _]) rfl rfl fun_11 (fun hg => w_sameG hLast (by omega) hC) (.some rfl rfl rfl rfl gbt) rfl rfl ?_
 refine XO_and0 rfl rfl rfl rfl rfl ?_
 refine zA ?_
 refine zN ?_
 refine X_ret ?_
 first
 | exact at_ret1 rfl rfl (fun w hw => ⟨by rfl, (hw.mono hIc).drop⟩)
 | exact at_ret1 rfl rfl (fun w hw => ⟨by rw [hv1]; rfl, (hw.mono hIc).drop⟩)
 | exact at_ret1 rfl rfl (fun w hw => ⟨by rw [hk1, hk2, hk3]; simp, (hw.mono hIc).drop⟩)
 | exact at_ret1 rfl rfl (fun w hw => ⟨by rw [hk5]; rfl, (hw.mono hIc).drop⟩)
 | exact at_ret1 rfl rfl (fun w hw => ⟨by rcases hgr with h | h | h <;> rw [h] <;> rfl, (hw.mono hIc).drop⟩)
 | exact at_ret1 rfl rfl (fun w hw => ⟨by rw [same_self]; rfl, (hw.mono hIc).drop⟩)
end Go.Proofs.YtoicbikdenlioaaGreat
end
section
namespace Go.Kn
open Go Go.ChangeShapes Go.WideShapes Go.ChangeAt Go.RowKit
/-- All that lies in the world is read only. -/
def heapI (W : World) : HMap := fun b => W.heap[b]?
theorem St.start (W : World) : St W (heapI W) (fun _ => none) [] W :=
  ⟨rfl, rfl, rfl, ⟨Nat.le_refl _, Nat.le_refl _⟩, fun _ _ h => h, (fun _ _ h => by cases h), (fun _ _ h => by cases h), fun _ => .inr rfl, (fun _ _ h => by cases h), by simp⟩
theorem St.below {W w : World} {H : HMap} {loc : Loc} (h : St W (heapI W) H loc w) : Below W.heap.size W w :=
  ⟨h.os, h.tape, h.out, h.size.1, fun k hk => by
    have e : W.heap[k]? = some W.heap[k] := Array.getElem?_eq_getElem hk
    rw [h.imm k _ e, e]⟩
theorem RetV.law {P : Program} {f : FuncId} {args : List Value} {W : World} {v : Value} (h : RetV P f args (heapI W) v) : Calls P f args.toArray W fun e w' => e = .returned v ∧ Below W.heap.size W w' :=
  (h W _ W (St.start W)).mono fun _ _ ⟨he, hs⟩ => ⟨he, hs.below⟩
theorem keptBut_below {W w : World} {may : MemPlace → Prop} (h : Below W.heap.size W w) : W.keptBut w may := by
  refine ⟨h.os, h.output, fun i hi => ?_⟩
  rw [h.block i hi]
  rw [Array.getElem?_eq_getElem hi]
  cases W.heap[i] <;> simp
theorem trodAll_stays {H : Type} {enc : TypeId × Value → H} {P : Program} {W W' : World} (hl : laidOutB P = true) (hB : Below W.heap.size W W') (sp : Nat → Bool) : ∀ (ts : List TypeId) (vs : List Value) (ds : List (DataW H)) (ps : List MemPlace), (∀ t ∈ ts, P.readableRec t = true ∧ t < P.types.size) →
    DataW.TrodAll enc P W 0 (fun _ => true) true ts vs ds ps → (∀ x ∈ ps, x.block < W.heap.size ∧ sp x.block = true) → DataW.TrodAll enc P W' 0 sp true ts vs ds ps
  | [], [], [], ps, _, h, _ => h
  | t :: ts, v :: vs, d :: ds, ps, hr, ⟨p, q, h1, h2, e⟩, hlt => by
    subst e
    exact ⟨p, q, WideElems.Trod_stays hl (hr t (List.mem_cons_self ..)).1 (hr t (List.mem_cons_self ..)).2 h1 (fun x hx => hB.same (hlt x (List.mem_append_left _ hx)).1) (fun x hx => (hlt x (List.mem_append_left _ hx)).2),
      trodAll_stays hl hB sp ts vs ds q (fun t ht => hr t (List.mem_cons_of_mem _ ht)) h2 (fun x hx => hlt x (List.mem_append_right _ hx)), rfl⟩
/-- A law's row: it hands back true; the input reads as it did. -/
theorem post_law {H : Type} {enc : TypeId × Value → H} {P : Program} {f : Func} {s : ChangeSpec} {again : Bool} {W W' : World} {args : Array Value} {ds : List (DataW H)} {before : List MemPlace} {tb : TypeId}
    (hl : laidOutB P = true) (hr : f.resultTypes = #[tb]) (hb : P.underlying tb = some .bool) (hv : s.vars = []) (hs : (s.fn H (ds ++ [])) = { results := [.lit (.bool true)], args := ds }) (hrd : ∀ t ∈ f.params.toList, P.readableRec t = true ∧ t < P.types.size)
    (hW : DataW.Whole enc P f.params.toList s.vars false W args.toList ds [] before) (hB : Below W.heap.size W W') : s.post enc P f false true false again W args (.bool true) W' := by
  have hlt : ∀ x ∈ before, x.block < W.heap.size := fun x hx => by simpa using hW.lt x hx
  have hW0 := hW
  obtain ⟨p, q, hA, hV, rfl, hfz, _⟩ := hW
  rw [hv] at hV
  obtain ⟨_, rfl⟩ := trodVars_none hV
  rw [List.append_nil] at hlt hfz hW0
  have hres : ∀ (b : Nat) (sp : Nat → Bool) (hd : Bool), DataW.TrodAll enc P W' b sp hd f.resultTypes.toList ((Value.bool true).resultList f.resultTypes.size) [.lit (.bool true)] [] := fun b sp hd => by
    rw [hr]; exact trodAll_mk1 (shut_bool hb true)
  have hargs : ∀ sp : Nat → Bool, (∀ x ∈ p, sp x.block = true) → DataW.TrodAll enc P W' 0 sp true f.params.toList args.toList ds p := fun sp h => trodAll_stays hl hB sp _ _ _ _ hrd hA (fun x hx => ⟨hlt x hx, h x hx⟩)
  have hnil : ∀ sp : Nat → Bool, DataW.TrodVars enc P W' sp s.vars [] [] := fun sp => by rw [hv]; rfl
  refine ⟨ds, [], p, [], p, [], hW0, ?_, ?_, ?_, keptBut_below hB, fun _ => ?_⟩
  · rw [hs]; exact hres _ _ _
  · rw [hs]; exact hargs _ (fun x hx => by simpa using hlt x hx)
  · rw [hs]; exact hnil _
  · refine ⟨fun j t r ht hr' => ?_, [.lit (.bool true)] ++ ds, [], [] ++ p, ⟨[] ++ p, [], trodAll_append (hargs _ (fun _ _ => rfl)) (hres _ _ _), hnil _, by simp, ?_, fun h => by cases h⟩, fun x hx _ => by simpa using hx⟩
    · rw [hr] at ht hr'
      cases j with
      | zero => simp [Value.resultList] at ht hr'; subst ht; subst hr'; exact okWide_bool_mk hb _
      | succ j => simp at ht
    · intro b off hx
      rw [hB.frozen (hlt _ (by simpa using hx))]
      exact hfz b off (by simpa using hx)
theorem cell_heap {W : World} {b o : Nat} {u : Value} (h : W.cell? ⟨b, o, none⟩ = some u) : Cell (heapI W) [] b o u := by
  unfold World.cell? at h
  split at h
  · rename_i c t fz hb
    simp only [Option.isSome_none, Bool.false_eq_true, if_false] at h
    exact ⟨c, t, fz, .inl hb, h⟩
  · cases h
/-- A slice that came in, as it is read. -/
theorem open_SlT {H : Type} {enc : TypeId × Value → H} {P : Program} {W : World} {t e : TypeId} {size fuel0 : Nat} {cs : List Value} {x0 : DataW H × List MemPlace} {α : Type} (enc' : α → List Value) (ok : α → Prop)
    (ht : P.underlying t = some (.slice e)) (hc : P.cellsOf e = size) (hpos : 0 < size) (hlen : ∀ y, (enc' y).length = size)
    (hel : ∀ fuel cs x, DataW.trod enc P W 0 (fun _ => true) true fuel e cs = some x → ∃ y, ok y ∧ enc' y = cs)
    (hf' : DataW.trod enc P W 0 (fun _ => true) true fuel0 t cs = some x0) : ∃ av n c xs, cs = [.slice av n c] ∧ Sl (heapI W) size enc' av n c xs ∧ (∀ x ∈ xs, ok x) ∧ c ≤ maxLen := by
  rcases Go.Deep.open_slice ht hf' with ⟨e1, _⟩ | ⟨a, len0, cap0, m, n, D, Pl, e1, hb, hl, hm, hmm, _, hx⟩
  · subst e1
    exact ⟨none, 0, 0, [], rfl, .nil, (fun x hx => by cases hx), Nat.zero_le _⟩
  · subst e1
    have hlm : len0 ≤ m := by rw [hmm]; simp; exact hl
    have each : ∀ i, i < len0 → ∃ y, ok y ∧ W.cells? 0 (a.add (i * size)) size = some (enc' y) := fun i hi => by
      obtain ⟨cs', h1, h2⟩ := hx i (by omega)
      obtain ⟨y, hy, e⟩ := hel _ _ _ h2
      rw [hc] at h1
      exact ⟨y, hy, by rw [h1, e]⟩
    have all : ∀ k, k ≤ len0 → ∃ xs : List α, xs.length = k ∧ ∀ i x, xs[i]? = some x → ok x ∧ W.cells? 0 (a.add (i * size)) size = some (enc' x) := by
      intro k
      induction k with
      | zero => intro _; exact ⟨[], rfl, fun i x h => by simp at h⟩
      | succ k ih =>
        intro hk
        obtain ⟨xs, hl', hxs⟩ := ih (by omega)
        obtain ⟨y, hy, hcy⟩ := each k (by omega)
        refine ⟨xs ++ [y], by simp [hl'], fun i x h => ?_⟩
        by_cases hi : i < xs.length
        · rw [List.getElem?_append_left hi] at h; exact hxs i x h
        · rw [List.getElem?_append_right (by omega)] at h
          have : i = k := by have := (List.getElem?_eq_some_iff.1 h).1; simp at this; omega
          subst this
          rw [hl'] at h; simp at h; subst h
          exact ⟨hy, hcy⟩
    obtain ⟨xs, hl', hxs⟩ := all len0 (Nat.le_refl _)
    have add0 : ∀ (b o n : Nat), (⟨b, o, none⟩ : Addr).add n = ⟨b, o + n, none⟩ := fun b o n => by
      unfold Addr.add
      split
      · rename_i e; subst e; rfl
      · rfl
    have hspot : 0 < xs.length → a.spot = none := fun hx => by
      have hx0 : xs[0]? = some xs[0] := List.getElem?_eq_getElem hx
      have hp0 : 0 < (enc' xs[0]).length := by rw [hlen]; exact hpos
      obtain ⟨_, h1, h2⟩ := World.cells?_some (hxs 0 _ hx0).2
      have h3 := h2 0 hpos
      rw [List.getElem?_eq_getElem hp0] at h3
      simpa [Addr.add] using World.cell?_spot h3
    have cellat : ∀ i x, xs[i]? = some x → ∀ j u, (enc' x)[j]? = some u → W.cell? ⟨a.block, a.off + i * size + j, none⟩ = some u := fun i x hx j u hu => by
      obtain ⟨_, h1, h2⟩ := World.cells?_some (hxs i x hx).2
      have hj : j < size := by rw [← hlen x]; exact (List.getElem?_eq_some_iff.1 hu).1
      have h3 := h2 j hj
      rw [hu] at h3
      have hsp := hspot (by have := (List.getElem?_eq_some_iff.1 hx).1; omega)
      obtain ⟨b, o, sp⟩ := a
      simp only at hsp
      subst hsp
      rw [add0, add0] at h3
      exact h3
    refine ⟨some a, len0, cap0, xs, rfl, ⟨hl', hl, fun hn => ?_, fun k x hx j u hu => ?_⟩, fun x hx => ?_, hm⟩
    · have := hspot (by omega)
      obtain ⟨b, o, sp⟩ := a
      simp only at this
      subst this; rfl
    · exact cell_heap (cellat k x hx j u hu)
    · obtain ⟨i, hi⟩ := List.getElem?_of_mem hx
      exact (hxs i x hi).1
theorem open_Sl {H : Type} {enc : TypeId × Value → H} {P : Program} {W : World} {base : Nat} {t e : TypeId} {size : Nat} {v : Value} {d : DataW H} {p : List MemPlace} {α : Type} (enc' : α → List Value) (ok : α → Prop)
    (ht : P.underlying t = some (.slice e)) (hc : P.cellsOf e = size) (hpos : 0 < size) (hlen : ∀ y, (enc' y).length = size)
    (hel : ∀ fuel cs x, DataW.trod enc P W 0 (fun _ => true) true fuel e cs = some x → ∃ y, ok y ∧ enc' y = cs)
    (hv : Value.okWide P W .any base t v) (h : DataW.Trod enc P W 0 (fun _ => true) true t v d p) : ∃ av n c xs, v = .slice av n c ∧ Sl (heapI W) size enc' av n c xs ∧ (∀ x ∈ xs, ok x) ∧ c ≤ maxLen := by
  obtain ⟨a0, len0, cap0, rfl⟩ := okWide_slice ht hv
  obtain ⟨fuel, hf⟩ := h
  obtain ⟨av, n, c, xs, e, h1, h2, h3⟩ := open_SlT enc' ok ht hc hpos hlen hel (cs := [.slice a0 len0 cap0]) (by simpa [Value.cells] using hf)
  cases e
  exact ⟨_, _, _, xs, rfl, h1, h2, h3⟩
end Go.Kn
end
section
namespace Go.Kn
open Go
theorem trod_seg {H : Type} {enc : TypeId × Value → H} {P : Program} {W : World} {base : Nat} {spare : Nat → Bool} {held : Bool} {t C : Nat} {fs : Array Field} {fuel : Nat} {cs : List Value} {x : DataW H × List MemPlace} (hs : P.underlying t = some (.struct fs))
    (hC : P.cellsOf t = C) (h : DataW.trod enc P W base spare held fuel t cs = some x) :
    cs.length = C ∧ ∃ n, ∀ (i ty off k : Nat), ((fs[i]?).map fun f => (f.type, f.offset)) = some (ty, off) → P.cellsOf ty = k → ∃ y, DataW.trod enc P W base spare held n ty ((cs.drop off).take k) = some y := by
  obtain ⟨xs, n, _, _, hl, hxl, hf⟩ := DataW.trod_struct hs h
  refine ⟨hl.trans hC, n, fun i ty off k hi hk => ?_⟩
  obtain ⟨f, hfi, e⟩ := Option.map_eq_some_iff.1 hi
  cases e
  have g := hf i f hfi
  have hix : i < xs.length := by rw [hxl]; exact (Array.getElem?_eq_some_iff.1 hfi).1
  rw [hk, List.getElem?_eq_getElem hix] at g
  exact ⟨_, g⟩
end Go.Kn
end
section
namespace Go.Proofs.YtoicbikdenlioaaGreat
open Go Go.Kn Go.Proofs
open Go.ChangeShapes Go.WideShapes Go.ChangeAt Go.RowKit
set_option maxRecDepth 100000
theorem ound_3 : Tryz.prog.underlying 3 = some (.int .i64) := by kernel_rfl
theorem ostr_24 : Tryz.prog.underlying 24 = some (.struct (Tryz.prog.fieldsOf 24)) := by kernel_rfl
theorem ostr_26 : Tryz.prog.underlying 26 = some (.struct (Tryz.prog.fieldsOf 26)) := by kernel_rfl
theorem ound_22 : Tryz.prog.underlying 22 = some (.slice 26) := by kernel_rfl
theorem ostr_28 : Tryz.prog.underlying 28 = some (.struct (Tryz.prog.fieldsOf 28)) := by kernel_rfl
theorem el_sg {H : Type} {enc : TypeId × Value → H} {W : World} (fuel : Nat) (cs : List Value) (x : DataW H × List MemPlace) (h : DataW.trod enc Tryz.prog W 0 (fun _ => true) true fuel 26 cs = some x) : ∃ y : Sg, (fun _ => True) y ∧ encG y = cs := by
  obtain ⟨hl, n0_, f0⟩ := trod_seg (C := 14) ostr_26 (by kernel_rfl) h
  match cs, hl with
  | [c0, c1, c2, c3, c4, c5, c6, c7, c8, c9, c10, c11, c12, c13], _ =>
    obtain ⟨_, g0_0⟩ := f0 0 3 0 1 (by kernel_rfl) (by kernel_rfl)
    obtain ⟨n0, e0, _, w0⟩ := DataW.trod_int ound_3 (show DataW.trod enc Tryz.prog W 0 (fun _ => true) true n0_ 3 [c0] = some _ from g0_0)
    obtain ⟨_, g0_1⟩ := f0 1 3 1 1 (by kernel_rfl) (by kernel_rfl)
    obtain ⟨n1, e1, _, w1⟩ := DataW.trod_int ound_3 (show DataW.trod enc Tryz.prog W 0 (fun _ => true) true n0_ 3 [c1] = some _ from g0_1)
    obtain ⟨_, g0_2⟩ := f0 2 3 2 1 (by kernel_rfl) (by kernel_rfl)
    obtain ⟨n2, e2, _, w2⟩ := DataW.trod_int ound_3 (show DataW.trod enc Tryz.prog W 0 (fun _ => true) true n0_ 3 [c2] = some _ from g0_2)
    obtain ⟨_, g0_3⟩ := f0 3 3 3 1 (by kernel_rfl) (by kernel_rfl)
    obtain ⟨n3, e3, _, w3⟩ := DataW.trod_int ound_3 (show DataW.trod enc Tryz.prog W 0 (fun _ => true) true n0_ 3 [c3] = some _ from g0_3)
    obtain ⟨_, g0_4⟩ := f0 4 3 4 1 (by kernel_rfl) (by kernel_rfl)
    obtain ⟨n4, e4, _, w4⟩ := DataW.trod_int ound_3 (show DataW.trod enc Tryz.prog W 0 (fun _ => true) true n0_ 3 [c4] = some _ from g0_4)
    obtain ⟨_, g0_5⟩ := f0 5 3 5 1 (by kernel_rfl) (by kernel_rfl)
    obtain ⟨n5, e5, _, w5⟩ := DataW.trod_int ound_3 (show DataW.trod enc Tryz.prog W 0 (fun _ => true) true n0_ 3 [c5] = some _ from g0_5)
    obtain ⟨_, g0_6⟩ := f0 6 3 6 1 (by kernel_rfl) (by kernel_rfl)
    obtain ⟨n6, e6, _, w6⟩ := DataW.trod_int ound_3 (show DataW.trod enc Tryz.prog W 0 (fun _ => true) true n0_ 3 [c6] = some _ from g0_6)
    obtain ⟨_, g0_7⟩ := f0 7 3 7 1 (by kernel_rfl) (by kernel_rfl)
    obtain ⟨n7, e7, _, w7⟩ := DataW.trod_int ound_3 (show DataW.trod enc Tryz.prog W 0 (fun _ => true) true n0_ 3 [c7] = some _ from g0_7)
    obtain ⟨_, g0_8⟩ := f0 8 3 8 1 (by kernel_rfl) (by kernel_rfl)
    obtain ⟨n8, e8, _, w8⟩ := DataW.trod_int ound_3 (show DataW.trod enc Tryz.prog W 0 (fun _ => true) true n0_ 3 [c8] = some _ from g0_8)
    obtain ⟨_, g0_9⟩ := f0 9 3 9 1 (by kernel_rfl) (by kernel_rfl)
    obtain ⟨n9, e9, _, w9⟩ := DataW.trod_int ound_3 (show DataW.trod enc Tryz.prog W 0 (fun _ => true) true n0_ 3 [c9] = some _ from g0_9)
    obtain ⟨_, g0_10⟩ := f0 10 24 10 2 (by kernel_rfl) (by kernel_rfl)
    obtain ⟨_, n1_, f1⟩ := trod_seg (C := 2) ostr_24 (by kernel_rfl) (show DataW.trod enc Tryz.prog W 0 (fun _ => true) true n0_ 24 [c10, c11] = some _ from g0_10)
    obtain ⟨_, g1_0⟩ := f1 0 3 0 1 (by kernel_rfl) (by kernel_rfl)
    obtain ⟨n10, e10, _, w10⟩ := DataW.trod_int ound_3 (show DataW.trod enc Tryz.prog W 0 (fun _ => true) true n1_ 3 [c10] = some _ from g1_0)
    obtain ⟨_, g1_1⟩ := f1 1 3 1 1 (by kernel_rfl) (by kernel_rfl)
    obtain ⟨n11, e11, _, w11⟩ := DataW.trod_int ound_3 (show DataW.trod enc Tryz.prog W 0 (fun _ => true) true n1_ 3 [c11] = some _ from g1_1)
    obtain ⟨_, g0_11⟩ := f0 11 24 12 2 (by kernel_rfl) (by kernel_rfl)
    obtain ⟨_, n2_, f2⟩ := trod_seg (C := 2) ostr_24 (by kernel_rfl) (show DataW.trod enc Tryz.prog W 0 (fun _ => true) true n0_ 24 [c12, c13] = some _ from g0_11)
    obtain ⟨_, g2_0⟩ := f2 0 3 0 1 (by kernel_rfl) (by kernel_rfl)
    obtain ⟨n12, e12, _, w12⟩ := DataW.trod_int ound_3 (show DataW.trod enc Tryz.prog W 0 (fun _ => true) true n2_ 3 [c12] = some _ from g2_0)
    obtain ⟨_, g2_1⟩ := f2 1 3 1 1 (by kernel_rfl) (by kernel_rfl)
    obtain ⟨n13, e13, _, w13⟩ := DataW.trod_int ound_3 (show DataW.trod enc Tryz.prog W 0 (fun _ => true) true n2_ 3 [c13] = some _ from g2_1)
    cases e0; cases e1; cases e2; cases e3; cases e4; cases e5; cases e6; cases e7; cases e8; cases e9; cases e10; cases e11; cases e12; cases e13
    exact ⟨⟨n0, n1, n2, n3, n4, n5, n6, n7, n8, n9, n10, n11, n12, n13⟩, trivial, rfl⟩
theorem open_sgs {H : Type} {enc : TypeId × Value → H} {W : World} {base : Nat} {v : Value} {d : DataW H} {p : List MemPlace} (hv : Value.okWide Tryz.prog W .any base 22 v) (h : DataW.Trod enc Tryz.prog W 0 (fun _ => true) true 22 v d p) :
    ∃ av n c xs, v = .slice av n c ∧ Sl (heapI W) 14 encG av n c xs := by
  obtain ⟨av, n, c, xs, e, hS, hok, _⟩ := open_Sl (e := 26) encG (fun _ => True) ound_22 (by kernel_rfl) (by decide) encG_len (fun fuel cs x h => el_sg fuel cs x h) hv h
  exact ⟨av, n, c, xs, e, hS⟩
theorem el_ed {H : Type} {enc : TypeId × Value → H} {W : World} (fuel : Nat) (cs : List Value) (x : DataW H × List MemPlace) (h : DataW.trod enc Tryz.prog W 0 (fun _ => true) true fuel 28 cs = some x) : ∃ y : Ed, (fun _ => True) y ∧ encE y = cs := by
  obtain ⟨hl, n0_, f0⟩ := trod_seg (C := 22) ostr_28 (by kernel_rfl) h
  match cs, hl with
  | [c0, c1, c2, c3, c4, c5, c6, c7, c8, c9, c10, c11, c12, c13, c14, c15, c16, c17, c18, c19, c20, c21], _ =>
    obtain ⟨_, g0_0⟩ := f0 0 3 0 1 (by kernel_rfl) (by kernel_rfl)
    obtain ⟨n0, e0, _, w0⟩ := DataW.trod_int ound_3 (show DataW.trod enc Tryz.prog W 0 (fun _ => true) true n0_ 3 [c0] = some _ from g0_0)
    obtain ⟨_, g0_1⟩ := f0 1 3 1 1 (by kernel_rfl) (by kernel_rfl)
    obtain ⟨n1, e1, _, w1⟩ := DataW.trod_int ound_3 (show DataW.trod enc Tryz.prog W 0 (fun _ => true) true n0_ 3 [c1] = some _ from g0_1)
    obtain ⟨_, g0_2⟩ := f0 2 3 2 1 (by kernel_rfl) (by kernel_rfl)
    obtain ⟨n2, e2, _, w2⟩ := DataW.trod_int ound_3 (show DataW.trod enc Tryz.prog W 0 (fun _ => true) true n0_ 3 [c2] = some _ from g0_2)
    obtain ⟨_, g0_3⟩ := f0 3 3 3 1 (by kernel_rfl) (by kernel_rfl)
    obtain ⟨n3, e3, _, w3⟩ := DataW.trod_int ound_3 (show DataW.trod enc Tryz.prog W 0 (fun _ => true) true n0_ 3 [c3] = some _ from g0_3)
    obtain ⟨_, g0_4⟩ := f0 4 3 4 1 (by kernel_rfl) (by kernel_rfl)
    obtain ⟨n4, e4, _, w4⟩ := DataW.trod_int ound_3 (show DataW.trod enc Tryz.prog W 0 (fun _ => true) true n0_ 3 [c4] = some _ from g0_4)
    obtain ⟨_, g0_5⟩ := f0 5 3 5 1 (by kernel_rfl) (by kernel_rfl)
    obtain ⟨n5, e5, _, w5⟩ := DataW.trod_int ound_3 (show DataW.trod enc Tryz.prog W 0 (fun _ => true) true n0_ 3 [c5] = some _ from g0_5)
    obtain ⟨_, g0_6⟩ := f0 6 24 6 2 (by kernel_rfl) (by kernel_rfl)
    obtain ⟨_, n1_, f1⟩ := trod_seg (C := 2) ostr_24 (by kernel_rfl) (show DataW.trod enc Tryz.prog W 0 (fun _ => true) true n0_ 24 [c6, c7] = some _ from g0_6)
    obtain ⟨_, g1_0⟩ := f1 0 3 0 1 (by kernel_rfl) (by kernel_rfl)
    obtain ⟨n6, e6, _, w6⟩ := DataW.trod_int ound_3 (show DataW.trod enc Tryz.prog W 0 (fun _ => true) true n1_ 3 [c6] = some _ from g1_0)
    obtain ⟨_, g1_1⟩ := f1 1 3 1 1 (by kernel_rfl) (by kernel_rfl)
    obtain ⟨n7, e7, _, w7⟩ := DataW.trod_int ound_3 (show DataW.trod enc Tryz.prog W 0 (fun _ => true) true n1_ 3 [c7] = some _ from g1_1)
    obtain ⟨_, g0_7⟩ := f0 7 26 8 14 (by kernel_rfl) (by kernel_rfl)
    obtain ⟨_, n2_, f2⟩ := trod_seg (C := 14) ostr_26 (by kernel_rfl) (show DataW.trod enc Tryz.prog W 0 (fun _ => true) true n0_ 26 [c8, c9, c10, c11, c12, c13, c14, c15, c16, c17, c18, c19, c20, c21] = some _ from g0_7)
    obtain ⟨_, g2_0⟩ := f2 0 3 0 1 (by kernel_rfl) (by kernel_rfl)
    obtain ⟨n8, e8, _, w8⟩ := DataW.trod_int ound_3 (show DataW.trod enc Tryz.prog W 0 (fun _ => true) true n2_ 3 [c8] = some _ from g2_0)
    obtain ⟨_, g2_1⟩ := f2 1 3 1 1 (by kernel_rfl) (by kernel_rfl)
    obtain ⟨n9, e9, _, w9⟩ := DataW.trod_int ound_3 (show DataW.trod enc Tryz.prog W 0 (fun _ => true) true n2_ 3 [c9] = some _ from g2_1)
    obtain ⟨_, g2_2⟩ := f2 2 3 2 1 (by kernel_rfl) (by kernel_rfl)
    obtain ⟨n10, e10, _, w10⟩ := DataW.trod_int ound_3 (show DataW.trod enc Tryz.prog W 0 (fun _ => true) true n2_ 3 [c10] = some _ from g2_2)
    obtain ⟨_, g2_3⟩ := f2 3 3 3 1 (by kernel_rfl) (by kernel_rfl)
    obtain ⟨n11, e11, _, w11⟩ := DataW.trod_int ound_3 (show DataW.trod enc Tryz.prog W 0 (fun _ => true) true n2_ 3 [c11] = some _ from g2_3)
    obtain ⟨_, g2_4⟩ := f2 4 3 4 1 (by kernel_rfl) (by kernel_rfl)
    obtain ⟨n12, e12, _, w12⟩ := DataW.trod_int ound_3 (show DataW.trod enc Tryz.prog W 0 (fun _ => true) true n2_ 3 [c12] = some _ from g2_4)
    obtain ⟨_, g2_5⟩ := f2 5 3 5 1 (by kernel_rfl) (by kernel_rfl)
    obtain ⟨n13, e13, _, w13⟩ := DataW.trod_int ound_3 (show DataW.trod enc Tryz.prog W 0 (fun _ => true) true n2_ 3 [c13] = some _ from g2_5)
    obtain ⟨_, g2_6⟩ := f2 6 3 6 1 (by kernel_rfl) (by kernel_rfl)
    obtain ⟨n14, e14, _, w14⟩ := DataW.trod_int ound_3 (show DataW.trod enc Tryz.prog W 0 (fun _ => true) true n2_ 3 [c14] = some _ from g2_6)
    obtain ⟨_, g2_7⟩ := f2 7 3 7 1 (by kernel_rfl) (by kernel_rfl)
    obtain ⟨n15, e15, _, w15⟩ := DataW.trod_int ound_3 (show DataW.trod enc Tryz.prog W 0 (fun _ => true) true n2_ 3 [c15] = some _ from g2_7)
    obtain ⟨_, g2_8⟩ := f2 8 3 8 1 (by kernel_rfl) (by kernel_rfl)
    obtain ⟨n16, e16, _, w16⟩ := DataW.trod_int ound_3 (show DataW.trod enc Tryz.prog W 0 (fun _ => true) true n2_ 3 [c16] = some _ from g2_8)
    obtain ⟨_, g2_9⟩ := f2 9 3 9 1 (by kernel_rfl) (by kernel_rfl)
    obtain ⟨n17, e17, _, w17⟩ := DataW.trod_int ound_3 (show DataW.trod enc Tryz.prog W 0 (fun _ => true) true n2_ 3 [c17] = some _ from g2_9)
    obtain ⟨_, g2_10⟩ := f2 10 24 10 2 (by kernel_rfl) (by kernel_rfl)
    obtain ⟨_, n3_, f3⟩ := trod_seg (C := 2) ostr_24 (by kernel_rfl) (show DataW.trod enc Tryz.prog W 0 (fun _ => true) true n2_ 24 [c18, c19] = some _ from g2_10)
    obtain ⟨_, g3_0⟩ := f3 0 3 0 1 (by kernel_rfl) (by kernel_rfl)
    obtain ⟨n18, e18, _, w18⟩ := DataW.trod_int ound_3 (show DataW.trod enc Tryz.prog W 0 (fun _ => true) true n3_ 3 [c18] = some _ from g3_0)
    obtain ⟨_, g3_1⟩ := f3 1 3 1 1 (by kernel_rfl) (by kernel_rfl)
    obtain ⟨n19, e19, _, w19⟩ := DataW.trod_int ound_3 (show DataW.trod enc Tryz.prog W 0 (fun _ => true) true n3_ 3 [c19] = some _ from g3_1)
    obtain ⟨_, g2_11⟩ := f2 11 24 12 2 (by kernel_rfl) (by kernel_rfl)
    obtain ⟨_, n4_, f4⟩ := trod_seg (C := 2) ostr_24 (by kernel_rfl) (show DataW.trod enc Tryz.prog W 0 (fun _ => true) true n2_ 24 [c20, c21] = some _ from g2_11)
    obtain ⟨_, g4_0⟩ := f4 0 3 0 1 (by kernel_rfl) (by kernel_rfl)
    obtain ⟨n20, e20, _, w20⟩ := DataW.trod_int ound_3 (show DataW.trod enc Tryz.prog W 0 (fun _ => true) true n4_ 3 [c20] = some _ from g4_0)
    obtain ⟨_, g4_1⟩ := f4 1 3 1 1 (by kernel_rfl) (by kernel_rfl)
    obtain ⟨n21, e21, _, w21⟩ := DataW.trod_int ound_3 (show DataW.trod enc Tryz.prog W 0 (fun _ => true) true n4_ 3 [c21] = some _ from g4_1)
    cases e0; cases e1; cases e2; cases e3; cases e4; cases e5; cases e6; cases e7; cases e8; cases e9; cases e10; cases e11; cases e12; cases e13; cases e14; cases e15; cases e16; cases e17; cases e18; cases e19; cases e20; cases e21
    exact ⟨⟨n0, n1, n2, n3, n4, n5, n6, n7, ⟨n8, n9, n10, n11, n12, n13, n14, n15, n16, n17, n18, n19, n20, n21⟩⟩, trivial, rfl⟩
theorem open_ed {H : Type} {enc : TypeId × Value → H} {W : World} {base : Nat} {v : Value} {d : DataW H} {p : List MemPlace} (hv : Value.okWide Tryz.prog W .any base 28 v) (h : DataW.Trod enc Tryz.prog W 0 (fun _ => true) true 28 v d p) : ∃ y : Ed, v = encEA y ∧ (fun _ => True) y := by
  obtain ⟨cs, rfl, _⟩ := okWide_struct ostr_28 hv
  obtain ⟨fuel, hf⟩ := h
  obtain ⟨l⟩ := cs
  obtain ⟨y, hy, e⟩ := el_ed fuel l _ hf
  exact ⟨y, by rw [← e]; rfl, hy⟩
end Go.Proofs.YtoicbikdenlioaaGreat
end
section
namespace Go.Proofs.YtoicbikdenlioaaGreat
open Go Go.Kn Go.Proofs
open Go.ChangeShapes Go.WideShapes Go.ChangeAt Go.RowKit
theorem own : ownKnob Tryz.prog.godebug = none := by kernel_rfl
theorem laidOut : laidOutB Tryz.prog = true := by kernel_rfl
set_option maxRecDepth 100000 in
theorem topRooms_lifted (os : Os) (started : os.Started) (H : Type) (enc : TypeId × Value → H) :
    ReturnsInHanded {} Tryz.checked os 3 .any (Rows.topRoomsSpec.pre6 enc Tryz.prog Tryz.f3 Rows.topRoomsRow.domain false) (Rows.topRoomsSpec.post enc Tryz.prog Tryz.f3 false true false false) := by
  refine returnsInHanded_of_change (C := Tryz.checked) own started (by kernel_rfl) Tryz.func3
    (ChangeSpec.witness6 (enc := enc) (C := Tryz.checked) false ⟨#[], #[.slice none 0 0, .agg #[.int .i64 0, .int .i64 0, .int .i64 0, .int .i64 0, .int .i64 0, .int .i64 0, .int .i64 0, .int .i64 0, .int .i64 0, .int .i64 0, .int .i64 0, .int .i64 0, .int .i64 0, .int .i64 0, .int .i64 0, .int .i64 0, .int .i64 0, .int .i64 0, .int .i64 0, .int .i64 0, .int .i64 0, .int .i64 0], .agg #[.int .i64 0, .int .i64 0, .int .i64 0, .int .i64 0, .int .i64 0, .int .i64 0, .int .i64 0, .int .i64 0, .int .i64 0, .int .i64 0, .int .i64 0, .int .i64 0, .int .i64 0, .int .i64 0, .int .i64 0, .int .i64 0, .int .i64 0, .int .i64 0, .int .i64 0, .int .i64 0, .int .i64 0, .int .i64 0], .agg #[.int .i64 0, .int .i64 0, .int .i64 0, .int .i64 0, .int .i64 0, .int .i64 0, .int .i64 0, .int .i64 0, .int .i64 0, .int .i64 0, .int .i64 0, .int .i64 0, .int .i64 0, .int .i64 0, .int .i64 0, .int .i64 0, .int .i64 0, .int .i64 0, .int .i64 0, .int .i64 0, .int .i64 0, .int .i64 0]], []⟩ 8 (by kernel_rfl) (by kernel_rfl) (by kernel_rfl) (by kernel_rfl)) ?_
  intro W base args ds gs before hval0 hW hcnd _
  have hval : ∀ (j : Nat) t v, Tryz.f3.params[j]? = some t → args[j]? = some v → Value.okWide Tryz.prog W .any base t v := hval0
  have hW' := hW
  obtain ⟨p, q, hA0, hV, rfl, hfz, hnd⟩ := hW
  have hA : DataW.TrodAll enc Tryz.prog W 0 (fun _ => true) true Tryz.f3.params.toList args.toList ds p := hA0
  rw [Tryz.params3] at hA hval
  obtain ⟨v0, vs1, d0, ds1, p0, q1, ea, rfl, rfl, h0, hA⟩ := trodAll_cons hA
  obtain ⟨v1, vs2, d1, ds2, p1, q2, rfl, rfl, rfl, h1, hA⟩ := trodAll_cons hA
  obtain ⟨v2, vs3, d2, ds3, p2, q3, rfl, rfl, rfl, h2, hA⟩ := trodAll_cons hA
  obtain ⟨v3, vs4, d3, ds4, p3, q4, rfl, rfl, rfl, h3, hA⟩ := trodAll_cons hA
  obtain ⟨rfl, rfl, rfl⟩ := trodAll_nil hA
  have ea' : args = #[v0, v1, v2, v3] := by rw [← Array.toArray_toList (xs := args), ea]
  subst ea'
  obtain ⟨rfl, rfl⟩ := trodVars_none hV
  obtain ⟨av, n, c, xs, rfl, hS⟩ := open_sgs (hval 0 22 v0 rfl rfl) h0
  obtain ⟨e1, rfl, _⟩ := open_ed (hval 1 28 v1 rfl rfl) h1
  obtain ⟨e2, rfl, _⟩ := open_ed (hval 2 28 v2 rfl rfl) h2
  obtain ⟨e3, rfl, _⟩ := open_ed (hval 3 28 v3 rfl rfl) h3
  refine (RetV.law (w_topRooms hS e1 e2 e3)).mono fun e W' ⟨he, hB⟩ => ?_
  subst he
  exact ⟨_, rfl, post_law laidOut (by kernel_rfl) und_4 rfl rfl (by rw [Tryz.params3]; simp only [List.mem_cons, List.not_mem_nil, or_false, forall_eq_or_imp, forall_eq]; exact ⟨⟨by kernel_rfl, of_decide_eq_true (by kernel_rfl)⟩, ⟨by kernel_rfl, of_decide_eq_true (by kernel_rfl)⟩, ⟨by kernel_rfl, of_decide_eq_true (by kernel_rfl)⟩, ⟨by kernel_rfl, of_decide_eq_true (by kernel_rfl)⟩⟩) hW' hB⟩
theorem topRooms_holds : Rows.TopRoomsSaid :=
  OpenClaim.holds_of_wide 3 Tryz.f3 rfl rfl rfl rfl rfl rfl rfl ⟨rfl, rfl, rfl, rfl, rfl⟩ rfl rfl rfl rfl rfl (by kernel_rfl) Tryz.func3 (by kernel_rfl)
    (of_decide_eq_true (by kernel_rfl)) (by unfold Func.isWrapper; first | (rw [if_pos (by decide +kernel)]; kernel_rfl) | (rw [if_neg (by decide +kernel)]; exact ⟨rfl, rfl⟩))
    (fun os started H enc _ => topRooms_lifted os started H enc)
#print axioms topRooms_holds
end Go.Proofs.YtoicbikdenlioaaGreat
end
