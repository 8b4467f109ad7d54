/- The walks of the register of rights, the laws, fourth part: each function comes to its Lean function. -/
import Derived.Test.YtmflfccincbnaaaLawC
import Derived.Test.YtmflfccincbnaaaPlainN
namespace Go.Proofs.Ytmflfccincbnaaa
open Go Go.Kn Go.Proofs
theorem each_all {hold : Int → List Int} {miss : Int → Int → Bool} : ∀ (ss : List Int), (missA hold miss ss).isEmpty = ss.all (fun s => (missA hold miss [s]).isEmpty)
  | [] => rfl
  | s :: ss => by
    have ih := each_all (hold := hold) (miss := miss) ss
    have e : missA hold miss (s :: ss) = missA hold miss [s] ++ missA hold miss ss := by simp [missA]
    rw [e, List.all_cons, ← ih]
    cases missA hold miss [s] <;> rfl
theorem all_take {α : Type} {xs : List α} {k : Nat} {x : α} (h : xs[k]? = some x) (p : α → Bool) : (xs.take (k + 1)).all p = ((xs.take k).all p && p x) := by
  rw [List.take_add_one, h, List.all_append]; simp
theorem missA_take {hold : Int → List Int} {miss : Int → Int → Bool} {ss : List Int} {k : Nat} {s : Int} (h : ss[k]? = some s) : (missA hold miss (ss.take (k + 1))).length = (missA hold miss (ss.take k)).length + (missA hold miss [s]).length := by
  have : ss.take (k + 1) = ss.take k ++ [s] := by rw [List.take_add_one, h]; rfl
  rw [this]; unfold missA
  rw [List.flatMap_append, List.length_append]
theorem miss_bound {xs : List Rt} {ss : List Int} {n n2 : Nat} (hl : xs.length = n) (hn : n ≤ 120) (hl2 : ss.length = n2) (hn2 : n2 ≤ 20) (ed day time : Int) (k : Nat) :
    (missA (fun s => holdF s (partsM 2 ed (standF xs day time))) (missP (partsM 3 ed (standF xs day time))) (ss.take k)).length ≤ 100000 := by
  refine Nat.le_trans (missA_len (b := 120) (fun s => Nat.le_trans (holdF_le ed s day time) (by omega)) _) ?_
  have : (ss.take k).length * 120 ≤ 20 * 120 := Nat.mul_le_mul_right _ (by rw [List.length_take]; omega)
  omega
theorem one_drop {chk s : Int} (hc : chk = 0) (h : within s 0 1048576 = true) : aErr chk [s] = 0 := by
  refine aErr_ok hc (by simp) ?_
  show (List.range 1).all (signP [s]) = true
  simp [signP, List.getD, h]

theorem w_eachLaw {I : HMap} {av : Option Addr} {n c : Nat} {xs : List Rt} (hS : Sl I 11 encR av n c xs) (hx : ∀ x ∈ xs, okR x) {bv : Option Addr} {n2 c2 : Nat} {ss : List Int} (hT : Sl I 1 encI bv n2 c2 ss) (ed sg day time : Int) (name town : ByteArray) : RetV Try.prog 9 [.slice av n c, .agg #[.int .i64 ed, .int .i64 sg, .int .i64 day, .int .i64 time, .string name, .string town, .slice bv n2 c2]] I (.bool true) := by
  intro g H w hw
  refine enter Try.func9 rfl Try.ntmps9 rfl hw ?_
  have hIc := HLe.refl I
  refine X_seq ?_
  refine X_region ?_
  refine XO_box rfl rfl rfl (fun b_3 => ?_)
  refine XO_v0 (ev_assign rfl) rfl rfl rfl ?_
  refine XO_nil ?_
  refine at_then ?_
  refine X_seq ?_
  refine X_seq ?_
  refine X_region ?_
  refine XO_callV0 (cap := []) (vs := []) rfl rfl fun_10 (w_sane _) rfl rfl ?_
  refine XO_v0 (ev_not rfl) rfl rfl rfl ?_
  refine XO_nil ?_
  refine at_then ?_
  refine X_cond rfl (fun hc16 => ?_) (fun hc16 => ?_)
  · skip
    exact absurd hc16 (by decide)
  · skip
    refine X_skip ?_
    refine at_then ?_
    refine X_seq ?_
    refine X_seq ?_
    refine X_region ?_
    refine XO_v0 (ev_move rfl) rfl rfl rfl ?_
    refine XO_v0 (ev_lenS rfl slt_22) rfl rfl rfl ?_
    refine XO_v0 (ev_cmp rfl rfl rfl) rfl rfl rfl ?_
    refine XO_v0 (ev_move rfl) rfl rfl rfl ?_
    refine XO_pushF 3 rfl rfl rfl ?_
    refine XO_v1 (ev_fieldAddr rfl fld_33_6) (.some rfl rfl rfl rfl gbf) rfl rfl rfl ?_
    refine XO_v1 (ev_load rfl sct_31 (fun hg => by first | exact Sl.get0 hT hs1 rfl | exact Cell.h0 rfl | exact Cell.h1 rfl | exact Cell.h2 rfl | exact Cell.h3 rfl | exact Cell.h4 rfl | exact Cell.h5 rfl | (repeat (first | exact Cell.here rfl | apply Cell.there | apply Cell.app)))) (.some rfl rfl rfl rfl gbf) rfl rfl rfl ?_
    refine XO_v1 (ev_lenS rfl slt_31) (.some rfl rfl rfl rfl gbf) rfl rfl rfl ?_
    refine XO_v1 (ev_cmp rfl rfl rfl) (.some rfl rfl rfl rfl gbf) rfl rfl rfl ?_
    refine XO_or0 rfl rfl rfl rfl rfl ?_
    refine XO_nil ?_
    refine at_then ?_
    refine X_cond rfl (fun hc25 => ?_) (fun hc25 => ?_)
    · skip
      refine X_seq ?_
      refine X_region ?_
      refine XO_v0 (ev_assign rfl) rfl rfl rfl ?_
      refine XO_nil ?_
      refine at_then ?_
      refine X_ret ?_
      refine at_then_r ?_
      first
      | exact at_ret1 rfl rfl (fun w hw => ⟨rfl, (hw.mono hIc).drop⟩)
      | exact at_ret1 rfl rfl (fun w hw => ⟨by rw [take_all hT.len hge] at hal hmn; rw [hal, ← each_all, ← hms2, e0, hmn, ← hms2]; simp, (hw.mono hIc).drop⟩)
    · skip
      simp only [Bool.or_eq_false_iff] at hc25
      have hn1 : n ≤ 120 := by have := of_decide_eq_false hc25.1; omega
      have hn : n ≤ 100000 := by omega
      have hn7 : n2 ≤ 20 := by have := of_decide_eq_false hc25.2; omega
      have hn2 : n2 ≤ 100000 := by omega
      refine X_skip ?_
      refine at_then ?_
      refine X_seq ?_
      refine X_region ?_
      refine XO_v0 (ev_move rfl) rfl rfl rfl ?_
      refine XO_v0 (ev_fieldAddr rfl fld_33_0) rfl rfl rfl ?_
      refine XO_v0 (ev_load rfl sct_3 (fun hg => by first | exact Sl.get0 hT hs1 rfl | exact Cell.h0 rfl | exact Cell.h1 rfl | exact Cell.h2 rfl | exact Cell.h3 rfl | exact Cell.h4 rfl | exact Cell.h5 rfl | (repeat (first | exact Cell.here rfl | apply Cell.there | apply Cell.app)))) rfl rfl rfl ?_
      refine XO_v0 (ev_fieldAddr rfl fld_33_6) rfl rfl rfl ?_
      refine XO_v0 (ev_load rfl sct_31 (fun hg => by first | exact Sl.get0 hT hs1 rfl | exact Cell.h0 rfl | exact Cell.h1 rfl | exact Cell.h2 rfl | exact Cell.h3 rfl | exact Cell.h4 rfl | exact Cell.h5 rfl | (repeat (first | exact Cell.here rfl | apply Cell.there | apply Cell.app)))) rfl rfl rfl ?_
      refine XO_v0 (ev_fieldAddr rfl fld_33_2) rfl rfl rfl ?_
      refine XO_v0 (ev_load rfl sct_3 (fun hg => by first | exact Sl.get0 hT hs1 rfl | exact Cell.h0 rfl | exact Cell.h1 rfl | exact Cell.h2 rfl | exact Cell.h3 rfl | exact Cell.h4 rfl | exact Cell.h5 rfl | (repeat (first | exact Cell.here rfl | apply Cell.there | apply Cell.app)))) rfl rfl rfl ?_
      refine XO_v0 (ev_fieldAddr rfl fld_33_3) rfl rfl rfl ?_
      refine XO_v0 (ev_load rfl sct_3 (fun hg => by first | exact Sl.get0 hT hs1 rfl | exact Cell.h0 rfl | exact Cell.h1 rfl | exact Cell.h2 rfl | exact Cell.h3 rfl | exact Cell.h4 rfl | exact Cell.h5 rfl | (repeat (first | exact Cell.here rfl | apply Cell.there | apply Cell.app)))) rfl rfl rfl ?_
      refine XO_callM (cap := []) (vs := [_, _, _, _, _]) rfl rfl fun_21 .nil ((w_Allowed hS hn hT hn2 _ _ _).absA) rfl rfl ?_
      rintro vv1 I1 L1 hI1 ⟨ms, e5, hms, he5, rfl, a1, c1, rfl, hM⟩
      have hS := hS.mono hI1
      have hT := hT.mono hI1
      have hIc := hIc.trans hI1
      refine XO_v0 (ev_move rfl) rfl rfl rfl ?_
      refine XO_v0 (ev_extract rfl rfl) rfl rfl rfl ?_
      refine XO_v0 (ev_extract rfl rfl) rfl rfl rfl ?_
      refine XO_v0 (ev_extract rfl rfl) rfl rfl rfl ?_
      refine XO_v0 (ev_assign rfl) rfl rfl rfl ?_
      refine XO_v0 (ev_assign rfl) rfl rfl rfl ?_
      refine XO_v0 (ev_assign rfl) rfl rfl rfl ?_
      refine XO_nil ?_
      refine at_then ?_
      refine X_seq ?_
      refine X_seq ?_
      refine X_region ?_
      refine XO_v0 (ev_move rfl) rfl rfl rfl ?_
      refine XO_v0 (ev_cmp rfl rfl rfl) rfl rfl rfl ?_
      refine XO_nil ?_
      refine at_then ?_
      refine X_cond rfl (fun hc41 => ?_) (fun hc41 => ?_)
      · skip
        refine X_seq ?_
        refine X_region ?_
        refine XO_v0 (ev_assign rfl) rfl rfl rfl ?_
        refine XO_nil ?_
        refine at_then ?_
        refine X_ret ?_
        refine at_then_r ?_
        first
        | exact at_ret1 rfl rfl (fun w hw => ⟨rfl, (hw.mono hIc).drop⟩)
        | exact at_ret1 rfl rfl (fun w hw => ⟨by rw [take_all hT.len hge] at hal hmn; rw [hal, ← each_all, ← hms2, e0, hmn, ← hms2]; simp, (hw.mono hIc).drop⟩)
      · skip
        have e0 : e5 = 0 := by simpa using hc41
        obtain ⟨hc0, _, hok⟩ := aErr_zero (he5.symm.trans e0)
        have hms2 : ms = missA (fun s => holdF s (partsM 2 ed (standF xs day time))) (missP (partsM 3 ed (standF xs day time))) ss := by rw [hms]; exact resF_ok (he5.symm.trans e0)
        refine X_skip ?_
        refine at_then ?_
        refine X_seq ?_
        refine X_region ?_
        refine XO_v0 (ev_assign rfl) rfl rfl rfl ?_
        refine XO_v0 (ev_assign rfl) rfl rfl rfl ?_
        refine XO_nil ?_
        refine at_then ?_
        refine X_seq ?_
        refine X_seq ?_
        refine X_region ?_
        refine XO_v0 (ev_fieldAddr rfl fld_33_6) rfl rfl rfl ?_
        refine XO_v0 (ev_load rfl sct_31 (fun hg => by first | exact Sl.get0 hT hs1 rfl | exact Cell.h0 rfl | exact Cell.h1 rfl | exact Cell.h2 rfl | exact Cell.h3 rfl | exact Cell.h4 rfl | exact Cell.h5 rfl | (repeat (first | exact Cell.here rfl | apply Cell.there | apply Cell.app)))) rfl rfl rfl ?_
        refine XO_v0 (ev_lenS rfl slt_31) rfl rfl rfl ?_
        refine XO_v0 (ev_move rfl) rfl rfl rfl ?_
        refine XO_nil ?_
        refine at_then ?_
        refine X_block ?_
        refine X_loopT [(0, _), (3, _), (5, _), (6, _), (43, _), (44, _)] (.cons rfl (.cons rfl (.cons rfl (.cons rfl (.cons rfl (.cons rfl .nil)))))) (fun T L0 mz E I' loc' => ∃ (k : Nat) (al : Bool) (mn : Nat), mz = n2 - k ∧ E = (8, .bool al) :: (9, .int .i64 mn) :: (45, .int .i64 k) :: T ∧ HLe I1 I' ∧ loc' = L0 ∧ k ≤ n2 ∧ al = (ss.take k).all (fun s => (missA (fun s => holdF s (partsM 2 ed (standF xs day time))) (missP (partsM 3 ed (standF xs day time))) [s]).isEmpty) ∧ mn = (missA (fun s => holdF s (partsM 2 ed (standF xs day time))) (missP (partsM 3 ed (standF xs day time))) (ss.take k)).length) _ _ _ _ ⟨0, true, 0, rfl, rfl, HLe.refl _, rfl, Nat.zero_le _, rfl, rfl⟩ (.cons rfl (.cons rfl (.cons rfl (.cons rfl (.cons rfl (.cons rfl (.cons rfl (.cons rfl (.cons rfl .nil))))))))) (HLe.refl _) rfl ?_
        rintro mz E J2 loc' ⟨k, al, mn, rfl, rfl, hJ, rfl, hk, hal, hmn⟩
        have hS := hS.mono hJ
        have hT := hT.mono hJ
        have hM := hM.mono hJ
        have hIc := hIc.trans hJ
        have hB0 := hJ
        have hmb : mn ≤ 100000 := by rw [hmn]; exact miss_bound hS.len hn1 hT.len hn7 ed day time k
        refine X_seq ?_
        refine X_region ?_
        refine XO_v0 (ev_cmp rfl rfl rfl) rfl rfl rfl ?_
        refine XO_nil ?_
        refine at_then ?_
        refine X_seq ?_
        refine X_cond rfl (fun hc46 => ?_) (fun hc46 => ?_)
        · skip
          have hlt : k < n2 := by simpa using hc46
          obtain ⟨s1, hs1⟩ := hT.at hlt
          have hms1 : s1 ∈ ss := List.mem_of_getElem? hs1
          refine X_skip ?_
          refine at_then ?_
          refine X_seq ?_
          refine X_block ?_
          refine X_seq ?_
          refine X_region ?_
          refine XO_v0 (ev_indexSl rfl rfl slt_31 (by assumption) (fun hg => by omega)) rfl rfl rfl ?_
          refine XO_v0 (ev_load rfl sct_3 (fun hg => by first | exact Sl.get0 hT hs1 rfl | exact Cell.h0 rfl | exact Cell.h1 rfl | exact Cell.h2 rfl | exact Cell.h3 rfl | exact Cell.h4 rfl | exact Cell.h5 rfl | (repeat (first | exact Cell.here rfl | apply Cell.there | apply Cell.app)))) rfl rfl rfl ?_
          refine XO_v0 (ev_assign rfl) rfl rfl rfl ?_
          refine XO_nil ?_
          refine at_then ?_
          refine X_seq ?_
          refine X_region ?_
          refine XO_v0 (ev_move rfl) rfl rfl rfl ?_
          refine XO_v0 (ev_fieldAddr rfl fld_33_0) rfl rfl rfl ?_
          refine XO_v0 (ev_load rfl sct_3 (fun hg => by first | exact Sl.get0 hT hs1 rfl | exact Cell.h0 rfl | exact Cell.h1 rfl | exact Cell.h2 rfl | exact Cell.h3 rfl | exact Cell.h4 rfl | exact Cell.h5 rfl | (repeat (first | exact Cell.here rfl | apply Cell.there | apply Cell.app)))) rfl rfl rfl ?_
          refine XO_v0 (ev_move rfl) rfl rfl rfl ?_
          refine XO_buildSlice (ps := [(0, _)]) (m := [encI s1]) elt_31 rfl (.cons rfl (.nil)) rfl (by simp [encR_len, encI_len, encP_len]) (by decide) (by decide) rfl rfl (fun b_54 => ?_)
          refine XO_v0 (ev_fieldAddr rfl fld_33_2) rfl rfl rfl ?_
          refine XO_v0 (ev_load rfl sct_3 (fun hg => by first | exact Sl.get0 hT hs1 rfl | exact Cell.h0 rfl | exact Cell.h1 rfl | exact Cell.h2 rfl | exact Cell.h3 rfl | exact Cell.h4 rfl | exact Cell.h5 rfl | (repeat (first | exact Cell.here rfl | apply Cell.there | apply Cell.app)))) rfl rfl rfl ?_
          refine XO_v0 (ev_fieldAddr rfl fld_33_3) rfl rfl rfl ?_
          refine XO_v0 (ev_load rfl sct_3 (fun hg => by first | exact Sl.get0 hT hs1 rfl | exact Cell.h0 rfl | exact Cell.h1 rfl | exact Cell.h2 rfl | exact Cell.h3 rfl | exact Cell.h4 rfl | exact Cell.h5 rfl | (repeat (first | exact Cell.here rfl | apply Cell.there | apply Cell.app)))) rfl rfl rfl ?_
          refine XO_freeze .here (fun I3 hI3 hb3 => ?_)
          have hS := hS.mono hI3
          have hT := hT.mono hI3
          have hM := hM.mono hI3
          have hIc := hIc.trans hI3
          have hB0 := hB0.trans hI3
          have hN := Sl.lit [s1] rfl encI_len (show _ = some (Obj.cells (([s1] : List Int).flatMap encI).toArray 3 (0, 0)) from hb3)
          refine XO_callM (cap := []) (vs := [_, _, _, _, _]) rfl rfl fun_21 .nil ((w_Allowed hS hn hN (show 1 ≤ 100000 by decide) _ _ _).absA) rfl rfl ?_
          rintro vv4 I4 L4 hI4 ⟨ns, e12, hns, he12, rfl, a4, c4, rfl, hN2⟩
          have hS := hS.mono hI4
          have hT := hT.mono hI4
          have hM := hM.mono hI4
          have hIc := hIc.trans hI4
          have hB0 := hB0.trans hI4
          have hns2 : ns = missA (fun s => holdF s (partsM 2 ed (standF xs day time))) (missP (partsM 3 ed (standF xs day time))) [s1] := by rw [hns]; exact resF_ok (one_drop hc0 (signOK_within hok hms1))
          have hnl : ns.length ≤ 100000 := by rw [hns2]; exact Nat.le_trans (missA_len (b := 120) (fun s => Nat.le_trans (holdF_le (xs := xs) ed s day time) (by rw [hS.len]; omega)) [s1]) (show 1 * 120 ≤ 100000 by decide)
          refine XO_v0 (ev_move rfl) rfl rfl rfl ?_
          refine XO_v0 (ev_extract rfl rfl) rfl rfl rfl ?_
          refine XO_v0 (ev_extract rfl rfl) rfl rfl rfl ?_
          refine XO_v0 (ev_extract rfl rfl) rfl rfl rfl ?_
          refine XO_v0 (ev_assign rfl) rfl rfl rfl ?_
          refine XO_v0 (ev_assign rfl) rfl rfl rfl ?_
          refine XO_v0 (ev_assign rfl) rfl rfl rfl ?_
          refine XO_nil ?_
          refine at_then ?_
          refine X_seq ?_
          refine X_seq ?_
          refine X_region ?_
          refine XO_v0 (ev_move rfl) rfl rfl rfl ?_
          refine XO_v0 (ev_cmp rfl rfl rfl) rfl rfl rfl ?_
          refine XO_nil ?_
          refine at_then ?_
          refine X_cond rfl (fun hc64 => ?_) (fun hc64 => ?_)
          · skip
            exact absurd hc64 (by rw [he12, one_drop hc0 (signOK_within hok hms1)]; decide)
          · skip
            refine X_skip ?_
            refine at_then ?_
            refine X_region ?_
            refine XO_v0 (ev_move rfl) rfl rfl rfl ?_
            refine XO_v0 (ev_move rfl) rfl rfl rfl ?_
            refine XO_pushT 1 rfl rfl rfl ?_
            refine XO_v1 (ev_move rfl) (.some rfl rfl rfl rfl gbt) rfl rfl rfl ?_
            refine XO_and0 rfl rfl rfl rfl rfl ?_
            refine XO_v0 (ev_move rfl) rfl rfl rfl ?_
            refine XO_v0 (ev_move rfl) rfl rfl rfl ?_
            refine XO_v0 (ev_lenS rfl slt_38) rfl rfl rfl ?_
            refine XO_v0 (ev_arB rfl rfl rfl (fun _ => by omega)) rfl rfl rfl ?_
            refine XO_v0 (ev_assign rfl) rfl rfl rfl ?_
            refine XO_v0 (ev_assign rfl) rfl rfl rfl ?_
            refine XO_nil ?_
            refine at_block_n ?_
            refine at_then ?_
            refine X_region ?_
            refine XO_v0 (ev_arB rfl rfl rfl (fun _ => by omega)) rfl rfl rfl ?_
            refine XO_v0 (ev_move rfl) rfl rfl rfl ?_
            refine XO_nil ?_
            exact at_met2 _ _ ⟨n2 - (k + 1), by omega, k + 1, _, mn + ns.length, rfl, rfl, hB0, rfl, by omega, by rw [all_take hs1, ← hal, ← hns2, he12, one_drop hc0 (signOK_within hok hms1)]; cases al <;> simp, by rw [missA_take hs1, ← hmn, ← hns2]⟩ (.cons rfl (.cons rfl (.cons rfl (.cons rfl (.cons rfl (.cons rfl (.cons rfl (.cons rfl (.cons rfl .nil))))))))) (by repeat (first | exact .refl | refine subL_app ?_ | refine .drop ?_ | refine subL_add ?_))
        · skip
          have hge : n2 ≤ k := by simpa using hc46
          refine X_exit ?_
          refine at_then_e ?_
          refine at_then_e ?_
          refine at_block_hit ?_
          refine at_then ?_
          refine X_seq ?_
          refine X_region ?_
          refine XO_v0 (ev_move rfl) rfl rfl rfl ?_
          refine XO_v0 (ev_move rfl) rfl rfl rfl ?_
          refine XO_v0 (ev_boolR rfl rfl und_4) rfl rfl rfl ?_
          refine XO_v0 (ev_move rfl) rfl rfl rfl ?_
          refine XO_pushT 3 rfl rfl rfl ?_
          refine XO_v1 (ev_move rfl) (.some rfl rfl rfl rfl gbt) rfl rfl rfl ?_
          refine XO_v1 (ev_move rfl) (.some rfl rfl rfl rfl gbt) rfl rfl rfl ?_
          refine XO_v1 (ev_lenS rfl slt_38) (.some rfl rfl rfl rfl gbt) rfl rfl rfl ?_
          refine XO_v1 (ev_cmp rfl rfl rfl) (.some rfl rfl rfl rfl gbt) rfl rfl rfl ?_
          refine XO_and0 rfl rfl rfl rfl rfl ?_
          refine XO_v0 (ev_assign rfl) rfl rfl rfl ?_
          refine XO_nil ?_
          refine at_then ?_
          refine X_ret ?_
          first
          | exact at_ret1 rfl rfl (fun w hw => ⟨rfl, (hw.mono hIc).drop⟩)
          | exact at_ret1 rfl rfl (fun w hw => ⟨by rw [take_all hT.len hge] at hal hmn; rw [hal, ← each_all, ← hms2, e0, hmn, ← hms2]; simp, (hw.mono hIc).drop⟩)
end Go.Proofs.Ytmflfccincbnaaa
