/- The walks of the register of rights, the laws, sixth part: each function comes to its Lean function. -/
import Derived.Test.YtmflfccincbnaaaLawE
import Derived.Test.YtmflfccincbnaaaPlainN
namespace Go.Proofs.Ytmflfccincbnaaa
open Go Go.Kn Go.Proofs
theorem stand_more {xs : List Rt} {x : Rt} (hk : x.kind ≠ 4) (day time : Int) : ∃ l, (l = [] ∨ l = [x]) ∧ standF (xs ++ [x]) day time = standF xs day time ++ l := by
  have hg : ∀ no, goneF (xs ++ [x]) time no = goneF xs time no := fun no => by
    unfold goneF
    rw [List.any_append]
    have : (x.kind == 4) = false := beq_false_of_ne hk
    simp [this]
  unfold standF
  rw [List.filter_append]
  have e1 : xs.filter (stP (xs ++ [x]) day time) = xs.filter (stP xs day time) := by
    apply List.filter_congr
    intro y _
    unfold stP; rw [hg]
  rw [e1]
  refine ⟨_, ?_, rfl⟩
  rw [List.filter_cons]
  split
  · exact .inr rfl
  · exact .inl rfl
/-- Whether all signs may be dropped. -/
def okP (ed : Int) (st : List Rt) (ss : List Int) : Prop := ∀ s ∈ ss, ∀ y ∈ st, coversF y 2 ed s = true → st.any (consP ed s y.holder) = true
theorem ok_iff {ed : Int} {st : List Rt} {ss : List Int} : (missA (fun s => holdF s (partsM 2 ed st)) (missP (partsM 3 ed st)) ss).isEmpty = true ↔ okP ed st ss := by
  rw [List.isEmpty_iff, List.eq_nil_iff_forall_not_mem]
  constructor
  · intro h s hs y hy hc
    have := h (s, y.holder)
    rw [mem_missA] at this
    cases e : st.any (consP ed s y.holder) with
    | true => rfl
    | false => exact absurd ⟨hs, hold_mem.2 ⟨y, hy, hc, rfl⟩, by rw [miss_eq, e]; rfl⟩ this
  · rintro h ⟨s, k⟩ hm
    rw [mem_missA] at hm
    obtain ⟨h1, h2, h3⟩ := hm
    obtain ⟨y, hy, hc, rfl⟩ := hold_mem.1 h2
    rw [miss_eq, h s h1 y hy hc] at h3
    cases h3
structure Further (a b c d : Bool) (kind : Int) : Prop where
  c1 : c = true → d = true
  c2 : d = true → c = false → kind = 1
  a3 : kind = 3 → a = true → b = true
  a2 : kind = 2 → b = true → a = true
  a0 : kind ≠ 3 → kind ≠ 2 → a = b
theorem further_law {xs : List Rt} {x : Rt} (hk : x.kind ≠ 4) (ed day time : Int) (name town : ByteArray) (ss : List Int) (chk e : Int) :
    Further (decide (e = 0) && (resF e (missA (fun s => holdF s (partsM 2 ed (standF xs day time))) (missP (partsM 3 ed (standF xs day time))) ss)).isEmpty)
      (decide (e = 0) && (resF e (missA (fun s => holdF s (partsM 2 ed (standF (xs ++ [x]) day time))) (missP (partsM 3 ed (standF (xs ++ [x]) day time))) ss)).isEmpty)
      (mayF chk ed name town (standF xs day time)) (mayF chk ed name town (standF (xs ++ [x]) day time)) x.kind := by
  obtain ⟨l, hl, hst⟩ := stand_more (xs := xs) hk day time
  rw [hst]
  generalize standF xs day time = st
  have hiff : ∀ st : List Rt, (decide (e = 0) && (resF e (missA (fun s => holdF s (partsM 2 ed st)) (missP (partsM 3 ed st)) ss)).isEmpty) = true ↔ e = 0 ∧ okP ed st ss := fun st => by
    rw [Bool.and_eq_true, decide_eq_true_eq]
    constructor
    · rintro ⟨h1, h2⟩
      rw [resF_ok h1] at h2
      exact ⟨h1, ok_iff.1 h2⟩
    · rintro ⟨h1, h2⟩
      rw [resF_ok h1]
      exact ⟨h1, ok_iff.2 h2⟩
  have mono : ∀ s h, st.any (consP ed s h) = true → (st ++ l).any (consP ed s h) = true := fun s h e => by rw [List.any_append, e]; rfl
  have back : x.kind ≠ 3 → ∀ s h, (st ++ l).any (consP ed s h) = st.any (consP ed s h) := fun h3 s h => by
    rw [List.any_append]
    rcases hl with rfl | rfl
    · simp
    · simp [consP, coversF, beq_false_of_ne h3]
  have hnew : x.kind ≠ 2 → ∀ s, ∀ y ∈ l, coversF y 2 ed s = true → False := fun h2 s y hy hc => by
    rcases hl with rfl | rfl
    · cases hy
    · rw [List.mem_singleton] at hy; subst hy
      simp [coversF, beq_false_of_ne h2] at hc
  refine ⟨fun h => ?_, fun h h' => ?_, fun h3 h => ?_, fun h2 h => ?_, fun h3 h2 => ?_⟩
  · unfold mayF at h ⊢
    split at h
    · cases h
    · rename_i hc; rw [if_neg hc, List.any_append, h]; rfl
  · unfold mayF at h h'
    split at h
    · cases h
    · rename_i hc
      rw [if_neg hc] at h'
      rw [List.any_append, h', Bool.false_or] at h
      rcases hl with rfl | rfl
      · cases h
      · simp [mayP] at h; exact h.1.1.1
  · obtain ⟨h1, h2⟩ := (hiff _).1 h
    refine (hiff _).2 ⟨h1, fun s hs y hy hc => ?_⟩
    rcases List.mem_append.1 hy with hy | hy
    · exact mono _ _ (h2 s hs y hy hc)
    · exact (hnew (by omega) s y hy hc).elim
  · obtain ⟨h1, h3⟩ := (hiff _).1 h
    refine (hiff _).2 ⟨h1, fun s hs y hy hc => ?_⟩
    rw [← back (by omega)]
    exact h3 s hs y (List.mem_append_left _ hy) hc
  · rw [Bool.eq_iff_iff, hiff, hiff]
    constructor
    · rintro ⟨h1, h4⟩
      refine ⟨h1, fun s hs y hy hc => ?_⟩
      rcases List.mem_append.1 hy with hy | hy
      · exact mono _ _ (h4 s hs y hy hc)
      · exact (hnew h2 s y hy hc).elim
    · rintro ⟨h1, h4⟩
      refine ⟨h1, fun s hs y hy hc => ?_⟩
      rw [← back h3]
      exact h4 s hs y (List.mem_append_left _ hy) hc
theorem further_3 {a b c d : Bool} {kind : Int} (h : Further a b c d kind) (hk : kind = 3) : (!a || b) = true := by
  have h1 := h.a3 hk
  cases a <;> cases b <;> simp_all
theorem further_2 {a b c d : Bool} {kind : Int} (h : Further a b c d kind) (hk : kind = 2) : (a || !b) = true := by
  have h1 := h.a2 hk
  cases a <;> cases b <;> simp_all
theorem further_0 {a b c d : Bool} {kind : Int} (h : Further a b c d kind) (h3 : kind ≠ 3) (h2 : kind ≠ 2) : (a == b) = true := by
  rw [h.a0 h3 h2]; cases b <;> rfl
theorem further_dead {a b c d : Bool} {kind : Int} (h : Further a b c d kind) : ((c && !d) || (d && !c && (kind != 1))) = false := by
  have h1 := h.c1; have h2 := h.c2
  cases c <;> cases d <;> simp_all

theorem w_furtherLaw {I : HMap} {av : Option Addr} {n c : Nat} {xs : List Rt} (hS : Sl I 11 encR av n c xs) (hx : ∀ x ∈ xs, okR x) (x : Rt) {bv : Option Addr} {n2 c2 : Nat} {ss : List Int} (hT : Sl I 1 encI bv n2 c2 ss) (ed sg day time : Int) (name town : ByteArray) : RetV Try.prog 7 [.slice av n c, encA x, .agg #[.int .i64 ed, .int .i64 sg, .int .i64 day, .int .i64 time, .string name, .string town, .slice bv n2 c2]] I (.bool true) := by
  intro g H w hw
  refine enter Try.func7 rfl Try.ntmps7 rfl hw ?_
  have hIc := HLe.refl I
  refine X_seq ?_
  refine X_region ?_
  refine XO_box rfl rfl rfl (fun b_4 => ?_)
  refine XO_box rfl rfl rfl (fun b_5 => ?_)
  refine XO_v0 (ev_assign rfl) rfl rfl rfl ?_
  refine XO_nil ?_
  refine at_then ?_
  refine X_seq ?_
  refine X_seq ?_
  refine X_region ?_
  refine XO_callV0 (cap := []) (vs := []) rfl rfl fun_10 (w_sane _) rfl rfl ?_
  refine XO_v0 (ev_not rfl) rfl rfl rfl ?_
  refine XO_nil ?_
  refine at_then ?_
  refine X_cond rfl (fun hc19 => ?_) (fun hc19 => ?_)
  · skip
    exact absurd hc19 (by decide)
  · skip
    refine X_skip ?_
    refine at_then ?_
    refine X_seq ?_
    refine X_seq ?_
    refine X_region ?_
    refine XO_v0 (ev_move rfl) rfl rfl rfl ?_
    refine XO_v0 (ev_lenS rfl slt_22) rfl rfl rfl ?_
    refine XO_v0 (ev_cmp rfl rfl rfl) rfl rfl rfl ?_
    refine XO_v0 (ev_move rfl) rfl rfl rfl ?_
    refine XO_pushF 3 rfl rfl rfl ?_
    refine XO_v1 (ev_fieldAddr rfl fld_33_6) (.some rfl rfl rfl rfl gbf) rfl rfl rfl ?_
    refine XO_v1 (ev_load rfl sct_31 (fun hg => by first | exact Cell.h0 rfl | exact Cell.h1 rfl | exact Cell.h2 rfl | exact Cell.h3 rfl | exact Cell.h4 rfl | exact Cell.h5 rfl | (repeat (first | exact Cell.here rfl | apply Cell.there | apply Cell.app)))) (.some rfl rfl rfl rfl gbf) rfl rfl rfl ?_
    refine XO_v1 (ev_lenS rfl slt_31) (.some rfl rfl rfl rfl gbf) rfl rfl rfl ?_
    refine XO_v1 (ev_cmp rfl rfl rfl) (.some rfl rfl rfl rfl gbf) rfl rfl rfl ?_
    refine XO_or0 rfl rfl rfl rfl rfl ?_
    refine XO_v0 (ev_move rfl) rfl rfl rfl ?_
    refine XO_pushF 9 rfl rfl rfl ?_
    refine XO_v1 (ev_fieldAddr rfl fld_45_1) (.some rfl rfl rfl rfl gbf) rfl rfl rfl ?_
    refine XO_v1 (ev_load rfl sct_3 (fun hg => by first | exact Cell.h0 rfl | exact Cell.h1 rfl | exact Cell.h2 rfl | exact Cell.h3 rfl | exact Cell.h4 rfl | exact Cell.h5 rfl | (repeat (first | exact Cell.here rfl | apply Cell.there | apply Cell.app)))) (.some rfl rfl rfl rfl gbf) rfl rfl rfl ?_
    refine XO_v1 (ev_cmp rfl rfl rfl) (.some rfl rfl rfl rfl gbf) rfl rfl rfl ?_
    refine XO_or0 rfl rfl rfl rfl rfl ?_
    refine XO_nil ?_
    refine at_then ?_
    refine X_cond rfl (fun hc33 => ?_) (fun hc33 => ?_)
    · skip
      refine X_seq ?_
      refine X_region ?_
      refine XO_v0 (ev_assign rfl) rfl rfl rfl ?_
      refine XO_nil ?_
      refine at_then ?_
      refine X_ret ?_
      refine at_then_r ?_
      first
      | exact at_ret1 rfl rfl (fun w hw => ⟨rfl, (hw.mono hIc).drop⟩)
      | exact at_ret1 rfl rfl (fun w hw => ⟨by rw [further_3 hL (by simpa using hc135)], (hw.mono hIc).drop⟩)
      | exact at_ret1 rfl rfl (fun w hw => ⟨by rw [further_2 hL (by simpa using hc142)], (hw.mono hIc).drop⟩)
      | exact at_ret1 rfl rfl (fun w hw => ⟨by rw [further_0 hL (by simpa using hc135) (by simpa using hc142)], (hw.mono hIc).drop⟩)
    · skip
      simp only [Bool.or_eq_false_iff] at hc33
      have hn1 : n ≤ 120 := by have := of_decide_eq_false hc33.1.1; omega
      have hn : n ≤ 100000 := by omega
      have hn2 : n2 ≤ 100000 := by have := of_decide_eq_false hc33.1.2; omega
      have hk : x.kind ≠ 4 := by simpa using hc33.2
      have hnm : n + 1 ≤ 100000 := by omega
      refine X_skip ?_
      refine at_then ?_
      refine X_cutT [(0, _), (4, _), (5, _)] (.cons rfl (.cons rfl (.cons rfl .nil))) (fun T L0 E I' loc' => ∃ (v : Value) (L : Go.Kn.Loc), E = (7, v) :: T ∧ I = I' ∧ loc' = L ++ L0 ∧ OwnS 45 11 v (n + 1) ((xs ++ [x]).flatMap encR) L) ?_ ?_
      · skip
        refine X_drawC mixed ?_
        refine XD_take 1 rfl (ev_move rfl) (.none rfl) rfl rfl rfl (by kernel_rfl) (by kernel_rfl) (by kernel_rfl) noP_ok (HLe.refl _) (by repeat (first | exact .refl | refine .drop ?_ | refine subL_add ?_)) ?_
        refine XD_take 3 rfl (ev_loadA rfl agt_45 (fun _ => by first | exact Cells.there .here | exact Cells.g0 | exact Cells.g1 | exact Cells.g2 | exact Cells.g3 | exact Cells.g4 | exact Cells.g5 | (repeat (first | exact Cells.here | apply Cells.there | apply Cells.app))) rfl) (.none rfl) rfl rfl rfl (by kernel_rfl) (by kernel_rfl) (by kernel_rfl) noP_ok (HLe.refl _) (by repeat (first | exact .refl | refine .drop ?_ | refine subL_add ?_)) ?_
        refine XD_two 0 4 rfl rfl (by kernel_rfl) ?_ ?_
        · skip
          refine XO_buildSlice (ps := []) (m := []) elt_22 rfl (.nil) rfl (by simp [encR_len, encI_len, encP_len]) (by decide) (by decide) rfl rfl (fun b_34 => ?_)
          refine XO_nil ?_
          refine at_D (HLe.refl _) (by repeat (first | exact .refl | refine .drop ?_ | refine subL_add ?_)) ?_
          refine XD_two 2 4 rfl rfl (by kernel_rfl) ?_ ?_
          · skip
            refine XO_append (v := _) (ys := xs.flatMap encR) (L := [(b_34, _)]) rfl rfl elt_22 (⟨rfl, .inr ⟨b_34, 0, #[], rfl, rfl, Nat.le_refl _, by decide, rfl, rfl⟩⟩ : OwnS 45 11 _ 0 [] _) (by first | exact .cons .here .nil | exact .cons (.there .here) .nil) (hS.src encR_len) (allOne_encR xs) (by omega) rfl rfl ?_
            intro v1 L1 hO1 _; rw [List.nil_append] at hO1
            refine XO_nil ?_
            refine at_D (HLe.refl _) (by repeat (first | exact .refl | refine .drop ?_ | refine subL_add ?_)) ?_
            refine XD_one 4 rfl (by kernel_rfl) ?_
            refine XO_buildSlice (ps := [(0, _)]) (m := [encR x]) elt_22 rfl (.cons rfl (.nil)) rfl (by simp [encR_len, encI_len, encP_len]) (by decide) (by decide) rfl rfl (fun b_38 => ?_)
            refine XO_nil ?_
            refine at_D (HLe.refl _) (by repeat (first | exact .refl | refine .drop ?_ | refine subL_add ?_)) ?_
            refine XD_one 5 rfl (by kernel_rfl) ?_
            refine XO_append (v := v1) (ys := [encR x].flatten) (L := L1) rfl rfl elt_22 hO1 (by first | exact split_app | exact split_mid (A := [_])) ⟨rfl, fun _ => rfl, (by first | exact Cells.here | exact .app Cells.here)⟩ rfl (by omega) rfl rfl ?_
            intro v2 L2 hO2 _; have hO3 : OwnS 45 11 v2 (n + 1) ((xs ++ [x]).flatMap encR) L2 := by rw [List.flatMap_append]; rw [show 0 + n + 1 = n + 1 by omega] at hO2; exact hO2
            refine XO_nil ?_
            refine at_D (HLe.refl _) (by repeat (first | exact .refl | refine .drop ?_ | refine subL_add ?_)) ?_
            refine XD_one 6 rfl (by kernel_rfl) ?_
            refine XO_v0 (ev_assign rfl) rfl rfl rfl ?_
            refine XO_nil ?_
            refine at_D (HLe.refl _) (by repeat (first | exact .refl | refine .drop ?_ | refine subL_add ?_)) ?_
            refine XD_done (by kernel_rfl) ?_
            refine at_noP ?_
            exact at_met2 _ _ ⟨v2, L2, rfl, rfl, rfl, hO3⟩ (.cons rfl (.cons rfl (.cons rfl (.cons rfl .nil)))) (by repeat (first | exact .refl | refine subL_app ?_ | refine .drop ?_ | refine subL_add ?_))
          · skip
            refine XO_buildSlice (ps := [(0, _)]) (m := [encR x]) elt_22 rfl (.cons rfl (.nil)) rfl (by simp [encR_len, encI_len, encP_len]) (by decide) (by decide) rfl rfl (fun b_38 => ?_)
            refine XO_nil ?_
            refine at_D (HLe.refl _) (by repeat (first | exact .refl | refine .drop ?_ | refine subL_add ?_)) ?_
            refine XD_one 2 rfl (by kernel_rfl) ?_
            refine XO_append (v := _) (ys := xs.flatMap encR) (L := [(b_34, _)]) rfl rfl elt_22 (⟨rfl, .inr ⟨b_34, 0, #[], rfl, rfl, Nat.le_refl _, by decide, rfl, rfl⟩⟩ : OwnS 45 11 _ 0 [] _) (by first | exact .cons .here .nil | exact .cons (.there .here) .nil) (hS.src encR_len) (allOne_encR xs) (by omega) rfl rfl ?_
            intro v1 L1 hO1 _; rw [List.nil_append] at hO1
            refine XO_nil ?_
            refine at_D (HLe.refl _) (by repeat (first | exact .refl | refine .drop ?_ | refine subL_add ?_)) ?_
            refine XD_one 5 rfl (by kernel_rfl) ?_
            refine XO_append (v := v1) (ys := [encR x].flatten) (L := L1) rfl rfl elt_22 hO1 (by first | exact split_app | exact split_mid (A := [_])) ⟨rfl, fun _ => rfl, (by first | exact Cells.here | exact .app Cells.here)⟩ rfl (by omega) rfl rfl ?_
            intro v2 L2 hO2 _; have hO3 : OwnS 45 11 v2 (n + 1) ((xs ++ [x]).flatMap encR) L2 := by rw [List.flatMap_append]; rw [show 0 + n + 1 = n + 1 by omega] at hO2; exact hO2
            refine XO_nil ?_
            refine at_D (HLe.refl _) (by repeat (first | exact .refl | refine .drop ?_ | refine subL_add ?_)) ?_
            refine XD_one 6 rfl (by kernel_rfl) ?_
            refine XO_v0 (ev_assign rfl) rfl rfl rfl ?_
            refine XO_nil ?_
            refine at_D (HLe.refl _) (by repeat (first | exact .refl | refine .drop ?_ | refine subL_add ?_)) ?_
            refine XD_done (by kernel_rfl) ?_
            refine at_noP ?_
            exact at_met2 _ _ ⟨v2, L2, rfl, rfl, rfl, hO3⟩ (.cons rfl (.cons rfl (.cons rfl (.cons rfl .nil)))) (by repeat (first | exact .refl | refine subL_app ?_ | refine .drop ?_ | refine subL_add ?_))
        · skip
          refine XO_buildSlice (ps := [(0, _)]) (m := [encR x]) elt_22 rfl (.cons rfl (.nil)) rfl (by simp [encR_len, encI_len, encP_len]) (by decide) (by decide) rfl rfl (fun b_38 => ?_)
          refine XO_nil ?_
          refine at_D (HLe.refl _) (by repeat (first | exact .refl | refine .drop ?_ | refine subL_add ?_)) ?_
          refine XD_one 0 rfl (by kernel_rfl) ?_
          refine XO_buildSlice (ps := []) (m := []) elt_22 rfl (.nil) rfl (by simp [encR_len, encI_len, encP_len]) (by decide) (by decide) rfl rfl (fun b_34 => ?_)
          refine XO_nil ?_
          refine at_D (HLe.refl _) (by repeat (first | exact .refl | refine .drop ?_ | refine subL_add ?_)) ?_
          refine XD_one 2 rfl (by kernel_rfl) ?_
          refine XO_append (v := _) (ys := xs.flatMap encR) (L := [(b_34, _)]) rfl rfl elt_22 (⟨rfl, .inr ⟨b_34, 0, #[], rfl, rfl, Nat.le_refl _, by decide, rfl, rfl⟩⟩ : OwnS 45 11 _ 0 [] _) (by first | exact .cons .here .nil | exact .cons (.there .here) .nil) (hS.src encR_len) (allOne_encR xs) (by omega) rfl rfl ?_
          intro v1 L1 hO1 _; rw [List.nil_append] at hO1
          refine XO_nil ?_
          refine at_D (HLe.refl _) (by repeat (first | exact .refl | refine .drop ?_ | refine subL_add ?_)) ?_
          refine XD_one 5 rfl (by kernel_rfl) ?_
          refine XO_append (v := v1) (ys := [encR x].flatten) (L := L1) rfl rfl elt_22 hO1 (by first | exact split_app | exact split_mid (A := [_])) ⟨rfl, fun _ => rfl, (by first | exact Cells.here | exact .app Cells.here)⟩ rfl (by omega) rfl rfl ?_
          intro v2 L2 hO2 _; have hO3 : OwnS 45 11 v2 (n + 1) ((xs ++ [x]).flatMap encR) L2 := by rw [List.flatMap_append]; rw [show 0 + n + 1 = n + 1 by omega] at hO2; exact hO2
          refine XO_nil ?_
          refine at_D (HLe.refl _) (by repeat (first | exact .refl | refine .drop ?_ | refine subL_add ?_)) ?_
          refine XD_one 6 rfl (by kernel_rfl) ?_
          refine XO_v0 (ev_assign rfl) rfl rfl rfl ?_
          refine XO_nil ?_
          refine at_D (HLe.refl _) (by repeat (first | exact .refl | refine .drop ?_ | refine subL_add ?_)) ?_
          refine XD_done (by kernel_rfl) ?_
          refine at_noP ?_
          exact at_met2 _ _ ⟨v2, L2, rfl, rfl, rfl, hO3⟩ (.cons rfl (.cons rfl (.cons rfl (.cons rfl .nil)))) (by repeat (first | exact .refl | refine subL_app ?_ | refine .drop ?_ | refine subL_add ?_))
      · rintro E I' loc' ⟨v2, L2, rfl, rfl, rfl, hO3⟩
        refine X_seq ?_
        refine X_seq ?_
        refine X_freezeO hO3 encR_len (by decide) split_app (fun I2 hI2 af2 cf2 ef2 hM => ?_)
        subst ef2
        have hS := hS.mono hI2
        have hT := hT.mono hI2
        have hIc := hIc.trans hI2
        refine X_region ?_
        refine XO_v0 (ev_move rfl) rfl rfl rfl ?_
        refine XO_callV0 (cap := []) (vs := [_]) rfl rfl fun_14 (w_check hS hn) rfl rfl ?_
        refine XO_v0 (ev_cmp rfl rfl rfl) rfl rfl rfl ?_
        refine XO_v0 (ev_move rfl) rfl rfl rfl ?_
        refine XO_pushF 3 rfl rfl rfl ?_
        refine XO_v1 (ev_move rfl) (.some rfl rfl rfl rfl gbf) rfl rfl rfl ?_
        refine XO_callV1 (cap := []) (vs := [_]) rfl rfl fun_14 (fun hg => w_check hM (by omega)) (.some rfl rfl rfl rfl gbf) rfl rfl ?_
        refine XO_v1 (ev_cmp rfl rfl rfl) (.some rfl rfl rfl rfl gbf) rfl rfl rfl ?_
        refine XO_or0 rfl rfl rfl rfl rfl ?_
        refine XO_nil ?_
        refine at_then ?_
        refine X_cond rfl (fun hc47 => ?_) (fun hc47 => ?_)
        · skip
          refine X_seq ?_
          refine X_region ?_
          refine XO_v0 (ev_assign rfl) rfl rfl rfl ?_
          refine XO_nil ?_
          refine at_then ?_
          refine X_ret ?_
          refine at_then_r ?_
          first
          | exact at_ret1 rfl rfl (fun w hw => ⟨rfl, (hw.mono hIc).drop⟩)
          | exact at_ret1 rfl rfl (fun w hw => ⟨by rw [further_3 hL (by simpa using hc135)], (hw.mono hIc).drop⟩)
          | exact at_ret1 rfl rfl (fun w hw => ⟨by rw [further_2 hL (by simpa using hc142)], (hw.mono hIc).drop⟩)
          | exact at_ret1 rfl rfl (fun w hw => ⟨by rw [further_0 hL (by simpa using hc135) (by simpa using hc142)], (hw.mono hIc).drop⟩)
        · skip
          simp only [Bool.or_eq_false_iff] at hc47
          have hck : rCheck xs = 0 := by simpa using hc47.1
          have hck2 : rCheck (xs ++ [x]) = 0 := by simpa using hc47.2
          refine X_skip ?_
          refine at_then ?_
          refine X_seq ?_
          refine X_region ?_
          refine XO_v0 (ev_move rfl) rfl rfl rfl ?_
          refine XO_v0 (ev_fieldAddr rfl fld_33_0) rfl rfl rfl ?_
          refine XO_v0 (ev_load rfl sct_3 (fun hg => by first | exact Cell.h0 rfl | exact Cell.h1 rfl | exact Cell.h2 rfl | exact Cell.h3 rfl | exact Cell.h4 rfl | exact Cell.h5 rfl | (repeat (first | exact Cell.here rfl | apply Cell.there | apply Cell.app)))) rfl rfl rfl ?_
          refine XO_v0 (ev_fieldAddr rfl fld_33_6) rfl rfl rfl ?_
          refine XO_v0 (ev_load rfl sct_31 (fun hg => by first | exact Cell.h0 rfl | exact Cell.h1 rfl | exact Cell.h2 rfl | exact Cell.h3 rfl | exact Cell.h4 rfl | exact Cell.h5 rfl | (repeat (first | exact Cell.here rfl | apply Cell.there | apply Cell.app)))) rfl rfl rfl ?_
          refine XO_v0 (ev_fieldAddr rfl fld_33_2) rfl rfl rfl ?_
          refine XO_v0 (ev_load rfl sct_3 (fun hg => by first | exact Cell.h0 rfl | exact Cell.h1 rfl | exact Cell.h2 rfl | exact Cell.h3 rfl | exact Cell.h4 rfl | exact Cell.h5 rfl | (repeat (first | exact Cell.here rfl | apply Cell.there | apply Cell.app)))) rfl rfl rfl ?_
          refine XO_v0 (ev_fieldAddr rfl fld_33_3) rfl rfl rfl ?_
          refine XO_v0 (ev_load rfl sct_3 (fun hg => by first | exact Cell.h0 rfl | exact Cell.h1 rfl | exact Cell.h2 rfl | exact Cell.h3 rfl | exact Cell.h4 rfl | exact Cell.h5 rfl | (repeat (first | exact Cell.here rfl | apply Cell.there | apply Cell.app)))) rfl rfl rfl ?_
          refine XO_callM (cap := []) (vs := [_, _, _, _, _]) rfl rfl fun_21 .nil ((w_Allowed hS hn hT hn2 _ _ _).absA) rfl rfl ?_
          rintro vv3 I3 L3 hI3 ⟨ms, e8, hms, he8, rfl, a3, c3, rfl, hA⟩
          have hS := hS.mono hI3
          have hT := hT.mono hI3
          have hM := hM.mono hI3
          have hIc := hIc.trans hI3
          refine XO_v0 (ev_move rfl) rfl rfl rfl ?_
          refine XO_v0 (ev_extract rfl rfl) rfl rfl rfl ?_
          refine XO_v0 (ev_extract rfl rfl) rfl rfl rfl ?_
          refine XO_v0 (ev_extract rfl rfl) rfl rfl rfl ?_
          refine XO_v0 (ev_assign rfl) rfl rfl rfl ?_
          refine XO_v0 (ev_assign rfl) rfl rfl rfl ?_
          refine XO_v0 (ev_assign rfl) rfl rfl rfl ?_
          refine XO_nil ?_
          refine at_then ?_
          refine X_seq ?_
          refine X_region ?_
          refine XO_v0 (ev_move rfl) rfl rfl rfl ?_
          refine XO_v0 (ev_fieldAddr rfl fld_33_0) rfl rfl rfl ?_
          refine XO_v0 (ev_load rfl sct_3 (fun hg => by first | exact Cell.h0 rfl | exact Cell.h1 rfl | exact Cell.h2 rfl | exact Cell.h3 rfl | exact Cell.h4 rfl | exact Cell.h5 rfl | (repeat (first | exact Cell.here rfl | apply Cell.there | apply Cell.app)))) rfl rfl rfl ?_
          refine XO_v0 (ev_fieldAddr rfl fld_33_6) rfl rfl rfl ?_
          refine XO_v0 (ev_load rfl sct_31 (fun hg => by first | exact Cell.h0 rfl | exact Cell.h1 rfl | exact Cell.h2 rfl | exact Cell.h3 rfl | exact Cell.h4 rfl | exact Cell.h5 rfl | (repeat (first | exact Cell.here rfl | apply Cell.there | apply Cell.app)))) rfl rfl rfl ?_
          refine XO_v0 (ev_fieldAddr rfl fld_33_2) rfl rfl rfl ?_
          refine XO_v0 (ev_load rfl sct_3 (fun hg => by first | exact Cell.h0 rfl | exact Cell.h1 rfl | exact Cell.h2 rfl | exact Cell.h3 rfl | exact Cell.h4 rfl | exact Cell.h5 rfl | (repeat (first | exact Cell.here rfl | apply Cell.there | apply Cell.app)))) rfl rfl rfl ?_
          refine XO_v0 (ev_fieldAddr rfl fld_33_3) rfl rfl rfl ?_
          refine XO_v0 (ev_load rfl sct_3 (fun hg => by first | exact Cell.h0 rfl | exact Cell.h1 rfl | exact Cell.h2 rfl | exact Cell.h3 rfl | exact Cell.h4 rfl | exact Cell.h5 rfl | (repeat (first | exact Cell.here rfl | apply Cell.there | apply Cell.app)))) rfl rfl rfl ?_
          refine XO_callM (cap := []) (vs := [_, _, _, _, _]) rfl rfl fun_21 .nil ((w_Allowed hM hnm hT hn2 _ _ _).absA) rfl rfl ?_
          rintro vv4 I4 L4 hI4 ⟨ms2, e9, hms2, he9, rfl, a4, c4, rfl, hB⟩
          have hS := hS.mono hI4
          have hT := hT.mono hI4
          have hM := hM.mono hI4
          have hA := hA.mono hI4
          have hIc := hIc.trans hI4
          refine XO_v0 (ev_move rfl) rfl rfl rfl ?_
          refine XO_v0 (ev_extract rfl rfl) rfl rfl rfl ?_
          refine XO_v0 (ev_extract rfl rfl) rfl rfl rfl ?_
          refine XO_v0 (ev_extract rfl rfl) rfl rfl rfl ?_
          refine XO_v0 (ev_assign rfl) rfl rfl rfl ?_
          refine XO_v0 (ev_assign rfl) rfl rfl rfl ?_
          refine XO_v0 (ev_assign rfl) rfl rfl rfl ?_
          refine XO_nil ?_
          refine at_then ?_
          refine X_seq ?_
          refine X_region ?_
          refine XO_v0 (ev_move rfl) rfl rfl rfl ?_
          refine XO_v0 (ev_fieldAddr rfl fld_33_0) rfl rfl rfl ?_
          refine XO_v0 (ev_load rfl sct_3 (fun hg => by first | exact Cell.h0 rfl | exact Cell.h1 rfl | exact Cell.h2 rfl | exact Cell.h3 rfl | exact Cell.h4 rfl | exact Cell.h5 rfl | (repeat (first | exact Cell.here rfl | apply Cell.there | apply Cell.app)))) rfl rfl rfl ?_
          refine XO_v0 (ev_fieldAddr rfl fld_33_4) rfl rfl rfl ?_
          refine XO_v0 (ev_load rfl sct_9 (fun hg => by first | exact Cell.h0 rfl | exact Cell.h1 rfl | exact Cell.h2 rfl | exact Cell.h3 rfl | exact Cell.h4 rfl | exact Cell.h5 rfl | (repeat (first | exact Cell.here rfl | apply Cell.there | apply Cell.app)))) rfl rfl rfl ?_
          refine XO_v0 (ev_fieldAddr rfl fld_33_5) rfl rfl rfl ?_
          refine XO_v0 (ev_load rfl sct_9 (fun hg => by first | exact Cell.h0 rfl | exact Cell.h1 rfl | exact Cell.h2 rfl | exact Cell.h3 rfl | exact Cell.h4 rfl | exact Cell.h5 rfl | (repeat (first | exact Cell.here rfl | apply Cell.there | apply Cell.app)))) rfl rfl rfl ?_
          refine XO_v0 (ev_fieldAddr rfl fld_33_2) rfl rfl rfl ?_
          refine XO_v0 (ev_load rfl sct_3 (fun hg => by first | exact Cell.h0 rfl | exact Cell.h1 rfl | exact Cell.h2 rfl | exact Cell.h3 rfl | exact Cell.h4 rfl | exact Cell.h5 rfl | (repeat (first | exact Cell.here rfl | apply Cell.there | apply Cell.app)))) rfl rfl rfl ?_
          refine XO_v0 (ev_fieldAddr rfl fld_33_3) rfl rfl rfl ?_
          refine XO_v0 (ev_load rfl sct_3 (fun hg => by first | exact Cell.h0 rfl | exact Cell.h1 rfl | exact Cell.h2 rfl | exact Cell.h3 rfl | exact Cell.h4 rfl | exact Cell.h5 rfl | (repeat (first | exact Cell.here rfl | apply Cell.there | apply Cell.app)))) rfl rfl rfl ?_
          refine XO_callV0 (cap := []) (vs := [_, _, _, _, _, _]) rfl rfl fun_17 (w_may hS hn _ _ _ _ _) rfl rfl ?_
          refine XO_v0 (ev_move rfl) rfl rfl rfl ?_
          refine XO_v0 (ev_extract rfl rfl) rfl rfl rfl ?_
          refine XO_v0 (ev_extract rfl rfl) rfl rfl rfl ?_
          refine XO_v0 (ev_assign rfl) rfl rfl rfl ?_
          refine XO_v0 (ev_assign rfl) rfl rfl rfl ?_
          refine XO_nil ?_
          refine at_then ?_
          refine X_seq ?_
          refine X_region ?_
          refine XO_v0 (ev_move rfl) rfl rfl rfl ?_
          refine XO_v0 (ev_fieldAddr rfl fld_33_0) rfl rfl rfl ?_
          refine XO_v0 (ev_load rfl sct_3 (fun hg => by first | exact Cell.h0 rfl | exact Cell.h1 rfl | exact Cell.h2 rfl | exact Cell.h3 rfl | exact Cell.h4 rfl | exact Cell.h5 rfl | (repeat (first | exact Cell.here rfl | apply Cell.there | apply Cell.app)))) rfl rfl rfl ?_
          refine XO_v0 (ev_fieldAddr rfl fld_33_4) rfl rfl rfl ?_
          refine XO_v0 (ev_load rfl sct_9 (fun hg => by first | exact Cell.h0 rfl | exact Cell.h1 rfl | exact Cell.h2 rfl | exact Cell.h3 rfl | exact Cell.h4 rfl | exact Cell.h5 rfl | (repeat (first | exact Cell.here rfl | apply Cell.there | apply Cell.app)))) rfl rfl rfl ?_
          refine XO_v0 (ev_fieldAddr rfl fld_33_5) rfl rfl rfl ?_
          refine XO_v0 (ev_load rfl sct_9 (fun hg => by first | exact Cell.h0 rfl | exact Cell.h1 rfl | exact Cell.h2 rfl | exact Cell.h3 rfl | exact Cell.h4 rfl | exact Cell.h5 rfl | (repeat (first | exact Cell.here rfl | apply Cell.there | apply Cell.app)))) rfl rfl rfl ?_
          refine XO_v0 (ev_fieldAddr rfl fld_33_2) rfl rfl rfl ?_
          refine XO_v0 (ev_load rfl sct_3 (fun hg => by first | exact Cell.h0 rfl | exact Cell.h1 rfl | exact Cell.h2 rfl | exact Cell.h3 rfl | exact Cell.h4 rfl | exact Cell.h5 rfl | (repeat (first | exact Cell.here rfl | apply Cell.there | apply Cell.app)))) rfl rfl rfl ?_
          refine XO_v0 (ev_fieldAddr rfl fld_33_3) rfl rfl rfl ?_
          refine XO_v0 (ev_load rfl sct_3 (fun hg => by first | exact Cell.h0 rfl | exact Cell.h1 rfl | exact Cell.h2 rfl | exact Cell.h3 rfl | exact Cell.h4 rfl | exact Cell.h5 rfl | (repeat (first | exact Cell.here rfl | apply Cell.there | apply Cell.app)))) rfl rfl rfl ?_
          refine XO_callV0 (cap := []) (vs := [_, _, _, _, _, _]) rfl rfl fun_17 (w_may hM hnm _ _ _ _ _) rfl rfl ?_
          refine XO_v0 (ev_move rfl) rfl rfl rfl ?_
          refine XO_v0 (ev_extract rfl rfl) rfl rfl rfl ?_
          refine XO_v0 (ev_extract rfl rfl) rfl rfl rfl ?_
          refine XO_v0 (ev_assign rfl) rfl rfl rfl ?_
          refine XO_v0 (ev_assign rfl) rfl rfl rfl ?_
          refine XO_nil ?_
          refine at_then ?_
          refine X_seq ?_
          refine X_seq ?_
          have hL := further_law (xs := xs) (x := x) hk ed day time name town ss (askedF 0 day time) (aErr (askedF 0 day time) ss)
          rw [hck] at hms he8
          rw [hck2] at hms2 he9
          rw [← hms, ← hms2, ← he8] at hL
          have he98 : e9 = e8 := he9.trans he8.symm
          rw [he98]
          refine X_region ?_
          refine XO_v0 (ev_move rfl) rfl rfl rfl ?_
          refine XO_v0 (ev_move rfl) rfl rfl rfl ?_
          refine XO_v0 (ev_cmp rfl rfl rfl) rfl rfl rfl ?_
          refine XO_v0 (ev_move rfl) rfl rfl rfl ?_
          refine XO_pushF 3 rfl rfl rfl ?_
          refine XO_v1 (ev_move rfl) (.some rfl rfl rfl rfl gbf) rfl rfl rfl ?_
          refine XO_v1 (ev_move rfl) (.some rfl rfl rfl rfl gbf) rfl rfl rfl ?_
          refine XO_v1 (ev_cmp rfl rfl rfl) (.some rfl rfl rfl rfl gbf) rfl rfl rfl ?_
          refine XO_or0 rfl rfl rfl rfl rfl ?_
          refine XO_v0 (ev_move rfl) rfl rfl rfl ?_
          refine XO_pushF 8 rfl rfl rfl ?_
          refine XO_v1 (ev_move rfl) (.some rfl rfl rfl rfl gbf) rfl rfl rfl ?_
          refine XO_v1 (ev_move rfl) (.some rfl rfl rfl rfl gbf) rfl rfl rfl ?_
          refine XO_pushT 10 rfl rfl rfl ?_
          refine XO_v1 (ev_move rfl) (.some rfl rfl rfl rfl gbt) rfl rfl rfl ?_
          refine XO_v1 (ev_not rfl) (.some rfl rfl rfl rfl gbt) rfl rfl rfl ?_
          refine XO_and1 rfl rfl rfl (.some rfl rfl rfl rfl gbf) rfl rfl ?_
          refine XO_or0 rfl rfl rfl rfl rfl ?_
          refine XO_v0 (ev_move rfl) rfl rfl rfl ?_
          refine XO_pushF 15 rfl rfl rfl ?_
          refine XO_v1 (ev_move rfl) (.some rfl rfl rfl rfl gbf) rfl rfl rfl ?_
          refine XO_v1 (ev_move rfl) (.some rfl rfl rfl rfl gbf) rfl rfl rfl ?_
          refine XO_pushT 17 rfl rfl rfl ?_
          refine XO_v1 (ev_move rfl) (.some rfl rfl rfl rfl gbt) rfl rfl rfl ?_
          refine XO_v1 (ev_not rfl) (.some rfl rfl rfl rfl gbt) rfl rfl rfl ?_
          refine XO_and1 rfl rfl rfl (.some rfl rfl rfl rfl gbf) rfl rfl ?_
          refine XO_v1 (ev_move rfl) (.some rfl rfl rfl rfl gbf) rfl rfl rfl ?_
          refine XO_pushT 21 rfl rfl rfl ?_
          refine XO_v1 (ev_fieldAddr rfl fld_45_1) (.some rfl rfl rfl rfl gbt) rfl rfl rfl ?_
          refine XO_v1 (ev_load rfl sct_3 (fun hg => by first | exact Cell.h0 rfl | exact Cell.h1 rfl | exact Cell.h2 rfl | exact Cell.h3 rfl | exact Cell.h4 rfl | exact Cell.h5 rfl | (repeat (first | exact Cell.here rfl | apply Cell.there | apply Cell.app)))) (.some rfl rfl rfl rfl gbt) rfl rfl rfl ?_
          refine XO_v1 (ev_cmp rfl rfl rfl) (.some rfl rfl rfl rfl gbt) rfl rfl rfl ?_
          refine XO_and1 rfl rfl rfl (.some rfl rfl rfl rfl gbf) rfl rfl ?_
          refine XO_or0 rfl rfl rfl rfl rfl ?_
          refine XO_nil ?_
          refine at_then ?_
          refine X_cond rfl (fun hc132 => ?_) (fun hc132 => ?_)
          · skip
            exact absurd hc132 (by rw [hck, hck2]; simpa using further_dead hL)
          · skip
            refine X_skip ?_
            refine at_then ?_
            refine X_seq ?_
            refine X_seq ?_
            refine X_region ?_
            refine XO_v0 (ev_fieldAddr rfl fld_45_1) rfl rfl rfl ?_
            refine XO_v0 (ev_load rfl sct_3 (fun hg => by first | exact Cell.h0 rfl | exact Cell.h1 rfl | exact Cell.h2 rfl | exact Cell.h3 rfl | exact Cell.h4 rfl | exact Cell.h5 rfl | (repeat (first | exact Cell.here rfl | apply Cell.there | apply Cell.app)))) rfl rfl rfl ?_
            refine XO_nil ?_
            refine at_then ?_
            refine X_block ?_
            refine X_seq ?_
            refine X_region ?_
            refine XO_v0 (ev_cmp rfl rfl rfl) rfl rfl rfl ?_
            refine XO_v0 (ev_assign rfl) rfl rfl rfl ?_
            refine XO_nil ?_
            refine at_then ?_
            refine X_cond rfl (fun hc135 => ?_) (fun hc135 => ?_)
            · skip
              refine X_seq ?_
              refine X_region ?_
              refine XO_v0 (ev_move rfl) rfl rfl rfl ?_
              refine XO_v0 (ev_not rfl) rfl rfl rfl ?_
              refine XO_v0 (ev_move rfl) rfl rfl rfl ?_
              refine XO_pushF 2 rfl rfl rfl ?_
              refine XO_v1 (ev_move rfl) (.some rfl rfl rfl rfl gbf) rfl rfl rfl ?_
              refine XO_or0 rfl rfl rfl rfl rfl ?_
              refine XO_v0 (ev_assign rfl) rfl rfl rfl ?_
              refine XO_nil ?_
              refine at_then ?_
              refine X_ret ?_
              refine at_block_r ?_
              refine at_then_r ?_
              first
              | exact at_ret1 rfl rfl (fun w hw => ⟨rfl, (hw.mono hIc).drop⟩)
              | exact at_ret1 rfl rfl (fun w hw => ⟨by rw [further_3 hL (by simpa using hc135)], (hw.mono hIc).drop⟩)
              | exact at_ret1 rfl rfl (fun w hw => ⟨by rw [further_2 hL (by simpa using hc142)], (hw.mono hIc).drop⟩)
              | exact at_ret1 rfl rfl (fun w hw => ⟨by rw [further_0 hL (by simpa using hc135) (by simpa using hc142)], (hw.mono hIc).drop⟩)
            · skip
              refine X_seq ?_
              refine X_region ?_
              refine XO_v0 (ev_cmp rfl rfl rfl) rfl rfl rfl ?_
              refine XO_v0 (ev_assign rfl) rfl rfl rfl ?_
              refine XO_nil ?_
              refine at_then ?_
              refine X_cond rfl (fun hc142 => ?_) (fun hc142 => ?_)
              · skip
                refine X_seq ?_
                refine X_region ?_
                refine XO_v0 (ev_move rfl) rfl rfl rfl ?_
                refine XO_v0 (ev_move rfl) rfl rfl rfl ?_
                refine XO_pushF 1 rfl rfl rfl ?_
                refine XO_v1 (ev_move rfl) (.some rfl rfl rfl rfl gbf) rfl rfl rfl ?_
                refine XO_v1 (ev_not rfl) (.some rfl rfl rfl rfl gbf) rfl rfl rfl ?_
                refine XO_or0 rfl rfl rfl rfl rfl ?_
                refine XO_v0 (ev_assign rfl) rfl rfl rfl ?_
                refine XO_nil ?_
                refine at_then ?_
                refine X_ret ?_
                refine at_block_r ?_
                refine at_then_r ?_
                first
                | exact at_ret1 rfl rfl (fun w hw => ⟨rfl, (hw.mono hIc).drop⟩)
                | exact at_ret1 rfl rfl (fun w hw => ⟨by rw [further_3 hL (by simpa using hc135)], (hw.mono hIc).drop⟩)
                | exact at_ret1 rfl rfl (fun w hw => ⟨by rw [further_2 hL (by simpa using hc142)], (hw.mono hIc).drop⟩)
                | exact at_ret1 rfl rfl (fun w hw => ⟨by rw [further_0 hL (by simpa using hc135) (by simpa using hc142)], (hw.mono hIc).drop⟩)
              · skip
                refine X_skip ?_
                refine at_block_n ?_
                refine at_then ?_
                refine X_seq ?_
                refine X_region ?_
                refine XO_v0 (ev_move rfl) rfl rfl rfl ?_
                refine XO_v0 (ev_move rfl) rfl rfl rfl ?_
                refine XO_v0 (ev_boolR rfl rfl und_4) rfl rfl rfl ?_
                refine XO_v0 (ev_assign rfl) rfl rfl rfl ?_
                refine XO_nil ?_
                refine at_then ?_
                refine X_ret ?_
                first
                | exact at_ret1 rfl rfl (fun w hw => ⟨rfl, (hw.mono hIc).drop⟩)
                | exact at_ret1 rfl rfl (fun w hw => ⟨by rw [further_3 hL (by simpa using hc135)], (hw.mono hIc).drop⟩)
                | exact at_ret1 rfl rfl (fun w hw => ⟨by rw [further_2 hL (by simpa using hc142)], (hw.mono hIc).drop⟩)
                | exact at_ret1 rfl rfl (fun w hw => ⟨by rw [further_0 hL (by simpa using hc135) (by simpa using hc142)], (hw.mono hIc).drop⟩)
end Go.Proofs.Ytmflfccincbnaaa
