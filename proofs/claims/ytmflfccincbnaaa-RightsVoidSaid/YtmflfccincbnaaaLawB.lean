/- The walks of the register of rights, the laws, second part: each function comes to its Lean function. -/
import Derived.Test.YtmflfccincbnaaaLawA
import Derived.Test.YtmflfccincbnaaaPlainM
namespace Go.Proofs.Ytmflfccincbnaaa
open Go Go.Kn Go.Proofs
theorem may_eq {xs : List Rt} (hx : ∀ x ∈ xs, okR x) (no : Int) (name town : ByteArray) (day time : Int) :
    mayF (askedF (rCheck xs) day time) no name town (standF xs day time) = mayF (askedF (fCheck xs) day time) no name town (standsF xs day time) := by
  rw [check_eq hx]
  unfold mayF
  split
  · rfl
  · rename_i h
    rw [stand_eq hx (asked_ok (by simpa using h))]
theorem holders_eq {xs : List Rt} (hx : ∀ x ∈ xs, okR x) (ed sg day time : Int) :
    resF (hErr (askedF (rCheck xs) day time) sg) (holdF sg (partsM 2 ed (standF xs day time))) = resF (hErr (askedF (fCheck xs) day time) sg) (holdR ed sg (standsF xs day time)) := by
  rw [check_eq hx, hold_eq]
  unfold resF
  split
  · rfl
  · rename_i h
    have h0 : askedF (fCheck xs) day time = 0 := by
      by_cases e : askedF (fCheck xs) day time = 0
      · exact e
      · unfold hErr at h; rw [if_pos e] at h; exact absurd (by simpa using h) e
    rw [stand_eq hx (asked_ok h0)]
theorem allowed_eq {xs : List Rt} (hx : ∀ x ∈ xs, okR x) (ed day time : Int) (ss : List Int) :
    resF (aErr (askedF (rCheck xs) day time) ss) (missA (fun s => holdF s (partsM 2 ed (standF xs day time))) (missP (partsM 3 ed (standF xs day time))) ss) =
    resF (aErr (askedF (fCheck xs) day time) ss) (missA (fun s => holdR ed s (standsF xs day time)) (fun s h => !(standsF xs day time).any (consP ed s h)) ss) := by
  rw [check_eq hx, missA_eq]
  unfold resF
  split
  · rfl
  · rename_i h
    have h0 : askedF (fCheck xs) day time = 0 := by
      by_cases e : askedF (fCheck xs) day time = 0
      · exact e
      · unfold aErr at h; rw [if_pos e] at h; exact absurd (by simpa using h) e
    rw [stand_eq hx (asked_ok h0)]

theorem missA_len {hold : Int → List Int} {miss : Int → Int → Bool} {b : Nat} (hb : ∀ s, (hold s).length ≤ b) : ∀ (ss : List Int), (missA hold miss ss).length ≤ ss.length * b
  | [] => by simp [missA]
  | s :: ss => by
    have ih := missA_len hb ss (miss := miss)
    have h1 := hb s
    have h2 := List.length_filter_le (miss s) (hold s)
    unfold missA at ih ⊢
    rw [List.flatMap_cons, List.length_append, List.length_map, List.length_cons, Nat.add_mul]
    omega
theorem holdF_le {xs : List Rt} (ed s day time : Int) : (holdF s (partsM 2 ed (standF xs day time))).length ≤ xs.length :=
  Nat.le_trans (holdF_len _ _) (Nat.le_trans (partsM_len 2 ed _) standF_len)
theorem ss_len7 {xs : List Rt} {n : Nat} (hl : xs.length = n) (hn : n ≤ 600) (ed sg day time : Int) : (resF (hErr (askedF (rCheck xs) day time) sg) (holdF sg (partsM 2 ed (standF xs day time)))).length ≤ 100000 :=
  Nat.le_trans resF_len (Nat.le_trans (holdF_le ed sg day time) (by omega))
theorem ss_len9 {xs : List Rt} {ss : List Int} {n n2 : Nat} (hl : xs.length = n) (hn : n ≤ 600) (hl2 : ss.length = n2) (hn2 : n2 ≤ 70) (ed day time : Int) :
    (resF (aErr (askedF (rCheck xs) day time) ss) (missA (fun s => holdF s (partsM 2 ed (standF xs day time))) (missP (partsM 3 ed (standF xs day time))) ss)).length ≤ 100000 := by
  refine Nat.le_trans resF_len (Nat.le_trans (missA_len (b := 600) (fun s => Nat.le_trans (holdF_le ed s day time) (by omega)) ss) ?_)
  have : ss.length * 600 ≤ 70 * 600 := Nat.mul_le_mul_right _ (by omega)
  omega

theorem w_allowedSpec {I : HMap} {av : Option Addr} {n c : Nat} {xs : List Rt} (hS : Sl I 11 encR av n c xs) (hx : ∀ x ∈ xs, okR x) {bv : Option Addr} {n2 c2 : Nat} {ss : List Int} (hT : Sl I 1 encI bv n2 c2 ss) (ed sg day time : Int) (name town : ByteArray) : RetV Try.prog 4 [.slice av n c, .agg #[.int .i64 ed, .int .i64 sg, .int .i64 day, .int .i64 time, .string name, .string town, .slice bv n2 c2]] I (.bool true) := by
  intro g H w hw
  refine enter Try.func4 rfl Try.ntmps4 rfl hw ?_
  refine X_seq ?_
  refine X_region ?_
  refine XO_box rfl rfl rfl (fun b_3 => ?_)
  refine XO_v0 (ev_assign rfl) rfl rfl rfl ?_
  refine XO_nil ?_
  refine at_then ?_
  refine X_seq ?_
  refine X_seq ?_
  refine X_region ?_
  refine XO_callV0 (cap := []) (vs := []) rfl rfl fun_10 (w_sane _) rfl rfl ?_
  refine XO_v0 (ev_not rfl) rfl rfl rfl ?_
  refine XO_nil ?_
  refine at_then ?_
  refine X_cond rfl (fun hc20 => ?_) (fun hc20 => ?_)
  · skip
    exact absurd hc20 (by decide)
  · skip
    refine X_skip ?_
    refine at_then ?_
    refine X_seq ?_
    refine X_seq ?_
    refine X_region ?_
    refine XO_v0 (ev_move rfl) rfl rfl rfl ?_
    refine XO_callV0 (cap := []) (vs := [_]) rfl rfl fun_11 (w_few hS) rfl rfl ?_
    refine XO_v0 (ev_not rfl) rfl rfl rfl ?_
    refine XO_v0 (ev_move rfl) rfl rfl rfl ?_
    refine XO_pushF 3 rfl rfl rfl ?_
    refine XO_v1 (ev_fieldAddr rfl fld_33_6) (.some rfl rfl rfl rfl gbf) rfl rfl rfl ?_
    refine XO_v1 (ev_load rfl sct_31 (fun hg => by first | exact Cell.h0 rfl | exact Cell.h1 rfl | exact Cell.h2 rfl | exact Cell.h3 rfl | exact Cell.h4 rfl | exact Cell.h5 rfl)) (.some rfl rfl rfl rfl gbf) rfl rfl rfl ?_
    refine XO_v1 (ev_lenS rfl slt_31) (.some rfl rfl rfl rfl gbf) rfl rfl rfl ?_
    refine XO_v1 (ev_cmp rfl rfl rfl) (.some rfl rfl rfl rfl gbf) rfl rfl rfl ?_
    refine XO_or0 rfl rfl rfl rfl rfl ?_
    refine XO_v0 (ev_move rfl) rfl rfl rfl ?_
    refine XO_pushF 9 rfl rfl rfl ?_
    refine XO_v1 (ev_fieldAddr rfl fld_33_4) (.some rfl rfl rfl rfl gbf) rfl rfl rfl ?_
    refine XO_v1 (ev_load rfl sct_9 (fun hg => by first | exact Cell.h0 rfl | exact Cell.h1 rfl | exact Cell.h2 rfl | exact Cell.h3 rfl | exact Cell.h4 rfl | exact Cell.h5 rfl)) (.some rfl rfl rfl rfl gbf) rfl rfl rfl ?_
    refine XO_v1 (ev_lenStr rfl und_9) (.some rfl rfl rfl rfl gbf) rfl rfl rfl ?_
    refine XO_v1 (ev_cmp rfl rfl rfl) (.some rfl rfl rfl rfl gbf) rfl rfl rfl ?_
    refine XO_or0 rfl rfl rfl rfl rfl ?_
    refine XO_v0 (ev_move rfl) rfl rfl rfl ?_
    refine XO_pushF 15 rfl rfl rfl ?_
    refine XO_v1 (ev_fieldAddr rfl fld_33_5) (.some rfl rfl rfl rfl gbf) rfl rfl rfl ?_
    refine XO_v1 (ev_load rfl sct_9 (fun hg => by first | exact Cell.h0 rfl | exact Cell.h1 rfl | exact Cell.h2 rfl | exact Cell.h3 rfl | exact Cell.h4 rfl | exact Cell.h5 rfl)) (.some rfl rfl rfl rfl gbf) rfl rfl rfl ?_
    refine XO_v1 (ev_lenStr rfl und_9) (.some rfl rfl rfl rfl gbf) rfl rfl rfl ?_
    refine XO_v1 (ev_cmp rfl rfl rfl) (.some rfl rfl rfl rfl gbf) rfl rfl rfl ?_
    refine XO_or0 rfl rfl rfl rfl rfl ?_
    refine XO_nil ?_
    refine at_then ?_
    refine X_cond rfl (fun hc41 => ?_) (fun hc41 => ?_)
    · skip
      refine X_seq ?_
      refine X_region ?_
      refine XO_v0 (ev_assign rfl) rfl rfl rfl ?_
      refine XO_nil ?_
      refine at_then ?_
      refine X_ret ?_
      refine at_then_r ?_
      first
      | exact at_ret1 rfl rfl (fun w hw => ⟨rfl, hw.drop⟩)
      | exact at_ret1 rfl rfl (fun w hw => ⟨by rw [may_eq hx, holders_eq hx, allowed_eq hx, check_eq hx]; simp [same_self], (hw.mono (hI7.trans (hI8.trans (hI9.trans hI10)))).drop⟩)
    · skip
      simp only [Bool.or_eq_false_iff] at hc41
      have hn6 : n ≤ 600 := by have := few_len (xs := xs) (by simpa using hc41.1.1.1); rw [hS.len] at this; omega
      have hn : n ≤ 100000 := by omega
      have hn7 : n2 ≤ 70 := by have := of_decide_eq_false hc41.1.1.2; omega
      have hn2 : n2 ≤ 100000 := by omega
      refine X_skip ?_
      refine at_then ?_
      refine X_seq ?_
      refine X_region ?_
      refine XO_v0 (ev_move rfl) rfl rfl rfl ?_
      refine XO_v0 (ev_fieldAddr rfl fld_33_0) rfl rfl rfl ?_
      refine XO_v0 (ev_load rfl sct_3 (fun hg => by first | exact Cell.h0 rfl | exact Cell.h1 rfl | exact Cell.h2 rfl | exact Cell.h3 rfl | exact Cell.h4 rfl | exact Cell.h5 rfl)) rfl rfl rfl ?_
      refine XO_v0 (ev_fieldAddr rfl fld_33_4) rfl rfl rfl ?_
      refine XO_v0 (ev_load rfl sct_9 (fun hg => by first | exact Cell.h0 rfl | exact Cell.h1 rfl | exact Cell.h2 rfl | exact Cell.h3 rfl | exact Cell.h4 rfl | exact Cell.h5 rfl)) rfl rfl rfl ?_
      refine XO_v0 (ev_fieldAddr rfl fld_33_5) rfl rfl rfl ?_
      refine XO_v0 (ev_load rfl sct_9 (fun hg => by first | exact Cell.h0 rfl | exact Cell.h1 rfl | exact Cell.h2 rfl | exact Cell.h3 rfl | exact Cell.h4 rfl | exact Cell.h5 rfl)) rfl rfl rfl ?_
      refine XO_v0 (ev_fieldAddr rfl fld_33_2) rfl rfl rfl ?_
      refine XO_v0 (ev_load rfl sct_3 (fun hg => by first | exact Cell.h0 rfl | exact Cell.h1 rfl | exact Cell.h2 rfl | exact Cell.h3 rfl | exact Cell.h4 rfl | exact Cell.h5 rfl)) rfl rfl rfl ?_
      refine XO_v0 (ev_fieldAddr rfl fld_33_3) rfl rfl rfl ?_
      refine XO_v0 (ev_load rfl sct_3 (fun hg => by first | exact Cell.h0 rfl | exact Cell.h1 rfl | exact Cell.h2 rfl | exact Cell.h3 rfl | exact Cell.h4 rfl | exact Cell.h5 rfl)) rfl rfl rfl ?_
      refine XO_callV0 (cap := []) (vs := [_, _, _, _, _, _]) rfl rfl fun_17 (w_may hS hn _ _ _ _ _) rfl rfl ?_
      refine XO_v0 (ev_move rfl) rfl rfl rfl ?_
      refine XO_v0 (ev_extract rfl rfl) rfl rfl rfl ?_
      refine XO_v0 (ev_extract rfl rfl) rfl rfl rfl ?_
      refine XO_v0 (ev_assign rfl) rfl rfl rfl ?_
      refine XO_v0 (ev_assign rfl) rfl rfl rfl ?_
      refine XO_nil ?_
      refine at_then ?_
      refine X_seq ?_
      refine X_region ?_
      refine XO_v0 (ev_move rfl) rfl rfl rfl ?_
      refine XO_v0 (ev_fieldAddr rfl fld_33_0) rfl rfl rfl ?_
      refine XO_v0 (ev_load rfl sct_3 (fun hg => by first | exact Cell.h0 rfl | exact Cell.h1 rfl | exact Cell.h2 rfl | exact Cell.h3 rfl | exact Cell.h4 rfl | exact Cell.h5 rfl)) rfl rfl rfl ?_
      refine XO_v0 (ev_fieldAddr rfl fld_33_4) rfl rfl rfl ?_
      refine XO_v0 (ev_load rfl sct_9 (fun hg => by first | exact Cell.h0 rfl | exact Cell.h1 rfl | exact Cell.h2 rfl | exact Cell.h3 rfl | exact Cell.h4 rfl | exact Cell.h5 rfl)) rfl rfl rfl ?_
      refine XO_v0 (ev_fieldAddr rfl fld_33_5) rfl rfl rfl ?_
      refine XO_v0 (ev_load rfl sct_9 (fun hg => by first | exact Cell.h0 rfl | exact Cell.h1 rfl | exact Cell.h2 rfl | exact Cell.h3 rfl | exact Cell.h4 rfl | exact Cell.h5 rfl)) rfl rfl rfl ?_
      refine XO_v0 (ev_fieldAddr rfl fld_33_2) rfl rfl rfl ?_
      refine XO_v0 (ev_load rfl sct_3 (fun hg => by first | exact Cell.h0 rfl | exact Cell.h1 rfl | exact Cell.h2 rfl | exact Cell.h3 rfl | exact Cell.h4 rfl | exact Cell.h5 rfl)) rfl rfl rfl ?_
      refine XO_v0 (ev_fieldAddr rfl fld_33_3) rfl rfl rfl ?_
      refine XO_v0 (ev_load rfl sct_3 (fun hg => by first | exact Cell.h0 rfl | exact Cell.h1 rfl | exact Cell.h2 rfl | exact Cell.h3 rfl | exact Cell.h4 rfl | exact Cell.h5 rfl)) rfl rfl rfl ?_
      refine XO_callV0 (cap := []) (vs := [_, _, _, _, _, _]) rfl rfl fun_18 (w_rmay hS hn _ _ _ _ _) rfl rfl ?_
      refine XO_v0 (ev_move rfl) rfl rfl rfl ?_
      refine XO_v0 (ev_extract rfl rfl) rfl rfl rfl ?_
      refine XO_v0 (ev_extract rfl rfl) rfl rfl rfl ?_
      refine XO_v0 (ev_assign rfl) rfl rfl rfl ?_
      refine XO_v0 (ev_assign rfl) rfl rfl rfl ?_
      refine XO_nil ?_
      refine at_then ?_
      refine X_seq ?_
      refine X_region ?_
      refine XO_v0 (ev_move rfl) rfl rfl rfl ?_
      refine XO_v0 (ev_fieldAddr rfl fld_33_0) rfl rfl rfl ?_
      refine XO_v0 (ev_load rfl sct_3 (fun hg => by first | exact Cell.h0 rfl | exact Cell.h1 rfl | exact Cell.h2 rfl | exact Cell.h3 rfl | exact Cell.h4 rfl | exact Cell.h5 rfl)) rfl rfl rfl ?_
      refine XO_v0 (ev_fieldAddr rfl fld_33_1) rfl rfl rfl ?_
      refine XO_v0 (ev_load rfl sct_3 (fun hg => by first | exact Cell.h0 rfl | exact Cell.h1 rfl | exact Cell.h2 rfl | exact Cell.h3 rfl | exact Cell.h4 rfl | exact Cell.h5 rfl)) rfl rfl rfl ?_
      refine XO_v0 (ev_fieldAddr rfl fld_33_2) rfl rfl rfl ?_
      refine XO_v0 (ev_load rfl sct_3 (fun hg => by first | exact Cell.h0 rfl | exact Cell.h1 rfl | exact Cell.h2 rfl | exact Cell.h3 rfl | exact Cell.h4 rfl | exact Cell.h5 rfl)) rfl rfl rfl ?_
      refine XO_v0 (ev_fieldAddr rfl fld_33_3) rfl rfl rfl ?_
      refine XO_v0 (ev_load rfl sct_3 (fun hg => by first | exact Cell.h0 rfl | exact Cell.h1 rfl | exact Cell.h2 rfl | exact Cell.h3 rfl | exact Cell.h4 rfl | exact Cell.h5 rfl)) rfl rfl rfl ?_
      refine XO_callM (cap := []) (vs := [_, _, _, _, _]) rfl rfl fun_19 .nil (w_Holders hS hn _ _ _ _) rfl rfl ?_
      rintro vv I7 L' hI7 ⟨rfl, a7, c7, rfl, h7⟩
      have hS := hS.mono hI7
      have hT := hT.mono hI7
      refine XO_v0 (ev_move rfl) rfl rfl rfl ?_
      refine XO_v0 (ev_extract rfl rfl) rfl rfl rfl ?_
      refine XO_v0 (ev_extract rfl rfl) rfl rfl rfl ?_
      refine XO_v0 (ev_assign rfl) rfl rfl rfl ?_
      refine XO_v0 (ev_assign rfl) rfl rfl rfl ?_
      refine XO_nil ?_
      refine at_then ?_
      refine X_seq ?_
      refine X_region ?_
      refine XO_v0 (ev_move rfl) rfl rfl rfl ?_
      refine XO_v0 (ev_fieldAddr rfl fld_33_0) rfl rfl rfl ?_
      refine XO_v0 (ev_load rfl sct_3 (fun hg => by first | exact Cell.h0 rfl | exact Cell.h1 rfl | exact Cell.h2 rfl | exact Cell.h3 rfl | exact Cell.h4 rfl | exact Cell.h5 rfl)) rfl rfl rfl ?_
      refine XO_v0 (ev_fieldAddr rfl fld_33_1) rfl rfl rfl ?_
      refine XO_v0 (ev_load rfl sct_3 (fun hg => by first | exact Cell.h0 rfl | exact Cell.h1 rfl | exact Cell.h2 rfl | exact Cell.h3 rfl | exact Cell.h4 rfl | exact Cell.h5 rfl)) rfl rfl rfl ?_
      refine XO_v0 (ev_fieldAddr rfl fld_33_2) rfl rfl rfl ?_
      refine XO_v0 (ev_load rfl sct_3 (fun hg => by first | exact Cell.h0 rfl | exact Cell.h1 rfl | exact Cell.h2 rfl | exact Cell.h3 rfl | exact Cell.h4 rfl | exact Cell.h5 rfl)) rfl rfl rfl ?_
      refine XO_v0 (ev_fieldAddr rfl fld_33_3) rfl rfl rfl ?_
      refine XO_v0 (ev_load rfl sct_3 (fun hg => by first | exact Cell.h0 rfl | exact Cell.h1 rfl | exact Cell.h2 rfl | exact Cell.h3 rfl | exact Cell.h4 rfl | exact Cell.h5 rfl)) rfl rfl rfl ?_
      refine XO_callM (cap := []) (vs := [_, _, _, _, _]) rfl rfl fun_20 .nil (w_rHolders hS hn _ _ _ _) rfl rfl ?_
      rintro vv I8 L' hI8 ⟨rfl, a8, c8, rfl, h8⟩
      have hS := hS.mono hI8
      have hT := hT.mono hI8
      have h7 := h7.mono hI8
      refine XO_v0 (ev_move rfl) rfl rfl rfl ?_
      refine XO_v0 (ev_extract rfl rfl) rfl rfl rfl ?_
      refine XO_v0 (ev_extract rfl rfl) rfl rfl rfl ?_
      refine XO_v0 (ev_assign rfl) rfl rfl rfl ?_
      refine XO_v0 (ev_assign rfl) rfl rfl rfl ?_
      refine XO_nil ?_
      refine at_then ?_
      refine X_seq ?_
      refine X_region ?_
      refine XO_v0 (ev_move rfl) rfl rfl rfl ?_
      refine XO_v0 (ev_fieldAddr rfl fld_33_0) rfl rfl rfl ?_
      refine XO_v0 (ev_load rfl sct_3 (fun hg => by first | exact Cell.h0 rfl | exact Cell.h1 rfl | exact Cell.h2 rfl | exact Cell.h3 rfl | exact Cell.h4 rfl | exact Cell.h5 rfl)) rfl rfl rfl ?_
      refine XO_v0 (ev_fieldAddr rfl fld_33_6) rfl rfl rfl ?_
      refine XO_v0 (ev_load rfl sct_31 (fun hg => by first | exact Cell.h0 rfl | exact Cell.h1 rfl | exact Cell.h2 rfl | exact Cell.h3 rfl | exact Cell.h4 rfl | exact Cell.h5 rfl)) rfl rfl rfl ?_
      refine XO_v0 (ev_fieldAddr rfl fld_33_2) rfl rfl rfl ?_
      refine XO_v0 (ev_load rfl sct_3 (fun hg => by first | exact Cell.h0 rfl | exact Cell.h1 rfl | exact Cell.h2 rfl | exact Cell.h3 rfl | exact Cell.h4 rfl | exact Cell.h5 rfl)) rfl rfl rfl ?_
      refine XO_v0 (ev_fieldAddr rfl fld_33_3) rfl rfl rfl ?_
      refine XO_v0 (ev_load rfl sct_3 (fun hg => by first | exact Cell.h0 rfl | exact Cell.h1 rfl | exact Cell.h2 rfl | exact Cell.h3 rfl | exact Cell.h4 rfl | exact Cell.h5 rfl)) rfl rfl rfl ?_
      refine XO_callM (cap := []) (vs := [_, _, _, _, _]) rfl rfl fun_21 .nil (w_Allowed hS hn hT hn2 _ _ _) rfl rfl ?_
      rintro vv I9 L' hI9 ⟨rfl, a9, c9, rfl, h9⟩
      have hS := hS.mono hI9
      have hT := hT.mono hI9
      have h7 := h7.mono hI9
      have h8 := h8.mono hI9
      refine XO_v0 (ev_move rfl) rfl rfl rfl ?_
      refine XO_v0 (ev_extract rfl rfl) rfl rfl rfl ?_
      refine XO_v0 (ev_extract rfl rfl) rfl rfl rfl ?_
      refine XO_v0 (ev_extract rfl rfl) rfl rfl rfl ?_
      refine XO_v0 (ev_assign rfl) rfl rfl rfl ?_
      refine XO_v0 (ev_assign rfl) rfl rfl rfl ?_
      refine XO_v0 (ev_assign rfl) rfl rfl rfl ?_
      refine XO_nil ?_
      refine at_then ?_
      refine X_seq ?_
      refine X_region ?_
      refine XO_v0 (ev_move rfl) rfl rfl rfl ?_
      refine XO_v0 (ev_fieldAddr rfl fld_33_0) rfl rfl rfl ?_
      refine XO_v0 (ev_load rfl sct_3 (fun hg => by first | exact Cell.h0 rfl | exact Cell.h1 rfl | exact Cell.h2 rfl | exact Cell.h3 rfl | exact Cell.h4 rfl | exact Cell.h5 rfl)) rfl rfl rfl ?_
      refine XO_v0 (ev_fieldAddr rfl fld_33_6) rfl rfl rfl ?_
      refine XO_v0 (ev_load rfl sct_31 (fun hg => by first | exact Cell.h0 rfl | exact Cell.h1 rfl | exact Cell.h2 rfl | exact Cell.h3 rfl | exact Cell.h4 rfl | exact Cell.h5 rfl)) rfl rfl rfl ?_
      refine XO_v0 (ev_fieldAddr rfl fld_33_2) rfl rfl rfl ?_
      refine XO_v0 (ev_load rfl sct_3 (fun hg => by first | exact Cell.h0 rfl | exact Cell.h1 rfl | exact Cell.h2 rfl | exact Cell.h3 rfl | exact Cell.h4 rfl | exact Cell.h5 rfl)) rfl rfl rfl ?_
      refine XO_v0 (ev_fieldAddr rfl fld_33_3) rfl rfl rfl ?_
      refine XO_v0 (ev_load rfl sct_3 (fun hg => by first | exact Cell.h0 rfl | exact Cell.h1 rfl | exact Cell.h2 rfl | exact Cell.h3 rfl | exact Cell.h4 rfl | exact Cell.h5 rfl)) rfl rfl rfl ?_
      refine XO_callM (cap := []) (vs := [_, _, _, _, _]) rfl rfl fun_22 .nil (w_rAllowed hS hn hT hn2 _ _ _) rfl rfl ?_
      rintro vv I10 L' hI10 ⟨rfl, a10, c10, rfl, h10⟩
      have hS := hS.mono hI10
      have hT := hT.mono hI10
      have h7 := h7.mono hI10
      have h8 := h8.mono hI10
      have h9 := h9.mono hI10
      have hl7 := ss_len7 (xs := xs) hS.len hn6 ed sg day time
      have hl9 := ss_len9 (xs := xs) (ss := ss) hS.len hn6 hT.len hn7 ed day time
      refine XO_v0 (ev_move rfl) rfl rfl rfl ?_
      refine XO_v0 (ev_extract rfl rfl) rfl rfl rfl ?_
      refine XO_v0 (ev_extract rfl rfl) rfl rfl rfl ?_
      refine XO_v0 (ev_extract rfl rfl) rfl rfl rfl ?_
      refine XO_v0 (ev_assign rfl) rfl rfl rfl ?_
      refine XO_v0 (ev_assign rfl) rfl rfl rfl ?_
      refine XO_v0 (ev_assign rfl) rfl rfl rfl ?_
      refine XO_nil ?_
      refine at_then ?_
      refine X_seq ?_
      refine X_region ?_
      refine XO_v0 (ev_move rfl) rfl rfl rfl ?_
      refine XO_v0 (ev_move rfl) rfl rfl rfl ?_
      refine XO_v0 (ev_boolR rfl rfl und_4) rfl rfl rfl ?_
      refine XO_v0 (ev_move rfl) rfl rfl rfl ?_
      refine XO_pushT 3 rfl rfl rfl ?_
      refine XO_v1 (ev_move rfl) (.some rfl rfl rfl rfl gbt) rfl rfl rfl ?_
      refine XO_v1 (ev_move rfl) (.some rfl rfl rfl rfl gbt) rfl rfl rfl ?_
      refine XO_v1 (ev_cmp rfl rfl rfl) (.some rfl rfl rfl rfl gbt) rfl rfl rfl ?_
      refine XO_and0 rfl rfl rfl rfl rfl ?_
      refine XO_v0 (ev_move rfl) rfl rfl rfl ?_
      refine XO_pushT 8 rfl rfl rfl ?_
      refine XO_v1 (ev_move rfl) (.some rfl rfl rfl rfl gbt) rfl rfl rfl ?_
      refine XO_v1 (ev_move rfl) (.some rfl rfl rfl rfl gbt) rfl rfl rfl ?_
      refine XO_callV1 (cap := []) (vs := [_, _]) rfl rfl fun_23 (fun hg => w_sameI h7 h8 hl7) (.some rfl rfl rfl rfl gbt) rfl rfl ?_
      refine XO_and0 rfl rfl rfl rfl rfl ?_
      refine XO_v0 (ev_move rfl) rfl rfl rfl ?_
      refine XO_pushT 13 rfl rfl rfl ?_
      refine XO_v1 (ev_move rfl) (.some rfl rfl rfl rfl gbt) rfl rfl rfl ?_
      refine XO_v1 (ev_move rfl) (.some rfl rfl rfl rfl gbt) rfl rfl rfl ?_
      refine XO_v1 (ev_cmp rfl rfl rfl) (.some rfl rfl rfl rfl gbt) rfl rfl rfl ?_
      refine XO_and0 rfl rfl rfl rfl rfl ?_
      refine XO_v0 (ev_move rfl) rfl rfl rfl ?_
      refine XO_pushT 18 rfl rfl rfl ?_
      refine XO_v1 (ev_move rfl) (.some rfl rfl rfl rfl gbt) rfl rfl rfl ?_
      refine XO_v1 (ev_move rfl) (.some rfl rfl rfl rfl gbt) rfl rfl rfl ?_
      refine XO_v1 (ev_boolR rfl rfl und_4) (.some rfl rfl rfl rfl gbt) rfl rfl rfl ?_
      refine XO_and0 rfl rfl rfl rfl rfl ?_
      refine XO_v0 (ev_move rfl) rfl rfl rfl ?_
      refine XO_pushT 23 rfl rfl rfl ?_
      refine XO_v1 (ev_move rfl) (.some rfl rfl rfl rfl gbt) rfl rfl rfl ?_
      refine XO_v1 (ev_move rfl) (.some rfl rfl rfl rfl gbt) rfl rfl rfl ?_
      refine XO_callV1 (cap := []) (vs := [_, _]) rfl rfl fun_24 (fun hg => w_sameP h9 h10 hl9) (.some rfl rfl rfl rfl gbt) rfl rfl ?_
      refine XO_and0 rfl rfl rfl rfl rfl ?_
      refine XO_v0 (ev_move rfl) rfl rfl rfl ?_
      refine XO_pushT 28 rfl rfl rfl ?_
      refine XO_v1 (ev_move rfl) (.some rfl rfl rfl rfl gbt) rfl rfl rfl ?_
      refine XO_v1 (ev_move rfl) (.some rfl rfl rfl rfl gbt) rfl rfl rfl ?_
      refine XO_v1 (ev_cmp rfl rfl rfl) (.some rfl rfl rfl rfl gbt) rfl rfl rfl ?_
      refine XO_and0 rfl rfl rfl rfl rfl ?_
      refine XO_v0 (ev_assign rfl) rfl rfl rfl ?_
      refine XO_nil ?_
      refine at_then ?_
      refine X_ret ?_
      first
      | exact at_ret1 rfl rfl (fun w hw => ⟨rfl, hw.drop⟩)
      | exact at_ret1 rfl rfl (fun w hw => ⟨by rw [may_eq hx, holders_eq hx, allowed_eq hx, check_eq hx]; simp [same_self], (hw.mono (hI7.trans (hI8.trans (hI9.trans hI10)))).drop⟩)
end Go.Proofs.Ytmflfccincbnaaa
