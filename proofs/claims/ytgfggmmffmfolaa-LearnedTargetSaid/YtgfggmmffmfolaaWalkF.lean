/- Lessons: the walks, WalkF: each function comes to its Lean function. -/
import Derived.Test.YtgfggmmffmfolaaWalkE
import Derived.Test.YtgfggmmffmfolaaPlain
namespace Go.Proofs.Ytgfggmmffmfolaa
open Go Go.Kn Go.Proofs
theorem half_eq (i j : Nat) (h : i + j ≤ 1000000) : IntKind.i64.wrap ((IntKind.u64.wrap ((i : Int) + (j : Int))).fdiv (2 ^ 1)) = (((i + j) / 2 : Nat) : Int) := by
  have h1 : IntKind.u64.wrap ((i : Int) + (j : Int)) = ((i + j : Nat) : Int) := by
    rw [show ((i : Int) + (j : Int)) = ((i + j : Nat) : Int) by omega]
    unfold IntKind.wrap IntKind.signed IntKind.bits
    simp
    omega
  rw [h1, show ((2 : Int) ^ 1) = ((2 : Nat) : Int) from rfl, Int.fdiv_eq_ediv_of_nonneg _ (by omega), ← Int.natCast_ediv]
  exact wrap_in ⟨by omega, by omega⟩
theorem cmp_lt {x y : Int} : decide (cmpF x y < 0) = decide (x < y) := by
  unfold cmpF
  by_cases h : x < y
  · rw [if_pos h]; simp [h]
  · rw [if_neg h]; split <;> simp [h]
theorem cmp_eq {x y : Int} : (cmpF x y == 0) = (x == y) := by
  unfold cmpF
  by_cases h : x < y
  · rw [if_pos h]; have : x ≠ y := by omega
    simp [this]
  · rw [if_neg h]
    by_cases h2 : x > y
    · rw [if_pos h2]; have : x ≠ y := by omega
      simp [this]
    · rw [if_neg h2]; have : x = y := by omega
      simp [this]
theorem bs_low {xs : List Ls} (hc : ckB xs = true) {no : Int} {h : Nat} {y : Ls} (hy : xs[h]? = some y) (hlt : y.no < no) : (xs.take (h + 1)).all (fun y => decide (y.no < no)) = true := by
  rw [List.all_eq_true]
  intro z hz
  obtain ⟨q, hq⟩ := List.getElem?_of_mem hz
  have hq1 : q < h + 1 := by have := (List.getElem?_eq_some_iff.1 hq).1; rw [List.length_take] at this; omega
  rw [List.getElem?_take_of_lt hq1] at hq
  obtain ⟨h1, h2⟩ := List.getElem?_eq_some_iff.1 hq
  obtain ⟨h3, h4⟩ := List.getElem?_eq_some_iff.1 hy
  by_cases e : q = h
  · subst e; rw [hy] at hq; cases hq; simpa using hlt
  · have := List.pairwise_iff_getElem.1 (ckB_sorted hc) q h h1 h3 (by omega)
    rw [h2, h4] at this
    simp; omega
theorem bs_high {xs : List Ls} (hc : ckB xs = true) {no : Int} {h : Nat} {y : Ls} (hy : xs[h]? = some y) (hlt : ¬ y.no < no) : ∀ q z, h ≤ q → xs[q]? = some z → ¬ z.no < no := fun q z hq hz => by
  obtain ⟨h1, h2⟩ := List.getElem?_eq_some_iff.1 hz
  obtain ⟨h3, h4⟩ := List.getElem?_eq_some_iff.1 hy
  by_cases e : q = h
  · subst e; rw [hy] at hz; cases hz; exact hlt
  · have := List.pairwise_iff_getElem.1 (ckB_sorted hc) h q h3 h1 (by omega)
    rw [h2, h4] at this
    omega
def lowI (xs : List Ls) (no : Int) : Nat := (xs.takeWhile (fun y => decide (y.no < no))).length
theorem low_eq {xs : List Ls} {no : Int} {i n : Nat} (hl : xs.length = n) (hi : i ≤ n) (h : (xs.take i).all (fun y => decide (y.no < no)) = true) (h2 : ∀ q z, i ≤ q → xs[q]? = some z → ¬ z.no < no) : lowI xs no = i := by
  unfold lowI
  rw [(tw_eq h (by omega) (fun y hy => decide_eq_false (h2 i y (Nat.le_refl _) hy))).1, List.length_take]; omega
theorem low_found {xs : List Ls} (hc : ckB xs = true) {no : Int} {i n : Nat} (hl : xs.length = n) (h : (xs.take i).all (fun y => decide (y.no < no)) = true) (h2 : ∀ q z, i ≤ q → xs[q]? = some z → ¬ z.no < no) :
    (decide ((i : Int) < (n : Int)) && (cmpF (xs.getD i zeroL).no no == 0)) = xs.any (fun y => y.no == no) := by
  rw [cmp_eq]
  by_cases hi : i < n
  · have hy := some_getD (d := zeroL) hl hi
    by_cases e : (xs.getD i zeroL).no = no
    · rw [show decide ((i : Int) < (n : Int)) = true from decide_eq_true (by omega), Bool.true_and, show ((xs.getD i zeroL).no == no) = true by simpa using e]
      exact (List.any_eq_true.2 ⟨_, List.mem_of_getElem? hy, by simpa using e⟩).symm
    · rw [beq_false_of_ne e, Bool.and_false]
      refine ((add_miss (x := ⟨no, 0, 0, 0, 0⟩) hc h fun y hy2 => ?_)).symm
      rw [hy] at hy2; cases hy2
      have := h2 i _ (Nat.le_refl _) hy
      show no < _
      omega
  · rw [show decide ((i : Int) < (n : Int)) = false from decide_eq_false (by omega), Bool.false_and]
    exact (add_miss (x := ⟨no, 0, 0, 0, 0⟩) hc h fun y hy2 => by have := (List.getElem?_eq_some_iff.1 hy2).1; omega).symm

theorem w_search {I : HMap} {av : Option Addr} {n c : Nat} {xs : List Ls} (hS : Sl I 5 encL av n c xs) (hn : n ≤ 100000) (hck : ckB xs = true) (no : Int) : RetV Try.prog 26 [.slice av n c, .int .i64 no, .func (.func 27) #[] #[]] I (.tuple #[.int .i64 (lowI xs no : Nat), .bool (xs.any (fun y => y.no == no))]) := by
  intro g H w hw
  refine enter Try.func26 rfl Try.ntmps26 rfl hw ?_
  refine X_seq ?_
  refine X_region ?_
  refine XO_v0 (ev_assign rfl) rfl rfl rfl ?_
  refine XO_v0 (ev_assign rfl) rfl rfl rfl ?_
  refine XO_nil ?_
  refine at_then ?_
  refine X_seq ?_
  refine X_region ?_
  refine XO_v0 (ev_move rfl) rfl rfl rfl ?_
  refine XO_v0 (ev_lenS rfl slt_22) rfl rfl rfl ?_
  refine XO_v0 (ev_assign rfl) rfl rfl rfl ?_
  refine XO_nil ?_
  refine at_then ?_
  refine X_seq ?_
  refine X_region ?_
  refine XO_v0 (ev_move rfl) rfl rfl rfl ?_
  refine XO_v0 (ev_assign rfl) rfl rfl rfl ?_
  refine XO_v0 (ev_assign rfl) rfl rfl rfl ?_
  refine XO_nil ?_
  refine at_then ?_
  refine X_seq ?_
  refine X_block ?_
  refine X_loopT [(0, _), (1, _), (2, _), (8, _)] (.cons rfl (.cons rfl (.cons rfl (.cons rfl .nil)))) (fun T L0 mz E I' loc' => ∃ (i j : Nat), mz = j - i ∧ E = (9, .int .i64 i) :: (10, .int .i64 j) :: T ∧ I = I' ∧ L0 = loc' ∧ i ≤ j ∧ j ≤ n ∧ (xs.take i).all (fun y => decide (y.no < no)) = true ∧ ∀ q z, j ≤ q → xs[q]? = some z → ¬ z.no < no) _ _ _ _ ⟨0, n, rfl, rfl, rfl, rfl, Nat.zero_le _, Nat.le_refl _, rfl, fun q z h1 h2 => by have := (List.getElem?_eq_some_iff.1 h2).1; rw [hS.len] at this; omega⟩ (.cons rfl (.cons rfl (.cons rfl (.cons rfl (.cons rfl (.cons rfl .nil)))))) (HLe.refl _) rfl ?_
  rintro mz E I' loc' ⟨i, j, rfl, rfl, rfl, rfl, hij, hjn, hlo, hhi⟩
  refine X_seq ?_
  refine X_seq ?_
  refine X_region ?_
  refine XO_v0 (ev_move rfl) rfl rfl rfl ?_
  refine XO_v0 (ev_move rfl) rfl rfl rfl ?_
  refine XO_v0 (ev_cmp rfl rfl rfl) rfl rfl rfl ?_
  refine XO_nil ?_
  refine at_then ?_
  refine X_cond rfl (fun hc17 => ?_) (fun hc17 => ?_)
  · skip
    have hlt : i < j := by have h := hc17; simp at h; omega
    obtain ⟨y, hy⟩ := hS.at (k := (i + j) / 2) (by omega)
    refine X_skip ?_
    refine at_then ?_
    refine X_block ?_
    refine X_seq ?_
    refine X_region ?_
    refine XO_v0 (ev_move rfl) rfl rfl rfl ?_
    refine XO_v0 (ev_move rfl) rfl rfl rfl ?_
    refine XO_v0 (ev_arB rfl rfl rfl (fun _ => by omega)) rfl rfl rfl ?_
    refine XO_v0 (ev_convI rfl cvt_3_69) rfl rfl rfl ?_
    refine XO_v0 (ev_shr rfl rfl (by decide) (rfl : min _ _ = 1)) rfl rfl rfl ?_
    refine XO_v0 (ev_convI rfl cvt_69_3) rfl rfl rfl ?_
    refine XO_v0 (ev_assign rfl) rfl rfl rfl ?_
    refine XO_nil ?_
    rw [half_eq i j (by omega)]
    refine at_then ?_
    refine X_seq ?_
    refine X_region ?_
    refine XO_v0 (ev_move rfl) rfl rfl rfl ?_
    refine XO_v0 (ev_move rfl) rfl rfl rfl ?_
    refine XO_v0 (ev_move rfl) rfl rfl rfl ?_
    refine XO_v0 (ev_indexSl rfl rfl slt_22 (by assumption) (fun hg => by first | omega | (simp [conj] at hg; omega))) rfl rfl rfl ?_
    refine XO_v0 (ev_loadA rfl agt_24 (fun hg => by first | exact Sl.getA (k := (i + j) / 2) hS hy | exact Sl.getA (k := i) hS (some_getD (d := zeroL) hS.len (by simp [conj] at hg; omega)) | exact Sl.getA (k := j) hS (some_getD (d := zeroL) hS.len (by simp [conj] at hg; omega)) | exact Cells.g0 | exact Cells.g1 | exact Cells.g2 | exact Cells.g3 | exact Cells.g4 | exact Cells.g5 | (repeat (first | exact Cells.here | apply Cells.there | apply Cells.app))) rfl) rfl rfl rfl ?_
    refine XO_v0 (ev_move rfl) rfl rfl rfl ?_
    refine XO_callV0 (cap := []) (vs := [_, _]) rfl rfl fun_27 (w_addc I _ _) rfl rfl ?_
    refine XO_v0 (ev_cmp rfl rfl rfl) rfl rfl rfl ?_
    refine XO_nil ?_
    refine at_then ?_
    refine X_cond rfl (fun hc31 => ?_) (fun hc31 => ?_)
    · skip
      refine X_region ?_
      refine XO_v0 (ev_move rfl) rfl rfl rfl ?_
      refine XO_v0 (ev_arB rfl rfl rfl (fun _ => by omega)) rfl rfl rfl ?_
      refine XO_v0 (ev_assign rfl) rfl rfl rfl ?_
      refine XO_nil ?_
      refine at_block_n ?_
      first
      | exact at_met2 _ _ ⟨j - ((i + j) / 2 + 1), by omega, (i + j) / 2 + 1, j, rfl, rfl, rfl, rfl, by omega, hjn, bs_low hck hy (by rw [cmp_lt] at hc31; simpa using hc31), hhi⟩ (.cons rfl (.cons rfl (.cons rfl (.cons rfl (.cons rfl (.cons rfl .nil)))))) (by repeat (first | exact .refl | exact subL_left | refine subL_app ?_ | refine .drop ?_ | refine subL_add ?_))
      | exact at_met2 _ _ ⟨(i + j) / 2 - i, by omega, i, (i + j) / 2, rfl, rfl, rfl, rfl, by omega, by omega, hlo, bs_high hck hy (by rw [cmp_lt] at hc31; simpa using hc31)⟩ (.cons rfl (.cons rfl (.cons rfl (.cons rfl (.cons rfl (.cons rfl .nil)))))) (by repeat (first | exact .refl | exact subL_left | refine subL_app ?_ | refine .drop ?_ | refine subL_add ?_))
    · skip
      refine X_region ?_
      refine XO_v0 (ev_move rfl) rfl rfl rfl ?_
      refine XO_v0 (ev_assign rfl) rfl rfl rfl ?_
      refine XO_nil ?_
      refine at_block_n ?_
      first
      | exact at_met2 _ _ ⟨j - ((i + j) / 2 + 1), by omega, (i + j) / 2 + 1, j, rfl, rfl, rfl, rfl, by omega, hjn, bs_low hck hy (by rw [cmp_lt] at hc31; simpa using hc31), hhi⟩ (.cons rfl (.cons rfl (.cons rfl (.cons rfl (.cons rfl (.cons rfl .nil)))))) (by repeat (first | exact .refl | exact subL_left | refine subL_app ?_ | refine .drop ?_ | refine subL_add ?_))
      | exact at_met2 _ _ ⟨(i + j) / 2 - i, by omega, i, (i + j) / 2, rfl, rfl, rfl, rfl, by omega, by omega, hlo, bs_high hck hy (by rw [cmp_lt] at hc31; simpa using hc31)⟩ (.cons rfl (.cons rfl (.cons rfl (.cons rfl (.cons rfl (.cons rfl .nil)))))) (by repeat (first | exact .refl | exact subL_left | refine subL_app ?_ | refine .drop ?_ | refine subL_add ?_))
  · skip
    have hge : j ≤ i := by have h := hc17; simp at h; omega
    have hje : j = i := by omega
    subst hje
    refine X_exit ?_
    refine at_then_e ?_
    refine at_then_e ?_
    refine at_block_hit ?_
    refine at_then ?_
    refine X_seq ?_
    refine X_region ?_
    refine XO_v0 (ev_move rfl) rfl rfl rfl ?_
    refine XO_v0 (ev_move rfl) rfl rfl rfl ?_
    refine XO_v0 (ev_move rfl) rfl rfl rfl ?_
    refine XO_v0 (ev_cmp rfl rfl rfl) rfl rfl rfl ?_
    refine XO_v0 (ev_move rfl) rfl rfl rfl ?_
    refine XO_pushT 4 rfl rfl rfl ?_
    refine XO_v1 (ev_move rfl) (.some rfl rfl rfl rfl gbt) rfl rfl rfl ?_
    refine XO_v1 (ev_move rfl) (.some rfl rfl rfl rfl gbt) rfl rfl rfl ?_
    refine XO_v1 (ev_move rfl) (.some rfl rfl rfl rfl gbt) rfl rfl rfl ?_
    refine XO_v1 (ev_indexSl rfl rfl slt_22 (by assumption) (fun hg => by first | omega | (simp [conj] at hg; omega))) (.some rfl rfl rfl rfl gbt) rfl rfl rfl ?_
    refine XO_v1 (ev_loadA rfl agt_24 (fun hg => by first | exact Sl.getA (k := (i + j) / 2) hS hy | exact Sl.getA (k := i) hS (some_getD (d := zeroL) hS.len (by simp [conj] at hg; omega)) | exact Sl.getA (k := j) hS (some_getD (d := zeroL) hS.len (by simp [conj] at hg; omega)) | exact Cells.g0 | exact Cells.g1 | exact Cells.g2 | exact Cells.g3 | exact Cells.g4 | exact Cells.g5 | (repeat (first | exact Cells.here | apply Cells.there | apply Cells.app))) rfl) (.some rfl rfl rfl rfl gbt) rfl rfl rfl ?_
    refine XO_v1 (ev_move rfl) (.some rfl rfl rfl rfl gbt) rfl rfl rfl ?_
    refine XO_callV1 (cap := []) (vs := [_, _]) rfl rfl fun_27 (fun hg => w_addc I _ _) (.some rfl rfl rfl rfl gbt) rfl rfl ?_
    refine XO_v1 (ev_cmp rfl rfl rfl) (.some rfl rfl rfl rfl gbt) rfl rfl rfl ?_
    refine XO_and0 rfl rfl rfl rfl rfl ?_
    refine XO_v0 (ev_assign rfl) rfl rfl rfl ?_
    refine XO_v0 (ev_assign rfl) rfl rfl rfl ?_
    refine XO_nil ?_
    refine at_then ?_
    refine X_ret ?_
    exact at_ret2 rfl rfl rfl (fun w hw => ⟨by rw [low_found hck hS.len hlo hhi, low_eq hS.len hjn hlo hhi], hw.drop⟩)

theorem half_lt {i j : Nat} (h : i < j) : (i + j) / 2 < j := by omega
theorem split3 {zs : List Value} {a b : Nat} (h : a + b ≤ zs.length) : ∃ p q r, zs = p ++ (q ++ r) ∧ p.length = a ∧ q.length = b :=
  ⟨zs.take a, (zs.drop a).take b, (zs.drop a).drop b, by rw [List.take_append_drop, List.take_append_drop], by rw [List.length_take]; omega, by rw [List.length_take, List.length_drop]; omega⟩
theorem lenL (xs : List Ls) : (xs.flatMap encL).length = xs.length * 5 := flat_len encL_len xs
theorem own_row {b n c : Nat} {xs : List Ls} {cur rest : List Value} (hl : xs.length = n) (hn : n ≤ c) (hc : c ≤ maxLen) (hcur : cur = xs.flatMap encL ++ rest) (hs : cur.length = c * 5) : OwnS 24 5 (.slice (some ⟨b, 0, none⟩) n c) n (xs.flatMap encL) [(b, .cells cur.toArray 24 (0, 0))] := by
  subst hcur
  refine ⟨by rw [lenL, hl], .inr ⟨b, c, _, rfl, rfl, hn, hc, by simpa using hs, ?_⟩⟩
  rw [List.take_left' (by rw [lenL, hl])]

theorem w_ins_end {I : HMap} {av : Option Addr} {n c : Nat} {xs : List Ls} {L : Go.Kn.Loc} (hO : OwnS 24 5 (.slice av n c) n (xs.flatMap encL) L) (hn : n ≤ 100000) (hl : xs.length = n) (b2 : Nat) (y : Ls) : RetM Try.prog 29 [.slice av n c, .int .i64 n, .slice (some ⟨b2, 0, none⟩) 1 1] I (L ++ [(b2, .cells [encL y].flatten.toArray 24 (0, 0))]) (fun v' I' L' => I' = I ∧ OwnS 24 5 v' (n + 1) ((xs.take n ++ y :: xs.drop n).flatMap encL) L') := by
  intro g H w hw
  refine enter Try.func29 rfl Try.ntmps29 rfl hw ?_
  refine X_seq ?_
  refine X_region ?_
  refine XO_v0 (ev_assign rfl) rfl rfl rfl ?_
  refine XO_nil ?_
  refine at_then ?_
  refine X_seq ?_
  refine X_region ?_
  refine XO_v0 (ev_move rfl) rfl rfl rfl ?_
  refine XO_v0 (ev_move rfl) rfl rfl rfl ?_
  refine XO_v0 (ev_sliceLo rfl rfl slt_22 (fun hg => by omega)) rfl rfl rfl ?_
  refine XO_nil ?_
  refine at_then ?_
  refine X_seq ?_
  refine X_region ?_
  refine XO_v0 (ev_move rfl) rfl rfl rfl ?_
  refine XO_v0 (ev_lenS rfl slt_22) rfl rfl rfl ?_
  refine XO_v0 (ev_assign rfl) rfl rfl rfl ?_
  refine XO_nil ?_
  refine at_then ?_
  refine X_seq ?_
  refine X_seq ?_
  refine X_region ?_
  refine XO_v0 (ev_move rfl) rfl rfl rfl ?_
  refine XO_v0 (ev_cmp rfl rfl rfl) rfl rfl rfl ?_
  refine XO_nil ?_
  refine at_then ?_
  refine X_cond rfl (fun hc16 => ?_) (fun hc16 => ?_)
  · skip
    exact absurd hc16 (by decide)
  · skip
    refine X_skip ?_
    refine at_then ?_
    refine X_seq ?_
    refine X_region ?_
    refine XO_v0 (ev_move rfl) rfl rfl rfl ?_
    refine XO_v0 (ev_lenS rfl slt_22) rfl rfl rfl ?_
    refine XO_v0 (ev_assign rfl) rfl rfl rfl ?_
    refine XO_nil ?_
    refine at_then ?_
    refine X_seq ?_
    refine X_seq ?_
    refine X_region ?_
    refine XO_v0 (ev_move rfl) rfl rfl rfl ?_
    refine XO_v0 (ev_move rfl) rfl rfl rfl ?_
    refine XO_v0 (ev_cmp rfl rfl rfl) rfl rfl rfl ?_
    refine XO_nil ?_
    refine at_then ?_
    refine X_cond rfl (fun hc22 => ?_) (fun hc22 => ?_)
    · skip
      refine X_seq ?_
      refine X_region ?_
      refine XO_v0 (ev_move rfl) rfl rfl rfl ?_
      refine XO_v0 (ev_move rfl) rfl rfl rfl ?_
      refine XO_append (v := _) (ys := [encL y].flatten) (L := L) rfl rfl elt_22 hO (by repeat (first | exact .cons .here .nil | exact split_all | exact split_app | apply split_cons | apply split_skip)) ⟨rfl, fun _ => rfl, .app Cells.here⟩ rfl (by omega) rfl rfl ?_
      intro v' L' hO' _
      refine XO_v0 (ev_assign rfl) rfl rfl rfl ?_
      refine XO_nil ?_
      refine at_then ?_
      refine X_ret ?_
      refine at_then_r ?_
      exact at_ret1 rfl rfl (fun w hw => ⟨_, I, _, rfl, HLe.refl _, hw.subL subL_left, rfl, by rw [List.take_of_length_le (by omega), List.drop_eq_nil_of_le (by omega)]; simpa [List.flatMap_append] using hO'⟩)
    · skip
      exact absurd hc22 (by simp)

theorem w_ins_in {I : HMap} {b n c i : Nat} {xs : List Ls} {R : List Value} (hl : xs.length = n) (hi : i < n) (hn : n ≤ 100000) (hnc : n ≤ c) (hcm : c ≤ maxLen) (hR : (((xs.take i).flatMap encL) ++ ((xs.drop i).flatMap encL) ++ R).length = c * 5) (b2 : Nat) (hne : b2 ≠ b) (y : Ls) : RetM Try.prog 29 [.slice (some ⟨b, 0, none⟩) n c, .int .i64 i, .slice (some ⟨b2, 0, none⟩) 1 1] I ([(b, .cells (((xs.take i).flatMap encL) ++ ((xs.drop i).flatMap encL) ++ R).toArray 24 (0, 0)), (b2, .cells [encL y].flatten.toArray 24 (0, 0))]) (fun v' I' L' => I' = I ∧ OwnS 24 5 v' (n + 1) ((xs.take i ++ y :: xs.drop i).flatMap encL) L') := by
  intro g H w hw
  refine enter Try.func29 rfl Try.ntmps29 rfl hw ?_
  have hA : ((xs.take i).flatMap encL).length = i * 5 := by rw [lenL, List.length_take]; omega
  have hB : ((xs.drop i).flatMap encL).length = (n - i) * 5 := by rw [lenL, List.length_drop]; omega
  refine X_seq ?_
  refine X_region ?_
  refine XO_v0 (ev_assign rfl) rfl rfl rfl ?_
  refine XO_nil ?_
  refine at_then ?_
  refine X_seq ?_
  refine X_region ?_
  refine XO_v0 (ev_move rfl) rfl rfl rfl ?_
  refine XO_v0 (ev_move rfl) rfl rfl rfl ?_
  refine XO_v0 (ev_sliceLoB rfl rfl slt_22 (by omega)) rfl rfl rfl ?_
  refine XO_nil ?_
  refine at_then ?_
  refine X_seq ?_
  refine X_region ?_
  refine XO_v0 (ev_move rfl) rfl rfl rfl ?_
  refine XO_v0 (ev_lenS rfl slt_22) rfl rfl rfl ?_
  refine XO_v0 (ev_assign rfl) rfl rfl rfl ?_
  refine XO_nil ?_
  refine at_then ?_
  refine X_seq ?_
  refine X_seq ?_
  refine X_region ?_
  refine XO_v0 (ev_move rfl) rfl rfl rfl ?_
  refine XO_v0 (ev_cmp rfl rfl rfl) rfl rfl rfl ?_
  refine XO_nil ?_
  refine at_then ?_
  refine X_cond rfl (fun hc16 => ?_) (fun hc16 => ?_)
  · skip
    exact absurd hc16 (by decide)
  · skip
    refine X_skip ?_
    refine at_then ?_
    refine X_seq ?_
    refine X_region ?_
    refine XO_v0 (ev_move rfl) rfl rfl rfl ?_
    refine XO_v0 (ev_lenS rfl slt_22) rfl rfl rfl ?_
    refine XO_v0 (ev_assign rfl) rfl rfl rfl ?_
    refine XO_nil ?_
    refine at_then ?_
    refine X_seq ?_
    refine X_seq ?_
    refine X_region ?_
    refine XO_v0 (ev_move rfl) rfl rfl rfl ?_
    refine XO_v0 (ev_move rfl) rfl rfl rfl ?_
    refine XO_v0 (ev_cmp rfl rfl rfl) rfl rfl rfl ?_
    refine XO_nil ?_
    refine at_then ?_
    refine X_cond rfl (fun hc22 => ?_) (fun hc22 => ?_)
    · skip
      have h := hc22; simp at h; omega
    · skip
      refine X_skip ?_
      refine at_then ?_
      refine X_seq ?_
      refine X_seq ?_
      refine X_region ?_
      refine XO_v0 (ev_move rfl) rfl rfl rfl ?_
      refine XO_v0 (ev_move rfl) rfl rfl rfl ?_
      refine XO_v0 (ev_arB rfl rfl rfl (fun _ => by omega)) rfl rfl rfl ?_
      refine XO_v0 (ev_move rfl) rfl rfl rfl ?_
      refine XO_v0 (ev_cap rfl slt_22) rfl rfl rfl ?_
      refine XO_v0 (ev_cmp rfl rfl rfl) rfl rfl rfl ?_
      refine XO_nil ?_
      refine at_then ?_
      refine X_cond rfl (fun hc31 => ?_) (fun hc31 => ?_)
      · skip
        have hgr : c < n + 1 := by have h := hc31; simp at h; omega
        refine X_seq ?_
        refine X_region ?_
        refine XO_v0 (ev_move rfl) rfl rfl rfl ?_
        refine XO_v0 (ev_move rfl) rfl rfl rfl ?_
        refine XO_v0 (ev_sliceHi rfl rfl slt_22 (fun hg => by omega)) rfl rfl rfl ?_
        refine XO_v0 (ev_move rfl) rfl rfl rfl ?_
        refine XO_v0 (ev_move rfl) rfl rfl rfl ?_
        refine XO_v0 (ev_arB rfl rfl rfl (fun _ => by omega)) rfl rfl rfl ?_
        refine XO_v0 (ev_move rfl) rfl rfl rfl ?_
        refine XO_v0 (ev_arB rfl rfl rfl (fun _ => by omega)) rfl rfl rfl ?_
        refine XO_appendZ (ys := ((xs.take i).flatMap encL)) rfl rfl elt_22 und_3 (by omega) (by decide) (by omega) hA (Cells.part (pre := []) (post := ((xs.drop i).flatMap encL) ++ R) (by rw [List.nil_append, ← List.append_assoc]; exact .here) rfl) (by omega) rfl rfl (fun b3 c3 zs hc3 hm3 hz3 => ?_)
        obtain ⟨z1, z2, z3, rfl, hz1, hz2⟩ := split3 (zs := zs) (a := 5) (b := (n - i) * 5) (by rw [List.length_append, hA] at hz3; omega)
        refine XO_v0 (ev_assign rfl) rfl rfl rfl ?_
        refine XO_nil ?_
        refine at_then ?_
        refine X_seq ?_
        refine X_region ?_
        refine XO_v0 (ev_move rfl) rfl rfl rfl ?_
        refine XO_v0 (ev_move rfl) rfl rfl rfl ?_
        refine XO_v0 (ev_sliceLoB rfl rfl slt_22 (by omega)) rfl rfl rfl ?_
        refine XO_v0 (ev_move rfl) rfl rfl rfl ?_
        refine XO_copy (pre := ((xs.take i).flatMap encL)) (old := z1) (post := z2 ++ z3) (vs := [encL y].flatten) (cur' := (((xs.take i).flatMap encL) ++ [encL y].flatten ++ (z2 ++ z3)).toArray) (by rw [List.append_assoc]) rfl rfl rfl slt_22 (by show 5 = _; simp only [Nat.min_def]; split <;> omega) (by rw [hz1]; rfl) (by omega) (fun _ => rfl) (.there (.there .here)) rfl rfl rfl .here ?_
        refine XO_nil ?_
        refine at_then ?_
        refine X_seq ?_
        have hD := HLe.refl I
        refine X_noP ?_
        refine X_drawS I [] mixed ?_
        refine XD_take 0 rfl (ev_move rfl) (.none rfl) rfl rfl rfl (by kernel_rfl) (by kernel_rfl) (by kernel_rfl) noP_ok hD (by repeat (first | exact .refl | exact subL_nil | refine .drop ?_ | refine subL_add ?_)) ?_
        refine XD_take 1 rfl (ev_move rfl) (.none rfl) rfl rfl rfl (by kernel_rfl) (by kernel_rfl) (by kernel_rfl) noP_ok hD (by repeat (first | exact .refl | exact subL_nil | refine .drop ?_ | refine subL_add ?_)) ?_
        refine XD_take 2 rfl (ev_move rfl) (.none rfl) rfl rfl rfl (by kernel_rfl) (by kernel_rfl) (by kernel_rfl) noP_ok hD (by repeat (first | exact .refl | exact subL_nil | refine .drop ?_ | refine subL_add ?_)) ?_
        refine XD_take 3 rfl (ev_arB rfl rfl rfl (fun _ => by omega)) (.none rfl) rfl rfl rfl (by kernel_rfl) (by kernel_rfl) (by kernel_rfl) noP_ok hD (by repeat (first | exact .refl | exact subL_nil | refine .drop ?_ | refine subL_add ?_)) ?_
        refine XD_take 4 rfl (ev_sliceLoB rfl rfl slt_22 (by omega)) (.none rfl) rfl rfl rfl (by kernel_rfl) (by kernel_rfl) (by kernel_rfl) noP_ok hD (by repeat (first | exact .refl | exact subL_nil | refine .drop ?_ | refine subL_add ?_)) ?_
        refine XD_take 5 rfl (ev_move rfl) (.none rfl) rfl rfl rfl (by kernel_rfl) (by kernel_rfl) (by kernel_rfl) noP_ok hD (by repeat (first | exact .refl | exact subL_nil | refine .drop ?_ | refine subL_add ?_)) ?_
        refine XD_take 6 rfl (ev_move rfl) (.none rfl) rfl rfl rfl (by kernel_rfl) (by kernel_rfl) (by kernel_rfl) noP_ok hD (by repeat (first | exact .refl | exact subL_nil | refine .drop ?_ | refine subL_add ?_)) ?_
        refine XD_take 7 rfl (ev_sliceLoB rfl rfl slt_22 (by omega)) (.none rfl) rfl rfl rfl (by kernel_rfl) (by kernel_rfl) (by kernel_rfl) noP_ok hD (by repeat (first | exact .refl | exact subL_nil | refine .drop ?_ | refine subL_add ?_)) ?_
        refine XD_one 8 rfl (by kernel_rfl) ?_
        refine XO_copy (pre := ((xs.take i).flatMap encL) ++ [encL y].flatten) (old := z2) (post := z3) (vs := ((xs.drop i).flatMap encL)) (cur' := (((xs.take i).flatMap encL) ++ [encL y].flatten ++ ((xs.drop i).flatMap encL) ++ z3).toArray) (by rw [List.append_assoc, List.append_assoc, List.append_assoc]) rfl rfl rfl slt_22 (by rw [hB]; simp only [Nat.min_def]; split <;> omega) (by rw [hz2, hB]) (by rw [List.length_append, hA]; show i * 5 + 5 = _; omega) (fun _ => rfl) (.there (Cells.part (pre := ((xs.take i).flatMap encL)) (post := R) .here (by show 0 + _ = _; rw [hA]; omega))) (one_L _) rfl rfl .here ?_
        refine XO_nil ?_
        refine at_D hD (by repeat (first | exact .refl | exact subL_nil | refine .drop ?_ | refine subL_add ?_)) ?_
        refine XD_done (by kernel_rfl) ?_
        refine at_noP ?_
        refine at_then ?_
        refine X_seq ?_
        refine X_region ?_
        refine XO_v0 (ev_move rfl) rfl rfl rfl ?_
        refine XO_v0 (ev_assign rfl) rfl rfl rfl ?_
        refine XO_nil ?_
        refine at_then ?_
        refine X_ret ?_
        refine at_then_r ?_
        first
        | exact at_ret1 rfl rfl (fun w hw => ⟨_, I, _, rfl, HLe.refl _, hw.subL (.keep subL_nil), rfl, by rw [show (i : Int).toNat + ((n : Int) + ((1 : Nat) : Int) - (i : Int)).toNat = n + 1 by omega]; exact own_row (rest := z3) (by simp [hl]; omega) (by omega) hm3 (by simp [List.flatMap_append, List.flatMap_cons]) (by simp only [List.length_append, hA, hB, hz1, hz2] at hz3 ⊢; show _ + 5 + _ + _ = _; omega)⟩)
        | exact at_ret1 rfl rfl (fun w hw => ⟨_, I, _, rfl, HLe.refl _, hw.subL (.keep subL_nil), rfl, by rw [show ((n : Int) + ((1 : Nat) : Int)).toNat = n + 1 by omega]; exact own_row (rest := R2) (by simp [hl]; omega) hgr hcm (by simp [List.flatMap_append, List.flatMap_cons]) (by simp only [List.length_append, hA, hB, hr5] at hR ⊢; show _ + 5 + _ = _; omega)⟩)
      · skip
        have hgr : n + 1 ≤ c := by have h := hc31; simp at h; omega
        refine X_skip ?_
        refine at_then ?_
        refine X_seq ?_
        obtain ⟨r5, R2, rfl, hr5⟩ : ∃ r5 R2, R = r5 ++ R2 ∧ r5.length = 5 := ⟨R.take 5, R.drop 5, by rw [List.take_append_drop], by rw [List.length_take]; simp only [List.length_append, hA, hB] at hR; omega⟩
        obtain ⟨p1, p2, hpp, hp1, hp2⟩ : ∃ p1 p2, ((xs.drop i).flatMap encL) ++ r5 = p1 ++ p2 ∧ p1.length = 5 ∧ p2.length = (n - i) * 5 := ⟨(((xs.drop i).flatMap encL) ++ r5).take 5, (((xs.drop i).flatMap encL) ++ r5).drop 5, by rw [List.take_append_drop], by rw [List.length_take, List.length_append, hB, hr5]; omega, by rw [List.length_drop, List.length_append, hB, hr5]; omega⟩
        have hcur : (((xs.take i).flatMap encL) ++ ((xs.drop i).flatMap encL) ++ (r5 ++ R2)).toArray = (((xs.take i).flatMap encL) ++ p1 ++ p2 ++ R2).toArray := by rw [List.append_assoc (((xs.take i).flatMap encL) ++ p1), List.append_assoc ((xs.take i).flatMap encL) p1, ← List.append_assoc p1, ← hpp]; simp only [List.append_assoc]
        refine X_region ?_
        refine XO_v0 (ev_move rfl) rfl rfl rfl ?_
        refine XO_v0 (ev_move rfl) rfl rfl rfl ?_
        refine XO_v0 (ev_move rfl) rfl rfl rfl ?_
        refine XO_v0 (ev_arB rfl rfl rfl (fun _ => by omega)) rfl rfl rfl ?_
        refine XO_v0 (ev_sliceHi rfl rfl slt_22 (fun hg => by omega)) rfl rfl rfl ?_
        refine XO_v0 (ev_assign rfl) rfl rfl rfl ?_
        refine XO_nil ?_
        refine at_then ?_
        refine X_seq ?_
        refine X_seq ?_
        refine X_region ?_
        refine XO_v0 (ev_move rfl) rfl rfl rfl ?_
        refine XO_v0 (ev_move rfl) rfl rfl rfl ?_
        refine XO_v0 (ev_move rfl) rfl rfl rfl ?_
        refine XO_v0 (ev_move rfl) rfl rfl rfl ?_
        refine XO_v0 (ev_arB rfl rfl rfl (fun _ => by omega)) rfl rfl rfl ?_
        refine XO_v0 (ev_sliceLoB rfl rfl slt_22 (by omega)) rfl rfl rfl ?_
        refine XO_overlaps rfl rfl rfl Try.func49 (by kernel_rfl) (by kernel_rfl) (by kernel_rfl) (by kernel_rfl : Extern.find Try.f49 = some (Extern.SlicesOverlaps.overlaps #[22, 22] #[4])) slt_22 hne (List.mem_cons_of_mem _ (List.mem_cons_self ..)) (List.mem_cons_self ..) (by rw [List.size_toArray, hR]; omega) rfl rfl ?_
        refine XO_v0 (ev_not rfl) rfl rfl rfl ?_
        refine XO_nil ?_
        refine at_then ?_
        refine X_cond rfl (fun hc68 => ?_) (fun hc68 => ?_)
        · skip
          refine X_seq ?_
          have hD := HLe.refl I
          refine X_noP ?_
          refine X_drawS I [] mixed ?_
          refine XD_take 0 rfl (ev_move rfl) (.none rfl) rfl rfl rfl (by kernel_rfl) (by kernel_rfl) (by kernel_rfl) noP_ok hD (by repeat (first | exact .refl | exact subL_nil | refine .drop ?_ | refine subL_add ?_)) ?_
          refine XD_take 1 rfl (ev_move rfl) (.none rfl) rfl rfl rfl (by kernel_rfl) (by kernel_rfl) (by kernel_rfl) noP_ok hD (by repeat (first | exact .refl | exact subL_nil | refine .drop ?_ | refine subL_add ?_)) ?_
          refine XD_take 2 rfl (ev_move rfl) (.none rfl) rfl rfl rfl (by kernel_rfl) (by kernel_rfl) (by kernel_rfl) noP_ok hD (by repeat (first | exact .refl | exact subL_nil | refine .drop ?_ | refine subL_add ?_)) ?_
          refine XD_take 3 rfl (ev_arB rfl rfl rfl (fun _ => by omega)) (.none rfl) rfl rfl rfl (by kernel_rfl) (by kernel_rfl) (by kernel_rfl) noP_ok hD (by repeat (first | exact .refl | exact subL_nil | refine .drop ?_ | refine subL_add ?_)) ?_
          refine XD_take 4 rfl (ev_sliceLoB rfl rfl slt_22 (by omega)) (.none rfl) rfl rfl rfl (by kernel_rfl) (by kernel_rfl) (by kernel_rfl) noP_ok hD (by repeat (first | exact .refl | exact subL_nil | refine .drop ?_ | refine subL_add ?_)) ?_
          refine XD_take 5 rfl (ev_move rfl) (.none rfl) rfl rfl rfl (by kernel_rfl) (by kernel_rfl) (by kernel_rfl) noP_ok hD (by repeat (first | exact .refl | exact subL_nil | refine .drop ?_ | refine subL_add ?_)) ?_
          refine XD_take 6 rfl (ev_move rfl) (.none rfl) rfl rfl rfl (by kernel_rfl) (by kernel_rfl) (by kernel_rfl) noP_ok hD (by repeat (first | exact .refl | exact subL_nil | refine .drop ?_ | refine subL_add ?_)) ?_
          refine XD_take 7 rfl (ev_sliceLoB rfl rfl slt_22 (by omega)) (.none rfl) rfl rfl rfl (by kernel_rfl) (by kernel_rfl) (by kernel_rfl) noP_ok hD (by repeat (first | exact .refl | exact subL_nil | refine .drop ?_ | refine subL_add ?_)) ?_
          refine XD_one 8 rfl (by kernel_rfl) ?_
          refine XO_copy (pre := ((xs.take i).flatMap encL) ++ p1) (old := p2) (post := R2) (vs := ((xs.drop i).flatMap encL)) (cur' := (((xs.take i).flatMap encL) ++ p1 ++ ((xs.drop i).flatMap encL) ++ R2).toArray) hcur rfl rfl rfl slt_22 (by rw [hB]; simp only [Nat.min_def]; split <;> omega) (by rw [hp2, hB]) (by rw [List.length_append, hA, hp1]; omega) (fun _ => rfl) (Cells.part (pre := ((xs.take i).flatMap encL)) (post := r5 ++ R2) .here (by show 0 + _ = _; rw [hA]; omega)) (one_L _) rfl rfl .here ?_
          refine XO_nil ?_
          refine at_D hD (by repeat (first | exact .refl | exact subL_nil | refine .drop ?_ | refine subL_add ?_)) ?_
          refine XD_done (by kernel_rfl) ?_
          refine at_noP ?_
          refine at_then ?_
          refine X_seq ?_
          refine X_region ?_
          refine XO_v0 (ev_move rfl) rfl rfl rfl ?_
          refine XO_v0 (ev_move rfl) rfl rfl rfl ?_
          refine XO_v0 (ev_sliceLoB rfl rfl slt_22 (by omega)) rfl rfl rfl ?_
          refine XO_v0 (ev_move rfl) rfl rfl rfl ?_
          refine XO_copy (pre := ((xs.take i).flatMap encL)) (old := p1) (post := ((xs.drop i).flatMap encL) ++ R2) (vs := [encL y].flatten) (cur' := (((xs.take i).flatMap encL) ++ [encL y].flatten ++ (((xs.drop i).flatMap encL) ++ R2)).toArray) (by rw [List.append_assoc (_ ++ _)]) rfl rfl rfl slt_22 (by show 5 = _; simp only [Nat.min_def]; split <;> omega) (by rw [hp1]; rfl) (by omega) (fun _ => rfl) (.there .here) rfl rfl rfl .here ?_
          refine XO_nil ?_
          refine at_then ?_
          refine X_seq ?_
          refine X_region ?_
          refine XO_v0 (ev_move rfl) rfl rfl rfl ?_
          refine XO_v0 (ev_assign rfl) rfl rfl rfl ?_
          refine XO_nil ?_
          refine at_then ?_
          refine X_ret ?_
          refine at_then_r ?_
          first
          | exact at_ret1 rfl rfl (fun w hw => ⟨_, I, _, rfl, HLe.refl _, hw.subL (.keep subL_nil), rfl, by rw [show (i : Int).toNat + ((n : Int) + ((1 : Nat) : Int) - (i : Int)).toNat = n + 1 by omega]; exact own_row (rest := z3) (by simp [hl]; omega) (by omega) hm3 (by simp [List.flatMap_append, List.flatMap_cons]) (by simp only [List.length_append, hA, hB, hz1, hz2] at hz3 ⊢; show _ + 5 + _ + _ = _; omega)⟩)
          | exact at_ret1 rfl rfl (fun w hw => ⟨_, I, _, rfl, HLe.refl _, hw.subL (.keep subL_nil), rfl, by rw [show ((n : Int) + ((1 : Nat) : Int)).toNat = n + 1 by omega]; exact own_row (rest := R2) (by simp [hl]; omega) hgr hcm (by simp [List.flatMap_append, List.flatMap_cons]) (by simp only [List.length_append, hA, hB, hr5] at hR ⊢; show _ + 5 + _ = _; omega)⟩)
        · skip
          cases hc68
end Go.Proofs.Ytgfggmmffmfolaa
