/- Lessons: the walks, WalkD: each function comes to its Lean function. -/
import Derived.Test.YtgfggmmffmfolaaWalkC
import Derived.Test.YtgfggmmffmfolaaPlain
namespace Go.Proofs.Ytgfggmmffmfolaa
open Go Go.Kn Go.Proofs
theorem all_take {α : Type} {xs : List α} {k : Nat} {x : α} (h : xs[k]? = some x) (p : α → Bool) : (xs.take (k + 1)).all p = ((xs.take k).all p && p x) := by
  rw [List.take_add_one, h, List.all_append]; simp

theorem gp_bad {I : HMap} {e e' : Int} {a b : List Int} (he : e = e') (h0 : e' ≠ 0) : GpE e (resF e a) (resF e b) (.tuple #[.slice none 0 0, .slice none 0 0, .int .i64 e']) I [] := .bad he h0
theorem big_no {vss : List (List Int)} {n2 n3 k : Nat} {ts : List Int} (h2 : vss.length = n2) (h3 : ts.length = n3) (hc : ¬ n2 > 512) (hd : ¬ n3 > 512) (hk : n2 ≤ k) (hall : (vss.take k).all (fun v => !decide (v.length > 512)) = true) :
    ¬ ((vss.length > 512 ∨ ts.length > 512) ∨ vss.any (fun v => decide (v.length > 512)) = true) := by
  rw [take_all h2 hk, List.all_eq_true] at hall
  rintro (h | h)
  · omega
  · obtain ⟨v, hv, h⟩ := List.any_eq_true.1 h
    have := hall v hv
    rw [h] at this; cases this
theorem len_at {vss : List (List Int)} {n2 k i : Nat} {v : List Int} (hv : vss[i]? = some v) (h2 : vss.length = n2) (hk : n2 ≤ k) (hall : (vss.take k).all (fun v => !decide (v.length > 512)) = true) : v.length ≤ 512 := by
  rw [take_all h2 hk, List.all_eq_true] at hall
  have := hall v (List.mem_of_getElem? hv)
  simp at this; omega

theorem w_rGap {I : HMap} {av : Option Addr} {n c : Nat} {xs : List Ls} (hS : Sl I 5 encL av n c xs) (hn : n ≤ 100000) {bv : Option Addr} {n2 c2 : Nat} {vss : List (List Int)} (hV : SlN I bv n2 c2 vss) (person day time : Int) {dv : Option Addr} {n3 c3 : Nat} {ts : List Int} (hT : Sl I 1 encI dv n3 c3 ts) : RetM Try.prog 23 [.slice av n c, .slice bv n2 c2, .int .i64 person, .int .i64 day, .int .i64 time, .slice dv n3 c3] I [] (GpE (gapE xs vss person day time ts) (resF (gapE xs vss person day time ts) (lessF ts (ownF xs vss person day time))) (resF (gapE xs vss person day time ts) (lessF (ownF xs vss person day time) ts))) := by
  intro g H w hw
  refine enter Try.func23 rfl Try.ntmps23 rfl hw ?_
  have hIc := HLe.refl I
  refine X_seq ?_
  refine X_region ?_
  refine XO_v0 (ev_assign rfl) rfl rfl rfl ?_
  refine XO_v0 (ev_assign rfl) rfl rfl rfl ?_
  refine XO_v0 (ev_assign rfl) rfl rfl rfl ?_
  refine XO_nil ?_
  refine at_then ?_
  refine X_seq ?_
  refine X_region ?_
  refine XO_v0 (ev_move rfl) rfl rfl rfl ?_
  refine XO_callV0 (cap := []) (vs := [_]) rfl rfl fun_15 (w_rcheck hS hn) rfl rfl ?_
  refine XO_v0 (ev_assign rfl) rfl rfl rfl ?_
  refine XO_nil ?_
  refine at_then ?_
  refine X_seq ?_
  refine X_seq ?_
  refine X_region ?_
  refine XO_v0 (ev_move rfl) rfl rfl rfl ?_
  refine XO_v0 (ev_cmp rfl rfl rfl) rfl rfl rfl ?_
  refine XO_nil ?_
  refine at_then ?_
  refine X_cond rfl (fun hc25 => ?_) (fun hc25 => ?_)
  · skip
    refine X_seq ?_
    refine X_region ?_
    refine XO_v0 (ev_move rfl) rfl rfl rfl ?_
    refine XO_v0 (ev_assign rfl) rfl rfl rfl ?_
    refine XO_v0 (ev_assign rfl) rfl rfl rfl ?_
    refine XO_v0 (ev_assign rfl) rfl rfl rfl ?_
    refine XO_nil ?_
    refine at_then ?_
    refine X_ret ?_
    refine at_then_r ?_
    first
    | exact at_ret3 rfl rfl rfl rfl (fun w hw => ⟨_, I, [], rfl, hIc, hw.drop, gp_bad (gapE_chk (by simpa using hc25)) (by simpa using hc25)⟩)
    | exact at_ret3 rfl rfl rfl rfl (fun w hw => ⟨_, I, [], rfl, hIc, hw.drop, gp_bad (gapE_many hck (.inl (by omega))) (by decide)⟩)
    | exact at_ret3 rfl rfl rfl rfl (fun w hw => ⟨_, I, [], rfl, hIc, hw.drop, gp_bad (gapE_many hck (.inr hlong)) (by decide)⟩)
    | exact at_ret3 rfl rfl rfl rfl (fun w hw => ⟨_, I, [], rfl, hIc, hw.drop, gp_bad (gapE_form hck hno hf) (by decide)⟩)
    | exact at_ret3 rfl rfl rfl rfl (fun w hw => ⟨_, I, [], rfl, hIc, hw.drop, gp_bad (by rw [hck]; exact gapE_arg hck hno hf hE) (by simpa using hc75)⟩)
    | exact at_ret3 rfl rfl rfl rfl (fun w hw => ⟨_, I, [], rfl, hIc, hw.drop, gp_bad (gapE_high hck hno hf hE hhi) (by decide)⟩)
    | exact at_ret3 rfl rfl rfl rfl (fun w hw => ⟨_, I, [], rfl, hIc, hw.drop, .good (gapE_ok hck hno hf hE hhi) (by rw [hown]) (by rw [hown]) hX hY⟩)
  · skip
    have hck : chk xs = 0 := by simpa using hc25
    have hlV := hV.len; have hlT := hT.len
    refine X_skip ?_
    refine at_then ?_
    refine X_seq ?_
    refine X_seq ?_
    refine X_region ?_
    refine XO_v0 (ev_move rfl) rfl rfl rfl ?_
    refine XO_v0 (ev_lenS rfl slt_40) rfl rfl rfl ?_
    refine XO_v0 (ev_cmp rfl rfl rfl) rfl rfl rfl ?_
    refine XO_v0 (ev_move rfl) rfl rfl rfl ?_
    refine XO_pushF 3 rfl rfl rfl ?_
    refine XO_v1 (ev_move rfl) (.some rfl rfl rfl rfl gbf) rfl rfl rfl ?_
    refine XO_v1 (ev_lenS rfl slt_35) (.some rfl rfl rfl rfl gbf) rfl rfl rfl ?_
    refine XO_v1 (ev_cmp rfl rfl rfl) (.some rfl rfl rfl rfl gbf) rfl rfl rfl ?_
    refine XO_or0 rfl rfl rfl rfl rfl ?_
    refine XO_nil ?_
    refine at_then ?_
    refine X_cond rfl (fun hc34 => ?_) (fun hc34 => ?_)
    · skip
      have hbig : n2 > 512 ∨ n3 > 512 := by have h := hc34; simp at h; omega
      refine X_seq ?_
      refine X_region ?_
      refine XO_v0 (ev_assign rfl) rfl rfl rfl ?_
      refine XO_v0 (ev_assign rfl) rfl rfl rfl ?_
      refine XO_v0 (ev_assign rfl) rfl rfl rfl ?_
      refine XO_nil ?_
      refine at_then ?_
      refine X_ret ?_
      refine at_then_r ?_
      first
      | exact at_ret3 rfl rfl rfl rfl (fun w hw => ⟨_, I, [], rfl, hIc, hw.drop, gp_bad (gapE_chk (by simpa using hc25)) (by simpa using hc25)⟩)
      | exact at_ret3 rfl rfl rfl rfl (fun w hw => ⟨_, I, [], rfl, hIc, hw.drop, gp_bad (gapE_many hck (.inl (by omega))) (by decide)⟩)
      | exact at_ret3 rfl rfl rfl rfl (fun w hw => ⟨_, I, [], rfl, hIc, hw.drop, gp_bad (gapE_many hck (.inr hlong)) (by decide)⟩)
      | exact at_ret3 rfl rfl rfl rfl (fun w hw => ⟨_, I, [], rfl, hIc, hw.drop, gp_bad (gapE_form hck hno hf) (by decide)⟩)
      | exact at_ret3 rfl rfl rfl rfl (fun w hw => ⟨_, I, [], rfl, hIc, hw.drop, gp_bad (by rw [hck]; exact gapE_arg hck hno hf hE) (by simpa using hc75)⟩)
      | exact at_ret3 rfl rfl rfl rfl (fun w hw => ⟨_, I, [], rfl, hIc, hw.drop, gp_bad (gapE_high hck hno hf hE hhi) (by decide)⟩)
      | exact at_ret3 rfl rfl rfl rfl (fun w hw => ⟨_, I, [], rfl, hIc, hw.drop, .good (gapE_ok hck hno hf hE hhi) (by rw [hown]) (by rw [hown]) hX hY⟩)
    · skip
      have hs23 : ¬ n2 > 512 ∧ ¬ n3 > 512 := by have h := hc34; simp at h; omega
      have hs2 := hs23.1; have hs3 := hs23.2
      refine X_skip ?_
      refine at_then ?_
      refine X_seq ?_
      refine X_seq ?_
      refine X_region ?_
      refine XO_v0 (ev_assign rfl) rfl rfl rfl ?_
      refine XO_nil ?_
      refine at_then ?_
      refine X_block ?_
      refine X_loopT [(0, _), (1, _), (2, _), (3, _), (4, _), (5, _)] (.cons rfl (.cons rfl (.cons rfl (.cons rfl (.cons rfl (.cons rfl .nil)))))) (fun T L0 mz E I' loc' => ∃ (k : Nat), mz = n2 - k ∧ E = (16, .int .i64 k) :: T ∧ I = I' ∧ L0 = loc' ∧ k ≤ n2 ∧ (vss.take k).all (fun v => !decide (v.length > 512)) = true) _ _ _ _ ⟨0, rfl, rfl, rfl, rfl, Nat.zero_le _, rfl⟩ (.cons rfl (.cons rfl (.cons rfl (.cons rfl (.cons rfl (.cons rfl (.cons rfl .nil))))))) (HLe.refl _) rfl ?_
      rintro mz E I' loc' ⟨k, rfl, rfl, rfl, rfl, hk, hall⟩
      refine X_seq ?_
      refine X_seq ?_
      refine X_region ?_
      refine XO_v0 (ev_move rfl) rfl rfl rfl ?_
      refine XO_v0 (ev_move rfl) rfl rfl rfl ?_
      refine XO_v0 (ev_lenS rfl slt_40) rfl rfl rfl ?_
      refine XO_v0 (ev_cmp rfl rfl rfl) rfl rfl rfl ?_
      refine XO_nil ?_
      refine at_then ?_
      refine X_cond rfl (fun hc38 => ?_) (fun hc38 => ?_)
      · skip
        have hlt_k : k < n2 := by have h := hc38; simp at h; omega
        obtain ⟨hs, hd, v, hH, hh, hv, hW⟩ := hV.at hlt_k
        refine X_skip ?_
        refine at_then ?_
        refine X_seq ?_
        refine X_block ?_
        refine X_seq ?_
        refine X_region ?_
        refine XO_v0 (ev_move rfl) rfl rfl rfl ?_
        refine XO_v0 (ev_move rfl) rfl rfl rfl ?_
        refine XO_v0 (ev_indexSl rfl rfl slt_40 (by assumption) (fun hg => by first | omega | (simp [conj] at hg; omega))) rfl rfl rfl ?_
        refine XO_v0 (ev_load rfl sct_35 (fun hg => by first | exact Sl.get0 hH hh rfl | exact Cell.h0 rfl | exact Cell.h1 rfl | exact Cell.h2 rfl | exact Cell.h3 rfl | exact Cell.h4 rfl | exact Cell.h5 rfl | (repeat (first | exact Cell.here rfl | apply Cell.there | apply Cell.app)))) rfl rfl rfl ?_
        refine XO_v0 (ev_lenS rfl slt_35) rfl rfl rfl ?_
        refine XO_v0 (ev_cmp rfl rfl rfl) rfl rfl rfl ?_
        refine XO_nil ?_
        refine at_then ?_
        refine X_cond rfl (fun hc46 => ?_) (fun hc46 => ?_)
        · skip
          have hlong : vss.any (fun v => decide (v.length > 512)) = true := List.any_eq_true.2 ⟨v, List.mem_of_getElem? hv, by rw [hW.len]; have h := hc46; simp at h; simp; omega⟩
          refine X_seq ?_
          refine X_region ?_
          refine XO_v0 (ev_assign rfl) rfl rfl rfl ?_
          refine XO_v0 (ev_assign rfl) rfl rfl rfl ?_
          refine XO_v0 (ev_assign rfl) rfl rfl rfl ?_
          refine XO_nil ?_
          refine at_then ?_
          refine X_ret ?_
          refine at_block_r ?_
          refine at_then_r ?_
          refine at_then_r ?_
          refine at_block_r ?_
          refine at_then_r ?_
          first
          | exact at_ret3 rfl rfl rfl rfl (fun w hw => ⟨_, I, [], rfl, hIc, hw.drop, gp_bad (gapE_chk (by simpa using hc25)) (by simpa using hc25)⟩)
          | exact at_ret3 rfl rfl rfl rfl (fun w hw => ⟨_, I, [], rfl, hIc, hw.drop, gp_bad (gapE_many hck (.inl (by omega))) (by decide)⟩)
          | exact at_ret3 rfl rfl rfl rfl (fun w hw => ⟨_, I, [], rfl, hIc, hw.drop, gp_bad (gapE_many hck (.inr hlong)) (by decide)⟩)
          | exact at_ret3 rfl rfl rfl rfl (fun w hw => ⟨_, I, [], rfl, hIc, hw.drop, gp_bad (gapE_form hck hno hf) (by decide)⟩)
          | exact at_ret3 rfl rfl rfl rfl (fun w hw => ⟨_, I, [], rfl, hIc, hw.drop, gp_bad (by rw [hck]; exact gapE_arg hck hno hf hE) (by simpa using hc75)⟩)
          | exact at_ret3 rfl rfl rfl rfl (fun w hw => ⟨_, I, [], rfl, hIc, hw.drop, gp_bad (gapE_high hck hno hf hE hhi) (by decide)⟩)
          | exact at_ret3 rfl rfl rfl rfl (fun w hw => ⟨_, I, [], rfl, hIc, hw.drop, .good (gapE_ok hck hno hf hE hhi) (by rw [hown]) (by rw [hown]) hX hY⟩)
        · skip
          refine X_skip ?_
          refine at_block_n ?_
          refine at_then ?_
          refine X_region ?_
          refine XO_v0 (ev_move rfl) rfl rfl rfl ?_
          refine XO_v0 (ev_arB rfl rfl rfl (fun _ => by omega)) rfl rfl rfl ?_
          refine XO_v0 (ev_assign rfl) rfl rfl rfl ?_
          refine XO_nil ?_
          exact at_met2 _ _ ⟨n2 - (k + 1), by omega, k + 1, rfl, rfl, rfl, rfl, by omega, all_next hv hall (by rw [hW.len]; have h := hc46; simp at h; simp; omega)⟩ (.cons rfl (.cons rfl (.cons rfl (.cons rfl (.cons rfl (.cons rfl (.cons rfl .nil))))))) (by repeat (first | exact .refl | exact subL_left | refine subL_app ?_ | refine .drop ?_ | refine subL_add ?_))
      · skip
        have hge_k : n2 ≤ k := by have h := hc38; simp at h; omega
        refine X_exit ?_
        refine at_then_e ?_
        refine at_then_e ?_
        refine at_block_hit ?_
        refine at_then ?_
        refine X_seq ?_
        refine X_region ?_
        refine XO_v0 (ev_move rfl) rfl rfl rfl ?_
        refine XO_callV0 (cap := []) (vs := [_]) rfl rfl fun_46 (w_version hT (by omega)) rfl rfl ?_
        refine XO_v0 (ev_assign rfl) rfl rfl rfl ?_
        refine XO_nil ?_
        refine at_then ?_
        refine X_seq ?_
        refine X_seq ?_
        refine X_region ?_
        refine XO_v0 (ev_assign rfl) rfl rfl rfl ?_
        refine XO_nil ?_
        refine at_then ?_
        refine X_block ?_
        refine X_loopT [(0, _), (1, _), (2, _), (3, _), (4, _), (5, _)] (.cons rfl (.cons rfl (.cons rfl (.cons rfl (.cons rfl (.cons rfl .nil)))))) (fun T L0 mz E I' loc' => ∃ (j : Nat) (b : Bool), mz = n2 - j ∧ E = (17, .bool b) :: (18, .int .i64 j) :: T ∧ I = I' ∧ L0 = loc' ∧ j ≤ n2 ∧ b = (verB ts && (vss.take j).all verB)) _ _ _ _ ⟨0, _, rfl, rfl, rfl, rfl, Nat.zero_le _, by simp⟩ (.cons rfl (.cons rfl (.cons rfl (.cons rfl (.cons rfl (.cons rfl (.cons rfl (.cons rfl .nil)))))))) (HLe.refl _) rfl ?_
        rintro mz E I' loc' ⟨j, b, rfl, rfl, rfl, rfl, hj, hb⟩
        refine X_seq ?_
        refine X_seq ?_
        refine X_region ?_
        refine XO_v0 (ev_move rfl) rfl rfl rfl ?_
        refine XO_v0 (ev_move rfl) rfl rfl rfl ?_
        refine XO_v0 (ev_lenS rfl slt_40) rfl rfl rfl ?_
        refine XO_v0 (ev_cmp rfl rfl rfl) rfl rfl rfl ?_
        refine XO_nil ?_
        refine at_then ?_
        refine X_cond rfl (fun hc52 => ?_) (fun hc52 => ?_)
        · skip
          have hlt_j : j < n2 := by have h := hc52; simp at h; omega
          obtain ⟨hs, hd, v, hH, hh, hv, hW⟩ := hV.at hlt_j
          refine X_skip ?_
          refine at_then ?_
          refine X_seq ?_
          refine X_block ?_
          refine X_seq ?_
          refine X_region ?_
          refine XO_v0 (ev_move rfl) rfl rfl rfl ?_
          refine XO_v0 (ev_move rfl) rfl rfl rfl ?_
          refine XO_v0 (ev_indexSl rfl rfl slt_40 (by assumption) (fun hg => by first | omega | (simp [conj] at hg; omega))) rfl rfl rfl ?_
          refine XO_v0 (ev_load rfl sct_35 (fun hg => by first | exact Sl.get0 hH hh rfl | exact Cell.h0 rfl | exact Cell.h1 rfl | exact Cell.h2 rfl | exact Cell.h3 rfl | exact Cell.h4 rfl | exact Cell.h5 rfl | (repeat (first | exact Cell.here rfl | apply Cell.there | apply Cell.app)))) rfl rfl rfl ?_
          refine XO_callV0 (cap := []) (vs := [_]) rfl rfl fun_46 (w_version hW (by have := len_at hv hlV hge_k hall; rw [hW.len] at this; omega)) rfl rfl ?_
          refine XO_v0 (ev_assign rfl) rfl rfl rfl ?_
          refine XO_nil ?_
          refine at_then ?_
          refine X_region ?_
          refine XO_v0 (ev_move rfl) rfl rfl rfl ?_
          refine XO_v0 (ev_move rfl) rfl rfl rfl ?_
          refine XO_pushT 1 rfl rfl rfl ?_
          refine XO_v1 (ev_move rfl) (.some rfl rfl rfl rfl gbt) rfl rfl rfl ?_
          refine XO_and0 rfl rfl rfl rfl rfl ?_
          refine XO_v0 (ev_assign rfl) rfl rfl rfl ?_
          refine XO_nil ?_
          refine at_block_n ?_
          refine at_then ?_
          refine X_region ?_
          refine XO_v0 (ev_move rfl) rfl rfl rfl ?_
          refine XO_v0 (ev_arB rfl rfl rfl (fun _ => by omega)) rfl rfl rfl ?_
          refine XO_v0 (ev_assign rfl) rfl rfl rfl ?_
          refine XO_nil ?_
          exact at_met2 _ _ ⟨n2 - (j + 1), by omega, j + 1, _, rfl, rfl, rfl, rfl, by omega, by rw [all_take hv, ← Bool.and_assoc, ← hb]⟩ (.cons rfl (.cons rfl (.cons rfl (.cons rfl (.cons rfl (.cons rfl (.cons rfl (.cons rfl .nil)))))))) (by repeat (first | exact .refl | exact subL_left | refine subL_app ?_ | refine .drop ?_ | refine subL_add ?_))
        · skip
          have hge_j : n2 ≤ j := by have h := hc52; simp at h; omega
          rw [take_all hlV hge_j] at hb
          refine X_exit ?_
          refine at_then_e ?_
          refine at_then_e ?_
          refine at_block_hit ?_
          refine at_then ?_
          refine X_seq ?_
          refine X_seq ?_
          refine X_region ?_
          refine XO_v0 (ev_move rfl) rfl rfl rfl ?_
          refine XO_v0 (ev_not rfl) rfl rfl rfl ?_
          refine XO_nil ?_
          refine at_then ?_
          refine X_cond rfl (fun hc65 => ?_) (fun hc65 => ?_)
          · skip
            have hf : (verB ts && vss.all verB) = false := by rw [← hb]; simpa using hc65
            have hno := big_no hlV hlT hs2 hs3 hge_k hall
            refine X_seq ?_
            refine X_region ?_
            refine XO_v0 (ev_assign rfl) rfl rfl rfl ?_
            refine XO_v0 (ev_assign rfl) rfl rfl rfl ?_
            refine XO_v0 (ev_assign rfl) rfl rfl rfl ?_
            refine XO_nil ?_
            refine at_then ?_
            refine X_ret ?_
            refine at_then_r ?_
            first
            | exact at_ret3 rfl rfl rfl rfl (fun w hw => ⟨_, I, [], rfl, hIc, hw.drop, gp_bad (gapE_chk (by simpa using hc25)) (by simpa using hc25)⟩)
            | exact at_ret3 rfl rfl rfl rfl (fun w hw => ⟨_, I, [], rfl, hIc, hw.drop, gp_bad (gapE_many hck (.inl (by omega))) (by decide)⟩)
            | exact at_ret3 rfl rfl rfl rfl (fun w hw => ⟨_, I, [], rfl, hIc, hw.drop, gp_bad (gapE_many hck (.inr hlong)) (by decide)⟩)
            | exact at_ret3 rfl rfl rfl rfl (fun w hw => ⟨_, I, [], rfl, hIc, hw.drop, gp_bad (gapE_form hck hno hf) (by decide)⟩)
            | exact at_ret3 rfl rfl rfl rfl (fun w hw => ⟨_, I, [], rfl, hIc, hw.drop, gp_bad (by rw [hck]; exact gapE_arg hck hno hf hE) (by simpa using hc75)⟩)
            | exact at_ret3 rfl rfl rfl rfl (fun w hw => ⟨_, I, [], rfl, hIc, hw.drop, gp_bad (gapE_high hck hno hf hE hhi) (by decide)⟩)
            | exact at_ret3 rfl rfl rfl rfl (fun w hw => ⟨_, I, [], rfl, hIc, hw.drop, .good (gapE_ok hck hno hf hE hhi) (by rw [hown]) (by rw [hown]) hX hY⟩)
          · skip
            have hf : (verB ts && vss.all verB) = true := by rw [← hb]; simpa using hc65
            have hno := big_no hlV hlT hs2 hs3 hge_k hall
            refine X_skip ?_
            refine at_then ?_
            refine X_seq ?_
            refine X_region ?_
            refine XO_v0 (ev_move rfl) rfl rfl rfl ?_
            refine XO_v0 (ev_move rfl) rfl rfl rfl ?_
            refine XO_v0 (ev_move rfl) rfl rfl rfl ?_
            refine XO_v0 (ev_move rfl) rfl rfl rfl ?_
            refine XO_callV0 (cap := []) (vs := [_, _, _, _]) rfl rfl fun_18 (w_rHas hS hn _ _ _) rfl rfl ?_
            refine XO_v0 (ev_move rfl) rfl rfl rfl ?_
            refine XO_v0 (ev_extract rfl rfl) rfl rfl rfl ?_
            refine XO_v0 (ev_extract rfl rfl) rfl rfl rfl ?_
            refine XO_v0 (ev_assign rfl) rfl rfl rfl ?_
            refine XO_v0 (ev_assign rfl) rfl rfl rfl ?_
            refine XO_nil ?_
            refine at_then ?_
            refine X_seq ?_
            refine X_seq ?_
            refine X_region ?_
            refine XO_v0 (ev_move rfl) rfl rfl rfl ?_
            refine XO_v0 (ev_cmp rfl rfl rfl) rfl rfl rfl ?_
            refine XO_nil ?_
            refine at_then ?_
            refine X_cond rfl (fun hc75 => ?_) (fun hc75 => ?_)
            · skip
              have hE : hasE 0 person day time ≠ 0 := by have h := hc75; rw [hck] at h; simpa using h
              refine X_seq ?_
              refine X_region ?_
              refine XO_v0 (ev_move rfl) rfl rfl rfl ?_
              refine XO_v0 (ev_assign rfl) rfl rfl rfl ?_
              refine XO_v0 (ev_assign rfl) rfl rfl rfl ?_
              refine XO_v0 (ev_assign rfl) rfl rfl rfl ?_
              refine XO_nil ?_
              refine at_then ?_
              refine X_ret ?_
              refine at_then_r ?_
              first
              | exact at_ret3 rfl rfl rfl rfl (fun w hw => ⟨_, I, [], rfl, hIc, hw.drop, gp_bad (gapE_chk (by simpa using hc25)) (by simpa using hc25)⟩)
              | exact at_ret3 rfl rfl rfl rfl (fun w hw => ⟨_, I, [], rfl, hIc, hw.drop, gp_bad (gapE_many hck (.inl (by omega))) (by decide)⟩)
              | exact at_ret3 rfl rfl rfl rfl (fun w hw => ⟨_, I, [], rfl, hIc, hw.drop, gp_bad (gapE_many hck (.inr hlong)) (by decide)⟩)
              | exact at_ret3 rfl rfl rfl rfl (fun w hw => ⟨_, I, [], rfl, hIc, hw.drop, gp_bad (gapE_form hck hno hf) (by decide)⟩)
              | exact at_ret3 rfl rfl rfl rfl (fun w hw => ⟨_, I, [], rfl, hIc, hw.drop, gp_bad (by rw [hck]; exact gapE_arg hck hno hf hE) (by simpa using hc75)⟩)
              | exact at_ret3 rfl rfl rfl rfl (fun w hw => ⟨_, I, [], rfl, hIc, hw.drop, gp_bad (gapE_high hck hno hf hE hhi) (by decide)⟩)
              | exact at_ret3 rfl rfl rfl rfl (fun w hw => ⟨_, I, [], rfl, hIc, hw.drop, .good (gapE_ok hck hno hf hE hhi) (by rw [hown]) (by rw [hown]) hX hY⟩)
            · skip
              have hE : hasE 0 person day time = 0 := by have h := hc75; rw [hck] at h; simpa using h
              have hvv := hasV_ok (xs := xs) hck hE
              refine X_skip ?_
              refine at_then ?_
              refine X_seq ?_
              refine X_seq ?_
              refine X_region ?_
              refine XO_v0 (ev_move rfl) rfl rfl rfl ?_
              refine XO_v0 (ev_move rfl) rfl rfl rfl ?_
              refine XO_v0 (ev_lenS rfl slt_40) rfl rfl rfl ?_
              refine XO_v0 (ev_cmp rfl rfl rfl) rfl rfl rfl ?_
              refine XO_nil ?_
              refine at_then ?_
              refine X_cond rfl (fun hc80 => ?_) (fun hc80 => ?_)
              · skip
                have hhi : hasF xs person day time > vss.length := by rw [← hvv, hlV]; simpa using hc80
                refine X_seq ?_
                refine X_region ?_
                refine XO_v0 (ev_assign rfl) rfl rfl rfl ?_
                refine XO_v0 (ev_assign rfl) rfl rfl rfl ?_
                refine XO_v0 (ev_assign rfl) rfl rfl rfl ?_
                refine XO_nil ?_
                refine at_then ?_
                refine X_ret ?_
                refine at_then_r ?_
                first
                | exact at_ret3 rfl rfl rfl rfl (fun w hw => ⟨_, I, [], rfl, hIc, hw.drop, gp_bad (gapE_chk (by simpa using hc25)) (by simpa using hc25)⟩)
                | exact at_ret3 rfl rfl rfl rfl (fun w hw => ⟨_, I, [], rfl, hIc, hw.drop, gp_bad (gapE_many hck (.inl (by omega))) (by decide)⟩)
                | exact at_ret3 rfl rfl rfl rfl (fun w hw => ⟨_, I, [], rfl, hIc, hw.drop, gp_bad (gapE_many hck (.inr hlong)) (by decide)⟩)
                | exact at_ret3 rfl rfl rfl rfl (fun w hw => ⟨_, I, [], rfl, hIc, hw.drop, gp_bad (gapE_form hck hno hf) (by decide)⟩)
                | exact at_ret3 rfl rfl rfl rfl (fun w hw => ⟨_, I, [], rfl, hIc, hw.drop, gp_bad (by rw [hck]; exact gapE_arg hck hno hf hE) (by simpa using hc75)⟩)
                | exact at_ret3 rfl rfl rfl rfl (fun w hw => ⟨_, I, [], rfl, hIc, hw.drop, gp_bad (gapE_high hck hno hf hE hhi) (by decide)⟩)
                | exact at_ret3 rfl rfl rfl rfl (fun w hw => ⟨_, I, [], rfl, hIc, hw.drop, .good (gapE_ok hck hno hf hE hhi) (by rw [hown]) (by rw [hown]) hX hY⟩)
              · skip
                have hhi : ¬ hasF xs person day time > vss.length := by rw [← hvv, hlV]; simpa using hc80
                refine X_skip ?_
                refine at_then ?_
                refine X_seq ?_
                refine X_region ?_
                refine XO_buildSlice (ps := []) (m := []) elt_35 rfl (.nil) rfl (by simp [encL_len, encI_len, encH_len]) (by decide) (by decide) rfl rfl (fun b_81 => ?_)
                refine XO_v0 (ev_assign rfl) rfl rfl rfl ?_
                refine XO_nil ?_
                refine at_then ?_
                refine X_seq ?_
                refine X_seq ?_
                refine X_region ?_
                refine XO_v0 (ev_move rfl) rfl rfl rfl ?_
                refine XO_v0 (ev_cmp rfl rfl rfl) rfl rfl rfl ?_
                refine XO_nil ?_
                refine at_then ?_
                refine X_cond rfl (fun hc83 => ?_) (fun hc83 => ?_)
                · skip
                  have hp : hasF xs person day time > 0 := by rw [← hvv]; simpa using hc83
                  obtain ⟨hs, hd, v, hH, hh, hv, hO⟩ := hV.at (k := (hasV xs person day time - 1).toNat) (by rw [hvv]; omega)
                  have hown := own_pos hp (by rw [← hvv]; exact hv)
                  have hl9 := len_at hv hlV hge_k hall
                  rw [hO.len] at hl9
                  refine X_region ?_
                  refine XO_v0 (ev_move rfl) rfl rfl rfl ?_
                  refine XO_v0 (ev_move rfl) rfl rfl rfl ?_
                  refine XO_v0 (ev_arB rfl rfl rfl (fun _ => by omega)) rfl rfl rfl ?_
                  refine XO_v0 (ev_indexSl rfl rfl slt_40 (by assumption) (fun hg => by first | omega | (simp [conj] at hg; omega))) rfl rfl rfl ?_
                  refine XO_v0 (ev_load rfl sct_35 (fun hg => by first | exact Sl.get0 hH hh rfl | exact Cell.h0 rfl | exact Cell.h1 rfl | exact Cell.h2 rfl | exact Cell.h3 rfl | exact Cell.h4 rfl | exact Cell.h5 rfl | (repeat (first | exact Cell.here rfl | apply Cell.there | apply Cell.app)))) rfl rfl rfl ?_
                  refine XO_v0 (ev_assign rfl) rfl rfl rfl ?_
                  refine XO_nil ?_
                  refine at_then ?_
                  refine X_seq ?_
                  refine X_region ?_
                  refine XO_v0 (ev_move rfl) rfl rfl rfl ?_
                  refine XO_v0 (ev_move rfl) rfl rfl rfl ?_
                  refine XO_callM (cap := []) (vs := [_, _]) rfl rfl fun_47 .nil (w_less hT hO (by omega) (by omega)) rfl rfl ?_
                  rintro vv3 I3 L3 hI3 ⟨rfl, a3, c3, rfl, hX⟩
                  have hS := hS.mono hI3
                  have hV := hV.mono hI3
                  have hT := hT.mono hI3
                  have hO := hO.mono hI3
                  have hIc := hIc.trans hI3
                  refine XO_v0 (ev_move rfl) rfl rfl rfl ?_
                  refine XO_v0 (ev_move rfl) rfl rfl rfl ?_
                  refine XO_callM (cap := []) (vs := [_, _]) rfl rfl fun_47 .nil (w_less hO hT (by omega) (by omega)) rfl rfl ?_
                  rintro vv4 I4 L4 hI4 ⟨rfl, a4, c4, rfl, hY⟩
                  have hS := hS.mono hI4
                  have hV := hV.mono hI4
                  have hT := hT.mono hI4
                  have hO := hO.mono hI4
                  have hX := hX.mono hI4
                  have hIc := hIc.trans hI4
                  refine XO_v0 (ev_assign rfl) rfl rfl rfl ?_
                  refine XO_v0 (ev_assign rfl) rfl rfl rfl ?_
                  refine XO_v0 (ev_assign rfl) rfl rfl rfl ?_
                  refine XO_nil ?_
                  refine at_then ?_
                  refine X_ret ?_
                  first
                  | exact at_ret3 rfl rfl rfl rfl (fun w hw => ⟨_, I4, [], rfl, hIc, hw.drop, gp_bad (gapE_chk (by simpa using hc25)) (by simpa using hc25)⟩)
                  | exact at_ret3 rfl rfl rfl rfl (fun w hw => ⟨_, I4, [], rfl, hIc, hw.drop, gp_bad (gapE_many hck (.inl (by omega))) (by decide)⟩)
                  | exact at_ret3 rfl rfl rfl rfl (fun w hw => ⟨_, I4, [], rfl, hIc, hw.drop, gp_bad (gapE_many hck (.inr hlong)) (by decide)⟩)
                  | exact at_ret3 rfl rfl rfl rfl (fun w hw => ⟨_, I4, [], rfl, hIc, hw.drop, gp_bad (gapE_form hck hno hf) (by decide)⟩)
                  | exact at_ret3 rfl rfl rfl rfl (fun w hw => ⟨_, I4, [], rfl, hIc, hw.drop, gp_bad (by rw [hck]; exact gapE_arg hck hno hf hE) (by simpa using hc75)⟩)
                  | exact at_ret3 rfl rfl rfl rfl (fun w hw => ⟨_, I4, [], rfl, hIc, hw.drop, gp_bad (gapE_high hck hno hf hE hhi) (by decide)⟩)
                  | exact at_ret3 rfl rfl rfl rfl (fun w hw => ⟨_, I4, [], rfl, hIc, hw.drop, .good (gapE_ok hck hno hf hE hhi) (by rw [hown]) (by rw [hown]) hX hY⟩)
                · skip
                  have hp : ¬ hasF xs person day time > 0 := by rw [← hvv]; simpa using hc83
                  have hO : Sl I 1 encI (some ⟨b_81, 0, none⟩) 0 0 [] := .nil
                  have hown := own_zero (vss := vss) hp
                  refine X_skip ?_
                  refine at_then ?_
                  refine X_seq ?_
                  refine X_region ?_
                  refine XO_v0 (ev_move rfl) rfl rfl rfl ?_
                  refine XO_v0 (ev_move rfl) rfl rfl rfl ?_
                  refine XO_callM (cap := []) (vs := [_, _]) rfl rfl fun_47 .nil (w_less hT hO (by omega) (by omega)) rfl rfl ?_
                  rintro vv5 I5 L5 hI5 ⟨rfl, a5, c5, rfl, hX⟩
                  have hS := hS.mono hI5
                  have hV := hV.mono hI5
                  have hT := hT.mono hI5
                  have hO := hO.mono hI5
                  have hIc := hIc.trans hI5
                  refine XO_v0 (ev_move rfl) rfl rfl rfl ?_
                  refine XO_v0 (ev_move rfl) rfl rfl rfl ?_
                  refine XO_callM (cap := []) (vs := [_, _]) rfl rfl fun_47 .nil (w_less hO hT (by omega) (by omega)) rfl rfl ?_
                  rintro vv6 I6 L6 hI6 ⟨rfl, a6, c6, rfl, hY⟩
                  have hS := hS.mono hI6
                  have hV := hV.mono hI6
                  have hT := hT.mono hI6
                  have hO := hO.mono hI6
                  have hX := hX.mono hI6
                  have hIc := hIc.trans hI6
                  refine XO_v0 (ev_assign rfl) rfl rfl rfl ?_
                  refine XO_v0 (ev_assign rfl) rfl rfl rfl ?_
                  refine XO_v0 (ev_assign rfl) rfl rfl rfl ?_
                  refine XO_nil ?_
                  refine at_then ?_
                  refine X_ret ?_
                  first
                  | exact at_ret3 rfl rfl rfl rfl (fun w hw => ⟨_, I6, [], rfl, hIc, hw.drop, gp_bad (gapE_chk (by simpa using hc25)) (by simpa using hc25)⟩)
                  | exact at_ret3 rfl rfl rfl rfl (fun w hw => ⟨_, I6, [], rfl, hIc, hw.drop, gp_bad (gapE_many hck (.inl (by omega))) (by decide)⟩)
                  | exact at_ret3 rfl rfl rfl rfl (fun w hw => ⟨_, I6, [], rfl, hIc, hw.drop, gp_bad (gapE_many hck (.inr hlong)) (by decide)⟩)
                  | exact at_ret3 rfl rfl rfl rfl (fun w hw => ⟨_, I6, [], rfl, hIc, hw.drop, gp_bad (gapE_form hck hno hf) (by decide)⟩)
                  | exact at_ret3 rfl rfl rfl rfl (fun w hw => ⟨_, I6, [], rfl, hIc, hw.drop, gp_bad (by rw [hck]; exact gapE_arg hck hno hf hE) (by simpa using hc75)⟩)
                  | exact at_ret3 rfl rfl rfl rfl (fun w hw => ⟨_, I6, [], rfl, hIc, hw.drop, gp_bad (gapE_high hck hno hf hE hhi) (by decide)⟩)
                  | exact at_ret3 rfl rfl rfl rfl (fun w hw => ⟨_, I6, [], rfl, hIc, hw.drop, .good (gapE_ok hck hno hf hE hhi) (by rw [hown]) (by rw [hown]) hX hY⟩)
end Go.Proofs.Ytgfggmmffmfolaa
