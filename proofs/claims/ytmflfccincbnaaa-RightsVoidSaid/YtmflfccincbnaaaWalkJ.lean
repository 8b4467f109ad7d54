/- The walks of the register of rights, tenth part: each function comes to its Lean function. -/
import Derived.Test.YtmflfccincbnaaaWalkI
import Derived.Test.YtmflfccincbnaaaPlain
import Derived.Test.YtmflfccincbnaaaShelf
namespace Go.Proofs.Ytmflfccincbnaaa
open Go Go.Kn Go.Proofs
theorem w_parts {I : HMap} {av : Option Addr} {n c : Nat} {xs : List Rt} (hS : Sl I 11 encR av n c xs) (hn : n ≤ 100000) (kind ed day time : Int) : RetM Try.prog 34 [.slice av n c, .int .i64 kind, .int .i64 ed, .int .i64 day, .int .i64 time] I [] (fun v I' L => L = [] ∧ ∃ r, v = .map (some r) ∧ I' r = some (mapO encK2 .bool (partsM kind ed (standF xs day time)))) := by
  intro g H w hw
  refine enterM Try.func34 rfl Try.ntmps34 rfl hw ?_
  refine X_seq ?_
  refine X_region ?_
  refine XO_box rfl rfl rfl (fun b_6 => ?_)
  refine XO_box rfl rfl rfl (fun b_7 => ?_)
  refine XO_v0 (ev_assign rfl) rfl rfl rfl ?_
  refine XO_nil ?_
  refine at_then ?_
  refine X_seq ?_
  refine X_region ?_
  refine XO_makeMap rfl rfl (fun r_13 => ?_)
  refine XO_alloc zt_64 rfl rfl (fun b_11 => ?_)
  refine XO_store rfl rfl szt_64 rfl rfl (by first | exact Upd.u0 | exact Upd.u1 | exact Upd.u2 | exact Upd.u3 | exact Upd.u4 | exact Upd.u5) rfl ?_
  refine XO_nil ?_
  refine at_then ?_
  refine X_seq ?_
  refine X_seq ?_
  refine X_region ?_
  refine XO_v0 (ev_move rfl) rfl rfl rfl ?_
  refine XO_v0 (ev_move rfl) rfl rfl rfl ?_
  refine XO_v0 (ev_move rfl) rfl rfl rfl ?_
  refine XO_callM (cap := []) (vs := [_, _, _]) rfl rfl fun_27 .nil (w_standing hS hn _ _) rfl rfl ?_
  rintro v I' L' hI' ⟨rfl, b1, b2, b3, b4, rfl, hcap⟩
  refine XO_nil ?_
  refine at_then ?_
  refine X_block ?_
  refine X_rangeFunc (enc := encA) (fun pre I' loc' => loc' = [(b_11, .cells #[.map (some r_13)] 64 (0, 0)), (r_13, mapO encK2 .bool (partsM kind ed pre)), (b_7, .cells #[.int .i64 ed] 3 (0, 0)), (b_6, .cells #[.int .i64 kind] 3 (0, 0))]) (fun _ _ _ _ => False) (fun pre x E2 I2 loc2 => ∃ b12, E2 = [(6, .pointer (some ⟨b_6, 0, none⟩)), (7, .pointer (some ⟨b_7, 0, none⟩)), (11, .pointer (some ⟨b_11, 0, none⟩)), (12, .pointer (some ⟨b12, 0, none⟩))] ∧ loc2 = (b12, .cells (encR x).toArray 45 (0, 0)) :: [(b_11, .cells #[.map (some r_13)] 64 (0, 0)), (r_13, mapO encK2 .bool (partsM kind ed pre)), (b_7, .cells #[.int .i64 ed] 3 (0, 0)), (b_6, .cells #[.int .i64 kind] 3 (0, 0))]) rfl fun39 (w_iter (hS.mono hI') hn hcap) rfl rfl ?_ ?_ ?_ ?_
  · rintro l pre x I1 loc1 H1 hpre hI1 rfl
    refine X_region ?_
    refine XO_alloc zt_45 rfl rfl (fun b_12 => ?_)
    refine XO_storeA rfl rfl szt_45 rfl rfl rfl rfl (by first | exact Upd.u0 | exact Upd.u1 | exact Upd.u2 | exact Upd.u3 | exact Upd.u4 | exact Upd.u5) ?_
    refine XO_nil ?_
    exact at_met' _ ⟨HLe.refl _, b_12, rfl, rfl⟩ (.cons rfl (.cons rfl (.cons rfl (.cons rfl .nil))))
  · rintro l pre x E2 I2 loc2 H2 hpre hI2 ⟨b12, rfl, rfl⟩
    refine X_block ?_
    refine X_seq ?_
    refine X_region ?_
    refine XO_v0 (ev_fieldAddr rfl fld_45_1) rfl rfl rfl ?_
    refine XO_v0 (ev_load rfl sct_3 (fun hg => by first | exact Cell.lft (Cell.h0 rfl) | exact Cell.h0 rfl | exact Cell.h1 rfl | exact Cell.h2 rfl | exact Cell.h3 rfl | exact Cell.h4 rfl | exact Cell.h5 rfl)) rfl rfl rfl ?_
    refine XO_v0 (ev_load rfl sct_3 (fun hg => by first | exact Cell.lft (Cell.h0 rfl) | exact Cell.h0 rfl | exact Cell.h1 rfl | exact Cell.h2 rfl | exact Cell.h3 rfl | exact Cell.h4 rfl | exact Cell.h5 rfl)) rfl rfl rfl ?_
    refine XO_v0 (ev_cmp rfl rfl rfl) rfl rfl rfl ?_
    refine XO_v0 (ev_move rfl) rfl rfl rfl ?_
    refine XO_pushT 4 rfl rfl rfl ?_
    refine XO_v1 (ev_fieldAddr rfl fld_45_2) (.some rfl rfl rfl rfl gbt) rfl rfl rfl ?_
    refine XO_v1 (ev_load rfl sct_3 (fun hg => by first | exact Cell.lft (Cell.h0 rfl) | exact Cell.h0 rfl | exact Cell.h1 rfl | exact Cell.h2 rfl | exact Cell.h3 rfl | exact Cell.h4 rfl | exact Cell.h5 rfl)) (.some rfl rfl rfl rfl gbt) rfl rfl rfl ?_
    refine XO_v1 (ev_load rfl sct_3 (fun hg => by first | exact Cell.lft (Cell.h0 rfl) | exact Cell.h0 rfl | exact Cell.h1 rfl | exact Cell.h2 rfl | exact Cell.h3 rfl | exact Cell.h4 rfl | exact Cell.h5 rfl)) (.some rfl rfl rfl rfl gbt) rfl rfl rfl ?_
    refine XO_v1 (ev_cmp rfl rfl rfl) (.some rfl rfl rfl rfl gbt) rfl rfl rfl ?_
    refine XO_and0 rfl rfl rfl rfl rfl ?_
    refine XO_nil ?_
    refine at_then ?_
    refine X_cond rfl (fun hc28 => ?_) (fun hc28 => ?_)
    · skip
      refine X_region ?_
      refine XO_v0 (ev_load rfl sct_64 (fun hg => by first | exact Cell.lft (Cell.h0 rfl) | exact Cell.h0 rfl | exact Cell.h1 rfl | exact Cell.h2 rfl | exact Cell.h3 rfl | exact Cell.h4 rfl | exact Cell.h5 rfl)) rfl rfl rfl ?_
      refine XO_v0 (ev_fieldAddr rfl fld_45_3) rfl rfl rfl ?_
      refine XO_v0 (ev_load rfl sct_3 (fun hg => by first | exact Cell.lft (Cell.h0 rfl) | exact Cell.h0 rfl | exact Cell.h1 rfl | exact Cell.h2 rfl | exact Cell.h3 rfl | exact Cell.h4 rfl | exact Cell.h5 rfl)) rfl rfl rfl ?_
      refine XO_v0 (ev_fieldAddr rfl fld_45_4) rfl rfl rfl ?_
      refine XO_v0 (ev_load rfl sct_3 (fun hg => by first | exact Cell.lft (Cell.h0 rfl) | exact Cell.h0 rfl | exact Cell.h1 rfl | exact Cell.h2 rfl | exact Cell.h3 rfl | exact Cell.h4 rfl | exact Cell.h5 rfl)) rfl rfl rfl ?_
      refine XO_v0 (ev_buildL (ps := [(0, _), (1, _)]) [_, _] plt_68 rfl rfl) rfl rfl rfl ?_
      refine XO_mapUpdate (m := partsM kind ed pre) (a := (x.holder, x.sign)) (ek := encK2) (ev := .bool) true mpt_64 key_68 rfl rfl rfl rfl (by first | exact Upd.u0 | exact Upd.u1 | exact Upd.u2 | exact Upd.u3 | exact Upd.u4 | exact Upd.u5) ?_
      refine XO_nil ?_
      refine at_block_n ?_
      first
      | exact at_round2 ⟨HLe.refl _, by rw [partsM_snoc, if_pos (show partP kind ed x = true from hc28)]⟩ (.drop .refl)
      | exact at_round2 ⟨HLe.refl _, by rw [partsM_snoc, if_neg (show ¬ partP kind ed x = true from by rw [show partP kind ed x = false from hc28]; exact Bool.false_ne_true)]⟩ (.drop .refl)
    · skip
      refine X_skip ?_
      refine at_block_n ?_
      first
      | exact at_round2 ⟨HLe.refl _, by rw [partsM_snoc, if_pos (show partP kind ed x = true from hc28)]⟩ (.drop .refl)
      | exact at_round2 ⟨HLe.refl _, by rw [partsM_snoc, if_neg (show ¬ partP kind ed x = true from by rw [show partP kind ed x = false from hc28]; exact Bool.false_ne_true)]⟩ (.drop .refl)
  · rintro bd I1 loc1 hI1 rfl
    refine at_block_n ?_
    refine at_then ?_
    refine X_seq ?_
    refine X_region ?_
    refine XO_v0 (ev_load rfl sct_64 (fun hg => by first | exact Cell.lft (Cell.h0 rfl) | exact Cell.h0 rfl | exact Cell.h1 rfl | exact Cell.h2 rfl | exact Cell.h3 rfl | exact Cell.h4 rfl | exact Cell.h5 rfl)) rfl rfl rfl ?_
    refine XO_v0 (ev_assign rfl) rfl rfl rfl ?_
    refine XO_nil ?_
    refine at_then ?_
    refine X_ret ?_
    exact at_retM (fun a ha w _ => res1 rfl rfl a ha w) (upd_app (A := [_, _, _, _]) .here) (fun w hw => by obtain ⟨I2, h1, h2, h3⟩ := hw.freezeAll; exact ⟨_, I2, [], rfl, hI'.trans (hI1.trans h1), h2, rfl, r_13, rfl, h3 _ _ (by simp)⟩)
  · rintro c bd pre I1 loc1 hI1 hpre hF; exact hF.elim

theorem flat_int (zs : List Int) : zs.flatMap encI = zs.map (Value.int .i64) := by
  induction zs with
  | nil => rfl
  | cons z zs ih => rw [List.flatMap_cons, ih]; rfl
theorem own_len {e n : Nat} {v : Value} {zs : List Int} {L : Go.Kn.Loc} (h : OwnS e 1 v n (zs.map (Value.int .i64)) L) : zs.length = n := by have := h.1; simpa using this
/-- The holders who may stand for a part, in order, each once. -/
def holdF (sign : Int) (m : List ((Int × Int) × Bool)) : List Int := Lib.compact (sortI (pickL sign m))
theorem sort_perm {a b : List Int} (h : a.Perm b) : sortI a = sortI b := by
  unfold sortI
  refine List.Perm.eq_of_pairwise (le := fun a b => decide (a ≤ b) = true) (fun a b _ _ h1 h2 => ?_) (List.pairwise_mergeSort ?_ ?_ a) (List.pairwise_mergeSort ?_ ?_ b) ((List.mergeSort_perm _ _).trans (h.trans (List.mergeSort_perm _ _).symm))
  · simp at h1 h2; omega
  · intro a b c; simp; omega
  · intro a b; simp; omega
  · intro a b c; simp; omega
  · intro a b; simp; omega

theorem w_holders {I : HMap} {r : Nat} {mp : List ((Int × Int) × Bool)} (hm : I r = some (mapO encK2 .bool mp)) (hml : mp.length ≤ 100000) (sign : Int) : RetM Try.prog 33 [.map (some r), .int .i64 sign] I [] (SlRes 1 encI (holdF sign mp)) := by
  intro g H w hw
  refine enter Try.func33 rfl Try.ntmps33 rfl hw ?_
  refine X_seq ?_
  refine X_region ?_
  refine XO_v0 (ev_assign rfl) rfl rfl rfl ?_
  refine XO_nil ?_
  refine at_then ?_
  refine X_cut (fun E I' loc' => ∃ (zs : List Int) (v : Value) (q : Nat) (L : Go.Kn.Loc), E = [(0, .map (some r)), (1, .int .i64 sign), (4, v)] ∧ I' = I ∧ loc' = L ∧ OwnS 3 1 v q (zs.map (Value.int .i64)) L ∧ zs.Perm (pickL sign mp) ∧ q ≤ mp.length) ?_ ?_
  · skip
    refine X_seq ?_
    refine X_region ?_
    refine XO_v0 (ev_move rfl) rfl rfl rfl ?_
    refine XO_range (ek := encK2) (ev := .bool) (m := mp) rfl mpt_64 rfl rfl (.inl hm) (fun b_7 => ?_)
    refine XO_nil ?_
    refine at_then ?_
    refine X_block ?_
    refine X_loop (fun m E I' loc' => ∃ (seen : List Nat) (v : Value) (q : Nat) (L : Go.Kn.Loc), m = mp.length - seen.length ∧ E = [(0, .map (some r)), (1, .int .i64 sign), (4, v), (7, .pointer (some ⟨b_7, 0, none⟩))] ∧ I' = I ∧ loc' = L ++ [(b_7, iterO r mp.length seen)] ∧ OwnS 3 1 v q ((pickS mp sign seen).flatMap encI) L ∧ q ≤ seen.length ∧ seen.Nodup ∧ ∀ i ∈ seen, i < mp.length) _ _ _ _ ⟨[], _, 0, [], rfl, rfl, rfl, rfl, OwnS.nil, Nat.le_refl _, .nil, fun i h => by cases h⟩ (.cons rfl (.cons rfl (.cons rfl (.cons rfl .nil)))) (HLe.refl _) rfl ?_
    rintro m E I' loc' ⟨seen, v, q, L, rfl, rfl, rfl, rfl, hO, hq, hnd, hlt⟩
    have hsl := seen_lt hnd hlt
    refine X_seq ?_
    refine X_region ?_
    refine XO_next2 (ek := encK2) (ev := .bool) (m := mp) (fun s => L ++ [(b_7, iterO r mp.length s)]) rfl (fun s => upd_app .here) rfl rfl rfl rfl rfl (.inl hm) (by simp) ?_
    intro t tv s' hno hyes
    refine XO_nil ?_
    refine at_then ?_
    refine X_seq ?_
    refine X_cond rfl (fun hc9 => ?_) (fun hc9 => ?_)
    · skip
      obtain ⟨i, p, hp, hns, rfl⟩ := hyes hc9
      refine X_skip ?_
      refine at_then ?_
      refine X_block ?_
      refine X_seq ?_
      refine X_region ?_
      refine XO_v0 (ev_entry (ek := encK2) (ev := .bool) (m := mp) (p := p) (seen := seen) (i := i) rfl (.inl hm) (.inr (by simp)) hp) rfl rfl rfl ?_
      refine XO_v0 (ev_extract rfl rfl) rfl rfl rfl ?_
      refine XO_alloc zt_68 rfl rfl (fun b_5 => ?_)
      refine XO_storeA rfl rfl szt_68 rfl rfl rfl rfl (by first | exact Upd.u0 | exact Upd.u1 | exact Upd.u2 | exact Upd.u3 | exact Upd.u4 | exact Upd.u5) ?_
      refine XO_nil ?_
      refine at_then ?_
      refine X_seq ?_
      refine X_region ?_
      refine XO_v0 (ev_fieldAddr rfl fld_68_1) rfl rfl rfl ?_
      refine XO_v0 (ev_load rfl sct_3 (fun hg => by first | exact Cell.h0 rfl | exact Cell.h1 rfl | exact Cell.h2 rfl | exact Cell.h3 rfl | exact Cell.h4 rfl | exact Cell.h5 rfl)) rfl rfl rfl ?_
      refine XO_v0 (ev_cmp rfl rfl rfl) rfl rfl rfl ?_
      refine XO_v0 (ev_move rfl) rfl rfl rfl ?_
      refine XO_pushF 3 rfl rfl rfl ?_
      refine XO_v1 (ev_fieldAddr rfl fld_68_1) (.some rfl rfl rfl rfl gbf) rfl rfl rfl ?_
      refine XO_v1 (ev_load rfl sct_3 (fun hg => by first | exact Cell.h0 rfl | exact Cell.h1 rfl | exact Cell.h2 rfl | exact Cell.h3 rfl | exact Cell.h4 rfl | exact Cell.h5 rfl)) (.some rfl rfl rfl rfl gbf) rfl rfl rfl ?_
      refine XO_v1 (ev_move rfl) (.some rfl rfl rfl rfl gbf) rfl rfl rfl ?_
      refine XO_v1 (ev_ar rfl rfl rfl) (.some rfl rfl rfl rfl gbf) rfl rfl rfl ?_
      refine XO_v1 (ev_cmp rfl rfl rfl) (.some rfl rfl rfl rfl gbf) rfl rfl rfl ?_
      refine XO_or0 rfl rfl rfl rfl rfl ?_
      refine XO_nil ?_
      refine at_then ?_
      refine X_cond rfl (fun hc21 => ?_) (fun hc21 => ?_)
      · skip
        refine X_region ?_
        refine XO_v0 (ev_move rfl) rfl rfl rfl ?_
        refine XO_v0 (ev_fieldAddr rfl fld_68_0) rfl rfl rfl ?_
        refine XO_v0 (ev_load rfl sct_3 (fun hg => by first | exact Cell.h0 rfl | exact Cell.h1 rfl | exact Cell.h2 rfl | exact Cell.h3 rfl | exact Cell.h4 rfl | exact Cell.h5 rfl)) rfl rfl rfl ?_
        refine XO_buildSlice (ps := [(0, _)]) (m := [encI p.1.1]) elt_31 rfl (.cons rfl (.nil)) rfl (by simp [encR_len, encI_len, encP_len]) (by decide) (by decide) rfl rfl (fun b_25 => ?_)
        refine XO_append (v := v) (ys := [encI p.1.1].flatten) (L := L) rfl rfl elt_31 hO (split_mid (A := [_, _]) (B := [_])) ⟨rfl, fun _ => rfl, Cells.here⟩ rfl (by omega) rfl rfl ?_
        intro v' L' hO' _
        refine XO_v0 (ev_assign rfl) rfl rfl rfl ?_
        refine XO_nil ?_
        refine at_block_n ?_
        have hnd2 : (seen ++ [i]).Nodup := List.nodup_append.2 ⟨hnd, by simp, fun a ha b hb e => hns (by simp at hb; subst hb; subst e; exact ha)⟩
        have hlt2 : ∀ j ∈ seen ++ [i], j < mp.length := fun j hj => (List.mem_append.1 hj).elim (hlt j) (fun h => by simp at h; subst h; exact (List.getElem?_eq_some_iff.1 hp).1)
        have hsl2 := seen_lt hnd2 hlt2
        rw [List.length_append, List.length_singleton] at hsl2
        first
        | exact at_met2 _ _ ⟨_, by rw [List.length_append, List.length_singleton]; omega, seen ++ [i], v', q + 1, L', rfl, rfl, rfl, rfl, by rw [pickS_yes hp hc21, List.flatMap_append]; simpa using hO', by rw [List.length_append, List.length_singleton]; omega, hnd2, hlt2⟩ (.cons rfl (.cons rfl (.cons rfl (.cons rfl .nil)))) (subL_app (.drop (.drop .refl)))
        | exact at_met2 _ _ ⟨_, by rw [List.length_append, List.length_singleton]; omega, seen ++ [i], v, q, L, rfl, rfl, rfl, rfl, by rw [pickS_no hp hc21]; exact hO, by rw [List.length_append, List.length_singleton]; omega, hnd2, hlt2⟩ (.cons rfl (.cons rfl (.cons rfl (.cons rfl .nil)))) (.drop .refl)
      · skip
        refine X_skip ?_
        refine at_block_n ?_
        have hnd2 : (seen ++ [i]).Nodup := List.nodup_append.2 ⟨hnd, by simp, fun a ha b hb e => hns (by simp at hb; subst hb; subst e; exact ha)⟩
        have hlt2 : ∀ j ∈ seen ++ [i], j < mp.length := fun j hj => (List.mem_append.1 hj).elim (hlt j) (fun h => by simp at h; subst h; exact (List.getElem?_eq_some_iff.1 hp).1)
        have hsl2 := seen_lt hnd2 hlt2
        rw [List.length_append, List.length_singleton] at hsl2
        first
        | exact at_met2 _ _ ⟨_, by rw [List.length_append, List.length_singleton]; omega, seen ++ [i], v', q + 1, L', rfl, rfl, rfl, rfl, by rw [pickS_yes hp hc21, List.flatMap_append]; simpa using hO', by rw [List.length_append, List.length_singleton]; omega, hnd2, hlt2⟩ (.cons rfl (.cons rfl (.cons rfl (.cons rfl .nil)))) (subL_app (.drop (.drop .refl)))
        | exact at_met2 _ _ ⟨_, by rw [List.length_append, List.length_singleton]; omega, seen ++ [i], v, q, L, rfl, rfl, rfl, rfl, by rw [pickS_no hp hc21]; exact hO, by rw [List.length_append, List.length_singleton]; omega, hnd2, hlt2⟩ (.cons rfl (.cons rfl (.cons rfl (.cons rfl .nil)))) (.drop .refl)
    · skip
      obtain ⟨rfl, hall⟩ := hno hc9
      refine X_exit ?_
      refine at_then_e ?_
      refine at_then_e ?_
      refine at_block_hit ?_
      exact at_met2 _ _ ⟨_, v, q, L, rfl, rfl, rfl, by rw [← flat_int]; exact hO, pickS_perm (seen_perm hnd hlt hall), by omega⟩ (.cons rfl (.cons rfl (.cons rfl .nil))) subL_left
  · rintro E I' loc' ⟨zs, v, q, L, rfl, rfl, rfl, hO, hperm, hq⟩
    refine X_seq ?_
    refine X_region ?_
    refine XO_v0 (ev_move rfl) rfl rfl rfl ?_
    refine XO_callM (cap := []) (vs := [_]) rfl rfl fun_48 split_all (w_sort 3 zs hO (by omega) _) rfl rfl ?_
    rintro u I1 L' hI1 ⟨rfl, rfl, hO⟩
    rw [List.append_nil]
    refine XO_nil ?_
    refine at_then ?_
    refine X_seq ?_
    refine X_region ?_
    refine XO_v0 (ev_move rfl) rfl rfl rfl ?_
    refine XO_callM (cap := []) (vs := [_]) rfl rfl fun_49 split_all (w_compact 3 _ hO (by omega) _) rfl rfl ?_
    rintro u I1 L2 hI1 ⟨rfl, hO⟩
    rw [List.append_nil]
    rw [sort_perm hperm, ← flat_int] at hO
    refine XO_v0 (ev_assign rfl) rfl rfl rfl ?_
    refine XO_nil ?_
    refine at_then ?_
    refine X_ret ?_
    exact at_ret1 rfl rfl (fun w hw => by obtain ⟨I2, h1, h2, h3⟩ := OwnS.res hO encI_len (by decide) hw; exact ⟨_, I2, [], rfl, h1, h2, h3⟩)
end Go.Proofs.Ytmflfccincbnaaa
