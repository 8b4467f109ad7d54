/- Lessons: the walks, WalkH: each function comes to its Lean function. -/
import Derived.Test.YtgfggmmffmfolaaWalkG
import Derived.Test.YtgfggmmffmfolaaPlainV
namespace Go.Proofs.Ytgfggmmffmfolaa
open Go Go.Kn Go.Proofs
theorem w_versions {I : HMap} {av : Option Addr} {n c : Nat} {xs : List Ls} (hS : Sl I 5 encL av n c xs) (hn : n ≤ 100000) (day time : Int) : RetM Try.prog 34 [.slice av n c, .int .i64 day, .int .i64 time] I [] (fun v I' L => L = [] ∧ ∃ r, v = .map (some r) ∧ I' r = some (mapO (.int .i64) encA (versM (xs.filter (knownP day time))))) := by
  intro g H w hw
  refine enterM Try.func34 rfl Try.ntmps34 rfl hw ?_
  refine X_seq ?_
  refine X_region ?_
  refine XO_v0 (ev_assign rfl) rfl rfl rfl ?_
  refine XO_nil ?_
  refine at_then ?_
  refine X_seq ?_
  refine X_region ?_
  refine XO_alloc zt_71 rfl rfl (fun b_7 => ?_)
  refine XO_store rfl rfl szt_71 rfl rfl (by first | exact Upd.u0 | exact Upd.u1 | exact Upd.u2 | exact Upd.u3 | exact Upd.u4 | exact Upd.u5 | (repeat (first | exact Upd.here | apply Upd.there | apply upd_app))) rfl ?_
  refine XO_nil ?_
  refine at_then ?_
  refine X_seq ?_
  refine X_region ?_
  refine XO_makeMap rfl rfl (fun r_12 => ?_)
  refine XO_alloc zt_57 rfl rfl (fun b_8 => ?_)
  refine XO_store rfl rfl szt_57 rfl rfl (by first | exact Upd.u0 | exact Upd.u1 | exact Upd.u2 | exact Upd.u3 | exact Upd.u4 | exact Upd.u5 | (repeat (first | exact Upd.here | apply Upd.there | apply upd_app))) rfl ?_
  refine XO_nil ?_
  refine at_then ?_
  refine X_seq ?_
  refine X_seq ?_
  refine X_region ?_
  refine XO_v0 (ev_move rfl) rfl rfl rfl ?_
  refine XO_v0 (ev_move rfl) rfl rfl rfl ?_
  refine XO_v0 (ev_move rfl) rfl rfl rfl ?_
  refine XO_callM (cap := []) (vs := [_, _, _]) rfl rfl fun_52 .nil (w_known _ _ _ _ _ _) rfl rfl ?_
  rintro v I' L' hI' ⟨rfl, b1, b2, b3, rfl, hcap⟩
  refine XO_nil ?_
  refine at_then ?_
  refine X_block ?_
  refine X_rangeFunc (enc := encA) (fun pre I' loc' => loc' = [(b_8, .cells #[.map (some r_12)] 57 (0, 0)), (r_12, mapO (.int .i64) encA (versM pre)), (b_7, .cells #[.func (.func 51) #[] #[]] 71 (0, 0))]) (fun _ _ _ _ => False) (fun pre x E2 I2 loc2 => ∃ b9, E2 = [(7, .pointer (some ⟨b_7, 0, none⟩)), (8, .pointer (some ⟨b_8, 0, none⟩)), (9, .pointer (some ⟨b9, 0, none⟩))] ∧ loc2 = (b9, .cells (encL x).toArray 47 (0, 0)) :: [(b_8, .cells #[.map (some r_12)] 57 (0, 0)), (r_12, mapO (.int .i64) encA (versM pre)), (b_7, .cells #[.func (.func 51) #[] #[]] 71 (0, 0))]) rfl fun_60 (w_iter (hS.mono hI') hn hcap) rfl rfl ?_ ?_ ?_ ?_
  · rintro l pre x I1 loc1 H1 hpre hI1 rfl
    refine X_region ?_
    refine XO_alloc zt_47 rfl rfl (fun b_9 => ?_)
    refine XO_storeA rfl rfl szt_47 rfl rfl rfl rfl (by first | exact Upd.u0 | exact Upd.u1 | exact Upd.u2 | exact Upd.u3 | exact Upd.u4 | exact Upd.u5 | (repeat (first | exact Upd.here | apply Upd.there | apply upd_app))) ?_
    refine XO_nil ?_
    exact at_met' _ ⟨HLe.refl _, b_9, rfl, rfl⟩ (.cons rfl (.cons rfl (.cons rfl .nil)))
  · rintro l pre x E2 I2 loc2 H2 hpre hI2 ⟨b9, rfl, rfl⟩
    cases hm : mget (versM pre) x.person with
    | none =>
      refine X_block ?_
      refine X_seq ?_
      refine X_region ?_
      refine XO_v0 (ev_load rfl sct_57 (fun hg => by first | exact Cell.h0 rfl | exact Cell.h1 rfl | exact Cell.h2 rfl | exact Cell.h3 rfl | exact Cell.h4 rfl | exact Cell.h5 rfl | (repeat (first | exact Cell.here rfl | apply Cell.there | apply Cell.app)))) rfl rfl rfl ?_
      refine XO_v0 (ev_fieldAddr rfl fld_47_1) rfl rfl rfl ?_
      refine XO_v0 (ev_load rfl sct_3 (fun hg => by first | exact Cell.h0 rfl | exact Cell.h1 rfl | exact Cell.h2 rfl | exact Cell.h3 rfl | exact Cell.h4 rfl | exact Cell.h5 rfl | (repeat (first | exact Cell.here rfl | apply Cell.there | apply Cell.app)))) rfl rfl rfl ?_
      refine XO_v0 (ev_lookupOkN hm (m := versM pre) (ek := Value.int .i64) (ev := encA) (a := x.person) mpt_57 key_3 rfl rfl (fun _ => (by repeat (first | exact Mem.m0 | apply Mem.there | apply Mem.app)))) rfl rfl rfl ?_
      refine XO_v0 (ev_move rfl) rfl rfl rfl ?_
      refine XO_v0 (ev_extract rfl rfl) rfl rfl rfl ?_
      refine XO_v0 (ev_extract rfl rfl) rfl rfl rfl ?_
      refine XO_alloc zt_47 rfl rfl (fun b_10 => ?_)
      refine XO_storeA rfl rfl szt_47 rfl rfl rfl rfl (by first | exact Upd.u0 | exact Upd.u1 | exact Upd.u2 | exact Upd.u3 | exact Upd.u4 | exact Upd.u5 | (repeat (first | exact Upd.here | apply Upd.there | apply upd_app))) ?_
      refine XO_v0 (ev_assign rfl) rfl rfl rfl ?_
      refine XO_nil ?_
      refine at_then ?_
      refine X_seq ?_
      refine X_region ?_
      refine XO_v0 (ev_move rfl) rfl rfl rfl ?_
      refine XO_v0 (ev_not rfl) rfl rfl rfl ?_
      refine XO_v0 (ev_move rfl) rfl rfl rfl ?_
      refine XO_pushF 2 rfl rfl rfl ?_
      refine XO_v1 (ev_load rfl sct_71 (fun hg => by first | exact Cell.h0 rfl | exact Cell.h1 rfl | exact Cell.h2 rfl | exact Cell.h3 rfl | exact Cell.h4 rfl | exact Cell.h5 rfl | (repeat (first | exact Cell.here rfl | apply Cell.there | apply Cell.app)))) (.some rfl rfl rfl rfl gbf) rfl rfl rfl ?_
      refine XO_v1 (ev_loadA rfl agt_47 (fun hg => by first | exact Cells.g0 | exact Cells.g1 | exact Cells.g2 | exact Cells.g3 | exact Cells.g4 | exact Cells.g5 | (repeat (first | exact Cells.here | apply Cells.there | apply Cells.app))) rfl) (.some rfl rfl rfl rfl gbf) rfl rfl rfl ?_
      refine XO_v1 (ev_loadA rfl agt_47 (fun hg => by first | exact Cells.g0 | exact Cells.g1 | exact Cells.g2 | exact Cells.g3 | exact Cells.g4 | exact Cells.g5 | (repeat (first | exact Cells.here | apply Cells.there | apply Cells.app))) rfl) (.some rfl rfl rfl rfl gbf) rfl rfl rfl ?_
      refine XO_callV1 (cap := []) (vs := [_, _]) rfl rfl fun_51 (fun hg => w_compare _ x zeroL) (.some rfl rfl rfl rfl gbf) rfl rfl ?_
      refine XO_v1 (ev_cmp rfl rfl rfl) (.some rfl rfl rfl rfl gbf) rfl rfl rfl ?_
      refine XO_or0 rfl rfl rfl rfl rfl ?_
      refine XO_nil ?_
      refine at_then ?_
      refine X_cond rfl (fun hc33 => ?_) (fun hc33 => ?_)
      · skip
        refine X_region ?_
        refine XO_v0 (ev_load rfl sct_57 (fun hg => by first | exact Cell.h0 rfl | exact Cell.h1 rfl | exact Cell.h2 rfl | exact Cell.h3 rfl | exact Cell.h4 rfl | exact Cell.h5 rfl | (repeat (first | exact Cell.here rfl | apply Cell.there | apply Cell.app)))) rfl rfl rfl ?_
        refine XO_v0 (ev_fieldAddr rfl fld_47_1) rfl rfl rfl ?_
        refine XO_v0 (ev_load rfl sct_3 (fun hg => by first | exact Cell.h0 rfl | exact Cell.h1 rfl | exact Cell.h2 rfl | exact Cell.h3 rfl | exact Cell.h4 rfl | exact Cell.h5 rfl | (repeat (first | exact Cell.here rfl | apply Cell.there | apply Cell.app)))) rfl rfl rfl ?_
        refine XO_v0 (ev_loadA rfl agt_47 (fun hg => by first | exact Cells.g0 | exact Cells.g1 | exact Cells.g2 | exact Cells.g3 | exact Cells.g4 | exact Cells.g5 | (repeat (first | exact Cells.here | apply Cells.there | apply Cells.app))) rfl) rfl rfl rfl ?_
        refine XO_mapUpdate (m := versM pre) (ek := Value.int .i64) (ev := encA) (a := x.person) x mpt_57 key_3 rfl rfl rfl rfl (by first | exact Upd.u0 | exact Upd.u1 | exact Upd.u2 | exact Upd.u3 | exact Upd.u4 | exact Upd.u5 | (repeat (first | exact Upd.here | apply Upd.there | apply upd_app))) ?_
        refine XO_nil ?_
        refine at_block_n ?_
        first
        | exact at_round2 ⟨HLe.refl _, by rw [versM_snoc, vStep, if_pos (by rw [hm]; first | rfl | (rw [cmp3_later] at hc33; simpa [bestO] using hc33))]⟩ (.drop (.drop .refl))
        | exact at_round2 ⟨HLe.refl _, by rw [versM_snoc, vStep, if_neg (by rw [hm]; rw [cmp3_later] at hc33; simpa [bestO] using hc33)]⟩ (.drop (.drop .refl))
      · skip
        exact absurd hc33 (by simp)
    | some y =>
      refine X_block ?_
      refine X_seq ?_
      refine X_region ?_
      refine XO_v0 (ev_load rfl sct_57 (fun hg => by first | exact Cell.h0 rfl | exact Cell.h1 rfl | exact Cell.h2 rfl | exact Cell.h3 rfl | exact Cell.h4 rfl | exact Cell.h5 rfl | (repeat (first | exact Cell.here rfl | apply Cell.there | apply Cell.app)))) rfl rfl rfl ?_
      refine XO_v0 (ev_fieldAddr rfl fld_47_1) rfl rfl rfl ?_
      refine XO_v0 (ev_load rfl sct_3 (fun hg => by first | exact Cell.h0 rfl | exact Cell.h1 rfl | exact Cell.h2 rfl | exact Cell.h3 rfl | exact Cell.h4 rfl | exact Cell.h5 rfl | (repeat (first | exact Cell.here rfl | apply Cell.there | apply Cell.app)))) rfl rfl rfl ?_
      refine XO_v0 (ev_lookupOkS hm (m := versM pre) (ek := Value.int .i64) (ev := encA) (a := x.person) mpt_57 key_3 rfl rfl (fun _ => (by repeat (first | exact Mem.m0 | apply Mem.there | apply Mem.app)))) rfl rfl rfl ?_
      refine XO_v0 (ev_move rfl) rfl rfl rfl ?_
      refine XO_v0 (ev_extract rfl rfl) rfl rfl rfl ?_
      refine XO_v0 (ev_extract rfl rfl) rfl rfl rfl ?_
      refine XO_alloc zt_47 rfl rfl (fun b_10 => ?_)
      refine XO_storeA rfl rfl szt_47 rfl rfl rfl rfl (by first | exact Upd.u0 | exact Upd.u1 | exact Upd.u2 | exact Upd.u3 | exact Upd.u4 | exact Upd.u5 | (repeat (first | exact Upd.here | apply Upd.there | apply upd_app))) ?_
      refine XO_v0 (ev_assign rfl) rfl rfl rfl ?_
      refine XO_nil ?_
      refine at_then ?_
      refine X_seq ?_
      refine X_region ?_
      refine XO_v0 (ev_move rfl) rfl rfl rfl ?_
      refine XO_v0 (ev_not rfl) rfl rfl rfl ?_
      refine XO_v0 (ev_move rfl) rfl rfl rfl ?_
      refine XO_pushF 2 rfl rfl rfl ?_
      refine XO_v1 (ev_load rfl sct_71 (fun hg => by first | exact Cell.h0 rfl | exact Cell.h1 rfl | exact Cell.h2 rfl | exact Cell.h3 rfl | exact Cell.h4 rfl | exact Cell.h5 rfl | (repeat (first | exact Cell.here rfl | apply Cell.there | apply Cell.app)))) (.some rfl rfl rfl rfl gbf) rfl rfl rfl ?_
      refine XO_v1 (ev_loadA rfl agt_47 (fun hg => by first | exact Cells.g0 | exact Cells.g1 | exact Cells.g2 | exact Cells.g3 | exact Cells.g4 | exact Cells.g5 | (repeat (first | exact Cells.here | apply Cells.there | apply Cells.app))) rfl) (.some rfl rfl rfl rfl gbf) rfl rfl rfl ?_
      refine XO_v1 (ev_loadA rfl agt_47 (fun hg => by first | exact Cells.g0 | exact Cells.g1 | exact Cells.g2 | exact Cells.g3 | exact Cells.g4 | exact Cells.g5 | (repeat (first | exact Cells.here | apply Cells.there | apply Cells.app))) rfl) (.some rfl rfl rfl rfl gbf) rfl rfl rfl ?_
      refine XO_callV1 (cap := []) (vs := [_, _]) rfl rfl fun_51 (fun hg => w_compare _ x y) (.some rfl rfl rfl rfl gbf) rfl rfl ?_
      refine XO_v1 (ev_cmp rfl rfl rfl) (.some rfl rfl rfl rfl gbf) rfl rfl rfl ?_
      refine XO_or0 rfl rfl rfl rfl rfl ?_
      refine XO_nil ?_
      refine at_then ?_
      refine X_cond rfl (fun hc33 => ?_) (fun hc33 => ?_)
      · skip
        refine X_region ?_
        refine XO_v0 (ev_load rfl sct_57 (fun hg => by first | exact Cell.h0 rfl | exact Cell.h1 rfl | exact Cell.h2 rfl | exact Cell.h3 rfl | exact Cell.h4 rfl | exact Cell.h5 rfl | (repeat (first | exact Cell.here rfl | apply Cell.there | apply Cell.app)))) rfl rfl rfl ?_
        refine XO_v0 (ev_fieldAddr rfl fld_47_1) rfl rfl rfl ?_
        refine XO_v0 (ev_load rfl sct_3 (fun hg => by first | exact Cell.h0 rfl | exact Cell.h1 rfl | exact Cell.h2 rfl | exact Cell.h3 rfl | exact Cell.h4 rfl | exact Cell.h5 rfl | (repeat (first | exact Cell.here rfl | apply Cell.there | apply Cell.app)))) rfl rfl rfl ?_
        refine XO_v0 (ev_loadA rfl agt_47 (fun hg => by first | exact Cells.g0 | exact Cells.g1 | exact Cells.g2 | exact Cells.g3 | exact Cells.g4 | exact Cells.g5 | (repeat (first | exact Cells.here | apply Cells.there | apply Cells.app))) rfl) rfl rfl rfl ?_
        refine XO_mapUpdate (m := versM pre) (ek := Value.int .i64) (ev := encA) (a := x.person) x mpt_57 key_3 rfl rfl rfl rfl (by first | exact Upd.u0 | exact Upd.u1 | exact Upd.u2 | exact Upd.u3 | exact Upd.u4 | exact Upd.u5 | (repeat (first | exact Upd.here | apply Upd.there | apply upd_app))) ?_
        refine XO_nil ?_
        refine at_block_n ?_
        first
        | exact at_round2 ⟨HLe.refl _, by rw [versM_snoc, vStep, if_pos (by rw [hm]; first | rfl | (rw [cmp3_later] at hc33; simpa [bestO] using hc33))]⟩ (.drop (.drop .refl))
        | exact at_round2 ⟨HLe.refl _, by rw [versM_snoc, vStep, if_neg (by rw [hm]; rw [cmp3_later] at hc33; simpa [bestO] using hc33)]⟩ (.drop (.drop .refl))
      · skip
        refine X_skip ?_
        refine at_block_n ?_
        first
        | exact at_round2 ⟨HLe.refl _, by rw [versM_snoc, vStep, if_pos (by rw [hm]; first | rfl | (rw [cmp3_later] at hc33; simpa [bestO] using hc33))]⟩ (.drop (.drop .refl))
        | exact at_round2 ⟨HLe.refl _, by rw [versM_snoc, vStep, if_neg (by rw [hm]; rw [cmp3_later] at hc33; simpa [bestO] using hc33)]⟩ (.drop (.drop .refl))
  · rintro bd I1 loc1 hI1 rfl
    refine at_block_n ?_
    refine at_then ?_
    refine X_seq ?_
    refine X_region ?_
    refine XO_v0 (ev_load rfl sct_57 (fun hg => by first | exact Cell.h0 rfl | exact Cell.h1 rfl | exact Cell.h2 rfl | exact Cell.h3 rfl | exact Cell.h4 rfl | exact Cell.h5 rfl | (repeat (first | exact Cell.here rfl | apply Cell.there | apply Cell.app)))) rfl rfl rfl ?_
    refine XO_v0 (ev_assign rfl) rfl rfl rfl ?_
    refine XO_nil ?_
    refine at_then ?_
    refine X_ret ?_
    exact at_retM (fun a ha w _ => res1 rfl rfl a ha w) (upd_app (A := [_, _, _]) .here) (fun w hw => by obtain ⟨I2, h1, h2, h3⟩ := hw.freezeAll; exact ⟨_, I2, [], rfl, hI'.trans (hI1.trans h1), h2, rfl, r_12, rfl, h3 _ _ (by simp)⟩)
  · rintro c bd pre I1 loc1 hI1 hpre hF; exact hF.elim

theorem vers_val {m : List (Int × Ls)} {a : Int} : ((mget m a).map encA).getD (.agg #[.int .i64 0, .int .i64 0, .int .i64 0, .int .i64 0, .int .i64 0]) = encA ((mget m a).getD zeroL) := by
  cases mget m a <;> rfl

theorem w_Has {I : HMap} {av : Option Addr} {n c : Nat} {xs : List Ls} (hS : Sl I 5 encL av n c xs) (hn : n ≤ 100000) (person day time : Int) : RetV Try.prog 17 [.slice av n c, .int .i64 person, .int .i64 day, .int .i64 time] I (.tuple #[.int .i64 (hasV xs person day time), .int .i64 (hasE (chk xs) person day time)]) := by
  intro g H w hw
  refine enter Try.func17 rfl Try.ntmps17 rfl hw ?_
  have hIc := HLe.refl I
  refine X_seq ?_
  refine X_region ?_
  refine XO_v0 (ev_assign rfl) rfl rfl rfl ?_
  refine XO_v0 (ev_assign rfl) rfl rfl rfl ?_
  refine XO_nil ?_
  refine at_then ?_
  refine X_seq ?_
  refine X_seq ?_
  refine X_region ?_
  refine XO_v0 (ev_move rfl) rfl rfl rfl ?_
  refine XO_callV0 (cap := []) (vs := [_]) rfl rfl fun_14 (w_check hS hn) rfl rfl ?_
  refine XO_v0 (ev_assign rfl) rfl rfl rfl ?_
  refine XO_nil ?_
  refine at_then ?_
  refine X_seq ?_
  refine X_region ?_
  refine XO_v0 (ev_move rfl) rfl rfl rfl ?_
  refine XO_v0 (ev_cmp rfl rfl rfl) rfl rfl rfl ?_
  refine XO_nil ?_
  refine at_then ?_
  refine X_cond rfl (fun hc14 => ?_) (fun hc14 => ?_)
  · skip
    refine X_seq ?_
    refine X_region ?_
    refine XO_v0 (ev_move rfl) rfl rfl rfl ?_
    refine XO_v0 (ev_assign rfl) rfl rfl rfl ?_
    refine XO_v0 (ev_assign rfl) rfl rfl rfl ?_
    refine XO_nil ?_
    refine at_then ?_
    refine X_ret ?_
    refine at_then_r ?_
    first
    | exact at_ret2 rfl rfl rfl (fun w hw => ⟨by rw [hasV, hasE_chk (by simpa using hc14), if_pos (by simpa using hc14)], (hw.mono hIc).drop⟩)
    | exact at_ret2 rfl rfl rfl (fun w hw => ⟨by rw [hasV, hasE_arg (by simpa using hc14) hc24]; rfl, (hw.mono hIc).drop⟩)
    | exact at_ret2 rfl rfl rfl (fun w hw => ⟨by rw [hasV, hasE_ok (by simpa using hc14) hc24, has_vers]; rfl, (hw.mono hIc).drop⟩)
  · skip
    refine X_skip ?_
    refine at_then ?_
    refine X_seq ?_
    refine X_seq ?_
    refine X_region ?_
    refine XO_v0 (ev_move rfl) rfl rfl rfl ?_
    refine XO_callV0 (cap := []) (vs := [_, _, _]) rfl rfl fun_32 (w_within I _ _ _) rfl rfl ?_
    refine XO_v0 (ev_not rfl) rfl rfl rfl ?_
    refine XO_v0 (ev_move rfl) rfl rfl rfl ?_
    refine XO_pushF 3 rfl rfl rfl ?_
    refine XO_v1 (ev_move rfl) (.some rfl rfl rfl rfl gbf) rfl rfl rfl ?_
    refine XO_v1 (ev_move rfl) (.some rfl rfl rfl rfl gbf) rfl rfl rfl ?_
    refine XO_callV1 (cap := []) (vs := [_, _]) rfl rfl fun_33 (fun hg => w_then I _ _) (.some rfl rfl rfl rfl gbf) rfl rfl ?_
    refine XO_v1 (ev_not rfl) (.some rfl rfl rfl rfl gbf) rfl rfl rfl ?_
    refine XO_or0 rfl rfl rfl rfl rfl ?_
    refine XO_nil ?_
    refine at_then ?_
    refine X_cond rfl (fun hc24 => ?_) (fun hc24 => ?_)
    · skip
      refine X_seq ?_
      refine X_region ?_
      refine XO_v0 (ev_assign rfl) rfl rfl rfl ?_
      refine XO_v0 (ev_assign rfl) rfl rfl rfl ?_
      refine XO_nil ?_
      refine at_then ?_
      refine X_ret ?_
      refine at_then_r ?_
      first
      | exact at_ret2 rfl rfl rfl (fun w hw => ⟨by rw [hasV, hasE_chk (by simpa using hc14), if_pos (by simpa using hc14)], (hw.mono hIc).drop⟩)
      | exact at_ret2 rfl rfl rfl (fun w hw => ⟨by rw [hasV, hasE_arg (by simpa using hc14) hc24]; rfl, (hw.mono hIc).drop⟩)
      | exact at_ret2 rfl rfl rfl (fun w hw => ⟨by rw [hasV, hasE_ok (by simpa using hc14) hc24, has_vers]; rfl, (hw.mono hIc).drop⟩)
    · skip
      refine X_skip ?_
      refine at_then ?_
      refine X_seq ?_
      refine X_region ?_
      refine XO_v0 (ev_move rfl) rfl rfl rfl ?_
      refine XO_v0 (ev_move rfl) rfl rfl rfl ?_
      refine XO_v0 (ev_move rfl) rfl rfl rfl ?_
      refine XO_callM (cap := []) (vs := [_, _, _]) rfl rfl fun_34 .nil (w_versions hS hn _ _) rfl rfl ?_
      rintro vv1 I1 L1 hI1 ⟨rfl, r, rfl, hr⟩
      have hS := hS.mono hI1
      have hIc := hIc.trans hI1
      refine XO_v0 (ev_move rfl) rfl rfl rfl ?_
      refine XO_v0 (ev_lookup (m := versM (xs.filter (knownP day time))) (ek := Value.int .i64) (ev := encA) (a := person) mpt_57 key_3 rfl rfl (fun _ => .inl hr)) rfl rfl rfl ?_
      rw [vers_val]
      refine XO_v0 (ev_field rfl vfl_47_2 rfl) rfl rfl rfl ?_
      refine XO_v0 (ev_assign rfl) rfl rfl rfl ?_
      refine XO_v0 (ev_assign rfl) rfl rfl rfl ?_
      refine XO_nil ?_
      refine at_then ?_
      refine X_ret ?_
      first
      | exact at_ret2 rfl rfl rfl (fun w hw => ⟨by rw [hasV, hasE_chk (by simpa using hc14), if_pos (by simpa using hc14)], (hw.mono hIc).drop⟩)
      | exact at_ret2 rfl rfl rfl (fun w hw => ⟨by rw [hasV, hasE_arg (by simpa using hc14) hc24]; rfl, (hw.mono hIc).drop⟩)
      | exact at_ret2 rfl rfl rfl (fun w hw => ⟨by rw [hasV, hasE_ok (by simpa using hc14) hc24, has_vers]; rfl, (hw.mono hIc).drop⟩)

theorem flat_int (zs : List Int) : zs.flatMap encI = zs.map (Value.int .i64) := by
  induction zs with
  | nil => rfl
  | cons z zs ih => rw [List.flatMap_cons, ih]; rfl
end Go.Proofs.Ytgfggmmffmfolaa
