/- The walks of the register of rights, sixth part: each function comes to its Lean function. -/
import Derived.Test.YtmflfccincbnaaaWalkE
import Derived.Test.YtmflfccincbnaaaPlain
namespace Go.Proofs.Ytmflfccincbnaaa
open Go Go.Kn Go.Proofs
theorem stP_eq {xs : List Rt} {m : List (Int × Bool)} {day time : Int} (h : ∀ no, (mget m no).getD false = goneF xs time no) (x : Rt) : ((x.kind != 4) && decide (x.known ≤ time) && within day x.lo x.hi && !((mget m x.no).getD false)) = stP xs day time x := by
  rw [h]; rfl

theorem w_iter {I : HMap} {av : Option Addr} {n c : Nat} {xs : List Rt} (hS : Sl I 11 encR av n c xs) (hn : n ≤ 100000) {day time : Int} {b1 b2 b3 b4 : Nat} (hcap : StCap I av n c xs day time b1 b2 b3 b4) : SeqC Try.prog 39 [capP b1, capP b2, capP b3, capP b4] I encA (standF xs day time) := by
  intro g l J Jx hY I0 H w h0 hJ hw
  obtain ⟨r, m, h1, h2, h3, h4, h5, hgone⟩ := hcap
  have hS := hS.mono h0
  have h1 := h0 _ _ h1; have h2 := h0 _ _ h2; have h3 := h0 _ _ h3; have h4 := h0 _ _ h4; have h5 := h0 _ _ h5
  refine enter Try.func39 rfl Try.ntmps39 rfl hw ?_
  refine X_seq ?_
  refine X_region ?_
  refine XO_v0 (ev_load rfl sct_22 (fun hg => by first | exact Cell.imm h1 rfl | exact Cell.imm h2 rfl | exact Cell.imm h3 rfl | exact Cell.imm h4 rfl | exact Cell.h0 rfl | exact Cell.h1 rfl | exact Cell.h2 rfl | exact Cell.h3 rfl | exact Cell.h4 rfl | exact Cell.h5 rfl)) rfl rfl rfl ?_
  refine XO_v0 (ev_lenS rfl slt_22) rfl rfl rfl ?_
  refine XO_v0 (ev_move rfl) rfl rfl rfl ?_
  refine XO_nil ?_
  refine at_then ?_
  refine X_block ?_
  refine X_loopH (fun m E I' H' loc' => ∃ k : Nat, m = n - k ∧ E = [(0, .func (.yield l) #[] #[]), (1, capP b1), (2, capP b2), (3, capP b3), (4, capP b4), (8, .slice av n c), (9, .int .i64 n), (10, .int .i64 k)] ∧ loc' = [] ∧ HLe I0 I' ∧ k ≤ n ∧ J ((xs.take k).filter (stP xs day time)) I' H') _ _ _ ⟨0, rfl, rfl, rfl, HLe.refl _, Nat.zero_le _, hJ⟩ (.cons rfl (.cons rfl (.cons rfl (.cons rfl (.cons rfl (.cons rfl (.cons rfl (.cons rfl .nil)))))))) rfl ?_
  rintro m E I' H' loc' ⟨k, rfl, rfl, rfl, hI1, hk, hJk⟩
  have hS := hS.mono hI1
  have h1 := hI1 _ _ h1; have h2 := hI1 _ _ h2; have h3 := hI1 _ _ h3; have h4 := hI1 _ _ h4; have h5 := hI1 _ _ h5
  have hI0 := h0.trans hI1
  refine X_seq ?_
  refine X_region ?_
  refine XO_v0 (ev_cmp rfl rfl rfl) rfl rfl rfl ?_
  refine XO_nil ?_
  refine at_then ?_
  refine X_seq ?_
  refine X_cond rfl (fun hc11 => ?_) (fun hc11 => ?_)
  · skip
    have hlt : k < n := by simpa using hc11
    obtain ⟨x, hx⟩ := hS.at hlt
    refine X_skip ?_
    refine at_then ?_
    refine X_seq ?_
    refine X_block ?_
    refine X_seq ?_
    refine X_region ?_
    refine XO_v0 (ev_indexSl rfl rfl slt_22 (by assumption) (fun hg => by omega)) rfl rfl rfl ?_
    refine XO_v0 (ev_loadA rfl agt_45 (fun _ => by first | exact Sl.getA hS hx | exact Cells.g0 | exact Cells.g1 | exact Cells.g2 | exact Cells.g3 | exact Cells.g4 | exact Cells.g5) rfl) rfl rfl rfl ?_
    refine XO_alloc zt_45 rfl rfl (fun b_7 => ?_)
    refine XO_storeA rfl rfl szt_45 rfl rfl rfl rfl (by first | exact Upd.u0 | exact Upd.u1 | exact Upd.u2 | exact Upd.u3 | exact Upd.u4 | exact Upd.u5) ?_
    refine XO_nil ?_
    refine at_then ?_
    refine X_seq ?_
    have hp : ∀ {b : Bool} {G : Env}, conj [(b, G)] = true → b = ((x.kind != 4) && decide (x.known ≤ time) && within day x.lo x.hi && !((mget m x.no).getD false)) → stP xs day time x = true := fun h e => by rw [← stP_eq hgone, ← e]; simpa [conj] using h
    refine X_region ?_
    refine XO_v0 (ev_fieldAddr rfl fld_45_1) rfl rfl rfl ?_
    refine XO_v0 (ev_load rfl sct_3 (fun hg => by first | exact Cell.imm h1 rfl | exact Cell.imm h2 rfl | exact Cell.imm h3 rfl | exact Cell.imm h4 rfl | exact Cell.h0 rfl | exact Cell.h1 rfl | exact Cell.h2 rfl | exact Cell.h3 rfl | exact Cell.h4 rfl | exact Cell.h5 rfl)) rfl rfl rfl ?_
    refine XO_v0 (ev_cmp rfl rfl rfl) rfl rfl rfl ?_
    refine XO_v0 (ev_move rfl) rfl rfl rfl ?_
    refine XO_pushT 3 rfl rfl rfl ?_
    refine XO_v1 (ev_fieldAddr rfl fld_45_10) (.some rfl rfl rfl rfl gbt) rfl rfl rfl ?_
    refine XO_v1 (ev_load rfl sct_3 (fun hg => by first | exact Cell.imm h1 rfl | exact Cell.imm h2 rfl | exact Cell.imm h3 rfl | exact Cell.imm h4 rfl | exact Cell.h0 rfl | exact Cell.h1 rfl | exact Cell.h2 rfl | exact Cell.h3 rfl | exact Cell.h4 rfl | exact Cell.h5 rfl)) (.some rfl rfl rfl rfl gbt) rfl rfl rfl ?_
    refine XO_v1 (ev_load rfl sct_3 (fun hg => by first | exact Cell.imm h1 rfl | exact Cell.imm h2 rfl | exact Cell.imm h3 rfl | exact Cell.imm h4 rfl | exact Cell.h0 rfl | exact Cell.h1 rfl | exact Cell.h2 rfl | exact Cell.h3 rfl | exact Cell.h4 rfl | exact Cell.h5 rfl)) (.some rfl rfl rfl rfl gbt) rfl rfl rfl ?_
    refine XO_v1 (ev_cmp rfl rfl rfl) (.some rfl rfl rfl rfl gbt) rfl rfl rfl ?_
    refine XO_and0 rfl rfl rfl rfl rfl ?_
    refine XO_v0 (ev_move rfl) rfl rfl rfl ?_
    refine XO_pushT 9 rfl rfl rfl ?_
    refine XO_v1 (ev_load rfl sct_3 (fun hg => by first | exact Cell.imm h1 rfl | exact Cell.imm h2 rfl | exact Cell.imm h3 rfl | exact Cell.imm h4 rfl | exact Cell.h0 rfl | exact Cell.h1 rfl | exact Cell.h2 rfl | exact Cell.h3 rfl | exact Cell.h4 rfl | exact Cell.h5 rfl)) (.some rfl rfl rfl rfl gbt) rfl rfl rfl ?_
    refine XO_v1 (ev_fieldAddr rfl fld_45_8) (.some rfl rfl rfl rfl gbt) rfl rfl rfl ?_
    refine XO_v1 (ev_load rfl sct_3 (fun hg => by first | exact Cell.imm h1 rfl | exact Cell.imm h2 rfl | exact Cell.imm h3 rfl | exact Cell.imm h4 rfl | exact Cell.h0 rfl | exact Cell.h1 rfl | exact Cell.h2 rfl | exact Cell.h3 rfl | exact Cell.h4 rfl | exact Cell.h5 rfl)) (.some rfl rfl rfl rfl gbt) rfl rfl rfl ?_
    refine XO_v1 (ev_fieldAddr rfl fld_45_9) (.some rfl rfl rfl rfl gbt) rfl rfl rfl ?_
    refine XO_v1 (ev_load rfl sct_3 (fun hg => by first | exact Cell.imm h1 rfl | exact Cell.imm h2 rfl | exact Cell.imm h3 rfl | exact Cell.imm h4 rfl | exact Cell.h0 rfl | exact Cell.h1 rfl | exact Cell.h2 rfl | exact Cell.h3 rfl | exact Cell.h4 rfl | exact Cell.h5 rfl)) (.some rfl rfl rfl rfl gbt) rfl rfl rfl ?_
    refine XO_callV1 (cap := []) (vs := [_, _, _]) rfl rfl fun_31 (fun hg => w_within _ _ _ _) (.some rfl rfl rfl rfl gbt) rfl rfl ?_
    refine XO_and0 rfl rfl rfl rfl rfl ?_
    refine XO_v0 (ev_move rfl) rfl rfl rfl ?_
    refine XO_pushT 17 rfl rfl rfl ?_
    refine XO_v1 (ev_load rfl sct_47 (fun hg => by first | exact Cell.imm h1 rfl | exact Cell.imm h2 rfl | exact Cell.imm h3 rfl | exact Cell.imm h4 rfl | exact Cell.h0 rfl | exact Cell.h1 rfl | exact Cell.h2 rfl | exact Cell.h3 rfl | exact Cell.h4 rfl | exact Cell.h5 rfl)) (.some rfl rfl rfl rfl gbt) rfl rfl rfl ?_
    refine XO_v1 (ev_fieldAddr rfl fld_45_0) (.some rfl rfl rfl rfl gbt) rfl rfl rfl ?_
    refine XO_v1 (ev_load rfl sct_3 (fun hg => by first | exact Cell.imm h1 rfl | exact Cell.imm h2 rfl | exact Cell.imm h3 rfl | exact Cell.imm h4 rfl | exact Cell.h0 rfl | exact Cell.h1 rfl | exact Cell.h2 rfl | exact Cell.h3 rfl | exact Cell.h4 rfl | exact Cell.h5 rfl)) (.some rfl rfl rfl rfl gbt) rfl rfl rfl ?_
    refine XO_v1 (ev_lookupBool  mpt_47 key_3 rfl rfl (fun _ => (.inl h5))) (.some rfl rfl rfl rfl gbt) rfl rfl rfl ?_
    refine XO_v1 (ev_not rfl) (.some rfl rfl rfl rfl gbt) rfl rfl rfl ?_
    refine XO_and0 rfl rfl rfl rfl rfl ?_
    refine XO_v0 (ev_move rfl) rfl rfl rfl ?_
    refine XO_pushT 24 rfl rfl rfl ?_
    refine XO_v1 (ev_move rfl) (.some rfl rfl rfl rfl gbt) rfl rfl rfl ?_
    refine XO_v1 (ev_loadA rfl agt_45 (fun _ => by first | exact Sl.getA hS hx | exact Cells.g0 | exact Cells.g1 | exact Cells.g2 | exact Cells.g3 | exact Cells.g4 | exact Cells.g5) rfl) (.some rfl rfl rfl rfl gbt) rfl rfl rfl ?_
    refine XO_yield1 (vs := [_]) (Post := fun b I2 H2 => if b then J ((xs.take k).filter (stP xs day time) ++ [x]) I2 H2 else Jx ((xs.take k).filter (stP xs day time) ++ [x]) I2 H2) rfl rfl (.some rfl rfl rfl rfl gbt) rfl rfl (fun hcj => hY _ x _ _ (fil_pre hx (hp hcj rfl)) hI0 hJk) ?_
    rintro b I2 H2 hI2 hyes hno
    refine XO_v1 (ev_not rfl) (.some rfl rfl rfl rfl gbt) rfl rfl rfl ?_
    refine XO_and0 rfl rfl rfl rfl rfl ?_
    refine XO_nil ?_
    refine at_then ?_
    refine X_cond rfl (fun hc43 => ?_) (fun hc43 => ?_)
    · skip
      refine X_ret ?_
      refine at_block_r ?_
      refine at_then_r ?_
      refine at_then_r ?_
      refine at_block_r ?_
      first
      | (exact at_ret0 rfl (fun w hw => ⟨_, I2, H2, rfl, hI1.trans hI2, hw.drop, .inr ⟨_, fil_pre hx (by rw [stP_eq hgone, Bool.and_eq_true] at hc43; exact hc43.1), by rw [stP_eq hgone] at hc43 hyes; rw [Bool.and_eq_true, Bool.not_eq_true'] at hc43; rw [hc43.1, hc43.2] at hyes; exact hyes rfl⟩⟩))
      | (exact at_norm (at_ret0 rfl (fun w hw => ⟨_, I', H', rfl, hI1, hw, .inl (by rw [fil_end (by rw [hS.len]; omega)] at hJk; exact hJk)⟩)))
    · skip
      refine X_skip ?_
      refine at_block_n ?_
      refine at_then ?_
      refine X_region ?_
      refine XO_v0 (ev_arB rfl rfl rfl (fun _ => by omega)) rfl rfl rfl ?_
      refine XO_v0 (ev_move rfl) rfl rfl rfl ?_
      refine XO_nil ?_
      have hJ2 : J ((xs.take (k + 1)).filter (stP xs day time)) I2 H2 := by
        rw [filter_step hx]
        rw [stP_eq hgone] at hc43 hyes hno
        cases hA : stP xs day time x with
        | true =>
          rw [hA] at hc43 hyes; have hb : b = true := by simpa using hc43
          subst hb; exact hyes rfl
        | false => rw [hA] at hno; obtain ⟨e1, e2⟩ := hno rfl; rw [if_neg Bool.false_ne_true, List.append_nil, e1, e2]; exact hJk
      exact at_metH2 rfl rfl rfl _ [] ⟨n - (k + 1), by omega, k + 1, rfl, rfl, rfl, hI1.trans hI2, by omega, hJ2⟩ (.cons rfl (.cons rfl (.cons rfl (.cons rfl (.cons rfl (.cons rfl (.cons rfl (.cons rfl .nil)))))))) (.drop .refl)
  · skip
    have hge : n ≤ k := by simpa using hc11
    refine X_exit ?_
    refine at_then_e ?_
    refine at_then_e ?_
    refine at_block_hit ?_
    first
    | (exact at_ret0 rfl (fun w hw => ⟨_, I2, H2, rfl, hI1.trans hI2, hw.drop, .inr ⟨_, fil_pre hx (by rw [stP_eq hgone, Bool.and_eq_true] at hc43; exact hc43.1), by rw [stP_eq hgone] at hc43 hyes; rw [Bool.and_eq_true, Bool.not_eq_true'] at hc43; rw [hc43.1, hc43.2] at hyes; exact hyes rfl⟩⟩))
    | (exact at_norm (at_ret0 rfl (fun w hw => ⟨_, I', H', rfl, hI1, hw, .inl (by rw [fil_end (by rw [hS.len]; omega)] at hJk; exact hJk)⟩)))
end Go.Proofs.Ytmflfccincbnaaa
