/- The walks of the register of rights, fifth part: each function comes to its Lean function. -/
import Derived.Test.YtmflfccincbnaaaWalkD
import Derived.Test.YtmflfccincbnaaaPlain
namespace Go.Proofs.Ytmflfccincbnaaa
open Go Go.Kn Go.Proofs
theorem w_stands {I : HMap} {av : Option Addr} {n c : Nat} {xs : List Rt} (hS : Sl I 11 encR av n c xs) (hn : n ≤ 100000) (hno : ∀ (k : Nat) (x : Rt), xs[k]? = some x → 0 ≤ x.no ∧ x.no ≤ 1048576) (day time : Int) : RetM Try.prog 29 [.slice av n c, .int .i64 day, .int .i64 time] I [] (SlRes 11 encR (standsF xs day time)) := by
  intro g H w hw
  refine enter Try.func29 rfl Try.ntmps29 rfl hw ?_
  refine X_seq ?_
  refine X_region ?_
  refine XO_v0 (ev_assign rfl) rfl rfl rfl ?_
  refine XO_nil ?_
  refine at_then ?_
  refine X_seq ?_
  refine X_region ?_
  refine XO_v0 (ev_assign rfl) rfl rfl rfl ?_
  refine XO_nil ?_
  refine at_then ?_
  refine X_cut (fun E I' loc' => ∃ (v : Value) (q : Nat) (L : Go.Kn.Loc), E = [(0, .slice av n c), (1, .int .i64 day), (2, .int .i64 time), (7, v)] ∧ I' = I ∧ loc' = L ∧ OwnS 45 11 v q ((xs.filter (standsP xs day time)).flatMap encR) L ∧ q ≤ n) ?_ ?_
  · skip
    refine X_seq ?_
    refine X_region ?_
    refine XO_v0 (ev_assign rfl) rfl rfl rfl ?_
    refine XO_nil ?_
    refine at_then ?_
    refine X_block ?_
    refine X_loop (fun m E I' loc' => ∃ (k : Nat) (v : Value) (q : Nat) (L : Go.Kn.Loc), m = n - k ∧ E = [(0, .slice av n c), (1, .int .i64 day), (2, .int .i64 time), (7, v), (8, .int .i64 k)] ∧ I' = I ∧ loc' = L ∧ k ≤ n ∧ OwnS 45 11 v q (((xs.take k).filter (standsP xs day time)).flatMap encR) L ∧ q ≤ k) _ _ _ _ ⟨0, _, 0, [], rfl, rfl, rfl, rfl, Nat.zero_le _, OwnS.nil, Nat.le_refl _⟩ (.cons rfl (.cons rfl (.cons rfl (.cons rfl (.cons rfl .nil))))) (HLe.refl _) rfl ?_
    rintro m E I' loc' ⟨k, v, q, L, rfl, rfl, rfl, rfl, hk, hO, hq⟩
    refine X_seq ?_
    refine X_seq ?_
    refine X_region ?_
    refine XO_v0 (ev_move rfl) rfl rfl rfl ?_
    refine XO_v0 (ev_move rfl) rfl rfl rfl ?_
    refine XO_v0 (ev_lenS rfl slt_22) rfl rfl rfl ?_
    refine XO_v0 (ev_cmp rfl rfl rfl) rfl rfl rfl ?_
    refine XO_nil ?_
    refine at_then ?_
    refine X_cond rfl (fun hc13 => ?_) (fun hc13 => ?_)
    · skip
      have hlt : k < n := by simpa using hc13
      obtain ⟨x, hx⟩ := hS.at hlt
      refine X_skip ?_
      refine at_then ?_
      refine X_seq ?_
      refine X_block ?_
      refine X_seq ?_
      refine X_region ?_
      refine XO_v0 (ev_move rfl) rfl rfl rfl ?_
      refine XO_v0 (ev_move rfl) rfl rfl rfl ?_
      refine XO_v0 (ev_indexSl rfl rfl slt_22 (by assumption) (fun hg => by omega)) rfl rfl rfl ?_
      refine XO_v0 (ev_loadA rfl agt_45 (fun _ => by first | exact Sl.getA hS hx | exact Cells.g0 | exact Cells.g1 | exact Cells.g2 | exact Cells.g3 | exact Cells.g4 | exact Cells.g5) rfl) rfl rfl rfl ?_
      refine XO_alloc zt_45 rfl rfl (fun b_9 => ?_)
      refine XO_storeA rfl rfl szt_45 rfl rfl rfl rfl (by first | exact Upd.u0 | exact Upd.u1 | exact Upd.u2 | exact Upd.u3 | exact Upd.u4 | exact Upd.u5) ?_
      refine XO_nil ?_
      refine at_then ?_
      refine X_seq ?_
      refine X_region ?_
      refine XO_v0 (ev_fieldAddr rfl fld_45_1) rfl rfl rfl ?_
      refine XO_v0 (ev_load rfl sct_3 (fun hg => by first | exact Cell.h0 rfl | exact Cell.h1 rfl | exact Cell.h2 rfl | exact Cell.h3 rfl | exact Cell.h4 rfl | exact Cell.h5 rfl)) rfl rfl rfl ?_
      refine XO_v0 (ev_cmp rfl rfl rfl) rfl rfl rfl ?_
      refine XO_v0 (ev_move rfl) rfl rfl rfl ?_
      refine XO_pushT 3 rfl rfl rfl ?_
      refine XO_v1 (ev_fieldAddr rfl fld_45_10) (.some rfl rfl rfl rfl gbt) rfl rfl rfl ?_
      refine XO_v1 (ev_load rfl sct_3 (fun hg => by first | exact Cell.h0 rfl | exact Cell.h1 rfl | exact Cell.h2 rfl | exact Cell.h3 rfl | exact Cell.h4 rfl | exact Cell.h5 rfl)) (.some rfl rfl rfl rfl gbt) rfl rfl rfl ?_
      refine XO_v1 (ev_move rfl) (.some rfl rfl rfl rfl gbt) rfl rfl rfl ?_
      refine XO_v1 (ev_cmp rfl rfl rfl) (.some rfl rfl rfl rfl gbt) rfl rfl rfl ?_
      refine XO_and0 rfl rfl rfl rfl rfl ?_
      refine XO_v0 (ev_move rfl) rfl rfl rfl ?_
      refine XO_pushT 9 rfl rfl rfl ?_
      refine XO_v1 (ev_move rfl) (.some rfl rfl rfl rfl gbt) rfl rfl rfl ?_
      refine XO_v1 (ev_fieldAddr rfl fld_45_8) (.some rfl rfl rfl rfl gbt) rfl rfl rfl ?_
      refine XO_v1 (ev_load rfl sct_3 (fun hg => by first | exact Cell.h0 rfl | exact Cell.h1 rfl | exact Cell.h2 rfl | exact Cell.h3 rfl | exact Cell.h4 rfl | exact Cell.h5 rfl)) (.some rfl rfl rfl rfl gbt) rfl rfl rfl ?_
      refine XO_v1 (ev_fieldAddr rfl fld_45_9) (.some rfl rfl rfl rfl gbt) rfl rfl rfl ?_
      refine XO_v1 (ev_load rfl sct_3 (fun hg => by first | exact Cell.h0 rfl | exact Cell.h1 rfl | exact Cell.h2 rfl | exact Cell.h3 rfl | exact Cell.h4 rfl | exact Cell.h5 rfl)) (.some rfl rfl rfl rfl gbt) rfl rfl rfl ?_
      refine XO_callV1 (cap := []) (vs := [_, _, _]) rfl rfl fun_35 (fun hg => w_rwithin _ _ _ _) (.some rfl rfl rfl rfl gbt) rfl rfl ?_
      refine XO_and0 rfl rfl rfl rfl rfl ?_
      refine XO_v0 (ev_move rfl) rfl rfl rfl ?_
      refine XO_pushT 17 rfl rfl rfl ?_
      refine XO_v1 (ev_move rfl) (.some rfl rfl rfl rfl gbt) rfl rfl rfl ?_
      refine XO_v1 (ev_fieldAddr rfl fld_45_0) (.some rfl rfl rfl rfl gbt) rfl rfl rfl ?_
      refine XO_v1 (ev_load rfl sct_3 (fun hg => by first | exact Cell.h0 rfl | exact Cell.h1 rfl | exact Cell.h2 rfl | exact Cell.h3 rfl | exact Cell.h4 rfl | exact Cell.h5 rfl)) (.some rfl rfl rfl rfl gbt) rfl rfl rfl ?_
      refine XO_v1 (ev_move rfl) (.some rfl rfl rfl rfl gbt) rfl rfl rfl ?_
      refine XO_callV1 (cap := []) (vs := [_, _, _]) rfl rfl fun_40 (fun hg => w_ended hS hn _ _ (hno _ _ hx)) (.some rfl rfl rfl rfl gbt) rfl rfl ?_
      refine XO_v1 (ev_not rfl) (.some rfl rfl rfl rfl gbt) rfl rfl rfl ?_
      refine XO_and0 rfl rfl rfl rfl rfl ?_
      refine XO_nil ?_
      refine at_then ?_
      refine X_cond rfl (fun hc44 => ?_) (fun hc44 => ?_)
      · skip
        refine X_region ?_
        refine XO_v0 (ev_move rfl) rfl rfl rfl ?_
        refine XO_v0 (ev_loadA rfl agt_45 (fun _ => by first | exact Sl.getA hS hx | exact Cells.g0 | exact Cells.g1 | exact Cells.g2 | exact Cells.g3 | exact Cells.g4 | exact Cells.g5) rfl) rfl rfl rfl ?_
        refine XO_buildSlice (ps := [(0, _)]) (m := [encR x]) elt_22 rfl (.cons rfl (.nil)) rfl (by simp [encR_len, encI_len, encP_len]) (by decide) (by decide) rfl rfl (fun b_47 => ?_)
        refine XO_append (v := v) (ys := [encR x].flatten) (L := loc') rfl rfl elt_22 hO (split_right (A := [_, _])) ⟨rfl, fun _ => rfl, Cells.here⟩ rfl (by omega) rfl rfl ?_
        intro v' L' hO' _
        refine XO_v0 (ev_assign rfl) rfl rfl rfl ?_
        refine XO_nil ?_
        refine at_block_n ?_
        refine at_then ?_
        refine X_region ?_
        refine XO_v0 (ev_move rfl) rfl rfl rfl ?_
        refine XO_v0 (ev_arB rfl rfl rfl (fun _ => by omega)) rfl rfl rfl ?_
        refine XO_v0 (ev_assign rfl) rfl rfl rfl ?_
        refine XO_nil ?_
        first | exact at_met2 _ _ ⟨n - (k + 1), by omega, k + 1, _, _, L', rfl, rfl, rfl, rfl, by omega, fil_yes hx hc44 hO', by omega⟩ (.cons rfl (.cons rfl (.cons rfl (.cons rfl (.cons rfl .nil))))) subL_left | exact at_met2 _ _ ⟨n - (k + 1), by omega, k + 1, _, _, loc', rfl, rfl, rfl, rfl, by omega, fil_no hx hc44 hO, by omega⟩ (.cons rfl (.cons rfl (.cons rfl (.cons rfl (.cons rfl .nil))))) (.drop .refl)
      · skip
        refine X_skip ?_
        refine at_block_n ?_
        refine at_then ?_
        refine X_region ?_
        refine XO_v0 (ev_move rfl) rfl rfl rfl ?_
        refine XO_v0 (ev_arB rfl rfl rfl (fun _ => by omega)) rfl rfl rfl ?_
        refine XO_v0 (ev_assign rfl) rfl rfl rfl ?_
        refine XO_nil ?_
        first | exact at_met2 _ _ ⟨n - (k + 1), by omega, k + 1, _, _, L', rfl, rfl, rfl, rfl, by omega, fil_yes hx hc44 hO', by omega⟩ (.cons rfl (.cons rfl (.cons rfl (.cons rfl (.cons rfl .nil))))) subL_left | exact at_met2 _ _ ⟨n - (k + 1), by omega, k + 1, _, _, loc', rfl, rfl, rfl, rfl, by omega, fil_no hx hc44 hO, by omega⟩ (.cons rfl (.cons rfl (.cons rfl (.cons rfl (.cons rfl .nil))))) (.drop .refl)
    · skip
      have hge : n ≤ k := by simpa using hc13
      refine X_exit ?_
      refine at_then_e ?_
      refine at_then_e ?_
      refine at_block_hit ?_
      exact at_met' _ ⟨v, q, loc', rfl, rfl, rfl, by rw [fil_end (by rw [hS.len]; omega)] at hO; exact hO, by omega⟩ (.cons rfl (.cons rfl (.cons rfl (.cons rfl .nil))))
  · rintro E I' loc' ⟨v, q, L, rfl, rfl, rfl, hO, hq⟩
    refine X_seq ?_
    refine X_region ?_
    refine XO_v0 (ev_move rfl) rfl rfl rfl ?_
    refine XO_v0 (ev_assign rfl) rfl rfl rfl ?_
    refine XO_nil ?_
    refine at_then ?_
    refine X_ret ?_
    exact at_ret1 rfl rfl (fun w hw => by obtain ⟨I2, h1, h2, h3⟩ := OwnS.res hO encR_len (by decide) hw; exact ⟨_, I2, [], rfl, h1, h2, h3⟩)

theorem w_rstanding {I : HMap} {av : Option Addr} {n c : Nat} {xs : List Rt} (hS : Sl I 11 encR av n c xs) (hn : n ≤ 100000) (day time : Int) : RetM Try.prog 13 [.slice av n c, .int .i64 day, .int .i64 time] I [] (SlE 11 encR (resF (askedF (fCheck xs) day time) (standsF xs day time)) (askedF (fCheck xs) day time)) := by
  intro g H w hw
  refine enter Try.func13 rfl Try.ntmps13 rfl hw ?_
  refine X_seq ?_
  refine X_region ?_
  refine XO_v0 (ev_assign rfl) rfl rfl rfl ?_
  refine XO_v0 (ev_assign rfl) rfl rfl rfl ?_
  refine XO_nil ?_
  refine at_then ?_
  refine X_seq ?_
  refine X_region ?_
  refine XO_v0 (ev_move rfl) rfl rfl rfl ?_
  refine XO_v0 (ev_move rfl) rfl rfl rfl ?_
  refine XO_v0 (ev_move rfl) rfl rfl rfl ?_
  refine XO_callV0 (cap := []) (vs := [_, _, _]) rfl rfl fun_28 (w_rasked hS hn _ _) rfl rfl ?_
  refine XO_v0 (ev_assign rfl) rfl rfl rfl ?_
  refine XO_nil ?_
  refine at_then ?_
  refine X_seq ?_
  refine X_seq ?_
  refine X_region ?_
  refine XO_v0 (ev_move rfl) rfl rfl rfl ?_
  refine XO_v0 (ev_cmp rfl rfl rfl) rfl rfl rfl ?_
  refine XO_nil ?_
  refine at_then ?_
  refine X_cond rfl (fun hc14 => ?_) (fun hc14 => ?_)
  · skip
    refine X_seq ?_
    refine X_region ?_
    refine XO_v0 (ev_move rfl) rfl rfl rfl ?_
    refine XO_v0 (ev_assign rfl) rfl rfl rfl ?_
    refine XO_v0 (ev_assign rfl) rfl rfl rfl ?_
    refine XO_nil ?_
    refine at_then ?_
    refine X_ret ?_
    refine at_then_r ?_
    first | exact at_ret2 rfl rfl rfl (fun w hw => ⟨_, I, [], rfl, HLe.refl _, hw, by unfold resF; rw [if_pos (by simpa using hc14)]; exact ⟨rfl, none, 0, rfl, .nil⟩⟩) | exact at_ret2 rfl rfl rfl (fun w hw => ⟨_, _, [], rfl, hI', hw, by unfold resF; rw [if_neg (by simpa using hc14)]; exact ⟨rfl, av', c', by rw [show askedF (fCheck xs) day time = 0 by simpa using hc14], hS'⟩⟩)
  · skip
    refine X_skip ?_
    refine at_then ?_
    refine X_seq ?_
    refine X_region ?_
    refine XO_v0 (ev_move rfl) rfl rfl rfl ?_
    refine XO_v0 (ev_move rfl) rfl rfl rfl ?_
    refine XO_v0 (ev_move rfl) rfl rfl rfl ?_
    refine XO_callM (cap := []) (vs := [_, _, _]) rfl rfl fun_29 .nil (w_stands hS hn (fCheck_no (asked_ok (show askedF (fCheck xs) day time = 0 by simpa using hc14))) _ _) rfl rfl ?_
    rintro v I' L' hI' ⟨rfl, av', c', rfl, hS'⟩
    refine XO_v0 (ev_assign rfl) rfl rfl rfl ?_
    refine XO_v0 (ev_assign rfl) rfl rfl rfl ?_
    refine XO_nil ?_
    refine at_then ?_
    refine X_ret ?_
    first | exact at_ret2 rfl rfl rfl (fun w hw => ⟨_, I, [], rfl, HLe.refl _, hw, by unfold resF; rw [if_pos (by simpa using hc14)]; exact ⟨rfl, none, 0, rfl, .nil⟩⟩) | exact at_ret2 rfl rfl rfl (fun w hw => ⟨_, _, [], rfl, hI', hw, by unfold resF; rw [if_neg (by simpa using hc14)]; exact ⟨rfl, av', c', by rw [show askedF (fCheck xs) day time = 0 by simpa using hc14], hS'⟩⟩)

theorem w_asked {I : HMap} {av : Option Addr} {n c : Nat} {xs : List Rt} (hS : Sl I 11 encR av n c xs) (hn : n ≤ 100000) (day time : Int) : RetV Try.prog 25 [.slice av n c, .int .i64 day, .int .i64 time] I (.int .i64 (askedF (rCheck xs) day time)) := by
  intro g H w hw
  refine enter Try.func25 rfl Try.ntmps25 rfl hw ?_
  refine X_seq ?_
  refine X_region ?_
  refine XO_v0 (ev_assign rfl) rfl rfl rfl ?_
  refine XO_nil ?_
  refine at_then ?_
  refine X_seq ?_
  refine X_seq ?_
  refine X_region ?_
  refine XO_v0 (ev_move rfl) rfl rfl rfl ?_
  refine XO_callV0 (cap := []) (vs := [_]) rfl rfl fun_14 (w_check hS hn) rfl rfl ?_
  refine XO_v0 (ev_assign rfl) rfl rfl rfl ?_
  refine XO_nil ?_
  refine at_then ?_
  refine X_seq ?_
  refine X_region ?_
  refine XO_v0 (ev_move rfl) rfl rfl rfl ?_
  refine XO_v0 (ev_cmp rfl rfl rfl) rfl rfl rfl ?_
  refine XO_nil ?_
  refine at_then ?_
  refine X_cond rfl (fun hc10 => ?_) (fun hc10 => ?_)
  · skip
    refine X_seq ?_
    refine X_region ?_
    refine XO_v0 (ev_move rfl) rfl rfl rfl ?_
    refine XO_v0 (ev_assign rfl) rfl rfl rfl ?_
    refine XO_nil ?_
    refine at_then ?_
    refine X_ret ?_
    refine at_then_r ?_
    exact at_ret1 rfl rfl (fun w hw => ⟨by unfold askedF; simp_all, hw.drop⟩)
  · skip
    refine X_skip ?_
    refine at_then ?_
    refine X_seq ?_
    refine X_seq ?_
    refine X_region ?_
    refine XO_v0 (ev_move rfl) rfl rfl rfl ?_
    refine XO_callV0 (cap := []) (vs := [_, _, _]) rfl rfl fun_31 (w_within _ _ _ _) rfl rfl ?_
    refine XO_v0 (ev_not rfl) rfl rfl rfl ?_
    refine XO_v0 (ev_move rfl) rfl rfl rfl ?_
    refine XO_pushF 3 rfl rfl rfl ?_
    refine XO_v1 (ev_move rfl) (.some rfl rfl rfl rfl gbf) rfl rfl rfl ?_
    refine XO_callV1 (cap := []) (vs := [_, _, _]) rfl rfl fun_31 (fun hg => w_within _ _ _ _) (.some rfl rfl rfl rfl gbf) rfl rfl ?_
    refine XO_v1 (ev_not rfl) (.some rfl rfl rfl rfl gbf) rfl rfl rfl ?_
    refine XO_or0 rfl rfl rfl rfl rfl ?_
    refine XO_nil ?_
    refine at_then ?_
    refine X_cond rfl (fun hc19 => ?_) (fun hc19 => ?_)
    · skip
      refine X_seq ?_
      refine X_region ?_
      refine XO_v0 (ev_assign rfl) rfl rfl rfl ?_
      refine XO_nil ?_
      refine at_then ?_
      refine X_ret ?_
      refine at_then_r ?_
      exact at_ret1 rfl rfl (fun w hw => ⟨by unfold askedF; simp_all, hw.drop⟩)
    · skip
      refine X_skip ?_
      refine at_then ?_
      refine X_seq ?_
      refine X_region ?_
      refine XO_v0 (ev_assign rfl) rfl rfl rfl ?_
      refine XO_nil ?_
      refine at_then ?_
      refine X_ret ?_
      exact at_ret1 rfl rfl (fun w hw => ⟨by unfold askedF; simp_all, hw.drop⟩)

/-- What the iterator of 'standing' has taken in. -/
def StCap (I : HMap) (av : Option Addr) (n c : Nat) (xs : List Rt) (day time : Int) (b1 b2 b3 b4 : Nat) : Prop := ∃ r m, I b1 = some (.cells #[.slice av n c] 22 (0, 0)) ∧ I b2 = some (.cells #[.int .i64 time] 3 (0, 0)) ∧ I b3 = some (.cells #[.int .i64 day] 3 (0, 0)) ∧ I b4 = some (.cells #[.map (some r)] 47 (0, 0)) ∧
  I r = some (mapO (.int .i64) .bool m) ∧ ∀ no, (mget m no).getD false = goneF xs time no
def capP (b : Nat) : Value := .pointer (some ⟨b, 0, none⟩)
theorem gone_yes {xs : List Rt} {k : Nat} {x : Rt} {m : List (Int × Bool)} {time : Int} (hx : xs[k]? = some x) (hc : ((x.kind == 4) && decide (x.known ≤ time)) = true) (h : ∀ no, (mget m no).getD false = goneF (xs.take k) time no) (no : Int) :
    (mget (mset m (w64 (x.ends - 1)) true) no).getD false = goneF (xs.take (k + 1)) time no := by
  rw [mget_mset]
  unfold goneF at *
  rw [List.take_add_one, hx, List.any_append]
  by_cases he : w64 (x.ends - 1) = no
  · rw [if_pos he]; simp [hc, he]
  · rw [if_neg he, h]; simp [he]
theorem gone_no {xs : List Rt} {k : Nat} {x : Rt} {m : List (Int × Bool)} {time : Int} (hx : xs[k]? = some x) (hc : ((x.kind == 4) && decide (x.known ≤ time)) = false) (h : ∀ no, (mget m no).getD false = goneF (xs.take k) time no) (no : Int) :
    (mget m no).getD false = goneF (xs.take (k + 1)) time no := by
  rw [h]
  unfold goneF
  rw [List.take_add_one, hx, List.any_append]
  simp [hc]

theorem w_standing {I : HMap} {av : Option Addr} {n c : Nat} {xs : List Rt} (hS : Sl I 11 encR av n c xs) (hn : n ≤ 100000) (day time : Int) : RetM Try.prog 27 [.slice av n c, .int .i64 day, .int .i64 time] I [] (fun v I' L => L = [] ∧ ∃ b1 b2 b3 b4, v = .func (.func 39) #[] [capP b1, capP b2, capP b3, capP b4].toArray ∧ StCap I' av n c xs day time b1 b2 b3 b4) := by
  intro g H w hw
  refine enter Try.func27 rfl Try.ntmps27 rfl hw ?_
  refine X_seq ?_
  refine X_region ?_
  refine XO_box rfl rfl rfl (fun b_3 => ?_)
  refine XO_box rfl rfl rfl (fun b_4 => ?_)
  refine XO_box rfl rfl rfl (fun b_5 => ?_)
  refine XO_v0 (ev_assign rfl) rfl rfl rfl ?_
  refine XO_nil ?_
  refine at_then ?_
  refine X_seq ?_
  refine X_region ?_
  refine XO_makeMap rfl rfl (fun r_10 => ?_)
  refine XO_alloc zt_47 rfl rfl (fun b_7 => ?_)
  refine XO_store rfl rfl szt_47 rfl rfl (by first | exact Upd.u0 | exact Upd.u1 | exact Upd.u2 | exact Upd.u3 | exact Upd.u4 | exact Upd.u5) rfl ?_
  refine XO_nil ?_
  refine at_then ?_
  refine X_cut (fun E I' loc' => ∃ m1 : List (Int × Bool), E = [(0, .slice av n c), (1, .int .i64 day), (2, .int .i64 time), (3, .pointer (some ⟨b_3, 0, none⟩)), (4, .pointer (some ⟨b_4, 0, none⟩)), (5, .pointer (some ⟨b_5, 0, none⟩)), (7, .pointer (some ⟨b_7, 0, none⟩))] ∧ I' = I ∧ loc' = [(b_7, .cells #[.map (some r_10)] 47 (0, 0)), (r_10, mapO (.int .i64) .bool m1), (b_5, .cells #[.int .i64 time] 3 (0, 0)), (b_4, .cells #[.int .i64 day] 3 (0, 0)), (b_3, .cells #[.slice av n c] 22 (0, 0))] ∧ ∀ no, (mget m1 no).getD false = goneF xs time no) ?_ ?_
  · skip
    refine X_seq ?_
    refine X_region ?_
    refine XO_v0 (ev_load rfl sct_22 (fun hg => by first | exact Cell.h0 rfl | exact Cell.h1 rfl | exact Cell.h2 rfl | exact Cell.h3 rfl | exact Cell.h4 rfl | exact Cell.h5 rfl)) rfl rfl rfl ?_
    refine XO_v0 (ev_lenS rfl slt_22) rfl rfl rfl ?_
    refine XO_v0 (ev_move rfl) rfl rfl rfl ?_
    refine XO_nil ?_
    refine at_then ?_
    refine X_block ?_
    refine X_loop (fun m E I' loc' => ∃ (k : Nat) (m1 : List (Int × Bool)), m = n - k ∧ E = [(0, .slice av n c), (1, .int .i64 day), (2, .int .i64 time), (3, .pointer (some ⟨b_3, 0, none⟩)), (4, .pointer (some ⟨b_4, 0, none⟩)), (5, .pointer (some ⟨b_5, 0, none⟩)), (7, .pointer (some ⟨b_7, 0, none⟩)), (11, .slice av n c), (12, .int .i64 n), (13, .int .i64 k)] ∧ I' = I ∧ loc' = [(b_7, .cells #[.map (some r_10)] 47 (0, 0)), (r_10, mapO (.int .i64) .bool m1), (b_5, .cells #[.int .i64 time] 3 (0, 0)), (b_4, .cells #[.int .i64 day] 3 (0, 0)), (b_3, .cells #[.slice av n c] 22 (0, 0))] ∧ k ≤ n ∧ ∀ no, (mget m1 no).getD false = goneF (xs.take k) time no) _ _ _ _ ⟨0, [], rfl, rfl, rfl, rfl, Nat.zero_le _, fun _ => rfl⟩ (.cons rfl (.cons rfl (.cons rfl (.cons rfl (.cons rfl (.cons rfl (.cons rfl (.cons rfl (.cons rfl (.cons rfl .nil)))))))))) (HLe.refl _) rfl ?_
    rintro m E I' loc' ⟨k, m1, rfl, rfl, rfl, rfl, hk, hgone⟩
    refine X_seq ?_
    refine X_region ?_
    refine XO_v0 (ev_cmp rfl rfl rfl) rfl rfl rfl ?_
    refine XO_nil ?_
    refine at_then ?_
    refine X_seq ?_
    refine X_cond rfl (fun hc14 => ?_) (fun hc14 => ?_)
    · skip
      have hlt : k < n := by simpa using hc14
      obtain ⟨x, hx⟩ := hS.at hlt
      refine X_skip ?_
      refine at_then ?_
      refine X_seq ?_
      refine X_block ?_
      refine X_seq ?_
      refine X_region ?_
      refine XO_v0 (ev_indexSl rfl rfl slt_22 (by assumption) (fun hg => by omega)) rfl rfl rfl ?_
      refine XO_v0 (ev_loadA rfl agt_45 (fun _ => by first | exact Sl.getA hS hx | exact Cells.g0 | exact Cells.g1 | exact Cells.g2 | exact Cells.g3 | exact Cells.g4 | exact Cells.g5) rfl) rfl rfl rfl ?_
      refine XO_alloc zt_45 rfl rfl (fun b_9 => ?_)
      refine XO_storeA rfl rfl szt_45 rfl rfl rfl rfl (by first | exact Upd.u0 | exact Upd.u1 | exact Upd.u2 | exact Upd.u3 | exact Upd.u4 | exact Upd.u5) ?_
      refine XO_nil ?_
      refine at_then ?_
      refine X_seq ?_
      refine X_region ?_
      refine XO_v0 (ev_fieldAddr rfl fld_45_1) rfl rfl rfl ?_
      refine XO_v0 (ev_load rfl sct_3 (fun hg => by first | exact Cell.h0 rfl | exact Cell.h1 rfl | exact Cell.h2 rfl | exact Cell.h3 rfl | exact Cell.h4 rfl | exact Cell.h5 rfl)) rfl rfl rfl ?_
      refine XO_v0 (ev_cmp rfl rfl rfl) rfl rfl rfl ?_
      refine XO_v0 (ev_move rfl) rfl rfl rfl ?_
      refine XO_pushT 3 rfl rfl rfl ?_
      refine XO_v1 (ev_fieldAddr rfl fld_45_10) (.some rfl rfl rfl rfl gbt) rfl rfl rfl ?_
      refine XO_v1 (ev_load rfl sct_3 (fun hg => by first | exact Cell.h0 rfl | exact Cell.h1 rfl | exact Cell.h2 rfl | exact Cell.h3 rfl | exact Cell.h4 rfl | exact Cell.h5 rfl)) (.some rfl rfl rfl rfl gbt) rfl rfl rfl ?_
      refine XO_v1 (ev_load rfl sct_3 (fun hg => by first | exact Cell.h0 rfl | exact Cell.h1 rfl | exact Cell.h2 rfl | exact Cell.h3 rfl | exact Cell.h4 rfl | exact Cell.h5 rfl)) (.some rfl rfl rfl rfl gbt) rfl rfl rfl ?_
      refine XO_v1 (ev_cmp rfl rfl rfl) (.some rfl rfl rfl rfl gbt) rfl rfl rfl ?_
      refine XO_and0 rfl rfl rfl rfl rfl ?_
      refine XO_nil ?_
      refine at_then ?_
      refine X_cond rfl (fun hc25 => ?_) (fun hc25 => ?_)
      · skip
        refine X_region ?_
        refine XO_v0 (ev_load rfl sct_47 (fun hg => by first | exact Cell.h0 rfl | exact Cell.h1 rfl | exact Cell.h2 rfl | exact Cell.h3 rfl | exact Cell.h4 rfl | exact Cell.h5 rfl)) rfl rfl rfl ?_
        refine XO_v0 (ev_fieldAddr rfl fld_45_5) rfl rfl rfl ?_
        refine XO_v0 (ev_load rfl sct_3 (fun hg => by first | exact Cell.h0 rfl | exact Cell.h1 rfl | exact Cell.h2 rfl | exact Cell.h3 rfl | exact Cell.h4 rfl | exact Cell.h5 rfl)) rfl rfl rfl ?_
        refine XO_v0 (ev_ar rfl rfl rfl) rfl rfl rfl ?_
        refine XO_mapUpdate (m := m1) (ev := .bool) true mpt_47 key_3 rfl rfl rfl rfl (by first | exact Upd.u0 | exact Upd.u1 | exact Upd.u2 | exact Upd.u3 | exact Upd.u4 | exact Upd.u5) ?_
        refine XO_nil ?_
        refine at_block_n ?_
        refine at_then ?_
        refine X_region ?_
        refine XO_v0 (ev_arB rfl rfl rfl (fun _ => by omega)) rfl rfl rfl ?_
        refine XO_v0 (ev_move rfl) rfl rfl rfl ?_
        refine XO_nil ?_
        first | exact at_met2 _ _ ⟨n - (k + 1), by omega, k + 1, _, rfl, rfl, rfl, rfl, by omega, gone_yes hx hc25 hgone⟩ (.cons rfl (.cons rfl (.cons rfl (.cons rfl (.cons rfl (.cons rfl (.cons rfl (.cons rfl (.cons rfl (.cons rfl .nil)))))))))) (.drop .refl) | exact at_met2 _ _ ⟨n - (k + 1), by omega, k + 1, _, rfl, rfl, rfl, rfl, by omega, gone_no hx hc25 hgone⟩ (.cons rfl (.cons rfl (.cons rfl (.cons rfl (.cons rfl (.cons rfl (.cons rfl (.cons rfl (.cons rfl (.cons rfl .nil)))))))))) (.drop .refl)
      · skip
        refine X_skip ?_
        refine at_block_n ?_
        refine at_then ?_
        refine X_region ?_
        refine XO_v0 (ev_arB rfl rfl rfl (fun _ => by omega)) rfl rfl rfl ?_
        refine XO_v0 (ev_move rfl) rfl rfl rfl ?_
        refine XO_nil ?_
        first | exact at_met2 _ _ ⟨n - (k + 1), by omega, k + 1, _, rfl, rfl, rfl, rfl, by omega, gone_yes hx hc25 hgone⟩ (.cons rfl (.cons rfl (.cons rfl (.cons rfl (.cons rfl (.cons rfl (.cons rfl (.cons rfl (.cons rfl (.cons rfl .nil)))))))))) (.drop .refl) | exact at_met2 _ _ ⟨n - (k + 1), by omega, k + 1, _, rfl, rfl, rfl, rfl, by omega, gone_no hx hc25 hgone⟩ (.cons rfl (.cons rfl (.cons rfl (.cons rfl (.cons rfl (.cons rfl (.cons rfl (.cons rfl (.cons rfl (.cons rfl .nil)))))))))) (.drop .refl)
    · skip
      have hge : n ≤ k := by simpa using hc14
      refine X_exit ?_
      refine at_then_e ?_
      refine at_then_e ?_
      refine at_block_hit ?_
      exact at_met' _ ⟨m1, rfl, rfl, rfl, by rw [List.take_of_length_le (by rw [hS.len]; omega)] at hgone; exact hgone⟩ (.cons rfl (.cons rfl (.cons rfl (.cons rfl (.cons rfl (.cons rfl (.cons rfl .nil)))))))
  · rintro E I' loc' ⟨m1, rfl, rfl, rfl, hgone⟩
    refine X_seq ?_
    refine X_region ?_
    refine XO_v0 (ev_makeFunc (us := []) (vs := [_, _, _, _]) rfl rfl) rfl rfl rfl ?_
    refine XO_v0 (ev_assign rfl) rfl rfl rfl ?_
    refine XO_nil ?_
    refine at_then ?_
    refine X_ret ?_
    exact at_ret1 rfl rfl (fun w hw => by obtain ⟨I2, h1, h2, h3⟩ := hw.freezeAll; exact ⟨_, I2, [], rfl, h1, h2, rfl, b_3, b_5, b_4, b_7, rfl, r_10, m1, h3 _ _ (by simp), h3 _ _ (by simp), h3 _ _ (by simp), h3 _ _ (by simp), h3 _ _ (by simp), hgone⟩)
end Go.Proofs.Ytmflfccincbnaaa
