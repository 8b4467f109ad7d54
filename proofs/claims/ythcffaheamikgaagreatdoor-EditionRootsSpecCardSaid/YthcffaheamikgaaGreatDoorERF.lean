/- editionRootsSpec_holds, part F of the proof: what its theorems say holds without further conditions. -/
import Derived.Test.YthcffaheamikgaaGreatDoorERE
section
namespace Go.Proofs.YthcffaheamikgaaGreatDoor
open Go Go.Kn Go.Proofs
theorem elt_32 : ElT Tryz.prog 32 44 3 24 := .of (by kernel_rfl)
theorem fld_44_0 : FieldAt Tryz.prog 44 0 0 := .of (by kernel_rfl)
theorem fld_44_1 : FieldAt Tryz.prog 44 1 1 := .of (by kernel_rfl)
theorem fun_29 : Fun Tryz.prog 29 := .of Tryz.func29 (by kernel_rfl) (by kernel_rfl)
theorem fun_37 : Fun Tryz.prog 37 := .of Tryz.func37 (by kernel_rfl) (by kernel_rfl)
theorem fun_57 : Fun Tryz.prog 57 := .of Tryz.func57 (by kernel_rfl) (by kernel_rfl)
theorem mpt_75 : MpT Tryz.prog 75 3 79 (.agg #[.nilFunc]) := ⟨by kernel_rfl, .of (by kernel_rfl)⟩
theorem plt_46 : PlT Tryz.prog 46 #[(0, 1), (1, 1)] (.agg #[(.int .i64 0), (.int .i64 0)]) := ⟨.of (by kernel_rfl), by kernel_rfl, fun w => by kernel_rfl⟩
theorem plt_79 : PlT Tryz.prog 79 #[(0, 1)] (.agg #[.nilFunc]) := ⟨.of (by kernel_rfl), by kernel_rfl, fun w => by kernel_rfl⟩
theorem w_rs1 (I : HMap) (code : Int) (b : Bool) : RetV Tryz.prog 70 [.int .i64 code, .bool b] I (.bool (r1F code b)) := by
 intro g H w hw
 refine enter Tryz.func70 rfl Tryz.ntmps70 rfl hw ?_
 refine X_seq (X_region ?_)
 refine zA ?_
 refine XO_nil (at_then (X_seq (X_region ?_)))
 refine zM ?_
 refine zM ?_
 refine XO_pushT 1 rfl rfl rfl ?_
 refine XO_v1 (ev_move rfl) (.some rfl rfl rfl rfl gbt) rfl rfl rfl ?_
 refine XO_v1 (ev_cmp rfl rfl rfl) (.some rfl rfl rfl rfl gbt) rfl rfl rfl ?_
 refine XO_and0 rfl rfl rfl rfl rfl ?_
 refine zM ?_
 refine XO_pushT 5 rfl rfl rfl ?_
 refine XO_v1 (ev_move rfl) (.some rfl rfl rfl rfl gbt) rfl rfl rfl ?_
 refine XO_v1 (ev_cmp rfl rfl rfl) (.some rfl rfl rfl rfl gbt) rfl rfl rfl ?_
 refine XO_and0 rfl rfl rfl rfl rfl ?_
 refine zA ?_
 refine XO_nil (at_then ?_)
 refine X_ret ?_
 exact at_ret1 rfl rfl (fun w hw => ⟨by rfl, hw.drop⟩)
theorem w_rs2 (I : HMap) (code : Int) (b : Bool) : RetV Tryz.prog 71 [.int .i64 code, .bool b] I (.bool (r2F code b)) := by
 intro g H w hw
 refine enter Tryz.func71 rfl Tryz.ntmps71 rfl hw ?_
 have hIc := HLe.refl I
 refine X_seq (X_region ?_)
 refine zA ?_
 refine XO_nil (at_then (X_seq (X_region ?_)))
 refine zM ?_
 refine XO_callV0 (cap := []) (vs := [_]) rfl rfl fun_30 (w_Sign _ _) rfl rfl ?_
 refine zM ?_
 refine XO_v0 (ev_extract rfl rfl) rfl rfl rfl ?_
 refine XO_v0 (ev_extract rfl rfl) rfl rfl rfl ?_
 refine XO_alloc zt_48 rfl rfl (fun b_5 => ?_)
 refine XO_storeA rfl rfl szt_48 rfl rfl rfl rfl (by repeat (first | exact Upd.here | apply Upd.there | apply upd_app)) ?_
 refine zA ?_
 refine XO_nil (at_then (X_seq (X_region ?_)))
 refine zM ?_
 refine zC ?_
 refine zM ?_
 refine XO_pushT 2 rfl rfl rfl ?_
 refine XO_v1 (ev_move rfl) (.some rfl rfl rfl rfl gbt) rfl rfl rfl ?_
 refine XO_v1 (ev_not rfl) (.some rfl rfl rfl rfl gbt) rfl rfl rfl ?_
 refine XO_and0 rfl rfl rfl rfl rfl ?_
 refine zA ?_
 refine XO_nil (at_then ?_)
 refine X_ret ?_
 exact at_ret1 rfl rfl (fun w hw => ⟨by rfl, (hw.mono hIc).drop⟩)
theorem w_rs3 (I : HMap) (code : Int) (b : Bool) : RetV Tryz.prog 72 [.int .i64 code, .bool b] I (.bool (r3F code b)) := by
 intro g H w hw
 refine enter Tryz.func72 rfl Tryz.ntmps72 rfl hw ?_
 refine X_seq (X_region ?_)
 refine zA ?_
 refine XO_nil (at_then (X_seq (X_region ?_)))
 refine zM ?_
 refine zC ?_
 refine zA ?_
 refine XO_nil (at_then ?_)
 refine X_ret ?_
 exact at_ret1 rfl rfl (fun w hw => ⟨by rfl, hw.drop⟩)
def rsV (f : Nat) : Value := .agg #[.func (.func f) #[] #[]]
def rsM : List (Int × Nat) := [(1, 70), (2, 71), (3, 72)]
theorem w_reasons (I : HMap) : RetM Tryz.prog 35 [] I [] (fun v I' L => L = [] ∧ ∃ r, v = .map (some r) ∧ I' r = some (mapO (Value.int .i64) rsV rsM)) := by
 intro g H w hw
 refine enter Tryz.func35 rfl Tryz.ntmps35 rfl hw ?_
 have hIc := HLe.refl I
 refine X_seq (X_region ?_)
 refine zA ?_
 refine XO_nil (at_then (X_seq (X_region ?_)))
 refine XO_makeMap rfl rfl (fun r_1 => ?_)
 refine XO_v0 (ev_buildL (ps := [(0, _)]) [_] plt_79 rfl rfl) rfl rfl rfl ?_
 refine XO_insert (m := []) (ek := Value.int .i64) (ev := rsV) 70 mpt_75 key_3 rfl rfl rfl rfl (by repeat (first | exact Upd.here | apply Upd.there | apply upd_app)) ?_
 refine XO_v0 (ev_buildL (ps := [(0, _)]) [_] plt_79 rfl rfl) rfl rfl rfl ?_
 refine XO_insert (m := [(1, 70)]) (ek := Value.int .i64) (ev := rsV) 71 mpt_75 key_3 rfl rfl rfl rfl (by repeat (first | exact Upd.here | apply Upd.there | apply upd_app)) ?_
 refine XO_v0 (ev_buildL (ps := [(0, _)]) [_] plt_79 rfl rfl) rfl rfl rfl ?_
 refine XO_insert (m := [(1, 70), (2, 71)]) (ek := Value.int .i64) (ev := rsV) 72 mpt_75 key_3 rfl rfl rfl rfl (by repeat (first | exact Upd.here | apply Upd.there | apply upd_app)) ?_
 refine zM ?_
 refine zA ?_
 refine XO_nil (at_then ?_)
 refine X_ret ?_
 refine at_freeze .here (fun I9 h9 e9 => ?_)
 exact at_ret1 rfl rfl (fun w hw => ⟨_, I9, [], rfl, hIc.trans h9, hw, rfl, r_1, rfl, e9⟩)
theorem w_mkc {I : HMap} {av : Option Addr} {n c : Nat} {v : List Int} (hQ : Sl I 1 encI av n c v) {b : Nat} {e : Em} (hb : I b = some (.cells (encEm e).toArray 44 (0, 0))) (h0 : 0 ≤ e.locus) (hl : e.locus.toNat < n) : RetV Tryz.prog 37 [.slice av n c, capP b] I (.bool (v.getD e.locus.toNat 0 == e.code)) := by
 intro g H w hw
 refine enter Tryz.func37 rfl Tryz.ntmps37 rfl hw ?_
 refine X_seq (X_region ?_)
 refine zA ?_
 refine XO_nil (at_then ?_)
 refine X_seq ?_
 refine X_draw mixed (by kernel_rfl) ?_
 refine XQ_v0 (ev_move rfl) rfl rfl rfl ?_
 refine XQ_v0 (ev_fieldAddr rfl fld_44_0) rfl rfl rfl ?_
 refine XQ_v0 (ev_load rfl sct_3 (fun hg => by exact .imm hb rfl)) rfl rfl rfl ?_
 refine XQ_v0 (ev_indexSl rfl rfl slt_23 hQ (fun hg => by first | omega | (simp [conj] at hg; omega))) rfl rfl rfl ?_
 refine XQ_v0 (ev_load rfl sct_3 (fun hg => by exact Sl.get0 (k := e.locus.toNat) hQ (some_getD (d := 0) hQ.len hl) rfl)) rfl rfl rfl ?_
 refine XQ_v0 (ev_fieldAddr rfl fld_44_1) rfl rfl rfl ?_
 refine XQ_v0 (ev_load rfl sct_3 (fun hg => by exact .imm hb rfl)) rfl rfl rfl ?_
 refine XQ_v0 (ev_cmp rfl rfl rfl) rfl rfl rfl ?_
 refine XQ_v0 (ev_assign rfl) rfl rfl rfl ?_
 refine XQ_nil ?_
 refine at_then ?_
 refine X_ret ?_
 exact at_ret1 rfl rfl (fun w hw => ⟨by rfl, hw.drop⟩)
theorem w_indexM {I : HMap} {bv : Option Addr} {n2 c2 : Nat} {rows : List (List Int)} (hV : SlN I bv n2 c2 rows) (hn : n2 ≤ 100000) {b : Nat} {e : Em} (hb : I b = some (.cells (encEm e).toArray 44 (0, 0))) (h0 : 0 ≤ e.locus) (hl : ∀ r ∈ rows, e.locus.toNat < r.length) : RetV Tryz.prog 73 [.slice bv n2 c2, .func (.func 37) #[] [capP b].toArray] I (.int .i64 (idxF (fun r : List Int => r.getD e.locus.toNat 0 == e.code) rows)) := by
 intro g H w hw
 refine enter Tryz.func73 rfl Tryz.ntmps73 rfl hw ?_
 have hlV := hV.len
 obtain ⟨hs, hV⟩ := hV
 have hH := hV.1
 refine X_seq (X_region ?_)
 refine zA ?_
 refine XO_nil (at_then ?_)
 refine X_seq ?_
 refine X_seq (X_region ?_)
 refine zM ?_
 refine XO_v0 (ev_lenS rfl slt_22) rfl rfl rfl ?_
 refine zM ?_
 refine XO_nil (at_then ?_)
 refine X_block ?_
 refine X_loopT [(0, _), (1, _), (7, _)] (.cons rfl (.cons rfl (.cons rfl .nil))) (fun T L0 mz E I' loc' => ∃ (k : Nat), mz = n2 - k ∧ E = (8, .int .i64 k) :: T ∧ I = I' ∧ L0 = loc' ∧ k ≤ n2 ∧ (rows.take k).any (fun r : List Int => r.getD e.locus.toNat 0 == e.code) = false) _ _ _ _ ⟨0, rfl, rfl, rfl, rfl, Nat.zero_le _, rfl⟩ (.cons rfl (.cons rfl (.cons rfl (.cons rfl .nil)))) (HLe.refl _) rfl ?_
 rintro mz E I' loc' ⟨k, rfl, rfl, rfl, rfl, hk, hno⟩
 refine X_seq (X_region ?_)
 refine zC ?_
 refine XO_nil (at_then ?_)
 refine X_seq ?_
 refine X_cond rfl (fun hc9 => ?_) (fun hc9 => ?_)
 ·
  have hlt_k : k < n2 := by have h := hc9; simp at h; omega
  obtain ⟨x, v, hx, hv, hQ⟩ := hV.at hlt_k
  refine X_skip ?_
  refine at_then ?_
  refine X_seq ?_
  refine X_block ?_
  refine X_seq (X_region ?_)
  refine zM ?_
  refine zA ?_
  refine XO_nil (at_then (X_seq (X_region ?_)))
  refine zM ?_
  refine zM ?_
  refine zM ?_
  refine XO_v0 (ev_indexSl rfl rfl slt_22 hH (fun hg => by first | omega | (simp [conj] at hg; omega))) rfl rfl rfl ?_
  refine XO_v0 (ev_load rfl sct_23 (fun hg => by exact Sl.get0 hH hx rfl)) rfl rfl rfl ?_
  refine XO_callV0 (cap := [capP b]) (vs := [_]) rfl rfl fun_37 (w_mkc hQ hb h0 (by rw [← hQ.len]; exact hl _ (List.mem_of_getElem? hv))) rfl rfl ?_
  refine XO_nil (at_then ?_)
  refine X_cond rfl (fun hc16 => ?_) (fun hc16 => ?_)
  ·
   refine X_seq (X_region ?_)
   refine zM ?_
   refine zA ?_
   refine XO_nil (at_then ?_)
   refine X_ret ?_
   refine at_block_r ?_
   refine at_then_r ?_
   refine at_then_r ?_
   refine at_block_r ?_
   refine at_then_r ?_
   exact at_ret1 rfl rfl (fun w hw => ⟨by rw [idx_hit hno hv hc16], hw.drop⟩)
  ·
   refine X_skip ?_
   refine at_block_n ?_
   refine at_then ?_
   refine X_region ?_
   refine XO_v0 (ev_arB rfl rfl rfl (fun _ => by omega)) rfl rfl rfl ?_
   refine zM ?_
   refine XO_nil ?_
   exact at_met2 _ _ ⟨n2 - (k + 1), by omega, k + 1, rfl, rfl, rfl, rfl, by omega, any_no hv hno hc16⟩ (.cons rfl (.cons rfl (.cons rfl (.cons rfl .nil)))) (by repeat (first | exact .refl | exact subL_left | refine subL_app ?_ | refine .drop ?_ | refine subL_add ?_))
 ·
  have hge_k : n2 ≤ k := by have h := hc9; simp at h; omega
  refine X_exit ?_
  refine at_then_e ?_
  refine at_then_e ?_
  refine at_block_hit ?_
  refine at_then ?_
  refine X_seq (X_region ?_)
  refine zA ?_
  refine XO_nil (at_then ?_)
  refine X_ret ?_
  exact at_ret1 rfl rfl (fun w hw => ⟨by rw [idx_none hlV hge_k hno], hw.drop⟩)
theorem w_containsM {I : HMap} {bv : Option Addr} {n2 c2 : Nat} {rows : List (List Int)} (hV : SlN I bv n2 c2 rows) (hn : n2 ≤ 100000) {b : Nat} {e : Em} (hb : I b = some (.cells (encEm e).toArray 44 (0, 0))) (h0 : 0 ≤ e.locus) (hl : ∀ r ∈ rows, e.locus.toNat < r.length) : RetV Tryz.prog 36 [.slice bv n2 c2, .func (.func 37) #[] [capP b].toArray] I (.bool (thereF rows e)) := by
 intro g H w hw
 refine enter Tryz.func36 rfl Tryz.ntmps36 rfl hw ?_
 refine X_seq (X_region ?_)
 refine zA ?_
 refine XO_nil (at_then (X_seq (X_region ?_)))
 refine zM ?_
 refine zM ?_
 refine XO_callV0 (cap := []) (vs := [_, _]) rfl rfl fun_73 (w_indexM hV hn hb h0 hl) rfl rfl ?_
 refine zC ?_
 refine zA ?_
 refine XO_nil (at_then ?_)
 refine X_ret ?_
 exact at_ret1 rfl rfl (fun w hw => ⟨by unfold thereF; rw [← idx_any], hw.drop⟩)
theorem w_cloneI {I : HMap} {av : Option Addr} {n c : Nat} {xs : List Int} (hS : Sl I 1 encI av n c xs) (hn : n ≤ 400000) : RetM Tryz.prog 38 [.slice av n c] I [] (fun v I' L => I' = I ∧ OwnS 3 1 v n (xs.flatMap encI) L) := by
 intro g H w hw
 refine enter Tryz.func38 rfl Tryz.ntmps38 rfl hw ?_
 refine X_seq (X_region ?_)
 refine zA ?_
 refine XO_nil (at_then ?_)
 refine X_seq ?_
 refine X_seq (X_region ?_)
 refine zM ?_
 refine XO_v0 (ev_eqNil rfl rfl slt_23) rfl rfl rfl ?_
 refine XO_nil (at_then ?_)
 refine X_cond rfl (fun hc4 => ?_) (fun hc4 => ?_)
 ·
  have hn0 : n = 0 := Decidable.byContradiction fun h => by have := hS.base h; rw [this] at hc4; cases hc4
  have hl := hS.len
  subst hn0
  have hx0 := List.eq_nil_of_length_eq_zero hl
  subst hx0
  refine X_seq (X_region ?_)
  refine zA ?_
  refine XO_nil (at_then ?_)
  refine X_ret ?_
  refine at_then_r ?_
  exact at_ret1 rfl rfl (fun w hw => ⟨_, I, _, rfl, HLe.refl _, hw, rfl, OwnS.nil⟩)
 ·
  refine X_skip ?_
  refine at_then ?_
  refine X_seq (X_region ?_)
  refine XO_buildSlice (ps := []) (m := []) elt_23 rfl (.nil) rfl (by simp) (by decide) (by decide) rfl rfl (fun b_5 => ?_)
  refine zM ?_
  refine XO_append (v := _) (ys := xs.flatMap encI) (L := [(b_5, _)]) rfl rfl elt_23 OwnS.new (by repeat (first | exact .cons .here .nil | exact split_all | exact split_app | apply split_cons | apply split_skip)) (hS.src encI_len) (one_I _) (by omega) rfl rfl ?_
  intro v1 L1 hO1 _; rw [List.nil_append, Nat.zero_add] at hO1
  refine zA ?_
  refine XO_nil (at_then ?_)
  refine X_ret ?_
  exact at_ret1 rfl rfl (fun w hw => ⟨_, I, _, rfl, HLe.refl _, hw.subL subL_left, rfl, hO1⟩)
theorem w_cloneE {I : HMap} {av : Option Addr} {n c : Nat} {xs : List Em} (hS : Sl I 3 encEm av n c xs) (hn : n ≤ 400000) : RetM Tryz.prog 39 [.slice av n c] I [] (fun v I' L => I' = I ∧ OwnS 44 3 v n (xs.flatMap encEm) L) := by
 intro g H w hw
 refine enter Tryz.func39 rfl Tryz.ntmps39 rfl hw ?_
 refine X_seq (X_region ?_)
 refine zA ?_
 refine XO_nil (at_then ?_)
 refine X_seq ?_
 refine X_seq (X_region ?_)
 refine zM ?_
 refine XO_v0 (ev_eqNil rfl rfl slt_32) rfl rfl rfl ?_
 refine XO_nil (at_then ?_)
 refine X_cond rfl (fun hc4 => ?_) (fun hc4 => ?_)
 ·
  have hn0 : n = 0 := Decidable.byContradiction fun h => by have := hS.base h; rw [this] at hc4; cases hc4
  have hl := hS.len
  subst hn0
  have hx0 := List.eq_nil_of_length_eq_zero hl
  subst hx0
  refine X_seq (X_region ?_)
  refine zA ?_
  refine XO_nil (at_then ?_)
  refine X_ret ?_
  refine at_then_r ?_
  exact at_ret1 rfl rfl (fun w hw => ⟨_, I, _, rfl, HLe.refl _, hw, rfl, OwnS.nil⟩)
 ·
  refine X_skip ?_
  refine at_then ?_
  refine X_seq (X_region ?_)
  refine XO_buildSlice (ps := []) (m := []) elt_32 rfl (.nil) rfl (by simp) (by decide) (by decide) rfl rfl (fun b_5 => ?_)
  refine zM ?_
  refine XO_append (v := _) (ys := xs.flatMap encEm) (L := [(b_5, _)]) rfl rfl elt_32 OwnS.new (by repeat (first | exact .cons .here .nil | exact split_all | exact split_app | apply split_cons | apply split_skip)) (hS.src encEm_len) (one_Em _) (by omega) rfl rfl ?_
  intro v1 L1 hO1 _; rw [List.nil_append, Nat.zero_add] at hO1
  refine zA ?_
  refine XO_nil (at_then ?_)
  refine X_ret ?_
  exact at_ret1 rfl rfl (fun w hw => ⟨_, I, _, rfl, HLe.refl _, hw.subL subL_left, rfl, hO1⟩)
theorem w_equalI {I : HMap} {av : Option Addr} {n c : Nat} {xs : List Int} (hS : Sl I 1 encI av n c xs) {bv : Option Addr} {n2 c2 : Nat} {ys : List Int} (hT : Sl I 1 encI bv n2 c2 ys) (hn : n ≤ 100000) : RetV Tryz.prog 57 [.slice av n c, .slice bv n2 c2] I (.bool (decide (xs = ys))) := by
 intro g H w hw
 refine enter Tryz.func57 rfl Tryz.ntmps57 rfl hw ?_
 have hl1 := hS.len
 have hl2 := hT.len
 refine X_seq (X_region ?_)
 refine zA ?_
 refine XO_nil (at_then ?_)
 refine X_seq ?_
 refine X_seq (X_region ?_)
 refine zM ?_
 refine XO_v0 (ev_lenS rfl slt_23) rfl rfl rfl ?_
 refine zM ?_
 refine XO_v0 (ev_lenS rfl slt_23) rfl rfl rfl ?_
 refine zC ?_
 refine XO_nil (at_then ?_)
 refine X_cond rfl (fun hc10 => ?_) (fun hc10 => ?_)
 ·
  have hne : xs ≠ ys := fun e => by have h := hc10; subst e; simp at h; omega
  refine X_seq (X_region ?_)
  refine zA ?_
  refine XO_nil (at_then ?_)
  refine X_ret ?_
  refine at_then_r ?_
  exact at_ret1 rfl rfl (fun w hw => ⟨by rw [decide_eq_false hne], hw.drop⟩)
 ·
  have hnn : n = n2 := by have h := hc10; simp at h; omega
  refine X_skip ?_
  refine at_then ?_
  refine X_seq ?_
  refine X_seq (X_region ?_)
  refine zM ?_
  refine XO_v0 (ev_lenS rfl slt_23) rfl rfl rfl ?_
  refine zM ?_
  refine XO_nil (at_then ?_)
  refine X_block ?_
  refine X_loopT [(0, _), (1, _), (12, _)] (.cons rfl (.cons rfl (.cons rfl .nil))) (fun T L0 mz E I' loc' => ∃ (k : Nat), mz = n - k ∧ E = (13, .int .i64 k) :: T ∧ I = I' ∧ L0 = loc' ∧ k ≤ n ∧ xs.take k = ys.take k) _ _ _ _ ⟨0, rfl, rfl, rfl, rfl, Nat.zero_le _, rfl⟩ (.cons rfl (.cons rfl (.cons rfl (.cons rfl .nil)))) (HLe.refl _) rfl ?_
  rintro mz E I' loc' ⟨k, rfl, rfl, rfl, rfl, hk, hall⟩
  refine X_seq (X_region ?_)
  refine zC ?_
  refine XO_nil (at_then ?_)
  refine X_seq ?_
  refine X_cond rfl (fun hc14 => ?_) (fun hc14 => ?_)
  ·
   have hlt_k : k < n := by have h := hc14; simp at h; omega
   obtain ⟨x, hx⟩ := hS.at hlt_k
   obtain ⟨y, hy⟩ := hT.at (show k < n2 by omega)
   refine X_skip ?_
   refine at_then ?_
   refine X_seq ?_
   refine X_block ?_
   refine X_seq (X_region ?_)
   refine zM ?_
   refine zA ?_
   refine XO_nil (at_then ?_)
   refine X_seq ?_
   refine X_draw mixed (by kernel_rfl) ?_
   refine XQ_v0 (ev_move rfl) rfl rfl rfl ?_
   refine XQ_v0 (ev_move rfl) rfl rfl rfl ?_
   refine XQ_v0 (ev_indexSl rfl rfl slt_23 hS (fun hg => by first | omega | (simp [conj] at hg; omega))) rfl rfl rfl ?_
   refine XQ_v0 (ev_load rfl sct_3 (fun hg => by exact Sl.get0 hS hx rfl)) rfl rfl rfl ?_
   refine XQ_v0 (ev_move rfl) rfl rfl rfl ?_
   refine XQ_v0 (ev_move rfl) rfl rfl rfl ?_
   refine XQ_v0 (ev_indexSl rfl rfl slt_23 hT (fun hg => by first | omega | (simp [conj] at hg; omega))) rfl rfl rfl ?_
   refine XQ_v0 (ev_load rfl sct_3 (fun hg => by exact Sl.get0 hT hy rfl)) rfl rfl rfl ?_
   refine XQ_v0 (ev_cmp rfl rfl rfl) rfl rfl rfl ?_
   refine XQ_nil ?_
   refine at_then ?_
   refine X_cond rfl (fun hc24 => ?_) (fun hc24 => ?_)
   ·
    have hne : xs ≠ ys := fun e => by subst e; rw [hx] at hy; cases hy; simp at hc24
    refine X_seq (X_region ?_)
    refine zA ?_
    refine XO_nil (at_then ?_)
    refine X_ret ?_
    refine at_block_r ?_
    refine at_then_r ?_
    refine at_then_r ?_
    refine at_block_r ?_
    refine at_then_r ?_
    exact at_ret1 rfl rfl (fun w hw => ⟨by rw [decide_eq_false hne], hw.drop⟩)
   ·
    have hxy : x = y := by simpa using hc24
    refine X_skip ?_
    refine at_block_n ?_
    refine at_then ?_
    refine X_region ?_
    refine XO_v0 (ev_arB rfl rfl rfl (fun _ => by omega)) rfl rfl rfl ?_
    refine zM ?_
    refine XO_nil ?_
    exact at_met2 _ _ ⟨n - (k + 1), by omega, k + 1, rfl, rfl, rfl, rfl, by omega, by rw [List.take_add_one, List.take_add_one, hall, hx, hy, hxy]⟩ (.cons rfl (.cons rfl (.cons rfl (.cons rfl .nil)))) (by repeat (first | exact .refl | exact subL_left | refine subL_app ?_ | refine .drop ?_ | refine subL_add ?_))
  ·
   have hge_k : n ≤ k := by have h := hc14; simp at h; omega
   have heq : xs = ys := by rw [List.take_of_length_le (by omega), List.take_of_length_le (by omega)] at hall; exact hall
   refine X_exit ?_
   refine at_then_e ?_
   refine at_then_e ?_
   refine at_block_hit ?_
   refine at_then ?_
   refine X_seq (X_region ?_)
   refine zA ?_
   refine XO_nil (at_then ?_)
   refine X_ret ?_
   exact at_ret1 rfl rfl (fun w hw => ⟨by rw [decide_eq_true heq], hw.drop⟩)
theorem w_equal {I : HMap} {av : Option Addr} {n c : Nat} {xs : List Int} (hS : Sl I 1 encI av n c xs) {bv : Option Addr} {n2 c2 : Nat} {ys : List Int} (hT : Sl I 1 encI bv n2 c2 ys) (hn : n ≤ 100000) : RetV Tryz.prog 29 [.slice av n c, .slice bv n2 c2] I (.bool (decide (xs = ys))) := by
 intro g H w hw
 refine enter Tryz.func29 rfl Tryz.ntmps29 rfl hw ?_
 refine X_seq (X_region ?_)
 refine zA ?_
 refine XO_nil (at_then (X_seq (X_region ?_)))
 refine zM ?_
 refine zM ?_
 refine XO_callV0 (cap := []) (vs := [_, _]) rfl rfl fun_57 (w_equalI hS hT hn) rfl rfl ?_
 refine zA ?_
 refine XO_nil (at_then ?_)
 refine X_ret ?_
 exact at_ret1 rfl rfl (fun w hw => ⟨by rfl, hw.drop⟩)
theorem w_equalN {I : HMap} {av : Option Addr} {n c : Nat} {xs : List (List Int)} (hS : SlN I av n c xs) {bv : Option Addr} {n2 c2 : Nat} {ys : List (List Int)} (hT : SlN I bv n2 c2 ys) (hn : n ≤ 100000) (hn3 : ∀ x ∈ xs, x.length ≤ 100000) : RetV Tryz.prog 28 [.slice av n c, .slice bv n2 c2, .func (.func 29) #[] #[]] I (.bool (decide (xs = ys))) := by
 intro g H w hw
 refine enter Tryz.func28 rfl Tryz.ntmps28 rfl hw ?_
 have hl1 := hS.len
 have hl2 := hT.len
 obtain ⟨hs, hS⟩ := hS
 have hH := hS.1
 obtain ⟨gs, hT⟩ := hT
 have hG := hT.1
 refine X_seq (X_region ?_)
 refine zA ?_
 refine XO_nil (at_then ?_)
 refine X_seq ?_
 refine X_seq (X_region ?_)
 refine zM ?_
 refine XO_v0 (ev_lenS rfl slt_22) rfl rfl rfl ?_
 refine zM ?_
 refine XO_v0 (ev_lenS rfl slt_22) rfl rfl rfl ?_
 refine zC ?_
 refine XO_nil (at_then ?_)
 refine X_cond rfl (fun hc14 => ?_) (fun hc14 => ?_)
 ·
  have hne : xs ≠ ys := fun e => by have h := hc14; subst e; simp at h; omega
  refine X_seq (X_region ?_)
  refine zA ?_
  refine XO_nil (at_then ?_)
  refine X_ret ?_
  refine at_then_r ?_
  exact at_ret1 rfl rfl (fun w hw => ⟨by rw [decide_eq_false hne], hw.drop⟩)
 ·
  have hnn : n = n2 := by have h := hc14; simp at h; omega
  refine X_skip ?_
  refine at_then ?_
  refine X_seq ?_
  refine X_seq (X_region ?_)
  refine zM ?_
  refine XO_v0 (ev_lenS rfl slt_22) rfl rfl rfl ?_
  refine zM ?_
  refine XO_nil (at_then ?_)
  refine X_block ?_
  refine X_loopT [(1, _), (2, _), (15, _), (16, _)] (.cons rfl (.cons rfl (.cons rfl (.cons rfl .nil)))) (fun T L0 mz E I' loc' => ∃ (k : Nat), mz = n - k ∧ E = (17, .int .i64 k) :: T ∧ I = I' ∧ L0 = loc' ∧ k ≤ n ∧ xs.take k = ys.take k) _ _ _ _ ⟨0, rfl, rfl, rfl, rfl, Nat.zero_le _, rfl⟩ (.cons rfl (.cons rfl (.cons rfl (.cons rfl (.cons rfl .nil))))) (HLe.refl _) rfl ?_
  rintro mz E I' loc' ⟨k, rfl, rfl, rfl, rfl, hk, hall⟩
  refine X_seq (X_region ?_)
  refine zC ?_
  refine XO_nil (at_then ?_)
  refine X_seq ?_
  refine X_cond rfl (fun hc18 => ?_) (fun hc18 => ?_)
  ·
   have hlt_k : k < n := by have h := hc18; simp at h; omega
   obtain ⟨x, u, hx, hu, hP⟩ := hS.at hlt_k
   obtain ⟨y, v, hy, hv, hQ⟩ := hT.at (show k < n2 by omega)
   refine X_skip ?_
   refine at_then ?_
   refine X_seq ?_
   refine X_block ?_
   refine X_seq (X_region ?_)
   refine zM ?_
   refine XO_v0 (ev_indexSl rfl rfl slt_22 hH (fun hg => by first | omega | (simp [conj] at hg; omega))) rfl rfl rfl ?_
   refine XO_v0 (ev_load rfl sct_23 (fun hg => by exact Sl.get0 hH hx rfl)) rfl rfl rfl ?_
   refine zA ?_
   refine zA ?_
   refine XO_nil (at_then (X_seq (X_region ?_)))
   refine zM ?_
   refine zM ?_
   refine XO_v0 (ev_indexSl rfl rfl slt_22 hG (fun hg => by first | omega | (simp [conj] at hg; omega))) rfl rfl rfl ?_
   refine XO_v0 (ev_load rfl sct_23 (fun hg => by exact Sl.get0 hG hy rfl)) rfl rfl rfl ?_
   refine zA ?_
   refine XO_nil (at_then (X_seq (X_region ?_)))
   refine zM ?_
   refine zM ?_
   refine zM ?_
   refine XO_callV0 (cap := []) (vs := [_, _]) rfl rfl fun_29 (w_equal hP hQ (by rw [← hP.len]; exact hn3 _ (List.mem_of_getElem? hu))) rfl rfl ?_
   refine XO_v0 (ev_not rfl) rfl rfl rfl ?_
   refine XO_nil (at_then ?_)
   refine X_cond rfl (fun hc30 => ?_) (fun hc30 => ?_)
   ·
    have hne : xs ≠ ys := fun e => by subst e; rw [hu] at hv; cases hv; simp at hc30
    refine X_seq (X_region ?_)
    refine zA ?_
    refine XO_nil (at_then ?_)
    refine X_ret ?_
    refine at_block_r ?_
    refine at_then_r ?_
    refine at_then_r ?_
    refine at_block_r ?_
    refine at_then_r ?_
    exact at_ret1 rfl rfl (fun w hw => ⟨by rw [decide_eq_false hne], hw.drop⟩)
   ·
    have huv : u = v := by simpa using hc30
    refine X_skip ?_
    refine at_block_n ?_
    refine at_then ?_
    refine X_region ?_
    refine XO_v0 (ev_arB rfl rfl rfl (fun _ => by omega)) rfl rfl rfl ?_
    refine zM ?_
    refine XO_nil ?_
    exact at_met2 _ _ ⟨n - (k + 1), by omega, k + 1, rfl, rfl, rfl, rfl, by omega, by rw [List.take_add_one, List.take_add_one, hall, hu, hv, huv]⟩ (.cons rfl (.cons rfl (.cons rfl (.cons rfl (.cons rfl .nil))))) (by repeat (first | exact .refl | exact subL_left | refine subL_app ?_ | refine .drop ?_ | refine subL_add ?_))
  ·
   have hge_k : n ≤ k := by have h := hc18; simp at h; omega
   have heq : xs = ys := by rw [List.take_of_length_le (by omega), List.take_of_length_le (by omega)] at hall; exact hall
   refine X_exit ?_
   refine at_then_e ?_
   refine at_then_e ?_
   refine at_block_hit ?_
   refine at_then ?_
   refine X_seq (X_region ?_)
   refine zA ?_
   refine XO_nil (at_then ?_)
   refine X_ret ?_
   exact at_ret1 rfl rfl (fun w hw => ⟨by rw [decide_eq_true heq], hw.drop⟩)
theorem w_sameG {I : HMap} {av : Option Addr} {n c : Nat} {xs : List Sg} (hS : Sl I 14 encG av n c xs) {bv : Option Addr} {n2 c2 : Nat} {ys : List Sg} (hT : Sl I 14 encG bv n2 c2 ys) (hn : n ≤ 100000) : RetV Tryz.prog 13 [.slice av n c, .slice bv n2 c2] I (.bool (decide (xs = ys))) := by
 intro g H w hw
 refine enter Tryz.func13 rfl Tryz.ntmps13 rfl hw ?_
 have hl1 := hS.len
 have hl2 := hT.len
 refine X_seq (X_region ?_)
 refine zA ?_
 refine XO_nil (at_then ?_)
 refine X_seq ?_
 refine X_seq (X_region ?_)
 refine zM ?_
 refine XO_v0 (ev_lenS rfl slt_36) rfl rfl rfl ?_
 refine zM ?_
 refine XO_v0 (ev_lenS rfl slt_36) rfl rfl rfl ?_
 refine zC ?_
 refine XO_nil (at_then ?_)
 refine X_cond rfl (fun hc10 => ?_) (fun hc10 => ?_)
 ·
  have hne : xs ≠ ys := fun e => by have h := hc10; subst e; simp at h; omega
  refine X_seq (X_region ?_)
  refine zA ?_
  refine XO_nil (at_then ?_)
  refine X_ret ?_
  refine at_then_r ?_
  exact at_ret1 rfl rfl (fun w hw => ⟨by rw [decide_eq_false hne], hw.drop⟩)
 ·
  have hnn : n = n2 := by have h := hc10; simp at h; omega
  refine X_skip ?_
  refine at_then ?_
  refine X_seq ?_
  refine X_seq (X_region ?_)
  refine zA ?_
  refine XO_nil (at_then ?_)
  refine X_block ?_
  refine X_loopT [(0, _), (1, _)] (.cons rfl (.cons rfl .nil)) (fun T L0 mz E I' loc' => ∃ (k : Nat), mz = n - k ∧ E = (5, .int .i64 k) :: T ∧ I = I' ∧ L0 = loc' ∧ k ≤ n ∧ xs.take k = ys.take k) _ _ _ _ ⟨0, rfl, rfl, rfl, rfl, Nat.zero_le _, rfl⟩ (.cons rfl (.cons rfl (.cons rfl .nil))) (HLe.refl _) rfl ?_
  rintro mz E I' loc' ⟨k, rfl, rfl, rfl, rfl, hk, hall⟩
  refine X_seq ?_
  refine X_seq (X_region ?_)
  refine zM ?_
  refine zM ?_
  refine XO_v0 (ev_lenS rfl slt_36) rfl rfl rfl ?_
  refine zC ?_
  refine XO_nil (at_then ?_)
  refine X_cond rfl (fun hc14 => ?_) (fun hc14 => ?_)
  ·
   have hlt_k : k < n := by have h := hc14; simp at h; omega
   obtain ⟨x, hx⟩ := hS.at hlt_k
   obtain ⟨y, hy⟩ := hT.at (show k < n2 by omega)
   refine X_skip ?_
   refine at_then ?_
   refine X_seq ?_
   refine X_block ?_
   refine X_seq ?_
   refine X_draw mixed (by kernel_rfl) ?_
   refine XQ_v0 (ev_move rfl) rfl rfl rfl ?_
   refine XQ_v0 (ev_move rfl) rfl rfl rfl ?_
   refine XQ_v0 (ev_indexSl rfl rfl slt_36 hS (fun hg => by first | omega | (simp [conj] at hg; omega))) rfl rfl rfl ?_
   refine XQ_v0 (ev_loadA rfl agt_48 (fun hg => by exact Sl.getA hS hx) rfl) rfl rfl rfl ?_
   refine XQ_v0 (ev_move rfl) rfl rfl rfl ?_
   refine XQ_v0 (ev_move rfl) rfl rfl rfl ?_
   refine XQ_v0 (ev_indexSl rfl rfl slt_36 hT (fun hg => by first | omega | (simp [conj] at hg; omega))) rfl rfl rfl ?_
   refine XQ_v0 (ev_loadA rfl agt_48 (fun hg => by exact Sl.getA hT hy) rfl) rfl rfl rfl ?_
   refine XQ_v0 (v := .bool (!sgEq x y)) (ev_neS2 rfl rfl eqt2_48 rfl) rfl rfl rfl ?_
   refine XQ_nil ?_
   refine at_then ?_
   refine X_cond rfl (fun hc25 => ?_) (fun hc25 => ?_)
   ·
    have hxy : ¬ x = y := fun e => by rw [sgEq_iff.2 e] at hc25; cases hc25
    have hne : xs ≠ ys := fun e => by subst e; rw [hx] at hy; cases hy; exact hxy rfl
    refine X_seq (X_region ?_)
    refine zA ?_
    refine XO_nil (at_then ?_)
    refine X_ret ?_
    refine at_block_r ?_
    refine at_then_r ?_
    refine at_then_r ?_
    refine at_block_r ?_
    refine at_then_r ?_
    exact at_ret1 rfl rfl (fun w hw => ⟨by rw [decide_eq_false hne], hw.drop⟩)
   ·
    have hxy : x = y := sgEq_iff.1 (by simpa using hc25)
    refine X_skip ?_
    refine at_block_n ?_
    refine at_then ?_
    refine X_region ?_
    refine zM ?_
    refine XO_v0 (ev_arB rfl rfl rfl (fun _ => by omega)) rfl rfl rfl ?_
    refine zA ?_
    refine XO_nil ?_
    exact at_met2 _ _ ⟨n - (k + 1), by omega, k + 1, rfl, rfl, rfl, rfl, by omega, by rw [List.take_add_one, List.take_add_one, hall, hx, hy, hxy]⟩ (.cons rfl (.cons rfl (.cons rfl .nil))) (by repeat (first | exact .refl | exact subL_left | refine subL_app ?_ | refine .drop ?_ | refine subL_add ?_))
  ·
   have hge_k : n ≤ k := by have h := hc14; simp at h; omega
   have heq : xs = ys := by rw [List.take_of_length_le (by omega), List.take_of_length_le (by omega)] at hall; exact hall
   refine X_exit ?_
   refine at_then_e ?_
   refine at_then_e ?_
   refine at_block_hit ?_
   refine at_then ?_
   refine X_seq (X_region ?_)
   refine zA ?_
   refine XO_nil (at_then ?_)
   refine X_ret ?_
   exact at_ret1 rfl rfl (fun w hw => ⟨by rw [decide_eq_true heq], hw.drop⟩)
def stepG (size bar : Int) : Sg := ⟨0, 0, bar, 1, 1, 1, 1, 0, size, 0, 0, 1, 1, 1⟩
theorem w_lawstep (I : HMap) (size bar : Int) : RetV Tryz.prog 15 [.int .i64 size, .int .i64 bar] I (encGA (stepG size bar)) := by
 intro g H w hw
 refine enter Tryz.func15 rfl Tryz.ntmps15 rfl hw ?_
 refine X_seq (X_region ?_)
 refine XO_alloc zt_48 rfl rfl (fun b_4 => ?_)
 refine XO_nil (at_then (X_seq (X_region ?_)))
 refine zM ?_
 refine zM ?_
 refine XO_v0 (ev_buildL (ps := [(1, _)]) [_, _] plt_46 rfl rfl) rfl rfl rfl ?_
 refine XO_v0 (ev_buildL (ps := [(0, _), (1, _)]) [_, _] plt_46 rfl rfl) rfl rfl rfl ?_
 refine XO_v0 (ev_buildL (ps := [(3, _), (4, _), (5, _), (6, _), (8, _), (2, _), (10, _), (11, _)]) [_, _, _, _, _, _, _, _, _, _, _, _, _, _] plt_48 rfl rfl) rfl rfl rfl ?_
 refine XO_storeA rfl rfl szt_48 rfl rfl rfl rfl (by repeat (first | exact Upd.here | apply Upd.there | apply upd_app)) ?_
 refine XO_nil (at_then ?_)
 refine X_ret ?_
 exact at_retA rfl rfl agt_48 Cells.g0 rfl (fun w hw => ⟨rfl, hw.drop⟩)
end Go.Proofs.YthcffaheamikgaaGreatDoor
end
section
namespace Go.Proofs.YthcffaheamikgaaGreatDoor
open Go Go.Kn Go.Proofs
theorem root_pos {rows : List (List Int)} {cl : List Int} {l : Nat} : 0 < (rootF rows cl l).length := by
  have hne : topF rows cl l ≠ [] := fun e => by
    have h1 := top_len (rows := rows) (cl := cl) (l := l)
    have h2 := stE_pos (rows := rows) (l := l)
    rw [e] at h1; simp at h1; omega
  obtain ⟨h1, _⟩ := least_in hne
  rw [top_map] at h1
  obtain ⟨x, hx, e⟩ := List.mem_map.1 h1
  refine List.length_pos_of_mem (a := x) ?_
  unfold rootF
  rw [List.mem_filter]
  exact ⟨hx, by rw [e, top_map]; simp⟩
theorem base_yes {rows : List (List Int)} {cl : List Int} {k : Nat} (h : (rootF rows cl k).any (fun y => (rows.getD 0 []).getD k 0 == y) = true) : (rows.getD 0 []).getD k 0 = baseK rows cl k := by unfold baseK; rw [if_pos h]
theorem base_no {rows : List (List Int)} {cl : List Int} {k : Nat} (h : (rootF rows cl k).any (fun y => (rows.getD 0 []).getD k 0 == y) = false) : (rootF rows cl k).getD 0 0 = baseK rows cl k := by unfold baseK; rw [if_neg (by rw [h]; decide)]
def zeroE : Em := ⟨0, 0, 0⟩
/-- What a locus takes of the emendations that are left. -/
theorem left_yes {rows : List (List Int)} {cl : List Int} {es lf : List Em} {k : Nat} (hl : lf = lfK es k) (h : (decide ((lf.length : Int) > 0) && ((lf.getD 0 zeroE).locus == (k : Int))) = true) : (lf.getD 0 zeroE).code = readK rows cl es k ∧ lf.drop 1 = lfK es (k + 1) ∧ 0 < lf.length := by
  cases lf with
  | nil => simp at h
  | cons e r =>
    have he : e.locus = (k : Int) := by simpa using h
    exact ⟨(rd_yes hl.symm he).symm, (lf_yes hl.symm he).symm, by simp⟩
theorem left_no {rows : List (List Int)} {cl : List Int} {es lf : List Em} {k : Nat} (hl : lf = lfK es k) (h : (decide ((lf.length : Int) > 0) && ((lf.getD 0 zeroE).locus == (k : Int))) = false) : baseK rows cl k = readK rows cl es k ∧ lf = lfK es (k + 1) := by
  cases lf with
  | nil => exact ⟨(rd_nil hl.symm).symm, (lf_nil hl.symm).symm⟩
  | cons e r =>
    have he : ¬ e.locus = (k : Int) := by
      intro he
      have h3 : (e.locus == (k : Int)) = false := by simpa using h
      rw [he] at h3; simp at h3
    exact ⟨(rd_no hl.symm he).symm, (lf_no hl.symm he).symm⟩
theorem reads_len {rows : List (List Int)} {cl : List Int} {es : List Em} : (readsL rows cl es).length = (rows.getD 0 []).length := by unfold readsL; simp
end Go.Proofs.YthcffaheamikgaaGreatDoor
end
section
namespace Go
def Exit.straight (Q : Exit → Act → World → Prop) : Exit → Act → World → Prop
  | .goto _, _, _ => False
  | .normal, a, w => Q .normal a w
  | .exit i, a, w => Q (.exit i) a w
  | .ret, a, w => Q .ret a w
  | .panic c, a, w => Q (.panic c) a w
  | .outgrown, a, w => Q .outgrown a w
section
variable {P : Program} {F : Fence} {n : Nat} {b : Frame} {a : Act} {k : List Item} {cs : List Frame} {w : World} {Q : Exit → Act → World → Prop}
theorem stepR_scope {c : Code} : step P (lone (b.atR a (.code (.scope c) :: k)) cs w) = .next (lone (b.atR a (.code c :: .inScope c :: k)) cs w) :=
  step_lone_go (by simp [stepG, stepG.exec, Frame.atR])
theorem stepR_inScope {c : Code} : step P (lone (b.atR a (.inScope c :: k)) cs w) = .next (lone (b.atR a k) cs w) :=
  step_lone_go (by simp [stepG, stepG.exec, Frame.atR])
theorem wpIn_scope_straight {c : Code} (h : c.wpIn F n P (Exit.straight Q) a w) : (Code.scope c).wpIn F n P Q a w := by
  intro b k cs hro hb hr
  have h0 : (lone (b.atR a (.code (.scope c) :: k)) cs w).fenced P F := fenced_calm hb hr rfl
  obtain ⟨e, a₁, w₁, hq, harr⟩ := h b (.inScope c :: k) cs hro hb hr
  cases e with
  | normal => exact ⟨.normal, a₁, w₁, hq, .head h0 stepR_scope (StepsIn.trans harr (.one (fenced_calm hb hr rfl) stepR_inScope))⟩
  | exit id =>
    have hx : exitTo id (.inScope c :: k) = exitTo id k := by simp [exitTo]
    exact ⟨_, a₁, w₁, hq, fun k' hk => .head h0 stepR_scope (harr.1 k' (by rw [hx]; exact hk)),
      fun hr' hk => let ⟨k₁, h1, h2⟩ := harr.2 hr' (by rw [hx]; exact hk); ⟨k₁, h1, .head h0 stepR_scope h2⟩⟩
  | goto l => exact hq.elim
  | ret => exact ⟨_, a₁, w₁, hq, .of_steps (.one h0 stepR_scope) harr⟩
  | panic ch => exact ⟨_, a₁, w₁, hq, .of_steps (.one h0 stepR_scope) harr⟩
  | outgrown => exact ⟨_, a₁, w₁, hq, .of_steps (.one h0 stepR_scope) harr⟩
end
end Go
namespace Go.Kn
open Go
section
variable {C : Cx} {Q : Exit → Act → World → Prop} {E : Env} {I : HMap} {loc : Loc}
theorem X_scope {c : Code} (h : X C (Exit.straight Q) c E I loc) : X C Q (.scope c) E I loc := fun a w ha hw => wpIn_scope_straight (h a w ha hw)
theorem X_label {l : Nat} (h : At C Q .normal E I loc) : X C Q (.label l) E I loc := fun a w ha hw => wpIn_label (h a w ha hw)
theorem at_scope_r (h : At C Q .ret E I loc) : At C (Exit.straight Q) .ret E I loc := h
theorem at_locEq {e : Exit} {loc' : Loc} (h : loc = loc') (hx : At C Q e E I loc') : At C Q e E I loc := h ▸ hx
variable {S : GS} {dst : Option Nat} {ty : TypeId} {pos : String} {af : Array Edge} {gd : Option (Nat × Bool)} {x y : Operand}
theorem run_equalIn_ptrNil {P : Program} {w : World} {t e d : Nat} {q : Option Addr} (hT : P.underlying t = some (.pointer e)) : (Op.equalIn (d + 1) t (.pointer q) (.pointer none)).run P w = .ok q.isNone w := by
  unfold Op.equalIn
  rw [Sem.run_bind, run_underlying hT]
  cases q <;> rfl
/-- Is a pointer nil? -/
theorem ev_ptrNil {t t' e : Nat} {q : Option Addr} (hx : evalS S E x = some (.pointer q)) (hy : evalS S E y = some (.pointer none)) (hT : C.P.underlying t = some (.pointer e)) : EvalOp C S E I loc ⟨dst, .binOp .eql t x y t', ty, pos, af, gd⟩ (.bool q.isNone) :=
  .of (by intro c e; cases e) fun a w ha hg hc _ => by
    have e1 : ∀ op x y t, (eqGuard op t x y (.pointer q) (.pointer none)).run C.P w = .ok () w := by intros; unfold eqGuard; rename_i op _ _ _; cases op <;> rfl
    have e2 : (Op.equal t (.pointer q) (.pointer none)).run C.P w = .ok q.isNone w := run_equalIn_ptrNil (d := 9999) hT
    simp only [execOp, evalS_sound ha hg hc hx, evalS_sound ha hg hc hy, Sem.run_bind, e1, Result.andThen, binOp, e2, Sem.run_pure]
end
end Go.Kn
end
section
namespace Go.Proofs.YthcffaheamikgaaGreatDoor
open Go Go.Kn Go.Proofs
theorem agt_34 : AgT Tryz.prog 34 4 := .of (by kernel_rfl)
theorem agt_44 : AgT Tryz.prog 44 3 := .of (by kernel_rfl)
theorem fld_34_3 : FieldAt Tryz.prog 34 3 3 := .of (by kernel_rfl)
theorem fld_44_2 : FieldAt Tryz.prog 44 2 2 := .of (by kernel_rfl)
theorem fld_79_0 : FieldAt Tryz.prog 79 0 0 := .of (by kernel_rfl)
theorem fun_35 : Fun Tryz.prog 35 := .of Tryz.func35 (by kernel_rfl) (by kernel_rfl)
theorem fun_38 : Fun Tryz.prog 38 := .of Tryz.func38 (by kernel_rfl) (by kernel_rfl)
theorem fun_39 : Fun Tryz.prog 39 := .of Tryz.func39 (by kernel_rfl) (by kernel_rfl)
theorem fun_7 : Fun Tryz.prog 7 := .of Tryz.func7 (by kernel_rfl) (by kernel_rfl)
theorem fun_70 : Fun Tryz.prog 70 := .of Tryz.func70 (by kernel_rfl) (by kernel_rfl)
theorem fun_71 : Fun Tryz.prog 71 := .of Tryz.func71 (by kernel_rfl) (by kernel_rfl)
theorem fun_72 : Fun Tryz.prog 72 := .of Tryz.func72 (by kernel_rfl) (by kernel_rfl)
theorem plt_34 : PlT Tryz.prog 34 #[(0, 1), (1, 1), (2, 1), (3, 1)] (.agg #[(.int .i64 0), (.slice none 0 0), (.slice none 0 0), (.slice none 0 0)]) := ⟨.of (by kernel_rfl), by kernel_rfl, fun w => by kernel_rfl⟩
theorem sct_77 : ScT Tryz.prog 77 := .of (by kernel_rfl)
theorem szt_34 : SzT Tryz.prog 34 4 := .of (by kernel_rfl)
theorem szt_44 : SzT Tryz.prog 44 3 := .of (by kernel_rfl)
theorem szt_79 : SzT Tryz.prog 79 1 := .of (by kernel_rfl)
theorem zt_34 : ZeroT Tryz.prog 34 (.agg #[(.int .i64 0), (.slice none 0 0), (.slice none 0 0), (.slice none 0 0)]) := .of (by kernel_rfl)
theorem zt_44 : ZeroT Tryz.prog 44 (.agg #[(.int .i64 0), (.int .i64 0), (.int .i64 0)]) := .of (by kernel_rfl)
theorem zt_79 : ZeroT Tryz.prog 79 (.agg #[.nilFunc]) := .of (by kernel_rfl)
def RmOK (I : HMap) (r : Nat) : Prop := I r = some (mapO (Value.int .i64) rsV rsM)
theorem RmOK.mono {I I' : HMap} {r : Nat} (h : RmOK I r) (hI : HLe I I') : RmOK I' r := hI _ _ h
theorem rs_cases (r : Int) : (r ≠ 1 ∧ r ≠ 2 ∧ r ≠ 3 ∧ mget rsM r = none) ∨ ∃ f, mget rsM r = some f ∧ Fun Tryz.prog f ∧ ∀ (I : HMap) (code : Int) (b : Bool), RetV Tryz.prog f [.int .i64 code, .bool b] I (.bool (rsF r code b)) := by
 by_cases h1 : r = 1
 ·
  subst h1; exact .inr ⟨_, rfl, fun_70, w_rs1⟩
 ·
  by_cases h2 : r = 2
  ·
   subst h2; exact .inr ⟨_, rfl, fun_71, w_rs2⟩
  ·
   by_cases h3 : r = 3
   ·
    subst h3; exact .inr ⟨_, rfl, fun_72, w_rs3⟩
   ·
    exact .inl ⟨h1, h2, h3, by unfold rsM; simp [mget, Ne.symm h1, Ne.symm h2, Ne.symm h3]⟩
set_option maxHeartbeats 40000000 in
theorem w_Make {I : HMap} {av : Option Addr} {n c : Nat} {xs : List Int} (hS : Sl I 1 encI av n c xs) {bv : Option Addr} {n2 c2 : Nat} {rows : List (List Int)} (hVn : SlN I bv n2 c2 rows) (hn2 : n2 ≤ 100000) {dv : Option Addr} {n3 c3 : Nat} {es : List Em} (hEs : Sl I 3 encEm dv n3 c3 es) (hn3 : n3 ≤ 100000) (hnx : n ≤ 100000) (hDb : DebOK I) (no : Int) : RetM Tryz.prog 14 [.slice bv n2 c2, .int .i64 no, .slice av n c, .slice dv n3 c3] I [] (MakQ rows no xs es) := by
 intro g H w hw
 refine enter Tryz.func14 rfl Tryz.ntmps14 rfl hw ?_
 have hIc := HLe.refl I
 have hlV := hVn.len
 subst hlV
 have hEl := hEs.len
 subst hEl
 have hVn9 := hVn
 obtain ⟨hs, hV⟩ := hVn9
 have hH := hV.1
 refine X_seq (X_region ?_)
 refine XO_alloc zt_34 rfl rfl (fun b_8 => ?_)
 refine zA ?_
 refine XO_nil (at_then (X_seq (X_region ?_)))
 refine zM ?_
 refine zM ?_
 refine XO_callM (cap := []) (vs := [_, _]) rfl rfl fun_7 .nil (w_Roots hS hVn hn2 hDb) rfl rfl ?_
 rintro vv1 I1 L1 hI1 ⟨rfl, av4, c4, rfl, hRt⟩
 have hS := hS.mono hI1
 have hVn := hVn.mono hI1
 have hV := hV.mono hI1
 have hH := hH.mono hI1
 have hDb := hDb.mono hI1
 have hEs := hEs.mono hI1
 have hIc := hIc.trans hI1
 refine zM ?_
 refine XO_v0 (ev_extract rfl rfl) rfl rfl rfl ?_
 refine XO_v0 (ev_extract rfl rfl) rfl rfl rfl ?_
 refine zA ?_
 refine zA ?_
 refine XO_nil (at_then ?_)
 refine X_seq ?_
 refine X_seq (X_region ?_)
 refine zM ?_
 refine zC ?_
 refine XO_nil (at_then ?_)
 refine X_cond rfl (fun hc28 => ?_) (fun hc28 => ?_)
 ·
  have hcE : costE rows xs ≠ 0 := by simpa using hc28
  refine X_seq (X_region ?_)
  refine XO_v0 (ev_loadA rfl agt_34 (fun hg => by exact Cells.g0) rfl) rfl rfl rfl ?_
  refine zM ?_
  refine XO_storeA rfl rfl szt_34 rfl rfl rfl rfl (by repeat (first | exact Upd.here | apply Upd.there | apply upd_app)) ?_
  refine zA ?_
  refine XO_nil (at_then ?_)
  refine X_ret ?_
  refine at_then_r ?_
  first
  | exact at_ret2A rfl rfl rfl agt_34 (vs := encEd 0 none 0 0 none 0 0 none 0 0) (by repeat (first | exact Cells.here | apply Cells.there)) rfl (fun w hw => ⟨_, _, [], rfl, hIc, hw.drop, rfl, _, by rw [makE_1 hcE] <;> rfl, .inr ⟨by rw [makE_1 hcE]; exact hcE, _, _, _, _, _, _, _, _, _, rfl, .nil, .nil, .nil⟩⟩)
 ·
  have hcE : costE rows xs = 0 := by simpa using hc28
  have hr0 : rowsN rows = 0 := by cases Decidable.em (rowsN rows = 0) with
   | inl h => exact h
   | inr h => exact absurd ((cost_1 h).1.symm.trans hcE) h
  obtain ⟨hr1, hr6, hr64, hrr⟩ := rows_ok hr0
  obtain ⟨x0, v0, hx0, hv0, hQ0⟩ := hV.at (k := 0) (by omega)
  have hg0 : rows.getD 0 [] = v0 := getD_of hv0
  have hQ0l := hQ0.len
  have hg1 : (rows.getD 0 []).length = v0.length := by rw [hg0]
  rw [roots_len hcE] at hRt ⊢
  refine X_skip ?_
  refine at_then ?_
  refine X_seq ?_
  refine X_seq (X_region ?_)
  refine zM ?_
  refine zC ?_
  refine zM ?_
  refine XO_pushF 2 rfl rfl rfl ?_
  refine XO_v1 (ev_move rfl) (.some rfl rfl rfl rfl gbf) rfl rfl rfl ?_
  refine XO_v1 (ev_cmp rfl rfl rfl) (.some rfl rfl rfl rfl gbf) rfl rfl rfl ?_
  refine XO_or0 rfl rfl rfl rfl rfl ?_
  refine XO_nil (at_then ?_)
  refine X_cond rfl (fun hc36 => ?_) (fun hc36 => ?_)
  ·
   refine X_seq (X_region ?_)
   refine XO_v0 (ev_loadA rfl agt_34 (fun hg => by exact Cells.g0) rfl) rfl rfl rfl ?_
   refine XO_storeA rfl rfl szt_34 rfl rfl rfl rfl (by repeat (first | exact Upd.here | apply Upd.there | apply upd_app)) ?_
   refine zA ?_
   refine XO_nil (at_then ?_)
   refine X_ret ?_
   refine at_then_r ?_
   first
   | exact at_ret2A rfl rfl rfl agt_34 (vs := encEd 0 none 0 0 none 0 0 none 0 0) (by repeat (first | exact Cells.here | apply Cells.there)) rfl (fun w hw => ⟨_, _, [], rfl, hIc, hw.drop, rfl, _, by rw [makE_2 hcE hc36] <;> rfl, .inr ⟨by rw [makE_2 hcE hc36]; decide, _, _, _, _, _, _, _, _, _, rfl, .nil, .nil, .nil⟩⟩)
  ·
   refine X_skip ?_
   refine at_then ?_
   refine X_seq (X_region ?_)
   refine XO_callM (cap := []) (vs := []) rfl rfl fun_35 .nil (w_reasons _) rfl rfl ?_
   rintro vv2 I2 L2 hI2 ⟨rfl, rm, rfl, hRm⟩
   have hS := hS.mono hI2
   have hVn := hVn.mono hI2
   have hV := hV.mono hI2
   have hH := hH.mono hI2
   have hDb := hDb.mono hI2
   have hEs := hEs.mono hI2
   have hRt := hRt.mono hI2
   have hQ0 := hQ0.mono hI2
   have hIc := hIc.trans hI2
   have hRm : RmOK I2 rm := hRm
   refine zA ?_
   refine zA ?_
   refine XO_nil (at_then ?_)
   refine X_seq ?_
   refine X_seq ?_
   refine X_locEq (loc' := (b_8, .cells (encEd 0 none 0 0 none 0 0 none 0 0).toArray 34 (0, 0)) :: []) rfl ?_
   refine X_region ?_
   refine zM ?_
   refine XO_v0 (ev_lenS rfl slt_32) rfl rfl rfl ?_
   refine zM ?_
   refine XO_nil (at_then ?_)
   refine X_block ?_
   refine X_loopT [(0, _), (1, _), (2, _), (3, _), (8, _), (10, _), (11, _), (39, _), (40, _)] (.cons rfl (.cons rfl (.cons rfl (.cons rfl (.cons rfl (.cons rfl (.cons rfl (.cons rfl (.cons rfl .nil))))))))) (fun T L0 mz E I' loc' => ∃ (k : Nat) (l : Int), mz = es.length - k ∧ E = (12, .int .i64 l) :: (41, .int .i64 k) :: T ∧ HLe I2 I' ∧ (b_8, .cells (encEd 0 none 0 0 none 0 0 none 0 0).toArray 34 (0, 0)) :: [] = loc' ∧ k ≤ es.length ∧ -1 ≤ l ∧ goodE rows (rows.getD 0 []).length (-1) es = goodE rows (rows.getD 0 []).length l (es.drop k)) _ _ _ _ ⟨0, (-1), rfl, rfl, HLe.refl _, rfl, Nat.zero_le _, Int.le_refl _, rfl⟩ (.cons rfl (.cons rfl (.cons rfl (.cons rfl (.cons rfl (.cons rfl (.cons rfl (.cons rfl (.cons rfl (.cons rfl (.cons rfl .nil))))))))))) (HLe.refl _) rfl ?_
   rintro mz E J3 loc' ⟨k, l, rfl, rfl, hJ, rfl, hk, hlm, hgo⟩
   have hS := hS.mono hJ
   have hVn := hVn.mono hJ
   have hV := hV.mono hJ
   have hH := hH.mono hJ
   have hDb := hDb.mono hJ
   have hEs := hEs.mono hJ
   have hRt := hRt.mono hJ
   have hQ0 := hQ0.mono hJ
   have hRm := hRm.mono hJ
   have hIc := hIc.trans hJ
   have hB0 := hJ
   refine X_seq (X_region ?_)
   refine zC ?_
   refine XO_nil (at_then ?_)
   refine X_seq ?_
   refine X_cond rfl (fun hc42 => ?_) (fun hc42 => ?_)
   ·
    have hlt_k : k < es.length := by have h := hc42; simp at h; omega
    obtain ⟨e, he⟩ := hEs.at hlt_k
    refine X_skip ?_
    refine at_then ?_
    refine X_seq ?_
    refine X_block ?_
    refine X_seq (X_region ?_)
    refine XO_v0 (ev_indexSl rfl rfl slt_32 hEs (fun hg => by first | omega | (simp [conj] at hg; omega))) rfl rfl rfl ?_
    refine XO_v0 (ev_loadA rfl agt_44 (fun hg => by exact Sl.getA hEs he) rfl) rfl rfl rfl ?_
    refine XO_alloc zt_44 rfl rfl (fun b_14 => ?_)
    refine XO_storeA rfl rfl szt_44 rfl rfl rfl rfl (by repeat (first | exact Upd.here | apply Upd.there | apply upd_app)) ?_
    refine XO_nil (at_then ?_)
    refine X_seq ?_
    obtain ⟨h1, h2, h3, hget⟩ | ⟨f, hget, hFf, hCf⟩ := rs_cases e.reason
    ·
     refine X_region ?_
     refine zM ?_
     refine XO_v0 (ev_fieldAddr rfl fld_44_2) rfl rfl rfl ?_
     refine XO_v0 (ev_load rfl sct_3 (fun hg => by exact Cell.h0 rfl)) rfl rfl rfl ?_
     refine XO_v0 (ev_lookupOkN hget (m := rsM) (ek := Value.int .i64) (ev := rsV) (a := e.reason) mpt_75 key_3 rfl rfl (fun _ => .inl hRm)) rfl rfl rfl ?_
     refine zM ?_
     refine XO_v0 (ev_extract rfl rfl) rfl rfl rfl ?_
     refine XO_v0 (ev_extract rfl rfl) rfl rfl rfl ?_
     refine XO_alloc zt_79 rfl rfl (fun b_15 => ?_)
     refine XO_storeA rfl rfl szt_79 rfl rfl rfl rfl (by repeat (first | exact Upd.here | apply Upd.there | apply upd_app)) ?_
     refine zA ?_
     refine XO_nil (at_then ?_)
     refine X_seq ?_
     refine X_seq ?_
     refine X_freeze (b := b_14) (by repeat (first | exact Take.here | apply Take.there)) (fun I4 hI4 hE14 => ?_)
     have hS := hS.mono hI4
     have hVn := hVn.mono hI4
     have hV := hV.mono hI4
     have hH := hH.mono hI4
     have hDb := hDb.mono hI4
     have hEs := hEs.mono hI4
     have hRt := hRt.mono hI4
     have hQ0 := hQ0.mono hI4
     have hRm := hRm.mono hI4
     have hIc := hIc.trans hI4
     have hB0 := hB0.trans hI4
     have hD := HLe.refl I4
     refine X_drawC mixed ?_
     refine XD_take 0 rfl (ev_move rfl) (.none rfl) rfl rfl rfl (by kernel_rfl) (by kernel_rfl) (by kernel_rfl) noP_ok hD (by repeat (first | exact .refl | exact subL_nil | refine .keep ?_ | refine .drop ?_ | refine subL_add ?_)) ?_
     refine XD_take 1 rfl (ev_not rfl) (.none rfl) rfl rfl rfl (by kernel_rfl) (by kernel_rfl) (by kernel_rfl) noP_ok hD (by repeat (first | exact .refl | exact subL_nil | refine .keep ?_ | refine .drop ?_ | refine subL_add ?_)) ?_
     refine XD_take 2 rfl (ev_move rfl) (.none rfl) rfl rfl rfl (by kernel_rfl) (by kernel_rfl) (by kernel_rfl) noP_ok hD (by repeat (first | exact .refl | exact subL_nil | refine .keep ?_ | refine .drop ?_ | refine subL_add ?_)) ?_
     refine XD_skipW 3 rfl rfl rfl (dj := 54) rfl rfl (by intro c e; cases e) rfl (by kernel_rfl) (by kernel_rfl) (by kernel_rfl) noP_ok hD (by repeat (first | exact .refl | exact subL_nil | refine .keep ?_ | refine .drop ?_ | refine subL_add ?_)) ?_
     refine XD_skipW 4 rfl rfl rfl (dj := 54) rfl rfl (by intro c e; cases e) rfl (by kernel_rfl) (by kernel_rfl) (by kernel_rfl) noP_ok hD (by repeat (first | exact .refl | exact subL_nil | refine .keep ?_ | refine .drop ?_ | refine subL_add ?_)) ?_
     refine XD_skipW 5 rfl rfl rfl (dj := 54) rfl rfl (by intro c e; cases e) rfl (by kernel_rfl) (by kernel_rfl) (by kernel_rfl) noP_ok hD (by repeat (first | exact .refl | exact subL_nil | refine .keep ?_ | refine .drop ?_ | refine subL_add ?_)) ?_
     refine XD_skipW 6 rfl rfl rfl (dj := 54) rfl rfl (by intro c e; cases e) rfl (by kernel_rfl) (by kernel_rfl) (by kernel_rfl) noP_ok hD (by repeat (first | exact .refl | exact subL_nil | refine .keep ?_ | refine .drop ?_ | refine subL_add ?_)) ?_
     refine XD_take 7 rfl (ev_pick rfl rfl rfl) (.none rfl) rfl rfl rfl (by kernel_rfl) (by kernel_rfl) (by kernel_rfl) noP_ok hD (by repeat (first | exact .refl | exact subL_nil | refine .keep ?_ | refine .drop ?_ | refine subL_add ?_)) ?_
     refine XD_take 8 rfl (ev_move rfl) (.none rfl) rfl rfl rfl (by kernel_rfl) (by kernel_rfl) (by kernel_rfl) noP_ok hD (by repeat (first | exact .refl | exact subL_nil | refine .keep ?_ | refine .drop ?_ | refine subL_add ?_)) ?_
     refine XD_skipW 9 rfl rfl rfl (dj := 60) rfl rfl (by intro c e; cases e) rfl (by kernel_rfl) (by kernel_rfl) (by kernel_rfl) noP_ok hD (by repeat (first | exact .refl | exact subL_nil | refine .keep ?_ | refine .drop ?_ | refine subL_add ?_)) ?_
     refine XD_skipW 10 rfl rfl rfl (dj := 60) rfl rfl (by intro c e; cases e) rfl (by kernel_rfl) (by kernel_rfl) (by kernel_rfl) noP_ok hD (by repeat (first | exact .refl | exact subL_nil | refine .keep ?_ | refine .drop ?_ | refine subL_add ?_)) ?_
     refine XD_skipW 11 rfl rfl rfl (dj := 60) rfl rfl (by intro c e; cases e) rfl (by kernel_rfl) (by kernel_rfl) (by kernel_rfl) noP_ok hD (by repeat (first | exact .refl | exact subL_nil | refine .keep ?_ | refine .drop ?_ | refine subL_add ?_)) ?_
     refine XD_skipW 12 rfl rfl rfl (dj := 60) rfl rfl (by intro c e; cases e) rfl (by kernel_rfl) (by kernel_rfl) (by kernel_rfl) noP_ok hD (by repeat (first | exact .refl | exact subL_nil | refine .keep ?_ | refine .drop ?_ | refine subL_add ?_)) ?_
     refine XD_skipW 13 rfl rfl rfl (dj := 60) rfl rfl (by intro c e; cases e) rfl (by kernel_rfl) (by kernel_rfl) (by kernel_rfl) noP_ok hD (by repeat (first | exact .refl | exact subL_nil | refine .keep ?_ | refine .drop ?_ | refine subL_add ?_)) ?_
     refine XD_take 14 rfl (ev_pick rfl rfl rfl) (.none rfl) rfl rfl rfl (by kernel_rfl) (by kernel_rfl) (by kernel_rfl) noP_ok hD (by repeat (first | exact .refl | exact subL_nil | refine .keep ?_ | refine .drop ?_ | refine subL_add ?_)) ?_
     refine XD_take 15 rfl (ev_move rfl) (.none rfl) rfl rfl rfl (by kernel_rfl) (by kernel_rfl) (by kernel_rfl) noP_ok hD (by repeat (first | exact .refl | exact subL_nil | refine .keep ?_ | refine .drop ?_ | refine subL_add ?_)) ?_
     refine XD_skipW 16 rfl rfl rfl (dj := 67) rfl rfl (by intro c e; cases e) rfl (by kernel_rfl) (by kernel_rfl) (by kernel_rfl) noP_ok hD (by repeat (first | exact .refl | exact subL_nil | refine .keep ?_ | refine .drop ?_ | refine subL_add ?_)) ?_
     refine XD_skipW 17 rfl rfl rfl (dj := 67) rfl rfl (by intro c e; cases e) rfl (by kernel_rfl) (by kernel_rfl) (by kernel_rfl) noP_ok hD (by repeat (first | exact .refl | exact subL_nil | refine .keep ?_ | refine .drop ?_ | refine subL_add ?_)) ?_
     refine XD_skipW 18 rfl rfl rfl (dj := 67) rfl rfl (by intro c e; cases e) rfl (by kernel_rfl) (by kernel_rfl) (by kernel_rfl) noP_ok hD (by repeat (first | exact .refl | exact subL_nil | refine .keep ?_ | refine .drop ?_ | refine subL_add ?_)) ?_
     refine XD_skipW 19 rfl rfl rfl (dj := 67) rfl rfl (by intro c e; cases e) rfl (by kernel_rfl) (by kernel_rfl) (by kernel_rfl) noP_ok hD (by repeat (first | exact .refl | exact subL_nil | refine .keep ?_ | refine .drop ?_ | refine subL_add ?_)) ?_
     refine XD_skipW 20 rfl rfl rfl (dj := 67) rfl rfl (by intro c e; cases e) rfl (by kernel_rfl) (by kernel_rfl) (by kernel_rfl) noP_ok hD (by repeat (first | exact .refl | exact subL_nil | refine .keep ?_ | refine .drop ?_ | refine subL_add ?_)) ?_
     refine XD_skipW 21 rfl rfl rfl (dj := 67) rfl rfl (by intro c e; cases e) rfl (by kernel_rfl) (by kernel_rfl) (by kernel_rfl) noP_ok hD (by repeat (first | exact .refl | exact subL_nil | refine .keep ?_ | refine .drop ?_ | refine subL_add ?_)) ?_
     refine XD_skipW 22 rfl rfl rfl (dj := 67) rfl rfl (by intro c e; cases e) rfl (by kernel_rfl) (by kernel_rfl) (by kernel_rfl) noP_ok hD (by repeat (first | exact .refl | exact subL_nil | refine .keep ?_ | refine .drop ?_ | refine subL_add ?_)) ?_
     refine XD_skipW 23 rfl rfl rfl (dj := 67) rfl rfl (by intro c e; cases e) rfl (by kernel_rfl) (by kernel_rfl) (by kernel_rfl) noP_ok hD (by repeat (first | exact .refl | exact subL_nil | refine .keep ?_ | refine .drop ?_ | refine subL_add ?_)) ?_
     refine XD_skipW 24 rfl rfl rfl (dj := 67) rfl rfl (by intro c e; cases e) rfl (by kernel_rfl) (by kernel_rfl) (by kernel_rfl) noP_ok hD (by repeat (first | exact .refl | exact subL_nil | refine .keep ?_ | refine .drop ?_ | refine subL_add ?_)) ?_
     refine XD_take 25 rfl (ev_pick rfl rfl rfl) (.none rfl) rfl rfl rfl (by kernel_rfl) (by kernel_rfl) (by kernel_rfl) noP_ok hD (by repeat (first | exact .refl | exact subL_nil | refine .keep ?_ | refine .drop ?_ | refine subL_add ?_)) ?_
     refine XD_done (by kernel_rfl) ?_
     refine at_noP ?_
     refine at_then ?_
     refine X_cond rfl (fun hc77 => ?_) (fun hc77 => ?_)
     ·
      have hbe := badE_1 (rows := rows) (m := (rows.getD 0 []).length) (l := l) h1 h2 h3
      refine X_seq (X_region ?_)
      refine XO_v0 (ev_loadA rfl agt_34 (fun hg => by exact Cells.g1) rfl) rfl rfl rfl ?_
      refine XO_storeA rfl rfl szt_34 rfl rfl rfl rfl (by repeat (first | exact Upd.here | apply Upd.there | apply upd_app)) ?_
      refine zA ?_
      refine XO_nil (at_then ?_)
      refine X_ret ?_
      refine at_then_r ?_
      refine at_block_r ?_
      refine at_then_r ?_
      refine at_then_r ?_
      refine at_block_r ?_
      refine at_then_r ?_
      first
      | exact at_ret2A rfl rfl rfl agt_34 (vs := encEd 0 none 0 0 none 0 0 none 0 0) (by repeat (first | exact Cells.here | apply Cells.there)) rfl (fun w hw => ⟨_, _, [], rfl, hIc, hw.drop, rfl, _, by rw [makE_3 hcE hc36 (hgo.trans (goodE_bad he hbe))] <;> rfl, .inr ⟨by rw [makE_3 hcE hc36 (hgo.trans (goodE_bad he hbe))]; decide, _, _, _, _, _, _, _, _, _, rfl, .nil, .nil, .nil⟩⟩)
     ·
      cases hc77
    ·
     refine X_region ?_
     refine zM ?_
     refine XO_v0 (ev_fieldAddr rfl fld_44_2) rfl rfl rfl ?_
     refine XO_v0 (ev_load rfl sct_3 (fun hg => by exact Cell.h0 rfl)) rfl rfl rfl ?_
     refine XO_v0 (ev_lookupOkS hget (m := rsM) (ek := Value.int .i64) (ev := rsV) (a := e.reason) mpt_75 key_3 rfl rfl (fun _ => .inl hRm)) rfl rfl rfl ?_
     refine zM ?_
     refine XO_v0 (ev_extract rfl rfl) rfl rfl rfl ?_
     refine XO_v0 (ev_extract rfl rfl) rfl rfl rfl ?_
     refine XO_alloc zt_79 rfl rfl (fun b_15 => ?_)
     refine XO_storeA rfl rfl szt_79 rfl rfl rfl rfl (by repeat (first | exact Upd.here | apply Upd.there | apply upd_app)) ?_
     refine zA ?_
     refine XO_nil (at_then ?_)
     refine X_seq ?_
     refine X_seq ?_
     obtain q1 | ⟨q1, q2⟩ | ⟨q1, q2⟩ := em_three rows ((rows.getD 0 []).length) l e
     ·
      refine X_freeze (b := b_15) (by repeat (first | exact Take.here | apply Take.there)) (fun I5 hI5 hb5 => ?_)
      have hS := hS.mono hI5
      have hVn := hVn.mono hI5
      have hV := hV.mono hI5
      have hH := hH.mono hI5
      have hDb := hDb.mono hI5
      have hEs := hEs.mono hI5
      have hRt := hRt.mono hI5
      have hQ0 := hQ0.mono hI5
      have hRm := hRm.mono hI5
      have hIc := hIc.trans hI5
      have hB0 := hB0.trans hI5
      have hC15 : Cell I5 [] b_15 0 (.func (.func f) #[] #[]) := .imm hb5 rfl
      refine X_freeze (b := b_14) (by repeat (first | exact Take.here | apply Take.there)) (fun I6 hI6 hE14 => ?_)
      have hS := hS.mono hI6
      have hVn := hVn.mono hI6
      have hV := hV.mono hI6
      have hH := hH.mono hI6
      have hDb := hDb.mono hI6
      have hEs := hEs.mono hI6
      have hRt := hRt.mono hI6
      have hQ0 := hQ0.mono hI6
      have hRm := hRm.mono hI6
      have hC15 := hC15.mono hI6
      have hIc := hIc.trans hI6
      have hB0 := hB0.trans hI6
      have hD := HLe.refl I6
      refine X_drawC mixed ?_
      refine XD_take 0 rfl (ev_move rfl) (.none rfl) rfl rfl rfl (by kernel_rfl) (by kernel_rfl) (by kernel_rfl) noP_ok hD (by repeat (first | exact .refl | exact subL_nil | refine .keep ?_ | refine .drop ?_ | refine subL_add ?_)) ?_
      refine XD_take 1 rfl (ev_not rfl) (.none rfl) rfl rfl rfl (by kernel_rfl) (by kernel_rfl) (by kernel_rfl) noP_ok hD (by repeat (first | exact .refl | exact subL_nil | refine .keep ?_ | refine .drop ?_ | refine subL_add ?_)) ?_
      refine XD_take 2 rfl (ev_move rfl) (.none rfl) rfl rfl rfl (by kernel_rfl) (by kernel_rfl) (by kernel_rfl) noP_ok hD (by repeat (first | exact .refl | exact subL_nil | refine .keep ?_ | refine .drop ?_ | refine subL_add ?_)) ?_
      refine XD_takeW 3 rfl rfl rfl (dj := 54) rfl (ev_fieldAddr rfl fld_44_0) rfl (by kernel_rfl) (by kernel_rfl) (by kernel_rfl) noP_ok hD (by repeat (first | exact .refl | exact subL_nil | refine .keep ?_ | refine .drop ?_ | refine subL_add ?_)) ?_
      refine XD_takeW 4 rfl rfl rfl (dj := 54) rfl (ev_load rfl sct_3 (fun hg => by exact .imm hE14 rfl)) rfl (by kernel_rfl) (by kernel_rfl) (by kernel_rfl) noP_ok hD (by repeat (first | exact .refl | exact subL_nil | refine .keep ?_ | refine .drop ?_ | refine subL_add ?_)) ?_
      refine XD_takeW 5 rfl rfl rfl (dj := 54) rfl (ev_move rfl) rfl (by kernel_rfl) (by kernel_rfl) (by kernel_rfl) noP_ok hD (by repeat (first | exact .refl | exact subL_nil | refine .keep ?_ | refine .drop ?_ | refine subL_add ?_)) ?_
      refine XD_takeW 6 rfl rfl rfl (dj := 54) rfl (ev_cmp rfl rfl rfl) rfl (by kernel_rfl) (by kernel_rfl) (by kernel_rfl) noP_ok hD (by repeat (first | exact .refl | exact subL_nil | refine .keep ?_ | refine .drop ?_ | refine subL_add ?_)) ?_
      rw [q1]
      refine XD_take 7 rfl (ev_pickb rfl rfl rfl) (.none rfl) rfl rfl rfl (by kernel_rfl) (by kernel_rfl) (by kernel_rfl) noP_ok hD (by repeat (first | exact .refl | exact subL_nil | refine .keep ?_ | refine .drop ?_ | refine subL_add ?_)) ?_
      refine XD_take 8 rfl (ev_move rfl) (.none rfl) rfl rfl rfl (by kernel_rfl) (by kernel_rfl) (by kernel_rfl) noP_ok hD (by repeat (first | exact .refl | exact subL_nil | refine .keep ?_ | refine .drop ?_ | refine subL_add ?_)) ?_
      refine XD_skipW 9 rfl rfl rfl (dj := 60) rfl rfl (by intro c e; cases e) rfl (by kernel_rfl) (by kernel_rfl) (by kernel_rfl) noP_ok hD (by repeat (first | exact .refl | exact subL_nil | refine .keep ?_ | refine .drop ?_ | refine subL_add ?_)) ?_
      refine XD_skipW 10 rfl rfl rfl (dj := 60) rfl rfl (by intro c e; cases e) rfl (by kernel_rfl) (by kernel_rfl) (by kernel_rfl) noP_ok hD (by repeat (first | exact .refl | exact subL_nil | refine .keep ?_ | refine .drop ?_ | refine subL_add ?_)) ?_
      refine XD_skipW 11 rfl rfl rfl (dj := 60) rfl rfl (by intro c e; cases e) rfl (by kernel_rfl) (by kernel_rfl) (by kernel_rfl) noP_ok hD (by repeat (first | exact .refl | exact subL_nil | refine .keep ?_ | refine .drop ?_ | refine subL_add ?_)) ?_
      refine XD_skipW 12 rfl rfl rfl (dj := 60) rfl rfl (by intro c e; cases e) rfl (by kernel_rfl) (by kernel_rfl) (by kernel_rfl) noP_ok hD (by repeat (first | exact .refl | exact subL_nil | refine .keep ?_ | refine .drop ?_ | refine subL_add ?_)) ?_
      refine XD_skipW 13 rfl rfl rfl (dj := 60) rfl rfl (by intro c e; cases e) rfl (by kernel_rfl) (by kernel_rfl) (by kernel_rfl) noP_ok hD (by repeat (first | exact .refl | exact subL_nil | refine .keep ?_ | refine .drop ?_ | refine subL_add ?_)) ?_
      refine XD_take 14 rfl (ev_pick rfl rfl rfl) (.none rfl) rfl rfl rfl (by kernel_rfl) (by kernel_rfl) (by kernel_rfl) noP_ok hD (by repeat (first | exact .refl | exact subL_nil | refine .keep ?_ | refine .drop ?_ | refine subL_add ?_)) ?_
      refine XD_take 15 rfl (ev_move rfl) (.none rfl) rfl rfl rfl (by kernel_rfl) (by kernel_rfl) (by kernel_rfl) noP_ok hD (by repeat (first | exact .refl | exact subL_nil | refine .keep ?_ | refine .drop ?_ | refine subL_add ?_)) ?_
      refine XD_skipW 16 rfl rfl rfl (dj := 67) rfl rfl (by intro c e; cases e) rfl (by kernel_rfl) (by kernel_rfl) (by kernel_rfl) noP_ok hD (by repeat (first | exact .refl | exact subL_nil | refine .keep ?_ | refine .drop ?_ | refine subL_add ?_)) ?_
      refine XD_skipW 17 rfl rfl rfl (dj := 67) rfl rfl (by intro c e; cases e) rfl (by kernel_rfl) (by kernel_rfl) (by kernel_rfl) noP_ok hD (by repeat (first | exact .refl | exact subL_nil | refine .keep ?_ | refine .drop ?_ | refine subL_add ?_)) ?_
      refine XD_skipW 18 rfl rfl rfl (dj := 67) rfl rfl (by intro c e; cases e) rfl (by kernel_rfl) (by kernel_rfl) (by kernel_rfl) noP_ok hD (by repeat (first | exact .refl | exact subL_nil | refine .keep ?_ | refine .drop ?_ | refine subL_add ?_)) ?_
      refine XD_skipW 19 rfl rfl rfl (dj := 67) rfl rfl (by intro c e; cases e) rfl (by kernel_rfl) (by kernel_rfl) (by kernel_rfl) noP_ok hD (by repeat (first | exact .refl | exact subL_nil | refine .keep ?_ | refine .drop ?_ | refine subL_add ?_)) ?_
      refine XD_skipW 20 rfl rfl rfl (dj := 67) rfl rfl (by intro c e; cases e) rfl (by kernel_rfl) (by kernel_rfl) (by kernel_rfl) noP_ok hD (by repeat (first | exact .refl | exact subL_nil | refine .keep ?_ | refine .drop ?_ | refine subL_add ?_)) ?_
      refine XD_skipW 21 rfl rfl rfl (dj := 67) rfl rfl (by intro c e; cases e) rfl (by kernel_rfl) (by kernel_rfl) (by kernel_rfl) noP_ok hD (by repeat (first | exact .refl | exact subL_nil | refine .keep ?_ | refine .drop ?_ | refine subL_add ?_)) ?_
      refine XD_skipW 22 rfl rfl rfl (dj := 67) rfl rfl (by intro c e; cases e) rfl (by kernel_rfl) (by kernel_rfl) (by kernel_rfl) noP_ok hD (by repeat (first | exact .refl | exact subL_nil | refine .keep ?_ | refine .drop ?_ | refine subL_add ?_)) ?_
      refine XD_skipW 23 rfl rfl rfl (dj := 67) rfl rfl (by intro c e; cases e) rfl (by kernel_rfl) (by kernel_rfl) (by kernel_rfl) noP_ok hD (by repeat (first | exact .refl | exact subL_nil | refine .keep ?_ | refine .drop ?_ | refine subL_add ?_)) ?_
      refine XD_skipW 24 rfl rfl rfl (dj := 67) rfl rfl (by intro c e; cases e) rfl (by kernel_rfl) (by kernel_rfl) (by kernel_rfl) noP_ok hD (by repeat (first | exact .refl | exact subL_nil | refine .keep ?_ | refine .drop ?_ | refine subL_add ?_)) ?_
      refine XD_take 25 rfl (ev_pick rfl rfl rfl) (.none rfl) rfl rfl rfl (by kernel_rfl) (by kernel_rfl) (by kernel_rfl) noP_ok hD (by repeat (first | exact .refl | exact subL_nil | refine .keep ?_ | refine .drop ?_ | refine subL_add ?_)) ?_
      refine XD_done (by kernel_rfl) ?_
      refine at_noP ?_
      refine at_then ?_
      refine X_cond rfl (fun hc77 => ?_) (fun hc77 => ?_)
      ·
       have hbe := badE_2 (rows := rows) (m := (rows.getD 0 []).length) q1
       refine X_seq (X_region ?_)
       refine XO_v0 (ev_loadA rfl agt_34 (fun hg => by exact Cells.g0) rfl) rfl rfl rfl ?_
       refine XO_storeA rfl rfl szt_34 rfl rfl rfl rfl (by repeat (first | exact Upd.here | apply Upd.there | apply upd_app)) ?_
       refine zA ?_
       refine XO_nil (at_then ?_)
       refine X_ret ?_
       refine at_then_r ?_
       refine at_block_r ?_
       refine at_then_r ?_
       refine at_then_r ?_
       refine at_block_r ?_
       refine at_then_r ?_
       first
       | exact at_ret2A rfl rfl rfl agt_34 (vs := encEd 0 none 0 0 none 0 0 none 0 0) (by repeat (first | exact Cells.here | apply Cells.there)) rfl (fun w hw => ⟨_, _, [], rfl, hIc, hw.drop, rfl, _, by rw [makE_3 hcE hc36 (hgo.trans (goodE_bad he hbe))] <;> rfl, .inr ⟨by rw [makE_3 hcE hc36 (hgo.trans (goodE_bad he hbe))]; decide, _, _, _, _, _, _, _, _, _, rfl, .nil, .nil, .nil⟩⟩)
      ·
       cases hc77
     ·
      refine X_freeze (b := b_15) (by repeat (first | exact Take.here | apply Take.there)) (fun I7 hI7 hb7 => ?_)
      have hS := hS.mono hI7
      have hVn := hVn.mono hI7
      have hV := hV.mono hI7
      have hH := hH.mono hI7
      have hDb := hDb.mono hI7
      have hEs := hEs.mono hI7
      have hRt := hRt.mono hI7
      have hQ0 := hQ0.mono hI7
      have hRm := hRm.mono hI7
      have hIc := hIc.trans hI7
      have hB0 := hB0.trans hI7
      have hC15 : Cell I7 [] b_15 0 (.func (.func f) #[] #[]) := .imm hb7 rfl
      refine X_freeze (b := b_14) (by repeat (first | exact Take.here | apply Take.there)) (fun I8 hI8 hE14 => ?_)
      have hS := hS.mono hI8
      have hVn := hVn.mono hI8
      have hV := hV.mono hI8
      have hH := hH.mono hI8
      have hDb := hDb.mono hI8
      have hEs := hEs.mono hI8
      have hRt := hRt.mono hI8
      have hQ0 := hQ0.mono hI8
      have hRm := hRm.mono hI8
      have hC15 := hC15.mono hI8
      have hIc := hIc.trans hI8
      have hB0 := hB0.trans hI8
      have hD := HLe.refl I8
      refine X_drawC mixed ?_
      refine XD_take 0 rfl (ev_move rfl) (.none rfl) rfl rfl rfl (by kernel_rfl) (by kernel_rfl) (by kernel_rfl) noP_ok hD (by repeat (first | exact .refl | exact subL_nil | refine .keep ?_ | refine .drop ?_ | refine subL_add ?_)) ?_
      refine XD_take 1 rfl (ev_not rfl) (.none rfl) rfl rfl rfl (by kernel_rfl) (by kernel_rfl) (by kernel_rfl) noP_ok hD (by repeat (first | exact .refl | exact subL_nil | refine .keep ?_ | refine .drop ?_ | refine subL_add ?_)) ?_
      refine XD_take 2 rfl (ev_move rfl) (.none rfl) rfl rfl rfl (by kernel_rfl) (by kernel_rfl) (by kernel_rfl) noP_ok hD (by repeat (first | exact .refl | exact subL_nil | refine .keep ?_ | refine .drop ?_ | refine subL_add ?_)) ?_
      refine XD_takeW 3 rfl rfl rfl (dj := 54) rfl (ev_fieldAddr rfl fld_44_0) rfl (by kernel_rfl) (by kernel_rfl) (by kernel_rfl) noP_ok hD (by repeat (first | exact .refl | exact subL_nil | refine .keep ?_ | refine .drop ?_ | refine subL_add ?_)) ?_
      refine XD_takeW 4 rfl rfl rfl (dj := 54) rfl (ev_load rfl sct_3 (fun hg => by exact .imm hE14 rfl)) rfl (by kernel_rfl) (by kernel_rfl) (by kernel_rfl) noP_ok hD (by repeat (first | exact .refl | exact subL_nil | refine .keep ?_ | refine .drop ?_ | refine subL_add ?_)) ?_
      refine XD_takeW 5 rfl rfl rfl (dj := 54) rfl (ev_move rfl) rfl (by kernel_rfl) (by kernel_rfl) (by kernel_rfl) noP_ok hD (by repeat (first | exact .refl | exact subL_nil | refine .keep ?_ | refine .drop ?_ | refine subL_add ?_)) ?_
      refine XD_takeW 6 rfl rfl rfl (dj := 54) rfl (ev_cmp rfl rfl rfl) rfl (by kernel_rfl) (by kernel_rfl) (by kernel_rfl) noP_ok hD (by repeat (first | exact .refl | exact subL_nil | refine .keep ?_ | refine .drop ?_ | refine subL_add ?_)) ?_
      rw [q1]
      refine XD_take 7 rfl (ev_pickb rfl rfl rfl) (.none rfl) rfl rfl rfl (by kernel_rfl) (by kernel_rfl) (by kernel_rfl) noP_ok hD (by repeat (first | exact .refl | exact subL_nil | refine .keep ?_ | refine .drop ?_ | refine subL_add ?_)) ?_
      refine XD_take 8 rfl (ev_move rfl) (.none rfl) rfl rfl rfl (by kernel_rfl) (by kernel_rfl) (by kernel_rfl) noP_ok hD (by repeat (first | exact .refl | exact subL_nil | refine .keep ?_ | refine .drop ?_ | refine subL_add ?_)) ?_
      refine XD_takeW 9 rfl rfl rfl (dj := 60) rfl (ev_fieldAddr rfl fld_44_0) rfl (by kernel_rfl) (by kernel_rfl) (by kernel_rfl) noP_ok hD (by repeat (first | exact .refl | exact subL_nil | refine .keep ?_ | refine .drop ?_ | refine subL_add ?_)) ?_
      refine XD_takeW 10 rfl rfl rfl (dj := 60) rfl (ev_load rfl sct_3 (fun hg => by exact .imm hE14 rfl)) rfl (by kernel_rfl) (by kernel_rfl) (by kernel_rfl) noP_ok hD (by repeat (first | exact .refl | exact subL_nil | refine .keep ?_ | refine .drop ?_ | refine subL_add ?_)) ?_
      refine XD_takeW 11 rfl rfl rfl (dj := 60) rfl (ev_move rfl) rfl (by kernel_rfl) (by kernel_rfl) (by kernel_rfl) noP_ok hD (by repeat (first | exact .refl | exact subL_nil | refine .keep ?_ | refine .drop ?_ | refine subL_add ?_)) ?_
      refine XD_takeW 12 rfl rfl rfl (dj := 60) rfl (ev_lenS rfl slt_22) rfl (by kernel_rfl) (by kernel_rfl) (by kernel_rfl) noP_ok hD (by repeat (first | exact .refl | exact subL_nil | refine .keep ?_ | refine .drop ?_ | refine subL_add ?_)) ?_
      refine XD_takeW 13 rfl rfl rfl (dj := 60) rfl (ev_cmp rfl rfl rfl) rfl (by kernel_rfl) (by kernel_rfl) (by kernel_rfl) noP_ok hD (by repeat (first | exact .refl | exact subL_nil | refine .keep ?_ | refine .drop ?_ | refine subL_add ?_)) ?_
      rw [q2]
      refine XD_take 14 rfl (ev_pickb rfl rfl rfl) (.none rfl) rfl rfl rfl (by kernel_rfl) (by kernel_rfl) (by kernel_rfl) noP_ok hD (by repeat (first | exact .refl | exact subL_nil | refine .keep ?_ | refine .drop ?_ | refine subL_add ?_)) ?_
      refine XD_take 15 rfl (ev_move rfl) (.none rfl) rfl rfl rfl (by kernel_rfl) (by kernel_rfl) (by kernel_rfl) noP_ok hD (by repeat (first | exact .refl | exact subL_nil | refine .keep ?_ | refine .drop ?_ | refine subL_add ?_)) ?_
      refine XD_skipW 16 rfl rfl rfl (dj := 67) rfl rfl (by intro c e; cases e) rfl (by kernel_rfl) (by kernel_rfl) (by kernel_rfl) noP_ok hD (by repeat (first | exact .refl | exact subL_nil | refine .keep ?_ | refine .drop ?_ | refine subL_add ?_)) ?_
      refine XD_skipW 17 rfl rfl rfl (dj := 67) rfl rfl (by intro c e; cases e) rfl (by kernel_rfl) (by kernel_rfl) (by kernel_rfl) noP_ok hD (by repeat (first | exact .refl | exact subL_nil | refine .keep ?_ | refine .drop ?_ | refine subL_add ?_)) ?_
      refine XD_skipW 18 rfl rfl rfl (dj := 67) rfl rfl (by intro c e; cases e) rfl (by kernel_rfl) (by kernel_rfl) (by kernel_rfl) noP_ok hD (by repeat (first | exact .refl | exact subL_nil | refine .keep ?_ | refine .drop ?_ | refine subL_add ?_)) ?_
      refine XD_skipW 19 rfl rfl rfl (dj := 67) rfl rfl (by intro c e; cases e) rfl (by kernel_rfl) (by kernel_rfl) (by kernel_rfl) noP_ok hD (by repeat (first | exact .refl | exact subL_nil | refine .keep ?_ | refine .drop ?_ | refine subL_add ?_)) ?_
      refine XD_skipW 20 rfl rfl rfl (dj := 67) rfl rfl (by intro c e; cases e) rfl (by kernel_rfl) (by kernel_rfl) (by kernel_rfl) noP_ok hD (by repeat (first | exact .refl | exact subL_nil | refine .keep ?_ | refine .drop ?_ | refine subL_add ?_)) ?_
      refine XD_skipW 21 rfl rfl rfl (dj := 67) rfl rfl (by intro c e; cases e) rfl (by kernel_rfl) (by kernel_rfl) (by kernel_rfl) noP_ok hD (by repeat (first | exact .refl | exact subL_nil | refine .keep ?_ | refine .drop ?_ | refine subL_add ?_)) ?_
      refine XD_skipW 22 rfl rfl rfl (dj := 67) rfl rfl (by intro c e; cases e) rfl (by kernel_rfl) (by kernel_rfl) (by kernel_rfl) noP_ok hD (by repeat (first | exact .refl | exact subL_nil | refine .keep ?_ | refine .drop ?_ | refine subL_add ?_)) ?_
      refine XD_skipW 23 rfl rfl rfl (dj := 67) rfl rfl (by intro c e; cases e) rfl (by kernel_rfl) (by kernel_rfl) (by kernel_rfl) noP_ok hD (by repeat (first | exact .refl | exact subL_nil | refine .keep ?_ | refine .drop ?_ | refine subL_add ?_)) ?_
      refine XD_skipW 24 rfl rfl rfl (dj := 67) rfl rfl (by intro c e; cases e) rfl (by kernel_rfl) (by kernel_rfl) (by kernel_rfl) noP_ok hD (by repeat (first | exact .refl | exact subL_nil | refine .keep ?_ | refine .drop ?_ | refine subL_add ?_)) ?_
      refine XD_take 25 rfl (ev_pick rfl rfl rfl) (.none rfl) rfl rfl rfl (by kernel_rfl) (by kernel_rfl) (by kernel_rfl) noP_ok hD (by repeat (first | exact .refl | exact subL_nil | refine .keep ?_ | refine .drop ?_ | refine subL_add ?_)) ?_
      refine XD_done (by kernel_rfl) ?_
      refine at_noP ?_
      refine at_then ?_
      refine X_cond rfl (fun hc77 => ?_) (fun hc77 => ?_)
      ·
       have hbe := badE_3 (rows := rows) (l := l) q2
       refine X_seq (X_region ?_)
       refine XO_v0 (ev_loadA rfl agt_34 (fun hg => by exact Cells.g0) rfl) rfl rfl rfl ?_
       refine XO_storeA rfl rfl szt_34 rfl rfl rfl rfl (by repeat (first | exact Upd.here | apply Upd.there | apply upd_app)) ?_
       refine zA ?_
       refine XO_nil (at_then ?_)
       refine X_ret ?_
       refine at_then_r ?_
       refine at_block_r ?_
       refine at_then_r ?_
       refine at_then_r ?_
       refine at_block_r ?_
       refine at_then_r ?_
       first
       | exact at_ret2A rfl rfl rfl agt_34 (vs := encEd 0 none 0 0 none 0 0 none 0 0) (by repeat (first | exact Cells.here | apply Cells.there)) rfl (fun w hw => ⟨_, _, [], rfl, hIc, hw.drop, rfl, _, by rw [makE_3 hcE hc36 (hgo.trans (goodE_bad he hbe))] <;> rfl, .inr ⟨by rw [makE_3 hcE hc36 (hgo.trans (goodE_bad he hbe))]; decide, _, _, _, _, _, _, _, _, _, rfl, .nil, .nil, .nil⟩⟩)
      ·
       cases hc77
     ·
      have h0e : 0 ≤ e.locus := by have h := of_decide_eq_false q1; omega
      have hle : e.locus.toNat < (rows.getD 0 []).length := by have h := of_decide_eq_false q2; omega
      have hle2 : ∀ r ∈ rows, e.locus.toNat < r.length := fun r hr => by rw [(hrr r hr).1]; exact hle
      refine X_freeze (b := b_15) (by repeat (first | exact Take.here | apply Take.there)) (fun I9 hI9 hb9 => ?_)
      have hS := hS.mono hI9
      have hVn := hVn.mono hI9
      have hV := hV.mono hI9
      have hH := hH.mono hI9
      have hDb := hDb.mono hI9
      have hEs := hEs.mono hI9
      have hRt := hRt.mono hI9
      have hQ0 := hQ0.mono hI9
      have hRm := hRm.mono hI9
      have hIc := hIc.trans hI9
      have hB0 := hB0.trans hI9
      have hC15 : Cell I9 [] b_15 0 (.func (.func f) #[] #[]) := .imm hb9 rfl
      refine X_freeze (b := b_14) (by repeat (first | exact Take.here | apply Take.there)) (fun I10 hI10 hE14 => ?_)
      have hS := hS.mono hI10
      have hVn := hVn.mono hI10
      have hV := hV.mono hI10
      have hH := hH.mono hI10
      have hDb := hDb.mono hI10
      have hEs := hEs.mono hI10
      have hRt := hRt.mono hI10
      have hQ0 := hQ0.mono hI10
      have hRm := hRm.mono hI10
      have hC15 := hC15.mono hI10
      have hIc := hIc.trans hI10
      have hB0 := hB0.trans hI10
      have hD := HLe.refl I10
      refine X_drawC mixed ?_
      refine XD_take 0 rfl (ev_move rfl) (.none rfl) rfl rfl rfl (by kernel_rfl) (by kernel_rfl) (by kernel_rfl) noP_ok hD (by repeat (first | exact .refl | exact subL_nil | refine .keep ?_ | refine .drop ?_ | refine subL_add ?_)) ?_
      refine XD_take 1 rfl (ev_not rfl) (.none rfl) rfl rfl rfl (by kernel_rfl) (by kernel_rfl) (by kernel_rfl) noP_ok hD (by repeat (first | exact .refl | exact subL_nil | refine .keep ?_ | refine .drop ?_ | refine subL_add ?_)) ?_
      refine XD_take 2 rfl (ev_move rfl) (.none rfl) rfl rfl rfl (by kernel_rfl) (by kernel_rfl) (by kernel_rfl) noP_ok hD (by repeat (first | exact .refl | exact subL_nil | refine .keep ?_ | refine .drop ?_ | refine subL_add ?_)) ?_
      refine XD_takeW 3 rfl rfl rfl (dj := 54) rfl (ev_fieldAddr rfl fld_44_0) rfl (by kernel_rfl) (by kernel_rfl) (by kernel_rfl) noP_ok hD (by repeat (first | exact .refl | exact subL_nil | refine .keep ?_ | refine .drop ?_ | refine subL_add ?_)) ?_
      refine XD_takeW 4 rfl rfl rfl (dj := 54) rfl (ev_load rfl sct_3 (fun hg => by exact .imm hE14 rfl)) rfl (by kernel_rfl) (by kernel_rfl) (by kernel_rfl) noP_ok hD (by repeat (first | exact .refl | exact subL_nil | refine .keep ?_ | refine .drop ?_ | refine subL_add ?_)) ?_
      refine XD_takeW 5 rfl rfl rfl (dj := 54) rfl (ev_move rfl) rfl (by kernel_rfl) (by kernel_rfl) (by kernel_rfl) noP_ok hD (by repeat (first | exact .refl | exact subL_nil | refine .keep ?_ | refine .drop ?_ | refine subL_add ?_)) ?_
      refine XD_takeW 6 rfl rfl rfl (dj := 54) rfl (ev_cmp rfl rfl rfl) rfl (by kernel_rfl) (by kernel_rfl) (by kernel_rfl) noP_ok hD (by repeat (first | exact .refl | exact subL_nil | refine .keep ?_ | refine .drop ?_ | refine subL_add ?_)) ?_
      rw [q1]
      refine XD_take 7 rfl (ev_pickb rfl rfl rfl) (.none rfl) rfl rfl rfl (by kernel_rfl) (by kernel_rfl) (by kernel_rfl) noP_ok hD (by repeat (first | exact .refl | exact subL_nil | refine .keep ?_ | refine .drop ?_ | refine subL_add ?_)) ?_
      refine XD_take 8 rfl (ev_move rfl) (.none rfl) rfl rfl rfl (by kernel_rfl) (by kernel_rfl) (by kernel_rfl) noP_ok hD (by repeat (first | exact .refl | exact subL_nil | refine .keep ?_ | refine .drop ?_ | refine subL_add ?_)) ?_
      refine XD_takeW 9 rfl rfl rfl (dj := 60) rfl (ev_fieldAddr rfl fld_44_0) rfl (by kernel_rfl) (by kernel_rfl) (by kernel_rfl) noP_ok hD (by repeat (first | exact .refl | exact subL_nil | refine .keep ?_ | refine .drop ?_ | refine subL_add ?_)) ?_
      refine XD_takeW 10 rfl rfl rfl (dj := 60) rfl (ev_load rfl sct_3 (fun hg => by exact .imm hE14 rfl)) rfl (by kernel_rfl) (by kernel_rfl) (by kernel_rfl) noP_ok hD (by repeat (first | exact .refl | exact subL_nil | refine .keep ?_ | refine .drop ?_ | refine subL_add ?_)) ?_
      refine XD_takeW 11 rfl rfl rfl (dj := 60) rfl (ev_move rfl) rfl (by kernel_rfl) (by kernel_rfl) (by kernel_rfl) noP_ok hD (by repeat (first | exact .refl | exact subL_nil | refine .keep ?_ | refine .drop ?_ | refine subL_add ?_)) ?_
      refine XD_takeW 12 rfl rfl rfl (dj := 60) rfl (ev_lenS rfl slt_22) rfl (by kernel_rfl) (by kernel_rfl) (by kernel_rfl) noP_ok hD (by repeat (first | exact .refl | exact subL_nil | refine .keep ?_ | refine .drop ?_ | refine subL_add ?_)) ?_
      refine XD_takeW 13 rfl rfl rfl (dj := 60) rfl (ev_cmp rfl rfl rfl) rfl (by kernel_rfl) (by kernel_rfl) (by kernel_rfl) noP_ok hD (by repeat (first | exact .refl | exact subL_nil | refine .keep ?_ | refine .drop ?_ | refine subL_add ?_)) ?_
      rw [q2]
      refine XD_take 14 rfl (ev_pickb rfl rfl rfl) (.none rfl) rfl rfl rfl (by kernel_rfl) (by kernel_rfl) (by kernel_rfl) noP_ok hD (by repeat (first | exact .refl | exact subL_nil | refine .keep ?_ | refine .drop ?_ | refine subL_add ?_)) ?_
      refine XD_take 15 rfl (ev_move rfl) (.none rfl) rfl rfl rfl (by kernel_rfl) (by kernel_rfl) (by kernel_rfl) noP_ok hD (by repeat (first | exact .refl | exact subL_nil | refine .keep ?_ | refine .drop ?_ | refine subL_add ?_)) ?_
      refine XD_takeW 16 rfl rfl rfl (dj := 67) rfl (ev_fieldAddr rfl fld_79_0) rfl (by kernel_rfl) (by kernel_rfl) (by kernel_rfl) noP_ok hD (by repeat (first | exact .refl | exact subL_nil | refine .keep ?_ | refine .drop ?_ | refine subL_add ?_)) ?_
      refine XD_takeW 17 rfl rfl rfl (dj := 67) rfl (ev_load rfl sct_77 (fun hg => by exact hC15.any)) rfl (by kernel_rfl) (by kernel_rfl) (by kernel_rfl) noP_ok hD (by repeat (first | exact .refl | exact subL_nil | refine .keep ?_ | refine .drop ?_ | refine subL_add ?_)) ?_
      refine XD_takeW 18 rfl rfl rfl (dj := 67) rfl (ev_fieldAddr rfl fld_44_1) rfl (by kernel_rfl) (by kernel_rfl) (by kernel_rfl) noP_ok hD (by repeat (first | exact .refl | exact subL_nil | refine .keep ?_ | refine .drop ?_ | refine subL_add ?_)) ?_
      refine XD_takeW 19 rfl rfl rfl (dj := 67) rfl (ev_load rfl sct_3 (fun hg => by exact .imm hE14 rfl)) rfl (by kernel_rfl) (by kernel_rfl) (by kernel_rfl) noP_ok hD (by repeat (first | exact .refl | exact subL_nil | refine .keep ?_ | refine .drop ?_ | refine subL_add ?_)) ?_
      refine XD_takeW 20 rfl rfl rfl (dj := 67) rfl (ev_move rfl) rfl (by kernel_rfl) (by kernel_rfl) (by kernel_rfl) noP_ok hD (by repeat (first | exact .refl | exact subL_nil | refine .keep ?_ | refine .drop ?_ | refine subL_add ?_)) ?_
      refine XD_takeW 21 rfl rfl rfl (dj := 67) rfl (ev_makeFunc (us := []) (vs := [_]) rfl rfl) rfl (by kernel_rfl) (by kernel_rfl) (by kernel_rfl) noP_ok hD (by repeat (first | exact .refl | exact subL_nil | refine .keep ?_ | refine .drop ?_ | refine subL_add ?_)) ?_
      refine XD_one 22 rfl (by kernel_rfl) ?_
      refine XO_want (dj := 67) rfl rfl rfl ?_
      refine XO_callV0 (cap := []) (vs := [_, _]) rfl rfl fun_36 (w_containsM hVn hn2 hE14 h0e hle2) rfl rfl ?_
      refine XO_nil ?_
      refine zD hD ?_
      refine XD_one 23 rfl (by kernel_rfl) ?_
      refine XO_want (dj := 67) rfl rfl rfl ?_
      refine XO_callV0 (cap := []) (vs := [_, _]) rfl rfl hFf (hCf _ _ _) rfl rfl ?_
      refine XO_nil ?_
      refine zD hD ?_
      refine XD_takeW 24 rfl rfl rfl (dj := 67) rfl (ev_not rfl) rfl (by kernel_rfl) (by kernel_rfl) (by kernel_rfl) noP_ok hD (by repeat (first | exact .refl | exact subL_nil | refine .keep ?_ | refine .drop ?_ | refine subL_add ?_)) ?_
      refine XD_take 25 rfl (ev_pickb rfl rfl rfl) (.none rfl) rfl rfl rfl (by kernel_rfl) (by kernel_rfl) (by kernel_rfl) noP_ok hD (by repeat (first | exact .refl | exact subL_nil | refine .keep ?_ | refine .drop ?_ | refine subL_add ?_)) ?_
      refine XD_done (by kernel_rfl) ?_
      refine at_noP ?_
      refine at_then ?_
      refine X_cond rfl (fun hc77 => ?_) (fun hc77 => ?_)
      ·
       have hbe := badE_4 q1 q2 hc77
       refine X_seq (X_region ?_)
       refine XO_v0 (ev_loadA rfl agt_34 (fun hg => by exact Cells.g0) rfl) rfl rfl rfl ?_
       refine XO_storeA rfl rfl szt_34 rfl rfl rfl rfl (by repeat (first | exact Upd.here | apply Upd.there | apply upd_app)) ?_
       refine zA ?_
       refine XO_nil (at_then ?_)
       refine X_ret ?_
       refine at_then_r ?_
       refine at_block_r ?_
       refine at_then_r ?_
       refine at_then_r ?_
       refine at_block_r ?_
       refine at_then_r ?_
       first
       | exact at_ret2A rfl rfl rfl agt_34 (vs := encEd 0 none 0 0 none 0 0 none 0 0) (by repeat (first | exact Cells.here | apply Cells.there)) rfl (fun w hw => ⟨_, _, [], rfl, hIc, hw.drop, rfl, _, by rw [makE_3 hcE hc36 (hgo.trans (goodE_bad he hbe))] <;> rfl, .inr ⟨by rw [makE_3 hcE hc36 (hgo.trans (goodE_bad he hbe))]; decide, _, _, _, _, _, _, _, _, _, rfl, .nil, .nil, .nil⟩⟩)
      ·
       have hbe := badE_4 q1 q2 hc77
       refine X_skip ?_
       refine at_then ?_
       refine X_region ?_
       refine XO_v0 (ev_fieldAddr rfl fld_44_0) rfl rfl rfl ?_
       refine XO_v0 (ev_load rfl sct_3 (fun hg => by exact .imm hE14 rfl)) rfl rfl rfl ?_
       refine zA ?_
       refine XO_nil ?_
       refine at_block_n ?_
       refine at_then ?_
       refine X_region ?_
       refine zB ?_
       refine zM ?_
       refine XO_nil ?_
       exact at_met2 _ _ ⟨es.length - (k + 1), by omega, k + 1, _, rfl, rfl, hB0, rfl, by omega, by omega, by rw [hgo, goodE_step he hbe]⟩ (.cons rfl (.cons rfl (.cons rfl (.cons rfl (.cons rfl (.cons rfl (.cons rfl (.cons rfl (.cons rfl (.cons rfl (.cons rfl .nil))))))))))) (by repeat (first | exact .refl | exact subL_left | refine subL_app ?_ | refine .drop ?_ | refine subL_add ?_))
   ·
    have hge_k : es.length ≤ k := by have h := hc42; simp at h; omega
    rw [goodE_end hge_k] at hgo
    refine X_exit ?_
    refine at_then_e ?_
    refine at_then_e ?_
    refine at_block_hit ?_
    refine at_then ?_
    refine X_seq (X_region ?_)
    refine zM ?_
    refine zM ?_
    refine XO_callM (cap := []) (vs := [_]) rfl rfl fun_38 .nil (w_cloneI hS (by omega)) rfl rfl ?_
    rintro vv11 I11 L11 hI11 ⟨rfl, hO1⟩
    have hS := hS.mono hI11
    have hVn := hVn.mono hI11
    have hV := hV.mono hI11
    have hH := hH.mono hI11
    have hDb := hDb.mono hI11
    have hEs := hEs.mono hI11
    have hRt := hRt.mono hI11
    have hQ0 := hQ0.mono hI11
    have hRm := hRm.mono hI11
    have hIc := hIc.trans hI11
    have hB0 := hB0.trans hI11
    obtain ⟨va1, vc1, rfl⟩ := valn hO1
    refine zM ?_
    refine XO_callM (cap := []) (vs := [_]) rfl rfl fun_39 .nil (w_cloneE hEs (by omega)) rfl rfl ?_
    rintro vv12 I12 L12 hI12 ⟨rfl, hO2⟩
    have hS := hS.mono hI12
    have hVn := hVn.mono hI12
    have hV := hV.mono hI12
    have hH := hH.mono hI12
    have hDb := hDb.mono hI12
    have hEs := hEs.mono hI12
    have hRt := hRt.mono hI12
    have hQ0 := hQ0.mono hI12
    have hRm := hRm.mono hI12
    have hIc := hIc.trans hI12
    have hB0 := hB0.trans hI12
    obtain ⟨va2, vc2, rfl⟩ := valn hO2
    refine XO_v0 (ev_buildL (ps := [(0, _), (1, _), (2, _)]) [_, _, _, _] plt_34 rfl rfl) rfl rfl rfl ?_
    refine XO_storeA rfl rfl szt_34 rfl rfl rfl rfl (by repeat (first | exact Upd.here | apply Upd.there | apply upd_app)) ?_
    refine XO_nil (at_then ?_)
    refine X_seq ?_
    refine X_freezeO hO2 encEm_len (by decide) (by repeat (first | exact .cons .here .nil | exact split_all | exact split_app | apply split_cons | apply split_skip)) (fun I13 hI13 af13 cf13 ef13 hEm2 => ?_)
    cases ef13
    have hS := hS.mono hI13
    have hVn := hVn.mono hI13
    have hV := hV.mono hI13
    have hH := hH.mono hI13
    have hDb := hDb.mono hI13
    have hEs := hEs.mono hI13
    have hRt := hRt.mono hI13
    have hQ0 := hQ0.mono hI13
    have hRm := hRm.mono hI13
    have hIc := hIc.trans hI13
    have hB0 := hB0.trans hI13
    refine X_freezeO hO1 encI_len (by decide) (by repeat (first | exact .cons .here .nil | exact split_all | exact split_app | apply split_cons | apply split_skip)) (fun I14 hI14 af14 cf14 ef14 hCl => ?_)
    cases ef14
    have hS := hS.mono hI14
    have hVn := hVn.mono hI14
    have hV := hV.mono hI14
    have hH := hH.mono hI14
    have hDb := hDb.mono hI14
    have hEs := hEs.mono hI14
    have hRt := hRt.mono hI14
    have hQ0 := hQ0.mono hI14
    have hRm := hRm.mono hI14
    have hEm2 := hEm2.mono hI14
    have hIc := hIc.trans hI14
    have hB0 := hB0.trans hI14
    refine X_locEq (loc' := [] ++ [(b_8, .cells (encEd no va1 n vc1 va2 es.length vc2 none 0 0).toArray 34 (0, 0))]) rfl ?_
    refine X_region ?_
    refine zM ?_
    refine zA ?_
    refine XO_nil (at_then ?_)
    refine X_seq ?_
    refine X_seq (X_region ?_)
    refine zM ?_
    refine XO_v0 (ev_lenS rfl slt_22) rfl rfl rfl ?_
    refine zM ?_
    refine XO_nil (at_then ?_)
    refine X_block ?_
    refine X_loopT [(0, _), (8, _), (89, _), (90, _)] (.cons rfl (.cons rfl (.cons rfl (.cons rfl .nil)))) (fun T L0 mz E I' loc' => ∃ (k : Nat) (lf : List Em) (dva : Option Addr) (dn : Nat) (dc : Nat) (va3 : Option Addr) (vc3 : Nat) (L : Go.Kn.Loc), mz = (rows.getD 0 []).length - k ∧ E = (17, .slice dva dn dc) :: (91, .int .i64 k) :: T ∧ HLe I14 I' ∧ L ++ [(b_8, .cells (encEd no va1 n vc1 va2 es.length vc2 va3 k vc3).toArray 34 (0, 0))] = loc' ∧ k ≤ (rows.getD 0 []).length ∧ lf = lfK es k ∧ Sl I' 3 encEm dva dn dc lf ∧ OwnS 3 1 (.slice va3 k vc3) k (((List.range k).map (readK rows xs es)).flatMap encI) L) _ _ _ _ ⟨0, es, _, _, _, none, 0, [], rfl, rfl, HLe.refl _, rfl, Nat.zero_le _, rfl, hEs, OwnS.nil⟩ (.cons rfl (.cons rfl (.cons rfl (.cons rfl (.cons rfl (.cons rfl .nil)))))) (HLe.refl _) rfl ?_
    rintro mz E J15 loc' ⟨k, lf, dva, dn, dc, va3, vc3, L, rfl, rfl, hJ, rfl, hk, hlf, hLf, hO⟩
    have hS := hS.mono hJ
    have hVn := hVn.mono hJ
    have hV := hV.mono hJ
    have hH := hH.mono hJ
    have hDb := hDb.mono hJ
    have hEs := hEs.mono hJ
    have hRt := hRt.mono hJ
    have hQ0 := hQ0.mono hJ
    have hRm := hRm.mono hJ
    have hEm2 := hEm2.mono hJ
    have hCl := hCl.mono hJ
    have hIc := hIc.trans hJ
    have hB0 := hB0.trans hJ
    have hB2 := hJ
    have hLfl := hLf.len
    subst hLfl
    refine X_seq (X_region ?_)
    refine zC ?_
    refine XO_nil (at_then ?_)
    refine X_seq ?_
    refine X_cond rfl (fun hc92 => ?_) (fun hc92 => ?_)
    ·
     have hlt_k : k < (rows.getD 0 []).length := by have h := of_decide_eq_true hc92; omega
     obtain ⟨rhs, hRh9⟩ := id hRt
     have hRh := hRh9.1
     obtain ⟨rx, rv, hrx, hrv, hQ⟩ := hRh9.at hlt_k
     have hrv2 := roots_at hcE hlt_k
     rw [hrv2] at hrv
     cases hrv
     have hrp := root_pos (rows := rows) (cl := xs) (l := k)
     have hQl := hQ.len
     have hq0 : (rootF rows xs k)[0]? = some ((rootF rows xs k).getD 0 0) := some_getD rfl hrp
     have hk0 : v0[k]? = some (v0.getD k 0) := some_getD rfl (by rw [← hg0]; exact hlt_k)
     have hstl := stE_len (rows := rows) (l := k)
     have hrl : (rootF rows xs k).length ≤ (stE rows k).length := List.length_filter_le _ _
     refine X_skip ?_
     refine at_then ?_
     refine X_seq ?_
     refine X_block ?_
     refine X_seq (X_region ?_)
     refine zM ?_
     refine XO_v0 (ev_indexSl rfl rfl slt_22 hRh (fun hg => by first | omega | (simp [conj] at hg; omega))) rfl rfl rfl ?_
     refine XO_v0 (ev_load rfl sct_23 (fun hg => by exact Sl.get0 hRh hrx rfl)) rfl rfl rfl ?_
     refine zA ?_
     refine zA ?_
     refine XO_nil (at_then (X_seq (X_region ?_)))
     refine zM ?_
     refine XO_v0 (ev_indexSl rfl rfl slt_23 hQ (fun hg => by first | omega | (simp [conj] at hg; omega))) rfl rfl rfl ?_
     refine XO_v0 (ev_load rfl sct_3 (fun hg => by exact Sl.get0 hQ hq0 rfl)) rfl rfl rfl ?_
     refine zA ?_
     refine XO_nil (at_then ?_)
     refine X_cutT [(0, _), (8, _), (17, _), (18, _), (89, _), (90, _), (91, _)] (.cons rfl (.cons rfl (.cons rfl (.cons rfl (.cons rfl (.cons rfl (.cons rfl .nil))))))) (fun T L0 E I' loc' => ∃ (b9 : Int), E = (20, .int .i64 b9) :: T ∧ HLe J15 I' ∧ L ++ [(b_8, .cells (encEd no va1 n vc1 va2 es.length vc2 va3 k vc3).toArray 34 (0, 0))] = loc' ∧ b9 = baseK rows xs k) ?_ ?_
     ·
      have hKc21 := HLe.refl J15
      refine X_seq (X_region ?_)
      refine zM ?_
      refine zM ?_
      refine XO_v0 (ev_indexSl rfl rfl slt_22 hH (fun hg => by first | omega | (simp [conj] at hg; omega))) rfl rfl rfl ?_
      refine XO_v0 (ev_load rfl sct_23 (fun hg => by exact Sl.get0 hH hx0 rfl)) rfl rfl rfl ?_
      refine zM ?_
      refine XO_v0 (ev_indexSl rfl rfl slt_23 hQ0 (fun hg => by first | omega | (simp [conj] at hg; omega))) rfl rfl rfl ?_
      refine XO_v0 (ev_load rfl sct_3 (fun hg => by exact Sl.get0 hQ0 hk0 rfl)) rfl rfl rfl ?_
      refine XO_callV0 (cap := []) (vs := [_, _]) rfl rfl fun_40 (w_contains hQ (by omega) _) rfl rfl ?_
      refine XO_nil (at_then ?_)
      refine X_cond rfl (fun hc106 => ?_) (fun hc106 => ?_)
      ·
       refine X_region ?_
       refine zM ?_
       refine XO_v0 (ev_indexSl rfl rfl slt_22 hH (fun hg => by first | omega | (simp [conj] at hg; omega))) rfl rfl rfl ?_
       refine XO_v0 (ev_load rfl sct_23 (fun hg => by exact Sl.get0 hH hx0 rfl)) rfl rfl rfl ?_
       refine zM ?_
       refine XO_v0 (ev_indexSl rfl rfl slt_23 hQ0 (fun hg => by first | omega | (simp [conj] at hg; omega))) rfl rfl rfl ?_
       refine XO_v0 (ev_load rfl sct_3 (fun hg => by exact Sl.get0 hQ0 hk0 rfl)) rfl rfl rfl ?_
       refine zA ?_
       refine XO_nil ?_
       first
       | exact at_met2 _ _ ⟨_, rfl, hKc21, rfl, by rw [← base_yes (rows := rows) (cl := xs) (k := k) (by rw [hg0]; exact hc106), hg0]⟩ (.cons rfl (.cons rfl (.cons rfl (.cons rfl (.cons rfl (.cons rfl (.cons rfl (.cons rfl .nil)))))))) .refl
      ·
       refine X_skip ?_
       first
       | exact at_met2 _ _ ⟨_, rfl, hKc21, rfl, base_no (by rw [hg0]; exact hc106)⟩ (.cons rfl (.cons rfl (.cons rfl (.cons rfl (.cons rfl (.cons rfl (.cons rfl (.cons rfl .nil)))))))) .refl
     ·
      rintro E J16 loc' ⟨b9, rfl, hJ106, rfl, hb9⟩
      have hS := hS.mono hJ106
      have hVn := hVn.mono hJ106
      have hV := hV.mono hJ106
      have hH := hH.mono hJ106
      have hDb := hDb.mono hJ106
      have hEs := hEs.mono hJ106
      have hRt := hRt.mono hJ106
      have hQ0 := hQ0.mono hJ106
      have hRm := hRm.mono hJ106
      have hEm2 := hEm2.mono hJ106
      have hCl := hCl.mono hJ106
      have hLf := hLf.mono hJ106
      have hRh := hRh.mono hJ106
      have hQ := hQ.mono hJ106
      have hIc := hIc.trans hJ106
      have hB0 := hB0.trans hJ106
      have hB2 := hB2.trans hJ106
      refine X_cutT [(0, _), (8, _), (89, _), (90, _), (91, _)] (.cons rfl (.cons rfl (.cons rfl (.cons rfl (.cons rfl .nil))))) (fun T L0 E I' loc' => ∃ (r9 : Int) (lf2 : List Em) (ea : Option Addr) (en ec : Nat), E = (17, .slice ea en ec) :: (20, .int .i64 r9) :: T ∧ HLe J16 I' ∧ L ++ [(b_8, .cells (encEd no va1 n vc1 va2 es.length vc2 va3 k vc3).toArray 34 (0, 0))] = loc' ∧ r9 = readK rows xs es k ∧ lf2 = lfK es (k + 1) ∧ Sl I' 3 encEm ea en ec lf2) ?_ ?_
      ·
       have hKc23 := HLe.refl J16
       refine X_seq (X_region ?_)
       refine zM ?_
       refine XO_v0 (ev_lenS rfl slt_32) rfl rfl rfl ?_
       refine zC ?_
       refine zM ?_
       refine XO_pushT 3 rfl rfl rfl ?_
       refine XO_v1 (ev_move rfl) (.some rfl rfl rfl rfl gbt) rfl rfl rfl ?_
       refine XO_v1 (ev_indexSl rfl rfl slt_32 hLf (fun hg => by first | omega | (simp [conj] at hg; omega))) (.some rfl rfl rfl rfl gbt) rfl rfl rfl ?_
       refine XO_v1 (ev_fieldAddr rfl fld_44_0) (.some rfl rfl rfl rfl gbt) rfl rfl rfl ?_
       refine XO_v1 (ev_load rfl sct_3 (fun hg => by exact Sl.get (k := 0) hLf (some_getD (d := zeroE) rfl (by first | omega | (simp [conj] at hg; omega))) rfl)) (.some rfl rfl rfl rfl gbt) rfl rfl rfl ?_
       refine XO_v1 (ev_move rfl) (.some rfl rfl rfl rfl gbt) rfl rfl rfl ?_
       refine XO_v1 (ev_cmp rfl rfl rfl) (.some rfl rfl rfl rfl gbt) rfl rfl rfl ?_
       refine XO_and0 rfl rfl rfl rfl rfl ?_
       refine XO_nil (at_then ?_)
       refine X_cond rfl (fun hc123 => ?_) (fun hc123 => ?_)
       ·
        have hlf0 := (left_yes (rows := rows) (cl := xs) hlf hc123).2.2
        refine X_draw mixed (by kernel_rfl) ?_
        refine XQ_v0 (ev_move rfl) rfl rfl rfl ?_
        refine XQ_v0 (ev_indexSl rfl rfl slt_32 hLf (fun hg => by first | omega | (simp [conj] at hg; omega))) rfl rfl rfl ?_
        refine XQ_v0 (ev_fieldAddr rfl fld_44_1) rfl rfl rfl ?_
        refine XQ_v0 (ev_load rfl sct_3 (fun hg => by exact Sl.get (k := 0) hLf (some_getD (d := zeroE) rfl (by first | omega | (simp [conj] at hg; omega))) rfl)) rfl rfl rfl ?_
        refine XQ_v0 (ev_move rfl) rfl rfl rfl ?_
        refine XQ_v0 (ev_sliceLo rfl rfl slt_32 (fun hg => by first | omega | (simp [conj] at hg; omega))) rfl rfl rfl ?_
        refine XQ_v0 (ev_assign rfl) rfl rfl rfl ?_
        refine XQ_v0 (ev_assign rfl) rfl rfl rfl ?_
        refine XQ_nil ?_
        exact at_met2 _ _ ⟨_, lf.drop 1, _, _, _, rfl, hKc23, rfl, (left_yes (rows := rows) (cl := xs) hlf hc123).1, (left_yes (rows := rows) (cl := xs) hlf hc123).2.1, hLf.drop hlf0⟩ (.cons rfl (.cons rfl (.cons rfl (.cons rfl (.cons rfl (.cons rfl (.cons rfl .nil))))))) .refl
       ·
        refine X_skip ?_
        exact at_met2 _ _ ⟨_, lf, _, _, _, rfl, hKc23, rfl, hb9.trans (left_no (rows := rows) (cl := xs) hlf hc123).1, (left_no (rows := rows) (cl := xs) hlf hc123).2, hLf⟩ (.cons rfl (.cons rfl (.cons rfl (.cons rfl (.cons rfl (.cons rfl (.cons rfl .nil))))))) .refl
      ·
       rintro E J17 loc' ⟨r9, lf2, ea, en, ec, rfl, hJ123, rfl, hr9, hlf2, hLf2⟩
       have hS := hS.mono hJ123
       have hVn := hVn.mono hJ123
       have hV := hV.mono hJ123
       have hH := hH.mono hJ123
       have hDb := hDb.mono hJ123
       have hEs := hEs.mono hJ123
       have hRt := hRt.mono hJ123
       have hQ0 := hQ0.mono hJ123
       have hRm := hRm.mono hJ123
       have hEm2 := hEm2.mono hJ123
       have hCl := hCl.mono hJ123
       have hLf := hLf.mono hJ123
       have hRh := hRh.mono hJ123
       have hQ := hQ.mono hJ123
       have hIc := hIc.trans hJ123
       have hB0 := hB0.trans hJ123
       have hB2 := hB2.trans hJ123
       refine X_region ?_
       refine XO_v0 (ev_fieldAddr rfl fld_34_3) rfl rfl rfl ?_
       refine XO_v0 (ev_load rfl sct_23 (fun hg => by (repeat (first | exact Cell.here rfl | apply Cell.there | apply Cell.app)))) rfl rfl rfl ?_
       refine zM ?_
       refine XO_buildSlice (ps := [(0, _)]) (m := [encI r9]) elt_23 rfl (.cons rfl (.nil)) rfl (by simp [encI_len]) (by decide) (by decide) rfl rfl (fun b_133 => ?_)
       refine XO_append (v := _) (ys := [r9].flatMap encI) (L := L) rfl rfl elt_23 hO (by repeat (first | exact .cons .here .nil | exact split_all | exact split_app | apply split_cons | apply split_skip)) ⟨rfl, fun _ => rfl, by repeat (first | exact Cells.here | apply Cells.there | apply Cells.app)⟩ (one_I [r9]) (by omega) rfl rfl ?_
       intro v9 L9 hO9 _; rw [← List.flatMap_append] at hO9; obtain ⟨va9, vc9, rfl⟩ := valn hO9
       refine XO_v0 (ev_fieldAddr rfl fld_34_3) rfl rfl rfl ?_
       refine zS szt_23 ?_
       refine XO_nil ?_
       refine at_block_n ?_
       refine at_then ?_
       refine X_region ?_
       refine zB ?_
       refine zM ?_
       refine XO_nil ?_
       exact at_met2 _ _ ⟨(rows.getD 0 []).length - (k + 1), by omega, k + 1, _, _, _, _, _, _, _, rfl, rfl, hB2, rfl, by omega, hlf2, hLf2, by rw [range_map, ← hr9]; exact hO9⟩ (.cons rfl (.cons rfl (.cons rfl (.cons rfl (.cons rfl (.cons rfl .nil)))))) (by repeat (first | exact .refl | exact subL_left | refine subL_app ?_ | refine .drop ?_ | refine subL_add ?_))
    ·
     have hge_k : (rows.getD 0 []).length ≤ k := by have h := of_decide_eq_false hc92; omega
     obtain rfl : k = (rows.getD 0 []).length := by omega
     refine X_exit ?_
     refine at_then_e ?_
     refine at_then_e ?_
     refine at_block_hit ?_
     refine at_then ?_
     refine X_seq (X_region ?_)
     refine XO_v0 (ev_loadA rfl agt_34 (fun hg => by (repeat (first | exact Cells.here | apply Cells.there | apply Cells.app))) rfl) rfl rfl rfl ?_
     refine XO_storeA rfl rfl szt_34 rfl rfl rfl rfl (by repeat (first | exact Upd.here | apply Upd.there | apply upd_app)) ?_
     refine zA ?_
     refine XO_nil (at_then ?_)
     refine X_ret ?_
     first
     | exact at_ret2A rfl rfl rfl agt_34 (vs := encEd no va1 n vc1 va2 es.length vc2 va3 (rows.getD 0 []).length vc3) (by repeat (first | exact Cells.here | apply Cells.there | apply Cells.app)) rfl (fun w hw => by obtain ⟨I9, av9, c9, h1', h2', e9, h4'⟩ := OwnS.freeze (R := [_]) hO encI_len (by decide) hw; cases e9; exact ⟨_, I9, [], rfl, hIc.trans h1', h2'.drop, rfl, _, by rw [makE_4 hcE hc36 hgo] <;> rfl, .inl ⟨makE_4 hcE hc36 hgo, va1, _, _, va2, _, _, va3, _, _, rfl, hCl.mono h1', hEm2.mono h1', h4'⟩⟩)
end Go.Proofs.YthcffaheamikgaaGreatDoor
end
section
namespace Go.Proofs.YthcffaheamikgaaGreatDoor
open Go Go.Kn Go.Proofs
def edcF (rows : List (List Int)) (no : Int) (cl : List Int) (es : List Em) (rd : List Int) : Int := if makE rows no cl es ≠ 0 then makE rows no cl es else if rd = readsL rows cl es then 0 else 430
theorem edc_1 {rows : List (List Int)} {no : Int} {cl : List Int} {es : List Em} {rd : List Int} (h : makE rows no cl es ≠ 0) : edcF rows no cl es rd = makE rows no cl es := by unfold edcF; rw [if_pos h]
theorem edc_2 {rows : List (List Int)} {no : Int} {cl : List Int} {es : List Em} {rd : List Int} (h : makE rows no cl es = 0) (h2 : rd ≠ readsL rows cl es) : edcF rows no cl es rd = 430 := by unfold edcF; rw [if_neg (by omega), if_neg h2]
theorem edc_3 {rows : List (List Int)} {no : Int} {cl : List Int} {es : List Em} {rd : List Int} (h : makE rows no cl es = 0) (h2 : rd = readsL rows cl es) : edcF rows no cl es rd = 0 := by unfold edcF; rw [if_neg (by omega), if_pos h2]
theorem edc_ok {rows : List (List Int)} {no : Int} {cl : List Int} {es : List Em} {rd : List Int} (h : edcF rows no cl es rd = 0) : makE rows no cl es = 0 ∧ rd = readsL rows cl es := by
  unfold edcF at h
  split at h
  · rename_i h1; exact absurd h h1
  · rename_i h1
    split at h
    · rename_i h2; exact ⟨by omega, h2⟩
    · cases h
theorem mak_ok {rows : List (List Int)} {no : Int} {cl : List Int} {es : List Em} (h : makE rows no cl es = 0) : costE rows cl = 0 := by
  unfold makE at h
  split at h
  · rename_i h1; exact absurd h h1
  · rename_i h1; omega
theorem cost_rows {rows : List (List Int)} {cl : List Int} (h : costE rows cl = 0) : rowsN rows = 0 := by
  cases Decidable.em (rowsN rows = 0) with
  | inl e => exact e
  | inr e => exact absurd ((cost_1 e).1.symm.trans h) e
theorem MakQ.opn {rows : List (List Int)} {no : Int} {cl : List Int} {es : List Em} {v : Value} {I' : HMap} {L : Go.Kn.Loc} (h : MakQ rows no cl es v I' L) : L = [] ∧ ∃ (no2 : Int) (cl2 : List Int) (es2 : List Em) (rd2 : List Int) (a1 : Option Addr) (n1 c1 : Nat) (a2 : Option Addr) (n2 c2 : Nat) (a3 : Option Addr) (n3 c3 : Nat),
    v = .tuple #[.agg (encEd no2 a1 n1 c1 a2 n2 c2 a3 n3 c3).toArray, .int .i64 (makE rows no cl es)] ∧ Sl I' 1 encI a1 n1 c1 cl2 ∧ Sl I' 3 encEm a2 n2 c2 es2 ∧ Sl I' 1 encI a3 n3 c3 rd2 ∧
    (makE rows no cl es = 0 → no2 = no ∧ cl2 = cl ∧ es2 = es ∧ rd2 = readsL rows cl es) ∧ (makE rows no cl es ≠ 0 → no2 = 0 ∧ cl2 = [] ∧ es2 = [] ∧ rd2 = []) := by
  obtain ⟨rfl, vs, rfl, h⟩ := h
  rcases h with ⟨h0, a1, n1, c1, a2, n2, c2, a3, n3, c3, rfl, h1, h2, h3⟩ | ⟨h0, a1, n1, c1, a2, n2, c2, a3, n3, c3, rfl, h1, h2, h3⟩
  · exact ⟨rfl, no, cl, es, readsL rows cl es, a1, n1, c1, a2, n2, c2, a3, n3, c3, rfl, h1, h2, h3, fun _ => ⟨rfl, rfl, rfl, rfl⟩, fun h => absurd h0 h⟩
  · exact ⟨rfl, 0, [], [], [], a1, n1, c1, a2, n2, c2, a3, n3, c3, rfl, h1, h2, h3, fun h => absurd h h0, fun _ => ⟨rfl, rfl, rfl, rfl⟩⟩
/-! ### Signs -/
def nzF (row : List Int) (k : Nat) : Nat := ((row.take k).filter fun c => c != 0).length
theorem nzF_yes {row : List Int} {k : Nat} {c : Int} (h : row[k]? = some c) (hc : (c == 0) = false) : nzF row (k + 1) = nzF row k + 1 := by
  unfold nzF; rw [List.take_add_one, h, List.filter_append, List.length_append]
  have h2 : (c != 0) = true := by simpa [bne] using hc
  simp [h2]
theorem nzF_no {row : List Int} {k : Nat} {c : Int} (h : row[k]? = some c) (hc : (c == 0) = true) : nzF row (k + 1) = nzF row k := by
  unfold nzF; rw [List.take_add_one, h, List.filter_append, List.length_append]
  have h2 : (c != 0) = false := by simpa [bne] using hc
  simp [h2]
/-- Wherever a row has a number, its witness has so many readings. -/
def NzOK (ws : List Wr) (rows : List (List Int)) : Prop := ∀ (i : Nat) (x : Wr) (row : List Int), ws[i]? = some x → rows[i]? = some row → ∀ k, k < row.length → row.getD k 0 ≠ 0 → nzF row k < x.rs.length
structure SgS where
  ex : Option Sg
  so : Option Sg
  many : Nat
  lost : Bool
def orS (a : Option Sg) (b : Sg) : Option Sg := match a with | none => some b | some x => some x
def sgSt (code : Int) (s : SgS) (c : Int) (y : Rd) : SgS :=
  if (c == 0) = true then s else if y.lost = true then { s with lost := true } else
  ⟨if (s.ex.isNone && c == code) = true then some y.sg else s.ex, orS s.so y.sg, s.many + 1, s.lost⟩
def zeroRd : Rd := ⟨false, zeroS⟩
def ydF (ws : List Wr) (rows : List (List Int)) (i k : Nat) : Rd := ((ws[i]?).map (·.rs)).getD [] |>.getD (nzF (rows.getD i []) k) zeroRd
def sgK (ws : List Wr) (rows : List (List Int)) (k : Nat) (code : Int) : Nat → SgS
  | 0 => ⟨none, none, 0, false⟩
  | i + 1 => sgSt code (sgK ws rows k code i) ((rows.getD i []).getD k 0) (ydF ws rows i k)
inductive Out | err | skip | sg (x : Sg)
def putS (k : Nat) (code : Int) (y : Sg) (m : Bool) : Sg := { signF code with id := (k : Int), bar := y.bar, mark := if m = true then 3 else y.mark, fn := y.fn, fd := y.fd, tn := y.tn, td := y.td }
def outK (ws : List Wr) (rows : List (List Int)) (k : Nat) (code : Int) : Out :=
  if (code == 0) = true then .skip else
  match (sgK ws rows k code rows.length).ex.or (sgK ws rows k code rows.length).so with
  | none => .err
  | some y => if (signE code != 0) = true then .err else .sg (putS k code y ((decide ((ws.length : Int) > 1) && ((sgK ws rows k code rows.length).many : Int) == 1) && !(sgK ws rows k code rows.length).lost))
def sgnK (ws : List Wr) (rows : List (List Int)) (rd : List Int) : Nat → Option (List Sg)
  | 0 => some []
  | k + 1 => match sgnK ws rows rd k with
    | none => none
    | some l => match outK ws rows k (rd.getD k 0) with
      | .err => none
      | .skip => some l
      | .sg x => some (l ++ [x])
theorem sgn_none {ws : List Wr} {rows : List (List Int)} {rd : List Int} {k : Nat} (h : sgnK ws rows rd k = none) : ∀ j, k ≤ j → sgnK ws rows rd j = none
  | 0, hj => by obtain rfl : k = 0 := by omega
                cases h
  | j + 1, hj => by
    by_cases e : k = j + 1
    · subst e; exact h
    · show (match sgnK ws rows rd j with | none => none | some l => match outK ws rows j (rd.getD j 0) with | .err => none | .skip => some l | .sg x => some (l ++ [x])) = none
      rw [sgn_none h j (by omega)]
theorem sgn_err {ws : List Wr} {rows : List (List Int)} {rd : List Int} {k : Nat} {l : List Sg} (h : sgnK ws rows rd k = some l) (ho : outK ws rows k (rd.getD k 0) = .err) (hk : k < rd.length) : sgnK ws rows rd rd.length = none := by
  refine sgn_none (k := k + 1) ?_ _ hk
  show (match sgnK ws rows rd k with | none => none | some l => match outK ws rows k (rd.getD k 0) with | .err => none | .skip => some l | .sg x => some (l ++ [x])) = none
  rw [h]; simp only; rw [ho]
theorem sgn_skip {ws : List Wr} {rows : List (List Int)} {rd : List Int} {k : Nat} {l : List Sg} (h : sgnK ws rows rd k = some l) (ho : outK ws rows k (rd.getD k 0) = .skip) : sgnK ws rows rd (k + 1) = some l := by
  show (match sgnK ws rows rd k with | none => none | some l => match outK ws rows k (rd.getD k 0) with | .err => none | .skip => some l | .sg x => some (l ++ [x])) = _
  rw [h]; simp only; rw [ho]
theorem sgn_sg {ws : List Wr} {rows : List (List Int)} {rd : List Int} {k : Nat} {l : List Sg} {x : Sg} (h : sgnK ws rows rd k = some l) (ho : outK ws rows k (rd.getD k 0) = .sg x) : sgnK ws rows rd (k + 1) = some (l ++ [x]) := by
  show (match sgnK ws rows rd k with | none => none | some l => match outK ws rows k (rd.getD k 0) with | .err => none | .skip => some l | .sg x => some (l ++ [x])) = _
  rw [h]; simp only; rw [ho]
def sigE (ws : List Wr) (rows : List (List Int)) (no : Int) (cl : List Int) (es : List Em) (rd : List Int) : Int :=
  if tabE ws ≠ 0 then tabE ws else if tabR ws ≠ rows then 430 else if edcF rows no cl es rd ≠ 0 then edcF rows no cl es rd else if (sgnK ws rows rd rd.length).isNone = true then 430 else 0
def sigL (ws : List Wr) (rows : List (List Int)) (no : Int) (cl : List Int) (es : List Em) (rd : List Int) : List Sg :=
  if sigE ws rows no cl es rd ≠ 0 then [] else (sgnK ws rows rd rd.length).getD []
theorem sig_bad {ws : List Wr} {rows : List (List Int)} {no : Int} {cl : List Int} {es : List Em} {rd : List Int} (h : sigE ws rows no cl es rd ≠ 0) : sigL ws rows no cl es rd = [] := by unfold sigL; rw [if_pos h]
theorem sig_1 {ws : List Wr} {rows : List (List Int)} {no : Int} {cl : List Int} {es : List Em} {rd : List Int} (h : tabE ws ≠ 0) : sigE ws rows no cl es rd = tabE ws := by unfold sigE; rw [if_pos h]
theorem sig_2 {ws : List Wr} {rows : List (List Int)} {no : Int} {cl : List Int} {es : List Em} {rd : List Int} (h : tabE ws = 0) (h2 : tabR ws ≠ rows) : sigE ws rows no cl es rd = 430 := by unfold sigE; rw [if_neg (by omega), if_pos h2]
theorem sig_3 {ws : List Wr} {rows : List (List Int)} {no : Int} {cl : List Int} {es : List Em} {rd : List Int} (h : tabE ws = 0) (h2 : tabR ws = rows) (h3 : edcF rows no cl es rd ≠ 0) : sigE ws rows no cl es rd = edcF rows no cl es rd := by unfold sigE; rw [if_neg (by omega), if_neg (fun e => e h2), if_pos h3]
theorem sig_4 {ws : List Wr} {rows : List (List Int)} {no : Int} {cl : List Int} {es : List Em} {rd : List Int} (h : tabE ws = 0) (h2 : tabR ws = rows) (h3 : edcF rows no cl es rd = 0) (h4 : sgnK ws rows rd rd.length = none) : sigE ws rows no cl es rd = 430 := by unfold sigE; rw [if_neg (by omega), if_neg (fun e => e h2), if_neg (by omega), h4]; rfl
theorem sig_5 {ws : List Wr} {rows : List (List Int)} {no : Int} {cl : List Int} {es : List Em} {rd : List Int} {l : List Sg} (h : tabE ws = 0) (h2 : tabR ws = rows) (h3 : edcF rows no cl es rd = 0) (h4 : sgnK ws rows rd rd.length = some l) : sigE ws rows no cl es rd = 0 ∧ sigL ws rows no cl es rd = l := by
  have e : sigE ws rows no cl es rd = 0 := by unfold sigE; rw [if_neg (by omega), if_neg (fun e => e h2), if_neg (by omega), h4]; rfl
  exact ⟨e, by unfold sigL; rw [if_neg (by omega), h4]; rfl⟩
end Go.Proofs.YthcffaheamikgaaGreatDoor
end
section
namespace Go.Proofs.YthcffaheamikgaaGreatDoor
open Go Go.Kn Go.Proofs
theorem fld_34_0 : FieldAt Tryz.prog 34 0 0 := .of (by kernel_rfl)
theorem fld_34_1 : FieldAt Tryz.prog 34 1 1 := .of (by kernel_rfl)
theorem fld_34_2 : FieldAt Tryz.prog 34 2 2 := .of (by kernel_rfl)
theorem fun_14 : Fun Tryz.prog 14 := .of Tryz.func14 (by kernel_rfl) (by kernel_rfl)
theorem sct_32 : ScT Tryz.prog 32 := .of (by kernel_rfl)
theorem w_edChk {I : HMap} {bv : Option Addr} {n2 c2 : Nat} {rows : List (List Int)} (hVn : SlN I bv n2 c2 rows) (hn2 : n2 ≤ 100000) {ea1 : Option Addr} {en1 ec1 : Nat} {ea2 : Option Addr} {en2 ec2 : Nat} {ea3 : Option Addr} {en3 ec3 : Nat} {xs : List Int} {es : List Em} {rd : List Int} (hX1 : Sl I 1 encI ea1 en1 ec1 xs) (hX2 : Sl I 3 encEm ea2 en2 ec2 es) (hX3 : Sl I 1 encI ea3 en3 ec3 rd) (hm1 : en1 ≤ 100000) (hm2 : en2 ≤ 100000) (hm3 : en3 ≤ 100000) (no : Int) (hDb : DebOK I) : RetV Tryz.prog 17 [.slice bv n2 c2, .agg (encEd no ea1 en1 ec1 ea2 en2 ec2 ea3 en3 ec3).toArray] I (.int .i64 (edcF rows no xs es rd)) := by
 intro g H w hw
 refine enter Tryz.func17 rfl Tryz.ntmps17 rfl hw ?_
 have hIc := HLe.refl I
 refine X_seq (X_region ?_)
 refine XO_box rfl rfl rfl (fun b_3 => ?_)
 refine zA ?_
 refine XO_nil (at_then (X_seq (X_region ?_)))
 refine zM ?_
 refine XO_v0 (ev_fieldAddr rfl fld_34_0) rfl rfl rfl ?_
 refine XO_v0 (ev_load rfl sct_3 (fun hg => by exact Cell.h0 rfl)) rfl rfl rfl ?_
 refine XO_v0 (ev_fieldAddr rfl fld_34_1) rfl rfl rfl ?_
 refine XO_v0 (ev_load rfl sct_23 (fun hg => by exact Cell.h0 rfl)) rfl rfl rfl ?_
 refine XO_v0 (ev_fieldAddr rfl fld_34_2) rfl rfl rfl ?_
 refine XO_v0 (ev_load rfl sct_32 (fun hg => by exact Cell.h0 rfl)) rfl rfl rfl ?_
 refine XO_callM (cap := []) (vs := [_, _, _, _]) rfl rfl fun_14 .nil (w_Make hX1 hVn hn2 hX2 hm2 hm1 hDb no) rfl rfl ?_
 rintro vv1 I1 L1 hI1 hMQ
 have hVn := hVn.mono hI1
 have hX1 := hX1.mono hI1
 have hX2 := hX2.mono hI1
 have hX3 := hX3.mono hI1
 have hDb := hDb.mono hI1
 have hIc := hIc.trans hI1
 obtain ⟨rfl, no2, cl2, es2, rd2, a1, q1, c1, a2, q2, c9, a3, q3, c3, rfl, hM1, hM2, hM3, hMy, hMn⟩ := hMQ.opn
 refine zM ?_
 refine XO_v0 (ev_extract rfl rfl) rfl rfl rfl ?_
 refine XO_v0 (ev_extract rfl rfl) rfl rfl rfl ?_
 refine XO_alloc zt_34 rfl rfl (fun b_5 => ?_)
 refine XO_storeA rfl rfl szt_34 rfl rfl rfl rfl (by repeat (first | exact Upd.here | apply Upd.there | apply upd_app)) ?_
 refine zA ?_
 refine XO_nil (at_then ?_)
 refine X_seq ?_
 refine X_seq (X_region ?_)
 refine zM ?_
 refine zC ?_
 refine XO_nil (at_then ?_)
 refine X_cond rfl (fun hc18 => ?_) (fun hc18 => ?_)
 ·
  have hE0 : makE rows no xs es ≠ 0 := by have h := hc18; simpa using h
  refine X_seq (X_region ?_)
  refine zM ?_
  refine zA ?_
  refine XO_nil (at_then ?_)
  refine X_ret ?_
  refine at_then_r ?_
  first
  | exact at_ret1 rfl rfl (fun w hw => ⟨by rw [edc_1 hE0] <;> rfl, (hw.mono hIc).drop⟩)
 ·
  have hE0 : makE rows no xs es = 0 := by have h := hc18; simpa using h
  obtain ⟨-, -, -, rfl⟩ := hMy hE0
  refine X_skip ?_
  refine at_then ?_
  refine X_seq ?_
  refine X_seq (X_region ?_)
  refine XO_v0 (ev_fieldAddr rfl fld_34_3) rfl rfl rfl ?_
  refine XO_v0 (ev_load rfl sct_23 (fun hg => by exact Cell.h1 rfl)) rfl rfl rfl ?_
  refine XO_v0 (ev_fieldAddr rfl fld_34_3) rfl rfl rfl ?_
  refine XO_v0 (ev_load rfl sct_23 (fun hg => by exact Cell.h0 rfl)) rfl rfl rfl ?_
  refine XO_callV0 (cap := []) (vs := [_, _]) rfl rfl fun_29 (w_equal hX3 hM3 hm3) rfl rfl ?_
  refine XO_v0 (ev_not rfl) rfl rfl rfl ?_
  refine XO_nil (at_then ?_)
  refine X_cond rfl (fun hc25 => ?_) (fun hc25 => ?_)
  ·
   have hrd : rd ≠ readsL rows xs es := fun e => by have h := hc25; rw [decide_eq_true e] at h; cases h
   refine X_seq (X_region ?_)
   refine zA ?_
   refine XO_nil (at_then ?_)
   refine X_ret ?_
   refine at_then_r ?_
   first
   | exact at_ret1 rfl rfl (fun w hw => ⟨by rw [edc_2 hE0 hrd] <;> rfl, (hw.mono hIc).drop⟩)
  ·
   have hrd : rd = readsL rows xs es := Decidable.byContradiction fun e => by have h := hc25; rw [decide_eq_false e] at h; cases h
   refine X_skip ?_
   refine at_then ?_
   refine X_seq (X_region ?_)
   refine zA ?_
   refine XO_nil (at_then ?_)
   refine X_ret ?_
   first
   | exact at_ret1 rfl rfl (fun w hw => ⟨by rw [edc_3 hE0 hrd] <;> rfl, (hw.mono hIc).drop⟩)
end Go.Proofs.YthcffaheamikgaaGreatDoor
end
section
namespace Go.Proofs.YthcffaheamikgaaGreatDoor
open Go Go.Kn Go.Proofs
theorem tabR_in {ws : List Wr} : (tabR ws).length ≤ ws.length ∧ ∀ x ∈ tabR ws, x.length ≤ 256 := by
  unfold tabR
  split
  · exact ⟨Nat.zero_le _, fun x hx => by cases hx⟩
  · rename_i h
    refine ⟨by simp, fun x hx => ?_⟩
    obtain ⟨i, _, rfl⟩ := List.mem_map.1 hx
    unfold rowW
    rw [rngL_len]
    exact Nat.le_of_not_gt fun h2 => h (.inr h2)
theorem tab_rows {ws : List Wr} {rows : List (List Int)} (h : tabR ws = rows) (h0 : 0 < rows.length) : rows.length = ws.length := by
  subst h
  unfold tabR at h0 ⊢
  split
  · rename_i h; rw [if_pos h] at h0; simp at h0
  · simp
theorem nz_le {row : List Int} {k : Nat} : nzF row k ≤ k := by
  unfold nzF
  have h1 := List.length_filter_le (fun c : Int => c != 0) (row.take k)
  have h2 := List.length_take_le k row
  omega
theorem one_G (xs : List Sg) : allOne (xs.flatMap encG) = true := allOne_flat (fun _ => rfl) xs
/-! ### What has been passed -/
def atN (rows : List (List Int)) (k i : Nat) : Nat → Nat := fun j => if j < i then nzF (rows.getD j []) (k + 1) else nzF (rows.getD j []) k
theorem atN_self {rows : List (List Int)} {k i : Nat} : natF (atN rows k i) i = ((nzF (rows.getD i []) k : Nat) : Int) := by unfold natF atN; rw [if_neg (by omega)]
theorem atN_zero {rows : List (List Int)} : (fun _ => 0) = atN rows 0 0 := by funext j; unfold atN; rw [if_neg (by omega)]; rfl
theorem atN_yes {rows : List (List Int)} {k i : Nat} {v : Nat} (h : nzF (rows.getD i []) (k + 1) = v) : updF (atN rows k i) i v = atN rows k (i + 1) := by
  funext j
  by_cases e : j = i
  · subst e; rw [updF_same]; unfold atN; rw [if_pos (by omega), h]
  · rw [updF_ne e]; unfold atN
    by_cases h2 : j < i
    · rw [if_pos h2, if_pos (by omega)]
    · rw [if_neg h2, if_neg (by omega)]
theorem atN_no {rows : List (List Int)} {k i : Nat} (h : nzF (rows.getD i []) (k + 1) = nzF (rows.getD i []) k) : atN rows k i = atN rows k (i + 1) := by
  funext j
  unfold atN
  by_cases e : j = i
  · subst e; rw [if_neg (by omega), if_pos (by omega), h]
  · by_cases h2 : j < i
    · rw [if_pos h2, if_pos (by omega)]
    · rw [if_neg h2, if_neg (by omega)]
theorem atN_next {rows : List (List Int)} {k n : Nat} : rngL n (natF (atN rows k n)) = rngL n (natF (atN rows (k + 1) 0)) := by
  unfold rngL
  refine List.map_congr_left fun j hj => ?_
  unfold natF atN
  rw [if_pos (List.mem_range.1 hj), if_neg (by omega)]
/-! ### The steps -/
theorem sg_zero {ws : List Wr} {rows : List (List Int)} {k i : Nat} {code : Int} (h : ((rows.getD i []).getD k 0 == 0) = true) : sgK ws rows k code i = sgK ws rows k code (i + 1) := by
  show _ = sgSt code (sgK ws rows k code i) ((rows.getD i []).getD k 0) (ydF ws rows i k)
  unfold sgSt; rw [if_pos h]
theorem sg_lost {ws : List Wr} {rows : List (List Int)} {k i : Nat} {code : Int} {s : SgS} (hs : s = sgK ws rows k code i) (h : ((rows.getD i []).getD k 0 == 0) = false) (hl : (ydF ws rows i k).lost = true) : { s with lost := true } = sgK ws rows k code (i + 1) := by
  show _ = sgSt code (sgK ws rows k code i) ((rows.getD i []).getD k 0) (ydF ws rows i k)
  unfold sgSt; rw [if_neg (by rw [h]; decide), if_pos hl, hs]
theorem sg_yes {ws : List Wr} {rows : List (List Int)} {k i : Nat} {code : Int} {s : SgS} {y : Rd} (hs : s = sgK ws rows k code i) (h : ((rows.getD i []).getD k 0 == 0) = false) (hy : ydF ws rows i k = y) (hl : y.lost = false) (he : (s.ex.isNone && (rows.getD i []).getD k 0 == code) = true) :
    (⟨some y.sg, orS s.so y.sg, s.many + 1, s.lost⟩ : SgS) = sgK ws rows k code (i + 1) := by
  show _ = sgSt code (sgK ws rows k code i) ((rows.getD i []).getD k 0) (ydF ws rows i k)
  unfold sgSt; rw [if_neg (by rw [h]; decide), hy, if_neg (by rw [hl]; decide), ← hs, if_pos he]
theorem sg_no {ws : List Wr} {rows : List (List Int)} {k i : Nat} {code : Int} {s : SgS} {y : Rd} (hs : s = sgK ws rows k code i) (h : ((rows.getD i []).getD k 0 == 0) = false) (hy : ydF ws rows i k = y) (hl : y.lost = false) (he : (s.ex.isNone && (rows.getD i []).getD k 0 == code) = false) :
    (⟨s.ex, orS s.so y.sg, s.many + 1, s.lost⟩ : SgS) = sgK ws rows k code (i + 1) := by
  show _ = sgSt code (sgK ws rows k code i) ((rows.getD i []).getD k 0) (ydF ws rows i k)
  unfold sgSt; rw [if_neg (by rw [h]; decide), hy, if_neg (by rw [hl]; decide), ← hs, if_neg (by rw [he]; decide)]
theorem sg_many {ws : List Wr} {rows : List (List Int)} {k : Nat} {code : Int} : ∀ i, (sgK ws rows k code i).many ≤ i
  | 0 => Nat.le_refl _
  | i + 1 => by
    have ih := sg_many (ws := ws) (rows := rows) (k := k) (code := code) i
    show (sgSt code (sgK ws rows k code i) ((rows.getD i []).getD k 0) (ydF ws rows i k)).many ≤ i + 1
    unfold sgSt
    split
    · omega
    · split
      · show (sgK ws rows k code i).many ≤ i + 1; omega
      · show (sgK ws rows k code i).many + 1 ≤ i + 1; omega
theorem out_skip {ws : List Wr} {rows : List (List Int)} {k : Nat} {code : Int} (h : (code == 0) = true) : outK ws rows k code = .skip := by unfold outK; rw [if_pos h]
theorem out_none {ws : List Wr} {rows : List (List Int)} {k : Nat} {code : Int} {s : SgS} (h : (code == 0) = false) (hs : s = sgK ws rows k code rows.length) (hn : s.ex.or s.so = none) : outK ws rows k code = .err := by
  subst hs; unfold outK; rw [if_neg (by rw [h]; decide), hn]
theorem out_bad {ws : List Wr} {rows : List (List Int)} {k : Nat} {code : Int} {s : SgS} {y : Sg} (h : (code == 0) = false) (hs : s = sgK ws rows k code rows.length) (hn : s.ex.or s.so = some y) (he : (signE code != 0) = true) : outK ws rows k code = .err := by
  subst hs; unfold outK; rw [if_neg (by rw [h]; decide), hn]; simp only; rw [if_pos he]
theorem out_sg {ws : List Wr} {rows : List (List Int)} {k : Nat} {code : Int} {s : SgS} {y : Sg} (h : (code == 0) = false) (hs : s = sgK ws rows k code rows.length) (hn : s.ex.or s.so = some y) (he : (signE code != 0) = false) :
    outK ws rows k code = .sg (putS k code y ((decide ((ws.length : Int) > 1) && (s.many : Int) == 1) && !s.lost)) := by
  subst hs; unfold outK; rw [if_neg (by rw [h]; decide), hn]; simp only; rw [if_neg (by rw [he]; decide)]
theorem ydF_at {ws : List Wr} {rows : List (List Int)} {i k : Nat} {x : Wr} {y : Rd} (hx : ws[i]? = some x) (hy : x.rs[nzF (rows.getD i []) k]? = some y) : ydF ws rows i k = y := by
  unfold ydF; rw [hx]; exact getD_of hy
theorem Cells.two {I : HMap} {b t off : Nat} {vs : List Value} {u u' : Value} {fz : Nat × Nat} {l : Go.Kn.Loc} (h : I b = some (.cells vs.toArray t fz)) (h0 : vs[off]? = some u) (h1 : vs[off + 1]? = some u') : Cells I l b off [u, u'] := fun j v hj => by
  rcases j with _ | _ | j
  · cases hj; exact .imm h (by rw [lget_eq]; simpa using h0)
  · cases hj; exact .imm h (by rw [lget_eq]; simpa using h1)
  · simp at hj
/-- A pointer to a reading's sign. -/
def PtrOK (t : Nat) (I : HMap) (p : Option Addr) (s : Option Sg) : Prop := match s with
  | none => p = none
  | some x => ∃ b l, p = some ⟨b, 1, none⟩ ∧ I b = some (.cells (encRd ⟨l, x⟩).toArray t (0, 0))
theorem PtrOK.mono {t : Nat} {I I' : HMap} {p : Option Addr} {s : Option Sg} (h : PtrOK t I p s) (hI : HLe I I') : PtrOK t I' p s := by
  cases s with
  | none => exact h
  | some x => obtain ⟨b, l, h1, h2⟩ := h; exact ⟨b, l, h1, hI _ _ h2⟩
theorem PtrOK.isNone {t : Nat} {I : HMap} {p : Option Addr} {s : Option Sg} (h : PtrOK t I p s) : p.isNone = s.isNone := by
  cases s with
  | none => have h : p = none := h; subst h; rfl
  | some x => obtain ⟨b, l, rfl, h2⟩ := h; rfl
theorem PtrOK.new {t : Nat} {I : HMap} {b : Nat} {y : Rd} (h : I b = some (.cells (encRd y).toArray t (0, 0))) : PtrOK t I (some ⟨b, 0 + 1, none⟩) (some y.sg) := ⟨b, y.lost, rfl, h⟩
theorem PtrOK.orN {t : Nat} {I : HMap} {p q : Option Addr} {s : Option Sg} {y : Sg} (h : PtrOK t I p s) (hp : p.isNone = true) (hq : PtrOK t I q (some y)) : PtrOK t I q (orS s y) := by
  have := h.isNone
  rw [hp] at this
  cases s with
  | none => exact hq
  | some x => cases this
theorem PtrOK.orS {t : Nat} {I : HMap} {p : Option Addr} {s : Option Sg} {y : Sg} (h : PtrOK t I p s) (hp : p.isNone = false) : PtrOK t I p (orS s y) := by
  have := h.isNone
  rw [hp] at this
  cases s with
  | none => cases this
  | some x => exact h
theorem PtrOK.orY {t : Nat} {I : HMap} {p q : Option Addr} {s u : Option Sg} (h : PtrOK t I p s) (hp : p.isNone = true) (hq : PtrOK t I q u) : PtrOK t I q (s.or u) := by
  have := h.isNone
  rw [hp] at this
  cases s with
  | none => exact hq
  | some x => cases this
theorem PtrOK.orX {t : Nat} {I : HMap} {p : Option Addr} {s u : Option Sg} (h : PtrOK t I p s) (hp : p.isNone = false) : PtrOK t I p (s.or u) := by
  have := h.isNone
  rw [hp] at this
  cases s with
  | none => cases this
  | some x => exact h
theorem PtrOK.at {t : Nat} {I : HMap} {p : Option Addr} {s : Option Sg} (h : PtrOK t I p s) (hp : p.isNone = false) : ∃ x b l, s = some x ∧ p = some ⟨b, 1, none⟩ ∧ I b = some (.cells (encRd ⟨l, x⟩).toArray t (0, 0)) := by
  have := h.isNone
  rw [hp] at this
  cases s with
  | none => cases this
  | some x => obtain ⟨b, l, h1, h2⟩ := h; exact ⟨x, b, l, rfl, h1, h2⟩
theorem PtrOK.none {t : Nat} {I : HMap} {p : Option Addr} {s : Option Sg} (h : PtrOK t I p s) (hp : p.isNone = true) : s = Option.none := by
  have := h.isNone
  rw [hp] at this
  cases s with
  | none => rfl
  | some x => cases this
end Go.Proofs.YthcffaheamikgaaGreatDoor
end
section
namespace Go.Proofs.YthcffaheamikgaaGreatDoor
open Go Go.Kn Go.Proofs
theorem fun_16 : Fun Tryz.prog 16 := .of Tryz.func16 (by kernel_rfl) (by kernel_rfl)
theorem fun_17 : Fun Tryz.prog 17 := .of Tryz.func17 (by kernel_rfl) (by kernel_rfl)
theorem fun_28 : Fun Tryz.prog 28 := .of Tryz.func28 (by kernel_rfl) (by kernel_rfl)
theorem szt_46 : SzT Tryz.prog 46 2 := .of (by kernel_rfl)
theorem und_70 : Tryz.prog.underlying 70 = some (.pointer 48) := by kernel_rfl
def SgnQ (ws : List Wr) (rows : List (List Int)) (no : Int) (cl : List Int) (es : List Em) (rd : List Int) : Value → HMap → Go.Kn.Loc → Prop := fun v I' L => L = [] ∧ ∃ av c, v = .tuple #[.slice av (sigL ws rows no cl es rd).length c, .int .i64 (sigE ws rows no cl es rd)] ∧ Sl I' 14 encG av (sigL ws rows no cl es rd).length c (sigL ws rows no cl es rd)
theorem SgnQ.bad {ws : List Wr} {rows : List (List Int)} {no : Int} {cl : List Int} {es : List Em} {rd : List Int} {I' : HMap} {e : Int} (h : sigE ws rows no cl es rd = e) (he : e ≠ 0) : SgnQ ws rows no cl es rd (.tuple #[.slice none 0 0, .int .i64 e]) I' [] := by
 have h0 := sig_bad (show sigE ws rows no cl es rd ≠ 0 by rw [h]; exact he)
 exact ⟨rfl, none, 0, by rw [h0, h]; rfl, by rw [h0]; exact .nil⟩
set_option maxHeartbeats 40000000 in
theorem w_Signs {I : HMap} {av : Option Addr} {n c : Nat} {ws : List Wr} (hW0 : SlW I av n c ws) (hn : n ≤ 100000) {bv : Option Addr} {n2 c2 : Nat} {rows : List (List Int)} (hVn : SlN I bv n2 c2 rows) (hn2 : n2 ≤ 100000) {ea1 : Option Addr} {en1 ec1 : Nat} {ea2 : Option Addr} {en2 ec2 : Nat} {ea3 : Option Addr} {en3 ec3 : Nat} {xs : List Int} {es : List Em} {rd : List Int} (hX1 : Sl I 1 encI ea1 en1 ec1 xs) (hX2 : Sl I 3 encEm ea2 en2 ec2 es) (hX3 : Sl I 1 encI ea3 en3 ec3 rd) (hm1 : en1 ≤ 100000) (hm2 : en2 ≤ 100000) (hm3 : en3 ≤ 100000) (no : Int) (hDb : DebOK I) (hnz : tabR ws = rows → NzOK ws rows) : RetM Tryz.prog 11 [.slice av n c, .slice bv n2 c2, .agg (encEd no ea1 en1 ec1 ea2 en2 ec2 ea3 en3 ec3).toArray] I [] (SgnQ ws rows no xs es rd) := by
 intro g H w hw
 refine enter Tryz.func11 rfl Tryz.ntmps11 rfl hw ?_
 have hIc := HLe.refl I
 obtain ⟨hds, hW⟩ := id hW0
 have hH := hW.1
 have hlW := hW.len
 subst hlW
 have hlV := hVn.len
 subst hlV
 have hlX3 := hX3.len
 subst hlX3
 refine X_seq (X_region ?_)
 refine XO_box rfl rfl rfl (fun b_5 => ?_)
 refine zA ?_
 refine zA ?_
 refine XO_nil (at_then ?_)
 refine X_scope ?_
 refine X_seq (X_region ?_)
 refine zM ?_
 refine XO_callM (cap := []) (vs := [_]) rfl rfl fun_16 .nil (w_Table hW0 hn) rfl rfl ?_
 rintro vv1 I1 L1 hI1 ⟨rfl, av8, c8, rfl, hTb⟩
 have hW0 := hW0.mono hI1
 have hW := hW.mono hI1
 have hH := hH.mono hI1
 have hVn := hVn.mono hI1
 have hX1 := hX1.mono hI1
 have hX2 := hX2.mono hI1
 have hX3 := hX3.mono hI1
 have hDb := hDb.mono hI1
 have hIc := hIc.trans hI1
 refine zM ?_
 refine XO_v0 (ev_extract rfl rfl) rfl rfl rfl ?_
 refine XO_v0 (ev_extract rfl rfl) rfl rfl rfl ?_
 refine zA ?_
 refine zA ?_
 refine XO_nil (at_then ?_)
 refine X_seq ?_
 refine X_seq (X_region ?_)
 refine zM ?_
 refine zC ?_
 refine XO_nil (at_then ?_)
 refine X_cond rfl (fun hc28 => ?_) (fun hc28 => ?_)
 ·
  have hcT : tabE ws ≠ 0 := by have h := hc28; simpa using h
  refine X_seq (X_region ?_)
  refine zM ?_
  refine zA ?_
  refine zA ?_
  refine XO_nil (at_then ?_)
  refine X_ret ?_
  refine at_then_r ?_
  refine at_scope_r ?_
  exact at_ret2 rfl rfl rfl (fun w hw => ⟨_, _, [], rfl, hIc, hw.drop, SgnQ.bad (sig_1 hcT) hcT⟩)
 ·
  have hcT : tabE ws = 0 := by have h := hc28; simpa using h
  refine X_skip ?_
  refine at_then ?_
  refine X_seq ?_
  refine X_seq (X_region ?_)
  refine zM ?_
  refine zM ?_
  refine XO_callV0 (cap := []) (vs := [_, _, _]) rfl rfl fun_28 (w_equalN hTb hVn (by have := (tabR_in (ws := ws)).1; omega) (fun x hx => Nat.le_trans (tabR_in.2 x hx) (by decide))) rfl rfl ?_
  refine XO_v0 (ev_not rfl) rfl rfl rfl ?_
  refine XO_nil (at_then ?_)
  refine X_cond rfl (fun hc33 => ?_) (fun hc33 => ?_)
  ·
   have hne : tabR ws ≠ rows := fun e => by have h := hc33; rw [decide_eq_true e] at h; cases h
   refine X_seq (X_region ?_)
   refine zA ?_
   refine zA ?_
   refine XO_nil (at_then ?_)
   refine X_ret ?_
   refine at_then_r ?_
   refine at_scope_r ?_
   exact at_ret2 rfl rfl rfl (fun w hw => ⟨_, _, [], rfl, hIc, hw.drop, SgnQ.bad (sig_2 hcT hne) (by decide)⟩)
  ·
   have heq : tabR ws = rows := Decidable.byContradiction fun e => by have h := hc33; rw [decide_eq_false e] at h; cases h
   refine X_skip ?_
   refine at_then ?_
   refine X_seq ?_
   refine X_seq (X_region ?_)
   refine zM ?_
   refine XO_v0 (ev_loadA rfl agt_34 (fun hg => by exact Cells.g0) rfl) rfl rfl rfl ?_
   refine XO_callV0 (cap := []) (vs := [_, _]) rfl rfl fun_17 (w_edChk hVn hn2 hX1 hX2 hX3 hm1 hm2 hm3 no hDb) rfl rfl ?_
   refine zA ?_
   refine XO_nil (at_then (X_seq (X_region ?_)))
   refine zM ?_
   refine zC ?_
   refine XO_nil (at_then ?_)
   refine X_cond rfl (fun hc38 => ?_) (fun hc38 => ?_)
   ·
    have hcE : edcF rows no xs es rd ≠ 0 := by have h := hc38; simpa using h
    refine X_seq (X_region ?_)
    refine zM ?_
    refine zA ?_
    refine zA ?_
    refine XO_nil (at_then ?_)
    refine X_ret ?_
    refine at_then_r ?_
    refine at_scope_r ?_
    exact at_ret2 rfl rfl rfl (fun w hw => ⟨_, _, [], rfl, hIc, hw.drop, SgnQ.bad (sig_3 hcT heq hcE) hcE⟩)
   ·
    have hcE : edcF rows no xs es rd = 0 := by have h := hc38; simpa using h
    obtain ⟨hm0, hrd⟩ := edc_ok hcE
    have hco := mak_ok hm0
    obtain ⟨hr1, hr6, hr64, hrr⟩ := rows_ok (cost_rows hco)
    have hlen := tab_rows heq (by omega)
    have hrdl : rd.length = (rows.getD 0 []).length := by rw [hrd]; exact reads_len
    have hnz := hnz heq
    obtain ⟨vhs, hV⟩ := id hVn
    have hVh := hV.1
    refine X_skip ?_
    refine at_then ?_
    refine X_seq ?_
    refine X_freeze (b := b_5) (by repeat (first | exact Take.here | apply Take.there)) (fun I2 hI2 hb2 => ?_)
    have hW0 := hW0.mono hI2
    have hW := hW.mono hI2
    have hH := hH.mono hI2
    have hVn := hVn.mono hI2
    have hX1 := hX1.mono hI2
    have hX2 := hX2.mono hI2
    have hX3 := hX3.mono hI2
    have hDb := hDb.mono hI2
    have hTb := hTb.mono hI2
    have hV := hV.mono hI2
    have hVh := hVh.mono hI2
    have hIc := hIc.trans hI2
    have hC5 : Cell I2 [] b_5 3 (.slice ea3 rd.length ec3) := .imm hb2 rfl
    refine X_region ?_
    refine zM ?_
    refine XO_v0 (ev_lenS rfl slt_31) rfl rfl rfl ?_
    refine XO_makeSlice mkt_23 rfl rfl (by omega) (by decide) rfl rfl (fun b_42 => ?_)
    refine zA ?_
    refine XO_nil ?_
    rw [show ((ws.length : Nat) : Int).toNat = ws.length from rfl, cellsI_new, rngL_zero, nat_zero, atN_zero (rows := rows)]
    refine at_then ?_
    refine X_seq ?_
    refine X_label ?_
    refine at_then ?_
    refine X_seq ?_
    refine X_seq ?_
    refine X_locEq (loc' := [] ++ [(b_42, .cells (cellsI (rngL ws.length (natF (atN rows 0 0)))) 3 (0, 0))]) rfl ?_
    refine X_region ?_
    refine XO_v0 (ev_fieldAddr rfl fld_34_3) rfl rfl rfl ?_
    refine XO_v0 (ev_load rfl sct_23 (fun hg => by exact hC5.any)) rfl rfl rfl ?_
    refine XO_v0 (ev_lenS rfl slt_23) rfl rfl rfl ?_
    refine zM ?_
    refine XO_nil (at_then ?_)
    refine X_block ?_
    refine X_loopT [(0, _), (1, _), (10, _), (44, _), (45, _)] (.cons rfl (.cons rfl (.cons rfl (.cons rfl (.cons rfl .nil))))) (fun T L0 mz E I' loc' => ∃ (k : Nat) (l : List Sg) (v6 : Value) (L : Go.Kn.Loc), mz = rd.length - k ∧ E = (6, v6) :: (46, .int .i64 k) :: T ∧ HLe I2 I' ∧ L ++ [(b_42, .cells (cellsI (rngL ws.length (natF (atN rows k 0)))) 3 (0, 0))] = loc' ∧ k ≤ rd.length ∧ sgnK ws rows rd k = some l ∧ OwnS 48 14 v6 l.length (l.flatMap encG) L ∧ l.length ≤ k) _ _ _ _ ⟨0, [], _, [], rfl, rfl, HLe.refl _, rfl, Nat.zero_le _, rfl, OwnS.nil, Nat.le_refl _⟩ (.cons rfl (.cons rfl (.cons rfl (.cons rfl (.cons rfl (.cons rfl (.cons rfl .nil))))))) (HLe.refl _) rfl ?_
    rintro mz E J3 loc' ⟨k, l, v6, L, rfl, rfl, hJ, rfl, hk, hsg, hO, hlk⟩
    have hW0 := hW0.mono hJ
    have hW := hW.mono hJ
    have hH := hH.mono hJ
    have hVn := hVn.mono hJ
    have hX1 := hX1.mono hJ
    have hX2 := hX2.mono hJ
    have hX3 := hX3.mono hJ
    have hDb := hDb.mono hJ
    have hTb := hTb.mono hJ
    have hV := hV.mono hJ
    have hVh := hVh.mono hJ
    have hC5 := hC5.mono hJ
    have hIc := hIc.trans hJ
    have hB0 := hJ
    refine X_seq (X_region ?_)
    refine zC ?_
    refine XO_nil (at_then ?_)
    refine X_seq ?_
    refine X_cond rfl (fun hc47 => ?_) (fun hc47 => ?_)
    ·
     have hlt_k : k < rd.length := by have h := hc47; simp at h; omega
     obtain ⟨code, hk⟩ := hX3.at hlt_k
     refine X_skip ?_
     refine at_then ?_
     refine X_seq ?_
     refine X_block ?_
     refine X_seq (X_region ?_)
     refine zM ?_
     refine XO_v0 (ev_indexSl rfl rfl slt_23 hX3 (fun hg => by first | omega | (simp [conj] at hg; omega))) rfl rfl rfl ?_
     refine XO_v0 (ev_load rfl sct_3 (fun hg => by exact Sl.get0 hX3 hk rfl)) rfl rfl rfl ?_
     refine zA ?_
     refine zA ?_
     refine XO_nil (at_then (X_seq (X_region ?_)))
     refine zA ?_
     refine zA ?_
     refine XO_nil (at_then (X_seq (X_region ?_)))
     refine zA ?_
     refine zA ?_
     refine XO_nil (at_then ?_)
     refine X_seq ?_
     refine X_seq (X_region ?_)
     refine zM ?_
     refine XO_v0 (ev_lenS rfl slt_22) rfl rfl rfl ?_
     refine zM ?_
     refine XO_nil (at_then ?_)
     refine X_block ?_
     refine X_loopT [(0, _), (1, _), (6, _), (10, _), (11, _), (12, _), (44, _), (45, _), (46, _), (51, _), (52, _)] (.cons rfl (.cons rfl (.cons rfl (.cons rfl (.cons rfl (.cons rfl (.cons rfl (.cons rfl (.cons rfl (.cons rfl (.cons rfl .nil))))))))))) (fun T L0 mz E I' loc' => ∃ (i : Nat) (s : SgS) (p13 : Option Addr) (p14 : Option Addr), mz = rows.length - i ∧ E = (13, .pointer p13) :: (14, .pointer p14) :: (15, .int .i64 ((s.many : Nat) : Int)) :: (16, .bool s.lost) :: (53, .int .i64 i) :: T ∧ HLe J3 I' ∧ L ++ [(b_42, .cells (cellsI (rngL ws.length (natF (atN rows k i)))) 3 (0, 0))] = loc' ∧ i ≤ rows.length ∧ s = sgK ws rows k code i ∧ PtrOK 51 I' p13 s.ex ∧ PtrOK 51 I' p14 s.so) _ _ _ _ ⟨0, ⟨none, none, 0, false⟩, none, none, rfl, rfl, HLe.refl _, rfl, Nat.zero_le _, rfl, rfl, rfl⟩ (.cons rfl (.cons rfl (.cons rfl (.cons rfl (.cons rfl (.cons rfl (.cons rfl (.cons rfl (.cons rfl (.cons rfl (.cons rfl (.cons rfl (.cons rfl (.cons rfl (.cons rfl (.cons rfl .nil)))))))))))))))) (HLe.refl _) rfl ?_
     rintro mz E J4 loc' ⟨i, s, p13, p14, rfl, rfl, hJ, rfl, hi, hs, hp13, hp14⟩
     have hW0 := hW0.mono hJ
     have hW := hW.mono hJ
     have hH := hH.mono hJ
     have hVn := hVn.mono hJ
     have hX1 := hX1.mono hJ
     have hX2 := hX2.mono hJ
     have hX3 := hX3.mono hJ
     have hDb := hDb.mono hJ
     have hTb := hTb.mono hJ
     have hV := hV.mono hJ
     have hVh := hVh.mono hJ
     have hC5 := hC5.mono hJ
     have hIc := hIc.trans hJ
     have hB0 := hB0.trans hJ
     have hB2 := hJ
     refine X_seq (X_region ?_)
     refine zC ?_
     refine XO_nil (at_then ?_)
     refine X_seq ?_
     refine X_cond rfl (fun hc54 => ?_) (fun hc54 => ?_)
     ·
      have hlt_i : i < rows.length := by have h := hc54; simp at h; omega
      obtain ⟨vx, row, hvx, hvr, hQ⟩ := hV.at hlt_i
      obtain ⟨wx, xw, hwx, hxw, e1, e2, hR⟩ := hW.at (show i < ws.length by omega)
      have hrl := (hrr row (List.mem_of_getElem? hvr)).1
      have hQl := hQ.len
      have hRl := hR.len
      have hrk : row[k]? = some (row.getD k 0) := some_getD rfl (by omega)
      have hrk0 := hrk
      have hrg2 : rows.getD i [] = row := getD_of hvr
      have hrg : (rows.getD i []).getD k 0 = row.getD k 0 := by rw [hrg2]
      have hnzk := nz_le (row := rows.getD i []) (k := k)
      have hms := sg_many (ws := ws) (rows := rows) (k := k) (code := code) i
      rw [← hs] at hms
      refine X_skip ?_
      refine at_then ?_
      refine X_seq ?_
      refine X_block ?_
      refine X_seq (X_region ?_)
      refine zM ?_
      refine XO_v0 (ev_indexSl rfl rfl slt_22 hVh (fun hg => by first | omega | (simp [conj] at hg; omega))) rfl rfl rfl ?_
      refine XO_v0 (ev_load rfl sct_23 (fun hg => by exact Sl.get0 hVh hvx rfl)) rfl rfl rfl ?_
      refine zA ?_
      refine zA ?_
      refine XO_nil (at_then ?_)
      refine X_seq ?_
      refine X_seq (X_region ?_)
      refine zM ?_
      refine zM ?_
      refine XO_v0 (ev_indexSl rfl rfl slt_23 hQ (fun hg => by first | omega | (simp [conj] at hg; omega))) rfl rfl rfl ?_
      refine XO_v0 (ev_load rfl sct_3 (fun hg => by exact Sl.get0 hQ hrk0 rfl)) rfl rfl rfl ?_
      refine zC ?_
      refine XO_nil (at_then ?_)
      refine X_cond rfl (fun hc62 => ?_) (fun hc62 => ?_)
      ·
       have hc62 : (row.getD k 0 == 0) = true := hc62
       refine X_locEq (loc' := L ++ [(b_42, .cells (cellsI (rngL ws.length (natF (atN rows k (i + 1))))) 3 (0, 0))]) (by rw [atN_no (by rw [hrg2]; exact nzF_no hrk hc62)]) ?_
       refine X_exit ?_
       refine at_then_e ?_
       refine at_block_hit ?_
       refine at_then ?_
       refine X_region ?_
       refine zB ?_
       refine zM ?_
       refine XO_nil ?_
       first
       | exact at_met2 _ _ ⟨rows.length - (i + 1), by omega, i + 1, s, p13, p14, rfl, rfl, hB2, rfl, by omega, by rw [hs]; exact sg_zero (by rw [hrg]; exact hc62), hp13, hp14⟩ (.cons rfl (.cons rfl (.cons rfl (.cons rfl (.cons rfl (.cons rfl (.cons rfl (.cons rfl (.cons rfl (.cons rfl (.cons rfl (.cons rfl (.cons rfl (.cons rfl (.cons rfl (.cons rfl .nil)))))))))))))))) (by repeat (first | exact .refl | exact subL_left | refine subL_app ?_ | refine .drop ?_ | refine subL_add ?_))
      ·
       have hc62 : (row.getD k 0 == 0) = false := hc62
       have hnzi := hnz i xw row hxw hvr k (by omega) (by have h := hc62; simpa using h)
       obtain ⟨y, hy⟩ : ∃ y, xw.rs[nzF (rows.getD i []) k]? = some y := ⟨_, List.getElem?_eq_getElem (by rw [hrg2]; exact hnzi)⟩
       have hyd : ydF ws rows i k = y := ydF_at hxw hy
       have hnzi2 : nzF (rows.getD i []) k < xw.rs.length := by rw [hrg2]; exact hnzi
       refine X_skip ?_
       refine at_then ?_
       refine X_seq ?_
       have hD := HLe.refl J4
       refine X_drawC mixed ?_
       refine XD_take 0 rfl (ev_move rfl) (.none rfl) rfl rfl rfl (by kernel_rfl) (by kernel_rfl) (by kernel_rfl) noP_ok hD (by repeat (first | exact .refl | exact subL_nil | refine .keep ?_ | refine .drop ?_ | refine subL_add ?_)) ?_
       refine XD_take 1 rfl (ev_move rfl) (.none rfl) rfl rfl rfl (by kernel_rfl) (by kernel_rfl) (by kernel_rfl) noP_ok hD (by repeat (first | exact .refl | exact subL_nil | refine .keep ?_ | refine .drop ?_ | refine subL_add ?_)) ?_
       refine XD_take 2 rfl (ev_indexSl rfl rfl slt_31 hH (fun hg => by first | omega | (simp [conj] at hg; omega))) (.none rfl) rfl rfl rfl (by kernel_rfl) (by kernel_rfl) (by kernel_rfl) noP_ok hD (by repeat (first | exact .refl | exact subL_nil | refine .keep ?_ | refine .drop ?_ | refine subL_add ?_)) ?_
       refine XD_take 3 rfl (ev_fieldAddr rfl fld_54_2) (.none rfl) rfl rfl rfl (by kernel_rfl) (by kernel_rfl) (by kernel_rfl) noP_ok hD (by repeat (first | exact .refl | exact subL_nil | refine .keep ?_ | refine .drop ?_ | refine subL_add ?_)) ?_
       refine XD_take 4 rfl (ev_load rfl sct_52 (fun hg => by exact Sl.get hH hwx rfl)) (.none rfl) rfl rfl rfl (by kernel_rfl) (by kernel_rfl) (by kernel_rfl) noP_ok hD (by repeat (first | exact .refl | exact subL_nil | refine .keep ?_ | refine .drop ?_ | refine subL_add ?_)) ?_
       refine XD_take 5 rfl (ev_move rfl) (.none rfl) rfl rfl rfl (by kernel_rfl) (by kernel_rfl) (by kernel_rfl) noP_ok hD (by repeat (first | exact .refl | exact subL_nil | refine .keep ?_ | refine .drop ?_ | refine subL_add ?_)) ?_
       refine XD_take 6 rfl (ev_move rfl) (.none rfl) rfl rfl rfl (by kernel_rfl) (by kernel_rfl) (by kernel_rfl) noP_ok hD (by repeat (first | exact .refl | exact subL_nil | refine .keep ?_ | refine .drop ?_ | refine subL_add ?_)) ?_
       refine XD_take 7 rfl (ev_indexOwn rfl rfl slt_23 (fun hg => by first | omega | (simp [conj] at hg; omega))) (.none rfl) rfl rfl rfl (by kernel_rfl) (by kernel_rfl) (by kernel_rfl) noP_ok hD (by repeat (first | exact .refl | exact subL_nil | refine .keep ?_ | refine .drop ?_ | refine subL_add ?_)) ?_
       refine XD_take 8 rfl (ev_load rfl sct_3 (fun hg => by exact Cell.app (cellI_at (k := i) (rngL_at (show i < _ by omega))))) (.none rfl) rfl rfl rfl (by kernel_rfl) (by kernel_rfl) (by kernel_rfl) noP_ok hD (by repeat (first | exact .refl | exact subL_nil | refine .keep ?_ | refine .drop ?_ | refine subL_add ?_)) ?_
       rw [atN_self]
       refine XD_take 9 rfl (ev_indexSl rfl rfl slt_52 hR (fun hg => by first | omega | (simp [conj] at hg; omega))) (.none rfl) rfl rfl rfl (by kernel_rfl) (by kernel_rfl) (by kernel_rfl) noP_ok hD (by repeat (first | exact .refl | exact subL_nil | refine .keep ?_ | refine .drop ?_ | refine subL_add ?_)) ?_
       refine XD_take 10 rfl (ev_loadA rfl agt_51 (fun hg => by exact Sl.getA hR hy) rfl) (.none rfl) rfl rfl rfl (by kernel_rfl) (by kernel_rfl) (by kernel_rfl) noP_ok hD (by repeat (first | exact .refl | exact subL_nil | refine .keep ?_ | refine .drop ?_ | refine subL_add ?_)) ?_
       refine XD_one 11 rfl (by kernel_rfl) ?_
       refine XO_alloc zt_51 rfl rfl (fun b_19 => ?_)
       refine XO_nil ?_
       refine zD hD ?_
       refine XD_one 12 rfl (by kernel_rfl) ?_
       refine XO_storeA rfl rfl szt_51 rfl rfl rfl rfl (by repeat (first | exact Upd.here | apply Upd.there | apply upd_app)) ?_
       refine XO_nil ?_
       refine zD hD ?_
       refine XD_done (by kernel_rfl) ?_
       refine at_noP ?_
       refine at_then ?_
       refine X_seq (X_region ?_)
       refine zM ?_
       refine zM ?_
       refine XO_v0 (ev_indexOwn rfl rfl slt_23 (fun hg => by first | omega | (simp [conj] at hg; omega))) rfl rfl rfl ?_
       refine XO_v0 (ev_load rfl sct_3 (fun hg => by exact Cell.there (Cell.app (cellI_at (k := i) (rngL_at (show i < _ by omega)))))) rfl rfl rfl ?_
       rw [atN_self]
       refine zB ?_
       refine XO_v0 (ev_indexOwn rfl rfl slt_23 (fun hg => by first | omega | (simp [conj] at hg; omega))) rfl rfl rfl ?_
       refine XO_store rfl rfl szt_3 rfl rfl (by repeat (first | exact Upd.here | apply Upd.there | apply upd_app)) (bltN (by rw [rngL_len]; omega)) ?_
       refine XO_nil ?_
       rw [cellsI_set, rngL_set, show ((nzF (rows.getD i []) k : Nat) : Int) + 1 = ((nzF (rows.getD i []) k + 1 : Nat) : Int) from rfl, nat_upd, atN_yes (by rw [hrg2]; exact nzF_yes hrk hc62)]
       refine at_then ?_
       refine X_seq ?_
       refine X_seq ?_
       refine X_freeze (b := b_19) (by repeat (first | exact Take.here | apply Take.there)) (fun I5 hI5 hb19 => ?_)
       have hW0 := hW0.mono hI5
       have hW := hW.mono hI5
       have hH := hH.mono hI5
       have hVn := hVn.mono hI5
       have hX1 := hX1.mono hI5
       have hX2 := hX2.mono hI5
       have hX3 := hX3.mono hI5
       have hDb := hDb.mono hI5
       have hTb := hTb.mono hI5
       have hV := hV.mono hI5
       have hVh := hVh.mono hI5
       have hC5 := hC5.mono hI5
       have hp13 := hp13.mono hI5
       have hp14 := hp14.mono hI5
       have hQ := hQ.mono hI5
       have hR := hR.mono hI5
       have hIc := hIc.trans hI5
       have hB0 := hB0.trans hI5
       have hB2 := hB2.trans hI5
       have hp19 := PtrOK.new hb19
       refine X_region ?_
       refine XO_v0 (ev_fieldAddr rfl fld_51_0) rfl rfl rfl ?_
       refine XO_v0 (ev_load rfl sct_4 (fun hg => by exact .imm hb19 rfl)) rfl rfl rfl ?_
       refine XO_nil (at_then ?_)
       refine X_cond rfl (fun hc81 => ?_) (fun hc81 => ?_)
       ·
        refine X_seq (X_region ?_)
        refine zA ?_
        refine XO_nil (at_then ?_)
        refine X_exit ?_
        refine at_then_e ?_
        refine at_block_hit ?_
        refine at_then ?_
        refine X_region ?_
        refine zB ?_
        refine zM ?_
        refine XO_nil ?_
        first
        | exact at_met2 _ _ ⟨rows.length - (i + 1), by omega, i + 1, { s with lost := true }, p13, p14, rfl, rfl, hB2, rfl, by omega, sg_lost hs (by rw [hrg]; exact hc62) (by rw [hyd]; exact hc81), hp13, hp14⟩ (.cons rfl (.cons rfl (.cons rfl (.cons rfl (.cons rfl (.cons rfl (.cons rfl (.cons rfl (.cons rfl (.cons rfl (.cons rfl (.cons rfl (.cons rfl (.cons rfl (.cons rfl (.cons rfl .nil)))))))))))))))) (by repeat (first | exact .refl | exact subL_left | refine subL_app ?_ | refine .drop ?_ | refine subL_add ?_))
       ·
        refine X_skip ?_
        refine at_then ?_
        refine X_seq (X_region ?_)
        refine zM ?_
        refine zB ?_
        refine zA ?_
        refine XO_nil (at_then ?_)
        refine X_cutT [(0, _), (1, _), (6, _), (10, _), (11, _), (12, _), (13, _), (15, _), (16, _), (18, _), (19, _), (44, _), (45, _), (46, _), (51, _), (52, _), (53, _)] (.cons rfl (.cons rfl (.cons rfl (.cons rfl (.cons rfl (.cons rfl (.cons rfl (.cons rfl (.cons rfl (.cons rfl (.cons rfl (.cons rfl (.cons rfl (.cons rfl (.cons rfl (.cons rfl (.cons rfl .nil))))))))))))))))) (fun T L0 E I' loc' => ∃ (q14 : Option Addr), E = (14, .pointer q14) :: T ∧ HLe I5 I' ∧ L ++ [(b_42, .cells (cellsI (rngL ws.length (natF (atN rows k (i + 1))))) 3 (0, 0))] = loc' ∧ PtrOK 51 I' q14 (orS s.so y.sg)) ?_ ?_
        ·
         have hKc24 := HLe.refl I5
         refine X_seq (X_region ?_)
         refine zM ?_
         refine XO_v0 (ev_ptrNil rfl rfl und_70) rfl rfl rfl ?_
         refine XO_nil (at_then ?_)
         refine X_cond rfl (fun hc85 => ?_) (fun hc85 => ?_)
         ·
          refine X_region ?_
          refine XO_v0 (ev_fieldAddr rfl fld_51_1) rfl rfl rfl ?_
          refine zA ?_
          refine XO_nil ?_
          exact at_met2 _ _ ⟨_, rfl, hKc24, rfl, hp14.orN hc85 hp19⟩ (.cons rfl (.cons rfl (.cons rfl (.cons rfl (.cons rfl (.cons rfl (.cons rfl (.cons rfl (.cons rfl (.cons rfl (.cons rfl (.cons rfl (.cons rfl (.cons rfl (.cons rfl (.cons rfl (.cons rfl (.cons rfl .nil)))))))))))))))))) .refl
         ·
          refine X_skip ?_
          exact at_met2 _ _ ⟨_, rfl, hKc24, rfl, hp14.orS hc85⟩ (.cons rfl (.cons rfl (.cons rfl (.cons rfl (.cons rfl (.cons rfl (.cons rfl (.cons rfl (.cons rfl (.cons rfl (.cons rfl (.cons rfl (.cons rfl (.cons rfl (.cons rfl (.cons rfl (.cons rfl (.cons rfl .nil)))))))))))))))))) .refl
        ·
         rintro E J6 loc' ⟨q14, rfl, hJ85, rfl, hq14⟩
         have hW0 := hW0.mono hJ85
         have hW := hW.mono hJ85
         have hH := hH.mono hJ85
         have hVn := hVn.mono hJ85
         have hX1 := hX1.mono hJ85
         have hX2 := hX2.mono hJ85
         have hX3 := hX3.mono hJ85
         have hDb := hDb.mono hJ85
         have hTb := hTb.mono hJ85
         have hV := hV.mono hJ85
         have hVh := hVh.mono hJ85
         have hC5 := hC5.mono hJ85
         have hp13 := hp13.mono hJ85
         have hp14 := hp14.mono hJ85
         have hQ := hQ.mono hJ85
         have hR := hR.mono hJ85
         have hp19 := hp19.mono hJ85
         have hIc := hIc.trans hJ85
         have hB0 := hB0.trans hJ85
         have hB2 := hB2.trans hJ85
         refine X_seq (X_region ?_)
         refine zM ?_
         refine XO_v0 (ev_ptrNil rfl rfl und_70) rfl rfl rfl ?_
         refine zM ?_
         refine XO_pushT 2 rfl rfl rfl ?_
         refine XO_v1 (ev_move rfl) (.some rfl rfl rfl rfl gbt) rfl rfl rfl ?_
         refine XO_v1 (ev_move rfl) (.some rfl rfl rfl rfl gbt) rfl rfl rfl ?_
         refine XO_v1 (ev_indexSl rfl rfl slt_23 hQ (fun hg => by first | omega | (simp [conj] at hg; omega))) (.some rfl rfl rfl rfl gbt) rfl rfl rfl ?_
         refine XO_v1 (ev_load rfl sct_3 (fun hg => by exact Sl.get0 hQ hrk0 rfl)) (.some rfl rfl rfl rfl gbt) rfl rfl rfl ?_
         refine XO_v1 (ev_move rfl) (.some rfl rfl rfl rfl gbt) rfl rfl rfl ?_
         refine XO_v1 (ev_cmp rfl rfl rfl) (.some rfl rfl rfl rfl gbt) rfl rfl rfl ?_
         refine XO_and0 rfl rfl rfl rfl rfl ?_
         refine XO_nil (at_then ?_)
         refine X_cond rfl (fun hc96 => ?_) (fun hc96 => ?_)
         ·
          refine X_region ?_
          refine XO_v0 (ev_fieldAddr rfl fld_51_1) rfl rfl rfl ?_
          refine zA ?_
          refine XO_nil ?_
          refine at_block_n ?_
          refine at_then ?_
          refine X_region ?_
          refine zB ?_
          refine zM ?_
          refine XO_nil ?_
          first
          | exact at_met2 _ _ ⟨rows.length - (i + 1), by omega, i + 1, ⟨some y.sg, orS s.so y.sg, s.many + 1, s.lost⟩, _, q14, rfl, rfl, hB2, rfl, by omega, sg_yes hs (by rw [hrg]; exact hc62) hyd hc81 (by rw [hrg, ← hp13.isNone]; exact hc96), hp19, hq14⟩ (.cons rfl (.cons rfl (.cons rfl (.cons rfl (.cons rfl (.cons rfl (.cons rfl (.cons rfl (.cons rfl (.cons rfl (.cons rfl (.cons rfl (.cons rfl (.cons rfl (.cons rfl (.cons rfl .nil)))))))))))))))) (by repeat (first | exact .refl | exact subL_left | refine subL_app ?_ | refine .drop ?_ | refine subL_add ?_))
         ·
          refine X_skip ?_
          refine at_block_n ?_
          refine at_then ?_
          refine X_region ?_
          refine zB ?_
          refine zM ?_
          refine XO_nil ?_
          first
          | exact at_met2 _ _ ⟨rows.length - (i + 1), by omega, i + 1, ⟨s.ex, orS s.so y.sg, s.many + 1, s.lost⟩, p13, q14, rfl, rfl, hB2, rfl, by omega, sg_no hs (by rw [hrg]; exact hc62) hyd hc81 (by rw [hrg, ← hp13.isNone]; exact hc96), hp13, hq14⟩ (.cons rfl (.cons rfl (.cons rfl (.cons rfl (.cons rfl (.cons rfl (.cons rfl (.cons rfl (.cons rfl (.cons rfl (.cons rfl (.cons rfl (.cons rfl (.cons rfl (.cons rfl (.cons rfl .nil)))))))))))))))) (by repeat (first | exact .refl | exact subL_left | refine subL_app ?_ | refine .drop ?_ | refine subL_add ?_))
     ·
      have hge_i : rows.length ≤ i := by have h := hc54; simp at h; omega
      obtain rfl : i = rows.length := by omega
      refine X_exit ?_
      refine at_then_e ?_
      refine at_then_e ?_
      refine at_block_hit ?_
      refine at_then ?_
      refine X_seq ?_
      refine X_seq ?_
      refine X_locEq (loc' := L ++ [(b_42, .cells (cellsI (rngL ws.length (natF (atN rows (k + 1) 0)))) 3 (0, 0))]) (by rw [hlen, atN_next]) ?_
      refine X_region ?_
      refine zM ?_
      refine zC ?_
      refine XO_nil (at_then ?_)
      refine X_cond rfl (fun hc100 => ?_) (fun hc100 => ?_)
      ·
       refine X_exit ?_
       refine at_then_e ?_
       refine at_block_hit ?_
       refine at_then ?_
       refine X_region ?_
       refine zB ?_
       refine zM ?_
       refine XO_nil ?_
       first
       | exact at_met2 _ _ ⟨rd.length - (k + 1), by omega, k + 1, _, _, _, rfl, rfl, hB0, rfl, by omega, sgn_skip hsg (by rw [getD_of hk]; exact out_skip hc100), hO, by omega⟩ (.cons rfl (.cons rfl (.cons rfl (.cons rfl (.cons rfl (.cons rfl (.cons rfl .nil))))))) (by repeat (first | exact .refl | exact subL_left | refine subL_app ?_ | refine .drop ?_ | refine subL_add ?_))
      ·
       refine X_skip ?_
       refine at_then ?_
       refine X_cutT [(0, _), (1, _), (6, _), (10, _), (11, _), (12, _), (15, _), (16, _), (44, _), (45, _), (46, _)] (.cons rfl (.cons rfl (.cons rfl (.cons rfl (.cons rfl (.cons rfl (.cons rfl (.cons rfl (.cons rfl (.cons rfl (.cons rfl .nil))))))))))) (fun T L0 E I' loc' => ∃ (q13 : Option Addr), E = (13, .pointer q13) :: T ∧ HLe J4 I' ∧ L ++ [(b_42, .cells (cellsI (rngL ws.length (natF (atN rows (k + 1) 0)))) 3 (0, 0))] = loc' ∧ PtrOK 51 I' q13 (s.ex.or s.so)) ?_ ?_
       ·
        have hKc30 := HLe.refl J4
        refine X_seq (X_region ?_)
        refine zM ?_
        refine XO_v0 (ev_ptrNil rfl rfl und_70) rfl rfl rfl ?_
        refine XO_nil (at_then ?_)
        refine X_cond rfl (fun hc102 => ?_) (fun hc102 => ?_)
        ·
         refine X_region ?_
         refine zM ?_
         refine zA ?_
         refine XO_nil ?_
         exact at_met2 _ _ ⟨_, rfl, hKc30, rfl, hp13.orY hc102 hp14⟩ (.cons rfl (.cons rfl (.cons rfl (.cons rfl (.cons rfl (.cons rfl (.cons rfl (.cons rfl (.cons rfl (.cons rfl (.cons rfl (.cons rfl .nil)))))))))))) .refl
        ·
         refine X_skip ?_
         exact at_met2 _ _ ⟨_, rfl, hKc30, rfl, hp13.orX hc102⟩ (.cons rfl (.cons rfl (.cons rfl (.cons rfl (.cons rfl (.cons rfl (.cons rfl (.cons rfl (.cons rfl (.cons rfl (.cons rfl (.cons rfl .nil)))))))))))) .refl
       ·
        rintro E J7 loc' ⟨q13, rfl, hJ102, rfl, hq13⟩
        have hW0 := hW0.mono hJ102
        have hW := hW.mono hJ102
        have hH := hH.mono hJ102
        have hVn := hVn.mono hJ102
        have hX1 := hX1.mono hJ102
        have hX2 := hX2.mono hJ102
        have hX3 := hX3.mono hJ102
        have hDb := hDb.mono hJ102
        have hTb := hTb.mono hJ102
        have hV := hV.mono hJ102
        have hVh := hVh.mono hJ102
        have hC5 := hC5.mono hJ102
        have hp13 := hp13.mono hJ102
        have hp14 := hp14.mono hJ102
        have hIc := hIc.trans hJ102
        have hB0 := hB0.trans hJ102
        have hB2 := hB2.trans hJ102
        refine X_seq ?_
        refine X_seq (X_region ?_)
        refine zM ?_
        refine XO_v0 (ev_ptrNil rfl rfl und_70) rfl rfl rfl ?_
        refine XO_nil (at_then ?_)
        refine X_cond rfl (fun hc105 => ?_) (fun hc105 => ?_)
        ·
         have hso := hq13.none hc105
         refine X_seq (X_region ?_)
         refine zA ?_
         refine zA ?_
         refine XO_nil (at_then ?_)
         refine X_ret ?_
         refine at_then_r ?_
         refine at_block_r ?_
         refine at_then_r ?_
         refine at_then_r ?_
         refine at_block_r ?_
         refine at_then_r ?_
         refine at_scope_r ?_
         first
         | exact at_ret2 rfl rfl rfl (fun w hw => ⟨_, _, [], rfl, hIc, hw.drop, SgnQ.bad (sig_4 hcT heq hcE (sgn_err hsg (by rw [getD_of hk]; exact out_none hc100 hs hso) hlt_k)) (by decide)⟩)
        ·
         obtain ⟨sy, spb, spl, hso, rfl, hsp⟩ := hq13.at hc105
         refine X_skip ?_
         refine at_then ?_
         refine X_seq (X_region ?_)
         refine zM ?_
         refine XO_callV0 (cap := []) (vs := [_]) rfl rfl fun_30 (w_Sign _ _) rfl rfl ?_
         refine zM ?_
         refine XO_v0 (ev_extract rfl rfl) rfl rfl rfl ?_
         refine XO_v0 (ev_extract rfl rfl) rfl rfl rfl ?_
         refine XO_alloc zt_48 rfl rfl (fun b_20 => ?_)
         refine XO_storeA rfl rfl szt_48 rfl rfl rfl rfl (by repeat (first | exact Upd.here | apply Upd.there | apply upd_app)) ?_
         refine zA ?_
         refine XO_nil (at_then ?_)
         refine X_seq ?_
         refine X_seq (X_region ?_)
         refine zM ?_
         refine zC ?_
         refine XO_nil (at_then ?_)
         refine X_cond rfl (fun hc112 => ?_) (fun hc112 => ?_)
         ·
          have he1 : (signE code != 0) = true := hc112
          refine X_seq (X_region ?_)
          refine zA ?_
          refine zA ?_
          refine XO_nil (at_then ?_)
          refine X_ret ?_
          refine at_then_r ?_
          refine at_block_r ?_
          refine at_then_r ?_
          refine at_then_r ?_
          refine at_block_r ?_
          refine at_then_r ?_
          refine at_scope_r ?_
          first
          | exact at_ret2 rfl rfl rfl (fun w hw => ⟨_, _, [], rfl, hIc, hw.drop, SgnQ.bad (sig_4 hcT heq hcE (sgn_err hsg (by rw [getD_of hk]; exact out_bad hc100 hs hso he1) hlt_k)) (by decide)⟩)
         ·
          have he0 : (signE code != 0) = false := hc112
          refine X_skip ?_
          refine at_then ?_
          refine X_seq ?_
          have hD := HLe.refl J7
          refine X_noP ?_
          refine X_drawS J7 [] mixed ?_
          refine XD_take 0 rfl (ev_move rfl) (.none rfl) rfl rfl rfl (by kernel_rfl) (by kernel_rfl) (by kernel_rfl) noP_ok hD (by repeat (first | exact .refl | exact subL_nil | refine .keep ?_ | refine .drop ?_ | refine subL_add ?_)) ?_
          refine XD_take 1 rfl (ev_move rfl) (.none rfl) rfl rfl rfl (by kernel_rfl) (by kernel_rfl) (by kernel_rfl) noP_ok hD (by repeat (first | exact .refl | exact subL_nil | refine .keep ?_ | refine .drop ?_ | refine subL_add ?_)) ?_
          refine XD_take 2 rfl (ev_nilCheck rfl) (.none rfl) rfl rfl rfl (by kernel_rfl) (by kernel_rfl) (by kernel_rfl) noP_ok hD (by repeat (first | exact .refl | exact subL_nil | refine .keep ?_ | refine .drop ?_ | refine subL_add ?_)) ?_
          refine XD_take 3 rfl (ev_fieldAddr rfl fld_48_2) (.none rfl) rfl rfl rfl (by kernel_rfl) (by kernel_rfl) (by kernel_rfl) noP_ok hD (by repeat (first | exact .refl | exact subL_nil | refine .keep ?_ | refine .drop ?_ | refine subL_add ?_)) ?_
          refine XD_take 4 rfl (ev_load rfl sct_3 (fun hg => by exact .imm hsp rfl)) (.none rfl) rfl rfl rfl (by kernel_rfl) (by kernel_rfl) (by kernel_rfl) noP_ok hD (by repeat (first | exact .refl | exact subL_nil | refine .keep ?_ | refine .drop ?_ | refine subL_add ?_)) ?_
          refine XD_take 5 rfl (ev_move rfl) (.none rfl) rfl rfl rfl (by kernel_rfl) (by kernel_rfl) (by kernel_rfl) noP_ok hD (by repeat (first | exact .refl | exact subL_nil | refine .keep ?_ | refine .drop ?_ | refine subL_add ?_)) ?_
          refine XD_take 6 rfl (ev_nilCheck rfl) (.none rfl) rfl rfl rfl (by kernel_rfl) (by kernel_rfl) (by kernel_rfl) noP_ok hD (by repeat (first | exact .refl | exact subL_nil | refine .keep ?_ | refine .drop ?_ | refine subL_add ?_)) ?_
          refine XD_take 7 rfl (ev_fieldAddr rfl fld_48_3) (.none rfl) rfl rfl rfl (by kernel_rfl) (by kernel_rfl) (by kernel_rfl) noP_ok hD (by repeat (first | exact .refl | exact subL_nil | refine .keep ?_ | refine .drop ?_ | refine subL_add ?_)) ?_
          refine XD_take 8 rfl (ev_load rfl sct_3 (fun hg => by exact .imm hsp rfl)) (.none rfl) rfl rfl rfl (by kernel_rfl) (by kernel_rfl) (by kernel_rfl) noP_ok hD (by repeat (first | exact .refl | exact subL_nil | refine .keep ?_ | refine .drop ?_ | refine subL_add ?_)) ?_
          refine XD_take 9 rfl (ev_move rfl) (.none rfl) rfl rfl rfl (by kernel_rfl) (by kernel_rfl) (by kernel_rfl) noP_ok hD (by repeat (first | exact .refl | exact subL_nil | refine .keep ?_ | refine .drop ?_ | refine subL_add ?_)) ?_
          refine XD_take 10 rfl (ev_nilCheck rfl) (.none rfl) rfl rfl rfl (by kernel_rfl) (by kernel_rfl) (by kernel_rfl) noP_ok hD (by repeat (first | exact .refl | exact subL_nil | refine .keep ?_ | refine .drop ?_ | refine subL_add ?_)) ?_
          refine XD_take 11 rfl (ev_fieldAddr rfl fld_48_10) (.none rfl) rfl rfl rfl (by kernel_rfl) (by kernel_rfl) (by kernel_rfl) noP_ok hD (by repeat (first | exact .refl | exact subL_nil | refine .keep ?_ | refine .drop ?_ | refine subL_add ?_)) ?_
          refine XD_take 12 rfl (ev_loadA rfl agt_46 (fun hg => by exact Cells.two hsp rfl rfl) rfl) (.none rfl) rfl rfl rfl (by kernel_rfl) (by kernel_rfl) (by kernel_rfl) noP_ok hD (by repeat (first | exact .refl | exact subL_nil | refine .keep ?_ | refine .drop ?_ | refine subL_add ?_)) ?_
          refine XD_take 13 rfl (ev_move rfl) (.none rfl) rfl rfl rfl (by kernel_rfl) (by kernel_rfl) (by kernel_rfl) noP_ok hD (by repeat (first | exact .refl | exact subL_nil | refine .keep ?_ | refine .drop ?_ | refine subL_add ?_)) ?_
          refine XD_take 14 rfl (ev_nilCheck rfl) (.none rfl) rfl rfl rfl (by kernel_rfl) (by kernel_rfl) (by kernel_rfl) noP_ok hD (by repeat (first | exact .refl | exact subL_nil | refine .keep ?_ | refine .drop ?_ | refine subL_add ?_)) ?_
          refine XD_take 15 rfl (ev_fieldAddr rfl fld_48_11) (.none rfl) rfl rfl rfl (by kernel_rfl) (by kernel_rfl) (by kernel_rfl) noP_ok hD (by repeat (first | exact .refl | exact subL_nil | refine .keep ?_ | refine .drop ?_ | refine subL_add ?_)) ?_
          refine XD_take 16 rfl (ev_loadA rfl agt_46 (fun hg => by exact Cells.two hsp rfl rfl) rfl) (.none rfl) rfl rfl rfl (by kernel_rfl) (by kernel_rfl) (by kernel_rfl) noP_ok hD (by repeat (first | exact .refl | exact subL_nil | refine .keep ?_ | refine .drop ?_ | refine subL_add ?_)) ?_
          refine XD_take 17 rfl (ev_fieldAddr rfl fld_48_0) (.none rfl) rfl rfl rfl (by kernel_rfl) (by kernel_rfl) (by kernel_rfl) noP_ok hD (by repeat (first | exact .refl | exact subL_nil | refine .keep ?_ | refine .drop ?_ | refine subL_add ?_)) ?_
          refine XD_one 18 rfl (by kernel_rfl) ?_
          refine zS szt_3 ?_
          refine XO_nil ?_
          refine zD hD ?_
          refine XD_take 19 rfl (ev_fieldAddr rfl fld_48_2) (.none rfl) rfl rfl rfl (by kernel_rfl) (by kernel_rfl) (by kernel_rfl) noP_ok hD (by repeat (first | exact .refl | exact subL_nil | refine .keep ?_ | refine .drop ?_ | refine subL_add ?_)) ?_
          refine XD_one 20 rfl (by kernel_rfl) ?_
          refine zS szt_3 ?_
          refine XO_nil ?_
          refine zD hD ?_
          refine XD_take 21 rfl (ev_fieldAddr rfl fld_48_3) (.none rfl) rfl rfl rfl (by kernel_rfl) (by kernel_rfl) (by kernel_rfl) noP_ok hD (by repeat (first | exact .refl | exact subL_nil | refine .keep ?_ | refine .drop ?_ | refine subL_add ?_)) ?_
          refine XD_one 22 rfl (by kernel_rfl) ?_
          refine zS szt_3 ?_
          refine XO_nil ?_
          refine zD hD ?_
          refine XD_take 23 rfl (ev_fieldAddr rfl fld_48_10) (.none rfl) rfl rfl rfl (by kernel_rfl) (by kernel_rfl) (by kernel_rfl) noP_ok hD (by repeat (first | exact .refl | exact subL_nil | refine .keep ?_ | refine .drop ?_ | refine subL_add ?_)) ?_
          refine XD_one 24 rfl (by kernel_rfl) ?_
          refine XO_storeP rfl rfl szt_46 rfl rfl rfl rfl (by repeat (first | exact Upd.here | apply Upd.there | apply upd_app)) ?_
          refine XO_nil ?_
          refine zD hD ?_
          refine XD_take 25 rfl (ev_fieldAddr rfl fld_48_11) (.none rfl) rfl rfl rfl (by kernel_rfl) (by kernel_rfl) (by kernel_rfl) noP_ok hD (by repeat (first | exact .refl | exact subL_nil | refine .keep ?_ | refine .drop ?_ | refine subL_add ?_)) ?_
          refine XD_one 26 rfl (by kernel_rfl) ?_
          refine XO_storeP rfl rfl szt_46 rfl rfl rfl rfl (by repeat (first | exact Upd.here | apply Upd.there | apply upd_app)) ?_
          refine XO_nil ?_
          refine zD hD ?_
          refine XD_done (by kernel_rfl) ?_
          refine at_noP ?_
          refine at_locEq (loc' := (b_20, .cells (encG ({ signF code with id := (k : Int), bar := sy.bar, mark := sy.mark, fn := sy.fn, fd := sy.fd, tn := sy.tn, td := sy.td } : Sg)).toArray 48 (0, 0)) :: (L ++ [(b_42, .cells (cellsI (rngL ws.length (natF (atN rows (k + 1) 0)))) 3 (0, 0))])) rfl ?_
          refine at_then ?_
          refine X_cutT [(0, _), (1, _), (6, _), (10, _), (20, _), (44, _), (45, _), (46, _)] (.cons rfl (.cons rfl (.cons rfl (.cons rfl (.cons rfl (.cons rfl (.cons rfl (.cons rfl .nil)))))))) (fun T L0 E I' loc' => E = T ∧ HLe J7 I' ∧ (b_20, .cells (encG (putS k code sy ((decide ((ws.length : Int) > 1) && (s.many : Int) == 1) && !s.lost))).toArray 48 (0, 0)) :: (L ++ [(b_42, .cells (cellsI (rngL ws.length (natF (atN rows (k + 1) 0)))) 3 (0, 0))]) = loc') ?_ ?_
          ·
           have hKc38 := HLe.refl J7
           refine X_seq (X_region ?_)
           refine zM ?_
           refine XO_v0 (ev_lenS rfl slt_31) rfl rfl rfl ?_
           refine zC ?_
           refine zM ?_
           refine XO_pushT 3 rfl rfl rfl ?_
           refine XO_v1 (ev_move rfl) (.some rfl rfl rfl rfl gbt) rfl rfl rfl ?_
           refine XO_v1 (ev_cmp rfl rfl rfl) (.some rfl rfl rfl rfl gbt) rfl rfl rfl ?_
           refine XO_and0 rfl rfl rfl rfl rfl ?_
           refine zM ?_
           refine XO_pushT 7 rfl rfl rfl ?_
           refine XO_v1 (ev_move rfl) (.some rfl rfl rfl rfl gbt) rfl rfl rfl ?_
           refine XO_v1 (ev_not rfl) (.some rfl rfl rfl rfl gbt) rfl rfl rfl ?_
           refine XO_and0 rfl rfl rfl rfl rfl ?_
           refine XO_nil (at_then ?_)
           refine X_cond rfl (fun hc145 => ?_) (fun hc145 => ?_)
           ·
            refine X_region ?_
            refine XO_v0 (ev_fieldAddr rfl fld_48_3) rfl rfl rfl ?_
            refine zS szt_3 ?_
            refine XO_nil ?_
            refine at_locEq (loc' := (b_20, .cells (encG (putS k code sy ((decide ((ws.length : Int) > 1) && (s.many : Int) == 1) && !s.lost))).toArray 48 (0, 0)) :: (L ++ [(b_42, .cells (cellsI (rngL ws.length (natF (atN rows (k + 1) 0)))) 3 (0, 0))])) (by rw [hc145]; rfl) ?_
            exact at_met2 _ _ ⟨rfl, hKc38, rfl⟩ (.cons rfl (.cons rfl (.cons rfl (.cons rfl (.cons rfl (.cons rfl (.cons rfl (.cons rfl .nil)))))))) .refl
           ·
            refine X_locEq (loc' := (b_20, .cells (encG (putS k code sy ((decide ((ws.length : Int) > 1) && (s.many : Int) == 1) && !s.lost))).toArray 48 (0, 0)) :: (L ++ [(b_42, .cells (cellsI (rngL ws.length (natF (atN rows (k + 1) 0)))) 3 (0, 0))])) (by rw [hc145]; rfl) ?_
            refine X_skip ?_
            exact at_met2 _ _ ⟨rfl, hKc38, rfl⟩ (.cons rfl (.cons rfl (.cons rfl (.cons rfl (.cons rfl (.cons rfl (.cons rfl (.cons rfl .nil)))))))) .refl
          ·
           rintro E J8 loc' ⟨rfl, hJ145, rfl⟩
           have hW0 := hW0.mono hJ145
           have hW := hW.mono hJ145
           have hH := hH.mono hJ145
           have hVn := hVn.mono hJ145
           have hX1 := hX1.mono hJ145
           have hX2 := hX2.mono hJ145
           have hX3 := hX3.mono hJ145
           have hDb := hDb.mono hJ145
           have hTb := hTb.mono hJ145
           have hV := hV.mono hJ145
           have hVh := hVh.mono hJ145
           have hC5 := hC5.mono hJ145
           have hp13 := hp13.mono hJ145
           have hp14 := hp14.mono hJ145
           have hq13 := hq13.mono hJ145
           have hIc := hIc.trans hJ145
           have hB0 := hB0.trans hJ145
           have hB2 := hB2.trans hJ145
           refine X_region ?_
           refine zM ?_
           refine XO_v0 (ev_loadA rfl agt_48 (fun hg => by exact Cells.g0) rfl) rfl rfl rfl ?_
           refine XO_buildSlice (ps := [(0, _)]) (m := [encG (putS k code sy ((decide ((ws.length : Int) > 1) && (s.many : Int) == 1) && !s.lost))]) elt_36 rfl (.cons rfl (.nil)) rfl (by simp [encG_len]) (by decide) (by decide) rfl rfl (fun b_149 => ?_)
           refine XO_append (v := _) (ys := [putS k code sy ((decide ((ws.length : Int) > 1) && (s.many : Int) == 1) && !s.lost)].flatMap encG) (L := L) rfl rfl elt_36 hO (by repeat (first | exact .cons .here .nil | exact split_all | exact split_app | apply split_cons | apply split_skip)) ⟨rfl, fun _ => rfl, by repeat (first | exact Cells.here | apply Cells.there | apply Cells.app)⟩ (one_G [putS k code sy ((decide ((ws.length : Int) > 1) && (s.many : Int) == 1) && !s.lost)]) (by omega) rfl rfl ?_
           intro v9 L9 hO9 _; rw [← List.flatMap_append] at hO9
           refine zA ?_
           refine XO_nil ?_
           refine at_block_n ?_
           refine at_then ?_
           refine X_region ?_
           refine zB ?_
           refine zM ?_
           refine XO_nil ?_
           first
           | exact at_met2 _ _ ⟨rd.length - (k + 1), by omega, k + 1, _, _, _, rfl, rfl, hB0, rfl, by omega, sgn_sg hsg (by rw [getD_of hk]; exact out_sg hc100 hs hso he0), by rw [List.length_append]; exact hO9, by rw [List.length_append, List.length_singleton]; omega⟩ (.cons rfl (.cons rfl (.cons rfl (.cons rfl (.cons rfl (.cons rfl (.cons rfl .nil))))))) (by repeat (first | exact .refl | exact subL_left | refine subL_app ?_ | refine .drop ?_ | refine subL_add ?_))
    ·
     have hge_k : rd.length ≤ k := by have h := hc47; simp at h; omega
     obtain rfl : k = rd.length := by omega
     obtain ⟨t1, t2⟩ := sig_5 hcT heq hcE hsg
     refine X_exit ?_
     refine at_then_e ?_
     refine at_then_e ?_
     refine at_block_hit ?_
     refine at_then ?_
     refine X_seq (X_region ?_)
     refine zM ?_
     refine zA ?_
     refine zA ?_
     refine XO_nil (at_then ?_)
     refine X_ret ?_
     refine at_scope_r ?_
     first
     | exact at_ret2 rfl rfl rfl (fun w hw => by obtain ⟨I9, av9, c9, h1', h2', e9, h4'⟩ := OwnS.freeze (R := [_]) hO encG_len (by decide) hw; subst e9; exact ⟨_, I9, [], rfl, hIc.trans h1', h2'.drop, rfl, av9, c9, by rw [t1, t2], by rw [t2]; exact h4'⟩)
end Go.Proofs.YthcffaheamikgaaGreatDoor
end
section
namespace Go.Proofs.YthcffaheamikgaaGreatDoor
open Go Go.Kn Go.Proofs
def insU (x : Int) : List Int → List Int
  | [] => [x]
  | y :: ys => if x < y then x :: y :: ys else if x = y then y :: ys else y :: insU x ys
theorem insU_mem {x z : Int} : ∀ {l : List Int}, z ∈ insU x l ↔ z = x ∨ z ∈ l
  | [] => by simp [insU]
  | y :: ys => by
    unfold insU
    split
    · simp
    · split
      · rename_i h; subst h; simp
      · rw [List.mem_cons, insU_mem, List.mem_cons]
        constructor
        · rintro (h | h | h)
          · exact .inr (.inl h)
          · exact .inl h
          · exact .inr (.inr h)
        · rintro (h | h | h)
          · exact .inr (.inl h)
          · exact .inl h
          · exact .inr (.inr h)
theorem insU_up {x : Int} : ∀ {l : List Int}, l.Pairwise (· < ·) → (insU x l).Pairwise (· < ·)
  | [], _ => by simp [insU]
  | y :: ys, h => by
    rw [List.pairwise_cons] at h
    unfold insU
    split
    · rename_i hxy
      rw [List.pairwise_cons, List.pairwise_cons]
      refine ⟨fun z hz => ?_, h⟩
      rcases List.mem_cons.1 hz with e | hz
      · rw [e]; exact hxy
      · exact Int.lt_trans hxy (h.1 z hz)
    · split
      · rw [List.pairwise_cons]; exact h
      · rw [List.pairwise_cons]
        refine ⟨fun z hz => ?_, insU_up h.2⟩
        rcases insU_mem.1 hz with rfl | hz
        · omega
        · exact h.1 z hz
def stU (rows : List (List Int)) (l : Nat) : List Int := (stL rows l rows.length).foldr insU []
theorem foldU (xs : List Int) : (xs.foldr insU []).Pairwise (· < ·) ∧ ∀ z, z ∈ xs.foldr insU [] ↔ z ∈ xs := by
  induction xs with
  | nil => simp
  | cons x xs ih =>
    rw [List.foldr_cons]
    exact ⟨insU_up ih.1, fun z => by rw [insU_mem, ih.2, List.mem_cons]⟩
theorem up_eq {a b : List Int} (ha : a.Pairwise (· < ·)) (hb : b.Pairwise (· < ·)) (h : ∀ z, z ∈ a ↔ z ∈ b) : a = b := by
  have hp : a.Perm b := (List.perm_ext_iff_of_nodup (ha.imp (by intro x y h e; omega)) (hb.imp (by intro x y h e; omega))).2 h
  exact hp.eq_of_pairwise (le := (· < ·)) (by intro x y _ _ h1 h2; omega) ha hb
theorem stE_S {rows : List (List Int)} {l : Nat} : stE rows l = stU rows l := by
  refine up_eq stE_up (foldU _).1 fun z => ?_
  unfold stU
  rw [(foldU _).2]
  unfold stE; rw [(comp_sort _).2]
def rootC (rows : List (List Int)) (cl : List Int) (l : Nat) : List Int := (stU rows l).filter fun x => rcV (stU rows l) (uF rows l) cl 63 (allS rows.length) x == leastF (rcF (stU rows l) (uF rows l) cl 64 (allS rows.length))
theorem rootC_eq : rootF = rootC := by
  funext rows cl l
  unfold rootF rootC topF topV
  rw [stE_S]
theorem rootsL_C {rows : List (List Int)} {cl : List Int} : rootsL rows cl = if costE rows cl ≠ 0 then [] else (List.range (rows.getD 0 []).length).map (rootC rows cl) := by unfold rootsL; rw [rootC_eq]
def baseC (rows : List (List Int)) (cl : List Int) (k : Nat) : Int := if (rootC rows cl k).any (fun y => (rows.getD 0 []).getD k 0 == y) = true then (rows.getD 0 []).getD k 0 else (rootC rows cl k).getD 0 0
def readC (rows : List (List Int)) (cl : List Int) (es : List Em) (k : Nat) : Int := match lfK es k with
  | [] => baseC rows cl k
  | e :: _ => if e.locus = (k : Int) then e.code else baseC rows cl k
theorem readC_eq : readK = readC := by
  funext rows cl es k
  have hb : baseK rows cl k = baseC rows cl k := by unfold baseK baseC; rw [rootC_eq]
  unfold readK readC
  rw [hb]
  cases lfK es k <;> rfl
theorem readsL_C {rows : List (List Int)} {cl : List Int} {es : List Em} : readsL rows cl es = (List.range (rows.getD 0 []).length).map (readC rows cl es) := by unfold readsL; rw [readC_eq]
def nzB (ws : List Wr) (rows : List (List Int)) : Bool := (List.range ws.length).all fun i => (List.range (rows.getD i []).length).all fun k => ((rows.getD i []).getD k 0 == 0) || decide (nzF (rows.getD i []) k < ((ws[i]?).map (·.rs.length)).getD 0)
theorem nzB_ok {ws : List Wr} {rows : List (List Int)} (h : nzB ws rows = true) : NzOK ws rows := by
  intro i x row hx hr k hk h0
  have hi := (List.getElem?_eq_some_iff.1 hx).1
  have h1 := List.all_eq_true.1 h i (List.mem_range.2 hi)
  rw [getD_of hr, hx] at h1
  have h2 := List.all_eq_true.1 h1 k (List.mem_range.2 hk)
  simp only [Bool.or_eq_true, beq_iff_eq, decide_eq_true_eq, Option.map_some, Option.getD_some] at h2
  rcases h2 with h2 | h2
  · exact absurd h2 h0
  · exact h2
end Go.Proofs.YthcffaheamikgaaGreatDoor
end
section
namespace Go.Proofs.YthcffaheamikgaaGreatDoor
open Go Go.Kn Go.Proofs
theorem lit_rows {I : HMap} {b t n : Nat} (hs : List Hd) {vss : List (List Int)} (hn : hs.length = n) (h : I b = some (.cells (hs.flatMap encH).toArray t (0, 0))) (r : RelH I hs vss) : SlN I (some ⟨b, 0, none⟩) n n vss := ⟨hs, Sl.lit hs hn encH_len h, r⟩
theorem s_makeOK {I : HMap} {bv av dv : Option Addr} {n2 c2 n c n3 c3 : Nat} {rows : List (List Int)} {cl : List Int} {es : List Em} {no : Int} (hV : SlN I bv n2 c2 rows) (hS : Sl I 1 encI av n c cl) (hE : Sl I 3 encEm dv n3 c3 es) (hDb : DebOK I) (hn2 : n2 ≤ 100000) (hn : n ≤ 100000) (hn3 : n3 ≤ 100000) {rd : List Int} {k : Nat}
  (he : makE rows no cl es = 0) (hr : readsL rows cl es = rd) (hk : rd.length = k) : RetM Tryz.prog 14 [.slice bv n2 c2, .int .i64 no, .slice av n c, .slice dv n3 c3] I [] (fun v I' L => L = [] ∧ ∃ a1 c1 a2 c2 a3 c3, v = .tuple #[.agg (encEd no a1 n c1 a2 n3 c2 a3 k c3).toArray, .int .i64 0] ∧ Sl I' 1 encI a1 n c1 cl ∧ Sl I' 3 encEm a2 n3 c2 es ∧ Sl I' 1 encI a3 k c3 rd) := by
 intro g H w hw
 refine (w_Make hS hV hn2 hE hn3 hn hDb no g H w hw).mono ?_
 rintro ed w' ⟨v, I', L', hed, hI, hs, hMQ⟩
 obtain ⟨rfl, no2, cl2, es2, rd2, a1, q1, c1, a2, q2, c9, a3, q3, c3, rfl, hM1, hM2, hM3, hMy, -⟩ := hMQ.opn
 obtain ⟨rfl, rfl, rfl, rfl⟩ := hMy he
 have l1 := hM1.len.symm.trans hS.len
 have l2 := hM2.len.symm.trans hE.len
 subst l1; subst l2; subst hk
 rw [hr] at hM3
 have l3 := hM3.len
 subst l3
 exact ⟨_, I', [], hed, hI, hs, rfl, a1, c1, a2, c9, a3, c3, by rw [he], hM1, hM2, hM3⟩
theorem s_makeNo {I : HMap} {bv av dv : Option Addr} {n2 c2 n c n3 c3 : Nat} {rows : List (List Int)} {cl : List Int} {es : List Em} {no : Int} (hV : SlN I bv n2 c2 rows) (hS : Sl I 1 encI av n c cl) (hE : Sl I 3 encEm dv n3 c3 es) (hDb : DebOK I) (hn2 : n2 ≤ 100000) (hn : n ≤ 100000) (hn3 : n3 ≤ 100000) {e : Int}
  (he : makE rows no cl es = e) : RetM Tryz.prog 14 [.slice bv n2 c2, .int .i64 no, .slice av n c, .slice dv n3 c3] I [] (fun v I' L => L = [] ∧ ∃ no2 a1 n1 c1 a2 n2 c2 a3 n3 c3, v = .tuple #[.agg (encEd no2 a1 n1 c1 a2 n2 c2 a3 n3 c3).toArray, .int .i64 e]) := by
 intro g H w hw
 refine (w_Make hS hV hn2 hE hn3 hn hDb no g H w hw).mono ?_
 rintro ed w' ⟨v, I', L', hed, hI, hs, hMQ⟩
 obtain ⟨rfl, no2, cl2, es2, rd2, a1, q1, c1, a2, q2, c9, a3, q3, c3, rfl, -⟩ := hMQ.opn
 exact ⟨_, I', [], hed, hI, hs, rfl, no2, a1, q1, c1, a2, q2, c9, a3, q3, c3, by rw [he]⟩
def w3 : List Wr := [⟨1, 0, [⟨false, stepG 1 0⟩, ⟨false, stepG 2 5⟩]⟩, ⟨2, 0, [⟨false, stepG 1 3⟩]⟩, ⟨3, 0, [⟨false, stepG 1 4⟩]⟩]
def sg2 : Sg := ⟨1, 0, 5, 3, 1, 1, 1, 0, 2, 0, 0, 1, 1, 1⟩
theorem t_tabR : tabR w3 = [[10616960, 10617088], [10616960, 0], [10616960, 0]] := by kernel_rfl
theorem t_rz : readsL [[10616960, 10617088], [10616960, 0], [10616960, 0]] [6, 7] [] = [10616960, 10617088] := by rw [readsL_C]; kernel_rfl
theorem t_mk : makE [[10616960, 10617088], [10616960, 0], [10616960, 0]] 0 [6, 7] [] = 0 := by kernel_rfl
theorem t_edc : edcF [[10616960, 10617088], [10616960, 0], [10616960, 0]] 0 [6, 7] [] [10616960, 10617088] = 0 := edc_3 t_mk t_rz.symm
theorem s_table {I : HMap} {av : Option Addr} {c : Nat} (hW : SlW I av 3 c w3) : RetM Tryz.prog 16 [.slice av 3 c] I [] (fun v I' L => L = [] ∧ ∃ a c, v = .tuple #[.slice a 3 c, .int .i64 0] ∧ SlN I' a 3 c [[10616960, 10617088], [10616960, 0], [10616960, 0]]) := by
 intro g H w hw
 refine (w_Table hW (by decide) g H w hw).mono ?_
 rintro ed w' ⟨v, I', L', he, hI, hs, rfl, a, c', hv, hN⟩
 have e2 : tabE w3 = 0 := by kernel_rfl
 rw [t_tabR] at hv hN
 rw [e2] at hv
 exact ⟨_, I', [], he, hI, hs, rfl, a, c', hv, hN⟩
theorem s_signs {I : HMap} {av bv a1 a2 a3 : Option Addr} {c c2 c1 c9 c3 : Nat} (hW : SlW I av 3 c w3) (hV : SlN I bv 3 c2 [[10616960, 10617088], [10616960, 0], [10616960, 0]]) (h1 : Sl I 1 encI a1 2 c1 [6, 7]) (h2 : Sl I 3 encEm a2 0 c9 []) (h3 : Sl I 1 encI a3 2 c3 [10616960, 10617088]) (hDb : DebOK I) : RetM Tryz.prog 11 [.slice av 3 c, .slice bv 3 c2, .agg (encEd 0 a1 2 c1 a2 0 c9 a3 2 c3).toArray] I [] (fun v I' L => L = [] ∧ ∃ a c, v = .tuple #[.slice a 2 c, .int .i64 0] ∧ Sl I' 14 encG a 2 c [stepG 1 0, sg2]) := by
 intro g H w hw
 refine (w_Signs hW (by decide) hV (by decide) h1 h2 h3 (by decide) (by decide) (by decide) 0 hDb (fun _ => nzB_ok (by kernel_rfl)) g H w hw).mono ?_
 rintro ed w' ⟨v, I', L', he, hI, hs, rfl, a, c', hv, hN⟩
 obtain ⟨e1, e2⟩ := sig_5 (ws := w3) (rows := [[10616960, 10617088], [10616960, 0], [10616960, 0]]) (no := 0) (cl := [6, 7]) (es := []) (rd := [10616960, 10617088]) (l := [stepG 1 0, sg2]) (by kernel_rfl) t_tabR t_edc (by kernel_rfl)
 rw [e2] at hv hN
 rw [e1] at hv
 exact ⟨_, I', [], he, hI, hs, rfl, a, c', hv, hN⟩
theorem s_signs0 {I : HMap} (hDb : DebOK I) : RetM Tryz.prog 11 [.slice none 0 0, .slice none 0 0, .agg (encEd 0 none 0 0 none 0 0 none 0 0).toArray] I [] (fun v I' L => L = [] ∧ ∃ v9, v = .tuple #[v9, .int .i64 420]) := by
 intro g H w hw
 refine (w_Signs (ws := []) ⟨[], .nil, rfl, fun k w x h => by simp at h⟩ (by decide) SlN.none (by decide) (xs := []) (es := []) (rd := []) .nil .nil .nil (by decide) (by decide) (by decide) 0 hDb (fun _ i x row h => by simp at h) g H w hw).mono ?_
 rintro ed w' ⟨v, I', L', he, hI, hs, rfl, a, c', hv, hN⟩
 have e1 : sigE [] [] 0 [] [] [] = 420 := by kernel_rfl
 rw [e1] at hv
 exact ⟨_, I', [], he, hI, hs, rfl, _, hv⟩
theorem s_chk {I : HMap} {bv a1 a2 a3 : Option Addr} {c2 c1 c9 c3 : Nat} (hV : SlN I bv 3 c2 [[10616960, 10617088], [10616960, 0], [10616960, 0]]) (h1 : Sl I 1 encI a1 2 c1 [6, 7]) (h2 : Sl I 3 encEm a2 0 c9 []) (h3 : Sl I 1 encI a3 2 c3 [10616960, 10617088]) (hDb : DebOK I) : RetV Tryz.prog 17 [.slice bv 3 c2, .agg (encEd 0 a1 2 c1 a2 0 c9 a3 2 c3).toArray] I (.int .i64 0) := by
 have h := w_edChk hV (by decide) h1 h2 h3 (by decide) (by decide) (by decide) 0 hDb
 rw [t_edc] at h; exact h
theorem s_chk2 {I : HMap} {bv a1 a2 a3 : Option Addr} {c2 c1 c9 c3 : Nat} (hV : SlN I bv 3 c2 [[10616960, 10617088], [10616960, 0], [10616960, 0]]) (h1 : Sl I 1 encI a1 2 c1 [6, 7]) (h2 : Sl I 3 encEm a2 0 c9 []) (h3 : Sl I 1 encI a3 2 c3 [10616960, 10617088]) (hDb : DebOK I) : RetV Tryz.prog 17 [.slice bv 3 c2, .agg (encEd (-1) a1 2 c1 a2 0 c9 a3 2 c3).toArray] I (.int .i64 430) := by
 have h := w_edChk hV (by decide) h1 h2 h3 (by decide) (by decide) (by decide) (-1) hDb
 have e : makE [[10616960, 10617088], [10616960, 0], [10616960, 0]] (-1) [6, 7] [] = 430 := by kernel_rfl
 rw [edc_1 (by rw [e]; decide), e] at h; exact h
theorem s_same {I : HMap} {av bv : Option Addr} {c c2 : Nat} (hS : Sl I 14 encG av 2 c [stepG 1 0, sg2]) (hT : Sl I 14 encG bv 2 c2 [stepG 1 0, sg2]) : RetV Tryz.prog 13 [.slice av 2 c, .slice bv 2 c2] I (.bool true) := by
 have h := w_sameG hS hT (by decide)
 rw [decide_eq_true rfl] at h; exact h
theorem s_roots1 {I : HMap} {av bv : Option Addr} {c c2 : Nat} (hV : SlN I av 3 c [[5, 7], [5, 0], [9, 8589934592]]) (hS : Sl I 1 encI bv 2 c2 [3, 7]) (hDb : DebOK I) : RetM Tryz.prog 7 [.slice av 3 c, .slice bv 2 c2] I [] (fun v I' L => L = [] ∧ ∃ a c, v = .tuple #[.slice a 2 c, .int .i64 0] ∧ SlN I' a 2 c [[5, 9], [7]]) := by
 intro g H w hw
 refine (w_Roots hS hV (by decide) hDb g H w hw).mono ?_
 rintro ed w' ⟨v, I', L', he, hI, hs, rfl, a, c', hv, hN⟩
 have e1 : rootsL [[5, 7], [5, 0], [9, 8589934592]] [3, 7] = [[5, 9], [7]] := by rw [rootsL_C]; kernel_rfl
 have e2 : costE [[5, 7], [5, 0], [9, 8589934592]] [3, 7] = 0 := by kernel_rfl
 rw [e1] at hv hN
 rw [e2] at hv
 exact ⟨_, I', [], he, hI, hs, rfl, a, c', hv, hN⟩
theorem s_roots2 {I : HMap} {av bv : Option Addr} {c c2 : Nat} (hV : SlN I av 0 c []) (hS : Sl I 1 encI bv 0 c2 []) (hDb : DebOK I) : RetM Tryz.prog 7 [.slice av 0 c, .slice bv 0 c2] I [] (fun v I' L => L = [] ∧ ∃ a c, v = .tuple #[.slice a 0 c, .int .i64 420] ∧ SlN I' a 0 c []) := by
 intro g H w hw
 refine (w_Roots hS hV (by decide) hDb g H w hw).mono ?_
 rintro ed w' ⟨v, I', L', he, hI, hs, rfl, a, c', hv, hN⟩
 have e1 : rootsL [] [] = [] := by rw [rootsL_C]; kernel_rfl
 have e2 : costE [] [] = 420 := by kernel_rfl
 rw [e1] at hv hN
 rw [e2] at hv
 exact ⟨_, I', [], he, hI, hs, rfl, a, c', hv, hN⟩
end Go.Proofs.YthcffaheamikgaaGreatDoor
end
section
namespace Go.Proofs.YthcffaheamikgaaGreatDoor
open Go Go.Kn Go.Proofs
theorem elt_31 : ElT Tryz.prog 31 54 3 40 := .of (by kernel_rfl)
theorem elt_52 : ElT Tryz.prog 52 51 15 120 := .of (by kernel_rfl)
theorem fun_11 : Fun Tryz.prog 11 := .of Tryz.func11 (by kernel_rfl) (by kernel_rfl)
theorem fun_13 : Fun Tryz.prog 13 := .of Tryz.func13 (by kernel_rfl) (by kernel_rfl)
theorem fun_15 : Fun Tryz.prog 15 := .of Tryz.func15 (by kernel_rfl) (by kernel_rfl)
theorem plt_44 : PlT Tryz.prog 44 #[(0, 1), (1, 1), (2, 1)] (.agg #[(.int .i64 0), (.int .i64 0), (.int .i64 0)]) := ⟨.of (by kernel_rfl), by kernel_rfl, fun w => by kernel_rfl⟩
theorem plt_51 : PlT Tryz.prog 51 #[(0, 1), (1, 14)] (.agg #[(.bool false), (.int .i64 0), (.int .i64 0), (.int .i64 0), (.int .i64 0), (.int .i64 0), (.int .i64 0), (.int .i64 0), (.int .i64 0), (.int .i64 0), (.int .i64 0), (.int .i64 0), (.int .i64 0), (.int .i64 0), (.int .i64 0)]) := ⟨.of (by kernel_rfl), by kernel_rfl, fun w => by kernel_rfl⟩
theorem plt_54 : PlT Tryz.prog 54 #[(0, 1), (1, 1), (2, 1)] (.agg #[(.int .i64 0), (.int .i64 0), (.slice none 0 0)]) := ⟨.of (by kernel_rfl), by kernel_rfl, fun w => by kernel_rfl⟩
theorem t_rd5 : readsL [[7]] [] [] = [7] := by rw [readsL_C]; kernel_rfl
theorem t_rd6 : readsL [[5, 7], [5, 0], [9, 8589934592]] [3, 7] [⟨0, 9, 1⟩] = [9, 7] := by rw [readsL_C]; kernel_rfl
set_option maxHeartbeats 40000000 in
set_option maxRecDepth 100000 in
theorem w_sane {I : HMap} (hDb : DebOK I) : RetV Tryz.prog 5 [] I (.bool true) := by
 intro g H w hw
 refine enter Tryz.func5 rfl Tryz.ntmps5 rfl hw ?_
 have hIc := HLe.refl I
 refine X_seq (X_region ?_)
 refine zA ?_
 refine XO_nil (at_then (X_seq (X_region ?_)))
 refine XO_buildSlice (ps := [(0, _), (1, _)]) (m := [encI 5, encI 7]) elt_23 rfl (.cons rfl (.cons rfl (.nil))) rfl (by simp [encI_len, encH_len, encRd_len, encW_len, encEm_len, encG_len]) (by decide) (by decide) rfl rfl (fun b_17 => ?_)
 refine XO_buildSlice (ps := [(0, _), (1, _)]) (m := [encI 5, encI 0]) elt_23 rfl (.cons rfl (.cons rfl (.nil))) rfl (by simp [encI_len, encH_len, encRd_len, encW_len, encEm_len, encG_len]) (by decide) (by decide) rfl rfl (fun b_18 => ?_)
 refine XO_buildSlice (ps := [(0, _), (1, _)]) (m := [encI 9, encI 8589934592]) elt_23 rfl (.cons rfl (.cons rfl (.nil))) rfl (by simp [encI_len, encH_len, encRd_len, encW_len, encEm_len, encG_len]) (by decide) (by decide) rfl rfl (fun b_19 => ?_)
 refine XO_buildSlice (ps := [(0, _), (1, _), (2, _)]) (m := [encH ⟨some ⟨b_17, 0, none⟩, 2, 2⟩, encH ⟨some ⟨b_18, 0, none⟩, 2, 2⟩, encH ⟨some ⟨b_19, 0, none⟩, 2, 2⟩]) elt_22 rfl (.cons rfl (.cons rfl (.cons rfl (.nil)))) rfl (by simp [encI_len, encH_len, encRd_len, encW_len, encEm_len, encG_len]) (by decide) (by decide) rfl rfl (fun b_20 => ?_)
 refine zA ?_
 refine XO_nil (at_then (X_seq (X_region ?_)))
 refine zM ?_
 refine XO_buildSlice (ps := [(0, _), (1, _)]) (m := [encI 3, encI 7]) elt_23 rfl (.cons rfl (.cons rfl (.nil))) rfl (by simp [encI_len, encH_len, encRd_len, encW_len, encEm_len, encG_len]) (by decide) (by decide) rfl rfl (fun b_23 => ?_)
 refine XO_freezeAll (fun I1 hI1 hall1 => ?_)
 have hDb := hDb.mono hI1
 have hIc := hIc.trans hI1
 have hR3 : SlN I1 (some ⟨b_20, 0, none⟩) 3 3 [[5, 7], [5, 0], [9, 8589934592]] := lit_rows (vss := [[5, 7], [5, 0], [9, 8589934592]]) ([⟨some ⟨b_17, 0, none⟩, 2, 2⟩, ⟨some ⟨b_18, 0, none⟩, 2, 2⟩, ⟨some ⟨b_19, 0, none⟩, 2, 2⟩] : List Hd) rfl (show _ = some (Obj.cells (([⟨some ⟨b_17, 0, none⟩, 2, 2⟩, ⟨some ⟨b_18, 0, none⟩, 2, 2⟩, ⟨some ⟨b_19, 0, none⟩, 2, 2⟩] : List Hd).flatMap encH).toArray 23 (0, 0)) from hall1 _ _ (by repeat (first | exact List.mem_cons_self .. | apply List.mem_cons_of_mem))) (((RelH.nil.snoc (hd := ⟨some ⟨b_17, 0, none⟩, 2, 2⟩) (Sl.lit ([5, 7] : List Int) rfl encI_len (show _ = some (Obj.cells (([5, 7] : List Int).flatMap encI).toArray 3 (0, 0)) from hall1 _ _ (by repeat (first | exact List.mem_cons_self .. | apply List.mem_cons_of_mem))))).snoc (hd := ⟨some ⟨b_18, 0, none⟩, 2, 2⟩) (Sl.lit ([5, 0] : List Int) rfl encI_len (show _ = some (Obj.cells (([5, 0] : List Int).flatMap encI).toArray 3 (0, 0)) from hall1 _ _ (by repeat (first | exact List.mem_cons_self .. | apply List.mem_cons_of_mem))))).snoc (hd := ⟨some ⟨b_19, 0, none⟩, 2, 2⟩) (Sl.lit ([9, 8589934592] : List Int) rfl encI_len (show _ = some (Obj.cells (([9, 8589934592] : List Int).flatMap encI).toArray 3 (0, 0)) from hall1 _ _ (by repeat (first | exact List.mem_cons_self .. | apply List.mem_cons_of_mem)))))
 have hC3 : Sl I1 1 encI (some ⟨b_23, 0, none⟩) 2 2 [3, 7] := (Sl.lit ([3, 7] : List Int) rfl encI_len (show _ = some (Obj.cells (([3, 7] : List Int).flatMap encI).toArray 3 (0, 0)) from hall1 _ _ (by repeat (first | exact List.mem_cons_self .. | apply List.mem_cons_of_mem))))
 refine XO_callM (cap := []) (vs := [_, _]) rfl rfl fun_7 .nil (s_roots1 hR3 hC3 hDb) rfl rfl ?_
 rintro vv2 I2 L2 hI2 ⟨rfl, la, lc, rfl, hL⟩
 have hDb := hDb.mono hI2
 have hR3 := hR3.mono hI2
 have hIc := hIc.trans hI2
 refine zM ?_
 refine XO_v0 (ev_extract rfl rfl) rfl rfl rfl ?_
 refine XO_v0 (ev_extract rfl rfl) rfl rfl rfl ?_
 refine zA ?_
 refine zA ?_
 refine XO_nil (at_then (X_seq (X_region ?_)))
 refine XO_callM (cap := []) (vs := [_, _]) rfl rfl fun_7 .nil (s_roots2 SlN.none .nil hDb) rfl rfl ?_
 rintro vv3 I3 L3 hI3 ⟨rfl, a3, c3, rfl, _⟩
 have hDb := hDb.mono hI3
 have hR3 := hR3.mono hI3
 have hL := hL.mono hI3
 have hIc := hIc.trans hI3
 refine zM ?_
 refine XO_v0 (ev_extract rfl rfl) rfl rfl rfl ?_
 refine XO_v0 (ev_extract rfl rfl) rfl rfl rfl ?_
 refine zA ?_
 refine zA ?_
 refine XO_nil (at_then (X_seq (X_region ?_)))
 refine XO_buildSlice (ps := [(0, _)]) (m := [encI 7]) elt_23 rfl (.cons rfl (.nil)) rfl (by simp [encI_len, encH_len, encRd_len, encW_len, encEm_len, encG_len]) (by decide) (by decide) rfl rfl (fun b_32 => ?_)
 refine XO_buildSlice (ps := [(0, _)]) (m := [encH ⟨some ⟨b_32, 0, none⟩, 1, 1⟩]) elt_22 rfl (.cons rfl (.nil)) rfl (by simp [encI_len, encH_len, encRd_len, encW_len, encEm_len, encG_len]) (by decide) (by decide) rfl rfl (fun b_33 => ?_)
 refine XO_freezeAll (fun I4 hI4 hall4 => ?_)
 have hDb := hDb.mono hI4
 have hR3 := hR3.mono hI4
 have hL := hL.mono hI4
 have hIc := hIc.trans hI4
 have h71 : SlN I4 (some ⟨b_33, 0, none⟩) 1 1 [[7]] := lit_rows (vss := [[7]]) ([⟨some ⟨b_32, 0, none⟩, 1, 1⟩] : List Hd) rfl (show _ = some (Obj.cells (([⟨some ⟨b_32, 0, none⟩, 1, 1⟩] : List Hd).flatMap encH).toArray 23 (0, 0)) from hall4 _ _ (by repeat (first | exact List.mem_cons_self .. | apply List.mem_cons_of_mem))) (RelH.nil.snoc (hd := ⟨some ⟨b_32, 0, none⟩, 1, 1⟩) (Sl.lit ([7] : List Int) rfl encI_len (show _ = some (Obj.cells (([7] : List Int).flatMap encI).toArray 3 (0, 0)) from hall4 _ _ (by repeat (first | exact List.mem_cons_self .. | apply List.mem_cons_of_mem)))))
 refine XO_callM (cap := []) (vs := [_, _, _, _]) rfl rfl fun_14 .nil (s_makeNo (no := -1) (cl := []) (es := []) (e := 430) h71 .nil .nil hDb (by decide) (by decide) (by decide) (by kernel_rfl)) rfl rfl ?_
 rintro vv5 I5 L5 hI5 ⟨rfl, m0, m1, m2, m3, m4, m5, m6, m7, m8, m9, rfl⟩
 have hDb := hDb.mono hI5
 have hR3 := hR3.mono hI5
 have hL := hL.mono hI5
 have hIc := hIc.trans hI5
 refine zM ?_
 refine XO_v0 (ev_extract rfl rfl) rfl rfl rfl ?_
 refine XO_v0 (ev_extract rfl rfl) rfl rfl rfl ?_
 refine XO_alloc zt_34 rfl rfl (fun b_6 => ?_)
 refine XO_storeA rfl rfl szt_34 rfl rfl rfl rfl (by repeat (first | exact Upd.here | apply Upd.there | apply upd_app)) ?_
 refine zA ?_
 refine XO_nil (at_then (X_seq (X_region ?_)))
 refine XO_buildSlice (ps := [(0, _)]) (m := [encI 7]) elt_23 rfl (.cons rfl (.nil)) rfl (by simp [encI_len, encH_len, encRd_len, encW_len, encEm_len, encG_len]) (by decide) (by decide) rfl rfl (fun b_38 => ?_)
 refine XO_buildSlice (ps := [(0, _)]) (m := [encH ⟨some ⟨b_38, 0, none⟩, 1, 1⟩]) elt_22 rfl (.cons rfl (.nil)) rfl (by simp [encI_len, encH_len, encRd_len, encW_len, encEm_len, encG_len]) (by decide) (by decide) rfl rfl (fun b_39 => ?_)
 refine XO_freezeAll (fun I6 hI6 hall6 => ?_)
 have hDb := hDb.mono hI6
 have hR3 := hR3.mono hI6
 have hL := hL.mono hI6
 have hIc := hIc.trans hI6
 have h72 : SlN I6 (some ⟨b_39, 0, none⟩) 1 1 [[7]] := lit_rows (vss := [[7]]) ([⟨some ⟨b_38, 0, none⟩, 1, 1⟩] : List Hd) rfl (show _ = some (Obj.cells (([⟨some ⟨b_38, 0, none⟩, 1, 1⟩] : List Hd).flatMap encH).toArray 23 (0, 0)) from hall6 _ _ (by repeat (first | exact List.mem_cons_self .. | apply List.mem_cons_of_mem))) (RelH.nil.snoc (hd := ⟨some ⟨b_38, 0, none⟩, 1, 1⟩) (Sl.lit ([7] : List Int) rfl encI_len (show _ = some (Obj.cells (([7] : List Int).flatMap encI).toArray 3 (0, 0)) from hall6 _ _ (by repeat (first | exact List.mem_cons_self .. | apply List.mem_cons_of_mem)))))
 refine XO_callM (cap := []) (vs := [_, _, _, _]) rfl rfl fun_14 .nil (s_makeOK (no := 3) (cl := []) (es := []) (rd := [7]) (k := 1) h72 .nil .nil hDb (by decide) (by decide) (by decide) (by kernel_rfl) t_rd5 rfl) rfl rfl ?_
 rintro vv7 I7 L7 hI7 ⟨rfl, p1, p2, p3, p4, p5, p6, rfl, _, _, hX5⟩
 have hDb := hDb.mono hI7
 have hR3 := hR3.mono hI7
 have hL := hL.mono hI7
 have hIc := hIc.trans hI7
 refine zM ?_
 refine XO_v0 (ev_extract rfl rfl) rfl rfl rfl ?_
 refine XO_v0 (ev_extract rfl rfl) rfl rfl rfl ?_
 refine XO_alloc zt_34 rfl rfl (fun b_8 => ?_)
 refine XO_storeA rfl rfl szt_34 rfl rfl rfl rfl (by repeat (first | exact Upd.here | apply Upd.there | apply upd_app)) ?_
 refine zA ?_
 refine XO_nil (at_then (X_seq (X_region ?_)))
 refine zM ?_
 refine XO_buildSlice (ps := [(0, _), (1, _)]) (m := [encI 3, encI 7]) elt_23 rfl (.cons rfl (.cons rfl (.nil))) rfl (by simp [encI_len, encH_len, encRd_len, encW_len, encEm_len, encG_len]) (by decide) (by decide) rfl rfl (fun b_45 => ?_)
 refine XO_v0 (ev_buildL (ps := [(0, _), (1, _), (2, _)]) [_, _, _] plt_44 rfl rfl) rfl rfl rfl ?_
 refine XO_buildSlice (ps := [(0, _)]) (m := [encEm ⟨0, 9, 1⟩]) elt_32 rfl (.cons rfl (.nil)) rfl (by simp [encI_len, encH_len, encRd_len, encW_len, encEm_len, encG_len]) (by decide) (by decide) rfl rfl (fun b_47 => ?_)
 refine XO_freezeAll (fun I8 hI8 hall8 => ?_)
 have hDb := hDb.mono hI8
 have hR3 := hR3.mono hI8
 have hL := hL.mono hI8
 have hX5 := hX5.mono hI8
 have hIc := hIc.trans hI8
 have hC6 : Sl I8 1 encI (some ⟨b_45, 0, none⟩) 2 2 [3, 7] := (Sl.lit ([3, 7] : List Int) rfl encI_len (show _ = some (Obj.cells (([3, 7] : List Int).flatMap encI).toArray 3 (0, 0)) from hall8 _ _ (by repeat (first | exact List.mem_cons_self .. | apply List.mem_cons_of_mem))))
 have hE6 : Sl I8 3 encEm (some ⟨b_47, 0, none⟩) 1 1 [⟨0, 9, 1⟩] := Sl.lit ([⟨0, 9, 1⟩] : List Em) rfl encEm_len (show _ = some (Obj.cells (([⟨0, 9, 1⟩] : List Em).flatMap encEm).toArray 44 (0, 0)) from hall8 _ _ (by repeat (first | exact List.mem_cons_self .. | apply List.mem_cons_of_mem)))
 have hC8 : Cell I8 [] b_8 3 (.slice p5 1 p6) := .imm (hall8 _ _ (by repeat (first | exact List.mem_cons_self .. | apply List.mem_cons_of_mem))) rfl
 refine XO_callM (cap := []) (vs := [_, _, _, _]) rfl rfl fun_14 .nil (s_makeOK (no := 4) (rd := [9, 7]) (k := 2) hR3 hC6 hE6 hDb (by decide) (by decide) (by decide) (by kernel_rfl) t_rd6 rfl) rfl rfl ?_
 rintro vv9 I9 L9 hI9 ⟨rfl, q1, q2, q3, q4, q5, q6, rfl, _, _, hX6⟩
 have hDb := hDb.mono hI9
 have hR3 := hR3.mono hI9
 have hL := hL.mono hI9
 have hX5 := hX5.mono hI9
 have hC8 := hC8.mono hI9
 have hIc := hIc.trans hI9
 refine zM ?_
 refine XO_v0 (ev_extract rfl rfl) rfl rfl rfl ?_
 refine XO_v0 (ev_extract rfl rfl) rfl rfl rfl ?_
 refine XO_alloc zt_34 rfl rfl (fun b_10 => ?_)
 refine XO_storeA rfl rfl szt_34 rfl rfl rfl rfl (by repeat (first | exact Upd.here | apply Upd.there | apply upd_app)) ?_
 refine zA ?_
 refine XO_nil (at_then ?_)
 refine X_seq ?_
 refine X_seq (X_region ?_)
 refine zM ?_
 refine zC ?_
 refine zM ?_
 refine XO_want (dj := 53) rfl rfl rfl ?_
 refine zM ?_
 refine XO_want (dj := 53) rfl rfl rfl ?_
 refine zC ?_
 refine XO_v0 (ev_pickb rfl rfl rfl) rfl rfl rfl ?_
 refine zM ?_
 refine XO_want (dj := 57) rfl rfl rfl ?_
 refine zM ?_
 refine XO_want (dj := 57) rfl rfl rfl ?_
 refine zC ?_
 refine XO_v0 (ev_pickb rfl rfl rfl) rfl rfl rfl ?_
 refine zM ?_
 refine XO_want (dj := 61) rfl rfl rfl ?_
 refine zM ?_
 refine XO_want (dj := 61) rfl rfl rfl ?_
 refine zC ?_
 refine XO_v0 (ev_pickb rfl rfl rfl) rfl rfl rfl ?_
 refine zM ?_
 refine XO_want (dj := 65) rfl rfl rfl ?_
 refine zM ?_
 refine XO_want (dj := 65) rfl rfl rfl ?_
 refine zC ?_
 refine XO_v0 (ev_pickb rfl rfl rfl) rfl rfl rfl ?_
 refine zM ?_
 refine XO_want (dj := 69) rfl rfl rfl ?_
 refine zM ?_
 refine XO_want (dj := 69) rfl rfl rfl ?_
 refine XO_v0 (ev_lenS rfl slt_22) rfl rfl rfl ?_
 refine XO_want (dj := 69) rfl rfl rfl ?_
 refine zC ?_
 refine XO_v0 (ev_pickb rfl rfl rfl) rfl rfl rfl ?_
 refine XO_nil (at_then ?_)
 refine X_cond rfl (fun hc73 => ?_) (fun hc73 => ?_)
 ·
  exact absurd hc73 (by first | decide | (dsimp only; decide))
 ·
  refine X_skip ?_
  refine at_then ?_
  refine X_seq ?_
  refine X_seq ?_
  obtain ⟨lhs, hL9⟩ := id hL
  have hLh := hL9.1
  obtain ⟨y0, u0, hy0, hu0, hU0⟩ := hL9.at (k := 0) (by decide)
  obtain ⟨y1, u1, hy1, hu1, hU1⟩ := hL9.at (k := 1) (by decide)
  cases hu0
  cases hu1
  obtain ⟨ya0, yn0, yc0⟩ := y0
  obtain ⟨ya1, yn1, yc1⟩ := y1
  obtain rfl : yn0 = 2 := hU0.len.symm
  obtain rfl : yn1 = 1 := hU1.len.symm
  refine X_region ?_
  simp only [List.append_eq, List.cons_append, List.nil_append]
  refine zM ?_
  refine XO_v0 (ev_indexSl rfl rfl slt_22 hLh (fun hg => by first | decide | (dsimp only; decide))) rfl rfl rfl ?_
  refine XO_v0 (ev_load rfl sct_23 (fun hg => by exact Sl.get0 (k := 0) hLh hy0 rfl)) rfl rfl rfl ?_
  refine XO_v0 (ev_lenS rfl slt_23) rfl rfl rfl ?_
  refine zC ?_
  refine zM ?_
  refine XO_want (dj := 79) rfl rfl rfl ?_
  refine zM ?_
  refine XO_want (dj := 79) rfl rfl rfl ?_
  refine XO_v0 (ev_indexSl rfl rfl slt_22 hLh (fun hg => by first | decide | (dsimp only; decide))) rfl rfl rfl ?_
  refine XO_want (dj := 79) rfl rfl rfl ?_
  refine XO_v0 (ev_load rfl sct_23 (fun hg => by exact Sl.get0 (k := 0) hLh hy0 rfl)) rfl rfl rfl ?_
  refine XO_want (dj := 79) rfl rfl rfl ?_
  refine XO_v0 (ev_indexSl rfl rfl slt_23 hU0 (fun hg => by first | decide | (dsimp only; decide))) rfl rfl rfl ?_
  refine XO_want (dj := 79) rfl rfl rfl ?_
  refine XO_v0 (ev_load rfl sct_3 (fun hg => by exact Sl.get0 (k := 0) hU0 (show ([5, 9] : List Int)[0]? = some 5 from rfl) rfl)) rfl rfl rfl ?_
  refine XO_want (dj := 79) rfl rfl rfl ?_
  refine zC ?_
  refine XO_v0 (ev_pickb rfl rfl rfl) rfl rfl rfl ?_
  refine zM ?_
  refine XO_want (dj := 87) rfl rfl rfl ?_
  refine zM ?_
  refine XO_want (dj := 87) rfl rfl rfl ?_
  refine XO_v0 (ev_indexSl rfl rfl slt_22 hLh (fun hg => by first | decide | (dsimp only; decide))) rfl rfl rfl ?_
  refine XO_want (dj := 87) rfl rfl rfl ?_
  refine XO_v0 (ev_load rfl sct_23 (fun hg => by exact Sl.get0 (k := 0) hLh hy0 rfl)) rfl rfl rfl ?_
  refine XO_want (dj := 87) rfl rfl rfl ?_
  refine XO_v0 (ev_indexSl rfl rfl slt_23 hU0 (fun hg => by first | decide | (dsimp only; decide))) rfl rfl rfl ?_
  refine XO_want (dj := 87) rfl rfl rfl ?_
  refine XO_v0 (ev_load rfl sct_3 (fun hg => by exact Sl.get0 (k := 1) hU0 (show ([5, 9] : List Int)[1]? = some 9 from rfl) rfl)) rfl rfl rfl ?_
  refine XO_want (dj := 87) rfl rfl rfl ?_
  refine zC ?_
  refine XO_v0 (ev_pickb rfl rfl rfl) rfl rfl rfl ?_
  refine zM ?_
  refine XO_want (dj := 95) rfl rfl rfl ?_
  refine zM ?_
  refine XO_want (dj := 95) rfl rfl rfl ?_
  refine XO_v0 (ev_indexSl rfl rfl slt_22 hLh (fun hg => by first | decide | (dsimp only; decide))) rfl rfl rfl ?_
  refine XO_want (dj := 95) rfl rfl rfl ?_
  refine XO_v0 (ev_load rfl sct_23 (fun hg => by exact Sl.get0 (k := 1) hLh hy1 rfl)) rfl rfl rfl ?_
  refine XO_want (dj := 95) rfl rfl rfl ?_
  refine XO_v0 (ev_lenS rfl slt_23) rfl rfl rfl ?_
  refine XO_want (dj := 95) rfl rfl rfl ?_
  refine zC ?_
  refine XO_v0 (ev_pickb rfl rfl rfl) rfl rfl rfl ?_
  refine zM ?_
  refine XO_want (dj := 102) rfl rfl rfl ?_
  refine zM ?_
  refine XO_want (dj := 102) rfl rfl rfl ?_
  refine XO_v0 (ev_indexSl rfl rfl slt_22 hLh (fun hg => by first | decide | (dsimp only; decide))) rfl rfl rfl ?_
  refine XO_want (dj := 102) rfl rfl rfl ?_
  refine XO_v0 (ev_load rfl sct_23 (fun hg => by exact Sl.get0 (k := 1) hLh hy1 rfl)) rfl rfl rfl ?_
  refine XO_want (dj := 102) rfl rfl rfl ?_
  refine XO_v0 (ev_indexSl rfl rfl slt_23 hU1 (fun hg => by first | decide | (dsimp only; decide))) rfl rfl rfl ?_
  refine XO_want (dj := 102) rfl rfl rfl ?_
  refine XO_v0 (ev_load rfl sct_3 (fun hg => by exact Sl.get0 (k := 0) hU1 (show ([7] : List Int)[0]? = some 7 from rfl) rfl)) rfl rfl rfl ?_
  refine XO_want (dj := 102) rfl rfl rfl ?_
  refine zC ?_
  refine XO_v0 (ev_pickb rfl rfl rfl) rfl rfl rfl ?_
  refine zM ?_
  refine XO_want (dj := 110) rfl rfl rfl ?_
  refine XO_v0 (ev_fieldAddr rfl fld_34_3) rfl rfl rfl ?_
  refine XO_want (dj := 110) rfl rfl rfl ?_
  refine XO_v0 (ev_load rfl sct_23 (fun hg => by exact hC8.any)) rfl rfl rfl ?_
  refine XO_want (dj := 110) rfl rfl rfl ?_
  refine XO_v0 (ev_lenS rfl slt_23) rfl rfl rfl ?_
  refine XO_want (dj := 110) rfl rfl rfl ?_
  refine zC ?_
  refine XO_v0 (ev_pickb rfl rfl rfl) rfl rfl rfl ?_
  refine zM ?_
  refine XO_want (dj := 116) rfl rfl rfl ?_
  refine XO_v0 (ev_fieldAddr rfl fld_34_3) rfl rfl rfl ?_
  refine XO_want (dj := 116) rfl rfl rfl ?_
  refine XO_v0 (ev_load rfl sct_23 (fun hg => by exact hC8.any)) rfl rfl rfl ?_
  refine XO_want (dj := 116) rfl rfl rfl ?_
  refine XO_v0 (ev_indexSl rfl rfl slt_23 hX5 (fun hg => by first | decide | (dsimp only; decide))) rfl rfl rfl ?_
  refine XO_want (dj := 116) rfl rfl rfl ?_
  refine XO_v0 (ev_load rfl sct_3 (fun hg => by exact Sl.get0 (k := 0) hX5 (show ([7] : List Int)[0]? = some 7 from rfl) rfl)) rfl rfl rfl ?_
  refine XO_want (dj := 116) rfl rfl rfl ?_
  refine zC ?_
  refine XO_v0 (ev_pickb rfl rfl rfl) rfl rfl rfl ?_
  refine zM ?_
  refine XO_want (dj := 123) rfl rfl rfl ?_
  refine XO_v0 (ev_fieldAddr rfl fld_34_3) rfl rfl rfl ?_
  refine XO_want (dj := 123) rfl rfl rfl ?_
  refine XO_v0 (ev_load rfl sct_23 (fun hg => by exact Cell.h0 rfl)) rfl rfl rfl ?_
  refine XO_want (dj := 123) rfl rfl rfl ?_
  refine XO_v0 (ev_lenS rfl slt_23) rfl rfl rfl ?_
  refine XO_want (dj := 123) rfl rfl rfl ?_
  refine zC ?_
  refine XO_v0 (ev_pickb rfl rfl rfl) rfl rfl rfl ?_
  refine zM ?_
  refine XO_want (dj := 129) rfl rfl rfl ?_
  refine XO_v0 (ev_fieldAddr rfl fld_34_3) rfl rfl rfl ?_
  refine XO_want (dj := 129) rfl rfl rfl ?_
  refine XO_v0 (ev_load rfl sct_23 (fun hg => by exact Cell.h0 rfl)) rfl rfl rfl ?_
  refine XO_want (dj := 129) rfl rfl rfl ?_
  refine XO_v0 (ev_indexSl rfl rfl slt_23 hX6 (fun hg => by first | decide | (dsimp only; decide))) rfl rfl rfl ?_
  refine XO_want (dj := 129) rfl rfl rfl ?_
  refine XO_v0 (ev_load rfl sct_3 (fun hg => by exact Sl.get0 (k := 0) hX6 (show ([9, 7] : List Int)[0]? = some 9 from rfl) rfl)) rfl rfl rfl ?_
  refine XO_want (dj := 129) rfl rfl rfl ?_
  refine zC ?_
  refine XO_v0 (ev_pickb rfl rfl rfl) rfl rfl rfl ?_
  refine zM ?_
  refine XO_want (dj := 136) rfl rfl rfl ?_
  refine XO_v0 (ev_fieldAddr rfl fld_34_3) rfl rfl rfl ?_
  refine XO_want (dj := 136) rfl rfl rfl ?_
  refine XO_v0 (ev_load rfl sct_23 (fun hg => by exact Cell.h0 rfl)) rfl rfl rfl ?_
  refine XO_want (dj := 136) rfl rfl rfl ?_
  refine XO_v0 (ev_indexSl rfl rfl slt_23 hX6 (fun hg => by first | decide | (dsimp only; decide))) rfl rfl rfl ?_
  refine XO_want (dj := 136) rfl rfl rfl ?_
  refine XO_v0 (ev_load rfl sct_3 (fun hg => by exact Sl.get0 (k := 1) hX6 (show ([9, 7] : List Int)[1]? = some 7 from rfl) rfl)) rfl rfl rfl ?_
  refine XO_want (dj := 136) rfl rfl rfl ?_
  refine zC ?_
  refine XO_v0 (ev_pickb rfl rfl rfl) rfl rfl rfl ?_
  refine XO_nil (at_then ?_)
  refine X_cond rfl (fun hc142 => ?_) (fun hc142 => ?_)
  ·
   simp at hc142
  ·
   refine X_skip ?_
   refine at_then ?_
   refine X_seq (X_region ?_)
   refine XO_callV0 (cap := []) (vs := [_, _]) rfl rfl fun_15 (w_lawstep _ _ _) rfl rfl ?_
   refine XO_v0 (ev_buildL (ps := [(1, _)]) [_, _, _, _, _, _, _, _, _, _, _, _, _, _, _] plt_51 rfl rfl) rfl rfl rfl ?_
   refine XO_callV0 (cap := []) (vs := [_, _]) rfl rfl fun_15 (w_lawstep _ _ _) rfl rfl ?_
   refine XO_v0 (ev_buildL (ps := [(1, _)]) [_, _, _, _, _, _, _, _, _, _, _, _, _, _, _] plt_51 rfl rfl) rfl rfl rfl ?_
   refine XO_buildSlice (ps := [(0, _), (1, _)]) (m := [encRd ⟨false, stepG 1 0⟩, encRd ⟨false, stepG 2 5⟩]) elt_52 rfl (.cons rfl (.cons rfl (.nil))) rfl (by simp [encI_len, encH_len, encRd_len, encW_len, encEm_len, encG_len]) (by decide) (by decide) rfl rfl (fun b_147 => ?_)
   refine XO_v0 (ev_buildL (ps := [(0, _), (2, _)]) [_, _, _] plt_54 rfl rfl) rfl rfl rfl ?_
   refine XO_callV0 (cap := []) (vs := [_, _]) rfl rfl fun_15 (w_lawstep _ _ _) rfl rfl ?_
   refine XO_v0 (ev_buildL (ps := [(1, _)]) [_, _, _, _, _, _, _, _, _, _, _, _, _, _, _] plt_51 rfl rfl) rfl rfl rfl ?_
   refine XO_buildSlice (ps := [(0, _)]) (m := [encRd ⟨false, stepG 1 3⟩]) elt_52 rfl (.cons rfl (.nil)) rfl (by simp [encI_len, encH_len, encRd_len, encW_len, encEm_len, encG_len]) (by decide) (by decide) rfl rfl (fun b_151 => ?_)
   refine XO_v0 (ev_buildL (ps := [(0, _), (2, _)]) [_, _, _] plt_54 rfl rfl) rfl rfl rfl ?_
   refine XO_callV0 (cap := []) (vs := [_, _]) rfl rfl fun_15 (w_lawstep _ _ _) rfl rfl ?_
   refine XO_v0 (ev_buildL (ps := [(1, _)]) [_, _, _, _, _, _, _, _, _, _, _, _, _, _, _] plt_51 rfl rfl) rfl rfl rfl ?_
   refine XO_buildSlice (ps := [(0, _)]) (m := [encRd ⟨false, stepG 1 4⟩]) elt_52 rfl (.cons rfl (.nil)) rfl (by simp [encI_len, encH_len, encRd_len, encW_len, encEm_len, encG_len]) (by decide) (by decide) rfl rfl (fun b_155 => ?_)
   refine XO_v0 (ev_buildL (ps := [(0, _), (2, _)]) [_, _, _] plt_54 rfl rfl) rfl rfl rfl ?_
   refine XO_buildSlice (ps := [(0, _), (1, _), (2, _)]) (m := [encW ⟨1, 0, some ⟨b_147, 0, none⟩, 2, 2⟩, encW ⟨2, 0, some ⟨b_151, 0, none⟩, 1, 1⟩, encW ⟨3, 0, some ⟨b_155, 0, none⟩, 1, 1⟩]) elt_31 rfl (.cons rfl (.cons rfl (.cons rfl (.nil)))) rfl (by simp [encI_len, encH_len, encRd_len, encW_len, encEm_len, encG_len]) (by decide) (by decide) rfl rfl (fun b_157 => ?_)
   refine zA ?_
   refine XO_nil (at_then (X_seq (X_region ?_)))
   refine zM ?_
   refine XO_freezeAll (fun I10 hI10 hall10 => ?_)
   have hDb := hDb.mono hI10
   have hR3 := hR3.mono hI10
   have hL := hL.mono hI10
   have hX5 := hX5.mono hI10
   have hC8 := hC8.mono hI10
   have hX6 := hX6.mono hI10
   have hIc := hIc.trans hI10
   have hq1 : Sl I10 15 encRd (some ⟨b_147, 0, none⟩) 2 2 [⟨false, stepG 1 0⟩, ⟨false, stepG 2 5⟩] := Sl.lit ([⟨false, stepG 1 0⟩, ⟨false, stepG 2 5⟩] : List Rd) rfl encRd_len (show _ = some (Obj.cells (([⟨false, stepG 1 0⟩, ⟨false, stepG 2 5⟩] : List Rd).flatMap encRd).toArray 51 (0, 0)) from hall10 _ _ (by repeat (first | exact List.mem_cons_self .. | apply List.mem_cons_of_mem)))
   have hq2 : Sl I10 15 encRd (some ⟨b_151, 0, none⟩) 1 1 [⟨false, stepG 1 3⟩] := Sl.lit ([⟨false, stepG 1 3⟩] : List Rd) rfl encRd_len (show _ = some (Obj.cells (([⟨false, stepG 1 3⟩] : List Rd).flatMap encRd).toArray 51 (0, 0)) from hall10 _ _ (by repeat (first | exact List.mem_cons_self .. | apply List.mem_cons_of_mem)))
   have hq3 : Sl I10 15 encRd (some ⟨b_155, 0, none⟩) 1 1 [⟨false, stepG 1 4⟩] := Sl.lit ([⟨false, stepG 1 4⟩] : List Rd) rfl encRd_len (show _ = some (Obj.cells (([⟨false, stepG 1 4⟩] : List Rd).flatMap encRd).toArray 51 (0, 0)) from hall10 _ _ (by repeat (first | exact List.mem_cons_self .. | apply List.mem_cons_of_mem)))
   have hW9 : SlW I10 (some ⟨b_157, 0, none⟩) 3 3 w3 := ⟨[⟨1, 0, some ⟨b_147, 0, none⟩, 2, 2⟩, ⟨2, 0, some ⟨b_151, 0, none⟩, 1, 1⟩, ⟨3, 0, some ⟨b_155, 0, none⟩, 1, 1⟩], Sl.lit ([⟨1, 0, some ⟨b_147, 0, none⟩, 2, 2⟩, ⟨2, 0, some ⟨b_151, 0, none⟩, 1, 1⟩, ⟨3, 0, some ⟨b_155, 0, none⟩, 1, 1⟩] : List Wt) rfl encW_len (show _ = some (Obj.cells (([⟨1, 0, some ⟨b_147, 0, none⟩, 2, 2⟩, ⟨2, 0, some ⟨b_151, 0, none⟩, 1, 1⟩, ⟨3, 0, some ⟨b_155, 0, none⟩, 1, 1⟩] : List Wt).flatMap encW).toArray 54 (0, 0)) from hall10 _ _ (by repeat (first | exact List.mem_cons_self .. | apply List.mem_cons_of_mem))), rfl, fun k w x h1 h2 => by
    rcases k with _ | _ | _ | k
    ·
     cases h1; cases h2; exact ⟨rfl, rfl, hq1⟩
    ·
     cases h1; cases h2; exact ⟨rfl, rfl, hq2⟩
    ·
     cases h1; cases h2; exact ⟨rfl, rfl, hq3⟩
    ·
     simp at h1⟩
   refine XO_callM (cap := []) (vs := [_]) rfl rfl fun_16 .nil (s_table hW9) rfl rfl ?_
   rintro vv11 I11 L11 hI11 ⟨rfl, ta, tc, rfl, hT⟩
   have hDb := hDb.mono hI11
   have hR3 := hR3.mono hI11
   have hL := hL.mono hI11
   have hX5 := hX5.mono hI11
   have hC8 := hC8.mono hI11
   have hX6 := hX6.mono hI11
   have hW9 := hW9.mono hI11
   have hIc := hIc.trans hI11
   refine zM ?_
   refine XO_v0 (ev_extract rfl rfl) rfl rfl rfl ?_
   refine XO_v0 (ev_extract rfl rfl) rfl rfl rfl ?_
   refine zA ?_
   refine zA ?_
   refine XO_nil (at_then (X_seq (X_region ?_)))
   refine zM ?_
   refine XO_buildSlice (ps := [(0, _), (1, _)]) (m := [encI 6, encI 7]) elt_23 rfl (.cons rfl (.cons rfl (.nil))) rfl (by simp [encI_len, encH_len, encRd_len, encW_len, encEm_len, encG_len]) (by decide) (by decide) rfl rfl (fun b_165 => ?_)
   refine XO_freezeAll (fun I12 hI12 hall12 => ?_)
   have hDb := hDb.mono hI12
   have hR3 := hR3.mono hI12
   have hL := hL.mono hI12
   have hX5 := hX5.mono hI12
   have hC8 := hC8.mono hI12
   have hX6 := hX6.mono hI12
   have hW9 := hW9.mono hI12
   have hT := hT.mono hI12
   have hIc := hIc.trans hI12
   have hC13 : Sl I12 1 encI (some ⟨b_165, 0, none⟩) 2 2 [6, 7] := (Sl.lit ([6, 7] : List Int) rfl encI_len (show _ = some (Obj.cells (([6, 7] : List Int).flatMap encI).toArray 3 (0, 0)) from hall12 _ _ (by repeat (first | exact List.mem_cons_self .. | apply List.mem_cons_of_mem))))
   refine XO_callM (cap := []) (vs := [_, _, _, _]) rfl rfl fun_14 .nil (s_makeOK (no := 0) (es := []) (k := 2) hT hC13 .nil hDb (by decide) (by decide) (by decide) t_mk t_rz rfl) rfl rfl ?_
   rintro vv13 I13 L13 hI13 ⟨rfl, z1, z2, z3, z4, z5, z6, rfl, hZ1, hZ2, hZ3⟩
   have hDb := hDb.mono hI13
   have hR3 := hR3.mono hI13
   have hL := hL.mono hI13
   have hX5 := hX5.mono hI13
   have hC8 := hC8.mono hI13
   have hX6 := hX6.mono hI13
   have hW9 := hW9.mono hI13
   have hT := hT.mono hI13
   have hIc := hIc.trans hI13
   refine zM ?_
   refine XO_v0 (ev_extract rfl rfl) rfl rfl rfl ?_
   refine XO_v0 (ev_extract rfl rfl) rfl rfl rfl ?_
   refine XO_alloc zt_34 rfl rfl (fun b_14 => ?_)
   refine XO_storeA rfl rfl szt_34 rfl rfl rfl rfl (by repeat (first | exact Upd.here | apply Upd.there | apply upd_app)) ?_
   refine zA ?_
   refine XO_nil (at_then (X_seq (X_region ?_)))
   refine zM ?_
   refine zM ?_
   refine XO_v0 (ev_loadA rfl agt_34 (fun hg => by exact Cells.g0) rfl) rfl rfl rfl ?_
   refine XO_callM (cap := []) (vs := [_, _, _]) rfl rfl fun_11 .nil (s_signs hW9 hT hZ1 hZ2 hZ3 hDb) rfl rfl ?_
   rintro vv14 I14 L14 hI14 ⟨rfl, sa, sc, rfl, hSg⟩
   have hDb := hDb.mono hI14
   have hR3 := hR3.mono hI14
   have hL := hL.mono hI14
   have hX5 := hX5.mono hI14
   have hC8 := hC8.mono hI14
   have hX6 := hX6.mono hI14
   have hW9 := hW9.mono hI14
   have hT := hT.mono hI14
   have hZ1 := hZ1.mono hI14
   have hZ2 := hZ2.mono hI14
   have hZ3 := hZ3.mono hI14
   have hIc := hIc.trans hI14
   refine zM ?_
   refine XO_v0 (ev_extract rfl rfl) rfl rfl rfl ?_
   refine XO_v0 (ev_extract rfl rfl) rfl rfl rfl ?_
   refine zA ?_
   refine zA ?_
   refine XO_nil (at_then (X_seq (X_region ?_)))
   refine XO_v0 (ev_buildL (ps := []) [_, _, _, _] plt_34 rfl rfl) rfl rfl rfl ?_
   refine XO_callM (cap := []) (vs := [_, _, _]) rfl rfl fun_11 .nil (s_signs0 hDb) rfl rfl ?_
   rintro vv15 I15 L15 hI15 ⟨rfl, v9, rfl⟩
   have hDb := hDb.mono hI15
   have hR3 := hR3.mono hI15
   have hL := hL.mono hI15
   have hX5 := hX5.mono hI15
   have hC8 := hC8.mono hI15
   have hX6 := hX6.mono hI15
   have hW9 := hW9.mono hI15
   have hT := hT.mono hI15
   have hZ1 := hZ1.mono hI15
   have hZ2 := hZ2.mono hI15
   have hZ3 := hZ3.mono hI15
   have hSg := hSg.mono hI15
   have hIc := hIc.trans hI15
   refine zM ?_
   refine XO_v0 (ev_extract rfl rfl) rfl rfl rfl ?_
   refine XO_v0 (ev_extract rfl rfl) rfl rfl rfl ?_
   refine zA ?_
   refine XO_nil (at_then ?_)
   refine X_seq ?_
   refine X_seq (X_region ?_)
   refine zM ?_
   refine zC ?_
   refine zM ?_
   refine XO_want (dj := 183) rfl rfl rfl ?_
   refine zM ?_
   refine XO_want (dj := 183) rfl rfl rfl ?_
   refine zC ?_
   refine XO_v0 (ev_pickb rfl rfl rfl) rfl rfl rfl ?_
   refine zM ?_
   refine XO_want (dj := 187) rfl rfl rfl ?_
   refine zM ?_
   refine XO_want (dj := 187) rfl rfl rfl ?_
   refine zC ?_
   refine XO_v0 (ev_pickb rfl rfl rfl) rfl rfl rfl ?_
   refine zM ?_
   refine XO_want (dj := 191) rfl rfl rfl ?_
   refine zM ?_
   refine XO_want (dj := 191) rfl rfl rfl ?_
   refine zC ?_
   refine XO_v0 (ev_pickb rfl rfl rfl) rfl rfl rfl ?_
   refine zM ?_
   refine XO_want (dj := 195) rfl rfl rfl ?_
   refine zM ?_
   refine XO_want (dj := 195) rfl rfl rfl ?_
   refine XO_v0 (ev_loadA rfl agt_34 (fun hg => by exact Cells.g0) rfl) rfl rfl rfl ?_
   refine XO_want (dj := 195) rfl rfl rfl ?_
   refine XO_callV0 (cap := []) (vs := [_, _]) rfl rfl fun_17 (s_chk hT hZ1 hZ2 hZ3 hDb) rfl rfl ?_
   refine XO_want (dj := 195) rfl rfl rfl ?_
   refine zC ?_
   refine XO_v0 (ev_pickb rfl rfl rfl) rfl rfl rfl ?_
   refine XO_nil (at_then ?_)
   refine X_cond rfl (fun hc200 => ?_) (fun hc200 => ?_)
   ·
    exact absurd hc200 (by first | decide | (dsimp only; decide))
   ·
    refine X_skip ?_
    refine at_then ?_
    refine X_seq (X_region ?_)
    refine XO_v0 (ev_fieldAddr rfl fld_34_0) rfl rfl rfl ?_
    refine zS szt_3 ?_
    refine XO_nil (at_then (X_seq (X_region ?_)))
    refine XO_callV0 (cap := []) (vs := [_, _]) rfl rfl fun_15 (w_lawstep _ _ _) rfl rfl ?_
    refine XO_alloc zt_48 rfl rfl (fun b_16 => ?_)
    refine XO_storeA rfl rfl szt_48 rfl rfl rfl rfl (by repeat (first | exact Upd.here | apply Upd.there | apply upd_app)) ?_
    refine XO_nil (at_then (X_seq (X_region ?_)))
    refine XO_v0 (ev_fieldAddr rfl fld_48_0) rfl rfl rfl ?_
    refine zS szt_3 ?_
    refine XO_v0 (ev_fieldAddr rfl fld_48_3) rfl rfl rfl ?_
    refine zS szt_3 ?_
    refine XO_nil (at_then ?_)
    refine X_seq ?_
    have hD := HLe.refl I15
    refine X_drawC mixed ?_
    refine XD_take 0 rfl (ev_move rfl) (.none rfl) rfl rfl rfl (by kernel_rfl) (by kernel_rfl) (by kernel_rfl) noP_ok hD (by repeat (first | exact .refl | exact subL_nil | refine .keep ?_ | refine .drop ?_ | refine subL_add ?_)) ?_
    refine XD_take 1 rfl (ev_loadA rfl agt_34 (fun hg => by exact Cells.g1) rfl) (.none rfl) rfl rfl rfl (by kernel_rfl) (by kernel_rfl) (by kernel_rfl) noP_ok hD (by repeat (first | exact .refl | exact subL_nil | refine .keep ?_ | refine .drop ?_ | refine subL_add ?_)) ?_
    refine XD_one 2 rfl (by kernel_rfl) ?_
    refine XO_callV0 (cap := []) (vs := [_, _]) rfl rfl fun_17 (s_chk2 hT hZ1 hZ2 hZ3 hDb) rfl rfl ?_
    refine XO_nil ?_
    refine zD hD ?_
    refine XD_take 3 rfl (ev_cmp rfl rfl rfl) (.none rfl) rfl rfl rfl (by kernel_rfl) (by kernel_rfl) (by kernel_rfl) noP_ok hD (by repeat (first | exact .refl | exact subL_nil | refine .keep ?_ | refine .drop ?_ | refine subL_add ?_)) ?_
    refine XD_take 4 rfl (ev_move rfl) (.none rfl) rfl rfl rfl (by kernel_rfl) (by kernel_rfl) (by kernel_rfl) noP_ok hD (by repeat (first | exact .refl | exact subL_nil | refine .keep ?_ | refine .drop ?_ | refine subL_add ?_)) ?_
    refine XD_takeW 5 rfl rfl rfl (dj := 209) rfl (ev_move rfl) rfl (by kernel_rfl) (by kernel_rfl) (by kernel_rfl) noP_ok hD (by repeat (first | exact .refl | exact subL_nil | refine .keep ?_ | refine .drop ?_ | refine subL_add ?_)) ?_
    refine XD_takeW 7 rfl rfl rfl (dj := 209) rfl (ev_loadA rfl agt_48 (fun hg => by exact Cells.g0) rfl) rfl (by kernel_rfl) (by kernel_rfl) (by kernel_rfl) noP_ok hD (by repeat (first | exact .refl | exact subL_nil | refine .keep ?_ | refine .drop ?_ | refine subL_add ?_)) ?_
    refine XD_one 6 rfl (by kernel_rfl) ?_
    refine XO_want (dj := 209) rfl rfl rfl ?_
    refine XO_callV0 (cap := []) (vs := [_, _]) rfl rfl fun_15 (w_lawstep _ _ _) rfl rfl ?_
    refine XO_nil ?_
    refine zD hD ?_
    refine XD_one 8 rfl (by kernel_rfl) ?_
    refine XO_want (dj := 209) rfl rfl rfl ?_
    refine XO_buildSlice (ps := [(0, _), (1, _)]) (m := [encG (stepG 1 0), encG sg2]) elt_36 rfl (.cons rfl (.cons rfl (.nil))) rfl (by simp [encI_len, encH_len, encRd_len, encW_len, encEm_len, encG_len]) (by decide) (by decide) rfl rfl (fun b_213 => ?_)
    refine XO_nil ?_
    refine zD hD ?_
    refine XD_one 9 rfl (by kernel_rfl) ?_
    refine XO_freeze (b := b_213) (by repeat (first | exact Take.here | apply Take.there)) (fun I16 hI16 hb16 => ?_)
    have hDb := hDb.mono hI16
    have hR3 := hR3.mono hI16
    have hL := hL.mono hI16
    have hX5 := hX5.mono hI16
    have hC8 := hC8.mono hI16
    have hX6 := hX6.mono hI16
    have hW9 := hW9.mono hI16
    have hT := hT.mono hI16
    have hZ1 := hZ1.mono hI16
    have hZ2 := hZ2.mono hI16
    have hZ3 := hZ3.mono hI16
    have hSg := hSg.mono hI16
    have hIc := hIc.trans hI16
    have hD := hD.trans hI16
    have hS2 : Sl I16 14 encG (some ⟨b_213, 0, none⟩) 2 2 [stepG 1 0, sg2] := Sl.lit ([stepG 1 0, sg2] : List Sg) rfl encG_len (show _ = some (Obj.cells (([stepG 1 0, sg2] : List Sg).flatMap encG).toArray 48 (0, 0)) from hb16)
    refine XO_want (dj := 209) rfl rfl rfl ?_
    refine XO_callV0 (cap := []) (vs := [_, _]) rfl rfl fun_13 (s_same hSg hS2) rfl rfl ?_
    refine XO_nil ?_
    refine zD hD ?_
    refine XD_take 10 rfl (ev_pickb rfl rfl rfl) (.none rfl) rfl rfl rfl (by kernel_rfl) (by kernel_rfl) (by kernel_rfl) noP_ok hD (by repeat (first | exact .refl | exact subL_nil | refine .keep ?_ | refine .drop ?_ | refine subL_add ?_)) ?_
    refine XD_take 11 rfl (ev_assign rfl) (.none rfl) rfl rfl rfl (by kernel_rfl) (by kernel_rfl) (by kernel_rfl) noP_ok hD (by repeat (first | exact .refl | exact subL_nil | refine .keep ?_ | refine .drop ?_ | refine subL_add ?_)) ?_
    refine XD_done (by kernel_rfl) ?_
    refine at_noP ?_
    refine at_then ?_
    refine X_ret ?_
    exact at_ret1 rfl rfl (fun w hw => ⟨by rfl, (hw.mono hIc).drop⟩)
end Go.Proofs.YthcffaheamikgaaGreatDoor
end
