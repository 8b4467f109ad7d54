/- Lessons: the walks, WalkG: each function comes to its Lean function. -/
import Derived.Test.YtgfggmmffmfolaaWalkF
import Derived.Test.YtgfggmmffmfolaaPlainV
namespace Go.Proofs.Ytgfggmmffmfolaa
open Go Go.Kn Go.Proofs
theorem w_insert {I : HMap} {v : Value} {n : Nat} {xs : List Ls} {L : Go.Kn.Loc} (hO : OwnS 24 5 v n (xs.flatMap encL) L) (hn : n ≤ 100000) (hl : xs.length = n) {i : Nat} (hi : i ≤ n) (b2 : Nat) (y : Ls) :
    RetM Try.prog 29 [v, .int .i64 i, .slice (some ⟨b2, 0, none⟩) 1 1] I (L ++ [(b2, .cells [encL y].flatten.toArray 24 (0, 0))]) (fun v' I' L' => I' = I ∧ OwnS 24 5 v' (n + 1) ((xs.take i ++ y :: xs.drop i).flatMap encL) L') := by
  by_cases hin : i = n
  · subst hin
    obtain ⟨av, c, rfl⟩ := hO.shape
    exact w_ins_end hO hn hl b2 y
  · rcases hO.2 with ⟨_, h0, _⟩ | ⟨b, c, cur, rfl, rfl, hnc, hcm, hcs, ht⟩
    · omega
    · intro g H w hw
      have hne : b2 ≠ b := fun e => by
        have := hw.nodup
        subst e
        simp at this
      have hsplit : (xs.take i).flatMap encL ++ (xs.drop i).flatMap encL = xs.flatMap encL := by rw [← List.flatMap_append, List.take_append_drop]
      have hcur : cur = ((xs.take i).flatMap encL ++ (xs.drop i).flatMap encL ++ cur.toList.drop (n * 5)).toArray := by
        rw [hsplit, ← ht, List.take_append_drop, Array.toArray_toList]
      rw [hcur] at hw
      exact w_ins_in hl (by omega) hn hnc hcm (by rw [hsplit, ← ht, List.take_append_drop, Array.length_toList, hcs]) b2 hne y g H w hw

theorem drop_cons {α : Type} {xs : List α} {k : Nat} {x : α} (h : xs[k]? = some x) : xs.drop k = x :: xs.drop (k + 1) := by
  obtain ⟨h1, h2⟩ := List.getElem?_eq_some_iff.1 h
  rw [List.drop_eq_getElem_cons h1, h2]
theorem w_cmpG (I : HMap) (x y : Int) : RetV Try.prog 28 [.int .i64 x, .int .i64 y] I (.int .i64 (cmpG x y)) := w_cmp I x y

theorem w_or {I : HMap} {av : Option Addr} {n c : Nat} {xs : List Int} (hS : Sl I 1 encI av n c xs) (hn : n ≤ 100000) : RetV Try.prog 59 [.slice av n c] I (.int .i64 (orF xs)) := by
  intro g H w hw
  refine enter Try.func59 rfl Try.ntmps59 rfl hw ?_
  refine X_seq ?_
  refine X_region ?_
  refine XO_v0 (ev_assign rfl) rfl rfl rfl ?_
  refine XO_nil ?_
  refine at_then ?_
  refine X_seq ?_
  refine X_region ?_
  refine XO_v0 (ev_assign rfl) rfl rfl rfl ?_
  refine XO_nil ?_
  refine at_then ?_
  refine X_seq ?_
  refine X_seq ?_
  refine X_region ?_
  refine XO_v0 (ev_move rfl) rfl rfl rfl ?_
  refine XO_v0 (ev_lenS rfl slt_35) rfl rfl rfl ?_
  refine XO_v0 (ev_move rfl) rfl rfl rfl ?_
  refine XO_nil ?_
  refine at_then ?_
  refine X_block ?_
  refine X_loopT [(3, _), (6, _), (7, _)] (.cons rfl (.cons rfl (.cons rfl .nil))) (fun T L0 mz E I' loc' => ∃ (k : Nat), mz = n - k ∧ E = (8, .int .i64 k) :: T ∧ I = I' ∧ L0 = loc' ∧ k ≤ n ∧ orF xs = orF (xs.drop k)) _ _ _ _ ⟨0, rfl, rfl, rfl, rfl, Nat.zero_le _, rfl⟩ (.cons rfl (.cons rfl (.cons rfl (.cons rfl .nil)))) (HLe.refl _) rfl ?_
  rintro mz E I' loc' ⟨k, rfl, rfl, rfl, rfl, hk, ho⟩
  refine X_seq ?_
  refine X_region ?_
  refine XO_v0 (ev_cmp rfl rfl rfl) rfl rfl rfl ?_
  refine XO_nil ?_
  refine at_then ?_
  refine X_seq ?_
  refine X_cond rfl (fun hc9 => ?_) (fun hc9 => ?_)
  · skip
    have hlt_k : k < n := by have h := hc9; simp at h; omega
    obtain ⟨x, hx⟩ := hS.at hlt_k
    refine X_skip ?_
    refine at_then ?_
    refine X_seq ?_
    refine X_block ?_
    refine X_seq ?_
    refine X_region ?_
    refine XO_v0 (ev_indexSl rfl rfl slt_35 (by assumption) (fun hg => by first | omega | (simp [conj] at hg; omega))) rfl rfl rfl ?_
    refine XO_v0 (ev_load rfl sct_3 (fun hg => by first | exact Sl.get0 hS hx rfl | exact Cell.h0 rfl | exact Cell.h1 rfl | exact Cell.h2 rfl | exact Cell.h3 rfl | exact Cell.h4 rfl | exact Cell.h5 rfl | (repeat (first | exact Cell.here rfl | apply Cell.there | apply Cell.app)))) rfl rfl rfl ?_
    refine XO_v0 (ev_assign rfl) rfl rfl rfl ?_
    refine XO_nil ?_
    refine at_then ?_
    refine X_seq ?_
    refine X_region ?_
    refine XO_v0 (ev_move rfl) rfl rfl rfl ?_
    refine XO_v0 (ev_move rfl) rfl rfl rfl ?_
    refine XO_v0 (ev_cmp rfl rfl rfl) rfl rfl rfl ?_
    refine XO_nil ?_
    refine at_then ?_
    refine X_cond rfl (fun hc14 => ?_) (fun hc14 => ?_)
    · skip
      refine X_seq ?_
      refine X_region ?_
      refine XO_v0 (ev_move rfl) rfl rfl rfl ?_
      refine XO_v0 (ev_assign rfl) rfl rfl rfl ?_
      refine XO_nil ?_
      refine at_then ?_
      refine X_ret ?_
      refine at_block_r ?_
      refine at_then_r ?_
      refine at_then_r ?_
      refine at_block_r ?_
      refine at_then_r ?_
      first
      | exact at_ret1 rfl rfl (fun w hw => ⟨by rw [ho, drop_cons hx, orF, if_pos (by simpa using hc14)], hw.drop⟩)
      | exact at_ret1 rfl rfl (fun w hw => ⟨by rw [ho, List.drop_eq_nil_of_le (by rw [hS.len]; omega)]; rfl, hw.drop⟩)
    · skip
      refine X_skip ?_
      refine at_block_n ?_
      refine at_then ?_
      refine X_region ?_
      refine XO_v0 (ev_arB rfl rfl rfl (fun _ => by omega)) rfl rfl rfl ?_
      refine XO_v0 (ev_move rfl) rfl rfl rfl ?_
      refine XO_nil ?_
      exact at_met2 _ _ ⟨n - (k + 1), by omega, k + 1, rfl, rfl, rfl, rfl, by omega, by rw [ho, drop_cons hx, orF, if_neg (by simpa using hc14)]⟩ (.cons rfl (.cons rfl (.cons rfl (.cons rfl .nil)))) (by repeat (first | exact .refl | exact subL_left | refine subL_app ?_ | refine .drop ?_ | refine subL_add ?_))
  · skip
    have hge_k : n ≤ k := by have h := hc9; simp at h; omega
    refine X_exit ?_
    refine at_then_e ?_
    refine at_then_e ?_
    refine at_block_hit ?_
    refine at_then ?_
    refine X_seq ?_
    refine X_region ?_
    refine XO_v0 (ev_move rfl) rfl rfl rfl ?_
    refine XO_v0 (ev_assign rfl) rfl rfl rfl ?_
    refine XO_nil ?_
    refine at_then ?_
    refine X_ret ?_
    first
    | exact at_ret1 rfl rfl (fun w hw => ⟨by rw [ho, drop_cons hx, orF, if_pos (by simpa using hc14)], hw.drop⟩)
    | exact at_ret1 rfl rfl (fun w hw => ⟨by rw [ho, List.drop_eq_nil_of_le (by rw [hS.len]; omega)]; rfl, hw.drop⟩)

theorem w_compare (I : HMap) (x y : Ls) : RetV Try.prog 51 [encA x, encA y] I (.int .i64 (cmp3 x y)) := by
  intro g H w hw
  refine enter Try.func51 rfl Try.ntmps51 rfl hw ?_
  have hIc := HLe.refl I
  refine X_seq ?_
  refine X_region ?_
  refine XO_box rfl rfl rfl (fun b_2 => ?_)
  refine XO_box rfl rfl rfl (fun b_3 => ?_)
  refine XO_v0 (ev_assign rfl) rfl rfl rfl ?_
  refine XO_nil ?_
  refine at_then ?_
  refine X_seq ?_
  have hD := HLe.refl I
  refine X_drawC mixed ?_
  refine XD_take 0 rfl (ev_fieldAddr rfl fld_47_3) (.none rfl) rfl rfl rfl (by kernel_rfl) (by kernel_rfl) (by kernel_rfl) noP_ok hD (by repeat (first | exact .refl | exact subL_nil | refine .drop ?_ | refine subL_add ?_)) ?_
  refine XD_take 1 rfl (ev_load rfl sct_3 (fun hg => by first | exact Cell.h0 rfl | exact Cell.h1 rfl | exact Cell.h2 rfl | exact Cell.h3 rfl | exact Cell.h4 rfl | exact Cell.h5 rfl | (repeat (first | exact Cell.here rfl | apply Cell.there | apply Cell.app)))) (.none rfl) rfl rfl rfl (by kernel_rfl) (by kernel_rfl) (by kernel_rfl) noP_ok hD (by repeat (first | exact .refl | exact subL_nil | refine .drop ?_ | refine subL_add ?_)) ?_
  refine XD_take 2 rfl (ev_fieldAddr rfl fld_47_3) (.none rfl) rfl rfl rfl (by kernel_rfl) (by kernel_rfl) (by kernel_rfl) noP_ok hD (by repeat (first | exact .refl | exact subL_nil | refine .drop ?_ | refine subL_add ?_)) ?_
  refine XD_take 3 rfl (ev_load rfl sct_3 (fun hg => by first | exact Cell.h0 rfl | exact Cell.h1 rfl | exact Cell.h2 rfl | exact Cell.h3 rfl | exact Cell.h4 rfl | exact Cell.h5 rfl | (repeat (first | exact Cell.here rfl | apply Cell.there | apply Cell.app)))) (.none rfl) rfl rfl rfl (by kernel_rfl) (by kernel_rfl) (by kernel_rfl) noP_ok hD (by repeat (first | exact .refl | exact subL_nil | refine .drop ?_ | refine subL_add ?_)) ?_
  refine XD_take 5 rfl (ev_fieldAddr rfl fld_47_4) (.none rfl) rfl rfl rfl (by kernel_rfl) (by kernel_rfl) (by kernel_rfl) noP_ok hD (by repeat (first | exact .refl | exact subL_nil | refine .drop ?_ | refine subL_add ?_)) ?_
  refine XD_take 6 rfl (ev_load rfl sct_3 (fun hg => by first | exact Cell.h0 rfl | exact Cell.h1 rfl | exact Cell.h2 rfl | exact Cell.h3 rfl | exact Cell.h4 rfl | exact Cell.h5 rfl | (repeat (first | exact Cell.here rfl | apply Cell.there | apply Cell.app)))) (.none rfl) rfl rfl rfl (by kernel_rfl) (by kernel_rfl) (by kernel_rfl) noP_ok hD (by repeat (first | exact .refl | exact subL_nil | refine .drop ?_ | refine subL_add ?_)) ?_
  refine XD_take 7 rfl (ev_fieldAddr rfl fld_47_4) (.none rfl) rfl rfl rfl (by kernel_rfl) (by kernel_rfl) (by kernel_rfl) noP_ok hD (by repeat (first | exact .refl | exact subL_nil | refine .drop ?_ | refine subL_add ?_)) ?_
  refine XD_take 8 rfl (ev_load rfl sct_3 (fun hg => by first | exact Cell.h0 rfl | exact Cell.h1 rfl | exact Cell.h2 rfl | exact Cell.h3 rfl | exact Cell.h4 rfl | exact Cell.h5 rfl | (repeat (first | exact Cell.here rfl | apply Cell.there | apply Cell.app)))) (.none rfl) rfl rfl rfl (by kernel_rfl) (by kernel_rfl) (by kernel_rfl) noP_ok hD (by repeat (first | exact .refl | exact subL_nil | refine .drop ?_ | refine subL_add ?_)) ?_
  refine XD_take 10 rfl (ev_fieldAddr rfl fld_47_0) (.none rfl) rfl rfl rfl (by kernel_rfl) (by kernel_rfl) (by kernel_rfl) noP_ok hD (by repeat (first | exact .refl | exact subL_nil | refine .drop ?_ | refine subL_add ?_)) ?_
  refine XD_take 11 rfl (ev_load rfl sct_3 (fun hg => by first | exact Cell.h0 rfl | exact Cell.h1 rfl | exact Cell.h2 rfl | exact Cell.h3 rfl | exact Cell.h4 rfl | exact Cell.h5 rfl | (repeat (first | exact Cell.here rfl | apply Cell.there | apply Cell.app)))) (.none rfl) rfl rfl rfl (by kernel_rfl) (by kernel_rfl) (by kernel_rfl) noP_ok hD (by repeat (first | exact .refl | exact subL_nil | refine .drop ?_ | refine subL_add ?_)) ?_
  refine XD_take 12 rfl (ev_fieldAddr rfl fld_47_0) (.none rfl) rfl rfl rfl (by kernel_rfl) (by kernel_rfl) (by kernel_rfl) noP_ok hD (by repeat (first | exact .refl | exact subL_nil | refine .drop ?_ | refine subL_add ?_)) ?_
  refine XD_take 13 rfl (ev_load rfl sct_3 (fun hg => by first | exact Cell.h0 rfl | exact Cell.h1 rfl | exact Cell.h2 rfl | exact Cell.h3 rfl | exact Cell.h4 rfl | exact Cell.h5 rfl | (repeat (first | exact Cell.here rfl | apply Cell.there | apply Cell.app)))) (.none rfl) rfl rfl rfl (by kernel_rfl) (by kernel_rfl) (by kernel_rfl) noP_ok hD (by repeat (first | exact .refl | exact subL_nil | refine .drop ?_ | refine subL_add ?_)) ?_
  refine XD_one 4 rfl (by kernel_rfl) ?_
  refine XO_callV0 (cap := []) (vs := [_, _]) rfl rfl fun_28 (w_cmpG _ _ _) rfl rfl ?_
  refine XO_nil ?_
  refine at_D hD (by repeat (first | exact .refl | exact subL_nil | refine .drop ?_ | refine subL_add ?_)) ?_
  refine XD_one 9 rfl (by kernel_rfl) ?_
  refine XO_callV0 (cap := []) (vs := [_, _]) rfl rfl fun_28 (w_cmpG _ _ _) rfl rfl ?_
  refine XO_nil ?_
  refine at_D hD (by repeat (first | exact .refl | exact subL_nil | refine .drop ?_ | refine subL_add ?_)) ?_
  refine XD_one 14 rfl (by kernel_rfl) ?_
  refine XO_callV0 (cap := []) (vs := [_, _]) rfl rfl fun_28 (w_cmpG _ _ _) rfl rfl ?_
  refine XO_nil ?_
  refine at_D hD (by repeat (first | exact .refl | exact subL_nil | refine .drop ?_ | refine subL_add ?_)) ?_
  refine XD_one 15 rfl (by kernel_rfl) ?_
  refine XO_buildSlice (ps := [(0, _), (1, _), (2, _)]) (m := [encI (cmpG x.at_ y.at_), encI (cmpG x.known y.known), encI (cmpG x.no y.no)]) elt_35 rfl (.cons rfl (.cons rfl (.cons rfl (.nil)))) rfl (by simp [encL_len, encI_len, encH_len]) (by decide) (by decide) rfl rfl (fun b_20 => ?_)
  refine XO_nil ?_
  refine at_D hD (by repeat (first | exact .refl | exact subL_nil | refine .drop ?_ | refine subL_add ?_)) ?_
  refine XD_one 16 rfl (by kernel_rfl) ?_
  refine XO_freeze .here (fun I1 hI1 hb1 => ?_)
  have hIc := hIc.trans hI1
  have hD := hD.trans hI1
  have hN := Sl.lit [cmpG x.at_ y.at_, cmpG x.known y.known, cmpG x.no y.no] rfl encI_len (show _ = some (Obj.cells (([cmpG x.at_ y.at_, cmpG x.known y.known, cmpG x.no y.no] : List Int).flatMap encI).toArray 3 (0, 0)) from hb1)
  refine XO_callV0 (cap := []) (vs := [_]) rfl rfl fun_59 (w_or hN (by decide)) rfl rfl ?_
  refine XO_nil ?_
  refine at_D hD (by repeat (first | exact .refl | exact subL_nil | refine .drop ?_ | refine subL_add ?_)) ?_
  refine XD_take 17 rfl (ev_assign rfl) (.none rfl) rfl rfl rfl (by kernel_rfl) (by kernel_rfl) (by kernel_rfl) noP_ok hD (by repeat (first | exact .refl | exact subL_nil | refine .drop ?_ | refine subL_add ?_)) ?_
  refine XD_done (by kernel_rfl) ?_
  refine at_noP ?_
  refine at_then ?_
  refine X_ret ?_
  exact at_ret1 rfl rfl (fun w hw => ⟨by first | rfl | simp_all, (hw.mono hIc).drop⟩)

def capP (b : Nat) : Value := .pointer (some ⟨b, 0, none⟩)
/-- What the iterator of 'known' has taken in. -/
def KCap (I : HMap) (av : Option Addr) (n c : Nat) (day time : Int) (b1 b2 b3 : Nat) : Prop := I b1 = some (.cells #[.slice av n c] 22 (0, 0)) ∧ I b2 = some (.cells #[.int .i64 time] 3 (0, 0)) ∧ I b3 = some (.cells #[.int .i64 day] 3 (0, 0))

theorem w_known (I : HMap) (av : Option Addr) (n c : Nat) (day time : Int) : RetM Try.prog 52 [.slice av n c, .int .i64 day, .int .i64 time] I [] (fun v I' L => L = [] ∧ ∃ b1 b2 b3, v = .func (.func 60) #[] [capP b1, capP b2, capP b3].toArray ∧ KCap I' av n c day time b1 b2 b3) := by
  intro g H w hw
  refine enter Try.func52 rfl Try.ntmps52 rfl hw ?_
  have hIc := HLe.refl I
  refine X_seq ?_
  refine X_region ?_
  refine XO_box rfl rfl rfl (fun b_3 => ?_)
  refine XO_box rfl rfl rfl (fun b_4 => ?_)
  refine XO_box rfl rfl rfl (fun b_5 => ?_)
  refine XO_v0 (ev_assign rfl) rfl rfl rfl ?_
  refine XO_nil ?_
  refine at_then ?_
  refine X_seq ?_
  refine X_freeze .here (fun I1 hI1 hb1 => ?_)
  have hIc := hIc.trans hI1
  have h5 := hb1
  refine X_freeze .here (fun I2 hI2 hb2 => ?_)
  have hIc := hIc.trans hI2
  have h4 := hb2
  have h5 := hI2 _ _ h5
  refine X_freeze .here (fun I3 hI3 hb3 => ?_)
  have hIc := hIc.trans hI3
  have h3 := hb3
  have h4 := hI3 _ _ h4; have h5 := hI3 _ _ h5
  refine X_region ?_
  refine XO_v0 (ev_makeFunc (us := []) (vs := [_, _, _]) rfl rfl) rfl rfl rfl ?_
  refine XO_v0 (ev_assign rfl) rfl rfl rfl ?_
  refine XO_nil ?_
  refine at_then ?_
  refine X_ret ?_
  exact at_ret1 rfl rfl (fun w hw => ⟨_, I3, [], rfl, hIc, hw.drop, rfl, b_3, b_5, b_4, rfl, h3, h5, h4⟩)

theorem w_iter {I : HMap} {av : Option Addr} {n c : Nat} {xs : List Ls} (hS : Sl I 5 encL av n c xs) (hn : n ≤ 100000) {day time : Int} {b1 b2 b3 : Nat} (hcap : KCap I av n c day time b1 b2 b3) : SeqC Try.prog 60 [capP b1, capP b2, capP b3] I encA (xs.filter (knownP day time)) := by
  intro g l J Jx hY I0 H w h0 hJ hw
  obtain ⟨h1, h2, h3⟩ := hcap
  have hS := hS.mono h0
  have h1 := h0 _ _ h1; have h2 := h0 _ _ h2; have h3 := h0 _ _ h3
  refine enter Try.func60 rfl Try.ntmps60 rfl hw ?_
  refine X_seq ?_
  refine X_region ?_
  refine XO_v0 (ev_load rfl sct_22 (fun hg => by first | exact Cell.imm h1 rfl | exact Cell.imm h2 rfl | exact Cell.imm h3 rfl | exact Cell.h0 rfl | exact Cell.h1 rfl | exact Cell.h2 rfl | exact Cell.h3 rfl | exact Cell.h4 rfl | exact Cell.h5 rfl)) rfl rfl rfl ?_
  refine XO_v0 (ev_lenS rfl slt_22) rfl rfl rfl ?_
  refine XO_v0 (ev_move rfl) rfl rfl rfl ?_
  refine XO_nil ?_
  refine at_then ?_
  refine X_block ?_
  refine X_loopH (fun m E I' H' loc' => ∃ k : Nat, m = n - k ∧ E = [(0, .func (.yield l) #[] #[]), (1, capP b1), (2, capP b2), (3, capP b3), (7, .slice av n c), (8, .int .i64 n), (9, .int .i64 k)] ∧ loc' = [] ∧ HLe I0 I' ∧ k ≤ n ∧ J ((xs.take k).filter (knownP day time)) I' H') _ _ _ ⟨0, rfl, rfl, rfl, HLe.refl _, Nat.zero_le _, hJ⟩ (.cons rfl (.cons rfl (.cons rfl (.cons rfl (.cons rfl (.cons rfl (.cons rfl .nil))))))) rfl ?_
  rintro m E I' H' loc' ⟨k, rfl, rfl, rfl, hI1, hk, hJk⟩
  have hS := hS.mono hI1
  have h1 := hI1 _ _ h1; have h2 := hI1 _ _ h2; have h3 := hI1 _ _ h3
  have hI0 := h0.trans hI1
  refine X_seq ?_
  refine X_region ?_
  refine XO_v0 (ev_cmp rfl rfl rfl) rfl rfl rfl ?_
  refine XO_nil ?_
  refine at_then ?_
  refine X_seq ?_
  refine X_cond rfl (fun hc10 => ?_) (fun hc10 => ?_)
  · skip
    have hlt : k < n := by simpa using hc10
    obtain ⟨x, hx⟩ := hS.at hlt
    refine X_skip ?_
    refine at_then ?_
    refine X_seq ?_
    refine X_block ?_
    refine X_seq ?_
    refine X_region ?_
    refine XO_v0 (ev_indexSl rfl rfl slt_22 (by assumption) (fun hg => by omega)) rfl rfl rfl ?_
    refine XO_v0 (ev_loadA rfl agt_24 (fun hg => by first | exact Sl.getA hS hx | exact Cells.g0 | exact Cells.g1 | exact Cells.g2 | exact Cells.g3 | exact Cells.g4 | exact Cells.g5) rfl) rfl rfl rfl ?_
    refine XO_alloc zt_24 rfl rfl (fun b_6 => ?_)
    refine XO_storeA rfl rfl szt_24 rfl rfl rfl rfl (by first | exact Upd.u0 | exact Upd.u1 | exact Upd.u2 | exact Upd.u3 | exact Upd.u4 | exact Upd.u5) ?_
    refine XO_nil ?_
    refine at_then ?_
    refine X_seq ?_
    have hp : ∀ {b : Bool} {G : Env}, conj [(b, G)] = true → b = (decide (x.known ≤ time) && decide (x.at_ ≤ day)) → knownP day time x = true := fun h e => by unfold knownP; rw [← e]; simpa [conj] using h
    refine X_region ?_
    refine XO_v0 (ev_fieldAddr rfl fld_24_4) rfl rfl rfl ?_
    refine XO_v0 (ev_load rfl sct_3 (fun hg => by first | exact Cell.imm h1 rfl | exact Cell.imm h2 rfl | exact Cell.imm h3 rfl | exact Cell.h0 rfl | exact Cell.h1 rfl | exact Cell.h2 rfl | exact Cell.h3 rfl | exact Cell.h4 rfl | exact Cell.h5 rfl)) rfl rfl rfl ?_
    refine XO_v0 (ev_load rfl sct_3 (fun hg => by first | exact Cell.imm h1 rfl | exact Cell.imm h2 rfl | exact Cell.imm h3 rfl | exact Cell.h0 rfl | exact Cell.h1 rfl | exact Cell.h2 rfl | exact Cell.h3 rfl | exact Cell.h4 rfl | exact Cell.h5 rfl)) rfl rfl rfl ?_
    refine XO_v0 (ev_cmp rfl rfl rfl) rfl rfl rfl ?_
    refine XO_v0 (ev_move rfl) rfl rfl rfl ?_
    refine XO_pushT 4 rfl rfl rfl ?_
    refine XO_v1 (ev_fieldAddr rfl fld_24_3) (.some rfl rfl rfl rfl gbt) rfl rfl rfl ?_
    refine XO_v1 (ev_load rfl sct_3 (fun hg => by first | exact Cell.imm h1 rfl | exact Cell.imm h2 rfl | exact Cell.imm h3 rfl | exact Cell.h0 rfl | exact Cell.h1 rfl | exact Cell.h2 rfl | exact Cell.h3 rfl | exact Cell.h4 rfl | exact Cell.h5 rfl)) (.some rfl rfl rfl rfl gbt) rfl rfl rfl ?_
    refine XO_v1 (ev_load rfl sct_3 (fun hg => by first | exact Cell.imm h1 rfl | exact Cell.imm h2 rfl | exact Cell.imm h3 rfl | exact Cell.h0 rfl | exact Cell.h1 rfl | exact Cell.h2 rfl | exact Cell.h3 rfl | exact Cell.h4 rfl | exact Cell.h5 rfl)) (.some rfl rfl rfl rfl gbt) rfl rfl rfl ?_
    refine XO_v1 (ev_cmp rfl rfl rfl) (.some rfl rfl rfl rfl gbt) rfl rfl rfl ?_
    refine XO_and0 rfl rfl rfl rfl rfl ?_
    refine XO_v0 (ev_move rfl) rfl rfl rfl ?_
    refine XO_pushT 10 rfl rfl rfl ?_
    refine XO_v1 (ev_move rfl) (.some rfl rfl rfl rfl gbt) rfl rfl rfl ?_
    refine XO_v1 (ev_loadA rfl agt_24 (fun hg => by first | exact Sl.getA hS hx | exact Cells.g0 | exact Cells.g1 | exact Cells.g2 | exact Cells.g3 | exact Cells.g4 | exact Cells.g5) rfl) (.some rfl rfl rfl rfl gbt) rfl rfl rfl ?_
    refine XO_yield1 (vs := [_]) (Post := fun b I2 H2 => if b then J ((xs.take k).filter (knownP day time) ++ [x]) I2 H2 else Jx ((xs.take k).filter (knownP day time) ++ [x]) I2 H2) rfl rfl (.some rfl rfl rfl rfl gbt) rfl rfl (fun hcj => hY _ x _ _ (fil_pre hx (hp hcj rfl)) hI0 hJk) ?_
    rintro b I2 H2 hI2 hyes hno
    refine XO_v1 (ev_not rfl) (.some rfl rfl rfl rfl gbt) rfl rfl rfl ?_
    refine XO_and0 rfl rfl rfl rfl rfl ?_
    refine XO_nil ?_
    refine at_then ?_
    refine X_cond rfl (fun hc28 => ?_) (fun hc28 => ?_)
    · skip
      refine X_ret ?_
      refine at_block_r ?_
      refine at_then_r ?_
      refine at_then_r ?_
      refine at_block_r ?_
      first
      | (exact at_ret0 rfl (fun w hw => ⟨_, I2, H2, rfl, hI1.trans hI2, hw.drop, .inr ⟨_, fil_pre hx (by have hPx : (decide (x.known ≤ time) && decide (x.at_ ≤ day)) = knownP day time x := rfl; rw [hPx, Bool.and_eq_true] at hc28; exact hc28.1), by have hPx : (decide (x.known ≤ time) && decide (x.at_ ≤ day)) = knownP day time x := rfl; rw [hPx] at hc28 hyes; rw [Bool.and_eq_true, Bool.not_eq_true'] at hc28; rw [hc28.1, hc28.2] at hyes; exact hyes rfl⟩⟩))
      | (exact at_norm (at_ret0 rfl (fun w hw => ⟨_, I', H', rfl, hI1, hw, .inl (by rw [fil_end (by rw [hS.len]; omega)] at hJk; exact hJk)⟩)))
    · skip
      refine X_skip ?_
      refine at_block_n ?_
      refine at_then ?_
      refine X_region ?_
      refine XO_v0 (ev_arB rfl rfl rfl (fun _ => by omega)) rfl rfl rfl ?_
      refine XO_v0 (ev_move rfl) rfl rfl rfl ?_
      refine XO_nil ?_
      have hJ2 : J ((xs.take (k + 1)).filter (knownP day time)) I2 H2 := by
        rw [filter_step hx]
        have hPx : (decide (x.known ≤ time) && decide (x.at_ ≤ day)) = knownP day time x := rfl
        rw [hPx] at hc28 hyes hno
        cases hA : knownP day time x with
        | true =>
          rw [hA] at hc28 hyes; have hb : b = true := by simpa using hc28
          subst hb; exact hyes rfl
        | false => rw [hA] at hno; obtain ⟨e1, e2⟩ := hno rfl; rw [if_neg Bool.false_ne_true, List.append_nil, e1, e2]; exact hJk
      exact at_metH2 rfl rfl rfl _ [] ⟨n - (k + 1), by omega, k + 1, rfl, rfl, rfl, hI1.trans hI2, by omega, hJ2⟩ (.cons rfl (.cons rfl (.cons rfl (.cons rfl (.cons rfl (.cons rfl (.cons rfl .nil))))))) (.drop .refl)
  · skip
    have hge : n ≤ k := by simpa using hc10
    refine X_exit ?_
    refine at_then_e ?_
    refine at_then_e ?_
    refine at_block_hit ?_
    first
    | (exact at_ret0 rfl (fun w hw => ⟨_, I2, H2, rfl, hI1.trans hI2, hw.drop, .inr ⟨_, fil_pre hx (by have hPx : (decide (x.known ≤ time) && decide (x.at_ ≤ day)) = knownP day time x := rfl; rw [hPx, Bool.and_eq_true] at hc28; exact hc28.1), by have hPx : (decide (x.known ≤ time) && decide (x.at_ ≤ day)) = knownP day time x := rfl; rw [hPx] at hc28 hyes; rw [Bool.and_eq_true, Bool.not_eq_true'] at hc28; rw [hc28.1, hc28.2] at hyes; exact hyes rfl⟩⟩))
    | (exact at_norm (at_ret0 rfl (fun w hw => ⟨_, I', H', rfl, hI1, hw, .inl (by rw [fil_end (by rw [hS.len]; omega)] at hJk; exact hJk)⟩)))
end Go.Proofs.Ytgfggmmffmfolaa
