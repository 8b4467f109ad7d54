/- roomsSignsSpec_holds, part E of the proof: what its theorems say holds without further conditions. -/
import Derived.Test.YtccomeanpppfmaaGreatSignsD
section
namespace Go.Proofs.YtccomeanpppfmaaGreat
open Go Go.Kn Go.Proofs
theorem w_un1 {I : HMap} {b1 b2 r1 r2 r3 : Nat} {av : Option Addr} {n c : Nat} {p : Pt} {ps : List Pt} (h1 : I b1 = some (.cells #[.map (some r1), .map (some r2), .map (some r3), .slice av n c] 85 (0, 0))) (h2 : I b2 = some (.cells (encP p).toArray 53 (0, 0))) (hOn : OnM I r1 ps) (id : Int) (hid : ∃ q ∈ ps, q.id = id) : RetV Tryz.prog 87 [.int .i64 id, .pointer (some ⟨b1, 0, none⟩), .pointer (some ⟨b2, 0, none⟩)] I (.bool (!onF ps id p.id)) := by
 intro g H w hw
 refine enter Tryz.func87 rfl Tryz.ntmps87 rfl hw ?_
 obtain ⟨m, hm1, hm2⟩ := hOn
 obtain ⟨ref, hget, sn, hsn, hsq⟩ := hm2.get hid
 refine X_seq (X_region ?_)
 refine XO_v0 (ev_assign rfl) rfl rfl rfl ?_
 refine XO_nil (at_then ?_)
 refine X_seq (X_region ?_)
 refine XO_v0 (ev_fieldAddr rfl fld_85_0) rfl rfl rfl ?_
 refine XO_v0 (ev_load rfl sct_74 (fun hg => by first | exact .imm h1 rfl | exact .imm h2 rfl | (repeat (first | exact Cell.here rfl | apply Cell.there | apply Cell.app)))) rfl rfl rfl ?_
 refine XO_v0 (ev_move rfl) rfl rfl rfl ?_
 refine XO_v0 (ev_lookupG (m := m) (ek := Value.int .i64) (ev := refV) (a := id) hget mpt_74 key_3 rfl rfl (fun _ => .inl hm1)) rfl rfl rfl ?_
 refine XO_v0 (ev_fieldAddr rfl fld_53_0) rfl rfl rfl ?_
 refine XO_v0 (ev_load rfl sct_3 (fun hg => by first | exact .imm h1 rfl | exact .imm h2 rfl | (repeat (first | exact Cell.here rfl | apply Cell.there | apply Cell.app)))) rfl rfl rfl ?_
 refine XO_v0 (ev_lookupBool (m := sn) mpt_71 key_3 rfl rfl (fun _ => .inl hsn)) rfl rfl rfl ?_
 refine XO_v0 (ev_not rfl) rfl rfl rfl ?_
 refine XO_v0 (ev_assign rfl) rfl rfl rfl ?_
 refine XO_nil (at_then ?_)
 refine X_ret ?_
 exact at_ret1 rfl rfl (fun w hw => ⟨by rw [show (mget sn p.id).getD false = onF ps id p.id from hsq.mem _], hw.drop⟩)
theorem w_unseen {I : HMap} {ps l : List Pt} {xs : List Sg} {r1 r2 r3 : Nat} {av : Option Addr} {n c : Nat} (hx : StQ I ps l xs r1 r2 r3 av n c) (s : Int) : RetM Tryz.prog 49 [stA r1 r2 r3 av n c, .int .i64 s] I [] (SlRes 1 encI (unK (onF ps) l s 9)) := by
 intro g H w hw
 refine enter Tryz.func49 rfl Tryz.ntmps49 rfl hw ?_
 have hIc := HLe.refl I
 obtain ⟨ms, hms, hset⟩ := hx.set
 obtain ⟨mr, hmr, hrem⟩ := hx.rem
 obtain ⟨av3, c3, hv3, hS3⟩ := hrem s
 have hfl := hx.fewl
 have hrl := rm_len (l := l) (s := s)
 refine X_seq (X_region ?_)
 refine XO_box rfl rfl rfl (fun b_2 => ?_)
 refine XO_v0 (ev_assign rfl) rfl rfl rfl ?_
 refine XO_nil (at_then ?_)
 refine X_seq ?_
 refine X_seq ?_
 refine X_dropTo ((b_2, .cells #[.map (some r1), .map (some r2), .map (some r3), .slice av n c] 85 (0, 0)) :: []) .refl ?_
 refine X_region ?_
 refine XO_v0 (ev_assign rfl) rfl rfl rfl ?_
 refine XO_nil (at_then ?_)
 refine X_block ?_
 refine X_loopT [(1, _), (2, _)] (.cons rfl (.cons rfl .nil)) (fun T L0 mz E I' loc' => ∃ (k : Nat) (v : Value) (q : Nat) (L : Go.Kn.Loc), mz = 9 - k ∧ E = (4, v) :: (5, .int .i64 ((k : Int) + 1)) :: T ∧ I = I' ∧ (b_2, .cells #[.map (some r1), .map (some r2), .map (some r3), .slice av n c] 85 (0, 0)) :: L = loc' ∧ k ≤ 9 ∧ OwnS 3 1 v q ((unK (onF ps) l s k).flatMap encI) L ∧ True) _ _ _ _ ⟨0, _, 0, [], rfl, rfl, rfl, rfl, Nat.zero_le _, OwnS.nil, trivial⟩ (.cons rfl (.cons rfl (.cons rfl (.cons rfl .nil)))) (HLe.refl _) rfl ?_
 rintro mz E I' loc' ⟨k, v, q, L, rfl, rfl, rfl, rfl, hk, hO, _⟩
 refine X_seq ?_
 refine X_seq (X_region ?_)
 refine XO_v0 (ev_move rfl) rfl rfl rfl ?_
 refine XO_v0 (ev_cmp rfl rfl rfl) rfl rfl rfl ?_
 refine XO_nil (at_then ?_)
 refine X_cond rfl (fun hc9 => ?_) (fun hc9 => ?_)
 ·
  have hlt_k : k < 9 := by have h := hc9; simp at h; omega
  refine X_skip ?_
  refine at_then ?_
  refine X_seq ?_
  refine X_block ?_
  refine X_seq ?_
  obtain ⟨av2, c2, hv2, hS2⟩ := hset (s, (k : Int) + 1)
  dsimp only at hv2 hS2
  have hstl := stF_len (l := l) (s := s) (f := (k : Int) + 1)
  refine X_region ?_
  refine XO_v0 (ev_fieldAddr rfl fld_85_1) rfl rfl rfl ?_
  refine XO_v0 (ev_load rfl sct_83 (fun hg => by repeat (first | exact Cell.here rfl | apply Cell.there | apply Cell.app))) rfl rfl rfl ?_
  refine XO_v0 (ev_move rfl) rfl rfl rfl ?_
  refine XO_v0 (ev_move rfl) rfl rfl rfl ?_
  refine XO_v0 (ev_buildArr (ps := [(0, _), (1, _)]) [_, _] art_133 zt_133 rfl rfl) rfl rfl rfl ?_
  refine XO_v0 (ev_lookupTE (m := ms) (ek := encK2) (a := (s, (k : Int) + 1)) hv2 mpt_83 key_133 rfl rfl (fun _ => .inl hms)) rfl rfl rfl ?_
  refine XO_v0 (ev_lenS rfl slt_22) rfl rfl rfl ?_
  refine XO_v0 (ev_move rfl) rfl rfl rfl ?_
  refine XO_nil (at_then ?_)
  refine X_block ?_
  refine X_loopT [(1, _), (2, _), (5, _), (17, _), (18, _)] (.cons rfl (.cons rfl (.cons rfl (.cons rfl (.cons rfl .nil))))) (fun T L0 mz E I' loc' => ∃ (j : Nat) (v : Value) (q : Nat) (L : Go.Kn.Loc), mz = (stF l s ((k : Int) + 1)).length - j ∧ E = (4, v) :: (19, .int .i64 j) :: T ∧ I = I' ∧ (b_2, .cells #[.map (some r1), .map (some r2), .map (some r3), .slice av n c] 85 (0, 0)) :: L = loc' ∧ j ≤ (stF l s ((k : Int) + 1)).length ∧ OwnS 3 1 v q ((unK (onF ps) l s k ++ filI (unP1 (onF ps) l s) ((stF l s ((k : Int) + 1)).take j)).flatMap encI) L ∧ True) _ _ _ _ ⟨0, v, q, L, rfl, rfl, rfl, rfl, Nat.zero_le _, by rw [filI_zero, List.append_nil]; exact hO, trivial⟩ (.cons rfl (.cons rfl (.cons rfl (.cons rfl (.cons rfl (.cons rfl (.cons rfl .nil))))))) (HLe.refl _) rfl ?_
  rintro mz E I' loc' ⟨j, v, q, L, rfl, rfl, rfl, rfl, hj, hO, _⟩
  refine X_seq (X_region ?_)
  refine XO_v0 (ev_cmp rfl rfl rfl) rfl rfl rfl ?_
  refine XO_nil (at_then ?_)
  refine X_seq ?_
  refine X_cond rfl (fun hc20 => ?_) (fun hc20 => ?_)
  ·
   have hlt_j : j < (stF l s ((k : Int) + 1)).length := by have h := hc20; simp at h; omega
   obtain ⟨p, hp⟩ := hS2.at hlt_j
   refine X_skip ?_
   refine at_then ?_
   refine X_seq ?_
   refine X_block ?_
   refine X_seq (X_region ?_)
   refine XO_v0 (ev_indexSl rfl rfl slt_22 (by assumption) (fun hg => by first | omega | (simp [conj] at hg; omega))) rfl rfl rfl ?_
   refine XO_v0 (ev_loadA rfl agt_53 (fun hg => by first | exact Sl.getA hS2 hp | (repeat (first | exact Cells.here | exact Cells.s0 (vs := [_, _, _, _, _, _, _, _, _, _, _, _, _, _, _, _, _, _, _]) rfl | apply Cells.there | apply Cells.app))) rfl) rfl rfl rfl ?_
   refine XO_alloc zt_53 rfl rfl (fun b_7 => ?_)
   refine XO_storeA rfl rfl szt_53 rfl rfl rfl rfl (by repeat (first | exact Upd.here | apply Upd.there | apply upd_app)) ?_
   refine XO_nil (at_then ?_)
   refine X_seq (X_region ?_)
   refine XO_v0 (ev_fieldAddr rfl fld_85_2) rfl rfl rfl ?_
   refine XO_v0 (ev_load rfl sct_77 (fun hg => by repeat (first | exact Cell.here rfl | apply Cell.there | apply Cell.app))) rfl rfl rfl ?_
   refine XO_v0 (ev_move rfl) rfl rfl rfl ?_
   refine XO_v0 (ev_lookupTE (m := mr) (ek := Value.int .i64) (a := s) hv3 mpt_77 key_3 rfl rfl (fun _ => .inl hmr)) rfl rfl rfl ?_
   refine XO_v0 (ev_makeFunc (us := []) (vs := [_, _]) rfl rfl) rfl rfl rfl ?_
   refine XO_callK0 (cap := []) (vs := [_, _]) rfl rfl fun_36 split_all (RetK.ofV fun I' hI' hL' => w_cnI (cap := [.pointer (some ⟨b_2, 0, none⟩), .pointer (some ⟨b_7, 0, none⟩)]) (hS3.mono hI') (by omega) fun_87 (fun i hi => w_un1 (b1 := b_2) (b2 := b_7) (r1 := r1) (r2 := r2) (r3 := r3) (av := av) (n := n) (c := c) (p := p) (hL' b_2 _ (by simp)) (hL' b_7 _ (by simp)) (hx.on.mono hI') i (rm_has hx.sub hi))) rfl rfl ?_
   refine XO_nil (at_then ?_)
   refine X_cond rfl (fun hc28 => ?_) (fun hc28 => ?_)
   ·
    have hq := un_bound hO (by omega) hfl (by omega)
    refine X_region ?_
    refine XO_v0 (ev_move rfl) rfl rfl rfl ?_
    refine XO_v0 (ev_fieldAddr rfl fld_53_0) rfl rfl rfl ?_
    refine XO_v0 (ev_load rfl sct_3 (fun hg => by repeat (first | exact Cell.here rfl | apply Cell.there | apply Cell.app))) rfl rfl rfl ?_
    refine XO_buildSlice (ps := [(0, _)]) (m := [encI p.id]) elt_23 rfl (.cons rfl (.nil)) rfl (by simp [encI_len]) (by decide) (by decide) rfl rfl (fun b_32 => ?_)
    refine XO_append (v := _) (ys := [p.id].flatMap encI) (L := L) rfl rfl elt_23 hO (by repeat (first | exact .cons .here .nil | exact split_all | exact split_app | apply split_cons | apply split_skip)) ⟨rfl, fun _ => rfl, Cells.here⟩ (one_I [p.id]) (by omega) rfl rfl ?_
    intro v9 L9 hO9 _; rw [← List.flatMap_append, List.append_assoc] at hO9
    refine XO_v0 (ev_assign rfl) rfl rfl rfl ?_
    refine XO_nil ?_
    refine at_block_n ?_
    refine at_then ?_
    refine X_region ?_
    refine XO_v0 (ev_arB rfl rfl rfl (fun _ => by omega)) rfl rfl rfl ?_
    refine XO_v0 (ev_move rfl) rfl rfl rfl ?_
    refine XO_nil ?_
    first
    | exact at_metP _ _ (L9 ++ [(b_2, _)]) ⟨(stF l s ((k : Int) + 1)).length - (j + 1), by omega, j + 1, _, _, L9, rfl, rfl, rfl, rfl, by omega, by rw [filI_yes (P := unP1 (onF ps) l s) hp hc28]; exact hO9, trivial⟩ (.cons rfl (.cons rfl (.cons rfl (.cons rfl (.cons rfl (.cons rfl (.cons rfl .nil))))))) (perm_snoc _ _) (by repeat (first | exact .refl | exact subL_left | refine subL_app ?_ | refine .drop ?_ | refine subL_add ?_))
   ·
    refine X_skip ?_
    refine at_block_n ?_
    refine at_then ?_
    refine X_region ?_
    refine XO_v0 (ev_arB rfl rfl rfl (fun _ => by omega)) rfl rfl rfl ?_
    refine XO_v0 (ev_move rfl) rfl rfl rfl ?_
    refine XO_nil ?_
    first
    | exact at_met2 _ _ ⟨(stF l s ((k : Int) + 1)).length - (j + 1), by omega, j + 1, _, _, _, rfl, rfl, rfl, rfl, by omega, by rw [filI_no (P := unP1 (onF ps) l s) hp hc28]; exact hO, trivial⟩ (.cons rfl (.cons rfl (.cons rfl (.cons rfl (.cons rfl (.cons rfl (.cons rfl .nil))))))) (by repeat (first | exact .refl | exact subL_left | refine subL_app ?_ | refine .drop ?_ | refine subL_add ?_))
  ·
   have hge_j : (stF l s ((k : Int) + 1)).length ≤ j := by have h := hc20; simp at h; omega
   rw [take_all rfl hge_j] at hO
   refine X_exit ?_
   refine at_then_e ?_
   refine at_then_e ?_
   refine at_block_hit ?_
   refine at_block_n ?_
   refine at_then ?_
   refine X_region ?_
   refine XO_v0 (ev_move rfl) rfl rfl rfl ?_
   refine XO_v0 (ev_arB rfl rfl rfl (fun _ => by omega)) rfl rfl rfl ?_
   refine XO_v0 (ev_assign rfl) rfl rfl rfl ?_
   refine XO_nil ?_
   exact at_met2 _ _ ⟨9 - (k + 1), by omega, k + 1, _, _, _, rfl, rfl, rfl, rfl, by omega, by rw [unK_next]; exact hO, trivial⟩ (.cons rfl (.cons rfl (.cons rfl (.cons rfl .nil)))) (by repeat (first | exact .refl | exact subL_left | refine subL_app ?_ | refine .drop ?_ | refine subL_add ?_))
 ·
  have hge_k : 9 ≤ k := by have h := hc9; simp at h; omega
  have hk9 : k = 9 := by omega
  subst hk9
  refine X_exit ?_
  refine at_then_e ?_
  refine at_then_e ?_
  refine at_block_hit ?_
  refine at_then ?_
  refine X_seq (X_region ?_)
  refine XO_v0 (ev_move rfl) rfl rfl rfl ?_
  refine XO_v0 (ev_assign rfl) rfl rfl rfl ?_
  refine XO_nil (at_then ?_)
  refine X_ret ?_
  exact at_ret1 rfl rfl (fun w hw => by obtain ⟨I9, h91, h92, h93⟩ := OwnS.res hO encI_len (by decide) (hw.subL (by repeat (first | exact .refl | refine .drop ?_))); exact ⟨_, I9, [], rfl, hIc.trans h91, h92, h93⟩)
theorem w_unseenL {I : HMap} {ps l : List Pt} {xs : List Sg} {r1 r2 r3 : Nat} {av : Option Addr} {n c : Nat} (hx : StQ I ps l xs r1 r2 r3 av n c) (s : Int) : RetM Tryz.prog 49 [stA r1 r2 r3 av n c, .int .i64 s] I [] (fun u I9 L9 => L9 = [] ∧ ∃ a9 c9, u = .slice a9 (unK (onF ps) l s 9).length c9) :=
 (w_unseen hx s).mono fun v I' L' _ h => by
  obtain ⟨h1, a9, c9, h2, _⟩ := h
  exact ⟨h1, a9, c9, h2⟩
theorem w_exists {I : HMap} {ps l : List Pt} {xs : List Sg} {r1 r2 r3 : Nat} {av : Option Addr} {n c : Nat} (hx : StQ I ps l xs r1 r2 r3 av n c) (hok : ∀ p ∈ l, PtOK p) (s : Int) : RetV Tryz.prog 50 [stA r1 r2 r3 av n c, .int .i64 s] I (.bool (exB (onF ps) l s)) := by
 intro g H w hw
 refine enter Tryz.func50 rfl Tryz.ntmps50 rfl hw ?_
 have hIc := HLe.refl I
 obtain ⟨mr, hmr, hrem⟩ := hx.rem
 obtain ⟨av3, c3, hv3, hS3⟩ := hrem s
 refine X_seq (X_region ?_)
 refine XO_box rfl rfl rfl (fun b_2 => ?_)
 refine XO_v0 (ev_assign rfl) rfl rfl rfl ?_
 refine XO_nil (at_then ?_)
 refine X_seq (X_region ?_)
 refine XO_v0 (ev_fieldAddr rfl fld_85_2) rfl rfl rfl ?_
 refine XO_v0 (ev_load rfl sct_77 (fun hg => by repeat (first | exact Cell.here rfl | apply Cell.there | apply Cell.app))) rfl rfl rfl ?_
 refine XO_v0 (ev_move rfl) rfl rfl rfl ?_
 refine XO_v0 (ev_lookupTE (m := mr) (ek := Value.int .i64) (a := s) hv3 mpt_77 key_3 rfl rfl (fun _ => .inl hmr)) rfl rfl rfl ?_
 refine XO_v0 (ev_lenS rfl slt_23) rfl rfl rfl ?_
 refine XO_v0 (ev_cmp rfl rfl rfl) rfl rfl rfl ?_
 refine XO_v0 (ev_move rfl) rfl rfl rfl ?_
 refine XO_pushF 6 rfl rfl rfl ?_
 refine XO_v1 (ev_loadA rfl agt_85 (fun hg => by first | (repeat (first | exact Cells.here | exact Cells.s0 (vs := [_, _, _, _]) rfl | apply Cells.there | apply Cells.app))) rfl) (.some rfl rfl rfl rfl gbf) rfl rfl rfl ?_
 refine XO_v1 (ev_move rfl) (.some rfl rfl rfl rfl gbf) rfl rfl rfl ?_
 refine XO_callM1 (cap := []) (vs := [_, _]) rfl rfl fun_49 (fun hg => w_unseenL hx s) ⟨_, rfl, none, 0, rfl⟩ (.some rfl rfl rfl rfl gbf) rfl rfl ?_
 rintro vv I9 L9 hI9 ⟨rfl, a9, c9, rfl⟩
 have hIc := hIc.trans hI9
 refine XO_v1 (ev_lenS rfl slt_23) (.some rfl rfl rfl rfl gbf) rfl rfl rfl ?_
 refine XO_v1 (ev_cmp rfl rfl rfl) (.some rfl rfl rfl rfl gbf) rfl rfl rfl ?_
 refine XO_or0 rfl rfl rfl rfl rfl ?_
 refine XO_v0 (ev_assign rfl) rfl rfl rfl ?_
 refine XO_nil (at_then ?_)
 refine X_ret ?_
 exact at_ret1 rfl rfl (fun w hw => ⟨by rw [← ex_eq hok], (hw.mono hIc).drop⟩)
end Go.Proofs.YtccomeanpppfmaaGreat
end
section
namespace Go.Proofs.YtccomeanpppfmaaGreat
open Go Go.Kn Go.Proofs
theorem w_lat11 {I : HMap} {b1 b2 r1 r2 r3 : Nat} {av : Option Addr} {n c : Nat} {p : Pt} {ps : List Pt} (h1 : I b1 = some (.cells #[.map (some r1), .map (some r2), .map (some r3), .slice av n c] 85 (0, 0))) (h2 : I b2 = some (.cells (encP p).toArray 53 (0, 0))) (hOn : OnM I r1 ps) (q : Pt) (hid : ∃ z ∈ ps, z.id = q.id) : RetV Tryz.prog 90 [encPA q, .pointer (some ⟨b1, 0, none⟩), .pointer (some ⟨b2, 0, none⟩)] I (.bool (onF ps q.id p.id)) := by
 intro g H w hw
 refine enter Tryz.func90 rfl Tryz.ntmps90 rfl hw ?_
 obtain ⟨m, hm1, hm2⟩ := hOn
 obtain ⟨ref, hget, sn, hsn, hsq⟩ := hm2.get hid
 refine X_seq (X_region ?_)
 refine XO_box rfl rfl rfl (fun b_3 => ?_)
 refine XO_v0 (ev_assign rfl) rfl rfl rfl ?_
 refine XO_nil (at_then ?_)
 refine X_seq (X_region ?_)
 refine XO_v0 (ev_fieldAddr rfl fld_85_0) rfl rfl rfl ?_
 refine XO_v0 (ev_load rfl sct_74 (fun hg => by first | exact .imm h1 rfl | exact .imm h2 rfl | (repeat (first | exact Cell.here rfl | apply Cell.there | apply Cell.app)))) rfl rfl rfl ?_
 refine XO_v0 (ev_fieldAddr rfl fld_53_0) rfl rfl rfl ?_
 refine XO_v0 (ev_load rfl sct_3 (fun hg => by first | exact .imm h1 rfl | exact .imm h2 rfl | (repeat (first | exact Cell.here rfl | apply Cell.there | apply Cell.app)))) rfl rfl rfl ?_
 refine XO_v0 (ev_lookupG (m := m) (ek := Value.int .i64) (ev := refV) (a := q.id) hget mpt_74 key_3 rfl rfl (fun _ => .inl hm1)) rfl rfl rfl ?_
 refine XO_v0 (ev_fieldAddr rfl fld_53_0) rfl rfl rfl ?_
 refine XO_v0 (ev_load rfl sct_3 (fun hg => by first | exact .imm h1 rfl | exact .imm h2 rfl | (repeat (first | exact Cell.here rfl | apply Cell.there | apply Cell.app)))) rfl rfl rfl ?_
 refine XO_v0 (ev_lookupBool (m := sn) mpt_71 key_3 rfl rfl (fun _ => .inl hsn)) rfl rfl rfl ?_
 refine XO_v0 (ev_assign rfl) rfl rfl rfl ?_
 refine XO_nil (at_then ?_)
 refine X_ret ?_
 exact at_ret1 rfl rfl (fun w hw => ⟨by rw [show (mget sn p.id).getD false = onF ps q.id p.id from hsq.mem _], hw.drop⟩)
/-- What the iterator of 'latest' has taken in. -/
def LCap (I : HMap) (r1 r2 r3 : Nat) (av : Option Addr) (n c : Nat) (s f : Int) (b1 b2 b3 : Nat) : Prop := I b1 = some (.cells #[.map (some r1), .map (some r2), .map (some r3), .slice av n c] 85 (0, 0)) ∧ I b2 = some (.cells #[.int .i64 s] 3 (0, 0)) ∧ I b3 = some (.cells #[.int .i64 f] 3 (0, 0))
theorem w_latest (I : HMap) (r1 r2 r3 : Nat) (av : Option Addr) (n c : Nat) (s f : Int) : RetM Tryz.prog 51 [stA r1 r2 r3 av n c, .int .i64 s, .int .i64 f] I [] (fun v I' L => L = [] ∧ ∃ b1 b2 b3, v = .func (.func 88) #[] [capP b1, capP b2, capP b3].toArray ∧ LCap I' r1 r2 r3 av n c s f b1 b2 b3) := by
 intro g H w hw
 refine enter Tryz.func51 rfl Tryz.ntmps51 rfl hw ?_
 have hIc := HLe.refl I
 refine X_seq (X_region ?_)
 refine XO_box rfl rfl rfl (fun b_3 => ?_)
 refine XO_box rfl rfl rfl (fun b_4 => ?_)
 refine XO_box rfl rfl rfl (fun b_5 => ?_)
 refine XO_v0 (ev_assign rfl) rfl rfl rfl ?_
 refine XO_nil (at_then ?_)
 refine X_seq ?_
 refine X_freeze .here (fun I1 hI1 hb1 => ?_)
 have hIc := hIc.trans hI1
 have h3 := hb1
 refine X_freeze .here (fun I2 hI2 hb2 => ?_)
 have hIc := hIc.trans hI2
 have h2 := hb2
 have h3 := hI2 _ _ h3
 refine X_freeze .here (fun I3 hI3 hb3 => ?_)
 have hIc := hIc.trans hI3
 have h1 := hb3
 have h3 := hI3 _ _ h3; have h2 := hI3 _ _ h2
 refine X_region ?_
 refine XO_v0 (ev_makeFunc (us := []) (vs := [_, _, _]) rfl rfl) rfl rfl rfl ?_
 refine XO_v0 (ev_assign rfl) rfl rfl rfl ?_
 refine XO_nil (at_then ?_)
 refine X_ret ?_
 exact at_ret1 rfl rfl (fun w hw => ⟨_, I3, [], rfl, hIc, hw.drop, rfl, b_3, b_4, b_5, rfl, h1, h2, h3⟩)
theorem w_latit {I : HMap} {ps l : List Pt} {xs : List Sg} {r1 r2 r3 : Nat} {av : Option Addr} {n c : Nat} (hx : StQ I ps l xs r1 r2 r3 av n c) {s f : Int} {b1 b2 b3 : Nat} (hcap : LCap I r1 r2 r3 av n c s f b1 b2 b3) : SeqC Tryz.prog 88 [capP b1, capP b2, capP b3] I encPA (latF (onF ps) l s f) := by
  rw [lat_eq]
  intro g y J Jx hY I0 H w h0 hJ hw
  obtain ⟨h1, h2, h3⟩ := hcap
  have hx := hx.mono h0
  have h1 := h0 _ _ h1; have h2 := h0 _ _ h2; have h3 := h0 _ _ h3
  refine enter Tryz.func88 rfl Tryz.ntmps88 rfl hw ?_
  obtain ⟨ms, hms, hset⟩ := hx.set
  obtain ⟨av2, c2, hv2, hS2⟩ := hset (s, f)
  dsimp only at hv2 hS2
  have hln := Nat.le_trans (stF_len (l := l) (s := s) (f := f)) hx.fewl
  refine X_seq (X_region ?_)
  refine XO_v0 (ev_fieldAddr rfl fld_85_1) rfl rfl rfl ?_
  refine XO_v0 (ev_load rfl sct_83 (fun hg => by first | exact Cell.imm h1 rfl | exact Cell.imm h2 rfl | exact Cell.imm h3 rfl | (repeat (first | exact Cell.here rfl | apply Cell.there | apply Cell.app)))) rfl rfl rfl ?_
  refine XO_v0 (ev_load rfl sct_3 (fun hg => by first | exact Cell.imm h1 rfl | exact Cell.imm h2 rfl | exact Cell.imm h3 rfl | (repeat (first | exact Cell.here rfl | apply Cell.there | apply Cell.app)))) rfl rfl rfl ?_
  refine XO_v0 (ev_load rfl sct_3 (fun hg => by first | exact Cell.imm h1 rfl | exact Cell.imm h2 rfl | exact Cell.imm h3 rfl | (repeat (first | exact Cell.here rfl | apply Cell.there | apply Cell.app)))) rfl rfl rfl ?_
  refine XO_v0 (ev_buildArr (ps := [(0, _), (1, _)]) [_, _] art_133 zt_133 rfl rfl) rfl rfl rfl ?_
  refine XO_v0 (ev_lookupTE (m := ms) (ek := encK2) (a := (s, f)) hv2 mpt_83 key_133 rfl rfl (fun _ => .inl hms)) rfl rfl rfl ?_
  refine XO_v0 (ev_assign rfl) rfl rfl rfl ?_
  refine XO_nil (at_then ?_)
  refine X_seq (X_region ?_)
  refine XO_v0 (ev_move rfl) rfl rfl rfl ?_
  refine XO_v0 (ev_lenS rfl slt_22) rfl rfl rfl ?_
  refine XO_v0 (ev_move rfl) rfl rfl rfl ?_
  refine XO_nil (at_then ?_)
  refine X_block ?_
  refine X_loopH (fun m E I' H' loc' => ∃ (k : Nat), m = (stF l s f).length - k ∧ E = [(0, .func (.yield y) #[] #[]), (1, capP b1), (5, .slice av2 (stF l s f).length c2), (14, .slice av2 (stF l s f).length c2), (15, .int .i64 (stF l s f).length), (16, .int .i64 k)] ∧ loc' = [] ∧ HLe I0 I' ∧ k ≤ (stF l s f).length ∧ J (((stF l s f).take k).filter (latB (onF ps) (stF l s f))) I' H') _ _ _ ⟨0, rfl, rfl, rfl, HLe.refl _, Nat.zero_le _, hJ⟩ (.cons rfl (.cons rfl (.cons rfl (.cons rfl (.cons rfl (.cons rfl .nil)))))) rfl ?_
  rintro m E I' H' loc' ⟨k, rfl, rfl, rfl, hI1, hk, hJk⟩
  have hS2 := hS2.mono hI1
  have hx := hx.mono hI1
  have h1 := hI1 _ _ h1
  have hI0 := h0.trans hI1
  refine X_seq (X_region ?_)
  refine XO_v0 (ev_cmp rfl rfl rfl) rfl rfl rfl ?_
  refine XO_nil (at_then ?_)
  refine X_seq ?_
  refine X_cond rfl (fun hc17 => ?_) (fun hc17 => ?_)
  · skip
    have hlt : k < (stF l s f).length := by simpa using hc17
    obtain ⟨p, hp⟩ := hS2.at hlt
    refine X_skip ?_
    refine at_then ?_
    refine X_seq ?_
    refine X_block ?_
    refine X_seq (X_region ?_)
    refine XO_v0 (ev_indexSl rfl rfl slt_22 (by assumption) (fun hg => by omega)) rfl rfl rfl ?_
    refine XO_v0 (ev_loadA rfl agt_53 (fun hg => by first | exact Sl.getA hS2 hp | (repeat (first | exact Cells.here | exact Cells.s0 (vs := [_, _, _, _, _, _, _, _, _, _, _, _, _, _, _, _, _, _, _]) rfl | apply Cells.there | apply Cells.app))) rfl) rfl rfl rfl ?_
    refine XO_alloc zt_53 rfl rfl (fun b_7 => ?_)
    refine XO_storeA rfl rfl szt_53 rfl rfl rfl rfl (by repeat (first | exact Upd.here | apply Upd.there | apply upd_app)) ?_
    refine XO_nil (at_then ?_)
    refine X_seq ?_
    have hpc : ∀ {b : Bool} {G : Env}, conj [(b, G)] = true → b = latB (onF ps) (stF l s f) p → latB (onF ps) (stF l s f) p = true := fun h e => by rw [← e]; simpa [conj] using h
    refine X_region ?_
    refine XO_v0 (ev_move rfl) rfl rfl rfl ?_
    refine XO_v0 (ev_makeFunc (us := []) (vs := [_, _]) rfl rfl) rfl rfl rfl ?_
    refine XO_callK0 (cap := []) (vs := [_, _]) rfl rfl fun_89 split_all (RetK.ofV fun I' hI' hL' => w_cnP (cap := [.pointer (some ⟨b1, 0, none⟩), .pointer (some ⟨b_7, 0, none⟩)]) (SlP.mono ⟨hS2, fun p hp => hx.nd p (hx.sub p (mem_stF.1 hp).1)⟩ hI') (by omega) fun_90 (fun q hq => w_lat11 (b1 := b1) (b2 := b_7) (r1 := r1) (r2 := r2) (r3 := r3) (av := av) (n := n) (c := c) (p := p) (hI' _ _ h1) (hL' b_7 _ (by simp)) (hx.on.mono hI') q ⟨q, hx.sub q (mem_stF.1 hq).1, rfl⟩)) rfl rfl ?_
    refine XO_v0 (ev_not rfl) rfl rfl rfl ?_
    refine XO_v0 (ev_move rfl) rfl rfl rfl ?_
    refine XO_pushT 4 rfl rfl rfl ?_
    refine XO_v1 (ev_move rfl) (.some rfl rfl rfl rfl gbt) rfl rfl rfl ?_
    refine XO_v1 (ev_loadA rfl agt_53 (fun hg => by first | exact Sl.getA hS2 hp | (repeat (first | exact Cells.here | exact Cells.s0 (vs := [_, _, _, _, _, _, _, _, _, _, _, _, _, _, _, _, _, _, _]) rfl | apply Cells.there | apply Cells.app))) rfl) (.some rfl rfl rfl rfl gbt) rfl rfl rfl ?_
    refine XO_yield1 (vs := [_]) (Post := fun b I2 H2 => if b then J (((stF l s f).take k).filter (latB (onF ps) (stF l s f)) ++ [p]) I2 H2 else Jx (((stF l s f).take k).filter (latB (onF ps) (stF l s f)) ++ [p]) I2 H2) rfl rfl (.some rfl rfl rfl rfl gbt) rfl rfl (fun hcj => hY _ p _ _ (fil_pre hp (hpc hcj rfl)) hI0 hJk) ?_
    rintro b I2 H2 hI2 hyes hno
    refine XO_v1 (ev_not rfl) (.some rfl rfl rfl rfl gbt) rfl rfl rfl ?_
    refine XO_and0 rfl rfl rfl rfl rfl ?_
    refine XO_nil (at_then ?_)
    refine X_cond rfl (fun hc29 => ?_) (fun hc29 => ?_)
    · skip
      refine X_ret ?_
      refine at_block_r ?_
      refine at_then_r ?_
      refine at_then_r ?_
      refine at_block_r ?_
      first
      | (exact at_ret0 rfl (fun w hw => ⟨_, I2, H2, rfl, hI1.trans hI2, hw.drop, .inr ⟨_, fil_pre hp (show latB (onF ps) (stF l s f) p = true from ((Bool.and_eq_true _ _).mp (show (latB (onF ps) (stF l s f) p && !b) = true from hc29)).1), by have hc : (latB (onF ps) (stF l s f) p && !b) = true := hc29; rw [Bool.and_eq_true, Bool.not_eq_true'] at hc; have h9 := hyes (show conj [(latB (onF ps) (stF l s f) p, _)] = true from by rw [hc.1]; rfl); rw [hc.2] at h9; exact h9⟩⟩))
    · skip
      refine X_skip ?_
      refine at_block_n ?_
      refine at_then ?_
      refine X_region ?_
      refine XO_v0 (ev_arB rfl rfl rfl (fun _ => by omega)) rfl rfl rfl ?_
      refine XO_v0 (ev_move rfl) rfl rfl rfl ?_
      refine XO_nil ?_
      have hyes := fun (e : latB (onF ps) (stF l s f) p = true) => hyes (show conj [(latB (onF ps) (stF l s f) p, _)] = true from by rw [e]; rfl)
      have hno := fun (e : latB (onF ps) (stF l s f) p = false) => hno (show conj [(latB (onF ps) (stF l s f) p, _)] = false from by rw [e]; rfl)
      have hc : (latB (onF ps) (stF l s f) p && !b) = false := hc29
      have hJ2 : J (((stF l s f).take (k + 1)).filter (latB (onF ps) (stF l s f))) I2 H2 := by
        cases hA : latB (onF ps) (stF l s f) p with
        | true => rw [fil_yes hp hA]; rw [hA] at hc; have hb : b = true := by simpa using hc
                  subst hb; exact hyes hA
        | false => rw [fil_no hp hA]; obtain ⟨e1, e2⟩ := hno hA; rw [e1, e2]; exact hJk
      exact at_metH2 rfl rfl rfl _ [] ⟨(stF l s f).length - (k + 1), by omega, k + 1, rfl, rfl, rfl, hI1.trans hI2, by omega, hJ2⟩ (.cons rfl (.cons rfl (.cons rfl (.cons rfl (.cons rfl (.cons rfl .nil)))))) (.drop .refl)
  · skip
    have hge : (stF l s f).length ≤ k := by simpa using hc17
    refine X_exit ?_
    refine at_then_e ?_
    refine at_then_e ?_
    refine at_block_hit ?_
    first
    | (exact at_norm (at_ret0 rfl (fun w hw => ⟨_, I', H', rfl, hI1, hw, .inl (by rw [take_all rfl hge] at hJk; exact hJk)⟩)))
end Go.Proofs.YtccomeanpppfmaaGreat
end
section
namespace Go.Proofs.YtccomeanpppfmaaGreat
open Go Go.Kn Go.Proofs
theorem at_round_exit2 {α : Type} {C : Cx} {E : Env} {I : HMap} {loc loc' : Go.Kn.Loc} {Jc : List α → HMap → Go.Kn.Loc → Prop} {Jx : Code → List α → HMap → Go.Kn.Loc → Prop} {pre : List α} {id : Nat} (h : Jx (.exit id) pre I loc') (hs : SubL loc' loc) : At C (RoundQ C.g C.H Jc Jx pre) (.exit id) E I loc := fun _ _ _ hw => ⟨I, loc', h, hw.subL hs⟩
theorem w_put (I : HMap) (b : Nat) (x : Sg) (f : Int) (y : Sg) (hf : isF f) : RetM Tryz.prog 82 [capP b, .int .i64 f, encGA y] I [(b, .cells (encG x).toArray 45 (0, 0))] (fun v I' L => v = .tuple #[] ∧ I' = I ∧ L = [(b, .cells (encG (setG x f y)).toArray 45 (0, 0))]) := by
 intro g H w hw
 refine enter Tryz.func82 rfl Tryz.ntmps82 rfl hw ?_
 refine X_seq (X_region ?_)
 refine XO_box rfl rfl rfl (fun b_5 => ?_)
 refine XO_nil (at_then ?_)
 refine X_seq (X_region ?_)
 refine XO_v0 (ev_move rfl) rfl rfl rfl ?_
 refine XO_nil (at_then ?_)
 refine X_block ?_
 refine X_seq (X_region ?_)
 refine XO_v0 (ev_cmp rfl rfl rfl) rfl rfl rfl ?_
 refine XO_v0 (ev_assign rfl) rfl rfl rfl ?_
 refine XO_nil (at_then ?_)
 refine X_cond rfl (fun hc7 => ?_) (fun hc7 => ?_)
 ·
  have hfk : f = 1 := by simpa using hc7
  subst hfk
  refine X_region ?_
  refine XO_v0 (ev_move rfl) rfl rfl rfl ?_
  refine XO_v0 (ev_fieldAddr rfl fld_45_1) rfl rfl rfl ?_
  refine XO_v0 (ev_load rfl sct_3 (fun hg => by repeat (first | exact Cell.here rfl | apply Cell.there | apply Cell.app))) rfl rfl rfl ?_
  refine XO_v0 (ev_nilCheck rfl) rfl rfl rfl ?_
  refine XO_v0 (ev_fieldAddr rfl fld_45_1) rfl rfl rfl ?_
  refine XO_store rfl rfl szt_3 rfl rfl (by repeat (first | exact Upd.here | apply Upd.there | apply upd_app)) rfl ?_
  refine XO_nil ?_
  refine at_block_n ?_
  exact at_norm (at_ret0 rfl (fun w hw => ⟨_, I, _, rfl, HLe.refl _, hw.subL (.drop .refl), rfl, rfl, rfl⟩))
 ·
  have hg1 : f ≠ 1 := by simpa using hc7
  refine X_seq (X_region ?_)
  refine XO_v0 (ev_cmp rfl rfl rfl) rfl rfl rfl ?_
  refine XO_v0 (ev_assign rfl) rfl rfl rfl ?_
  refine XO_nil (at_then ?_)
  refine X_cond rfl (fun hc14 => ?_) (fun hc14 => ?_)
  ·
   have hfk : f = 2 := by simpa using hc14
   subst hfk
   refine X_region ?_
   refine XO_v0 (ev_move rfl) rfl rfl rfl ?_
   refine XO_v0 (ev_fieldAddr rfl fld_45_2) rfl rfl rfl ?_
   refine XO_v0 (ev_load rfl sct_3 (fun hg => by repeat (first | exact Cell.here rfl | apply Cell.there | apply Cell.app))) rfl rfl rfl ?_
   refine XO_v0 (ev_nilCheck rfl) rfl rfl rfl ?_
   refine XO_v0 (ev_fieldAddr rfl fld_45_2) rfl rfl rfl ?_
   refine XO_store rfl rfl szt_3 rfl rfl (by repeat (first | exact Upd.here | apply Upd.there | apply upd_app)) rfl ?_
   refine XO_nil ?_
   refine at_block_n ?_
   exact at_norm (at_ret0 rfl (fun w hw => ⟨_, I, _, rfl, HLe.refl _, hw.subL (.drop .refl), rfl, rfl, rfl⟩))
  ·
   have hg2 : f ≠ 2 := by simpa using hc14
   refine X_seq (X_region ?_)
   refine XO_v0 (ev_cmp rfl rfl rfl) rfl rfl rfl ?_
   refine XO_v0 (ev_assign rfl) rfl rfl rfl ?_
   refine XO_nil (at_then ?_)
   refine X_cond rfl (fun hc21 => ?_) (fun hc21 => ?_)
   ·
    have hfk : f = 3 := by simpa using hc21
    subst hfk
    refine X_region ?_
    refine XO_v0 (ev_move rfl) rfl rfl rfl ?_
    refine XO_v0 (ev_fieldAddr rfl fld_45_3) rfl rfl rfl ?_
    refine XO_v0 (ev_load rfl sct_3 (fun hg => by repeat (first | exact Cell.here rfl | apply Cell.there | apply Cell.app))) rfl rfl rfl ?_
    refine XO_v0 (ev_nilCheck rfl) rfl rfl rfl ?_
    refine XO_v0 (ev_fieldAddr rfl fld_45_3) rfl rfl rfl ?_
    refine XO_store rfl rfl szt_3 rfl rfl (by repeat (first | exact Upd.here | apply Upd.there | apply upd_app)) rfl ?_
    refine XO_nil ?_
    refine at_block_n ?_
    exact at_norm (at_ret0 rfl (fun w hw => ⟨_, I, _, rfl, HLe.refl _, hw.subL (.drop .refl), rfl, rfl, rfl⟩))
   ·
    have hg3 : f ≠ 3 := by simpa using hc21
    refine X_seq (X_region ?_)
    refine XO_v0 (ev_cmp rfl rfl rfl) rfl rfl rfl ?_
    refine XO_v0 (ev_assign rfl) rfl rfl rfl ?_
    refine XO_nil (at_then ?_)
    refine X_cond rfl (fun hc28 => ?_) (fun hc28 => ?_)
    ·
     have hfk : f = 4 := by simpa using hc28
     subst hfk
     refine X_region ?_
     refine XO_v0 (ev_move rfl) rfl rfl rfl ?_
     refine XO_v0 (ev_fieldAddr rfl fld_45_5) rfl rfl rfl ?_
     refine XO_v0 (ev_load rfl sct_3 (fun hg => by repeat (first | exact Cell.here rfl | apply Cell.there | apply Cell.app))) rfl rfl rfl ?_
     refine XO_v0 (ev_nilCheck rfl) rfl rfl rfl ?_
     refine XO_v0 (ev_fieldAddr rfl fld_45_5) rfl rfl rfl ?_
     refine XO_store rfl rfl szt_3 rfl rfl (by repeat (first | exact Upd.here | apply Upd.there | apply upd_app)) rfl ?_
     refine XO_nil ?_
     refine at_block_n ?_
     exact at_norm (at_ret0 rfl (fun w hw => ⟨_, I, _, rfl, HLe.refl _, hw.subL (.drop .refl), rfl, rfl, rfl⟩))
    ·
     have hg4 : f ≠ 4 := by simpa using hc28
     refine X_seq (X_region ?_)
     refine XO_v0 (ev_cmp rfl rfl rfl) rfl rfl rfl ?_
     refine XO_v0 (ev_assign rfl) rfl rfl rfl ?_
     refine XO_nil (at_then ?_)
     refine X_cond rfl (fun hc35 => ?_) (fun hc35 => ?_)
     ·
      have hfk : f = 5 := by simpa using hc35
      subst hfk
      refine X_region ?_
      refine XO_v0 (ev_move rfl) rfl rfl rfl ?_
      refine XO_v0 (ev_fieldAddr rfl fld_45_6) rfl rfl rfl ?_
      refine XO_v0 (ev_load rfl sct_3 (fun hg => by repeat (first | exact Cell.here rfl | apply Cell.there | apply Cell.app))) rfl rfl rfl ?_
      refine XO_v0 (ev_nilCheck rfl) rfl rfl rfl ?_
      refine XO_v0 (ev_fieldAddr rfl fld_45_6) rfl rfl rfl ?_
      refine XO_store rfl rfl szt_3 rfl rfl (by repeat (first | exact Upd.here | apply Upd.there | apply upd_app)) rfl ?_
      refine XO_nil ?_
      refine at_block_n ?_
      exact at_norm (at_ret0 rfl (fun w hw => ⟨_, I, _, rfl, HLe.refl _, hw.subL (.drop .refl), rfl, rfl, rfl⟩))
     ·
      have hg5 : f ≠ 5 := by simpa using hc35
      refine X_seq (X_region ?_)
      refine XO_v0 (ev_cmp rfl rfl rfl) rfl rfl rfl ?_
      refine XO_v0 (ev_assign rfl) rfl rfl rfl ?_
      refine XO_nil (at_then ?_)
      refine X_cond rfl (fun hc42 => ?_) (fun hc42 => ?_)
      ·
       have hfk : f = 6 := by simpa using hc42
       subst hfk
       refine X_region ?_
       refine XO_v0 (ev_move rfl) rfl rfl rfl ?_
       refine XO_v0 (ev_fieldAddr rfl fld_45_7) rfl rfl rfl ?_
       refine XO_v0 (ev_load rfl sct_3 (fun hg => by repeat (first | exact Cell.here rfl | apply Cell.there | apply Cell.app))) rfl rfl rfl ?_
       refine XO_v0 (ev_nilCheck rfl) rfl rfl rfl ?_
       refine XO_v0 (ev_fieldAddr rfl fld_45_7) rfl rfl rfl ?_
       refine XO_store rfl rfl szt_3 rfl rfl (by repeat (first | exact Upd.here | apply Upd.there | apply upd_app)) rfl ?_
       refine XO_nil ?_
       refine at_block_n ?_
       exact at_norm (at_ret0 rfl (fun w hw => ⟨_, I, _, rfl, HLe.refl _, hw.subL (.drop .refl), rfl, rfl, rfl⟩))
      ·
       have hg6 : f ≠ 6 := by simpa using hc42
       refine X_seq (X_region ?_)
       refine XO_v0 (ev_cmp rfl rfl rfl) rfl rfl rfl ?_
       refine XO_v0 (ev_assign rfl) rfl rfl rfl ?_
       refine XO_nil (at_then ?_)
       refine X_cond rfl (fun hc49 => ?_) (fun hc49 => ?_)
       ·
        have hfk : f = 7 := by simpa using hc49
        subst hfk
        refine X_region ?_
        refine XO_v0 (ev_move rfl) rfl rfl rfl ?_
        refine XO_v0 (ev_fieldAddr rfl fld_45_8) rfl rfl rfl ?_
        refine XO_v0 (ev_load rfl sct_3 (fun hg => by repeat (first | exact Cell.here rfl | apply Cell.there | apply Cell.app))) rfl rfl rfl ?_
        refine XO_v0 (ev_nilCheck rfl) rfl rfl rfl ?_
        refine XO_v0 (ev_fieldAddr rfl fld_45_8) rfl rfl rfl ?_
        refine XO_store rfl rfl szt_3 rfl rfl (by repeat (first | exact Upd.here | apply Upd.there | apply upd_app)) rfl ?_
        refine XO_nil ?_
        refine at_block_n ?_
        exact at_norm (at_ret0 rfl (fun w hw => ⟨_, I, _, rfl, HLe.refl _, hw.subL (.drop .refl), rfl, rfl, rfl⟩))
       ·
        have hg7 : f ≠ 7 := by simpa using hc49
        refine X_seq (X_region ?_)
        refine XO_v0 (ev_cmp rfl rfl rfl) rfl rfl rfl ?_
        refine XO_v0 (ev_assign rfl) rfl rfl rfl ?_
        refine XO_nil (at_then ?_)
        refine X_cond rfl (fun hc56 => ?_) (fun hc56 => ?_)
        ·
         have hfk : f = 8 := by simpa using hc56
         subst hfk
         refine X_region ?_
         refine XO_v0 (ev_move rfl) rfl rfl rfl ?_
         refine XO_v0 (ev_fieldAddr rfl fld_45_9) rfl rfl rfl ?_
         refine XO_v0 (ev_load rfl sct_3 (fun hg => by repeat (first | exact Cell.here rfl | apply Cell.there | apply Cell.app))) rfl rfl rfl ?_
         refine XO_v0 (ev_nilCheck rfl) rfl rfl rfl ?_
         refine XO_v0 (ev_fieldAddr rfl fld_45_9) rfl rfl rfl ?_
         refine XO_store rfl rfl szt_3 rfl rfl (by repeat (first | exact Upd.here | apply Upd.there | apply upd_app)) rfl ?_
         refine XO_nil ?_
         refine at_block_n ?_
         exact at_norm (at_ret0 rfl (fun w hw => ⟨_, I, _, rfl, HLe.refl _, hw.subL (.drop .refl), rfl, rfl, rfl⟩))
        ·
         have hg8 : f ≠ 8 := by simpa using hc56
         refine X_seq (X_region ?_)
         refine XO_v0 (ev_cmp rfl rfl rfl) rfl rfl rfl ?_
         refine XO_v0 (ev_assign rfl) rfl rfl rfl ?_
         refine XO_nil (at_then ?_)
         refine X_cond rfl (fun hc63 => ?_) (fun hc63 => ?_)
         ·
          have hfk : f = 9 := by simpa using hc63
          subst hfk
          have hD := HLe.refl I
          refine X_noP ?_
          refine X_drawS I [(b_5, .cells (encGA y).cells 45 (0, 0))] mixed ?_
          refine XD_take 0 rfl (ev_move rfl) (.none rfl) rfl rfl rfl (by kernel_rfl) (by kernel_rfl) (by kernel_rfl) noP_ok hD (by repeat (first | exact .refl | exact subL_nil | refine .keep ?_ | refine .drop ?_ | refine subL_add ?_)) ?_
          refine XD_take 1 rfl (ev_move rfl) (.none rfl) rfl rfl rfl (by kernel_rfl) (by kernel_rfl) (by kernel_rfl) noP_ok hD (by repeat (first | exact .refl | exact subL_nil | refine .keep ?_ | refine .drop ?_ | refine subL_add ?_)) ?_
          refine XD_take 2 rfl (ev_fieldAddr rfl fld_45_10) (.none rfl) rfl rfl rfl (by kernel_rfl) (by kernel_rfl) (by kernel_rfl) noP_ok hD (by repeat (first | exact .refl | exact subL_nil | refine .keep ?_ | refine .drop ?_ | refine subL_add ?_)) ?_
          refine XD_take 3 rfl (ev_loadA rfl agt_43 (fun hg => by first | (repeat (first | exact Cells.here | exact Cells.s0 (vs := [_, _]) rfl | apply Cells.there | apply Cells.app))) rfl) (.none rfl) rfl rfl rfl (by kernel_rfl) (by kernel_rfl) (by kernel_rfl) noP_ok hD (by repeat (first | exact .refl | exact subL_nil | refine .keep ?_ | refine .drop ?_ | refine subL_add ?_)) ?_
          refine XD_take 4 rfl (ev_fieldAddr rfl fld_45_11) (.none rfl) rfl rfl rfl (by kernel_rfl) (by kernel_rfl) (by kernel_rfl) noP_ok hD (by repeat (first | exact .refl | exact subL_nil | refine .keep ?_ | refine .drop ?_ | refine subL_add ?_)) ?_
          refine XD_take 5 rfl (ev_loadA rfl agt_43 (fun hg => by first | (repeat (first | exact Cells.here | exact Cells.s0 (vs := [_, _]) rfl | apply Cells.there | apply Cells.app))) rfl) (.none rfl) rfl rfl rfl (by kernel_rfl) (by kernel_rfl) (by kernel_rfl) noP_ok hD (by repeat (first | exact .refl | exact subL_nil | refine .keep ?_ | refine .drop ?_ | refine subL_add ?_)) ?_
          refine XD_take 6 rfl (ev_nilCheck rfl) (.none rfl) rfl rfl rfl (by kernel_rfl) (by kernel_rfl) (by kernel_rfl) noP_ok hD (by repeat (first | exact .refl | exact subL_nil | refine .keep ?_ | refine .drop ?_ | refine subL_add ?_)) ?_
          refine XD_take 7 rfl (ev_fieldAddr rfl fld_45_10) (.none rfl) rfl rfl rfl (by kernel_rfl) (by kernel_rfl) (by kernel_rfl) noP_ok hD (by repeat (first | exact .refl | exact subL_nil | refine .keep ?_ | refine .drop ?_ | refine subL_add ?_)) ?_
          refine XD_one 8 rfl (by kernel_rfl) ?_
          refine XO_storeP rfl rfl szt_43 rfl rfl rfl rfl (by repeat (first | exact Upd.here | apply Upd.there | apply upd_app)) ?_
          refine XO_nil ?_
          refine at_D hD (by repeat (first | exact .refl | exact subL_nil | refine .keep ?_ | refine .drop ?_ | refine subL_add ?_)) ?_
          refine XD_take 9 rfl (ev_nilCheck rfl) (.none rfl) rfl rfl rfl (by kernel_rfl) (by kernel_rfl) (by kernel_rfl) noP_ok hD (by repeat (first | exact .refl | exact subL_nil | refine .keep ?_ | refine .drop ?_ | refine subL_add ?_)) ?_
          refine XD_take 10 rfl (ev_fieldAddr rfl fld_45_11) (.none rfl) rfl rfl rfl (by kernel_rfl) (by kernel_rfl) (by kernel_rfl) noP_ok hD (by repeat (first | exact .refl | exact subL_nil | refine .keep ?_ | refine .drop ?_ | refine subL_add ?_)) ?_
          refine XD_one 11 rfl (by kernel_rfl) ?_
          refine XO_storeP rfl rfl szt_43 rfl rfl rfl rfl (by repeat (first | exact Upd.here | apply Upd.there | apply upd_app)) ?_
          refine XO_nil ?_
          refine at_D hD (by repeat (first | exact .refl | exact subL_nil | refine .keep ?_ | refine .drop ?_ | refine subL_add ?_)) ?_
          refine XD_done (by kernel_rfl) ?_
          refine at_noP ?_
          refine at_block_n ?_
          exact at_norm (at_ret0 rfl (fun w hw => ⟨_, I, _, rfl, HLe.refl _, hw.subL (.drop .refl), rfl, rfl, rfl⟩))
         ·
          have hg9 : f ≠ 9 := by simpa using hc63
          refine X_skip ?_
          refine at_block_n ?_
          first
          | (exfalso; unfold isF at hf; omega)
end Go.Proofs.YtccomeanpppfmaaGreat
end
section
namespace Go.Proofs.YtccomeanpppfmaaGreat
open Go Go.Kn Go.Proofs
/-- The signs that exist, with the latest values. -/
def exL (on : Int → Int → Bool) (l : List Pt) (xs : List Sg) : List Sg := (xs.filter fun x => exB on l x.id).map (curF on l)
theorem ex_yes {on : Int → Int → Bool} {l : List Pt} {xs : List Sg} {k : Nat} {x : Sg} (hx : xs[k]? = some x) (h : exB on l x.id = true) : exL on l (xs.take (k + 1)) = exL on l (xs.take k) ++ [curF on l x] := by
  unfold exL
  rw [take_snoc hx, List.filter_append, List.filter_cons, if_pos h]; simp
theorem ex_no {on : Int → Int → Bool} {l : List Pt} {xs : List Sg} {k : Nat} {x : Sg} (hx : xs[k]? = some x) (h : exB on l x.id = false) : exL on l (xs.take (k + 1)) = exL on l (xs.take k) := by
  unfold exL
  rw [take_snoc hx, List.filter_append, List.filter_cons, if_neg (by rw [h]; exact Bool.false_ne_true)]; simp
theorem ex_zero {on : Int → Int → Bool} {l : List Pt} {xs : List Sg} : exL on l (xs.take 0) = [] := by unfold exL; simp
def exE (on : Int → Int → Bool) (l : List Pt) (xs : List Sg) : Int := if (exL on l xs).length > 4096 then 2 else 0
/-- Signs and an error. -/
def ResG (e : Int) (xs : List Sg) : Value → HMap → Go.Kn.Loc → Prop := fun v I' L => L = [] ∧ ∃ av c, v = .tuple #[.slice av xs.length c, .int .i64 e] ∧ Sl I' 14 encG av xs.length c xs
theorem ResG.empty {e : Int} {xs : List Sg} {I : HMap} (h : xs = []) : ResG e xs (.tuple #[.slice none 0 0, .int .i64 e]) I [] := by
  subst h
  exact ⟨rfl, none, 0, rfl, .nil⟩
theorem ResG.good {e e' : Int} {xs ys : List Sg} {I : HMap} {av : Option Addr} {n c : Nat} (h : e = e') (hx : ys = xs) (hS : Sl I 14 encG av n c ys) : ResG e' xs (.tuple #[.slice av n c, .int .i64 e]) I [] := by
  subst h; subst hx
  have hn := hS.len
  subst hn
  exact ⟨rfl, av, c, rfl, hS⟩
theorem valn {e size n : Nat} {v : Value} {xs : List Value} {L : Go.Kn.Loc} (h : OwnS e size v n xs L) : ∃ a c, v = .slice a n c := by
  rcases h.2 with ⟨h1, h2, _⟩ | ⟨b, c, cur, h1, _⟩
  · subst h2; exact ⟨_, _, h1⟩
  · exact ⟨_, _, h1⟩
theorem setO_nil {x : Sg} {f : Int} {l : List Pt} (h : l = []) : setO x f l = x := by subst h; rfl
theorem setO_pre {x : Sg} {f : Int} {l : List Pt} {p : Pt} (h : [p] <+: l) : setO x f l = setG x f p.nw := by
  obtain ⟨t, rfl⟩ := h; rfl
theorem cur_next {on : Int → Int → Bool} {l : List Pt} {x y : Sg} {k : Nat} (hy : y = curK on l x k) : setO y ((k : Int) + 1) (latF on l y.id ((k : Int) + 1)) = curK on l x (k + 1) := by
  subst hy
  rw [curK_step, (curK_id k).1]
theorem isF_k {k : Nat} (h : k < 9) : isF ((k : Int) + 1) := by unfold isF; omega
theorem cur_start {on : Int → Int → Bool} {l : List Pt} {x : Sg} : x = curK on l x 0 := rfl
theorem sgn_bad {ps : List Pt} {bs : List Sg} {ws : List Int} (h : patE ps bs ws ≠ 0) : sgnE ps bs ws = patE ps bs ws := by unfold sgnE; rw [if_pos h]
theorem sgn_ok {ps : List Pt} {bs : List Sg} {ws : List Int} (h : patE ps bs ws = 0) : sgnE ps bs ws = exE (onF ps) (verL ps ws) (allG bs (verL ps ws)) := by unfold sgnE; rw [if_neg (by omega)]; rfl
theorem pat_chk {ps : List Pt} {bs : List Sg} {ws : List Int} (h : patE ps bs ws = 0) : chkR ps = 0 := by
  by_cases h2 : chkR ps = 0
  · exact h2
  · rw [pat_1 h2] at h; exact h
theorem pat_g {ps : List Pt} {bs : List Sg} {ws : List Int} (h : patE ps bs ws = 0) : chkG bs = 0 := by
  by_cases h2 : chkG bs = 0
  · exact h2
  · rw [pat_2 (pat_chk h) h2] at h; exact h
theorem pat_v {ps : List Pt} {bs : List Sg} {ws : List Int} (h : patE ps bs ws = 0) : Ver ps ws := by
  by_cases h2 : vrE ps ws = 0
  · exact (verB_iff (chkR_lst (pat_chk h))).1 (vr_ver h2)
  · rw [pat_3 (pat_chk h) (pat_g h) h2] at h; exact absurd h h2
theorem pat_ok {ps : List Pt} {bs : List Sg} {ws : List Int} (h : patE ps bs ws = 0) : ∀ p ∈ verL ps ws, PtOK p := fun p hp => (chkR_sto (pat_chk h)).ok p (mem_verL.1 hp).1
theorem allG_len (bs : List Sg) (l : List Pt) : (allG bs l).length ≤ bs.length + l.length := by
  have h := (all_perm l bs).length_eq
  rw [h, List.length_append]
  unfold insS
  rw [List.length_map]
  have := List.length_filter_le (fun p : Pt => p.kind == 2) l
  omega
end Go.Proofs.YtccomeanpppfmaaGreat
end
section
namespace Go.Proofs.YtccomeanpppfmaaGreat
open Go Go.Kn Go.Proofs
theorem w_current {I : HMap} {ps l : List Pt} {xs : List Sg} {r1 r2 r3 : Nat} {av : Option Addr} {n c : Nat} (hx : StQ I ps l xs r1 r2 r3 av n c) (hn : n ≤ 100000) (hok : ∀ p ∈ l, PtOK p) : RetM Tryz.prog 44 [stA r1 r2 r3 av n c] I [] (ResG (exE (onF ps) l xs) (resF (exE (onF ps) l xs) (exL (onF ps) l xs))) := by
 intro g H w hw
 refine enterMs Tryz.func44 rfl Tryz.ntmps44 rfl hw ?_
 have hIc := HLe.refl I
 refine X_seq (X_region ?_)
 refine XO_box rfl rfl rfl (fun b_1 => ?_)
 refine XO_v0 (ev_assign rfl) rfl rfl rfl ?_
 refine XO_v0 (ev_assign rfl) rfl rfl rfl ?_
 refine XO_nil (at_then ?_)
 refine X_seq ?_
 refine X_seq ?_
 refine X_dropTo ((b_1, .cells #[.map (some r1), .map (some r2), .map (some r3), .slice av n c] 85 (0, 0)) :: ([] ++ MB _)) .refl ?_
 refine X_region ?_
 refine XO_v0 (ev_fieldAddr rfl fld_85_3) rfl rfl rfl ?_
 refine XO_v0 (ev_load rfl sct_33 (fun hg => by repeat (first | exact Cell.here rfl | apply Cell.there | apply Cell.app))) rfl rfl rfl ?_
 refine XO_v0 (ev_lenS rfl slt_33) rfl rfl rfl ?_
 refine XO_v0 (ev_move rfl) rfl rfl rfl ?_
 refine XO_nil (at_then ?_)
 refine X_block ?_
 refine X_loopM [(1, _), (9, _), (10, _)] (.cons rfl (.cons rfl (.cons rfl .nil))) (fun T L0 mz ms E I' loc' => ∃ (j : Nat) (v : Value) (q : Nat) (L : Go.Kn.Loc), mz = n - j ∧ E = (2, v) :: (11, .int .i64 j) :: T ∧ HLe I I' ∧ (b_1, .cells #[.map (some r1), .map (some r2), .map (some r3), .slice av n c] 85 (0, 0)) :: (L ++ MB ms) = loc' ∧ j ≤ n ∧ OwnS 45 14 v q ((exL (onF ps) l (xs.take j)).flatMap encG) L ∧ q ≤ j) _ _ _ _ ⟨0, _, 0, [], rfl, rfl, HLe.refl _, rfl, Nat.zero_le _, by rw [ex_zero]; exact OwnS.nil, Nat.le_refl _⟩ (.cons rfl (.cons rfl (.cons rfl (.cons rfl (.cons rfl .nil))))) (HLe.refl _) rfl ?_
 rintro mz ms E J1 loc' ⟨j, v, q, L, rfl, rfl, hJ, rfl, hj, hO, hq⟩
 have hx := hx.mono hJ
 have hIc := hIc.trans hJ
 have hB0 := hJ
 refine X_seq (X_region ?_)
 refine XO_v0 (ev_cmp rfl rfl rfl) rfl rfl rfl ?_
 refine XO_nil (at_then ?_)
 refine X_seq ?_
 refine X_cond rfl (fun hc12 => ?_) (fun hc12 => ?_)
 ·
  have hlt_j : j < n := by have h := hc12; simp at h; omega
  have hS := hx.sg
  obtain ⟨x, hxx⟩ := hS.at hlt_j
  refine X_skip ?_
  refine at_then ?_
  refine X_seq ?_
  refine X_block ?_
  refine X_seq (X_region ?_)
  refine XO_v0 (ev_indexSl rfl rfl slt_33 (by assumption) (fun hg => by first | omega | (simp [conj] at hg; omega))) rfl rfl rfl ?_
  refine XO_v0 (ev_loadA rfl agt_45 (fun hg => by first | exact Sl.getA hS hxx | (repeat (first | exact Cells.here | exact Cells.s0 (vs := [_, _, _, _, _, _, _, _, _, _, _, _, _, _]) rfl | apply Cells.there | apply Cells.app))) rfl) rfl rfl rfl ?_
  refine XO_alloc zt_45 rfl rfl (fun b_5 => ?_)
  refine XO_storeA rfl rfl szt_45 rfl rfl rfl rfl (by repeat (first | exact Upd.here | apply Upd.there | apply upd_app)) ?_
  refine XO_nil (at_then ?_)
  refine X_seq ?_
  refine X_seq (X_region ?_)
  refine XO_v0 (ev_loadA rfl agt_85 (fun hg => by first | exact Sl.getA hS hxx | (repeat (first | exact Cells.here | exact Cells.s0 (vs := [_, _, _, _]) rfl | apply Cells.there | apply Cells.app))) rfl) rfl rfl rfl ?_
  refine XO_v0 (ev_fieldAddr rfl fld_45_0) rfl rfl rfl ?_
  refine XO_v0 (ev_load rfl sct_3 (fun hg => by repeat (first | exact Cell.here rfl | apply Cell.there | apply Cell.app))) rfl rfl rfl ?_
  refine XO_callV0 (cap := []) (vs := [_, _]) rfl rfl fun_50 (w_exists hx hok _) rfl rfl ?_
  refine XO_v0 (ev_not rfl) rfl rfl rfl ?_
  refine XO_nil (at_then ?_)
  refine X_cond rfl (fun hc19 => ?_) (fun hc19 => ?_)
  ·
   have hex := (Bool.not_eq_true' _).mp hc19
   refine X_exit ?_
   refine at_then_e ?_
   refine at_block_hit ?_
   refine at_then ?_
   refine X_region ?_
   refine XO_v0 (ev_arB rfl rfl rfl (fun _ => by omega)) rfl rfl rfl ?_
   refine XO_v0 (ev_move rfl) rfl rfl rfl ?_
   refine XO_nil ?_
   first
   | exact at_metM rfl rfl rfl _ _ ⟨n - (j + 1), by omega, j + 1, _, _, _, rfl, rfl, hB0, rfl, by omega, by rw [ex_no hxx hex]; exact hO, by omega⟩ (.cons rfl (.cons rfl (.cons rfl (.cons rfl (.cons rfl .nil))))) (by repeat (first | exact .refl | exact subL_left | refine subL_app ?_ | refine .drop ?_ | refine subL_add ?_))
  ·
   have hex := (Bool.not_eq_false' _).mp hc19
   refine X_skip ?_
   refine at_then ?_
   refine X_seq ?_
   refine X_seq (X_region ?_)
   refine XO_alloc zt_3 rfl rfl (fun b_6 => ?_)
   refine XO_store rfl rfl szt_3 rfl rfl (by repeat (first | exact Upd.here | apply Upd.there | apply upd_app)) rfl ?_
   refine XO_nil (at_then ?_)
   refine X_block ?_
   refine X_loopM [(1, _), (2, _), (5, _), (9, _), (10, _), (11, _)] (.cons rfl (.cons rfl (.cons rfl (.cons rfl (.cons rfl (.cons rfl .nil)))))) (fun T L0 mz ms E I' loc' => ∃ (k : Nat) (b6 : Nat) (y : Sg), mz = 9 - k ∧ E = (6, capP b6) :: T ∧ HLe J1 I' ∧ (b6, .cells #[.int .i64 ((k : Int) + 1)] 3 (0, 0)) :: (b_5, .cells (encG y).toArray 45 (0, 0)) :: (b_1, .cells #[.map (some r1), .map (some r2), .map (some r3), .slice av n c] 85 (0, 0)) :: (L ++ MB ms) = loc' ∧ k ≤ 9 ∧ y = curK (onF ps) l x k) _ _ _ _ ⟨0, b_6, x, rfl, rfl, HLe.refl _, rfl, Nat.zero_le _, cur_start⟩ (.cons rfl (.cons rfl (.cons rfl (.cons rfl (.cons rfl (.cons rfl (.cons rfl .nil))))))) (HLe.refl _) rfl ?_
   rintro mz ms E J2 loc' ⟨k, b6, y, rfl, rfl, hJ, rfl, hk, hy⟩
   have hx := hx.mono hJ
   have hIc := hIc.trans hJ
   have hB0 := hB0.trans hJ
   have hB2 := hJ
   refine X_seq ?_
   refine X_seq (X_region ?_)
   refine XO_v0 (ev_load rfl sct_3 (fun hg => by repeat (first | exact Cell.here rfl | apply Cell.there | apply Cell.app))) rfl rfl rfl ?_
   refine XO_v0 (ev_cmp rfl rfl rfl) rfl rfl rfl ?_
   refine XO_nil (at_then ?_)
   refine X_cond rfl (fun hc21 => ?_) (fun hc21 => ?_)
   ·
    have hlt_k : k < 9 := by have h := hc21; simp at h; omega
    refine X_skip ?_
    refine at_then ?_
    refine X_seq ?_
    refine X_block ?_
    refine X_seq (X_region ?_)
    refine XO_v0 (ev_loadA rfl agt_85 (fun hg => by first | exact Sl.getA hS hxx | (repeat (first | exact Cells.here | exact Cells.s0 (vs := [_, _, _, _]) rfl | apply Cells.there | apply Cells.app))) rfl) rfl rfl rfl ?_
    refine XO_v0 (ev_fieldAddr rfl fld_45_0) rfl rfl rfl ?_
    refine XO_v0 (ev_load rfl sct_3 (fun hg => by repeat (first | exact Cell.here rfl | apply Cell.there | apply Cell.app))) rfl rfl rfl ?_
    refine XO_v0 (ev_load rfl sct_3 (fun hg => by repeat (first | exact Cell.here rfl | apply Cell.there | apply Cell.app))) rfl rfl rfl ?_
    refine XO_callM (cap := []) (vs := [_, _, _]) rfl rfl fun_51 .nil (w_latest _ _ _ _ _ _ _ _ _) rfl rfl ?_
    rintro vv3 I3 L3 hI3 ⟨rfl, c1, c2, c3, rfl, hcap⟩
    have hx := hx.mono hI3
    have hIc := hIc.trans hI3
    have hB0 := hB0.trans hI3
    have hB2 := hB2.trans hI3
    refine XO_nil (at_then ?_)
    refine X_block ?_
    refine X_rangeFuncM (K := []) (L := (b6, .cells #[.int .i64 ((k : Int) + 1)] 3 (0, 0)) :: (b_5, .cells (encG y).toArray 45 (0, 0)) :: (b_1, .cells #[.map (some r1), .map (some r2), .map (some r3), .slice av n c] 85 (0, 0)) :: L) (enc := encPA) (xs := latF (onF ps) l y.id ((k : Int) + 1)) (fun pre I' loc' => pre = [] ∧ loc' = (b6, .cells #[.int .i64 ((k : Int) + 1)] 3 (0, 0)) :: (b_5, .cells (encG y).toArray 45 (0, 0)) :: (b_1, .cells #[.map (some r1), .map (some r2), .map (some r3), .slice av n c] 85 (0, 0)) :: L) (fun cd pre I' loc' => cd = .exit 4 ∧ ∃ p, pre = [p] ∧ loc' = (b_5, .cells (encG (setG y ((k : Int) + 1) p.nw)).toArray 45 (0, 0)) :: (b6, .cells #[.int .i64 ((k : Int) + 1)] 3 (0, 0)) :: (b_1, .cells #[.map (some r1), .map (some r2), .map (some r3), .slice av n c] 85 (0, 0)) :: L) (fun pre p E2 I2 loc2 => ∃ b7 : Nat, E2 = [(5, capP b_5), (6, capP b6), (7, capP b7)] ∧ pre = [] ∧ loc2 = (b7, .cells (encP p).toArray 53 (0, 0)) :: (b6, .cells #[.int .i64 ((k : Int) + 1)] 3 (0, 0)) :: (b_5, .cells (encG y).toArray 45 (0, 0)) :: (b_1, .cells #[.map (some r1), .map (some r2), .map (some r3), .slice av n c] 85 (0, 0)) :: L) rfl fun_88 (w_latit hx hcap) rfl ⟨rfl, rfl⟩ ?_ ?_ ?_ ?_
    ·
     rintro l9 pre p I1 loc1 H1 hpre hI1 ⟨rfl, rfl⟩
     refine X_region ?_
     refine XO_alloc zt_53 rfl rfl (fun b_7 => ?_)
     refine XO_storeA rfl rfl szt_53 rfl rfl rfl rfl (by repeat (first | exact Upd.here | apply Upd.there | apply upd_app)) ?_
     refine XO_nil ?_
     exact at_met' _ ⟨HLe.refl _, b_7, rfl, rfl, rfl⟩ (.cons rfl (.cons rfl (.cons rfl .nil)))
    ·
     rintro l9 pre p E2 I2 loc2 H2 hpre hI2 ⟨b7, rfl, rfl, rfl⟩
     refine X_block ?_
     refine X_seq (X_region ?_)
     refine XO_v0 (ev_load rfl sct_3 (fun hg => by repeat (first | exact Cell.here rfl | apply Cell.there | apply Cell.app))) rfl rfl rfl ?_
     refine XO_v0 (ev_fieldAddr rfl fld_53_4) rfl rfl rfl ?_
     refine XO_v0 (ev_loadA rfl agt_45 (fun hg => by first | exact Sl.getA hS hxx | (repeat (first | exact Cells.here | exact Cells.s0 (vs := [_, _, _, _, _, _, _, _, _, _, _, _, _, _]) rfl | apply Cells.there | apply Cells.app))) rfl) rfl rfl rfl ?_
     refine XO_callM (cap := []) (vs := [_, _, _]) rfl rfl fun_82 (by repeat (first | exact .cons .here .nil | exact split_all | exact split_app | apply split_cons | apply split_skip)) (w_put _ b_5 y _ p.nw (isF_k hlt_k)) rfl rfl ?_
     rintro vv4 I4 L4 hI4 ⟨rfl, rfl, rfl⟩
     refine XO_nil (at_then ?_)
     refine X_exit ?_
     refine at_block_miss rfl ?_
     exact at_round_exit2 ⟨HLe.refl _, rfl, p, rfl, rfl⟩ (by repeat (first | exact .refl | refine .keep ?_ | refine .drop ?_))
    ·
     rintro bd I1 loc1 hI1 ⟨hnil, rfl⟩
     have hx := hx.mono hI1
     have hIc := hIc.trans hI1
     have hB0 := hB0.trans hI1
     have hB2 := hB2.trans hI1
     have hy2 : y = curK (onF ps) l x (k + 1) := by rw [← cur_next hy, setO_nil hnil]
     refine at_block_n ?_
     refine at_block_n ?_
     refine at_then ?_
     refine X_seq ?_
     refine X_seq (X_region ?_)
     refine XO_v0 (ev_load rfl sct_3 (fun hg => by repeat (first | exact Cell.here rfl | apply Cell.there | apply Cell.app))) rfl rfl rfl ?_
     refine XO_nil (at_then ?_)
     refine X_region ?_
     refine XO_alloc zt_3 rfl rfl (fun b_6 => ?_)
     refine XO_store rfl rfl szt_3 rfl rfl (by repeat (first | exact Upd.here | apply Upd.there | apply upd_app)) rfl ?_
     refine XO_nil (at_then ?_)
     refine X_region ?_
     refine XO_v0 (ev_load rfl sct_3 (fun hg => by repeat (first | exact Cell.here rfl | apply Cell.there | apply Cell.app))) rfl rfl rfl ?_
     refine XO_v0 (ev_arB rfl rfl rfl (fun _ => by omega)) rfl rfl rfl ?_
     refine XO_store rfl rfl szt_3 rfl rfl (by repeat (first | exact Upd.here | apply Upd.there | apply upd_app)) rfl ?_
     refine XO_nil ?_
     exact at_metM rfl rfl rfl _ _ ⟨9 - (k + 1), by omega, k + 1, _, _, rfl, rfl, hB2, rfl, by omega, hy2⟩ (.cons rfl (.cons rfl (.cons rfl (.cons rfl (.cons rfl (.cons rfl (.cons rfl .nil))))))) (by repeat (first | exact .refl | refine .keep ?_ | refine .drop ?_))
    ·
     rintro cd bd pre I1 loc1 hI1 hpre ⟨rfl, p, rfl, rfl⟩
     have hx := hx.mono hI1
     have hIc := hIc.trans hI1
     have hB0 := hB0.trans hI1
     have hB2 := hB2.trans hI1
     have hy2 : (setG y ((k : Int) + 1) p.nw) = curK (onF ps) l x (k + 1) := by rw [← cur_next hy, setO_pre hpre]
     refine X_exit ?_
     refine at_block_hit ?_
     refine at_block_n ?_
     refine at_then ?_
     refine X_seq ?_
     refine X_seq (X_region ?_)
     refine XO_v0 (ev_load rfl sct_3 (fun hg => by repeat (first | exact Cell.here rfl | apply Cell.there | apply Cell.app))) rfl rfl rfl ?_
     refine XO_nil (at_then ?_)
     refine X_region ?_
     refine XO_alloc zt_3 rfl rfl (fun b_6 => ?_)
     refine XO_store rfl rfl szt_3 rfl rfl (by repeat (first | exact Upd.here | apply Upd.there | apply upd_app)) rfl ?_
     refine XO_nil (at_then ?_)
     refine X_region ?_
     refine XO_v0 (ev_load rfl sct_3 (fun hg => by repeat (first | exact Cell.here rfl | apply Cell.there | apply Cell.app))) rfl rfl rfl ?_
     refine XO_v0 (ev_arB rfl rfl rfl (fun _ => by omega)) rfl rfl rfl ?_
     refine XO_store rfl rfl szt_3 rfl rfl (by repeat (first | exact Upd.here | apply Upd.there | apply upd_app)) rfl ?_
     refine XO_nil ?_
     exact at_metM rfl rfl rfl _ _ ⟨9 - (k + 1), by omega, k + 1, _, _, rfl, rfl, hB2, rfl, by omega, hy2⟩ (.cons rfl (.cons rfl (.cons rfl (.cons rfl (.cons rfl (.cons rfl (.cons rfl .nil))))))) (by repeat (first | exact .refl | refine .keep ?_ | refine .drop ?_))
   ·
    have hge_k : 9 ≤ k := by have h := hc21; simp at h; omega
    have hk9 : k = 9 := by omega
    subst hk9
    have hy : y = curF (onF ps) l x := hy
    subst hy
    refine X_exit ?_
    refine at_then_e ?_
    refine at_then_e ?_
    refine at_block_hit ?_
    refine at_then ?_
    refine X_region ?_
    refine XO_v0 (ev_move rfl) rfl rfl rfl ?_
    refine XO_v0 (ev_loadA rfl agt_45 (fun hg => by first | exact Sl.getA hS hxx | (repeat (first | exact Cells.here | exact Cells.s0 (vs := [_, _, _, _, _, _, _, _, _, _, _, _, _, _]) rfl | apply Cells.there | apply Cells.app))) rfl) rfl rfl rfl ?_
    refine XO_buildSlice (ps := [(0, _)]) (m := [encG (curF (onF ps) l x)]) elt_33 rfl (.cons rfl (.nil)) rfl (by simp [encG_len]) (by decide) (by decide) rfl rfl (fun b_37 => ?_)
    refine XO_append (v := _) (ys := [curF (onF ps) l x].flatMap encG) (L := L) rfl rfl elt_33 hO (by repeat (first | exact .cons .here .nil | exact split_all | exact split_app | apply split_cons | apply split_skip)) ⟨rfl, fun _ => rfl, Cells.here⟩ (one_G [curF (onF ps) l x]) (by omega) rfl rfl ?_
    intro v9 L9 hO9 _; rw [← List.flatMap_append] at hO9
    refine XO_v0 (ev_assign rfl) rfl rfl rfl ?_
    refine XO_nil ?_
    refine at_block_n ?_
    refine at_then ?_
    refine X_region ?_
    refine XO_v0 (ev_arB rfl rfl rfl (fun _ => by omega)) rfl rfl rfl ?_
    refine XO_v0 (ev_move rfl) rfl rfl rfl ?_
    refine XO_nil ?_
    first
    | exact at_metMP rfl rfl rfl _ _ (L9 ++ ((b_1, _) :: MB _)) ⟨n - (j + 1), by omega, j + 1, v9, _, L9, rfl, rfl, hB0, rfl, by omega, by rw [ex_yes hxx hex]; exact hO9, by omega⟩ (.cons rfl (.cons rfl (.cons rfl (.cons rfl (.cons rfl .nil))))) List.perm_middle.symm (by repeat (first | exact .refl | exact subL_left | refine subL_app ?_ | refine .drop ?_ | refine subL_add ?_))
 ·
  have hge_j : n ≤ j := by have h := hc12; simp at h; omega
  obtain ⟨va, vc, rfl⟩ := valn hO
  rw [List.take_of_length_le (by rw [hx.sg.len]; exact hge_j)] at hO
  refine X_exit ?_
  refine at_then_e ?_
  refine at_then_e ?_
  refine at_block_hit ?_
  refine at_then ?_
  refine X_seq ?_
  refine X_seq (X_region ?_)
  refine XO_v0 (ev_move rfl) rfl rfl rfl ?_
  refine XO_v0 (ev_lenS rfl slt_33) rfl rfl rfl ?_
  refine XO_v0 (ev_cmp rfl rfl rfl) rfl rfl rfl ?_
  refine XO_nil (at_then ?_)
  refine X_cond rfl (fun hc42 => ?_) (fun hc42 => ?_)
  ·
   have hbig : exE (onF ps) l xs = 2 := by unfold exE; rw [if_pos]; have h1 := hO.1; rw [flat_len encG_len] at h1; simp at hc42; omega
   refine X_seq (X_region ?_)
   refine XO_v0 (ev_assign rfl) rfl rfl rfl ?_
   refine XO_v0 (ev_assign rfl) rfl rfl rfl ?_
   refine XO_nil (at_then ?_)
   refine X_ret ?_
   refine at_then_r ?_
   first
   | exact at_retMs (L := _ :: L) (fun a ha w hw => res2 rfl rfl rfl a ha w) (fun w hw => ⟨_, J1, [], rfl, hIc, hw.drop, by rw [hbig]; exact ResG.empty rfl⟩)
  ·
   have hbig : exE (onF ps) l xs = 0 := by unfold exE; rw [if_neg]; have h1 := hO.1; rw [flat_len encG_len] at h1; simp at hc42; omega
   refine X_skip ?_
   refine at_then ?_
   refine X_seq (X_region ?_)
   refine XO_v0 (ev_move rfl) rfl rfl rfl ?_
   refine XO_v0 (ev_assign rfl) rfl rfl rfl ?_
   refine XO_v0 (ev_assign rfl) rfl rfl rfl ?_
   refine XO_nil (at_then ?_)
   refine X_ret ?_
   first
   | exact at_retMs (L := _ :: L) (fun a ha w hw => res2 rfl rfl rfl a ha w) (fun w hw => by obtain ⟨I9, h91, h92, h93⟩ := OwnS.res hO encG_len (by decide) (hw.subL (.drop .refl)); obtain ⟨_, a9, c9, e9, h94⟩ := h93; cases e9; exact ⟨_, I9, [], rfl, hIc.trans h91, h92, by rw [hbig]; exact ResG.good rfl rfl h94⟩)
end Go.Proofs.YtccomeanpppfmaaGreat
end
section
namespace Go.Proofs.YtccomeanpppfmaaGreat
open Go Go.Kn Go.Proofs
theorem w_Signs {I : HMap} {av : Option Addr} {n c : Nat} {ps : List Pt} (hP : SlP I av n c ps) (hn : n ≤ 100000) {bv : Option Addr} {n2 c2 : Nat} {bs : List Sg} (hB : Sl I 14 encG bv n2 c2 bs) (hn2 : n2 ≤ 100000) {dv : Option Addr} {n3 c3 : Nat} {ws : List Int} (hV : Sl I 1 encI dv n3 c3 ws) (hn3 : n3 ≤ 100000) : RetM Tryz.prog 15 [.slice av n c, .slice bv n2 c2, .slice dv n3 c3] I [] (ResG (sgnE ps bs ws) (sgnF ps bs ws)) := by
 intro g H w hw
 refine enter Tryz.func15 rfl Tryz.ntmps15 rfl hw ?_
 have hIc := HLe.refl I
 refine X_seq (X_region ?_)
 refine XO_v0 (ev_assign rfl) rfl rfl rfl ?_
 refine XO_v0 (ev_assign rfl) rfl rfl rfl ?_
 refine XO_nil (at_then ?_)
 refine X_seq (X_region ?_)
 refine XO_v0 (ev_move rfl) rfl rfl rfl ?_
 refine XO_v0 (ev_move rfl) rfl rfl rfl ?_
 refine XO_v0 (ev_move rfl) rfl rfl rfl ?_
 refine XO_callM (cap := []) (vs := [_, _, _]) rfl rfl fun_43 .nil (w_read hP hn hB hn2 hV hn3) rfl rfl ?_
 rintro vv1 I1 L1 hI1 ⟨rfl, m1, m2, m3, a9, n9, c9, rfl, hst⟩
 have hIc := hIc.trans hI1
 refine XO_v0 (ev_move rfl) rfl rfl rfl ?_
 refine XO_v0 (ev_extract rfl rfl) rfl rfl rfl ?_
 refine XO_v0 (ev_extract rfl rfl) rfl rfl rfl ?_
 refine XO_alloc zt_85 rfl rfl (fun b_8 => ?_)
 refine XO_storeA rfl rfl szt_85 rfl rfl rfl rfl (by repeat (first | exact Upd.here | apply Upd.there | apply upd_app)) ?_
 refine XO_v0 (ev_assign rfl) rfl rfl rfl ?_
 refine XO_nil (at_then ?_)
 refine X_seq ?_
 refine X_seq (X_region ?_)
 refine XO_v0 (ev_move rfl) rfl rfl rfl ?_
 refine XO_v0 (ev_cmp rfl rfl rfl) rfl rfl rfl ?_
 refine XO_nil (at_then ?_)
 refine X_cond rfl (fun hc17 => ?_) (fun hc17 => ?_)
 ·
  have he : patE ps bs ws ≠ 0 := by simpa using hc17
  refine X_seq (X_region ?_)
  refine XO_v0 (ev_move rfl) rfl rfl rfl ?_
  refine XO_v0 (ev_assign rfl) rfl rfl rfl ?_
  refine XO_v0 (ev_assign rfl) rfl rfl rfl ?_
  refine XO_nil (at_then ?_)
  refine X_ret ?_
  refine at_then_r ?_
  first
  | exact at_ret2 rfl rfl rfl (fun w hw => ⟨_, I1, [], rfl, hIc, hw.drop, by unfold sgnF; rw [sgn_bad he]; exact ResG.empty (resF_bad he)⟩)
 ·
  have he : patE ps bs ws = 0 := by simpa using hc17
  obtain ⟨r1, r2, r3, rfl, rfl, rfl, hx⟩ := hst he
  have hn9 : n9 ≤ 5000 := by have h1 := hx.sg.len; have h2 := allG_len bs (verL ps ws); have h3 := hx.fewl; have h4 := (chkG_ok (pat_g he)).1; omega
  refine X_skip ?_
  refine at_then ?_
  refine X_seq (X_region ?_)
  refine XO_v0 (ev_loadA rfl agt_85 (fun hg => by first | (repeat (first | exact Cells.here | exact Cells.s0 (vs := [_, _, _, _]) rfl | apply Cells.there | apply Cells.app))) rfl) rfl rfl rfl ?_
  refine XO_callM (cap := []) (vs := [_]) rfl rfl fun_44 .nil (w_current hx (by omega) (pat_ok he)) rfl rfl ?_
  rintro vv2 I2 L2 hI2 ⟨rfl, av8, c8, rfl, hR⟩
  have hIc := hIc.trans hI2
  refine XO_v0 (ev_extract rfl rfl) rfl rfl rfl ?_
  refine XO_v0 (ev_extract rfl rfl) rfl rfl rfl ?_
  refine XO_v0 (ev_assign rfl) rfl rfl rfl ?_
  refine XO_v0 (ev_assign rfl) rfl rfl rfl ?_
  refine XO_nil (at_then ?_)
  refine X_ret ?_
  first
  | exact at_ret2 rfl rfl rfl (fun w hw => ⟨_, I2, [], rfl, hIc, hw.drop, ResG.good (sgn_ok he).symm (by unfold sgnF; rw [sgn_ok he]; rfl) hR⟩)
end Go.Proofs.YtccomeanpppfmaaGreat
end
section
namespace Go.Proofs.YtccomeanpppfmaaGreat
open Go Go.Kn Go.Proofs
/-- Conflicts in memory. -/
def CsQ (I : HMap) (cs : List Cf) (K : List Ck) : Prop := (∀ z ∈ cs, Sl I 1 encI z.a z.n z.c z.ids) ∧ cs.map Cf.key = K
theorem CsQ.mono {I I' : HMap} {cs : List Cf} {K : List Ck} (h : CsQ I cs K) (hI : HLe I I') : CsQ I' cs K := ⟨fun z hz => (h.1 z hz).mono hI, h.2⟩
theorem CsQ.nil {I : HMap} : CsQ I [] [] := ⟨fun z hz => (by cases hz), rfl⟩
theorem CsQ.snoc {I : HMap} {cs : List Cf} {K : List Ck} (h : CsQ I cs K) {z : Cf} (hz : Sl I 1 encI z.a z.n z.c z.ids) : CsQ I (cs ++ [z]) (K ++ [z.key]) := by
  refine ⟨fun y hy => ?_, by rw [List.map_append, h.2]; rfl⟩
  rcases List.mem_append.1 hy with hy | hy
  · exact h.1 y hy
  · simp at hy; subst hy; exact hz
theorem CsQ.congr {I : HMap} {cs : List Cf} {K K' : List Ck} (h : CsQ I cs K) (e : K = K') : CsQ I cs K' := e ▸ h
/-- The conflict of removes: which sets and removes it names. -/
theorem cf0_made {on : Int → Int → Bool} {l : List Pt} {s : Int} (hL : Lst l) (hok : ∀ p ∈ l, PtOK p) : Lib.compact (sortI (unK on l s 9 ++ rmF l s)) = (l.filter fun p => p.sign == s && (unB on l p || p.kind == 3)).map (·.id) := by
  refine comp_sort_eq (ids_sorted hL _) fun x => ?_
  rw [List.mem_append, mem_unK hok, mem_ids, mem_rmF]
  unfold unF
  rw [mem_ids]
  constructor
  · rintro (⟨p, hp, h, e⟩ | ⟨p, hp, hk, hs, e⟩)
    · refine ⟨p, hp, ?_, e⟩
      rw [Bool.and_eq_true] at h ⊢
      exact ⟨h.1, by rw [h.2]; rfl⟩
    · exact ⟨p, hp, by simp [hk, hs], e⟩
  · rintro ⟨p, hp, h, e⟩
    simp only [Bool.and_eq_true, Bool.or_eq_true, beq_iff_eq] at h
    rcases h.2 with h2 | h2
    · exact .inl ⟨p, hp, by simp [h.1, h2], e⟩
    · exact .inr ⟨p, hp, h2, h.1, e⟩
theorem un_nil {on : Int → Int → Bool} {l : List Pt} {s : Int} (hok : ∀ p ∈ l, PtOK p) : (unF on l s).isEmpty = !decide (((unK on l s 9).length : Int) > 0) := by
  cases hu : unF on l s with
  | nil =>
    have : unK on l s 9 = [] := by
      cases hk : unK on l s 9 with
      | nil => rfl
      | cons x us =>
        have : x ∈ (unF on l s).map (·.id) := (mem_unK hok).1 (by rw [hk]; simp)
        rw [hu] at this; cases this
    rw [this]; rfl
  | cons p us =>
    have : p.id ∈ unK on l s 9 := (mem_unK hok).2 (by rw [hu]; simp)
    have h2 : (unK on l s 9).length ≠ 0 := fun h => by rw [List.length_eq_zero_iff.1 h] at this; cases this
    simp; omega
theorem cf0_yes {on : Int → Int → Bool} {l : List Pt} {s : Int} (hL : Lst l) (hok : ∀ p ∈ l, PtOK p) (h : decide (((unK on l s 9).length : Int) > 0) = true) : cf0 on l s = [(s, 0, Lib.compact (sortI (unK on l s 9 ++ rmF l s)))] := by
  unfold cf0; rw [un_nil hok, h, cf0_made hL hok]; rfl
theorem cf0_no {on : Int → Int → Bool} {l : List Pt} {s : Int} (hok : ∀ p ∈ l, PtOK p) (h : decide (((unK on l s 9).length : Int) > 0) = false) : cf0 on l s = [] := by
  unfold cf0; rw [un_nil hok, h]; rfl
/-- Values seen. -/
structure MvQ (m : List (Sg × Bool)) (pre : List Pt) : Prop where
  nodup : (m.map (·.1)).Nodup
  mem : ∀ x, x ∈ m.map (·.1) ↔ ∃ p ∈ pre, p.nw = x
theorem MvQ.nil : MvQ [] [] := ⟨.nil, fun x => by simp⟩
theorem MvQ.put {m : List (Sg × Bool)} {pre : List Pt} (h : MvQ m pre) (p : Pt) : MvQ (mset m p.nw true) (pre ++ [p]) := by
  refine ⟨mset_nodup _ _ h.nodup, fun x => ?_⟩
  rw [mset_keys]
  split
  · rename_i h2
    rw [h.mem]
    constructor
    · rintro ⟨q, hq, e⟩; exact ⟨q, by simp [hq], e⟩
    · rintro ⟨q, hq, e⟩
      rcases List.mem_append.1 hq with hq | hq
      · exact ⟨q, hq, e⟩
      · simp at hq; subst hq; rw [h.mem] at h2; rw [e] at h2; exact h2
  · rw [List.mem_append, h.mem]
    constructor
    · rintro (⟨q, hq, e⟩ | h3)
      · exact ⟨q, by simp [hq], e⟩
      · simp at h3; exact ⟨p, by simp, h3.symm⟩
    · rintro ⟨q, hq, e⟩
      rcases List.mem_append.1 hq with hq | hq
      · exact .inl ⟨q, hq, e⟩
      · simp at hq; subst hq; exact .inr (by simp [e])
theorem dif_eq {m : List (Sg × Bool)} {xs : List Pt} (h : MvQ m xs) : decide (((m.length : Nat) : Int) > 1) = difB xs := by
  rw [Bool.eq_iff_iff, decide_eq_true_eq]
  cases xs with
  | nil =>
    have : m = [] := by
      cases m with
      | nil => rfl
      | cons q m => have := (h.mem q.1).1 (by simp); simp at this
    subst this; simp [difB]
  | cons p ps =>
    unfold difB
    rw [List.any_eq_true]
    constructor
    · intro hl
      match m, h with
      | a :: b :: m, h =>
        have hnd := h.nodup
        simp only [List.map_cons, List.nodup_cons, List.mem_cons, not_or] at hnd
        obtain ⟨qa, hqa, ea⟩ := (h.mem a.1).1 (by simp)
        obtain ⟨qb, hqb, eb⟩ := (h.mem b.1).1 (by simp)
        have hne : qa.nw ≠ qb.nw := by rw [ea, eb]; exact hnd.1.1
        by_cases hp : qa.nw = p.nw
        · rcases List.mem_cons.1 hqb with rfl | hqb
          · exact absurd hp hne
          · refine ⟨qb, hqb, ?_⟩
            rw [Bool.not_eq_true']
            cases hs : sgEq qb.nw p.nw with
            | false => rfl
            | true => exact absurd (by rw [hp]; exact (sgEq_iff.1 hs).symm) hne
        · rcases List.mem_cons.1 hqa with rfl | hqa
          · exact absurd rfl hp
          · refine ⟨qa, hqa, ?_⟩
            rw [Bool.not_eq_true']
            cases hs : sgEq qa.nw p.nw with
            | false => rfl
            | true => exact absurd (sgEq_iff.1 hs) hp
      | [a], _ => simp at hl
      | [], _ => simp at hl
    · rintro ⟨q, hq, hs⟩
      rw [Bool.not_eq_true'] at hs
      have hne := sgEq_no hs
      have h1 : p.nw ∈ m.map (·.1) := (h.mem _).2 ⟨p, by simp, rfl⟩
      have h2 : q.nw ∈ m.map (·.1) := (h.mem _).2 ⟨q, by simp [hq], rfl⟩
      match m, h1, h2 with
      | a :: b :: m, _, _ => simp; omega
      | [a], h1, h2 =>
        simp at h1 h2
        exact absurd (by rw [h1, h2]) hne
      | [], h1, _ => simp at h1
def cfR (on : Int → Int → Bool) (l : List Pt) (s : Int) (k : Nat) : List Ck := (List.range k).flatMap fun (j : Nat) => cfK on l s ((j : Int) + 1)
theorem cfR_next (on : Int → Int → Bool) (l : List Pt) (s : Int) (k : Nat) : cfR on l s (k + 1) = cfR on l s k ++ cfK on l s ((k : Int) + 1) := by
  unfold cfR
  rw [List.range_succ, List.flatMap_append]; simp
theorem cfK_yes {on : Int → Int → Bool} {l : List Pt} {s f : Int} (h : exB on l s = true) (h2 : difB (latF on l s f) = true) : cfK on l s f = [(s, f, (latF on l s f).map (·.id))] := by unfold cfK; rw [h, h2]; rfl
theorem cfK_no {on : Int → Int → Bool} {l : List Pt} {s f : Int} (h2 : difB (latF on l s f) = false) : cfK on l s f = [] := by unfold cfK; rw [h2, Bool.and_false]; rfl
theorem cfS_end {on : Int → Int → Bool} {l : List Pt} {s : Int} {k : Nat} (hk : k ≤ 9) (h : (decide ((k : Int) + 1 ≤ 9) && exB on l s) = false) : cf0 on l s ++ cfR on l s k = cfS on l s := by
  unfold cfS cfR
  congr 1
  rw [Bool.and_eq_false_iff] at h
  rcases h with h | h
  · simp at h
    rw [show k = 9 by omega]
  · have e : ∀ j, cfK on l s j = [] := fun j => by unfold cfK; rw [h]; rfl
    have e2 : ∀ r : List Nat, (r.flatMap fun (j : Nat) => cfK on l s ((j : Int) + 1)) = [] := fun r => by
      rw [List.flatMap_eq_nil_iff]; exact fun j _ => e _
    rw [e2, e2]
theorem perm_two {x y : Nat × Obj} {L M : Go.Kn.Loc} : (x :: y :: (L ++ M)).Perm (L ++ (x :: y :: M)) := List.perm_append_comm_assoc [x, y] L M
theorem pre_next {xs : List Sg} {j : Nat} {x : Sg} (hx : xs[j]? = some x) (f : Sg → List Ck) : (xs.take (j + 1)).flatMap f = (xs.take j).flatMap f ++ f x := by
  rw [take_snoc hx, List.flatMap_append]; simp
theorem lat_bound {on : Int → Int → Bool} {l pre : List Pt} {s f : Int} {p : Pt} {e q : Nat} {v : Value} {L : Go.Kn.Loc} (h : pre ++ [p] <+: latF on l s f) (hO : OwnS e 1 v q ((pre.map (·.id)).flatMap encI) L) (hl : l.length ≤ 512) : q ≤ 512 := by
  have h1 := hO.1
  rw [lenI, List.length_map] at h1
  have h2 := h.length_le
  rw [List.length_append] at h2
  have h3 : (latF on l s f).length ≤ (stF l s f).length := List.length_filter_le ..
  have h4 := stF_len (l := l) (s := s) (f := f)
  omega
theorem un_len {on : Int → Int → Bool} {l : List Pt} {s : Int} (hl : l.length ≤ 512) : (unK on l s 9).length ≤ 5000 := by
  have h1 := unK_len (on := on) (l := l) (s := s) 9
  have h2 : 9 * l.length ≤ 9 * 512 := Nat.mul_le_mul_left 9 hl
  omega
/-- Conflicts and an error. -/
def ResC (e : Int) (K : List Ck) : Value → HMap → Go.Kn.Loc → Prop := fun v I' L => L = [] ∧ ∃ cs av c, v = .tuple #[.slice av cs.length c, .int .i64 e] ∧ SlC I' av cs.length c cs ∧ cs.map Cf.key = K
theorem ResC.empty {e : Int} {K : List Ck} {I : HMap} (h : K = []) : ResC e K (.tuple #[.slice none 0 0, .int .i64 e]) I [] := by
  subst h
  exact ⟨rfl, [], none, 0, rfl, ⟨.nil, fun z hz => by cases hz⟩, rfl⟩
end Go.Proofs.YtccomeanpppfmaaGreat
end
section
namespace Go.Proofs.YtccomeanpppfmaaGreat
open Go Go.Kn Go.Proofs
theorem key_45 : KeyOK (α := Sg) Tryz.prog 45 encGA := key_flat2 (enc := encG) eqt2_45 (fun _ => rfl) (fun a b => (show eqKs _ (encG a) (encG b) = some (sgEq a b) from rfl).trans (congrArg some (by rw [Bool.eq_iff_iff, decide_eq_true_eq]; exact sgEq_iff))) (fun a => by simp [encG, Instr.sameBits])
theorem w_Conflicts {I : HMap} {av : Option Addr} {n c : Nat} {ps : List Pt} (hP : SlP I av n c ps) (hn : n ≤ 100000) {bv : Option Addr} {n2 c2 : Nat} {bs : List Sg} (hB : Sl I 14 encG bv n2 c2 bs) (hn2 : n2 ≤ 100000) {dv : Option Addr} {n3 c3 : Nat} {ws : List Int} (hV : Sl I 1 encI dv n3 c3 ws) (hn3 : n3 ≤ 100000) : RetM Tryz.prog 17 [.slice av n c, .slice bv n2 c2, .slice dv n3 c3] I [] (ResC (sgnE ps bs ws) (cflF ps bs ws)) := by
 intro g H w hw
 refine enterMs Tryz.func17 rfl Tryz.ntmps17 rfl hw ?_
 have hIc := HLe.refl I
 refine X_seq (X_region ?_)
 refine XO_v0 (ev_assign rfl) rfl rfl rfl ?_
 refine XO_v0 (ev_assign rfl) rfl rfl rfl ?_
 refine XO_nil (at_then ?_)
 refine X_seq (X_region ?_)
 refine XO_v0 (ev_move rfl) rfl rfl rfl ?_
 refine XO_v0 (ev_move rfl) rfl rfl rfl ?_
 refine XO_v0 (ev_move rfl) rfl rfl rfl ?_
 refine XO_callM (cap := []) (vs := [_, _, _]) rfl rfl fun_43 .nil (w_read hP hn hB hn2 hV hn3) rfl rfl ?_
 rintro vv1 I1 L1 hI1 ⟨rfl, m1, m2, m3, a9, n9, c9, rfl, hst⟩
 have hIc := hIc.trans hI1
 refine XO_v0 (ev_move rfl) rfl rfl rfl ?_
 refine XO_v0 (ev_extract rfl rfl) rfl rfl rfl ?_
 refine XO_v0 (ev_extract rfl rfl) rfl rfl rfl ?_
 refine XO_alloc zt_85 rfl rfl (fun b_8 => ?_)
 refine XO_storeA rfl rfl szt_85 rfl rfl rfl rfl (by repeat (first | exact Upd.here | apply Upd.there | apply upd_app)) ?_
 refine XO_v0 (ev_assign rfl) rfl rfl rfl ?_
 refine XO_nil (at_then ?_)
 refine X_seq ?_
 refine X_seq (X_region ?_)
 refine XO_v0 (ev_move rfl) rfl rfl rfl ?_
 refine XO_v0 (ev_cmp rfl rfl rfl) rfl rfl rfl ?_
 refine XO_nil (at_then ?_)
 refine X_cond rfl (fun hc24 => ?_) (fun hc24 => ?_)
 ·
  have he : patE ps bs ws ≠ 0 := by simpa using hc24
  refine X_seq (X_region ?_)
  refine XO_v0 (ev_move rfl) rfl rfl rfl ?_
  refine XO_v0 (ev_assign rfl) rfl rfl rfl ?_
  refine XO_v0 (ev_assign rfl) rfl rfl rfl ?_
  refine XO_nil (at_then ?_)
  refine X_ret ?_
  refine at_then_r ?_
  first
  | exact at_retMs (L := [_]) (fun a ha w hw => res2 rfl rfl rfl a ha w) (fun w hw => ⟨_, I1, [], rfl, hIc, hw.drop, by unfold cflF; rw [sgn_bad he]; exact ResC.empty (resF_bad he)⟩)
 ·
  have he : patE ps bs ws = 0 := by simpa using hc24
  obtain ⟨r1, r2, r3, rfl, rfl, rfl, hx⟩ := hst he
  have hn9 : n9 ≤ 5000 := by have h1 := hx.sg.len; have h2 := allG_len bs (verL ps ws); have h3 := hx.fewl; have h4 := (chkG_ok (pat_g he)).1; omega
  have hok := pat_ok he
  have hL := verL_lst (chkR_lst (pat_chk he)) (pat_v he)
  refine X_skip ?_
  refine at_then ?_
  refine X_seq ?_
  refine X_seq (X_region ?_)
  refine XO_v0 (ev_loadA rfl agt_85 (fun hg => by first | exact Sl.getA hS hxx | (repeat (first | exact Cells.here | exact Cells.s0 (vs := [_, _, _, _]) rfl | apply Cells.there | apply Cells.app))) rfl) rfl rfl rfl ?_
  refine XO_callM (cap := []) (vs := [_]) rfl rfl fun_44 .nil (w_current hx (by omega) (pat_ok he)) rfl rfl ?_
  rintro vv2 I2 L2 hI2 ⟨rfl, av8, c8, rfl, hR⟩
  have hx := hx.mono hI2
  have hIc := hIc.trans hI2
  refine XO_v0 (ev_move rfl) rfl rfl rfl ?_
  refine XO_v0 (ev_extract rfl rfl) rfl rfl rfl ?_
  refine XO_v0 (ev_extract rfl rfl) rfl rfl rfl ?_
  refine XO_v0 (ev_assign rfl) rfl rfl rfl ?_
  refine XO_nil (at_then ?_)
  refine X_seq (X_region ?_)
  refine XO_v0 (ev_move rfl) rfl rfl rfl ?_
  refine XO_v0 (ev_cmp rfl rfl rfl) rfl rfl rfl ?_
  refine XO_nil (at_then ?_)
  refine X_cond rfl (fun hc32 => ?_) (fun hc32 => ?_)
  ·
   have hx2 : exE (onF ps) (verL ps ws) (allG bs (verL ps ws)) ≠ 0 := by simpa using hc32
   refine X_seq (X_region ?_)
   refine XO_v0 (ev_move rfl) rfl rfl rfl ?_
   refine XO_v0 (ev_assign rfl) rfl rfl rfl ?_
   refine XO_v0 (ev_assign rfl) rfl rfl rfl ?_
   refine XO_nil (at_then ?_)
   refine X_ret ?_
   refine at_then_r ?_
   first
   | exact at_retMs (L := [_]) (fun a ha w hw => res2 rfl rfl rfl a ha w) (fun w hw => ⟨_, I2, [], rfl, hIc, hw.drop, by unfold cflF; rw [sgn_ok he]; exact ResC.empty (resF_bad hx2)⟩)
  ·
   have hx2 : exE (onF ps) (verL ps ws) (allG bs (verL ps ws)) = 0 := by simpa using hc32
   refine X_skip ?_
   refine at_then ?_
   refine X_seq ?_
   refine X_seq ?_
   refine X_dropTo ((b_8, .cells #[.map (some r1), .map (some r2), .map (some r3), .slice a9 n9 c9] 85 (0, 0)) :: ([] ++ MB _)) .refl ?_
   refine X_region ?_
   refine XO_v0 (ev_fieldAddr rfl fld_85_3) rfl rfl rfl ?_
   refine XO_v0 (ev_load rfl sct_33 (fun hg => by repeat (first | exact Cell.here rfl | apply Cell.there | apply Cell.app))) rfl rfl rfl ?_
   refine XO_v0 (ev_lenS rfl slt_33) rfl rfl rfl ?_
   refine XO_v0 (ev_move rfl) rfl rfl rfl ?_
   refine XO_nil (at_then ?_)
   refine X_block ?_
   refine X_loopM [(8, _), (35, _), (36, _)] (.cons rfl (.cons rfl (.cons rfl .nil))) (fun T L0 mz ms E I' loc' => ∃ (j : Nat) (v : Value) (q : Nat) (cs : List Cf) (L : Go.Kn.Loc), mz = n9 - j ∧ E = (6, v) :: (37, .int .i64 j) :: T ∧ HLe I2 I' ∧ (b_8, .cells #[.map (some r1), .map (some r2), .map (some r3), .slice a9 n9 c9] 85 (0, 0)) :: (L ++ MB ms) = loc' ∧ j ≤ n9 ∧ OwnS 60 3 v q (cs.flatMap encC) L ∧ q ≤ j * 10 ∧ CsQ I' cs (((allG bs (verL ps ws)).take j).flatMap (fun x => cfS (onF ps) (verL ps ws) x.id))) _ _ _ _ ⟨0, _, 0, [], [], rfl, rfl, HLe.refl _, rfl, Nat.zero_le _, OwnS.nil, Nat.zero_le _, CsQ.nil⟩ (.cons rfl (.cons rfl (.cons rfl (.cons rfl (.cons rfl .nil))))) (HLe.refl _) rfl ?_
   rintro mz ms E J3 loc' ⟨j, v, q, cs, L, rfl, rfl, hJ, rfl, hj, hO, hq, hcs⟩
   have hx := hx.mono hJ
   have hIc := hIc.trans hJ
   have hB0 := hJ
   refine X_seq (X_region ?_)
   refine XO_v0 (ev_cmp rfl rfl rfl) rfl rfl rfl ?_
   refine XO_nil (at_then ?_)
   refine X_seq ?_
   refine X_cond rfl (fun hc38 => ?_) (fun hc38 => ?_)
   ·
    have hlt_j : j < n9 := by have h := hc38; simp at h; omega
    have hS := hx.sg
    obtain ⟨x, hxx⟩ := hS.at hlt_j
    refine X_skip ?_
    refine at_then ?_
    refine X_seq ?_
    refine X_block ?_
    refine X_seq (X_region ?_)
    refine XO_v0 (ev_indexSl rfl rfl slt_33 (by assumption) (fun hg => by first | omega | (simp [conj] at hg; omega))) rfl rfl rfl ?_
    refine XO_v0 (ev_loadA rfl agt_45 (fun hg => by first | exact Sl.getA hS hxx | (repeat (first | exact Cells.here | exact Cells.s0 (vs := [_, _, _, _, _, _, _, _, _, _, _, _, _, _]) rfl | apply Cells.there | apply Cells.app))) rfl) rfl rfl rfl ?_
    refine XO_alloc zt_45 rfl rfl (fun b_10 => ?_)
    refine XO_storeA rfl rfl szt_45 rfl rfl rfl rfl (by repeat (first | exact Upd.here | apply Upd.there | apply upd_app)) ?_
    refine XO_nil (at_then ?_)
    refine X_cutM [(8, _), (10, _), (35, _), (36, _), (37, _)] (.cons rfl (.cons rfl (.cons rfl (.cons rfl (.cons rfl .nil))))) (fun T L0 ms E I' loc' => ∃ (v : Value) (q : Nat) (cs : List Cf) (L : Go.Kn.Loc), E = (6, v) :: T ∧ HLe J3 I' ∧ (b_10, .cells (encG x).toArray 45 (0, 0)) :: (b_8, .cells #[.map (some r1), .map (some r2), .map (some r3), .slice a9 n9 c9] 85 (0, 0)) :: (L ++ MB ms) = loc' ∧ OwnS 60 3 v q (cs.flatMap encC) L ∧ q ≤ j * 10 + 1 ∧ CsQ I' cs (((allG bs (verL ps ws)).take j).flatMap (fun x => cfS (onF ps) (verL ps ws) x.id) ++ cf0 (onF ps) (verL ps ws) x.id)) ?_ ?_
    ·
     have hKc10 := HLe.refl J3
     refine X_seq (X_region ?_)
     refine XO_v0 (ev_loadA rfl agt_85 (fun hg => by first | exact Sl.getA hS hxx | (repeat (first | exact Cells.here | exact Cells.s0 (vs := [_, _, _, _]) rfl | apply Cells.there | apply Cells.app))) rfl) rfl rfl rfl ?_
     refine XO_v0 (ev_fieldAddr rfl fld_45_0) rfl rfl rfl ?_
     refine XO_v0 (ev_load rfl sct_3 (fun hg => by repeat (first | exact Cell.here rfl | apply Cell.there | apply Cell.app))) rfl rfl rfl ?_
     refine XO_callM (cap := []) (vs := [_, _]) rfl rfl fun_49 .nil (w_unseen hx x.id) rfl rfl ?_
     rintro vv4 I4 L4 hI4 ⟨rfl, avk, ck, rfl, hk0⟩
     have hx := hx.mono hI4
     have hcs := hcs.mono hI4
     have hIc := hIc.trans hI4
     have hB0 := hB0.trans hI4
     have hKc10 := hKc10.trans hI4
     refine XO_v0 (ev_assign rfl) rfl rfl rfl ?_
     refine XO_nil (at_then ?_)
     refine X_seq (X_region ?_)
     refine XO_v0 (ev_move rfl) rfl rfl rfl ?_
     refine XO_v0 (ev_lenS rfl slt_23) rfl rfl rfl ?_
     refine XO_v0 (ev_cmp rfl rfl rfl) rfl rfl rfl ?_
     refine XO_nil (at_then ?_)
     refine X_cond rfl (fun hc47 => ?_) (fun hc47 => ?_)
     ·
      obtain ⟨mr, hmr, hrem⟩ := hx.rem
      obtain ⟨av3, c3, hv3, hS3⟩ := hrem x.id
      have hkl := un_len (on := onF ps) (s := x.id) hx.fewl
      have hrl := Nat.le_trans (rm_len (l := (verL ps ws)) (s := x.id)) hx.fewl
      have hD := HLe.refl I4
      refine X_noP ?_
      refine X_drawS I4 [(b_10, .cells (encG x).toArray 45 (0, 0)), (b_8, .cells #[.map (some r1), .map (some r2), .map (some r3), .slice a9 n9 c9] 85 (0, 0))] mixed ?_
      refine XD_take 0 rfl (ev_move rfl) (.none rfl) rfl rfl rfl (by kernel_rfl) (by kernel_rfl) (by kernel_rfl) noP_ok hD (by repeat (first | exact .refl | exact subL_nil | refine .keep ?_ | refine .drop ?_ | refine subL_add ?_)) ?_
      refine XD_take 1 rfl (ev_fieldAddr rfl fld_45_0) (.none rfl) rfl rfl rfl (by kernel_rfl) (by kernel_rfl) (by kernel_rfl) noP_ok hD (by repeat (first | exact .refl | exact subL_nil | refine .keep ?_ | refine .drop ?_ | refine subL_add ?_)) ?_
      refine XD_take 2 rfl (ev_load rfl sct_3 (fun hg => by repeat (first | exact Cell.here rfl | apply Cell.there | apply Cell.app))) (.none rfl) rfl rfl rfl (by kernel_rfl) (by kernel_rfl) (by kernel_rfl) noP_ok hD (by repeat (first | exact .refl | exact subL_nil | refine .keep ?_ | refine .drop ?_ | refine subL_add ?_)) ?_
      refine XD_take 3 rfl (ev_move rfl) (.none rfl) rfl rfl rfl (by kernel_rfl) (by kernel_rfl) (by kernel_rfl) noP_ok hD (by repeat (first | exact .refl | exact subL_nil | refine .keep ?_ | refine .drop ?_ | refine subL_add ?_)) ?_
      refine XD_take 4 rfl (ev_fieldAddr rfl fld_85_2) (.none rfl) rfl rfl rfl (by kernel_rfl) (by kernel_rfl) (by kernel_rfl) noP_ok hD (by repeat (first | exact .refl | exact subL_nil | refine .keep ?_ | refine .drop ?_ | refine subL_add ?_)) ?_
      refine XD_take 5 rfl (ev_load rfl sct_77 (fun hg => by repeat (first | exact Cell.here rfl | apply Cell.there | apply Cell.app))) (.none rfl) rfl rfl rfl (by kernel_rfl) (by kernel_rfl) (by kernel_rfl) noP_ok hD (by repeat (first | exact .refl | exact subL_nil | refine .keep ?_ | refine .drop ?_ | refine subL_add ?_)) ?_
      refine XD_take 6 rfl (ev_fieldAddr rfl fld_45_0) (.none rfl) rfl rfl rfl (by kernel_rfl) (by kernel_rfl) (by kernel_rfl) noP_ok hD (by repeat (first | exact .refl | exact subL_nil | refine .keep ?_ | refine .drop ?_ | refine subL_add ?_)) ?_
      refine XD_take 7 rfl (ev_load rfl sct_3 (fun hg => by repeat (first | exact Cell.here rfl | apply Cell.there | apply Cell.app))) (.none rfl) rfl rfl rfl (by kernel_rfl) (by kernel_rfl) (by kernel_rfl) noP_ok hD (by repeat (first | exact .refl | exact subL_nil | refine .keep ?_ | refine .drop ?_ | refine subL_add ?_)) ?_
      refine XD_take 8 rfl (ev_lookupTE (m := mr) (ek := Value.int .i64) (a := x.id) hv3 mpt_77 key_3 rfl rfl (fun _ => .inl hmr)) (.none rfl) rfl rfl rfl (by kernel_rfl) (by kernel_rfl) (by kernel_rfl) noP_ok hD (by repeat (first | exact .refl | exact subL_nil | refine .keep ?_ | refine .drop ?_ | refine subL_add ?_)) ?_
      refine XD_one 9 rfl (by kernel_rfl) ?_
      refine XO_callM (cap := []) (vs := [_, _]) rfl rfl fun_33 .nil (w_union hk0 (by omega) hS3 (by omega)) rfl rfl ?_
      rintro vv5 I5 L5 hI5 ⟨rfl, avu, cu, rfl, hU⟩
      have hx := hx.mono hI5
      have hcs := hcs.mono hI5
      have hk0 := hk0.mono hI5
      have hIc := hIc.trans hI5
      have hB0 := hB0.trans hI5
      have hKc10 := hKc10.trans hI5
      have hD := hD.trans hI5
      refine XO_nil ?_
      refine at_D hD (by repeat (first | exact .refl | exact subL_nil | refine .keep ?_ | refine .drop ?_ | refine subL_add ?_)) ?_
      refine XD_take 10 rfl (ev_buildL (ps := [(0, _), (2, _)]) [_, _, _] plt_60 rfl rfl) (.none rfl) rfl rfl rfl (by kernel_rfl) (by kernel_rfl) (by kernel_rfl) noP_ok hD (by repeat (first | exact .refl | exact subL_nil | refine .keep ?_ | refine .drop ?_ | refine subL_add ?_)) ?_
      refine XD_one 11 rfl (by kernel_rfl) ?_
      refine XO_buildSlice (ps := [(0, _)]) (m := [encC (⟨x.id, 0, avu, (Lib.compact (sortI (unK (onF ps) (verL ps ws) x.id 9 ++ rmF (verL ps ws) x.id))).length, cu, (Lib.compact (sortI (unK (onF ps) (verL ps ws) x.id 9 ++ rmF (verL ps ws) x.id)))⟩ : Cf)]) elt_36 rfl (.cons rfl (.nil)) rfl (by simp [encC_len, encI_len]) (by decide) (by decide) rfl rfl (fun b_59 => ?_)
      refine XO_nil ?_
      refine at_D hD (by repeat (first | exact .refl | exact subL_nil | refine .keep ?_ | refine .drop ?_ | refine subL_add ?_)) ?_
      refine XD_one 12 rfl (by kernel_rfl) ?_
      refine XO_append (v := _) (ys := [(⟨x.id, 0, avu, (Lib.compact (sortI (unK (onF ps) (verL ps ws) x.id 9 ++ rmF (verL ps ws) x.id))).length, cu, (Lib.compact (sortI (unK (onF ps) (verL ps ws) x.id 9 ++ rmF (verL ps ws) x.id)))⟩ : Cf)].flatMap encC) (L := L) rfl rfl elt_36 hO (by repeat (first | exact .cons .here .nil | exact split_all | exact split_app | apply split_cons | apply split_skip)) ⟨rfl, fun _ => rfl, Cells.here⟩ (one_C [(⟨x.id, 0, avu, (Lib.compact (sortI (unK (onF ps) (verL ps ws) x.id 9 ++ rmF (verL ps ws) x.id))).length, cu, (Lib.compact (sortI (unK (onF ps) (verL ps ws) x.id 9 ++ rmF (verL ps ws) x.id)))⟩ : Cf)]) (by omega) rfl rfl ?_
      intro v9 L9 hO9 _; rw [← List.flatMap_append] at hO9
      refine XO_nil ?_
      refine at_D hD (by repeat (first | exact .refl | exact subL_nil | refine .keep ?_ | refine .drop ?_ | refine subL_add ?_)) ?_
      refine XD_take 13 rfl (ev_assign rfl) (.none rfl) rfl rfl rfl (by kernel_rfl) (by kernel_rfl) (by kernel_rfl) noP_ok hD (by repeat (first | exact .refl | exact subL_nil | refine .keep ?_ | refine .drop ?_ | refine subL_add ?_)) ?_
      refine XD_done (by kernel_rfl) ?_
      refine at_noP ?_
      first
      | exact at_metMP rfl rfl rfl _ _ (L9 ++ ((b_10, _) :: (b_8, _) :: MB _)) ⟨v9, _, _, L9, rfl, hKc10, rfl, hO9, by omega, (hcs.snoc (z := (⟨x.id, 0, avu, (Lib.compact (sortI (unK (onF ps) (verL ps ws) x.id 9 ++ rmF (verL ps ws) x.id))).length, cu, (Lib.compact (sortI (unK (onF ps) (verL ps ws) x.id 9 ++ rmF (verL ps ws) x.id)))⟩ : Cf)) hU).congr (by rw [cf0_yes hL hok hc47]; rfl)⟩ (.cons rfl (.cons rfl (.cons rfl (.cons rfl (.cons rfl (.cons rfl .nil)))))) perm_two (by repeat (first | exact .refl | exact subL_left | refine subL_app ?_ | refine .drop ?_ | refine subL_add ?_))
     ·
      refine X_skip ?_
      exact at_metM rfl rfl rfl _ _ ⟨_, _, _, _, rfl, hKc10, rfl, hO, by omega, hcs.congr (by rw [cf0_no hok hc47, List.append_nil])⟩ (.cons rfl (.cons rfl (.cons rfl (.cons rfl (.cons rfl (.cons rfl .nil)))))) (by repeat (first | exact .refl | exact subL_left | refine subL_app ?_ | refine .drop ?_ | refine subL_add ?_))
    ·
     rintro ms E J6 loc' ⟨v, q, cs, L, rfl, hJc, rfl, hO, hq, hcs1⟩
     have hx := hx.mono hJc
     have hcs := hcs.mono hJc
     have hIc := hIc.trans hJc
     have hB0 := hB0.trans hJc
     refine X_seq (X_region ?_)
     refine XO_v0 (ev_assign rfl) rfl rfl rfl ?_
     refine XO_nil (at_then ?_)
     refine X_block ?_
     refine X_loopM [(8, _), (10, _), (35, _), (36, _), (37, _)] (.cons rfl (.cons rfl (.cons rfl (.cons rfl (.cons rfl .nil))))) (fun T L0 mz ms E I' loc' => ∃ (k : Nat) (v : Value) (q : Nat) (cs : List Cf) (L : Go.Kn.Loc), mz = 9 - k ∧ E = (6, v) :: (12, .int .i64 ((k : Int) + 1)) :: T ∧ HLe J6 I' ∧ (b_10, .cells (encG x).toArray 45 (0, 0)) :: (b_8, .cells #[.map (some r1), .map (some r2), .map (some r3), .slice a9 n9 c9] 85 (0, 0)) :: (L ++ MB ms) = loc' ∧ k ≤ 9 ∧ OwnS 60 3 v q (cs.flatMap encC) L ∧ q ≤ j * 10 + 1 + k ∧ CsQ I' cs ((((allG bs (verL ps ws)).take j).flatMap (fun x => cfS (onF ps) (verL ps ws) x.id) ++ cf0 (onF ps) (verL ps ws) x.id) ++ cfR (onF ps) (verL ps ws) x.id k)) _ _ _ _ ⟨0, v, q, cs, L, rfl, rfl, HLe.refl _, rfl, Nat.zero_le _, hO, hq, hcs1.congr (by rw [show cfR (onF ps) (verL ps ws) x.id 0 = [] from rfl, List.append_nil])⟩ (.cons rfl (.cons rfl (.cons rfl (.cons rfl (.cons rfl (.cons rfl (.cons rfl .nil))))))) (HLe.refl _) rfl ?_
     rintro mz ms E J7 loc' ⟨k, v, q, cs, L, rfl, rfl, hJ, rfl, hk, hO, hq, hcs2⟩
     have hx := hx.mono hJ
     have hcs := hcs.mono hJ
     have hcs1 := hcs1.mono hJ
     have hIc := hIc.trans hJ
     have hB0 := hB0.trans hJ
     have hB2 := hJ
     refine X_seq ?_
     refine X_seq (X_region ?_)
     refine XO_v0 (ev_move rfl) rfl rfl rfl ?_
     refine XO_v0 (ev_cmp rfl rfl rfl) rfl rfl rfl ?_
     refine XO_v0 (ev_move rfl) rfl rfl rfl ?_
     refine XO_pushT 2 rfl rfl rfl ?_
     refine XO_v1 (ev_loadA rfl agt_85 (fun hg => by first | exact Sl.getA hS hxx | (repeat (first | exact Cells.here | exact Cells.s0 (vs := [_, _, _, _]) rfl | apply Cells.there | apply Cells.app))) rfl) (.some rfl rfl rfl rfl gbt) rfl rfl rfl ?_
     refine XO_v1 (ev_fieldAddr rfl fld_45_0) (.some rfl rfl rfl rfl gbt) rfl rfl rfl ?_
     refine XO_v1 (ev_load rfl sct_3 (fun hg => by repeat (first | exact Cell.here rfl | apply Cell.there | apply Cell.app))) (.some rfl rfl rfl rfl gbt) rfl rfl rfl ?_
     refine XO_callV1 (cap := []) (vs := [_, _]) rfl rfl fun_50 (fun hg => w_exists hx hok _) (.some rfl rfl rfl rfl gbt) rfl rfl ?_
     refine XO_and0 rfl rfl rfl rfl rfl ?_
     refine XO_nil (at_then ?_)
     refine X_cond rfl (fun hc68 => ?_) (fun hc68 => ?_)
     ·
      have hex := ((Bool.and_eq_true _ _).mp hc68).2
      have hlt_k : k < 9 := by have h := ((Bool.and_eq_true _ _).mp hc68).1; simp at h; omega
      refine X_skip ?_
      refine at_then ?_
      refine X_seq ?_
      refine X_block ?_
      refine X_seq (X_region ?_)
      refine XO_makeMap rfl rfl (fun r_71 => ?_)
      refine XO_alloc zt_94 rfl rfl (fun b_13 => ?_)
      refine XO_alloc zt_23 rfl rfl (fun b_14 => ?_)
      refine XO_store rfl rfl szt_94 rfl rfl (by repeat (first | exact Upd.here | apply Upd.there | apply upd_app)) rfl ?_
      refine XO_store rfl rfl szt_23 rfl rfl (by repeat (first | exact Upd.here | apply Upd.there | apply upd_app)) rfl ?_
      refine XO_nil (at_then ?_)
      refine X_seq ?_
      refine X_seq (X_region ?_)
      refine XO_v0 (ev_loadA rfl agt_85 (fun hg => by first | exact Sl.getA hS hxx | (repeat (first | exact Cells.here | exact Cells.s0 (vs := [_, _, _, _]) rfl | apply Cells.there | apply Cells.app))) rfl) rfl rfl rfl ?_
      refine XO_v0 (ev_fieldAddr rfl fld_45_0) rfl rfl rfl ?_
      refine XO_v0 (ev_load rfl sct_3 (fun hg => by repeat (first | exact Cell.here rfl | apply Cell.there | apply Cell.app))) rfl rfl rfl ?_
      refine XO_v0 (ev_move rfl) rfl rfl rfl ?_
      refine XO_callM (cap := []) (vs := [_, _, _]) rfl rfl fun_51 .nil (w_latest _ _ _ _ _ _ _ _ _) rfl rfl ?_
      rintro vv8 I8 L8 hI8 ⟨rfl, c1, c2, c3, rfl, hcap⟩
      have hx := hx.mono hI8
      have hcs := hcs.mono hI8
      have hcs1 := hcs1.mono hI8
      have hcs2 := hcs2.mono hI8
      have hIc := hIc.trans hI8
      have hB0 := hB0.trans hI8
      have hB2 := hB2.trans hI8
      refine XO_nil (at_then ?_)
      refine X_block ?_
      refine X_rangeFuncM (K := []) (L := [] ++ ((b_14, .cells #[.slice none 0 0] 23 (0, 0)) :: (b_13, .cells #[.map (some r_71)] 94 (0, 0)) :: (r_71, mapO encGA Value.bool []) :: (b_10, .cells (encG x).toArray 45 (0, 0)) :: (b_8, .cells #[.map (some r1), .map (some r2), .map (some r3), .slice a9 n9 c9] 85 (0, 0)) :: L)) (enc := encPA) (xs := (latF (onF ps) (verL ps ws) x.id ((k : Int) + 1))) (fun pre I' loc' => ∃ (m9 : List (Sg × Bool)) (v9 : Value) (q9 : Nat) (L9 : Go.Kn.Loc), MvQ m9 pre ∧ OwnS 3 1 v9 q9 ((pre.map (·.id)).flatMap encI) L9 ∧ loc' = L9 ++ ((b_14, .cells #[v9] 23 (0, 0)) :: (b_13, .cells #[.map (some r_71)] 94 (0, 0)) :: (r_71, mapO encGA Value.bool m9) :: (b_10, .cells (encG x).toArray 45 (0, 0)) :: (b_8, .cells #[.map (some r1), .map (some r2), .map (some r3), .slice a9 n9 c9] 85 (0, 0)) :: L)) (fun _ _ _ _ => False) (fun pre p E2 I2 loc2 => ∃ (b15 : Nat) (m9 : List (Sg × Bool)) (v9 : Value) (q9 : Nat) (L9 : Go.Kn.Loc), E2 = [(13, capP b_13), (14, capP b_14), (15, capP b15)] ∧ MvQ m9 pre ∧ OwnS 3 1 v9 q9 ((pre.map (·.id)).flatMap encI) L9 ∧ loc2 = (b15, .cells (encP p).toArray 53 (0, 0)) :: (L9 ++ ((b_14, .cells #[v9] 23 (0, 0)) :: (b_13, .cells #[.map (some r_71)] 94 (0, 0)) :: (r_71, mapO encGA Value.bool m9) :: (b_10, .cells (encG x).toArray 45 (0, 0)) :: (b_8, .cells #[.map (some r1), .map (some r2), .map (some r3), .slice a9 n9 c9] 85 (0, 0)) :: L))) rfl fun_88 (w_latit hx hcap) rfl ⟨[], _, 0, [], MvQ.nil, OwnS.nil, rfl⟩ ?_ ?_ ?_ ?_
      ·
       rintro l9 pre p I1 loc1 H1 hpre hI1 ⟨m9, v9, q9, L9, hmv, hO9, rfl⟩
       refine X_region ?_
       refine XO_alloc zt_53 rfl rfl (fun b_15 => ?_)
       refine XO_storeA rfl rfl szt_53 rfl rfl rfl rfl (by repeat (first | exact Upd.here | apply Upd.there | apply upd_app)) ?_
       refine XO_nil ?_
       exact at_met' _ ⟨HLe.refl _, b_15, m9, v9, q9, L9, rfl, hmv, hO9, rfl⟩ (.cons rfl (.cons rfl (.cons rfl .nil)))
      ·
       rintro l9 pre p E2 I2 loc2 H2 hpre hI2 ⟨b15, m9, v9, q9, L9, rfl, hmv, hO9, rfl⟩
       have hql := lat_bound hpre hO9 hx.fewl
       refine X_block ?_
       have hD := HLe.refl I2
       refine X_noP ?_
       refine X_drawS I2 [(b15, .cells (encP p).toArray 53 (0, 0)), (b_13, .cells #[.map (some r_71)] 94 (0, 0))] mixed ?_
       refine XD_take 0 rfl (ev_load rfl sct_94 (fun hg => by repeat (first | exact Cell.here rfl | apply Cell.there | apply Cell.app))) (.none rfl) rfl rfl rfl (by kernel_rfl) (by kernel_rfl) (by kernel_rfl) noP_ok hD (by repeat (first | exact .refl | exact subL_nil | refine .keep ?_ | refine .drop ?_ | refine subL_add ?_)) ?_
       refine XD_take 1 rfl (ev_fieldAddr rfl fld_53_4) (.none rfl) rfl rfl rfl (by kernel_rfl) (by kernel_rfl) (by kernel_rfl) noP_ok hD (by repeat (first | exact .refl | exact subL_nil | refine .keep ?_ | refine .drop ?_ | refine subL_add ?_)) ?_
       refine XD_take 2 rfl (ev_loadA rfl agt_45 (fun hg => by first | exact Sl.getA hS hxx | (repeat (first | exact Cells.here | exact Cells.s0 (vs := [_, _, _, _, _, _, _, _, _, _, _, _, _, _]) rfl | apply Cells.there | apply Cells.app))) rfl) (.none rfl) rfl rfl rfl (by kernel_rfl) (by kernel_rfl) (by kernel_rfl) noP_ok hD (by repeat (first | exact .refl | exact subL_nil | refine .keep ?_ | refine .drop ?_ | refine subL_add ?_)) ?_
       refine XD_take 4 rfl (ev_fieldAddr rfl fld_53_0) (.none rfl) rfl rfl rfl (by kernel_rfl) (by kernel_rfl) (by kernel_rfl) noP_ok hD (by repeat (first | exact .refl | exact subL_nil | refine .keep ?_ | refine .drop ?_ | refine subL_add ?_)) ?_
       refine XD_take 5 rfl (ev_load rfl sct_3 (fun hg => by repeat (first | exact Cell.here rfl | apply Cell.there | apply Cell.app))) (.none rfl) rfl rfl rfl (by kernel_rfl) (by kernel_rfl) (by kernel_rfl) noP_ok hD (by repeat (first | exact .refl | exact subL_nil | refine .keep ?_ | refine .drop ?_ | refine subL_add ?_)) ?_
       refine XD_two 3 6 rfl rfl (by kernel_rfl) ?_ ?_
       ·
        refine XO_v0 (ev_load rfl sct_23 (fun hg => by repeat (first | exact Cell.here rfl | apply Cell.there | apply Cell.app))) rfl rfl rfl ?_
        refine XO_nil ?_
        refine at_D hD (by repeat (first | exact .refl | exact subL_nil | refine .keep ?_ | refine .drop ?_ | refine subL_add ?_)) ?_
        refine XD_one 6 rfl (by kernel_rfl) ?_
        refine XO_buildSlice (ps := [(0, _)]) (m := [encI p.id]) elt_23 rfl (.cons rfl (.nil)) rfl (by simp [encC_len, encI_len]) (by decide) (by decide) rfl rfl (fun b_84 => ?_)
        refine XO_nil ?_
        refine at_D hD (by repeat (first | exact .refl | exact subL_nil | refine .keep ?_ | refine .drop ?_ | refine subL_add ?_)) ?_
        refine XD_one 7 rfl (by kernel_rfl) ?_
        refine XO_append (v := _) (ys := [p.id].flatMap encI) (L := L9) rfl rfl elt_23 hO9 (by repeat (first | exact .cons .here .nil | exact split_all | exact split_app | apply split_cons | apply split_skip)) ⟨rfl, fun _ => rfl, Cells.here⟩ (one_I [p.id]) (by omega) rfl rfl ?_
        intro v8 L8 hO8 _; obtain ⟨va8, vc8, rfl⟩ := valn hO8
        refine XO_nil ?_
        refine at_D hD (by repeat (first | exact .refl | exact subL_nil | refine .keep ?_ | refine .drop ?_ | refine subL_add ?_)) ?_
        refine XD_one 8 rfl (by kernel_rfl) ?_
        refine XO_mapUpdate (m := m9) (ek := encGA) (ev := Value.bool) (a := p.nw)  true mpt_94 key_45 rfl rfl rfl rfl (by repeat (first | exact Upd.here | apply Upd.there | apply upd_app)) ?_
        refine XO_nil ?_
        refine at_D hD (by repeat (first | exact .refl | exact subL_nil | refine .keep ?_ | refine .drop ?_ | refine subL_add ?_)) ?_
        refine XD_one 9 rfl (by kernel_rfl) ?_
        refine XO_store rfl rfl szt_23 rfl rfl (by repeat (first | exact Upd.here | apply Upd.there | apply upd_app)) rfl ?_
        refine XO_nil ?_
        refine at_D hD (by repeat (first | exact .refl | exact subL_nil | refine .keep ?_ | refine .drop ?_ | refine subL_add ?_)) ?_
        refine XD_done (by kernel_rfl) ?_
        refine at_noP ?_
        refine at_block_n ?_
        exact at_round2 ⟨HLe.refl _, mset m9 p.nw true, _, _, L8, hmv.put p, by rw [List.map_append, List.flatMap_append]; exact hO8, rfl⟩ (by repeat (first | exact .refl | refine subL_app ?_ | refine .drop ?_))
       ·
        refine XO_buildSlice (ps := [(0, _)]) (m := [encI p.id]) elt_23 rfl (.cons rfl (.nil)) rfl (by simp [encC_len, encI_len]) (by decide) (by decide) rfl rfl (fun b_84 => ?_)
        refine XO_nil ?_
        refine at_D hD (by repeat (first | exact .refl | exact subL_nil | refine .keep ?_ | refine .drop ?_ | refine subL_add ?_)) ?_
        refine XD_one 3 rfl (by kernel_rfl) ?_
        refine XO_v0 (ev_load rfl sct_23 (fun hg => by repeat (first | exact Cell.here rfl | apply Cell.there | apply Cell.app))) rfl rfl rfl ?_
        refine XO_nil ?_
        refine at_D hD (by repeat (first | exact .refl | exact subL_nil | refine .keep ?_ | refine .drop ?_ | refine subL_add ?_)) ?_
        refine XD_one 7 rfl (by kernel_rfl) ?_
        refine XO_append (v := _) (ys := [p.id].flatMap encI) (L := L9) rfl rfl elt_23 hO9 (by repeat (first | exact .cons .here .nil | exact split_all | exact split_app | apply split_cons | apply split_skip)) ⟨rfl, fun _ => rfl, Cells.here⟩ (one_I [p.id]) (by omega) rfl rfl ?_
        intro v8 L8 hO8 _; obtain ⟨va8, vc8, rfl⟩ := valn hO8
        refine XO_nil ?_
        refine at_D hD (by repeat (first | exact .refl | exact subL_nil | refine .keep ?_ | refine .drop ?_ | refine subL_add ?_)) ?_
        refine XD_one 8 rfl (by kernel_rfl) ?_
        refine XO_mapUpdate (m := m9) (ek := encGA) (ev := Value.bool) (a := p.nw)  true mpt_94 key_45 rfl rfl rfl rfl (by repeat (first | exact Upd.here | apply Upd.there | apply upd_app)) ?_
        refine XO_nil ?_
        refine at_D hD (by repeat (first | exact .refl | exact subL_nil | refine .keep ?_ | refine .drop ?_ | refine subL_add ?_)) ?_
        refine XD_one 9 rfl (by kernel_rfl) ?_
        refine XO_store rfl rfl szt_23 rfl rfl (by repeat (first | exact Upd.here | apply Upd.there | apply upd_app)) rfl ?_
        refine XO_nil ?_
        refine at_D hD (by repeat (first | exact .refl | exact subL_nil | refine .keep ?_ | refine .drop ?_ | refine subL_add ?_)) ?_
        refine XD_done (by kernel_rfl) ?_
        refine at_noP ?_
        refine at_block_n ?_
        exact at_round2 ⟨HLe.refl _, mset m9 p.nw true, _, _, L8, hmv.put p, by rw [List.map_append, List.flatMap_append]; exact hO8, rfl⟩ (by repeat (first | exact .refl | refine subL_app ?_ | refine .drop ?_))
      ·
       rintro bd I1 loc1 hI1 ⟨m9, v9, q9, L9, hmv, hO9, rfl⟩
       have hx := hx.mono hI1
       have hcs := hcs.mono hI1
       have hcs1 := hcs1.mono hI1
       have hcs2 := hcs2.mono hI1
       have hIc := hIc.trans hI1
       have hB0 := hB0.trans hI1
       have hB2 := hB2.trans hI1
       simp only [List.append_assoc, List.cons_append]
       refine at_block_n ?_
       refine at_then ?_
       refine X_seq (X_region ?_)
       refine XO_v0 (ev_load rfl sct_94 (fun hg => by repeat (first | exact Cell.here rfl | apply Cell.there | apply Cell.app))) rfl rfl rfl ?_
       refine XO_v0 (ev_lenM (m := m9) (ek := encGA) (ev := Value.bool) rfl mpt_94 (fun _ => .inr (by simp))) rfl rfl rfl ?_
       refine XO_v0 (ev_cmp rfl rfl rfl) rfl rfl rfl ?_
       refine XO_nil (at_then ?_)
       refine X_cond rfl (fun hc88 => ?_) (fun hc88 => ?_)
       ·
        have hdf : difB (latF (onF ps) (verL ps ws) x.id ((k : Int) + 1)) = true := by rw [← dif_eq hmv]; exact hc88
        refine X_freezeO hO9 encI_len (by decide) (by repeat (first | exact .cons .here .nil | exact split_all | exact split_app | apply split_cons | apply split_skip)) (fun I9 hI9 afi cfi efi hIds => ?_)
        subst efi
        have hx := hx.mono hI9
        have hcs := hcs.mono hI9
        have hcs1 := hcs1.mono hI9
        have hcs2 := hcs2.mono hI9
        have hIc := hIc.trans hI9
        have hB0 := hB0.trans hI9
        have hB2 := hB2.trans hI9
        refine X_region ?_
        refine XO_v0 (ev_move rfl) rfl rfl rfl ?_
        refine XO_v0 (ev_fieldAddr rfl fld_45_0) rfl rfl rfl ?_
        refine XO_v0 (ev_load rfl sct_3 (fun hg => by repeat (first | exact Cell.here rfl | apply Cell.there | apply Cell.app))) rfl rfl rfl ?_
        refine XO_v0 (ev_move rfl) rfl rfl rfl ?_
        refine XO_v0 (ev_load rfl sct_23 (fun hg => by repeat (first | exact Cell.here rfl | apply Cell.there | apply Cell.app))) rfl rfl rfl ?_
        refine XO_v0 (ev_buildL (ps := [(0, _), (1, _), (2, _)]) [_, _, _] plt_60 rfl rfl) rfl rfl rfl ?_
        refine XO_buildSlice (ps := [(0, _)]) (m := [encC (⟨x.id, (k : Int) + 1, afi, q9, cfi, (latF (onF ps) (verL ps ws) x.id ((k : Int) + 1)).map (·.id)⟩ : Cf)]) elt_36 rfl (.cons rfl (.nil)) rfl (by simp [encC_len, encI_len]) (by decide) (by decide) rfl rfl (fun b_95 => ?_)
        refine XO_append (v := _) (ys := [(⟨x.id, (k : Int) + 1, afi, q9, cfi, (latF (onF ps) (verL ps ws) x.id ((k : Int) + 1)).map (·.id)⟩ : Cf)].flatMap encC) (L := L) rfl rfl elt_36 hO (by repeat (first | exact .cons .here .nil | exact split_all | exact split_app | apply split_cons | apply split_skip)) ⟨rfl, fun _ => rfl, Cells.here⟩ (one_C [(⟨x.id, (k : Int) + 1, afi, q9, cfi, (latF (onF ps) (verL ps ws) x.id ((k : Int) + 1)).map (·.id)⟩ : Cf)]) (by omega) rfl rfl ?_
        intro v7 L7 hO7 _; rw [← List.flatMap_append] at hO7
        refine XO_v0 (ev_assign rfl) rfl rfl rfl ?_
        refine XO_nil ?_
        refine at_block_n ?_
        refine at_then ?_
        refine X_region ?_
        refine XO_v0 (ev_move rfl) rfl rfl rfl ?_
        refine XO_v0 (ev_arB rfl rfl rfl (fun _ => by omega)) rfl rfl rfl ?_
        refine XO_v0 (ev_assign rfl) rfl rfl rfl ?_
        refine XO_nil ?_
        first
        | exact at_metMP rfl rfl rfl _ _ (L7 ++ ((b_10, _) :: (b_8, _) :: MB _)) ⟨9 - (k + 1), by omega, k + 1, v7, _, _, L7, rfl, rfl, hB2, rfl, by omega, hO7, by omega, (hcs2.snoc (z := (⟨x.id, (k : Int) + 1, afi, q9, cfi, (latF (onF ps) (verL ps ws) x.id ((k : Int) + 1)).map (·.id)⟩ : Cf)) hIds).congr (by rw [cfR_next, cfK_yes hex hdf]; simp only [List.append_assoc]; rfl)⟩ (.cons rfl (.cons rfl (.cons rfl (.cons rfl (.cons rfl (.cons rfl (.cons rfl .nil))))))) perm_two (by repeat (first | exact .refl | exact subL_left | refine subL_app ?_ | refine .drop ?_ | refine subL_add ?_))
       ·
        have hdf : difB (latF (onF ps) (verL ps ws) x.id ((k : Int) + 1)) = false := by rw [← dif_eq hmv]; exact hc88
        refine X_skip ?_
        refine at_block_n ?_
        refine at_then ?_
        refine X_region ?_
        refine XO_v0 (ev_move rfl) rfl rfl rfl ?_
        refine XO_v0 (ev_arB rfl rfl rfl (fun _ => by omega)) rfl rfl rfl ?_
        refine XO_v0 (ev_assign rfl) rfl rfl rfl ?_
        refine XO_nil ?_
        first
        | exact at_metM rfl rfl rfl _ _ ⟨9 - (k + 1), by omega, k + 1, _, _, _, _, rfl, rfl, hB2, rfl, by omega, hO, by omega, hcs2.congr (by rw [cfR_next, cfK_no hdf]; simp)⟩ (.cons rfl (.cons rfl (.cons rfl (.cons rfl (.cons rfl (.cons rfl (.cons rfl .nil))))))) (by repeat (first | exact .refl | exact subL_left | refine subL_app ?_ | refine .drop ?_ | refine subL_add ?_))
      ·
       rintro cd bd pre I1 loc1 hI1 hpre hF; exact hF.elim
     ·
      have hend := hc68
      refine X_exit ?_
      refine at_then_e ?_
      refine at_then_e ?_
      refine at_block_hit ?_
      refine at_block_n ?_
      refine at_then ?_
      refine X_region ?_
      refine XO_v0 (ev_arB rfl rfl rfl (fun _ => by omega)) rfl rfl rfl ?_
      refine XO_v0 (ev_move rfl) rfl rfl rfl ?_
      refine XO_nil ?_
      exact at_metM rfl rfl rfl _ _ ⟨n9 - (j + 1), by omega, j + 1, _, _, _, _, rfl, rfl, hB0, rfl, by omega, hO, by omega, hcs2.congr (by rw [pre_next hxx, ← cfS_end hk hend]; simp only [List.append_assoc])⟩ (.cons rfl (.cons rfl (.cons rfl (.cons rfl (.cons rfl .nil))))) (by repeat (first | exact .refl | exact subL_left | refine subL_app ?_ | refine .drop ?_ | refine subL_add ?_))
   ·
    have hge_j : n9 ≤ j := by have h := hc38; simp at h; omega
    rw [List.take_of_length_le (by rw [hx.sg.len]; exact hge_j)] at hcs
    refine X_exit ?_
    refine at_then_e ?_
    refine at_then_e ?_
    refine at_block_hit ?_
    refine at_then ?_
    refine X_seq (X_region ?_)
    refine XO_v0 (ev_move rfl) rfl rfl rfl ?_
    refine XO_v0 (ev_assign rfl) rfl rfl rfl ?_
    refine XO_v0 (ev_assign rfl) rfl rfl rfl ?_
    refine XO_nil (at_then ?_)
    refine X_ret ?_
    first
    | exact at_retMs (L := _ :: L) (fun a ha w hw => res2 rfl rfl rfl a ha w) (fun w hw => by obtain ⟨I9, h91, h92, h93⟩ := OwnS.res hO encC_len (by decide) (hw.subL (.drop .refl)); obtain ⟨_, a9, c9, e9, h94⟩ := h93; subst e9; exact ⟨_, I9, [], rfl, hIc.trans h91, h92, rfl, cs, a9, c9, by rw [sgn_ok he, hx2], ⟨h94, fun z hz => (hcs.1 z hz).mono h91⟩, by unfold cflF; rw [sgn_ok he, resF_ok hx2]; exact hcs.2⟩)
end Go.Proofs.YtccomeanpppfmaaGreat
end
section
namespace Go.Proofs.YtccomeanpppfmaaGreat
open Go Go.Kn Go.Proofs
theorem key_next {xs ys : List Cf} {k : Nat} {x y : Cf} (hx : xs[k]? = some x) (hy : ys[k]? = some y) (he : (xs.take k).map Cf.key = (ys.take k).map Cf.key) (h : x.key = y.key) : (xs.take (k + 1)).map Cf.key = (ys.take (k + 1)).map Cf.key := by
 rw [take_snoc hx, take_snoc hy, List.map_append, List.map_append, he]; simp [h]
theorem key_ne {xs ys : List Cf} {k : Nat} {x y : Cf} (hx : xs[k]? = some x) (hy : ys[k]? = some y) (h : x.key ≠ y.key) : sameF (xs.map Cf.key) (ys.map Cf.key) = false := same_ne (k := k) (x := x.key) (y := y.key) (by simp [hx]) (by simp [hy]) h
theorem w_sameI {I : HMap} {av : Option Addr} {n c : Nat} {xs : List Int} (hS : Sl I 1 encI av n c xs) (hn : n ≤ 100000) {bv : Option Addr} {n2 c2 : Nat} {ys : List Int} (hT : Sl I 1 encI bv n2 c2 ys) : RetV Tryz.prog 14 [.slice av n c, .slice bv n2 c2] I (.bool (sameF xs ys)) := by
 intro g H w hw
 refine enter Tryz.func14 rfl Tryz.ntmps14 rfl hw ?_
 refine X_seq (X_region ?_)
 refine XO_v0 (ev_assign rfl) rfl rfl rfl ?_
 refine XO_nil (at_then ?_)
 refine X_seq ?_
 refine X_seq (X_region ?_)
 refine XO_v0 (ev_move rfl) rfl rfl rfl ?_
 refine XO_v0 (ev_lenS rfl slt_23) rfl rfl rfl ?_
 refine XO_v0 (ev_move rfl) rfl rfl rfl ?_
 refine XO_v0 (ev_lenS rfl slt_23) rfl rfl rfl ?_
 refine XO_v0 (ev_cmp rfl rfl rfl) rfl rfl rfl ?_
 refine XO_nil (at_then ?_)
 refine X_cond rfl (fun hc10 => ?_) (fun hc10 => ?_)
 ·
  refine X_seq (X_region ?_)
  refine XO_v0 (ev_assign rfl) rfl rfl rfl ?_
  refine XO_nil (at_then ?_)
  refine X_ret ?_
  refine at_then_r ?_
  first
  | exact at_ret1 rfl rfl (fun w hw => ⟨by rw [same_len hS.len hT.len (by simp at hc10; omega)], hw.drop⟩)
 ·
  have hnn : n = n2 := by simp at hc10; omega
  refine X_skip ?_
  refine at_then ?_
  refine X_seq ?_
  refine X_seq (X_region ?_)
  refine XO_v0 (ev_assign rfl) rfl rfl rfl ?_
  refine XO_nil (at_then ?_)
  refine X_block ?_
  refine X_loopT [(0, _), (1, _)] (.cons rfl (.cons rfl .nil)) (fun T L0 mz E I' loc' => ∃ (k : Nat), mz = n - k ∧ E = (5, .int .i64 k) :: T ∧ I = I' ∧ L0 = loc' ∧ k ≤ n ∧ xs.take k = ys.take k) _ _ _ _ ⟨0, rfl, rfl, rfl, rfl, Nat.zero_le _, rfl⟩ (.cons rfl (.cons rfl (.cons rfl .nil))) (HLe.refl _) rfl ?_
  rintro mz E I' loc' ⟨k, rfl, rfl, rfl, rfl, hk, he⟩
  refine X_seq ?_
  refine X_seq (X_region ?_)
  refine XO_v0 (ev_move rfl) rfl rfl rfl ?_
  refine XO_v0 (ev_move rfl) rfl rfl rfl ?_
  refine XO_v0 (ev_lenS rfl slt_23) rfl rfl rfl ?_
  refine XO_v0 (ev_cmp rfl rfl rfl) rfl rfl rfl ?_
  refine XO_nil (at_then ?_)
  refine X_cond rfl (fun hc14 => ?_) (fun hc14 => ?_)
  ·
   have hlt_k : k < n := by have h := hc14; simp at h; omega
   obtain ⟨x, hx⟩ := hS.at hlt_k
   obtain ⟨y, hy⟩ := hT.at (show k < n2 by omega)
   refine X_skip ?_
   refine at_then ?_
   refine X_seq ?_
   refine X_block ?_
   refine X_seq ?_
   refine X_draw mixed (by kernel_rfl) ?_
   refine XQ_v0 (ev_move rfl) rfl rfl rfl ?_
   refine XQ_v0 (ev_move rfl) rfl rfl rfl ?_
   refine XQ_v0 (ev_indexSl rfl rfl slt_23 (by assumption) (fun hg => by first | omega | (simp [conj] at hg; omega))) rfl rfl rfl ?_
   refine XQ_v0 (ev_load rfl sct_3 (fun hg => by first | exact Sl.get0 hS hx rfl | exact Sl.get0 hT hy rfl | (repeat (first | exact Cell.here rfl | apply Cell.there | apply Cell.app)))) rfl rfl rfl ?_
   refine XQ_v0 (ev_move rfl) rfl rfl rfl ?_
   refine XQ_v0 (ev_move rfl) rfl rfl rfl ?_
   refine XQ_v0 (ev_indexSl rfl rfl slt_23 (by assumption) (fun hg => by first | omega | (simp [conj] at hg; omega))) rfl rfl rfl ?_
   refine XQ_v0 (ev_load rfl sct_3 (fun hg => by first | exact Sl.get0 hS hx rfl | exact Sl.get0 hT hy rfl | (repeat (first | exact Cell.here rfl | apply Cell.there | apply Cell.app)))) rfl rfl rfl ?_
   refine XQ_v0 (ev_cmp rfl rfl rfl) rfl rfl rfl ?_
   refine XQ_nil ?_
   refine at_then ?_
   refine X_cond rfl (fun hc25 => ?_) (fun hc25 => ?_)
   ·
    refine X_seq (X_region ?_)
    refine XO_v0 (ev_assign rfl) rfl rfl rfl ?_
    refine XO_nil (at_then ?_)
    refine X_ret ?_
    refine at_block_r ?_
    refine at_then_r ?_
    refine at_then_r ?_
    refine at_block_r ?_
    refine at_then_r ?_
    exact at_ret1 rfl rfl (fun w hw => ⟨by rw [same_ne hx hy (by simpa using hc25)], hw.drop⟩)
   ·
    refine X_skip ?_
    refine at_block_n ?_
    refine at_then ?_
    refine X_region ?_
    refine XO_v0 (ev_move rfl) rfl rfl rfl ?_
    refine XO_v0 (ev_arB rfl rfl rfl (fun _ => by omega)) rfl rfl rfl ?_
    refine XO_v0 (ev_assign rfl) rfl rfl rfl ?_
    refine XO_nil ?_
    exact at_met2 _ _ ⟨n - (k + 1), by omega, k + 1, rfl, rfl, rfl, rfl, by omega, take_next hx hy he (by simpa using hc25)⟩ (.cons rfl (.cons rfl (.cons rfl .nil))) (by repeat (first | exact .refl | exact subL_left | refine subL_app ?_ | refine .drop ?_ | refine subL_add ?_))
  ·
   have hge_k : n ≤ k := by have h := hc14; simp at h; omega
   refine X_exit ?_
   refine at_then_e ?_
   refine at_then_e ?_
   refine at_block_hit ?_
   refine at_then ?_
   refine X_seq (X_region ?_)
   refine XO_v0 (ev_assign rfl) rfl rfl rfl ?_
   refine XO_nil (at_then ?_)
   refine X_ret ?_
   first
   | exact at_ret1 rfl rfl (fun w hw => ⟨by rw [take_all hS.len (by omega), take_all hT.len (by omega)] at he; rw [he, same_self], hw.drop⟩)
theorem w_sameG {I : HMap} {av : Option Addr} {n c : Nat} {xs : List Sg} (hS : Sl I 14 encG av n c xs) (hn : n ≤ 100000) {bv : Option Addr} {n2 c2 : Nat} {ys : List Sg} (hT : Sl I 14 encG bv n2 c2 ys) : RetV Tryz.prog 19 [.slice av n c, .slice bv n2 c2] I (.bool (sameF xs ys)) := by
 intro g H w hw
 refine enter Tryz.func19 rfl Tryz.ntmps19 rfl hw ?_
 refine X_seq (X_region ?_)
 refine XO_v0 (ev_assign rfl) rfl rfl rfl ?_
 refine XO_nil (at_then ?_)
 refine X_seq ?_
 refine X_seq (X_region ?_)
 refine XO_v0 (ev_move rfl) rfl rfl rfl ?_
 refine XO_v0 (ev_lenS rfl slt_33) rfl rfl rfl ?_
 refine XO_v0 (ev_move rfl) rfl rfl rfl ?_
 refine XO_v0 (ev_lenS rfl slt_33) rfl rfl rfl ?_
 refine XO_v0 (ev_cmp rfl rfl rfl) rfl rfl rfl ?_
 refine XO_nil (at_then ?_)
 refine X_cond rfl (fun hc10 => ?_) (fun hc10 => ?_)
 ·
  refine X_seq (X_region ?_)
  refine XO_v0 (ev_assign rfl) rfl rfl rfl ?_
  refine XO_nil (at_then ?_)
  refine X_ret ?_
  refine at_then_r ?_
  first
  | exact at_ret1 rfl rfl (fun w hw => ⟨by rw [same_len hS.len hT.len (by simp at hc10; omega)], hw.drop⟩)
 ·
  have hnn : n = n2 := by simp at hc10; omega
  refine X_skip ?_
  refine at_then ?_
  refine X_seq ?_
  refine X_seq (X_region ?_)
  refine XO_v0 (ev_assign rfl) rfl rfl rfl ?_
  refine XO_nil (at_then ?_)
  refine X_block ?_
  refine X_loopT [(0, _), (1, _)] (.cons rfl (.cons rfl .nil)) (fun T L0 mz E I' loc' => ∃ (k : Nat), mz = n - k ∧ E = (5, .int .i64 k) :: T ∧ I = I' ∧ L0 = loc' ∧ k ≤ n ∧ xs.take k = ys.take k) _ _ _ _ ⟨0, rfl, rfl, rfl, rfl, Nat.zero_le _, rfl⟩ (.cons rfl (.cons rfl (.cons rfl .nil))) (HLe.refl _) rfl ?_
  rintro mz E I' loc' ⟨k, rfl, rfl, rfl, rfl, hk, he⟩
  refine X_seq ?_
  refine X_seq (X_region ?_)
  refine XO_v0 (ev_move rfl) rfl rfl rfl ?_
  refine XO_v0 (ev_move rfl) rfl rfl rfl ?_
  refine XO_v0 (ev_lenS rfl slt_33) rfl rfl rfl ?_
  refine XO_v0 (ev_cmp rfl rfl rfl) rfl rfl rfl ?_
  refine XO_nil (at_then ?_)
  refine X_cond rfl (fun hc14 => ?_) (fun hc14 => ?_)
  ·
   have hlt_k : k < n := by have h := hc14; simp at h; omega
   obtain ⟨x, hx⟩ := hS.at hlt_k
   obtain ⟨y, hy⟩ := hT.at (show k < n2 by omega)
   refine X_skip ?_
   refine at_then ?_
   refine X_seq ?_
   refine X_block ?_
   refine X_seq ?_
   refine X_draw mixed (by kernel_rfl) ?_
   refine XQ_v0 (ev_move rfl) rfl rfl rfl ?_
   refine XQ_v0 (ev_move rfl) rfl rfl rfl ?_
   refine XQ_v0 (ev_indexSl rfl rfl slt_33 (by assumption) (fun hg => by first | omega | (simp [conj] at hg; omega))) rfl rfl rfl ?_
   refine XQ_v0 (ev_loadA rfl agt_45 (fun hg => by first | exact Sl.getA hS hx | exact Sl.getA hT hy | (repeat (first | exact Cells.here | exact Cells.s0 (vs := [_, _, _, _, _, _, _, _, _, _, _, _, _, _]) rfl | apply Cells.there | apply Cells.app))) rfl) rfl rfl rfl ?_
   refine XQ_v0 (ev_move rfl) rfl rfl rfl ?_
   refine XQ_v0 (ev_move rfl) rfl rfl rfl ?_
   refine XQ_v0 (ev_indexSl rfl rfl slt_33 (by assumption) (fun hg => by first | omega | (simp [conj] at hg; omega))) rfl rfl rfl ?_
   refine XQ_v0 (ev_loadA rfl agt_45 (fun hg => by first | exact Sl.getA hS hx | exact Sl.getA hT hy | (repeat (first | exact Cells.here | exact Cells.s0 (vs := [_, _, _, _, _, _, _, _, _, _, _, _, _, _]) rfl | apply Cells.there | apply Cells.app))) rfl) rfl rfl rfl ?_
   refine XQ_v0 (ev_neS2 rfl rfl eqt2_45 rfl) rfl rfl rfl ?_
   refine XQ_nil ?_
   refine at_then ?_
   refine X_cond rfl (fun hc25 => ?_) (fun hc25 => ?_)
   ·
    refine X_seq (X_region ?_)
    refine XO_v0 (ev_assign rfl) rfl rfl rfl ?_
    refine XO_nil (at_then ?_)
    refine X_ret ?_
    refine at_block_r ?_
    refine at_then_r ?_
    refine at_then_r ?_
    refine at_block_r ?_
    refine at_then_r ?_
    exact at_ret1 rfl rfl (fun w hw => ⟨by rw [same_ne hx hy (sgEq_no ((Bool.not_eq_true' _).mp hc25))], hw.drop⟩)
   ·
    refine X_skip ?_
    refine at_block_n ?_
    refine at_then ?_
    refine X_region ?_
    refine XO_v0 (ev_move rfl) rfl rfl rfl ?_
    refine XO_v0 (ev_arB rfl rfl rfl (fun _ => by omega)) rfl rfl rfl ?_
    refine XO_v0 (ev_assign rfl) rfl rfl rfl ?_
    refine XO_nil ?_
    exact at_met2 _ _ ⟨n - (k + 1), by omega, k + 1, rfl, rfl, rfl, rfl, by omega, take_next hx hy he (sgEq_iff.1 ((Bool.not_eq_false' _).mp hc25))⟩ (.cons rfl (.cons rfl (.cons rfl .nil))) (by repeat (first | exact .refl | exact subL_left | refine subL_app ?_ | refine .drop ?_ | refine subL_add ?_))
  ·
   have hge_k : n ≤ k := by have h := hc14; simp at h; omega
   refine X_exit ?_
   refine at_then_e ?_
   refine at_then_e ?_
   refine at_block_hit ?_
   refine at_then ?_
   refine X_seq (X_region ?_)
   refine XO_v0 (ev_assign rfl) rfl rfl rfl ?_
   refine XO_nil (at_then ?_)
   refine X_ret ?_
   first
   | exact at_ret1 rfl rfl (fun w hw => ⟨by rw [take_all hS.len (by omega), take_all hT.len (by omega)] at he; rw [he, same_self], hw.drop⟩)
theorem w_sameC {I : HMap} {av : Option Addr} {n c : Nat} {cs : List Cf} (hC : SlC I av n c cs) (hn : n ≤ 100000) {bv : Option Addr} {n2 c2 : Nat} {ds : List Cf} (hD : SlC I bv n2 c2 ds) (hcn : ∀ z ∈ cs, z.n ≤ 100000) : RetV Tryz.prog 20 [.slice av n c, .slice bv n2 c2] I (.bool (sameF (cs.map Cf.key) (ds.map Cf.key))) := by
 intro g H w hw
 refine enter Tryz.func20 rfl Tryz.ntmps20 rfl hw ?_
 have hS := hC.1
 have hT := hD.1
 refine X_seq (X_region ?_)
 refine XO_v0 (ev_assign rfl) rfl rfl rfl ?_
 refine XO_nil (at_then ?_)
 refine X_seq ?_
 refine X_seq (X_region ?_)
 refine XO_v0 (ev_move rfl) rfl rfl rfl ?_
 refine XO_v0 (ev_lenS rfl slt_36) rfl rfl rfl ?_
 refine XO_v0 (ev_move rfl) rfl rfl rfl ?_
 refine XO_v0 (ev_lenS rfl slt_36) rfl rfl rfl ?_
 refine XO_v0 (ev_cmp rfl rfl rfl) rfl rfl rfl ?_
 refine XO_nil (at_then ?_)
 refine X_cond rfl (fun hc10 => ?_) (fun hc10 => ?_)
 ·
  refine X_seq (X_region ?_)
  refine XO_v0 (ev_assign rfl) rfl rfl rfl ?_
  refine XO_nil (at_then ?_)
  refine X_ret ?_
  refine at_then_r ?_
  first
  | exact at_ret1 rfl rfl (fun w hw => ⟨by rw [same_len (n := n) (m := n2) (by rw [List.length_map, hS.len]) (by rw [List.length_map, hT.len]) (by simp at hc10; omega)], hw.drop⟩)
 ·
  have hnn : n = n2 := by simp at hc10; omega
  refine X_skip ?_
  refine at_then ?_
  refine X_seq ?_
  refine X_seq (X_region ?_)
  refine XO_v0 (ev_assign rfl) rfl rfl rfl ?_
  refine XO_nil (at_then ?_)
  refine X_block ?_
  refine X_loopT [(0, _), (1, _)] (.cons rfl (.cons rfl .nil)) (fun T L0 mz E I' loc' => ∃ (k : Nat), mz = n - k ∧ E = (5, .int .i64 k) :: T ∧ I = I' ∧ L0 = loc' ∧ k ≤ n ∧ (cs.take k).map Cf.key = (ds.take k).map Cf.key) _ _ _ _ ⟨0, rfl, rfl, rfl, rfl, Nat.zero_le _, rfl⟩ (.cons rfl (.cons rfl (.cons rfl .nil))) (HLe.refl _) rfl ?_
  rintro mz E I' loc' ⟨k, rfl, rfl, rfl, rfl, hk, he⟩
  refine X_seq ?_
  refine X_seq (X_region ?_)
  refine XO_v0 (ev_move rfl) rfl rfl rfl ?_
  refine XO_v0 (ev_move rfl) rfl rfl rfl ?_
  refine XO_v0 (ev_lenS rfl slt_36) rfl rfl rfl ?_
  refine XO_v0 (ev_cmp rfl rfl rfl) rfl rfl rfl ?_
  refine XO_nil (at_then ?_)
  refine X_cond rfl (fun hc14 => ?_) (fun hc14 => ?_)
  ·
   have hlt_k : k < n := by have h := hc14; simp at h; omega
   obtain ⟨x, hx⟩ := hS.at hlt_k
   obtain ⟨y, hy⟩ := hT.at (show k < n2 by omega)
   refine X_skip ?_
   refine at_then ?_
   refine X_seq ?_
   refine X_block ?_
   refine X_seq ?_
   refine X_draw mixed (by kernel_rfl) ?_
   refine XQ_v0 (ev_move rfl) rfl rfl rfl ?_
   refine XQ_v0 (ev_move rfl) rfl rfl rfl ?_
   refine XQ_v0 (ev_indexSl rfl rfl slt_36 (by assumption) (fun hg => by first | omega | (simp [conj] at hg; omega))) rfl rfl rfl ?_
   refine XQ_v0 (ev_fieldAddr rfl fld_60_0) rfl rfl rfl ?_
   refine XQ_v0 (ev_load rfl sct_3 (fun hg => by first | exact Sl.get hS hx rfl | exact Sl.get hT hy rfl | (repeat (first | exact Cell.here rfl | apply Cell.there | apply Cell.app)))) rfl rfl rfl ?_
   refine XQ_v0 (ev_move rfl) rfl rfl rfl ?_
   refine XQ_v0 (ev_move rfl) rfl rfl rfl ?_
   refine XQ_v0 (ev_indexSl rfl rfl slt_36 (by assumption) (fun hg => by first | omega | (simp [conj] at hg; omega))) rfl rfl rfl ?_
   refine XQ_v0 (ev_fieldAddr rfl fld_60_0) rfl rfl rfl ?_
   refine XQ_v0 (ev_load rfl sct_3 (fun hg => by first | exact Sl.get hS hx rfl | exact Sl.get hT hy rfl | (repeat (first | exact Cell.here rfl | apply Cell.there | apply Cell.app)))) rfl rfl rfl ?_
   refine XQ_v0 (ev_cmp rfl rfl rfl) rfl rfl rfl ?_
   refine XQ_v0 (ev_move rfl) rfl rfl rfl ?_
   refine XQ_pushF 11 rfl rfl rfl ?_
   refine XQ_v1 (ev_move rfl) (.some rfl rfl rfl rfl gbf) rfl rfl rfl ?_
   refine XQ_v1 (ev_move rfl) (.some rfl rfl rfl rfl gbf) rfl rfl rfl ?_
   refine XQ_v1 (ev_indexSl rfl rfl slt_36 (by assumption) (fun hg => by first | omega | (simp [conj] at hg; omega))) (.some rfl rfl rfl rfl gbf) rfl rfl rfl ?_
   refine XQ_v1 (ev_fieldAddr rfl fld_60_1) (.some rfl rfl rfl rfl gbf) rfl rfl rfl ?_
   refine XQ_v1 (ev_load rfl sct_3 (fun hg => by first | exact Sl.get hS hx rfl | exact Sl.get hT hy rfl | (repeat (first | exact Cell.here rfl | apply Cell.there | apply Cell.app)))) (.some rfl rfl rfl rfl gbf) rfl rfl rfl ?_
   refine XQ_v1 (ev_move rfl) (.some rfl rfl rfl rfl gbf) rfl rfl rfl ?_
   refine XQ_v1 (ev_move rfl) (.some rfl rfl rfl rfl gbf) rfl rfl rfl ?_
   refine XQ_v1 (ev_indexSl rfl rfl slt_36 (by assumption) (fun hg => by first | omega | (simp [conj] at hg; omega))) (.some rfl rfl rfl rfl gbf) rfl rfl rfl ?_
   refine XQ_v1 (ev_fieldAddr rfl fld_60_1) (.some rfl rfl rfl rfl gbf) rfl rfl rfl ?_
   refine XQ_v1 (ev_load rfl sct_3 (fun hg => by first | exact Sl.get hS hx rfl | exact Sl.get hT hy rfl | (repeat (first | exact Cell.here rfl | apply Cell.there | apply Cell.app)))) (.some rfl rfl rfl rfl gbf) rfl rfl rfl ?_
   refine XQ_v1 (ev_cmp rfl rfl rfl) (.some rfl rfl rfl rfl gbf) rfl rfl rfl ?_
   refine XQ_or0 rfl rfl rfl rfl rfl ?_
   refine XQ_v0 (ev_move rfl) rfl rfl rfl ?_
   refine XQ_pushF 24 rfl rfl rfl ?_
   refine XQ_v1 (ev_move rfl) (.some rfl rfl rfl rfl gbf) rfl rfl rfl ?_
   refine XQ_v1 (ev_move rfl) (.some rfl rfl rfl rfl gbf) rfl rfl rfl ?_
   refine XQ_v1 (ev_indexSl rfl rfl slt_36 (by assumption) (fun hg => by first | omega | (simp [conj] at hg; omega))) (.some rfl rfl rfl rfl gbf) rfl rfl rfl ?_
   refine XQ_v1 (ev_fieldAddr rfl fld_60_2) (.some rfl rfl rfl rfl gbf) rfl rfl rfl ?_
   refine XQ_v1 (ev_load rfl sct_23 (fun hg => by first | exact Sl.get hS hx rfl | exact Sl.get hT hy rfl | (repeat (first | exact Cell.here rfl | apply Cell.there | apply Cell.app)))) (.some rfl rfl rfl rfl gbf) rfl rfl rfl ?_
   refine XQ_v1 (ev_move rfl) (.some rfl rfl rfl rfl gbf) rfl rfl rfl ?_
   refine XQ_v1 (ev_move rfl) (.some rfl rfl rfl rfl gbf) rfl rfl rfl ?_
   refine XQ_v1 (ev_indexSl rfl rfl slt_36 (by assumption) (fun hg => by first | omega | (simp [conj] at hg; omega))) (.some rfl rfl rfl rfl gbf) rfl rfl rfl ?_
   refine XQ_v1 (ev_fieldAddr rfl fld_60_2) (.some rfl rfl rfl rfl gbf) rfl rfl rfl ?_
   refine XQ_v1 (ev_load rfl sct_23 (fun hg => by first | exact Sl.get hS hx rfl | exact Sl.get hT hy rfl | (repeat (first | exact Cell.here rfl | apply Cell.there | apply Cell.app)))) (.some rfl rfl rfl rfl gbf) rfl rfl rfl ?_
   refine XQ_callV1 (cap := []) (vs := [_, _]) rfl rfl fun_14 (fun hg => w_sameI (hC.2 _ (List.mem_of_getElem? hx)) (hcn _ (List.mem_of_getElem? hx)) (hD.2 _ (List.mem_of_getElem? hy))) (.some rfl rfl rfl rfl gbf) rfl rfl ?_
   refine XQ_v1 (ev_not rfl) (.some rfl rfl rfl rfl gbf) rfl rfl rfl ?_
   refine XQ_or0 rfl rfl rfl rfl rfl ?_
   refine XQ_nil ?_
   refine at_then ?_
   refine X_cond rfl (fun hc54 => ?_) (fun hc54 => ?_)
   ·
    refine X_seq (X_region ?_)
    refine XO_v0 (ev_assign rfl) rfl rfl rfl ?_
    refine XO_nil (at_then ?_)
    refine X_ret ?_
    refine at_block_r ?_
    refine at_then_r ?_
    refine at_then_r ?_
    refine at_block_r ?_
    refine at_then_r ?_
    first
    | exact at_ret1 rfl rfl (fun w hw => ⟨by rw [key_ne hx hy (fun e => by unfold Cf.key at e; rw [Prod.mk.injEq, Prod.mk.injEq] at e; rw [e.1, e.2.1, e.2.2, same_self] at hc54; simp at hc54)], hw.drop⟩)
   ·
    refine X_skip ?_
    refine at_block_n ?_
    refine at_then ?_
    refine X_region ?_
    refine XO_v0 (ev_move rfl) rfl rfl rfl ?_
    refine XO_v0 (ev_arB rfl rfl rfl (fun _ => by omega)) rfl rfl rfl ?_
    refine XO_v0 (ev_assign rfl) rfl rfl rfl ?_
    refine XO_nil ?_
    exact at_met2 _ _ ⟨n - (k + 1), by omega, k + 1, rfl, rfl, rfl, rfl, by omega, key_next hx hy he (by have h := hc54; simp only [Bool.or_eq_false_iff, Bool.not_eq_false', bne_eq_false_iff_eq] at h; unfold Cf.key; rw [h.1.1, h.1.2, of_decide_eq_true h.2])⟩ (.cons rfl (.cons rfl (.cons rfl .nil))) (by repeat (first | exact .refl | exact subL_left | refine subL_app ?_ | refine .drop ?_ | refine subL_add ?_))
  ·
   have hge_k : n ≤ k := by have h := hc14; simp at h; omega
   refine X_exit ?_
   refine at_then_e ?_
   refine at_then_e ?_
   refine at_block_hit ?_
   refine at_then ?_
   refine X_seq (X_region ?_)
   refine XO_v0 (ev_assign rfl) rfl rfl rfl ?_
   refine XO_nil (at_then ?_)
   refine X_ret ?_
   first
   | exact at_ret1 rfl rfl (fun w hw => ⟨by rw [take_all hS.len (by omega), take_all hT.len (by omega)] at he; rw [he, same_self], hw.drop⟩)
end Go.Proofs.YtccomeanpppfmaaGreat
end
section
namespace Go.Proofs.YtccomeanpppfmaaGreat
open Go Go.Kn Go.Proofs
theorem plt_53 : PlT Tryz.prog 53 #[(0, 1), (1, 1), (2, 1), (3, 1), (4, 14), (18, 1)] (.agg #[(.int .i64 0), (.int .i64 0), (.int .i64 0), (.int .i64 0), (.int .i64 0), (.int .i64 0), (.int .i64 0), (.int .i64 0), (.int .i64 0), (.int .i64 0), (.int .i64 0), (.int .i64 0), (.int .i64 0), (.int .i64 0), (.int .i64 0), (.int .i64 0), (.int .i64 0), (.int .i64 0), (.slice none 0 0)]) := ⟨.of (by kernel_rfl), by kernel_rfl, fun w => by kernel_rfl⟩
/-- The law's patch: a sign's direction. -/
def setP (id dir : Int) (a : Option Addr) (n c : Nat) (v : List Int) : Pt := ⟨id, 1, 1, 5, { zeroG with dir := dir }, a, n, c, v⟩
theorem w_lset (I : HMap) (id dir : Int) (a : Option Addr) (n c : Nat) (v : List Int) : RetV Tryz.prog 27 [.int .i64 id, .int .i64 dir, .slice a n c] I (encPA (setP id dir a n c v)) := by
 intro g H w hw
 refine enter Tryz.func27 rfl Tryz.ntmps27 rfl hw ?_
 refine X_seq (X_region ?_)
 refine XO_alloc zt_53 rfl rfl (fun b_6 => ?_)
 refine XO_nil (at_then ?_)
 refine X_seq (X_region ?_)
 refine XO_v0 (ev_move rfl) rfl rfl rfl ?_
 refine XO_v0 (ev_move rfl) rfl rfl rfl ?_
 refine XO_v0 (ev_buildL (ps := [(6, _)]) [_, _, _, _, _, _, _, _, _, _, _, _, _, _] plt_45 rfl rfl) rfl rfl rfl ?_
 refine XO_v0 (ev_move rfl) rfl rfl rfl ?_
 refine XO_v0 (ev_buildL (ps := [(0, _), (1, _), (2, _), (3, _), (4, _), (5, _)]) [_, _, _, _, _, _, _, _, _, _, _, _, _, _, _, _, _, _, _] plt_53 rfl rfl) rfl rfl rfl ?_
 refine XO_storeA rfl rfl szt_53 rfl rfl rfl rfl (by repeat (first | exact Upd.here | apply Upd.there | apply upd_app)) ?_
 refine XO_nil (at_then ?_)
 refine X_ret ?_
 exact at_retA rfl rfl agt_53 Cells.g0 rfl (fun w hw => ⟨rfl, hw.drop⟩)
end Go.Proofs.YtccomeanpppfmaaGreat
end
section
namespace Go.Kn
open Go
section
variable {C : Cx} {E : Env} {I : HMap} {loc : Loc} {S : GS} {dst : Option Tmp} {ty : TypeId} {pos : String} {af : Array Edge} {gd : Option (Nat × Bool)} {x y z : Operand}
end
end Go.Kn
namespace Go.Kn
open Go
section
variable {g : World} {I I' H : HMap} {loc loc' L R : Loc} {w w' : World}
end
end Go.Kn
namespace Go.Kn
open Go
section
variable {C : Cx} {Q : Exit → Act → World → Prop} {E : Env} {I : HMap} {loc : Loc} {ops : Array Oper} {rest : List Oper} {d : Nat} {ty : TypeId} {pos : String} {af : Array Edge} {gd : Option (Nat × Bool)} {x y : Operand}
end
end Go.Kn
namespace Go.Kn
open Go
section
variable {C : Cx} {Q : Exit → Act → World → Prop} {E : Env} {I : HMap} {loc : Loc} {ops : Array Oper} {rest : List Oper} {d : Nat} {ty : TypeId} {pos : String} {af : Array Edge} {gd : Option (Nat × Bool)} {x y : Operand}
end
section
variable {C : Cx} {S : GS} {E : Env} {I : HMap} {loc : Loc} {dst : Option Tmp} {ty : TypeId} {pos : String} {af : Array Edge} {gd : Option (Nat × Bool)} {x y : Operand}
theorem ev_indexOwn {t e size b n c : Nat} {k : IntKind} {i : Int} (hx : evalS S E x = some (.slice (some ⟨b, 0, none⟩) n c)) (hy : evalS S E y = some (.int k i)) (hT : SlT C.P t e size) (hb : conj S = true → 0 ≤ i ∧ i < (n : Int)) :
    EvalOp C S E I loc ⟨dst, .indexAddr t x y, ty, pos, af, gd⟩ (.pointer (some ⟨b, i.toNat * size, none⟩)) := by
  have h := ev_indexAddr (I := I) (loc := loc) (dst := dst) (ty := ty) (pos := pos) (af := af) (gd := gd) hx hy hT hb
  rwa [Nat.zero_add] at h
end
/-- An element of an own slice: where it lies, and what a store leaves. -/
theorem OwnS.spot {α : Type} {e size n k : Nat} {enc : α → List Value} {v : Value} {xs : List α} {x : α} {L : Loc} (hO : OwnS e size v n (xs.flatMap enc) L) (hs : ∀ x, (enc x).length = size) (hsz : 0 < size) (hx : xs[k]? = some x) :
    k < n ∧ ∃ b c cur, v = .slice (some ⟨b, 0, none⟩) n c ∧ L = [(b, .cells (cur : List Value).toArray e (0, 0))] ∧ (cur.drop (k * size)).take size = enc x ∧ k * size + size ≤ cur.length ∧
      ∀ y, OwnS e size v n ((xs.set k y).flatMap enc) [(b, .cells (spliceL cur (k * size) (enc y)).toArray e (0, 0))] := by
  obtain ⟨hk, hxk⟩ := List.getElem?_eq_some_iff.1 hx
  have hl := hO.1
  rw [flat_len hs] at hl
  have hln : xs.length = n := Nat.eq_of_mul_eq_mul_right hsz hl
  rcases hO.2 with ⟨_, h2, _⟩ | ⟨b, c, cur, h1, h2, h3, h4, h5, h6⟩
  · omega
  obtain ⟨cl⟩ := cur
  simp only [List.size_toArray] at h5 h6
  have hspl : xs = xs.take k ++ x :: xs.drop (k + 1) := by
    rw [← hxk, ← List.drop_eq_getElem_cons hk, List.take_append_drop]
  have hb1 : (k + 1) * size ≤ n * size := Nat.mul_le_mul_right _ (by omega)
  have hb2 : n * size ≤ c * size := Nat.mul_le_mul_right _ h3
  rw [Nat.add_mul, Nat.one_mul] at hb1
  have htk : ((xs.take k).flatMap enc).length = k * size := by rw [flat_len hs, List.length_take]; congr 1; omega
  have hcl : cl.take (n * size) = (xs.take k).flatMap enc ++ (enc x ++ (xs.drop (k + 1)).flatMap enc) := by
    rw [h6]; conv => lhs; rw [hspl]
    rw [List.flatMap_append, List.flatMap_cons]
  have hdec : cl = (xs.take k).flatMap enc ++ (enc x ++ ((xs.drop (k + 1)).flatMap enc ++ cl.drop (n * size))) := by
    conv => lhs; rw [← List.take_append_drop (n * size) cl]
    rw [hcl]; simp only [List.append_assoc]
  have hdrop : cl.drop (k * size) = enc x ++ ((xs.drop (k + 1)).flatMap enc ++ cl.drop (n * size)) := by
    conv => lhs; rw [hdec]
    rw [← htk]; exact List.drop_left
  refine ⟨by omega, b, c, cl, h1, h2, ?_, by omega, fun y => ⟨?_, .inr ⟨b, c, _, h1, rfl, h3, h4, ?_, ?_⟩⟩⟩
  · rw [hdrop, ← hs x]; exact List.take_left
  · rw [flat_len hs, List.length_set]; omega
  · have hsl := splice_eq (A := cl) (off := k * size) (n := size) (vs := enc y) (by omega) (hs y)
    rw [List.size_toArray, hsl]
    simp only [List.length_append, List.length_take, List.length_drop, hs]
    omega
  · have hsl := splice_eq (A := cl) (off := k * size) (n := size) (vs := enc y) (by omega) (hs y)
    have e1 : cl.take (k * size) = (xs.take k).flatMap enc := by
      conv => lhs; rw [hdec]
      rw [← htk]; exact List.take_left
    have e2 : cl.drop (k * size + size) = (xs.drop (k + 1)).flatMap enc ++ cl.drop (n * size) := by
      have hd : ∀ l : List Value, List.drop size (enc x ++ l) = l := fun l => by rw [← hs x]; exact List.drop_left
      rw [← List.drop_drop, hdrop, hd]
    rw [hsl, e1, e2]
    have e3 : (xs.set k y).flatMap enc = (xs.take k).flatMap enc ++ (enc y ++ (xs.drop (k + 1)).flatMap enc) := by
      rw [List.set_eq_take_append_cons_drop, if_pos (by omega), List.flatMap_append, List.flatMap_cons]
    have e4 : ((xs.set k y).flatMap enc).length = n * size := by rw [flat_len hs, List.length_set]; omega
    show List.take (n * size) ((xs.take k).flatMap enc ++ (enc y ++ ((xs.drop (k + 1)).flatMap enc ++ cl.drop (n * size)))) = _
    rw [← List.append_assoc (enc y), ← List.append_assoc, ← e3, ← e4]
    exact List.take_left
/-- An element of one cell. -/
theorem OwnS.spot1 {α : Type} {e n k : Nat} {enc : α → List Value} {u : α → Value} {v : Value} {xs : List α} {x : α} {L : Loc} (hO : OwnS e 1 v n (xs.flatMap enc) L) (he : ∀ x, enc x = [u x]) (hx : xs[k]? = some x) :
    k < n ∧ ∃ b c cur, v = .slice (some ⟨b, 0, none⟩) n c ∧ L = [(b, .cells (cur : List Value).toArray e (0, 0))] ∧ (∀ (I : HMap) (l : Loc), Cell I ((b, .cells cur.toArray e (0, 0)) :: l) b (((k : Nat) : Int).toNat * 1) (u x)) ∧ Nat.blt (((k : Nat) : Int).toNat * 1) cur.toArray.size = true ∧
      ∀ y, OwnS e 1 v n ((xs.set k y).flatMap enc) [(b, .cells (cur.toArray.setIfInBounds (((k : Nat) : Int).toNat * 1) (u y)) e (0, 0))] := by
  obtain ⟨h1, b, c, cur, h2, h3, h4, h5, h6⟩ := hO.spot (fun x => by rw [he]; rfl) (by decide) hx
  have hk : k < cur.length := by omega
  have hck : cur[k]? = some (u x) := by
    have := congrArg (fun l : List Value => l[0]?) h4
    simpa [he] using this
  refine ⟨h1, b, c, cur, h2, h3, fun I l => ?_, ?_, fun y => ?_⟩
  · refine Cell.here ?_
    rw [lget_eq]
    show cur[k * 1]? = _
    rw [Nat.mul_one]; exact hck
  · show Nat.blt (k * 1) cur.length = true
    rw [Nat.mul_one, Nat.blt_eq]; exact hk
  · have h7 := h6 y
    rw [splice_eq (by rw [he]; simp; omega) rfl] at h7
    have e1 : cur.toArray.setIfInBounds (((k : Nat) : Int).toNat * 1) (u y) = (cur.take (k * 1) ++ (enc y ++ cur.drop (k * 1 + (enc y).length))).toArray := by
      show cur.toArray.setIfInBounds (k * 1) (u y) = _
      rw [he, Nat.mul_one, List.setIfInBounds_toArray, List.set_eq_take_append_cons_drop, if_pos hk]; rfl
    rw [e1]; exact h7
theorem at_freezeO {C : Cx} {Q : Exit → Act → World → Prop} {E : Env} {I : HMap} {loc L R : Loc} {α : Type} {e size n : Nat} {enc : α → List Value} {v : Value} {xs : List α} {ex : Exit} (hO : OwnS e size v n (xs.flatMap enc) L) (hs : ∀ x, (enc x).length = size) (hsz : 0 < size) (hsp : Split loc L R)
    (h : ∀ I', HLe I I' → ∀ av c0, v = .slice av n c0 → Sl I' size enc av n c0 xs → At C Q ex E I' R) : At C Q ex E I loc := fun a w ha hw =>
  let ⟨I', av, c0, h1, h2, h3, h4⟩ := OwnS.freeze (R := R) hO hs hsz (hw.unsplit hsp)
  h I' h1 av c0 h3 h4 a w ha h2
end Go.Kn
end
section
namespace Go.Proofs.YtccomeanpppfmaaGreat
open Go Go.Kn Go.Proofs
theorem low_split {xs : List Sg} (t : Int) : xs.take (lowK Sg.id xs t) = xs.takeWhile (fun x => decide (x.id < t)) ∧ xs.drop (lowK Sg.id xs t) = xs.dropWhile (fun x => decide (x.id < t)) := by
  have h := List.takeWhile_append_dropWhile (p := fun x : Sg => decide (x.id < t)) (l := xs)
  have e : lowK Sg.id xs t = (xs.takeWhile fun x => decide (x.id < t)).length := rfl
  have h1 := List.take_left (l₁ := xs.takeWhile fun x : Sg => decide (x.id < t)) (l₂ := xs.dropWhile fun x : Sg => decide (x.id < t))
  have h2 := List.drop_left (l₁ := xs.takeWhile fun x : Sg => decide (x.id < t)) (l₂ := xs.dropWhile fun x : Sg => decide (x.id < t))
  rw [h] at h1 h2
  rw [e]
  exact ⟨h1, h2⟩
theorem put_low {xs : List Sg} {k : Sg} : putF xs k = (xs.take (lowK Sg.id xs k.id) ++ [k]) ++ xs.drop (lowK Sg.id xs k.id) := by
  rw [(low_split k.id).1, (low_split k.id).2]
  unfold putF
  simp
end Go.Proofs.YtccomeanpppfmaaGreat
end
section
namespace Go.Proofs.YtccomeanpppfmaaGreat
open Go Go.Kn Go.Proofs
theorem fun_10 : Fun Tryz.prog 10 := .of Tryz.func10 (by kernel_rfl) (by kernel_rfl)
theorem fun_15 : Fun Tryz.prog 15 := .of Tryz.func15 (by kernel_rfl) (by kernel_rfl)
theorem fun_17 : Fun Tryz.prog 17 := .of Tryz.func17 (by kernel_rfl) (by kernel_rfl)
theorem fun_19 : Fun Tryz.prog 19 := .of Tryz.func19 (by kernel_rfl) (by kernel_rfl)
theorem fun_20 : Fun Tryz.prog 20 := .of Tryz.func20 (by kernel_rfl) (by kernel_rfl)
theorem fun_27 : Fun Tryz.prog 27 := .of Tryz.func27 (by kernel_rfl) (by kernel_rfl)
theorem fun_8 : Fun Tryz.prog 8 := .of Tryz.func8 (by kernel_rfl) (by kernel_rfl)
def g1 : Sg := ⟨1, 0, 2, 1, 1, 1, 1, 0, 1, 0, 0, 1, 1, 1⟩
def g2 : Sg := ⟨1, 0, 2, 1, 1, 1, 3, 0, 4, 0, 0, 1, 1, 1⟩
def g3 : Sg := ⟨1, 0, 2, 1, 1, 1, 6, 0, 4, 0, 0, 1, 1, 1⟩
def sizeP : Pt := ⟨3, 1, 1, 7, { zeroG with size := 4 }, none, 0, 0, []⟩
def stR (a : Option Addr) : List Pt := [setP 2 3 none 0 0 [], sizeP, setP 4 5 none 0 0 [], setP 7 6 a 2 2 [2, 4]]
def stB (a : Option Addr) : List Pt := [setP 2 3 a 1 1 [1]]
theorem stR_sl {I : HMap} {b : Nat} {a : Option Addr} (h : I b = some (.cells ((stR a).flatMap encP).toArray 53 (0, 0))) (h2 : Sl I 1 encI a 2 2 [2, 4]) : SlP I (some ⟨b, 0, none⟩) 4 4 (stR a) :=
 ⟨Sl.lit (stR a) rfl encP_len h, fun p hp => by
  simp only [stR, List.mem_cons, List.not_mem_nil, or_false] at hp
  rcases hp with rfl | rfl | rfl | rfl
  ·
   exact .nil
  ·
   exact .nil
  ·
   exact .nil
  ·
   exact h2⟩
theorem stB_sl {I : HMap} {b : Nat} {a : Option Addr} (h : I b = some (.cells ((stB a).flatMap encP).toArray 53 (0, 0))) (h2 : Sl I 1 encI a 1 1 [1]) : SlP I (some ⟨b, 0, none⟩) 1 1 (stB a) :=
 ⟨Sl.lit (stB a) rfl encP_len h, fun p hp => by
  simp only [stB, List.mem_cons, List.not_mem_nil, or_false] at hp
  subst hp; exact h2⟩
theorem s_chk0 {I : HMap} {av : Option Addr} {c : Nat} (hP : SlP I av 0 c []) : RetV Tryz.prog 12 [.slice av 0 c] I (.int .i64 0) := by
 have h := w_chkR hP (by decide)
 rwa [show chkR [] = 0 from by kernel_rfl] at h
theorem s_chk1 {I : HMap} {av : Option Addr} {c : Nat} {a : Option Addr} (hP : SlP I av 4 c (stR a)) : RetV Tryz.prog 12 [.slice av 4 c] I (.int .i64 0) := by
 have h := w_chkR hP (by decide)
 rwa [show chkR (stR a) = 0 from by kernel_rfl] at h
theorem s_chk2 {I : HMap} {av : Option Addr} {c : Nat} {a : Option Addr} (hP : SlP I av 1 c (stB a)) : RetV Tryz.prog 12 [.slice av 1 c] I (.int .i64 380) := by
 have h := w_chkR hP (by decide)
 rwa [show chkR (stB a) = 380 from by kernel_rfl] at h
theorem s_clo1 {I : HMap} {av bv : Option Addr} {c c2 : Nat} {a : Option Addr} (hP : SlP I av 4 c (stR a)) (hT : Sl I 1 encI bv 1 c2 [7]) : RetM Tryz.prog 8 [.slice av 4 c, .slice bv 1 c2] I [] (Res2 0 [2, 4, 7]) := by
 have h := w_Closure hP (by decide) hT (by decide)
 rwa [show cloE (stR a) [7] = 0 from by kernel_rfl, show resF (α := Int) 0 (cloF (stR a) [7]) = [2, 4, 7] from by kernel_rfl] at h
theorem s_clo2 {I : HMap} {av bv : Option Addr} {c c2 : Nat} (hP : SlP I av 0 c []) (hT : Sl I 1 encI bv 1 c2 [1]) : RetM Tryz.prog 8 [.slice av 0 c, .slice bv 1 c2] I [] (Res2 380 []) := by
 have h := w_Closure hP (by decide) hT (by decide)
 rwa [show cloE [] [1] = 380 from by kernel_rfl, show resF (α := Int) 380 (cloF [] [1]) = [] from by kernel_rfl] at h
theorem s_mrg {I : HMap} {av bv dv : Option Addr} {c c2 c3 : Nat} {a : Option Addr} (hP : SlP I av 4 c (stR a)) (hT : Sl I 1 encI bv 1 c2 [2]) (hU : Sl I 1 encI dv 1 c3 [3]) : RetM Tryz.prog 10 [.slice av 4 c, .slice bv 1 c2, .slice dv 1 c3] I [] (Res2 0 [2, 3]) := by
 have h := w_merge hP (by decide) hT (by decide) hU (by decide)
 rwa [show mrgE (stR a) [2] [3] = 0 from by kernel_rfl, show resF (α := Int) 0 (mrgF (stR a) [2] [3]) = [2, 3] from by kernel_rfl] at h
theorem s_sg1 {I : HMap} {av bv dv : Option Addr} {c c2 c3 : Nat} {a : Option Addr} (hP : SlP I av 4 c (stR a)) (hB : Sl I 14 encG bv 1 c2 [g1]) (hV : Sl I 1 encI dv 2 c3 [2, 3]) : RetM Tryz.prog 15 [.slice av 4 c, .slice bv 1 c2, .slice dv 2 c3] I [] (ResG 0 [g2]) := by
 have h := w_Signs hP (by decide) hB (by decide) hV (by decide)
 rwa [show sgnE (stR a) [g1] [2, 3] = 0 from by kernel_rfl, show sgnF (stR a) [g1] [2, 3] = [g2] from by kernel_rfl] at h
theorem s_sg2 {I : HMap} {av bv dv : Option Addr} {c c2 c3 : Nat} {a : Option Addr} (hP : SlP I av 4 c (stR a)) (hB : Sl I 14 encG bv 1 c2 [g1]) (hV : Sl I 1 encI dv 4 c3 [2, 3, 4, 7]) : RetM Tryz.prog 15 [.slice av 4 c, .slice bv 1 c2, .slice dv 4 c3] I [] (ResG 0 [g3]) := by
 have h := w_Signs hP (by decide) hB (by decide) hV (by decide)
 rwa [show sgnE (stR a) [g1] [2, 3, 4, 7] = 0 from by kernel_rfl, show sgnF (stR a) [g1] [2, 3, 4, 7] = [g3] from by kernel_rfl] at h
theorem s_sg3 {I : HMap} {av bv dv : Option Addr} {c c2 c3 : Nat} {a : Option Addr} (hP : SlP I av 4 c (stR a)) (hB : Sl I 14 encG bv 1 c2 [g1]) (hV : Sl I 1 encI dv 1 c3 [7]) : RetM Tryz.prog 15 [.slice av 4 c, .slice bv 1 c2, .slice dv 1 c3] I [] (ResG 380 []) := by
 have h := w_Signs hP (by decide) hB (by decide) hV (by decide)
 rwa [show sgnE (stR a) [g1] [7] = 380 from by kernel_rfl, show sgnF (stR a) [g1] [7] = [] from by kernel_rfl] at h
theorem s_sg4 {I : HMap} {av bv dv : Option Addr} {c c2 c3 : Nat} (hP : SlP I av 0 c []) (hB : Sl I 14 encG bv 1 c2 [g1]) (hV : Sl I 1 encI dv 0 c3 []) : RetM Tryz.prog 15 [.slice av 0 c, .slice bv 1 c2, .slice dv 0 c3] I [] (ResG 0 [g1]) := by
 have h := w_Signs hP (by decide) hB (by decide) hV (by decide)
 rwa [show sgnE [] [g1] [] = 0 from by kernel_rfl, show sgnF [] [g1] [] = [g1] from by kernel_rfl] at h
theorem s_cf1 {I : HMap} {av bv dv : Option Addr} {c c2 c3 : Nat} {a : Option Addr} (hP : SlP I av 4 c (stR a)) (hB : Sl I 14 encG bv 1 c2 [g1]) (hV : Sl I 1 encI dv 2 c3 [2, 3]) : RetM Tryz.prog 17 [.slice av 4 c, .slice bv 1 c2, .slice dv 2 c3] I [] (ResC 0 []) := by
 have h := w_Conflicts hP (by decide) hB (by decide) hV (by decide)
 rwa [show sgnE (stR a) [g1] [2, 3] = 0 from by kernel_rfl, show cflF (stR a) [g1] [2, 3] = [] from by kernel_rfl] at h
theorem s_cf2 {I : HMap} {av bv dv : Option Addr} {c c2 c3 : Nat} {a : Option Addr} (hP : SlP I av 4 c (stR a)) (hB : Sl I 14 encG bv 1 c2 [g1]) (hV : Sl I 1 encI dv 3 c3 [2, 3, 4]) : RetM Tryz.prog 17 [.slice av 4 c, .slice bv 1 c2, .slice dv 3 c3] I [] (ResC 0 [(1, 5, [2, 4])]) := by
 have h := w_Conflicts hP (by decide) hB (by decide) hV (by decide)
 rwa [show sgnE (stR a) [g1] [2, 3, 4] = 0 from by kernel_rfl, show cflF (stR a) [g1] [2, 3, 4] = [(1, 5, [2, 4])] from by kernel_rfl] at h
theorem s_cf3 {I : HMap} {av bv dv : Option Addr} {c c2 c3 : Nat} {a : Option Addr} (hP : SlP I av 4 c (stR a)) (hB : Sl I 14 encG bv 1 c2 [g1]) (hV : Sl I 1 encI dv 4 c3 [2, 3, 4, 7]) : RetM Tryz.prog 17 [.slice av 4 c, .slice bv 1 c2, .slice dv 4 c3] I [] (ResC 0 []) := by
 have h := w_Conflicts hP (by decide) hB (by decide) hV (by decide)
 rwa [show sgnE (stR a) [g1] [2, 3, 4, 7] = 0 from by kernel_rfl, show cflF (stR a) [g1] [2, 3, 4, 7] = [] from by kernel_rfl] at h
theorem s_sameI {I : HMap} {av bv : Option Addr} {n c q e : Nat} {xs ys : List Int} (hS : Sl I 1 encI av n c xs) (hT : Sl I 1 encI bv q e ys) (hn : n ≤ 100000) (h : xs = ys) : RetV Tryz.prog 14 [.slice av n c, .slice bv q e] I (.bool true) := by
 have := w_sameI hS hn hT
 subst h; rwa [same_self] at this
theorem s_sameG {I : HMap} {av bv : Option Addr} {n c q e : Nat} {xs ys : List Sg} (hS : Sl I 14 encG av n c xs) (hT : Sl I 14 encG bv q e ys) (hn : n ≤ 100000) (h : xs = ys) : RetV Tryz.prog 19 [.slice av n c, .slice bv q e] I (.bool true) := by
 have := w_sameG hS hn hT
 subst h; rwa [same_self] at this
theorem s_sameC {I : HMap} {av bv a : Option Addr} {c e : Nat} {cs : List Cf} (hC : SlC I av cs.length c cs) (hk : cs.map Cf.key = [(1, 5, [2, 4])]) (hD : SlC I bv 1 e [⟨1, 5, a, 2, 2, [2, 4]⟩]) : RetV Tryz.prog 20 [.slice av cs.length c, .slice bv 1 e] I (.bool true) := by
 match cs, hC, hk with
 | [], _, hk => cases hk
 | _ :: _ :: _, _, hk => simp at hk
 | [z], hC, hk =>
  have hz : z.key = (1, 5, [2, 4]) := by simpa using hk
  have hi : z.ids = [2, 4] := congrArg (·.2.2) hz
  have hl := (hC.2 z (by simp)).len
  rw [hi] at hl
  have h := w_sameC hC (by simp) hD (fun y hy => by simp at hy; subst hy; rw [← hl]; decide)
  rwa [hk, show ([⟨1, 5, a, 2, 2, [2, 4]⟩] : List Cf).map Cf.key = [(1, 5, [2, 4])] from rfl, same_self] at h
theorem conf_one {I : HMap} {b : Nat} {a : Option Addr} (h : I b = some (.cells (([⟨1, 5, a, 2, 2, [2, 4]⟩] : List Cf).flatMap encC).toArray 60 (0, 0))) (h2 : Sl I 1 encI a 2 2 [2, 4]) : SlC I (some ⟨b, 0, none⟩) 1 1 [⟨1, 5, a, 2, 2, [2, 4]⟩] :=
 ⟨Sl.lit _ rfl encC_len h, fun x hx => by simp only [List.mem_cons, List.not_mem_nil, or_false] at hx; subst hx; exact h2⟩
set_option maxRecDepth 100000 in
theorem w_sane (I : HMap) : RetV Tryz.prog 6 [] I (.bool true) := by
 intro g H w hw
 refine enter Tryz.func6 rfl Tryz.ntmps6 rfl hw ?_
 have hIc := HLe.refl I
 refine X_seq (X_region ?_)
 refine XO_v0 (ev_assign rfl) rfl rfl rfl ?_
 refine XO_nil (at_then ?_)
 refine X_seq (X_region ?_)
 refine XO_v0 (ev_buildL (ps := [(1, _)]) [_, _] plt_43 rfl rfl) rfl rfl rfl ?_
 refine XO_v0 (ev_buildL (ps := [(0, _), (1, _)]) [_, _] plt_43 rfl rfl) rfl rfl rfl ?_
 refine XO_v0 (ev_buildL (ps := [(0, _), (2, _), (3, _), (4, _), (5, _), (6, _), (8, _), (10, _), (11, _)]) [_, _, _, _, _, _, _, _, _, _, _, _, _, _] plt_45 rfl rfl) rfl rfl rfl ?_
 refine XO_buildSlice (ps := [(0, _)]) (m := [encG g1]) elt_33 rfl (.cons rfl (.nil)) rfl (by simp [encI_len, encP_len, encG_len, encC_len]) (by decide) (by decide) rfl rfl (fun b_29 => ?_)
 refine XO_freeze .here (fun I1 hI1 hb1 => ?_)
 have hIc := hIc.trans hI1
 have hB := Sl.lit ([g1] : List Sg) rfl encG_len (show _ = some (Obj.cells (([g1] : List Sg).flatMap encG).toArray 45 (0, 0)) from hb1)
 refine XO_v0 (ev_assign rfl) rfl rfl rfl ?_
 refine XO_nil (at_then ?_)
 refine X_seq (X_region ?_)
 refine XO_v0 (ev_buildL (ps := [(8, _)]) [_, _, _, _, _, _, _, _, _, _, _, _, _, _] plt_45 rfl rfl) rfl rfl rfl ?_
 refine XO_v0 (ev_buildL (ps := [(0, _), (1, _), (2, _), (3, _), (4, _)]) [_, _, _, _, _, _, _, _, _, _, _, _, _, _, _, _, _, _, _] plt_53 rfl rfl) rfl rfl rfl ?_
 refine XO_alloc zt_53 rfl rfl (fun b_2 => ?_)
 refine XO_storeA rfl rfl szt_53 rfl rfl rfl rfl (by repeat (first | exact Upd.here | apply Upd.there | apply upd_app)) ?_
 refine XO_nil (at_then ?_)
 refine X_cutT [(1, _)] (.cons rfl .nil) (fun T L0 E I' loc' => ∃ (b35 b37 : Nat), E = (3, .slice (some ⟨b37, 0, none⟩) 4 4) :: T ∧ I1 = I' ∧ [(b37, .cells ((stR (some ⟨b35, 0, none⟩)).flatMap encP).toArray 53 (0, 0)), (b35, .cells ([(2 : Int), 4].flatMap encI).toArray 3 (0, 0))] = loc') ?_ ?_
 ·
  have hD := HLe.refl I1
  refine X_drawC mixed ?_
  refine XD_take 1 rfl (ev_loadA rfl agt_53 (fun hg => by first | exact Sl.getA (k := 0) (x := g1) hB rfl | (repeat (first | exact Cells.here | exact Cells.s0 (vs := [_, _, _, _, _, _, _, _, _, _, _, _, _, _, _, _, _, _, _]) rfl | apply Cells.there | apply Cells.app))) rfl) (.none rfl) rfl rfl rfl (by kernel_rfl) (by kernel_rfl) (by kernel_rfl) noP_ok hD (by repeat (first | exact .refl | exact subL_nil | refine .keep ?_ | refine .drop ?_ | refine subL_add ?_)) ?_
  refine XD_two 0 3 rfl rfl (by kernel_rfl) ?_ ?_
  ·
   refine XO_callV0 (cap := []) (vs := [_, _, _]) rfl rfl fun_27 (w_lset _ 2 3 none 0 0 []) rfl rfl ?_
   refine XO_nil ?_
   refine at_D hD (by repeat (first | exact .refl | exact subL_nil | refine .keep ?_ | refine .drop ?_ | refine subL_add ?_)) ?_
   refine XD_two 2 3 rfl rfl (by kernel_rfl) ?_ ?_
   ·
    refine XO_callV0 (cap := []) (vs := [_, _, _]) rfl rfl fun_27 (w_lset _ 4 5 none 0 0 []) rfl rfl ?_
    refine XO_nil ?_
    refine at_D hD (by repeat (first | exact .refl | exact subL_nil | refine .keep ?_ | refine .drop ?_ | refine subL_add ?_)) ?_
    refine XD_one 3 rfl (by kernel_rfl) ?_
    refine XO_buildSlice (ps := [(0, _), (1, _)]) (m := [encI 2, encI 4]) elt_23 rfl (.cons rfl (.cons rfl (.nil))) rfl (by simp [encI_len, encP_len, encG_len, encC_len]) (by decide) (by decide) rfl rfl (fun b_35 => ?_)
    refine XO_nil ?_
    refine at_D hD (by repeat (first | exact .refl | exact subL_nil | refine .keep ?_ | refine .drop ?_ | refine subL_add ?_)) ?_
    refine XD_one 4 rfl (by kernel_rfl) ?_
    refine XO_callV0 (cap := []) (vs := [_, _, _]) rfl rfl fun_27 (w_lset _ 7 6 _ _ _ [2, 4]) rfl rfl ?_
    refine XO_nil ?_
    refine at_D hD (by repeat (first | exact .refl | exact subL_nil | refine .keep ?_ | refine .drop ?_ | refine subL_add ?_)) ?_
    refine XD_one 5 rfl (by kernel_rfl) ?_
    refine XO_buildSlice (ps := [(0, _), (1, _), (2, _), (3, _)]) (m := [encP (setP 2 3 none 0 0 []), encP sizeP, encP (setP 4 5 none 0 0 []), encP (setP 7 6 (some ⟨b_35, 0, none⟩) 2 2 [2, 4])]) elt_22 rfl (.cons rfl (.cons rfl (.cons rfl (.cons rfl (.nil))))) rfl (by simp [encI_len, encP_len, encG_len, encC_len]) (by decide) (by decide) rfl rfl (fun b_37 => ?_)
    refine XO_nil ?_
    refine at_D hD (by repeat (first | exact .refl | exact subL_nil | refine .keep ?_ | refine .drop ?_ | refine subL_add ?_)) ?_
    refine XD_take 6 rfl (ev_assign rfl) (.none rfl) rfl rfl rfl (by kernel_rfl) (by kernel_rfl) (by kernel_rfl) noP_ok hD (by repeat (first | exact .refl | exact subL_nil | refine .keep ?_ | refine .drop ?_ | refine subL_add ?_)) ?_
    refine XD_done (by kernel_rfl) ?_
    refine at_noP ?_
    exact at_met2 _ _ ⟨b_35, b_37, rfl, rfl, rfl⟩ (.cons rfl (.cons rfl .nil)) (by repeat (first | exact .refl | exact subL_left | refine subL_app ?_ | refine .drop ?_ | refine subL_add ?_))
   ·
    refine XO_buildSlice (ps := [(0, _), (1, _)]) (m := [encI 2, encI 4]) elt_23 rfl (.cons rfl (.cons rfl (.nil))) rfl (by simp [encI_len, encP_len, encG_len, encC_len]) (by decide) (by decide) rfl rfl (fun b_35 => ?_)
    refine XO_nil ?_
    refine at_D hD (by repeat (first | exact .refl | exact subL_nil | refine .keep ?_ | refine .drop ?_ | refine subL_add ?_)) ?_
    refine XD_one 2 rfl (by kernel_rfl) ?_
    refine XO_callV0 (cap := []) (vs := [_, _, _]) rfl rfl fun_27 (w_lset _ 4 5 none 0 0 []) rfl rfl ?_
    refine XO_nil ?_
    refine at_D hD (by repeat (first | exact .refl | exact subL_nil | refine .keep ?_ | refine .drop ?_ | refine subL_add ?_)) ?_
    refine XD_one 4 rfl (by kernel_rfl) ?_
    refine XO_callV0 (cap := []) (vs := [_, _, _]) rfl rfl fun_27 (w_lset _ 7 6 _ _ _ [2, 4]) rfl rfl ?_
    refine XO_nil ?_
    refine at_D hD (by repeat (first | exact .refl | exact subL_nil | refine .keep ?_ | refine .drop ?_ | refine subL_add ?_)) ?_
    refine XD_one 5 rfl (by kernel_rfl) ?_
    refine XO_buildSlice (ps := [(0, _), (1, _), (2, _), (3, _)]) (m := [encP (setP 2 3 none 0 0 []), encP sizeP, encP (setP 4 5 none 0 0 []), encP (setP 7 6 (some ⟨b_35, 0, none⟩) 2 2 [2, 4])]) elt_22 rfl (.cons rfl (.cons rfl (.cons rfl (.cons rfl (.nil))))) rfl (by simp [encI_len, encP_len, encG_len, encC_len]) (by decide) (by decide) rfl rfl (fun b_37 => ?_)
    refine XO_nil ?_
    refine at_D hD (by repeat (first | exact .refl | exact subL_nil | refine .keep ?_ | refine .drop ?_ | refine subL_add ?_)) ?_
    refine XD_take 6 rfl (ev_assign rfl) (.none rfl) rfl rfl rfl (by kernel_rfl) (by kernel_rfl) (by kernel_rfl) noP_ok hD (by repeat (first | exact .refl | exact subL_nil | refine .keep ?_ | refine .drop ?_ | refine subL_add ?_)) ?_
    refine XD_done (by kernel_rfl) ?_
    refine at_noP ?_
    exact at_met2 _ _ ⟨b_35, b_37, rfl, rfl, rfl⟩ (.cons rfl (.cons rfl .nil)) (by repeat (first | exact .refl | exact subL_left | refine subL_app ?_ | refine .drop ?_ | refine subL_add ?_))
  ·
   refine XO_buildSlice (ps := [(0, _), (1, _)]) (m := [encI 2, encI 4]) elt_23 rfl (.cons rfl (.cons rfl (.nil))) rfl (by simp [encI_len, encP_len, encG_len, encC_len]) (by decide) (by decide) rfl rfl (fun b_35 => ?_)
   refine XO_nil ?_
   refine at_D hD (by repeat (first | exact .refl | exact subL_nil | refine .keep ?_ | refine .drop ?_ | refine subL_add ?_)) ?_
   refine XD_one 0 rfl (by kernel_rfl) ?_
   refine XO_callV0 (cap := []) (vs := [_, _, _]) rfl rfl fun_27 (w_lset _ 2 3 none 0 0 []) rfl rfl ?_
   refine XO_nil ?_
   refine at_D hD (by repeat (first | exact .refl | exact subL_nil | refine .keep ?_ | refine .drop ?_ | refine subL_add ?_)) ?_
   refine XD_one 2 rfl (by kernel_rfl) ?_
   refine XO_callV0 (cap := []) (vs := [_, _, _]) rfl rfl fun_27 (w_lset _ 4 5 none 0 0 []) rfl rfl ?_
   refine XO_nil ?_
   refine at_D hD (by repeat (first | exact .refl | exact subL_nil | refine .keep ?_ | refine .drop ?_ | refine subL_add ?_)) ?_
   refine XD_one 4 rfl (by kernel_rfl) ?_
   refine XO_callV0 (cap := []) (vs := [_, _, _]) rfl rfl fun_27 (w_lset _ 7 6 _ _ _ [2, 4]) rfl rfl ?_
   refine XO_nil ?_
   refine at_D hD (by repeat (first | exact .refl | exact subL_nil | refine .keep ?_ | refine .drop ?_ | refine subL_add ?_)) ?_
   refine XD_one 5 rfl (by kernel_rfl) ?_
   refine XO_buildSlice (ps := [(0, _), (1, _), (2, _), (3, _)]) (m := [encP (setP 2 3 none 0 0 []), encP sizeP, encP (setP 4 5 none 0 0 []), encP (setP 7 6 (some ⟨b_35, 0, none⟩) 2 2 [2, 4])]) elt_22 rfl (.cons rfl (.cons rfl (.cons rfl (.cons rfl (.nil))))) rfl (by simp [encI_len, encP_len, encG_len, encC_len]) (by decide) (by decide) rfl rfl (fun b_37 => ?_)
   refine XO_nil ?_
   refine at_D hD (by repeat (first | exact .refl | exact subL_nil | refine .keep ?_ | refine .drop ?_ | refine subL_add ?_)) ?_
   refine XD_take 6 rfl (ev_assign rfl) (.none rfl) rfl rfl rfl (by kernel_rfl) (by kernel_rfl) (by kernel_rfl) noP_ok hD (by repeat (first | exact .refl | exact subL_nil | refine .keep ?_ | refine .drop ?_ | refine subL_add ?_)) ?_
   refine XD_done (by kernel_rfl) ?_
   refine at_noP ?_
   exact at_met2 _ _ ⟨b_35, b_37, rfl, rfl, rfl⟩ (.cons rfl (.cons rfl .nil)) (by repeat (first | exact .refl | exact subL_left | refine subL_app ?_ | refine .drop ?_ | refine subL_add ?_))
 ·
  rintro E I' loc' ⟨b35, b37, rfl, rfl, rfl⟩
  refine X_seq ?_
  refine X_freeze .here (fun I3 hI3 hb3 => ?_)
  have hB := hB.mono hI3
  have hIc := hIc.trans hI3
  have hbP := hb3
  refine X_freeze .here (fun I4 hI4 hb4 => ?_)
  have hB := hB.mono hI4
  have hIc := hIc.trans hI4
  have hbN := hb4
  have hNs : Sl I4 1 encI (some ⟨b35, 0, none⟩) 2 2 [2, 4] := Sl.lit _ rfl encI_len hbN
  have hP : SlP I4 (some ⟨b37, 0, none⟩) 4 4 (stR (some ⟨b35, 0, none⟩)) := stR_sl (hI4 _ _ hbP) hNs
  refine X_region ?_
  refine XO_v0 (ev_move rfl) rfl rfl rfl ?_
  refine XO_v0 (ev_indexSl rfl rfl slt_33 (by assumption) (fun hg => by decide)) rfl rfl rfl ?_
  refine XO_v0 (ev_loadA rfl agt_45 (fun hg => by first | exact Sl.getA (k := 0) (x := g1) hB rfl | (repeat (first | exact Cells.here | exact Cells.s0 (vs := [_, _, _, _, _, _, _, _, _, _, _, _, _, _]) rfl | apply Cells.there | apply Cells.app))) rfl) rfl rfl rfl ?_
  refine XO_alloc zt_45 rfl rfl (fun b_4 => ?_)
  refine XO_storeA rfl rfl szt_45 rfl rfl rfl rfl (by repeat (first | exact Upd.here | apply Upd.there | apply upd_app)) ?_
  refine XO_nil (at_then ?_)
  refine X_seq (X_region ?_)
  refine XO_v0 (ev_fieldAddr rfl fld_45_6) rfl rfl rfl ?_
  refine XO_store rfl rfl szt_3 rfl rfl (by repeat (first | exact Upd.here | apply Upd.there | apply upd_app)) rfl ?_
  refine XO_v0 (ev_fieldAddr rfl fld_45_8) rfl rfl rfl ?_
  refine XO_store rfl rfl szt_3 rfl rfl (by repeat (first | exact Upd.here | apply Upd.there | apply upd_app)) rfl ?_
  refine XO_nil (at_then ?_)
  refine X_seq (X_region ?_)
  refine XO_v0 (ev_loadA rfl agt_45 (fun hg => by first | exact Sl.getA (k := 0) (x := g1) hB rfl | (repeat (first | exact Cells.here | exact Cells.s0 (vs := [_, _, _, _, _, _, _, _, _, _, _, _, _, _]) rfl | apply Cells.there | apply Cells.app))) rfl) rfl rfl rfl ?_
  refine XO_alloc zt_45 rfl rfl (fun b_5 => ?_)
  refine XO_storeA rfl rfl szt_45 rfl rfl rfl rfl (by repeat (first | exact Upd.here | apply Upd.there | apply upd_app)) ?_
  refine XO_nil (at_then ?_)
  refine X_seq (X_region ?_)
  refine XO_v0 (ev_fieldAddr rfl fld_45_6) rfl rfl rfl ?_
  refine XO_store rfl rfl szt_3 rfl rfl (by repeat (first | exact Upd.here | apply Upd.there | apply upd_app)) rfl ?_
  refine XO_nil (at_then ?_)
  refine X_seq (X_region ?_)
  refine XO_v0 (ev_move rfl) rfl rfl rfl ?_
  refine XO_buildSlice (ps := [(0, _)]) (m := [encI 7]) elt_23 rfl (.cons rfl (.nil)) rfl (by simp [encI_len, encP_len, encG_len, encC_len]) (by decide) (by decide) rfl rfl (fun b_47 => ?_)
  refine XO_freeze .here (fun I5 hI5 hb5 => ?_)
  have hB := hB.mono hI5
  have hP := hP.mono hI5
  have hIc := hIc.trans hI5
  have h7 := Sl.lit ([7] : List Int) rfl encI_len (show _ = some (Obj.cells (([7] : List Int).flatMap encI).toArray 3 (0, 0)) from hb5)
  refine XO_callM (cap := []) (vs := [_, _]) rfl rfl fun_8 .nil (s_clo1 hP h7) rfl rfl ?_
  rintro vv6 I6 L6 hI6 ⟨rfl, a6, c6, rfl, hV⟩
  have hB := hB.mono hI6
  have hP := hP.mono hI6
  have h7 := h7.mono hI6
  have hIc := hIc.trans hI6
  refine XO_v0 (ev_move rfl) rfl rfl rfl ?_
  refine XO_v0 (ev_extract rfl rfl) rfl rfl rfl ?_
  refine XO_v0 (ev_extract rfl rfl) rfl rfl rfl ?_
  refine XO_v0 (ev_assign rfl) rfl rfl rfl ?_
  refine XO_v0 (ev_assign rfl) rfl rfl rfl ?_
  refine XO_nil (at_then ?_)
  refine X_seq (X_region ?_)
  refine XO_v0 (ev_move rfl) rfl rfl rfl ?_
  refine XO_buildSlice (ps := [(0, _)]) (m := [encI 2]) elt_23 rfl (.cons rfl (.nil)) rfl (by simp [encI_len, encP_len, encG_len, encC_len]) (by decide) (by decide) rfl rfl (fun b_53 => ?_)
  refine XO_freeze .here (fun I7 hI7 hb7 => ?_)
  have hB := hB.mono hI7
  have hP := hP.mono hI7
  have h7 := h7.mono hI7
  have hV := hV.mono hI7
  have hIc := hIc.trans hI7
  have h2 := Sl.lit ([2] : List Int) rfl encI_len (show _ = some (Obj.cells (([2] : List Int).flatMap encI).toArray 3 (0, 0)) from hb7)
  refine XO_buildSlice (ps := [(0, _)]) (m := [encI 3]) elt_23 rfl (.cons rfl (.nil)) rfl (by simp [encI_len, encP_len, encG_len, encC_len]) (by decide) (by decide) rfl rfl (fun b_54 => ?_)
  refine XO_freeze .here (fun I8 hI8 hb8 => ?_)
  have hB := hB.mono hI8
  have hP := hP.mono hI8
  have h7 := h7.mono hI8
  have hV := hV.mono hI8
  have h2 := h2.mono hI8
  have hIc := hIc.trans hI8
  have h3 := Sl.lit ([3] : List Int) rfl encI_len (show _ = some (Obj.cells (([3] : List Int).flatMap encI).toArray 3 (0, 0)) from hb8)
  refine XO_callM (cap := []) (vs := [_, _, _]) rfl rfl fun_10 .nil (s_mrg hP h2 h3) rfl rfl ?_
  rintro vv9 I9 L9 hI9 ⟨rfl, a9, c9, rfl, hM⟩
  have hB := hB.mono hI9
  have hP := hP.mono hI9
  have h7 := h7.mono hI9
  have hV := hV.mono hI9
  have h2 := h2.mono hI9
  have h3 := h3.mono hI9
  have hIc := hIc.trans hI9
  refine XO_v0 (ev_move rfl) rfl rfl rfl ?_
  refine XO_v0 (ev_extract rfl rfl) rfl rfl rfl ?_
  refine XO_v0 (ev_extract rfl rfl) rfl rfl rfl ?_
  refine XO_v0 (ev_assign rfl) rfl rfl rfl ?_
  refine XO_v0 (ev_assign rfl) rfl rfl rfl ?_
  refine XO_nil (at_then ?_)
  refine X_seq (X_region ?_)
  refine XO_v0 (ev_move rfl) rfl rfl rfl ?_
  refine XO_v0 (ev_move rfl) rfl rfl rfl ?_
  refine XO_v0 (ev_move rfl) rfl rfl rfl ?_
  refine XO_callM (cap := []) (vs := [_, _, _]) rfl rfl fun_15 .nil (s_sg1 hP hB hM) rfl rfl ?_
  rintro vv10 I10 L10 hI10 ⟨rfl, a10, c10, rfl, hG1⟩
  have hB := hB.mono hI10
  have hP := hP.mono hI10
  have h7 := h7.mono hI10
  have hV := hV.mono hI10
  have h2 := h2.mono hI10
  have h3 := h3.mono hI10
  have hM := hM.mono hI10
  have hIc := hIc.trans hI10
  refine XO_v0 (ev_move rfl) rfl rfl rfl ?_
  refine XO_v0 (ev_extract rfl rfl) rfl rfl rfl ?_
  refine XO_v0 (ev_extract rfl rfl) rfl rfl rfl ?_
  refine XO_v0 (ev_assign rfl) rfl rfl rfl ?_
  refine XO_v0 (ev_assign rfl) rfl rfl rfl ?_
  refine XO_nil (at_then ?_)
  refine X_seq (X_region ?_)
  refine XO_v0 (ev_move rfl) rfl rfl rfl ?_
  refine XO_v0 (ev_move rfl) rfl rfl rfl ?_
  refine XO_v0 (ev_move rfl) rfl rfl rfl ?_
  refine XO_callM (cap := []) (vs := [_, _, _]) rfl rfl fun_17 .nil (s_cf1 hP hB hM) rfl rfl ?_
  rintro vv11 I11 L11 hI11 ⟨rfl, cs1, a11, c11, rfl, hC1, hk1⟩
  have hB := hB.mono hI11
  have hP := hP.mono hI11
  have h7 := h7.mono hI11
  have hV := hV.mono hI11
  have h2 := h2.mono hI11
  have h3 := h3.mono hI11
  have hM := hM.mono hI11
  have hG1 := hG1.mono hI11
  have hIc := hIc.trans hI11
  have hz11 := List.map_eq_nil_iff.1 hk1
  subst hz11
  refine XO_v0 (ev_move rfl) rfl rfl rfl ?_
  refine XO_v0 (ev_extract rfl rfl) rfl rfl rfl ?_
  refine XO_v0 (ev_extract rfl rfl) rfl rfl rfl ?_
  refine XO_v0 (ev_assign rfl) rfl rfl rfl ?_
  refine XO_v0 (ev_assign rfl) rfl rfl rfl ?_
  refine XO_nil (at_then ?_)
  refine X_seq (X_region ?_)
  refine XO_v0 (ev_move rfl) rfl rfl rfl ?_
  refine XO_v0 (ev_move rfl) rfl rfl rfl ?_
  refine XO_buildSlice (ps := [(0, _), (1, _), (2, _)]) (m := [encI 2, encI 3, encI 4]) elt_23 rfl (.cons rfl (.cons rfl (.cons rfl (.nil)))) rfl (by simp [encI_len, encP_len, encG_len, encC_len]) (by decide) (by decide) rfl rfl (fun b_75 => ?_)
  refine XO_freeze .here (fun I12 hI12 hb12 => ?_)
  have hB := hB.mono hI12
  have hP := hP.mono hI12
  have h7 := h7.mono hI12
  have hV := hV.mono hI12
  have h2 := h2.mono hI12
  have h3 := h3.mono hI12
  have hM := hM.mono hI12
  have hG1 := hG1.mono hI12
  have hIc := hIc.trans hI12
  have h234 := Sl.lit ([2, 3, 4] : List Int) rfl encI_len (show _ = some (Obj.cells (([2, 3, 4] : List Int).flatMap encI).toArray 3 (0, 0)) from hb12)
  refine XO_callM (cap := []) (vs := [_, _, _]) rfl rfl fun_17 .nil (s_cf2 hP hB h234) rfl rfl ?_
  rintro vv13 I13 L13 hI13 ⟨rfl, cs2, a13, c13, rfl, hC2, hk2⟩
  have hB := hB.mono hI13
  have hP := hP.mono hI13
  have h7 := h7.mono hI13
  have hV := hV.mono hI13
  have h2 := h2.mono hI13
  have h3 := h3.mono hI13
  have hM := hM.mono hI13
  have hG1 := hG1.mono hI13
  have h234 := h234.mono hI13
  have hIc := hIc.trans hI13
  refine XO_v0 (ev_move rfl) rfl rfl rfl ?_
  refine XO_v0 (ev_extract rfl rfl) rfl rfl rfl ?_
  refine XO_v0 (ev_extract rfl rfl) rfl rfl rfl ?_
  refine XO_v0 (ev_assign rfl) rfl rfl rfl ?_
  refine XO_v0 (ev_assign rfl) rfl rfl rfl ?_
  refine XO_nil (at_then ?_)
  refine X_seq (X_region ?_)
  refine XO_v0 (ev_move rfl) rfl rfl rfl ?_
  refine XO_v0 (ev_move rfl) rfl rfl rfl ?_
  refine XO_buildSlice (ps := [(0, _), (1, _), (2, _), (3, _)]) (m := [encI 2, encI 3, encI 4, encI 7]) elt_23 rfl (.cons rfl (.cons rfl (.cons rfl (.cons rfl (.nil))))) rfl (by simp [encI_len, encP_len, encG_len, encC_len]) (by decide) (by decide) rfl rfl (fun b_82 => ?_)
  refine XO_freeze .here (fun I14 hI14 hb14 => ?_)
  have hB := hB.mono hI14
  have hP := hP.mono hI14
  have h7 := h7.mono hI14
  have hV := hV.mono hI14
  have h2 := h2.mono hI14
  have h3 := h3.mono hI14
  have hM := hM.mono hI14
  have hG1 := hG1.mono hI14
  have h234 := h234.mono hI14
  have hC2 := hC2.mono hI14
  have hIc := hIc.trans hI14
  have h2347 := Sl.lit ([2, 3, 4, 7] : List Int) rfl encI_len (show _ = some (Obj.cells (([2, 3, 4, 7] : List Int).flatMap encI).toArray 3 (0, 0)) from hb14)
  refine XO_callM (cap := []) (vs := [_, _, _]) rfl rfl fun_15 .nil (s_sg2 hP hB h2347) rfl rfl ?_
  rintro vv15 I15 L15 hI15 ⟨rfl, a15, c15, rfl, hG2⟩
  have hB := hB.mono hI15
  have hP := hP.mono hI15
  have h7 := h7.mono hI15
  have hV := hV.mono hI15
  have h2 := h2.mono hI15
  have h3 := h3.mono hI15
  have hM := hM.mono hI15
  have hG1 := hG1.mono hI15
  have h234 := h234.mono hI15
  have hC2 := hC2.mono hI15
  have h2347 := h2347.mono hI15
  have hIc := hIc.trans hI15
  refine XO_v0 (ev_move rfl) rfl rfl rfl ?_
  refine XO_v0 (ev_extract rfl rfl) rfl rfl rfl ?_
  refine XO_v0 (ev_extract rfl rfl) rfl rfl rfl ?_
  refine XO_v0 (ev_assign rfl) rfl rfl rfl ?_
  refine XO_v0 (ev_assign rfl) rfl rfl rfl ?_
  refine XO_nil (at_then ?_)
  refine X_seq (X_region ?_)
  refine XO_v0 (ev_move rfl) rfl rfl rfl ?_
  refine XO_v0 (ev_move rfl) rfl rfl rfl ?_
  refine XO_buildSlice (ps := [(0, _), (1, _), (2, _), (3, _)]) (m := [encI 2, encI 3, encI 4, encI 7]) elt_23 rfl (.cons rfl (.cons rfl (.cons rfl (.cons rfl (.nil))))) rfl (by simp [encI_len, encP_len, encG_len, encC_len]) (by decide) (by decide) rfl rfl (fun b_89 => ?_)
  refine XO_freeze .here (fun I16 hI16 hb16 => ?_)
  have hB := hB.mono hI16
  have hP := hP.mono hI16
  have h7 := h7.mono hI16
  have hV := hV.mono hI16
  have h2 := h2.mono hI16
  have h3 := h3.mono hI16
  have hM := hM.mono hI16
  have hG1 := hG1.mono hI16
  have h234 := h234.mono hI16
  have hC2 := hC2.mono hI16
  have h2347 := h2347.mono hI16
  have hG2 := hG2.mono hI16
  have hIc := hIc.trans hI16
  have h2347b := Sl.lit ([2, 3, 4, 7] : List Int) rfl encI_len (show _ = some (Obj.cells (([2, 3, 4, 7] : List Int).flatMap encI).toArray 3 (0, 0)) from hb16)
  refine XO_callM (cap := []) (vs := [_, _, _]) rfl rfl fun_17 .nil (s_cf3 hP hB h2347b) rfl rfl ?_
  rintro vv17 I17 L17 hI17 ⟨rfl, cs3, a17, c17, rfl, hC3, hk3⟩
  have hB := hB.mono hI17
  have hP := hP.mono hI17
  have h7 := h7.mono hI17
  have hV := hV.mono hI17
  have h2 := h2.mono hI17
  have h3 := h3.mono hI17
  have hM := hM.mono hI17
  have hG1 := hG1.mono hI17
  have h234 := h234.mono hI17
  have hC2 := hC2.mono hI17
  have h2347 := h2347.mono hI17
  have hG2 := hG2.mono hI17
  have h2347b := h2347b.mono hI17
  have hIc := hIc.trans hI17
  have hz17 := List.map_eq_nil_iff.1 hk3
  subst hz17
  refine XO_v0 (ev_move rfl) rfl rfl rfl ?_
  refine XO_v0 (ev_extract rfl rfl) rfl rfl rfl ?_
  refine XO_v0 (ev_extract rfl rfl) rfl rfl rfl ?_
  refine XO_v0 (ev_assign rfl) rfl rfl rfl ?_
  refine XO_v0 (ev_assign rfl) rfl rfl rfl ?_
  refine XO_nil (at_then ?_)
  refine X_seq (X_region ?_)
  refine XO_buildSlice (ps := [(0, _)]) (m := [encI 1]) elt_23 rfl (.cons rfl (.nil)) rfl (by simp [encI_len, encP_len, encG_len, encC_len]) (by decide) (by decide) rfl rfl (fun b_94 => ?_)
  refine XO_freeze .here (fun I18 hI18 hb18 => ?_)
  have hB := hB.mono hI18
  have hP := hP.mono hI18
  have h7 := h7.mono hI18
  have hV := hV.mono hI18
  have h2 := h2.mono hI18
  have h3 := h3.mono hI18
  have hM := hM.mono hI18
  have hG1 := hG1.mono hI18
  have h234 := h234.mono hI18
  have hC2 := hC2.mono hI18
  have h2347 := h2347.mono hI18
  have hG2 := hG2.mono hI18
  have h2347b := h2347b.mono hI18
  have hIc := hIc.trans hI18
  have h1 := Sl.lit ([1] : List Int) rfl encI_len (show _ = some (Obj.cells (([1] : List Int).flatMap encI).toArray 3 (0, 0)) from hb18)
  refine XO_callM (cap := []) (vs := [_, _]) rfl rfl fun_8 .nil (s_clo2 SlP.nil h1) rfl rfl ?_
  rintro vv19 I19 L19 hI19 ⟨rfl, a19, c19, rfl, hV2⟩
  have hB := hB.mono hI19
  have hP := hP.mono hI19
  have h7 := h7.mono hI19
  have hV := hV.mono hI19
  have h2 := h2.mono hI19
  have h3 := h3.mono hI19
  have hM := hM.mono hI19
  have hG1 := hG1.mono hI19
  have h234 := h234.mono hI19
  have hC2 := hC2.mono hI19
  have h2347 := h2347.mono hI19
  have hG2 := hG2.mono hI19
  have h2347b := h2347b.mono hI19
  have h1 := h1.mono hI19
  have hIc := hIc.trans hI19
  refine XO_v0 (ev_move rfl) rfl rfl rfl ?_
  refine XO_v0 (ev_extract rfl rfl) rfl rfl rfl ?_
  refine XO_v0 (ev_extract rfl rfl) rfl rfl rfl ?_
  refine XO_v0 (ev_assign rfl) rfl rfl rfl ?_
  refine XO_v0 (ev_assign rfl) rfl rfl rfl ?_
  refine XO_nil (at_then ?_)
  refine X_seq (X_region ?_)
  refine XO_v0 (ev_move rfl) rfl rfl rfl ?_
  refine XO_v0 (ev_move rfl) rfl rfl rfl ?_
  refine XO_buildSlice (ps := [(0, _)]) (m := [encI 7]) elt_23 rfl (.cons rfl (.nil)) rfl (by simp [encI_len, encP_len, encG_len, encC_len]) (by decide) (by decide) rfl rfl (fun b_101 => ?_)
  refine XO_freeze .here (fun I20 hI20 hb20 => ?_)
  have hB := hB.mono hI20
  have hP := hP.mono hI20
  have h7 := h7.mono hI20
  have hV := hV.mono hI20
  have h2 := h2.mono hI20
  have h3 := h3.mono hI20
  have hM := hM.mono hI20
  have hG1 := hG1.mono hI20
  have h234 := h234.mono hI20
  have hC2 := hC2.mono hI20
  have h2347 := h2347.mono hI20
  have hG2 := hG2.mono hI20
  have h2347b := h2347b.mono hI20
  have h1 := h1.mono hI20
  have hIc := hIc.trans hI20
  have h7b := Sl.lit ([7] : List Int) rfl encI_len (show _ = some (Obj.cells (([7] : List Int).flatMap encI).toArray 3 (0, 0)) from hb20)
  refine XO_callM (cap := []) (vs := [_, _, _]) rfl rfl fun_15 .nil (s_sg3 hP hB h7b) rfl rfl ?_
  rintro vv21 I21 L21 hI21 ⟨rfl, a21, c21, rfl, hG3⟩
  have hB := hB.mono hI21
  have hP := hP.mono hI21
  have h7 := h7.mono hI21
  have hV := hV.mono hI21
  have h2 := h2.mono hI21
  have h3 := h3.mono hI21
  have hM := hM.mono hI21
  have hG1 := hG1.mono hI21
  have h234 := h234.mono hI21
  have hC2 := hC2.mono hI21
  have h2347 := h2347.mono hI21
  have hG2 := hG2.mono hI21
  have h2347b := h2347b.mono hI21
  have h1 := h1.mono hI21
  have h7b := h7b.mono hI21
  have hIc := hIc.trans hI21
  refine XO_v0 (ev_move rfl) rfl rfl rfl ?_
  refine XO_v0 (ev_extract rfl rfl) rfl rfl rfl ?_
  refine XO_v0 (ev_extract rfl rfl) rfl rfl rfl ?_
  refine XO_v0 (ev_assign rfl) rfl rfl rfl ?_
  refine XO_v0 (ev_assign rfl) rfl rfl rfl ?_
  refine XO_nil (at_then ?_)
  refine X_seq (X_region ?_)
  refine XO_v0 (ev_move rfl) rfl rfl rfl ?_
  refine XO_callM (cap := []) (vs := [_, _, _]) rfl rfl fun_15 .nil (s_sg4 SlP.nil hB .nil) rfl rfl ?_
  rintro vv22 I22 L22 hI22 ⟨rfl, a22, c22, rfl, hG4⟩
  have hB := hB.mono hI22
  have hP := hP.mono hI22
  have h7 := h7.mono hI22
  have hV := hV.mono hI22
  have h2 := h2.mono hI22
  have h3 := h3.mono hI22
  have hM := hM.mono hI22
  have hG1 := hG1.mono hI22
  have h234 := h234.mono hI22
  have hC2 := hC2.mono hI22
  have h2347 := h2347.mono hI22
  have hG2 := hG2.mono hI22
  have h2347b := h2347b.mono hI22
  have h1 := h1.mono hI22
  have h7b := h7b.mono hI22
  have hIc := hIc.trans hI22
  refine XO_v0 (ev_move rfl) rfl rfl rfl ?_
  refine XO_v0 (ev_extract rfl rfl) rfl rfl rfl ?_
  refine XO_v0 (ev_extract rfl rfl) rfl rfl rfl ?_
  refine XO_v0 (ev_assign rfl) rfl rfl rfl ?_
  refine XO_v0 (ev_assign rfl) rfl rfl rfl ?_
  refine XO_nil (at_then ?_)
  refine X_seq ?_
  refine X_seq (X_region ?_)
  refine XO_v0 (ev_move rfl) rfl rfl rfl ?_
  refine XO_v0 (ev_cmp rfl rfl rfl) rfl rfl rfl ?_
  refine XO_v0 (ev_move rfl) rfl rfl rfl ?_
  refine XO_want (dj := 112) rfl rfl rfl ?_
  refine XO_v0 (ev_move rfl) rfl rfl rfl ?_
  refine XO_want (dj := 112) rfl rfl rfl ?_
  refine XO_v0 (ev_cmp rfl rfl rfl) rfl rfl rfl ?_
  refine XO_v0 (ev_pickb rfl rfl rfl) rfl rfl rfl ?_
  refine XO_v0 (ev_move rfl) rfl rfl rfl ?_
  refine XO_want (dj := 116) rfl rfl rfl ?_
  refine XO_v0 (ev_move rfl) rfl rfl rfl ?_
  refine XO_want (dj := 116) rfl rfl rfl ?_
  refine XO_v0 (ev_cmp rfl rfl rfl) rfl rfl rfl ?_
  refine XO_v0 (ev_pickb rfl rfl rfl) rfl rfl rfl ?_
  refine XO_v0 (ev_move rfl) rfl rfl rfl ?_
  refine XO_want (dj := 120) rfl rfl rfl ?_
  refine XO_v0 (ev_move rfl) rfl rfl rfl ?_
  refine XO_want (dj := 120) rfl rfl rfl ?_
  refine XO_v0 (ev_cmp rfl rfl rfl) rfl rfl rfl ?_
  refine XO_v0 (ev_pickb rfl rfl rfl) rfl rfl rfl ?_
  refine XO_v0 (ev_move rfl) rfl rfl rfl ?_
  refine XO_want (dj := 124) rfl rfl rfl ?_
  refine XO_v0 (ev_move rfl) rfl rfl rfl ?_
  refine XO_want (dj := 124) rfl rfl rfl ?_
  refine XO_v0 (ev_cmp rfl rfl rfl) rfl rfl rfl ?_
  refine XO_v0 (ev_pickb rfl rfl rfl) rfl rfl rfl ?_
  refine XO_v0 (ev_move rfl) rfl rfl rfl ?_
  refine XO_want (dj := 128) rfl rfl rfl ?_
  refine XO_v0 (ev_move rfl) rfl rfl rfl ?_
  refine XO_want (dj := 128) rfl rfl rfl ?_
  refine XO_v0 (ev_cmp rfl rfl rfl) rfl rfl rfl ?_
  refine XO_v0 (ev_pickb rfl rfl rfl) rfl rfl rfl ?_
  refine XO_v0 (ev_move rfl) rfl rfl rfl ?_
  refine XO_want (dj := 132) rfl rfl rfl ?_
  refine XO_v0 (ev_move rfl) rfl rfl rfl ?_
  refine XO_want (dj := 132) rfl rfl rfl ?_
  refine XO_v0 (ev_cmp rfl rfl rfl) rfl rfl rfl ?_
  refine XO_v0 (ev_pickb rfl rfl rfl) rfl rfl rfl ?_
  refine XO_v0 (ev_move rfl) rfl rfl rfl ?_
  refine XO_want (dj := 136) rfl rfl rfl ?_
  refine XO_v0 (ev_move rfl) rfl rfl rfl ?_
  refine XO_want (dj := 136) rfl rfl rfl ?_
  refine XO_v0 (ev_cmp rfl rfl rfl) rfl rfl rfl ?_
  refine XO_v0 (ev_pickb rfl rfl rfl) rfl rfl rfl ?_
  refine XO_v0 (ev_move rfl) rfl rfl rfl ?_
  refine XO_want (dj := 140) rfl rfl rfl ?_
  refine XO_v0 (ev_move rfl) rfl rfl rfl ?_
  refine XO_want (dj := 140) rfl rfl rfl ?_
  refine XO_v0 (ev_cmp rfl rfl rfl) rfl rfl rfl ?_
  refine XO_v0 (ev_pickb rfl rfl rfl) rfl rfl rfl ?_
  refine XO_v0 (ev_move rfl) rfl rfl rfl ?_
  refine XO_want (dj := 144) rfl rfl rfl ?_
  refine XO_v0 (ev_move rfl) rfl rfl rfl ?_
  refine XO_want (dj := 144) rfl rfl rfl ?_
  refine XO_v0 (ev_cmp rfl rfl rfl) rfl rfl rfl ?_
  refine XO_v0 (ev_pickb rfl rfl rfl) rfl rfl rfl ?_
  refine XO_nil (at_then ?_)
  refine X_cond rfl (fun hc147 => ?_) (fun hc147 => ?_)
  ·
   exact absurd hc147 (by decide)
  ·
   refine X_skip ?_
   refine at_then ?_
   refine X_seq ?_
   refine X_seq (X_region ?_)
   refine XO_callV0 (cap := []) (vs := [_]) rfl rfl fun_12 (s_chk0 SlP.nil) rfl rfl ?_
   refine XO_v0 (ev_cmp rfl rfl rfl) rfl rfl rfl ?_
   refine XO_v0 (ev_move rfl) rfl rfl rfl ?_
   refine XO_want (dj := 150) rfl rfl rfl ?_
   refine XO_v0 (ev_move rfl) rfl rfl rfl ?_
   refine XO_want (dj := 150) rfl rfl rfl ?_
   refine XO_callV0 (cap := []) (vs := [_]) rfl rfl fun_12 (s_chk1 hP) rfl rfl ?_
   refine XO_want (dj := 150) rfl rfl rfl ?_
   refine XO_v0 (ev_cmp rfl rfl rfl) rfl rfl rfl ?_
   refine XO_v0 (ev_pickb rfl rfl rfl) rfl rfl rfl ?_
   refine XO_v0 (ev_move rfl) rfl rfl rfl ?_
   refine XO_want (dj := 155) rfl rfl rfl ?_
   refine XO_buildSlice (ps := [(0, _)]) (m := [encI 1]) elt_23 rfl (.cons rfl (.nil)) rfl (by simp [encI_len, encP_len, encG_len, encC_len]) (by decide) (by decide) rfl rfl (fun b_156 => ?_)
   refine XO_freeze .here (fun I23 hI23 hb23 => ?_)
   have hB := hB.mono hI23
   have hP := hP.mono hI23
   have h7 := h7.mono hI23
   have hV := hV.mono hI23
   have h2 := h2.mono hI23
   have h3 := h3.mono hI23
   have hM := hM.mono hI23
   have hG1 := hG1.mono hI23
   have h234 := h234.mono hI23
   have hC2 := hC2.mono hI23
   have h2347 := h2347.mono hI23
   have hG2 := hG2.mono hI23
   have h2347b := h2347b.mono hI23
   have h1 := h1.mono hI23
   have h7b := h7b.mono hI23
   have hG4 := hG4.mono hI23
   have hIc := hIc.trans hI23
   have h1b := Sl.lit ([1] : List Int) rfl encI_len (show _ = some (Obj.cells (([1] : List Int).flatMap encI).toArray 3 (0, 0)) from hb23)
   refine XO_want (dj := 155) rfl rfl rfl ?_
   refine XO_callV0 (cap := []) (vs := [_, _, _]) rfl rfl fun_27 (w_lset _ 2 3 _ _ _ [1]) rfl rfl ?_
   refine XO_want (dj := 155) rfl rfl rfl ?_
   refine XO_buildSlice (ps := [(0, _)]) (m := [encP (setP 2 3 (some ⟨b_156, 0, none⟩) 1 1 [1])]) elt_22 rfl (.cons rfl (.nil)) rfl (by simp [encI_len, encP_len, encG_len, encC_len]) (by decide) (by decide) rfl rfl (fun b_158 => ?_)
   refine XO_freeze .here (fun I24 hI24 hb24 => ?_)
   have hB := hB.mono hI24
   have hP := hP.mono hI24
   have h7 := h7.mono hI24
   have hV := hV.mono hI24
   have h2 := h2.mono hI24
   have h3 := h3.mono hI24
   have hM := hM.mono hI24
   have hG1 := hG1.mono hI24
   have h234 := h234.mono hI24
   have hC2 := hC2.mono hI24
   have h2347 := h2347.mono hI24
   have hG2 := hG2.mono hI24
   have h2347b := h2347b.mono hI24
   have h1 := h1.mono hI24
   have h7b := h7b.mono hI24
   have hG4 := hG4.mono hI24
   have h1b := h1b.mono hI24
   have hIc := hIc.trans hI24
   have hPb : SlP I24 _ 1 1 (stB (some ⟨b_156, 0, none⟩)) := stB_sl hb24 h1b
   refine XO_want (dj := 155) rfl rfl rfl ?_
   refine XO_callV0 (cap := []) (vs := [_]) rfl rfl fun_12 (s_chk2 hPb) rfl rfl ?_
   refine XO_want (dj := 155) rfl rfl rfl ?_
   refine XO_v0 (ev_cmp rfl rfl rfl) rfl rfl rfl ?_
   refine XO_v0 (ev_pickb rfl rfl rfl) rfl rfl rfl ?_
   refine XO_nil (at_then ?_)
   refine X_cond rfl (fun hc161 => ?_) (fun hc161 => ?_)
   ·
    exact absurd hc161 (by decide)
   ·
    refine X_skip ?_
    refine at_then ?_
    refine X_seq ?_
    refine X_seq (X_region ?_)
    refine XO_v0 (ev_move rfl) rfl rfl rfl ?_
    refine XO_buildSlice (ps := [(0, _), (1, _), (2, _)]) (m := [encI 2, encI 4, encI 7]) elt_23 rfl (.cons rfl (.cons rfl (.cons rfl (.nil)))) rfl (by simp [encI_len, encP_len, encG_len, encC_len]) (by decide) (by decide) rfl rfl (fun b_163 => ?_)
    refine XO_freeze .here (fun I25 hI25 hb25 => ?_)
    have hB := hB.mono hI25
    have hP := hP.mono hI25
    have h7 := h7.mono hI25
    have hV := hV.mono hI25
    have h2 := h2.mono hI25
    have h3 := h3.mono hI25
    have hM := hM.mono hI25
    have hG1 := hG1.mono hI25
    have h234 := h234.mono hI25
    have hC2 := hC2.mono hI25
    have h2347 := h2347.mono hI25
    have hG2 := hG2.mono hI25
    have h2347b := h2347b.mono hI25
    have h1 := h1.mono hI25
    have h7b := h7b.mono hI25
    have hG4 := hG4.mono hI25
    have h1b := h1b.mono hI25
    have hPb := hPb.mono hI25
    have hIc := hIc.trans hI25
    have h247 := Sl.lit ([2, 4, 7] : List Int) rfl encI_len (show _ = some (Obj.cells (([2, 4, 7] : List Int).flatMap encI).toArray 3 (0, 0)) from hb25)
    refine XO_callV0 (cap := []) (vs := [_, _]) rfl rfl fun_14 (s_sameI hV h247 (by decide) rfl) rfl rfl ?_
    refine XO_v0 (ev_not rfl) rfl rfl rfl ?_
    refine XO_v0 (ev_move rfl) rfl rfl rfl ?_
    refine XO_want (dj := 166) rfl rfl rfl ?_
    refine XO_v0 (ev_move rfl) rfl rfl rfl ?_
    refine XO_want (dj := 166) rfl rfl rfl ?_
    refine XO_buildSlice (ps := [(0, _), (1, _)]) (m := [encI 2, encI 3]) elt_23 rfl (.cons rfl (.cons rfl (.nil))) rfl (by simp [encI_len, encP_len, encG_len, encC_len]) (by decide) (by decide) rfl rfl (fun b_168 => ?_)
    refine XO_freeze .here (fun I26 hI26 hb26 => ?_)
    have hB := hB.mono hI26
    have hP := hP.mono hI26
    have h7 := h7.mono hI26
    have hV := hV.mono hI26
    have h2 := h2.mono hI26
    have h3 := h3.mono hI26
    have hM := hM.mono hI26
    have hG1 := hG1.mono hI26
    have h234 := h234.mono hI26
    have hC2 := hC2.mono hI26
    have h2347 := h2347.mono hI26
    have hG2 := hG2.mono hI26
    have h2347b := h2347b.mono hI26
    have h1 := h1.mono hI26
    have h7b := h7b.mono hI26
    have hG4 := hG4.mono hI26
    have h1b := h1b.mono hI26
    have hPb := hPb.mono hI26
    have h247 := h247.mono hI26
    have hIc := hIc.trans hI26
    have h23 := Sl.lit ([2, 3] : List Int) rfl encI_len (show _ = some (Obj.cells (([2, 3] : List Int).flatMap encI).toArray 3 (0, 0)) from hb26)
    refine XO_want (dj := 166) rfl rfl rfl ?_
    refine XO_callV0 (cap := []) (vs := [_, _]) rfl rfl fun_14 (s_sameI hM h23 (by decide) rfl) rfl rfl ?_
    refine XO_want (dj := 166) rfl rfl rfl ?_
    refine XO_v0 (ev_not rfl) rfl rfl rfl ?_
    refine XO_v0 (ev_pickb rfl rfl rfl) rfl rfl rfl ?_
    refine XO_v0 (ev_move rfl) rfl rfl rfl ?_
    refine XO_want (dj := 172) rfl rfl rfl ?_
    refine XO_v0 (ev_move rfl) rfl rfl rfl ?_
    refine XO_want (dj := 172) rfl rfl rfl ?_
    refine XO_v0 (ev_lenS rfl slt_36) rfl rfl rfl ?_
    refine XO_want (dj := 172) rfl rfl rfl ?_
    refine XO_v0 (ev_cmp rfl rfl rfl) rfl rfl rfl ?_
    refine XO_v0 (ev_pickb rfl rfl rfl) rfl rfl rfl ?_
    refine XO_v0 (ev_move rfl) rfl rfl rfl ?_
    refine XO_want (dj := 177) rfl rfl rfl ?_
    refine XO_v0 (ev_move rfl) rfl rfl rfl ?_
    refine XO_want (dj := 177) rfl rfl rfl ?_
    refine XO_v0 (ev_lenS rfl slt_36) rfl rfl rfl ?_
    refine XO_want (dj := 177) rfl rfl rfl ?_
    refine XO_v0 (ev_cmp rfl rfl rfl) rfl rfl rfl ?_
    refine XO_v0 (ev_pickb rfl rfl rfl) rfl rfl rfl ?_
    refine XO_v0 (ev_move rfl) rfl rfl rfl ?_
    refine XO_want (dj := 182) rfl rfl rfl ?_
    refine XO_v0 (ev_move rfl) rfl rfl rfl ?_
    refine XO_want (dj := 182) rfl rfl rfl ?_
    refine XO_buildSlice (ps := [(0, _), (1, _)]) (m := [encI 2, encI 4]) elt_23 rfl (.cons rfl (.cons rfl (.nil))) rfl (by simp [encI_len, encP_len, encG_len, encC_len]) (by decide) (by decide) rfl rfl (fun b_184 => ?_)
    refine XO_freeze .here (fun I27 hI27 hb27 => ?_)
    have hB := hB.mono hI27
    have hP := hP.mono hI27
    have h7 := h7.mono hI27
    have hV := hV.mono hI27
    have h2 := h2.mono hI27
    have h3 := h3.mono hI27
    have hM := hM.mono hI27
    have hG1 := hG1.mono hI27
    have h234 := h234.mono hI27
    have hC2 := hC2.mono hI27
    have h2347 := h2347.mono hI27
    have hG2 := hG2.mono hI27
    have h2347b := h2347b.mono hI27
    have h1 := h1.mono hI27
    have h7b := h7b.mono hI27
    have hG4 := hG4.mono hI27
    have h1b := h1b.mono hI27
    have hPb := hPb.mono hI27
    have h247 := h247.mono hI27
    have h23 := h23.mono hI27
    have hIc := hIc.trans hI27
    have h24 := Sl.lit ([2, 4] : List Int) rfl encI_len (show _ = some (Obj.cells (([2, 4] : List Int).flatMap encI).toArray 3 (0, 0)) from hb27)
    refine XO_want (dj := 182) rfl rfl rfl ?_
    refine XO_v0 (ev_buildL (ps := [(0, _), (1, _), (2, _)]) [_, _, _] plt_60 rfl rfl) rfl rfl rfl ?_
    refine XO_want (dj := 182) rfl rfl rfl ?_
    refine XO_buildSlice (ps := [(0, _)]) (m := [encC ⟨1, 5, some ⟨b_184, 0, none⟩, 2, 2, [2, 4]⟩]) elt_36 rfl (.cons rfl (.nil)) rfl (by simp [encI_len, encP_len, encG_len, encC_len]) (by decide) (by decide) rfl rfl (fun b_186 => ?_)
    refine XO_freeze .here (fun I28 hI28 hb28 => ?_)
    have hB := hB.mono hI28
    have hP := hP.mono hI28
    have h7 := h7.mono hI28
    have hV := hV.mono hI28
    have h2 := h2.mono hI28
    have h3 := h3.mono hI28
    have hM := hM.mono hI28
    have hG1 := hG1.mono hI28
    have h234 := h234.mono hI28
    have hC2 := hC2.mono hI28
    have h2347 := h2347.mono hI28
    have hG2 := hG2.mono hI28
    have h2347b := h2347b.mono hI28
    have h1 := h1.mono hI28
    have h7b := h7b.mono hI28
    have hG4 := hG4.mono hI28
    have h1b := h1b.mono hI28
    have hPb := hPb.mono hI28
    have h247 := h247.mono hI28
    have h23 := h23.mono hI28
    have h24 := h24.mono hI28
    have hIc := hIc.trans hI28
    have hD1 := conf_one hb28 h24
    refine XO_want (dj := 182) rfl rfl rfl ?_
    refine XO_callV0 (cap := []) (vs := [_, _]) rfl rfl fun_20 (s_sameC hC2 hk2 hD1) rfl rfl ?_
    refine XO_want (dj := 182) rfl rfl rfl ?_
    refine XO_v0 (ev_not rfl) rfl rfl rfl ?_
    refine XO_v0 (ev_pickb rfl rfl rfl) rfl rfl rfl ?_
    refine XO_nil (at_then ?_)
    refine X_cond rfl (fun hc189 => ?_) (fun hc189 => ?_)
    ·
     exact absurd hc189 (by decide)
    ·
     refine X_skip ?_
     refine at_then ?_
     refine X_seq (X_region ?_)
     refine XO_v0 (ev_move rfl) rfl rfl rfl ?_
     refine XO_v0 (ev_loadA rfl agt_45 (fun hg => by first | exact Sl.getA (k := 0) (x := g1) hB rfl | (repeat (first | exact Cells.here | exact Cells.s0 (vs := [_, _, _, _, _, _, _, _, _, _, _, _, _, _]) rfl | apply Cells.there | apply Cells.app))) rfl) rfl rfl rfl ?_
     refine XO_buildSlice (ps := [(0, _)]) (m := [encG g2]) elt_33 rfl (.cons rfl (.nil)) rfl (by simp [encI_len, encP_len, encG_len, encC_len]) (by decide) (by decide) rfl rfl (fun b_192 => ?_)
     refine XO_freeze .here (fun I29 hI29 hb29 => ?_)
     have hB := hB.mono hI29
     have hP := hP.mono hI29
     have h7 := h7.mono hI29
     have hV := hV.mono hI29
     have h2 := h2.mono hI29
     have h3 := h3.mono hI29
     have hM := hM.mono hI29
     have hG1 := hG1.mono hI29
     have h234 := h234.mono hI29
     have hC2 := hC2.mono hI29
     have h2347 := h2347.mono hI29
     have hG2 := hG2.mono hI29
     have h2347b := h2347b.mono hI29
     have h1 := h1.mono hI29
     have h7b := h7b.mono hI29
     have hG4 := hG4.mono hI29
     have h1b := h1b.mono hI29
     have hPb := hPb.mono hI29
     have h247 := h247.mono hI29
     have h23 := h23.mono hI29
     have h24 := h24.mono hI29
     have hD1 := hD1.mono hI29
     have hIc := hIc.trans hI29
     have hg2 := Sl.lit ([g2] : List Sg) rfl encG_len (show _ = some (Obj.cells (([g2] : List Sg).flatMap encG).toArray 45 (0, 0)) from hb29)
     refine XO_callV0 (cap := []) (vs := [_, _]) rfl rfl fun_19 (s_sameG hG1 hg2 (by decide) rfl) rfl rfl ?_
     refine XO_v0 (ev_move rfl) rfl rfl rfl ?_
     refine XO_want (dj := 194) rfl rfl rfl ?_
     refine XO_v0 (ev_move rfl) rfl rfl rfl ?_
     refine XO_want (dj := 194) rfl rfl rfl ?_
     refine XO_v0 (ev_loadA rfl agt_45 (fun hg => by first | exact Sl.getA (k := 0) (x := g1) hB rfl | (repeat (first | exact Cells.here | exact Cells.s0 (vs := [_, _, _, _, _, _, _, _, _, _, _, _, _, _]) rfl | apply Cells.there | apply Cells.app))) rfl) rfl rfl rfl ?_
     refine XO_want (dj := 194) rfl rfl rfl ?_
     refine XO_buildSlice (ps := [(0, _)]) (m := [encG g3]) elt_33 rfl (.cons rfl (.nil)) rfl (by simp [encI_len, encP_len, encG_len, encC_len]) (by decide) (by decide) rfl rfl (fun b_197 => ?_)
     refine XO_freeze .here (fun I30 hI30 hb30 => ?_)
     have hB := hB.mono hI30
     have hP := hP.mono hI30
     have h7 := h7.mono hI30
     have hV := hV.mono hI30
     have h2 := h2.mono hI30
     have h3 := h3.mono hI30
     have hM := hM.mono hI30
     have hG1 := hG1.mono hI30
     have h234 := h234.mono hI30
     have hC2 := hC2.mono hI30
     have h2347 := h2347.mono hI30
     have hG2 := hG2.mono hI30
     have h2347b := h2347b.mono hI30
     have h1 := h1.mono hI30
     have h7b := h7b.mono hI30
     have hG4 := hG4.mono hI30
     have h1b := h1b.mono hI30
     have hPb := hPb.mono hI30
     have h247 := h247.mono hI30
     have h23 := h23.mono hI30
     have h24 := h24.mono hI30
     have hD1 := hD1.mono hI30
     have hg2 := hg2.mono hI30
     have hIc := hIc.trans hI30
     have hg3 := Sl.lit ([g3] : List Sg) rfl encG_len (show _ = some (Obj.cells (([g3] : List Sg).flatMap encG).toArray 45 (0, 0)) from hb30)
     refine XO_want (dj := 194) rfl rfl rfl ?_
     refine XO_callV0 (cap := []) (vs := [_, _]) rfl rfl fun_19 (s_sameG hG2 hg3 (by decide) rfl) rfl rfl ?_
     refine XO_v0 (ev_pickb rfl rfl rfl) rfl rfl rfl ?_
     refine XO_v0 (ev_move rfl) rfl rfl rfl ?_
     refine XO_want (dj := 200) rfl rfl rfl ?_
     refine XO_v0 (ev_move rfl) rfl rfl rfl ?_
     refine XO_want (dj := 200) rfl rfl rfl ?_
     refine XO_v0 (ev_move rfl) rfl rfl rfl ?_
     refine XO_want (dj := 200) rfl rfl rfl ?_
     refine XO_callV0 (cap := []) (vs := [_, _]) rfl rfl fun_19 (s_sameG hG4 hB (by decide) rfl) rfl rfl ?_
     refine XO_v0 (ev_pickb rfl rfl rfl) rfl rfl rfl ?_
     refine XO_v0 (ev_assign rfl) rfl rfl rfl ?_
     refine XO_nil (at_then ?_)
     refine X_ret ?_
     first
     | exact at_ret1 rfl rfl (fun w hw => ⟨by rfl, (hw.mono hIc).drop⟩)
end Go.Proofs.YtccomeanpppfmaaGreat
end
section
namespace Go.Proofs.YtccomeanpppfmaaGreat
open Go Go.Kn Go.Proofs
section
variable {ps : List Pt} {a b c : List Int}
end
section
variable {ps : List Pt} {a b : List Int} {k : Nat} {x : Int}
end
/-! ### A version that is merged -/
section
variable {ps : List Pt} {base : List Sg} {a m : List Int}
theorem pat_parts (h : patE ps base m = 0) : chkR ps = 0 ∧ chkG base = 0 ∧ Ver ps m ∧ fitB base (verL ps m) = true := by
  unfold patE at h
  split at h
  · contradiction
  · split at h
    · contradiction
    · split at h
      · cases h
      · split at h
        · rename_i h1 h2 h3 h4
          rw [Bool.and_eq_true] at h4
          have hk : chkR ps = 0 := by omega
          exact ⟨hk, by omega, (verB_iff (chkR_lst hk)).1 h4.1, h4.2⟩
        · cases h
end
end Go.Proofs.YtccomeanpppfmaaGreat
end
section
namespace Go.Proofs.YtccomeanpppfmaaGreat
open Go Go.Kn Go.Proofs
theorem cfl_ids {ps : List Pt} {bs : List Sg} {v : List Int} {z : Ck} (h : z ∈ cflF ps bs v) : z.2.2.length ≤ ps.length := by
  unfold cflF at h
  by_cases he : sgnE ps bs v = 0
  · rw [resF_ok he] at h
    obtain ⟨s, f, ids⟩ := z
    have hv : (verL ps v).length ≤ ps.length := List.length_filter_le ..
    rcases (cf_mem h).2 with ⟨_, _, rfl⟩ | ⟨_, _, _, rfl⟩
    · rw [List.length_map]; exact Nat.le_trans (List.length_filter_le ..) hv
    · rw [List.length_map]
      refine Nat.le_trans (List.length_filter_le ..) ?_
      exact Nat.le_trans (List.length_filter_le ..) hv
  · rw [resF_bad he] at h; cases h
theorem flatMap_few {α β : Type} {f : α → List β} {m : Nat} (h : ∀ a, (f a).length ≤ m) : ∀ l : List α, (l.flatMap f).length ≤ m * l.length
  | [] => by simp
  | a :: l => by
    rw [List.flatMap_cons, List.length_append, List.length_cons, Nat.mul_succ]
    have h1 := h a
    have h2 := flatMap_few h l
    omega
theorem cfl_few {ps : List Pt} {bs : List Sg} {v : List Int} : (cflF ps bs v).length ≤ 10 * (bs.length + ps.length) := by
  unfold cflF
  by_cases he : sgnE ps bs v = 0
  · rw [resF_ok he]
    unfold cfL
    have h1 : ∀ x : Sg, (cfS (onF ps) (verL ps v) x.id).length ≤ 10 := fun x => by
      unfold cfS
      rw [List.length_append]
      have h2 : (cf0 (onF ps) (verL ps v) x.id).length ≤ 1 := by unfold cf0; split <;> simp
      have h3 := flatMap_few (f := fun k : Nat => cfK (onF ps) (verL ps v) x.id ((k : Int) + 1)) (m := 1) (fun k => by unfold cfK; split <;> simp) (List.range 9)
      rw [List.length_range] at h3
      omega
    refine Nat.le_trans (flatMap_few h1 _) ?_
    have h4 := all_len (l := verL ps v) (base := bs)
    have h5 : (verL ps v).length ≤ ps.length := List.length_filter_le ..
    omega
  · rw [resF_bad he]; simp
theorem cs_few {ps : List Pt} {bs : List Sg} {v : List Int} {cs : List Cf} (h : cs.map Cf.key = cflF ps bs v) : cs.length ≤ 10 * (bs.length + ps.length) := by
  have := cfl_few (ps := ps) (bs := bs) (v := v)
  rwa [← h, List.length_map] at this
theorem cs_ids {I : HMap} {ps : List Pt} {bs : List Sg} {v : List Int} {av : Option Addr} {n c : Nat} {cs : List Cf} (hC : SlC I av n c cs) (h : cs.map Cf.key = cflF ps bs v) : ∀ z ∈ cs, z.n ≤ ps.length := fun z hz => by
  have h1 : z.key ∈ cflF ps bs v := by rw [← h]; exact List.mem_map.2 ⟨z, hz, rfl⟩
  have h2 := cfl_ids h1
  rw [← (hC.2 z hz).len]
  exact h2
theorem sgF_few {ps : List Pt} {bs : List Sg} {v : List Int} : (sgnF ps bs v).length ≤ bs.length + ps.length := by
  unfold sgnF
  by_cases he : sgnE ps bs v = 0
  · rw [resF_ok he]
    have h1 := sgn_len (on := onF ps) (base := bs) (l := verL ps v)
    have h5 : (verL ps v).length ≤ ps.length := List.length_filter_le ..
    omega
  · rw [resF_bad he]; simp
section
variable {α : Type} {P : α → Bool} {xs : List α} {k : Nat} {x : α}
theorem flt_yes (hx : xs[k]? = some x) (h : P x = true) : (xs.take (k + 1)).filter P = (xs.take k).filter P ++ [x] := by
  rw [take_snoc hx, List.filter_append, List.filter_cons, if_pos h]; rfl
theorem flt_no (hx : xs[k]? = some x) (h : P x = false) : (xs.take (k + 1)).filter P = (xs.take k).filter P := by
  rw [take_snoc hx, List.filter_append, List.filter_cons, if_neg (by rw [h]; exact Bool.false_ne_true)]; simp
end
end Go.Proofs.YtccomeanpppfmaaGreat
end
section
namespace Go.Proofs.YtccomeanpppfmaaGreat
open Go Go.Kn Go.Proofs
theorem gcd_step {a b a0 b0 : Nat} (h : Nat.gcd a b = Nat.gcd a0 b0) : Nat.gcd b (a % b) = Nat.gcd a0 b0 :=
  (Nat.gcd_comm b (a % b)).trans ((Nat.gcd_rec b a).symm.trans ((Nat.gcd_comm b a).trans h))
theorem gcdI_nat {a b : Int} (ha : 0 ≤ a) (hb : 0 ≤ b) : ((Nat.gcd a.toNat b.toNat : Nat) : Int) = gcdI a b := by
  unfold gcdI Int.gcd
  congr 2 <;> omega
theorem gcdI_mag (n d : Int) : gcdI (magI n) d = gcdI n d := by
  unfold gcdI Int.gcd
  have : (magI n).natAbs = n.natAbs := by unfold magI; split <;> omega
  rw [this]
theorem magI_in {n : Int} (h : -1073741824 ≤ n ∧ n ≤ 1073741824) : 0 ≤ magI n ∧ magI n ≤ 1073741824 := by unfold magI; split <;> omega
theorem valid_eq (n d : Int) : (((((decide (d ≥ 1) && decide (d ≤ 1073741824)) && decide (n ≥ -1073741824)) && decide (n ≤ 1073741824)) && (gcdI (magI n) d == 1))) = ratF n d := by
  unfold ratF
  rw [gcdI_mag, Bool.eq_iff_iff]
  simp only [Bool.and_eq_true, decide_eq_true_eq, beq_iff_eq, Bool.not_eq_true', Bool.or_eq_false_iff, decide_eq_false_iff_not, bne_eq_false_iff_eq]
  omega
theorem spanR_eq (fn fd tn td : Int) : ((((ratF fn fd && ratF tn td) && decide (fn ≥ 0)) && decide (fn * td < tn * fd)) && decide (tn ≤ td)) = spanF fn fd tn td := by
  unfold spanF
  generalize (ratF fn fd && ratF tn td) = a
  generalize decide (fn ≥ 0) = b
  generalize decide (fn * td < tn * fd) = c
  generalize decide (tn ≤ td) = d
  cases a <;> cases b <;> cases c <;> cases d <;> rfl
def frA (x : Sg) : Bool := (((!within x.id 0 1048576 || !within x.role 0 63) || !within x.bar 0 4095) || !within x.kind 1 9) || !within x.mark 1 3
def frB (x : Sg) : Bool := (((!within x.side 0 2 || !within x.dir 0 8) || !within x.level 0 3) || !within x.size 0 255) || !within x.wth 0 64
theorem frm_ab (x : Sg) : frm x = ((!frA x && !frB x) && spanF x.fn x.fd x.tn x.td) := by
  unfold frm frmL frA frB
  generalize within x.id 0 1048576 = b1
  generalize within x.role 0 63 = b2
  generalize within x.bar 0 4095 = b3
  generalize within x.kind 1 9 = b4
  generalize within x.mark 1 3 = b5
  generalize within x.side 0 2 = b6
  generalize within x.dir 0 8 = b7
  generalize within x.level 0 3 = b8
  generalize within x.size 0 255 = b9
  generalize within x.wth 0 64 = b10
  cases b1 <;> cases b2 <;> cases b3 <;> cases b4 <;> cases b5 <;> first | rfl | (cases b6 <;> cases b7 <;> cases b8 <;> cases b9 <;> cases b10 <;> rfl)
theorem frm_a {x : Sg} (h : frA x = true) : frm x = false := by rw [frm_ab, h]; rfl
theorem frm_b {x : Sg} (h : frB x = true) : frm x = false := by rw [frm_ab, h]; simp
theorem frm_c {x : Sg} (h : frA x = false) (h2 : frB x = false) : frm x = spanF x.fn x.fd x.tn x.td := by rw [frm_ab, h, h2]; rfl
theorem chkG_1 {xs : List Sg} (h : xs.length > 4096) : chkG xs = 2 := by unfold chkG; rw [if_pos h]
theorem chkG_2 {xs : List Sg} (h : ¬ xs.length > 4096) (h2 : skB xs = false) : chkG xs = 360 := by unfold chkG; rw [if_neg h, h2]; rfl
theorem chkG_3 {xs : List Sg} (h : ¬ xs.length > 4096) (h2 : skB xs = true) : chkG xs = 0 := by unfold chkG; rw [if_neg h, h2]; rfl
theorem idB_no (p : Pt) : (((decide (p.id < 1) || decide (p.id > 1048576)) || decide (p.sign < 0)) || decide (p.sign > 1048576)) = !idB p := by
  unfold idB
  rw [Bool.eq_iff_iff]
  simp only [Bool.or_eq_true, decide_eq_true_eq, Bool.not_eq_true', Bool.and_eq_false_iff, decide_eq_false_iff_not]
  omega
def vldB (p : Pt) : Bool := idB p && (ndB p.id p.needs && kndB p)
theorem vld_id {p : Pt} (h : idB p = false) : vldB p = false := by unfold vldB; rw [h]; rfl
theorem vld_nd {p : Pt} (h : ndB p.id p.needs = false) : vldB p = false := by unfold vldB; rw [h, Bool.false_and, Bool.and_false]
theorem vld_k {p : Pt} (h : idB p = true) (h2 : ndB p.id p.needs = true) : vldB p = kndB p := by unfold vldB; rw [h, h2]; rfl
theorem vld_chk {p : Pt} (h : ¬ p.needs.length > 32) : (if vldB p = true then (0 : Int) else 370) = pchk p := by
  unfold pchk vldB
  rw [if_neg h]
  cases idB p <;> cases ndB p.id p.needs <;> cases kndB p <;> rfl
theorem within_19 {f : Int} (h : (decide (f < 1) || decide (f > 9)) = false) : within f 1 9 = true ∧ isF f := by
  simp only [Bool.or_eq_false_iff, decide_eq_false_iff_not] at h
  unfold within isF
  simp; omega
theorem within_19n {f : Int} (h : (decide (f < 1) || decide (f > 9)) = true) : within f 1 9 = false := by
  simp only [Bool.or_eq_true, decide_eq_true_eq] at h
  unfold within
  simp; omega
theorem knd_set {p : Pt} (hk : p.kind = 1) (h : (decide (p.field < 1) || decide (p.field > 9)) = false) : (sgEq (setG zeroG p.field p.nw) p.nw && frm (setG plainR p.field p.nw)) = kndB p := by
  obtain ⟨h1, h2⟩ := within_19 h
  rw [knd_1 hk h1, set_zero h2, frm_plain h2]
theorem knd_0 {p : Pt} (hk : p.kind = 1) (h : (decide (p.field < 1) || decide (p.field > 9)) = true) : kndB p = false := by
  unfold kndB; rw [if_pos hk, within_19n h]; rfl
end Go.Proofs.YtccomeanpppfmaaGreat
end
