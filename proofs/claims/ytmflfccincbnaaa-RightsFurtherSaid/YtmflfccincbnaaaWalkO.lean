/- The walks of the register of rights, fifteenth part: each function comes to its Lean function. -/
import Derived.Test.YtmflfccincbnaaaWalkN
import Derived.Test.YtmflfccincbnaaaPlain
namespace Go.Proofs.Ytmflfccincbnaaa
open Go Go.Kn Go.Proofs
theorem same_self {α : Type} [DecidableEq α] (xs : List α) : sameF xs xs = true := decide_eq_true rfl
theorem s_sameI {I : HMap} {av bv : Option Addr} {n c q e : Nat} {xs ys : List Int} (hS : Sl I 1 encI av n c xs) (hT : Sl I 1 encI bv q e ys) (hn : n ≤ 100000) (h : xs = ys) : RetV Try.prog 23 [.slice av n c, .slice bv q e] I (.bool true) := by
  have := w_sameI hS hT hn
  subst h; rwa [same_self] at this
theorem s_sameP {I : HMap} {av bv : Option Addr} {n c q e : Nat} {xs ys : List (Int × Int)} (hS : Sl I 2 encP av n c xs) (hT : Sl I 2 encP bv q e ys) (hn : n ≤ 100000) (h : xs = ys) : RetV Try.prog 24 [.slice av n c, .slice bv q e] I (.bool true) := by
  have := w_sameP hS hT hn
  subst h; rwa [same_self] at this
theorem s_same {I : HMap} {av bv : Option Addr} {n c q e : Nat} {xs ys : List Rt} (hS : Sl I 11 encR av n c xs) (hT : Sl I 11 encR bv q e ys) (hn : n ≤ 100000) (h : xs = ys) : RetV Try.prog 16 [.slice av n c, .slice bv q e] I (.bool true) := by
  have := w_same hS hT hn
  subst h; rwa [same_self] at this

theorem w_sane (I : HMap) : RetV Try.prog 10 [] I (.bool true) := by
  intro g H w hw
  refine enter Try.func10 rfl Try.ntmps10 rfl hw ?_
  refine X_seq ?_
  refine X_region ?_
  refine XO_v0 (ev_assign rfl) rfl rfl rfl ?_
  refine XO_nil ?_
  refine at_then ?_
  refine X_seq ?_
  refine X_region ?_
  refine XO_v0 (ev_buildL (ps := [(0, _), (1, _), (2, _), (6, _), (7, _), (8, _), (9, _), (10, _)]) [_, _, _, _, _, _, _, _, _, _, _] plt_45 rfl rfl) rfl rfl rfl ?_
  refine XO_v0 (ev_buildL (ps := [(0, _), (1, _), (2, _), (3, _), (4, _), (9, _), (10, _)]) [_, _, _, _, _, _, _, _, _, _, _] plt_45 rfl rfl) rfl rfl rfl ?_
  refine XO_v0 (ev_buildL (ps := [(0, _), (1, _), (2, _), (3, _), (9, _), (10, _)]) [_, _, _, _, _, _, _, _, _, _, _] plt_45 rfl rfl) rfl rfl rfl ?_
  refine XO_v0 (ev_buildL (ps := [(0, _), (1, _), (5, _), (10, _)]) [_, _, _, _, _, _, _, _, _, _, _] plt_45 rfl rfl) rfl rfl rfl ?_
  refine XO_buildSlice (ps := [(0, _), (1, _), (2, _), (3, _)]) (m := [encR s1, encR s2, encR s3, encR s4]) elt_22 rfl (.cons rfl (.cons rfl (.cons rfl (.cons rfl (.nil))))) rfl (by simp [encR_len, encI_len, encP_len]) (by decide) (by decide) rfl rfl (fun b_27 => ?_)
  refine XO_v0 (ev_assign rfl) rfl rfl rfl ?_
  refine XO_nil ?_
  refine at_then ?_
  refine X_seq ?_
  refine X_freeze .here (fun J0 hc hb27 => ?_)
  have hS := Sl.lit saneX rfl encR_len (show _ = some (Obj.cells (saneX.flatMap encR).toArray 45 (0, 0)) from hb27)
  refine X_region ?_
  refine XO_v0 (ev_move rfl) rfl rfl rfl ?_
  refine XO_callV0 (cap := []) (vs := [_, _, _, _, _, _]) rfl rfl fun_17 (s_may1 hS) rfl rfl ?_
  refine XO_v0 (ev_move rfl) rfl rfl rfl ?_
  refine XO_v0 (ev_extract rfl rfl) rfl rfl rfl ?_
  refine XO_v0 (ev_extract rfl rfl) rfl rfl rfl ?_
  refine XO_v0 (ev_assign rfl) rfl rfl rfl ?_
  refine XO_v0 (ev_assign rfl) rfl rfl rfl ?_
  refine XO_nil ?_
  refine at_then ?_
  refine X_seq ?_
  refine X_region ?_
  refine XO_v0 (ev_move rfl) rfl rfl rfl ?_
  refine XO_callV0 (cap := []) (vs := [_, _, _, _, _, _]) rfl rfl fun_17 (s_may2 hS) rfl rfl ?_
  refine XO_v0 (ev_move rfl) rfl rfl rfl ?_
  refine XO_v0 (ev_extract rfl rfl) rfl rfl rfl ?_
  refine XO_v0 (ev_extract rfl rfl) rfl rfl rfl ?_
  refine XO_v0 (ev_assign rfl) rfl rfl rfl ?_
  refine XO_v0 (ev_assign rfl) rfl rfl rfl ?_
  refine XO_nil ?_
  refine at_then ?_
  refine X_seq ?_
  refine X_region ?_
  refine XO_v0 (ev_move rfl) rfl rfl rfl ?_
  refine XO_callM (cap := []) (vs := [_, _, _, _, _]) rfl rfl fun_19 .nil (s_hold1 hS) rfl rfl ?_
  rintro vv I4 L' hI4 ⟨rfl, a4, c4, rfl, h4⟩
  have hc := hc.trans hI4
  have hS := hS.mono hI4
  refine XO_v0 (ev_move rfl) rfl rfl rfl ?_
  refine XO_v0 (ev_extract rfl rfl) rfl rfl rfl ?_
  refine XO_v0 (ev_extract rfl rfl) rfl rfl rfl ?_
  refine XO_v0 (ev_assign rfl) rfl rfl rfl ?_
  refine XO_v0 (ev_assign rfl) rfl rfl rfl ?_
  refine XO_nil ?_
  refine at_then ?_
  refine X_seq ?_
  refine X_region ?_
  refine XO_v0 (ev_move rfl) rfl rfl rfl ?_
  refine XO_callM (cap := []) (vs := [_, _, _, _, _]) rfl rfl fun_19 .nil (s_hold2 hS) rfl rfl ?_
  rintro vv I5 L' hI5 ⟨rfl, a5, c5, rfl, h5⟩
  have hc := hc.trans hI5
  have hS := hS.mono hI5
  have h4 := h4.mono hI5
  refine XO_v0 (ev_move rfl) rfl rfl rfl ?_
  refine XO_v0 (ev_extract rfl rfl) rfl rfl rfl ?_
  refine XO_v0 (ev_extract rfl rfl) rfl rfl rfl ?_
  refine XO_v0 (ev_assign rfl) rfl rfl rfl ?_
  refine XO_v0 (ev_assign rfl) rfl rfl rfl ?_
  refine XO_nil ?_
  refine at_then ?_
  refine X_seq ?_
  refine X_region ?_
  refine XO_v0 (ev_move rfl) rfl rfl rfl ?_
  refine XO_buildSlice (ps := [(0, _), (1, _)]) (m := [encI 11, encI 12]) elt_31 rfl (.cons rfl (.cons rfl (.nil))) rfl (by simp [encR_len, encI_len, encP_len]) (by decide) (by decide) rfl rfl (fun b_50 => ?_)
  refine XO_freeze .here (fun I6a hI6a hb6 => ?_)
  have hc := hc.trans hI6a
  have hS := hS.mono hI6a
  have h4 := h4.mono hI6a
  have hT := Sl.lit [11, 12] rfl encI_len (show _ = some (Obj.cells (([11, 12] : List Int).flatMap encI).toArray 3 (0, 0)) from hb6)
  refine XO_callM (cap := []) (vs := [_, _, _, _, _]) rfl rfl fun_21 .nil (s_all1 hS hT) rfl rfl ?_
  rintro vv I6 L' hI6 ⟨rfl, a6, c6, rfl, h6⟩
  have hc := hc.trans hI6
  have hS := hS.mono hI6
  have h4 := h4.mono hI6
  refine XO_v0 (ev_move rfl) rfl rfl rfl ?_
  refine XO_v0 (ev_extract rfl rfl) rfl rfl rfl ?_
  refine XO_v0 (ev_extract rfl rfl) rfl rfl rfl ?_
  refine XO_v0 (ev_extract rfl rfl) rfl rfl rfl ?_
  refine XO_v0 (ev_assign rfl) rfl rfl rfl ?_
  refine XO_v0 (ev_assign rfl) rfl rfl rfl ?_
  refine XO_v0 (ev_assign rfl) rfl rfl rfl ?_
  refine XO_nil ?_
  refine at_then ?_
  refine X_seq ?_
  refine X_region ?_
  refine XO_v0 (ev_move rfl) rfl rfl rfl ?_
  refine XO_buildSlice (ps := [(0, _), (1, _)]) (m := [encI 11, encI 12]) elt_31 rfl (.cons rfl (.cons rfl (.nil))) rfl (by simp [encR_len, encI_len, encP_len]) (by decide) (by decide) rfl rfl (fun b_57 => ?_)
  refine XO_freeze .here (fun I7a hI7a hb7 => ?_)
  have hc := hc.trans hI7a
  have hS := hS.mono hI7a
  have h4 := h4.mono hI7a
  have hT := Sl.lit [11, 12] rfl encI_len (show _ = some (Obj.cells (([11, 12] : List Int).flatMap encI).toArray 3 (0, 0)) from hb7)
  refine XO_callM (cap := []) (vs := [_, _, _, _, _]) rfl rfl fun_21 .nil (s_all2 hS hT) rfl rfl ?_
  rintro vv I7 L' hI7 ⟨rfl, a7, c7, rfl, h7⟩
  have hc := hc.trans hI7
  have hS := hS.mono hI7
  have h4 := h4.mono hI7
  refine XO_v0 (ev_move rfl) rfl rfl rfl ?_
  refine XO_v0 (ev_extract rfl rfl) rfl rfl rfl ?_
  refine XO_v0 (ev_extract rfl rfl) rfl rfl rfl ?_
  refine XO_v0 (ev_extract rfl rfl) rfl rfl rfl ?_
  refine XO_v0 (ev_assign rfl) rfl rfl rfl ?_
  refine XO_v0 (ev_assign rfl) rfl rfl rfl ?_
  refine XO_v0 (ev_assign rfl) rfl rfl rfl ?_
  refine XO_nil ?_
  refine at_then ?_
  refine X_seq ?_
  refine X_region ?_
  refine XO_v0 (ev_move rfl) rfl rfl rfl ?_
  refine XO_callM (cap := []) (vs := [_, _, _]) rfl rfl fun_12 .nil (s_stand hS) rfl rfl ?_
  rintro vv I8 L' hI8 ⟨rfl, a8, c8, rfl, h8⟩
  have hc := hc.trans hI8
  have hS := hS.mono hI8
  have h4 := h4.mono hI8
  have h7 := h7.mono hI8
  refine XO_v0 (ev_move rfl) rfl rfl rfl ?_
  refine XO_v0 (ev_extract rfl rfl) rfl rfl rfl ?_
  refine XO_v0 (ev_extract rfl rfl) rfl rfl rfl ?_
  refine XO_v0 (ev_assign rfl) rfl rfl rfl ?_
  refine XO_v0 (ev_assign rfl) rfl rfl rfl ?_
  refine XO_nil ?_
  refine at_then ?_
  refine X_seq ?_
  refine X_region ?_
  refine XO_callM (cap := []) (vs := [_, _, _, _, _]) rfl rfl fun_19 .nil (s_hold3 _) rfl rfl ?_
  rintro vv I9 L' hI9 ⟨rfl, a9, c9, rfl, h9⟩
  have hc := hc.trans hI9
  have hS := hS.mono hI9
  have h4 := h4.mono hI9
  have h7 := h7.mono hI9
  have h8 := h8.mono hI9
  refine XO_v0 (ev_move rfl) rfl rfl rfl ?_
  refine XO_v0 (ev_extract rfl rfl) rfl rfl rfl ?_
  refine XO_v0 (ev_extract rfl rfl) rfl rfl rfl ?_
  refine XO_v0 (ev_assign rfl) rfl rfl rfl ?_
  refine XO_v0 (ev_assign rfl) rfl rfl rfl ?_
  refine XO_nil ?_
  refine at_then ?_
  refine X_seq ?_
  refine X_region ?_
  refine XO_callM (cap := []) (vs := [_, _, _, _, _]) rfl rfl fun_21 .nil (s_all3 _) rfl rfl ?_
  rintro vv I10 L' hI10 ⟨rfl, a10, c10, rfl, h10⟩
  have hc := hc.trans hI10
  have hS := hS.mono hI10
  have h4 := h4.mono hI10
  have h7 := h7.mono hI10
  have h8 := h8.mono hI10
  refine XO_v0 (ev_move rfl) rfl rfl rfl ?_
  refine XO_v0 (ev_extract rfl rfl) rfl rfl rfl ?_
  refine XO_v0 (ev_extract rfl rfl) rfl rfl rfl ?_
  refine XO_v0 (ev_extract rfl rfl) rfl rfl rfl ?_
  refine XO_v0 (ev_assign rfl) rfl rfl rfl ?_
  refine XO_v0 (ev_assign rfl) rfl rfl rfl ?_
  refine XO_v0 (ev_assign rfl) rfl rfl rfl ?_
  refine XO_nil ?_
  refine at_then ?_
  refine X_seq ?_
  refine X_seq ?_
  refine X_region ?_
  refine XO_v0 (ev_move rfl) rfl rfl rfl ?_
  refine XO_v0 (ev_cmp rfl rfl rfl) rfl rfl rfl ?_
  refine XO_v0 (ev_move rfl) rfl rfl rfl ?_
  refine XO_want (dj := 78) rfl rfl rfl ?_
  refine XO_v0 (ev_move rfl) rfl rfl rfl ?_
  refine XO_want (dj := 78) rfl rfl rfl ?_
  refine XO_v0 (ev_cmp rfl rfl rfl) rfl rfl rfl ?_
  refine XO_v0 (ev_pick rfl rfl rfl) rfl rfl rfl ?_
  refine XO_v0 (ev_move rfl) rfl rfl rfl ?_
  refine XO_want (dj := 82) rfl rfl rfl ?_
  refine XO_v0 (ev_move rfl) rfl rfl rfl ?_
  refine XO_want (dj := 82) rfl rfl rfl ?_
  refine XO_v0 (ev_cmp rfl rfl rfl) rfl rfl rfl ?_
  refine XO_v0 (ev_pick rfl rfl rfl) rfl rfl rfl ?_
  refine XO_v0 (ev_move rfl) rfl rfl rfl ?_
  refine XO_want (dj := 86) rfl rfl rfl ?_
  refine XO_v0 (ev_move rfl) rfl rfl rfl ?_
  refine XO_want (dj := 86) rfl rfl rfl ?_
  refine XO_v0 (ev_cmp rfl rfl rfl) rfl rfl rfl ?_
  refine XO_v0 (ev_pick rfl rfl rfl) rfl rfl rfl ?_
  refine XO_v0 (ev_move rfl) rfl rfl rfl ?_
  refine XO_want (dj := 90) rfl rfl rfl ?_
  refine XO_v0 (ev_move rfl) rfl rfl rfl ?_
  refine XO_want (dj := 90) rfl rfl rfl ?_
  refine XO_v0 (ev_cmp rfl rfl rfl) rfl rfl rfl ?_
  refine XO_v0 (ev_pick rfl rfl rfl) rfl rfl rfl ?_
  refine XO_v0 (ev_move rfl) rfl rfl rfl ?_
  refine XO_want (dj := 94) rfl rfl rfl ?_
  refine XO_v0 (ev_move rfl) rfl rfl rfl ?_
  refine XO_want (dj := 94) rfl rfl rfl ?_
  refine XO_v0 (ev_cmp rfl rfl rfl) rfl rfl rfl ?_
  refine XO_v0 (ev_pick rfl rfl rfl) rfl rfl rfl ?_
  refine XO_v0 (ev_move rfl) rfl rfl rfl ?_
  refine XO_want (dj := 98) rfl rfl rfl ?_
  refine XO_v0 (ev_move rfl) rfl rfl rfl ?_
  refine XO_want (dj := 98) rfl rfl rfl ?_
  refine XO_v0 (ev_cmp rfl rfl rfl) rfl rfl rfl ?_
  refine XO_v0 (ev_pick rfl rfl rfl) rfl rfl rfl ?_
  refine XO_v0 (ev_move rfl) rfl rfl rfl ?_
  refine XO_want (dj := 102) rfl rfl rfl ?_
  refine XO_v0 (ev_move rfl) rfl rfl rfl ?_
  refine XO_want (dj := 102) rfl rfl rfl ?_
  refine XO_v0 (ev_cmp rfl rfl rfl) rfl rfl rfl ?_
  refine XO_v0 (ev_pick rfl rfl rfl) rfl rfl rfl ?_
  refine XO_v0 (ev_move rfl) rfl rfl rfl ?_
  refine XO_want (dj := 106) rfl rfl rfl ?_
  refine XO_v0 (ev_move rfl) rfl rfl rfl ?_
  refine XO_want (dj := 106) rfl rfl rfl ?_
  refine XO_v0 (ev_cmp rfl rfl rfl) rfl rfl rfl ?_
  refine XO_v0 (ev_pick rfl rfl rfl) rfl rfl rfl ?_
  refine XO_nil ?_
  refine at_then ?_
  refine X_cond rfl (fun hc109 => ?_) (fun hc109 => ?_)
  · skip
    exact absurd hc109 (by decide)
  · skip
    refine X_skip ?_
    refine at_then ?_
    refine X_seq ?_
    refine X_seq ?_
    refine X_region ?_
    refine XO_callV0 (cap := []) (vs := [_]) rfl rfl fun_14 (s_chk (xs := []) .nil (by decide) rfl) rfl rfl ?_
    refine XO_v0 (ev_cmp rfl rfl rfl) rfl rfl rfl ?_
    refine XO_v0 (ev_move rfl) rfl rfl rfl ?_
    refine XO_want (dj := 112) rfl rfl rfl ?_
    refine XO_v0 (ev_move rfl) rfl rfl rfl ?_
    refine XO_want (dj := 112) rfl rfl rfl ?_
    refine XO_callV0 (cap := []) (vs := [_]) rfl rfl fun_14 (s_chk hS (by decide) (by kernel_rfl : rCheck saneX = 0)) rfl rfl ?_
    refine XO_want (dj := 112) rfl rfl rfl ?_
    refine XO_v0 (ev_cmp rfl rfl rfl) rfl rfl rfl ?_
    refine XO_v0 (ev_pick rfl rfl rfl) rfl rfl rfl ?_
    refine XO_v0 (ev_move rfl) rfl rfl rfl ?_
    refine XO_want (dj := 117) rfl rfl rfl ?_
    refine XO_v0 (ev_buildL (ps := []) [_, _, _, _, _, _, _, _, _, _, _] plt_45 rfl rfl) rfl rfl rfl ?_
    refine XO_want (dj := 117) rfl rfl rfl ?_
    refine XO_buildSlice (ps := [(0, _)]) (m := [encR zeroR]) elt_22 rfl (.cons rfl (.nil)) rfl (by simp [encR_len, encI_len, encP_len]) (by decide) (by decide) rfl rfl (fun b_119 => ?_)
    refine XO_want (dj := 117) rfl rfl rfl ?_
    refine XO_freeze .here (fun I13 hI13 hb13 => ?_)
    have hc := hc.trans hI13
    have hS := hS.mono hI13
    have h4 := h4.mono hI13
    have h7 := h7.mono hI13
    have h8 := h8.mono hI13
    refine XO_callV0 (cap := []) (vs := [_]) rfl rfl fun_14 (s_chk (Sl.lit [zeroR] rfl encR_len (show _ = some (Obj.cells (([zeroR] : List Rt).flatMap encR).toArray 45 (0, 0)) from hb13)) (by decide) (by kernel_rfl : rCheck [zeroR] = 460)) rfl rfl ?_
    refine XO_want (dj := 117) rfl rfl rfl ?_
    refine XO_v0 (ev_cmp rfl rfl rfl) rfl rfl rfl ?_
    refine XO_v0 (ev_pick rfl rfl rfl) rfl rfl rfl ?_
    refine XO_v0 (ev_move rfl) rfl rfl rfl ?_
    refine XO_want (dj := 123) rfl rfl rfl ?_
    refine XO_v0 (ev_move rfl) rfl rfl rfl ?_
    refine XO_want (dj := 123) rfl rfl rfl ?_
    refine XO_v0 (ev_sliceLo rfl rfl slt_22 (fun hg => by decide)) rfl rfl rfl ?_
    refine XO_want (dj := 123) rfl rfl rfl ?_
    refine XO_callV0 (cap := []) (vs := [_]) rfl rfl fun_14 (s_chk (hS.drop (k := 3) (by decide)) (by decide) (by kernel_rfl : rCheck (saneX.drop 3) = 460)) rfl rfl ?_
    refine XO_want (dj := 123) rfl rfl rfl ?_
    refine XO_v0 (ev_cmp rfl rfl rfl) rfl rfl rfl ?_
    refine XO_v0 (ev_pick rfl rfl rfl) rfl rfl rfl ?_
    refine XO_nil ?_
    refine at_then ?_
    refine X_cond rfl (fun hc128 => ?_) (fun hc128 => ?_)
    · skip
      exact absurd hc128 (by decide)
    · skip
      refine X_skip ?_
      refine at_then ?_
      refine X_seq ?_
      refine X_region ?_
      refine XO_v0 (ev_move rfl) rfl rfl rfl ?_
      refine XO_v0 (ev_move rfl) rfl rfl rfl ?_
      refine XO_want (dj := 130) rfl rfl rfl ?_
      refine XO_v0 (ev_move rfl) rfl rfl rfl ?_
      refine XO_want (dj := 130) rfl rfl rfl ?_
      refine XO_v0 (ev_not rfl) rfl rfl rfl ?_
      refine XO_v0 (ev_pick rfl rfl rfl) rfl rfl rfl ?_
      refine XO_v0 (ev_move rfl) rfl rfl rfl ?_
      refine XO_want (dj := 134) rfl rfl rfl ?_
      refine XO_v0 (ev_move rfl) rfl rfl rfl ?_
      refine XO_want (dj := 134) rfl rfl rfl ?_
      refine XO_buildSlice (ps := [(0, _)]) (m := [encI 3]) elt_31 rfl (.cons rfl (.nil)) rfl (by simp [encR_len, encI_len, encP_len]) (by decide) (by decide) rfl rfl (fun b_136 => ?_)
      refine XO_want (dj := 134) rfl rfl rfl ?_
      refine XO_freeze .here (fun I15 hI15 hb15 => ?_)
      have hc := hc.trans hI15
      have hS := hS.mono hI15
      have h4 := h4.mono hI15
      have h7 := h7.mono hI15
      have h8 := h8.mono hI15
      refine XO_callV0 (cap := []) (vs := [_, _]) rfl rfl fun_23 (s_sameI h4 (Sl.lit [3] rfl encI_len (show _ = some (Obj.cells (([3] : List Int).flatMap encI).toArray 3 (0, 0)) from hb15)) (by decide) rfl) rfl rfl ?_
      refine XO_v0 (ev_pick rfl rfl rfl) rfl rfl rfl ?_
      refine XO_v0 (ev_move rfl) rfl rfl rfl ?_
      refine XO_want (dj := 139) rfl rfl rfl ?_
      refine XO_v0 (ev_move rfl) rfl rfl rfl ?_
      refine XO_want (dj := 139) rfl rfl rfl ?_
      refine XO_v0 (ev_lenS rfl slt_31) rfl rfl rfl ?_
      refine XO_want (dj := 139) rfl rfl rfl ?_
      refine XO_v0 (ev_cmp rfl rfl rfl) rfl rfl rfl ?_
      refine XO_v0 (ev_pick rfl rfl rfl) rfl rfl rfl ?_
      refine XO_v0 (ev_move rfl) rfl rfl rfl ?_
      refine XO_want (dj := 144) rfl rfl rfl ?_
      refine XO_v0 (ev_move rfl) rfl rfl rfl ?_
      refine XO_v0 (ev_pick rfl rfl rfl) rfl rfl rfl ?_
      refine XO_v0 (ev_move rfl) rfl rfl rfl ?_
      refine XO_want (dj := 147) rfl rfl rfl ?_
      refine XO_v0 (ev_move rfl) rfl rfl rfl ?_
      refine XO_want (dj := 147) rfl rfl rfl ?_
      refine XO_v0 (ev_not rfl) rfl rfl rfl ?_
      refine XO_v0 (ev_pick rfl rfl rfl) rfl rfl rfl ?_
      refine XO_v0 (ev_move rfl) rfl rfl rfl ?_
      refine XO_want (dj := 151) rfl rfl rfl ?_
      refine XO_v0 (ev_move rfl) rfl rfl rfl ?_
      refine XO_want (dj := 151) rfl rfl rfl ?_
      refine XO_v0 (ev_build2 ar2_46 zt_46 rfl rfl) rfl rfl rfl ?_
      refine XO_want (dj := 151) rfl rfl rfl ?_
      refine XO_buildSlice (ps := [(0, _)]) (m := [encP (11, 3)]) elt_38 rfl (.cons rfl (.nil)) rfl (by simp [encR_len, encI_len, encP_len]) (by decide) (by decide) rfl rfl (fun b_154 => ?_)
      refine XO_want (dj := 151) rfl rfl rfl ?_
      refine XO_freeze .here (fun I16 hI16 hb16 => ?_)
      have hc := hc.trans hI16
      have hS := hS.mono hI16
      have h4 := h4.mono hI16
      have h7 := h7.mono hI16
      have h8 := h8.mono hI16
      refine XO_callV0 (cap := []) (vs := [_, _]) rfl rfl fun_24 (s_sameP h7 (Sl.lit [(11, 3)] rfl encP_len (show _ = some (Obj.cells (([(11, 3)] : List (Int × Int)).flatMap encP).toArray 46 (0, 0)) from hb16)) (by decide) rfl) rfl rfl ?_
      refine XO_v0 (ev_pick rfl rfl rfl) rfl rfl rfl ?_
      refine XO_v0 (ev_move rfl) rfl rfl rfl ?_
      refine XO_want (dj := 157) rfl rfl rfl ?_
      refine XO_v0 (ev_move rfl) rfl rfl rfl ?_
      refine XO_want (dj := 157) rfl rfl rfl ?_
      refine XO_v0 (ev_move rfl) rfl rfl rfl ?_
      refine XO_want (dj := 157) rfl rfl rfl ?_
      refine XO_v0 (ev_sliceHi rfl rfl slt_22 (fun hg => by decide)) rfl rfl rfl ?_
      refine XO_want (dj := 157) rfl rfl rfl ?_
      refine XO_callV0 (cap := []) (vs := [_, _]) rfl rfl fun_16 (s_same h8 (hS.take (k := 2) (by decide)) (by decide) rfl) rfl rfl ?_
      refine XO_v0 (ev_pick rfl rfl rfl) rfl rfl rfl ?_
      refine XO_v0 (ev_move rfl) rfl rfl rfl ?_
      refine XO_want (dj := 163) rfl rfl rfl ?_
      refine XO_v0 (ev_move rfl) rfl rfl rfl ?_
      refine XO_v0 (ev_pick rfl rfl rfl) rfl rfl rfl ?_
      refine XO_v0 (ev_assign rfl) rfl rfl rfl ?_
      refine XO_nil ?_
      refine at_then ?_
      refine X_ret ?_
      exact at_ret1 rfl rfl (fun w hw => ⟨rfl, (hw.mono hc).drop⟩)
end Go.Proofs.Ytmflfccincbnaaa
