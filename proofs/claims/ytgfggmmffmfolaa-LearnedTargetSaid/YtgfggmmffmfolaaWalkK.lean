/- Lessons: the walks, WalkK: each function comes to its Lean function. -/
import Derived.Test.YtgfggmmffmfolaaWalkJ
import Derived.Test.YtgfggmmffmfolaaPlainV
namespace Go.Proofs.Ytgfggmmffmfolaa
open Go Go.Kn Go.Proofs
def e1 : Ls := ⟨1, 3, 2, 5, 12960⟩
def e2 : Ls := ⟨4, 3, 1, 2, 2880⟩
def exL : List Ls := [e1, e2]

theorem w_example (I : HMap) : RetM Try.prog 24 [] I [] (SlRes 5 encL exL) := by
  intro g H w hw
  refine enter Try.func24 rfl Try.ntmps24 rfl hw ?_
  have hIc := HLe.refl I
  refine X_seq ?_
  refine X_region ?_
  refine XO_v0 (ev_assign rfl) rfl rfl rfl ?_
  refine XO_nil ?_
  refine at_then ?_
  refine X_seq ?_
  refine X_region ?_
  refine XO_v0 (ev_buildL (ps := [(0, _), (1, _), (2, _), (3, _), (4, _)]) [_, _, _, _, _] plt_24 rfl rfl) rfl rfl rfl ?_
  refine XO_v0 (ev_buildL (ps := [(0, _), (1, _), (2, _), (3, _), (4, _)]) [_, _, _, _, _] plt_24 rfl rfl) rfl rfl rfl ?_
  refine XO_buildSlice (ps := [(0, _), (1, _)]) (m := [encL e1, encL e2]) elt_22 rfl (.cons rfl (.cons rfl (.nil))) rfl (by simp [encL_len, encI_len, encH_len]) (by decide) (by decide) rfl rfl (fun b_3 => ?_)
  refine XO_freeze .here (fun I1 hI1 hb1 => ?_)
  have hIc := hIc.trans hI1
  have hE := Sl.lit exL rfl encL_len (show _ = some (Obj.cells (exL.flatMap encL).toArray 24 (0, 0)) from hb1)
  refine XO_v0 (ev_assign rfl) rfl rfl rfl ?_
  refine XO_nil ?_
  refine at_then ?_
  refine X_ret ?_
  exact at_ret1 rfl rfl (fun w hw => ⟨_, I1, [], rfl, hIc, hw.drop, .good rfl hE⟩)

theorem s_has1 {I : HMap} {av : Option Addr} {c : Nat} (hS : Sl I 5 encL av exL.length c exL) : RetV Try.prog 17 [.slice av exL.length c, .int .i64 3, .int .i64 6, .int .i64 12960] I (.tuple #[.int .i64 2, .int .i64 0]) := by
  have h := w_Has hS (by decide) 3 6 12960
  rwa [show hasV exL 3 6 12960 = 2 from by kernel_rfl, show hasE (chk exL) 3 6 12960 = 0 from by kernel_rfl] at h

theorem s_has2 {I : HMap} {av : Option Addr} {c : Nat} (hS : Sl I 5 encL av exL.length c exL) : RetV Try.prog 17 [.slice av exL.length c, .int .i64 3, .int .i64 6, .int .i64 12959] I (.tuple #[.int .i64 1, .int .i64 0]) := by
  have h := w_Has hS (by decide) 3 6 12959
  rwa [show hasV exL 3 6 12959 = 1 from by kernel_rfl, show hasE (chk exL) 3 6 12959 = 0 from by kernel_rfl] at h

theorem s_has3 {I : HMap} {av : Option Addr} {c : Nat} (hS : Sl I 5 encL av exL.length c exL) : RetV Try.prog 17 [.slice av exL.length c, .int .i64 3, .int .i64 1, .int .i64 12960] I (.tuple #[.int .i64 0, .int .i64 0]) := by
  have h := w_Has hS (by decide) 3 1 12960
  rwa [show hasV exL 3 1 12960 = 0 from by kernel_rfl, show hasE (chk exL) 3 1 12960 = 0 from by kernel_rfl] at h

theorem s_has4 {I : HMap} {av : Option Addr} {c : Nat} (hS : Sl I 5 encL av exL.length c exL) : RetV Try.prog 17 [.slice av exL.length c, .int .i64 64, .int .i64 0, .int .i64 0] I (.tuple #[.int .i64 0, .int .i64 1]) := by
  have h := w_Has hS (by decide) 64 0 0
  rwa [show hasV exL 64 0 0 = 0 from by kernel_rfl, show hasE (chk exL) 64 0 0 = 1 from by kernel_rfl] at h

theorem s_cast1 {I : HMap} {av : Option Addr} {c : Nat} (hS : Sl I 5 encL av exL.length c exL) : RetM Try.prog 19 [.slice av exL.length c, .int .i64 2, .int .i64 6, .int .i64 12960] I [] (SlE 1 encI [3] 0) := by
  have h := w_Cast hS (by decide) 2 6 12960
  rwa [show castE (chk exL) 2 6 12960 = 0 from by kernel_rfl, show resF (α := Int) 0 (castF exL 2 6 12960) = [3] from by kernel_rfl] at h

theorem s_cast2 {I : HMap} {av : Option Addr} {c : Nat} (hS : Sl I 5 encL av exL.length c exL) : RetM Try.prog 19 [.slice av exL.length c, .int .i64 0, .int .i64 0, .int .i64 0] I [] (SlE 1 encI [] 1) := by
  have h := w_Cast hS (by decide) 0 0 0
  rwa [show castE (chk exL) 0 0 0 = 1 from by kernel_rfl, show resF (α := Int) 1 (castF exL 0 0 0) = [] from by kernel_rfl] at h

theorem s_add1 {I : HMap} {av : Option Addr} {c : Nat} (hS : Sl I 5 encL av exL.length c exL) : RetM Try.prog 12 [.slice av exL.length c, encA ⟨2, 0, 0, 0, 0⟩] I [] (SlE 5 encL [e1, ⟨2, 0, 0, 0, 0⟩, e2] 0) := by
  have h := w_Add hS (by decide) ⟨2, 0, 0, 0, 0⟩
  rwa [show addE exL ⟨2, 0, 0, 0, 0⟩ = 0 from by kernel_rfl, show addF exL ⟨2, 0, 0, 0, 0⟩ = [e1, ⟨2, 0, 0, 0, 0⟩, e2] from by kernel_rfl] at h

theorem s_add2 {I : HMap} {av : Option Addr} {c : Nat} (hS : Sl I 5 encL av exL.length c exL) : RetM Try.prog 12 [.slice av exL.length c, encA ⟨4, 0, 0, 0, 0⟩] I [] (SlE 5 encL [] 171) := by
  have h := w_Add hS (by decide) ⟨4, 0, 0, 0, 0⟩
  rwa [show addE exL ⟨4, 0, 0, 0, 0⟩ = 171 from by kernel_rfl, show addF exL ⟨4, 0, 0, 0, 0⟩ = [] from by kernel_rfl] at h

theorem s_gap1 {I : HMap} {av bv dv : Option Addr} {n c n2 c2 n3 c3 : Nat} (hS : Sl I 5 encL av n c exL) (hV : SlN I bv n2 c2 [[1, 4], [9]]) (hT : Sl I 1 encI dv n3 c3 [1, 2, 5]) : RetM Try.prog 22 [.slice av n c, .slice bv n2 c2, .int .i64 3, .int .i64 4, .int .i64 12960, .slice dv n3 c3] I [] (GpE 0 [2, 5] [4]) := by
  have h := w_Gap hS (by rw [← hS.len]; decide) hV (by rw [← hV.len]; decide) 3 4 12960 hT
  have e1 : gapE exL [[1, 4], [9]] 3 4 12960 [1, 2, 5] = 0 := by kernel_rfl
  have e2 : resF 0 (lessF [1, 2, 5] (ownF exL [[1, 4], [9]] 3 4 12960)) = [2, 5] := by kernel_rfl
  have e3 : resF 0 (lessF (ownF exL [[1, 4], [9]] 3 4 12960) [1, 2, 5]) = [4] := by kernel_rfl
  rwa [e1, e2, e3] at h

theorem s_gap2 {I : HMap} {av bv dv : Option Addr} {n c n2 c2 n3 c3 : Nat} (hS : Sl I 5 encL av n c []) (hV : SlN I bv n2 c2 []) (hT : Sl I 1 encI dv n3 c3 [7]) : RetM Try.prog 22 [.slice av n c, .slice bv n2 c2, .int .i64 0, .int .i64 0, .int .i64 0, .slice dv n3 c3] I [] (GpE 0 [7] []) := by
  have h := w_Gap hS (by rw [← hS.len]; decide) hV (by rw [← hV.len]; decide) 0 0 0 hT
  have e1 : gapE [] [] 0 0 0 [7] = 0 := by kernel_rfl
  have e2 : resF 0 (lessF [7] (ownF [] [] 0 0 0)) = [7] := by kernel_rfl
  have e3 : resF 0 (lessF (ownF [] [] 0 0 0) [7]) = [] := by kernel_rfl
  rwa [e1, e2, e3] at h

theorem s_gap3 {I : HMap} {av bv dv : Option Addr} {n c n2 c2 n3 c3 : Nat} (hS : Sl I 5 encL av n c exL) (hV : SlN I bv n2 c2 [[1, 4]]) (hT : Sl I 1 encI dv n3 c3 []) : RetM Try.prog 22 [.slice av n c, .slice bv n2 c2, .int .i64 3, .int .i64 6, .int .i64 12960, .slice dv n3 c3] I [] (GpE 390 [] []) := by
  have h := w_Gap hS (by rw [← hS.len]; decide) hV (by rw [← hV.len]; decide) 3 6 12960 hT
  have e1 : gapE exL [[1, 4]] 3 6 12960 [] = 390 := by kernel_rfl
  have e2 : resF 390 (lessF [] (ownF exL [[1, 4]] 3 6 12960)) = [] := by kernel_rfl
  have e3 : resF 390 (lessF (ownF exL [[1, 4]] 3 6 12960) []) = [] := by kernel_rfl
  rwa [e1, e2, e3] at h

theorem s_chk {I : HMap} {av : Option Addr} {n c : Nat} {xs : List Ls} (hS : Sl I 5 encL av n c xs) (hn : n ≤ 100000) {e : Int} (he : chk xs = e) : RetV Try.prog 14 [.slice av n c] I (.int .i64 e) := he ▸ w_check hS hn
theorem s_sameI {I : HMap} {av bv : Option Addr} {n c q e : Nat} {xs ys : List Int} (hS : Sl I 1 encI av n c xs) (hT : Sl I 1 encI bv q e ys) (hn : n ≤ 100000) (h : xs = ys) : RetV Try.prog 21 [.slice av n c, .slice bv q e] I (.bool true) := by
  have := w_sameI hS hT hn
  subst h; rwa [same_self] at this
theorem s_same {I : HMap} {av bv : Option Addr} {n c q e : Nat} {xs ys : List Ls} (hS : Sl I 5 encL av n c xs) (hT : Sl I 5 encL bv q e ys) (hn : n ≤ 100000) (h : xs = ys) : RetV Try.prog 16 [.slice av n c, .slice bv q e] I (.bool true) := by
  have := w_same hS hT hn
  subst h; rwa [same_self] at this
theorem SlN.two {I : HMap} {b1 b2 b3 n1 n2 : Nat} {v1 v2 : List Int} {c1 c2 : Nat} (h3 : Sl I 1 encH (some ⟨b3, 0, none⟩) 2 2 [⟨some ⟨b1, 0, none⟩, n1, c1⟩, ⟨some ⟨b2, 0, none⟩, n2, c2⟩]) (h1 : Sl I 1 encI (some ⟨b1, 0, none⟩) n1 c1 v1) (h2 : Sl I 1 encI (some ⟨b2, 0, none⟩) n2 c2 v2) : SlN I (some ⟨b3, 0, none⟩) 2 2 [v1, v2] := by
  refine ⟨_, h3, rfl, fun k h v a b => ?_⟩
  match k, a, b with
  | 0, a, b => cases a; cases b; exact h1
  | 1, a, b => cases a; cases b; exact h2
  | k + 2, a, b => simp at a
theorem SlN.one {I : HMap} {b1 b2 b3 n1 n2 : Nat} {v1 : List Int} {c1 c2 : Nat} (h3 : Sl I 1 encH (some ⟨b3, 0, none⟩) 2 2 [⟨some ⟨b1, 0, none⟩, n1, c1⟩, ⟨some ⟨b2, 0, none⟩, n2, c2⟩]) (h1 : Sl I 1 encI (some ⟨b1, 0, none⟩) n1 c1 v1) : SlN I (some ⟨b3, 0, none⟩) 1 2 [v1] := by
  refine ⟨_, h3.take (k := 1) (by decide), rfl, fun k h v a b => ?_⟩
  match k, a, b with
  | 0, a, b => cases a; cases b; exact h1
  | k + 1, a, b => simp at a
theorem SlN.nil {I : HMap} {av : Option Addr} {c : Nat} : SlN I av 0 c [] := ⟨[], .nil, rfl, fun k h v a b => by simp at a⟩

set_option maxRecDepth 100000 in
theorem w_sane (I : HMap) : RetV Try.prog 10 [] I (.bool true) := by
  intro g H w hw
  refine enter Try.func10 rfl Try.ntmps10 rfl hw ?_
  have hIc := HLe.refl I
  refine X_seq ?_
  refine X_region ?_
  refine XO_v0 (ev_assign rfl) rfl rfl rfl ?_
  refine XO_nil ?_
  refine at_then ?_
  refine X_seq ?_
  refine X_region ?_
  refine XO_callM (cap := []) (vs := []) rfl rfl fun_24 .nil (w_example _) rfl rfl ?_
  rintro vv1 I1 L1 hI1 ⟨rfl, a1, c1, rfl, hL⟩
  have hIc := hIc.trans hI1
  refine XO_v0 (ev_assign rfl) rfl rfl rfl ?_
  refine XO_nil ?_
  refine at_then ?_
  refine X_seq ?_
  refine X_region ?_
  refine XO_v0 (ev_move rfl) rfl rfl rfl ?_
  refine XO_callV0 (cap := []) (vs := [_, _, _, _]) rfl rfl fun_17 (s_has1 hL) rfl rfl ?_
  refine XO_v0 (ev_move rfl) rfl rfl rfl ?_
  refine XO_v0 (ev_extract rfl rfl) rfl rfl rfl ?_
  refine XO_v0 (ev_extract rfl rfl) rfl rfl rfl ?_
  refine XO_v0 (ev_assign rfl) rfl rfl rfl ?_
  refine XO_v0 (ev_assign rfl) rfl rfl rfl ?_
  refine XO_nil ?_
  refine at_then ?_
  refine X_seq ?_
  refine X_region ?_
  refine XO_v0 (ev_move rfl) rfl rfl rfl ?_
  refine XO_callV0 (cap := []) (vs := [_, _, _, _]) rfl rfl fun_17 (s_has2 hL) rfl rfl ?_
  refine XO_v0 (ev_move rfl) rfl rfl rfl ?_
  refine XO_v0 (ev_extract rfl rfl) rfl rfl rfl ?_
  refine XO_v0 (ev_extract rfl rfl) rfl rfl rfl ?_
  refine XO_v0 (ev_assign rfl) rfl rfl rfl ?_
  refine XO_v0 (ev_assign rfl) rfl rfl rfl ?_
  refine XO_nil ?_
  refine at_then ?_
  refine X_seq ?_
  refine X_region ?_
  refine XO_v0 (ev_move rfl) rfl rfl rfl ?_
  refine XO_callV0 (cap := []) (vs := [_, _, _, _]) rfl rfl fun_17 (s_has3 hL) rfl rfl ?_
  refine XO_v0 (ev_move rfl) rfl rfl rfl ?_
  refine XO_v0 (ev_extract rfl rfl) rfl rfl rfl ?_
  refine XO_v0 (ev_extract rfl rfl) rfl rfl rfl ?_
  refine XO_v0 (ev_assign rfl) rfl rfl rfl ?_
  refine XO_v0 (ev_assign rfl) rfl rfl rfl ?_
  refine XO_nil ?_
  refine at_then ?_
  refine X_seq ?_
  refine X_region ?_
  refine XO_v0 (ev_move rfl) rfl rfl rfl ?_
  refine XO_callV0 (cap := []) (vs := [_, _, _, _]) rfl rfl fun_17 (s_has4 hL) rfl rfl ?_
  refine XO_v0 (ev_move rfl) rfl rfl rfl ?_
  refine XO_v0 (ev_extract rfl rfl) rfl rfl rfl ?_
  refine XO_v0 (ev_extract rfl rfl) rfl rfl rfl ?_
  refine XO_v0 (ev_assign rfl) rfl rfl rfl ?_
  refine XO_v0 (ev_assign rfl) rfl rfl rfl ?_
  refine XO_nil ?_
  refine at_then ?_
  refine X_seq ?_
  refine X_region ?_
  refine XO_v0 (ev_move rfl) rfl rfl rfl ?_
  refine XO_callM (cap := []) (vs := [_, _, _, _]) rfl rfl fun_19 .nil (s_cast1 hL) rfl rfl ?_
  rintro vv2 I2 L2 hI2 ⟨rfl, a2, c2, rfl, hP⟩
  have hL := hL.mono hI2
  have hIc := hIc.trans hI2
  refine XO_v0 (ev_move rfl) rfl rfl rfl ?_
  refine XO_v0 (ev_extract rfl rfl) rfl rfl rfl ?_
  refine XO_v0 (ev_extract rfl rfl) rfl rfl rfl ?_
  refine XO_v0 (ev_assign rfl) rfl rfl rfl ?_
  refine XO_v0 (ev_assign rfl) rfl rfl rfl ?_
  refine XO_nil ?_
  refine at_then ?_
  refine X_seq ?_
  refine X_region ?_
  refine XO_v0 (ev_move rfl) rfl rfl rfl ?_
  refine XO_callM (cap := []) (vs := [_, _, _, _]) rfl rfl fun_19 .nil (s_cast2 hL) rfl rfl ?_
  rintro vv3 I3 L3 hI3 ⟨rfl, a3, c3, rfl, hP2⟩
  have hL := hL.mono hI3
  have hP := hP.mono hI3
  have hIc := hIc.trans hI3
  refine XO_v0 (ev_move rfl) rfl rfl rfl ?_
  refine XO_v0 (ev_extract rfl rfl) rfl rfl rfl ?_
  refine XO_v0 (ev_extract rfl rfl) rfl rfl rfl ?_
  refine XO_v0 (ev_assign rfl) rfl rfl rfl ?_
  refine XO_v0 (ev_assign rfl) rfl rfl rfl ?_
  refine XO_nil ?_
  refine at_then ?_
  refine X_seq ?_
  refine X_seq ?_
  refine X_region ?_
  refine XO_v0 (ev_move rfl) rfl rfl rfl ?_
  refine XO_v0 (ev_cmp rfl rfl rfl) rfl rfl rfl ?_
  refine XO_v0 (ev_move rfl) rfl rfl rfl ?_
  refine XO_want (dj := 53) rfl rfl rfl ?_
  refine XO_v0 (ev_move rfl) rfl rfl rfl ?_
  refine XO_want (dj := 53) rfl rfl rfl ?_
  refine XO_v0 (ev_cmp rfl rfl rfl) rfl rfl rfl ?_
  refine XO_v0 (ev_pickb rfl rfl rfl) rfl rfl rfl ?_
  refine XO_v0 (ev_move rfl) rfl rfl rfl ?_
  refine XO_want (dj := 57) rfl rfl rfl ?_
  refine XO_v0 (ev_move rfl) rfl rfl rfl ?_
  refine XO_want (dj := 57) rfl rfl rfl ?_
  refine XO_v0 (ev_cmp rfl rfl rfl) rfl rfl rfl ?_
  refine XO_v0 (ev_pickb rfl rfl rfl) rfl rfl rfl ?_
  refine XO_v0 (ev_move rfl) rfl rfl rfl ?_
  refine XO_want (dj := 61) rfl rfl rfl ?_
  refine XO_v0 (ev_move rfl) rfl rfl rfl ?_
  refine XO_want (dj := 61) rfl rfl rfl ?_
  refine XO_v0 (ev_cmp rfl rfl rfl) rfl rfl rfl ?_
  refine XO_v0 (ev_pickb rfl rfl rfl) rfl rfl rfl ?_
  refine XO_v0 (ev_move rfl) rfl rfl rfl ?_
  refine XO_want (dj := 65) rfl rfl rfl ?_
  refine XO_v0 (ev_move rfl) rfl rfl rfl ?_
  refine XO_want (dj := 65) rfl rfl rfl ?_
  refine XO_v0 (ev_cmp rfl rfl rfl) rfl rfl rfl ?_
  refine XO_v0 (ev_pickb rfl rfl rfl) rfl rfl rfl ?_
  refine XO_v0 (ev_move rfl) rfl rfl rfl ?_
  refine XO_want (dj := 69) rfl rfl rfl ?_
  refine XO_v0 (ev_move rfl) rfl rfl rfl ?_
  refine XO_want (dj := 69) rfl rfl rfl ?_
  refine XO_v0 (ev_cmp rfl rfl rfl) rfl rfl rfl ?_
  refine XO_v0 (ev_pickb rfl rfl rfl) rfl rfl rfl ?_
  refine XO_v0 (ev_move rfl) rfl rfl rfl ?_
  refine XO_want (dj := 73) rfl rfl rfl ?_
  refine XO_v0 (ev_move rfl) rfl rfl rfl ?_
  refine XO_want (dj := 73) rfl rfl rfl ?_
  refine XO_v0 (ev_cmp rfl rfl rfl) rfl rfl rfl ?_
  refine XO_v0 (ev_pickb rfl rfl rfl) rfl rfl rfl ?_
  refine XO_v0 (ev_move rfl) rfl rfl rfl ?_
  refine XO_want (dj := 77) rfl rfl rfl ?_
  refine XO_v0 (ev_move rfl) rfl rfl rfl ?_
  refine XO_want (dj := 77) rfl rfl rfl ?_
  refine XO_v0 (ev_cmp rfl rfl rfl) rfl rfl rfl ?_
  refine XO_v0 (ev_pickb rfl rfl rfl) rfl rfl rfl ?_
  refine XO_v0 (ev_move rfl) rfl rfl rfl ?_
  refine XO_want (dj := 81) rfl rfl rfl ?_
  refine XO_v0 (ev_move rfl) rfl rfl rfl ?_
  refine XO_want (dj := 81) rfl rfl rfl ?_
  refine XO_v0 (ev_cmp rfl rfl rfl) rfl rfl rfl ?_
  refine XO_v0 (ev_pickb rfl rfl rfl) rfl rfl rfl ?_
  refine XO_v0 (ev_move rfl) rfl rfl rfl ?_
  refine XO_want (dj := 85) rfl rfl rfl ?_
  refine XO_v0 (ev_move rfl) rfl rfl rfl ?_
  refine XO_want (dj := 85) rfl rfl rfl ?_
  refine XO_buildSlice (ps := [(0, _)]) (m := [encI 3]) elt_35 rfl (.cons rfl (.nil)) rfl (by simp [encL_len, encI_len, encH_len]) (by decide) (by decide) rfl rfl (fun b_87 => ?_)
  refine XO_freeze .here (fun I4 hI4 hb4 => ?_)
  have hL := hL.mono hI4
  have hP := hP.mono hI4
  have hIc := hIc.trans hI4
  have h3 := Sl.lit ([3] : List Int) rfl encI_len (show _ = some (Obj.cells (([3] : List Int).flatMap encI).toArray 3 (0, 0)) from hb4)
  refine XO_want (dj := 85) rfl rfl rfl ?_
  refine XO_callV0 (cap := []) (vs := [_, _]) rfl rfl fun_21 (s_sameI hP h3 (by decide) rfl) rfl rfl ?_
  refine XO_want (dj := 85) rfl rfl rfl ?_
  refine XO_v0 (ev_not rfl) rfl rfl rfl ?_
  refine XO_v0 (ev_pickb rfl rfl rfl) rfl rfl rfl ?_
  refine XO_nil ?_
  refine at_then ?_
  refine X_cond rfl (fun hc90 => ?_) (fun hc90 => ?_)
  · skip
    exact absurd hc90 (by decide)
  · skip
    refine X_skip ?_
    refine at_then ?_
    refine X_seq ?_
    refine X_region ?_
    refine XO_buildSlice (ps := [(0, _), (1, _)]) (m := [encI 1, encI 4]) elt_35 rfl (.cons rfl (.cons rfl (.nil))) rfl (by simp [encL_len, encI_len, encH_len]) (by decide) (by decide) rfl rfl (fun b_91 => ?_)
    refine XO_buildSlice (ps := [(0, _)]) (m := [encI 9]) elt_35 rfl (.cons rfl (.nil)) rfl (by simp [encL_len, encI_len, encH_len]) (by decide) (by decide) rfl rfl (fun b_92 => ?_)
    refine XO_buildSlice (ps := [(0, _), (1, _)]) (m := [encH (⟨some ⟨b_91, 0, none⟩, 2, 2⟩ : Hd), encH (⟨some ⟨b_92, 0, none⟩, 1, 1⟩ : Hd)]) elt_40 rfl (.cons rfl (.cons rfl (.nil))) rfl (by simp [encL_len, encI_len, encH_len]) (by decide) (by decide) rfl rfl (fun b_93 => ?_)
    refine XO_v0 (ev_assign rfl) rfl rfl rfl ?_
    refine XO_nil ?_
    refine at_then ?_
    refine X_seq ?_
    refine X_freeze .here (fun I5 hI5 hb5 => ?_)
    have hL := hL.mono hI5
    have hP := hP.mono hI5
    have hIc := hIc.trans hI5
    have hH := Sl.lit ([(⟨some ⟨b_91, 0, none⟩, 2, 2⟩ : Hd), (⟨some ⟨b_92, 0, none⟩, 1, 1⟩ : Hd)]) rfl encH_len (show _ = some (Obj.cells (([(⟨some ⟨b_91, 0, none⟩, 2, 2⟩ : Hd), (⟨some ⟨b_92, 0, none⟩, 1, 1⟩ : Hd)] : List Hd).flatMap encH).toArray 35 (0, 0)) from hb5)
    refine X_freeze .here (fun I6 hI6 hb6 => ?_)
    have hL := hL.mono hI6
    have hP := hP.mono hI6
    have hH := hH.mono hI6
    have hIc := hIc.trans hI6
    have hV2 := Sl.lit ([9]) rfl encI_len (show _ = some (Obj.cells (([9] : List Int).flatMap encI).toArray 3 (0, 0)) from hb6)
    refine X_freeze .here (fun I7 hI7 hb7 => ?_)
    have hL := hL.mono hI7
    have hP := hP.mono hI7
    have hH := hH.mono hI7
    have hV2 := hV2.mono hI7
    have hIc := hIc.trans hI7
    have hV1 := Sl.lit ([1, 4]) rfl encI_len (show _ = some (Obj.cells (([1, 4] : List Int).flatMap encI).toArray 3 (0, 0)) from hb7)
    refine X_region ?_
    refine XO_v0 (ev_move rfl) rfl rfl rfl ?_
    refine XO_v0 (ev_move rfl) rfl rfl rfl ?_
    refine XO_buildSlice (ps := [(0, _), (1, _), (2, _)]) (m := [encI 1, encI 2, encI 5]) elt_35 rfl (.cons rfl (.cons rfl (.cons rfl (.nil)))) rfl (by simp [encL_len, encI_len, encH_len]) (by decide) (by decide) rfl rfl (fun b_97 => ?_)
    refine XO_freeze .here (fun I8 hI8 hb8 => ?_)
    have hL := hL.mono hI8
    have hP := hP.mono hI8
    have hH := hH.mono hI8
    have hV2 := hV2.mono hI8
    have hV1 := hV1.mono hI8
    have hIc := hIc.trans hI8
    have h125 := Sl.lit ([1, 2, 5] : List Int) rfl encI_len (show _ = some (Obj.cells (([1, 2, 5] : List Int).flatMap encI).toArray 3 (0, 0)) from hb8)
    refine XO_callM (cap := []) (vs := [_, _, _, _, _, _]) rfl rfl fun_22 .nil (s_gap1 hL (SlN.two hH hV1 hV2) h125) rfl rfl ?_
    rintro vv9 I9 L9 hI9 ⟨rfl, aa9, na9, ca9, bb9, mb9, db9, rfl, hA25, hB4⟩
    have hL := hL.mono hI9
    have hP := hP.mono hI9
    have hH := hH.mono hI9
    have hV2 := hV2.mono hI9
    have hV1 := hV1.mono hI9
    have hIc := hIc.trans hI9
    refine XO_v0 (ev_move rfl) rfl rfl rfl ?_
    refine XO_v0 (ev_extract rfl rfl) rfl rfl rfl ?_
    refine XO_v0 (ev_extract rfl rfl) rfl rfl rfl ?_
    refine XO_v0 (ev_extract rfl rfl) rfl rfl rfl ?_
    refine XO_v0 (ev_assign rfl) rfl rfl rfl ?_
    refine XO_v0 (ev_assign rfl) rfl rfl rfl ?_
    refine XO_v0 (ev_assign rfl) rfl rfl rfl ?_
    refine XO_nil ?_
    refine at_then ?_
    refine X_seq ?_
    refine X_region ?_
    refine XO_buildSlice (ps := [(0, _)]) (m := [encI 7]) elt_35 rfl (.cons rfl (.nil)) rfl (by simp [encL_len, encI_len, encH_len]) (by decide) (by decide) rfl rfl (fun b_103 => ?_)
    refine XO_freeze .here (fun I10 hI10 hb10 => ?_)
    have hL := hL.mono hI10
    have hP := hP.mono hI10
    have hH := hH.mono hI10
    have hV2 := hV2.mono hI10
    have hV1 := hV1.mono hI10
    have hA25 := hA25.mono hI10
    have hB4 := hB4.mono hI10
    have hIc := hIc.trans hI10
    have h7a := Sl.lit ([7] : List Int) rfl encI_len (show _ = some (Obj.cells (([7] : List Int).flatMap encI).toArray 3 (0, 0)) from hb10)
    refine XO_callM (cap := []) (vs := [_, _, _, _, _, _]) rfl rfl fun_22 .nil (s_gap2 .nil .nil h7a) rfl rfl ?_
    rintro vv11 I11 L11 hI11 ⟨rfl, aa11, na11, ca11, bb11, mb11, db11, rfl, hA7, hN0⟩
    have hL := hL.mono hI11
    have hP := hP.mono hI11
    have hH := hH.mono hI11
    have hV2 := hV2.mono hI11
    have hV1 := hV1.mono hI11
    have hA25 := hA25.mono hI11
    have hB4 := hB4.mono hI11
    have hIc := hIc.trans hI11
    have hz11 : mb11 = 0 := hN0.len.symm
    subst hz11
    refine XO_v0 (ev_move rfl) rfl rfl rfl ?_
    refine XO_v0 (ev_extract rfl rfl) rfl rfl rfl ?_
    refine XO_v0 (ev_extract rfl rfl) rfl rfl rfl ?_
    refine XO_v0 (ev_extract rfl rfl) rfl rfl rfl ?_
    refine XO_v0 (ev_assign rfl) rfl rfl rfl ?_
    refine XO_v0 (ev_assign rfl) rfl rfl rfl ?_
    refine XO_v0 (ev_assign rfl) rfl rfl rfl ?_
    refine XO_nil ?_
    refine at_then ?_
    refine X_seq ?_
    refine X_region ?_
    refine XO_v0 (ev_move rfl) rfl rfl rfl ?_
    refine XO_v0 (ev_move rfl) rfl rfl rfl ?_
    refine XO_v0 (ev_sliceHi rfl rfl slt_40 (fun hg => by decide)) rfl rfl rfl ?_
    refine XO_callM (cap := []) (vs := [_, _, _, _, _, _]) rfl rfl fun_22 .nil (s_gap3 hL (SlN.one hH hV1) .nil) rfl rfl ?_
    rintro vv12 I12 L12 hI12 ⟨rfl, aa, na, ca, bb, mb, db, rfl, hG3, hG4⟩
    have hL := hL.mono hI12
    have hP := hP.mono hI12
    have hH := hH.mono hI12
    have hV2 := hV2.mono hI12
    have hV1 := hV1.mono hI12
    have hA25 := hA25.mono hI12
    have hB4 := hB4.mono hI12
    have hA7 := hA7.mono hI12
    have hN0 := hN0.mono hI12
    have hIc := hIc.trans hI12
    refine XO_v0 (ev_move rfl) rfl rfl rfl ?_
    refine XO_v0 (ev_extract rfl rfl) rfl rfl rfl ?_
    refine XO_v0 (ev_extract rfl rfl) rfl rfl rfl ?_
    refine XO_v0 (ev_extract rfl rfl) rfl rfl rfl ?_
    refine XO_v0 (ev_assign rfl) rfl rfl rfl ?_
    refine XO_nil ?_
    refine at_then ?_
    refine X_seq ?_
    refine X_region ?_
    refine XO_v0 (ev_move rfl) rfl rfl rfl ?_
    refine XO_v0 (ev_buildL (ps := [(0, _)]) [_, _, _, _, _] plt_24 rfl rfl) rfl rfl rfl ?_
    refine XO_callM (cap := []) (vs := [_, _]) rfl rfl fun_12 .nil (s_add1 hL) rfl rfl ?_
    rintro vv13 I13 L13 hI13 ⟨rfl, a13, c13, rfl, hY⟩
    have hL := hL.mono hI13
    have hP := hP.mono hI13
    have hH := hH.mono hI13
    have hV2 := hV2.mono hI13
    have hV1 := hV1.mono hI13
    have hA25 := hA25.mono hI13
    have hB4 := hB4.mono hI13
    have hA7 := hA7.mono hI13
    have hN0 := hN0.mono hI13
    have hIc := hIc.trans hI13
    refine XO_v0 (ev_move rfl) rfl rfl rfl ?_
    refine XO_v0 (ev_extract rfl rfl) rfl rfl rfl ?_
    refine XO_v0 (ev_extract rfl rfl) rfl rfl rfl ?_
    refine XO_v0 (ev_assign rfl) rfl rfl rfl ?_
    refine XO_v0 (ev_assign rfl) rfl rfl rfl ?_
    refine XO_nil ?_
    refine at_then ?_
    refine X_seq ?_
    refine X_region ?_
    refine XO_v0 (ev_move rfl) rfl rfl rfl ?_
    refine XO_v0 (ev_buildL (ps := [(0, _)]) [_, _, _, _, _] plt_24 rfl rfl) rfl rfl rfl ?_
    refine XO_callM (cap := []) (vs := [_, _]) rfl rfl fun_12 .nil (s_add2 hL) rfl rfl ?_
    rintro vv14 I14 L14 hI14 ⟨rfl, a14, c14, rfl, hY2⟩
    have hL := hL.mono hI14
    have hP := hP.mono hI14
    have hH := hH.mono hI14
    have hV2 := hV2.mono hI14
    have hV1 := hV1.mono hI14
    have hA25 := hA25.mono hI14
    have hB4 := hB4.mono hI14
    have hA7 := hA7.mono hI14
    have hN0 := hN0.mono hI14
    have hY := hY.mono hI14
    have hIc := hIc.trans hI14
    refine XO_v0 (ev_move rfl) rfl rfl rfl ?_
    refine XO_v0 (ev_extract rfl rfl) rfl rfl rfl ?_
    refine XO_v0 (ev_extract rfl rfl) rfl rfl rfl ?_
    refine XO_v0 (ev_assign rfl) rfl rfl rfl ?_
    refine XO_nil ?_
    refine at_then ?_
    refine X_seq ?_
    refine X_seq ?_
    have hD := HLe.refl I14
    refine X_drawC mixed ?_
    refine XD_take 0 rfl (ev_move rfl) (.none rfl) rfl rfl rfl (by kernel_rfl) (by kernel_rfl) (by kernel_rfl) noP_ok hD (by repeat (first | exact .refl | exact subL_nil | refine .drop ?_ | refine subL_add ?_)) ?_
    refine XD_take 1 rfl (ev_cmp rfl rfl rfl) (.none rfl) rfl rfl rfl (by kernel_rfl) (by kernel_rfl) (by kernel_rfl) noP_ok hD (by repeat (first | exact .refl | exact subL_nil | refine .drop ?_ | refine subL_add ?_)) ?_
    refine XD_take 2 rfl (ev_move rfl) (.none rfl) rfl rfl rfl (by kernel_rfl) (by kernel_rfl) (by kernel_rfl) noP_ok hD (by repeat (first | exact .refl | exact subL_nil | refine .drop ?_ | refine subL_add ?_)) ?_
    refine XD_takeW 3 rfl rfl rfl (dj := 130) rfl (ev_move rfl) rfl (by kernel_rfl) (by kernel_rfl) (by kernel_rfl) noP_ok hD (by repeat (first | exact .refl | exact subL_nil | refine .drop ?_ | refine subL_add ?_)) ?_
    refine XD_takeW 4 rfl rfl rfl (dj := 130) rfl (ev_cmp rfl rfl rfl) rfl (by kernel_rfl) (by kernel_rfl) (by kernel_rfl) noP_ok hD (by repeat (first | exact .refl | exact subL_nil | refine .drop ?_ | refine subL_add ?_)) ?_
    refine XD_take 5 rfl (ev_pickb rfl rfl rfl) (.none rfl) rfl rfl rfl (by kernel_rfl) (by kernel_rfl) (by kernel_rfl) noP_ok hD (by repeat (first | exact .refl | exact subL_nil | refine .drop ?_ | refine subL_add ?_)) ?_
    refine XD_take 6 rfl (ev_move rfl) (.none rfl) rfl rfl rfl (by kernel_rfl) (by kernel_rfl) (by kernel_rfl) noP_ok hD (by repeat (first | exact .refl | exact subL_nil | refine .drop ?_ | refine subL_add ?_)) ?_
    refine XD_takeW 7 rfl rfl rfl (dj := 134) rfl (ev_move rfl) rfl (by kernel_rfl) (by kernel_rfl) (by kernel_rfl) noP_ok hD (by repeat (first | exact .refl | exact subL_nil | refine .drop ?_ | refine subL_add ?_)) ?_
    refine XD_takeW 8 rfl rfl rfl (dj := 134) rfl (ev_cmp rfl rfl rfl) rfl (by kernel_rfl) (by kernel_rfl) (by kernel_rfl) noP_ok hD (by repeat (first | exact .refl | exact subL_nil | refine .drop ?_ | refine subL_add ?_)) ?_
    refine XD_take 9 rfl (ev_pickb rfl rfl rfl) (.none rfl) rfl rfl rfl (by kernel_rfl) (by kernel_rfl) (by kernel_rfl) noP_ok hD (by repeat (first | exact .refl | exact subL_nil | refine .drop ?_ | refine subL_add ?_)) ?_
    refine XD_take 10 rfl (ev_move rfl) (.none rfl) rfl rfl rfl (by kernel_rfl) (by kernel_rfl) (by kernel_rfl) noP_ok hD (by repeat (first | exact .refl | exact subL_nil | refine .drop ?_ | refine subL_add ?_)) ?_
    refine XD_takeW 11 rfl rfl rfl (dj := 138) rfl (ev_move rfl) rfl (by kernel_rfl) (by kernel_rfl) (by kernel_rfl) noP_ok hD (by repeat (first | exact .refl | exact subL_nil | refine .drop ?_ | refine subL_add ?_)) ?_
    refine XD_takeW 12 rfl rfl rfl (dj := 138) rfl (ev_cmp rfl rfl rfl) rfl (by kernel_rfl) (by kernel_rfl) (by kernel_rfl) noP_ok hD (by repeat (first | exact .refl | exact subL_nil | refine .drop ?_ | refine subL_add ?_)) ?_
    refine XD_take 13 rfl (ev_pickb rfl rfl rfl) (.none rfl) rfl rfl rfl (by kernel_rfl) (by kernel_rfl) (by kernel_rfl) noP_ok hD (by repeat (first | exact .refl | exact subL_nil | refine .drop ?_ | refine subL_add ?_)) ?_
    refine XD_take 14 rfl (ev_move rfl) (.none rfl) rfl rfl rfl (by kernel_rfl) (by kernel_rfl) (by kernel_rfl) noP_ok hD (by repeat (first | exact .refl | exact subL_nil | refine .drop ?_ | refine subL_add ?_)) ?_
    refine XD_takeW 15 rfl rfl rfl (dj := 142) rfl (ev_move rfl) rfl (by kernel_rfl) (by kernel_rfl) (by kernel_rfl) noP_ok hD (by repeat (first | exact .refl | exact subL_nil | refine .drop ?_ | refine subL_add ?_)) ?_
    refine XD_takeW 16 rfl rfl rfl (dj := 142) rfl (ev_cmp rfl rfl rfl) rfl (by kernel_rfl) (by kernel_rfl) (by kernel_rfl) noP_ok hD (by repeat (first | exact .refl | exact subL_nil | refine .drop ?_ | refine subL_add ?_)) ?_
    refine XD_take 17 rfl (ev_pickb rfl rfl rfl) (.none rfl) rfl rfl rfl (by kernel_rfl) (by kernel_rfl) (by kernel_rfl) noP_ok hD (by repeat (first | exact .refl | exact subL_nil | refine .drop ?_ | refine subL_add ?_)) ?_
    refine XD_take 18 rfl (ev_move rfl) (.none rfl) rfl rfl rfl (by kernel_rfl) (by kernel_rfl) (by kernel_rfl) noP_ok hD (by repeat (first | exact .refl | exact subL_nil | refine .drop ?_ | refine subL_add ?_)) ?_
    refine XD_takeW 19 rfl rfl rfl (dj := 146) rfl (ev_move rfl) rfl (by kernel_rfl) (by kernel_rfl) (by kernel_rfl) noP_ok hD (by repeat (first | exact .refl | exact subL_nil | refine .drop ?_ | refine subL_add ?_)) ?_
    refine XD_one 20 rfl (by kernel_rfl) ?_
    refine XO_want (dj := 146) rfl rfl rfl ?_
    refine XO_callV0 (cap := []) (vs := [_]) rfl rfl fun_14 (s_chk hL (by decide) (by kernel_rfl : chk exL = 0)) rfl rfl ?_
    refine XO_nil ?_
    refine at_D hD (by repeat (first | exact .refl | exact subL_nil | refine .drop ?_ | refine subL_add ?_)) ?_
    refine XD_takeW 21 rfl rfl rfl (dj := 146) rfl (ev_cmp rfl rfl rfl) rfl (by kernel_rfl) (by kernel_rfl) (by kernel_rfl) noP_ok hD (by repeat (first | exact .refl | exact subL_nil | refine .drop ?_ | refine subL_add ?_)) ?_
    refine XD_take 22 rfl (ev_pickb rfl rfl rfl) (.none rfl) rfl rfl rfl (by kernel_rfl) (by kernel_rfl) (by kernel_rfl) noP_ok hD (by repeat (first | exact .refl | exact subL_nil | refine .drop ?_ | refine subL_add ?_)) ?_
    refine XD_take 23 rfl (ev_move rfl) (.none rfl) rfl rfl rfl (by kernel_rfl) (by kernel_rfl) (by kernel_rfl) noP_ok hD (by repeat (first | exact .refl | exact subL_nil | refine .drop ?_ | refine subL_add ?_)) ?_
    refine XD_takeW 24 rfl rfl rfl (dj := 151) rfl (ev_move rfl) rfl (by kernel_rfl) (by kernel_rfl) (by kernel_rfl) noP_ok hD (by repeat (first | exact .refl | exact subL_nil | refine .drop ?_ | refine subL_add ?_)) ?_
    refine XD_takeW 25 rfl rfl rfl (dj := 151) rfl (ev_indexSl rfl rfl slt_22 (by assumption) (fun hg => by decide)) rfl (by kernel_rfl) (by kernel_rfl) (by kernel_rfl) noP_ok hD (by repeat (first | exact .refl | exact subL_nil | refine .drop ?_ | refine subL_add ?_)) ?_
    refine XD_takeW 26 rfl rfl rfl (dj := 151) rfl (ev_loadA rfl agt_24 (fun hg => by first | exact Sl.getA (k := 1) (x := e2) hL rfl | exact Sl.getA (k := 0) (x := e1) hL rfl | exact Sl.getA (k := 1) (x := e2) hL0 rfl | exact Sl.getA (k := 0) (x := e1) hL0 rfl | exact Cells.g0 | exact Cells.g1 | exact Cells.g2 | exact Cells.g3 | exact Cells.g4 | exact Cells.g5 | (repeat (first | exact Cells.here | apply Cells.there | apply Cells.app))) rfl) rfl (by kernel_rfl) (by kernel_rfl) (by kernel_rfl) noP_ok hD (by repeat (first | exact .refl | exact subL_nil | refine .drop ?_ | refine subL_add ?_)) ?_
    refine XD_takeW 27 rfl rfl rfl (dj := 151) rfl (ev_move rfl) rfl (by kernel_rfl) (by kernel_rfl) (by kernel_rfl) noP_ok hD (by repeat (first | exact .refl | exact subL_nil | refine .drop ?_ | refine subL_add ?_)) ?_
    refine XD_takeW 28 rfl rfl rfl (dj := 151) rfl (ev_indexSl rfl rfl slt_22 (by assumption) (fun hg => by decide)) rfl (by kernel_rfl) (by kernel_rfl) (by kernel_rfl) noP_ok hD (by repeat (first | exact .refl | exact subL_nil | refine .drop ?_ | refine subL_add ?_)) ?_
    refine XD_takeW 29 rfl rfl rfl (dj := 151) rfl (ev_loadA rfl agt_24 (fun hg => by first | exact Sl.getA (k := 1) (x := e2) hL rfl | exact Sl.getA (k := 0) (x := e1) hL rfl | exact Sl.getA (k := 1) (x := e2) hL0 rfl | exact Sl.getA (k := 0) (x := e1) hL0 rfl | exact Cells.g0 | exact Cells.g1 | exact Cells.g2 | exact Cells.g3 | exact Cells.g4 | exact Cells.g5 | (repeat (first | exact Cells.here | apply Cells.there | apply Cells.app))) rfl) rfl (by kernel_rfl) (by kernel_rfl) (by kernel_rfl) noP_ok hD (by repeat (first | exact .refl | exact subL_nil | refine .drop ?_ | refine subL_add ?_)) ?_
    refine XD_one 30 rfl (by kernel_rfl) ?_
    refine XO_want (dj := 151) rfl rfl rfl ?_
    refine XO_buildSlice (ps := [(0, _), (1, _)]) (m := [encL e2, encL e1]) elt_22 rfl (.cons rfl (.cons rfl (.nil))) rfl (by simp [encL_len, encI_len, encH_len]) (by decide) (by decide) rfl rfl (fun b_158 => ?_)
    refine XO_nil ?_
    refine at_D hD (by repeat (first | exact .refl | exact subL_nil | refine .drop ?_ | refine subL_add ?_)) ?_
    refine XD_one 31 rfl (by kernel_rfl) ?_
    refine XO_freeze .here (fun I15 hI15 hb15 => ?_)
    have hL := hL.mono hI15
    have hP := hP.mono hI15
    have hH := hH.mono hI15
    have hV2 := hV2.mono hI15
    have hV1 := hV1.mono hI15
    have hA25 := hA25.mono hI15
    have hB4 := hB4.mono hI15
    have hA7 := hA7.mono hI15
    have hN0 := hN0.mono hI15
    have hY := hY.mono hI15
    have hIc := hIc.trans hI15
    have hD := hD.trans hI15
    have hSw := Sl.lit ([e2, e1] : List Ls) rfl encL_len (show _ = some (Obj.cells (([e2, e1] : List Ls).flatMap encL).toArray 24 (0, 0)) from hb15)
    refine XO_want (dj := 151) rfl rfl rfl ?_
    refine XO_callV0 (cap := []) (vs := [_]) rfl rfl fun_14 (s_chk hSw (by decide) (by kernel_rfl : chk [e2, e1] = 390)) rfl rfl ?_
    refine XO_nil ?_
    refine at_D hD (by repeat (first | exact .refl | exact subL_nil | refine .drop ?_ | refine subL_add ?_)) ?_
    refine XD_takeW 32 rfl rfl rfl (dj := 151) rfl (ev_cmp rfl rfl rfl) rfl (by kernel_rfl) (by kernel_rfl) (by kernel_rfl) noP_ok hD (by repeat (first | exact .refl | exact subL_nil | refine .drop ?_ | refine subL_add ?_)) ?_
    refine XD_take 33 rfl (ev_pickb rfl rfl rfl) (.none rfl) rfl rfl rfl (by kernel_rfl) (by kernel_rfl) (by kernel_rfl) noP_ok hD (by repeat (first | exact .refl | exact subL_nil | refine .drop ?_ | refine subL_add ?_)) ?_
    refine XD_done (by kernel_rfl) ?_
    refine at_noP ?_
    refine at_then ?_
    refine X_cond rfl (fun hc161 => ?_) (fun hc161 => ?_)
    · skip
      exact absurd hc161 (by decide)
    · skip
      refine X_skip ?_
      refine at_then ?_
      refine X_seq ?_
      have hL0 := hL
      have hD := HLe.refl I15
      refine X_drawC mixed ?_
      refine XD_take 0 rfl (ev_move rfl) (.none rfl) rfl rfl rfl (by kernel_rfl) (by kernel_rfl) (by kernel_rfl) noP_ok hD (by repeat (first | exact .refl | exact subL_nil | refine .drop ?_ | refine subL_add ?_)) ?_
      refine XD_one 1 rfl (by kernel_rfl) ?_
      refine XO_buildSlice (ps := [(0, _), (1, _)]) (m := [encI 2, encI 5]) elt_35 rfl (.cons rfl (.cons rfl (.nil))) rfl (by simp [encL_len, encI_len, encH_len]) (by decide) (by decide) rfl rfl (fun b_163 => ?_)
      refine XO_nil ?_
      refine at_D hD (by repeat (first | exact .refl | exact subL_nil | refine .drop ?_ | refine subL_add ?_)) ?_
      refine XD_one 2 rfl (by kernel_rfl) ?_
      refine XO_freeze .here (fun I16 hI16 hb16 => ?_)
      have hL := hL.mono hI16
      have hP := hP.mono hI16
      have hH := hH.mono hI16
      have hV2 := hV2.mono hI16
      have hV1 := hV1.mono hI16
      have hA25 := hA25.mono hI16
      have hB4 := hB4.mono hI16
      have hA7 := hA7.mono hI16
      have hN0 := hN0.mono hI16
      have hY := hY.mono hI16
      have hIc := hIc.trans hI16
      have hD := hD.trans hI16
      have h25 := Sl.lit ([2, 5] : List Int) rfl encI_len (show _ = some (Obj.cells (([2, 5] : List Int).flatMap encI).toArray 3 (0, 0)) from hb16)
      refine XO_callV0 (cap := []) (vs := [_, _]) rfl rfl fun_21 (s_sameI hA25 h25 (by rw [← hA25.len]; decide) rfl) rfl rfl ?_
      refine XO_nil ?_
      refine at_D hD (by repeat (first | exact .refl | exact subL_nil | refine .drop ?_ | refine subL_add ?_)) ?_
      refine XD_take 3 rfl (ev_move rfl) (.none rfl) rfl rfl rfl (by kernel_rfl) (by kernel_rfl) (by kernel_rfl) noP_ok hD (by repeat (first | exact .refl | exact subL_nil | refine .drop ?_ | refine subL_add ?_)) ?_
      refine XD_takeW 4 rfl rfl rfl (dj := 165) rfl (ev_move rfl) rfl (by kernel_rfl) (by kernel_rfl) (by kernel_rfl) noP_ok hD (by repeat (first | exact .refl | exact subL_nil | refine .drop ?_ | refine subL_add ?_)) ?_
      refine XD_one 5 rfl (by kernel_rfl) ?_
      refine XO_want (dj := 165) rfl rfl rfl ?_
      refine XO_buildSlice (ps := [(0, _)]) (m := [encI 4]) elt_35 rfl (.cons rfl (.nil)) rfl (by simp [encL_len, encI_len, encH_len]) (by decide) (by decide) rfl rfl (fun b_167 => ?_)
      refine XO_nil ?_
      refine at_D hD (by repeat (first | exact .refl | exact subL_nil | refine .drop ?_ | refine subL_add ?_)) ?_
      refine XD_one 6 rfl (by kernel_rfl) ?_
      refine XO_freeze .here (fun I17 hI17 hb17 => ?_)
      have hL := hL.mono hI17
      have hP := hP.mono hI17
      have hH := hH.mono hI17
      have hV2 := hV2.mono hI17
      have hV1 := hV1.mono hI17
      have hA25 := hA25.mono hI17
      have hB4 := hB4.mono hI17
      have hA7 := hA7.mono hI17
      have hN0 := hN0.mono hI17
      have hY := hY.mono hI17
      have hIc := hIc.trans hI17
      have hD := hD.trans hI17
      have h4 := Sl.lit ([4] : List Int) rfl encI_len (show _ = some (Obj.cells (([4] : List Int).flatMap encI).toArray 3 (0, 0)) from hb17)
      refine XO_want (dj := 165) rfl rfl rfl ?_
      refine XO_callV0 (cap := []) (vs := [_, _]) rfl rfl fun_21 (s_sameI hB4 h4 (by rw [← hB4.len]; decide) rfl) rfl rfl ?_
      refine XO_nil ?_
      refine at_D hD (by repeat (first | exact .refl | exact subL_nil | refine .drop ?_ | refine subL_add ?_)) ?_
      refine XD_take 7 rfl (ev_pickb rfl rfl rfl) (.none rfl) rfl rfl rfl (by kernel_rfl) (by kernel_rfl) (by kernel_rfl) noP_ok hD (by repeat (first | exact .refl | exact subL_nil | refine .drop ?_ | refine subL_add ?_)) ?_
      refine XD_take 8 rfl (ev_move rfl) (.none rfl) rfl rfl rfl (by kernel_rfl) (by kernel_rfl) (by kernel_rfl) noP_ok hD (by repeat (first | exact .refl | exact subL_nil | refine .drop ?_ | refine subL_add ?_)) ?_
      refine XD_takeW 9 rfl rfl rfl (dj := 170) rfl (ev_move rfl) rfl (by kernel_rfl) (by kernel_rfl) (by kernel_rfl) noP_ok hD (by repeat (first | exact .refl | exact subL_nil | refine .drop ?_ | refine subL_add ?_)) ?_
      refine XD_one 10 rfl (by kernel_rfl) ?_
      refine XO_want (dj := 170) rfl rfl rfl ?_
      refine XO_buildSlice (ps := [(0, _)]) (m := [encI 7]) elt_35 rfl (.cons rfl (.nil)) rfl (by simp [encL_len, encI_len, encH_len]) (by decide) (by decide) rfl rfl (fun b_172 => ?_)
      refine XO_nil ?_
      refine at_D hD (by repeat (first | exact .refl | exact subL_nil | refine .drop ?_ | refine subL_add ?_)) ?_
      refine XD_one 11 rfl (by kernel_rfl) ?_
      refine XO_freeze .here (fun I18 hI18 hb18 => ?_)
      have hL := hL.mono hI18
      have hP := hP.mono hI18
      have hH := hH.mono hI18
      have hV2 := hV2.mono hI18
      have hV1 := hV1.mono hI18
      have hA25 := hA25.mono hI18
      have hB4 := hB4.mono hI18
      have hA7 := hA7.mono hI18
      have hN0 := hN0.mono hI18
      have hY := hY.mono hI18
      have hIc := hIc.trans hI18
      have hD := hD.trans hI18
      have h7 := Sl.lit ([7] : List Int) rfl encI_len (show _ = some (Obj.cells (([7] : List Int).flatMap encI).toArray 3 (0, 0)) from hb18)
      refine XO_want (dj := 170) rfl rfl rfl ?_
      refine XO_callV0 (cap := []) (vs := [_, _]) rfl rfl fun_21 (s_sameI hA7 h7 (by rw [← hA7.len]; decide) rfl) rfl rfl ?_
      refine XO_nil ?_
      refine at_D hD (by repeat (first | exact .refl | exact subL_nil | refine .drop ?_ | refine subL_add ?_)) ?_
      refine XD_take 12 rfl (ev_pickb rfl rfl rfl) (.none rfl) rfl rfl rfl (by kernel_rfl) (by kernel_rfl) (by kernel_rfl) noP_ok hD (by repeat (first | exact .refl | exact subL_nil | refine .drop ?_ | refine subL_add ?_)) ?_
      refine XD_take 13 rfl (ev_move rfl) (.none rfl) rfl rfl rfl (by kernel_rfl) (by kernel_rfl) (by kernel_rfl) noP_ok hD (by repeat (first | exact .refl | exact subL_nil | refine .drop ?_ | refine subL_add ?_)) ?_
      refine XD_takeW 14 rfl rfl rfl (dj := 175) rfl (ev_move rfl) rfl (by kernel_rfl) (by kernel_rfl) (by kernel_rfl) noP_ok hD (by repeat (first | exact .refl | exact subL_nil | refine .drop ?_ | refine subL_add ?_)) ?_
      refine XD_takeW 15 rfl rfl rfl (dj := 175) rfl (ev_lenS rfl slt_35) rfl (by kernel_rfl) (by kernel_rfl) (by kernel_rfl) noP_ok hD (by repeat (first | exact .refl | exact subL_nil | refine .drop ?_ | refine subL_add ?_)) ?_
      refine XD_takeW 16 rfl rfl rfl (dj := 175) rfl (ev_cmp rfl rfl rfl) rfl (by kernel_rfl) (by kernel_rfl) (by kernel_rfl) noP_ok hD (by repeat (first | exact .refl | exact subL_nil | refine .drop ?_ | refine subL_add ?_)) ?_
      refine XD_take 17 rfl (ev_pickb rfl rfl rfl) (.none rfl) rfl rfl rfl (by kernel_rfl) (by kernel_rfl) (by kernel_rfl) noP_ok hD (by repeat (first | exact .refl | exact subL_nil | refine .drop ?_ | refine subL_add ?_)) ?_
      refine XD_take 18 rfl (ev_move rfl) (.none rfl) rfl rfl rfl (by kernel_rfl) (by kernel_rfl) (by kernel_rfl) noP_ok hD (by repeat (first | exact .refl | exact subL_nil | refine .drop ?_ | refine subL_add ?_)) ?_
      refine XD_takeW 19 rfl rfl rfl (dj := 180) rfl (ev_move rfl) rfl (by kernel_rfl) (by kernel_rfl) (by kernel_rfl) noP_ok hD (by repeat (first | exact .refl | exact subL_nil | refine .drop ?_ | refine subL_add ?_)) ?_
      refine XD_takeW 20 rfl rfl rfl (dj := 180) rfl (ev_move rfl) rfl (by kernel_rfl) (by kernel_rfl) (by kernel_rfl) noP_ok hD (by repeat (first | exact .refl | exact subL_nil | refine .drop ?_ | refine subL_add ?_)) ?_
      refine XD_takeW 21 rfl rfl rfl (dj := 180) rfl (ev_indexSl rfl rfl slt_22 (by assumption) (fun hg => by decide)) rfl (by kernel_rfl) (by kernel_rfl) (by kernel_rfl) noP_ok hD (by repeat (first | exact .refl | exact subL_nil | refine .drop ?_ | refine subL_add ?_)) ?_
      refine XD_takeW 22 rfl rfl rfl (dj := 180) rfl (ev_loadA rfl agt_24 (fun hg => by first | exact Sl.getA (k := 1) (x := e2) hL rfl | exact Sl.getA (k := 0) (x := e1) hL rfl | exact Sl.getA (k := 1) (x := e2) hL0 rfl | exact Sl.getA (k := 0) (x := e1) hL0 rfl | exact Cells.g0 | exact Cells.g1 | exact Cells.g2 | exact Cells.g3 | exact Cells.g4 | exact Cells.g5 | (repeat (first | exact Cells.here | apply Cells.there | apply Cells.app))) rfl) rfl (by kernel_rfl) (by kernel_rfl) (by kernel_rfl) noP_ok hD (by repeat (first | exact .refl | exact subL_nil | refine .drop ?_ | refine subL_add ?_)) ?_
      refine XD_takeW 23 rfl rfl rfl (dj := 180) rfl (ev_buildL (ps := [(0, _)]) [_, _, _, _, _] plt_24 rfl rfl) rfl (by kernel_rfl) (by kernel_rfl) (by kernel_rfl) noP_ok hD (by repeat (first | exact .refl | exact subL_nil | refine .drop ?_ | refine subL_add ?_)) ?_
      refine XD_takeW 24 rfl rfl rfl (dj := 180) rfl (ev_move rfl) rfl (by kernel_rfl) (by kernel_rfl) (by kernel_rfl) noP_ok hD (by repeat (first | exact .refl | exact subL_nil | refine .drop ?_ | refine subL_add ?_)) ?_
      refine XD_takeW 25 rfl rfl rfl (dj := 180) rfl (ev_indexSl rfl rfl slt_22 (by assumption) (fun hg => by decide)) rfl (by kernel_rfl) (by kernel_rfl) (by kernel_rfl) noP_ok hD (by repeat (first | exact .refl | exact subL_nil | refine .drop ?_ | refine subL_add ?_)) ?_
      refine XD_takeW 26 rfl rfl rfl (dj := 180) rfl (ev_loadA rfl agt_24 (fun hg => by first | exact Sl.getA (k := 1) (x := e2) hL rfl | exact Sl.getA (k := 0) (x := e1) hL rfl | exact Sl.getA (k := 1) (x := e2) hL0 rfl | exact Sl.getA (k := 0) (x := e1) hL0 rfl | exact Cells.g0 | exact Cells.g1 | exact Cells.g2 | exact Cells.g3 | exact Cells.g4 | exact Cells.g5 | (repeat (first | exact Cells.here | apply Cells.there | apply Cells.app))) rfl) rfl (by kernel_rfl) (by kernel_rfl) (by kernel_rfl) noP_ok hD (by repeat (first | exact .refl | exact subL_nil | refine .drop ?_ | refine subL_add ?_)) ?_
      refine XD_one 27 rfl (by kernel_rfl) ?_
      refine XO_want (dj := 180) rfl rfl rfl ?_
      refine XO_buildSlice (ps := [(0, _), (1, _), (2, _)]) (m := [encL e1, encL ⟨2, 0, 0, 0, 0⟩, encL e2]) elt_22 rfl (.cons rfl (.cons rfl (.cons rfl (.nil)))) rfl (by simp [encL_len, encI_len, encH_len]) (by decide) (by decide) rfl rfl (fun b_189 => ?_)
      refine XO_nil ?_
      refine at_D hD (by repeat (first | exact .refl | exact subL_nil | refine .drop ?_ | refine subL_add ?_)) ?_
      refine XD_one 28 rfl (by kernel_rfl) ?_
      refine XO_freeze .here (fun I19 hI19 hb19 => ?_)
      have hL := hL.mono hI19
      have hP := hP.mono hI19
      have hH := hH.mono hI19
      have hV2 := hV2.mono hI19
      have hV1 := hV1.mono hI19
      have hA25 := hA25.mono hI19
      have hB4 := hB4.mono hI19
      have hA7 := hA7.mono hI19
      have hN0 := hN0.mono hI19
      have hY := hY.mono hI19
      have hIc := hIc.trans hI19
      have hD := hD.trans hI19
      have h3L := Sl.lit ([e1, ⟨2, 0, 0, 0, 0⟩, e2] : List Ls) rfl encL_len (show _ = some (Obj.cells (([e1, ⟨2, 0, 0, 0, 0⟩, e2] : List Ls).flatMap encL).toArray 24 (0, 0)) from hb19)
      refine XO_want (dj := 180) rfl rfl rfl ?_
      refine XO_callV0 (cap := []) (vs := [_, _]) rfl rfl fun_16 (s_same hY h3L (by decide) rfl) rfl rfl ?_
      refine XO_nil ?_
      refine at_D hD (by repeat (first | exact .refl | exact subL_nil | refine .drop ?_ | refine subL_add ?_)) ?_
      refine XD_take 29 rfl (ev_pickb rfl rfl rfl) (.none rfl) rfl rfl rfl (by kernel_rfl) (by kernel_rfl) (by kernel_rfl) noP_ok hD (by repeat (first | exact .refl | exact subL_nil | refine .drop ?_ | refine subL_add ?_)) ?_
      refine XD_take 30 rfl (ev_assign rfl) (.none rfl) rfl rfl rfl (by kernel_rfl) (by kernel_rfl) (by kernel_rfl) noP_ok hD (by repeat (first | exact .refl | exact subL_nil | refine .drop ?_ | refine subL_add ?_)) ?_
      refine XD_done (by kernel_rfl) ?_
      refine at_noP ?_
      refine at_then ?_
      refine X_ret ?_
      exact at_ret1 rfl rfl (fun w hw => ⟨rfl, (hw.mono hIc).drop⟩)
end Go.Proofs.Ytgfggmmffmfolaa
