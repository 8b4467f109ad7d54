/- rehearseFromSpec_holds, part G of the proof: what its theorems say holds without further conditions. -/
import Derived.ProofKit
import Derived.Deep.Slices
import Derived.Test.YtehkiccapbkhnaaGreatRows
import Derived.Test.YtehkiccapbkhnaaGreatRRF
section
namespace Go.Proofs.YtehkiccapbkhnaaGreat
open Go Go.Kn Go.Proofs
theorem fun_122 : Fun Tryz.prog 122 := .of Tryz.func122 (by kernel_rfl) (by kernel_rfl)
theorem fun_123 : Fun Tryz.prog 123 := .of Tryz.func123 (by kernel_rfl) (by kernel_rfl)
theorem fun_124 : Fun Tryz.prog 124 := .of Tryz.func124 (by kernel_rfl) (by kernel_rfl)
theorem fun_48 : Fun Tryz.prog 48 := .of Tryz.func48 (by kernel_rfl) (by kernel_rfl)
theorem r_ch_no {I : HMap} {av bv : Option Addr} {n c n2 c2 : Nat} {ps : List Pt} {ys : List Int} (hP : SlP I av n c ps) (hn : n ≤ 100000) (hL : Lst ps) (hT : Sl I 1 encI bv n2 c2 ys) (hn2 : n2 ≤ 100000) (h : chB ps ys = false) : RetM Tryz.prog 122 [.slice av n c, .slice bv n2 c2] I [] (fun v _ L => v = .tuple #[.slice none 0 0, .bool false] ∧ L = []) :=
 (r_chosen hP hn hL hT hn2).mono fun v I' L _ hq => hq.elim (fun h1 => h1.2) (fun h1 => by rw [h] at h1; cases h1.1)
theorem r_ch_yes {I : HMap} {av bv : Option Addr} {n c n2 c2 : Nat} {ps : List Pt} {ys : List Int} (hP : SlP I av n c ps) (hn : n ≤ 100000) (hL : Lst ps) (hT : Sl I 1 encI bv n2 c2 ys) (hn2 : n2 ≤ 100000) (h : chB ps ys = true) : RetM Tryz.prog 122 [.slice av n c, .slice bv n2 c2] I [] (fun v _ L => ∃ b, v = .tuple #[.slice (some ⟨b, 0, none⟩) n n, .bool true] ∧ L = [(b, .cells (cellsB (ps.map (chF ys))) 4 (0, 0))]) :=
 (r_chosen hP hn hL hT hn2).mono fun v I' L _ hq => hq.elim (fun h1 => by rw [h] at h1; cases h1.1) (fun h1 => h1.2)
theorem r_Closure_no {I : HMap} {av : Option Addr} {n c : Nat} {ps : List Pt} (hP : SlP I av n c ps) (hn : n ≤ 100000) {bv : Option Addr} {n2 c2 : Nat} {ys : List Int} (hT : Sl I 1 encI bv n2 c2 ys) (hn2 : n2 ≤ 100000) (hch : chB ps ys = false) : RetM Tryz.prog 86 [.slice av n c, .slice bv n2 c2] I [] (Res2 (cloE ps ys) (resF (cloE ps ys) (cloF ps ys))) := by
 intro g H w hw
 refine enter Tryz.func86 rfl Tryz.ntmps86 rfl hw ?_
 have hIc := HLe.refl I
 refine zR ?_
 refine zA ?_
 refine zA ?_
 refine zN (zR ?_)
 refine zM ?_
 refine XO_callV0 (cap := []) (vs := [_]) rfl rfl fun_48 (r_chkR hP hn) rfl rfl ?_
 refine zA ?_
 refine zN ?_
 refine X_seq ?_
 refine zR ?_
 refine zM ?_
 refine zC ?_
 refine zN ?_
 refine X_cond rfl (fun hc12 => ?_) (fun hc12 => ?_)
 ·
  have hck : chkR ps ≠ 0 := by simpa using hc12
  refine zR ?_
  refine zM ?_
  refine zA ?_
  refine zA ?_
  refine zN ?_
  refine X_ret ?_
  refine at_then_r ?_
  first
  | exact at_ret2 rfl rfl rfl (fun w hw => ⟨_, I, [], rfl, hIc, hw.drop, by rw [cloE_bad hck]; exact Res2.empty (resF_bad (by first | assumption | decide))⟩)
 have hck : chkR ps = 0 := by simpa using hc12
 have hL := chkR_lst hck
 have hnd := nd_chk hP hck
 refine X_skip ?_
 refine at_then ?_
 refine X_seq ?_
 refine zR ?_
 refine zM ?_
 refine XO_v0 (ev_lenS rfl slt_23) rfl rfl rfl ?_
 refine zC ?_
 refine zN ?_
 refine X_cond rfl (fun hc16 => ?_) (fun hc16 => ?_)
 ·
  have hlen : ys.length > 512 := by rw [hT.len]; simp at hc16; omega
  refine zR ?_
  refine zA ?_
  refine zA ?_
  refine zN ?_
  refine X_ret ?_
  refine at_then_r ?_
  first
  | exact at_ret2 rfl rfl rfl (fun w hw => ⟨_, I, [], rfl, hIc, hw.drop, by rw [cloE_ok hck, clE_1 hlen]; exact Res2.empty (resF_bad (by first | assumption | decide))⟩)
 have hlen : ¬ ys.length > 512 := by rw [hT.len]; simp at hc16; omega
 refine X_skip ?_
 refine at_then ?_
 refine zR ?_
 refine zM ?_
 refine zM ?_
 refine XO_callM (cap := []) (vs := [_, _]) rfl rfl fun_122 .nil (r_ch_no hP hn hL hT hn2 hch) rfl rfl ?_
 rintro vv1 I1 L1 hI1 ⟨rfl, rfl⟩
 have hP := hP.mono hI1; have hT := hT.mono hI1; have hIc := hIc.trans hI1
 refine zM ?_
 refine XO_v0 (ev_extract rfl rfl) rfl rfl rfl ?_
 refine XO_v0 (ev_extract rfl rfl) rfl rfl rfl ?_
 refine zA ?_
 refine zA ?_
 refine zN ?_
 refine X_seq ?_
 refine zR ?_
 refine zM ?_
 refine XO_v0 (ev_not rfl) rfl rfl rfl ?_
 refine zN ?_
 refine X_cond rfl (fun hc24 => ?_) (fun hc24 => ?_)
 ·
  refine zR ?_
  refine zA ?_
  refine zA ?_
  refine zN ?_
  refine X_ret ?_
  refine at_then_r ?_
  first
  | exact at_ret2 rfl rfl rfl (fun w hw => ⟨_, I1, [], rfl, hIc, hw.drop, by rw [cloE_ok hck, clE_2 hlen hch]; exact Res2.empty (resF_bad (by first | assumption | decide))⟩)
 cases hc24
theorem r_Closure_yes {I : HMap} {av : Option Addr} {n c : Nat} {ps : List Pt} (hP : SlP I av n c ps) (hn : n ≤ 100000) {bv : Option Addr} {n2 c2 : Nat} {ys : List Int} (hT : Sl I 1 encI bv n2 c2 ys) (hn2 : n2 ≤ 100000) (hch : chB ps ys = true) : RetM Tryz.prog 86 [.slice av n c, .slice bv n2 c2] I [] (Res2 (cloE ps ys) (resF (cloE ps ys) (cloF ps ys))) := by
 intro g H w hw
 refine enter Tryz.func86 rfl Tryz.ntmps86 rfl hw ?_
 have hIc := HLe.refl I
 refine zR ?_
 refine zA ?_
 refine zA ?_
 refine zN (zR ?_)
 refine zM ?_
 refine XO_callV0 (cap := []) (vs := [_]) rfl rfl fun_48 (r_chkR hP hn) rfl rfl ?_
 refine zA ?_
 refine zN ?_
 refine X_seq ?_
 refine zR ?_
 refine zM ?_
 refine zC ?_
 refine zN ?_
 refine X_cond rfl (fun hc12 => ?_) (fun hc12 => ?_)
 ·
  have hck : chkR ps ≠ 0 := by simpa using hc12
  refine zR ?_
  refine zM ?_
  refine zA ?_
  refine zA ?_
  refine zN ?_
  refine X_ret ?_
  refine at_then_r ?_
  first
  | exact at_ret2 rfl rfl rfl (fun w hw => ⟨_, I, [], rfl, hIc, hw.drop, by rw [cloE_bad hck]; exact Res2.empty (resF_bad (by first | assumption | decide))⟩)
 have hck : chkR ps = 0 := by simpa using hc12
 have hL := chkR_lst hck
 have hnd := nd_chk hP hck
 refine X_skip ?_
 refine at_then ?_
 refine X_seq ?_
 refine zR ?_
 refine zM ?_
 refine XO_v0 (ev_lenS rfl slt_23) rfl rfl rfl ?_
 refine zC ?_
 refine zN ?_
 refine X_cond rfl (fun hc16 => ?_) (fun hc16 => ?_)
 ·
  have hlen : ys.length > 512 := by rw [hT.len]; simp at hc16; omega
  refine zR ?_
  refine zA ?_
  refine zA ?_
  refine zN ?_
  refine X_ret ?_
  refine at_then_r ?_
  first
  | exact at_ret2 rfl rfl rfl (fun w hw => ⟨_, I, [], rfl, hIc, hw.drop, by rw [cloE_ok hck, clE_1 hlen]; exact Res2.empty (resF_bad (by first | assumption | decide))⟩)
 have hlen : ¬ ys.length > 512 := by rw [hT.len]; simp at hc16; omega
 refine X_skip ?_
 refine at_then ?_
 refine zR ?_
 refine zM ?_
 refine zM ?_
 refine XO_callM (cap := []) (vs := [_, _]) rfl rfl fun_122 .nil (r_ch_yes hP hn hL hT hn2 hch) rfl rfl ?_
 rintro vv1 I1 L1 hI1 ⟨b9, rfl, rfl⟩
 have hP := hP.mono hI1; have hT := hT.mono hI1; have hIc := hIc.trans hI1
 refine zM ?_
 refine XO_v0 (ev_extract rfl rfl) rfl rfl rfl ?_
 refine XO_v0 (ev_extract rfl rfl) rfl rfl rfl ?_
 refine zA ?_
 refine zA ?_
 refine zN ?_
 refine X_seq ?_
 refine zR ?_
 refine zM ?_
 refine XO_v0 (ev_not rfl) rfl rfl rfl ?_
 refine zN ?_
 refine X_cond rfl (fun hc24 => ?_) (fun hc24 => ?_)
 ·
  cases hc24
 refine X_skip ?_
 refine at_then ?_
 refine zR ?_
 refine zM ?_
 refine zM ?_
 refine zM ?_
 refine XO_callM (cap := []) (vs := [_, _]) rfl rfl fun_124 (by repeat (first | exact .cons .here .nil | exact split_all | exact split_app | apply split_cons | apply split_skip)) (r_closed hP hn hL hnd (RowP.of ps (chF ys)) b9) rfl rfl ?_
 rintro vv2 I2 L2 hI2 ⟨Lo, rfl, hO⟩
 have hP := hP.mono hI2; have hT := hT.mono hI2; have hIc := hIc.trans hI2
 refine XO_freezeO hO encB_len (by decide) (split_asc split_app) (fun I3 hI3 af3 cf3 ef3 hF => ?_)
 subst ef3
 have hP := hP.mono hI3; have hT := hT.mono hI3; have hIc := hIc.trans hI3
 refine XO_callM (cap := []) (vs := [_, _]) rfl rfl fun_123 .nil (r_ids hP hn hF) rfl rfl ?_
 rintro vv4 I4 L4 hI4 ⟨rfl, a9, c9, rfl, hR⟩
 have hP := hP.mono hI4; have hT := hT.mono hI4; have hF := hF.mono hI4; have hIc := hIc.trans hI4
 refine zA ?_
 refine zA ?_
 refine zN ?_
 refine X_ret ?_
 first
 | exact at_ret2 rfl rfl rfl (fun w hw => ⟨_, I4, [], rfl, hIc, hw.drop, by rw [cloE_ok hck, clE_3 hlen hch]; exact Res2.good rfl (by rw [resF_ok rfl, ids_clo hL hch]) hR⟩)
end Go.Proofs.YtehkiccapbkhnaaGreat
end
section
namespace Go.Proofs.YtehkiccapbkhnaaGreat
open Go Go.Kn Go.Proofs
section
variable {ps pre : List Pt} {tg : List Int} {has : List (List Int)} {p q : Pt} {i k : Nat}
def drpB (tg : List Int) (has : List (List Int)) (p : Pt) : Bool := decide (((diffW tg has p.id).length : Int) > 0) && !tg.contains p.id
def lrnB (tg : List Int) (has : List (List Int)) (p : Pt) : Bool := decide (((diffW tg has p.id).length : Int) > 0) && tg.contains p.id
def drpK (ps : List Pt) (tg : List Int) (has : List (List Int)) (i : Nat) : List Pt := ((ps.drop i).filter (drpB tg has)).reverse
def lrnK (ps : List Pt) (tg : List Int) (has : List (List Int)) (k : Nat) : List Pt := drpK ps tg has 0 ++ (ps.take k).filter (lrnB tg has)
theorem drp_yes (h : ps[i]? = some p) (hb : drpB tg has p = true) : drpK ps tg has i = drpK ps tg has (i + 1) ++ [p] := by
  unfold drpK; rw [drop_cons h, List.filter_cons, if_pos hb, List.reverse_cons]
theorem drp_no (h : ps[i]? = some p) (hb : drpB tg has p = false) : drpK ps tg has i = drpK ps tg has (i + 1) := by
  unfold drpK; rw [drop_cons h, List.filter_cons, if_neg (by rw [hb]; decide)]
theorem drp_0 {n : Nat} (h : ps.length = n) : drpK ps tg has n = [] := by unfold drpK; rw [List.drop_eq_nil_of_le (by omega)]; rfl
theorem lrn_yes (h : ps[k]? = some p) (hb : lrnB tg has p = true) : lrnK ps tg has (k + 1) = lrnK ps tg has k ++ [p] := by
  unfold lrnK; rw [List.take_add_one, h, List.filter_append, ← List.append_assoc]; simp [hb]
theorem lrn_no (h : ps[k]? = some p) (hb : lrnB tg has p = false) : lrnK ps tg has (k + 1) = lrnK ps tg has k := by
  unfold lrnK; rw [List.take_add_one, h, List.filter_append]; simp [hb]
theorem lrn_0 : lrnK ps tg has 0 = drpK ps tg has 0 := by unfold lrnK; simp
theorem isE_len (l : List Int) : (!l.isEmpty) = decide ((l.length : Int) > 0) := by cases l <;> simp
theorem lrn_all {n : Nat} (h : ps.length = n) (hk : n ≤ k) : lrnK ps tg has k = keptP ps tg has := by
  unfold lrnK drpK keptP ordP
  rw [List.take_of_length_le (by omega), List.drop_zero, List.filter_append, List.filter_reverse, List.filter_filter, List.filter_filter]
  have e1 : drpB tg has = fun a : Pt => (!(diffW tg has a.id).isEmpty) && !tg.contains a.id := by funext p; unfold drpB; rw [isE_len]
  have e2 : lrnB tg has = fun a : Pt => (!(diffW tg has a.id).isEmpty) && tg.contains a.id := by funext p; unfold lrnB; rw [isE_len]
  rw [e1, e2]
theorem drp_len (i : Nat) : (drpK ps tg has i).length ≤ ps.length := by
  unfold drpK
  rw [List.length_reverse]
  have h1 := List.length_filter_le (drpB tg has) (ps.drop i)
  rw [List.length_drop] at h1; omega
theorem lrn_len (k : Nat) : (lrnK ps tg has k).length ≤ 2 * ps.length := by
  unfold lrnK
  rw [List.length_append]
  have h1 := List.length_filter_le (lrnB tg has) (ps.take k)
  have h2 := drp_len (ps := ps) (tg := tg) (has := has) 0
  rw [List.length_take] at h1; omega
theorem drp_mem (h : p ∈ drpK ps tg has i) : p ∈ ps ∧ drpB tg has p = true := by
  unfold drpK at h
  rw [List.mem_reverse, List.mem_filter] at h
  exact ⟨List.mem_of_mem_drop h.1, h.2⟩
theorem drp_le_lrn (k : Nat) : (drpK ps tg has 0).length ≤ (lrnK ps tg has k).length := by unfold lrnK; rw [List.length_append]; omega
/-- The needs so far. -/
def ndQ (tg : List Int) (p q : Pt) : Bool := if tg.contains p.id then p.needs.contains q.id else q.needs.contains p.id
def ndD (tg : List Int) (pre : List Pt) (p : Pt) (k : Nat) : List Int := ((List.range k).filter fun j => ndQ tg p (pre.getD j zeroP)).map fun (j : Nat) => (j : Int)
theorem nd_yes (h : pre[k]? = some q) (hb : ndQ tg p q = true) : ndD tg pre p (k + 1) = ndD tg pre p k ++ [(k : Int)] := by
  unfold ndD; rw [List.range_succ, List.filter_append, List.map_append]; simp [List.getD_eq_getElem?_getD, h, hb]
theorem nd_no (h : pre[k]? = some q) (hb : ndQ tg p q = false) : ndD tg pre p (k + 1) = ndD tg pre p k := by
  unfold ndD; rw [List.range_succ, List.filter_append, List.map_append]; simp [List.getD_eq_getElem?_getD, h, hb]
theorem nd_full {n : Nat} (h : pre.length = n) : ndD tg pre p n = ndW tg pre p := by subst h; rfl
theorem nd_len (k : Nat) : (ndD tg pre p k).length ≤ k := by
  unfold ndD; rw [List.length_map]
  have := List.length_filter_le (fun j => ndQ tg p (pre.getD j zeroP)) (List.range k)
  rw [List.length_range] at this; exact this
theorem nd_drp (hb : tg.contains p.id = false) (q : Pt) : ndQ tg p q = q.needs.contains p.id := by unfold ndQ; rw [if_neg (by rw [hb]; decide)]
theorem nd_lrn (hb : tg.contains p.id = true) (q : Pt) : ndQ tg p q = p.needs.contains q.id := by unfold ndQ; rw [if_pos hb]
/-- What is learned needs nothing that is dropped. -/
theorem nd_skip (hT : Ver ps tg) (hp : p ∈ ps) (hb : tg.contains p.id = true) : ndD tg (lrnK ps tg has k) p (drpK ps tg has 0).length = [] := by
  unfold ndD
  rw [List.map_eq_nil_iff, List.filter_eq_nil_iff]
  intro j hj
  have hj := List.mem_range.1 hj
  have hq : (lrnK ps tg has k)[j]? = some (drpK ps tg has 0)[j] := by
    unfold lrnK; rw [List.getElem?_append_left hj]; exact List.getElem?_eq_getElem hj
  rw [List.getD_eq_getElem?_getD, hq, Option.getD_some, nd_lrn hb]
  have hm := drp_mem (List.getElem_mem hj)
  have hn : tg.contains ((drpK ps tg has 0)[j]).id = false := by
    have h2 := hm.2
    unfold drpB at h2
    rw [Bool.and_eq_true, Bool.not_eq_true'] at h2; exact h2.2
  intro hc
  have := hT.need p hp (by simpa using hb) _ (by simpa using hc)
  rw [← List.contains_iff_mem] at this
  rw [hn] at this; cases this
theorem ver_val2 (v : List Int) : ((cloE ps v == 0) && (resF (cloE ps v) (cloF ps v) == v)) = verF ps v := by
  unfold verF
  by_cases e : cloE ps v = 0
  · rw [e]; simp [resF]
  · have h1 : (cloE ps v == 0) = false := by simpa using e
    rw [h1]; rfl
theorem all_snoc {α : Type} {xs : List α} {k : Nat} {x : α} {f : α → Bool} (h : xs[k]? = some x) : (xs.take (k + 1)).all f = ((xs.take k).all f && f x) := by
  rw [List.take_add_one, h, List.all_append]; simp
end
/-- A cell of an element of an own slice. -/
theorem OwnS_cell {α : Type} {I : HMap} {e size n k : Nat} {enc : α → List Value} {v : Value} {xs : List α} {x : α} {L : Go.Kn.Loc} (hO : OwnS e size v n (xs.flatMap enc) L) (hs : ∀ x, (enc x).length = size) (hsz : 0 < size) (hx : xs[k]? = some x) (j : Nat) {u : Value} (hj : (enc x)[j]? = some u) :
    k < n ∧ ∃ b c, v = .slice (some ⟨b, 0, none⟩) n c ∧ Cell I L b (k * size + j) u := by
  obtain ⟨h1, b, c, cur, rfl, rfl, h2, h3, _⟩ := hO.spot hs hsz hx
  refine ⟨h1, b, c, rfl, Cell.here ?_⟩
  rw [lget_eq]
  have hjl : j < size := by rw [← hs x]; exact (List.getElem?_eq_some_iff.1 hj).1
  rw [← h2, List.getElem?_take, if_pos hjl, List.getElem?_drop] at hj
  simpa using hj
end Go.Proofs.YtehkiccapbkhnaaGreat
end
section
namespace Go.Proofs.YtehkiccapbkhnaaGreat
open Go Go.Kn Go.Proofs
theorem fun_86 : Fun Tryz.prog 86 := .of Tryz.func86 (by kernel_rfl) (by kernel_rfl)
theorem fun_87 : Fun Tryz.prog 87 := .of Tryz.func87 (by kernel_rfl) (by kernel_rfl)
theorem r_Closure {I : HMap} {av bv : Option Addr} {n c n2 c2 : Nat} {ps : List Pt} {ys : List Int} (hP : SlP I av n c ps) (hn : n ≤ 100000) (hT : Sl I 1 encI bv n2 c2 ys) (hn2 : n2 ≤ 100000) : RetM Tryz.prog 86 [.slice av n c, .slice bv n2 c2] I [] (Res2 (cloE ps ys) (resF (cloE ps ys) (cloF ps ys))) := by
 cases h : chB ps ys with
 | false => exact r_Closure_no hP hn hT hn2 h
 | true => exact r_Closure_yes hP hn hT hn2 h
theorem w_rVer {I : HMap} {av : Option Addr} {n c : Nat} {ps : List Pt} (hP : SlP I av n c ps) (hn : n ≤ 1000) {bv : Option Addr} {n2 c2 : Nat} {tg : List Int} (hT : Sl I 1 encI bv n2 c2 tg) (hn2 : n2 ≤ 100000) : RetV Tryz.prog 49 [.slice av n c, .slice bv n2 c2] I (.bool (verF ps tg)) := by
 intro g H w hw
 refine enter Tryz.func49 rfl Tryz.ntmps49 rfl hw ?_
 have hIc := HLe.refl I
 have hlP := hP.len
 have hcl := clo_len_le ps tg
 refine zR ?_
 refine zA ?_
 refine zN (zR ?_)
 refine zM ?_
 refine zM ?_
 refine XO_callM (cap := []) (vs := [_, _]) rfl rfl fun_86 .nil (r_Closure hP (by omega) hT hn2) rfl rfl ?_
 rintro vv1 I1 L1 hI1 ⟨rfl, xa, xc, rfl, hX⟩
 have hP := hP.mono hI1; have hT := hT.mono hI1; have hIc := hIc.trans hI1
 rw [List.nil_append]
 refine zM ?_
 refine XO_v0 (ev_extract rfl rfl) rfl rfl rfl ?_
 refine XO_v0 (ev_extract rfl rfl) rfl rfl rfl ?_
 refine zA ?_
 refine zA ?_
 refine zN (zR ?_)
 refine zM ?_
 refine zC ?_
 refine zM ?_
 refine XO_pushT 2 rfl rfl rfl ?_
 refine XO_v1 (ev_move rfl) (.some rfl rfl rfl rfl gbt) rfl rfl rfl ?_
 refine XO_v1 (ev_move rfl) (.some rfl rfl rfl rfl gbt) rfl rfl rfl ?_
 refine XO_callV1 (cap := []) (vs := [_, _]) rfl rfl fun_23 (fun hg => w_rSame hX (by omega) hT) (.some rfl rfl rfl rfl gbt) rfl rfl ?_
 refine XO_and0 rfl rfl rfl rfl rfl ?_
 refine zA ?_
 refine zN ?_
 refine X_ret ?_
 exact at_ret1 rfl rfl (fun w hw => ⟨by rw [ver_val2], (hw.mono hIc).drop⟩)
theorem w_rWho {I : HMap} (id : Int) {bv : Option Addr} {n2 c2 : Nat} {tg : List Int} (hT : Sl I 1 encI bv n2 c2 tg) (hn2 : n2 ≤ 100000) {dv : Option Addr} {n3 c3 : Nat} {hsh : List Hd} {has : List (List Int)} (hV : SlHA I 1 encI dv n3 c3 hsh has) (hn3 : n3 ≤ 1000) (hvl : ∀ v ∈ has, v.length ≤ 100000) : RetM Tryz.prog 87 [.int .i64 id, .slice bv n2 c2, .slice dv n3 c3] I [] (SlRes 1 encI (diffW tg has id)) := by
 intro g H w hw
 refine enter Tryz.func87 rfl Tryz.ntmps87 rfl hw ?_
 have hIc := HLe.refl I
 have hlV := hV.len
 refine zR ?_
 refine zA ?_
 refine zN (zR ?_)
 refine XO_buildSlice (ps := []) (m := []) elt_23 rfl (.nil) rfl (by simp) (by decide) (by decide) rfl rfl (fun b_9 => ?_)
 refine zA ?_
 refine zN ?_
 refine X_seq ?_
 refine zR ?_
 refine zA ?_
 refine zN ?_
 refine X_block ?_
 refine X_loopT [(0, _), (1, _), (2, _)] (.cons rfl (.cons rfl (.cons rfl .nil))) (fun T L0 mz E I' loc' => ∃ (k : Nat) (v : Value) (q : Nat) (L : Go.Kn.Loc), mz = n3 - k ∧ E = (7, v) :: (8, .int .i64 k) :: T ∧ I = I' ∧ L = loc' ∧ k ≤ n3 ∧ OwnS 3 1 v q ((diffK tg has id k).flatMap encI) L ∧ q ≤ k) _ _ _ _ ⟨0, _, 0, _, rfl, rfl, rfl, rfl, Nat.zero_le _, OwnS.new, Nat.le_refl _⟩ (.cons rfl (.cons rfl (.cons rfl (.cons rfl (.cons rfl .nil))))) (HLe.refl _) rfl ?_
 rintro mz E I' loc' ⟨k, v, q, L, rfl, rfl, rfl, rfl, hk, hO, hq⟩
 refine X_seq ?_
 refine zR ?_
 refine zM ?_
 refine zM ?_
 refine XO_v0 (ev_lenS rfl slt_24) rfl rfl rfl ?_
 refine zC ?_
 refine zN ?_
 refine X_cond rfl (fun hc13 => ?_) (fun hc13 => ?_)
 ·
  have hlt_k : k < n3 := by have h := hc13; simp at h; omega
  obtain ⟨h0, v0, hh0, hv0, hS0⟩ := hV.at hlt_k
  have hv0l := hvl v0 (List.mem_of_getElem? hv0)
  have hl0 := hS0.len
  refine X_skip ?_
  refine at_then ?_
  refine X_seq ?_
  refine X_block ?_
  refine zR ?_
  refine zM ?_
  refine zM ?_
  refine XO_v0 (ev_indexSl rfl rfl slt_24 hV.1 (fun hg => by first | omega | (simp [conj] at hg; omega))) rfl rfl rfl ?_
  refine XO_v0 (ev_load rfl sct_23 (fun hg => by first | exact Sl.get0 hV.1 hh0 rfl | (repeat (first | exact Cell.here rfl | apply Cell.there | apply Cell.app)))) rfl rfl rfl ?_
  refine zM ?_
  refine XO_callV0 (cap := []) (vs := [_, _]) rfl rfl fun_51 (w_rHas hS0 (by omega) id) rfl rfl ?_
  refine zM ?_
  refine zM ?_
  refine XO_callV0 (cap := []) (vs := [_, _]) rfl rfl fun_51 (w_rHas hT hn2 id) rfl rfl ?_
  refine XO_v0 (ev_boolN rfl rfl und_4) rfl rfl rfl ?_
  refine zN ?_
  refine X_cond rfl (fun hc25 => ?_) (fun hc25 => ?_)
  ·
   refine X_region ?_
   refine zM ?_
   refine zM ?_
   refine XO_buildSlice (ps := [(0, _)]) (m := [encI (k : Int)]) elt_23 rfl (.cons rfl (.nil)) rfl (by simp [encI_len]) (by decide) (by decide) rfl rfl (fun b_28 => ?_)
   refine XO_append (v := _) (ys := [(k : Int)].flatMap encI) (L := L) rfl rfl elt_23 hO (by repeat (first | exact .cons .here .nil | exact split_all | exact split_app | apply split_cons | apply split_skip)) ⟨rfl, fun _ => rfl, Cells.here⟩ (one_I [(k : Int)]) (by omega) rfl rfl ?_
   intro v9 L9 hO9 _; rw [← List.flatMap_append] at hO9
   refine zA ?_
   refine XO_nil ?_
   refine at_block_n ?_
   refine at_then ?_
   refine X_region ?_
   refine zM ?_
   refine zB ?_
   refine zA ?_
   refine XO_nil ?_
   first
   | exact at_met2 _ _ ⟨n3 - (k + 1), by omega, k + 1, _, _, _, rfl, rfl, rfl, rfl, by omega, by rw [diffK_yes hv0 hc25]; exact hO9, by omega⟩ (.cons rfl (.cons rfl (.cons rfl (.cons rfl (.cons rfl .nil))))) (by repeat (first | exact .refl | exact subL_left | refine subL_app ?_ | refine .drop ?_ | refine subL_add ?_))
  refine X_skip ?_
  refine at_block_n ?_
  refine at_then ?_
  refine X_region ?_
  refine zM ?_
  refine zB ?_
  refine zA ?_
  refine XO_nil ?_
  first
  | exact at_met2 _ _ ⟨n3 - (k + 1), by omega, k + 1, _, _, _, rfl, rfl, rfl, rfl, by omega, by rw [diffK_no hv0 hc25]; exact hO, by omega⟩ (.cons rfl (.cons rfl (.cons rfl (.cons rfl (.cons rfl .nil))))) (by repeat (first | exact .refl | exact subL_left | refine subL_app ?_ | refine .drop ?_ | refine subL_add ?_))
 have hge_k : n3 ≤ k := by have h := hc13; simp at h; omega
 obtain rfl : k = has.length := by omega
 rw [diffK_all] at hO
 refine X_exit ?_
 refine at_then_e ?_
 refine at_then_e ?_
 refine at_block_hit ?_
 refine at_then ?_
 refine zR ?_
 refine zM ?_
 refine zA ?_
 refine zN ?_
 refine X_ret ?_
 exact at_ret1 rfl rfl (fun w hw => by obtain ⟨I9, h91, h92, h93⟩ := OwnS.res hO encI_len (by decide) hw; exact ⟨_, I9, [], rfl, hIc.trans h91, h92, h93⟩)
theorem w_rSes {I : HMap} (p : Pt) {bv : Option Addr} {n2 c2 : Nat} {tg : List Int} (hT : Sl I 1 encI bv n2 c2 tg) (hn2 : n2 ≤ 100000) {dv : Option Addr} {n3 c3 : Nat} {hsh : List Hd} {has : List (List Int)} (hV : SlHA I 1 encI dv n3 c3 hsh has) (hn3 : n3 ≤ 1000) (hvl : ∀ v ∈ has, v.length ≤ 100000) : RetM Tryz.prog 50 [encPA p, .slice bv n2 c2, .slice dv n3 c3] I [] (fun v I' L' => L' = [] ∧ ∃ wa wc, v = encSHA ⟨p.id, (if p.kind = 2 then 2 else 1), wa, (diffW tg has p.id).length, wc, none, 0, 0⟩ ∧ Sl I' 1 encI wa (diffW tg has p.id).length wc (diffW tg has p.id)) := by
 intro g H w hw
 refine enter Tryz.func50 rfl Tryz.ntmps50 rfl hw ?_
 have hIc := HLe.refl I
 refine zR ?_
 refine XO_box rfl rfl rfl (fun b_3 => ?_)
 refine XO_alloc zt_58 rfl rfl (fun b_6 => ?_)
 refine XO_nil ?_
 refine X_freeze (.there .here) (fun I1 hI1 hb1 => ?_)
 have hT := hT.mono hI1; have hV := hV.mono hI1; have hIc := hIc.trans hI1
 have hbp := ImmC.of hb1
 refine at_then ?_
 refine X_cutT [(3, _), (6, _)] (.cons rfl (.cons rfl .nil)) (fun T L0 E I' loc' => ∃ (b7 : Nat) (wa : Option Addr) (wc : Nat), E = (7, capP b7) :: T ∧ HLe I1 I' ∧ (b7, .cells (encSH ⟨p.id, 1, wa, (diffW tg has p.id).length, wc, none, 0, 0⟩).toArray 58 (0, 0)) :: [(b_6, .cells (encSH ⟨0, 0, none, 0, 0, none, 0, 0⟩).toArray 58 (0, 0))] = loc' ∧ Sl I' 1 encI wa (diffW tg has p.id).length wc (diffW tg has p.id)) ?_ ?_
 ·
  have hKc1 := HLe.refl I1
  have hD := HLe.refl I1
  refine X_noP ?_
  refine X_drawS I1 [] mixed ?_
  refine zT 0 rfl (ev_fieldAddr rfl fld_65_0) hD ?_
  refine zT 1 rfl (ev_load rfl sct_3 (fun hg => by first | exact Cell.imm hbp rfl | (repeat (first | exact Cell.here rfl | apply Cell.there | apply Cell.app)))) hD ?_
  refine zT 2 rfl (ev_fieldAddr rfl fld_65_0) hD ?_
  refine zT 3 rfl (ev_load rfl sct_3 (fun hg => by first | exact Cell.imm hbp rfl | (repeat (first | exact Cell.here rfl | apply Cell.there | apply Cell.app)))) hD ?_
  refine zT 4 rfl (ev_move rfl) hD ?_
  refine zT 5 rfl (ev_move rfl) hD ?_
  refine XD_two 6 8 rfl rfl (by kernel_rfl) ?_ ?_
  ·
   refine XO_callM (cap := []) (vs := [_, _, _]) rfl rfl fun_87 .nil (w_rWho p.id hT hn2 hV hn3 hvl) rfl rfl ?_
   rintro vv2 I2 L2 hI2 ⟨rfl, wa, wc, rfl, hW⟩
   have hT := hT.mono hI2; have hV := hV.mono hI2; have hbp := hbp.mono hI2; have hIc := hIc.trans hI2; have hKc1 := hKc1.trans hI2; have hD := hD.trans hI2
   rw [List.nil_append]
   refine XO_nil ?_
   refine zD hD ?_
   refine zT 7 rfl (ev_buildL (ps := [(0, _), (1, _), (2, _)]) [_, _, _, _] plt_58 rfl rfl) hD ?_
   refine XD_one 8 rfl (by kernel_rfl) ?_
   refine XO_alloc zt_58 rfl rfl (fun b_7 => ?_)
   refine XO_nil ?_
   refine zD hD ?_
   refine XD_one 9 rfl (by kernel_rfl) ?_
   refine XO_storeA rfl rfl szt_58 rfl rfl rfl rfl (by repeat (first | exact Upd.here | apply Upd.there | apply upd_app)) ?_
   refine XO_nil ?_
   refine zD hD ?_
   refine XD_done (by kernel_rfl) ?_
   refine at_noP ?_
   exact at_met2 _ _ ⟨b_7, wa, wc, rfl, hKc1, rfl, hW⟩ (.cons rfl (.cons rfl (.cons rfl .nil))) (by repeat (first | exact .refl | refine .keep ?_ | refine .drop ?_))
  refine XO_alloc zt_58 rfl rfl (fun b_7 => ?_)
  refine XO_nil ?_
  refine zD hD ?_
  refine XD_one 6 rfl (by kernel_rfl) ?_
  refine XO_callM (cap := []) (vs := [_, _, _]) rfl rfl fun_87 .nil (w_rWho p.id hT hn2 hV hn3 hvl) rfl rfl ?_
  rintro vv3 I3 L3 hI3 ⟨rfl, wa, wc, rfl, hW⟩
  have hT := hT.mono hI3; have hV := hV.mono hI3; have hbp := hbp.mono hI3; have hIc := hIc.trans hI3; have hKc1 := hKc1.trans hI3; have hD := hD.trans hI3
  rw [List.nil_append]
  refine XO_nil ?_
  refine zD hD ?_
  refine zT 7 rfl (ev_buildL (ps := [(0, _), (1, _), (2, _)]) [_, _, _, _] plt_58 rfl rfl) hD ?_
  refine XD_one 9 rfl (by kernel_rfl) ?_
  refine XO_storeA rfl rfl szt_58 rfl rfl rfl rfl (by repeat (first | exact Upd.here | apply Upd.there | apply upd_app)) ?_
  refine XO_nil ?_
  refine zD hD ?_
  refine XD_done (by kernel_rfl) ?_
  refine at_noP ?_
  exact at_met2 _ _ ⟨b_7, wa, wc, rfl, hKc1, rfl, hW⟩ (.cons rfl (.cons rfl (.cons rfl .nil))) (by repeat (first | exact .refl | refine .keep ?_ | refine .drop ?_))
 rintro E J4 loc' ⟨b7, wa, wc, rfl, hJ, rfl, hW⟩
 have hT := hT.mono hJ; have hV := hV.mono hJ; have hbp := hbp.mono hJ; have hIc := hIc.trans hJ
 refine X_seq ?_
 refine zR ?_
 refine XO_v0 (ev_fieldAddr rfl fld_65_1) rfl rfl rfl ?_
 refine XO_v0 (ev_load rfl sct_3 (fun hg => by first | exact Cell.imm hbp rfl | (repeat (first | exact Cell.here rfl | apply Cell.there | apply Cell.app)))) rfl rfl rfl ?_
 refine zC ?_
 refine zN ?_
 refine X_cond rfl (fun hc18 => ?_) (fun hc18 => ?_)
 ·
  have hk2 : p.kind = 2 := by simpa using hc18
  refine X_region ?_
  refine XO_v0 (ev_fieldAddr rfl fld_58_1) rfl rfl rfl ?_
  refine zS szt_3 ?_
  refine zN (zR ?_)
  refine XO_v0 (ev_loadA rfl agt_58 (fun hg => by first | (repeat (first | exact Cells.here | exact Cells.s0 (vs := [_, _, _, _]) rfl | apply Cells.there | apply Cells.app))) rfl) rfl rfl rfl ?_
  refine XO_storeA rfl rfl szt_58 rfl rfl rfl rfl (by repeat (first | exact Upd.here | apply Upd.there | apply upd_app)) ?_
  refine zN ?_
  refine X_ret ?_
  first
  | (have hg9 := hk2; exact at_ret1L rfl rfl (.ag agt_58 (vs := encSH ⟨p.id, 2, wa, (diffW tg has p.id).length, wc, none, 0, 0⟩) (by repeat (first | exact Cells.here | apply Cells.there | apply Cells.app)) rfl) (fun w hw => ⟨_, J4, [], rfl, hIc, hw.drop, rfl, wa, wc, by rw [if_pos hg9]; rfl, hW⟩))
 have hk3 : ¬ p.kind = 2 := by simpa using hc18
 refine X_skip ?_
 refine at_then ?_
 refine zR ?_
 refine XO_v0 (ev_loadA rfl agt_58 (fun hg => by first | (repeat (first | exact Cells.here | exact Cells.s0 (vs := [_, _, _, _]) rfl | apply Cells.there | apply Cells.app))) rfl) rfl rfl rfl ?_
 refine XO_storeA rfl rfl szt_58 rfl rfl rfl rfl (by repeat (first | exact Upd.here | apply Upd.there | apply upd_app)) ?_
 refine zN ?_
 refine X_ret ?_
 first
 | (have hg9 := hk3; exact at_ret1L rfl rfl (.ag agt_58 (vs := encSH ⟨p.id, 1, wa, (diffW tg has p.id).length, wc, none, 0, 0⟩) (by repeat (first | exact Cells.here | apply Cells.there | apply Cells.app)) rfl) (fun w hw => ⟨_, J4, [], rfl, hIc, hw.drop, rfl, wa, wc, by rw [if_neg hg9]; rfl, hW⟩))
end Go.Proofs.YtehkiccapbkhnaaGreat
end
section
namespace Go.Proofs.YtehkiccapbkhnaaGreat
open Go Go.Kn Go.Proofs
theorem fun_49 : Fun Tryz.prog 49 := .of Tryz.func49 (by kernel_rfl) (by kernel_rfl)
theorem fun_50 : Fun Tryz.prog 50 := .of Tryz.func50 (by kernel_rfl) (by kernel_rfl)
theorem w_rFrom {I : HMap} {av : Option Addr} {n c : Nat} {ps : List Pt} (hP : SlP I av n c ps) (hn : n ≤ 1000) {bv : Option Addr} {n2 c2 : Nat} {tg : List Int} (hT : Sl I 1 encI bv n2 c2 tg) (hn2 : n2 ≤ 100000) {dv : Option Addr} {n3 c3 : Nat} {hsh : List Hd} {has : List (List Int)} (hV : SlHA I 1 encI dv n3 c3 hsh has) (hn3 : n3 ≤ 1000) (hvl : ∀ v ∈ has, v.length ≤ 100000) : RetM Tryz.prog 13 [.slice av n c, .slice bv n2 c2, .slice dv n3 c3] I [] (FroQ ps tg has) := by
 intro g H w hw
 refine enter Tryz.func13 rfl Tryz.ntmps13 rfl hw ?_
 have hIc := HLe.refl I
 have hlp := hP.len
 have hlV := hV.len
 refine zR ?_
 refine zA ?_
 refine zA ?_
 refine zN (zR ?_)
 refine zM ?_
 refine XO_callV0 (cap := []) (vs := [_]) rfl rfl fun_48 (r_chkR hP (by omega)) rfl rfl ?_
 refine zA ?_
 refine zN ?_
 refine X_seq ?_
 refine zR ?_
 refine zM ?_
 refine zC ?_
 refine zN ?_
 refine X_cond rfl (fun hc24 => ?_) (fun hc24 => ?_)
 ·
  have hk0 : chkR ps ≠ 0 := by simpa using hc24
  refine zR ?_
  refine zM ?_
  refine zA ?_
  refine zA ?_
  refine zN ?_
  refine X_ret ?_
  refine at_then_r ?_
  exact at_ret2 rfl rfl rfl (fun w hw => ⟨_, I, [], rfl, hIc, hw.drop, FroQ.bad (fromE_1 hk0) hk0⟩)
 have hk0 : chkR ps = 0 := by simpa using hc24
 have hL := chkR_lst hk0
 have hnd := nd_chk hP hk0
 refine X_skip ?_
 refine at_then ?_
 refine X_seq ?_
 refine zR ?_
 refine zM ?_
 refine XO_v0 (ev_lenS rfl slt_24) rfl rfl rfl ?_
 refine zC ?_
 refine zN ?_
 refine X_cond rfl (fun hc28 => ?_) (fun hc28 => ?_)
 ·
  have h6 : has.length > 6 := by rw [hlV]; have h := hc28; simp at h; omega
  refine zR ?_
  refine zA ?_
  refine zA ?_
  refine zN ?_
  refine X_ret ?_
  refine at_then_r ?_
  exact at_ret2 rfl rfl rfl (fun w hw => ⟨_, I, [], rfl, hIc, hw.drop, FroQ.bad (fromE_2 hk0 h6) (by decide)⟩)
 have h6 : ¬ has.length > 6 := by rw [hlV]; have h := hc28; simp at h; omega
 refine X_skip ?_
 refine at_then ?_
 refine zR ?_
 refine zM ?_
 refine zM ?_
 refine XO_callV0 (cap := []) (vs := [_, _]) rfl rfl fun_49 (w_rVer hP hn hT hn2) rfl rfl ?_
 refine zA ?_
 refine zN ?_
 refine X_seq ?_
 refine zR ?_
 refine zA ?_
 refine zN ?_
 refine X_block ?_
 refine X_loopT [(0, _), (1, _), (2, _)] (.cons rfl (.cons rfl (.cons rfl .nil))) (fun T L0 mz E I' loc' => ∃ (k : Nat) (rb : Bool), mz = n3 - k ∧ E = (9, .bool rb) :: (10, .int .i64 k) :: T ∧ I = I' ∧ L0 = loc' ∧ k ≤ n3 ∧ rb = (verF ps tg && (has.take k).all (verF ps))) _ _ _ _ ⟨0, _, rfl, rfl, rfl, rfl, Nat.zero_le _, by rw [List.take_zero, List.all_nil, Bool.and_true]⟩ (.cons rfl (.cons rfl (.cons rfl (.cons rfl (.cons rfl .nil))))) (HLe.refl _) rfl ?_
 rintro mz E I' loc' ⟨k, rb, rfl, rfl, rfl, rfl, hk, hrb⟩
 refine X_seq ?_
 refine zR ?_
 refine zM ?_
 refine zM ?_
 refine XO_v0 (ev_lenS rfl slt_24) rfl rfl rfl ?_
 refine zC ?_
 refine zN ?_
 refine X_cond rfl (fun hc35 => ?_) (fun hc35 => ?_)
 ·
  have hlt_k : k < n3 := by have h := hc35; simp at h; omega
  obtain ⟨h0, v0, hh0, hv0, hS0⟩ := hV.at hlt_k
  have hl0 := hS0.len
  have hv0l := hvl v0 (List.mem_of_getElem? hv0)
  have hv0l2 : h0.n ≤ 100000 := by omega
  refine X_skip ?_
  refine at_then ?_
  refine X_seq ?_
  refine X_block ?_
  refine zR ?_
  refine zM ?_
  refine zM ?_
  refine zM ?_
  refine XO_v0 (ev_indexSl rfl rfl slt_24 hV.1 (fun hg => by first | omega | (simp [conj] at hg; omega))) rfl rfl rfl ?_
  refine XO_v0 (ev_load rfl sct_23 (fun hg => by first | exact Sl.get0 hV.1 hh0 rfl | exact Sl.get hP.1 hp (j := 0) rfl | exact Sl.get hP.1 hp (j := 18) rfl | exact (Cell.app (Cell.there (Cell.lft hcu))) | exact (Cell.app (Cell.there (Cell.app hcu))) | (repeat (first | exact Cell.here rfl | apply Cell.there | apply Cell.app)))) rfl rfl rfl ?_
  refine XO_callV0 (cap := []) (vs := [_, _]) rfl rfl fun_49 (w_rVer hP hn hS0 hv0l2) rfl rfl ?_
  refine zA ?_
  refine zN ?_
  refine X_region ?_
  refine zM ?_
  refine zM ?_
  refine XO_pushT 1 rfl rfl rfl ?_
  refine XO_v1 (ev_move rfl) (.some rfl rfl rfl rfl gbt) rfl rfl rfl ?_
  refine XO_and0 rfl rfl rfl rfl rfl ?_
  refine zA ?_
  refine XO_nil ?_
  refine at_block_n ?_
  refine at_then ?_
  refine X_region ?_
  refine zM ?_
  refine zB ?_
  refine zA ?_
  refine XO_nil ?_
  exact at_met2 _ _ ⟨n3 - (k + 1), by omega, k + 1, _, rfl, rfl, rfl, rfl, by omega, by rw [hrb, all_snoc hv0, Bool.and_assoc]⟩ (.cons rfl (.cons rfl (.cons rfl (.cons rfl (.cons rfl .nil))))) (by repeat (first | exact .refl | exact subL_left | refine subL_app ?_ | refine .drop ?_ | refine subL_add ?_))
 have hge_k : n3 ≤ k := by have h := hc35; simp at h; omega
 rw [take_all hlV hge_k] at hrb
 refine X_exit ?_
 refine at_then_e ?_
 refine at_then_e ?_
 refine at_block_hit ?_
 refine at_then ?_
 refine X_seq ?_
 refine zR ?_
 refine zM ?_
 refine XO_v0 (ev_not rfl) rfl rfl rfl ?_
 refine zN ?_
 refine X_cond rfl (fun hc49 => ?_) (fun hc49 => ?_)
 ·
  have hallf : (tg :: has).all (verF ps) = false := by rw [List.all_cons, ← hrb]; simpa using hc49
  refine zR ?_
  refine zA ?_
  refine zA ?_
  refine zN ?_
  refine X_ret ?_
  refine at_then_r ?_
  exact at_ret2 rfl rfl rfl (fun w hw => ⟨_, I, [], rfl, hIc, hw.drop, FroQ.bad (fromE_3 hk0 h6 hallf) (by decide)⟩)
 have hall : (tg :: has).all (verF ps) = true := by rw [List.all_cons, ← hrb]; simpa using hc49
 have hTv := ver_iff hk0 (List.all_eq_true.1 hall tg (by simp))
 refine X_skip ?_
 refine at_then ?_
 refine zR ?_
 refine XO_buildSlice (ps := []) (m := []) elt_27 rfl (.nil) rfl (by simp) (by decide) (by decide) rfl rfl (fun b_50 => ?_)
 refine zA ?_
 refine zN (zR ?_)
 refine XO_buildSlice (ps := []) (m := []) elt_22 rfl (.nil) rfl (by simp) (by decide) (by decide) rfl rfl (fun b_51 => ?_)
 refine zA ?_
 refine zN ?_
 refine X_seq ?_
 refine zR ?_
 refine zM ?_
 refine XO_v0 (ev_lenS rfl slt_22) rfl rfl rfl ?_
 refine zB ?_
 refine zA ?_
 refine zN ?_
 refine X_block ?_
 refine X_loopT [(0, _), (1, _), (2, _)] (.cons rfl (.cons rfl (.cons rfl .nil))) (fun T L0 mz E I' loc' => ∃ (j : Nat) (i : Int) (v12 : Value) (q : Nat) (L : Go.Kn.Loc) (hs : List SH) (v13 : Value) (Lp : Go.Kn.Loc), mz = n - j ∧ E = (12, v12) :: (13, v13) :: (14, .int .i64 i) :: T ∧ HLe I I' ∧ Lp ++ L = loc' ∧ j ≤ n ∧ i = (n : Int) - 1 - (j : Int) ∧ OwnS 58 4 v12 q (hs.flatMap encSH) L ∧ OwnS 65 19 v13 q ((drpK ps tg has (n - j)).flatMap encP) Lp ∧ RelS I' hs (sesL tg has (drpK ps tg has (n - j))) ∧ q = (drpK ps tg has (n - j)).length) _ _ _ _ ⟨0, _, _, 0, _, [], _, _, rfl, rfl, HLe.refl _, rfl, Nat.zero_le _, by simp, OwnS.new, by rw [drp_0 (n := n - 0) hlp]; exact OwnS.new, by rw [drp_0 (n := n - 0) hlp]; exact RelS.nil, by rw [drp_0 (n := n - 0) hlp]; rfl⟩ (.cons rfl (.cons rfl (.cons rfl (.cons rfl (.cons rfl (.cons rfl .nil)))))) (HLe.refl _) rfl ?_
 rintro mz E J2 loc' ⟨j, i, v12, q, L, hs, v13, Lp, rfl, rfl, hJ, rfl, hj, hi, hO6, hOp, hRl, hq9⟩
 have hP := hP.mono hJ; have hT := hT.mono hJ; have hV := hV.mono hJ; have hIc := hIc.trans hJ
 have hB2 := hJ
 obtain ⟨la, lc, rfl⟩ := hO6.shape
 refine X_seq ?_
 refine zR ?_
 refine zM ?_
 refine zC ?_
 refine zN ?_
 refine X_cond rfl (fun hc56 => ?_) (fun hc56 => ?_)
 ·
  have hlt_j : j < n := by have h := hc56; simp at h; omega
  obtain ⟨iN, rfl⟩ : ∃ m : Nat, i = (m : Int) := ⟨n - 1 - j, by omega⟩
  obtain ⟨p, hp, hN⟩ := hP.at (show iN < n by omega)
  have hnj : n - j = iN + 1 := by omega
  have hnj2 : n - (j + 1) = iN := by omega
  rw [hnj] at hOp hRl hq9
  have hdl := drp_len (ps := ps) (tg := tg) (has := has) (iN + 1)
  have hql : q ≤ 2000 := by omega
  refine X_skip ?_
  refine at_then ?_
  refine X_seq ?_
  refine X_block ?_
  refine zR ?_
  refine zM ?_
  refine zM ?_
  refine XO_v0 (ev_indexSl rfl rfl slt_22 hP.1 (fun hg => by first | omega | (simp [conj] at hg; omega))) rfl rfl rfl ?_
  refine XO_v0 (ev_loadA rfl agt_65 (fun hg => by first | exact Sl.getA hP.1 hp | (repeat (first | exact Cells.here | exact Cells.s0 (vs := [_, _, _, _, _, _, _, _, _, _, _, _, _, _, _, _, _, _, _]) rfl | apply Cells.there | apply Cells.app))) rfl) rfl rfl rfl ?_
  refine zM ?_
  refine zM ?_
  refine XO_callM (cap := []) (vs := [_, _, _]) rfl rfl fun_50 .nil (w_rSes p hT hn2 hV hn3 hvl) rfl rfl ?_
  rintro vv3 I3 L3 hI3 ⟨rfl, wa, wc, rfl, hW⟩
  have hP := hP.mono hI3; have hT := hT.mono hI3; have hV := hV.mono hI3; have hRl := hRl.mono hI3; have hIc := hIc.trans hI3; have hB2 := hB2.trans hI3
  rw [List.nil_append]
  refine XO_alloc zt_58 rfl rfl (fun b_15 => ?_)
  refine XO_storeA rfl rfl szt_58 rfl rfl rfl rfl (by repeat (first | exact Upd.here | apply Upd.there | apply upd_app)) ?_
  refine zN (zR ?_)
  refine XO_v0 (ev_fieldAddr rfl fld_58_2) rfl rfl rfl ?_
  refine XO_v0 (ev_load rfl sct_23 (fun hg => by first | exact Sl.get0 hV.1 hh0 rfl | exact Sl.get hP.1 hp (j := 0) rfl | exact Sl.get hP.1 hp (j := 18) rfl | exact (Cell.app (Cell.there (Cell.lft hcu))) | exact (Cell.app (Cell.there (Cell.app hcu))) | (repeat (first | exact Cell.here rfl | apply Cell.there | apply Cell.app)))) rfl rfl rfl ?_
  refine XO_v0 (ev_lenS rfl slt_23) rfl rfl rfl ?_
  refine zC ?_
  refine zM ?_
  refine XO_pushT 4 rfl rfl rfl ?_
  refine XO_v1 (ev_move rfl) (.some rfl rfl rfl rfl gbt) rfl rfl rfl ?_
  refine XO_v1 (ev_move rfl) (.some rfl rfl rfl rfl gbt) rfl rfl rfl ?_
  refine XO_v1 (ev_move rfl) (.some rfl rfl rfl rfl gbt) rfl rfl rfl ?_
  refine XO_v1 (ev_indexSl rfl rfl slt_22 hP.1 (fun hg => by first | omega | (simp [conj] at hg; omega))) (.some rfl rfl rfl rfl gbt) rfl rfl rfl ?_
  refine XO_v1 (ev_fieldAddr rfl fld_65_0) (.some rfl rfl rfl rfl gbt) rfl rfl rfl ?_
  refine XO_v1 (ev_load rfl sct_3 (fun hg => by first | exact Sl.get0 hV.1 hh0 rfl | exact Sl.get hP.1 hp (j := 0) rfl | exact Sl.get hP.1 hp (j := 18) rfl | exact (Cell.app (Cell.there (Cell.lft hcu))) | exact (Cell.app (Cell.there (Cell.app hcu))) | (repeat (first | exact Cell.here rfl | apply Cell.there | apply Cell.app)))) (.some rfl rfl rfl rfl gbt) rfl rfl rfl ?_
  refine XO_callV1 (cap := []) (vs := [_, _]) rfl rfl fun_51 (fun hg => w_rHas hT hn2 p.id) (.some rfl rfl rfl rfl gbt) rfl rfl ?_
  refine XO_v1 (ev_not rfl) (.some rfl rfl rfl rfl gbt) rfl rfl rfl ?_
  refine XO_and0 rfl rfl rfl rfl rfl ?_
  refine zN ?_
  refine X_cond rfl (fun hc79 => ?_) (fun hc79 => ?_)
  ·
   have hby : drpB tg has p = true := hc79
   have hbt : tg.contains p.id = false := by have h := ((Bool.and_eq_true _ _).mp hc79).2; simpa using h
   refine X_seq ?_
   refine zR ?_
   refine zA ?_
   refine zN ?_
   refine X_block ?_
   refine X_loopT [(0, _), (1, _), (2, _), (12, _), (13, _), (14, _), (15, _)] (.cons rfl (.cons rfl (.cons rfl (.cons rfl (.cons rfl (.cons rfl (.cons rfl .nil))))))) (fun T L0 mz E I' loc' => ∃ (k : Nat) (vn : Value) (Ln : Go.Kn.Loc), mz = q - k ∧ E = (16, .int .i64 k) :: T ∧ I3 = I' ∧ Ln ++ ((b_15, .cells #[.int .i64 p.id, .int .i64 (if p.kind = 2 then 2 else 1), .slice wa (diffW tg has p.id).length wc, vn] 58 (0, 0)) :: (Lp ++ L)) = loc' ∧ k ≤ q ∧ OwnS 3 1 vn (ndD tg (drpK ps tg has (iN + 1)) p k).length ((ndD tg (drpK ps tg has (iN + 1)) p k).flatMap encI) Ln) _ _ _ _ ⟨0, .slice none 0 0, [], rfl, rfl, rfl, rfl, Nat.zero_le _, OwnS.nil⟩ (.cons rfl (.cons rfl (.cons rfl (.cons rfl (.cons rfl (.cons rfl (.cons rfl (.cons rfl .nil)))))))) (HLe.refl _) rfl ?_
   rintro mz E I' loc' ⟨k, vn, Ln, rfl, rfl, rfl, rfl, hk, hOn⟩
   refine X_seq ?_
   refine zR ?_
   refine zM ?_
   refine zM ?_
   refine XO_v0 (ev_lenS rfl slt_27) rfl rfl rfl ?_
   refine zC ?_
   refine zN ?_
   refine X_cond rfl (fun hc83 => ?_) (fun hc83 => ?_)
   ·
    have hlt_k : k < q := by have h := hc83; simp at h; omega
    obtain ⟨q0, hq⟩ : ∃ x, (drpK ps tg has (iN + 1))[k]? = some x := ⟨_, List.getElem?_eq_getElem (by omega)⟩
    have hqm := (drp_mem (List.mem_of_getElem? hq)).1
    have hNq : Sl I3 1 encI q0.a q0.n q0.c q0.needs := hP.2 q0 hqm
    have hqn := hnd q0 hqm
    have hndl := nd_len (tg := tg) (pre := (drpK ps tg has (iN + 1))) (p := p) k
    refine X_skip ?_
    refine at_then ?_
    refine X_seq ?_
    refine X_block ?_
    refine X_seq ?_
    obtain ⟨hkq, bo, co, hv13, hcu⟩ := OwnS_cell (I := I3) hOp encP_len (by decide) hq 18 (u := .slice q0.a q0.n q0.c) rfl
    subst hv13
    refine X_draw mixed (by kernel_rfl) ?_
    refine XQ_v0 (ev_move rfl) rfl rfl rfl ?_
    refine XQ_v0 (ev_move rfl) rfl rfl rfl ?_
    refine XQ_v0 (ev_indexOwn rfl rfl slt_22 (fun hg => by first | omega | (simp [conj] at hg; omega))) rfl rfl rfl ?_
    refine XQ_v0 (ev_fieldAddr rfl fld_65_5) rfl rfl rfl ?_
    refine XQ_v0 (ev_load rfl sct_23 (fun hg => by first | exact Sl.get0 hV.1 hh0 rfl | exact Sl.get hP.1 hp (j := 0) rfl | exact Sl.get hP.1 hp (j := 18) rfl | exact (Cell.app (Cell.there (Cell.lft hcu))) | exact (Cell.app (Cell.there (Cell.app hcu))) | (repeat (first | exact Cell.here rfl | apply Cell.there | apply Cell.app)))) rfl rfl rfl ?_
    refine XQ_v0 (ev_move rfl) rfl rfl rfl ?_
    refine XQ_v0 (ev_move rfl) rfl rfl rfl ?_
    refine XQ_v0 (ev_indexSl rfl rfl slt_22 hP.1 (fun hg => by first | omega | (simp [conj] at hg; omega))) rfl rfl rfl ?_
    refine XQ_v0 (ev_fieldAddr rfl fld_65_0) rfl rfl rfl ?_
    refine XQ_v0 (ev_load rfl sct_3 (fun hg => by first | exact Sl.get0 hV.1 hh0 rfl | exact Sl.get hP.1 hp (j := 0) rfl | exact Sl.get hP.1 hp (j := 18) rfl | exact (Cell.app (Cell.there (Cell.lft hcu))) | exact (Cell.app (Cell.there (Cell.app hcu))) | (repeat (first | exact Cell.here rfl | apply Cell.there | apply Cell.app)))) rfl rfl rfl ?_
    refine XQ_callV0 (cap := []) (vs := [_, _]) rfl rfl fun_51 (w_rHas hNq (by omega) p.id) rfl rfl ?_
    refine XQ_nil ?_
    refine at_then ?_
    refine X_cond rfl (fun hc96 => ?_) (fun hc96 => ?_)
    ·
     have hb2 : ndQ tg p q0 = true := by rw [nd_drp hbt]; exact hc96
     refine X_region ?_
     refine XO_v0 (ev_fieldAddr rfl fld_58_3) rfl rfl rfl ?_
     refine XO_v0 (ev_load rfl sct_23 (fun hg => by first | exact Sl.get0 hV.1 hh0 rfl | exact Sl.get hP.1 hp (j := 0) rfl | exact Sl.get hP.1 hp (j := 18) rfl | exact (Cell.app (Cell.there (Cell.lft hcu))) | exact (Cell.app (Cell.there (Cell.app hcu))) | (repeat (first | exact Cell.here rfl | apply Cell.there | apply Cell.app)))) rfl rfl rfl ?_
     refine zM ?_
     refine XO_buildSlice (ps := [(0, _)]) (m := [encI (k : Int)]) elt_23 rfl (.cons rfl (.nil)) rfl (by simp [encI_len]) (by decide) (by decide) rfl rfl (fun b_100 => ?_)
     refine XO_append (v := _) (ys := [(k : Int)].flatMap encI) (L := Ln) rfl rfl elt_23 hOn (by repeat (first | exact .cons .here .nil | exact split_all | exact split_app | apply split_cons | apply split_skip)) ⟨rfl, fun _ => rfl, Cells.here⟩ (one_I [(k : Int)]) (by omega) rfl rfl ?_
     intro v9 L9 hO9 _; rw [← List.flatMap_append] at hO9
     refine XO_v0 (ev_fieldAddr rfl fld_58_3) rfl rfl rfl ?_
     refine XO_store rfl rfl szt_23 hO9.one rfl (by repeat (first | exact Upd.here | apply Upd.there | apply upd_app)) rfl ?_
     refine XO_nil ?_
     refine at_block_n ?_
     refine at_then ?_
     refine X_region ?_
     refine zM ?_
     refine zB ?_
     refine zA ?_
     refine XO_nil ?_
     first
     | exact at_met2 _ _ ⟨q - (k + 1), by omega, k + 1, v9, L9, rfl, rfl, rfl, rfl, by omega, by rw [nd_yes hq hb2, List.length_append, List.length_singleton]; exact hO9⟩ (.cons rfl (.cons rfl (.cons rfl (.cons rfl (.cons rfl (.cons rfl (.cons rfl (.cons rfl .nil)))))))) (by repeat (first | exact .refl | exact subL_left | refine subL_app ?_ | refine .drop ?_ | refine subL_add ?_))
    have hb2 : ndQ tg p q0 = false := by rw [nd_drp hbt]; exact hc96
    refine X_skip ?_
    refine at_block_n ?_
    refine at_then ?_
    refine X_region ?_
    refine zM ?_
    refine zB ?_
    refine zA ?_
    refine XO_nil ?_
    first
    | exact at_met2 _ _ ⟨q - (k + 1), by omega, k + 1, vn, Ln, rfl, rfl, rfl, rfl, by omega, by rw [nd_no hq hb2]; exact hOn⟩ (.cons rfl (.cons rfl (.cons rfl (.cons rfl (.cons rfl (.cons rfl (.cons rfl (.cons rfl .nil)))))))) (by repeat (first | exact .refl | exact subL_left | refine subL_app ?_ | refine .drop ?_ | refine subL_add ?_))
   have hge_k : q ≤ k := by have h := hc83; simp at h; omega
   have hke : q = k := by omega
   subst hke
   rw [nd_full hq9.symm] at hOn
   refine X_exit ?_
   refine at_then_e ?_
   refine at_then_e ?_
   refine at_block_hit ?_
   refine at_then ?_
   refine X_seq ?_
   refine X_freezeO hOn encI_len (by decide) (by repeat (first | exact .cons .here .nil | exact split_all | exact split_app | apply split_cons | apply split_skip)) (fun I5 hI5 na nc e5 hNn => ?_)
   subst e5
   have hP := hP.mono hI5; have hT := hT.mono hI5; have hV := hV.mono hI5; have hRl := hRl.mono hI5; have hW := hW.mono hI5; have hIc := hIc.trans hI5; have hB2 := hB2.trans hI5
   refine X_region ?_
   refine zM ?_
   refine XO_v0 (ev_loadA rfl agt_58 (fun hg => by first | exact Sl.getA hP.1 hp | (repeat (first | exact Cells.here | exact Cells.s0 (vs := [_, _, _, _]) rfl | apply Cells.there | apply Cells.app))) rfl) rfl rfl rfl ?_
   refine XO_buildSlice (ps := [(0, _)]) (m := [encSH ⟨p.id, (if p.kind = 2 then 2 else 1), wa, (diffW tg has p.id).length, wc, na, (ndW tg (drpK ps tg has (iN + 1)) p).length, nc⟩]) elt_27 rfl (.cons rfl (.nil)) rfl (by simp [encSH_len]) (by decide) (by decide) rfl rfl (fun b_105 => ?_)
   refine XO_append (v := _) (ys := [⟨p.id, (if p.kind = 2 then 2 else 1), wa, (diffW tg has p.id).length, wc, na, (ndW tg (drpK ps tg has (iN + 1)) p).length, nc⟩].flatMap encSH) (L := L) rfl rfl elt_27 hO6 (by repeat (first | exact .cons .here .nil | exact split_all | exact split_app | apply split_cons | apply split_skip)) ⟨rfl, fun _ => rfl, by repeat (first | exact Cells.here | apply Cells.there | apply Cells.app)⟩ (one_SH _) (by omega) rfl rfl ?_
   intro v9 L9 hO9 _; rw [← List.flatMap_append] at hO9
   refine zA ?_
   refine zN ?_
   refine X_region ?_
   refine zM ?_
   refine zM ?_
   refine zM ?_
   refine XO_v0 (ev_indexSl rfl rfl slt_22 hP.1 (fun hg => by first | omega | (simp [conj] at hg; omega))) rfl rfl rfl ?_
   refine XO_v0 (ev_loadA rfl agt_65 (fun hg => by first | exact Sl.getA hP.1 hp | (repeat (first | exact Cells.here | exact Cells.s0 (vs := [_, _, _, _, _, _, _, _, _, _, _, _, _, _, _, _, _, _, _]) rfl | apply Cells.there | apply Cells.app))) rfl) rfl rfl rfl ?_
   refine XO_buildSlice (ps := [(0, _)]) (m := [encP p]) elt_22 rfl (.cons rfl (.nil)) rfl (by simp [encP_len]) (by decide) (by decide) rfl rfl (fun b_112 => ?_)
   refine XO_append (v := _) (ys := [p].flatMap encP) (L := Lp) rfl rfl elt_22 hOp (by repeat (first | exact .cons .here .nil | exact split_all | exact split_app | apply split_cons | apply split_skip)) ⟨rfl, fun _ => rfl, by repeat (first | exact Cells.here | apply Cells.there | apply Cells.app)⟩ (one_P _) (by omega) rfl rfl ?_
   intro v7 L7 hO7 _; rw [← List.flatMap_append] at hO7
   refine zA ?_
   refine XO_nil ?_
   refine at_block_n ?_
   refine at_then ?_
   refine X_region ?_
   refine zM ?_
   refine zB ?_
   refine zA ?_
   refine XO_nil ?_
   first
   | (have hg9 := hby; exact at_met2 _ (L7 ++ L9) ⟨n - (j + 1), by omega, j + 1, (iN : Int) - 1, v9, q + 1, L9, hs ++ [⟨p.id, (if p.kind = 2 then 2 else 1), wa, (diffW tg has p.id).length, wc, na, (ndW tg (drpK ps tg has (iN + 1)) p).length, nc⟩], v7, L7, rfl, rfl, hB2, rfl, by omega, by omega, hO9, by rw [hnj2, drp_yes hp hby]; exact hO7, by rw [hnj2, drp_yes hp hby, sesL_snoc]; exact hRl.snoc ⟨rfl, rfl, hW, hNn⟩, by rw [hnj2, drp_yes hp hby, List.length_append, List.length_singleton, hq9]⟩ (.cons rfl (.cons rfl (.cons rfl (.cons rfl (.cons rfl (.cons rfl .nil)))))) (by repeat (first | exact .refl | exact subL_left | refine subL_app ?_ | refine .drop ?_ | refine subL_add ?_)))
  have hbn : drpB tg has p = false := hc79
  refine X_skip ?_
  refine at_block_n ?_
  refine at_then ?_
  refine X_region ?_
  refine zM ?_
  refine zB ?_
  refine zA ?_
  refine XO_nil ?_
  first
  | (have hg9 := hbn; exact at_met2 _ (Lp ++ L) ⟨n - (j + 1), by omega, j + 1, (iN : Int) - 1, _, q, L, hs, _, Lp, rfl, rfl, hB2, rfl, by omega, by omega, hO6, by rw [hnj2, drp_no hp hbn]; exact hOp, by rw [hnj2, drp_no hp hbn]; exact hRl, by rw [hnj2, drp_no hp hbn]; exact hq9⟩ (.cons rfl (.cons rfl (.cons rfl (.cons rfl (.cons rfl (.cons rfl .nil)))))) (by repeat (first | exact .refl | exact subL_left | refine subL_app ?_ | refine .drop ?_ | refine subL_add ?_)))
 have hge_j : n ≤ j := by have h := hc56; simp at h; omega
 have hnj : n - j = 0 := by omega
 rw [hnj] at hOp hRl hq9
 subst hq9
 refine X_exit ?_
 refine at_then_e ?_
 refine at_then_e ?_
 refine at_block_hit ?_
 refine at_then ?_
 refine zR ?_
 refine zM ?_
 refine XO_v0 (ev_lenS rfl slt_27) rfl rfl rfl ?_
 refine zA ?_
 refine zN ?_
 refine X_seq ?_
 refine zR ?_
 refine zA ?_
 refine zN ?_
 refine X_block ?_
 refine X_loopT [(0, _), (1, _), (2, _), (17, _)] (.cons rfl (.cons rfl (.cons rfl (.cons rfl .nil)))) (fun T L0 mz E I' loc' => ∃ (j : Nat) (v12 : Value) (q : Nat) (L : Go.Kn.Loc) (hs : List SH) (v13 : Value) (Lp : Go.Kn.Loc), mz = n - j ∧ E = (12, v12) :: (13, v13) :: (18, .int .i64 j) :: T ∧ HLe J2 I' ∧ Lp ++ L = loc' ∧ j ≤ n ∧ OwnS 58 4 v12 q (hs.flatMap encSH) L ∧ OwnS 65 19 v13 q ((lrnK ps tg has j).flatMap encP) Lp ∧ RelS I' hs (sesL tg has (lrnK ps tg has j)) ∧ q = (lrnK ps tg has j).length) _ _ _ _ ⟨0, _, _, L, hs, _, Lp, rfl, rfl, HLe.refl _, rfl, Nat.zero_le _, hO6, by rw [lrn_0]; exact hOp, by rw [lrn_0]; exact hRl, by rw [lrn_0]⟩ (.cons rfl (.cons rfl (.cons rfl (.cons rfl (.cons rfl (.cons rfl (.cons rfl .nil))))))) (HLe.refl _) rfl ?_
 rintro mz E J6 loc' ⟨j, v12, q, L, hs, v13, Lp, rfl, rfl, hJ, rfl, hj, hO6, hOp, hRm, hq9⟩
 have hP := hP.mono hJ; have hT := hT.mono hJ; have hV := hV.mono hJ; have hRl := hRl.mono hJ; have hIc := hIc.trans hJ; have hB2 := hB2.trans hJ
 have hB6 := hJ
 obtain ⟨la, lc, rfl⟩ := hO6.shape
 refine X_seq ?_
 refine zR ?_
 refine zM ?_
 refine zM ?_
 refine XO_v0 (ev_lenS rfl slt_22) rfl rfl rfl ?_
 refine zC ?_
 refine zN ?_
 refine X_cond rfl (fun hc119 => ?_) (fun hc119 => ?_)
 ·
  have hlt_j : j < n := by have h := hc119; simp at h; omega
  obtain ⟨p, hp, hN⟩ := hP.at hlt_j
  have hpm := List.mem_of_getElem? hp
  have hpn := hnd p hpm
  have hdl := lrn_len (ps := ps) (tg := tg) (has := has) j
  have hql : q ≤ 4000 := by omega
  refine X_skip ?_
  refine at_then ?_
  refine X_seq ?_
  refine X_block ?_
  refine zR ?_
  refine zM ?_
  refine zM ?_
  refine XO_v0 (ev_indexSl rfl rfl slt_22 hP.1 (fun hg => by first | omega | (simp [conj] at hg; omega))) rfl rfl rfl ?_
  refine XO_v0 (ev_loadA rfl agt_65 (fun hg => by first | exact Sl.getA hP.1 hp | (repeat (first | exact Cells.here | exact Cells.s0 (vs := [_, _, _, _, _, _, _, _, _, _, _, _, _, _, _, _, _, _, _]) rfl | apply Cells.there | apply Cells.app))) rfl) rfl rfl rfl ?_
  refine zM ?_
  refine zM ?_
  refine XO_callM (cap := []) (vs := [_, _, _]) rfl rfl fun_50 .nil (w_rSes p hT hn2 hV hn3 hvl) rfl rfl ?_
  rintro vv7 I7 L7 hI7 ⟨rfl, wa, wc, rfl, hW⟩
  have hP := hP.mono hI7; have hT := hT.mono hI7; have hV := hV.mono hI7; have hRl := hRl.mono hI7; have hRm := hRm.mono hI7; have hN := hN.mono hI7; have hIc := hIc.trans hI7; have hB2 := hB2.trans hI7; have hB6 := hB6.trans hI7
  rw [List.nil_append]
  refine XO_alloc zt_58 rfl rfl (fun b_19 => ?_)
  refine XO_storeA rfl rfl szt_58 rfl rfl rfl rfl (by repeat (first | exact Upd.here | apply Upd.there | apply upd_app)) ?_
  refine zN (zR ?_)
  refine XO_v0 (ev_fieldAddr rfl fld_58_2) rfl rfl rfl ?_
  refine XO_v0 (ev_load rfl sct_23 (fun hg => by first | exact Sl.get0 hV.1 hh0 rfl | exact Sl.get hP.1 hp (j := 0) rfl | exact Sl.get hP.1 hp (j := 18) rfl | exact (Cell.app (Cell.there (Cell.lft hcu))) | exact (Cell.app (Cell.there (Cell.app hcu))) | (repeat (first | exact Cell.here rfl | apply Cell.there | apply Cell.app)))) rfl rfl rfl ?_
  refine XO_v0 (ev_lenS rfl slt_23) rfl rfl rfl ?_
  refine zC ?_
  refine zM ?_
  refine XO_pushT 4 rfl rfl rfl ?_
  refine XO_v1 (ev_move rfl) (.some rfl rfl rfl rfl gbt) rfl rfl rfl ?_
  refine XO_v1 (ev_move rfl) (.some rfl rfl rfl rfl gbt) rfl rfl rfl ?_
  refine XO_v1 (ev_move rfl) (.some rfl rfl rfl rfl gbt) rfl rfl rfl ?_
  refine XO_v1 (ev_indexSl rfl rfl slt_22 hP.1 (fun hg => by first | omega | (simp [conj] at hg; omega))) (.some rfl rfl rfl rfl gbt) rfl rfl rfl ?_
  refine XO_v1 (ev_fieldAddr rfl fld_65_0) (.some rfl rfl rfl rfl gbt) rfl rfl rfl ?_
  refine XO_v1 (ev_load rfl sct_3 (fun hg => by first | exact Sl.get0 hV.1 hh0 rfl | exact Sl.get hP.1 hp (j := 0) rfl | exact Sl.get hP.1 hp (j := 18) rfl | exact (Cell.app (Cell.there (Cell.lft hcu))) | exact (Cell.app (Cell.there (Cell.app hcu))) | (repeat (first | exact Cell.here rfl | apply Cell.there | apply Cell.app)))) (.some rfl rfl rfl rfl gbt) rfl rfl rfl ?_
  refine XO_callV1 (cap := []) (vs := [_, _]) rfl rfl fun_51 (fun hg => w_rHas hT hn2 p.id) (.some rfl rfl rfl rfl gbt) rfl rfl ?_
  refine XO_and0 rfl rfl rfl rfl rfl ?_
  refine zN ?_
  refine X_cond rfl (fun hc141 => ?_) (fun hc141 => ?_)
  ·
   have hby : lrnB tg has p = true := hc141
   have hbt : tg.contains p.id = true := ((Bool.and_eq_true _ _).mp hc141).2
   refine X_seq ?_
   refine zR ?_
   refine zM ?_
   refine zA ?_
   refine zN ?_
   refine X_block ?_
   refine X_loopT [(0, _), (1, _), (2, _), (12, _), (13, _), (17, _), (18, _), (19, _)] (.cons rfl (.cons rfl (.cons rfl (.cons rfl (.cons rfl (.cons rfl (.cons rfl (.cons rfl .nil)))))))) (fun T L0 mz E I' loc' => ∃ (k : Nat) (vn : Value) (Ln : Go.Kn.Loc), mz = q - k ∧ E = (20, .int .i64 k) :: T ∧ I7 = I' ∧ Ln ++ ((b_19, .cells #[.int .i64 p.id, .int .i64 (if p.kind = 2 then 2 else 1), .slice wa (diffW tg has p.id).length wc, vn] 58 (0, 0)) :: (Lp ++ L)) = loc' ∧ k ≤ q ∧ OwnS 3 1 vn (ndD tg (lrnK ps tg has j) p k).length ((ndD tg (lrnK ps tg has j) p k).flatMap encI) Ln) _ _ _ _ ⟨(drpK ps tg has 0).length, .slice none 0 0, [], rfl, rfl, rfl, rfl, (by rw [hq9]; exact drp_le_lrn j), by rw [nd_skip hTv hpm hbt]; exact OwnS.nil⟩ (.cons rfl (.cons rfl (.cons rfl (.cons rfl (.cons rfl (.cons rfl (.cons rfl (.cons rfl (.cons rfl .nil))))))))) (HLe.refl _) rfl ?_
   rintro mz E I' loc' ⟨k, vn, Ln, rfl, rfl, rfl, rfl, hk, hOn⟩
   refine X_seq ?_
   refine zR ?_
   refine zM ?_
   refine zM ?_
   refine XO_v0 (ev_lenS rfl slt_27) rfl rfl rfl ?_
   refine zC ?_
   refine zN ?_
   refine X_cond rfl (fun hc146 => ?_) (fun hc146 => ?_)
   ·
    have hlt_k : k < q := by have h := hc146; simp at h; omega
    obtain ⟨q0, hpq⟩ : ∃ x, (lrnK ps tg has j)[k]? = some x := ⟨_, List.getElem?_eq_getElem (by omega)⟩
    have hhl : hs.length = q := by rw [hRm.1, sesL_len, hq9]
    obtain ⟨hk, hhk⟩ : ∃ h, hs[k]? = some h := ⟨_, List.getElem?_eq_getElem (by omega)⟩
    have hpa : hk.pa = q0.id := (hRm.2 k hk _ hhk (sesL_at hpq)).1
    have hndl := nd_len (tg := tg) (pre := (lrnK ps tg has j)) (p := p) k
    refine X_skip ?_
    refine at_then ?_
    refine X_seq ?_
    refine X_block ?_
    refine X_seq ?_
    obtain ⟨hkq, bo, co, hv12, hcu⟩ := OwnS_cell (I := I7) hO6 encSH_len (by decide) hhk 0 (u := .int .i64 hk.pa) rfl
    cases hv12
    refine X_draw mixed (by kernel_rfl) ?_
    refine XQ_v0 (ev_move rfl) rfl rfl rfl ?_
    refine XQ_v0 (ev_move rfl) rfl rfl rfl ?_
    refine XQ_v0 (ev_indexSl rfl rfl slt_22 hP.1 (fun hg => by first | omega | (simp [conj] at hg; omega))) rfl rfl rfl ?_
    refine XQ_v0 (ev_fieldAddr rfl fld_65_5) rfl rfl rfl ?_
    refine XQ_v0 (ev_load rfl sct_23 (fun hg => by first | exact Sl.get0 hV.1 hh0 rfl | exact Sl.get hP.1 hp (j := 0) rfl | exact Sl.get hP.1 hp (j := 18) rfl | exact (Cell.app (Cell.there (Cell.lft hcu))) | exact (Cell.app (Cell.there (Cell.app hcu))) | (repeat (first | exact Cell.here rfl | apply Cell.there | apply Cell.app)))) rfl rfl rfl ?_
    refine XQ_v0 (ev_move rfl) rfl rfl rfl ?_
    refine XQ_v0 (ev_move rfl) rfl rfl rfl ?_
    refine XQ_v0 (ev_indexOwn rfl rfl slt_27 (fun hg => by first | omega | (simp [conj] at hg; omega))) rfl rfl rfl ?_
    refine XQ_v0 (ev_fieldAddr rfl fld_58_0) rfl rfl rfl ?_
    refine XQ_v0 (ev_load rfl sct_3 (fun hg => by first | exact Sl.get0 hV.1 hh0 rfl | exact Sl.get hP.1 hp (j := 0) rfl | exact Sl.get hP.1 hp (j := 18) rfl | exact (Cell.app (Cell.there (Cell.lft hcu))) | exact (Cell.app (Cell.there (Cell.app hcu))) | (repeat (first | exact Cell.here rfl | apply Cell.there | apply Cell.app)))) rfl rfl rfl ?_
    refine XQ_callV0 (cap := []) (vs := [_, _]) rfl rfl fun_51 (w_rHas hN (by omega) hk.pa) rfl rfl ?_
    refine XQ_nil ?_
    refine at_then ?_
    refine X_cond rfl (fun hc159 => ?_) (fun hc159 => ?_)
    ·
     have hb2 : ndQ tg p q0 = true := by rw [nd_lrn hbt, ← hpa]; exact hc159
     refine X_region ?_
     refine XO_v0 (ev_fieldAddr rfl fld_58_3) rfl rfl rfl ?_
     refine XO_v0 (ev_load rfl sct_23 (fun hg => by first | exact Sl.get0 hV.1 hh0 rfl | exact Sl.get hP.1 hp (j := 0) rfl | exact Sl.get hP.1 hp (j := 18) rfl | exact (Cell.app (Cell.there (Cell.lft hcu))) | exact (Cell.app (Cell.there (Cell.app hcu))) | (repeat (first | exact Cell.here rfl | apply Cell.there | apply Cell.app)))) rfl rfl rfl ?_
     refine zM ?_
     refine XO_buildSlice (ps := [(0, _)]) (m := [encI (k : Int)]) elt_23 rfl (.cons rfl (.nil)) rfl (by simp [encI_len]) (by decide) (by decide) rfl rfl (fun b_163 => ?_)
     refine XO_append (v := _) (ys := [(k : Int)].flatMap encI) (L := Ln) rfl rfl elt_23 hOn (by repeat (first | exact .cons .here .nil | exact split_all | exact split_app | apply split_cons | apply split_skip)) ⟨rfl, fun _ => rfl, Cells.here⟩ (one_I [(k : Int)]) (by omega) rfl rfl ?_
     intro v9 L9 hO9 _; rw [← List.flatMap_append] at hO9
     refine XO_v0 (ev_fieldAddr rfl fld_58_3) rfl rfl rfl ?_
     refine XO_store rfl rfl szt_23 hO9.one rfl (by repeat (first | exact Upd.here | apply Upd.there | apply upd_app)) rfl ?_
     refine XO_nil ?_
     refine at_block_n ?_
     refine at_then ?_
     refine X_region ?_
     refine zM ?_
     refine zB ?_
     refine zA ?_
     refine XO_nil ?_
     first
     | exact at_met2 _ _ ⟨q - (k + 1), by omega, k + 1, v9, L9, rfl, rfl, rfl, rfl, by omega, by rw [nd_yes hpq hb2, List.length_append, List.length_singleton]; exact hO9⟩ (.cons rfl (.cons rfl (.cons rfl (.cons rfl (.cons rfl (.cons rfl (.cons rfl (.cons rfl (.cons rfl .nil))))))))) (by repeat (first | exact .refl | exact subL_left | refine subL_app ?_ | refine .drop ?_ | refine subL_add ?_))
    have hb2 : ndQ tg p q0 = false := by rw [nd_lrn hbt, ← hpa]; exact hc159
    refine X_skip ?_
    refine at_block_n ?_
    refine at_then ?_
    refine X_region ?_
    refine zM ?_
    refine zB ?_
    refine zA ?_
    refine XO_nil ?_
    first
    | exact at_met2 _ _ ⟨q - (k + 1), by omega, k + 1, vn, Ln, rfl, rfl, rfl, rfl, by omega, by rw [nd_no hpq hb2]; exact hOn⟩ (.cons rfl (.cons rfl (.cons rfl (.cons rfl (.cons rfl (.cons rfl (.cons rfl (.cons rfl (.cons rfl .nil))))))))) (by repeat (first | exact .refl | exact subL_left | refine subL_app ?_ | refine .drop ?_ | refine subL_add ?_))
   have hge_k : q ≤ k := by have h := hc146; simp at h; omega
   have hke : q = k := by omega
   subst hke
   rw [nd_full hq9.symm] at hOn
   refine X_exit ?_
   refine at_then_e ?_
   refine at_then_e ?_
   refine at_block_hit ?_
   refine at_then ?_
   refine X_seq ?_
   refine X_freezeO hOn encI_len (by decide) (by repeat (first | exact .cons .here .nil | exact split_all | exact split_app | apply split_cons | apply split_skip)) (fun I9 hI9 na nc e9 hNn => ?_)
   subst e9
   have hP := hP.mono hI9; have hT := hT.mono hI9; have hV := hV.mono hI9; have hRl := hRl.mono hI9; have hRm := hRm.mono hI9; have hN := hN.mono hI9; have hW := hW.mono hI9; have hIc := hIc.trans hI9; have hB2 := hB2.trans hI9; have hB6 := hB6.trans hI9
   refine X_region ?_
   refine zM ?_
   refine XO_v0 (ev_loadA rfl agt_58 (fun hg => by first | exact Sl.getA hP.1 hp | (repeat (first | exact Cells.here | exact Cells.s0 (vs := [_, _, _, _]) rfl | apply Cells.there | apply Cells.app))) rfl) rfl rfl rfl ?_
   refine XO_buildSlice (ps := [(0, _)]) (m := [encSH ⟨p.id, (if p.kind = 2 then 2 else 1), wa, (diffW tg has p.id).length, wc, na, (ndW tg (lrnK ps tg has j) p).length, nc⟩]) elt_27 rfl (.cons rfl (.nil)) rfl (by simp [encSH_len]) (by decide) (by decide) rfl rfl (fun b_168 => ?_)
   refine XO_append (v := _) (ys := [⟨p.id, (if p.kind = 2 then 2 else 1), wa, (diffW tg has p.id).length, wc, na, (ndW tg (lrnK ps tg has j) p).length, nc⟩].flatMap encSH) (L := L) rfl rfl elt_27 hO6 (by repeat (first | exact .cons .here .nil | exact split_all | exact split_app | apply split_cons | apply split_skip)) ⟨rfl, fun _ => rfl, by repeat (first | exact Cells.here | apply Cells.there | apply Cells.app)⟩ (one_SH _) (by omega) rfl rfl ?_
   intro v9 L9 hO9 _; rw [← List.flatMap_append] at hO9
   refine zA ?_
   refine zN ?_
   refine X_region ?_
   refine zM ?_
   refine zM ?_
   refine zM ?_
   refine XO_v0 (ev_indexSl rfl rfl slt_22 hP.1 (fun hg => by first | omega | (simp [conj] at hg; omega))) rfl rfl rfl ?_
   refine XO_v0 (ev_loadA rfl agt_65 (fun hg => by first | exact Sl.getA hP.1 hp | (repeat (first | exact Cells.here | exact Cells.s0 (vs := [_, _, _, _, _, _, _, _, _, _, _, _, _, _, _, _, _, _, _]) rfl | apply Cells.there | apply Cells.app))) rfl) rfl rfl rfl ?_
   refine XO_buildSlice (ps := [(0, _)]) (m := [encP p]) elt_22 rfl (.cons rfl (.nil)) rfl (by simp [encP_len]) (by decide) (by decide) rfl rfl (fun b_175 => ?_)
   refine XO_append (v := _) (ys := [p].flatMap encP) (L := Lp) rfl rfl elt_22 hOp (by repeat (first | exact .cons .here .nil | exact split_all | exact split_app | apply split_cons | apply split_skip)) ⟨rfl, fun _ => rfl, by repeat (first | exact Cells.here | apply Cells.there | apply Cells.app)⟩ (one_P _) (by omega) rfl rfl ?_
   intro v7 L7 hO7 _; rw [← List.flatMap_append] at hO7
   refine zA ?_
   refine XO_nil ?_
   refine at_block_n ?_
   refine at_then ?_
   refine X_region ?_
   refine zM ?_
   refine zB ?_
   refine zA ?_
   refine XO_nil ?_
   first
   | (have hg9 := hby; exact at_met2 _ (L7 ++ L9) ⟨n - (j + 1), by omega, j + 1, v9, q + 1, L9, hs ++ [⟨p.id, (if p.kind = 2 then 2 else 1), wa, (diffW tg has p.id).length, wc, na, (ndW tg (lrnK ps tg has j) p).length, nc⟩], v7, L7, rfl, rfl, hB6, rfl, by omega, hO9, by rw [lrn_yes hp hby]; exact hO7, by rw [lrn_yes hp hby, sesL_snoc]; exact hRm.snoc ⟨rfl, rfl, hW, hNn⟩, by rw [lrn_yes hp hby, List.length_append, List.length_singleton, hq9]⟩ (.cons rfl (.cons rfl (.cons rfl (.cons rfl (.cons rfl (.cons rfl (.cons rfl .nil))))))) (by repeat (first | exact .refl | exact subL_left | refine subL_app ?_ | refine .drop ?_ | refine subL_add ?_)))
  have hbn : lrnB tg has p = false := hc141
  refine X_skip ?_
  refine at_block_n ?_
  refine at_then ?_
  refine X_region ?_
  refine zM ?_
  refine zB ?_
  refine zA ?_
  refine XO_nil ?_
  first
  | (have hg9 := hbn; exact at_met2 _ (Lp ++ L) ⟨n - (j + 1), by omega, j + 1, _, q, L, hs, _, Lp, rfl, rfl, hB6, rfl, by omega, hO6, by rw [lrn_no hp hbn]; exact hOp, by rw [lrn_no hp hbn]; exact hRm, by rw [lrn_no hp hbn]; exact hq9⟩ (.cons rfl (.cons rfl (.cons rfl (.cons rfl (.cons rfl (.cons rfl (.cons rfl .nil))))))) (by repeat (first | exact .refl | exact subL_left | refine subL_app ?_ | refine .drop ?_ | refine subL_add ?_)))
 have hge_j : n ≤ j := by have h := hc119; simp at h; omega
 rw [lrn_all hlp hge_j] at hOp hRm hq9
 refine X_exit ?_
 refine at_then_e ?_
 refine at_then_e ?_
 refine at_block_hit ?_
 refine at_then ?_
 refine X_seq ?_
 refine zR ?_
 refine zM ?_
 refine XO_v0 (ev_lenS rfl slt_27) rfl rfl rfl ?_
 refine zC ?_
 refine zN ?_
 refine X_cond rfl (fun hc179 => ?_) (fun hc179 => ?_)
 ·
  have hE : fromE ps tg has = 2 := by rw [fromE_4 hk0 h6 hall, if_pos (by unfold fromL; rw [sesL_len]; have h := hc179; simp at h; omega)]
  refine zR ?_
  refine zA ?_
  refine zA ?_
  refine zN ?_
  refine X_ret ?_
  refine at_then_r ?_
  exact at_ret2 rfl rfl rfl (fun w hw => ⟨_, J6, [], rfl, hIc, hw.drop, FroQ.bad hE (by decide)⟩)
 have hE : fromE ps tg has = 0 := by rw [fromE_4 hk0 h6 hall, if_neg (by unfold fromL; rw [sesL_len]; have h := hc179; simp at h; omega)]
 refine X_skip ?_
 refine at_then ?_
 refine zR ?_
 refine zM ?_
 refine zA ?_
 refine zA ?_
 refine zN ?_
 refine X_ret ?_
 first
 | exact at_freezeO hO6 encSH_len (by decide) (by repeat (first | exact .cons .here .nil | exact split_all | exact split_app | apply split_cons | apply split_skip)) (fun I7 hI7 a7 c7 e7 hS7 => by cases e7; exact at_ret2 rfl rfl rfl (fun w hw => ⟨_, I7, [], rfl, hIc.trans hI7, hw.drop, FroQ.good hE ⟨hs, hS7, hRm.mono hI7⟩⟩))
end Go.Proofs.YtehkiccapbkhnaaGreat
end
section
namespace Go.Proofs.YtehkiccapbkhnaaGreat
open Go Go.Kn Go.Proofs
theorem fromR_len (ps : List Pt) (tg : List Int) (has : List (List Int)) : (fromR ps tg has).length ≤ 8 := by
  unfold fromR
  split
  · rename_i h
    unfold fromE at h
    split at h
    · rename_i g; exact (g h).elim
    · split at h
      · cases h
      · split at h
        · split at h
          · cases h
          · omega
        · cases h
  · simp
theorem fromR_bd {ps : List Pt} {tg : List Int} {has : List (List Int)} (hn : has.length ≤ 100000) : ∀ s ∈ fromR ps tg has, s.who.length ≤ 100000 ∧ s.needs.length ≤ 100000 := by
  intro s hs
  have h8 := fromR_len ps tg has
  unfold fromR at hs h8
  split at hs
  · rename_i h
    rw [if_pos h] at h8
    unfold fromL sesL at hs h8
    obtain ⟨i, hi, rfl⟩ := List.mem_map.1 hs
    have hi := List.mem_range.1 hi
    rw [List.length_map, List.length_range] at h8
    constructor
    · have := diffK_len tg has ((keptP ps tg has).getD i zeroP).id has.length
      rw [diffK_all] at this
      exact Nat.le_trans this hn
    · have := nd_len (tg := tg) (pre := (keptP ps tg has).take i) (p := (keptP ps tg has).getD i zeroP) ((keptP ps tg has).take i).length
      rw [nd_full rfl, List.length_take] at this
      have h2 : (sesP1 tg has ((keptP ps tg has).take i) ((keptP ps tg has).getD i zeroP)).needs = ndW tg ((keptP ps tg has).take i) ((keptP ps tg has).getD i zeroP) := rfl
      rw [h2]; omega
  · cases hs
end Go.Proofs.YtehkiccapbkhnaaGreat
end
section
namespace Go.Proofs.YtehkiccapbkhnaaGreat
open Go Go.Kn Go.Proofs
theorem fun_11 : Fun Tryz.prog 11 := .of Tryz.func11 (by kernel_rfl) (by kernel_rfl)
theorem fun_13 : Fun Tryz.prog 13 := .of Tryz.func13 (by kernel_rfl) (by kernel_rfl)
theorem w_fromSpec {I : HMap} {av : Option Addr} {n c : Nat} {ps : List Pt} (hP : SlP I av n c ps) {bv : Option Addr} {n2 c2 : Nat} {tg : List Int} (hT : Sl I 1 encI bv n2 c2 tg) {dv : Option Addr} {n3 c3 : Nat} {hsh : List Hd} {has : List (List Int)} (hV : SlHA I 1 encI dv n3 c3 hsh has) : RetV Tryz.prog 3 [.slice av n c, .slice bv n2 c2, .slice dv n3 c3] I (.bool true) := by
 intro g H w hw
 refine enter Tryz.func3 rfl Tryz.ntmps3 rfl hw ?_
 have hIc := HLe.refl I
 have hlp := hP.len
 have hlV := hV.len
 have hlT := hT.len
 refine zR ?_
 refine zA ?_
 refine zN ?_
 refine X_seq ?_
 refine zR ?_
 refine XO_callV0 (cap := []) (vs := []) rfl rfl fun_10 (w_sane40 _) rfl rfl ?_
 refine XO_v0 (ev_not rfl) rfl rfl rfl ?_
 refine zN ?_
 refine X_cond rfl (fun hc12 => ?_) (fun hc12 => ?_)
 ·
  cases hc12
 refine X_skip ?_
 refine at_then ?_
 refine X_seq ?_
 refine zR ?_
 refine zM ?_
 refine zM ?_
 refine zM ?_
 refine XO_callV0 (cap := []) (vs := [_, _, _]) rfl rfl fun_11 (w_rFewS hP hT hV) rfl rfl ?_
 refine XO_v0 (ev_not rfl) rfl rfl rfl ?_
 refine zN ?_
 refine X_cond rfl (fun hc17 => ?_) (fun hc17 => ?_)
 ·
  refine zR ?_
  refine zA ?_
  refine zN ?_
  refine X_ret ?_
  refine at_then_r ?_
  exact at_ret1 rfl rfl (fun w hw => ⟨by rfl, (hw.mono hIc).drop⟩)
 have hfew := fewS_bd (show fewS ps tg has = true by simpa using hc17)
 have hvl : ∀ v ∈ has, v.length ≤ 100000 := fun v hv => Nat.le_trans (hfew.2.2.2.1 v hv) (by decide)
 refine X_skip ?_
 refine at_then ?_
 refine zR ?_
 refine zM ?_
 refine zM ?_
 refine zM ?_
 refine XO_callM (cap := []) (vs := [_, _, _]) rfl rfl fun_12 .nil (w_From hP (by omega) hT (by omega) hV (by omega) hvl) rfl rfl ?_
 rintro vv1 I1 L1 hI1 ⟨rfl, fa1, fc1, rfl, hs1, hS1⟩
 have hP := hP.mono hI1; have hT := hT.mono hI1; have hV := hV.mono hI1; have hIc := hIc.trans hI1
 rw [List.nil_append]
 refine zM ?_
 refine XO_v0 (ev_extract rfl rfl) rfl rfl rfl ?_
 refine XO_v0 (ev_extract rfl rfl) rfl rfl rfl ?_
 refine zA ?_
 refine zA ?_
 refine zN (zR ?_)
 refine zM ?_
 refine zM ?_
 refine zM ?_
 refine XO_callM (cap := []) (vs := [_, _, _]) rfl rfl fun_13 .nil (w_rFrom hP (by omega) hT (by omega) hV (by omega) hvl) rfl rfl ?_
 rintro vv2 I2 L2 hI2 ⟨rfl, fa2, fc2, rfl, hs2, hS2⟩
 have hP := hP.mono hI2; have hT := hT.mono hI2; have hV := hV.mono hI2; have hS1 := hS1.mono hI2; have hIc := hIc.trans hI2
 rw [List.nil_append]
 refine zM ?_
 refine XO_v0 (ev_extract rfl rfl) rfl rfl rfl ?_
 refine XO_v0 (ev_extract rfl rfl) rfl rfl rfl ?_
 refine zA ?_
 refine zA ?_
 refine zN (zR ?_)
 refine zM ?_
 refine zM ?_
 refine XO_callV0 (cap := []) (vs := [_, _]) rfl rfl fun_14 (w_samS hS1 (by have := fromR_len ps tg has; omega) (fromR_bd (by omega)) hS2) rfl rfl ?_
 refine zM ?_
 refine XO_pushT 3 rfl rfl rfl ?_
 refine XO_v1 (ev_move rfl) (.some rfl rfl rfl rfl gbt) rfl rfl rfl ?_
 refine XO_v1 (ev_move rfl) (.some rfl rfl rfl rfl gbt) rfl rfl rfl ?_
 refine XO_v1 (ev_cmp rfl rfl rfl) (.some rfl rfl rfl rfl gbt) rfl rfl rfl ?_
 refine XO_and0 rfl rfl rfl rfl rfl ?_
 refine zA ?_
 refine zN ?_
 refine X_ret ?_
 first
 | exact at_ret1 rfl rfl (fun w hw => ⟨by rw [samS_self]; simp, (hw.mono hIc).drop⟩)
end Go.Proofs.YtehkiccapbkhnaaGreat
end
section
namespace Go.Kn
open Go Go.ChangeShapes Go.WideShapes Go.ChangeAt Go.RowKit
/-- All that lies in the world is read only. -/
def heapI (W : World) : HMap := fun b => W.heap[b]?
theorem St.start (W : World) : St W (heapI W) (fun _ => none) [] W :=
  ⟨rfl, rfl, rfl, ⟨Nat.le_refl _, Nat.le_refl _⟩, fun _ _ h => h, (fun _ _ h => by cases h), (fun _ _ h => by cases h), fun _ => .inr rfl, (fun _ _ h => by cases h), by simp⟩
theorem St.below {W w : World} {H : HMap} {loc : Loc} (h : St W (heapI W) H loc w) : Below W.heap.size W w :=
  ⟨h.os, h.tape, h.out, h.size.1, fun k hk => by
    have e : W.heap[k]? = some W.heap[k] := Array.getElem?_eq_getElem hk
    rw [h.imm k _ e, e]⟩
theorem RetV.law {P : Program} {f : FuncId} {args : List Value} {W : World} {v : Value} (h : RetV P f args (heapI W) v) : Calls P f args.toArray W fun e w' => e = .returned v ∧ Below W.heap.size W w' :=
  (h W _ W (St.start W)).mono fun _ _ ⟨he, hs⟩ => ⟨he, hs.below⟩
theorem keptBut_below {W w : World} {may : MemPlace → Prop} (h : Below W.heap.size W w) : W.keptBut w may := by
  refine ⟨h.os, h.output, fun i hi => ?_⟩
  rw [h.block i hi]
  rw [Array.getElem?_eq_getElem hi]
  cases W.heap[i] <;> simp
theorem trodAll_stays {H : Type} {enc : TypeId × Value → H} {P : Program} {W W' : World} (hl : laidOutB P = true) (hB : Below W.heap.size W W') (sp : Nat → Bool) : ∀ (ts : List TypeId) (vs : List Value) (ds : List (DataW H)) (ps : List MemPlace), (∀ t ∈ ts, P.readableRec t = true ∧ t < P.types.size) →
    DataW.TrodAll enc P W 0 (fun _ => true) true ts vs ds ps → (∀ x ∈ ps, x.block < W.heap.size ∧ sp x.block = true) → DataW.TrodAll enc P W' 0 sp true ts vs ds ps
  | [], [], [], ps, _, h, _ => h
  | t :: ts, v :: vs, d :: ds, ps, hr, ⟨p, q, h1, h2, e⟩, hlt => by
    subst e
    exact ⟨p, q, WideElems.Trod_stays hl (hr t (List.mem_cons_self ..)).1 (hr t (List.mem_cons_self ..)).2 h1 (fun x hx => hB.same (hlt x (List.mem_append_left _ hx)).1) (fun x hx => (hlt x (List.mem_append_left _ hx)).2),
      trodAll_stays hl hB sp ts vs ds q (fun t ht => hr t (List.mem_cons_of_mem _ ht)) h2 (fun x hx => hlt x (List.mem_append_right _ hx)), rfl⟩
/-- A law's row: it hands back true; the input reads as it did. -/
theorem post_law {H : Type} {enc : TypeId × Value → H} {P : Program} {f : Func} {s : ChangeSpec} {again : Bool} {W W' : World} {args : Array Value} {ds : List (DataW H)} {before : List MemPlace} {tb : TypeId}
    (hl : laidOutB P = true) (hr : f.resultTypes = #[tb]) (hb : P.underlying tb = some .bool) (hv : s.vars = []) (hs : (s.fn H (ds ++ [])) = { results := [.lit (.bool true)], args := ds }) (hrd : ∀ t ∈ f.params.toList, P.readableRec t = true ∧ t < P.types.size)
    (hW : DataW.Whole enc P f.params.toList s.vars false W args.toList ds [] before) (hB : Below W.heap.size W W') : s.post enc P f false true false again W args (.bool true) W' := by
  have hlt : ∀ x ∈ before, x.block < W.heap.size := fun x hx => by simpa using hW.lt x hx
  have hW0 := hW
  obtain ⟨p, q, hA, hV, rfl, hfz, _⟩ := hW
  rw [hv] at hV
  obtain ⟨_, rfl⟩ := trodVars_none hV
  rw [List.append_nil] at hlt hfz hW0
  have hres : ∀ (b : Nat) (sp : Nat → Bool) (hd : Bool), DataW.TrodAll enc P W' b sp hd f.resultTypes.toList ((Value.bool true).resultList f.resultTypes.size) [.lit (.bool true)] [] := fun b sp hd => by
    rw [hr]; exact trodAll_mk1 (shut_bool hb true)
  have hargs : ∀ sp : Nat → Bool, (∀ x ∈ p, sp x.block = true) → DataW.TrodAll enc P W' 0 sp true f.params.toList args.toList ds p := fun sp h => trodAll_stays hl hB sp _ _ _ _ hrd hA (fun x hx => ⟨hlt x hx, h x hx⟩)
  have hnil : ∀ sp : Nat → Bool, DataW.TrodVars enc P W' sp s.vars [] [] := fun sp => by rw [hv]; rfl
  refine ⟨ds, [], p, [], p, [], hW0, ?_, ?_, ?_, keptBut_below hB, fun _ => ?_⟩
  · rw [hs]; exact hres _ _ _
  · rw [hs]; exact hargs _ (fun x hx => by simpa using hlt x hx)
  · rw [hs]; exact hnil _
  · refine ⟨fun j t r ht hr' => ?_, [.lit (.bool true)] ++ ds, [], [] ++ p, ⟨[] ++ p, [], trodAll_append (hargs _ (fun _ _ => rfl)) (hres _ _ _), hnil _, by simp, ?_, fun h => by cases h⟩, fun x hx _ => by simpa using hx⟩
    · rw [hr] at ht hr'
      cases j with
      | zero => simp [Value.resultList] at ht hr'; subst ht; subst hr'; exact okWide_bool_mk hb _
      | succ j => simp at ht
    · intro b off hx
      rw [hB.frozen (hlt _ (by simpa using hx))]
      exact hfz b off (by simpa using hx)
theorem cell_heap {W : World} {b o : Nat} {u : Value} (h : W.cell? ⟨b, o, none⟩ = some u) : Cell (heapI W) [] b o u := by
  unfold World.cell? at h
  split at h
  · rename_i c t fz hb
    simp only [Option.isSome_none, Bool.false_eq_true, if_false] at h
    exact ⟨c, t, fz, .inl hb, h⟩
  · cases h
/-- A slice that came in, as it is read. -/
theorem open_SlT {H : Type} {enc : TypeId × Value → H} {P : Program} {W : World} {t e : TypeId} {size fuel0 : Nat} {cs : List Value} {x0 : DataW H × List MemPlace} {α : Type} (enc' : α → List Value) (ok : α → Prop)
    (ht : P.underlying t = some (.slice e)) (hc : P.cellsOf e = size) (hpos : 0 < size) (hlen : ∀ y, (enc' y).length = size)
    (hel : ∀ fuel cs x, DataW.trod enc P W 0 (fun _ => true) true fuel e cs = some x → ∃ y, ok y ∧ enc' y = cs)
    (hf' : DataW.trod enc P W 0 (fun _ => true) true fuel0 t cs = some x0) : ∃ av n c xs, cs = [.slice av n c] ∧ Sl (heapI W) size enc' av n c xs ∧ (∀ x ∈ xs, ok x) ∧ c ≤ maxLen := by
  rcases Go.Deep.open_slice ht hf' with ⟨e1, _⟩ | ⟨a, len0, cap0, m, n, D, Pl, e1, hb, hl, hm, hmm, _, hx⟩
  · subst e1
    exact ⟨none, 0, 0, [], rfl, .nil, (fun x hx => by cases hx), Nat.zero_le _⟩
  · subst e1
    have hlm : len0 ≤ m := by rw [hmm]; simp; exact hl
    have each : ∀ i, i < len0 → ∃ y, ok y ∧ W.cells? 0 (a.add (i * size)) size = some (enc' y) := fun i hi => by
      obtain ⟨cs', h1, h2⟩ := hx i (by omega)
      obtain ⟨y, hy, e⟩ := hel _ _ _ h2
      rw [hc] at h1
      exact ⟨y, hy, by rw [h1, e]⟩
    have all : ∀ k, k ≤ len0 → ∃ xs : List α, xs.length = k ∧ ∀ i x, xs[i]? = some x → ok x ∧ W.cells? 0 (a.add (i * size)) size = some (enc' x) := by
      intro k
      induction k with
      | zero => intro _; exact ⟨[], rfl, fun i x h => by simp at h⟩
      | succ k ih =>
        intro hk
        obtain ⟨xs, hl', hxs⟩ := ih (by omega)
        obtain ⟨y, hy, hcy⟩ := each k (by omega)
        refine ⟨xs ++ [y], by simp [hl'], fun i x h => ?_⟩
        by_cases hi : i < xs.length
        · rw [List.getElem?_append_left hi] at h; exact hxs i x h
        · rw [List.getElem?_append_right (by omega)] at h
          have : i = k := by have := (List.getElem?_eq_some_iff.1 h).1; simp at this; omega
          subst this
          rw [hl'] at h; simp at h; subst h
          exact ⟨hy, hcy⟩
    obtain ⟨xs, hl', hxs⟩ := all len0 (Nat.le_refl _)
    have add0 : ∀ (b o n : Nat), (⟨b, o, none⟩ : Addr).add n = ⟨b, o + n, none⟩ := fun b o n => by
      unfold Addr.add
      split
      · rename_i e; subst e; rfl
      · rfl
    have hspot : 0 < xs.length → a.spot = none := fun hx => by
      have hx0 : xs[0]? = some xs[0] := List.getElem?_eq_getElem hx
      have hp0 : 0 < (enc' xs[0]).length := by rw [hlen]; exact hpos
      obtain ⟨_, h1, h2⟩ := World.cells?_some (hxs 0 _ hx0).2
      have h3 := h2 0 hpos
      rw [List.getElem?_eq_getElem hp0] at h3
      simpa [Addr.add] using World.cell?_spot h3
    have cellat : ∀ i x, xs[i]? = some x → ∀ j u, (enc' x)[j]? = some u → W.cell? ⟨a.block, a.off + i * size + j, none⟩ = some u := fun i x hx j u hu => by
      obtain ⟨_, h1, h2⟩ := World.cells?_some (hxs i x hx).2
      have hj : j < size := by rw [← hlen x]; exact (List.getElem?_eq_some_iff.1 hu).1
      have h3 := h2 j hj
      rw [hu] at h3
      have hsp := hspot (by have := (List.getElem?_eq_some_iff.1 hx).1; omega)
      obtain ⟨b, o, sp⟩ := a
      simp only at hsp
      subst hsp
      rw [add0, add0] at h3
      exact h3
    refine ⟨some a, len0, cap0, xs, rfl, ⟨hl', hl, fun hn => ?_, fun k x hx j u hu => ?_⟩, fun x hx => ?_, hm⟩
    · have := hspot (by omega)
      obtain ⟨b, o, sp⟩ := a
      simp only at this
      subst this; rfl
    · exact cell_heap (cellat k x hx j u hu)
    · obtain ⟨i, hi⟩ := List.getElem?_of_mem hx
      exact (hxs i x hi).1
theorem open_Sl {H : Type} {enc : TypeId × Value → H} {P : Program} {W : World} {base : Nat} {t e : TypeId} {size : Nat} {v : Value} {d : DataW H} {p : List MemPlace} {α : Type} (enc' : α → List Value) (ok : α → Prop)
    (ht : P.underlying t = some (.slice e)) (hc : P.cellsOf e = size) (hpos : 0 < size) (hlen : ∀ y, (enc' y).length = size)
    (hel : ∀ fuel cs x, DataW.trod enc P W 0 (fun _ => true) true fuel e cs = some x → ∃ y, ok y ∧ enc' y = cs)
    (hv : Value.okWide P W .any base t v) (h : DataW.Trod enc P W 0 (fun _ => true) true t v d p) : ∃ av n c xs, v = .slice av n c ∧ Sl (heapI W) size enc' av n c xs ∧ (∀ x ∈ xs, ok x) ∧ c ≤ maxLen := by
  obtain ⟨a0, len0, cap0, rfl⟩ := okWide_slice ht hv
  obtain ⟨fuel, hf⟩ := h
  obtain ⟨av, n, c, xs, e, h1, h2, h3⟩ := open_SlT enc' ok ht hc hpos hlen hel (cs := [.slice a0 len0 cap0]) (by simpa [Value.cells] using hf)
  cases e
  exact ⟨_, _, _, xs, rfl, h1, h2, h3⟩
/-- A slice of one-cell ints. -/
theorem el_int {H : Type} {enc : TypeId × Value → H} {P : Program} {W : World} {e : TypeId} {k : IntKind} (he : P.underlying e = some (.int k)) (hk : k = .i64) (fuel : Nat) (cs : List Value) (x : DataW H × List MemPlace) (h : DataW.trod enc P W 0 (fun _ => true) true fuel e cs = some x) :
    ∃ y : Int, (-9223372036854775808 ≤ y ∧ y ≤ 9223372036854775807) ∧ [Value.int .i64 y] = cs := by
  subst hk
  obtain ⟨v, hv⟩ : ∃ v, cs = [v] := by
    have := h
    cases fuel with
    | zero => simp [DataW.trod] at this
    | succ m => unfold DataW.trod at this; rw [he] at this; split at this <;> simp_all
  subst hv
  obtain ⟨n, e, _, w⟩ := DataW.trod_int he h
  cases e
  simp only [Lit.wf, Bool.and_eq_true, decide_eq_true_eq] at w
  exact ⟨n, w, rfl⟩
end Go.Kn
end
section
namespace Go.Kn
open Go
theorem trod_seg {H : Type} {enc : TypeId × Value → H} {P : Program} {W : World} {base : Nat} {spare : Nat → Bool} {held : Bool} {t C : Nat} {fs : Array Field} {fuel : Nat} {cs : List Value} {x : DataW H × List MemPlace} (hs : P.underlying t = some (.struct fs))
    (hC : P.cellsOf t = C) (h : DataW.trod enc P W base spare held fuel t cs = some x) :
    cs.length = C ∧ ∃ n, ∀ (i ty off k : Nat), ((fs[i]?).map fun f => (f.type, f.offset)) = some (ty, off) → P.cellsOf ty = k → ∃ y, DataW.trod enc P W base spare held n ty ((cs.drop off).take k) = some y := by
  obtain ⟨xs, n, _, _, hl, hxl, hf⟩ := DataW.trod_struct hs h
  refine ⟨hl.trans hC, n, fun i ty off k hi hk => ?_⟩
  obtain ⟨f, hfi, e⟩ := Option.map_eq_some_iff.1 hi
  cases e
  have g := hf i f hfi
  have hix : i < xs.length := by rw [hxl]; exact (Array.getElem?_eq_some_iff.1 hfi).1
  rw [hk, List.getElem?_eq_getElem hix] at g
  exact ⟨_, g⟩
end Go.Kn
end
section
namespace Go.Proofs.YtehkiccapbkhnaaGreat
open Go Go.Kn Go.Proofs
open Go.ChangeShapes Go.WideShapes Go.ChangeAt Go.RowKit
set_option maxRecDepth 100000
theorem ound_3 : Tryz.prog.underlying 3 = some (.int .i64) := by kernel_rfl
theorem ound_23 : Tryz.prog.underlying 23 = some (.slice 3) := by kernel_rfl
theorem open_ints {H : Type} {enc : TypeId × Value → H} {W : World} {base : Nat} {v : Value} {d : DataW H} {p : List MemPlace} (hv : Value.okWide Tryz.prog W .any base 23 v) (h : DataW.Trod enc Tryz.prog W 0 (fun _ => true) true 23 v d p) :
    ∃ av n c xs, v = .slice av n c ∧ Sl (heapI W) 1 encI av n c xs := by
  obtain ⟨av, n, c, xs, e, hS, hok, _⟩ := open_Sl (e := 3) encI (fun n : Int => -9223372036854775808 ≤ n ∧ n ≤ 9223372036854775807) ound_23 (by kernel_rfl) (by decide) encI_len (fun fuel cs x h => el_int ound_3 rfl fuel cs x h) hv h
  exact ⟨av, n, c, xs, e, hS⟩
end Go.Proofs.YtehkiccapbkhnaaGreat
end
section
namespace Go.Proofs.YtehkiccapbkhnaaGreat
open Go Go.Kn Go.Proofs
open Go.ChangeShapes Go.WideShapes Go.ChangeAt Go.RowKit
set_option maxRecDepth 100000
theorem ostr_61 : Tryz.prog.underlying 61 = some (.struct (Tryz.prog.fieldsOf 61)) := by kernel_rfl
theorem ostr_63 : Tryz.prog.underlying 63 = some (.struct (Tryz.prog.fieldsOf 63)) := by kernel_rfl
theorem ostr_65 : Tryz.prog.underlying 65 = some (.struct (Tryz.prog.fieldsOf 65)) := by kernel_rfl
theorem ound_22 : Tryz.prog.underlying 22 = some (.slice 65) := by kernel_rfl
theorem el_pt {H : Type} {enc : TypeId × Value → H} {W : World} (fuel : Nat) (cs : List Value) (x : DataW H × List MemPlace) (h : DataW.trod enc Tryz.prog W 0 (fun _ => true) true fuel 65 cs = some x) : ∃ y : Pt, (fun p => Nd (heapI W) p) y ∧ encP y = cs := by
  obtain ⟨hl, n0_, f0⟩ := trod_seg (C := 19) ostr_65 (by kernel_rfl) h
  match cs, hl with
  | [c0, c1, c2, c3, c4, c5, c6, c7, c8, c9, c10, c11, c12, c13, c14, c15, c16, c17, c18], _ =>
    obtain ⟨_, g0_0⟩ := f0 0 3 0 1 (by kernel_rfl) (by kernel_rfl)
    obtain ⟨n0, e0, _, w0⟩ := DataW.trod_int ound_3 (show DataW.trod enc Tryz.prog W 0 (fun _ => true) true n0_ 3 [c0] = some _ from g0_0)
    obtain ⟨_, g0_1⟩ := f0 1 3 1 1 (by kernel_rfl) (by kernel_rfl)
    obtain ⟨n1, e1, _, w1⟩ := DataW.trod_int ound_3 (show DataW.trod enc Tryz.prog W 0 (fun _ => true) true n0_ 3 [c1] = some _ from g0_1)
    obtain ⟨_, g0_2⟩ := f0 2 3 2 1 (by kernel_rfl) (by kernel_rfl)
    obtain ⟨n2, e2, _, w2⟩ := DataW.trod_int ound_3 (show DataW.trod enc Tryz.prog W 0 (fun _ => true) true n0_ 3 [c2] = some _ from g0_2)
    obtain ⟨_, g0_3⟩ := f0 3 3 3 1 (by kernel_rfl) (by kernel_rfl)
    obtain ⟨n3, e3, _, w3⟩ := DataW.trod_int ound_3 (show DataW.trod enc Tryz.prog W 0 (fun _ => true) true n0_ 3 [c3] = some _ from g0_3)
    obtain ⟨_, g0_4⟩ := f0 4 63 4 14 (by kernel_rfl) (by kernel_rfl)
    obtain ⟨_, n1_, f1⟩ := trod_seg (C := 14) ostr_63 (by kernel_rfl) (show DataW.trod enc Tryz.prog W 0 (fun _ => true) true n0_ 63 [c4, c5, c6, c7, c8, c9, c10, c11, c12, c13, c14, c15, c16, c17] = some _ from g0_4)
    obtain ⟨_, g1_0⟩ := f1 0 3 0 1 (by kernel_rfl) (by kernel_rfl)
    obtain ⟨n4, e4, _, w4⟩ := DataW.trod_int ound_3 (show DataW.trod enc Tryz.prog W 0 (fun _ => true) true n1_ 3 [c4] = some _ from g1_0)
    obtain ⟨_, g1_1⟩ := f1 1 3 1 1 (by kernel_rfl) (by kernel_rfl)
    obtain ⟨n5, e5, _, w5⟩ := DataW.trod_int ound_3 (show DataW.trod enc Tryz.prog W 0 (fun _ => true) true n1_ 3 [c5] = some _ from g1_1)
    obtain ⟨_, g1_2⟩ := f1 2 3 2 1 (by kernel_rfl) (by kernel_rfl)
    obtain ⟨n6, e6, _, w6⟩ := DataW.trod_int ound_3 (show DataW.trod enc Tryz.prog W 0 (fun _ => true) true n1_ 3 [c6] = some _ from g1_2)
    obtain ⟨_, g1_3⟩ := f1 3 3 3 1 (by kernel_rfl) (by kernel_rfl)
    obtain ⟨n7, e7, _, w7⟩ := DataW.trod_int ound_3 (show DataW.trod enc Tryz.prog W 0 (fun _ => true) true n1_ 3 [c7] = some _ from g1_3)
    obtain ⟨_, g1_4⟩ := f1 4 3 4 1 (by kernel_rfl) (by kernel_rfl)
    obtain ⟨n8, e8, _, w8⟩ := DataW.trod_int ound_3 (show DataW.trod enc Tryz.prog W 0 (fun _ => true) true n1_ 3 [c8] = some _ from g1_4)
    obtain ⟨_, g1_5⟩ := f1 5 3 5 1 (by kernel_rfl) (by kernel_rfl)
    obtain ⟨n9, e9, _, w9⟩ := DataW.trod_int ound_3 (show DataW.trod enc Tryz.prog W 0 (fun _ => true) true n1_ 3 [c9] = some _ from g1_5)
    obtain ⟨_, g1_6⟩ := f1 6 3 6 1 (by kernel_rfl) (by kernel_rfl)
    obtain ⟨n10, e10, _, w10⟩ := DataW.trod_int ound_3 (show DataW.trod enc Tryz.prog W 0 (fun _ => true) true n1_ 3 [c10] = some _ from g1_6)
    obtain ⟨_, g1_7⟩ := f1 7 3 7 1 (by kernel_rfl) (by kernel_rfl)
    obtain ⟨n11, e11, _, w11⟩ := DataW.trod_int ound_3 (show DataW.trod enc Tryz.prog W 0 (fun _ => true) true n1_ 3 [c11] = some _ from g1_7)
    obtain ⟨_, g1_8⟩ := f1 8 3 8 1 (by kernel_rfl) (by kernel_rfl)
    obtain ⟨n12, e12, _, w12⟩ := DataW.trod_int ound_3 (show DataW.trod enc Tryz.prog W 0 (fun _ => true) true n1_ 3 [c12] = some _ from g1_8)
    obtain ⟨_, g1_9⟩ := f1 9 3 9 1 (by kernel_rfl) (by kernel_rfl)
    obtain ⟨n13, e13, _, w13⟩ := DataW.trod_int ound_3 (show DataW.trod enc Tryz.prog W 0 (fun _ => true) true n1_ 3 [c13] = some _ from g1_9)
    obtain ⟨_, g1_10⟩ := f1 10 61 10 2 (by kernel_rfl) (by kernel_rfl)
    obtain ⟨_, n2_, f2⟩ := trod_seg (C := 2) ostr_61 (by kernel_rfl) (show DataW.trod enc Tryz.prog W 0 (fun _ => true) true n1_ 61 [c14, c15] = some _ from g1_10)
    obtain ⟨_, g2_0⟩ := f2 0 3 0 1 (by kernel_rfl) (by kernel_rfl)
    obtain ⟨n14, e14, _, w14⟩ := DataW.trod_int ound_3 (show DataW.trod enc Tryz.prog W 0 (fun _ => true) true n2_ 3 [c14] = some _ from g2_0)
    obtain ⟨_, g2_1⟩ := f2 1 3 1 1 (by kernel_rfl) (by kernel_rfl)
    obtain ⟨n15, e15, _, w15⟩ := DataW.trod_int ound_3 (show DataW.trod enc Tryz.prog W 0 (fun _ => true) true n2_ 3 [c15] = some _ from g2_1)
    obtain ⟨_, g1_11⟩ := f1 11 61 12 2 (by kernel_rfl) (by kernel_rfl)
    obtain ⟨_, n3_, f3⟩ := trod_seg (C := 2) ostr_61 (by kernel_rfl) (show DataW.trod enc Tryz.prog W 0 (fun _ => true) true n1_ 61 [c16, c17] = some _ from g1_11)
    obtain ⟨_, g3_0⟩ := f3 0 3 0 1 (by kernel_rfl) (by kernel_rfl)
    obtain ⟨n16, e16, _, w16⟩ := DataW.trod_int ound_3 (show DataW.trod enc Tryz.prog W 0 (fun _ => true) true n3_ 3 [c16] = some _ from g3_0)
    obtain ⟨_, g3_1⟩ := f3 1 3 1 1 (by kernel_rfl) (by kernel_rfl)
    obtain ⟨n17, e17, _, w17⟩ := DataW.trod_int ound_3 (show DataW.trod enc Tryz.prog W 0 (fun _ => true) true n3_ 3 [c17] = some _ from g3_1)
    obtain ⟨_, g0_5⟩ := f0 5 23 18 1 (by kernel_rfl) (by kernel_rfl)
    obtain ⟨a18, m18, q18, n18, e18, s18, o18, _⟩ := open_SlT (t := 23) (e := 3) encI (fun n : Int => -9223372036854775808 ≤ n ∧ n ≤ 9223372036854775807) ound_23 (by kernel_rfl) (by decide) encI_len (fun fuel cs x h => el_int ound_3 rfl fuel cs x h) (show DataW.trod enc Tryz.prog W 0 (fun _ => true) true n0_ 23 [c18] = some _ from g0_5)
    cases e0; cases e1; cases e2; cases e3; cases e4; cases e5; cases e6; cases e7; cases e8; cases e9; cases e10; cases e11; cases e12; cases e13; cases e14; cases e15; cases e16; cases e17; cases e18
    exact ⟨⟨n0, n1, n2, n3, ⟨n4, n5, n6, n7, n8, n9, n10, n11, n12, n13, n14, n15, n16, n17⟩, a18, m18, q18, n18⟩, s18, rfl⟩
theorem open_ps {H : Type} {enc : TypeId × Value → H} {W : World} {base : Nat} {v : Value} {d : DataW H} {p : List MemPlace} (hv : Value.okWide Tryz.prog W .any base 22 v) (h : DataW.Trod enc Tryz.prog W 0 (fun _ => true) true 22 v d p) :
    ∃ av n c xs, v = .slice av n c ∧ SlP (heapI W) av n c xs := by
  obtain ⟨av, n, c, xs, e, hS, hok, _⟩ := open_Sl (e := 65) encP (fun p => Nd (heapI W) p) ound_22 (by kernel_rfl) (by decide) encP_len (fun fuel cs x h => el_pt fuel cs x h) hv h
  exact ⟨av, n, c, xs, e, ⟨hS, hok⟩⟩
theorem heads9 {I : HMap} : ∀ (hs : List Hd), (∀ h ∈ hs, ∃ v, Sl I 1 encI h.a h.n h.c v) → ∃ vss : List (List Int), RelA I 1 encI hs vss
  | [], _ => ⟨[], rfl, fun k h v a b => by simp at a⟩
  | x :: hs, H => by
    obtain ⟨vss, hl, hv⟩ := heads9 hs fun h hh => H h (List.mem_cons_of_mem _ hh)
    obtain ⟨v0, h0⟩ := H x (List.mem_cons_self ..)
    refine ⟨v0 :: vss, by simp [hl], fun k h v a b => ?_⟩
    cases k with
    | zero => cases a; cases b; exact h0
    | succ k => exact hv k h v a b
theorem open_nest {H : Type} {enc : TypeId × Value → H} {W : World} {base : Nat} {v : Value} {d : DataW H} {p : List MemPlace} (hv : Value.okWide Tryz.prog W .any base 24 v) (h : DataW.Trod enc Tryz.prog W 0 (fun _ => true) true 24 v d p) :
    ∃ av n c hs vss, v = .slice av n c ∧ SlHA (heapI W) 1 encI av n c hs vss := by
  obtain ⟨av, n, c, hs, e, hS, hok, hm⟩ := open_Sl (e := 23) encH (fun h => ∃ v, Sl (heapI W) 1 encI h.a h.n h.c v) (by kernel_rfl) (by kernel_rfl) (by decide) encH_len (fun fuel cs x h => by
    obtain ⟨a, m, q, ys, e, hT, _⟩ := open_SlT (t := 23) (e := 3) encI (fun _ => True) (by kernel_rfl) (by kernel_rfl) (by decide) encI_len (fun fuel cs x h => by
      obtain ⟨y, _, e⟩ := el_int ound_3 rfl fuel cs x h
      exact ⟨y, trivial, e⟩) h
    exact ⟨⟨a, m, q⟩, ⟨ys, hT⟩, e.symm⟩) hv h
  obtain ⟨vss, hr⟩ := heads9 hs hok
  exact ⟨av, n, c, hs, vss, e, hS, hr⟩
end Go.Proofs.YtehkiccapbkhnaaGreat
end
section
namespace Go.Proofs.YtehkiccapbkhnaaGreat
open Go Go.Kn Go.Proofs
open Go.ChangeShapes Go.WideShapes Go.ChangeAt Go.RowKit
theorem own : ownKnob Tryz.prog.godebug = none := by kernel_rfl
theorem laidOut : laidOutB Tryz.prog = true := by kernel_rfl
set_option maxRecDepth 100000 in
theorem rehearseFromSpec_lifted (os : Os) (started : os.Started) (H : Type) (enc : TypeId × Value → H) :
    ReturnsInHanded {} Tryz.checked os 3 .any (Rows.rehearseFromSpecSpec.pre6 enc Tryz.prog Tryz.f3 Rows.rehearseFromSpecRow.domain false) (Rows.rehearseFromSpecSpec.post enc Tryz.prog Tryz.f3 false true false false) := by
  refine returnsInHanded_of_change (C := Tryz.checked) own started (by kernel_rfl) Tryz.func3
    (ChangeSpec.witness6 (enc := enc) (C := Tryz.checked) false ⟨#[], #[.slice none 0 0, .slice none 0 0, .slice none 0 0], []⟩ 8 (by kernel_rfl) (by kernel_rfl) (by kernel_rfl) (by kernel_rfl)) ?_
  intro W base args ds gs before hval0 hW hcnd _
  have hval : ∀ (j : Nat) t v, Tryz.f3.params[j]? = some t → args[j]? = some v → Value.okWide Tryz.prog W .any base t v := hval0
  have hW' := hW
  obtain ⟨p, q, hA0, hV, rfl, hfz, hnd⟩ := hW
  have hA : DataW.TrodAll enc Tryz.prog W 0 (fun _ => true) true Tryz.f3.params.toList args.toList ds p := hA0
  rw [Tryz.params3] at hA hval
  obtain ⟨v0, vs1, d0, ds1, p0, q1, ea, rfl, rfl, h0, hA⟩ := trodAll_cons hA
  obtain ⟨v1, vs2, d1, ds2, p1, q2, rfl, rfl, rfl, h1, hA⟩ := trodAll_cons hA
  obtain ⟨v2, vs3, d2, ds3, p2, q3, rfl, rfl, rfl, h2, hA⟩ := trodAll_cons hA
  obtain ⟨rfl, rfl, rfl⟩ := trodAll_nil hA
  have ea' : args = #[v0, v1, v2] := by rw [← Array.toArray_toList (xs := args), ea]
  subst ea'
  obtain ⟨rfl, rfl⟩ := trodVars_none hV
  obtain ⟨av, n, c, ps, rfl, hP⟩ := open_ps (hval 0 22 v0 rfl rfl) h0
  obtain ⟨bv, n2, c2, tg, rfl, hT⟩ := open_ints (hval 1 23 v1 rfl rfl) h1
  obtain ⟨dv, n3, c3, hsh, has, rfl, hV⟩ := open_nest (hval 2 24 v2 rfl rfl) h2
  refine (RetV.law (w_fromSpec hP hT hV)).mono fun e W' ⟨he, hB⟩ => ?_
  subst he
  exact ⟨_, rfl, post_law laidOut (by kernel_rfl) und_4 rfl rfl (by rw [Tryz.params3]; simp only [List.mem_cons, List.not_mem_nil, or_false, forall_eq_or_imp, forall_eq]; exact ⟨⟨by kernel_rfl, of_decide_eq_true (by kernel_rfl)⟩, ⟨by kernel_rfl, of_decide_eq_true (by kernel_rfl)⟩, ⟨by kernel_rfl, of_decide_eq_true (by kernel_rfl)⟩⟩) hW' hB⟩
theorem rehearseFromSpec_holds : Rows.RehearseFromSpecSaid :=
  OpenClaim.holds_of_wide 3 Tryz.f3 rfl rfl rfl rfl rfl rfl rfl ⟨rfl, rfl, rfl, rfl, rfl⟩ rfl rfl rfl rfl rfl (by kernel_rfl) Tryz.func3 (by kernel_rfl)
    (of_decide_eq_true (by kernel_rfl)) (by unfold Func.isWrapper; first | (rw [if_pos (by decide +kernel)]; kernel_rfl) | (rw [if_neg (by decide +kernel)]; exact ⟨rfl, rfl⟩))
    (fun os started H enc _ => rehearseFromSpec_lifted os started H enc)
#print axioms rehearseFromSpec_holds
end Go.Proofs.YtehkiccapbkhnaaGreat
end
