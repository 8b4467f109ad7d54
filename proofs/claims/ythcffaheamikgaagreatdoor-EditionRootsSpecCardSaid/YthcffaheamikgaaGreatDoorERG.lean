/- editionRootsSpec_holds, part G of the proof: what its theorems say holds without further conditions. -/
import Derived.ProofKit
import Derived.Deep.Slices
import Derived.Test.YthcffaheamikgaaGreatDoorRows
import Derived.LaidMore
import Derived.MakeChecks
import Derived.Lib.LaidTab
import Derived.Test.YthcffaheamikgaaGreatDoorCards
import Derived.Test.YthcffaheamikgaaGreatDoorTie
import Derived.Stop.Joined
import Derived.SevenTiedAt
import Derived.Test.YthcffaheamikgaaGreatDoorERF
section
namespace Go.Proofs.YthcffaheamikgaaGreatDoor
open Go Go.Kn Go.Proofs
/-- Where a number is put in. -/
def insP (l : List Int) (n : Int) : Nat → Nat
  | 0 => 0
  | k + 1 => if n < l.getD k 0 then insP l n k else k + 1
theorem insP_yes {l : List Int} {n : Int} {k : Nat} (h : (decide ((k : Int) > 0) && decide (l.getD ((k : Int) - 1).toNat 0 > n)) = true) : ∃ j, k = j + 1 ∧ insP l n k = insP l n j := by
  simp only [Bool.and_eq_true, decide_eq_true_eq] at h
  cases k with
  | zero => omega
  | succ j =>
    refine ⟨j, rfl, ?_⟩
    have e : (((j + 1 : Nat) : Int) - 1).toNat = j := by omega
    rw [e] at h
    show (if n < l.getD j 0 then insP l n j else j + 1) = _
    rw [if_pos h.2]
theorem insP_no {l : List Int} {n : Int} {k : Nat} (h : (decide ((k : Int) > 0) && decide (l.getD ((k : Int) - 1).toNat 0 > n)) = false) : insP l n k = k := by
  cases k with
  | zero => rfl
  | succ j =>
    have e : (((j + 1 : Nat) : Int) - 1).toNat = j := by omega
    rw [e] at h
    simp only [Bool.and_eq_false_iff, decide_eq_false_iff_not] at h
    show (if n < l.getD j 0 then insP l n j else j + 1) = _
    rw [if_neg (by omega)]
def insF (l : List Int) (n : Int) : List Int := l.take (insP l n l.length) ++ [n] ++ l.drop (insP l n l.length)
theorem insP_le {l : List Int} {n : Int} : ∀ k, insP l n k ≤ k
  | 0 => Nat.le_refl _
  | k + 1 => by
    show (if n < l.getD k 0 then insP l n k else k + 1) ≤ _
    have := insP_le (l := l) (n := n) k
    split <;> omega
theorem insP_hi {l : List Int} {n : Int} : ∀ k, ∀ j, insP l n k ≤ j → j < k → n < l.getD j 0
  | 0, j, _, h => by omega
  | k + 1, j, h1, h2 => by
    have h1 : (if n < l.getD k 0 then insP l n k else k + 1) ≤ j := h1
    split at h1
    · rename_i h
      by_cases e : j = k
      · subst e; exact h
      · exact insP_hi k j h1 (by omega)
    · omega
theorem insP_lo {l : List Int} {n : Int} : ∀ k, 0 < insP l n k → ¬ n < l.getD (insP l n k - 1) 0
  | 0, h => by cases h
  | k + 1, h => by
    have e : insP l n (k + 1) = if n < l.getD k 0 then insP l n k else k + 1 := rfl
    rw [e] at h ⊢
    by_cases hc : n < l.getD k 0
    · rw [if_pos hc] at h ⊢; exact insP_lo k h
    · rw [if_neg hc]; exact hc
theorem insF_len {l : List Int} {n : Int} : (insF l n).length = l.length + 1 := by
  unfold insF
  have := insP_le (l := l) (n := n) l.length
  simp; omega
theorem insF_mem {l : List Int} {n z : Int} : z ∈ insF l n ↔ z = n ∨ z ∈ l := by
  unfold insF
  rw [List.mem_append, List.mem_append, List.mem_singleton]
  have h := List.take_append_drop (insP l n l.length) l
  constructor
  · rintro ((h1 | h1) | h1)
    · exact .inr (List.mem_of_mem_take h1)
    · exact .inl h1
    · exact .inr (List.mem_of_mem_drop h1)
  · rintro (h1 | h1)
    · exact .inl (.inr h1)
    · rw [← h] at h1
      rcases List.mem_append.1 h1 with h1 | h1
      · exact .inl (.inl h1)
      · exact .inr h1
theorem insF_up {l : List Int} {n : Int} (h : l.Pairwise (· < ·)) (hn : n ∉ l) : (insF l n).Pairwise (· < ·) := by
  have hp := insP_le (l := l) (n := n) l.length
  have hlo := insP_lo (l := l) (n := n) l.length
  have hhi := insP_hi (l := l) (n := n) l.length
  have a1 : ∀ y ∈ l.take (insP l n l.length), y < n := fun y hy => by
    obtain ⟨i, hi⟩ := List.getElem?_of_mem hy
    rw [List.getElem?_take] at hi
    split at hi
    · rename_i hip
      have hl := hlo (by omega)
      have hil : i < l.length := by omega
      have hne : y ≠ n := fun e => hn (by rw [← e]; exact List.mem_of_getElem? hi)
      have hge : l.getD (insP l n l.length - 1) 0 ≤ n := by omega
      by_cases e : i = insP l n l.length - 1
      · rw [← e, getD_of hi] at hge; omega
      · have hx : l[insP l n l.length - 1]? = some (l.getD (insP l n l.length - 1) 0) := some_getD rfl (by omega)
        have h1 := List.pairwise_iff_getElem.1 h i (insP l n l.length - 1) hil (by omega) (by omega)
        have e1 := (List.getElem?_eq_some_iff.1 hi).2
        have e2 := (List.getElem?_eq_some_iff.1 hx).2
        rw [e1, e2] at h1
        omega
    · cases hi
  have a2 : ∀ y ∈ l.drop (insP l n l.length), n < y := fun y hy => by
    obtain ⟨i, hi⟩ := List.getElem?_of_mem hy
    rw [List.getElem?_drop] at hi
    have hil := (List.getElem?_eq_some_iff.1 hi).1
    have := hhi (insP l n l.length + i) (by omega) hil
    rw [getD_of hi] at this; exact this
  unfold insF
  rw [List.append_assoc, List.pairwise_append]
  refine ⟨h.sublist (List.take_sublist _ _), ?_, fun a ha b hb => ?_⟩
  · rw [List.singleton_append, List.pairwise_cons]
    exact ⟨a2, h.sublist (List.drop_sublist _ _)⟩
  · rw [List.singleton_append] at hb
    rcases List.mem_cons.1 hb with rfl | hb
    · exact a1 a ha
    · have := a1 a ha; have := a2 b hb; omega
/-- The states whose cost is the least, put in one after another. -/
def refK (st cs : List Int) (b : Int) : Nat → List Int
  | 0 => []
  | k + 1 => if cs.getD k 0 = b then insF (refK st cs b k) (st.getD k 0) else refK st cs b k
theorem refK_yes {st cs : List Int} {b x y : Int} {k : Nat} (hx : st[k]? = some x) (hy : cs[k]? = some y) (h : y = b) : refK st cs b (k + 1) = insF (refK st cs b k) x := by
  show (if cs.getD k 0 = b then insF (refK st cs b k) (st.getD k 0) else refK st cs b k) = _
  rw [getD_of hy, if_pos h, getD_of hx]
theorem refK_no {st cs : List Int} {b y : Int} {k : Nat} (hy : cs[k]? = some y) (h : y ≠ b) : refK st cs b (k + 1) = refK st cs b k := by
  show (if cs.getD k 0 = b then insF (refK st cs b k) (st.getD k 0) else refK st cs b k) = _
  rw [getD_of hy, if_neg h]
theorem refK_len {st cs : List Int} {b : Int} : ∀ k, (refK st cs b k).length ≤ k
  | 0 => Nat.le_refl _
  | k + 1 => by
    show (if cs.getD k 0 = b then insF (refK st cs b k) (st.getD k 0) else refK st cs b k).length ≤ _
    have := refK_len (st := st) (cs := cs) (b := b) k
    split
    · rw [insF_len]; omega
    · omega
theorem refK_mem {st cs : List Int} {b z : Int} : ∀ k, z ∈ refK st cs b k ↔ ∃ i, i < k ∧ st.getD i 0 = z ∧ cs.getD i 0 = b
  | 0 => by
    constructor
    · intro h; cases h
    · rintro ⟨i, h, _⟩; omega
  | k + 1 => by
    have ih := refK_mem (st := st) (cs := cs) (b := b) (z := z) k
    have e : refK st cs b (k + 1) = if cs.getD k 0 = b then insF (refK st cs b k) (st.getD k 0) else refK st cs b k := rfl
    rw [e]
    split
    · rename_i hc
      rw [insF_mem, ih]
      constructor
      · rintro (rfl | ⟨i, h1, h2⟩)
        · exact ⟨k, by omega, rfl, hc⟩
        · exact ⟨i, by omega, h2⟩
      · rintro ⟨i, h1, h2, h3⟩
        by_cases e : i = k
        · subst e; exact .inl h2.symm
        · exact .inr ⟨i, by omega, h2, h3⟩
    · rename_i hc
      rw [ih]
      constructor
      · rintro ⟨i, h1, h2⟩; exact ⟨i, by omega, h2⟩
      · rintro ⟨i, h1, h2, h3⟩
        by_cases e : i = k
        · subst e; exact absurd h3 hc
        · exact ⟨i, by omega, h2, h3⟩
theorem refK_up {st cs : List Int} {b : Int} (hd : st.Nodup) : ∀ k, k ≤ st.length → (refK st cs b k).Pairwise (· < ·)
  | 0, _ => List.Pairwise.nil
  | k + 1, hk => by
    have ih := refK_up (cs := cs) (b := b) hd k (by omega)
    have e : refK st cs b (k + 1) = if cs.getD k 0 = b then insF (refK st cs b k) (st.getD k 0) else refK st cs b k := rfl
    rw [e]
    split
    · refine insF_up ih fun h => ?_
      obtain ⟨i, h1, h2, _⟩ := (refK_mem k).1 h
      have hx : st[i]? = some (st.getD i 0) := some_getD rfl (by omega)
      have hy : st[k]? = some (st.getD k 0) := some_getD rfl (by omega)
      have e1 := (List.getElem?_eq_some_iff.1 hx).2
      have e2 := (List.getElem?_eq_some_iff.1 hy).2
      exact List.pairwise_iff_getElem.1 hd i k (by omega) (by omega) h1 (by rw [e1, e2, h2])
    · exact ih
def refRt (rows : List (List Int)) (cl : List Int) (l : Nat) : List Int := refK (statesF rows l) (costsF rows cl l 64 (allS rows.length)) (leastF (costsF rows cl l 64 (allS rows.length))) (costsF rows cl l 64 (allS rows.length)).length
theorem refRt_eq {rows : List (List Int)} {cl : List Int} {l : Nat} (hr : rowsN rows = 0) (hc : chkN rows.length cl = 0) : refRt rows cl l = rootF rows cl l := by
  have hn := chkN_ok hc
  have hal := all_in (n := (rows.length : Int)) ⟨hn.1, hn.2.1⟩
  have hcs := costs_tree (l := l) (rows := rows) hc 64 (allS rows.length) (by omega) (ok_all hc)
  have hlen : (costsF rows cl l 64 (allS rows.length)).length = (statesF rows l).length := costs_len
  unfold refRt
  refine up_eq (refK_up (st_nd rows l) _ (by omega)) root_up fun z => ?_
  rw [refK_mem, root_iff hr hc, hcs, List.length_map]
  have hg : ∀ i, i < (statesF rows l).length → ((statesF rows l).map (cT (statesF rows l) (uF rows l) (treeT cl 64 (allS rows.length)))).getD i 0 = cT (statesF rows l) (uF rows l) (treeT cl 64 (allS rows.length)) ((statesF rows l).getD i 0) := fun i hi =>
    getD_of (by rw [List.getElem?_map, some_getD (d := (0 : Int)) rfl hi]; rfl)
  constructor
  · rintro ⟨i, hi, e1, e2⟩
    rw [hg i hi, e1] at e2
    exact ⟨by rw [← e1]; exact List.mem_of_getElem? (some_getD (d := (0 : Int)) rfl hi), e2⟩
  · rintro ⟨hz, e⟩
    obtain ⟨i, hi⟩ := List.getElem?_of_mem hz
    have hil := (List.getElem?_eq_some_iff.1 hi).1
    refine ⟨i, hil, getD_of hi, ?_⟩
    rw [hg i hil, getD_of hi]; exact e
theorem roots_few {rows : List (List Int)} {cl : List Int} : (rootsL rows cl).length ≤ 64 := by
  by_cases h : costE rows cl = 0
  · obtain ⟨_, _, h64, _⟩ := rows_ok (cost_rows h)
    rw [roots_len h]; exact h64
  · rw [roots_bad h]; simp
theorem roots_in {rows : List (List Int)} {cl v : List Int} (hn : rows.length ≤ 1000) (h : v ∈ rootsL rows cl) : v.length ≤ 100000 := by
  by_cases h0 : costE rows cl = 0
  · rw [roots_ok h0] at h
    obtain ⟨k, _, rfl⟩ := List.mem_map.1 h
    have h1 : (rootF rows cl k).length ≤ (stE rows k).length := List.length_filter_le _ _
    have h2 := stE_len (rows := rows) (l := k)
    omega
  · rw [roots_bad h0] at h; cases h
end Go.Proofs.YthcffaheamikgaaGreatDoor
end
section
namespace Go.Proofs.YthcffaheamikgaaGreatDoor
open Go Go.Kn Go.Proofs
theorem fun_56 : Fun Tryz.prog 56 := .of Tryz.func56 (by kernel_rfl) (by kernel_rfl)
theorem w_ins {I : HMap} {av : Option Addr} {n c : Nat} {xs : List Int} (hS : Sl I 1 encI av n c xs) (hn : n ≤ 100000) (x : Int) : RetM Tryz.prog 56 [.slice av n c, .int .i64 x] I [] (SlRes 1 encI (insF xs x)) := by
 intro g H w hw
 refine enter Tryz.func56 rfl Tryz.ntmps56 rfl hw ?_
 have hIc := HLe.refl I
 have hlS := hS.len
 subst hlS
 have hcap := hS.cap
 refine X_seq (X_region ?_)
 refine zA ?_
 refine XO_nil (at_then (X_seq (X_region ?_)))
 refine zM ?_
 refine XO_v0 (ev_lenS rfl slt_23) rfl rfl rfl ?_
 refine zA ?_
 refine XO_nil (at_then ?_)
 refine X_seq ?_
 refine X_block ?_
 refine X_loopT [(0, _), (1, _)] (.cons rfl (.cons rfl .nil)) (fun T L0 mz E I' loc' => ∃ (k : Nat), mz = 0 + k ∧ E = (5, .int .i64 k) :: T ∧ I = I' ∧ L0 = loc' ∧ k ≤ xs.length ∧ insP xs x xs.length = insP xs x k) _ _ _ _ ⟨xs.length, rfl, rfl, rfl, rfl, Nat.le_refl _, rfl⟩ (.cons rfl (.cons rfl (.cons rfl .nil))) (HLe.refl _) rfl ?_
 rintro mz E I' loc' ⟨k, rfl, rfl, rfl, rfl, hk, hp⟩
 refine X_seq ?_
 refine X_seq (X_region ?_)
 refine zM ?_
 refine zC ?_
 refine zM ?_
 refine XO_pushT 2 rfl rfl rfl ?_
 refine XO_v1 (ev_move rfl) (.some rfl rfl rfl rfl gbt) rfl rfl rfl ?_
 refine XO_v1 (ev_move rfl) (.some rfl rfl rfl rfl gbt) rfl rfl rfl ?_
 refine XO_v1 (ev_arB rfl rfl rfl (fun hg => by first | omega | (simp [conj] at hg; omega))) (.some rfl rfl rfl rfl gbt) rfl rfl rfl ?_
 refine XO_v1 (ev_indexSl rfl rfl slt_23 (by assumption) (fun hg => by first | omega | (simp [conj] at hg; omega))) (.some rfl rfl rfl rfl gbt) rfl rfl rfl ?_
 refine XO_v1 (ev_load rfl sct_3 (fun hg => by exact Sl.get0 (k := ((k : Int) - 1).toNat) hS (some_getD (d := 0) rfl (by simp [conj] at hg; omega)) rfl)) (.some rfl rfl rfl rfl gbt) rfl rfl rfl ?_
 refine XO_v1 (ev_move rfl) (.some rfl rfl rfl rfl gbt) rfl rfl rfl ?_
 refine XO_v1 (ev_cmp rfl rfl rfl) (.some rfl rfl rfl rfl gbt) rfl rfl rfl ?_
 refine XO_and0 rfl rfl rfl rfl rfl ?_
 refine XO_nil (at_then ?_)
 refine X_cond rfl (fun hc19 => ?_) (fun hc19 => ?_)
 ·
  obtain ⟨j, rfl, hpj⟩ := insP_yes hc19
  refine X_skip ?_
  refine at_then ?_
  refine X_block ?_
  refine X_region ?_
  refine zM ?_
  refine zB ?_
  refine zA ?_
  refine XO_nil ?_
  rw [show (((j + 1 : Nat) : Int) - 1) = ((j : Nat) : Int) by omega]
  refine at_block_n ?_
  exact at_met2 _ _ ⟨0 + j, by omega, j, rfl, rfl, rfl, rfl, by omega, by rw [hp, hpj]⟩ (.cons rfl (.cons rfl (.cons rfl .nil))) (by repeat (first | exact .refl | exact subL_left | refine subL_app ?_ | refine .drop ?_ | refine subL_add ?_))
 ·
  rw [insP_no hc19] at hp
  refine X_exit ?_
  refine at_then_e ?_
  refine at_then_e ?_
  refine at_block_hit ?_
  refine at_then ?_
  refine X_seq (X_region ?_)
  refine XO_buildSlice (ps := []) (m := []) elt_23 rfl (.nil) rfl (by simp [encI_len]) (by decide) (by decide) rfl rfl (fun b_22 => ?_)
  refine zM ?_
  refine zM ?_
  refine XO_v0 (ev_sliceHi rfl rfl slt_23 (fun hg => by first | omega | (simp [conj] at hg; omega))) rfl rfl rfl ?_
  refine XO_append (v := _) (ys := (xs.take k).flatMap encI) (L := [(b_22, _)]) rfl rfl elt_23 OwnS.new (by repeat (first | exact .cons .here .nil | exact split_all | exact split_app | apply split_cons | apply split_skip)) ((hS.take hk).src encI_len) (one_I _) (by omega) rfl rfl ?_
  intro v7 L7 hO7 _; rw [List.nil_append, Nat.zero_add] at hO7
  refine zA ?_
  refine XO_nil (at_then (X_seq (X_region ?_)))
  refine zM ?_
  refine zM ?_
  refine XO_buildSlice (ps := [(0, _)]) (m := [encI x]) elt_23 rfl (.cons rfl (.nil)) rfl (by simp [encI_len]) (by decide) (by decide) rfl rfl (fun b_29 => ?_)
  refine XO_append (v := _) (ys := [x].flatMap encI) (L := L7) rfl rfl elt_23 hO7 (by repeat (first | exact .cons .here .nil | exact split_all | exact split_app | apply split_cons | apply split_skip)) ⟨rfl, fun _ => rfl, by repeat (first | exact Cells.here | apply Cells.there | apply Cells.app)⟩ (one_I [x]) (by omega) rfl rfl ?_
  intro v8 L8 hO8 _; rw [← List.flatMap_append] at hO8
  refine zA ?_
  refine XO_nil (at_then (X_seq (X_region ?_)))
  refine zM ?_
  refine zM ?_
  refine zM ?_
  refine XO_v0 (ev_sliceLo rfl rfl slt_23 (fun hg => by first | omega | (simp [conj] at hg; omega))) rfl rfl rfl ?_
  refine XO_append (v := _) (ys := (xs.drop k).flatMap encI) (L := L8) rfl rfl elt_23 hO8 (by repeat (first | exact .cons .here .nil | exact split_all | exact split_app | apply split_cons | apply split_skip)) ((hS.drop hk).src encI_len) (one_I _) (by omega) rfl rfl ?_
  intro v9 L9 hO9 _; rw [← List.flatMap_append] at hO9
  refine zA ?_
  refine XO_nil (at_then ?_)
  refine X_ret ?_
  exact at_ret1 rfl rfl (fun w hw => by obtain ⟨I9, h91, h92, h93⟩ := OwnS.res hO9 encI_len (by decide) (hw.subL (by repeat (first | exact .refl | exact subL_left))); rw [show xs.take k ++ [x] ++ xs.drop k = insF xs x by unfold insF; rw [hp]] at h93; exact ⟨_, I9, [], rfl, hIc.trans h91, h92, h93⟩)
theorem w_rroots {I : HMap} {av : Option Addr} {n c : Nat} {xs : List Int} (hS : Sl I 1 encI av n c xs) (hn : n ≤ 100000) {bv : Option Addr} {n2 c2 : Nat} {rows : List (List Int)} (hV : SlN I bv n2 c2 rows) (hn2 : n2 ≤ 100000) (l : Nat) (hl : ∀ r ∈ rows, l < r.length) (hc : chkN rows.length xs = 0) : RetM Tryz.prog 27 [.slice bv n2 c2, .slice av n c, .int .i64 l] I [] (SlRes 1 encI (refRt rows xs l)) := by
 intro g H w hw
 refine enter Tryz.func27 rfl Tryz.ntmps27 rfl hw ?_
 have hIc := HLe.refl I
 have hlV := hV.len
 subst hlV
 have hck := chkN_ok hc
 have hsh := shl_in (n := (rows.length : Int)) ⟨by omega, by omega⟩
 have hal9 := all_in (n := (rows.length : Int)) ⟨by omega, by omega⟩
 have hcl : (costsF rows xs l 64 (allS rows.length)).length = (statesF rows l).length := costs_len
 have hsl := st_len (rows := rows) (l := l)
 have hsp := st_pos (rows := rows) (l := l)
 refine X_seq (X_region ?_)
 refine zA ?_
 refine XO_nil (at_then (X_seq (X_region ?_)))
 refine zM ?_
 refine zM ?_
 refine XO_callM (cap := []) (vs := [_, _]) rfl rfl fun_54 .nil (w_States hV hn2 l hl) rfl rfl ?_
 rintro vv1 I1 L1 hI1 ⟨rfl, a9, c9, rfl, hSt⟩
 have hS := hS.mono hI1
 have hV := hV.mono hI1
 have hIc := hIc.trans hI1
 refine zA ?_
 refine XO_nil (at_then (X_seq (X_region ?_)))
 refine zM ?_
 refine zM ?_
 refine zM ?_
 refine zM ?_
 refine XO_v0 (ev_lenS rfl slt_22) rfl rfl rfl ?_
 refine XO_v0 (ev_shl rfl rfl (fun hg => by omega)) rfl rfl rfl ?_
 refine zB ?_
 refine XO_callM (cap := []) (vs := [_, _, _, _]) rfl rfl fun_55 .nil (w_costsA hS hn hV hn2 l hl hc) rfl rfl ?_
 rintro vv2 I2 L2 hI2 ⟨rfl, aC, cC, rfl, hC⟩
 have hS := hS.mono hI2
 have hV := hV.mono hI2
 have hSt := hSt.mono hI2
 have hIc := hIc.trans hI2
 refine zA ?_
 refine XO_nil (at_then (X_seq (X_region ?_)))
 refine zM ?_
 refine XO_v0 (ev_indexSl rfl rfl slt_23 (by assumption) (fun hg => by first | omega | (simp [conj] at hg; omega))) rfl rfl rfl ?_
 refine XO_v0 (ev_load rfl sct_3 (fun hg => by exact Sl.get0 (k := 0) hC (some_getD (d := 0) rfl (by omega)) rfl)) rfl rfl rfl ?_
 refine zA ?_
 refine XO_nil (at_then ?_)
 refine X_seq ?_
 refine X_seq (X_region ?_)
 refine zA ?_
 refine XO_nil (at_then ?_)
 refine X_block ?_
 refine X_loopT [(7, _), (8, _)] (.cons rfl (.cons rfl .nil)) (fun T L0 mz E I' loc' => ∃ (i : Nat) (b : Int), mz = (costsF rows xs l 64 (allS rows.length)).length - i ∧ E = (9, .int .i64 b) :: (10, .int .i64 i) :: T ∧ I2 = I' ∧ L0 = loc' ∧ i ≤ (costsF rows xs l 64 (allS rows.length)).length ∧ b = minK (costsF rows xs l 64 (allS rows.length)) i) _ _ _ _ ⟨0, _, rfl, rfl, rfl, rfl, Nat.zero_le _, by simp [minK]⟩ (.cons rfl (.cons rfl (.cons rfl (.cons rfl .nil)))) (HLe.refl _) rfl ?_
 rintro mz E I' loc' ⟨i, b, rfl, rfl, rfl, rfl, hi, hb⟩
 refine X_seq ?_
 refine X_seq (X_region ?_)
 refine zM ?_
 refine zM ?_
 refine XO_v0 (ev_lenS rfl slt_23) rfl rfl rfl ?_
 refine zC ?_
 refine XO_nil (at_then ?_)
 refine X_cond rfl (fun hc30 => ?_) (fun hc30 => ?_)
 ·
  have hlt_i : i < (costsF rows xs l 64 (allS rows.length)).length := by have h := hc30; simp at h; omega
  obtain ⟨y, hy⟩ := hC.at hlt_i
  refine X_skip ?_
  refine at_then ?_
  refine X_seq ?_
  refine X_block ?_
  refine X_region ?_
  refine zM ?_
  refine zM ?_
  refine zM ?_
  refine XO_v0 (ev_indexSl rfl rfl slt_23 (by assumption) (fun hg => by first | omega | (simp [conj] at hg; omega))) rfl rfl rfl ?_
  refine XO_v0 (ev_load rfl sct_3 (fun hg => by exact Sl.get0 hC hy rfl)) rfl rfl rfl ?_
  refine XO_v0 (ev_min rfl rfl) rfl rfl rfl ?_
  refine zA ?_
  refine XO_nil ?_
  refine at_block_n ?_
  refine at_then ?_
  refine X_region ?_
  refine zM ?_
  refine zB ?_
  refine zA ?_
  refine XO_nil ?_
  exact at_met2 _ _ ⟨(costsF rows xs l 64 (allS rows.length)).length - (i + 1), by omega, i + 1, _, rfl, rfl, rfl, rfl, by omega, by rw [minK_step hy, hb]⟩ (.cons rfl (.cons rfl (.cons rfl (.cons rfl .nil)))) (by repeat (first | exact .refl | exact subL_left | refine subL_app ?_ | refine .drop ?_ | refine subL_add ?_))
 ·
  have hge_i : (costsF rows xs l 64 (allS rows.length)).length ≤ i := by have h := hc30; simp at h; omega
  have hie : i = (costsF rows xs l 64 (allS rows.length)).length := by omega
  rw [hie] at hb
  have hb : b = leastF (costsF rows xs l 64 (allS rows.length)) := hb
  subst hb
  refine X_exit ?_
  refine at_then_e ?_
  refine at_then_e ?_
  refine at_block_hit ?_
  refine at_then ?_
  refine X_seq (X_region ?_)
  refine XO_buildSlice (ps := []) (m := []) elt_23 rfl (.nil) rfl (by simp [encI_len]) (by decide) (by decide) rfl rfl (fun b_39 => ?_)
  refine zA ?_
  refine XO_nil ?_
  refine X_dropTo [] subL_nil ?_
  refine at_then ?_
  refine X_seq ?_
  refine X_seq (X_region ?_)
  refine zA ?_
  refine XO_nil (at_then ?_)
  refine X_block ?_
  refine X_loopT [(7, _), (8, _), (9, _)] (.cons rfl (.cons rfl (.cons rfl .nil))) (fun T L0 mz E I' loc' => ∃ (i : Nat) (a11 : Option Addr) (n11 : Nat) (c11 : Nat), mz = (costsF rows xs l 64 (allS rows.length)).length - i ∧ E = (11, .slice a11 n11 c11) :: (12, .int .i64 i) :: T ∧ HLe I2 I' ∧ L0 = loc' ∧ i ≤ (costsF rows xs l 64 (allS rows.length)).length ∧ Sl I' 1 encI a11 n11 c11 (refK (statesF rows l) (costsF rows xs l 64 (allS rows.length)) (leastF (costsF rows xs l 64 (allS rows.length))) i)) _ _ _ _ ⟨0, _, 0, _, rfl, rfl, HLe.refl _, rfl, Nat.zero_le _, Sl.nil⟩ (.cons rfl (.cons rfl (.cons rfl (.cons rfl (.cons rfl .nil))))) (HLe.refl _) rfl ?_
  rintro mz E J4 loc' ⟨i, a11, n11, c11, rfl, rfl, hJ, rfl, hi, h11⟩
  have hS := hS.mono hJ
  have hV := hV.mono hJ
  have hSt := hSt.mono hJ
  have hC := hC.mono hJ
  have hIc := hIc.trans hJ
  have hB2 := hJ
  refine X_seq ?_
  refine X_seq (X_region ?_)
  refine zM ?_
  refine zM ?_
  refine XO_v0 (ev_lenS rfl slt_23) rfl rfl rfl ?_
  refine zC ?_
  refine XO_nil (at_then ?_)
  refine X_cond rfl (fun hc43 => ?_) (fun hc43 => ?_)
  ·
   have hlt_i : i < (costsF rows xs l 64 (allS rows.length)).length := by have h := hc43; simp at h; omega
   obtain ⟨y, hy⟩ := hC.at hlt_i
   obtain ⟨x, hx⟩ := hSt.at (show i < _ by omega)
   have h11l := h11.len
   have hrk := refK_len (st := (statesF rows l)) (cs := (costsF rows xs l 64 (allS rows.length))) (b := leastF (costsF rows xs l 64 (allS rows.length))) i
   refine X_skip ?_
   refine at_then ?_
   refine X_seq ?_
   refine X_block ?_
   refine X_seq (X_region ?_)
   refine zM ?_
   refine zM ?_
   refine XO_v0 (ev_indexSl rfl rfl slt_23 (by assumption) (fun hg => by first | omega | (simp [conj] at hg; omega))) rfl rfl rfl ?_
   refine XO_v0 (ev_load rfl sct_3 (fun hg => by exact Sl.get0 hC hy rfl)) rfl rfl rfl ?_
   refine zM ?_
   refine zC ?_
   refine XO_nil (at_then ?_)
   refine X_cond rfl (fun hc51 => ?_) (fun hc51 => ?_)
   ·
    have heq : y = leastF (costsF rows xs l 64 (allS rows.length)) := by simpa using hc51
    refine X_region ?_
    refine zM ?_
    refine zM ?_
    refine zM ?_
    refine XO_v0 (ev_indexSl rfl rfl slt_23 (by assumption) (fun hg => by first | omega | (simp [conj] at hg; omega))) rfl rfl rfl ?_
    refine XO_v0 (ev_load rfl sct_3 (fun hg => by exact Sl.get0 hSt hx rfl)) rfl rfl rfl ?_
    refine XO_callM (cap := []) (vs := [_, _]) rfl rfl fun_56 .nil (w_ins h11 (by omega) x) rfl rfl ?_
    rintro vv5 I5 L5 hI5 ⟨rfl, aN, cN, rfl, hN⟩
    have hS := hS.mono hI5
    have hV := hV.mono hI5
    have hSt := hSt.mono hI5
    have hC := hC.mono hI5
    have h11 := h11.mono hI5
    have hIc := hIc.trans hI5
    have hB2 := hB2.trans hI5
    refine zA ?_
    refine XO_nil ?_
    refine at_block_n ?_
    refine at_then ?_
    refine X_region ?_
    refine zM ?_
    refine zB ?_
    refine zA ?_
    refine XO_nil ?_
    first
    | exact at_met2 _ _ ⟨(costsF rows xs l 64 (allS rows.length)).length - (i + 1), by omega, i + 1, _, _, _, rfl, rfl, hB2, rfl, by omega, by rw [refK_yes hx hy heq]; exact hN⟩ (.cons rfl (.cons rfl (.cons rfl (.cons rfl (.cons rfl .nil))))) (by repeat (first | exact .refl | exact subL_left | refine subL_app ?_ | refine .drop ?_ | refine subL_add ?_))
   ·
    have hne : y ≠ leastF (costsF rows xs l 64 (allS rows.length)) := by simpa using hc51
    refine X_skip ?_
    refine at_block_n ?_
    refine at_then ?_
    refine X_region ?_
    refine zM ?_
    refine zB ?_
    refine zA ?_
    refine XO_nil ?_
    first
    | exact at_met2 _ _ ⟨(costsF rows xs l 64 (allS rows.length)).length - (i + 1), by omega, i + 1, _, _, _, rfl, rfl, hB2, rfl, by omega, by rw [refK_no hy hne]; exact h11⟩ (.cons rfl (.cons rfl (.cons rfl (.cons rfl (.cons rfl .nil))))) (by repeat (first | exact .refl | exact subL_left | refine subL_app ?_ | refine .drop ?_ | refine subL_add ?_))
  ·
   have hge_i : (costsF rows xs l 64 (allS rows.length)).length ≤ i := by have h := hc43; simp at h; omega
   obtain rfl : i = (costsF rows xs l 64 (allS rows.length)).length := by omega
   have h11l := h11.len
   subst h11l
   refine X_exit ?_
   refine at_then_e ?_
   refine at_then_e ?_
   refine at_block_hit ?_
   refine at_then ?_
   refine X_seq (X_region ?_)
   refine zM ?_
   refine zA ?_
   refine XO_nil (at_then ?_)
   refine X_ret ?_
   exact at_ret1 rfl rfl (fun w hw => ⟨_, _, [], rfl, hIc, hw.drop, rfl, a11, c11, rfl, h11⟩)
end Go.Proofs.YthcffaheamikgaaGreatDoor
end
section
namespace Go.Proofs.YthcffaheamikgaaGreatDoor
open Go Go.Kn Go.Proofs
theorem fun_26 : Fun Tryz.prog 26 := .of Tryz.func26 (by kernel_rfl) (by kernel_rfl)
theorem fun_27 : Fun Tryz.prog 27 := .of Tryz.func27 (by kernel_rfl) (by kernel_rfl)
theorem w_rRoots {I : HMap} {av : Option Addr} {n c : Nat} {xs : List Int} (hS : Sl I 1 encI av n c xs) (hn : n ≤ 100000) {bv : Option Addr} {n2 c2 : Nat} {rows : List (List Int)} (hVn : SlN I bv n2 c2 rows) (hn2 : n2 ≤ 100000) : RetM Tryz.prog 8 [.slice bv n2 c2, .slice av n c] I [] (RootsQ rows xs) := by
 intro g H w hw
 refine enter Tryz.func8 rfl Tryz.ntmps8 rfl hw ?_
 have hIc := HLe.refl I
 have hlV := hVn.len
 subst hlV
 obtain ⟨hs, hV⟩ := id hVn
 have hH := hV.1
 refine X_seq (X_region ?_)
 refine zA ?_
 refine zA ?_
 refine XO_nil (at_then (X_seq (X_region ?_)))
 refine zM ?_
 refine zM ?_
 refine XO_callV0 (cap := []) (vs := [_, _]) rfl rfl fun_26 (w_rcost hS hn hVn hn2) rfl rfl ?_
 refine zM ?_
 refine XO_v0 (ev_extract rfl rfl) rfl rfl rfl ?_
 refine XO_v0 (ev_extract rfl rfl) rfl rfl rfl ?_
 refine zA ?_
 refine zA ?_
 refine XO_nil (at_then ?_)
 refine X_seq ?_
 refine X_seq (X_region ?_)
 refine zM ?_
 refine zC ?_
 refine XO_nil (at_then ?_)
 refine X_cond rfl (fun hc17 => ?_) (fun hc17 => ?_)
 ·
  have hcE : costE rows xs ≠ 0 := by simpa using hc17
  refine X_seq (X_region ?_)
  refine zM ?_
  refine zA ?_
  refine zA ?_
  refine XO_nil (at_then ?_)
  refine X_ret ?_
  refine at_then_r ?_
  first
  | exact at_ret2 rfl rfl rfl (fun w hw => ⟨_, _, [], rfl, hIc, hw.drop, rfl, none, 0, by rw [roots_bad hcE]; rfl, by rw [roots_bad hcE]; exact .none⟩)
 ·
  have hcE : costE rows xs = 0 := by simpa using hc17
  have hr0 := cost_rows hcE
  have hc0 : chkN rows.length xs = 0 := by have h := hcE; unfold costE at h; rw [if_neg (by omega)] at h; exact h
  obtain ⟨hr1, hr6, hr64, hrr⟩ := rows_ok hr0
  obtain ⟨x0, v0, hx0, hv0, hQ0⟩ := hV.at (k := 0) (by omega)
  have hx0l := hQ0.len
  have hg0 : rows.getD 0 [] = v0 := getD_of hv0
  rw [hg0] at hr64 hrr
  refine X_skip ?_
  refine at_then ?_
  refine X_seq (X_region ?_)
  refine XO_buildSlice (ps := []) (m := []) elt_22 rfl (.nil) rfl (by simp [encH_len, encI_len]) (by decide) (by decide) rfl rfl (fun b_19 => ?_)
  refine zA ?_
  refine XO_nil (at_then ?_)
  refine X_seq ?_
  refine X_seq (X_region ?_)
  refine zA ?_
  refine XO_nil (at_then ?_)
  refine X_block ?_
  refine X_loopT [(0, _), (1, _)] (.cons rfl (.cons rfl .nil)) (fun T L0 mz E I' loc' => ∃ (k : Nat) (v8 : Value) (os : List Hd) (L : Go.Kn.Loc), mz = x0.n - k ∧ E = (8, v8) :: (9, .int .i64 k) :: T ∧ HLe I I' ∧ L = loc' ∧ k ≤ x0.n ∧ OwnS 23 1 v8 k (os.flatMap encH) L ∧ RelH I' os ((List.range k).map (rootF rows xs))) _ _ _ _ ⟨0, _, [], [(b_19, _)], rfl, rfl, HLe.refl _, rfl, Nat.zero_le _, OwnS.new, RelH.nil⟩ (.cons rfl (.cons rfl (.cons rfl (.cons rfl .nil)))) (HLe.refl _) rfl ?_
  rintro mz E J1 loc' ⟨k, v8, os, L, rfl, rfl, hJ, rfl, hk, hO8, hre⟩
  have hS := hS.mono hJ
  have hVn := hVn.mono hJ
  have hV := hV.mono hJ
  have hH := hH.mono hJ
  have hIc := hIc.trans hJ
  have hB0 := hJ
  obtain ⟨va8, vc8, rfl⟩ := valn hO8
  refine X_seq ?_
  refine X_seq (X_region ?_)
  refine zM ?_
  refine zM ?_
  refine XO_v0 (ev_indexSl rfl rfl slt_22 hH (fun hg => by first | omega | (simp [conj] at hg; omega))) rfl rfl rfl ?_
  refine XO_v0 (ev_load rfl sct_23 (fun hg => by exact Sl.get0 (k := 0) hH hx0 rfl)) rfl rfl rfl ?_
  refine XO_v0 (ev_lenS rfl slt_23) rfl rfl rfl ?_
  refine zC ?_
  refine XO_nil (at_then ?_)
  refine X_cond rfl (fun hc25 => ?_) (fun hc25 => ?_)
  ·
   have hlt_k : k < x0.n := by have h := hc25; simp at h; omega
   refine X_skip ?_
   refine at_then ?_
   refine X_seq ?_
   refine X_block ?_
   refine X_region ?_
   refine zM ?_
   refine zM ?_
   refine zM ?_
   refine zM ?_
   refine XO_callM (cap := []) (vs := [_, _, _]) rfl rfl fun_27 .nil (w_rroots hS hn hVn hn2 k (fun r hr => by rw [(hrr r hr).1]; omega) hc0) rfl rfl ?_
   rintro vv2 I2 L2 hI2 ⟨rfl, aR, cR, rfl, hR⟩
   have hS := hS.mono hI2
   have hVn := hVn.mono hI2
   have hV := hV.mono hI2
   have hH := hH.mono hI2
   have hre := hre.mono hI2
   have hIc := hIc.trans hI2
   have hB0 := hB0.trans hI2
   rw [refRt_eq hr0 hc0] at hR ⊢
   refine XO_buildSlice (ps := [(0, _)]) (m := [encH ⟨aR, (rootF rows xs k).length, cR⟩]) elt_22 rfl (.cons rfl (.nil)) rfl (by simp [encH_len, encI_len]) (by decide) (by decide) rfl rfl (fun b_33 => ?_)
   refine XO_append (v := _) (ys := [(⟨aR, (rootF rows xs k).length, cR⟩ : Hd)].flatMap encH) (L := L) rfl rfl elt_22 hO8 (by repeat (first | exact .cons .here .nil | exact split_all | exact split_app | apply split_cons | apply split_skip)) ⟨rfl, fun _ => rfl, by repeat (first | exact Cells.here | apply Cells.there | apply Cells.app)⟩ (one_H _) (by omega) rfl rfl ?_
   intro v9 L9 hO9 _; rw [← List.flatMap_append] at hO9
   refine zA ?_
   refine XO_nil ?_
   refine at_block_n ?_
   refine at_then ?_
   refine X_region ?_
   refine zM ?_
   refine zB ?_
   refine zA ?_
   refine XO_nil ?_
   exact at_met2 _ _ ⟨x0.n - (k + 1), by omega, k + 1, _, _, _, rfl, rfl, hB0, rfl, by omega, hO9, by rw [range_map]; exact hre.snoc (hd := ⟨aR, (rootF rows xs k).length, cR⟩) hR⟩ (.cons rfl (.cons rfl (.cons rfl (.cons rfl .nil)))) (by repeat (first | exact .refl | exact subL_left | refine subL_app ?_ | refine .drop ?_ | refine subL_add ?_))
  ·
   have hge_k : x0.n ≤ k := by have h := hc25; simp at h; omega
   obtain rfl : k = x0.n := by omega
   refine X_exit ?_
   refine at_then_e ?_
   refine at_then_e ?_
   refine at_block_hit ?_
   refine at_then ?_
   refine X_seq (X_region ?_)
   refine zM ?_
   refine zA ?_
   refine zA ?_
   refine XO_nil (at_then ?_)
   refine X_ret ?_
   first
   | exact at_ret2 rfl rfl rfl (fun w hw => by obtain ⟨I9, av9, c9, h1', h2', e9, h4'⟩ := OwnS.freeze (R := []) hO8 encH_len (by decide) (by rw [List.append_nil]; exact hw); cases e9; exact ⟨_, I9, [], rfl, hIc.trans h1', h2', rfl, va8, vc8, by rw [roots_ok hcE, List.length_map, List.length_range, hg0, hx0l, hcE], by rw [roots_ok hcE, List.length_map, List.length_range, hg0, hx0l]; exact ⟨os, h4', hre.mono h1'⟩⟩)
theorem w_same43 {I : HMap} {av bv : Option Addr} {n c n2 c2 : Nat} {vss : List (List Int)} (hA : SlN I av n c vss) (hB : SlN I bv n2 c2 vss) (hn : n ≤ 100000) (hq : ∀ v ∈ vss, v.length ≤ 100000) : RetV Tryz.prog 9 [.slice av n c, .slice bv n2 c2] I (.bool true) := by
 intro g H w hw
 refine enter Tryz.func9 rfl Tryz.ntmps9 rfl hw ?_
 have hlA := hA.len
 have hlB := hB.len
 obtain ⟨hs, hA⟩ := hA
 obtain ⟨ks, hB⟩ := hB
 have hHA := hA.1
 have hHB := hB.1
 refine X_seq (X_region ?_)
 refine zA ?_
 refine XO_nil (at_then ?_)
 refine X_seq ?_
 refine X_seq (X_region ?_)
 refine zM ?_
 refine XO_v0 (ev_lenS rfl slt_22) rfl rfl rfl ?_
 refine zM ?_
 refine XO_v0 (ev_lenS rfl slt_22) rfl rfl rfl ?_
 refine zC ?_
 refine XO_nil (at_then ?_)
 refine X_cond rfl (fun hc11 => ?_) (fun hc11 => ?_)
 ·
  have h := hc11; simp only [bne_iff_ne, ne_eq] at h; omega
 ·
  refine X_skip ?_
  refine at_then ?_
  refine X_seq ?_
  refine X_seq (X_region ?_)
  refine zM ?_
  refine XO_v0 (ev_lenS rfl slt_22) rfl rfl rfl ?_
  refine zM ?_
  refine XO_nil (at_then ?_)
  refine X_block ?_
  refine X_loopT [(0, _), (1, _), (13, _)] (.cons rfl (.cons rfl (.cons rfl .nil))) (fun T L0 mz E I' loc' => ∃ (i : Nat), mz = n - i ∧ E = (14, .int .i64 i) :: T ∧ I = I' ∧ L0 = loc' ∧ i ≤ n) _ _ _ _ ⟨0, rfl, rfl, rfl, rfl, Nat.zero_le _⟩ (.cons rfl (.cons rfl (.cons rfl (.cons rfl .nil)))) (HLe.refl _) rfl ?_
  rintro mz E I' loc' ⟨i, rfl, rfl, rfl, rfl, hi⟩
  refine X_seq (X_region ?_)
  refine zC ?_
  refine XO_nil (at_then ?_)
  refine X_seq ?_
  refine X_cond rfl (fun hc15 => ?_) (fun hc15 => ?_)
  ·
   have hlt_i : i < n := by have h := hc15; simp at h; omega
   obtain ⟨x, v, hx, hv, hQ⟩ := hA.at hlt_i
   obtain ⟨y, v2, hy, hv2, hR⟩ := hB.at (show i < n2 by omega)
   obtain rfl : v2 = v := by rw [hv] at hv2; exact (Option.some.inj hv2).symm
   have hQl := hQ.len
   have hRl := hR.len
   have hvq := hq v2 (List.mem_of_getElem? hv2)
   refine X_skip ?_
   refine at_then ?_
   refine X_seq ?_
   refine X_block ?_
   refine X_seq (X_region ?_)
   refine zM ?_
   refine zA ?_
   refine XO_nil (at_then ?_)
   refine X_seq ?_
   refine X_seq ?_
   refine X_draw mixed (by kernel_rfl) ?_
   refine XQ_v0 (ev_move rfl) rfl rfl rfl ?_
   refine XQ_v0 (ev_move rfl) rfl rfl rfl ?_
   refine XQ_v0 (ev_indexSl rfl rfl slt_22 (by assumption) (fun hg => by first | omega | (simp [conj] at hg; omega))) rfl rfl rfl ?_
   refine XQ_v0 (ev_load rfl sct_23 (fun hg => by exact Sl.get0 hHA hx rfl)) rfl rfl rfl ?_
   refine XQ_v0 (ev_lenS rfl slt_23) rfl rfl rfl ?_
   refine XQ_v0 (ev_move rfl) rfl rfl rfl ?_
   refine XQ_v0 (ev_move rfl) rfl rfl rfl ?_
   refine XQ_v0 (ev_indexSl rfl rfl slt_22 (by assumption) (fun hg => by first | omega | (simp [conj] at hg; omega))) rfl rfl rfl ?_
   refine XQ_v0 (ev_load rfl sct_23 (fun hg => by exact Sl.get0 hHB hy rfl)) rfl rfl rfl ?_
   refine XQ_v0 (ev_lenS rfl slt_23) rfl rfl rfl ?_
   refine XQ_v0 (ev_cmp rfl rfl rfl) rfl rfl rfl ?_
   refine XQ_nil ?_
   refine at_then ?_
   refine X_cond rfl (fun hc27 => ?_) (fun hc27 => ?_)
   ·
    have h := hc27; simp only [bne_iff_ne, ne_eq] at h; omega
   ·
    refine X_skip ?_
    refine at_then ?_
    refine X_seq (X_region ?_)
    refine zM ?_
    refine zM ?_
    refine XO_v0 (ev_indexSl rfl rfl slt_22 (by assumption) (fun hg => by first | omega | (simp [conj] at hg; omega))) rfl rfl rfl ?_
    refine XO_v0 (ev_load rfl sct_23 (fun hg => by exact Sl.get0 hHA hx rfl)) rfl rfl rfl ?_
    refine XO_v0 (ev_lenS rfl slt_23) rfl rfl rfl ?_
    refine zM ?_
    refine XO_nil (at_then ?_)
    refine X_block ?_
    refine X_loopT [(0, _), (1, _), (5, _), (13, _), (14, _), (32, _)] (.cons rfl (.cons rfl (.cons rfl (.cons rfl (.cons rfl (.cons rfl .nil)))))) (fun T L0 mz E I' loc' => ∃ (j : Nat), mz = x.n - j ∧ E = (33, .int .i64 j) :: T ∧ I = I' ∧ L0 = loc' ∧ j ≤ x.n) _ _ _ _ ⟨0, rfl, rfl, rfl, rfl, Nat.zero_le _⟩ (.cons rfl (.cons rfl (.cons rfl (.cons rfl (.cons rfl (.cons rfl (.cons rfl .nil))))))) (HLe.refl _) rfl ?_
    rintro mz E I' loc' ⟨j, rfl, rfl, rfl, rfl, hj⟩
    refine X_seq (X_region ?_)
    refine zC ?_
    refine XO_nil (at_then ?_)
    refine X_seq ?_
    refine X_cond rfl (fun hc34 => ?_) (fun hc34 => ?_)
    ·
     have hlt_j : j < x.n := by have h := hc34; simp at h; omega
     refine X_skip ?_
     refine at_then ?_
     refine X_seq ?_
     refine X_block ?_
     refine X_seq (X_region ?_)
     refine zM ?_
     refine zA ?_
     refine XO_nil (at_then ?_)
     refine X_seq ?_
     refine X_draw mixed (by kernel_rfl) ?_
     refine XQ_v0 (ev_move rfl) rfl rfl rfl ?_
     refine XQ_v0 (ev_move rfl) rfl rfl rfl ?_
     refine XQ_v0 (ev_indexSl rfl rfl slt_22 (by assumption) (fun hg => by first | omega | (simp [conj] at hg; omega))) rfl rfl rfl ?_
     refine XQ_v0 (ev_load rfl sct_23 (fun hg => by exact Sl.get0 hHA hx rfl)) rfl rfl rfl ?_
     refine XQ_v0 (ev_move rfl) rfl rfl rfl ?_
     refine XQ_v0 (ev_indexSl rfl rfl slt_23 (by assumption) (fun hg => by first | omega | (simp [conj] at hg; omega))) rfl rfl rfl ?_
     refine XQ_v0 (ev_load rfl sct_3 (fun hg => by exact Sl.get0 (k := j) hQ (some_getD (d := 0) rfl (by omega)) rfl)) rfl rfl rfl ?_
     refine XQ_v0 (ev_move rfl) rfl rfl rfl ?_
     refine XQ_v0 (ev_move rfl) rfl rfl rfl ?_
     refine XQ_v0 (ev_indexSl rfl rfl slt_22 (by assumption) (fun hg => by first | omega | (simp [conj] at hg; omega))) rfl rfl rfl ?_
     refine XQ_v0 (ev_load rfl sct_23 (fun hg => by exact Sl.get0 hHB hy rfl)) rfl rfl rfl ?_
     refine XQ_v0 (ev_move rfl) rfl rfl rfl ?_
     refine XQ_v0 (ev_indexSl rfl rfl slt_23 (by assumption) (fun hg => by first | omega | (simp [conj] at hg; omega))) rfl rfl rfl ?_
     refine XQ_v0 (ev_load rfl sct_3 (fun hg => by exact Sl.get0 (k := j) hR (some_getD (d := 0) rfl (by omega)) rfl)) rfl rfl rfl ?_
     refine XQ_v0 (ev_cmp rfl rfl rfl) rfl rfl rfl ?_
     refine XQ_nil ?_
     refine at_then ?_
     refine X_cond rfl (fun hc50 => ?_) (fun hc50 => ?_)
     ·
      simp at hc50
     ·
      refine X_skip ?_
      refine at_block_n ?_
      refine at_then ?_
      refine X_region ?_
      refine zB ?_
      refine zM ?_
      refine XO_nil ?_
      exact at_met2 _ _ ⟨x.n - (j + 1), by omega, j + 1, rfl, rfl, rfl, rfl, by omega⟩ (.cons rfl (.cons rfl (.cons rfl (.cons rfl (.cons rfl (.cons rfl (.cons rfl .nil))))))) (by repeat (first | exact .refl | exact subL_left | refine subL_app ?_ | refine .drop ?_ | refine subL_add ?_))
    ·
     have hge_j : x.n ≤ j := by have h := hc34; simp at h; omega
     refine X_exit ?_
     refine at_then_e ?_
     refine at_then_e ?_
     refine at_block_hit ?_
     refine at_block_n ?_
     refine at_then ?_
     refine X_region ?_
     refine zB ?_
     refine zM ?_
     refine XO_nil ?_
     exact at_met2 _ _ ⟨n - (i + 1), by omega, i + 1, rfl, rfl, rfl, rfl, by omega⟩ (.cons rfl (.cons rfl (.cons rfl (.cons rfl .nil)))) (by repeat (first | exact .refl | exact subL_left | refine subL_app ?_ | refine .drop ?_ | refine subL_add ?_))
  ·
   have hge_i : n ≤ i := by have h := hc15; simp at h; omega
   refine X_exit ?_
   refine at_then_e ?_
   refine at_then_e ?_
   refine at_block_hit ?_
   refine at_then ?_
   refine X_seq (X_region ?_)
   refine zA ?_
   refine XO_nil (at_then ?_)
   refine X_ret ?_
   exact at_ret1 rfl rfl (fun w hw => ⟨by rfl, hw.drop⟩)
end Go.Proofs.YthcffaheamikgaaGreatDoor
end
section
namespace Go.Proofs.YthcffaheamikgaaGreatDoor
open Go Go.Kn Go.Proofs
theorem fun_5 : Fun Tryz.prog 5 := .of Tryz.func5 (by kernel_rfl) (by kernel_rfl)
theorem fun_6 : Fun Tryz.prog 6 := .of Tryz.func6 (by kernel_rfl) (by kernel_rfl)
theorem fun_8 : Fun Tryz.prog 8 := .of Tryz.func8 (by kernel_rfl) (by kernel_rfl)
theorem fun_9 : Fun Tryz.prog 9 := .of Tryz.func9 (by kernel_rfl) (by kernel_rfl)
theorem few_len {rows : List (List Int)} (h : fewR rows = true) : rows.length ≤ 100 := by
 unfold fewR at h
 split at h
 ·
  simp only [Bool.or_eq_true, Bool.and_eq_true, decide_eq_true_eq] at h; omega
 ·
  omega
theorem w_rootsSpec {I : HMap} {av : Option Addr} {n c : Nat} {xs : List Int} (hS : Sl I 1 encI av n c xs) {bv : Option Addr} {n2 c2 : Nat} {rows : List (List Int)} (hVn : SlN I bv n2 c2 rows) (hDb : DebOK I) : RetV Tryz.prog 3 [.slice bv n2 c2, .slice av n c] I (.bool true) := by
 intro g H w hw
 refine enter Tryz.func3 rfl Tryz.ntmps3 rfl hw ?_
 have hIc := HLe.refl I
 have hlV := hVn.len
 subst hlV
 have hlS := hS.len
 subst hlS
 refine X_seq (X_region ?_)
 refine zA ?_
 refine XO_nil (at_then ?_)
 refine X_seq ?_
 refine X_seq (X_region ?_)
 refine XO_callV0 (cap := []) (vs := []) rfl rfl fun_5 (w_sane hDb) rfl rfl ?_
 refine XO_v0 (ev_not rfl) rfl rfl rfl ?_
 refine XO_nil (at_then ?_)
 refine X_cond rfl (fun hc10 => ?_) (fun hc10 => ?_)
 ·
  cases hc10
 ·
  refine X_skip ?_
  refine at_then ?_
  refine X_seq ?_
  refine X_seq (X_region ?_)
  refine zM ?_
  refine zM ?_
  refine XO_callV0 (cap := []) (vs := [_, _, _]) rfl rfl fun_6 (w_few43 hVn _ _ _ _ _ _) rfl rfl ?_
  refine XO_v0 (ev_not rfl) rfl rfl rfl ?_
  refine XO_nil (at_then ?_)
  refine X_cond rfl (fun hc14 => ?_) (fun hc14 => ?_)
  ·
   refine X_seq (X_region ?_)
   refine zA ?_
   refine XO_nil (at_then ?_)
   refine X_ret ?_
   refine at_then_r ?_
   exact at_ret1 rfl rfl (fun w hw => ⟨by simp, (hw.mono hIc).drop⟩)
  ·
   have hfw : fewR rows = true ∧ xs.length ≤ 40 := by have h := hc14; simp only [Bool.not_eq_false', Bool.and_eq_true, decide_eq_true_eq] at h; exact ⟨h.1.1, by omega⟩
   have hn2 : rows.length ≤ 100000 := by have h := few_len hfw.1; omega
   refine X_skip ?_
   refine at_then ?_
   refine X_seq (X_region ?_)
   refine zM ?_
   refine zM ?_
   refine XO_callM (cap := []) (vs := [_, _]) rfl rfl fun_7 .nil (w_Roots hS hVn hn2 hDb) rfl rfl ?_
   rintro vv1 I1 L1 hI1 ⟨rfl, av4, c4, rfl, hRt⟩
   have hS := hS.mono hI1
   have hVn := hVn.mono hI1
   have hDb := hDb.mono hI1
   have hIc := hIc.trans hI1
   refine zM ?_
   refine XO_v0 (ev_extract rfl rfl) rfl rfl rfl ?_
   refine XO_v0 (ev_extract rfl rfl) rfl rfl rfl ?_
   refine zA ?_
   refine zA ?_
   refine XO_nil (at_then (X_seq (X_region ?_)))
   refine zM ?_
   refine zM ?_
   refine XO_callM (cap := []) (vs := [_, _]) rfl rfl fun_8 .nil (w_rRoots hS (by omega) hVn hn2) rfl rfl ?_
   rintro vv2 I2 L2 hI2 ⟨rfl, av5, c5, rfl, hRs⟩
   have hS := hS.mono hI2
   have hVn := hVn.mono hI2
   have hDb := hDb.mono hI2
   have hRt := hRt.mono hI2
   have hIc := hIc.trans hI2
   refine zM ?_
   refine XO_v0 (ev_extract rfl rfl) rfl rfl rfl ?_
   refine XO_v0 (ev_extract rfl rfl) rfl rfl rfl ?_
   refine zA ?_
   refine zA ?_
   refine XO_nil (at_then (X_seq (X_region ?_)))
   refine zM ?_
   refine zM ?_
   refine zC ?_
   refine zM ?_
   refine XO_pushT 3 rfl rfl rfl ?_
   refine XO_v1 (ev_move rfl) (.some rfl rfl rfl rfl gbt) rfl rfl rfl ?_
   refine XO_v1 (ev_move rfl) (.some rfl rfl rfl rfl gbt) rfl rfl rfl ?_
   refine XO_callV1 (cap := []) (vs := [_, _]) rfl rfl fun_9 (fun hg => w_same43 hRt hRs (Nat.le_trans roots_few (by decide)) (fun v hv => roots_in (by have := few_len hfw.1; omega) hv)) (.some rfl rfl rfl rfl gbt) rfl rfl ?_
   refine XO_and0 rfl rfl rfl rfl rfl ?_
   refine zA ?_
   refine XO_nil (at_then ?_)
   refine X_ret ?_
   exact at_ret1 rfl rfl (fun w hw => ⟨by simp, (hw.mono hIc).drop⟩)
end Go.Proofs.YthcffaheamikgaaGreatDoor
end
section
namespace Go.Kn
open Go Go.ChangeShapes Go.WideShapes Go.ChangeAt Go.RowKit
/-- All that lies in the world is read only. -/
def heapI (W : World) : HMap := fun b => W.heap[b]?
theorem St.start (W : World) : St W (heapI W) (fun _ => none) [] W :=
  ⟨rfl, rfl, rfl, ⟨Nat.le_refl _, Nat.le_refl _⟩, fun _ _ h => h, (fun _ _ h => by cases h), (fun _ _ h => by cases h), fun _ => .inr rfl, (fun _ _ h => by cases h), by simp⟩
theorem St.below {W w : World} {H : HMap} {loc : Loc} (h : St W (heapI W) H loc w) : Below W.heap.size W w :=
  ⟨h.os, h.tape, h.out, h.size.1, fun k hk => by
    have e : W.heap[k]? = some W.heap[k] := Array.getElem?_eq_getElem hk
    rw [h.imm k _ e, e]⟩
theorem RetV.law {P : Program} {f : FuncId} {args : List Value} {W : World} {v : Value} (h : RetV P f args (heapI W) v) : Calls P f args.toArray W fun e w' => e = .returned v ∧ Below W.heap.size W w' :=
  (h W _ W (St.start W)).mono fun _ _ ⟨he, hs⟩ => ⟨he, hs.below⟩
theorem keptBut_below {W w : World} {may : MemPlace → Prop} (h : Below W.heap.size W w) : W.keptBut w may := by
  refine ⟨h.os, h.output, fun i hi => ?_⟩
  rw [h.block i hi]
  rw [Array.getElem?_eq_getElem hi]
  cases W.heap[i] <;> simp
theorem trodAll_stays {H : Type} {enc : TypeId × Value → H} {P : Program} {W W' : World} (hl : laidOutB P = true) (hB : Below W.heap.size W W') (sp : Nat → Bool) : ∀ (ts : List TypeId) (vs : List Value) (ds : List (DataW H)) (ps : List MemPlace), (∀ t ∈ ts, P.readableRec t = true ∧ t < P.types.size) →
    DataW.TrodAll enc P W 0 (fun _ => true) true ts vs ds ps → (∀ x ∈ ps, x.block < W.heap.size ∧ sp x.block = true) → DataW.TrodAll enc P W' 0 sp true ts vs ds ps
  | [], [], [], ps, _, h, _ => h
  | t :: ts, v :: vs, d :: ds, ps, hr, ⟨p, q, h1, h2, e⟩, hlt => by
    subst e
    exact ⟨p, q, WideElems.Trod_stays hl (hr t (List.mem_cons_self ..)).1 (hr t (List.mem_cons_self ..)).2 h1 (fun x hx => hB.same (hlt x (List.mem_append_left _ hx)).1) (fun x hx => (hlt x (List.mem_append_left _ hx)).2),
      trodAll_stays hl hB sp ts vs ds q (fun t ht => hr t (List.mem_cons_of_mem _ ht)) h2 (fun x hx => hlt x (List.mem_append_right _ hx)), rfl⟩
/-- A law's row: it hands back true; the input reads as it did. -/
theorem post_law {H : Type} {enc : TypeId × Value → H} {P : Program} {f : Func} {s : ChangeSpec} {again : Bool} {W W' : World} {args : Array Value} {ds : List (DataW H)} {before : List MemPlace} {tb : TypeId}
    (hl : laidOutB P = true) (hr : f.resultTypes = #[tb]) (hb : P.underlying tb = some .bool) (hv : s.vars = []) (hs : (s.fn H (ds ++ [])) = { results := [.lit (.bool true)], args := ds }) (hrd : ∀ t ∈ f.params.toList, P.readableRec t = true ∧ t < P.types.size)
    (hW : DataW.Whole enc P f.params.toList s.vars false W args.toList ds [] before) (hB : Below W.heap.size W W') : s.post enc P f false true false again W args (.bool true) W' := by
  have hlt : ∀ x ∈ before, x.block < W.heap.size := fun x hx => by simpa using hW.lt x hx
  have hW0 := hW
  obtain ⟨p, q, hA, hV, rfl, hfz, _⟩ := hW
  rw [hv] at hV
  obtain ⟨_, rfl⟩ := trodVars_none hV
  rw [List.append_nil] at hlt hfz hW0
  have hres : ∀ (b : Nat) (sp : Nat → Bool) (hd : Bool), DataW.TrodAll enc P W' b sp hd f.resultTypes.toList ((Value.bool true).resultList f.resultTypes.size) [.lit (.bool true)] [] := fun b sp hd => by
    rw [hr]; exact trodAll_mk1 (shut_bool hb true)
  have hargs : ∀ sp : Nat → Bool, (∀ x ∈ p, sp x.block = true) → DataW.TrodAll enc P W' 0 sp true f.params.toList args.toList ds p := fun sp h => trodAll_stays hl hB sp _ _ _ _ hrd hA (fun x hx => ⟨hlt x hx, h x hx⟩)
  have hnil : ∀ sp : Nat → Bool, DataW.TrodVars enc P W' sp s.vars [] [] := fun sp => by rw [hv]; rfl
  refine ⟨ds, [], p, [], p, [], hW0, ?_, ?_, ?_, keptBut_below hB, fun _ => ?_⟩
  · rw [hs]; exact hres _ _ _
  · rw [hs]; exact hargs _ (fun x hx => by simpa using hlt x hx)
  · rw [hs]; exact hnil _
  · refine ⟨fun j t r ht hr' => ?_, [.lit (.bool true)] ++ ds, [], [] ++ p, ⟨[] ++ p, [], trodAll_append (hargs _ (fun _ _ => rfl)) (hres _ _ _), hnil _, by simp, ?_, fun h => by cases h⟩, fun x hx _ => by simpa using hx⟩
    · rw [hr] at ht hr'
      cases j with
      | zero => simp [Value.resultList] at ht hr'; subst ht; subst hr'; exact okWide_bool_mk hb _
      | succ j => simp at ht
    · intro b off hx
      rw [hB.frozen (hlt _ (by simpa using hx))]
      exact hfz b off (by simpa using hx)
theorem cell_heap {W : World} {b o : Nat} {u : Value} (h : W.cell? ⟨b, o, none⟩ = some u) : Cell (heapI W) [] b o u := by
  unfold World.cell? at h
  split at h
  · rename_i c t fz hb
    simp only [Option.isSome_none, Bool.false_eq_true, if_false] at h
    exact ⟨c, t, fz, .inl hb, h⟩
  · cases h
/-- A slice that came in, as it is read. -/
theorem open_SlT {H : Type} {enc : TypeId × Value → H} {P : Program} {W : World} {t e : TypeId} {size fuel0 : Nat} {cs : List Value} {x0 : DataW H × List MemPlace} {α : Type} (enc' : α → List Value) (ok : α → Prop)
    (ht : P.underlying t = some (.slice e)) (hc : P.cellsOf e = size) (hpos : 0 < size) (hlen : ∀ y, (enc' y).length = size)
    (hel : ∀ fuel cs x, DataW.trod enc P W 0 (fun _ => true) true fuel e cs = some x → ∃ y, ok y ∧ enc' y = cs)
    (hf' : DataW.trod enc P W 0 (fun _ => true) true fuel0 t cs = some x0) : ∃ av n c xs, cs = [.slice av n c] ∧ Sl (heapI W) size enc' av n c xs ∧ (∀ x ∈ xs, ok x) ∧ c ≤ maxLen := by
  rcases Go.Deep.open_slice ht hf' with ⟨e1, _⟩ | ⟨a, len0, cap0, m, n, D, Pl, e1, hb, hl, hm, hmm, _, hx⟩
  · subst e1
    exact ⟨none, 0, 0, [], rfl, .nil, (fun x hx => by cases hx), Nat.zero_le _⟩
  · subst e1
    have hlm : len0 ≤ m := by rw [hmm]; simp; exact hl
    have each : ∀ i, i < len0 → ∃ y, ok y ∧ W.cells? 0 (a.add (i * size)) size = some (enc' y) := fun i hi => by
      obtain ⟨cs', h1, h2⟩ := hx i (by omega)
      obtain ⟨y, hy, e⟩ := hel _ _ _ h2
      rw [hc] at h1
      exact ⟨y, hy, by rw [h1, e]⟩
    have all : ∀ k, k ≤ len0 → ∃ xs : List α, xs.length = k ∧ ∀ i x, xs[i]? = some x → ok x ∧ W.cells? 0 (a.add (i * size)) size = some (enc' x) := by
      intro k
      induction k with
      | zero => intro _; exact ⟨[], rfl, fun i x h => by simp at h⟩
      | succ k ih =>
        intro hk
        obtain ⟨xs, hl', hxs⟩ := ih (by omega)
        obtain ⟨y, hy, hcy⟩ := each k (by omega)
        refine ⟨xs ++ [y], by simp [hl'], fun i x h => ?_⟩
        by_cases hi : i < xs.length
        · rw [List.getElem?_append_left hi] at h; exact hxs i x h
        · rw [List.getElem?_append_right (by omega)] at h
          have : i = k := by have := (List.getElem?_eq_some_iff.1 h).1; simp at this; omega
          subst this
          rw [hl'] at h; simp at h; subst h
          exact ⟨hy, hcy⟩
    obtain ⟨xs, hl', hxs⟩ := all len0 (Nat.le_refl _)
    have add0 : ∀ (b o n : Nat), (⟨b, o, none⟩ : Addr).add n = ⟨b, o + n, none⟩ := fun b o n => by
      unfold Addr.add
      split
      · rename_i e; subst e; rfl
      · rfl
    have hspot : 0 < xs.length → a.spot = none := fun hx => by
      have hx0 : xs[0]? = some xs[0] := List.getElem?_eq_getElem hx
      have hp0 : 0 < (enc' xs[0]).length := by rw [hlen]; exact hpos
      obtain ⟨_, h1, h2⟩ := World.cells?_some (hxs 0 _ hx0).2
      have h3 := h2 0 hpos
      rw [List.getElem?_eq_getElem hp0] at h3
      simpa [Addr.add] using World.cell?_spot h3
    have cellat : ∀ i x, xs[i]? = some x → ∀ j u, (enc' x)[j]? = some u → W.cell? ⟨a.block, a.off + i * size + j, none⟩ = some u := fun i x hx j u hu => by
      obtain ⟨_, h1, h2⟩ := World.cells?_some (hxs i x hx).2
      have hj : j < size := by rw [← hlen x]; exact (List.getElem?_eq_some_iff.1 hu).1
      have h3 := h2 j hj
      rw [hu] at h3
      have hsp := hspot (by have := (List.getElem?_eq_some_iff.1 hx).1; omega)
      obtain ⟨b, o, sp⟩ := a
      simp only at hsp
      subst hsp
      rw [add0, add0] at h3
      exact h3
    refine ⟨some a, len0, cap0, xs, rfl, ⟨hl', hl, fun hn => ?_, fun k x hx j u hu => ?_⟩, fun x hx => ?_, hm⟩
    · have := hspot (by omega)
      obtain ⟨b, o, sp⟩ := a
      simp only at this
      subst this; rfl
    · exact cell_heap (cellat k x hx j u hu)
    · obtain ⟨i, hi⟩ := List.getElem?_of_mem hx
      exact (hxs i x hi).1
theorem open_Sl {H : Type} {enc : TypeId × Value → H} {P : Program} {W : World} {base : Nat} {t e : TypeId} {size : Nat} {v : Value} {d : DataW H} {p : List MemPlace} {α : Type} (enc' : α → List Value) (ok : α → Prop)
    (ht : P.underlying t = some (.slice e)) (hc : P.cellsOf e = size) (hpos : 0 < size) (hlen : ∀ y, (enc' y).length = size)
    (hel : ∀ fuel cs x, DataW.trod enc P W 0 (fun _ => true) true fuel e cs = some x → ∃ y, ok y ∧ enc' y = cs)
    (hv : Value.okWide P W .any base t v) (h : DataW.Trod enc P W 0 (fun _ => true) true t v d p) : ∃ av n c xs, v = .slice av n c ∧ Sl (heapI W) size enc' av n c xs ∧ (∀ x ∈ xs, ok x) ∧ c ≤ maxLen := by
  obtain ⟨a0, len0, cap0, rfl⟩ := okWide_slice ht hv
  obtain ⟨fuel, hf⟩ := h
  obtain ⟨av, n, c, xs, e, h1, h2, h3⟩ := open_SlT enc' ok ht hc hpos hlen hel (cs := [.slice a0 len0 cap0]) (by simpa [Value.cells] using hf)
  cases e
  exact ⟨_, _, _, xs, rfl, h1, h2, h3⟩
/-- A slice of one-cell ints. -/
theorem el_int {H : Type} {enc : TypeId × Value → H} {P : Program} {W : World} {e : TypeId} {k : IntKind} (he : P.underlying e = some (.int k)) (hk : k = .i64) (fuel : Nat) (cs : List Value) (x : DataW H × List MemPlace) (h : DataW.trod enc P W 0 (fun _ => true) true fuel e cs = some x) :
    ∃ y : Int, (-9223372036854775808 ≤ y ∧ y ≤ 9223372036854775807) ∧ [Value.int .i64 y] = cs := by
  subst hk
  obtain ⟨v, hv⟩ : ∃ v, cs = [v] := by
    have := h
    cases fuel with
    | zero => simp [DataW.trod] at this
    | succ m => unfold DataW.trod at this; rw [he] at this; split at this <;> simp_all
  subst hv
  obtain ⟨n, e, _, w⟩ := DataW.trod_int he h
  cases e
  simp only [Lit.wf, Bool.and_eq_true, decide_eq_true_eq] at w
  exact ⟨n, w, rfl⟩
end Go.Kn
end
section
namespace Go.Proofs.YthcffaheamikgaaGreatDoor
open Go Go.Kn Go.Proofs
open Go.ChangeShapes Go.WideShapes Go.ChangeAt Go.RowKit
set_option maxRecDepth 100000
theorem ound_3 : Tryz.prog.underlying 3 = some (.int .i64) := by kernel_rfl
theorem ound_4 : Tryz.prog.underlying 4 = some .bool := by kernel_rfl
theorem ound_5 : Tryz.prog.underlying 5 = some (.int .u8) := by kernel_rfl
theorem open_ints {H : Type} {enc : TypeId × Value → H} {W : World} {base : Nat} {v : Value} {d : DataW H} {p : List MemPlace} (hv : Value.okWide Tryz.prog W .any base 23 v) (h : DataW.Trod enc Tryz.prog W 0 (fun _ => true) true 23 v d p) :
    ∃ av n c xs, v = .slice av n c ∧ Sl (heapI W) 1 encI av n c xs ∧ n ≤ 9223372036854775807 := by
  obtain ⟨av, n, c, xs, e, hS, _, hm⟩ := open_Sl (e := 3) encI (fun _ => True) (by kernel_rfl) (by kernel_rfl) (by decide) encI_len (fun fuel cs x h => by
    obtain ⟨y, _, e⟩ := el_int ound_3 rfl fuel cs x h
    exact ⟨y, trivial, e⟩) hv h
  exact ⟨av, n, c, xs, e, hS, by have := hS.cap; simp only [maxLen] at hm; omega⟩
theorem heads {I : HMap} : ∀ (hs : List Hd), (∀ h ∈ hs, ∃ v, Sl I 1 encI h.a h.n h.c v) → ∃ vss, RelH I hs vss
  | [], _ => ⟨[], RelH.nil⟩
  | x :: hs, H => by
    obtain ⟨vss, hl, hv⟩ := heads hs fun h hh => H h (List.mem_cons_of_mem _ hh)
    obtain ⟨v0, h0⟩ := H x (List.mem_cons_self ..)
    refine ⟨v0 :: vss, by simp [hl], fun k h v a b => ?_⟩
    cases k with
    | zero => cases a; cases b; exact h0
    | succ k => exact hv k h v a b
theorem open_nest {H : Type} {enc : TypeId × Value → H} {W : World} {base : Nat} {v : Value} {d : DataW H} {p : List MemPlace} (hv : Value.okWide Tryz.prog W .any base 22 v) (h : DataW.Trod enc Tryz.prog W 0 (fun _ => true) true 22 v d p) :
    ∃ av n c vss, v = .slice av n c ∧ SlN (heapI W) av n c vss ∧ n ≤ 9223372036854775807 := by
  obtain ⟨av, n, c, hs, e, hS, hok, hm⟩ := open_Sl (e := 23) encH (fun h => ∃ v, Sl (heapI W) 1 encI h.a h.n h.c v) (by kernel_rfl) (by kernel_rfl) (by decide) encH_len (fun fuel cs x h => by
    obtain ⟨a, m, q, ys, e, hT, _⟩ := open_SlT (t := 23) (e := 3) encI (fun _ => True) (by kernel_rfl) (by kernel_rfl) (by decide) encI_len (fun fuel cs x h => by
      obtain ⟨y, _, e⟩ := el_int ound_3 rfl fuel cs x h
      exact ⟨y, trivial, e⟩) h
    exact ⟨⟨a, m, q⟩, ⟨ys, hT⟩, e.symm⟩) hv h
  obtain ⟨vss, hr⟩ := heads hs hok
  exact ⟨av, n, c, vss, e, ⟨hs, hS, hr⟩, by have := hS.cap; simp only [maxLen] at hm; omega⟩
/-- What the tie lists. -/
def laid2 : List (String × DataW Unit) := [("math/bits.deBruijn32tab", Rows.laid_math_bits_deBruijn32tab), ("math/bits.deBruijn64tab", Rows.laid_math_bits_deBruijn64tab)]
theorem gDeb : Tryz.prog.globalNamed "math/bits.deBruijn64tab" = some 1 := by kernel_rfl
theorem tDeb : (Tryz.prog.globals[1]?).map (·.type) = some 162 := by kernel_rfl
theorem deb_is : (Rows.laid_math_bits_deBruijn64tab : DataW Unit) = Lib.tabData .u8 debT := by rfl
theorem deb_of {W : World} (h : laidMetH Tryz.prog laid2 W) : DebOK (heapI W) := by
  rw [MakeChecks.laidMetH_plain _ _ _ (by kernel_rfl)] at h
  obtain ⟨ps, ⟨g0, t0, cs0, f0, p0, q0, hg0, ht0, hv0, hd0, ⟨g1, t1, cs1, f1, p1, q1, hg1, ht1, hv1, hd1, _, _⟩, _⟩, _, _⟩ := h
  obtain rfl := Option.some.inj (gDeb.symm.trans hg1)
  obtain rfl := Option.some.inj (tDeb.symm.trans ht1)
  rw [deb_is] at hd1
  have hcs := Lib.cells_of_tab (n := 64) (e := 5) (by kernel_rfl) ound_5 (by kernel_rfl) (by kernel_rfl) hd1
  intro i hi
  refine cell_heap ?_
  have := World.var?_cell hg1 hv1 i
  rw [this]
  have hl : i < debT.length := hi
  have e : cs1 = (debT.map fun z => Value.int .u8 z).toArray := Array.ext' hcs
  rw [e]
  simp [List.getD, hl]
/-- The door's own heap meets the condition. -/
theorem door_met (os : Os) (args : Array Value) : laidMetH Tryz.prog laid2 ((World.doorLaid Tryz.prog 400 os).forCall (fun _ _ => 0) ⟨#[], args, []⟩).memory :=
  laidMetH_of_parts3 (fuel := 8) (laidMet_of_run' 8 (by kernel_rfl) (by kernel_rfl)) (by kernel_rfl) (by kernel_rfl)
end Go.Proofs.YthcffaheamikgaaGreatDoor
end
section
namespace Go.Proofs.YthcffaheamikgaaGreatDoor
open Go Go.Kn Go.Proofs
open Go.ChangeShapes Go.WideShapes Go.ChangeAt Go.RowKit
theorem own : ownKnob Tryz.prog.godebug = none := by kernel_rfl
theorem laidOut : laidOutB Tryz.prog = true := by kernel_rfl
set_option maxRecDepth 100000 in
theorem editionRootsSpec_lifted (os : Os) (started : os.Started) (H : Type) (enc : TypeId × Value → H) :
    ReturnsInHanded {} Tryz.checked os 3 .any (fun w args => (Rows.editionRootsSpecSpec.pre enc Tryz.prog Tryz.f3 [] false w args ∧ laidMetH Tryz.prog laid2 w) ∧ sizedMet enc Tryz.prog Tryz.f3 (OpenSpec.ofChange Rows.editionRootsSpecSpec) false w args)
      (Rows.editionRootsSpecSpec.post enc Tryz.prog Tryz.f3 false true false false) := by
  refine returnsInHanded_of_change_and (C := Tryz.checked) (X := fun w _ => laidMetH Tryz.prog laid2 w) (fun _ _ _ hh h => h.of_heap hh) own started (by kernel_rfl) Tryz.func3
    (ChangeSpec.witness_shaped (enc := enc) (C := Tryz.checked) (os := os) (X := fun w _ => laidMetH Tryz.prog laid2 w) false (World.doorLaid Tryz.prog 400 os) #[.slice none 0 0, .slice none 0 0] 8 rfl (World.shaped_of_RefB (by kernel_rfl) (by kernel_rfl)) (by kernel_rfl) (by kernel_rfl) (by kernel_rfl) (door_met os _)) ?_
  intro W base args ds gs before hval0 hW _ _ hL _
  have hval : ∀ (j : Nat) t v, Tryz.f3.params[j]? = some t → args[j]? = some v → Value.okWide Tryz.prog W .any base t v := hval0
  have hW' := hW
  obtain ⟨p, q, hA0, hV, rfl, hfz, hnd⟩ := hW
  have hA : DataW.TrodAll enc Tryz.prog W 0 (fun _ => true) true Tryz.f3.params.toList args.toList ds p := hA0
  rw [Tryz.params3] at hA hval
  obtain ⟨v0, vs1, d0, ds1, p0, q1, ea, rfl, rfl, h0, hA⟩ := trodAll_cons hA
  obtain ⟨v1, vs2, d1, ds2, p1, q2, rfl, rfl, rfl, h1, hA⟩ := trodAll_cons hA
  obtain ⟨rfl, rfl, rfl⟩ := trodAll_nil hA
  have ea' : args = #[v0, v1] := by rw [← Array.toArray_toList (xs := args), ea]
  subst ea'
  obtain ⟨rfl, rfl⟩ := trodVars_none hV
  have hDb := deb_of hL
  obtain ⟨bv, n2, c2, rows, rfl, hV, hbg⟩ := open_nest (hval 0 22 v0 rfl rfl) h0
  obtain ⟨av, n, c, xs, rfl, hS, hbn⟩ := open_ints (hval 1 23 v1 rfl rfl) h1
  refine (RetV.law (w_rootsSpec hS hV hDb)).mono fun e W' ⟨he, hB⟩ => ?_
  subst he
  exact ⟨_, rfl, post_law laidOut (by kernel_rfl) ound_4 rfl rfl (by rw [Tryz.params3]; simp only [List.mem_cons, List.not_mem_nil, or_false, forall_eq_or_imp, forall_eq]; exact ⟨⟨by kernel_rfl, of_decide_eq_true (by kernel_rfl)⟩, ⟨by kernel_rfl, of_decide_eq_true (by kernel_rfl)⟩⟩) hW' hB⟩
theorem editionRootsSpec_row : Rows.EditionRootsSpecSaid :=
  OpenClaim.holds_of_wide 3 Tryz.f3 rfl rfl rfl rfl rfl rfl rfl ⟨rfl, rfl, rfl, rfl, rfl⟩ rfl rfl rfl rfl rfl (by kernel_rfl) Tryz.func3 (by kernel_rfl)
    (of_decide_eq_true (by kernel_rfl)) (by unfold Func.isWrapper; first | (rw [if_pos (by decide +kernel)]; kernel_rfl) | (rw [if_neg (by decide +kernel)]; exact ⟨rfl, rfl⟩))
    (fun os started H enc _ => editionRootsSpec_lifted os started H enc)
theorem editionRootsSpec_holds : Rows.EditionRootsSpecCardSaid :=
  Claim7.holds_tied_plain_at .later [] [.data, .data] true (true, "8f6ee23c1fbf9c3664c8020e2566c908858422a5d72b5389ec7f99027414c650") false
    editionRootsSpec_row (fun _ h => by cases h) (by kernel_rfl) (fun _ h => by cases h) editionRootsSpec_row_tie rfl ⟨rfl, rfl⟩ (by kernel_rfl) rfl
    (fun f fn hf hfn => by
      obtain rfl : f = 3 := Option.some.inj ((show Tryz.prog.funcNamed "kinesphere/kinespherelaw43.EditionRootsSpec" = some 3 by kernel_rfl).symm.trans hf) |>.symm
      obtain rfl : fn = Tryz.f3 := (Option.some.inj (Tryz.func3.symm.trans hfn)).symm
      exact ⟨by kernel_rfl, fun j t ht => by
        rw [Tryz.params3] at ht
        have hm : t ∈ [22, 23] := by simpa using Array.mem_of_getElem? ht
        have hall : ([22, 23].all fun u => !Tryz.prog.wantsStandIn u) = true := by kernel_rfl
        exact (show Tryz.prog.wantsStandIn t = false by simpa using List.all_eq_true.1 hall t hm)⟩)
    (by kernel_rfl)
#print axioms editionRootsSpec_holds
end Go.Proofs.YthcffaheamikgaaGreatDoor
end
