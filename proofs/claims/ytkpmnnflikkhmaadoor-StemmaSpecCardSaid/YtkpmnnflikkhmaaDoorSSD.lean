/- stemmaSpec_holds, part D of the proof: what its theorems say holds without further conditions. -/
import Derived.ProofKit
import Derived.Deep.Slices
import Derived.Test.YtkpmnnflikkhmaaDoorRows
import Derived.LaidMore
import Derived.MakeChecks
import Derived.Lib.LaidTab
import Derived.Test.YtkpmnnflikkhmaaDoorCards
import Derived.Test.YtkpmnnflikkhmaaDoorTie
import Derived.Stop.Joined
import Derived.SevenTiedAt
import Derived.Test.YtkpmnnflikkhmaaDoorSSC
section
namespace Go.Proofs.YtkpmnnflikkhmaaDoor
open Go Go.Kn Go.Proofs
theorem fun_31 : Fun Tryd.prog 31 := .of Tryd.func31 (by kernel_rfl) (by kernel_rfl)
theorem fun_33 : Fun Tryd.prog 33 := .of Tryd.func33 (by kernel_rfl) (by kernel_rfl)
theorem fun_46 : Fun Tryd.prog 46 := .of Tryd.func46 (by kernel_rfl) (by kernel_rfl)
theorem fun_47 : Fun Tryd.prog 47 := .of Tryd.func47 (by kernel_rfl) (by kernel_rfl)
theorem swoP (I : HMap) : Go.Sort.SWO (Go.Proofs.ltOf (cmpP (I := I))) := by
  have key : ∀ a b c : List Int, ¬ cmpF a b < 0 → ¬ cmpF b c < 0 → ¬ cmpF a c < 0 := fun a b c h1 h2 h3 => by
    have a1 := cmp_anti a b
    have a2 := cmp_anti b c
    by_cases e : cmpF c b = 0
    · have := cmp_same e
      subst this
      exact h1 h3
    · exact h1 (cmp_trans h3 (by omega))
  refine ⟨fun x => ?_, fun x y z h1 h2 => ?_, fun x y z h1 h2 => ?_⟩
  · unfold Go.Proofs.ltOf cmpP; rw [cmp_refl]; rfl
  · unfold Go.Proofs.ltOf cmpP at *
    exact decide_eq_true (cmp_trans (of_decide_eq_true h1) (of_decide_eq_true h2))
  · unfold Go.Proofs.ltOf cmpP at *
    exact decide_eq_false (key _ _ _ (of_decide_eq_false h1) (of_decide_eq_false h2))
theorem w_sortL {I : HMap} {hs : List Hd} {vss : List (List Int)} {v : Value} {n : Nat} {L : Go.Kn.Loc} (hO : OwnS 22 1 v n (hs.flatMap encH) L) (hn : n ≤ 1000000) (hre : RelH I hs vss) (hl : ∀ r ∈ vss, r.length ≤ 1000) :
    RetM Tryd.prog 47 [v, .func (.func 33) #[] #[]] I L (fun u I' L' => u = .tuple #[] ∧ I' = I ∧ ∃ hs' vss', vss'.Perm vss ∧ vss'.Pairwise leF ∧ RelH I hs' vss' ∧ OwnS 22 1 v n (hs'.flatMap encH) L') := by
  obtain ⟨zs, h1, h2⟩ := rel_list hre hl
  have e : hs.flatMap encH = zs.map encP := by rw [flat_H, ← h1, List.map_map]; rfl
  rw [e] at hO
  intro g H w hw
  refine (retSort1 (α := HdP I) (enc := encP) (cf := cmpP (I := I)) (fun blk off cap d w hC hH hb hs => Tryd.slices_SortFunc (α := HdP I) encP (fun _ => rfl) cmpP (swoP I) 33 #[] blk off cap d w (fun args w => run_callFunc fun_33 args w) hC hH hb hs) (Tryd.slices_SortFunc_none (α := HdP I)) I
    (fun I' hI x y => w_compare (x.ok.mono hI) (by have := x.ok.len; have := x.len; omega) (y.ok.mono hI) (by have := y.ok.len; have := y.len; omega)) zs hO hn g H w hw).mono ?_
  rintro ed w' ⟨u, I', L', he, hI, hs', rfl, rfl, zs', hp, hpw, hO'⟩
  refine ⟨_, I', L', he, hI, hs', rfl, rfl, zs'.map (·.h), zs'.map (·.v), ?_, ?_, list_rel zs', ?_⟩
  · rw [← h2]; exact hp.map _
  · rw [List.pairwise_map]
    refine hpw.imp fun h => ?_
    unfold leF
    exact of_decide_eq_false h
  · have e : (zs'.map (·.h)).flatMap encH = zs'.map encP := by rw [flat_H, List.map_map]; rfl
    rw [e]; exact hO'
theorem w_sortedF {I : HMap} {f : Nat} {cap : List Value} {ys : List (List Int)} (hF : Fun Tryd.prog f) (hseq : SeqR Tryd.prog f cap I relS ys) (hy : ys.length ≤ 100000) (hl : ∀ r ∈ ys, r.length ≤ 1000) : RetM Tryd.prog 31 [.func (.func f) #[] cap.toArray, .func (.func 33) #[] #[]] I [] (fun v I' L => ∃ hs vss, vss.Perm ys ∧ vss.Pairwise leF ∧ OwnS 22 1 v ys.length (hs.flatMap encH) L ∧ RelH I' hs vss) := by
  intro g H w hw
  refine enter Tryd.func31 rfl Tryd.ntmps31 rfl hw ?_
  have hIc := HLe.refl I
  refine X_seq ?_
  refine X_region ?_
  refine XO_v0 (ev_assign rfl) rfl rfl rfl ?_
  refine XO_nil ?_
  refine at_then ?_
  refine X_seq ?_
  refine X_region ?_
  refine XO_v0 (ev_move rfl) rfl rfl rfl ?_
  refine XO_callM (cap := []) (vs := [_]) rfl rfl fun_46 .nil (w_collect hF hseq hy) rfl rfl ?_
  rintro vv1 I1 L1 hI1 ⟨hs, hO, hre⟩
  have hIc := hIc.trans hI1
  rw [List.append_nil]
  refine XO_v0 (ev_assign rfl) rfl rfl rfl ?_
  refine XO_nil ?_
  refine at_then ?_
  refine X_seq ?_
  refine X_region ?_
  refine XO_v0 (ev_move rfl) rfl rfl rfl ?_
  refine XO_v0 (ev_move rfl) rfl rfl rfl ?_
  refine XO_callM (cap := []) (vs := [_, _]) rfl rfl fun_47 split_all (w_sortL hO (by omega) hre hl) rfl rfl ?_
  rintro vv2 I2 L2 hI2 ⟨rfl, rfl, hs2, vss, hp, hpw, hre2, hO2⟩
  have hIc := hIc.trans hI2
  rw [List.append_nil]
  refine XO_nil ?_
  refine at_then ?_
  refine X_seq ?_
  refine X_region ?_
  refine XO_v0 (ev_move rfl) rfl rfl rfl ?_
  refine XO_v0 (ev_assign rfl) rfl rfl rfl ?_
  refine XO_nil ?_
  refine at_then ?_
  refine X_ret ?_
  exact at_ret1 rfl rfl (fun w hw => ⟨_, _, _, rfl, hIc, hw, hs2, vss, hp, hpw, hO2, hre2⟩)
theorem w_All (I : HMap) (m : Int) : RetM Tryd.prog 15 [.int .i64 m] I [] (fun v I' L => L = [] ∧ ∃ vss, (allE m = 0 → AllOK m vss) ∧ (allE m ≠ 0 → vss = []) ∧ SlNTup (allE m) vss v I' []) := by
  intro g H w hw
  refine enter Tryd.func15 rfl Tryd.ntmps15 rfl hw ?_
  have hIc := HLe.refl I
  refine X_seq ?_
  refine X_region ?_
  refine XO_v0 (ev_assign rfl) rfl rfl rfl ?_
  refine XO_v0 (ev_assign rfl) rfl rfl rfl ?_
  refine XO_nil ?_
  refine at_then ?_
  refine X_seq ?_
  refine X_block ?_
  refine X_seq ?_
  refine X_region ?_
  refine XO_v0 (ev_move rfl) rfl rfl rfl ?_
  refine XO_v0 (ev_cmp rfl rfl rfl) rfl rfl rfl ?_
  refine XO_v0 (ev_assign rfl) rfl rfl rfl ?_
  refine XO_nil ?_
  refine at_then ?_
  refine X_cond rfl (fun hc4 => ?_) (fun hc4 => ?_)
  · skip
    have h6 : m > 6 := by simpa using hc4
    refine X_seq ?_
    refine X_region ?_
    refine XO_v0 (ev_assign rfl) rfl rfl rfl ?_
    refine XO_v0 (ev_assign rfl) rfl rfl rfl ?_
    refine XO_nil ?_
    refine at_then ?_
    refine X_ret ?_
    refine at_block_r ?_
    refine at_then_r ?_
    first
    | exact at_ret2 rfl rfl rfl (fun w hw => ⟨_, I, [], rfl, hIc, hw.drop, rfl, [], fun h => by rw [allE_1 h6] at h; omega, fun _ => rfl, by rw [allE_1 h6]; exact .empty rfl⟩)
    | exact at_ret2 rfl rfl rfl (fun w hw => ⟨_, I, [], rfl, hIc, hw.drop, rfl, [], fun h => by rw [allE_2 h6 h1] at h; omega, fun _ => rfl, by rw [allE_2 h6 h1]; exact .empty rfl⟩)
    | exact at_ret2 rfl rfl rfl (fun w hw => by obtain ⟨I9, av9, c9, h1', h2', rfl, h4'⟩ := OwnS.freeze (R := []) hO encH_len (by decide) (by rw [List.append_nil]; exact hw); exact ⟨_, I9, [], rfl, hIc.trans h1', h2', rfl, vss, fun _ => ⟨hp, hpw⟩, fun h => absurd (allE_3 h6 h1) h, by rw [allE_3 h6 h1]; exact ⟨rfl, av9, c9, by rw [hp.length_eq], by rw [hp.length_eq]; exact ⟨hs, h4', hre.mono h1'⟩⟩⟩)
  · skip
    have h6 : ¬ m > 6 := by simpa using hc4
    refine X_seq ?_
    refine X_region ?_
    refine XO_v0 (ev_move rfl) rfl rfl rfl ?_
    refine XO_v0 (ev_cmp rfl rfl rfl) rfl rfl rfl ?_
    refine XO_v0 (ev_assign rfl) rfl rfl rfl ?_
    refine XO_nil ?_
    refine at_then ?_
    refine X_cond rfl (fun hc7 => ?_) (fun hc7 => ?_)
    · skip
      have h1 : m < 1 := by simpa using hc7
      refine X_seq ?_
      refine X_region ?_
      refine XO_v0 (ev_assign rfl) rfl rfl rfl ?_
      refine XO_v0 (ev_assign rfl) rfl rfl rfl ?_
      refine XO_nil ?_
      refine at_then ?_
      refine X_ret ?_
      refine at_block_r ?_
      refine at_then_r ?_
      first
      | exact at_ret2 rfl rfl rfl (fun w hw => ⟨_, I, [], rfl, hIc, hw.drop, rfl, [], fun h => by rw [allE_1 h6] at h; omega, fun _ => rfl, by rw [allE_1 h6]; exact .empty rfl⟩)
      | exact at_ret2 rfl rfl rfl (fun w hw => ⟨_, I, [], rfl, hIc, hw.drop, rfl, [], fun h => by rw [allE_2 h6 h1] at h; omega, fun _ => rfl, by rw [allE_2 h6 h1]; exact .empty rfl⟩)
      | exact at_ret2 rfl rfl rfl (fun w hw => by obtain ⟨I9, av9, c9, h1', h2', rfl, h4'⟩ := OwnS.freeze (R := []) hO encH_len (by decide) (by rw [List.append_nil]; exact hw); exact ⟨_, I9, [], rfl, hIc.trans h1', h2', rfl, vss, fun _ => ⟨hp, hpw⟩, fun h => absurd (allE_3 h6 h1) h, by rw [allE_3 h6 h1]; exact ⟨rfl, av9, c9, by rw [hp.length_eq], by rw [hp.length_eq]; exact ⟨hs, h4', hre.mono h1'⟩⟩⟩)
    · skip
      have h1 : ¬ m < 1 := by simpa using hc7
      have hal := all_in (n := m) (by omega)
      have hsh := shl_in (n := m) (by omega)
      have hln := all_len (n := m.toNat) (by omega) (by omega)
      rw [show ((m.toNat : Nat) : Int) = m by omega] at hln
      refine X_skip ?_
      refine at_block_n ?_
      refine at_then ?_
      refine X_seq ?_
      refine X_region ?_
      refine XO_v0 (ev_move rfl) rfl rfl rfl ?_
      refine XO_v0 (ev_shl rfl rfl (fun hg => by omega)) rfl rfl rfl ?_
      refine XO_v0 (ev_arB rfl rfl rfl (fun hg => by first | omega | (simp [conj] at hg; omega))) rfl rfl rfl ?_
      refine XO_callM (cap := []) (vs := [_]) rfl rfl fun_32 .nil (w_trees1 _ (allS m)) rfl rfl ?_
      rintro vv1 I1 L1 hI1 ⟨rfl, b5, rfl, hc5⟩
      have hIc := hIc.trans hI1
      refine XO_callM (cap := []) (vs := [_, _]) rfl rfl fun_31 .nil (w_sortedF fun_48 (w_tree 7 (by omega) _ (allS m) b5 hal (by have := pop_7 hal; omega) hc5) (by omega) (fun r hr => by have := treesI_row 7 _ r hr; omega)) rfl rfl ?_
      rintro vv2 I2 L2 hI2 ⟨hs, vss, hp, hpw, hO, hre⟩
      have hc5 := hc5.mono hI2
      have hIc := hIc.trans hI2
      simp only [List.append_nil]
      refine XO_v0 (ev_assign rfl) rfl rfl rfl ?_
      refine XO_v0 (ev_assign rfl) rfl rfl rfl ?_
      refine XO_nil ?_
      refine at_then ?_
      refine X_ret ?_
      first
      | exact at_ret2 rfl rfl rfl (fun w hw => ⟨_, I2, [], rfl, hIc, hw.drop, rfl, [], fun h => by rw [allE_1 h6] at h; omega, fun _ => rfl, by rw [allE_1 h6]; exact .empty rfl⟩)
      | exact at_ret2 rfl rfl rfl (fun w hw => ⟨_, I2, [], rfl, hIc, hw.drop, rfl, [], fun h => by rw [allE_2 h6 h1] at h; omega, fun _ => rfl, by rw [allE_2 h6 h1]; exact .empty rfl⟩)
      | exact at_ret2 rfl rfl rfl (fun w hw => by obtain ⟨I9, av9, c9, h1', h2', rfl, h4'⟩ := OwnS.freeze (R := []) hO encH_len (by decide) (by rw [List.append_nil]; exact hw); exact ⟨_, I9, [], rfl, hIc.trans h1', h2', rfl, vss, fun _ => ⟨hp, hpw⟩, fun h => absurd (allE_3 h6 h1) h, by rw [allE_3 h6 h1]; exact ⟨rfl, av9, c9, by rw [hp.length_eq], by rw [hp.length_eq]; exact ⟨hs, h4', hre.mono h1'⟩⟩⟩)
end Go.Proofs.YtkpmnnflikkhmaaDoor
end
section
namespace Go.Proofs.YtkpmnnflikkhmaaDoor
open Go Go.Kn Go.Proofs
/-- What the program's loop holds: a round more. -/
def bsiS (rows : List (List Int)) (p : Int × List (List Int)) (x : List Int) : Int × List (List Int) :=
  let c := priceF rows x
  let t := decide ((p.2.length : Int) = 0) || decide (c < p.1)
  (if t then c else p.1, if c == (if t then c else p.1) then (if t then [] else p.2) ++ [x] else if t then [] else p.2)
def bsiK (rows : List (List Int)) (l : List (List Int)) (k : Nat) : Int × List (List Int) := (l.take k).foldl (bsiS rows) (0, [])
theorem bsi_next {rows l : List (List Int)} {k : Nat} {x : List Int} (hx : l[k]? = some x) : bsiK rows l (k + 1) = bsiS rows (bsiK rows l k) x := by
  unfold bsiK
  rw [take_snoc hx, List.foldl_append]; rfl
def tkB (rows l : List (List Int)) (k : Nat) (x : List Int) : Bool := decide (((bsiK rows l k).2.length : Int) = 0) || decide (priceF rows x < (bsiK rows l k).1)
def mdB (rows l : List (List Int)) (k : Nat) (x : List Int) : Int := if tkB rows l k x then priceF rows x else (bsiK rows l k).1
def mdO (rows l : List (List Int)) (k : Nat) (x : List Int) : List (List Int) := if tkB rows l k x then [] else (bsiK rows l k).2
theorem bsi_eq {rows l : List (List Int)} {k : Nat} {x : List Int} (hx : l[k]? = some x) : bsiK rows l (k + 1) = (mdB rows l k x, if priceF rows x == mdB rows l k x then mdO rows l k x ++ [x] else mdO rows l k x) := by rw [bsi_next hx]; rfl
theorem bsi_yes {rows l : List (List Int)} {k : Nat} {x : List Int} (hx : l[k]? = some x) (h : (priceF rows x == mdB rows l k x) = true) : bsiK rows l (k + 1) = (mdB rows l k x, mdO rows l k x ++ [x]) := by rw [bsi_eq hx, if_pos h]
theorem bsi_no {rows l : List (List Int)} {k : Nat} {x : List Int} (hx : l[k]? = some x) (h : (priceF rows x == mdB rows l k x) = false) : bsiK rows l (k + 1) = (mdB rows l k x, mdO rows l k x) := by rw [bsi_eq hx, if_neg (by rw [h]; decide)]
theorem md_yes {rows l : List (List Int)} {k : Nat} {x : List Int} (h : tkB rows l k x = true) : mdB rows l k x = priceF rows x ∧ mdO rows l k x = [] := by unfold mdB mdO; rw [if_pos h, if_pos h]; exact ⟨rfl, rfl⟩
theorem md_no {rows l : List (List Int)} {k : Nat} {x : List Int} (h : tkB rows l k x = false) : mdB rows l k x = (bsiK rows l k).1 ∧ mdO rows l k x = (bsiK rows l k).2 := by unfold mdB mdO; rw [if_neg (by rw [h]; decide), if_neg (by rw [h]; decide)]; exact ⟨rfl, rfl⟩
theorem price_pos {rows : List (List Int)} {cl : List Int} (h : 0 < (rows.getD 0 []).length → True) : 0 ≤ priceF rows cl := by
  unfold priceF
  have : ∀ k, 0 ≤ priceK rows cl k := by
    intro k
    induction k with
    | zero => exact Int.le_refl _
    | succ k ih =>
      rw [price_step]
      have := (minK_in (cs := costsF rows cl k 64 (allS rows.length)) (costs_in _ _) (by rw [costs_len]; exact st_pos) (costsF rows cl k 64 (allS rows.length)).length).1
      have e : leastF (costsF rows cl k 64 (allS rows.length)) = minK (costsF rows cl k 64 (allS rows.length)) (costsF rows cl k 64 (allS rows.length)).length := rfl
      omega
  exact this _
/-- Both loops hold the same, but for the start. -/
theorem bsi_bst {rows l : List (List Int)} (hl : l = allL rows.length) : ∀ k, k ≤ l.length → (k = 0 ∧ bsiK rows l k = (0, []) ∧ bstK rows k = (-1, [])) ∨ (1 ≤ k ∧ bsiK rows l k = bstK rows k ∧ (bstK rows k).2 ≠ [] ∧ 0 ≤ (bstK rows k).1) := by
  subst hl
  intro k
  induction k with
  | zero => intro _; left; exact ⟨rfl, rfl, rfl⟩
  | succ k ih =>
    intro hk
    right
    have hx : (allL (rows.length : Int))[k]? = some ((allL (rows.length : Int))[k]'(by omega)) := List.getElem?_eq_getElem _
    generalize (allL (rows.length : Int))[k]'(by omega) = x at hx
    have hp := price_pos (rows := rows) (cl := x) fun _ => trivial
    rw [bsi_next hx, bst_next hx]
    rcases ih (by omega) with ⟨rfl, h1, h2⟩ | ⟨h0, h1, h2, h3⟩
    · rw [h1, h2]
      unfold bsiS bstS lessB
      simp
      omega
    · rw [h1]
      generalize bstK rows k = p at h1 h2 h3
      obtain ⟨b, o⟩ := p
      simp only at h2 h3
      have ho : decide ((o.length : Int) = 0) = false := decide_eq_false (by
        intro e
        exact h2 (List.eq_nil_of_length_eq_zero (by omega)))
      have hb : decide (b < 0) = false := decide_eq_false (by omega)
      unfold bsiS bstS lessB
      simp only [ho, hb, Bool.false_or]
      refine ⟨by omega, trivial, ?_, ?_⟩
      · by_cases hc : priceF rows x < b
        · simp [hc]
        · simp only [hc, decide_false, Bool.false_eq_true, if_false]
          split
          · simp
          · exact h2
      · by_cases hc : priceF rows x < b
        · simp [hc]; omega
        · simp [hc]; omega
theorem all_ne {n : Nat} (h1 : 1 ≤ n) (h5 : n ≤ 5) : 0 < (allL (n : Int)).length := by
  have ht : ((List.range 6).all fun n => n == 0 || decide (0 < (allL (n : Int)).length)) = true := by kernel_rfl
  have h := List.all_eq_true.1 ht n (List.mem_range.2 (by omega))
  rw [show (n == 0) = false by simp; omega, Bool.false_or, decide_eq_true_eq] at h
  exact h
theorem best_same {rows l : List (List Int)} (h1 : 1 ≤ rows.length) (h5 : rows.length ≤ 5) (hl : l = allL rows.length) : bsiK rows l l.length = bstK rows (allL rows.length).length := by
  have h0 := all_ne h1 h5
  rcases bsi_bst hl l.length (Nat.le_refl _) with ⟨e, _⟩ | ⟨_, e, _⟩
  · rw [hl] at e; omega
  · rw [e, hl]
end Go.Proofs.YtkpmnnflikkhmaaDoor
end
section
namespace Go.Proofs.YtkpmnnflikkhmaaDoor
open Go Go.Kn Go.Proofs
theorem fun_15 : Fun Tryd.prog 15 := .of Tryd.func15 (by kernel_rfl) (by kernel_rfl)
theorem fun_36 : Fun Tryd.prog 36 := .of Tryd.func36 (by kernel_rfl) (by kernel_rfl)
theorem fun_37 : Fun Tryd.prog 37 := .of Tryd.func37 (by kernel_rfl) (by kernel_rfl)
theorem w_Cost {I : HMap} {av : Option Addr} {n c : Nat} {xs : List Int} (hS : Sl I 1 encI av n c xs) (hn : n ≤ 100000) {bv : Option Addr} {n2 c2 : Nat} {rows : List (List Int)} (hV : SlN I bv n2 c2 rows) (hn2 : n2 ≤ 100000) (hDb : DebOK I) : RetV Tryd.prog 19 [.slice bv n2 c2, .slice av n c] I (.tuple #[.int .i64 (costA rows xs), .int .i64 (costE rows xs)]) := by
  intro g H w hw
  refine enter Tryd.func19 rfl Tryd.ntmps19 rfl hw ?_
  have hlV := hV.len
  subst hlV
  refine X_seq ?_
  refine X_region ?_
  refine XO_v0 (ev_assign rfl) rfl rfl rfl ?_
  refine XO_v0 (ev_assign rfl) rfl rfl rfl ?_
  refine XO_nil ?_
  refine at_then ?_
  refine X_seq ?_
  refine X_seq ?_
  refine X_region ?_
  refine XO_v0 (ev_move rfl) rfl rfl rfl ?_
  refine XO_callV0 (cap := []) (vs := [_]) rfl rfl fun_36 (w_table hV hn2) rfl rfl ?_
  refine XO_v0 (ev_assign rfl) rfl rfl rfl ?_
  refine XO_nil ?_
  refine at_then ?_
  refine X_seq ?_
  refine X_region ?_
  refine XO_v0 (ev_move rfl) rfl rfl rfl ?_
  refine XO_v0 (ev_cmp rfl rfl rfl) rfl rfl rfl ?_
  refine XO_nil ?_
  refine at_then ?_
  refine X_cond rfl (fun hc9 => ?_) (fun hc9 => ?_)
  · skip
    have hr0 : rowsN rows ≠ 0 := by simpa using hc9
    obtain ⟨e1, e2⟩ := cost_1 (cl := xs) hr0
    refine X_seq ?_
    refine X_region ?_
    refine XO_v0 (ev_move rfl) rfl rfl rfl ?_
    refine XO_v0 (ev_assign rfl) rfl rfl rfl ?_
    refine XO_v0 (ev_assign rfl) rfl rfl rfl ?_
    refine XO_nil ?_
    refine at_then ?_
    refine X_ret ?_
    refine at_then_r ?_
    first
    | exact at_ret2 rfl rfl rfl (fun w hw => ⟨by rw [e1, e2], hw.drop⟩)
  · skip
    have hr0 : rowsN rows = 0 := by simpa using hc9
    refine X_skip ?_
    refine at_then ?_
    refine X_seq ?_
    refine X_seq ?_
    refine X_region ?_
    refine XO_v0 (ev_move rfl) rfl rfl rfl ?_
    refine XO_v0 (ev_lenS rfl slt_28) rfl rfl rfl ?_
    refine XO_v0 (ev_move rfl) rfl rfl rfl ?_
    refine XO_callV0 (cap := []) (vs := [_, _]) rfl rfl fun_13 (w_check hS _) rfl rfl ?_
    refine XO_v0 (ev_assign rfl) rfl rfl rfl ?_
    refine XO_nil ?_
    refine at_then ?_
    refine X_seq ?_
    refine X_region ?_
    refine XO_v0 (ev_move rfl) rfl rfl rfl ?_
    refine XO_v0 (ev_cmp rfl rfl rfl) rfl rfl rfl ?_
    refine XO_nil ?_
    refine at_then ?_
    refine X_cond rfl (fun hc16 => ?_) (fun hc16 => ?_)
    · skip
      have hc0 : chkN rows.length xs ≠ 0 := by simpa using hc16
      obtain ⟨e1, e2⟩ := cost_2 hr0 hc0
      refine X_seq ?_
      refine X_region ?_
      refine XO_v0 (ev_move rfl) rfl rfl rfl ?_
      refine XO_v0 (ev_assign rfl) rfl rfl rfl ?_
      refine XO_v0 (ev_assign rfl) rfl rfl rfl ?_
      refine XO_nil ?_
      refine at_then ?_
      refine X_ret ?_
      refine at_then_r ?_
      first
      | exact at_ret2 rfl rfl rfl (fun w hw => ⟨by rw [e1, e2], hw.drop⟩)
    · skip
      have hc0 : chkN rows.length xs = 0 := by simpa using hc16
      obtain ⟨e1, e2⟩ := cost_3 hr0 hc0
      refine X_skip ?_
      refine at_then ?_
      refine X_seq ?_
      refine X_region ?_
      refine XO_v0 (ev_move rfl) rfl rfl rfl ?_
      refine XO_v0 (ev_move rfl) rfl rfl rfl ?_
      refine XO_callV0 (cap := []) (vs := [_, _]) rfl rfl fun_37 (w_cost hS hn hV hn2 hDb hr0 hc0) rfl rfl ?_
      refine XO_v0 (ev_assign rfl) rfl rfl rfl ?_
      refine XO_v0 (ev_assign rfl) rfl rfl rfl ?_
      refine XO_nil ?_
      refine at_then ?_
      refine X_ret ?_
      first
      | exact at_ret2 rfl rfl rfl (fun w hw => ⟨by rw [e1, e2], hw.drop⟩)
theorem w_Best {I : HMap} {bv : Option Addr} {n2 c2 : Nat} {rows : List (List Int)} (hV : SlN I bv n2 c2 rows) (hn2 : n2 ≤ 100000) (hDb : DebOK I) (h5 : rows.length ≠ 6) : RetM Tryd.prog 21 [.slice bv n2 c2] I [] (BestQ rows) := by
  intro g H w hw
  refine enter Tryd.func21 rfl Tryd.ntmps21 rfl hw ?_
  have hIc := HLe.refl I
  have hlV := hV.len
  subst hlV
  refine X_seq ?_
  refine X_region ?_
  refine XO_v0 (ev_assign rfl) rfl rfl rfl ?_
  refine XO_v0 (ev_assign rfl) rfl rfl rfl ?_
  refine XO_v0 (ev_assign rfl) rfl rfl rfl ?_
  refine XO_nil ?_
  refine at_then ?_
  refine X_seq ?_
  refine X_seq ?_
  refine X_region ?_
  refine XO_v0 (ev_move rfl) rfl rfl rfl ?_
  refine XO_callV0 (cap := []) (vs := [_]) rfl rfl fun_36 (w_table hV hn2) rfl rfl ?_
  refine XO_v0 (ev_assign rfl) rfl rfl rfl ?_
  refine XO_nil ?_
  refine at_then ?_
  refine X_seq ?_
  refine X_region ?_
  refine XO_v0 (ev_move rfl) rfl rfl rfl ?_
  refine XO_v0 (ev_cmp rfl rfl rfl) rfl rfl rfl ?_
  refine XO_nil ?_
  refine at_then ?_
  refine X_cond rfl (fun hc13 => ?_) (fun hc13 => ?_)
  · skip
    have hr0 : rowsN rows ≠ 0 := by simpa using hc13
    refine X_seq ?_
    refine X_region ?_
    refine XO_v0 (ev_move rfl) rfl rfl rfl ?_
    refine XO_v0 (ev_assign rfl) rfl rfl rfl ?_
    refine XO_v0 (ev_assign rfl) rfl rfl rfl ?_
    refine XO_v0 (ev_assign rfl) rfl rfl rfl ?_
    refine XO_nil ?_
    refine at_then ?_
    refine X_ret ?_
    refine at_then_r ?_
    first
    | exact at_ret3 rfl rfl rfl rfl (fun w hw => ⟨_, I, [], rfl, hIc, hw.drop, BestQ.bad hr0⟩)
    | exact at_ret3 rfl rfl rfl rfl (fun w hw => by rw [best_same hr1 h5 rfl] at hre hb; obtain ⟨I9, h91, h92, h93⟩ := OwnS.res hO encH_len (by decide) hw; obtain ⟨_, a9, c9, e9, h94⟩ := h93; have hrel := hre.mono h91; rw [hrel.1] at e9 h94; obtain ⟨u1, u2⟩ := best_ok hr0; rw [← u1] at e9 h94 hrel; rw [← u2] at hb; subst e9; exact ⟨_, I9, [], rfl, hIc.trans h91, h92, rfl, a9, c9, by rw [hb, hr0], _, h94, hrel⟩)
  · skip
    have hr0 : rowsN rows = 0 := by simpa using hc13
    obtain ⟨hr1, hr6, _⟩ := rows_ok hr0
    have h5 : rows.length ≤ 5 := by omega
    refine X_skip ?_
    refine at_then ?_
    refine X_seq ?_
    refine X_region ?_
    refine XO_v0 (ev_move rfl) rfl rfl rfl ?_
    refine XO_v0 (ev_lenS rfl slt_28) rfl rfl rfl ?_
    refine XO_callM (cap := []) (vs := [_]) rfl rfl fun_15 .nil (w_All _ (rows.length : Int)) rfl rfl ?_
    rintro vv1 I1 L1 hI1 ⟨rfl, vss, hok, _, hAl⟩
    have hV := hV.mono hI1
    have hDb := hDb.mono hI1
    have hIc := hIc.trans hI1
    have hae : allE (rows.length : Int) = 0 := allE_3 (by omega) (by omega)
    obtain ⟨_, aA, cA, rfl, hA⟩ := hAl
    have hvs := allok_5 hr1 h5 (hok hae)
    subst hvs
    rw [hae]
    obtain ⟨gs, hA⟩ := hA
    have hln : (allL rows.length).length ≤ 945 := by unfold allL; rw [sort_len]; exact trees_few (by omega) (all_in (n := (rows.length : Int)) ⟨by omega, by omega⟩)
    refine XO_v0 (ev_move rfl) rfl rfl rfl ?_
    refine XO_v0 (ev_extract rfl rfl) rfl rfl rfl ?_
    refine XO_v0 (ev_extract rfl rfl) rfl rfl rfl ?_
    refine XO_v0 (ev_assign rfl) rfl rfl rfl ?_
    refine XO_v0 (ev_assign rfl) rfl rfl rfl ?_
    refine XO_nil ?_
    refine at_then ?_
    refine X_seq ?_
    refine X_seq ?_
    refine X_region ?_
    refine XO_v0 (ev_move rfl) rfl rfl rfl ?_
    refine XO_v0 (ev_lenS rfl slt_28) rfl rfl rfl ?_
    refine XO_v0 (ev_move rfl) rfl rfl rfl ?_
    refine XO_nil ?_
    refine at_then ?_
    refine X_block ?_
    refine X_loopT [(0, _), (21, _), (22, _)] (.cons rfl (.cons rfl (.cons rfl .nil))) (fun T L0 mz E I' loc' => ∃ (i : Nat) (b : Int) (v : Value) (q : Nat) (os : List Hd) (L : Go.Kn.Loc), mz = (allL rows.length).length - i ∧ E = (2, v) :: (3, .int .i64 b) :: (23, .int .i64 i) :: T ∧ HLe I1 I' ∧ L = loc' ∧ i ≤ (allL rows.length).length ∧ OwnS 22 1 v q (os.flatMap encH) L ∧ RelH I' os (bsiK rows (allL rows.length) i).2 ∧ b = (bsiK rows (allL rows.length) i).1 ∧ q ≤ i) _ _ _ _ ⟨0, _, _, 0, [], [], rfl, rfl, HLe.refl _, rfl, Nat.zero_le _, OwnS.nil, RelH.nil, rfl, Nat.le_refl _⟩ (.cons rfl (.cons rfl (.cons rfl (.cons rfl (.cons rfl (.cons rfl .nil)))))) (HLe.refl _) rfl ?_
    rintro mz E J2 loc' ⟨i, b, v, q, os, L, rfl, rfl, hJ, rfl, hi, hO, hre, hb, hq⟩
    have hV := hV.mono hJ
    have hDb := hDb.mono hJ
    have hA := hA.mono hJ
    have hIc := hIc.trans hJ
    have hB0 := hJ
    refine X_seq ?_
    refine X_region ?_
    refine XO_v0 (ev_cmp rfl rfl rfl) rfl rfl rfl ?_
    refine XO_nil ?_
    refine at_then ?_
    refine X_seq ?_
    refine X_cond rfl (fun hc24 => ?_) (fun hc24 => ?_)
    · skip
      have hlt_i : i < (allL rows.length).length := by have h := hc24; simp at h; omega
      obtain ⟨y, yv, hgy, hyy, hQy⟩ := hA.at hlt_i
      have hys : yv.length ≤ 100000 := tree_short _ (mem_sort _ _ (List.mem_of_getElem? hyy))
      refine X_skip ?_
      refine at_then ?_
      refine X_seq ?_
      refine X_block ?_
      refine X_seq ?_
      refine X_region ?_
      refine XO_v0 (ev_indexSl rfl rfl slt_28 hA.1 (fun hg => by first | omega | (simp [conj] at hg; omega))) rfl rfl rfl ?_
      refine XO_v0 (ev_load rfl sct_22 (fun hg => by first | exact Sl.get0 hA.1 hgy rfl | exact Cell.h0 rfl | exact Cell.h1 rfl | exact Cell.h2 rfl | exact Cell.h3 rfl | exact Cell.h4 rfl | exact Cell.h5 rfl | (repeat (first | exact Cell.here rfl | apply Cell.there | apply Cell.app)))) rfl rfl rfl ?_
      refine XO_v0 (ev_assign rfl) rfl rfl rfl ?_
      refine XO_nil ?_
      refine at_then ?_
      refine X_seq ?_
      refine X_region ?_
      refine XO_v0 (ev_move rfl) rfl rfl rfl ?_
      refine XO_v0 (ev_move rfl) rfl rfl rfl ?_
      refine XO_callV0 (cap := []) (vs := [_, _]) rfl rfl fun_37 (w_cost hQy (by rw [← hQy.len]; exact hys) hV hn2 hDb hr0 (all_chk hr1 h5 (List.mem_of_getElem? hyy))) rfl rfl ?_
      refine XO_v0 (ev_assign rfl) rfl rfl rfl ?_
      refine XO_nil ?_
      refine at_then ?_
      refine X_cutT [(0, _), (8, _), (9, _), (21, _), (22, _), (23, _)] (.cons rfl (.cons rfl (.cons rfl (.cons rfl (.cons rfl (.cons rfl .nil)))))) (fun T L0 E I' loc' => ∃ (b : Int) (v : Value) (q : Nat) (os : List Hd) (L : Go.Kn.Loc), E = (2, v) :: (3, .int .i64 b) :: T ∧ HLe J2 I' ∧ L = loc' ∧ OwnS 22 1 v q (os.flatMap encH) L ∧ RelH I' os (mdO rows (allL rows.length) i yv) ∧ b = mdB rows (allL rows.length) i yv ∧ q ≤ i) ?_ ?_
      · skip
        have hKc9 := HLe.refl J2
        refine X_seq ?_
        obtain ⟨va, vc, rfl⟩ := valn hO
        have hql : ((os.length : Nat) : Int) = (q : Int) := by have h1 := hO.1; rw [flat_len encH_len] at h1; omega
        refine X_region ?_
        refine XO_v0 (ev_move rfl) rfl rfl rfl ?_
        refine XO_v0 (ev_lenS rfl slt_28) rfl rfl rfl ?_
        refine XO_v0 (ev_cmp rfl rfl rfl) rfl rfl rfl ?_
        refine XO_v0 (ev_move rfl) rfl rfl rfl ?_
        refine XO_pushF 3 rfl rfl rfl ?_
        refine XO_v1 (ev_move rfl) (.some rfl rfl rfl rfl gbf) rfl rfl rfl ?_
        refine XO_v1 (ev_move rfl) (.some rfl rfl rfl rfl gbf) rfl rfl rfl ?_
        refine XO_v1 (ev_cmp rfl rfl rfl) (.some rfl rfl rfl rfl gbf) rfl rfl rfl ?_
        refine XO_or0 rfl rfl rfl rfl rfl ?_
        refine XO_nil ?_
        refine at_then ?_
        refine X_cond rfl (fun hc37 => ?_) (fun hc37 => ?_)
        · skip
          have hlb : tkB rows (allL rows.length) i yv = true := by unfold tkB; rw [← hb, ← hre.1, hql]; simpa using hc37
          refine X_region ?_
          refine XO_v0 (ev_move rfl) rfl rfl rfl ?_
          refine XO_v0 (ev_assign rfl) rfl rfl rfl ?_
          refine XO_v0 (ev_assign rfl) rfl rfl rfl ?_
          refine XO_nil ?_
          first
          | exact at_met2 _ _ ⟨_, _, 0, [], [], rfl, hKc9, rfl, OwnS.nil, by rw [(md_yes hlb).2]; exact RelH.nil, by rw [(md_yes hlb).1], Nat.zero_le _⟩ (.cons rfl (.cons rfl (.cons rfl (.cons rfl (.cons rfl (.cons rfl (.cons rfl (.cons rfl .nil)))))))) (by repeat (first | exact .refl | exact subL_left | refine subL_app ?_ | refine .drop ?_ | refine subL_add ?_))
          | exact at_met2 _ _ ⟨_, _, _, _, _, rfl, hKc9, rfl, hO, by rw [(md_no hlb).2]; exact hre, by rw [(md_no hlb).1]; exact hb, hq⟩ (.cons rfl (.cons rfl (.cons rfl (.cons rfl (.cons rfl (.cons rfl (.cons rfl (.cons rfl .nil)))))))) (by repeat (first | exact .refl | exact subL_left | refine subL_app ?_ | refine .drop ?_ | refine subL_add ?_))
        · skip
          have hlb : tkB rows (allL rows.length) i yv = false := by unfold tkB; rw [← hb, ← hre.1, hql]; simpa using hc37
          refine X_skip ?_
          first
          | exact at_met2 _ _ ⟨_, _, 0, [], [], rfl, hKc9, rfl, OwnS.nil, by rw [(md_yes hlb).2]; exact RelH.nil, by rw [(md_yes hlb).1], Nat.zero_le _⟩ (.cons rfl (.cons rfl (.cons rfl (.cons rfl (.cons rfl (.cons rfl (.cons rfl (.cons rfl .nil)))))))) (by repeat (first | exact .refl | exact subL_left | refine subL_app ?_ | refine .drop ?_ | refine subL_add ?_))
          | exact at_met2 _ _ ⟨_, _, _, _, _, rfl, hKc9, rfl, hO, by rw [(md_no hlb).2]; exact hre, by rw [(md_no hlb).1]; exact hb, hq⟩ (.cons rfl (.cons rfl (.cons rfl (.cons rfl (.cons rfl (.cons rfl (.cons rfl (.cons rfl .nil)))))))) (by repeat (first | exact .refl | exact subL_left | refine subL_app ?_ | refine .drop ?_ | refine subL_add ?_))
      · rintro E J3 loc' ⟨b, v, q, os, L, rfl, hJc, rfl, hO, hre2, hb2, hq⟩
        have hV := hV.mono hJc
        have hDb := hDb.mono hJc
        have hA := hA.mono hJc
        have hre := hre.mono hJc
        have hQy := hQy.mono hJc
        have hIc := hIc.trans hJc
        have hB0 := hB0.trans hJc
        refine X_seq ?_
        refine X_region ?_
        refine XO_v0 (ev_move rfl) rfl rfl rfl ?_
        refine XO_v0 (ev_move rfl) rfl rfl rfl ?_
        refine XO_v0 (ev_cmp rfl rfl rfl) rfl rfl rfl ?_
        refine XO_nil ?_
        refine at_then ?_
        refine X_cond rfl (fun hc41 => ?_) (fun hc41 => ?_)
        · skip
          refine X_region ?_
          refine XO_v0 (ev_move rfl) rfl rfl rfl ?_
          refine XO_v0 (ev_move rfl) rfl rfl rfl ?_
          refine XO_buildSlice (ps := [(0, _)]) (m := [encH y]) elt_28 rfl (.cons rfl (.nil)) rfl (by simp [encH_len]) (by decide) (by decide) rfl rfl (fun b_44 => ?_)
          refine XO_append (v := _) (ys := [y].flatMap encH) (L := L) rfl rfl elt_28 hO (by repeat (first | exact .cons .here .nil | exact split_all | exact split_app | apply split_cons | apply split_skip)) ⟨rfl, fun _ => rfl, Cells.here⟩ (one_H [y]) (by omega) rfl rfl ?_
          intro v9 L9 hO9 _; rw [← List.flatMap_append] at hO9
          refine XO_v0 (ev_assign rfl) rfl rfl rfl ?_
          refine XO_nil ?_
          refine at_block_n ?_
          refine at_then ?_
          refine X_region ?_
          refine XO_v0 (ev_arB rfl rfl rfl (fun hg => by first | omega | (simp [conj] at hg; omega))) rfl rfl rfl ?_
          refine XO_v0 (ev_move rfl) rfl rfl rfl ?_
          refine XO_nil ?_
          first
          | exact at_met2 _ _ ⟨(allL rows.length).length - (i + 1), by omega, i + 1, _, _, _, _, _, rfl, rfl, hB0, rfl, by omega, hO, by rw [bsi_no hyy (by rw [← hb2]; exact hc41)]; exact hre2, by rw [bsi_no hyy (by rw [← hb2]; exact hc41)]; exact hb2, by omega⟩ (.cons rfl (.cons rfl (.cons rfl (.cons rfl (.cons rfl (.cons rfl .nil)))))) (by repeat (first | exact .refl | exact subL_left | refine subL_app ?_ | refine .drop ?_ | refine subL_add ?_))
          | exact at_met2 _ _ ⟨(allL rows.length).length - (i + 1), by omega, i + 1, _, _, _, _, _, rfl, rfl, hB0, rfl, by omega, hO9, by rw [bsi_yes hyy (by rw [← hb2]; exact hc41)]; exact hre2.snoc hQy, by rw [bsi_yes hyy (by rw [← hb2]; exact hc41)]; exact hb2, by omega⟩ (.cons rfl (.cons rfl (.cons rfl (.cons rfl (.cons rfl (.cons rfl .nil)))))) (by repeat (first | exact .refl | exact subL_left | refine subL_app ?_ | refine .drop ?_ | refine subL_add ?_))
        · skip
          refine X_skip ?_
          refine at_block_n ?_
          refine at_then ?_
          refine X_region ?_
          refine XO_v0 (ev_arB rfl rfl rfl (fun hg => by first | omega | (simp [conj] at hg; omega))) rfl rfl rfl ?_
          refine XO_v0 (ev_move rfl) rfl rfl rfl ?_
          refine XO_nil ?_
          first
          | exact at_met2 _ _ ⟨(allL rows.length).length - (i + 1), by omega, i + 1, _, _, _, _, _, rfl, rfl, hB0, rfl, by omega, hO, by rw [bsi_no hyy (by rw [← hb2]; exact hc41)]; exact hre2, by rw [bsi_no hyy (by rw [← hb2]; exact hc41)]; exact hb2, by omega⟩ (.cons rfl (.cons rfl (.cons rfl (.cons rfl (.cons rfl (.cons rfl .nil)))))) (by repeat (first | exact .refl | exact subL_left | refine subL_app ?_ | refine .drop ?_ | refine subL_add ?_))
          | exact at_met2 _ _ ⟨(allL rows.length).length - (i + 1), by omega, i + 1, _, _, _, _, _, rfl, rfl, hB0, rfl, by omega, hO9, by rw [bsi_yes hyy (by rw [← hb2]; exact hc41)]; exact hre2.snoc hQy, by rw [bsi_yes hyy (by rw [← hb2]; exact hc41)]; exact hb2, by omega⟩ (.cons rfl (.cons rfl (.cons rfl (.cons rfl (.cons rfl (.cons rfl .nil)))))) (by repeat (first | exact .refl | exact subL_left | refine subL_app ?_ | refine .drop ?_ | refine subL_add ?_))
    · skip
      have hge_i : (allL rows.length).length ≤ i := by have h := hc24; simp at h; omega
      have hie : i = (allL rows.length).length := by omega
      subst hie
      refine X_exit ?_
      refine at_then_e ?_
      refine at_then_e ?_
      refine at_block_hit ?_
      refine at_then ?_
      refine X_seq ?_
      refine X_region ?_
      refine XO_v0 (ev_move rfl) rfl rfl rfl ?_
      refine XO_v0 (ev_move rfl) rfl rfl rfl ?_
      refine XO_v0 (ev_assign rfl) rfl rfl rfl ?_
      refine XO_v0 (ev_assign rfl) rfl rfl rfl ?_
      refine XO_v0 (ev_assign rfl) rfl rfl rfl ?_
      refine XO_nil ?_
      refine at_then ?_
      refine X_ret ?_
      first
      | exact at_ret3 rfl rfl rfl rfl (fun w hw => ⟨_, J2, [], rfl, hIc, hw.drop, BestQ.bad hr0⟩)
      | exact at_ret3 rfl rfl rfl rfl (fun w hw => by rw [best_same hr1 h5 rfl] at hre hb; obtain ⟨I9, h91, h92, h93⟩ := OwnS.res hO encH_len (by decide) hw; obtain ⟨_, a9, c9, e9, h94⟩ := h93; have hrel := hre.mono h91; rw [hrel.1] at e9 h94; obtain ⟨u1, u2⟩ := best_ok hr0; rw [← u1] at e9 h94 hrel; rw [← u2] at hb; subst e9; exact ⟨_, I9, [], rfl, hIc.trans h91, h92, rfl, a9, c9, by rw [hb, hr0], _, h94, hrel⟩)
end Go.Proofs.YtkpmnnflikkhmaaDoor
end
section
namespace Go.Proofs.YtkpmnnflikkhmaaDoor
open Go Go.Kn Go.Proofs
theorem fun_11 : Fun Tryd.prog 11 := .of Tryd.func11 (by kernel_rfl) (by kernel_rfl)
theorem fun_17 : Fun Tryd.prog 17 := .of Tryd.func17 (by kernel_rfl) (by kernel_rfl)
theorem fun_19 : Fun Tryd.prog 19 := .of Tryd.func19 (by kernel_rfl) (by kernel_rfl)
theorem fun_21 : Fun Tryd.prog 21 := .of Tryd.func21 (by kernel_rfl) (by kernel_rfl)
theorem lit_rows {I : HMap} {b t n : Nat} (hs : List Hd) {vss : List (List Int)} (hn : hs.length = n) (h : I b = some (.cells (hs.flatMap encH).toArray t (0, 0))) (r : RelH I hs vss) : SlN I (some ⟨b, 0, none⟩) n n vss := ⟨hs, Sl.lit hs hn encH_len h, r⟩
theorem s_all3 {I : HMap} : RetM Tryd.prog 15 [.int .i64 3] I [] (fun v I' L => L = [] ∧ ∃ a c, v = .tuple #[.slice a 3 c, .int .i64 0] ∧ SlN I' a 3 c [[3, 7], [5, 7], [6, 7]]) := by
  intro g H w hw
  refine (w_All I 3 g H w hw).mono ?_
  rintro ed w' ⟨v, I', L', he, hI, hs, rfl, vss, hok, _, _, a, c, hv, hS⟩
  have e0 : allE 3 = 0 := rfl
  have e1 := allok_5 (n := 3) (by decide) (by decide) (hok e0)
  have e2 : allL ((3 : Nat) : Int) = [[3, 7], [5, 7], [6, 7]] := by kernel_rfl
  rw [e2] at e1
  subst e1
  rw [e0] at hv
  exact ⟨_, I', [], he, hI, hs, rfl, a, c, hv, hS⟩
theorem s_all6 {I : HMap} : RetM Tryd.prog 15 [.int .i64 6] I [] (fun v I' L => L = [] ∧ ∃ a c, v = .tuple #[.slice a 945 c, .int .i64 0]) := by
  intro g H w hw
  refine (w_All I 6 g H w hw).mono ?_
  rintro ed w' ⟨v, I', L', he, hI, hs, rfl, vss, hok, _, _, a, c, hv, hS⟩
  have e0 : allE 6 = 0 := rfl
  have hl : vss.length = 945 := (hok e0).1.length_eq.trans all_945
  rw [e0, hl] at hv
  exact ⟨_, I', [], he, hI, hs, rfl, a, c, hv⟩
theorem s_same {I : HMap} {av bv : Option Addr} {n c c2 : Nat} {vss : List (List Int)} (hV : SlN I av n c vss) (hW : SlN I bv n c2 vss) (hn : n ≤ 100000) (hr : ∀ r ∈ vss, r.length ≤ 100000) : RetV Tryd.prog 17 [.slice av n c, .slice bv n c2] I (.bool true) := by
  have h := w_same hV hW hn hr
  rw [same_self] at h; exact h
theorem s_best1 {I : HMap} {av : Option Addr} {c : Nat} (hV : SlN I av 3 c [[5, 8], [5, 4], [9, 4]]) (hDb : DebOK I) : RetM Tryd.prog 21 [.slice av 3 c] I [] (fun v I' L => L = [] ∧ ∃ a c, v = .tuple #[.slice a 3 c, .int .i64 4, .int .i64 0] ∧ SlN I' a 3 c [[3, 7], [5, 7], [6, 7]]) := by
  intro g H w hw
  refine (w_Best hV (by decide) hDb (by decide) g H w hw).mono ?_
  rintro ed w' ⟨v, I', L', he, hI, hs, rfl, a, c', hv, hS⟩
  have e1 : bestL [[5, 8], [5, 4], [9, 4]] = [[3, 7], [5, 7], [6, 7]] := by kernel_rfl
  have e2 : bestB [[5, 8], [5, 4], [9, 4]] = 4 := by kernel_rfl
  have e3 : rowsN [[5, 8], [5, 4], [9, 4]] = 0 := by kernel_rfl
  rw [e1] at hS hv
  rw [e2, e3] at hv
  exact ⟨_, I', [], he, hI, hs, rfl, a, c', hv, hS⟩
theorem s_best2 {I : HMap} {av : Option Addr} {c : Nat} (hV : SlN I av 1 c [[7]]) (hDb : DebOK I) : RetM Tryd.prog 21 [.slice av 1 c] I [] (fun v I' L => L = [] ∧ ∃ a c, v = .tuple #[.slice a 1 c, .int .i64 0, .int .i64 0] ∧ SlN I' a 1 c [[]]) := by
  intro g H w hw
  refine (w_Best hV (by decide) hDb (by decide) g H w hw).mono ?_
  rintro ed w' ⟨v, I', L', he, hI, hs, rfl, a, c', hv, hS⟩
  have e1 : bestL [[7]] = [[]] := by kernel_rfl
  have e2 : bestB [[7]] = 0 := by kernel_rfl
  have e3 : rowsN [[7]] = 0 := by kernel_rfl
  rw [e1] at hS hv
  rw [e2, e3] at hv
  exact ⟨_, I', [], he, hI, hs, rfl, a, c', hv, hS⟩
theorem s_best3 {I : HMap} {av : Option Addr} {c : Nat} (hV : SlN I av 0 c []) (hDb : DebOK I) : RetM Tryd.prog 21 [.slice av 0 c] I [] (fun v I' L => L = [] ∧ ∃ a c, v = .tuple #[.slice a 0 c, .int .i64 0, .int .i64 420] ∧ SlN I' a 0 c []) := by
  intro g H w hw
  refine (w_Best hV (by decide) hDb (by decide) g H w hw).mono ?_
  rintro ed w' ⟨v, I', L', he, hI, hs, rfl, a, c', hv, hS⟩
  have e1 : bestL [] = [] := by kernel_rfl
  have e2 : bestB [] = 0 := by kernel_rfl
  have e3 : rowsN [] = 420 := by kernel_rfl
  rw [e1] at hS hv
  rw [e2, e3] at hv
  exact ⟨_, I', [], he, hI, hs, rfl, a, c', hv, hS⟩
theorem s_cost1 {I : HMap} {av bv : Option Addr} {c c2 : Nat} (hV : SlN I av 3 c [[5], [5], [9]]) (hS : Sl I 1 encI bv 2 c2 [6, 7]) (hDb : DebOK I) : RetV Tryd.prog 19 [.slice av 3 c, .slice bv 2 c2] I (.tuple #[.int .i64 2, .int .i64 0]) := by
  have h := w_Cost hS (by decide) hV (by decide) hDb
  have e1 : costA [[5], [5], [9]] [6, 7] = 2 := by kernel_rfl
  have e2 : costE [[5], [5], [9]] [6, 7] = 0 := by kernel_rfl
  rw [e1, e2] at h; exact h
theorem s_cost2 {I : HMap} {av bv : Option Addr} {c c2 : Nat} (hV : SlN I av 3 c [[0], [0], [9]]) (hS : Sl I 1 encI bv 2 c2 [3, 7]) (hDb : DebOK I) : RetV Tryd.prog 19 [.slice av 3 c, .slice bv 2 c2] I (.tuple #[.int .i64 1, .int .i64 0]) := by
  have h := w_Cost hS (by decide) hV (by decide) hDb
  have e1 : costA [[0], [0], [9]] [3, 7] = 1 := by kernel_rfl
  have e2 : costE [[0], [0], [9]] [3, 7] = 0 := by kernel_rfl
  rw [e1, e2] at h; exact h
theorem s_cost3 {I : HMap} {av bv : Option Addr} {c c2 : Nat} (hV : SlN I av 3 c [[8589934592], [5], [5]]) (hS : Sl I 1 encI bv 2 c2 [3, 7]) (hDb : DebOK I) : RetV Tryd.prog 19 [.slice av 3 c, .slice bv 2 c2] I (.tuple #[.int .i64 0, .int .i64 0]) := by
  have h := w_Cost hS (by decide) hV (by decide) hDb
  have e1 : costA [[8589934592], [5], [5]] [3, 7] = 0 := by kernel_rfl
  have e2 : costE [[8589934592], [5], [5]] [3, 7] = 0 := by kernel_rfl
  rw [e1, e2] at h; exact h
theorem s_chk1 {I : HMap} {av : Option Addr} {c : Nat} (hS : Sl I 1 encI av 0 c []) : RetV Tryd.prog 13 [.int .i64 1, .slice av 0 c] I (.int .i64 0) := by
  have h := w_check hS 1
  have e : chkN 1 [] = 0 := by kernel_rfl
  rw [e] at h; exact h
theorem s_chk2 {I : HMap} {av : Option Addr} {c : Nat} (hS : Sl I 1 encI av 0 c []) : RetV Tryd.prog 13 [.int .i64 0, .slice av 0 c] I (.int .i64 420) := by
  have h := w_check hS 0
  have e : chkN 0 [] = 420 := by kernel_rfl
  rw [e] at h; exact h
theorem s_chk3 {I : HMap} {av : Option Addr} {c : Nat} (hS : Sl I 1 encI av 0 c []) : RetV Tryd.prog 13 [.int .i64 7, .slice av 0 c] I (.int .i64 2) := by
  have h := w_check hS 7
  have e : chkN 7 [] = 2 := by kernel_rfl
  rw [e] at h; exact h
theorem s_chk4 {I : HMap} {av : Option Addr} {c : Nat} (hS : Sl I 1 encI av 2 c [4, 7]) : RetV Tryd.prog 13 [.int .i64 3, .slice av 2 c] I (.int .i64 420) := by
  have h := w_check hS 3
  have e : chkN 3 [4, 7] = 420 := by kernel_rfl
  rw [e] at h; exact h
theorem s_parts1 {I : HMap} {av : Option Addr} {c : Nat} (hS : Sl I 1 encI av 2 c [3, 7]) : RetV Tryd.prog 11 [.int .i64 3, .slice av 2 c, .int .i64 7] I (.tuple #[.int .i64 3, .int .i64 4, .int .i64 0]) := by
  have h := w_Parts hS (by decide) 3 7
  have e1 : iA 3 [3, 7] 7 = 3 := by kernel_rfl
  have e2 : iB 3 [3, 7] 7 = 4 := by kernel_rfl
  have e3 : partsE 3 [3, 7] 7 = 0 := by kernel_rfl
  rw [e1, e2, e3] at h; exact h
theorem s_parts2 {I : HMap} {av : Option Addr} {c : Nat} (hS : Sl I 1 encI av 2 c [3, 7]) : RetV Tryd.prog 11 [.int .i64 3, .slice av 2 c, .int .i64 4] I (.tuple #[.int .i64 0, .int .i64 0, .int .i64 1]) := by
  have h := w_Parts hS (by decide) 3 4
  have e1 : iA 3 [3, 7] 4 = 0 := by kernel_rfl
  have e2 : iB 3 [3, 7] 4 = 0 := by kernel_rfl
  have e3 : partsE 3 [3, 7] 4 = 1 := by kernel_rfl
  rw [e1, e2, e3] at h; exact h
set_option maxRecDepth 100000 in
theorem w_sane {I : HMap} (hDb : DebOK I) : RetV Tryd.prog 10 [] I (.bool true) := by
  intro g H w hw
  refine enter Tryd.func10 rfl Tryd.ntmps10 rfl hw ?_
  have hIc := HLe.refl I
  refine X_seq ?_
  refine X_region ?_
  refine XO_v0 (ev_assign rfl) rfl rfl rfl ?_
  refine XO_nil ?_
  refine at_then ?_
  refine X_seq ?_
  refine X_region ?_
  refine XO_buildSlice (ps := [(0, _), (1, _)]) (m := [encI 3, encI 7]) elt_22 rfl (.cons rfl (.cons rfl (.nil))) rfl (by simp [encI_len, encH_len]) (by decide) (by decide) rfl rfl (fun b_27 => ?_)
  refine XO_buildSlice (ps := [(0, _), (1, _)]) (m := [encI 5, encI 7]) elt_22 rfl (.cons rfl (.cons rfl (.nil))) rfl (by simp [encI_len, encH_len]) (by decide) (by decide) rfl rfl (fun b_28 => ?_)
  refine XO_buildSlice (ps := [(0, _), (1, _)]) (m := [encI 6, encI 7]) elt_22 rfl (.cons rfl (.cons rfl (.nil))) rfl (by simp [encI_len, encH_len]) (by decide) (by decide) rfl rfl (fun b_29 => ?_)
  refine XO_buildSlice (ps := [(0, _), (1, _), (2, _)]) (m := [encH ⟨some ⟨b_27, 0, none⟩, 2, 2⟩, encH ⟨some ⟨b_28, 0, none⟩, 2, 2⟩, encH ⟨some ⟨b_29, 0, none⟩, 2, 2⟩]) elt_28 rfl (.cons rfl (.cons rfl (.cons rfl (.nil)))) rfl (by simp [encI_len, encH_len]) (by decide) (by decide) rfl rfl (fun b_30 => ?_)
  refine XO_v0 (ev_assign rfl) rfl rfl rfl ?_
  refine XO_nil ?_
  refine at_then ?_
  refine X_seq ?_
  refine X_region ?_
  refine XO_freezeAll (fun I1 hI1 hall1 => ?_)
  have hDb := hDb.mono hI1
  have hIc := hIc.trans hI1
  have hT3 : SlN I1 (some ⟨b_30, 0, none⟩) 3 3 [[3, 7], [5, 7], [6, 7]] := lit_rows (vss := [[3, 7], [5, 7], [6, 7]]) ([⟨some ⟨b_27, 0, none⟩, 2, 2⟩, ⟨some ⟨b_28, 0, none⟩, 2, 2⟩, ⟨some ⟨b_29, 0, none⟩, 2, 2⟩] : List Hd) rfl (show _ = some (Obj.cells (([⟨some ⟨b_27, 0, none⟩, 2, 2⟩, ⟨some ⟨b_28, 0, none⟩, 2, 2⟩, ⟨some ⟨b_29, 0, none⟩, 2, 2⟩] : List Hd).flatMap encH).toArray 22 (0, 0)) from hall1 _ _ (by repeat (first | exact List.mem_cons_self .. | apply List.mem_cons_of_mem))) (((RelH.nil.snoc (hd := ⟨some ⟨b_27, 0, none⟩, 2, 2⟩) (Sl.lit ([3, 7] : List Int) rfl encI_len (show _ = some (Obj.cells (([3, 7] : List Int).flatMap encI).toArray 3 (0, 0)) from hall1 _ _ (by repeat (first | exact List.mem_cons_self .. | apply List.mem_cons_of_mem))))).snoc (hd := ⟨some ⟨b_28, 0, none⟩, 2, 2⟩) (Sl.lit ([5, 7] : List Int) rfl encI_len (show _ = some (Obj.cells (([5, 7] : List Int).flatMap encI).toArray 3 (0, 0)) from hall1 _ _ (by repeat (first | exact List.mem_cons_self .. | apply List.mem_cons_of_mem))))).snoc (hd := ⟨some ⟨b_29, 0, none⟩, 2, 2⟩) (Sl.lit ([6, 7] : List Int) rfl encI_len (show _ = some (Obj.cells (([6, 7] : List Int).flatMap encI).toArray 3 (0, 0)) from hall1 _ _ (by repeat (first | exact List.mem_cons_self .. | apply List.mem_cons_of_mem)))))
  refine XO_callM (cap := []) (vs := [_]) rfl rfl fun_15 .nil (s_all3) rfl rfl ?_
  rintro vv2 I2 L2 hI2 ⟨rfl, a2, c2, rfl, hAl3⟩
  have hDb := hDb.mono hI2
  have hT3 := hT3.mono hI2
  have hIc := hIc.trans hI2
  refine XO_v0 (ev_move rfl) rfl rfl rfl ?_
  refine XO_v0 (ev_extract rfl rfl) rfl rfl rfl ?_
  refine XO_v0 (ev_extract rfl rfl) rfl rfl rfl ?_
  refine XO_v0 (ev_assign rfl) rfl rfl rfl ?_
  refine XO_v0 (ev_assign rfl) rfl rfl rfl ?_
  refine XO_nil ?_
  refine at_then ?_
  refine X_seq ?_
  refine X_region ?_
  refine XO_callM (cap := []) (vs := [_]) rfl rfl fun_15 .nil (s_all6) rfl rfl ?_
  rintro vv3 I3 L3 hI3 ⟨rfl, a3, c3, rfl⟩
  have hDb := hDb.mono hI3
  have hT3 := hT3.mono hI3
  have hAl3 := hAl3.mono hI3
  have hIc := hIc.trans hI3
  refine XO_v0 (ev_move rfl) rfl rfl rfl ?_
  refine XO_v0 (ev_extract rfl rfl) rfl rfl rfl ?_
  refine XO_v0 (ev_extract rfl rfl) rfl rfl rfl ?_
  refine XO_v0 (ev_assign rfl) rfl rfl rfl ?_
  refine XO_v0 (ev_assign rfl) rfl rfl rfl ?_
  refine XO_nil ?_
  refine at_then ?_
  refine X_seq ?_
  refine X_region ?_
  refine XO_buildSlice (ps := [(0, _), (1, _)]) (m := [encI 3, encI 7]) elt_22 rfl (.cons rfl (.cons rfl (.nil))) rfl (by simp [encI_len, encH_len]) (by decide) (by decide) rfl rfl (fun b_40 => ?_)
  refine XO_freezeAll (fun I4 hI4 hall4 => ?_)
  have hDb := hDb.mono hI4
  have hT3 := hT3.mono hI4
  have hAl3 := hAl3.mono hI4
  have hIc := hIc.trans hI4
  have hP1 : Sl I4 1 encI (some ⟨b_40, 0, none⟩) 2 2 [3, 7] := (Sl.lit ([3, 7] : List Int) rfl encI_len (show _ = some (Obj.cells (([3, 7] : List Int).flatMap encI).toArray 3 (0, 0)) from hall4 _ _ (by repeat (first | exact List.mem_cons_self .. | apply List.mem_cons_of_mem))))
  refine XO_callV0 (cap := []) (vs := [_, _, _]) rfl rfl fun_11 (s_parts1 hP1) rfl rfl ?_
  refine XO_v0 (ev_move rfl) rfl rfl rfl ?_
  refine XO_v0 (ev_extract rfl rfl) rfl rfl rfl ?_
  refine XO_v0 (ev_extract rfl rfl) rfl rfl rfl ?_
  refine XO_v0 (ev_extract rfl rfl) rfl rfl rfl ?_
  refine XO_v0 (ev_assign rfl) rfl rfl rfl ?_
  refine XO_v0 (ev_assign rfl) rfl rfl rfl ?_
  refine XO_v0 (ev_assign rfl) rfl rfl rfl ?_
  refine XO_nil ?_
  refine at_then ?_
  refine X_seq ?_
  refine X_region ?_
  refine XO_buildSlice (ps := [(0, _), (1, _)]) (m := [encI 3, encI 7]) elt_22 rfl (.cons rfl (.cons rfl (.nil))) rfl (by simp [encI_len, encH_len]) (by decide) (by decide) rfl rfl (fun b_46 => ?_)
  refine XO_freezeAll (fun I5 hI5 hall5 => ?_)
  have hDb := hDb.mono hI5
  have hT3 := hT3.mono hI5
  have hAl3 := hAl3.mono hI5
  have hIc := hIc.trans hI5
  have hP2 : Sl I5 1 encI (some ⟨b_46, 0, none⟩) 2 2 [3, 7] := (Sl.lit ([3, 7] : List Int) rfl encI_len (show _ = some (Obj.cells (([3, 7] : List Int).flatMap encI).toArray 3 (0, 0)) from hall5 _ _ (by repeat (first | exact List.mem_cons_self .. | apply List.mem_cons_of_mem))))
  refine XO_callV0 (cap := []) (vs := [_, _, _]) rfl rfl fun_11 (s_parts2 hP2) rfl rfl ?_
  refine XO_v0 (ev_move rfl) rfl rfl rfl ?_
  refine XO_v0 (ev_extract rfl rfl) rfl rfl rfl ?_
  refine XO_v0 (ev_extract rfl rfl) rfl rfl rfl ?_
  refine XO_v0 (ev_extract rfl rfl) rfl rfl rfl ?_
  refine XO_v0 (ev_assign rfl) rfl rfl rfl ?_
  refine XO_v0 (ev_assign rfl) rfl rfl rfl ?_
  refine XO_v0 (ev_assign rfl) rfl rfl rfl ?_
  refine XO_nil ?_
  refine at_then ?_
  refine X_seq ?_
  refine X_region ?_
  refine XO_buildSlice (ps := [(0, _)]) (m := [encI 5]) elt_22 rfl (.cons rfl (.nil)) rfl (by simp [encI_len, encH_len]) (by decide) (by decide) rfl rfl (fun b_52 => ?_)
  refine XO_buildSlice (ps := [(0, _)]) (m := [encI 5]) elt_22 rfl (.cons rfl (.nil)) rfl (by simp [encI_len, encH_len]) (by decide) (by decide) rfl rfl (fun b_53 => ?_)
  refine XO_buildSlice (ps := [(0, _)]) (m := [encI 9]) elt_22 rfl (.cons rfl (.nil)) rfl (by simp [encI_len, encH_len]) (by decide) (by decide) rfl rfl (fun b_54 => ?_)
  refine XO_buildSlice (ps := [(0, _), (1, _), (2, _)]) (m := [encH ⟨some ⟨b_52, 0, none⟩, 1, 1⟩, encH ⟨some ⟨b_53, 0, none⟩, 1, 1⟩, encH ⟨some ⟨b_54, 0, none⟩, 1, 1⟩]) elt_28 rfl (.cons rfl (.cons rfl (.cons rfl (.nil)))) rfl (by simp [encI_len, encH_len]) (by decide) (by decide) rfl rfl (fun b_55 => ?_)
  refine XO_buildSlice (ps := [(0, _), (1, _)]) (m := [encI 6, encI 7]) elt_22 rfl (.cons rfl (.cons rfl (.nil))) rfl (by simp [encI_len, encH_len]) (by decide) (by decide) rfl rfl (fun b_56 => ?_)
  refine XO_freezeAll (fun I6 hI6 hall6 => ?_)
  have hDb := hDb.mono hI6
  have hT3 := hT3.mono hI6
  have hAl3 := hAl3.mono hI6
  have hIc := hIc.trans hI6
  have hV1 : SlN I6 (some ⟨b_55, 0, none⟩) 3 3 [[5], [5], [9]] := lit_rows (vss := [[5], [5], [9]]) ([⟨some ⟨b_52, 0, none⟩, 1, 1⟩, ⟨some ⟨b_53, 0, none⟩, 1, 1⟩, ⟨some ⟨b_54, 0, none⟩, 1, 1⟩] : List Hd) rfl (show _ = some (Obj.cells (([⟨some ⟨b_52, 0, none⟩, 1, 1⟩, ⟨some ⟨b_53, 0, none⟩, 1, 1⟩, ⟨some ⟨b_54, 0, none⟩, 1, 1⟩] : List Hd).flatMap encH).toArray 22 (0, 0)) from hall6 _ _ (by repeat (first | exact List.mem_cons_self .. | apply List.mem_cons_of_mem))) (((RelH.nil.snoc (hd := ⟨some ⟨b_52, 0, none⟩, 1, 1⟩) (Sl.lit ([5] : List Int) rfl encI_len (show _ = some (Obj.cells (([5] : List Int).flatMap encI).toArray 3 (0, 0)) from hall6 _ _ (by repeat (first | exact List.mem_cons_self .. | apply List.mem_cons_of_mem))))).snoc (hd := ⟨some ⟨b_53, 0, none⟩, 1, 1⟩) (Sl.lit ([5] : List Int) rfl encI_len (show _ = some (Obj.cells (([5] : List Int).flatMap encI).toArray 3 (0, 0)) from hall6 _ _ (by repeat (first | exact List.mem_cons_self .. | apply List.mem_cons_of_mem))))).snoc (hd := ⟨some ⟨b_54, 0, none⟩, 1, 1⟩) (Sl.lit ([9] : List Int) rfl encI_len (show _ = some (Obj.cells (([9] : List Int).flatMap encI).toArray 3 (0, 0)) from hall6 _ _ (by repeat (first | exact List.mem_cons_self .. | apply List.mem_cons_of_mem)))))
  have hC1 : Sl I6 1 encI (some ⟨b_56, 0, none⟩) 2 2 [6, 7] := (Sl.lit ([6, 7] : List Int) rfl encI_len (show _ = some (Obj.cells (([6, 7] : List Int).flatMap encI).toArray 3 (0, 0)) from hall6 _ _ (by repeat (first | exact List.mem_cons_self .. | apply List.mem_cons_of_mem))))
  refine XO_callV0 (cap := []) (vs := [_, _]) rfl rfl fun_19 (s_cost1 hV1 hC1 hDb) rfl rfl ?_
  refine XO_v0 (ev_move rfl) rfl rfl rfl ?_
  refine XO_v0 (ev_extract rfl rfl) rfl rfl rfl ?_
  refine XO_v0 (ev_extract rfl rfl) rfl rfl rfl ?_
  refine XO_v0 (ev_assign rfl) rfl rfl rfl ?_
  refine XO_v0 (ev_assign rfl) rfl rfl rfl ?_
  refine XO_nil ?_
  refine at_then ?_
  refine X_seq ?_
  refine X_region ?_
  refine XO_buildSlice (ps := [(0, _), (1, _)]) (m := [encI 5, encI 8]) elt_22 rfl (.cons rfl (.cons rfl (.nil))) rfl (by simp [encI_len, encH_len]) (by decide) (by decide) rfl rfl (fun b_61 => ?_)
  refine XO_buildSlice (ps := [(0, _), (1, _)]) (m := [encI 5, encI 4]) elt_22 rfl (.cons rfl (.cons rfl (.nil))) rfl (by simp [encI_len, encH_len]) (by decide) (by decide) rfl rfl (fun b_62 => ?_)
  refine XO_buildSlice (ps := [(0, _), (1, _)]) (m := [encI 9, encI 4]) elt_22 rfl (.cons rfl (.cons rfl (.nil))) rfl (by simp [encI_len, encH_len]) (by decide) (by decide) rfl rfl (fun b_63 => ?_)
  refine XO_buildSlice (ps := [(0, _), (1, _), (2, _)]) (m := [encH ⟨some ⟨b_61, 0, none⟩, 2, 2⟩, encH ⟨some ⟨b_62, 0, none⟩, 2, 2⟩, encH ⟨some ⟨b_63, 0, none⟩, 2, 2⟩]) elt_28 rfl (.cons rfl (.cons rfl (.cons rfl (.nil)))) rfl (by simp [encI_len, encH_len]) (by decide) (by decide) rfl rfl (fun b_64 => ?_)
  refine XO_freezeAll (fun I7 hI7 hall7 => ?_)
  have hDb := hDb.mono hI7
  have hT3 := hT3.mono hI7
  have hAl3 := hAl3.mono hI7
  have hIc := hIc.trans hI7
  have hB1 : SlN I7 (some ⟨b_64, 0, none⟩) 3 3 [[5, 8], [5, 4], [9, 4]] := lit_rows (vss := [[5, 8], [5, 4], [9, 4]]) ([⟨some ⟨b_61, 0, none⟩, 2, 2⟩, ⟨some ⟨b_62, 0, none⟩, 2, 2⟩, ⟨some ⟨b_63, 0, none⟩, 2, 2⟩] : List Hd) rfl (show _ = some (Obj.cells (([⟨some ⟨b_61, 0, none⟩, 2, 2⟩, ⟨some ⟨b_62, 0, none⟩, 2, 2⟩, ⟨some ⟨b_63, 0, none⟩, 2, 2⟩] : List Hd).flatMap encH).toArray 22 (0, 0)) from hall7 _ _ (by repeat (first | exact List.mem_cons_self .. | apply List.mem_cons_of_mem))) (((RelH.nil.snoc (hd := ⟨some ⟨b_61, 0, none⟩, 2, 2⟩) (Sl.lit ([5, 8] : List Int) rfl encI_len (show _ = some (Obj.cells (([5, 8] : List Int).flatMap encI).toArray 3 (0, 0)) from hall7 _ _ (by repeat (first | exact List.mem_cons_self .. | apply List.mem_cons_of_mem))))).snoc (hd := ⟨some ⟨b_62, 0, none⟩, 2, 2⟩) (Sl.lit ([5, 4] : List Int) rfl encI_len (show _ = some (Obj.cells (([5, 4] : List Int).flatMap encI).toArray 3 (0, 0)) from hall7 _ _ (by repeat (first | exact List.mem_cons_self .. | apply List.mem_cons_of_mem))))).snoc (hd := ⟨some ⟨b_63, 0, none⟩, 2, 2⟩) (Sl.lit ([9, 4] : List Int) rfl encI_len (show _ = some (Obj.cells (([9, 4] : List Int).flatMap encI).toArray 3 (0, 0)) from hall7 _ _ (by repeat (first | exact List.mem_cons_self .. | apply List.mem_cons_of_mem)))))
  refine XO_callM (cap := []) (vs := [_]) rfl rfl fun_21 .nil (s_best1 hB1 hDb) rfl rfl ?_
  rintro vv8 I8 L8 hI8 ⟨rfl, a8, c8, rfl, hBb1⟩
  have hDb := hDb.mono hI8
  have hT3 := hT3.mono hI8
  have hAl3 := hAl3.mono hI8
  have hIc := hIc.trans hI8
  refine XO_v0 (ev_move rfl) rfl rfl rfl ?_
  refine XO_v0 (ev_extract rfl rfl) rfl rfl rfl ?_
  refine XO_v0 (ev_extract rfl rfl) rfl rfl rfl ?_
  refine XO_v0 (ev_extract rfl rfl) rfl rfl rfl ?_
  refine XO_v0 (ev_assign rfl) rfl rfl rfl ?_
  refine XO_v0 (ev_assign rfl) rfl rfl rfl ?_
  refine XO_v0 (ev_assign rfl) rfl rfl rfl ?_
  refine XO_nil ?_
  refine at_then ?_
  refine X_seq ?_
  refine X_region ?_
  refine XO_buildSlice (ps := [(0, _)]) (m := [encI 7]) elt_22 rfl (.cons rfl (.nil)) rfl (by simp [encI_len, encH_len]) (by decide) (by decide) rfl rfl (fun b_70 => ?_)
  refine XO_buildSlice (ps := [(0, _)]) (m := [encH ⟨some ⟨b_70, 0, none⟩, 1, 1⟩]) elt_28 rfl (.cons rfl (.nil)) rfl (by simp [encI_len, encH_len]) (by decide) (by decide) rfl rfl (fun b_71 => ?_)
  refine XO_freezeAll (fun I9 hI9 hall9 => ?_)
  have hDb := hDb.mono hI9
  have hT3 := hT3.mono hI9
  have hAl3 := hAl3.mono hI9
  have hBb1 := hBb1.mono hI9
  have hIc := hIc.trans hI9
  have hB2 : SlN I9 (some ⟨b_71, 0, none⟩) 1 1 [[7]] := lit_rows (vss := [[7]]) ([⟨some ⟨b_70, 0, none⟩, 1, 1⟩] : List Hd) rfl (show _ = some (Obj.cells (([⟨some ⟨b_70, 0, none⟩, 1, 1⟩] : List Hd).flatMap encH).toArray 22 (0, 0)) from hall9 _ _ (by repeat (first | exact List.mem_cons_self .. | apply List.mem_cons_of_mem))) (RelH.nil.snoc (hd := ⟨some ⟨b_70, 0, none⟩, 1, 1⟩) (Sl.lit ([7] : List Int) rfl encI_len (show _ = some (Obj.cells (([7] : List Int).flatMap encI).toArray 3 (0, 0)) from hall9 _ _ (by repeat (first | exact List.mem_cons_self .. | apply List.mem_cons_of_mem)))))
  refine XO_callM (cap := []) (vs := [_]) rfl rfl fun_21 .nil (s_best2 hB2 hDb) rfl rfl ?_
  rintro vv10 I10 L10 hI10 ⟨rfl, a10, c10, rfl, hBb2⟩
  have hDb := hDb.mono hI10
  have hT3 := hT3.mono hI10
  have hAl3 := hAl3.mono hI10
  have hBb1 := hBb1.mono hI10
  have hIc := hIc.trans hI10
  refine XO_v0 (ev_move rfl) rfl rfl rfl ?_
  refine XO_v0 (ev_extract rfl rfl) rfl rfl rfl ?_
  refine XO_v0 (ev_extract rfl rfl) rfl rfl rfl ?_
  refine XO_v0 (ev_extract rfl rfl) rfl rfl rfl ?_
  refine XO_v0 (ev_assign rfl) rfl rfl rfl ?_
  refine XO_v0 (ev_assign rfl) rfl rfl rfl ?_
  refine XO_v0 (ev_assign rfl) rfl rfl rfl ?_
  refine XO_nil ?_
  refine at_then ?_
  refine X_seq ?_
  refine X_region ?_
  refine XO_callM (cap := []) (vs := [_]) rfl rfl fun_21 .nil (s_best3 SlN.none hDb) rfl rfl ?_
  rintro vv11 I11 L11 hI11 ⟨rfl, a11, c11, rfl, _⟩
  have hDb := hDb.mono hI11
  have hT3 := hT3.mono hI11
  have hAl3 := hAl3.mono hI11
  have hBb1 := hBb1.mono hI11
  have hBb2 := hBb2.mono hI11
  have hIc := hIc.trans hI11
  refine XO_v0 (ev_move rfl) rfl rfl rfl ?_
  refine XO_v0 (ev_extract rfl rfl) rfl rfl rfl ?_
  refine XO_v0 (ev_extract rfl rfl) rfl rfl rfl ?_
  refine XO_v0 (ev_extract rfl rfl) rfl rfl rfl ?_
  refine XO_v0 (ev_assign rfl) rfl rfl rfl ?_
  refine XO_v0 (ev_assign rfl) rfl rfl rfl ?_
  refine XO_v0 (ev_assign rfl) rfl rfl rfl ?_
  refine XO_nil ?_
  refine at_then ?_
  refine X_seq ?_
  refine X_region ?_
  refine XO_buildSlice (ps := [(0, _)]) (m := [encI 0]) elt_22 rfl (.cons rfl (.nil)) rfl (by simp [encI_len, encH_len]) (by decide) (by decide) rfl rfl (fun b_82 => ?_)
  refine XO_buildSlice (ps := [(0, _)]) (m := [encI 0]) elt_22 rfl (.cons rfl (.nil)) rfl (by simp [encI_len, encH_len]) (by decide) (by decide) rfl rfl (fun b_83 => ?_)
  refine XO_buildSlice (ps := [(0, _)]) (m := [encI 9]) elt_22 rfl (.cons rfl (.nil)) rfl (by simp [encI_len, encH_len]) (by decide) (by decide) rfl rfl (fun b_84 => ?_)
  refine XO_buildSlice (ps := [(0, _), (1, _), (2, _)]) (m := [encH ⟨some ⟨b_82, 0, none⟩, 1, 1⟩, encH ⟨some ⟨b_83, 0, none⟩, 1, 1⟩, encH ⟨some ⟨b_84, 0, none⟩, 1, 1⟩]) elt_28 rfl (.cons rfl (.cons rfl (.cons rfl (.nil)))) rfl (by simp [encI_len, encH_len]) (by decide) (by decide) rfl rfl (fun b_85 => ?_)
  refine XO_buildSlice (ps := [(0, _), (1, _)]) (m := [encI 3, encI 7]) elt_22 rfl (.cons rfl (.cons rfl (.nil))) rfl (by simp [encI_len, encH_len]) (by decide) (by decide) rfl rfl (fun b_86 => ?_)
  refine XO_freezeAll (fun I12 hI12 hall12 => ?_)
  have hDb := hDb.mono hI12
  have hT3 := hT3.mono hI12
  have hAl3 := hAl3.mono hI12
  have hBb1 := hBb1.mono hI12
  have hBb2 := hBb2.mono hI12
  have hIc := hIc.trans hI12
  have hV2 : SlN I12 (some ⟨b_85, 0, none⟩) 3 3 [[0], [0], [9]] := lit_rows (vss := [[0], [0], [9]]) ([⟨some ⟨b_82, 0, none⟩, 1, 1⟩, ⟨some ⟨b_83, 0, none⟩, 1, 1⟩, ⟨some ⟨b_84, 0, none⟩, 1, 1⟩] : List Hd) rfl (show _ = some (Obj.cells (([⟨some ⟨b_82, 0, none⟩, 1, 1⟩, ⟨some ⟨b_83, 0, none⟩, 1, 1⟩, ⟨some ⟨b_84, 0, none⟩, 1, 1⟩] : List Hd).flatMap encH).toArray 22 (0, 0)) from hall12 _ _ (by repeat (first | exact List.mem_cons_self .. | apply List.mem_cons_of_mem))) (((RelH.nil.snoc (hd := ⟨some ⟨b_82, 0, none⟩, 1, 1⟩) (Sl.lit ([0] : List Int) rfl encI_len (show _ = some (Obj.cells (([0] : List Int).flatMap encI).toArray 3 (0, 0)) from hall12 _ _ (by repeat (first | exact List.mem_cons_self .. | apply List.mem_cons_of_mem))))).snoc (hd := ⟨some ⟨b_83, 0, none⟩, 1, 1⟩) (Sl.lit ([0] : List Int) rfl encI_len (show _ = some (Obj.cells (([0] : List Int).flatMap encI).toArray 3 (0, 0)) from hall12 _ _ (by repeat (first | exact List.mem_cons_self .. | apply List.mem_cons_of_mem))))).snoc (hd := ⟨some ⟨b_84, 0, none⟩, 1, 1⟩) (Sl.lit ([9] : List Int) rfl encI_len (show _ = some (Obj.cells (([9] : List Int).flatMap encI).toArray 3 (0, 0)) from hall12 _ _ (by repeat (first | exact List.mem_cons_self .. | apply List.mem_cons_of_mem)))))
  have hC2 : Sl I12 1 encI (some ⟨b_86, 0, none⟩) 2 2 [3, 7] := (Sl.lit ([3, 7] : List Int) rfl encI_len (show _ = some (Obj.cells (([3, 7] : List Int).flatMap encI).toArray 3 (0, 0)) from hall12 _ _ (by repeat (first | exact List.mem_cons_self .. | apply List.mem_cons_of_mem))))
  refine XO_callV0 (cap := []) (vs := [_, _]) rfl rfl fun_19 (s_cost2 hV2 hC2 hDb) rfl rfl ?_
  refine XO_v0 (ev_move rfl) rfl rfl rfl ?_
  refine XO_v0 (ev_extract rfl rfl) rfl rfl rfl ?_
  refine XO_v0 (ev_extract rfl rfl) rfl rfl rfl ?_
  refine XO_v0 (ev_assign rfl) rfl rfl rfl ?_
  refine XO_v0 (ev_assign rfl) rfl rfl rfl ?_
  refine XO_nil ?_
  refine at_then ?_
  refine X_seq ?_
  refine X_region ?_
  refine XO_buildSlice (ps := [(0, _)]) (m := [encI 8589934592]) elt_22 rfl (.cons rfl (.nil)) rfl (by simp [encI_len, encH_len]) (by decide) (by decide) rfl rfl (fun b_91 => ?_)
  refine XO_buildSlice (ps := [(0, _)]) (m := [encI 5]) elt_22 rfl (.cons rfl (.nil)) rfl (by simp [encI_len, encH_len]) (by decide) (by decide) rfl rfl (fun b_92 => ?_)
  refine XO_buildSlice (ps := [(0, _)]) (m := [encI 5]) elt_22 rfl (.cons rfl (.nil)) rfl (by simp [encI_len, encH_len]) (by decide) (by decide) rfl rfl (fun b_93 => ?_)
  refine XO_buildSlice (ps := [(0, _), (1, _), (2, _)]) (m := [encH ⟨some ⟨b_91, 0, none⟩, 1, 1⟩, encH ⟨some ⟨b_92, 0, none⟩, 1, 1⟩, encH ⟨some ⟨b_93, 0, none⟩, 1, 1⟩]) elt_28 rfl (.cons rfl (.cons rfl (.cons rfl (.nil)))) rfl (by simp [encI_len, encH_len]) (by decide) (by decide) rfl rfl (fun b_94 => ?_)
  refine XO_buildSlice (ps := [(0, _), (1, _)]) (m := [encI 3, encI 7]) elt_22 rfl (.cons rfl (.cons rfl (.nil))) rfl (by simp [encI_len, encH_len]) (by decide) (by decide) rfl rfl (fun b_95 => ?_)
  refine XO_freezeAll (fun I13 hI13 hall13 => ?_)
  have hDb := hDb.mono hI13
  have hT3 := hT3.mono hI13
  have hAl3 := hAl3.mono hI13
  have hBb1 := hBb1.mono hI13
  have hBb2 := hBb2.mono hI13
  have hIc := hIc.trans hI13
  have hV3 : SlN I13 (some ⟨b_94, 0, none⟩) 3 3 [[8589934592], [5], [5]] := lit_rows (vss := [[8589934592], [5], [5]]) ([⟨some ⟨b_91, 0, none⟩, 1, 1⟩, ⟨some ⟨b_92, 0, none⟩, 1, 1⟩, ⟨some ⟨b_93, 0, none⟩, 1, 1⟩] : List Hd) rfl (show _ = some (Obj.cells (([⟨some ⟨b_91, 0, none⟩, 1, 1⟩, ⟨some ⟨b_92, 0, none⟩, 1, 1⟩, ⟨some ⟨b_93, 0, none⟩, 1, 1⟩] : List Hd).flatMap encH).toArray 22 (0, 0)) from hall13 _ _ (by repeat (first | exact List.mem_cons_self .. | apply List.mem_cons_of_mem))) (((RelH.nil.snoc (hd := ⟨some ⟨b_91, 0, none⟩, 1, 1⟩) (Sl.lit ([8589934592] : List Int) rfl encI_len (show _ = some (Obj.cells (([8589934592] : List Int).flatMap encI).toArray 3 (0, 0)) from hall13 _ _ (by repeat (first | exact List.mem_cons_self .. | apply List.mem_cons_of_mem))))).snoc (hd := ⟨some ⟨b_92, 0, none⟩, 1, 1⟩) (Sl.lit ([5] : List Int) rfl encI_len (show _ = some (Obj.cells (([5] : List Int).flatMap encI).toArray 3 (0, 0)) from hall13 _ _ (by repeat (first | exact List.mem_cons_self .. | apply List.mem_cons_of_mem))))).snoc (hd := ⟨some ⟨b_93, 0, none⟩, 1, 1⟩) (Sl.lit ([5] : List Int) rfl encI_len (show _ = some (Obj.cells (([5] : List Int).flatMap encI).toArray 3 (0, 0)) from hall13 _ _ (by repeat (first | exact List.mem_cons_self .. | apply List.mem_cons_of_mem)))))
  have hC3 : Sl I13 1 encI (some ⟨b_95, 0, none⟩) 2 2 [3, 7] := (Sl.lit ([3, 7] : List Int) rfl encI_len (show _ = some (Obj.cells (([3, 7] : List Int).flatMap encI).toArray 3 (0, 0)) from hall13 _ _ (by repeat (first | exact List.mem_cons_self .. | apply List.mem_cons_of_mem))))
  refine XO_callV0 (cap := []) (vs := [_, _]) rfl rfl fun_19 (s_cost3 hV3 hC3 hDb) rfl rfl ?_
  refine XO_v0 (ev_move rfl) rfl rfl rfl ?_
  refine XO_v0 (ev_extract rfl rfl) rfl rfl rfl ?_
  refine XO_v0 (ev_extract rfl rfl) rfl rfl rfl ?_
  refine XO_v0 (ev_assign rfl) rfl rfl rfl ?_
  refine XO_v0 (ev_assign rfl) rfl rfl rfl ?_
  refine XO_nil ?_
  refine at_then ?_
  refine X_seq ?_
  refine X_seq ?_
  refine X_region ?_
  refine XO_v0 (ev_move rfl) rfl rfl rfl ?_
  refine XO_v0 (ev_cmp rfl rfl rfl) rfl rfl rfl ?_
  refine XO_v0 (ev_move rfl) rfl rfl rfl ?_
  refine XO_want (dj := 101) rfl rfl rfl ?_
  refine XO_v0 (ev_move rfl) rfl rfl rfl ?_
  refine XO_want (dj := 101) rfl rfl rfl ?_
  refine XO_v0 (ev_cmp rfl rfl rfl) rfl rfl rfl ?_
  refine XO_v0 (ev_pickb rfl rfl rfl) rfl rfl rfl ?_
  refine XO_v0 (ev_move rfl) rfl rfl rfl ?_
  refine XO_want (dj := 105) rfl rfl rfl ?_
  refine XO_v0 (ev_move rfl) rfl rfl rfl ?_
  refine XO_want (dj := 105) rfl rfl rfl ?_
  refine XO_v0 (ev_cmp rfl rfl rfl) rfl rfl rfl ?_
  refine XO_v0 (ev_pickb rfl rfl rfl) rfl rfl rfl ?_
  refine XO_v0 (ev_move rfl) rfl rfl rfl ?_
  refine XO_want (dj := 109) rfl rfl rfl ?_
  refine XO_v0 (ev_move rfl) rfl rfl rfl ?_
  refine XO_want (dj := 109) rfl rfl rfl ?_
  refine XO_v0 (ev_cmp rfl rfl rfl) rfl rfl rfl ?_
  refine XO_v0 (ev_pickb rfl rfl rfl) rfl rfl rfl ?_
  refine XO_v0 (ev_move rfl) rfl rfl rfl ?_
  refine XO_want (dj := 113) rfl rfl rfl ?_
  refine XO_v0 (ev_move rfl) rfl rfl rfl ?_
  refine XO_want (dj := 113) rfl rfl rfl ?_
  refine XO_v0 (ev_cmp rfl rfl rfl) rfl rfl rfl ?_
  refine XO_v0 (ev_pickb rfl rfl rfl) rfl rfl rfl ?_
  refine XO_v0 (ev_move rfl) rfl rfl rfl ?_
  refine XO_want (dj := 117) rfl rfl rfl ?_
  refine XO_v0 (ev_move rfl) rfl rfl rfl ?_
  refine XO_want (dj := 117) rfl rfl rfl ?_
  refine XO_v0 (ev_cmp rfl rfl rfl) rfl rfl rfl ?_
  refine XO_v0 (ev_pickb rfl rfl rfl) rfl rfl rfl ?_
  refine XO_v0 (ev_move rfl) rfl rfl rfl ?_
  refine XO_want (dj := 121) rfl rfl rfl ?_
  refine XO_v0 (ev_move rfl) rfl rfl rfl ?_
  refine XO_want (dj := 121) rfl rfl rfl ?_
  refine XO_v0 (ev_cmp rfl rfl rfl) rfl rfl rfl ?_
  refine XO_v0 (ev_pickb rfl rfl rfl) rfl rfl rfl ?_
  refine XO_v0 (ev_move rfl) rfl rfl rfl ?_
  refine XO_want (dj := 125) rfl rfl rfl ?_
  refine XO_v0 (ev_move rfl) rfl rfl rfl ?_
  refine XO_want (dj := 125) rfl rfl rfl ?_
  refine XO_v0 (ev_cmp rfl rfl rfl) rfl rfl rfl ?_
  refine XO_v0 (ev_pickb rfl rfl rfl) rfl rfl rfl ?_
  refine XO_v0 (ev_move rfl) rfl rfl rfl ?_
  refine XO_want (dj := 129) rfl rfl rfl ?_
  refine XO_v0 (ev_move rfl) rfl rfl rfl ?_
  refine XO_want (dj := 129) rfl rfl rfl ?_
  refine XO_v0 (ev_cmp rfl rfl rfl) rfl rfl rfl ?_
  refine XO_v0 (ev_pickb rfl rfl rfl) rfl rfl rfl ?_
  refine XO_v0 (ev_move rfl) rfl rfl rfl ?_
  refine XO_want (dj := 133) rfl rfl rfl ?_
  refine XO_v0 (ev_move rfl) rfl rfl rfl ?_
  refine XO_want (dj := 133) rfl rfl rfl ?_
  refine XO_v0 (ev_cmp rfl rfl rfl) rfl rfl rfl ?_
  refine XO_v0 (ev_pickb rfl rfl rfl) rfl rfl rfl ?_
  refine XO_nil ?_
  refine at_then ?_
  refine X_cond rfl (fun hc136 => ?_) (fun hc136 => ?_)
  · skip
    exact absurd hc136 (by decide)
  · skip
    refine X_skip ?_
    refine at_then ?_
    refine X_seq ?_
    refine X_seq ?_
    refine X_region ?_
    refine XO_callV0 (cap := []) (vs := [_, _]) rfl rfl fun_13 (s_chk1 Sl.nil) rfl rfl ?_
    refine XO_v0 (ev_cmp rfl rfl rfl) rfl rfl rfl ?_
    refine XO_v0 (ev_move rfl) rfl rfl rfl ?_
    refine XO_want (dj := 139) rfl rfl rfl ?_
    refine XO_callV0 (cap := []) (vs := [_, _]) rfl rfl fun_13 (s_chk2 Sl.nil) rfl rfl ?_
    refine XO_want (dj := 139) rfl rfl rfl ?_
    refine XO_v0 (ev_cmp rfl rfl rfl) rfl rfl rfl ?_
    refine XO_v0 (ev_pickb rfl rfl rfl) rfl rfl rfl ?_
    refine XO_v0 (ev_move rfl) rfl rfl rfl ?_
    refine XO_want (dj := 143) rfl rfl rfl ?_
    refine XO_callV0 (cap := []) (vs := [_, _]) rfl rfl fun_13 (s_chk3 Sl.nil) rfl rfl ?_
    refine XO_want (dj := 143) rfl rfl rfl ?_
    refine XO_v0 (ev_cmp rfl rfl rfl) rfl rfl rfl ?_
    refine XO_v0 (ev_pickb rfl rfl rfl) rfl rfl rfl ?_
    refine XO_v0 (ev_move rfl) rfl rfl rfl ?_
    refine XO_want (dj := 147) rfl rfl rfl ?_
    refine XO_buildSlice (ps := [(0, _), (1, _)]) (m := [encI 4, encI 7]) elt_22 rfl (.cons rfl (.cons rfl (.nil))) rfl (by simp [encI_len, encH_len]) (by decide) (by decide) rfl rfl (fun b_148 => ?_)
    refine XO_freezeAll (fun I14 hI14 hall14 => ?_)
    have hDb := hDb.mono hI14
    have hT3 := hT3.mono hI14
    have hAl3 := hAl3.mono hI14
    have hBb1 := hBb1.mono hI14
    have hBb2 := hBb2.mono hI14
    have hIc := hIc.trans hI14
    have hC4 : Sl I14 1 encI (some ⟨b_148, 0, none⟩) 2 2 [4, 7] := (Sl.lit ([4, 7] : List Int) rfl encI_len (show _ = some (Obj.cells (([4, 7] : List Int).flatMap encI).toArray 3 (0, 0)) from hall14 _ _ (by repeat (first | exact List.mem_cons_self .. | apply List.mem_cons_of_mem))))
    refine XO_want (dj := 147) rfl rfl rfl ?_
    refine XO_callV0 (cap := []) (vs := [_, _]) rfl rfl fun_13 (s_chk4 hC4) rfl rfl ?_
    refine XO_want (dj := 147) rfl rfl rfl ?_
    refine XO_v0 (ev_cmp rfl rfl rfl) rfl rfl rfl ?_
    refine XO_v0 (ev_pickb rfl rfl rfl) rfl rfl rfl ?_
    refine XO_nil ?_
    refine at_then ?_
    refine X_cond rfl (fun hc151 => ?_) (fun hc151 => ?_)
    · skip
      exact absurd hc151 (by decide)
    · skip
      refine X_skip ?_
      refine at_then ?_
      refine X_seq ?_
      refine X_region ?_
      refine XO_v0 (ev_move rfl) rfl rfl rfl ?_
      refine XO_v0 (ev_move rfl) rfl rfl rfl ?_
      refine XO_callV0 (cap := []) (vs := [_, _]) rfl rfl fun_17 (s_same hAl3 hT3 (by decide) (by decide)) rfl rfl ?_
      refine XO_v0 (ev_move rfl) rfl rfl rfl ?_
      refine XO_want (dj := 155) rfl rfl rfl ?_
      refine XO_v0 (ev_move rfl) rfl rfl rfl ?_
      refine XO_want (dj := 155) rfl rfl rfl ?_
      refine XO_v0 (ev_lenS rfl slt_28) rfl rfl rfl ?_
      refine XO_want (dj := 155) rfl rfl rfl ?_
      refine XO_v0 (ev_cmp rfl rfl rfl) rfl rfl rfl ?_
      refine XO_v0 (ev_pickb rfl rfl rfl) rfl rfl rfl ?_
      refine XO_v0 (ev_move rfl) rfl rfl rfl ?_
      refine XO_want (dj := 160) rfl rfl rfl ?_
      refine XO_v0 (ev_move rfl) rfl rfl rfl ?_
      refine XO_want (dj := 160) rfl rfl rfl ?_
      refine XO_v0 (ev_cmp rfl rfl rfl) rfl rfl rfl ?_
      refine XO_v0 (ev_pickb rfl rfl rfl) rfl rfl rfl ?_
      refine XO_v0 (ev_move rfl) rfl rfl rfl ?_
      refine XO_want (dj := 164) rfl rfl rfl ?_
      refine XO_v0 (ev_move rfl) rfl rfl rfl ?_
      refine XO_want (dj := 164) rfl rfl rfl ?_
      refine XO_v0 (ev_cmp rfl rfl rfl) rfl rfl rfl ?_
      refine XO_v0 (ev_pickb rfl rfl rfl) rfl rfl rfl ?_
      refine XO_v0 (ev_move rfl) rfl rfl rfl ?_
      refine XO_want (dj := 168) rfl rfl rfl ?_
      refine XO_v0 (ev_move rfl) rfl rfl rfl ?_
      refine XO_want (dj := 168) rfl rfl rfl ?_
      refine XO_v0 (ev_cmp rfl rfl rfl) rfl rfl rfl ?_
      refine XO_v0 (ev_pickb rfl rfl rfl) rfl rfl rfl ?_
      refine XO_v0 (ev_move rfl) rfl rfl rfl ?_
      refine XO_want (dj := 172) rfl rfl rfl ?_
      refine XO_v0 (ev_move rfl) rfl rfl rfl ?_
      refine XO_want (dj := 172) rfl rfl rfl ?_
      refine XO_v0 (ev_cmp rfl rfl rfl) rfl rfl rfl ?_
      refine XO_v0 (ev_pickb rfl rfl rfl) rfl rfl rfl ?_
      refine XO_v0 (ev_move rfl) rfl rfl rfl ?_
      refine XO_want (dj := 176) rfl rfl rfl ?_
      refine XO_v0 (ev_move rfl) rfl rfl rfl ?_
      refine XO_want (dj := 176) rfl rfl rfl ?_
      refine XO_v0 (ev_move rfl) rfl rfl rfl ?_
      refine XO_want (dj := 176) rfl rfl rfl ?_
      refine XO_callV0 (cap := []) (vs := [_, _]) rfl rfl fun_17 (s_same hBb1 hT3 (by decide) (by decide)) rfl rfl ?_
      refine XO_v0 (ev_pickb rfl rfl rfl) rfl rfl rfl ?_
      refine XO_v0 (ev_move rfl) rfl rfl rfl ?_
      refine XO_want (dj := 181) rfl rfl rfl ?_
      refine XO_v0 (ev_move rfl) rfl rfl rfl ?_
      refine XO_want (dj := 181) rfl rfl rfl ?_
      refine XO_buildSlice (ps := [(0, _)]) (m := [encH ⟨none, 0, 0⟩]) elt_28 rfl (.cons rfl (.nil)) rfl (by simp [encI_len, encH_len]) (by decide) (by decide) rfl rfl (fun b_183 => ?_)
      refine XO_freezeAll (fun I15 hI15 hall15 => ?_)
      have hDb := hDb.mono hI15
      have hT3 := hT3.mono hI15
      have hAl3 := hAl3.mono hI15
      have hBb1 := hBb1.mono hI15
      have hBb2 := hBb2.mono hI15
      have hIc := hIc.trans hI15
      have hT1 : SlN I15 (some ⟨b_183, 0, none⟩) 1 1 [[]] := lit_rows (vss := [[]]) ([⟨none, 0, 0⟩] : List Hd) rfl (show _ = some (Obj.cells (([⟨none, 0, 0⟩] : List Hd).flatMap encH).toArray 22 (0, 0)) from hall15 _ _ (by repeat (first | exact List.mem_cons_self .. | apply List.mem_cons_of_mem))) (RelH.nil.snoc (hd := ⟨none, 0, 0⟩) Sl.nil)
      refine XO_want (dj := 181) rfl rfl rfl ?_
      refine XO_callV0 (cap := []) (vs := [_, _]) rfl rfl fun_17 (s_same hBb2 hT1 (by decide) (by decide)) rfl rfl ?_
      refine XO_v0 (ev_pickb rfl rfl rfl) rfl rfl rfl ?_
      refine XO_v0 (ev_move rfl) rfl rfl rfl ?_
      refine XO_want (dj := 186) rfl rfl rfl ?_
      refine XO_v0 (ev_move rfl) rfl rfl rfl ?_
      refine XO_want (dj := 186) rfl rfl rfl ?_
      refine XO_v0 (ev_cmp rfl rfl rfl) rfl rfl rfl ?_
      refine XO_v0 (ev_pickb rfl rfl rfl) rfl rfl rfl ?_
      refine XO_v0 (ev_move rfl) rfl rfl rfl ?_
      refine XO_want (dj := 190) rfl rfl rfl ?_
      refine XO_v0 (ev_move rfl) rfl rfl rfl ?_
      refine XO_want (dj := 190) rfl rfl rfl ?_
      refine XO_v0 (ev_cmp rfl rfl rfl) rfl rfl rfl ?_
      refine XO_v0 (ev_pickb rfl rfl rfl) rfl rfl rfl ?_
      refine XO_v0 (ev_move rfl) rfl rfl rfl ?_
      refine XO_want (dj := 194) rfl rfl rfl ?_
      refine XO_v0 (ev_move rfl) rfl rfl rfl ?_
      refine XO_want (dj := 194) rfl rfl rfl ?_
      refine XO_v0 (ev_cmp rfl rfl rfl) rfl rfl rfl ?_
      refine XO_v0 (ev_pickb rfl rfl rfl) rfl rfl rfl ?_
      refine XO_v0 (ev_assign rfl) rfl rfl rfl ?_
      refine XO_nil ?_
      refine at_then ?_
      refine X_ret ?_
      exact at_ret1 rfl rfl (fun w hw => ⟨by rfl, (hw.mono hIc).drop⟩)
end Go.Proofs.YtkpmnnflikkhmaaDoor
end
section
namespace Go.Proofs.YtkpmnnflikkhmaaDoor
open Go Go.Kn Go.Proofs
theorem single_no {n : Nat} {cl : List Int} (hc : chkN n cl = 0) {s : Int} (hs : s ∈ cl) : singF s = false := by
  have hle := (chkN_ok hc).2.2.2 s hs
  obtain ⟨a1, a2, a3⟩ := split_spec (chkN_split hc s hs) (Nat.le_refl 1)
  have a3 : splitP cl s (splitR cl s 1) = true := a3
  unfold splitP at a3
  simp only [Bool.and_eq_true] at a3
  generalize splitR cl s 1 = a at a1 a2 a3
  cases h : singF s with
  | false => rfl
  | true =>
    exfalso
    have k1 := a3.1.1.1
    rw [sub_I (by omega) (by omega)] at k1
    have ht : ((List.range 64).all fun s => (List.range 64).all fun a => a == 0 || !(singF (s : Int)) || !(subN a s) || (a == s)) = true := by kernel_rfl
    have h0 := List.all_eq_true.1 ht s.toNat (List.mem_range.2 (by omega))
    have h0 := List.all_eq_true.1 h0 a.toNat (List.mem_range.2 (by omega))
    rw [show ((s.toNat : Nat) : Int) = s by omega, h, k1, show (a.toNat == 0) = false by simp; omega] at h0
    have : a.toNat = s.toNat := by simpa using h0
    omega
theorem parts_both {m : Int} {cl : List Int} {s : Int} : iA m cl s = partsA m cl s ∧ iB m cl s = partsB m cl s := by
  by_cases h : partsE m cl s = 0
  · obtain ⟨e1, e2⟩ := iA_ok h
    obtain ⟨e3, e4⟩ := partsA_ok h
    have hc : chkN m cl = 0 := by
      unfold partsE at h
      by_cases e : chkN m cl = 0
      · exact e
      · rw [if_pos e] at h; exact absurd h e
    have hin : s ∈ cl := by
      unfold partsE at h
      rw [if_neg (fun e => e hc)] at h
      cases e : cl.any (fun c => c == s) with
      | true => simpa using e
      | false => rw [e] at h; simp at h
    obtain ⟨n, rfl⟩ : ∃ n : Nat, m = n := ⟨m.toNat, by have := chkN_ok hc; omega⟩
    obtain ⟨g1, g2, _⟩ := parts_eq hc hin (single_no hc hin)
    rw [e1, e2, e3, e4, g1, g2]
    exact ⟨rfl, rfl⟩
  · obtain ⟨e1, e2⟩ := iA_bad h
    obtain ⟨e3, e4⟩ := partsA_bad h
    rw [e1, e2, e3, e4]
    exact ⟨rfl, rfl⟩
/-- What All answers, for all but six. -/
theorem allq {m : Int} {vss : List (List Int)} (hm : m ≠ 6) (h1 : allE m = 0 → AllOK m vss) (h2 : allE m ≠ 0 → vss = []) : vss = resF (allE m) (allL m) := by
  by_cases h : allE m = 0
  · rw [resF_ok h]
    have hm1 : 1 ≤ m ∧ m ≤ 6 := by
      unfold allE at h
      split at h
      · cases h
      · split at h
        · cases h
        · omega
    obtain ⟨n, rfl⟩ : ∃ n : Nat, m = n := ⟨m.toNat, by omega⟩
    exact allok_5 (by omega) (by omega) (h1 h)
  · rw [resF_bad h, h2 h]
theorem all_few {m : Int} : (resF (allE m) (allL m)).length ≤ 945 ∧ ∀ r ∈ resF (allE m) (allL m), r.length ≤ 100000 := by
  by_cases h : allE m = 0
  · rw [resF_ok h]
    have hm1 : 1 ≤ m ∧ m ≤ 6 := by
      unfold allE at h
      split at h
      · cases h
      · split at h
        · cases h
        · omega
    refine ⟨?_, fun r hr => tree_short _ (mem_sort _ _ hr)⟩
    unfold allL
    rw [sort_len]
    exact trees_few (by omega) (all_in hm1)
  · rw [resF_bad h]
    exact ⟨Nat.zero_le _, fun r hr => by cases hr⟩
end Go.Proofs.YtkpmnnflikkhmaaDoor
end
section
namespace Go.Proofs.YtkpmnnflikkhmaaDoor
open Go Go.Kn Go.Proofs
theorem fun_10 : Fun Tryd.prog 10 := .of Tryd.func10 (by kernel_rfl) (by kernel_rfl)
theorem fun_12 : Fun Tryd.prog 12 := .of Tryd.func12 (by kernel_rfl) (by kernel_rfl)
theorem w_specLaw {I : HMap} {av : Option Addr} {n c : Nat} {xs : List Int} (hS : Sl I 1 encI av n c xs) (hDb : DebOK I) (m s : Int) : RetV Tryd.prog 3 [.int .i64 m, .slice av n c, .int .i64 s] I (.bool true) := by
  intro g H w hw
  refine enter Tryd.func3 rfl Tryd.ntmps3 rfl hw ?_
  have hIc := HLe.refl I
  refine X_seq ?_
  refine X_region ?_
  refine XO_v0 (ev_assign rfl) rfl rfl rfl ?_
  refine XO_nil ?_
  refine at_then ?_
  refine X_seq ?_
  refine X_seq ?_
  refine X_region ?_
  refine XO_callV0 (cap := []) (vs := []) rfl rfl fun_10 (w_sane hDb) rfl rfl ?_
  refine XO_v0 (ev_not rfl) rfl rfl rfl ?_
  refine XO_nil ?_
  refine at_then ?_
  refine X_cond rfl (fun hc18 => ?_) (fun hc18 => ?_)
  · skip
    cases hc18
  · skip
    refine X_skip ?_
    refine at_then ?_
    refine X_seq ?_
    refine X_seq ?_
    refine X_region ?_
    refine XO_v0 (ev_move rfl) rfl rfl rfl ?_
    refine XO_v0 (ev_lenS rfl slt_22) rfl rfl rfl ?_
    refine XO_v0 (ev_cmp rfl rfl rfl) rfl rfl rfl ?_
    refine XO_nil ?_
    refine at_then ?_
    refine X_cond rfl (fun hc21 => ?_) (fun hc21 => ?_)
    · skip
      refine X_seq ?_
      refine X_region ?_
      refine XO_v0 (ev_assign rfl) rfl rfl rfl ?_
      refine XO_nil ?_
      refine at_then ?_
      refine X_ret ?_
      refine at_then_r ?_
      first
      | exact at_ret1 rfl rfl (fun w hw => ⟨by rfl, (hw.mono hIc).drop⟩)
      | exact at_ret1 rfl rfl (fun w hw => ⟨by rw [same_self]; simp, (hw.mono hIc).drop⟩)
    · skip
      have hn : n ≤ 100000 := by simp at hc21; omega
      obtain ⟨eA, eB⟩ := parts_both (m := m) (cl := xs) (s := s)
      refine X_skip ?_
      refine at_then ?_
      refine X_seq ?_
      refine X_region ?_
      refine XO_v0 (ev_move rfl) rfl rfl rfl ?_
      refine XO_v0 (ev_move rfl) rfl rfl rfl ?_
      refine XO_v0 (ev_move rfl) rfl rfl rfl ?_
      refine XO_callV0 (cap := []) (vs := [_, _, _]) rfl rfl fun_11 (w_Parts hS hn _ _) rfl rfl ?_
      refine XO_v0 (ev_move rfl) rfl rfl rfl ?_
      refine XO_v0 (ev_extract rfl rfl) rfl rfl rfl ?_
      refine XO_v0 (ev_extract rfl rfl) rfl rfl rfl ?_
      refine XO_v0 (ev_extract rfl rfl) rfl rfl rfl ?_
      refine XO_v0 (ev_assign rfl) rfl rfl rfl ?_
      refine XO_v0 (ev_assign rfl) rfl rfl rfl ?_
      refine XO_v0 (ev_assign rfl) rfl rfl rfl ?_
      refine XO_nil ?_
      refine at_then ?_
      refine X_seq ?_
      refine X_region ?_
      refine XO_v0 (ev_move rfl) rfl rfl rfl ?_
      refine XO_v0 (ev_move rfl) rfl rfl rfl ?_
      refine XO_v0 (ev_move rfl) rfl rfl rfl ?_
      refine XO_callV0 (cap := []) (vs := [_, _, _]) rfl rfl fun_12 (w_rparts hS hn _ _) rfl rfl ?_
      refine XO_v0 (ev_move rfl) rfl rfl rfl ?_
      refine XO_v0 (ev_extract rfl rfl) rfl rfl rfl ?_
      refine XO_v0 (ev_extract rfl rfl) rfl rfl rfl ?_
      refine XO_v0 (ev_extract rfl rfl) rfl rfl rfl ?_
      refine XO_v0 (ev_assign rfl) rfl rfl rfl ?_
      refine XO_v0 (ev_assign rfl) rfl rfl rfl ?_
      refine XO_v0 (ev_assign rfl) rfl rfl rfl ?_
      refine XO_nil ?_
      refine at_then ?_
      refine X_seq ?_
      refine X_seq ?_
      refine X_region ?_
      refine XO_v0 (ev_move rfl) rfl rfl rfl ?_
      refine XO_v0 (ev_move rfl) rfl rfl rfl ?_
      refine XO_callV0 (cap := []) (vs := [_, _]) rfl rfl fun_13 (w_check hS _) rfl rfl ?_
      refine XO_v0 (ev_move rfl) rfl rfl rfl ?_
      refine XO_v0 (ev_move rfl) rfl rfl rfl ?_
      refine XO_callV0 (cap := []) (vs := [_, _]) rfl rfl fun_14 (w_rcheck hS _) rfl rfl ?_
      refine XO_v0 (ev_cmp rfl rfl rfl) rfl rfl rfl ?_
      refine XO_v0 (ev_move rfl) rfl rfl rfl ?_
      refine XO_pushF 7 rfl rfl rfl ?_
      refine XO_v1 (ev_move rfl) (.some rfl rfl rfl rfl gbf) rfl rfl rfl ?_
      refine XO_v1 (ev_move rfl) (.some rfl rfl rfl rfl gbf) rfl rfl rfl ?_
      refine XO_v1 (ev_cmp rfl rfl rfl) (.some rfl rfl rfl rfl gbf) rfl rfl rfl ?_
      refine XO_or0 rfl rfl rfl rfl rfl ?_
      refine XO_v0 (ev_move rfl) rfl rfl rfl ?_
      refine XO_pushF 12 rfl rfl rfl ?_
      refine XO_v1 (ev_move rfl) (.some rfl rfl rfl rfl gbf) rfl rfl rfl ?_
      refine XO_v1 (ev_move rfl) (.some rfl rfl rfl rfl gbf) rfl rfl rfl ?_
      refine XO_v1 (ev_cmp rfl rfl rfl) (.some rfl rfl rfl rfl gbf) rfl rfl rfl ?_
      refine XO_or0 rfl rfl rfl rfl rfl ?_
      refine XO_v0 (ev_move rfl) rfl rfl rfl ?_
      refine XO_pushF 17 rfl rfl rfl ?_
      refine XO_v1 (ev_move rfl) (.some rfl rfl rfl rfl gbf) rfl rfl rfl ?_
      refine XO_v1 (ev_move rfl) (.some rfl rfl rfl rfl gbf) rfl rfl rfl ?_
      refine XO_v1 (ev_cmp rfl rfl rfl) (.some rfl rfl rfl rfl gbf) rfl rfl rfl ?_
      refine XO_or0 rfl rfl rfl rfl rfl ?_
      refine XO_nil ?_
      refine at_then ?_
      refine X_cond rfl (fun hc59 => ?_) (fun hc59 => ?_)
      · skip
        rw [eA, eB] at hc59; simp at hc59
      · skip
        refine X_skip ?_
        refine at_then ?_
        refine X_seq ?_
        refine X_seq ?_
        refine X_region ?_
        refine XO_v0 (ev_move rfl) rfl rfl rfl ?_
        refine XO_v0 (ev_cmp rfl rfl rfl) rfl rfl rfl ?_
        refine XO_nil ?_
        refine at_then ?_
        refine X_cond rfl (fun hc61 => ?_) (fun hc61 => ?_)
        · skip
          refine X_seq ?_
          refine X_region ?_
          refine XO_v0 (ev_assign rfl) rfl rfl rfl ?_
          refine XO_nil ?_
          refine at_then ?_
          refine X_ret ?_
          refine at_then_r ?_
          first
          | exact at_ret1 rfl rfl (fun w hw => ⟨by rfl, (hw.mono hIc).drop⟩)
          | exact at_ret1 rfl rfl (fun w hw => ⟨by rw [same_self]; simp, (hw.mono hIc).drop⟩)
        · skip
          have hm6 : m ≠ 6 := by simpa using hc61
          refine X_skip ?_
          refine at_then ?_
          refine X_seq ?_
          refine X_region ?_
          refine XO_v0 (ev_move rfl) rfl rfl rfl ?_
          refine XO_callM (cap := []) (vs := [_]) rfl rfl fun_15 .nil (w_All _ m) rfl rfl ?_
          rintro vv1 I1 L1 hI1 ⟨rfl, vss, hq1, hq2, hAl⟩
          have hS := hS.mono hI1
          have hDb := hDb.mono hI1
          have hIc := hIc.trans hI1
          obtain ⟨_, aA, cA, rfl, hA⟩ := hAl
          have hvs := allq hm6 hq1 hq2
          subst hvs
          refine XO_v0 (ev_move rfl) rfl rfl rfl ?_
          refine XO_v0 (ev_extract rfl rfl) rfl rfl rfl ?_
          refine XO_v0 (ev_extract rfl rfl) rfl rfl rfl ?_
          refine XO_v0 (ev_assign rfl) rfl rfl rfl ?_
          refine XO_v0 (ev_assign rfl) rfl rfl rfl ?_
          refine XO_nil ?_
          refine at_then ?_
          refine X_seq ?_
          refine X_region ?_
          refine XO_v0 (ev_move rfl) rfl rfl rfl ?_
          refine XO_callM (cap := []) (vs := [_]) rfl rfl fun_16 .nil (w_rall m) rfl rfl ?_
          rintro vv2 I2 L2 hI2 ⟨rfl, aB, cB, rfl, hB⟩
          have hS := hS.mono hI2
          have hDb := hDb.mono hI2
          have hA := hA.mono hI2
          have hIc := hIc.trans hI2
          refine XO_v0 (ev_move rfl) rfl rfl rfl ?_
          refine XO_v0 (ev_extract rfl rfl) rfl rfl rfl ?_
          refine XO_v0 (ev_extract rfl rfl) rfl rfl rfl ?_
          refine XO_v0 (ev_assign rfl) rfl rfl rfl ?_
          refine XO_v0 (ev_assign rfl) rfl rfl rfl ?_
          refine XO_nil ?_
          refine at_then ?_
          refine X_seq ?_
          refine X_region ?_
          refine XO_v0 (ev_move rfl) rfl rfl rfl ?_
          refine XO_v0 (ev_move rfl) rfl rfl rfl ?_
          refine XO_callV0 (cap := []) (vs := [_, _]) rfl rfl fun_17 (w_same hA hB (by have := (all_few (m := m)).1; omega) (all_few (m := m)).2) rfl rfl ?_
          refine XO_v0 (ev_move rfl) rfl rfl rfl ?_
          refine XO_pushT 3 rfl rfl rfl ?_
          refine XO_v1 (ev_move rfl) (.some rfl rfl rfl rfl gbt) rfl rfl rfl ?_
          refine XO_v1 (ev_move rfl) (.some rfl rfl rfl rfl gbt) rfl rfl rfl ?_
          refine XO_v1 (ev_cmp rfl rfl rfl) (.some rfl rfl rfl rfl gbt) rfl rfl rfl ?_
          refine XO_and0 rfl rfl rfl rfl rfl ?_
          refine XO_v0 (ev_assign rfl) rfl rfl rfl ?_
          refine XO_nil ?_
          refine at_then ?_
          refine X_ret ?_
          first
          | exact at_ret1 rfl rfl (fun w hw => ⟨by rfl, (hw.mono hIc).drop⟩)
          | exact at_ret1 rfl rfl (fun w hw => ⟨by rw [same_self]; simp, (hw.mono hIc).drop⟩)
end Go.Proofs.YtkpmnnflikkhmaaDoor
end
section
namespace Go.Kn
open Go Go.ChangeShapes Go.WideShapes Go.ChangeAt Go.RowKit
/-- All that lies in the world is read only. -/
def heapI (W : World) : HMap := fun b => W.heap[b]?
theorem St.start (W : World) : St W (heapI W) (fun _ => none) [] W :=
  ⟨rfl, rfl, rfl, ⟨Nat.le_refl _, Nat.le_refl _⟩, fun _ _ h => h, (fun _ _ h => by cases h), (fun _ _ h => by cases h), fun _ => .inr rfl, (fun _ _ h => by cases h), by simp⟩
theorem St.below {W w : World} {H : HMap} {loc : Loc} (h : St W (heapI W) H loc w) : Below W.heap.size W w :=
  ⟨h.os, h.tape, h.out, h.size.1, fun k hk => by
    have e : W.heap[k]? = some W.heap[k] := Array.getElem?_eq_getElem hk
    rw [h.imm k _ e, e]⟩
theorem RetV.law {P : Program} {f : FuncId} {args : List Value} {W : World} {v : Value} (h : RetV P f args (heapI W) v) : Calls P f args.toArray W fun e w' => e = .returned v ∧ Below W.heap.size W w' :=
  (h W _ W (St.start W)).mono fun _ _ ⟨he, hs⟩ => ⟨he, hs.below⟩
theorem keptBut_below {W w : World} {may : MemPlace → Prop} (h : Below W.heap.size W w) : W.keptBut w may := by
  refine ⟨h.os, h.output, fun i hi => ?_⟩
  rw [h.block i hi]
  rw [Array.getElem?_eq_getElem hi]
  cases W.heap[i] <;> simp
theorem trodAll_stays {H : Type} {enc : TypeId × Value → H} {P : Program} {W W' : World} (hl : laidOutB P = true) (hB : Below W.heap.size W W') (sp : Nat → Bool) : ∀ (ts : List TypeId) (vs : List Value) (ds : List (DataW H)) (ps : List MemPlace), (∀ t ∈ ts, P.readableRec t = true ∧ t < P.types.size) →
    DataW.TrodAll enc P W 0 (fun _ => true) true ts vs ds ps → (∀ x ∈ ps, x.block < W.heap.size ∧ sp x.block = true) → DataW.TrodAll enc P W' 0 sp true ts vs ds ps
  | [], [], [], ps, _, h, _ => h
  | t :: ts, v :: vs, d :: ds, ps, hr, ⟨p, q, h1, h2, e⟩, hlt => by
    subst e
    exact ⟨p, q, WideElems.Trod_stays hl (hr t (List.mem_cons_self ..)).1 (hr t (List.mem_cons_self ..)).2 h1 (fun x hx => hB.same (hlt x (List.mem_append_left _ hx)).1) (fun x hx => (hlt x (List.mem_append_left _ hx)).2),
      trodAll_stays hl hB sp ts vs ds q (fun t ht => hr t (List.mem_cons_of_mem _ ht)) h2 (fun x hx => hlt x (List.mem_append_right _ hx)), rfl⟩
/-- A law's row: it hands back true; the input reads as it did. -/
theorem post_law {H : Type} {enc : TypeId × Value → H} {P : Program} {f : Func} {s : ChangeSpec} {again : Bool} {W W' : World} {args : Array Value} {ds : List (DataW H)} {before : List MemPlace} {tb : TypeId}
    (hl : laidOutB P = true) (hr : f.resultTypes = #[tb]) (hb : P.underlying tb = some .bool) (hv : s.vars = []) (hs : (s.fn H (ds ++ [])) = { results := [.lit (.bool true)], args := ds }) (hrd : ∀ t ∈ f.params.toList, P.readableRec t = true ∧ t < P.types.size)
    (hW : DataW.Whole enc P f.params.toList s.vars false W args.toList ds [] before) (hB : Below W.heap.size W W') : s.post enc P f false true false again W args (.bool true) W' := by
  have hlt : ∀ x ∈ before, x.block < W.heap.size := fun x hx => by simpa using hW.lt x hx
  have hW0 := hW
  obtain ⟨p, q, hA, hV, rfl, hfz, _⟩ := hW
  rw [hv] at hV
  obtain ⟨_, rfl⟩ := trodVars_none hV
  rw [List.append_nil] at hlt hfz hW0
  have hres : ∀ (b : Nat) (sp : Nat → Bool) (hd : Bool), DataW.TrodAll enc P W' b sp hd f.resultTypes.toList ((Value.bool true).resultList f.resultTypes.size) [.lit (.bool true)] [] := fun b sp hd => by
    rw [hr]; exact trodAll_mk1 (shut_bool hb true)
  have hargs : ∀ sp : Nat → Bool, (∀ x ∈ p, sp x.block = true) → DataW.TrodAll enc P W' 0 sp true f.params.toList args.toList ds p := fun sp h => trodAll_stays hl hB sp _ _ _ _ hrd hA (fun x hx => ⟨hlt x hx, h x hx⟩)
  have hnil : ∀ sp : Nat → Bool, DataW.TrodVars enc P W' sp s.vars [] [] := fun sp => by rw [hv]; rfl
  refine ⟨ds, [], p, [], p, [], hW0, ?_, ?_, ?_, keptBut_below hB, fun _ => ?_⟩
  · rw [hs]; exact hres _ _ _
  · rw [hs]; exact hargs _ (fun x hx => by simpa using hlt x hx)
  · rw [hs]; exact hnil _
  · refine ⟨fun j t r ht hr' => ?_, [.lit (.bool true)] ++ ds, [], [] ++ p, ⟨[] ++ p, [], trodAll_append (hargs _ (fun _ _ => rfl)) (hres _ _ _), hnil _, by simp, ?_, fun h => by cases h⟩, fun x hx _ => by simpa using hx⟩
    · rw [hr] at ht hr'
      cases j with
      | zero => simp [Value.resultList] at ht hr'; subst ht; subst hr'; exact okWide_bool_mk hb _
      | succ j => simp at ht
    · intro b off hx
      rw [hB.frozen (hlt _ (by simpa using hx))]
      exact hfz b off (by simpa using hx)
theorem cell_heap {W : World} {b o : Nat} {u : Value} (h : W.cell? ⟨b, o, none⟩ = some u) : Cell (heapI W) [] b o u := by
  unfold World.cell? at h
  split at h
  · rename_i c t fz hb
    simp only [Option.isSome_none, Bool.false_eq_true, if_false] at h
    exact ⟨c, t, fz, .inl hb, h⟩
  · cases h
/-- A slice that came in, as it is read. -/
theorem open_SlT {H : Type} {enc : TypeId × Value → H} {P : Program} {W : World} {t e : TypeId} {size fuel0 : Nat} {cs : List Value} {x0 : DataW H × List MemPlace} {α : Type} (enc' : α → List Value) (ok : α → Prop)
    (ht : P.underlying t = some (.slice e)) (hc : P.cellsOf e = size) (hpos : 0 < size) (hlen : ∀ y, (enc' y).length = size)
    (hel : ∀ fuel cs x, DataW.trod enc P W 0 (fun _ => true) true fuel e cs = some x → ∃ y, ok y ∧ enc' y = cs)
    (hf' : DataW.trod enc P W 0 (fun _ => true) true fuel0 t cs = some x0) : ∃ av n c xs, cs = [.slice av n c] ∧ Sl (heapI W) size enc' av n c xs ∧ (∀ x ∈ xs, ok x) ∧ c ≤ maxLen := by
  rcases Go.Deep.open_slice ht hf' with ⟨e1, _⟩ | ⟨a, len0, cap0, m, n, D, Pl, e1, hb, hl, hm, hmm, _, hx⟩
  · subst e1
    exact ⟨none, 0, 0, [], rfl, .nil, (fun x hx => by cases hx), Nat.zero_le _⟩
  · subst e1
    have hlm : len0 ≤ m := by rw [hmm]; simp; exact hl
    have each : ∀ i, i < len0 → ∃ y, ok y ∧ W.cells? 0 (a.add (i * size)) size = some (enc' y) := fun i hi => by
      obtain ⟨cs', h1, h2⟩ := hx i (by omega)
      obtain ⟨y, hy, e⟩ := hel _ _ _ h2
      rw [hc] at h1
      exact ⟨y, hy, by rw [h1, e]⟩
    have all : ∀ k, k ≤ len0 → ∃ xs : List α, xs.length = k ∧ ∀ i x, xs[i]? = some x → ok x ∧ W.cells? 0 (a.add (i * size)) size = some (enc' x) := by
      intro k
      induction k with
      | zero => intro _; exact ⟨[], rfl, fun i x h => by simp at h⟩
      | succ k ih =>
        intro hk
        obtain ⟨xs, hl', hxs⟩ := ih (by omega)
        obtain ⟨y, hy, hcy⟩ := each k (by omega)
        refine ⟨xs ++ [y], by simp [hl'], fun i x h => ?_⟩
        by_cases hi : i < xs.length
        · rw [List.getElem?_append_left hi] at h; exact hxs i x h
        · rw [List.getElem?_append_right (by omega)] at h
          have : i = k := by have := (List.getElem?_eq_some_iff.1 h).1; simp at this; omega
          subst this
          rw [hl'] at h; simp at h; subst h
          exact ⟨hy, hcy⟩
    obtain ⟨xs, hl', hxs⟩ := all len0 (Nat.le_refl _)
    have add0 : ∀ (b o n : Nat), (⟨b, o, none⟩ : Addr).add n = ⟨b, o + n, none⟩ := fun b o n => by
      unfold Addr.add
      split
      · rename_i e; subst e; rfl
      · rfl
    have hspot : 0 < xs.length → a.spot = none := fun hx => by
      have hx0 : xs[0]? = some xs[0] := List.getElem?_eq_getElem hx
      have hp0 : 0 < (enc' xs[0]).length := by rw [hlen]; exact hpos
      obtain ⟨_, h1, h2⟩ := World.cells?_some (hxs 0 _ hx0).2
      have h3 := h2 0 hpos
      rw [List.getElem?_eq_getElem hp0] at h3
      simpa [Addr.add] using World.cell?_spot h3
    have cellat : ∀ i x, xs[i]? = some x → ∀ j u, (enc' x)[j]? = some u → W.cell? ⟨a.block, a.off + i * size + j, none⟩ = some u := fun i x hx j u hu => by
      obtain ⟨_, h1, h2⟩ := World.cells?_some (hxs i x hx).2
      have hj : j < size := by rw [← hlen x]; exact (List.getElem?_eq_some_iff.1 hu).1
      have h3 := h2 j hj
      rw [hu] at h3
      have hsp := hspot (by have := (List.getElem?_eq_some_iff.1 hx).1; omega)
      obtain ⟨b, o, sp⟩ := a
      simp only at hsp
      subst hsp
      rw [add0, add0] at h3
      exact h3
    refine ⟨some a, len0, cap0, xs, rfl, ⟨hl', hl, fun hn => ?_, fun k x hx j u hu => ?_⟩, fun x hx => ?_, hm⟩
    · have := hspot (by omega)
      obtain ⟨b, o, sp⟩ := a
      simp only at this
      subst this; rfl
    · exact cell_heap (cellat k x hx j u hu)
    · obtain ⟨i, hi⟩ := List.getElem?_of_mem hx
      exact (hxs i x hi).1
theorem open_Sl {H : Type} {enc : TypeId × Value → H} {P : Program} {W : World} {base : Nat} {t e : TypeId} {size : Nat} {v : Value} {d : DataW H} {p : List MemPlace} {α : Type} (enc' : α → List Value) (ok : α → Prop)
    (ht : P.underlying t = some (.slice e)) (hc : P.cellsOf e = size) (hpos : 0 < size) (hlen : ∀ y, (enc' y).length = size)
    (hel : ∀ fuel cs x, DataW.trod enc P W 0 (fun _ => true) true fuel e cs = some x → ∃ y, ok y ∧ enc' y = cs)
    (hv : Value.okWide P W .any base t v) (h : DataW.Trod enc P W 0 (fun _ => true) true t v d p) : ∃ av n c xs, v = .slice av n c ∧ Sl (heapI W) size enc' av n c xs ∧ (∀ x ∈ xs, ok x) ∧ c ≤ maxLen := by
  obtain ⟨a0, len0, cap0, rfl⟩ := okWide_slice ht hv
  obtain ⟨fuel, hf⟩ := h
  obtain ⟨av, n, c, xs, e, h1, h2, h3⟩ := open_SlT enc' ok ht hc hpos hlen hel (cs := [.slice a0 len0 cap0]) (by simpa [Value.cells] using hf)
  cases e
  exact ⟨_, _, _, xs, rfl, h1, h2, h3⟩
/-- A slice of one-cell ints. -/
theorem el_int {H : Type} {enc : TypeId × Value → H} {P : Program} {W : World} {e : TypeId} {k : IntKind} (he : P.underlying e = some (.int k)) (hk : k = .i64) (fuel : Nat) (cs : List Value) (x : DataW H × List MemPlace) (h : DataW.trod enc P W 0 (fun _ => true) true fuel e cs = some x) :
    ∃ y : Int, (-9223372036854775808 ≤ y ∧ y ≤ 9223372036854775807) ∧ [Value.int .i64 y] = cs := by
  subst hk
  obtain ⟨v, hv⟩ : ∃ v, cs = [v] := by
    have := h
    cases fuel with
    | zero => simp [DataW.trod] at this
    | succ m => unfold DataW.trod at this; rw [he] at this; split at this <;> simp_all
  subst hv
  obtain ⟨n, e, _, w⟩ := DataW.trod_int he h
  cases e
  simp only [Lit.wf, Bool.and_eq_true, decide_eq_true_eq] at w
  exact ⟨n, w, rfl⟩
end Go.Kn
end
section
namespace Go.Proofs.YtkpmnnflikkhmaaDoor
open Go Go.Kn Go.Proofs
open Go.ChangeShapes Go.WideShapes Go.ChangeAt Go.RowKit
set_option maxRecDepth 100000
theorem ound_3 : Tryd.prog.underlying 3 = some (.int .i64) := by kernel_rfl
theorem ound_4 : Tryd.prog.underlying 4 = some .bool := by kernel_rfl
theorem ound_5 : Tryd.prog.underlying 5 = some (.int .u8) := by kernel_rfl
theorem open_ints {H : Type} {enc : TypeId × Value → H} {W : World} {base : Nat} {v : Value} {d : DataW H} {p : List MemPlace} (hv : Value.okWide Tryd.prog W .any base 22 v) (h : DataW.Trod enc Tryd.prog W 0 (fun _ => true) true 22 v d p) :
    ∃ av n c xs, v = .slice av n c ∧ Sl (heapI W) 1 encI av n c xs ∧ n ≤ 9223372036854775807 := by
  obtain ⟨av, n, c, xs, e, hS, _, hm⟩ := open_Sl (e := 3) encI (fun _ => True) (by kernel_rfl) (by kernel_rfl) (by decide) encI_len (fun fuel cs x h => by
    obtain ⟨y, _, e⟩ := el_int ound_3 rfl fuel cs x h
    exact ⟨y, trivial, e⟩) hv h
  exact ⟨av, n, c, xs, e, hS, by have := hS.cap; simp only [maxLen] at hm; omega⟩
/-- What the tie lists. -/
def laid2 : List (String × DataW Unit) := [("math/bits.deBruijn32tab", Rows.laid_math_bits_deBruijn32tab), ("math/bits.deBruijn64tab", Rows.laid_math_bits_deBruijn64tab)]
theorem gDeb : Tryd.prog.globalNamed "math/bits.deBruijn64tab" = some 1 := by kernel_rfl
theorem tDeb : (Tryd.prog.globals[1]?).map (·.type) = some 116 := by kernel_rfl
theorem deb_is : (Rows.laid_math_bits_deBruijn64tab : DataW Unit) = Lib.tabData .u8 debT := by rfl
theorem deb_of {W : World} (h : laidMetH Tryd.prog laid2 W) : DebOK (heapI W) := by
  rw [MakeChecks.laidMetH_plain _ _ _ (by kernel_rfl)] at h
  obtain ⟨ps, ⟨g0, t0, cs0, f0, p0, q0, hg0, ht0, hv0, hd0, ⟨g1, t1, cs1, f1, p1, q1, hg1, ht1, hv1, hd1, _, _⟩, _⟩, _, _⟩ := h
  obtain rfl := Option.some.inj (gDeb.symm.trans hg1)
  obtain rfl := Option.some.inj (tDeb.symm.trans ht1)
  rw [deb_is] at hd1
  have hcs := Lib.cells_of_tab (n := 64) (e := 5) (by kernel_rfl) ound_5 (by kernel_rfl) (by kernel_rfl) hd1
  intro i hi
  refine cell_heap ?_
  have := World.var?_cell hg1 hv1 i
  rw [this]
  have hl : i < debT.length := hi
  have e : cs1 = (debT.map fun z => Value.int .u8 z).toArray := Array.ext' hcs
  rw [e]
  simp [List.getD, hl]
/-- The door's own heap meets the condition. -/
theorem door_met (os : Os) (args : Array Value) : laidMetH Tryd.prog laid2 ((World.doorLaid Tryd.prog 400 os).forCall (fun _ _ => 0) ⟨#[], args, []⟩).memory :=
  laidMetH_of_parts3 (fuel := 8) (laidMet_of_run' 8 (by kernel_rfl) (by kernel_rfl)) (by kernel_rfl) (by kernel_rfl)
end Go.Proofs.YtkpmnnflikkhmaaDoor
end
section
namespace Go.Proofs.YtkpmnnflikkhmaaDoor
open Go Go.Kn Go.Proofs
open Go.ChangeShapes Go.WideShapes Go.ChangeAt Go.RowKit
theorem own : ownKnob Tryd.prog.godebug = none := by kernel_rfl
theorem laidOut : laidOutB Tryd.prog = true := by kernel_rfl
set_option maxRecDepth 100000 in
theorem stemmaSpec_lifted (os : Os) (started : os.Started) (H : Type) (enc : TypeId × Value → H) :
    ReturnsInHanded {} Tryd.checked os 3 .any (fun w args => (Rows.stemmaSpecSpec.pre enc Tryd.prog Tryd.f3 [] false w args ∧ laidMetH Tryd.prog laid2 w) ∧ sizedMet enc Tryd.prog Tryd.f3 (OpenSpec.ofChange Rows.stemmaSpecSpec) false w args)
      (Rows.stemmaSpecSpec.post enc Tryd.prog Tryd.f3 false true false false) := by
  refine returnsInHanded_of_change_and (C := Tryd.checked) (X := fun w _ => laidMetH Tryd.prog laid2 w) (fun _ _ _ hh h => h.of_heap hh) own started (by kernel_rfl) Tryd.func3
    (ChangeSpec.witness_shaped (enc := enc) (C := Tryd.checked) (os := os) (X := fun w _ => laidMetH Tryd.prog laid2 w) false (World.doorLaid Tryd.prog 400 os) #[.int .i64 0, .slice none 0 0, .int .i64 0] 8 rfl (World.shaped_of_RefB (by kernel_rfl) (by kernel_rfl)) (by kernel_rfl) (by kernel_rfl) (by kernel_rfl) (door_met os _)) ?_
  intro W base args ds gs before hval0 hW _ _ hL _
  have hval : ∀ (j : Nat) t v, Tryd.f3.params[j]? = some t → args[j]? = some v → Value.okWide Tryd.prog W .any base t v := hval0
  have hW' := hW
  obtain ⟨p, q, hA0, hV, rfl, hfz, hnd⟩ := hW
  have hA : DataW.TrodAll enc Tryd.prog W 0 (fun _ => true) true Tryd.f3.params.toList args.toList ds p := hA0
  rw [Tryd.params3] at hA hval
  obtain ⟨v0, vs1, d0, ds1, p0, q1, ea, rfl, rfl, h0, hA⟩ := trodAll_cons hA
  obtain ⟨v1, vs2, d1, ds2, p1, q2, rfl, rfl, rfl, h1, hA⟩ := trodAll_cons hA
  obtain ⟨v2, vs3, d2, ds3, p2, q3, rfl, rfl, rfl, h2, hA⟩ := trodAll_cons hA
  obtain ⟨rfl, rfl, rfl⟩ := trodAll_nil hA
  have ea' : args = #[v0, v1, v2] := by rw [← Array.toArray_toList (xs := args), ea]
  subst ea'
  obtain ⟨rfl, rfl⟩ := trodVars_none hV
  have hDb := deb_of hL
  obtain ⟨m, rfl, _, _, wfm⟩ := open_int ound_3 (hval 0 3 v0 rfl rfl) h0
  obtain ⟨av, n, c, xs, rfl, hS, hbn⟩ := open_ints (hval 1 22 v1 rfl rfl) h1
  obtain ⟨s, rfl, _, _, wfs⟩ := open_int ound_3 (hval 2 3 v2 rfl rfl) h2
  refine (RetV.law (w_specLaw hS hDb m s)).mono fun e W' ⟨he, hB⟩ => ?_
  subst he
  exact ⟨_, rfl, post_law laidOut (by kernel_rfl) ound_4 rfl rfl (by rw [Tryd.params3]; simp only [List.mem_cons, List.not_mem_nil, or_false, forall_eq_or_imp, forall_eq]; exact ⟨⟨by kernel_rfl, of_decide_eq_true (by kernel_rfl)⟩, ⟨by kernel_rfl, of_decide_eq_true (by kernel_rfl)⟩, ⟨by kernel_rfl, of_decide_eq_true (by kernel_rfl)⟩⟩) hW' hB⟩
theorem stemmaSpec_row : Rows.StemmaSpecSaid :=
  OpenClaim.holds_of_wide 3 Tryd.f3 rfl rfl rfl rfl rfl rfl rfl ⟨rfl, rfl, rfl, rfl, rfl⟩ rfl rfl rfl rfl rfl (by kernel_rfl) Tryd.func3 (by kernel_rfl)
    (of_decide_eq_true (by kernel_rfl)) (by unfold Func.isWrapper; first | (rw [if_pos (by decide +kernel)]; kernel_rfl) | (rw [if_neg (by decide +kernel)]; exact ⟨rfl, rfl⟩))
    (fun os started H enc _ => stemmaSpec_lifted os started H enc)
theorem stemmaSpec_holds : Rows.StemmaSpecCardSaid :=
  Claim7.holds_tied_plain_at .later [] [.data, .data] true (true, "ee01672d72051c55a553832d8f1b557e85fe7de91745a851b14c5bb6cd11ba6c") false
    stemmaSpec_row (fun _ h => by cases h) (by kernel_rfl) (fun _ h => by cases h) stemmaSpec_row_tie rfl ⟨rfl, rfl⟩ (by kernel_rfl) rfl
    (fun f fn hf hfn => by
      obtain rfl : f = 3 := Option.some.inj ((show Tryd.prog.funcNamed "kinesphere/kinespherelaw42.StemmaSpec" = some 3 by kernel_rfl).symm.trans hf) |>.symm
      obtain rfl : fn = Tryd.f3 := (Option.some.inj (Tryd.func3.symm.trans hfn)).symm
      exact ⟨by kernel_rfl, fun j t ht => by
        rw [Tryd.params3] at ht
        have hm : t ∈ [3, 22, 3] := by simpa using Array.mem_of_getElem? ht
        have hall : ([3, 22, 3].all fun u => !Tryd.prog.wantsStandIn u) = true := by kernel_rfl
        exact (show Tryd.prog.wantsStandIn t = false by simpa using List.all_eq_true.1 hall t hm)⟩)
    (by kernel_rfl)
#print axioms stemmaSpec_holds
end Go.Proofs.YtkpmnnflikkhmaaDoor
end
