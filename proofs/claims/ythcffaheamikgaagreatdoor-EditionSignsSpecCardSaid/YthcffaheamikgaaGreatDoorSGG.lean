/- editionSignsSpec_holds, part G of the proof: what its theorems say holds without further conditions. -/
import Derived.ProofKit
import Derived.Deep.Slices
import Derived.Test.YthcffaheamikgaaGreatDoorRows
import Derived.LaidMore
import Derived.MakeChecks
import Derived.Lib.LaidTab
import Derived.Test.YthcffaheamikgaaGreatDoorSGF
namespace Go.Proofs.YthcffaheamikgaaGreatDoor
section
open Go Go.Kn Go.Proofs
def rowL (a b : List Int) (i : Nat) : List Int := rngL (b.length + 1) (LC a b i)
def doneF (a b : List Int) (i j : Nat) : Nat → Int := fun r => if r < j then 0 else LC a b i r
theorem rngL_ext {n : Nat} {f g : Nat → Int} (h : ∀ r, r < n → f r = g r) : rngL n f = rngL n g := by
 unfold rngL
 exact List.map_congr_left fun r hr => h r (List.mem_range.1 hr)
theorem done_start {a b : List Int} {i : Nat} : rngL (b.length + 1) (fun _ => (0 : Int)) = rngL (b.length + 1) (doneF a b i (b.length + 1)) := rngL_ext fun r hr => by unfold doneF; rw [if_pos hr]
theorem done_end {a b : List Int} {i : Nat} : rngL (b.length + 1) (doneF a b i 0) = rowL a b i := rngL_ext fun r _ => by unfold doneF; rw [if_neg (by omega)]
theorem done_step {a b : List Int} {i k : Nat} {v : Int} (h : v = LC a b i k) : rngL (b.length + 1) (updF (doneF a b i (k + 1)) k v) = rngL (b.length + 1) (doneF a b i k) := rngL_ext fun r _ => by
 unfold updF doneF
 by_cases hr : r = k
 ·
  subst hr; rw [if_pos rfl, if_neg (by omega), h]
 ·
  rw [if_neg hr]
  by_cases h2 : r < k
  ·
   rw [if_pos (by omega), if_pos h2]
  ·
   rw [if_neg (by omega), if_neg h2]
theorem done_at {a b : List Int} {i k : Nat} : doneF a b i (k + 1) (k + 1) = LC a b i (k + 1) := by unfold doneF; rw [if_neg (by omega)]
def MatQ (I : HMap) (a b : List Int) (hs : List Hd) (j : Nat) : Prop := ∀ r, j ≤ r → r ≤ a.length → ∃ h : Hd, hs[r]? = some h ∧ h.n = b.length + 1 ∧ Sl I 1 encI h.a h.n h.c (rowL a b r)
theorem MatQ.mono {I I' : HMap} {a b : List Int} {hs : List Hd} {j : Nat} (h : MatQ I a b hs j) (hI : HLe I I') : MatQ I' a b hs j := fun r h1 h2 => by
 obtain ⟨x, e1, e2, e3⟩ := h r h1 h2; exact ⟨x, e1, e2, e3.mono hI⟩
theorem MatQ.start {I : HMap} {a b : List Int} {hs : List Hd} : MatQ I a b hs (a.length + 1) := fun r h1 h2 => by omega
theorem MatQ.put {I : HMap} {a b : List Int} {hs : List Hd} {i : Nat} {h : Hd} (hM : MatQ I a b hs (i + 1)) : MatQ I a b (hs.set i h) (i + 1) := fun r h1 h2 => by
 obtain ⟨x, e1, e2, e3⟩ := hM r h1 h2
 exact ⟨x, by rw [List.getElem?_set_ne (by omega)]; exact e1, e2, e3⟩
theorem MatQ.next {I : HMap} {a b : List Int} {hs : List Hd} {i : Nat} {h : Hd} (hM : MatQ I a b hs (i + 1)) (e : hs[i]? = some h) (en : h.n = b.length + 1) (hS : Sl I 1 encI h.a h.n h.c (rowL a b i)) : MatQ I a b hs i := fun r h1 h2 => by
 by_cases hr : r = i
 ·
  subst hr; exact ⟨h, e, en, hS⟩
 ·
  exact hM r (by omega) h2
def matL (a b : List Int) : List (List Int) := (List.range (a.length + 1)).map (rowL a b)
theorem MatQ.all {I : HMap} {a b : List Int} {hs : List Hd} {av : Option Addr} {c : Nat} (hM : MatQ I a b hs 0) (hl : hs.length = a.length + 1) (hH : Sl I 1 encH av (a.length + 1) c hs) : SlN I av (a.length + 1) c (matL a b) := by
 refine ⟨hs, hH, by rw [hl]; unfold matL; simp, fun k h v h1 h2 => ?_⟩
 have hk := (List.getElem?_eq_some_iff.1 h1).1
 obtain ⟨x, e1, e2, e3⟩ := hM k (Nat.zero_le _) (by omega)
 rw [h1] at e1; cases e1
 unfold matL at h2
 rw [List.getElem?_map, List.getElem?_range (by omega)] at h2
 cases h2; exact e3
theorem mat_at {a b : List Int} {i : Nat} (h : i ≤ a.length) : (matL a b)[i]? = some (rowL a b i) := by unfold matL; rw [List.getElem?_map, List.getElem?_range (by omega)]; rfl
end
section
open Go Go.Kn Go.Proofs
theorem fun_104 : Fun Tryz.prog 104 := .of Tryz.func104 (by kernel_rfl) (by kernel_rfl)
theorem mkt_22 : MkT Tryz.prog 22 23 24 (.slice none 0 0) := ⟨by kernel_rfl, by kernel_rfl, rfl⟩
theorem q_rest {I : HMap} {av : Option Addr} {n c : Nat} {xs : List Int} (hS : Sl I 1 encI av n c xs) {bv : Option Addr} {n2 c2 : Nat} {ys : List Int} (hT : Sl I 1 encI bv n2 c2 ys) (hn : n ≤ 1000) (hn2 : n2 ≤ 1000) : RetM Tryz.prog 103 [.slice av n c, .slice bv n2 c2] I [] (fun v I' L => L = [] ∧ ∃ a c, v = .slice a (xs.length + 1) c ∧ SlN I' a (xs.length + 1) c (matL xs ys)) := by
 intro g H w hw
 refine enter Tryz.func103 rfl Tryz.ntmps103 rfl hw ?_
 have hIc := HLe.refl I
 have hlS := hS.len
 subst hlS
 have hlT := hT.len
 subst hlT
 refine zR (zA ?_)
 refine zN (zR ?_)
 refine zM ?_
 refine zQ slt_23 ?_
 refine zB ?_
 refine XO_makeSlice mkt_22 rfl rfl (by omega) (by decide) rfl rfl (fun b_11 => ?_)
 refine zA (XO_nil ?_)
 have e0 : ((xs.length : Nat) : Int) + 1 = ((xs.length + 1 : Nat) : Int) := rfl
 rw [e0, show ((xs.length + 1 : Nat) : Int).toNat = xs.length + 1 from rfl, cellsH_new]
 refine at_then (X_seq (zR (zM ?_)))
 refine zQ slt_23 ?_
 refine zA (zN (X_block ?_))
 refine X_loopT [(0, _), (1, _), (5, _)] (.cons rfl (.cons rfl (.cons rfl .nil))) (fun T L0 mz E I' loc' => ∃ (j : Nat) (q : Int) (hs : List Hd), mz = (j + 1) ∧ E = (6, .int .i64 q) :: T ∧ HLe I I' ∧ [(b_11, .cells (cellsH hs) 23 (0, 0))] = loc' ∧ q = (j : Int) - 1 ∧ j ≤ xs.length + 1 ∧ hs.length = xs.length + 1 ∧ MatQ I' xs ys hs j) _ _ _ _ ⟨xs.length + 1, _, _, rfl, rfl, HLe.refl _, rfl, by omega, Nat.le_refl _, by rw [List.length_replicate], MatQ.start⟩ (.cons rfl (.cons rfl (.cons rfl (.cons rfl .nil)))) (HLe.refl _) rfl ?_
 rintro mz E J1 loc' ⟨j, q, hs, rfl, rfl, hJ, rfl, hq, hj, hhl, hM⟩
 have hS := hS.mono hJ; have hT := hT.mono hJ; have hIc := hIc.trans hJ
 have hB0 := hJ
 refine X_seq (zR (zM ?_))
 refine zC (zN ?_)
 refine zI ?_ ?_ <;> intro hc15
 ·
  obtain ⟨i, rfl⟩ : ∃ i, j = i + 1 := ⟨j - 1, by have h := hc15; simp at h; omega⟩
  obtain rfl : q = (i : Int) := by omega
  refine X_skip (at_then (X_seq (X_block (zR (zM ?_)))))
  refine zM ?_
  refine zM ?_
  refine zQ slt_23 ?_
  refine zB ?_
  refine XO_makeSlice mkt_23 rfl rfl (by omega) (by decide) rfl rfl (fun b_23 => ?_)
  refine zV (ev_indexOwn rfl rfl slt_22 (fun hg => by omega)) ?_
  refine XO_store rfl rfl szt_23 rfl rfl (by repeat (first | exact Upd.here | apply Upd.there | apply upd_app)) (bltH (by omega)) ?_
  refine XO_nil ?_
  have e1 : ((ys.length : Nat) : Int) + 1 = ((ys.length + 1 : Nat) : Int) := rfl
  rw [e1, show ((ys.length + 1 : Nat) : Int).toNat = ys.length + 1 from rfl, cellsI_new, rngL_zero, cellsH_set]
  have hs2_at : (hs.set i ⟨some ⟨b_23, 0, none⟩, ys.length + 1, ys.length + 1⟩)[i]? = some ⟨some ⟨b_23, 0, none⟩, ys.length + 1, ys.length + 1⟩ := by rw [List.getElem?_set_self (by omega)]
  have hM2 : MatQ J1 xs ys (hs.set i ⟨some ⟨b_23, 0, none⟩, ys.length + 1, ys.length + 1⟩) (i + 1) := hM.put
  refine at_then (X_seq ?_)
  refine X_locEq (loc' := [(b_23, .cells (cellsI (rngL (ys.length + 1) (doneF xs ys i (ys.length + 1)))) 3 (0, 0)), (b_11, .cells (cellsH (hs.set i ⟨some ⟨b_23, 0, none⟩, ys.length + 1, ys.length + 1⟩)) 23 (0, 0))]) (by rw [done_start (a := xs) (i := i)]; rfl) ?_
  refine X_region (zM ?_)
  refine zQ slt_23 ?_
  refine zA (zN (X_block ?_))
  refine X_loopT [(0, _), (1, _), (5, _), (6, _)] (.cons rfl (.cons rfl (.cons rfl (.cons rfl .nil)))) (fun T L0 mz E I' loc' => ∃ (j2 : Nat) (q2 : Int), mz = (j2 + 1) ∧ E = (7, .int .i64 q2) :: T ∧ J1 = I' ∧ [(b_23, .cells (cellsI (rngL (ys.length + 1) (doneF xs ys i j2))) 3 (0, 0)), (b_11, .cells (cellsH (hs.set i ⟨some ⟨b_23, 0, none⟩, ys.length + 1, ys.length + 1⟩)) 23 (0, 0))] = loc' ∧ q2 = (j2 : Int) - 1 ∧ j2 ≤ ys.length + 1) _ _ _ _ ⟨ys.length + 1, _, rfl, rfl, rfl, rfl, by omega, Nat.le_refl _⟩ (.cons rfl (.cons rfl (.cons rfl (.cons rfl (.cons rfl .nil))))) (HLe.refl _) rfl ?_
  rintro mz E I' loc' ⟨j2, q2, rfl, rfl, rfl, rfl, hq2, hj2⟩
  refine X_seq (zR (zM ?_))
  refine zC (zN ?_)
  refine zI ?_ ?_ <;> intro hc28
  ·
   obtain ⟨k, rfl⟩ : ∃ k, j2 = k + 1 := ⟨j2 - 1, by have h := hc28; simp at h; omega⟩
   obtain rfl : q2 = (k : Int) := by omega
   refine X_skip (at_then (X_seq (X_block (X_seq (zR (zM ?_))))))
   refine zM ?_
   refine zQ slt_23 ?_
   refine zC ?_
   refine zM ?_
   refine XO_pushF 4 rfl rfl rfl ?_
   refine zJ (ev_move rfl) ?_
   refine zJ (ev_move rfl) ?_
   refine zJ (ev_lenS rfl slt_23) ?_
   refine zJ (ev_cmp rfl rfl rfl) ?_
   refine XO_or0 rfl rfl rfl rfl rfl ?_
   refine zN ?_
   refine zI ?_ ?_ <;> intro hc40
   ·
    have hend : i = xs.length ∨ k = ys.length := by have h := hc40; simp at h; omega
    refine zR (zM ?_)
    refine zM ?_
    refine zV (ev_indexOwn rfl rfl slt_22 (fun hg => by omega)) ?_
    refine zV (ev_load rfl sct_23 (fun hg => by exact Cell.there (show Cell _ _ b_11 (i * 1) (.slice (some ⟨b_23, 0, none⟩) (ys.length + 1) (ys.length + 1)) from cellH_at hs2_at))) ?_
    refine zM ?_
    refine zM ?_
    refine zQ slt_23 ?_
    refine zM ?_
    refine zB ?_
    refine zM ?_
    refine zQ slt_23 ?_
    refine zB ?_
    refine zM ?_
    refine zB ?_
    refine zB ?_
    refine zV (ev_indexOwn rfl rfl slt_23 (fun hg => by omega)) ?_
    refine XO_store rfl rfl szt_3 rfl rfl (by repeat (first | exact Upd.here | apply Upd.there | apply upd_app)) (bltI (by rw [rngL_len]; omega)) ?_
    refine XO_nil ?_
    rw [cellsI_set, rngL_set, done_step (LC_end (by omega) (by omega) hend).symm]
    refine at_then (X_exit (at_then_e (at_block_hit (at_then (X_region (zM ?_))))))
    refine zB ?_
    refine zA (XO_nil ?_)
    exact at_met2 _ _ ⟨k + 1, by omega, k, _, rfl, rfl, rfl, rfl, by omega, by omega⟩ (.cons rfl (.cons rfl (.cons rfl (.cons rfl (.cons rfl .nil))))) (by repeat (first | exact .refl | exact subL_left | refine subL_app ?_ | refine .drop ?_ | refine subL_add ?_))
   have hlt : i < xs.length ∧ k < ys.length := by have h := hc40; simp at h; omega
   obtain ⟨x, hx⟩ := hS.at hlt.1
   obtain ⟨y, hy⟩ := hT.at hlt.2
   obtain ⟨h3, hs3_at, h3n, hRow3⟩ := hM2 (i + 1) (Nat.le_refl _) (by omega)
   have b1 := LC_in xs ys (i + 1) (k + 1)
   have b2 := LC_in xs ys (i + 1) k
   have b3 := LC_in xs ys i (k + 1)
   have b4 := besN_in x y
   have e3 : doneF xs ys i (k + 1) (k + 1) = LC xs ys i (k + 1) := done_at
   refine X_skip (at_then ?_)
   apply cutD
   ·
    intro key
    have hD := HLe.refl J1
    refine X_noP ?_
    refine X_drawS J1 [(b_11, .cells (cellsH (hs.set i ⟨some ⟨b_23, 0, none⟩, ys.length + 1, ys.length + 1⟩)) 23 (0, 0))] mixed ?_
    refine zT 0 rfl (ev_move rfl) hD ?_
    refine zT 1 rfl (ev_move rfl) hD ?_
    refine zT 2 rfl (ev_indexOwn rfl rfl slt_22 (fun hg => by omega)) hD ?_
    refine zT 3 rfl (ev_load rfl sct_23 (fun hg => by exact (show Cell _ _ b_11 (i * 1) (.slice (some ⟨b_23, 0, none⟩) (ys.length + 1) (ys.length + 1)) from cellH_at hs2_at))) hD ?_
    refine zT 4 rfl (ev_move rfl) hD ?_
    refine zT 5 rfl (ev_move rfl) hD ?_
    refine zT 6 rfl (ev_move rfl) hD ?_
    refine zT 7 rfl (zX slt_23 hS) hD ?_
    refine zT 8 rfl (ev_load rfl sct_3 (fun hg => by exact Sl.get0 hS hx rfl)) hD ?_
    refine zT 9 rfl (ev_move rfl) hD ?_
    refine zT 10 rfl (ev_move rfl) hD ?_
    refine zT 11 rfl (zX slt_23 hT) hD ?_
    refine zT 12 rfl (ev_load rfl sct_3 (fun hg => by exact Sl.get0 hT hy rfl)) hD ?_
    refine zT 14 rfl (ev_move rfl) hD ?_
    refine zT 15 rfl (ev_move rfl) hD ?_
    refine zT 16 rfl (ev_arB rfl rfl rfl (fun hg => by omega)) hD ?_
    refine zT 17 rfl (ev_indexOwn rfl rfl slt_22 (fun hg => by omega)) hD ?_
    refine zT 18 rfl (ev_load rfl sct_23 (fun hg => by exact cellH_at (k := i + 1) hs3_at)) hD ?_
    refine zT 19 rfl (ev_move rfl) hD ?_
    refine zT 20 rfl (ev_arB rfl rfl rfl (fun hg => by omega)) hD ?_
    refine zT 21 rfl (zX slt_23 hRow3) hD ?_
    refine zT 22 rfl (ev_load rfl sct_3 (fun hg => by exact Sl.get0 (k := k + 1) hRow3 (rngL_at (show k + 1 < _ by omega)) rfl)) hD ?_
    refine zT 24 rfl (ev_move rfl) hD ?_
    refine zT 25 rfl (ev_move rfl) hD ?_
    refine zT 26 rfl (ev_arB rfl rfl rfl (fun hg => by omega)) hD ?_
    refine zT 27 rfl (ev_indexOwn rfl rfl slt_22 (fun hg => by omega)) hD ?_
    refine zT 28 rfl (ev_load rfl sct_23 (fun hg => by exact cellH_at (k := i + 1) hs3_at)) hD ?_
    refine zT 29 rfl (ev_move rfl) hD ?_
    refine zT 30 rfl (zX slt_23 hRow3) hD ?_
    refine zT 31 rfl (ev_load rfl sct_3 (fun hg => by exact Sl.get0 (k := k) hRow3 (rngL_at (show k < _ by omega)) rfl)) hD ?_
    refine zT 32 rfl (ev_arB rfl rfl rfl (fun hg => by omega)) hD ?_
    refine zT 33 rfl (ev_move rfl) hD ?_
    refine zT 34 rfl (ev_move rfl) hD ?_
    refine zT 35 rfl (ev_indexOwn rfl rfl slt_22 (fun hg => by omega)) hD ?_
    refine zT 36 rfl (ev_load rfl sct_23 (fun hg => by exact (show Cell _ _ b_11 (i * 1) (.slice (some ⟨b_23, 0, none⟩) (ys.length + 1) (ys.length + 1)) from cellH_at hs2_at))) hD ?_
    refine zT 37 rfl (ev_move rfl) hD ?_
    refine zT 38 rfl (ev_arB rfl rfl rfl (fun hg => by omega)) hD ?_
    refine zT 39 rfl (ev_indexOwn rfl rfl slt_23 (fun hg => by omega)) hD ?_
    refine XD_two 13 40 rfl rfl (by kernel_rfl) ?_ ?_
    ·
     refine XO_callV0 (cap := []) (vs := [.int .i64 x, .int .i64 y]) (v := .int .i64 (besN x y)) ?_ ?_ fun_104 ?_ ?_ ?_ ?_
     ·
      exact rfl
     ·
      exact rfl
     ·
      exact q_beside _ x y
     ·
      exact rfl
     ·
      exact rfl
     refine XO_nil ?_
     refine zD hD ?_
     refine zT 23 rfl (ev_arB rfl rfl rfl (fun hg => by omega)) hD ?_
     refine XD_one 40 rfl (by kernel_rfl) ?_
     refine zV (ev_load rfl sct_3 (fun hg => by exact cellI_at (k := k + 1) (rngL_at (show k + 1 < _ by omega)))) ?_
     refine XO_nil ?_
     refine zD hD ?_
     refine zT 41 rfl (ev_arB rfl rfl rfl (fun hg => by omega)) hD ?_
     refine zT 42 rfl (ev_min3 rfl rfl rfl) hD ?_
     refine zT 43 rfl (ev_indexOwn rfl rfl slt_23 (fun hg => by omega)) hD ?_
     refine XD_one 44 rfl (by kernel_rfl) ?_
     refine XO_store rfl rfl szt_3 rfl rfl (by repeat (first | exact Upd.here | apply Upd.there | apply upd_app)) (bltI (by rw [rngL_len]; omega)) ?_
     refine XO_nil ?_
     refine zD hD ?_
     refine XD_done (by kernel_rfl) ?_
     refine at_noP ?_
     first | exact key.out | exact at_sub key
    refine zV (ev_load rfl sct_3 (fun hg => by exact cellI_at (k := k + 1) (rngL_at (show k + 1 < _ by omega)))) ?_
    refine XO_nil ?_
    refine zD hD ?_
    refine zT 41 rfl (ev_arB rfl rfl rfl (fun hg => by omega)) hD ?_
    refine XD_one 13 rfl (by kernel_rfl) ?_
    refine XO_callV0 (cap := []) (vs := [.int .i64 x, .int .i64 y]) (v := .int .i64 (besN x y)) ?_ ?_ fun_104 ?_ ?_ ?_ ?_
    ·
     exact rfl
    ·
     exact rfl
    ·
     exact q_beside _ x y
    ·
     exact rfl
    ·
     exact rfl
    refine XO_nil ?_
    refine zD hD ?_
    refine zT 23 rfl (ev_arB rfl rfl rfl (fun hg => by omega)) hD ?_
    refine zT 42 rfl (ev_min3 rfl rfl rfl) hD ?_
    refine zT 43 rfl (ev_indexOwn rfl rfl slt_23 (fun hg => by omega)) hD ?_
    refine XD_one 44 rfl (by kernel_rfl) ?_
    refine XO_store rfl rfl szt_3 rfl rfl (by repeat (first | exact Upd.here | apply Upd.there | apply upd_app)) (bltI (by rw [rngL_len]; omega)) ?_
    refine XO_nil ?_
    refine zD hD ?_
    refine XD_done (by kernel_rfl) ?_
    refine at_noP ?_
    first | exact key.out | exact at_sub key
   refine at_locEq (loc' := [(b_23, .cells (cellsI (rngL (ys.length + 1) (doneF xs ys i k))) 3 (0, 0)), (b_11, .cells (cellsH (hs.set i ⟨some ⟨b_23, 0, none⟩, ys.length + 1, ys.length + 1⟩)) 23 (0, 0))]) (by rw [cellsI_set, rngL_set, done_at, done_step (LC_step hx hy).symm]) ?_
   refine at_block_n (at_then (X_region (zM ?_)))
   refine zB ?_
   refine zA (XO_nil ?_)
   exact at_met2 _ _ ⟨k + 1, by omega, k, _, rfl, rfl, rfl, rfl, by omega, by omega⟩ (.cons rfl (.cons rfl (.cons rfl (.cons rfl (.cons rfl .nil))))) (by repeat (first | exact .refl | exact subL_left | refine subL_app ?_ | refine .drop ?_ | refine subL_add ?_))
  obtain rfl : j2 = 0 := by have h := hc28; simp at h; omega
  refine X_exit (at_then_e (at_then_e (at_block_hit (at_block_n (at_then ?_)))))
  refine X_locEq (loc' := [(b_23, .cells (cellsI (rowL xs ys i)) 3 (0, 0)), (b_11, .cells (cellsH (hs.set i ⟨some ⟨b_23, 0, none⟩, ys.length + 1, ys.length + 1⟩)) 23 (0, 0))]) (by rw [done_end]) ?_
  refine X_freeze .here (fun I3 hI3 hb3 => ?_)
  have hS := hS.mono hI3; have hT := hT.mono hI3; have hM := hM.mono hI3; have hM2 := hM2.mono hI3; have hIc := hIc.trans hI3; have hB0 := hB0.trans hI3
  have hRow : Sl I3 1 encI (some ⟨b_23, 0, none⟩) (ys.length + 1) (ys.length + 1) (rowL xs ys i) := Sl.lit _ rngL_len encI_len hb3
  have hM3 := hM2.next hs2_at rfl hRow
  refine X_region (zM ?_)
  refine zB ?_
  refine zA (XO_nil ?_)
  exact at_met2 _ _ ⟨i + 1, by omega, i, _, (hs.set i ⟨some ⟨b_23, 0, none⟩, ys.length + 1, ys.length + 1⟩), rfl, rfl, hB0, rfl, by omega, by omega, by rw [List.length_set]; exact hhl, hM3⟩ (.cons rfl (.cons rfl (.cons rfl (.cons rfl .nil)))) (by repeat (first | exact .refl | exact subL_left | refine subL_app ?_ | refine .drop ?_ | refine subL_add ?_))
 obtain rfl : j = 0 := by have h := hc15; simp at h; omega
 refine X_exit (at_then_e (at_then_e (at_block_hit (at_then (X_seq ?_)))))
 refine X_freeze .here (fun I4 hI4 hb4 => ?_)
 have hS := hS.mono hI4; have hT := hT.mono hI4; have hM := hM.mono hI4; have hIc := hIc.trans hI4; have hB0 := hB0.trans hI4
 have hHs : Sl I4 1 encH (some ⟨b_11, 0, none⟩) (xs.length + 1) (xs.length + 1) hs := Sl.lit _ hhl encH_len hb4
 refine X_region (zM ?_)
 refine zA (zN (X_ret ?_))
 exact at_ret1 rfl rfl (fun w hw => ⟨_, _, [], rfl, hIc, hw.drop, rfl, _, _, rfl, hM.all hhl hHs⟩)
end
section
open Go Go.Kn Go.Proofs
def zHd : Hd := ⟨none, 0, 0⟩
def rowM (a b : List Int) (r : Nat) : List Int := if r ≤ a.length then rowL a b r else []
theorem rowM_sl {I : HMap} {av : Option Addr} {c : Nat} {hs : List Hd} {a b : List Int} (h : SlH I av (a.length + 1) c hs (matL a b)) (r : Nat) : Sl I 1 encI (hs.getD r zHd).a (hs.getD r zHd).n (hs.getD r zHd).c (rowM a b r) := by
 have hl : hs.length = a.length + 1 := by rw [h.2.1]; unfold matL; simp
 unfold rowM
 split
 ·
  rename_i hr
  have e := some_getD (d := zHd) (k := r) hl (by omega)
  exact h.2.2 r _ _ e (mat_at hr)
 ·
  have e : hs.getD r zHd = zHd := by rw [List.getD_eq_getElem?_getD, List.getElem?_eq_none (by omega)]; rfl
  rw [e]; exact .nil
theorem rowM_at {a b : List Int} {r k : Nat} (hr : r ≤ a.length) (hk : k ≤ b.length) : (rowM a b r)[k]? = some (LC a b r k) := by unfold rowM rowL; rw [if_pos hr]; exact rngL_at (by omega)
theorem rowM_n {I : HMap} {av : Option Addr} {c : Nat} {hs : List Hd} {a b : List Int} (h : SlH I av (a.length + 1) c hs (matL a b)) (r : Nat) (hr : r ≤ a.length) : (hs.getD r zHd).n = b.length + 1 := by
 have h1 := (rowM_sl h r).len
 unfold rowM rowL at h1
 rw [if_pos hr, rngL_len] at h1; omega
theorem both_eq (a b : List Int) (i k : Nat) : bothP a b i k = ((decide ((i : Int) < (a.length : Int)) && decide ((k : Int) < (b.length : Int))) && (LC a b i k == besN (a.getD i 0) (b.getD k 0) + LC a b (i + 1) (k + 1))) := by
 unfold bothP; simp only [Int.ofNat_lt]
theorem one_eq (a b : List Int) (i k : Nat) : oneP a b i k = (decide ((i : Int) < (a.length : Int)) && (LC a b i k == 2 + LC a b (i + 1) k)) := by
 unfold oneP; simp only [Int.ofNat_lt]
end
section
open Go Go.Kn Go.Proofs
theorem fun_102 : Fun Tryz.prog 102 := .of Tryz.func102 (by kernel_rfl) (by kernel_rfl)
theorem fun_103 : Fun Tryz.prog 103 := .of Tryz.func103 (by kernel_rfl) (by kernel_rfl)
theorem q_Pair {I : HMap} {av : Option Addr} {n c : Nat} {xs : List Int} (hS : Sl I 1 encI av n c xs) {bv : Option Addr} {n2 c2 : Nat} {ys : List Int} (hT : Sl I 1 encI bv n2 c2 ys) (hn : n ≤ 1000) (hn2 : n2 ≤ 1000) : RetM Tryz.prog 62 [.slice av n c, .slice bv n2 c2] I [] (PairQ xs ys) := by
 intro g H w hw
 refine enter Tryz.func62 rfl Tryz.ntmps62 rfl hw ?_
 have hIc := HLe.refl I
 have hlS := hS.len
 subst hlS
 have hlT := hT.len
 subst hlT
 refine zR (zA ?_)
 refine zA ?_
 refine zA (zN (X_seq (zR ?_)))
 refine zM ?_
 refine zQ slt_23 ?_
 refine zC ?_
 refine zM ?_
 refine XO_pushF 3 rfl rfl rfl ?_
 refine zJ (ev_move rfl) ?_
 refine zJ (ev_lenS rfl slt_23) ?_
 refine zJ (ev_cmp rfl rfl rfl) ?_
 refine XO_or0 rfl rfl rfl rfl rfl ?_
 refine zN ?_
 refine zI ?_ ?_ <;> intro hc18
 ·
  have hlong : xs.length > 64 ∨ ys.length > 64 := by have h := hc18; simp at h; omega
  refine zR (zA ?_)
  refine zA ?_
  refine zA (zN (X_ret (at_then_r ?_)))
  first
  | exact at_ret3 rfl rfl rfl rfl (fun w hw => ⟨_, _, [], rfl, hIc, hw.drop, rfl, _, none, 0, by rw [pairE_1 hlong, pairR_bad (by rw [pairE_1 hlong]; decide)]; rfl, by rw [pairR_bad (by rw [pairE_1 hlong]; decide)]; exact .nil⟩)
 have hlong : ¬ (xs.length > 64 ∨ ys.length > 64) := by have h := hc18; simp at h; omega
 refine X_skip (at_then (X_seq (zR (zM ?_))))
 refine XO_callV0 (cap := []) (vs := [_]) rfl rfl fun_102 (q_all hS (by omega)) rfl rfl ?_
 refine zO ?_
 refine zM ?_
 refine XO_pushF 3 rfl rfl rfl ?_
 refine zJ (ev_move rfl) ?_
 refine XO_callV1 (cap := []) (vs := [_]) rfl rfl fun_102 (fun hg => q_all hT (by omega)) (.some rfl rfl rfl rfl gbf) rfl rfl ?_
 refine zJ (ev_not rfl) ?_
 refine XO_or0 rfl rfl rfl rfl rfl ?_
 refine zN ?_
 refine zI ?_ ?_ <;> intro hc26
 ·
  have hyes : (xs.any badC || ys.any badC) = true := by have h := hc26; simpa using h
  refine zR (zA ?_)
  refine zA ?_
  refine zA (zN (X_ret (at_then_r ?_)))
  first
  | exact at_ret3 rfl rfl rfl rfl (fun w hw => ⟨_, _, [], rfl, hIc, hw.drop, rfl, _, none, 0, by rw [pairE_2 hlong hyes, pairR_bad (by rw [pairE_2 hlong hyes]; decide)]; rfl, by rw [pairR_bad (by rw [pairE_2 hlong hyes]; decide)]; exact .nil⟩)
 have hno2 : (xs.any badC || ys.any badC) = false := by have h := hc26; simpa using h
 refine X_skip (at_then (zR (zM ?_)))
 refine zM ?_
 refine XO_callM (cap := []) (vs := [_, _]) rfl rfl fun_103 .nil (q_rest hS hT (by omega) (by omega)) rfl rfl ?_
 rintro vv1 I1 L1 hI1 ⟨rfl, aM, cM, rfl, hMN⟩
 have hS := hS.mono hI1; have hT := hT.mono hI1; have hIc := hIc.trans hI1
 refine zA (XO_nil ?_)
 obtain ⟨hs, hMH⟩ := hMN
 have hHm := hMH.1
 have hMl : hs.length = xs.length + 1 := hHm.len
 have hMat := rowM_sl hMH
 have hMn := rowM_n hMH
 refine at_then (zR (zA ?_))
 refine zN (zR ?_)
 refine zA ?_
 refine zN (zR ?_)
 refine zA (zN (X_seq (X_block ?_)))
 refine X_loopT [(0, _), (1, _), (7, _)] (.cons rfl (.cons rfl (.cons rfl .nil))) (fun T L0 mz E I' loc' => ∃ (i k : Nat) (pre : List (Int × Int)) (v8 : Value) (q : Nat) (L : Go.Kn.Loc), mz = (xs.length - i + (ys.length - k)) ∧ E = (8, v8) :: (9, .int .i64 i) :: (10, .int .i64 k) :: T ∧ I1 = I' ∧ L = loc' ∧ i ≤ xs.length ∧ k ≤ ys.length ∧ PaQ xs ys pre i k ∧ OwnS 94 2 v8 q (pre.flatMap encQ) L ∧ q ≤ i + k) _ _ _ _ ⟨0, 0, [], _, 0, [], rfl, rfl, rfl, rfl, Nat.zero_le _, Nat.zero_le _, .start, OwnS.nil, Nat.le_refl _⟩ (.cons rfl (.cons rfl (.cons rfl (.cons rfl (.cons rfl (.cons rfl .nil)))))) (HLe.refl _) rfl ?_
 rintro mz E I' loc' ⟨i, k, pre, v8, q, L, rfl, rfl, rfl, rfl, hi, hk, hpq, hO, hq⟩
 refine X_seq (zR (zM ?_))
 refine zM ?_
 refine zQ slt_23 ?_
 refine zC ?_
 refine zM ?_
 refine XO_pushF 4 rfl rfl rfl ?_
 refine zJ (ev_move rfl) ?_
 refine zJ (ev_move rfl) ?_
 refine zJ (ev_lenS rfl slt_23) ?_
 refine zJ (ev_cmp rfl rfl rfl) ?_
 refine XO_or0 rfl rfl rfl rfl rfl ?_
 refine zN ?_
 refine zI ?_ ?_ <;> intro hc39
 ·
  have hor : i < xs.length ∨ k < ys.length := by have h := hc39; simp at h; omega
  have b1 := LC_in xs ys (i + 1) (k + 1)
  have b2 := LC_in xs ys (i + 1) k
  have b4 := besN_in (xs.getD i 0) (ys.getD k 0)
  refine X_skip (at_then (X_block (X_seq (X_seq ?_))))
  refine X_draw mixed (by kernel_rfl) ?_
  refine XQ_v0 (ev_move rfl) rfl rfl rfl ?_
  refine XQ_v0 (ev_move rfl) rfl rfl rfl ?_
  refine XQ_v0 (ev_lenS rfl slt_23) rfl rfl rfl ?_
  refine XQ_v0 (ev_cmp rfl rfl rfl) rfl rfl rfl ?_
  refine XQ_v0 (ev_move rfl) rfl rfl rfl ?_
  refine XQ_pushT 4 rfl rfl rfl ?_
  refine XQ_v1 (ev_move rfl) (.some rfl rfl rfl rfl gbt) rfl rfl rfl ?_
  refine XQ_v1 (ev_move rfl) (.some rfl rfl rfl rfl gbt) rfl rfl rfl ?_
  refine XQ_v1 (ev_lenS rfl slt_23) (.some rfl rfl rfl rfl gbt) rfl rfl rfl ?_
  refine XQ_v1 (ev_cmp rfl rfl rfl) (.some rfl rfl rfl rfl gbt) rfl rfl rfl ?_
  refine XQ_and0 rfl rfl rfl rfl rfl ?_
  refine XQ_v0 (ev_move rfl) rfl rfl rfl ?_
  refine XQ_pushT 10 rfl rfl rfl ?_
  refine XQ_v1 (ev_move rfl) (.some rfl rfl rfl rfl gbt) rfl rfl rfl ?_
  refine XQ_v1 (ev_move rfl) (.some rfl rfl rfl rfl gbt) rfl rfl rfl ?_
  refine XQ_v1 (ev_indexSl rfl rfl slt_22 hHm (fun hg => by omega)) (.some rfl rfl rfl rfl gbt) rfl rfl rfl ?_
  refine XQ_v1 (ev_load rfl sct_23 (fun hg => by exact Sl.get0 (k := i) hHm (some_getD (d := zHd) hMl (by simp [conj] at hg; omega)) rfl)) (.some rfl rfl rfl rfl gbt) rfl rfl rfl ?_
  refine XQ_v1 (ev_move rfl) (.some rfl rfl rfl rfl gbt) rfl rfl rfl ?_
  refine XQ_v1 (ev_indexSl rfl rfl slt_23 (hMat i) (fun hg => by (simp [conj] at hg; have q1 := hMn i (by omega); omega))) (.some rfl rfl rfl rfl gbt) rfl rfl rfl ?_
  refine XQ_v1 (ev_load rfl sct_3 (fun hg => by exact Sl.get0 (k := k) (hMat i) (rowM_at (by simp [conj] at hg; omega) (by simp [conj] at hg; omega)) rfl)) (.some rfl rfl rfl rfl gbt) rfl rfl rfl ?_
  refine XQ_v1 (ev_move rfl) (.some rfl rfl rfl rfl gbt) rfl rfl rfl ?_
  refine XQ_v1 (ev_move rfl) (.some rfl rfl rfl rfl gbt) rfl rfl rfl ?_
  refine XQ_v1 (ev_indexSl rfl rfl slt_23 hS (fun hg => by (simp [conj] at hg; omega))) (.some rfl rfl rfl rfl gbt) rfl rfl rfl ?_
  refine XQ_v1 (ev_load rfl sct_3 (fun hg => by exact Sl.get0 (k := i) hS (some_getD (d := 0) rfl (by simp [conj] at hg; omega)) rfl)) (.some rfl rfl rfl rfl gbt) rfl rfl rfl ?_
  refine XQ_v1 (ev_move rfl) (.some rfl rfl rfl rfl gbt) rfl rfl rfl ?_
  refine XQ_v1 (ev_move rfl) (.some rfl rfl rfl rfl gbt) rfl rfl rfl ?_
  refine XQ_v1 (ev_indexSl rfl rfl slt_23 hT (fun hg => by (simp [conj] at hg; omega))) (.some rfl rfl rfl rfl gbt) rfl rfl rfl ?_
  refine XQ_v1 (ev_load rfl sct_3 (fun hg => by exact Sl.get0 (k := k) hT (some_getD (d := 0) rfl (by simp [conj] at hg; omega)) rfl)) (.some rfl rfl rfl rfl gbt) rfl rfl rfl ?_
  refine XQ_callV1 (cap := []) (vs := [_, _]) rfl rfl fun_104 (fun hg => q_beside _ _ _) (.some rfl rfl rfl rfl gbt) rfl rfl ?_
  refine XQ_v1 (ev_move rfl) (.some rfl rfl rfl rfl gbt) rfl rfl rfl ?_
  refine XQ_v1 (ev_move rfl) (.some rfl rfl rfl rfl gbt) rfl rfl rfl ?_
  refine XQ_v1 (ev_arB rfl rfl rfl (fun hg => by omega)) (.some rfl rfl rfl rfl gbt) rfl rfl rfl ?_
  refine XQ_v1 (ev_indexSl rfl rfl slt_22 hHm (fun hg => by (simp [conj] at hg; omega))) (.some rfl rfl rfl rfl gbt) rfl rfl rfl ?_
  refine XQ_v1 (ev_load rfl sct_23 (fun hg => by exact Sl.get0 (k := i + 1) hHm (some_getD (d := zHd) hMl (by simp [conj] at hg; omega)) rfl)) (.some rfl rfl rfl rfl gbt) rfl rfl rfl ?_
  refine XQ_v1 (ev_move rfl) (.some rfl rfl rfl rfl gbt) rfl rfl rfl ?_
  refine XQ_v1 (ev_arB rfl rfl rfl (fun hg => by omega)) (.some rfl rfl rfl rfl gbt) rfl rfl rfl ?_
  refine XQ_v1 (ev_indexSl rfl rfl slt_23 (hMat (i + 1)) (fun hg => by (simp [conj] at hg; have q1 := hMn (i + 1) (by omega); omega))) (.some rfl rfl rfl rfl gbt) rfl rfl rfl ?_
  refine XQ_v1 (ev_load rfl sct_3 (fun hg => by exact Sl.get0 (k := k + 1) (hMat (i + 1)) (rowM_at (by simp [conj] at hg; omega) (by simp [conj] at hg; omega)) rfl)) (.some rfl rfl rfl rfl gbt) rfl rfl rfl ?_
  refine XQ_v1 (ev_arB rfl rfl rfl (fun hg => by omega)) (.some rfl rfl rfl rfl gbt) rfl rfl rfl ?_
  refine XQ_v1 (ev_cmp rfl rfl rfl) (.some rfl rfl rfl rfl gbt) rfl rfl rfl ?_
  refine XQ_and0 rfl rfl rfl rfl rfl ?_
  refine XQ_nil ?_
  refine at_then ?_
  refine zI ?_ ?_ <;> intro hc78
  ·
   have hbo : bothP xs ys i k = true := (both_eq xs ys i k).trans hc78
   have h6 : i < xs.length ∧ k < ys.length := by unfold bothP at hbo; simp at hbo; omega
   refine zR (zM ?_)
   refine zB ?_
   refine zA ?_
   refine zN (zR ?_)
   refine zM ?_
   refine zB ?_
   refine zA ?_
   refine zN (zR ?_)
   refine zM ?_
   refine zM ?_
   refine zM ?_
   refine zV (ev_buildArr (ps := [(0, _), (1, _)]) [_, _] art_94 zt_94 rfl rfl) ?_
   refine XO_buildSlice (ps := [(0, _)]) (m := [encQ ((i : Int) + 1, (k : Int) + 1)]) elt_88 rfl (.cons rfl (.nil)) rfl (by simp [encQ_len]) (by decide) (by decide) rfl rfl (fun b_87 => ?_)
   refine XO_append (v := _) (ys := [((i : Int) + 1, (k : Int) + 1)].flatMap encQ) (L := L) rfl rfl elt_88 hO (by repeat (first | exact .cons .here .nil | exact split_all | exact split_app | apply split_cons | apply split_skip)) ⟨rfl, fun _ => rfl, by repeat (first | exact Cells.here | apply Cells.there | apply Cells.app)⟩ (one_Q [((i : Int) + 1, (k : Int) + 1)]) (by omega) rfl rfl ?_
   intro v9 L9 hO9 _; rw [← List.flatMap_append] at hO9
   refine zA (zN (X_exit (at_then_e (at_block_hit ?_))))
   exact at_met2 _ _ ⟨xs.length - (i + 1) + (ys.length - (k + 1)), by omega, i + 1, k + 1, _, _, _, L9, rfl, rfl, rfl, rfl, by omega, by omega, hpq.both hbo, hO9, by omega⟩ (.cons rfl (.cons rfl (.cons rfl (.cons rfl (.cons rfl (.cons rfl .nil)))))) (by repeat (first | exact .refl | exact subL_left | refine subL_app ?_ | refine .drop ?_ | refine subL_add ?_))
  have hbo : bothP xs ys i k = false := (both_eq xs ys i k).trans hc78
  refine X_skip (at_then (X_seq (X_seq ?_)))
  refine X_draw mixed (by kernel_rfl) ?_
  refine XQ_v0 (ev_move rfl) rfl rfl rfl ?_
  refine XQ_v0 (ev_move rfl) rfl rfl rfl ?_
  refine XQ_v0 (ev_lenS rfl slt_23) rfl rfl rfl ?_
  refine XQ_v0 (ev_cmp rfl rfl rfl) rfl rfl rfl ?_
  refine XQ_v0 (ev_move rfl) rfl rfl rfl ?_
  refine XQ_pushT 4 rfl rfl rfl ?_
  refine XQ_v1 (ev_move rfl) (.some rfl rfl rfl rfl gbt) rfl rfl rfl ?_
  refine XQ_v1 (ev_move rfl) (.some rfl rfl rfl rfl gbt) rfl rfl rfl ?_
  refine XQ_v1 (ev_indexSl rfl rfl slt_22 hHm (fun hg => by omega)) (.some rfl rfl rfl rfl gbt) rfl rfl rfl ?_
  refine XQ_v1 (ev_load rfl sct_23 (fun hg => by exact Sl.get0 (k := i) hHm (some_getD (d := zHd) hMl (by simp [conj] at hg; omega)) rfl)) (.some rfl rfl rfl rfl gbt) rfl rfl rfl ?_
  refine XQ_v1 (ev_move rfl) (.some rfl rfl rfl rfl gbt) rfl rfl rfl ?_
  refine XQ_v1 (ev_indexSl rfl rfl slt_23 (hMat i) (fun hg => by (simp [conj] at hg; have q1 := hMn i (by omega); omega))) (.some rfl rfl rfl rfl gbt) rfl rfl rfl ?_
  refine XQ_v1 (ev_load rfl sct_3 (fun hg => by exact Sl.get0 (k := k) (hMat i) (rowM_at (by simp [conj] at hg; omega) (by simp [conj] at hg; omega)) rfl)) (.some rfl rfl rfl rfl gbt) rfl rfl rfl ?_
  refine XQ_v1 (ev_move rfl) (.some rfl rfl rfl rfl gbt) rfl rfl rfl ?_
  refine XQ_v1 (ev_move rfl) (.some rfl rfl rfl rfl gbt) rfl rfl rfl ?_
  refine XQ_v1 (ev_arB rfl rfl rfl (fun hg => by omega)) (.some rfl rfl rfl rfl gbt) rfl rfl rfl ?_
  refine XQ_v1 (ev_indexSl rfl rfl slt_22 hHm (fun hg => by (simp [conj] at hg; omega))) (.some rfl rfl rfl rfl gbt) rfl rfl rfl ?_
  refine XQ_v1 (ev_load rfl sct_23 (fun hg => by exact Sl.get0 (k := i + 1) hHm (some_getD (d := zHd) hMl (by simp [conj] at hg; omega)) rfl)) (.some rfl rfl rfl rfl gbt) rfl rfl rfl ?_
  refine XQ_v1 (ev_move rfl) (.some rfl rfl rfl rfl gbt) rfl rfl rfl ?_
  refine XQ_v1 (ev_indexSl rfl rfl slt_23 (hMat (i + 1)) (fun hg => by (simp [conj] at hg; have q1 := hMn (i + 1) (by omega); omega))) (.some rfl rfl rfl rfl gbt) rfl rfl rfl ?_
  refine XQ_v1 (ev_load rfl sct_3 (fun hg => by exact Sl.get0 (k := k) (hMat (i + 1)) (rowM_at (by simp [conj] at hg; omega) (by simp [conj] at hg; omega)) rfl)) (.some rfl rfl rfl rfl gbt) rfl rfl rfl ?_
  refine XQ_v1 (ev_arB rfl rfl rfl (fun hg => by omega)) (.some rfl rfl rfl rfl gbt) rfl rfl rfl ?_
  refine XQ_v1 (ev_cmp rfl rfl rfl) (.some rfl rfl rfl rfl gbt) rfl rfl rfl ?_
  refine XQ_and0 rfl rfl rfl rfl rfl ?_
  refine XQ_nil ?_
  refine at_then ?_
  refine zI ?_ ?_ <;> intro hc111
  ·
   have hon : oneP xs ys i k = true := (one_eq xs ys i k).trans hc111
   have h6 : i < xs.length := by unfold oneP at hon; simp at hon; omega
   refine zR (zM ?_)
   refine zB ?_
   refine zA ?_
   refine zN (zR ?_)
   refine zM ?_
   refine zM ?_
   refine zV (ev_buildArr (ps := [(0, _), (1, _)]) [_, _] art_94 zt_94 rfl rfl) ?_
   refine XO_buildSlice (ps := [(0, _)]) (m := [encQ ((i : Int) + 1, (0 : Int))]) elt_88 rfl (.cons rfl (.nil)) rfl (by simp [encQ_len]) (by decide) (by decide) rfl rfl (fun b_117 => ?_)
   refine XO_append (v := _) (ys := [((i : Int) + 1, (0 : Int))].flatMap encQ) (L := L) rfl rfl elt_88 hO (by repeat (first | exact .cons .here .nil | exact split_all | exact split_app | apply split_cons | apply split_skip)) ⟨rfl, fun _ => rfl, by repeat (first | exact Cells.here | apply Cells.there | apply Cells.app)⟩ (one_Q [((i : Int) + 1, (0 : Int))]) (by omega) rfl rfl ?_
   intro v9 L9 hO9 _; rw [← List.flatMap_append] at hO9
   refine zA (zN (X_exit (at_then_e (at_block_hit ?_))))
   exact at_met2 _ _ ⟨xs.length - (i + 1) + (ys.length - (k)), by omega, i + 1, k, _, _, _, L9, rfl, rfl, rfl, rfl, by omega, by omega, hpq.one hbo hon, hO9, by omega⟩ (.cons rfl (.cons rfl (.cons rfl (.cons rfl (.cons rfl (.cons rfl .nil)))))) (by repeat (first | exact .refl | exact subL_left | refine subL_app ?_ | refine .drop ?_ | refine subL_add ?_))
  have hon : oneP xs ys i k = false := (one_eq xs ys i k).trans hc111
  have h6 := two_lt hi hk hor hbo hon
  refine X_skip (at_then (zR (zM ?_)))
  refine zB ?_
  refine zA (zN (X_region ?_))
  refine zM ?_
  refine zM ?_
  refine zV (ev_buildArr (ps := [(0, _), (1, _)]) [_, _] art_94 zt_94 rfl rfl) ?_
  refine XO_buildSlice (ps := [(0, _)]) (m := [encQ ((0 : Int), (k : Int) + 1)]) elt_88 rfl (.cons rfl (.nil)) rfl (by simp [encQ_len]) (by decide) (by decide) rfl rfl (fun b_124 => ?_)
  refine XO_append (v := _) (ys := [((0 : Int), (k : Int) + 1)].flatMap encQ) (L := L) rfl rfl elt_88 hO (by repeat (first | exact .cons .here .nil | exact split_all | exact split_app | apply split_cons | apply split_skip)) ⟨rfl, fun _ => rfl, by repeat (first | exact Cells.here | apply Cells.there | apply Cells.app)⟩ (one_Q [((0 : Int), (k : Int) + 1)]) (by omega) rfl rfl ?_
  intro v9 L9 hO9 _; rw [← List.flatMap_append] at hO9
  refine zA (XO_nil (at_block_n ?_))
  exact at_met2 _ _ ⟨xs.length - (i) + (ys.length - (k + 1)), by omega, i, k + 1, _, _, _, L9, rfl, rfl, rfl, rfl, by omega, by omega, hpq.two h6 hbo hon, hO9, by omega⟩ (.cons rfl (.cons rfl (.cons rfl (.cons rfl (.cons rfl (.cons rfl .nil)))))) (by repeat (first | exact .refl | exact subL_left | refine subL_app ?_ | refine .drop ?_ | refine subL_add ?_))
 have hnor : xs.length ≤ i ∧ ys.length ≤ k := by have h := hc39; simp at h; omega
 have hfin : pairL xs ys = pre := hpq.fin hnor.1 hnor.2
 have hE0 := pairE_3 hlong hno2
 have hR0 := (pairR_ok hE0).trans hfin
 refine X_exit (at_then_e (at_then_e (at_block_hit (at_then (zR (zM ?_))))))
 refine zV (ev_indexSl rfl rfl slt_22 hHm (fun hg => by omega)) ?_
 refine zV (ev_load rfl sct_23 (fun hg => by exact Sl.get0 (k := 0) hHm (some_getD (d := zHd) hMl (by omega)) rfl)) ?_
 refine zV (ev_indexSl rfl rfl slt_23 (hMat 0) (fun hg => by (have q1 := hMn 0 (by omega); omega))) ?_
 refine zV (ev_load rfl sct_3 (fun hg => by exact Sl.get0 (k := 0) (hMat 0) (rowM_at (by omega) (by omega)) rfl)) ?_
 refine zM ?_
 refine zA ?_
 refine zA ?_
 refine zA (zN (X_ret ?_))
 first
 | exact at_ret3 rfl rfl rfl rfl (fun w hw => by obtain ⟨I9, av9, c9, h1', h2', e9, h4'⟩ := OwnS.freeze (R := []) hO encQ_len (by decide) (by rw [List.append_nil]; exact hw.subL (by repeat (first | exact .refl | exact subL_left | exact subL_left (L := L) (R := []) | refine .drop ?_))); have hq9 := h4'.len; subst hq9; exact ⟨_, I9, [], rfl, hIc.trans h1', h2', rfl, _, av9, c9, by rw [hE0, hR0, e9], by rw [hR0]; exact h4'⟩)
end
end Go.Proofs.YthcffaheamikgaaGreatDoor
section
namespace Go.Kn
open Go
theorem OwnAll.ix {e size : Nat} : ∀ {ts : List (Value × Nat × List Value)} {L : Loc} {k : Nat} {t : Value × Nat × List Value}, OwnAll e size ts L → ts[k]? = some t →
  ∃ A Lt B, L = A ++ (Lt ++ B) ∧ OwnS e size t.1 t.2.1 t.2.2 Lt ∧ ∀ (t' : Value × Nat × List Value) (Lt' : Loc), OwnS e size t'.1 t'.2.1 t'.2.2 Lt' → OwnAll e size (ts.set k t') (A ++ (Lt' ++ B))
 | [], L, k, t, _, h => by simp at h
 | u :: ts, L, 0, t, ⟨L1, L2, e1, h1, h2⟩, h => by
  cases h; exact ⟨[], L1, L2, e1, h1, fun t' Lt' h' => ⟨Lt', L2, rfl, h', h2⟩⟩
 | u :: ts, L, k + 1, t, ⟨L1, L2, e1, h1, h2⟩, h => by
  obtain ⟨A, Lt, B, e2, h3, h4⟩ := OwnAll.ix (k := k) h2 (by simpa using h)
  exact ⟨L1 ++ A, Lt, B, by rw [e1, e2, List.append_assoc], h3, fun t' Lt' h' => ⟨L1, A ++ (Lt' ++ B), by rw [List.append_assoc], h1, h4 t' Lt' h'⟩⟩
theorem OwnAll.nils {e size : Nat} : ∀ n : Nat, OwnAll e size (List.replicate n nilT) []
 | 0 => rfl
 | n + 1 => ⟨[], [], rfl, OwnS.nil, OwnAll.nils n⟩
theorem perm_T {x : Nat × Obj} {A L B : Loc} : (x :: (A ++ (L ++ B))).Perm (L ++ (x :: (A ++ B))) := by
 refine .trans ?_ List.perm_middle.symm
 refine .cons _ ?_
 rw [← List.append_assoc, ← List.append_assoc]
 exact .append_right _ List.perm_append_comm
end Go.Kn
namespace Go.Proofs.YthcffaheamikgaaGreatDoor
open Go Go.Kn Go.Proofs
abbrev Tr3 := Value × Nat × List Value
def cellsT (ts : List Tr3) : Array Value := (ts.map (·.1)).toArray
theorem cellsT_set {ts : List Tr3} {i : Nat} {v : Value} {q : Nat} {w : List Value} : (cellsT ts).setIfInBounds ((i : Int).toNat * 1) v = cellsT (ts.set i (v, q, w)) := by
 unfold cellsT
 show (ts.map (·.1)).toArray.setIfInBounds (i * 1) v = _
 rw [Nat.mul_one, List.setIfInBounds_toArray, List.map_set]
theorem cellT_at {I : HMap} {b t' i : Nat} {ts : List Tr3} {t : Tr3} {l : Go.Kn.Loc} (h : ts[i]? = some t) : Cell I ((b, .cells (cellsT ts) t' (0, 0)) :: l) b ((i : Int).toNat * 1) t.1 := by
 refine Cell.here ?_
 rw [lget_eq]
 show (ts.map (·.1))[i * 1]? = _
 rw [Nat.mul_one, List.getElem?_map, h]; rfl
theorem bltT {ts : List Tr3} {i : Nat} (h : i < ts.length) : Nat.blt ((i : Int).toNat * 1) (cellsT ts).size = true := by
 show Nat.blt (i * 1) (cellsT ts).size = true
 unfold cellsT; rw [Nat.mul_one, Nat.blt_eq]; simpa using h
theorem cellsT_new (n : Nat) : (List.replicate n (Value.slice none 0 0)).toArray = cellsT (List.replicate n nilT) := by
 unfold cellsT; rw [List.map_replicate]; rfl
def RowT (ts : List Tr3) (n : Nat) (f : Nat → List Int) : Prop := ts.length = n ∧ ∀ (r : Nat) (t : Tr3), ts[r]? = some t → t.2.2 = (f r).flatMap encI ∧ t.2.1 = (f r).length
theorem RowT.new {n : Nat} : RowT (List.replicate n nilT) n (fun _ => []) := ⟨by simp, fun r t h => by
 rw [List.getElem?_replicate] at h; split at h <;> cases h; exact ⟨rfl, rfl⟩⟩
theorem RowT.ext {ts : List Tr3} {n : Nat} {f g : Nat → List Int} (h : RowT ts n f) (he : ∀ r, r < n → f r = g r) : RowT ts n g := ⟨h.1, fun r t ht => by
 have hr : r < n := by rw [← h.1]; exact (List.getElem?_eq_some_iff.1 ht).1
 rw [← he r hr]; exact h.2 r t ht⟩
theorem RowT.put {ts : List Tr3} {n i : Nat} {f : Nat → List Int} {g : List Int} {v : Value} {q : Nat} {w : List Value} (h : RowT ts n f) (hi : i < n) (e1 : w = g.flatMap encI) (e2 : q = g.length) : RowT (ts.set i (v, q, w)) n (updF f i g) := ⟨by rw [List.length_set]; exact h.1, fun r t ht => by
 by_cases hr : r = i
 ·
  subst hr
  rw [List.getElem?_set_self (by rw [h.1]; exact hi)] at ht; cases ht
  unfold updF; rw [if_pos rfl]; exact ⟨e1, e2⟩
 ·
  rw [List.getElem?_set_ne (by omega)] at ht
  unfold updF; rw [if_neg hr]; exact h.2 r t ht⟩
theorem RowT.rows {I : HMap} {ts : List Tr3} {n b t' : Nat} {f : Nat → List Int} {L : Go.Kn.Loc} (h : RowT ts n f) (hA : OwnAll 3 1 ts L) (hI : ∀ b o, (b, o) ∈ L → I b = some o) (hb : I b = some (.cells (cellsT ts) t' (0, 0))) : SlN I (some ⟨b, 0, none⟩) n n ((List.range n).map f) := by
 have key : ∀ r t, ts[r]? = some t → ∃ av c, t.1 = .slice av (f r).length c ∧ Sl I 1 encI av (f r).length c (f r) := fun r t ht => by
  obtain ⟨Lt, h1, h2⟩ := hA.each t (List.mem_of_getElem? ht)
  obtain ⟨e1, e2⟩ := h.2 r t ht
  rw [e1, e2] at h1
  exact h1.sl encI_len (by decide) (fun b o hm => hI b o (h2 _ hm))
 let hd : Tr3 → Hd := fun t => match t.1 with | .slice a m c => ⟨a, m, c⟩ | _ => zHd
 have he : ∀ r t, ts[r]? = some t → encH (hd t) = [t.1] := fun r t ht => by
  obtain ⟨av, c, e1, _⟩ := key r t ht
  show encH (match t.1 with | .slice a m c => ⟨a, m, c⟩ | _ => zHd) = _
  rw [e1]; rfl
 have hc : (cellsT ts) = ((ts.map hd).flatMap encH).toArray := by
  unfold cellsT
  congr 1
  have : ∀ (l : List Tr3), (∀ t ∈ l, encH (hd t) = [t.1]) → l.map (·.1) = (l.map hd).flatMap encH := fun l hl => by
   induction l with
   | nil => rfl
   | cons a l ih => rw [List.map_cons, List.map_cons, List.flatMap_cons, hl a (List.mem_cons_self ..), ← ih fun t ht => hl t (List.mem_cons_of_mem _ ht)]; rfl
  exact this ts fun t ht => by obtain ⟨r, hr⟩ := List.getElem?_of_mem ht; exact he r t hr
 refine ⟨ts.map hd, ?_, by simp [h.1], fun k x v h1 h2 => ?_⟩
 ·
  exact Sl.lit (ts.map hd) (by rw [List.length_map]; exact h.1) encH_len (by rw [← hc]; exact hb)
 ·
  rw [List.getElem?_map] at h1 h2
  obtain ⟨t, ht, e1⟩ := Option.map_eq_some_iff.1 h1
  obtain ⟨r, hr, e2⟩ := Option.map_eq_some_iff.1 h2
  have hrk : r = k := by
   rw [List.getElem?_eq_some_iff] at hr; obtain ⟨_, e⟩ := hr; simpa using e.symm
  subst hrk
  obtain ⟨av, c, e3, hS⟩ := key r t ht
  subst e1 e2
  show Sl I 1 encI (match t.1 with | .slice a m c => (⟨a, m, c⟩ : Hd) | _ => zHd).a (match t.1 with | .slice a m c => (⟨a, m, c⟩ : Hd) | _ => zHd).n (match t.1 with | .slice a m c => (⟨a, m, c⟩ : Hd) | _ => zHd).c (f r)
  rw [e3]; exact hS
def rwP (xs : List Wr) (k i : Nat) : Nat → List Int := fun r => if r < i then rowK xs r (k + 1) else rowK xs r k
theorem rwP_at {xs : List Wr} {k i : Nat} : rwP xs k i i = rowK xs i k := if_neg (by omega)
theorem rwP_end {xs : List Wr} {k : Nat} {r : Nat} (h : r < xs.length) : rwP xs k xs.length r = rowK xs r (k + 1) := if_pos h
theorem rwP_next {xs : List Wr} {k i : Nat} {g : List Int} (hg : g = rowK xs i k ++ blkW xs i k) (r : Nat) : updF (rwP xs k i) i g r = rwP xs k (i + 1) r := by
 unfold updF rwP
 by_cases h : r = i
 ·
  subst h; rw [if_pos rfl, if_pos (by omega), rowK_next, hg]
 ·
  rw [if_neg h]
  by_cases h2 : r < i
  ·
   rw [if_pos h2, if_pos (by omega)]
  ·
   rw [if_neg h2, if_neg (by omega)]
theorem updF_twice {β : Type} {f : Nat → β} {a : Nat} {u v : β} : updF (updF f a u) a v = updF f a v := by
 funext r; unfold updF; split <;> rfl
def thW (xs : List Wr) (i k : Nat) : List Int := aloK (alW xs i) (csW xs i) k
def atW (xs : List Wr) (k i : Nat) : Int := bsdF (pfW xs i) (csW xs i) k
def padW (xs : List Wr) (i k : Nat) : List Int := thW xs i k ++ List.replicate (wdW xs k - (thW xs i k).length) 0
theorem blk_1 {xs : List Wr} {i k : Nat} (h : ¬ k < (csW xs 0).length) : blkW xs i k = padW xs i k := by
 unfold blkW blkF padW thW alW; rw [if_neg h, List.append_nil]
theorem blk_2 {xs : List Wr} {k : Nat} (h : k < (csW xs 0).length) : blkW xs 0 k = padW xs 0 k ++ [(csW xs 0).getD k 0] := by
 unfold blkW blkF padW thW alW; rw [if_pos h, if_pos rfl]
theorem blk_3 {xs : List Wr} {i k : Nat} (h : k < (csW xs 0).length) (hi : 0 < i) : blkW xs i k = padW xs i k ++ [atW xs k i] := by
 unfold blkW blkF padW thW alW atW; rw [if_pos h, if_neg (by omega)]
theorem tab_blk {xs : List Wr} {i k : Nat} (h : k < (csW xs 0).length → i = 0) : (rowK xs i k ++ padW xs i k) ++ (if k < (csW xs 0).length ∧ i = 0 then [(csW xs 0).getD k 0] else []) = rowK xs i k ++ blkW xs i k := by
 rw [List.append_assoc]; congr 1
 by_cases hk : k < (csW xs 0).length
 ·
  have h0 := h hk
  subst h0
  rw [if_pos ⟨hk, rfl⟩, blk_2 hk]
 ·
  rw [if_neg (by omega), blk_1 hk, List.append_nil]
theorem wd_next {xs : List Wr} {i k : Nat} : maxI ((wdF (alW xs) i k : Nat) : Int) ((thW xs i k).length : Nat) = ((wdF (alW xs) (i + 1) k : Nat) : Int) := by
 unfold thW; rw [aloK_len]
 show _ = ((max (wdF (alW xs) i k) (cnt (alW xs i) k) : Nat) : Int)
 unfold maxI; split <;> omega
theorem wdW_b {xs : List Wr} (h : ∀ x ∈ xs, x.rs.length ≤ 64) (k : Nat) : wdW xs k ≤ 128 := wdF_le (fun j => alW_b h j) xs.length k
theorem thW_le {xs : List Wr} {i : Nat} (hi : i < xs.length) (k : Nat) : (thW xs i k).length ≤ wdW xs k := by unfold thW; rw [aloK_len]; exact wdF_ge (al := alW xs) hi
theorem padW_len {xs : List Wr} {i : Nat} (hi : i < xs.length) (k : Nat) : (padW xs i k).length = wdW xs k := by
 have := thW_le hi k
 unfold padW; rw [List.length_append, List.length_replicate]; omega
theorem rowK_b {xs : List Wr} (h : ∀ x ∈ xs, x.rs.length ≤ 64) {i : Nat} (hi : i < xs.length) : ∀ k, (rowK xs i k).length ≤ k * 129
 | 0 => Nat.zero_le _
 | k + 1 => by
  have h1 := rowK_b h hi k
  have h2 := wdW_b h k
  have h3 := padW_len hi k
  have h4 : (blkW xs i k).length ≤ wdW xs k + 1 := by
   by_cases hk : k < (csW xs 0).length
   ·
    by_cases h0 : i = 0
    ·
     subst h0; rw [blk_2 hk, List.length_append, h3]; simp
    ·
     rw [blk_3 hk (by omega), List.length_append, h3]; simp
   ·
    rw [blk_1 hk, h3]; omega
  rw [rowK_next, List.length_append]; omega
theorem rowK_lo {xs : List Wr} {i : Nat} (hi : i < xs.length) : (rowK xs i ((csW xs 0).length + 1)).length = loW xs := by rw [← row_blk hi]; unfold rowW; exact rngL_len
theorem rows_eq {xs : List Wr} : ((List.range xs.length).map fun r => rowK xs r ((csW xs 0).length + 1)) = (List.range xs.length).map (rowW xs) :=
 List.map_congr_left fun r hr => (row_blk (List.mem_range.1 hr)).symm
end Go.Proofs.YthcffaheamikgaaGreatDoor
end
namespace Go.Proofs.YthcffaheamikgaaGreatDoor
section
open Go Go.Kn Go.Proofs
theorem fun_60 : Fun Tryz.prog 60 := .of Tryz.func60 (by kernel_rfl) (by kernel_rfl)
theorem fun_61 : Fun Tryz.prog 61 := .of Tryz.func61 (by kernel_rfl) (by kernel_rfl)
theorem fun_62 : Fun Tryz.prog 62 := .of Tryz.func62 (by kernel_rfl) (by kernel_rfl)
theorem fun_63 : Fun Tryz.prog 63 := .of Tryz.func63 (by kernel_rfl) (by kernel_rfl)
theorem fun_64 : Fun Tryz.prog 64 := .of Tryz.func64 (by kernel_rfl) (by kernel_rfl)
theorem fun_65 : Fun Tryz.prog 65 := .of Tryz.func65 (by kernel_rfl) (by kernel_rfl)
set_option maxHeartbeats 1600000 in
theorem q_Table {I : HMap} {av : Option Addr} {n c : Nat} {xs : List Wr} (hW0 : SlW I av n c xs) (hn : n ≤ 100000) : RetM Tryz.prog 31 [.slice av n c] I [] (SlNTup (tabE xs) (tabR xs)) := by
 intro g H w hw
 refine enter Tryz.func31 rfl Tryz.ntmps31 rfl hw ?_
 have hIc := HLe.refl I
 obtain ⟨ws, hW⟩ := id hW0
 have hH := hW.1
 have hlW := hW.len
 subst hlW
 refine zR (zA ?_)
 refine zA ?_
 refine zN (zR ?_)
 refine zM ?_
 refine XO_callV0 (cap := []) (vs := [_]) rfl rfl fun_60 (q_chkW hW0 hn) rfl rfl ?_
 refine zA (zN (X_seq (zR ?_)))
 refine zM ?_
 refine zC ?_
 refine zM ?_
 refine XO_pushF 2 rfl rfl rfl ?_
 refine zJ (ev_move rfl) ?_
 refine zJ (ev_lenS rfl slt_31) ?_
 refine zJ (ev_cmp rfl rfl rfl) ?_
 refine XO_or0 rfl rfl rfl rfl rfl ?_
 refine zN ?_
 refine zI ?_ ?_ <;> intro hc25
 ·
  rw [len_zero] at hc25
  refine zR (zM ?_)
  refine zA ?_
  refine zA (zN (X_ret (at_then_r ?_)))
  first
  | exact at_ret2 rfl rfl rfl (fun w hw => ⟨_, _, [], rfl, hIc, hw.drop, by rw [(tab_1 hc25).1]; exact SlNTup.empty (tab_1 hc25).2⟩)
 rw [len_zero] at hc25
 obtain ⟨hck, hx1, hx24, hrs⟩ := chkW_ok hc25
 obtain ⟨w0, x0, hx0, hv0, e01, e02, hR0⟩ := hW.at (k := 0) (by omega)
 have hcs0 : x0.rs.map codeR = csW xs 0 := (csW_at hv0).symm
 have hM64 := csW_len (i := 0) hrs
 have hR0l := hR0.len
 have hx0b := hrs x0 (List.mem_of_getElem? hv0)
 refine X_skip (at_then (zR (zM ?_)))
 refine zV (zX slt_31 hH) ?_
 refine zV (ev_loadA rfl agt_54 (fun hg => by exact Sl.getA hH hx0) rfl) ?_
 refine XO_callM (cap := []) (vs := [_]) rfl rfl fun_61 .nil (q_codes hR0 (by omega) _ _) rfl rfl ?_
 rintro vv1 I1 L1 hI1 ⟨rfl, av4, c4, rfl, hT⟩
 have hW0 := hW0.mono hI1; have hW := hW.mono hI1; have hH := hH.mono hI1; have hIc := hIc.trans hI1
 rw [hcs0] at hT ⊢
 refine zA ?_
 refine zN (zR ?_)
 refine zM ?_
 refine zQ slt_31 ?_
 refine XO_makeSlice mkt_22 rfl rfl (by omega) (by decide) rfl rfl (fun b_33 => ?_)
 refine zA (XO_nil ?_)
 rw [show ((xs.length : Nat) : Int).toNat = xs.length from rfl, cellsT_new]
 refine at_then (X_seq (zR (zA (zN (X_block ?_)))))
 refine X_loopT [(0, _), (5, _), (6, _)] (.cons rfl (.cons rfl (.cons rfl .nil))) (fun T L0 mz E I' loc' => ∃ (k : Nat) (ts : List Tr3) (Lr : Go.Kn.Loc), mz = ((csW xs 0).length + 1) - k ∧ E = (7, .int .i64 k) :: T ∧ HLe I1 I' ∧ (b_33, .cells (cellsT ts) 23 (0, 0)) :: Lr = loc' ∧ k ≤ ((csW xs 0).length + 1) ∧ OwnAll 3 1 ts Lr ∧ RowT ts xs.length (fun r => rowK xs r k)) _ _ _ _ ⟨0, _, [], rfl, rfl, HLe.refl _, rfl, Nat.zero_le _, OwnAll.nils _, RowT.new.ext fun r _ => rfl⟩ (.cons rfl (.cons rfl (.cons rfl (.cons rfl .nil)))) (HLe.refl _) rfl ?_
 rintro mz E J2 loc' ⟨k, ts, Lr, rfl, rfl, hJ, rfl, hk, hAll, hRT⟩
 have hW0 := hW0.mono hJ; have hW := hW.mono hJ; have hH := hH.mono hJ; have hT := hT.mono hJ; have hIc := hIc.trans hJ
 have hB0 := hJ
 refine X_seq (zR (zM ?_))
 refine zM ?_
 refine zQ slt_23 ?_
 refine zC (zN ?_)
 refine zI ?_ ?_ <;> intro hc37
 ·
  have hlt_k : k < (csW xs 0).length + 1 := by have h := hc37; simp at h; omega
  refine X_skip (at_then (X_seq (X_block (zR (zA ?_)))))
  refine zN (zR ?_)
  refine zA ?_
  refine zN (zR ?_)
  refine zA (zN (X_seq (zR ?_)))
  refine zA (zN (X_block ?_))
  refine X_loopT [(0, _), (5, _), (6, _), (7, _)] (.cons rfl (.cons rfl (.cons rfl (.cons rfl .nil)))) (fun T L0 mz E I' loc' => ∃ (i : Nat) (mm : Int) (v9 : Value) (os : List Hd) (L9 : Go.Kn.Loc) (v10 : Value) (L10 : Go.Kn.Loc), mz = xs.length - i ∧ E = (8, .int .i64 mm) :: (9, v9) :: (10, v10) :: (11, .int .i64 i) :: T ∧ HLe J2 I' ∧ L10 ++ (L9 ++ ((b_33, .cells (cellsT ts) 23 (0, 0)) :: Lr)) = loc' ∧ i ≤ xs.length ∧ mm = ((wdF (alW xs) i k : Nat) : Int) ∧ OwnS 23 1 v9 i (os.flatMap encH) L9 ∧ RelH I' os ((List.range i).map (fun r => thW xs r k)) ∧ OwnS 3 1 v10 i (((List.range i).map (atW xs k)).flatMap encI) L10) _ _ _ _ ⟨0, _, _, [], [], _, [], rfl, rfl, HLe.refl _, rfl, Nat.zero_le _, rfl, OwnS.nil, RelH.nil, OwnS.nil⟩ (.cons rfl (.cons rfl (.cons rfl (.cons rfl (.cons rfl (.cons rfl (.cons rfl (.cons rfl .nil)))))))) (HLe.refl _) rfl ?_
  rintro mz E J3 loc' ⟨i, mm, v9, os, L9, v10, L10, rfl, rfl, hJ, rfl, hi, hmm, hO9, hre, hO10⟩
  have hW0 := hW0.mono hJ; have hW := hW.mono hJ; have hH := hH.mono hJ; have hT := hT.mono hJ; have hIc := hIc.trans hJ; have hB0 := hB0.trans hJ
  have hB2 := hJ
  refine X_seq (zR (zM ?_))
  refine zM ?_
  refine zQ slt_31 ?_
  refine zC (zN ?_)
  refine zI ?_ ?_ <;> intro hc43
  ·
   have hlt_i : i < xs.length := by have h := hc43; simp at h; omega
   obtain ⟨w, x, hx, hv, e1, e2, hR⟩ := hW.at hlt_i
   have hcsi : x.rs.map codeR = csW xs i := (csW_at hv).symm
   have hMi := csW_len (i := i) hrs
   have hRl := hR.len
   have hxb := hrs x (List.mem_of_getElem? hv)
   refine X_skip (at_then (X_seq (X_block (zR (zM ?_)))))
   refine zM ?_
   refine zV (zX slt_31 hH) ?_
   refine zV (ev_loadA rfl agt_54 (fun hg => by exact Sl.getA hH hx) rfl) ?_
   refine XO_callM (cap := []) (vs := [_]) rfl rfl fun_61 .nil (q_codes hR (by omega) _ _) rfl rfl ?_
   rintro vv4 I4 L4 hI4 ⟨rfl, av7, c7, rfl, hT7⟩
   have hW0 := hW0.mono hI4; have hW := hW.mono hI4; have hH := hH.mono hI4; have hT := hT.mono hI4; have hre := hre.mono hI4; have hIc := hIc.trans hI4; have hB0 := hB0.trans hI4; have hB2 := hB2.trans hI4
   rw [hcsi] at hT7 ⊢
   refine zA ?_
   refine zN (zR ?_)
   refine zM ?_
   refine zM ?_
   refine XO_callM (cap := []) (vs := [_, _]) rfl rfl fun_62 .nil (q_Pair hT hT7 (by omega) (by omega)) rfl rfl ?_
   rintro vv5 I5 L5 hI5 ⟨rfl, z8, av8, c8, rfl, hP8⟩
   have hW0 := hW0.mono hI5; have hW := hW.mono hI5; have hH := hH.mono hI5; have hT := hT.mono hI5; have hre := hre.mono hI5; have hT7 := hT7.mono hI5; have hIc := hIc.trans hI5; have hB0 := hB0.trans hI5; have hB2 := hB2.trans hI5
   refine zM ?_
   refine zE ?_
   refine zE ?_
   refine zE ?_
   refine zA ?_
   refine zA ?_
   refine zA (zN ?_)
   refine X_cutT [(0, _), (5, _), (6, _), (7, _), (8, _), (9, _), (10, _), (11, _), (12, _)] (.cons rfl (.cons rfl (.cons rfl (.cons rfl (.cons rfl (.cons rfl (.cons rfl (.cons rfl (.cons rfl .nil))))))))) (fun T L0 E I' loc' => ∃ (ap : Option Addr) (np cp : Nat), E = (14, .slice ap np cp) :: T ∧ I5 = I' ∧ L10 ++ (L9 ++ ((b_33, .cells (cellsT ts) 23 (0, 0)) :: Lr)) = loc' ∧ Sl I' 2 encQ ap np cp (pfW xs i)) ?_ ?_
   ·
    refine zR (zM ?_)
    refine zC (zN ?_)
    refine zI ?_ ?_ <;> intro hc59
    ·
     refine X_region (zA (XO_nil ?_))
     first
     | exact at_met2 _ _ ⟨none, 0, 0, rfl, rfl, rfl, by rw [show pfW xs i = [] from by unfold pfW; rw [if_pos (by have h := hc59; simp at h; omega)]]; exact .nil⟩ (.cons rfl (.cons rfl (.cons rfl (.cons rfl (.cons rfl (.cons rfl (.cons rfl (.cons rfl (.cons rfl (.cons rfl .nil)))))))))) .refl
    refine X_skip ?_
    first
    | exact at_met2 _ _ ⟨_, _, _, rfl, rfl, rfl, by rw [show pfW xs i = pairR (csW xs 0) (csW xs i) from by unfold pfW; rw [if_neg (by have h := hc59; simp at h; omega)]]; exact hP8⟩ (.cons rfl (.cons rfl (.cons rfl (.cons rfl (.cons rfl (.cons rfl (.cons rfl (.cons rfl (.cons rfl (.cons rfl .nil)))))))))) .refl
   rintro E I' loc' ⟨ap, np, cp, rfl, rfl, rfl, hPf⟩
   have hPl := hPf.len
   have hpo := pfW_ok (xs := xs) (i := i)
   refine zR (zM ?_)
   refine zM ?_
   refine zM ?_
   refine zM ?_
   refine XO_callM (cap := []) (vs := [_, _, _]) rfl rfl fun_63 .nil (q_alone hPf hT7 (by omega) (by omega) hpo.1 k) rfl rfl ?_
   rintro vv7 I7 L7 hI7 ⟨rfl, aA, cA, rfl, hAl⟩
   have hW0 := hW0.mono hI7; have hW := hW.mono hI7; have hH := hH.mono hI7; have hT := hT.mono hI7; have hre := hre.mono hI7; have hT7 := hT7.mono hI7; have hP8 := hP8.mono hI7; have hPf := hPf.mono hI7; have hIc := hIc.trans hI7; have hB0 := hB0.trans hI7; have hB2 := hB2.trans hI7
   rw [show alR (csW xs i) k 0 (pfW xs i) = thW xs i k from alR_pf] at hAl ⊢
   refine XO_buildSlice (ps := [(0, _)]) (m := [encH (⟨aA, (thW xs i k).length, cA⟩ : Hd)]) elt_22 rfl (.cons rfl (.nil)) rfl (by simp [encH_len]) (by decide) (by decide) rfl rfl (fun b_65 => ?_)
   refine XO_append (v := _) (ys := [(⟨aA, (thW xs i k).length, cA⟩ : Hd)].flatMap encH) (L := L9) rfl rfl elt_22 hO9 (by repeat (first | exact .cons .here .nil | exact split_all | exact split_app | apply split_cons | apply split_skip)) ⟨rfl, fun _ => rfl, by repeat (first | exact Cells.here | apply Cells.there | apply Cells.app)⟩ (one_H _) (by omega) rfl rfl ?_
   intro v29 L29 hO29 _; rw [← List.flatMap_append] at hO29
   refine zA (zN (X_seq ?_))
   have hol : os.length = i := by simpa using hre.1
   have hlast : (os ++ [(⟨aA, (thW xs i k).length, cA⟩ : Hd)])[i]? = some (⟨aA, (thW xs i k).length, cA⟩ : Hd) := by rw [List.getElem?_append_right (by omega), hol, Nat.sub_self]; rfl
   obtain ⟨_, sb, scc, cur, hvv, rfl, hcl, hbl, hset⟩ := hO29.spot1 (k := i) (u := fun h : Hd => Value.slice h.a h.n h.c) (fun _ => rfl) hlast
   subst hvv
   refine X_region (zM ?_)
   refine zM ?_
   refine zM ?_
   refine zV (ev_indexOwn rfl rfl slt_22 (fun hg => by omega)) ?_
   refine zV (ev_load rfl sct_23 (fun hg => by exact hcl _ _)) ?_
   refine zQ slt_23 ?_
   refine zV (ev_max rfl rfl) ?_
   refine zA (zN (X_region ?_))
   refine zM ?_
   refine zM ?_
   refine zM ?_
   refine zM ?_
   refine XO_callV0 (cap := []) (vs := [_, _, _]) rfl rfl fun_64 (q_besideP hPf hT7 (by omega) (by omega) hpo.1 k (by omega)) rfl rfl ?_
   refine XO_buildSlice (ps := [(0, _)]) (m := [encI (atW xs k i)]) elt_23 rfl (.cons rfl (.nil)) rfl (by simp [encI_len]) (by decide) (by decide) rfl rfl (fun b_79 => ?_)
   refine XO_append (v := _) (ys := [atW xs k i].flatMap encI) (L := L10) rfl rfl elt_23 hO10 (by repeat (first | exact .cons .here .nil | exact split_all | exact split_app | apply split_cons | apply split_skip)) ⟨rfl, fun _ => rfl, by repeat (first | exact Cells.here | apply Cells.there | apply Cells.app)⟩ (one_I _) (by omega) rfl rfl ?_
   intro v30 L30 hO30 _; rw [← List.flatMap_append] at hO30
   refine zA (XO_nil (at_block_n (at_then (X_region ?_))))
   refine zM ?_
   refine zB ?_
   refine zA (XO_nil ?_)
   exact at_met2 _ _ ⟨xs.length - (i + 1), by omega, i + 1, _, _, _, _, _, _, rfl, rfl, hB2, rfl, by omega, by rw [hmm]; exact wd_next, hO29, by rw [range_map]; exact hre.snoc (hd := (⟨aA, (thW xs i k).length, cA⟩ : Hd)) hAl, by rw [range_map]; exact hO30⟩ (.cons rfl (.cons rfl (.cons rfl (.cons rfl (.cons rfl (.cons rfl (.cons rfl (.cons rfl .nil)))))))) (by repeat (first | exact .refl | exact subL_left | refine subL_app ?_ | refine .drop ?_ | refine subL_add ?_))
  have hge_i : xs.length ≤ i := by have h := hc43; simp at h; omega
  obtain rfl : i = xs.length := by omega
  refine X_exit (at_then_e (at_then_e (at_block_hit (at_then (X_seq ?_)))))
  refine X_freezeO hO9 encH_len (by decide) (by repeat (first | exact .cons .here .nil | exact split_all | exact split_app | apply split_cons | apply split_skip)) (fun I8 hI8 af8 cf8 ef8 hThH => ?_)
  subst ef8
  have hW0 := hW0.mono hI8; have hW := hW.mono hI8; have hH := hH.mono hI8; have hT := hT.mono hI8; have hre := hre.mono hI8; have hIc := hIc.trans hI8; have hB0 := hB0.trans hI8; have hB2 := hB2.trans hI8
  refine X_freezeO hO10 encI_len (by decide) (by repeat (first | exact .cons .here .nil | exact split_all | exact split_app | apply split_cons | apply split_skip)) (fun I9 hI9 af9 cf9 ef9 hAt => ?_)
  subst ef9
  have hW0 := hW0.mono hI9; have hW := hW.mono hI9; have hH := hH.mono hI9; have hT := hT.mono hI9; have hre := hre.mono hI9; have hThH := hThH.mono hI9; have hIc := hIc.trans hI9; have hB0 := hB0.trans hI9; have hB2 := hB2.trans hI9
  have hThL : SlH I9 _ _ _ os ((List.range xs.length).map fun r => thW xs r k) := ⟨hThH, hre.1, hre.2⟩
  subst hmm
  refine X_region (zA (zN (X_block ?_)))
  refine X_loopT [(0, _), (5, _), (6, _), (7, _), (8, _), (9, _), (10, _)] (.cons rfl (.cons rfl (.cons rfl (.cons rfl (.cons rfl (.cons rfl (.cons rfl .nil))))))) (fun T L0 mz E I' loc' => ∃ (i : Nat) (ts4 : List Tr3) (Lr4 : Go.Kn.Loc), mz = xs.length - i ∧ E = (16, .int .i64 i) :: T ∧ HLe I9 I' ∧ (b_33, .cells (cellsT ts4) 23 (0, 0)) :: Lr4 = loc' ∧ i ≤ xs.length ∧ OwnAll 3 1 ts4 Lr4 ∧ RowT ts4 xs.length (rwP xs k i)) _ _ _ _ ⟨0, _, _, rfl, rfl, HLe.refl _, rfl, Nat.zero_le _, hAll, hRT.ext fun r _ => rfl⟩ (.cons rfl (.cons rfl (.cons rfl (.cons rfl (.cons rfl (.cons rfl (.cons rfl (.cons rfl .nil)))))))) (HLe.refl _) rfl ?_
  rintro mz E J10 loc' ⟨i, ts4, Lr4, rfl, rfl, hJ, rfl, hi, hAll4, hRT4⟩
  have hW0 := hW0.mono hJ; have hW := hW.mono hJ; have hH := hH.mono hJ; have hT := hT.mono hJ; have hre := hre.mono hJ; have hThH := hThH.mono hJ; have hAt := hAt.mono hJ; have hThL := hThL.mono hJ; have hIc := hIc.trans hJ; have hB0 := hB0.trans hJ; have hB2 := hB2.trans hJ
  have hB4 := hJ
  refine X_seq (zR (zM ?_))
  refine zM ?_
  refine zQ slt_31 ?_
  refine zC (zN ?_)
  refine zI ?_ ?_ <;> intro hc84
  ·
   have hlt_i : i < xs.length := by have h := hc84; simp at h; omega
   obtain ⟨⟨v0, q0, w0⟩, ht⟩ : ∃ t, ts4[i]? = some t := ⟨_, List.getElem?_eq_getElem (by rw [hRT4.1]; exact hlt_i)⟩
   obtain ⟨A0, Lt0, B0, rfl, hOi, hput⟩ := hAll4.ix ht
   obtain ⟨ew, eq0⟩ := hRT4.2 i _ ht
   rw [rwP_at] at ew eq0
   dsimp only at ew eq0 hOi
   subst ew
   subst eq0
   obtain ⟨h4, v4, hh4, hv4, hTi⟩ := hThL.at hlt_i
   obtain rfl : v4 = thW xs i k := by rw [List.getElem?_map, List.getElem?_range hlt_i] at hv4; exact (Option.some.inj hv4).symm
   have hTl := hTi.len
   have hwb := wdW_b hrs k
   have htl := thW_le hlt_i k
   have hrb := rowK_b hrs hlt_i k
   have hpl := padW_len hlt_i k
   have hg5 : (rowK xs i k ++ padW xs i k).length ≤ 10000 := by rw [List.length_append]; omega
   have hg6 : ((rowK xs i k ++ padW xs i k) ++ (if k < (csW xs 0).length ∧ i = 0 then [(csW xs 0).getD k 0] else [])).length ≤ 10001 := by rw [List.length_append]; split <;> simp only [List.length_cons, List.length_nil] <;> omega
   have hati : ((List.range xs.length).map (atW xs k))[i]? = some (atW xs k i) := by rw [List.getElem?_map, List.getElem?_range hlt_i]; rfl
   refine X_skip (at_then (X_seq (X_block ?_)))
   refine X_cutT [(0, _), (5, _), (6, _), (7, _), (8, _), (9, _), (10, _), (16, _)] (.cons rfl (.cons rfl (.cons rfl (.cons rfl (.cons rfl (.cons rfl (.cons rfl (.cons rfl .nil)))))))) (fun T L0 E I' loc' => ∃ (ts5 : List Tr3) (Lr5 : Go.Kn.Loc), E = T ∧ HLe J10 I' ∧ (b_33, .cells (cellsT ts5) 23 (0, 0)) :: Lr5 = loc' ∧ OwnAll 3 1 ts5 Lr5 ∧ RowT ts5 xs.length (updF (rwP xs k i) i (rowK xs i k ++ padW xs i k))) ?_ ?_
   ·
    have hKc25 := HLe.refl J10
    have hD := HLe.refl J10
    refine X_noP ?_
    refine X_drawS J10 [] mixed ?_
    refine zT 0 rfl (ev_move rfl) hD ?_
    refine zT 1 rfl (ev_move rfl) hD ?_
    refine zT 2 rfl (ev_move rfl) hD ?_
    refine zT 3 rfl (ev_move rfl) hD ?_
    refine zT 4 rfl (ev_indexOwn rfl rfl slt_22 (fun hg => by omega)) hD ?_
    refine zT 6 rfl (ev_move rfl) hD ?_
    refine zT 7 rfl (ev_move rfl) hD ?_
    refine zT 8 rfl (zX slt_22 hThH) hD ?_
    refine zT 9 rfl (ev_load rfl sct_23 (fun hg => by exact Sl.get0 hThH hh4 rfl)) hD ?_
    refine zT 10 rfl (ev_move rfl) hD ?_
    refine XD_two 5 11 rfl rfl (by kernel_rfl) ?_ ?_
    ·
     refine zV (ev_load rfl sct_23 (fun hg => by exact cellT_at ht)) ?_
     refine XO_nil ?_
     refine zD hD ?_
     refine XD_one 11 rfl (by kernel_rfl) ?_
     refine XO_callM (cap := []) (vs := [_, _]) rfl rfl fun_65 .nil ((show RetM _ _ _ _ _ (SlRes 1 encI (padW xs i k)) from q_filled hTi (by omega) (wdW xs k) (by omega))) rfl rfl ?_
     rintro vv11 I11 L11 hI11 ⟨rfl, aF, cF, rfl, hF⟩
     have hW0 := hW0.mono hI11; have hW := hW.mono hI11; have hH := hH.mono hI11; have hT := hT.mono hI11; have hre := hre.mono hI11; have hThH := hThH.mono hI11; have hAt := hAt.mono hI11; have hThL := hThL.mono hI11; have hTi := hTi.mono hI11; have hIc := hIc.trans hI11; have hB0 := hB0.trans hI11
     have hB2 := hB2.trans hI11; have hB4 := hB4.trans hI11; have hKc25 := hKc25.trans hI11; have hD := hD.trans hI11
     refine XO_nil ?_
     refine zD hD ?_
     refine XD_one 12 rfl (by kernel_rfl) ?_
     refine XO_append (v := _) (ys := (padW xs i k).flatMap encI) (L := Lt0) rfl rfl elt_23 hOi (by repeat (first | exact .cons .here .nil | exact split_all | exact split_app | apply split_cons | apply split_skip)) (hF.src encI_len) (one_I _) (by omega) rfl rfl ?_
     intro v9 L9 hO9 _; rw [← List.flatMap_append] at hO9
     refine XO_nil ?_
     refine zD hD ?_
     refine zT 13 rfl (ev_indexOwn rfl rfl slt_22 (fun hg => by omega)) hD ?_
     refine XD_one 14 rfl (by kernel_rfl) ?_
     refine XO_store rfl rfl szt_23 hO9.one rfl (by repeat (first | exact Upd.here | apply Upd.there | apply upd_app)) (bltT (by rw [hRT4.1]; exact hlt_i)) ?_
     refine XO_nil ?_
     refine zD hD ?_
     refine XD_done (by kernel_rfl) ?_
     refine at_noP ?_
     exact at_metP _ _ (L9 ++ ((b_33, .cells ((cellsT ts4).setIfInBounds ((i : Int).toNat * 1) v9) 23 (0, 0)) :: (A0 ++ B0))) ⟨_, A0 ++ (L9 ++ B0), rfl, hKc25, rfl, hput (v9, _, _) L9 hO9, (hRT4.put hlt_i rfl (by simp only [List.length_append, List.length_cons, List.length_nil] <;> omega)).ext fun r _ => rfl⟩ (.cons rfl (.cons rfl (.cons rfl (.cons rfl (.cons rfl (.cons rfl (.cons rfl (.cons rfl .nil)))))))) (by rw [cellsT_set]; exact perm_T) (by repeat (first | exact .refl | exact subL_left | refine subL_app ?_ | refine .drop ?_ | refine subL_add ?_))
    refine XO_callM (cap := []) (vs := [_, _]) rfl rfl fun_65 .nil ((show RetM _ _ _ _ _ (SlRes 1 encI (padW xs i k)) from q_filled hTi (by omega) (wdW xs k) (by omega))) rfl rfl ?_
    rintro vv12 I12 L12 hI12 ⟨rfl, aF, cF, rfl, hF⟩
    have hW0 := hW0.mono hI12; have hW := hW.mono hI12; have hH := hH.mono hI12; have hT := hT.mono hI12; have hre := hre.mono hI12; have hThH := hThH.mono hI12; have hAt := hAt.mono hI12; have hThL := hThL.mono hI12; have hTi := hTi.mono hI12; have hIc := hIc.trans hI12; have hB0 := hB0.trans hI12; have hB2 := hB2.trans hI12
    have hB4 := hB4.trans hI12; have hKc25 := hKc25.trans hI12; have hD := hD.trans hI12
    refine XO_nil ?_
    refine zD hD ?_
    refine XD_one 5 rfl (by kernel_rfl) ?_
    refine zV (ev_load rfl sct_23 (fun hg => by exact cellT_at ht)) ?_
    refine XO_nil ?_
    refine zD hD ?_
    refine XD_one 12 rfl (by kernel_rfl) ?_
    refine XO_append (v := _) (ys := (padW xs i k).flatMap encI) (L := Lt0) rfl rfl elt_23 hOi (by repeat (first | exact .cons .here .nil | exact split_all | exact split_app | apply split_cons | apply split_skip)) (hF.src encI_len) (one_I _) (by omega) rfl rfl ?_
    intro v9 L9 hO9 _; rw [← List.flatMap_append] at hO9
    refine XO_nil ?_
    refine zD hD ?_
    refine zT 13 rfl (ev_indexOwn rfl rfl slt_22 (fun hg => by omega)) hD ?_
    refine XD_one 14 rfl (by kernel_rfl) ?_
    refine XO_store rfl rfl szt_23 hO9.one rfl (by repeat (first | exact Upd.here | apply Upd.there | apply upd_app)) (bltT (by rw [hRT4.1]; exact hlt_i)) ?_
    refine XO_nil ?_
    refine zD hD ?_
    refine XD_done (by kernel_rfl) ?_
    refine at_noP ?_
    exact at_metP _ _ (L9 ++ ((b_33, .cells ((cellsT ts4).setIfInBounds ((i : Int).toNat * 1) v9) 23 (0, 0)) :: (A0 ++ B0))) ⟨_, A0 ++ (L9 ++ B0), rfl, hKc25, rfl, hput (v9, _, _) L9 hO9, (hRT4.put hlt_i rfl (by simp only [List.length_append, List.length_cons, List.length_nil] <;> omega)).ext fun r _ => rfl⟩ (.cons rfl (.cons rfl (.cons rfl (.cons rfl (.cons rfl (.cons rfl (.cons rfl (.cons rfl .nil)))))))) (by rw [cellsT_set]; exact perm_T) (by repeat (first | exact .refl | exact subL_left | refine subL_app ?_ | refine .drop ?_ | refine subL_add ?_))
   rintro E J13 loc' ⟨ts5, Lr5, rfl, hJ5, rfl, hAll5, hRT5⟩
   have hW0 := hW0.mono hJ5; have hW := hW.mono hJ5; have hH := hH.mono hJ5; have hT := hT.mono hJ5; have hre := hre.mono hJ5; have hThH := hThH.mono hJ5; have hAt := hAt.mono hJ5; have hThL := hThL.mono hJ5; have hTi := hTi.mono hJ5; have hIc := hIc.trans hJ5; have hB0 := hB0.trans hJ5; have hB2 := hB2.trans hJ5
   have hB4 := hB4.trans hJ5
   refine X_cutT [(0, _), (5, _), (6, _), (7, _), (8, _), (9, _), (10, _), (16, _)] (.cons rfl (.cons rfl (.cons rfl (.cons rfl (.cons rfl (.cons rfl (.cons rfl (.cons rfl .nil)))))))) (fun T L0 E I' loc' => ∃ (ts6 : List Tr3) (Lr6 : Go.Kn.Loc), E = T ∧ HLe J13 I' ∧ (b_33, .cells (cellsT ts6) 23 (0, 0)) :: Lr6 = loc' ∧ OwnAll 3 1 ts6 Lr6 ∧ RowT ts6 xs.length (updF (rwP xs k i) i ((rowK xs i k ++ padW xs i k) ++ (if k < (csW xs 0).length ∧ i = 0 then [(csW xs 0).getD k 0] else [])))) ?_ ?_
   ·
    have hKc26 := HLe.refl J13
    refine zR (zM ?_)
    refine zM ?_
    refine zQ slt_23 ?_
    refine zC ?_
    refine zM ?_
    refine XO_pushT 4 rfl rfl rfl ?_
    refine zK (ev_move rfl) ?_
    refine zK (ev_cmp rfl rfl rfl) ?_
    refine XO_and0 rfl rfl rfl rfl rfl ?_
    refine zN ?_
    refine zI ?_ ?_ <;> intro hc108
    ·
     have hkT : k < (csW xs 0).length := by have h := hc108; simp at h; omega
     have hi0 : i = 0 := by have h := hc108; simp at h; omega
     obtain ⟨⟨v0, q0, w0⟩, ht⟩ : ∃ t, ts5[i]? = some t := ⟨_, List.getElem?_eq_getElem (by rw [hRT5.1]; exact hlt_i)⟩
     obtain ⟨A0, Lt0, B0, rfl, hOi, hput⟩ := hAll5.ix ht
     obtain ⟨ew, eq0⟩ := hRT5.2 i _ ht
     rw [updF_same] at ew eq0
     dsimp only at ew eq0 hOi
     subst ew
     subst eq0
     have hD := HLe.refl J13
     refine X_noP ?_
     refine X_drawS J13 [] mixed ?_
     refine zT 0 rfl (ev_move rfl) hD ?_
     refine zT 1 rfl (ev_move rfl) hD ?_
     refine zT 2 rfl (ev_move rfl) hD ?_
     refine zT 3 rfl (ev_move rfl) hD ?_
     refine zT 4 rfl (ev_indexOwn rfl rfl slt_22 (fun hg => by omega)) hD ?_
     refine zT 6 rfl (ev_move rfl) hD ?_
     refine zT 7 rfl (ev_move rfl) hD ?_
     refine zT 8 rfl (zX slt_23 hT) hD ?_
     refine zT 9 rfl (ev_load rfl sct_3 (fun hg => by exact Sl.get0 (k := k) hT (some_getD (d := 0) rfl hkT) rfl)) hD ?_
     refine XD_two 5 10 rfl rfl (by kernel_rfl) ?_ ?_
     ·
      refine zV (ev_load rfl sct_23 (fun hg => by exact cellT_at ht)) ?_
      refine XO_nil ?_
      refine zD hD ?_
      refine XD_one 10 rfl (by kernel_rfl) ?_
      refine XO_buildSlice (ps := [(0, _)]) (m := [encI ((csW xs 0).getD k 0)]) elt_23 rfl (.cons rfl (.nil)) rfl (by simp [encI_len]) (by decide) (by decide) rfl rfl (fun b_119 => ?_)
      refine XO_nil ?_
      refine zD hD ?_
      refine XD_one 11 rfl (by kernel_rfl) ?_
      refine XO_append (v := _) (ys := [(csW xs 0).getD k 0].flatMap encI) (L := Lt0) rfl rfl elt_23 hOi (by repeat (first | exact .cons .here .nil | exact split_all | exact split_app | apply split_cons | apply split_skip)) ⟨rfl, fun _ => rfl, by repeat (first | exact Cells.here | apply Cells.there | apply Cells.app)⟩ (one_I _) (by omega) rfl rfl ?_
      intro v9 L9 hO9 _; rw [← List.flatMap_append] at hO9
      refine XO_nil ?_
      refine zD hD ?_
      refine zT 12 rfl (ev_indexOwn rfl rfl slt_22 (fun hg => by omega)) hD ?_
      refine XD_one 13 rfl (by kernel_rfl) ?_
      refine XO_store rfl rfl szt_23 hO9.one rfl (by repeat (first | exact Upd.here | apply Upd.there | apply upd_app)) (bltT (by rw [hRT5.1]; exact hlt_i)) ?_
      refine XO_nil ?_
      refine zD hD ?_
      refine XD_done (by kernel_rfl) ?_
      refine at_noP ?_
      first
      | exact at_metP _ _ (L9 ++ ((b_33, .cells ((cellsT ts5).setIfInBounds ((i : Int).toNat * 1) v9) 23 (0, 0)) :: (A0 ++ B0))) ⟨_, A0 ++ (L9 ++ B0), rfl, hKc26, rfl, hput (v9, _, _) L9 hO9, (hRT5.put hlt_i rfl (by simp only [List.length_append, List.length_cons, List.length_nil] <;> omega)).ext fun r _ => by rw [updF_twice, if_pos ⟨hkT, hi0⟩]⟩ (.cons rfl (.cons rfl (.cons rfl (.cons rfl (.cons rfl (.cons rfl (.cons rfl (.cons rfl .nil)))))))) (by rw [cellsT_set]; exact perm_T) (by repeat (first | exact .refl | exact subL_left | refine subL_app ?_ | refine .drop ?_ | refine subL_add ?_))
     refine XO_buildSlice (ps := [(0, _)]) (m := [encI ((csW xs 0).getD k 0)]) elt_23 rfl (.cons rfl (.nil)) rfl (by simp [encI_len]) (by decide) (by decide) rfl rfl (fun b_119 => ?_)
     refine XO_nil ?_
     refine zD hD ?_
     refine XD_one 5 rfl (by kernel_rfl) ?_
     refine zV (ev_load rfl sct_23 (fun hg => by exact Cell.there (cellT_at ht))) ?_
     refine XO_nil ?_
     refine zD hD ?_
     refine XD_one 11 rfl (by kernel_rfl) ?_
     refine XO_append (v := _) (ys := [(csW xs 0).getD k 0].flatMap encI) (L := Lt0) rfl rfl elt_23 hOi (by repeat (first | exact .cons .here .nil | exact split_all | exact split_app | apply split_cons | apply split_skip)) ⟨rfl, fun _ => rfl, by repeat (first | exact Cells.here | apply Cells.there | apply Cells.app)⟩ (one_I _) (by omega) rfl rfl ?_
     intro v9 L9 hO9 _; rw [← List.flatMap_append] at hO9
     refine XO_nil ?_
     refine zD hD ?_
     refine zT 12 rfl (ev_indexOwn rfl rfl slt_22 (fun hg => by omega)) hD ?_
     refine XD_one 13 rfl (by kernel_rfl) ?_
     refine XO_store rfl rfl szt_23 hO9.one rfl (by repeat (first | exact Upd.here | apply Upd.there | apply upd_app)) (bltT (by rw [hRT5.1]; exact hlt_i)) ?_
     refine XO_nil ?_
     refine zD hD ?_
     refine XD_done (by kernel_rfl) ?_
     refine at_noP ?_
     first
     | exact at_metP _ _ (L9 ++ ((b_33, .cells ((cellsT ts5).setIfInBounds ((i : Int).toNat * 1) v9) 23 (0, 0)) :: (A0 ++ B0))) ⟨_, A0 ++ (L9 ++ B0), rfl, hKc26, rfl, hput (v9, _, _) L9 hO9, (hRT5.put hlt_i rfl (by simp only [List.length_append, List.length_cons, List.length_nil] <;> omega)).ext fun r _ => by rw [updF_twice, if_pos ⟨hkT, hi0⟩]⟩ (.cons rfl (.cons rfl (.cons rfl (.cons rfl (.cons rfl (.cons rfl (.cons rfl (.cons rfl .nil)))))))) (by rw [cellsT_set]; exact perm_T) (by repeat (first | exact .refl | exact subL_left | refine subL_app ?_ | refine .drop ?_ | refine subL_add ?_))
    have hno6 : ¬ (k < (csW xs 0).length ∧ i = 0) := by have h := hc108; simp at h; omega
    refine X_skip ?_
    first
    | exact at_met2 _ _ ⟨_, _, rfl, hKc26, rfl, hAll5, by rw [if_neg hno6, List.append_nil]; exact hRT5⟩ (.cons rfl (.cons rfl (.cons rfl (.cons rfl (.cons rfl (.cons rfl (.cons rfl (.cons rfl .nil)))))))) .refl
   rintro E J14 loc' ⟨ts6, Lr6, rfl, hJ6, rfl, hAll6, hRT6⟩
   have hW0 := hW0.mono hJ6; have hW := hW.mono hJ6; have hH := hH.mono hJ6; have hT := hT.mono hJ6; have hre := hre.mono hJ6; have hThH := hThH.mono hJ6; have hAt := hAt.mono hJ6; have hThL := hThL.mono hJ6; have hTi := hTi.mono hJ6; have hIc := hIc.trans hJ6; have hB0 := hB0.trans hJ6; have hB2 := hB2.trans hJ6
   have hB4 := hB4.trans hJ6
   refine zR (zM ?_)
   refine zM ?_
   refine zQ slt_23 ?_
   refine zC ?_
   refine zM ?_
   refine XO_pushT 4 rfl rfl rfl ?_
   refine zK (ev_move rfl) ?_
   refine zK (ev_cmp rfl rfl rfl) ?_
   refine XO_and0 rfl rfl rfl rfl rfl ?_
   refine zN ?_
   refine zI ?_ ?_ <;> intro hc129
   ·
    have hkT : k < (csW xs 0).length := by have h := hc129; simp at h; omega
    have hi0 : 0 < i := by have h := hc129; simp at h; omega
    obtain ⟨⟨v0, q0, w0⟩, ht⟩ : ∃ t, ts6[i]? = some t := ⟨_, List.getElem?_eq_getElem (by rw [hRT6.1]; exact hlt_i)⟩
    obtain ⟨A0, Lt0, B0, rfl, hOi, hput⟩ := hAll6.ix ht
    obtain ⟨ew, eq0⟩ := hRT6.2 i _ ht
    rw [updF_same] at ew eq0
    dsimp only at ew eq0 hOi
    subst ew
    subst eq0
    have hD := HLe.refl J14
    refine X_noP ?_
    refine X_drawS J14 [] mixed ?_
    refine zT 0 rfl (ev_move rfl) hD ?_
    refine zT 1 rfl (ev_move rfl) hD ?_
    refine zT 2 rfl (ev_move rfl) hD ?_
    refine zT 3 rfl (ev_move rfl) hD ?_
    refine zT 4 rfl (ev_indexOwn rfl rfl slt_22 (fun hg => by omega)) hD ?_
    refine zT 6 rfl (ev_move rfl) hD ?_
    refine zT 7 rfl (ev_move rfl) hD ?_
    refine zT 8 rfl (zX slt_23 hAt) hD ?_
    refine zT 9 rfl (ev_load rfl sct_3 (fun hg => by exact Sl.get0 (k := i) hAt hati rfl)) hD ?_
    refine XD_two 5 10 rfl rfl (by kernel_rfl) ?_ ?_
    ·
     refine zV (ev_load rfl sct_23 (fun hg => by exact cellT_at ht)) ?_
     refine XO_nil ?_
     refine zD hD ?_
     refine XD_one 10 rfl (by kernel_rfl) ?_
     refine XO_buildSlice (ps := [(0, _)]) (m := [encI (atW xs k i)]) elt_23 rfl (.cons rfl (.nil)) rfl (by simp [encI_len]) (by decide) (by decide) rfl rfl (fun b_140 => ?_)
     refine XO_nil ?_
     refine zD hD ?_
     refine XD_one 11 rfl (by kernel_rfl) ?_
     refine XO_append (v := _) (ys := [atW xs k i].flatMap encI) (L := Lt0) rfl rfl elt_23 hOi (by repeat (first | exact .cons .here .nil | exact split_all | exact split_app | apply split_cons | apply split_skip)) ⟨rfl, fun _ => rfl, by repeat (first | exact Cells.here | apply Cells.there | apply Cells.app)⟩ (one_I _) (by omega) rfl rfl ?_
     intro v9 L9 hO9 _; rw [← List.flatMap_append] at hO9
     refine XO_nil ?_
     refine zD hD ?_
     refine zT 12 rfl (ev_indexOwn rfl rfl slt_22 (fun hg => by omega)) hD ?_
     refine XD_one 13 rfl (by kernel_rfl) ?_
     refine XO_store rfl rfl szt_23 hO9.one rfl (by repeat (first | exact Upd.here | apply Upd.there | apply upd_app)) (bltT (by rw [hRT6.1]; exact hlt_i)) ?_
     refine XO_nil ?_
     refine zD hD ?_
     refine XD_done (by kernel_rfl) ?_
     refine at_noP ?_
     refine at_block_n (at_then (X_region (zM ?_)))
     refine zB ?_
     refine zA (XO_nil ?_)
     first
     | exact at_metP _ _ (L9 ++ ((b_33, .cells ((cellsT ts6).setIfInBounds ((i : Int).toNat * 1) v9) 23 (0, 0)) :: (A0 ++ B0))) ⟨xs.length - (i + 1), by omega, i + 1, _, A0 ++ (L9 ++ B0), rfl, rfl, hB4, rfl, by omega, hput (v9, _, _) L9 hO9, (hRT6.put hlt_i rfl (by simp only [List.length_append, List.length_cons, List.length_nil] <;> omega)).ext fun r _ => by rw [updF_twice]; exact rwP_next (by rw [blk_3 hkT hi0, if_neg (by omega), List.append_nil, ← List.append_assoc]) r⟩ (.cons rfl (.cons rfl (.cons rfl (.cons rfl (.cons rfl (.cons rfl (.cons rfl (.cons rfl .nil)))))))) (by rw [cellsT_set]; exact perm_T) (by repeat (first | exact .refl | exact subL_left | refine subL_app ?_ | refine .drop ?_ | refine subL_add ?_))
    refine XO_buildSlice (ps := [(0, _)]) (m := [encI (atW xs k i)]) elt_23 rfl (.cons rfl (.nil)) rfl (by simp [encI_len]) (by decide) (by decide) rfl rfl (fun b_140 => ?_)
    refine XO_nil ?_
    refine zD hD ?_
    refine XD_one 5 rfl (by kernel_rfl) ?_
    refine zV (ev_load rfl sct_23 (fun hg => by exact Cell.there (cellT_at ht))) ?_
    refine XO_nil ?_
    refine zD hD ?_
    refine XD_one 11 rfl (by kernel_rfl) ?_
    refine XO_append (v := _) (ys := [atW xs k i].flatMap encI) (L := Lt0) rfl rfl elt_23 hOi (by repeat (first | exact .cons .here .nil | exact split_all | exact split_app | apply split_cons | apply split_skip)) ⟨rfl, fun _ => rfl, by repeat (first | exact Cells.here | apply Cells.there | apply Cells.app)⟩ (one_I _) (by omega) rfl rfl ?_
    intro v9 L9 hO9 _; rw [← List.flatMap_append] at hO9
    refine XO_nil ?_
    refine zD hD ?_
    refine zT 12 rfl (ev_indexOwn rfl rfl slt_22 (fun hg => by omega)) hD ?_
    refine XD_one 13 rfl (by kernel_rfl) ?_
    refine XO_store rfl rfl szt_23 hO9.one rfl (by repeat (first | exact Upd.here | apply Upd.there | apply upd_app)) (bltT (by rw [hRT6.1]; exact hlt_i)) ?_
    refine XO_nil ?_
    refine zD hD ?_
    refine XD_done (by kernel_rfl) ?_
    refine at_noP ?_
    refine at_block_n (at_then (X_region (zM ?_)))
    refine zB ?_
    refine zA (XO_nil ?_)
    first
    | exact at_metP _ _ (L9 ++ ((b_33, .cells ((cellsT ts6).setIfInBounds ((i : Int).toNat * 1) v9) 23 (0, 0)) :: (A0 ++ B0))) ⟨xs.length - (i + 1), by omega, i + 1, _, A0 ++ (L9 ++ B0), rfl, rfl, hB4, rfl, by omega, hput (v9, _, _) L9 hO9, (hRT6.put hlt_i rfl (by simp only [List.length_append, List.length_cons, List.length_nil] <;> omega)).ext fun r _ => by rw [updF_twice]; exact rwP_next (by rw [blk_3 hkT hi0, if_neg (by omega), List.append_nil, ← List.append_assoc]) r⟩ (.cons rfl (.cons rfl (.cons rfl (.cons rfl (.cons rfl (.cons rfl (.cons rfl (.cons rfl .nil)))))))) (by rw [cellsT_set]; exact perm_T) (by repeat (first | exact .refl | exact subL_left | refine subL_app ?_ | refine .drop ?_ | refine subL_add ?_))
   have hb7 : (rowK xs i k ++ padW xs i k) ++ (if k < (csW xs 0).length ∧ i = 0 then [(csW xs 0).getD k 0] else []) = rowK xs i k ++ blkW xs i k := tab_blk (by have h := hc129; simp at h; omega)
   refine X_skip (at_block_n (at_then (X_region (zM ?_))))
   refine zB ?_
   refine zA (XO_nil ?_)
   exact at_met2 _ _ ⟨xs.length - (i + 1), by omega, i + 1, _, _, rfl, rfl, hB4, rfl, by omega, hAll6, hRT6.ext fun r _ => rwP_next hb7 r⟩ (.cons rfl (.cons rfl (.cons rfl (.cons rfl (.cons rfl (.cons rfl (.cons rfl (.cons rfl .nil)))))))) .refl
  have hge_i : xs.length ≤ i := by have h := hc84; simp at h; omega
  obtain rfl : i = xs.length := by omega
  refine X_exit (at_then_e (at_then_e (at_block_hit (at_block_n (at_then (X_region (zM ?_)))))))
  refine zB ?_
  refine zA (XO_nil ?_)
  exact at_met2 _ _ ⟨((csW xs 0).length + 1) - (k + 1), by omega, k + 1, _, _, rfl, rfl, hB0, rfl, by omega, hAll4, hRT4.ext fun r hr => rwP_end hr⟩ (.cons rfl (.cons rfl (.cons rfl (.cons rfl .nil)))) (by repeat (first | exact .refl | exact subL_left | refine subL_app ?_ | refine .drop ?_ | refine subL_add ?_))
 obtain rfl : k = (csW xs 0).length + 1 := by have h := hc37; simp at h; omega
 refine X_exit (at_then_e (at_then_e (at_block_hit (at_then (X_seq (X_seq ?_))))))
 obtain ⟨⟨v0, q0, w0⟩, ht⟩ : ∃ t, ts[0]? = some t := ⟨_, List.getElem?_eq_getElem (by rw [hRT.1]; exact hx1)⟩
 obtain ⟨A0, Lt0, B0, rfl, hOi, hput⟩ := hAll.ix ht
 obtain ⟨ew, eq0⟩ := hRT.2 0 _ ht
 dsimp only at ew eq0 hOi
 subst ew
 subst eq0
 obtain ⟨va, vc, rfl⟩ := valn hOi
 have hlo := rowK_lo (xs := xs) hx1
 refine X_region (zM ?_)
 refine zV (ev_indexOwn rfl rfl slt_22 (fun hg => by omega)) ?_
 refine zV (ev_load rfl sct_23 (fun hg => by exact cellT_at ht)) ?_
 refine zQ slt_23 ?_
 refine zC (zN ?_)
 refine zI ?_ ?_ <;> intro hc147
 ·
  have h2 : loW xs > 256 := by have h := hc147; simp at h; omega
  refine zR (zA ?_)
  refine zA (zN (X_ret (at_then_r ?_)))
  first
  | exact at_ret2 rfl rfl rfl (fun w hw => ⟨_, _, [], rfl, hIc, hw.drop, by rw [(tab_2 hc25 h2).1]; exact SlNTup.empty (tab_2 hc25 h2).2⟩)
 have h2 : ¬ loW xs > 256 := by have h := hc147; simp at h; omega
 refine X_skip (at_then (X_seq ?_))
 refine X_freezeAll (fun I15 hI15 hall => ?_)
 have hW0 := hW0.mono hI15; have hW := hW.mono hI15; have hH := hH.mono hI15; have hT := hT.mono hI15; have hIc := hIc.trans hI15; have hB0 := hB0.trans hI15
 have hb33 := hall _ _ (List.mem_cons_self ..)
 have hRows := hRT.rows hAll (fun b o hm => hall b o (List.mem_cons_of_mem _ hm)) hb33
 rw [rows_eq] at hRows
 refine X_region (zM ?_)
 refine zA ?_
 refine zA (zN (X_ret ?_))
 first
 | exact at_ret2 rfl rfl rfl (fun w hw => ⟨_, _, [], rfl, hIc, hw.drop, by rw [(tab_3 hc25 h2).1, (tab_3 hc25 h2).2]; exact ⟨rfl, _, _, by rw [List.length_map, List.length_range], by rw [List.length_map, List.length_range]; exact hRows⟩⟩)
end
section
open Go Go.Kn Go.Proofs
theorem remd {lo l pv : Int} {m k : Nat} (h : k = 0 ∧ l = -1 ∨ 0 < k ∧ 0 ≤ l ∧ pv = l) : ((decide (lo < 0) || decide (lo ≥ (m : Int))) || (decide ((k : Int) > 0) && decide (lo ≤ pv))) = (decide (lo ≤ l) || decide (lo ≥ (m : Int))) := by
 rw [Bool.eq_iff_iff]
 simp only [Bool.or_eq_true, Bool.and_eq_true, decide_eq_true_eq]
 omega
theorem badE_or {rows : List (List Int)} {m : Nat} {l : Int} {e : Em} : badE rows m l e = ((decide (e.locus ≤ l) || decide (e.locus ≥ (m : Int))) || !rsF e.reason e.code (thereF rows e)) := by unfold badE; rw [Bool.or_assoc]
theorem rs_1 {r c : Int} {b : Bool} (h : r = 1) : rsF r c b = ((b && c != 0) && c != 8589934592) := by unfold rsF; rw [if_pos h]; rfl
theorem rs_2 {r c : Int} {b : Bool} (h1 : ¬ r = 1) (h : r = 2) : rsF r c b = (!b && signE c == 0) := by unfold rsF; rw [if_neg h1, if_pos h]; unfold r2F; rw [Bool.and_comm]
theorem rs_3 {r c : Int} {b : Bool} (h1 : ¬ r = 1) (h2 : ¬ r = 2) (h : r = 3) : rsF r c b = (c == 0) := by unfold rsF; rw [if_neg h1, if_neg h2, if_pos h]; rfl
theorem rs_4 {r c : Int} {b : Bool} (h1 : ¬ r = 1) (h2 : ¬ r = 2) (h : ¬ r = 3) : rsF r c b = false := by unfold rsF; rw [if_neg h1, if_neg h2, if_neg h]
theorem any_comm (xs : List Int) (v : Int) : (xs.any fun y => y == v) = xs.any fun y => v == y := by
 congr 1; funext y
 by_cases h : y = v
 ·
  subst h; rfl
 ·
  rw [beq_false_of_ne h, beq_false_of_ne (Ne.symm h)]
def emF (k : Nat) (n : Int) (e : Em) : Int := if e.locus = (k : Int) then e.code else n
theorem emF_none {k : Nat} : ∀ {es : List Em} {n : Int}, (∀ e ∈ es, ¬ e.locus = (k : Int)) → es.foldl (emF k) n = n
 | [], _, _ => rfl
 | e :: es, n, h => by
  rw [List.foldl_cons, show emF k n e = n from if_neg (h e (List.mem_cons_self ..))]
  exact emF_none fun x hx => h x (List.mem_cons_of_mem _ hx)
theorem inc_gt {m : Nat} : ∀ {l : Int} {es : List Em}, IncE m l es → ∀ e ∈ es, l < e.locus
 | l, e :: es, ⟨h1, h2, h3⟩, x, hx => by
  rcases List.mem_cons.1 hx with rfl | hx
  ·
   exact h1
  ·
   have := inc_gt h3 x hx; omega
theorem scan_read {rows : List (List Int)} {cl : List Int} {es : List Em} {k : Nat} (h : goodE rows (rows.getD 0 []).length (-1) es = true) : es.foldl (emF k) (baseK rows cl k) = readK rows cl es k := by
 obtain ⟨pre, e1, h1, h2, h3⟩ := lf_left k (good_inc h)
 have h0 : es.foldl (emF k) (baseK rows cl k) = (lfK es k).foldl (emF k) (baseK rows cl k) := by
  conv => lhs; rw [e1]
  rw [List.foldl_append, emF_none (es := pre) fun e he => by have := h1 e he; omega]
 rw [h0]
 cases hl : lfK es k with
 | nil => rw [rd_nil hl]; rfl
 | cons e r =>
  rw [hl] at h3
  have hr : ∀ x ∈ r, ¬ x.locus = (k : Int) := fun x hx => by have h4 := inc_gt h3.2.2 x hx; have h5 := h2 e (by rw [hl]; exact List.mem_cons_self ..); omega
  rw [List.foldl_cons]
  by_cases he : e.locus = (k : Int)
  ·
   rw [show emF k (baseK rows cl k) e = e.code from if_pos he, emF_none hr, rd_yes hl he]
  ·
   rw [show emF k (baseK rows cl k) e = baseK rows cl k from if_neg he, emF_none hr, rd_no hl he]
theorem em_snoc {k j : Nat} {es : List Em} {n : Int} {e : Em} (h : es[j]? = some e) : (es.take (j + 1)).foldl (emF k) n = emF k ((es.take j).foldl (emF k) n) e := by
 rw [List.take_add_one, h, List.foldl_append]; rfl
end
section
open Go Go.Kn Go.Proofs
theorem fun_123 : Fun Tryz.prog 123 := .of Tryz.func123 (by kernel_rfl) (by kernel_rfl)
theorem fun_133 : Fun Tryz.prog 133 := .of Tryz.func133 (by kernel_rfl) (by kernel_rfl)
theorem q_there {I : HMap} {bv : Option Addr} {n2 c2 : Nat} {rows : List (List Int)} (hV : SlN I bv n2 c2 rows) (hn2 : n2 ≤ 100000) (l v : Int) (h0 : 0 ≤ l) (hl : ∀ r ∈ rows, l.toNat < r.length) : RetV Tryz.prog 133 [.slice bv n2 c2, .int .i64 l, .int .i64 v] I (.bool (rows.any fun r => r.getD l.toNat 0 == v)) := by
 intro g H w hw
 refine enter Tryz.func133 rfl Tryz.ntmps133 rfl hw ?_
 have hVl := hV.len
 obtain ⟨hs, hVH⟩ := id hV
 have hHH := hVH.1
 refine zR (zA (zN (X_seq (zR ?_))))
 refine zA (zN (X_block ?_))
 refine X_loopT [(0, _), (1, _), (2, _)] (.cons rfl (.cons rfl (.cons rfl .nil))) (fun T L0 mz E I' loc' => ∃ (k : Nat), mz = n2 - k ∧ E = (7, .int .i64 k) :: T ∧ I = I' ∧ L0 = loc' ∧ k ≤ n2 ∧ (rows.take k).any (fun r => r.getD l.toNat 0 == v) = false) _ _ _ _ ⟨0, rfl, rfl, rfl, rfl, Nat.zero_le _, rfl⟩ (.cons rfl (.cons rfl (.cons rfl (.cons rfl .nil)))) (HLe.refl _) rfl ?_
 rintro mz E I' loc' ⟨k, rfl, rfl, rfl, rfl, hk, hno⟩
 refine X_seq (zR (zM ?_))
 refine zM ?_
 refine zQ slt_22 ?_
 refine zC (zN ?_)
 refine zI ?_ ?_ <;> intro hc11
 ·
  have hlt_k : k < n2 := by have h := hc11; simp at h; omega
  obtain ⟨h1, r1, hh, hr, hQ⟩ := hVH.at hlt_k
  have hQl := hQ.len
  have hlr := hl r1 (List.mem_of_getElem? hr)
  refine X_skip (at_then (X_seq (X_block (zR (zM ?_)))))
  refine zM ?_
  refine zV (zX slt_22 hHH) ?_
  refine zV (ev_load rfl sct_23 (fun hg => by exact Sl.get0 hHH hh rfl)) ?_
  refine zM ?_
  refine zV (zX slt_23 hQ) ?_
  refine zV (ev_load rfl sct_3 (fun hg => by exact Sl.get0 (k := l.toNat) hQ (some_getD (d := 0) rfl hlr) rfl)) ?_
  refine zM ?_
  refine zC (zN ?_)
  refine zI ?_ ?_ <;> intro hc22
  ·
   refine zR (zA (zN (X_ret (at_block_r (at_then_r (at_then_r (at_block_r ?_)))))))
   refine at_then_r ?_
   exact at_ret1 rfl rfl (fun w hw => ⟨by rw [any_yes hr hc22], hw.drop⟩)
  refine X_skip (at_block_n (at_then (X_region (zM ?_))))
  refine zB ?_
  refine zA (XO_nil ?_)
  exact at_met2 _ _ ⟨n2 - (k + 1), by omega, k + 1, rfl, rfl, rfl, rfl, by omega, any_no hr hno hc22⟩ (.cons rfl (.cons rfl (.cons rfl (.cons rfl .nil)))) (by repeat (first | exact .refl | exact subL_left | refine subL_app ?_ | refine .drop ?_ | refine subL_add ?_))
 have hge_k : n2 ≤ k := by have h := hc11; simp at h; omega
 rw [take_all hVl hge_k] at hno
 refine X_exit (at_then_e (at_then_e (at_block_hit (at_then (zR (zA (zN ?_)))))))
 refine X_ret ?_
 exact at_ret1 rfl rfl (fun w hw => ⟨by rw [hno], hw.drop⟩)
theorem q_emend {I : HMap} {bv : Option Addr} {n2 c2 : Nat} {rows : List (List Int)} (hV : SlN I bv n2 c2 rows) (hn2 : n2 ≤ 100000) (e : Em) (h0 : 0 ≤ e.locus) (hl : ∀ r ∈ rows, e.locus.toNat < r.length) : RetV Tryz.prog 123 [.slice bv n2 c2, .agg (encEm e).toArray] I (.bool (rsF e.reason e.code (thereF rows e))) := by
 intro g H w hw
 refine enter Tryz.func123 rfl Tryz.ntmps123 rfl hw ?_
 refine zR ?_
 refine XO_box rfl rfl rfl (fun b_3 => ?_)
 refine zA ?_
 refine zN (zR ?_)
 refine zM ?_
 refine zF fld_44_0 ?_
 refine zV (ev_load rfl sct_3 (fun hg => by exact Cell.h0 rfl)) ?_
 refine zF fld_44_1 ?_
 refine zV (ev_load rfl sct_3 (fun hg => by exact Cell.h0 rfl)) ?_
 refine XO_callV0 (cap := []) (vs := [_, _, _]) rfl rfl fun_133 (q_there hV hn2 e.locus e.code h0 hl) rfl rfl ?_
 refine zA (zN (X_seq (zR ?_)))
 refine zF fld_44_2 ?_
 refine zV (ev_load rfl sct_3 (fun hg => by exact Cell.h0 rfl)) ?_
 refine zN (X_block (zR (zC ?_)))
 refine zA (zN ?_)
 refine zI ?_ ?_ <;> intro hc16
 ·
  have hr1 : e.reason = 1 := by simpa using hc16
  refine zR (zM ?_)
  refine zM ?_
  refine XO_pushT 1 rfl rfl rfl ?_
  refine zK (ev_fieldAddr rfl fld_44_1) ?_
  refine zK (ev_load rfl sct_3 (fun hg => by exact Cell.h0 rfl)) ?_
  refine zK (ev_cmp rfl rfl rfl) ?_
  refine XO_and0 rfl rfl rfl rfl rfl ?_
  refine zM ?_
  refine XO_pushT 6 rfl rfl rfl ?_
  refine zK (ev_fieldAddr rfl fld_44_1) ?_
  refine zK (ev_load rfl sct_3 (fun hg => by exact Cell.h0 rfl)) ?_
  refine zK (ev_cmp rfl rfl rfl) ?_
  refine XO_and0 rfl rfl rfl rfl rfl ?_
  refine zA (zN (X_ret (at_block_r (at_then_r ?_))))
  first
  | exact at_ret1 rfl rfl (fun w hw => ⟨by rw [rs_1 hr1]; rfl, hw.drop⟩)
 have hr1 : ¬ e.reason = 1 := by simpa using hc16
 refine zR (zC ?_)
 refine zA (zN ?_)
 refine zI ?_ ?_ <;> intro hc29
 ·
  have hr2 : e.reason = 2 := by simpa using hc29
  refine zR ?_
  refine zF fld_44_1 ?_
  refine zV (ev_load rfl sct_3 (fun hg => by exact Cell.h0 rfl)) ?_
  refine XO_callV0 (cap := []) (vs := [_]) rfl rfl fun_69 (q_sign I e.code) rfl rfl ?_
  refine zM ?_
  refine zE ?_
  refine zE ?_
  refine XO_alloc zt_48 rfl rfl (fun b_6 => ?_)
  refine XO_storeA rfl rfl szt_48 rfl rfl rfl rfl (by repeat (first | exact Upd.here | apply Upd.there | apply upd_app)) ?_
  refine zA ?_
  refine zN (zR ?_)
  refine zM ?_
  refine zO ?_
  refine zM ?_
  refine XO_pushT 2 rfl rfl rfl ?_
  refine zK (ev_move rfl) ?_
  refine zK (ev_cmp rfl rfl rfl) ?_
  refine XO_and0 rfl rfl rfl rfl rfl ?_
  refine zA (zN (X_ret (at_block_r (at_then_r ?_))))
  first
  | exact at_ret1 rfl rfl (fun w hw => ⟨by rw [rs_2 hr1 hr2]; rfl, hw.drop⟩)
 have hr2 : ¬ e.reason = 2 := by simpa using hc29
 refine zR (zC ?_)
 refine zA (zN ?_)
 refine zI ?_ ?_ <;> intro hc43
 ·
  have hr3 : e.reason = 3 := by simpa using hc43
  refine zR ?_
  refine zF fld_44_1 ?_
  refine zV (ev_load rfl sct_3 (fun hg => by exact Cell.h0 rfl)) ?_
  refine zC ?_
  refine zA (zN (X_ret (at_block_r (at_then_r ?_))))
  exact at_ret1 rfl rfl (fun w hw => ⟨by rw [rs_3 hr1 hr2 hr3], hw.drop⟩)
 have hr3 : ¬ e.reason = 3 := by simpa using hc43
 refine X_skip (at_block_n (at_then (zR (zA (zN (X_ret ?_))))))
 exact at_ret1 rfl rfl (fun w hw => ⟨by rw [rs_4 hr1 hr2 hr3], hw.drop⟩)
theorem q_has {I : HMap} {av : Option Addr} {n c : Nat} {xs : List Int} (hS : Sl I 1 encI av n c xs) (hn : n ≤ 100000) (v : Int) : RetV Tryz.prog 106 [.slice av n c, .int .i64 v] I (.bool (xs.any fun y => v == y)) := by
 intro g H w hw
 refine enter Tryz.func106 rfl Tryz.ntmps106 rfl hw ?_
 refine zR (zA (zN (X_seq (zR ?_))))
 refine zA (zN (X_block ?_))
 refine X_loopT [(0, _), (1, _)] (.cons rfl (.cons rfl .nil)) (fun T L0 mz E I' loc' => ∃ (k : Nat), mz = n - k ∧ E = (5, .int .i64 k) :: T ∧ I = I' ∧ L0 = loc' ∧ k ≤ n ∧ (xs.take k).any (fun y => y == v) = false) _ _ _ _ ⟨0, rfl, rfl, rfl, rfl, Nat.zero_le _, rfl⟩ (.cons rfl (.cons rfl (.cons rfl .nil))) (HLe.refl _) rfl ?_
 rintro mz E I' loc' ⟨k, rfl, rfl, rfl, rfl, hk, hno⟩
 refine X_seq (zR (zM ?_))
 refine zM ?_
 refine zQ slt_23 ?_
 refine zC (zN ?_)
 refine zI ?_ ?_ <;> intro hc9
 ·
  have hlt_k : k < n := by have h := hc9; simp at h; omega
  obtain ⟨x, hx⟩ := hS.at hlt_k
  refine X_skip (at_then (X_seq (X_block (zR (zM ?_)))))
  refine zM ?_
  refine zV (ev_indexSl rfl rfl slt_23 (by assumption) (fun hg => by omega)) ?_
  refine zV (ev_load rfl sct_3 (fun hg => by exact Sl.get0 hS hx rfl)) ?_
  refine zM ?_
  refine zC (zN ?_)
  refine zI ?_ ?_ <;> intro hc17
  ·
   refine zR (zA (zN (X_ret (at_block_r (at_then_r (at_then_r (at_block_r ?_)))))))
   refine at_then_r ?_
   exact at_ret1 rfl rfl (fun w hw => ⟨by rw [← any_comm, any_yes hx hc17], hw.drop⟩)
  refine X_skip (at_block_n (at_then (X_region (zM ?_))))
  refine zB ?_
  refine zA (XO_nil ?_)
  exact at_met2 _ _ ⟨n - (k + 1), by omega, k + 1, rfl, rfl, rfl, rfl, by omega, any_no hx hno hc17⟩ (.cons rfl (.cons rfl (.cons rfl .nil))) (by repeat (first | exact .refl | exact subL_left | refine subL_app ?_ | refine .drop ?_ | refine subL_add ?_))
 have hge_k : n ≤ k := by have h := hc9; simp at h; omega
 rw [take_all hS.len hge_k] at hno
 refine X_exit (at_then_e (at_then_e (at_block_hit (at_then (zR (zA (zN ?_)))))))
 refine X_ret ?_
 exact at_ret1 rfl rfl (fun w hw => ⟨by rw [← any_comm, hno], hw.drop⟩)
theorem q_right43 {I : HMap} {bv : Option Addr} {n2 c2 : Nat} {rows : List (List Int)} (hV : SlN I bv n2 c2 rows) (hn2 : n2 ≤ 100000) {dv : Option Addr} {n3 c3 : Nat} {es : List Em} (hEs : Sl I 3 encEm dv n3 c3 es) (hn3 : n3 ≤ 100000) (hr0 : 0 < rows.length) (hrr : ∀ r ∈ rows, r.length = (rows.getD 0 []).length) : RetV Tryz.prog 105 [.slice bv n2 c2, .slice dv n3 c3] I (.bool (goodE rows (rows.getD 0 []).length (-1) es)) := by
 intro g H w hw
 refine enter Tryz.func105 rfl Tryz.ntmps105 rfl hw ?_
 have hVl := hV.len
 obtain ⟨hs, hVH⟩ := id hV
 have hHH := hVH.1
 have hEl := hEs.len
 obtain ⟨hx0, rx0, hhx0, hrx0, hQ0⟩ := hVH.at (k := 0) (by omega)
 have hg0 : rows.getD 0 [] = rx0 := getD_of hrx0
 have hQ0l := hQ0.len
 have hg1 : (rows.getD 0 []).length = rx0.length := by rw [hg0]
 refine zR (zA (zN (X_seq (zR ?_))))
 refine zA (zN (X_block ?_))
 refine X_loopT [(0, _), (1, _)] (.cons rfl (.cons rfl .nil)) (fun T L0 mz E I' loc' => ∃ (k : Nat) (l : Int), mz = n3 - k ∧ E = (5, .int .i64 k) :: T ∧ I = I' ∧ L0 = loc' ∧ k ≤ n3 ∧ goodE rows (rows.getD 0 []).length (-1) es = goodE rows (rows.getD 0 []).length l (es.drop k) ∧ (k = 0 ∧ l = -1 ∨ 0 < k ∧ 0 ≤ l ∧ (es.getD (k - 1) zeroE).locus = l)) _ _ _ _ ⟨0, -1, rfl, rfl, rfl, rfl, Nat.zero_le _, rfl, .inl ⟨rfl, rfl⟩⟩ (.cons rfl (.cons rfl (.cons rfl .nil))) (HLe.refl _) rfl ?_
 rintro mz E I' loc' ⟨k, l, rfl, rfl, rfl, rfl, hk, hgo, hpv⟩
 refine X_seq (zR (zM ?_))
 refine zM ?_
 refine zQ slt_32 ?_
 refine zC (zN ?_)
 refine zI ?_ ?_ <;> intro hc10
 ·
  have hlt_k : k < n3 := by have h := hc10; simp at h; omega
  obtain ⟨e, he⟩ := hEs.at hlt_k
  have ek : ((k : Int) - 1).toNat = k - 1 := by omega
  refine X_skip (at_then (X_seq (X_block (X_seq (X_seq ?_)))))
  refine X_draw mixed (by kernel_rfl) ?_
  refine XQ_v0 (ev_move rfl) rfl rfl rfl ?_
  refine XQ_v0 (ev_move rfl) rfl rfl rfl ?_
  refine XQ_v0 (zX slt_32 hEs) rfl rfl rfl ?_
  refine XQ_v0 (ev_fieldAddr rfl fld_44_0) rfl rfl rfl ?_
  refine XQ_v0 (ev_load rfl sct_3 (fun hg => by exact Sl.get0 hEs he rfl)) rfl rfl rfl ?_
  refine XQ_v0 (ev_cmp rfl rfl rfl) rfl rfl rfl ?_
  refine XQ_v0 (ev_move rfl) rfl rfl rfl ?_
  refine XQ_pushF 6 rfl rfl rfl ?_
  refine XQ_v1 (ev_move rfl) (.some rfl rfl rfl rfl gbf) rfl rfl rfl ?_
  refine XQ_v1 (ev_move rfl) (.some rfl rfl rfl rfl gbf) rfl rfl rfl ?_
  refine XQ_v1 (zX slt_32 hEs) (.some rfl rfl rfl rfl gbf) rfl rfl rfl ?_
  refine XQ_v1 (ev_fieldAddr rfl fld_44_0) (.some rfl rfl rfl rfl gbf) rfl rfl rfl ?_
  refine XQ_v1 (ev_load rfl sct_3 (fun hg => by exact Sl.get0 hEs he rfl)) (.some rfl rfl rfl rfl gbf) rfl rfl rfl ?_
  refine XQ_v1 (ev_move rfl) (.some rfl rfl rfl rfl gbf) rfl rfl rfl ?_
  refine XQ_v1 (zX slt_22 hHH) (.some rfl rfl rfl rfl gbf) rfl rfl rfl ?_
  refine XQ_v1 (ev_load rfl sct_23 (fun hg => by exact Sl.get0 hHH hhx0 rfl)) (.some rfl rfl rfl rfl gbf) rfl rfl rfl ?_
  refine XQ_v1 (ev_lenS rfl slt_23) (.some rfl rfl rfl rfl gbf) rfl rfl rfl ?_
  refine XQ_v1 (ev_cmp rfl rfl rfl) (.some rfl rfl rfl rfl gbf) rfl rfl rfl ?_
  refine XQ_or0 rfl rfl rfl rfl rfl ?_
  refine XQ_v0 (ev_move rfl) rfl rfl rfl ?_
  refine XQ_pushF 18 rfl rfl rfl ?_
  refine XQ_v1 (ev_move rfl) (.some rfl rfl rfl rfl gbf) rfl rfl rfl ?_
  refine XQ_v1 (ev_cmp rfl rfl rfl) (.some rfl rfl rfl rfl gbf) rfl rfl rfl ?_
  refine XQ_v1 (ev_move rfl) (.some rfl rfl rfl rfl gbf) rfl rfl rfl ?_
  refine XQ_pushT 21 rfl rfl rfl ?_
  refine XQ_v1 (ev_move rfl) (.some rfl rfl rfl rfl gbt) rfl rfl rfl ?_
  refine XQ_v1 (ev_move rfl) (.some rfl rfl rfl rfl gbt) rfl rfl rfl ?_
  refine XQ_v1 (zX slt_32 hEs) (.some rfl rfl rfl rfl gbt) rfl rfl rfl ?_
  refine XQ_v1 (ev_fieldAddr rfl fld_44_0) (.some rfl rfl rfl rfl gbt) rfl rfl rfl ?_
  refine XQ_v1 (ev_load rfl sct_3 (fun hg => by exact Sl.get0 hEs he rfl)) (.some rfl rfl rfl rfl gbt) rfl rfl rfl ?_
  refine XQ_v1 (ev_move rfl) (.some rfl rfl rfl rfl gbt) rfl rfl rfl ?_
  refine XQ_v1 (ev_move rfl) (.some rfl rfl rfl rfl gbt) rfl rfl rfl ?_
  refine XQ_v1 (ev_arB rfl rfl rfl (fun hg => by omega)) (.some rfl rfl rfl rfl gbt) rfl rfl rfl ?_
  refine XQ_v1 (zX slt_32 hEs) (.some rfl rfl rfl rfl gbt) rfl rfl rfl ?_
  refine XQ_v1 (ev_fieldAddr rfl fld_44_0) (.some rfl rfl rfl rfl gbt) rfl rfl rfl ?_
  refine XQ_v1 (ev_load rfl sct_3 (fun hg => by exact Sl.get0 (k := ((k : Int) - 1).toNat) hEs (some_getD (d := zeroE) rfl (by simp [conj] at hg; omega)) rfl)) (.some rfl rfl rfl rfl gbt) rfl rfl rfl ?_
  refine XQ_v1 (ev_cmp rfl rfl rfl) (.some rfl rfl rfl rfl gbt) rfl rfl rfl ?_
  refine XQ_and1 rfl rfl rfl (.some rfl rfl rfl rfl gbf) rfl rfl ?_
  refine XQ_or0 rfl rfl rfl rfl rfl ?_
  refine XQ_nil ?_
  refine at_then ?_
  refine zI ?_ ?_ <;> intro hc48
  ·
   rw [ek] at hc48
   have hq : (decide (e.locus ≤ l) || decide (e.locus ≥ ((rows.getD 0 []).length : Int))) = true := by rw [← remd hpv, hg1, hQ0l]; exact hc48
   have hbe : badE rows (rows.getD 0 []).length l e = true := by rw [badE_or, hq]; rfl
   refine zR (zA (zN (X_ret (at_then_r (at_block_r (at_then_r (at_then_r ?_)))))))
   refine at_block_r (at_then_r ?_)
   exact at_ret1 rfl rfl (fun w hw => ⟨by rw [hgo.trans (goodE_bad he hbe)], hw.drop⟩)
  rw [ek] at hc48
  have hq : (decide (e.locus ≤ l) || decide (e.locus ≥ ((rows.getD 0 []).length : Int))) = false := by rw [← remd hpv, hg1, hQ0l]; exact hc48
  have hq2 : l < e.locus ∧ e.locus < ((rows.getD 0 []).length : Int) := by have h := hq; simp only [Bool.or_eq_false_iff, decide_eq_false_iff_not] at h; omega
  refine X_skip (at_then (zR (zM ?_)))
  refine zM ?_
  refine zM ?_
  refine zV (zX slt_32 hEs) ?_
  refine zV (ev_loadA rfl agt_44 (fun hg => by exact Sl.getA hEs he) rfl) ?_
  refine XO_callV0 (cap := []) (vs := [_, _]) rfl rfl fun_123 (q_emend hV hn2 e (by omega) (fun r hr => by rw [hrr r hr]; omega)) rfl rfl ?_
  refine zA ?_
  refine zN (zR ?_)
  refine zM ?_
  refine zO (zN ?_)
  refine zI ?_ ?_ <;> intro hc56
  ·
   have hbe : badE rows (rows.getD 0 []).length l e = true := by rw [badE_or, hq]; exact hc56
   refine zR (zA (zN (X_ret (at_block_r (at_then_r (at_then_r (at_block_r ?_)))))))
   refine at_then_r ?_
   exact at_ret1 rfl rfl (fun w hw => ⟨by rw [hgo.trans (goodE_bad he hbe)], hw.drop⟩)
  have hbe : badE rows (rows.getD 0 []).length l e = false := by rw [badE_or, hq]; exact hc56
  refine X_skip (at_block_n (at_then (X_region (zM ?_))))
  refine zB ?_
  refine zA (XO_nil ?_)
  exact at_met2 _ _ ⟨n3 - (k + 1), by omega, k + 1, e.locus, rfl, rfl, rfl, rfl, by omega, by rw [hgo, goodE_step he hbe], .inr ⟨by omega, by omega, by rw [Nat.add_sub_cancel, List.getD_eq_getElem?_getD, he]; rfl⟩⟩ (.cons rfl (.cons rfl (.cons rfl .nil))) (by repeat (first | exact .refl | exact subL_left | refine subL_app ?_ | refine .drop ?_ | refine subL_add ?_))
 have hge_k : n3 ≤ k := by have h := hc10; simp at h; omega
 rw [goodE_end (by omega)] at hgo
 refine X_exit (at_then_e (at_then_e (at_block_hit (at_then (zR (zA (zN ?_)))))))
 refine X_ret ?_
 exact at_ret1 rfl rfl (fun w hw => ⟨by rw [hgo], hw.drop⟩)
end
section
open Go Go.Kn Go.Proofs
theorem mak_no {rows : List (List Int)} {no : Int} {cl : List Int} {es : List Em} (h : costE rows cl = 0) (h2 : ((decide (no < 0) || decide (no > 1048576)) || !goodE rows (rows.getD 0 []).length (-1) es) = true) : makE rows no cl es = 430 := by
 cases h3 : (decide (no < 0) || decide (no > 1048576))
 ·
  rw [h3, Bool.false_or, Bool.not_eq_true'] at h2; exact makE_3 h h3 h2
 ·
  exact makE_2 h h3
theorem mak_yes {rows : List (List Int)} {no : Int} {es : List Em} (h2 : ((decide (no < 0) || decide (no > 1048576)) || !goodE rows (rows.getD 0 []).length (-1) es) = false) : (decide (no < 0) || decide (no > 1048576)) = false ∧ goodE rows (rows.getD 0 []).length (-1) es = true := by
 rw [Bool.or_eq_false_iff, Bool.not_eq_false'] at h2; exact h2
end
section
open Go Go.Kn Go.Proofs
theorem fun_105 : Fun Tryz.prog 105 := .of Tryz.func105 (by kernel_rfl) (by kernel_rfl)
theorem fun_106 : Fun Tryz.prog 106 := .of Tryz.func106 (by kernel_rfl) (by kernel_rfl)
theorem fun_67 : Fun Tryz.prog 67 := .of Tryz.func67 (by kernel_rfl) (by kernel_rfl)
theorem fun_8 : Fun Tryz.prog 8 := .of Tryz.func8 (by kernel_rfl) (by kernel_rfl)
set_option maxHeartbeats 4000000 in
theorem q_Make {I : HMap} {av : Option Addr} {n c : Nat} {xs : List Int} (hS : Sl I 1 encI av n c xs) {bv : Option Addr} {n2 c2 : Nat} {rows : List (List Int)} (hVn : SlN I bv n2 c2 rows) (hn2 : n2 ≤ 100000) {dv : Option Addr} {n3 c3 : Nat} {es : List Em} (hEs : Sl I 3 encEm dv n3 c3 es) (hn3 : n3 ≤ 100000) (hnx : n ≤ 100000) (no : Int) : RetM Tryz.prog 67 [.slice bv n2 c2, .int .i64 no, .slice av n c, .slice dv n3 c3] I [] (MakQ rows no xs es) := by
 intro g H w hw
 refine enter Tryz.func67 rfl Tryz.ntmps67 rfl hw ?_
 have hIc := HLe.refl I
 have hlS := hS.len
 subst hlS
 have hlV := hVn.len
 subst hlV
 have hEl := hEs.len
 subst hEl
 have hVn9 := hVn
 obtain ⟨hs, hV⟩ := hVn9
 have hH := hV.1
 refine zR ?_
 refine XO_alloc zt_34 rfl rfl (fun b_8 => ?_)
 refine zA ?_
 refine zN (zR ?_)
 refine zM ?_
 refine zM ?_
 refine XO_callM (cap := []) (vs := [_, _]) rfl rfl fun_8 .nil (w_rRoots hS hnx hVn hn2) rfl rfl ?_
 rintro vv1 I1 L1 hI1 ⟨rfl, av4, c4, rfl, hRt⟩
 have hS := hS.mono hI1; have hVn := hVn.mono hI1; have hV := hV.mono hI1; have hH := hH.mono hI1; have hEs := hEs.mono hI1; have hIc := hIc.trans hI1
 refine zM ?_
 refine zE ?_
 refine zE ?_
 refine zA ?_
 refine zA (zN (X_seq (zR ?_)))
 refine zM ?_
 refine zC (zN ?_)
 refine zI ?_ ?_ <;> intro hc23
 ·
  have hcE : costE rows xs ≠ 0 := by simpa using hc23
  refine zR ?_
  refine zV (ev_buildL (ps := []) [_, _, _, _] plt_34 rfl rfl) ?_
  refine zM ?_
  refine XO_storeA rfl rfl szt_34 rfl rfl rfl rfl (by repeat (first | exact Upd.here | apply Upd.there | apply upd_app)) ?_
  refine zA (zN (X_ret (at_then_r ?_)))
  first
  | exact at_ret2A rfl rfl rfl agt_34 (vs := encEd 0 none 0 0 none 0 0 none 0 0) (by repeat (first | exact Cells.here | apply Cells.there)) rfl (fun w hw => ⟨_, _, [], rfl, hIc, hw.drop, rfl, _, by rw [makE_1 hcE] <;> rfl, .inr ⟨by rw [makE_1 hcE]; exact hcE, _, _, _, _, _, _, _, _, _, rfl, .nil, .nil, .nil⟩⟩)
 have hcE : costE rows xs = 0 := by simpa using hc23
 have hr0 : rowsN rows = 0 := by cases Decidable.em (rowsN rows = 0) with
  | inl h => exact h
  | inr h => exact absurd ((cost_1 h).1.symm.trans hcE) h
 obtain ⟨hr1, hr6, hr64, hrr⟩ := rows_ok hr0
 obtain ⟨x0, v0, hx0, hv0, hQ0⟩ := hV.at (k := 0) (by omega)
 have hg0 : rows.getD 0 [] = v0 := getD_of hv0
 have hQ0l := hQ0.len
 have hg1 : (rows.getD 0 []).length = v0.length := by rw [hg0]
 rw [roots_len hcE] at hRt ⊢
 refine X_skip (at_then (X_seq (zR (zM ?_))))
 refine zC ?_
 refine zM ?_
 refine XO_pushF 2 rfl rfl rfl ?_
 refine zJ (ev_move rfl) ?_
 refine zJ (ev_cmp rfl rfl rfl) ?_
 refine XO_or0 rfl rfl rfl rfl rfl ?_
 refine zM ?_
 refine XO_pushF 6 rfl rfl rfl ?_
 refine zJ (ev_move rfl) ?_
 refine zJ (ev_move rfl) ?_
 refine XO_callV1 (cap := []) (vs := [_, _]) rfl rfl fun_105 (fun hg => q_right43 hVn hn2 hEs hn3 (by omega) (fun r hr => (hrr r hr).1)) (.some rfl rfl rfl rfl gbf) rfl rfl ?_
 refine zJ (ev_not rfl) ?_
 refine XO_or0 rfl rfl rfl rfl rfl ?_
 refine zN ?_
 refine zI ?_ ?_ <;> intro hc37
 ·
  have hm37 : makE rows no xs es = 430 := mak_no hcE hc37
  refine zR ?_
  refine zV (ev_buildL (ps := []) [_, _, _, _] plt_34 rfl rfl) ?_
  refine XO_storeA rfl rfl szt_34 rfl rfl rfl rfl (by repeat (first | exact Upd.here | apply Upd.there | apply upd_app)) ?_
  refine zA (zN (X_ret (at_then_r ?_)))
  first
  | exact at_ret2A rfl rfl rfl agt_34 (vs := encEd 0 none 0 0 none 0 0 none 0 0) (by repeat (first | exact Cells.here | apply Cells.there)) rfl (fun w hw => ⟨_, _, [], rfl, hIc, hw.drop, rfl, _, by rw [hm37] <;> rfl, .inr ⟨by rw [hm37]; decide, _, _, _, _, _, _, _, _, _, rfl, .nil, .nil, .nil⟩⟩)
 have hnog := mak_yes hc37
 refine X_skip (at_then (zR (zM ?_)))
 refine zM ?_
 refine zM ?_
 refine zV (ev_buildL (ps := [(0, _), (1, _), (2, _)]) [_, _, _, _] plt_34 rfl rfl) ?_
 refine XO_alloc zt_34 rfl rfl (fun b_12 => ?_)
 refine XO_storeA rfl rfl szt_34 rfl rfl rfl rfl (by repeat (first | exact Upd.here | apply Upd.there | apply upd_app)) ?_
 refine zN (X_seq (X_seq ?_))
 refine X_locEq (loc' := [] ++ [(b_12, .cells (encEd no av xs.length c dv es.length c3 none 0 0).toArray 34 (0, 0)), (b_8, .cells (encEd 0 none 0 0 none 0 0 none 0 0).toArray 34 (0, 0))]) rfl ?_
 refine X_region (zA (zN (X_block ?_)))
 refine X_loopT [(0, _), (3, _), (8, _), (10, _), (12, _)] (.cons rfl (.cons rfl (.cons rfl (.cons rfl (.cons rfl .nil))))) (fun T L0 mz E I' loc' => ∃ (k : Nat) (va3 : Option Addr) (vc3 : Nat) (L : Go.Kn.Loc), mz = (rows.getD 0 []).length - k ∧ E = (13, .int .i64 k) :: T ∧ I1 = I' ∧ L ++ [(b_12, .cells (encEd no av xs.length c dv es.length c3 va3 k vc3).toArray 34 (0, 0)), (b_8, .cells (encEd 0 none 0 0 none 0 0 none 0 0).toArray 34 (0, 0))] = loc' ∧ k ≤ (rows.getD 0 []).length ∧ OwnS 3 1 (.slice va3 k vc3) k (((List.range k).map (readK rows xs es)).flatMap encI) L) _ _ _ _ ⟨0, none, 0, [], rfl, rfl, rfl, rfl, Nat.zero_le _, OwnS.nil⟩ (.cons rfl (.cons rfl (.cons rfl (.cons rfl (.cons rfl (.cons rfl .nil)))))) (HLe.refl _) rfl ?_
 rintro mz E I' loc' ⟨k, va3, vc3, L, rfl, rfl, rfl, rfl, hk, hO⟩
 refine X_seq (zR (zM ?_))
 refine zM ?_
 refine zQ slt_22 ?_
 refine zC (zN ?_)
 refine zI ?_ ?_ <;> intro hc46
 ·
  have hlt_k : k < (rows.getD 0 []).length := by have h := of_decide_eq_true hc46; omega
  obtain ⟨rhs, hRh9⟩ := id hRt
  have hRh := hRh9.1
  obtain ⟨rx, rv, hrx, hrv, hQ⟩ := hRh9.at hlt_k
  have hrv2 := roots_at hcE hlt_k
  rw [hrv2] at hrv
  cases hrv
  have hrp := root_pos (rows := rows) (cl := xs) (l := k)
  have hQl := hQ.len
  have hq0 : (rootF rows xs k)[0]? = some ((rootF rows xs k).getD 0 0) := some_getD rfl hrp
  have hk0 : v0[k]? = some (v0.getD k 0) := some_getD rfl (by rw [← hg0]; exact hlt_k)
  have hstl := stE_len (rows := rows) (l := k)
  have hrl : (rootF rows xs k).length ≤ (stE rows k).length := List.length_filter_le _ _
  refine X_skip (at_then (X_seq (X_block (zR (zM ?_)))))
  refine zM ?_
  refine zV (zX slt_22 hRh) ?_
  refine zV (ev_load rfl sct_23 (fun hg => by exact Sl.get0 hRh hrx rfl)) ?_
  refine zV (zX slt_23 hQ) ?_
  refine zV (ev_load rfl sct_3 (fun hg => by exact Sl.get0 hQ hq0 rfl)) ?_
  refine zA (zN ?_)
  refine X_cutT [(0, _), (3, _), (8, _), (10, _), (12, _), (13, _)] (.cons rfl (.cons rfl (.cons rfl (.cons rfl (.cons rfl (.cons rfl .nil)))))) (fun T L0 E I' loc' => ∃ (nb : Int), E = (14, .int .i64 nb) :: T ∧ I1 = I' ∧ L ++ [(b_12, .cells (encEd no av xs.length c dv es.length c3 va3 k vc3).toArray 34 (0, 0)), (b_8, .cells (encEd 0 none 0 0 none 0 0 none 0 0).toArray 34 (0, 0))] = loc' ∧ nb = baseK rows xs k) ?_ ?_
  ·
   refine X_seq ?_
   refine X_draw mixed (by kernel_rfl) ?_
   refine XQ_v0 (ev_move rfl) rfl rfl rfl ?_
   refine XQ_v0 (ev_move rfl) rfl rfl rfl ?_
   refine XQ_v0 (zX slt_22 hRh) rfl rfl rfl ?_
   refine XQ_v0 (ev_load rfl sct_23 (fun hg => by exact Sl.get0 hRh hrx rfl)) rfl rfl rfl ?_
   refine XQ_v0 (ev_move rfl) rfl rfl rfl ?_
   refine XQ_v0 (zX slt_22 hH) rfl rfl rfl ?_
   refine XQ_v0 (ev_load rfl sct_23 (fun hg => by exact Sl.get0 hH hx0 rfl)) rfl rfl rfl ?_
   refine XQ_v0 (ev_move rfl) rfl rfl rfl ?_
   refine XQ_v0 (zX slt_23 hQ0) rfl rfl rfl ?_
   refine XQ_v0 (ev_load rfl sct_3 (fun hg => by exact Sl.get0 hQ0 hk0 rfl)) rfl rfl rfl ?_
   refine XQ_callV0 (cap := []) (vs := [_, _]) rfl rfl fun_106 (q_has hQ (by omega) _) rfl rfl ?_
   refine XQ_nil ?_
   refine at_then ?_
   refine zI ?_ ?_ <;> intro hc65
   ·
    refine X_region (zM ?_)
    refine zV (zX slt_22 hH) ?_
    refine zV (ev_load rfl sct_23 (fun hg => by exact Sl.get0 hH hx0 rfl)) ?_
    refine zM ?_
    refine zV (zX slt_23 hQ0) ?_
    refine zV (ev_load rfl sct_3 (fun hg => by exact Sl.get0 hQ0 hk0 rfl)) ?_
    refine zA (XO_nil ?_)
    first
    | exact at_met2 _ _ ⟨_, rfl, rfl, rfl, by unfold baseK; rw [hg0, if_pos hc65]⟩ (.cons rfl (.cons rfl (.cons rfl (.cons rfl (.cons rfl (.cons rfl (.cons rfl .nil))))))) .refl
   refine X_skip ?_
   first
   | exact at_met2 _ _ ⟨_, rfl, rfl, rfl, by unfold baseK; rw [hg0, if_neg (by rw [hc65]; decide)]⟩ (.cons rfl (.cons rfl (.cons rfl (.cons rfl (.cons rfl (.cons rfl (.cons rfl .nil))))))) .refl
  rintro E I' loc' ⟨nb, rfl, rfl, rfl, hnb⟩
  refine X_seq (zR (zA (zN (X_block ?_))))
  refine X_loopT [(0, _), (3, _), (8, _), (10, _), (12, _), (13, _)] (.cons rfl (.cons rfl (.cons rfl (.cons rfl (.cons rfl (.cons rfl .nil)))))) (fun T L0 mz E I' loc' => ∃ (j : Nat) (nn : Int), mz = es.length - j ∧ E = (14, .int .i64 nn) :: (15, .int .i64 j) :: T ∧ I1 = I' ∧ L ++ [(b_12, .cells (encEd no av xs.length c dv es.length c3 va3 k vc3).toArray 34 (0, 0)), (b_8, .cells (encEd 0 none 0 0 none 0 0 none 0 0).toArray 34 (0, 0))] = loc' ∧ j ≤ es.length ∧ nn = (es.take j).foldl (emF k) (baseK rows xs k)) _ _ _ _ ⟨0, _, rfl, rfl, rfl, rfl, Nat.zero_le _, hnb⟩ (.cons rfl (.cons rfl (.cons rfl (.cons rfl (.cons rfl (.cons rfl (.cons rfl (.cons rfl .nil)))))))) (HLe.refl _) rfl ?_
  rintro mz E I' loc' ⟨j, nn, rfl, rfl, rfl, rfl, hj, hnn⟩
  refine X_seq (zR (zM ?_))
  refine zM ?_
  refine zQ slt_32 ?_
  refine zC (zN ?_)
  refine zI ?_ ?_ <;> intro hc75
  ·
   have hlt_j : j < es.length := by have h := hc75; simp at h; omega
   obtain ⟨e, he⟩ := hEs.at hlt_j
   refine X_skip (at_then (X_seq (X_block (zR (zM ?_)))))
   refine zM ?_
   refine zV (zX slt_32 hEs) ?_
   refine zF fld_44_0 ?_
   refine zV (ev_load rfl sct_3 (fun hg => by exact Sl.get0 hEs he rfl)) ?_
   refine zM ?_
   refine zC (zN ?_)
   refine zI ?_ ?_ <;> intro hc84
   ·
    refine X_region (zM ?_)
    refine zM ?_
    refine zV (zX slt_32 hEs) ?_
    refine zF fld_44_1 ?_
    refine zV (ev_load rfl sct_3 (fun hg => by exact Sl.get (j := 1) hEs he rfl)) ?_
    refine zA (XO_nil (at_block_n (at_then (X_region ?_))))
    refine zM ?_
    refine zB ?_
    refine zA (XO_nil ?_)
    first
    | exact at_met2 _ _ ⟨es.length - (j + 1), by omega, j + 1, _, rfl, rfl, rfl, rfl, by omega, by rw [em_snoc he, ← hnn]; unfold emF; rw [if_pos (by simpa using hc84)]⟩ (.cons rfl (.cons rfl (.cons rfl (.cons rfl (.cons rfl (.cons rfl (.cons rfl (.cons rfl .nil)))))))) (by repeat (first | exact .refl | exact subL_left | refine subL_app ?_ | refine .drop ?_ | refine subL_add ?_))
   refine X_skip (at_block_n (at_then (X_region (zM ?_))))
   refine zB ?_
   refine zA (XO_nil ?_)
   first
   | exact at_met2 _ _ ⟨es.length - (j + 1), by omega, j + 1, _, rfl, rfl, rfl, rfl, by omega, by rw [em_snoc he, ← hnn]; unfold emF; rw [if_neg (by simpa using hc84)]⟩ (.cons rfl (.cons rfl (.cons rfl (.cons rfl (.cons rfl (.cons rfl (.cons rfl (.cons rfl .nil)))))))) (by repeat (first | exact .refl | exact subL_left | refine subL_app ?_ | refine .drop ?_ | refine subL_add ?_))
  have hge_j : es.length ≤ j := by have h := hc75; simp at h; omega
  rw [List.take_of_length_le hge_j, scan_read hnog.2] at hnn
  obtain ⟨n9, hn9⟩ : ∃ n9, n9 = nn := ⟨_, rfl⟩
  subst hn9
  have hrd9 := hnn
  refine X_exit (at_then_e (at_then_e (at_block_hit (at_then (X_region ?_)))))
  refine zF fld_34_3 ?_
  refine zV (ev_load rfl sct_23 (fun hg => by (repeat (first | exact Cell.here rfl | apply Cell.there | apply Cell.app)))) ?_
  refine zM ?_
  refine XO_buildSlice (ps := [(0, _)]) (m := [encI n9]) elt_23 rfl (.cons rfl (.nil)) rfl (by simp [encI_len]) (by decide) (by decide) rfl rfl (fun b_93 => ?_)
  refine XO_append (v := _) (ys := [n9].flatMap encI) (L := L) rfl rfl elt_23 hO (by repeat (first | exact .cons .here .nil | exact split_all | exact split_app | apply split_cons | apply split_skip)) ⟨rfl, fun _ => rfl, by repeat (first | exact Cells.here | apply Cells.there | apply Cells.app)⟩ (one_I [n9]) (by omega) rfl rfl ?_
  intro v9 L9 hO9 _; rw [← List.flatMap_append] at hO9; obtain ⟨va9, vc9, rfl⟩ := valn hO9
  refine zF fld_34_3 ?_
  refine zS szt_23 ?_
  refine XO_nil (at_block_n (at_then (X_region (zM ?_))))
  refine zB ?_
  refine zA (XO_nil ?_)
  exact at_met2 _ _ ⟨(rows.getD 0 []).length - (k + 1), by omega, k + 1, _, _, _, rfl, rfl, rfl, rfl, by omega, by rw [range_map, ← hrd9]; exact hO9⟩ (.cons rfl (.cons rfl (.cons rfl (.cons rfl (.cons rfl (.cons rfl .nil)))))) (by repeat (first | exact .refl | exact subL_left | refine subL_app ?_ | refine .drop ?_ | refine subL_add ?_))
 have hge_k : (rows.getD 0 []).length ≤ k := by have h := of_decide_eq_false hc46; omega
 obtain rfl : k = (rows.getD 0 []).length := by omega
 refine X_exit (at_then_e (at_then_e (at_block_hit (at_then (zR ?_)))))
 refine zV (ev_loadA rfl agt_34 (fun hg => by (repeat (first | exact Cells.here | apply Cells.there | apply Cells.app))) rfl) ?_
 refine XO_storeA rfl rfl szt_34 rfl rfl rfl rfl (by repeat (first | exact Upd.here | apply Upd.there | apply upd_app)) ?_
 refine zA (zN (X_ret ?_))
 first
 | exact at_ret2A rfl rfl rfl agt_34 (vs := encEd no av xs.length c dv es.length c3 va3 (rows.getD 0 []).length vc3) (by repeat (first | exact Cells.here | apply Cells.there | apply Cells.app)) rfl (fun w hw => by obtain ⟨I9, av9, c9, h1', h2', e9, h4'⟩ := OwnS.freeze (R := [_, _]) hO encI_len (by decide) hw; cases e9; exact ⟨_, I9, [], rfl, hIc.trans h1', h2'.drop, rfl, _, by rw [makE_4 hcE hnog.1 hnog.2] <;> rfl, .inl ⟨makE_4 hcE hnog.1 hnog.2, av, _, _, dv, _, _, va3, _, _, rfl, hS.mono h1', hEs.mono h1', h4'⟩⟩)
theorem q_Check43 {I : HMap} {bv : Option Addr} {n2 c2 : Nat} {rows : List (List Int)} (hVn : SlN I bv n2 c2 rows) (hn2 : n2 ≤ 100000) {ea1 : Option Addr} {en1 ec1 : Nat} {ea2 : Option Addr} {en2 ec2 : Nat} {ea3 : Option Addr} {en3 ec3 : Nat} {xs : List Int} {es : List Em} {rd : List Int} (hX1 : Sl I 1 encI ea1 en1 ec1 xs) (hX2 : Sl I 3 encEm ea2 en2 ec2 es) (hX3 : Sl I 1 encI ea3 en3 ec3 rd) (hm1 : en1 ≤ 100000) (hm2 : en2 ≤ 100000) (hm3 : en3 ≤ 100000) (no : Int) : RetV Tryz.prog 33 [.slice bv n2 c2, .agg (encEd no ea1 en1 ec1 ea2 en2 ec2 ea3 en3 ec3).toArray] I (.int .i64 (edcF rows no xs es rd)) := by
 intro g H w hw
 refine enter Tryz.func33 rfl Tryz.ntmps33 rfl hw ?_
 have hIc := HLe.refl I
 refine zR ?_
 refine XO_box rfl rfl rfl (fun b_3 => ?_)
 refine zA ?_
 refine zN (zR ?_)
 refine zM ?_
 refine zF fld_34_0 ?_
 refine zV (ev_load rfl sct_3 (fun hg => by exact Cell.h0 rfl)) ?_
 refine zF fld_34_1 ?_
 refine zV (ev_load rfl sct_23 (fun hg => by exact Cell.h0 rfl)) ?_
 refine zF fld_34_2 ?_
 refine zV (ev_load rfl sct_32 (fun hg => by exact Cell.h0 rfl)) ?_
 refine XO_callM (cap := []) (vs := [_, _, _, _]) rfl rfl fun_67 .nil (q_Make hX1 hVn hn2 hX2 hm2 hm1 no) rfl rfl ?_
 rintro vv1 I1 L1 hI1 hMQ
 have hVn := hVn.mono hI1; have hX1 := hX1.mono hI1; have hX2 := hX2.mono hI1; have hX3 := hX3.mono hI1; have hIc := hIc.trans hI1
 obtain ⟨rfl, no2, cl2, es2, rd2, a1, q1, c1, a2, q2, c9, a3, q3, c3, rfl, hM1, hM2, hM3, hMy, hMn⟩ := hMQ.opn
 refine zM ?_
 refine zE ?_
 refine zE ?_
 refine XO_alloc zt_34 rfl rfl (fun b_5 => ?_)
 refine XO_storeA rfl rfl szt_34 rfl rfl rfl rfl (by repeat (first | exact Upd.here | apply Upd.there | apply upd_app)) ?_
 refine zA (zN (X_seq (zR ?_)))
 refine zM ?_
 refine zC (zN ?_)
 refine zI ?_ ?_ <;> intro hc19
 ·
  have hE0 : makE rows no xs es ≠ 0 := by have h := hc19; simpa using h
  refine zR (zM ?_)
  refine zA (zN (X_ret (at_then_r ?_)))
  first
  | exact at_ret1 rfl rfl (fun w hw => ⟨by rw [edc_1 hE0] <;> rfl, (hw.mono hIc).drop⟩)
 have hE0 : makE rows no xs es = 0 := by have h := hc19; simpa using h
 obtain ⟨-, -, -, rfl⟩ := hMy hE0
 refine X_skip (at_then (X_seq (zR ?_)))
 refine zF fld_34_3 ?_
 refine zV (ev_load rfl sct_23 (fun hg => by exact Cell.h1 rfl)) ?_
 refine zF fld_34_3 ?_
 refine zV (ev_load rfl sct_23 (fun hg => by exact Cell.h0 rfl)) ?_
 refine XO_callV0 (cap := []) (vs := [_, _]) rfl rfl fun_66 (q_sameI hX3 hM3 hm3) rfl rfl ?_
 refine zO (zN ?_)
 refine zI ?_ ?_ <;> intro hc26
 ·
  have hrd : rd ≠ readsL rows xs es := fun e => by have h := hc26; rw [decide_eq_true e] at h; cases h
  refine zR (zA (zN (X_ret (at_then_r ?_))))
  first
  | exact at_ret1 rfl rfl (fun w hw => ⟨by rw [edc_2 hE0 hrd] <;> rfl, (hw.mono hIc).drop⟩)
 have hrd : rd = readsL rows xs es := Decidable.byContradiction fun e => by have h := hc26; rw [decide_eq_false e] at h; cases h
 refine X_skip (at_then (zR (zA (zN (X_ret ?_)))))
 first
 | exact at_ret1 rfl rfl (fun w hw => ⟨by rw [edc_3 hE0 hrd] <;> rfl, (hw.mono hIc).drop⟩)
end
section
open Go Go.Kn Go.Proofs
def fstI (p : Int → Bool) : Nat → List Int → Int
 | _, [] => -1
 | j, v :: vs => if p v = true then (j : Int) else fstI p (j + 1) vs
def okV (v : Int) : Bool := v != 8589934592 && v != 0
def exV (code v : Int) : Bool := okV v && v == code
def colK (rows : List (List Int)) (k : Nat) : List Int := rows.map fun r => r.getD k 0
theorem col_at {rows : List (List Int)} {k i : Nat} {r : List Int} (h : rows[i]? = some r) : (colK rows k)[i]? = some (r.getD k 0) := by unfold colK; rw [List.getElem?_map, h]; rfl
theorem col_len {rows : List (List Int)} {k : Nat} : (colK rows k).length = rows.length := by unfold colK; simp
theorem fst_yes {p : Int → Bool} {l : List Int} {j : Nat} {v : Int} (h : l[j]? = some v) (hp : p v = true) : fstI p j (l.drop j) = j := by rw [drop_cons h]; unfold fstI; rw [if_pos hp]
theorem fst_no {p : Int → Bool} {l : List Int} {j : Nat} {v : Int} (h : l[j]? = some v) (hp : p v = false) : fstI p j (l.drop j) = fstI p (j + 1) (l.drop (j + 1)) := by rw [drop_cons h]; show (if p v = true then (j : Int) else _) = _; rw [if_neg (by rw [hp]; decide)]
theorem fst_end {p : Int → Bool} {l : List Int} {j : Nat} (h : l.length ≤ j) : fstI p j (l.drop j) = -1 := by rw [List.drop_eq_nil_of_le h]; rfl
theorem fst_in {p : Int → Bool} : ∀ {l : List Int} {j : Nat}, 0 ≤ fstI p j l → ∃ i v, fstI p j l = ((j + i : Nat) : Int) ∧ l[i]? = some v ∧ p v = true
 | [], j, h => by unfold fstI at h; omega
 | v :: vs, j, h => by
  unfold fstI at h ⊢
  by_cases hp : p v = true
  ·
   rw [if_pos hp]; exact ⟨0, v, by simp, rfl, hp⟩
  ·
   rw [if_neg hp] at h ⊢
   obtain ⟨i, u, e1, e2, e3⟩ := fst_in h
   exact ⟨i + 1, u, by rw [e1]; omega, by simpa using e2, e3⟩
def manyV (l : List Int) : Nat := (l.filter okV).length
theorem many_yes {l : List Int} {j : Nat} {v : Int} (h : l[j]? = some v) (hp : okV v = true) : manyV (l.drop j) = manyV (l.drop (j + 1)) + 1 := by rw [drop_cons h]; unfold manyV; rw [List.filter_cons, if_pos hp]; rfl
theorem many_no {l : List Int} {j : Nat} {v : Int} (h : l[j]? = some v) (hp : okV v = false) : manyV (l.drop j) = manyV (l.drop (j + 1)) := by rw [drop_cons h]; unfold manyV; rw [List.filter_cons, if_neg (by rw [hp]; decide)]
def lostV (l : List Int) : Bool := l.any fun v => v == 8589934592
theorem lost_at {l : List Int} {j : Nat} {v : Int} (h : l[j]? = some v) : lostV (l.drop j) = (v == 8589934592 || lostV (l.drop (j + 1))) := by rw [drop_cons h]; rfl
theorem many_le (l : List Int) : manyV l ≤ l.length := List.length_filter_le _ _
def whoK (rows : List (List Int)) (k : Nat) (code : Int) : Int := if fstI (exV code) 0 (colK rows k) ≥ 0 then fstI (exV code) 0 (colK rows k) else fstI okV 0 (colK rows k)
def habK (ws : List Wr) (rows : List (List Int)) (k : Nat) : Bool := (decide ((ws.length : Int) ≥ 2) && ((manyV (colK rows k) : Nat) : Int) == 1) && !lostV (colK rows k)
def rsgK (ws : List Wr) (rows : List (List Int)) (k : Nat) (code : Int) : Option Sg :=
 if fstI okV 0 (colK rows k) < 0 then none else some (putS k code (ydF ws rows (whoK rows k code).toNat k).sg (habK ws rows k))
theorem fst_ex {code : Int} {l : List Int} {j : Nat} (h : fstI okV j l < 0) : fstI (exV code) j l < 0 := by
 induction l generalizing j with
 | nil => exact h
 | cons v vs ih =>
  unfold fstI at h ⊢
  by_cases hp : okV v = true
  ·
   rw [if_pos hp] at h; omega
  ·
   rw [if_neg hp] at h
   rw [if_neg (by unfold exV; simp [hp])]
   exact ih h
theorem who_in {rows : List (List Int)} {k : Nat} {code : Int} (h : ¬ fstI okV 0 (colK rows k) < 0) : ∃ (i : Nat) (r : List Int), whoK rows k code = (i : Int) ∧ rows[i]? = some r ∧ r.getD k 0 ≠ 0 := by
 have key : ∀ p : Int → Bool, (∀ v, p v = true → v ≠ 0) → 0 ≤ fstI p 0 (colK rows k) → ∃ (i : Nat) (r : List Int), fstI p 0 (colK rows k) = (i : Int) ∧ rows[i]? = some r ∧ r.getD k 0 ≠ 0 := fun p hp h0 => by
  obtain ⟨i, v, e1, e2, e3⟩ := fst_in h0
  unfold colK at e2
  rw [List.getElem?_map] at e2
  obtain ⟨r, hr, e⟩ := Option.map_eq_some_iff.1 e2
  exact ⟨i, r, by rw [e1]; simp, hr, by rw [e]; exact hp v e3⟩
 have ho : ∀ v, okV v = true → v ≠ 0 := fun v hv => by unfold okV at hv; simp at hv; exact hv.2
 unfold whoK
 split
 ·
  rename_i h1
  exact key _ (fun v hv => ho v (by unfold exV at hv; simp at hv; exact hv.1)) h1
 ·
  exact key _ ho (by omega)
theorem yd_eq {ws : List Wr} {rows : List (List Int)} {i k : Nat} {x : Wr} {r : List Int} (hv : ws[i]? = some x) (hr : rows[i]? = some r) : ydF ws rows i k = x.rs.getD (nzF r k) zeroRd := by
 unfold ydF
 rw [hv, getD_of hr]; rfl
theorem rsg_no {ws : List Wr} {rows : List (List Int)} {k : Nat} {code : Int} (h : fstI okV 0 (colK rows k) < 0) : rsgK ws rows k code = none := by unfold rsgK; rw [if_pos h]
theorem rsg_yes {ws : List Wr} {rows : List (List Int)} {k : Nat} {code : Int} {i : Nat} {y : Rd} {m : Bool} (h : ¬ fstI okV 0 (colK rows k) < 0) (hi : whoK rows k code = (i : Int)) (hy : ydF ws rows i k = y) (hm : habK ws rows k = m) : rsgK ws rows k code = some (putS k code y.sg m) := by
 unfold rsgK; rw [if_neg h, hi, hm, ← hy]; rfl
end
section
open Go Go.Kn Go.Proofs
theorem afl_51_1 : FieldA Tryz.prog 51 1 1 14 := .of (by kernel_rfl)
theorem fun_68 : Fun Tryz.prog 68 := .of Tryz.func68 (by kernel_rfl) (by kernel_rfl)
theorem q_reading43 {I : HMap} {av : Option Addr} {n c : Nat} {rs : List Rd} (hR : Sl I 15 encRd av n c rs) {bv : Option Addr} {n2 c2 : Nat} {row : List Int} (hQ : Sl I 1 encI bv n2 c2 row) (no yr : Int) (k : Nat) (hk : k ≤ n2) (hn : n ≤ 100000) (hn2 : n2 ≤ 100000) (hz : nzF row k < n) : RetV Tryz.prog 68 [.agg #[.int .i64 no, .int .i64 yr, .slice av n c], .slice bv n2 c2, .int .i64 k] I (.agg (encRd (rs.getD (nzF row k) zeroRd)).toArray) := by
 intro g H w hw
 refine enter Tryz.func68 rfl Tryz.ntmps68 rfl hw ?_
 have hRl := hR.len
 have hQl := hQ.len
 refine zR ?_
 refine XO_box rfl rfl rfl (fun b_3 => ?_)
 refine XO_alloc zt_51 rfl rfl (fun b_6 => ?_)
 refine zN (zR ?_)
 refine zA (zN (X_seq (zR ?_)))
 refine zA (zN (X_block ?_))
 refine X_loopT [(1, _), (2, _), (3, _), (6, _)] (.cons rfl (.cons rfl (.cons rfl (.cons rfl .nil)))) (fun T L0 mz E I' loc' => ∃ (i : Nat) (q : Int), mz = k - i ∧ E = (7, .int .i64 q) :: (8, .int .i64 i) :: T ∧ I = I' ∧ L0 = loc' ∧ i ≤ k ∧ q = ((nzF row i : Nat) : Int) ∧ nzF row i ≤ i) _ _ _ _ ⟨0, _, rfl, rfl, rfl, rfl, Nat.zero_le _, rfl, Nat.le_refl _⟩ (.cons rfl (.cons rfl (.cons rfl (.cons rfl (.cons rfl (.cons rfl .nil)))))) (HLe.refl _) rfl ?_
 rintro mz E I' loc' ⟨i, q, rfl, rfl, rfl, rfl, hi, hq, hqi⟩
 refine X_seq (zR (zM ?_))
 refine zM ?_
 refine zC (zN ?_)
 refine zI ?_ ?_ <;> intro hc11
 ·
  have hlt_i : i < k := by have h := hc11; simp at h; omega
  obtain ⟨cv, hc⟩ : ∃ cv, row[i]? = some cv := hQ.at (by omega)
  refine X_skip (at_then (X_seq (X_block (zR (zM ?_)))))
  refine zM ?_
  refine zV (zX slt_23 hQ) ?_
  refine zV (ev_load rfl sct_3 (fun hg => by exact Sl.get0 hQ hc rfl)) ?_
  refine zC (zN ?_)
  refine zI ?_ ?_ <;> intro hc18
  ·
   refine X_region (zM ?_)
   refine zB ?_
   refine zA (XO_nil (at_block_n (at_then (X_region ?_))))
   refine zM ?_
   refine zB ?_
   refine zA (XO_nil ?_)
   first
   | exact at_met2 _ _ ⟨k - (i + 1), by omega, i + 1, _, rfl, rfl, rfl, rfl, by omega, by rw [nzF_yes hc (by simpa using hc18)]; omega, by rw [nzF_yes hc (by simpa using hc18)]; omega⟩ (.cons rfl (.cons rfl (.cons rfl (.cons rfl (.cons rfl (.cons rfl .nil)))))) (by repeat (first | exact .refl | exact subL_left | refine subL_app ?_ | refine .drop ?_ | refine subL_add ?_))
  refine X_skip (at_block_n (at_then (X_region (zM ?_))))
  refine zB ?_
  refine zA (XO_nil ?_)
  first
  | exact at_met2 _ _ ⟨k - (i + 1), by omega, i + 1, _, rfl, rfl, rfl, rfl, by omega, by rw [nzF_no hc (by simpa using hc18)]; exact hq, by rw [nzF_no hc (by simpa using hc18)]; omega⟩ (.cons rfl (.cons rfl (.cons rfl (.cons rfl (.cons rfl (.cons rfl .nil)))))) (by repeat (first | exact .refl | exact subL_left | refine subL_app ?_ | refine .drop ?_ | refine subL_add ?_))
 have hge_i : k ≤ i := by have h := hc11; simp at h; omega
 have hik : i = k := by omega
 rw [hik] at hq
 subst hq
 refine X_exit (at_then_e (at_then_e (at_block_hit (at_then (zR ?_)))))
 refine zF fld_54_2 ?_
 refine zV (ev_load rfl sct_52 (fun hg => by exact Cell.h1 rfl)) ?_
 refine zM ?_
 refine zV (zX slt_52 hR) ?_
 refine zV (ev_loadA rfl agt_51 (fun hg => by exact Sl.getA (k := nzF row k) hR (some_getD (d := zeroRd) hRl hz)) rfl) ?_
 refine XO_storeA rfl rfl szt_51 rfl rfl rfl rfl (by repeat (first | exact Upd.here | apply Upd.there | apply upd_app)) ?_
 refine zN (X_ret ?_)
 exact at_retA rfl rfl agt_51 (by repeat (first | exact Cells.here | apply Cells.there)) rfl (fun w hw => ⟨rfl, hw.drop⟩)
set_option maxHeartbeats 4000000 in
theorem q_sign43 {I : HMap} {av : Option Addr} {n c : Nat} {ws : List Wr} (hW0 : SlW I av n c ws) {bv : Option Addr} {n2 c2 : Nat} {rows : List (List Int)} (hV : SlN I bv n2 c2 rows) (hn2 : n2 ≤ 100000) (hlen : rows.length = ws.length) (k : Nat) (hk : ∀ r ∈ rows, k < r.length) (hrb : ∀ x ∈ ws, x.rs.length ≤ 100000) (hqb : ∀ r ∈ rows, r.length ≤ 100000) (hnz : NzOK ws rows) (code : Int) : RetV Tryz.prog 34 [.slice av n c, .slice bv n2 c2, .int .i64 k, .int .i64 code] I (.tuple #[encGA ((rsgK ws rows k code).getD zeroS), .bool (rsgK ws rows k code).isSome]) := by
 intro g H w hw
 refine enter Tryz.func34 rfl Tryz.ntmps34 rfl hw ?_
 obtain ⟨ws0, hW⟩ := id hW0
 have hH := hW.1
 have hlW := hW.len
 have hVl := hV.len
 obtain ⟨hs, hVH⟩ := id hV
 have hHH := hVH.1
 have hcl : (colK rows k).length ≤ rows.length := by rw [col_len]; exact Nat.le_refl _
 refine zR ?_
 refine XO_alloc zt_48 rfl rfl (fun b_8 => ?_)
 refine zA ?_
 refine zN (zR ?_)
 refine zA ?_
 refine zN (zR ?_)
 refine zA ?_
 refine zN (zR ?_)
 refine zA ?_
 refine zN (zR ?_)
 refine zA (zN (X_seq (zR ?_)))
 refine zM ?_
 refine zQ slt_31 ?_
 refine zB ?_
 refine zA (zN (X_block ?_))
 refine X_loopT [(0, _), (1, _), (2, _), (3, _), (8, _)] (.cons rfl (.cons rfl (.cons rfl (.cons rfl (.cons rfl .nil))))) (fun T L0 mz E I' loc' => ∃ (j : Nat) (q ex so : Int) (mn : Nat) (lo : Bool), mz = (j + 1) ∧ E = (10, .int .i64 ex) :: (11, .int .i64 so) :: (12, .int .i64 mn) :: (13, .bool lo) :: (14, .int .i64 q) :: T ∧ I = I' ∧ L0 = loc' ∧ q = (j : Int) - 1 ∧ j ≤ rows.length ∧ ex = fstI (exV code) j ((colK rows k).drop j) ∧ so = fstI okV j ((colK rows k).drop j) ∧ mn = manyV ((colK rows k).drop j) ∧ lo = lostV ((colK rows k).drop j)) _ _ _ _ ⟨rows.length, _, _, _, 0, false, rfl, rfl, rfl, rfl, by omega, Nat.le_refl _, (fst_end hcl).symm, (fst_end hcl).symm, by rw [List.drop_eq_nil_of_le hcl]; rfl, by rw [List.drop_eq_nil_of_le hcl]; rfl⟩ (.cons rfl (.cons rfl (.cons rfl (.cons rfl (.cons rfl (.cons rfl (.cons rfl (.cons rfl (.cons rfl (.cons rfl .nil)))))))))) (HLe.refl _) rfl ?_
 rintro mz E I' loc' ⟨j, q, ex, so, mn, lo, rfl, rfl, rfl, rfl, hq, hj, hex, hso, hmn, hlo⟩
 refine X_seq (zR (zM ?_))
 refine zC (zN ?_)
 refine zI ?_ ?_ <;> intro hc23
 ·
  obtain ⟨i, rfl⟩ : ∃ i, j = i + 1 := ⟨j - 1, by have h := hc23; simp at h; omega⟩
  obtain rfl : q = (i : Int) := by omega
  obtain ⟨h1, r1, hh, hr, hQ⟩ := hVH.at (k := i) (by omega)
  have hQl := hQ.len
  have hkr := hk _ (List.mem_of_getElem? hr)
  have hcv := col_at (k := k) hr
  have hmb := many_le ((colK rows k).drop (i + 1))
  rw [List.length_drop] at hmb
  refine X_skip (at_then (X_seq (X_block (zR (zM ?_)))))
  refine zM ?_
  refine zV (zX slt_22 hHH) ?_
  refine zV (ev_load rfl sct_23 (fun hg => by exact Sl.get0 hHH hh rfl)) ?_
  refine zM ?_
  refine zV (zX slt_23 hQ) ?_
  refine zV (ev_load rfl sct_3 (fun hg => by exact Sl.get0 (k := k) hQ (some_getD (d := 0) rfl (by omega)) rfl)) ?_
  refine zA ?_
  refine zN (zR ?_)
  refine zM ?_
  refine zC (zN ?_)
  refine zI ?_ ?_ <;> intro hc34
  ·
   have hv9 : (r1.getD k 0) = 8589934592 := by simpa using hc34
   have hko : okV (r1.getD k 0) = false := by rw [hv9]; rfl
   have hke : exV code (r1.getD k 0) = false := by unfold exV; rw [hko]; rfl
   have hkl : lostV ((colK rows k).drop i) = true := by rw [lost_at hcv, hv9]; rfl
   refine X_region (zA (XO_nil (at_block_n (at_then (X_region ?_)))))
   refine zM ?_
   refine zB ?_
   refine zA (XO_nil ?_)
   first
   | exact at_met2 _ _ ⟨i + 1, by omega, i, _, _, _, _, _, rfl, rfl, rfl, rfl, by omega, by omega, by rw [fst_no hcv hke]; exact hex, by rw [fst_no hcv hko]; exact hso, by rw [many_no hcv hko]; exact hmn, hkl.symm⟩ (.cons rfl (.cons rfl (.cons rfl (.cons rfl (.cons rfl (.cons rfl (.cons rfl (.cons rfl (.cons rfl (.cons rfl .nil)))))))))) (by repeat (first | exact .refl | exact subL_left | refine subL_app ?_ | refine .drop ?_ | refine subL_add ?_))
  have hv9 : ((r1.getD k 0) == 8589934592) = false := hc34
  have hkl : lostV ((colK rows k).drop i) = lostV ((colK rows k).drop (i + 1)) := by rw [lost_at hcv, hv9, Bool.false_or]
  refine zR (zM ?_)
  refine zC (zN ?_)
  refine zI ?_ ?_ <;> intro hc36
  ·
   have hko : okV (r1.getD k 0) = true := by unfold okV; rw [hc36, bne, hv9]; rfl
   refine zR (zM ?_)
   refine zA ?_
   refine zN (zR ?_)
   refine zM ?_
   refine zB ?_
   refine zA ?_
   refine zN (zR ?_)
   refine zM ?_
   refine zM ?_
   refine zC (zN ?_)
   refine zI ?_ ?_ <;> intro hc42
   ·
    have hke : exV code (r1.getD k 0) = true := by unfold exV; rw [hko, hc42]; rfl
    refine X_region (zM ?_)
    refine zA (XO_nil (at_block_n (at_then (X_region ?_))))
    refine zM ?_
    refine zB ?_
    refine zA (XO_nil ?_)
    first
    | exact at_met2 _ _ ⟨i + 1, by omega, i, _, _, _, (mn + 1), _, rfl, rfl, rfl, rfl, by omega, by omega, by rw [fst_yes hcv hke], by rw [fst_yes hcv hko], by rw [many_yes hcv hko]; omega, by rw [hkl]; exact hlo⟩ (.cons rfl (.cons rfl (.cons rfl (.cons rfl (.cons rfl (.cons rfl (.cons rfl (.cons rfl (.cons rfl (.cons rfl .nil)))))))))) (by repeat (first | exact .refl | exact subL_left | refine subL_app ?_ | refine .drop ?_ | refine subL_add ?_))
   have hke : exV code (r1.getD k 0) = false := by unfold exV; rw [hko, hc42]; rfl
   refine X_skip (at_block_n (at_then (X_region (zM ?_))))
   refine zB ?_
   refine zA (XO_nil ?_)
   first
   | exact at_met2 _ _ ⟨i + 1, by omega, i, _, _, _, (mn + 1), _, rfl, rfl, rfl, rfl, by omega, by omega, by rw [fst_no hcv hke]; exact hex, by rw [fst_yes hcv hko], by rw [many_yes hcv hko]; omega, by rw [hkl]; exact hlo⟩ (.cons rfl (.cons rfl (.cons rfl (.cons rfl (.cons rfl (.cons rfl (.cons rfl (.cons rfl (.cons rfl (.cons rfl .nil)))))))))) (by repeat (first | exact .refl | exact subL_left | refine subL_app ?_ | refine .drop ?_ | refine subL_add ?_))
  have hko : okV (r1.getD k 0) = false := by unfold okV; rw [hc36]; exact Bool.and_false _
  have hke : exV code (r1.getD k 0) = false := by unfold exV; rw [hko]; rfl
  refine X_skip (at_block_n (at_then (X_region (zM ?_))))
  refine zB ?_
  refine zA (XO_nil ?_)
  first
  | exact at_met2 _ _ ⟨i + 1, by omega, i, _, _, _, _, _, rfl, rfl, rfl, rfl, by omega, by omega, by rw [fst_no hcv hke]; exact hex, by rw [fst_no hcv hko]; exact hso, by rw [many_no hcv hko]; exact hmn, by rw [hkl]; exact hlo⟩ (.cons rfl (.cons rfl (.cons rfl (.cons rfl (.cons rfl (.cons rfl (.cons rfl (.cons rfl (.cons rfl (.cons rfl .nil)))))))))) (by repeat (first | exact .refl | exact subL_left | refine subL_app ?_ | refine .drop ?_ | refine subL_add ?_))
 obtain rfl : j = 0 := by have h := hc23; simp at h; omega
 rw [List.drop_zero] at hex hso hmn hlo
 subst hex
 subst hso
 subst hmn
 subst hlo
 refine X_exit (at_then_e (at_then_e (at_block_hit (at_then (X_seq (zR (zM ?_)))))))
 refine zC (zN ?_)
 refine zI ?_ ?_ <;> intro hc45
 ·
  have hs0 : fstI okV 0 (colK rows k) < 0 := by simpa using hc45
  have hrs := rsg_no (ws := ws) (code := code) hs0
  refine zR ?_
  refine zV (ev_buildL (ps := []) [_, _, _, _, _, _, _, _, _, _, _, _, _, _] plt_48 rfl rfl) ?_
  refine XO_storeA rfl rfl szt_48 rfl rfl rfl rfl (by repeat (first | exact Upd.here | apply Upd.there | apply upd_app)) ?_
  refine zA (zN (X_ret (at_then_r ?_)))
  exact at_ret2A rfl rfl rfl agt_48 (by repeat (first | exact Cells.here | apply Cells.there)) rfl (fun w hw => ⟨by rw [hrs]; rfl, hw.drop⟩)
 have hs0 : ¬ fstI okV 0 (colK rows k) < 0 := by simpa using hc45
 refine X_skip (at_then ?_)
 refine X_cutT [(0, _), (1, _), (2, _), (3, _), (8, _), (12, _), (13, _)] (.cons rfl (.cons rfl (.cons rfl (.cons rfl (.cons rfl (.cons rfl (.cons rfl .nil))))))) (fun T L0 E I' loc' => ∃ (wo : Int), E = (11, .int .i64 wo) :: T ∧ I = I' ∧ L0 = loc' ∧ wo = whoK rows k code) ?_ ?_
 ·
  refine zR (zM ?_)
  refine zC (zN ?_)
  refine zI ?_ ?_ <;> intro hc48
  ·
   refine X_region (zM ?_)
   refine zA (XO_nil ?_)
   first
   | exact at_met2 _ _ ⟨_, rfl, rfl, rfl, by unfold whoK; rw [if_pos (by simpa using hc48)]⟩ (.cons rfl (.cons rfl (.cons rfl (.cons rfl (.cons rfl (.cons rfl (.cons rfl (.cons rfl .nil)))))))) .refl
  refine X_skip ?_
  first
  | exact at_met2 _ _ ⟨_, rfl, rfl, rfl, by unfold whoK; rw [if_neg (by simpa using hc48)]⟩ (.cons rfl (.cons rfl (.cons rfl (.cons rfl (.cons rfl (.cons rfl (.cons rfl (.cons rfl .nil)))))))) .refl
 rintro E I' loc' ⟨wo, rfl, rfl, rfl, hwo⟩
 obtain ⟨i, r1, hwi, hr1, hrz⟩ := who_in hs0
 rw [hwi] at hwo
 subst hwo
 have hir := (List.getElem?_eq_some_iff.1 hr1).1
 obtain ⟨w, x, hx, hv, e1, e2, hR⟩ := hW.at (k := i) (by omega)
 obtain ⟨h1, r2, hh, hr, hQ⟩ := hVH.at (k := i) (by omega)
 obtain rfl : r2 = r1 := by rw [hr1] at hr; exact (Option.some.inj hr).symm
 have hQl := hQ.len
 have hRl := hR.len
 have hkr := hk _ (List.mem_of_getElem? hr)
 have hzz := hnz i x _ hv hr k hkr hrz
 have hye := yd_eq (k := k) hv hr
 have hRb := hrb x (List.mem_of_getElem? hv)
 have hQb := hqb _ (List.mem_of_getElem? hr)
 refine X_cutT [(0, _), (2, _), (3, _), (8, _), (12, _), (13, _)] (.cons rfl (.cons rfl (.cons rfl (.cons rfl (.cons rfl (.cons rfl .nil)))))) (fun T L0 E I' loc' => ∃ (b16 : Nat), E = (16, .pointer (some ⟨b16, 0, none⟩)) :: T ∧ I = I' ∧ (b16, .cells (encG (x.rs.getD (nzF r2 k) zeroRd).sg).toArray 48 (0, 0)) :: [(b_8, .cells (encG zeroS).toArray 48 (0, 0))] = loc') ?_ ?_
 ·
  have hD := HLe.refl I
  refine X_noP ?_
  refine X_drawS I [] mixed ?_
  refine zT 0 rfl (ev_move rfl) hD ?_
  refine zT 1 rfl (ev_move rfl) hD ?_
  refine zT 2 rfl (zX slt_31 hH) hD ?_
  refine zT 3 rfl (ev_loadA rfl agt_54 (fun hg => by exact Sl.getA hH hx) rfl) hD ?_
  refine zT 4 rfl (ev_move rfl) hD ?_
  refine zT 5 rfl (ev_move rfl) hD ?_
  refine zT 6 rfl (zX slt_22 hHH) hD ?_
  refine zT 7 rfl (ev_load rfl sct_23 (fun hg => by exact Sl.get0 hHH hh rfl)) hD ?_
  refine zT 8 rfl (ev_move rfl) hD ?_
  refine XD_two 9 11 rfl rfl (by kernel_rfl) ?_ ?_
  ·
   refine XO_callV0 (cap := []) (vs := [.agg (encW w).toArray, .slice h1.a h1.n h1.c, .int .i64 k]) (v := .agg (encRd (x.rs.getD (nzF r2 k) zeroRd)).toArray) ?_ ?_ fun_68 ?_ ?_ ?_ ?_
   ·
    exact rfl
   ·
    exact rfl
   ·
    exact q_reading43 hR hQ w.no w.yr k (by omega) (by omega) (by omega) (by omega)
   ·
    exact rfl
   ·
    exact rfl
   refine XO_nil ?_
   refine zD hD ?_
   refine XD_two 10 11 rfl rfl (by kernel_rfl) ?_ ?_
   ·
    refine zV (ev_fieldAg [_, _, _, _, _, _, _, _, _, _, _, _, _, _] rfl afl_51_1 rfl) ?_
    refine XO_nil ?_
    refine zD hD ?_
    refine XD_one 11 rfl (by kernel_rfl) ?_
    refine XO_alloc zt_48 rfl rfl (fun b_16 => ?_)
    refine XO_nil ?_
    refine zD hD ?_
    refine XD_one 12 rfl (by kernel_rfl) ?_
    refine XO_storeA rfl rfl szt_48 rfl rfl rfl rfl (by repeat (first | exact Upd.here | apply Upd.there | apply upd_app)) ?_
    refine XO_nil ?_
    refine zD hD ?_
    refine XD_done (by kernel_rfl) ?_
    refine at_noP ?_
    exact at_met2 _ _ ⟨b_16, rfl, rfl, rfl⟩ (.cons rfl (.cons rfl (.cons rfl (.cons rfl (.cons rfl (.cons rfl (.cons rfl .nil))))))) .refl
   refine XO_alloc zt_48 rfl rfl (fun b_16 => ?_)
   refine XO_nil ?_
   refine zD hD ?_
   refine XD_one 10 rfl (by kernel_rfl) ?_
   refine zV (ev_fieldAg [_, _, _, _, _, _, _, _, _, _, _, _, _, _] rfl afl_51_1 rfl) ?_
   refine XO_nil ?_
   refine zD hD ?_
   refine XD_one 12 rfl (by kernel_rfl) ?_
   refine XO_storeA rfl rfl szt_48 rfl rfl rfl rfl (by repeat (first | exact Upd.here | apply Upd.there | apply upd_app)) ?_
   refine XO_nil ?_
   refine zD hD ?_
   refine XD_done (by kernel_rfl) ?_
   refine at_noP ?_
   exact at_met2 _ _ ⟨b_16, rfl, rfl, rfl⟩ (.cons rfl (.cons rfl (.cons rfl (.cons rfl (.cons rfl (.cons rfl (.cons rfl .nil))))))) .refl
  refine XO_alloc zt_48 rfl rfl (fun b_16 => ?_)
  refine XO_nil ?_
  refine zD hD ?_
  refine XD_one 9 rfl (by kernel_rfl) ?_
  refine XO_callV0 (cap := []) (vs := [.agg (encW w).toArray, .slice h1.a h1.n h1.c, .int .i64 k]) (v := .agg (encRd (x.rs.getD (nzF r2 k) zeroRd)).toArray) ?_ ?_ fun_68 ?_ ?_ ?_ ?_
  ·
   exact rfl
  ·
   exact rfl
  ·
   exact q_reading43 hR hQ w.no w.yr k (by omega) (by omega) (by omega) (by omega)
  ·
   exact rfl
  ·
   exact rfl
  refine XO_nil ?_
  refine zD hD ?_
  refine XD_one 10 rfl (by kernel_rfl) ?_
  refine zV (ev_fieldAg [_, _, _, _, _, _, _, _, _, _, _, _, _, _] rfl afl_51_1 rfl) ?_
  refine XO_nil ?_
  refine zD hD ?_
  refine XD_one 12 rfl (by kernel_rfl) ?_
  refine XO_storeA rfl rfl szt_48 rfl rfl rfl rfl (by repeat (first | exact Upd.here | apply Upd.there | apply upd_app)) ?_
  refine XO_nil ?_
  refine zD hD ?_
  refine XD_done (by kernel_rfl) ?_
  refine at_noP ?_
  exact at_met2 _ _ ⟨b_16, rfl, rfl, rfl⟩ (.cons rfl (.cons rfl (.cons rfl (.cons rfl (.cons rfl (.cons rfl (.cons rfl .nil))))))) .refl
 rintro E I' loc' ⟨b16, rfl, rfl, rfl⟩
 refine zR (zM ?_)
 refine XO_callV0 (cap := []) (vs := [_]) rfl rfl fun_69 (q_sign I code) rfl rfl ?_
 refine zM ?_
 refine zE ?_
 refine zE ?_
 refine XO_alloc zt_48 rfl rfl (fun b_17 => ?_)
 refine XO_storeA rfl rfl szt_48 rfl rfl rfl rfl (by repeat (first | exact Upd.here | apply Upd.there | apply upd_app)) ?_
 refine zA ?_
 refine zN (zR ?_)
 refine zM ?_
 refine zF fld_48_0 ?_
 refine zS szt_3 ?_
 refine zN (zR ?_)
 refine zF fld_48_2 ?_
 refine zV (ev_load rfl sct_3 (fun hg => by exact Cell.h1 rfl)) ?_
 refine zF fld_48_2 ?_
 refine zS szt_3 ?_
 refine zN (zR ?_)
 refine zF fld_48_3 ?_
 refine zV (ev_load rfl sct_3 (fun hg => by exact Cell.h1 rfl)) ?_
 refine zF fld_48_3 ?_
 refine zS szt_3 ?_
 refine zN (zR ?_)
 refine zF fld_48_10 ?_
 refine zV (ev_loadA rfl agt_46 (fun hg => by exact Cells.s1 (vs := [_, _]) rfl) rfl) ?_
 refine zF fld_48_10 ?_
 refine XO_storeP rfl rfl szt_46 rfl rfl rfl rfl (by repeat (first | exact Upd.here | apply Upd.there | apply upd_app)) ?_
 refine zN (zR ?_)
 refine zF fld_48_11 ?_
 refine zV (ev_loadA rfl agt_46 (fun hg => by exact Cells.s1 (vs := [_, _]) rfl) rfl) ?_
 refine zF fld_48_11 ?_
 refine XO_storeP rfl rfl szt_46 rfl rfl rfl rfl (by repeat (first | exact Upd.here | apply Upd.there | apply upd_app)) ?_
 refine zN (X_seq (zR (zM ?_)))
 refine zQ slt_31 ?_
 refine zC ?_
 refine zM ?_
 refine XO_pushT 3 rfl rfl rfl ?_
 refine zK (ev_move rfl) ?_
 refine zK (ev_cmp rfl rfl rfl) ?_
 refine XO_and0 rfl rfl rfl rfl rfl ?_
 refine zM ?_
 refine XO_pushT 7 rfl rfl rfl ?_
 refine zK (ev_move rfl) ?_
 refine zK (ev_not rfl) ?_
 refine XO_and0 rfl rfl rfl rfl rfl ?_
 refine zN ?_
 refine zI ?_ ?_ <;> intro hc90
 ·
  have hrs := rsg_yes (code := code) hs0 hwi hye (show habK ws rows k = true from by unfold habK; rw [hlW]; exact hc90)
  refine X_region ?_
  refine zF fld_48_3 ?_
  refine zS szt_3 ?_
  refine zN (zR ?_)
  refine zV (ev_loadA rfl agt_48 (fun hg => by exact Cells.g0) rfl) ?_
  refine XO_storeA rfl rfl szt_48 rfl rfl rfl rfl (by repeat (first | exact Upd.here | apply Upd.there | apply upd_app)) ?_
  refine zA (zN (X_ret ?_))
  exact at_ret2A rfl rfl rfl agt_48 (by repeat (first | exact Cells.here | apply Cells.there)) rfl (fun w hw => ⟨by rw [hrs]; rfl, hw.drop⟩)
 have hrs := rsg_yes (code := code) hs0 hwi hye (show habK ws rows k = false from by unfold habK; rw [hlW]; exact hc90)
 refine X_skip (at_then (zR ?_))
 refine zV (ev_loadA rfl agt_48 (fun hg => by exact Cells.g0) rfl) ?_
 refine XO_storeA rfl rfl szt_48 rfl rfl rfl rfl (by repeat (first | exact Upd.here | apply Upd.there | apply upd_app)) ?_
 refine zA (zN (X_ret ?_))
 exact at_ret2A rfl rfl rfl agt_48 (by repeat (first | exact Cells.here | apply Cells.there)) rfl (fun w hw => ⟨by rw [hrs]; rfl, hw.drop⟩)
end
section
open Go Go.Kn Go.Proofs
def rsnK (ws : List Wr) (rows : List (List Int)) (rd : List Int) : Nat → Option (List Sg)
 | 0 => some []
 | k + 1 => match rsnK ws rows rd k with
  | none => none
  | some l => if (rd.getD k 0 == 0) = true then some l else (rsgK ws rows k (rd.getD k 0)).map fun x => l ++ [x]
theorem rsn_skip {ws : List Wr} {rows : List (List Int)} {rd : List Int} {k : Nat} {l : List Sg} {c : Int} (h : rsnK ws rows rd k = some l) (hc : rd[k]? = some c) (h0 : (c == 0) = true) : rsnK ws rows rd (k + 1) = some l := by
 show (match rsnK ws rows rd k with | none => none | some l => if (rd.getD k 0 == 0) = true then some l else (rsgK ws rows k (rd.getD k 0)).map fun x => l ++ [x]) = _
 rw [h]; simp only; rw [getD_of hc, if_pos h0]
theorem rsn_yes {ws : List Wr} {rows : List (List Int)} {rd : List Int} {k : Nat} {l : List Sg} {c : Int} (h : rsnK ws rows rd k = some l) (hc : rd[k]? = some c) (h0 : (c == 0) = false) (hs : (rsgK ws rows k c).isSome = true) : rsnK ws rows rd (k + 1) = some (l ++ [(rsgK ws rows k c).getD zeroS]) := by
 show (match rsnK ws rows rd k with | none => none | some l => if (rd.getD k 0 == 0) = true then some l else (rsgK ws rows k (rd.getD k 0)).map fun x => l ++ [x]) = _
 rw [h]; simp only; rw [getD_of hc, if_neg (by rw [h0]; decide)]
 cases hq : rsgK ws rows k c with
 | none => rw [hq] at hs; cases hs
 | some x => rfl
theorem rsn_none {ws : List Wr} {rows : List (List Int)} {rd : List Int} {k : Nat} (h : rsnK ws rows rd k = none) : ∀ j, k ≤ j → rsnK ws rows rd j = none
  | 0, hj => by obtain rfl : k = 0 := by omega
                cases h
  | j + 1, hj => by
    by_cases e : k = j + 1
    · subst e; exact h
    · show (match rsnK ws rows rd j with | none => none | some l => if (rd.getD j 0 == 0) = true then some l else (rsgK ws rows j (rd.getD j 0)).map fun x => l ++ [x]) = none
      rw [rsn_none h j (by omega)]
theorem rsn_err {ws : List Wr} {rows : List (List Int)} {rd : List Int} {k : Nat} {l : List Sg} {c : Int} (h : rsnK ws rows rd k = some l) (hc : rd[k]? = some c) (h0 : (c == 0) = false) (hs : (rsgK ws rows k c).isSome = false) : (rsnK ws rows rd rd.length).isNone = true := by
 have hk := (List.getElem?_eq_some_iff.1 hc).1
 have h1 : rsnK ws rows rd (k + 1) = none := by
  show (match rsnK ws rows rd k with | none => none | some l => if (rd.getD k 0 == 0) = true then some l else (rsgK ws rows k (rd.getD k 0)).map fun x => l ++ [x]) = _
  rw [h]; simp only; rw [getD_of hc, if_neg (by rw [h0]; decide)]
  cases hq : rsgK ws rows k c with
  | none => rfl
  | some x => rw [hq] at hs; cases hs
 rw [rsn_none h1 _ hk]; rfl
def rsgE (ws : List Wr) (rows : List (List Int)) (no : Int) (cl : List Int) (es : List Em) (rd : List Int) : Int :=
 if tabE ws ≠ 0 then tabE ws else if tabR ws ≠ rows then 430 else if edcF rows no cl es rd ≠ 0 then edcF rows no cl es rd else if (rsnK ws rows rd rd.length).isNone = true then 430 else 0
def rsgL (ws : List Wr) (rows : List (List Int)) (no : Int) (cl : List Int) (es : List Em) (rd : List Int) : List Sg :=
 if rsgE ws rows no cl es rd ≠ 0 then [] else (rsnK ws rows rd rd.length).getD []
section
variable {ws : List Wr} {rows : List (List Int)} {no : Int} {cl : List Int} {es : List Em} {rd : List Int}
theorem rsg_bad (h : rsgE ws rows no cl es rd ≠ 0) : rsgL ws rows no cl es rd = [] := by unfold rsgL; rw [if_pos h]
theorem rsg_1 (h : tabE ws ≠ 0) : rsgE ws rows no cl es rd = tabE ws := by unfold rsgE; rw [if_pos h]
theorem rsg_2 (h : tabE ws = 0) (h2 : tabR ws ≠ rows) : rsgE ws rows no cl es rd = 430 := by unfold rsgE; rw [if_neg (by omega), if_pos h2]
theorem rsg_3 (h : tabE ws = 0) (h2 : tabR ws = rows) (h3 : edcF rows no cl es rd ≠ 0) : rsgE ws rows no cl es rd = edcF rows no cl es rd := by unfold rsgE; rw [if_neg (by omega), if_neg (fun e => e h2), if_pos h3]
theorem rsg_4 (h : tabE ws = 0) (h2 : tabR ws = rows) (h3 : edcF rows no cl es rd = 0) (h4 : (rsnK ws rows rd rd.length).isNone = true) : rsgE ws rows no cl es rd = 430 := by unfold rsgE; rw [if_neg (by omega), if_neg (fun e => e h2), if_neg (by omega), if_pos h4]
theorem rsg_5 {l : List Sg} (h : tabE ws = 0) (h2 : tabR ws = rows) (h3 : edcF rows no cl es rd = 0) (h4 : rsnK ws rows rd rd.length = some l) : rsgE ws rows no cl es rd = 0 ∧ rsgL ws rows no cl es rd = l := by
 have h5 : rsgE ws rows no cl es rd = 0 := by unfold rsgE; rw [if_neg (by omega), if_neg (fun e => e h2), if_neg (by omega), h4]; rfl
 exact ⟨h5, by unfold rsgL; rw [if_neg (by omega), h4]; rfl⟩
def RsgQ (ws : List Wr) (rows : List (List Int)) (no : Int) (cl : List Int) (es : List Em) (rd : List Int) : Value → HMap → Go.Kn.Loc → Prop := fun v I' L => L = [] ∧ ∃ av c, v = .tuple #[.slice av (rsgL ws rows no cl es rd).length c, .int .i64 (rsgE ws rows no cl es rd)] ∧ Sl I' 14 encG av (rsgL ws rows no cl es rd).length c (rsgL ws rows no cl es rd)
theorem RsgQ.bad {I' : HMap} {e : Int} (h : rsgE ws rows no cl es rd = e) (he : e ≠ 0) : RsgQ ws rows no cl es rd (.tuple #[.slice none 0 0, .int .i64 e]) I' [] := by
 have h0 := rsg_bad (show rsgE ws rows no cl es rd ≠ 0 by rw [h]; exact he)
 exact ⟨rfl, none, 0, by rw [h0, h]; rfl, by rw [h0]; exact .nil⟩
theorem sgn_pre (h1 : tabE ws = 0) (h2 : tabR ws = rows) (h3 : edcF rows no cl es rd = 0) : rows.length = ws.length ∧ (∀ r ∈ rows, r.length = rd.length) ∧ rd.length ≤ 64 ∧ NzOK ws rows ∧ (∀ x ∈ ws, x.rs.length ≤ 64) ∧ costE rows cl = 0 ∧ rd = readsL rows cl es := by
 obtain ⟨hm, hr⟩ := edc_ok h3
 have hc : costE rows cl = 0 := by
  cases Decidable.em (costE rows cl = 0) with
  | inl h => exact h
  | inr h => rw [makE_1 h] at hm; exact absurd hm h
 obtain ⟨hr1, hr6, hr64, hrr⟩ := rows_ok (cost_rows hc)
 have hl : rd.length = (rows.getD 0 []).length := by rw [hr, reads_len]
 obtain ⟨hk, hlen⟩ := tab_chk h1 (by rw [h2]; omega)
 rw [h2] at hlen
 have h64 : ∀ x ∈ ws, x.rs.length ≤ 64 := fun x hx => by
  unfold chkW at hk
  split at hk
  ·
   omega
  ·
   split at hk
   ·
    omega
   ·
    rename_i hq
    have hq2 : ∀ x ∈ ws, x.rs.length ≤ 64 := by simpa using hq
    exact hq2 x hx
 exact ⟨hlen, fun r hr' => by rw [(hrr r hr').1, hl], by omega, by rw [← h2]; exact tab_nz, h64, hc, hr⟩
end
end
section
open Go Go.Kn Go.Proofs
theorem fun_31 : Fun Tryz.prog 31 := .of Tryz.func31 (by kernel_rfl) (by kernel_rfl)
theorem fun_32 : Fun Tryz.prog 32 := .of Tryz.func32 (by kernel_rfl) (by kernel_rfl)
theorem fun_33 : Fun Tryz.prog 33 := .of Tryz.func33 (by kernel_rfl) (by kernel_rfl)
theorem fun_34 : Fun Tryz.prog 34 := .of Tryz.func34 (by kernel_rfl) (by kernel_rfl)
set_option maxHeartbeats 4000000 in
theorem q_Signs43 {I : HMap} {av : Option Addr} {n c : Nat} {ws : List Wr} (hW0 : SlW I av n c ws) (hn : n ≤ 100000) {bv : Option Addr} {n2 c2 : Nat} {rows : List (List Int)} (hVn : SlN I bv n2 c2 rows) (hn2 : n2 ≤ 100000) {ea1 : Option Addr} {en1 ec1 : Nat} {ea2 : Option Addr} {en2 ec2 : Nat} {ea3 : Option Addr} {en3 ec3 : Nat} {xs : List Int} {es : List Em} {rd : List Int} (hX1 : Sl I 1 encI ea1 en1 ec1 xs) (hX2 : Sl I 3 encEm ea2 en2 ec2 es) (hX3 : Sl I 1 encI ea3 en3 ec3 rd) (hm1 : en1 ≤ 100000) (hm2 : en2 ≤ 100000) (hm3 : en3 ≤ 100000) (no : Int) : RetM Tryz.prog 12 [.slice av n c, .slice bv n2 c2, .agg (encEd no ea1 en1 ec1 ea2 en2 ec2 ea3 en3 ec3).toArray] I [] (RsgQ ws rows no xs es rd) := by
 intro g H w hw
 refine enter Tryz.func12 rfl Tryz.ntmps12 rfl hw ?_
 have hIc := HLe.refl I
 obtain ⟨hds, hW⟩ := id hW0
 have hlW := hW.len
 subst hlW
 have hlV := hVn.len
 subst hlV
 have hlX3 := hX3.len
 subst hlX3
 refine zR ?_
 refine XO_box rfl rfl rfl (fun b_5 => ?_)
 refine zA ?_
 refine zA ?_
 refine zN (zR ?_)
 refine zM ?_
 refine XO_callM (cap := []) (vs := [_]) rfl rfl fun_31 .nil (q_Table hW0 hn) rfl rfl ?_
 rintro vv1 I1 L1 hI1 ⟨rfl, av8, c8, rfl, hTb⟩
 have hW0 := hW0.mono hI1; have hVn := hVn.mono hI1; have hX1 := hX1.mono hI1; have hX2 := hX2.mono hI1; have hX3 := hX3.mono hI1; have hIc := hIc.trans hI1
 refine zM ?_
 refine zE ?_
 refine zE ?_
 refine zA ?_
 refine zA (zN (X_seq (zR ?_)))
 refine zM ?_
 refine zC (zN ?_)
 refine zI ?_ ?_ <;> intro hc20
 ·
  have hE1 : tabE ws ≠ 0 := by have h := hc20; simpa using h
  refine zR (zM ?_)
  refine zA ?_
  refine zA (zN (X_ret (at_then_r ?_)))
  exact at_ret2 rfl rfl rfl (fun w hw => ⟨_, _, [], rfl, hIc, hw.drop, RsgQ.bad (rsg_1 hE1) hE1⟩)
 have hE1 : tabE ws = 0 := by have h := hc20; simpa using h
 refine X_skip (at_then (X_seq (zR (zM ?_))))
 refine zM ?_
 refine XO_callV0 (cap := []) (vs := [_, _]) rfl rfl fun_32 (q_sameR hTb hVn (by have := (tabR_in (ws := ws)).1; omega) (fun x hx => Nat.le_trans (tabR_in.2 x hx) (by decide))) rfl rfl ?_
 refine zO (zN ?_)
 refine zI ?_ ?_ <;> intro hc25
 ·
  have hE2 : tabR ws ≠ rows := by have h := hc25; simpa using h
  refine zR (zA ?_)
  refine zA (zN (X_ret (at_then_r ?_)))
  exact at_ret2 rfl rfl rfl (fun w hw => ⟨_, _, [], rfl, hIc, hw.drop, RsgQ.bad (rsg_2 hE1 hE2) (by decide)⟩)
 have hE2 : tabR ws = rows := by have h := hc25; simpa using h
 refine X_skip (at_then (zR (zM ?_)))
 refine zV (ev_loadA rfl agt_34 (fun hg => by exact Cells.g0) rfl) ?_
 refine XO_callV0 (cap := []) (vs := [_, _]) rfl rfl fun_33 (q_Check43 hVn hn2 hX1 hX2 hX3 hm1 hm2 hm3 no) rfl rfl ?_
 refine zA (zN (X_seq (zR ?_)))
 refine zM ?_
 refine zC (zN ?_)
 refine zI ?_ ?_ <;> intro hc30
 ·
  have hE3 : edcF rows no xs es rd ≠ 0 := by have h := hc30; simpa using h
  refine zR (zM ?_)
  refine zA ?_
  refine zA (zN (X_ret (at_then_r ?_)))
  exact at_ret2 rfl rfl rfl (fun w hw => ⟨_, _, [], rfl, hIc, hw.drop, RsgQ.bad (rsg_3 hE1 hE2 hE3) hE3⟩)
 have hE3 : edcF rows no xs es rd = 0 := by have h := hc30; simpa using h
 have hpre := sgn_pre hE1 hE2 hE3
 refine X_skip (at_then (zR ?_))
 refine XO_buildSlice (ps := []) (m := []) elt_36 rfl (.nil) rfl (by simp) (by decide) (by decide) rfl rfl (fun b_32 => ?_)
 refine zA (zN (X_seq (X_seq ?_)))
 refine X_locEq (loc' := [(b_32, .cells #[] 48 (0, 0))] ++ [(b_5, .cells (encEd no ea1 en1 ec1 ea2 en2 ec2 ea3 rd.length ec3).toArray 34 (0, 0))]) rfl ?_
 refine X_region (zA (zN (X_block ?_)))
 refine X_loopT [(0, _), (1, _), (5, _)] (.cons rfl (.cons rfl (.cons rfl .nil))) (fun T L0 mz E I' loc' => ∃ (k : Nat) (v10 : Value) (l : List Sg) (L : Go.Kn.Loc), mz = rd.length - k ∧ E = (10, v10) :: (11, .int .i64 k) :: T ∧ I1 = I' ∧ L ++ [(b_5, .cells (encEd no ea1 en1 ec1 ea2 en2 ec2 ea3 rd.length ec3).toArray 34 (0, 0))] = loc' ∧ k ≤ rd.length ∧ rsnK ws rows rd k = some l ∧ OwnS 48 14 v10 l.length (l.flatMap encG) L ∧ l.length ≤ k) _ _ _ _ ⟨0, _, [], [(b_32, _)], rfl, rfl, rfl, rfl, Nat.zero_le _, rfl, OwnS.new, Nat.le_refl _⟩ (.cons rfl (.cons rfl (.cons rfl (.cons rfl (.cons rfl .nil))))) (HLe.refl _) rfl ?_
 rintro mz E I' loc' ⟨k, v10, l, L, rfl, rfl, rfl, rfl, hk, hl, hO, hlk⟩
 refine X_seq (zR (zM ?_))
 refine zF fld_34_3 ?_
 refine zV (ev_load rfl sct_23 (fun hg => by (repeat (first | exact Cell.here rfl | apply Cell.there | apply Cell.app)))) ?_
 refine zQ slt_23 ?_
 refine zC (zN ?_)
 refine zI ?_ ?_ <;> intro hc37
 ·
  have hlt_k : k < rd.length := by have h := hc37; simp at h; omega
  obtain ⟨cd, hk0⟩ := hX3.at hlt_k
  refine X_skip (at_then (X_seq (X_block (X_seq (zR ?_)))))
  refine zF fld_34_3 ?_
  refine zV (ev_load rfl sct_23 (fun hg => by (repeat (first | exact Cell.here rfl | apply Cell.there | apply Cell.app)))) ?_
  refine zM ?_
  refine zV (zX slt_23 hX3) ?_
  refine zV (ev_load rfl sct_3 (fun hg => by exact Sl.get0 hX3 hk0 rfl)) ?_
  refine zC (zN ?_)
  refine zI ?_ ?_ <;> intro hc45
  ·
   refine X_exit (at_then_e (at_block_hit (at_then (X_region (zM ?_)))))
   refine zB ?_
   refine zA (XO_nil ?_)
   exact at_met2 _ _ ⟨rd.length - (k + 1), by omega, k + 1, v10, l, L, rfl, rfl, rfl, rfl, by omega, rsn_skip hl hk0 hc45, hO, by omega⟩ (.cons rfl (.cons rfl (.cons rfl (.cons rfl (.cons rfl .nil))))) (by repeat (first | exact .refl | exact subL_left | refine subL_app ?_ | refine .drop ?_ | refine subL_add ?_))
  refine X_skip (at_then (zR (zM ?_)))
  refine zM ?_
  refine zM ?_
  refine zF fld_34_3 ?_
  refine zV (ev_load rfl sct_23 (fun hg => by (repeat (first | exact Cell.here rfl | apply Cell.there | apply Cell.app)))) ?_
  refine zM ?_
  refine zV (zX slt_23 hX3) ?_
  refine zV (ev_load rfl sct_3 (fun hg => by exact Sl.get0 hX3 hk0 rfl)) ?_
  refine XO_callV0 (cap := []) (vs := [_, _, _, _]) rfl rfl fun_34 (q_sign43 hW0 hVn hn2 hpre.1 k (fun r hr => by rw [hpre.2.1 r hr]; exact hlt_k) (fun x hx => Nat.le_trans (hpre.2.2.2.2.1 x hx) (by decide)) (fun r hr => by rw [hpre.2.1 r hr]; omega) hpre.2.2.2.1 cd) rfl rfl ?_
  refine zM ?_
  refine zE ?_
  refine zE ?_
  refine XO_alloc zt_48 rfl rfl (fun b_12 => ?_)
  refine XO_storeA rfl rfl szt_48 rfl rfl rfl rfl (by repeat (first | exact Upd.here | apply Upd.there | apply upd_app)) ?_
  refine zA (zN (X_seq (zR ?_)))
  refine zM ?_
  refine zO (zN ?_)
  refine zI ?_ ?_ <;> intro hc59
  ·
   have hE4 := rsn_err hl hk0 hc45 (by simpa using hc59)
   refine zR (zA ?_)
   refine zA (zN (X_ret (at_then_r (at_block_r (at_then_r (at_then_r (at_block_r ?_)))))))
   refine at_then_r ?_
   exact at_ret2 rfl rfl rfl (fun w hw => ⟨_, _, [], rfl, hIc, hw.drop, RsgQ.bad (rsg_4 hE1 hE2 hE3 hE4) (by decide)⟩)
  have hok : (rsgK ws rows k cd).isSome = true := by simpa using hc59
  refine X_skip (at_then (X_region (zM ?_)))
  refine zV (ev_loadA rfl agt_48 (fun hg => by exact Cells.g0) rfl) ?_
  refine XO_buildSlice (ps := [(0, _)]) (m := [encG ((rsgK ws rows k cd).getD zeroS)]) elt_36 rfl (.cons rfl (.nil)) rfl (by simp [encG_len]) (by decide) (by decide) rfl rfl (fun b_62 => ?_)
  refine XO_append (v := _) (ys := [((rsgK ws rows k cd).getD zeroS)].flatMap encG) (L := L) rfl rfl elt_36 hO (by repeat (first | exact .cons .here .nil | exact split_all | exact split_app | apply split_cons | apply split_skip)) ⟨rfl, fun _ => rfl, by repeat (first | exact Cells.here | apply Cells.there | apply Cells.app)⟩ (one_G _) (by omega) rfl rfl ?_
  intro v9 L9 hO9 _; rw [← List.flatMap_append] at hO9
  refine zA (XO_nil (at_block_n (at_then (X_region ?_))))
  refine zM ?_
  refine zB ?_
  refine zA (XO_nil ?_)
  first
  | exact at_met2 _ _ ⟨rd.length - (k + 1), by omega, k + 1, _, l ++ [((rsgK ws rows k cd).getD zeroS)], L9, rfl, rfl, rfl, rfl, by omega, rsn_yes hl hk0 hc45 hok, by rw [List.length_append, List.length_singleton]; exact hO9, by rw [List.length_append, List.length_singleton]; omega⟩ (.cons rfl (.cons rfl (.cons rfl (.cons rfl (.cons rfl .nil))))) (by repeat (first | exact .refl | exact subL_left | refine subL_app ?_ | refine .drop ?_ | refine subL_add ?_))
 have hge_k : rd.length ≤ k := by have h := hc37; simp at h; omega
 obtain rfl : k = rd.length := by omega
 have hfin := rsg_5 hE1 hE2 hE3 hl
 refine X_exit (at_then_e (at_then_e (at_block_hit (at_then (zR (zM ?_))))))
 refine zA ?_
 refine zA (zN (X_ret ?_))
 first
 | exact at_ret2 rfl rfl rfl (fun w hw => by obtain ⟨I9, av9, c9, h1', h2', e9, h4'⟩ := OwnS.freeze (R := [_]) hO encG_len (by decide) hw; exact ⟨_, I9, [], rfl, hIc.trans h1', h2'.drop, rfl, av9, c9, by rw [hfin.1, hfin.2, e9], by rw [hfin.2]; exact h4'⟩)
end
section
open Go Go.Kn Go.Proofs
def nzl (l : List Int) : List Int := l.filter fun c => c != 0
theorem nzl_app (a b : List Int) : nzl (a ++ b) = nzl a ++ nzl b := List.filter_append ..
theorem nzl_zero (n : Nat) : nzl (List.replicate n 0) = [] := by
 unfold nzl; rw [List.filter_eq_nil_iff]; intro a ha; rw [List.eq_of_mem_replicate ha]; decide
theorem nzl_all {l : List Int} (h : ∀ c ∈ l, c ≠ 0) : nzl l = l := by
 unfold nzl; rw [List.filter_eq_self]; intro a ha; simpa using h a ha
theorem nzl_flat {α : Type} (f g : α → List Int) : ∀ (l : List α), (∀ a ∈ l, nzl (f a) = nzl (g a)) → nzl (l.flatMap f) = nzl (l.flatMap g)
 | [], _ => rfl
 | a :: l, h => by
  rw [List.flatMap_cons, List.flatMap_cons, nzl_app, nzl_app, h a (List.mem_cons_self ..), nzl_flat f g l fun b hb => h b (List.mem_cons_of_mem _ hb)]
theorem nz_at {l : List Int} {k : Nat} {c : Int} (h : l[k]? = some c) (hc : c ≠ 0) : (nzl l)[nzF l k]? = some c := by
 have hk := (List.getElem?_eq_some_iff.1 h).1
 have e : l = l.take k ++ c :: l.drop (k + 1) := by rw [← drop_cons h, List.take_append_drop]
 have e2 : nzl l = nzl (l.take k) ++ c :: nzl (l.drop (k + 1)) := by
  conv => lhs; rw [e]
  rw [nzl_app]; congr 1
  unfold nzl; rw [List.filter_cons, if_pos (by simpa using hc)]
 rw [e2, show nzF l k = (nzl (l.take k)).length from rfl, List.getElem?_append_right (Nat.le_refl _), Nat.sub_self]; rfl
def blkS (N : Nat) (cs : List Int) (a : Nat) (ps : List (Int × Int)) (q : Nat) : List Int := (((aloF (a : Int) ps).filter fun y => y.1.toNat == q).map fun y => cs.getD y.2.toNat 0) ++ (if q < N then [bsdF ps cs q] else [])
theorem aloF_ge {a b : List Int} : ∀ (f i k : Nat), ∀ y ∈ aloF (i : Int) (paF a b f i k), i ≤ y.1.toNat
 | 0, i, k, y, hy => by cases hy
 | f + 1, i, k, y, hy => by
  unfold paF at hy
  split at hy
  ·
   split at hy
   ·
    unfold aloF at hy
    rw [if_pos (by omega)] at hy
    have := aloF_ge f (i + 1) (k + 1) y hy; omega
   ·
    split at hy
    ·
     unfold aloF at hy
     rw [if_pos (by omega)] at hy
     have := aloF_ge f (i + 1) k y hy; omega
    ·
     unfold aloF at hy
     simp only [gt_iff_lt, Int.lt_irrefl, if_false] at hy
     rcases List.mem_cons.1 hy with rfl | hy
     ·
      simp
     ·
      exact aloF_ge f i (k + 1) y hy
  ·
   cases hy
theorem bsd_skip {p : Int × Int} {ps : List (Int × Int)} {cs : List Int} {q : Nat} (h : (p.1 == (q : Int) + 1 && decide (p.2 > 0)) = false) : bsdF (p :: ps) cs q = bsdF ps cs q := by
 unfold bsdF; rw [List.find?_cons, h]
theorem bsd_take {p : Int × Int} {ps : List (Int × Int)} {cs : List Int} {q : Nat} (h : (p.1 == (q : Int) + 1 && decide (p.2 > 0)) = true) : bsdF (p :: ps) cs q = cs.getD (p.2 - 1).toNat 0 := by
 unfold bsdF; rw [List.find?_cons, h]
theorem bsd_none {ps : List (Int × Int)} {cs : List Int} {q : Nat} (h : ∀ p ∈ ps, p.1 ≠ (q : Int) + 1) : bsdF ps cs q = 0 := by
 refine bsd_no ?_
 rw [List.any_eq_false]; intro p hp; simp; intro e; exact absurd e (h p hp)
theorem range_head {a N : Nat} (h : a ≤ N) : List.range' a (N + 1 - a) = a :: List.range' (a + 1) (N + 1 - (a + 1)) := by
 rw [show N + 1 - a = (N + 1 - (a + 1)) + 1 by omega]; rfl
theorem blk_all {T cs : List Int} (hcs : ∀ c ∈ cs, c ≠ 0) : ∀ (f a k : Nat), a ≤ T.length → k ≤ cs.length → T.length - a + (cs.length - k) ≤ f → nzl ((List.range' a (T.length + 1 - a)).flatMap (blkS T.length cs a (paF T cs f a k))) = cs.drop k
 | 0, a, k, ha, hk, hf => by
  have e1 : cs.drop k = [] := List.drop_eq_nil_of_le (by omega)
  rw [e1]
  have hz : ∀ q ∈ List.range' a (T.length + 1 - a), nzl (blkS T.length cs a (paF T cs 0 a k) q) = nzl ((fun _ => []) q) := fun q _ => by
   unfold blkS paF
   split <;> rfl
  rw [nzl_flat _ (fun _ => []) _ hz]; simp [nzl]
 | f + 1, a, k, ha, hk, hf => by
  unfold paF
  split
  ·
   rename_i hc
   split
   ·
    rename_i hb
    have h1 : a < T.length ∧ k < cs.length := by unfold bothP at hb; simp at hb; omega
    have ih := blk_all (T := T) hcs f (a + 1) (k + 1) (by omega) (by omega) (by omega)
    have hck : cs[k]? = some (cs.getD k 0) := some_getD rfl h1.2
    rw [range_head ha, List.flatMap_cons, nzl_app]
    have hrest : ∀ q ∈ List.range' (a + 1) (T.length + 1 - (a + 1)), nzl (blkS T.length cs a ((((a + 1 : Nat) : Int), ((k + 1 : Nat) : Int)) :: paF T cs f (a + 1) (k + 1)) q) = nzl (blkS T.length cs (a + 1) (paF T cs f (a + 1) (k + 1)) q) := fun q hq => by
     have hq1 := (List.mem_range'_1.1 hq).1
     unfold blkS
     rw [show aloF (a : Int) ((((a + 1 : Nat) : Int), ((k + 1 : Nat) : Int)) :: paF T cs f (a + 1) (k + 1)) = aloF ((a + 1 : Nat) : Int) (paF T cs f (a + 1) (k + 1)) from if_pos (by show ((a + 1 : Nat) : Int) > 0; omega)]
     rw [bsd_skip (by simp; omega)]
    rw [nzl_flat _ _ _ hrest, ih, drop_cons hck]
    have hhead : nzl (blkS T.length cs a ((((a + 1 : Nat) : Int), ((k + 1 : Nat) : Int)) :: paF T cs f (a + 1) (k + 1)) a) = [cs.getD k 0] := by
     unfold blkS
     rw [show aloF (a : Int) ((((a + 1 : Nat) : Int), ((k + 1 : Nat) : Int)) :: paF T cs f (a + 1) (k + 1)) = aloF ((a + 1 : Nat) : Int) (paF T cs f (a + 1) (k + 1)) from if_pos (by show ((a + 1 : Nat) : Int) > 0; omega)]
     rw [show (aloF ((a + 1 : Nat) : Int) (paF T cs f (a + 1) (k + 1))).filter (fun y => y.1.toNat == a) = [] from List.filter_eq_nil_iff.2 fun y hy => by have := aloF_ge f (a + 1) (k + 1) y hy; simp; omega]
     rw [if_pos h1.1, bsd_take (by simp), show (((((a + 1 : Nat) : Int), ((k + 1 : Nat) : Int)) : Int × Int).2 - 1).toNat = k by simp]
     exact nzl_all (l := [cs.getD k 0]) fun c hc => by rw [List.mem_singleton.1 hc]; exact hcs _ (List.mem_of_getElem? hck)
    rw [hhead]; rfl
   ·
    split
    ·
     rename_i ho
     have h1 : a < T.length := by unfold oneP at ho; simp at ho; omega
     have ih := blk_all (T := T) hcs f (a + 1) k (by omega) hk (by omega)
     rw [range_head ha, List.flatMap_cons, nzl_app]
     have hrest : ∀ q ∈ List.range' (a + 1) (T.length + 1 - (a + 1)), nzl (blkS T.length cs a ((((a + 1 : Nat) : Int), (0 : Int)) :: paF T cs f (a + 1) k) q) = nzl (blkS T.length cs (a + 1) (paF T cs f (a + 1) k) q) := fun q hq => by
      unfold blkS
      rw [show aloF (a : Int) ((((a + 1 : Nat) : Int), (0 : Int)) :: paF T cs f (a + 1) k) = aloF ((a + 1 : Nat) : Int) (paF T cs f (a + 1) k) from if_pos (by show ((a + 1 : Nat) : Int) > 0; omega)]
      rw [bsd_skip (by simp)]
     rw [nzl_flat _ _ _ hrest, ih]
     have hhead : nzl (blkS T.length cs a ((((a + 1 : Nat) : Int), (0 : Int)) :: paF T cs f (a + 1) k) a) = [] := by
      unfold blkS
      rw [show aloF (a : Int) ((((a + 1 : Nat) : Int), (0 : Int)) :: paF T cs f (a + 1) k) = aloF ((a + 1 : Nat) : Int) (paF T cs f (a + 1) k) from if_pos (by show ((a + 1 : Nat) : Int) > 0; omega)]
      rw [show (aloF ((a + 1 : Nat) : Int) (paF T cs f (a + 1) k)).filter (fun y => y.1.toNat == a) = [] from List.filter_eq_nil_iff.2 fun y hy => by have := aloF_ge f (a + 1) k y hy; simp; omega]
      rw [if_pos h1, bsd_skip (by simp), bsd_none fun p hp e => by rcases (pa_up (a := T) (b := cs) f (a + 1) k).1 p hp with h | h <;> omega]
      rfl
     rw [hhead]; rfl
    ·
     rename_i hb ho
     have h2 : k < cs.length := two_lt ha hk (by simpa using hc) (by simpa using hb) (by simpa using ho)
     have ih := blk_all (T := T) hcs f a (k + 1) ha (by omega) (by omega)
     have hck : cs[k]? = some (cs.getD k 0) := some_getD rfl h2
     rw [range_head ha, List.flatMap_cons, nzl_app] at ih ⊢
     have hal : aloF (a : Int) (((0 : Int), ((k + 1 : Nat) : Int)) :: paF T cs f a (k + 1)) = ((a : Int), (k : Int)) :: aloF (a : Int) (paF T cs f a (k + 1)) := by
      show (if (0 : Int) > 0 then _ else ((a : Int), ((k + 1 : Nat) : Int) - 1) :: aloF (a : Int) (paF T cs f a (k + 1))) = _
      rw [if_neg (by decide)]; congr 2; omega
     have hbs : ∀ q, bsdF (((0 : Int), ((k + 1 : Nat) : Int)) :: paF T cs f a (k + 1)) cs q = bsdF (paF T cs f a (k + 1)) cs q := fun q => bsd_skip (by simp; omega)
     have hrest : ∀ q ∈ List.range' (a + 1) (T.length + 1 - (a + 1)), nzl (blkS T.length cs a (((0 : Int), ((k + 1 : Nat) : Int)) :: paF T cs f a (k + 1)) q) = nzl (blkS T.length cs a (paF T cs f a (k + 1)) q) := fun q hq => by
      have hq1 := (List.mem_range'_1.1 hq).1
      unfold blkS
      rw [hal, hbs, List.filter_cons, if_neg (by simp; omega)]
     rw [nzl_flat _ _ _ hrest]
     have hhead : nzl (blkS T.length cs a (((0 : Int), ((k + 1 : Nat) : Int)) :: paF T cs f a (k + 1)) a) = cs.getD k 0 :: nzl (blkS T.length cs a (paF T cs f a (k + 1)) a) := by
      unfold blkS
      rw [hal, hbs, List.filter_cons, if_pos (by simp), List.map_cons, List.cons_append]
      show nzl (cs.getD ((k : Int)).toNat 0 :: _) = _
      rw [show ((k : Int)).toNat = k from rfl]
      unfold nzl; rw [List.filter_cons, if_pos (by simpa using hcs _ (List.mem_of_getElem? hck))]
     rw [hhead, drop_cons hck, List.cons_append, ih]
  ·
   rename_i hc
   have hd : T.length ≤ a ∧ cs.length ≤ k := by simp at hc; omega
   have e1 : cs.drop k = [] := List.drop_eq_nil_of_le (by omega)
   rw [e1]
   have hz : ∀ q ∈ List.range' a (T.length + 1 - a), nzl (blkS T.length cs a [] q) = nzl ((fun _ => []) q) := fun q _ => by
    unfold blkS
    split <;> rfl
   rw [nzl_flat _ (fun _ => []) _ hz]; simp [nzl]
end
section
open Go Go.Kn Go.Proofs
theorem rds_all {xs : List Wr} (h : chkW xs = 0) {x : Wr} (hx : x ∈ xs) : RdsOK x.rs := fun r hr => by
 obtain ⟨_, h1, _⟩ := wit_frm h hx hr
 cases hl : r.lost
 ·
  exact .inr ⟨rfl, by unfold codeR; rw [if_neg (by rw [hl]; decide)], frm_code (h1 hl).1⟩
 ·
  exact .inl ⟨rfl, by unfold codeR; rw [if_pos hl]⟩
theorem rd_sign {rs : List Rd} (h : RdsOK rs) {r : Rd} (hr : r ∈ rs) : (r.lost = true ↔ codeR r = 8589934592) ∧ (r.lost = false → signE (codeR r) = 0) := by
 rcases h r hr with ⟨h1, h2⟩ | ⟨h1, h2, h3⟩
 ·
  exact ⟨⟨fun _ => h2, fun _ => h1⟩, fun h4 => by rw [h1] at h4; cases h4⟩
 ·
  obtain ⟨h5, _, _, h8⟩ := sign_code h3
  exact ⟨⟨(fun h4 => by rw [h1] at h4; cases h4), fun h4 => by rw [h2] at h4; omega⟩, fun _ => by rw [h2]; exact h5⟩
theorem no_badC {rs : List Rd} (h : RdsOK rs) : (rs.map codeR).any badC = false := by
 rw [List.any_eq_false]
 intro c hc
 obtain ⟨r, hr, rfl⟩ := List.mem_map.1 hc
 obtain ⟨h1, h2⟩ := rd_sign h hr
 unfold badC
 cases hl : r.lost
 ·
  rw [h2 hl]; simp
 ·
  rw [h1.1 hl]; simp
theorem flat_own (T : List Int) : ((List.range (T.length + 1)).flatMap fun k => if k < T.length then [T.getD k 0] else []) = T := by
 rw [List.range_succ, List.flatMap_append]
 have h1 : ([T.length].flatMap fun k => if k < T.length then [T.getD k 0] else []) = [] := by simp
 rw [h1, List.append_nil]
 have h2 : ∀ (l : List Nat), (∀ k ∈ l, k < T.length) → (l.flatMap fun k => if k < T.length then [T.getD k 0] else []) = l.map fun k => T.getD k 0 := fun l hl => by
  induction l with
  | nil => rfl
  | cons a l ih => rw [List.flatMap_cons, if_pos (hl a (List.mem_cons_self ..)), ih fun k hk => hl k (List.mem_cons_of_mem _ hk)]; rfl
 rw [h2 _ fun k hk => List.mem_range.1 hk]
 refine List.ext_getElem? fun k => ?_
 rw [List.getElem?_map]
 by_cases hk : k < T.length
 ·
  rw [List.getElem?_range hk, some_getD (d := 0) rfl hk]; rfl
 ·
  rw [List.getElem?_eq_none (by simpa using hk), List.getElem?_eq_none (by simpa using hk)]; rfl
theorem row_nz {xs : List Wr} (hck : chkW xs = 0) {i : Nat} {x : Wr} (hv : xs[i]? = some x) : nzl (rowW xs i) = x.rs.map codeR := by
 have hi := (List.getElem?_eq_some_iff.1 hv).1
 have hcs : csW xs i = x.rs.map codeR := csW_at hv
 obtain ⟨x0, hx0⟩ : ∃ x0, xs[0]? = some x0 := ⟨_, List.getElem?_eq_getElem (by omega)⟩
 have hT : csW xs 0 = x0.rs.map codeR := csW_at hx0
 have hR := rds_all hck (List.mem_of_getElem? hv)
 have hR0 := rds_all hck (List.mem_of_getElem? hx0)
 have hnz : ∀ rs : List Rd, RdsOK rs → ∀ c ∈ rs.map codeR, c ≠ 0 := fun rs h c hc => by
  obtain ⟨r, hr, rfl⟩ := List.mem_map.1 hc; have := (code_in h hr).1; omega
 have h64 : ∀ y ∈ xs, y.rs.length ≤ 64 := fun y hy => by
  unfold chkW at hck
  split at hck
  ·
   omega
  ·
   split at hck
   ·
    omega
   ·
    rename_i hq
    have hq2 : ∀ x ∈ xs, x.rs.length ≤ 64 := by simpa using hq
    exact hq2 y hy
 rw [row_blk hi]
 unfold rowK
 by_cases h0 : i = 0
 ·
  subst h0
  have e : x0 = x := by rw [hx0] at hv; exact Option.some.inj hv
  subst e
  rw [nzl_flat _ (fun k => if k < (csW xs 0).length then [(csW xs 0).getD k 0] else []) _ fun k _ => ?_, flat_own, hT]
  ·
   exact nzl_all (hnz _ hR)
  ·
   by_cases hk : k < (csW xs 0).length
   ·
    rw [blk_2 hk, if_pos hk, nzl_app]
    have : nzl (padW xs 0 k) = [] := by
     unfold padW thW; rw [nzl_app, nzl_zero, List.append_nil, alW_zero]; rfl
    rw [this]; rfl
   ·
    rw [blk_1 hk, if_neg hk]
    unfold padW thW; rw [nzl_app, nzl_zero, List.append_nil, alW_zero]; rfl
 ·
  have hE : pairE (csW xs 0) (csW xs i) = 0 := pairE_3 (by
   rw [hT, hcs, List.length_map, List.length_map]
   have a1 := h64 x0 (List.mem_of_getElem? hx0); have a2 := h64 x (List.mem_of_getElem? hv); omega) (by rw [hT, hcs, no_badC hR0, no_badC hR]; rfl)
  have hps : pfW xs i = paF (csW xs 0) (csW xs i) ((csW xs 0).length + (csW xs i).length) 0 0 := by
   unfold pfW; rw [if_neg h0, pairR_ok hE]; rfl
  have hall := blk_all (T := csW xs 0) (cs := csW xs i) (by rw [hcs]; exact hnz _ hR) ((csW xs 0).length + (csW xs i).length) 0 0 (Nat.zero_le _) (Nat.zero_le _) (by omega)
  rw [← hps, List.drop_zero, Nat.sub_zero, ← List.range_eq_range'] at hall
  rw [nzl_flat _ (blkS (csW xs 0).length (csW xs i) 0 (pfW xs i)) _ fun k _ => ?_, hall, hcs]
  unfold blkW blkF blkS
  rw [nzl_app, nzl_app, nzl_zero, List.append_nil, nzl_app]
  congr 1
  split
  ·
   first | rfl | rw [if_neg h0]
  ·
   rfl
theorem row_read {xs : List Wr} (hck : chkW xs = 0) {i k : Nat} {x : Wr} {c : Int} (hv : xs[i]? = some x) (h : (rowW xs i)[k]? = some c) (hc : c ≠ 0) : ∃ r, x.rs[nzF (rowW xs i) k]? = some r ∧ codeR r = c ∧ (r.lost = true ↔ c = 8589934592) ∧ (r.lost = false → signE c = 0) := by
 have h1 := nz_at h hc
 rw [row_nz hck hv, List.getElem?_map] at h1
 obtain ⟨r, hr, e⟩ := Option.map_eq_some_iff.1 h1
 obtain ⟨h2, h3⟩ := rd_sign (rds_all hck (List.mem_of_getElem? hv)) (List.mem_of_getElem? hr)
 rw [e] at h2 h3
 exact ⟨r, hr, e, h2, h3⟩
end
section
open Go Go.Kn Go.Proofs
theorem fst_ge {p : Int → Bool} : ∀ (l : List Int) (j : Nat), fstI p j l = -1 ∨ (j : Int) ≤ fstI p j l
 | [], _ => .inl rfl
 | v :: vs, j => by
  unfold fstI
  split
  ·
   exact .inr (Int.le_refl _)
  ·
   rcases fst_ge vs (j + 1) with h | h
   ·
    exact .inl h
   ·
    exact .inr (by omega)
theorem fst_app {p : Int → Bool} {v : Int} : ∀ (l : List Int) (j : Nat), fstI p j (l ++ [v]) = if 0 ≤ fstI p j l then fstI p j l else if p v = true then ((j + l.length : Nat) : Int) else -1
 | [], j => by
  show (if p v = true then (j : Int) else -1) = _
  rw [if_neg (show ¬ 0 ≤ fstI p j [] by unfold fstI; omega)]; rfl
 | u :: l, j => by
  rw [List.cons_append]
  unfold fstI
  by_cases hu : p u = true
  ·
   rw [if_pos hu, if_pos hu, if_pos (by omega)]
  ·
   rw [if_neg hu, if_neg hu, fst_app l (j + 1), List.length_cons, show j + 1 + l.length = j + (l.length + 1) by omega]
theorem fst_take {p : Int → Bool} {l : List Int} {i : Nat} {v : Int} (h : l[i]? = some v) : fstI p 0 (l.take (i + 1)) = if 0 ≤ fstI p 0 (l.take i) then fstI p 0 (l.take i) else if p v = true then (i : Int) else -1 := by
 have hi := (List.getElem?_eq_some_iff.1 h).1
 rw [List.take_add_one, h]
 show fstI p 0 (l.take i ++ [v]) = _
 rw [fst_app, List.length_take, Nat.min_eq_left (by omega), Nat.zero_add]
theorem fst_same {p : Int → Bool} {l : List Int} {i : Nat} {v : Int} (h : l[i]? = some v) (hp : p v = false) : fstI p 0 (l.take (i + 1)) = fstI p 0 (l.take i) := by
 rw [fst_take h]
 rcases fst_ge (p := p) (l.take i) 0 with h1 | h1
 ·
  rw [h1, if_neg (show ¬ (0 : Int) ≤ -1 by decide), hp]; rfl
 ·
  rw [if_pos (by omega)]
def atI (ws : List Wr) (rows : List (List Int)) (k : Nat) (n : Int) : Option Sg := if 0 ≤ n then some (ydF ws rows n.toNat k).sg else none
structure SgR (ws : List Wr) (rows : List (List Int)) (k : Nat) (code : Int) (i : Nat) : Prop where
 ex : (sgK ws rows k code i).ex = atI ws rows k (fstI (exV code) 0 ((colK rows k).take i))
 so : (sgK ws rows k code i).so = atI ws rows k (fstI okV 0 ((colK rows k).take i))
 many : (sgK ws rows k code i).many = manyV ((colK rows k).take i)
 lost : (sgK ws rows k code i).lost = lostV ((colK rows k).take i)
theorem sg_rel {ws : List Wr} {rows : List (List Int)} {k : Nat} {code : Int} (hr : ∀ i r, rows[i]? = some r → r.getD k 0 ≠ 0 → ((ydF ws rows i k).lost = true ↔ r.getD k 0 = 8589934592)) : ∀ i, i ≤ rows.length → SgR ws rows k code i
 | 0, _ => ⟨rfl, rfl, rfl, rfl⟩
 | i + 1, hi => by
  have ih := sg_rel (code := code) hr i (by omega)
  obtain ⟨r, hri⟩ : ∃ r, rows[i]? = some r := ⟨_, List.getElem?_eq_getElem (by omega)⟩
  have hcv := col_at (k := k) hri
  have hg : (rows.getD i []).getD k 0 = r.getD k 0 := by rw [getD_of hri]
  have htk : (colK rows k).take (i + 1) = (colK rows k).take i ++ [r.getD k 0] := by rw [List.take_add_one, hcv]; rfl
  have hmany : manyV ((colK rows k).take (i + 1)) = manyV ((colK rows k).take i) + if okV (r.getD k 0) = true then 1 else 0 := by
   rw [htk]; unfold manyV; rw [List.filter_append, List.length_append, List.filter_cons]
   split <;> rfl
  have hlost : lostV ((colK rows k).take (i + 1)) = (lostV ((colK rows k).take i) || (r.getD k 0 == 8589934592)) := by
   rw [htk]; unfold lostV; rw [List.any_append]; simp
  have hstep : sgK ws rows k code (i + 1) = sgSt code (sgK ws rows k code i) (r.getD k 0) (ydF ws rows i k) := by
   show sgSt code (sgK ws rows k code i) ((rows.getD i []).getD k 0) (ydF ws rows i k) = _
   rw [hg]
  by_cases h0 : r.getD k 0 = 0
  ·
   have hs : sgK ws rows k code (i + 1) = sgK ws rows k code i := by rw [hstep]; unfold sgSt; rw [if_pos (by rw [h0]; rfl)]
   have ho : okV (r.getD k 0) = false := by rw [h0]; rfl
   have he : exV code (r.getD k 0) = false := by unfold exV; rw [ho]; rfl
   have hf : ∀ p : Int → Bool, p (r.getD k 0) = false → fstI p 0 ((colK rows k).take (i + 1)) = fstI p 0 ((colK rows k).take i) := fun p hp => fst_same hcv hp
   exact ⟨by rw [hs, hf _ he]; exact ih.ex, by rw [hs, hf _ ho]; exact ih.so, by rw [hs, hmany, ho]; exact ih.many, by rw [hs, hlost, h0]; rw [ih.lost]; simp⟩
  ·
   have hc0 : ¬ (r.getD k 0 == 0) = true := by simpa using h0
   by_cases hl : (ydF ws rows i k).lost = true
   ·
    have h9 := (hr i r hri h0).1 hl
    have hs : sgK ws rows k code (i + 1) = { sgK ws rows k code i with lost := true } := by rw [hstep]; unfold sgSt; rw [if_neg hc0, if_pos hl]
    have ho : okV (r.getD k 0) = false := by rw [h9]; rfl
    have he : exV code (r.getD k 0) = false := by unfold exV; rw [ho]; rfl
    have hf : ∀ p : Int → Bool, p (r.getD k 0) = false → fstI p 0 ((colK rows k).take (i + 1)) = fstI p 0 ((colK rows k).take i) := fun p hp => fst_same hcv hp
    exact ⟨by rw [hs, hf _ he]; exact ih.ex, by rw [hs, hf _ ho]; exact ih.so, by rw [hs, hmany, ho]; exact ih.many, by rw [hs, hlost, h9]; simp⟩
   ·
    have h9 : ¬ r.getD k 0 = 8589934592 := fun e => hl ((hr i r hri h0).2 e)
    have ho : okV (r.getD k 0) = true := by
     simp only [okV, bne, beq_false_of_ne h9, beq_false_of_ne h0]; rfl
    have he : exV code (r.getD k 0) = (r.getD k 0 == code) := by unfold exV; rw [ho]; rfl
    have hs : sgK ws rows k code (i + 1) = ⟨if ((sgK ws rows k code i).ex.isNone && r.getD k 0 == code) = true then some (ydF ws rows i k).sg else (sgK ws rows k code i).ex, orS (sgK ws rows k code i).so (ydF ws rows i k).sg, (sgK ws rows k code i).many + 1, (sgK ws rows k code i).lost⟩ := by rw [hstep]; unfold sgSt; rw [if_neg hc0, if_neg hl]
    refine ⟨?_, ?_, ?_, ?_⟩
    ·
     rw [hs]
     show (if ((sgK ws rows k code i).ex.isNone && r.getD k 0 == code) = true then some (ydF ws rows i k).sg else (sgK ws rows k code i).ex) = _
     rw [ih.ex, fst_take hcv, he]
     unfold atI
     by_cases hp : 0 ≤ fstI (exV code) 0 ((colK rows k).take i)
     ·
      rw [if_pos hp, if_pos hp, if_neg (by simp), if_pos hp]
     ·
      rw [if_neg hp, if_neg hp]
      by_cases hq : (r.getD k 0 == code) = true
      ·
       rw [hq, if_pos rfl, if_pos (show ((none : Option Sg).isNone && true) = true from rfl), if_pos (by omega)]; rfl
      ·
       rw [if_neg hq, if_neg (by simpa using hq), if_neg (by omega)]
    ·
     rw [hs]
     show orS (sgK ws rows k code i).so (ydF ws rows i k).sg = _
     rw [ih.so, fst_take hcv, ho, if_pos rfl]
     unfold atI
     by_cases hp : 0 ≤ fstI okV 0 ((colK rows k).take i)
     ·
      rw [if_pos hp, if_pos hp, if_pos hp]; rfl
     ·
      rw [if_neg hp, if_neg hp, if_pos (by omega)]; rfl
    ·
     rw [hs, hmany, ho, if_pos rfl, ← ih.many]
    ·
     rw [hs, hlost]
     show (sgK ws rows k code i).lost = _
     rw [ih.lost, beq_false_of_ne h9, Bool.or_false]
theorem out_rsg {ws : List Wr} {rows : List (List Int)} {k : Nat} {code : Int} (hr : ∀ i r, rows[i]? = some r → r.getD k 0 ≠ 0 → ((ydF ws rows i k).lost = true ↔ r.getD k 0 = 8589934592)) (hc : ¬ code = 0) (hs : ¬ fstI okV 0 (colK rows k) < 0 → signE code = 0) : outK ws rows k code = match rsgK ws rows k code with | none => .err | some x => .sg x := by
 have h := sg_rel (code := code) hr rows.length (Nat.le_refl _)
 have ht : (colK rows k).take rows.length = colK rows k := List.take_of_length_le (by rw [col_len]; exact Nat.le_refl _)
 have hex := h.ex; have hso := h.so; have hmn := h.many; have hlo := h.lost
 rw [ht] at hex hso hmn hlo
 unfold outK
 rw [if_neg (by simpa using hc), hex, hso, hmn, hlo]
 unfold rsgK
 by_cases h0 : fstI okV 0 (colK rows k) < 0
 ·
  have h1 := fst_ex (code := code) h0
  rw [if_pos h0]
  unfold atI
  rw [if_neg (by omega), if_neg (by omega)]; rfl
 ·
  rw [if_neg h0]
  have hsg := hs h0
  have hor : (atI ws rows k (fstI (exV code) 0 (colK rows k))).or (atI ws rows k (fstI okV 0 (colK rows k))) = some (ydF ws rows (whoK rows k code).toNat k).sg := by
   unfold atI whoK
   by_cases h1 : 0 ≤ fstI (exV code) 0 (colK rows k)
   ·
    rw [if_pos h1, if_pos h1]; rfl
   ·
    rw [if_neg h1, if_neg h1, if_pos (by omega)]; rfl
  rw [hor]
  show (if (signE code != 0) = true then Out.err else Out.sg (putS k code (ydF ws rows (whoK rows k code).toNat k).sg _)) = Out.sg _
  rw [if_neg (by rw [hsg]; decide)]
  have hm : ((decide ((ws.length : Int) > 1) && ((manyV (colK rows k) : Nat) : Int) == 1) && !lostV (colK rows k)) = habK ws rows k := by
   unfold habK
   rw [show decide ((ws.length : Int) > 1) = decide ((ws.length : Int) ≥ 2) from decide_eq_decide.2 (by omega)]
  rw [hm]
end
section
open Go Go.Kn Go.Proofs
theorem good_mem {rows : List (List Int)} {m : Nat} : ∀ {es : List Em} {l : Int}, goodE rows m l es = true → ∀ e ∈ es, rsF e.reason e.code (thereF rows e) = true ∧ l < e.locus
 | e0 :: es, l, h, e, he => by
  unfold goodE at h
  rw [Bool.and_eq_true, Bool.not_eq_true'] at h
  obtain ⟨h1, h2⟩ := h
  rw [badE_or, Bool.or_eq_false_iff, Bool.or_eq_false_iff, Bool.not_eq_false'] at h1
  have h3 : l < e0.locus := by have := h1.1.1; simp at this; omega
  rcases List.mem_cons.1 he with rfl | he
  ·
   exact ⟨h1.2, h3⟩
  ·
   obtain ⟨a, b⟩ := good_mem h2 e he
   exact ⟨a, by omega⟩
theorem scn_in {k : Nat} : ∀ (es : List Em) (n : Int), es.foldl (emF k) n = n ∨ ∃ e ∈ es, e.locus = (k : Int) ∧ es.foldl (emF k) n = e.code
 | [], n => .inl rfl
 | e :: es, n => by
  rw [List.foldl_cons]
  rcases scn_in es (emF k n e) with h | ⟨x, hx, h1, h2⟩
  ·
   rw [h]
   unfold emF
   split
   ·
    rename_i he; exact .inr ⟨e, List.mem_cons_self .., he, rfl⟩
   ·
    exact .inl rfl
  ·
   exact .inr ⟨x, List.mem_cons_of_mem _ hx, h1, h2⟩
section
variable {ws : List Wr} {rows : List (List Int)} {no : Int} {cl : List Int} {es : List Em} {rd : List Int}
theorem tab_is (h2 : tabR ws = rows) (h0 : 0 < rows.length) : rows = (List.range ws.length).map (rowW ws) := by
 unfold tabR at h2
 split at h2
 ·
  subst h2; simp at h0
 ·
  exact h2.symm
theorem col_sign (hck : chkW ws = 0) (ht : rows = (List.range ws.length).map (rowW ws)) {r : List Int} (hr : r ∈ rows) {k : Nat} (h0 : r.getD k 0 ≠ 0) (hl : r.getD k 0 ≠ 8589934592) : signE (r.getD k 0) = 0 := by
 rw [ht] at hr
 obtain ⟨i, hi, rfl⟩ := List.mem_map.1 hr
 have hi2 := List.mem_range.1 hi
 obtain ⟨x, hx⟩ : ∃ x, ws[i]? = some x := ⟨_, List.getElem?_eq_getElem hi2⟩
 obtain ⟨c, hc⟩ : ∃ c, (rowW ws i)[k]? = some c := by
  cases e : (rowW ws i)[k]? with
  | none => rw [List.getD_eq_getElem?_getD, e] at h0; exact absurd rfl h0
  | some c => exact ⟨c, rfl⟩
 rw [getD_of hc] at h0 hl ⊢
 obtain ⟨r0, _, _, h3, h4⟩ := row_read hck hx hc h0
 exact h4 (by cases hq : r0.lost; rfl; exact absurd (h3.1 hq) hl)
theorem base_sign (hck : chkW ws = 0) (ht : rows = (List.range ws.length).map (rowW ws)) {k : Nat} (h0 : baseK rows cl k ≠ 0) : signE (baseK rows cl k) = 0 := by
 have hm : baseK rows cl k ∈ rootF rows cl k := by
  unfold baseK
  split
  ·
   rename_i h
   obtain ⟨y, hy, e⟩ := List.any_eq_true.1 h
   rw [beq_iff_eq] at e; rw [e]; exact hy
  ·
   have := root_pos (rows := rows) (cl := cl) (l := k)
   exact List.mem_of_getElem? (some_getD (d := 0) rfl this)
 have h1 := stE_mem.1 (List.mem_filter.1 (show _ ∈ (stE rows k).filter _ from hm)).1
 rcases st_mem.1 h1 with h | ⟨⟨r, hr, e⟩, hl⟩
 ·
  exact absurd h h0
 ·
  rw [← e] at h0 hl ⊢; exact col_sign hck ht hr h0 hl
theorem read_sign (h1 : tabE ws = 0) (h2 : tabR ws = rows) (h3 : edcF rows no cl es rd = 0) {k : Nat} {c : Int} (hc : rd[k]? = some c) (h0 : c ≠ 0) : signE c = 0 := by
 obtain ⟨hlen, _, _, _, _, hcost, hrd⟩ := sgn_pre h1 h2 h3
 obtain ⟨hm, _⟩ := edc_ok h3
 obtain ⟨hr1, _⟩ := rows_ok (cost_rows hcost)
 have ht := tab_is h2 (by omega)
 have hck := (tab_chk h1 (by rw [h2]; omega)).1
 have hg := mak_good hm
 rw [hrd] at hc
 unfold readsL at hc
 rw [List.getElem?_map] at hc
 obtain ⟨q, hq, e⟩ := Option.map_eq_some_iff.1 hc
 have hqk : q = k := by rw [List.getElem?_eq_some_iff] at hq; obtain ⟨_, e⟩ := hq; simpa using e.symm
 subst hqk
 rw [← scan_read hg] at e
 rcases scn_in (k := q) es (baseK rows cl q) with h | ⟨em, hem, hl, h⟩
 ·
  rw [h] at e; subst e; exact base_sign hck ht h0
 ·
  rw [h] at e
  obtain ⟨hrs, _⟩ := good_mem hg em hem
  by_cases e1 : em.reason = 1
  ·
   rw [rs_1 e1] at hrs
   simp only [Bool.and_eq_true, bne_iff_ne, ne_eq] at hrs
   obtain ⟨⟨hth, hc0⟩, hcl⟩ := hrs
   unfold thereF at hth
   obtain ⟨r, hr, hv⟩ := List.any_eq_true.1 hth
   rw [beq_iff_eq, hl] at hv
   have hv2 : r.getD q 0 = em.code := hv
   rw [← e, ← hv2]; exact col_sign hck ht hr (by rw [hv2]; exact hc0) (by rw [hv2]; exact hcl)
  ·
   by_cases e2 : em.reason = 2
   ·
    rw [rs_2 e1 e2] at hrs
    simp only [Bool.and_eq_true, beq_iff_eq] at hrs
    rw [← e]; exact hrs.2
   ·
    by_cases e3 : em.reason = 3
    ·
     rw [rs_3 e1 e2 e3, beq_iff_eq] at hrs
     rw [← e] at h0; exact absurd hrs h0
    ·
     rw [rs_4 e1 e2 e3] at hrs; cases hrs
theorem rsn_sgn (h1 : tabE ws = 0) (h2 : tabR ws = rows) (h3 : edcF rows no cl es rd = 0) : ∀ k, k ≤ rd.length → rsnK ws rows rd k = sgnK ws rows rd k
 | 0, _ => rfl
 | k + 1, hk => by
  have ih := rsn_sgn h1 h2 h3 k (by omega)
  obtain ⟨hlen, hrl, _, _, _, hcost, hrd⟩ := sgn_pre h1 h2 h3
  obtain ⟨hr1, _⟩ := rows_ok (cost_rows hcost)
  have ht := tab_is h2 (by omega)
  have hck := (tab_chk h1 (by rw [h2]; omega)).1
  show (match rsnK ws rows rd k with | none => none | some l => if (rd.getD k 0 == 0) = true then some l else (rsgK ws rows k (rd.getD k 0)).map fun x => l ++ [x]) = (match sgnK ws rows rd k with | none => none | some l => match outK ws rows k (rd.getD k 0) with | .err => none | .skip => some l | .sg x => some (l ++ [x]))
  rw [ih]
  cases hs : sgnK ws rows rd k with
  | none => rfl
  | some l =>
   simp only
   by_cases h0 : rd.getD k 0 = 0
   ·
    rw [if_pos (by rw [h0]; rfl)]
    have : outK ws rows k (rd.getD k 0) = .skip := by unfold outK; rw [if_pos (by rw [h0]; rfl)]
    rw [this]
   ·
    rw [if_neg (by simpa using h0)]
    have hc : rd[k]? = some (rd.getD k 0) := some_getD rfl (by omega)
    have ho := out_rsg (ws := ws) (rows := rows) (k := k) (code := rd.getD k 0) (fun i r hr hn => by
     have hi := (List.getElem?_eq_some_iff.1 hr).1
     obtain ⟨x, hx⟩ : ∃ x, ws[i]? = some x := ⟨_, List.getElem?_eq_getElem (by omega)⟩
     have hr2 : r = rowW ws i := by
      rw [ht, List.getElem?_map, List.getElem?_range (by omega)] at hr; exact (Option.some.inj hr).symm
     obtain ⟨c, hc⟩ : ∃ c, r[k]? = some c := by
      cases e : r[k]? with
      | none => rw [List.getD_eq_getElem?_getD, e] at hn; exact absurd rfl hn
      | some c => exact ⟨c, rfl⟩
     rw [yd_eq hx hr, getD_of hc]
     rw [getD_of hc] at hn
     rw [hr2] at hc ⊢
     obtain ⟨r0, e1, _, e3, _⟩ := row_read hck hx hc hn
     rw [getD_of e1]; exact e3) h0 (fun _ => read_sign h1 h2 h3 hc h0)
    rw [ho]
    cases rsgK ws rows k (rd.getD k 0) <;> rfl
end
theorem rsig_eq (ws : List Wr) (rows : List (List Int)) (no : Int) (cl : List Int) (es : List Em) (rd : List Int) : rsgE ws rows no cl es rd = sigE ws rows no cl es rd ∧ rsgL ws rows no cl es rd = sigL ws rows no cl es rd := by
 by_cases h1 : tabE ws = 0
 ·
  by_cases h2 : tabR ws = rows
  ·
   by_cases h3 : edcF rows no cl es rd = 0
   ·
    have h := rsn_sgn h1 h2 h3 rd.length (Nat.le_refl _)
    have hE : rsgE ws rows no cl es rd = sigE ws rows no cl es rd := by unfold rsgE sigE; rw [h]
    exact ⟨hE, by unfold rsgL sigL; rw [hE, h]⟩
   ·
    have e1 := rsg_3 (no := no) h1 h2 h3
    have e2 := sig_3 (no := no) h1 h2 h3
    exact ⟨e1.trans e2.symm, by rw [rsg_bad (by rw [e1]; exact h3), sig_bad (by rw [e2]; exact h3)]⟩
  ·
   have e1 := rsg_2 (no := no) (cl := cl) (es := es) (rd := rd) h1 h2
   have e2 := sig_2 (no := no) (cl := cl) (es := es) (rd := rd) h1 h2
   exact ⟨e1.trans e2.symm, by rw [rsg_bad (by rw [e1]; decide), sig_bad (by rw [e2]; decide)]⟩
 ·
  have e1 := rsg_1 (rows := rows) (no := no) (cl := cl) (es := es) (rd := rd) h1
  have e2 := sig_1 (rows := rows) (no := no) (cl := cl) (es := es) (rd := rd) h1
  exact ⟨e1.trans e2.symm, by rw [rsg_bad (by rw [e1]; exact h1), sig_bad (by rw [e2]; exact h1)]⟩
theorem few_30 {hds : List Wt} {rows : List (List Int)} {n1 n2 n3 : Nat} (h : ((!fewW hds || !((fewR rows && decide ((n1 : Int) ≤ 40)) && decide ((n2 : Int) ≤ 40))) || decide ((n3 : Int) > 100)) = false) : fewW hds = true ∧ (fewR rows = true ∧ n1 ≤ 40 ∧ n2 ≤ 40) ∧ n3 ≤ 100 := by
 simp only [Bool.or_eq_false_iff, Bool.not_eq_false', Bool.and_eq_true, decide_eq_true_eq, decide_eq_false_iff_not] at h
 obtain ⟨⟨h1, ⟨h2, h3⟩, h4⟩, h5⟩ := h
 exact ⟨h1, ⟨h2, by omega, by omega⟩, by omega⟩
theorem fewW_n {hds : List Wt} {n : Nat} (h : fewW hds = true) (hn : hds.length = n) : n ≤ 5 := by
 unfold fewW at h; simp only [Bool.and_eq_true, decide_eq_true_eq] at h; omega
theorem sgnK_len {ws : List Wr} {rows : List (List Int)} {rd : List Int} : ∀ k l, sgnK ws rows rd k = some l → l.length ≤ k
 | 0, l, h => by cases h; exact Nat.zero_le _
 | k + 1, l, h => by
  cases hq : sgnK ws rows rd k with
  | none => rw [sgn_none hq (k + 1) (by omega)] at h; cases h
  | some l0 =>
   have h0 := sgnK_len k l0 hq
   cases ho : outK ws rows k (rd.getD k 0) with
   | err => exact absurd (show sgnK ws rows rd (k + 1) = none by show (match sgnK ws rows rd k with | none => none | some l => match outK ws rows k (rd.getD k 0) with | .err => none | .skip => some l | .sg x => some (l ++ [x])) = none; rw [hq]; simp only; rw [ho]) (by rw [h]; simp)
   | skip => rw [sgn_skip hq ho] at h; cases h; omega
   | sg x => rw [sgn_sg hq ho] at h; cases h; rw [List.length_append, List.length_singleton]; omega
theorem sig_small {ws : List Wr} {rows : List (List Int)} {no : Int} {cl : List Int} {es : List Em} {rd : List Int} : (sigL ws rows no cl es rd).length ≤ rd.length := by
 unfold sigL
 split
 ·
  exact Nat.zero_le _
 ·
  cases h : sgnK ws rows rd rd.length with
  | none => exact Nat.zero_le _
  | some l => exact sgnK_len _ _ h
end
section
open Go Go.Kn Go.Proofs
theorem fun_10 : Fun Tryz.prog 10 := .of Tryz.func10 (by kernel_rfl) (by kernel_rfl)
theorem fun_12 : Fun Tryz.prog 12 := .of Tryz.func12 (by kernel_rfl) (by kernel_rfl)
theorem fun_6 : Fun Tryz.prog 6 := .of Tryz.func6 (by kernel_rfl) (by kernel_rfl)
theorem fun_5 : Fun Tryz.prog 5 := .of Tryz.func5 (by kernel_rfl) (by kernel_rfl)
theorem few_len {rows : List (List Int)} (h : fewR rows = true) : rows.length ≤ 100 := by
 unfold fewR at h
 split at h
 ·
  simp only [Bool.or_eq_true, Bool.and_eq_true, decide_eq_true_eq] at h; omega
 omega
theorem w_signsSpec {I : HMap} {wv : Option Addr} {nw cw : Nat} {ws : List Wr} (hW0 : SlW I wv nw cw ws) (hbig : nw ≤ 9223372036854775807) {bv : Option Addr} {n2 c2 : Nat} {rows : List (List Int)} (hVn : SlN I bv n2 c2 rows) {ea1 : Option Addr} {en1 ec1 : Nat} {ea2 : Option Addr} {en2 ec2 : Nat} {ea3 : Option Addr} {en3 ec3 : Nat} {xs : List Int} {es : List Em} {rd : List Int} (hX1 : Sl I 1 encI ea1 en1 ec1 xs) (hX2 : Sl I 3 encEm ea2 en2 ec2 es) (hX3 : Sl I 1 encI ea3 en3 ec3 rd) (hDb : DebOK I) (no : Int) : RetV Tryz.prog 4 [.slice wv nw cw, .slice bv n2 c2, .agg (encEd no ea1 en1 ec1 ea2 en2 ec2 ea3 en3 ec3).toArray] I (.bool true) := by
 intro g H w hw
 refine enter Tryz.func4 rfl Tryz.ntmps4 rfl hw ?_
 have hIc := HLe.refl I
 obtain ⟨hds, hW⟩ := id hW0
 have hH := hW.1
 have hlW := hW.len
 have hlV := hVn.len
 refine zR ?_
 refine XO_box rfl rfl rfl (fun b_5 => ?_)
 refine zA (zN (X_seq (zR ?_)))
 refine XO_callV0 (cap := []) (vs := []) rfl rfl fun_5 (w_sane hDb) rfl rfl ?_
 refine zO (zN ?_)
 refine zI ?_ ?_ <;> intro hc12
 ·
  cases hc12
 refine X_skip (at_then (X_seq (zR (zM ?_))))
 refine XO_callV0 (cap := []) (vs := [_]) rfl rfl fun_10 (w_fewW hH hbig) rfl rfl ?_
 refine zO ?_
 refine zM ?_
 refine XO_pushF 3 rfl rfl rfl ?_
 refine zJ (ev_move rfl) ?_
 refine zJ (ev_fieldAddr rfl fld_34_1) ?_
 refine zJ (ev_load rfl sct_23 (fun hg => by exact Cell.h0 rfl)) ?_
 refine zJ (ev_fieldAddr rfl fld_34_2) ?_
 refine zJ (ev_load rfl sct_32 (fun hg => by exact Cell.h0 rfl)) ?_
 refine XO_callV1 (cap := []) (vs := [_, _, _]) rfl rfl fun_6 (fun hg => w_few43 hVn _ _ _ _ _ _) (.some rfl rfl rfl rfl gbf) rfl rfl ?_
 refine zJ (ev_not rfl) ?_
 refine XO_or0 rfl rfl rfl rfl rfl ?_
 refine zM ?_
 refine XO_pushF 12 rfl rfl rfl ?_
 refine zJ (ev_fieldAddr rfl fld_34_3) ?_
 refine zJ (ev_load rfl sct_23 (fun hg => by exact Cell.h0 rfl)) ?_
 refine zJ (ev_lenS rfl slt_23) ?_
 refine zJ (ev_cmp rfl rfl rfl) ?_
 refine XO_or0 rfl rfl rfl rfl rfl ?_
 refine zN ?_
 refine zI ?_ ?_ <;> intro hc30
 ·
  refine zR (zA (zN (X_ret (at_then_r ?_))))
  exact at_ret1 rfl rfl (fun w hw => ⟨by rfl, (hw.mono hIc).drop⟩)
 have hfew : fewW hds = true ∧ (fewR rows = true ∧ en1 ≤ 40 ∧ en2 ≤ 40) ∧ en3 ≤ 100 := few_30 hc30
 have hnw := fewW_n hfew.1 hH.len
 have hn2 := few_len hfew.2.1.1
 refine X_skip (at_then (zR (zM ?_)))
 refine zM ?_
 refine zV (ev_loadA rfl agt_34 (fun hg => by exact Cells.g0) rfl) ?_
 refine XO_callM (cap := []) (vs := [_, _, _]) rfl rfl fun_11 .nil (w_Signs hW0 (by omega) hVn (by omega) hX1 hX2 hX3 (by omega) (by omega) (by omega) no hDb (fun e => by rw [← e]; exact tab_nz)) rfl rfl ?_
 rintro vv1 I1 L1 hI1 ⟨rfl, sa, sc, rfl, hSg⟩
 have hW0 := hW0.mono hI1; have hVn := hVn.mono hI1; have hX1 := hX1.mono hI1; have hX2 := hX2.mono hI1; have hX3 := hX3.mono hI1; have hDb := hDb.mono hI1; have hIc := hIc.trans hI1
 refine zM ?_
 refine zE ?_
 refine zE ?_
 refine zA ?_
 refine zA ?_
 refine zN (zR ?_)
 refine zM ?_
 refine zM ?_
 refine zV (ev_loadA rfl agt_34 (fun hg => by exact Cells.g0) rfl) ?_
 refine XO_callM (cap := []) (vs := [_, _, _]) rfl rfl fun_12 .nil (q_Signs43 hW0 (by omega) hVn (by omega) hX1 hX2 hX3 (by omega) (by omega) (by omega) no) rfl rfl ?_
 rintro vv2 I2 L2 hI2 ⟨rfl, ra, rc, rfl, hSr⟩
 have hW0 := hW0.mono hI2; have hVn := hVn.mono hI2; have hX1 := hX1.mono hI2; have hX2 := hX2.mono hI2; have hX3 := hX3.mono hI2; have hDb := hDb.mono hI2; have hSg := hSg.mono hI2; have hIc := hIc.trans hI2
 refine zM ?_
 refine zE ?_
 refine zE ?_
 refine zA ?_
 refine zA ?_
 refine zN (zR ?_)
 refine zM ?_
 refine zM ?_
 refine zC ?_
 refine zM ?_
 refine XO_pushT 3 rfl rfl rfl ?_
 refine zK (ev_move rfl) ?_
 refine zK (ev_move rfl) ?_
 refine XO_callV1 (cap := []) (vs := [_, _]) rfl rfl fun_13 (fun hg => w_sameG hSg hSr (by have := sig_small (no := no) (cl := xs) (es := es) (rd := rd) (ws := ws) (rows := rows); have := hX3.len; omega)) (.some rfl rfl rfl rfl gbt) rfl rfl ?_
 refine XO_and0 rfl rfl rfl rfl rfl ?_
 refine zA (zN (X_ret ?_))
 first
 | exact at_ret1 rfl rfl (fun w hw => ⟨by rw [decide_eq_true (rsig_eq ws rows no xs es rd).2.symm, (rsig_eq ws rows no xs es rd).1]; simp, (hw.mono hIc).drop⟩)
end
end Go.Proofs.YthcffaheamikgaaGreatDoor
namespace Go.Kn
section
open Go Go.ChangeShapes Go.WideShapes Go.ChangeAt Go.RowKit
def heapI (W : World) : HMap := fun b => W.heap[b]?
theorem St.start (W : World) : St W (heapI W) (fun _ => none) [] W :=
 ⟨rfl, rfl, rfl, ⟨Nat.le_refl _, Nat.le_refl _⟩, fun _ _ h => h, (fun _ _ h => by cases h), (fun _ _ h => by cases h), fun _ => .inr rfl, (fun _ _ h => by cases h), by simp⟩
theorem St.below {W w : World} {H : HMap} {loc : Loc} (h : St W (heapI W) H loc w) : Below W.heap.size W w :=
 ⟨h.os, h.tape, h.out, h.size.1, fun k hk => by
  have e : W.heap[k]? = some W.heap[k] := Array.getElem?_eq_getElem hk
  rw [h.imm k _ e, e]⟩
theorem RetV.law {P : Program} {f : FuncId} {args : List Value} {W : World} {v : Value} (h : RetV P f args (heapI W) v) : Calls P f args.toArray W fun e w' => e = .returned v ∧ Below W.heap.size W w' :=
 (h W _ W (St.start W)).mono fun _ _ ⟨he, hs⟩ => ⟨he, hs.below⟩
theorem keptBut_below {W w : World} {may : MemPlace → Prop} (h : Below W.heap.size W w) : W.keptBut w may := by
 refine ⟨h.os, h.output, fun i hi => ?_⟩
 rw [h.block i hi]
 rw [Array.getElem?_eq_getElem hi]
 cases W.heap[i] <;> simp
theorem trodAll_stays {H : Type} {enc : TypeId × Value → H} {P : Program} {W W' : World} (hl : laidOutB P = true) (hB : Below W.heap.size W W') (sp : Nat → Bool) : ∀ (ts : List TypeId) (vs : List Value) (ds : List (DataW H)) (ps : List MemPlace), (∀ t ∈ ts, P.readableRec t = true ∧ t < P.types.size) →
  DataW.TrodAll enc P W 0 (fun _ => true) true ts vs ds ps → (∀ x ∈ ps, x.block < W.heap.size ∧ sp x.block = true) → DataW.TrodAll enc P W' 0 sp true ts vs ds ps
 | [], [], [], ps, _, h, _ => h
 | t :: ts, v :: vs, d :: ds, ps, hr, ⟨p, q, h1, h2, e⟩, hlt => by
  subst e
  exact ⟨p, q, WideElems.Trod_stays hl (hr t (List.mem_cons_self ..)).1 (hr t (List.mem_cons_self ..)).2 h1 (fun x hx => hB.same (hlt x (List.mem_append_left _ hx)).1) (fun x hx => (hlt x (List.mem_append_left _ hx)).2),
   trodAll_stays hl hB sp ts vs ds q (fun t ht => hr t (List.mem_cons_of_mem _ ht)) h2 (fun x hx => hlt x (List.mem_append_right _ hx)), rfl⟩
theorem post_law {H : Type} {enc : TypeId × Value → H} {P : Program} {f : Func} {s : ChangeSpec} {again : Bool} {W W' : World} {args : Array Value} {ds : List (DataW H)} {before : List MemPlace} {tb : TypeId}
  (hl : laidOutB P = true) (hr : f.resultTypes = #[tb]) (hb : P.underlying tb = some .bool) (hv : s.vars = []) (hs : (s.fn H (ds ++ [])) = { results := [.lit (.bool true)], args := ds }) (hrd : ∀ t ∈ f.params.toList, P.readableRec t = true ∧ t < P.types.size)
  (hW : DataW.Whole enc P f.params.toList s.vars false W args.toList ds [] before) (hB : Below W.heap.size W W') : s.post enc P f false true false again W args (.bool true) W' := by
 have hlt : ∀ x ∈ before, x.block < W.heap.size := fun x hx => by simpa using hW.lt x hx
 have hW0 := hW
 obtain ⟨p, q, hA, hV, rfl, hfz, _⟩ := hW
 rw [hv] at hV
 obtain ⟨_, rfl⟩ := trodVars_none hV
 rw [List.append_nil] at hlt hfz hW0
 have hres : ∀ (b : Nat) (sp : Nat → Bool) (hd : Bool), DataW.TrodAll enc P W' b sp hd f.resultTypes.toList ((Value.bool true).resultList f.resultTypes.size) [.lit (.bool true)] [] := fun b sp hd => by
  rw [hr]; exact trodAll_mk1 (shut_bool hb true)
 have hargs : ∀ sp : Nat → Bool, (∀ x ∈ p, sp x.block = true) → DataW.TrodAll enc P W' 0 sp true f.params.toList args.toList ds p := fun sp h => trodAll_stays hl hB sp _ _ _ _ hrd hA (fun x hx => ⟨hlt x hx, h x hx⟩)
 have hnil : ∀ sp : Nat → Bool, DataW.TrodVars enc P W' sp s.vars [] [] := fun sp => by rw [hv]; rfl
 refine ⟨ds, [], p, [], p, [], hW0, ?_, ?_, ?_, keptBut_below hB, fun _ => ?_⟩
 ·
  rw [hs]; exact hres _ _ _
 ·
  rw [hs]; exact hargs _ (fun x hx => by simpa using hlt x hx)
 ·
  rw [hs]; exact hnil _
 ·
  refine ⟨fun j t r ht hr' => ?_, [.lit (.bool true)] ++ ds, [], [] ++ p, ⟨[] ++ p, [], trodAll_append (hargs _ (fun _ _ => rfl)) (hres _ _ _), hnil _, by simp, ?_, fun h => by cases h⟩, fun x hx _ => by simpa using hx⟩
  ·
   rw [hr] at ht hr'
   cases j with
   | zero => simp [Value.resultList] at ht hr'; subst ht; subst hr'; exact okWide_bool_mk hb _
   | succ j => simp at ht
  ·
   intro b off hx
   rw [hB.frozen (hlt _ (by simpa using hx))]
   exact hfz b off (by simpa using hx)
theorem cell_heap {W : World} {b o : Nat} {u : Value} (h : W.cell? ⟨b, o, none⟩ = some u) : Cell (heapI W) [] b o u := by
 unfold World.cell? at h
 split at h
 ·
  rename_i c t fz hb
  simp only [Option.isSome_none, Bool.false_eq_true, if_false] at h
  exact ⟨c, t, fz, .inl hb, h⟩
 ·
  cases h
theorem open_SlT {H : Type} {enc : TypeId × Value → H} {P : Program} {W : World} {t e : TypeId} {size fuel0 : Nat} {cs : List Value} {x0 : DataW H × List MemPlace} {α : Type} (enc' : α → List Value) (ok : α → Prop)
  (ht : P.underlying t = some (.slice e)) (hc : P.cellsOf e = size) (hpos : 0 < size) (hlen : ∀ y, (enc' y).length = size)
  (hel : ∀ fuel cs x, DataW.trod enc P W 0 (fun _ => true) true fuel e cs = some x → ∃ y, ok y ∧ enc' y = cs)
  (hf' : DataW.trod enc P W 0 (fun _ => true) true fuel0 t cs = some x0) : ∃ av n c xs, cs = [.slice av n c] ∧ Sl (heapI W) size enc' av n c xs ∧ (∀ x ∈ xs, ok x) ∧ c ≤ maxLen := by
 rcases Go.Deep.open_slice ht hf' with ⟨e1, _⟩ | ⟨a, len0, cap0, m, n, D, Pl, e1, hb, hl, hm, hmm, _, hx⟩
 ·
  subst e1
  exact ⟨none, 0, 0, [], rfl, .nil, (fun x hx => by cases hx), Nat.zero_le _⟩
 ·
  subst e1
  have hlm : len0 ≤ m := by rw [hmm]; simp; exact hl
  have each : ∀ i, i < len0 → ∃ y, ok y ∧ W.cells? 0 (a.add (i * size)) size = some (enc' y) := fun i hi => by
   obtain ⟨cs', h1, h2⟩ := hx i (by omega)
   obtain ⟨y, hy, e⟩ := hel _ _ _ h2
   rw [hc] at h1
   exact ⟨y, hy, by rw [h1, e]⟩
  have all : ∀ k, k ≤ len0 → ∃ xs : List α, xs.length = k ∧ ∀ i x, xs[i]? = some x → ok x ∧ W.cells? 0 (a.add (i * size)) size = some (enc' x) := by
   intro k
   induction k with
   | zero => intro _; exact ⟨[], rfl, fun i x h => by simp at h⟩
   | succ k ih =>
    intro hk
    obtain ⟨xs, hl', hxs⟩ := ih (by omega)
    obtain ⟨y, hy, hcy⟩ := each k (by omega)
    refine ⟨xs ++ [y], by simp [hl'], fun i x h => ?_⟩
    by_cases hi : i < xs.length
    ·
     rw [List.getElem?_append_left hi] at h; exact hxs i x h
    ·
     rw [List.getElem?_append_right (by omega)] at h
     have : i = k := by have := (List.getElem?_eq_some_iff.1 h).1; simp at this; omega
     subst this
     rw [hl'] at h; simp at h; subst h
     exact ⟨hy, hcy⟩
  obtain ⟨xs, hl', hxs⟩ := all len0 (Nat.le_refl _)
  have add0 : ∀ (b o n : Nat), (⟨b, o, none⟩ : Addr).add n = ⟨b, o + n, none⟩ := fun b o n => by
   unfold Addr.add
   split
   ·
    rename_i e; subst e; rfl
   ·
    rfl
  have hspot : 0 < xs.length → a.spot = none := fun hx => by
   have hx0 : xs[0]? = some xs[0] := List.getElem?_eq_getElem hx
   have hp0 : 0 < (enc' xs[0]).length := by rw [hlen]; exact hpos
   obtain ⟨_, h1, h2⟩ := World.cells?_some (hxs 0 _ hx0).2
   have h3 := h2 0 hpos
   rw [List.getElem?_eq_getElem hp0] at h3
   simpa [Addr.add] using World.cell?_spot h3
  have cellat : ∀ i x, xs[i]? = some x → ∀ j u, (enc' x)[j]? = some u → W.cell? ⟨a.block, a.off + i * size + j, none⟩ = some u := fun i x hx j u hu => by
   obtain ⟨_, h1, h2⟩ := World.cells?_some (hxs i x hx).2
   have hj : j < size := by rw [← hlen x]; exact (List.getElem?_eq_some_iff.1 hu).1
   have h3 := h2 j hj
   rw [hu] at h3
   have hsp := hspot (by have := (List.getElem?_eq_some_iff.1 hx).1; omega)
   obtain ⟨b, o, sp⟩ := a
   simp only at hsp
   subst hsp
   rw [add0, add0] at h3
   exact h3
  refine ⟨some a, len0, cap0, xs, rfl, ⟨hl', hl, fun hn => ?_, fun k x hx j u hu => ?_⟩, fun x hx => ?_, hm⟩
  ·
   have := hspot (by omega)
   obtain ⟨b, o, sp⟩ := a
   simp only at this
   subst this; rfl
  ·
   exact cell_heap (cellat k x hx j u hu)
  ·
   obtain ⟨i, hi⟩ := List.getElem?_of_mem hx
   exact (hxs i x hi).1
theorem open_Sl {H : Type} {enc : TypeId × Value → H} {P : Program} {W : World} {base : Nat} {t e : TypeId} {size : Nat} {v : Value} {d : DataW H} {p : List MemPlace} {α : Type} (enc' : α → List Value) (ok : α → Prop)
  (ht : P.underlying t = some (.slice e)) (hc : P.cellsOf e = size) (hpos : 0 < size) (hlen : ∀ y, (enc' y).length = size)
  (hel : ∀ fuel cs x, DataW.trod enc P W 0 (fun _ => true) true fuel e cs = some x → ∃ y, ok y ∧ enc' y = cs)
  (hv : Value.okWide P W .any base t v) (h : DataW.Trod enc P W 0 (fun _ => true) true t v d p) : ∃ av n c xs, v = .slice av n c ∧ Sl (heapI W) size enc' av n c xs ∧ (∀ x ∈ xs, ok x) ∧ c ≤ maxLen := by
 obtain ⟨a0, len0, cap0, rfl⟩ := okWide_slice ht hv
 obtain ⟨fuel, hf⟩ := h
 obtain ⟨av, n, c, xs, e, h1, h2, h3⟩ := open_SlT enc' ok ht hc hpos hlen hel (cs := [.slice a0 len0 cap0]) (by simpa [Value.cells] using hf)
 cases e
 exact ⟨_, _, _, xs, rfl, h1, h2, h3⟩
theorem el_int {H : Type} {enc : TypeId × Value → H} {P : Program} {W : World} {e : TypeId} {k : IntKind} (he : P.underlying e = some (.int k)) (hk : k = .i64) (fuel : Nat) (cs : List Value) (x : DataW H × List MemPlace) (h : DataW.trod enc P W 0 (fun _ => true) true fuel e cs = some x) :
  ∃ y : Int, (-9223372036854775808 ≤ y ∧ y ≤ 9223372036854775807) ∧ [Value.int .i64 y] = cs := by
 subst hk
 obtain ⟨v, hv⟩ : ∃ v, cs = [v] := by
  have := h
  cases fuel with
  | zero => simp [DataW.trod] at this
  | succ m => unfold DataW.trod at this; rw [he] at this; split at this <;> simp_all
 subst hv
 obtain ⟨n, e, _, w⟩ := DataW.trod_int he h
 cases e
 simp only [Lit.wf, Bool.and_eq_true, decide_eq_true_eq] at w
 exact ⟨n, w, rfl⟩
end
section
open Go
theorem trod_seg {H : Type} {enc : TypeId × Value → H} {P : Program} {W : World} {base : Nat} {spare : Nat → Bool} {held : Bool} {t C : Nat} {fs : Array Field} {fuel : Nat} {cs : List Value} {x : DataW H × List MemPlace} (hs : P.underlying t = some (.struct fs))
  (hC : P.cellsOf t = C) (h : DataW.trod enc P W base spare held fuel t cs = some x) :
  cs.length = C ∧ ∃ n, ∀ (i ty off k : Nat), ((fs[i]?).map fun f => (f.type, f.offset)) = some (ty, off) → P.cellsOf ty = k → ∃ y, DataW.trod enc P W base spare held n ty ((cs.drop off).take k) = some y := by
 obtain ⟨xs, n, _, _, hl, hxl, hf⟩ := DataW.trod_struct hs h
 refine ⟨hl.trans hC, n, fun i ty off k hi hk => ?_⟩
 obtain ⟨f, hfi, e⟩ := Option.map_eq_some_iff.1 hi
 cases e
 have g := hf i f hfi
 have hix : i < xs.length := by rw [hxl]; exact (Array.getElem?_eq_some_iff.1 hfi).1
 rw [hk, List.getElem?_eq_getElem hix] at g
 exact ⟨_, g⟩
end
end Go.Kn
namespace Go.Proofs.YthcffaheamikgaaGreatDoor
section
open Go Go.Kn Go.Proofs
open Go.ChangeShapes Go.WideShapes Go.ChangeAt Go.RowKit
set_option maxRecDepth 100000
theorem ound_3 : Tryz.prog.underlying 3 = some (.int .i64) := by kernel_rfl
theorem ound_4 : Tryz.prog.underlying 4 = some .bool := by kernel_rfl
theorem ound_5 : Tryz.prog.underlying 5 = some (.int .u8) := by kernel_rfl
theorem heads {I : HMap} : ∀ (hs : List Hd), (∀ h ∈ hs, ∃ v, Sl I 1 encI h.a h.n h.c v) → ∃ vss, RelH I hs vss
 | [], _ => ⟨[], RelH.nil⟩
 | x :: hs, H => by
  obtain ⟨vss, hl, hv⟩ := heads hs fun h hh => H h (List.mem_cons_of_mem _ hh)
  obtain ⟨v0, h0⟩ := H x (List.mem_cons_self ..)
  refine ⟨v0 :: vss, by simp [hl], fun k h v a b => ?_⟩
  cases k with
  | zero => cases a; cases b; exact h0
  | succ k => exact hv k h v a b
theorem open_nest {H : Type} {enc : TypeId × Value → H} {W : World} {base : Nat} {v : Value} {d : DataW H} {p : List MemPlace} (hv : Value.okWide Tryz.prog W .any base 22 v) (h : DataW.Trod enc Tryz.prog W 0 (fun _ => true) true 22 v d p) :
  ∃ av n c vss, v = .slice av n c ∧ SlN (heapI W) av n c vss ∧ n ≤ 9223372036854775807 := by
 obtain ⟨av, n, c, hs, e, hS, hok, hm⟩ := open_Sl (e := 23) encH (fun h => ∃ v, Sl (heapI W) 1 encI h.a h.n h.c v) (by kernel_rfl) (by kernel_rfl) (by decide) encH_len (fun fuel cs x h => by
  obtain ⟨a, m, q, ys, e, hT, _⟩ := open_SlT (t := 23) (e := 3) encI (fun _ => True) (by kernel_rfl) (by kernel_rfl) (by decide) encI_len (fun fuel cs x h => by
   obtain ⟨y, _, e⟩ := el_int ound_3 rfl fuel cs x h
   exact ⟨y, trivial, e⟩) h
  exact ⟨⟨a, m, q⟩, ⟨ys, hT⟩, e.symm⟩) hv h
 obtain ⟨vss, hr⟩ := heads hs hok
 exact ⟨av, n, c, vss, e, ⟨hs, hS, hr⟩, by have := hS.cap; simp only [maxLen] at hm; omega⟩
def laid2 : List (String × DataW Unit) := [("math/bits.deBruijn32tab", Rows.laid_math_bits_deBruijn32tab), ("math/bits.deBruijn64tab", Rows.laid_math_bits_deBruijn64tab)]
theorem gDeb : Tryz.prog.globalNamed "math/bits.deBruijn64tab" = some 1 := by kernel_rfl
theorem tDeb : (Tryz.prog.globals[1]?).map (·.type) = some 162 := by kernel_rfl
theorem deb_is : (Rows.laid_math_bits_deBruijn64tab : DataW Unit) = Lib.tabData .u8 debT := by rfl
theorem deb_of {W : World} (h : laidMetH Tryz.prog laid2 W) : DebOK (heapI W) := by
 rw [MakeChecks.laidMetH_plain _ _ _ (by kernel_rfl)] at h
 obtain ⟨ps, ⟨g0, t0, cs0, f0, p0, q0, hg0, ht0, hv0, hd0, ⟨g1, t1, cs1, f1, p1, q1, hg1, ht1, hv1, hd1, _, _⟩, _⟩, _, _⟩ := h
 obtain rfl := Option.some.inj (gDeb.symm.trans hg1)
 obtain rfl := Option.some.inj (tDeb.symm.trans ht1)
 rw [deb_is] at hd1
 have hcs := Lib.cells_of_tab (n := 64) (e := 5) (by kernel_rfl) ound_5 (by kernel_rfl) (by kernel_rfl) hd1
 intro i hi
 refine cell_heap ?_
 have := World.var?_cell hg1 hv1 i
 rw [this]
 have hl : i < debT.length := hi
 have e : cs1 = (debT.map fun z => Value.int .u8 z).toArray := Array.ext' hcs
 rw [e]
 simp [List.getD, hl]
theorem door_met (os : Os) (args : Array Value) : laidMetH Tryz.prog laid2 ((World.doorLaid Tryz.prog 400 os).forCall (fun _ _ => 0) ⟨#[], args, []⟩).memory :=
 laidMetH_of_parts3 (fuel := 8) (laidMet_of_run' 8 (by kernel_rfl) (by kernel_rfl)) (by kernel_rfl) (by kernel_rfl)
end
end Go.Proofs.YthcffaheamikgaaGreatDoor
