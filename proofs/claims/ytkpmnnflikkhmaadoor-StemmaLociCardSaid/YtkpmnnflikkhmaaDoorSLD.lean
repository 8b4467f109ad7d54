/- stemmaLoci_holds, part D of the proof: what its theorems say holds without further conditions. -/
import Derived.ProofKit
import Derived.Deep.Slices
import Derived.Test.YtkpmnnflikkhmaaDoorRows
import Derived.LaidMore
import Derived.MakeChecks
import Derived.Lib.LaidTab
import Derived.Test.YtkpmnnflikkhmaaDoorCards
import Derived.Test.YtkpmnnflikkhmaaDoorTie
import Derived.Stop.Joined
import Derived.SevenTiedAt
import Derived.Test.YtkpmnnflikkhmaaDoorSLC
section
namespace Go.Proofs.YtkpmnnflikkhmaaDoor
open Go Go.Kn Go.Proofs
def treeT (cl : List Int) : Nat → Int → Tr
  | 0, _ => .leaf 0
  | f + 1, s => if singF s = true then .leaf (witF s) else .node (treeT cl f (splitF cl s)) (treeT cl f (s - splitF cl s))
theorem treeT_1 {cl : List Int} {f : Nat} {s : Int} (h : singF s = true) : treeT cl (f + 1) s = .leaf (witF s) := by simp only [treeT]; rw [if_pos h]
theorem treeT_2 {cl : List Int} {f : Nat} {s : Int} (h : singF s = false) : treeT cl (f + 1) s = .node (treeT cl f (splitF cl s)) (treeT cl f (s - splitF cl s)) := by simp only [treeT]; rw [if_neg (by rw [h]; decide)]
theorem wit_pow_tab : ((List.range 64).all fun s => !singF (s : Int) || (2 ^ witF (s : Int) == s)) = true := by kernel_rfl
theorem wit_pow {s : Int} (hs : 1 ≤ s ∧ s ≤ 63) (h : singF s = true) : 2 ^ witF s = s.toNat := by
  have h0 := List.all_eq_true.1 wit_pow_tab s.toNat (List.mem_range.2 (by omega))
  rw [show ((s.toNat : Nat) : Int) = s by omega, h] at h0
  simpa using h0
theorem pow_sing_tab : ((List.range 6).all fun w => singF ((2 ^ w : Nat) : Int) && (witF ((2 ^ w : Nat) : Int) == w) && decide (2 ^ w < 64)) = true := by kernel_rfl
theorem pow_sing {w : Nat} (h : w < 6) : singF ((2 ^ w : Nat) : Int) = true ∧ witF ((2 ^ w : Nat) : Int) = w ∧ 2 ^ w < 64 := by
  have h0 := List.all_eq_true.1 pow_sing_tab w (List.mem_range.2 h)
  simp only [Bool.and_eq_true, beq_iff_eq, decide_eq_true_eq] at h0
  exact ⟨h0.1.1, h0.1.2, h0.2⟩
section
variable {n : Nat} {cl : List Int} (hc : chkN n cl = 0)
include hc
theorem treeT_ok : ∀ (f : Nat) (s : Int), s.toNat ≤ f → OkS n cl s → (treeT cl f s).ok n ∧ (treeT cl f s).mask = s.toNat ∧ ∀ c ∈ (treeT cl f s).sets, (c : Int) ∈ cl
  | 0, s, hf, h => by have := h.1; omega
  | f + 1, s, hf, h => by
    have hle := ok_le hc h
    have h6 := (chkN_ok hc).2.1
    cases h1 : singF s with
    | true =>
      rw [treeT_1 h1]
      exact ⟨wit_n (n := n) (by omega) hle h1 h.2.1, wit_pow hle h1, fun c hcm => by cases hcm⟩
    | false =>
      obtain ⟨hin, o1, o2, o3, o4, o5, _⟩ := first_part hc h h1
      obtain ⟨q1, _, _⟩ := pair_ok (by omega) (by omega) o5
      obtain ⟨i1, i2, i3⟩ := treeT_ok f _ (by omega) o1
      obtain ⟨j1, j2, j3⟩ := treeT_ok f _ (by omega) o2
      rw [treeT_2 h1]
      refine ⟨⟨i1, j1, ?_⟩, ?_, fun c hcm => ?_⟩
      · rw [i2, j2, show (s - splitF cl s).toNat = s.toNat - (splitF cl s).toNat by omega, Nat.and_comm]; exact q1
      · show _ + _ = _
        rw [i2, j2]; omega
      · rcases List.mem_cons.1 hcm with rfl | hcm
        · rw [i2, j2, show (((splitF cl s).toNat + (s - splitF cl s).toNat : Nat) : Int) = s by omega]; exact hin
        · rcases List.mem_append.1 hcm with hcm | hcm
          · exact i3 c hcm
          · exact j3 c hcm
end
def uF (rows : List (List Int)) (l : Nat) (w : Nat) : Int := (rows.getD w []).getD l 0
theorem costs_tree {rows : List (List Int)} {cl : List Int} {l n : Nat} (hc : chkN n cl = 0) : ∀ (f : Nat) (s : Int), s.toNat ≤ f → OkS n cl s → costsF rows cl l f s = (statesF rows l).map (cT (statesF rows l) (uF rows l) (treeT cl f s))
  | 0, s, hf, h => by have := h.1; omega
  | f + 1, s, hf, h => by
    have hle := ok_le hc h
    cases h1 : singF s with
    | true =>
      have hz : (andI s (IntKind.i64.wrap (s - 1)) == 0) = true := by unfold singF at h1; rw [Bool.and_eq_true] at h1; exact h1.2
      rw [costs_leaf hz, treeT_1 h1]; rfl
    | false =>
      have hz : (andI s (IntKind.i64.wrap (s - 1)) == 0) = false := by unfold singF at h1; rw [decide_eq_true (show s > 0 by omega), Bool.true_and] at h1; exact h1
      obtain ⟨hin, o1, o2, o3, o4, o5, _⟩ := first_part hc h h1
      rw [costs_two hz, treeT_2 h1, costs_tree hc f _ (by omega) o1, costs_tree hc f _ (by omega) o2]
      refine List.map_congr_left fun x _ => ?_
      unfold twoG
      rw [below_bl, below_bl]; rfl
/-- The price of a tree. -/
def pK (rows : List (List Int)) (T : Tr) (k : Nat) : Int := (List.range k).foldl (fun s l => s + mn (statesF rows l) (cT (statesF rows l) (uF rows l) T)) 0
def pT (rows : List (List Int)) (T : Tr) : Int := pK rows T (rows.getD 0 []).length
theorem pK_step {rows : List (List Int)} {T : Tr} {k : Nat} : pK rows T (k + 1) = pK rows T k + mn (statesF rows k) (cT (statesF rows k) (uF rows k) T) := by unfold pK; rw [List.range_succ, List.foldl_append]; rfl
theorem price_tree {rows : List (List Int)} {cl : List Int} (hc : chkN rows.length cl = 0) : priceF rows cl = pT rows (treeT cl 64 (allS rows.length)) := by
  obtain ⟨h1, h6, _⟩ := chkN_ok hc
  have hal := all_in (n := (rows.length : Int)) ⟨h1, h6⟩
  have : ∀ k, priceK rows cl k = pK rows (treeT cl 64 (allS rows.length)) k := by
    intro k
    induction k with
    | zero => rfl
    | succ k ih => rw [price_step, pK_step, ih, costs_tree hc 64 _ (by omega) (ok_all hc)]; rfl
  exact this _
/-! ### From a tree to a list -/
theorem mask_in {n : Nat} (h6 : n ≤ 6) : ∀ {T : Tr}, T.ok n → T.mask < 64 ∧ ∃ q, subN T.mask q = true ∧ q = 2 ^ n - 1
  | .leaf w, h => by
    have hw : w < n := h
    refine ⟨(pow_sing (by omega)).2.2, _, ?_, rfl⟩
    have ht : ((List.range 7).all fun n => (List.range n).all fun w => subN (2 ^ w) (2 ^ n - 1)) = true := by kernel_rfl
    have h0 := List.all_eq_true.1 ht n (List.mem_range.2 (by omega))
    exact List.all_eq_true.1 h0 w (List.mem_range.2 hw)
  | .node a b, ⟨ha, hb, hd⟩ => by
    obtain ⟨a1, q, a2, rfl⟩ := mask_in h6 ha
    obtain ⟨b1, q', b2, rfl⟩ := mask_in h6 hb
    have ht : ((List.range 64).all fun a => (List.range 64).all fun b => !(a &&& b == 0) || decide (a + b < 64) && (List.range 7).all fun n => !subN a (2 ^ n - 1) || !subN b (2 ^ n - 1) || subN (a + b) (2 ^ n - 1)) = true := by kernel_rfl
    have h0 := List.all_eq_true.1 ht a.mask (List.mem_range.2 a1)
    have h0 := List.all_eq_true.1 h0 b.mask (List.mem_range.2 b1)
    rw [show (a.mask &&& b.mask == 0) = true by rw [hd]; rfl, Bool.not_true, Bool.false_or, Bool.and_eq_true, decide_eq_true_eq] at h0
    have h1 := List.all_eq_true.1 h0.2 n (List.mem_range.2 (by omega))
    rw [a2, b2] at h1
    exact ⟨h0.1, _, by show subN (a.mask + b.mask) _ = true; simpa using h1, rfl⟩
theorem two_tab : ((List.range 64).all fun a => (List.range 64).all fun b => a == 0 || b == 0 || !(a &&& b == 0) || ((lowS (a : Int) ((a + b : Nat) : Int) || lowS (b : Int) ((a + b : Nat) : Int)) && (andI (a : Int) ((a + b : Nat) : Int) == (a : Int)) && (andI (b : Int) ((a + b : Nat) : Int) == (b : Int)) && subN a (a + b) && subN b (a + b) && (popF (a : Int) + popF (b : Int) == popF ((a + b : Nat) : Int)))) = true := by kernel_rfl
theorem two_ok {a b : Nat} (ha : 1 ≤ a ∧ a < 64) (hb : 1 ≤ b ∧ b < 64) (h : a &&& b = 0) : (lowS (a : Int) ((a + b : Nat) : Int) = true ∨ lowS (b : Int) ((a + b : Nat) : Int) = true) ∧ andI (a : Int) ((a + b : Nat) : Int) = (a : Int) ∧ andI (b : Int) ((a + b : Nat) : Int) = (b : Int) ∧ subN a (a + b) = true ∧ subN b (a + b) = true ∧ popF (a : Int) + popF (b : Int) = popF ((a + b : Nat) : Int) := by
  have h0 := List.all_eq_true.1 two_tab a (List.mem_range.2 ha.2)
  have h0 := List.all_eq_true.1 h0 b (List.mem_range.2 hb.2)
  rw [h, show (a == 0) = false by simp; omega, show (b == 0) = false by simp; omega] at h0
  simpa [and_assoc] using h0
theorem sets_in {n : Nat} (h6 : n ≤ 6) : ∀ {T : Tr}, T.ok n → T.sets.length + 1 = popF (T.mask : Int) ∧ T.sets.Nodup ∧ ∀ c ∈ T.sets, 1 ≤ c ∧ subN c T.mask = true
  | .leaf w, h => by
    have hw : w < n := h
    refine ⟨?_, .nil, fun c hc => by cases hc⟩
    have ht : ((List.range 6).all fun w => popF ((2 ^ w : Nat) : Int) == 1) = true := by kernel_rfl
    have h0 := List.all_eq_true.1 ht w (List.mem_range.2 (by omega))
    exact (eq_of_beq h0).symm
  | .node a b, ⟨ha, hb, hd⟩ => by
    obtain ⟨a1, a2, a3⟩ := sets_in h6 ha
    obtain ⟨b1, b2, b3⟩ := sets_in h6 hb
    have pa := mask_pos a
    have pb := mask_pos b
    obtain ⟨t1, t2, t3, t4, t5, t6⟩ := two_ok ⟨pa, (mask_in h6 ha).1⟩ ⟨pb, (mask_in h6 hb).1⟩ hd
    have lea : ∀ c ∈ a.sets, c ≤ a.mask := fun c hc => sub_le (a3 c hc).2
    have leb : ∀ c ∈ b.sets, c ≤ b.mask := fun c hc => sub_le (b3 c hc).2
    refine ⟨?_, ?_, fun c hc => ?_⟩
    · show (a.sets ++ b.sets).length + 1 + 1 = popF ((a.mask + b.mask : Nat) : Int)
      rw [List.length_append, ← t6]; omega
    · show ((a.mask + b.mask) :: (a.sets ++ b.sets)).Nodup
      rw [List.nodup_cons, List.nodup_append]
      refine ⟨fun hm => ?_, a2, b2, fun x hx y hy e => ?_⟩
      · rcases List.mem_append.1 hm with hm | hm
        · have := lea _ hm; omega
        · have := leb _ hm; omega
      · subst e
        have := sub_both (a3 x hx).2 (b3 x hy).2 (by rw [Nat.and_comm]; exact hd)
        have := (a3 x hx).1
        omega
    · rcases List.mem_cons.1 hc with rfl | hc
      · exact ⟨by omega, sub_refl _⟩
      · rcases List.mem_append.1 hc with hc | hc
        · exact ⟨(a3 c hc).1, sub_trans (a3 c hc).2 t4⟩
        · exact ⟨(b3 c hc).1, sub_trans (b3 c hc).2 t5⟩
theorem has_mask {n : Nat} (h6 : n ≤ 6) {cl : List Int} : ∀ {T : Tr}, T.ok n → (∀ c ∈ T.sets, (c : Int) ∈ cl) → hasS cl (T.mask : Int) = true
  | .leaf w, h, _ => by
    have hw : w < n := h
    unfold hasS
    rw [Bool.or_eq_true]; right
    exact (pow_sing (by omega)).1
  | .node a b, _, hs => by
    unfold hasS
    rw [Bool.or_eq_true]; left
    rw [List.any_eq_true]
    exact ⟨_, hs _ (List.mem_cons_self ..), by simp [Tr.mask]⟩
theorem split_find {cl : List Int} {c a : Int} (ha : 1 ≤ a ∧ a < c) (h : splitP cl c a = true) : splitF cl c ≠ 0 := by
  unfold splitF splitR
  cases hf : (List.range' 1 (c.toNat - 1)).find? (fun k : Nat => splitP cl c (k : Int)) with
  | none =>
    have := List.find?_eq_none.1 hf a.toNat (List.mem_range'_1.2 (by omega))
    rw [show ((a.toNat : Nat) : Int) = a by omega, h] at this
    exact absurd rfl this
  | some k =>
    have := List.mem_range'_1.1 (List.mem_of_find?_eq_some hf)
    show (k : Int) ≠ 0
    omega
/-- One of two parts is a first part. -/
theorem node_part {n : Nat} (h6 : n ≤ 6) {cl : List Int} {a b : Tr} (h : (Tr.node a b).ok n) (hs : ∀ c ∈ (Tr.node a b).sets, (c : Int) ∈ cl) : (splitP cl (((Tr.node a b).mask : Nat) : Int) (a.mask : Int) = true ∨ splitP cl (((Tr.node a b).mask : Nat) : Int) (b.mask : Int) = true) := by
  obtain ⟨ha, hb, hd⟩ := h
  have pa := mask_pos a
  have pb := mask_pos b
  obtain ⟨t1, t2, t3, t4, t5, t6⟩ := two_ok ⟨pa, (mask_in h6 ha).1⟩ ⟨pb, (mask_in h6 hb).1⟩ hd
  have sa := has_mask h6 ha (cl := cl) fun c hc => hs c (List.mem_cons_of_mem _ (List.mem_append_left _ hc))
  have sb := has_mask h6 hb (cl := cl) fun c hc => hs c (List.mem_cons_of_mem _ (List.mem_append_right _ hc))
  have e1 : (((Tr.node a b).mask : Nat) : Int) = ((a.mask + b.mask : Nat) : Int) := rfl
  rw [e1]
  unfold splitP
  rcases t1 with t1 | t1
  · left
    rw [t2, t1, sa, show ((a.mask + b.mask : Nat) : Int) - (a.mask : Int) = (b.mask : Int) by omega, sb]; simp
  · right
    rw [t3, t1, sb, show ((a.mask + b.mask : Nat) : Int) - (b.mask : Int) = (a.mask : Int) by omega, sa]; simp
theorem chk_of {n : Nat} {cl : List Int} (h1 : 1 ≤ n) (h6 : n ≤ 6) (hlen : cl.length + 1 = n) (hup : cl.Pairwise (· < ·)) (hin : ∀ c ∈ cl, 1 ≤ c ∧ c ≤ allS n) (hall : 1 < n → allS n ∈ cl) (hsp : ∀ c ∈ cl, splitF cl c ≠ 0) : chkN n cl = 0 := by
  have hP : (List.range cl.length).all (cladeP (allS n) cl) = true := by
    rw [List.all_eq_true]
    intro k hk
    have hk := List.mem_range.1 hk
    have hx := hin _ (List.getElem_mem hk)
    unfold cladeP
    rw [getD_of (List.getElem?_eq_getElem hk)]
    have hprev : k = 0 ∨ cl.getD ((k : Int) - 1).toNat 0 < cl[k] := by
      by_cases e : k = 0
      · exact .inl e
      · right
        rw [show ((k : Int) - 1).toNat = k - 1 by omega, getD_of (List.getElem?_eq_getElem (show k - 1 < cl.length by omega))]
        exact List.pairwise_iff_getElem.1 hup (k - 1) k _ hk (by omega)
    generalize cl.getD ((k : Int) - 1).toNat 0 = q at hprev ⊢
    simp only [Bool.not_eq_true', Bool.or_eq_false_iff, Bool.and_eq_false_iff, decide_eq_false_iff_not]
    refine ⟨⟨by omega, by omega⟩, ?_⟩
    omega
  unfold chkN
  rw [if_neg (by omega), if_neg (by simp; omega), if_neg (by rw [hP]; decide), if_neg, if_neg]
  · rw [List.any_eq_true]
    rintro ⟨c, hcm, h⟩
    exact hsp c hcm (by simpa using h)
  · simp only [Bool.and_eq_true, decide_eq_true_eq, not_and, Decidable.not_not]
    intro hn
    obtain ⟨k, hk⟩ := List.getElem?_of_mem (hall (by omega))
    obtain ⟨hkl, e⟩ := List.getElem?_eq_some_iff.1 hk
    have : k = ((n : Int) - 2).toNat := by
      by_cases h : k = ((n : Int) - 2).toNat
      · exact h
      · exfalso
        have hl : ((n : Int) - 2).toNat < cl.length := by omega
        have := List.pairwise_iff_getElem.1 hup k ((n : Int) - 2).toNat hkl hl (by omega)
        have := (hin _ (List.getElem_mem hl)).2
        omega
    rw [← this]
    exact getD_of hk
def clOf (T : Tr) : List Int := isoK (T.sets.map fun c : Nat => (c : Int))
theorem mem_clOf {T : Tr} {c : Int} : c ∈ clOf T ↔ ∃ k ∈ T.sets, c = (k : Int) := by
  unfold clOf
  rw [(iso_perm _).mem_iff, List.mem_map]
  constructor
  · rintro ⟨k, h, rfl⟩; exact ⟨k, h, rfl⟩
  · rintro ⟨k, h, rfl⟩; exact ⟨k, h, rfl⟩
theorem all_mask_tab : ((List.range 7).all fun n => n == 0 || ((allS (n : Int) == ((2 ^ n - 1 : Nat) : Int)) && (popF (allS (n : Int)) == n))) = true := by kernel_rfl
theorem all_mask {n : Nat} (h1 : 1 ≤ n) (h6 : n ≤ 6) : allS (n : Int) = ((2 ^ n - 1 : Nat) : Int) := by
  have h := List.all_eq_true.1 all_mask_tab n (List.mem_range.2 (by omega))
  rw [show (n == 0) = false by simp; omega, Bool.false_or, Bool.and_eq_true] at h
  exact eq_of_beq h.1
theorem sub_sets {n : Nat} {cl : List Int} : ∀ {T : Tr}, T.ok n → (∀ c ∈ T.sets, (c : Int) ∈ cl) → ∀ c ∈ T.sets, ∃ A B : Tr, (Tr.node A B).ok n ∧ (Tr.node A B).mask = c ∧ ∀ d ∈ (Tr.node A B).sets, (d : Int) ∈ cl
  | .leaf _, _, _, c, hc => by cases hc
  | .node a b, h, hs, c, hc => by
    rcases List.mem_cons.1 hc with rfl | hc
    · exact ⟨a, b, h, rfl, hs⟩
    · rcases List.mem_append.1 hc with hc | hc
      · exact sub_sets h.1 (fun d hd => hs d (List.mem_cons_of_mem _ (List.mem_append_left _ hd))) c hc
      · exact sub_sets h.2.1 (fun d hd => hs d (List.mem_cons_of_mem _ (List.mem_append_right _ hd))) c hc
theorem clOf_right {n : Nat} {T : Tr} (h1 : 1 ≤ n) (h6 : n ≤ 6) (hT : T.ok n) (hm : (T.mask : Int) = allS n) : chkN n (clOf T) = 0 := by
  obtain ⟨s1, s2, s3⟩ := sets_in h6 hT
  have hpop := (all_sub (n := n) h1 h6).2
  have hin : ∀ c ∈ T.sets, (c : Int) ∈ clOf T := fun c hc => mem_clOf.2 ⟨c, hc, rfl⟩
  have hnd : (clOf T).Nodup := by
    unfold clOf
    rw [(iso_perm _).nodup_iff]
    rw [List.nodup_iff_pairwise_ne] at s2 ⊢
    rw [List.pairwise_map]
    exact s2.imp fun h e => h (by omega)
  refine chk_of h1 h6 ?_ ?_ (fun c hc => ?_) (fun hn => ?_) (fun c hc => ?_)
  · unfold clOf
    rw [(iso_perm _).length_eq, List.length_map]
    rw [hm, hpop] at s1
    exact s1
  · have hle := iso_pair (T.sets.map fun c : Nat => (c : Int))
    rw [List.nodup_iff_pairwise_ne] at hnd
    exact (List.Pairwise.and hle hnd).imp fun h => by omega
  · obtain ⟨k, hk, rfl⟩ := mem_clOf.1 hc
    have := s3 k hk
    have := sub_le this.2
    omega
  · cases T with
    | leaf w =>
      exfalso
      have hw : w < n := hT
      have := (low_ok (s := 2 ^ w) Nat.one_le_two_pow (pow_sing (by omega)).2.2).2.2.2 (pow_sing (by omega)).1
      have e : (((Tr.leaf w).mask : Nat) : Int) = ((2 ^ w : Nat) : Int) := rfl
      rw [← hm, e, this.2] at hpop
      omega
    | node a b => rw [← hm]; exact hin _ (List.mem_cons_self ..)
  · obtain ⟨k, hk, rfl⟩ := mem_clOf.1 hc
    obtain ⟨A, B, g1, rfl, g2⟩ := sub_sets hT hin k hk
    have pa := mask_pos A
    have pb := mask_pos B
    have e : (((Tr.node A B).mask : Nat) : Int) = (A.mask : Int) + (B.mask : Int) := by show ((A.mask + B.mask : Nat) : Int) = _; omega
    rcases node_part h6 g1 g2 with h | h
    · exact split_find (a := (A.mask : Int)) (by omega) h
    · exact split_find (a := (B.mask : Int)) (by omega) h
/-- A tree within a right list costs what the list's tree costs. -/
theorem tree_same {n : Nat} {cl : List Int} (hc : chkN n cl = 0) {S : List Int} {u : Nat → Int} : ∀ (T : Tr), T.ok n → (∀ c ∈ T.sets, (c : Int) ∈ cl) → ∀ f, T.mask ≤ f → ∀ x, cT S u (treeT cl f (T.mask : Int)) x = cT S u T x
  | .leaf w, hT, _, f, hf, x => by
    have hw : w < n := hT
    have h6 := (chkN_ok hc).2.1
    obtain ⟨p1, p2, p3⟩ := pow_sing (w := w) (by omega)
    have : 1 ≤ 2 ^ w := Nat.one_le_two_pow
    have hf : 2 ^ w ≤ f := hf
    obtain ⟨f, rfl⟩ : ∃ g, f = g + 1 := ⟨f - 1, by omega⟩
    show cT S u (treeT cl (f + 1) ((2 ^ w : Nat) : Int)) x = _
    rw [treeT_1 p1, p2]
  | .node a b, hT, hs, f, hf, x => by
    have h6 := (chkN_ok hc).2.1
    have h6 : n ≤ 6 := by omega
    obtain ⟨ha, hb, hd⟩ := hT
    have pa := mask_pos a
    have pb := mask_pos b
    have hf : a.mask + b.mask ≤ f := hf
    obtain ⟨f, rfl⟩ : ∃ g, f = g + 1 := ⟨f - 1, by omega⟩
    have hin : ((a.mask + b.mask : Nat) : Int) ∈ cl := hs _ (List.mem_cons_self ..)
    have h1 := single_no hc hin
    have e : (((Tr.node a b).mask : Nat) : Int) = ((a.mask + b.mask : Nat) : Int) := rfl
    have hsa := fun c hcm => hs c (List.mem_cons_of_mem _ (List.mem_append_left b.sets hcm))
    have hsb := fun c hcm => hs c (List.mem_cons_of_mem _ (List.mem_append_right a.sets hcm))
    have iha := fun y => tree_same hc (S := S) (u := u) a ha hsa f (by omega) y
    have ihb := fun y => tree_same hc (S := S) (u := u) b hb hsb f (by omega) y
    rw [e, treeT_2 h1]
    rcases node_part h6 ⟨ha, hb, hd⟩ hs with h | h
    · rw [e] at h
      have hu := split_uniq hc hin h1 (by omega) h
      rw [← hu, show ((a.mask + b.mask : Nat) : Int) - (a.mask : Int) = (b.mask : Int) by omega]
      show bl S _ x + bl S _ x = bl S _ x + bl S _ x
      rw [bl_congr (fun _ => Iff.rfl) fun y _ => iha y, bl_congr (fun _ => Iff.rfl) fun y _ => ihb y]
    · rw [e] at h
      have hu := split_uniq hc hin h1 (by omega) h
      rw [← hu, show ((a.mask + b.mask : Nat) : Int) - (b.mask : Int) = (a.mask : Int) by omega]
      show bl S _ x + bl S _ x = bl S _ x + bl S _ x
      rw [bl_congr (fun _ => Iff.rfl) fun y _ => iha y, bl_congr (fun _ => Iff.rfl) fun y _ => ihb y, Int.add_comm]
theorem pT_congr {rows rows' : List (List Int)} {T T' : Tr} (hlen : (rows.getD 0 []).length = (rows'.getD 0 []).length) (h : ∀ l, l < (rows.getD 0 []).length → mn (statesF rows l) (cT (statesF rows l) (uF rows l) T) = mn (statesF rows' l) (cT (statesF rows' l) (uF rows' l) T')) : pT rows T = pT rows' T' := by
  have : ∀ k, k ≤ (rows.getD 0 []).length → pK rows T k = pK rows' T' k := by
    intro k
    induction k with
    | zero => intro _; rfl
    | succ k ih => intro hk; rw [pK_step, pK_step, ih (by omega), h k (by omega)]
  unfold pT
  rw [← hlen]
  exact this _ (Nat.le_refl _)
theorem price_clOf {rows : List (List Int)} {T : Tr} (h1 : 1 ≤ rows.length) (h6 : rows.length ≤ 6) (hT : T.ok rows.length) (hm : (T.mask : Int) = allS rows.length) : priceF rows (clOf T) = pT rows T := by
  have hc := clOf_right h1 h6 hT hm
  rw [price_tree hc]
  have hml := (mask_in h6 hT).1
  refine pT_congr rfl fun l _ => ?_
  have hne : statesF rows l ≠ [] := List.ne_nil_of_length_pos st_pos
  refine mn_congr hne (fun _ => Iff.rfl) fun y _ => ?_
  have := tree_same hc (S := statesF rows l) (u := uF rows l) T hT (fun c hcm => mem_clOf.2 ⟨c, hcm, rfl⟩) 64 (by omega) y
  rw [hm] at this
  exact this
end Go.Proofs.YtkpmnnflikkhmaaDoor
end
section
namespace Go.Proofs.YtkpmnnflikkhmaaDoor
open Go Go.Kn Go.Proofs
theorem which_at {z : Int} {n : Nat} (h : 0 ≤ z ∧ z ≤ 255) (hn : n ≠ 0) : ∃ w : Nat, (IntKind.i64.wrap z).tmod n = w ∧ w < n := by
  rw [show IntKind.i64.wrap z = z from wrap_in (by omega)]
  have h0 : (0 : Int) < (n : Int) := by omega
  have h1 := Int.tmod_nonneg (n : Int) h.1
  have h2 := Int.tmod_lt_of_pos z h0
  exact ⟨(z.tmod n).toNat, by omega, by omega⟩
end Go.Proofs.YtkpmnnflikkhmaaDoor
end
section
namespace Go.Proofs.YtkpmnnflikkhmaaDoor
open Go Go.Kn Go.Proofs
def colF (rows : List (List Int)) (l : Nat) : List Int := rows.map fun r => r.getD l 0
theorem st_col {rows rows' : List (List Int)} {l l' : Nat} (h : colF rows l = colF rows' l') : statesF rows l = statesF rows' l' := by
  show (colF rows l).foldl stS [0] = (colF rows' l').foldl stS [0]
  rw [h]
theorem get_col {rows : List (List Int)} {l w : Nat} : (rows.getD w []).getD l 0 = (colF rows l).getD w 0 := by
  unfold colF List.getD
  rw [List.getElem?_map]
  cases rows[w]? <;> rfl
theorem costs_col {rows rows' : List (List Int)} {cl : List Int} {l l' : Nat} (h : colF rows l = colF rows' l') : ∀ (f : Nat) (s : Int), costsF rows cl l f s = costsF rows' cl l' f s
  | 0, _ => rfl
  | f + 1, s => by
    cases hz : (andI s (IntKind.i64.wrap (s - 1)) == 0) with
    | true => rw [costs_leaf hz, costs_leaf hz, st_col h, get_col, get_col, h]
    | false => rw [costs_two hz, costs_two hz, st_col h, costs_col h f, costs_col h f]
theorem rows_of {rows : List (List Int)} {C : Nat} (h1 : 1 ≤ rows.length) (h6 : rows.length ≤ 6) (hC : C ≤ 64) (h : ∀ r ∈ rows, r.length = C ∧ ∀ v ∈ r, 0 ≤ v ∧ v ≤ 8589934592) : rowsN rows = 0 := by
  have h0 : (rows.getD 0 []).length = C := by
    unfold List.getD
    rw [List.getElem?_eq_getElem h1]
    exact (h _ (List.getElem_mem h1)).1
  unfold rowsN
  rw [if_neg, if_neg (by omega), if_neg]
  · rw [h0, List.any_eq_true]
    rintro ⟨r, hr, e⟩
    obtain ⟨e1, e2⟩ := h r hr
    unfold rowP at e
    rw [Bool.or_eq_true, decide_eq_true_eq, List.any_eq_true] at e
    rcases e with e | ⟨v, hv, e⟩
    · omega
    · have := e2 v hv
      unfold stateP at e
      simp at e; omega
  · rw [Bool.or_eq_true, decide_eq_true_eq, List.any_eq_true]
    rintro (e | ⟨r, hr, e⟩)
    · omega
    · have := (h r hr).1
      simp at e; omega
theorem first_len {rows : List (List Int)} {C : Nat} (h1 : 1 ≤ rows.length) (h : ∀ r ∈ rows, r.length = C) : (rows.getD 0 []).length = C := by
  unfold List.getD
  rw [List.getElem?_eq_getElem h1]
  exact h _ (List.getElem_mem h1)
section
variable {rows : List (List Int)} {k : Nat} (h : rowsN rows = 0) (hk : k ≤ (rows.getD 0 []).length)
include h hk
theorem take_rows : rowsN (rows.map (·.take k)) = 0 ∧ ((rows.map (·.take k)).getD 0 []).length = k := by
  obtain ⟨n1, n6, h64, hr⟩ := rows_ok h
  have hc : ∀ r ∈ rows.map (·.take k), r.length = k ∧ ∀ v ∈ r, 0 ≤ v ∧ v ≤ 8589934592 := fun r hm => by
    obtain ⟨q, hq, rfl⟩ := List.mem_map.1 hm
    obtain ⟨h1, h2⟩ := hr q hq
    exact ⟨by rw [List.length_take]; omega, fun v hv => h2 v (List.mem_of_mem_take hv)⟩
  exact ⟨rows_of (C := k) (by rw [List.length_map]; exact n1) (by rw [List.length_map]; exact n6) (by omega) hc, first_len (by rw [List.length_map]; exact n1) fun r hm => (hc r hm).1⟩
theorem drop_rows : rowsN (rows.map (·.drop k)) = 0 ∧ ((rows.map (·.drop k)).getD 0 []).length = (rows.getD 0 []).length - k := by
  obtain ⟨n1, n6, h64, hr⟩ := rows_ok h
  have hc : ∀ r ∈ rows.map (·.drop k), r.length = (rows.getD 0 []).length - k ∧ ∀ v ∈ r, 0 ≤ v ∧ v ≤ 8589934592 := fun r hm => by
    obtain ⟨q, hq, rfl⟩ := List.mem_map.1 hm
    obtain ⟨h1, h2⟩ := hr q hq
    exact ⟨by rw [List.length_drop]; omega, fun v hv => h2 v (List.mem_of_mem_drop hv)⟩
  exact ⟨rows_of (C := (rows.getD 0 []).length - k) (by rw [List.length_map]; exact n1) (by rw [List.length_map]; exact n6) (by omega) hc, first_len (by rw [List.length_map]; exact n1) fun r hm => (hc r hm).1⟩
theorem cut_price (cl : List Int) : priceF (rows.map (·.take k)) cl + priceF (rows.map (·.drop k)) cl = priceF rows cl := by
  obtain ⟨_, t2⟩ := take_rows h hk
  obtain ⟨_, d2⟩ := drop_rows h hk
  have e1 : ∀ j, j ≤ k → priceK (rows.map (·.take k)) cl j = priceK rows cl j := by
    intro j
    induction j with
    | zero => intro _; unfold priceK; simp
    | succ j ih =>
      intro hj
      rw [price_step, price_step, ih (by omega), List.length_map, costs_col (rows' := rows) (l' := j)]
      unfold colF
      rw [List.map_map]
      refine List.map_congr_left fun r _ => ?_
      show (r.take k).getD j 0 = r.getD j 0
      unfold List.getD
      rw [List.getElem?_take_of_lt (by omega)]
  have e2 : ∀ j, priceK rows cl k + priceK (rows.map (·.drop k)) cl j = priceK rows cl (k + j) := by
    intro j
    induction j with
    | zero => unfold priceK; simp
    | succ j ih =>
      rw [← Nat.add_assoc, price_step, price_step, ← ih, List.length_map, costs_col (rows' := rows) (l' := k + j)]
      · omega
      · unfold colF
        rw [List.map_map]
        refine List.map_congr_left fun r _ => ?_
        show (r.drop k).getD j 0 = r.getD (k + j) 0
        unfold List.getD
        rw [List.getElem?_drop]
  have u1 : priceF (rows.map (·.take k)) cl = priceK rows cl k := by unfold priceF; rw [t2, e1 k (Nat.le_refl _)]
  have u2 : priceF (rows.map (·.drop k)) cl = priceK (rows.map (·.drop k)) cl ((rows.getD 0 []).length - k) := by unfold priceF; rw [d2]
  rw [u1, u2, e2, show k + ((rows.getD 0 []).length - k) = (rows.getD 0 []).length by omega]; unfold priceF; rfl
theorem loci_cut {cl : List Int} (hc : costE rows cl = 0) : costE (rows.map (·.take k)) cl = 0 ∧ costE (rows.map (·.drop k)) cl = 0 ∧ costA (rows.map (·.take k)) cl + costA (rows.map (·.drop k)) cl = costA rows cl := by
  have hc0 : chkN rows.length cl = 0 := by unfold costE at hc; rw [if_neg (by omega)] at hc; exact hc
  obtain ⟨a1, a2⟩ := cost_3 (take_rows h hk).1 (by rw [List.length_map]; exact hc0)
  obtain ⟨b1, b2⟩ := cost_3 (drop_rows h hk).1 (by rw [List.length_map]; exact hc0)
  obtain ⟨_, c2⟩ := cost_3 h hc0
  exact ⟨a1, b1, by rw [a2, b2, c2]; exact cut_price h hk cl⟩
end
/-! ### Other numbers -/
def Tr.ren (π : Nat → Nat) : Tr → Tr
  | .leaf w => .leaf (π w)
  | .node a b => .node (a.ren π) (b.ren π)
def msk (π : Nat → Nat) (n c : Nat) : Nat := (List.range n).foldl (fun s w => if c.testBit w = true then s ||| 2 ^ π w else s) 0
theorem msk_step {π : Nat → Nat} {n c : Nat} : msk π (n + 1) c = if c.testBit n = true then msk π n c ||| 2 ^ π n else msk π n c := by unfold msk; rw [List.range_succ, List.foldl_append]; rfl
theorem msk_bit {π : Nat → Nat} {n c j : Nat} : (msk π n c).testBit j = true ↔ ∃ w, w < n ∧ c.testBit w = true ∧ π w = j := by
  induction n with
  | zero => unfold msk; simp
  | succ n ih =>
    rw [msk_step]
    by_cases h : c.testBit n = true
    · rw [if_pos h, Nat.testBit_or, Bool.or_eq_true, ih, Nat.testBit_two_pow, decide_eq_true_eq]
      constructor
      · rintro (⟨w, h1, h2⟩ | h1)
        · exact ⟨w, by omega, h2⟩
        · exact ⟨n, by omega, h, h1⟩
      · rintro ⟨w, h1, h2, h3⟩
        by_cases e : w = n
        · right; rw [← e]; exact h3
        · exact .inl ⟨w, by omega, h2, h3⟩
    · rw [if_neg h, ih]
      constructor
      · rintro ⟨w, h1, h2⟩; exact ⟨w, by omega, h2⟩
      · rintro ⟨w, h1, h2, h3⟩
        have : w ≠ n := fun e => h (e ▸ h2)
        exact ⟨w, by omega, h2, h3⟩
theorem dis_add {a b : Nat} (ha : a < 64) (hb : b < 64) (h : a &&& b = 0) : a + b = a ||| b := by
  have ht : ((List.range 64).all fun x => (List.range 64).all fun y => !(x &&& y == 0) || (x + y == (x ||| y))) = true := by kernel_rfl
  have h0 := List.all_eq_true.1 ht a (List.mem_range.2 ha)
  have h0 := List.all_eq_true.1 h0 b (List.mem_range.2 hb)
  rw [h] at h0
  simpa using h0
theorem bits_ext {a b : Nat} (h : ∀ j, a.testBit j = true ↔ b.testBit j = true) : a = b := Nat.eq_of_testBit_eq fun j => Bool.eq_iff_iff.2 (h j)
theorem cT_ren {S : List Int} {u : Nat → Int} {π : Nat → Nat} : ∀ (T : Tr) (x : Int), cT S u (T.ren π) x = cT S (fun w => u (π w)) T x
  | .leaf w, x => rfl
  | .node a b, x => by
    show bl S (cT S u (a.ren π)) x + bl S (cT S u (b.ren π)) x = bl S _ x + bl S _ x
    rw [bl_congr (fun _ => Iff.rfl) fun y _ => cT_ren a y, bl_congr (fun _ => Iff.rfl) fun y _ => cT_ren b y]
theorem has_lt {n w : Nat} : ∀ {T : Tr}, T.ok n → T.has w → w < n
  | .leaf v, h, e => by have e : v = w := e; have h : v < n := h; omega
  | .node a b, h, e => by rcases e with e | e; exact has_lt h.1 e; exact has_lt h.2.1 e
theorem sub_perm {α : Type} [BEq α] [LawfulBEq α] : ∀ {a b : List α}, a.Nodup → (∀ x ∈ a, x ∈ b) → a.length ≤ b.length ∧ (b.length ≤ a.length → a.Perm b)
  | [], b, _, _ => ⟨Nat.zero_le _, fun h => by rw [List.eq_nil_of_length_eq_zero (Nat.le_zero.1 h)]⟩
  | x :: a, b, hn, hs => by
    obtain ⟨h1, h2⟩ := List.nodup_cons.1 hn
    have hx := hs x (List.mem_cons_self ..)
    have hp := List.perm_cons_erase hx
    obtain ⟨i1, i2⟩ := sub_perm (a := a) (b := b.erase x) h2 fun y hy => (List.mem_erase_of_ne (by intro e; subst e; exact h1 hy)).2 (hs y (List.mem_cons_of_mem _ hy))
    have hl := hp.length_eq
    rw [List.length_cons] at hl
    refine ⟨by rw [List.length_cons]; omega, fun h => ?_⟩
    rw [List.length_cons] at h
    exact ((i2 (by omega)).cons x).trans hp.symm
section
variable {n : Nat} {π : Nat → Nat} (h6 : n ≤ 6) (hlt : ∀ w, w < n → π w < n) (hi : ∀ v w, v < n → w < n → π v = π w → v = w)
include h6 hlt hi
theorem ren_ok : ∀ {T : Tr}, T.ok n → (T.ren π).ok n ∧ (T.ren π).mask = msk π n T.mask ∧ (T.ren π).sets = T.sets.map (msk π n)
  | .leaf w, h => by
    have hw : w < n := h
    refine ⟨hlt w hw, ?_, rfl⟩
    refine bits_ext fun j => ?_
    rw [msk_bit]
    show (2 ^ π w).testBit j = true ↔ _
    rw [Nat.testBit_two_pow, decide_eq_true_eq]
    constructor
    · intro e; exact ⟨w, hw, by show (2 ^ w).testBit w = true; rw [Nat.testBit_two_pow]; simp, e⟩
    · rintro ⟨v, h1, h2, h3⟩
      have h2 : (2 ^ w).testBit v = true := h2
      rw [Nat.testBit_two_pow, decide_eq_true_eq] at h2
      rw [h2]; exact h3
  | .node a b, ⟨ha, hb, hd⟩ => by
    obtain ⟨a1, a2, a3⟩ := ren_ok ha
    obtain ⟨b1, b2, b3⟩ := ren_ok hb
    have hd' : (a.ren π).mask &&& (b.ren π).mask = 0 := by
      rw [a2, b2]
      refine bits_ext fun j => ?_
      rw [Nat.testBit_and, Bool.and_eq_true, msk_bit, msk_bit, Nat.zero_testBit]
      constructor
      · rintro ⟨⟨v, v1, v2, v3⟩, w, w1, w2, w3⟩
        have e := hi v w v1 w1 (by rw [v3, w3])
        subst e
        have : (a.mask &&& b.mask).testBit v = true := by rw [Nat.testBit_and, v2, w2]; rfl
        rw [hd, Nat.zero_testBit] at this
        cases this
      · intro h; cases h
    have hm : (a.ren π).mask + (b.ren π).mask = msk π n (a.mask + b.mask) := by
      rw [dis_add (mask_in h6 a1).1 (mask_in h6 b1).1 hd', dis_add (mask_in h6 ha).1 (mask_in h6 hb).1 hd, a2, b2]
      refine bits_ext fun j => ?_
      rw [Nat.testBit_or, Bool.or_eq_true, msk_bit, msk_bit, msk_bit]
      constructor
      · rintro (⟨w, w1, w2, w3⟩ | ⟨w, w1, w2, w3⟩)
        · exact ⟨w, w1, by rw [Nat.testBit_or, w2]; rfl, w3⟩
        · exact ⟨w, w1, by rw [Nat.testBit_or, w2, Bool.or_true], w3⟩
      · rintro ⟨w, w1, w2, w3⟩
        rw [Nat.testBit_or, Bool.or_eq_true] at w2
        rcases w2 with w2 | w2
        · exact .inl ⟨w, w1, w2, w3⟩
        · exact .inr ⟨w, w1, w2, w3⟩
    refine ⟨⟨a1, b1, hd'⟩, hm, ?_⟩
    show ((a.ren π).mask + (b.ren π).mask) :: ((a.ren π).sets ++ (b.ren π).sets) = ((a.mask + b.mask) :: (a.sets ++ b.sets)).map (msk π n)
    rw [hm, a3, b3, List.map_cons, List.map_append]
end
theorem tree_sets {n : Nat} {cl : List Int} (hc : chkN n cl = 0) {T : Tr} (hT : T.ok n) (hm : (T.mask : Int) = allS n) (hs : ∀ c ∈ T.sets, (c : Int) ∈ cl) : (T.sets.map fun c : Nat => (c : Int)).Perm cl := by
  obtain ⟨n1, n6, h3, _⟩ := chkN_ok hc
  obtain ⟨s1, s2, s3⟩ := sets_in (by omega) hT
  have hpop := (all_sub (n := n) (by omega) (by omega)).2
  rw [hm, hpop] at s1
  refine (sub_perm ?_ fun x hx => ?_).2 ?_
  · rw [List.nodup_iff_pairwise_ne] at s2 ⊢
    rw [List.pairwise_map]
    exact s2.imp fun h e => h (by omega)
  · obtain ⟨c, h1, rfl⟩ := List.mem_map.1 hx
    exact hs c h1
  · rw [List.length_map]; omega
theorem perm_cost {rows other : List (List Int)} {cl sets : List Int} {nm : List Nat} (hr : rowsN rows = 0) (hc : chkN rows.length cl = 0) (hnm : nm.Perm (List.range rows.length)) (hlen : other.length = rows.length) (ho : ∀ w, w < rows.length → other.getD (nm.getD w 0) [] = rows.getD w []) (hs : sets.Pairwise (· ≤ ·)) (hp : sets.Perm (cl.map fun c => ((msk (fun w => nm.getD w 0) rows.length c.toNat : Nat) : Int))) : costE other sets = 0 ∧ costA other sets = costA rows cl := by
  obtain ⟨n1, n6, h64, hrs⟩ := rows_ok hr
  have hln : nm.length = rows.length := by rw [hnm.length_eq, List.length_range]
  have hat : ∀ w, (h : w < rows.length) → nm.getD w 0 = nm[w]'(by omega) := fun w h => getD_of (List.getElem?_eq_getElem (by omega))
  have hlt : ∀ w, w < rows.length → nm.getD w 0 < rows.length := fun w h => by
    rw [hat w h]; exact List.mem_range.1 (hnm.mem_iff.1 (List.getElem_mem _))
  have hnd : nm.Nodup := hnm.nodup_iff.2 List.nodup_range
  have hi : ∀ v w, v < rows.length → w < rows.length → nm.getD v 0 = nm.getD w 0 → v = w := fun v w hv hw e => by
    rw [hat v hv, hat w hw] at e
    have hpw := List.pairwise_iff_getElem.1 (List.nodup_iff_pairwise_ne.1 hnd)
    rcases Nat.lt_trichotomy v w with h | h | h
    · exact absurd e (hpw v w (by omega) (by omega) h)
    · exact h
    · exact absurd e.symm (hpw w v (by omega) (by omega) h)
  have hsur : ∀ j, j < rows.length → ∃ w, w < rows.length ∧ nm.getD w 0 = j := fun j hj => by
    obtain ⟨w, hw, e⟩ := List.getElem_of_mem (hnm.mem_iff.2 (List.mem_range.2 hj))
    exact ⟨w, by omega, by rw [hat w (by omega)]; exact e⟩
  generalize hπ : (fun w => nm.getD w 0) = π at hp
  have eπ : ∀ w, nm.getD w 0 = π w := fun w => by rw [← hπ]
  simp only [eπ] at hlt hi hsur ho
  have hin : ∀ j, j < rows.length → ∃ w, w < rows.length ∧ other.getD j [] = rows.getD w [] := fun j hj => by
    obtain ⟨w, h1, h2⟩ := hsur j hj
    exact ⟨w, h1, by rw [← h2]; exact ho w h1⟩
  have hmem : ∀ {rs : List (List Int)} {w : Nat}, w < rs.length → rs.getD w [] ∈ rs := fun {rs w} h => by
    unfold List.getD; rw [List.getElem?_eq_getElem h]; exact List.getElem_mem h
  have hsub : ∀ r, r ∈ other ↔ r ∈ rows := fun r => by
    constructor
    · intro h
      obtain ⟨j, hj, rfl⟩ := List.getElem_of_mem h
      obtain ⟨w, h1, h2⟩ := hin j (by omega)
      have : other.getD j [] = other[j] := getD_of (List.getElem?_eq_getElem hj)
      rw [← this, h2]; exact hmem h1
    · intro h
      obtain ⟨w, hw, rfl⟩ := List.getElem_of_mem h
      have : rows.getD w [] = rows[w] := getD_of (List.getElem?_eq_getElem hw)
      rw [← this, ← ho w hw]
      exact hmem (by rw [hlen]; exact hlt w hw)
  have hro : rowsN other = 0 := rows_of (C := (rows.getD 0 []).length) (by omega) (by omega) h64 fun r h => hrs r ((hsub r).1 h)
  have hlo : (other.getD 0 []).length = (rows.getD 0 []).length := first_len (by omega) fun r h => (hrs r ((hsub r).1 h)).1
  have hal := all_mask (n := rows.length) (by omega) (by omega)
  have hp64 : 2 ^ rows.length ≤ 2 ^ 6 := Nat.pow_le_pow_right (by decide) (by omega)
  obtain ⟨t1, t2, t3⟩ := treeT_ok hc 64 (allS rows.length) (by omega) (ok_all hc)
  have hprice := price_tree hc
  generalize treeT cl 64 (allS rows.length) = T at t1 t2 t3 hprice
  rw [hal, Int.toNat_natCast] at t2
  obtain ⟨r1, r2, r3⟩ := ren_ok n6 hlt hi t1
  have p1 : 1 ≤ 2 ^ rows.length := Nat.one_le_two_pow
  have hfull : (T.ren π).mask = 2 ^ rows.length - 1 := by
    rw [r2, t2]
    refine bits_ext fun j => ?_
    rw [msk_bit, Nat.testBit_two_pow_sub_one, decide_eq_true_eq]
    constructor
    · rintro ⟨w, h1, h2, h3⟩; rw [← h3]; exact hlt w h1
    · intro h
      obtain ⟨w, h1, h2⟩ := hsur j h
      exact ⟨w, h1, by rw [Nat.testBit_two_pow_sub_one, decide_eq_true_eq]; exact h1, h2⟩
  have hm : ((T.ren π).mask : Int) = allS other.length := by rw [hlen, hal, hfull]
  have hm0 : (T.mask : Int) = allS rows.length := by rw [hal, t2]
  have hpc := tree_sets hc t1 hm0 t3
  rw [← hlen] at r1
  have hset : sets = clOf (T.ren π) := by
    refine List.Perm.eq_of_pairwise (le := (· ≤ ·)) (fun a b _ _ h1 h2 => by omega) hs (iso_pair _) ?_
    refine hp.trans (((hpc.symm.map _).trans ?_).trans (iso_perm _).symm)
    rw [r3, List.map_map, List.map_map]
    refine List.Perm.of_eq (List.map_congr_left fun c _ => ?_)
    simp
  have hcr := clOf_right (n := other.length) (by omega) (by omega) r1 hm
  rw [← hset] at hcr
  obtain ⟨a1, a2⟩ := cost_3 hro hcr
  obtain ⟨_, b2⟩ := cost_3 hr hc
  refine ⟨a1, ?_⟩
  rw [a2, b2, hset, price_clOf (by omega) (by omega) r1 hm, hprice]
  refine pT_congr hlo fun l _ => ?_
  have hne : statesF other l ≠ [] := List.ne_nil_of_length_pos st_pos
  have hS : ∀ y, y ∈ statesF other l ↔ y ∈ statesF rows l := fun y => by
    rw [st_mem, st_mem]
    constructor
    · rintro (h | ⟨⟨r, h1, h2⟩, h3⟩)
      · exact .inl h
      · exact .inr ⟨⟨r, (hsub r).1 h1, h2⟩, h3⟩
    · rintro (h | ⟨⟨r, h1, h2⟩, h3⟩)
      · exact .inl h
      · exact .inr ⟨⟨r, (hsub r).2 h1, h2⟩, h3⟩
  refine mn_congr hne hS fun y _ => ?_
  rw [cT_ren]
  refine cT_congr hS T y fun w hw => ?_
  show (other.getD (π w) []).getD l 0 = (rows.getD w []).getD l 0
  rw [ho w (has_lt t1 hw)]
end Go.Proofs.YtkpmnnflikkhmaaDoor
end
section
namespace Go.Proofs.YtkpmnnflikkhmaaDoor
open Go Go.Kn Go.Proofs
def encU (n : Int) : List Value := [.int .u8 n]
theorem encU_len (x : Int) : (encU x).length = 1 := rfl
def hL (K : Nat) (h : Hd) : Hd := ⟨h.a, K, h.c⟩
def hR (K : Nat) (h : Hd) : Hd := ⟨sub2 h.a h.c K 1, h.n - K, h.c - K⟩
theorem map_next {α β : Type} {f : α → β} {xs : List α} {i : Nat} {x : α} (h : xs[i]? = some x) : (xs.take (i + 1)).map f = (xs.take i).map f ++ [f x] := by
  rw [List.take_add_one, h, List.map_append]; rfl
theorem SlH.cutL {I I' : HMap} {av a' : Option Addr} {n c c' : Nat} {hs : List Hd} {rows : List (List Int)} (h : SlH I av n c hs rows) {K : Nat} (hK : ∀ r ∈ rows, K ≤ r.length) (hI : HLe I I') (hA : Sl I' 1 encH a' n c' (hs.map (hL K))) : SlN I' a' n c' (rows.map (·.take K)) := by
  refine ⟨_, hA, by rw [List.length_map, List.length_map]; exact h.2.1, fun k x v h1 h2 => ?_⟩
  rw [List.getElem?_map, Option.map_eq_some_iff] at h1 h2
  obtain ⟨x', e1, rfl⟩ := h1
  obtain ⟨v', e2, rfl⟩ := h2
  have hq := h.2.2 k x' v' e1 e2
  have := hK v' (List.mem_of_getElem? e2)
  exact (hq.take (k := K) (by rw [← hq.len]; exact this)).mono hI
theorem SlH.cutR {I I' : HMap} {av a' : Option Addr} {n c c' : Nat} {hs : List Hd} {rows : List (List Int)} (h : SlH I av n c hs rows) {K : Nat} (hK : ∀ r ∈ rows, K ≤ r.length) (hI : HLe I I') (hA : Sl I' 1 encH a' n c' (hs.map (hR K))) : SlN I' a' n c' (rows.map (·.drop K)) := by
  refine ⟨_, hA, by rw [List.length_map, List.length_map]; exact h.2.1, fun k x v h1 h2 => ?_⟩
  rw [List.getElem?_map, Option.map_eq_some_iff] at h1 h2
  obtain ⟨x', e1, rfl⟩ := h1
  obtain ⟨v', e2, rfl⟩ := h2
  have hq := h.2.2 k x' v' e1 e2
  have := hK v' (List.mem_of_getElem? e2)
  exact (hq.drop (k := K) (by rw [← hq.len]; exact this)).mono hI
/-! ### Names -/
def idsL (n : Nat) : List Int := (List.range n).map fun j : Nat => (j : Int)
theorem ids_len {n : Nat} : (idsL n).length = n := by unfold idsL; rw [List.length_map, List.length_range]
theorem ids_at {n j : Nat} (h : j < n) : (idsL n)[j]? = some (j : Int) := by unfold idsL; rw [List.getElem?_map, List.getElem?_range h]; rfl
theorem swap_perm {xs : List Int} {i j : Nat} {x y : Int} (hx : xs[i]? = some x) (hy : xs[j]? = some y) : ((xs.set i y).set j x).Perm xs := by
  obtain ⟨h1, rfl⟩ := List.getElem?_eq_some_iff.1 hx
  obtain ⟨h2, rfl⟩ := List.getElem?_eq_some_iff.1 hy
  exact List.set_set_perm h1 h2
theorem ids_in {nm : List Int} {n w : Nat} {x : Int} (h : nm.Perm (idsL n)) (hx : nm[w]? = some x) : 0 ≤ x ∧ x < n := by
  have := h.mem_iff.1 (List.mem_of_getElem? hx)
  unfold idsL at this
  obtain ⟨j, h1, rfl⟩ := List.mem_map.1 this
  have := List.mem_range.1 h1
  omega
theorem ids_nd {n : Nat} : (idsL n).Nodup := by
  unfold idsL
  rw [List.nodup_iff_pairwise_ne, List.pairwise_map]
  exact (List.nodup_iff_pairwise_ne.1 List.nodup_range).imp fun h e => h (by omega)
theorem ids_inj {nm : List Int} {n v w : Nat} {x : Int} (h : nm.Perm (idsL n)) (hv : nm[v]? = some x) (hw : nm[w]? = some x) : v = w := by
  have hnd := List.pairwise_iff_getElem.1 (List.nodup_iff_pairwise_ne.1 (h.nodup_iff.2 ids_nd))
  obtain ⟨h1, e1⟩ := List.getElem?_eq_some_iff.1 hv
  obtain ⟨h2, e2⟩ := List.getElem?_eq_some_iff.1 hw
  rcases Nat.lt_trichotomy v w with h | h | h
  · exact absurd (e1.trans e2.symm) (hnd v w h1 h2 h)
  · exact h
  · exact absurd (e2.trans e1.symm) (hnd w v h2 h1 h)
theorem ids_sur {nm : List Int} {n j : Nat} (h : nm.Perm (idsL n)) (hj : j < n) : ∃ w, w < n ∧ nm[w]? = some (j : Int) := by
  have : (j : Int) ∈ nm := h.mem_iff.2 (by unfold idsL; exact List.mem_map.2 ⟨j, List.mem_range.2 hj, rfl⟩)
  obtain ⟨w, hw, e⟩ := List.getElem_of_mem this
  have hl := h.length_eq
  rw [ids_len] at hl
  exact ⟨w, by omega, by rw [List.getElem?_eq_getElem hw, e]⟩
def natL (nm : List Int) : List Nat := nm.map Int.toNat
theorem nat_perm {nm : List Int} {n : Nat} (h : nm.Perm (idsL n)) : (natL nm).Perm (List.range n) := by
  have := h.map Int.toNat
  unfold idsL at this
  rw [List.map_map] at this
  have e : (Int.toNat ∘ fun j : Nat => (j : Int)) = id := by funext j; simp
  rw [e, List.map_id] at this
  exact this
theorem nat_at {nm : List Int} {w : Nat} {x : Int} (h : nm[w]? = some x) : (natL nm).getD w 0 = x.toNat := by
  unfold natL; exact getD_of (by rw [List.getElem?_map, h]; rfl)
theorem cellI_at {I : HMap} {b t k : Nat} {nm : List Int} {x : Int} {l : Go.Kn.Loc} (h : nm[k]? = some x) : Cell I ((b, .cells (cellsI nm) t (0, 0)) :: l) b (k * 1) (.int .i64 x) := by
  refine .here ?_
  rw [lget_eq]
  unfold cellsI
  rw [cellsI_eq, Nat.mul_one]
  simp [h]
theorem ids_fil {n : Nat} : filK (idsL n) id n = idsL n := by
  rw [fil_all (by rw [ids_len]; exact Nat.le_refl _)]; simp
/-! ### Rows in another order -/
def cellsH (hs : List Hd) : Array Value := (hs.flatMap encH).toArray
theorem flat_H1 (hs : List Hd) : hs.flatMap encH = hs.map fun h => Value.slice h.a h.n h.c := by
  induction hs with
  | nil => rfl
  | cons b hs ih => rw [List.flatMap_cons, ih]; rfl
theorem cellsH_set {hs : List Hd} {m : Nat} {a : Option Addr} {n c : Nat} : (cellsH hs).setIfInBounds (m * 1) (.slice a n c) = cellsH (hs.set m ⟨a, n, c⟩) := by
  unfold cellsH
  rw [flat_H1, flat_H1, Nat.mul_one]; simp
theorem bltH {hs : List Hd} {m : Nat} (h : m < hs.length) : Nat.blt (m * 1) (cellsH hs).size = true := by
  unfold cellsH
  rw [flat_H1, Nat.mul_one]
  simpa [Nat.blt_eq] using h
theorem cellsH_new (n : Nat) : (List.replicate n (Value.slice none 0 0)).toArray = cellsH (List.replicate n ⟨none, 0, 0⟩) := by
  unfold cellsH; rw [flat_H1]; simp
def PutQ (hs : List Hd) (nm : List Int) (i : Nat) (hl : List Hd) : Prop := hl.length = hs.length ∧ ∀ w h v, w < i → hs[w]? = some h → nm[w]? = some v → hl[v.toNat]? = some h
theorem put_0 {hs : List Hd} {nm : List Int} {n : Nat} (h : hs.length = n) : PutQ hs nm 0 (List.replicate n ⟨none, 0, 0⟩) := ⟨by rw [List.length_replicate, h], fun w _ _ h => by omega⟩
theorem put_1 {hs hl : List Hd} {nm : List Int} {i n : Nat} {h : Hd} {x : Int} (hp : PutQ hs nm i hl) (hnm : nm.Perm (idsL n)) (hn : hs.length = n) (hh : hs[i]? = some h) (hx : nm[i]? = some x) : PutQ hs nm (i + 1) (hl.set x.toNat h) := by
  obtain ⟨p1, p2⟩ := hp
  have hb := ids_in hnm hx
  refine ⟨by rw [List.length_set, p1], fun w h' v hw e1 e2 => ?_⟩
  by_cases e : w = i
  · subst e
    rw [hh] at e1; rw [hx] at e2
    cases e1; cases e2
    rw [List.getElem?_set_self (by omega)]
  · have hne : x.toNat ≠ v.toNat := fun e3 => e (ids_inj hnm e2 (by rw [hx]; have := ids_in hnm e2; congr 1; omega))
    rw [List.getElem?_set_ne hne]
    exact p2 w h' v (by omega) e1 e2
theorem other_ok {I I' : HMap} {av a : Option Addr} {n c c' : Nat} {hs hl : List Hd} {rows : List (List Int)} {nm : List Int} (hV : SlH I av n c hs rows) (hnm : nm.Perm (idsL n)) (hp : PutQ hs nm n hl) (hI : HLe I I') (hA : Sl I' 1 encH a n c' hl) : ∃ other, SlN I' a n c' other ∧ other.length = n ∧ ∀ w, w < n → other.getD ((natL nm).getD w 0) [] = rows.getD w [] := by
  have hlr := hV.len
  have hlh := hV.2.1
  have key : ∀ w x, w < n → nm[w]? = some x → ((List.range n).map fun j : Nat => rows.getD (nm.findIdx (fun y => y == (j : Int))) [])[x.toNat]? = some (rows.getD w []) := fun w x hw hx => by
    have hb := ids_in hnm hx
    rw [List.getElem?_map, List.getElem?_range (by omega), Option.map_some]
    congr 2
    have hl1 : nm.findIdx (fun y => y == ((x.toNat : Nat) : Int)) < nm.length := List.findIdx_lt_length_of_exists ⟨x, List.mem_of_getElem? hx, by simp; omega⟩
    have h2 := List.findIdx_getElem (w := hl1)
    have h3 : nm[nm.findIdx (fun y => y == ((x.toNat : Nat) : Int))] = x := by
      have := eq_of_beq h2
      omega
    exact ids_inj hnm (by rw [List.getElem?_eq_getElem hl1, h3]) hx
  refine ⟨(List.range n).map fun j : Nat => rows.getD (nm.findIdx (fun y => y == (j : Int))) [], ⟨hl, hA, ?_, fun k h v e1 e2 => ?_⟩, by rw [List.length_map, List.length_range], fun w hw => ?_⟩
  · rw [List.length_map, List.length_range, hp.1]; omega
  · have hk : k < n := by have := (List.getElem?_eq_some_iff.1 e2).1; rw [List.length_map, List.length_range] at this; exact this
    obtain ⟨w, hw, hx⟩ := ids_sur hnm hk
    have e3 := key w _ hw hx
    rw [Int.toNat_natCast, e2] at e3
    have e4 : hs[w]? = some (hs[w]'(by omega)) := List.getElem?_eq_getElem _
    have e5 := hp.2 w _ _ hw e4 hx
    rw [Int.toNat_natCast, e1] at e5
    cases e3; cases e5
    have e6 : rows[w]? = some (rows.getD w []) := some_getD (d := []) rfl (by omega)
    exact (hV.2.2 w _ _ e4 e6).mono hI
  · have hl := hnm.length_eq
    rw [ids_len] at hl
    have hx : nm[w]? = some (nm[w]'(by omega)) := List.getElem?_eq_getElem _
    rw [nat_at hx]
    exact getD_of (key w _ hw hx)
/-! ### Sets -/
theorem bit_tab : ((List.range 64).all fun c => (List.range 6).all fun w => (andI ((c : Int).fdiv (2 ^ (min ((w : Nat) : Int).toNat IntKind.i64.bits))) 1 == 1) == c.testBit w) = true := by kernel_rfl
theorem bit_at {c : Int} {w : Nat} (hc : 1 ≤ c ∧ c ≤ 63) (hw : w < 6) : (andI (c.fdiv (2 ^ (min ((w : Nat) : Int).toNat IntKind.i64.bits))) 1 == 1) = c.toNat.testBit w := by
  have h := List.all_eq_true.1 bit_tab c.toNat (List.mem_range.2 (by omega))
  have h := List.all_eq_true.1 h w (List.mem_range.2 hw)
  rw [show ((c.toNat : Nat) : Int) = c by omega] at h
  exact eq_of_beq h
theorem or_tab : ((List.range 64).all fun m => (List.range 6).all fun v => orI (m : Int) (IntKind.i64.wrap (1 * 2 ^ (min v IntKind.i64.bits))) == ((m ||| 2 ^ v : Nat) : Int)) = true := by kernel_rfl
theorem or_at {m : Nat} {x : Int} (hm : m < 64) (hx : 0 ≤ x ∧ x < 6) : orI (m : Int) (IntKind.i64.wrap (1 * 2 ^ (min x.toNat IntKind.i64.bits))) = ((m ||| 2 ^ x.toNat : Nat) : Int) := by
  have h := List.all_eq_true.1 or_tab m (List.mem_range.2 hm)
  have h := List.all_eq_true.1 h x.toNat (List.mem_range.2 (by omega))
  exact eq_of_beq h
def nmP (nm : List Int) (w : Nat) : Nat := (natL nm).getD w 0
def mskI (nm : List Int) (n : Nat) (c : Int) : Int := ((msk (nmP nm) n c.toNat : Nat) : Int)
theorem msk_lt {nm : List Int} {n c : Nat} (hnm : nm.Perm (idsL n)) (h6 : n ≤ 6) : ∀ w, w ≤ n → msk (nmP nm) w c < 64
  | 0, _ => by unfold msk; simp
  | w + 1, hw => by
    have ih := msk_lt (c := c) hnm h6 w (by omega)
    rw [msk_step]
    split
    · have hl := hnm.length_eq
      rw [ids_len] at hl
      have hx : nm[w]? = some (nm[w]'(by omega)) := List.getElem?_eq_getElem _
      have hb := ids_in hnm hx
      have e : nmP nm w = (nm[w]'(by omega)).toNat := nat_at hx
      have h2 : 2 ^ nmP nm w < 2 ^ 6 := Nat.pow_lt_pow_right (by decide) (by omega)
      exact Nat.or_lt_two_pow (n := 6) ih h2
    · exact ih
theorem ins_ok {zs : List Int} {m : Int} {k : Nat} (hz : zs.Pairwise (· ≤ ·)) (h1 : ∀ y ∈ zs.take k, y < m) (h2 : ∀ y, zs[k]? = some y → m ≤ y) : (zs.take k ++ ([m] ++ zs.drop k)).Pairwise (· ≤ ·) ∧ (zs.take k ++ ([m] ++ zs.drop k)).Perm (m :: zs) := by
  constructor
  · have hz' := hz
    rw [← List.take_append_drop k zs, List.pairwise_append] at hz'
    obtain ⟨a1, a2, a3⟩ := hz'
    have hd : ∀ y ∈ zs.drop k, m ≤ y := fun y hy => by
      cases hk : zs[k]? with
      | none => rw [List.drop_eq_nil_of_le (List.getElem?_eq_none_iff.1 hk)] at hy; cases hy
      | some q =>
        have := h2 q hk
        rw [drop_cons hk] at hy a2
        rcases List.mem_cons.1 hy with rfl | hy
        · exact this
        · have := (List.pairwise_cons.1 a2).1 y hy
          omega
    rw [List.pairwise_append]
    refine ⟨a1, List.pairwise_cons.2 ⟨hd, a2⟩, fun x hx y hy => ?_⟩
    rcases List.mem_cons.1 hy with rfl | hy
    · have := h1 x hx; omega
    · exact a3 x hx y hy
  · have h := List.perm_middle (a := m) (l₁ := zs.take k) (l₂ := zs.drop k)
    rw [List.take_append_drop] at h
    exact h
theorem chk_mem {n : Nat} {cl : List Int} (hc : chkN n cl = 0) {c : Int} (h : c ∈ cl) : 1 ≤ c ∧ c ≤ 63 := ok_le hc (ok_of hc h)
theorem not_lt_at {zs : List Int} {zn q : Nat} {m : Int} (hl : zs.length = zn) (h : (decide ((q : Int) < (zn : Int)) && decide (zs.getD q 0 < m)) = false) : ∀ y, zs[q]? = some y → m ≤ y := fun y h9 => by
  have h1 := (List.getElem?_eq_some_iff.1 h9).1
  rw [getD_of h9, decide_eq_true (show (q : Int) < (zn : Int) by omega), Bool.true_and] at h
  have := of_decide_eq_false h
  omega
theorem cost_nn {rows : List (List Int)} {cl : List Int} : 0 ≤ costA rows cl := by
  unfold costA
  split
  · exact Int.le_refl _
  · exact price_pos fun _ => trivial
theorem cost_le {rows : List (List Int)} {cl : List Int} (h : rowsN rows = 0) : costA rows cl ≤ 70368744177664 := by
  obtain ⟨n1, n6, h64, _⟩ := rows_ok h
  have : ∀ k, priceK rows cl k ≤ k * 1099511627776 := by
    intro k
    induction k with
    | zero => unfold priceK; simp
    | succ k ih =>
      rw [price_step]
      have hl : (costsF rows cl k 64 (allS rows.length)).length = (statesF rows k).length := costs_len
      have hsp := st_pos (rows := rows) (l := k)
      have := (minK_in (cs := costsF rows cl k 64 (allS rows.length)) (costs_in _ _) (by omega) (costsF rows cl k 64 (allS rows.length)).length).2
      have h9 : leastF (costsF rows cl k 64 (allS rows.length)) ≤ 1099511627776 := this
      omega
  unfold costA
  split
  · decide
  · have := this (rows.getD 0 []).length
    show priceK rows cl (rows.getD 0 []).length ≤ _
    omega
theorem loci_end {rows other : List (List Int)} {cl zs nm : List Int} (hr : rowsN rows = 0) (hc : costE rows cl = 0) (hnm : nm.Perm (idsL rows.length)) (hlen : other.length = rows.length) (ho : ∀ w, w < rows.length → other.getD ((natL nm).getD w 0) [] = rows.getD w []) (hz : zs.Pairwise (· ≤ ·)) (hp : zs.Perm (cl.map (mskI nm rows.length))) : (costE other zs == 0 && costA other zs == costA rows cl) = true := by
  have hc0 : chkN rows.length cl = 0 := by unfold costE at hc; rw [if_neg (by omega)] at hc; exact hc
  obtain ⟨e1, e2⟩ := perm_cost hr hc0 (nat_perm hnm) hlen ho hz hp
  rw [e1, e2]; simp
end Go.Proofs.YtkpmnnflikkhmaaDoor
end
section
namespace Go.Proofs.YtkpmnnflikkhmaaDoor
open Go Go.Kn Go.Proofs
theorem mkt_28 : MkT Tryd.prog 28 22 24 (.slice none 0 0) := ⟨by kernel_rfl, by kernel_rfl, rfl⟩
theorem slt_45 : SlT Tryd.prog 45 5 1 := .of (by kernel_rfl)
theorem tmod_at (k : Nat) {n : Nat} (hn : n ≠ 0) : ∃ P : Nat, ((k : Nat) : Int).tmod (n : Int) = P ∧ P < n := ⟨k % n, rfl, Nat.mod_lt _ (by omega)⟩
set_option maxHeartbeats 1600000 in
theorem w_lociLaw {I : HMap} {av : Option Addr} {n c : Nat} {xs : List Int} (hS : Sl I 1 encI av n c xs) {bv : Option Addr} {n2 c2 : Nat} {rows : List (List Int)} (hVn : SlN I bv n2 c2 rows) (hbg : n2 ≤ 9223372036854775807) (hDb : DebOK I) {z : Int} (hz : 0 ≤ z ∧ z ≤ 255) {dv : Option Addr} {n3 c3 : Nat} {sw : List Int} (hDs : Sl I 1 encU dv n3 c3 sw) (hsw : ∀ y ∈ sw, 0 ≤ y ∧ y ≤ 255) : RetV Tryd.prog 8 [.slice bv n2 c2, .slice av n c, .int .u8 z, .slice dv n3 c3] I (.bool true) := by
  intro g H w hw
  refine enter Tryd.func8 rfl Tryd.ntmps8 rfl hw ?_
  have hIc := HLe.refl I
  have hVn9 := hVn
  obtain ⟨hs, hV⟩ := hVn9
  have hH := hV.1
  have hlV := hV.len
  refine X_seq ?_
  refine X_region ?_
  refine XO_v0 (ev_assign rfl) rfl rfl rfl ?_
  refine XO_nil ?_
  refine at_then ?_
  refine X_seq ?_
  refine X_seq ?_
  refine X_region ?_
  refine XO_callV0 (cap := []) (vs := []) rfl rfl fun_10 (w_sane hDb) rfl rfl ?_
  refine XO_v0 (ev_not rfl) rfl rfl rfl ?_
  refine XO_nil ?_
  refine at_then ?_
  refine X_cond rfl (fun hc38 => ?_) (fun hc38 => ?_)
  · skip
    cases hc38
  · skip
    refine X_skip ?_
    refine at_then ?_
    refine X_seq ?_
    refine X_seq ?_
    refine X_region ?_
    refine XO_v0 (ev_move rfl) rfl rfl rfl ?_
    refine XO_callV0 (cap := []) (vs := [_, _]) rfl rfl fun_23 (w_small hVn hbg 12) rfl rfl ?_
    refine XO_v0 (ev_not rfl) rfl rfl rfl ?_
    refine XO_v0 (ev_move rfl) rfl rfl rfl ?_
    refine XO_pushF 3 rfl rfl rfl ?_
    refine XO_v1 (ev_move rfl) (.some rfl rfl rfl rfl gbf) rfl rfl rfl ?_
    refine XO_v1 (ev_lenS rfl slt_22) (.some rfl rfl rfl rfl gbf) rfl rfl rfl ?_
    refine XO_v1 (ev_cmp rfl rfl rfl) (.some rfl rfl rfl rfl gbf) rfl rfl rfl ?_
    refine XO_or0 rfl rfl rfl rfl rfl ?_
    refine XO_v0 (ev_move rfl) rfl rfl rfl ?_
    refine XO_pushF 8 rfl rfl rfl ?_
    refine XO_v1 (ev_move rfl) (.some rfl rfl rfl rfl gbf) rfl rfl rfl ?_
    refine XO_v1 (ev_lenS rfl slt_45) (.some rfl rfl rfl rfl gbf) rfl rfl rfl ?_
    refine XO_v1 (ev_cmp rfl rfl rfl) (.some rfl rfl rfl rfl gbf) rfl rfl rfl ?_
    refine XO_or0 rfl rfl rfl rfl rfl ?_
    refine XO_nil ?_
    refine at_then ?_
    refine X_cond rfl (fun hc51 => ?_) (fun hc51 => ?_)
    · skip
      refine X_seq ?_
      refine X_region ?_
      refine XO_v0 (ev_assign rfl) rfl rfl rfl ?_
      refine XO_nil ?_
      refine at_then ?_
      refine X_ret ?_
      refine at_then_r ?_
      first
      | exact at_ret1 rfl rfl (fun w hw => ⟨by rfl, (hw.mono hIc).drop⟩)
      | exact at_ret1 rfl rfl (fun w hw => ⟨by rw [loci_end hr0 hcE (hlV ▸ hnm) (by rw [hol, hlV]) (by rw [hlV]; exact hoo) hzp (by rw [hlV]; exact hzz)], (hw.mono hIc).drop⟩)
    · skip
      have hsml : smallF rows 12 = true ∧ n ≤ 20 ∧ n3 ≤ 100 := by cases hf : smallF rows 12 with
      | true => rw [hf] at hc51; simp at hc51; exact ⟨rfl, by omega, by omega⟩
      | false => rw [hf] at hc51; simp at hc51
      have hsm := small_ok hsml.1
      have hn : n ≤ 100000 := by omega
      have hn2 : n2 ≤ 100000 := by omega
      refine X_skip ?_
      refine at_then ?_
      refine X_seq ?_
      refine X_region ?_
      refine XO_v0 (ev_move rfl) rfl rfl rfl ?_
      refine XO_v0 (ev_move rfl) rfl rfl rfl ?_
      refine XO_callV0 (cap := []) (vs := [_, _]) rfl rfl fun_19 (w_Cost hS hn hVn hn2 hDb) rfl rfl ?_
      refine XO_v0 (ev_move rfl) rfl rfl rfl ?_
      refine XO_v0 (ev_extract rfl rfl) rfl rfl rfl ?_
      refine XO_v0 (ev_extract rfl rfl) rfl rfl rfl ?_
      refine XO_v0 (ev_assign rfl) rfl rfl rfl ?_
      refine XO_v0 (ev_assign rfl) rfl rfl rfl ?_
      refine XO_nil ?_
      refine at_then ?_
      refine X_seq ?_
      refine X_seq ?_
      refine X_region ?_
      refine XO_v0 (ev_move rfl) rfl rfl rfl ?_
      refine XO_v0 (ev_cmp rfl rfl rfl) rfl rfl rfl ?_
      refine XO_nil ?_
      refine at_then ?_
      refine X_cond rfl (fun hc59 => ?_) (fun hc59 => ?_)
      · skip
        refine X_seq ?_
        refine X_region ?_
        refine XO_v0 (ev_assign rfl) rfl rfl rfl ?_
        refine XO_nil ?_
        refine at_then ?_
        refine X_ret ?_
        refine at_then_r ?_
        first
        | exact at_ret1 rfl rfl (fun w hw => ⟨by rfl, (hw.mono hIc).drop⟩)
        | exact at_ret1 rfl rfl (fun w hw => ⟨by rw [loci_end hr0 hcE (hlV ▸ hnm) (by rw [hol, hlV]) (by rw [hlV]; exact hoo) hzp (by rw [hlV]; exact hzz)], (hw.mono hIc).drop⟩)
      · skip
        have hcE : costE rows xs = 0 := by simpa using hc59
        have hr0 : rowsN rows = 0 := by cases Decidable.em (rowsN rows = 0) with
      | inl h => exact h
      | inr h => exact absurd ((cost_1 h).1.symm.trans hcE) h
        have hc0 : chkN rows.length xs = 0 := by have h := hcE; unfold costE at h; rw [if_neg (by omega)] at h; exact h
        obtain ⟨hr1, hr6, hr64, hrr⟩ := rows_ok hr0
        obtain ⟨x0, v0, hx0, hv0, hQ0⟩ := hV.at (k := 0) (by omega)
        have hx0l := hQ0.len
        have hg0 : rows.getD 0 [] = v0 := getD_of hv0
        rw [hg0] at hr64 hrr
        obtain ⟨K, eK, hKl⟩ := which_at (n := x0.n + 1) hz (by omega)
        have hKr : ∀ r ∈ rows, K ≤ r.length := fun r hr => by rw [(hrr r hr).1]; omega
        obtain ⟨hcu1, hcu2, hcu3⟩ := loci_cut hr0 (k := K) (by rw [hg0]; omega) hcE
        have hn0 : n2 ≠ 0 := by omega
        have hcA := cost_nn (rows := rows.map (·.take K)) (cl := xs)
        have hcB := cost_nn (rows := rows.map (·.drop K)) (cl := xs)
        have hcC := cost_le (cl := xs) hr0
        refine X_skip ?_
        refine at_then ?_
        refine X_seq ?_
        refine X_region ?_
        refine XO_v0 (ev_move rfl) rfl rfl rfl ?_
        refine XO_v0 (ev_convI rfl cvt_5_3) rfl rfl rfl ?_
        refine XO_v0 (ev_move rfl) rfl rfl rfl ?_
        refine XO_v0 (ev_indexSl rfl rfl slt_28 hH (fun hg => by first | omega | (simp [conj] at hg; omega))) rfl rfl rfl ?_
        refine XO_v0 (ev_load rfl sct_22 (fun hg => by first | exact Sl.get0 hH hx0 rfl | exact Sl.get0 hH hx rfl | exact Sl.get0 hDs hy rfl | exact cellI_at hxp | exact cellI_at hxq | exact Cell.there (cellI_at hxw) | exact Sl.get0 hS hcx rfl | exact Sl.get0 hNm hxv rfl | exact Sl.get0 (k := q) hZ (some_getD (d := 0) hZ.len (by simp [conj] at hg; omega)) rfl | exact Cell.h0 rfl | exact Cell.h1 rfl | exact Cell.h2 rfl | exact Cell.h3 rfl | exact Cell.h4 rfl | exact Cell.h5 rfl | (repeat (first | exact Cell.here rfl | apply Cell.there | apply Cell.app)))) rfl rfl rfl ?_
        refine XO_v0 (ev_lenS rfl slt_22) rfl rfl rfl ?_
        refine XO_v0 (ev_arB rfl rfl rfl (fun hg => by first | omega | (simp [conj] at hg; omega))) rfl rfl rfl ?_
        refine XO_v0 (ev_rem rfl rfl (fun hg => by omega)) rfl rfl rfl ?_
        refine XO_v0 (ev_assign rfl) rfl rfl rfl ?_
        refine XO_nil ?_
        rw [show ((x0.n : Int) + 1) = ((x0.n + 1 : Nat) : Int) from by omega, eK]
        refine at_then ?_
        refine X_seq ?_
        refine X_region ?_
        refine XO_v0 (ev_assign rfl) rfl rfl rfl ?_
        refine XO_v0 (ev_assign rfl) rfl rfl rfl ?_
        refine XO_nil ?_
        refine at_then ?_
        refine X_seq ?_
        refine X_seq ?_
        refine X_region ?_
        refine XO_v0 (ev_move rfl) rfl rfl rfl ?_
        refine XO_v0 (ev_lenS rfl slt_28) rfl rfl rfl ?_
        refine XO_v0 (ev_move rfl) rfl rfl rfl ?_
        refine XO_nil ?_
        refine at_then ?_
        refine X_block ?_
        refine X_loopT [(0, _), (1, _), (3, _), (9, _), (11, _), (68, _), (69, _)] (.cons rfl (.cons rfl (.cons rfl (.cons rfl (.cons rfl (.cons rfl (.cons rfl .nil))))))) (fun T L0 mz E I' loc' => ∃ (i : Nat) (v12 : Value) (LA : Go.Kn.Loc) (v13 : Value) (LB : Go.Kn.Loc), mz = n2 - i ∧ E = (12, v12) :: (13, v13) :: (70, .int .i64 i) :: T ∧ I = I' ∧ LB ++ LA = loc' ∧ i ≤ n2 ∧ OwnS 22 1 v12 i (((hs.take i).map (hL K)).flatMap encH) LA ∧ OwnS 22 1 v13 i (((hs.take i).map (hR K)).flatMap encH) LB) _ _ _ _ ⟨0, _, [], _, [], rfl, rfl, rfl, rfl, Nat.zero_le _, OwnS.nil, OwnS.nil⟩ (.cons rfl (.cons rfl (.cons rfl (.cons rfl (.cons rfl (.cons rfl (.cons rfl (.cons rfl (.cons rfl (.cons rfl .nil)))))))))) (HLe.refl _) rfl ?_
        rintro mz E I' loc' ⟨i, v12, LA, v13, LB, rfl, rfl, rfl, rfl, hi, hOA, hOB⟩
        refine X_seq ?_
        refine X_region ?_
        refine XO_v0 (ev_cmp rfl rfl rfl) rfl rfl rfl ?_
        refine XO_nil ?_
        refine at_then ?_
        refine X_seq ?_
        refine X_cond rfl (fun hc71 => ?_) (fun hc71 => ?_)
        · skip
          have hlt_i : i < n2 := by have h := hc71; simp at h; omega
          obtain ⟨x, v, hx, hv, hQ⟩ := hV.at hlt_i
          have hxc := hQ.cap
          have hKx : K ≤ x.n := by rw [← hQ.len]; exact hKr v (List.mem_of_getElem? hv)
          refine X_skip ?_
          refine at_then ?_
          refine X_seq ?_
          refine X_block ?_
          refine X_seq ?_
          refine X_region ?_
          refine XO_v0 (ev_indexSl rfl rfl slt_28 hH (fun hg => by first | omega | (simp [conj] at hg; omega))) rfl rfl rfl ?_
          refine XO_v0 (ev_load rfl sct_22 (fun hg => by first | exact Sl.get0 hH hx0 rfl | exact Sl.get0 hH hx rfl | exact Sl.get0 hDs hy rfl | exact cellI_at hxp | exact cellI_at hxq | exact Cell.there (cellI_at hxw) | exact Sl.get0 hS hcx rfl | exact Sl.get0 hNm hxv rfl | exact Sl.get0 (k := q) hZ (some_getD (d := 0) hZ.len (by simp [conj] at hg; omega)) rfl | exact Cell.h0 rfl | exact Cell.h1 rfl | exact Cell.h2 rfl | exact Cell.h3 rfl | exact Cell.h4 rfl | exact Cell.h5 rfl | (repeat (first | exact Cell.here rfl | apply Cell.there | apply Cell.app)))) rfl rfl rfl ?_
          refine XO_v0 (ev_assign rfl) rfl rfl rfl ?_
          refine XO_nil ?_
          refine at_then ?_
          have hD := HLe.refl I
          refine X_noP ?_
          refine X_drawS I [] mixed ?_
          refine XD_take 0 rfl (ev_move rfl) (.none rfl) rfl rfl rfl (by kernel_rfl) (by kernel_rfl) (by kernel_rfl) noP_ok hD (by repeat (first | exact .refl | exact subL_nil | refine .keep ?_ | refine .drop ?_ | refine subL_add ?_)) ?_
          refine XD_take 1 rfl (ev_move rfl) (.none rfl) rfl rfl rfl (by kernel_rfl) (by kernel_rfl) (by kernel_rfl) noP_ok hD (by repeat (first | exact .refl | exact subL_nil | refine .keep ?_ | refine .drop ?_ | refine subL_add ?_)) ?_
          refine XD_take 2 rfl (ev_move rfl) (.none rfl) rfl rfl rfl (by kernel_rfl) (by kernel_rfl) (by kernel_rfl) noP_ok hD (by repeat (first | exact .refl | exact subL_nil | refine .keep ?_ | refine .drop ?_ | refine subL_add ?_)) ?_
          refine XD_take 3 rfl (ev_sliceHi rfl rfl slt_22 (fun hg => by first | omega | (simp [conj] at hg; omega))) (.none rfl) rfl rfl rfl (by kernel_rfl) (by kernel_rfl) (by kernel_rfl) noP_ok hD (by repeat (first | exact .refl | exact subL_nil | refine .keep ?_ | refine .drop ?_ | refine subL_add ?_)) ?_
          refine XD_take 6 rfl (ev_move rfl) (.none rfl) rfl rfl rfl (by kernel_rfl) (by kernel_rfl) (by kernel_rfl) noP_ok hD (by repeat (first | exact .refl | exact subL_nil | refine .keep ?_ | refine .drop ?_ | refine subL_add ?_)) ?_
          refine XD_take 7 rfl (ev_move rfl) (.none rfl) rfl rfl rfl (by kernel_rfl) (by kernel_rfl) (by kernel_rfl) noP_ok hD (by repeat (first | exact .refl | exact subL_nil | refine .keep ?_ | refine .drop ?_ | refine subL_add ?_)) ?_
          refine XD_take 8 rfl (ev_move rfl) (.none rfl) rfl rfl rfl (by kernel_rfl) (by kernel_rfl) (by kernel_rfl) noP_ok hD (by repeat (first | exact .refl | exact subL_nil | refine .keep ?_ | refine .drop ?_ | refine subL_add ?_)) ?_
          refine XD_take 9 rfl (ev_sliceLo rfl rfl slt_22 (fun hg => by first | omega | (simp [conj] at hg; omega))) (.none rfl) rfl rfl rfl (by kernel_rfl) (by kernel_rfl) (by kernel_rfl) noP_ok hD (by repeat (first | exact .refl | exact subL_nil | refine .keep ?_ | refine .drop ?_ | refine subL_add ?_)) ?_
          refine XD_two 4 10 rfl rfl (by kernel_rfl) ?_ ?_
          · skip
            refine XO_buildSlice (ps := [(0, _)]) (m := [encH (hL K x)]) elt_28 rfl (.cons rfl (.nil)) rfl (by simp [encH_len, encI_len]) (by decide) (by decide) rfl rfl (fun b_78 => ?_)
            refine XO_nil ?_
            refine at_D hD (by repeat (first | exact .refl | exact subL_nil | refine .keep ?_ | refine .drop ?_ | refine subL_add ?_)) ?_
            refine XD_two 5 10 rfl rfl (by kernel_rfl) ?_ ?_
            · skip
              refine XO_append (v := _) (ys := [hL K x].flatMap encH) (L := LA) rfl rfl elt_28 hOA (by repeat (first | exact .cons .here .nil | exact split_all | exact split_app | apply split_cons | apply split_skip)) ⟨rfl, fun _ => rfl, by repeat (first | exact Cells.here | apply Cells.there | apply Cells.app)⟩ (one_H [hL K x]) (by omega) rfl rfl ?_
              intro v8 L8 hO8 _; rw [← List.flatMap_append] at hO8
              refine XO_nil ?_
              refine at_D hD (by repeat (first | exact .refl | exact subL_nil | refine .keep ?_ | refine .drop ?_ | refine subL_add ?_)) ?_
              refine XD_one 10 rfl (by kernel_rfl) ?_
              refine XO_buildSlice (ps := [(0, _)]) (m := [encH (hR K x)]) elt_28 rfl (.cons rfl (.nil)) rfl (by simp [encH_len, encI_len]) (by decide) (by decide) rfl rfl (fun b_84 => ?_)
              refine XO_nil ?_
              refine at_D hD (by repeat (first | exact .refl | exact subL_nil | refine .keep ?_ | refine .drop ?_ | refine subL_add ?_)) ?_
              refine XD_one 11 rfl (by kernel_rfl) ?_
              refine XO_append (v := _) (ys := [hR K x].flatMap encH) (L := LB) rfl rfl elt_28 hOB (by repeat (first | exact .cons .here .nil | exact split_all | exact split_app | apply split_cons | apply split_skip)) ⟨rfl, fun _ => rfl, by repeat (first | exact Cells.here | apply Cells.there | apply Cells.app)⟩ (one_H [hR K x]) (by omega) rfl rfl ?_
              intro v9 L9 hO9 _; rw [← List.flatMap_append] at hO9
              refine XO_nil ?_
              refine at_D hD (by repeat (first | exact .refl | exact subL_nil | refine .keep ?_ | refine .drop ?_ | refine subL_add ?_)) ?_
              refine XD_take 12 rfl (ev_assign rfl) (.none rfl) rfl rfl rfl (by kernel_rfl) (by kernel_rfl) (by kernel_rfl) noP_ok hD (by repeat (first | exact .refl | exact subL_nil | refine .keep ?_ | refine .drop ?_ | refine subL_add ?_)) ?_
              refine XD_take 13 rfl (ev_assign rfl) (.none rfl) rfl rfl rfl (by kernel_rfl) (by kernel_rfl) (by kernel_rfl) noP_ok hD (by repeat (first | exact .refl | exact subL_nil | refine .keep ?_ | refine .drop ?_ | refine subL_add ?_)) ?_
              refine XD_done (by kernel_rfl) ?_
              refine at_noP ?_
              refine at_block_n ?_
              refine at_then ?_
              refine X_region ?_
              refine XO_v0 (ev_arB rfl rfl rfl (fun hg => by first | omega | (simp [conj] at hg; omega))) rfl rfl rfl ?_
              refine XO_v0 (ev_move rfl) rfl rfl rfl ?_
              refine XO_nil ?_
              first
              | exact at_met2 _ _ ⟨n2 - (i + 1), by omega, i + 1, _, L8, _, L9, rfl, rfl, rfl, rfl, by omega, by rw [map_next hx]; exact hO8, by rw [map_next hx]; exact hO9⟩ (.cons rfl (.cons rfl (.cons rfl (.cons rfl (.cons rfl (.cons rfl (.cons rfl (.cons rfl (.cons rfl (.cons rfl .nil)))))))))) (by repeat (first | refine subL_app ?_ | refine .drop ?_ | exact .refl | exact subL_left | refine subL_add ?_))
              | exact at_metP _ _ (L8 ++ L9) ⟨n2 - (i + 1), by omega, i + 1, _, L8, _, L9, rfl, rfl, rfl, rfl, by omega, by rw [map_next hx]; exact hO8, by rw [map_next hx]; exact hO9⟩ (.cons rfl (.cons rfl (.cons rfl (.cons rfl (.cons rfl (.cons rfl (.cons rfl (.cons rfl (.cons rfl (.cons rfl .nil)))))))))) List.perm_append_comm (by repeat (first | refine subL_app ?_ | refine .drop ?_ | exact .refl | exact subL_left | refine subL_add ?_))
            · skip
              refine XO_buildSlice (ps := [(0, _)]) (m := [encH (hR K x)]) elt_28 rfl (.cons rfl (.nil)) rfl (by simp [encH_len, encI_len]) (by decide) (by decide) rfl rfl (fun b_84 => ?_)
              refine XO_nil ?_
              refine at_D hD (by repeat (first | exact .refl | exact subL_nil | refine .keep ?_ | refine .drop ?_ | refine subL_add ?_)) ?_
              refine XD_one 5 rfl (by kernel_rfl) ?_
              refine XO_append (v := _) (ys := [hL K x].flatMap encH) (L := LA) rfl rfl elt_28 hOA (by repeat (first | exact .cons .here .nil | exact split_all | exact split_app | apply split_cons | apply split_skip)) ⟨rfl, fun _ => rfl, by repeat (first | exact Cells.here | apply Cells.there | apply Cells.app)⟩ (one_H [hL K x]) (by omega) rfl rfl ?_
              intro v8 L8 hO8 _; rw [← List.flatMap_append] at hO8
              refine XO_nil ?_
              refine at_D hD (by repeat (first | exact .refl | exact subL_nil | refine .keep ?_ | refine .drop ?_ | refine subL_add ?_)) ?_
              refine XD_one 11 rfl (by kernel_rfl) ?_
              refine XO_append (v := _) (ys := [hR K x].flatMap encH) (L := LB) rfl rfl elt_28 hOB (by repeat (first | exact .cons .here .nil | exact split_all | exact split_app | apply split_cons | apply split_skip)) ⟨rfl, fun _ => rfl, by repeat (first | exact Cells.here | apply Cells.there | apply Cells.app)⟩ (one_H [hR K x]) (by omega) rfl rfl ?_
              intro v9 L9 hO9 _; rw [← List.flatMap_append] at hO9
              refine XO_nil ?_
              refine at_D hD (by repeat (first | exact .refl | exact subL_nil | refine .keep ?_ | refine .drop ?_ | refine subL_add ?_)) ?_
              refine XD_take 12 rfl (ev_assign rfl) (.none rfl) rfl rfl rfl (by kernel_rfl) (by kernel_rfl) (by kernel_rfl) noP_ok hD (by repeat (first | exact .refl | exact subL_nil | refine .keep ?_ | refine .drop ?_ | refine subL_add ?_)) ?_
              refine XD_take 13 rfl (ev_assign rfl) (.none rfl) rfl rfl rfl (by kernel_rfl) (by kernel_rfl) (by kernel_rfl) noP_ok hD (by repeat (first | exact .refl | exact subL_nil | refine .keep ?_ | refine .drop ?_ | refine subL_add ?_)) ?_
              refine XD_done (by kernel_rfl) ?_
              refine at_noP ?_
              refine at_block_n ?_
              refine at_then ?_
              refine X_region ?_
              refine XO_v0 (ev_arB rfl rfl rfl (fun hg => by first | omega | (simp [conj] at hg; omega))) rfl rfl rfl ?_
              refine XO_v0 (ev_move rfl) rfl rfl rfl ?_
              refine XO_nil ?_
              first
              | exact at_met2 _ _ ⟨n2 - (i + 1), by omega, i + 1, _, L8, _, L9, rfl, rfl, rfl, rfl, by omega, by rw [map_next hx]; exact hO8, by rw [map_next hx]; exact hO9⟩ (.cons rfl (.cons rfl (.cons rfl (.cons rfl (.cons rfl (.cons rfl (.cons rfl (.cons rfl (.cons rfl (.cons rfl .nil)))))))))) (by repeat (first | refine subL_app ?_ | refine .drop ?_ | exact .refl | exact subL_left | refine subL_add ?_))
              | exact at_metP _ _ (L8 ++ L9) ⟨n2 - (i + 1), by omega, i + 1, _, L8, _, L9, rfl, rfl, rfl, rfl, by omega, by rw [map_next hx]; exact hO8, by rw [map_next hx]; exact hO9⟩ (.cons rfl (.cons rfl (.cons rfl (.cons rfl (.cons rfl (.cons rfl (.cons rfl (.cons rfl (.cons rfl (.cons rfl .nil)))))))))) List.perm_append_comm (by repeat (first | refine subL_app ?_ | refine .drop ?_ | exact .refl | exact subL_left | refine subL_add ?_))
          · skip
            refine XO_buildSlice (ps := [(0, _)]) (m := [encH (hR K x)]) elt_28 rfl (.cons rfl (.nil)) rfl (by simp [encH_len, encI_len]) (by decide) (by decide) rfl rfl (fun b_84 => ?_)
            refine XO_nil ?_
            refine at_D hD (by repeat (first | exact .refl | exact subL_nil | refine .keep ?_ | refine .drop ?_ | refine subL_add ?_)) ?_
            refine XD_one 4 rfl (by kernel_rfl) ?_
            refine XO_buildSlice (ps := [(0, _)]) (m := [encH (hL K x)]) elt_28 rfl (.cons rfl (.nil)) rfl (by simp [encH_len, encI_len]) (by decide) (by decide) rfl rfl (fun b_78 => ?_)
            refine XO_nil ?_
            refine at_D hD (by repeat (first | exact .refl | exact subL_nil | refine .keep ?_ | refine .drop ?_ | refine subL_add ?_)) ?_
            refine XD_one 5 rfl (by kernel_rfl) ?_
            refine XO_append (v := _) (ys := [hL K x].flatMap encH) (L := LA) rfl rfl elt_28 hOA (by repeat (first | exact .cons .here .nil | exact split_all | exact split_app | apply split_cons | apply split_skip)) ⟨rfl, fun _ => rfl, by repeat (first | exact Cells.here | apply Cells.there | apply Cells.app)⟩ (one_H [hL K x]) (by omega) rfl rfl ?_
            intro v8 L8 hO8 _; rw [← List.flatMap_append] at hO8
            refine XO_nil ?_
            refine at_D hD (by repeat (first | exact .refl | exact subL_nil | refine .keep ?_ | refine .drop ?_ | refine subL_add ?_)) ?_
            refine XD_one 11 rfl (by kernel_rfl) ?_
            refine XO_append (v := _) (ys := [hR K x].flatMap encH) (L := LB) rfl rfl elt_28 hOB (by repeat (first | exact .cons .here .nil | exact split_all | exact split_app | apply split_cons | apply split_skip)) ⟨rfl, fun _ => rfl, by repeat (first | exact Cells.here | apply Cells.there | apply Cells.app)⟩ (one_H [hR K x]) (by omega) rfl rfl ?_
            intro v9 L9 hO9 _; rw [← List.flatMap_append] at hO9
            refine XO_nil ?_
            refine at_D hD (by repeat (first | exact .refl | exact subL_nil | refine .keep ?_ | refine .drop ?_ | refine subL_add ?_)) ?_
            refine XD_take 12 rfl (ev_assign rfl) (.none rfl) rfl rfl rfl (by kernel_rfl) (by kernel_rfl) (by kernel_rfl) noP_ok hD (by repeat (first | exact .refl | exact subL_nil | refine .keep ?_ | refine .drop ?_ | refine subL_add ?_)) ?_
            refine XD_take 13 rfl (ev_assign rfl) (.none rfl) rfl rfl rfl (by kernel_rfl) (by kernel_rfl) (by kernel_rfl) noP_ok hD (by repeat (first | exact .refl | exact subL_nil | refine .keep ?_ | refine .drop ?_ | refine subL_add ?_)) ?_
            refine XD_done (by kernel_rfl) ?_
            refine at_noP ?_
            refine at_block_n ?_
            refine at_then ?_
            refine X_region ?_
            refine XO_v0 (ev_arB rfl rfl rfl (fun hg => by first | omega | (simp [conj] at hg; omega))) rfl rfl rfl ?_
            refine XO_v0 (ev_move rfl) rfl rfl rfl ?_
            refine XO_nil ?_
            first
            | exact at_met2 _ _ ⟨n2 - (i + 1), by omega, i + 1, _, L8, _, L9, rfl, rfl, rfl, rfl, by omega, by rw [map_next hx]; exact hO8, by rw [map_next hx]; exact hO9⟩ (.cons rfl (.cons rfl (.cons rfl (.cons rfl (.cons rfl (.cons rfl (.cons rfl (.cons rfl (.cons rfl (.cons rfl .nil)))))))))) (by repeat (first | refine subL_app ?_ | refine .drop ?_ | exact .refl | exact subL_left | refine subL_add ?_))
            | exact at_metP _ _ (L8 ++ L9) ⟨n2 - (i + 1), by omega, i + 1, _, L8, _, L9, rfl, rfl, rfl, rfl, by omega, by rw [map_next hx]; exact hO8, by rw [map_next hx]; exact hO9⟩ (.cons rfl (.cons rfl (.cons rfl (.cons rfl (.cons rfl (.cons rfl (.cons rfl (.cons rfl (.cons rfl (.cons rfl .nil)))))))))) List.perm_append_comm (by repeat (first | refine subL_app ?_ | refine .drop ?_ | exact .refl | exact subL_left | refine subL_add ?_))
        · skip
          have hge_i : n2 ≤ i := by have h := hc71; simp at h; omega
          rw [take_all hH.len hge_i] at hOA hOB
          rw [show i = n2 by omega] at hOA hOB
          refine X_exit ?_
          refine at_then_e ?_
          refine at_then_e ?_
          refine at_block_hit ?_
          refine at_then ?_
          refine X_seq ?_
          refine X_freezeO hOB encH_len (by decide) split_app (fun I2 hI2 af2 cf2 ef2 hNR => ?_)
          subst ef2
          have hS := hS.mono hI2
          have hVn := hVn.mono hI2
          have hV := hV.mono hI2
          have hH := hH.mono hI2
          have hDb := hDb.mono hI2
          have hDs := hDs.mono hI2
          have hIc := hIc.trans hI2
          refine X_freezeO hOA encH_len (by decide) split_all (fun I3 hI3 af3 cf3 ef3 hNL => ?_)
          subst ef3
          have hS := hS.mono hI3
          have hVn := hVn.mono hI3
          have hV := hV.mono hI3
          have hH := hH.mono hI3
          have hDb := hDb.mono hI3
          have hDs := hDs.mono hI3
          have hNR := hNR.mono hI3
          have hIc := hIc.trans hI3
          have hCR : SlN _ _ _ _ (rows.map (·.drop K)) := hV.cutR hKr (HLe.refl _) hNR
          have hCL : SlN _ _ _ _ (rows.map (·.take K)) := hV.cutL hKr (HLe.refl _) hNL
          refine X_region ?_
          refine XO_v0 (ev_move rfl) rfl rfl rfl ?_
          refine XO_v0 (ev_move rfl) rfl rfl rfl ?_
          refine XO_callV0 (cap := []) (vs := [_, _]) rfl rfl fun_19 (w_Cost hS hn hCL hn2 hDb) rfl rfl ?_
          refine XO_v0 (ev_move rfl) rfl rfl rfl ?_
          refine XO_v0 (ev_extract rfl rfl) rfl rfl rfl ?_
          refine XO_v0 (ev_extract rfl rfl) rfl rfl rfl ?_
          refine XO_v0 (ev_assign rfl) rfl rfl rfl ?_
          refine XO_v0 (ev_assign rfl) rfl rfl rfl ?_
          refine XO_nil ?_
          refine at_then ?_
          refine X_seq ?_
          refine X_region ?_
          refine XO_v0 (ev_move rfl) rfl rfl rfl ?_
          refine XO_v0 (ev_move rfl) rfl rfl rfl ?_
          refine XO_callV0 (cap := []) (vs := [_, _]) rfl rfl fun_19 (w_Cost hS hn hCR hn2 hDb) rfl rfl ?_
          refine XO_v0 (ev_move rfl) rfl rfl rfl ?_
          refine XO_v0 (ev_extract rfl rfl) rfl rfl rfl ?_
          refine XO_v0 (ev_extract rfl rfl) rfl rfl rfl ?_
          refine XO_v0 (ev_assign rfl) rfl rfl rfl ?_
          refine XO_v0 (ev_assign rfl) rfl rfl rfl ?_
          refine XO_nil ?_
          refine at_then ?_
          refine X_seq ?_
          refine X_seq ?_
          refine X_region ?_
          refine XO_v0 (ev_move rfl) rfl rfl rfl ?_
          refine XO_v0 (ev_cmp rfl rfl rfl) rfl rfl rfl ?_
          refine XO_v0 (ev_move rfl) rfl rfl rfl ?_
          refine XO_pushF 2 rfl rfl rfl ?_
          refine XO_v1 (ev_move rfl) (.some rfl rfl rfl rfl gbf) rfl rfl rfl ?_
          refine XO_v1 (ev_cmp rfl rfl rfl) (.some rfl rfl rfl rfl gbf) rfl rfl rfl ?_
          refine XO_or0 rfl rfl rfl rfl rfl ?_
          refine XO_v0 (ev_move rfl) rfl rfl rfl ?_
          refine XO_pushF 6 rfl rfl rfl ?_
          refine XO_v1 (ev_move rfl) (.some rfl rfl rfl rfl gbf) rfl rfl rfl ?_
          refine XO_v1 (ev_move rfl) (.some rfl rfl rfl rfl gbf) rfl rfl rfl ?_
          refine XO_v1 (ev_arB rfl rfl rfl (fun hg => by first | omega | (simp [conj] at hg; omega))) (.some rfl rfl rfl rfl gbf) rfl rfl rfl ?_
          refine XO_v1 (ev_move rfl) (.some rfl rfl rfl rfl gbf) rfl rfl rfl ?_
          refine XO_v1 (ev_cmp rfl rfl rfl) (.some rfl rfl rfl rfl gbf) rfl rfl rfl ?_
          refine XO_or0 rfl rfl rfl rfl rfl ?_
          refine XO_nil ?_
          refine at_then ?_
          refine X_cond rfl (fun hc111 => ?_) (fun hc111 => ?_)
          · skip
            rw [hcu1, hcu2, hcu3] at hc111; simp at hc111
          · skip
            refine X_skip ?_
            refine at_then ?_
            refine X_seq ?_
            refine X_region ?_
            refine XO_v0 (ev_move rfl) rfl rfl rfl ?_
            refine XO_v0 (ev_lenS rfl slt_28) rfl rfl rfl ?_
            refine XO_makeSlice mkt_22 rfl rfl (by omega) (by decide) rfl rfl (fun b_114 => ?_)
            refine XO_v0 (ev_assign rfl) rfl rfl rfl ?_
            refine XO_nil ?_
            have e0 : ((n2 : Nat) : Int).toNat = n2 := rfl
            rw [e0, cellsI_new, show List.replicate n2 (0 : Int) = filK (idsL n2) id 0 by rw [fil_zero, ids_len]]
            refine at_then ?_
            refine X_seq ?_
            refine X_seq ?_
            refine X_region ?_
            refine XO_v0 (ev_move rfl) rfl rfl rfl ?_
            refine XO_v0 (ev_lenS rfl slt_22) rfl rfl rfl ?_
            refine XO_v0 (ev_move rfl) rfl rfl rfl ?_
            refine XO_nil ?_
            refine at_then ?_
            refine X_block ?_
            refine X_loopT [(0, _), (1, _), (3, _), (9, _), (20, _), (116, _)] (.cons rfl (.cons rfl (.cons rfl (.cons rfl (.cons rfl (.cons rfl .nil)))))) (fun T L0 mz E I' loc' => ∃ (i : Nat), mz = n2 - i ∧ E = (117, .int .i64 i) :: T ∧ I3 = I' ∧ [(b_114, .cells (cellsI (filK (idsL n2) id i)) 3 (0, 0))] = loc' ∧ i ≤ n2) _ _ _ _ ⟨0, rfl, rfl, rfl, rfl, Nat.zero_le _⟩ (.cons rfl (.cons rfl (.cons rfl (.cons rfl (.cons rfl (.cons rfl (.cons rfl .nil))))))) (HLe.refl _) rfl ?_
            rintro mz E I' loc' ⟨i, rfl, rfl, rfl, rfl, hi⟩
            refine X_seq ?_
            refine X_region ?_
            refine XO_v0 (ev_cmp rfl rfl rfl) rfl rfl rfl ?_
            refine XO_nil ?_
            refine at_then ?_
            refine X_seq ?_
            refine X_cond rfl (fun hc118 => ?_) (fun hc118 => ?_)
            · skip
              have hlt_i : i < n2 := by have h := hc118; simp at h; omega
              refine X_skip ?_
              refine at_then ?_
              refine X_seq ?_
              refine X_block ?_
              refine X_seq ?_
              refine X_region ?_
              refine XO_v0 (ev_move rfl) rfl rfl rfl ?_
              refine XO_v0 (ev_assign rfl) rfl rfl rfl ?_
              refine XO_nil ?_
              refine at_then ?_
              refine X_region ?_
              refine XO_v0 (ev_move rfl) rfl rfl rfl ?_
              refine XO_v0 (ev_move rfl) rfl rfl rfl ?_
              refine XO_v0 (ev_move rfl) rfl rfl rfl ?_
              refine XO_v0 (ev_indexOwn rfl rfl slt_22 (fun hg => by first | omega | (simp [conj] at hg; omega))) rfl rfl rfl ?_
              refine XO_store rfl rfl szt_3 rfl rfl (by first | exact Upd.u0 | exact Upd.u1 | exact Upd.u2 | exact Upd.u3 | exact Upd.u4 | exact Upd.u5 | (repeat (first | exact Upd.here | apply Upd.there | apply upd_app))) (bltI (by rw [fil_len (by rw [ids_len]; omega), ids_len]; omega)) ?_
              refine XO_nil ?_
              rw [cellsI_set, show (filK (idsL n2) id i).set i (i : Int) = filK (idsL n2) id (i + 1) from fil_set (ids_at hlt_i)]
              refine at_block_n ?_
              refine at_then ?_
              refine X_region ?_
              refine XO_v0 (ev_arB rfl rfl rfl (fun hg => by first | omega | (simp [conj] at hg; omega))) rfl rfl rfl ?_
              refine XO_v0 (ev_move rfl) rfl rfl rfl ?_
              refine XO_nil ?_
              exact at_met2 _ _ ⟨n2 - (i + 1), by omega, i + 1, rfl, rfl, rfl, rfl, by omega⟩ (.cons rfl (.cons rfl (.cons rfl (.cons rfl (.cons rfl (.cons rfl (.cons rfl .nil))))))) (by repeat (first | exact .refl | exact subL_left | refine subL_app ?_ | refine .drop ?_ | refine subL_add ?_))
            · skip
              have hge_i : n2 ≤ i := by have h := hc118; simp at h; omega
              rw [show filK (idsL n2) id i = idsL n2 by rw [show i = n2 by omega]; exact ids_fil]
              refine X_exit ?_
              refine at_then_e ?_
              refine at_then_e ?_
              refine at_block_hit ?_
              refine at_then ?_
              refine X_seq ?_
              refine X_seq ?_
              refine X_region ?_
              refine XO_v0 (ev_move rfl) rfl rfl rfl ?_
              refine XO_v0 (ev_lenS rfl slt_45) rfl rfl rfl ?_
              refine XO_v0 (ev_move rfl) rfl rfl rfl ?_
              refine XO_nil ?_
              refine at_then ?_
              refine X_block ?_
              refine X_loopT [(0, _), (1, _), (9, _), (20, _), (125, _), (126, _)] (.cons rfl (.cons rfl (.cons rfl (.cons rfl (.cons rfl (.cons rfl .nil)))))) (fun T L0 mz E I' loc' => ∃ (k : Nat) (nm : List Int), mz = n3 - k ∧ E = (127, .int .i64 k) :: T ∧ I3 = I' ∧ [(b_114, .cells (cellsI nm) 3 (0, 0))] = loc' ∧ k ≤ n3 ∧ nm.Perm (idsL n2)) _ _ _ _ ⟨0, _, rfl, rfl, rfl, rfl, Nat.zero_le _, .refl _⟩ (.cons rfl (.cons rfl (.cons rfl (.cons rfl (.cons rfl (.cons rfl (.cons rfl .nil))))))) (HLe.refl _) rfl ?_
              rintro mz E I' loc' ⟨k, nm, rfl, rfl, rfl, rfl, hk, hnm⟩
              have hnl : nm.length = n2 := by rw [hnm.length_eq, ids_len]
              refine X_seq ?_
              refine X_region ?_
              refine XO_v0 (ev_cmp rfl rfl rfl) rfl rfl rfl ?_
              refine XO_nil ?_
              refine at_then ?_
              refine X_seq ?_
              refine X_cond rfl (fun hc128 => ?_) (fun hc128 => ?_)
              · skip
                have hlt_k : k < n3 := by have h := hc128; simp at h; omega
                obtain ⟨y, hy⟩ := hDs.at hlt_k
                obtain ⟨P, eP, hP⟩ := tmod_at k hn0
                obtain ⟨Q, eQ, hQ9⟩ := which_at (hsw y (List.mem_of_getElem? hy)) hn0
                obtain ⟨xp, hxp⟩ : ∃ x, nm[P]? = some x := ⟨_, List.getElem?_eq_getElem (by omega)⟩
                obtain ⟨xq, hxq⟩ : ∃ x, nm[Q]? = some x := ⟨_, List.getElem?_eq_getElem (by omega)⟩
                refine X_skip ?_
                refine at_then ?_
                refine X_seq ?_
                refine X_block ?_
                refine X_seq ?_
                refine X_region ?_
                refine XO_v0 (ev_move rfl) rfl rfl rfl ?_
                refine XO_v0 (ev_indexSl rfl rfl slt_45 hDs (fun hg => by first | omega | (simp [conj] at hg; omega))) rfl rfl rfl ?_
                refine XO_v0 (ev_load rfl sct_5 (fun hg => by first | exact Sl.get0 hH hx0 rfl | exact Sl.get0 hH hx rfl | exact Sl.get0 hDs hy rfl | exact cellI_at hxp | exact cellI_at hxq | exact Cell.there (cellI_at hxw) | exact Sl.get0 hS hcx rfl | exact Sl.get0 hNm hxv rfl | exact Sl.get0 (k := q) hZ (some_getD (d := 0) hZ.len (by simp [conj] at hg; omega)) rfl | exact Cell.h0 rfl | exact Cell.h1 rfl | exact Cell.h2 rfl | exact Cell.h3 rfl | exact Cell.h4 rfl | exact Cell.h5 rfl | (repeat (first | exact Cell.here rfl | apply Cell.there | apply Cell.app)))) rfl rfl rfl ?_
                refine XO_v0 (ev_assign rfl) rfl rfl rfl ?_
                refine XO_v0 (ev_assign rfl) rfl rfl rfl ?_
                refine XO_nil ?_
                refine at_then ?_
                refine X_seq ?_
                refine X_draw mixed (by kernel_rfl) ?_
                refine XQ_v0 (ev_move rfl) rfl rfl rfl ?_
                refine XQ_v0 (ev_move rfl) rfl rfl rfl ?_
                refine XQ_v0 (ev_lenS rfl slt_22) rfl rfl rfl ?_
                refine XQ_v0 (ev_rem rfl rfl (fun hg => by omega)) rfl rfl rfl ?_
                refine XQ_v0 (ev_move rfl) rfl rfl rfl ?_
                refine XQ_v0 (ev_convI rfl cvt_5_3) rfl rfl rfl ?_
                refine XQ_v0 (ev_move rfl) rfl rfl rfl ?_
                refine XQ_v0 (ev_lenS rfl slt_22) rfl rfl rfl ?_
                refine XQ_v0 (ev_rem rfl rfl (fun hg => by omega)) rfl rfl rfl ?_
                refine XQ_v0 (ev_assign rfl) rfl rfl rfl ?_
                refine XQ_v0 (ev_assign rfl) rfl rfl rfl ?_
                refine XQ_nil ?_
                rw [eP, eQ]
                refine at_then ?_
                have hD := HLe.refl I3
                refine X_noP ?_
                refine X_drawS I3 [] mixed ?_
                refine XD_take 0 rfl (ev_move rfl) (.none rfl) rfl rfl rfl (by kernel_rfl) (by kernel_rfl) (by kernel_rfl) noP_ok hD (by repeat (first | exact .refl | exact subL_nil | refine .keep ?_ | refine .drop ?_ | refine subL_add ?_)) ?_
                refine XD_take 1 rfl (ev_move rfl) (.none rfl) rfl rfl rfl (by kernel_rfl) (by kernel_rfl) (by kernel_rfl) noP_ok hD (by repeat (first | exact .refl | exact subL_nil | refine .keep ?_ | refine .drop ?_ | refine subL_add ?_)) ?_
                refine XD_take 2 rfl (ev_move rfl) (.none rfl) rfl rfl rfl (by kernel_rfl) (by kernel_rfl) (by kernel_rfl) noP_ok hD (by repeat (first | exact .refl | exact subL_nil | refine .keep ?_ | refine .drop ?_ | refine subL_add ?_)) ?_
                refine XD_take 3 rfl (ev_move rfl) (.none rfl) rfl rfl rfl (by kernel_rfl) (by kernel_rfl) (by kernel_rfl) noP_ok hD (by repeat (first | exact .refl | exact subL_nil | refine .keep ?_ | refine .drop ?_ | refine subL_add ?_)) ?_
                refine XD_take 4 rfl (ev_move rfl) (.none rfl) rfl rfl rfl (by kernel_rfl) (by kernel_rfl) (by kernel_rfl) noP_ok hD (by repeat (first | exact .refl | exact subL_nil | refine .keep ?_ | refine .drop ?_ | refine subL_add ?_)) ?_
                refine XD_take 5 rfl (ev_move rfl) (.none rfl) rfl rfl rfl (by kernel_rfl) (by kernel_rfl) (by kernel_rfl) noP_ok hD (by repeat (first | exact .refl | exact subL_nil | refine .keep ?_ | refine .drop ?_ | refine subL_add ?_)) ?_
                refine XD_take 6 rfl (ev_indexOwn rfl rfl slt_22 (fun hg => by first | omega | (simp [conj] at hg; omega))) (.none rfl) rfl rfl rfl (by kernel_rfl) (by kernel_rfl) (by kernel_rfl) noP_ok hD (by repeat (first | exact .refl | exact subL_nil | refine .keep ?_ | refine .drop ?_ | refine subL_add ?_)) ?_
                refine XD_take 8 rfl (ev_move rfl) (.none rfl) rfl rfl rfl (by kernel_rfl) (by kernel_rfl) (by kernel_rfl) noP_ok hD (by repeat (first | exact .refl | exact subL_nil | refine .keep ?_ | refine .drop ?_ | refine subL_add ?_)) ?_
                refine XD_take 9 rfl (ev_move rfl) (.none rfl) rfl rfl rfl (by kernel_rfl) (by kernel_rfl) (by kernel_rfl) noP_ok hD (by repeat (first | exact .refl | exact subL_nil | refine .keep ?_ | refine .drop ?_ | refine subL_add ?_)) ?_
                refine XD_take 10 rfl (ev_indexOwn rfl rfl slt_22 (fun hg => by first | omega | (simp [conj] at hg; omega))) (.none rfl) rfl rfl rfl (by kernel_rfl) (by kernel_rfl) (by kernel_rfl) noP_ok hD (by repeat (first | exact .refl | exact subL_nil | refine .keep ?_ | refine .drop ?_ | refine subL_add ?_)) ?_
                refine XD_two 7 11 rfl rfl (by kernel_rfl) ?_ ?_
                · skip
                  refine XO_v0 (ev_load rfl sct_3 (fun hg => by first | exact Sl.get0 hH hx0 rfl | exact Sl.get0 hH hx rfl | exact Sl.get0 hDs hy rfl | exact cellI_at hxp | exact cellI_at hxq | exact Cell.there (cellI_at hxw) | exact Sl.get0 hS hcx rfl | exact Sl.get0 hNm hxv rfl | exact Sl.get0 (k := q) hZ (some_getD (d := 0) hZ.len (by simp [conj] at hg; omega)) rfl | exact Cell.h0 rfl | exact Cell.h1 rfl | exact Cell.h2 rfl | exact Cell.h3 rfl | exact Cell.h4 rfl | exact Cell.h5 rfl | (repeat (first | exact Cell.here rfl | apply Cell.there | apply Cell.app)))) rfl rfl rfl ?_
                  refine XO_nil ?_
                  refine at_D hD (by repeat (first | exact .refl | exact subL_nil | refine .keep ?_ | refine .drop ?_ | refine subL_add ?_)) ?_
                  refine XD_one 11 rfl (by kernel_rfl) ?_
                  refine XO_v0 (ev_load rfl sct_3 (fun hg => by first | exact Sl.get0 hH hx0 rfl | exact Sl.get0 hH hx rfl | exact Sl.get0 hDs hy rfl | exact cellI_at hxp | exact cellI_at hxq | exact Cell.there (cellI_at hxw) | exact Sl.get0 hS hcx rfl | exact Sl.get0 hNm hxv rfl | exact Sl.get0 (k := q) hZ (some_getD (d := 0) hZ.len (by simp [conj] at hg; omega)) rfl | exact Cell.h0 rfl | exact Cell.h1 rfl | exact Cell.h2 rfl | exact Cell.h3 rfl | exact Cell.h4 rfl | exact Cell.h5 rfl | (repeat (first | exact Cell.here rfl | apply Cell.there | apply Cell.app)))) rfl rfl rfl ?_
                  refine XO_nil ?_
                  refine at_D hD (by repeat (first | exact .refl | exact subL_nil | refine .keep ?_ | refine .drop ?_ | refine subL_add ?_)) ?_
                  refine XD_take 12 rfl (ev_indexOwn rfl rfl slt_22 (fun hg => by first | omega | (simp [conj] at hg; omega))) (.none rfl) rfl rfl rfl (by kernel_rfl) (by kernel_rfl) (by kernel_rfl) noP_ok hD (by repeat (first | exact .refl | exact subL_nil | refine .keep ?_ | refine .drop ?_ | refine subL_add ?_)) ?_
                  refine XD_one 13 rfl (by kernel_rfl) ?_
                  refine XO_store rfl rfl szt_3 rfl rfl (by first | exact Upd.u0 | exact Upd.u1 | exact Upd.u2 | exact Upd.u3 | exact Upd.u4 | exact Upd.u5 | (repeat (first | exact Upd.here | apply Upd.there | apply upd_app))) (bltI (by omega)) ?_
                  refine XO_nil ?_
                  refine at_D hD (by repeat (first | exact .refl | exact subL_nil | refine .keep ?_ | refine .drop ?_ | refine subL_add ?_)) ?_
                  refine XD_take 14 rfl (ev_indexOwn rfl rfl slt_22 (fun hg => by first | omega | (simp [conj] at hg; omega))) (.none rfl) rfl rfl rfl (by kernel_rfl) (by kernel_rfl) (by kernel_rfl) noP_ok hD (by repeat (first | exact .refl | exact subL_nil | refine .keep ?_ | refine .drop ?_ | refine subL_add ?_)) ?_
                  refine XD_one 15 rfl (by kernel_rfl) ?_
                  refine XO_store rfl rfl szt_3 rfl rfl (by first | exact Upd.u0 | exact Upd.u1 | exact Upd.u2 | exact Upd.u3 | exact Upd.u4 | exact Upd.u5 | (repeat (first | exact Upd.here | apply Upd.there | apply upd_app))) (by rw [Array.size_setIfInBounds]; exact bltI (by omega)) ?_
                  refine XO_nil ?_
                  refine at_D hD (by repeat (first | exact .refl | exact subL_nil | refine .keep ?_ | refine .drop ?_ | refine subL_add ?_)) ?_
                  refine XD_done (by kernel_rfl) ?_
                  refine at_noP ?_
                  rw [cellsI_set, cellsI_set]
                  refine at_block_n ?_
                  refine at_then ?_
                  refine X_region ?_
                  refine XO_v0 (ev_arB rfl rfl rfl (fun hg => by first | omega | (simp [conj] at hg; omega))) rfl rfl rfl ?_
                  refine XO_v0 (ev_move rfl) rfl rfl rfl ?_
                  refine XO_nil ?_
                  exact at_met2 _ _ ⟨n3 - (k + 1), by omega, k + 1, _, rfl, rfl, rfl, rfl, by omega, (swap_perm hxp hxq).trans hnm⟩ (.cons rfl (.cons rfl (.cons rfl (.cons rfl (.cons rfl (.cons rfl (.cons rfl .nil))))))) (by repeat (first | exact .refl | exact subL_left | refine subL_app ?_ | refine .drop ?_ | refine subL_add ?_))
                · skip
                  refine XO_v0 (ev_load rfl sct_3 (fun hg => by first | exact Sl.get0 hH hx0 rfl | exact Sl.get0 hH hx rfl | exact Sl.get0 hDs hy rfl | exact cellI_at hxp | exact cellI_at hxq | exact Cell.there (cellI_at hxw) | exact Sl.get0 hS hcx rfl | exact Sl.get0 hNm hxv rfl | exact Sl.get0 (k := q) hZ (some_getD (d := 0) hZ.len (by simp [conj] at hg; omega)) rfl | exact Cell.h0 rfl | exact Cell.h1 rfl | exact Cell.h2 rfl | exact Cell.h3 rfl | exact Cell.h4 rfl | exact Cell.h5 rfl | (repeat (first | exact Cell.here rfl | apply Cell.there | apply Cell.app)))) rfl rfl rfl ?_
                  refine XO_nil ?_
                  refine at_D hD (by repeat (first | exact .refl | exact subL_nil | refine .keep ?_ | refine .drop ?_ | refine subL_add ?_)) ?_
                  refine XD_one 7 rfl (by kernel_rfl) ?_
                  refine XO_v0 (ev_load rfl sct_3 (fun hg => by first | exact Sl.get0 hH hx0 rfl | exact Sl.get0 hH hx rfl | exact Sl.get0 hDs hy rfl | exact cellI_at hxp | exact cellI_at hxq | exact Cell.there (cellI_at hxw) | exact Sl.get0 hS hcx rfl | exact Sl.get0 hNm hxv rfl | exact Sl.get0 (k := q) hZ (some_getD (d := 0) hZ.len (by simp [conj] at hg; omega)) rfl | exact Cell.h0 rfl | exact Cell.h1 rfl | exact Cell.h2 rfl | exact Cell.h3 rfl | exact Cell.h4 rfl | exact Cell.h5 rfl | (repeat (first | exact Cell.here rfl | apply Cell.there | apply Cell.app)))) rfl rfl rfl ?_
                  refine XO_nil ?_
                  refine at_D hD (by repeat (first | exact .refl | exact subL_nil | refine .keep ?_ | refine .drop ?_ | refine subL_add ?_)) ?_
                  refine XD_take 12 rfl (ev_indexOwn rfl rfl slt_22 (fun hg => by first | omega | (simp [conj] at hg; omega))) (.none rfl) rfl rfl rfl (by kernel_rfl) (by kernel_rfl) (by kernel_rfl) noP_ok hD (by repeat (first | exact .refl | exact subL_nil | refine .keep ?_ | refine .drop ?_ | refine subL_add ?_)) ?_
                  refine XD_one 13 rfl (by kernel_rfl) ?_
                  refine XO_store rfl rfl szt_3 rfl rfl (by first | exact Upd.u0 | exact Upd.u1 | exact Upd.u2 | exact Upd.u3 | exact Upd.u4 | exact Upd.u5 | (repeat (first | exact Upd.here | apply Upd.there | apply upd_app))) (bltI (by omega)) ?_
                  refine XO_nil ?_
                  refine at_D hD (by repeat (first | exact .refl | exact subL_nil | refine .keep ?_ | refine .drop ?_ | refine subL_add ?_)) ?_
                  refine XD_take 14 rfl (ev_indexOwn rfl rfl slt_22 (fun hg => by first | omega | (simp [conj] at hg; omega))) (.none rfl) rfl rfl rfl (by kernel_rfl) (by kernel_rfl) (by kernel_rfl) noP_ok hD (by repeat (first | exact .refl | exact subL_nil | refine .keep ?_ | refine .drop ?_ | refine subL_add ?_)) ?_
                  refine XD_one 15 rfl (by kernel_rfl) ?_
                  refine XO_store rfl rfl szt_3 rfl rfl (by first | exact Upd.u0 | exact Upd.u1 | exact Upd.u2 | exact Upd.u3 | exact Upd.u4 | exact Upd.u5 | (repeat (first | exact Upd.here | apply Upd.there | apply upd_app))) (by rw [Array.size_setIfInBounds]; exact bltI (by omega)) ?_
                  refine XO_nil ?_
                  refine at_D hD (by repeat (first | exact .refl | exact subL_nil | refine .keep ?_ | refine .drop ?_ | refine subL_add ?_)) ?_
                  refine XD_done (by kernel_rfl) ?_
                  refine at_noP ?_
                  rw [cellsI_set, cellsI_set]
                  refine at_block_n ?_
                  refine at_then ?_
                  refine X_region ?_
                  refine XO_v0 (ev_arB rfl rfl rfl (fun hg => by first | omega | (simp [conj] at hg; omega))) rfl rfl rfl ?_
                  refine XO_v0 (ev_move rfl) rfl rfl rfl ?_
                  refine XO_nil ?_
                  exact at_met2 _ _ ⟨n3 - (k + 1), by omega, k + 1, _, rfl, rfl, rfl, rfl, by omega, (swap_perm hxp hxq).trans hnm⟩ (.cons rfl (.cons rfl (.cons rfl (.cons rfl (.cons rfl (.cons rfl (.cons rfl .nil))))))) (by repeat (first | exact .refl | exact subL_left | refine subL_app ?_ | refine .drop ?_ | refine subL_add ?_))
              · skip
                have hge_k : n3 ≤ k := by have h := hc128; simp at h; omega
                refine X_exit ?_
                refine at_then_e ?_
                refine at_then_e ?_
                refine at_block_hit ?_
                refine at_then ?_
                refine X_seq ?_
                refine X_region ?_
                refine XO_v0 (ev_move rfl) rfl rfl rfl ?_
                refine XO_v0 (ev_lenS rfl slt_28) rfl rfl rfl ?_
                refine XO_makeSlice mkt_28 rfl rfl (by omega) (by decide) rfl rfl (fun b_158 => ?_)
                refine XO_v0 (ev_assign rfl) rfl rfl rfl ?_
                refine XO_nil ?_
                rw [e0, cellsH_new]
                refine at_then ?_
                refine X_seq ?_
                refine X_seq ?_
                refine X_region ?_
                refine XO_v0 (ev_move rfl) rfl rfl rfl ?_
                refine XO_v0 (ev_lenS rfl slt_28) rfl rfl rfl ?_
                refine XO_v0 (ev_move rfl) rfl rfl rfl ?_
                refine XO_nil ?_
                refine at_then ?_
                refine X_block ?_
                refine X_loopT [(0, _), (1, _), (9, _), (20, _), (26, _), (159, _), (160, _)] (.cons rfl (.cons rfl (.cons rfl (.cons rfl (.cons rfl (.cons rfl (.cons rfl .nil))))))) (fun T L0 mz E I' loc' => ∃ (i : Nat) (hl : List Hd), mz = n2 - i ∧ E = (161, .int .i64 i) :: T ∧ I3 = I' ∧ [(b_158, .cells (cellsH hl) 22 (0, 0)), (b_114, .cells (cellsI nm) 3 (0, 0))] = loc' ∧ i ≤ n2 ∧ PutQ hs nm i hl) _ _ _ _ ⟨0, _, rfl, rfl, rfl, rfl, Nat.zero_le _, put_0 hH.len⟩ (.cons rfl (.cons rfl (.cons rfl (.cons rfl (.cons rfl (.cons rfl (.cons rfl (.cons rfl .nil)))))))) (HLe.refl _) rfl ?_
                rintro mz E I' loc' ⟨i, hl, rfl, rfl, rfl, rfl, hi, hput⟩
                refine X_seq ?_
                refine X_region ?_
                refine XO_v0 (ev_cmp rfl rfl rfl) rfl rfl rfl ?_
                refine XO_nil ?_
                refine at_then ?_
                refine X_seq ?_
                refine X_cond rfl (fun hc162 => ?_) (fun hc162 => ?_)
                · skip
                  have hlt_i : i < n2 := by have h := hc162; simp at h; omega
                  obtain ⟨x, v, hx, hv, hQ⟩ := hV.at hlt_i
                  obtain ⟨xw, hxw⟩ : ∃ x, nm[i]? = some x := ⟨_, List.getElem?_eq_getElem (by omega)⟩
                  have hxb := ids_in hnm hxw
                  refine X_skip ?_
                  refine at_then ?_
                  refine X_seq ?_
                  refine X_block ?_
                  refine X_seq ?_
                  refine X_region ?_
                  refine XO_v0 (ev_move rfl) rfl rfl rfl ?_
                  refine XO_v0 (ev_indexSl rfl rfl slt_28 hH (fun hg => by first | omega | (simp [conj] at hg; omega))) rfl rfl rfl ?_
                  refine XO_v0 (ev_load rfl sct_22 (fun hg => by first | exact Sl.get0 hH hx0 rfl | exact Sl.get0 hH hx rfl | exact Sl.get0 hDs hy rfl | exact cellI_at hxp | exact cellI_at hxq | exact Cell.there (cellI_at hxw) | exact Sl.get0 hS hcx rfl | exact Sl.get0 hNm hxv rfl | exact Sl.get0 (k := q) hZ (some_getD (d := 0) hZ.len (by simp [conj] at hg; omega)) rfl | exact Cell.h0 rfl | exact Cell.h1 rfl | exact Cell.h2 rfl | exact Cell.h3 rfl | exact Cell.h4 rfl | exact Cell.h5 rfl | (repeat (first | exact Cell.here rfl | apply Cell.there | apply Cell.app)))) rfl rfl rfl ?_
                  refine XO_v0 (ev_assign rfl) rfl rfl rfl ?_
                  refine XO_v0 (ev_assign rfl) rfl rfl rfl ?_
                  refine XO_nil ?_
                  refine at_then ?_
                  refine X_region ?_
                  refine XO_v0 (ev_move rfl) rfl rfl rfl ?_
                  refine XO_v0 (ev_move rfl) rfl rfl rfl ?_
                  refine XO_v0 (ev_move rfl) rfl rfl rfl ?_
                  refine XO_v0 (ev_indexOwn rfl rfl slt_22 (fun hg => by first | omega | (simp [conj] at hg; omega))) rfl rfl rfl ?_
                  refine XO_v0 (ev_load rfl sct_3 (fun hg => by first | exact Sl.get0 hH hx0 rfl | exact Sl.get0 hH hx rfl | exact Sl.get0 hDs hy rfl | exact cellI_at hxp | exact cellI_at hxq | exact Cell.there (cellI_at hxw) | exact Sl.get0 hS hcx rfl | exact Sl.get0 hNm hxv rfl | exact Sl.get0 (k := q) hZ (some_getD (d := 0) hZ.len (by simp [conj] at hg; omega)) rfl | exact Cell.h0 rfl | exact Cell.h1 rfl | exact Cell.h2 rfl | exact Cell.h3 rfl | exact Cell.h4 rfl | exact Cell.h5 rfl | (repeat (first | exact Cell.here rfl | apply Cell.there | apply Cell.app)))) rfl rfl rfl ?_
                  refine XO_v0 (ev_move rfl) rfl rfl rfl ?_
                  refine XO_v0 (ev_indexOwn rfl rfl slt_28 (fun hg => by first | omega | (simp [conj] at hg; omega))) rfl rfl rfl ?_
                  refine XO_store rfl rfl szt_22 rfl rfl (by first | exact Upd.u0 | exact Upd.u1 | exact Upd.u2 | exact Upd.u3 | exact Upd.u4 | exact Upd.u5 | (repeat (first | exact Upd.here | apply Upd.there | apply upd_app))) (bltH (by rw [hput.1, hH.len]; omega)) ?_
                  refine XO_nil ?_
                  rw [cellsH_set]
                  refine at_block_n ?_
                  refine at_then ?_
                  refine X_region ?_
                  refine XO_v0 (ev_arB rfl rfl rfl (fun hg => by first | omega | (simp [conj] at hg; omega))) rfl rfl rfl ?_
                  refine XO_v0 (ev_move rfl) rfl rfl rfl ?_
                  refine XO_nil ?_
                  exact at_met2 _ _ ⟨n2 - (i + 1), by omega, i + 1, _, rfl, rfl, rfl, rfl, by omega, put_1 hput hnm hH.len hx hxw⟩ (.cons rfl (.cons rfl (.cons rfl (.cons rfl (.cons rfl (.cons rfl (.cons rfl (.cons rfl .nil)))))))) (by repeat (first | exact .refl | exact subL_left | refine subL_app ?_ | refine .drop ?_ | refine subL_add ?_))
                · skip
                  have hge_i : n2 ≤ i := by have h := hc162; simp at h; omega
                  have hput : PutQ hs nm n2 hl := by rw [show n2 = i by omega]; exact hput
                  refine X_exit ?_
                  refine at_then_e ?_
                  refine at_then_e ?_
                  refine at_block_hit ?_
                  refine at_then ?_
                  refine X_seq ?_
                  refine X_freezeAll (fun I7 hI7 hall => ?_)
                  have hS := hS.mono hI7
                  have hVn := hVn.mono hI7
                  have hV := hV.mono hI7
                  have hH := hH.mono hI7
                  have hDb := hDb.mono hI7
                  have hDs := hDs.mono hI7
                  have hNR := hNR.mono hI7
                  have hNL := hNL.mono hI7
                  have hCR := hCR.mono hI7
                  have hCL := hCL.mono hI7
                  have hIc := hIc.trans hI7
                  have hNm : Sl _ 1 encI (some ⟨b_114, 0, none⟩) n2 n2 nm := Sl.lit nm hnl encI_len (show _ = some (Obj.cells (nm.flatMap encI).toArray 3 (0, 0)) from hall _ _ (by repeat (first | exact List.mem_cons_self .. | apply List.mem_cons_of_mem)))
                  have hHl : Sl _ 1 encH (some ⟨b_158, 0, none⟩) n2 n2 hl := Sl.lit hl (by rw [hput.1, hH.len]) encH_len (show _ = some (Obj.cells (hl.flatMap encH).toArray 22 (0, 0)) from hall _ _ (by repeat (first | exact List.mem_cons_self .. | apply List.mem_cons_of_mem)))
                  obtain ⟨other, hOth, hol, hoo⟩ := other_ok hV hnm hput (HLe.refl _) hHl
                  refine X_region ?_
                  refine XO_v0 (ev_assign rfl) rfl rfl rfl ?_
                  refine XO_nil ?_
                  refine at_then ?_
                  refine X_seq ?_
                  refine X_seq ?_
                  refine X_region ?_
                  refine XO_v0 (ev_move rfl) rfl rfl rfl ?_
                  refine XO_v0 (ev_lenS rfl slt_22) rfl rfl rfl ?_
                  refine XO_v0 (ev_move rfl) rfl rfl rfl ?_
                  refine XO_nil ?_
                  refine at_then ?_
                  refine X_block ?_
                  refine X_loopT [(0, _), (9, _), (20, _), (26, _), (174, _), (175, _)] (.cons rfl (.cons rfl (.cons rfl (.cons rfl (.cons rfl (.cons rfl .nil)))))) (fun T L0 mz E I' loc' => ∃ (j : Nat) (za : Option Addr) (zn : Nat) (zc : Nat) (zs : List Int), mz = n - j ∧ E = (29, .slice za zn zc) :: (176, .int .i64 j) :: T ∧ HLe I7 I' ∧ [] = loc' ∧ j ≤ n ∧ Sl I' 1 encI za zn zc zs ∧ zn = j ∧ zs.Pairwise (· ≤ ·) ∧ zs.Perm ((xs.take j).map (mskI nm n2))) _ _ _ _ ⟨0, none, 0, 0, [], rfl, rfl, HLe.refl _, rfl, Nat.zero_le _, .nil, rfl, .nil, .refl _⟩ (.cons rfl (.cons rfl (.cons rfl (.cons rfl (.cons rfl (.cons rfl (.cons rfl (.cons rfl .nil)))))))) (HLe.refl _) rfl ?_
                  rintro mz E J8 loc' ⟨j, za, zn, zc, zs, rfl, rfl, hJ, rfl, hj, hZ, hzn, hzp, hzz⟩
                  have hS := hS.mono hJ
                  have hVn := hVn.mono hJ
                  have hV := hV.mono hJ
                  have hH := hH.mono hJ
                  have hDb := hDb.mono hJ
                  have hDs := hDs.mono hJ
                  have hNR := hNR.mono hJ
                  have hNL := hNL.mono hJ
                  have hCR := hCR.mono hJ
                  have hCL := hCL.mono hJ
                  have hNm := hNm.mono hJ
                  have hOth := hOth.mono hJ
                  have hIc := hIc.trans hJ
                  have hB8 := hJ
                  refine X_seq ?_
                  refine X_region ?_
                  refine XO_v0 (ev_cmp rfl rfl rfl) rfl rfl rfl ?_
                  refine XO_nil ?_
                  refine at_then ?_
                  refine X_seq ?_
                  refine X_cond rfl (fun hc177 => ?_) (fun hc177 => ?_)
                  · skip
                    have hlt_j : j < n := by have h := hc177; simp at h; omega
                    obtain ⟨cc, hcx⟩ := hS.at hlt_j
                    have hcb := chk_mem hc0 (List.mem_of_getElem? hcx)
                    refine X_skip ?_
                    refine at_then ?_
                    refine X_seq ?_
                    refine X_block ?_
                    refine X_seq ?_
                    refine X_region ?_
                    refine XO_v0 (ev_indexSl rfl rfl slt_22 hS (fun hg => by first | omega | (simp [conj] at hg; omega))) rfl rfl rfl ?_
                    refine XO_v0 (ev_load rfl sct_3 (fun hg => by first | exact Sl.get0 hH hx0 rfl | exact Sl.get0 hH hx rfl | exact Sl.get0 hDs hy rfl | exact cellI_at hxp | exact cellI_at hxq | exact Cell.there (cellI_at hxw) | exact Sl.get0 hS hcx rfl | exact Sl.get0 hNm hxv rfl | exact Sl.get0 (k := q) hZ (some_getD (d := 0) hZ.len (by simp [conj] at hg; omega)) rfl | exact Cell.h0 rfl | exact Cell.h1 rfl | exact Cell.h2 rfl | exact Cell.h3 rfl | exact Cell.h4 rfl | exact Cell.h5 rfl | (repeat (first | exact Cell.here rfl | apply Cell.there | apply Cell.app)))) rfl rfl rfl ?_
                    refine XO_v0 (ev_assign rfl) rfl rfl rfl ?_
                    refine XO_nil ?_
                    refine at_then ?_
                    refine X_seq ?_
                    refine X_region ?_
                    refine XO_v0 (ev_assign rfl) rfl rfl rfl ?_
                    refine XO_nil ?_
                    refine at_then ?_
                    refine X_seq ?_
                    refine X_seq ?_
                    refine X_region ?_
                    refine XO_v0 (ev_move rfl) rfl rfl rfl ?_
                    refine XO_v0 (ev_lenS rfl slt_28) rfl rfl rfl ?_
                    refine XO_v0 (ev_move rfl) rfl rfl rfl ?_
                    refine XO_nil ?_
                    refine at_then ?_
                    refine X_block ?_
                    refine X_loopT [(0, _), (9, _), (20, _), (26, _), (29, _), (31, _), (174, _), (175, _), (176, _), (181, _)] (.cons rfl (.cons rfl (.cons rfl (.cons rfl (.cons rfl (.cons rfl (.cons rfl (.cons rfl (.cons rfl (.cons rfl .nil)))))))))) (fun T L0 mz E I' loc' => ∃ (w : Nat), mz = n2 - w ∧ E = (32, .int .i64 ((msk (nmP nm) w cc.toNat : Nat) : Int)) :: (182, .int .i64 w) :: T ∧ J8 = I' ∧ [] = loc' ∧ w ≤ n2) _ _ _ _ ⟨0, rfl, rfl, rfl, rfl, Nat.zero_le _⟩ (.cons rfl (.cons rfl (.cons rfl (.cons rfl (.cons rfl (.cons rfl (.cons rfl (.cons rfl (.cons rfl (.cons rfl (.cons rfl (.cons rfl .nil)))))))))))) (HLe.refl _) rfl ?_
                    rintro mz E I' loc' ⟨w, rfl, rfl, rfl, rfl, hw⟩
                    refine X_seq ?_
                    refine X_region ?_
                    refine XO_v0 (ev_cmp rfl rfl rfl) rfl rfl rfl ?_
                    refine XO_nil ?_
                    refine at_then ?_
                    refine X_seq ?_
                    refine X_cond rfl (fun hc183 => ?_) (fun hc183 => ?_)
                    · skip
                      have hlt_w : w < n2 := by have h := hc183; simp at h; omega
                      obtain ⟨xv, hxv⟩ := hNm.at hlt_w
                      have hxb := ids_in hnm hxv
                      have hpv : nmP nm w = xv.toNat := nat_at hxv
                      refine X_skip ?_
                      refine at_then ?_
                      refine X_seq ?_
                      refine X_block ?_
                      refine X_seq ?_
                      refine X_region ?_
                      refine XO_v0 (ev_move rfl) rfl rfl rfl ?_
                      refine XO_v0 (ev_assign rfl) rfl rfl rfl ?_
                      refine XO_nil ?_
                      refine at_then ?_
                      refine X_seq ?_
                      refine X_region ?_
                      refine XO_v0 (ev_move rfl) rfl rfl rfl ?_
                      refine XO_v0 (ev_move rfl) rfl rfl rfl ?_
                      refine XO_v0 (ev_shr rfl rfl (by omega) rfl) rfl rfl rfl ?_
                      refine XO_v0 (ev_and rfl rfl) rfl rfl rfl ?_
                      refine XO_v0 (ev_cmp rfl rfl rfl) rfl rfl rfl ?_
                      refine XO_nil ?_
                      refine at_then ?_
                      refine X_cond rfl (fun hc189 => ?_) (fun hc189 => ?_)
                      · skip
                        have hbit : cc.toNat.testBit w = true := by rw [← bit_at hcb (by omega)]; exact hc189
                        refine X_region ?_
                        refine XO_v0 (ev_move rfl) rfl rfl rfl ?_
                        refine XO_v0 (ev_move rfl) rfl rfl rfl ?_
                        refine XO_v0 (ev_move rfl) rfl rfl rfl ?_
                        refine XO_v0 (ev_indexSl rfl rfl slt_22 hNm (fun hg => by first | omega | (simp [conj] at hg; omega))) rfl rfl rfl ?_
                        refine XO_v0 (ev_load rfl sct_3 (fun hg => by first | exact Sl.get0 hH hx0 rfl | exact Sl.get0 hH hx rfl | exact Sl.get0 hDs hy rfl | exact cellI_at hxp | exact cellI_at hxq | exact Cell.there (cellI_at hxw) | exact Sl.get0 hS hcx rfl | exact Sl.get0 hNm hxv rfl | exact Sl.get0 (k := q) hZ (some_getD (d := 0) hZ.len (by simp [conj] at hg; omega)) rfl | exact Cell.h0 rfl | exact Cell.h1 rfl | exact Cell.h2 rfl | exact Cell.h3 rfl | exact Cell.h4 rfl | exact Cell.h5 rfl | (repeat (first | exact Cell.here rfl | apply Cell.there | apply Cell.app)))) rfl rfl rfl ?_
                        refine XO_v0 (ev_shl rfl rfl (fun hg => by first | decide | omega | (simp [conj] at hg; omega))) rfl rfl rfl ?_
                        refine XO_v0 (ev_or rfl rfl) rfl rfl rfl ?_
                        refine XO_v0 (ev_assign rfl) rfl rfl rfl ?_
                        refine XO_nil ?_
                        rw [or_at (msk_lt hnm (by omega) w (by omega)) (by omega), show (msk (nmP nm) w cc.toNat ||| 2 ^ xv.toNat) = msk (nmP nm) (w + 1) cc.toNat by rw [msk_step, if_pos hbit, hpv]]
                        refine at_block_n ?_
                        refine at_then ?_
                        refine X_region ?_
                        refine XO_v0 (ev_arB rfl rfl rfl (fun hg => by first | omega | (simp [conj] at hg; omega))) rfl rfl rfl ?_
                        refine XO_v0 (ev_move rfl) rfl rfl rfl ?_
                        refine XO_nil ?_
                        exact at_met2 _ _ ⟨n2 - (w + 1), by omega, w + 1, rfl, rfl, rfl, rfl, by omega⟩ (.cons rfl (.cons rfl (.cons rfl (.cons rfl (.cons rfl (.cons rfl (.cons rfl (.cons rfl (.cons rfl (.cons rfl (.cons rfl (.cons rfl .nil)))))))))))) (by repeat (first | exact .refl | exact subL_left | refine subL_app ?_ | refine .drop ?_ | refine subL_add ?_))
                      · skip
                        have hbit : ¬ cc.toNat.testBit w = true := by rw [← bit_at hcb (by omega)]; rw [hc189]; decide
                        rw [show msk (nmP nm) w cc.toNat = msk (nmP nm) (w + 1) cc.toNat by rw [msk_step, if_neg hbit]]
                        refine X_skip ?_
                        refine at_block_n ?_
                        refine at_then ?_
                        refine X_region ?_
                        refine XO_v0 (ev_arB rfl rfl rfl (fun hg => by first | omega | (simp [conj] at hg; omega))) rfl rfl rfl ?_
                        refine XO_v0 (ev_move rfl) rfl rfl rfl ?_
                        refine XO_nil ?_
                        exact at_met2 _ _ ⟨n2 - (w + 1), by omega, w + 1, rfl, rfl, rfl, rfl, by omega⟩ (.cons rfl (.cons rfl (.cons rfl (.cons rfl (.cons rfl (.cons rfl (.cons rfl (.cons rfl (.cons rfl (.cons rfl (.cons rfl (.cons rfl .nil)))))))))))) (by repeat (first | exact .refl | exact subL_left | refine subL_app ?_ | refine .drop ?_ | refine subL_add ?_))
                    · skip
                      have hge_w : n2 ≤ w := by have h := hc183; simp at h; omega
                      rw [show w = n2 by omega]
                      refine X_exit ?_
                      refine at_then_e ?_
                      refine at_then_e ?_
                      refine at_block_hit ?_
                      refine at_then ?_
                      refine X_seq ?_
                      refine X_region ?_
                      refine XO_v0 (ev_assign rfl) rfl rfl rfl ?_
                      refine XO_nil ?_
                      refine at_then ?_
                      refine X_seq ?_
                      refine X_block ?_
                      refine X_loopT [(0, _), (9, _), (20, _), (26, _), (29, _), (32, _), (174, _), (175, _), (176, _)] (.cons rfl (.cons rfl (.cons rfl (.cons rfl (.cons rfl (.cons rfl (.cons rfl (.cons rfl (.cons rfl .nil))))))))) (fun T L0 mz E I' loc' => ∃ (q : Nat), mz = zn - q ∧ E = (34, .int .i64 q) :: T ∧ J8 = I' ∧ [] = loc' ∧ q ≤ zn ∧ ∀ y ∈ zs.take q, y < ((msk (nmP nm) n2 cc.toNat : Nat) : Int)) _ _ _ _ ⟨0, rfl, rfl, rfl, rfl, Nat.zero_le _, by simp⟩ (.cons rfl (.cons rfl (.cons rfl (.cons rfl (.cons rfl (.cons rfl (.cons rfl (.cons rfl (.cons rfl (.cons rfl .nil)))))))))) (HLe.refl _) rfl ?_
                      rintro mz E I' loc' ⟨q, rfl, rfl, rfl, rfl, hq, hq2⟩
                      refine X_seq ?_
                      refine X_seq ?_
                      refine X_region ?_
                      refine XO_v0 (ev_move rfl) rfl rfl rfl ?_
                      refine XO_v0 (ev_move rfl) rfl rfl rfl ?_
                      refine XO_v0 (ev_lenS rfl slt_22) rfl rfl rfl ?_
                      refine XO_v0 (ev_cmp rfl rfl rfl) rfl rfl rfl ?_
                      refine XO_v0 (ev_move rfl) rfl rfl rfl ?_
                      refine XO_pushT 4 rfl rfl rfl ?_
                      refine XO_v1 (ev_move rfl) (.some rfl rfl rfl rfl gbt) rfl rfl rfl ?_
                      refine XO_v1 (ev_move rfl) (.some rfl rfl rfl rfl gbt) rfl rfl rfl ?_
                      refine XO_v1 (ev_indexSl rfl rfl slt_22 hZ (fun hg => by first | omega | (simp [conj] at hg; omega))) (.some rfl rfl rfl rfl gbt) rfl rfl rfl ?_
                      refine XO_v1 (ev_load rfl sct_3 (fun hg => by first | exact Sl.get0 hH hx0 rfl | exact Sl.get0 hH hx rfl | exact Sl.get0 hDs hy rfl | exact cellI_at hxp | exact cellI_at hxq | exact Cell.there (cellI_at hxw) | exact Sl.get0 hS hcx rfl | exact Sl.get0 hNm hxv rfl | exact Sl.get0 (k := q) hZ (some_getD (d := 0) hZ.len (by simp [conj] at hg; omega)) rfl | exact Cell.h0 rfl | exact Cell.h1 rfl | exact Cell.h2 rfl | exact Cell.h3 rfl | exact Cell.h4 rfl | exact Cell.h5 rfl | (repeat (first | exact Cell.here rfl | apply Cell.there | apply Cell.app)))) (.some rfl rfl rfl rfl gbt) rfl rfl rfl ?_
                      refine XO_v1 (ev_move rfl) (.some rfl rfl rfl rfl gbt) rfl rfl rfl ?_
                      refine XO_v1 (ev_cmp rfl rfl rfl) (.some rfl rfl rfl rfl gbt) rfl rfl rfl ?_
                      refine XO_and0 rfl rfl rfl rfl rfl ?_
                      refine XO_nil ?_
                      refine at_then ?_
                      refine X_cond rfl (fun hc209 => ?_) (fun hc209 => ?_)
                      · skip
                        have h209 := (Bool.and_eq_true _ _).mp hc209
                        have hlt_q : q < zn := by have h := h209.1; simp at h; omega
                        obtain ⟨yz, hyz⟩ := hZ.at hlt_q
                        have hym : yz < ((msk (nmP nm) n2 cc.toNat : Nat) : Int) := by have h := h209.2; rw [getD_of hyz] at h; simpa using h
                        refine X_skip ?_
                        refine at_then ?_
                        refine X_block ?_
                        refine X_region ?_
                        refine XO_v0 (ev_move rfl) rfl rfl rfl ?_
                        refine XO_v0 (ev_arB rfl rfl rfl (fun hg => by first | omega | (simp [conj] at hg; omega))) rfl rfl rfl ?_
                        refine XO_v0 (ev_assign rfl) rfl rfl rfl ?_
                        refine XO_nil ?_
                        refine at_block_n ?_
                        exact at_met2 _ _ ⟨zn - (q + 1), by omega, q + 1, rfl, rfl, rfl, rfl, by omega, by intro y9 hy9; rw [take_snoc hyz] at hy9; rcases List.mem_append.1 hy9 with h | h; exact hq2 y9 h; rw [List.mem_singleton.1 h]; exact hym⟩ (.cons rfl (.cons rfl (.cons rfl (.cons rfl (.cons rfl (.cons rfl (.cons rfl (.cons rfl (.cons rfl (.cons rfl .nil)))))))))) (by repeat (first | exact .refl | exact subL_left | refine subL_app ?_ | refine .drop ?_ | refine subL_add ?_))
                      · skip
                        have hq3 := not_lt_at hZ.len hc209
                        refine X_exit ?_
                        refine at_then_e ?_
                        refine at_then_e ?_
                        refine at_block_hit ?_
                        refine at_then ?_
                        have hD := HLe.refl J8
                        refine X_noP ?_
                        refine X_drawS J8 [] mixed ?_
                        refine XD_take 0 rfl (ev_move rfl) (.none rfl) rfl rfl rfl (by kernel_rfl) (by kernel_rfl) (by kernel_rfl) noP_ok hD (by repeat (first | exact .refl | exact subL_nil | refine .keep ?_ | refine .drop ?_ | refine subL_add ?_)) ?_
                        refine XD_take 1 rfl (ev_move rfl) (.none rfl) rfl rfl rfl (by kernel_rfl) (by kernel_rfl) (by kernel_rfl) noP_ok hD (by repeat (first | exact .refl | exact subL_nil | refine .keep ?_ | refine .drop ?_ | refine subL_add ?_)) ?_
                        refine XD_take 2 rfl (ev_move rfl) (.none rfl) rfl rfl rfl (by kernel_rfl) (by kernel_rfl) (by kernel_rfl) noP_ok hD (by repeat (first | exact .refl | exact subL_nil | refine .keep ?_ | refine .drop ?_ | refine subL_add ?_)) ?_
                        refine XD_take 3 rfl (ev_sliceM rfl rfl rfl slt_22 (fun _ => by have := hZ.cap; omega)) (.none rfl) rfl rfl rfl (by kernel_rfl) (by kernel_rfl) (by kernel_rfl) noP_ok hD (by repeat (first | exact .refl | exact subL_nil | refine .keep ?_ | refine .drop ?_ | refine subL_add ?_)) ?_
                        refine XD_take 4 rfl (ev_move rfl) (.none rfl) rfl rfl rfl (by kernel_rfl) (by kernel_rfl) (by kernel_rfl) noP_ok hD (by repeat (first | exact .refl | exact subL_nil | refine .keep ?_ | refine .drop ?_ | refine subL_add ?_)) ?_
                        refine XD_take 6 rfl (ev_move rfl) (.none rfl) rfl rfl rfl (by kernel_rfl) (by kernel_rfl) (by kernel_rfl) noP_ok hD (by repeat (first | exact .refl | exact subL_nil | refine .keep ?_ | refine .drop ?_ | refine subL_add ?_)) ?_
                        refine XD_take 7 rfl (ev_move rfl) (.none rfl) rfl rfl rfl (by kernel_rfl) (by kernel_rfl) (by kernel_rfl) noP_ok hD (by repeat (first | exact .refl | exact subL_nil | refine .keep ?_ | refine .drop ?_ | refine subL_add ?_)) ?_
                        refine XD_take 8 rfl (ev_sliceLo rfl rfl slt_22 (fun hg => by first | omega | (simp [conj] at hg; omega))) (.none rfl) rfl rfl rfl (by kernel_rfl) (by kernel_rfl) (by kernel_rfl) noP_ok hD (by repeat (first | exact .refl | exact subL_nil | refine .keep ?_ | refine .drop ?_ | refine subL_add ?_)) ?_
                        refine XD_one 5 rfl (by kernel_rfl) ?_
                        refine XO_buildSlice (ps := [(0, _)]) (m := [encI ((msk (nmP nm) n2 cc.toNat : Nat) : Int)]) elt_22 rfl (.cons rfl (.nil)) rfl (by simp [encH_len, encI_len]) (by decide) (by decide) rfl rfl (fun b_217 => ?_)
                        refine XO_nil ?_
                        refine at_D hD (by repeat (first | exact .refl | exact subL_nil | refine .keep ?_ | refine .drop ?_ | refine subL_add ?_)) ?_
                        refine XD_one 9 rfl (by kernel_rfl) ?_
                        refine XO_append (v := _) (ys := (zs.drop q).flatMap encI) (L := [(b_217, _)]) rfl rfl elt_22 (OwnS.lit (n := 1) rfl (by decide)) (by repeat (first | exact .cons .here .nil | exact split_all | exact split_app | apply split_cons | apply split_skip)) ((hZ.drop hq).src encI_len) (one_I _) (by omega) rfl rfl ?_
                        intro v8 L8 hO8 _; have hO8 : OwnS 3 1 v8 (1 + (zn - q)) (([((msk (nmP nm) n2 cc.toNat : Nat) : Int)] ++ zs.drop q).flatMap encI) L8 := by rw [List.flatMap_append]; exact hO8
                        refine XO_nil ?_
                        refine at_D hD (by repeat (first | exact .refl | exact subL_nil | refine .keep ?_ | refine .drop ?_ | refine subL_add ?_)) ?_
                        refine XD_one 10 rfl (by kernel_rfl) ?_
                        refine XO_freezeO hO8 encI_len (by decide) (by repeat (first | exact .cons .here .nil | exact split_all | exact split_app | apply split_cons | apply split_skip)) (fun I11 hI11 af11 cf11 ef11 hY => ?_)
                        subst ef11
                        have hS := hS.mono hI11
                        have hVn := hVn.mono hI11
                        have hV := hV.mono hI11
                        have hH := hH.mono hI11
                        have hDb := hDb.mono hI11
                        have hDs := hDs.mono hI11
                        have hNR := hNR.mono hI11
                        have hNL := hNL.mono hI11
                        have hCR := hCR.mono hI11
                        have hCL := hCL.mono hI11
                        have hNm := hNm.mono hI11
                        have hOth := hOth.mono hI11
                        have hZ := hZ.mono hI11
                        have hIc := hIc.trans hI11
                        have hB8 := hB8.trans hI11
                        have hD := hD.trans hI11
                        refine XO_appendCut encI_len (by decide) rfl rfl elt_22 ((hZ.take hq).cut) hY (by omega) rfl rfl ?_
                        intro I12 ac cc9 hI12 hZ9
                        have hS := hS.mono hI12
                        have hVn := hVn.mono hI12
                        have hV := hV.mono hI12
                        have hH := hH.mono hI12
                        have hDb := hDb.mono hI12
                        have hDs := hDs.mono hI12
                        have hNR := hNR.mono hI12
                        have hNL := hNL.mono hI12
                        have hCR := hCR.mono hI12
                        have hCL := hCL.mono hI12
                        have hNm := hNm.mono hI12
                        have hOth := hOth.mono hI12
                        have hZ := hZ.mono hI12
                        have hY := hY.mono hI12
                        have hIc := hIc.trans hI12
                        have hB8 := hB8.trans hI12
                        have hD := hD.trans hI12
                        refine XO_nil ?_
                        refine at_D hD (by repeat (first | exact .refl | exact subL_nil | refine .keep ?_ | refine .drop ?_ | refine subL_add ?_)) ?_
                        refine XD_take 11 rfl (ev_assign rfl) (.none rfl) rfl rfl rfl (by kernel_rfl) (by kernel_rfl) (by kernel_rfl) noP_ok hD (by repeat (first | exact .refl | exact subL_nil | refine .keep ?_ | refine .drop ?_ | refine subL_add ?_)) ?_
                        refine XD_done (by kernel_rfl) ?_
                        refine at_noP ?_
                        refine at_block_n ?_
                        refine at_then ?_
                        refine X_region ?_
                        refine XO_v0 (ev_arB rfl rfl rfl (fun hg => by first | omega | (simp [conj] at hg; omega))) rfl rfl rfl ?_
                        refine XO_v0 (ev_move rfl) rfl rfl rfl ?_
                        refine XO_nil ?_
                        exact at_met2 _ _ ⟨n - (j + 1), by omega, j + 1, _, _, _, _, rfl, rfl, hB8, rfl, by omega, hZ9, by omega, (ins_ok hzp hq2 hq3).1, ((ins_ok hzp hq2 hq3).2.trans ((hzz.cons _).trans (by rw [map_next hcx]; exact (List.perm_append_comm (l₁ := [_])))))⟩ (.cons rfl (.cons rfl (.cons rfl (.cons rfl (.cons rfl (.cons rfl (.cons rfl (.cons rfl .nil)))))))) (by repeat (first | exact .refl | exact subL_left | refine subL_app ?_ | refine .drop ?_ | refine subL_add ?_))
                  · skip
                    have hge_j : n ≤ j := by have h := hc177; simp at h; omega
                    rw [List.take_of_length_le (by rw [hS.len]; exact hge_j)] at hzz
                    refine X_exit ?_
                    refine at_then_e ?_
                    refine at_then_e ?_
                    refine at_block_hit ?_
                    refine at_then ?_
                    refine X_seq ?_
                    refine X_region ?_
                    refine XO_v0 (ev_move rfl) rfl rfl rfl ?_
                    refine XO_v0 (ev_move rfl) rfl rfl rfl ?_
                    refine XO_callV0 (cap := []) (vs := [_, _]) rfl rfl fun_19 (w_Cost hZ (by omega) hOth hn2 hDb) rfl rfl ?_
                    refine XO_v0 (ev_move rfl) rfl rfl rfl ?_
                    refine XO_v0 (ev_extract rfl rfl) rfl rfl rfl ?_
                    refine XO_v0 (ev_extract rfl rfl) rfl rfl rfl ?_
                    refine XO_v0 (ev_assign rfl) rfl rfl rfl ?_
                    refine XO_v0 (ev_assign rfl) rfl rfl rfl ?_
                    refine XO_nil ?_
                    refine at_then ?_
                    refine X_seq ?_
                    refine X_region ?_
                    refine XO_v0 (ev_move rfl) rfl rfl rfl ?_
                    refine XO_v0 (ev_cmp rfl rfl rfl) rfl rfl rfl ?_
                    refine XO_v0 (ev_move rfl) rfl rfl rfl ?_
                    refine XO_pushT 2 rfl rfl rfl ?_
                    refine XO_v1 (ev_move rfl) (.some rfl rfl rfl rfl gbt) rfl rfl rfl ?_
                    refine XO_v1 (ev_move rfl) (.some rfl rfl rfl rfl gbt) rfl rfl rfl ?_
                    refine XO_v1 (ev_cmp rfl rfl rfl) (.some rfl rfl rfl rfl gbt) rfl rfl rfl ?_
                    refine XO_and0 rfl rfl rfl rfl rfl ?_
                    refine XO_v0 (ev_assign rfl) rfl rfl rfl ?_
                    refine XO_nil ?_
                    refine at_then ?_
                    refine X_ret ?_
                    first
                    | exact at_ret1 rfl rfl (fun w hw => ⟨by rfl, (hw.mono hIc).drop⟩)
                    | exact at_ret1 rfl rfl (fun w hw => ⟨by rw [loci_end hr0 hcE (hlV ▸ hnm) (by rw [hol, hlV]) (by rw [hlV]; exact hoo) hzp (by rw [hlV]; exact hzz)], (hw.mono hIc).drop⟩)
end Go.Proofs.YtkpmnnflikkhmaaDoor
end
section
namespace Go.Kn
open Go Go.ChangeShapes Go.WideShapes Go.ChangeAt Go.RowKit
/-- All that lies in the world is read only. -/
def heapI (W : World) : HMap := fun b => W.heap[b]?
theorem St.start (W : World) : St W (heapI W) (fun _ => none) [] W :=
  ⟨rfl, rfl, rfl, ⟨Nat.le_refl _, Nat.le_refl _⟩, fun _ _ h => h, (fun _ _ h => by cases h), (fun _ _ h => by cases h), fun _ => .inr rfl, (fun _ _ h => by cases h), by simp⟩
theorem St.below {W w : World} {H : HMap} {loc : Loc} (h : St W (heapI W) H loc w) : Below W.heap.size W w :=
  ⟨h.os, h.tape, h.out, h.size.1, fun k hk => by
    have e : W.heap[k]? = some W.heap[k] := Array.getElem?_eq_getElem hk
    rw [h.imm k _ e, e]⟩
theorem RetV.law {P : Program} {f : FuncId} {args : List Value} {W : World} {v : Value} (h : RetV P f args (heapI W) v) : Calls P f args.toArray W fun e w' => e = .returned v ∧ Below W.heap.size W w' :=
  (h W _ W (St.start W)).mono fun _ _ ⟨he, hs⟩ => ⟨he, hs.below⟩
theorem keptBut_below {W w : World} {may : MemPlace → Prop} (h : Below W.heap.size W w) : W.keptBut w may := by
  refine ⟨h.os, h.output, fun i hi => ?_⟩
  rw [h.block i hi]
  rw [Array.getElem?_eq_getElem hi]
  cases W.heap[i] <;> simp
theorem trodAll_stays {H : Type} {enc : TypeId × Value → H} {P : Program} {W W' : World} (hl : laidOutB P = true) (hB : Below W.heap.size W W') (sp : Nat → Bool) : ∀ (ts : List TypeId) (vs : List Value) (ds : List (DataW H)) (ps : List MemPlace), (∀ t ∈ ts, P.readableRec t = true ∧ t < P.types.size) →
    DataW.TrodAll enc P W 0 (fun _ => true) true ts vs ds ps → (∀ x ∈ ps, x.block < W.heap.size ∧ sp x.block = true) → DataW.TrodAll enc P W' 0 sp true ts vs ds ps
  | [], [], [], ps, _, h, _ => h
  | t :: ts, v :: vs, d :: ds, ps, hr, ⟨p, q, h1, h2, e⟩, hlt => by
    subst e
    exact ⟨p, q, WideElems.Trod_stays hl (hr t (List.mem_cons_self ..)).1 (hr t (List.mem_cons_self ..)).2 h1 (fun x hx => hB.same (hlt x (List.mem_append_left _ hx)).1) (fun x hx => (hlt x (List.mem_append_left _ hx)).2),
      trodAll_stays hl hB sp ts vs ds q (fun t ht => hr t (List.mem_cons_of_mem _ ht)) h2 (fun x hx => hlt x (List.mem_append_right _ hx)), rfl⟩
/-- A law's row: it hands back true; the input reads as it did. -/
theorem post_law {H : Type} {enc : TypeId × Value → H} {P : Program} {f : Func} {s : ChangeSpec} {again : Bool} {W W' : World} {args : Array Value} {ds : List (DataW H)} {before : List MemPlace} {tb : TypeId}
    (hl : laidOutB P = true) (hr : f.resultTypes = #[tb]) (hb : P.underlying tb = some .bool) (hv : s.vars = []) (hs : (s.fn H (ds ++ [])) = { results := [.lit (.bool true)], args := ds }) (hrd : ∀ t ∈ f.params.toList, P.readableRec t = true ∧ t < P.types.size)
    (hW : DataW.Whole enc P f.params.toList s.vars false W args.toList ds [] before) (hB : Below W.heap.size W W') : s.post enc P f false true false again W args (.bool true) W' := by
  have hlt : ∀ x ∈ before, x.block < W.heap.size := fun x hx => by simpa using hW.lt x hx
  have hW0 := hW
  obtain ⟨p, q, hA, hV, rfl, hfz, _⟩ := hW
  rw [hv] at hV
  obtain ⟨_, rfl⟩ := trodVars_none hV
  rw [List.append_nil] at hlt hfz hW0
  have hres : ∀ (b : Nat) (sp : Nat → Bool) (hd : Bool), DataW.TrodAll enc P W' b sp hd f.resultTypes.toList ((Value.bool true).resultList f.resultTypes.size) [.lit (.bool true)] [] := fun b sp hd => by
    rw [hr]; exact trodAll_mk1 (shut_bool hb true)
  have hargs : ∀ sp : Nat → Bool, (∀ x ∈ p, sp x.block = true) → DataW.TrodAll enc P W' 0 sp true f.params.toList args.toList ds p := fun sp h => trodAll_stays hl hB sp _ _ _ _ hrd hA (fun x hx => ⟨hlt x hx, h x hx⟩)
  have hnil : ∀ sp : Nat → Bool, DataW.TrodVars enc P W' sp s.vars [] [] := fun sp => by rw [hv]; rfl
  refine ⟨ds, [], p, [], p, [], hW0, ?_, ?_, ?_, keptBut_below hB, fun _ => ?_⟩
  · rw [hs]; exact hres _ _ _
  · rw [hs]; exact hargs _ (fun x hx => by simpa using hlt x hx)
  · rw [hs]; exact hnil _
  · refine ⟨fun j t r ht hr' => ?_, [.lit (.bool true)] ++ ds, [], [] ++ p, ⟨[] ++ p, [], trodAll_append (hargs _ (fun _ _ => rfl)) (hres _ _ _), hnil _, by simp, ?_, fun h => by cases h⟩, fun x hx _ => by simpa using hx⟩
    · rw [hr] at ht hr'
      cases j with
      | zero => simp [Value.resultList] at ht hr'; subst ht; subst hr'; exact okWide_bool_mk hb _
      | succ j => simp at ht
    · intro b off hx
      rw [hB.frozen (hlt _ (by simpa using hx))]
      exact hfz b off (by simpa using hx)
theorem cell_heap {W : World} {b o : Nat} {u : Value} (h : W.cell? ⟨b, o, none⟩ = some u) : Cell (heapI W) [] b o u := by
  unfold World.cell? at h
  split at h
  · rename_i c t fz hb
    simp only [Option.isSome_none, Bool.false_eq_true, if_false] at h
    exact ⟨c, t, fz, .inl hb, h⟩
  · cases h
/-- A slice that came in, as it is read. -/
theorem open_SlT {H : Type} {enc : TypeId × Value → H} {P : Program} {W : World} {t e : TypeId} {size fuel0 : Nat} {cs : List Value} {x0 : DataW H × List MemPlace} {α : Type} (enc' : α → List Value) (ok : α → Prop)
    (ht : P.underlying t = some (.slice e)) (hc : P.cellsOf e = size) (hpos : 0 < size) (hlen : ∀ y, (enc' y).length = size)
    (hel : ∀ fuel cs x, DataW.trod enc P W 0 (fun _ => true) true fuel e cs = some x → ∃ y, ok y ∧ enc' y = cs)
    (hf' : DataW.trod enc P W 0 (fun _ => true) true fuel0 t cs = some x0) : ∃ av n c xs, cs = [.slice av n c] ∧ Sl (heapI W) size enc' av n c xs ∧ (∀ x ∈ xs, ok x) ∧ c ≤ maxLen := by
  rcases Go.Deep.open_slice ht hf' with ⟨e1, _⟩ | ⟨a, len0, cap0, m, n, D, Pl, e1, hb, hl, hm, hmm, _, hx⟩
  · subst e1
    exact ⟨none, 0, 0, [], rfl, .nil, (fun x hx => by cases hx), Nat.zero_le _⟩
  · subst e1
    have hlm : len0 ≤ m := by rw [hmm]; simp; exact hl
    have each : ∀ i, i < len0 → ∃ y, ok y ∧ W.cells? 0 (a.add (i * size)) size = some (enc' y) := fun i hi => by
      obtain ⟨cs', h1, h2⟩ := hx i (by omega)
      obtain ⟨y, hy, e⟩ := hel _ _ _ h2
      rw [hc] at h1
      exact ⟨y, hy, by rw [h1, e]⟩
    have all : ∀ k, k ≤ len0 → ∃ xs : List α, xs.length = k ∧ ∀ i x, xs[i]? = some x → ok x ∧ W.cells? 0 (a.add (i * size)) size = some (enc' x) := by
      intro k
      induction k with
      | zero => intro _; exact ⟨[], rfl, fun i x h => by simp at h⟩
      | succ k ih =>
        intro hk
        obtain ⟨xs, hl', hxs⟩ := ih (by omega)
        obtain ⟨y, hy, hcy⟩ := each k (by omega)
        refine ⟨xs ++ [y], by simp [hl'], fun i x h => ?_⟩
        by_cases hi : i < xs.length
        · rw [List.getElem?_append_left hi] at h; exact hxs i x h
        · rw [List.getElem?_append_right (by omega)] at h
          have : i = k := by have := (List.getElem?_eq_some_iff.1 h).1; simp at this; omega
          subst this
          rw [hl'] at h; simp at h; subst h
          exact ⟨hy, hcy⟩
    obtain ⟨xs, hl', hxs⟩ := all len0 (Nat.le_refl _)
    have add0 : ∀ (b o n : Nat), (⟨b, o, none⟩ : Addr).add n = ⟨b, o + n, none⟩ := fun b o n => by
      unfold Addr.add
      split
      · rename_i e; subst e; rfl
      · rfl
    have hspot : 0 < xs.length → a.spot = none := fun hx => by
      have hx0 : xs[0]? = some xs[0] := List.getElem?_eq_getElem hx
      have hp0 : 0 < (enc' xs[0]).length := by rw [hlen]; exact hpos
      obtain ⟨_, h1, h2⟩ := World.cells?_some (hxs 0 _ hx0).2
      have h3 := h2 0 hpos
      rw [List.getElem?_eq_getElem hp0] at h3
      simpa [Addr.add] using World.cell?_spot h3
    have cellat : ∀ i x, xs[i]? = some x → ∀ j u, (enc' x)[j]? = some u → W.cell? ⟨a.block, a.off + i * size + j, none⟩ = some u := fun i x hx j u hu => by
      obtain ⟨_, h1, h2⟩ := World.cells?_some (hxs i x hx).2
      have hj : j < size := by rw [← hlen x]; exact (List.getElem?_eq_some_iff.1 hu).1
      have h3 := h2 j hj
      rw [hu] at h3
      have hsp := hspot (by have := (List.getElem?_eq_some_iff.1 hx).1; omega)
      obtain ⟨b, o, sp⟩ := a
      simp only at hsp
      subst hsp
      rw [add0, add0] at h3
      exact h3
    refine ⟨some a, len0, cap0, xs, rfl, ⟨hl', hl, fun hn => ?_, fun k x hx j u hu => ?_⟩, fun x hx => ?_, hm⟩
    · have := hspot (by omega)
      obtain ⟨b, o, sp⟩ := a
      simp only at this
      subst this; rfl
    · exact cell_heap (cellat k x hx j u hu)
    · obtain ⟨i, hi⟩ := List.getElem?_of_mem hx
      exact (hxs i x hi).1
theorem open_Sl {H : Type} {enc : TypeId × Value → H} {P : Program} {W : World} {base : Nat} {t e : TypeId} {size : Nat} {v : Value} {d : DataW H} {p : List MemPlace} {α : Type} (enc' : α → List Value) (ok : α → Prop)
    (ht : P.underlying t = some (.slice e)) (hc : P.cellsOf e = size) (hpos : 0 < size) (hlen : ∀ y, (enc' y).length = size)
    (hel : ∀ fuel cs x, DataW.trod enc P W 0 (fun _ => true) true fuel e cs = some x → ∃ y, ok y ∧ enc' y = cs)
    (hv : Value.okWide P W .any base t v) (h : DataW.Trod enc P W 0 (fun _ => true) true t v d p) : ∃ av n c xs, v = .slice av n c ∧ Sl (heapI W) size enc' av n c xs ∧ (∀ x ∈ xs, ok x) ∧ c ≤ maxLen := by
  obtain ⟨a0, len0, cap0, rfl⟩ := okWide_slice ht hv
  obtain ⟨fuel, hf⟩ := h
  obtain ⟨av, n, c, xs, e, h1, h2, h3⟩ := open_SlT enc' ok ht hc hpos hlen hel (cs := [.slice a0 len0 cap0]) (by simpa [Value.cells] using hf)
  cases e
  exact ⟨_, _, _, xs, rfl, h1, h2, h3⟩
/-- A slice of one-cell ints. -/
theorem el_int {H : Type} {enc : TypeId × Value → H} {P : Program} {W : World} {e : TypeId} {k : IntKind} (he : P.underlying e = some (.int k)) (hk : k = .i64) (fuel : Nat) (cs : List Value) (x : DataW H × List MemPlace) (h : DataW.trod enc P W 0 (fun _ => true) true fuel e cs = some x) :
    ∃ y : Int, (-9223372036854775808 ≤ y ∧ y ≤ 9223372036854775807) ∧ [Value.int .i64 y] = cs := by
  subst hk
  obtain ⟨v, hv⟩ : ∃ v, cs = [v] := by
    have := h
    cases fuel with
    | zero => simp [DataW.trod] at this
    | succ m => unfold DataW.trod at this; rw [he] at this; split at this <;> simp_all
  subst hv
  obtain ⟨n, e, _, w⟩ := DataW.trod_int he h
  cases e
  simp only [Lit.wf, Bool.and_eq_true, decide_eq_true_eq] at w
  exact ⟨n, w, rfl⟩
end Go.Kn
end
section
namespace Go.Kn
open Go
/-- A slice of bytes. -/
def encU (n : Int) : List Value := [.int .u8 n]
theorem el_u8 {H : Type} {enc : TypeId × Value → H} {P : Program} {W : World} {e : TypeId} (he : P.underlying e = some (.int .u8)) (fuel : Nat) (cs : List Value) (x : DataW H × List MemPlace) (h : DataW.trod enc P W 0 (fun _ => true) true fuel e cs = some x) :
    ∃ y : Int, (0 ≤ y ∧ y ≤ 255) ∧ encU y = cs := by
  obtain ⟨v, hv⟩ : ∃ v, cs = [v] := by
    have := h
    cases fuel with
    | zero => simp [DataW.trod] at this
    | succ m => unfold DataW.trod at this; rw [he] at this; split at this <;> simp_all
  subst hv
  obtain ⟨n, e, _, w⟩ := DataW.trod_int he h
  cases e
  simp only [Lit.wf, Bool.and_eq_true, decide_eq_true_eq] at w
  exact ⟨n, w, rfl⟩
end Go.Kn
end
section
namespace Go.Proofs.YtkpmnnflikkhmaaDoor
open Go Go.Kn Go.Proofs
open Go.ChangeShapes Go.WideShapes Go.ChangeAt Go.RowKit
set_option maxRecDepth 100000
theorem ound_3 : Tryd.prog.underlying 3 = some (.int .i64) := by kernel_rfl
theorem ound_4 : Tryd.prog.underlying 4 = some .bool := by kernel_rfl
theorem ound_5 : Tryd.prog.underlying 5 = some (.int .u8) := by kernel_rfl
theorem open_ints {H : Type} {enc : TypeId × Value → H} {W : World} {base : Nat} {v : Value} {d : DataW H} {p : List MemPlace} (hv : Value.okWide Tryd.prog W .any base 22 v) (h : DataW.Trod enc Tryd.prog W 0 (fun _ => true) true 22 v d p) :
    ∃ av n c xs, v = .slice av n c ∧ Sl (heapI W) 1 encI av n c xs ∧ n ≤ 9223372036854775807 := by
  obtain ⟨av, n, c, xs, e, hS, _, hm⟩ := open_Sl (e := 3) encI (fun _ => True) (by kernel_rfl) (by kernel_rfl) (by decide) encI_len (fun fuel cs x h => by
    obtain ⟨y, _, e⟩ := el_int ound_3 rfl fuel cs x h
    exact ⟨y, trivial, e⟩) hv h
  exact ⟨av, n, c, xs, e, hS, by have := hS.cap; simp only [maxLen] at hm; omega⟩
theorem heads {I : HMap} : ∀ (hs : List Hd), (∀ h ∈ hs, ∃ v, Sl I 1 encI h.a h.n h.c v) → ∃ vss, RelH I hs vss
  | [], _ => ⟨[], RelH.nil⟩
  | x :: hs, H => by
    obtain ⟨vss, hl, hv⟩ := heads hs fun h hh => H h (List.mem_cons_of_mem _ hh)
    obtain ⟨v0, h0⟩ := H x (List.mem_cons_self ..)
    refine ⟨v0 :: vss, by simp [hl], fun k h v a b => ?_⟩
    cases k with
    | zero => cases a; cases b; exact h0
    | succ k => exact hv k h v a b
theorem open_nest {H : Type} {enc : TypeId × Value → H} {W : World} {base : Nat} {v : Value} {d : DataW H} {p : List MemPlace} (hv : Value.okWide Tryd.prog W .any base 28 v) (h : DataW.Trod enc Tryd.prog W 0 (fun _ => true) true 28 v d p) :
    ∃ av n c vss, v = .slice av n c ∧ SlN (heapI W) av n c vss ∧ n ≤ 9223372036854775807 := by
  obtain ⟨av, n, c, hs, e, hS, hok, hm⟩ := open_Sl (e := 22) encH (fun h => ∃ v, Sl (heapI W) 1 encI h.a h.n h.c v) (by kernel_rfl) (by kernel_rfl) (by decide) encH_len (fun fuel cs x h => by
    obtain ⟨a, m, q, ys, e, hT, _⟩ := open_SlT (t := 22) (e := 3) encI (fun _ => True) (by kernel_rfl) (by kernel_rfl) (by decide) encI_len (fun fuel cs x h => by
      obtain ⟨y, _, e⟩ := el_int ound_3 rfl fuel cs x h
      exact ⟨y, trivial, e⟩) h
    exact ⟨⟨a, m, q⟩, ⟨ys, hT⟩, e.symm⟩) hv h
  obtain ⟨vss, hr⟩ := heads hs hok
  exact ⟨av, n, c, vss, e, ⟨hs, hS, hr⟩, by have := hS.cap; simp only [maxLen] at hm; omega⟩
/-- What the tie lists. -/
def laid2 : List (String × DataW Unit) := [("math/bits.deBruijn32tab", Rows.laid_math_bits_deBruijn32tab), ("math/bits.deBruijn64tab", Rows.laid_math_bits_deBruijn64tab)]
theorem gDeb : Tryd.prog.globalNamed "math/bits.deBruijn64tab" = some 1 := by kernel_rfl
theorem tDeb : (Tryd.prog.globals[1]?).map (·.type) = some 116 := by kernel_rfl
theorem deb_is : (Rows.laid_math_bits_deBruijn64tab : DataW Unit) = Lib.tabData .u8 debT := by rfl
theorem deb_of {W : World} (h : laidMetH Tryd.prog laid2 W) : DebOK (heapI W) := by
  rw [MakeChecks.laidMetH_plain _ _ _ (by kernel_rfl)] at h
  obtain ⟨ps, ⟨g0, t0, cs0, f0, p0, q0, hg0, ht0, hv0, hd0, ⟨g1, t1, cs1, f1, p1, q1, hg1, ht1, hv1, hd1, _, _⟩, _⟩, _, _⟩ := h
  obtain rfl := Option.some.inj (gDeb.symm.trans hg1)
  obtain rfl := Option.some.inj (tDeb.symm.trans ht1)
  rw [deb_is] at hd1
  have hcs := Lib.cells_of_tab (n := 64) (e := 5) (by kernel_rfl) ound_5 (by kernel_rfl) (by kernel_rfl) hd1
  intro i hi
  refine cell_heap ?_
  have := World.var?_cell hg1 hv1 i
  rw [this]
  have hl : i < debT.length := hi
  have e : cs1 = (debT.map fun z => Value.int .u8 z).toArray := Array.ext' hcs
  rw [e]
  simp [List.getD, hl]
/-- The door's own heap meets the condition. -/
theorem door_met (os : Os) (args : Array Value) : laidMetH Tryd.prog laid2 ((World.doorLaid Tryd.prog 400 os).forCall (fun _ _ => 0) ⟨#[], args, []⟩).memory :=
  laidMetH_of_parts3 (fuel := 8) (laidMet_of_run' 8 (by kernel_rfl) (by kernel_rfl)) (by kernel_rfl) (by kernel_rfl)
end Go.Proofs.YtkpmnnflikkhmaaDoor
end
section
namespace Go.Proofs.YtkpmnnflikkhmaaDoor
open Go Go.Kn Go.Proofs
open Go.ChangeShapes Go.WideShapes Go.ChangeAt Go.RowKit
set_option maxRecDepth 100000
theorem open_bytes {H : Type} {enc : TypeId × Value → H} {W : World} {base : Nat} {v : Value} {d : DataW H} {p : List MemPlace} (hv : Value.okWide Tryd.prog W .any base 45 v) (h : DataW.Trod enc Tryd.prog W 0 (fun _ => true) true 45 v d p) :
    ∃ av n c xs, v = .slice av n c ∧ Sl (heapI W) 1 encU av n c xs ∧ ∀ x ∈ xs, 0 ≤ x ∧ x ≤ 255 := by
  obtain ⟨av, n, c, xs, e, hS, hok, _⟩ := open_Sl (e := 5) encU (fun n => 0 ≤ n ∧ n ≤ 255) (by kernel_rfl) (by kernel_rfl) (by decide) encU_len (fun fuel cs x h => el_u8 ound_5 fuel cs x h) hv h
  exact ⟨av, n, c, xs, e, ⟨hS, hok⟩⟩
end Go.Proofs.YtkpmnnflikkhmaaDoor
end
section
namespace Go.Proofs.YtkpmnnflikkhmaaDoor
open Go Go.Kn Go.Proofs
open Go.ChangeShapes Go.WideShapes Go.ChangeAt Go.RowKit
theorem own : ownKnob Tryd.prog.godebug = none := by kernel_rfl
theorem laidOut : laidOutB Tryd.prog = true := by kernel_rfl
set_option maxRecDepth 100000 in
theorem stemmaLoci_lifted (os : Os) (started : os.Started) (H : Type) (enc : TypeId × Value → H) :
    ReturnsInHanded {} Tryd.checked os 8 .any (fun w args => (Rows.stemmaLociSpec.pre enc Tryd.prog Tryd.f8 [] false w args ∧ laidMetH Tryd.prog laid2 w) ∧ sizedMet enc Tryd.prog Tryd.f8 (OpenSpec.ofChange Rows.stemmaLociSpec) false w args)
      (Rows.stemmaLociSpec.post enc Tryd.prog Tryd.f8 false true false false) := by
  refine returnsInHanded_of_change_and (C := Tryd.checked) (X := fun w _ => laidMetH Tryd.prog laid2 w) (fun _ _ _ hh h => h.of_heap hh) own started (by kernel_rfl) Tryd.func8
    (ChangeSpec.witness_shaped (enc := enc) (C := Tryd.checked) (os := os) (X := fun w _ => laidMetH Tryd.prog laid2 w) false (World.doorLaid Tryd.prog 400 os) #[.slice none 0 0, .slice none 0 0, .int .u8 0, .slice none 0 0] 8 rfl (World.shaped_of_RefB (by kernel_rfl) (by kernel_rfl)) (by kernel_rfl) (by kernel_rfl) (by kernel_rfl) (door_met os _)) ?_
  intro W base args ds gs before hval0 hW _ _ hL _
  have hval : ∀ (j : Nat) t v, Tryd.f8.params[j]? = some t → args[j]? = some v → Value.okWide Tryd.prog W .any base t v := hval0
  have hW' := hW
  obtain ⟨p, q, hA0, hV, rfl, hfz, hnd⟩ := hW
  have hA : DataW.TrodAll enc Tryd.prog W 0 (fun _ => true) true Tryd.f8.params.toList args.toList ds p := hA0
  rw [Tryd.params8] at hA hval
  obtain ⟨v0, vs1, d0, ds1, p0, q1, ea, rfl, rfl, h0, hA⟩ := trodAll_cons hA
  obtain ⟨v1, vs2, d1, ds2, p1, q2, rfl, rfl, rfl, h1, hA⟩ := trodAll_cons hA
  obtain ⟨v2, vs3, d2, ds3, p2, q3, rfl, rfl, rfl, h2, hA⟩ := trodAll_cons hA
  obtain ⟨v3, vs4, d3, ds4, p3, q4, rfl, rfl, rfl, h3, hA⟩ := trodAll_cons hA
  obtain ⟨rfl, rfl, rfl⟩ := trodAll_nil hA
  have ea' : args = #[v0, v1, v2, v3] := by rw [← Array.toArray_toList (xs := args), ea]
  subst ea'
  obtain ⟨rfl, rfl⟩ := trodVars_none hV
  have hDb := deb_of hL
  obtain ⟨bv, n2, c2, rows, rfl, hV, hbg⟩ := open_nest (hval 0 28 v0 rfl rfl) h0
  obtain ⟨av, n, c, xs, rfl, hS, hbn⟩ := open_ints (hval 1 22 v1 rfl rfl) h1
  obtain ⟨z, rfl, _, _, wfz⟩ := open_int ound_5 (hval 2 5 v2 rfl rfl) h2
  have hz : 0 ≤ z ∧ z ≤ 255 := by have h := wfz; simp only [Lit.wf, Bool.and_eq_true, decide_eq_true_eq] at h; exact h
  obtain ⟨dv, n3, c3, sw, rfl, hDs, hsw⟩ := open_bytes (hval 3 45 v3 rfl rfl) h3
  refine (RetV.law (w_lociLaw hS hV hbg hDb hz hDs hsw)).mono fun e W' ⟨he, hB⟩ => ?_
  subst he
  exact ⟨_, rfl, post_law laidOut (by kernel_rfl) ound_4 rfl rfl (by rw [Tryd.params8]; simp only [List.mem_cons, List.not_mem_nil, or_false, forall_eq_or_imp, forall_eq]; exact ⟨⟨by kernel_rfl, of_decide_eq_true (by kernel_rfl)⟩, ⟨by kernel_rfl, of_decide_eq_true (by kernel_rfl)⟩, ⟨by kernel_rfl, of_decide_eq_true (by kernel_rfl)⟩, ⟨by kernel_rfl, of_decide_eq_true (by kernel_rfl)⟩⟩) hW' hB⟩
theorem stemmaLoci_row : Rows.StemmaLociSaid :=
  OpenClaim.holds_of_wide 8 Tryd.f8 rfl rfl rfl rfl rfl rfl rfl ⟨rfl, rfl, rfl, rfl, rfl⟩ rfl rfl rfl rfl rfl (by kernel_rfl) Tryd.func8 (by kernel_rfl)
    (of_decide_eq_true (by kernel_rfl)) (by unfold Func.isWrapper; first | (rw [if_pos (by decide +kernel)]; kernel_rfl) | (rw [if_neg (by decide +kernel)]; exact ⟨rfl, rfl⟩))
    (fun os started H enc _ => stemmaLoci_lifted os started H enc)
theorem stemmaLoci_holds : Rows.StemmaLociCardSaid :=
  Claim7.holds_tied_plain_at .later [] [.data, .data] true (true, "ee01672d72051c55a553832d8f1b557e85fe7de91745a851b14c5bb6cd11ba6c") false
    stemmaLoci_row (fun _ h => by cases h) (by kernel_rfl) (fun _ h => by cases h) stemmaLoci_row_tie rfl ⟨rfl, rfl⟩ (by kernel_rfl) rfl
    (fun f fn hf hfn => by
      obtain rfl : f = 8 := Option.some.inj ((show Tryd.prog.funcNamed "kinesphere/kinespherelaw42.StemmaLoci" = some 8 by kernel_rfl).symm.trans hf) |>.symm
      obtain rfl : fn = Tryd.f8 := (Option.some.inj (Tryd.func8.symm.trans hfn)).symm
      exact ⟨by kernel_rfl, fun j t ht => by
        rw [Tryd.params8] at ht
        have hm : t ∈ [28, 22, 5, 45] := by simpa using Array.mem_of_getElem? ht
        have hall : ([28, 22, 5, 45].all fun u => !Tryd.prog.wantsStandIn u) = true := by kernel_rfl
        exact (show Tryd.prog.wantsStandIn t = false by simpa using List.all_eq_true.1 hall t hm)⟩)
    (by kernel_rfl)
#print axioms stemmaLoci_holds
end Go.Proofs.YtkpmnnflikkhmaaDoor
end
