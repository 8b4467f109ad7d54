/- stemmaFurther_holds, part D of the proof: what its theorems say holds without further conditions. -/
import Derived.ProofKit
import Derived.Deep.Slices
import Derived.Test.YtkpmnnflikkhmaaDoorRows
import Derived.LaidMore
import Derived.MakeChecks
import Derived.Lib.LaidTab
import Derived.Test.YtkpmnnflikkhmaaDoorCards
import Derived.Test.YtkpmnnflikkhmaaDoorTie
import Derived.Stop.Joined
import Derived.SevenTiedAt
import Derived.Test.YtkpmnnflikkhmaaDoorSFC
section
namespace Go.Proofs.YtkpmnnflikkhmaaDoor
open Go Go.Kn Go.Proofs
theorem step_tri (x y z : Int) : stepF x z ≤ stepF x y + stepF y z := by
  unfold stepF
  repeat' split
  all_goals omega
def rS (S : List Int) (p x : Int) : Int := if x ∈ S then x else p
theorem rS_pick {S : List Int} (h0 : 0 ∈ S) : ∃ p ∈ S, p ≠ 0 ∨ ∀ y ∈ S, y = 0 := by
  by_cases h : ∃ p ∈ S, p ≠ 0
  · obtain ⟨p, h1, h2⟩ := h
    exact ⟨p, h1, .inl h2⟩
  · refine ⟨0, h0, .inr fun y hy => ?_⟩
    by_cases e : y = 0
    · exact e
    · exact absurd ⟨y, hy, e⟩ h
theorem rS_in {S : List Int} {p x : Int} (hp : p ∈ S) : rS S p x ∈ S := by unfold rS; split <;> assumption
theorem rS_of {S : List Int} {p x : Int} (h : x ∈ S) : rS S p x = x := by unfold rS; rw [if_pos h]
theorem rS_step {S : List Int} {p : Int} (h0 : 0 ∈ S) (hp : p ∈ S) (hz : p ≠ 0 ∨ ∀ y ∈ S, y = 0) (x y : Int) : stepF (rS S p x) (rS S p y) ≤ stepF x y := by
  unfold rS
  by_cases hx : x ∈ S <;> by_cases hy : y ∈ S
  · rw [if_pos hx, if_pos hy]; exact Int.le_refl _
  · rw [if_pos hx, if_neg hy]
    have h1 : y ≠ 0 := fun e => hy (e ▸ h0)
    have h2 : x ≠ y := fun e => hy (e ▸ hx)
    rcases hz with hz | hz
    · unfold stepF
      repeat' split
      all_goals omega
    · rw [hz x hx, hz p hp, step_self]; exact (step_in _ _).1
  · rw [if_neg hx, if_pos hy]
    have h1 : x ≠ 0 := fun e => hx (e ▸ h0)
    have h2 : x ≠ y := fun e => hx (e ▸ hy)
    rcases hz with hz | hz
    · unfold stepF
      repeat' split
      all_goals omega
    · rw [hz y hy, hz p hp, step_self]; exact (step_in _ _).1
  · rw [if_neg hx, if_neg hy, step_self]; exact (step_in _ _).1
theorem bl_at {S : List Int} {f : Int → Int} {x : Int} : bl S f x = 1048576 ∨ ∃ y ∈ S, bl S f x = stepF x y + f y := by
  rcases (min_fold (S.map fun y => stepF x y + f y) 1048576).2.2 with e | e
  · exact .inl e
  · obtain ⟨y, hy, e2⟩ := List.mem_map.1 e
    exact .inr ⟨y, hy, e2.symm⟩
theorem bl_tri {S : List Int} {f : Int → Int} (x y : Int) : bl S f x ≤ stepF x y + bl S f y := by
  rcases bl_at (S := S) (f := f) (x := y) with e | ⟨z, hz, e⟩
  · rw [e]
    have := bl_cap (S := S) (f := f) (x := x)
    have := (step_in x y).1
    omega
  · rw [e]
    have := bl_le (f := f) (x := x) hz
    have := step_tri x y z
    omega
theorem bl_mono {S : List Int} {f f' : Int → Int} {x : Int} (h : ∀ y ∈ S, f' y ≤ f y) : bl S f' x ≤ bl S f x :=
  bl_ge (fun y hy => by have := bl_le (f := f') (x := x) hy; have := h y hy; omega) bl_cap
theorem mn_bl {S : List Int} {f : Int → Int} {x : Int} (h : mn S f ≤ 1048576) : mn S f ≤ bl S f x :=
  bl_ge (fun y hy => by have := mn_le (f := f) hy; have := (step_in x y).1; omega) h
/-! ### A leaf cut off -/
def Tr.cut (k : Nat) : Tr → Option Tr
  | .leaf w => if w = k then none else some (.leaf w)
  | .node a b => match a.cut k with
    | none => b.cut k
    | some a' => match b.cut k with
      | none => some a'
      | some b' => some (.node a' b')
def CutQ (S S' : List Int) (u u' : Nat → Int) (p : Int) (T T' : Tr) : Prop := (∀ y, cT S' u' T' (rS S' p y) ≤ cT S u T y) ∨ ∀ y, bl S' (cT S' u' T') (rS S' p y) ≤ cT S u T y
section
variable {S S' : List Int} {u u' : Nat → Int} {p : Int} {k : Nat} (h0 : 0 ∈ S') (hp : p ∈ S') (hz : p ≠ 0 ∨ ∀ y ∈ S', y = 0)
include h0 hp hz
theorem cut_bl {T T' : Tr} (h : CutQ S S' u u' p T T') (x : Int) : bl S' (cT S' u' T') (rS S' p x) ≤ bl S (cT S u T) x := by
  refine bl_ge (fun y _ => ?_) bl_cap
  have hs := rS_step h0 hp hz x y
  rcases h with h | h
  · have := bl_le (f := cT S' u' T') (x := rS S' p x) (rS_in (x := y) hp)
    have := h y
    omega
  · have := bl_tri (S := S') (f := cT S' u' T') (rS S' p x) (rS S' p y)
    have := h y
    omega
omit h0 hz in
theorem cut_mn {T T' : Tr} (hS : S ≠ []) (hc : mn S' (cT S' u' T') ≤ 1048576) (h : CutQ S S' u u' p T T') : mn S' (cT S' u' T') ≤ mn S (cT S u T) := by
  obtain ⟨y, hy, e⟩ := mn_at (f := cT S u T) hS
  rw [e]
  rcases h with h | h
  · exact Int.le_trans (mn_le (rS_in hp)) (h y)
  · exact Int.le_trans (mn_bl hc) (h y)
theorem cut_cost (hu : ∀ w, w ≠ k → u' w = u w ∧ (u w = 8589934592 ∨ u w ∈ S')) : ∀ (T T' : Tr), T.cut k = some T' → CutQ S S' u u' p T T'
  | .leaf w, T', h => by
    unfold Tr.cut at h
    by_cases e : w = k
    · rw [if_pos e] at h; cases h
    · rw [if_neg e] at h; cases h
      left
      intro y
      obtain ⟨h1, h2⟩ := hu w e
      show leafG (u' w) _ ≤ leafG (u w) y
      rw [h1]
      by_cases hy : u w = y
      · rcases h2 with h2 | h2
        · rw [h2]; unfold leafG; simp
        · rw [rS_of (hy ▸ h2)]; exact Int.le_refl _
      · by_cases hm : u w = 8589934592
        · rw [hm]; unfold leafG; simp
        · have : leafG (u w) y = 1048576 := by unfold leafG; rw [if_pos (by simp [hy, hm])]
          rw [this]
          rcases leafG_in (u w) (rS S' p y) with e | e <;> omega
  | .node a b, T', h => by
    unfold Tr.cut at h
    have na := fun x => bl_nn (S := S) (x := x) fun y _ => cT_nn (S := S) (u := u) a y
    have nb := fun x => bl_nn (S := S) (x := x) fun y _ => cT_nn (S := S) (u := u) b y
    cases ha : a.cut k with
    | none =>
      rw [ha] at h
      right
      intro y
      have := cut_bl h0 hp hz (cut_cost hu b T' h) y
      have := na y
      show _ ≤ bl S (cT S u a) y + bl S (cT S u b) y
      omega
    | some a' =>
      rw [ha] at h
      have qa := cut_bl h0 hp hz (cut_cost hu a a' ha)
      cases hb : b.cut k with
      | none =>
        rw [hb] at h; cases h
        right
        intro y
        have := qa y
        have := nb y
        show _ ≤ bl S (cT S u a) y + bl S (cT S u b) y
        omega
      | some b' =>
        rw [hb] at h; cases h
        have qb := cut_bl h0 hp hz (cut_cost hu b b' hb)
        left
        intro y
        have := qa y
        have := qb y
        show bl S' (cT S' u' a') _ + bl S' (cT S' u' b') _ ≤ bl S (cT S u a) y + bl S (cT S u b) y
        omega
end
theorem two_n_tab : ((List.range 6).all fun n => (List.range 64).all fun x => (List.range 64).all fun y => decide (2 ^ n ≤ x) || decide (2 ^ n ≤ y) || !((x + 2 ^ n) &&& (y + 2 ^ n) == 0) && ((!(x &&& y == 0) || ((x + 2 ^ n) &&& y == 0) && (x &&& (y + 2 ^ n) == 0)))) = true := by kernel_rfl
theorem two_n {n x y : Nat} (hn : n < 6) (hx : x < 2 ^ n) (hy : y < 2 ^ n) : (x + 2 ^ n) &&& (y + 2 ^ n) ≠ 0 ∧ (x &&& y = 0 → (x + 2 ^ n) &&& y = 0 ∧ x &&& (y + 2 ^ n) = 0) := by
  have h2 : 2 ^ n ≤ 2 ^ 6 := Nat.pow_le_pow_right (by decide) (by omega)
  have h := List.all_eq_true.1 two_n_tab n (List.mem_range.2 hn)
  have h := List.all_eq_true.1 h x (List.mem_range.2 (by omega))
  have h := List.all_eq_true.1 h y (List.mem_range.2 (by omega))
  rw [decide_eq_false (by omega), decide_eq_false (by omega)] at h
  simp only [Bool.false_or, Bool.and_eq_true, Bool.or_eq_true, Bool.not_eq_true', beq_eq_false_iff_ne, beq_iff_eq] at h
  refine ⟨h.1, fun e => ?_⟩
  rcases h.2 with g | g
  · exact absurd e g
  · exact g
theorem mask_lt {n : Nat} (h6 : n ≤ 6) {T : Tr} (h : T.ok n) : T.mask < 2 ^ n := by
  obtain ⟨_, q, h2, rfl⟩ := mask_in h6 h
  have := sub_le h2
  have : 1 ≤ 2 ^ n := Nat.one_le_two_pow
  omega
theorem dis_sub {a b x y : Nat} (hx : subN x a = true) (hy : subN y b = true) (h : a &&& b = 0) : x &&& y = 0 := by
  have e1 : x &&& a = x := eq_of_beq hx
  have e2 : y &&& b = y := eq_of_beq hy
  have : x &&& y = (x &&& y) &&& (a &&& b) := by
    conv => lhs; rw [← e1, ← e2]
    ac_rfl
  rw [this, h, Nat.and_zero]
theorem cut_ok {n : Nat} (h5 : n ≤ 5) : ∀ {T : Tr}, T.ok (n + 1) → (T.cut n = none → T.mask = 2 ^ n) ∧ ∀ T', T.cut n = some T' → T'.ok n ∧ subN T'.mask T.mask = true ∧ (T.mask = T'.mask ∨ T.mask = T'.mask + 2 ^ n)
  | .leaf w, h => by
    have hw : w < n + 1 := h
    unfold Tr.cut
    by_cases e : w = n
    · rw [if_pos e]
      refine ⟨fun _ => by rw [← e]; rfl, fun T' h => by cases h⟩
    · rw [if_neg e]
      refine ⟨fun h => (by cases h), fun T' h => ?_⟩
      cases h
      exact ⟨by show w < n; omega, sub_refl _, .inl rfl⟩
  | .node a b, ⟨ha, hb, hd⟩ => by
    obtain ⟨a1, a2⟩ := cut_ok h5 ha
    obtain ⟨b1, b2⟩ := cut_ok h5 hb
    have pa := mask_pos a
    have pb := mask_pos b
    have p2 : 1 ≤ 2 ^ n := Nat.one_le_two_pow
    obtain ⟨_, _, _, t4, t5, _⟩ := two_ok ⟨pa, (mask_in (by omega) ha).1⟩ ⟨pb, (mask_in (by omega) hb).1⟩ hd
    have em : (Tr.node a b).mask = a.mask + b.mask := rfl
    rw [em]
    unfold Tr.cut
    cases hca : a.cut n with
    | none =>
      have ea := a1 hca
      simp only
      refine ⟨fun h => ?_, fun T' h => ?_⟩
      · have eb := b1 h
        have := (two_n (n := n) (x := 0) (y := 0) (by omega) (by omega) (by omega)).1
        rw [Nat.zero_add] at this
        rw [ea, eb] at hd
        exact absurd hd this
      · obtain ⟨i1, i2, i3⟩ := b2 T' h
        refine ⟨i1, sub_trans i2 t5, .inr ?_⟩
        rcases i3 with i3 | i3
        · omega
        · exfalso
          have := (two_n (n := n) (x := 0) (y := T'.mask) (by omega) (by omega) (mask_lt (by omega) i1)).1
          rw [Nat.zero_add, ← i3, ← ea] at this
          exact this hd
    | some a' =>
      obtain ⟨i1, i2, i3⟩ := a2 a' hca
      cases hcb : b.cut n with
      | none =>
        have eb := b1 hcb
        simp only
        refine ⟨fun h => (by cases h), fun T' h => ?_⟩
        cases h
        refine ⟨i1, sub_trans i2 t4, .inr ?_⟩
        rcases i3 with i3 | i3
        · omega
        · exfalso
          have := (two_n (n := n) (x := a'.mask) (y := 0) (by omega) (mask_lt (by omega) i1) (by omega)).1
          rw [Nat.zero_add, ← i3, ← eb] at this
          exact this hd
      | some b' =>
        obtain ⟨j1, j2, j3⟩ := b2 b' hcb
        simp only
        refine ⟨fun h => (by cases h), fun T' h => ?_⟩
        cases h
        have hd' := dis_sub i2 j2 hd
        have hk : (Tr.node a' b').ok n := ⟨i1, j1, hd'⟩
        have e' : (Tr.node a' b').mask = a'.mask + b'.mask := rfl
        have hnot : ¬ (a.mask = a'.mask + 2 ^ n ∧ b.mask = b'.mask + 2 ^ n) := fun ⟨e1, e2⟩ => by
          rw [e1, e2] at hd
          exact (two_n (by omega) (mask_lt (by omega) i1) (mask_lt (by omega) j1)).1 hd
        refine ⟨hk, ?_, by rw [e']; omega⟩
        have s1 := sub_trans i2 t4
        have s2 := sub_trans j2 t5
        have ht : ((List.range 64).all fun x => (List.range 64).all fun y => !(x &&& y == 0) || (x + y == (x ||| y))) = true := by kernel_rfl
        have h0 := List.all_eq_true.1 ht a'.mask (List.mem_range.2 (mask_in (by omega) i1).1)
        have h0 := List.all_eq_true.1 h0 b'.mask (List.mem_range.2 (mask_in (by omega) j1).1)
        rw [hd'] at h0
        have h0 : a'.mask + b'.mask = a'.mask ||| b'.mask := by simpa using h0
        rw [e', h0]
        have s1 : a'.mask &&& (a.mask + b.mask) = a'.mask := eq_of_beq s1
        have s2 : b'.mask &&& (a.mask + b.mask) = b'.mask := eq_of_beq s2
        show (_ == _) = true
        rw [Nat.and_or_distrib_right, s1, s2]; exact beq_self_eq_true _
/-! ### A leaf made two -/
def Tr.grow (w k : Nat) : Tr → Tr
  | .leaf v => if v = w then .node (.leaf w) (.leaf k) else .leaf v
  | .node a b => .node (a.grow w k) (b.grow w k)
theorem has_sub {n w : Nat} (h6 : n ≤ 6) : ∀ {T : Tr}, T.ok n → T.has w → subN (2 ^ w) T.mask = true
  | .leaf v, _, h => by
    have h : v = w := h
    rw [h]; exact sub_refl _
  | .node a b, ⟨ha, hb, hd⟩, h => by
    obtain ⟨_, _, _, t4, t5, _⟩ := two_ok ⟨mask_pos a, (mask_in h6 ha).1⟩ ⟨mask_pos b, (mask_in h6 hb).1⟩ hd
    rcases h with h | h
    · exact sub_trans (has_sub h6 ha h) t4
    · exact sub_trans (has_sub h6 hb h) t5
theorem sub_has_tab : ((List.range 6).all fun w => (List.range 6).all (fun v => !subN (2 ^ w) (2 ^ v) || v == w) && (List.range 64).all fun a => (List.range 64).all fun b => !(a &&& b == 0) || !subN (2 ^ w) (a + b) || subN (2 ^ w) a || subN (2 ^ w) b) = true := by kernel_rfl
theorem sub_has {n w : Nat} (h6 : n ≤ 6) (hw : w < n) : ∀ {T : Tr}, T.ok n → subN (2 ^ w) T.mask = true → T.has w
  | .leaf v, hT, h => by
    have hv : v < n := hT
    have h0 := List.all_eq_true.1 sub_has_tab w (List.mem_range.2 (by omega))
    rw [Bool.and_eq_true] at h0
    have h0 := List.all_eq_true.1 h0.1 v (List.mem_range.2 (by omega))
    have h : subN (2 ^ w) (2 ^ v) = true := h
    rw [h] at h0
    show v = w
    simpa using h0
  | .node a b, ⟨ha, hb, hd⟩, h => by
    have h0 := List.all_eq_true.1 sub_has_tab w (List.mem_range.2 (by omega))
    rw [Bool.and_eq_true] at h0
    have h0 := List.all_eq_true.1 h0.2 a.mask (List.mem_range.2 (mask_in h6 ha).1)
    have h0 := List.all_eq_true.1 h0 b.mask (List.mem_range.2 (mask_in h6 hb).1)
    have h : subN (2 ^ w) (a.mask + b.mask) = true := h
    rw [h, hd] at h0
    have h0 : subN (2 ^ w) a.mask = true ∨ subN (2 ^ w) b.mask = true := by simpa using h0
    rcases h0 with h0 | h0
    · exact .inl (sub_has h6 hw ha h0)
    · exact .inr (sub_has h6 hw hb h0)
theorem grow_ok {n w : Nat} (h5 : n ≤ 5) (hw : w < n) : ∀ {T : Tr}, T.ok n → (T.grow w n).ok (n + 1) ∧ ((T.grow w n).mask = T.mask ∧ ¬ T.has w ∨ (T.grow w n).mask = T.mask + 2 ^ n ∧ T.has w)
  | .leaf v, h => by
    have hv : v < n := h
    unfold Tr.grow
    by_cases e : v = w
    · rw [if_pos e]
      subst e
      refine ⟨⟨by show v < n + 1; omega, by show n < n + 1; omega, ?_⟩, .inr ⟨rfl, rfl⟩⟩
      have h2 : 2 ^ v < 2 ^ n := Nat.pow_lt_pow_right (by decide) hv
      have h1 : 1 ≤ 2 ^ n := Nat.one_le_two_pow
      have := ((two_n (n := n) (x := 2 ^ v) (y := 0) (by omega) h2 (by omega)).2 (Nat.and_zero _)).2
      rw [Nat.zero_add] at this
      exact this
    · rw [if_neg e]
      exact ⟨by show v < n + 1; omega, .inl ⟨rfl, e⟩⟩
  | .node a b, ⟨ha, hb, hd⟩ => by
    obtain ⟨i1, i2⟩ := grow_ok h5 hw ha
    obtain ⟨j1, j2⟩ := grow_ok h5 hw hb
    have la := mask_lt (by omega) ha
    have lb := mask_lt (by omega) hb
    have ht := (two_n (n := n) (by omega) la lb).2 hd
    have hb2 : ¬ (a.has w ∧ b.has w) := fun ⟨x, y⟩ => by
      have := sub_both (has_sub (by omega) ha x) (has_sub (by omega) hb y) (by rw [Nat.and_comm]; exact hd)
      have : 1 ≤ 2 ^ w := Nat.one_le_two_pow
      omega
    have e1 : ((Tr.node a b).grow w n).mask = (a.grow w n).mask + (b.grow w n).mask := rfl
    have e2 : (Tr.node a b).mask = a.mask + b.mask := rfl
    rw [e1, e2]
    rcases i2 with ⟨i2, i3⟩ | ⟨i2, i3⟩
    · rcases j2 with ⟨j2, j3⟩ | ⟨j2, j3⟩
      · exact ⟨⟨i1, j1, by rw [i2, j2]; exact hd⟩, .inl ⟨by omega, fun h => h.elim i3 j3⟩⟩
      · exact ⟨⟨i1, j1, by rw [i2, j2]; exact ht.2⟩, .inr ⟨by omega, .inr j3⟩⟩
    · rcases j2 with ⟨j2, j3⟩ | ⟨j2, j3⟩
      · exact ⟨⟨i1, j1, by rw [i2, j2]; exact ht.1⟩, .inr ⟨by omega, .inl i3⟩⟩
      · exact absurd ⟨i3, j3⟩ hb2
theorem grow_set {n w : Nat} : ∀ {T : Tr}, T.has w → 2 ^ w + 2 ^ n ∈ (T.grow w n).sets
  | .leaf v, h => by
    have h : v = w := h
    unfold Tr.grow
    rw [if_pos h]
    exact List.mem_cons_self ..
  | .node a b, h => by
    unfold Tr.grow
    refine List.mem_cons_of_mem _ (List.mem_append.2 ?_)
    rcases h with h | h
    · exact .inl (grow_set h)
    · exact .inr (grow_set h)
theorem grow_cost {S : List Int} {u u' : Nat → Int} {n w : Nat} (hn : u' n = u w) (hu : ∀ v, v < n → u' v = u v) (hw : w < n) (hS : u w = 8589934592 ∨ u w ∈ S) : ∀ {T : Tr}, T.ok n → ∀ x ∈ S, cT S u' (T.grow w n) x ≤ cT S u T x
  | .leaf v, h, x, hx => by
    have hv : v < n := h
    unfold Tr.grow
    by_cases e : v = w
    · rw [if_pos e]
      subst e
      show bl S (leafG (u' v)) x + bl S (leafG (u' n)) x ≤ leafG (u v) x
      rw [hu v hw, hn]
      rcases leafG_in (u v) x with e | e
      · have := bl_le (f := leafG (u v)) (x := x) hx
        rw [step_self] at this
        omega
      · rcases hS with h | h
        · rw [h] at e; unfold leafG at e; simp at e
        · have := bl_le (f := leafG (u v)) (x := x) h
          rw [show leafG (u v) (u v) = 0 by unfold leafG; simp] at this
          have := (step_in x (u v)).2
          omega
    · rw [if_neg e]
      show leafG (u' v) x ≤ leafG (u v) x
      rw [hu v hv]; exact Int.le_refl _
  | .node a b, h, x, hx => by
    have := bl_mono (x := x) fun y hy => grow_cost hn hu hw hS h.1 y hy
    have := bl_mono (x := x) fun y hy => grow_cost hn hu hw hS h.2.1 y hy
    show bl S (cT S u' (a.grow w n)) x + bl S (cT S u' (b.grow w n)) x ≤ bl S (cT S u a) x + bl S (cT S u b) x
    omega
/-! ### Rows -/
theorem pT_le {rows rows' : List (List Int)} {T T' : Tr} (hlen : (rows.getD 0 []).length = (rows'.getD 0 []).length) (h : ∀ l, l < (rows.getD 0 []).length → mn (statesF rows l) (cT (statesF rows l) (uF rows l) T) ≤ mn (statesF rows' l) (cT (statesF rows' l) (uF rows' l) T')) : pT rows T ≤ pT rows' T' := by
  have : ∀ k, k ≤ (rows.getD 0 []).length → pK rows T k ≤ pK rows' T' k := by
    intro k
    induction k with
    | zero => intro _; exact Int.le_refl _
    | succ k ih => intro hk; rw [pK_step, pK_step]; have := ih (by omega); have := h k (by omega); omega
  unfold pT
  rw [← hlen]
  exact this _ (Nat.le_refl _)
theorem app_get {rows : List (List Int)} {row : List Int} {w : Nat} (h : w < rows.length) : (rows ++ [row]).getD w [] = rows.getD w [] := by
  unfold List.getD; rw [List.getElem?_append_left h]
theorem app_last {rows : List (List Int)} {row : List Int} : (rows ++ [row]).getD rows.length [] = row := by
  unfold List.getD; simp
theorem uF_in {rows : List (List Int)} {l w : Nat} (h : w < rows.length) : uF rows l w = 8589934592 ∨ uF rows l w ∈ statesF rows l := by
  by_cases e : uF rows l w = 8589934592
  · exact .inl e
  · right
    rw [st_mem]
    refine .inr ⟨⟨rows.getD w [], ?_, rfl⟩, e⟩
    unfold List.getD
    rw [List.getElem?_eq_getElem h]
    exact List.getElem_mem h
theorem pow2 (n : Nat) : 2 ^ (n + 1) = 2 ^ n + 2 ^ n := by rw [Nat.pow_succ]; omega
theorem further_ok {rows : List (List Int)} {row : List Int} (h : rowsN rows = 0) (h4 : rows.length ≤ 4) (hr : rowsN (rows ++ [row]) = 0) : bestB rows ≤ bestB (rows ++ [row]) := by
  obtain ⟨n1, n6, _⟩ := rows_ok h
  have hB := best_is h (by omega)
  have hL : (rows ++ [row]).length = rows.length + 1 := by simp
  have hB' := best_is hr (by omega)
  obtain ⟨x, hx⟩ := List.exists_mem_of_ne_nil _ hB'.ne
  obtain ⟨hc, e⟩ := (hB'.mem x).1 hx
  rw [← e, price_tree hc]
  have hal := all_mask (n := (rows ++ [row]).length) (by omega) (by omega)
  have hal0 := all_mask (n := rows.length) (by omega) (by omega)
  have hlt : 2 ^ (rows ++ [row]).length ≤ 2 ^ 6 := Nat.pow_le_pow_right (by decide) (by omega)
  obtain ⟨t1, t2, _⟩ := treeT_ok hc 64 (allS (rows ++ [row]).length) (by omega) (ok_all hc)
  generalize treeT x 64 (allS (rows ++ [row]).length) = T at t1 t2
  rw [hal, hL, Int.toNat_natCast, pow2] at t2
  rw [hL] at t1
  have p2 : 1 ≤ 2 ^ rows.length := Nat.one_le_two_pow
  have p3 : 2 ^ 1 ≤ 2 ^ rows.length := Nat.pow_le_pow_right (by decide) n1
  obtain ⟨c1, c2⟩ := cut_ok (n := rows.length) (by omega) t1
  cases hcut : T.cut rows.length with
  | none => have := c1 hcut; omega
  | some T' =>
    obtain ⟨k1, k2, k3⟩ := c2 T' hcut
    have km := mask_lt (by omega) k1
    have hm : (T'.mask : Int) = allS rows.length := by rw [hal0]; omega
    have hle := hB.le _ (clOf_right n1 (by omega) k1 hm)
    rw [price_clOf n1 n6 k1 hm] at hle
    refine Int.le_trans hle (pT_le (by rw [app_get (by omega)]) fun l _ => ?_)
    have h0 : (0 : Int) ∈ statesF rows l := st_mem.2 (.inl rfl)
    obtain ⟨p, hp, hz⟩ := rS_pick h0
    obtain ⟨z, hz1, hz2⟩ := cT_small (u := uF rows l) h0 rows.length T' k1 fun w hw => uF_in hw
    have hm6 := (mask_in n6 k1).1
    have hcap : mn (statesF rows l) (cT (statesF rows l) (uF rows l) T') ≤ 1048576 := Int.le_trans (mn_le hz1) (by omega)
    have hne : statesF (rows ++ [row]) l ≠ [] := List.ne_nil_of_length_pos st_pos
    refine cut_mn hp hne hcap (cut_cost h0 hp hz (fun w hw => ?_) T T' hcut)
    by_cases hwn : w < rows.length
    · have e : uF (rows ++ [row]) l w = uF rows l w := by unfold uF; rw [app_get hwn]
      rw [e]; exact ⟨rfl, uF_in hwn⟩
    · have e1 : uF rows l w = 0 := by unfold uF List.getD; rw [List.getElem?_eq_none (show rows.length ≤ w by omega)]; rfl
      have e2 : uF (rows ++ [row]) l w = 0 := by unfold uF List.getD; rw [List.getElem?_eq_none (show (rows ++ [row]).length ≤ w by omega)]; rfl
      rw [e1, e2]; exact ⟨rfl, .inr h0⟩
theorem copy_rows {rows : List (List Int)} {w : Nat} {v : List Int} (h : rowsN rows = 0) (h4 : rows.length ≤ 4) (hv : rows[w]? = some v) : rowsN (rows ++ [v]) = 0 := by
  obtain ⟨n1, n6, h64, hr⟩ := rows_ok h
  have hm := List.mem_of_getElem? hv
  have hd : (rows ++ [v]).getD 0 [] = rows.getD 0 [] := app_get (by omega)
  have hne : ¬ rows.length = 0 := by omega
  have hany : rows.any (rowP (rows.getD 0 []).length) = false := by
    cases hb : (decide ((rows.length : Int) > 6) || rows.any (fun r => decide ((r.length : Int) > 64))) with
    | true => rw [rows_1 hb] at h; cases h
    | false =>
      rw [rows_3 hb hne] at h
      cases hq : rows.any (rowP (rows.getD 0 []).length) with
      | false => rfl
      | true => rw [hq] at h; cases h
  have hall := List.any_eq_false.1 hany
  have hb : (decide (((rows ++ [v]).length : Int) > 6) || (rows ++ [v]).any (fun r => decide ((r.length : Int) > 64))) = false := by
    rw [Bool.or_eq_false_iff, decide_eq_false_iff_not, List.any_eq_false]
    refine ⟨by simp; omega, fun r hr' => ?_⟩
    have : r ∈ rows := by
      rcases List.mem_append.1 hr' with h | h
      · exact h
      · rw [List.mem_singleton.1 h]; exact hm
    have := (hr r this).1
    simp; omega
  rw [rows_3 hb (by simp), hd, if_neg]
  rw [List.any_append, hany]
  have := hall v hm
  simpa using this
theorem copy_ok {rows : List (List Int)} {w : Nat} {v : List Int} (h : rowsN rows = 0) (h4 : rows.length ≤ 4) (hv : rows[w]? = some v) : bestB (rows ++ [v]) = bestB rows ∧ ∃ x ∈ bestL (rows ++ [v]), ((2 ^ w + 2 ^ rows.length : Nat) : Int) ∈ x := by
  have hr := copy_rows h h4 hv
  obtain ⟨n1, n6, _⟩ := rows_ok h
  obtain ⟨hw, ev⟩ := List.getElem?_eq_some_iff.1 hv
  have hB := best_is h (by omega)
  have hL : (rows ++ [v]).length = rows.length + 1 := by simp
  have hB' := best_is hr (by omega)
  obtain ⟨x, hx⟩ := List.exists_mem_of_ne_nil _ hB.ne
  obtain ⟨hc, e⟩ := (hB.mem x).1 hx
  rw [price_tree hc] at e
  have hal := all_mask (n := (rows ++ [v]).length) (by omega) (by omega)
  have hal0 := all_mask (n := rows.length) (by omega) (by omega)
  have hlt : 2 ^ rows.length ≤ 2 ^ 6 := Nat.pow_le_pow_right (by decide) (by omega)
  obtain ⟨t1, t2, _⟩ := treeT_ok hc 64 (allS rows.length) (by omega) (ok_all hc)
  generalize treeT x 64 (allS rows.length) = T at t1 t2 e
  rw [hal0, Int.toNat_natCast] at t2
  have p2 : 1 ≤ 2 ^ rows.length := Nat.one_le_two_pow
  have hasw : T.has w := sub_has n6 hw t1 (by
    rw [t2]
    obtain ⟨_, q, h2, h3⟩ := mask_in (T := .leaf w) n6 hw
    rw [← h3]; exact h2)
  obtain ⟨g1, g2⟩ := grow_ok (by omega) hw t1
  have gm : (T.grow w rows.length).mask = T.mask + 2 ^ rows.length := by
    rcases g2 with g2 | g2
    · exact absurd hasw g2.2
    · exact g2.1
  rw [← hL] at g1
  have hm : ((T.grow w rows.length).mask : Int) = allS (rows ++ [v]).length := by rw [hal, gm, t2, hL, pow2]; omega
  have hcr := clOf_right (n := (rows ++ [v]).length) (by omega) (by omega) g1 hm
  have hp := price_clOf (rows := rows ++ [v]) (by omega) (by omega) g1 hm
  have hle : pT (rows ++ [v]) (T.grow w rows.length) ≤ pT rows T := by
    refine pT_le (by rw [app_get (by omega)]) fun l _ => ?_
    have hS : ∀ y, y ∈ statesF (rows ++ [v]) l ↔ y ∈ statesF rows l := by
      intro y
      rw [st_mem, st_mem]
      constructor
      · rintro (h | ⟨⟨r, h1, h2⟩, h3⟩)
        · exact .inl h
        · refine .inr ⟨⟨r, ?_, h2⟩, h3⟩
          rcases List.mem_append.1 h1 with h | h
          · exact h
          · rw [List.mem_singleton.1 h]; exact List.mem_of_getElem? hv
      · rintro (h | ⟨⟨r, h1, h2⟩, h3⟩)
        · exact .inl h
        · exact .inr ⟨⟨r, List.mem_append_left _ h1, h2⟩, h3⟩
    have hne : statesF rows l ≠ [] := List.ne_nil_of_length_pos st_pos
    have hne' : statesF (rows ++ [v]) l ≠ [] := List.ne_nil_of_length_pos st_pos
    rw [mn_congr hne' hS fun y _ => cT_congr hS (T.grow w rows.length) y fun _ _ => rfl]
    obtain ⟨y, hy, ey⟩ := mn_at (f := cT (statesF rows l) (uF rows l) T) hne
    rw [ey]
    refine Int.le_trans (mn_le hy) (grow_cost (n := rows.length) ?_ (fun k hk => ?_) hw (uF_in hw) t1 y hy)
    · unfold uF; rw [app_last]
      unfold List.getD; rw [hv]; rfl
    · unfold uF; rw [app_get hk]
  have h1 := hB'.le _ hcr
  have h2 := further_ok h h4 hr
  have he : bestB (rows ++ [v]) = bestB rows := by omega
  refine ⟨he, clOf (T.grow w rows.length), (hB'.mem _).2 ⟨hcr, by omega⟩, mem_clOf.2 ⟨_, grow_set hasw, rfl⟩⟩
end Go.Proofs.YtkpmnnflikkhmaaDoor
end
section
namespace Go.Proofs.YtkpmnnflikkhmaaDoor
open Go Go.Kn Go.Proofs
theorem cvt_66_3 : CvT Tryd.prog 66 3 .i64 := ⟨by kernel_rfl, by kernel_rfl⟩
theorem fun_27 : Fun Tryd.prog 27 := .of Tryd.func27 (by kernel_rfl) (by kernel_rfl)
theorem fun_41 : Fun Tryd.prog 41 := .of Tryd.func41 (by kernel_rfl) (by kernel_rfl)
def pairL : List Int := [3, 5, 6, 9, 10, 12, 17, 18, 20, 24]
theorem pairs_tab : ((List.range 5).all fun n => (List.range n).all fun w => decide (((2 ^ w + 2 ^ n : Nat) : Int) ∈ pairL) && (orI (IntKind.i64.wrap (1 * 2 ^ (min ((w : Int)).toNat IntKind.i64.bits))) (IntKind.i64.wrap (1 * 2 ^ (min ((n : Int)).toNat IntKind.i64.bits))) == ((2 ^ w + 2 ^ n : Nat) : Int))) = true := by kernel_rfl
theorem pair_at {w n : Nat} (hn : n ≤ 4) (hw : w < n) : ((2 ^ w + 2 ^ n : Nat) : Int) ∈ pairL ∧ orI (IntKind.i64.wrap (1 * 2 ^ (min ((w : Int)).toNat IntKind.i64.bits))) (IntKind.i64.wrap (1 * 2 ^ (min ((n : Int)).toNat IntKind.i64.bits))) = ((2 ^ w + 2 ^ n : Nat) : Int) := by
  have h := List.all_eq_true.1 pairs_tab n (List.mem_range.2 (by omega))
  have h := List.all_eq_true.1 h w (List.mem_range.2 hw)
  rw [Bool.and_eq_true, decide_eq_true_eq, beq_iff_eq] at h
  exact h
theorem cont_next {xs : List Int} {k : Nat} {u y : Int} {b : Bool} (hu : xs[k]? = some u) : ((b || (xs.take k).contains y) || (u == y && (2 : Int) == 2)) = (b || (xs.take (k + 1)).contains y) := by
  rw [take_snoc hu, List.contains_append, Bool.or_assoc]
  have e : (u == y) = decide (y = u) := by rw [Bool.eq_iff_iff, beq_iff_eq, decide_eq_true_iff]; exact eq_comm
  simp [e]
theorem further_end {rows : List (List Int)} {row v : List Int} {W n2 : Nat} {to : Bool} (h0 : rowsN rows = 0) (h4 : rows.length ≤ 4) (hto : to = (bestL (rows ++ [v])).any (fun v => v.contains ((2 ^ W + 2 ^ n2 : Nat) : Int))) (hcx : ∃ x ∈ bestL (rows ++ [v]), ((2 ^ W + 2 ^ n2 : Nat) : Int) ∈ x) : (to && (rowsN (rows ++ [row]) != 0 || decide (bestB (rows ++ [row]) ≥ bestB rows))) = true := by
  obtain ⟨y, hy1, hy2⟩ := hcx
  have ht : (bestL (rows ++ [v])).any (fun v => v.contains ((2 ^ W + 2 ^ n2 : Nat) : Int)) = true := List.any_eq_true.2 ⟨y, hy1, List.contains_iff_mem.2 hy2⟩
  rw [hto, ht, Bool.true_and]
  by_cases hrr : rowsN (rows ++ [row]) = 0
  · have := further_ok h0 h4 hrr
    rw [decide_eq_true this, Bool.or_true]
  · rw [bne_iff_ne.2 hrr]; rfl
theorem which_at {z : Int} {n : Nat} (h : 0 ≤ z ∧ z ≤ 255) (hn : n ≠ 0) : ∃ w : Nat, (IntKind.i64.wrap z).tmod n = w ∧ w < n := by
  rw [show IntKind.i64.wrap z = z from wrap_in (by omega)]
  have h0 : (0 : Int) < (n : Int) := by omega
  have h1 := Int.tmod_nonneg (n : Int) h.1
  have h2 := Int.tmod_lt_of_pos z h0
  exact ⟨(z.tmod n).toNat, by omega, by omega⟩
theorem pair_u {x : Int} (h : x ∈ pairL) : IntKind.u64.wrap x = x := by
  have : (pairL.all fun x => IntKind.u64.wrap x == x) = true := by kernel_rfl
  exact eq_of_beq (List.all_eq_true.1 this x h)
theorem w_ones64 (I : HMap) {x : Int} (hx : x ∈ pairL) : RetV Tryd.prog 41 [.int .u64 x] I (.int .i64 2) := by
  intro g H w hw
  refine enter Tryd.func41 rfl Tryd.ntmps41 rfl hw ?_
  refine X_seq ?_
  refine X_region ?_
  refine XO_v0 (ev_assign rfl) rfl rfl rfl ?_
  refine XO_nil ?_
  refine at_then ?_
  refine X_seq ?_
  refine X_region ?_
  refine XO_v0 (ev_move rfl) rfl rfl rfl ?_
  refine XO_v0 (ev_shr rfl rfl (by decide) (rfl : min _ _ = 1)) rfl rfl rfl ?_
  refine XO_v0 (ev_andU rfl rfl) rfl rfl rfl ?_
  refine XO_v0 (ev_move rfl) rfl rfl rfl ?_
  refine XO_v0 (ev_andU rfl rfl) rfl rfl rfl ?_
  refine XO_v0 (ev_ar rfl rfl rfl) rfl rfl rfl ?_
  refine XO_v0 (ev_assign rfl) rfl rfl rfl ?_
  refine XO_nil ?_
  refine at_then ?_
  refine X_seq ?_
  refine X_region ?_
  refine XO_v0 (ev_move rfl) rfl rfl rfl ?_
  refine XO_v0 (ev_shr rfl rfl (by decide) (rfl : min _ _ = 2)) rfl rfl rfl ?_
  refine XO_v0 (ev_andU rfl rfl) rfl rfl rfl ?_
  refine XO_v0 (ev_move rfl) rfl rfl rfl ?_
  refine XO_v0 (ev_andU rfl rfl) rfl rfl rfl ?_
  refine XO_v0 (ev_ar rfl rfl rfl) rfl rfl rfl ?_
  refine XO_v0 (ev_assign rfl) rfl rfl rfl ?_
  refine XO_nil ?_
  refine at_then ?_
  refine X_seq ?_
  refine X_region ?_
  refine XO_v0 (ev_move rfl) rfl rfl rfl ?_
  refine XO_v0 (ev_shr rfl rfl (by decide) (rfl : min _ _ = 4)) rfl rfl rfl ?_
  refine XO_v0 (ev_move rfl) rfl rfl rfl ?_
  refine XO_v0 (ev_ar rfl rfl rfl) rfl rfl rfl ?_
  refine XO_v0 (ev_andU rfl rfl) rfl rfl rfl ?_
  refine XO_v0 (ev_assign rfl) rfl rfl rfl ?_
  refine XO_nil ?_
  refine at_then ?_
  refine X_seq ?_
  refine X_region ?_
  refine XO_v0 (ev_move rfl) rfl rfl rfl ?_
  refine XO_v0 (ev_move rfl) rfl rfl rfl ?_
  refine XO_v0 (ev_shr rfl rfl (by decide) (rfl : min _ _ = 8)) rfl rfl rfl ?_
  refine XO_v0 (ev_ar rfl rfl rfl) rfl rfl rfl ?_
  refine XO_v0 (ev_assign rfl) rfl rfl rfl ?_
  refine XO_nil ?_
  refine at_then ?_
  refine X_seq ?_
  refine X_region ?_
  refine XO_v0 (ev_move rfl) rfl rfl rfl ?_
  refine XO_v0 (ev_move rfl) rfl rfl rfl ?_
  refine XO_v0 (ev_shr rfl rfl (by decide) (rfl : min _ _ = 16)) rfl rfl rfl ?_
  refine XO_v0 (ev_ar rfl rfl rfl) rfl rfl rfl ?_
  refine XO_v0 (ev_assign rfl) rfl rfl rfl ?_
  refine XO_nil ?_
  refine at_then ?_
  refine X_seq ?_
  refine X_region ?_
  refine XO_v0 (ev_move rfl) rfl rfl rfl ?_
  refine XO_v0 (ev_move rfl) rfl rfl rfl ?_
  refine XO_v0 (ev_shr rfl rfl (by decide) (rfl : min _ _ = 32)) rfl rfl rfl ?_
  refine XO_v0 (ev_ar rfl rfl rfl) rfl rfl rfl ?_
  refine XO_v0 (ev_assign rfl) rfl rfl rfl ?_
  refine XO_nil ?_
  refine at_then ?_
  refine X_seq ?_
  refine X_region ?_
  refine XO_v0 (ev_move rfl) rfl rfl rfl ?_
  refine XO_v0 (ev_convI rfl cvt_66_3) rfl rfl rfl ?_
  refine XO_v0 (ev_and rfl rfl) rfl rfl rfl ?_
  refine XO_v0 (ev_assign rfl) rfl rfl rfl ?_
  refine XO_nil ?_
  refine at_then ?_
  refine X_ret ?_
  have h9 := hx
  unfold pairL at h9
  simp only [List.mem_cons, List.not_mem_nil, or_false] at h9
  exact at_ret1 rfl rfl (fun w hw => ⟨by rcases h9 with rfl | rfl | rfl | rfl | rfl | rfl | rfl | rfl | rfl | rfl <;> kernel_rfl, hw.drop⟩)
theorem w_ones (I : HMap) {x : Int} (hx : x ∈ pairL) : RetV Tryd.prog 27 [.int .u64 x] I (.int .i64 2) := by
  intro g H w hw
  refine enter Tryd.func27 rfl Tryd.ntmps27 rfl hw ?_
  refine X_seq ?_
  refine X_region ?_
  refine XO_v0 (ev_assign rfl) rfl rfl rfl ?_
  refine XO_nil ?_
  refine at_then ?_
  refine X_seq ?_
  refine X_cond rfl (fun hcK => ?_) (fun hcK => ?_)
  · cases hcK
  · skip
    refine X_skip ?_
    refine at_then ?_
    refine X_seq ?_
    refine X_region ?_
    refine XO_v0 (ev_move rfl) rfl rfl rfl ?_
    refine XO_callV0 (cap := []) (vs := [_]) rfl rfl fun_41 (w_ones64 _ hx) rfl rfl ?_
    refine XO_v0 (ev_assign rfl) rfl rfl rfl ?_
    refine XO_nil ?_
    refine at_then ?_
    refine X_ret ?_
    exact at_ret1 rfl rfl (fun w hw => ⟨by first | rfl | simp_all, hw.drop⟩)
theorem w_furtherLaw {I : HMap} {av : Option Addr} {n c : Nat} {xs : List Int} (hS : Sl I 1 encI av n c xs) {bv : Option Addr} {n2 c2 : Nat} {rows : List (List Int)} (hVn : SlN I bv n2 c2 rows) (hbg : n2 ≤ 9223372036854775807) (hDb : DebOK I) {z : Int} (hz : 0 ≤ z ∧ z ≤ 255) : RetV Tryd.prog 9 [.slice bv n2 c2, .slice av n c, .int .u8 z] I (.bool true) := by
  intro g H w hw
  refine enter Tryd.func9 rfl Tryd.ntmps9 rfl hw ?_
  have hIc := HLe.refl I
  have hVn9 := hVn
  obtain ⟨hs, hV⟩ := hVn9
  have hH := hV.1
  have hlV := hV.len
  refine X_seq ?_
  refine X_region ?_
  refine XO_v0 (ev_assign rfl) rfl rfl rfl ?_
  refine XO_nil ?_
  refine at_then ?_
  refine X_seq ?_
  refine X_seq ?_
  refine X_region ?_
  refine XO_callV0 (cap := []) (vs := []) rfl rfl fun_10 (w_sane hDb) rfl rfl ?_
  refine XO_v0 (ev_not rfl) rfl rfl rfl ?_
  refine XO_nil ?_
  refine at_then ?_
  refine X_cond rfl (fun hc24 => ?_) (fun hc24 => ?_)
  · skip
    cases hc24
  · skip
    refine X_skip ?_
    refine at_then ?_
    refine X_seq ?_
    refine X_seq ?_
    refine X_region ?_
    refine XO_v0 (ev_move rfl) rfl rfl rfl ?_
    refine XO_v0 (ev_lenS rfl slt_28) rfl rfl rfl ?_
    refine XO_v0 (ev_cmp rfl rfl rfl) rfl rfl rfl ?_
    refine XO_v0 (ev_move rfl) rfl rfl rfl ?_
    refine XO_pushF 3 rfl rfl rfl ?_
    refine XO_v1 (ev_move rfl) (.some rfl rfl rfl rfl gbf) rfl rfl rfl ?_
    refine XO_v1 (ev_lenS rfl slt_28) (.some rfl rfl rfl rfl gbf) rfl rfl rfl ?_
    refine XO_v1 (ev_cmp rfl rfl rfl) (.some rfl rfl rfl rfl gbf) rfl rfl rfl ?_
    refine XO_or0 rfl rfl rfl rfl rfl ?_
    refine XO_v0 (ev_move rfl) rfl rfl rfl ?_
    refine XO_pushF 8 rfl rfl rfl ?_
    refine XO_v1 (ev_move rfl) (.some rfl rfl rfl rfl gbf) rfl rfl rfl ?_
    refine XO_callV1 (cap := []) (vs := [_, _]) rfl rfl fun_23 (fun hg => w_small hVn hbg 8) (.some rfl rfl rfl rfl gbf) rfl rfl ?_
    refine XO_v1 (ev_not rfl) (.some rfl rfl rfl rfl gbf) rfl rfl rfl ?_
    refine XO_or0 rfl rfl rfl rfl rfl ?_
    refine XO_nil ?_
    refine at_then ?_
    refine X_cond rfl (fun hc37 => ?_) (fun hc37 => ?_)
    · skip
      refine X_seq ?_
      refine X_region ?_
      refine XO_v0 (ev_assign rfl) rfl rfl rfl ?_
      refine XO_nil ?_
      refine at_then ?_
      refine X_ret ?_
      refine at_then_r ?_
      first
      | exact at_ret1 rfl rfl (fun w hw => ⟨by rfl, (hw.mono hIc).drop⟩)
      | exact at_ret1 rfl rfl (fun w hw => ⟨by rw [further_end hr0 (by omega) hto hcx], (hw.mono hIc).drop⟩)
    · skip
      have hsml : n2 ≠ 0 ∧ n2 ≤ 4 ∧ smallF rows 8 = true := by cases hf : smallF rows 8 with
      | true => rw [hf] at hc37; simp at hc37; exact ⟨by omega, by omega, rfl⟩
      | false => rw [hf] at hc37; simp at hc37
      have hn0 := hsml.1
      have h4 := hsml.2.1
      have h6 : rows.length ≠ 6 := by omega
      have hn2 : n2 ≤ 100000 := by omega
      refine X_skip ?_
      refine at_then ?_
      refine X_seq ?_
      refine X_region ?_
      refine XO_v0 (ev_move rfl) rfl rfl rfl ?_
      refine XO_callM (cap := []) (vs := [_]) rfl rfl fun_21 .nil (w_Best hVn hn2 hDb h6) rfl rfl ?_
      rintro vv1 I1 L1 hI1 ⟨rfl, aA, cA, rfl, hA⟩
      have hS := hS.mono hI1
      have hVn := hVn.mono hI1
      have hV := hV.mono hI1
      have hH := hH.mono hI1
      have hDb := hDb.mono hI1
      have hIc := hIc.trans hI1
      refine XO_v0 (ev_move rfl) rfl rfl rfl ?_
      refine XO_v0 (ev_extract rfl rfl) rfl rfl rfl ?_
      refine XO_v0 (ev_extract rfl rfl) rfl rfl rfl ?_
      refine XO_v0 (ev_extract rfl rfl) rfl rfl rfl ?_
      refine XO_v0 (ev_assign rfl) rfl rfl rfl ?_
      refine XO_v0 (ev_assign rfl) rfl rfl rfl ?_
      refine XO_v0 (ev_assign rfl) rfl rfl rfl ?_
      refine XO_nil ?_
      refine at_then ?_
      refine X_seq ?_
      refine X_seq ?_
      refine X_region ?_
      refine XO_v0 (ev_move rfl) rfl rfl rfl ?_
      refine XO_v0 (ev_cmp rfl rfl rfl) rfl rfl rfl ?_
      refine XO_nil ?_
      refine at_then ?_
      refine X_cond rfl (fun hc45 => ?_) (fun hc45 => ?_)
      · skip
        refine X_seq ?_
        refine X_region ?_
        refine XO_v0 (ev_assign rfl) rfl rfl rfl ?_
        refine XO_nil ?_
        refine at_then ?_
        refine X_ret ?_
        refine at_then_r ?_
        first
        | exact at_ret1 rfl rfl (fun w hw => ⟨by rfl, (hw.mono hIc).drop⟩)
        | exact at_ret1 rfl rfl (fun w hw => ⟨by rw [further_end hr0 (by omega) hto hcx], (hw.mono hIc).drop⟩)
      · skip
        have hr0 : rowsN rows = 0 := by simpa using hc45
        obtain ⟨W, eW, hW⟩ := which_at (n := n2) hz hn0
        have hix : 0 ≤ (IntKind.i64.wrap z).tmod (n2 : Int) ∧ (IntKind.i64.wrap z).tmod (n2 : Int) < (n2 : Int) := by rw [eW]; omega
        obtain ⟨hd, v, hxH0, hvW, hQ⟩ := hV.at (k := W) hW
        have hxH : hs[((IntKind.i64.wrap z).tmod (n2 : Int)).toNat]? = some hd := by rw [eW]; exact hxH0
        have hcr := copy_rows hr0 (by omega) hvW
        have hbf := (best_few (rows := rows ++ [v]) (by simp; omega))
        obtain ⟨hcb, hcx⟩ := copy_ok hr0 (by omega) hvW
        obtain ⟨hpm, hpo⟩ := pair_at (w := W) (n := n2) (by omega) hW
        rw [hlV] at hcx
        refine X_skip ?_
        refine at_then ?_
        refine X_cutT [(0, _), (1, _), (2, _), (8, _)] (.cons rfl (.cons rfl (.cons rfl (.cons rfl .nil)))) (fun T L0 E I' loc' => ∃ (v9 : Value) (L9 : Go.Kn.Loc), E = (10, v9) :: T ∧ I1 = I' ∧ L9 ++ L0 = loc' ∧ OwnS 22 1 v9 (n2 + 1) ((hs ++ [hd]).flatMap encH) L9) ?_ ?_
        · skip
          have hD := HLe.refl I1
          refine X_noP ?_
          refine X_drawS I1 [] mixed ?_
          refine XD_take 1 rfl (ev_move rfl) (.none rfl) rfl rfl rfl (by kernel_rfl) (by kernel_rfl) (by kernel_rfl) noP_ok hD (by repeat (first | exact .refl | exact subL_nil | refine .keep ?_ | refine .drop ?_ | refine subL_add ?_)) ?_
          refine XD_take 3 rfl (ev_move rfl) (.none rfl) rfl rfl rfl (by kernel_rfl) (by kernel_rfl) (by kernel_rfl) noP_ok hD (by repeat (first | exact .refl | exact subL_nil | refine .keep ?_ | refine .drop ?_ | refine subL_add ?_)) ?_
          refine XD_take 4 rfl (ev_move rfl) (.none rfl) rfl rfl rfl (by kernel_rfl) (by kernel_rfl) (by kernel_rfl) noP_ok hD (by repeat (first | exact .refl | exact subL_nil | refine .keep ?_ | refine .drop ?_ | refine subL_add ?_)) ?_
          refine XD_take 5 rfl (ev_convI rfl cvt_5_3) (.none rfl) rfl rfl rfl (by kernel_rfl) (by kernel_rfl) (by kernel_rfl) noP_ok hD (by repeat (first | exact .refl | exact subL_nil | refine .keep ?_ | refine .drop ?_ | refine subL_add ?_)) ?_
          refine XD_take 6 rfl (ev_move rfl) (.none rfl) rfl rfl rfl (by kernel_rfl) (by kernel_rfl) (by kernel_rfl) noP_ok hD (by repeat (first | exact .refl | exact subL_nil | refine .keep ?_ | refine .drop ?_ | refine subL_add ?_)) ?_
          refine XD_take 7 rfl (ev_lenS rfl slt_28) (.none rfl) rfl rfl rfl (by kernel_rfl) (by kernel_rfl) (by kernel_rfl) noP_ok hD (by repeat (first | exact .refl | exact subL_nil | refine .keep ?_ | refine .drop ?_ | refine subL_add ?_)) ?_
          refine XD_take 8 rfl (ev_rem rfl rfl (fun hg => by omega)) (.none rfl) rfl rfl rfl (by kernel_rfl) (by kernel_rfl) (by kernel_rfl) noP_ok hD (by repeat (first | exact .refl | exact subL_nil | refine .keep ?_ | refine .drop ?_ | refine subL_add ?_)) ?_
          refine XD_take 9 rfl (ev_indexSl rfl rfl slt_28 hH (fun hg => by first | omega | (simp [conj] at hg; omega))) (.none rfl) rfl rfl rfl (by kernel_rfl) (by kernel_rfl) (by kernel_rfl) noP_ok hD (by repeat (first | exact .refl | exact subL_nil | refine .keep ?_ | refine .drop ?_ | refine subL_add ?_)) ?_
          refine XD_take 10 rfl (ev_load rfl sct_22 (fun hg => by first | exact Sl.get0 hH hxH rfl | exact Sl.get0 hB.1 hgx rfl | exact Sl.get0 hQx hu rfl | exact Cell.h0 rfl | exact Cell.h1 rfl | exact Cell.h2 rfl | exact Cell.h3 rfl | exact Cell.h4 rfl | exact Cell.h5 rfl | (repeat (first | exact Cell.here rfl | apply Cell.there | apply Cell.app)))) (.none rfl) rfl rfl rfl (by kernel_rfl) (by kernel_rfl) (by kernel_rfl) noP_ok hD (by repeat (first | exact .refl | exact subL_nil | refine .keep ?_ | refine .drop ?_ | refine subL_add ?_)) ?_
          refine XD_two 0 11 rfl rfl (by kernel_rfl) ?_ ?_
          · skip
            refine XO_buildSlice (ps := []) (m := []) elt_28 rfl (.nil) rfl (by simp [encH_len]) (by decide) (by decide) rfl rfl (fun b_46 => ?_)
            refine XO_nil ?_
            refine at_D hD (by repeat (first | exact .refl | exact subL_nil | refine .keep ?_ | refine .drop ?_ | refine subL_add ?_)) ?_
            refine XD_two 2 11 rfl rfl (by kernel_rfl) ?_ ?_
            · skip
              refine XO_append (v := _) (ys := hs.flatMap encH) (L := [(b_46, _)]) rfl rfl elt_28 OwnS.new (by repeat (first | exact .cons .here .nil | exact split_all | exact split_app | apply split_cons | apply split_skip)) (hH.src encH_len) (one_H _) (by omega) rfl rfl ?_
              intro v1 L1 hO1 _; rw [List.nil_append, Nat.zero_add] at hO1
              refine XO_nil ?_
              refine at_D hD (by repeat (first | exact .refl | exact subL_nil | refine .keep ?_ | refine .drop ?_ | refine subL_add ?_)) ?_
              refine XD_one 11 rfl (by kernel_rfl) ?_
              refine XO_buildSlice (ps := [(0, _)]) (m := [encH hd]) elt_28 rfl (.cons rfl (.nil)) rfl (by simp [encH_len]) (by decide) (by decide) rfl rfl (fun b_57 => ?_)
              refine XO_nil ?_
              refine at_D hD (by repeat (first | exact .refl | exact subL_nil | refine .keep ?_ | refine .drop ?_ | refine subL_add ?_)) ?_
              refine XD_one 12 rfl (by kernel_rfl) ?_
              refine XO_append (v := _) (ys := [hd].flatMap encH) (L := L1) rfl rfl elt_28 hO1 (by repeat (first | exact .cons .here .nil | exact split_all | exact split_app | apply split_cons | apply split_skip)) ⟨rfl, fun _ => rfl, by repeat (first | exact Cells.here | apply Cells.there | apply Cells.app)⟩ (one_H _) (by omega) rfl rfl ?_
              intro v2 L2 hO2 _; rw [← List.flatMap_append] at hO2
              refine XO_nil ?_
              refine at_D hD (by repeat (first | exact .refl | exact subL_nil | refine .keep ?_ | refine .drop ?_ | refine subL_add ?_)) ?_
              refine XD_take 13 rfl (ev_assign rfl) (.none rfl) rfl rfl rfl (by kernel_rfl) (by kernel_rfl) (by kernel_rfl) noP_ok hD (by repeat (first | exact .refl | exact subL_nil | refine .keep ?_ | refine .drop ?_ | refine subL_add ?_)) ?_
              refine XD_done (by kernel_rfl) ?_
              refine at_noP ?_
              exact at_met2 _ _ ⟨v2, L2, rfl, rfl, rfl, hO2⟩ (.cons rfl (.cons rfl (.cons rfl (.cons rfl (.cons rfl .nil))))) (by repeat (first | exact .refl | exact subL_left | refine subL_app ?_ | refine .drop ?_ | refine subL_add ?_))
            · skip
              refine XO_buildSlice (ps := [(0, _)]) (m := [encH hd]) elt_28 rfl (.cons rfl (.nil)) rfl (by simp [encH_len]) (by decide) (by decide) rfl rfl (fun b_57 => ?_)
              refine XO_nil ?_
              refine at_D hD (by repeat (first | exact .refl | exact subL_nil | refine .keep ?_ | refine .drop ?_ | refine subL_add ?_)) ?_
              refine XD_one 2 rfl (by kernel_rfl) ?_
              refine XO_append (v := _) (ys := hs.flatMap encH) (L := [(b_46, _)]) rfl rfl elt_28 OwnS.new (by repeat (first | exact .cons .here .nil | exact split_all | exact split_app | apply split_cons | apply split_skip)) (hH.src encH_len) (one_H _) (by omega) rfl rfl ?_
              intro v1 L1 hO1 _; rw [List.nil_append, Nat.zero_add] at hO1
              refine XO_nil ?_
              refine at_D hD (by repeat (first | exact .refl | exact subL_nil | refine .keep ?_ | refine .drop ?_ | refine subL_add ?_)) ?_
              refine XD_one 12 rfl (by kernel_rfl) ?_
              refine XO_append (v := _) (ys := [hd].flatMap encH) (L := L1) rfl rfl elt_28 hO1 (by repeat (first | exact .cons .here .nil | exact split_all | exact split_app | apply split_cons | apply split_skip)) ⟨rfl, fun _ => rfl, by repeat (first | exact Cells.here | apply Cells.there | apply Cells.app)⟩ (one_H _) (by omega) rfl rfl ?_
              intro v2 L2 hO2 _; rw [← List.flatMap_append] at hO2
              refine XO_nil ?_
              refine at_D hD (by repeat (first | exact .refl | exact subL_nil | refine .keep ?_ | refine .drop ?_ | refine subL_add ?_)) ?_
              refine XD_take 13 rfl (ev_assign rfl) (.none rfl) rfl rfl rfl (by kernel_rfl) (by kernel_rfl) (by kernel_rfl) noP_ok hD (by repeat (first | exact .refl | exact subL_nil | refine .keep ?_ | refine .drop ?_ | refine subL_add ?_)) ?_
              refine XD_done (by kernel_rfl) ?_
              refine at_noP ?_
              exact at_met2 _ _ ⟨v2, L2, rfl, rfl, rfl, hO2⟩ (.cons rfl (.cons rfl (.cons rfl (.cons rfl (.cons rfl .nil))))) (by repeat (first | exact .refl | exact subL_left | refine subL_app ?_ | refine .drop ?_ | refine subL_add ?_))
          · skip
            refine XO_buildSlice (ps := [(0, _)]) (m := [encH hd]) elt_28 rfl (.cons rfl (.nil)) rfl (by simp [encH_len]) (by decide) (by decide) rfl rfl (fun b_57 => ?_)
            refine XO_nil ?_
            refine at_D hD (by repeat (first | exact .refl | exact subL_nil | refine .keep ?_ | refine .drop ?_ | refine subL_add ?_)) ?_
            refine XD_one 0 rfl (by kernel_rfl) ?_
            refine XO_buildSlice (ps := []) (m := []) elt_28 rfl (.nil) rfl (by simp [encH_len]) (by decide) (by decide) rfl rfl (fun b_46 => ?_)
            refine XO_nil ?_
            refine at_D hD (by repeat (first | exact .refl | exact subL_nil | refine .keep ?_ | refine .drop ?_ | refine subL_add ?_)) ?_
            refine XD_one 2 rfl (by kernel_rfl) ?_
            refine XO_append (v := _) (ys := hs.flatMap encH) (L := [(b_46, _)]) rfl rfl elt_28 OwnS.new (by repeat (first | exact .cons .here .nil | exact split_all | exact split_app | apply split_cons | apply split_skip)) (hH.src encH_len) (one_H _) (by omega) rfl rfl ?_
            intro v1 L1 hO1 _; rw [List.nil_append, Nat.zero_add] at hO1
            refine XO_nil ?_
            refine at_D hD (by repeat (first | exact .refl | exact subL_nil | refine .keep ?_ | refine .drop ?_ | refine subL_add ?_)) ?_
            refine XD_one 12 rfl (by kernel_rfl) ?_
            refine XO_append (v := _) (ys := [hd].flatMap encH) (L := L1) rfl rfl elt_28 hO1 (by repeat (first | exact .cons .here .nil | exact split_all | exact split_app | apply split_cons | apply split_skip)) ⟨rfl, fun _ => rfl, by repeat (first | exact Cells.here | apply Cells.there | apply Cells.app)⟩ (one_H _) (by omega) rfl rfl ?_
            intro v2 L2 hO2 _; rw [← List.flatMap_append] at hO2
            refine XO_nil ?_
            refine at_D hD (by repeat (first | exact .refl | exact subL_nil | refine .keep ?_ | refine .drop ?_ | refine subL_add ?_)) ?_
            refine XD_take 13 rfl (ev_assign rfl) (.none rfl) rfl rfl rfl (by kernel_rfl) (by kernel_rfl) (by kernel_rfl) noP_ok hD (by repeat (first | exact .refl | exact subL_nil | refine .keep ?_ | refine .drop ?_ | refine subL_add ?_)) ?_
            refine XD_done (by kernel_rfl) ?_
            refine at_noP ?_
            exact at_met2 _ _ ⟨v2, L2, rfl, rfl, rfl, hO2⟩ (.cons rfl (.cons rfl (.cons rfl (.cons rfl (.cons rfl .nil))))) (by repeat (first | exact .refl | exact subL_left | refine subL_app ?_ | refine .drop ?_ | refine subL_add ?_))
        · rintro E I' loc' ⟨v9, L9, rfl, rfl, rfl, hO9⟩
          refine X_seq ?_
          refine X_freezeO hO9 encH_len (by decide) split_app (fun I3 hI3 af3 cf3 ef3 hM => ?_)
          subst ef3
          have hS := hS.mono hI3
          have hVn := hVn.mono hI3
          have hV := hV.mono hI3
          have hH := hH.mono hI3
          have hDb := hDb.mono hI3
          have hA := hA.mono hI3
          have hQ := hQ.mono hI3
          have hIc := hIc.trans hI3
          have hCN : SlN _ _ _ _ (rows ++ [v]) := ⟨_, hV.snoc (hd := hd) hM hQ⟩
          refine X_region ?_
          refine XO_v0 (ev_move rfl) rfl rfl rfl ?_
          refine XO_callM (cap := []) (vs := [_]) rfl rfl fun_21 .nil (w_Best hCN (by omega) hDb (by simp; omega)) rfl rfl ?_
          rintro vv4 I4 L4 hI4 ⟨rfl, aB, cB, rfl, hB⟩
          have hS := hS.mono hI4
          have hVn := hVn.mono hI4
          have hV := hV.mono hI4
          have hH := hH.mono hI4
          have hDb := hDb.mono hI4
          have hA := hA.mono hI4
          have hQ := hQ.mono hI4
          have hM := hM.mono hI4
          have hCN := hCN.mono hI4
          have hIc := hIc.trans hI4
          obtain ⟨gs, hB⟩ := hB
          refine XO_v0 (ev_move rfl) rfl rfl rfl ?_
          refine XO_v0 (ev_extract rfl rfl) rfl rfl rfl ?_
          refine XO_v0 (ev_extract rfl rfl) rfl rfl rfl ?_
          refine XO_v0 (ev_extract rfl rfl) rfl rfl rfl ?_
          refine XO_v0 (ev_assign rfl) rfl rfl rfl ?_
          refine XO_v0 (ev_assign rfl) rfl rfl rfl ?_
          refine XO_v0 (ev_assign rfl) rfl rfl rfl ?_
          refine XO_nil ?_
          refine at_then ?_
          refine X_seq ?_
          refine X_seq ?_
          refine X_region ?_
          refine XO_v0 (ev_move rfl) rfl rfl rfl ?_
          refine XO_v0 (ev_cmp rfl rfl rfl) rfl rfl rfl ?_
          refine XO_v0 (ev_move rfl) rfl rfl rfl ?_
          refine XO_pushF 2 rfl rfl rfl ?_
          refine XO_v1 (ev_move rfl) (.some rfl rfl rfl rfl gbf) rfl rfl rfl ?_
          refine XO_v1 (ev_move rfl) (.some rfl rfl rfl rfl gbf) rfl rfl rfl ?_
          refine XO_v1 (ev_cmp rfl rfl rfl) (.some rfl rfl rfl rfl gbf) rfl rfl rfl ?_
          refine XO_or0 rfl rfl rfl rfl rfl ?_
          refine XO_nil ?_
          refine at_then ?_
          refine X_cond rfl (fun hc71 => ?_) (fun hc71 => ?_)
          · skip
            rw [hcr, hcb] at hc71; simp at hc71
          · skip
            refine X_skip ?_
            refine at_then ?_
            refine X_seq ?_
            refine X_draw mixed (by kernel_rfl) ?_
            refine XQ_v0 (ev_move rfl) rfl rfl rfl ?_
            refine XQ_v0 (ev_convI rfl cvt_5_3) rfl rfl rfl ?_
            refine XQ_v0 (ev_move rfl) rfl rfl rfl ?_
            refine XQ_v0 (ev_lenS rfl slt_28) rfl rfl rfl ?_
            refine XQ_v0 (ev_rem rfl rfl (fun hg => by omega)) rfl rfl rfl ?_
            refine XQ_v0 (ev_shl rfl rfl (fun hg => by first | decide | omega | (simp [conj] at hg; omega))) rfl rfl rfl ?_
            refine XQ_v0 (ev_move rfl) rfl rfl rfl ?_
            refine XQ_v0 (ev_lenS rfl slt_28) rfl rfl rfl ?_
            refine XQ_v0 (ev_shl rfl rfl (fun hg => by first | decide | omega | (simp [conj] at hg; omega))) rfl rfl rfl ?_
            refine XQ_v0 (ev_or rfl rfl) rfl rfl rfl ?_
            refine XQ_v0 (ev_assign rfl) rfl rfl rfl ?_
            refine XQ_nil ?_
            rw [eW, hpo]
            refine at_then ?_
            refine X_seq ?_
            refine X_region ?_
            refine XO_v0 (ev_assign rfl) rfl rfl rfl ?_
            refine XO_nil ?_
            refine at_then ?_
            refine X_seq ?_
            refine X_seq ?_
            refine X_region ?_
            refine XO_v0 (ev_move rfl) rfl rfl rfl ?_
            refine XO_v0 (ev_lenS rfl slt_28) rfl rfl rfl ?_
            refine XO_v0 (ev_move rfl) rfl rfl rfl ?_
            refine XO_nil ?_
            refine at_then ?_
            refine X_block ?_
            refine X_loopT [(0, _), (1, _), (8, _), (14, _), (82, _), (83, _)] (.cons rfl (.cons rfl (.cons rfl (.cons rfl (.cons rfl (.cons rfl .nil)))))) (fun T L0 mz E I' loc' => ∃ (i : Nat) (to : Bool), mz = (bestL (rows ++ [v])).length - i ∧ E = (15, .bool to) :: (84, .int .i64 i) :: T ∧ I4 = I' ∧ L0 = loc' ∧ i ≤ (bestL (rows ++ [v])).length ∧ to = ((bestL (rows ++ [v])).take i).any (fun v => v.contains ((2 ^ W + 2 ^ n2 : Nat) : Int))) _ _ _ _ ⟨0, _, rfl, rfl, rfl, rfl, Nat.zero_le _, rfl⟩ (.cons rfl (.cons rfl (.cons rfl (.cons rfl (.cons rfl (.cons rfl (.cons rfl (.cons rfl .nil)))))))) (HLe.refl _) rfl ?_
            rintro mz E I' loc' ⟨i, to, rfl, rfl, rfl, rfl, hi, hto⟩
            refine X_seq ?_
            refine X_region ?_
            refine XO_v0 (ev_cmp rfl rfl rfl) rfl rfl rfl ?_
            refine XO_nil ?_
            refine at_then ?_
            refine X_seq ?_
            refine X_cond rfl (fun hc85 => ?_) (fun hc85 => ?_)
            · skip
              have hlt_i : i < (bestL (rows ++ [v])).length := by have h := hc85; simp at h; omega
              obtain ⟨hx0, x, hgx, hx, hQx⟩ := hB.at hlt_i
              have hxl := hQx.len
              have hxs := hbf.2 _ (List.mem_of_getElem? hx)
              refine X_skip ?_
              refine at_then ?_
              refine X_seq ?_
              refine X_block ?_
              refine X_seq ?_
              refine X_region ?_
              refine XO_v0 (ev_indexSl rfl rfl slt_28 hB.1 (fun hg => by first | omega | (simp [conj] at hg; omega))) rfl rfl rfl ?_
              refine XO_v0 (ev_load rfl sct_22 (fun hg => by first | exact Sl.get0 hH hxH rfl | exact Sl.get0 hB.1 hgx rfl | exact Sl.get0 hQx hu rfl | exact Cell.h0 rfl | exact Cell.h1 rfl | exact Cell.h2 rfl | exact Cell.h3 rfl | exact Cell.h4 rfl | exact Cell.h5 rfl | (repeat (first | exact Cell.here rfl | apply Cell.there | apply Cell.app)))) rfl rfl rfl ?_
              refine XO_v0 (ev_assign rfl) rfl rfl rfl ?_
              refine XO_nil ?_
              refine at_then ?_
              refine X_seq ?_
              refine X_region ?_
              refine XO_v0 (ev_move rfl) rfl rfl rfl ?_
              refine XO_v0 (ev_lenS rfl slt_22) rfl rfl rfl ?_
              refine XO_v0 (ev_move rfl) rfl rfl rfl ?_
              refine XO_nil ?_
              refine at_then ?_
              refine X_block ?_
              refine X_loopT [(0, _), (1, _), (8, _), (14, _), (82, _), (83, _), (84, _), (88, _), (89, _)] (.cons rfl (.cons rfl (.cons rfl (.cons rfl (.cons rfl (.cons rfl (.cons rfl (.cons rfl (.cons rfl .nil))))))))) (fun T L0 mz E I' loc' => ∃ (j : Nat) (tu : Bool), mz = hx0.n - j ∧ E = (15, .bool tu) :: (90, .int .i64 j) :: T ∧ I4 = I' ∧ L0 = loc' ∧ j ≤ hx0.n ∧ tu = (to || (x.take j).contains ((2 ^ W + 2 ^ n2 : Nat) : Int))) _ _ _ _ ⟨0, _, rfl, rfl, rfl, rfl, Nat.zero_le _, by simp⟩ (.cons rfl (.cons rfl (.cons rfl (.cons rfl (.cons rfl (.cons rfl (.cons rfl (.cons rfl (.cons rfl (.cons rfl (.cons rfl .nil))))))))))) (HLe.refl _) rfl ?_
              rintro mz E I' loc' ⟨j, tu, rfl, rfl, rfl, rfl, hj, htu⟩
              refine X_seq ?_
              refine X_region ?_
              refine XO_v0 (ev_cmp rfl rfl rfl) rfl rfl rfl ?_
              refine XO_nil ?_
              refine at_then ?_
              refine X_seq ?_
              refine X_cond rfl (fun hc91 => ?_) (fun hc91 => ?_)
              · skip
                have hlt_j : j < hx0.n := by have h := hc91; simp at h; omega
                obtain ⟨u, hu⟩ := hQx.at hlt_j
                refine X_skip ?_
                refine at_then ?_
                refine X_seq ?_
                refine X_block ?_
                refine X_seq ?_
                refine X_region ?_
                refine XO_v0 (ev_indexSl rfl rfl slt_22 hQx (fun hg => by first | omega | (simp [conj] at hg; omega))) rfl rfl rfl ?_
                refine XO_v0 (ev_load rfl sct_3 (fun hg => by first | exact Sl.get0 hH hxH rfl | exact Sl.get0 hB.1 hgx rfl | exact Sl.get0 hQx hu rfl | exact Cell.h0 rfl | exact Cell.h1 rfl | exact Cell.h2 rfl | exact Cell.h3 rfl | exact Cell.h4 rfl | exact Cell.h5 rfl | (repeat (first | exact Cell.here rfl | apply Cell.there | apply Cell.app)))) rfl rfl rfl ?_
                refine XO_v0 (ev_assign rfl) rfl rfl rfl ?_
                refine XO_nil ?_
                refine at_then ?_
                refine X_region ?_
                refine XO_v0 (ev_move rfl) rfl rfl rfl ?_
                refine XO_v0 (ev_move rfl) rfl rfl rfl ?_
                refine XO_pushF 1 rfl rfl rfl ?_
                refine XO_v1 (ev_move rfl) (.some rfl rfl rfl rfl gbf) rfl rfl rfl ?_
                refine XO_v1 (ev_move rfl) (.some rfl rfl rfl rfl gbf) rfl rfl rfl ?_
                refine XO_v1 (ev_cmp rfl rfl rfl) (.some rfl rfl rfl rfl gbf) rfl rfl rfl ?_
                refine XO_v1 (ev_move rfl) (.some rfl rfl rfl rfl gbf) rfl rfl rfl ?_
                refine XO_pushT 5 rfl rfl rfl ?_
                refine XO_v1 (ev_move rfl) (.some rfl rfl rfl rfl gbt) rfl rfl rfl ?_
                refine XO_v1 (ev_convI rfl cvt_3_48) (.some rfl rfl rfl rfl gbt) rfl rfl rfl ?_
                refine XO_callV1 (cap := []) (vs := [_]) rfl rfl fun_27 (fun hg => w_ones _ (by have hu9 : u = ((2 ^ W + 2 ^ n2 : Nat) : Int) := (by simp [conj] at hg; rw [hg.1]; simp); rw [hu9, pair_u hpm]; exact hpm)) (.some rfl rfl rfl rfl gbt) rfl rfl ?_
                refine XO_v1 (ev_cmp rfl rfl rfl) (.some rfl rfl rfl rfl gbt) rfl rfl rfl ?_
                refine XO_and1 rfl rfl rfl (.some rfl rfl rfl rfl gbf) rfl rfl ?_
                refine XO_or0 rfl rfl rfl rfl rfl ?_
                refine XO_v0 (ev_assign rfl) rfl rfl rfl ?_
                refine XO_nil ?_
                refine at_block_n ?_
                refine at_then ?_
                refine X_region ?_
                refine XO_v0 (ev_arB rfl rfl rfl (fun hg => by first | omega | (simp [conj] at hg; omega))) rfl rfl rfl ?_
                refine XO_v0 (ev_move rfl) rfl rfl rfl ?_
                refine XO_nil ?_
                exact at_met2 _ _ ⟨hx0.n - (j + 1), by omega, j + 1, _, rfl, rfl, rfl, rfl, by omega, by rw [htu]; exact cont_next hu⟩ (.cons rfl (.cons rfl (.cons rfl (.cons rfl (.cons rfl (.cons rfl (.cons rfl (.cons rfl (.cons rfl (.cons rfl (.cons rfl .nil))))))))))) (by repeat (first | exact .refl | exact subL_left | refine subL_app ?_ | refine .drop ?_ | refine subL_add ?_))
              · skip
                have hge_j : hx0.n ≤ j := by have h := hc91; simp at h; omega
                rw [List.take_of_length_le (show x.length ≤ j by omega)] at htu
                refine X_exit ?_
                refine at_then_e ?_
                refine at_then_e ?_
                refine at_block_hit ?_
                refine at_block_n ?_
                refine at_then ?_
                refine X_region ?_
                refine XO_v0 (ev_arB rfl rfl rfl (fun hg => by first | omega | (simp [conj] at hg; omega))) rfl rfl rfl ?_
                refine XO_v0 (ev_move rfl) rfl rfl rfl ?_
                refine XO_nil ?_
                exact at_met2 _ _ ⟨(bestL (rows ++ [v])).length - (i + 1), by omega, i + 1, _, rfl, rfl, rfl, rfl, by omega, by rw [any_take hx, ← hto]; exact htu⟩ (.cons rfl (.cons rfl (.cons rfl (.cons rfl (.cons rfl (.cons rfl (.cons rfl (.cons rfl .nil)))))))) (by repeat (first | exact .refl | exact subL_left | refine subL_app ?_ | refine .drop ?_ | refine subL_add ?_))
            · skip
              have hge_i : (bestL (rows ++ [v])).length ≤ i := by have h := hc85; simp at h; omega
              rw [List.take_of_length_le hge_i] at hto
              refine X_exit ?_
              refine at_then_e ?_
              refine at_then_e ?_
              refine at_block_hit ?_
              refine at_then ?_
              refine X_seq ?_
              refine X_region ?_
              refine XO_buildSlice (ps := []) (m := []) elt_28 rfl (.nil) rfl (by simp [encH_len]) (by decide) (by decide) rfl rfl (fun b_109 => ?_)
              refine XO_v0 (ev_move rfl) rfl rfl rfl ?_
              refine XO_append (v := _) (ys := hs.flatMap encH) (L := [(b_109, _)]) rfl rfl elt_28 OwnS.new (by repeat (first | exact .cons .here .nil | exact split_all | exact split_app | apply split_cons | apply split_skip)) (hH.src encH_len) (one_H _) (by omega) rfl rfl ?_
              intro v3 L3 hO3 _; rw [List.nil_append, Nat.zero_add] at hO3
              refine XO_v0 (ev_move rfl) rfl rfl rfl ?_
              refine XO_buildSlice (ps := [(0, _)]) (m := [encH ⟨av, n, c⟩]) elt_28 rfl (.cons rfl (.nil)) rfl (by simp [encH_len]) (by decide) (by decide) rfl rfl (fun b_113 => ?_)
              refine XO_append (v := _) (ys := [(⟨av, n, c⟩ : Hd)].flatMap encH) (L := L3) rfl rfl elt_28 hO3 (by repeat (first | exact .cons .here .nil | exact split_all | exact split_app | apply split_cons | apply split_skip)) ⟨rfl, fun _ => rfl, by repeat (first | exact Cells.here | apply Cells.there | apply Cells.app)⟩ (one_H _) (by omega) rfl rfl ?_
              intro v4 L4 hO4 _; rw [← List.flatMap_append] at hO4
              refine XO_freezeO hO4 encH_len (by decide) (by repeat (first | exact .cons .here .nil | exact split_all | exact split_app | apply split_cons | apply split_skip)) (fun I7 hI7 af7 cf7 ef7 hM2 => ?_)
              subst ef7
              have hS := hS.mono hI7
              have hVn := hVn.mono hI7
              have hV := hV.mono hI7
              have hH := hH.mono hI7
              have hDb := hDb.mono hI7
              have hA := hA.mono hI7
              have hQ := hQ.mono hI7
              have hM := hM.mono hI7
              have hCN := hCN.mono hI7
              have hB := hB.mono hI7
              have hIc := hIc.trans hI7
              refine XO_callM (cap := []) (vs := [_]) rfl rfl fun_21 .nil (w_Best ⟨_, hV.snoc (hd := ⟨av, n, c⟩) hM2 hS⟩ (by omega) hDb (by simp; omega)) rfl rfl ?_
              rintro vv8 I8 L8 hI8 ⟨rfl, aC, cC, rfl, hC⟩
              have hS := hS.mono hI8
              have hVn := hVn.mono hI8
              have hV := hV.mono hI8
              have hH := hH.mono hI8
              have hDb := hDb.mono hI8
              have hA := hA.mono hI8
              have hQ := hQ.mono hI8
              have hM := hM.mono hI8
              have hCN := hCN.mono hI8
              have hB := hB.mono hI8
              have hM2 := hM2.mono hI8
              have hIc := hIc.trans hI8
              refine XO_v0 (ev_move rfl) rfl rfl rfl ?_
              refine XO_v0 (ev_extract rfl rfl) rfl rfl rfl ?_
              refine XO_v0 (ev_extract rfl rfl) rfl rfl rfl ?_
              refine XO_v0 (ev_extract rfl rfl) rfl rfl rfl ?_
              refine XO_v0 (ev_assign rfl) rfl rfl rfl ?_
              refine XO_v0 (ev_assign rfl) rfl rfl rfl ?_
              refine XO_v0 (ev_assign rfl) rfl rfl rfl ?_
              refine XO_nil ?_
              refine at_then ?_
              refine X_seq ?_
              refine X_region ?_
              refine XO_v0 (ev_move rfl) rfl rfl rfl ?_
              refine XO_v0 (ev_move rfl) rfl rfl rfl ?_
              refine XO_pushT 1 rfl rfl rfl ?_
              refine XO_v1 (ev_move rfl) (.some rfl rfl rfl rfl gbt) rfl rfl rfl ?_
              refine XO_v1 (ev_cmp rfl rfl rfl) (.some rfl rfl rfl rfl gbt) rfl rfl rfl ?_
              refine XO_v1 (ev_move rfl) (.some rfl rfl rfl rfl gbt) rfl rfl rfl ?_
              refine XO_pushF 4 rfl rfl rfl ?_
              refine XO_v1 (ev_move rfl) (.some rfl rfl rfl rfl gbf) rfl rfl rfl ?_
              refine XO_v1 (ev_move rfl) (.some rfl rfl rfl rfl gbf) rfl rfl rfl ?_
              refine XO_v1 (ev_cmp rfl rfl rfl) (.some rfl rfl rfl rfl gbf) rfl rfl rfl ?_
              refine XO_or1 rfl rfl rfl (.some rfl rfl rfl rfl gbt) rfl rfl ?_
              refine XO_and0 rfl rfl rfl rfl rfl ?_
              refine XO_v0 (ev_assign rfl) rfl rfl rfl ?_
              refine XO_nil ?_
              refine at_then ?_
              refine X_ret ?_
              first
              | exact at_ret1 rfl rfl (fun w hw => ⟨by rfl, (hw.mono hIc).drop⟩)
              | exact at_ret1 rfl rfl (fun w hw => ⟨by rw [further_end hr0 (by omega) hto hcx], (hw.mono hIc).drop⟩)
end Go.Proofs.YtkpmnnflikkhmaaDoor
end
section
namespace Go.Kn
open Go Go.ChangeShapes Go.WideShapes Go.ChangeAt Go.RowKit
/-- All that lies in the world is read only. -/
def heapI (W : World) : HMap := fun b => W.heap[b]?
theorem St.start (W : World) : St W (heapI W) (fun _ => none) [] W :=
  ⟨rfl, rfl, rfl, ⟨Nat.le_refl _, Nat.le_refl _⟩, fun _ _ h => h, (fun _ _ h => by cases h), (fun _ _ h => by cases h), fun _ => .inr rfl, (fun _ _ h => by cases h), by simp⟩
theorem St.below {W w : World} {H : HMap} {loc : Loc} (h : St W (heapI W) H loc w) : Below W.heap.size W w :=
  ⟨h.os, h.tape, h.out, h.size.1, fun k hk => by
    have e : W.heap[k]? = some W.heap[k] := Array.getElem?_eq_getElem hk
    rw [h.imm k _ e, e]⟩
theorem RetV.law {P : Program} {f : FuncId} {args : List Value} {W : World} {v : Value} (h : RetV P f args (heapI W) v) : Calls P f args.toArray W fun e w' => e = .returned v ∧ Below W.heap.size W w' :=
  (h W _ W (St.start W)).mono fun _ _ ⟨he, hs⟩ => ⟨he, hs.below⟩
theorem keptBut_below {W w : World} {may : MemPlace → Prop} (h : Below W.heap.size W w) : W.keptBut w may := by
  refine ⟨h.os, h.output, fun i hi => ?_⟩
  rw [h.block i hi]
  rw [Array.getElem?_eq_getElem hi]
  cases W.heap[i] <;> simp
theorem trodAll_stays {H : Type} {enc : TypeId × Value → H} {P : Program} {W W' : World} (hl : laidOutB P = true) (hB : Below W.heap.size W W') (sp : Nat → Bool) : ∀ (ts : List TypeId) (vs : List Value) (ds : List (DataW H)) (ps : List MemPlace), (∀ t ∈ ts, P.readableRec t = true ∧ t < P.types.size) →
    DataW.TrodAll enc P W 0 (fun _ => true) true ts vs ds ps → (∀ x ∈ ps, x.block < W.heap.size ∧ sp x.block = true) → DataW.TrodAll enc P W' 0 sp true ts vs ds ps
  | [], [], [], ps, _, h, _ => h
  | t :: ts, v :: vs, d :: ds, ps, hr, ⟨p, q, h1, h2, e⟩, hlt => by
    subst e
    exact ⟨p, q, WideElems.Trod_stays hl (hr t (List.mem_cons_self ..)).1 (hr t (List.mem_cons_self ..)).2 h1 (fun x hx => hB.same (hlt x (List.mem_append_left _ hx)).1) (fun x hx => (hlt x (List.mem_append_left _ hx)).2),
      trodAll_stays hl hB sp ts vs ds q (fun t ht => hr t (List.mem_cons_of_mem _ ht)) h2 (fun x hx => hlt x (List.mem_append_right _ hx)), rfl⟩
/-- A law's row: it hands back true; the input reads as it did. -/
theorem post_law {H : Type} {enc : TypeId × Value → H} {P : Program} {f : Func} {s : ChangeSpec} {again : Bool} {W W' : World} {args : Array Value} {ds : List (DataW H)} {before : List MemPlace} {tb : TypeId}
    (hl : laidOutB P = true) (hr : f.resultTypes = #[tb]) (hb : P.underlying tb = some .bool) (hv : s.vars = []) (hs : (s.fn H (ds ++ [])) = { results := [.lit (.bool true)], args := ds }) (hrd : ∀ t ∈ f.params.toList, P.readableRec t = true ∧ t < P.types.size)
    (hW : DataW.Whole enc P f.params.toList s.vars false W args.toList ds [] before) (hB : Below W.heap.size W W') : s.post enc P f false true false again W args (.bool true) W' := by
  have hlt : ∀ x ∈ before, x.block < W.heap.size := fun x hx => by simpa using hW.lt x hx
  have hW0 := hW
  obtain ⟨p, q, hA, hV, rfl, hfz, _⟩ := hW
  rw [hv] at hV
  obtain ⟨_, rfl⟩ := trodVars_none hV
  rw [List.append_nil] at hlt hfz hW0
  have hres : ∀ (b : Nat) (sp : Nat → Bool) (hd : Bool), DataW.TrodAll enc P W' b sp hd f.resultTypes.toList ((Value.bool true).resultList f.resultTypes.size) [.lit (.bool true)] [] := fun b sp hd => by
    rw [hr]; exact trodAll_mk1 (shut_bool hb true)
  have hargs : ∀ sp : Nat → Bool, (∀ x ∈ p, sp x.block = true) → DataW.TrodAll enc P W' 0 sp true f.params.toList args.toList ds p := fun sp h => trodAll_stays hl hB sp _ _ _ _ hrd hA (fun x hx => ⟨hlt x hx, h x hx⟩)
  have hnil : ∀ sp : Nat → Bool, DataW.TrodVars enc P W' sp s.vars [] [] := fun sp => by rw [hv]; rfl
  refine ⟨ds, [], p, [], p, [], hW0, ?_, ?_, ?_, keptBut_below hB, fun _ => ?_⟩
  · rw [hs]; exact hres _ _ _
  · rw [hs]; exact hargs _ (fun x hx => by simpa using hlt x hx)
  · rw [hs]; exact hnil _
  · refine ⟨fun j t r ht hr' => ?_, [.lit (.bool true)] ++ ds, [], [] ++ p, ⟨[] ++ p, [], trodAll_append (hargs _ (fun _ _ => rfl)) (hres _ _ _), hnil _, by simp, ?_, fun h => by cases h⟩, fun x hx _ => by simpa using hx⟩
    · rw [hr] at ht hr'
      cases j with
      | zero => simp [Value.resultList] at ht hr'; subst ht; subst hr'; exact okWide_bool_mk hb _
      | succ j => simp at ht
    · intro b off hx
      rw [hB.frozen (hlt _ (by simpa using hx))]
      exact hfz b off (by simpa using hx)
theorem cell_heap {W : World} {b o : Nat} {u : Value} (h : W.cell? ⟨b, o, none⟩ = some u) : Cell (heapI W) [] b o u := by
  unfold World.cell? at h
  split at h
  · rename_i c t fz hb
    simp only [Option.isSome_none, Bool.false_eq_true, if_false] at h
    exact ⟨c, t, fz, .inl hb, h⟩
  · cases h
/-- A slice that came in, as it is read. -/
theorem open_SlT {H : Type} {enc : TypeId × Value → H} {P : Program} {W : World} {t e : TypeId} {size fuel0 : Nat} {cs : List Value} {x0 : DataW H × List MemPlace} {α : Type} (enc' : α → List Value) (ok : α → Prop)
    (ht : P.underlying t = some (.slice e)) (hc : P.cellsOf e = size) (hpos : 0 < size) (hlen : ∀ y, (enc' y).length = size)
    (hel : ∀ fuel cs x, DataW.trod enc P W 0 (fun _ => true) true fuel e cs = some x → ∃ y, ok y ∧ enc' y = cs)
    (hf' : DataW.trod enc P W 0 (fun _ => true) true fuel0 t cs = some x0) : ∃ av n c xs, cs = [.slice av n c] ∧ Sl (heapI W) size enc' av n c xs ∧ (∀ x ∈ xs, ok x) ∧ c ≤ maxLen := by
  rcases Go.Deep.open_slice ht hf' with ⟨e1, _⟩ | ⟨a, len0, cap0, m, n, D, Pl, e1, hb, hl, hm, hmm, _, hx⟩
  · subst e1
    exact ⟨none, 0, 0, [], rfl, .nil, (fun x hx => by cases hx), Nat.zero_le _⟩
  · subst e1
    have hlm : len0 ≤ m := by rw [hmm]; simp; exact hl
    have each : ∀ i, i < len0 → ∃ y, ok y ∧ W.cells? 0 (a.add (i * size)) size = some (enc' y) := fun i hi => by
      obtain ⟨cs', h1, h2⟩ := hx i (by omega)
      obtain ⟨y, hy, e⟩ := hel _ _ _ h2
      rw [hc] at h1
      exact ⟨y, hy, by rw [h1, e]⟩
    have all : ∀ k, k ≤ len0 → ∃ xs : List α, xs.length = k ∧ ∀ i x, xs[i]? = some x → ok x ∧ W.cells? 0 (a.add (i * size)) size = some (enc' x) := by
      intro k
      induction k with
      | zero => intro _; exact ⟨[], rfl, fun i x h => by simp at h⟩
      | succ k ih =>
        intro hk
        obtain ⟨xs, hl', hxs⟩ := ih (by omega)
        obtain ⟨y, hy, hcy⟩ := each k (by omega)
        refine ⟨xs ++ [y], by simp [hl'], fun i x h => ?_⟩
        by_cases hi : i < xs.length
        · rw [List.getElem?_append_left hi] at h; exact hxs i x h
        · rw [List.getElem?_append_right (by omega)] at h
          have : i = k := by have := (List.getElem?_eq_some_iff.1 h).1; simp at this; omega
          subst this
          rw [hl'] at h; simp at h; subst h
          exact ⟨hy, hcy⟩
    obtain ⟨xs, hl', hxs⟩ := all len0 (Nat.le_refl _)
    have add0 : ∀ (b o n : Nat), (⟨b, o, none⟩ : Addr).add n = ⟨b, o + n, none⟩ := fun b o n => by
      unfold Addr.add
      split
      · rename_i e; subst e; rfl
      · rfl
    have hspot : 0 < xs.length → a.spot = none := fun hx => by
      have hx0 : xs[0]? = some xs[0] := List.getElem?_eq_getElem hx
      have hp0 : 0 < (enc' xs[0]).length := by rw [hlen]; exact hpos
      obtain ⟨_, h1, h2⟩ := World.cells?_some (hxs 0 _ hx0).2
      have h3 := h2 0 hpos
      rw [List.getElem?_eq_getElem hp0] at h3
      simpa [Addr.add] using World.cell?_spot h3
    have cellat : ∀ i x, xs[i]? = some x → ∀ j u, (enc' x)[j]? = some u → W.cell? ⟨a.block, a.off + i * size + j, none⟩ = some u := fun i x hx j u hu => by
      obtain ⟨_, h1, h2⟩ := World.cells?_some (hxs i x hx).2
      have hj : j < size := by rw [← hlen x]; exact (List.getElem?_eq_some_iff.1 hu).1
      have h3 := h2 j hj
      rw [hu] at h3
      have hsp := hspot (by have := (List.getElem?_eq_some_iff.1 hx).1; omega)
      obtain ⟨b, o, sp⟩ := a
      simp only at hsp
      subst hsp
      rw [add0, add0] at h3
      exact h3
    refine ⟨some a, len0, cap0, xs, rfl, ⟨hl', hl, fun hn => ?_, fun k x hx j u hu => ?_⟩, fun x hx => ?_, hm⟩
    · have := hspot (by omega)
      obtain ⟨b, o, sp⟩ := a
      simp only at this
      subst this; rfl
    · exact cell_heap (cellat k x hx j u hu)
    · obtain ⟨i, hi⟩ := List.getElem?_of_mem hx
      exact (hxs i x hi).1
theorem open_Sl {H : Type} {enc : TypeId × Value → H} {P : Program} {W : World} {base : Nat} {t e : TypeId} {size : Nat} {v : Value} {d : DataW H} {p : List MemPlace} {α : Type} (enc' : α → List Value) (ok : α → Prop)
    (ht : P.underlying t = some (.slice e)) (hc : P.cellsOf e = size) (hpos : 0 < size) (hlen : ∀ y, (enc' y).length = size)
    (hel : ∀ fuel cs x, DataW.trod enc P W 0 (fun _ => true) true fuel e cs = some x → ∃ y, ok y ∧ enc' y = cs)
    (hv : Value.okWide P W .any base t v) (h : DataW.Trod enc P W 0 (fun _ => true) true t v d p) : ∃ av n c xs, v = .slice av n c ∧ Sl (heapI W) size enc' av n c xs ∧ (∀ x ∈ xs, ok x) ∧ c ≤ maxLen := by
  obtain ⟨a0, len0, cap0, rfl⟩ := okWide_slice ht hv
  obtain ⟨fuel, hf⟩ := h
  obtain ⟨av, n, c, xs, e, h1, h2, h3⟩ := open_SlT enc' ok ht hc hpos hlen hel (cs := [.slice a0 len0 cap0]) (by simpa [Value.cells] using hf)
  cases e
  exact ⟨_, _, _, xs, rfl, h1, h2, h3⟩
/-- A slice of one-cell ints. -/
theorem el_int {H : Type} {enc : TypeId × Value → H} {P : Program} {W : World} {e : TypeId} {k : IntKind} (he : P.underlying e = some (.int k)) (hk : k = .i64) (fuel : Nat) (cs : List Value) (x : DataW H × List MemPlace) (h : DataW.trod enc P W 0 (fun _ => true) true fuel e cs = some x) :
    ∃ y : Int, (-9223372036854775808 ≤ y ∧ y ≤ 9223372036854775807) ∧ [Value.int .i64 y] = cs := by
  subst hk
  obtain ⟨v, hv⟩ : ∃ v, cs = [v] := by
    have := h
    cases fuel with
    | zero => simp [DataW.trod] at this
    | succ m => unfold DataW.trod at this; rw [he] at this; split at this <;> simp_all
  subst hv
  obtain ⟨n, e, _, w⟩ := DataW.trod_int he h
  cases e
  simp only [Lit.wf, Bool.and_eq_true, decide_eq_true_eq] at w
  exact ⟨n, w, rfl⟩
end Go.Kn
end
section
namespace Go.Proofs.YtkpmnnflikkhmaaDoor
open Go Go.Kn Go.Proofs
open Go.ChangeShapes Go.WideShapes Go.ChangeAt Go.RowKit
set_option maxRecDepth 100000
theorem ound_3 : Tryd.prog.underlying 3 = some (.int .i64) := by kernel_rfl
theorem ound_4 : Tryd.prog.underlying 4 = some .bool := by kernel_rfl
theorem ound_5 : Tryd.prog.underlying 5 = some (.int .u8) := by kernel_rfl
theorem open_ints {H : Type} {enc : TypeId × Value → H} {W : World} {base : Nat} {v : Value} {d : DataW H} {p : List MemPlace} (hv : Value.okWide Tryd.prog W .any base 22 v) (h : DataW.Trod enc Tryd.prog W 0 (fun _ => true) true 22 v d p) :
    ∃ av n c xs, v = .slice av n c ∧ Sl (heapI W) 1 encI av n c xs ∧ n ≤ 9223372036854775807 := by
  obtain ⟨av, n, c, xs, e, hS, _, hm⟩ := open_Sl (e := 3) encI (fun _ => True) (by kernel_rfl) (by kernel_rfl) (by decide) encI_len (fun fuel cs x h => by
    obtain ⟨y, _, e⟩ := el_int ound_3 rfl fuel cs x h
    exact ⟨y, trivial, e⟩) hv h
  exact ⟨av, n, c, xs, e, hS, by have := hS.cap; simp only [maxLen] at hm; omega⟩
theorem heads {I : HMap} : ∀ (hs : List Hd), (∀ h ∈ hs, ∃ v, Sl I 1 encI h.a h.n h.c v) → ∃ vss, RelH I hs vss
  | [], _ => ⟨[], RelH.nil⟩
  | x :: hs, H => by
    obtain ⟨vss, hl, hv⟩ := heads hs fun h hh => H h (List.mem_cons_of_mem _ hh)
    obtain ⟨v0, h0⟩ := H x (List.mem_cons_self ..)
    refine ⟨v0 :: vss, by simp [hl], fun k h v a b => ?_⟩
    cases k with
    | zero => cases a; cases b; exact h0
    | succ k => exact hv k h v a b
theorem open_nest {H : Type} {enc : TypeId × Value → H} {W : World} {base : Nat} {v : Value} {d : DataW H} {p : List MemPlace} (hv : Value.okWide Tryd.prog W .any base 28 v) (h : DataW.Trod enc Tryd.prog W 0 (fun _ => true) true 28 v d p) :
    ∃ av n c vss, v = .slice av n c ∧ SlN (heapI W) av n c vss ∧ n ≤ 9223372036854775807 := by
  obtain ⟨av, n, c, hs, e, hS, hok, hm⟩ := open_Sl (e := 22) encH (fun h => ∃ v, Sl (heapI W) 1 encI h.a h.n h.c v) (by kernel_rfl) (by kernel_rfl) (by decide) encH_len (fun fuel cs x h => by
    obtain ⟨a, m, q, ys, e, hT, _⟩ := open_SlT (t := 22) (e := 3) encI (fun _ => True) (by kernel_rfl) (by kernel_rfl) (by decide) encI_len (fun fuel cs x h => by
      obtain ⟨y, _, e⟩ := el_int ound_3 rfl fuel cs x h
      exact ⟨y, trivial, e⟩) h
    exact ⟨⟨a, m, q⟩, ⟨ys, hT⟩, e.symm⟩) hv h
  obtain ⟨vss, hr⟩ := heads hs hok
  exact ⟨av, n, c, vss, e, ⟨hs, hS, hr⟩, by have := hS.cap; simp only [maxLen] at hm; omega⟩
/-- What the tie lists. -/
def laid2 : List (String × DataW Unit) := [("math/bits.deBruijn32tab", Rows.laid_math_bits_deBruijn32tab), ("math/bits.deBruijn64tab", Rows.laid_math_bits_deBruijn64tab)]
theorem gDeb : Tryd.prog.globalNamed "math/bits.deBruijn64tab" = some 1 := by kernel_rfl
theorem tDeb : (Tryd.prog.globals[1]?).map (·.type) = some 116 := by kernel_rfl
theorem deb_is : (Rows.laid_math_bits_deBruijn64tab : DataW Unit) = Lib.tabData .u8 debT := by rfl
theorem deb_of {W : World} (h : laidMetH Tryd.prog laid2 W) : DebOK (heapI W) := by
  rw [MakeChecks.laidMetH_plain _ _ _ (by kernel_rfl)] at h
  obtain ⟨ps, ⟨g0, t0, cs0, f0, p0, q0, hg0, ht0, hv0, hd0, ⟨g1, t1, cs1, f1, p1, q1, hg1, ht1, hv1, hd1, _, _⟩, _⟩, _, _⟩ := h
  obtain rfl := Option.some.inj (gDeb.symm.trans hg1)
  obtain rfl := Option.some.inj (tDeb.symm.trans ht1)
  rw [deb_is] at hd1
  have hcs := Lib.cells_of_tab (n := 64) (e := 5) (by kernel_rfl) ound_5 (by kernel_rfl) (by kernel_rfl) hd1
  intro i hi
  refine cell_heap ?_
  have := World.var?_cell hg1 hv1 i
  rw [this]
  have hl : i < debT.length := hi
  have e : cs1 = (debT.map fun z => Value.int .u8 z).toArray := Array.ext' hcs
  rw [e]
  simp [List.getD, hl]
/-- The door's own heap meets the condition. -/
theorem door_met (os : Os) (args : Array Value) : laidMetH Tryd.prog laid2 ((World.doorLaid Tryd.prog 400 os).forCall (fun _ _ => 0) ⟨#[], args, []⟩).memory :=
  laidMetH_of_parts3 (fuel := 8) (laidMet_of_run' 8 (by kernel_rfl) (by kernel_rfl)) (by kernel_rfl) (by kernel_rfl)
end Go.Proofs.YtkpmnnflikkhmaaDoor
end
section
namespace Go.Proofs.YtkpmnnflikkhmaaDoor
open Go Go.Kn Go.Proofs
open Go.ChangeShapes Go.WideShapes Go.ChangeAt Go.RowKit
theorem own : ownKnob Tryd.prog.godebug = none := by kernel_rfl
theorem laidOut : laidOutB Tryd.prog = true := by kernel_rfl
set_option maxRecDepth 100000 in
theorem stemmaFurther_lifted (os : Os) (started : os.Started) (H : Type) (enc : TypeId × Value → H) :
    ReturnsInHanded {} Tryd.checked os 9 .any (fun w args => (Rows.stemmaFurtherSpec.pre enc Tryd.prog Tryd.f9 [] false w args ∧ laidMetH Tryd.prog laid2 w) ∧ sizedMet enc Tryd.prog Tryd.f9 (OpenSpec.ofChange Rows.stemmaFurtherSpec) false w args)
      (Rows.stemmaFurtherSpec.post enc Tryd.prog Tryd.f9 false true false false) := by
  refine returnsInHanded_of_change_and (C := Tryd.checked) (X := fun w _ => laidMetH Tryd.prog laid2 w) (fun _ _ _ hh h => h.of_heap hh) own started (by kernel_rfl) Tryd.func9
    (ChangeSpec.witness_shaped (enc := enc) (C := Tryd.checked) (os := os) (X := fun w _ => laidMetH Tryd.prog laid2 w) false (World.doorLaid Tryd.prog 400 os) #[.slice none 0 0, .slice none 0 0, .int .u8 0] 8 rfl (World.shaped_of_RefB (by kernel_rfl) (by kernel_rfl)) (by kernel_rfl) (by kernel_rfl) (by kernel_rfl) (door_met os _)) ?_
  intro W base args ds gs before hval0 hW _ _ hL _
  have hval : ∀ (j : Nat) t v, Tryd.f9.params[j]? = some t → args[j]? = some v → Value.okWide Tryd.prog W .any base t v := hval0
  have hW' := hW
  obtain ⟨p, q, hA0, hV, rfl, hfz, hnd⟩ := hW
  have hA : DataW.TrodAll enc Tryd.prog W 0 (fun _ => true) true Tryd.f9.params.toList args.toList ds p := hA0
  rw [Tryd.params9] at hA hval
  obtain ⟨v0, vs1, d0, ds1, p0, q1, ea, rfl, rfl, h0, hA⟩ := trodAll_cons hA
  obtain ⟨v1, vs2, d1, ds2, p1, q2, rfl, rfl, rfl, h1, hA⟩ := trodAll_cons hA
  obtain ⟨v2, vs3, d2, ds3, p2, q3, rfl, rfl, rfl, h2, hA⟩ := trodAll_cons hA
  obtain ⟨rfl, rfl, rfl⟩ := trodAll_nil hA
  have ea' : args = #[v0, v1, v2] := by rw [← Array.toArray_toList (xs := args), ea]
  subst ea'
  obtain ⟨rfl, rfl⟩ := trodVars_none hV
  have hDb := deb_of hL
  obtain ⟨bv, n2, c2, rows, rfl, hV, hbg⟩ := open_nest (hval 0 28 v0 rfl rfl) h0
  obtain ⟨av, n, c, xs, rfl, hS, hbn⟩ := open_ints (hval 1 22 v1 rfl rfl) h1
  obtain ⟨z, rfl, _, _, wfz⟩ := open_int ound_5 (hval 2 5 v2 rfl rfl) h2
  have hz : 0 ≤ z ∧ z ≤ 255 := by have h := wfz; simp only [Lit.wf, Bool.and_eq_true, decide_eq_true_eq] at h; exact h
  refine (RetV.law (w_furtherLaw hS hV hbg hDb hz)).mono fun e W' ⟨he, hB⟩ => ?_
  subst he
  exact ⟨_, rfl, post_law laidOut (by kernel_rfl) ound_4 rfl rfl (by rw [Tryd.params9]; simp only [List.mem_cons, List.not_mem_nil, or_false, forall_eq_or_imp, forall_eq]; exact ⟨⟨by kernel_rfl, of_decide_eq_true (by kernel_rfl)⟩, ⟨by kernel_rfl, of_decide_eq_true (by kernel_rfl)⟩, ⟨by kernel_rfl, of_decide_eq_true (by kernel_rfl)⟩⟩) hW' hB⟩
theorem stemmaFurther_row : Rows.StemmaFurtherSaid :=
  OpenClaim.holds_of_wide 9 Tryd.f9 rfl rfl rfl rfl rfl rfl rfl ⟨rfl, rfl, rfl, rfl, rfl⟩ rfl rfl rfl rfl rfl (by kernel_rfl) Tryd.func9 (by kernel_rfl)
    (of_decide_eq_true (by kernel_rfl)) (by unfold Func.isWrapper; first | (rw [if_pos (by decide +kernel)]; kernel_rfl) | (rw [if_neg (by decide +kernel)]; exact ⟨rfl, rfl⟩))
    (fun os started H enc _ => stemmaFurther_lifted os started H enc)
theorem stemmaFurther_holds : Rows.StemmaFurtherCardSaid :=
  Claim7.holds_tied_plain_at .later [] [.data, .data] true (true, "ee01672d72051c55a553832d8f1b557e85fe7de91745a851b14c5bb6cd11ba6c") false
    stemmaFurther_row (fun _ h => by cases h) (by kernel_rfl) (fun _ h => by cases h) stemmaFurther_row_tie rfl ⟨rfl, rfl⟩ (by kernel_rfl) rfl
    (fun f fn hf hfn => by
      obtain rfl : f = 9 := Option.some.inj ((show Tryd.prog.funcNamed "kinesphere/kinespherelaw42.StemmaFurther" = some 9 by kernel_rfl).symm.trans hf) |>.symm
      obtain rfl : fn = Tryd.f9 := (Option.some.inj (Tryd.func9.symm.trans hfn)).symm
      exact ⟨by kernel_rfl, fun j t ht => by
        rw [Tryd.params9] at ht
        have hm : t ∈ [28, 22, 5] := by simpa using Array.mem_of_getElem? ht
        have hall : ([28, 22, 5].all fun u => !Tryd.prog.wantsStandIn u) = true := by kernel_rfl
        exact (show Tryd.prog.wantsStandIn t = false by simpa using List.all_eq_true.1 hall t hm)⟩)
    (by kernel_rfl)
#print axioms stemmaFurther_holds
end Go.Proofs.YtkpmnnflikkhmaaDoor
end
