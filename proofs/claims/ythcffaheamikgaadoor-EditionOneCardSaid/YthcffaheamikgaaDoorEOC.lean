/- editionOne_holds, part C of the proof: what its theorems say holds without further conditions. -/
import Derived.Lib.SlicesCompact
import Derived.Lib.RowBridge
import Derived.Shelf.Small.Bits
import Derived.Shelf.Small.Wraps
import Derived.Shelf.Strconv.Itoa0
import Derived.Shelf.Sort.Plain
import Derived.Shelf.Slices.Turned
import Derived.Shelf.Slices.Equal
import Derived.Ground.Names2Prog
import Derived.Shelf.Slices.Clone
import Derived.Shelf.Slices.CompactI
import Derived.Shelf.Slices.SearchI
import Derived.Shelf.Slices.Cells
import Derived.Shelf.Slices.In.SortNone
import Derived.Shelf.Slices.Empties2
import Derived.Ground.SlgnProg
import Derived.Shelf.SlicesE.Clone
import Derived.Test.YthcffaheamikgaaDoorProg
import Derived.Test.YthcffaheamikgaaDoorEOB
section
namespace Go.Proofs.YthcffaheamikgaaDoor
open Go Go.Kn Go.Proofs
theorem single_no {n : Nat} {cl : List Int} (hc : chkN n cl = 0) {s : Int} (hs : s ∈ cl) : singF s = false := by
  have hle := (chkN_ok hc).2.2.2 s hs
  obtain ⟨a1, a2, a3⟩ := split_spec (chkN_split hc s hs) (Nat.le_refl 1)
  have a3 : splitP cl s (splitR cl s 1) = true := a3
  unfold splitP at a3
  simp only [Bool.and_eq_true] at a3
  generalize splitR cl s 1 = a at a1 a2 a3
  cases h : singF s with
  | false => rfl
  | true =>
    exfalso
    have k1 := a3.1.1.1
    rw [sub_I (by omega) (by omega)] at k1
    have ht : ((List.range 64).all fun s => (List.range 64).all fun a => a == 0 || !(singF (s : Int)) || !(subN a s) || (a == s)) = true := by kernel_rfl
    have h0 := List.all_eq_true.1 ht s.toNat (List.mem_range.2 (by omega))
    have h0 := List.all_eq_true.1 h0 a.toNat (List.mem_range.2 (by omega))
    rw [show ((s.toNat : Nat) : Int) = s by omega, h, k1, show (a.toNat == 0) = false by simp; omega] at h0
    have : a.toNat = s.toNat := by simpa using h0
    omega
theorem parts_both {m : Int} {cl : List Int} {s : Int} : iA m cl s = partsA m cl s ∧ iB m cl s = partsB m cl s := by
  by_cases h : partsE m cl s = 0
  · obtain ⟨e1, e2⟩ := iA_ok h
    obtain ⟨e3, e4⟩ := partsA_ok h
    have hc : chkN m cl = 0 := by
      unfold partsE at h
      by_cases e : chkN m cl = 0
      · exact e
      · rw [if_pos e] at h; exact absurd h e
    have hin : s ∈ cl := by
      unfold partsE at h
      rw [if_neg (fun e => e hc)] at h
      cases e : cl.any (fun c => c == s) with
      | true => simpa using e
      | false => rw [e] at h; simp at h
    obtain ⟨n, rfl⟩ : ∃ n : Nat, m = n := ⟨m.toNat, by have := chkN_ok hc; omega⟩
    obtain ⟨g1, g2, _⟩ := parts_eq hc hin (single_no hc hin)
    rw [e1, e2, e3, e4, g1, g2]
    exact ⟨rfl, rfl⟩
  · obtain ⟨e1, e2⟩ := iA_bad h
    obtain ⟨e3, e4⟩ := partsA_bad h
    rw [e1, e2, e3, e4]
    exact ⟨rfl, rfl⟩
end Go.Proofs.YthcffaheamikgaaDoor
end
section
namespace Go.Proofs.YthcffaheamikgaaDoor
open Go Go.Kn Go.Proofs
inductive Tr where
  | leaf (w : Nat)
  | node (a b : Tr)
def Tr.mask : Tr → Nat
  | .leaf w => 2 ^ w
  | .node a b => a.mask + b.mask
def Tr.ok (n : Nat) : Tr → Prop
  | .leaf w => w < n
  | .node a b => a.ok n ∧ b.ok n ∧ a.mask &&& b.mask = 0
def Tr.has (w : Nat) : Tr → Prop
  | .leaf v => v = w
  | .node a b => a.has w ∨ b.has w
def Tr.sets : Tr → List Nat
  | .leaf _ => []
  | .node a b => (a.mask + b.mask) :: (a.sets ++ b.sets)
/-! ### The least below -/
def bl (S : List Int) (f : Int → Int) (x : Int) : Int := (S.map fun y => stepF x y + f y).foldl minI 1048576
def mn (S : List Int) (f : Int → Int) : Int := leastF (S.map f)
theorem bl_le {S : List Int} {f : Int → Int} {x y : Int} (h : y ∈ S) : bl S f x ≤ stepF x y + f y := (min_fold _ _).1 _ (List.mem_map.2 ⟨y, h, rfl⟩)
theorem bl_cap {S : List Int} {f : Int → Int} {x : Int} : bl S f x ≤ 1048576 := (min_fold _ _).2.1
theorem bl_ge {S : List Int} {f : Int → Int} {x c : Int} (h : ∀ y ∈ S, c ≤ stepF x y + f y) (h1 : c ≤ 1048576) : c ≤ bl S f x := by
  rcases (min_fold (S.map fun y => stepF x y + f y) 1048576).2.2 with e | e
  · unfold bl; rw [e]; exact h1
  · obtain ⟨y, hy, e2⟩ := List.mem_map.1 e
    have := h y hy
    unfold bl; rw [← e2]; exact this
theorem bl_congr {S S' : List Int} {f f' : Int → Int} {x : Int} (hS : ∀ y, y ∈ S ↔ y ∈ S') (hf : ∀ y ∈ S, f y = f' y) : bl S f x = bl S' f' x := by
  apply Int.le_antisymm
  · refine bl_ge (fun y hy => ?_) bl_cap
    have := (hS y).2 hy
    rw [← hf y this]; exact bl_le this
  · refine bl_ge (fun y hy => ?_) bl_cap
    rw [hf y hy]; exact bl_le ((hS y).1 hy)
theorem mn_le {S : List Int} {f : Int → Int} {y : Int} (h : y ∈ S) : mn S f ≤ f y :=
  (least_in (List.ne_nil_of_mem (List.mem_map.2 ⟨y, h, rfl⟩))).2 _ (List.mem_map.2 ⟨y, h, rfl⟩)
theorem mn_at {S : List Int} {f : Int → Int} (h : S ≠ []) : ∃ y ∈ S, mn S f = f y := by
  obtain ⟨y, hy, e⟩ := List.mem_map.1 (least_in (xs := S.map f) (by simpa using h)).1
  exact ⟨y, hy, e.symm⟩
def cT (S : List Int) (u : Nat → Int) : Tr → Int → Int
  | .leaf w, x => leafG (u w) x
  | .node a b, x => bl S (cT S u a) x + bl S (cT S u b) x
theorem leafG_in (u x : Int) : leafG u x = 0 ∨ leafG u x = 1048576 := by unfold leafG; split <;> simp
theorem bl_nn {S : List Int} {f : Int → Int} {x : Int} (h : ∀ y ∈ S, 0 ≤ f y) : 0 ≤ bl S f x := bl_ge (fun y hy => by have := h y hy; have := (step_in x y).1; omega) (by decide)
theorem cT_nn {S : List Int} {u : Nat → Int} : ∀ (T : Tr) (x : Int), 0 ≤ cT S u T x
  | .leaf w, x => by unfold cT; rcases leafG_in (u w) x with h | h <;> omega
  | .node a b, x => by
    unfold cT
    have h1 := bl_nn (x := x) fun y (_ : y ∈ S) => cT_nn (S := S) (u := u) a y
    have h2 := bl_nn (x := x) fun y (_ : y ∈ S) => cT_nn (S := S) (u := u) b y
    omega
theorem cT_congr {S S' : List Int} {u u' : Nat → Int} (hS : ∀ y, y ∈ S ↔ y ∈ S') : ∀ (T : Tr) (x : Int), (∀ w, T.has w → u w = u' w) → cT S u T x = cT S' u' T x
  | .leaf w, x, h => by unfold cT; rw [h w rfl]
  | .node a b, x, h => by
    unfold cT
    rw [bl_congr hS fun y _ => cT_congr hS a y fun w hw => h w (.inl hw), bl_congr hS fun y _ => cT_congr hS b y fun w hw => h w (.inr hw)]
theorem mask_pos : ∀ T : Tr, 1 ≤ T.mask
  | .leaf w => Nat.one_le_two_pow
  | .node a b => by have := mask_pos a; have := mask_pos b; show 1 ≤ a.mask + b.mask; omega
/-- Each tree costs little at some state. -/
theorem step_self (x : Int) : stepF x x = 0 := by unfold stepF; rw [if_pos rfl]
theorem cT_small {S : List Int} {u : Nat → Int} (h0 : 0 ∈ S) : ∀ (n : Nat) (T : Tr), T.ok n → (∀ w, w < n → u w = 8589934592 ∨ u w ∈ S) → ∃ x ∈ S, cT S u T x ≤ 8 * ((T.mask : Int) - 1)
  | n, .leaf w, hT, hu => by
    rcases hu w hT with h | h
    · exact ⟨0, h0, by unfold cT leafG; rw [if_neg (by simp [h])]; have := mask_pos (.leaf w); omega⟩
    · exact ⟨u w, h, by unfold cT leafG; rw [if_neg (by simp)]; have := mask_pos (.leaf w); omega⟩
  | n, .node a b, ⟨ha, hb, hd⟩, hu => by
    obtain ⟨x, hx, h1⟩ := cT_small h0 n a ha hu
    obtain ⟨y, hy, h2⟩ := cT_small h0 n b hb hu
    refine ⟨x, hx, ?_⟩
    unfold cT
    have e1 := bl_le (f := cT S u a) (x := x) hx
    rw [step_self] at e1
    have e2 := bl_le (f := cT S u b) (x := x) hy
    have e3 := (step_in x y).2
    have hm : ((Tr.node a b).mask : Int) = a.mask + b.mask := by show ((a.mask + b.mask : Nat) : Int) = _; omega
    have := mask_pos b
    have := mask_pos a
    omega
end Go.Proofs.YthcffaheamikgaaDoor
end
section
namespace Go.Proofs.YthcffaheamikgaaDoor
open Go Go.Kn Go.Proofs
def treeT (cl : List Int) : Nat → Int → Tr
  | 0, _ => .leaf 0
  | f + 1, s => if singF s = true then .leaf (witF s) else .node (treeT cl f (splitF cl s)) (treeT cl f (s - splitF cl s))
theorem treeT_1 {cl : List Int} {f : Nat} {s : Int} (h : singF s = true) : treeT cl (f + 1) s = .leaf (witF s) := by simp only [treeT]; rw [if_pos h]
theorem treeT_2 {cl : List Int} {f : Nat} {s : Int} (h : singF s = false) : treeT cl (f + 1) s = .node (treeT cl f (splitF cl s)) (treeT cl f (s - splitF cl s)) := by simp only [treeT]; rw [if_neg (by rw [h]; decide)]
theorem wit_pow_tab : ((List.range 64).all fun s => !singF (s : Int) || (2 ^ witF (s : Int) == s)) = true := by kernel_rfl
theorem wit_pow {s : Int} (hs : 1 ≤ s ∧ s ≤ 63) (h : singF s = true) : 2 ^ witF s = s.toNat := by
  have h0 := List.all_eq_true.1 wit_pow_tab s.toNat (List.mem_range.2 (by omega))
  rw [show ((s.toNat : Nat) : Int) = s by omega, h] at h0
  simpa using h0
theorem pow_sing_tab : ((List.range 6).all fun w => singF ((2 ^ w : Nat) : Int) && (witF ((2 ^ w : Nat) : Int) == w) && decide (2 ^ w < 64)) = true := by kernel_rfl
theorem pow_sing {w : Nat} (h : w < 6) : singF ((2 ^ w : Nat) : Int) = true ∧ witF ((2 ^ w : Nat) : Int) = w ∧ 2 ^ w < 64 := by
  have h0 := List.all_eq_true.1 pow_sing_tab w (List.mem_range.2 h)
  simp only [Bool.and_eq_true, beq_iff_eq, decide_eq_true_eq] at h0
  exact ⟨h0.1.1, h0.1.2, h0.2⟩
section
variable {n : Nat} {cl : List Int} (hc : chkN n cl = 0)
include hc
theorem treeT_ok : ∀ (f : Nat) (s : Int), s.toNat ≤ f → OkS n cl s → (treeT cl f s).ok n ∧ (treeT cl f s).mask = s.toNat ∧ ∀ c ∈ (treeT cl f s).sets, (c : Int) ∈ cl
  | 0, s, hf, h => by have := h.1; omega
  | f + 1, s, hf, h => by
    have hle := ok_le hc h
    have h6 := (chkN_ok hc).2.1
    cases h1 : singF s with
    | true =>
      rw [treeT_1 h1]
      exact ⟨wit_n (n := n) (by omega) hle h1 h.2.1, wit_pow hle h1, fun c hcm => by cases hcm⟩
    | false =>
      obtain ⟨hin, o1, o2, o3, o4, o5, _⟩ := first_part hc h h1
      obtain ⟨q1, _, _⟩ := pair_ok (by omega) (by omega) o5
      obtain ⟨i1, i2, i3⟩ := treeT_ok f _ (by omega) o1
      obtain ⟨j1, j2, j3⟩ := treeT_ok f _ (by omega) o2
      rw [treeT_2 h1]
      refine ⟨⟨i1, j1, ?_⟩, ?_, fun c hcm => ?_⟩
      · rw [i2, j2, show (s - splitF cl s).toNat = s.toNat - (splitF cl s).toNat by omega, Nat.and_comm]; exact q1
      · show _ + _ = _
        rw [i2, j2]; omega
      · rcases List.mem_cons.1 hcm with rfl | hcm
        · rw [i2, j2, show (((splitF cl s).toNat + (s - splitF cl s).toNat : Nat) : Int) = s by omega]; exact hin
        · rcases List.mem_append.1 hcm with hcm | hcm
          · exact i3 c hcm
          · exact j3 c hcm
end
def uF (rows : List (List Int)) (l : Nat) (w : Nat) : Int := (rows.getD w []).getD l 0
theorem mask_in {n : Nat} (h6 : n ≤ 6) : ∀ {T : Tr}, T.ok n → T.mask < 64 ∧ ∃ q, subN T.mask q = true ∧ q = 2 ^ n - 1
  | .leaf w, h => by
    have hw : w < n := h
    refine ⟨(pow_sing (by omega)).2.2, _, ?_, rfl⟩
    have ht : ((List.range 7).all fun n => (List.range n).all fun w => subN (2 ^ w) (2 ^ n - 1)) = true := by kernel_rfl
    have h0 := List.all_eq_true.1 ht n (List.mem_range.2 (by omega))
    exact List.all_eq_true.1 h0 w (List.mem_range.2 hw)
  | .node a b, ⟨ha, hb, hd⟩ => by
    obtain ⟨a1, q, a2, rfl⟩ := mask_in h6 ha
    obtain ⟨b1, q', b2, rfl⟩ := mask_in h6 hb
    have ht : ((List.range 64).all fun a => (List.range 64).all fun b => !(a &&& b == 0) || decide (a + b < 64) && (List.range 7).all fun n => !subN a (2 ^ n - 1) || !subN b (2 ^ n - 1) || subN (a + b) (2 ^ n - 1)) = true := by kernel_rfl
    have h0 := List.all_eq_true.1 ht a.mask (List.mem_range.2 a1)
    have h0 := List.all_eq_true.1 h0 b.mask (List.mem_range.2 b1)
    rw [show (a.mask &&& b.mask == 0) = true by rw [hd]; rfl, Bool.not_true, Bool.false_or, Bool.and_eq_true, decide_eq_true_eq] at h0
    have h1 := List.all_eq_true.1 h0.2 n (List.mem_range.2 (by omega))
    rw [a2, b2] at h1
    exact ⟨h0.1, _, by show subN (a.mask + b.mask) _ = true; simpa using h1, rfl⟩
theorem two_tab : ((List.range 64).all fun a => (List.range 64).all fun b => a == 0 || b == 0 || !(a &&& b == 0) || ((lowS (a : Int) ((a + b : Nat) : Int) || lowS (b : Int) ((a + b : Nat) : Int)) && (andI (a : Int) ((a + b : Nat) : Int) == (a : Int)) && (andI (b : Int) ((a + b : Nat) : Int) == (b : Int)) && subN a (a + b) && subN b (a + b) && (popF (a : Int) + popF (b : Int) == popF ((a + b : Nat) : Int)))) = true := by kernel_rfl
theorem two_ok {a b : Nat} (ha : 1 ≤ a ∧ a < 64) (hb : 1 ≤ b ∧ b < 64) (h : a &&& b = 0) : (lowS (a : Int) ((a + b : Nat) : Int) = true ∨ lowS (b : Int) ((a + b : Nat) : Int) = true) ∧ andI (a : Int) ((a + b : Nat) : Int) = (a : Int) ∧ andI (b : Int) ((a + b : Nat) : Int) = (b : Int) ∧ subN a (a + b) = true ∧ subN b (a + b) = true ∧ popF (a : Int) + popF (b : Int) = popF ((a + b : Nat) : Int) := by
  have h0 := List.all_eq_true.1 two_tab a (List.mem_range.2 ha.2)
  have h0 := List.all_eq_true.1 h0 b (List.mem_range.2 hb.2)
  rw [h, show (a == 0) = false by simp; omega, show (b == 0) = false by simp; omega] at h0
  simpa [and_assoc] using h0
end Go.Proofs.YthcffaheamikgaaDoor
end
section
namespace Go.Proofs.YthcffaheamikgaaDoor
open Go Go.Kn Go.Proofs
theorem bl_at {S : List Int} {f : Int → Int} {x : Int} : bl S f x = 1048576 ∨ ∃ y ∈ S, bl S f x = stepF x y + f y := by
  rcases (min_fold (S.map fun y => stepF x y + f y) 1048576).2.2 with e | e
  · exact .inl e
  · obtain ⟨y, hy, e2⟩ := List.mem_map.1 e
    exact .inr ⟨y, hy, e2.symm⟩
section
variable {S S' : List Int} {u u' : Nat → Int} {p : Int} {k : Nat} (h0 : 0 ∈ S') (hp : p ∈ S') (hz : p ≠ 0 ∨ ∀ y ∈ S', y = 0)
include h0 hp hz
end
theorem uF_in {rows : List (List Int)} {l w : Nat} (h : w < rows.length) : uF rows l w = 8589934592 ∨ uF rows l w ∈ statesF rows l := by
  by_cases e : uF rows l w = 8589934592
  · exact .inl e
  · right
    rw [st_mem]
    refine .inr ⟨⟨rows.getD w [], ?_, rfl⟩, e⟩
    unfold List.getD
    rw [List.getElem?_eq_getElem h]
    exact List.getElem_mem h
end Go.Proofs.YthcffaheamikgaaDoor
end
section
namespace Go.Proofs.YthcffaheamikgaaDoor
open Go Go.Kn Go.Proofs
section
variable {rows : List (List Int)} {k : Nat} (h : rowsN rows = 0) (hk : k ≤ (rows.getD 0 []).length)
include h hk
end
/-! ### Other numbers -/
theorem has_lt {n w : Nat} : ∀ {T : Tr}, T.ok n → T.has w → w < n
  | .leaf v, h, e => by have e : v = w := e; have h : v < n := h; omega
  | .node a b, h, e => by rcases e with e | e; exact has_lt h.1 e; exact has_lt h.2.1 e
section
variable {n : Nat} {π : Nat → Nat} (h6 : n ≤ 6) (hlt : ∀ w, w < n → π w < n) (hi : ∀ v w, v < n → w < n → π v = π w → v = w)
include h6 hlt hi
end
end Go.Proofs.YthcffaheamikgaaDoor
end
section
namespace Go.Proofs.YthcffaheamikgaaDoor
open Go Go.Kn Go.Proofs
theorem map_next {α β : Type} {f : α → β} {xs : List α} {i : Nat} {x : α} (h : xs[i]? = some x) : (xs.take (i + 1)).map f = (xs.take i).map f ++ [f x] := by
  rw [List.take_add_one, h, List.map_append]; rfl
theorem cellI_at {I : HMap} {b t k : Nat} {nm : List Int} {x : Int} {l : Go.Kn.Loc} (h : nm[k]? = some x) : Cell I ((b, .cells (cellsI nm) t (0, 0)) :: l) b (k * 1) (.int .i64 x) := by
  refine .here ?_
  rw [lget_eq]
  unfold cellsI
  rw [cellsI_eq, Nat.mul_one]
  simp [h]
def cellsH (hs : List Hd) : Array Value := (hs.flatMap encH).toArray
theorem flat_H1 (hs : List Hd) : hs.flatMap encH = hs.map fun h => Value.slice h.a h.n h.c := by
  induction hs with
  | nil => rfl
  | cons b hs ih => rw [List.flatMap_cons, ih]; rfl
theorem cellsH_set {hs : List Hd} {m : Nat} {a : Option Addr} {n c : Nat} : (cellsH hs).setIfInBounds (m * 1) (.slice a n c) = cellsH (hs.set m ⟨a, n, c⟩) := by
  unfold cellsH
  rw [flat_H1, flat_H1, Nat.mul_one]; simp
theorem bltH {hs : List Hd} {m : Nat} (h : m < hs.length) : Nat.blt (m * 1) (cellsH hs).size = true := by
  unfold cellsH
  rw [flat_H1, Nat.mul_one]
  simpa [Nat.blt_eq] using h
theorem cellsH_new (n : Nat) : (List.replicate n (Value.slice none 0 0)).toArray = cellsH (List.replicate n ⟨none, 0, 0⟩) := by
  unfold cellsH; rw [flat_H1]; simp
end Go.Proofs.YthcffaheamikgaaDoor
end
section
namespace Go.Proofs.YthcffaheamikgaaDoor
open Go Go.Kn Go.Proofs
def Tr.keys : Tr → List Int
  | .leaf w => [((2 ^ w : Nat) : Int)]
  | .node a b => ((a.mask + b.mask : Nat) : Int) :: (a.keys ++ b.keys)
def costT (g : Int → Int) : Tr → Int
  | .leaf _ => 0
  | .node a b => stepF (g ((a.mask + b.mask : Nat) : Int)) (g (a.mask : Int)) + stepF (g ((a.mask + b.mask : Nat) : Int)) (g (b.mask : Int)) + costT g a + costT g b
def GivT (S : List Int) (u : Nat → Int) (g : Int → Int) : Tr → Prop
  | .leaf w => (u w ≠ 8589934592 → g ((2 ^ w : Nat) : Int) = u w) ∧ g ((2 ^ w : Nat) : Int) ∈ S
  | .node a b => g ((a.mask + b.mask : Nat) : Int) ∈ S ∧ GivT S u g a ∧ GivT S u g b
theorem mask_key : ∀ T : Tr, (T.mask : Int) ∈ T.keys
  | .leaf _ => List.mem_cons_self ..
  | .node _ _ => List.mem_cons_self ..
theorem giv_in {S : List Int} {u : Nat → Int} {g : Int → Int} : ∀ {T : Tr}, GivT S u g T → g (T.mask : Int) ∈ S
  | .leaf _, h => h.2
  | .node _ _, h => h.1
theorem costT_congr {g g' : Int → Int} : ∀ {T : Tr}, (∀ k ∈ T.keys, g k = g' k) → costT g T = costT g' T
  | .leaf _, _ => rfl
  | .node a b, h => by
    have ha : ∀ k ∈ a.keys, g k = g' k := fun k hk => h k (List.mem_cons_of_mem _ (List.mem_append_left _ hk))
    have hb : ∀ k ∈ b.keys, g k = g' k := fun k hk => h k (List.mem_cons_of_mem _ (List.mem_append_right _ hk))
    unfold costT
    rw [h _ (List.mem_cons_self ..), ha _ (mask_key a), hb _ (mask_key b), costT_congr ha, costT_congr hb]
theorem givT_congr {S : List Int} {u : Nat → Int} {g g' : Int → Int} : ∀ {T : Tr}, (∀ k ∈ T.keys, g k = g' k) → GivT S u g T → GivT S u g' T
  | .leaf w, h, hg => by
    have e := h _ (List.mem_cons_self ..)
    exact ⟨fun hu => by rw [← e]; exact hg.1 hu, by rw [← e]; exact hg.2⟩
  | .node a b, h, hg => by
    have ha : ∀ k ∈ a.keys, g k = g' k := fun k hk => h k (List.mem_cons_of_mem _ (List.mem_append_left _ hk))
    have hb : ∀ k ∈ b.keys, g k = g' k := fun k hk => h k (List.mem_cons_of_mem _ (List.mem_append_right _ hk))
    exact ⟨by rw [← h _ (List.mem_cons_self ..)]; exact hg.1, givT_congr ha hg.2.1, givT_congr hb hg.2.2⟩
theorem giv_le {S : List Int} {u : Nat → Int} {g : Int → Int} : ∀ {T : Tr}, GivT S u g T → cT S u T (g (T.mask : Int)) ≤ costT g T
  | .leaf w, h => by
    show leafG (u w) (g ((2 ^ w : Nat) : Int)) ≤ 0
    unfold leafG
    by_cases e : u w = 8589934592
    · rw [e]; simp
    · rw [h.1 e]; simp
  | .node a b, h => by
    have ia := giv_le h.2.1
    have ib := giv_le h.2.2
    have la := bl_le (f := cT S u a) (x := g ((a.mask + b.mask : Nat) : Int)) (giv_in h.2.1)
    have lb := bl_le (f := cT S u b) (x := g ((a.mask + b.mask : Nat) : Int)) (giv_in h.2.2)
    show bl S (cT S u a) (g ((a.mask + b.mask : Nat) : Int)) + bl S (cT S u b) (g ((a.mask + b.mask : Nat) : Int)) ≤ _
    unfold costT
    omega
theorem keys_sub {n : Nat} (h6 : n ≤ 6) : ∀ {T : Tr}, T.ok n → ∀ k ∈ T.keys, 1 ≤ k ∧ subN k.toNat T.mask = true
  | .leaf w, _, k, hk => by
    rw [List.mem_singleton.1 hk]
    have : 1 ≤ 2 ^ w := Nat.one_le_two_pow
    exact ⟨by omega, by rw [Int.toNat_natCast]; exact sub_refl _⟩
  | .node a b, ⟨ha, hb, hd⟩, k, hk => by
    have pa := mask_pos a
    have pb := mask_pos b
    obtain ⟨_, _, _, t4, t5, _⟩ := two_ok ⟨pa, (mask_in h6 ha).1⟩ ⟨pb, (mask_in h6 hb).1⟩ hd
    rcases List.mem_cons.1 hk with rfl | hk
    · exact ⟨by omega, by rw [Int.toNat_natCast]; exact sub_refl _⟩
    · rcases List.mem_append.1 hk with hk | hk
      · obtain ⟨h1, h2⟩ := keys_sub h6 ha k hk
        exact ⟨h1, sub_trans h2 t4⟩
      · obtain ⟨h1, h2⟩ := keys_sub h6 hb k hk
        exact ⟨h1, sub_trans h2 t5⟩
theorem giv_ex {S : List Int} {u : Nat → Int} {n : Nat} (h6 : n ≤ 6) : ∀ (T : Tr), T.ok n → ∀ x ∈ S, cT S u T x < 1048576 → ∃ g, GivT S u g T ∧ g (T.mask : Int) = x ∧ costT g T ≤ cT S u T x
  | .leaf w, _, x, hx, h => by
    refine ⟨fun _ => x, ⟨fun hu => ?_, hx⟩, rfl, ?_⟩
    · have h : leafG (u w) x < 1048576 := h
      unfold leafG at h
      by_cases e : u w = x
      · exact e.symm
      · rw [if_pos (by simp [hu, e])] at h; omega
    · show (0 : Int) ≤ leafG (u w) x
      rcases leafG_in (u w) x with e | e <;> omega
  | .node a b, ⟨ha, hb, hd⟩, x, hx, h => by
    have h : bl S (cT S u a) x + bl S (cT S u b) x < 1048576 := h
    have na := bl_nn (S := S) (x := x) fun y _ => cT_nn (S := S) (u := u) a y
    have nb := bl_nn (S := S) (x := x) fun y _ => cT_nn (S := S) (u := u) b y
    rcases bl_at (S := S) (f := cT S u a) (x := x) with ea | ⟨y, hy, ea⟩
    · omega
    rcases bl_at (S := S) (f := cT S u b) (x := x) with eb | ⟨z, hz, eb⟩
    · omega
    have sy := (step_in x y).1
    have sz := (step_in x z).1
    obtain ⟨ga, a1, a2, a3⟩ := giv_ex (u := u) h6 a ha y hy (by omega)
    obtain ⟨gb, b1, b2, b3⟩ := giv_ex (u := u) h6 b hb z hz (by omega)
    have pa := mask_pos a
    have pb := mask_pos b
    have ka : ∀ k ∈ a.keys, (if k = ((a.mask + b.mask : Nat) : Int) then x else if k ∈ a.keys then ga k else gb k) = ga k := fun k hk => by
      obtain ⟨k1, k2⟩ := keys_sub h6 ha k hk
      have := sub_le k2
      rw [if_neg (by omega), if_pos hk]
    have kb : ∀ k ∈ b.keys, (if k = ((a.mask + b.mask : Nat) : Int) then x else if k ∈ a.keys then ga k else gb k) = gb k := fun k hk => by
      obtain ⟨k1, k2⟩ := keys_sub h6 hb k hk
      have := sub_le k2
      rw [if_neg (by omega), if_neg]
      intro hka
      obtain ⟨_, k3⟩ := keys_sub h6 ha k hka
      have := sub_both k3 k2 (by rw [Nat.and_comm]; exact hd)
      omega
    refine ⟨fun k => if k = ((a.mask + b.mask : Nat) : Int) then x else if k ∈ a.keys then ga k else gb k, ⟨by simp only [if_true]; exact hx, givT_congr (fun k hk => (ka k hk).symm) a1, givT_congr (fun k hk => (kb k hk).symm) b1⟩, ?_, ?_⟩
    · show (if ((a.mask + b.mask : Nat) : Int) = ((a.mask + b.mask : Nat) : Int) then x else _) = x
      rw [if_pos rfl]
    · unfold costT
      rw [costT_congr ka, costT_congr kb, ka _ (mask_key a), kb _ (mask_key b), if_pos rfl, a2, b2]
      show _ ≤ bl S (cT S u a) x + bl S (cT S u b) x
      omega
theorem giv_mn {S : List Int} {u : Nat → Int} {n : Nat} (h6 : n ≤ 6) (h0 : 0 ∈ S) {T : Tr} (hT : T.ok n) (hu : ∀ w, w < n → u w = 8589934592 ∨ u w ∈ S) : (∀ g, GivT S u g T → mn S (cT S u T) ≤ costT g T) ∧ (∃ g, GivT S u g T ∧ costT g T ≤ mn S (cT S u T)) ∧ mn S (cT S u T) < 1048576 := by
  obtain ⟨z, hz1, hz2⟩ := cT_small (u := u) h0 n T hT hu
  have hm6 := (mask_in h6 hT).1
  have hle := mn_le (f := cT S u T) hz1
  refine ⟨fun g hg => Int.le_trans (mn_le (giv_in hg)) (giv_le hg), ?_, by omega⟩
  obtain ⟨x, hx, e⟩ := mn_at (f := cT S u T) (List.ne_nil_of_mem h0)
  rw [e]
  obtain ⟨g, g1, _, g3⟩ := giv_ex (u := u) h6 T hT x hx (by omega)
  exact ⟨g, g1, g3⟩
/-! ### As the search goes -/
end Go.Proofs.YthcffaheamikgaaDoor
end
section
namespace Go.Proofs.YthcffaheamikgaaDoor
open Go Go.Kn Go.Proofs
section
variable {S : List Int} {u : Nat → Int} {n : Nat} {cl : List Int}
end
theorem pow_inj_tab : ((List.range 6).all fun v => (List.range 6).all fun w => v == w || !(2 ^ v == 2 ^ w)) = true := by kernel_rfl
theorem pow_inj {v w : Nat} (hv : v < 6) (hw : w < 6) (h : 2 ^ v = 2 ^ w) : v = w := by
  have h0 := List.all_eq_true.1 pow_inj_tab v (List.mem_range.2 hv)
  have h0 := List.all_eq_true.1 h0 w (List.mem_range.2 hw)
  rw [h] at h0
  simpa using h0
end Go.Proofs.YthcffaheamikgaaDoor
end
section
namespace Go.Proofs.YthcffaheamikgaaDoor
open Go Go.Kn Go.Proofs
def stL (rows : List (List Int)) (l k : Nat) : List Int := 0 :: (((List.range k).map fun w => uF rows l w).filter fun x => x != 8589934592)
theorem sl_yes {rows : List (List Int)} {l k : Nat} (h : uF rows l k ≠ 8589934592) : stL rows l (k + 1) = stL rows l k ++ [uF rows l k] := by
  unfold stL; rw [List.range_succ, List.map_append, List.filter_append]; simp [h]
theorem sl_no {rows : List (List Int)} {l k : Nat} (h : uF rows l k = 8589934592) : stL rows l (k + 1) = stL rows l k := by
  unfold stL; rw [List.range_succ, List.map_append, List.filter_append]; simp [h]
theorem sl_mem {rows : List (List Int)} {l : Nat} {y : Int} : y ∈ stL rows l rows.length ↔ y ∈ statesF rows l := by
  unfold stL
  rw [st_mem, List.mem_cons, List.mem_filter, List.mem_map, bne_iff_ne]
  constructor
  · rintro (h | ⟨⟨w, hw, rfl⟩, h⟩)
    · exact .inl h
    · have hw := List.mem_range.1 hw
      refine .inr ⟨⟨rows.getD w [], ?_, rfl⟩, h⟩
      unfold List.getD; rw [List.getElem?_eq_getElem hw]; exact List.getElem_mem hw
  · rintro (h | ⟨⟨r, hr, rfl⟩, h⟩)
    · exact .inl h
    · obtain ⟨w, hw, rfl⟩ := List.getElem_of_mem hr
      refine .inr ⟨⟨w, List.mem_range.2 hw, ?_⟩, h⟩
      unfold uF
      rw [getD_of (List.getElem?_eq_getElem hw)]
theorem shl_tab : ((List.range 6).all fun w => IntKind.i64.wrap (1 * 2 ^ (min ((w : Nat) : Int).toNat IntKind.i64.bits)) == ((2 ^ w : Nat) : Int)) = true := by kernel_rfl
theorem shl_at {w : Nat} (h : w < 6) : IntKind.i64.wrap (1 * 2 ^ (min ((w : Nat) : Int).toNat IntKind.i64.bits)) = ((2 ^ w : Nat) : Int) := eq_of_beq (List.all_eq_true.1 shl_tab w (List.mem_range.2 h))
end Go.Proofs.YthcffaheamikgaaDoor
end
section
namespace Go.Proofs.YthcffaheamikgaaDoor
open Go Go.Kn Go.Proofs
theorem fun_28 : Fun Tryd.prog 28 := .of Tryd.func28 (by kernel_rfl) (by kernel_rfl)
theorem fun_30 : Fun Tryd.prog 30 := .of Tryd.func30 (by kernel_rfl) (by kernel_rfl)
theorem w_CostN {I : HMap} {av : Option Addr} {n c : Nat} {xs : List Int} (hS : Sl I 1 encI av n c xs) {bv : Option Addr} {n2 c2 : Nat} {rows : List (List Int)} (hV : SlN I bv n2 c2 rows) (hn2 : n2 ≤ 100000) (hDb : DebOK I) : RetV Tryd.prog 11 [.slice bv n2 c2, .slice av n c] I (.tuple #[.int .i64 (costA rows xs), .int .i64 (costE rows xs)]) := by
 intro g H w hw
 refine enter Tryd.func11 rfl Tryd.ntmps11 rfl hw ?_
 have hlV := hV.len
 subst hlV
 refine X_seq (X_region ?_)
 refine zA ?_
 refine zA ?_
 refine XO_nil (at_then ?_)
 refine X_seq ?_
 refine X_seq (X_region ?_)
 refine zM ?_
 refine XO_callV0 (cap := []) (vs := [_]) rfl rfl fun_28 (w_table hV hn2) rfl rfl ?_
 refine zA ?_
 refine XO_nil (at_then (X_seq (X_region ?_)))
 refine zM ?_
 refine zC ?_
 refine XO_nil (at_then ?_)
 refine X_cond rfl (fun hc9 => ?_) (fun hc9 => ?_)
 ·
  have hr0 : rowsN rows ≠ 0 := by simpa using hc9
  obtain ⟨e1, e2⟩ := cost_1 (cl := xs) hr0
  refine X_seq (X_region ?_)
  refine zM ?_
  refine zA ?_
  refine zA ?_
  refine XO_nil (at_then ?_)
  refine X_ret ?_
  refine at_then_r ?_
  first
  | exact at_ret2 rfl rfl rfl (fun w hw => ⟨by rw [e1, e2], hw.drop⟩)
 ·
  have hr0 : rowsN rows = 0 := by simpa using hc9
  refine X_skip ?_
  refine at_then ?_
  refine X_seq ?_
  refine X_seq (X_region ?_)
  refine zM ?_
  refine XO_v0 (ev_lenS rfl slt_22) rfl rfl rfl ?_
  refine zM ?_
  refine XO_callV0 (cap := []) (vs := [_, _]) rfl rfl fun_29 (w_check hS _) rfl rfl ?_
  refine zA ?_
  refine XO_nil (at_then (X_seq (X_region ?_)))
  refine zM ?_
  refine zC ?_
  refine XO_nil (at_then ?_)
  refine X_cond rfl (fun hc16 => ?_) (fun hc16 => ?_)
  ·
   have hc0 : chkN rows.length xs ≠ 0 := by simpa using hc16
   obtain ⟨e1, e2⟩ := cost_2 hr0 hc0
   refine X_seq (X_region ?_)
   refine zM ?_
   refine zA ?_
   refine zA ?_
   refine XO_nil (at_then ?_)
   refine X_ret ?_
   refine at_then_r ?_
   first
   | exact at_ret2 rfl rfl rfl (fun w hw => ⟨by rw [e1, e2], hw.drop⟩)
  ·
   have hc0 : chkN rows.length xs = 0 := by simpa using hc16
   obtain ⟨e1, e2⟩ := cost_3 hr0 hc0
   have hn : n ≤ 100000 := by have h1 := (chkN_ok hc0).2.2.1; have h2 := hS.len; omega
   refine X_skip ?_
   refine at_then ?_
   refine X_seq (X_region ?_)
   refine zM ?_
   refine zM ?_
   refine XO_callV0 (cap := []) (vs := [_, _]) rfl rfl fun_30 (w_cost hS hn hV hn2 hDb hr0 hc0) rfl rfl ?_
   refine zA ?_
   refine zA ?_
   refine XO_nil (at_then ?_)
   refine X_ret ?_
   first
   | exact at_ret2 rfl rfl rfl (fun w hw => ⟨by rw [e1, e2], hw.drop⟩)
end Go.Proofs.YthcffaheamikgaaDoor
end
section
namespace Go.Proofs.YthcffaheamikgaaDoor
open Go Go.Kn Go.Proofs
def leafN (u x : Int) : Int := if (u != 8589934592 && u != x) = true then 1073741824 else 0
def minN (S cs : List Int) (x : Int) (k : Nat) : Int := (List.range k).foldl (fun b j => minI b (stepF x (S.getD j 0) + cs.getD j 0)) 1073741824
def belowN (S cs : List Int) (x : Int) : Int := minN S cs x S.length
theorem minN_step {S cs : List Int} {x y c : Int} {k : Nat} (hy : S[k]? = some y) (hc : cs[k]? = some c) : minN S cs x (k + 1) = minI (minN S cs x k) (stepF x y + c) := by
  unfold minN
  rw [List.range_succ, List.foldl_append, List.foldl_cons, List.foldl_nil, getD_of hy, getD_of hc]
theorem minN_in {S cs : List Int} {x : Int} (h : ∀ c ∈ cs, 0 ≤ c) : ∀ k, 0 ≤ minN S cs x k ∧ minN S cs x k ≤ 1073741824
  | 0 => by unfold minN; simp
  | k + 1 => by
    have ih := minN_in (S := S) (x := x) h k
    have e : minN S cs x (k + 1) = minI (minN S cs x k) (stepF x (S.getD k 0) + cs.getD k 0) := by unfold minN; rw [List.range_succ, List.foldl_append]; rfl
    have h1 : 0 ≤ cs.getD k 0 := by
      unfold List.getD
      cases hc : cs[k]? with
      | none => exact Int.le_refl _
      | some c => exact h c (List.mem_of_getElem? hc)
    have h2 := (step_in x (S.getD k 0)).1
    rw [e]
    unfold minI
    split <;> omega
def totN (S A B : List Int) (j : Nat) (x : Int) : Int := (if 0 < j then belowN S A x else 0) + (if 1 < j then belowN S B x else 0)
theorem totN_step {S A B : List Int} {j : Nat} {x : Int} (hj : j < 2) : totN S A B j x + belowN S (if j = 0 then A else B) x = totN S A B (j + 1) x := by
  unfold totN
  rcases (show j = 0 ∨ j = 1 by omega) with rfl | rfl <;> simp
theorem totN_in {S A B : List Int} {x : Int} (hA : ∀ c ∈ A, 0 ≤ c) (hB : ∀ c ∈ B, 0 ≤ c) (j : Nat) : 0 ≤ totN S A B j x ∧ totN S A B j x ≤ 2147483648 := by
  have a : 0 ≤ belowN S A x ∧ belowN S A x ≤ 1073741824 := minN_in hA S.length
  have b : 0 ≤ belowN S B x ∧ belowN S B x ≤ 1073741824 := minN_in hB S.length
  unfold totN
  split <;> split <;> omega
def rcF (S : List Int) (u : Nat → Int) (cl : List Int) : Nat → Int → List Int
  | 0, _ => []
  | f + 1, s => if singF s = true then S.map (leafN (u (witF s))) else S.map (totN S (rcF S u cl f (splitF cl s)) (rcF S u cl f (s - splitF cl s)) 2)
theorem rc_1 {S : List Int} {u : Nat → Int} {cl : List Int} {f : Nat} {s : Int} (h : singF s = true) : rcF S u cl (f + 1) s = S.map (leafN (u (witF s))) := by simp only [rcF]; rw [if_pos h]
theorem rc_2 {S : List Int} {u : Nat → Int} {cl : List Int} {f : Nat} {s : Int} (h : singF s = false) : rcF S u cl (f + 1) s = S.map (totN S (rcF S u cl f (splitF cl s)) (rcF S u cl f (s - splitF cl s)) 2) := by simp only [rcF]; rw [if_neg (by rw [h]; decide)]
theorem rc_in {S : List Int} {u : Nat → Int} {cl : List Int} : ∀ (f : Nat) (s : Int), ∀ c ∈ rcF S u cl f s, 0 ≤ c ∧ c ≤ 2147483648
  | 0, _, c, h => by cases h
  | f + 1, s, c, h => by
    cases h1 : singF s with
    | true =>
      rw [rc_1 h1] at h
      obtain ⟨x, _, rfl⟩ := List.mem_map.1 h
      unfold leafN; split <;> omega
    | false =>
      rw [rc_2 h1] at h
      obtain ⟨x, _, rfl⟩ := List.mem_map.1 h
      exact totN_in (fun c hc => (rc_in f _ c hc).1) (fun c hc => (rc_in f _ c hc).1) 2
theorem rc_len {S : List Int} {u : Nat → Int} {cl : List Int} {f : Nat} {s : Int} : (rcF S u cl (f + 1) s).length = S.length := by
  cases h1 : singF s with
  | true => rw [rc_1 h1, List.length_map]
  | false => rw [rc_2 h1, List.length_map]
def mixL (S : List Int) (g h : Int → Int) (i : Nat) : List Int := (S.take i).map g ++ (S.drop i).map h
theorem mix_0 {S : List Int} {g h : Int → Int} : mixL S g h 0 = S.map h := by unfold mixL; simp
theorem mix_all {S : List Int} {g h : Int → Int} {i : Nat} (hi : S.length ≤ i) : mixL S g h i = S.map g := by unfold mixL; rw [List.take_of_length_le hi, List.drop_eq_nil_of_le hi]; simp
theorem mix_len {S : List Int} {g h : Int → Int} {i : Nat} : (mixL S g h i).length = S.length := by unfold mixL; rw [List.length_append, List.length_map, List.length_map, ← List.length_append, List.take_append_drop]
theorem mix_at {S : List Int} {g h : Int → Int} {i : Nat} {x : Int} (hx : S[i]? = some x) : (mixL S g h i)[i]? = some (h x) := by
  have hi := (List.getElem?_eq_some_iff.1 hx).1
  have hl : ((S.take i).map g).length = i := by rw [List.length_map, List.length_take]; omega
  unfold mixL
  rw [List.getElem?_append_right (by omega), hl, Nat.sub_self, drop_cons hx]; rfl
theorem mix_set {S : List Int} {g h : Int → Int} {i : Nat} {x : Int} (hx : S[i]? = some x) : (mixL S g h i).set i (g x) = mixL S g h (i + 1) := by
  have hi := (List.getElem?_eq_some_iff.1 hx).1
  have hl : ((S.take i).map g).length = i := by rw [List.length_map, List.length_take]; omega
  unfold mixL
  rw [List.set_append_right _ _ (by omega), hl, Nat.sub_self, drop_cons hx, List.map_cons, List.set_cons_zero, map_next hx, List.append_assoc]; rfl
theorem mix_skip {S : List Int} {g h : Int → Int} {i : Nat} {x : Int} (hx : S[i]? = some x) (e : g x = h x) : mixL S g h i = mixL S g h (i + 1) := by
  unfold mixL
  rw [drop_cons hx, map_next hx, List.append_assoc, List.map_cons, e]; rfl
theorem mix_new {S : List Int} {g h : Int → Int} (e : ∀ x, h x = 0) : List.replicate S.length (0 : Int) = mixL S g h 0 := by
  rw [mix_0]
  induction S with
  | nil => rfl
  | cons x S ih => rw [List.map_cons, e, List.length_cons, List.replicate_succ, ih]
theorem wit_6 {s : Int} (hs : 1 ≤ s ∧ s ≤ 63) (h : singF s = true) : witF s < 6 := by
  have e := wit_pow hs h
  by_cases h6 : witF s < 6
  · exact h6
  · have : 2 ^ 6 ≤ 2 ^ witF s := Nat.pow_le_pow_right (by decide) (by omega)
    omega
theorem wit_ne {s : Int} {w : Nat} (hs : 1 ≤ s ∧ s ≤ 63) (h : singF s = true) (hw : w ≤ witF s) : (IntKind.i64.wrap (1 * 2 ^ (min ((w : Nat) : Int).toNat IntKind.i64.bits)) != s) = decide (w < witF s) := by
  have h6 := wit_6 hs h
  have e := wit_pow hs h
  rw [shl_at (by omega)]
  by_cases hl : w < witF s
  · rw [decide_eq_true hl, bne_iff_ne]
    intro e2
    have : w = witF s := pow_inj (by omega) h6 (by omega)
    omega
  · rw [decide_eq_false hl, bne_eq_false_iff_eq]
    have : w = witF s := by omega
    rw [this]; omega
/-- What the closure of Roots holds. -/
structure RtE (I : HMap) (fid bst brow bloc bcla bse : Nat) (sv bv av : Option Addr) (ns cs n2 c2 n c : Nat) (St xs : List Int) (rows : List (List Int)) (l : Nat) : Prop where
  st : Cell I [] bst 0 (.slice sv ns cs)
  row : Cell I [] brow 0 (.slice bv n2 c2)
  loc : Cell I [] bloc 0 (.int .i64 l)
  cla : Cell I [] bcla 0 (.slice av n c)
  se : Cell I [] bse 0 (.func (.func fid) #[] #[capP bst, capP brow, capP bloc, capP bcla, capP bse])
  hT : Sl I 1 encI sv ns cs St
  hS : Sl I 1 encI av n c xs
  hV : SlN I bv n2 c2 rows
theorem RtE.mono {I I' : HMap} {fid bst brow bloc bcla bse : Nat} {sv bv av : Option Addr} {ns cs n2 c2 n c : Nat} {St xs : List Int} {rows : List (List Int)} {l : Nat} (h : RtE I fid bst brow bloc bcla bse sv bv av ns cs n2 c2 n c St xs rows l) (hI : HLe I I') : RtE I' fid bst brow bloc bcla bse sv bv av ns cs n2 c2 n c St xs rows l :=
  ⟨h.st.mono hI, h.row.mono hI, h.loc.mono hI, h.cla.mono hI, h.se.mono hI, h.hT.mono hI, h.hS.mono hI, h.hV.mono hI⟩
end Go.Proofs.YthcffaheamikgaaDoor
end
section
namespace Go.Proofs.YthcffaheamikgaaDoor
open Go Go.Kn Go.Proofs
theorem fun_24 : Fun Tryd.prog 24 := .of Tryd.func24 (by kernel_rfl) (by kernel_rfl)
theorem fun_25 : Fun Tryd.prog 25 := .of Tryd.func25 (by kernel_rfl) (by kernel_rfl)
theorem fun_26 : Fun Tryd.prog 26 := .of Tryd.func26 (by kernel_rfl) (by kernel_rfl)
theorem mkt_23 : MkT Tryd.prog 23 3 8 (.int .i64 0) := ⟨by kernel_rfl, by kernel_rfl, rfl⟩
theorem sct_66 : ScT Tryd.prog 66 := .of (by kernel_rfl)
theorem szt_3 : SzT Tryd.prog 3 1 := .of (by kernel_rfl)
theorem w_eprice (I : HMap) (x y : Int) : RetV Tryd.prog 26 [.int .i64 x, .int .i64 y] I (.int .i64 (stepF x y)) := by
 intro g H w hw
 refine enter Tryd.func26 rfl Tryd.ntmps26 rfl hw ?_
 refine X_seq (X_region ?_)
 refine zA ?_
 refine XO_nil (at_then ?_)
 refine X_seq ?_
 refine X_block ?_
 refine X_seq (X_region ?_)
 refine zM ?_
 refine zM ?_
 refine zC ?_
 refine zA ?_
 refine XO_nil (at_then ?_)
 refine X_cond rfl (fun hc5 => ?_) (fun hc5 => ?_)
 ·
  refine X_seq (X_region ?_)
  refine zA ?_
  refine XO_nil (at_then ?_)
  refine X_ret ?_
  refine at_block_r ?_
  refine at_then_r ?_
  first
  | exact at_ret1 rfl rfl (fun w hw => ⟨by unfold stepF; rw [if_pos (by simpa using hc5)], hw.drop⟩)
 ·
  refine X_seq (X_region ?_)
  refine zM ?_
  refine zC ?_
  refine zA ?_
  refine XO_nil (at_then ?_)
  refine X_cond rfl (fun hc9 => ?_) (fun hc9 => ?_)
  ·
   refine X_seq (X_region ?_)
   refine zA ?_
   refine XO_nil (at_then ?_)
   refine X_ret ?_
   refine at_block_r ?_
   refine at_then_r ?_
   first
   | exact at_ret1 rfl rfl (fun w hw => ⟨by unfold stepF; rw [if_neg (by simpa using hc5), if_pos (by simpa using hc9)], hw.drop⟩)
  ·
   refine X_seq (X_region ?_)
   refine zM ?_
   refine zC ?_
   refine zA ?_
   refine XO_nil (at_then ?_)
   refine X_cond rfl (fun hc12 => ?_) (fun hc12 => ?_)
   ·
    refine X_seq (X_region ?_)
    refine zA ?_
    refine XO_nil (at_then ?_)
    refine X_ret ?_
    refine at_block_r ?_
    refine at_then_r ?_
    first
    | exact at_ret1 rfl rfl (fun w hw => ⟨by unfold stepF; rw [if_neg (by simpa using hc5), if_neg (by simpa using hc9), if_pos (by simpa using hc12)], hw.drop⟩)
   ·
    refine X_skip ?_
    refine at_block_n ?_
    refine at_then ?_
    refine X_seq (X_region ?_)
    refine zA ?_
    refine XO_nil (at_then ?_)
    refine X_ret ?_
    first
    | exact at_ret1 rfl rfl (fun w hw => ⟨by unfold stepF; rw [if_neg (by simpa using hc5), if_neg (by simpa using hc9), if_neg (by simpa using hc12)], hw.drop⟩)
theorem w_PartsC {I : HMap} {av : Option Addr} {n c m : Nat} {xs : List Int} (hS : Sl I 1 encI av n c xs) (hn : n ≤ 100000) (hc : chkN m xs = 0) {s : Int} (hin : s ∈ xs) : RetV Tryd.prog 25 [.int .i64 m, .slice av n c, .int .i64 s] I (.tuple #[.int .i64 (splitF xs s), .int .i64 (s - splitF xs s), .int .i64 0]) := by
 have h := w_Parts hS hn (m : Int) s
 have e : partsE (m : Int) xs s = 0 := partsE_ok hc (List.any_eq_true.2 ⟨s, hin, by simp⟩)
 obtain ⟨e1, e2⟩ := parts_both (m := (m : Int)) (cl := xs) (s := s)
 rw [e1, e2, e] at h
 unfold partsA partsB at h
 rw [if_neg (by omega), if_neg (by omega)] at h
 exact h
theorem w_roots1 {I : HMap} {bst brow bloc bcla bse : Nat} {sv bv av : Option Addr} {ns cs n2 c2 n c : Nat} {St xs : List Int} {rows : List (List Int)} {l : Nat} (hE : RtE I 24 bst brow bloc bcla bse sv bv av ns cs n2 c2 n c St xs rows l) (hn : n ≤ 100000) (hn2 : n2 ≤ 100000) (hns : ns ≤ 1000) (hl : ∀ r ∈ rows, l < r.length) (hc : chkN rows.length xs = 0) (f : Nat) (s : Int) (hok : OkS rows.length xs s) (hf : 1 < s → 1 ≤ f) (ih : ∀ (I' : HMap), HLe I I' → ∀ (s' : Int), OkS rows.length xs s' → s' < s → RetM Tryd.prog 24 ([.int .i64 s'] ++ [capP bst, capP brow, capP bloc, capP bcla, capP bse]) I' [] (SlRes 1 encI (rcF St (uF rows l) xs f s'))) : RetM Tryd.prog 24 [.int .i64 s, capP bst, capP brow, capP bloc, capP bcla, capP bse] I [] (SlRes 1 encI (rcF St (uF rows l) xs (f + 1) s)) := by
 intro g H w hw
 refine enter Tryd.func24 rfl Tryd.ntmps24 rfl hw ?_
 have hIc := HLe.refl I
 have hVl := hE.hV.len
 subst hVl
 have hTl := hE.hT.len
 subst hTl
 obtain ⟨hs, hV⟩ := hE.hV
 have hH := hV.1
 have hal := (chkN_ok hc).1
 have hal6 := (chkN_ok hc).2.1
 have hs63 := ok_le hc hok
 refine X_seq (X_region ?_)
 refine zA ?_
 refine XO_nil (at_then (X_seq (X_region ?_)))
 refine XO_v0 (ev_load rfl sct_23 (fun hg => by exact hE.st.any)) rfl rfl rfl ?_
 refine XO_v0 (ev_lenS rfl slt_23) rfl rfl rfl ?_
 refine XO_makeSlice mkt_23 rfl rfl (by omega) (by decide) rfl rfl (fun b_26 => ?_)
 refine zA ?_
 refine XO_nil ?_
 have e0 : ((St.length : Nat) : Int).toNat = St.length := rfl
 rw [e0, cellsI_new]
 refine at_then ?_
 refine X_seq ?_
 refine X_seq (X_region ?_)
 refine zM ?_
 refine zM ?_
 refine zB ?_
 refine XO_v0 (ev_and rfl rfl) rfl rfl rfl ?_
 refine zC ?_
 refine XO_nil (at_then ?_)
 refine X_cond rfl (fun hc31 => ?_) (fun hc31 => ?_)
 ·
  have hsing : singF s = true := by unfold singF; rw [decide_eq_true (show s > 0 by omega), Bool.true_and, wrapS hs63]; exact hc31
  have hwn := wit_n (n := rows.length) (by omega) hs63 hsing hok.2.1
  have hw6 := wit_6 hs63 hsing
  refine X_seq (X_region ?_)
  refine zA ?_
  refine XO_nil (at_then ?_)
  refine X_seq ?_
  refine X_block ?_
  refine X_loopT [(0, _), (1, _), (2, _), (3, _), (8, _)] (.cons rfl (.cons rfl (.cons rfl (.cons rfl (.cons rfl .nil))))) (fun T L0 mz E I' loc' => ∃ (k : Nat), mz = (witF s) - k ∧ E = (9, .int .i64 k) :: T ∧ I = I' ∧ [(b_26, .cells (cellsI (List.replicate St.length 0)) 3 (0, 0))] = loc' ∧ k ≤ (witF s)) _ _ _ _ ⟨0, rfl, rfl, rfl, rfl, Nat.zero_le _⟩ (.cons rfl (.cons rfl (.cons rfl (.cons rfl (.cons rfl (.cons rfl .nil)))))) (HLe.refl _) rfl ?_
  rintro mz E I' loc' ⟨k, rfl, rfl, rfl, rfl, hk⟩
  refine X_seq ?_
  refine X_seq (X_region ?_)
  refine zM ?_
  refine XO_v0 (ev_shl rfl rfl (fun hg => by omega)) rfl rfl rfl ?_
  refine zM ?_
  refine zC ?_
  refine XO_nil (at_then ?_)
  refine X_cond rfl (fun hc35 => ?_) (fun hc35 => ?_)
  ·
   have hlt_k : k < witF s := by rw [wit_ne hs63 hsing hk] at hc35; simpa using hc35
   refine X_skip ?_
   refine at_then ?_
   refine X_block ?_
   refine X_region ?_
   refine zM ?_
   refine zB ?_
   refine zA ?_
   refine XO_nil ?_
   refine at_block_n ?_
   exact at_met2 _ _ ⟨(witF s) - (k + 1), by omega, k + 1, rfl, rfl, rfl, rfl, by omega⟩ (.cons rfl (.cons rfl (.cons rfl (.cons rfl (.cons rfl (.cons rfl .nil)))))) (by repeat (first | exact .refl | exact subL_left | refine subL_app ?_ | refine .drop ?_ | refine subL_add ?_))
  ·
   have hge_k : k = witF s := by rw [wit_ne hs63 hsing hk] at hc35; simp at hc35; omega
   subst hge_k
   obtain ⟨x, v, hx, hv, hQ⟩ := hV.at hwn
   have hlv := hl v (List.mem_of_getElem? hv)
   have hu := some_getD (d := 0) rfl hlv
   have hvn := hQ.len
   have hUF : uF rows l (witF s) = v.getD l 0 := by unfold uF; rw [getD_of hv]
   rw [mix_new (g := (leafN (uF rows l (witF s)))) (h := (fun _ => 0)) (fun _ => rfl)]
   refine X_exit ?_
   refine at_then_e ?_
   refine at_then_e ?_
   refine at_block_hit ?_
   refine at_then ?_
   refine X_seq ?_
   refine X_seq (X_region ?_)
   refine XO_v0 (ev_load rfl sct_23 (fun hg => by exact hE.st.any)) rfl rfl rfl ?_
   refine XO_v0 (ev_lenS rfl slt_23) rfl rfl rfl ?_
   refine zM ?_
   refine XO_nil (at_then ?_)
   refine X_block ?_
   refine X_loopT [(2, _), (3, _), (8, _), (9, _), (38, _), (39, _)] (.cons rfl (.cons rfl (.cons rfl (.cons rfl (.cons rfl (.cons rfl .nil)))))) (fun T L0 mz E I' loc' => ∃ (i : Nat), mz = St.length - i ∧ E = (40, .int .i64 i) :: T ∧ I = I' ∧ [(b_26, .cells (cellsI (mixL St (leafN (uF rows l (witF s))) (fun _ => 0) i)) 3 (0, 0))] = loc' ∧ i ≤ St.length) _ _ _ _ ⟨0, rfl, rfl, rfl, rfl, Nat.zero_le _⟩ (.cons rfl (.cons rfl (.cons rfl (.cons rfl (.cons rfl (.cons rfl (.cons rfl .nil))))))) (HLe.refl _) rfl ?_
   rintro mz E I' loc' ⟨i, rfl, rfl, rfl, rfl, hi⟩
   refine X_seq (X_region ?_)
   refine zC ?_
   refine XO_nil (at_then ?_)
   refine X_seq ?_
   refine X_cond rfl (fun hc41 => ?_) (fun hc41 => ?_)
   ·
    have hlt_i : i < St.length := by have h := hc41; simp at h; omega
    obtain ⟨y, hst⟩ := hE.hT.at hlt_i
    refine X_skip ?_
    refine at_then ?_
    refine X_seq ?_
    refine X_block ?_
    refine X_seq (X_region ?_)
    refine zM ?_
    refine XO_v0 (ev_indexSl rfl rfl slt_23 hE.hT (fun hg => by first | omega | (simp [conj] at hg; omega))) rfl rfl rfl ?_
    refine XO_v0 (ev_load rfl sct_3 (fun hg => by exact Sl.get0 (hE.hT) hst rfl)) rfl rfl rfl ?_
    refine zA ?_
    refine zA ?_
    refine XO_nil (at_then ?_)
    refine X_seq ?_
    refine X_draw mixed (by kernel_rfl) ?_
    refine XQ_v0 (ev_load rfl sct_22 (fun hg => by exact hE.row.any)) rfl rfl rfl ?_
    refine XQ_v0 (ev_move rfl) rfl rfl rfl ?_
    refine XQ_v0 (ev_indexSl rfl rfl slt_22 hH (fun hg => by first | omega | (simp [conj] at hg; omega))) rfl rfl rfl ?_
    refine XQ_v0 (ev_load rfl sct_23 (fun hg => by exact Sl.get0 hH hx rfl)) rfl rfl rfl ?_
    refine XQ_v0 (ev_load rfl sct_3 (fun hg => by exact hE.loc.any)) rfl rfl rfl ?_
    refine XQ_v0 (ev_indexSl rfl rfl slt_23 hQ (fun hg => by first | omega | (simp [conj] at hg; omega))) rfl rfl rfl ?_
    refine XQ_v0 (ev_load rfl sct_3 (fun hg => by exact Sl.get0 hQ hu rfl)) rfl rfl rfl ?_
    refine XQ_v0 (ev_assign rfl) rfl rfl rfl ?_
    refine XQ_nil ?_
    refine at_then ?_
    refine X_seq (X_region ?_)
    refine zM ?_
    refine zC ?_
    refine zM ?_
    refine XO_pushT 2 rfl rfl rfl ?_
    refine XO_v1 (ev_move rfl) (.some rfl rfl rfl rfl gbt) rfl rfl rfl ?_
    refine XO_v1 (ev_move rfl) (.some rfl rfl rfl rfl gbt) rfl rfl rfl ?_
    refine XO_v1 (ev_cmp rfl rfl rfl) (.some rfl rfl rfl rfl gbt) rfl rfl rfl ?_
    refine XO_and0 rfl rfl rfl rfl rfl ?_
    refine XO_nil (at_then ?_)
    refine X_cond rfl (fun hc58 => ?_) (fun hc58 => ?_)
    ·
     have hgy : (leafN (uF rows l (witF s))) y = 1073741824 := by unfold leafN; rw [hUF, if_pos (by simpa using hc58)]
     refine X_region ?_
     refine zM ?_
     refine zM ?_
     refine XO_v0 (ev_indexOwn rfl rfl slt_23 (fun hg => by first | omega | (simp [conj] at hg; omega))) rfl rfl rfl ?_
     refine XO_store rfl rfl szt_3 rfl rfl (by repeat (first | exact Upd.here | apply Upd.there | apply upd_app)) (bltI (by rw [mix_len]; omega)) ?_
     refine XO_nil ?_
     rw [cellsI_set, show (mixL St (leafN (uF rows l (witF s))) (fun _ => 0) i).set i 1073741824 = mixL St (leafN (uF rows l (witF s))) (fun _ => 0) (i + 1) from by rw [← mix_set hst, hgy]]
     refine at_block_n ?_
     refine at_then ?_
     refine X_region ?_
     refine zB ?_
     refine zM ?_
     refine XO_nil ?_
     exact at_met2 _ _ ⟨St.length - (i + 1), by omega, i + 1, rfl, rfl, rfl, rfl, by omega⟩ (.cons rfl (.cons rfl (.cons rfl (.cons rfl (.cons rfl (.cons rfl (.cons rfl .nil))))))) (by repeat (first | exact .refl | exact subL_left | refine subL_app ?_ | refine .drop ?_ | refine subL_add ?_))
    ·
     have hgy : (leafN (uF rows l (witF s))) y = 0 := by unfold leafN; rw [hUF, if_neg (by rw [hc58]; decide)]
     rw [mix_skip hst hgy]
     refine X_skip ?_
     refine at_block_n ?_
     refine at_then ?_
     refine X_region ?_
     refine zB ?_
     refine zM ?_
     refine XO_nil ?_
     exact at_met2 _ _ ⟨St.length - (i + 1), by omega, i + 1, rfl, rfl, rfl, rfl, by omega⟩ (.cons rfl (.cons rfl (.cons rfl (.cons rfl (.cons rfl (.cons rfl (.cons rfl .nil))))))) (by repeat (first | exact .refl | exact subL_left | refine subL_app ?_ | refine .drop ?_ | refine subL_add ?_))
   ·
    have hge_i : St.length ≤ i := by have h := hc41; simp at h; omega
    rw [mix_all hge_i]
    refine X_exit ?_
    refine at_then_e ?_
    refine at_then_e ?_
    refine at_block_hit ?_
    refine at_then ?_
    refine X_seq (X_region ?_)
    refine zM ?_
    refine zA ?_
    refine XO_nil (at_then ?_)
    refine X_ret ?_
    refine at_then_r ?_
    first
    | exact at_ret1 rfl rfl (fun w hw => by obtain ⟨I9, h91, h92, h93⟩ := OwnS.res (own_rowI (by rw [List.length_map]) (by omega)) encI_len (by decide) hw; rw [← rc_1 (f := f) (cl := xs) hsing] at h93; exact ⟨_, I9, [], rfl, hIc.trans h91, h92, h93⟩)
 ·
  have hns0 : singF s = false := by unfold singF; rw [decide_eq_true (show s > 0 by omega), Bool.true_and, wrapS hs63]; exact hc31
  obtain ⟨hin, ok1, ok2, hp1, hp2, _, _⟩ := first_part hc hok hns0
  obtain ⟨f0, rfl⟩ : ∃ f0, f = f0 + 1 := ⟨f - 1, by have := hf (by omega); omega⟩
  rw [mix_new (g := (totN St (rcF St (uF rows l) xs (f0 + 1) (splitF xs s)) (rcF St (uF rows l) xs (f0 + 1) (s - splitF xs s)) 0)) (h := (totN St (rcF St (uF rows l) xs (f0 + 1) (splitF xs s)) (rcF St (uF rows l) xs (f0 + 1) (s - splitF xs s)) 0)) (fun _ => by unfold totN; simp)]
  refine X_skip ?_
  refine at_then ?_
  refine X_seq (X_region ?_)
  refine XO_v0 (ev_load rfl sct_22 (fun hg => by exact hE.row.any)) rfl rfl rfl ?_
  refine XO_v0 (ev_lenS rfl slt_22) rfl rfl rfl ?_
  refine XO_v0 (ev_load rfl sct_23 (fun hg => by exact hE.cla.any)) rfl rfl rfl ?_
  refine zM ?_
  refine XO_callV0 (cap := []) (vs := [_, _, _]) rfl rfl fun_25 (w_PartsC hE.hS hn hc hin) rfl rfl ?_
  refine zM ?_
  refine XO_v0 (ev_extract rfl rfl) rfl rfl rfl ?_
  refine XO_v0 (ev_extract rfl rfl) rfl rfl rfl ?_
  refine XO_v0 (ev_extract rfl rfl) rfl rfl rfl ?_
  refine zA ?_
  refine zA ?_
  refine zA ?_
  refine XO_nil (at_then ?_)
  refine X_seq ?_
  refine X_seq (X_region ?_)
  refine zM ?_
  refine zM ?_
  refine XO_buildSlice (ps := [(0, _), (1, _)]) (m := [encI (splitF xs s), encI (s - splitF xs s)]) elt_23 rfl (.cons rfl (.cons rfl (.nil))) rfl (by simp [encI_len]) (by decide) (by decide) rfl rfl (fun b_75 => ?_)
  refine XO_freeze (b := b_75) (by repeat (first | exact Take.here | apply Take.there)) (fun I3 hI3 hb3 => ?_)
  have hE := hE.mono hI3
  have hIc := hIc.trans hI3
  have hAB : Sl I3 1 encI (some ⟨b_75, 0, none⟩) 2 2 ([splitF xs s, s - splitF xs s] : List Int) := Sl.lit ([splitF xs s, s - splitF xs s] : List Int) rfl encI_len (show _ = some (Obj.cells (([splitF xs s, s - splitF xs s] : List Int).flatMap encI).toArray 3 (0, 0)) from hb3)
  refine XO_v0 (ev_lenS rfl slt_23) rfl rfl rfl ?_
  refine zM ?_
  refine XO_nil (at_then ?_)
  refine X_block ?_
  refine X_loopT [(1, _), (5, _), (8, _), (75, _), (76, _)] (.cons rfl (.cons rfl (.cons rfl (.cons rfl (.cons rfl .nil))))) (fun T L0 mz E I' loc' => ∃ (j : Nat), mz = 2 - j ∧ E = (77, .int .i64 j) :: T ∧ HLe I3 I' ∧ [(b_26, .cells (cellsI (mixL St (totN St (rcF St (uF rows l) xs (f0 + 1) (splitF xs s)) (rcF St (uF rows l) xs (f0 + 1) (s - splitF xs s)) j) (totN St (rcF St (uF rows l) xs (f0 + 1) (splitF xs s)) (rcF St (uF rows l) xs (f0 + 1) (s - splitF xs s)) j) 0)) 3 (0, 0))] = loc' ∧ j ≤ 2) _ _ _ _ ⟨0, rfl, rfl, HLe.refl _, rfl, Nat.zero_le _⟩ (.cons rfl (.cons rfl (.cons rfl (.cons rfl (.cons rfl (.cons rfl .nil)))))) (HLe.refl _) rfl ?_
  rintro mz E J4 loc' ⟨j, rfl, rfl, hJ, rfl, hj⟩
  have hE := hE.mono hJ
  have hAB := hAB.mono hJ
  have hIc := hIc.trans hJ
  have hB4 := hJ
  refine X_seq (X_region ?_)
  refine zC ?_
  refine XO_nil (at_then ?_)
  refine X_seq ?_
  refine X_cond rfl (fun hc78 => ?_) (fun hc78 => ?_)
  ·
   have hlt_j : j < 2 := by have h := hc78; simp at h; omega
   obtain ⟨q, hpj, hpe, okp, hpl⟩ : ∃ q, ([splitF xs s, s - splitF xs s] : List Int)[j]? = some q ∧ (rcF St (uF rows l) xs (f0 + 1) (q)) = (if j = 0 then (rcF St (uF rows l) xs (f0 + 1) (splitF xs s)) else (rcF St (uF rows l) xs (f0 + 1) (s - splitF xs s))) ∧ OkS rows.length xs q ∧ q < s := by
    rcases (show j = 0 ∨ j = 1 by omega) with rfl | rfl
    ·
     exact ⟨_, rfl, rfl, ok1, by omega⟩
    ·
     exact ⟨_, rfl, rfl, ok2, by omega⟩
   have hcl : (if j = 0 then (rcF St (uF rows l) xs (f0 + 1) (splitF xs s)) else (rcF St (uF rows l) xs (f0 + 1) (s - splitF xs s))).length = St.length := by split <;> exact rc_len
   have hci : ∀ c ∈ (if j = 0 then (rcF St (uF rows l) xs (f0 + 1) (splitF xs s)) else (rcF St (uF rows l) xs (f0 + 1) (s - splitF xs s))), 0 ≤ c ∧ c ≤ 2147483648 := by split <;> exact rc_in _ _
   rw [show mixL St (totN St (rcF St (uF rows l) xs (f0 + 1) (splitF xs s)) (rcF St (uF rows l) xs (f0 + 1) (s - splitF xs s)) j) (totN St (rcF St (uF rows l) xs (f0 + 1) (splitF xs s)) (rcF St (uF rows l) xs (f0 + 1) (s - splitF xs s)) j) 0 = mixL St (totN St (rcF St (uF rows l) xs (f0 + 1) (splitF xs s)) (rcF St (uF rows l) xs (f0 + 1) (s - splitF xs s)) (j + 1)) (totN St (rcF St (uF rows l) xs (f0 + 1) (splitF xs s)) (rcF St (uF rows l) xs (f0 + 1) (s - splitF xs s)) j) 0 by rw [mix_0, mix_0]]
   refine X_skip ?_
   refine at_then ?_
   refine X_seq ?_
   refine X_block ?_
   refine X_seq (X_region ?_)
   refine XO_v0 (ev_indexSl rfl rfl slt_23 hAB (fun hg => by first | omega | (simp [conj] at hg; omega))) rfl rfl rfl ?_
   refine XO_v0 (ev_load rfl sct_3 (fun hg => by exact Sl.get0 hAB hpj rfl)) rfl rfl rfl ?_
   refine zA ?_
   refine XO_nil (at_then (X_seq (X_region ?_)))
   refine XO_v0 (ev_load rfl sct_66 (fun hg => by exact hE.se.any)) rfl rfl rfl ?_
   refine zM ?_
   refine XO_callM (cap := [capP bst, capP brow, capP bloc, capP bcla, capP bse]) (vs := [_]) rfl rfl fun_24 (by first | exact .nil | exact split_nil | exact split_right (L := [])) (ih _ hIc _ okp hpl) rfl rfl ?_
   rintro vv5 I5 L5 hI5 ⟨rfl, aC, cC, rfl, hBl⟩
   have hE := hE.mono hI5
   have hAB := hAB.mono hI5
   have hIc := hIc.trans hI5
   have hB4 := hB4.trans hI5
   rw [hpe] at hBl ⊢
   refine zA ?_
   refine XO_nil (at_then (X_seq (X_region ?_)))
   refine XO_v0 (ev_load rfl sct_23 (fun hg => by exact hE.st.any)) rfl rfl rfl ?_
   refine XO_v0 (ev_lenS rfl slt_23) rfl rfl rfl ?_
   refine zM ?_
   refine XO_nil (at_then ?_)
   refine X_block ?_
   refine X_loopT [(1, _), (5, _), (8, _), (18, _), (75, _), (76, _), (77, _), (84, _), (85, _)] (.cons rfl (.cons rfl (.cons rfl (.cons rfl (.cons rfl (.cons rfl (.cons rfl (.cons rfl (.cons rfl .nil))))))))) (fun T L0 mz E I' loc' => ∃ (i : Nat), mz = St.length - i ∧ E = (86, .int .i64 i) :: T ∧ I5 = I' ∧ [(b_26, .cells (cellsI (mixL St (totN St (rcF St (uF rows l) xs (f0 + 1) (splitF xs s)) (rcF St (uF rows l) xs (f0 + 1) (s - splitF xs s)) (j + 1)) (totN St (rcF St (uF rows l) xs (f0 + 1) (splitF xs s)) (rcF St (uF rows l) xs (f0 + 1) (s - splitF xs s)) j) i)) 3 (0, 0))] = loc' ∧ i ≤ St.length) _ _ _ _ ⟨0, rfl, rfl, rfl, rfl, Nat.zero_le _⟩ (.cons rfl (.cons rfl (.cons rfl (.cons rfl (.cons rfl (.cons rfl (.cons rfl (.cons rfl (.cons rfl (.cons rfl .nil)))))))))) (HLe.refl _) rfl ?_
   rintro mz E I' loc' ⟨i, rfl, rfl, rfl, rfl, hi⟩
   refine X_seq (X_region ?_)
   refine zC ?_
   refine XO_nil (at_then ?_)
   refine X_seq ?_
   refine X_cond rfl (fun hc87 => ?_) (fun hc87 => ?_)
   ·
    have hlt_i : i < St.length := by have h := hc87; simp at h; omega
    obtain ⟨y, hst⟩ := hE.hT.at hlt_i
    have hti := totN_in (S := St) (A := (rcF St (uF rows l) xs (f0 + 1) (splitF xs s))) (B := (rcF St (uF rows l) xs (f0 + 1) (s - splitF xs s))) (x := y) (fun c h => (rc_in _ _ c h).1) (fun c h => (rc_in _ _ c h).1) j
    refine X_skip ?_
    refine at_then ?_
    refine X_seq ?_
    refine X_block ?_
    refine X_seq (X_region ?_)
    refine zM ?_
    refine XO_v0 (ev_indexSl rfl rfl slt_23 hE.hT (fun hg => by first | omega | (simp [conj] at hg; omega))) rfl rfl rfl ?_
    refine XO_v0 (ev_load rfl sct_3 (fun hg => by exact Sl.get0 (hE.hT) hst rfl)) rfl rfl rfl ?_
    refine zA ?_
    refine zA ?_
    refine XO_nil (at_then (X_seq (X_region ?_)))
    refine zA ?_
    refine XO_nil (at_then ?_)
    refine X_seq ?_
    refine X_seq (X_region ?_)
    refine XO_v0 (ev_load rfl sct_23 (fun hg => by exact hE.st.any)) rfl rfl rfl ?_
    refine XO_v0 (ev_lenS rfl slt_23) rfl rfl rfl ?_
    refine zM ?_
    refine XO_nil (at_then ?_)
    refine X_block ?_
    refine X_loopT [(1, _), (5, _), (8, _), (18, _), (19, _), (20, _), (75, _), (76, _), (77, _), (84, _), (85, _), (86, _), (91, _), (92, _)] (.cons rfl (.cons rfl (.cons rfl (.cons rfl (.cons rfl (.cons rfl (.cons rfl (.cons rfl (.cons rfl (.cons rfl (.cons rfl (.cons rfl (.cons rfl (.cons rfl .nil)))))))))))))) (fun T L0 mz E I' loc' => ∃ (k : Nat), mz = St.length - k ∧ E = (21, .int .i64 (minN St (if j = 0 then (rcF St (uF rows l) xs (f0 + 1) (splitF xs s)) else (rcF St (uF rows l) xs (f0 + 1) (s - splitF xs s))) y k)) :: (93, .int .i64 k) :: T ∧ I5 = I' ∧ [(b_26, .cells (cellsI (mixL St (totN St (rcF St (uF rows l) xs (f0 + 1) (splitF xs s)) (rcF St (uF rows l) xs (f0 + 1) (s - splitF xs s)) (j + 1)) (totN St (rcF St (uF rows l) xs (f0 + 1) (splitF xs s)) (rcF St (uF rows l) xs (f0 + 1) (s - splitF xs s)) j) i)) 3 (0, 0))] = loc' ∧ k ≤ St.length) _ _ _ _ ⟨0, rfl, rfl, rfl, rfl, Nat.zero_le _⟩ (.cons rfl (.cons rfl (.cons rfl (.cons rfl (.cons rfl (.cons rfl (.cons rfl (.cons rfl (.cons rfl (.cons rfl (.cons rfl (.cons rfl (.cons rfl (.cons rfl (.cons rfl (.cons rfl .nil)))))))))))))))) (HLe.refl _) rfl ?_
    rintro mz E I' loc' ⟨k, rfl, rfl, rfl, rfl, hk⟩
    refine X_seq (X_region ?_)
    refine zC ?_
    refine XO_nil (at_then ?_)
    refine X_seq ?_
    refine X_cond rfl (fun hc94 => ?_) (fun hc94 => ?_)
    ·
     have hlt_k : k < St.length := by have h := hc94; simp at h; omega
     obtain ⟨yk, hsk⟩ := hE.hT.at hlt_k
     obtain ⟨ck, hck⟩ := hBl.at (show k < _ by omega)
     have hcki := hci ck (List.mem_of_getElem? hck)
     have hsti := step_in y yk
     refine X_skip ?_
     refine at_then ?_
     refine X_seq ?_
     refine X_block ?_
     refine X_seq (X_region ?_)
     refine zM ?_
     refine XO_v0 (ev_indexSl rfl rfl slt_23 hE.hT (fun hg => by first | omega | (simp [conj] at hg; omega))) rfl rfl rfl ?_
     refine XO_v0 (ev_load rfl sct_3 (fun hg => by exact Sl.get0 (hE.hT) hsk rfl)) rfl rfl rfl ?_
     refine zA ?_
     refine zA ?_
     refine XO_nil (at_then ?_)
     refine X_draw mixed (by kernel_rfl) ?_
     refine XQ_v0 (ev_move rfl) rfl rfl rfl ?_
     refine XQ_v0 (ev_move rfl) rfl rfl rfl ?_
     refine XQ_v0 (ev_move rfl) rfl rfl rfl ?_
     refine XQ_callV0 (cap := []) (vs := [_, _]) rfl rfl fun_26 (w_eprice _ _ _) rfl rfl ?_
     refine XQ_v0 (ev_move rfl) rfl rfl rfl ?_
     refine XQ_v0 (ev_move rfl) rfl rfl rfl ?_
     refine XQ_v0 (ev_indexSl rfl rfl slt_23 hBl (fun hg => by first | omega | (simp [conj] at hg; omega))) rfl rfl rfl ?_
     refine XQ_v0 (ev_load rfl sct_3 (fun hg => by exact Sl.get0 hBl hck rfl)) rfl rfl rfl ?_
     refine XQ_v0 (ev_arB rfl rfl rfl (fun hg => by first | omega | (simp [conj] at hg; omega))) rfl rfl rfl ?_
     refine XQ_v0 (ev_min rfl rfl) rfl rfl rfl ?_
     refine XQ_v0 (ev_assign rfl) rfl rfl rfl ?_
     refine XQ_nil ?_
     rw [← minN_step hsk hck]
     refine at_block_n ?_
     refine at_then ?_
     refine X_region ?_
     refine zB ?_
     refine zM ?_
     refine XO_nil ?_
     exact at_met2 _ _ ⟨St.length - (k + 1), by omega, k + 1, rfl, rfl, rfl, rfl, by omega⟩ (.cons rfl (.cons rfl (.cons rfl (.cons rfl (.cons rfl (.cons rfl (.cons rfl (.cons rfl (.cons rfl (.cons rfl (.cons rfl (.cons rfl (.cons rfl (.cons rfl (.cons rfl (.cons rfl .nil)))))))))))))))) (by repeat (first | exact .refl | exact subL_left | refine subL_app ?_ | refine .drop ?_ | refine subL_add ?_))
    ·
     have hge_k : St.length ≤ k := by have h := hc94; simp at h; omega
     rw [show k = St.length by omega]
     have hmni := minN_in (S := St) (x := y) (fun c h => (hci c h).1) St.length
     refine X_exit ?_
     refine at_then_e ?_
     refine at_then_e ?_
     refine at_block_hit ?_
     refine at_then ?_
     refine X_region ?_
     refine zM ?_
     refine zM ?_
     refine XO_v0 (ev_indexOwn rfl rfl slt_23 (fun hg => by first | omega | (simp [conj] at hg; omega))) rfl rfl rfl ?_
     refine XO_v0 (ev_load rfl sct_3 (fun hg => by exact cellI_at (mix_at hst))) rfl rfl rfl ?_
     refine zM ?_
     refine zB ?_
     refine XO_v0 (ev_indexOwn rfl rfl slt_23 (fun hg => by first | omega | (simp [conj] at hg; omega))) rfl rfl rfl ?_
     refine XO_store rfl rfl szt_3 rfl rfl (by repeat (first | exact Upd.here | apply Upd.there | apply upd_app)) (bltI (by rw [mix_len]; omega)) ?_
     refine XO_nil ?_
     rw [cellsI_set, show (mixL St (totN St (rcF St (uF rows l) xs (f0 + 1) (splitF xs s)) (rcF St (uF rows l) xs (f0 + 1) (s - splitF xs s)) (j + 1)) (totN St (rcF St (uF rows l) xs (f0 + 1) (splitF xs s)) (rcF St (uF rows l) xs (f0 + 1) (s - splitF xs s)) j) i).set i ((totN St (rcF St (uF rows l) xs (f0 + 1) (splitF xs s)) (rcF St (uF rows l) xs (f0 + 1) (s - splitF xs s)) j) y + minN St (if j = 0 then (rcF St (uF rows l) xs (f0 + 1) (splitF xs s)) else (rcF St (uF rows l) xs (f0 + 1) (s - splitF xs s))) y St.length) = mixL St (totN St (rcF St (uF rows l) xs (f0 + 1) (splitF xs s)) (rcF St (uF rows l) xs (f0 + 1) (s - splitF xs s)) (j + 1)) (totN St (rcF St (uF rows l) xs (f0 + 1) (splitF xs s)) (rcF St (uF rows l) xs (f0 + 1) (s - splitF xs s)) j) (i + 1) from by rw [← mix_set hst, ← totN_step hlt_j]; rfl]
     refine at_block_n ?_
     refine at_then ?_
     refine X_region ?_
     refine zB ?_
     refine zM ?_
     refine XO_nil ?_
     exact at_met2 _ _ ⟨St.length - (i + 1), by omega, i + 1, rfl, rfl, rfl, rfl, by omega⟩ (.cons rfl (.cons rfl (.cons rfl (.cons rfl (.cons rfl (.cons rfl (.cons rfl (.cons rfl (.cons rfl (.cons rfl .nil)))))))))) (by repeat (first | exact .refl | exact subL_left | refine subL_app ?_ | refine .drop ?_ | refine subL_add ?_))
   ·
    have hge_i : St.length ≤ i := by have h := hc87; simp at h; omega
    rw [show mixL St (totN St (rcF St (uF rows l) xs (f0 + 1) (splitF xs s)) (rcF St (uF rows l) xs (f0 + 1) (s - splitF xs s)) (j + 1)) (totN St (rcF St (uF rows l) xs (f0 + 1) (splitF xs s)) (rcF St (uF rows l) xs (f0 + 1) (s - splitF xs s)) j) i = mixL St (totN St (rcF St (uF rows l) xs (f0 + 1) (splitF xs s)) (rcF St (uF rows l) xs (f0 + 1) (s - splitF xs s)) (j + 1)) (totN St (rcF St (uF rows l) xs (f0 + 1) (splitF xs s)) (rcF St (uF rows l) xs (f0 + 1) (s - splitF xs s)) (j + 1)) 0 by rw [mix_all hge_i, mix_0]]
    refine X_exit ?_
    refine at_then_e ?_
    refine at_then_e ?_
    refine at_block_hit ?_
    refine at_block_n ?_
    refine at_then ?_
    refine X_region ?_
    refine zB ?_
    refine zM ?_
    refine XO_nil ?_
    exact at_met2 _ _ ⟨2 - (j + 1), by omega, j + 1, rfl, rfl, hB4, rfl, by omega⟩ (.cons rfl (.cons rfl (.cons rfl (.cons rfl (.cons rfl (.cons rfl .nil)))))) (by repeat (first | exact .refl | exact subL_left | refine subL_app ?_ | refine .drop ?_ | refine subL_add ?_))
  ·
   have hge_j : 2 ≤ j := by have h := hc78; simp at h; omega
   rw [show j = 2 by omega, mix_0]
   refine X_exit ?_
   refine at_then_e ?_
   refine at_then_e ?_
   refine at_block_hit ?_
   refine at_then ?_
   refine X_seq (X_region ?_)
   refine zM ?_
   refine zA ?_
   refine XO_nil (at_then ?_)
   refine X_ret ?_
   first
   | exact at_ret1 rfl rfl (fun w hw => by obtain ⟨I9, h91, h92, h93⟩ := OwnS.res (own_rowI (by rw [List.length_map]) (by omega)) encI_len (by decide) hw; rw [← rc_2 (f := f0 + 1) hns0] at h93; exact ⟨_, I9, [], rfl, hIc.trans h91, h92, h93⟩)
end Go.Proofs.YthcffaheamikgaaDoor
end
section
namespace Go.Proofs.YthcffaheamikgaaDoor
open Go Go.Kn
theorem comp_inv (d : Array Int) (hs : ∀ j, 0 < j → j < d.size → d[j - 1]! ≤ d[j]!) : ∀ m, m ≤ d.size → (Lib.compactUpTo d m).Pairwise (· < ·) ∧ (∀ x ∈ Lib.compactUpTo d m, 0 < m ∧ x ≤ d[m - 1]!) ∧ ∀ x, x ∈ Lib.compactUpTo d m ↔ ∃ j, j < m ∧ d[j]! = x
  | 0, _ => ⟨.nil, (fun x h => by cases h), fun x => ⟨(fun h => by cases h), fun ⟨j, h, _⟩ => by omega⟩⟩
  | m + 1, hm => by
    obtain ⟨h1, h2, h3⟩ := comp_inv d hs m (by omega)
    rw [Lib.compactUpTo_succ]
    by_cases hk : Lib.keeps d m = true
    · rw [if_pos hk]
      have hlt : ∀ x ∈ Lib.compactUpTo d m, x < d[m]! := fun x hx => by
        obtain ⟨a, b⟩ := h2 x hx
        have h4 := hs m a (by omega)
        unfold Lib.keeps at hk
        have h5 := of_decide_eq_true hk
        omega
      refine ⟨?_, ?_, ?_⟩
      · rw [List.pairwise_append]
        exact ⟨h1, List.pairwise_singleton .., fun y hy z hz => by rw [List.mem_singleton] at hz; rw [hz]; exact hlt y hy⟩
      · intro x hx
        refine ⟨by omega, ?_⟩
        rw [show m + 1 - 1 = m from by omega]
        rcases List.mem_append.1 hx with hx | hx
        · have := hlt x hx; omega
        · rw [List.mem_singleton] at hx; rw [hx]; exact Int.le_refl _
      · intro x
        rw [List.mem_append, h3, List.mem_singleton]
        constructor
        · rintro (⟨j, a, b⟩ | e)
          · exact ⟨j, by omega, b⟩
          · exact ⟨m, by omega, e.symm⟩
        · rintro ⟨j, a, b⟩
          by_cases e : j = m
          · subst e; exact .inr b.symm
          · exact .inl ⟨j, by omega, b⟩
    · rw [if_neg hk, List.append_nil]
      unfold Lib.keeps at hk
      have h5 : ¬ (m = 0 ∨ d[m]! ≠ d[m - 1]!) := fun h => hk (decide_eq_true h)
      have h6 : 0 < m ∧ d[m]! = d[m - 1]! := by omega
      refine ⟨h1, ?_, ?_⟩
      · intro x hx
        have := h2 x hx
        rw [show m + 1 - 1 = m from by omega]
        omega
      · intro x
        rw [h3]
        constructor
        · rintro ⟨j, a, b⟩; exact ⟨j, by omega, b⟩
        · rintro ⟨j, a, b⟩
          by_cases e : j = m
          · subst e; exact ⟨j - 1, by omega, by rw [← h6.2]; exact b⟩
          · exact ⟨j, by omega, b⟩
theorem comp_sort (zs : List Int) : (Lib.compact (sortI zs)).Pairwise (· < ·) ∧ ∀ x, x ∈ Lib.compact (sortI zs) ↔ x ∈ zs := by
  have hp : (sortI zs).Pairwise (fun a b => decide (a ≤ b) = true) := List.pairwise_mergeSort (by intro a b c; simp; omega) (by intro a b; simp; omega) zs
  have hget : ∀ j, j < (sortI zs).length → (sortI zs).toArray[j]! = (sortI zs)[j]! := fun j hj => by simp
  have hs : ∀ j, 0 < j → j < (sortI zs).toArray.size → (sortI zs).toArray[j - 1]! ≤ (sortI zs).toArray[j]! := by
    intro j h0 hj
    have hj' : j < (sortI zs).length := by simpa using hj
    have h1 := List.pairwise_iff_getElem.1 hp (j - 1) j (by omega) hj' (by omega)
    have h2 := of_decide_eq_true h1
    simpa [hj', show j - 1 < (sortI zs).length from by omega] using h2
  obtain ⟨h1, _, h3⟩ := comp_inv (sortI zs).toArray hs (sortI zs).length (by simp)
  refine ⟨h1, fun x => ?_⟩
  unfold Lib.compact
  rw [h3]
  have hmem : x ∈ sortI zs ↔ x ∈ zs := (List.mergeSort_perm zs _).mem_iff
  rw [← hmem]
  constructor
  · rintro ⟨j, hj, e⟩
    have : (sortI zs)[j] = x := by simpa [hj] using e
    rw [← this]; exact List.getElem_mem hj
  · intro h
    obtain ⟨j, hj, e⟩ := List.getElem_of_mem h
    exact ⟨j, hj, by simpa [hj] using e⟩
end Go.Proofs.YthcffaheamikgaaDoor
end
section
namespace Go.Proofs.YthcffaheamikgaaDoor
open Go Go.Kn Go.Proofs
def rcV (S : List Int) (u : Nat → Int) (cl : List Int) (f : Nat) (s x : Int) : Int := if singF s = true then leafN (u (witF s)) x else totN S (rcF S u cl f (splitF cl s)) (rcF S u cl f (s - splitF cl s)) 2 x
theorem rc_map {S : List Int} {u : Nat → Int} {cl : List Int} {f : Nat} {s : Int} : rcF S u cl (f + 1) s = S.map (rcV S u cl f s) := by
  cases h : singF s with
  | true => rw [rc_1 h]; exact List.map_congr_left fun x _ => by unfold rcV; rw [if_pos h]
  | false => rw [rc_2 h]; exact List.map_congr_left fun x _ => by unfold rcV; rw [if_neg (by rw [h]; decide)]
/-- The states of a locus in order, each once. -/
def stE (rows : List (List Int)) (l : Nat) : List Int := Lib.compact (sortI (stL rows l rows.length))
def topF (rows : List (List Int)) (cl : List Int) (l : Nat) : List Int := rcF (stE rows l) (uF rows l) cl 64 (allS rows.length)
def topV (rows : List (List Int)) (cl : List Int) (l : Nat) (x : Int) : Int := rcV (stE rows l) (uF rows l) cl 63 (allS rows.length) x
theorem top_map {rows : List (List Int)} {cl : List Int} {l : Nat} : topF rows cl l = (stE rows l).map (topV rows cl l) := rc_map (f := 63)
def rootF (rows : List (List Int)) (cl : List Int) (l : Nat) : List Int := (stE rows l).filter fun x => topV rows cl l x == leastF (topF rows cl l)
def rootsL (rows : List (List Int)) (cl : List Int) : List (List Int) := if costE rows cl ≠ 0 then [] else (List.range (rows.getD 0 []).length).map (rootF rows cl)
theorem roots_bad {rows : List (List Int)} {cl : List Int} (h : costE rows cl ≠ 0) : rootsL rows cl = [] := by unfold rootsL; rw [if_pos h]
theorem roots_ok {rows : List (List Int)} {cl : List Int} (h : costE rows cl = 0) : rootsL rows cl = (List.range (rows.getD 0 []).length).map (rootF rows cl) := by unfold rootsL; rw [if_neg (by omega)]
theorem range_map {α : Type} {f : Nat → α} {k : Nat} : (List.range (k + 1)).map f = (List.range k).map f ++ [f k] := by rw [List.range_succ, List.map_append]; rfl
theorem filt_yes {α : Type} {p : α → Bool} {xs : List α} {k : Nat} {x : α} (hx : xs[k]? = some x) (h : p x = true) : (xs.take (k + 1)).filter p = (xs.take k).filter p ++ [x] := by
  rw [List.take_add_one, hx, List.filter_append]; simp [h]
theorem filt_no {α : Type} {p : α → Bool} {xs : List α} {k : Nat} {x : α} (hx : xs[k]? = some x) (h : p x = false) : (xs.take (k + 1)).filter p = (xs.take k).filter p := by
  rw [List.take_add_one, hx, List.filter_append]; simp [h]
theorem stE_len {rows : List (List Int)} {l : Nat} : (stE rows l).length ≤ rows.length + 1 := by
  have h1 : (stL rows l rows.length).length ≤ rows.length + 1 := by
    unfold stL
    have := List.length_filter_le (fun x => x != 8589934592) ((List.range rows.length).map fun w => uF rows l w)
    rw [List.length_map, List.length_range] at this
    rw [List.length_cons]; omega
  have h2 : (sortI (stL rows l rows.length)).length = (stL rows l rows.length).length := by unfold sortI; exact (List.mergeSort_perm _ _).length_eq
  have h3 := Lib.compact_length_le (sortI (stL rows l rows.length))
  unfold stE; omega
theorem stE_mem {rows : List (List Int)} {l : Nat} {y : Int} : y ∈ stE rows l ↔ y ∈ statesF rows l := by unfold stE; rw [(comp_sort _).2, sl_mem]
theorem stE_up {rows : List (List Int)} {l : Nat} : (stE rows l).Pairwise (· < ·) := (comp_sort _).1
theorem stE_pos {rows : List (List Int)} {l : Nat} : 0 < (stE rows l).length := List.length_pos_of_mem (stE_mem.2 (st_mem.2 (.inl rfl)))
theorem top_len {rows : List (List Int)} {cl : List Int} {l : Nat} : (topF rows cl l).length = (stE rows l).length := by rw [top_map, List.length_map]
def RootsQ (rows : List (List Int)) (cl : List Int) : Value → HMap → Go.Kn.Loc → Prop := fun v I' L => L = [] ∧ ∃ av c, v = .tuple #[.slice av (rootsL rows cl).length c, .int .i64 (costE rows cl)] ∧ SlN I' av (rootsL rows cl).length c (rootsL rows cl)
end Go.Proofs.YthcffaheamikgaaDoor
end
section
namespace Go.Proofs
open Go.Shelf
def Tryd.lays189_ren : Go.Shelf.Ren := ⟨fun | 189 => 22 | 125 => 47 | 257 => 46 | 128 => 74 | 129 => 75 | 294 => 65 | 295 => 66 | 296 => 67 | 297 => 68 | 298 => 69 | 299 => 70 | 216 => 71 | 300 => 72 | 301 => 73 | 328 => 84 | 329 => 85 | 330 => 86 | 331 => 87 | 332 => 88 | 215 => 89 | 343 => 96 | n => n, fun | 28 => 23 | 3 => 3 | 46 => 106 | 0 => 0 | 51 => 128 | 53 => 130 | 4 => 4 | 183 => 122 | 182 => 121 | 131 => 100 | 5 => 5 | 9 => 9 | 218 => 137 | 222 => 141 | 228 => 146 | 229 => 147 | n => n, fun | n => n⟩
theorem Tryd.lays189 : Go.Proofs.Lays.n189 Tryd.prog Tryd.lays189_ren := {
  mixed := by kernel_rfl
  f125 := Tryd.func47.trans (congrArg some (by kernel_rfl))
  f128 := Tryd.func74.trans (congrArg some (by kernel_rfl))
  f129 := Tryd.func75.trans (congrArg some (by kernel_rfl))
  f189 := Tryd.func22.trans (congrArg some (by kernel_rfl))
  f215 := Tryd.func89.trans (congrArg some (by kernel_rfl))
  f216 := Tryd.func71.trans (congrArg some (by kernel_rfl))
  f257 := Tryd.func46.trans (congrArg some (by kernel_rfl))
  f294 := Tryd.func65.trans (congrArg some (by kernel_rfl))
  f295 := Tryd.func66.trans (congrArg some (by kernel_rfl))
  f296 := Tryd.func67.trans (congrArg some (by kernel_rfl))
  f297 := Tryd.func68.trans (congrArg some (by kernel_rfl))
  f298 := Tryd.func69.trans (congrArg some (by kernel_rfl))
  f299 := Tryd.func70.trans (congrArg some (by kernel_rfl))
  f300 := Tryd.func72.trans (congrArg some (by kernel_rfl))
  f301 := Tryd.func73.trans (congrArg some (by kernel_rfl))
  f328 := Tryd.func84.trans (congrArg some (by kernel_rfl))
  f329 := Tryd.func85.trans (congrArg some (by kernel_rfl))
  f330 := Tryd.func86.trans (congrArg some (by kernel_rfl))
  f331 := Tryd.func87.trans (congrArg some (by kernel_rfl))
  f332 := Tryd.func88.trans (congrArg some (by kernel_rfl))
  f343 := Tryd.func96.trans (congrArg some (by kernel_rfl))
  t0 := Tryd.underlying0
  a0 := Tryd.isAgg0
  z0 := Tryd.sizeOf0
  v0 := Tryd.zeroValue0
  t3 := Tryd.underlying3
  a3 := Tryd.isAgg3
  z3 := Tryd.sizeOf3
  v3 := Tryd.zeroValue3
  t4 := Tryd.underlying4
  a4 := Tryd.isAgg4
  z4 := Tryd.sizeOf4
  v4 := Tryd.zeroValue4
  t5 := Tryd.underlying5
  a5 := Tryd.isAgg5
  z5 := Tryd.sizeOf5
  v5 := Tryd.zeroValue5
  t9 := Tryd.underlying9
  a9 := Tryd.isAgg9
  z9 := Tryd.sizeOf9
  v9 := Tryd.zeroValue9
  t28 := Tryd.underlying23
  a28 := Tryd.isAgg23
  z28 := Tryd.sizeOf23
  v28 := Tryd.zeroValue23
  t46 := Tryd.underlying106
  a46 := Tryd.isAgg106
  z46 := Tryd.sizeOf106
  v46 := Tryd.zeroValue106
  t51 := Tryd.underlying128
  a51 := Tryd.isAgg128
  z51 := Tryd.sizeOf128
  v51 := Tryd.zeroValue128
  t53 := Tryd.underlying130
  a53 := Tryd.isAgg130
  z53 := Tryd.sizeOf130
  v53 := Tryd.zeroValue130
  t131 := Tryd.underlying100
  a131 := Tryd.isAgg100
  z131 := Tryd.sizeOf100
  v131 := Tryd.zeroValue100
  t182 := Tryd.underlying121
  a182 := Tryd.isAgg121
  z182 := Tryd.sizeOf121
  v182 := Tryd.zeroValue121
  t183 := Tryd.underlying122
  a183 := Tryd.isAgg122
  z183 := Tryd.sizeOf122
  v183 := Tryd.zeroValue122
  t218 := Tryd.underlying137
  a218 := Tryd.isAgg137
  z218 := Tryd.sizeOf137
  v218 := Tryd.zeroValue137
  t222 := Tryd.underlying141
  a222 := Tryd.isAgg141
  z222 := Tryd.sizeOf141
  v222 := Tryd.zeroValue141
  t228 := Tryd.underlying146
  a228 := Tryd.isAgg146
  z228 := Tryd.sizeOf146
  v228 := Tryd.zeroValue146
  t229 := Tryd.underlying147
  a229 := Tryd.isAgg147
  z229 := Tryd.sizeOf147
  v229 := Tryd.zeroValue147 }
open Go.Sort Go.RowKit in
theorem Tryd.slices_Sort_int (blk off cap : Nat) (zs : List Int) (w : World) (hH : Holds (Value.int .i64) w blk off zs.toArray) (hblk : blk < w.heap.size) (hsz : zs.length < 4611686018427387904) :
    Calls Tryd.prog 22 #[.slice (some ⟨blk, off, none⟩) zs.length cap] w fun e w' =>
      e = .returned (.tuple #[]) ∧ ∃ n os, w' = grow (putRow (Value.int .i64) (Sort.ahead w n) blk off (zs.mergeSort fun x y => decide (x ≤ y)).toArray) os := Any.slices_Sort_int Tryd.lays189 blk off cap zs w hH hblk hsz
def Tryd.laysNm220_ren : Go.Shelf.Ren := ⟨fun | 20 => 23 | n => n, fun | 22 => 23 | 3 => 3 | 4 => 4 | 0 => 0 | n => n, fun | n => n⟩
theorem Tryd.laysNm220 : Go.Proofs.Lays2.n20 Tryd.prog Tryd.laysNm220_ren := {
  mixed := by kernel_rfl
  f20 := Tryd.func23.trans (congrArg some (by kernel_rfl))
  t0 := Tryd.underlying0
  a0 := Tryd.isAgg0
  z0 := Tryd.sizeOf0
  v0 := Tryd.zeroValue0
  t3 := Tryd.underlying3
  a3 := Tryd.isAgg3
  z3 := Tryd.sizeOf3
  v3 := Tryd.zeroValue3
  t4 := Tryd.underlying4
  a4 := Tryd.isAgg4
  z4 := Tryd.sizeOf4
  v4 := Tryd.zeroValue4
  t22 := Tryd.underlying23
  a22 := Tryd.isAgg23
  z22 := Tryd.sizeOf23
  v22 := Tryd.zeroValue23
  i3 := by kernel_rfl }
open Go.RowKit Go.Lib Go.Sort in
theorem Tryd.slices_Compact_int (blk off cap : Nat) (zs : List Int) (w : World) (hH : Holds (Value.int .i64) w blk off zs.toArray) (hsz : zs.length ≤ 9223372036854775807) (hcap : zs.length ≤ cap) :
    Calls Tryd.prog 23 #[.slice (some ⟨blk, off, none⟩) zs.length cap] w fun e w' => e = .returned (.slice (some ⟨blk, off, none⟩) (Lib.compact zs).length cap) ∧ ∃ q, w' = putRow (Value.int .i64) (Sort.ahead w q) blk off (Lib.compact zs ++ List.replicate (zs.length - (Lib.compact zs).length) 0).toArray := Any.slices_Compact_int Tryd.laysNm220 blk off cap zs w hH hsz hcap
open Go.RowKit Go.Lib Go.Sort in
theorem Tryd.slices_Compact_int_empty (a : Option Addr) (cap : Nat) (w : World) :
    Calls Tryd.prog 23 #[.slice a 0 cap] w fun e w' => e = .returned (.slice a 0 cap) ∧ w' = w := Any.slices_Compact_int_empty Tryd.laysNm220 a cap w
open Go.RowKit Go.Sort in
theorem Tryd.slices_Sort_int_none (p : Option Addr) (cap : Nat) (w : World) :
    Calls Tryd.prog 22 #[.slice p 0 cap] w fun e w' => e = .returned (.tuple #[]) ∧ w' = w := Any.slices_Sort_int_none Tryd.lays189 p cap w
end Go.Proofs
end
section
namespace Go.Proofs.YthcffaheamikgaaDoor
open Go Go.Kn Go.Proofs
theorem elt_22 : ElT Tryd.prog 22 23 1 24 := .of (by kernel_rfl)
theorem fun_11 : Fun Tryd.prog 11 := .of Tryd.func11 (by kernel_rfl) (by kernel_rfl)
theorem fun_22 : Fun Tryd.prog 22 := .of Tryd.func22 (by kernel_rfl) (by kernel_rfl)
theorem fun_23 : Fun Tryd.prog 23 := .of Tryd.func23 (by kernel_rfl) (by kernel_rfl)
theorem szt_23 : SzT Tryd.prog 23 1 := .of (by kernel_rfl)
theorem szt_66 : SzT Tryd.prog 66 1 := .of (by kernel_rfl)
theorem zt_23 : ZeroT Tryd.prog 23 (.slice none 0 0) := .of (by kernel_rfl)
theorem zt_3 : ZeroT Tryd.prog 3 (.int .i64 0) := .of (by kernel_rfl)
theorem zt_66 : ZeroT Tryd.prog 66 .nilFunc := .of (by kernel_rfl)
theorem flat_intI (zs : List Int) : zs.flatMap encI = zs.map (Value.int .i64) := by
 induction zs with
 | nil => rfl
 | cons z zs ih => rw [List.flatMap_cons, ih]; rfl
theorem w_sortF {zs : List Int} {v : Value} {n : Nat} {L : Go.Kn.Loc} (hO : OwnS 3 1 v n (zs.flatMap encI) L) (hn : n ≤ 1000000) (I : HMap) : RetM Tryd.prog 22 [v] I L (fun u I' L' => u = .tuple #[] ∧ I' = I ∧ OwnS 3 1 v n ((sortI zs).flatMap encI) L') := by
 rw [flat_intI] at hO
 rw [flat_intI]
 exact retSort Tryd.slices_Sort_int Tryd.slices_Sort_int_none zs hO hn I
theorem w_compactF {zs : List Int} {v : Value} {n : Nat} {L : Go.Kn.Loc} (hO : OwnS 3 1 v n (zs.flatMap encI) L) (hn : n ≤ 1000000) (I : HMap) : RetM Tryd.prog 23 [v] I L (fun u I' L' => I' = I ∧ OwnS 3 1 u (Lib.compact zs).length ((Lib.compact zs).flatMap encI) L') := by
 rw [flat_intI] at hO
 rw [flat_intI]
 exact retCompact Lib.compact Lib.compact_length_le rfl Tryd.slices_Compact_int Tryd.slices_Compact_int_empty zs hO hn I
theorem w_roots1F {I : HMap} {bst brow bloc bcla bse : Nat} {sv bv av : Option Addr} {ns cs n2 c2 n c : Nat} {St xs : List Int} {rows : List (List Int)} {l : Nat} (hn : n ≤ 100000) (hn2 : n2 ≤ 100000) (hns : ns ≤ 1000) (hl : ∀ r ∈ rows, l < r.length) (hc : chkN rows.length xs = 0) : ∀ (f : Nat) (I : HMap), RtE I 24 bst brow bloc bcla bse sv bv av ns cs n2 c2 n c St xs rows l → ∀ (s : Int), OkS rows.length xs s → s.toNat ≤ f → RetM Tryd.prog 24 ([.int .i64 s] ++ [capP bst, capP brow, capP bloc, capP bcla, capP bse]) I [] (SlRes 1 encI (rcF St (uF rows l) xs f s))
 | 0, _, _, s, hok, hf => by have := hok.1; omega
 | f + 1, I, hE, s, hok, hf => w_roots1 hE hn hn2 hns hl hc f s hok (fun h => by omega) fun I' hI s' hok' hlt => w_roots1F (I := I') hn hn2 hns hl hc f I' (hE.mono hI) s' hok' (by have := hok'.1; have := hok.1; omega)
theorem w_Roots {I : HMap} {av : Option Addr} {n c : Nat} {xs : List Int} (hS : Sl I 1 encI av n c xs) {bv : Option Addr} {n2 c2 : Nat} {rows : List (List Int)} (hVn : SlN I bv n2 c2 rows) (hn2 : n2 ≤ 100000) (hDb : DebOK I) : RetM Tryd.prog 10 [.slice bv n2 c2, .slice av n c] I [] (RootsQ rows xs) := by
 intro g H w hw
 refine enter Tryd.func10 rfl Tryd.ntmps10 rfl hw ?_
 have hIc := HLe.refl I
 have hlV := hVn.len
 subst hlV
 have hVn9 := hVn
 obtain ⟨hs, hV⟩ := hVn9
 have hH := hV.1
 refine X_seq (X_region ?_)
 refine XO_box rfl rfl rfl (fun b_2 => ?_)
 refine XO_box rfl rfl rfl (fun b_3 => ?_)
 refine zA ?_
 refine zA ?_
 refine XO_nil (at_then ?_)
 refine X_seq ?_
 refine X_seq (X_region ?_)
 refine XO_v0 (ev_load rfl sct_22 (fun hg => by exact Cell.there (Cell.here rfl))) rfl rfl rfl ?_
 refine XO_v0 (ev_load rfl sct_23 (fun hg => by exact Cell.here rfl)) rfl rfl rfl ?_
 refine XO_callV0 (cap := []) (vs := [_, _]) rfl rfl fun_11 (w_CostN hS hVn hn2 hDb) rfl rfl ?_
 refine zM ?_
 refine XO_v0 (ev_extract rfl rfl) rfl rfl rfl ?_
 refine XO_v0 (ev_extract rfl rfl) rfl rfl rfl ?_
 refine zA ?_
 refine XO_nil (at_then (X_seq (X_region ?_)))
 refine zM ?_
 refine zC ?_
 refine XO_nil (at_then ?_)
 refine X_cond rfl (fun hc24 => ?_) (fun hc24 => ?_)
 ·
  have hcE : costE rows xs ≠ 0 := by simpa using hc24
  refine X_seq (X_region ?_)
  refine zM ?_
  refine zA ?_
  refine zA ?_
  refine XO_nil (at_then ?_)
  refine X_ret ?_
  refine at_then_r ?_
  first
  | exact at_ret2 rfl rfl rfl (fun w hw => ⟨_, _, [], rfl, hIc, hw.drop, rfl, none, 0, by rw [roots_bad hcE]; rfl, by rw [roots_bad hcE]; exact .none⟩)
 ·
  have hcE : costE rows xs = 0 := by simpa using hc24
  have hr0 : rowsN rows = 0 := by cases Decidable.em (rowsN rows = 0) with
   | inl h => exact h
   | inr h => exact absurd ((cost_1 h).1.symm.trans hcE) h
  have hc0 : chkN rows.length xs = 0 := by have h := hcE; unfold costE at h; rw [if_neg (by omega)] at h; exact h
  obtain ⟨hr1, hr6, hr64, hrr⟩ := rows_ok hr0
  obtain ⟨x0, v0, hx0, hv0, hQ0⟩ := hV.at (k := 0) (by omega)
  have hx0l := hQ0.len
  have hg0 : rows.getD 0 [] = v0 := getD_of hv0
  rw [hg0] at hr64 hrr
  have hxl := (chkN_ok hc0).2.2.1
  have hSl := hS.len
  have hn : n ≤ 100000 := by omega
  have hsh := shl_in (n := (rows.length : Int)) ⟨by omega, by omega⟩
  have hal9 := all_in (n := (rows.length : Int)) ⟨by omega, by omega⟩
  refine X_skip ?_
  refine at_then ?_
  refine X_seq ?_
  refine X_seq ?_
  refine X_freezeAll (fun I1 hI1 hall => ?_)
  have hS := hS.mono hI1
  have hVn := hVn.mono hI1
  have hV := hV.mono hI1
  have hH := hH.mono hI1
  have hDb := hDb.mono hI1
  have hIc := hIc.trans hI1
  have hB2 : Cell I1 [] b_2 0 (.slice bv rows.length c2) := .imm (hall _ _ (by repeat (first | exact List.mem_cons_self .. | apply List.mem_cons_of_mem))) rfl
  have hB3 : Cell I1 [] b_3 0 (.slice av n c) := .imm (hall _ _ (by repeat (first | exact List.mem_cons_self .. | apply List.mem_cons_of_mem))) rfl
  refine X_region ?_
  refine XO_v0 (ev_load rfl sct_22 (fun hg => by exact hB2.any)) rfl rfl rfl ?_
  refine XO_v0 (ev_indexSl rfl rfl slt_22 hH (fun hg => by first | omega | (simp [conj] at hg; omega))) rfl rfl rfl ?_
  refine XO_v0 (ev_load rfl sct_23 (fun hg => by exact Sl.get0 hH hx0 rfl)) rfl rfl rfl ?_
  refine XO_v0 (ev_lenS rfl slt_23) rfl rfl rfl ?_
  refine zM ?_
  refine XO_nil (at_then ?_)
  refine X_block ?_
  refine X_loopT [(2, _), (3, _), (29, _)] (.cons rfl (.cons rfl (.cons rfl .nil))) (fun T L0 mz E I' loc' => ∃ (l : Nat) (v4 : Value) (os : List Hd) (L : Go.Kn.Loc), mz = x0.n - l ∧ E = (4, v4) :: (30, .int .i64 l) :: T ∧ HLe I1 I' ∧ L = loc' ∧ l ≤ x0.n ∧ OwnS 23 1 v4 l (os.flatMap encH) L ∧ RelH I' os ((List.range l).map (rootF rows xs))) _ _ _ _ ⟨0, _, [], [], rfl, rfl, HLe.refl _, rfl, Nat.zero_le _, OwnS.nil, RelH.nil⟩ (.cons rfl (.cons rfl (.cons rfl (.cons rfl (.cons rfl .nil))))) (HLe.refl _) rfl ?_
  rintro mz E J2 loc' ⟨l, v4, os, L, rfl, rfl, hJ, rfl, hl, hO4, hre⟩
  have hS := hS.mono hJ
  have hVn := hVn.mono hJ
  have hV := hV.mono hJ
  have hH := hH.mono hJ
  have hDb := hDb.mono hJ
  have hB2 := hB2.mono hJ
  have hB3 := hB3.mono hJ
  have hIc := hIc.trans hJ
  have hB0 := hJ
  obtain ⟨va4, vc4, rfl⟩ := valn hO4
  refine X_seq (X_region ?_)
  refine zC ?_
  refine XO_nil (at_then ?_)
  refine X_seq ?_
  refine X_cond rfl (fun hc31 => ?_) (fun hc31 => ?_)
  ·
   have hlt_l : l < x0.n := by have h := hc31; simp at h; omega
   have hsl := stE_len (rows := rows) (l := l)
   refine X_skip ?_
   refine at_then ?_
   refine X_seq ?_
   refine X_block ?_
   refine X_seq (X_region ?_)
   refine zM ?_
   refine XO_alloc zt_3 rfl rfl (fun b_6 => ?_)
   refine zS szt_3 ?_
   refine XO_nil (at_then (X_seq (X_region ?_)))
   refine XO_buildSlice (ps := [(0, _)]) (m := [encI (0 : Int)]) elt_23 rfl (.cons rfl (.nil)) rfl (by simp [encH_len, encI_len]) (by decide) (by decide) rfl rfl (fun b_33 => ?_)
   refine XO_alloc zt_23 rfl rfl (fun b_7 => ?_)
   refine zS szt_23 ?_
   refine XO_nil (at_then ?_)
   refine X_seq ?_
   refine X_seq (X_region ?_)
   refine XO_v0 (ev_load rfl sct_22 (fun hg => by exact hB2.any)) rfl rfl rfl ?_
   refine XO_v0 (ev_lenS rfl slt_22) rfl rfl rfl ?_
   refine zM ?_
   refine XO_nil (at_then ?_)
   refine X_block ?_
   refine X_loopT [(2, _), (3, _), (4, _), (6, _), (7, _), (29, _), (30, _), (34, _), (35, _)] (.cons rfl (.cons rfl (.cons rfl (.cons rfl (.cons rfl (.cons rfl (.cons rfl (.cons rfl (.cons rfl .nil))))))))) (fun T L0 mz E I' loc' => ∃ (i : Nat) (v7 : Value) (q7 : Nat) (L7 : Go.Kn.Loc), mz = rows.length - i ∧ E = (36, .int .i64 i) :: T ∧ J2 = I' ∧ (b_7, .cells #[v7] 23 (0, 0)) :: (L7 ++ ((b_6, .cells #[.int .i64 l] 3 (0, 0)) :: L)) = loc' ∧ i ≤ rows.length ∧ OwnS 3 1 v7 q7 ((stL rows l i).flatMap encI) L7 ∧ q7 ≤ i + 1) _ _ _ _ ⟨0, _, 1, [(b_33, _)], rfl, rfl, rfl, rfl, Nat.zero_le _, OwnS.lit rfl (by decide), Nat.le_refl _⟩ (.cons rfl (.cons rfl (.cons rfl (.cons rfl (.cons rfl (.cons rfl (.cons rfl (.cons rfl (.cons rfl (.cons rfl .nil)))))))))) (HLe.refl _) rfl ?_
   rintro mz E I' loc' ⟨i, v7, q7, L7, rfl, rfl, rfl, rfl, hi, hO7, hq7⟩
   obtain ⟨va, vc, rfl⟩ := valn hO7
   refine X_seq (X_region ?_)
   refine zC ?_
   refine XO_nil (at_then ?_)
   refine X_seq ?_
   refine X_cond rfl (fun hc37 => ?_) (fun hc37 => ?_)
   ·
    have hlt_i : i < rows.length := by have h := hc37; simp at h; omega
    obtain ⟨x, v, hx, hv, hQ⟩ := hV.at hlt_i
    have hlv : l < v.length := by rw [(hrr v (List.mem_of_getElem? hv)).1]; omega
    have hu := some_getD (d := 0) rfl hlv
    have hvn := hQ.len
    have hUF : uF rows l i = v.getD l 0 := by unfold uF; rw [getD_of hv]
    refine X_skip ?_
    refine at_then ?_
    refine X_seq ?_
    refine X_block ?_
    refine X_seq (X_region ?_)
    refine XO_v0 (ev_indexSl rfl rfl slt_22 hH (fun hg => by first | omega | (simp [conj] at hg; omega))) rfl rfl rfl ?_
    refine XO_v0 (ev_load rfl sct_23 (fun hg => by exact Sl.get0 hH hx rfl)) rfl rfl rfl ?_
    refine zA ?_
    refine XO_nil (at_then (X_seq (X_region ?_)))
    refine zM ?_
    refine XO_v0 (ev_load rfl sct_3 (fun hg => by (repeat (first | exact Cell.here rfl | apply Cell.there | apply Cell.app)))) rfl rfl rfl ?_
    refine XO_v0 (ev_indexSl rfl rfl slt_23 hQ (fun hg => by first | omega | (simp [conj] at hg; omega))) rfl rfl rfl ?_
    refine XO_v0 (ev_load rfl sct_3 (fun hg => by exact Sl.get0 hQ hu rfl)) rfl rfl rfl ?_
    refine zA ?_
    refine XO_nil (at_then (X_seq (X_region ?_)))
    refine zM ?_
    refine zC ?_
    refine XO_nil (at_then ?_)
    refine X_cond rfl (fun hc45 => ?_) (fun hc45 => ?_)
    ·
     have hne : uF rows l i ≠ 8589934592 := by rw [hUF]; simpa using hc45
     refine X_region ?_
     refine XO_v0 (ev_load rfl sct_23 (fun hg => by exact Cell.here rfl)) rfl rfl rfl ?_
     refine zM ?_
     refine XO_buildSlice (ps := [(0, _)]) (m := [encI (v.getD l 0)]) elt_23 rfl (.cons rfl (.nil)) rfl (by simp [encH_len, encI_len]) (by decide) (by decide) rfl rfl (fun b_48 => ?_)
     refine XO_append (v := _) (ys := [v.getD l 0].flatMap encI) (L := L7) rfl rfl elt_23 hO7 (by repeat (first | exact .cons .here .nil | exact split_all | exact split_app | apply split_cons | apply split_skip)) ⟨rfl, fun _ => rfl, by repeat (first | exact Cells.here | apply Cells.there | apply Cells.app)⟩ (one_I [v.getD l 0]) (by omega) rfl rfl ?_
     intro v9 L9 hO9 _; rw [← List.flatMap_append] at hO9; obtain ⟨va9, vc9, rfl⟩ := valn hO9
     refine zS szt_23 ?_
     refine XO_nil ?_
     refine at_block_n ?_
     refine at_then ?_
     refine X_region ?_
     refine zB ?_
     refine zM ?_
     refine XO_nil ?_
     first
     | exact at_metP _ _ (L9 ++ ((b_7, _) :: ((b_6, _) :: L))) ⟨rows.length - (i + 1), by omega, i + 1, _, q7 + 1, L9, rfl, rfl, rfl, rfl, by omega, by rw [sl_yes hne, hUF]; exact hO9, by omega⟩ (.cons rfl (.cons rfl (.cons rfl (.cons rfl (.cons rfl (.cons rfl (.cons rfl (.cons rfl (.cons rfl (.cons rfl .nil)))))))))) List.perm_middle.symm (by repeat (first | exact .refl | exact subL_left | refine subL_app ?_ | refine .drop ?_ | refine subL_add ?_))
    ·
     have heq : uF rows l i = 8589934592 := by rw [hUF]; simpa using hc45
     refine X_skip ?_
     refine at_block_n ?_
     refine at_then ?_
     refine X_region ?_
     refine zB ?_
     refine zM ?_
     refine XO_nil ?_
     first
     | exact at_met2 _ _ ⟨rows.length - (i + 1), by omega, i + 1, _, q7, L7, rfl, rfl, rfl, rfl, by omega, by rw [sl_no heq]; exact hO7, by omega⟩ (.cons rfl (.cons rfl (.cons rfl (.cons rfl (.cons rfl (.cons rfl (.cons rfl (.cons rfl (.cons rfl (.cons rfl .nil)))))))))) (by repeat (first | exact .refl | exact subL_left | refine subL_app ?_ | refine .drop ?_ | refine subL_add ?_))
   ·
    have hge_i : rows.length ≤ i := by have h := hc37; simp at h; omega
    rw [show i = rows.length by omega] at hO7
    refine X_exit ?_
    refine at_then_e ?_
    refine at_then_e ?_
    refine at_block_hit ?_
    refine at_then ?_
    refine X_seq (X_region ?_)
    refine XO_v0 (ev_load rfl sct_23 (fun hg => by exact Cell.here rfl)) rfl rfl rfl ?_
    refine XO_callM (cap := []) (vs := [_]) rfl rfl fun_22 (by repeat (first | exact .cons .here .nil | exact split_all | exact split_app | apply split_cons | apply split_skip)) (w_sortF hO7 (by omega) _) rfl rfl ?_
    rintro vv4 I4 L4 hI4 ⟨rfl, rfl, hO5⟩
    have hS := hS.mono hI4
    have hVn := hVn.mono hI4
    have hV := hV.mono hI4
    have hH := hH.mono hI4
    have hDb := hDb.mono hI4
    have hB2 := hB2.mono hI4
    have hB3 := hB3.mono hI4
    have hre := hre.mono hI4
    have hIc := hIc.trans hI4
    have hB0 := hB0.trans hI4
    refine XO_nil (at_then (X_seq (X_region ?_)))
    refine XO_v0 (ev_load rfl sct_23 (fun hg => by (repeat (first | exact Cell.here rfl | apply Cell.there | apply Cell.app)))) rfl rfl rfl ?_
    refine XO_callM (cap := []) (vs := [_]) rfl rfl fun_23 (by repeat (first | exact .cons .here .nil | exact split_all | exact split_app | apply split_cons | apply split_skip)) (w_compactF hO5 (by omega) _) rfl rfl ?_
    rintro vv5 I5 L5 hI5 ⟨rfl, hO6⟩
    have hS := hS.mono hI5
    have hVn := hVn.mono hI5
    have hV := hV.mono hI5
    have hH := hH.mono hI5
    have hDb := hDb.mono hI5
    have hB2 := hB2.mono hI5
    have hB3 := hB3.mono hI5
    have hre := hre.mono hI5
    have hIc := hIc.trans hI5
    have hB0 := hB0.trans hI5
    have hO6 : OwnS 3 1 _ (stE rows l).length ((stE rows l).flatMap encI) _ := hO6
    obtain ⟨va6, vc6, rfl⟩ := valn hO6
    refine zS szt_23 ?_
    refine XO_nil (at_then (X_seq (X_region ?_)))
    refine XO_alloc zt_66 rfl rfl (fun b_11 => ?_)
    refine XO_nil (at_then (X_seq (X_region ?_)))
    refine XO_v0 (ev_makeFunc (us := []) (vs := [_, _, _, _, _]) rfl rfl) rfl rfl rfl ?_
    refine zS szt_66 ?_
    refine XO_nil (at_then ?_)
    refine X_seq ?_
    refine X_freezeO hO6 encI_len (by decide) (by repeat (first | exact .cons .here .nil | exact split_all | exact split_app | apply split_cons | apply split_skip)) (fun I6 hI6 af6 cf6 ef6 hT9 => ?_)
    cases ef6
    have hS := hS.mono hI6
    have hVn := hVn.mono hI6
    have hV := hV.mono hI6
    have hH := hH.mono hI6
    have hDb := hDb.mono hI6
    have hB2 := hB2.mono hI6
    have hB3 := hB3.mono hI6
    have hre := hre.mono hI6
    have hIc := hIc.trans hI6
    have hB0 := hB0.trans hI6
    refine X_freeze (b := b_11) (by repeat (first | exact Take.here | apply Take.there)) (fun I7 hI7 hb7 => ?_)
    have hS := hS.mono hI7
    have hVn := hVn.mono hI7
    have hV := hV.mono hI7
    have hH := hH.mono hI7
    have hDb := hDb.mono hI7
    have hB2 := hB2.mono hI7
    have hB3 := hB3.mono hI7
    have hre := hre.mono hI7
    have hT9 := hT9.mono hI7
    have hIc := hIc.trans hI7
    have hB0 := hB0.trans hI7
    have hC11 : Cell I7 [] b_11 0 (.func (.func 24) #[] #[capP b_7, capP b_2, capP b_6, capP b_3, capP b_11]) := .imm hb7 rfl
    refine X_freeze (b := b_7) (by repeat (first | exact Take.here | apply Take.there)) (fun I8 hI8 hb8 => ?_)
    have hS := hS.mono hI8
    have hVn := hVn.mono hI8
    have hV := hV.mono hI8
    have hH := hH.mono hI8
    have hDb := hDb.mono hI8
    have hB2 := hB2.mono hI8
    have hB3 := hB3.mono hI8
    have hre := hre.mono hI8
    have hT9 := hT9.mono hI8
    have hC11 := hC11.mono hI8
    have hIc := hIc.trans hI8
    have hB0 := hB0.trans hI8
    have hC7 : Cell I8 [] b_7 0 (.slice va6 (stE rows l).length vc6) := .imm hb8 rfl
    refine X_freeze (b := b_6) (by repeat (first | exact Take.here | apply Take.there)) (fun I9 hI9 hb9 => ?_)
    have hS := hS.mono hI9
    have hVn := hVn.mono hI9
    have hV := hV.mono hI9
    have hH := hH.mono hI9
    have hDb := hDb.mono hI9
    have hB2 := hB2.mono hI9
    have hB3 := hB3.mono hI9
    have hre := hre.mono hI9
    have hT9 := hT9.mono hI9
    have hC11 := hC11.mono hI9
    have hC7 := hC7.mono hI9
    have hIc := hIc.trans hI9
    have hB0 := hB0.trans hI9
    have hC6 : Cell I9 [] b_6 0 (.int .i64 l) := .imm hb9 rfl
    have hRE : RtE I9 24 b_7 b_2 b_6 b_3 b_11 va6 bv av (stE rows l).length vc6 rows.length c2 n c (stE rows l) xs rows l := ⟨hC7, hB2, hC6, hB3, hC11, hT9, hS, hVn⟩
    have hD := HLe.refl I9
    refine X_drawC mixed ?_
    refine XD_take 0 rfl (ev_load rfl sct_66 (fun hg => by exact hC11.any)) (.none rfl) rfl rfl rfl (by kernel_rfl) (by kernel_rfl) (by kernel_rfl) noP_ok hD (by repeat (first | exact .refl | exact subL_nil | refine .keep ?_ | refine .drop ?_ | refine subL_add ?_)) ?_
    refine XD_take 1 rfl (ev_load rfl sct_22 (fun hg => by exact hB2.any)) (.none rfl) rfl rfl rfl (by kernel_rfl) (by kernel_rfl) (by kernel_rfl) noP_ok hD (by repeat (first | exact .refl | exact subL_nil | refine .keep ?_ | refine .drop ?_ | refine subL_add ?_)) ?_
    refine XD_take 2 rfl (ev_lenS rfl slt_22) (.none rfl) rfl rfl rfl (by kernel_rfl) (by kernel_rfl) (by kernel_rfl) noP_ok hD (by repeat (first | exact .refl | exact subL_nil | refine .keep ?_ | refine .drop ?_ | refine subL_add ?_)) ?_
    refine XD_take 3 rfl (ev_shl rfl rfl (fun hg => by omega)) (.none rfl) rfl rfl rfl (by kernel_rfl) (by kernel_rfl) (by kernel_rfl) noP_ok hD (by repeat (first | exact .refl | exact subL_nil | refine .keep ?_ | refine .drop ?_ | refine subL_add ?_)) ?_
    refine XD_take 4 rfl (ev_arB rfl rfl rfl (fun hg => by first | omega | (simp [conj] at hg; omega))) (.none rfl) rfl rfl rfl (by kernel_rfl) (by kernel_rfl) (by kernel_rfl) noP_ok hD (by repeat (first | exact .refl | exact subL_nil | refine .keep ?_ | refine .drop ?_ | refine subL_add ?_)) ?_
    refine XD_one 5 rfl (by kernel_rfl) ?_
    refine XO_callM (cap := [capP b_7, capP b_2, capP b_6, capP b_3, capP b_11]) (vs := [_]) rfl rfl fun_24 (by first | exact .nil | exact split_nil | exact split_right (L := [])) (w_roots1F (I := I9) hn hn2 (by omega) (fun r hr => by rw [(hrr r hr).1]; omega) hc0 64 I9 hRE (allS rows.length) (ok_all hc0) (by omega)) rfl rfl ?_
    rintro vv10 I10 L10 hI10 ⟨rfl, aA, cA, rfl, hAll⟩
    have hS := hS.mono hI10
    have hVn := hVn.mono hI10
    have hV := hV.mono hI10
    have hH := hH.mono hI10
    have hDb := hDb.mono hI10
    have hB2 := hB2.mono hI10
    have hB3 := hB3.mono hI10
    have hre := hre.mono hI10
    have hT9 := hT9.mono hI10
    have hC11 := hC11.mono hI10
    have hC7 := hC7.mono hI10
    have hC6 := hC6.mono hI10
    have hRE := hRE.mono hI10
    have hIc := hIc.trans hI10
    have hB0 := hB0.trans hI10
    have hD := hD.trans hI10
    have htl : (rcF (stE rows l) (uF rows l) xs 64 (allS rows.length)).length = (stE rows l).length := top_len
    have hsp := stE_pos (rows := rows) (l := l)
    have hMin := w_min (xs := topF rows xs l) hAll (by omega) (by omega)
    refine XO_nil ?_
    refine zD hD ?_
    refine XD_take 6 rfl (ev_assign rfl) (.none rfl) rfl rfl rfl (by kernel_rfl) (by kernel_rfl) (by kernel_rfl) noP_ok hD (by repeat (first | exact .refl | exact subL_nil | refine .keep ?_ | refine .drop ?_ | refine subL_add ?_)) ?_
    refine XD_done (by kernel_rfl) ?_
    refine at_noP ?_
    refine at_then ?_
    refine X_seq (X_region ?_)
    refine zM ?_
    refine XO_callV0 (cap := []) (vs := [_]) rfl rfl fun_27 (hMin) rfl rfl ?_
    refine zA ?_
    refine XO_nil (at_then (X_seq (X_region ?_)))
    refine zA ?_
    refine XO_nil (at_then ?_)
    refine X_seq ?_
    refine X_seq (X_region ?_)
    refine XO_v0 (ev_load rfl sct_23 (fun hg => by exact hC7.any)) rfl rfl rfl ?_
    refine XO_v0 (ev_lenS rfl slt_23) rfl rfl rfl ?_
    refine zM ?_
    refine XO_nil (at_then ?_)
    refine X_block ?_
    refine X_loopT [(2, _), (3, _), (4, _), (12, _), (13, _), (29, _), (30, _), (64, _), (65, _)] (.cons rfl (.cons rfl (.cons rfl (.cons rfl (.cons rfl (.cons rfl (.cons rfl (.cons rfl (.cons rfl .nil))))))))) (fun T L0 mz E I' loc' => ∃ (i : Nat) (v14 : Value) (q14 : Nat) (L14 : Go.Kn.Loc), mz = (stE rows l).length - i ∧ E = (14, v14) :: (66, .int .i64 i) :: T ∧ I10 = I' ∧ L14 ++ L = loc' ∧ i ≤ (stE rows l).length ∧ OwnS 3 1 v14 q14 ((((stE rows l).take i).filter fun x => topV rows xs l x == leastF (topF rows xs l)).flatMap encI) L14 ∧ q14 ≤ i) _ _ _ _ ⟨0, _, 0, [], rfl, rfl, rfl, rfl, Nat.zero_le _, OwnS.nil, Nat.le_refl _⟩ (.cons rfl (.cons rfl (.cons rfl (.cons rfl (.cons rfl (.cons rfl (.cons rfl (.cons rfl (.cons rfl (.cons rfl (.cons rfl .nil))))))))))) (HLe.refl _) rfl ?_
    rintro mz E I' loc' ⟨i, v14, q14, L14, rfl, rfl, rfl, rfl, hi, hO14, hq14⟩
    refine X_seq (X_region ?_)
    refine zC ?_
    refine XO_nil (at_then ?_)
    refine X_seq ?_
    refine X_cond rfl (fun hc67 => ?_) (fun hc67 => ?_)
    ·
     have hlt_i : i < (stE rows l).length := by have h := hc67; simp at h; omega
     obtain ⟨y, hst⟩ := hT9.at hlt_i
     have hax : (topF rows xs l)[i]? = some (topV rows xs l y) := by rw [top_map, List.getElem?_map, hst]; rfl
     refine X_skip ?_
     refine at_then ?_
     refine X_seq ?_
     refine X_block ?_
     refine X_seq (X_region ?_)
     refine zM ?_
     refine XO_v0 (ev_indexSl rfl rfl slt_23 hT9 (fun hg => by first | omega | (simp [conj] at hg; omega))) rfl rfl rfl ?_
     refine XO_v0 (ev_load rfl sct_3 (fun hg => by exact Sl.get0 hT9 hst rfl)) rfl rfl rfl ?_
     refine zA ?_
     refine zA ?_
     refine XO_nil (at_then (X_seq (X_region ?_)))
     refine zM ?_
     refine zM ?_
     refine XO_v0 (ev_indexSl rfl rfl slt_23 hAll (fun hg => by first | omega | (simp [conj] at hg; omega))) rfl rfl rfl ?_
     refine XO_v0 (ev_load rfl sct_3 (fun hg => by exact Sl.get0 hAll hax rfl)) rfl rfl rfl ?_
     refine zM ?_
     refine zC ?_
     refine XO_nil (at_then ?_)
     refine X_cond rfl (fun hc76 => ?_) (fun hc76 => ?_)
     ·
      have hbf : (topV rows xs l y == leastF (topF rows xs l)) = true := hc76
      refine X_region ?_
      refine zM ?_
      refine zM ?_
      refine XO_buildSlice (ps := [(0, _)]) (m := [encI y]) elt_23 rfl (.cons rfl (.nil)) rfl (by simp [encH_len, encI_len]) (by decide) (by decide) rfl rfl (fun b_79 => ?_)
      refine XO_append (v := _) (ys := [y].flatMap encI) (L := L14) rfl rfl elt_23 hO14 (by repeat (first | exact .cons .here .nil | exact split_all | exact split_app | apply split_cons | apply split_skip)) ⟨rfl, fun _ => rfl, by repeat (first | exact Cells.here | apply Cells.there | apply Cells.app)⟩ (one_I [y]) (by omega) rfl rfl ?_
      intro v9 L9 hO9 _; rw [← List.flatMap_append] at hO9
      refine zA ?_
      refine XO_nil ?_
      refine at_block_n ?_
      refine at_then ?_
      refine X_region ?_
      refine zB ?_
      refine zM ?_
      refine XO_nil ?_
      first
      | exact at_met2 _ _ ⟨(stE rows l).length - (i + 1), by omega, i + 1, _, _, _, rfl, rfl, rfl, rfl, by omega, by rw [filt_yes hst hbf]; exact hO9, by omega⟩ (.cons rfl (.cons rfl (.cons rfl (.cons rfl (.cons rfl (.cons rfl (.cons rfl (.cons rfl (.cons rfl (.cons rfl (.cons rfl .nil))))))))))) (by repeat (first | exact .refl | exact subL_left | refine subL_app ?_ | refine .drop ?_ | refine subL_add ?_))
     ·
      have hbf : (topV rows xs l y == leastF (topF rows xs l)) = false := hc76
      refine X_skip ?_
      refine at_block_n ?_
      refine at_then ?_
      refine X_region ?_
      refine zB ?_
      refine zM ?_
      refine XO_nil ?_
      first
      | exact at_met2 _ _ ⟨(stE rows l).length - (i + 1), by omega, i + 1, _, _, _, rfl, rfl, rfl, rfl, by omega, by rw [filt_no hst hbf]; exact hO14, by omega⟩ (.cons rfl (.cons rfl (.cons rfl (.cons rfl (.cons rfl (.cons rfl (.cons rfl (.cons rfl (.cons rfl (.cons rfl (.cons rfl .nil))))))))))) (by repeat (first | exact .refl | exact subL_left | refine subL_app ?_ | refine .drop ?_ | refine subL_add ?_))
    ·
     have hge_i : (stE rows l).length ≤ i := by have h := hc67; simp at h; omega
     rw [List.take_of_length_le hge_i] at hO14
     obtain ⟨va14, vc14, rfl⟩ := valn hO14
     have hrf : (stE rows l).filter (fun x => topV rows xs l x == leastF (topF rows xs l)) = rootF rows xs l := rfl
     have hq9 : q14 = (rootF rows xs l).length := by have h1 := hO14.1; rw [flat_len encI_len, hrf] at h1; omega
     subst hq9
     refine X_exit ?_
     refine at_then_e ?_
     refine at_then_e ?_
     refine at_block_hit ?_
     refine at_then ?_
     refine X_freezeO hO14 encI_len (by decide) (by repeat (first | exact .cons .here .nil | exact split_all | exact split_app | apply split_cons | apply split_skip)) (fun I12 hI12 af12 cf12 ef12 hR14 => ?_)
     cases ef12
     have hS := hS.mono hI12
     have hVn := hVn.mono hI12
     have hV := hV.mono hI12
     have hH := hH.mono hI12
     have hDb := hDb.mono hI12
     have hB2 := hB2.mono hI12
     have hB3 := hB3.mono hI12
     have hre := hre.mono hI12
     have hT9 := hT9.mono hI12
     have hC11 := hC11.mono hI12
     have hC7 := hC7.mono hI12
     have hC6 := hC6.mono hI12
     have hRE := hRE.mono hI12
     have hAll := hAll.mono hI12
     have hIc := hIc.trans hI12
     have hB0 := hB0.trans hI12
     refine X_region ?_
     refine zM ?_
     refine zM ?_
     refine XO_buildSlice (ps := [(0, _)]) (m := [encH ⟨va14, (rootF rows xs l).length, vc14⟩]) elt_22 rfl (.cons rfl (.nil)) rfl (by simp [encH_len, encI_len]) (by decide) (by decide) rfl rfl (fun b_84 => ?_)
     refine XO_append (v := _) (ys := [(⟨va14, (rootF rows xs l).length, vc14⟩ : Hd)].flatMap encH) (L := L) rfl rfl elt_22 hO4 (by repeat (first | exact .cons .here .nil | exact split_all | exact split_app | apply split_cons | apply split_skip)) ⟨rfl, fun _ => rfl, by repeat (first | exact Cells.here | apply Cells.there | apply Cells.app)⟩ (one_H _) (by omega) rfl rfl ?_
     intro v8 L8 hO8 _; rw [← List.flatMap_append] at hO8
     refine zA ?_
     refine XO_nil ?_
     refine at_block_n ?_
     refine at_then ?_
     refine X_region ?_
     refine zB ?_
     refine zM ?_
     refine XO_nil ?_
     exact at_met2 _ _ ⟨x0.n - (l + 1), by omega, l + 1, _, _, _, rfl, rfl, hB0, rfl, by omega, hO8, by rw [range_map]; exact hre.snoc (hd := ⟨va14, (rootF rows xs l).length, vc14⟩) (by rw [← hrf]; exact hR14)⟩ (.cons rfl (.cons rfl (.cons rfl (.cons rfl (.cons rfl .nil))))) (by repeat (first | exact .refl | exact subL_left | refine subL_app ?_ | refine .drop ?_ | refine subL_add ?_))
  ·
   have hge_l : l = x0.n := by have h := hc31; simp at h; omega
   refine X_exit ?_
   refine at_then_e ?_
   refine at_then_e ?_
   refine at_block_hit ?_
   refine at_then ?_
   refine X_seq (X_region ?_)
   refine zM ?_
   refine zA ?_
   refine zA ?_
   refine XO_nil (at_then ?_)
   refine X_ret ?_
   first
   | exact at_ret2 rfl rfl rfl (fun w hw => by obtain ⟨I9, av9, c9, h1', h2', e9, h4'⟩ := OwnS.freeze (R := []) hO4 encH_len (by decide) (by rw [List.append_nil]; exact hw); cases e9; exact ⟨_, I9, [], rfl, hIc.trans h1', h2', rfl, va4, vc4, by rw [roots_ok hcE, List.length_map, List.length_range, hg0, hx0l, hcE, ← hge_l], by rw [roots_ok hcE, List.length_map, List.length_range, hg0, hx0l, ← hge_l]; exact ⟨os, h4', hre.mono h1'⟩⟩)
end Go.Proofs.YthcffaheamikgaaDoor
end
section
namespace Go.Proofs.YthcffaheamikgaaDoor
open Go Go.Kn Go.Proofs
/-- Two numbers that agree where one of them is below the lesser cap. -/
def Low (a b : Int) : Prop := a < 1048576 ∨ b < 1048576 → a = b
def blN (S : List Int) (f : Int → Int) (x : Int) : Int := (S.map fun y => stepF x y + f y).foldl minI 1073741824
theorem blN_le {S : List Int} {f : Int → Int} {x y : Int} (h : y ∈ S) : blN S f x ≤ stepF x y + f y := (min_fold _ _).1 _ (List.mem_map.2 ⟨y, h, rfl⟩)
theorem blN_at {S : List Int} {f : Int → Int} {x : Int} : blN S f x = 1073741824 ∨ ∃ y ∈ S, blN S f x = stepF x y + f y := by
  rcases (min_fold (S.map fun y => stepF x y + f y) 1073741824).2.2 with e | e
  · exact .inl e
  · obtain ⟨y, hy, e2⟩ := List.mem_map.1 e
    exact .inr ⟨y, hy, e2.symm⟩
theorem bl_low {S : List Int} {f f' : Int → Int} {x : Int} (h : ∀ y ∈ S, Low (f y) (f' y)) : Low (bl S f x) (blN S f' x) := by
  intro hl
  have key1 : bl S f x < 1048576 → blN S f' x ≤ bl S f x := fun h1 => by
    rcases bl_at (S := S) (f := f) (x := x) with e | ⟨y, hy, e⟩
    · omega
    · have s := (step_in x y).1
      have := h y hy (.inl (by omega))
      have := blN_le (f := f') (x := x) hy
      omega
  have key2 : blN S f' x < 1048576 → bl S f x ≤ blN S f' x := fun h1 => by
    rcases blN_at (S := S) (f := f') (x := x) with e | ⟨y, hy, e⟩
    · omega
    · have s := (step_in x y).1
      have := h y hy (.inr (by omega))
      have := bl_le (f := f) (x := x) hy
      omega
  rcases hl with hl | hl
  · have a := key1 hl
    have b := key2 (by omega)
    omega
  · have a := key2 hl
    have b := key1 (by omega)
    omega
def cN (S : List Int) (u : Nat → Int) : Tr → Int → Int
  | .leaf w, x => leafN (u w) x
  | .node a b, x => blN S (cN S u a) x + blN S (cN S u b) x
theorem blN_nn {S : List Int} {f : Int → Int} {x : Int} (h : ∀ y ∈ S, 0 ≤ f y) : 0 ≤ blN S f x := by
  rcases blN_at (S := S) (f := f) (x := x) with e | ⟨y, hy, e⟩
  · omega
  · have := h y hy
    have := (step_in x y).1
    omega
theorem cN_nn {S : List Int} {u : Nat → Int} : ∀ (T : Tr) (x : Int), 0 ≤ cN S u T x
  | .leaf w, x => by unfold cN leafN; split <;> omega
  | .node a b, x => by
    unfold cN
    have h1 := blN_nn (x := x) fun y (_ : y ∈ S) => cN_nn (S := S) (u := u) a y
    have h2 := blN_nn (x := x) fun y (_ : y ∈ S) => cN_nn (S := S) (u := u) b y
    omega
theorem c_low {S : List Int} {u : Nat → Int} : ∀ (T : Tr) (x : Int), Low (cT S u T x) (cN S u T x)
  | .leaf w, x => by
    intro h
    unfold cT cN leafG leafN at *
    by_cases e1 : u w = 8589934592
    · simp [e1]
    · by_cases e2 : u w = x
      · simp [e2]
      · simp [e1, e2] at h
  | .node a b, x => by
    intro h
    have la := bl_low (S := S) (x := x) fun y _ => c_low (S := S) (u := u) a y
    have lb := bl_low (S := S) (x := x) fun y _ => c_low (S := S) (u := u) b y
    have n1 := bl_nn (x := x) fun y (_ : y ∈ S) => cT_nn (S := S) (u := u) a y
    have n2 := bl_nn (x := x) fun y (_ : y ∈ S) => cT_nn (S := S) (u := u) b y
    have n3 := blN_nn (x := x) fun y (_ : y ∈ S) => cN_nn (S := S) (u := u) a y
    have n4 := blN_nn (x := x) fun y (_ : y ∈ S) => cN_nn (S := S) (u := u) b y
    unfold cT cN at h ⊢
    rcases h with h | h
    · rw [la (.inl (by omega)), lb (.inl (by omega))]
    · rw [la (.inr (by omega)), lb (.inr (by omega))]
theorem below_blN {S : List Int} {f : Int → Int} {x : Int} : belowN S (S.map f) x = blN S f x := by
  unfold belowN minN blN
  have : ∀ k, k ≤ S.length → (List.range k).foldl (fun b j => minI b (stepF x (S.getD j 0) + (S.map f).getD j 0)) 1073741824 = ((S.take k).map fun y => stepF x y + f y).foldl minI 1073741824 := by
    intro k
    induction k with
    | zero => intro _; simp
    | succ k ih =>
      intro hk
      have hx : S[k]? = some (S[k]'(by omega)) := List.getElem?_eq_getElem _
      have hm : (S.map f)[k]? = some (f (S[k]'(by omega))) := by rw [List.getElem?_map, hx]; rfl
      rw [List.range_succ, List.foldl_append, ih (by omega), map_next hx, List.foldl_append, List.foldl_cons, List.foldl_nil, List.foldl_cons, List.foldl_nil, getD_of hx, getD_of hm]
  have h := this S.length (Nat.le_refl _)
  rw [List.take_length] at h
  exact h
theorem rc_tree {S : List Int} {u : Nat → Int} {cl : List Int} {n : Nat} (hc : chkN n cl = 0) : ∀ (f : Nat) (s : Int), s.toNat ≤ f → OkS n cl s → rcF S u cl f s = S.map (cN S u (treeT cl f s))
  | 0, s, hf, h => by have := h.1; omega
  | f + 1, s, hf, h => by
    have hle := ok_le hc h
    cases h1 : singF s with
    | true => rw [rc_1 h1, treeT_1 h1]; rfl
    | false =>
      obtain ⟨hin, o1, o2, o3, o4, o5, _⟩ := first_part hc h h1
      rw [rc_2 h1, treeT_2 h1, rc_tree hc f _ (by omega) o1, rc_tree hc f _ (by omega) o2]
      refine List.map_congr_left fun x _ => ?_
      unfold totN
      rw [below_blN, below_blN]; rfl
end Go.Proofs.YthcffaheamikgaaDoor
end
section
namespace Go.Proofs.YthcffaheamikgaaDoor
open Go Go.Kn Go.Proofs
theorem cT_stE {rows : List (List Int)} {l : Nat} {u : Nat → Int} (T : Tr) (x : Int) : cT (stE rows l) u T x = cT (statesF rows l) u T x := cT_congr (fun _ => stE_mem) T x fun _ _ => rfl
theorem top_cN {rows : List (List Int)} {cl : List Int} {l : Nat} (hc : chkN rows.length cl = 0) {x : Int} (hx : x ∈ stE rows l) : topV rows cl l x = cN (stE rows l) (uF rows l) (treeT cl 64 (allS rows.length)) x := by
  obtain ⟨n1, n6, _⟩ := chkN_ok hc
  have hal := all_in (n := (rows.length : Int)) ⟨n1, n6⟩
  have h := top_map (rows := rows) (cl := cl) (l := l)
  unfold topF at h
  rw [rc_tree hc 64 _ (by omega) (ok_all hc)] at h
  exact (List.map_inj_left.1 h x hx).symm
theorem root_iff {rows : List (List Int)} {cl : List Int} {l : Nat} (hr : rowsN rows = 0) (hc : chkN rows.length cl = 0) {x : Int} : x ∈ rootF rows cl l ↔ x ∈ statesF rows l ∧ cT (statesF rows l) (uF rows l) (treeT cl 64 (allS rows.length)) x = mn (statesF rows l) (cT (statesF rows l) (uF rows l) (treeT cl 64 (allS rows.length))) := by
  obtain ⟨n1, n6, _⟩ := rows_ok hr
  have hal := all_in (n := (rows.length : Int)) ⟨by omega, by omega⟩
  obtain ⟨t1, _, _⟩ := treeT_ok hc 64 (allS rows.length) (by omega) (ok_all hc)
  have ht : topF rows cl l = (stE rows l).map (cN (stE rows l) (uF rows l) (treeT cl 64 (allS rows.length))) := rc_tree hc 64 _ (by omega) (ok_all hc)
  have htop := fun (x : Int) (hx : x ∈ stE rows l) => top_cN (cl := cl) hc hx
  generalize treeT cl 64 (allS rows.length) = T at t1 ht htop
  have h0 : (0 : Int) ∈ statesF rows l := st_mem.2 (.inl rfl)
  obtain ⟨_, _, m4⟩ := giv_mn (u := uF rows l) n6 h0 t1 fun w hw => uF_in (rows := rows) (l := l) hw
  have hne : statesF rows l ≠ [] := List.ne_nil_of_mem h0
  have hne' : stE rows l ≠ [] := List.ne_nil_of_mem (stE_mem.2 h0)
  have low := fun x => c_low (S := stE rows l) (u := uF rows l) T x
  have e := fun x => cT_stE (rows := rows) (l := l) (u := uF rows l) T x
  have hb : leastF (topF rows cl l) = mn (statesF rows l) (cT (statesF rows l) (uF rows l) T) := by
    rw [ht]
    show mn (stE rows l) (cN (stE rows l) (uF rows l) T) = _
    obtain ⟨y, hy, ey⟩ := mn_at (f := cT (statesF rows l) (uF rows l) T) hne
    obtain ⟨z, hz, ez⟩ := mn_at (f := cN (stE rows l) (uF rows l) T) hne'
    have a1 := low y (.inl (by rw [e]; omega))
    have a2 := mn_le (f := cN (stE rows l) (uF rows l) T) (stE_mem.2 hy)
    rw [← a1, e, ← ey] at a2
    have b1 := low z (.inr (by omega))
    have b2 := mn_le (f := cT (statesF rows l) (uF rows l) T) (stE_mem.1 hz)
    rw [← e, b1, ← ez] at b2
    omega
  unfold rootF
  rw [List.mem_filter, beq_iff_eq, hb, stE_mem]
  constructor
  · rintro ⟨h1, h2⟩
    refine ⟨h1, ?_⟩
    rw [htop x (stE_mem.2 h1)] at h2
    rw [← e, low x (.inr (by omega)), h2]
  · rintro ⟨h1, h2⟩
    refine ⟨h1, ?_⟩
    rw [htop x (stE_mem.2 h1), ← low x (.inl (by rw [e]; omega)), e, h2]
theorem root_up {rows : List (List Int)} {cl : List Int} {l : Nat} : (rootF rows cl l).Pairwise (· < ·) := stE_up.filter _
end Go.Proofs.YthcffaheamikgaaDoor
end
section
namespace Go.Proofs.YthcffaheamikgaaDoor
open Go Go.Kn Go.Proofs
theorem slt_38 : SlT Tryd.prog 38 57 3 := .of (by kernel_rfl)
end Go.Proofs.YthcffaheamikgaaDoor
end
section
namespace Go.Proofs.YthcffaheamikgaaDoor
open Go Go.Kn Go.Proofs
structure Dg where
  n : Int
  lo : Int
  hi : Int
  b : Int
def encD (d : Dg) : List Value := [.int .i64 d.n, .int .i64 d.lo, .int .i64 d.hi, .int .i64 d.b]
theorem encD_len (d : Dg) : (encD d).length = 4 := rfl
def badD (d : Dg) : Bool := decide (d.n < d.lo) || decide (d.n > d.hi)
def putD (c : Int) (d : Dg) : Int := orI (IntKind.i64.wrap (c * 2 ^ (min d.b.toNat IntKind.i64.bits))) d.n
def packG (c : Int) : List Dg → Option Int
  | [] => some c
  | d :: ds => if badD d = true then none else packG (putD c d) ds
theorem pack_bad {c : Int} {ds : List Dg} {k : Nat} {d : Dg} (h : ds[k]? = some d) (hb : badD d = true) : packG c (ds.drop k) = none := by
  rw [drop_cons h]; unfold packG; rw [if_pos hb]
theorem pack_step {c : Int} {ds : List Dg} {k : Nat} {d : Dg} (h : ds[k]? = some d) (hb : badD d = false) : packG c (ds.drop k) = packG (putD c d) (ds.drop (k + 1)) := by
  rw [drop_cons h]
  show (if badD d = true then none else packG (putD c d) (ds.drop (k + 1))) = _
  rw [if_neg (by rw [hb]; decide)]
theorem pack_end {c : Int} {ds : List Dg} {k : Nat} (h : ds.length ≤ k) : packG c (ds.drop k) = some c := by rw [List.drop_eq_nil_of_le h]; rfl
end Go.Proofs.YthcffaheamikgaaDoor
end
section
namespace Go.Proofs.YthcffaheamikgaaDoor
open Go Go.Kn Go.Proofs
theorem agt_103 : AgT Tryd.prog 103 4 := .of (by kernel_rfl)
theorem fld_103_0 : FieldAt Tryd.prog 103 0 0 := .of (by kernel_rfl)
theorem fld_103_1 : FieldAt Tryd.prog 103 1 1 := .of (by kernel_rfl)
theorem fld_103_2 : FieldAt Tryd.prog 103 2 2 := .of (by kernel_rfl)
theorem fld_103_3 : FieldAt Tryd.prog 103 3 3 := .of (by kernel_rfl)
theorem slt_119 : SlT Tryd.prog 119 103 4 := .of (by kernel_rfl)
theorem szt_103 : SzT Tryd.prog 103 4 := .of (by kernel_rfl)
theorem zt_103 : ZeroT Tryd.prog 103 (.agg #[(.int .i64 0), (.int .i64 0), (.int .i64 0), (.int .i64 0)]) := .of (by kernel_rfl)
theorem w_pack {I : HMap} {av : Option Addr} {n c : Nat} {ds : List Dg} (hS : Sl I 4 encD av n c ds) (hn : n ≤ 100000) (hb : ∀ d ∈ ds, 0 ≤ d.b) : RetV Tryd.prog 45 [.slice av n c] I (.tuple #[.int .i64 ((packG 0 ds).getD 0), .bool (packG 0 ds).isSome]) := by
 intro g H w hw
 refine enter Tryd.func45 rfl Tryd.ntmps45 rfl hw ?_
 refine X_seq (X_region ?_)
 refine zA ?_
 refine zA ?_
 refine XO_nil (at_then ?_)
 refine X_seq ?_
 refine X_seq (X_region ?_)
 refine zM ?_
 refine XO_v0 (ev_lenS rfl slt_119) rfl rfl rfl ?_
 refine zM ?_
 refine XO_nil (at_then ?_)
 refine X_block ?_
 refine X_loopT [(6, _), (7, _)] (.cons rfl (.cons rfl .nil)) (fun T L0 mz E I' loc' => ∃ (k : Nat) (a : Int), mz = n - k ∧ E = (2, .int .i64 a) :: (8, .int .i64 k) :: T ∧ I = I' ∧ [] = loc' ∧ k ≤ n ∧ packG 0 ds = packG a (ds.drop k)) _ _ _ _ ⟨0, 0, rfl, rfl, rfl, rfl, Nat.zero_le _, rfl⟩ (.cons rfl (.cons rfl (.cons rfl (.cons rfl .nil)))) (HLe.refl _) rfl ?_
 rintro mz E I' loc' ⟨k, a, rfl, rfl, rfl, rfl, hk, hpk⟩
 refine X_seq (X_region ?_)
 refine zC ?_
 refine XO_nil (at_then ?_)
 refine X_seq ?_
 refine X_cond rfl (fun hc9 => ?_) (fun hc9 => ?_)
 ·
  have hlt_k : k < n := by have h := hc9; simp at h; omega
  obtain ⟨d, hd⟩ := hS.at hlt_k
  have hbd := hb d (List.mem_of_getElem? hd)
  refine X_skip ?_
  refine at_then ?_
  refine X_seq ?_
  refine X_block ?_
  refine X_seq (X_region ?_)
  refine XO_v0 (ev_indexSl rfl rfl slt_119 hS (fun hg => by first | omega | (simp [conj] at hg; omega))) rfl rfl rfl ?_
  refine XO_v0 (ev_loadA rfl agt_103 (fun hg => by exact Sl.getA hS hd) rfl) rfl rfl rfl ?_
  refine XO_alloc zt_103 rfl rfl (fun b_5 => ?_)
  refine XO_storeA rfl rfl szt_103 rfl rfl rfl rfl (by repeat (first | exact Upd.here | apply Upd.there | apply upd_app)) ?_
  refine XO_nil (at_then ?_)
  refine X_seq ?_
  refine X_seq (X_region ?_)
  refine XO_v0 (ev_fieldAddr rfl fld_103_0) rfl rfl rfl ?_
  refine XO_v0 (ev_load rfl sct_3 (fun hg => by exact Cell.h0 rfl)) rfl rfl rfl ?_
  refine XO_v0 (ev_fieldAddr rfl fld_103_1) rfl rfl rfl ?_
  refine XO_v0 (ev_load rfl sct_3 (fun hg => by exact Cell.h0 rfl)) rfl rfl rfl ?_
  refine zC ?_
  refine zM ?_
  refine XO_pushF 5 rfl rfl rfl ?_
  refine XO_v1 (ev_fieldAddr rfl fld_103_0) (.some rfl rfl rfl rfl gbf) rfl rfl rfl ?_
  refine XO_v1 (ev_load rfl sct_3 (fun hg => by exact Cell.h0 rfl)) (.some rfl rfl rfl rfl gbf) rfl rfl rfl ?_
  refine XO_v1 (ev_fieldAddr rfl fld_103_2) (.some rfl rfl rfl rfl gbf) rfl rfl rfl ?_
  refine XO_v1 (ev_load rfl sct_3 (fun hg => by exact Cell.h0 rfl)) (.some rfl rfl rfl rfl gbf) rfl rfl rfl ?_
  refine XO_v1 (ev_cmp rfl rfl rfl) (.some rfl rfl rfl rfl gbf) rfl rfl rfl ?_
  refine XO_or0 rfl rfl rfl rfl rfl ?_
  refine XO_nil (at_then ?_)
  refine X_cond rfl (fun hc23 => ?_) (fun hc23 => ?_)
  ·
   rw [pack_bad hd hc23] at hpk
   refine X_seq (X_region ?_)
   refine zA ?_
   refine zA ?_
   refine XO_nil (at_then ?_)
   refine X_ret ?_
   refine at_then_r ?_
   refine at_block_r ?_
   refine at_then_r ?_
   refine at_then_r ?_
   refine at_block_r ?_
   refine at_then_r ?_
   first
   | exact at_ret2 rfl rfl rfl (fun w hw => ⟨by rw [hpk]; rfl, hw.drop⟩)
  ·
   refine X_skip ?_
   refine at_then ?_
   refine X_draw mixed (by kernel_rfl) ?_
   refine XQ_v0 (ev_move rfl) rfl rfl rfl ?_
   refine XQ_v0 (ev_fieldAddr rfl fld_103_3) rfl rfl rfl ?_
   refine XQ_v0 (ev_load rfl sct_3 (fun hg => by exact Cell.h0 rfl)) rfl rfl rfl ?_
   refine XQ_v0 (ev_shl rfl rfl (fun hg => by first | exact hbd | omega)) rfl rfl rfl ?_
   refine XQ_v0 (ev_fieldAddr rfl fld_103_0) rfl rfl rfl ?_
   refine XQ_v0 (ev_load rfl sct_3 (fun hg => by exact Cell.h0 rfl)) rfl rfl rfl ?_
   refine XQ_v0 (ev_or rfl rfl) rfl rfl rfl ?_
   refine XQ_v0 (ev_assign rfl) rfl rfl rfl ?_
   refine XQ_nil ?_
   refine at_block_n ?_
   refine at_then ?_
   refine X_region ?_
   refine zB ?_
   refine zM ?_
   refine XO_nil ?_
   exact at_met2 _ _ ⟨n - (k + 1), by omega, k + 1, putD a d, rfl, rfl, rfl, rfl, by omega, by rw [hpk, pack_step hd hc23]⟩ (.cons rfl (.cons rfl (.cons rfl (.cons rfl .nil)))) (by repeat (first | exact .refl | exact subL_left | refine subL_app ?_ | refine .drop ?_ | refine subL_add ?_))
 ·
  have hge_k : n ≤ k := by have h := hc9; simp at h; omega
  rw [pack_end (by rw [hS.len]; exact hge_k)] at hpk
  refine X_exit ?_
  refine at_then_e ?_
  refine at_then_e ?_
  refine at_block_hit ?_
  refine at_then ?_
  refine X_seq (X_region ?_)
  refine zM ?_
  refine zA ?_
  refine zA ?_
  refine XO_nil (at_then ?_)
  refine X_ret ?_
  first
  | exact at_ret2 rfl rfl rfl (fun w hw => ⟨by rw [hpk]; rfl, hw.drop⟩)
end Go.Proofs.YthcffaheamikgaaDoor
end
section
namespace Go.Proofs.YthcffaheamikgaaDoor
open Go Go.Kn Go.Proofs
structure Sg where
  id : Int
  role : Int
  bar : Int
  mark : Int
  kind : Int
  side : Int
  dir : Int
  level : Int
  size : Int
  wth : Int
  fn : Int
  fd : Int
  tn : Int
  td : Int
def encG (x : Sg) : List Value := [.int .i64 x.id, .int .i64 x.role, .int .i64 x.bar, .int .i64 x.mark, .int .i64 x.kind, .int .i64 x.side, .int .i64 x.dir, .int .i64 x.level, .int .i64 x.size, .int .i64 x.wth, .int .i64 x.fn, .int .i64 x.fd, .int .i64 x.tn, .int .i64 x.td]
def encGA (x : Sg) : Value := .agg (encG x).toArray
theorem encG_len (x : Sg) : (encG x).length = 14 := rfl
def dgs (x : Sg) : List Dg := [⟨x.role, 0, 63, 6⟩, ⟨x.kind, 1, 9, 4⟩, ⟨x.side, 0, 2, 2⟩, ⟨x.dir, 0, 8, 4⟩, ⟨x.level, 0, 3, 2⟩, ⟨x.size, 0, 255, 8⟩, ⟨x.wth, 0, 64, 7⟩]
theorem dgs_b (x : Sg) : ∀ d ∈ dgs x, 0 ≤ d.b := fun d h => by
  unfold dgs at h
  simp only [List.mem_cons, List.not_mem_nil, or_false] at h
  rcases h with rfl | rfl | rfl | rfl | rfl | rfl | rfl <;> simp
def codeF (x : Sg) : Int := (packG 0 (dgs x)).getD 0
def codeE (x : Sg) : Int := if (packG 0 (dgs x)).isSome = true then 0 else 410
theorem code_no {x : Sg} (h : (packG 0 (dgs x)).isSome = false) : codeF x = 0 ∧ codeE x = 410 := by
  have : packG 0 (dgs x) = none := by cases hp : packG 0 (dgs x) with
    | none => rfl
    | some c => rw [hp] at h; cases h
  unfold codeF codeE
  rw [this]; exact ⟨rfl, rfl⟩
theorem code_yes {x : Sg} (h : (packG 0 (dgs x)).isSome = true) : codeE x = 0 := by unfold codeE; rw [if_pos h]
end Go.Proofs.YthcffaheamikgaaDoor
end
section
namespace Go.Proofs.YthcffaheamikgaaDoor
open Go Go.Kn Go.Proofs
theorem elt_119 : ElT Tryd.prog 119 103 4 32 := .of (by kernel_rfl)
theorem fld_49_1 : FieldAt Tryd.prog 49 1 1 := .of (by kernel_rfl)
theorem fld_49_4 : FieldAt Tryd.prog 49 4 4 := .of (by kernel_rfl)
theorem fld_49_5 : FieldAt Tryd.prog 49 5 5 := .of (by kernel_rfl)
theorem fld_49_6 : FieldAt Tryd.prog 49 6 6 := .of (by kernel_rfl)
theorem fld_49_7 : FieldAt Tryd.prog 49 7 7 := .of (by kernel_rfl)
theorem fld_49_8 : FieldAt Tryd.prog 49 8 8 := .of (by kernel_rfl)
theorem fld_49_9 : FieldAt Tryd.prog 49 9 9 := .of (by kernel_rfl)
theorem fun_45 : Fun Tryd.prog 45 := .of Tryd.func45 (by kernel_rfl) (by kernel_rfl)
theorem plt_103 : PlT Tryd.prog 103 #[(0, 1), (1, 1), (2, 1), (3, 1)] (.agg #[(.int .i64 0), (.int .i64 0), (.int .i64 0), (.int .i64 0)]) := ⟨.of (by kernel_rfl), by kernel_rfl, fun w => by kernel_rfl⟩
theorem w_code (I : HMap) (x : Sg) : RetV Tryd.prog 19 [encGA x] I (.tuple #[.int .i64 (codeF x), .int .i64 (codeE x)]) := by
 intro g H w hw
 refine enter Tryd.func19 rfl Tryd.ntmps19 rfl hw ?_
 have hIc := HLe.refl I
 refine X_seq (X_region ?_)
 refine XO_box rfl rfl rfl (fun b_1 => ?_)
 refine zA ?_
 refine zA ?_
 refine XO_nil (at_then (X_seq (X_region ?_)))
 refine XO_v0 (ev_fieldAddr rfl fld_49_1) rfl rfl rfl ?_
 refine XO_v0 (ev_load rfl sct_3 (fun hg => by exact Cell.h0 rfl)) rfl rfl rfl ?_
 refine XO_v0 (ev_buildL (ps := [(0, _), (1, _), (2, _), (3, _)]) [_, _, _, _] plt_103 rfl rfl) rfl rfl rfl ?_
 refine XO_v0 (ev_fieldAddr rfl fld_49_4) rfl rfl rfl ?_
 refine XO_v0 (ev_load rfl sct_3 (fun hg => by exact Cell.h0 rfl)) rfl rfl rfl ?_
 refine XO_v0 (ev_buildL (ps := [(0, _), (1, _), (2, _), (3, _)]) [_, _, _, _] plt_103 rfl rfl) rfl rfl rfl ?_
 refine XO_v0 (ev_fieldAddr rfl fld_49_5) rfl rfl rfl ?_
 refine XO_v0 (ev_load rfl sct_3 (fun hg => by exact Cell.h0 rfl)) rfl rfl rfl ?_
 refine XO_v0 (ev_buildL (ps := [(0, _), (1, _), (2, _), (3, _)]) [_, _, _, _] plt_103 rfl rfl) rfl rfl rfl ?_
 refine XO_v0 (ev_fieldAddr rfl fld_49_6) rfl rfl rfl ?_
 refine XO_v0 (ev_load rfl sct_3 (fun hg => by exact Cell.h0 rfl)) rfl rfl rfl ?_
 refine XO_v0 (ev_buildL (ps := [(0, _), (1, _), (2, _), (3, _)]) [_, _, _, _] plt_103 rfl rfl) rfl rfl rfl ?_
 refine XO_v0 (ev_fieldAddr rfl fld_49_7) rfl rfl rfl ?_
 refine XO_v0 (ev_load rfl sct_3 (fun hg => by exact Cell.h0 rfl)) rfl rfl rfl ?_
 refine XO_v0 (ev_buildL (ps := [(0, _), (1, _), (2, _), (3, _)]) [_, _, _, _] plt_103 rfl rfl) rfl rfl rfl ?_
 refine XO_v0 (ev_fieldAddr rfl fld_49_8) rfl rfl rfl ?_
 refine XO_v0 (ev_load rfl sct_3 (fun hg => by exact Cell.h0 rfl)) rfl rfl rfl ?_
 refine XO_v0 (ev_buildL (ps := [(0, _), (1, _), (2, _), (3, _)]) [_, _, _, _] plt_103 rfl rfl) rfl rfl rfl ?_
 refine XO_v0 (ev_fieldAddr rfl fld_49_9) rfl rfl rfl ?_
 refine XO_v0 (ev_load rfl sct_3 (fun hg => by exact Cell.h0 rfl)) rfl rfl rfl ?_
 refine XO_v0 (ev_buildL (ps := [(0, _), (1, _), (2, _), (3, _)]) [_, _, _, _] plt_103 rfl rfl) rfl rfl rfl ?_
 refine XO_buildSlice (ps := [(0, _), (1, _), (2, _), (3, _), (4, _), (5, _), (6, _)]) (m := [encD ⟨x.role, 0, 63, 6⟩, encD ⟨x.kind, 1, 9, 4⟩, encD ⟨x.side, 0, 2, 2⟩, encD ⟨x.dir, 0, 8, 4⟩, encD ⟨x.level, 0, 3, 2⟩, encD ⟨x.size, 0, 255, 8⟩, encD ⟨x.wth, 0, 64, 7⟩]) elt_119 rfl (.cons rfl (.cons rfl (.cons rfl (.cons rfl (.cons rfl (.cons rfl (.cons rfl (.nil)))))))) rfl (by simp [encD_len]) (by decide) (by decide) rfl rfl (fun b_27 => ?_)
 refine XO_freeze (b := b_27) (by repeat (first | exact Take.here | apply Take.there)) (fun I1 hI1 hb1 => ?_)
 have hIc := hIc.trans hI1
 have hDg : Sl I1 4 encD (some ⟨b_27, 0, none⟩) 7 7 (dgs x) := Sl.lit (dgs x) rfl encD_len (show _ = some (Obj.cells ((dgs x).flatMap encD).toArray 103 (0, 0)) from hb1)
 refine XO_callV0 (cap := []) (vs := [_]) rfl rfl fun_45 (w_pack hDg (by decide) (dgs_b x)) rfl rfl ?_
 refine zM ?_
 refine XO_v0 (ev_extract rfl rfl) rfl rfl rfl ?_
 refine XO_v0 (ev_extract rfl rfl) rfl rfl rfl ?_
 refine zA ?_
 refine zA ?_
 refine XO_nil (at_then ?_)
 refine X_seq ?_
 refine X_seq (X_region ?_)
 refine zM ?_
 refine XO_v0 (ev_not rfl) rfl rfl rfl ?_
 refine XO_nil (at_then ?_)
 refine X_cond rfl (fun hc32 => ?_) (fun hc32 => ?_)
 ·
  have hp0 : (packG 0 (dgs x)).isSome = false := by simpa using hc32
  obtain ⟨k1, k2⟩ := code_no hp0
  refine X_seq (X_region ?_)
  refine zA ?_
  refine zA ?_
  refine XO_nil (at_then ?_)
  refine X_ret ?_
  refine at_then_r ?_
  exact at_ret2 rfl rfl rfl (fun w hw => ⟨by rw [k1, k2], (hw.mono hIc).drop⟩)
 ·
  have hp0 : (packG 0 (dgs x)).isSome = true := by simpa using hc32
  have k2 := code_yes hp0
  refine X_skip ?_
  refine at_then ?_
  refine X_seq (X_region ?_)
  refine zM ?_
  refine zA ?_
  refine zA ?_
  refine XO_nil (at_then ?_)
  refine X_ret ?_
  first
  | exact at_ret2 rfl rfl rfl (fun w hw => ⟨by rw [k2]; rfl, (hw.mono hIc).drop⟩)
end Go.Proofs.YthcffaheamikgaaDoor
end
section
namespace Go.Proofs.YthcffaheamikgaaDoor
open Go Go.Kn Go.Proofs
theorem mask_tab : ((List.range 9).all fun b => decide (0 ≤ IntKind.i64.wrap (1 * 2 ^ (min ((b : Nat) : Int).toNat IntKind.i64.bits)) ∧ IntKind.i64.wrap (1 * 2 ^ (min ((b : Nat) : Int).toNat IntKind.i64.bits)) ≤ 256)) = true := by kernel_rfl
theorem mask_at {b : Nat} (h : b ≤ 8) : 0 ≤ IntKind.i64.wrap (1 * 2 ^ (min ((b : Nat) : Int).toNat IntKind.i64.bits)) ∧ IntKind.i64.wrap (1 * 2 ^ (min ((b : Nat) : Int).toNat IntKind.i64.bits)) ≤ 256 := of_decide_eq_true (List.all_eq_true.1 mask_tab b (List.mem_range.2 (by omega)))
theorem w_lastB (I : HMap) (r : Nat) (c : Int) (b : Nat) (hb : b ≤ 8) : RetM Tryd.prog 62 [.int .i64 b, capP r] I [(r, .cells #[.int .i64 c] 3 (0, 0))] (fun v I' L' => v = .int .i64 (andI c (IntKind.i64.wrap (1 * 2 ^ (min (b : Int).toNat IntKind.i64.bits)) - 1)) ∧ I' = I ∧ L' = [(r, .cells #[.int .i64 (c.fdiv (2 ^ (min (b : Int).toNat IntKind.i64.bits)))] 3 (0, 0))]) := by
 intro g H w hw
 refine enter Tryd.func62 rfl Tryd.ntmps62 rfl hw ?_
 have hmb := mask_at hb
 refine X_seq (X_region ?_)
 refine zA ?_
 refine XO_nil (at_then ?_)
 refine X_seq ?_
 refine X_draw mixed (by kernel_rfl) ?_
 refine XQ_v0 (ev_load rfl sct_3 (fun hg => by exact Cell.h0 rfl)) rfl rfl rfl ?_
 refine XQ_v0 (ev_move rfl) rfl rfl rfl ?_
 refine XQ_v0 (ev_shl rfl rfl (fun hg => by omega)) rfl rfl rfl ?_
 refine XQ_v0 (ev_arB rfl rfl rfl (fun _ => by omega)) rfl rfl rfl ?_
 refine XQ_v0 (ev_and rfl rfl) rfl rfl rfl ?_
 refine XQ_v0 (ev_assign rfl) rfl rfl rfl ?_
 refine XQ_nil ?_
 refine at_then ?_
 refine X_seq (X_region ?_)
 refine XO_v0 (ev_load rfl sct_3 (fun hg => by exact Cell.h0 rfl)) rfl rfl rfl ?_
 refine zM ?_
 refine XO_v0 (ev_shr rfl rfl (by omega) rfl) rfl rfl rfl ?_
 refine zS szt_3 ?_
 refine XO_nil (at_then (X_seq (X_region ?_)))
 refine zM ?_
 refine zA ?_
 refine XO_nil (at_then ?_)
 refine X_ret ?_
 exact at_ret1 rfl rfl (fun w hw => ⟨_, I, _, rfl, HLe.refl _, hw, rfl, rfl, rfl⟩)
end Go.Proofs.YthcffaheamikgaaDoor
end
section
namespace Go.Proofs.YthcffaheamikgaaDoor
open Go Go.Kn Go.Proofs
def lbN (b : Nat) (c : Int) : Int := andI c (IntKind.i64.wrap (1 * 2 ^ (min (b : Int).toNat IntKind.i64.bits)) - 1)
def shN (b : Nat) (c : Int) : Int := c.fdiv (2 ^ (min (b : Int).toNat IntKind.i64.bits))
def rawS (c : Int) : Sg := ⟨0, shN 4 (shN 2 (shN 4 (shN 2 (shN 8 (shN 7 c))))), 0, 0, lbN 4 (shN 2 (shN 4 (shN 2 (shN 8 (shN 7 c))))), lbN 2 (shN 4 (shN 2 (shN 8 (shN 7 c)))), lbN 4 (shN 2 (shN 8 (shN 7 c))), lbN 2 (shN 8 (shN 7 c)), lbN 8 (shN 7 c), lbN 7 c, 0, 0, 0, 0⟩
def zeroS : Sg := ⟨0, 0, 0, 0, 0, 0, 0, 0, 0, 0, 0, 0, 0, 0⟩
def signE (c : Int) : Int := codeE (rawS c)
def signF (c : Int) : Sg := if signE c ≠ 0 then zeroS else rawS c
end Go.Proofs.YthcffaheamikgaaDoor
end
section
namespace Go.Proofs.YthcffaheamikgaaDoor
open Go Go.Kn Go.Proofs
theorem agt_49 : AgT Tryd.prog 49 14 := .of (by kernel_rfl)
theorem fun_19 : Fun Tryd.prog 19 := .of Tryd.func19 (by kernel_rfl) (by kernel_rfl)
theorem fun_62 : Fun Tryd.prog 62 := .of Tryd.func62 (by kernel_rfl) (by kernel_rfl)
theorem plt_49 : PlT Tryd.prog 49 #[(0, 1), (1, 1), (2, 1), (3, 1), (4, 1), (5, 1), (6, 1), (7, 1), (8, 1), (9, 1), (10, 2), (12, 2)] (.agg #[(.int .i64 0), (.int .i64 0), (.int .i64 0), (.int .i64 0), (.int .i64 0), (.int .i64 0), (.int .i64 0), (.int .i64 0), (.int .i64 0), (.int .i64 0), (.int .i64 0), (.int .i64 0), (.int .i64 0), (.int .i64 0)]) := ⟨.of (by kernel_rfl), by kernel_rfl, fun w => by kernel_rfl⟩
theorem szt_49 : SzT Tryd.prog 49 14 := .of (by kernel_rfl)
theorem zt_49 : ZeroT Tryd.prog 49 (.agg #[(.int .i64 0), (.int .i64 0), (.int .i64 0), (.int .i64 0), (.int .i64 0), (.int .i64 0), (.int .i64 0), (.int .i64 0), (.int .i64 0), (.int .i64 0), (.int .i64 0), (.int .i64 0), (.int .i64 0), (.int .i64 0)]) := .of (by kernel_rfl)
theorem w_lastN (I : HMap) (r : Nat) (c : Int) (b : Nat) (hb : b ≤ 8) : RetM Tryd.prog 62 [.int .i64 b, capP r] I [(r, .cells #[.int .i64 c] 3 (0, 0))] (fun v I' L' => v = .int .i64 (lbN b c) ∧ I' = I ∧ L' = [(r, .cells #[.int .i64 (shN b c)] 3 (0, 0))]) := w_lastB I r c b hb
set_option maxHeartbeats 1600000 in
theorem w_Sign (I : HMap) (c : Int) : RetV Tryd.prog 43 [.int .i64 c] I (.tuple #[encGA (signF c), .int .i64 (signE c)]) := by
 intro g H w hw
 refine enter Tryd.func43 rfl Tryd.ntmps43 rfl hw ?_
 have hIc := HLe.refl I
 refine X_seq (X_region ?_)
 refine XO_alloc zt_49 rfl rfl (fun b_2 => ?_)
 refine zA ?_
 refine XO_nil (at_then (X_seq (X_region ?_)))
 refine zM ?_
 refine XO_alloc zt_3 rfl rfl (fun b_4 => ?_)
 refine zS szt_3 ?_
 refine XO_nil (at_then (X_seq (X_region ?_)))
 refine XO_v0 (ev_makeFunc (us := []) (vs := [_]) rfl rfl) rfl rfl rfl ?_
 refine zA ?_
 refine XO_nil (at_then (X_seq (X_region ?_)))
 refine zM ?_
 refine XO_callM (cap := [capP b_4]) (vs := [_]) rfl rfl fun_62 (by repeat (first | exact .cons .here .nil | exact split_all | exact split_app | apply split_cons | apply split_skip)) (w_lastN _ b_4 c 7 (by decide)) rfl rfl ?_
 rintro vv1 I1 L1 hI1 ⟨rfl, rfl, rfl⟩
 have hIc := hIc.trans hI1
 refine XO_v0 (ev_fieldAddr rfl fld_49_9) rfl rfl rfl ?_
 refine zS szt_3 ?_
 refine XO_nil (at_then (X_seq (X_region ?_)))
 refine zM ?_
 refine XO_callM (cap := [capP b_4]) (vs := [_]) rfl rfl fun_62 (by repeat (first | exact .cons .here .nil | exact split_all | exact split_app | apply split_cons | apply split_skip)) (w_lastN _ b_4 (shN 7 c) 8 (by decide)) rfl rfl ?_
 rintro vv2 I2 L2 hI2 ⟨rfl, rfl, rfl⟩
 have hIc := hIc.trans hI2
 refine XO_v0 (ev_fieldAddr rfl fld_49_8) rfl rfl rfl ?_
 refine zS szt_3 ?_
 refine XO_nil (at_then (X_seq (X_region ?_)))
 refine zM ?_
 refine XO_callM (cap := [capP b_4]) (vs := [_]) rfl rfl fun_62 (by repeat (first | exact .cons .here .nil | exact split_all | exact split_app | apply split_cons | apply split_skip)) (w_lastN _ b_4 (shN 8 (shN 7 c)) 2 (by decide)) rfl rfl ?_
 rintro vv3 I3 L3 hI3 ⟨rfl, rfl, rfl⟩
 have hIc := hIc.trans hI3
 refine XO_v0 (ev_fieldAddr rfl fld_49_7) rfl rfl rfl ?_
 refine zS szt_3 ?_
 refine XO_nil (at_then (X_seq (X_region ?_)))
 refine zM ?_
 refine XO_callM (cap := [capP b_4]) (vs := [_]) rfl rfl fun_62 (by repeat (first | exact .cons .here .nil | exact split_all | exact split_app | apply split_cons | apply split_skip)) (w_lastN _ b_4 (shN 2 (shN 8 (shN 7 c))) 4 (by decide)) rfl rfl ?_
 rintro vv4 I4 L4 hI4 ⟨rfl, rfl, rfl⟩
 have hIc := hIc.trans hI4
 refine XO_v0 (ev_fieldAddr rfl fld_49_6) rfl rfl rfl ?_
 refine zS szt_3 ?_
 refine XO_nil (at_then (X_seq (X_region ?_)))
 refine zM ?_
 refine XO_callM (cap := [capP b_4]) (vs := [_]) rfl rfl fun_62 (by repeat (first | exact .cons .here .nil | exact split_all | exact split_app | apply split_cons | apply split_skip)) (w_lastN _ b_4 (shN 4 (shN 2 (shN 8 (shN 7 c)))) 2 (by decide)) rfl rfl ?_
 rintro vv5 I5 L5 hI5 ⟨rfl, rfl, rfl⟩
 have hIc := hIc.trans hI5
 refine XO_v0 (ev_fieldAddr rfl fld_49_5) rfl rfl rfl ?_
 refine zS szt_3 ?_
 refine XO_nil (at_then (X_seq (X_region ?_)))
 refine zM ?_
 refine XO_callM (cap := [capP b_4]) (vs := [_]) rfl rfl fun_62 (by repeat (first | exact .cons .here .nil | exact split_all | exact split_app | apply split_cons | apply split_skip)) (w_lastN _ b_4 (shN 2 (shN 4 (shN 2 (shN 8 (shN 7 c))))) 4 (by decide)) rfl rfl ?_
 rintro vv6 I6 L6 hI6 ⟨rfl, rfl, rfl⟩
 have hIc := hIc.trans hI6
 refine XO_v0 (ev_fieldAddr rfl fld_49_4) rfl rfl rfl ?_
 refine zS szt_3 ?_
 refine XO_nil (at_then (X_seq (X_region ?_)))
 refine XO_v0 (ev_load rfl sct_3 (fun hg => by exact Cell.h0 rfl)) rfl rfl rfl ?_
 refine XO_v0 (ev_fieldAddr rfl fld_49_1) rfl rfl rfl ?_
 refine zS szt_3 ?_
 refine XO_nil (at_then ?_)
 refine X_seq ?_
 refine X_seq (X_region ?_)
 refine XO_v0 (ev_loadA rfl agt_49 (fun hg => by exact Cells.g1) rfl) rfl rfl rfl ?_
 refine XO_callV0 (cap := []) (vs := [_]) rfl rfl fun_19 (w_code _ (rawS c)) rfl rfl ?_
 refine zM ?_
 refine XO_v0 (ev_extract rfl rfl) rfl rfl rfl ?_
 refine XO_v0 (ev_extract rfl rfl) rfl rfl rfl ?_
 refine zA ?_
 refine XO_nil (at_then (X_seq (X_region ?_)))
 refine zM ?_
 refine zC ?_
 refine XO_nil (at_then ?_)
 refine X_cond rfl (fun hc34 => ?_) (fun hc34 => ?_)
 ·
  have he : signE c ≠ 0 := by unfold signE; simpa using hc34
  have k1 : signF c = zeroS := if_pos he
  have he9 : signE c = codeE (rawS c) := rfl
  refine X_seq (X_region ?_)
  refine XO_v0 (ev_buildL (ps := []) [_, _, _, _, _, _, _, _, _, _, _, _, _, _] plt_49 rfl rfl) rfl rfl rfl ?_
  refine zM ?_
  refine XO_storeA rfl rfl szt_49 rfl rfl rfl rfl (by repeat (first | exact Upd.here | apply Upd.there | apply upd_app)) ?_
  refine zA ?_
  refine XO_nil (at_then ?_)
  refine X_ret ?_
  refine at_then_r ?_
  exact at_ret2A rfl rfl rfl agt_49 (by repeat (first | exact Cells.here | apply Cells.there)) rfl (fun w hw => ⟨by rw [k1, he9]; rfl, (hw.mono hIc).drop⟩)
 ·
  have he : signE c = 0 := by unfold signE; simpa using hc34
  have k1 : signF c = rawS c := if_neg (by omega)
  have he9 := he
  refine X_skip ?_
  refine at_then ?_
  refine X_seq (X_region ?_)
  refine XO_v0 (ev_loadA rfl agt_49 (fun hg => by exact Cells.g1) rfl) rfl rfl rfl ?_
  refine XO_storeA rfl rfl szt_49 rfl rfl rfl rfl (by repeat (first | exact Upd.here | apply Upd.there | apply upd_app)) ?_
  refine zA ?_
  refine XO_nil (at_then ?_)
  refine X_ret ?_
  exact at_ret2A rfl rfl rfl agt_49 (by repeat (first | exact Cells.here | apply Cells.there)) rfl (fun w hw => ⟨by rw [k1, he9]; rfl, (hw.mono hIc).drop⟩)
end Go.Proofs.YthcffaheamikgaaDoor
end
section
namespace Go.Proofs.YthcffaheamikgaaDoor
open Go Go.Kn Go.Proofs
def besN (x y : Int) : Int := if (x != y && x != 8589934592 && y != 8589934592) = true then 3 else 0
end Go.Proofs.YthcffaheamikgaaDoor
end
section
namespace Go.Proofs.YthcffaheamikgaaDoor
open Go Go.Kn Go.Proofs
theorem w_beside (I : HMap) (x y : Int) : RetV Tryd.prog 54 [.int .i64 x, .int .i64 y] I (.int .i64 (besN x y)) := by
 intro g H w hw
 refine enter Tryd.func54 rfl Tryd.ntmps54 rfl hw ?_
 refine X_seq (X_region ?_)
 refine zA ?_
 refine XO_nil (at_then ?_)
 refine X_seq ?_
 refine X_seq (X_region ?_)
 refine zM ?_
 refine zM ?_
 refine zC ?_
 refine zM ?_
 refine XO_pushT 3 rfl rfl rfl ?_
 refine XO_v1 (ev_move rfl) (.some rfl rfl rfl rfl gbt) rfl rfl rfl ?_
 refine XO_v1 (ev_cmp rfl rfl rfl) (.some rfl rfl rfl rfl gbt) rfl rfl rfl ?_
 refine XO_and0 rfl rfl rfl rfl rfl ?_
 refine zM ?_
 refine XO_pushT 7 rfl rfl rfl ?_
 refine XO_v1 (ev_move rfl) (.some rfl rfl rfl rfl gbt) rfl rfl rfl ?_
 refine XO_v1 (ev_cmp rfl rfl rfl) (.some rfl rfl rfl rfl gbt) rfl rfl rfl ?_
 refine XO_and0 rfl rfl rfl rfl rfl ?_
 refine XO_nil (at_then ?_)
 refine X_cond rfl (fun hc15 => ?_) (fun hc15 => ?_)
 ·
  refine X_seq (X_region ?_)
  refine zA ?_
  refine XO_nil (at_then ?_)
  refine X_ret ?_
  refine at_then_r ?_
  first
  | exact at_ret1 rfl rfl (fun w hw => ⟨by unfold besN; rw [if_pos (by assumption)], hw.drop⟩)
 ·
  refine X_skip ?_
  refine at_then ?_
  refine X_seq (X_region ?_)
  refine zA ?_
  refine XO_nil (at_then ?_)
  refine X_ret ?_
  first
  | exact at_ret1 rfl rfl (fun w hw => ⟨by unfold besN; rw [if_neg (by simp_all)], hw.drop⟩)
end Go.Proofs.YthcffaheamikgaaDoor
end
section
namespace Go.Proofs.YthcffaheamikgaaDoor
open Go Go.Kn Go.Proofs
structure Rd where
  lost : Bool
  sg : Sg
def encRd (r : Rd) : List Value := .bool r.lost :: encG r.sg
theorem encRd_len (r : Rd) : (encRd r).length = 15 := rfl
def codeR (r : Rd) : Int := if r.lost = true then 8589934592 else codeF r.sg
end Go.Proofs.YthcffaheamikgaaDoor
end
section
namespace Go.Proofs.YthcffaheamikgaaDoor
open Go Go.Kn Go.Proofs
theorem agt_51 : AgT Tryd.prog 51 15 := .of (by kernel_rfl)
theorem fld_34_2 : FieldAt Tryd.prog 34 2 2 := .of (by kernel_rfl)
theorem fld_51_0 : FieldAt Tryd.prog 51 0 0 := .of (by kernel_rfl)
theorem fld_51_1 : FieldAt Tryd.prog 51 1 1 := .of (by kernel_rfl)
theorem sct_32 : ScT Tryd.prog 32 := .of (by kernel_rfl)
theorem sct_4 : ScT Tryd.prog 4 := .of (by kernel_rfl)
theorem slt_32 : SlT Tryd.prog 32 51 15 := .of (by kernel_rfl)
theorem szt_51 : SzT Tryd.prog 51 15 := .of (by kernel_rfl)
theorem zt_51 : ZeroT Tryd.prog 51 (.agg #[(.bool false), (.int .i64 0), (.int .i64 0), (.int .i64 0), (.int .i64 0), (.int .i64 0), (.int .i64 0), (.int .i64 0), (.int .i64 0), (.int .i64 0), (.int .i64 0), (.int .i64 0), (.int .i64 0), (.int .i64 0), (.int .i64 0)]) := .of (by kernel_rfl)
theorem w_codes {I : HMap} {av : Option Addr} {n c : Nat} {rs : List Rd} (hR : Sl I 15 encRd av n c rs) (hn : n ≤ 100000) (no yr : Int) : RetM Tryd.prog 32 [.agg #[.int .i64 no, .int .i64 yr, .slice av n c]] I [] (SlRes 1 encI (rs.map codeR)) := by
 intro g H w hw
 refine enter Tryd.func32 rfl Tryd.ntmps32 rfl hw ?_
 have hIc := HLe.refl I
 refine X_seq (X_region ?_)
 refine XO_box rfl rfl rfl (fun b_1 => ?_)
 refine zA ?_
 refine XO_nil (at_then ?_)
 refine X_seq ?_
 refine X_seq ?_
 refine X_freezeAll (fun I1 hI1 hall => ?_)
 have hR := hR.mono hI1
 have hIc := hIc.trans hI1
 have hCw : Cell I1 [] b_1 2 (.slice av n c) := .imm (hall _ _ (by repeat (first | exact List.mem_cons_self .. | apply List.mem_cons_of_mem))) rfl
 refine X_region ?_
 refine XO_v0 (ev_fieldAddr rfl fld_34_2) rfl rfl rfl ?_
 refine XO_v0 (ev_load rfl sct_32 (fun hg => by exact hCw.any)) rfl rfl rfl ?_
 refine XO_v0 (ev_lenS rfl slt_32) rfl rfl rfl ?_
 refine zM ?_
 refine XO_nil (at_then ?_)
 refine X_block ?_
 refine X_loopT [(7, _), (8, _)] (.cons rfl (.cons rfl .nil)) (fun T L0 mz E I' loc' => ∃ (k : Nat) (v2 : Value) (L : Go.Kn.Loc), mz = n - k ∧ E = (2, v2) :: (9, .int .i64 k) :: T ∧ I1 = I' ∧ L = loc' ∧ k ≤ n ∧ OwnS 3 1 v2 k (((rs.take k).map codeR).flatMap encI) L) _ _ _ _ ⟨0, _, [], rfl, rfl, rfl, rfl, Nat.zero_le _, OwnS.nil⟩ (.cons rfl (.cons rfl (.cons rfl (.cons rfl .nil)))) (HLe.refl _) rfl ?_
 rintro mz E I' loc' ⟨k, v2, L, rfl, rfl, rfl, rfl, hk, hO⟩
 refine X_seq (X_region ?_)
 refine zC ?_
 refine XO_nil (at_then ?_)
 refine X_seq ?_
 refine X_cond rfl (fun hc10 => ?_) (fun hc10 => ?_)
 ·
  have hlt_k : k < n := by have h := hc10; simp at h; omega
  obtain ⟨r, hr⟩ := hR.at hlt_k
  refine X_skip ?_
  refine at_then ?_
  refine X_seq ?_
  refine X_block ?_
  refine X_seq (X_region ?_)
  refine XO_v0 (ev_indexSl rfl rfl slt_32 hR (fun hg => by first | omega | (simp [conj] at hg; omega))) rfl rfl rfl ?_
  refine XO_v0 (ev_loadA rfl agt_51 (fun hg => by exact Sl.getA hR hr) rfl) rfl rfl rfl ?_
  refine XO_alloc zt_51 rfl rfl (fun b_4 => ?_)
  refine XO_storeA rfl rfl szt_51 rfl rfl rfl rfl (by repeat (first | exact Upd.here | apply Upd.there | apply upd_app)) ?_
  refine XO_nil (at_then (X_seq (X_region ?_)))
  refine zA ?_
  refine XO_nil (at_then ?_)
  refine X_seq ?_
  refine X_seq (X_region ?_)
  refine XO_v0 (ev_fieldAddr rfl fld_51_0) rfl rfl rfl ?_
  refine XO_v0 (ev_load rfl sct_4 (fun hg => by exact Cell.here rfl)) rfl rfl rfl ?_
  refine XO_v0 (ev_not rfl) rfl rfl rfl ?_
  refine XO_nil (at_then ?_)
  refine X_cond rfl (fun hc15 => ?_) (fun hc15 => ?_)
  ·
   have hlo : codeR r = codeF r.sg := by unfold codeR; rw [if_neg (by simpa using hc15)]
   refine X_region ?_
   refine XO_v0 (ev_fieldAddr rfl fld_51_1) rfl rfl rfl ?_
   refine XO_v0 (ev_loadA rfl agt_49 (fun hg => by exact Cells.s0 (vs := [_, _, _, _, _, _, _, _, _, _, _, _, _, _]) rfl) rfl) rfl rfl rfl ?_
   refine XO_callV0 (cap := []) (vs := [_]) rfl rfl fun_19 (w_code _ r.sg) rfl rfl ?_
   refine zM ?_
   refine XO_v0 (ev_extract rfl rfl) rfl rfl rfl ?_
   refine XO_v0 (ev_extract rfl rfl) rfl rfl rfl ?_
   refine zA ?_
   refine XO_nil ?_
   rw [← hlo]
   refine at_then ?_
   refine X_region ?_
   refine zM ?_
   refine zM ?_
   refine XO_buildSlice (ps := [(0, _)]) (m := [encI (codeR r)]) elt_23 rfl (.cons rfl (.nil)) rfl (by simp [encI_len]) (by decide) (by decide) rfl rfl (fun b_24 => ?_)
   refine XO_append (v := _) (ys := [codeR r].flatMap encI) (L := L) rfl rfl elt_23 hO (by repeat (first | exact .cons .here .nil | exact split_all | exact split_app | apply split_cons | apply split_skip)) ⟨rfl, fun _ => rfl, by repeat (first | exact Cells.here | apply Cells.there | apply Cells.app)⟩ (one_I [codeR r]) (by omega) rfl rfl ?_
   intro v9 L9 hO9 _; rw [← List.flatMap_append] at hO9
   refine zA ?_
   refine XO_nil ?_
   refine at_block_n ?_
   refine at_then ?_
   refine X_region ?_
   refine XO_v0 (ev_arB rfl rfl rfl (fun _ => by omega)) rfl rfl rfl ?_
   refine zM ?_
   refine XO_nil ?_
   exact at_met2 _ _ ⟨n - (k + 1), by omega, k + 1, _, _, rfl, rfl, rfl, rfl, by omega, by rw [map_next hr]; exact hO9⟩ (.cons rfl (.cons rfl (.cons rfl (.cons rfl .nil)))) (by repeat (first | exact .refl | exact subL_left | refine subL_app ?_ | refine .drop ?_ | refine subL_add ?_))
  ·
   have hlo : codeR r = 8589934592 := by unfold codeR; rw [if_pos (by simpa using hc15)]
   rw [← hlo]
   refine X_skip ?_
   refine at_then ?_
   refine X_region ?_
   refine zM ?_
   refine zM ?_
   refine XO_buildSlice (ps := [(0, _)]) (m := [encI (codeR r)]) elt_23 rfl (.cons rfl (.nil)) rfl (by simp [encI_len]) (by decide) (by decide) rfl rfl (fun b_24 => ?_)
   refine XO_append (v := _) (ys := [codeR r].flatMap encI) (L := L) rfl rfl elt_23 hO (by repeat (first | exact .cons .here .nil | exact split_all | exact split_app | apply split_cons | apply split_skip)) ⟨rfl, fun _ => rfl, by repeat (first | exact Cells.here | apply Cells.there | apply Cells.app)⟩ (one_I [codeR r]) (by omega) rfl rfl ?_
   intro v9 L9 hO9 _; rw [← List.flatMap_append] at hO9
   refine zA ?_
   refine XO_nil ?_
   refine at_block_n ?_
   refine at_then ?_
   refine X_region ?_
   refine XO_v0 (ev_arB rfl rfl rfl (fun _ => by omega)) rfl rfl rfl ?_
   refine zM ?_
   refine XO_nil ?_
   exact at_met2 _ _ ⟨n - (k + 1), by omega, k + 1, _, _, rfl, rfl, rfl, rfl, by omega, by rw [map_next hr]; exact hO9⟩ (.cons rfl (.cons rfl (.cons rfl (.cons rfl .nil)))) (by repeat (first | exact .refl | exact subL_left | refine subL_app ?_ | refine .drop ?_ | refine subL_add ?_))
 ·
  have hge_k : n ≤ k := by have h := hc10; simp at h; omega
  rw [take_all hR.len hge_k, show k = n by omega] at hO
  refine X_exit ?_
  refine at_then_e ?_
  refine at_then_e ?_
  refine at_block_hit ?_
  refine at_then ?_
  refine X_seq (X_region ?_)
  refine zM ?_
  refine zA ?_
  refine XO_nil (at_then ?_)
  refine X_ret ?_
  exact at_ret1 rfl rfl (fun w hw => by obtain ⟨I9, h91, h92, h93⟩ := OwnS.res hO encI_len (by decide) hw; exact ⟨_, I9, [], rfl, hIc.trans h91, h92, h93⟩)
end Go.Proofs.YthcffaheamikgaaDoor
end
section
namespace Go.Proofs.YthcffaheamikgaaDoor
open Go Go.Kn Go.Proofs
structure Wt where
  no : Int
  yr : Int
  a : Option Addr
  n : Nat
  c : Nat
def encW (w : Wt) : List Value := [.int .i64 w.no, .int .i64 w.yr, .slice w.a w.n w.c]
theorem encW_len (w : Wt) : (encW w).length = 3 := rfl
def fewW (ws : List Wt) : Bool := decide (ws.length ≤ 5) && ws.all fun w => decide (w.n ≤ 8)
end Go.Proofs.YthcffaheamikgaaDoor
end
section
namespace Go.Proofs.YthcffaheamikgaaDoor
open Go Go.Kn Go.Proofs
theorem slt_35 : SlT Tryd.prog 35 34 3 := .of (by kernel_rfl)
theorem w_fewW {I : HMap} {av : Option Addr} {n c : Nat} {ws : List Wt} (hW : Sl I 3 encW av n c ws) (hn : n ≤ 9223372036854775807) : RetV Tryd.prog 12 [.slice av n c] I (.bool (fewW ws)) := by
 intro g H w hw
 refine enter Tryd.func12 rfl Tryd.ntmps12 rfl hw ?_
 have hWl := hW.len
 refine X_seq (X_region ?_)
 refine zA ?_
 refine XO_nil (at_then ?_)
 refine X_seq ?_
 refine X_seq (X_region ?_)
 refine zM ?_
 refine XO_v0 (ev_lenS rfl slt_35) rfl rfl rfl ?_
 refine zC ?_
 refine XO_nil (at_then ?_)
 refine X_cond rfl (fun hc6 => ?_) (fun hc6 => ?_)
 ·
  have h5 : ¬ ws.length ≤ 5 := by have h := hc6; simp at h; omega
  refine X_seq (X_region ?_)
  refine zA ?_
  refine XO_nil (at_then ?_)
  refine X_ret ?_
  refine at_then_r ?_
  first
  | exact at_ret1 rfl rfl (fun w hw => ⟨by unfold fewW; rw [decide_eq_false h5]; rfl, hw.drop⟩)
 ·
  have h5 : ws.length ≤ 5 := by have h := hc6; simp at h; omega
  refine X_skip ?_
  refine at_then ?_
  refine X_seq ?_
  refine X_seq (X_region ?_)
  refine zA ?_
  refine XO_nil (at_then ?_)
  refine X_block ?_
  refine X_loopT [(0, _)] (.cons rfl .nil) (fun T L0 mz E I' loc' => ∃ (k : Nat), mz = n - k ∧ E = (3, .int .i64 k) :: T ∧ I = I' ∧ L0 = loc' ∧ k ≤ n ∧ (ws.take k).all (fun w => decide (w.n ≤ 8)) = true) _ _ _ _ ⟨0, rfl, rfl, rfl, rfl, Nat.zero_le _, rfl⟩ (.cons rfl (.cons rfl .nil)) (HLe.refl _) rfl ?_
  rintro mz E I' loc' ⟨k, rfl, rfl, rfl, rfl, hk, hall⟩
  refine X_seq ?_
  refine X_seq (X_region ?_)
  refine zM ?_
  refine zM ?_
  refine XO_v0 (ev_lenS rfl slt_35) rfl rfl rfl ?_
  refine zC ?_
  refine XO_nil (at_then ?_)
  refine X_cond rfl (fun hc10 => ?_) (fun hc10 => ?_)
  ·
   have hlt_k : k < n := by have h := hc10; simp at h; omega
   obtain ⟨x, hx⟩ := hW.at hlt_k
   refine X_skip ?_
   refine at_then ?_
   refine X_seq ?_
   refine X_block ?_
   refine X_seq (X_region ?_)
   refine zM ?_
   refine zM ?_
   refine XO_v0 (ev_indexSl rfl rfl slt_35 hW (fun hg => by first | omega | (simp [conj] at hg; omega))) rfl rfl rfl ?_
   refine XO_v0 (ev_fieldAddr rfl fld_34_2) rfl rfl rfl ?_
   refine XO_v0 (ev_load rfl sct_32 (fun hg => by exact Sl.get hW hx rfl)) rfl rfl rfl ?_
   refine XO_v0 (ev_lenS rfl slt_32) rfl rfl rfl ?_
   refine zC ?_
   refine XO_nil (at_then ?_)
   refine X_cond rfl (fun hc19 => ?_) (fun hc19 => ?_)
   ·
    have h8 : decide (x.n ≤ 8) = false := by have h := hc19; simp at h; simp; omega
    refine X_seq (X_region ?_)
    refine zA ?_
    refine XO_nil (at_then ?_)
    refine X_ret ?_
    refine at_block_r ?_
    refine at_then_r ?_
    refine at_then_r ?_
    refine at_block_r ?_
    refine at_then_r ?_
    first
    | exact at_ret1 rfl rfl (fun w hw => ⟨by unfold fewW; rw [List.all_eq_false.2 ⟨x, List.mem_of_getElem? hx, by rw [h8]; decide⟩, Bool.and_false], hw.drop⟩)
   ·
    have h8 : decide (x.n ≤ 8) = true := by have h := hc19; simp at h; simp; omega
    refine X_skip ?_
    refine at_block_n ?_
    refine at_then ?_
    refine X_region ?_
    refine zM ?_
    refine zB ?_
    refine zA ?_
    refine XO_nil ?_
    exact at_met2 _ _ ⟨n - (k + 1), by omega, k + 1, rfl, rfl, rfl, rfl, by omega, by rw [take_snoc hx, List.all_append, hall]; simpa using h8⟩ (.cons rfl (.cons rfl .nil)) (by repeat (first | exact .refl | exact subL_left | refine subL_app ?_ | refine .drop ?_ | refine subL_add ?_))
  ·
   have hge_k : n ≤ k := by have h := hc10; simp at h; omega
   rw [List.take_of_length_le (by omega)] at hall
   refine X_exit ?_
   refine at_then_e ?_
   refine at_then_e ?_
   refine at_block_hit ?_
   refine at_then ?_
   refine X_seq (X_region ?_)
   refine zA ?_
   refine XO_nil (at_then ?_)
   refine X_ret ?_
   first
   | exact at_ret1 rfl rfl (fun w hw => ⟨by unfold fewW; rw [hall, decide_eq_true h5]; rfl, hw.drop⟩)
end Go.Proofs.YthcffaheamikgaaDoor
end
section
namespace Go.Proofs.YthcffaheamikgaaDoor
open Go Go.Kn Go.Proofs
def zeroG : Sg := zeroS
def within (n lo hi : Int) : Bool := decide (n ≥ lo) && decide (n ≤ hi)
/-! ### Ratios -/
def magI (n : Int) : Int := if n < 0 then 0 - n else n
def gcdI (a b : Int) : Int := (Int.gcd a b : Int)
/-- Is n / d a ratio? -/
def ratF (n d : Int) : Bool := !(((((decide (d < 1) || decide (d > 1073741824)) || decide (n < -1073741824)) || decide (n > 1073741824)) || (gcdI n d != 1)))
/-- May a sign last from one ratio to another one? -/
def spanF (fn fd tn td : Int) : Bool := (ratF fn fd && ratF tn td) && (decide (fn * td < tn * fd) && (decide (fn ≥ 0) && decide (tn ≤ td)))
/-! ### Signs -/
def frmL (k : Sg) : Bool := within k.id 0 1048576 && within k.role 0 63 && within k.bar 0 4095 && within k.kind 1 9 && within k.mark 1 3 && within k.side 0 2 && within k.dir 0 8 && within k.level 0 3 && within k.size 0 255 && within k.wth 0 64
def frm (k : Sg) : Bool := frmL k && spanF k.fn k.fd k.tn k.td
def skP (xs : List Sg) (i : Nat) : Bool := !(!frm (xs.getD i zeroG) || (decide ((i : Int) > 0) && decide ((xs.getD ((i : Int) - 1).toNat zeroG).id ≥ (xs.getD i zeroG).id)))
def skB (xs : List Sg) : Bool := (List.range xs.length).all (skP xs)
def chkG (xs : List Sg) : Int := if xs.length > 4096 then 2 else if skB xs then 0 else 360
def encR2 (n d : Int) : List Value := [.int .i64 n, .int .i64 d]
def encRA (n d : Int) : Value := .agg (encR2 n d).toArray
theorem u64_id {n : Int} (h : 0 ≤ n ∧ n ≤ 9223372036854775807) : IntKind.u64.wrap n = n := by
  unfold IntKind.wrap IntKind.signed IntKind.bits
  simp
  omega
theorem mag_pos {n : Int} (hn : -1073741824 ≤ n ∧ n ≤ 1073741824) (h : ¬ n < 0) : IntKind.u64.wrap n = magI n := by
  rw [u64_id (by omega)]
  unfold magI; rw [if_neg h]
theorem mag_neg {n : Int} (hn : -1073741824 ≤ n ∧ n ≤ 1073741824) (h : n < 0) : IntKind.u64.wrap (0 - IntKind.u64.wrap n) = magI n := by
  unfold magI; rw [if_pos h]
  unfold IntKind.wrap IntKind.signed IntKind.bits
  simp
  omega
/-- The cells of the iterator of Euclid's algorithm. -/
def remL (t b1 b2 : Nat) (a b : Int) : Go.Kn.Loc := [(b2, .cells #[.int .u64 b] t (0, 0)), (b1, .cells #[.int .u64 a] t (0, 0))]
/-- The numbers of Euclid's algorithm. -/
def remN (a b : Nat) : List Nat := if a = 0 then [] else if b = 0 then [a, 0] else if a % b = 0 then [a, b] else a :: remN b (a % b)
termination_by b
decreasing_by exact Nat.mod_lt _ (by omega)
theorem remN_zero (b : Nat) : remN 0 b = [] := by rw [remN]; rfl
theorem remN_end {a b : Nat} (ha : a ≠ 0) (hb : b ≠ 0) (h : a % b = 0) : remN a b = [a, b] := by rw [remN, if_neg ha, if_neg hb, if_pos h]
theorem remN_step {a b : Nat} (ha : a ≠ 0) (hb : b ≠ 0) (h : a % b ≠ 0) : remN a b = a :: remN b (a % b) := by rw [remN, if_neg ha, if_neg hb, if_neg h]
theorem remN_gcd : ∀ (m : Nat) {a b d : Nat}, b ≤ m → b ≠ 0 → (a = 0 → d = b) → (remN a b).getLastD d = Nat.gcd a b := by
  intro m
  induction m with
  | zero => intro a b d h1 h2; omega
  | succ m ih =>
    intro a b d h1 h2 hd
    by_cases ha : a = 0
    · subst ha; rw [remN_zero, Nat.gcd_zero_left, hd rfl]; rfl
    · by_cases h : a % b = 0
      · rw [remN_end ha h2 h]
        show b = _
        rw [Nat.gcd_comm, Nat.gcd_rec, h, Nat.gcd_zero_left]
      · rw [remN_step ha h2 h, List.getLastD_cons, ih (by have := Nat.mod_lt a (show 0 < b by omega); omega) h (fun e => absurd e h2)]
        rw [Nat.gcd_comm b, ← Nat.gcd_rec, Nat.gcd_comm]
theorem tmod_nat (a b : Nat) : ((a : Int)).tmod (b : Int) = ((a % b : Nat) : Int) := by
  rw [Int.tmod_eq_emod_of_nonneg (by omega)]; rfl
theorem mul_b {a b : Int} (ha : -1073741824 ≤ a ∧ a ≤ 1073741824) (hb : -1073741824 ≤ b ∧ b ≤ 1073741824) : -9223372036854775808 ≤ a * b ∧ a * b ≤ 9223372036854775807 := by
  have h1 : (a * b).natAbs ≤ 1073741824 * 1073741824 := by
    rw [Int.natAbs_mul]
    exact Nat.mul_le_mul (by omega) (by omega)
  omega
def ratE (n d : Int) : Int := if ratF n d then 0 else 120
theorem ratF_in {n d : Int} (h : ratF n d = true) : (1 ≤ d ∧ d ≤ 1073741824) ∧ -1073741824 ≤ n ∧ n ≤ 1073741824 := by
  unfold ratF at h
  simp at h
  omega
theorem mag_gcd (n d : Int) : Nat.gcd (magI n).toNat d.toNat = Int.gcd n d.toNat := by
  unfold Int.gcd magI
  congr 1
  split <;> omega
theorem maxI_one {b : Nat} (h : 0 < b) : maxI (b : Int) 1 = (b : Int) := by
  unfold maxI
  split <;> omega
theorem rem_pre {a0 b0 a b : Nat} {pre : List Nat} (h : remN a0 b0 = pre ++ remN a b) (ha : a ≠ 0) : pre ++ [a] <+: remN a0 b0 := by
  rw [h, remN, if_neg ha]
  have key : ∀ l : List Nat, pre ++ [a] <+: pre ++ a :: l := fun l => ⟨l, by simp⟩
  split
  · exact key _
  · split <;> exact key _
theorem last_snoc {l : List Nat} {x d : Nat} : (l ++ [x]).getLastD d = x := by simp [List.getLastD_eq_getLast?]
theorem rat_bad {n d : Int} (h : ((((decide (d < 1) || decide (d > 1073741824)) || decide (n < -1073741824)) || decide (n > 1073741824)) || (gcdI n d != 1)) = true) : ratF n d = false := by unfold ratF; rw [h]; rfl
theorem rat_good {n d : Int} (h : ((((decide (d < 1) || decide (d > 1073741824)) || decide (n < -1073741824)) || decide (n > 1073741824)) || (gcdI n d != 1)) = false) : ratF n d = true := by unfold ratF; rw [h]; rfl
theorem span_eq {fn fd tn td : Int} : (ratE fn fd != 0 || ratE tn td != 0) = !(ratF fn fd && ratF tn td) := by
  unfold ratE
  cases ratF fn fd <;> cases ratF tn td <;> rfl
def cmpE (an ad bn bd : Int) : Int := if ratF an ad && ratF bn bd then 0 else 120
def cmpV (an ad bn bd : Int) : Int := if ratF an ad && ratF bn bd then cmpI (an * bd) (bn * ad) else 0
theorem fine_eq {fn fd tn td : Int} : (((cmpE fn fd tn td == 0) && decide (cmpV fn fd tn td < 0)) && decide (fn ≥ 0) && decide (tn ≤ td)) = spanF fn fd tn td := by
  unfold cmpE cmpV spanF cmpI
  cases h : (ratF fn fd && ratF tn td) with
  | false => rfl
  | true =>
    simp only [if_true, Bool.true_and]
    by_cases h2 : fn * td < tn * fd
    · simp [h2, Bool.and_assoc]
    · by_cases h3 : fn * td > tn * fd <;> simp [h2, h3]
theorem skP_at {xs : List Sg} {k : Nat} {x : Sg} (hx : xs[k]? = some x) : skP xs k = !(!frm x || (decide ((k : Int) > 0) && decide ((xs.getD ((k : Int) - 1).toNat zeroG).id ≥ x.id))) := by unfold skP; rw [getD_of hx]
end Go.Proofs.YthcffaheamikgaaDoor
end
