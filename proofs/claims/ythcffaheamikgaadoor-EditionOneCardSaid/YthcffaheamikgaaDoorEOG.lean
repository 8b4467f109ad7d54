/- editionOne_holds, part G of the proof: what its theorems say holds without further conditions. -/
import Derived.ProofKit
import Derived.Deep.Slices
import Derived.Test.YthcffaheamikgaaDoorRows
import Derived.LaidMore
import Derived.MakeChecks
import Derived.Lib.LaidTab
import Derived.Test.YthcffaheamikgaaDoorCards
import Derived.Test.YthcffaheamikgaaDoorTie
import Derived.Stop.Joined
import Derived.SevenTiedAt
import Derived.Test.YthcffaheamikgaaDoorEOF
section
namespace Go.Proofs.YthcffaheamikgaaDoor
open Go Go.Kn Go.Proofs
theorem step_ne {x y : Int} (h : x ≠ y) : 1 ≤ stepF x y := by
  unfold stepF; rw [if_neg h]; split
  · decide
  · split <;> decide
theorem cT_agreed {S : List Int} {u : Nat → Int} {n : Int} (hn : n ∈ S) (hl : n ≠ 8589934592) : ∀ (T : Tr), (∀ w, T.has w → u w = n) → cT S u T n = 0 ∧ ∀ x, x ≠ n → 1 ≤ cT S u T x
  | .leaf w, h => by
    have hu := h w rfl
    constructor
    · unfold cT leafG; rw [hu]; simp
    · intro x hx
      unfold cT leafG; rw [hu, if_pos (by simp [Ne.symm hx, hl])]; decide
  | .node a b, h => by
    obtain ⟨a1, a2⟩ := cT_agreed hn hl a fun w hw => h w (.inl hw)
    obtain ⟨b1, b2⟩ := cT_agreed hn hl b fun w hw => h w (.inr hw)
    have z : ∀ (T : Tr), cT S u T n = 0 → bl S (cT S u T) n = 0 := fun T e => by
      have h1 := bl_le (f := cT S u T) (x := n) hn
      have h2 := bl_nn (S := S) (f := cT S u T) (x := n) fun y _ => cT_nn T y
      rw [step_self, e] at h1; omega
    have o : ∀ (T : Tr), (∀ x, x ≠ n → 1 ≤ cT S u T x) → ∀ x, x ≠ n → 1 ≤ bl S (cT S u T) x := fun T e x hx => bl_ge (fun y _ => by
      have h1 := cT_nn (S := S) (u := u) T y
      have h2 := (step_in x y).1
      by_cases ey : y = n
      · have := step_ne (x := x) (y := y) (by rw [ey]; exact hx); omega
      · have := e y ey; omega) (by decide)
    constructor
    · show bl S (cT S u a) n + bl S (cT S u b) n = 0
      rw [z a a1, z b b1]; rfl
    · intro x hx
      show 1 ≤ bl S (cT S u a) x + bl S (cT S u b) x
      have h1 := o a a2 x hx
      have h2 := o b b2 x hx
      omega
theorem agreed_root {rows : List (List Int)} {cl : List Int} {k : Nat} {n : Int} (hr : rowsN rows = 0) (hc : chkN rows.length cl = 0) (hn : n ≠ 8589934592) (h : ∀ r ∈ rows, r.getD k 0 = n) : rootF rows cl k = [n] := by
  obtain ⟨n1, n6, _⟩ := rows_ok hr
  have hal := all_in (n := (rows.length : Int)) ⟨by omega, by omega⟩
  obtain ⟨t1, _, _⟩ := treeT_ok hc 64 (allS rows.length) (by omega) (ok_all hc)
  obtain ⟨r0, hr0⟩ : ∃ r, r ∈ rows := List.exists_mem_of_length_pos (by omega)
  have hS : n ∈ statesF rows k := st_mem.2 (.inr ⟨⟨r0, hr0, h r0 hr0⟩, hn⟩)
  have hu : ∀ w, (treeT cl 64 (allS rows.length)).has w → uF rows k w = n := fun w hw => by
    have hw := has_lt t1 hw
    have hg : rows[w]? = some (rows[w]'hw) := List.getElem?_eq_getElem hw
    unfold uF; rw [getD_of hg]; exact h _ (List.mem_of_getElem? hg)
  obtain ⟨c0, c1⟩ := cT_agreed (u := uF rows k) hS hn _ hu
  have hm : mn (statesF rows k) (cT (statesF rows k) (uF rows k) (treeT cl 64 (allS rows.length))) = 0 := by
    have h1 := mn_le (f := cT (statesF rows k) (uF rows k) (treeT cl 64 (allS rows.length))) hS
    obtain ⟨y, _, hy⟩ := mn_at (f := cT (statesF rows k) (uF rows k) (treeT cl 64 (allS rows.length))) (List.ne_nil_of_mem hS)
    have h2 := cT_nn (S := statesF rows k) (u := uF rows k) (treeT cl 64 (allS rows.length)) y
    rw [c0] at h1; omega
  refine up_eq root_up (List.pairwise_singleton _ _) fun z => ?_
  rw [root_iff hr hc, hm, List.mem_singleton]
  constructor
  · rintro ⟨_, e⟩
    exact Decidable.byContradiction fun hz => by have := c1 z hz; omega
  · rintro rfl; exact ⟨hS, c0⟩
theorem lf_none : ∀ k, lfK [] k = []
  | 0 => rfl
  | k + 1 => lf_nil (lf_none k)
theorem agreed_read {rows : List (List Int)} {cl : List Int} {k : Nat} {n : Int} (hr : rowsN rows = 0) (hc : chkN rows.length cl = 0) (hn : n ≠ 8589934592) (h : ∀ r ∈ rows, r.getD k 0 = n) : readK rows cl [] k = n := by
  rw [rd_nil (lf_none k)]
  unfold baseK
  rw [agreed_root hr hc hn h]
  split
  · rename_i h2; simpa using h2
  · rfl
/-! ### Emendations -/
end Go.Proofs.YthcffaheamikgaaDoor
end
section
namespace Go.Proofs.YthcffaheamikgaaDoor
open Go Go.Kn Go.Proofs
theorem fun_8 : Fun Tryd.prog 8 := .of Tryd.func8 (by kernel_rfl) (by kernel_rfl)
end Go.Proofs.YthcffaheamikgaaDoor
end
section
namespace Go.Proofs.YthcffaheamikgaaDoor
open Go Go.Kn Go.Proofs
theorem wrap_id {n : Int} (h : 0 ≤ n ∧ n ≤ 9223372036854775807) : IntKind.i64.wrap n = n := by
  unfold IntKind.wrap IntKind.signed IntKind.bits; simp; omega
theorem bv_nat {a : Nat} (h : a < 18446744073709551616) : (BitVec.ofInt 64 (a : Int)).toNat = a := by
  rw [BitVec.toNat_ofInt]
  omega
theorem orI_nat {a b : Nat} (ha : a < 9223372036854775808) (hb : b < 9223372036854775808) : orI (a : Int) (b : Int) = ((a ||| b : Nat) : Int) := by
  unfold orI
  rw [BitVec.toNat_or, bv_nat (by omega), bv_nat (by omega)]
  have : a ||| b < 2 ^ 63 := Nat.or_lt_two_pow (by omega) (by omega)
  exact wrap_id (by omega)
theorem andI_nat {a b : Nat} (ha : a < 9223372036854775808) (hb : b < 9223372036854775808) : andI (a : Int) (b : Int) = ((a &&& b : Nat) : Int) := by
  unfold andI
  rw [BitVec.toNat_and, bv_nat (by omega), bv_nat (by omega)]
  have : a &&& b ≤ a := Nat.and_le_left
  exact wrap_id (by omega)
/-- A digit put behind a number. -/
theorem putN {c n b : Nat} (hb : b ≤ 8) (hn : n < 2 ^ b) (hc : c < 2 ^ 40) : orI (IntKind.i64.wrap ((c : Int) * 2 ^ (min (b : Int).toNat IntKind.i64.bits))) (n : Int) = ((c * 2 ^ b + n : Nat) : Int) := by
  have e1 : min (b : Int).toNat IntKind.i64.bits = b := by
    show min b 64 = b
    omega
  have h2 : 2 ^ b ≤ 2 ^ 8 := Nat.pow_le_pow_right (by decide) hb
  have h3 : c * 2 ^ b < 2 ^ 40 * 2 ^ 8 := Nat.mul_lt_mul_of_lt_of_le hc h2 (by decide)
  have e2 : (c : Int) * 2 ^ b = ((c * 2 ^ b : Nat) : Int) := by simp
  rw [e1, e2, wrap_id (by omega), orI_nat (by omega) (by omega)]
  have := Nat.two_pow_add_eq_or_of_lt hn c
  rw [Nat.mul_comm c]
  rw [this]
theorem maskN {b : Nat} (hb : b ≤ 8) : IntKind.i64.wrap (1 * 2 ^ (min (b : Int).toNat IntKind.i64.bits)) - 1 = ((2 ^ b - 1 : Nat) : Int) := by
  have e1 : min (b : Int).toNat IntKind.i64.bits = b := by
    show min b 64 = b
    omega
  have h1 : 0 < 2 ^ b := Nat.pow_pos (by decide)
  have h2 : 2 ^ b ≤ 2 ^ 8 := Nat.pow_le_pow_right (by decide) hb
  have e2 : (1 : Int) * 2 ^ b = ((2 ^ b : Nat) : Int) := by simp
  rw [e1, e2, wrap_id (by omega)]
  omega
theorem lbN_nat {b c : Nat} (hb : b ≤ 8) (hc : c < 2 ^ 62) : lbN b (c : Int) = ((c % 2 ^ b : Nat) : Int) := by
  unfold lbN
  have h2 : 2 ^ b ≤ 2 ^ 8 := Nat.pow_le_pow_right (by decide) hb
  rw [maskN hb, andI_nat (by omega) (by omega), Nat.and_two_pow_sub_one_eq_mod]
theorem shN_nat {b c : Nat} (hb : b ≤ 8) : shN b (c : Int) = ((c / 2 ^ b : Nat) : Int) := by
  unfold shN
  have e1 : min (b : Int).toNat IntKind.i64.bits = b := by
    show min b 64 = b
    omega
  rw [e1]
  have e2 : (2 : Int) ^ b = ((2 ^ b : Nat) : Int) := by simp
  rw [e2]
  rw [Int.fdiv_eq_ediv_of_nonneg _ (Int.natCast_nonneg _)]
  first | exact (Int.natCast_ediv _ _).symm | exact (Int.ofNat_ediv _ _).symm | rfl
/-- The digits of a sign, as natural numbers in range. -/
structure DigOK (r k s d l z w : Nat) : Prop where
  r : r ≤ 63
  k1 : 1 ≤ k
  k : k ≤ 9
  s : s ≤ 2
  d : d ≤ 8
  l : l ≤ 3
  z : z ≤ 255
  w : w ≤ 64
def codeN (r k s d l z w : Nat) : Nat := (((((r * 16 + k) * 4 + s) * 16 + d) * 4 + l) * 256 + z) * 128 + w
theorem packN {r k s d l z w : Nat} (h : DigOK r k s d l z w) : packG 0 [⟨r, 0, 63, 6⟩, ⟨k, 1, 9, 4⟩, ⟨s, 0, 2, 2⟩, ⟨d, 0, 8, 4⟩, ⟨l, 0, 3, 2⟩, ⟨z, 0, 255, 8⟩, ⟨w, 0, 64, 7⟩] = some ((codeN r k s d l z w : Nat) : Int) := by
  obtain ⟨h1, h2, h3, h4, h5, h6, h7, h8⟩ := h
  have g : ∀ {c : Int} {x : Dg} {ds : List Dg}, badD x = false → packG c (x :: ds) = packG (putD c x) ds := fun {c x ds} hb => by
    show (if badD x = true then none else packG (putD c x) ds) = _
    rw [if_neg (by rw [hb]; decide)]
  have q : ∀ {c n b : Nat} {lo hi : Int}, b ≤ 8 → n < 2 ^ b → c < 2 ^ 40 → putD (c : Int) ⟨(n : Int), lo, hi, (b : Int)⟩ = ((c * 2 ^ b + n : Nat) : Int) := fun hb hn hc => putN hb hn hc
  have bd : ∀ {n lo hi b : Int}, lo ≤ n → n ≤ hi → badD ⟨n, lo, hi, b⟩ = false := fun a b => by unfold badD; simp; omega
  rw [g (bd (by omega) (by omega)), show (0 : Int) = ((0 : Nat) : Int) from rfl, show (6 : Int) = ((6 : Nat) : Int) from rfl, q (by decide) (by omega) (by decide)]
  rw [g (bd (by omega) (by omega)), show (4 : Int) = ((4 : Nat) : Int) from rfl, q (b := 4) (by decide) (by omega) (by omega)]
  rw [g (bd (by omega) (by omega)), show (2 : Int) = ((2 : Nat) : Int) from rfl, q (b := 2) (by decide) (by omega) (by omega)]
  rw [g (bd (by omega) (by omega)), q (b := 4) (by decide) (by omega) (by omega)]
  rw [g (bd (by omega) (by omega)), q (b := 2) (by decide) (by omega) (by omega)]
  rw [g (bd (by omega) (by omega)), show (8 : Int) = ((8 : Nat) : Int) from rfl, q (b := 8) (by decide) (by omega) (by omega)]
  rw [g (bd (by omega) (by omega)), show (7 : Int) = ((7 : Nat) : Int) from rfl, q (b := 7) (by decide) (by omega) (by omega)]
  show some _ = some _
  unfold codeN
  simp
/-- The digits of a code. -/
theorem rawS_nat (c : Nat) (hc : c < 2 ^ 33) : rawS (c : Int) = ⟨0, ((c / 128 / 256 / 4 / 16 / 4 / 16 : Nat) : Int), 0, 0, ((c / 128 / 256 / 4 / 16 / 4 % 16 : Nat) : Int), ((c / 128 / 256 / 4 / 16 % 4 : Nat) : Int), ((c / 128 / 256 / 4 % 16 : Nat) : Int), ((c / 128 / 256 % 4 : Nat) : Int), ((c / 128 % 256 : Nat) : Int), ((c % 128 : Nat) : Int), 0, 0, 0, 0⟩ := by
  have s7 : shN 7 (c : Int) = ((c / 128 : Nat) : Int) := shN_nat (by decide)
  have s8 : shN 8 ((c / 128 : Nat) : Int) = ((c / 128 / 256 : Nat) : Int) := shN_nat (by decide)
  have s2 : shN 2 ((c / 128 / 256 : Nat) : Int) = ((c / 128 / 256 / 4 : Nat) : Int) := shN_nat (by decide)
  have s4 : shN 4 ((c / 128 / 256 / 4 : Nat) : Int) = ((c / 128 / 256 / 4 / 16 : Nat) : Int) := shN_nat (by decide)
  have t2 : shN 2 ((c / 128 / 256 / 4 / 16 : Nat) : Int) = ((c / 128 / 256 / 4 / 16 / 4 : Nat) : Int) := shN_nat (by decide)
  have t4 : shN 4 ((c / 128 / 256 / 4 / 16 / 4 : Nat) : Int) = ((c / 128 / 256 / 4 / 16 / 4 / 16 : Nat) : Int) := shN_nat (by decide)
  unfold rawS
  rw [s7, s8, s2, s4, t2, t4]
  rw [lbN_nat (b := 4) (c := c / 128 / 256 / 4 / 16 / 4) (by decide) (by omega), lbN_nat (b := 2) (c := c / 128 / 256 / 4 / 16) (by decide) (by omega), lbN_nat (b := 4) (c := c / 128 / 256 / 4) (by decide) (by omega), lbN_nat (b := 2) (c := c / 128 / 256) (by decide) (by omega), lbN_nat (b := 8) (c := c / 128) (by decide) (by omega), lbN_nat (b := 7) (c := c) (by decide) (by omega)]
theorem rawS_code {r k s d l z w : Nat} (h : DigOK r k s d l z w) : rawS ((codeN r k s d l z w : Nat) : Int) = ⟨0, r, 0, 0, k, s, d, l, z, w, 0, 0, 0, 0⟩ := by
  obtain ⟨h1, h2, h3, h4, h5, h6, h7, h8⟩ := h
  rw [rawS_nat _ (by unfold codeN; omega)]
  unfold codeN
  congr 1 <;> (congr 1; omega)
end Go.Proofs.YthcffaheamikgaaDoor
end
section
namespace Go.Proofs.YthcffaheamikgaaDoor
open Go Go.Kn Go.Proofs
/-- The digits of a sign are in range: then they are natural numbers. -/
theorem dig_of {x : Sg} (h : (packG 0 (dgs x)).isSome = true) : ∃ r k s d l z w : Nat, DigOK r k s d l z w ∧ x.role = r ∧ x.kind = k ∧ x.side = s ∧ x.dir = d ∧ x.level = l ∧ x.size = z ∧ x.wth = w := by
  have g : ∀ {c : Int} {y : Dg} {ds : List Dg}, (packG c (y :: ds)).isSome = true → badD y = false ∧ (packG (putD c y) ds).isSome = true := fun {c y ds} hs => by
    have hs : (if badD y = true then none else packG (putD c y) ds).isSome = true := hs
    cases hb : badD y with
    | true => rw [hb] at hs; cases hs
    | false => rw [hb] at hs; exact ⟨rfl, hs⟩
  have u : ∀ {n lo hi b : Int}, badD ⟨n, lo, hi, b⟩ = false → lo ≤ n ∧ n ≤ hi := fun hb => by unfold badD at hb; simp at hb; omega
  unfold dgs at h
  obtain ⟨b1, h⟩ := g h
  obtain ⟨b2, h⟩ := g h
  obtain ⟨b3, h⟩ := g h
  obtain ⟨b4, h⟩ := g h
  obtain ⟨b5, h⟩ := g h
  obtain ⟨b6, h⟩ := g h
  obtain ⟨b7, _⟩ := g h
  have b1 := u b1; have b2 := u b2; have b3 := u b3; have b4 := u b4; have b5 := u b5; have b6 := u b6; have b7 := u b7
  exact ⟨x.role.toNat, x.kind.toNat, x.side.toNat, x.dir.toNat, x.level.toNat, x.size.toNat, x.wth.toNat, ⟨by omega, by omega, by omega, by omega, by omega, by omega, by omega, by omega⟩, by omega, by omega, by omega, by omega, by omega, by omega, by omega⟩
theorem dig_code {x : Sg} {r k s d l z w : Nat} (h : DigOK r k s d l z w) (e : x.role = r ∧ x.kind = k ∧ x.side = s ∧ x.dir = d ∧ x.level = l ∧ x.size = z ∧ x.wth = w) : codeF x = ((codeN r k s d l z w : Nat) : Int) ∧ codeE x = 0 := by
  obtain ⟨e1, e2, e3, e4, e5, e6, e7⟩ := e
  have hp : packG 0 (dgs x) = some ((codeN r k s d l z w : Nat) : Int) := by
    unfold dgs
    rw [e1, e2, e3, e4, e5, e6, e7]
    exact packN h
  unfold codeF codeE
  rw [hp]; exact ⟨rfl, rfl⟩
theorem codeE_ok {x : Sg} (h : codeE x = 0) : (packG 0 (dgs x)).isSome = true := by
  unfold codeE at h
  split at h
  · assumption
  · cases h
/-- A sign with digits in range: its code's sign has these digits. -/
theorem sign_code {x : Sg} (h : codeE x = 0) : signE (codeF x) = 0 ∧ signF (codeF x) = ⟨0, x.role, 0, 0, x.kind, x.side, x.dir, x.level, x.size, x.wth, 0, 0, 0, 0⟩ ∧ 0 < codeF x ∧ codeF x < 8589934592 := by
  obtain ⟨r, k, s, d, l, z, w, hd, e⟩ := dig_of (codeE_ok h)
  obtain ⟨c1, _⟩ := dig_code hd e
  have hr := rawS_code hd
  have he : signE ((codeN r k s d l z w : Nat) : Int) = 0 := by
    unfold signE
    rw [hr]
    exact (dig_code hd ⟨rfl, rfl, rfl, rfl, rfl, rfl, rfl⟩).2
  rw [c1]
  obtain ⟨e1, e2, e3, e4, e5, e6, e7⟩ := e
  obtain ⟨h1, h2, h3, h4, h5, h6, h7, h8⟩ := hd
  refine ⟨he, ?_, by unfold codeN; omega, by unfold codeN; omega⟩
  unfold signF
  rw [if_neg (by omega), hr, e1, e2, e3, e4, e5, e6, e7]
end Go.Proofs.YthcffaheamikgaaDoor
end
section
namespace Go.Proofs.YthcffaheamikgaaDoor
open Go Go.Kn Go.Proofs
def cz : Nat → (Nat → Int) → Nat
  | 0, _ => 0
  | n + 1, f => cz n f + (if f n = 0 then 0 else 1)
theorem cz_zero : ∀ n, cz n (fun _ => 0) = 0
  | 0 => rfl
  | n + 1 => by unfold cz; rw [cz_zero n]; rfl
theorem cz_upd {f : Nat → Int} {a : Nat} {v : Int} : ∀ n, cz n (updF f a v) ≤ cz n f + (if a < n then 1 else 0)
  | 0 => Nat.zero_le _
  | n + 1 => by
    have ih := cz_upd (f := f) (a := a) (v := v) n
    unfold cz
    by_cases e : n = a
    · subst e
      rw [updF_same, if_pos (show n < n + 1 by omega)]
      rw [if_neg (show ¬ n < n by omega)] at ih
      split <;> split <;> omega
    · rw [updF_ne e]
      by_cases h : a < n
      · rw [if_pos h] at ih
        rw [if_pos (show a < n + 1 by omega)]
        split <;> omega
      · rw [if_neg h] at ih
        rw [if_neg (show ¬ a < n + 1 by omega)]
        split <;> omega
theorem cz_one {f : Nat → Int} {a n : Nat} {v : Int} : cz n (updF f a v) ≤ cz n f + 1 := by
  have := cz_upd (f := f) (a := a) (v := v) n
  split at this <;> omega
theorem cz_tx {w : Nat → Nat} {T : List Int} {n : Nat} : ∀ k, cz n (txF w T k) ≤ k
  | 0 => by show cz n (fun _ => 0) ≤ 0; rw [cz_zero]; exact Nat.le_refl _
  | k + 1 => by
    have ih := cz_tx (w := w) (T := T) (n := n) k
    have := cz_one (f := txF w T k) (a := sumF w k + w k) (n := n) (v := T.getD k 0)
    show cz n (updF (txF w T k) (sumF w k + w k) (T.getD k 0)) ≤ k + 1
    omega
def both (y : Int × Int) : Bool := decide (y.1 > 0) && decide (y.2 > 0)
theorem cz_pr {w : Nat → Nat} {l : List Int} {n : Nat} (ps : List (Int × Int)) : ∀ (f : Nat → Int), cz n (ps.foldl (prF w l) f) ≤ cz n f + (ps.filter both).length := by
  induction ps with
  | nil => intro f; exact Nat.le_refl _
  | cons y ps ih =>
    intro f
    rw [List.foldl_cons]
    have h := ih (prF w l f y)
    cases hb : (decide (y.1 > 0) && decide (y.2 > 0)) with
    | true =>
      rw [prF_yes hb] at h ⊢
      have h2 := cz_one (f := f) (a := sumF w (y.1 - 1).toNat + w (y.1 - 1).toNat) (n := n) (v := l.getD (y.2 - 1).toNat 0)
      rw [List.filter_cons_of_pos (show both y = true from hb), List.length_cons]; omega
    | false =>
      rw [prF_no hb] at h ⊢
      rw [List.filter_cons_of_neg (show ¬ both y = true by unfold both; rw [hb]; decide)]; exact h
theorem cz_al {w : Nat → Nat} {l : List Int} {n : Nat} (qs : List (Int × Int)) : ∀ (s : (Nat → Int) × (Nat → Nat)), cz n (qs.foldl (alS w l) s).1 ≤ cz n s.1 + qs.length := by
  induction qs with
  | nil => intro s; exact Nat.le_refl _
  | cons q qs ih =>
    intro s
    rw [List.foldl_cons]
    have h := ih (alS w l s q)
    have h2 := cz_one (f := s.1) (a := sumF w q.1.toNat + s.2 q.1.toNat) (n := n) (v := l.getD q.2.toNat 0)
    have h3 : cz n (alS w l s q).1 ≤ cz n s.1 + 1 := h2
    rw [List.length_cons]; omega
def sec (y : Int × Int) : Bool := decide (y.2 > 0)
theorem alo_cnt {m n : Nat} : ∀ (ps : List (Int × Int)) (a : Int), (∀ p ∈ ps, QOK m n p) → (ps.filter both).length + (aloF a ps).length ≤ (ps.filter sec).length
  | [], _, _ => Nat.le_refl _
  | p :: ps, a, h => by
    obtain ⟨i, k, rfl, _, _, h0⟩ := h p (List.mem_cons_self ..)
    have hr := fun q hq => h q (List.mem_cons_of_mem _ hq)
    unfold aloF
    split
    · rename_i hi
      have ih := alo_cnt ps (i : Int) hr
      by_cases hk : 0 < k
      · rw [List.filter_cons_of_pos (show both ((i : Int), (k : Int)) = true by unfold both; simp at hi ⊢; omega), List.filter_cons_of_pos (show sec ((i : Int), (k : Int)) = true by unfold sec; simp; omega), List.length_cons, List.length_cons]
        have ih : (ps.filter both).length + (aloF ((i : Int), (k : Int)).1 ps).length ≤ (ps.filter sec).length := ih
        omega
      · rw [List.filter_cons_of_neg (show ¬ both ((i : Int), (k : Int)) = true by unfold both; simp; omega), List.filter_cons_of_neg (show ¬ sec ((i : Int), (k : Int)) = true by unfold sec; simp; omega)]
        exact ih
    · rename_i hi
      have ih := alo_cnt ps a hr
      have hi0 : i = 0 := by simp at hi; omega
      rw [List.filter_cons_of_neg (show ¬ both ((i : Int), (k : Int)) = true by unfold both; simp; omega), List.filter_cons_of_pos (show sec ((i : Int), (k : Int)) = true by unfold sec; simp; omega), List.length_cons, List.length_cons]
      omega
theorem pa_cnt {a b : List Int} : ∀ (f i k : Nat), i ≤ a.length → k ≤ b.length → ((paF a b f i k).filter sec).length + k ≤ b.length
  | 0, _, k, _, hk => by show 0 + k ≤ _; omega
  | f + 1, i, k, hi, hk => by
    unfold paF
    split
    · rename_i hg
      split
      · rename_i hb
        have h1 : i < a.length ∧ k < b.length := by unfold bothP at hb; simp at hb; omega
        have ih := pa_cnt f (i + 1) (k + 1) h1.1 h1.2
        rw [List.filter_cons_of_pos (show sec (((i + 1 : Nat) : Int), ((k + 1 : Nat) : Int)) = true by unfold sec; simp <;> omega), List.length_cons]; omega
      · rename_i hb
        split
        · rename_i ho
          have h1 : i < a.length := by unfold oneP at ho; simp at ho; omega
          have ih := pa_cnt f (i + 1) k h1 hk
          rw [List.filter_cons_of_neg (show ¬ sec (((i + 1 : Nat) : Int), (0 : Int)) = true by unfold sec; simp)]; exact ih
        · rename_i ho
          have h1 : k < b.length := two_lt hi hk (by simp at hg; omega) (by simpa using hb) (by simpa using ho)
          have ih := pa_cnt f i (k + 1) hi h1
          rw [List.filter_cons_of_pos (show sec ((0 : Int), ((k + 1 : Nat) : Int)) = true by unfold sec; simp <;> omega), List.length_cons]; omega
    · show 0 + k ≤ _; omega
theorem pfW_cnt {xs : List Wr} {i : Nat} : ((pfW xs i).filter both).length + (alW xs i).length ≤ (csW xs i).length := by
  have h1 := alo_cnt (pfW xs i) 0 (pfW_ok (xs := xs) (i := i)).1
  have h2 : ((pfW xs i).filter sec).length ≤ (csW xs i).length := by
    unfold pfW
    split
    · exact Nat.zero_le _
    · unfold pairR
      split
      · exact Nat.zero_le _
      · have := pa_cnt (a := csW xs 0) (b := csW xs i) ((csW xs 0).length + (csW xs i).length) 0 0 (Nat.zero_le _) (Nat.zero_le _)
        unfold pairL; omega
  exact Nat.le_trans h1 h2
theorem row_cz {xs : List Wr} {i n : Nat} : cz n (rowF (wdW xs) (csW xs 0) (csW xs i) i (pfW xs i)) ≤ (csW xs i).length := by
  unfold rowF alP
  have h1 := cz_al (w := wdW xs) (l := csW xs i) (n := n) (aloL (pfW xs i)) ((pfW xs i).foldl (prF (wdW xs) (csW xs i)) (if i = 0 then txF (wdW xs) (csW xs 0) (csW xs 0).length else fun _ => 0), fun _ => 0)
  have h2 := cz_pr (w := wdW xs) (l := csW xs i) (n := n) (pfW xs i) (if i = 0 then txF (wdW xs) (csW xs 0) (csW xs 0).length else fun _ => 0)
  have h3 := pfW_cnt (xs := xs) (i := i)
  by_cases h0 : i = 0
  · subst h0
    have h4 := cz_tx (w := wdW xs) (T := csW xs 0) (n := n) (csW xs 0).length
    have e1 : pfW xs 0 = [] := rfl
    rw [e1] at h1 h2 ⊢
    simp only [if_true] at h1 h2 ⊢
    have e2 : aloL [] = [] := rfl
    rw [e2] at h1 ⊢
    simp only [List.filter_nil, List.length_nil, Nat.add_zero] at h1 h2
    omega
  · rw [if_neg h0] at h1 h2 ⊢
    rw [cz_zero] at h2
    have e3 : (alW xs i).length = (aloL (pfW xs i)).length := rfl
    simp only at h1
    omega
theorem nzF_cz {n : Nat} {f : Nat → Int} : ∀ k, k ≤ n → nzF (rngL n f) k = cz k f
  | 0, _ => rfl
  | k + 1, hk => by
    have ih := nzF_cz (n := n) (f := f) k (by omega)
    have hx : (rngL n f)[k]? = some (f k) := rngL_at (by omega)
    unfold cz
    by_cases h : f k = 0
    · rw [nzF_no hx (by simp [h]), ih, if_pos h]; rfl
    · rw [nzF_yes hx (by simp [h]), ih, if_neg h]
theorem tab_nz {xs : List Wr} : NzOK xs (tabR xs) := by
  intro i x row hx hr k hk h0
  have hil : (tabR xs).length ≤ xs.length := tabR_in.1
  unfold tabR at hr
  split at hr
  · simp at hr
  · rw [List.getElem?_map] at hr
    have hi := (List.getElem?_eq_some_iff.1 hx).1
    rw [List.getElem?_range hi, Option.map_some] at hr
    have hr := (Option.some.inj hr).symm
    subst hr
    unfold rowW at hk h0 ⊢
    rw [rngL_len] at hk
    have hg := getD_of (d := 0) (rngL_at (f := rowF (wdW xs) (csW xs 0) (csW xs i) i (pfW xs i)) hk)
    rw [hg] at h0
    rw [nzF_cz k (by omega)]
    have h1 := row_cz (xs := xs) (i := i) (n := k + 1)
    have h2 : cz (k + 1) (rowF (wdW xs) (csW xs 0) (csW xs i) i (pfW xs i)) = cz k (rowF (wdW xs) (csW xs 0) (csW xs i) i (pfW xs i)) + 1 := by
      show _ + (if _ then 0 else 1) = _
      rw [if_neg h0]
    have h3 : (csW xs i).length = x.rs.length := by rw [csW_at hx, List.length_map]
    omega
end Go.Proofs.YthcffaheamikgaaDoor
end
section
namespace Go.Proofs.YthcffaheamikgaaDoor
open Go Go.Kn Go.Proofs
theorem chk_frm {y : Sg} (h : chkG [y] = 0) : frm y = true := by
  unfold chkG at h
  rw [if_neg (show ¬ [y].length > 4096 from by simp)] at h
  split at h
  · rename_i h2
    unfold skB at h2
    have h3 := List.all_eq_true.1 h2 0 (by simp)
    unfold skP at h3
    simp at h3
    exact h3
  · cases h
theorem good_rd {xs : List Wr} : ∀ {l : Int}, goodW l xs = true → ∀ x ∈ xs, ∀ r ∈ x.rs, badR r = false := by
  induction xs with
  | nil => intro l _ x hx; cases hx
  | cons z xs ih =>
    intro l h x hx r hr
    have h : (!badW l z && (!z.rs.any badR && goodW z.no xs)) = true := h
    simp only [Bool.and_eq_true, Bool.not_eq_true'] at h
    rcases List.mem_cons.1 hx with rfl | hx
    · have := List.any_eq_false.1 h.2.1 r hr
      simpa using this
    · exact ih h.2.2 x hx r hr
theorem wit_frm {xs : List Wr} (h : chkW xs = 0) {x : Wr} (hx : x ∈ xs) {r : Rd} (hr : r ∈ x.rs) : badR r = false ∧ (r.lost = false → frm r.sg = true ∧ r.sg.id = 0) ∧ (r.lost = true → r.sg = zeroG) := by
  have hg : goodW 0 xs = true := by
    unfold chkW at h
    split at h
    · cases h
    · split at h
      · cases h
      · split at h
        · assumption
        · cases h
  have hb := good_rd hg x hx r hr
  refine ⟨hb, fun hl => ?_, fun hl => ?_⟩
  · unfold badR at hb
    rw [hl] at hb
    simp only [Bool.false_and, Bool.not_false, Bool.true_and, Bool.false_or, Bool.or_eq_false_iff, bne_eq_false_iff_eq] at hb
    exact ⟨chk_frm hb.2, hb.1⟩
  · unfold badR at hb
    rw [hl] at hb
    simp only [Bool.true_and, Bool.not_true, Bool.false_and, Bool.or_false, Bool.not_eq_false'] at hb
    exact sgEq_iff.1 hb
end Go.Proofs.YthcffaheamikgaaDoor
end
section
namespace Go.Proofs.YthcffaheamikgaaDoor
open Go Go.Kn Go.Proofs
theorem fun_12 : Fun Tryd.prog 12 := .of Tryd.func12 (by kernel_rfl) (by kernel_rfl)
end Go.Proofs.YthcffaheamikgaaDoor
end
section
namespace Go.Proofs.YthcffaheamikgaaDoor
open Go Go.Kn Go.Proofs
theorem sum_one : ∀ k, sumF (fun _ => 0) k = k
  | 0 => rfl
  | k + 1 => by show sumF (fun _ => 0) k + (0 + 1) = k + 1; rw [sum_one k]
theorem tx_one {T : List Int} {j : Nat} : ∀ k, txF (fun _ => 0) T k j = if j < k then T.getD j 0 else 0
  | 0 => by rw [if_neg (by omega)]; rfl
  | k + 1 => by
    show updF (txF (fun _ => 0) T k) (sumF (fun _ => 0) k + 0) (T.getD k 0) j = _
    rw [sum_one, Nat.add_zero]
    by_cases e : j = k
    · subst e; rw [updF_same, if_pos (by omega)]
    · rw [updF_ne e, tx_one k]
      by_cases h : j < k
      · rw [if_pos h, if_pos (by omega)]
      · rw [if_neg h, if_neg (by omega)]
theorem wd_one {x : Wr} : wdW [x] = fun _ => 0 := wdF_one (al := alW [x]) rfl
theorem cs_one {x : Wr} : csW [x] 0 = codesW x := rfl
theorem lo_one {x : Wr} : loW [x] = (codesW x).length := by
  unfold loW; rw [wd_one, cs_one, sum_one]; omega
theorem row_one {x : Wr} : rowW [x] 0 = codesW x := by
  unfold rowW
  rw [lo_one, wd_one, cs_one]
  apply List.ext_getElem?
  intro j
  by_cases h : j < (codesW x).length
  · rw [rngL_at h]
    show some (txF (fun _ => 0) (codesW x) (codesW x).length j) = _
    rw [tx_one, if_pos h, List.getElem?_eq_getElem h]
    rw [List.getD_eq_getElem?_getD, List.getElem?_eq_getElem h]; rfl
  · rw [List.getElem?_eq_none (by rw [rngL_len]; omega), List.getElem?_eq_none (by omega)]
theorem tab_one {x : Wr} (h : tabE [x] = 0) : chkW [x] = 0 ∧ tabR [x] = [codesW x] := by
  have h1 : chkW [x] = 0 := by
    by_cases e : chkW [x] = 0
    · exact e
    · have := (tab_1 (xs := [x]) (by simp [e])).1
      omega
  have h2 : (chkW [x] != 0 || [x].length == 0) = false := by rw [h1]; rfl
  refine ⟨h1, ?_⟩
  by_cases h3 : loW [x] > 256
  · have := (tab_2 h2 h3).1; omega
  · unfold tabR
    rw [if_neg (by rw [h2]; simpa using h3)]
    show [rowW [x] 0] = _
    rw [row_one]
theorem frm_code {x : Sg} (h : frm x = true) : codeE x = 0 := by
  unfold frm frmL at h
  simp only [Bool.and_eq_true] at h
  obtain ⟨⟨⟨⟨⟨⟨⟨⟨⟨⟨_, y2⟩, _⟩, y4⟩, _⟩, y6⟩, y7⟩, y8⟩, y9⟩, y10⟩, _⟩ := h
  have u : ∀ {n lo hi : Int}, within n lo hi = true → lo ≤ n ∧ n ≤ hi := fun h => by unfold within at h; simp at h; omega
  have y2 := u y2; have y4 := u y4; have y6 := u y6; have y7 := u y7; have y8 := u y8; have y9 := u y9; have y10 := u y10
  exact (dig_code (r := x.role.toNat) (k := x.kind.toNat) (s := x.side.toNat) (d := x.dir.toNat) (l := x.level.toNat) (z := x.size.toNat) (w := x.wth.toNat) ⟨by omega, by omega, by omega, by omega, by omega, by omega, by omega, by omega⟩ ⟨by omega, by omega, by omega, by omega, by omega, by omega, by omega⟩).2
/-- The readings of one witness are right: their codes. -/
def RdsOK (rs : List Rd) : Prop := ∀ r ∈ rs, (r.lost = true ∧ codeR r = 8589934592) ∨ (r.lost = false ∧ codeR r = codeF r.sg ∧ codeE r.sg = 0)
theorem rds_ok {x : Wr} (h : chkW [x] = 0) : RdsOK x.rs := by
  intro r hr
  have hw := (wit_frm h (List.mem_singleton.2 rfl) hr).2.1
  cases hl : r.lost with
  | true => exact .inl ⟨rfl, by unfold codeR; rw [hl]; rfl⟩
  | false => exact .inr ⟨rfl, by unfold codeR; rw [hl]; rfl, frm_code (hw hl).1⟩
theorem code_in {rs : List Rd} (h : RdsOK rs) {r : Rd} (hr : r ∈ rs) : 0 < codeR r ∧ codeR r ≤ 8589934592 := by
  rcases h r hr with ⟨_, e⟩ | ⟨_, e, e2⟩
  · omega
  · have := sign_code e2; omega
theorem codes_at {x : Wr} {k : Nat} {r : Rd} (hr : x.rs[k]? = some r) : (codesW x)[k]? = some (codeR r) := by unfold codesW; rw [List.getElem?_map, hr]; rfl
theorem codes_len {x : Wr} : (codesW x).length = x.rs.length := by unfold codesW; rw [List.length_map]
theorem nz_one {x : Wr} (h : RdsOK x.rs) : ∀ k, k ≤ x.rs.length → nzF (codesW x) k = k
  | 0, _ => rfl
  | k + 1, hk => by
    obtain ⟨r, hr⟩ : ∃ r, x.rs[k]? = some r := ⟨_, List.getElem?_eq_getElem (by omega)⟩
    have := (code_in h (List.mem_of_getElem? hr)).1
    rw [nzF_yes (codes_at hr) (by simp; omega), nz_one h k (by omega)]
theorem rows_one {x : Wr} (h : RdsOK x.rs) (h8 : x.rs.length ≤ 8) : rowsN [codesW x] = 0 := by
  have hl : ((codesW x).length : Int) ≤ 8 := by rw [codes_len]; omega
  have h1 : (decide ((([codesW x] : List (List Int)).length : Int) > 6) || [codesW x].any (fun r => decide ((r.length : Int) > 64))) = false := by
    rw [List.any_cons, List.any_nil, Bool.or_false, Bool.or_eq_false_iff]
    exact ⟨by simp, decide_eq_false (by omega)⟩
  rw [rows_3 h1 (by simp)]
  rw [if_neg]
  rw [List.any_cons, List.any_nil, Bool.or_false]
  unfold rowP
  rw [show ([codesW x] : List (List Int)).getD 0 [] = codesW x from rfl]
  simp only [ne_eq, not_true_eq_false, decide_false, Bool.false_or, Bool.not_eq_true]
  rw [List.any_eq_false]
  intro c hc
  unfold codesW at hc
  obtain ⟨r, hr, rfl⟩ := List.mem_map.1 hc
  have := code_in h hr
  unfold stateP
  simp; omega
theorem chk_one : chkN 1 [] = 0 := by decide
/-- The reading of an edition of one witness. -/
def read1 (r : Rd) : Int := if r.lost = true then 0 else codeF r.sg
theorem read_one {x : Wr} (h : RdsOK x.rs) (h8 : x.rs.length ≤ 8) {k : Nat} {r : Rd} (hr : x.rs[k]? = some r) : readK [codesW x] [] [] k = read1 r := by
  have hk : (codesW x).getD k 0 = codeR r := getD_of (codes_at hr)
  rcases h r (List.mem_of_getElem? hr) with ⟨hl, e⟩ | ⟨hl, e, e2⟩
  · rw [rd_nil (lf_none k)]
    have hS : ∀ y ∈ rootF [codesW x] [] k, y = 0 := fun y hy => by
      have hy := stE_mem.1 (List.mem_filter.1 hy).1
      rcases st_mem.1 hy with h0 | ⟨⟨r2, hr2, e3⟩, h3⟩
      · exact h0
      · rw [List.mem_singleton.1 hr2, hk, e] at e3; exact absurd e3.symm h3
    have hrd : read1 r = 0 := by unfold read1; rw [if_pos hl]
    rw [hrd]
    unfold baseK
    rw [show (([codesW x] : List (List Int)).getD 0 []).getD k 0 = 8589934592 by rw [← e, ← hk]; rfl]
    split
    · rename_i ha
      obtain ⟨y, hy, e4⟩ := List.any_eq_true.1 ha
      have := hS y hy
      subst this
      simp at e4
    · cases hroot : rootF [codesW x] [] k with
      | nil => rfl
      | cons y ys => exact hS y (by rw [hroot]; exact List.mem_cons_self ..)
  · have hrd : read1 r = codeF r.sg := by unfold read1; rw [if_neg (by rw [hl]; decide)]
    have hs := sign_code e2
    rw [hrd]
    exact agreed_read (rows_one h h8) chk_one (by omega) (fun q hq => by rw [List.mem_singleton.1 hq, hk, e])
theorem mak_one {x : Wr} {no : Int} (h : RdsOK x.rs) (h8 : x.rs.length ≤ 8) (hn : 0 ≤ no ∧ no ≤ 1048576) : makE [codesW x] no [] [] = 0 := by
  have hc : costE [codesW x] [] = 0 := by
    unfold costE
    rw [if_neg (by rw [rows_one h h8]; decide)]
    exact chk_one
  exact makE_4 hc (by simp; omega) rfl
theorem reads_one {x : Wr} (h : RdsOK x.rs) (h8 : x.rs.length ≤ 8) : readsL [codesW x] [] [] = x.rs.map read1 := by
  apply List.ext_getElem?
  intro k
  unfold readsL
  rw [show ([codesW x] : List (List Int)).getD 0 [] = codesW x from rfl, codes_len]
  by_cases hk : k < x.rs.length
  · have hr : x.rs[k]? = some (x.rs[k]'hk) := List.getElem?_eq_getElem hk
    rw [List.getElem?_map, List.getElem?_range hk, List.getElem?_map, hr, Option.map_some, Option.map_some, read_one h h8 hr]
  · rw [List.getElem?_eq_none (by simp; omega), List.getElem?_eq_none (by simp; omega)]
/-- The signs that are wanted: those that are not lost, with their places. -/
def wantK (rs : List Rd) : Nat → List Sg
  | 0 => []
  | k + 1 => match rs[k]? with
    | none => wantK rs k
    | some r => if r.lost = true then wantK rs k else wantK rs k ++ [{ r.sg with id := (k : Int) }]
theorem want_lost {rs : List Rd} {k : Nat} {r : Rd} (hr : rs[k]? = some r) (h : r.lost = true) : wantK rs (k + 1) = wantK rs k := by
  show (match rs[k]? with | none => wantK rs k | some r => if r.lost = true then wantK rs k else wantK rs k ++ [{ r.sg with id := (k : Int) }]) = _
  rw [hr]; exact if_pos h
theorem want_sg {rs : List Rd} {k : Nat} {r : Rd} (hr : rs[k]? = some r) (h : r.lost = false) : wantK rs (k + 1) = wantK rs k ++ [{ r.sg with id := (k : Int) }] := by
  show (match rs[k]? with | none => wantK rs k | some r => if r.lost = true then wantK rs k else wantK rs k ++ [{ r.sg with id := (k : Int) }]) = _
  rw [hr]; exact if_neg (by rw [h]; decide)
theorem want_len {rs : List Rd} : ∀ k, (wantK rs k).length ≤ k
  | 0 => Nat.le_refl _
  | k + 1 => by
    have ih := want_len (rs := rs) k
    cases hr : rs[k]? with
    | none =>
      show (match rs[k]? with | none => wantK rs k | some r => if r.lost = true then wantK rs k else wantK rs k ++ [{ r.sg with id := (k : Int) }]).length ≤ _
      rw [hr]; simp only; omega
    | some r =>
      cases hl : r.lost with
      | true => rw [want_lost hr hl]; omega
      | false => rw [want_sg hr hl, List.length_append, List.length_singleton]; omega
theorem out_one {x : Wr} (h : RdsOK x.rs) {k : Nat} {r : Rd} (hr : x.rs[k]? = some r) : outK [x] [codesW x] k (read1 r) = if r.lost = true then .skip else .sg { r.sg with id := (k : Int) } := by
  rcases h r (List.mem_of_getElem? hr) with ⟨hl, _⟩ | ⟨hl, e, e2⟩
  · rw [if_pos hl]
    exact out_skip (by unfold read1; rw [if_pos hl]; rfl)
  · have hrd : read1 r = codeF r.sg := by unfold read1; rw [if_neg (by rw [hl]; decide)]
    obtain ⟨s1, s2, s3, s4⟩ := sign_code e2
    rw [if_neg (by rw [hl]; decide), hrd]
    have hk : (codesW x).getD k 0 = codeF r.sg := by rw [getD_of (codes_at hr), e]
    have hkl := (List.getElem?_eq_some_iff.1 hr).1
    have hy : ydF [x] [codesW x] 0 k = r := ydF_at rfl (by rw [show ([codesW x] : List (List Int)).getD 0 [] = codesW x from rfl, nz_one h k (by omega)]; exact hr)
    have hz : (codeF r.sg == 0) = false := by simp; omega
    have hsg : sgK [x] [codesW x] k (codeF r.sg) [codesW x].length = ⟨some r.sg, some r.sg, 1, false⟩ := by
      show sgSt (codeF r.sg) ⟨none, none, 0, false⟩ ((codesW x).getD k 0) (ydF [x] [codesW x] 0 k) = _
      rw [hy, hk]
      unfold sgSt
      rw [if_neg (by rw [hz]; decide), if_neg (by rw [hl]; decide)]
      simp [orS]
    rw [out_sg hz hsg.symm rfl (by rw [s1]; rfl)]
    show Out.sg (putS k (codeF r.sg) r.sg false) = _
    unfold putS
    rw [s2]; rfl
theorem sgn_one {x : Wr} (h : RdsOK x.rs) : ∀ k, k ≤ x.rs.length → sgnK [x] [codesW x] (x.rs.map read1) k = some (wantK x.rs k)
  | 0, _ => rfl
  | k + 1, hk => by
    have ih := sgn_one h k (by omega)
    obtain ⟨r, hr⟩ : ∃ r, x.rs[k]? = some r := ⟨_, List.getElem?_eq_getElem (by omega)⟩
    have hg : (x.rs.map read1).getD k 0 = read1 r := getD_of (by rw [List.getElem?_map, hr]; rfl)
    have ho := out_one h hr
    rw [← hg] at ho
    cases hl : r.lost with
    | true => rw [if_pos hl] at ho; rw [sgn_skip ih ho, want_lost hr hl]
    | false => rw [if_neg (by rw [hl]; decide)] at ho; rw [sgn_sg ih ho, want_sg hr hl]
theorem sig_one {x : Wr} {no : Int} (ht : tabE [x] = 0) (h8 : x.rs.length ≤ 8) (hn : 0 ≤ no ∧ no ≤ 1048576) :
    makE (tabR [x]) no [] [] = 0 ∧ sigE [x] (tabR [x]) no [] [] (readsL (tabR [x]) [] []) = 0 ∧ sigL [x] (tabR [x]) no [] [] (readsL (tabR [x]) [] []) = wantK x.rs x.rs.length := by
  obtain ⟨hc, hT⟩ := tab_one ht
  have hR := rds_ok hc
  have hm := mak_one (no := no) hR h8 hn
  have hrd := reads_one hR h8
  have hed : edcF (tabR [x]) no [] [] (readsL (tabR [x]) [] []) = 0 := edc_3 (by rw [hT]; exact hm) rfl
  refine ⟨by rw [hT]; exact hm, ?_⟩
  refine sig_5 ht rfl hed ?_
  rw [hT, hrd, List.length_map]
  exact sgn_one hR _ (Nat.le_refl _)
end Go.Proofs.YthcffaheamikgaaDoor
end
section
namespace Go.Proofs.YthcffaheamikgaaDoor
open Go Go.Kn Go.Proofs
theorem w_sameS {I : HMap} {av : Option Addr} {n c : Nat} {xs : List Sg} (hS : Sl I 14 encG av n c xs) (hn : n ≤ 100000) {bv : Option Addr} {n2 c2 : Nat} {ys : List Sg} (hT : Sl I 14 encG bv n2 c2 ys) : RetV Tryd.prog 16 [.slice av n c, .slice bv n2 c2] I (.bool (sameF xs ys)) := by
 intro g H w hw
 refine enter Tryd.func16 rfl Tryd.ntmps16 rfl hw ?_
 refine X_seq (X_region ?_)
 refine zA ?_
 refine XO_nil (at_then ?_)
 refine X_seq ?_
 refine X_seq (X_region ?_)
 refine zM ?_
 refine XO_v0 (ev_lenS rfl slt_43) rfl rfl rfl ?_
 refine zM ?_
 refine XO_v0 (ev_lenS rfl slt_43) rfl rfl rfl ?_
 refine zC ?_
 refine XO_nil (at_then ?_)
 refine X_cond rfl (fun hc10 => ?_) (fun hc10 => ?_)
 ·
  refine X_seq (X_region ?_)
  refine zA ?_
  refine XO_nil (at_then ?_)
  refine X_ret ?_
  refine at_then_r ?_
  first
  | exact at_ret1 rfl rfl (fun w hw => ⟨by rw [same_len hS.len hT.len (by simp at hc10; omega)], hw.drop⟩)
 ·
  have hnn : n = n2 := by simp at hc10; omega
  refine X_skip ?_
  refine at_then ?_
  refine X_seq ?_
  refine X_seq (X_region ?_)
  refine zA ?_
  refine XO_nil (at_then ?_)
  refine X_block ?_
  refine X_loopT [(0, _), (1, _)] (.cons rfl (.cons rfl .nil)) (fun T L0 mz E I' loc' => ∃ (k : Nat), mz = n - k ∧ E = (5, .int .i64 k) :: T ∧ I = I' ∧ L0 = loc' ∧ k ≤ n ∧ xs.take k = ys.take k) _ _ _ _ ⟨0, rfl, rfl, rfl, rfl, Nat.zero_le _, rfl⟩ (.cons rfl (.cons rfl (.cons rfl .nil))) (HLe.refl _) rfl ?_
  rintro mz E I' loc' ⟨k, rfl, rfl, rfl, rfl, hk, he⟩
  refine X_seq ?_
  refine X_seq (X_region ?_)
  refine zM ?_
  refine zM ?_
  refine XO_v0 (ev_lenS rfl slt_43) rfl rfl rfl ?_
  refine zC ?_
  refine XO_nil (at_then ?_)
  refine X_cond rfl (fun hc14 => ?_) (fun hc14 => ?_)
  ·
   have hlt_k : k < n := by have h := hc14; simp at h; omega
   obtain ⟨x, hx⟩ := hS.at hlt_k
   obtain ⟨y, hy⟩ := hT.at (show k < n2 by omega)
   refine X_skip ?_
   refine at_then ?_
   refine X_seq ?_
   refine X_block ?_
   refine X_seq ?_
   refine X_draw mixed (by kernel_rfl) ?_
   refine XQ_v0 (ev_move rfl) rfl rfl rfl ?_
   refine XQ_v0 (ev_move rfl) rfl rfl rfl ?_
   refine XQ_v0 (ev_indexSl rfl rfl slt_43 (by assumption) (fun hg => by first | omega | (simp [conj] at hg; omega))) rfl rfl rfl ?_
   refine XQ_v0 (ev_loadA rfl agt_49 (fun hg => by first | exact Sl.getA hS hx | exact Sl.getA hT hy | (repeat (first | exact Cells.here | exact Cells.s0 (vs := [_, _, _, _, _, _, _, _, _, _, _, _, _, _]) rfl | apply Cells.there | apply Cells.app))) rfl) rfl rfl rfl ?_
   refine XQ_v0 (ev_move rfl) rfl rfl rfl ?_
   refine XQ_v0 (ev_move rfl) rfl rfl rfl ?_
   refine XQ_v0 (ev_indexSl rfl rfl slt_43 (by assumption) (fun hg => by first | omega | (simp [conj] at hg; omega))) rfl rfl rfl ?_
   refine XQ_v0 (ev_loadA rfl agt_49 (fun hg => by first | exact Sl.getA hS hx | exact Sl.getA hT hy | (repeat (first | exact Cells.here | exact Cells.s0 (vs := [_, _, _, _, _, _, _, _, _, _, _, _, _, _]) rfl | apply Cells.there | apply Cells.app))) rfl) rfl rfl rfl ?_
   refine XQ_v0 (ev_neS2 rfl rfl eqt2_49 rfl) rfl rfl rfl ?_
   refine XQ_nil ?_
   refine at_then ?_
   refine X_cond rfl (fun hc25 => ?_) (fun hc25 => ?_)
   ·
    refine X_seq (X_region ?_)
    refine zA ?_
    refine XO_nil (at_then ?_)
    refine X_ret ?_
    refine at_block_r ?_
    refine at_then_r ?_
    refine at_then_r ?_
    refine at_block_r ?_
    refine at_then_r ?_
    first
    | exact at_ret1 rfl rfl (fun w hw => ⟨by rw [same_ne hx hy (fun e => by have h2 : (!sgEq x y) = true := hc25; rw [sgEq_iff.2 e] at h2; simp at h2)], hw.drop⟩)
   ·
    refine X_skip ?_
    refine at_block_n ?_
    refine at_then ?_
    refine X_region ?_
    refine zM ?_
    refine XO_v0 (ev_arB rfl rfl rfl (fun _ => by omega)) rfl rfl rfl ?_
    refine zA ?_
    refine XO_nil ?_
    exact at_met2 _ _ ⟨n - (k + 1), by omega, k + 1, rfl, rfl, rfl, rfl, by omega, take_next hx hy he (sgEq_iff.1 ((Bool.not_eq_false' _).mp hc25))⟩ (.cons rfl (.cons rfl (.cons rfl .nil))) (by repeat (first | exact .refl | exact subL_left | refine subL_app ?_ | refine .drop ?_ | refine subL_add ?_))
  ·
   have hge_k : n ≤ k := by have h := hc14; simp at h; omega
   refine X_exit ?_
   refine at_then_e ?_
   refine at_then_e ?_
   refine at_block_hit ?_
   refine at_then ?_
   refine X_seq (X_region ?_)
   refine zA ?_
   refine XO_nil (at_then ?_)
   refine X_ret ?_
   first
   | exact at_ret1 rfl rfl (fun w hw => ⟨by rw [take_all hS.len (by omega), take_all hT.len (by omega)] at he; rw [he, same_self], hw.drop⟩)
end Go.Proofs.YthcffaheamikgaaDoor
end
section
namespace Go.Proofs.YthcffaheamikgaaDoor
open Go Go.Kn Go.Proofs
theorem wit_one {I : HMap} {b : Nat} {w0 : Wt} {rs : List Rd} (hH : Sl I 3 encW (some ⟨b, 0, none⟩) 1 1 [w0]) (hR : Sl I 15 encRd w0.a w0.n w0.c rs) : SlW I (some ⟨b, 0, none⟩) 1 1 [⟨w0.no, w0.yr, rs⟩] :=
 ⟨[w0], hH, rfl, fun k w x h1 h2 => by
  cases k with
  | zero => cases h1; cases h2; exact ⟨rfl, rfl, hR⟩
  | succ k => cases h1⟩
theorem few_one {w0 : Wt} (h : fewW [w0] = true) : w0.n ≤ 8 := by unfold fewW at h; simpa using h
set_option maxHeartbeats 4000000 in
theorem w_oneLaw {I : HMap} {w0 : Wt} {rs : List Rd} (hR : Sl I 15 encRd w0.a w0.n w0.c rs) (no : Int) (hDb : DebOK I) : RetV Tryd.prog 4 [.agg (encW w0).toArray, .int .i64 no] I (.bool true) := by
 intro g H w hw
 refine enter Tryd.func4 rfl Tryd.ntmps4 rfl hw ?_
 have hIc := HLe.refl I
 have hlR := hR.len
 refine X_seq (X_region ?_)
 refine XO_box rfl rfl rfl (fun b_2 => ?_)
 refine zA ?_
 refine XO_nil (at_then ?_)
 refine X_seq ?_
 refine X_seq (X_region ?_)
 refine XO_callV0 (cap := []) (vs := []) rfl rfl fun_8 (w_sane hDb) rfl rfl ?_
 refine XO_v0 (ev_not rfl) rfl rfl rfl ?_
 refine XO_nil (at_then ?_)
 refine X_cond rfl (fun hc16 => ?_) (fun hc16 => ?_)
 ·
  cases hc16
 ·
  refine X_skip ?_
  refine at_then ?_
  refine X_seq (X_region ?_)
  refine XO_v0 (ev_loadA rfl agt_34 (fun hg => by exact Cells.g0) rfl) rfl rfl rfl ?_
  refine XO_buildSlice (ps := [(0, _)]) (m := [encW w0]) elt_35 rfl (.cons rfl (.nil)) rfl (by simp [encG_len, encW_len]) (by decide) (by decide) rfl rfl (fun b_18 => ?_)
  refine XO_freeze (b := b_18) (by repeat (first | exact Take.here | apply Take.there)) (fun I1 hI1 hb1 => ?_)
  have hR := hR.mono hI1
  have hDb := hDb.mono hI1
  have hIc := hIc.trans hI1
  have hH : Sl I1 3 encW (some ⟨b_18, 0, none⟩) 1 1 [w0] := Sl.lit [w0] rfl encW_len (show _ = some (Obj.cells ([w0].flatMap encW).toArray 34 (0, 0)) from hb1)
  have hW0 : SlW I1 (some ⟨b_18, 0, none⟩) 1 1 [(⟨w0.no, w0.yr, rs⟩ : Wr)] := wit_one hH hR
  refine zA ?_
  refine XO_nil (at_then ?_)
  refine X_seq ?_
  refine X_seq (X_region ?_)
  refine zM ?_
  refine XO_callV0 (cap := []) (vs := [_]) rfl rfl fun_12 (w_fewW hH (by decide)) rfl rfl ?_
  refine XO_v0 (ev_not rfl) rfl rfl rfl ?_
  refine zM ?_
  refine XO_pushF 3 rfl rfl rfl ?_
  refine XO_v1 (ev_move rfl) (.some rfl rfl rfl rfl gbf) rfl rfl rfl ?_
  refine XO_v1 (ev_cmp rfl rfl rfl) (.some rfl rfl rfl rfl gbf) rfl rfl rfl ?_
  refine XO_or0 rfl rfl rfl rfl rfl ?_
  refine zM ?_
  refine XO_pushF 7 rfl rfl rfl ?_
  refine XO_v1 (ev_move rfl) (.some rfl rfl rfl rfl gbf) rfl rfl rfl ?_
  refine XO_v1 (ev_cmp rfl rfl rfl) (.some rfl rfl rfl rfl gbf) rfl rfl rfl ?_
  refine XO_or0 rfl rfl rfl rfl rfl ?_
  refine XO_nil (at_then ?_)
  refine X_cond rfl (fun hc29 => ?_) (fun hc29 => ?_)
  ·
   refine X_seq (X_region ?_)
   refine zA ?_
   refine XO_nil (at_then ?_)
   refine X_ret ?_
   refine at_then_r ?_
   exact at_ret1 rfl rfl (fun w hw => ⟨by rfl, (hw.mono hIc).drop⟩)
  ·
   have h29 := hc29
   simp only [Bool.or_eq_false_iff, Bool.not_eq_false', decide_eq_false_iff_not] at h29
   have hfw := few_one h29.1.1
   have hno : 0 ≤ no ∧ no ≤ 1048576 := by omega
   refine X_skip ?_
   refine at_then ?_
   refine X_seq (X_region ?_)
   refine zM ?_
   refine XO_callM (cap := []) (vs := [_]) rfl rfl fun_13 .nil (w_Table hW0 (by decide)) rfl rfl ?_
   rintro vv2 I2 L2 hI2 ⟨rfl, av8, c8, rfl, hTb⟩
   have hR := hR.mono hI2
   have hDb := hDb.mono hI2
   have hH := hH.mono hI2
   have hW0 := hW0.mono hI2
   have hIc := hIc.trans hI2
   refine zM ?_
   refine XO_v0 (ev_extract rfl rfl) rfl rfl rfl ?_
   refine XO_v0 (ev_extract rfl rfl) rfl rfl rfl ?_
   refine zA ?_
   refine zA ?_
   refine XO_nil (at_then ?_)
   refine X_seq ?_
   refine X_seq (X_region ?_)
   refine zM ?_
   refine zC ?_
   refine XO_nil (at_then ?_)
   refine X_cond rfl (fun hc36 => ?_) (fun hc36 => ?_)
   ·
    refine X_seq (X_region ?_)
    refine zA ?_
    refine XO_nil (at_then ?_)
    refine X_ret ?_
    refine at_then_r ?_
    exact at_ret1 rfl rfl (fun w hw => ⟨by rfl, (hw.mono hIc).drop⟩)
   ·
    have hcT : tabE [(⟨w0.no, w0.yr, rs⟩ : Wr)] = 0 := by simpa using hc36
    obtain ⟨hm0, hs0, hsl⟩ := sig_one hcT (show rs.length ≤ 8 by omega) hno
    have hsl2 : sigL [(⟨w0.no, w0.yr, rs⟩ : Wr)] (tabR [(⟨w0.no, w0.yr, rs⟩ : Wr)]) no [] [] (readsL (tabR [(⟨w0.no, w0.yr, rs⟩ : Wr)]) [] []) = wantK rs w0.n := by rw [← hlR]; exact hsl
    have htl := (tabR_in (ws := [(⟨w0.no, w0.yr, rs⟩ : Wr)])).1
    have htl : (tabR [(⟨w0.no, w0.yr, rs⟩ : Wr)]).length ≤ 1 := htl
    have hm3 : (readsL (tabR [(⟨w0.no, w0.yr, rs⟩ : Wr)]) [] []).length ≤ 100000 := by obtain ⟨hc1, hT1⟩ := tab_one hcT; rw [hT1, reads_one (rds_ok hc1) (show rs.length ≤ 8 by omega), List.length_map]; show rs.length ≤ 100000; omega
    refine X_skip ?_
    refine at_then ?_
    refine X_seq (X_region ?_)
    refine zM ?_
    refine zM ?_
    refine XO_callM (cap := []) (vs := [_, _, _, _]) rfl rfl fun_14 .nil (w_Make Sl.nil hTb (by omega) Sl.nil (by decide) (by decide) hDb no) rfl rfl ?_
    rintro vv3 I3 L3 hI3 hMQ
    have hR := hR.mono hI3
    have hDb := hDb.mono hI3
    have hH := hH.mono hI3
    have hW0 := hW0.mono hI3
    have hTb := hTb.mono hI3
    have hIc := hIc.trans hI3
    obtain ⟨rfl, no2, cl2, es2, rd2, a1, q1, c1, a2, q2, c9, a3, q3, c3, rfl, hM1, hM2, hM3, hMy, hMn⟩ := hMQ.opn
    refine zM ?_
    refine XO_v0 (ev_extract rfl rfl) rfl rfl rfl ?_
    refine XO_v0 (ev_extract rfl rfl) rfl rfl rfl ?_
    refine XO_alloc zt_40 rfl rfl (fun b_8 => ?_)
    refine XO_storeA rfl rfl szt_40 rfl rfl rfl rfl (by repeat (first | exact Upd.here | apply Upd.there | apply upd_app)) ?_
    refine zA ?_
    refine XO_nil ?_
    obtain ⟨ey1, ey2, ey3, ey4⟩ := hMy hm0
    subst ey4
    have hq3 := hM3.len
    subst hq3
    have hm1 : q1 ≤ 100000 := by rw [← hM1.len, ey2]; decide
    have hm2 : q2 ≤ 100000 := by rw [← hM2.len, ey3]; decide
    subst ey1
    subst ey2
    subst ey3
    have hrdl : (readsL (tabR [(⟨w0.no, w0.yr, rs⟩ : Wr)]) [] []).length = ((tabR [(⟨w0.no, w0.yr, rs⟩ : Wr)]).getD 0 []).length := reads_len
    refine at_then ?_
    refine X_seq (X_region ?_)
    refine zM ?_
    refine zM ?_
    refine XO_v0 (ev_loadA rfl agt_40 (fun hg => by exact Cells.g0) rfl) rfl rfl rfl ?_
    refine XO_callM (cap := []) (vs := [_, _, _]) rfl rfl fun_15 .nil (w_Signs hW0 (by decide) hTb (by omega) hM1 hM2 hM3 hm1 hm2 hm3 no2 hDb (fun _ => tab_nz)) rfl rfl ?_
    rintro vv4 I4 L4 hI4 ⟨rfl, sa, sc, rfl, hSg⟩
    have hR := hR.mono hI4
    have hDb := hDb.mono hI4
    have hH := hH.mono hI4
    have hW0 := hW0.mono hI4
    have hTb := hTb.mono hI4
    have hM1 := hM1.mono hI4
    have hM2 := hM2.mono hI4
    have hM3 := hM3.mono hI4
    have hIc := hIc.trans hI4
    refine zM ?_
    refine XO_v0 (ev_extract rfl rfl) rfl rfl rfl ?_
    refine XO_v0 (ev_extract rfl rfl) rfl rfl rfl ?_
    refine zA ?_
    refine zA ?_
    refine XO_nil (at_then ?_)
    refine X_seq ?_
    refine X_seq (X_region ?_)
    refine zM ?_
    refine zC ?_
    refine zM ?_
    refine XO_pushF 2 rfl rfl rfl ?_
    refine XO_v1 (ev_move rfl) (.some rfl rfl rfl rfl gbf) rfl rfl rfl ?_
    refine XO_v1 (ev_cmp rfl rfl rfl) (.some rfl rfl rfl rfl gbf) rfl rfl rfl ?_
    refine XO_or0 rfl rfl rfl rfl rfl ?_
    refine XO_nil (at_then ?_)
    refine X_cond rfl (fun hc55 => ?_) (fun hc55 => ?_)
    ·
     rw [hs0, hm0] at hc55
     simp at hc55
    ·
     refine X_skip ?_
     refine at_then ?_
     refine X_seq (X_region ?_)
     refine zA ?_
     refine XO_nil (at_then ?_)
     refine X_seq ?_
     refine X_seq (X_region ?_)
     refine XO_v0 (ev_fieldAddr rfl fld_34_2) rfl rfl rfl ?_
     refine XO_v0 (ev_load rfl sct_32 (fun hg => by exact Cell.h1 rfl)) rfl rfl rfl ?_
     refine XO_v0 (ev_lenS rfl slt_32) rfl rfl rfl ?_
     refine zM ?_
     refine XO_nil ?_
     refine X_dropTo [] subL_nil ?_
     refine at_then ?_
     refine X_block ?_
     refine X_loopT [(10, _), (57, _), (58, _)] (.cons rfl (.cons rfl (.cons rfl .nil))) (fun T L0 mz E I' loc' => ∃ (k : Nat) (v12 : Value) (L12 : Go.Kn.Loc), mz = w0.n - k ∧ E = (12, v12) :: (59, .int .i64 k) :: T ∧ HLe I4 I' ∧ L12 = loc' ∧ k ≤ w0.n ∧ OwnS 49 14 v12 (wantK rs k).length ((wantK rs k).flatMap encG) L12) _ _ _ _ ⟨0, _, [], rfl, rfl, HLe.refl _, rfl, Nat.zero_le _, OwnS.nil⟩ (.cons rfl (.cons rfl (.cons rfl (.cons rfl (.cons rfl .nil))))) (HLe.refl _) rfl ?_
     rintro mz E J5 loc' ⟨k, v12, L12, rfl, rfl, hJ, rfl, hk, hO12⟩
     have hR := hR.mono hJ
     have hDb := hDb.mono hJ
     have hH := hH.mono hJ
     have hW0 := hW0.mono hJ
     have hTb := hTb.mono hJ
     have hM1 := hM1.mono hJ
     have hM2 := hM2.mono hJ
     have hM3 := hM3.mono hJ
     have hSg := hSg.mono hJ
     have hIc := hIc.trans hJ
     have hB0 := hJ
     refine X_seq (X_region ?_)
     refine zC ?_
     refine XO_nil (at_then ?_)
     refine X_seq ?_
     refine X_cond rfl (fun hc60 => ?_) (fun hc60 => ?_)
     ·
      have hlt_k : k < w0.n := by have h := hc60; simp at h; omega
      obtain ⟨r, hr⟩ := hR.at hlt_k
      have hwl := want_len (rs := rs) k
      refine X_skip ?_
      refine at_then ?_
      refine X_seq ?_
      refine X_block ?_
      refine X_seq (X_region ?_)
      refine zM ?_
      refine XO_v0 (ev_indexSl rfl rfl slt_32 (by assumption) (fun hg => by first | omega | (simp [conj] at hg; omega))) rfl rfl rfl ?_
      refine XO_v0 (ev_loadA rfl agt_51 (fun hg => by exact Sl.getA hR hr) rfl) rfl rfl rfl ?_
      refine XO_alloc zt_51 rfl rfl (fun b_14 => ?_)
      refine zA ?_
      refine XO_storeA rfl rfl szt_51 rfl rfl rfl rfl (by repeat (first | exact Upd.here | apply Upd.there | apply upd_app)) ?_
      refine XO_nil (at_then (X_seq (X_region ?_)))
      refine XO_v0 (ev_fieldAddr rfl fld_51_0) rfl rfl rfl ?_
      refine XO_v0 (ev_load rfl sct_4 (fun hg => by exact Cell.h0 rfl)) rfl rfl rfl ?_
      refine XO_v0 (ev_not rfl) rfl rfl rfl ?_
      refine XO_nil (at_then ?_)
      refine X_cond rfl (fun hc66 => ?_) (fun hc66 => ?_)
      ·
       have hl9 : r.lost = false := by simpa using hc66
       refine X_seq (X_region ?_)
       refine zM ?_
       refine XO_v0 (ev_fieldAddr rfl fld_51_1) rfl rfl rfl ?_
       refine XO_v0 (ev_fieldAddr rfl fld_49_0) rfl rfl rfl ?_
       refine zS szt_3 ?_
       refine XO_nil (at_then ?_)
       refine X_region ?_
       refine zM ?_
       refine XO_v0 (ev_fieldAddr rfl fld_51_1) rfl rfl rfl ?_
       refine XO_v0 (ev_loadA rfl agt_49 (fun hg => by exact Cells.s0 (vs := [_, _, _, _, _, _, _, _, _, _, _, _, _, _]) rfl) rfl) rfl rfl rfl ?_
       refine XO_buildSlice (ps := [(0, _)]) (m := [encG ({ r.sg with id := (k : Int) } : Sg)]) elt_43 rfl (.cons rfl (.nil)) rfl (by simp [encG_len, encW_len]) (by decide) (by decide) rfl rfl (fun b_73 => ?_)
       refine XO_append (v := _) (ys := [({ r.sg with id := (k : Int) } : Sg)].flatMap encG) (L := L12) rfl rfl elt_43 hO12 (by repeat (first | exact .cons .here .nil | exact split_all | exact split_app | apply split_cons | apply split_skip)) ⟨rfl, fun _ => rfl, by repeat (first | exact Cells.here | apply Cells.there | apply Cells.app)⟩ (one_G [({ r.sg with id := (k : Int) } : Sg)]) (by omega) rfl rfl ?_
       intro v9 L9 hO9 _; rw [← List.flatMap_append] at hO9
       refine zA ?_
       refine XO_nil ?_
       refine at_block_n ?_
       refine at_then ?_
       refine X_region ?_
       refine zB ?_
       refine zM ?_
       refine XO_nil ?_
       first
       | exact at_met2 _ _ ⟨w0.n - (k + 1), by omega, k + 1, _, _, rfl, rfl, hB0, rfl, by omega, by rw [want_sg hr hl9, List.length_append]; exact hO9⟩ (.cons rfl (.cons rfl (.cons rfl (.cons rfl (.cons rfl .nil))))) (by repeat (first | exact .refl | exact subL_left | refine subL_app ?_ | refine .drop ?_ | refine subL_add ?_))
      ·
       have hl9 : r.lost = true := by simpa using hc66
       refine X_skip ?_
       refine at_block_n ?_
       refine at_then ?_
       refine X_region ?_
       refine zB ?_
       refine zM ?_
       refine XO_nil ?_
       first
       | exact at_met2 _ _ ⟨w0.n - (k + 1), by omega, k + 1, _, _, rfl, rfl, hB0, rfl, by omega, by rw [want_lost hr hl9]; exact hO12⟩ (.cons rfl (.cons rfl (.cons rfl (.cons rfl (.cons rfl .nil))))) (by repeat (first | exact .refl | exact subL_left | refine subL_app ?_ | refine .drop ?_ | refine subL_add ?_))
     ·
      have hge_k : w0.n ≤ k := by have h := hc60; simp at h; omega
      obtain rfl : k = w0.n := by omega
      have hwl := want_len (rs := rs) w0.n
      refine X_exit ?_
      refine at_then_e ?_
      refine at_then_e ?_
      refine at_block_hit ?_
      refine at_then ?_
      refine X_seq ?_
      refine X_freezeO hO12 encG_len (by decide) (by repeat (first | exact .cons .here .nil | exact split_all | exact split_app | apply split_cons | apply split_skip)) (fun I6 hI6 af6 cf6 ef6 hSw => ?_)
      cases ef6
      have hR := hR.mono hI6
      have hDb := hDb.mono hI6
      have hH := hH.mono hI6
      have hW0 := hW0.mono hI6
      have hTb := hTb.mono hI6
      have hM1 := hM1.mono hI6
      have hM2 := hM2.mono hI6
      have hM3 := hM3.mono hI6
      have hSg := hSg.mono hI6
      have hIc := hIc.trans hI6
      have hB0 := hB0.trans hI6
      refine X_region ?_
      refine zM ?_
      refine zM ?_
      refine XO_callV0 (cap := []) (vs := [_, _]) rfl rfl fun_16 (w_sameS hSg (by rw [hsl2]; omega) hSw) rfl rfl ?_
      refine zA ?_
      refine XO_nil (at_then ?_)
      refine X_ret ?_
      exact at_ret1 rfl rfl (fun w hw => ⟨by rw [hsl2, same_self], (hw.mono hIc).drop⟩)
end Go.Proofs.YthcffaheamikgaaDoor
end
section
namespace Go.Kn
open Go Go.ChangeShapes Go.WideShapes Go.ChangeAt Go.RowKit
/-- All that lies in the world is read only. -/
def heapI (W : World) : HMap := fun b => W.heap[b]?
theorem St.start (W : World) : St W (heapI W) (fun _ => none) [] W :=
  ⟨rfl, rfl, rfl, ⟨Nat.le_refl _, Nat.le_refl _⟩, fun _ _ h => h, (fun _ _ h => by cases h), (fun _ _ h => by cases h), fun _ => .inr rfl, (fun _ _ h => by cases h), by simp⟩
theorem St.below {W w : World} {H : HMap} {loc : Loc} (h : St W (heapI W) H loc w) : Below W.heap.size W w :=
  ⟨h.os, h.tape, h.out, h.size.1, fun k hk => by
    have e : W.heap[k]? = some W.heap[k] := Array.getElem?_eq_getElem hk
    rw [h.imm k _ e, e]⟩
theorem RetV.law {P : Program} {f : FuncId} {args : List Value} {W : World} {v : Value} (h : RetV P f args (heapI W) v) : Calls P f args.toArray W fun e w' => e = .returned v ∧ Below W.heap.size W w' :=
  (h W _ W (St.start W)).mono fun _ _ ⟨he, hs⟩ => ⟨he, hs.below⟩
theorem keptBut_below {W w : World} {may : MemPlace → Prop} (h : Below W.heap.size W w) : W.keptBut w may := by
  refine ⟨h.os, h.output, fun i hi => ?_⟩
  rw [h.block i hi]
  rw [Array.getElem?_eq_getElem hi]
  cases W.heap[i] <;> simp
theorem trodAll_stays {H : Type} {enc : TypeId × Value → H} {P : Program} {W W' : World} (hl : laidOutB P = true) (hB : Below W.heap.size W W') (sp : Nat → Bool) : ∀ (ts : List TypeId) (vs : List Value) (ds : List (DataW H)) (ps : List MemPlace), (∀ t ∈ ts, P.readableRec t = true ∧ t < P.types.size) →
    DataW.TrodAll enc P W 0 (fun _ => true) true ts vs ds ps → (∀ x ∈ ps, x.block < W.heap.size ∧ sp x.block = true) → DataW.TrodAll enc P W' 0 sp true ts vs ds ps
  | [], [], [], ps, _, h, _ => h
  | t :: ts, v :: vs, d :: ds, ps, hr, ⟨p, q, h1, h2, e⟩, hlt => by
    subst e
    exact ⟨p, q, WideElems.Trod_stays hl (hr t (List.mem_cons_self ..)).1 (hr t (List.mem_cons_self ..)).2 h1 (fun x hx => hB.same (hlt x (List.mem_append_left _ hx)).1) (fun x hx => (hlt x (List.mem_append_left _ hx)).2),
      trodAll_stays hl hB sp ts vs ds q (fun t ht => hr t (List.mem_cons_of_mem _ ht)) h2 (fun x hx => hlt x (List.mem_append_right _ hx)), rfl⟩
/-- A law's row: it hands back true; the input reads as it did. -/
theorem post_law {H : Type} {enc : TypeId × Value → H} {P : Program} {f : Func} {s : ChangeSpec} {again : Bool} {W W' : World} {args : Array Value} {ds : List (DataW H)} {before : List MemPlace} {tb : TypeId}
    (hl : laidOutB P = true) (hr : f.resultTypes = #[tb]) (hb : P.underlying tb = some .bool) (hv : s.vars = []) (hs : (s.fn H (ds ++ [])) = { results := [.lit (.bool true)], args := ds }) (hrd : ∀ t ∈ f.params.toList, P.readableRec t = true ∧ t < P.types.size)
    (hW : DataW.Whole enc P f.params.toList s.vars false W args.toList ds [] before) (hB : Below W.heap.size W W') : s.post enc P f false true false again W args (.bool true) W' := by
  have hlt : ∀ x ∈ before, x.block < W.heap.size := fun x hx => by simpa using hW.lt x hx
  have hW0 := hW
  obtain ⟨p, q, hA, hV, rfl, hfz, _⟩ := hW
  rw [hv] at hV
  obtain ⟨_, rfl⟩ := trodVars_none hV
  rw [List.append_nil] at hlt hfz hW0
  have hres : ∀ (b : Nat) (sp : Nat → Bool) (hd : Bool), DataW.TrodAll enc P W' b sp hd f.resultTypes.toList ((Value.bool true).resultList f.resultTypes.size) [.lit (.bool true)] [] := fun b sp hd => by
    rw [hr]; exact trodAll_mk1 (shut_bool hb true)
  have hargs : ∀ sp : Nat → Bool, (∀ x ∈ p, sp x.block = true) → DataW.TrodAll enc P W' 0 sp true f.params.toList args.toList ds p := fun sp h => trodAll_stays hl hB sp _ _ _ _ hrd hA (fun x hx => ⟨hlt x hx, h x hx⟩)
  have hnil : ∀ sp : Nat → Bool, DataW.TrodVars enc P W' sp s.vars [] [] := fun sp => by rw [hv]; rfl
  refine ⟨ds, [], p, [], p, [], hW0, ?_, ?_, ?_, keptBut_below hB, fun _ => ?_⟩
  · rw [hs]; exact hres _ _ _
  · rw [hs]; exact hargs _ (fun x hx => by simpa using hlt x hx)
  · rw [hs]; exact hnil _
  · refine ⟨fun j t r ht hr' => ?_, [.lit (.bool true)] ++ ds, [], [] ++ p, ⟨[] ++ p, [], trodAll_append (hargs _ (fun _ _ => rfl)) (hres _ _ _), hnil _, by simp, ?_, fun h => by cases h⟩, fun x hx _ => by simpa using hx⟩
    · rw [hr] at ht hr'
      cases j with
      | zero => simp [Value.resultList] at ht hr'; subst ht; subst hr'; exact okWide_bool_mk hb _
      | succ j => simp at ht
    · intro b off hx
      rw [hB.frozen (hlt _ (by simpa using hx))]
      exact hfz b off (by simpa using hx)
theorem cell_heap {W : World} {b o : Nat} {u : Value} (h : W.cell? ⟨b, o, none⟩ = some u) : Cell (heapI W) [] b o u := by
  unfold World.cell? at h
  split at h
  · rename_i c t fz hb
    simp only [Option.isSome_none, Bool.false_eq_true, if_false] at h
    exact ⟨c, t, fz, .inl hb, h⟩
  · cases h
/-- A slice that came in, as it is read. -/
theorem open_SlT {H : Type} {enc : TypeId × Value → H} {P : Program} {W : World} {t e : TypeId} {size fuel0 : Nat} {cs : List Value} {x0 : DataW H × List MemPlace} {α : Type} (enc' : α → List Value) (ok : α → Prop)
    (ht : P.underlying t = some (.slice e)) (hc : P.cellsOf e = size) (hpos : 0 < size) (hlen : ∀ y, (enc' y).length = size)
    (hel : ∀ fuel cs x, DataW.trod enc P W 0 (fun _ => true) true fuel e cs = some x → ∃ y, ok y ∧ enc' y = cs)
    (hf' : DataW.trod enc P W 0 (fun _ => true) true fuel0 t cs = some x0) : ∃ av n c xs, cs = [.slice av n c] ∧ Sl (heapI W) size enc' av n c xs ∧ (∀ x ∈ xs, ok x) ∧ c ≤ maxLen := by
  rcases Go.Deep.open_slice ht hf' with ⟨e1, _⟩ | ⟨a, len0, cap0, m, n, D, Pl, e1, hb, hl, hm, hmm, _, hx⟩
  · subst e1
    exact ⟨none, 0, 0, [], rfl, .nil, (fun x hx => by cases hx), Nat.zero_le _⟩
  · subst e1
    have hlm : len0 ≤ m := by rw [hmm]; simp; exact hl
    have each : ∀ i, i < len0 → ∃ y, ok y ∧ W.cells? 0 (a.add (i * size)) size = some (enc' y) := fun i hi => by
      obtain ⟨cs', h1, h2⟩ := hx i (by omega)
      obtain ⟨y, hy, e⟩ := hel _ _ _ h2
      rw [hc] at h1
      exact ⟨y, hy, by rw [h1, e]⟩
    have all : ∀ k, k ≤ len0 → ∃ xs : List α, xs.length = k ∧ ∀ i x, xs[i]? = some x → ok x ∧ W.cells? 0 (a.add (i * size)) size = some (enc' x) := by
      intro k
      induction k with
      | zero => intro _; exact ⟨[], rfl, fun i x h => by simp at h⟩
      | succ k ih =>
        intro hk
        obtain ⟨xs, hl', hxs⟩ := ih (by omega)
        obtain ⟨y, hy, hcy⟩ := each k (by omega)
        refine ⟨xs ++ [y], by simp [hl'], fun i x h => ?_⟩
        by_cases hi : i < xs.length
        · rw [List.getElem?_append_left hi] at h; exact hxs i x h
        · rw [List.getElem?_append_right (by omega)] at h
          have : i = k := by have := (List.getElem?_eq_some_iff.1 h).1; simp at this; omega
          subst this
          rw [hl'] at h; simp at h; subst h
          exact ⟨hy, hcy⟩
    obtain ⟨xs, hl', hxs⟩ := all len0 (Nat.le_refl _)
    have add0 : ∀ (b o n : Nat), (⟨b, o, none⟩ : Addr).add n = ⟨b, o + n, none⟩ := fun b o n => by
      unfold Addr.add
      split
      · rename_i e; subst e; rfl
      · rfl
    have hspot : 0 < xs.length → a.spot = none := fun hx => by
      have hx0 : xs[0]? = some xs[0] := List.getElem?_eq_getElem hx
      have hp0 : 0 < (enc' xs[0]).length := by rw [hlen]; exact hpos
      obtain ⟨_, h1, h2⟩ := World.cells?_some (hxs 0 _ hx0).2
      have h3 := h2 0 hpos
      rw [List.getElem?_eq_getElem hp0] at h3
      simpa [Addr.add] using World.cell?_spot h3
    have cellat : ∀ i x, xs[i]? = some x → ∀ j u, (enc' x)[j]? = some u → W.cell? ⟨a.block, a.off + i * size + j, none⟩ = some u := fun i x hx j u hu => by
      obtain ⟨_, h1, h2⟩ := World.cells?_some (hxs i x hx).2
      have hj : j < size := by rw [← hlen x]; exact (List.getElem?_eq_some_iff.1 hu).1
      have h3 := h2 j hj
      rw [hu] at h3
      have hsp := hspot (by have := (List.getElem?_eq_some_iff.1 hx).1; omega)
      obtain ⟨b, o, sp⟩ := a
      simp only at hsp
      subst hsp
      rw [add0, add0] at h3
      exact h3
    refine ⟨some a, len0, cap0, xs, rfl, ⟨hl', hl, fun hn => ?_, fun k x hx j u hu => ?_⟩, fun x hx => ?_, hm⟩
    · have := hspot (by omega)
      obtain ⟨b, o, sp⟩ := a
      simp only at this
      subst this; rfl
    · exact cell_heap (cellat k x hx j u hu)
    · obtain ⟨i, hi⟩ := List.getElem?_of_mem hx
      exact (hxs i x hi).1
end Go.Kn
end
section
namespace Go.Kn
open Go
theorem trod_seg {H : Type} {enc : TypeId × Value → H} {P : Program} {W : World} {base : Nat} {spare : Nat → Bool} {held : Bool} {t C : Nat} {fs : Array Field} {fuel : Nat} {cs : List Value} {x : DataW H × List MemPlace} (hs : P.underlying t = some (.struct fs))
    (hC : P.cellsOf t = C) (h : DataW.trod enc P W base spare held fuel t cs = some x) :
    cs.length = C ∧ ∃ n, ∀ (i ty off k : Nat), ((fs[i]?).map fun f => (f.type, f.offset)) = some (ty, off) → P.cellsOf ty = k → ∃ y, DataW.trod enc P W base spare held n ty ((cs.drop off).take k) = some y := by
  obtain ⟨xs, n, _, _, hl, hxl, hf⟩ := DataW.trod_struct hs h
  refine ⟨hl.trans hC, n, fun i ty off k hi hk => ?_⟩
  obtain ⟨f, hfi, e⟩ := Option.map_eq_some_iff.1 hi
  cases e
  have g := hf i f hfi
  have hix : i < xs.length := by rw [hxl]; exact (Array.getElem?_eq_some_iff.1 hfi).1
  rw [hk, List.getElem?_eq_getElem hix] at g
  exact ⟨_, g⟩
end Go.Kn
end
section
namespace Go.Proofs.YthcffaheamikgaaDoor
open Go Go.Kn Go.Proofs
open Go.ChangeShapes Go.WideShapes Go.ChangeAt Go.RowKit
set_option maxRecDepth 100000
theorem ound_3 : Tryd.prog.underlying 3 = some (.int .i64) := by kernel_rfl
theorem ound_4 : Tryd.prog.underlying 4 = some .bool := by kernel_rfl
theorem ound_5 : Tryd.prog.underlying 5 = some (.int .u8) := by kernel_rfl
/-- What the tie lists. -/
def laid2 : List (String × DataW Unit) := [("math/bits.deBruijn32tab", Rows.laid_math_bits_deBruijn32tab), ("math/bits.deBruijn64tab", Rows.laid_math_bits_deBruijn64tab)]
theorem gDeb : Tryd.prog.globalNamed "math/bits.deBruijn64tab" = some 1 := by kernel_rfl
theorem tDeb : (Tryd.prog.globals[1]?).map (·.type) = some 150 := by kernel_rfl
theorem deb_is : (Rows.laid_math_bits_deBruijn64tab : DataW Unit) = Lib.tabData .u8 debT := by rfl
theorem deb_of {W : World} (h : laidMetH Tryd.prog laid2 W) : DebOK (heapI W) := by
  rw [MakeChecks.laidMetH_plain _ _ _ (by kernel_rfl)] at h
  obtain ⟨ps, ⟨g0, t0, cs0, f0, p0, q0, hg0, ht0, hv0, hd0, ⟨g1, t1, cs1, f1, p1, q1, hg1, ht1, hv1, hd1, _, _⟩, _⟩, _, _⟩ := h
  obtain rfl := Option.some.inj (gDeb.symm.trans hg1)
  obtain rfl := Option.some.inj (tDeb.symm.trans ht1)
  rw [deb_is] at hd1
  have hcs := Lib.cells_of_tab (n := 64) (e := 5) (by kernel_rfl) ound_5 (by kernel_rfl) (by kernel_rfl) hd1
  intro i hi
  refine cell_heap ?_
  have := World.var?_cell hg1 hv1 i
  rw [this]
  have hl : i < debT.length := hi
  have e : cs1 = (debT.map fun z => Value.int .u8 z).toArray := Array.ext' hcs
  rw [e]
  simp [List.getD, hl]
/-- The door's own heap meets the condition. -/
theorem door_met (os : Os) (args : Array Value) : laidMetH Tryd.prog laid2 ((World.doorLaid Tryd.prog 400 os).forCall (fun _ _ => 0) ⟨#[], args, []⟩).memory :=
  laidMetH_of_parts3 (fuel := 8) (laidMet_of_run' 8 (by kernel_rfl) (by kernel_rfl)) (by kernel_rfl) (by kernel_rfl)
end Go.Proofs.YthcffaheamikgaaDoor
end
section
namespace Go.Proofs.YthcffaheamikgaaDoor
open Go Go.Kn Go.Proofs
open Go.ChangeShapes Go.WideShapes Go.ChangeAt Go.RowKit
set_option maxRecDepth 100000
def encWA (w : Wt) : Value := .agg (encW w).toArray
theorem ostr_49 : Tryd.prog.underlying 49 = some (.struct (Tryd.prog.fieldsOf 49)) := by kernel_rfl
theorem ostr_47 : Tryd.prog.underlying 47 = some (.struct (Tryd.prog.fieldsOf 47)) := by kernel_rfl
theorem ostr_51 : Tryd.prog.underlying 51 = some (.struct (Tryd.prog.fieldsOf 51)) := by kernel_rfl
theorem ound_32 : Tryd.prog.underlying 32 = some (.slice 51) := by kernel_rfl
theorem ostr_34 : Tryd.prog.underlying 34 = some (.struct (Tryd.prog.fieldsOf 34)) := by kernel_rfl
theorem el_rd {H : Type} {enc : TypeId × Value → H} {W : World} (fuel : Nat) (cs : List Value) (x : DataW H × List MemPlace) (h : DataW.trod enc Tryd.prog W 0 (fun _ => true) true fuel 51 cs = some x) : ∃ y : Rd, (fun _ => True) y ∧ encRd y = cs := by
  obtain ⟨hl, n0_, f0⟩ := trod_seg (C := 15) ostr_51 (by kernel_rfl) h
  match cs, hl with
  | [c0, c1, c2, c3, c4, c5, c6, c7, c8, c9, c10, c11, c12, c13, c14], _ =>
    obtain ⟨_, g0_0⟩ := f0 0 4 0 1 (by kernel_rfl) (by kernel_rfl)
    obtain ⟨n0, e0, _⟩ := DataW.trod_bool ound_4 (show DataW.trod enc Tryd.prog W 0 (fun _ => true) true n0_ 4 [c0] = some _ from g0_0)
    obtain ⟨_, g0_1⟩ := f0 1 49 1 14 (by kernel_rfl) (by kernel_rfl)
    obtain ⟨_, n1_, f1⟩ := trod_seg (C := 14) ostr_49 (by kernel_rfl) (show DataW.trod enc Tryd.prog W 0 (fun _ => true) true n0_ 49 [c1, c2, c3, c4, c5, c6, c7, c8, c9, c10, c11, c12, c13, c14] = some _ from g0_1)
    obtain ⟨_, g1_0⟩ := f1 0 3 0 1 (by kernel_rfl) (by kernel_rfl)
    obtain ⟨n1, e1, _, w1⟩ := DataW.trod_int ound_3 (show DataW.trod enc Tryd.prog W 0 (fun _ => true) true n1_ 3 [c1] = some _ from g1_0)
    obtain ⟨_, g1_1⟩ := f1 1 3 1 1 (by kernel_rfl) (by kernel_rfl)
    obtain ⟨n2, e2, _, w2⟩ := DataW.trod_int ound_3 (show DataW.trod enc Tryd.prog W 0 (fun _ => true) true n1_ 3 [c2] = some _ from g1_1)
    obtain ⟨_, g1_2⟩ := f1 2 3 2 1 (by kernel_rfl) (by kernel_rfl)
    obtain ⟨n3, e3, _, w3⟩ := DataW.trod_int ound_3 (show DataW.trod enc Tryd.prog W 0 (fun _ => true) true n1_ 3 [c3] = some _ from g1_2)
    obtain ⟨_, g1_3⟩ := f1 3 3 3 1 (by kernel_rfl) (by kernel_rfl)
    obtain ⟨n4, e4, _, w4⟩ := DataW.trod_int ound_3 (show DataW.trod enc Tryd.prog W 0 (fun _ => true) true n1_ 3 [c4] = some _ from g1_3)
    obtain ⟨_, g1_4⟩ := f1 4 3 4 1 (by kernel_rfl) (by kernel_rfl)
    obtain ⟨n5, e5, _, w5⟩ := DataW.trod_int ound_3 (show DataW.trod enc Tryd.prog W 0 (fun _ => true) true n1_ 3 [c5] = some _ from g1_4)
    obtain ⟨_, g1_5⟩ := f1 5 3 5 1 (by kernel_rfl) (by kernel_rfl)
    obtain ⟨n6, e6, _, w6⟩ := DataW.trod_int ound_3 (show DataW.trod enc Tryd.prog W 0 (fun _ => true) true n1_ 3 [c6] = some _ from g1_5)
    obtain ⟨_, g1_6⟩ := f1 6 3 6 1 (by kernel_rfl) (by kernel_rfl)
    obtain ⟨n7, e7, _, w7⟩ := DataW.trod_int ound_3 (show DataW.trod enc Tryd.prog W 0 (fun _ => true) true n1_ 3 [c7] = some _ from g1_6)
    obtain ⟨_, g1_7⟩ := f1 7 3 7 1 (by kernel_rfl) (by kernel_rfl)
    obtain ⟨n8, e8, _, w8⟩ := DataW.trod_int ound_3 (show DataW.trod enc Tryd.prog W 0 (fun _ => true) true n1_ 3 [c8] = some _ from g1_7)
    obtain ⟨_, g1_8⟩ := f1 8 3 8 1 (by kernel_rfl) (by kernel_rfl)
    obtain ⟨n9, e9, _, w9⟩ := DataW.trod_int ound_3 (show DataW.trod enc Tryd.prog W 0 (fun _ => true) true n1_ 3 [c9] = some _ from g1_8)
    obtain ⟨_, g1_9⟩ := f1 9 3 9 1 (by kernel_rfl) (by kernel_rfl)
    obtain ⟨n10, e10, _, w10⟩ := DataW.trod_int ound_3 (show DataW.trod enc Tryd.prog W 0 (fun _ => true) true n1_ 3 [c10] = some _ from g1_9)
    obtain ⟨_, g1_10⟩ := f1 10 47 10 2 (by kernel_rfl) (by kernel_rfl)
    obtain ⟨_, n2_, f2⟩ := trod_seg (C := 2) ostr_47 (by kernel_rfl) (show DataW.trod enc Tryd.prog W 0 (fun _ => true) true n1_ 47 [c11, c12] = some _ from g1_10)
    obtain ⟨_, g2_0⟩ := f2 0 3 0 1 (by kernel_rfl) (by kernel_rfl)
    obtain ⟨n11, e11, _, w11⟩ := DataW.trod_int ound_3 (show DataW.trod enc Tryd.prog W 0 (fun _ => true) true n2_ 3 [c11] = some _ from g2_0)
    obtain ⟨_, g2_1⟩ := f2 1 3 1 1 (by kernel_rfl) (by kernel_rfl)
    obtain ⟨n12, e12, _, w12⟩ := DataW.trod_int ound_3 (show DataW.trod enc Tryd.prog W 0 (fun _ => true) true n2_ 3 [c12] = some _ from g2_1)
    obtain ⟨_, g1_11⟩ := f1 11 47 12 2 (by kernel_rfl) (by kernel_rfl)
    obtain ⟨_, n3_, f3⟩ := trod_seg (C := 2) ostr_47 (by kernel_rfl) (show DataW.trod enc Tryd.prog W 0 (fun _ => true) true n1_ 47 [c13, c14] = some _ from g1_11)
    obtain ⟨_, g3_0⟩ := f3 0 3 0 1 (by kernel_rfl) (by kernel_rfl)
    obtain ⟨n13, e13, _, w13⟩ := DataW.trod_int ound_3 (show DataW.trod enc Tryd.prog W 0 (fun _ => true) true n3_ 3 [c13] = some _ from g3_0)
    obtain ⟨_, g3_1⟩ := f3 1 3 1 1 (by kernel_rfl) (by kernel_rfl)
    obtain ⟨n14, e14, _, w14⟩ := DataW.trod_int ound_3 (show DataW.trod enc Tryd.prog W 0 (fun _ => true) true n3_ 3 [c14] = some _ from g3_1)
    cases e0; cases e1; cases e2; cases e3; cases e4; cases e5; cases e6; cases e7; cases e8; cases e9; cases e10; cases e11; cases e12; cases e13; cases e14
    exact ⟨⟨n0, ⟨n1, n2, n3, n4, n5, n6, n7, n8, n9, n10, n11, n12, n13, n14⟩⟩, trivial, rfl⟩
theorem el_wt {H : Type} {enc : TypeId × Value → H} {W : World} (fuel : Nat) (cs : List Value) (x : DataW H × List MemPlace) (h : DataW.trod enc Tryd.prog W 0 (fun _ => true) true fuel 34 cs = some x) : ∃ y : Wt, (fun w => ∃ rs, Sl (heapI W) 15 encRd w.a w.n w.c rs) y ∧ encW y = cs := by
  obtain ⟨hl, n0_, f0⟩ := trod_seg (C := 3) ostr_34 (by kernel_rfl) h
  match cs, hl with
  | [c0, c1, c2], _ =>
    obtain ⟨_, g0_0⟩ := f0 0 3 0 1 (by kernel_rfl) (by kernel_rfl)
    obtain ⟨n0, e0, _, w0⟩ := DataW.trod_int ound_3 (show DataW.trod enc Tryd.prog W 0 (fun _ => true) true n0_ 3 [c0] = some _ from g0_0)
    obtain ⟨_, g0_1⟩ := f0 1 3 1 1 (by kernel_rfl) (by kernel_rfl)
    obtain ⟨n1, e1, _, w1⟩ := DataW.trod_int ound_3 (show DataW.trod enc Tryd.prog W 0 (fun _ => true) true n0_ 3 [c1] = some _ from g0_1)
    obtain ⟨_, g0_2⟩ := f0 2 32 2 1 (by kernel_rfl) (by kernel_rfl)
    obtain ⟨a2, m2, q2, n2, e2, s2, o2, _⟩ := open_SlT (t := 32) (e := 51) encRd (fun _ : Rd => True) ound_32 (by kernel_rfl) (by decide) encRd_len (fun fuel cs x h => el_rd fuel cs x h) (show DataW.trod enc Tryd.prog W 0 (fun _ => true) true n0_ 32 [c2] = some _ from g0_2)
    cases e0; cases e1; cases e2
    exact ⟨⟨n0, n1, a2, m2, q2⟩, ⟨n2, s2⟩, rfl⟩
theorem open_wt {H : Type} {enc : TypeId × Value → H} {W : World} {base : Nat} {v : Value} {d : DataW H} {p : List MemPlace} (hv : Value.okWide Tryd.prog W .any base 34 v) (h : DataW.Trod enc Tryd.prog W 0 (fun _ => true) true 34 v d p) : ∃ y : Wt, v = encWA y ∧ (fun w => ∃ rs, Sl (heapI W) 15 encRd w.a w.n w.c rs) y := by
  obtain ⟨cs, rfl, _⟩ := okWide_struct ostr_34 hv
  obtain ⟨fuel, hf⟩ := h
  obtain ⟨l⟩ := cs
  obtain ⟨y, hy, e⟩ := el_wt fuel l _ hf
  exact ⟨y, by rw [← e]; rfl, hy⟩
end Go.Proofs.YthcffaheamikgaaDoor
end
section
namespace Go.Proofs.YthcffaheamikgaaDoor
open Go Go.Kn Go.Proofs
open Go.ChangeShapes Go.WideShapes Go.ChangeAt Go.RowKit
theorem own : ownKnob Tryd.prog.godebug = none := by kernel_rfl
theorem laidOut : laidOutB Tryd.prog = true := by kernel_rfl
set_option maxRecDepth 100000 in
theorem editionOne_lifted (os : Os) (started : os.Started) (H : Type) (enc : TypeId × Value → H) :
    ReturnsInHanded {} Tryd.checked os 4 .any (fun w args => (Rows.editionOneSpec.pre enc Tryd.prog Tryd.f4 [] false w args ∧ laidMetH Tryd.prog laid2 w) ∧ sizedMet enc Tryd.prog Tryd.f4 (OpenSpec.ofChange Rows.editionOneSpec) false w args)
      (Rows.editionOneSpec.post enc Tryd.prog Tryd.f4 false true false false) := by
  refine returnsInHanded_of_change_and (C := Tryd.checked) (X := fun w _ => laidMetH Tryd.prog laid2 w) (fun _ _ _ hh h => h.of_heap hh) own started (by kernel_rfl) Tryd.func4
    (ChangeSpec.witness_shaped (enc := enc) (C := Tryd.checked) (os := os) (X := fun w _ => laidMetH Tryd.prog laid2 w) false (World.doorLaid Tryd.prog 400 os) #[.agg #[.int .i64 0, .int .i64 0, .slice none 0 0], .int .i64 0] 8 rfl (World.shaped_of_RefB (by kernel_rfl) (by kernel_rfl)) (by kernel_rfl) (by kernel_rfl) (by kernel_rfl) (door_met os _)) ?_
  intro W base args ds gs before hval0 hW _ _ hL _
  have hval : ∀ (j : Nat) t v, Tryd.f4.params[j]? = some t → args[j]? = some v → Value.okWide Tryd.prog W .any base t v := hval0
  have hW' := hW
  obtain ⟨p, q, hA0, hV, rfl, hfz, hnd⟩ := hW
  have hA : DataW.TrodAll enc Tryd.prog W 0 (fun _ => true) true Tryd.f4.params.toList args.toList ds p := hA0
  rw [Tryd.params4] at hA hval
  obtain ⟨v0, vs1, d0, ds1, p0, q1, ea, rfl, rfl, h0, hA⟩ := trodAll_cons hA
  obtain ⟨v1, vs2, d1, ds2, p1, q2, rfl, rfl, rfl, h1, hA⟩ := trodAll_cons hA
  obtain ⟨rfl, rfl, rfl⟩ := trodAll_nil hA
  have ea' : args = #[v0, v1] := by rw [← Array.toArray_toList (xs := args), ea]
  subst ea'
  obtain ⟨rfl, rfl⟩ := trodVars_none hV
  have hDb := deb_of hL
  obtain ⟨w0, rfl, rs, hR⟩ := open_wt (hval 0 34 v0 rfl rfl) h0
  obtain ⟨no, rfl, _, _, wfno⟩ := open_int ound_3 (hval 1 3 v1 rfl rfl) h1
  refine (RetV.law (w_oneLaw hR no hDb)).mono fun e W' ⟨he, hB⟩ => ?_
  subst he
  exact ⟨_, rfl, post_law laidOut (by kernel_rfl) ound_4 rfl rfl (by rw [Tryd.params4]; simp only [List.mem_cons, List.not_mem_nil, or_false, forall_eq_or_imp, forall_eq]; exact ⟨⟨by kernel_rfl, of_decide_eq_true (by kernel_rfl)⟩, ⟨by kernel_rfl, of_decide_eq_true (by kernel_rfl)⟩⟩) hW' hB⟩
theorem editionOne_row : Rows.EditionOneSaid :=
  OpenClaim.holds_of_wide 4 Tryd.f4 rfl rfl rfl rfl rfl rfl rfl ⟨rfl, rfl, rfl, rfl, rfl⟩ rfl rfl rfl rfl rfl (by kernel_rfl) Tryd.func4 (by kernel_rfl)
    (of_decide_eq_true (by kernel_rfl)) (by unfold Func.isWrapper; first | (rw [if_pos (by decide +kernel)]; kernel_rfl) | (rw [if_neg (by decide +kernel)]; exact ⟨rfl, rfl⟩))
    (fun os started H enc _ => editionOne_lifted os started H enc)
theorem editionOne_holds : Rows.EditionOneCardSaid :=
  Claim7.holds_tied_plain_at .later [] [.data, .data] true (true, "919b8fa584992d8ae3c594542a3c1b39c1f5bee942388cade4cc2b467c5275fd") false
    editionOne_row (fun _ h => by cases h) (by kernel_rfl) (fun _ h => by cases h) editionOne_row_tie rfl ⟨rfl, rfl⟩ (by kernel_rfl) rfl
    (fun f fn hf hfn => by
      obtain rfl : f = 4 := Option.some.inj ((show Tryd.prog.funcNamed "kinesphere/kinespherelaw43.EditionOne" = some 4 by kernel_rfl).symm.trans hf) |>.symm
      obtain rfl : fn = Tryd.f4 := (Option.some.inj (Tryd.func4.symm.trans hfn)).symm
      exact ⟨by kernel_rfl, fun j t ht => by
        rw [Tryd.params4] at ht
        have hm : t ∈ [34, 3] := by simpa using Array.mem_of_getElem? ht
        have hall : ([34, 3].all fun u => !Tryd.prog.wantsStandIn u) = true := by kernel_rfl
        exact (show Tryd.prog.wantsStandIn t = false by simpa using List.all_eq_true.1 hall t hm)⟩)
    (by kernel_rfl)
#print axioms editionOne_holds
end Go.Proofs.YthcffaheamikgaaDoor
end
