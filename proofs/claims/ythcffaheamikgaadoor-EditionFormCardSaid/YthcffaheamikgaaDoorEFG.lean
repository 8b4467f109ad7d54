/- editionForm_holds, part G of the proof: what its theorems say holds without further conditions. -/
import Derived.ProofKit
import Derived.Deep.Slices
import Derived.Test.YthcffaheamikgaaDoorRows
import Derived.LaidMore
import Derived.MakeChecks
import Derived.Lib.LaidTab
import Derived.Test.YthcffaheamikgaaDoorCards
import Derived.Test.YthcffaheamikgaaDoorTie
import Derived.Stop.Joined
import Derived.SevenTiedAt
import Derived.Test.YthcffaheamikgaaDoorEFF
section
namespace Go.Proofs.YthcffaheamikgaaDoor
open Go Go.Kn Go.Proofs
theorem wrap_id {n : Int} (h : 0 ≤ n ∧ n ≤ 9223372036854775807) : IntKind.i64.wrap n = n := by
  unfold IntKind.wrap IntKind.signed IntKind.bits; simp; omega
theorem bv_nat {a : Nat} (h : a < 18446744073709551616) : (BitVec.ofInt 64 (a : Int)).toNat = a := by
  rw [BitVec.toNat_ofInt]
  omega
theorem orI_nat {a b : Nat} (ha : a < 9223372036854775808) (hb : b < 9223372036854775808) : orI (a : Int) (b : Int) = ((a ||| b : Nat) : Int) := by
  unfold orI
  rw [BitVec.toNat_or, bv_nat (by omega), bv_nat (by omega)]
  have : a ||| b < 2 ^ 63 := Nat.or_lt_two_pow (by omega) (by omega)
  exact wrap_id (by omega)
theorem andI_nat {a b : Nat} (ha : a < 9223372036854775808) (hb : b < 9223372036854775808) : andI (a : Int) (b : Int) = ((a &&& b : Nat) : Int) := by
  unfold andI
  rw [BitVec.toNat_and, bv_nat (by omega), bv_nat (by omega)]
  have : a &&& b ≤ a := Nat.and_le_left
  exact wrap_id (by omega)
/-- A digit put behind a number. -/
theorem putN {c n b : Nat} (hb : b ≤ 8) (hn : n < 2 ^ b) (hc : c < 2 ^ 40) : orI (IntKind.i64.wrap ((c : Int) * 2 ^ (min (b : Int).toNat IntKind.i64.bits))) (n : Int) = ((c * 2 ^ b + n : Nat) : Int) := by
  have e1 : min (b : Int).toNat IntKind.i64.bits = b := by
    show min b 64 = b
    omega
  have h2 : 2 ^ b ≤ 2 ^ 8 := Nat.pow_le_pow_right (by decide) hb
  have h3 : c * 2 ^ b < 2 ^ 40 * 2 ^ 8 := Nat.mul_lt_mul_of_lt_of_le hc h2 (by decide)
  have e2 : (c : Int) * 2 ^ b = ((c * 2 ^ b : Nat) : Int) := by simp
  rw [e1, e2, wrap_id (by omega), orI_nat (by omega) (by omega)]
  have := Nat.two_pow_add_eq_or_of_lt hn c
  rw [Nat.mul_comm c]
  rw [this]
theorem maskN {b : Nat} (hb : b ≤ 8) : IntKind.i64.wrap (1 * 2 ^ (min (b : Int).toNat IntKind.i64.bits)) - 1 = ((2 ^ b - 1 : Nat) : Int) := by
  have e1 : min (b : Int).toNat IntKind.i64.bits = b := by
    show min b 64 = b
    omega
  have h1 : 0 < 2 ^ b := Nat.pow_pos (by decide)
  have h2 : 2 ^ b ≤ 2 ^ 8 := Nat.pow_le_pow_right (by decide) hb
  have e2 : (1 : Int) * 2 ^ b = ((2 ^ b : Nat) : Int) := by simp
  rw [e1, e2, wrap_id (by omega)]
  omega
theorem lbN_nat {b c : Nat} (hb : b ≤ 8) (hc : c < 2 ^ 62) : lbN b (c : Int) = ((c % 2 ^ b : Nat) : Int) := by
  unfold lbN
  have h2 : 2 ^ b ≤ 2 ^ 8 := Nat.pow_le_pow_right (by decide) hb
  rw [maskN hb, andI_nat (by omega) (by omega), Nat.and_two_pow_sub_one_eq_mod]
theorem shN_nat {b c : Nat} (hb : b ≤ 8) : shN b (c : Int) = ((c / 2 ^ b : Nat) : Int) := by
  unfold shN
  have e1 : min (b : Int).toNat IntKind.i64.bits = b := by
    show min b 64 = b
    omega
  rw [e1]
  have e2 : (2 : Int) ^ b = ((2 ^ b : Nat) : Int) := by simp
  rw [e2]
  rw [Int.fdiv_eq_ediv_of_nonneg _ (Int.natCast_nonneg _)]
  first | exact (Int.natCast_ediv _ _).symm | exact (Int.ofNat_ediv _ _).symm | rfl
/-- The digits of a sign, as natural numbers in range. -/
structure DigOK (r k s d l z w : Nat) : Prop where
  r : r ≤ 63
  k1 : 1 ≤ k
  k : k ≤ 9
  s : s ≤ 2
  d : d ≤ 8
  l : l ≤ 3
  z : z ≤ 255
  w : w ≤ 64
def codeN (r k s d l z w : Nat) : Nat := (((((r * 16 + k) * 4 + s) * 16 + d) * 4 + l) * 256 + z) * 128 + w
theorem packN {r k s d l z w : Nat} (h : DigOK r k s d l z w) : packG 0 [⟨r, 0, 63, 6⟩, ⟨k, 1, 9, 4⟩, ⟨s, 0, 2, 2⟩, ⟨d, 0, 8, 4⟩, ⟨l, 0, 3, 2⟩, ⟨z, 0, 255, 8⟩, ⟨w, 0, 64, 7⟩] = some ((codeN r k s d l z w : Nat) : Int) := by
  obtain ⟨h1, h2, h3, h4, h5, h6, h7, h8⟩ := h
  have g : ∀ {c : Int} {x : Dg} {ds : List Dg}, badD x = false → packG c (x :: ds) = packG (putD c x) ds := fun {c x ds} hb => by
    show (if badD x = true then none else packG (putD c x) ds) = _
    rw [if_neg (by rw [hb]; decide)]
  have q : ∀ {c n b : Nat} {lo hi : Int}, b ≤ 8 → n < 2 ^ b → c < 2 ^ 40 → putD (c : Int) ⟨(n : Int), lo, hi, (b : Int)⟩ = ((c * 2 ^ b + n : Nat) : Int) := fun hb hn hc => putN hb hn hc
  have bd : ∀ {n lo hi b : Int}, lo ≤ n → n ≤ hi → badD ⟨n, lo, hi, b⟩ = false := fun a b => by unfold badD; simp; omega
  rw [g (bd (by omega) (by omega)), show (0 : Int) = ((0 : Nat) : Int) from rfl, show (6 : Int) = ((6 : Nat) : Int) from rfl, q (by decide) (by omega) (by decide)]
  rw [g (bd (by omega) (by omega)), show (4 : Int) = ((4 : Nat) : Int) from rfl, q (b := 4) (by decide) (by omega) (by omega)]
  rw [g (bd (by omega) (by omega)), show (2 : Int) = ((2 : Nat) : Int) from rfl, q (b := 2) (by decide) (by omega) (by omega)]
  rw [g (bd (by omega) (by omega)), q (b := 4) (by decide) (by omega) (by omega)]
  rw [g (bd (by omega) (by omega)), q (b := 2) (by decide) (by omega) (by omega)]
  rw [g (bd (by omega) (by omega)), show (8 : Int) = ((8 : Nat) : Int) from rfl, q (b := 8) (by decide) (by omega) (by omega)]
  rw [g (bd (by omega) (by omega)), show (7 : Int) = ((7 : Nat) : Int) from rfl, q (b := 7) (by decide) (by omega) (by omega)]
  show some _ = some _
  unfold codeN
  simp
/-- The digits of a code. -/
theorem rawS_nat (c : Nat) (hc : c < 2 ^ 33) : rawS (c : Int) = ⟨0, ((c / 128 / 256 / 4 / 16 / 4 / 16 : Nat) : Int), 0, 0, ((c / 128 / 256 / 4 / 16 / 4 % 16 : Nat) : Int), ((c / 128 / 256 / 4 / 16 % 4 : Nat) : Int), ((c / 128 / 256 / 4 % 16 : Nat) : Int), ((c / 128 / 256 % 4 : Nat) : Int), ((c / 128 % 256 : Nat) : Int), ((c % 128 : Nat) : Int), 0, 0, 0, 0⟩ := by
  have s7 : shN 7 (c : Int) = ((c / 128 : Nat) : Int) := shN_nat (by decide)
  have s8 : shN 8 ((c / 128 : Nat) : Int) = ((c / 128 / 256 : Nat) : Int) := shN_nat (by decide)
  have s2 : shN 2 ((c / 128 / 256 : Nat) : Int) = ((c / 128 / 256 / 4 : Nat) : Int) := shN_nat (by decide)
  have s4 : shN 4 ((c / 128 / 256 / 4 : Nat) : Int) = ((c / 128 / 256 / 4 / 16 : Nat) : Int) := shN_nat (by decide)
  have t2 : shN 2 ((c / 128 / 256 / 4 / 16 : Nat) : Int) = ((c / 128 / 256 / 4 / 16 / 4 : Nat) : Int) := shN_nat (by decide)
  have t4 : shN 4 ((c / 128 / 256 / 4 / 16 / 4 : Nat) : Int) = ((c / 128 / 256 / 4 / 16 / 4 / 16 : Nat) : Int) := shN_nat (by decide)
  unfold rawS
  rw [s7, s8, s2, s4, t2, t4]
  rw [lbN_nat (b := 4) (c := c / 128 / 256 / 4 / 16 / 4) (by decide) (by omega), lbN_nat (b := 2) (c := c / 128 / 256 / 4 / 16) (by decide) (by omega), lbN_nat (b := 4) (c := c / 128 / 256 / 4) (by decide) (by omega), lbN_nat (b := 2) (c := c / 128 / 256) (by decide) (by omega), lbN_nat (b := 8) (c := c / 128) (by decide) (by omega), lbN_nat (b := 7) (c := c) (by decide) (by omega)]
end Go.Proofs.YthcffaheamikgaaDoor
end
section
namespace Go.Proofs.YthcffaheamikgaaDoor
open Go Go.Kn Go.Proofs
/-- The digits of a sign are in range: then they are natural numbers. -/
theorem dig_of {x : Sg} (h : (packG 0 (dgs x)).isSome = true) : ∃ r k s d l z w : Nat, DigOK r k s d l z w ∧ x.role = r ∧ x.kind = k ∧ x.side = s ∧ x.dir = d ∧ x.level = l ∧ x.size = z ∧ x.wth = w := by
  have g : ∀ {c : Int} {y : Dg} {ds : List Dg}, (packG c (y :: ds)).isSome = true → badD y = false ∧ (packG (putD c y) ds).isSome = true := fun {c y ds} hs => by
    have hs : (if badD y = true then none else packG (putD c y) ds).isSome = true := hs
    cases hb : badD y with
    | true => rw [hb] at hs; cases hs
    | false => rw [hb] at hs; exact ⟨rfl, hs⟩
  have u : ∀ {n lo hi b : Int}, badD ⟨n, lo, hi, b⟩ = false → lo ≤ n ∧ n ≤ hi := fun hb => by unfold badD at hb; simp at hb; omega
  unfold dgs at h
  obtain ⟨b1, h⟩ := g h
  obtain ⟨b2, h⟩ := g h
  obtain ⟨b3, h⟩ := g h
  obtain ⟨b4, h⟩ := g h
  obtain ⟨b5, h⟩ := g h
  obtain ⟨b6, h⟩ := g h
  obtain ⟨b7, _⟩ := g h
  have b1 := u b1; have b2 := u b2; have b3 := u b3; have b4 := u b4; have b5 := u b5; have b6 := u b6; have b7 := u b7
  exact ⟨x.role.toNat, x.kind.toNat, x.side.toNat, x.dir.toNat, x.level.toNat, x.size.toNat, x.wth.toNat, ⟨by omega, by omega, by omega, by omega, by omega, by omega, by omega, by omega⟩, by omega, by omega, by omega, by omega, by omega, by omega, by omega⟩
theorem dig_code {x : Sg} {r k s d l z w : Nat} (h : DigOK r k s d l z w) (e : x.role = r ∧ x.kind = k ∧ x.side = s ∧ x.dir = d ∧ x.level = l ∧ x.size = z ∧ x.wth = w) : codeF x = ((codeN r k s d l z w : Nat) : Int) ∧ codeE x = 0 := by
  obtain ⟨e1, e2, e3, e4, e5, e6, e7⟩ := e
  have hp : packG 0 (dgs x) = some ((codeN r k s d l z w : Nat) : Int) := by
    unfold dgs
    rw [e1, e2, e3, e4, e5, e6, e7]
    exact packN h
  unfold codeF codeE
  rw [hp]; exact ⟨rfl, rfl⟩
theorem codeE_ok {x : Sg} (h : codeE x = 0) : (packG 0 (dgs x)).isSome = true := by
  unfold codeE at h
  split at h
  · assumption
  · cases h
/-- A code that has a sign: the sign's code is the code. -/
theorem code_sign {c : Int} (h : signE c = 0) : codeF (signF c) = c ∧ codeE (signF c) = 0 ∧ 0 < c ∧ c < 8589934592 := by
  have hs : signF c = rawS c := by unfold signF; rw [if_neg (by omega)]
  have hraw : codeE (rawS c) = 0 := h
  obtain ⟨r, k, s, d, l, z, w, hd, e⟩ := dig_of (codeE_ok hraw)
  have hrole : (rawS c).role = shN 4 (shN 2 (shN 4 (shN 2 (shN 8 (shN 7 c))))) := rfl
  have hc : 0 ≤ c ∧ c < 2 ^ 33 := by
    have e1 := e.1
    rw [hrole] at e1
    have hr := hd.r
    have u : ∀ (b : Nat) (x : Int), b ≤ 8 → shN b x = x.fdiv (2 ^ b) := fun b x hb => by
      unfold shN
      have : min (b : Int).toNat IntKind.i64.bits = b := by
        show min b 64 = b
        omega
      rw [this]
    rw [u 4 _ (by decide), u 2 _ (by decide), u 4 _ (by decide), u 2 _ (by decide), u 8 _ (by decide), u 7 _ (by decide)] at e1
    have v : ∀ (x : Int) (m : Int), 0 < m → x.fdiv m = x / m := fun x m hm => Int.fdiv_eq_ediv_of_nonneg _ (by omega)
    rw [v _ _ (by decide), v _ _ (by decide), v _ _ (by decide), v _ _ (by decide), v _ _ (by decide), v _ _ (by decide)] at e1
    have e1 : c / 128 / 256 / 4 / 16 / 4 / 16 = (r : Int) := e1
    omega
  obtain ⟨n, rfl⟩ : ∃ n : Nat, c = (n : Int) := ⟨c.toNat, by omega⟩
  have hn := rawS_nat n (by omega)
  obtain ⟨c1, c2⟩ := dig_code hd e
  rw [hs]
  refine ⟨?_, c2, ?_, by omega⟩
  · rw [c1]
    rw [hn] at e
    obtain ⟨e1, e2, e3, e4, e5, e6, e7⟩ := e
    simp only at e1 e2 e3 e4 e5 e6 e7
    unfold codeN
    omega
  · rw [hn] at e
    have e2 : ((n / 128 / 256 / 4 / 16 / 4 % 16 : Nat) : Int) = (k : Int) := e.2.1
    have := hd.k1
    omega
end Go.Proofs.YthcffaheamikgaaDoor
end
section
namespace Go.Proofs.YthcffaheamikgaaDoor
open Go Go.Kn Go.Proofs
def cz : Nat → (Nat → Int) → Nat
  | 0, _ => 0
  | n + 1, f => cz n f + (if f n = 0 then 0 else 1)
theorem cz_zero : ∀ n, cz n (fun _ => 0) = 0
  | 0 => rfl
  | n + 1 => by unfold cz; rw [cz_zero n]; rfl
theorem cz_upd {f : Nat → Int} {a : Nat} {v : Int} : ∀ n, cz n (updF f a v) ≤ cz n f + (if a < n then 1 else 0)
  | 0 => Nat.zero_le _
  | n + 1 => by
    have ih := cz_upd (f := f) (a := a) (v := v) n
    unfold cz
    by_cases e : n = a
    · subst e
      rw [updF_same, if_pos (show n < n + 1 by omega)]
      rw [if_neg (show ¬ n < n by omega)] at ih
      split <;> split <;> omega
    · rw [updF_ne e]
      by_cases h : a < n
      · rw [if_pos h] at ih
        rw [if_pos (show a < n + 1 by omega)]
        split <;> omega
      · rw [if_neg h] at ih
        rw [if_neg (show ¬ a < n + 1 by omega)]
        split <;> omega
theorem cz_one {f : Nat → Int} {a n : Nat} {v : Int} : cz n (updF f a v) ≤ cz n f + 1 := by
  have := cz_upd (f := f) (a := a) (v := v) n
  split at this <;> omega
theorem cz_tx {w : Nat → Nat} {T : List Int} {n : Nat} : ∀ k, cz n (txF w T k) ≤ k
  | 0 => by show cz n (fun _ => 0) ≤ 0; rw [cz_zero]; exact Nat.le_refl _
  | k + 1 => by
    have ih := cz_tx (w := w) (T := T) (n := n) k
    have := cz_one (f := txF w T k) (a := sumF w k + w k) (n := n) (v := T.getD k 0)
    show cz n (updF (txF w T k) (sumF w k + w k) (T.getD k 0)) ≤ k + 1
    omega
def both (y : Int × Int) : Bool := decide (y.1 > 0) && decide (y.2 > 0)
theorem cz_pr {w : Nat → Nat} {l : List Int} {n : Nat} (ps : List (Int × Int)) : ∀ (f : Nat → Int), cz n (ps.foldl (prF w l) f) ≤ cz n f + (ps.filter both).length := by
  induction ps with
  | nil => intro f; exact Nat.le_refl _
  | cons y ps ih =>
    intro f
    rw [List.foldl_cons]
    have h := ih (prF w l f y)
    cases hb : (decide (y.1 > 0) && decide (y.2 > 0)) with
    | true =>
      rw [prF_yes hb] at h ⊢
      have h2 := cz_one (f := f) (a := sumF w (y.1 - 1).toNat + w (y.1 - 1).toNat) (n := n) (v := l.getD (y.2 - 1).toNat 0)
      rw [List.filter_cons_of_pos (show both y = true from hb), List.length_cons]; omega
    | false =>
      rw [prF_no hb] at h ⊢
      rw [List.filter_cons_of_neg (show ¬ both y = true by unfold both; rw [hb]; decide)]; exact h
theorem cz_al {w : Nat → Nat} {l : List Int} {n : Nat} (qs : List (Int × Int)) : ∀ (s : (Nat → Int) × (Nat → Nat)), cz n (qs.foldl (alS w l) s).1 ≤ cz n s.1 + qs.length := by
  induction qs with
  | nil => intro s; exact Nat.le_refl _
  | cons q qs ih =>
    intro s
    rw [List.foldl_cons]
    have h := ih (alS w l s q)
    have h2 := cz_one (f := s.1) (a := sumF w q.1.toNat + s.2 q.1.toNat) (n := n) (v := l.getD q.2.toNat 0)
    have h3 : cz n (alS w l s q).1 ≤ cz n s.1 + 1 := h2
    rw [List.length_cons]; omega
def sec (y : Int × Int) : Bool := decide (y.2 > 0)
theorem alo_cnt {m n : Nat} : ∀ (ps : List (Int × Int)) (a : Int), (∀ p ∈ ps, QOK m n p) → (ps.filter both).length + (aloF a ps).length ≤ (ps.filter sec).length
  | [], _, _ => Nat.le_refl _
  | p :: ps, a, h => by
    obtain ⟨i, k, rfl, _, _, h0⟩ := h p (List.mem_cons_self ..)
    have hr := fun q hq => h q (List.mem_cons_of_mem _ hq)
    unfold aloF
    split
    · rename_i hi
      have ih := alo_cnt ps (i : Int) hr
      by_cases hk : 0 < k
      · rw [List.filter_cons_of_pos (show both ((i : Int), (k : Int)) = true by unfold both; simp at hi ⊢; omega), List.filter_cons_of_pos (show sec ((i : Int), (k : Int)) = true by unfold sec; simp; omega), List.length_cons, List.length_cons]
        have ih : (ps.filter both).length + (aloF ((i : Int), (k : Int)).1 ps).length ≤ (ps.filter sec).length := ih
        omega
      · rw [List.filter_cons_of_neg (show ¬ both ((i : Int), (k : Int)) = true by unfold both; simp; omega), List.filter_cons_of_neg (show ¬ sec ((i : Int), (k : Int)) = true by unfold sec; simp; omega)]
        exact ih
    · rename_i hi
      have ih := alo_cnt ps a hr
      have hi0 : i = 0 := by simp at hi; omega
      rw [List.filter_cons_of_neg (show ¬ both ((i : Int), (k : Int)) = true by unfold both; simp; omega), List.filter_cons_of_pos (show sec ((i : Int), (k : Int)) = true by unfold sec; simp; omega), List.length_cons, List.length_cons]
      omega
theorem pa_cnt {a b : List Int} : ∀ (f i k : Nat), i ≤ a.length → k ≤ b.length → ((paF a b f i k).filter sec).length + k ≤ b.length
  | 0, _, k, _, hk => by show 0 + k ≤ _; omega
  | f + 1, i, k, hi, hk => by
    unfold paF
    split
    · rename_i hg
      split
      · rename_i hb
        have h1 : i < a.length ∧ k < b.length := by unfold bothP at hb; simp at hb; omega
        have ih := pa_cnt f (i + 1) (k + 1) h1.1 h1.2
        rw [List.filter_cons_of_pos (show sec (((i + 1 : Nat) : Int), ((k + 1 : Nat) : Int)) = true by unfold sec; simp <;> omega), List.length_cons]; omega
      · rename_i hb
        split
        · rename_i ho
          have h1 : i < a.length := by unfold oneP at ho; simp at ho; omega
          have ih := pa_cnt f (i + 1) k h1 hk
          rw [List.filter_cons_of_neg (show ¬ sec (((i + 1 : Nat) : Int), (0 : Int)) = true by unfold sec; simp)]; exact ih
        · rename_i ho
          have h1 : k < b.length := two_lt hi hk (by simp at hg; omega) (by simpa using hb) (by simpa using ho)
          have ih := pa_cnt f i (k + 1) hi h1
          rw [List.filter_cons_of_pos (show sec ((0 : Int), ((k + 1 : Nat) : Int)) = true by unfold sec; simp <;> omega), List.length_cons]; omega
    · show 0 + k ≤ _; omega
theorem pfW_cnt {xs : List Wr} {i : Nat} : ((pfW xs i).filter both).length + (alW xs i).length ≤ (csW xs i).length := by
  have h1 := alo_cnt (pfW xs i) 0 (pfW_ok (xs := xs) (i := i)).1
  have h2 : ((pfW xs i).filter sec).length ≤ (csW xs i).length := by
    unfold pfW
    split
    · exact Nat.zero_le _
    · unfold pairR
      split
      · exact Nat.zero_le _
      · have := pa_cnt (a := csW xs 0) (b := csW xs i) ((csW xs 0).length + (csW xs i).length) 0 0 (Nat.zero_le _) (Nat.zero_le _)
        unfold pairL; omega
  exact Nat.le_trans h1 h2
theorem row_cz {xs : List Wr} {i n : Nat} : cz n (rowF (wdW xs) (csW xs 0) (csW xs i) i (pfW xs i)) ≤ (csW xs i).length := by
  unfold rowF alP
  have h1 := cz_al (w := wdW xs) (l := csW xs i) (n := n) (aloL (pfW xs i)) ((pfW xs i).foldl (prF (wdW xs) (csW xs i)) (if i = 0 then txF (wdW xs) (csW xs 0) (csW xs 0).length else fun _ => 0), fun _ => 0)
  have h2 := cz_pr (w := wdW xs) (l := csW xs i) (n := n) (pfW xs i) (if i = 0 then txF (wdW xs) (csW xs 0) (csW xs 0).length else fun _ => 0)
  have h3 := pfW_cnt (xs := xs) (i := i)
  by_cases h0 : i = 0
  · subst h0
    have h4 := cz_tx (w := wdW xs) (T := csW xs 0) (n := n) (csW xs 0).length
    have e1 : pfW xs 0 = [] := rfl
    rw [e1] at h1 h2 ⊢
    simp only [if_true] at h1 h2 ⊢
    have e2 : aloL [] = [] := rfl
    rw [e2] at h1 ⊢
    simp only [List.filter_nil, List.length_nil, Nat.add_zero] at h1 h2
    omega
  · rw [if_neg h0] at h1 h2 ⊢
    rw [cz_zero] at h2
    have e3 : (alW xs i).length = (aloL (pfW xs i)).length := rfl
    simp only at h1
    omega
theorem nzF_cz {n : Nat} {f : Nat → Int} : ∀ k, k ≤ n → nzF (rngL n f) k = cz k f
  | 0, _ => rfl
  | k + 1, hk => by
    have ih := nzF_cz (n := n) (f := f) k (by omega)
    have hx : (rngL n f)[k]? = some (f k) := rngL_at (by omega)
    unfold cz
    by_cases h : f k = 0
    · rw [nzF_no hx (by simp [h]), ih, if_pos h]; rfl
    · rw [nzF_yes hx (by simp [h]), ih, if_neg h]
theorem tab_nz {xs : List Wr} : NzOK xs (tabR xs) := by
  intro i x row hx hr k hk h0
  have hil : (tabR xs).length ≤ xs.length := tabR_in.1
  unfold tabR at hr
  split at hr
  · simp at hr
  · rw [List.getElem?_map] at hr
    have hi := (List.getElem?_eq_some_iff.1 hx).1
    rw [List.getElem?_range hi, Option.map_some] at hr
    have hr := (Option.some.inj hr).symm
    subst hr
    unfold rowW at hk h0 ⊢
    rw [rngL_len] at hk
    have hg := getD_of (d := 0) (rngL_at (f := rowF (wdW xs) (csW xs 0) (csW xs i) i (pfW xs i)) hk)
    rw [hg] at h0
    rw [nzF_cz k (by omega)]
    have h1 := row_cz (xs := xs) (i := i) (n := k + 1)
    have h2 : cz (k + 1) (rowF (wdW xs) (csW xs 0) (csW xs i) i (pfW xs i)) = cz k (rowF (wdW xs) (csW xs 0) (csW xs i) i (pfW xs i)) + 1 := by
      show _ + (if _ then 0 else 1) = _
      rw [if_neg h0]
    have h3 : (csW xs i).length = x.rs.length := by rw [csW_at hx, List.length_map]
    omega
end Go.Proofs.YthcffaheamikgaaDoor
end
section
namespace Go.Proofs.YthcffaheamikgaaDoor
open Go Go.Kn Go.Proofs
theorem chk_frm {y : Sg} (h : chkG [y] = 0) : frm y = true := by
  unfold chkG at h
  rw [if_neg (show ¬ [y].length > 4096 from by simp)] at h
  split at h
  · rename_i h2
    unfold skB at h2
    have h3 := List.all_eq_true.1 h2 0 (by simp)
    unfold skP at h3
    simp at h3
    exact h3
  · cases h
theorem good_rd {xs : List Wr} : ∀ {l : Int}, goodW l xs = true → ∀ x ∈ xs, ∀ r ∈ x.rs, badR r = false := by
  induction xs with
  | nil => intro l _ x hx; cases hx
  | cons z xs ih =>
    intro l h x hx r hr
    have h : (!badW l z && (!z.rs.any badR && goodW z.no xs)) = true := h
    simp only [Bool.and_eq_true, Bool.not_eq_true'] at h
    rcases List.mem_cons.1 hx with rfl | hx
    · have := List.any_eq_false.1 h.2.1 r hr
      simpa using this
    · exact ih h.2.2 x hx r hr
theorem wit_frm {xs : List Wr} (h : chkW xs = 0) {x : Wr} (hx : x ∈ xs) {r : Rd} (hr : r ∈ x.rs) : badR r = false ∧ (r.lost = false → frm r.sg = true ∧ r.sg.id = 0) ∧ (r.lost = true → r.sg = zeroG) := by
  have hg : goodW 0 xs = true := by
    unfold chkW at h
    split at h
    · cases h
    · split at h
      · cases h
      · split at h
        · assumption
        · cases h
  have hb := good_rd hg x hx r hr
  refine ⟨hb, fun hl => ?_, fun hl => ?_⟩
  · unfold badR at hb
    rw [hl] at hb
    simp only [Bool.false_and, Bool.not_false, Bool.true_and, Bool.false_or, Bool.or_eq_false_iff, bne_eq_false_iff_eq] at hb
    exact ⟨chk_frm hb.2, hb.1⟩
  · unfold badR at hb
    rw [hl] at hb
    simp only [Bool.true_and, Bool.not_true, Bool.false_and, Bool.or_false, Bool.not_eq_false'] at hb
    exact sgEq_iff.1 hb
/-- The signs that a locus finds are in form. -/
theorem sgK_frm {ws : List Wr} {rows : List (List Int)} {k : Nat} {code : Int} (hc : chkW ws = 0) (hn : NzOK ws rows) (hlen : rows.length = ws.length) (hk : ∀ r ∈ rows, k < r.length) : ∀ i, i ≤ rows.length → (∀ y, (sgK ws rows k code i).ex = some y → frm y = true) ∧ (∀ y, (sgK ws rows k code i).so = some y → frm y = true)
  | 0, _ => ⟨(fun y h => by cases h), (fun y h => by cases h)⟩
  | i + 1, hi => by
    obtain ⟨h1, h2⟩ := sgK_frm hc hn hlen hk i (by omega)
    obtain ⟨row, hr⟩ : ∃ r, rows[i]? = some r := ⟨_, List.getElem?_eq_getElem (by omega)⟩
    obtain ⟨x, hx⟩ : ∃ x, ws[i]? = some x := ⟨_, List.getElem?_eq_getElem (by omega)⟩
    have hrg : rows.getD i [] = row := getD_of hr
    have e : sgK ws rows k code (i + 1) = sgSt code (sgK ws rows k code i) ((rows.getD i []).getD k 0) (ydF ws rows i k) := rfl
    rw [e]
    unfold sgSt
    split
    · exact ⟨h1, h2⟩
    · rename_i hz
      split
      · exact ⟨h1, h2⟩
      · rename_i hl
        have hnz := hn i x row hx hr k (hk row (List.mem_of_getElem? hr)) (by rw [hrg] at hz; simpa using hz)
        obtain ⟨y, hy⟩ : ∃ y, x.rs[nzF (rows.getD i []) k]? = some y := ⟨_, List.getElem?_eq_getElem (by rw [hrg]; exact hnz)⟩
        have hyd : ydF ws rows i k = y := ydF_at hx hy
        rw [hyd] at hl ⊢
        have hf := ((wit_frm hc (List.mem_of_getElem? hx) (List.mem_of_getElem? hy)).2.1 (by simpa using hl)).1
        constructor
        · intro z hz2
          simp only at hz2
          split at hz2
          · cases hz2; exact hf
          · exact h1 z hz2
        · intro z hz2
          simp only at hz2
          unfold orS at hz2
          split at hz2
          · cases hz2; exact hf
          · rename_i hso; cases hz2; exact h2 _ hso
theorem put_frm {k : Nat} {code : Int} {y : Sg} {m : Bool} (hk : k ≤ 1000) (he : signE code = 0) (hy : frm y = true) : frm (putS k code y m) = true ∧ (putS k code y m).id = (k : Int) ∧ codeF (putS k code y m) = code ∧ codeE (putS k code y m) = 0 := by
  obtain ⟨c1, c2, _, _⟩ := code_sign he
  obtain ⟨r, kk, s, d, l, z, w, hd, e1, e2, e3, e4, e5, e6, e7⟩ := dig_of (codeE_ok c2)
  have hdg : dgs (putS k code y m) = dgs (signF code) := rfl
  have hcode : codeF (putS k code y m) = codeF (signF code) := by unfold codeF; rw [hdg]
  have hcE : codeE (putS k code y m) = codeE (signF code) := by unfold codeE; rw [hdg]
  refine ⟨?_, rfl, by rw [hcode]; exact c1, by rw [hcE]; exact c2⟩
  obtain ⟨h1, h2, h3, h4, h5, h6, h7, h8⟩ := hd
  unfold frm frmL at hy ⊢
  simp only [Bool.and_eq_true] at hy ⊢
  obtain ⟨⟨⟨⟨⟨⟨⟨⟨⟨⟨_, _⟩, y3⟩, _⟩, y5⟩, _⟩, _⟩, _⟩, _⟩, _⟩, y11⟩ := hy
  have f1 : (putS k code y m).role = (r : Int) := e1
  have f2 : (putS k code y m).kind = (kk : Int) := e2
  have f3 : (putS k code y m).side = (s : Int) := e3
  have f4 : (putS k code y m).dir = (d : Int) := e4
  have f5 : (putS k code y m).level = (l : Int) := e5
  have f6 : (putS k code y m).size = (z : Int) := e6
  have f7 : (putS k code y m).wth = (w : Int) := e7
  have f8 : (putS k code y m).id = (k : Int) := rfl
  rw [f1, f2, f3, f4, f5, f6, f7, f8]
  have wi : ∀ {n lo hi : Int}, lo ≤ n → n ≤ hi → within n lo hi = true := fun a b => by unfold within; simp; omega
  refine ⟨⟨⟨⟨⟨⟨⟨⟨⟨⟨wi (by omega) (by omega), wi (by omega) (by omega)⟩, y3⟩, wi (by omega) (by omega)⟩, ?_⟩, wi (by omega) (by omega)⟩, wi (by omega) (by omega)⟩, wi (by omega) (by omega)⟩, wi (by omega) (by omega)⟩, wi (by omega) (by omega)⟩, y11⟩
  show within (if m = true then 3 else y.mark) 1 3 = true
  split
  · decide
  · exact y5
/-- What the signs so far are. -/
def SgnI (rd : List Int) (k : Nat) (l : List Sg) : Prop := l.length = nzF rd k ∧ (∀ x ∈ l, frm x = true ∧ x.id < (k : Int)) ∧ l.Pairwise (fun a b => a.id < b.id) ∧ ∀ m, m < k → rd.getD m 0 ≠ 0 → ∃ x, l[nzF rd m]? = some x ∧ x.id = (m : Int) ∧ codeF x = rd.getD m 0 ∧ codeE x = 0
theorem sgn_inv {ws : List Wr} {rows : List (List Int)} {rd : List Int} (hc : chkW ws = 0) (hn : NzOK ws rows) (hlen : rows.length = ws.length) (hr : ∀ r ∈ rows, r.length = rd.length) (h64 : rd.length ≤ 1000) : ∀ (k : Nat) (l : List Sg), k ≤ rd.length → sgnK ws rows rd k = some l → SgnI rd k l
  | 0, l, _, h => by
    cases h
    exact ⟨rfl, (fun x hx => by cases hx), .nil, fun m hm => by omega⟩
  | k + 1, l, hk, h => by
    obtain ⟨l0, h0⟩ : ∃ l0, sgnK ws rows rd k = some l0 := by
      cases e : sgnK ws rows rd k with
      | none => rw [sgn_none e (k + 1) (by omega)] at h; cases h
      | some l0 => exact ⟨l0, rfl⟩
    obtain ⟨i1, i2, i3, i4⟩ := sgn_inv hc hn hlen hr h64 k l0 (by omega) h0
    have hx : rd[k]? = some (rd.getD k 0) := some_getD (n := rd.length) rfl (by omega)
    cases ho : outK ws rows k (rd.getD k 0) with
    | err =>
      have : sgnK ws rows rd (k + 1) = none := by
        show (match sgnK ws rows rd k with | none => none | some l => match outK ws rows k (rd.getD k 0) with | .err => none | .skip => some l | .sg x => some (l ++ [x])) = none
        rw [h0]; simp only; rw [ho]
      rw [this] at h; cases h
    | skip =>
      rw [sgn_skip h0 ho] at h; cases h
      have hz : (rd.getD k 0 == 0) = true := by
        cases hz : (rd.getD k 0 == 0) with
        | true => rfl
        | false =>
          unfold outK at ho
          rw [if_neg (by rw [hz]; decide)] at ho
          split at ho
          · cases ho
          · split at ho <;> cases ho
      refine ⟨by rw [nzF_no hx hz]; exact i1, (fun x hx => ⟨(i2 x hx).1, by have := (i2 x hx).2; omega⟩), i3, fun m hm h0m => ?_⟩
      by_cases e : m = k
      · subst e; simp at hz; exact absurd hz h0m
      · exact i4 m (by omega) h0m
    | sg x =>
      rw [sgn_sg h0 ho] at h; cases h
      have hz : (rd.getD k 0 == 0) = false := by
        cases hz : (rd.getD k 0 == 0) with
        | false => rfl
        | true => rw [out_skip hz] at ho; cases ho
      have hx2 : frm x = true ∧ x.id = (k : Int) ∧ codeF x = rd.getD k 0 ∧ codeE x = 0 := by
        obtain ⟨s1, s2⟩ := sgK_frm (k := k) (code := rd.getD k 0) hc hn hlen (fun r hm => by rw [hr r hm]; omega) rows.length (Nat.le_refl _)
        unfold outK at ho
        rw [if_neg (by rw [hz]; decide)] at ho
        split at ho
        · cases ho
        · rename_i y hy
          split at ho
          · cases ho
          · rename_i he
            have he0 : signE (rd.getD k 0) = 0 := by simpa using he
            have hfy : frm y = true := by
              cases hex : (sgK ws rows k (rd.getD k 0) rows.length).ex with
              | none => rw [hex] at hy; exact s2 y hy
              | some z => rw [hex] at hy; cases hy; exact s1 _ hex
            cases ho
            exact put_frm (by omega) he0 hfy
      refine ⟨by rw [List.length_append, i1, nzF_yes hx hz]; rfl, fun z hm => ?_, ?_, fun m hm h0m => ?_⟩
      · rcases List.mem_append.1 hm with hm | hm
        · exact ⟨(i2 z hm).1, by have := (i2 z hm).2; omega⟩
        · rw [List.mem_singleton.1 hm]; exact ⟨hx2.1, by rw [hx2.2.1]; omega⟩
      · rw [List.pairwise_append]
        refine ⟨i3, List.pairwise_singleton _ _, fun a ha b hb => ?_⟩
        rw [List.mem_singleton.1 hb, hx2.2.1]; exact (i2 a ha).2
      · by_cases e : m = k
        · subst e
          exact ⟨x, by rw [← i1, List.getElem?_append_right (Nat.le_refl _), Nat.sub_self]; rfl, hx2.2.1, hx2.2.2.1, hx2.2.2.2⟩
        · obtain ⟨z, z1, z2⟩ := i4 m (by omega) h0m
          exact ⟨z, by rw [List.getElem?_append_left (List.getElem?_eq_some_iff.1 z1).1]; exact z1, z2⟩
theorem form_chk {rd : List Int} {k : Nat} {l : List Sg} (h : SgnI rd k l) (hk : k ≤ 1000) : chkG l = 0 := by
  obtain ⟨h1, h2, h3, _⟩ := h
  have hl : l.length ≤ 1000 := by rw [h1]; exact Nat.le_trans nz_le hk
  unfold chkG
  rw [if_neg (by omega), if_pos ?_]
  unfold skB
  rw [List.all_eq_true]
  intro i hi
  have hi := List.mem_range.1 hi
  have hx : l[i]? = some (l[i]'hi) := List.getElem?_eq_getElem hi
  rw [skP_at hx, (h2 _ (List.getElem_mem hi)).1]
  simp only [Bool.not_true, Bool.false_or, Bool.not_eq_true', Bool.and_eq_false_iff, decide_eq_false_iff_not]
  by_cases h0 : i = 0
  · left; omega
  · right
    have e : ((i : Int) - 1).toNat = i - 1 := by omega
    have hg : l[i - 1]? = some (l[i - 1]'(by omega)) := List.getElem?_eq_getElem _
    rw [e, getD_of hg]
    have := List.pairwise_iff_getElem.1 h3 (i - 1) i (by omega) hi (by omega)
    omega
end Go.Proofs.YthcffaheamikgaaDoor
end
section
namespace Go.Proofs.YthcffaheamikgaaDoor
open Go Go.Kn Go.Proofs
theorem sig_ne {ws : List Wr} {rows : List (List Int)} {no : Int} {cl : List Int} {es : List Em} {rd : List Int} (h : tabE ws = 0) (h2 : tabR ws = rows) (h3 : edcF rows no cl es rd = 0) (hs : sigE ws rows no cl es rd ≠ 0) : sigE ws rows no cl es rd = 430 ∧ sigL ws rows no cl es rd = [] := by
  cases hk : sgnK ws rows rd rd.length with
  | none => exact ⟨sig_4 h h2 h3 hk, sig_bad hs⟩
  | some l => exact absurd (sig_5 h h2 h3 hk).1 hs
theorem sig_eq {ws : List Wr} {rows : List (List Int)} {no : Int} {cl : List Int} {es : List Em} {rd : List Int} (h : tabE ws = 0) (h2 : tabR ws = rows) (h3 : edcF rows no cl es rd = 0) (hs : sigE ws rows no cl es rd = 0) : sgnK ws rows rd rd.length = some (sigL ws rows no cl es rd) := by
  cases hk : sgnK ws rows rd rd.length with
  | none => have := sig_4 h h2 h3 hk; omega
  | some l => rw [(sig_5 h h2 h3 hk).2]
theorem tab_chk {ws : List Wr} (h : tabE ws = 0) (h0 : 0 < (tabR ws).length) : chkW ws = 0 ∧ (tabR ws).length = ws.length := by
  rcases tab_len h with h1 | h1
  · exact ⟨(chkW_ok h1).1, tab_rows rfl h0⟩
  · rw [h1] at h0; simp at h0
end Go.Proofs.YthcffaheamikgaaDoor
end
section
namespace Go.Proofs.YthcffaheamikgaaDoor
open Go Go.Kn Go.Proofs
theorem fun_12 : Fun Tryd.prog 12 := .of Tryd.func12 (by kernel_rfl) (by kernel_rfl)
set_option maxHeartbeats 4000000 in
theorem w_formLaw {I : HMap} {av : Option Addr} {n c : Nat} {xs : List Int} (hS : Sl I 1 encI av n c xs) {wv : Option Addr} {nw cw : Nat} {ws : List Wr} (hW0 : SlW I wv nw cw ws) (hbig : nw ≤ 9223372036854775807) {dv : Option Addr} {n3 c3 : Nat} {es : List Em} (hEs : Sl I 3 encEm dv n3 c3 es) (hDb : DebOK I) (no : Int) : RetV Tryd.prog 7 [.slice wv nw cw, .int .i64 no, .slice av n c, .slice dv n3 c3] I (.bool true) := by
 intro g H w hw
 refine enter Tryd.func7 rfl Tryd.ntmps7 rfl hw ?_
 have hIc := HLe.refl I
 have hlE := hEs.len
 subst hlE
 have hlS := hS.len
 subst hlS
 obtain ⟨hds, hW⟩ := id hW0
 have hH := hW.1
 have hlW := hW.len
 refine X_seq (X_region ?_)
 refine zA ?_
 refine XO_nil (at_then ?_)
 refine X_seq ?_
 refine X_seq (X_region ?_)
 refine XO_callV0 (cap := []) (vs := []) rfl rfl fun_8 (w_sane hDb) rfl rfl ?_
 refine XO_v0 (ev_not rfl) rfl rfl rfl ?_
 refine XO_nil (at_then ?_)
 refine X_cond rfl (fun hc21 => ?_) (fun hc21 => ?_)
 ·
  cases hc21
 ·
  refine X_skip ?_
  refine at_then ?_
  refine X_seq ?_
  refine X_seq (X_region ?_)
  refine zM ?_
  refine XO_callV0 (cap := []) (vs := [_]) rfl rfl fun_12 (w_fewW hH hbig) rfl rfl ?_
  refine XO_v0 (ev_not rfl) rfl rfl rfl ?_
  refine XO_nil (at_then ?_)
  refine X_cond rfl (fun hc24 => ?_) (fun hc24 => ?_)
  ·
   refine X_seq (X_region ?_)
   refine zA ?_
   refine XO_nil (at_then ?_)
   refine X_ret ?_
   refine at_then_r ?_
   exact at_ret1 rfl rfl (fun w hw => ⟨by simp, (hw.mono hIc).drop⟩)
  ·
   have hfX : fewX ws = true := by rw [← few_X hW]; simpa using hc24
   have hn5 : nw ≤ 5 := by have h := hfX; unfold fewX at h; simp only [Bool.and_eq_true, decide_eq_true_eq] at h; omega
   have htl := (tabR_in (ws := ws)).1
   refine X_skip ?_
   refine at_then ?_
   refine X_seq (X_region ?_)
   refine zM ?_
   refine XO_callM (cap := []) (vs := [_]) rfl rfl fun_13 .nil (w_Table hW0 (by omega)) rfl rfl ?_
   rintro vv1 I1 L1 hI1 ⟨rfl, av8, c8, rfl, hTb⟩
   have hS := hS.mono hI1
   have hW0 := hW0.mono hI1
   have hW := hW.mono hI1
   have hEs := hEs.mono hI1
   have hDb := hDb.mono hI1
   have hIc := hIc.trans hI1
   refine zM ?_
   refine XO_v0 (ev_extract rfl rfl) rfl rfl rfl ?_
   refine XO_v0 (ev_extract rfl rfl) rfl rfl rfl ?_
   refine zA ?_
   refine zA ?_
   refine XO_nil (at_then ?_)
   refine X_seq ?_
   refine X_seq (X_region ?_)
   refine zM ?_
   refine zC ?_
   refine zM ?_
   refine XO_pushF 2 rfl rfl rfl ?_
   refine XO_v1 (ev_move rfl) (.some rfl rfl rfl rfl gbf) rfl rfl rfl ?_
   refine XO_v1 (ev_move rfl) (.some rfl rfl rfl rfl gbf) rfl rfl rfl ?_
   refine XO_v1 (ev_move rfl) (.some rfl rfl rfl rfl gbf) rfl rfl rfl ?_
   refine XO_callV1 (cap := []) (vs := [_, _, _]) rfl rfl fun_9 (fun hg => w_few43 hTb _ _ _ _ _ _) (.some rfl rfl rfl rfl gbf) rfl rfl ?_
   refine XO_v1 (ev_not rfl) (.some rfl rfl rfl rfl gbf) rfl rfl rfl ?_
   refine XO_or0 rfl rfl rfl rfl rfl ?_
   refine XO_nil (at_then ?_)
   refine X_cond rfl (fun hc38 => ?_) (fun hc38 => ?_)
   ·
    refine X_seq (X_region ?_)
    refine zA ?_
    refine XO_nil (at_then ?_)
    refine X_ret ?_
    refine at_then_r ?_
    exact at_ret1 rfl rfl (fun w hw => ⟨by simp, (hw.mono hIc).drop⟩)
   ·
    have h38 := hc38
    simp only [Bool.or_eq_false_iff, Bool.not_eq_false', Bool.and_eq_true, decide_eq_true_eq, bne_eq_false_iff_eq] at h38
    obtain ⟨hcT, ⟨hfr, hf1⟩, hf2⟩ := h38
    refine X_skip ?_
    refine at_then ?_
    refine X_seq (X_region ?_)
    refine zM ?_
    refine zM ?_
    refine zM ?_
    refine zM ?_
    refine XO_callM (cap := []) (vs := [_, _, _, _]) rfl rfl fun_14 .nil (w_Make hS hTb (by omega) hEs (by omega) (by omega) hDb no) rfl rfl ?_
    rintro vv2 I2 L2 hI2 hMQ
    have hS := hS.mono hI2
    have hW0 := hW0.mono hI2
    have hW := hW.mono hI2
    have hEs := hEs.mono hI2
    have hDb := hDb.mono hI2
    have hTb := hTb.mono hI2
    have hIc := hIc.trans hI2
    obtain ⟨rfl, no2, cl2, es2, rd2, a1, q1, c1, a2, q2, c9, a3, q3, c3, rfl, hM1, hM2, hM3, hMy, hMn⟩ := hMQ.opn
    refine zM ?_
    refine XO_v0 (ev_extract rfl rfl) rfl rfl rfl ?_
    refine XO_v0 (ev_extract rfl rfl) rfl rfl rfl ?_
    refine XO_alloc zt_40 rfl rfl (fun b_11 => ?_)
    refine XO_storeA rfl rfl szt_40 rfl rfl rfl rfl (by repeat (first | exact Upd.here | apply Upd.there | apply upd_app)) ?_
    refine zA ?_
    refine XO_nil (at_then ?_)
    refine X_seq ?_
    refine X_seq (X_region ?_)
    refine zM ?_
    refine zC ?_
    refine XO_nil (at_then ?_)
    refine X_cond rfl (fun hc48 => ?_) (fun hc48 => ?_)
    ·
     refine X_seq (X_region ?_)
     refine zA ?_
     refine XO_nil (at_then ?_)
     refine X_ret ?_
     refine at_then_r ?_
     exact at_ret1 rfl rfl (fun w hw => ⟨by simp, (hw.mono hIc).drop⟩)
    ·
     have hM0 : makE (tabR ws) no xs es = 0 := by simpa using hc48
     obtain ⟨ey1, ey2, ey3, ey4⟩ := hMy hM0
     subst ey4
     have hq3 := hM3.len
     subst hq3
     have hm1 : q1 ≤ 100000 := by rw [← hM1.len, ey2]; omega
     have hm2 : q2 ≤ 100000 := by rw [← hM2.len, ey3]; omega
     have hr0 := cost_rows (mak_ok hM0)
     obtain ⟨hr1, hr6, hr64, hrr⟩ := rows_ok hr0
     have hrdl : (readsL (tabR ws) xs es).length = ((tabR ws).getD 0 []).length := reads_len
     have hm3 : (readsL (tabR ws) xs es).length ≤ 100000 := by omega
     have hedc : edcF (tabR ws) no2 cl2 es2 (readsL (tabR ws) xs es) = 0 := by rw [ey1, ey2, ey3]; exact edc_3 hM0 rfl
     refine X_skip ?_
     refine at_then ?_
     refine X_seq (X_region ?_)
     refine zM ?_
     refine zM ?_
     refine XO_v0 (ev_loadA rfl agt_40 (fun hg => by exact Cells.g0) rfl) rfl rfl rfl ?_
     refine XO_callM (cap := []) (vs := [_, _, _]) rfl rfl fun_15 .nil (w_Signs hW0 (by omega) hTb (by omega) hM1 hM2 hM3 hm1 hm2 hm3 no2 hDb (fun _ => tab_nz)) rfl rfl ?_
     rintro vv3 I3 L3 hI3 ⟨rfl, sa, sc, rfl, hSg⟩
     have hS := hS.mono hI3
     have hW0 := hW0.mono hI3
     have hW := hW.mono hI3
     have hEs := hEs.mono hI3
     have hDb := hDb.mono hI3
     have hTb := hTb.mono hI3
     have hM1 := hM1.mono hI3
     have hM2 := hM2.mono hI3
     have hM3 := hM3.mono hI3
     have hIc := hIc.trans hI3
     refine zM ?_
     refine XO_v0 (ev_extract rfl rfl) rfl rfl rfl ?_
     refine XO_v0 (ev_extract rfl rfl) rfl rfl rfl ?_
     refine zA ?_
     refine zA ?_
     refine XO_nil (at_then ?_)
     refine X_seq ?_
     refine X_seq (X_region ?_)
     refine zM ?_
     refine zC ?_
     refine XO_nil (at_then ?_)
     refine X_cond rfl (fun hc57 => ?_) (fun hc57 => ?_)
     ·
      obtain ⟨hs1, hs2⟩ := sig_ne hcT rfl hedc (show (sigE ws (tabR ws) no2 cl2 es2 (readsL (tabR ws) xs es)) ≠ 0 by simpa using hc57)
      have hs3 : (sigL ws (tabR ws) no2 cl2 es2 (readsL (tabR ws) xs es)).length = 0 := by rw [hs2]; rfl
      rw [hs1, hs3]
      refine X_seq (X_region ?_)
      refine zM ?_
      refine zC ?_
      refine zM ?_
      refine XO_pushT 2 rfl rfl rfl ?_
      refine XO_v1 (ev_move rfl) (.some rfl rfl rfl rfl gbt) rfl rfl rfl ?_
      refine XO_v1 (ev_lenS rfl slt_43) (.some rfl rfl rfl rfl gbt) rfl rfl rfl ?_
      refine XO_v1 (ev_cmp rfl rfl rfl) (.some rfl rfl rfl rfl gbt) rfl rfl rfl ?_
      refine XO_and0 rfl rfl rfl rfl rfl ?_
      refine zA ?_
      refine XO_nil (at_then ?_)
      refine X_ret ?_
      refine at_then_r ?_
      exact at_ret1 rfl rfl (fun w hw => ⟨by simp, (hw.mono hIc).drop⟩)
     ·
      have hs0 : (sigE ws (tabR ws) no2 cl2 es2 (readsL (tabR ws) xs es)) = 0 := by simpa using hc57
      have hsk := sig_eq hcT rfl hedc hs0
      obtain ⟨hcw, htn⟩ := tab_chk hcT (by omega)
      have hinv := sgn_inv hcw tab_nz htn (fun r hr => by rw [hrdl]; exact (hrr r hr).1) (by omega) _ _ (Nat.le_refl _) hsk
      have hchk := form_chk hinv (by omega)
      obtain ⟨v1, v2, v3, v4⟩ := hinv
      have hsll := nz_le (row := (readsL (tabR ws) xs es)) (k := (readsL (tabR ws) xs es).length)
      refine X_skip ?_
      refine at_then ?_
      refine X_seq ?_
      refine X_seq (X_region ?_)
      refine zM ?_
      refine XO_callV0 (cap := []) (vs := [_]) rfl rfl fun_18 (w_chkG hSg (by omega)) rfl rfl ?_
      refine zC ?_
      refine XO_nil (at_then ?_)
      refine X_cond rfl (fun hc67 => ?_) (fun hc67 => ?_)
      ·
       rw [hchk] at hc67
       cases hc67
      ·
       refine X_skip ?_
       refine at_then ?_
       refine X_seq (X_region ?_)
       refine zA ?_
       refine XO_nil (at_then ?_)
       refine X_seq ?_
       refine X_seq (X_region ?_)
       refine XO_v0 (ev_fieldAddr rfl fld_40_3) rfl rfl rfl ?_
       refine XO_v0 (ev_load rfl sct_23 (fun hg => by exact Cell.h0 rfl)) rfl rfl rfl ?_
       refine XO_v0 (ev_lenS rfl slt_23) rfl rfl rfl ?_
       refine zM ?_
       refine XO_nil ?_
       refine X_dropTo [] subL_nil ?_
       refine at_then ?_
       refine X_block ?_
       refine X_loopT [(13, _), (69, _), (70, _)] (.cons rfl (.cons rfl (.cons rfl .nil))) (fun T L0 mz E I' loc' => ∃ (m : Nat), mz = (readsL (tabR ws) xs es).length - m ∧ E = (15, .int .i64 ((nzF (readsL (tabR ws) xs es) m : Nat) : Int)) :: (71, .int .i64 m) :: T ∧ HLe I3 I' ∧ [] = loc' ∧ m ≤ (readsL (tabR ws) xs es).length) _ _ _ _ ⟨0, rfl, rfl, HLe.refl _, rfl, Nat.zero_le _⟩ (.cons rfl (.cons rfl (.cons rfl (.cons rfl (.cons rfl .nil))))) (HLe.refl _) rfl ?_
       rintro mz E J4 loc' ⟨m, rfl, rfl, hJ, rfl, hm⟩
       have hS := hS.mono hJ
       have hW0 := hW0.mono hJ
       have hW := hW.mono hJ
       have hEs := hEs.mono hJ
       have hDb := hDb.mono hJ
       have hTb := hTb.mono hJ
       have hM1 := hM1.mono hJ
       have hM2 := hM2.mono hJ
       have hM3 := hM3.mono hJ
       have hSg := hSg.mono hJ
       have hIc := hIc.trans hJ
       have hB0 := hJ
       refine X_seq (X_region ?_)
       refine zC ?_
       refine XO_nil (at_then ?_)
       refine X_seq ?_
       refine X_cond rfl (fun hc72 => ?_) (fun hc72 => ?_)
       ·
        have hlt_m : m < (readsL (tabR ws) xs es).length := by have h := of_decide_eq_true hc72; omega
        have hmr : (readsL (tabR ws) xs es)[m]? = some ((readsL (tabR ws) xs es).getD m 0) := some_getD rfl hlt_m
        refine X_skip ?_
        refine at_then ?_
        refine X_seq ?_
        refine X_block ?_
        refine X_seq (X_region ?_)
        refine zM ?_
        refine XO_v0 (ev_indexSl rfl rfl slt_23 hM3 (fun hg => by first | omega | (simp [conj] at hg; omega))) rfl rfl rfl ?_
        refine XO_v0 (ev_load rfl sct_3 (fun hg => by exact Sl.get0 hM3 hmr rfl)) rfl rfl rfl ?_
        refine zA ?_
        refine zA ?_
        refine XO_nil (at_then ?_)
        refine X_seq ?_
        refine X_seq (X_region ?_)
        refine zM ?_
        refine zC ?_
        refine XO_nil (at_then ?_)
        refine X_cond rfl (fun hc77 => ?_) (fun hc77 => ?_)
        ·
         rw [← nzF_no hmr hc77]
         refine X_exit ?_
         refine at_then_e ?_
         refine at_block_hit ?_
         refine at_then ?_
         refine X_region ?_
         refine zB ?_
         refine zM ?_
         refine XO_nil ?_
         exact at_met2 _ _ ⟨(readsL (tabR ws) xs es).length - (m + 1), by omega, m + 1, rfl, rfl, hB0, rfl, by omega⟩ (.cons rfl (.cons rfl (.cons rfl (.cons rfl (.cons rfl .nil))))) (by repeat (first | exact .refl | exact subL_left | refine subL_app ?_ | refine .drop ?_ | refine subL_add ?_))
        ·
         obtain ⟨x, hxs, hxi, hxc, hxe⟩ := v4 m hlt_m (by have h := hc77; simpa using h)
         have hxl := (List.getElem?_eq_some_iff.1 hxs).1
         have hnx := nzF_yes hmr hc77
         refine X_skip ?_
         refine at_then ?_
         refine X_seq ?_
         refine X_seq (X_region ?_)
         refine zM ?_
         refine zM ?_
         refine XO_v0 (ev_lenS rfl slt_43) rfl rfl rfl ?_
         refine zC ?_
         refine zM ?_
         refine XO_pushF 4 rfl rfl rfl ?_
         refine XO_v1 (ev_move rfl) (.some rfl rfl rfl rfl gbf) rfl rfl rfl ?_
         refine XO_v1 (ev_move rfl) (.some rfl rfl rfl rfl gbf) rfl rfl rfl ?_
         refine XO_v1 (ev_indexSl rfl rfl slt_43 hSg (fun hg => by first | omega | (simp [conj] at hg; omega))) (.some rfl rfl rfl rfl gbf) rfl rfl rfl ?_
         refine XO_v1 (ev_fieldAddr rfl fld_49_0) (.some rfl rfl rfl rfl gbf) rfl rfl rfl ?_
         refine XO_v1 (ev_load rfl sct_3 (fun hg => by exact Sl.get hSg hxs rfl)) (.some rfl rfl rfl rfl gbf) rfl rfl rfl ?_
         refine XO_v1 (ev_move rfl) (.some rfl rfl rfl rfl gbf) rfl rfl rfl ?_
         refine XO_v1 (ev_cmp rfl rfl rfl) (.some rfl rfl rfl rfl gbf) rfl rfl rfl ?_
         refine XO_or0 rfl rfl rfl rfl rfl ?_
         refine XO_nil (at_then ?_)
         refine X_cond rfl (fun hc90 => ?_) (fun hc90 => ?_)
         ·
          have h := hc90; simp only [Bool.or_eq_true, decide_eq_true_eq, bne_iff_ne, ne_eq] at h; omega
         ·
          refine X_skip ?_
          refine at_then ?_
          refine X_seq (X_region ?_)
          refine zM ?_
          refine zM ?_
          refine XO_v0 (ev_indexSl rfl rfl slt_43 hSg (fun hg => by first | omega | (simp [conj] at hg; omega))) rfl rfl rfl ?_
          refine XO_v0 (ev_loadA rfl agt_49 (fun hg => by exact Sl.getA hSg hxs) rfl) rfl rfl rfl ?_
          refine XO_callV0 (cap := []) (vs := [_]) rfl rfl fun_19 (w_code _ x) rfl rfl ?_
          refine zM ?_
          refine XO_v0 (ev_extract rfl rfl) rfl rfl rfl ?_
          refine XO_v0 (ev_extract rfl rfl) rfl rfl rfl ?_
          refine zA ?_
          refine zA ?_
          refine XO_nil (at_then ?_)
          refine X_seq ?_
          refine X_seq (X_region ?_)
          refine zM ?_
          refine zC ?_
          refine zM ?_
          refine XO_pushF 2 rfl rfl rfl ?_
          refine XO_v1 (ev_move rfl) (.some rfl rfl rfl rfl gbf) rfl rfl rfl ?_
          refine XO_v1 (ev_move rfl) (.some rfl rfl rfl rfl gbf) rfl rfl rfl ?_
          refine XO_v1 (ev_cmp rfl rfl rfl) (.some rfl rfl rfl rfl gbf) rfl rfl rfl ?_
          refine XO_or0 rfl rfl rfl rfl rfl ?_
          refine XO_nil (at_then ?_)
          refine X_cond rfl (fun hc105 => ?_) (fun hc105 => ?_)
          ·
           rw [hxc, hxe] at hc105
           simp at hc105
          ·
           refine X_skip ?_
           refine at_then ?_
           refine X_region ?_
           refine zM ?_
           refine zB ?_
           refine zA ?_
           refine XO_nil ?_
           rw [show ((nzF (readsL (tabR ws) xs es) m : Nat) : Int) + 1 = ((nzF (readsL (tabR ws) xs es) (m + 1) : Nat) : Int) by omega]
           refine at_block_n ?_
           refine at_then ?_
           refine X_region ?_
           refine zB ?_
           refine zM ?_
           refine XO_nil ?_
           exact at_met2 _ _ ⟨(readsL (tabR ws) xs es).length - (m + 1), by omega, m + 1, rfl, rfl, hB0, rfl, by omega⟩ (.cons rfl (.cons rfl (.cons rfl (.cons rfl (.cons rfl .nil))))) (by repeat (first | exact .refl | exact subL_left | refine subL_app ?_ | refine .drop ?_ | refine subL_add ?_))
       ·
        have hge_m : (readsL (tabR ws) xs es).length ≤ m := by have h := of_decide_eq_false hc72; omega
        obtain rfl : m = (readsL (tabR ws) xs es).length := by omega
        rw [← v1]
        refine X_exit ?_
        refine at_then_e ?_
        refine at_then_e ?_
        refine at_block_hit ?_
        refine at_then ?_
        refine X_seq (X_region ?_)
        refine zM ?_
        refine zM ?_
        refine XO_v0 (ev_lenS rfl slt_43) rfl rfl rfl ?_
        refine zC ?_
        refine zA ?_
        refine XO_nil (at_then ?_)
        refine X_ret ?_
        exact at_ret1 rfl rfl (fun w hw => ⟨by simp, (hw.mono hIc).drop⟩)
end Go.Proofs.YthcffaheamikgaaDoor
end
section
namespace Go.Kn
open Go Go.ChangeShapes Go.WideShapes Go.ChangeAt Go.RowKit
/-- All that lies in the world is read only. -/
def heapI (W : World) : HMap := fun b => W.heap[b]?
theorem St.start (W : World) : St W (heapI W) (fun _ => none) [] W :=
  ⟨rfl, rfl, rfl, ⟨Nat.le_refl _, Nat.le_refl _⟩, fun _ _ h => h, (fun _ _ h => by cases h), (fun _ _ h => by cases h), fun _ => .inr rfl, (fun _ _ h => by cases h), by simp⟩
theorem St.below {W w : World} {H : HMap} {loc : Loc} (h : St W (heapI W) H loc w) : Below W.heap.size W w :=
  ⟨h.os, h.tape, h.out, h.size.1, fun k hk => by
    have e : W.heap[k]? = some W.heap[k] := Array.getElem?_eq_getElem hk
    rw [h.imm k _ e, e]⟩
theorem RetV.law {P : Program} {f : FuncId} {args : List Value} {W : World} {v : Value} (h : RetV P f args (heapI W) v) : Calls P f args.toArray W fun e w' => e = .returned v ∧ Below W.heap.size W w' :=
  (h W _ W (St.start W)).mono fun _ _ ⟨he, hs⟩ => ⟨he, hs.below⟩
theorem keptBut_below {W w : World} {may : MemPlace → Prop} (h : Below W.heap.size W w) : W.keptBut w may := by
  refine ⟨h.os, h.output, fun i hi => ?_⟩
  rw [h.block i hi]
  rw [Array.getElem?_eq_getElem hi]
  cases W.heap[i] <;> simp
theorem trodAll_stays {H : Type} {enc : TypeId × Value → H} {P : Program} {W W' : World} (hl : laidOutB P = true) (hB : Below W.heap.size W W') (sp : Nat → Bool) : ∀ (ts : List TypeId) (vs : List Value) (ds : List (DataW H)) (ps : List MemPlace), (∀ t ∈ ts, P.readableRec t = true ∧ t < P.types.size) →
    DataW.TrodAll enc P W 0 (fun _ => true) true ts vs ds ps → (∀ x ∈ ps, x.block < W.heap.size ∧ sp x.block = true) → DataW.TrodAll enc P W' 0 sp true ts vs ds ps
  | [], [], [], ps, _, h, _ => h
  | t :: ts, v :: vs, d :: ds, ps, hr, ⟨p, q, h1, h2, e⟩, hlt => by
    subst e
    exact ⟨p, q, WideElems.Trod_stays hl (hr t (List.mem_cons_self ..)).1 (hr t (List.mem_cons_self ..)).2 h1 (fun x hx => hB.same (hlt x (List.mem_append_left _ hx)).1) (fun x hx => (hlt x (List.mem_append_left _ hx)).2),
      trodAll_stays hl hB sp ts vs ds q (fun t ht => hr t (List.mem_cons_of_mem _ ht)) h2 (fun x hx => hlt x (List.mem_append_right _ hx)), rfl⟩
/-- A law's row: it hands back true; the input reads as it did. -/
theorem post_law {H : Type} {enc : TypeId × Value → H} {P : Program} {f : Func} {s : ChangeSpec} {again : Bool} {W W' : World} {args : Array Value} {ds : List (DataW H)} {before : List MemPlace} {tb : TypeId}
    (hl : laidOutB P = true) (hr : f.resultTypes = #[tb]) (hb : P.underlying tb = some .bool) (hv : s.vars = []) (hs : (s.fn H (ds ++ [])) = { results := [.lit (.bool true)], args := ds }) (hrd : ∀ t ∈ f.params.toList, P.readableRec t = true ∧ t < P.types.size)
    (hW : DataW.Whole enc P f.params.toList s.vars false W args.toList ds [] before) (hB : Below W.heap.size W W') : s.post enc P f false true false again W args (.bool true) W' := by
  have hlt : ∀ x ∈ before, x.block < W.heap.size := fun x hx => by simpa using hW.lt x hx
  have hW0 := hW
  obtain ⟨p, q, hA, hV, rfl, hfz, _⟩ := hW
  rw [hv] at hV
  obtain ⟨_, rfl⟩ := trodVars_none hV
  rw [List.append_nil] at hlt hfz hW0
  have hres : ∀ (b : Nat) (sp : Nat → Bool) (hd : Bool), DataW.TrodAll enc P W' b sp hd f.resultTypes.toList ((Value.bool true).resultList f.resultTypes.size) [.lit (.bool true)] [] := fun b sp hd => by
    rw [hr]; exact trodAll_mk1 (shut_bool hb true)
  have hargs : ∀ sp : Nat → Bool, (∀ x ∈ p, sp x.block = true) → DataW.TrodAll enc P W' 0 sp true f.params.toList args.toList ds p := fun sp h => trodAll_stays hl hB sp _ _ _ _ hrd hA (fun x hx => ⟨hlt x hx, h x hx⟩)
  have hnil : ∀ sp : Nat → Bool, DataW.TrodVars enc P W' sp s.vars [] [] := fun sp => by rw [hv]; rfl
  refine ⟨ds, [], p, [], p, [], hW0, ?_, ?_, ?_, keptBut_below hB, fun _ => ?_⟩
  · rw [hs]; exact hres _ _ _
  · rw [hs]; exact hargs _ (fun x hx => by simpa using hlt x hx)
  · rw [hs]; exact hnil _
  · refine ⟨fun j t r ht hr' => ?_, [.lit (.bool true)] ++ ds, [], [] ++ p, ⟨[] ++ p, [], trodAll_append (hargs _ (fun _ _ => rfl)) (hres _ _ _), hnil _, by simp, ?_, fun h => by cases h⟩, fun x hx _ => by simpa using hx⟩
    · rw [hr] at ht hr'
      cases j with
      | zero => simp [Value.resultList] at ht hr'; subst ht; subst hr'; exact okWide_bool_mk hb _
      | succ j => simp at ht
    · intro b off hx
      rw [hB.frozen (hlt _ (by simpa using hx))]
      exact hfz b off (by simpa using hx)
theorem cell_heap {W : World} {b o : Nat} {u : Value} (h : W.cell? ⟨b, o, none⟩ = some u) : Cell (heapI W) [] b o u := by
  unfold World.cell? at h
  split at h
  · rename_i c t fz hb
    simp only [Option.isSome_none, Bool.false_eq_true, if_false] at h
    exact ⟨c, t, fz, .inl hb, h⟩
  · cases h
/-- A slice that came in, as it is read. -/
theorem open_SlT {H : Type} {enc : TypeId × Value → H} {P : Program} {W : World} {t e : TypeId} {size fuel0 : Nat} {cs : List Value} {x0 : DataW H × List MemPlace} {α : Type} (enc' : α → List Value) (ok : α → Prop)
    (ht : P.underlying t = some (.slice e)) (hc : P.cellsOf e = size) (hpos : 0 < size) (hlen : ∀ y, (enc' y).length = size)
    (hel : ∀ fuel cs x, DataW.trod enc P W 0 (fun _ => true) true fuel e cs = some x → ∃ y, ok y ∧ enc' y = cs)
    (hf' : DataW.trod enc P W 0 (fun _ => true) true fuel0 t cs = some x0) : ∃ av n c xs, cs = [.slice av n c] ∧ Sl (heapI W) size enc' av n c xs ∧ (∀ x ∈ xs, ok x) ∧ c ≤ maxLen := by
  rcases Go.Deep.open_slice ht hf' with ⟨e1, _⟩ | ⟨a, len0, cap0, m, n, D, Pl, e1, hb, hl, hm, hmm, _, hx⟩
  · subst e1
    exact ⟨none, 0, 0, [], rfl, .nil, (fun x hx => by cases hx), Nat.zero_le _⟩
  · subst e1
    have hlm : len0 ≤ m := by rw [hmm]; simp; exact hl
    have each : ∀ i, i < len0 → ∃ y, ok y ∧ W.cells? 0 (a.add (i * size)) size = some (enc' y) := fun i hi => by
      obtain ⟨cs', h1, h2⟩ := hx i (by omega)
      obtain ⟨y, hy, e⟩ := hel _ _ _ h2
      rw [hc] at h1
      exact ⟨y, hy, by rw [h1, e]⟩
    have all : ∀ k, k ≤ len0 → ∃ xs : List α, xs.length = k ∧ ∀ i x, xs[i]? = some x → ok x ∧ W.cells? 0 (a.add (i * size)) size = some (enc' x) := by
      intro k
      induction k with
      | zero => intro _; exact ⟨[], rfl, fun i x h => by simp at h⟩
      | succ k ih =>
        intro hk
        obtain ⟨xs, hl', hxs⟩ := ih (by omega)
        obtain ⟨y, hy, hcy⟩ := each k (by omega)
        refine ⟨xs ++ [y], by simp [hl'], fun i x h => ?_⟩
        by_cases hi : i < xs.length
        · rw [List.getElem?_append_left hi] at h; exact hxs i x h
        · rw [List.getElem?_append_right (by omega)] at h
          have : i = k := by have := (List.getElem?_eq_some_iff.1 h).1; simp at this; omega
          subst this
          rw [hl'] at h; simp at h; subst h
          exact ⟨hy, hcy⟩
    obtain ⟨xs, hl', hxs⟩ := all len0 (Nat.le_refl _)
    have add0 : ∀ (b o n : Nat), (⟨b, o, none⟩ : Addr).add n = ⟨b, o + n, none⟩ := fun b o n => by
      unfold Addr.add
      split
      · rename_i e; subst e; rfl
      · rfl
    have hspot : 0 < xs.length → a.spot = none := fun hx => by
      have hx0 : xs[0]? = some xs[0] := List.getElem?_eq_getElem hx
      have hp0 : 0 < (enc' xs[0]).length := by rw [hlen]; exact hpos
      obtain ⟨_, h1, h2⟩ := World.cells?_some (hxs 0 _ hx0).2
      have h3 := h2 0 hpos
      rw [List.getElem?_eq_getElem hp0] at h3
      simpa [Addr.add] using World.cell?_spot h3
    have cellat : ∀ i x, xs[i]? = some x → ∀ j u, (enc' x)[j]? = some u → W.cell? ⟨a.block, a.off + i * size + j, none⟩ = some u := fun i x hx j u hu => by
      obtain ⟨_, h1, h2⟩ := World.cells?_some (hxs i x hx).2
      have hj : j < size := by rw [← hlen x]; exact (List.getElem?_eq_some_iff.1 hu).1
      have h3 := h2 j hj
      rw [hu] at h3
      have hsp := hspot (by have := (List.getElem?_eq_some_iff.1 hx).1; omega)
      obtain ⟨b, o, sp⟩ := a
      simp only at hsp
      subst hsp
      rw [add0, add0] at h3
      exact h3
    refine ⟨some a, len0, cap0, xs, rfl, ⟨hl', hl, fun hn => ?_, fun k x hx j u hu => ?_⟩, fun x hx => ?_, hm⟩
    · have := hspot (by omega)
      obtain ⟨b, o, sp⟩ := a
      simp only at this
      subst this; rfl
    · exact cell_heap (cellat k x hx j u hu)
    · obtain ⟨i, hi⟩ := List.getElem?_of_mem hx
      exact (hxs i x hi).1
theorem open_Sl {H : Type} {enc : TypeId × Value → H} {P : Program} {W : World} {base : Nat} {t e : TypeId} {size : Nat} {v : Value} {d : DataW H} {p : List MemPlace} {α : Type} (enc' : α → List Value) (ok : α → Prop)
    (ht : P.underlying t = some (.slice e)) (hc : P.cellsOf e = size) (hpos : 0 < size) (hlen : ∀ y, (enc' y).length = size)
    (hel : ∀ fuel cs x, DataW.trod enc P W 0 (fun _ => true) true fuel e cs = some x → ∃ y, ok y ∧ enc' y = cs)
    (hv : Value.okWide P W .any base t v) (h : DataW.Trod enc P W 0 (fun _ => true) true t v d p) : ∃ av n c xs, v = .slice av n c ∧ Sl (heapI W) size enc' av n c xs ∧ (∀ x ∈ xs, ok x) ∧ c ≤ maxLen := by
  obtain ⟨a0, len0, cap0, rfl⟩ := okWide_slice ht hv
  obtain ⟨fuel, hf⟩ := h
  obtain ⟨av, n, c, xs, e, h1, h2, h3⟩ := open_SlT enc' ok ht hc hpos hlen hel (cs := [.slice a0 len0 cap0]) (by simpa [Value.cells] using hf)
  cases e
  exact ⟨_, _, _, xs, rfl, h1, h2, h3⟩
/-- A slice of one-cell ints. -/
theorem el_int {H : Type} {enc : TypeId × Value → H} {P : Program} {W : World} {e : TypeId} {k : IntKind} (he : P.underlying e = some (.int k)) (hk : k = .i64) (fuel : Nat) (cs : List Value) (x : DataW H × List MemPlace) (h : DataW.trod enc P W 0 (fun _ => true) true fuel e cs = some x) :
    ∃ y : Int, (-9223372036854775808 ≤ y ∧ y ≤ 9223372036854775807) ∧ [Value.int .i64 y] = cs := by
  subst hk
  obtain ⟨v, hv⟩ : ∃ v, cs = [v] := by
    have := h
    cases fuel with
    | zero => simp [DataW.trod] at this
    | succ m => unfold DataW.trod at this; rw [he] at this; split at this <;> simp_all
  subst hv
  obtain ⟨n, e, _, w⟩ := DataW.trod_int he h
  cases e
  simp only [Lit.wf, Bool.and_eq_true, decide_eq_true_eq] at w
  exact ⟨n, w, rfl⟩
end Go.Kn
end
section
namespace Go.Kn
open Go
theorem trod_seg {H : Type} {enc : TypeId × Value → H} {P : Program} {W : World} {base : Nat} {spare : Nat → Bool} {held : Bool} {t C : Nat} {fs : Array Field} {fuel : Nat} {cs : List Value} {x : DataW H × List MemPlace} (hs : P.underlying t = some (.struct fs))
    (hC : P.cellsOf t = C) (h : DataW.trod enc P W base spare held fuel t cs = some x) :
    cs.length = C ∧ ∃ n, ∀ (i ty off k : Nat), ((fs[i]?).map fun f => (f.type, f.offset)) = some (ty, off) → P.cellsOf ty = k → ∃ y, DataW.trod enc P W base spare held n ty ((cs.drop off).take k) = some y := by
  obtain ⟨xs, n, _, _, hl, hxl, hf⟩ := DataW.trod_struct hs h
  refine ⟨hl.trans hC, n, fun i ty off k hi hk => ?_⟩
  obtain ⟨f, hfi, e⟩ := Option.map_eq_some_iff.1 hi
  cases e
  have g := hf i f hfi
  have hix : i < xs.length := by rw [hxl]; exact (Array.getElem?_eq_some_iff.1 hfi).1
  rw [hk, List.getElem?_eq_getElem hix] at g
  exact ⟨_, g⟩
end Go.Kn
end
section
namespace Go.Proofs.YthcffaheamikgaaDoor
open Go Go.Kn Go.Proofs
open Go.ChangeShapes Go.WideShapes Go.ChangeAt Go.RowKit
set_option maxRecDepth 100000
theorem ound_3 : Tryd.prog.underlying 3 = some (.int .i64) := by kernel_rfl
theorem ound_4 : Tryd.prog.underlying 4 = some .bool := by kernel_rfl
theorem ound_5 : Tryd.prog.underlying 5 = some (.int .u8) := by kernel_rfl
theorem open_ints {H : Type} {enc : TypeId × Value → H} {W : World} {base : Nat} {v : Value} {d : DataW H} {p : List MemPlace} (hv : Value.okWide Tryd.prog W .any base 23 v) (h : DataW.Trod enc Tryd.prog W 0 (fun _ => true) true 23 v d p) :
    ∃ av n c xs, v = .slice av n c ∧ Sl (heapI W) 1 encI av n c xs ∧ n ≤ 9223372036854775807 := by
  obtain ⟨av, n, c, xs, e, hS, _, hm⟩ := open_Sl (e := 3) encI (fun _ => True) (by kernel_rfl) (by kernel_rfl) (by decide) encI_len (fun fuel cs x h => by
    obtain ⟨y, _, e⟩ := el_int ound_3 rfl fuel cs x h
    exact ⟨y, trivial, e⟩) hv h
  exact ⟨av, n, c, xs, e, hS, by have := hS.cap; simp only [maxLen] at hm; omega⟩
/-- What the tie lists. -/
def laid2 : List (String × DataW Unit) := [("math/bits.deBruijn32tab", Rows.laid_math_bits_deBruijn32tab), ("math/bits.deBruijn64tab", Rows.laid_math_bits_deBruijn64tab)]
theorem gDeb : Tryd.prog.globalNamed "math/bits.deBruijn64tab" = some 1 := by kernel_rfl
theorem tDeb : (Tryd.prog.globals[1]?).map (·.type) = some 150 := by kernel_rfl
theorem deb_is : (Rows.laid_math_bits_deBruijn64tab : DataW Unit) = Lib.tabData .u8 debT := by rfl
theorem deb_of {W : World} (h : laidMetH Tryd.prog laid2 W) : DebOK (heapI W) := by
  rw [MakeChecks.laidMetH_plain _ _ _ (by kernel_rfl)] at h
  obtain ⟨ps, ⟨g0, t0, cs0, f0, p0, q0, hg0, ht0, hv0, hd0, ⟨g1, t1, cs1, f1, p1, q1, hg1, ht1, hv1, hd1, _, _⟩, _⟩, _, _⟩ := h
  obtain rfl := Option.some.inj (gDeb.symm.trans hg1)
  obtain rfl := Option.some.inj (tDeb.symm.trans ht1)
  rw [deb_is] at hd1
  have hcs := Lib.cells_of_tab (n := 64) (e := 5) (by kernel_rfl) ound_5 (by kernel_rfl) (by kernel_rfl) hd1
  intro i hi
  refine cell_heap ?_
  have := World.var?_cell hg1 hv1 i
  rw [this]
  have hl : i < debT.length := hi
  have e : cs1 = (debT.map fun z => Value.int .u8 z).toArray := Array.ext' hcs
  rw [e]
  simp [List.getD, hl]
/-- The door's own heap meets the condition. -/
theorem door_met (os : Os) (args : Array Value) : laidMetH Tryd.prog laid2 ((World.doorLaid Tryd.prog 400 os).forCall (fun _ _ => 0) ⟨#[], args, []⟩).memory :=
  laidMetH_of_parts3 (fuel := 8) (laidMet_of_run' 8 (by kernel_rfl) (by kernel_rfl)) (by kernel_rfl) (by kernel_rfl)
end Go.Proofs.YthcffaheamikgaaDoor
end
section
namespace Go.Proofs.YthcffaheamikgaaDoor
open Go Go.Kn Go.Proofs
open Go.ChangeShapes Go.WideShapes Go.ChangeAt Go.RowKit
set_option maxRecDepth 100000
theorem ostr_57 : Tryd.prog.underlying 57 = some (.struct (Tryd.prog.fieldsOf 57)) := by kernel_rfl
theorem ound_38 : Tryd.prog.underlying 38 = some (.slice 57) := by kernel_rfl
theorem ostr_49 : Tryd.prog.underlying 49 = some (.struct (Tryd.prog.fieldsOf 49)) := by kernel_rfl
theorem ostr_47 : Tryd.prog.underlying 47 = some (.struct (Tryd.prog.fieldsOf 47)) := by kernel_rfl
theorem ostr_51 : Tryd.prog.underlying 51 = some (.struct (Tryd.prog.fieldsOf 51)) := by kernel_rfl
theorem ound_32 : Tryd.prog.underlying 32 = some (.slice 51) := by kernel_rfl
theorem ostr_34 : Tryd.prog.underlying 34 = some (.struct (Tryd.prog.fieldsOf 34)) := by kernel_rfl
theorem ound_35 : Tryd.prog.underlying 35 = some (.slice 34) := by kernel_rfl
theorem el_em {H : Type} {enc : TypeId × Value → H} {W : World} (fuel : Nat) (cs : List Value) (x : DataW H × List MemPlace) (h : DataW.trod enc Tryd.prog W 0 (fun _ => true) true fuel 57 cs = some x) : ∃ y : Em, (fun _ => True) y ∧ encEm y = cs := by
  obtain ⟨hl, n0_, f0⟩ := trod_seg (C := 3) ostr_57 (by kernel_rfl) h
  match cs, hl with
  | [c0, c1, c2], _ =>
    obtain ⟨_, g0_0⟩ := f0 0 3 0 1 (by kernel_rfl) (by kernel_rfl)
    obtain ⟨n0, e0, _, w0⟩ := DataW.trod_int ound_3 (show DataW.trod enc Tryd.prog W 0 (fun _ => true) true n0_ 3 [c0] = some _ from g0_0)
    obtain ⟨_, g0_1⟩ := f0 1 3 1 1 (by kernel_rfl) (by kernel_rfl)
    obtain ⟨n1, e1, _, w1⟩ := DataW.trod_int ound_3 (show DataW.trod enc Tryd.prog W 0 (fun _ => true) true n0_ 3 [c1] = some _ from g0_1)
    obtain ⟨_, g0_2⟩ := f0 2 3 2 1 (by kernel_rfl) (by kernel_rfl)
    obtain ⟨n2, e2, _, w2⟩ := DataW.trod_int ound_3 (show DataW.trod enc Tryd.prog W 0 (fun _ => true) true n0_ 3 [c2] = some _ from g0_2)
    cases e0; cases e1; cases e2
    exact ⟨⟨n0, n1, n2⟩, trivial, rfl⟩
theorem open_ems {H : Type} {enc : TypeId × Value → H} {W : World} {base : Nat} {v : Value} {d : DataW H} {p : List MemPlace} (hv : Value.okWide Tryd.prog W .any base 38 v) (h : DataW.Trod enc Tryd.prog W 0 (fun _ => true) true 38 v d p) :
    ∃ av n c xs, v = .slice av n c ∧ Sl (heapI W) 3 encEm av n c xs := by
  obtain ⟨av, n, c, xs, e, hS, hok, _⟩ := open_Sl (e := 57) encEm (fun _ => True) ound_38 (by kernel_rfl) (by decide) encEm_len (fun fuel cs x h => el_em fuel cs x h) hv h
  exact ⟨av, n, c, xs, e, hS⟩
theorem el_rd {H : Type} {enc : TypeId × Value → H} {W : World} (fuel : Nat) (cs : List Value) (x : DataW H × List MemPlace) (h : DataW.trod enc Tryd.prog W 0 (fun _ => true) true fuel 51 cs = some x) : ∃ y : Rd, (fun _ => True) y ∧ encRd y = cs := by
  obtain ⟨hl, n0_, f0⟩ := trod_seg (C := 15) ostr_51 (by kernel_rfl) h
  match cs, hl with
  | [c0, c1, c2, c3, c4, c5, c6, c7, c8, c9, c10, c11, c12, c13, c14], _ =>
    obtain ⟨_, g0_0⟩ := f0 0 4 0 1 (by kernel_rfl) (by kernel_rfl)
    obtain ⟨n0, e0, _⟩ := DataW.trod_bool ound_4 (show DataW.trod enc Tryd.prog W 0 (fun _ => true) true n0_ 4 [c0] = some _ from g0_0)
    obtain ⟨_, g0_1⟩ := f0 1 49 1 14 (by kernel_rfl) (by kernel_rfl)
    obtain ⟨_, n1_, f1⟩ := trod_seg (C := 14) ostr_49 (by kernel_rfl) (show DataW.trod enc Tryd.prog W 0 (fun _ => true) true n0_ 49 [c1, c2, c3, c4, c5, c6, c7, c8, c9, c10, c11, c12, c13, c14] = some _ from g0_1)
    obtain ⟨_, g1_0⟩ := f1 0 3 0 1 (by kernel_rfl) (by kernel_rfl)
    obtain ⟨n1, e1, _, w1⟩ := DataW.trod_int ound_3 (show DataW.trod enc Tryd.prog W 0 (fun _ => true) true n1_ 3 [c1] = some _ from g1_0)
    obtain ⟨_, g1_1⟩ := f1 1 3 1 1 (by kernel_rfl) (by kernel_rfl)
    obtain ⟨n2, e2, _, w2⟩ := DataW.trod_int ound_3 (show DataW.trod enc Tryd.prog W 0 (fun _ => true) true n1_ 3 [c2] = some _ from g1_1)
    obtain ⟨_, g1_2⟩ := f1 2 3 2 1 (by kernel_rfl) (by kernel_rfl)
    obtain ⟨n3, e3, _, w3⟩ := DataW.trod_int ound_3 (show DataW.trod enc Tryd.prog W 0 (fun _ => true) true n1_ 3 [c3] = some _ from g1_2)
    obtain ⟨_, g1_3⟩ := f1 3 3 3 1 (by kernel_rfl) (by kernel_rfl)
    obtain ⟨n4, e4, _, w4⟩ := DataW.trod_int ound_3 (show DataW.trod enc Tryd.prog W 0 (fun _ => true) true n1_ 3 [c4] = some _ from g1_3)
    obtain ⟨_, g1_4⟩ := f1 4 3 4 1 (by kernel_rfl) (by kernel_rfl)
    obtain ⟨n5, e5, _, w5⟩ := DataW.trod_int ound_3 (show DataW.trod enc Tryd.prog W 0 (fun _ => true) true n1_ 3 [c5] = some _ from g1_4)
    obtain ⟨_, g1_5⟩ := f1 5 3 5 1 (by kernel_rfl) (by kernel_rfl)
    obtain ⟨n6, e6, _, w6⟩ := DataW.trod_int ound_3 (show DataW.trod enc Tryd.prog W 0 (fun _ => true) true n1_ 3 [c6] = some _ from g1_5)
    obtain ⟨_, g1_6⟩ := f1 6 3 6 1 (by kernel_rfl) (by kernel_rfl)
    obtain ⟨n7, e7, _, w7⟩ := DataW.trod_int ound_3 (show DataW.trod enc Tryd.prog W 0 (fun _ => true) true n1_ 3 [c7] = some _ from g1_6)
    obtain ⟨_, g1_7⟩ := f1 7 3 7 1 (by kernel_rfl) (by kernel_rfl)
    obtain ⟨n8, e8, _, w8⟩ := DataW.trod_int ound_3 (show DataW.trod enc Tryd.prog W 0 (fun _ => true) true n1_ 3 [c8] = some _ from g1_7)
    obtain ⟨_, g1_8⟩ := f1 8 3 8 1 (by kernel_rfl) (by kernel_rfl)
    obtain ⟨n9, e9, _, w9⟩ := DataW.trod_int ound_3 (show DataW.trod enc Tryd.prog W 0 (fun _ => true) true n1_ 3 [c9] = some _ from g1_8)
    obtain ⟨_, g1_9⟩ := f1 9 3 9 1 (by kernel_rfl) (by kernel_rfl)
    obtain ⟨n10, e10, _, w10⟩ := DataW.trod_int ound_3 (show DataW.trod enc Tryd.prog W 0 (fun _ => true) true n1_ 3 [c10] = some _ from g1_9)
    obtain ⟨_, g1_10⟩ := f1 10 47 10 2 (by kernel_rfl) (by kernel_rfl)
    obtain ⟨_, n2_, f2⟩ := trod_seg (C := 2) ostr_47 (by kernel_rfl) (show DataW.trod enc Tryd.prog W 0 (fun _ => true) true n1_ 47 [c11, c12] = some _ from g1_10)
    obtain ⟨_, g2_0⟩ := f2 0 3 0 1 (by kernel_rfl) (by kernel_rfl)
    obtain ⟨n11, e11, _, w11⟩ := DataW.trod_int ound_3 (show DataW.trod enc Tryd.prog W 0 (fun _ => true) true n2_ 3 [c11] = some _ from g2_0)
    obtain ⟨_, g2_1⟩ := f2 1 3 1 1 (by kernel_rfl) (by kernel_rfl)
    obtain ⟨n12, e12, _, w12⟩ := DataW.trod_int ound_3 (show DataW.trod enc Tryd.prog W 0 (fun _ => true) true n2_ 3 [c12] = some _ from g2_1)
    obtain ⟨_, g1_11⟩ := f1 11 47 12 2 (by kernel_rfl) (by kernel_rfl)
    obtain ⟨_, n3_, f3⟩ := trod_seg (C := 2) ostr_47 (by kernel_rfl) (show DataW.trod enc Tryd.prog W 0 (fun _ => true) true n1_ 47 [c13, c14] = some _ from g1_11)
    obtain ⟨_, g3_0⟩ := f3 0 3 0 1 (by kernel_rfl) (by kernel_rfl)
    obtain ⟨n13, e13, _, w13⟩ := DataW.trod_int ound_3 (show DataW.trod enc Tryd.prog W 0 (fun _ => true) true n3_ 3 [c13] = some _ from g3_0)
    obtain ⟨_, g3_1⟩ := f3 1 3 1 1 (by kernel_rfl) (by kernel_rfl)
    obtain ⟨n14, e14, _, w14⟩ := DataW.trod_int ound_3 (show DataW.trod enc Tryd.prog W 0 (fun _ => true) true n3_ 3 [c14] = some _ from g3_1)
    cases e0; cases e1; cases e2; cases e3; cases e4; cases e5; cases e6; cases e7; cases e8; cases e9; cases e10; cases e11; cases e12; cases e13; cases e14
    exact ⟨⟨n0, ⟨n1, n2, n3, n4, n5, n6, n7, n8, n9, n10, n11, n12, n13, n14⟩⟩, trivial, rfl⟩
theorem el_wt {H : Type} {enc : TypeId × Value → H} {W : World} (fuel : Nat) (cs : List Value) (x : DataW H × List MemPlace) (h : DataW.trod enc Tryd.prog W 0 (fun _ => true) true fuel 34 cs = some x) : ∃ y : Wt, (fun w => ∃ rs, Sl (heapI W) 15 encRd w.a w.n w.c rs) y ∧ encW y = cs := by
  obtain ⟨hl, n0_, f0⟩ := trod_seg (C := 3) ostr_34 (by kernel_rfl) h
  match cs, hl with
  | [c0, c1, c2], _ =>
    obtain ⟨_, g0_0⟩ := f0 0 3 0 1 (by kernel_rfl) (by kernel_rfl)
    obtain ⟨n0, e0, _, w0⟩ := DataW.trod_int ound_3 (show DataW.trod enc Tryd.prog W 0 (fun _ => true) true n0_ 3 [c0] = some _ from g0_0)
    obtain ⟨_, g0_1⟩ := f0 1 3 1 1 (by kernel_rfl) (by kernel_rfl)
    obtain ⟨n1, e1, _, w1⟩ := DataW.trod_int ound_3 (show DataW.trod enc Tryd.prog W 0 (fun _ => true) true n0_ 3 [c1] = some _ from g0_1)
    obtain ⟨_, g0_2⟩ := f0 2 32 2 1 (by kernel_rfl) (by kernel_rfl)
    obtain ⟨a2, m2, q2, n2, e2, s2, o2, _⟩ := open_SlT (t := 32) (e := 51) encRd (fun _ : Rd => True) ound_32 (by kernel_rfl) (by decide) encRd_len (fun fuel cs x h => el_rd fuel cs x h) (show DataW.trod enc Tryd.prog W 0 (fun _ => true) true n0_ 32 [c2] = some _ from g0_2)
    cases e0; cases e1; cases e2
    exact ⟨⟨n0, n1, a2, m2, q2⟩, ⟨n2, s2⟩, rfl⟩
theorem wits {I : HMap} : ∀ (ws : List Wt), (∀ w ∈ ws, ∃ rs, Sl I 15 encRd w.a w.n w.c rs) → ∃ xs : List Wr, ws.length = xs.length ∧ ∀ (k : Nat) (w : Wt) (x : Wr), ws[k]? = some w → xs[k]? = some x → w.no = x.no ∧ w.yr = x.yr ∧ Sl I 15 encRd w.a w.n w.c x.rs
  | [], _ => ⟨[], rfl, fun k w x h => by simp at h⟩
  | y :: ws, H => by
    obtain ⟨xs, hl, hv⟩ := wits ws fun w hw => H w (List.mem_cons_of_mem _ hw)
    obtain ⟨rs, h0⟩ := H y (List.mem_cons_self ..)
    refine ⟨⟨y.no, y.yr, rs⟩ :: xs, by simp [hl], fun k w x a b => ?_⟩
    cases k with
    | zero => cases a; cases b; exact ⟨rfl, rfl, h0⟩
    | succ k => exact hv k w x a b
end Go.Proofs.YthcffaheamikgaaDoor
end
section
namespace Go.Proofs.YthcffaheamikgaaDoor
open Go Go.Kn Go.Proofs
set_option maxRecDepth 100000 in
theorem open_sw {H : Type} {enc : TypeId × Value → H} {W : World} {base : Nat} {v : Value} {d : DataW H} {p : List MemPlace} (hv : Value.okWide Tryd.prog W .any base 35 v) (h : DataW.Trod enc Tryd.prog W 0 (fun _ => true) true 35 v d p) :
    ∃ av n c xs, v = .slice av n c ∧ SlW (heapI W) av n c xs ∧ n ≤ 9223372036854775807 := by
  obtain ⟨av, n, c, ws, e, hS, hok, hm⟩ := open_Sl (e := 34) encW (fun w => ∃ rs, Sl (heapI W) 15 encRd w.a w.n w.c rs) ound_35 (by kernel_rfl) (by decide) encW_len (fun fuel cs x h => el_wt fuel cs x h) hv h
  obtain ⟨xs, hl, hx⟩ := wits ws hok
  exact ⟨av, n, c, xs, e, ⟨ws, hS, hl, hx⟩, Nat.le_trans hS.cap hm⟩
end Go.Proofs.YthcffaheamikgaaDoor
end
section
namespace Go.Proofs.YthcffaheamikgaaDoor
open Go Go.Kn Go.Proofs
open Go.ChangeShapes Go.WideShapes Go.ChangeAt Go.RowKit
theorem own : ownKnob Tryd.prog.godebug = none := by kernel_rfl
theorem laidOut : laidOutB Tryd.prog = true := by kernel_rfl
set_option maxRecDepth 100000 in
theorem editionForm_lifted (os : Os) (started : os.Started) (H : Type) (enc : TypeId × Value → H) :
    ReturnsInHanded {} Tryd.checked os 7 .any (fun w args => (Rows.editionFormSpec.pre enc Tryd.prog Tryd.f7 [] false w args ∧ laidMetH Tryd.prog laid2 w) ∧ sizedMet enc Tryd.prog Tryd.f7 (OpenSpec.ofChange Rows.editionFormSpec) false w args)
      (Rows.editionFormSpec.post enc Tryd.prog Tryd.f7 false true false false) := by
  refine returnsInHanded_of_change_and (C := Tryd.checked) (X := fun w _ => laidMetH Tryd.prog laid2 w) (fun _ _ _ hh h => h.of_heap hh) own started (by kernel_rfl) Tryd.func7
    (ChangeSpec.witness_shaped (enc := enc) (C := Tryd.checked) (os := os) (X := fun w _ => laidMetH Tryd.prog laid2 w) false (World.doorLaid Tryd.prog 400 os) #[.slice none 0 0, .int .i64 0, .slice none 0 0, .slice none 0 0] 8 rfl (World.shaped_of_RefB (by kernel_rfl) (by kernel_rfl)) (by kernel_rfl) (by kernel_rfl) (by kernel_rfl) (door_met os _)) ?_
  intro W base args ds gs before hval0 hW _ _ hL _
  have hval : ∀ (j : Nat) t v, Tryd.f7.params[j]? = some t → args[j]? = some v → Value.okWide Tryd.prog W .any base t v := hval0
  have hW' := hW
  obtain ⟨p, q, hA0, hV, rfl, hfz, hnd⟩ := hW
  have hA : DataW.TrodAll enc Tryd.prog W 0 (fun _ => true) true Tryd.f7.params.toList args.toList ds p := hA0
  rw [Tryd.params7] at hA hval
  obtain ⟨v0, vs1, d0, ds1, p0, q1, ea, rfl, rfl, h0, hA⟩ := trodAll_cons hA
  obtain ⟨v1, vs2, d1, ds2, p1, q2, rfl, rfl, rfl, h1, hA⟩ := trodAll_cons hA
  obtain ⟨v2, vs3, d2, ds3, p2, q3, rfl, rfl, rfl, h2, hA⟩ := trodAll_cons hA
  obtain ⟨v3, vs4, d3, ds4, p3, q4, rfl, rfl, rfl, h3, hA⟩ := trodAll_cons hA
  obtain ⟨rfl, rfl, rfl⟩ := trodAll_nil hA
  have ea' : args = #[v0, v1, v2, v3] := by rw [← Array.toArray_toList (xs := args), ea]
  subst ea'
  obtain ⟨rfl, rfl⟩ := trodVars_none hV
  have hDb := deb_of hL
  obtain ⟨wv, nw, cw, ws, rfl, hW0, hbig⟩ := open_sw (hval 0 35 v0 rfl rfl) h0
  obtain ⟨no, rfl, _, _, wfno⟩ := open_int ound_3 (hval 1 3 v1 rfl rfl) h1
  obtain ⟨av, n, c, xs, rfl, hS, hbn⟩ := open_ints (hval 2 23 v2 rfl rfl) h2
  obtain ⟨dv, n3, c3, es, rfl, hEs⟩ := open_ems (hval 3 38 v3 rfl rfl) h3
  refine (RetV.law (w_formLaw hS hW0 hbig hEs hDb no)).mono fun e W' ⟨he, hB⟩ => ?_
  subst he
  exact ⟨_, rfl, post_law laidOut (by kernel_rfl) ound_4 rfl rfl (by rw [Tryd.params7]; simp only [List.mem_cons, List.not_mem_nil, or_false, forall_eq_or_imp, forall_eq]; exact ⟨⟨by kernel_rfl, of_decide_eq_true (by kernel_rfl)⟩, ⟨by kernel_rfl, of_decide_eq_true (by kernel_rfl)⟩, ⟨by kernel_rfl, of_decide_eq_true (by kernel_rfl)⟩, ⟨by kernel_rfl, of_decide_eq_true (by kernel_rfl)⟩⟩) hW' hB⟩
theorem editionForm_row : Rows.EditionFormSaid :=
  OpenClaim.holds_of_wide 7 Tryd.f7 rfl rfl rfl rfl rfl rfl rfl ⟨rfl, rfl, rfl, rfl, rfl⟩ rfl rfl rfl rfl rfl (by kernel_rfl) Tryd.func7 (by kernel_rfl)
    (of_decide_eq_true (by kernel_rfl)) (by unfold Func.isWrapper; first | (rw [if_pos (by decide +kernel)]; kernel_rfl) | (rw [if_neg (by decide +kernel)]; exact ⟨rfl, rfl⟩))
    (fun os started H enc _ => editionForm_lifted os started H enc)
theorem editionForm_holds : Rows.EditionFormCardSaid :=
  Claim7.holds_tied_plain_at .later [] [.data, .data] true (true, "919b8fa584992d8ae3c594542a3c1b39c1f5bee942388cade4cc2b467c5275fd") false
    editionForm_row (fun _ h => by cases h) (by kernel_rfl) (fun _ h => by cases h) editionForm_row_tie rfl ⟨rfl, rfl⟩ (by kernel_rfl) rfl
    (fun f fn hf hfn => by
      obtain rfl : f = 7 := Option.some.inj ((show Tryd.prog.funcNamed "kinesphere/kinespherelaw43.EditionForm" = some 7 by kernel_rfl).symm.trans hf) |>.symm
      obtain rfl : fn = Tryd.f7 := (Option.some.inj (Tryd.func7.symm.trans hfn)).symm
      exact ⟨by kernel_rfl, fun j t ht => by
        rw [Tryd.params7] at ht
        have hm : t ∈ [35, 3, 23, 38] := by simpa using Array.mem_of_getElem? ht
        have hall : ([35, 3, 23, 38].all fun u => !Tryd.prog.wantsStandIn u) = true := by kernel_rfl
        exact (show Tryd.prog.wantsStandIn t = false by simpa using List.all_eq_true.1 hall t hm)⟩)
    (by kernel_rfl)
#print axioms editionForm_holds
end Go.Proofs.YthcffaheamikgaaDoor
end
