/- The register of rights: what the program computes and what the reference computes are one. Plain Lean. -/
import Derived.Test.YtmflfccincbnaaaPlain
namespace Go.Proofs.Ytmflfccincbnaaa
open Go Go.Kn

def i64 (n : Int) : Prop := -9223372036854775808 ≤ n ∧ n ≤ 9223372036854775807
/-- An entry as Go can hold it. -/
structure okR (x : Rt) : Prop where
  no : i64 x.no
  kind : i64 x.kind
  edition : i64 x.edition
  holder : i64 x.holder
  sign : i64 x.sign
  ends : i64 x.ends
  lo : i64 x.lo
  hi : i64 x.hi
  known : i64 x.known
theorem w64_eq {n : Int} (h : i64 n) : w64 n = n := by
  unfold w64 IntKind.wrap
  simp only [IntKind.signed, IntKind.bits]
  obtain ⟨h1, h2⟩ := h
  first | omega | (simp; omega) | (rw [Int.emod_emod_of_dvd]; omega)
theorem bill_eq (x : Rt) : billF x = (daysF x && within x.edition 0 1048576 && textF x.name && textF x.town && (x.holder == 0) && (x.sign == 0) && (x.ends == 0)) := by
  cases x
  simp only [billF, rtEq, dated, daysF, textF, within, strEq_self, beq_self_eq_true, Bool.true_and, Bool.and_true]
  rw [Bool.eq_iff_iff]
  simp only [Bool.and_eq_true, decide_eq_true_eq, beq_iff_eq]
  constructor
  · rintro ⟨⟨⟨⟨a, b, c⟩, d⟩, e⟩, f⟩; refine ⟨⟨⟨⟨⟨⟨⟨⟨?_, ?_⟩, ?_⟩, ?_⟩, e⟩, f⟩, ?_⟩, ?_⟩, ?_⟩ <;> (try simp_all) <;> omega
  · rintro ⟨⟨⟨⟨⟨⟨a, b⟩, c⟩, d⟩, e⟩, f⟩, g⟩; simp_all
theorem held_eq (x : Rt) : heldF x = holdC x := by
  cases x
  simp only [heldF, holdC, rtEq, dated, daysF, within, empty, strEq_self, beq_self_eq_true, Bool.true_and, Bool.and_true]
  rw [Bool.eq_iff_iff]
  simp only [Bool.and_eq_true, decide_eq_true_eq, beq_iff_eq]
  constructor
  · intro h; simp_all
  · intro h; simp_all

theorem any_congr {α : Type} {xs : List α} {p q : α → Bool} (h : ∀ x ∈ xs, p x = q x) : xs.any p = xs.any q := by
  induction xs with
  | nil => rfl
  | cons x xs ih => rw [List.any_cons, List.any_cons, h x (List.mem_cons_self ..), ih (fun y hy => h y (List.mem_cons_of_mem _ hy))]
/-- The map holds each earlier entry under its number. -/
def MapOf (pre : List Rt) (bs : List (Int × Rt)) : Prop := ∀ k, mget bs k = pre.find? fun y => y.no == k
theorem w64_succ {n : Int} (h : 0 ≤ n ∧ n ≤ 1048576) : w64 (n + 1) = n + 1 := w64_eq ⟨by omega, by omega⟩
theorem w64_pred {n m : Int} (hn : i64 n) (hm : 0 ≤ m ∧ m ≤ 1048576) : (m = w64 (n - 1)) ↔ m + 1 = n := by
  by_cases h : n = -9223372036854775808
  · subst h
    have : w64 (-9223372036854775808 - 1) = 9223372036854775807 := by decide
    rw [this]; omega
  · rw [w64_eq (n := n - 1) ⟨by have := hn.1; omega, by have := hn.2; omega⟩]; omega
theorem find_any {pre : List Rt} {p q : Rt → Bool} (huniq : ∀ y ∈ pre, ∀ z ∈ pre, p y = true → p z = true → y = z) : (match pre.find? p with | none => false | some y => q y) = pre.any (fun y => p y && q y) := by
  cases h : pre.find? p with
  | none =>
    rw [List.find?_eq_none] at h
    symm
    rw [List.any_eq_false]
    intro y hy
    have := h y hy
    simp [this]
  | some y =>
    have hp := List.find?_some h
    have hm := List.mem_of_find?_eq_some h
    show q y = _
    cases hq : q y with
    | true => exact (List.any_eq_true.2 ⟨y, hm, show (p y && q y) = true by rw [hp, hq]; rfl⟩).symm
    | false =>
      symm
      rw [List.any_eq_false]
      intro z hz hpz
      rw [Bool.and_eq_true] at hpz
      have := huniq y hm z hz hp hpz.1
      subst this
      rw [hq] at hpz
      exact absurd hpz.2 (by decide)
/-- The numbers rise. -/
def Rise (pre : List Rt) : Prop := pre.Pairwise fun y z => y.no < z.no
theorem Rise.uniq {pre : List Rt} (h : Rise pre) {y z : Rt} (hy : y ∈ pre) (hz : z ∈ pre) (e : y.no = z.no) : y = z := by
  induction pre with
  | nil => cases hy
  | cons p pre ih =>
    rw [Rise, List.pairwise_cons] at h
    rcases List.mem_cons.1 hy with e1 | hy <;> rcases List.mem_cons.1 hz with e2 | hz
    · rw [e1, e2]
    · have := h.1 z hz; rw [e1] at e; omega
    · have := h.1 y hy; rw [e2] at e; omega
    · exact ih h.2 hy hz
theorem void_eq {pre : List Rt} {bs : List (Int × Rt)} {x : Rt} (hm : MapOf pre bs) (hr : Rise pre) (hb : ∀ y ∈ pre, 0 ≤ y.no ∧ y.no ≤ 1048576) (hx : okR x) :
    voidF x bs = (endsF pre x && (x.edition == 0) && (x.holder == 0) && (x.sign == 0) && strEq x.name empty && strEq x.town empty && (x.lo == 0) && (x.hi == 0)) := by
  have e1 : voidF x bs = ((match pre.find? (fun y => y.no == w64 (x.ends - 1)) with | none => false | some old => (old.kind != 4) && decide (old.known ≤ x.known)) && rtEq x { zeroR with no := x.no, kind := x.kind, ends := x.ends, known := x.known }) := by
    unfold voidF
    rw [hm]
    cases pre.find? (fun y => y.no == w64 (x.ends - 1)) <;> rfl
  have e2 : endsF pre x = pre.any (fun y => (y.no == w64 (x.ends - 1)) && ((y.kind != 4) && decide (y.known ≤ x.known))) := by
    unfold endsF
    apply any_congr
    intro y hy
    have h1 := hb y hy
    have h2 : (w64 (y.no + 1) == x.ends) = (y.no == w64 (x.ends - 1)) := by
      rw [Bool.eq_iff_iff, beq_iff_eq, beq_iff_eq, w64_succ h1, w64_pred hx.ends h1]
    rw [h2, Bool.and_assoc]
  rw [e1, find_any (fun y hy z hz h1 h2 => hr.uniq hy hz (by rw [beq_iff_eq] at h1 h2; rw [h1, h2])), e2]
  have e3 : rtEq x { zeroR with no := x.no, kind := x.kind, ends := x.ends, known := x.known } = ((x.edition == 0) && (x.holder == 0) && (x.sign == 0) && strEq x.name empty && strEq x.town empty && (x.lo == 0) && (x.hi == 0)) := by
    cases x
    simp only [rtEq, zeroR, empty, beq_self_eq_true, Bool.true_and, Bool.and_true, Bool.and_assoc]
  rw [e3]
  simp only [Bool.and_assoc]
theorem ask_eq {pre : List Rt} {bs : List (Int × Rt)} {x : Rt} (hm : MapOf pre bs) (hr : Rise pre) (hb : ∀ y ∈ pre, 0 ≤ y.no ∧ y.no ≤ 1048576) (hx : okR x) :
    (knownB x.kind && askF x.kind x bs) = formC pre x := by
  unfold knownB askF formC
  by_cases h1 : x.kind = 1
  · rw [h1]; simp only [if_true, beq_self_eq_true, Bool.true_or, Bool.true_and, bill_eq]
  · by_cases h2 : x.kind = 2
    · rw [h2]; simp [held_eq]
    · by_cases h3 : x.kind = 3
      · rw [h3]; simp [held_eq]
      · by_cases h4 : x.kind = 4
        · rw [h4]; simp [void_eq hm hr hb hx]
        · simp [h1, h2, h3, h4]
theorem bad_eq {pre : List Rt} {bs : List (Int × Rt)} {x y : Rt} {i : Nat} {last : Int} (hm : MapOf pre bs) (hr : Rise pre) (hb : ∀ y ∈ pre, 0 ≤ y.no ∧ y.no ≤ 1048576) (hx : okR x)
    (h0 : i = 0 → last = -1) (h1 : 0 < i → last = y.no ∧ 0 ≤ last) : rBad x bs last = !fGoodC i pre y x := by
  have ha := ask_eq hm hr hb hx
  unfold rBad fGoodC
  by_cases hA : (!within x.no 0 1048576 || (decide ((i : Int) > 0) && decide (x.no ≤ y.no)) || !within x.known 0 134217727) = true
  · rw [if_pos hA]
    simp only [Bool.not_false, Bool.or_eq_true, Bool.and_eq_true, within, Bool.not_eq_true', Bool.and_eq_false_iff, decide_eq_true_eq, decide_eq_false_iff_not] at hA ⊢
    rcases Nat.eq_zero_or_pos i with hi | hi
    · have := h0 hi; subst hi; omega
    · have := h1 hi; omega
  · rw [if_neg hA]
    rw [← ha]
    simp only [Bool.or_eq_true, Bool.and_eq_true, within, Bool.not_eq_true', Bool.and_eq_false_iff, decide_eq_true_eq, decide_eq_false_iff_not] at hA
    have e1 : decide (x.no ≤ last) = false := by
      rcases Nat.eq_zero_or_pos i with hi | hi
      · have := h0 hi; subst hi; exact decide_eq_false (by omega)
      · have := h1 hi; exact decide_eq_false (by omega)
    have e2 : decide (x.no > 1048576) = false := decide_eq_false (by omega)
    have e3 : within x.known 0 134217727 = true := by simp only [within, Bool.and_eq_true, decide_eq_true_eq]; omega
    rw [e1, e2, e3]
    cases knownB x.kind <;> cases askF x.kind x bs <;> rfl

theorem right_at (pre : List Rt) (x : Rt) (rest : List Rt) : rightC (pre ++ x :: rest) pre.length = fGoodC pre.length pre (prevOf (pre ++ x :: rest) pre.length) x := by
  unfold rightC
  rw [List.take_left' rfl]
  simp
theorem prev_at (pre rest : List Rt) (h : 0 < pre.length) : ∃ y, pre[pre.length - 1]? = some y ∧ prevOf (pre ++ rest) pre.length = y := by
  have h1 : pre.length - 1 < pre.length := by omega
  refine ⟨pre[pre.length - 1], List.getElem?_eq_getElem h1, ?_⟩
  unfold prevOf
  rw [show ((pre.length : Int) - 1).toNat = pre.length - 1 from by omega, List.getElem?_append_left h1, List.getElem?_eq_getElem h1]; rfl
theorem fGood_no {i : Nat} {pre : List Rt} {x y : Rt} (h : fGoodC i pre y x = true) : 0 ≤ x.no ∧ x.no ≤ 1048576 ∧ (0 < i → y.no < x.no) := by
  unfold fGoodC at h
  split at h
  · cases h
  · rename_i hb
    simp only [Bool.or_eq_true, Bool.and_eq_true, within, Bool.not_eq_true', Bool.and_eq_false_iff, decide_eq_true_eq, decide_eq_false_iff_not] at hb
    refine ⟨by omega, by omega, fun hi => by omega⟩
theorem MapOf.step {pre : List Rt} {bs : List (Int × Rt)} {x : Rt} (hm : MapOf pre bs) (hlt : ∀ y ∈ pre, y.no < x.no) : MapOf (pre ++ [x]) (mset bs x.no x) := by
  intro k
  rw [mget_mset, List.find?_append, hm]
  by_cases h : x.no = k
  · have : pre.find? (fun y => y.no == k) = none := List.find?_eq_none.2 fun y hy => by have := hlt y hy; simp; omega
    rw [if_pos h, this]; simp [h]
  · rw [if_neg h]
    have : ([x] : List Rt).find? (fun y => y.no == k) = none := by simp [h]
    rw [this]; simp
theorem go_eq : ∀ (rest pre : List Rt) (bs : List (Int × Rt)) (last : Int), MapOf pre bs → Rise pre → (∀ y ∈ pre, 0 ≤ y.no ∧ y.no ≤ 1048576 ∧ y.no ≤ last) → (pre = [] → last = -1) → (∀ y, pre[pre.length - 1]? = some y → last = y.no) → (∀ x ∈ rest, okR x) →
    rGo rest bs last = if (List.range' pre.length rest.length).all (rightC (pre ++ rest)) then 0 else 460
  | [], pre, bs, last, _, _, _, _, _, _ => by simp [rGo]
  | x :: rest, pre, bs, last, hm, hr, hb, h0, h1, hx => by
    have hbad := bad_eq (x := x) (y := prevOf (pre ++ x :: rest) pre.length) (i := pre.length) (last := last) hm hr (fun y hy => ⟨(hb y hy).1, (hb y hy).2.1⟩) (hx x (List.mem_cons_self ..))
      (fun h => h0 (List.length_eq_zero_iff.1 h)) (fun h => by
        obtain ⟨y, hy, hp⟩ := prev_at pre (x :: rest) h
        rw [hp]
        have := h1 y hy
        exact ⟨this, by rw [this]; exact (hb y (List.mem_of_getElem? hy)).1⟩)
    rw [← right_at] at hbad
    rw [List.length_cons, List.range'_succ, List.all_cons, rGo, hbad]
    cases hg : rightC (pre ++ x :: rest) pre.length with
    | false => rfl
    | true =>
      rw [right_at] at hg
      obtain ⟨a, b, c⟩ := fGood_no hg
      have hlast : ∀ y ∈ pre, y.no < x.no := fun y hy => by
        have hl : 0 < pre.length := List.length_pos_of_mem hy
        obtain ⟨z, hz, hp⟩ := prev_at pre (x :: rest) hl
        have h2 := c hl
        rw [hp] at h2
        have h3 := h1 z hz
        have h4 := (hb y hy).2.2
        omega
      have ih := go_eq rest (pre ++ [x]) (mset bs x.no x) x.no (hm.step hlast) (by
          unfold Rise
          rw [List.pairwise_append]
          exact ⟨hr, List.pairwise_singleton .., fun y hy z hz => by rw [List.mem_singleton] at hz; subst hz; exact hlast y hy⟩)
        (fun y hy => by
          rcases List.mem_append.1 hy with hy | hy
          · have := hb y hy; have := hlast y hy; omega
          · rw [List.mem_singleton] at hy; subst hy; omega)
        (fun h => by simp at h) (fun y hy => by
          have : (pre ++ [x])[(pre ++ [x]).length - 1]? = some x := by simp
          rw [this] at hy; cases hy; rfl) (fun y hy => hx y (List.mem_cons_of_mem _ hy))
      simp only [Bool.not_true, Bool.false_eq_true, if_false, Bool.true_and]
      rw [ih]
      simp only [List.length_append, List.length_singleton, List.append_assoc, List.singleton_append]
/-- The check is the reference's. -/
theorem check_eq {xs : List Rt} (hx : ∀ x ∈ xs, okR x) : rCheck xs = fCheck xs := by
  unfold rCheck fCheck
  split
  · rfl
  · have := go_eq xs [] [] (-1) (fun k => rfl) .nil (fun y h => by cases h) (fun _ => rfl) (fun y h => by simp at h) hx
    rw [this, List.range_eq_range']; rfl
end Go.Proofs.Ytmflfccincbnaaa
