/- Lessons: what the laws ask of the Lean functions. -/
import Derived.Test.YtgfggmmffmfolaaPlainV
namespace Go.Proofs.Ytgfggmmffmfolaa
open Go Go.Kn Go.Proofs
theorem few_len {xs : List Ls} {vss : List (List Int)} {ts : List Int} (h : fewF xs vss ts = true) : xs.length ≤ 5000 ∧ vss.length ≤ 600 ∧ ts.length ≤ 600 := by
  unfold fewF at h
  simp only [Bool.and_eq_true, Bool.not_eq_true', Bool.or_eq_false_iff, decide_eq_false_iff_not] at h
  have := h.1
  omega
theorem ins_len (xs : List Ls) (x : Ls) : (insF xs x).length = xs.length + 1 := by
  have h := congrArg List.length (List.takeWhile_append_dropWhile (p := fun y : Ls => decide (y.no < x.no)) (l := xs))
  unfold insF
  simp only [List.length_append, List.length_cons] at h ⊢
  omega
theorem resF_len {α : Type} {e : Int} {xs : List α} : (resF e xs).length ≤ xs.length := by
  unfold resF
  split
  · exact Nat.zero_le _
  · exact Nat.le_refl _
theorem cast_len (xs : List Ls) (version day time : Int) : (castF xs version day time).length ≤ 64 := by
  unfold castF
  refine Nat.le_trans (List.length_filter_le ..) ?_
  simp
theorem ckB_iff {xs : List Ls} : ckB xs = true ↔ (∀ x ∈ xs, rightF x = true) ∧ xs.Pairwise (fun a b => a.no < b.no) := by
  constructor
  · exact fun h => ⟨fun x hx => ckB_right h hx, ckB_sorted h⟩
  · rintro ⟨h1, h2⟩
    unfold ckB
    rw [List.all_eq_true]
    intro k hk
    rw [List.mem_range] at hk
    have hx : xs[k]? = some xs[k] := List.getElem?_eq_getElem hk
    unfold ckP prevL
    rw [getD_of hx, h1 _ (List.getElem_mem hk)]
    cases k with
    | zero => rfl
    | succ k =>
      have hy : xs[k]? = some (xs[k]'(by omega)) := List.getElem?_eq_getElem _
      rw [show (((k + 1 : Nat) : Int) - 1).toNat = k by omega, getD_of hy]
      have := List.pairwise_iff_getElem.1 h2 k (k + 1) (by omega) hk (by omega)
      simp; omega
theorem chk_of {xs : List Ls} (h : xs.length ≤ 4096) (h2 : ckB xs = true) : chk xs = 0 := by unfold chk; rw [if_neg (by omega), h2]; rfl
theorem chk_filter {xs : List Ls} (p : Ls → Bool) (h : chk xs = 0) : chk (xs.filter p) = 0 := by
  obtain ⟨h1, h2⟩ := chk_ok h
  obtain ⟨h3, h4⟩ := ckB_iff.1 h2
  refine chk_of (Nat.le_trans (List.length_filter_le ..) h1) (ckB_iff.2 ⟨fun x hx => h3 x (List.mem_filter.1 hx).1, h4.sublist List.filter_sublist⟩)
theorem has_filter (person day time : Int) (xs : List Ls) (p : Ls → Bool) (hp : ∀ x ∈ xs, eligF person day time x = true → p x = true) : hasF (xs.filter p) person day time = hasF xs person day time := by
  unfold hasF hasO
  congr 1
  generalize (none : Option Ls) = b
  induction xs generalizing b with
  | nil => rfl
  | cons x xs ih =>
    have ih := fun b => ih (fun y hy => hp y (List.mem_cons_of_mem _ hy)) b
    rw [List.filter_cons]
    split
    · rw [List.foldl_cons, List.foldl_cons]; exact ih _
    · rename_i h
      rw [List.foldl_cons]
      have : eligF person day time x = false := by
        cases e : eligF person day time x with
        | false => rfl
        | true => exact absurd (hp x (List.mem_cons_self ..) e) h
      rw [show bestF person day time b x = b by unfold bestF; rw [this, Bool.false_and, if_neg Bool.false_ne_true]]
      exact ih _
/-- What is known of a person: a part of the lessons. -/
def partP (person day time : Int) (x : Ls) : Bool := (decide (x.known ≤ time) && decide (x.at_ ≤ day)) && (x.person == person)
theorem part_elig (person day time : Int) (x : Ls) : eligF person day time x = partP person day time x := by
  unfold eligF partP
  cases x.person == person <;> cases decide (x.known ≤ time) <;> cases decide (x.at_ ≤ day) <;> rfl
theorem causal_law {xs : List Ls} {person day time : Int} (h : hasE (chk xs) person day time = 0) :
    (hasE (chk (xs.filter (partP person day time))) person day time == 0 && hasV xs person day time == hasV (xs.filter (partP person day time)) person day time && (decide (((xs.filter (partP person day time)).length : Int) > 0) || hasV xs person day time == 0)) = true := by
  have hc : chk xs = 0 := by
    by_cases e : chk xs = 0
    · exact e
    · rw [hasE_chk e] at h; exact absurd h e
  have h2 : hasE (chk (xs.filter (partP person day time))) person day time = 0 := by have h' := h; rw [hc] at h'; rw [chk_filter _ hc]; exact h'
  have h0 : hasE 0 person day time = 0 := by have h' := h; rw [hc] at h'; exact h'
  have hf := has_filter person day time xs (partP person day time) (fun x _ he => by rw [← part_elig]; exact he)
  rw [hasV_ok hc h0, hasV_ok (chk_filter _ hc) h0, hf, h2]
  simp only [beq_self_eq_true, Bool.true_and]
  cases e : xs.filter (partP person day time) with
  | nil => rw [e] at hf; rw [← hf]; rfl
  | cons y l => simp
/-- The last lesson's place. -/
theorem has_skip {person day time : Int} {l r : List Ls} {x : Ls} (h : eligF person day time x = false) : hasF (l ++ x :: r) person day time = hasF (l ++ r) person day time := by
  unfold hasF hasO
  rw [List.foldl_append, List.foldl_append, List.foldl_cons]
  congr 2
  unfold bestF
  rw [h, Bool.false_and, if_neg Bool.false_ne_true]
theorem best_in {person day time : Int} : ∀ (l : List Ls) (b z : Option Ls), l.foldl (bestF person day time) b = z → (z = b ∨ ∃ y ∈ l, eligF person day time y = true ∧ z = some y)
  | [], b, z, h => .inl h.symm
  | x :: l, b, z, h => by
    rw [List.foldl_cons] at h
    rcases best_in l _ z h with e | ⟨y, hy, he, e⟩
    · unfold bestF at e
      split at e
      · rename_i h2
        simp only [Bool.and_eq_true] at h2
        exact .inr ⟨x, List.mem_cons_self .., h2.1, e⟩
      · exact .inl e
    · exact .inr ⟨y, List.mem_cons_of_mem _ hy, he, e⟩
theorem best_keep {person day time : Int} {x : Ls} : ∀ (l : List Ls), (∀ y ∈ l, eligF person day time y = true → laterF y x = false) → l.foldl (bestF person day time) (some x) = some x
  | [], _ => rfl
  | y :: l, h => by
    rw [List.foldl_cons]
    have : bestF person day time (some x) y = some x := by
      unfold bestF
      cases e : eligF person day time y with
      | false => rfl
      | true =>
        have := h y (List.mem_cons_self ..) e
        rw [show bestO (some x) y = laterF y x from rfl, this]; rfl
    rw [this]
    exact best_keep l (fun z hz => h z (List.mem_cons_of_mem _ hz))
theorem has_top {person day time : Int} {l r : List Ls} {x : Ls} (hx : eligF person day time x = true) (h : ∀ y, y ∈ l ∨ y ∈ r → eligF person day time y = true → laterF x y = true ∧ laterF y x = false) : hasF (l ++ x :: r) person day time = x.version := by
  unfold hasF hasO
  rw [List.foldl_append, List.foldl_cons]
  have e1 : bestF person day time (l.foldl (bestF person day time) none) x = some x := by
    generalize hb : l.foldl (bestF person day time) none = b
    unfold bestF
    rw [hx, Bool.true_and]
    rcases best_in l none b hb with e | ⟨y, hy, he, e⟩
    · rw [e]; rfl
    · rw [e, show bestO (some y) x = laterF x y from rfl, (h y (.inl hy) he).1, if_pos rfl]
  rw [e1, best_keep r (fun y hy he => (h y (.inr hy) he).2)]
  rfl
theorem later_of {x y : Ls} (h1 : y.known ≤ x.known) (h2 : y.at_ ≤ x.at_) (h3 : y.at_ = x.at_ → y.known < x.known) : laterF x y = true ∧ laterF y x = false := by
  unfold laterF
  by_cases e : x.at_ = y.at_
  · have := h3 e.symm
    rw [if_neg (by omega), if_pos (by omega), if_neg (by omega), if_pos (by omega)]
    exact ⟨decide_eq_true (by omega), decide_eq_false (by omega)⟩
  · rw [if_pos (by omega), if_pos (by omega)]
    exact ⟨decide_eq_true (by omega), decide_eq_false (by omega)⟩
theorem addE_zero {xs : List Ls} {x : Ls} (h : addE xs x = 0) : chk xs = 0 ∧ rightF x = true ∧ xs.any (fun y => y.no == x.no) = false ∧ xs.length ≠ 4096 := by
  unfold addE at h
  split at h
  · rename_i h1; exact absurd h h1
  · rename_i h1
    cases h2 : rightF x with
    | false => rw [h2] at h; cases h
    | true =>
      rw [h2] at h
      cases h3 : xs.any (fun y => y.no == x.no) with
      | true => rw [h3] at h; cases h
      | false =>
        rw [h3] at h
        refine ⟨by simpa using h1, rfl, rfl, fun h4 => ?_⟩
        rw [if_neg (by decide), if_neg (by decide), if_pos h4] at h
        cases h
theorem ins_mem {xs : List Ls} {x y : Ls} : y ∈ insF xs x ↔ y = x ∨ y ∈ xs := by
  unfold insF
  have h := List.takeWhile_append_dropWhile (p := fun y : Ls => decide (y.no < x.no)) (l := xs)
  constructor
  · intro hy
    rcases List.mem_append.1 hy with hy | hy
    · exact .inr (by rw [← h]; exact List.mem_append_left _ hy)
    · rcases List.mem_cons.1 hy with e | hy
      · exact .inl e
      · exact .inr (by rw [← h]; exact List.mem_append_right _ hy)
  · rintro (e | hy)
    · subst e; simp
    · rw [← h] at hy
      rcases List.mem_append.1 hy with hy | hy
      · exact List.mem_append_left _ hy
      · exact List.mem_append_right _ (List.mem_cons_of_mem _ hy)
theorem ins_chk {xs : List Ls} {x : Ls} (h : addE xs x = 0) : chk (insF xs x) = 0 := by
  obtain ⟨h1, h2, h3, h4⟩ := addE_zero h
  obtain ⟨h5, h6⟩ := chk_ok h1
  obtain ⟨h7, h8⟩ := ckB_iff.1 h6
  refine chk_of (by rw [ins_len]; omega) (ckB_iff.2 ⟨fun y hy => ?_, ?_⟩)
  · rcases ins_mem.1 hy with e | hy
    · rw [e]; exact h2
    · exact h7 y hy
  · have hsp := List.takeWhile_append_dropWhile (p := fun y : Ls => decide (y.no < x.no)) (l := xs)
    have hne : ∀ y ∈ xs, y.no ≠ x.no := fun y hy e => by
      have := List.any_eq_false.1 h3 y hy
      simp [e] at this
    have hlow : ∀ y ∈ xs.takeWhile (fun y => decide (y.no < x.no)), y.no < x.no := fun y hy => by
      have hall : (xs.takeWhile (fun y => decide (y.no < x.no))).all (fun y => decide (y.no < x.no)) = true := List.all_takeWhile
      rw [List.all_eq_true] at hall
      simpa using hall y hy
    have hp : (xs.takeWhile (fun y => decide (y.no < x.no)) ++ xs.dropWhile (fun y => decide (y.no < x.no))).Pairwise (fun a b => a.no < b.no) := by rw [hsp]; exact h8
    obtain ⟨p1, p2, p3⟩ := List.pairwise_append.1 hp
    have hhigh : ∀ y ∈ xs.dropWhile (fun y => decide (y.no < x.no)), x.no < y.no := by
      cases hd : xs.dropWhile (fun y => decide (y.no < x.no)) with
      | nil => intro y hy; cases hy
      | cons z l =>
        have hz : ¬ z.no < x.no := by
          have := List.head?_dropWhile_not (fun y : Ls => decide (y.no < x.no)) xs
          rw [hd] at this
          simpa using this
        have hzx : z ∈ xs := by rw [← hsp, hd]; simp
        have hz2 := hne z hzx
        rw [hd] at p2
        obtain ⟨q1, q2⟩ := List.pairwise_cons.1 p2
        intro y hy
        rcases List.mem_cons.1 hy with e | hy
        · rw [e]; omega
        · have := q1 y hy; omega
    unfold insF
    rw [List.pairwise_append]
    refine ⟨p1, List.pairwise_cons.2 ⟨hhigh, p2⟩, fun a ha b hb => ?_⟩
    rcases List.mem_cons.1 hb with e | hb
    · rw [e]; exact hlow a ha
    · exact p3 a ha b hb
theorem right_then {x : Ls} (h : rightF x = true) : thenF x.at_ x.known = true ∧ within x.person 0 63 = true := by
  unfold rightF at h
  simp only [Bool.and_eq_true] at h
  unfold thenF
  exact ⟨by rw [h.1.2, h.2]; rfl, h.1.1.1.2⟩
/-- The law of the last lesson. -/
theorem last_law {xs : List Ls} {x : Ls} (h : addE xs x = 0) (hno : xs.any (fun z => (z.person == x.person) && (z.at_ == x.at_) && decide (z.known ≥ x.known)) = false) (p : Int) (hp : 0 ≤ p ∧ p ≤ 63) :
    hasE (chk (insF xs x)) x.person x.at_ x.known = 0 ∧ hasE (chk xs) p x.at_ x.known = 0 ∧ hasE (chk (insF xs x)) p x.at_ x.known = 0 ∧ hasV (insF xs x) x.person x.at_ x.known = x.version ∧ (p = x.person ∨ hasV xs p x.at_ x.known = hasV (insF xs x) p x.at_ x.known) := by
  obtain ⟨h1, h2, h3, h4⟩ := addE_zero h
  obtain ⟨ht, hw⟩ := right_then h2
  have hi := ins_chk h
  have hwp : within p 0 63 = true := by unfold within; simp; omega
  have a1 : hasE 0 x.person x.at_ x.known = 0 := hasE_ok rfl (by rw [hw, ht]; rfl)
  have a2 : hasE 0 p x.at_ x.known = 0 := hasE_ok rfl (by rw [hwp, ht]; rfl)
  rw [hi, h1]
  refine ⟨a1, a2, a2, ?_, ?_⟩
  · rw [hasV_ok hi a1]
    unfold insF
    refine has_top (by unfold eligF; simp) fun y hy he => ?_
    have hyx : y ∈ xs := by
      rw [← List.takeWhile_append_dropWhile (p := fun y : Ls => decide (y.no < x.no)) (l := xs)]
      exact hy.elim (List.mem_append_left _) (List.mem_append_right _)
    unfold eligF at he
    simp only [Bool.and_eq_true, beq_iff_eq, decide_eq_true_eq] at he
    refine later_of he.1.2 he.2 fun e => ?_
    have := List.any_eq_false.1 hno y hyx
    simp [he.1.1, e] at this
    omega
  · by_cases e : p = x.person
    · exact .inl e
    · right
      rw [hasV_ok hi a2, hasV_ok h1 a2]
      unfold insF
      rw [has_skip (by unfold eligF; rw [beq_false_of_ne (fun e2 => e e2.symm)]; rfl), List.takeWhile_append_dropWhile]
/-- What is left of the people from k on. -/
def castR (xs : List Ls) (version day time : Int) (k : Nat) : List Int := ((List.range' k (64 - k)).map (fun p : Nat => (p : Int))).filter (fun p => hasF xs p day time == version)
theorem castR_zero (xs : List Ls) (version day time : Int) : castF xs version day time = castR xs version day time 0 := by unfold castF castR; rw [List.range_eq_range']
theorem castR_step {xs : List Ls} {version day time : Int} {k : Nat} (hk : k < 64) : castR xs version day time k = if hasF xs k day time = version then (k : Int) :: castR xs version day time (k + 1) else castR xs version day time (k + 1) := by
  unfold castR
  rw [show 64 - k = (64 - (k + 1)) + 1 by omega, List.range'_succ, List.map_cons, List.filter_cons]
  by_cases h : hasF xs k day time = version
  · rw [if_pos h, if_pos (by simpa using h)]
  · rw [if_neg h, if_neg (by simpa using h)]
end Go.Proofs.Ytgfggmmffmfolaa
