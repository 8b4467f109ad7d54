/- Lessons: what people have, as a map and in order. -/
import Derived.Test.YtgfggmmffmfolaaPlain
import Derived.Test.YtgfggmmffmfolaaShelf
namespace Go.Proofs.Ytgfggmmffmfolaa
open Go Go.Kn Go.Proofs
def cmpG (x y : Int) : Int := if x < y then -1 else if x > y then 1 else 0
/-- The first that is not zero. -/
def orF : List Int → Int
  | [] => 0
  | x :: xs => if x ≠ 0 then x else orF xs
def cmp3 (x y : Ls) : Int := orF [cmpG x.at_ y.at_, cmpG x.known y.known, cmpG x.no y.no]
theorem cmp3_later (x y : Ls) : decide (cmp3 x y > 0) = laterF x y := by
  unfold cmp3 laterF
  have key : ∀ a b : Int, (a < b → cmpG a b = -1) ∧ (a > b → cmpG a b = 1) ∧ (a = b → cmpG a b = 0) := fun a b => by
    unfold cmpG
    refine ⟨fun h => by rw [if_pos h], fun h => by rw [if_neg (by omega), if_pos h], fun h => by rw [if_neg (by omega), if_neg (by omega)]⟩
  rcases Int.lt_trichotomy x.at_ y.at_ with h | h | h
  · rw [(key _ _).1 h, if_pos (by omega)]; simp [orF]; omega
  · rw [(key _ _).2.2 h, if_neg (by omega)]
    rcases Int.lt_trichotomy x.known y.known with h2 | h2 | h2
    · rw [(key _ _).1 h2, if_pos (by omega)]; simp [orF]; omega
    · rw [(key _ _).2.2 h2, if_neg (by omega)]
      rcases Int.lt_trichotomy x.no y.no with h3 | h3 | h3
      · rw [(key _ _).1 h3]; simp [orF]; omega
      · rw [(key _ _).2.2 h3]; simp [orF]; omega
      · rw [(key _ _).2.1 h3]; simp [orF]; omega
    · rw [(key _ _).2.1 h2, if_pos (by omega)]; simp [orF]; omega
  · rw [(key _ _).2.1 h, if_pos (by omega)]; simp [orF]; omega
def knownP (day time : Int) (x : Ls) : Bool := decide (x.known ≤ time) && decide (x.at_ ≤ day)
def vStep (m : List (Int × Ls)) (x : Ls) : List (Int × Ls) := if bestO (mget m x.person) x then mset m x.person x else m
def versM (l : List Ls) : List (Int × Ls) := l.foldl vStep []
theorem versM_snoc (l : List Ls) (x : Ls) : versM (l ++ [x]) = vStep (versM l) x := by unfold versM; rw [List.foldl_append]; rfl
theorem mget_mset {α β : Type} [DecidableEq α] (m : List (α × β)) (a k : α) (b : β) : mget (mset m a b) k = if a = k then some b else mget m k := by
  induction m with
  | nil => simp [mset, mget]
  | cons p m ih =>
    obtain ⟨q, v⟩ := p
    simp only [mset]
    split
    · rename_i h; subst h; simp only [mget]; split <;> rfl
    · rename_i h
      simp only [mget, ih]
      by_cases e : q = k
      · subst e; rw [if_pos rfl, if_pos rfl, if_neg (fun h2 => h h2.symm)]
      · rw [if_neg e, if_neg e]
theorem vers_get (day time : Int) (p : Int) : ∀ (xs : List Ls), mget (versM (xs.filter (knownP day time))) p = hasO xs p day time := by
  intro xs
  unfold versM hasO
  suffices h : ∀ (m : List (Int × Ls)) (b : Option Ls), mget m p = b → mget ((xs.filter (knownP day time)).foldl vStep m) p = xs.foldl (bestF p day time) b from h [] none rfl
  induction xs with
  | nil => intro m b h; exact h
  | cons x xs ih =>
    intro m b h
    rw [List.filter_cons, List.foldl_cons]
    have hel : eligF p day time x = ((x.person == p) && knownP day time x) := by unfold eligF knownP; rw [Bool.and_assoc]
    by_cases hk : knownP day time x = true
    · rw [if_pos hk, List.foldl_cons]
      apply ih
      unfold vStep bestF
      by_cases hp : x.person = p
      · rw [hel, hk, hp, show (p == p) = true by simp, Bool.true_and, Bool.true_and, h]
        by_cases hb : bestO b x = true
        · rw [if_pos hb, if_pos hb, mget_mset, if_pos rfl]
        · rw [if_neg hb, if_neg hb, h]
      · rw [hel, beq_false_of_ne hp, Bool.false_and, Bool.false_and, if_neg Bool.false_ne_true]
        split
        · rw [mget_mset, if_neg hp, h]
        · exact h
    · rw [if_neg hk]
      apply ih
      unfold bestF
      rw [hel, show knownP day time x = false by simpa using hk, Bool.and_false, Bool.false_and, if_neg Bool.false_ne_true]
      exact h
theorem has_vers (xs : List Ls) (p day time : Int) : ((mget (versM (xs.filter (knownP day time))) p).getD zeroL).version = hasF xs p day time := by
  rw [vers_get]
  unfold hasF verF
  cases hasO xs p day time <;> rfl
theorem mset_len {α β : Type} [DecidableEq α] : ∀ (m : List (α × β)) (a : α) (b : β), (mset m a b).length ≤ m.length + 1
  | [], _, _ => Nat.le_refl _
  | p :: m, a, b => by
    simp only [mset]
    split
    · simp
    · have := mset_len m a b; simp; omega
theorem versM_len (l : List Ls) : (versM l).length ≤ l.length := by
  unfold versM
  suffices h : ∀ (m : List (Int × Ls)), (l.foldl vStep m).length ≤ m.length + l.length by simpa using h []
  induction l with
  | nil => intro m; simp
  | cons x l ih =>
    intro m
    rw [List.foldl_cons]
    have h1 := ih (vStep m x)
    have h2 : (vStep m x).length ≤ m.length + 1 := by
      unfold vStep
      split
      · exact mset_len _ _ _
      · omega
    rw [List.length_cons]; omega
/-- The keys are all different. -/
def Keys {α β : Type} (m : List (α × β)) : Prop := (m.map (·.1)).Nodup
theorem mset_keys {α β : Type} [DecidableEq α] : ∀ (m : List (α × β)) (a : α) (b : β), (mset m a b).map (·.1) = if a ∈ m.map (·.1) then m.map (·.1) else m.map (·.1) ++ [a]
  | [], a, b => by simp [mset]
  | p :: m, a, b => by
    simp only [mset]
    by_cases h : p.1 = a
    · rw [if_pos h, if_pos (by simp [h])]; simp [h]
    · rw [if_neg h, List.map_cons, mset_keys m a b]
      by_cases h2 : a ∈ m.map (·.1)
      · rw [if_pos h2, if_pos (by simp only [List.map_cons, List.mem_cons]; exact .inr h2)]; rfl
      · rw [if_neg h2, if_neg (by simp only [List.map_cons, List.mem_cons, not_or]; exact ⟨fun e => h e.symm, h2⟩)]; rfl
theorem Keys.mset {α β : Type} [DecidableEq α] {m : List (α × β)} (h : Keys m) (a : α) (b : β) : Keys (mset m a b) := by
  unfold Keys
  rw [mset_keys]
  split
  · exact h
  · rename_i h2
    exact List.nodup_append.2 ⟨h, by simp, fun x hx y hy e => by simp at hy; subst hy; subst e; exact h2 hx⟩
theorem versM_keys (l : List Ls) : Keys (versM l) := by
  unfold versM
  suffices h : ∀ (m : List (Int × Ls)), Keys m → Keys (l.foldl vStep m) from h [] (by simp [Keys])
  induction l with
  | nil => intro m h; exact h
  | cons x l ih =>
    intro m h
    rw [List.foldl_cons]
    refine ih _ ?_
    unfold vStep
    split
    · exact h.mset _ _
    · exact h
theorem mget_mem {α β : Type} [DecidableEq α] : ∀ {m : List (α × β)}, Keys m → ∀ {a : α} {b : β}, (a, b) ∈ m ↔ mget m a = some b
  | [], _, a, b => by simp [mget]
  | p :: m, h, a, b => by
    obtain ⟨h1, h2⟩ := List.nodup_cons.1 h
    have ih := mget_mem (m := m) h2 (a := a) (b := b)
    simp only [mget]
    by_cases e : p.1 = a
    · rw [if_pos e, List.mem_cons]
      constructor
      · rintro (rfl | hm)
        · rfl
        · subst e; exact absurd (List.mem_map.2 ⟨_, hm, rfl⟩) h1
      · intro e2
        have : p.2 = b := Option.some.inj e2
        left
        rw [← e, ← this]
    · rw [if_neg e, List.mem_cons, ih]
      constructor
      · rintro (rfl | hm)
        · exact absurd rfl e
        · exact hm
      · exact .inr
/-- The people of a map who have a version, in any order. -/
def pickP (version : Int) (p : Int × Ls) : Bool := p.2.version == version
def pickL (version : Int) (l : List (Int × Ls)) : List Int := (l.filter (pickP version)).map fun p => p.1
def pickS (m : List (Int × Ls)) (version : Int) (seen : List Nat) : List Int := pickL version (seen.filterMap fun i => m[i]?)
theorem pickS_yes {m : List (Int × Ls)} {version : Int} {seen : List Nat} {i : Nat} {p : Int × Ls} (hp : m[i]? = some p) (h : pickP version p = true) : pickS m version (seen ++ [i]) = pickS m version seen ++ [p.1] := by
  unfold pickS pickL
  rw [List.filterMap_append]
  simp [hp, h]
theorem pickS_no {m : List (Int × Ls)} {version : Int} {seen : List Nat} {i : Nat} {p : Int × Ls} (hp : m[i]? = some p) (h : pickP version p = false) : pickS m version (seen ++ [i]) = pickS m version seen := by
  unfold pickS pickL
  rw [List.filterMap_append]
  simp [hp, h]
theorem pickS_perm {m : List (Int × Ls)} {version : Int} {seen : List Nat} (h : seen.Perm (List.range m.length)) : (pickS m version seen).Perm (pickL version m) := by
  unfold pickS pickL
  have h1 := h.filterMap (fun i => m[i]?)
  rw [range_all] at h1
  exact (h1.filter _).map _
theorem sort_perm {a b : List Int} (h : a.Perm b) : sortI a = sortI b := by
  unfold sortI
  refine List.Perm.eq_of_pairwise (le := fun a b => decide (a ≤ b) = true) (fun a b _ _ h1 h2 => ?_) (List.pairwise_mergeSort ?_ ?_ a) (List.pairwise_mergeSort ?_ ?_ b) ((List.mergeSort_perm _ _).trans (h.trans (List.mergeSort_perm _ _).symm))
  · simp at h1 h2; omega
  · intro a b c; simp; omega
  · intro a b; simp; omega
  · intro a b c; simp; omega
  · intro a b; simp; omega
theorem strict_eq {a b : List Int} (ha : a.Pairwise (· < ·)) (hb : b.Pairwise (· < ·)) (h : ∀ x, x ∈ a ↔ x ∈ b) : a = b := by
  refine List.Perm.eq_of_pairwise (le := (· < ·)) (fun a b _ _ h1 h2 => by omega) ha hb ?_
  exact (List.perm_ext_iff_of_nodup (ha.imp fun h => by omega) (hb.imp fun h => by omega)).2 h
theorem sort_strict {a : List Int} (h : a.Nodup) : (sortI a).Pairwise (· < ·) := by
  have hp : (sortI a).Perm a := List.mergeSort_perm _ _
  have h1 : (sortI a).Pairwise (fun a b => decide (a ≤ b) = true) := List.pairwise_mergeSort (by intro a b c; simp; omega) (by intro a b; simp; omega) a
  have h2 : (sortI a).Nodup := hp.nodup_iff.2 h
  exact (h1.and h2).imp fun hab => by have := hab.1; simp at this; have := hab.2; omega
theorem best_right {xs : List Ls} (hc : ckB xs = true) {p day time : Int} {y : Ls} (h : hasO xs p day time = some y) : y ∈ xs ∧ y.person = p := by
  unfold hasO at h
  suffices key : ∀ (l : List Ls) (b : Option Ls), (∀ z, b = some z → z ∈ xs ∧ z.person = p) → (∀ z ∈ l, z ∈ xs) → ∀ z, l.foldl (bestF p day time) b = some z → z ∈ xs ∧ z.person = p from key xs none (fun z e => by cases e) (fun z h => h) y h
  intro l
  induction l with
  | nil => intro b hb _ z hz; exact hb z hz
  | cons x l ih =>
    intro b hb hl z hz
    rw [List.foldl_cons] at hz
    refine ih _ (fun w hw => ?_) (fun w hw => hl w (List.mem_cons_of_mem _ hw)) z hz
    unfold bestF at hw
    split at hw
    · rename_i h2
      cases hw
      refine ⟨hl _ (List.mem_cons_self ..), ?_⟩
      unfold eligF at h2
      simp only [Bool.and_eq_true, beq_iff_eq] at h2
      exact h2.1.1.1
    · exact hb w hw
/-- The people in order are the reference's. -/
theorem cast_eq {xs : List Ls} (hc : ckB xs = true) {version : Int} (hv : 1 ≤ version) (day time : Int) : sortI (pickL version (versM (xs.filter (knownP day time)))) = castF xs version day time := by
  have hkeys := versM_keys (xs.filter (knownP day time))
  have hm : ∀ p, p ∈ pickL version (versM (xs.filter (knownP day time))) ↔ hasF xs p day time = version := fun p => by
    unfold pickL
    simp only [List.mem_map, List.mem_filter]
    constructor
    · rintro ⟨⟨q, y⟩, ⟨h1, h2⟩, rfl⟩
      rw [mget_mem hkeys, vers_get] at h1
      unfold hasF; rw [h1]
      simpa [pickP, verF] using h2
    · intro h
      unfold hasF at h
      cases e : hasO xs p day time with
      | none => rw [e] at h; simp [verF] at h; omega
      | some y =>
        rw [e] at h
        exact ⟨(p, y), ⟨(mget_mem hkeys).2 (by rw [vers_get]; exact e), by simpa [pickP, verF] using h⟩, rfl⟩
  have hnd : (pickL version (versM (xs.filter (knownP day time)))).Nodup := by
    unfold pickL
    exact List.Nodup.sublist (List.Sublist.map _ List.filter_sublist) hkeys
  refine strict_eq (sort_strict hnd) ?_ fun p => ?_
  · unfold castF
    refine List.Pairwise.sublist List.filter_sublist ?_
    rw [List.pairwise_map]
    exact List.pairwise_lt_range.imp fun h => by omega
  · rw [show p ∈ sortI (pickL version (versM (xs.filter (knownP day time)))) ↔ p ∈ pickL version (versM (xs.filter (knownP day time))) from (List.mergeSort_perm _ _).mem_iff, hm]
    unfold castF
    simp only [List.mem_filter, List.mem_map, List.mem_range, beq_iff_eq]
    constructor
    · intro h
      refine ⟨?_, h⟩
      unfold hasF at h
      cases e : hasO xs p day time with
      | none => rw [e] at h; simp [verF] at h; omega
      | some y =>
        obtain ⟨hy, hp⟩ := best_right hc e
        have hr := ckB_right hc hy
        unfold rightF within at hr
        simp only [Bool.and_eq_true, decide_eq_true_eq] at hr
        exact ⟨p.toNat, by omega, by omega⟩
    · exact fun h => h.2
end Go.Proofs.Ytgfggmmffmfolaa
