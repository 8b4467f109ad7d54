/- The register of rights: the rights that stand, the holders in order, the missing consents: program and reference are one. Plain Lean. -/
import Derived.Test.YtmflfccincbnaaaPlainL
import Derived.Test.YtmflfccincbnaaaShelf
import Derived.Test.YtmflfccincbnaaaWalkO
namespace Go.Proofs.Ytmflfccincbnaaa
open Go Go.Kn

theorem gone_eq {xs : List Rt} (hx : ∀ x ∈ xs, okR x) {no : Int} (h : 0 ≤ no ∧ no ≤ 1048576) (time : Int) : goneF xs time no = ended xs no time := by
  unfold goneF ended
  apply any_congr
  intro x hm
  have : (w64 (x.ends - 1) == no) = (x.ends == no + 1) := by
    rw [Bool.eq_iff_iff, beq_iff_eq, beq_iff_eq]
    have := w64_pred (hx x hm).ends h
    constructor
    · intro e; have := this.1 e.symm; omega
    · intro e; exact (this.2 e.symm).symm
  rw [this, Bool.and_assoc, Bool.and_assoc, Bool.and_comm (decide _)]
theorem stand_eq {xs : List Rt} (hx : ∀ x ∈ xs, okR x) (hc : fCheck xs = 0) (day time : Int) : standF xs day time = standsF xs day time := by
  unfold standF standsF
  apply List.filter_congr
  intro x hm
  obtain ⟨k, hk⟩ := List.getElem?_of_mem hm
  have := fCheck_no hc k x hk
  unfold stP standsP
  rw [gone_eq hx this]

/-! ### The holders in order -/
theorem comp_inv (d : Array Int) (hs : ∀ j, 0 < j → j < d.size → d[j - 1]! ≤ d[j]!) : ∀ m, m ≤ d.size → (Lib.compactUpTo d m).Pairwise (· < ·) ∧ (∀ x ∈ Lib.compactUpTo d m, 0 < m ∧ x ≤ d[m - 1]!) ∧ ∀ x, x ∈ Lib.compactUpTo d m ↔ ∃ j, j < m ∧ d[j]! = x
  | 0, _ => ⟨.nil, (fun x h => by cases h), fun x => ⟨(fun h => by cases h), fun ⟨j, h, _⟩ => by omega⟩⟩
  | m + 1, hm => by
    obtain ⟨h1, h2, h3⟩ := comp_inv d hs m (by omega)
    rw [Lib.compactUpTo_succ]
    by_cases hk : Lib.keeps d m = true
    · rw [if_pos hk]
      have hlt : ∀ x ∈ Lib.compactUpTo d m, x < d[m]! := fun x hx => by
        obtain ⟨a, b⟩ := h2 x hx
        have h4 := hs m a (by omega)
        unfold Lib.keeps at hk
        have h5 := of_decide_eq_true hk
        omega
      refine ⟨?_, ?_, ?_⟩
      · rw [List.pairwise_append]
        exact ⟨h1, List.pairwise_singleton .., fun y hy z hz => by rw [List.mem_singleton] at hz; rw [hz]; exact hlt y hy⟩
      · intro x hx
        refine ⟨by omega, ?_⟩
        rw [show m + 1 - 1 = m from by omega]
        rcases List.mem_append.1 hx with hx | hx
        · have := hlt x hx; omega
        · rw [List.mem_singleton] at hx; rw [hx]; exact Int.le_refl _
      · intro x
        rw [List.mem_append, h3, List.mem_singleton]
        constructor
        · rintro (⟨j, a, b⟩ | e)
          · exact ⟨j, by omega, b⟩
          · exact ⟨m, by omega, e.symm⟩
        · rintro ⟨j, a, b⟩
          by_cases e : j = m
          · subst e; exact .inr b.symm
          · exact .inl ⟨j, by omega, b⟩
    · rw [if_neg hk, List.append_nil]
      unfold Lib.keeps at hk
      have h5 : ¬ (m = 0 ∨ d[m]! ≠ d[m - 1]!) := fun h => hk (decide_eq_true h)
      have h6 : 0 < m ∧ d[m]! = d[m - 1]! := by omega
      refine ⟨h1, ?_, ?_⟩
      · intro x hx
        have := h2 x hx
        rw [show m + 1 - 1 = m from by omega]
        omega
      · intro x
        rw [h3]
        constructor
        · rintro ⟨j, a, b⟩; exact ⟨j, by omega, b⟩
        · rintro ⟨j, a, b⟩
          by_cases e : j = m
          · subst e; exact ⟨j - 1, by omega, by rw [← h6.2]; exact b⟩
          · exact ⟨j, by omega, b⟩
theorem comp_sort (zs : List Int) : (Lib.compact (sortI zs)).Pairwise (· < ·) ∧ ∀ x, x ∈ Lib.compact (sortI zs) ↔ x ∈ zs := by
  have hp : (sortI zs).Pairwise (fun a b => decide (a ≤ b) = true) := List.pairwise_mergeSort (by intro a b c; simp; omega) (by intro a b; simp; omega) zs
  have hget : ∀ j, j < (sortI zs).length → (sortI zs).toArray[j]! = (sortI zs)[j]! := fun j hj => by simp
  have hs : ∀ j, 0 < j → j < (sortI zs).toArray.size → (sortI zs).toArray[j - 1]! ≤ (sortI zs).toArray[j]! := by
    intro j h0 hj
    have hj' : j < (sortI zs).length := by simpa using hj
    have h1 := List.pairwise_iff_getElem.1 hp (j - 1) j (by omega) hj' (by omega)
    have h2 := of_decide_eq_true h1
    simpa [hj', show j - 1 < (sortI zs).length from by omega] using h2
  obtain ⟨h1, _, h3⟩ := comp_inv (sortI zs).toArray hs (sortI zs).length (by simp)
  refine ⟨h1, fun x => ?_⟩
  unfold Lib.compact
  rw [h3]
  have hmem : x ∈ sortI zs ↔ x ∈ zs := (List.mergeSort_perm zs _).mem_iff
  rw [← hmem]
  constructor
  · rintro ⟨j, hj, e⟩
    have : (sortI zs)[j] = x := by simpa [hj] using e
    rw [← this]; exact List.getElem_mem hj
  · intro h
    obtain ⟨j, hj, e⟩ := List.getElem_of_mem h
    exact ⟨j, hj, by simpa [hj] using e⟩
theorem put_inv : ∀ (xs : List Int) (v : Int), xs.Pairwise (· < ·) → (putF xs v).Pairwise (· < ·) ∧ ∀ x, x ∈ putF xs v ↔ x = v ∨ x ∈ xs
  | [], v, _ => ⟨List.pairwise_singleton .., fun x => by simp [putF]⟩
  | y :: xs, v, h => by
    rw [List.pairwise_cons] at h
    unfold putF
    split
    · rename_i hlt
      obtain ⟨h1, h2⟩ := put_inv xs v h.2
      refine ⟨List.pairwise_cons.2 ⟨fun z hz => ?_, h1⟩, fun x => ?_⟩
      · rcases (h2 z).1 hz with e | hz
        · rw [e]; exact hlt
        · exact h.1 z hz
      · simp only [List.mem_cons, h2]
        constructor
        · rintro (a | a | a) <;> simp [a]
        · rintro (a | a | a) <;> simp [a]
    · split
      · rename_i e
        refine ⟨List.pairwise_cons.2 h, fun x => ?_⟩
        rw [← e]; simp
      · refine ⟨List.pairwise_cons.2 ⟨fun z hz => ?_, List.pairwise_cons.2 h⟩, fun x => by simp⟩
        rcases List.mem_cons.1 hz with e | hz
        · omega
        · have := h.1 z hz; omega
theorem holdR_inv (ed s : Int) (ys : List Rt) : (holdR ed s ys).Pairwise (· < ·) ∧ ∀ h, h ∈ holdR ed s ys ↔ ∃ x ∈ ys, coversF x 2 ed s = true ∧ x.holder = h := by
  unfold holdR
  suffices key : ∀ (ys : List Rt) (acc : List Int), acc.Pairwise (· < ·) → (ys.foldl (fun acc x => if coversF x 2 ed s then putF acc x.holder else acc) acc).Pairwise (· < ·) ∧
      ∀ h, h ∈ ys.foldl (fun acc x => if coversF x 2 ed s then putF acc x.holder else acc) acc ↔ h ∈ acc ∨ ∃ x ∈ ys, coversF x 2 ed s = true ∧ x.holder = h by
    obtain ⟨a, b⟩ := key ys [] .nil
    exact ⟨a, fun h => by rw [b]; simp⟩
  intro ys
  induction ys with
  | nil => intro acc h; exact ⟨h, fun x => by simp⟩
  | cons y ys ih =>
    intro acc hacc
    rw [List.foldl_cons]
    by_cases hc : coversF y 2 ed s = true
    · rw [if_pos hc]
      obtain ⟨p1, p2⟩ := put_inv acc y.holder hacc
      obtain ⟨a, b⟩ := ih _ p1
      refine ⟨a, fun h => ?_⟩
      rw [b, p2]
      constructor
      · rintro ((e | e) | ⟨x, hx, h1, h2⟩)
        · exact .inr ⟨y, List.mem_cons_self .., hc, e.symm⟩
        · exact .inl e
        · exact .inr ⟨x, List.mem_cons_of_mem _ hx, h1, h2⟩
      · rintro (e | ⟨x, hx, h1, h2⟩)
        · exact .inl (.inr e)
        · rcases List.mem_cons.1 hx with e | hx
          · subst e; exact .inl (.inl h2.symm)
          · exact .inr ⟨x, hx, h1, h2⟩
    · rw [if_neg hc]
      obtain ⟨a, b⟩ := ih _ hacc
      refine ⟨a, fun h => ?_⟩
      rw [b]
      constructor
      · rintro (e | ⟨x, hx, h1, h2⟩)
        · exact .inl e
        · exact .inr ⟨x, List.mem_cons_of_mem _ hx, h1, h2⟩
      · rintro (e | ⟨x, hx, h1, h2⟩)
        · exact .inl e
        · rcases List.mem_cons.1 hx with e | hx
          · subst e; exact absurd h1 hc
          · exact .inr ⟨x, hx, h1, h2⟩
/-- A part is among the parts if an entry says so. -/
theorem parts_get (kind ed : Int) (ys : List Rt) (k : Int × Int) : (mget (partsM kind ed ys) k).getD false = ys.any (fun x => partP kind ed x && (x.holder == k.1) && (x.sign == k.2)) := by
  unfold partsM
  suffices key : ∀ (ys : List Rt) (m : List ((Int × Int) × Bool)), (mget (ys.foldl (fun m x => if partP kind ed x then mset m (x.holder, x.sign) true else m) m) k).getD false = ((mget m k).getD false || ys.any (fun x => partP kind ed x && (x.holder == k.1) && (x.sign == k.2))) by
    rw [key ys []]; rfl
  intro ys
  induction ys with
  | nil => intro m; simp
  | cons y ys ih =>
    intro m
    rw [List.foldl_cons, ih, List.any_cons]
    by_cases hp : partP kind ed y = true
    · rw [if_pos hp, mget_mset, hp]
      by_cases e : (y.holder, y.sign) = k
      · rw [if_pos e, ← e]; simp
      · rw [if_neg e]
        have : (y.holder == k.1 && y.sign == k.2) = false := by
          rw [Bool.eq_false_iff]
          intro h
          rw [Bool.and_eq_true, beq_iff_eq, beq_iff_eq] at h
          exact e (Prod.ext h.1 h.2)
        rw [Bool.true_and, this, Bool.false_or]
    · rw [if_neg hp, Bool.eq_false_iff.2 hp]; simp

theorem mem_mset {α β : Type} [DecidableEq α] : ∀ (m : List (α × β)) (a k : α) (b : β), (∃ c, (k, c) ∈ mset m a b) ↔ k = a ∨ ∃ c, (k, c) ∈ m
  | [], a, k, b => by simp [mset]
  | p :: m, a, k, b => by
    simp only [mset]
    split
    · rename_i e
      constructor
      · rintro ⟨c, h⟩
        rcases List.mem_cons.1 h with e2 | h
        · cases e2; exact .inl rfl
        · exact .inr ⟨c, List.mem_cons_of_mem _ h⟩
      · rintro (e2 | ⟨c, h⟩)
        · subst e2; exact ⟨b, List.mem_cons_self ..⟩
        · rcases List.mem_cons.1 h with e2 | h
          · refine ⟨b, ?_⟩
            rw [show k = a by rw [← e, ← e2]]; exact List.mem_cons_self ..
          · exact ⟨c, List.mem_cons_of_mem _ h⟩
    · have ih := mem_mset m a k b
      constructor
      · rintro ⟨c, h⟩
        rcases List.mem_cons.1 h with e2 | h
        · exact .inr ⟨c, by rw [e2]; exact List.mem_cons_self ..⟩
        · rcases ih.1 ⟨c, h⟩ with e | ⟨c, h⟩
          · exact .inl e
          · exact .inr ⟨c, List.mem_cons_of_mem _ h⟩
      · rintro (e | ⟨c, h⟩)
        · obtain ⟨c, h⟩ := ih.2 (.inl e); exact ⟨c, List.mem_cons_of_mem _ h⟩
        · rcases List.mem_cons.1 h with e2 | h
          · exact ⟨c, by rw [e2]; exact List.mem_cons_self ..⟩
          · obtain ⟨c, h⟩ := ih.2 (.inr ⟨c, h⟩); exact ⟨c, List.mem_cons_of_mem _ h⟩
theorem parts_mem (kind ed : Int) (ys : List Rt) (k : Int × Int) : (∃ c, (k, c) ∈ partsM kind ed ys) ↔ ∃ x ∈ ys, partP kind ed x = true ∧ (x.holder, x.sign) = k := by
  unfold partsM
  suffices key : ∀ (ys : List Rt) (m : List ((Int × Int) × Bool)), (∃ c, (k, c) ∈ ys.foldl (fun m x => if partP kind ed x then mset m (x.holder, x.sign) true else m) m) ↔ (∃ c, (k, c) ∈ m) ∨ ∃ x ∈ ys, partP kind ed x = true ∧ (x.holder, x.sign) = k by
    rw [key ys []]; simp
  intro ys
  induction ys with
  | nil => intro m; simp
  | cons y ys ih =>
    intro m
    rw [List.foldl_cons, ih]
    by_cases hp : partP kind ed y = true
    · rw [if_pos hp, mem_mset]
      constructor
      · rintro ((e | h) | ⟨x, hx, h1, h2⟩)
        · exact .inr ⟨y, List.mem_cons_self .., hp, e.symm⟩
        · exact .inl h
        · exact .inr ⟨x, List.mem_cons_of_mem _ hx, h1, h2⟩
      · rintro (h | ⟨x, hx, h1, h2⟩)
        · exact .inl (.inr h)
        · rcases List.mem_cons.1 hx with e | hx
          · subst e; exact .inl (.inl h2.symm)
          · exact .inr ⟨x, hx, h1, h2⟩
    · rw [if_neg hp]
      constructor
      · rintro (h | ⟨x, hx, h1, h2⟩)
        · exact .inl h
        · exact .inr ⟨x, List.mem_cons_of_mem _ hx, h1, h2⟩
      · rintro (h | ⟨x, hx, h1, h2⟩)
        · exact .inl h
        · rcases List.mem_cons.1 hx with e | hx
          · subst e; exact absurd h1 hp
          · exact .inr ⟨x, hx, h1, h2⟩
theorem covers_part (x : Rt) (kind ed s : Int) : coversF x kind ed s = (partP kind ed x && ((x.sign == 0) || (x.sign == w64 (s + 1)))) := rfl
theorem strict_eq {a b : List Int} (ha : a.Pairwise (· < ·)) (hb : b.Pairwise (· < ·)) (h : ∀ x, x ∈ a ↔ x ∈ b) : a = b := by
  have hn : ∀ {l : List Int}, l.Pairwise (· < ·) → l.Nodup := fun hl => hl.imp (fun h e => by omega)
  refine List.Perm.eq_of_pairwise (le := (· < ·)) (fun x y _ _ h1 h2 => by omega) ha hb ?_
  exact (List.perm_ext_iff_of_nodup (hn ha) (hn hb)).2 h
/-- The holders in order are the reference's. -/
theorem hold_eq (s ed : Int) (ys : List Rt) : holdF s (partsM 2 ed ys) = holdR ed s ys := by
  obtain ⟨h1, h2⟩ := comp_sort (pickL s (partsM 2 ed ys))
  obtain ⟨h3, h4⟩ := holdR_inv ed s ys
  refine strict_eq h1 h3 fun h => ?_
  unfold holdF at *
  rw [h2, h4]
  unfold pickL
  rw [List.mem_map]
  constructor
  · rintro ⟨⟨k, c⟩, hm, rfl⟩
    rw [List.mem_filter] at hm
    obtain ⟨x, hx, hp, e⟩ := (parts_mem 2 ed ys k).1 ⟨c, hm.1⟩
    refine ⟨x, hx, ?_, by rw [← e]⟩
    rw [covers_part, hp]
    have := hm.2
    unfold pickP at this
    rw [← e] at this
    exact this
  · rintro ⟨x, hx, hc, rfl⟩
    rw [covers_part, Bool.and_eq_true] at hc
    obtain ⟨c, hm⟩ := (parts_mem 2 ed ys (x.holder, x.sign)).2 ⟨x, hx, hc.1, rfl⟩
    exact ⟨((x.holder, x.sign), c), List.mem_filter.2 ⟨hm, hc.2⟩, rfl⟩
theorem stand_res {xs : List Rt} (hx : ∀ x ∈ xs, okR x) (day time : Int) : resF (askedF (fCheck xs) day time) (standF xs day time) = resF (askedF (fCheck xs) day time) (standsF xs day time) := by
  unfold resF
  split
  · rfl
  · rename_i h
    exact stand_eq hx (asked_ok (Decidable.not_not.1 h)) day time
theorem few_len {xs : List Rt} (h : fewF xs = true) : xs.length ≤ 600 := by
  unfold fewF at h
  split at h
  · cases h
  · simp only [Bool.or_eq_true, Bool.and_eq_true, decide_eq_true_eq] at h
    omega
theorem any_or {α : Type} (xs : List α) (p q : α → Bool) : xs.any (fun x => p x || q x) = (xs.any p || xs.any q) := by
  induction xs with
  | nil => rfl
  | cons x xs ih =>
    rw [List.any_cons, List.any_cons, List.any_cons, ih]
    cases p x <;> cases q x <;> cases xs.any p <;> rfl
/-- A consent is missing here if it is missing there. -/
theorem miss_eq (s h ed : Int) (ys : List Rt) : missP (partsM 3 ed ys) s h = !ys.any (consP ed s h) := by
  unfold missP
  rw [parts_get, parts_get, ← Bool.not_or, ← any_or]
  congr 1
  apply any_congr
  intro x _
  unfold consP
  rw [covers_part]
  cases partP 3 ed x <;> cases (x.holder == h) <;> cases (x.sign == 0) <;> cases (x.sign == w64 (s + 1)) <;> rfl
theorem missA_eq (ed : Int) (ys : List Rt) (ss : List Int) : missA (fun s => holdF s (partsM 2 ed ys)) (missP (partsM 3 ed ys)) ss = missA (fun s => holdR ed s ys) (fun s h => !ys.any (consP ed s h)) ss := by
  unfold missA
  simp only [hold_eq]
  congr 1
  funext s
  congr 1
  apply List.filter_congr
  intro h _
  exact miss_eq s h ed ys
end Go.Proofs.Ytmflfccincbnaaa
