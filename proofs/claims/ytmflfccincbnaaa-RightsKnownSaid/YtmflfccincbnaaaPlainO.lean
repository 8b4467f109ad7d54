/- The register of rights: registers that are parts of another one. -/
import Derived.Test.YtmflfccincbnaaaPlainN
namespace Go.Proofs.Ytmflfccincbnaaa
open Go Go.Kn Go.Proofs

theorem pair_of_next {α : Type} {R : α → α → Prop} (ht : ∀ a b c, R a b → R b c → R a c) {l : List α} (h : ∀ k (hk : k + 1 < l.length), R (l[k]'(by omega)) l[k + 1]) : l.Pairwise R := by
  have key : ∀ (n i : Nat) (hn : i + n < l.length), 0 < n → R (l[i]'(by omega)) l[i + n] := by
    intro n
    induction n with
    | zero => intro i _ h0; omega
    | succ n ih =>
      intro i hn _
      have h2 := h (i + n) (by omega)
      by_cases e : n = 0
      · subst e; exact h2
      · exact ht _ _ _ (ih i (by omega) (by omega)) h2
  rw [List.pairwise_iff_getElem]
  intro i j hi hj hij
  have := key (j - i) i (by omega) (by omega)
  simpa [show i + (j - i) = j by omega] using this
theorem fGood_iff {i : Nat} {pre : List Rt} {x y : Rt} : fGoodC i pre y x = true ↔ within x.no 0 1048576 = true ∧ (0 < i → y.no < x.no) ∧ within x.known 0 134217727 = true ∧ formC pre x = true := by
  unfold fGoodC
  cases h1 : within x.no 0 1048576 <;> cases h2 : within x.known 0 134217727 <;> simp
  intro _
  constructor
  · intro h hi; omega
  · intro h
    by_cases hi : 0 < i
    · exact .inr (h hi)
    · exact .inl (by omega)
/-- What a register that is right is. -/
theorem check_iff {xs : List Rt} : fCheck xs = 0 ↔ xs.length ≤ 512 ∧ Rise xs ∧ ∀ pre x suf, xs = pre ++ x :: suf → within x.no 0 1048576 = true ∧ within x.known 0 134217727 = true ∧ formC pre x = true := by
  have hall : (List.range xs.length).all (rightC xs) = true ↔ Rise xs ∧ ∀ pre x suf, xs = pre ++ x :: suf → within x.no 0 1048576 = true ∧ within x.known 0 134217727 = true ∧ formC pre x = true := by
    rw [List.all_eq_true]
    constructor
    · intro h
      have hg : ∀ pre x suf, xs = pre ++ x :: suf → fGoodC pre.length pre (prevOf xs pre.length) x = true := fun pre x suf e => by
        have := h pre.length (List.mem_range.2 (by rw [e]; simp))
        rw [e] at this ⊢
        rwa [right_at] at this
      refine ⟨pair_of_next (R := fun y z : Rt => y.no < z.no) (fun a b c h1 h2 => Int.lt_trans h1 h2) fun k hk => ?_, fun pre x suf e => ?_⟩
      · have e : xs = xs.take (k + 1) ++ xs[k + 1] :: xs.drop (k + 2) := by
          rw [← List.drop_eq_getElem_cons hk, List.take_append_drop]
        have h1 := (fGood_iff.1 (hg _ _ _ e)).2.1
        rw [List.length_take, Nat.min_eq_left (by omega)] at h1
        have h2 := h1 (by omega)
        have e2 : prevOf xs (k + 1) = xs[k] := by
          unfold prevOf
          rw [show (((k + 1 : Nat) : Int) - 1).toNat = k by omega, List.getElem?_eq_getElem (by omega)]; rfl
        rwa [e2] at h2
      · have := fGood_iff.1 (hg pre x suf e)
        exact ⟨this.1, this.2.2.1, this.2.2.2⟩
    · rintro ⟨hr, h⟩ i hi
      rw [List.mem_range] at hi
      have e : xs = xs.take i ++ xs[i] :: xs.drop (i + 1) := by rw [← List.drop_eq_getElem_cons hi, List.take_append_drop]
      have hl : (xs.take i).length = i := by rw [List.length_take]; omega
      obtain ⟨h1, h2, h3⟩ := h _ _ _ e
      have e3 := right_at (xs.take i) xs[i] (xs.drop (i + 1))
      rw [← e, hl] at e3
      rw [e3]
      refine fGood_iff.2 ⟨h1, fun h0 => ?_, h2, h3⟩
      have e2 : prevOf xs i = xs[i - 1]'(by omega) := by
        unfold prevOf
        rw [show ((i : Int) - 1).toNat = i - 1 by omega, List.getElem?_eq_getElem (by omega)]; rfl
      rw [e2]
      exact List.pairwise_iff_getElem.1 hr _ _ _ _ (by omega)
  unfold fCheck
  split
  · rename_i h; constructor
    · intro h2; cases h2
    · intro h2; omega
  · rename_i h
    split
    · rename_i h2; exact ⟨fun _ => ⟨by omega, hall.1 h2⟩, fun _ => rfl⟩
    · rename_i h2; exact ⟨fun h3 => (by cases h3), fun h3 => absurd (hall.2 h3.2) h2⟩
/-- A void's target. -/
theorem form_ends {pre : List Rt} {x : Rt} (h : formC pre x = true) (hk : x.kind = 4) : endsF pre x = true := by
  unfold formC at h
  rw [hk] at h
  simp only [show ((4 : Int) == 1) = false from rfl, show ((4 : Int) == 2) = false from rfl, show ((4 : Int) == 3) = false from rfl, show ((4 : Int) == 4) = true from rfl, Bool.false_eq_true, if_false, if_true] at h
  simp only [Bool.and_eq_true] at h
  exact h.1.1.1.1.1.1.1
theorem form_pre {pre pre' : List Rt} {x : Rt} (h : formC pre x = true) (he : x.kind = 4 → endsF pre' x = true) : formC pre' x = true := by
  by_cases hk : x.kind = 4
  · have h2 := he hk
    have h1 := form_ends h hk
    unfold formC at h ⊢
    rw [h1] at h
    rw [h2]; exact h
  · have : (x.kind == 4) = false := beq_false_of_ne hk
    unfold formC at h ⊢
    rw [this] at h ⊢
    exact h
theorem no_in {x : Rt} (h : within x.no 0 1048576 = true) : 0 ≤ x.no ∧ x.no ≤ 1048576 := by simpa [within] using h
/-- A part of a right register that keeps the targets of its voids is right. -/
theorem check_filter {xs : List Rt} (q : Rt → Bool) (hc : fCheck xs = 0) (hq : ∀ x ∈ xs, q x = true → x.kind = 4 → ∀ y ∈ xs, y.no + 1 = x.ends → y.kind ≠ 4 → y.known ≤ x.known → q y = true) : fCheck (xs.filter q) = 0 := by
  obtain ⟨h1, h2, h3⟩ := check_iff.1 hc
  refine check_iff.2 ⟨Nat.le_trans (List.length_filter_le ..) h1, List.Pairwise.sublist List.filter_sublist h2, fun pre x suf e => ?_⟩
  obtain ⟨l1, l2, rfl, e1, e2⟩ := List.filter_eq_append_iff.1 e
  obtain ⟨m1, m2, rfl, hno, hx, e3⟩ := List.filter_eq_cons_iff.1 e2
  have key := h3 (l1 ++ m1) x m2 (by simp)
  refine ⟨key.1, key.2.1, form_pre key.2.2 fun hk => ?_⟩
  have he := form_ends key.2.2 hk
  unfold endsF at he ⊢
  rw [List.any_eq_true] at he ⊢
  obtain ⟨y, hy, hc⟩ := he
  simp only [Bool.and_eq_true, beq_iff_eq, bne_iff_ne, decide_eq_true_eq] at hc
  have hyx : y ∈ l1 ++ (m1 ++ x :: m2) := by
    rcases List.mem_append.1 hy with h | h
    · exact List.mem_append_left _ h
    · exact List.mem_append_right _ (List.mem_append_left _ h)
  have hyn : 0 ≤ y.no ∧ y.no ≤ 1048576 := by
    obtain ⟨s, t, e⟩ := List.append_of_mem hyx
    exact no_in (h3 s y t e).1
  have hqy : q y = true := hq x (by simp) hx hk y hyx (by rw [← hc.1.1, w64_succ hyn]) hc.1.2 hc.2
  refine ⟨y, ?_, by simp only [Bool.and_eq_true, beq_iff_eq, bne_iff_ne, decide_eq_true_eq]; exact hc⟩
  rw [← e1]
  refine List.mem_filter.2 ⟨?_, hqy⟩
  rcases List.mem_append.1 hy with h | h
  · exact h
  · exact absurd hqy (hno y h)
theorem uniq_no {xs : List Rt} (hc : fCheck xs = 0) {x y : Rt} (hx : x ∈ xs) (hy : y ∈ xs) (e : x.no = y.no) : x = y := (check_iff.1 hc).2.1.uniq hx hy e
theorem no_bound {xs : List Rt} (hc : fCheck xs = 0) {x : Rt} (hx : x ∈ xs) : 0 ≤ x.no ∧ x.no ≤ 1048576 := by
  obtain ⟨s, t, e⟩ := List.append_of_mem hx
  exact no_in ((check_iff.1 hc).2.2 s x t e).1
/-- A void of a right register ends an entry before it. -/
theorem void_target {pre suf : List Rt} {x : Rt} (hc : fCheck (pre ++ x :: suf) = 0) (hk : x.kind = 4) : ∃ y ∈ pre, y.no + 1 = x.ends ∧ y.kind ≠ 4 ∧ y.known ≤ x.known ∧ w64 (x.ends - 1) = y.no := by
  have he := form_ends ((check_iff.1 hc).2.2 pre x suf rfl).2.2 hk
  unfold endsF at he
  rw [List.any_eq_true] at he
  obtain ⟨y, hy, h⟩ := he
  simp only [Bool.and_eq_true, beq_iff_eq, bne_iff_ne, decide_eq_true_eq] at h
  have hb := no_bound hc (List.mem_append_left _ hy)
  have e : y.no + 1 = x.ends := by rw [← h.1.1, w64_succ hb]
  exact ⟨y, hy, e, h.1.2, h.2, by rw [← e, show y.no + 1 - 1 = y.no by omega]; exact w64_eq ⟨by omega, by omega⟩⟩
def earlyP (time : Int) (x : Rt) : Bool := !decide (x.known > time)
/-- What is kept for an edition. -/
def ownQ (xs : List Rt) (ed time : Int) (x : Rt) : Bool := earlyP time x && (if x.kind = 4 then xs.any (fun y => (y.no == w64 (x.ends - 1)) && ((y.kind != 4) && (y.edition == ed) && earlyP time y)) else x.edition == ed)
theorem early_iff {time : Int} {x : Rt} : earlyP time x = true ↔ x.known ≤ time := by unfold earlyP; simp
theorem early_check {xs : List Rt} (hc : fCheck xs = 0) (time : Int) : fCheck (xs.filter (earlyP time)) = 0 :=
  check_filter _ hc fun x _ hq _ y _ _ _ hk => early_iff.2 (by have := early_iff.1 hq; omega)
theorem own_check {xs : List Rt} (hc : fCheck xs = 0) (ed time : Int) : fCheck (xs.filter (ownQ xs ed time)) = 0 :=
  check_filter _ hc fun x hx hq hk y hy he hy4 hyk => by
    unfold ownQ at hq ⊢
    rw [if_pos hk, Bool.and_eq_true, List.any_eq_true] at hq
    obtain ⟨h1, z, hz, hz2⟩ := hq
    simp only [Bool.and_eq_true, beq_iff_eq, bne_iff_ne] at hz2
    have hb := no_bound hc hy
    have : z = y := uniq_no hc hz hy (by rw [hz2.1, ← he, show y.no + 1 - 1 = y.no by omega]; exact w64_eq ⟨by omega, by omega⟩)
    subst this
    rw [if_neg hy4, hz2.2.2, Bool.true_and, beq_iff_eq]
    exact hz2.2.1.2
theorem stand_early {xs : List Rt} (day time : Int) : standF (xs.filter (earlyP time)) day time = standF xs day time := by
  unfold standF
  rw [List.filter_filter]
  apply List.filter_congr
  intro x hx
  have hg : goneF (xs.filter (earlyP time)) time x.no = goneF xs time x.no := by
    unfold goneF
    rw [List.any_filter]
    apply any_congr
    intro y _
    unfold earlyP
    cases h : decide (y.known > time)
    · simp
    · simp at h; simp; intro _ h2; omega
  unfold stP
  rw [hg]
  unfold earlyP
  by_cases h : x.known ≤ time
  · simp [h, show ¬ time < x.known by omega]
  · simp [h]
theorem stand_own {xs : List Rt} (ed day time : Int) : standF (xs.filter (ownQ xs ed time)) day time = (standF xs day time).filter (fun x => x.edition == ed) := by
  unfold standF
  rw [List.filter_filter, List.filter_filter]
  apply List.filter_congr
  intro x hx
  by_cases hk : x.kind = 4
  · simp [stP, hk]
  · by_cases hw : x.known ≤ time
    · by_cases he : x.edition = ed
      · have hq : ownQ xs ed time x = true := by unfold ownQ; rw [if_neg hk, early_iff.2 hw]; simpa using he
        have hg : goneF (xs.filter (ownQ xs ed time)) time x.no = goneF xs time x.no := by
          rw [Bool.eq_iff_iff]
          unfold goneF
          simp only [List.any_eq_true, List.mem_filter, Bool.and_eq_true, beq_iff_eq, decide_eq_true_eq]
          constructor
          · rintro ⟨v, ⟨hv, _⟩, h⟩; exact ⟨v, hv, h⟩
          · rintro ⟨v, hv, h⟩
            refine ⟨v, ⟨hv, ?_⟩, h⟩
            unfold ownQ
            rw [if_pos h.1.1, early_iff.2 h.1.2, Bool.true_and, List.any_eq_true]
            refine ⟨x, hx, ?_⟩
            simp [h.2, hk, he, early_iff.2 hw]
        unfold stP
        rw [hg, hq, show (x.edition == ed) = true by simpa using he]
        simp
      · have : ownQ xs ed time x = false := by unfold ownQ; rw [if_neg hk, beq_false_of_ne he, Bool.and_false]
        rw [this, beq_false_of_ne he]; simp
    · simp [stP, hw]
theorem parts_ed (kind ed : Int) : ∀ (ys : List Rt), partsM kind ed (ys.filter (fun x => x.edition == ed)) = partsM kind ed ys := by
  intro ys
  unfold partsM
  generalize ([] : List ((Int × Int) × Bool)) = m
  induction ys generalizing m with
  | nil => rfl
  | cons x ys ih =>
    rw [List.filter_cons]
    by_cases h : x.edition = ed
    · rw [if_pos (by simpa using h), List.foldl_cons, List.foldl_cons]; exact ih _
    · rw [if_neg (by simpa using h), List.foldl_cons]
      have : partP kind ed x = false := by unfold partP; rw [beq_false_of_ne h, Bool.and_false]
      rw [this]; exact ih _
theorem may_ed (chk ed : Int) (name town : ByteArray) (ys : List Rt) : mayF chk ed name town (ys.filter (fun x => x.edition == ed)) = mayF chk ed name town ys := by
  unfold mayF
  split
  · rfl
  · rw [List.any_filter]
    apply any_congr
    intro x _
    unfold mayP
    cases x.edition == ed <;> simp
/-- One step of the law's loop. -/
theorem own_step {xs : List Rt} (hc : fCheck xs = 0) {ed time : Int} {k : Nat} {x : Rt} (hx : xs[k]? = some x) (hw : earlyP time x = true) {m : List (Int × Bool)}
    (hm : ∀ z, (mget m z).getD false = ((xs.take k).filter (ownQ xs ed time)).any (fun y => y.no == z)) :
    (((x.kind == 4) && (mget m (w64 (x.ends - 1))).getD false) || ((x.kind != 4) && (x.edition == ed))) = ownQ xs ed time x := by
  unfold ownQ
  rw [hw, Bool.true_and]
  by_cases hk : x.kind = 4
  · rw [if_pos hk, hk]
    simp only [show ((4 : Int) == 4) = true from rfl, show ((4 : Int) != 4) = false from rfl, Bool.true_and, Bool.false_and, Bool.or_false]
    rw [hm, Bool.eq_iff_iff]
    have hlt : k < xs.length := (List.getElem?_eq_some_iff.1 hx).1
    have hxe : xs[k] = x := (List.getElem?_eq_some_iff.1 hx).2
    have e : xs = xs.take k ++ x :: xs.drop (k + 1) := by rw [← hxe, ← List.drop_eq_getElem_cons hlt, List.take_append_drop]
    obtain ⟨y, hy, hy1, hy4, hyk, hyw⟩ := void_target (e ▸ hc) hk
    have hyx : y ∈ xs := List.mem_of_mem_take hy
    simp only [List.any_eq_true, List.mem_filter, Bool.and_eq_true, beq_iff_eq, bne_iff_ne]
    constructor
    · rintro ⟨z, ⟨hz, hqz⟩, ez⟩
      have : z = y := uniq_no hc (List.mem_of_mem_take hz) hyx (by rw [ez, hyw])
      subst this
      unfold ownQ at hqz
      rw [if_neg hy4, Bool.and_eq_true, beq_iff_eq] at hqz
      exact ⟨z, hyx, ez, ⟨hy4, hqz.2⟩, hqz.1⟩
    · rintro ⟨z, hz, ez, ⟨h4, hed⟩, hze⟩
      have : z = y := uniq_no hc hz hyx (by rw [ez, hyw])
      subst this
      refine ⟨z, ⟨hy, ?_⟩, ez⟩
      unfold ownQ
      rw [if_neg hy4, hze, hed]; simp
  · rw [if_neg hk, beq_false_of_ne hk]
    simp [hk]
theorem kept_step {xs : List Rt} {q : Rt → Bool} {k : Nat} {x : Rt} (hx : xs[k]? = some x) (hq : q x = true) {m : List (Int × Bool)} (hm : ∀ z, (mget m z).getD false = ((xs.take k).filter q).any (fun y => y.no == z)) :
    ∀ z, (mget (mset m x.no true) z).getD false = ((xs.take (k + 1)).filter q).any (fun y => y.no == z) := fun z => by
  rw [List.take_add_one, hx, List.filter_append, List.any_append, ← hm, mget_mset]
  simp only [Option.toList, List.filter_cons, hq, if_true, List.filter_nil, List.any_cons, List.any_nil, Bool.or_false]
  by_cases h : x.no = z
  · rw [if_pos h]; simp [h]
  · rw [if_neg h]; simp [h]
theorem kept_same {xs : List Rt} {q : Rt → Bool} {k : Nat} {x : Rt} (hx : xs[k]? = some x) (hq : q x = false) {m : List (Int × Bool)} (hm : ∀ z, (mget m z).getD false = ((xs.take k).filter q).any (fun y => y.no == z)) :
    ∀ z, (mget m z).getD false = ((xs.take (k + 1)).filter q).any (fun y => y.no == z) := fun z => by
  rw [List.take_add_one, hx, List.filter_append, List.any_append, ← hm]
  simp [hq]
theorem known_law {xs : List Rt} (hx : ∀ x ∈ xs, okR x) (hc : rCheck xs = 0) (ed time : Int) : rCheck (xs.filter (earlyP time)) = 0 ∧ rCheck (xs.filter (ownQ xs ed time)) = 0 := by
  rw [check_eq hx] at hc
  rw [check_eq (fun x h => hx x (List.mem_filter.1 h).1), check_eq (fun x h => hx x (List.mem_filter.1 h).1)]
  exact ⟨early_check hc time, own_check hc ed time⟩
end Go.Proofs.Ytmflfccincbnaaa
