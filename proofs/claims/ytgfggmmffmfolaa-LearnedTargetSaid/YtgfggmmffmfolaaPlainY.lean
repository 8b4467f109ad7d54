/- Lessons: whoever learns and drops the gap has the target, in plain Lean. -/
import Derived.Test.YtgfggmmffmfolaaPlainX
import Derived.Test.YtgfggmmffmfolaaEngO
namespace Go.Proofs.Ytgfggmmffmfolaa
open Go Go.Kn Go.Proofs
theorem verB_sorted {v : List Int} (h : verB v = true) : v.Pairwise (· < ·) :=
  pair_of_next (R := fun a b : Int => a < b) (fun a b c h1 h2 => Int.lt_trans h1 h2) fun k hk => by
    have h1 := List.all_eq_true.1 h (k + 1) (List.mem_range.2 hk)
    unfold vP at h1
    have e1 : v.getD (k + 1) 0 = v[k + 1] := by simp [List.getD, hk]
    have e2 : v.getD (((k + 1 : Nat) : Int) - 1).toNat 0 = v[k]'(by omega) := by
      rw [show (((k + 1 : Nat) : Int) - 1).toNat = k by omega]; simp [List.getD, show k < v.length by omega]
    rw [e1, e2] at h1
    simp at h1
    have := h1.2
    omega
theorem verB_nodup {v : List Int} (h : verB v = true) : v.Nodup := (verB_sorted h).imp fun h e => by omega
theorem gap_facts {xs : List Ls} {vss : List (List Int)} {ts : List Int} {person day time : Int} (h : gapE xs vss person day time ts = 0) :
    chk xs = 0 ∧ verB ts = true ∧ vss.all verB = true ∧ hasE (chk xs) person day time = 0 ∧ hasV xs person day time = hasF xs person day time ∧ 0 ≤ hasF xs person day time ∧ hasF xs person day time ≤ vss.length := by
  unfold gapE at h
  split at h
  · rename_i h1; exact absurd h h1
  · rename_i h1
    split at h
    · cases h
    · split at h
      · cases h
      · rename_i h3
        split at h
        · rename_i h4; exact absurd h h4
        · rename_i h4
          split at h
          · cases h
          · rename_i h5
            have hc : chk xs = 0 := by simpa using h1
            have he : hasE 0 person day time = 0 := by simpa using h4
            simp at h3
            refine ⟨hc, h3.1, List.all_eq_true.2 fun v hv => h3.2 v hv, by rw [hc]; exact he, hasV_ok hc he, ?_, by omega⟩
            unfold hasF
            cases e : hasO xs person day time with
            | none => exact Int.le_refl _
            | some y =>
              have := ckB_right (chk_ok hc).2 (best_right (chk_ok hc).2 e).1
              unfold rightF within at this
              simp at this
              show 0 ≤ y.version
              omega
theorem own_nodup {xs : List Ls} {vss : List (List Int)} (h : vss.all verB = true) (person day time : Int) : (ownF xs vss person day time).Nodup := by
  unfold ownF
  split
  · generalize (hasF xs person day time - 1).toNat = k
    cases e : vss[k]? with
    | none => simp [List.getD, e]
    | some v =>
      rw [getD_of e]
      exact verB_nodup (List.all_eq_true.1 h v (List.mem_of_getElem? e))
  · exact List.nodup_nil
theorem less_mem {a b : List Int} {x : Int} : x ∈ lessF a b ↔ x ∈ a ∧ x ∉ b := by
  unfold lessF
  rw [List.mem_filter]
  simp only [Bool.not_eq_true', List.any_eq_false, beq_iff_eq]
  exact ⟨fun h => ⟨h.1, fun hx => h.2 x hx rfl⟩, fun h => ⟨h.1, fun y hy e => h.2 (e ▸ hy)⟩⟩
theorem take_one {l : List Int} {k : Nat} {x : Int} (hx : l[k]? = some x) : l.take (k + 1) = l.take k ++ [x] := by rw [List.take_add_one, hx]; rfl
theorem take_new {l : List Int} (hn : l.Nodup) {k : Nat} {x : Int} (hx : l[k]? = some x) : x ∉ l.take k := by
  have h : (l.take (k + 1)).Nodup := hn.sublist (List.take_sublist ..)
  rw [take_one hx] at h
  intro hm
  exact (List.nodup_append.1 h).2.2 x hm x (by simp) rfl
abbrev St1 (m : List (Int × Nat)) (own : List Int) (k : Nat) : Prop := m.map (·.1) = own.take k
abbrev St2 (m : List (Int × Nat)) (own drop : List Int) : Prop := (m.map (·.1)).Nodup ∧ ∀ x, x ∈ m.map (·.1) ↔ x ∈ own ∧ x ∉ drop
abbrev St3 (m : List (Int × Nat)) (own drop learn : List Int) : Prop := (m.map (·.1)).Nodup ∧ ∀ x, x ∈ m.map (·.1) ↔ (x ∈ own ∧ x ∉ drop) ∨ x ∈ learn
theorem st1_step {m : List (Int × Nat)} {c : Nat} {own : List Int} {k : Nat} {x : Int} (hn : own.Nodup) (hx : own[k]? = some x) (h : St1 m own k) : St1 (sput m c x).1 own (k + 1) := by
  unfold St1 at h ⊢
  rw [sput_new (by rw [h]; exact take_new hn hx), h, take_one hx]
theorem st2_zero {m : List (Int × Nat)} {own drop : List Int} (hn : own.Nodup) (h : m.map (·.1) = own) : St2 m own (drop.take 0) := ⟨by rw [h]; exact hn, fun x => by rw [h]; simp⟩
theorem st2_in {m : List (Int × Nat)} {own ts : List Int} {k : Nat} {x : Int} (hn : own.Nodup) (hx : (lessF own ts)[k]? = some x) (h : St2 m own ((lessF own ts).take k)) : x ∈ m.map (·.1) :=
  (h.2 x).2 ⟨(less_mem.1 (List.mem_of_getElem? hx)).1, take_new (hn.sublist (by unfold lessF; exact List.filter_sublist)) hx⟩
theorem st2_step {m : List (Int × Nat)} {own drop : List Int} {k : Nat} {x : Int} (hx : drop[k]? = some x) (h : St2 m own (drop.take k)) : St2 (sdel m x) own (drop.take (k + 1)) := by
  obtain ⟨h1, h2⟩ := sdel_mem (a := x) h.1
  refine ⟨h1, fun y => ?_⟩
  rw [h2, h.2, take_one hx, List.mem_append, List.mem_singleton, not_or, and_assoc]
theorem st3_zero {m : List (Int × Nat)} {own drop learn : List Int} (h : St2 m own drop) : St3 m own drop (learn.take 0) := ⟨h.1, fun x => by rw [h.2]; simp⟩
theorem st3_out {m : List (Int × Nat)} {own ts drop : List Int} {k : Nat} {x : Int} (hn : ts.Nodup) (hx : (lessF ts own)[k]? = some x) (h : St3 m own drop ((lessF ts own).take k)) : x ∉ m.map (·.1) := fun hm => by
  rcases (h.2 x).1 hm with h1 | h1
  · exact (less_mem.1 (List.mem_of_getElem? hx)).2 h1.1
  · exact take_new (hn.sublist (by unfold lessF; exact List.filter_sublist)) hx h1
theorem st3_step {m : List (Int × Nat)} {c : Nat} {own drop learn : List Int} {k : Nat} {x : Int} (hx : learn[k]? = some x) (h : St3 m own drop (learn.take k)) (hno : x ∉ m.map (·.1)) : St3 (sput m c x).1 own drop (learn.take (k + 1)) := by
  have e := sput_new (c := c) hno
  refine ⟨by rw [e]; exact List.nodup_append.2 ⟨h.1, by simp, fun a ha b hb e2 => hno (by simp at hb; rw [← hb, ← e2]; exact ha)⟩, fun y => ?_⟩
  rw [e, List.mem_append, h.2, take_one hx, List.mem_append, or_assoc]
theorem st3_fin {m : List (Int × Nat)} {own ts : List Int} (h : St3 m own (lessF own ts) (lessF ts own)) (x : Int) : x ∈ m.map (·.1) ↔ x ∈ ts := by
  rw [h.2, less_mem, less_mem]
  by_cases h1 : x ∈ own <;> by_cases h2 : x ∈ ts <;> simp [h1, h2]
theorem st3_len {m : List (Int × Nat)} {own ts : List Int} (hn : ts.Nodup) (h : St3 m own (lessF own ts) (lessF ts own)) : m.length = ts.length := by
  have := ((List.perm_ext_iff_of_nodup h.1 hn).2 (st3_fin h)).length_eq
  simpa using this
end Go.Proofs.Ytgfggmmffmfolaa
