/- Lessons: bounds that the laws' walks ask. -/
import Derived.Test.YtgfggmmffmfolaaPlainW
namespace Go.Proofs.Ytgfggmmffmfolaa
open Go Go.Kn Go.Proofs
theorem few_vss {xs : List Ls} {vss : List (List Int)} {ts : List Int} (h : fewF xs vss ts = true) : ∀ v ∈ vss, v.length ≤ 600 := by
  intro v hv
  unfold fewF at h
  rw [Bool.and_eq_true] at h
  have := List.all_eq_true.1 h.2 v hv
  unfold fewP at this
  simp only [Bool.not_eq_true', Bool.or_eq_false_iff, decide_eq_false_iff_not] at this
  omega
theorem own_len {xs : List Ls} {vss : List (List Int)} {ts : List Int} (h : fewF xs vss ts = true) (person day time : Int) : (ownF xs vss person day time).length ≤ 600 := by
  unfold ownF
  split
  · generalize (hasF xs person day time - 1).toNat = k
    cases e : vss[k]? with
    | none => simp [List.getD, e]
    | some v =>
      rw [getD_of e]
      exact few_vss h v (List.mem_of_getElem? e)
  · exact Nat.zero_le _
theorem gap_len {xs : List Ls} {vss : List (List Int)} {ts : List Int} (h : fewF xs vss ts = true) {e person day time : Int} : (resF e (lessF (ownF xs vss person day time) ts)).length ≤ 100000 :=
  Nat.le_trans resF_len (Nat.le_trans (by unfold lessF; exact List.length_filter_le ..) (Nat.le_trans (own_len h person day time) (by decide)))
theorem other_in {ot : Int} (h : 0 ≤ ot ∧ ot ≤ 255) : 0 ≤ (IntKind.i64.wrap ot).tmod 64 ∧ (IntKind.i64.wrap ot).tmod 64 ≤ 63 := by
  have e : IntKind.i64.wrap ot = ot := wrap_in (by omega)
  rw [e, Int.tmod_eq_emod_of_nonneg h.1]
  omega
theorem last_bool {xs : List Ls} {x : Ls} {p : Int} (hE : addE xs x = 0) (h : hasE (chk (insF xs x)) x.person x.at_ x.known = 0 ∧ hasE (chk xs) p x.at_ x.known = 0 ∧ hasE (chk (insF xs x)) p x.at_ x.known = 0 ∧ hasV (insF xs x) x.person x.at_ x.known = x.version ∧ (p = x.person ∨ hasV xs p x.at_ x.known = hasV (insF xs x) p x.at_ x.known)) :
    (hasE (chk (addF xs x)) x.person x.at_ x.known == 0 && hasE (chk xs) p x.at_ x.known == 0 && hasE (chk (addF xs x)) p x.at_ x.known == 0 && hasV (addF xs x) x.person x.at_ x.known == x.version && (p == x.person || hasV xs p x.at_ x.known == hasV (addF xs x) p x.at_ x.known)) = true := by
  rw [show addF xs x = insF xs x from resF_ok hE]
  obtain ⟨a, b, c, d, e⟩ := h
  rw [a, b, c, d]
  rcases e with e | e
  · rw [e]; simp
  · rw [e]; simp
theorem cast_has {c version day time : Int} (h : castE c version day time = 0) {k : Nat} (hk : k < 64) : c = 0 ∧ hasE c k day time = 0 := by
  have hc : c = 0 := by
    by_cases e : c = 0
    · exact e
    · rw [castE_chk e] at h; exact absurd h e
  refine ⟨hc, hasE_ok hc ?_⟩
  cases e : (!within version 1 512 || !thenF day time) with
  | true => rw [castE_arg hc e] at h; cases h
  | false =>
    rw [Bool.or_eq_false_iff] at e
    rw [e.2, Bool.or_false]
    unfold within
    simp
    omega
theorem cast_hasV {xs : List Ls} {version day time : Int} (h : castE (chk xs) version day time = 0) {k : Nat} (hk : k < 64) : hasV xs k day time = hasF xs k day time := hasV_ok (cast_has h hk).1 (by have := cast_has h hk; rw [this.1] at this; exact this.2)
end Go.Proofs.Ytgfggmmffmfolaa
