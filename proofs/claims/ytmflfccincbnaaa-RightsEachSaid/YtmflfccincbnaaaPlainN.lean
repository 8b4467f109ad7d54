/- The register of rights: what is missing is a drop and one of its holders, in order. -/
import Derived.Test.YtmflfccincbnaaaPlainM
import Derived.Test.YtmflfccincbnaaaWalkL
namespace Go.Proofs.Ytmflfccincbnaaa
open Go Go.Kn Go.Proofs

theorem _root_.Go.Kn.RetM.absA {P : Program} {f : FuncId} {args : List Value} {I : HMap} {L : Go.Kn.Loc} {e : Int} {ms : List (Int × Int)} (h : RetM P f args I L (AlE e ms)) :
    RetM P f args I L (fun v I' L' => ∃ ys q, ys = resF e ms ∧ q = e ∧ L' = [] ∧ ∃ av c, v = .tuple #[.bool (decide (q = 0) && ys.isEmpty), .slice av ys.length c, .int .i64 q] ∧ Sl I' 2 encP av ys.length c ys) := h.mono fun _ _ _ _ p => ⟨_, _, rfl, rfl, p⟩
theorem aErr_zero {chk : Int} {ss : List Int} (h : aErr chk ss = 0) : chk = 0 ∧ ss.length ≤ 64 ∧ signOK ss = true := by
  unfold aErr at h
  split at h
  · contradiction
  · rename_i h0
    split at h
    · cases h
    · split at h
      · rename_i h2 h3; exact ⟨by simpa using h0, by omega, h3⟩
      · cases h
theorem signOK_at {ss : List Int} (h : signOK ss = true) {k : Nat} (hk : k < ss.length) : signP ss k = true := by
  unfold signOK at h
  rw [List.all_eq_true] at h
  exact h k (List.mem_range.2 hk)
theorem signOK_within {ss : List Int} (h : signOK ss = true) {s : Int} (hs : s ∈ ss) : within s 0 1048576 = true := by
  obtain ⟨k, hk⟩ := List.getElem?_of_mem hs
  have hlt : k < ss.length := (List.getElem?_eq_some_iff.1 hk).1
  have h1 := signOK_at h hlt
  unfold signP at h1
  rw [Bool.and_eq_true] at h1
  simpa [List.getD, hk] using h1.1
theorem signOK_next {ss : List Int} (h : signOK ss = true) {k : Nat} (hk : k + 1 < ss.length) : ss[k]'(by omega) < ss[k + 1] := by
  have h1 := signOK_at h hk
  unfold signP at h1
  rw [Bool.and_eq_true] at h1
  have h2 := h1.2
  have e1 : ss.getD (k + 1) 0 = ss[k + 1] := by simp [List.getD, hk]
  have e2 : ss.getD (((k + 1 : Nat) : Int) - 1).toNat 0 = ss[k]'(by omega) := by
    have : (((k + 1 : Nat) : Int) - 1).toNat = k := by omega
    rw [this]; simp [List.getD, show k < ss.length by omega]
  rw [e1, e2] at h2
  simp at h2
  exact h2
theorem signOK_sorted {ss : List Int} (h : signOK ss = true) : ss.Pairwise (· < ·) := by
  have key : ∀ (n i : Nat) (hn : i + n < ss.length) , 0 < n → ss[i]'(by omega) < ss[i + n] := by
    intro n
    induction n with
    | zero => intro i _ h0; omega
    | succ n ih =>
      intro i hn _
      have h2 := signOK_next h (k := i + n) (by omega)
      by_cases e : n = 0
      · subst e; exact h2
      · have h1 := ih i (by omega) (by omega)
        exact Int.lt_trans h1 h2
  rw [List.pairwise_iff_getElem]
  intro i j hi hj hij
  have := key (j - i) i (by omega) (by omega)
  simpa [show i + (j - i) = j by omega] using this
theorem mem_missA {hold : Int → List Int} {miss : Int → Int → Bool} {ss : List Int} {s h : Int} : (s, h) ∈ missA hold miss ss ↔ s ∈ ss ∧ h ∈ hold s ∧ miss s h = true := by
  unfold missA
  simp only [List.mem_flatMap, List.mem_map, List.mem_filter, Prod.mk.injEq]
  constructor
  · rintro ⟨a, ha, b, ⟨hb, hm⟩, rfl, rfl⟩; exact ⟨ha, hb, hm⟩
  · rintro ⟨h1, h2, h3⟩; exact ⟨s, h1, h, ⟨h2, h3⟩, rfl, rfl⟩
/-- Before, by sign and then by holder. -/
def lexP (a b : Int × Int) : Prop := a.1 < b.1 ∨ a.1 = b.1 ∧ a.2 < b.2
theorem missA_sorted {hold : Int → List Int} {miss : Int → Int → Bool} (hh : ∀ s, (hold s).Pairwise (· < ·)) : ∀ {ss : List Int}, ss.Pairwise (· < ·) → (missA hold miss ss).Pairwise lexP
  | [], _ => .nil
  | s :: ss, h => by
    obtain ⟨h1, h2⟩ := List.pairwise_cons.1 h
    have ih := missA_sorted hh (miss := miss) h2
    unfold missA at ih ⊢
    rw [List.flatMap_cons, List.pairwise_append]
    refine ⟨?_, ih, ?_⟩
    · rw [List.pairwise_map]
      exact ((hh s).sublist List.filter_sublist).imp fun hab => .inr ⟨rfl, hab⟩
    · rintro ⟨a, b⟩ hx ⟨c, d⟩ hy
      simp only [List.mem_map, List.mem_filter, Prod.mk.injEq] at hx
      obtain ⟨_, _, rfl, rfl⟩ := hx
      have := mem_missA (hold := hold) (miss := miss).1 hy
      exact .inl (h1 c this.1)
theorem hErr_ok {chk s : Int} (hc : chk = 0) (h : within s 0 1048576 = true) : hErr chk s = 0 := by unfold hErr; rw [if_neg (by omega), h]; rfl
theorem resF_ok {α : Type} {chk : Int} {xs : List α} (hc : chk = 0) : resF chk xs = xs := by unfold resF; rw [if_neg (by omega)]
theorem hold_mem {s ed : Int} {ys : List Rt} {h : Int} : h ∈ holdF s (partsM 2 ed ys) ↔ ∃ x ∈ ys, coversF x 2 ed s = true ∧ x.holder = h := by rw [hold_eq]; exact (holdR_inv ed s ys).2 h
theorem hold_sorted {s ed : Int} {ys : List Rt} : (holdF s (partsM 2 ed ys)).Pairwise (· < ·) := by rw [hold_eq]; exact (holdR_inv ed s ys).1
end Go.Proofs.Ytmflfccincbnaaa
