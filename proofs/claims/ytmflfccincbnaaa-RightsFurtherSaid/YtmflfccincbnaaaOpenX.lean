/- A right that came in by value; a byte. -/
import Derived.Test.YtmflfccincbnaaaOpenQ
namespace Go.Proofs.Ytmflfccincbnaaa
open Go Go.Kn Go.Proofs
open Go.ChangeShapes Go.WideShapes Go.ChangeAt Go.RowKit

theorem open_right {H : Type} {enc : TypeId × Value → H} {W : World} {base : Nat} {v : Value} {d : DataW H} {p : List MemPlace} (hv : Value.okWide Try.prog W .any base 45 v) (h : DataW.Trod enc Try.prog W 0 (fun _ => true) true 45 v d p) :
    ∃ y : Rt, v = encA y ∧ okR y := by
  obtain ⟨cs, rfl, _⟩ := okWide_struct eqt_45.1 hv
  obtain ⟨fuel, hf⟩ := h
  obtain ⟨l⟩ := cs
  obtain ⟨y, hy, e⟩ := rt_el fuel l _ hf
  exact ⟨y, by rw [← e]; rfl, hy⟩
theorem und_5 : Try.prog.underlying 5 = some (.int .u8) := by kernel_rfl
theorem wf_u8 {n : Int} (h : (Lit.int .u8 n).wf = true) : 0 ≤ n ∧ n ≤ 255 := by
  simp only [Lit.wf, Bool.and_eq_true, decide_eq_true_eq] at h
  exact h
end Go.Proofs.Ytmflfccincbnaaa
