/- The question's argument opened: a struct of numbers, two strings and a slice of numbers, as it came in. -/
import Derived.Test.YtmflfccincbnaaaOpenR
namespace Go.Proofs.Ytmflfccincbnaaa
open Go Go.Kn Go.Proofs
open Go.ChangeShapes Go.WideShapes Go.ChangeAt Go.RowKit

theorem ask_hone : ∀ (i : Nat) (f : Field), (Try.prog.fieldsOf 33)[i]? = some f → f.offset = i ∧ Try.prog.cellsOf f.type = 1 := Go.Deep.hone_of (by kernel_rfl)
theorem ask_cells : Try.prog.cellsOf 33 = (Try.prog.fieldsOf 33).size := by kernel_rfl
theorem ask_size : (Try.prog.fieldsOf 33).size = 7 := by kernel_rfl
theorem und_33 : Try.prog.underlying 33 = some (.struct (Try.prog.fieldsOf 33)) := by kernel_rfl
set_option maxRecDepth 100000 in
theorem open_ask {H : Type} {enc : TypeId × Value → H} {W : World} {base : Nat} {v : Value} {d : DataW H} {p : List MemPlace} (hv : Value.okWide Try.prog W .any base 33 v) (h : DataW.Trod enc Try.prog W 0 (fun _ => true) true 33 v d p) :
    ∃ (ed sg day time : Int) (name town : ByteArray) (bv : Option Addr) (n2 c2 : Nat) (ss : List Int), v = .agg #[.int .i64 ed, .int .i64 sg, .int .i64 day, .int .i64 time, .string name, .string town, .slice bv n2 c2] ∧ Sl (heapI W) 1 encI bv n2 c2 ss ∧ (∀ s ∈ ss, i64 s) ∧ i64 ed ∧ i64 sg := by
  obtain ⟨cs, rfl, hsz⟩ := okWide_struct und_33 hv
  obtain ⟨fuel, hf⟩ := h
  obtain ⟨hl, m, hf⟩ := trod_flat und_33 ask_hone ask_cells hf
  rw [ask_size] at hl
  obtain ⟨l⟩ := cs
  simp only [Value.cells] at hl hf
  match l, hl with
  | [c0, c1, c2, c3, c4, c5, c6], _ =>
    obtain ⟨_, g0⟩ := hf 0 3 c0 (by kernel_rfl) rfl
    obtain ⟨_, g1⟩ := hf 1 3 c1 (by kernel_rfl) rfl
    obtain ⟨_, g2⟩ := hf 2 3 c2 (by kernel_rfl) rfl
    obtain ⟨_, g3⟩ := hf 3 3 c3 (by kernel_rfl) rfl
    obtain ⟨_, g4⟩ := hf 4 9 c4 (by kernel_rfl) rfl
    obtain ⟨_, g5⟩ := hf 5 9 c5 (by kernel_rfl) rfl
    obtain ⟨_, g6⟩ := hf 6 31 c6 (by kernel_rfl) rfl
    obtain ⟨n0, e0, _, w0⟩ := DataW.trod_int und_3 g0
    obtain ⟨n1, e1, _, w1⟩ := DataW.trod_int und_3 g1
    obtain ⟨n2, e2, _, w2⟩ := DataW.trod_int und_3 g2
    obtain ⟨n3, e3, _, w3⟩ := DataW.trod_int und_3 g3
    obtain ⟨s4, e4, _, w4⟩ := DataW.trod_string und_9 g4
    obtain ⟨s5, e5, _, w5⟩ := DataW.trod_string und_9 g5
    obtain ⟨bv, q, c, ss, e6, hS, hok, _⟩ := open_SlT encI i64 (by kernel_rfl) (by kernel_rfl) (by decide) encI_len (fun fuel cs x h => el_int und_3 rfl fuel cs x h) g6
    cases e0; cases e1; cases e2; cases e3; cases e4; cases e5; cases e6
    exact ⟨n0, n1, n2, n3, s4, s5, bv, q, c, ss, rfl, hS, hok, wf_i64 w0, wf_i64 w1⟩
end Go.Proofs.Ytmflfccincbnaaa
