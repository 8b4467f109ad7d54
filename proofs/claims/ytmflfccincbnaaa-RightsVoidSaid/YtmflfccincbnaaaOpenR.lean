/- The register's argument opened: a slice of rights as it came in. -/
import Derived.Test.YtmflfccincbnaaaPlainL
import Derived.Test.YtmflfccincbnaaaEngW
import Derived.Test.YtmflfccincbnaaaTab
import Derived.Deep.Fields
namespace Go.Proofs.Ytmflfccincbnaaa
open Go Go.Kn Go.Proofs

theorem rt_hone : ∀ (i : Nat) (f : Field), (Try.prog.fieldsOf 45)[i]? = some f → f.offset = i ∧ Try.prog.cellsOf f.type = 1 := Go.Deep.hone_of (by kernel_rfl)
theorem rt_cells : Try.prog.cellsOf 45 = (Try.prog.fieldsOf 45).size := by kernel_rfl
theorem rt_size : (Try.prog.fieldsOf 45).size = 11 := by kernel_rfl
theorem und_3 : Try.prog.underlying 3 = some (.int .i64) := by kernel_rfl
theorem rt_el {H : Type} {enc : TypeId × Value → H} {W : World} (fuel : Nat) (cs : List Value) (x : DataW H × List MemPlace) (h : DataW.trod enc Try.prog W 0 (fun _ => true) true fuel 45 cs = some x) : ∃ y : Rt, okR y ∧ encR y = cs := by
  obtain ⟨hl, n, hf⟩ := trod_flat eqt_45.1 rt_hone rt_cells h
  rw [rt_size] at hl
  match cs, hl with
  | [c0, c1, c2, c3, c4, c5, c6, c7, c8, c9, c10], _ =>
    obtain ⟨_, g0⟩ := hf 0 3 c0 (by kernel_rfl) rfl
    obtain ⟨_, g1⟩ := hf 1 3 c1 (by kernel_rfl) rfl
    obtain ⟨_, g2⟩ := hf 2 3 c2 (by kernel_rfl) rfl
    obtain ⟨_, g3⟩ := hf 3 3 c3 (by kernel_rfl) rfl
    obtain ⟨_, g4⟩ := hf 4 3 c4 (by kernel_rfl) rfl
    obtain ⟨_, g5⟩ := hf 5 3 c5 (by kernel_rfl) rfl
    obtain ⟨_, g6⟩ := hf 6 9 c6 (by kernel_rfl) rfl
    obtain ⟨_, g7⟩ := hf 7 9 c7 (by kernel_rfl) rfl
    obtain ⟨_, g8⟩ := hf 8 3 c8 (by kernel_rfl) rfl
    obtain ⟨_, g9⟩ := hf 9 3 c9 (by kernel_rfl) rfl
    obtain ⟨_, g10⟩ := hf 10 3 c10 (by kernel_rfl) rfl
    obtain ⟨n0, e0, _, w0⟩ := DataW.trod_int und_3 g0
    obtain ⟨n1, e1, _, w1⟩ := DataW.trod_int und_3 g1
    obtain ⟨n2, e2, _, w2⟩ := DataW.trod_int und_3 g2
    obtain ⟨n3, e3, _, w3⟩ := DataW.trod_int und_3 g3
    obtain ⟨n4, e4, _, w4⟩ := DataW.trod_int und_3 g4
    obtain ⟨n5, e5, _, w5⟩ := DataW.trod_int und_3 g5
    obtain ⟨s6, e6, _, w6⟩ := DataW.trod_string und_9 g6
    obtain ⟨s7, e7, _, w7⟩ := DataW.trod_string und_9 g7
    obtain ⟨n8, e8, _, w8⟩ := DataW.trod_int und_3 g8
    obtain ⟨n9, e9, _, w9⟩ := DataW.trod_int und_3 g9
    obtain ⟨n10, e10, _, w10⟩ := DataW.trod_int und_3 g10
    cases e0; cases e1; cases e2; cases e3; cases e4; cases e5; cases e6; cases e7; cases e8; cases e9; cases e10
    exact ⟨⟨n0, n1, n2, n3, n4, n5, s6, s7, n8, n9, n10⟩, ⟨wf_i64 w0, wf_i64 w1, wf_i64 w2, wf_i64 w3, wf_i64 w4, wf_i64 w5, wf_i64 w8, wf_i64 w9, wf_i64 w10⟩, rfl⟩
theorem open_rights {H : Type} {enc : TypeId × Value → H} {W : World} {base : Nat} {v : Value} {d : DataW H} {p : List MemPlace} (hv : Value.okWide Try.prog W .any base 22 v) (h : DataW.Trod enc Try.prog W 0 (fun _ => true) true 22 v d p) :
    ∃ av n c xs, v = .slice av n c ∧ Sl (heapI W) 11 encR av n c xs ∧ (∀ x ∈ xs, okR x) ∧ c ≤ maxLen :=
  open_Sl encR okR (by kernel_rfl) (by kernel_rfl) (by decide) encR_len (fun fuel cs x h => rt_el fuel cs x h) hv h
end Go.Proofs.Ytmflfccincbnaaa
