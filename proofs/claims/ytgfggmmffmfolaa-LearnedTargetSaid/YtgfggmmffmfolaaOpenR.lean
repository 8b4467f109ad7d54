/- The arguments opened: a slice of lessons, a lesson, a slice of numbers, a slice of slices of numbers, as they came in. -/
import Derived.Test.YtgfggmmffmfolaaPlainW
import Derived.Test.YtgfggmmffmfolaaEngW
import Derived.Test.YtgfggmmffmfolaaTab
import Derived.Deep.Fields
namespace Go.Proofs.Ytgfggmmffmfolaa
open Go Go.Kn Go.Proofs
set_option maxRecDepth 100000
open Go.ChangeShapes Go.WideShapes Go.ChangeAt Go.RowKit
def i64 (n : Int) : Prop := -9223372036854775808 ≤ n ∧ n ≤ 9223372036854775807
def okL (_ : Ls) : Prop := True
theorem und_4 : Try.prog.underlying 4 = some .bool := by kernel_rfl
theorem und_5 : Try.prog.underlying 5 = some (.int .u8) := by kernel_rfl
theorem ls_hone : ∀ (i : Nat) (f : Field), (Try.prog.fieldsOf 24)[i]? = some f → f.offset = i ∧ Try.prog.cellsOf f.type = 1 := Go.Deep.hone_of (by kernel_rfl)
theorem ls_cells : Try.prog.cellsOf 24 = (Try.prog.fieldsOf 24).size := by kernel_rfl
theorem ls_size : (Try.prog.fieldsOf 24).size = 5 := by kernel_rfl
theorem ls_el {H : Type} {enc : TypeId × Value → H} {W : World} (fuel : Nat) (cs : List Value) (x : DataW H × List MemPlace) (h : DataW.trod enc Try.prog W 0 (fun _ => true) true fuel 24 cs = some x) : ∃ y : Ls, okL y ∧ encL y = cs := by
  obtain ⟨hl, n, hf⟩ := trod_flat eqt_24.1 ls_hone ls_cells h
  rw [ls_size] at hl
  match cs, hl with
  | [c0, c1, c2, c3, c4], _ =>
    obtain ⟨_, g0⟩ := hf 0 3 c0 (by kernel_rfl) rfl
    obtain ⟨_, g1⟩ := hf 1 3 c1 (by kernel_rfl) rfl
    obtain ⟨_, g2⟩ := hf 2 3 c2 (by kernel_rfl) rfl
    obtain ⟨_, g3⟩ := hf 3 3 c3 (by kernel_rfl) rfl
    obtain ⟨_, g4⟩ := hf 4 3 c4 (by kernel_rfl) rfl
    obtain ⟨n0, e0, _, w0⟩ := DataW.trod_int und_3 g0
    obtain ⟨n1, e1, _, w1⟩ := DataW.trod_int und_3 g1
    obtain ⟨n2, e2, _, w2⟩ := DataW.trod_int und_3 g2
    obtain ⟨n3, e3, _, w3⟩ := DataW.trod_int und_3 g3
    obtain ⟨n4, e4, _, w4⟩ := DataW.trod_int und_3 g4
    cases e0; cases e1; cases e2; cases e3; cases e4
    exact ⟨⟨n0, n1, n2, n3, n4⟩, trivial, rfl⟩
theorem open_ls {H : Type} {enc : TypeId × Value → H} {W : World} {base : Nat} {v : Value} {d : DataW H} {p : List MemPlace} (hv : Value.okWide Try.prog W .any base 22 v) (h : DataW.Trod enc Try.prog W 0 (fun _ => true) true 22 v d p) :
    ∃ av n c xs, v = .slice av n c ∧ Sl (heapI W) 5 encL av n c xs := by
  obtain ⟨av, n, c, xs, e, hS, _⟩ := open_Sl (e := 24) encL okL (by kernel_rfl) (by kernel_rfl) (by decide) encL_len (fun fuel cs x h => ls_el fuel cs x h) hv h
  exact ⟨av, n, c, xs, e, hS⟩
theorem open_lesson {H : Type} {enc : TypeId × Value → H} {W : World} {base : Nat} {v : Value} {d : DataW H} {p : List MemPlace} (hv : Value.okWide Try.prog W .any base 24 v) (h : DataW.Trod enc Try.prog W 0 (fun _ => true) true 24 v d p) :
    ∃ y : Ls, v = encA y := by
  obtain ⟨cs, rfl, _⟩ := okWide_struct eqt_24.1 hv
  obtain ⟨fuel, hf⟩ := h
  obtain ⟨l⟩ := cs
  obtain ⟨y, _, e⟩ := ls_el fuel l _ hf
  exact ⟨y, by rw [← e]; rfl⟩
theorem open_ints {H : Type} {enc : TypeId × Value → H} {W : World} {base : Nat} {v : Value} {d : DataW H} {p : List MemPlace} (hv : Value.okWide Try.prog W .any base 35 v) (h : DataW.Trod enc Try.prog W 0 (fun _ => true) true 35 v d p) :
    ∃ av n c xs, v = .slice av n c ∧ Sl (heapI W) 1 encI av n c xs := by
  obtain ⟨av, n, c, xs, e, hS, _⟩ := open_Sl (e := 3) encI i64 (by kernel_rfl) (by kernel_rfl) (by decide) encI_len (fun fuel cs x h => el_int und_3 rfl fuel cs x h) hv h
  exact ⟨av, n, c, xs, e, hS⟩
theorem heads {I : HMap} : ∀ (hs : List Hd), (∀ h ∈ hs, ∃ v, Sl I 1 encI h.a h.n h.c v) → ∃ vss : List (List Int), hs.length = vss.length ∧ ∀ (k : Nat) (h : Hd) (v : List Int), hs[k]? = some h → vss[k]? = some v → Sl I 1 encI h.a h.n h.c v
  | [], _ => ⟨[], rfl, fun k h v a _ => by simp at a⟩
  | x :: hs, H => by
    obtain ⟨vss, hl, hv⟩ := heads hs fun h hh => H h (List.mem_cons_of_mem _ hh)
    obtain ⟨v0, h0⟩ := H x (List.mem_cons_self ..)
    refine ⟨v0 :: vss, by simp [hl], fun k h v a b => ?_⟩
    cases k with
    | zero => cases a; cases b; exact h0
    | succ k => exact hv k h v a b
theorem open_nest {H : Type} {enc : TypeId × Value → H} {W : World} {base : Nat} {v : Value} {d : DataW H} {p : List MemPlace} (hv : Value.okWide Try.prog W .any base 40 v) (h : DataW.Trod enc Try.prog W 0 (fun _ => true) true 40 v d p) :
    ∃ av n c vss, v = .slice av n c ∧ SlN (heapI W) av n c vss := by
  obtain ⟨av, n, c, hs, e, hS, hok, _⟩ := open_Sl (e := 35) encH (fun h => ∃ v, Sl (heapI W) 1 encI h.a h.n h.c v) (by kernel_rfl) (by kernel_rfl) (by decide) encH_len (fun fuel cs x h => by
    obtain ⟨a, m, q, ys, e, hT, _⟩ := open_SlT (t := 35) (e := 3) encI i64 (by kernel_rfl) (by kernel_rfl) (by decide) encI_len (fun fuel cs x h => el_int und_3 rfl fuel cs x h) h
    exact ⟨⟨a, m, q⟩, ⟨ys, hT⟩, e.symm⟩) hv h
  obtain ⟨vss, hl, hv⟩ := heads hs hok
  exact ⟨av, n, c, vss, e, hs, hS, hl, hv⟩
theorem wf_u8 {n : Int} (h : (Lit.int .u8 n).wf = true) : 0 ≤ n ∧ n ≤ 255 := by
  simp only [Lit.wf, Bool.and_eq_true, decide_eq_true_eq] at h
  exact h
end Go.Proofs.Ytgfggmmffmfolaa
