/- Loops and cuts whose unturned slots are found by the text. Generic over the program; no condition. -/
import Derived.Test.YtmflfccincbnaaaEngK
namespace Go.Kn
open Go
section
variable {C : Cx} {Q : Exit → Act → World → Prop} {E : Env} {I : HMap} {loc : Loc}
theorem X_cutT {x y : Code} (T : Env) (_hT : Sub T E) (M : Env → Loc → Env → HMap → Loc → Prop) (h1 : X C (Exit.then (Met C (M T loc)) Q) x E I loc) (h2 : ∀ E I loc', M T loc E I loc' → X C Q y E I loc') : X C Q (.seq x y) E I loc := X_cut (M T loc) h1 h2
theorem X_loopT {c : Code} (T : Env) (_hT : Sub T E) (J : Env → Loc → Nat → Env → HMap → Loc → Prop) (m0 : Nat) (E0 : Env) (I0 : HMap) (loc0 : Loc) (h0 : J T loc m0 E0 I0 loc0) (hE : Sub E0 E) (hI : HLe I0 I) (hl : loc0 = loc)
    (round : ∀ m E I loc', J T loc m E I loc' → X C (Exit.then (Met C fun E I loc' => ∃ m', m' < m ∧ J T loc m' E I loc') Q) c E I loc') : X C Q (.loop c) E I loc := X_loop (J T loc) m0 E0 I0 loc0 h0 hE hI hl round
end
/-- An array type: how many elements, their type and cells. -/
def ArT (P : Program) (t n e size : Nat) : Prop := P.underlying t = some (.array n e) ∧ ∃ i, P.info? e = some i ∧ i.size = size
def arTB (P : Program) (t n e size : Nat) : Bool := (match P.underlying t with | some (.array n' e') => n' == n && e' == e | _ => false) && (match P.info? e with | some i => i.size == size | none => false)
theorem ArT.of {P : Program} {t n e size : Nat} (h : arTB P t n e size = true) : ArT P t n e size := by
  simp only [arTB, Bool.and_eq_true] at h
  obtain ⟨h1, h2⟩ := h
  refine ⟨?_, ?_⟩
  · split at h1
    · rename_i n' e' h'; rw [Bool.and_eq_true, beq_iff_eq, beq_iff_eq] at h1; rw [h', h1.1, h1.2]
    · cases h1
  · split at h2
    · rename_i i hi; rw [beq_iff_eq] at h2; exact ⟨i, hi, h2⟩
    · cases h2
section
variable {C : Cx} {S : GS} {E : Env} {I I' : HMap} {loc : Loc} {dst : Option Nat} {ty : Nat} {pos : String} {af : Array Edge} {gd : Option (Nat × Bool)} {x y : Operand}
theorem ev_indexArr {t e size b off n : Nat} {k : IntKind} {i : Int} (hx : evalS S E x = some (.pointer (some ⟨b, off, none⟩))) (hy : evalS S E y = some (.int k i)) (hT : ArT C.P t n e size) (hb : conj S = true → 0 ≤ i ∧ i < (n : Int)) :
    EvalOp C S E I loc ⟨dst, .indexAddr t x y, ty, pos, af, gd⟩ (.pointer (some ⟨b, off + i.toNat * size, none⟩)) :=
  .of (by intro c e; cases e) fun a w ha hg hc _ => by
    obtain ⟨h1, j, h2, h3⟩ := hT
    simp only [execOp, evalS_sound ha hg hc hx, evalS_sound ha hg hc hy, Instr.indexAt, asIntOf, Instr.sureAddr, Sem.run_bind, Sem.run_pure, run_underlying h1, Result.andThen, if_pos (hb hc), run_sizeOf h2, add_plain, h3]
end
theorem RetM.absS {α : Type} {P : Program} {f : FuncId} {args : List Value} {I : HMap} {L : Loc} {size : Nat} {enc : α → List Value} {xs : List α} {e : Int} (h : RetM P f args I L (SlE size enc xs e)) :
    RetM P f args I L (fun v I' L' => ∃ ys q, ys = xs ∧ q = e ∧ SlE size enc ys q v I' L') := h.mono fun _ _ _ _ p => ⟨_, _, rfl, rfl, p⟩
theorem any_take {α : Type} {xs : List α} {k : Nat} {x : α} (h : xs[k]? = some x) (p : α → Bool) : (xs.take (k + 1)).any p = ((xs.take k).any p || p x) := by
  rw [List.take_add_one, h, List.any_append]; simp
theorem take_all {α : Type} {xs : List α} {k n : Nat} (hn : xs.length = n) (h : n ≤ k) : xs.take k = xs := List.take_of_length_le (by omega)
end Go.Kn
