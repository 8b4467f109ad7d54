/- Slices that are read; guards by name. Generic over the program; no condition. -/
import Derived.Test.YtgfggmmffmfolaaEngC
namespace Go.Kn
open Go

theorem gbt {b : Bool} : b = (b == true) := by cases b <;> rfl
theorem gbf {b : Bool} : (!b) = (b == false) := by cases b <;> rfl

section
variable {C : Cx} {Q : Exit → Act → World → Prop} {E E' : Env} {I I' : HMap} {loc loc' L R : Loc} {ops : Array Oper} {rest : List Oper} {S : GS}
variable {dst : Option Tmp} {d : Nat} {ty : TypeId} {pos : String} {af : Array Edge} {gd : Option (Nat × Bool)} {x y z : Operand}

theorem XO_pushT (j : Nat) {oj : Oper} {dj : Nat} {b0 : Bool} (_hj : ops[j]? = some oj) (_hd : oj.dst = some dj) (_hl : topLook S E dj = some (.bool b0)) (h : XO C Q ops rest ((b0, []) :: S) E I loc) : XO C Q ops rest S E I loc := XO_push b0 h
theorem XO_pushF (j : Nat) {oj : Oper} {dj : Nat} {b0 : Bool} (_hj : ops[j]? = some oj) (_hd : oj.dst = some dj) (_hl : topLook S E dj = some (.bool b0)) (h : XO C Q ops rest ((!b0, []) :: S) E I loc) : XO C Q ops rest S E I loc := XO_push (!b0) h

/-! ### A slice that is read -/
def Ab (av : Option Addr) : Nat := match av with | some a => a.block | none => 0
def Ao (av : Option Addr) : Nat := match av with | some a => a.off | none => 0
structure Sl {α : Type} (I : HMap) (size : Nat) (enc : α → List Value) (av : Option Addr) (n c : Nat) (xs : List α) : Prop where
  len : xs.length = n
  cap : n ≤ c
  base : n ≠ 0 → av = some ⟨Ab av, Ao av, none⟩
  cells : ∀ k x, xs[k]? = some x → ∀ j u, (enc x)[j]? = some u → Cell I [] (Ab av) (Ao av + k * size + j) u
theorem Sl.nil {α : Type} {I : HMap} {size : Nat} {enc : α → List Value} {av : Option Addr} {c : Nat} : Sl I size enc av 0 c ([] : List α) :=
  ⟨rfl, Nat.zero_le _, fun h => absurd rfl h, fun k x h => by simp at h⟩
theorem Sl.mono {α : Type} {size : Nat} {enc : α → List Value} {av : Option Addr} {n c : Nat} {xs : List α} (h : Sl I size enc av n c xs) (hI : HLe I I') : Sl I' size enc av n c xs :=
  ⟨h.len, h.cap, h.base, fun k x hx j u hu => (h.cells k x hx j u hu).mono hI⟩
theorem Sl.get {α : Type} {size : Nat} {enc : α → List Value} {av : Option Addr} {n c : Nat} {xs : List α} (h : Sl I size enc av n c xs) {k j : Nat} {x : α} {u : Value} (hx : xs[k]? = some x) (hu : (enc x)[j]? = some u) : Cell I loc (Ab av) (Ao av + k * size + j) u :=
  (h.cells k x hx j u hu).any
theorem Sl.getA {α : Type} {size : Nat} {enc : α → List Value} {av : Option Addr} {n c : Nat} {xs : List α} (h : Sl I size enc av n c xs) {k : Nat} {x : α} (hx : xs[k]? = some x) : Cells I loc (Ab av) (Ao av + k * size) (enc x) :=
  fun j u hu => (h.cells k x hx j u hu).any
theorem ev_indexSl {α : Type} {t e size n c : Nat} {enc : α → List Value} {av : Option Addr} {xs : List α} {k : IntKind} {i : Int} (hx : evalS S E x = some (.slice av n c)) (hy : evalS S E y = some (.int k i)) (hT : SlT C.P t e size) (hS : Sl I size enc av n c xs)
    (hb : conj S = true → 0 ≤ i ∧ i < (n : Int)) : EvalOp C S E I loc ⟨dst, .indexAddr t x y, ty, pos, af, gd⟩ (.pointer (some ⟨Ab av, Ao av + i.toNat * size, none⟩)) :=
  .of (by intro c e; cases e) fun a w ha hg hc hw => by
    have hn : n ≠ 0 := by have := hb hc; omega
    exact (ev_indexAddr (C := C) (I := I) (loc := loc) (dst := dst) (ty := ty) (pos := pos) (af := af) (gd := gd) (b := Ab av) (off := Ao av) (by rw [← hS.base hn]; exact hx) hy hT hb).2 a w ha hg hc hw
theorem Cells.here {b : Nat} {vs : List Value} {t : TypeId} {fz : Nat × Nat} {l : Loc} : Cells I ((b, .cells vs.toArray t fz) :: l) b 0 vs := fun j u hu => .here (by rw [Nat.zero_add, lget_eq]; simpa using hu)
theorem Cells.there {b off : Nat} {vs : List Value} {p : Nat × Obj} {l : Loc} (h : Cells I l b off vs) : Cells I (p :: l) b off vs := fun j u hu => (h j u hu).there

theorem at_met' {M : Env → HMap → Loc → Prop} (E' : Env) (hM : M E' I loc) (hE : Sub E' E) : At C (Exit.then (Met C M) Q) .normal E I loc := at_met E' I loc hM hE (HLe.refl _) rfl
end
end Go.Kn
