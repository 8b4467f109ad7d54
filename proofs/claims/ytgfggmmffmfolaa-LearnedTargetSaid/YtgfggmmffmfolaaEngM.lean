/- Loops and cuts whose unturned slots are found by the text. Generic over the program; no condition. -/
import Derived.Test.YtgfggmmffmfolaaEngK
namespace Go.Kn
open Go
section
variable {C : Cx} {Q : Exit → Act → World → Prop} {E : Env} {I : HMap} {loc : Loc}
theorem X_cutT {x y : Code} (T : Env) (_hT : Sub T E) (M : Env → Loc → Env → HMap → Loc → Prop) (h1 : X C (Exit.then (Met C (M T loc)) Q) x E I loc) (h2 : ∀ E I loc', M T loc E I loc' → X C Q y E I loc') : X C Q (.seq x y) E I loc := X_cut (M T loc) h1 h2
theorem X_loopT {c : Code} (T : Env) (_hT : Sub T E) (J : Env → Loc → Nat → Env → HMap → Loc → Prop) (m0 : Nat) (E0 : Env) (I0 : HMap) (loc0 : Loc) (h0 : J T loc m0 E0 I0 loc0) (hE : Sub E0 E) (hI : HLe I0 I) (hl : loc0 = loc)
    (round : ∀ m E I loc', J T loc m E I loc' → X C (Exit.then (Met C fun E I loc' => ∃ m', m' < m ∧ J T loc m' E I loc') Q) c E I loc') : X C Q (.loop c) E I loc := X_loop (J T loc) m0 E0 I0 loc0 h0 hE hI hl round
end
/-- An array type: how many elements, their type and cells. -/
def ArT (P : Program) (t n e size : Nat) : Prop := P.underlying t = some (.array n e) ∧ ∃ i, P.info? e = some i ∧ i.size = size
def arTB (P : Program) (t n e size : Nat) : Bool := (match P.underlying t with | some (.array n' e') => n' == n && e' == e | _ => false) && (match P.info? e with | some i => i.size == size | none => false)
theorem ArT.of {P : Program} {t n e size : Nat} (h : arTB P t n e size = true) : ArT P t n e size := by
  simp only [arTB, Bool.and_eq_true] at h
  obtain ⟨h1, h2⟩ := h
  refine ⟨?_, ?_⟩
  · split at h1
    · rename_i n' e' h'; rw [Bool.and_eq_true, beq_iff_eq, beq_iff_eq] at h1; rw [h', h1.1, h1.2]
    · cases h1
  · split at h2
    · rename_i i hi; rw [beq_iff_eq] at h2; exact ⟨i, hi, h2⟩
    · cases h2
section
variable {C : Cx} {S : GS} {E : Env} {I I' : HMap} {loc : Loc} {dst : Option Nat} {ty : Nat} {pos : String} {af : Array Edge} {gd : Option (Nat × Bool)} {x y : Operand}
theorem ev_indexArr {t e size b off n : Nat} {k : IntKind} {i : Int} (hx : evalS S E x = some (.pointer (some ⟨b, off, none⟩))) (hy : evalS S E y = some (.int k i)) (hT : ArT C.P t n e size) (hb : conj S = true → 0 ≤ i ∧ i < (n : Int)) :
    EvalOp C S E I loc ⟨dst, .indexAddr t x y, ty, pos, af, gd⟩ (.pointer (some ⟨b, off + i.toNat * size, none⟩)) :=
  .of (by intro c e; cases e) fun a w ha hg hc _ => by
    obtain ⟨h1, j, h2, h3⟩ := hT
    simp only [execOp, evalS_sound ha hg hc hx, evalS_sound ha hg hc hy, Instr.indexAt, asIntOf, Instr.sureAddr, Sem.run_bind, Sem.run_pure, run_underlying h1, Result.andThen, if_pos (hb hc), run_sizeOf h2, add_plain, h3]
end
section
variable {C : Cx} {S : GS} {E : Env} {I I' : HMap} {loc : Loc} {dst : Option Nat} {ty : Nat} {pos : String} {af : Array Edge} {gd : Option (Nat × Bool)} {x y : Operand}
theorem ev_rem {t t' : TypeId} {k : IntKind} {a b : Int} (hx : evalS S E x = some (.int k a)) (hy : evalS S E y = some (.int k b)) (h : conj S = true → b ≠ 0) : EvalOp C S E I loc ⟨dst, .binOp .rem t x y t', ty, pos, af, gd⟩ (.int k (a.tmod b)) :=
  .of (by intro c e; cases e) fun a w ha hg hc _ => by
    simp only [execOp, evalS_sound ha hg hc hx, evalS_sound ha hg hc hy, Sem.run_bind, run_eqGuard_int, Result.andThen, binOp, ne_eq, not_true_eq_false, if_false, Op.intDiv, if_neg (h hc), Sem.run_pure]
theorem ev_quo {t t' : TypeId} {k : IntKind} {a b : Int} (hx : evalS S E x = some (.int k a)) (hy : evalS S E y = some (.int k b)) (h : conj S = true → b ≠ 0) : EvalOp C S E I loc ⟨dst, .binOp .quo t x y t', ty, pos, af, gd⟩ (.int k (k.wrap (a.tdiv b))) :=
  .of (by intro c e; cases e) fun a w ha hg hc _ => by
    simp only [execOp, evalS_sound ha hg hc hx, evalS_sound ha hg hc hy, Sem.run_bind, run_eqGuard_int, Result.andThen, binOp, ne_eq, not_true_eq_false, if_false, Op.intDiv, if_neg (h hc), Sem.run_pure]
/-- Types of numbers, for a conversion. -/
def CvT (P : Program) (s d : Nat) (k : IntKind) : Prop := (P.underlying s).isSome = true ∧ P.underlying d = some (.int k)
theorem ev_convI {s d : TypeId} {k k' : IntKind} {a : Int} (hx : evalS S E x = some (.int k' a)) (hT : CvT C.P s d k) : EvalOp C S E I loc ⟨dst, .convert s d x, ty, pos, af, gd⟩ (.int k (k.wrap a)) :=
  .of (by intro c e; cases e) fun a w ha hg hc _ => by
    obtain ⟨h1, h2⟩ := hT
    obtain ⟨u, h1⟩ := Option.isSome_iff_exists.1 h1
    simp only [execOp, evalS_sound ha hg hc hx, convert, Sem.run_bind, run_underlying h1, run_underlying h2, Result.andThen, Conv.intToInt, Sem.run_pure]
end
section
variable {C : Cx} {Q : Exit → Act → World → Prop} {E : Env} {I : HMap} {loc : Loc}
theorem X_drawC {id : Nat} {l : List Oper} (hm : C.P.follows .mixedOrders = true) (h : XD C (noP Q) l.toArray I loc l.length (Array.replicate l.length false) [] E I loc) : X C Q (.region id l.toArray true) E I loc := X_noP (X_drawS I loc hm h)
end
theorem subL_add {A B L : Loc} (h : SubL A B) : SubL A (L ++ B) := by
  induction L with
  | nil => exact h
  | cons x l ih => exact .drop ih
theorem Mem.there {I : HMap} {l : Loc} {b : Nat} {o : Obj} {p : Nat × Obj} (h : Mem I l b o) : Mem I (p :: l) b o := h.imp id (List.mem_cons_of_mem _)
theorem Mem.app {I : HMap} {A B : Loc} {b : Nat} {o : Obj} (h : Mem I B b o) : Mem I (A ++ B) b o := h.imp id (List.mem_append_right _)
theorem take_skip {A l l' : Loc} {b : Nat} {o : Obj} (h : Take l b o l') : Take (A ++ l) b o (A ++ l') := by
  induction A with
  | nil => exact h
  | cons x l ih => exact .there ih
theorem split_skip {A l L R : Loc} (h : Split l L R) : Split (A ++ l) L (A ++ R) := by
  induction h with
  | nil => exact .nil
  | cons h _ ih => exact .cons (take_skip h) ih
theorem split_cons {p : Nat × Obj} {l L R : Loc} (h : Split l L R) : Split (p :: l) L (p :: R) := split_skip (A := [p]) h
theorem perm_swap2 {A B R : Loc} : (A ++ (B ++ R)).Perm (B ++ (A ++ R)) := by
  rw [← List.append_assoc, ← List.append_assoc]
  exact List.Perm.append_right R List.perm_append_comm
theorem at_metP {C : Cx} {Q : Exit → Act → World → Prop} {E : Env} {I : HMap} {loc : Loc} {M : Env → HMap → Loc → Prop} (E' : Env) (loc' l : Loc) (hM : M E' I loc') (hE : Sub E' E) (hp : loc'.Perm l) (hs : SubL l loc) : At C (Exit.then (Met C M) Q) .normal E I loc :=
  fun _ _ ha hw => ⟨E', I, loc', hM, ha.sub hE, (hw.subL hs).perm (fun p => hp.mem_iff) ((hp.map (·.1)).nodup_iff.2 (hw.subL hs).nodup)⟩
theorem Cells.app {I : HMap} {A B : Loc} {b off : Nat} {vs : List Value} (h : Cells I B b off vs) : Cells I (A ++ B) b off vs := fun j u hu => (h j u hu).app
section
variable {C : Cx} {Q : Exit → Act → World → Prop} {E : Env} {I : HMap} {loc L R : Loc} {α : Type} {e size : Nat} {enc : α → List Value} {v : Value} {n : Nat} {xs : List α}
/-- What was made by append is read from now on. -/
theorem X_freezeO {c : Code} (hO : OwnS e size v n (xs.flatMap enc) L) (hs : ∀ x, (enc x).length = size) (hsz : 0 < size) (hsp : Split loc L R)
    (h : ∀ I', HLe I I' → ∀ av c0, v = .slice av n c0 → Sl I' size enc av n c0 xs → X C Q c E I' R) : X C Q c E I loc := fun a w ha hw =>
  let ⟨I', av, c0, h1, h2, h3, h4⟩ := OwnS.freeze (R := R) hO hs hsz (hw.unsplit hsp)
  h I' h1 av c0 h3 h4 a w ha h2
theorem XO_freezeO {ops : Array Oper} {rest : List Oper} {S : GS} (hO : OwnS e size v n (xs.flatMap enc) L) (hs : ∀ x, (enc x).length = size) (hsz : 0 < size) (hsp : Split loc L R)
    (h : ∀ I', HLe I I' → ∀ av c0, v = .slice av n c0 → Sl I' size enc av n c0 xs → XO C Q ops rest S E I' R) : XO C Q ops rest S E I loc := fun a w ha hg hw =>
  let ⟨I', av, c0, h1, h2, h3, h4⟩ := OwnS.freeze (R := R) hO hs hsz (hw.unsplit hsp)
  h I' h1 av c0 h3 h4 a w ha hg h2
end
theorem RetM.absS {α : Type} {P : Program} {f : FuncId} {args : List Value} {I : HMap} {L : Loc} {size : Nat} {enc : α → List Value} {xs : List α} {e : Int} (h : RetM P f args I L (SlE size enc xs e)) :
    RetM P f args I L (fun v I' L' => ∃ ys q, ys = xs ∧ q = e ∧ SlE size enc ys q v I' L') := h.mono fun _ _ _ _ p => ⟨_, _, rfl, rfl, p⟩
theorem SlE.bad {α : Type} {I : HMap} {size : Nat} {enc : α → List Value} {ys : List α} {e e' : Int} (he : e = e') (hy : ys = []) : SlE size enc ys e (.tuple #[.slice none 0 0, .int .i64 e']) I [] := by
  subst he; subst hy
  exact ⟨rfl, none, 0, rfl, .nil⟩
theorem SlE.good {α : Type} {I : HMap} {size : Nat} {enc : α → List Value} {ys zs : List α} {e e' : Int} {av : Option Addr} {q c : Nat} (he : e = e') (hy : ys = zs) (hS : Sl I size enc av q c zs) : SlE size enc ys e (.tuple #[.slice av q c, .int .i64 e']) I [] := by
  subst he; subst hy
  have hl := hS.len
  subst hl
  exact ⟨rfl, av, c, rfl, hS⟩
theorem SlRes.good {α : Type} {I : HMap} {size : Nat} {enc : α → List Value} {ys zs : List α} {av : Option Addr} {q c : Nat} (hy : ys = zs) (hS : Sl I size enc av q c zs) : SlRes size enc ys (.slice av q c) I [] := by
  subst hy
  have hl := hS.len
  subst hl
  exact ⟨rfl, av, c, rfl, hS⟩
theorem OwnS.new {e size b : Nat} : OwnS e size (.slice (some ⟨b, 0, none⟩) 0 0) 0 [] [(b, .cells #[] e (0, 0))] := ⟨by simp, .inr ⟨b, 0, #[], rfl, rfl, Nat.le_refl _, by decide, by simp, by simp⟩⟩
theorem any_take {α : Type} {xs : List α} {k : Nat} {x : α} (h : xs[k]? = some x) (p : α → Bool) : (xs.take (k + 1)).any p = ((xs.take k).any p || p x) := by
  rw [List.take_add_one, h, List.any_append]; simp
theorem take_all {α : Type} {xs : List α} {k n : Nat} (hn : xs.length = n) (h : n ≤ k) : xs.take k = xs := List.take_of_length_le (by omega)
end Go.Kn
