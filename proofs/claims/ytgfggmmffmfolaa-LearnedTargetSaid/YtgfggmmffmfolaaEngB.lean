/- The rules: code, regions, operations that compute or read. Generic over the program; no condition. -/
import Derived.Test.YtgfggmmffmfolaaEngA
namespace Go.Kn
open Go

structure Cx where
  P : Program
  r : Option Nat
  N : Nat
  D : List Deferred
  g : World
  H : HMap

def FR (r : Option Nat) : Fence := { fn := fun _ => True, depth := none, alive := false, round := r }
theorem callsFR {r : Option Nat} {n : Nat} {P : Program} {f : FuncId} {args : Array Value} {w : World} {R : Ending → World → Prop} : CallsIn (FR r) n P f args w R ↔ Calls P f args w R :=
  show CallsIn Fence.wide n P f args w R ↔ _ from callsIn_wide

def X (C : Cx) (Q : Exit → Act → World → Prop) (c : Code) (E : Env) (I : HMap) (loc : Loc) : Prop :=
  ∀ a w, Fits C.N C.D E a → St C.g I C.H loc w → c.wpIn (FR C.r) 0 C.P Q a w
def At (C : Cx) (Q : Exit → Act → World → Prop) (e : Exit) (E : Env) (I : HMap) (loc : Loc) : Prop :=
  ∀ a w, Fits C.N C.D E a → St C.g I C.H loc w → Q e a w
def XO (C : Cx) (Q : Exit → Act → World → Prop) (ops : Array Oper) (l : List Oper) (S : GS) (E : Env) (I : HMap) (loc : Loc) : Prop :=
  ∀ a w, Fits C.N C.D E a → FitsG S a → St C.g I C.H loc w → wpListIn (FR C.r) 0 C.P ops Q l a w
/-- A state that is met: what a cut or a loop's head asks. -/
def Met (C : Cx) (M : Env → HMap → Loc → Prop) : Act → World → Prop := fun a w => ∃ E I loc, M E I loc ∧ Fits C.N C.D E a ∧ St C.g I C.H loc w

section
variable {C : Cx} {Q : Exit → Act → World → Prop} {E E' : Env} {I I' : HMap} {loc loc' : Loc} {ops : Array Oper} {rest : List Oper} {S : GS}

theorem X_seq {x y : Code} (h : X C (Exit.then (y.wpIn (FR C.r) 0 C.P Q) Q) x E I loc) : X C Q (.seq x y) E I loc := fun a w ha hw => wpIn_seq (h a w ha hw)
theorem X_cut {x y : Code} (M : Env → HMap → Loc → Prop) (h1 : X C (Exit.then (Met C M) Q) x E I loc) (h2 : ∀ E I loc, M E I loc → X C Q y E I loc) : X C Q (.seq x y) E I loc := fun a w ha hw =>
  wpIn_seq (wpIn_mono (h1 a w ha hw) fun e a' w' hq => by
    cases e with
    | normal => obtain ⟨E', I', loc', hM, hf, hs⟩ := hq; exact h2 _ _ _ hM _ _ hf hs
    | _ => exact hq)
theorem at_then {y : Code} (h : X C Q y E I loc) : At C (Exit.then (y.wpIn (FR C.r) 0 C.P Q) Q) .normal E I loc := h
theorem at_met {M : Env → HMap → Loc → Prop} (E' : Env) (I' : HMap) (loc' : Loc) (hM : M E' I' loc') (hE : Sub E' E) (hI : HLe I' I) (hl : loc' = loc) : At C (Exit.then (Met C M) Q) .normal E I loc :=
  fun _ _ ha hw => ⟨E', I', loc', hM, ha.sub hE, hl ▸ hw.mono hI⟩
theorem X_skip (h : At C Q .normal E I loc) : X C Q .skip E I loc := fun a w ha hw => wpIn_skip (h a w ha hw)
theorem X_exit {id : Nat} (h : At C Q (.exit id) E I loc) : X C Q (.exit id) E I loc := fun a w ha hw => wpIn_exit (h a w ha hw)
theorem X_ret (h : At C Q .ret E I loc) : X C Q .ret E I loc := fun a w ha hw => wpIn_ret (h a w ha hw)
theorem X_block {id : Nat} {c : Code} (h : X C (Exit.inBlock id Q) c E I loc) : X C Q (.block id c) E I loc := fun a w ha hw => wpIn_block (h a w ha hw)
theorem X_cond {c : Operand} {x y : Code} {b : Bool} (hc : evalS [] E c = some (.bool b)) (ht : b = true → X C Q x E I loc) (hf : b = false → X C Q y E I loc) : X C Q (.cond c x y) E I loc := fun a w ha hw =>
  wpIn_cond_split (t := b) (evalS_sound (S := []) ha trivial rfl hc) (fun e => ht e a w ha hw) (fun e => hf e a w ha hw)
theorem X_sub (E' : Env) {c : Code} (h : X C Q c E' I loc) (hE : Sub E' E) : X C Q c E I loc := fun a w ha hw => h a w (ha.sub hE) hw
theorem X_le (I' : HMap) {c : Code} (h : X C Q c E I' loc) (hI : HLe I' I) : X C Q c E I loc := fun a w ha hw => h a w ha (hw.mono hI)
theorem X_freeze {c : Code} {b : Nat} {o : Obj} (ht : Take loc b o loc') (h : ∀ I', HLe I I' → I' b = some o → X C Q c E I' loc') : X C Q c E I loc := fun a w ha hw =>
  let ⟨h1, h2, h3⟩ := hw.freeze ht; h _ h2 h3 a w ha h1

/-- Exits through the frames of statements. -/
theorem at_block_n {id : Nat} (h : At C Q .normal E I loc) : At C (Exit.inBlock id Q) .normal E I loc := h
theorem at_block_r {id : Nat} (h : At C Q .ret E I loc) : At C (Exit.inBlock id Q) .ret E I loc := h
theorem at_block_hit {id : Nat} (h : At C Q .normal E I loc) : At C (Exit.inBlock id Q) (.exit id) E I loc := fun a w ha hw => by simp only [Exit.inBlock, if_true]; exact h a w ha hw
theorem at_block_miss {id j : Nat} (hne : Nat.beq j id = false) (h : At C Q (.exit j) E I loc) : At C (Exit.inBlock id Q) (.exit j) E I loc := fun a w ha hw => by
  have : j ≠ id := fun e => by subst e; rw [show Nat.beq j j = true from Nat.beq_refl j] at hne; cases hne
  simp only [Exit.inBlock, if_neg this]; exact h a w ha hw
theorem at_then_r {K : Act → World → Prop} (h : At C Q .ret E I loc) : At C (Exit.then K Q) .ret E I loc := h
theorem at_then_e {K : Act → World → Prop} {id : Nat} (h : At C Q (.exit id) E I loc) : At C (Exit.then K Q) (.exit id) E I loc := h

/-- A loop: J m at every head, m going down. -/
theorem X_loop {c : Code} (J : Nat → Env → HMap → Loc → Prop) (m0 : Nat) (E0 : Env) (I0 : HMap) (loc0 : Loc) (h0 : J m0 E0 I0 loc0) (hE : Sub E0 E) (hI : HLe I0 I) (hl : loc0 = loc)
    (round : ∀ m E I loc, J m E I loc → X C (Exit.then (Met C fun E I loc => ∃ m', m' < m ∧ J m' E I loc) Q) c E I loc) : X C Q (.loop c) E I loc := by
  classical
  intro a w ha hw
  let R : Nat → Act → World → Prop := fun m a w => ∃ E I loc, J m E I loc ∧ Fits C.N C.D E a ∧ St C.g I C.H loc w
  have least : ∀ a w, (∃ m, R m a w) → ∃ m, R m a w ∧ ∀ m', R m' a w → m ≤ m' := fun a w ⟨m, h⟩ => by
    induction m using Nat.strongRecOn with
    | _ m ih =>
      by_cases h' : ∃ m', m' < m ∧ R m' a w
      · obtain ⟨m', hlt, hm⟩ := h'; exact ih m' hlt hm
      · exact ⟨m, h, fun m' hm => Nat.le_of_not_lt fun hlt => h' ⟨m', hlt, hm⟩⟩
  let μ : Act → World → Nat := fun a w => if h : ∃ m, R m a w then Classical.choose (least a w h) else 0
  have hμ : ∀ a w, (∃ m, R m a w) → R (μ a w) a w := fun a w h => by simp only [μ, dif_pos h]; exact (Classical.choose_spec (least a w h)).1
  have hle : ∀ m a w, R m a w → μ a w ≤ m := fun m a w h => by
    have h' : ∃ m, R m a w := ⟨m, h⟩
    simp only [μ, dif_pos h']; exact (Classical.choose_spec (least a w h')).2 m h
  refine wpIn_loop (fun a w => ∃ m, R m a w) μ ⟨m0, E0, I0, loc0, h0, ha.sub hE, hl ▸ hw.mono hI⟩ fun a w h => ?_
  obtain ⟨E1, I1, loc1, hJ, hf, hs⟩ := hμ a w h
  refine wpIn_mono (round _ _ _ _ hJ a w hf hs) fun e a' w' hq => ?_
  cases e with
  | normal =>
    obtain ⟨E2, I2, loc2, ⟨m', hlt, hJ'⟩, hf', hs'⟩ := hq
    exact ⟨⟨m', E2, I2, loc2, hJ', hf', hs'⟩, Nat.lt_of_le_of_lt (hle m' a' w' ⟨E2, I2, loc2, hJ', hf', hs'⟩) hlt⟩
  | _ => exact hq

/-! ### Regions -/
theorem X_region {id : Nat} {l : List Oper} (h : XO C Q l.toArray l [] E I loc) : X C Q (.region id l.toArray false) E I loc := fun a w ha hw => wpIn_region_lit (h a w ha trivial hw)
theorem XO_nil (h : At C Q .normal E I loc) : XO C Q ops [] S E I loc := fun a w ha _ hw => wpListIn_nil (h a w ha hw)
theorem XO_pop {x : Bool × Env} (h : XO C Q ops rest S E I loc) : XO C Q ops rest (x :: S) E I loc := fun a w ha hg hw => h a w ha hg.2 hw
theorem XO_push (b : Bool) (h : XO C Q ops rest ((b, []) :: S) E I loc) : XO C Q ops rest S E I loc := fun a w ha hg hw => h a w ha ⟨(fun _ _ e => by cases e), hg⟩ hw

/-- What an operation comes to, the world left alone. -/
def EvalOp (C : Cx) (S : GS) (E : Env) (I : HMap) (loc : Loc) (o : Oper) (v : Value) : Prop :=
  (∀ c, o.op ≠ .defer c) ∧ ∀ a w, Fits C.N C.D E a → FitsG S a → conj S = true → St C.g I C.H loc w → (execOp a.eval o).run C.P w = .ok (.value v) w

theorem XO_val {o : Oper} {d : Nat} {v : Value} (hv : EvalOp C S E I loc o v) (hG : Guarded ops S E o) (hd : o.dst = some d) (hN : Nat.blt d C.N = true) (hf : freshS S E d = true)
    (h : XO C Q ops rest (putS S E d v) (putE S E d v) I loc) : XO C Q ops (o :: rest) S E I loc := by
  intro a w ha hg hw
  have hp := fits_putS ha hg hN hf v
  simp only [wpListIn]
  rw [hG.wanted ha hg]
  cases hc : conj S with
  | true =>
    rw [hc] at hp
    simp only [if_true, Oper.wpIn]
    refine ⟨fun _ _ => trivial, ?_⟩
    rw [Oper.semAt_eq _ _ _ hv.1, hv.2 a w ha hg hc hw, Oper.uponIn_value, hd]
    exact h _ _ hp.1 hp.2 hw
  | false =>
    rw [hc] at hp
    simp only [Bool.false_eq_true, if_false]
    refine ⟨fun _ _ => trivial, ?_⟩
    rw [hd]
    exact h _ _ hp.1 hp.2 hw

/-- 'a && b', 'a || b': the second operand's guard is shut. -/
theorem XO_and {tc ta d ty : Nat} {pos : String} {af : Array Edge} {gd : Option (Nat × Bool)} {b t x : Bool} {G : Env} (hb : b = t) (hc : evalS S E (.tmp tc) = some (.bool t)) (ha' : look G ta = some (.bool x))
    (hG : Guarded ops S E ⟨some d, .pick (.tmp tc) (.tmp ta) (.const (.bool false)), ty, pos, af, gd⟩) (hN : Nat.blt d C.N = true) (hf : freshS S E d = true)
    (h : XO C Q ops rest (putS S E d (.bool (t && x))) (putE S E d (.bool (t && x))) I loc) :
    XO C Q ops (⟨some d, .pick (.tmp tc) (.tmp ta) (.const (.bool false)), ty, pos, af, gd⟩ :: rest) ((b, G) :: S) E I loc := by
  intro a w ha hg hw
  have hp := fits_putS ha hg.2 hN hf (.bool (t && x))
  simp only [wpListIn]
  rw [hG.wanted ha hg.2]
  cases hcj : conj S with
  | true =>
    rw [hcj] at hp
    simp only [if_true, Oper.wpIn]
    refine ⟨fun _ _ => trivial, ?_⟩
    rw [Oper.semAt_eq _ _ _ (by intro c e; cases e)]
    have e1 : a.eval (.tmp tc) = .bool t := evalS_sound ha hg.2 hcj hc
    have e2 : t = true → a.eval (.tmp ta) = .bool x := fun e => by
      have := hg.1 _ _ ha'
      rw [hcj, hb, e] at this; exact this
    have : (execOp a.eval ⟨some d, .pick (.tmp tc) (.tmp ta) (.const (.bool false)), ty, pos, af, gd⟩).run C.P w = .ok (.value (.bool (t && x))) w := by
      simp only [execOp, e1, asBool, Sem.run_bind, Sem.run_pure, Result.andThen]
      cases t with
      | true => simp [e2 rfl]
      | false => simp [Act.eval]
    rw [this]
    exact h _ _ hp.1 hp.2 hw
  | false =>
    rw [hcj] at hp
    simp only [Bool.false_eq_true, if_false]
    refine ⟨fun _ _ => trivial, ?_⟩
    exact h _ _ hp.1 hp.2 hw
theorem XO_or {tc ta d ty : Nat} {pos : String} {af : Array Edge} {gd : Option (Nat × Bool)} {b t x : Bool} {G : Env} (hb : b = !t) (hc : evalS S E (.tmp tc) = some (.bool t)) (ha' : look G ta = some (.bool x))
    (hG : Guarded ops S E ⟨some d, .pick (.tmp tc) (.const (.bool true)) (.tmp ta), ty, pos, af, gd⟩) (hN : Nat.blt d C.N = true) (hf : freshS S E d = true)
    (h : XO C Q ops rest (putS S E d (.bool (t || x))) (putE S E d (.bool (t || x))) I loc) :
    XO C Q ops (⟨some d, .pick (.tmp tc) (.const (.bool true)) (.tmp ta), ty, pos, af, gd⟩ :: rest) ((b, G) :: S) E I loc := by
  intro a w ha hg hw
  have hp := fits_putS ha hg.2 hN hf (.bool (t || x))
  simp only [wpListIn]
  rw [hG.wanted ha hg.2]
  cases hcj : conj S with
  | true =>
    rw [hcj] at hp
    simp only [if_true, Oper.wpIn]
    refine ⟨fun _ _ => trivial, ?_⟩
    rw [Oper.semAt_eq _ _ _ (by intro c e; cases e)]
    have e1 : a.eval (.tmp tc) = .bool t := evalS_sound ha hg.2 hcj hc
    have e2 : t = false → a.eval (.tmp ta) = .bool x := fun e => by
      have := hg.1 _ _ ha'
      rw [hcj, hb, e] at this; exact this
    have : (execOp a.eval ⟨some d, .pick (.tmp tc) (.const (.bool true)) (.tmp ta), ty, pos, af, gd⟩).run C.P w = .ok (.value (.bool (t || x))) w := by
      simp only [execOp, e1, asBool, Sem.run_bind, Sem.run_pure, Result.andThen]
      cases t with
      | false => simp [e2 rfl]
      | true => simp [Act.eval]
    rw [this]
    exact h _ _ hp.1 hp.2 hw
  | false =>
    rw [hcj] at hp
    simp only [Bool.false_eq_true, if_false]
    refine ⟨fun _ _ => trivial, ?_⟩
    exact h _ _ hp.1 hp.2 hw

/-! ### Operations that compute -/
variable {dst : Option Tmp} {ty : TypeId} {pos : String} {af : Array Edge} {gd : Option (Nat × Bool)} {x y z : Operand}

theorem EvalOp.of {o : Oper} {v : Value} (h1 : ∀ c, o.op ≠ .defer c) (h2 : ∀ a w, Fits C.N C.D E a → FitsG S a → conj S = true → St C.g I C.H loc w → (execOp a.eval o).run C.P w = .ok (.value v) w) : EvalOp C S E I loc o v := ⟨h1, h2⟩

theorem ev_move {v : Value} (h : evalS S E x = some v) : EvalOp C S E I loc ⟨dst, .move x, ty, pos, af, gd⟩ v :=
  .of (by intro c e; cases e) fun a w ha hg hc _ => by simp only [execOp, evalS_sound ha hg hc h]; rfl
theorem ev_assign {v : Value} (h : evalS S E x = some v) : EvalOp C S E I loc ⟨dst, .assign x, ty, pos, af, gd⟩ v :=
  .of (by intro c e; cases e) fun a w ha hg hc _ => by simp only [execOp, evalS_sound ha hg hc h]; rfl
theorem ev_pick {t : Bool} {u v : Value} (h : evalS S E x = some (.bool t)) (h1 : evalS S E y = some u) (h2 : evalS S E z = some v) : EvalOp C S E I loc ⟨dst, .pick x y z, ty, pos, af, gd⟩ (if t then u else v) :=
  .of (by intro c e; cases e) fun a w ha hg hc _ => by
    simp only [execOp, evalS_sound ha hg hc h, evalS_sound ha hg hc h1, evalS_sound ha hg hc h2, asBool, Sem.run_bind, Sem.run_pure, Result.andThen]
theorem ev_pickb {t u v : Bool} (h : evalS S E x = some (.bool t)) (h1 : evalS S E y = some (.bool u)) (h2 : evalS S E z = some (.bool v)) : EvalOp C S E I loc ⟨dst, .pick x y z, ty, pos, af, gd⟩ (.bool (if t then u else v)) :=
  .of (by intro c e; cases e) fun a w ha hg hc _ => by
    simp only [execOp, evalS_sound ha hg hc h, evalS_sound ha hg hc h1, evalS_sound ha hg hc h2, asBool, Sem.run_bind, Sem.run_pure, Result.andThen]
    cases t <;> rfl
theorem ev_not {t : Bool} (h : evalS S E x = some (.bool t)) : EvalOp C S E I loc ⟨dst, .unOp .not ty x, ty, pos, af, gd⟩ (.bool (!t)) :=
  .of (by intro c e; cases e) fun a w ha hg hc _ => by
    simp only [execOp, evalS_sound ha hg hc h]; rfl

def cmpR : BinOp → Int → Int → Option Bool
  | .lss, a, b => some (decide (a < b))
  | .leq, a, b => some (decide (a ≤ b))
  | .gtr, a, b => some (decide (a > b))
  | .geq, a, b => some (decide (a ≥ b))
  | .eql, a, b => some (a == b)
  | .neq, a, b => some (a != b)
  | _, _, _ => none
def arR : BinOp → Int → Int → Option Int
  | .add, a, b => some (a + b)
  | .sub, a, b => some (a - b)
  | .mul, a, b => some (a * b)
  | _, _, _ => none
theorem run_eqGuard_int {P : Program} {w : World} {op : BinOp} {t : TypeId} {x y : Operand} {k k' : IntKind} {a b : Int} : (eqGuard op t x y (.int k a) (.int k' b)).run P w = .ok () w := by
  unfold eqGuard; cases op <;> rfl
theorem run_binOp_cmp {P : Program} {w : World} {op : BinOp} {t : TypeId} {k : IntKind} {a b : Int} {c : Bool} (h : cmpR op a b = some c) : (binOp op t (.int k a) (.int k b)).run P w = .ok (.bool c) w := by
  cases op <;> simp only [cmpR] at h <;> first | (cases h; simp only [binOp, ne_eq, not_true_eq_false, if_false, Op.intCmp]; rfl) | cases h
theorem run_binOp_ar {P : Program} {w : World} {op : BinOp} {t : TypeId} {k : IntKind} {a b c : Int} (h : arR op a b = some c) : (binOp op t (.int k a) (.int k b)).run P w = .ok (.int k (k.wrap c)) w := by
  cases op <;> simp only [arR] at h <;> first | (cases h; simp only [binOp, ne_eq, not_true_eq_false, if_false, Op.intArith]; rfl) | cases h
theorem ev_cmp {op : BinOp} {t t' : TypeId} {k : IntKind} {a b : Int} {c : Bool} (hx : evalS S E x = some (.int k a)) (hy : evalS S E y = some (.int k b)) (h : cmpR op a b = some c) : EvalOp C S E I loc ⟨dst, .binOp op t x y t', ty, pos, af, gd⟩ (.bool c) :=
  .of (by intro c e; cases e) fun a w ha hg hc _ => by
    simp only [execOp, evalS_sound ha hg hc hx, evalS_sound ha hg hc hy, Sem.run_bind, run_eqGuard_int, Result.andThen, run_binOp_cmp h, Sem.run_pure]
theorem ev_ar {op : BinOp} {t t' : TypeId} {k : IntKind} {a b c : Int} (hx : evalS S E x = some (.int k a)) (hy : evalS S E y = some (.int k b)) (h : arR op a b = some c) : EvalOp C S E I loc ⟨dst, .binOp op t x y t', ty, pos, af, gd⟩ (.int k (k.wrap c)) :=
  .of (by intro c e; cases e) fun a w ha hg hc _ => by
    simp only [execOp, evalS_sound ha hg hc hx, evalS_sound ha hg hc hy, Sem.run_bind, run_eqGuard_int, Result.andThen, run_binOp_ar h, Sem.run_pure]
theorem wrap_in {c : Int} (h : -9223372036854775808 ≤ c ∧ c ≤ 9223372036854775807) : IntKind.i64.wrap c = c := Go.IntWalk.i64_in c h
/-- Sums that fit. -/
theorem ev_arB {op : BinOp} {t t' : TypeId} {a b c : Int} (hx : evalS S E x = some (.int .i64 a)) (hy : evalS S E y = some (.int .i64 b)) (h : arR op a b = some c) (hB : conj S = true → -9223372036854775808 ≤ c ∧ c ≤ 9223372036854775807) :
    EvalOp C S E I loc ⟨dst, .binOp op t x y t', ty, pos, af, gd⟩ (.int .i64 c) :=
  .of (by intro c e; cases e) fun a w ha hg hc hw => by
    have := (ev_ar (C := C) (I := I) (loc := loc) (dst := dst) (ty := ty) (pos := pos) (af := af) (gd := gd) (t := t) (t' := t') hx hy h).2 a w ha hg hc hw
    rw [wrap_in (hB hc)] at this; exact this

def strEq (a b : ByteArray) : Bool := a.toList == b.toList
def strR : BinOp → ByteArray → ByteArray → Option Bool
  | .eql, a, b => some (strEq a b)
  | .neq, a, b => some (!strEq a b)
  | _, _, _ => none
theorem ev_str {op : BinOp} {t t' : TypeId} {a b : ByteArray} {c : Bool} (hx : evalS S E x = some (.string a)) (hy : evalS S E y = some (.string b)) (h : strR op a b = some c) : EvalOp C S E I loc ⟨dst, .binOp op t x y t', ty, pos, af, gd⟩ (.bool c) :=
  .of (by intro c e; cases e) fun a w ha hg hc _ => by
    have e1 : ∀ op x y t (a b : ByteArray), (eqGuard op t x y (.string a) (.string b)).run C.P w = .ok () w := by intros; unfold eqGuard; rename_i op _ _ _ _ _; cases op <;> rfl
    simp only [execOp, evalS_sound ha hg hc hx, evalS_sound ha hg hc hy, Sem.run_bind, e1, Result.andThen]
    cases op <;> simp only [strR] at h <;> first | (cases h; rfl) | cases h
theorem ev_extract {i : Nat} {vs : Array Value} {v : Value} (hx : evalS S E x = some (.tuple vs)) (h : vs[i]? = some v) : EvalOp C S E I loc ⟨dst, .extract x i, ty, pos, af, gd⟩ v :=
  .of (by intro c e; cases e) fun a w ha hg hc _ => by
    simp only [execOp, evalS_sound ha hg hc hx, Instr.extract, h, Sem.run_bind, Sem.run_pure, Result.andThen]
theorem ev_makeFunc {fn : Fn} {first captured : Array Operand} {vs us : List Value} (h1 : first.toList.map (evalS S E) = us.map some) (h2 : captured.toList.map (evalS S E) = vs.map some) :
    EvalOp C S E I loc ⟨dst, .makeFunc fn first captured, ty, pos, af, gd⟩ (.func fn us.toArray vs.toArray) :=
  .of (by intro c e; cases e) fun a w ha hg hc _ => by
    have key : ∀ (l : List Operand) (vs : List Value), l.map (evalS S E) = vs.map some → l.map a.eval = vs := by
      intro l
      induction l with
      | nil => intro vs h; cases vs <;> simp_all
      | cons o l ih =>
        intro vs h
        cases vs with
        | nil => simp at h
        | cons v vs =>
          simp only [List.map_cons, List.cons.injEq] at h ⊢
          exact ⟨evalS_sound ha hg hc h.1, ih _ h.2⟩
    have e1 : first.map a.eval = us.toArray := by rw [← key _ _ h1]; cases first; simp
    have e2 : captured.map a.eval = vs.toArray := by rw [← key _ _ h2]; cases captured; simp
    simp only [execOp, e1, e2, Instr.makeFunc, Sem.run_bind, Sem.run_pure, Result.andThen]

/-! ### Places -/
/-- What the tables say: a struct's field lies at fo, and has cells. -/
def FieldAt (P : Program) (s f fo : Nat) : Prop := ∃ fs x i, P.underlying s = some (.struct fs) ∧ fs[f]? = some x ∧ P.info? x.type = some i ∧ i.size ≠ 0 ∧ x.offset = fo
def fieldAtB (P : Program) (s f fo : Nat) : Bool := match P.underlying s with
  | some (.struct fs) => match fs[f]? with
    | some x => match P.info? x.type with
      | some i => i.size != 0 && x.offset == fo
      | none => false
    | none => false
  | _ => false
theorem FieldAt.of {P : Program} {s f fo : Nat} (h : fieldAtB P s f fo = true) : FieldAt P s f fo := by
  unfold fieldAtB at h
  split at h
  · rename_i fs hs
    split at h
    · rename_i x hx
      split at h
      · rename_i i hi
        simp only [Bool.and_eq_true, bne_iff_ne, beq_iff_eq] at h
        exact ⟨fs, x, i, hs, hx, hi, h.1, h.2⟩
      · cases h
    · cases h
  · cases h
theorem run_typeInfo {P : Program} {w : World} {t : TypeId} {i : TypeInfo} (h : P.info? t = some i) : (typeInfo t).run P w = .ok i w := by
  simp only [typeInfo, Sem.run_bind, run_program, Result.andThen]
  rw [show P.toTables.info? t = some i from h]; rfl
theorem run_sizeOf {P : Program} {w : World} {t : TypeId} {i : TypeInfo} (h : P.info? t = some i) : (sizeOf t).run P w = .ok i.size w := by
  simp only [sizeOf, Sem.run_bind, run_typeInfo h, Result.andThen, Sem.run_pure]
theorem add_plain (b off n : Nat) : (⟨b, off, none⟩ : Addr).add n = ⟨b, off + n, none⟩ := by unfold Addr.add; split <;> simp_all

theorem ev_fieldAddr {s f fo b off : Nat} (hx : evalS S E x = some (.pointer (some ⟨b, off, none⟩))) (hF : FieldAt C.P s f fo) : EvalOp C S E I loc ⟨dst, .fieldAddr s x f, ty, pos, af, gd⟩ (.pointer (some ⟨b, off + fo, none⟩)) :=
  .of (by intro c e; cases e) fun a w ha hg hc _ => by
    obtain ⟨fs, fx, i, h1, h2, h3, h4, h5⟩ := hF
    simp only [execOp, evalS_sound ha hg hc hx, Instr.fieldAt, Sem.run_bind, run_underlying h1, Result.andThen, h2, Instr.sureAddr, Sem.run_pure, fieldPlace, run_sizeOf h3, if_neg h4, add_plain, h5]

/-- A slice type: its elements' type, and how many cells one has. -/
def SlT (P : Program) (t e size : Nat) : Prop := P.underlying t = some (.slice e) ∧ ∃ i, P.info? e = some i ∧ i.size = size
def slTB (P : Program) (t e size : Nat) : Bool := (match P.underlying t with | some (.slice e') => e' == e | _ => false) && (match P.info? e with | some i => i.size == size | none => false)
theorem SlT.of {P : Program} {t e size : Nat} (h : slTB P t e size = true) : SlT P t e size := by
  simp only [slTB, Bool.and_eq_true] at h
  obtain ⟨h1, h2⟩ := h
  refine ⟨?_, ?_⟩
  · split at h1
    · rename_i e' h'; rw [beq_iff_eq] at h1; rw [h', h1]
    · cases h1
  · split at h2
    · rename_i i hi; rw [beq_iff_eq] at h2; exact ⟨i, hi, h2⟩
    · cases h2
theorem ev_indexAddr {t e size b off n c : Nat} {k : IntKind} {i : Int} (hx : evalS S E x = some (.slice (some ⟨b, off, none⟩) n c)) (hy : evalS S E y = some (.int k i)) (hT : SlT C.P t e size) (hb : conj S = true → 0 ≤ i ∧ i < (n : Int)) :
    EvalOp C S E I loc ⟨dst, .indexAddr t x y, ty, pos, af, gd⟩ (.pointer (some ⟨b, off + i.toNat * size, none⟩)) :=
  .of (by intro c e; cases e) fun a w ha hg hc _ => by
    obtain ⟨h1, j, h2, h3⟩ := hT
    simp only [execOp, evalS_sound ha hg hc hx, evalS_sound ha hg hc hy, Instr.indexAt, asIntOf, Sem.run_bind, Sem.run_pure, run_underlying h1, Result.andThen, if_pos (hb hc), run_sizeOf h2, add_plain, h3]

/-! ### Memory -/
def Mem (I : HMap) (loc : Loc) (b : Nat) (o : Obj) : Prop := I b = some o ∨ (b, o) ∈ loc
def Cell (I : HMap) (loc : Loc) (b off : Nat) (v : Value) : Prop := ∃ cs t fz, Mem I loc b (.cells cs t fz) ∧ cs[off]? = some v
theorem Mem.heap {b : Nat} {o : Obj} {g : World} {H : HMap} {w : World} (h : Mem I loc b o) (hw : St g I H loc w) : w.heap[b]? = some o := h.elim (hw.imm b o) (hw.own b o)
theorem Cell.get {b off : Nat} {v : Value} {g : World} {H : HMap} {w : World} (h : Cell I loc b off v) (hw : St g I H loc w) : w.cell? ⟨b, off, none⟩ = some v := by
  obtain ⟨cs, t, fz, hm, hv⟩ := h
  simp [World.cell?, hm.heap hw, hv]
/-- A list's element, by recursion (so that it is evaluated as it is asked). -/
def lget : List Value → Nat → Option Value
  | [], _ => none
  | v :: _, 0 => some v
  | _ :: l, n + 1 => lget l n
theorem lget_eq : ∀ (l : List Value) (i : Nat), lget l i = l[i]?
  | [], i => by simp [lget]
  | p :: l, 0 => rfl
  | p :: l, n + 1 => by simp [lget, lget_eq l n]
theorem Cell.here {b off : Nat} {v : Value} {cs : Array Value} {t : TypeId} {fz : Nat × Nat} {l : Loc} (h : lget cs.toList off = some v) : Cell I ((b, .cells cs t fz) :: l) b off v := ⟨cs, t, fz, .inr (List.mem_cons_self ..), by rw [lget_eq] at h; simpa using h⟩
theorem Cell.there {b off : Nat} {v : Value} {p : Nat × Obj} {l : Loc} (h : Cell I l b off v) : Cell I (p :: l) b off v := by
  obtain ⟨cs, t, fz, hm, hv⟩ := h
  exact ⟨cs, t, fz, hm.imp id (List.mem_cons_of_mem _), hv⟩
theorem Cell.imm {b off : Nat} {v : Value} {cs : Array Value} {t : TypeId} {fz : Nat × Nat} {l : Loc} (h : I b = some (.cells cs t fz)) (hv : lget cs.toList off = some v) : Cell I l b off v := ⟨cs, t, fz, .inl h, by rw [lget_eq] at hv; simpa using hv⟩
theorem Cell.mono {b off : Nat} {v : Value} (h : Cell I loc b off v) (hI : HLe I I') : Cell I' loc b off v := by
  obtain ⟨cs, t, fz, hm, hv⟩ := h
  exact ⟨cs, t, fz, hm.imp (hI _ _) id, hv⟩
theorem Cell.any {b off : Nat} {v : Value} (h : Cell I [] b off v) : Cell I loc b off v := by
  obtain ⟨cs, t, fz, hm, hv⟩ := h
  exact ⟨cs, t, fz, hm.elim .inl (fun h => by cases h), hv⟩

def ScT (P : Program) (t : Nat) : Prop := ∃ d, P.underlying t = some d ∧ (match d with | .struct _ | .array _ _ => False | _ => True)
def scTB (P : Program) (t : Nat) : Bool := match P.underlying t with
  | some (.struct _) | some (.array _ _) | none => false
  | _ => true
theorem ScT.of {P : Program} {t : Nat} (h : scTB P t = true) : ScT P t := by
  unfold scTB at h
  split at h
  · cases h
  · cases h
  · cases h
  · rename_i d _ _ _
    cases e : P.underlying t with
    | none => simp_all
    | some d => exact ⟨d, e, by cases d <;> simp_all⟩
def AgT (P : Program) (t n : Nat) : Prop := (∃ d, P.underlying t = some d ∧ (match d with | .struct _ | .array _ _ => True | _ => False)) ∧ ∃ i, P.info? t = some i ∧ i.size = n
def agTB (P : Program) (t n : Nat) : Bool := (match P.underlying t with | some (.struct _) | some (.array _ _) => true | _ => false) && (match P.info? t with | some i => i.size == n | none => false)
theorem AgT.of {P : Program} {t n : Nat} (h : agTB P t n = true) : AgT P t n := by
  simp only [agTB, Bool.and_eq_true] at h
  obtain ⟨h1, h2⟩ := h
  refine ⟨?_, ?_⟩
  · split at h1 <;> first | (rename_i h; exact ⟨_, h, trivial⟩) | cases h1
  · split at h2
    · rename_i i hi; rw [beq_iff_eq] at h2; exact ⟨i, hi, h2⟩
    · cases h2
theorem run_isAgg_sc {P : Program} {w : World} {t : TypeId} (h : ScT P t) : (isAgg t).run P w = .ok false w := by
  obtain ⟨d, h1, h2⟩ := h
  simp only [isAgg, Sem.run_bind, run_underlying h1, Result.andThen]
  cases d <;> first | rfl | exact h2.elim
theorem run_isAgg_ag {P : Program} {w : World} {t n : Nat} (h : AgT P t n) : (isAgg t).run P w = .ok true w := by
  obtain ⟨⟨d, h1, h2⟩, _⟩ := h
  simp only [isAgg, Sem.run_bind, run_underlying h1, Result.andThen]
  cases d <;> first | rfl | exact h2.elim
theorem ev_load {t b off : Nat} {v : Value} (hx : evalS S E x = some (.pointer (some ⟨b, off, none⟩))) (hT : ScT C.P t) (hv : conj S = true → Cell I loc b off v) : EvalOp C S E I loc ⟨dst, .load t x, ty, pos, af, gd⟩ v :=
  .of (by intro c e; cases e) fun a w ha hg hc hw => by
    simp only [execOp, evalS_sound ha hg hc hx, Instr.loadAt, Instr.sureAddr, Sem.run_bind, Sem.run_pure, Result.andThen, loadVar, run_isAgg_sc hT, Bool.false_eq_true, if_false, run_load, (hv hc).get hw]
/-- Several cells on end. -/
def Cells (I : HMap) (loc : Loc) (b off : Nat) (vs : List Value) : Prop := ∀ j v, vs[j]? = some v → Cell I loc b (off + j) v
theorem ev_loadA {t n b off : Nat} {vs : List Value} (hx : evalS S E x = some (.pointer (some ⟨b, off, none⟩))) (hT : AgT C.P t n) (hv : conj S = true → Cells I loc b off vs) (hn : vs.length = n) : EvalOp C S E I loc ⟨dst, .load t x, ty, pos, af, gd⟩ (.agg vs.toArray) :=
  .of (by intro c e; cases e) fun a w ha hg hc hw => by
    have h1 : (loadCells ⟨b, off, none⟩ n).run C.P w = .ok vs.toArray w := by
      rw [← hn]
      exact run_loadCells_list w _ _ fun j v hj => by rw [add_plain]; exact (hv hc j v hj).get hw
    have hT' := hT
    obtain ⟨_, i, h2, h3⟩ := hT'
    simp only [execOp, evalS_sound ha hg hc hx, Instr.loadAt, Instr.sureAddr, Sem.run_bind, Sem.run_pure, Result.andThen, loadVar, run_isAgg_ag hT, if_true, run_sizeOf h2, h3, h1]
theorem ev_lenS {t n c e size : Nat} {av : Option Addr} (hx : evalS S E x = some (.slice av n c)) (hT : SlT C.P t e size) : EvalOp C S E I loc ⟨dst, .call ⟨.builtin .len, #[x], #[t]⟩, ty, pos, af, gd⟩ (.int .i64 n) :=
  .of (by intro c e; cases e) fun a w ha hg hc _ => by
    simp only [execOp, resolve, List.map_toArray, List.map_cons, List.map_nil, evalS_sound ha hg hc hx, Sem.run_bind, Sem.run_pure, Result.andThen, invoke, builtin, Builtin.len_, List.getElem?_toArray, List.getElem?_cons_zero, run_underlying hT.1, goInt]
theorem ev_lenStr {t : Nat} {s : ByteArray} (hx : evalS S E x = some (.string s)) (hT : C.P.underlying t = some .string) : EvalOp C S E I loc ⟨dst, .call ⟨.builtin .len, #[x], #[t]⟩, ty, pos, af, gd⟩ (.int .i64 s.size) :=
  .of (by intro c e; cases e) fun a w ha hg hc _ => by
    simp only [execOp, resolve, List.map_toArray, List.map_cons, List.map_nil, evalS_sound ha hg hc hx, Sem.run_bind, Sem.run_pure, Result.andThen, invoke, builtin, Builtin.len_, List.getElem?_toArray, List.getElem?_cons_zero, run_underlying hT, goInt]
end

/-! ### A function's entry and its end -/
theorem enter {P : Program} {f : FuncId} {fn : Func} {c : Code} {args : List Value} {R : Ending → World → Prop} {g : World} {I H : HMap} {loc : Loc} {w : World} (hf : P.funcs[f]? = some fn) (hb : fn.body = some c) {N : Nat} (hN : fn.ntmps = N)
    (hlen : Nat.ble args.length N = true) (hw : St g I H loc w) (h : X ⟨P, none, N, [], g, H⟩ (bodyPost P fn R) c (env0 0 args) I loc) : Calls P f args.toArray w R := by
  refine calls_of_wp hf hb ?_
  rw [hN]
  exact wpIn_wide.1 (h _ w (fits_init args N (Nat.le_of_ble_eq_true hlen)) hw)

section
variable {P : Program} {fn : Func} {R : Ending → World → Prop} {N : Nat} {g : World} {I H : HMap} {loc : Loc} {E : Env} {r : Option Nat}
theorem at_ret0 (hr : fn.results = #[]) (h : ∀ w, St g I H loc w → R (.returned (.tuple #[])) w) : At ⟨P, r, N, [], g, H⟩ (bodyPost P fn R) .ret E I loc := fun a w ha hw =>
  ⟨ha.defers, _, by simp [results, hr], h w hw⟩
theorem at_ret1 {t : Nat} {v : Value} (hr : fn.results = #[.tmp t]) (hv : look E t = some v) (h : ∀ w, St g I H loc w → R (.returned v) w) : At ⟨P, r, N, [], g, H⟩ (bodyPost P fn R) .ret E I loc := fun a w ha hw =>
  ⟨ha.defers, v, by have e1 := ha.env _ _ hv; rw [Array.getD_eq_getD_getElem?] at e1; simp only [results, hr]; simp [List.mapM_cons, e1], h w hw⟩
theorem at_ret2 {t u : Nat} {v v' : Value} (hr : fn.results = #[.tmp t, .tmp u]) (hv : look E t = some v) (hv' : look E u = some v') (h : ∀ w, St g I H loc w → R (.returned (.tuple #[v, v'])) w) : At ⟨P, r, N, [], g, H⟩ (bodyPost P fn R) .ret E I loc := fun a w ha hw =>
  ⟨ha.defers, _, by have e1 := ha.env _ _ hv; have e2 := ha.env _ _ hv'; rw [Array.getD_eq_getD_getElem?] at e1 e2; simp only [results, hr]; simp [List.mapM_cons, e1, e2], h w hw⟩
theorem at_ret3 {t u s : Nat} {v v' v'' : Value} (hr : fn.results = #[.tmp t, .tmp u, .tmp s]) (hv : look E t = some v) (hv' : look E u = some v') (hv'' : look E s = some v'') (h : ∀ w, St g I H loc w → R (.returned (.tuple #[v, v', v''])) w) : At ⟨P, r, N, [], g, H⟩ (bodyPost P fn R) .ret E I loc := fun a w ha hw =>
  ⟨ha.defers, _, by have e1 := ha.env _ _ hv; have e2 := ha.env _ _ hv'; have e3 := ha.env _ _ hv''; rw [Array.getD_eq_getD_getElem?] at e1 e2 e3; simp only [results, hr]; simp [List.mapM_cons, e1, e2, e3], h w hw⟩
end
end Go.Kn
