/- Regions that draw their order: quiet ones by one walk in the order of the text; others by taking reads first. Generic over the program; no condition. -/
import Derived.Test.YtgfggmmffmfolaaEngD
import Derived.OrdersIn
import Derived.OrdersHeld
namespace Go.Kn
open Go

section quiet
variable {P : Program} {ops : Array Oper} {md : Region.Mode} {K0 : World → Prop} {r : Option Nat}
theorem wpIn_of_quiet {o : Oper} {a : Act} {K : Act → Prop} {K' : Act → World → Prop} {Q' : Exit → Act → World → Prop} {w : World} (hw : K0 w) (h : ∀ a w', K0 w' → K a → K' a w') (hh : o.quiet P a K0 K) : o.wpIn (FR r) 0 P a w K' Q' := by
  obtain ⟨v, h1, h2⟩ := hh
  have h3 := h1 w hw
  have hdf : ∀ c, o.op ≠ .defer c := fun c e => by
    unfold Oper.quietAt at h3
    have hx : execOp a.eval o = (do pure (.defer (← resolve a.eval c o.type))) := by simp only [execOp, e]
    rw [hx] at h3
    simp only [Sem.run_bind] at h3
    generalize (resolve a.eval c o.type).run P w = q at h3
    cases q <;> simp [Result.andThen, Oper.quietUpon] at h3
  refine ⟨fun _ _ => trivial, ?_⟩
  rw [Oper.semAt_eq _ _ _ hdf]
  unfold Oper.quietAt at h3
  generalize (execOp a.eval o).run P w = q at *
  cases q with
  | ok n w' =>
    cases n <;> simp only [Oper.quietUpon] at h3 <;> simp only [Oper.uponIn]
    case value u =>
      obtain ⟨e1, e2⟩ := h3
      rw [e1, e2]
      exact h _ _ hw h2
    case skip =>
      obtain ⟨e1, e2⟩ := h3
      rw [e1, ← e2]
      exact h _ _ hw h2
    case enter f args =>
      obtain ⟨e1, hc⟩ := h3
      rw [e1]
      exact ⟨by simp [FR], callsFR.2 (hc.mono fun e w'' ⟨he, hw''⟩ => by subst he; exact h _ _ hw'' h2)⟩
  | halt x w' => simp only [Oper.quietUpon] at h3
theorem wpOpIn_of_qOp {i : Nat} {a : Act} {K : Act → Prop} {K' : Act → World → Prop} {Q' : Exit → Act → World → Prop} {w : World} (hC : K0 w) (h : ∀ a w', K0 w' → K a → K' a w') (hh : qOp P ops K0 i K a) : wpOpIn (FR r) 0 P ops Q' i K' a w := by
  unfold qOp at hh
  unfold wpOpIn
  split
  · rename_i ho; simp only [ho] at hh; exact h _ _ hC hh
  · rename_i o ho
    simp only [ho] at hh
    split
    · rename_i hw; simp only [hw, if_true] at hh; exact wpIn_of_quiet hC h hh
    · rename_i hw; simp only [hw] at hh; exact ⟨fun _ _ => trivial, h _ _ hC hh⟩
theorem wpAnyIn_of_quiet {Q : Act → Prop} {Q' : Exit → Act → World → Prop} (hQ : ∀ a w, K0 w → Q a → Q' .normal a w) : ∀ (fuel : Nat) (listed : Array Bool) (a : Act) (w : World), K0 w →
    wpAnyQ P md ops K0 Q fuel listed a → wpAnyIn (FR r) 0 P md ops Q' fuel listed a w
  | 0, _, _, _, hw, h => ⟨h.1, hQ _ _ hw h.2⟩
  | fuel + 1, _, _, _, hw, h => ⟨fun h0 => hQ _ _ hw (h.1 h0), fun i hi => wpOpIn_of_qOp hw (fun a' w' hw' => wpAnyIn_of_quiet hQ fuel _ a' w' hw') (h.2 i hi)⟩
theorem wpIn_region_quiet {id : Nat} {Q : Exit → Act → World → Prop} {a : Act} {w : World} (hm : P.follows .mixedOrders = true) (hB : Region.lexB .any ops = true) (hC : K0 { w with drawn := w.drawn + 1 })
    (h : wpQuiet P ops K0 (fun a' => ∀ w', K0 w' → Q .normal a' w') ops.toList a) : (Code.region id ops true).wpIn (FR r) 0 P Q a w := by
  simp only [Region.lexB, Bool.and_eq_true] at hB
  refine wpIn_region_any hm (wpAnyIn_of_quiet (Q := fun a' => ∀ w', K0 w' → Q .normal a' w') (fun _ w' hw' h => h w' hw') _ _ _ _ hC ?_)
  have := wpAnyQ_lex (C := K0) (md := .any) hB.1 ops.toList 0 (Array.replicate ops.size false) a (by simp) (by simpa using hB.2) h
  simpa using this
end quiet

section
variable {C : Cx} {Q : Exit → Act → World → Prop} {E E' : Env} {I I' : HMap} {loc loc' L R : Loc} {ops : Array Oper} {rest : List Oper} {S : GS}
variable {dst : Option Tmp} {d : Nat} {ty : TypeId} {pos : String} {af : Array Edge} {gd : Option (Nat × Bool)} {x y z : Operand}

def XQ (C : Cx) (Q : Exit → Act → World → Prop) (ops : Array Oper) (l : List Oper) (S : GS) (E : Env) (I : HMap) (loc : Loc) : Prop :=
  ∀ a, Fits C.N C.D E a → FitsG S a → wpQuiet C.P ops (fun w => St C.g I C.H loc w) (fun a' => ∀ w', St C.g I C.H loc w' → Q .normal a' w') l a
theorem X_draw {id : Nat} {l : List Oper} (hm : C.P.follows .mixedOrders = true) (hB : Region.lexB .any l.toArray = true) (h : XQ C Q l.toArray l [] E I loc) : X C Q (.region id l.toArray true) E I loc := fun a w ha hw =>
  wpIn_region_quiet hm hB hw.drew (by simpa using h a ha trivial)
theorem XQ_nil (h : At C Q .normal E I loc) : XQ C Q ops [] S E I loc := fun a ha _ => wpQuiet_nil fun w hw => h a w ha hw
theorem XQ_pop {x : Bool × Env} (h : XQ C Q ops rest S E I loc) : XQ C Q ops rest (x :: S) E I loc := fun a ha hg => h a ha hg.2
theorem XQ_push (b : Bool) (h : XQ C Q ops rest ((b, []) :: S) E I loc) : XQ C Q ops rest S E I loc := fun a ha hg => h a ha ⟨(fun _ _ e => by cases e), hg⟩
theorem XQ_pushT (j : Nat) {oj : Oper} {dj : Nat} {b0 : Bool} (_hj : ops[j]? = some oj) (_hd : oj.dst = some dj) (_hl : topLook S E dj = some (.bool b0)) (h : XQ C Q ops rest ((b0, []) :: S) E I loc) : XQ C Q ops rest S E I loc := XQ_push b0 h
theorem XQ_pushF (j : Nat) {oj : Oper} {dj : Nat} {b0 : Bool} (_hj : ops[j]? = some oj) (_hd : oj.dst = some dj) (_hl : topLook S E dj = some (.bool b0)) (h : XQ C Q ops rest ((!b0, []) :: S) E I loc) : XQ C Q ops rest S E I loc := XQ_push (!b0) h
theorem XQ_step {o : Oper} {v : Value} (hv : ∀ a, Fits C.N C.D E a → FitsG S a → conj S = true → ∀ w, St C.g I C.H loc w → o.quietAt C.P a (fun w => St C.g I C.H loc w) w v) (hG : Guarded ops S E o) (hd : o.dst = some d) (hN : Nat.blt d C.N = true) (hf : freshS S E d = true)
    (h : XQ C Q ops rest (putS S E d v) (putE S E d v) I loc) : XQ C Q ops (o :: rest) S E I loc := by
  intro a ha hg
  have hp := fits_putS ha hg hN hf v
  simp only [wpQuiet]
  rw [hG.wanted ha hg]
  cases hc : conj S with
  | true =>
    rw [hc] at hp
    simp only [if_true]
    exact ⟨v, hv a ha hg hc, by rw [hd]; exact h _ hp.1 hp.2⟩
  | false =>
    rw [hc] at hp
    simp only [Bool.false_eq_true, if_false]
    rw [hd]; exact h _ hp.1 hp.2
theorem XQ_val {o : Oper} {v : Value} (hv : EvalOp C S E I loc o v) (hG : Guarded ops S E o) (hd : o.dst = some d) (hN : Nat.blt d C.N = true) (hf : freshS S E d = true)
    (h : XQ C Q ops rest (putS S E d v) (putE S E d v) I loc) : XQ C Q ops (o :: rest) S E I loc :=
  XQ_step (fun a ha hg hc w hw => by unfold Oper.quietAt; rw [hv.2 a w ha hg hc hw]; exact ⟨rfl, rfl⟩) hG hd hN hf h
theorem XQ_callV {f : FuncId} {cap : List Value} {l : List Operand} {vs : List Value} {tys : Array TypeId} {cal : Operand} {v : Value}
    (he : evalS S E cal = some (.func (.func f) #[] cap.toArray)) (hl : l.map (evalS S E) = vs.map some) (hF : Fun C.P f) (hc : conj S = true → RetV C.P f (vs ++ cap) I v)
    (hG : Guarded ops S E ⟨some d, .call ⟨.value cal, l.toArray, tys⟩, ty, pos, af, gd⟩) (hN : Nat.blt d C.N = true) (hf : freshS S E d = true)
    (h : XQ C Q ops rest (putS S E d v) (putE S E d v) I loc) :
    XQ C Q ops (⟨some d, .call ⟨.value cal, l.toArray, tys⟩, ty, pos, af, gd⟩ :: rest) S E I loc :=
  XQ_step (fun a ha hg hcj w hw => by
    unfold Oper.quietAt
    rw [run_call (evalS_sound ha hg hcj he) (evals_sound ha hg hcj hl) hF]
    exact ⟨rfl, (hc hcj _ _ _ hw.hide).mono fun e w' ⟨e1, e2⟩ => ⟨e1, hw.unhide e2⟩⟩) hG rfl hN hf h
theorem XQ_and {tc ta : Nat} {b t x : Bool} {G : Env} (hb : b = t) (hc : evalS S E (.tmp tc) = some (.bool t)) (ha' : look G ta = some (.bool x))
    (hG : Guarded ops S E ⟨some d, .pick (.tmp tc) (.tmp ta) (.const (.bool false)), ty, pos, af, gd⟩) (hN : Nat.blt d C.N = true) (hf : freshS S E d = true)
    (h : XQ C Q ops rest (putS S E d (.bool (t && x))) (putE S E d (.bool (t && x))) I loc) :
    XQ C Q ops (⟨some d, .pick (.tmp tc) (.tmp ta) (.const (.bool false)), ty, pos, af, gd⟩ :: rest) ((b, G) :: S) E I loc := by
  intro a ha hg
  have hp := fits_putS ha hg.2 hN hf (.bool (t && x))
  simp only [wpQuiet]
  rw [hG.wanted ha hg.2]
  cases hcj : conj S with
  | true =>
    rw [hcj] at hp
    simp only [if_true]
    have e1 : a.eval (.tmp tc) = .bool t := evalS_sound ha hg.2 hcj hc
    have e2 : t = true → a.eval (.tmp ta) = .bool x := fun e => by
      have := hg.1 _ _ ha'
      rw [hcj, hb, e] at this; exact this
    refine ⟨.bool (t && x), fun w hw => ?_, h _ hp.1 hp.2⟩
    unfold Oper.quietAt
    simp only [execOp, e1, asBool, Sem.run_bind, Sem.run_pure, Result.andThen]
    cases t with
    | true => simp only [if_true, e2 rfl]; exact ⟨rfl, rfl⟩
    | false => exact ⟨rfl, rfl⟩
  | false =>
    rw [hcj] at hp
    simp only [Bool.false_eq_true, if_false]
    exact h _ hp.1 hp.2
theorem XQ_or {tc ta : Nat} {b t x : Bool} {G : Env} (hb : b = !t) (hc : evalS S E (.tmp tc) = some (.bool t)) (ha' : look G ta = some (.bool x))
    (hG : Guarded ops S E ⟨some d, .pick (.tmp tc) (.const (.bool true)) (.tmp ta), ty, pos, af, gd⟩) (hN : Nat.blt d C.N = true) (hf : freshS S E d = true)
    (h : XQ C Q ops rest (putS S E d (.bool (t || x))) (putE S E d (.bool (t || x))) I loc) :
    XQ C Q ops (⟨some d, .pick (.tmp tc) (.const (.bool true)) (.tmp ta), ty, pos, af, gd⟩ :: rest) ((b, G) :: S) E I loc := by
  intro a ha hg
  have hp := fits_putS ha hg.2 hN hf (.bool (t || x))
  simp only [wpQuiet]
  rw [hG.wanted ha hg.2]
  cases hcj : conj S with
  | true =>
    rw [hcj] at hp
    simp only [if_true]
    have e1 : a.eval (.tmp tc) = .bool t := evalS_sound ha hg.2 hcj hc
    have e2 : t = false → a.eval (.tmp ta) = .bool x := fun e => by
      have := hg.1 _ _ ha'
      rw [hcj, hb, e] at this; exact this
    refine ⟨.bool (t || x), fun w hw => ?_, h _ hp.1 hp.2⟩
    unfold Oper.quietAt
    simp only [execOp, e1, asBool, Sem.run_bind, Sem.run_pure, Result.andThen]
    cases t with
    | false => simp only [Bool.false_eq_true, if_false, e2 rfl]; exact ⟨rfl, rfl⟩
    | true => exact ⟨rfl, rfl⟩
  | false =>
    rw [hcj] at hp
    simp only [Bool.false_eq_true, if_false]
    exact h _ hp.1 hp.2
end

/-! ### Reads first, then what must come -/
section
variable {P : Program} {ops : Array Oper} {Q : Exit → Act → World → Prop} {md : Region.Mode} {K0 : World → Prop} {r : Option Nat}
def wpAnyS (r : Option Nat) (P : Program) (md : Region.Mode) (ops : Array Oper) (Q : Exit → Act → World → Prop) (K0 : World → Prop) : Nat → Array Bool → Act → World → Prop
  | 0, listed, a, w => Region.ready md ops listed = [] ∧ Q .normal a w
  | fuel + 1, listed, a, w =>
    (Region.ready md ops listed = [] → Q .normal a w) ∧
    ∀ i ∈ Region.ready md ops listed, wpOpIn (FR r) 0 P ops Q i (fun a' w' => K0 w' ∧ wpAnyS r P md ops Q K0 fuel (listed.setIfInBounds i true) a' w') a w
theorem wpAnyIn_of_S : ∀ (fuel : Nat) (listed : Array Bool) (a : Act) (w : World), wpAnyS r P md ops Q K0 fuel listed a w → wpAnyIn (FR r) 0 P md ops Q fuel listed a w
  | 0, _, _, _, h => h
  | fuel + 1, _, _, _, h => ⟨h.1, fun i hi => wpOpIn_mono (fun a' w' h' => wpAnyIn_of_S fuel _ a' w' h'.2) (h.2 i hi)⟩
theorem YieldsIf.wpOpIn {i : Nat} {o : Oper} {v : Value} {a : Act} (hi : ops[i]? = some o) (hdf : ∀ c, o.op ≠ .defer c) (hy : YieldsIf P ops K0 o v a)
    {K : Act → World → Prop} {w : World} (hS : K0 w) (h : K (a.put o.dst v) w) : wpOpIn (FR r) 0 P ops Q i K a w := by
  unfold Go.wpOpIn
  simp only [hi]
  rcases hy with ⟨hw, hv⟩ | ⟨hw, rfl⟩
  · simp only [hw, if_true, Oper.wpIn]
    exact ⟨fun _ _ => trivial, by rw [Oper.semAt_eq _ _ _ hdf, hv w hS]; exact h⟩
  · simp only [hw, Bool.false_eq_true, if_false]; exact ⟨fun _ _ => trivial, h⟩
theorem semAt_put {o : Oper} (hs : ∀ cs b, o.op ≠ .select cs b) (ro : Option Nat) (a : Act) (dst : Option Tmp) (v : Value) (h : ∀ d, dst = some d → d ∉ o.looksAt ops) : Oper.semAt ro (a.put dst v).eval o = Oper.semAt ro a.eval o := by
  have he := execOp_put o hs a dst v h
  unfold Oper.semAt
  cases ro with
  | none => exact he
  | some l =>
    cases ho : o.op <;> first | exact he | skip
    rename_i c
    have e := resolve_congr (ρ := (a.put dst v).eval) (ρ' := a.eval) c o.type (fun x hx => Act.eval_put (fun d hd e => h d hd (by
      subst e
      simp only [Oper.looksAt, ho, List.mem_append, List.mem_filterMap]
      exact .inl ⟨.tmp d, by simpa [Op.operands] using hx, rfl⟩)))
    simp only [e]
theorem wpOpIn_putIf {j : Nat} {oi oj : Oper} {v : Value} (hj : ops[j]? = some oj) (hap : oi.apart ops oj = true)
    (hsi : ∀ cs b, oi.op ≠ .select cs b) (hsj : ∀ cs b, oj.op ≠ .select cs b)
    (hQ : ∀ c a w, Q (.panic c) (a.put oi.dst v) w → Q (.panic c) a w) {K : Act → World → Prop} {a : Act} {w : World}
    (hy : YieldsIf P ops K0 oi v a) (h : wpOpIn (FR r) 0 P ops Q j K (a.put oi.dst v) w) :
    wpOpIn (FR r) 0 P ops Q j (fun a' w' => YieldsIf P ops K0 oi v a' ∧ K (a'.put oi.dst v) w') a w := by
  obtain ⟨h1, h2, h3⟩ := Oper.apart_spec hap
  have keep : ∀ (a : Act), YieldsIf P ops K0 oi v a → ∀ u, YieldsIf P ops K0 oi v (a.put oj.dst u) := fun a hy u =>
    hy.of_same (execOp_put oi hsi a oj.dst u h3) (wanted_put oi a oj.dst u h3)
  have keepD : ∀ d, YieldsIf P ops K0 oi v { a with defers := d :: a.defers } := fun d => hy.of_same rfl rfl
  unfold wpOpIn at *
  simp only [hj] at *
  rw [wanted_put oj a oi.dst v h1] at h
  split
  · rename_i hw
    simp only [hw, if_true] at h
    unfold Oper.wpIn at *
    refine ⟨fun _ _ => trivial, ?_⟩
    have h := h.2
    rw [semAt_put hsj _ a oi.dst v h1] at h
    generalize (oj.semAt (FR r).round a.eval).run P w = q at *
    cases q with
    | ok n w' =>
      cases n <;> simp only [Oper.uponIn] at h ⊢
      case value u => exact ⟨keep a hy u, by rw [← Act.put_comm a v u h2]; exact h⟩
      case skip => exact ⟨keep a hy _, by rw [← Act.put_comm a v undef h2]; exact h⟩
      case defer d =>
        refine ⟨keep _ (keepD d) _, ?_⟩
        rw [← Act.put_comm _ v undef h2, ← Act.put_defers]
        exact h
      case enter f args =>
        refine ⟨h.1, CallsIn.mono h.2 fun e w'' he => ?_⟩
        cases e with
        | returned u => exact ⟨keep a hy u, by rw [← Act.put_comm a v u h2]; exact he⟩
        | panicked c => exact hQ _ _ _ he
        | outgrown => exact he
      case row row args => exact ⟨h.1, RowsIn.mono h.2 fun u w'' he => ⟨keep a hy u, by rw [← Act.put_comm a v u h2]; exact he⟩⟩
      case round l f tmps assign body =>
        refine ⟨h.1, RoundIn.mono h.2 fun e w'' he => ?_⟩
        cases e with
        | returned u => exact ⟨keep a hy u, by rw [← Act.put_comm a v u h2]; exact he⟩
        | panicked c => exact hQ _ _ _ he
        | outgrown => exact he
    | halt x w' =>
      cases x <;> simp only [Oper.uponIn] at h ⊢
      case panic u => exact hQ _ _ _ h
  · rename_i hw
    simp only [hw] at h
    exact ⟨fun _ _ => trivial, keep a hy _, by rw [← Act.put_comm a v undef h2]; exact h.2⟩
theorem wpAnyS_first {i : Nat} {oi : Oper} {v : Value} (hi : ops[i]? = some oi) (hdf : ∀ c, oi.op ≠ .defer c) (hsel : ∀ (j : Nat) (o : Oper) cs b, ops[j]? = some o → o.op ≠ .select cs b)
    (hQ : ∀ c a w, Q (.panic c) (a.put oi.dst v) w → Q (.panic c) a w) :
    ∀ (fuel : Nat) (listed : Array Bool) (a : Act) (w : World),
      (∀ j oj, ops[j]? = some oj → j ≠ i → listed.getD j true = false → (∀ e ∈ oj.after, Region.binds md e = true → e.on ≠ i) → oi.apart ops oj = true) →
      i ∈ Region.ready md ops listed → YieldsIf P ops K0 oi v a → K0 w →
      wpAnyS r P md ops Q K0 fuel (listed.setIfInBounds i true) (a.put oi.dst v) w → wpAnyS r P md ops Q K0 (fuel + 1) listed a w := by
  intro fuel
  induction fuel with
  | zero =>
    intro listed a w _ hr hy hS H
    refine ⟨fun h => (by rw [h] at hr; cases hr), fun j hj => ?_⟩
    by_cases hji : j = i
    · subst hji; exact YieldsIf.wpOpIn hi hdf hy hS ⟨hS, H⟩
    · have := ready_mono hj hji
      rw [H.1] at this
      cases this
  | succ fuel ih =>
    intro listed a w hfree hr hy hS H
    refine ⟨fun h => (by rw [h] at hr; cases hr), fun j hj => ?_⟩
    by_cases hji : j = i
    · subst hji; exact YieldsIf.wpOpIn hi hdf hy hS ⟨hS, H⟩
    · have h1 := H.2 j (ready_mono hj hji)
      obtain ⟨hjun, oj, hoj, hall⟩ := mem_ready.1 hj
      have hnot : ∀ e ∈ oj.after, Region.binds md e = true → e.on ≠ i := fun e he hb heq => by
        have h1 := hall e he hb
        have h0 := (mem_ready.1 hr).1
        rw [heq] at h1
        rcases Nat.lt_or_ge i listed.size with h' | h'
        · simp [h'] at h0 h1; rw [h0] at h1; cases h1
        · simp [Array.getElem?_eq_none h'] at h1
      have h2 := wpOpIn_putIf hoj (hfree j oj hoj hji hjun hnot) (fun cs b => hsel i oi cs b hi) (fun cs b => hsel j oj cs b hoj) hQ hy h1
      have hfree' : ∀ k ok, ops[k]? = some ok → k ≠ i → (listed.setIfInBounds j true).getD k true = false →
          (∀ e ∈ ok.after, Region.binds md e = true → e.on ≠ i) → oi.apart ops ok = true := fun k ok hk hki hun hno => by
        refine hfree k ok hk hki ?_ hno
        by_cases hjk : j = k
        · subst hjk; exact hjun
        · rw [getD_set_ne true hjk] at hun; exact hun
      refine wpOpIn_mono (fun a' w' h3 => ⟨h3.2.1, ih (listed.setIfInBounds j true) a' w' hfree' (ready_mono hr (Ne.symm hji)) h3.1 h3.2.1 ?_⟩) h2
      rw [Array.setIfInBounds_comm _ _ hji]
      exact h3.2.2
end

section
variable {C : Cx} {Q : Exit → Act → World → Prop} {E E' : Env} {I I' I0 : HMap} {loc loc' loc0 L R : Loc} {ops : Array Oper} {rest : List Oper} {S : GS}
/-- The state of a region that draws: what has come up, what is known; the reads are of I0 and loc0. -/
def XD (C : Cx) (Q : Exit → Act → World → Prop) (ops : Array Oper) (I0 : HMap) (loc0 : Loc) (fuel : Nat) (listed : Array Bool) (S : GS) (E : Env) (I : HMap) (loc : Loc) : Prop :=
  ∀ a w, Fits C.N C.D E a → FitsG S a → St C.g I C.H loc w → wpAnyS C.r C.P .any ops Q (fun w => St C.g I0 C.H loc0 w) fuel listed a w
/-- Panics do not ask for the frame. -/
def NoPanic (Q : Exit → Act → World → Prop) : Prop := ∀ c a d v w, Q (.panic c) (a.put (some d) v) w → Q (.panic c) a w
inductive SubL : Loc → Loc → Prop
  | refl {l : Loc} : SubL l l
  | drop {x : Nat × Obj} {l0 l : Loc} (h : SubL l0 l) : SubL l0 (x :: l)
  | keep {x : Nat × Obj} {l0 l : Loc} (h : SubL l0 l) : SubL (x :: l0) (x :: l)
theorem SubL.mem (h : SubL loc0 loc) : ∀ p ∈ loc0, p ∈ loc := by
  induction h with
  | refl => exact fun p h => h
  | drop _ ih => exact fun p hm => List.mem_cons_of_mem _ (ih p hm)
  | keep _ ih => exact fun p hm => (List.mem_cons.1 hm).elim (fun e => e ▸ List.mem_cons_self ..) (fun hm => List.mem_cons_of_mem _ (ih p hm))
theorem SubL.nodup (h : SubL loc0 loc) : (loc.map (·.1)).Nodup → (loc0.map (·.1)).Nodup := by
  induction h with
  | refl => exact id
  | drop _ ih => intro hn; simp only [List.map_cons, List.nodup_cons] at hn; exact ih hn.2
  | keep hs ih =>
    intro hn; simp only [List.map_cons, List.nodup_cons] at hn ⊢
    refine ⟨fun hm => ?_, ih hn.2⟩
    obtain ⟨p, hm, e⟩ := List.mem_map.1 hm
    exact hn.1 (List.mem_map.2 ⟨p, hs.mem p hm, e⟩)
theorem St.subL {g : World} {H : HMap} {w : World} (h : St g I H loc w) (hs : SubL loc0 loc) : St g I H loc0 w :=
  ⟨h.os, h.tape, h.out, h.size, h.imm, h.frm, fun b o hm => h.own b o (hs.mem _ hm), h.sepIH, fun b o hm => h.sepIL b o (hs.mem _ hm), hs.nodup h.nodup⟩

/-- Q where nothing panics. -/
def noP (Q : Exit → Act → World → Prop) : Exit → Act → World → Prop
  | .panic _, _, _ => False
  | .normal, a, w => Q .normal a w
  | .exit i, a, w => Q (.exit i) a w
  | .goto i, a, w => Q (.goto i) a w
  | .ret, a, w => Q .ret a w
  | .outgrown, a, w => Q .outgrown a w
theorem noP_ok : NoPanic (noP Q) := fun _ _ _ _ _ h => h
theorem X_noP {c : Code} (h : X C (noP Q) c E I loc) : X C Q c E I loc := fun a w ha hw => wpIn_mono (h a w ha hw) fun e a w hq => by
  cases e <;> first | exact hq | exact hq.elim
theorem X_drawS {id : Nat} {l : List Oper} (I0 : HMap) (loc0 : Loc) (hm : C.P.follows .mixedOrders = true) (h : XD C Q l.toArray I0 loc0 l.length (Array.replicate l.length false) [] E I loc) : X C Q (.region id l.toArray true) E I loc := fun a w ha hw =>
  wpIn_region_any hm (wpAnyIn_of_S _ _ _ _ (by simpa using h a _ ha trivial hw.drew))
theorem XD_pop {x : Bool × Env} {fuel : Nat} {listed : Array Bool} (h : XD C Q ops I0 loc0 fuel listed S E I loc) : XD C Q ops I0 loc0 fuel listed (x :: S) E I loc := fun a w ha hg hw => h a w ha hg.2 hw
/-- A read is taken first. -/
theorem XD_take (i : Nat) {oi : Oper} {d : Nat} {v : Value} {fuel : Nat} {listed : Array Bool} (hi : ops[i]? = some oi) (hv : EvalOp C S E I0 loc0 oi v) (hG : Guarded ops S E oi) (hd : oi.dst = some d) (hN : Nat.blt d C.N = true) (hf : freshS S E d = true)
    (hs : Region.noSelect ops = true) (hfr : Region.free .any ops listed i = true) (hr : (Region.ready .any ops listed).contains i = true) (hQ : NoPanic Q) (hI : HLe I0 I) (hl : SubL loc0 loc)
    (h : XD C Q ops I0 loc0 fuel (listed.setIfInBounds i true) (putS S E d v) (putE S E d v) I loc) : XD C Q ops I0 loc0 (fuel + 1) listed S E I loc := by
  intro a w ha hg hw
  have hp := fits_putS ha hg hN hf v
  refine wpAnyS_first (v := bif conj S then v else undef) hi hv.1 (Region.noSelect_spec hs) (fun c a w => by rw [hd]; exact hQ c a d _ w) fuel listed a w (Region.free_spec hi hfr) (by simpa using hr) ?_ ((hw.mono hI).subL hl) (by rw [hd]; exact h _ _ hp.1 hp.2 hw)
  have hwt := hG.wanted ha hg
  cases hc : conj S with
  | true => exact .inl ⟨by rw [hwt, hc], fun w' hw' => hv.2 a w' ha hg hc hw'⟩
  | false => exact .inr ⟨by rw [hwt, hc], rfl⟩
/-- One operation alone may come up: it is walked by the rules of a region in the order of the text. -/
theorem XD_one (i : Nat) {oi : Oper} {fuel : Nat} {listed : Array Bool} (hi : ops[i]? = some oi) (hr : Region.ready .any ops listed = [i])
    (h : XO C (fun e a w => match e with | .normal => St C.g I0 C.H loc0 w ∧ wpAnyS C.r C.P .any ops Q (fun w => St C.g I0 C.H loc0 w) fuel (listed.setIfInBounds i true) a w | e => Q e a w) ops [oi] S E I loc) : XD C Q ops I0 loc0 (fuel + 1) listed S E I loc := by
  intro a w ha hg hw
  refine ⟨(fun h0 => by rw [hr] at h0; cases h0), fun j hj => ?_⟩
  rw [hr] at hj
  obtain rfl := List.mem_singleton.1 hj
  have := h a w ha hg hw
  simp only [wpListIn] at this
  unfold wpOpIn
  simp only [hi]
  split
  · rename_i hwt
    simp only [hwt, if_true] at this
    unfold Oper.wpIn at *
    refine ⟨fun _ _ => trivial, ?_⟩
    have h2 := this.2
    generalize (oi.semAt (FR C.r).round a.eval).run C.P w = q at *
    cases q with
    | ok n w' => cases n <;> exact h2
    | halt x w' => cases x <;> exact h2
  · rename_i hwt
    simp only [hwt] at this
    exact this
theorem at_D {i fuel : Nat} {listed : Array Bool} (hI : HLe I0 I) (hl : SubL loc0 loc) (h : XD C Q ops I0 loc0 fuel (listed.setIfInBounds i true) [] E I loc) :
    At C (fun e a w => match e with | .normal => St C.g I0 C.H loc0 w ∧ wpAnyS C.r C.P .any ops Q (fun w => St C.g I0 C.H loc0 w) fuel (listed.setIfInBounds i true) a w | e => Q e a w) .normal E I loc :=
  fun a w ha hw => ⟨(hw.mono hI).subL hl, h a w ha trivial hw⟩
theorem XD_done {fuel : Nat} {listed : Array Bool} (hr : Region.ready .any ops listed = []) (h : At C Q .normal E I loc) : XD C Q ops I0 loc0 fuel listed S E I loc := fun a w ha hg hw => by
  cases fuel with
  | zero => exact ⟨hr, h a w ha hw⟩
  | succ n => exact ⟨fun _ => h a w ha hw, by rw [hr]; simp⟩
/-- Two may come up. -/
theorem XD_two (i j : Nat) {oi oj : Oper} {fuel : Nat} {listed : Array Bool} (hi : ops[i]? = some oi) (hj : ops[j]? = some oj) (hr : Region.ready .any ops listed = [i, j])
    (h1 : XO C (fun e a w => match e with | .normal => St C.g I0 C.H loc0 w ∧ wpAnyS C.r C.P .any ops Q (fun w => St C.g I0 C.H loc0 w) fuel (listed.setIfInBounds i true) a w | e => Q e a w) ops [oi] S E I loc)
    (h2 : XO C (fun e a w => match e with | .normal => St C.g I0 C.H loc0 w ∧ wpAnyS C.r C.P .any ops Q (fun w => St C.g I0 C.H loc0 w) fuel (listed.setIfInBounds j true) a w | e => Q e a w) ops [oj] S E I loc) : XD C Q ops I0 loc0 (fuel + 1) listed S E I loc := by
  intro a w ha hg hw
  refine ⟨(fun h0 => by rw [hr] at h0; cases h0), fun k hk => ?_⟩
  rw [hr] at hk
  have key : ∀ (i : Nat) (oi : Oper), ops[i]? = some oi → XO C (fun e a w => match e with | .normal => St C.g I0 C.H loc0 w ∧ wpAnyS C.r C.P .any ops Q (fun w => St C.g I0 C.H loc0 w) fuel (listed.setIfInBounds i true) a w | e => Q e a w) ops [oi] S E I loc →
      wpOpIn (FR C.r) 0 C.P ops Q i (fun a' w' => St C.g I0 C.H loc0 w' ∧ wpAnyS C.r C.P .any ops Q (fun w => St C.g I0 C.H loc0 w) fuel (listed.setIfInBounds i true) a' w') a w := by
    intro i oi hi h
    have := h a w ha hg hw
    simp only [wpListIn] at this
    unfold wpOpIn
    simp only [hi]
    split
    · rename_i hwt
      simp only [hwt, if_true] at this
      unfold Oper.wpIn at *
      refine ⟨fun _ _ => trivial, ?_⟩
      have h2 := this.2
      generalize (oi.semAt (FR C.r).round a.eval).run C.P w = q at *
      cases q with
      | ok n w' => cases n <;> exact h2
      | halt x w' => cases x <;> exact h2
    · rename_i hwt
      simp only [hwt] at this
      exact this
  rcases List.mem_cons.1 hk with e | hk
  · subst e; exact key _ _ hi h1
  · obtain rfl := List.mem_singleton.1 hk; exact key _ _ hj h2
end
end Go.Kn
