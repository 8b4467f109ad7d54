/- Contracts of calls; blocks that are made and written. Generic over the program; no condition. -/
import Derived.Test.YtgfggmmffmfolaaEngB
namespace Go.Kn
open Go

/-- What a call comes to: a plain value, nothing that is known turned. -/
def RetV (P : Program) (f : FuncId) (args : List Value) (I : HMap) (v : Value) : Prop :=
  ∀ g H w, St g I H [] w → Calls P f args.toArray w fun e w' => e = .returned v ∧ St g I H [] w'
/-- What a call comes to: own blocks L are handed over; values and blocks as Post says. -/
def RetM (P : Program) (f : FuncId) (args : List Value) (I : HMap) (L : Loc) (Post : Value → HMap → Loc → Prop) : Prop :=
  ∀ g H w, St g I H L w → Calls P f args.toArray w fun e w' => ∃ v I' L', e = .returned v ∧ HLe I I' ∧ St g I' H L' w' ∧ Post v I' L'
theorem RetV.m {P : Program} {f : FuncId} {args : List Value} {I : HMap} {v : Value} (h : RetV P f args I v) : RetM P f args I [] (fun u I' L => u = v ∧ I' = I ∧ L = []) :=
  fun g H w hw => (h g H w hw).mono fun _ _ ⟨he, hs⟩ => ⟨v, I, [], he, HLe.refl I, hs, rfl, rfl, rfl⟩
theorem RetM.mono {P : Program} {f : FuncId} {args : List Value} {I : HMap} {L : Loc} {Post Post' : Value → HMap → Loc → Prop} (h : RetM P f args I L Post) (hp : ∀ v I' L', HLe I I' → Post v I' L' → Post' v I' L') : RetM P f args I L Post' :=
  fun g H w hw => (h g H w hw).mono fun _ _ ⟨v, I', L', he, hI, hs, p⟩ => ⟨v, I', L', he, hI, hs, hp _ _ _ hI p⟩

inductive Split : Loc → Loc → Loc → Prop
  | nil {l : Loc} : Split l [] l
  | cons {l l1 l2 L : Loc} {b : Nat} {o : Obj} (h : Take l b o l1) (hs : Split l1 L l2) : Split l ((b, o) :: L) l2

section
variable {g : World} {I I' H : HMap} {loc loc' L R : Loc} {w w' : World}
theorem St.take (h : St g I H loc w) {b : Nat} {o : Obj} (ht : Take loc b o loc') : St g I H loc' w :=
  ⟨h.os, h.tape, h.out, h.size, h.imm, h.frm, fun c p hm => h.own c p (ht.sub c p hm), h.sepIH, fun c p hm => h.sepIL c p (ht.sub c p hm), (ht.nodup h.nodup).1⟩
theorem Split.parts (hs : Split loc L R) : (loc.map (·.1)).Nodup → (∀ b o, (b, o) ∈ L → (b, o) ∈ loc) ∧ (∀ b o, (b, o) ∈ R → (b, o) ∈ loc) ∧ (∀ b o p, (b, o) ∈ L → (b, p) ∉ R) ∧ (L.map (·.1)).Nodup ∧ (R.map (·.1)).Nodup := by
  induction hs with
  | nil => exact fun hn => ⟨(fun _ _ h => by cases h), fun _ _ h => h, (fun _ _ _ h => by cases h), by simp, hn⟩
  | @cons l l1 l2 L b o ht hs ih =>
    intro hn
    obtain ⟨n1, n2⟩ := ht.nodup hn
    obtain ⟨a1, a2, a3, a4, a5⟩ := ih n1
    refine ⟨fun c p hm => ?_, fun c p hm => ht.sub _ _ (a2 c p hm), fun c p q hm => ?_, ?_, a5⟩
    · rcases List.mem_cons.1 hm with e | hm2
      · cases e; exact ht.mem
      · exact ht.sub _ _ (a1 c p hm2)
    · rcases List.mem_cons.1 hm with e | hm2
      · cases e; exact fun hq => n2 q (a2 _ _ hq)
      · exact a3 c p q hm2
    · simp only [List.map_cons, List.nodup_cons]
      refine ⟨fun hm => ?_, a4⟩
      obtain ⟨⟨c, p⟩, hm2, e⟩ := List.mem_map.1 hm
      simp only at e; subst e
      exact n2 p (a1 _ _ hm2)
theorem St.split (h : St g I H loc w) (hs : Split loc L R) : St g I (addL H R) L w := by
  obtain ⟨a1, a2, a3, a4, a5⟩ := hs.parts h.nodup
  refine ⟨h.os, h.tape, h.out, h.size, h.imm, ?_, fun b o hm => h.own b o (a1 b o hm), ?_, fun b o hm => ⟨(h.sepIL b o (a1 b o hm)).1, ?_⟩, a4⟩
  · intro b o e
    rcases addL_inv e with hm | e
    · exact h.own b o (a2 b o hm)
    · exact h.frm b o e
  · intro b
    cases e : addL H R b with
    | none => exact .inr rfl
    | some o =>
      rcases addL_inv e with hm | e
      · exact .inl (h.sepIL b o (a2 b o hm)).1
      · rcases h.sepIH b with e' | e'
        · exact .inl e'
        · rw [e'] at e; cases e
  · rw [addL_old (fun p hp => a3 b o p hm hp)]
    exact (h.sepIL b o (a1 b o hm)).2
theorem St.rest (h : St g I H loc w) (hs : Split loc L R) : St g I H R w := by
  obtain ⟨a1, a2, a3, a4, a5⟩ := hs.parts h.nodup
  exact ⟨h.os, h.tape, h.out, h.size, h.imm, h.frm, fun b o hm => h.own b o (a2 b o hm), h.sepIH, fun b o hm => h.sepIL b o (a2 b o hm), a5⟩
theorem St.join (h : St g I H loc w) (hs : Split loc L R) {L' : Loc} (h' : St g I' (addL H R) L' w') : St g I' H (L' ++ R) w' := (h.rest hs).unhide h'
theorem RetM.frame {P : Program} {f : FuncId} {args : List Value} {Post : Value → HMap → Loc → Prop} (hc : RetM P f args I L Post) (hs : Split loc L R) (hw : St g I H loc w) :
    Calls P f args.toArray w fun e w' => ∃ v I' L', e = .returned v ∧ HLe I I' ∧ St g I' H (L' ++ R) w' ∧ Post v I' L' :=
  (hc g (addL H R) w (hw.split hs)).mono fun _ _ ⟨v, I', L', he, hI, h', p⟩ => ⟨v, I', L', he, hI, hw.join hs h', p⟩
end

/-- What the tables say of a function that is Go text. -/
def Fun (P : Program) (f : FuncId) : Prop := ∃ fn, P.funcs[f]? = some fn ∧ (fn.name == "runtime.NumGoroutine") = false ∧ fn.body.isNone = false
theorem Fun.of {P : Program} {f : FuncId} {fn : Func} (h : P.funcs[f]? = some fn) (h1 : (fn.name == "runtime.NumGoroutine") = false) (h2 : fn.body.isNone = false) : Fun P f := ⟨fn, h, h1, h2⟩
theorem run_callFunc {P : Program} {f : FuncId} (h : Fun P f) (args : Array Value) (w : World) : (callFunc f args).run P w = .ok (.enter f args) w := by
  obtain ⟨fn, h1, h2, h3⟩ := h
  simp only [callFunc, Sem.run_bind, run_program, Result.andThen, h1, h2, h3, Bool.false_eq_true, if_false, Sem.run_pure]

section
variable {C : Cx} {Q : Exit → Act → World → Prop} {E E' : Env} {I I' : HMap} {loc loc' L R : Loc} {ops : Array Oper} {rest : List Oper} {S : GS}
variable {dst : Option Tmp} {d : Nat} {ty : TypeId} {pos : String} {af : Array Edge} {gd : Option (Nat × Bool)} {x y z : Operand}

theorem evals_sound {N : Nat} {D : List Deferred} {a : Act} (ha : Fits N D E a) (hg : FitsG S a) (hc : conj S = true) : ∀ {l : List Operand} {vs : List Value}, l.map (evalS S E) = vs.map some → l.map a.eval = vs
  | [], [], _ => rfl
  | [], _ :: _, h => by simp at h
  | o :: l, [], h => by simp at h
  | o :: l, v :: vs, h => by
    simp only [List.map_cons, List.cons.injEq] at h ⊢
    exact ⟨evalS_sound ha hg hc h.1, evals_sound ha hg hc h.2⟩

theorem run_call {P : Program} {a : Act} {w : World} {f : FuncId} {cap : List Value} {l : List Operand} {vs : List Value} {tys : Array TypeId} {cal : Operand}
    (he : a.eval cal = .func (.func f) #[] cap.toArray) (hl : l.map a.eval = vs) (hF : Fun P f) :
    (execOp a.eval ⟨dst, .call ⟨.value cal, l.toArray, tys⟩, ty, pos, af, gd⟩).run P w = .ok (.enter f (vs ++ cap).toArray) w := by
  simp only [execOp, resolve, he, List.map_toArray, hl, Deferred.ofValue, Sem.run_bind, Sem.run_pure, Result.andThen, invoke, run_callFunc hF]
  simp

/-- A call of Go text, whatever it hands back. -/
theorem XO_callG {f : FuncId} {cap : List Value} {l : List Operand} {vs : List Value} {tys : Array TypeId} {cal : Operand} {K : Value → HMap → Loc → Prop}
    (he : evalS S E cal = some (.func (.func f) #[] cap.toArray)) (hl : l.map (evalS S E) = vs.map some) (hF : Fun C.P f) (hG : Guarded ops S E ⟨dst, .call ⟨.value cal, l.toArray, tys⟩, ty, pos, af, gd⟩)
    (hd : dst = some d) (hN : Nat.blt d C.N = true) (hf : freshS S E d = true) (hsp : Split loc L R) (hc : conj S = true → RetM C.P f (vs ++ cap) I L K) (hno : conj S = false → ∃ v, K v I L)
    (h : ∀ v I' L', HLe I I' → K v I' L' → XO C Q ops rest (putS S E d v) (putE S E d v) I' (L' ++ R)) :
    XO C Q ops (⟨dst, .call ⟨.value cal, l.toArray, tys⟩, ty, pos, af, gd⟩ :: rest) S E I loc := by
  intro a w ha hg hw
  simp only [wpListIn]
  rw [hG.wanted ha hg]
  cases hcj : conj S with
  | true =>
    simp only [if_true, Oper.wpIn]
    refine ⟨fun _ _ => trivial, ?_⟩
    rw [Oper.semAt_eq _ _ _ (by intro c e; cases e), run_call (evalS_sound ha hg hcj he) (evals_sound ha hg hcj hl) hF, Oper.uponIn_enter]
    refine ⟨by simp [FR], callsFR.2 (((hc hcj).frame hsp hw).mono ?_)⟩
    rintro e w' ⟨v, I', L', rfl, hI, hs, hk⟩
    have hp := fits_putS ha hg hN hf v
    rw [hcj] at hp
    rw [hd]
    exact h v I' L' hI hk _ _ hp.1 hp.2 hs
  | false =>
    simp only [Bool.false_eq_true, if_false]
    refine ⟨fun _ _ => trivial, ?_⟩
    obtain ⟨v, hk⟩ := hno hcj
    have hp := fits_putS ha hg hN hf v
    rw [hcj] at hp
    rw [hd]
    exact h v I L (HLe.refl I) hk _ _ hp.1 hp.2 ((hw.rest hsp).unhide (hw.split hsp))

/-- A call that hands back a plain value. -/
theorem XO_callV {f : FuncId} {cap : List Value} {l : List Operand} {vs : List Value} {tys : Array TypeId} {cal : Operand} {v : Value}
    (he : evalS S E cal = some (.func (.func f) #[] cap.toArray)) (hl : l.map (evalS S E) = vs.map some) (hF : Fun C.P f) (hc : conj S = true → RetV C.P f (vs ++ cap) I v)
    (hG : Guarded ops S E ⟨some d, .call ⟨.value cal, l.toArray, tys⟩, ty, pos, af, gd⟩) (hN : Nat.blt d C.N = true) (hf : freshS S E d = true)
    (h : XO C Q ops rest (putS S E d v) (putE S E d v) I loc) :
    XO C Q ops (⟨some d, .call ⟨.value cal, l.toArray, tys⟩, ty, pos, af, gd⟩ :: rest) S E I loc :=
  XO_callG (K := fun u I' L => u = v ∧ I' = I ∧ L = []) he hl hF hG rfl hN hf .nil (fun e => (hc e).m) (fun _ => ⟨v, rfl, rfl, rfl⟩) (by rintro _ _ _ _ ⟨rfl, rfl, rfl⟩; exact h)

/-- A call that takes and gives blocks (no guard). -/
theorem XO_callM {f : FuncId} {cap : List Value} {l : List Operand} {vs : List Value} {tys : Array TypeId} {cal : Operand} {K : Value → HMap → Loc → Prop}
    (he : evalS [] E cal = some (.func (.func f) #[] cap.toArray)) (hl : l.map (evalS [] E) = vs.map some) (hF : Fun C.P f) (hsp : Split loc L R) (hc : RetM C.P f (vs ++ cap) I L K)
    (hG : gd = none) (hN : Nat.blt d C.N = true) (h : ∀ v I' L', HLe I I' → K v I' L' → XO C Q ops rest [] ((d, v) :: E) I' (L' ++ R)) :
    XO C Q ops (⟨some d, .call ⟨.value cal, l.toArray, tys⟩, ty, pos, af, gd⟩ :: rest) [] E I loc :=
  XO_callG he hl hF (.none hG) rfl hN rfl hsp (fun _ => hc) (fun e => by cases e) h

/-! ### New blocks, stores (no guard) -/
theorem XO_world {o : Oper} (hG : o.guard = none) (hdf : ∀ c, o.op ≠ .defer c)
    (h : ∀ a w, Fits C.N C.D E a → St C.g I C.H loc w → o.uponIn (FR C.r) 0 C.P a (wpListIn (FR C.r) 0 C.P ops Q rest) Q ((execOp a.eval o).run C.P w)) : XO C Q ops (o :: rest) [] E I loc := by
  intro a w ha hg hw
  simp only [wpListIn, Region.wanted, hG, if_true, Oper.wpIn]
  exact ⟨fun _ _ => trivial, by rw [Oper.semAt_eq _ _ _ hdf]; exact h a w ha hw⟩

def ZeroT (P : Program) (t : Nat) (z : Value) : Prop := ∃ i, P.info? t = some i ∧ i.zero = some z
theorem ZeroT.of {P : Program} {t : Nat} {z : Value} (h : (P.info? t).bind (·.zero) = some z) : ZeroT P t z := by
  cases e : P.info? t with
  | none => rw [e] at h; cases h
  | some i => rw [e] at h; exact ⟨i, e, h⟩
theorem run_zeroValue {P : Program} {w : World} {t : TypeId} {z : Value} (h : ZeroT P t z) : (zeroValue t).run P w = .ok z w := by
  obtain ⟨i, h1, h2⟩ := h
  simp only [zeroValue, Sem.run_bind, run_typeInfo h1, Result.andThen, h2, Sem.run_pure]
theorem XO_alloc {t : Nat} {zv : Value} (hz : ZeroT C.P t zv) (hG : gd = none) (hN : Nat.blt d C.N = true) (h : ∀ b, XO C Q ops rest [] ((d, .pointer (some ⟨b, 0, none⟩)) :: E) I ((b, .cells zv.cells t (0, 0)) :: loc)) :
    XO C Q ops (⟨some d, .alloc t, ty, pos, af, gd⟩ :: rest) [] E I loc :=
  XO_world hG (by intro c e; cases e) fun a w ha hw => by
    simp only [execOp, Instr.alloc, Sem.run_bind, run_zeroValue hz, Result.andThen, newVar, newRow, run_newObj_alloc, Sem.run_pure, Oper.uponIn_value]
    exact h _ _ _ (ha.put hN _) trivial (hw.alloc _)
theorem XO_box {t : Nat} {v : Value} (hx : evalS [] E x = some v) (hG : gd = none) (hN : Nat.blt d C.N = true) (h : ∀ b, XO C Q ops rest [] ((d, .pointer (some ⟨b, 0, none⟩)) :: E) I ((b, .cells v.cells t (0, 0)) :: loc)) :
    XO C Q ops (⟨some d, .box t x, ty, pos, af, gd⟩ :: rest) [] E I loc :=
  XO_world hG (by intro c e; cases e) fun a w ha hw => by
    simp only [execOp, evalS_sound (S := []) ha trivial rfl hx, Instr.box, Sem.run_bind, Result.andThen, newVar, newRow, run_newObj_alloc, Sem.run_pure, Oper.uponIn_value]
    exact h _ _ _ (ha.put hN _) trivial (hw.alloc _)

def SzT (P : Program) (t n : Nat) : Prop := ∃ i, P.info? t = some i ∧ i.size = n
def szTB (P : Program) (t n : Nat) : Bool := match P.info? t with | some i => i.size == n | none => false
theorem SzT.of {P : Program} {t n : Nat} (h : szTB P t n = true) : SzT P t n := by
  unfold szTB at h
  split at h
  · rename_i i hi; rw [beq_iff_eq] at h; exact ⟨i, hi, h⟩
  · cases h
theorem frozen_free {I H : HMap} {loc : Loc} {g w : World} (hw : St g I H loc w) {b off : Nat} {c : Array Value} {t : TypeId} (hm : (b, Obj.cells c t (0, 0)) ∈ loc) : w.frozen? ⟨b, off, none⟩ = false := by
  simp [World.frozen?, hw.own _ _ hm]
/-- A store of one cell. -/
theorem XO_store {t t' b off : Nat} {v : Value} {c : Array Value} (hx : evalS [] E x = some (.pointer (some ⟨b, off, none⟩))) (hy : evalS [] E y = some v) (hT : SzT C.P t 1) (h1 : v.oneCell' = true) (hG : gd = none)
    (hu : Upd loc b (.cells c t' (0, 0)) (.cells (c.setIfInBounds off v) t' (0, 0)) loc') (hlt : Nat.blt off c.size = true) (h : XO C Q ops rest [] E I loc') :
    XO C Q ops (⟨none, .store t x y, ty, pos, af, gd⟩ :: rest) [] E I loc :=
  XO_world hG (by intro c e; cases e) fun a w ha hw => by
    have hcs : v.cells = #[v] := by cases v <;> first | rfl | (simp [Value.oneCell'] at h1)
    obtain ⟨i, hi, hs⟩ := hT
    have hc : ∃ u, w.cell? ⟨b, off, none⟩ = some u := by
      have := hw.own _ _ hu.mem
      have hlt' : off < c.size := Eq.mp Nat.blt_eq hlt
      exact ⟨c[off], by simp [World.cell?, this, hlt']⟩
    obtain ⟨u, hc⟩ := hc
    have hfz := frozen_free (off := off) hw hu.mem
    simp only [execOp, evalS_sound (S := []) ha trivial rfl hx, evalS_sound (S := []) ha trivial rfl hy, Instr.storeAt, Instr.sureAddr, Sem.run_bind, Sem.run_pure, Result.andThen, storeVar, run_sizeOf hi, hs, hcs, List.size_toArray, List.length_cons, List.length_nil, Nat.zero_add, ne_eq, not_true_eq_false, if_false, storeCells, add_plain, Nat.add_zero, run_store _ _ _ _ _ h1, hc, hfz, Bool.false_eq_true, Oper.uponIn_skip]
    exact h _ _ ha trivial (hw.setCell hu)
theorem Upd.middle {b : Nat} {o o' : Obj} (m : Obj) (hu : Upd loc b o o' loc') : ∃ l1, Upd loc b o m l1 ∧ Upd l1 b m o' loc' := by
  induction hu with
  | here => exact ⟨_, .here, .here⟩
  | there _ ih => obtain ⟨l1, a, b⟩ := ih; exact ⟨_, .there a, .there b⟩
/-- A store of a whole block of several cells. -/
theorem run_storeCells_all {P : Program} {g : World} {I H : HMap} : ∀ (vs : List Value) (pre : List Value) (w : World) (loc loc' : Loc) (b : Nat) (t : TypeId) (old : List Value), old.length = vs.length → (∀ v ∈ vs, v.oneCell' = true) → St g I H loc w →
    Upd loc b (.cells (pre ++ old).toArray t (0, 0)) (.cells (pre ++ vs).toArray t (0, 0)) loc' → ∃ w', (storeCells ⟨b, 0, none⟩ vs pre.length).run P w = .ok () w' ∧ St g I H loc' w'
  | [], pre, w, loc, loc', b, t, old, hl, _, hw, hu => by
    have : old = [] := List.length_eq_zero_iff.1 hl
    subst this
    refine ⟨w, rfl, ?_⟩
    have hb := hw.own _ _ hu.mem
    exact hw.turn hu rfl rfl rfl rfl hb (fun _ _ => rfl)
  | v :: vs, pre, w, loc, loc', b, t, old, hl, h1, hw, hu => by
    cases old with
    | nil => simp at hl
    | cons u old =>
      have hb := hw.own _ _ hu.mem
      have hc : w.cell? ⟨b, pre.length, none⟩ = some u := by simp [World.cell?, hb]
      have hfz := frozen_free (off := pre.length) hw hu.mem
      obtain ⟨l1, u1, u2⟩ := hu.middle (.cells ((pre ++ [v]) ++ old).toArray t (0, 0))
      have hset : ((pre ++ u :: old).toArray.setIfInBounds pre.length v) = ((pre ++ [v]) ++ old).toArray := by simp
      rw [← hset] at u1
      have hw1 := hw.setCell u1
      rw [hset] at u1
      obtain ⟨w', hr, hs⟩ := run_storeCells_all (P := P) vs (pre ++ [v]) _ l1 loc' b t old (by simpa using hl) (fun x hx => h1 x (List.mem_cons_of_mem _ hx)) hw1 (by simpa using u2)
      refine ⟨w', ?_, hs⟩
      rw [List.length_append, List.length_singleton] at hr
      simp only [storeCells, Sem.run_bind, add_plain, Nat.zero_add, run_store _ _ _ _ _ (h1 v (List.mem_cons_self ..)), hc, hfz, Bool.false_eq_true, if_false, Result.andThen, hr]
def allOne : List Value → Bool
  | [] => true
  | v :: l => v.oneCell' && allOne l
theorem allOne_iff : ∀ {l : List Value}, allOne l = true → ∀ v ∈ l, v.oneCell' = true
  | [], _, v, hv => by cases hv
  | u :: l, h, v, hv => by
    simp only [allOne, Bool.and_eq_true] at h
    rcases List.mem_cons.1 hv with rfl | hv
    · exact h.1
    · exact allOne_iff h.2 v hv
theorem allOne_flat {α : Type} {enc : α → List Value} (h : ∀ x, allOne (enc x) = true) : ∀ (xs : List α), allOne (xs.flatMap enc) = true
  | [] => rfl
  | x :: xs => by
    have key : ∀ (a b : List Value), allOne a = true → allOne b = true → allOne (a ++ b) = true := by
      intro a
      induction a with
      | nil => intro b _ h; exact h
      | cons v a ih =>
        intro b h1 h2
        simp only [allOne, Bool.and_eq_true] at h1
        simp only [List.cons_append, allOne, h1.1, Bool.true_and]
        exact ih b h1.2 h2
    rw [List.flatMap_cons]
    exact key _ _ (h x) (allOne_flat h xs)
theorem XO_storeA {t t' b n : Nat} {vs : List Value} {old : List Value} (hx : evalS [] E x = some (.pointer (some ⟨b, 0, none⟩))) (hy : evalS [] E y = some (.agg vs.toArray)) (hT : SzT C.P t n) (hn : vs.length = n) (ho : old.length = n) (h1 : allOne vs = true) (hG : gd = none)
    (hu : Upd loc b (.cells old.toArray t' (0, 0)) (.cells vs.toArray t' (0, 0)) loc') (h : XO C Q ops rest [] E I loc') :
    XO C Q ops (⟨none, .store t x y, ty, pos, af, gd⟩ :: rest) [] E I loc :=
  XO_world hG (by intro c e; cases e) fun a w ha hw => by
    obtain ⟨i, hi, hs⟩ := hT
    obtain ⟨w', hr, hs'⟩ := run_storeCells_all (P := C.P) vs [] w loc loc' b t' old (by omega) (allOne_iff h1) hw hu
    simp only [execOp, evalS_sound (S := []) ha trivial rfl hx, evalS_sound (S := []) ha trivial rfl hy, Instr.storeAt, Instr.sureAddr, Sem.run_bind, Sem.run_pure, Result.andThen, storeVar, run_sizeOf hi, hs, Value.cells, List.size_toArray, hn, ne_eq, not_true_eq_false, if_false]
    rw [show ([] : List Value).length = 0 from rfl] at hr
    simp only [hr, Oper.uponIn_skip]
    exact h _ _ ha trivial hs'
end
end Go.Kn
