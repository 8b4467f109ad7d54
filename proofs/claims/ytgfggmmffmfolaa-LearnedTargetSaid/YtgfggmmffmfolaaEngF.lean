/- Maps that a function makes, reads, ranges over. Generic over the program; no condition. -/
import Derived.Test.YtgfggmmffmfolaaEngE
namespace Go.Kn
open Go

/-- The entries of a map from which nothing was ever struck: the i-th was born at i. -/
def entriesO {α β : Type} (ek : α → Value) (ev : β → Value) (k : Nat) : List (α × β) → List MapEntry
  | [] => []
  | p :: m => { key := ek p.1, val := ev p.2, born := k } :: entriesO ek ev (k + 1) m
def mapO {α β : Type} (ek : α → Value) (ev : β → Value) (m : List (α × β)) : Obj := .map (entriesO ek ev 0 m).toArray m.length
def mget {α β : Type} [DecidableEq α] : List (α × β) → α → Option β
  | [], _ => none
  | p :: m, a => if p.1 = a then some p.2 else mget m a
def mset {α β : Type} [DecidableEq α] : List (α × β) → α → β → List (α × β)
  | [], a, b => [(a, b)]
  | p :: m, a, b => if p.1 = a then (a, b) :: m else p :: mset m a b
def midx {α β : Type} [DecidableEq α] : List (α × β) → α → Nat → Option (Nat × β)
  | [], _, _ => none
  | p :: m, a, k => if p.1 = a then some (k, p.2) else midx m a (k + 1)

/-- What the model asks of a key's type. -/
structure KeyOK {α : Type} [DecidableEq α] (P : Program) (kt : Nat) (ek : α → Value) : Prop where
  chk : ∀ b a w, (Instr.checkKey b 10000 kt (ek a)).run P w = .ok () w
  find : ∀ {β : Type} (ev : β → Value) (m : List (α × β)) (a : α) (w : World), (Instr.findKey kt (ek a) (entriesO ek ev 0 m)).run P w = .ok ((midx m a 0).map fun p => (p.1, ev p.2)) w
  bits : ∀ a, Instr.sameBits 10000 (ek a) (ek a) = true

section
variable {α β : Type} [DecidableEq α] {ek : α → Value} {ev : β → Value}
omit [DecidableEq α] in
theorem findNow_none {kind : TypeDesc} (hno : ∀ a b, Instr.sameNow kind (ek a) (ek b) = none) (a : α) (m : List (α × β)) (k i : Nat) (hne : m ≠ []) : Instr.findNow kind (ek a) (entriesO ek ev k m) i = none := by
  cases m with
  | nil => exact absurd rfl hne
  | cons p m => simp [entriesO, Instr.findNow, hno]
theorem findNow_int {kind : TypeDesc} (hyes : ∀ a b, Instr.sameNow kind (ek a) (ek b) = some (decide (a = b))) (a : α) : ∀ (m : List (α × β)) (k i : Nat), Instr.findNow kind (ek a) (entriesO ek ev k m) i = some ((midx m a i).map fun p => (p.1, ev p.2))
  | [], _, _ => rfl
  | p :: m, k, i => by
    simp only [entriesO, Instr.findNow, hyes, midx]
    by_cases h : p.1 = a
    · simp [h]
    · have h' : ¬ a = p.1 := fun e => h e.symm
      simp only [h', decide_false, if_neg h]
      exact findNow_int hyes a m (k + 1) (i + 1)
theorem findAsking_eq {P : Program} {kt : Nat} (heq : ∀ a b w, (Op.equal kt (ek a) (ek b)).run P w = .ok (decide (a = b)) w) (a : α) (w : World) : ∀ (m : List (α × β)) (k i : Nat), (Instr.findAsking kt (ek a) (entriesO ek ev k m) i).run P w = .ok ((midx m a i).map fun p => (p.1, ev p.2)) w
  | [], _, _ => rfl
  | p :: m, k, i => by
    simp only [entriesO, Instr.findAsking, Sem.run_bind, heq, Result.andThen, midx]
    by_cases h : p.1 = a
    · simp [h]
    · have h' : ¬ a = p.1 := fun e => h e.symm
      simp only [h', decide_false, if_neg h, Bool.false_eq_true, if_false]
      exact findAsking_eq heq a w m (k + 1) (i + 1)
theorem KeyOK.of_now {P : Program} {kt : Nat} {d : TypeDesc} (hd : P.underlying kt = some d) (hc : ∀ b a w, (Instr.checkKey b 10000 kt (ek a)).run P w = .ok () w) (hb : ∀ a, Instr.sameBits 10000 (ek a) (ek a) = true)
    (hyes : ∀ a b, Instr.sameNow d (ek a) (ek b) = some (decide (a = b))) : KeyOK P kt ek :=
  ⟨hc, fun ev m a w => by simp only [Instr.findKey, Sem.run_bind, run_underlying hd, Result.andThen, findNow_int hyes, Sem.run_pure], hb⟩
theorem KeyOK.of_asking {P : Program} {kt : Nat} {d : TypeDesc} (hd : P.underlying kt = some d) (hc : ∀ b a w, (Instr.checkKey b 10000 kt (ek a)).run P w = .ok () w) (hb : ∀ a, Instr.sameBits 10000 (ek a) (ek a) = true)
    (hno : ∀ a b, Instr.sameNow d (ek a) (ek b) = none) (heq : ∀ a b w, (Op.equal kt (ek a) (ek b)).run P w = .ok (decide (a = b)) w) : KeyOK P kt ek :=
  ⟨hc, fun ev m a w => by
    simp only [Instr.findKey, Sem.run_bind, run_underlying hd, Result.andThen]
    cases m with
    | nil => rfl
    | cons p m => rw [findNow_none hno a (p :: m) 0 0 (by simp)]; exact findAsking_eq heq a w (p :: m) 0 0, hb⟩
end
theorem key_int {P : Program} {kt : Nat} (h : P.underlying kt = some (.int .i64)) : KeyOK (α := Int) P kt (.int .i64) :=
  .of_now h (fun b a w => by
    have key : ∀ q, (Instr.checkKey b (q + 1) kt (.int .i64 a)).run P w = .ok () w := fun q => by
      simp only [Instr.checkKey, Sem.run_bind, run_underlying h, Result.andThen]; rfl
    exact key 9999) (fun a => by simp [Instr.sameBits]) (fun a b => by simp only [Instr.sameNow, if_true]; rfl)

section
variable {α β : Type} [DecidableEq α] {ek : α → Value} {ev : β → Value}
theorem mget_midx (m : List (α × β)) (a : α) : ∀ k, (midx m a k).map (·.2) = mget m a := by
  induction m with
  | nil => intro k; rfl
  | cons p m ih =>
    intro k
    simp only [midx, mget]
    split
    · rfl
    · exact ih (k + 1)
omit [DecidableEq α] in
theorem entriesO_len (m : List (α × β)) : ∀ k, (entriesO ek ev k m).length = m.length := by
  induction m with
  | nil => intro k; rfl
  | cons p m ih => intro k; simp [entriesO, ih]
omit [DecidableEq α] in
theorem entriesO_app (m : List (α × β)) (p : α × β) : ∀ k, entriesO ek ev k (m ++ [p]) = entriesO ek ev k m ++ [{ key := ek p.1, val := ev p.2, born := k + m.length }] := by
  induction m with
  | nil => intro k; rfl
  | cons q m ih => intro k; simp only [List.cons_append, entriesO, ih, List.length_cons]; rw [show k + 1 + m.length = k + (m.length + 1) from by omega]
theorem mset_new (m : List (α × β)) (a : α) (b : β) : ∀ k, midx m a k = none → mset m a b = m ++ [(a, b)] := by
  induction m with
  | nil => intro k _; rfl
  | cons p m ih =>
    intro k h
    simp only [midx] at h
    split at h
    · cases h
    · rename_i hne
      simp only [mset, if_neg hne, List.cons_append, ih _ h]
theorem entriesO_set (m : List (α × β)) (a : α) (b : β) : ∀ (k i : Nat) (c : β), midx m a k = some (k + i, c) → (∃ p, m[i]? = some p ∧ p.1 = a) ∧ (mset m a b).length = m.length ∧
    entriesO ek ev k (mset m a b) = (entriesO ek ev k m).modify i fun e => { e with key := ek a, val := ev b } := by
  induction m with
  | nil => intro k i c h; cases h
  | cons p m ih =>
    intro k i c h
    simp only [midx] at h
    split at h
    · rename_i he
      have : i = 0 := by have := (Option.some.inj h); simp only [Prod.mk.injEq] at this; omega
      subst this
      exact ⟨⟨p, rfl, he⟩, by simp [mset, he], by simp [mset, he, entriesO]⟩
    · rename_i hne
      cases i with
      | zero =>
        exfalso
        have key : ∀ (m : List (α × β)) (k j : Nat) (c : β), midx m a k = some (j, c) → k ≤ j := by
          intro m
          induction m with
          | nil => intro k j c h; cases h
          | cons p m ih =>
            intro k j c h
            simp only [midx] at h
            split at h
            · have := (Option.some.inj h); simp only [Prod.mk.injEq] at this; omega
            · have := ih (k + 1) j c h; omega
        have := key m (k + 1) (k + 0) c h; omega
      | succ i =>
        obtain ⟨h1, h2, h3⟩ := ih (k + 1) i c (by rw [h]; congr 2; omega)
        refine ⟨by simpa using h1, by simp [mset, hne, h2], ?_⟩
        simp only [mset, if_neg hne, entriesO, h3]
        simp
end

section
variable {C : Cx} {Q : Exit → Act → World → Prop} {E E' : Env} {I I' : HMap} {loc loc' L R : Loc} {ops : Array Oper} {rest : List Oper} {S : GS}
variable {dst : Option Tmp} {d : Nat} {ty : TypeId} {pos : String} {af : Array Edge} {gd : Option (Nat × Bool)} {x y z : Operand}
variable {α β : Type} [DecidableEq α] {ek : α → Value} {ev : β → Value} {m : List (α × β)} {a : α}

theorem run_getObj_map {P : Program} {w : World} {r : Nat} {es : Array MapEntry} {c : Nat} (h : w.heap[r]? = some (.map es c)) : (getObj r).run P w = .ok (.map es c) w := by simp [getObj, Sem.run, h]
theorem run_setObj_map {P : Program} {w : World} {r : Nat} {es : Array MapEntry} {c : Nat} (o : Obj) (h : w.heap[r]? = some (.map es c)) : (setObj r o).run P w = .ok () (w.putObj r o) := by simp [setObj, Sem.run, h, World.putObj]

/-- A map type: key, element, the element's zero. -/
def MpT (P : Program) (t k e : Nat) (z : Value) : Prop := P.underlying t = some (.map k e) ∧ ZeroT P e z
theorem run_lookup {P : Program} {w : World} {t k e r : Nat} {zv : Value} (hT : MpT P t k e zv) (hK : KeyOK P k ek) (hm : w.heap[r]? = some (mapO ek ev m)) (ok : Bool) :
    (Instr.lookup t (.map (some r)) (ek a) ok).run P w = .ok (if ok then .tuple #[((mget m a).map ev).getD zv, .bool (mget m a).isSome] else ((mget m a).map ev).getD zv) w := by
  have hf := hK.find ev m a w
  have hg := mget_midx m a 0
  simp only [Instr.lookup, Sem.run_bind, run_underlying hT.1, Result.andThen, run_getObj_map hm, Sem.run_pure, hK.chk]
  rw [hf]
  cases hi : midx m a 0 with
  | none => rw [hi] at hg; rw [← hg]; cases ok <;> simp [run_zeroValue hT.2]
  | some p => rw [hi] at hg; rw [← hg]; cases ok <;> simp
theorem ev_lookup {t k e r : Nat} {zv : Value} (hT : MpT C.P t k e zv) (hK : KeyOK C.P k ek) (hx : evalS S E x = some (.map (some r))) (hy : evalS S E y = some (ek a)) (hm : conj S = true → Mem I loc r (mapO ek ev m)) :
    EvalOp C S E I loc ⟨dst, .lookup t x y false, ty, pos, af, gd⟩ (((mget m a).map ev).getD zv) :=
  .of (by intro c e; cases e) fun a' w ha hg hc hw => by
    have := run_lookup (P := C.P) (a := a) hT hK ((hm hc).heap hw) false
    simp only [execOp, evalS_sound ha hg hc hx, evalS_sound ha hg hc hy, Sem.run_bind, this, Result.andThen, Sem.run_pure, Bool.false_eq_true, if_false]
theorem ev_lookupOk {t k e r : Nat} {zv : Value} (hT : MpT C.P t k e zv) (hK : KeyOK C.P k ek) (hx : evalS S E x = some (.map (some r))) (hy : evalS S E y = some (ek a)) (hm : conj S = true → Mem I loc r (mapO ek ev m)) :
    EvalOp C S E I loc ⟨dst, .lookup t x y true, ty, pos, af, gd⟩ (.tuple #[((mget m a).map ev).getD zv, .bool (mget m a).isSome]) :=
  .of (by intro c e; cases e) fun a' w ha hg hc hw => by
    have := run_lookup (P := C.P) (a := a) hT hK ((hm hc).heap hw) true
    simp only [execOp, evalS_sound ha hg hc hx, evalS_sound ha hg hc hy, Sem.run_bind, this, Result.andThen, Sem.run_pure, if_true]
theorem ev_lookupBool {t k e r : Nat} {m : List (α × Bool)} (hT : MpT C.P t k e (.bool false)) (hK : KeyOK C.P k ek) (hx : evalS S E x = some (.map (some r))) (hy : evalS S E y = some (ek a)) (hm : conj S = true → Mem I loc r (mapO ek .bool m)) :
    EvalOp C S E I loc ⟨dst, .lookup t x y false, ty, pos, af, gd⟩ (.bool ((mget m a).getD false)) := by
  have := ev_lookup (C := C) (dst := dst) (ty := ty) (pos := pos) (af := af) (gd := gd) hT hK hx hy hm
  cases h : mget m a with
  | none => rw [h] at this; exact this
  | some b => rw [h] at this; exact this
omit [DecidableEq α] in
theorem ev_lenM {t k e r : Nat} {zv : Value} (hx : evalS S E x = some (.map (some r))) (hT : MpT C.P t k e zv) (hm : conj S = true → Mem I loc r (mapO ek ev m)) : EvalOp C S E I loc ⟨dst, .call ⟨.builtin .len, #[x], #[t]⟩, ty, pos, af, gd⟩ (.int .i64 m.length) :=
  .of (by intro c e; cases e) fun a w ha hg hc hw => by
    have hh := (hm hc).heap hw
    simp only [execOp, resolve, List.map_toArray, List.map_cons, List.map_nil, evalS_sound ha hg hc hx, Sem.run_bind, Sem.run_pure, Result.andThen, invoke, builtin, Builtin.len_, List.getElem?_toArray, List.getElem?_cons_zero, run_underlying hT.1, goInt, run_getObj_map hh, List.size_toArray, entriesO_len]

theorem run_mapUpdate {P : Program} {g : World} {H : HMap} {w : World} {t k e r : Nat} {zv : Value} (hT : MpT P t k e zv) (hK : KeyOK P k ek) (b : β) (hw : St g I H loc w) (hu : Upd loc r (mapO ek ev m) (mapO ek ev (mset m a b)) loc') :
    ∃ w', (Instr.mapUpdate t (.map (some r)) (ek a) (ev b)).run P w = .ok () w' ∧ St g I H loc' w' := by
  have hm := hw.own _ _ hu.mem
  have hf := hK.find ev m a w
  refine ⟨w.putObj r (mapO ek ev (mset m a b)), ?_, hw.putObj hu⟩
  simp only [Instr.mapUpdate, Sem.run_bind, run_underlying hT.1, Result.andThen, run_getObj_map hm, hK.chk]
  rw [hf]
  cases hi : midx m a 0 with
  | none =>
    have h1 := mset_new m a b 0 hi
    simp only [Option.map_none]
    rw [run_setObj_map _ hm, h1]
    congr 2
    simp [mapO, entriesO_app]
  | some p =>
    obtain ⟨i, c⟩ := p
    obtain ⟨⟨q, h1, h2⟩, h3, h4⟩ := entriesO_set (ek := ek) (ev := ev) m a b 0 i c (by rw [hi]; simp)
    have hkey : (((entriesO ek ev 0 m).toArray[i]?).map (·.key)).getD (ek a) = ek a := by
      have key : ∀ (m : List (α × β)) (k i : Nat) (q : α × β), m[i]? = some q → ((entriesO ek ev k m)[i]?).map (·.key) = some (ek q.1) := by
        intro m
        induction m with
        | nil => intro k i q h; simp at h
        | cons p m ih =>
          intro k i q h
          cases i with
          | zero => simp at h; subst h; simp [entriesO]
          | succ i => simp only [entriesO, List.getElem?_cons_succ]; exact ih _ _ _ (by simpa using h)
      have := key m 0 i q h1
      simp only [List.getElem?_toArray]
      rw [this, h2]; rfl
    simp only [Option.map_some, Sem.run_bind, hkey, Instr.keyThatStays, hK.bits, if_true, Sem.run_pure, Result.andThen]
    rw [run_setObj_map _ hm]
    congr 2
    simp only [mapO, h3, h4]
    congr 1
    simp
theorem XO_mapUpdate {t k e r : Nat} {zv : Value} (b : β) (hT : MpT C.P t k e zv) (hK : KeyOK C.P k ek) (hx : evalS [] E x = some (.map (some r))) (hy : evalS [] E y = some (ek a)) (hz : evalS [] E z = some (ev b)) (hG : gd = none)
    (hu : Upd loc r (mapO ek ev m) (mapO ek ev (mset m a b)) loc') (h : XO C Q ops rest [] E I loc') : XO C Q ops (⟨none, .mapUpdate t x y z, ty, pos, af, gd⟩ :: rest) [] E I loc :=
  XO_world hG (by intro c e; cases e) fun a' w ha hw => by
    obtain ⟨w', hr, hs⟩ := run_mapUpdate (P := C.P) (ek := ek) (ev := ev) hT hK b hw hu
    simp only [execOp, evalS_sound (S := []) ha trivial rfl hx, evalS_sound (S := []) ha trivial rfl hy, evalS_sound (S := []) ha trivial rfl hz, Sem.run_bind, hr, Result.andThen, Sem.run_pure, Oper.uponIn_skip]
    exact h _ _ ha trivial hs
theorem XO_insert {t k e r : Nat} {zv : Value} (b : β) (hT : MpT C.P t k e zv) (hK : KeyOK C.P k ek) (hx : evalS [] E x = some (.map (some r))) (hy : evalS [] E y = some (ek a)) (hz : evalS [] E z = some (ev b)) (hG : gd = none)
    (hu : Upd loc r (mapO ek ev m) (mapO ek ev (mset m a b)) loc') (h : XO C Q ops rest [] E I loc') : XO C Q ops (⟨none, .insert t x y z, ty, pos, af, gd⟩ :: rest) [] E I loc :=
  XO_world hG (by intro c e; cases e) fun a' w ha hw => by
    obtain ⟨w', hr, hs⟩ := run_mapUpdate (P := C.P) (ek := ek) (ev := ev) hT hK b hw hu
    simp only [execOp, evalS_sound (S := []) ha trivial rfl hx, evalS_sound (S := []) ha trivial rfl hy, evalS_sound (S := []) ha trivial rfl hz, Sem.run_bind, hr, Result.andThen, Sem.run_pure, Oper.uponIn_skip]
    exact h _ _ ha trivial hs
theorem XO_makeMap {t : Nat} (hG : gd = none) (hN : Nat.blt d C.N = true) (h : ∀ r, XO C Q ops rest [] ((d, .map (some r)) :: E) I ((r, .map #[] 0) :: loc)) : XO C Q ops (⟨some d, .makeMap t none, ty, pos, af, gd⟩ :: rest) [] E I loc :=
  XO_world hG (by intro c e; cases e) fun a w ha hw => by
    simp only [execOp, Option.map_none, Instr.makeMap, Sem.run_bind, run_newObj_alloc, Result.andThen, Sem.run_pure, Oper.uponIn_value]
    exact h _ _ _ (ha.put hN _) trivial (hw.alloc _)

/-! ### A range over a map that the round leaves alone -/
def iterO (r n : Nat) (seen : List Nat) : Obj := .mapIter (some r) n seen.toArray n
theorem run_getObj_any {P : Program} {w : World} {r : Nat} {o : Obj} (h : w.heap[r]? = some o) (ho : o.isCells = false) : (getObj r).run P w = .ok o w := by
  cases o <;> simp [Obj.isCells] at ho <;> simp [getObj, Sem.run, h]
omit [DecidableEq α] in
theorem XO_range {t k e r : Nat} {zv : Value} (hx : evalS [] E x = some (.map (some r))) (hT : MpT C.P t k e zv) (hG : gd = none) (hN : Nat.blt d C.N = true) (hm : Mem I loc r (mapO ek ev m))
    (h : ∀ b, XO C Q ops rest [] ((d, .pointer (some ⟨b, 0, none⟩)) :: E) I ((b, iterO r m.length []) :: loc)) : XO C Q ops (⟨some d, .range t x, ty, pos, af, gd⟩ :: rest) [] E I loc :=
  XO_world hG (by intro c e; cases e) fun a w ha hw => by
    have hh := hm.heap hw
    simp only [execOp, evalS_sound (S := []) ha trivial rfl hx, Instr.range, Sem.run_bind, run_underlying hT.1, Result.andThen, run_getObj_map hh, Sem.run_pure, run_newObj_alloc, Oper.uponIn_value]
    exact h _ _ _ (ha.put hN _) trivial (hw.alloc _)
omit [DecidableEq α] in
theorem mem_entries (m : List (α × β)) : ∀ (k : Nat) (e : MapEntry), e ∈ entriesO ek ev k m ↔ ∃ i p, m[i]? = some p ∧ e = { key := ek p.1, val := ev p.2, born := k + i } := by
  induction m with
  | nil => intro k e; simp [entriesO]
  | cons q m ih =>
    intro k e
    simp only [entriesO, List.mem_cons, ih]
    constructor
    · rintro (rfl | ⟨i, p, h, rfl⟩)
      · exact ⟨0, q, rfl, rfl⟩
      · exact ⟨i + 1, p, by simpa using h, by congr 1; omega⟩
    · rintro ⟨i, p, h, rfl⟩
      cases i with
      | zero => simp at h; subst h; exact .inl rfl
      | succ i => exact .inr ⟨i, p, by simpa using h, by congr 1; omega⟩
omit [DecidableEq α] in
theorem run_next {P : Program} {g : World} {H : HMap} {w : World} {r b : Nat} {seen : List Nat} (hw : St g I H loc w) (hb : (b, iterO r m.length seen) ∈ loc) (hm : Mem I loc r (mapO ek ev m)) :
    (∃ w', (Instr.next (.pointer (some ⟨b, 0, none⟩)) false ty).run P w = .ok (.tuple #[.bool false]) w' ∧ (∀ i p, m[i]? = some p → i ∈ seen) ∧ St g I H loc w') ∨
    (∃ i p w', m[i]? = some p ∧ i ∉ seen ∧ (Instr.next (.pointer (some ⟨b, 0, none⟩)) false ty).run P w = .ok (.tuple #[.bool true, ek p.1, ev p.2]) w' ∧
      ∀ loc', Upd loc b (iterO r m.length seen) (iterO r m.length (seen ++ [i])) loc' → St g I H loc' w') := by
  have hh := hm.heap hw
  have hi := hw.own _ _ hb
  let es := entriesO ek ev 0 m
  have hes : ∀ e ∈ es, ∃ i p, m[i]? = some p ∧ e = { key := ek p.1, val := ev p.2, born := i } := fun e he => by
    obtain ⟨i, p, h1, h2⟩ := (mem_entries m 0 e).1 he
    exact ⟨i, p, h1, by rw [h2]; simp⟩
  have hlt : ∀ e ∈ es, e.born < m.length := fun e he => by
    obtain ⟨i, p, h1, rfl⟩ := hes e he
    exact (List.getElem?_eq_some_iff.1 h1).1
  have hguard : (!seen.toArray.isEmpty && !es.toArray.isEmpty && es.toArray.all (fun e => decide (e.born ≥ m.length))) = false := by
    cases hn : es with
    | nil => simp
    | cons e l =>
      have := hlt e (by rw [hn]; exact List.mem_cons_self ..)
      have hn' : ¬ e.born ≥ m.length := by omega
      simp [hn']
  let left := es.filter fun e => !seen.contains e.born
  have hold : (es.toArray.filter fun e => !seen.toArray.contains e.born) = left.toArray := by simp [left]
  have hall : left.filter (fun e => decide (e.born < m.length)) = left := by
    apply List.filter_eq_self.2
    intro e he
    have := hlt e (List.mem_filter.1 he).1
    simpa using this
  have hnone : left.filter (fun e => decide (e.born ≥ m.length)) = [] := by
    apply List.filter_eq_nil_iff.2
    intro e he
    have := hlt e (List.mem_filter.1 he).1
    simp; omega
  have hs1 : seen.toArray.isEmpty = seen.isEmpty := by simp
  unfold Instr.next
  simp only [Sem.run_bind, run_getObj_any hi rfl, Result.andThen, iterO]
  rw [run_getObj_map (es := es.toArray) (c := m.length) hh]
  simp only [hguard, Bool.false_eq_true, if_false]
  rw [hold]
  have e1 : (left.toArray.filter fun x => decide (x.born < m.length)) = left.toArray := by rw [List.filter_toArray, hall]
  have e2 : (left.toArray.filter fun x => decide (x.born ≥ m.length)) = #[] := by rw [List.filter_toArray, hnone]
  rw [e1, e2]
  obtain ⟨cand, hcand⟩ : ∃ cand : Array (Option MapEntry), (if left.toArray.isEmpty = true then #[none] else #[]) ++ Array.map some (left.toArray ++ #[]) = cand := ⟨_, rfl⟩
  rw [hcand]
  have hpos : 1 ≤ cand.size := by
    rw [← hcand]
    cases left with
    | nil => simp
    | cons e l => simp
  have hsel : ∀ q, q < cand.size → (left = [] ∧ cand[q]? = some none) ∨ ∃ e, e ∈ left ∧ cand[q]? = some (some e) := by
    intro q hq
    rw [← hcand] at hq ⊢
    cases hl : left with
    | nil => rw [hl] at hq; simp at hq; exact .inl ⟨rfl, by simp [hq]⟩
    | cons e l =>
      rw [hl] at hq
      right
      have hq' : q < (e :: l).length := by simpa using hq
      refine ⟨(e :: l)[q], List.getElem_mem _, ?_⟩
      have : ((e :: l).map some)[q]? = some (some (e :: l)[q]) := by rw [List.getElem?_map, List.getElem?_eq_getElem hq']; rfl
      simpa using this
  have hch : ∃ q w1, (choose (.mapNext cand.size)).run P w = .ok q w1 ∧ q < cand.size ∧ w1.heap = w.heap ∧ St g I H loc w1 := by
    rw [run_choose]
    split
    · exact ⟨0, w, rfl, by omega, rfl, hw⟩
    · exact ⟨_, _, rfl, Nat.mod_lt _ (by omega), rfl, hw.drew⟩
  obtain ⟨q, w1, hq1, hq2, hq3, hq4⟩ := hch
  simp only [Sem.run_bind, hq1, Result.andThen]
  rcases hsel q hq2 with ⟨h1, h2⟩ | ⟨e, h1, h2⟩
  · refine .inl ⟨w1, by simp only [h2, Sem.run_pure], fun i p hp => ?_, hq4⟩
    have hm' : ({ key := ek p.1, val := ev p.2, born := i } : MapEntry) ∈ es := (mem_entries m 0 _).2 ⟨i, p, hp, by simp⟩
    by_cases hin : i ∈ seen
    · exact hin
    · have : ({ key := ek p.1, val := ev p.2, born := i } : MapEntry) ∈ left := List.mem_filter.2 ⟨hm', by simpa using hin⟩
      rw [h1] at this; cases this
  · obtain ⟨hmem, hns⟩ := List.mem_filter.1 h1
    obtain ⟨i, p, hp, rfl⟩ := hes e hmem
    have hi1 : w1.heap[b]? = some (.mapIter (some r) m.length seen.toArray m.length) := by rw [hq3]; exact hi
    refine .inr ⟨i, p, w1.putObj b (iterO r m.length (seen ++ [i])), hp, by simpa using hns, ?_, fun loc' hu => hq4.putObj hu⟩
    simp only [h2]
    simp [setObj, Sem.run, hi1, World.putObj, iterO]
omit [DecidableEq α] in
theorem XO_next {r b : Nat} {seen : List Nat} (hx : evalS [] E x = some (.pointer (some ⟨b, 0, none⟩))) (hG : gd = none) (hN : Nat.blt d C.N = true) (hm : Mem I loc r (mapO ek ev m)) (hb : (b, iterO r m.length seen) ∈ loc)
    (h1 : (∀ i p, m[i]? = some p → i ∈ seen) → XO C Q ops rest [] ((d, .tuple #[.bool false]) :: E) I loc)
    (h2 : ∀ i p, m[i]? = some p → i ∉ seen → ∃ loc', Upd loc b (iterO r m.length seen) (iterO r m.length (seen ++ [i])) loc' ∧ XO C Q ops rest [] ((d, .tuple #[.bool true, ek p.1, ev p.2]) :: E) I loc') :
    XO C Q ops (⟨some d, .next x false, ty, pos, af, gd⟩ :: rest) [] E I loc :=
  XO_world hG (by intro c e; cases e) fun a w ha hw => by
    simp only [execOp, evalS_sound (S := []) ha trivial rfl hx, Sem.run_bind]
    rcases run_next (P := C.P) (ty := ty) hw hb hm with ⟨w', hr, h3, h4⟩ | ⟨i, p, w', h3, h4, hr, h5⟩
    · rw [hr]
      exact h1 h3 _ _ (ha.put hN _) trivial h4
    · rw [hr]
      obtain ⟨loc', hu, h6⟩ := h2 i p h3 h4
      exact h6 _ _ (ha.put hN _) trivial (h5 loc' hu)
omit [DecidableEq α] in
theorem ev_entry {r b : Nat} {seen : List Nat} {i : Nat} {p : α × β} (hx : evalS S E x = some (.pointer (some ⟨b, 0, none⟩))) (hm : Mem I loc r (mapO ek ev m)) (hb : Mem I loc b (iterO r m.length (seen ++ [i]))) (hp : m[i]? = some p) :
    EvalOp C S E I loc ⟨dst, .entry x, ty, pos, af, gd⟩ (.tuple #[ek p.1, ev p.2]) :=
  .of (by intro c e; cases e) fun a w ha hg hc hw => by
    have hh := hm.heap hw
    have hi := hb.heap hw
    have hfind : (entriesO ek ev 0 m).toArray.find? (fun e => e.born == i) = some { key := ek p.1, val := ev p.2, born := i } := by
      rw [List.find?_toArray]
      have key : ∀ (m : List (α × β)) (k i : Nat) (p : α × β), m[i]? = some p → (entriesO ek ev k m).find? (fun e => e.born == k + i) = some { key := ek p.1, val := ev p.2, born := k + i } := by
        intro m
        induction m with
        | nil => intro k i p h; simp at h
        | cons q m ih =>
          intro k i p h
          cases i with
          | zero => simp at h; subst h; simp [entriesO]
          | succ i =>
            simp only [entriesO, List.find?_cons]
            have hne : (k == k + (i + 1)) = false := by simp
            rw [hne]
            have := ih (k + 1) i p (by simpa using h)
            rw [show k + 1 + i = k + (i + 1) from by omega] at this
            exact this
      have := key m 0 i p hp
      simpa using this
    have hback : (seen ++ [i]).toArray.back? = some i := by simp
    simp only [execOp, evalS_sound ha hg hc hx, Instr.entry, Sem.run_bind, run_getObj_any hi rfl, Result.andThen, iterO, hback]
    rw [run_getObj_map hh]
    simp [hfind]
end
end Go.Kn
