/- A set of numbers as a map that a function makes, fills and strikes from. -/
import Derived.Test.YtgfggmmffmfolaaEngN
namespace Go.Kn
open Go

/-- Entries with the time of each one's birth: number and birth. -/
def entS (m : List (Int × Nat)) : List MapEntry := m.map fun p => { key := .int .i64 p.1, val := .bool true, born := p.2 }
def setO (m : List (Int × Nat)) (c : Nat) : Obj := .map (entS m).toArray c
def sidx : List (Int × Nat) → Int → Nat → Option Nat
  | [], _, _ => none
  | p :: m, a, k => if p.1 = a then some k else sidx m a (k + 1)
def sput (m : List (Int × Nat)) (c : Nat) (a : Int) : List (Int × Nat) × Nat := if a ∈ m.map (·.1) then (m, c) else (m ++ [(a, c)], c + 1)
def sdel (m : List (Int × Nat)) (a : Int) : List (Int × Nat) := match sidx m a 0 with | none => m | some i => m.eraseIdx i

theorem sidx_none {m : List (Int × Nat)} {a : Int} : ∀ {k : Nat}, sidx m a k = none ↔ a ∉ m.map (·.1) := by
  induction m with
  | nil => intro k; simp [sidx]
  | cons p m ih =>
    intro k
    simp only [sidx, List.map_cons, List.mem_cons, not_or]
    by_cases h : p.1 = a
    · simp [h]
    · rw [if_neg h, ih]
      exact ⟨fun g => ⟨fun e => h e.symm, g⟩, fun g => g.2⟩
theorem sidx_some {m : List (Int × Nat)} {a : Int} : ∀ {k j : Nat}, sidx m a k = some j → ∃ i p, j = k + i ∧ m[i]? = some p ∧ p.1 = a := by
  induction m with
  | nil => intro k j h; simp [sidx] at h
  | cons p m ih =>
    intro k j h
    simp only [sidx] at h
    split at h
    · rename_i e
      cases h
      exact ⟨0, p, rfl, rfl, e⟩
    · obtain ⟨i, q, e, h1, h2⟩ := ih h
      exact ⟨i + 1, q, by omega, by simpa using h1, h2⟩
theorem map_erase {α β : Type} (f : α → β) : ∀ (l : List α) (j : Nat), (l.eraseIdx j).map f = (l.map f).eraseIdx j
  | [], _ => rfl
  | _ :: _, 0 => rfl
  | x :: l, j + 1 => by simp only [List.eraseIdx_cons_succ, List.map_cons, map_erase f l j]
theorem findNow_S {a : Int} : ∀ (m : List (Int × Nat)) (i : Nat), Instr.findNow (.int .i64) (.int .i64 a) (entS m) i = some ((sidx m a i).map fun j => (j, .bool true))
  | [], _ => rfl
  | p :: m, i => by
    simp only [entS, List.map_cons, Instr.findNow, Instr.sameNow, if_true, sidx]
    by_cases h : p.1 = a
    · simp [h]
    · have h' : ¬ a = p.1 := fun e => h e.symm
      simp only [if_neg h]
      have := findNow_S (a := a) m (i + 1)
      simp only [entS] at this
      have hb : (a == p.1) = false := beq_false_of_ne h'
      rw [hb]
      exact this
theorem run_findS {P : Program} {k : Nat} (hK : P.underlying k = some (.int .i64)) (m : List (Int × Nat)) (a : Int) (w : World) : (Instr.findKey k (.int .i64 a) (entS m)).run P w = .ok ((sidx m a 0).map fun j => (j, .bool true)) w := by
  simp only [Instr.findKey, Sem.run_bind, run_underlying hK, Result.andThen, findNow_S, Sem.run_pure]

section
variable {C : Cx} {Q : Exit → Act → World → Prop} {E E' : Env} {I I' : HMap} {loc loc' L R : Loc} {ops : Array Oper} {rest : List Oper} {S : GS}
variable {dst : Option Tmp} {d : Nat} {ty : TypeId} {pos : String} {af : Array Edge} {gd : Option (Nat × Bool)} {x y z : Operand} {m : List (Int × Nat)} {a : Int}

theorem ev_lookupS {t k e r c : Nat} (hT : MpT C.P t k e (.bool false)) (hK : C.P.underlying k = some (.int .i64)) (hx : evalS S E x = some (.map (some r))) (hy : evalS S E y = some (.int .i64 a)) (hm : conj S = true → Mem I loc r (setO m c)) :
    EvalOp C S E I loc ⟨dst, .lookup t x y false, ty, pos, af, gd⟩ (.bool (decide (a ∈ m.map (·.1)))) :=
  .of (by intro c e; cases e) fun a' w ha hg hc hw => by
    have h1 : (Instr.lookup t (.map (some r)) (.int .i64 a) false).run C.P w = .ok (.bool (decide (a ∈ m.map (·.1)))) w := by
      have hh := (hm hc).heap hw
      simp only [Instr.lookup, Sem.run_bind, run_underlying hT.1, Result.andThen, run_getObj_map hh, Sem.run_pure, (key_int hK).chk, run_findS hK]
      cases hi : sidx m a 0 with
      | none => simp [run_zeroValue hT.2, sidx_none.1 hi]
      | some j =>
        have : a ∈ m.map (·.1) := Decidable.not_not.1 fun h => by rw [sidx_none.2 h] at hi; cases hi
        simp [this]
    simp only [execOp, evalS_sound ha hg hc hx, evalS_sound ha hg hc hy, Sem.run_bind, h1, Result.andThen, Sem.run_pure, Bool.false_eq_true, if_false]
theorem ev_lenSet {t k e r c : Nat} {zv : Value} (hx : evalS S E x = some (.map (some r))) (hT : MpT C.P t k e zv) (hm : conj S = true → Mem I loc r (setO m c)) : EvalOp C S E I loc ⟨dst, .call ⟨.builtin .len, #[x], #[t]⟩, ty, pos, af, gd⟩ (.int .i64 m.length) :=
  .of (by intro c e; cases e) fun a w ha hg hc hw => by
    have hh := (hm hc).heap hw
    simp only [execOp, resolve, List.map_toArray, List.map_cons, List.map_nil, evalS_sound ha hg hc hx, Sem.run_bind, Sem.run_pure, Result.andThen, invoke, builtin, Builtin.len_, List.getElem?_toArray, List.getElem?_cons_zero, run_underlying hT.1, goInt, run_getObj_map hh, List.size_toArray, entS, List.length_map]
theorem XO_putS {t k e r c : Nat} {zv : Value} (hT : MpT C.P t k e zv) (hK : C.P.underlying k = some (.int .i64)) (hx : evalS [] E x = some (.map (some r))) (hy : evalS [] E y = some (.int .i64 a)) (hz : evalS [] E z = some (.bool true)) (hG : gd = none)
    (hu : Upd loc r (setO m c) (setO (sput m c a).1 (sput m c a).2) loc') (h : XO C Q ops rest [] E I loc') : XO C Q ops (⟨none, .mapUpdate t x y z, ty, pos, af, gd⟩ :: rest) [] E I loc :=
  XO_world hG (by intro c e; cases e) fun a' w ha hw => by
    have hh := hw.own _ _ hu.mem
    have hr : (Instr.mapUpdate t (.map (some r)) (.int .i64 a) (.bool true)).run C.P w = .ok () (w.putObj r (setO (sput m c a).1 (sput m c a).2)) := by
      simp only [Instr.mapUpdate, Sem.run_bind, run_underlying hT.1, Result.andThen, run_getObj_map hh, (key_int hK).chk, run_findS hK]
      cases hi : sidx m a 0 with
      | none =>
        have hn := sidx_none.1 hi
        simp only [Option.map_none]
        rw [run_setObj_map _ hh]
        unfold sput
        rw [if_neg hn]
        congr 2
        simp [setO, entS]
      | some j =>
        have hy' : a ∈ m.map (·.1) := Decidable.not_not.1 fun h => by rw [sidx_none.2 h] at hi; cases hi
        obtain ⟨i, p, e, h1, h2⟩ := sidx_some hi
        have e : j = i := by omega
        subst e
        have hje : (entS m)[j]? = some { key := .int .i64 a, val := .bool true, born := p.2 } := by simp [entS, h1, h2]
        simp only [Option.map_some, Sem.run_bind, List.getElem?_toArray, hje, Option.getD_some, Instr.keyThatStays, (key_int hK).bits, if_true, Sem.run_pure, Result.andThen]
        rw [run_setObj_map _ hh]
        unfold sput
        rw [if_pos hy']
        congr 2
        simp only [setO]
        congr 1
        have : (entS m).modify j (fun e => { e with key := .int .i64 a, val := .bool true }) = entS m := by
          refine List.ext_getElem? fun q => ?_
          rw [List.getElem?_modify]
          by_cases hq : j = q
          · subst hq; rw [hje]; simp
          · simp [hq]
        simp [this]
    simp only [execOp, evalS_sound (S := []) ha trivial rfl hx, evalS_sound (S := []) ha trivial rfl hy, evalS_sound (S := []) ha trivial rfl hz, Sem.run_bind, hr, Result.andThen, Sem.run_pure, Oper.uponIn_skip]
    exact h _ _ ha trivial (hw.putObj hu)
theorem XO_delS {t k e r c : Nat} {zv : Value} (hT : MpT C.P t k e zv) (hK : C.P.underlying k = some (.int .i64)) (hx : evalS [] E x = some (.map (some r))) (hy : evalS [] E y = some (.int .i64 a)) (hG : gd = none)
    (hu : Upd loc r (setO m c) (setO (sdel m a) c) loc') (h : XO C Q ops rest [] E I loc') : XO C Q ops (⟨none, .call ⟨.builtin .delete, #[x, y], #[t, k]⟩, ty, pos, af, gd⟩ :: rest) [] E I loc :=
  XO_world hG (by intro c e; cases e) fun a' w ha hw => by
    have hh := hw.own _ _ hu.mem
    have hr : (Builtin.delete_ #[t, k] ty #[.map (some r), .int .i64 a]).run C.P w = .ok (.tuple #[]) (w.putObj r (setO (sdel m a) c)) := by
      simp only [Builtin.delete_, List.getElem?_toArray, List.getElem?_cons_zero, List.getElem?_cons_succ, Sem.run_bind, run_underlying hT.1, Result.andThen, run_getObj_map hh, (key_int hK).chk, run_findS hK]
      unfold sdel
      cases hi : sidx m a 0 with
      | none =>
        simp only [Option.map_none]
        rw [Sem.run_bind, run_setObj_map _ hh]; rfl
      | some j =>
        obtain ⟨i, p, e, h1, h2⟩ := sidx_some hi
        have e : j = i := by omega
        subst e
        have hj : j < m.length := (List.getElem?_eq_some_iff.1 h1).1
        simp only [Option.map_some]
        rw [Sem.run_bind, run_setObj_map _ hh]
        simp only [Result.andThen, Sem.run_pure]
        congr 2
        simp only [setO]
        congr 1
        unfold Array.eraseIdxIfInBounds
        rw [dif_pos (by simp [entS, hj])]
        simp [entS, map_erase]
    simp only [execOp, resolve, List.map_toArray, List.map_cons, List.map_nil, evalS_sound (S := []) ha trivial rfl hx, evalS_sound (S := []) ha trivial rfl hy, Sem.run_bind, Sem.run_pure, Result.andThen, invoke, builtin, hr, Oper.uponIn_value]
    exact h _ _ ha trivial (hw.putObj hu)
end
theorem sput_new {m : List (Int × Nat)} {c : Nat} {a : Int} (h : a ∉ m.map (·.1)) : ((sput m c a).1).map (·.1) = m.map (·.1) ++ [a] := by unfold sput; rw [if_neg h]; simp
theorem sdel_mem {m : List (Int × Nat)} {a : Int} (hn : (m.map (·.1)).Nodup) : ((sdel m a).map (·.1)).Nodup ∧ ∀ x, x ∈ (sdel m a).map (·.1) ↔ x ∈ m.map (·.1) ∧ x ≠ a := by
  unfold sdel
  cases hi : sidx m a 0 with
  | none =>
    have := sidx_none.1 hi
    exact ⟨hn, fun x => ⟨fun h => ⟨h, fun e => this (e ▸ h)⟩, fun h => h.1⟩⟩
  | some j =>
    obtain ⟨i, p, e, h1, h2⟩ := sidx_some hi
    have e : j = i := by omega
    subst e
    have e2 : (m.eraseIdx j).map (·.1) = (m.map (·.1)).eraseIdx j := map_erase ..
    simp only [e2]
    have hj : (m.map (·.1))[j]? = some a := by simp [h1, h2]
    refine ⟨hn.sublist (List.eraseIdx_sublist ..), fun x => ?_⟩
    rw [List.mem_eraseIdx_iff_getElem?]
    constructor
    · rintro ⟨q, hq, hx⟩
      refine ⟨List.mem_of_getElem? hx, fun e => hq ?_⟩
      obtain ⟨l1, g1⟩ := List.getElem?_eq_some_iff.1 hx
      obtain ⟨l2, g2⟩ := List.getElem?_eq_some_iff.1 hj
      exact (List.getElem_inj hn).1 (by rw [g1, g2, e])
    · rintro ⟨hx, hne⟩
      obtain ⟨q, hq⟩ := List.getElem?_of_mem hx
      exact ⟨q, fun e => by rw [e, hj] at hq; exact hne (Option.some.inj hq).symm, hq⟩
end Go.Kn
