/- A calculus of rules over the kit's fenced weakest preconditions: environments, heaps in parts, regions with guards. Generic over the program; no condition. -/
import Derived.TacticsIn
import Derived.RangeFuncRecord
import Derived.RangeFuncNested
import Derived.Laws.Entries
import Derived.Laws.Cells
import Derived.Laws.AppendOwn
import Derived.Below
import Derived.IntWalk
import Derived.Deep.Quiet
namespace Go.Kn
open Go

abbrev Env := List (Nat × Value)
def look : Env → Nat → Option Value
  | [], _ => none
  | (k, v) :: E, i => bif Nat.beq k i then some v else look E i

abbrev HMap := Nat → Option Obj
abbrev Loc := List (Nat × Obj)
def HLe (I I' : HMap) : Prop := ∀ b o, I b = some o → I' b = some o
theorem HLe.refl (I : HMap) : HLe I I := fun _ _ h => h
theorem HLe.trans {I J K : HMap} (h : HLe I J) (k : HLe J K) : HLe I K := fun b o e => k b o (h b o e)

structure St (g : World) (I H : HMap) (loc : Loc) (w : World) : Prop where
  os : w.os = g.os
  tape : w.tape = g.tape
  out : w.output = g.output
  size : g.heap.size ≤ w.heap.size
  imm : ∀ b o, I b = some o → w.heap[b]? = some o
  frm : ∀ b o, H b = some o → w.heap[b]? = some o
  own : ∀ b o, (b, o) ∈ loc → w.heap[b]? = some o
  sepIH : ∀ b, I b = none ∨ H b = none
  sepIL : ∀ b o, (b, o) ∈ loc → I b = none ∧ H b = none
  nodup : (loc.map (·.1)).Nodup

section
variable {g : World} {I I' H : HMap} {loc loc' : Loc} {w w' : World}

theorem St.fresh (h : St g I H loc w) : I w.heap.size = none ∧ H w.heap.size = none ∧ ∀ o, (w.heap.size, o) ∉ loc := by
  refine ⟨?_, ?_, fun o ho => ?_⟩
  · cases e : I w.heap.size with
    | none => rfl
    | some o => have := h.imm _ _ e; simp at this
  · cases e : H w.heap.size with
    | none => rfl
    | some o => have := h.frm _ _ e; simp at this
  · have := h.own _ _ ho; simp at this

theorem St.alloc (h : St g I H loc w) (o : Obj) : St g I H ((w.heap.size, o) :: loc) (w.alloc o) := by
  have hn : ∀ b o', w.heap[b]? = some o' → (w.alloc o).heap[b]? = some o' := fun b o' e => by
    have hb : b < w.heap.size := (Array.getElem?_eq_some_iff.1 e).1
    show (w.heap.push o)[b]? = _
    rw [Array.getElem?_push, if_neg (by omega)]; exact e
  obtain ⟨f1, f2, f3⟩ := h.fresh
  refine ⟨h.os, h.tape, h.out, ?_, fun b o' e => hn _ _ (h.imm b o' e), fun b o' e => hn _ _ (h.frm b o' e), ?_, h.sepIH, ?_, ?_⟩
  · have := h.size; show _ ≤ (w.heap.push o).size; simp; omega
  · intro b o' hm
    rcases List.mem_cons.1 hm with e | hm
    · cases e; show (w.heap.push o)[w.heap.size]? = _; simp
    · exact hn _ _ (h.own b o' hm)
  · intro b o' hm
    rcases List.mem_cons.1 hm with e | hm
    · cases e; exact ⟨f1, f2⟩
    · exact h.sepIL b o' hm
  · simp only [List.map_cons, List.nodup_cons]
    refine ⟨fun hm => ?_, h.nodup⟩
    obtain ⟨⟨b, o'⟩, hm, e⟩ := List.mem_map.1 hm
    simp only at e; subst e
    exact f3 _ hm

theorem St.mono (h : St g I H loc w) (hI : HLe I' I) : St g I' H loc w :=
  ⟨h.os, h.tape, h.out, h.size, fun b o e => h.imm b o (hI b o e), h.frm, h.own,
   fun b => by
     rcases h.sepIH b with e | e
     · left; cases e' : I' b with
       | none => rfl
       | some o => have := hI b o e'; rw [e] at this; cases this
     · exact .inr e,
   fun b o hm => ⟨(by
      cases e' : I' b with
      | none => rfl
      | some o' => have := hI b o' e'; rw [(h.sepIL b o hm).1] at this; cases this), (h.sepIL b o hm).2⟩, h.nodup⟩

/-- One own block turns. -/
inductive Upd : Loc → Nat → Obj → Obj → Loc → Prop
  | here {b : Nat} {o o' : Obj} {l : Loc} : Upd ((b, o) :: l) b o o' ((b, o') :: l)
  | there {x : Nat × Obj} {b : Nat} {o o' : Obj} {l l' : Loc} (h : Upd l b o o' l') : Upd (x :: l) b o o' (x :: l')

theorem Upd.mem {b : Nat} {o o' : Obj} (h : Upd loc b o o' loc') : (b, o) ∈ loc := by
  induction h with
  | here => exact List.mem_cons_self ..
  | there _ ih => exact List.mem_cons_of_mem _ ih
theorem Upd.keys {b : Nat} {o o' : Obj} (h : Upd loc b o o' loc') : loc'.map (·.1) = loc.map (·.1) := by
  induction h with
  | here => rfl
  | there _ ih => simp [ih]
theorem Upd.mem' {b : Nat} {o o' : Obj} (h : Upd loc b o o' loc') (hn : (loc.map (·.1)).Nodup) : ∀ c p, (c, p) ∈ loc' → (c = b ∧ p = o') ∨ (c ≠ b ∧ (c, p) ∈ loc) := by
  induction h with
  | here =>
    intro c p hm
    simp only [List.map_cons, List.nodup_cons] at hn
    rcases List.mem_cons.1 hm with e | hm2
    · cases e; exact .inl ⟨rfl, rfl⟩
    · refine .inr ⟨fun e => ?_, List.mem_cons_of_mem _ hm2⟩
      subst e; exact hn.1 (List.mem_map.2 ⟨(_, p), hm2, rfl⟩)
  | @there x b o o' l l' h ih =>
    intro c p hm
    simp only [List.map_cons, List.nodup_cons] at hn
    rcases List.mem_cons.1 hm with e | hm
    · subst e
      refine .inr ⟨fun e => ?_, List.mem_cons_self ..⟩
      subst e; exact hn.1 (List.mem_map.2 ⟨_, h.mem, rfl⟩)
    · rcases ih hn.2 c p hm with e | ⟨e, hm⟩
      · exact .inl e
      · exact .inr ⟨e, List.mem_cons_of_mem _ hm⟩

/-- A world in which one own block has turned, all else as it was. -/
theorem St.turn (h : St g I H loc w) {b : Nat} {o o' : Obj} (hu : Upd loc b o o' loc') (ho : w'.os = w.os) (ht : w'.tape = w.tape) (hp : w'.output = w.output) (hs : w'.heap.size = w.heap.size)
    (hb : w'.heap[b]? = some o') (hr : ∀ c, c ≠ b → w'.heap[c]? = w.heap[c]?) : St g I H loc' w' := by
  have hI : ∀ c o, I c = some o → c ≠ b := fun c p e e' => by subst e'; rw [(h.sepIL _ _ hu.mem).1] at e; cases e
  have hH : ∀ c o, H c = some o → c ≠ b := fun c p e e' => by subst e'; rw [(h.sepIL _ _ hu.mem).2] at e; cases e
  refine ⟨ho.trans h.os, ht.trans h.tape, hp.trans h.out, by rw [hs]; exact h.size, fun c p e => (hr c (hI c p e)).trans (h.imm c p e), fun c p e => (hr c (hH c p e)).trans (h.frm c p e), ?_, h.sepIH, ?_, by rw [hu.keys]; exact h.nodup⟩
  · intro c p hm
    rcases hu.mem' h.nodup c p hm with ⟨rfl, rfl⟩ | ⟨e, hm⟩
    · exact hb
    · exact (hr c e).trans (h.own c p hm)
  · intro c p hm
    rcases hu.mem' h.nodup c p hm with ⟨rfl, rfl⟩ | ⟨e, hm⟩
    · exact h.sepIL _ _ hu.mem
    · exact h.sepIL c p hm

theorem St.setCell (h : St g I H loc w) {b off : Nat} {c : Array Value} {t : TypeId} {fz : Nat × Nat} {v : Value} (hu : Upd loc b (.cells c t fz) (.cells (c.setIfInBounds off v) t fz) loc') :
    St g I H loc' (w.setCell ⟨b, off, none⟩ v) := by
  have hb := h.own _ _ hu.mem
  refine h.turn hu rfl rfl rfl (by simp [World.setCell]) ?_ (fun c hc => Below.heap_setCell _ _ _ _ hc)
  simp only [World.setCell, Array.getElem?_modify, if_pos, hb, Option.map_some]
  simp
where Below.heap_setCell (w : World) (a : Addr) (u : Value) (k : Nat) (h : k ≠ a.block) : (w.setCell a u).heap[k]? = w.heap[k]? := RowKit.Below.heap_setCell w a u k h

theorem St.putObj (h : St g I H loc w) {b : Nat} {o o' : Obj} (hu : Upd loc b o o' loc') : St g I H loc' (w.putObj b o') := by
  have hb := h.own _ _ hu.mem
  have hlt : b < w.heap.size := (Array.getElem?_eq_some_iff.1 hb).1
  exact h.turn hu rfl rfl rfl (by simp) (World.putObj_heap_same hlt) (fun c hc => World.putObj_heap_other hc)

theorem St.drew (h : St g I H loc w) : St g I H loc { w with drawn := w.drawn + 1 } :=
  ⟨h.os, h.tape, h.out, h.size, h.imm, h.frm, h.own, h.sepIH, h.sepIL, h.nodup⟩
theorem St.drew' (h : St g I H loc w) : St g I H loc w.drew := h.drew

/-- One own block becomes immutable. -/
inductive Take : Loc → Nat → Obj → Loc → Prop
  | here {b : Nat} {o : Obj} {l : Loc} : Take ((b, o) :: l) b o l
  | there {x : Nat × Obj} {b : Nat} {o : Obj} {l l' : Loc} (h : Take l b o l') : Take (x :: l) b o (x :: l')

theorem Take.mem {b : Nat} {o : Obj} (h : Take loc b o loc') : (b, o) ∈ loc := by
  induction h with
  | here => exact List.mem_cons_self ..
  | there _ ih => exact List.mem_cons_of_mem _ ih
theorem Take.sub {b : Nat} {o : Obj} (h : Take loc b o loc') : ∀ c p, (c, p) ∈ loc' → (c, p) ∈ loc := by
  induction h with
  | here => exact fun c p hm => List.mem_cons_of_mem _ hm
  | there _ ih => exact fun c p hm => (List.mem_cons.1 hm).elim (fun e => e ▸ List.mem_cons_self ..) (fun hm => List.mem_cons_of_mem _ (ih c p hm))
theorem Take.nodup {b : Nat} {o : Obj} (h : Take loc b o loc') (hn : (loc.map (·.1)).Nodup) : (loc'.map (·.1)).Nodup ∧ ∀ p, (b, p) ∉ loc' := by
  induction h with
  | here =>
    simp only [List.map_cons, List.nodup_cons] at hn
    exact ⟨hn.2, fun p hm => hn.1 (List.mem_map.2 ⟨(_, p), hm, rfl⟩)⟩
  | @there x b o l l' h ih =>
    simp only [List.map_cons, List.nodup_cons] at hn ⊢
    obtain ⟨i1, i2⟩ := ih hn.2
    refine ⟨⟨fun hm => ?_, i1⟩, fun p hm => ?_⟩
    · obtain ⟨⟨c, p⟩, hm, e⟩ := List.mem_map.1 hm
      exact hn.1 (List.mem_map.2 ⟨_, h.sub _ _ hm, e⟩)
    · rcases List.mem_cons.1 hm with e | hm
      · subst e; exact hn.1 (List.mem_map.2 ⟨_, h.mem, rfl⟩)
      · exact i2 p hm

def addB (I : HMap) (b : Nat) (o : Obj) : HMap := fun x => if x = b then some o else I x
def addL (I : HMap) : Loc → HMap
  | [] => I
  | (b, o) :: l => fun x => if x = b then some o else addL I l x

theorem addB_self (I : HMap) (b : Nat) (o : Obj) : addB I b o b = some o := by simp [addB]

theorem St.freeze (h : St g I H loc w) {b : Nat} {o : Obj} (ht : Take loc b o loc') : St g (addB I b o) H loc' w ∧ HLe I (addB I b o) ∧ addB I b o b = some o := by
  obtain ⟨n1, n2⟩ := ht.nodup h.nodup
  refine ⟨⟨h.os, h.tape, h.out, h.size, ?_, h.frm, fun c p hm => h.own c p (ht.sub c p hm), ?_, ?_, n1⟩, ?_, by simp [addB]⟩
  · intro c p e
    simp only [addB] at e
    split at e
    · cases e; rename_i e; subst e; exact h.own _ _ ht.mem
    · exact h.imm c p e
  · intro c
    by_cases e : c = b
    · subst e; exact .inr (h.sepIL _ _ ht.mem).2
    · simp only [addB, if_neg e]; exact h.sepIH c
  · intro c p hm
    have hne : c ≠ b := fun e => by subst e; exact n2 p hm
    simp only [addB, if_neg hne]
    exact h.sepIL c p (ht.sub c p hm)
  · intro c p e
    have hne : c ≠ b := fun e' => by subst e'; rw [(h.sepIL _ _ ht.mem).1] at e; cases e
    simp only [addB, if_neg hne]; exact e

theorem addL_old {l : Loc} : ∀ {b : Nat}, (∀ o, (b, o) ∉ l) → addL H l b = H b := by
  induction l with
  | nil => intro b _; rfl
  | cons x l ih =>
    obtain ⟨c, p⟩ := x
    intro b hb
    have hne : b ≠ c := fun e => by subst e; exact hb p (List.mem_cons_self ..)
    simp only [addL, if_neg hne]
    exact ih (fun o ho => hb o (List.mem_cons_of_mem _ ho))
theorem addL_new {l : Loc} (hn : (l.map (·.1)).Nodup) : ∀ {b : Nat} {o : Obj}, (b, o) ∈ l → addL H l b = some o := by
  induction l with
  | nil => intro b o hm; cases hm
  | cons x l ih =>
    obtain ⟨c, p⟩ := x
    simp only [List.map_cons, List.nodup_cons] at hn
    intro b o hm
    rcases List.mem_cons.1 hm with e | hm2
    · cases e; simp [addL]
    · have hne : b ≠ c := fun e => by subst e; exact hn.1 (List.mem_map.2 ⟨(_, o), hm2, rfl⟩)
      simp only [addL, if_neg hne]
      exact ih hn.2 hm2
theorem addL_inv {l : Loc} : ∀ {b : Nat} {o : Obj}, addL H l b = some o → (b, o) ∈ l ∨ H b = some o := by
  induction l with
  | nil => intro b o e; exact .inr e
  | cons x l ih =>
    obtain ⟨c, p⟩ := x
    intro b o e
    simp only [addL] at e
    split at e
    · cases e; rename_i e; subst e; exact .inl (List.mem_cons_self ..)
    · exact (ih e).imp (List.mem_cons_of_mem _) id

theorem St.hide (h : St g I H loc w) : St g I (addL H loc) [] w := by
  refine ⟨h.os, h.tape, h.out, h.size, h.imm, ?_, (fun b o hm => by cases hm), ?_, (fun b o hm => by cases hm), by simp⟩
  · intro b o e
    rcases addL_inv e with hm | e
    · exact h.own b o hm
    · exact h.frm b o e
  · intro b
    cases e : addL H loc b with
    | none => exact .inr rfl
    | some o =>
      rcases addL_inv e with hm | e
      · exact .inl (h.sepIL b o hm).1
      · rcases h.sepIH b with e' | e'
        · exact .inl e'
        · rw [e'] at e; cases e

theorem St.unhide (h : St g I H loc w) {L : Loc} (h' : St g I' (addL H loc) L w') : St g I' H (L ++ loc) w' := by
  have hold : ∀ b o, H b = some o → addL H loc b = some o := fun b o e => by
    rw [addL_old (fun p hm => by rw [(h.sepIL b p hm).2] at e; cases e)]; exact e
  have hnew : ∀ b o, (b, o) ∈ loc → addL H loc b = some o := fun b o hm => addL_new h.nodup hm
  refine ⟨h'.os, h'.tape, h'.out, h'.size, h'.imm, fun b o e => h'.frm b o (hold b o e), ?_, ?_, ?_, ?_⟩
  · intro b o hm
    rcases List.mem_append.1 hm with hm | hm
    · exact h'.own b o hm
    · exact h'.frm b o (hnew b o hm)
  · intro b
    rcases h'.sepIH b with e | e
    · exact .inl e
    · cases e' : H b with
      | none => exact .inr rfl
      | some o => rw [hold b o e'] at e; cases e
  · intro b o hm
    rcases List.mem_append.1 hm with hm | hm
    · obtain ⟨e1, e2⟩ := h'.sepIL b o hm
      refine ⟨e1, ?_⟩
      cases e' : H b with
      | none => rfl
      | some p => rw [hold b p e'] at e2; cases e2
    · refine ⟨?_, (h.sepIL b o hm).2⟩
      rcases h'.sepIH b with e | e
      · exact e
      · rw [hnew b o hm] at e; cases e
  · rw [List.map_append, List.nodup_append]
    refine ⟨h'.nodup, h.nodup, fun x hx y hy e => ?_⟩
    subst e
    obtain ⟨⟨b, o⟩, hm, rfl⟩ := List.mem_map.1 hx
    obtain ⟨⟨c, p⟩, hm', e⟩ := List.mem_map.1 hy
    simp only at e; subst e
    have := (h'.sepIL _ _ hm).2
    rw [hnew _ _ hm'] at this; cases this
end

/-! ### Environments -/
structure Fits (N : Nat) (D : List Deferred) (E : Env) (a : Act) : Prop where
  size : a.tmps.size = N
  defers : a.defers = D
  env : ∀ k v, look E k = some v → a.tmps.getD k undef = v

abbrev GS := List (Bool × Env)
def conj : GS → Bool
  | [] => true
  | (b, _) :: S => b && conj S
def FitsG : GS → Act → Prop
  | [], _ => True
  | (b, G) :: S, a => (∀ k v, look G k = some v → a.tmps.getD k undef = bif b && conj S then v else undef) ∧ FitsG S a
def lookS : GS → Env → Nat → Option Value
  | [], E, k => look E k
  | (_, G) :: S, E, k => match look G k with
    | some v => some v
    | none => lookS S E k
def topLook : GS → Env → Nat → Option Value
  | [], E, k => look E k
  | (_, G) :: _, _, k => look G k
def evalS (S : GS) (E : Env) : Operand → Option Value
  | .tmp t => lookS S E t
  | .const v => some v
  | .global g => some (.pointer (some ⟨g, 0, none⟩))
  | .func f => some (.func (.func f) #[] #[])

section
variable {N : Nat} {D : List Deferred} {S : GS} {E E' : Env} {a : Act}

theorem lookS_sound (h : Fits N D E a) : ∀ {S : GS}, FitsG S a → conj S = true → ∀ {k v}, lookS S E k = some v → a.tmps.getD k undef = v
  | [], _, _, k, v, e => h.env k v e
  | (b, G) :: S, hg, hc, k, v, e => by
    simp only [conj] at hc
    simp only [lookS] at e
    cases e' : look G k with
    | some u =>
      rw [e'] at e; cases e
      have := hg.1 k _ e'
      rw [hc] at this; exact this
    | none =>
      rw [e'] at e
      exact lookS_sound h hg.2 (by simp only [Bool.and_eq_true] at hc; exact hc.2) e

theorem evalS_sound (h : Fits N D E a) (hg : FitsG S a) (hc : conj S = true) {x : Operand} {v : Value} (e : evalS S E x = some v) : a.eval x = v := by
  cases x with
  | tmp t => exact lookS_sound h hg hc e
  | const u => exact Option.some.inj e
  | global g => exact Option.some.inj e
  | func f => exact Option.some.inj e

def Sub (E' E : Env) : Prop := ∀ k v, look E' k = some v → look E k = some v
theorem Sub.refl (E : Env) : Sub E E := fun _ _ h => h
theorem Sub.nil : Sub [] E := fun _ _ h => by cases h
theorem Sub.cons {k : Nat} {v : Value} (h : look E k = some v) (hs : Sub E' E) : Sub ((k, v) :: E') E := fun i u e => by
  simp only [look] at e
  cases hb : Nat.beq k i with
  | true => rw [hb] at e; cases e; rw [← Nat.eq_of_beq_eq_true hb]; exact h
  | false => rw [hb] at e; exact hs i u e
theorem Fits.sub (h : Fits N D E a) (hs : Sub E' E) : Fits N D E' a := ⟨h.size, h.defers, fun k v e => h.env k v (hs k v e)⟩

theorem getD_put_same {d : Nat} {v : Value} (h : d < a.tmps.size) : (a.put (some d) v).tmps.getD d undef = v := by
  simp [Act.put, h]
theorem getD_put_ne {d k : Nat} {v : Value} (h : k ≠ d) : (a.put (some d) v).tmps.getD k undef = a.tmps.getD k undef := by
  simp [Act.put, Array.getElem?_setIfInBounds_ne (Ne.symm h)]

theorem Fits.put (h : Fits N D E a) {d : Nat} (hd : Nat.blt d N = true) (v : Value) : Fits N D ((d, v) :: E) (a.put (some d) v) := by
  have hd' : d < N := Eq.mp Nat.blt_eq hd
  refine ⟨by simp [Act.put, h.size], h.defers, fun k u e => ?_⟩
  simp only [look] at e
  cases hb : Nat.beq d k with
  | true =>
    rw [hb] at e; cases e
    rw [← Nat.eq_of_beq_eq_true hb]
    exact getD_put_same (by rw [h.size]; exact hd')
  | false =>
    rw [hb] at e
    have hne : k ≠ d := fun e => by subst e; rw [show Nat.beq k k = true from Nat.beq_refl k] at hb; cases hb
    rw [getD_put_ne hne]
    exact h.env k u e
theorem Fits.put_none (h : Fits N D E a) {d : Nat} (hd : look E d = none) (v : Value) : Fits N D E (a.put (some d) v) :=
  ⟨by simp [Act.put, h.size], h.defers, fun k u e => by
    have hne : k ≠ d := fun e' => by subst e'; rw [hd] at e; cases e
    rw [getD_put_ne hne]; exact h.env k u e⟩

def freshG : GS → Nat → Bool
  | [], _ => true
  | (_, G) :: S, d => (look G d).isNone && freshG S d
theorem FitsG.put : ∀ {S : GS} {d : Nat}, FitsG S a → freshG S d = true → ∀ v, FitsG S (a.put (some d) v)
  | [], _, _, _, _ => trivial
  | (b, G) :: S, d, hg, hf, v => by
    simp only [freshG, Bool.and_eq_true] at hf
    refine ⟨fun k u e => ?_, FitsG.put hg.2 hf.2 v⟩
    have hne : k ≠ d := fun e' => by subst e'; rw [e] at hf; simp at hf
    rw [getD_put_ne hne]; exact hg.1 k u e

def putS : GS → Env → Nat → Value → GS
  | [], _, _, _ => []
  | (b, G) :: S, _, d, v => (b, (d, v) :: G) :: S
def putE : GS → Env → Nat → Value → Env
  | [], E, d, v => (d, v) :: E
  | _ :: _, E, _, _ => E
def freshS : GS → Env → Nat → Bool
  | [], _, _ => true
  | (_, _) :: S, E, d => (look E d).isNone && freshG S d

theorem fits_putS (h : Fits N D E a) (hg : FitsG S a) {d : Nat} (hd : Nat.blt d N = true) (hf : freshS S E d = true) (v : Value) :
    Fits N D (putE S E d v) (a.put (some d) (bif conj S then v else undef)) ∧ FitsG (putS S E d v) (a.put (some d) (bif conj S then v else undef)) := by
  cases S with
  | nil => exact ⟨h.put hd v, trivial⟩
  | cons x S =>
    obtain ⟨b, G⟩ := x
    simp only [freshS, Bool.and_eq_true, Option.isNone_iff_eq_none] at hf
    refine ⟨h.put_none hf.1 _, fun k u e => ?_, hg.2.put hf.2 _⟩
    simp only [look] at e
    cases hb : Nat.beq d k with
    | true =>
      rw [hb] at e; cases e
      rw [← Nat.eq_of_beq_eq_true hb]
      exact getD_put_same (by rw [h.size]; exact Eq.mp Nat.blt_eq hd)
    | false =>
      rw [hb] at e
      have hne : k ≠ d := fun e => by subst e; rw [show Nat.beq k k = true from Nat.beq_refl k] at hb; cases hb
      rw [getD_put_ne hne]; exact hg.1 k u e

inductive Guarded (ops : Array Oper) : GS → Env → Oper → Prop
  | none {E : Env} {o : Oper} (h : o.guard = none) : Guarded ops [] E o
  | some {S : GS} {b : Bool} {G E : Env} {o oj : Oper} {j dj : Nat} {want b0 : Bool} (h : o.guard = some (j, want)) (hj : ops[j]? = some oj) (hd : oj.dst = some dj)
      (hl : topLook S E dj = some (.bool b0)) (hb : b = (b0 == want)) : Guarded ops ((b, G) :: S) E o

theorem yielded_bool {ops : Array Oper} {j dj : Nat} {oj : Oper} (hj : ops[j]? = some oj) (hd : oj.dst = some dj) {b0 : Bool} (h : a.tmps.getD dj undef = .bool b0) : yielded ops a.tmps j = some b0 := by
  have : a.tmps[dj]? = some (.bool b0) := by
    cases e : a.tmps[dj]? with
    | none => simp [e, undef] at h
    | some v => simp [e] at h; rw [h]
  simp [yielded, hj, hd, this]
theorem yielded_undef {ops : Array Oper} {j dj : Nat} {oj : Oper} (hj : ops[j]? = some oj) (hd : oj.dst = some dj) (h : a.tmps.getD dj undef = undef) : yielded ops a.tmps j = none := by
  unfold yielded
  simp only [hj, Option.bind_some, hd]
  cases e : a.tmps[dj]? with
  | none => rfl
  | some v =>
    simp [e] at h; rw [h]; rfl

theorem Guarded.wanted {ops : Array Oper} {o : Oper} (hG : Guarded ops S E o) (h : Fits N D E a) (hg : FitsG S a) : Region.wanted o (yielded ops a.tmps) = conj S := by
  cases hG with
  | none h0 => simp [Region.wanted, h0, conj]
  | @some S b G E o oj j dj want b0 h0 hj hd hl hb =>
    simp only [Region.wanted, h0, conj]
    cases S with
    | nil =>
      rw [yielded_bool hj hd (h.env _ _ hl)]
      simp [hb, conj]
    | cons x S =>
      obtain ⟨b1, G1⟩ := x
      have := hg.2.1 _ _ hl
      cases hc : (b1 && conj S) with
      | true =>
        rw [hc] at this
        rw [yielded_bool hj hd this]
        simp [hb, conj, hc]
      | false =>
        rw [hc] at this
        rw [yielded_undef hj hd this]
        simp [conj, hc]

def env0 (i : Nat) : List Value → Env
  | [] => []
  | v :: l => (i, v) :: env0 (i + 1) l
theorem look_env0 : ∀ (l : List Value) (i k : Nat) (v : Value), look (env0 i l) k = some v → ∃ j, k = i + j ∧ l[j]? = some v
  | [], _, _, _, e => by cases e
  | u :: l, i, k, v, e => by
    simp only [env0, look] at e
    cases hb : Nat.beq i k with
    | true => rw [hb] at e; cases e; exact ⟨0, by simp [Nat.eq_of_beq_eq_true hb], by simp⟩
    | false =>
      rw [hb] at e
      obtain ⟨j, h1, h2⟩ := look_env0 l (i + 1) k v e
      exact ⟨j + 1, by omega, by simpa using h2⟩
theorem fits_init (args : List Value) (N : Nat) (h : args.length ≤ N) : Fits N [] (env0 0 args) { tmps := args.toArray ++ Array.replicate (N - args.toArray.size) undef, defers := [] } := by
  refine ⟨by simp; omega, rfl, fun k v e => ?_⟩
  obtain ⟨j, h1, h2⟩ := look_env0 args 0 k v e
  have hj : j < args.length := (List.getElem?_eq_some_iff.1 h2).1
  have hk : k = j := by omega
  subst hk
  have h3 : args[k]'hj = v := (List.getElem?_eq_some_iff.1 h2).2
  simp [Array.getElem?_append, hj, h3]
end
end Go.Kn
