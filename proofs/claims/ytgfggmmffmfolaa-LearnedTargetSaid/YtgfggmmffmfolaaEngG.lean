/- A range over a function: the iterator's contract, the caller's rule, the call of yield. Generic over the program; no condition. -/
import Derived.Test.YtgfggmmffmfolaaEngF
namespace Go.Kn
open Go

section
variable {g : World} {I I' H : HMap} {loc loc' L K A B : Loc} {w w' : World}
theorem addL_none {b : Nat} (h : addL H L b = none) : H b = none ∧ ∀ o, (b, o) ∉ L := by
  induction L with
  | nil => exact ⟨h, fun o ho => by cases ho⟩
  | cons x l ih =>
    obtain ⟨c, p⟩ := x
    simp only [addL] at h
    split at h
    · cases h
    · rename_i hne
      obtain ⟨h1, h2⟩ := ih h
      exact ⟨h1, fun o ho => (List.mem_cons.1 ho).elim (fun e => hne (by cases e; rfl)) (h2 o)⟩
theorem St.swap (h : St g I (addL H L) K w) (hn : (L.map (·.1)).Nodup) (hd : ∀ b o, (b, o) ∈ L → H b = none) : St g I (addL H K) L w := by
  have hL : ∀ b o, (b, o) ∈ L → addL H L b = some o := fun b o hm => addL_new hn hm
  have hH : ∀ b o, H b = some o → addL H L b = some o := fun b o e => by
    rw [addL_old (fun p hp => by rw [hd b p hp] at e; cases e)]; exact e
  refine ⟨h.os, h.tape, h.out, h.size, h.imm, ?_, fun b o hm => h.frm b o (hL b o hm), ?_, ?_, hn⟩
  · intro b o e
    rcases addL_inv e with hm | e
    · exact h.own b o hm
    · exact h.frm b o (hH b o e)
  · intro b
    cases e : addL H K b with
    | none => exact .inr rfl
    | some o =>
      rcases addL_inv e with hm | e
      · exact .inl (h.sepIL b o hm).1
      · rcases h.sepIH b with e' | e'
        · exact .inl e'
        · rw [hH b o e] at e'; cases e'
  · intro b o hm
    refine ⟨?_, ?_⟩
    · rcases h.sepIH b with e' | e'
      · exact e'
      · rw [hL b o hm] at e'; cases e'
    · rw [addL_old (fun p hp => by have := (h.sepIL b p hp).2; rw [hL b o hm] at this; cases this)]
      exact hd b o hm
theorem split_app : Split (A ++ B) A B := by
  induction A with
  | nil => exact .nil
  | cons x l ih => obtain ⟨b, o⟩ := x; exact .cons .here ih
theorem St.hideR (h : St g I H (A ++ B) w) : St g I (addL H B) A w := h.split split_app
theorem upd_app {b : Nat} {o o' : Obj} (h : Upd B b o o' K) : Upd (A ++ B) b o o' (A ++ K) := by
  induction A with
  | nil => exact h
  | cons x l ih => exact .there ih
end

/-- What a call of yield comes to: a round of the loop l; the caller's blocks H turn as Post says; the iterator's own blocks stay. -/
def YieldOK (P : Program) (g : World) (l : Nat) (args : List Value) (I H : HMap) (Post : Bool → HMap → HMap → Prop) : Prop :=
  ∀ loc W, St g I H loc W → ∃ fn tmps assign body, (Instr.yield l args.toArray).run P W = .ok (.round l fn tmps assign body) W ∧
    RoundIn Fence.wide 0 P l fn tmps assign body W fun e W' => ∃ b I' H', e = .returned (.bool b) ∧ HLe I I' ∧ St g I' H' loc W' ∧ Post b I' H'

/-- An iterator's contract: it hands on xs, in this order, until a round says no. -/
def SeqC {α : Type} (P : Program) (f : FuncId) (cap : List Value) (I : HMap) (enc : α → Value) (xs : List α) : Prop :=
  ∀ g l (J Jx : List α → HMap → HMap → Prop),
    (∀ pre x I' H', pre ++ [x] <+: xs → HLe I I' → J pre I' H' → YieldOK P g l [enc x] I' H' fun b I2 H2 => if b then J (pre ++ [x]) I2 H2 else Jx (pre ++ [x]) I2 H2) →
    ∀ I0 H w, HLe I I0 → J [] I0 H → St g I0 H [] w → Calls P f ((.func (.yield l) #[] #[] : Value) :: cap).toArray w fun e w' => ∃ v I' H', e = .returned v ∧ HLe I0 I' ∧ St g I' H' [] w' ∧ (J xs I' H' ∨ ∃ pre, pre <+: xs ∧ Jx pre I' H')
theorem SeqC.mono {α : Type} {P : Program} {f : FuncId} {cap : List Value} {I I' : HMap} {enc : α → Value} {xs : List α} (h : SeqC P f cap I enc xs) (hI : HLe I I') : SeqC P f cap I' enc xs :=
  fun g l J Jx hY I0 H w h0 hJ hw => h g l (fun pre I1 H1 => HLe I' I1 ∧ J pre I1 H1) (fun pre I1 H1 => HLe I' I1 ∧ Jx pre I1 H1)
    (fun pre x I1 H1 hp _ ⟨h2, h3⟩ loc W hW => by
      obtain ⟨fn, tmps, as, bd, hy, hR⟩ := hY pre x I1 H1 hp h2 h3 loc W hW
      refine ⟨fn, tmps, as, bd, hy, hR.mono ?_⟩
      rintro e W' ⟨b, I2, H2, he, h4, h5, h6⟩
      refine ⟨b, I2, H2, he, h4, h5, ?_⟩
      cases b with
      | true => exact ⟨h2.trans h4, h6⟩
      | false => exact ⟨h2.trans h4, h6⟩) I0 H w (hI.trans h0) ⟨h0, hJ⟩ hw |>.mono fun e w' ⟨v, I1, H1, he, h1, h2, h3⟩ => ⟨v, I1, H1, he, h1, h2, h3.elim (fun h => .inl h.2) (fun ⟨pre, hp, h⟩ => .inr ⟨pre, hp, h.2⟩)⟩

/-- A round's end, as the caller says it. -/
def RoundQ {α : Type} (g : World) (H : HMap) (Jc : List α → HMap → Loc → Prop) (Jx : Code → List α → HMap → Loc → Prop) (pre : List α) : Exit → Act → World → Prop
  | .normal, _, w => ∃ I loc, Jc pre I loc ∧ St g I H loc w
  | .ret, _, w => ∃ I loc, Jx .ret pre I loc ∧ St g I H loc w
  | .exit id, _, w => ∃ I loc, Jx (.exit id) pre I loc ∧ St g I H loc w
  | _, _, _ => False
section
variable {α : Type} {C : Cx} {Q : Exit → Act → World → Prop} {E E' : Env} {I I' : HMap} {loc loc' L R : Loc} {ops : Array Oper} {rest : List Oper} {S : GS}
variable {Jc : List α → HMap → Loc → Prop} {Jx : Code → List α → HMap → Loc → Prop} {pre : List α}
theorem at_round (h : Jc pre I loc) : At C (RoundQ C.g C.H Jc Jx pre) .normal E I loc := fun _ _ _ hw => ⟨I, loc, h, hw⟩
theorem at_round_ret (h : Jx .ret pre I loc) : At C (RoundQ C.g C.H Jc Jx pre) .ret E I loc := fun _ _ _ hw => ⟨I, loc, h, hw⟩
theorem at_round_exit {id : Nat} (h : Jx (.exit id) pre I loc) : At C (RoundQ C.g C.H Jc Jx pre) (.exit id) E I loc := fun _ _ _ hw => ⟨I, loc, h, hw⟩

/-- 'for x := range f { .. }' at a function's own level. -/
theorem X_rangeFunc {P : Program} {N : Nat} {g : World} {H : HMap} {gop : Operand} {p : Nat} {assign body : Code} {f : FuncId} {cap : List Value} {enc : α → Value} {xs : List α}
    (Jc : List α → HMap → Loc → Prop) (Jx : Code → List α → HMap → Loc → Prop) (Ja : List α → α → Env → HMap → Loc → Prop)
    (hg : evalS [] E gop = some (.func (.func f) #[] cap.toArray)) (hF : Fun P f) (hseq : SeqC P f cap I enc xs) (hp : Nat.blt p N = true) (h0 : Jc [] I loc)
    (hass : ∀ l pre x I' loc' H1, pre ++ [x] <+: xs → HLe I I' → Jc pre I' loc' → X ⟨P, some l, N, [], g, H1⟩ (Exit.then (Met ⟨P, some l, N, [], g, H1⟩ fun E2 I2 loc2 => HLe I' I2 ∧ Ja pre x E2 I2 loc2) (fun _ _ _ => False)) assign ((p, enc x) :: E) I' loc')
    (hbody : ∀ l pre x E2 I2 loc2 H2, pre ++ [x] <+: xs → HLe I I2 → Ja pre x E2 I2 loc2 → X ⟨P, some l, N, [], g, H2⟩ (RoundQ g H2 (fun q I3 loc3 => HLe I2 I3 ∧ Jc q I3 loc3) (fun c q I3 loc3 => HLe I2 I3 ∧ Jx c q I3 loc3) (pre ++ [x])) body E2 I2 loc2)
    (hdone : ∀ bd I' loc', HLe I I' → Jc xs I' loc' → At ⟨P, none, N, [{ target := .collected bd, args := #[] }], g, H⟩ Q .normal E I' (loc' ++ [(bd, .deferred (some []))]))
    (hstop : ∀ c bd pre I' loc', HLe I I' → pre <+: xs → Jx c pre I' loc' → X ⟨P, none, N, [{ target := .collected bd, args := #[] }], g, H⟩ Q c E I' (loc' ++ [(bd, .deferred (some []))])) :
    X ⟨P, none, N, [], g, H⟩ Q (.rangeFunc gop #[p] assign body) E I loc := by
  intro a w ha hw
  refine wpIn_rangeFunc fun fn _ => ?_
  have hen := run_enterLoop_outer (P := P) (w := w) fn a.tmps #[p] assign body
  generalize hbd : w.heap.size = bd at hen
  let rec_ : LoopState → Option Code → Obj := fun st pd => .loop { state := st, pending := pd, fn, tmps := a.tmps, params := #[p], assign, body, defers := bd }
  have hw1 : St g I H ((bd + 1, rec_ .ready none) :: (bd, .deferred (some [])) :: loc) ((w.alloc (.deferred (some []))).alloc (rec_ .ready none)) := by
    have h1 := hw.alloc (.deferred (some []))
    have h2 := h1.alloc (rec_ .ready none)
    rw [World.size_alloc, hbd] at h2
    exact h2
  have hev := evalS_sound (S := []) ha trivial rfl hg
  refine ⟨bd + 1, [{ target := .collected bd, args := #[] }], _, { target := .fn (.func f) cap.toArray, args := #[.func (.yield (bd + 1)) #[] #[]] }, (w.alloc (.deferred (some []))).alloc (rec_ .ready none), f, ((.func (.yield (bd + 1)) #[] #[] : Value) :: cap).toArray, (w.alloc (.deferred (some []))).alloc (rec_ .ready none), hen, ?_, fun _ _ => trivial, ?_, by simp [FR], callsFR.2 ?_⟩
  · have e2 : a.eval (.const (.func (.yield (bd + 1)) #[] #[])) = .func (.yield (bd + 1)) #[] #[] := rfl
    simp only [resolve, List.map_toArray, List.map_cons, List.map_nil, e2, hev, Deferred.ofValue]
    rfl
  · simp only [invoke, run_callFunc hF]
    simp
  -- the caller's blocks, between two rounds
  let Lr : LoopState → Option Code → Loc → Loc := fun st pd l' => l' ++ [(bd + 1, rec_ st pd), (bd, .deferred (some []))]
  have okL : ∀ {I' H1 l' W st pd}, St g I' H1 (Lr st pd l') W → ((Lr st pd l').map (·.1)).Nodup := fun h => h.nodup
  let J : List α → HMap → HMap → Prop := fun pre I' H' => ∃ l', Jc pre I' l' ∧ HLe I I' ∧ H' = addL H (Lr .ready none l') ∧ ((Lr .ready none l').map (·.1)).Nodup ∧ ∀ b o, (b, o) ∈ Lr .ready none l' → H b = none
  let Jy : List α → HMap → HMap → Prop := fun pre I' H' => ∃ c l', Jx c pre I' l' ∧ HLe I I' ∧ H' = addL H (Lr .done (some c) l') ∧ ((Lr .done (some c) l').map (·.1)).Nodup ∧ ∀ b o, (b, o) ∈ Lr .done (some c) l' → H b = none
  have hw2 : St g I H (Lr .ready none loc) ((w.alloc (.deferred (some []))).alloc (rec_ .ready none)) := by
    refine hw1.perm ?_ ?_
    · intro q
      simp only [Lr, List.mem_append, List.mem_cons, List.not_mem_nil, or_false]
      constructor
      · rintro (h | h | h)
        · exact .inr (.inr h)
        · exact .inl h
        · exact .inr (.inl h)
      · rintro (h | h | h)
        · exact .inr (.inl h)
        · exact .inr (.inr h)
        · exact .inl h
    · have hn := hw1.nodup
      simp only [List.map_cons, List.nodup_cons, List.mem_cons, not_or] at hn
      simp only [Lr, List.map_append, List.map_cons, List.map_nil]
      rw [List.nodup_append]
      refine ⟨hn.2.2, ?_, ?_⟩
      · simp
      · intro x hx y hy e
        simp only [List.mem_cons, List.not_mem_nil, or_false] at hy
        subst e
        rcases hy with rfl | rfl
        · exact hn.1.2 hx
        · exact hn.2.1 hx
  have hJ0 : J [] I (addL H (Lr .ready none loc)) := ⟨loc, h0, HLe.refl I, rfl, hw2.nodup, fun b o hm => (hw2.sepIL b o hm).2⟩
  refine (hseq g (bd + 1) J Jy ?_ I _ _ (HLe.refl I) hJ0 hw2.hide).mono ?_
  · -- a round
    intro pre x I' H' hpre hI ⟨l', hJc, _, hH, hnd, hdj⟩ lit W hW
    subst hH
    have hS1 := hW.swap hnd hdj
    have hrec : W.heap[bd + 1]? = some (rec_ .ready none) := hS1.own _ _ (by simp [Lr])
    refine ⟨fn, _, assign, body, run_yield (P := P) hrec (by simp), ?_⟩
    have hfit : Fits N [] ((p, enc x) :: E) { tmps := a.tmps.setIfInBounds p (enc x), defers := [] } := by
      have h1 := ha.put hp (enc x)
      exact ⟨h1.size, rfl, h1.env⟩
    have hdjK : ∀ b o, (b, o) ∈ lit → H b = none := fun b o hm => (addL_none (hW.sepIL b o hm).2).1
    refine roundIn_of_wpIn (F := Fence.wide) trivial ?_
    have htm : ((#[p] : Array Tmp).zip #[enc x]).foldl (fun tmps (t, v) => tmps.setIfInBounds t v) a.tmps = a.tmps.setIfInBounds p (enc x) := by simp
    show Code.wpIn _ _ _ _ _ { tmps := ((#[p] : Array Tmp).zip #[enc x]).foldl (fun tmps (t, v) => tmps.setIfInBounds t v) a.tmps, defers := [] } _
    rw [htm]
    have hA := hass (bd + 1) pre x I' l' (addL (addL H lit) [(bd + 1, rec_ .ready none), (bd, .deferred (some []))]) hpre hI hJc _ W hfit hS1.hideR
    refine wpIn_mono (F := Fence.wide.inRound (bd + 1)) (n := 0) (P := P) (show assign.wpIn (Fence.wide.inRound (bd + 1)) 0 P _ _ _ from hA) ?_
    intro e a1 W1 hq
    cases e with
    | normal =>
      obtain ⟨E2, I2, loc2, ⟨hI2, hJa⟩, hf2, hs2⟩ := hq
      have hs3 : St g I2 (addL H lit) (loc2 ++ [(bd + 1, rec_ .ready none), (bd, .deferred (some []))]) W1 := St.unhide (hS1.rest split_app) hs2
      have hrec1 : W1.heap[bd + 1]? = some (rec_ .ready none) := hs3.own _ _ (by simp)
      have hs4 := hs3.putObj (o' := rec_ .busy none) (b := bd + 1) (upd_app .here)
      refine ⟨_, run_beginRound (P := P) hrec1 rfl, ?_⟩
      have hB := hbody (bd + 1) pre x E2 I2 loc2 (addL (addL H lit) [(bd + 1, rec_ .busy none), (bd, .deferred (some []))]) hpre (hI.trans hI2) hJa a1 _ hf2 hs4.hideR
      refine wpIn_mono (F := Fence.wide.inRound (bd + 1)) (n := 0) (P := P) (show body.wpIn (Fence.wide.inRound (bd + 1)) 0 P _ _ _ from hB) ?_
      have fin : ∀ (W3 : World) (I3 : HMap) (loc3 : Loc) (jump : Option Code) (st : LoopState), St g I3 (addL (addL H lit) [(bd + 1, rec_ .busy none), (bd, .deferred (some []))]) loc3 W3 →
          (st = if jump.isNone then .ready else .done) →
          ∃ W4, (Instr.endRound (bd + 1) jump).run P W3 = .ok (.bool jump.isNone) W4 ∧ St g I3 (addL H (Lr st jump loc3)) lit W4 ∧ ((Lr st jump loc3).map (·.1)).Nodup ∧ ∀ b o, (b, o) ∈ Lr st jump loc3 → H b = none := by
        intro W3 I3 loc3 jump st hs hst
        have hs5 : St g I3 (addL H lit) (loc3 ++ [(bd + 1, rec_ .busy none), (bd, .deferred (some []))]) W3 := St.unhide (hs4.rest split_app) hs
        have hrec3 : W3.heap[bd + 1]? = some (rec_ .busy none) := hs5.own _ _ (by simp)
        have hs6 := hs5.putObj (o' := rec_ st jump) (b := bd + 1) (upd_app .here)
        refine ⟨_, run_endRound (P := P) jump hrec3, ?_, hs6.nodup, fun b o hm => (addL_none (hs6.sepIL b o hm).2).1⟩
        rw [← hst]
        exact hs6.swap hW.nodup hdjK
      intro e a3 W3 hq
      cases e with
      | normal =>
        obtain ⟨I3, loc3, ⟨hI3, hJ3⟩, hs⟩ := hq
        obtain ⟨W4, h1, h2, h3, h4⟩ := fin W3 I3 loc3 none .ready hs rfl
        exact ⟨_, W4, h1, true, I3, _, rfl, hI2.trans hI3, h2, loc3, hJ3, (hI.trans hI2).trans hI3, rfl, h3, h4⟩
      | ret =>
        obtain ⟨I3, loc3, ⟨hI3, hJ3⟩, hs⟩ := hq
        obtain ⟨W4, h1, h2, h3, h4⟩ := fin W3 I3 loc3 (some .ret) .done hs rfl
        exact ⟨_, W4, h1, false, I3, _, rfl, hI2.trans hI3, h2, .ret, loc3, hJ3, (hI.trans hI2).trans hI3, rfl, h3, h4⟩
      | exit id =>
        obtain ⟨I3, loc3, ⟨hI3, hJ3⟩, hs⟩ := hq
        obtain ⟨W4, h1, h2, h3, h4⟩ := fin W3 I3 loc3 (some (.exit id)) .done hs rfl
        exact ⟨_, W4, h1, false, I3, _, rfl, hI2.trans hI3, h2, .exit id, loc3, hJ3, (hI.trans hI2).trans hI3, rfl, h3, h4⟩
      | goto t => exact hq.elim
      | panic c => exact hq.elim
      | outgrown => exact hq.elim
    | _ => exact hq.elim
  · -- behind the call
    rintro e w' ⟨v, I', H', rfl, hI, hs, hJ | ⟨pre, hpre, hJ⟩⟩
    · obtain ⟨l', hJc, hI1, rfl, hnd, hdj⟩ := hJ
      have hs1 := hs.swap hnd hdj
      have hrec : w'.heap[bd + 1]? = some (rec_ .ready none) := hs1.own _ _ (by simp [Lr])
      have hs2 := hs1.putObj (o' := rec_ .exhausted none) (b := bd + 1) (upd_app .here)
      refine ⟨none, _, run_endLoop (P := P) hrec (by simp), ?_⟩
      refine hdone bd I' l' hI1 hJc _ _ ⟨ha.size, by simp [ha.defers], ha.env⟩ ?_
      refine hs2.rest (L := [(bd + 1, rec_ .exhausted none)]) ?_
      have : Split (l' ++ [(bd + 1, rec_ .exhausted none), (bd, .deferred (some []))]) [(bd + 1, rec_ .exhausted none)] (l' ++ [(bd, .deferred (some []))]) := by
        refine .cons ?_ .nil
        clear hdj hnd hs2 hs1 hs hJc hrec
        induction l' with
        | nil => exact .here
        | cons q l ih => exact .there ih
      exact this
    · obtain ⟨c, l', hJc, hI1, rfl, hnd, hdj⟩ := hJ
      have hs1 := hs.swap hnd hdj
      have hrec : w'.heap[bd + 1]? = some (rec_ .done (some c)) := hs1.own _ _ (by simp [Lr])
      have hs2 := hs1.putObj (o' := rec_ .exhausted (some c)) (b := bd + 1) (upd_app .here)
      refine ⟨some c, _, run_endLoop (P := P) hrec (by simp), ?_⟩
      refine hstop c bd pre I' l' hI1 hpre hJc _ _ ⟨ha.size, by simp [ha.defers], ha.env⟩ ?_
      refine hs2.rest (L := [(bd + 1, rec_ .exhausted (some c))]) ?_
      have : Split (l' ++ [(bd + 1, rec_ .exhausted (some c)), (bd, .deferred (some []))]) [(bd + 1, rec_ .exhausted (some c))] (l' ++ [(bd, .deferred (some []))]) := by
        refine .cons ?_ .nil
        clear hdj hnd hs2 hs1 hs hJc hrec
        induction l' with
        | nil => exact .here
        | cons q l ih => exact .there ih
      exact this

/-! ### The iterator's side -/
/-- A state whose frame may have turned. -/
def MetH (C : Cx) (M : Env → HMap → HMap → Loc → Prop) : Act → World → Prop := fun a w => ∃ E I H loc, M E I H loc ∧ Fits C.N C.D E a ∧ St C.g I H loc w
theorem X_loopH {P : Program} {r : Option Nat} {N : Nat} {D : List Deferred} {g : World} {H : HMap} {c : Code} (J : Nat → Env → HMap → HMap → Loc → Prop) (m0 : Nat) (E0 : Env) (loc0 : Loc) (h0 : J m0 E0 I H loc0) (hE : Sub E0 E) (hl : loc0 = loc)
    (round : ∀ m E I H loc, J m E I H loc → X ⟨P, r, N, D, g, H⟩ (Exit.then (MetH ⟨P, r, N, D, g, H⟩ fun E I H loc => ∃ m', m' < m ∧ J m' E I H loc) Q) c E I loc) : X ⟨P, r, N, D, g, H⟩ Q (.loop c) E I loc := by
  classical
  intro a w ha hw
  let R : Nat → Act → World → Prop := fun m a w => ∃ E I H loc, J m E I H loc ∧ Fits N D E a ∧ St g I H loc w
  have least : ∀ a w, (∃ m, R m a w) → ∃ m, R m a w ∧ ∀ m', R m' a w → m ≤ m' := fun a w ⟨m, h⟩ => by
    induction m using Nat.strongRecOn with
    | _ m ih =>
      by_cases h' : ∃ m', m' < m ∧ R m' a w
      · obtain ⟨m', hlt, hm⟩ := h'; exact ih m' hlt hm
      · exact ⟨m, h, fun m' hm => Nat.le_of_not_lt fun hlt => h' ⟨m', hlt, hm⟩⟩
  let μ : Act → World → Nat := fun a w => if h : ∃ m, R m a w then Classical.choose (least a w h) else 0
  have hμ : ∀ a w, (∃ m, R m a w) → R (μ a w) a w := fun a w h => by simp only [μ, dif_pos h]; exact (Classical.choose_spec (least a w h)).1
  have hle : ∀ m a w, R m a w → μ a w ≤ m := fun m a w h => by
    have h' : ∃ m, R m a w := ⟨m, h⟩
    simp only [μ, dif_pos h']; exact (Classical.choose_spec (least a w h')).2 m h
  refine wpIn_loop (fun a w => ∃ m, R m a w) μ ⟨m0, E0, I, H, loc0, h0, ha.sub hE, hl ▸ hw⟩ fun a w h => ?_
  obtain ⟨E1, I1, H1, loc1, hJ, hf, hs⟩ := hμ a w h
  refine wpIn_mono (round _ _ _ _ _ hJ a w hf hs) fun e a' w' hq => ?_
  cases e with
  | normal =>
    obtain ⟨E2, I2, H2, loc2, ⟨m', hlt, hJ'⟩, hf', hs'⟩ := hq
    exact ⟨⟨m', E2, I2, H2, loc2, hJ', hf', hs'⟩, Nat.lt_of_le_of_lt (hle m' a' w' ⟨E2, I2, H2, loc2, hJ', hf', hs'⟩) hlt⟩
  | _ => exact hq
theorem at_metH {C : Cx} {M : Env → HMap → HMap → Loc → Prop} {C' : Cx} (hN : C'.N = C.N) (hD : C'.D = C.D) (hg : C'.g = C.g) (E' : Env) (hM : M E' I C.H loc) (hE : Sub E' E) : At C (Exit.then (MetH C' M) Q) .normal E I loc :=
  fun _ _ ha hw => ⟨E', I, C.H, loc, hM, by rw [hN, hD]; exact ha.sub hE, by rw [hg]; exact hw⟩

/-- The call of yield. -/
theorem XO_yield {P : Program} {r : Option Nat} {N : Nat} {D : List Deferred} {g : World} {H : HMap} {dst : Option Tmp} {d l : Nat} {ty : TypeId} {pos : String} {af : Array Edge} {gd : Option (Nat × Bool)} {y : Operand} {os : List Operand} {vs : List Value} {tys : Array TypeId} {Post : Bool → HMap → HMap → Prop}
    (hy : evalS S E y = some (.func (.yield l) #[] #[])) (hl : os.map (evalS S E) = vs.map some) (hG : Guarded ops S E ⟨dst, .call ⟨.value y, os.toArray, tys⟩, ty, pos, af, gd⟩) (hd : dst = some d) (hN : Nat.blt d N = true) (hf : freshS S E d = true)
    (hY : conj S = true → YieldOK P g l vs I H Post)
    (h : ∀ b I' H', HLe I I' → (conj S = true → Post b I' H') → (conj S = false → I' = I ∧ H' = H) → XO ⟨P, r, N, D, g, H'⟩ Q ops rest (putS S E d (.bool b)) (putE S E d (.bool b)) I' loc) :
    XO ⟨P, r, N, D, g, H⟩ Q ops (⟨dst, .call ⟨.value y, os.toArray, tys⟩, ty, pos, af, gd⟩ :: rest) S E I loc := by
  intro a w ha hg hw
  simp only [wpListIn]
  rw [hG.wanted ha hg]
  cases hcj : conj S with
  | true =>
    simp only [if_true, Oper.wpIn]
    refine ⟨fun _ _ => trivial, ?_⟩
    obtain ⟨fn, tmps, as, bd, hy', hR⟩ := hY hcj loc w hw
    have hrun : (execOp a.eval ⟨dst, .call ⟨.value y, os.toArray, tys⟩, ty, pos, af, gd⟩).run P w = .ok (.round l fn tmps as bd) w := by
      simp only [execOp, resolve, evalS_sound ha hg hcj hy, List.map_toArray, evals_sound ha hg hcj hl, Deferred.ofValue, Sem.run_bind, Sem.run_pure, Result.andThen, invoke]
      simpa using hy'
    rw [Oper.semAt_eq _ _ _ (by intro c e; cases e), hrun, Oper.uponIn_round]
    refine ⟨by simp [FR], RoundIn.mono (F := FR r) (show RoundIn (FR r) 0 P l fn tmps as bd w _ from hR) ?_⟩
    rintro e w' ⟨b, I', H', rfl, hI, hs, hp⟩
    have hpp := fits_putS ha hg hN hf (.bool b)
    rw [hcj] at hpp
    rw [hd]
    exact h b I' H' hI (fun _ => hp) (fun e => by rw [hcj] at e; cases e) _ _ hpp.1 hpp.2 hs
  | false =>
    simp only [Bool.false_eq_true, if_false]
    refine ⟨fun _ _ => trivial, ?_⟩
    have hpp := fits_putS ha hg hN hf (.bool false)
    rw [hcj] at hpp
    rw [hd]
    exact h false I H (HLe.refl I) (fun e => by rw [hcj] at e; cases e) (fun _ => ⟨rfl, rfl⟩) _ _ hpp.1 hpp.2 hw
end

/-! ### The end of a function whose body holds such a range -/
theorem enterM {P : Program} {f : FuncId} {fn : Func} {c : Code} {args : List Value} {R : Ending → World → Prop} {g : World} {I H : HMap} {loc : Loc} {w : World} (hf : P.funcs[f]? = some fn) (hb : fn.body = some c) {N : Nat} (hN : fn.ntmps = N)
    (hlen : Nat.ble args.length N = true) (hw : St g I H loc w) (h : X ⟨P, none, N, [], g, H⟩ (bodyPostM Fence.wide 0 P fn R) c (env0 0 args) I loc) : Calls P f args.toArray w R := by
  refine callsIn_wide.1 (callsIn_of_wp_marks (F := Fence.wide) (n := 0) hf hb trivial ?_)
  rw [hN]
  exact h _ w (fits_init args N (Nat.le_of_ble_eq_true hlen)) hw
section
variable {P : Program} {fn : Func} {R : Ending → World → Prop} {N : Nat} {g : World} {I H : HMap} {loc loc' : Loc} {E : Env} {r : Option Nat}
theorem at_retM {bd : Nat} {v : Value} (hv : ∀ a, Fits N [{ target := .collected bd, args := #[] }] E a → ∀ w, St g I H loc' w → (results fn a.tmps).run P w = .ok v w)
    (ht : Upd loc bd (.deferred (some [])) (.deferred none) loc') (h : ∀ w, St g I H loc' w → R (.returned v) w) : At ⟨P, r, N, [{ target := .collected bd, args := #[] }], g, H⟩ (bodyPostM Fence.wide 0 P fn R) .ret E I loc := fun a w ha hw => by
  have hbd := hw.own _ _ ht.mem
  have hs := hw.putObj ht
  show LeavesInM _ _ _ _ _ _ _ _ _
  rw [ha.defers]
  refine ⟨by simp, .inl ⟨_, _, rfl, run_takeDeferred hbd, ?_⟩⟩
  exact ⟨v, hv a ha _ hs, h _ hs⟩
theorem at_retM0 {v : Value} (hv : ∀ a, Fits N [] E a → ∀ w, St g I H loc w → (results fn a.tmps).run P w = .ok v w) (h : ∀ w, St g I H loc w → R (.returned v) w) : At ⟨P, r, N, [], g, H⟩ (bodyPostM Fence.wide 0 P fn R) .ret E I loc := fun a w ha hw => by
  show LeavesInM _ _ _ _ _ _ _ _ _
  rw [ha.defers]
  exact ⟨v, hv a ha _ hw, h _ hw⟩
theorem res0 (hr : fn.results = #[]) (a : Act) (w : World) : (results fn a.tmps).run P w = .ok (.tuple #[]) w := by simp [results, hr]
theorem res1 {D : List Deferred} {t : Nat} {v : Value} (hr : fn.results = #[.tmp t]) (hv : look E t = some v) (a : Act) (ha : Fits N D E a) (w : World) : (results fn a.tmps).run P w = .ok v w := by
  have e1 := ha.env _ _ hv; rw [Array.getD_eq_getD_getElem?] at e1; simp only [results, hr]; simp [List.mapM_cons, e1]
theorem res2 {D : List Deferred} {t u : Nat} {v v' : Value} (hr : fn.results = #[.tmp t, .tmp u]) (hv : look E t = some v) (hv' : look E u = some v') (a : Act) (ha : Fits N D E a) (w : World) : (results fn a.tmps).run P w = .ok (.tuple #[v, v']) w := by
  have e1 := ha.env _ _ hv; have e2 := ha.env _ _ hv'; rw [Array.getD_eq_getD_getElem?] at e1 e2; simp only [results, hr]; simp [List.mapM_cons, e1, e2]
/-- Two results that lie in cells. -/
theorem res2c {D : List Deferred} {t u tt ut b c : Nat} {v v' : Value} (hr : fn.results = #[.cell t tt, .cell u ut]) (hv : look E t = some (.pointer (some ⟨b, 0, none⟩))) (hv' : look E u = some (.pointer (some ⟨c, 0, none⟩))) (hT : ScT P tt) (hU : ScT P ut)
    (hc : Cell I loc b 0 v) (hc' : Cell I loc c 0 v') (a : Act) (ha : Fits N D E a) (w : World) (hw : St g I H loc w) : (results fn a.tmps).run P w = .ok (.tuple #[v, v']) w := by
  have e1 := ha.env _ _ hv; have e2 := ha.env _ _ hv'
  rw [Array.getD_eq_getD_getElem?] at e1 e2
  have l1 : ∀ t b v, ScT P t → Cell I loc b 0 v → (loadVar t ⟨b, 0, none⟩).run P w = .ok v w := fun t b v h1 h2 => by
    simp only [loadVar, Sem.run_bind, run_isAgg_sc h1, Result.andThen, Bool.false_eq_true, if_false, run_load, h2.get hw]
  simp only [results, hr]
  simp [List.mapM_cons, e1, e2, asAddr, l1 _ _ _ hT hc, l1 _ _ _ hU hc']
end
end Go.Kn
