/- Calls that read a caller's blocks; operations that are passed over; small laws. Generic over the program; no condition. -/
import Derived.Test.YtgfggmmffmfolaaEngG
namespace Go.Kn
open Go

section
variable {g : World} {I I' H : HMap} {loc loc' L R : Loc} {w w' : World}
theorem St.drop (h : St g I H loc w) : St g I H [] w :=
  ⟨h.os, h.tape, h.out, h.size, h.imm, h.frm, (fun _ _ hm => by cases hm), h.sepIH, (fun _ _ hm => by cases hm), by simp⟩
theorem Split.mem' (hs : Split loc L R) : ∀ p ∈ L ++ R, p ∈ loc := by
  induction hs with
  | nil => exact fun p h => by simpa using h
  | @cons l l1 l2 L b o ht hs ih =>
    intro p hp
    rw [List.cons_append] at hp
    rcases List.mem_cons.1 hp with e | hp
    · subst e; exact ht.mem
    · obtain ⟨b, o⟩ := p; exact ht.sub _ _ (ih _ hp)
theorem St.back (h : St g I H loc w) (hs : Split loc L R) (h' : St g I' (addL H R) L w') : St g I' H loc w' :=
  (h.join hs h').perm (fun p => ⟨fun hp => hs.mem p hp, fun hp => hs.mem' p hp⟩) h.nodup
/-- The last blocks are dropped. -/
theorem St.dropTo (h : St g I H loc w) (hs : SubL loc' loc) : St g I H loc' w := h.subL hs
end

/-- A plain value; the blocks L are read and stay. -/
def RetK (P : Program) (f : FuncId) (args : List Value) (I : HMap) (L : Loc) (v : Value) : Prop :=
  ∀ g H w, St g I H L w → Calls P f args.toArray w fun e w' => e = .returned v ∧ St g I H L w'
theorem RetV.k {P : Program} {f : FuncId} {args : List Value} {I : HMap} {v : Value} (h : RetV P f args I v) (L : Loc) : RetK P f args I L v :=
  fun g H w hw => (h g _ w hw.hide).mono fun _ _ ⟨he, hs⟩ => ⟨he, by have := hw.unhide hs; simpa using this⟩
theorem RetK.v {P : Program} {f : FuncId} {args : List Value} {I : HMap} {v : Value} (h : RetK P f args I [] v) : RetV P f args I v := h

section
variable {C : Cx} {Q : Exit → Act → World → Prop} {E E' : Env} {I I' : HMap} {loc loc' L R : Loc} {ops : Array Oper} {rest : List Oper} {S : GS}
variable {dst : Option Tmp} {d : Nat} {ty : TypeId} {pos : String} {af : Array Edge} {gd : Option (Nat × Bool)} {x y z : Operand}
theorem XO_callK {f : FuncId} {cap : List Value} {l : List Operand} {vs : List Value} {tys : Array TypeId} {cal : Operand} {v : Value}
    (he : evalS S E cal = some (.func (.func f) #[] cap.toArray)) (hl : l.map (evalS S E) = vs.map some) (hF : Fun C.P f) (hsp : Split loc L R) (hc : conj S = true → RetK C.P f (vs ++ cap) I L v)
    (hG : Guarded ops S E ⟨some d, .call ⟨.value cal, l.toArray, tys⟩, ty, pos, af, gd⟩) (hN : Nat.blt d C.N = true) (hf : freshS S E d = true)
    (h : XO C Q ops rest (putS S E d v) (putE S E d v) I loc) :
    XO C Q ops (⟨some d, .call ⟨.value cal, l.toArray, tys⟩, ty, pos, af, gd⟩ :: rest) S E I loc := by
  intro a w ha hg hw
  simp only [wpListIn]
  rw [hG.wanted ha hg]
  have hp := fits_putS ha hg hN hf v
  cases hcj : conj S with
  | true =>
    rw [hcj] at hp
    simp only [if_true, Oper.wpIn]
    refine ⟨fun _ _ => trivial, ?_⟩
    rw [Oper.semAt_eq _ _ _ (by intro c e; cases e), run_call (evalS_sound ha hg hcj he) (evals_sound ha hg hcj hl) hF, Oper.uponIn_enter]
    refine ⟨by simp [FR], callsFR.2 ((hc hcj _ _ _ (hw.split hsp)).mono ?_)⟩
    rintro e w' ⟨rfl, hs⟩
    exact h _ _ hp.1 hp.2 (hw.back hsp hs)
  | false =>
    rw [hcj] at hp
    simp only [Bool.false_eq_true, if_false]
    exact ⟨fun _ _ => trivial, h _ _ hp.1 hp.2 hw⟩
theorem XQ_callK {f : FuncId} {cap : List Value} {l : List Operand} {vs : List Value} {tys : Array TypeId} {cal : Operand} {v : Value}
    (he : evalS S E cal = some (.func (.func f) #[] cap.toArray)) (hl : l.map (evalS S E) = vs.map some) (hF : Fun C.P f) (hsp : Split loc L R) (hc : conj S = true → RetK C.P f (vs ++ cap) I L v)
    (hG : Guarded ops S E ⟨some d, .call ⟨.value cal, l.toArray, tys⟩, ty, pos, af, gd⟩) (hN : Nat.blt d C.N = true) (hf : freshS S E d = true)
    (h : XQ C Q ops rest (putS S E d v) (putE S E d v) I loc) :
    XQ C Q ops (⟨some d, .call ⟨.value cal, l.toArray, tys⟩, ty, pos, af, gd⟩ :: rest) S E I loc :=
  XQ_step (fun a ha hg hcj w hw => by
    unfold Oper.quietAt
    rw [run_call (evalS_sound ha hg hcj he) (evals_sound ha hg hcj hl) hF]
    exact ⟨rfl, (hc hcj _ _ _ (hw.split hsp)).mono fun e w' ⟨e1, e2⟩ => ⟨e1, hw.back hsp e2⟩⟩) hG rfl hN hf h
/-- An operation whose guard says no. -/
theorem XO_dead {o : Oper} (v : Value) (hdead : conj S = false) (hG : Guarded ops S E o) (hd : o.dst = some d) (hN : Nat.blt d C.N = true) (hf : freshS S E d = true) (h : XO C Q ops rest (putS S E d v) (putE S E d v) I loc) : XO C Q ops (o :: rest) S E I loc := by
  intro a w ha hg hw
  simp only [wpListIn]
  rw [hG.wanted ha hg]
  have hp := fits_putS ha hg hN hf v
  rw [hdead] at hp ⊢
  simp only [Bool.false_eq_true, if_false]
  rw [hd]
  exact ⟨fun _ _ => trivial, h _ _ hp.1 hp.2 hw⟩
theorem X_dropTo (loc' : Loc) {c : Code} (hs : SubL loc' loc) (h : X C Q c E I loc') : X C Q c E I loc := fun a w ha hw => h a w ha (hw.subL hs)
theorem at_met2 {M : Env → HMap → Loc → Prop} (E' : Env) (loc' : Loc) (hM : M E' I loc') (hE : Sub E' E) (hs : SubL loc' loc) : At C (Exit.then (Met C M) Q) .normal E I loc := fun _ _ ha hw => ⟨E', I, loc', hM, ha.sub hE, hw.subL hs⟩
theorem Cells.agg {b : Nat} {vs : List Value} {t : TypeId} {fz : Nat × Nat} {l : Loc} {A : Array Value} (h : A = vs.toArray) : Cells I ((b, .cells A t fz) :: l) b 0 vs := h ▸ Cells.here
end
theorem strEq_iff {a b : ByteArray} : strEq a b = true ↔ a = b := by
  unfold strEq
  rw [beq_iff_eq, ByteArray.toList_eq, ByteArray.toList_eq]
  constructor
  · intro h
    obtain ⟨⟨x⟩⟩ := a
    obtain ⟨⟨y⟩⟩ := b
    simp only at h
    rw [h]
  · rintro rfl; rfl
end Go.Kn
