/- The rules once more, by whether an operation stands under a guard, so that states stay written out. Generic over the program; no condition. -/
import Derived.Test.YtgfggmmffmfolaaEngI
import Derived.Lib.Hide
namespace Go.Kn
open Go
section
variable {C : Cx} {Q : Exit → Act → World → Prop} {E E' G : Env} {I I' : HMap} {loc loc' L R : Loc} {ops : Array Oper} {rest : List Oper} {S : GS} {b : Bool}
variable {dst : Option Tmp} {d : Nat} {ty : TypeId} {pos : String} {af : Array Edge} {gd : Option (Nat × Bool)} {x y z : Operand}
theorem XO_v0 {o : Oper} {v : Value} (hv : EvalOp C [] E I loc o v) (hG : o.guard = none) (hd : o.dst = some d) (hN : Nat.blt d C.N = true) (h : XO C Q ops rest [] ((d, v) :: E) I loc) : XO C Q ops (o :: rest) [] E I loc := XO_val hv (.none hG) hd hN rfl h
theorem XO_v1 {o : Oper} {v : Value} (hv : EvalOp C ((b, G) :: S) E I loc o v) (hG : Guarded ops ((b, G) :: S) E o) (hd : o.dst = some d) (hN : Nat.blt d C.N = true) (hf : freshS ((b, G) :: S) E d = true) (h : XO C Q ops rest ((b, (d, v) :: G) :: S) E I loc) : XO C Q ops (o :: rest) ((b, G) :: S) E I loc := XO_val hv hG hd hN hf h
theorem XQ_v0 {o : Oper} {v : Value} (hv : EvalOp C [] E I loc o v) (hG : o.guard = none) (hd : o.dst = some d) (hN : Nat.blt d C.N = true) (h : XQ C Q ops rest [] ((d, v) :: E) I loc) : XQ C Q ops (o :: rest) [] E I loc := XQ_val hv (.none hG) hd hN rfl h
theorem XQ_v1 {o : Oper} {v : Value} (hv : EvalOp C ((b, G) :: S) E I loc o v) (hG : Guarded ops ((b, G) :: S) E o) (hd : o.dst = some d) (hN : Nat.blt d C.N = true) (hf : freshS ((b, G) :: S) E d = true) (h : XQ C Q ops rest ((b, (d, v) :: G) :: S) E I loc) : XQ C Q ops (o :: rest) ((b, G) :: S) E I loc := XQ_val hv hG hd hN hf h
section
variable {tc ta : Nat} {t u b' : Bool} {G' : Env}
theorem XO_and0 (hb : b' = t) (hc : evalS [] E (.tmp tc) = some (.bool t)) (ha' : look G' ta = some (.bool u)) (hG : gd = none) (hN : Nat.blt d C.N = true) (h : XO C Q ops rest [] ((d, .bool (t && u)) :: E) I loc) :
    XO C Q ops (⟨some d, .pick (.tmp tc) (.tmp ta) (.const (.bool false)), ty, pos, af, gd⟩ :: rest) ((b', G') :: []) E I loc := XO_and hb hc ha' (.none hG) hN rfl h
theorem XO_and1 (hb : b' = t) (hc : evalS ((b, G) :: S) E (.tmp tc) = some (.bool t)) (ha' : look G' ta = some (.bool u)) (hG : Guarded ops ((b, G) :: S) E ⟨some d, .pick (.tmp tc) (.tmp ta) (.const (.bool false)), ty, pos, af, gd⟩) (hN : Nat.blt d C.N = true) (hf : freshS ((b, G) :: S) E d = true)
    (h : XO C Q ops rest ((b, (d, .bool (t && u)) :: G) :: S) E I loc) :
    XO C Q ops (⟨some d, .pick (.tmp tc) (.tmp ta) (.const (.bool false)), ty, pos, af, gd⟩ :: rest) ((b', G') :: (b, G) :: S) E I loc := XO_and hb hc ha' hG hN hf h
theorem XO_or0 (hb : b' = !t) (hc : evalS [] E (.tmp tc) = some (.bool t)) (ha' : look G' ta = some (.bool u)) (hG : gd = none) (hN : Nat.blt d C.N = true) (h : XO C Q ops rest [] ((d, .bool (t || u)) :: E) I loc) :
    XO C Q ops (⟨some d, .pick (.tmp tc) (.const (.bool true)) (.tmp ta), ty, pos, af, gd⟩ :: rest) ((b', G') :: []) E I loc := XO_or hb hc ha' (.none hG) hN rfl h
theorem XO_or1 (hb : b' = !t) (hc : evalS ((b, G) :: S) E (.tmp tc) = some (.bool t)) (ha' : look G' ta = some (.bool u)) (hG : Guarded ops ((b, G) :: S) E ⟨some d, .pick (.tmp tc) (.const (.bool true)) (.tmp ta), ty, pos, af, gd⟩) (hN : Nat.blt d C.N = true) (hf : freshS ((b, G) :: S) E d = true)
    (h : XO C Q ops rest ((b, (d, .bool (t || u)) :: G) :: S) E I loc) :
    XO C Q ops (⟨some d, .pick (.tmp tc) (.const (.bool true)) (.tmp ta), ty, pos, af, gd⟩ :: rest) ((b', G') :: (b, G) :: S) E I loc := XO_or hb hc ha' hG hN hf h
theorem XQ_and0 (hb : b' = t) (hc : evalS [] E (.tmp tc) = some (.bool t)) (ha' : look G' ta = some (.bool u)) (hG : gd = none) (hN : Nat.blt d C.N = true) (h : XQ C Q ops rest [] ((d, .bool (t && u)) :: E) I loc) :
    XQ C Q ops (⟨some d, .pick (.tmp tc) (.tmp ta) (.const (.bool false)), ty, pos, af, gd⟩ :: rest) ((b', G') :: []) E I loc := XQ_and hb hc ha' (.none hG) hN rfl h
theorem XQ_and1 (hb : b' = t) (hc : evalS ((b, G) :: S) E (.tmp tc) = some (.bool t)) (ha' : look G' ta = some (.bool u)) (hG : Guarded ops ((b, G) :: S) E ⟨some d, .pick (.tmp tc) (.tmp ta) (.const (.bool false)), ty, pos, af, gd⟩) (hN : Nat.blt d C.N = true) (hf : freshS ((b, G) :: S) E d = true)
    (h : XQ C Q ops rest ((b, (d, .bool (t && u)) :: G) :: S) E I loc) :
    XQ C Q ops (⟨some d, .pick (.tmp tc) (.tmp ta) (.const (.bool false)), ty, pos, af, gd⟩ :: rest) ((b', G') :: (b, G) :: S) E I loc := XQ_and hb hc ha' hG hN hf h
theorem XQ_or0 (hb : b' = !t) (hc : evalS [] E (.tmp tc) = some (.bool t)) (ha' : look G' ta = some (.bool u)) (hG : gd = none) (hN : Nat.blt d C.N = true) (h : XQ C Q ops rest [] ((d, .bool (t || u)) :: E) I loc) :
    XQ C Q ops (⟨some d, .pick (.tmp tc) (.const (.bool true)) (.tmp ta), ty, pos, af, gd⟩ :: rest) ((b', G') :: []) E I loc := XQ_or hb hc ha' (.none hG) hN rfl h
theorem XQ_or1 (hb : b' = !t) (hc : evalS ((b, G) :: S) E (.tmp tc) = some (.bool t)) (ha' : look G' ta = some (.bool u)) (hG : Guarded ops ((b, G) :: S) E ⟨some d, .pick (.tmp tc) (.const (.bool true)) (.tmp ta), ty, pos, af, gd⟩) (hN : Nat.blt d C.N = true) (hf : freshS ((b, G) :: S) E d = true)
    (h : XQ C Q ops rest ((b, (d, .bool (t || u)) :: G) :: S) E I loc) :
    XQ C Q ops (⟨some d, .pick (.tmp tc) (.const (.bool true)) (.tmp ta), ty, pos, af, gd⟩ :: rest) ((b', G') :: (b, G) :: S) E I loc := XQ_or hb hc ha' hG hN hf h
end
section
variable {f : FuncId} {cap : List Value} {l : List Operand} {vs : List Value} {tys : Array TypeId} {cal : Operand} {v : Value}
theorem XO_callV0 (he : evalS [] E cal = some (.func (.func f) #[] cap.toArray)) (hl : l.map (evalS [] E) = vs.map some) (hF : Fun C.P f) (hc : RetV C.P f (vs ++ cap) I v) (hG : gd = none) (hN : Nat.blt d C.N = true)
    (h : XO C Q ops rest [] ((d, v) :: E) I loc) : XO C Q ops (⟨some d, .call ⟨.value cal, l.toArray, tys⟩, ty, pos, af, gd⟩ :: rest) [] E I loc := XO_callV he hl hF (fun _ => hc) (.none hG) hN rfl h
theorem XO_callV1 (he : evalS ((b, G) :: S) E cal = some (.func (.func f) #[] cap.toArray)) (hl : l.map (evalS ((b, G) :: S) E) = vs.map some) (hF : Fun C.P f) (hc : conj ((b, G) :: S) = true → RetV C.P f (vs ++ cap) I v)
    (hG : Guarded ops ((b, G) :: S) E ⟨some d, .call ⟨.value cal, l.toArray, tys⟩, ty, pos, af, gd⟩) (hN : Nat.blt d C.N = true) (hf : freshS ((b, G) :: S) E d = true)
    (h : XO C Q ops rest ((b, (d, v) :: G) :: S) E I loc) : XO C Q ops (⟨some d, .call ⟨.value cal, l.toArray, tys⟩, ty, pos, af, gd⟩ :: rest) ((b, G) :: S) E I loc := XO_callV he hl hF hc hG hN hf h
theorem XQ_callV0 (he : evalS [] E cal = some (.func (.func f) #[] cap.toArray)) (hl : l.map (evalS [] E) = vs.map some) (hF : Fun C.P f) (hc : RetV C.P f (vs ++ cap) I v) (hG : gd = none) (hN : Nat.blt d C.N = true)
    (h : XQ C Q ops rest [] ((d, v) :: E) I loc) : XQ C Q ops (⟨some d, .call ⟨.value cal, l.toArray, tys⟩, ty, pos, af, gd⟩ :: rest) [] E I loc := XQ_callV he hl hF (fun _ => hc) (.none hG) hN rfl h
theorem XQ_callV1 (he : evalS ((b, G) :: S) E cal = some (.func (.func f) #[] cap.toArray)) (hl : l.map (evalS ((b, G) :: S) E) = vs.map some) (hF : Fun C.P f) (hc : conj ((b, G) :: S) = true → RetV C.P f (vs ++ cap) I v)
    (hG : Guarded ops ((b, G) :: S) E ⟨some d, .call ⟨.value cal, l.toArray, tys⟩, ty, pos, af, gd⟩) (hN : Nat.blt d C.N = true) (hf : freshS ((b, G) :: S) E d = true)
    (h : XQ C Q ops rest ((b, (d, v) :: G) :: S) E I loc) : XQ C Q ops (⟨some d, .call ⟨.value cal, l.toArray, tys⟩, ty, pos, af, gd⟩ :: rest) ((b, G) :: S) E I loc := XQ_callV he hl hF hc hG hN hf h
theorem XO_callK0 (he : evalS [] E cal = some (.func (.func f) #[] cap.toArray)) (hl : l.map (evalS [] E) = vs.map some) (hF : Fun C.P f) (hsp : Split loc L R) (hc : RetK C.P f (vs ++ cap) I L v) (hG : gd = none) (hN : Nat.blt d C.N = true)
    (h : XO C Q ops rest [] ((d, v) :: E) I loc) : XO C Q ops (⟨some d, .call ⟨.value cal, l.toArray, tys⟩, ty, pos, af, gd⟩ :: rest) [] E I loc := XO_callK he hl hF hsp (fun _ => hc) (.none hG) hN rfl h
theorem XO_callK1 (he : evalS ((b, G) :: S) E cal = some (.func (.func f) #[] cap.toArray)) (hl : l.map (evalS ((b, G) :: S) E) = vs.map some) (hF : Fun C.P f) (hsp : Split loc L R) (hc : conj ((b, G) :: S) = true → RetK C.P f (vs ++ cap) I L v)
    (hG : Guarded ops ((b, G) :: S) E ⟨some d, .call ⟨.value cal, l.toArray, tys⟩, ty, pos, af, gd⟩) (hN : Nat.blt d C.N = true) (hf : freshS ((b, G) :: S) E d = true)
    (h : XO C Q ops rest ((b, (d, v) :: G) :: S) E I loc) : XO C Q ops (⟨some d, .call ⟨.value cal, l.toArray, tys⟩, ty, pos, af, gd⟩ :: rest) ((b, G) :: S) E I loc := XO_callK he hl hF hsp hc hG hN hf h
end
theorem XO_dead1 {o : Oper} (v : Value) (hdead : conj ((b, G) :: S) = false) (hG : Guarded ops ((b, G) :: S) E o) (hd : o.dst = some d) (hN : Nat.blt d C.N = true) (hf : freshS ((b, G) :: S) E d = true) (h : XO C Q ops rest ((b, (d, v) :: G) :: S) E I loc) : XO C Q ops (o :: rest) ((b, G) :: S) E I loc := XO_dead v hdead hG hd hN hf h
end
section
variable {Q : Exit → Act → World → Prop} {E G : Env} {I I' : HMap} {loc loc' : Loc} {ops : Array Oper} {rest : List Oper} {S : GS} {b : Bool}
theorem XO_yield1 {P : Program} {r : Option Nat} {N : Nat} {D : List Deferred} {g : World} {H : HMap} {d l : Nat} {ty : TypeId} {pos : String} {af : Array Edge} {gd : Option (Nat × Bool)} {y : Operand} {os : List Operand} {vs : List Value} {tys : Array TypeId} {Post : Bool → HMap → HMap → Prop}
    (hy : evalS ((b, G) :: S) E y = some (.func (.yield l) #[] #[])) (hl : os.map (evalS ((b, G) :: S) E) = vs.map some) (hG : Guarded ops ((b, G) :: S) E ⟨some d, .call ⟨.value y, os.toArray, tys⟩, ty, pos, af, gd⟩) (hN : Nat.blt d N = true) (hf : freshS ((b, G) :: S) E d = true)
    (hY : conj ((b, G) :: S) = true → YieldOK P g l vs I H Post)
    (h : ∀ t I' H', HLe I I' → (conj ((b, G) :: S) = true → Post t I' H') → (conj ((b, G) :: S) = false → I' = I ∧ H' = H) → XO ⟨P, r, N, D, g, H'⟩ Q ops rest ((b, (d, .bool t) :: G) :: S) E I' loc) :
    XO ⟨P, r, N, D, g, H⟩ Q ops (⟨some d, .call ⟨.value y, os.toArray, tys⟩, ty, pos, af, gd⟩ :: rest) ((b, G) :: S) E I loc := XO_yield hy hl hG rfl hN hf hY h
theorem XO_yield0 {P : Program} {r : Option Nat} {N : Nat} {D : List Deferred} {g : World} {H : HMap} {d l : Nat} {ty : TypeId} {pos : String} {af : Array Edge} {gd : Option (Nat × Bool)} {y : Operand} {os : List Operand} {vs : List Value} {tys : Array TypeId} {Post : Bool → HMap → HMap → Prop}
    (hy : evalS [] E y = some (.func (.yield l) #[] #[])) (hl : os.map (evalS [] E) = vs.map some) (hG : gd = none) (hN : Nat.blt d N = true)
    (hY : YieldOK P g l vs I H Post)
    (h : ∀ t I' H', HLe I I' → Post t I' H' → XO ⟨P, r, N, D, g, H'⟩ Q ops rest [] ((d, .bool t) :: E) I' loc) :
    XO ⟨P, r, N, D, g, H⟩ Q ops (⟨some d, .call ⟨.value y, os.toArray, tys⟩, ty, pos, af, gd⟩ :: rest) [] E I loc := XO_yield hy hl (.none hG) rfl hN rfl (fun _ => hY) (fun t I' H' h1 h2 _ => h t I' H' h1 (h2 rfl))
end
section
variable {I : HMap} {b off : Nat} {v : Value} {vs : List Value} {cs : Array Value} {t : TypeId} {fz : Nat × Nat} {l l' : Loc} {o o' : Obj}
variable {p0 p1 p2 p3 p4 p5 p6 p7 p8 p9 p10 p11 p12 p13 p14 p15 : Nat × Obj}
theorem Cell.h0 (h : lget cs.toList off = some v) : Cell I ((b, .cells cs t fz) :: l) b off v := .here h
theorem Cells.g0 : Cells I ((b, .cells vs.toArray t fz) :: l) b 0 vs := .here
theorem Upd.u0 : Upd ((b, o) :: l) b o o' ((b, o') :: l) := .here
theorem Take.k0 : Take ((b, o) :: l) b o (l) := .here
theorem Mem.m0 : Mem I ((b, o) :: l) b o := .inr (by simp)
theorem Cell.h1 (h : lget cs.toList off = some v) : Cell I (p0 :: (b, .cells cs t fz) :: l) b off v := .there (.here h)
theorem Cells.g1 : Cells I (p0 :: (b, .cells vs.toArray t fz) :: l) b 0 vs := .there (.here)
theorem Upd.u1 : Upd (p0 :: (b, o) :: l) b o o' (p0 :: (b, o') :: l) := .there (.here)
theorem Take.k1 : Take (p0 :: (b, o) :: l) b o (p0 :: l) := .there (.here)
theorem Mem.m1 : Mem I (p0 :: (b, o) :: l) b o := .inr (by simp)
theorem Cell.h2 (h : lget cs.toList off = some v) : Cell I (p0 :: p1 :: (b, .cells cs t fz) :: l) b off v := .there (.there (.here h))
theorem Cells.g2 : Cells I (p0 :: p1 :: (b, .cells vs.toArray t fz) :: l) b 0 vs := .there (.there (.here))
theorem Upd.u2 : Upd (p0 :: p1 :: (b, o) :: l) b o o' (p0 :: p1 :: (b, o') :: l) := .there (.there (.here))
theorem Take.k2 : Take (p0 :: p1 :: (b, o) :: l) b o (p0 :: p1 :: l) := .there (.there (.here))
theorem Mem.m2 : Mem I (p0 :: p1 :: (b, o) :: l) b o := .inr (by simp)
theorem Cell.h3 (h : lget cs.toList off = some v) : Cell I (p0 :: p1 :: p2 :: (b, .cells cs t fz) :: l) b off v := .there (.there (.there (.here h)))
theorem Cells.g3 : Cells I (p0 :: p1 :: p2 :: (b, .cells vs.toArray t fz) :: l) b 0 vs := .there (.there (.there (.here)))
theorem Upd.u3 : Upd (p0 :: p1 :: p2 :: (b, o) :: l) b o o' (p0 :: p1 :: p2 :: (b, o') :: l) := .there (.there (.there (.here)))
theorem Take.k3 : Take (p0 :: p1 :: p2 :: (b, o) :: l) b o (p0 :: p1 :: p2 :: l) := .there (.there (.there (.here)))
theorem Mem.m3 : Mem I (p0 :: p1 :: p2 :: (b, o) :: l) b o := .inr (by simp)
theorem Cell.h4 (h : lget cs.toList off = some v) : Cell I (p0 :: p1 :: p2 :: p3 :: (b, .cells cs t fz) :: l) b off v := .there (.there (.there (.there (.here h))))
theorem Cells.g4 : Cells I (p0 :: p1 :: p2 :: p3 :: (b, .cells vs.toArray t fz) :: l) b 0 vs := .there (.there (.there (.there (.here))))
theorem Upd.u4 : Upd (p0 :: p1 :: p2 :: p3 :: (b, o) :: l) b o o' (p0 :: p1 :: p2 :: p3 :: (b, o') :: l) := .there (.there (.there (.there (.here))))
theorem Take.k4 : Take (p0 :: p1 :: p2 :: p3 :: (b, o) :: l) b o (p0 :: p1 :: p2 :: p3 :: l) := .there (.there (.there (.there (.here))))
theorem Mem.m4 : Mem I (p0 :: p1 :: p2 :: p3 :: (b, o) :: l) b o := .inr (by simp)
theorem Cell.h5 (h : lget cs.toList off = some v) : Cell I (p0 :: p1 :: p2 :: p3 :: p4 :: (b, .cells cs t fz) :: l) b off v := .there (.there (.there (.there (.there (.here h)))))
theorem Cells.g5 : Cells I (p0 :: p1 :: p2 :: p3 :: p4 :: (b, .cells vs.toArray t fz) :: l) b 0 vs := .there (.there (.there (.there (.there (.here)))))
theorem Upd.u5 : Upd (p0 :: p1 :: p2 :: p3 :: p4 :: (b, o) :: l) b o o' (p0 :: p1 :: p2 :: p3 :: p4 :: (b, o') :: l) := .there (.there (.there (.there (.there (.here)))))
theorem Take.k5 : Take (p0 :: p1 :: p2 :: p3 :: p4 :: (b, o) :: l) b o (p0 :: p1 :: p2 :: p3 :: p4 :: l) := .there (.there (.there (.there (.there (.here)))))
theorem Mem.m5 : Mem I (p0 :: p1 :: p2 :: p3 :: p4 :: (b, o) :: l) b o := .inr (by simp)
theorem Cell.h6 (h : lget cs.toList off = some v) : Cell I (p0 :: p1 :: p2 :: p3 :: p4 :: p5 :: (b, .cells cs t fz) :: l) b off v := .there (.there (.there (.there (.there (.there (.here h))))))
theorem Cells.g6 : Cells I (p0 :: p1 :: p2 :: p3 :: p4 :: p5 :: (b, .cells vs.toArray t fz) :: l) b 0 vs := .there (.there (.there (.there (.there (.there (.here))))))
theorem Upd.u6 : Upd (p0 :: p1 :: p2 :: p3 :: p4 :: p5 :: (b, o) :: l) b o o' (p0 :: p1 :: p2 :: p3 :: p4 :: p5 :: (b, o') :: l) := .there (.there (.there (.there (.there (.there (.here))))))
theorem Take.k6 : Take (p0 :: p1 :: p2 :: p3 :: p4 :: p5 :: (b, o) :: l) b o (p0 :: p1 :: p2 :: p3 :: p4 :: p5 :: l) := .there (.there (.there (.there (.there (.there (.here))))))
theorem Mem.m6 : Mem I (p0 :: p1 :: p2 :: p3 :: p4 :: p5 :: (b, o) :: l) b o := .inr (by simp)
theorem Cell.h7 (h : lget cs.toList off = some v) : Cell I (p0 :: p1 :: p2 :: p3 :: p4 :: p5 :: p6 :: (b, .cells cs t fz) :: l) b off v := .there (.there (.there (.there (.there (.there (.there (.here h)))))))
theorem Cells.g7 : Cells I (p0 :: p1 :: p2 :: p3 :: p4 :: p5 :: p6 :: (b, .cells vs.toArray t fz) :: l) b 0 vs := .there (.there (.there (.there (.there (.there (.there (.here)))))))
theorem Upd.u7 : Upd (p0 :: p1 :: p2 :: p3 :: p4 :: p5 :: p6 :: (b, o) :: l) b o o' (p0 :: p1 :: p2 :: p3 :: p4 :: p5 :: p6 :: (b, o') :: l) := .there (.there (.there (.there (.there (.there (.there (.here)))))))
theorem Take.k7 : Take (p0 :: p1 :: p2 :: p3 :: p4 :: p5 :: p6 :: (b, o) :: l) b o (p0 :: p1 :: p2 :: p3 :: p4 :: p5 :: p6 :: l) := .there (.there (.there (.there (.there (.there (.there (.here)))))))
theorem Mem.m7 : Mem I (p0 :: p1 :: p2 :: p3 :: p4 :: p5 :: p6 :: (b, o) :: l) b o := .inr (by simp)
theorem Cell.h8 (h : lget cs.toList off = some v) : Cell I (p0 :: p1 :: p2 :: p3 :: p4 :: p5 :: p6 :: p7 :: (b, .cells cs t fz) :: l) b off v := .there (.there (.there (.there (.there (.there (.there (.there (.here h))))))))
theorem Cells.g8 : Cells I (p0 :: p1 :: p2 :: p3 :: p4 :: p5 :: p6 :: p7 :: (b, .cells vs.toArray t fz) :: l) b 0 vs := .there (.there (.there (.there (.there (.there (.there (.there (.here))))))))
theorem Upd.u8 : Upd (p0 :: p1 :: p2 :: p3 :: p4 :: p5 :: p6 :: p7 :: (b, o) :: l) b o o' (p0 :: p1 :: p2 :: p3 :: p4 :: p5 :: p6 :: p7 :: (b, o') :: l) := .there (.there (.there (.there (.there (.there (.there (.there (.here))))))))
theorem Take.k8 : Take (p0 :: p1 :: p2 :: p3 :: p4 :: p5 :: p6 :: p7 :: (b, o) :: l) b o (p0 :: p1 :: p2 :: p3 :: p4 :: p5 :: p6 :: p7 :: l) := .there (.there (.there (.there (.there (.there (.there (.there (.here))))))))
theorem Mem.m8 : Mem I (p0 :: p1 :: p2 :: p3 :: p4 :: p5 :: p6 :: p7 :: (b, o) :: l) b o := .inr (by simp)
theorem Cell.h9 (h : lget cs.toList off = some v) : Cell I (p0 :: p1 :: p2 :: p3 :: p4 :: p5 :: p6 :: p7 :: p8 :: (b, .cells cs t fz) :: l) b off v := .there (.there (.there (.there (.there (.there (.there (.there (.there (.here h)))))))))
theorem Cells.g9 : Cells I (p0 :: p1 :: p2 :: p3 :: p4 :: p5 :: p6 :: p7 :: p8 :: (b, .cells vs.toArray t fz) :: l) b 0 vs := .there (.there (.there (.there (.there (.there (.there (.there (.there (.here)))))))))
theorem Upd.u9 : Upd (p0 :: p1 :: p2 :: p3 :: p4 :: p5 :: p6 :: p7 :: p8 :: (b, o) :: l) b o o' (p0 :: p1 :: p2 :: p3 :: p4 :: p5 :: p6 :: p7 :: p8 :: (b, o') :: l) := .there (.there (.there (.there (.there (.there (.there (.there (.there (.here)))))))))
theorem Take.k9 : Take (p0 :: p1 :: p2 :: p3 :: p4 :: p5 :: p6 :: p7 :: p8 :: (b, o) :: l) b o (p0 :: p1 :: p2 :: p3 :: p4 :: p5 :: p6 :: p7 :: p8 :: l) := .there (.there (.there (.there (.there (.there (.there (.there (.there (.here)))))))))
theorem Mem.m9 : Mem I (p0 :: p1 :: p2 :: p3 :: p4 :: p5 :: p6 :: p7 :: p8 :: (b, o) :: l) b o := .inr (by simp)
theorem Cell.h10 (h : lget cs.toList off = some v) : Cell I (p0 :: p1 :: p2 :: p3 :: p4 :: p5 :: p6 :: p7 :: p8 :: p9 :: (b, .cells cs t fz) :: l) b off v := .there (.there (.there (.there (.there (.there (.there (.there (.there (.there (.here h))))))))))
theorem Cells.g10 : Cells I (p0 :: p1 :: p2 :: p3 :: p4 :: p5 :: p6 :: p7 :: p8 :: p9 :: (b, .cells vs.toArray t fz) :: l) b 0 vs := .there (.there (.there (.there (.there (.there (.there (.there (.there (.there (.here))))))))))
theorem Upd.u10 : Upd (p0 :: p1 :: p2 :: p3 :: p4 :: p5 :: p6 :: p7 :: p8 :: p9 :: (b, o) :: l) b o o' (p0 :: p1 :: p2 :: p3 :: p4 :: p5 :: p6 :: p7 :: p8 :: p9 :: (b, o') :: l) := .there (.there (.there (.there (.there (.there (.there (.there (.there (.there (.here))))))))))
theorem Take.k10 : Take (p0 :: p1 :: p2 :: p3 :: p4 :: p5 :: p6 :: p7 :: p8 :: p9 :: (b, o) :: l) b o (p0 :: p1 :: p2 :: p3 :: p4 :: p5 :: p6 :: p7 :: p8 :: p9 :: l) := .there (.there (.there (.there (.there (.there (.there (.there (.there (.there (.here))))))))))
theorem Mem.m10 : Mem I (p0 :: p1 :: p2 :: p3 :: p4 :: p5 :: p6 :: p7 :: p8 :: p9 :: (b, o) :: l) b o := .inr (by simp)
theorem Cell.h11 (h : lget cs.toList off = some v) : Cell I (p0 :: p1 :: p2 :: p3 :: p4 :: p5 :: p6 :: p7 :: p8 :: p9 :: p10 :: (b, .cells cs t fz) :: l) b off v := .there (.there (.there (.there (.there (.there (.there (.there (.there (.there (.there (.here h)))))))))))
theorem Cells.g11 : Cells I (p0 :: p1 :: p2 :: p3 :: p4 :: p5 :: p6 :: p7 :: p8 :: p9 :: p10 :: (b, .cells vs.toArray t fz) :: l) b 0 vs := .there (.there (.there (.there (.there (.there (.there (.there (.there (.there (.there (.here)))))))))))
theorem Upd.u11 : Upd (p0 :: p1 :: p2 :: p3 :: p4 :: p5 :: p6 :: p7 :: p8 :: p9 :: p10 :: (b, o) :: l) b o o' (p0 :: p1 :: p2 :: p3 :: p4 :: p5 :: p6 :: p7 :: p8 :: p9 :: p10 :: (b, o') :: l) := .there (.there (.there (.there (.there (.there (.there (.there (.there (.there (.there (.here)))))))))))
theorem Take.k11 : Take (p0 :: p1 :: p2 :: p3 :: p4 :: p5 :: p6 :: p7 :: p8 :: p9 :: p10 :: (b, o) :: l) b o (p0 :: p1 :: p2 :: p3 :: p4 :: p5 :: p6 :: p7 :: p8 :: p9 :: p10 :: l) := .there (.there (.there (.there (.there (.there (.there (.there (.there (.there (.there (.here)))))))))))
theorem Mem.m11 : Mem I (p0 :: p1 :: p2 :: p3 :: p4 :: p5 :: p6 :: p7 :: p8 :: p9 :: p10 :: (b, o) :: l) b o := .inr (by simp)
theorem Cell.h12 (h : lget cs.toList off = some v) : Cell I (p0 :: p1 :: p2 :: p3 :: p4 :: p5 :: p6 :: p7 :: p8 :: p9 :: p10 :: p11 :: (b, .cells cs t fz) :: l) b off v := .there (.there (.there (.there (.there (.there (.there (.there (.there (.there (.there (.there (.here h))))))))))))
theorem Cells.g12 : Cells I (p0 :: p1 :: p2 :: p3 :: p4 :: p5 :: p6 :: p7 :: p8 :: p9 :: p10 :: p11 :: (b, .cells vs.toArray t fz) :: l) b 0 vs := .there (.there (.there (.there (.there (.there (.there (.there (.there (.there (.there (.there (.here))))))))))))
theorem Upd.u12 : Upd (p0 :: p1 :: p2 :: p3 :: p4 :: p5 :: p6 :: p7 :: p8 :: p9 :: p10 :: p11 :: (b, o) :: l) b o o' (p0 :: p1 :: p2 :: p3 :: p4 :: p5 :: p6 :: p7 :: p8 :: p9 :: p10 :: p11 :: (b, o') :: l) := .there (.there (.there (.there (.there (.there (.there (.there (.there (.there (.there (.there (.here))))))))))))
theorem Take.k12 : Take (p0 :: p1 :: p2 :: p3 :: p4 :: p5 :: p6 :: p7 :: p8 :: p9 :: p10 :: p11 :: (b, o) :: l) b o (p0 :: p1 :: p2 :: p3 :: p4 :: p5 :: p6 :: p7 :: p8 :: p9 :: p10 :: p11 :: l) := .there (.there (.there (.there (.there (.there (.there (.there (.there (.there (.there (.there (.here))))))))))))
theorem Mem.m12 : Mem I (p0 :: p1 :: p2 :: p3 :: p4 :: p5 :: p6 :: p7 :: p8 :: p9 :: p10 :: p11 :: (b, o) :: l) b o := .inr (by simp)
theorem Cell.h13 (h : lget cs.toList off = some v) : Cell I (p0 :: p1 :: p2 :: p3 :: p4 :: p5 :: p6 :: p7 :: p8 :: p9 :: p10 :: p11 :: p12 :: (b, .cells cs t fz) :: l) b off v := .there (.there (.there (.there (.there (.there (.there (.there (.there (.there (.there (.there (.there (.here h)))))))))))))
theorem Cells.g13 : Cells I (p0 :: p1 :: p2 :: p3 :: p4 :: p5 :: p6 :: p7 :: p8 :: p9 :: p10 :: p11 :: p12 :: (b, .cells vs.toArray t fz) :: l) b 0 vs := .there (.there (.there (.there (.there (.there (.there (.there (.there (.there (.there (.there (.there (.here)))))))))))))
theorem Upd.u13 : Upd (p0 :: p1 :: p2 :: p3 :: p4 :: p5 :: p6 :: p7 :: p8 :: p9 :: p10 :: p11 :: p12 :: (b, o) :: l) b o o' (p0 :: p1 :: p2 :: p3 :: p4 :: p5 :: p6 :: p7 :: p8 :: p9 :: p10 :: p11 :: p12 :: (b, o') :: l) := .there (.there (.there (.there (.there (.there (.there (.there (.there (.there (.there (.there (.there (.here)))))))))))))
theorem Take.k13 : Take (p0 :: p1 :: p2 :: p3 :: p4 :: p5 :: p6 :: p7 :: p8 :: p9 :: p10 :: p11 :: p12 :: (b, o) :: l) b o (p0 :: p1 :: p2 :: p3 :: p4 :: p5 :: p6 :: p7 :: p8 :: p9 :: p10 :: p11 :: p12 :: l) := .there (.there (.there (.there (.there (.there (.there (.there (.there (.there (.there (.there (.there (.here)))))))))))))
theorem Mem.m13 : Mem I (p0 :: p1 :: p2 :: p3 :: p4 :: p5 :: p6 :: p7 :: p8 :: p9 :: p10 :: p11 :: p12 :: (b, o) :: l) b o := .inr (by simp)
theorem Cell.h14 (h : lget cs.toList off = some v) : Cell I (p0 :: p1 :: p2 :: p3 :: p4 :: p5 :: p6 :: p7 :: p8 :: p9 :: p10 :: p11 :: p12 :: p13 :: (b, .cells cs t fz) :: l) b off v := .there (.there (.there (.there (.there (.there (.there (.there (.there (.there (.there (.there (.there (.there (.here h))))))))))))))
theorem Cells.g14 : Cells I (p0 :: p1 :: p2 :: p3 :: p4 :: p5 :: p6 :: p7 :: p8 :: p9 :: p10 :: p11 :: p12 :: p13 :: (b, .cells vs.toArray t fz) :: l) b 0 vs := .there (.there (.there (.there (.there (.there (.there (.there (.there (.there (.there (.there (.there (.there (.here))))))))))))))
theorem Upd.u14 : Upd (p0 :: p1 :: p2 :: p3 :: p4 :: p5 :: p6 :: p7 :: p8 :: p9 :: p10 :: p11 :: p12 :: p13 :: (b, o) :: l) b o o' (p0 :: p1 :: p2 :: p3 :: p4 :: p5 :: p6 :: p7 :: p8 :: p9 :: p10 :: p11 :: p12 :: p13 :: (b, o') :: l) := .there (.there (.there (.there (.there (.there (.there (.there (.there (.there (.there (.there (.there (.there (.here))))))))))))))
theorem Take.k14 : Take (p0 :: p1 :: p2 :: p3 :: p4 :: p5 :: p6 :: p7 :: p8 :: p9 :: p10 :: p11 :: p12 :: p13 :: (b, o) :: l) b o (p0 :: p1 :: p2 :: p3 :: p4 :: p5 :: p6 :: p7 :: p8 :: p9 :: p10 :: p11 :: p12 :: p13 :: l) := .there (.there (.there (.there (.there (.there (.there (.there (.there (.there (.there (.there (.there (.there (.here))))))))))))))
theorem Mem.m14 : Mem I (p0 :: p1 :: p2 :: p3 :: p4 :: p5 :: p6 :: p7 :: p8 :: p9 :: p10 :: p11 :: p12 :: p13 :: (b, o) :: l) b o := .inr (by simp)
theorem Cell.h15 (h : lget cs.toList off = some v) : Cell I (p0 :: p1 :: p2 :: p3 :: p4 :: p5 :: p6 :: p7 :: p8 :: p9 :: p10 :: p11 :: p12 :: p13 :: p14 :: (b, .cells cs t fz) :: l) b off v := .there (.there (.there (.there (.there (.there (.there (.there (.there (.there (.there (.there (.there (.there (.there (.here h)))))))))))))))
theorem Cells.g15 : Cells I (p0 :: p1 :: p2 :: p3 :: p4 :: p5 :: p6 :: p7 :: p8 :: p9 :: p10 :: p11 :: p12 :: p13 :: p14 :: (b, .cells vs.toArray t fz) :: l) b 0 vs := .there (.there (.there (.there (.there (.there (.there (.there (.there (.there (.there (.there (.there (.there (.there (.here)))))))))))))))
theorem Upd.u15 : Upd (p0 :: p1 :: p2 :: p3 :: p4 :: p5 :: p6 :: p7 :: p8 :: p9 :: p10 :: p11 :: p12 :: p13 :: p14 :: (b, o) :: l) b o o' (p0 :: p1 :: p2 :: p3 :: p4 :: p5 :: p6 :: p7 :: p8 :: p9 :: p10 :: p11 :: p12 :: p13 :: p14 :: (b, o') :: l) := .there (.there (.there (.there (.there (.there (.there (.there (.there (.there (.there (.there (.there (.there (.there (.here)))))))))))))))
theorem Take.k15 : Take (p0 :: p1 :: p2 :: p3 :: p4 :: p5 :: p6 :: p7 :: p8 :: p9 :: p10 :: p11 :: p12 :: p13 :: p14 :: (b, o) :: l) b o (p0 :: p1 :: p2 :: p3 :: p4 :: p5 :: p6 :: p7 :: p8 :: p9 :: p10 :: p11 :: p12 :: p13 :: p14 :: l) := .there (.there (.there (.there (.there (.there (.there (.there (.there (.there (.there (.there (.there (.there (.there (.here)))))))))))))))
theorem Mem.m15 : Mem I (p0 :: p1 :: p2 :: p3 :: p4 :: p5 :: p6 :: p7 :: p8 :: p9 :: p10 :: p11 :: p12 :: p13 :: p14 :: (b, o) :: l) b o := .inr (by simp)
end
section
variable {C : Cx} {E : Env} {I : HMap} {loc : Loc} {S : GS} {dst : Option Tmp} {ty : TypeId} {pos : String} {af : Array Edge} {gd : Option (Nat × Bool)} {x y : Operand}
variable {α β : Type} [DecidableEq α] {ek : α → Value} {ev : β → Value} {m : List (α × β)} {a : α}
/-- A look-up whose answer is known. -/
theorem ev_lookupOkN {t k e r : Nat} {zv : Value} (hget : mget m a = none) (hT : MpT C.P t k e zv) (hK : KeyOK C.P k ek) (hx : evalS S E x = some (.map (some r))) (hy : evalS S E y = some (ek a)) (hm : conj S = true → Mem I loc r (mapO ek ev m)) :
    EvalOp C S E I loc ⟨dst, .lookup t x y true, ty, pos, af, gd⟩ (.tuple #[zv, .bool false]) := by
  have := ev_lookupOk (C := C) (dst := dst) (ty := ty) (pos := pos) (af := af) (gd := gd) hT hK hx hy hm
  rw [hget] at this; exact this
theorem ev_lookupOkS {t k e r : Nat} {zv : Value} {b : β} (hget : mget m a = some b) (hT : MpT C.P t k e zv) (hK : KeyOK C.P k ek) (hx : evalS S E x = some (.map (some r))) (hy : evalS S E y = some (ek a)) (hm : conj S = true → Mem I loc r (mapO ek ev m)) :
    EvalOp C S E I loc ⟨dst, .lookup t x y true, ty, pos, af, gd⟩ (.tuple #[ev b, .bool true]) := by
  have := ev_lookupOk (C := C) (dst := dst) (ty := ty) (pos := pos) (af := af) (gd := gd) hT hK hx hy hm
  rw [hget] at this; exact this
end
theorem take_right {A L : Loc} {b : Nat} {o : Obj} : Take (A ++ (b, o) :: L) b o (A ++ L) := by
  induction A with
  | nil => exact .here
  | cons x l ih => exact .there ih
theorem split_right {A : Loc} : ∀ {L : Loc}, Split (A ++ L) L A
  | [] => by rw [List.append_nil]; exact .nil
  | (_, _) :: _ => .cons take_right split_right
theorem subL_left {L R : Loc} : SubL L (L ++ R) := by
  induction L with
  | nil =>
    induction R with
    | nil => exact .refl
    | cons x l ih => exact .drop ih
  | cons x l ih => exact .keep ih
theorem subL_right {A L : Loc} : SubL L (A ++ L) := by
  induction A with
  | nil => exact .refl
  | cons x l ih => exact .drop ih
/-- A result that is a slice, read from now on. -/
def SlRes {α : Type} (size : Nat) (enc : α → List Value) (xs : List α) : Value → HMap → Loc → Prop := fun v I' L => L = [] ∧ ∃ av c, v = .slice av xs.length c ∧ Sl I' size enc av xs.length c xs
theorem OwnS.res {α : Type} {e size : Nat} {enc : α → List Value} {v : Value} {n : Nat} {xs : List α} {L : Loc} (hO : OwnS e size v n (xs.flatMap enc) L) (hs : ∀ x, (enc x).length = size) (hsz : 0 < size) {g : World} {I H : HMap} {w : World} (hw : St g I H L w) :
    ∃ I', HLe I I' ∧ St g I' H [] w ∧ SlRes size enc xs v I' [] := by
  obtain ⟨I', av, c, h1, h2, h3, h4⟩ := OwnS.freeze (R := []) hO hs hsz (by rw [List.append_nil]; exact hw)
  have := h4.len
  subst this
  exact ⟨I', h1, h2, rfl, av, c, h3, h4⟩
theorem any_step {α : Type} {xs : List α} {k : Nat} {x : α} {p : α → Bool} (hx : xs[k]? = some x) (h : (xs.take k).any p = false) (hc : p x = false) : (xs.take (k + 1)).any p = false := by
  rw [List.take_add_one, hx]; simp [h, hc]
theorem any_end {α : Type} {xs : List α} {k : Nat} {p : α → Bool} (h : (xs.take k).any p = false) (hk : xs.length ≤ k) : xs.any p = false := by
  rw [List.take_of_length_le hk] at h; exact h
theorem any_hit {α : Type} {xs : List α} {k : Nat} {x : α} {p : α → Bool} (hx : xs[k]? = some x) (hc : p x = true) : xs.any p = true := List.any_eq_true.2 ⟨x, List.mem_of_getElem? hx, hc⟩
theorem any_hit_take {α : Type} {xs : List α} {k i : Nat} {x : α} {p : α → Bool} (hx : xs[k]? = some x) (hk : k < i) (hc : p x = true) : (xs.take i).any p = true := by
  refine List.any_eq_true.2 ⟨x, List.mem_of_getElem? (i := k) ?_, hc⟩
  rw [List.getElem?_take, if_pos hk]; exact hx
theorem eq_step {α : Type} {xs ys : List α} {k : Nat} {x y : α} (hx : xs[k]? = some x) (hy : ys[k]? = some y) (h : xs.take k = ys.take k) (e : x = y) : xs.take (k + 1) = ys.take (k + 1) := by
  rw [List.take_add_one, List.take_add_one, hx, hy, h, e]
theorem eq_end {α : Type} {xs ys : List α} {k : Nat} (h : xs.take k = ys.take k) (h1 : xs.length ≤ k) (h2 : ys.length ≤ k) : xs = ys := by
  rw [List.take_of_length_le h1, List.take_of_length_le h2] at h; exact h
theorem filter_step {α : Type} {xs : List α} {k : Nat} {x : α} {p : α → Bool} (hx : xs[k]? = some x) : (xs.take (k + 1)).filter p = (xs.take k).filter p ++ (if p x then [x] else []) := by
  rw [List.take_add_one, hx, List.filter_append]
  simp only [Option.toList_some, List.filter_cons, List.filter_nil]
section
variable {C : Cx} {Q : Exit → Act → World → Prop} {E G : Env} {I I' : HMap} {loc loc' L R : Loc} {ops : Array Oper} {rest : List Oper} {S : GS} {b : Bool}
variable {d : Nat} {ty : TypeId} {pos : String} {af : Array Edge} {gd : Option (Nat × Bool)}
/-- A call whose callee is known only where the guard says yes. -/
theorem XO_callD1 {l : List Operand} {vs : List Value} {tys : Array TypeId} {cal : Operand} {v cv : Value}
    (he : evalS ((b, G) :: S) E cal = some cv) (hl : l.map (evalS ((b, G) :: S) E) = vs.map some) (hsp : Split loc L R) (hc : conj ((b, G) :: S) = true → ∃ f, cv = .func (.func f) #[] #[] ∧ Fun C.P f ∧ RetK C.P f vs I L v)
    (hG : Guarded ops ((b, G) :: S) E ⟨some d, .call ⟨.value cal, l.toArray, tys⟩, ty, pos, af, gd⟩) (hN : Nat.blt d C.N = true) (hf : freshS ((b, G) :: S) E d = true)
    (h : XO C Q ops rest ((b, (d, v) :: G) :: S) E I loc) : XO C Q ops (⟨some d, .call ⟨.value cal, l.toArray, tys⟩, ty, pos, af, gd⟩ :: rest) ((b, G) :: S) E I loc := by
  cases hcj : conj ((b, G) :: S) with
  | false => exact XO_dead1 v hcj hG rfl hN hf h
  | true =>
    obtain ⟨f, rfl, hF, hr⟩ := hc hcj
    exact XO_callK1 (cap := []) he hl hF hsp (fun _ => by rw [List.append_nil]; exact hr) hG hN hf h
/-- All blocks are read from now on. -/
theorem St.freezeAll {g : World} {H : HMap} {w : World} : ∀ {loc : Loc} {I : HMap}, St g I H loc w → ∃ I', HLe I I' ∧ St g I' H [] w ∧ ∀ b o, (b, o) ∈ loc → I' b = some o
  | [], I, h => ⟨I, HLe.refl I, h, fun _ _ hm => by cases hm⟩
  | (b, o) :: l, I, h => by
    obtain ⟨h1, h2, h3⟩ := h.freeze (b := b) (o := o) Take.here
    obtain ⟨I', h4, h5, h6⟩ := St.freezeAll h1
    refine ⟨I', h2.trans h4, h5, fun c p hm => ?_⟩
    rcases List.mem_cons.1 hm with e | hm
    · cases e; exact h4 _ _ h3
    · exact h6 c p hm
/-- A slice and an error, in that order. -/
def SlE {α : Type} (size : Nat) (enc : α → List Value) (xs : List α) (e : Int) : Value → HMap → Loc → Prop := fun v I' L => L = [] ∧ ∃ av c, v = .tuple #[.slice av xs.length c, .int .i64 e] ∧ Sl I' size enc av xs.length c xs
end
end Go.Kn
