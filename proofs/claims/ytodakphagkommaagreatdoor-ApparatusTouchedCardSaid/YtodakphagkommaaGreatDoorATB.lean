/- apparatusTouched_holds, part B of the proof: what its theorems say holds without further conditions. -/
import Derived.Laws.MakeOwn
import Derived.Sort.Row
import Derived.Sort.Grow
import Derived.Test.YtodakphagkommaaGreatDoorProg
import Derived.KernelRfl
import Derived.Lib.Hide
import Derived.Test.YtodakphagkommaaGreatDoorATA
namespace Go.Kn
section
open Go
def K4 (a b:Int):Int:=IntKind.i64.wrap ((BitVec.ofInt 64 a&&& BitVec.ofInt 64 b).toNat:Int)
def orI (a b:Int):Int:=IntKind.i64.wrap ((BitVec.ofInt 64 a||| BitVec.ofInt 64 b).toNat:Int)
def zdz (a b:Int):Int:=IntKind.i64.wrap ((BitVec.ofInt 64 a&&& ~~~(BitVec.ofInt 64 b)).toNat:Int)
section
variable {C:Cx} {Q:Exit→Act→World→Prop} {E E':Env} {I I':Qu} {loc loc' L R:Loc} {ops:Array Oper} {rest:List Oper} {S:GS}
variable {dst:Option Tmp} {d:Nat} {ty:TypeId} {pos:String} {af:Array Edge} {gd:Option (Nat×Bool)} {x y z:Operand} {a b:Int}
theorem Xo {t t':TypeId}(hx:QA S E x=some (.int .i64 a))(hy:QA S E y=some (.int .i64 b)):QT C S E I loc ⟨dst,.binOp .and t x y t',ty,pos,af,gd⟩ (.int .i64 (K4 a b)):=
 .of (by intro c e;cases e) fun ac w ha hg hc _=>by
  simp only [execOp,Qj ha hg hc hx,Qj ha hg hc hy,Sem.run_bind,ZJ,Result.andThen,binOp,ne_eq,not_true_eq_false,if_false,Op.intBits,Sem.run_pure,K4,IntKind.bits];rfl
theorem zvV {t t':TypeId}(hx:QA S E x=some (.int .i64 a))(hy:QA S E y=some (.int .i64 b)):QT C S E I loc ⟨dst,.binOp .or t x y t',ty,pos,af,gd⟩ (.int .i64 (orI a b)):=
 .of (by intro c e;cases e) fun ac w ha hg hc _=>by
  simp only [execOp,Qj ha hg hc hx,Qj ha hg hc hy,Sem.run_bind,ZJ,Result.andThen,binOp,ne_eq,not_true_eq_false,if_false,Op.intBits,Sem.run_pure,orI,IntKind.bits];rfl
theorem zcL {t t':TypeId}(hx:QA S E x=some (.int .i64 a))(hy:QA S E y=some (.int .i64 b)):QT C S E I loc ⟨dst,.binOp .andNot t x y t',ty,pos,af,gd⟩ (.int .i64 (zdz a b)):=
 .of (by intro c e;cases e) fun ac w ha hg hc _=>by
  simp only [execOp,Qj ha hg hc hx,Qj ha hg hc hy,Sem.run_bind,ZJ,Result.andThen,binOp,ne_eq,not_true_eq_false,if_false,Op.intBits,Sem.run_pure,zdz,IntKind.bits];rfl
theorem Xu {t t':TypeId}{k k':IntKind}(hx:QA S E x=some (.int k a))(hy:QA S E y=some (.int k' b))(h0:ZX S=true→0≤b):QT C S E I loc ⟨dst,.binOp .shl t x y t',ty,pos,af,gd⟩ (.int k (k.wrap (a*2^(min b.toNat k.bits)))):=
 .of (by intro c e;cases e) fun ac w ha hg hc _=>by
  have:=h0 hc
  simp only [execOp,Qj ha hg hc hx,Qj ha hg hc hy,Sem.run_bind,ZJ,Result.andThen,binOp,Op.shift,if_neg (show ¬b<0 by omega),Sem.run_pure]
theorem zmI {t:TypeId}(hx:QA S E x=some (.int .i64 a)):QT C S E I loc ⟨dst,.unOp .neg t x,ty,pos,af,gd⟩ (.int .i64 (IntKind.i64.wrap (0-a))):=
 .of (by intro c e;cases e) fun ac w ha hg hc _=>by
  simp only [execOp,Qj ha hg hc hx];rfl
def JT (a b:Int):Int:=if b<a then b else a
def zp2 (a b:Int):Int:=if b>a then b else a
theorem zmZ {k:IntKind}{ats:Array TypeId}(hx:QA S E x=some (.int k a))(hy:QA S E y=some (.int k b)):QT C S E I loc ⟨dst,.call ⟨.builtin .min, #[x,y],ats⟩,ty,pos,af,gd⟩ (.int k (JT a b)):=
 .of (by intro c e;cases e) fun ac w ha hg hc hw=>by
  simp only [execOp,resolve,List.map_toArray,List.map_cons,List.map_nil,Qj ha hg hc hx,Qj ha hg hc hy,Sem.run_bind,Sem.run_pure,Result.andThen,invoke,builtin];rfl
theorem YS {k:IntKind}{ats:Array TypeId}(hx:QA S E x=some (.int k a))(hy:QA S E y=some (.int k b)):QT C S E I loc ⟨dst,.call ⟨.builtin .max, #[x,y],ats⟩,ty,pos,af,gd⟩ (.int k (zp2 a b)):=
 .of (by intro c e;cases e) fun ac w ha hg hc hw=>by
  simp only [execOp,resolve,List.map_toArray,List.map_cons,List.map_nil,Qj ha hg hc hx,Qj ha hg hc hy,Sem.run_bind,Sem.run_pure,Result.andThen,invoke,builtin];rfl
theorem JP {t e n size:Nat}{k:IntKind}{cs:List Value}{i:Int}{v:Value}(hx:QA S E x=some (.agg cs.toArray))(hy:QA S E y=some (.int k i))(hT:ArT C.P t n e size)(hS:ScT C.P e)(hb:ZX S=true→0≤i∧i<(n:Int))(hv:ZX S=true→cs[i.toNat*size]? =some v):
  QT C S E I loc ⟨dst,.index t x y,ty,pos,af,gd⟩ v:=
 .of (by intro c e;cases e) fun ac w ha hg hc _=>by
  obtain ⟨h1,j,h2,h3⟩:=hT
  have h4:cs.toArray[i.toNat*size]? =some v:=by simpa using hv hc
  simp only [execOp,Qj ha hg hc hx,Qj ha hg hc hy,Instr.index,asIntOf,Sem.run_bind,Sem.run_pure,run_underlying h1,Result.andThen,if_pos (hb hc),run_sizeOf h2,h3,part,Yk hS,Bool.false_eq_true,if_false,h4]
theorem zgf {t e n size:Nat}{k:IntKind}{cs:List Value}{i:Int}(hx:QA S E x=some (.agg cs.toArray))(hy:QA S E y=some (.int k i))(hT:ArT C.P t n e size)(hA:AgT C.P e size)(hb:ZX S=true→0≤i∧i<(n:Int)):
  QT C S E I loc ⟨dst,.index t x y,ty,pos,af,gd⟩ (.agg ((cs.drop (i.toNat*size)).take size).toArray):=
 .of (by intro c e;cases e) fun ac w ha hg hc _=>by
  obtain ⟨h1,j,h2,h3⟩:=hT
  have h5:cs.toArray.extract (i.toNat*size) (i.toNat*size+size)=((cs.drop (i.toNat*size)).take size).toArray:=by simp
  simp only [execOp,Qj ha hg hc hx,Qj ha hg hc hy,Instr.index,asIntOf,Sem.run_bind,Sem.run_pure,run_underlying h1,Result.andThen,if_pos (hb hc),run_sizeOf h2,h3,part,YT hA,if_true,h5]
end
section
variable {P:Program} {fn:Func} {R:Ending→World→Prop} {N:Nat} {g:World} {I H:Qu} {loc:Loc} {E:Env} {r:Option Nat}
theorem KH {t tt n b:Nat}{vs:List Value}(hr:fn.results= #[.cell t tt])(hv:VJ E t=some (.pointer (some ⟨b,0,none⟩)))(hA:AgT P tt n)(hc:Cells I loc b 0 vs)(hn:vs.length=n)(h:∀ w,St g I H loc w→R (.returned (.agg vs.toArray)) w):
  At ⟨P,r,N,[],g,H⟩ (bodyPost P fn R) .ret E I loc:=fun a w ha hw=>
 ⟨ha.defers,.agg vs.toArray,by
  have e1:=ha.env _ _ hv
  rw [Array.getD_eq_getD_getElem?] at e1
  have h1:(loadCells ⟨b,0,none⟩ n).run P w= .ok vs.toArray w:=by
   rw [←hn]
   exact run_loadCells_list w _ _ fun j v hj=>by rw [Yo];exact (hc j v hj).get hw
  have hA':=hA
  obtain ⟨_,i,h2,h3⟩:=hA'
  have l1:(loadVar tt ⟨b,0,none⟩).run P w= .ok (.agg vs.toArray) w:=by
   simp only [loadVar,Sem.run_bind,Sem.run_pure,YT hA,Result.andThen,if_true,run_sizeOf h2,h3,h1]
  simp only [results,hr]
  simp [List.mapM_cons,e1,asAddr,l1],h w hw⟩
end
end
section
open Go
theorem Uy {P:Program}{w:World}{dd:Nat}{f:Field}{fs:List Field}{cx cy:Array Value}{u v:Value}{c r:Bool}(hn:f.name≠ "_")(h1:(part f.type cx f.offset).run P w= .ok u w)(h2:(part f.type cy f.offset).run P w= .ok v w)
  (hc:(Op.equalIn dd f.type u v).run P w= .ok c w)(hr:(Op.eqFields dd cx cy fs).run P w= .ok r w):(Op.eqFields dd cx cy (f::fs)).run P w= .ok (c&&r) w:=by
 simp only [Op.eqFields,if_pos hn,Sem.run_bind,h1,h2,hc,Result.andThen,Sem.run_ite]
 cases c with
 | false=>simp
 | true=>simpa using hr
def zgo (P:Program):List Field→Nat→Option (List EqK)
 | [],_=>some []
 | f::fs,k=>if f.name≠ "_" ∧f.offset=k then
   match XP P f.type with
   | some q=>(zgo P fs (k+1)).map (q:: ·)
   | none=>match P.underlying f.type with
    | some (.struct gs)=>if P.stoodInHeld f.type=false then
      match XM P gs.toList 0,P.info? f.type with
      | some l,some i=>if i.size=l.length then (zgo P fs (k+l.length)).map (l++ ·) else none
      | _,_=>none
     else none
    | _=>none
  else none
def zw9 (P:Program)(t:Nat)(ks:List EqK):Prop:=P.underlying t=some (.struct (P.fieldsOf t))∧P.stoodInHeld t=false∧P.eqGuardType P.depth t=false∧zgo P (P.fieldsOf t).toList 0=some ks
theorem Xk:∀ {k1 k2:List EqK} {xs ys:List Value} {b:Bool},JC (k1++k2) xs ys=some b→∃ u1 u2 v1 v2 b1 b2,xs=u1++u2∧ys=v1++v2∧u1.length=k1.length∧v1.length=k1.length∧JC k1 u1 v1=some b1∧JC k2 u2 v2=some b2∧b=(b1&&b2)
 | [],k2,xs,ys,b,h=>⟨[],xs,[],ys,true,b,rfl,rfl,rfl,rfl,rfl,h,by simp⟩
 | .int::k1,k2,xs,ys,b,h=>by
  match xs,ys,h with
  | .int k a::xs,.int k' c::ys,h=>
   simp only [List.cons_append,JC] at h
   split at h
   ·
    rename_i hk
    cases hr:JC (k1++k2) xs ys with
    | none=>rw [hr] at h;cases h
    | some r=>
     rw [hr] at h
     obtain ⟨u1,u2,v1,v2,b1,b2,rfl,rfl,h1,h2,h3,h4,rfl⟩:=Xk hr
     refine ⟨.int k a::u1,u2,.int k' c::v1,v2,(a==c&&b1),b2,rfl,rfl,by simp [h1],by simp [h2],?_,h4,?_⟩
     ·
      simp only [JC,if_pos hk,h3]
     ·
      simp only [Option.some.injEq] at h;rw [←h,Bool.and_assoc]
   ·
    cases h
 | .str::k1,k2,xs,ys,b,h=>by
  match xs,ys,h with
  | .string a::xs,.string c::ys,h=>
   simp only [List.cons_append,JC] at h
   cases hr:JC (k1++k2) xs ys with
   | none=>rw [hr] at h;cases h
   | some r=>
    rw [hr] at h
    obtain ⟨u1,u2,v1,v2,b1,b2,rfl,rfl,h1,h2,h3,h4,rfl⟩:=Xk hr
    refine ⟨.string a::u1,u2,.string c::v1,v2,(zr0 a c&&b1),b2,rfl,rfl,by simp [h1],by simp [h2],?_,h4,?_⟩
    ·
     simp only [JC,h3]
    ·
     simp only [Option.some.injEq] at h;rw [←h,Bool.and_assoc]
 | .bool::k1,k2,xs,ys,b,h=>by
  match xs,ys,h with
  | .bool a::xs,.bool c::ys,h=>
   simp only [List.cons_append,JC] at h
   cases hr:JC (k1++k2) xs ys with
   | none=>rw [hr] at h;cases h
   | some r=>
    rw [hr] at h
    obtain ⟨u1,u2,v1,v2,b1,b2,rfl,rfl,h1,h2,h3,h4,rfl⟩:=Xk hr
    refine ⟨.bool a::u1,u2,.bool c::v1,v2,(a==c&&b1),b2,rfl,rfl,by simp [h1],by simp [h2],?_,h4,?_⟩
    ·
     simp only [JC,h3]
    ·
     simp only [Option.some.injEq] at h;rw [←h,Bool.and_assoc]
theorem Xt {P:Program}{w:World}{t:TypeId}{cs:Array Value}{off:Nat}{v:Value}(h:ScT P t)(hv:cs[off]? =some v):(part t cs off).run P w= .ok v w:=by
 simp only [part,Sem.run_bind,Yk h,Result.andThen,Bool.false_eq_true,if_false,hv,Sem.run_pure]
theorem Xx {P:Program}{w:World}{t:TypeId}{cs:Array Value}{off n:Nat}(h:AgT P t n):(part t cs off).run P w= .ok (.agg (cs.extract off (off+n))) w:=by
 obtain ⟨i,hi,hs⟩:=h.2
 simp only [part,Sem.run_bind,YT h,Result.andThen,if_true,run_sizeOf hi,hs,Sem.run_pure]
theorem X1 (a b c:List Value)(n m:Nat)(hn:a.length=n)(hm:b.length=m):(a++(b++c)).toArray.extract n (n+m)=b.toArray:=by
 subst hn;subst hm
 apply Array.ext'
 simp
theorem ziA {P:Program}{w:World}{dd:Nat}{t:TypeId}{q:EqK}(hk:XP P t=some q){ks:List EqK}{xs ys:List Value}{b:Bool}(he:JC (q::ks) xs ys=some b):
  ∃ u v us vs c r,xs=u::us∧ys=v::vs∧ScT P t∧(Op.equalIn (dd+1) t u v).run P w= .ok c w∧JC ks us vs=some r∧b=(c&&r):=by
 unfold XP at hk
 cases hu:P.underlying t with
 | none=>rw [hu] at hk;cases hk
 | some td=>
  rw [hu] at hk
  cases td<;>simp only [Option.some.injEq,reduceCtorEq] at hk
  case int kk=>
   subst hk
   match xs,ys,he with
   | .int k a::xs,.int k' c::ys,he=>
    simp only [JC] at he
    split at he
    ·
     rename_i hkk
     subst hkk
     cases hr:JC ks xs ys with
     | none=>rw [hr] at he;cases he
     | some r=>
      rw [hr] at he
      simp only [Option.some.injEq] at he
      exact ⟨_,_,xs,ys,(a==c),r,rfl,rfl,⟨_,hu,trivial⟩,run_equalIn_int w dd t k kk a c hu,hr,he.symm⟩
    ·
     cases he
  case string=>
   subst hk
   match xs,ys,he with
   | .string a::xs,.string c::ys,he=>
    simp only [JC] at he
    cases hr:JC ks xs ys with
    | none=>rw [hr] at he;cases he
    | some r=>
     rw [hr] at he
     simp only [Option.some.injEq] at he
     exact ⟨_,_,xs,ys,_,r,rfl,rfl,⟨_,hu,trivial⟩,run_equalIn_string w dd t a c hu,hr,he.symm⟩
  case bool=>
   subst hk
   match xs,ys,he with
   | .bool a::xs,.bool c::ys,he=>
    simp only [JC] at he
    cases hr:JC ks xs ys with
    | none=>rw [hr] at he;cases he
    | some r=>
     rw [hr] at he
     simp only [Option.some.injEq] at he
     exact ⟨_,_,xs,ys,(a==c),r,rfl,rfl,⟨_,hu,trivial⟩,run_equalIn_bool' w dd t a c hu,hr,he.symm⟩
theorem V4 {P:Program}{w:World}(dd:Nat):∀ (fs:List Field) (ks:List EqK) (k:Nat) (pre xs pre' ys:List Value) (b:Bool),zgo P fs k=some ks→pre.length=k→pre'.length=k→JC ks xs ys=some b→
  (Op.eqFields (dd+2) (pre++xs).toArray (pre'++ys).toArray fs).run P w= .ok b w
 | [],ks,k,pre,xs,pre',ys,b,hf,_,_,he=>by
  simp only [zgo,Option.some.injEq] at hf
  subst hf
  cases xs<;>cases ys<;>simp only [JC] at he<;>first | (cases he;rfl) | cases he
 | f::fs,ks,k,pre,xs,pre',ys,b,hf,hp,hp',he=>by
  simp only [zgo] at hf
  split at hf
  ·
   rename_i hn
   cases hk:XP P f.type with
   | some q=>
    rw [hk] at hf
    simp only [Option.map_eq_some_iff] at hf
    obtain ⟨l,hl,rfl⟩:=hf
    obtain ⟨u,v,us,vs,c,r,rfl,rfl,hs,hc,hr,rfl⟩:=ziA (w:=w) (dd:=dd+1) hk he
    refine Uy hn.1 (Xt hs (by rw [hn.2,←hp];simp)) (Xt hs (by rw [hn.2,←hp'];simp)) hc ?_
    have:=V4 (P:=P) (w:=w) dd fs l (k+1) (pre++[u]) us (pre'++[v]) vs r hl (by simp [hp]) (by simp [hp']) hr
    simpa using this
   | none=>
    rw [hk] at hf
    simp only at hf
    cases hu:P.underlying f.type with
    | none=>rw [hu] at hf;cases hf
    | some td=>
     rw [hu] at hf
     cases td<;>simp only [reduceCtorEq] at hf
     rename_i gs
     split at hf
     ·
      rename_i hst
      cases hfl:XM P gs.toList 0 with
      | none=>rw [hfl] at hf;simp at hf
      | some l2=>
       cases hin:P.info? f.type with
       | none=>rw [hfl,hin] at hf;simp at hf
       | some i=>
        rw [hfl,hin] at hf
        simp only at hf
        split at hf
        ·
         rename_i hsz
         simp only [Option.map_eq_some_iff] at hf
         obtain ⟨l,hl,rfl⟩:=hf
         obtain ⟨u1,u2,v1,v2,b1,b2,rfl,rfl,hu1,hv1,h1,h2,rfl⟩:=Xk he
         have hag:AgT P f.type l2.length:=⟨⟨_,hu,trivial⟩,i,hin,hsz⟩
         have hfo:P.fieldsOf f.type=gs:=by unfold Program.fieldsOf;rw [hu]
         refine Uy (u:=.agg u1.toArray) (v:=.agg v1.toArray) hn.1 ?_ ?_ ?_ ?_
         ·
          rw [Xx hag,hn.2,X1 pre u1 u2 k l2.length hp hu1]
         ·
          rw [Xx hag,hn.2,X1 pre' v1 v2 k l2.length hp' hv1]
         ·
          rw [run_equalIn_struct w (dd+1) f.type _ _ (by rw [hfo];exact hu) hst,hfo]
          have:=WK (P:=P) (w:=w) dd gs.toList l2 0 [] u1 [] v1 b1 hfl rfl rfl h1
          simpa using this
         ·
          have:=V4 (P:=P) (w:=w) dd fs l (k+l2.length) (pre++u1) u2 (pre'++v1) v2 b2 hl (by simp [hp,hu1]) (by simp [hp',hv1]) h2
          simpa [List.append_assoc] using this
        ·
         cases hf
     ·
      cases hf
  ·
   cases hf
variable {C:Cx} {Q:Exit→Act→World→Prop} {E E':Env} {I I':Qu} {loc loc' L R:Loc} {ops:Array Oper} {rest:List Oper} {S:GS}
variable {dst:Option Tmp} {d:Nat} {ty:TypeId} {pos:String} {af:Array Edge} {gd:Option (Nat×Bool)} {x y z:Operand}
theorem zdW {t t':TypeId}{ks:List EqK}{us vs:List Value}{b:Bool}(hx:QA S E x=some (.agg us.toArray))(hy:QA S E y=some (.agg vs.toArray))(hT:zw9 C.P t ks)(h:JC ks us vs=some b):QT C S E I loc ⟨dst,.binOp .eql t x y t',ty,pos,af,gd⟩ (.bool b):=
 .of (by intro c e;cases e) fun a w ha hg hc _=>by
  have:=V4 (P:=C.P) (w:=w) 9997 _ _ 0 [] us [] vs b hT.2.2.2 rfl rfl h
  simp only [List.nil_append] at this
  simp only [execOp,Qj ha hg hc hx,Qj ha hg hc hy,Sem.run_bind,run_eqGuard_agg w _ _ _ _ _ _ hT.2.2.1,Result.andThen,run_eql_struct,run_equalIn_struct w 9999 t _ _ hT.1 hT.2.1,this,Sem.run_pure]
theorem zi5 {t t':TypeId}{ks:List EqK}{us vs:List Value}{b:Bool}(hx:QA S E x=some (.agg us.toArray))(hy:QA S E y=some (.agg vs.toArray))(hT:zw9 C.P t ks)(h:JC ks us vs=some b):QT C S E I loc ⟨dst,.binOp .neq t x y t',ty,pos,af,gd⟩ (.bool (!b)):=
 .of (by intro c e;cases e) fun a w ha hg hc _=>by
  have:=V4 (P:=C.P) (w:=w) 9997 _ _ 0 [] us [] vs b hT.2.2.2 rfl rfl h
  simp only [List.nil_append] at this
  simp only [execOp,Qj ha hg hc hx,Qj ha hg hc hy,Sem.run_bind,run_eqGuard_agg w _ _ _ _ _ _ hT.2.2.1,Result.andThen,run_neq_struct,run_equalIn_struct w 9999 t _ _ hT.1 hT.2.1,this,Sem.run_pure]
end
section
open Go
def mk (ms:List Nat):List Deferred:=ms.map fun b=>{target:=.collected b,args:= #[]}
def MB:List Nat→Loc
 | []=>[]
 | b::ms=>MB ms++[(b,.deferred (some []))]
def zrP (C:Cx)(M:List Nat→Env→Qu→Loc→Prop):Act→World→Prop:=fun a w=>∃ ms E I loc,M ms E I loc∧Kk C.N (mk ms) E a∧St C.g I C.H loc w
section
variable {P:Program} {r:Option Nat} {N:Nat} {g:World} {H:Qu} {Q:Exit→Act→World→Prop} {E E':Env} {I I':Qu} {loc loc' L R:Loc} {ms:List Nat}
theorem znq {x y:Code}(T:Env)(_hT:Sub T E)(M:Env→Loc→List Nat→Env→Qu→Loc→Prop)(h1:X ⟨P,r,N,mk ms,g,H⟩ (Exit.then (zrP ⟨P,r,N,[],g,H⟩ (M T loc)) Q) x E I loc)
  (h2:∀ ms E I loc',M T loc ms E I loc'→X ⟨P,r,N,mk ms,g,H⟩ Q y E I loc'):X ⟨P,r,N,mk ms,g,H⟩ Q (.seq x y) E I loc:=fun a w ha hw=>
 wpIn_seq (wpIn_mono (h1 a w ha hw) fun e a' w' hq=>by
  cases e with
  | normal=>obtain ⟨ms',E',I',loc',hM,hf,hs⟩:=hq;exact h2 ms' E' I' loc' hM _ _ hf hs
  | _=>exact hq)
theorem zbz {M:List Nat→Env→Qu→Loc→Prop}{C':Cx}(hN:C'.N=N)(hg:C'.g=g)(hH:C'.H=H)(E':Env)(loc':Loc)(hM:M ms E' I loc')(hE:Sub E' E)(hs:Kq loc' loc):At ⟨P,r,N,mk ms,g,H⟩ (Exit.then (zrP C' M) Q) .normal E I loc:=
 fun _ _ ha hw=>⟨ms,E',I,loc',hM,by rw [hN];exact ha.sub hE,by rw [hg,hH];exact hw.dropTo hs⟩
theorem zn {M:List Nat→Env→Qu→Loc→Prop}{C':Cx}{E':Env}{loc':Loc}(hN:C'.N=N:=by exact rfl)(hg:C'.g=g:=by exact rfl)(hH:C'.H=H:=by exact rfl)(hE:Sub E' E:=by repeat (first | exact .nil | refine .cons rfl ?_))(h:M ms E' I loc')(hs:Kq loc' loc:=by repeat (first | exact .refl | refine .keep ?_ | refine .drop ?_)):At ⟨P,r,N,mk ms,g,H⟩ (Exit.then (zrP C' M) Q) .normal E I loc:=zbz hN hg hH E' loc' h hE hs
theorem zd {M:List Nat→Env→Qu→Loc→Prop}{C':Cx}{E':Env}{loc':Loc}(hN:C'.N=N:=by exact rfl)(hg:C'.g=g:=by exact rfl)(hH:C'.H=H:=by exact rfl)(hE:Sub E' E:=by repeat (first | exact .nil | refine .cons rfl ?_))(h:M ms E' I loc')(hs:Kq loc' loc:=by repeat (first | exact .refl | exact Zg | refine Ym ?_ | refine .drop ?_ | refine Z4 ?_)):At ⟨P,r,N,mk ms,g,H⟩ (Exit.then (zrP C' M) Q) .normal E I loc:=zbz hN hg hH E' loc' h hE hs
theorem zku {M:List Nat→Env→Qu→Loc→Prop}{C':Cx}(hN:C'.N=N)(hg:C'.g=g)(hH:C'.H=H)(E':Env)(loc' l:Loc)(hM:M ms E' I loc')(hE:Sub E' E)(hp:loc'.Perm l)(hs:Kq l loc):At ⟨P,r,N,mk ms,g,H⟩ (Exit.then (zrP C' M) Q) .normal E I loc:=
 fun _ _ ha hw=>⟨ms,E',I,loc',hM,by rw [hN];exact ha.sub hE,by
  rw [hg,hH]
  have h1:=hw.dropTo hs
  exact h1.perm (fun p=>hp.mem_iff) ((hp.map (·.1)).nodup_iff.2 h1.nodup)⟩
theorem Uc {c:Code}(T:Env)(_hT:Sub T E)(J:Env→Loc→Nat→List Nat→Env→Qu→Loc→Prop)(m0:Nat)(E0:Env)(I0:Qu)(loc0:Loc)(h0:J T loc m0 ms E0 I0 loc0)(hE:Sub E0 E)(hI:HLe I0 I)(hl:loc0=loc)
  (round:∀ m ms E I loc',J T loc m ms E I loc'→X ⟨P,r,N,mk ms,g,H⟩ (Exit.then (zrP ⟨P,r,N,[],g,H⟩ fun ms E I loc'=>∃ m',m'<m∧J T loc m' ms E I loc') Q) c E I loc'):X ⟨P,r,N,mk ms,g,H⟩ Q (.loop c) E I loc:=by
 classical
 intro a w ha hw
 let R:Nat→Act→World→Prop:=fun m a w=>∃ ms E I loc',J T loc m ms E I loc'∧Kk N (mk ms) E a∧St g I H loc' w
 have least:∀ a w,(∃ m,R m a w)→∃ m,R m a w∧∀ m',R m' a w→m≤m':=fun a w ⟨m,h⟩=>by
  induction m using Nat.strongRecOn with
  | _ m ih=>
   by_cases h':∃ m',m'<m∧R m' a w
   ·
    obtain ⟨m',hlt,hm⟩:=h';exact ih m' hlt hm
   ·
    exact ⟨m,h,fun m' hm=>Nat.le_of_not_lt fun hlt=>h' ⟨m',hlt,hm⟩⟩
 let μ:Act→World→Nat:=fun a w=>if h:∃ m,R m a w then Classical.choose (least a w h) else 0
 have hμ:∀ a w,(∃ m,R m a w)→R (μ a w) a w:=fun a w h=>by simp only [μ,dif_pos h];exact (Classical.choose_spec (least a w h)).1
 have hle:∀ m a w,R m a w→μ a w≤m:=fun m a w h=>by
  have h':∃ m,R m a w:=⟨m,h⟩
  simp only [μ,dif_pos h'];exact (Classical.choose_spec (least a w h')).2 m h
 refine wpIn_loop (fun a w=>∃ m,R m a w) μ ⟨m0,ms,E0,I0,loc0,h0,ha.sub hE,hl ▸ hw.mono hI⟩ fun a w h=>?_
 obtain ⟨ms1,E1,I1,loc1,hJ,hf,hs⟩:=hμ a w h
 refine wpIn_mono (round _ _ _ _ _ hJ a w hf hs) fun e a' w' hq=>?_
 cases e with
 | normal=>
  obtain ⟨ms2,E2,I2,loc2,⟨m',hlt,hJ'⟩,hf',hs'⟩:=hq
  exact ⟨⟨m',ms2,E2,I2,loc2,hJ',hf',hs'⟩,Nat.lt_of_le_of_lt (hle m' a' w' ⟨ms2,E2,I2,loc2,hJ',hf',hs'⟩) hlt⟩
 | _=>exact hq
theorem WG {α:Type}{gop:Operand}{p:Nat}{assign body:Code}{f:FuncId}{cap:List Value}{K:Loc}{enc:α→Value}{xs:List α}
  (Jc:List α→Qu→Loc→Prop)(Jx:Code→List α→Qu→Loc→Prop)(Ja:List α→α→Env→Qu→Loc→Prop)
  (hg:QA [] E gop=some (.func (.func f) #[] cap.toArray))(hF:Fun P f)(hseq:zxj P f cap I K enc xs)(hp:Nat.blt p N=true)(h0:Jc [] I L)
  (hass:∀ l pre x I' loc' H1,pre++[x]<+:xs→HLe I I'→Jc pre I' loc'→X ⟨P,some l,N,[],g,H1⟩ (Exit.then (Met ⟨P,some l,N,[],g,H1⟩ fun E2 I2 loc2=>HLe I' I2∧Ja pre x E2 I2 loc2) (fun _ _ _=>False)) assign ((p,enc x)::E) I' loc')
  (hbody:∀ l pre x E2 I2 loc2 H2,pre++[x]<+:xs→HLe I I2→Ja pre x E2 I2 loc2→X ⟨P,some l,N,[],g,H2⟩ (zaB g H2 (fun q I3 loc3=>HLe I2 I3∧Jc q I3 loc3) (fun c q I3 loc3=>HLe I2 I3∧Jx c q I3 loc3) (pre++[x])) body E2 I2 loc2)
  (hdone:∀ bd I' loc',HLe I I'→Jc xs I' loc'→At ⟨P,none,N,mk (bd::ms),g,H⟩ Q .normal E I' (loc'++MB (bd::ms)))
  (hstop:∀ c bd pre I' loc',HLe I I'→pre<+:xs→Jx c pre I' loc'→X ⟨P,none,N,mk (bd::ms),g,H⟩ Q c E I' (loc'++MB (bd::ms))):
  X ⟨P,none,N,mk ms,g,H⟩ Q (.rangeFunc gop #[p] assign body) E I (K++(L++MB ms)):=by
 intro a w ha hw
 have back:∀ {I':Qu} {loc':Loc} {bd:Nat} {w':World},St g I' (Vk H (MB ms)) (loc'++[(bd,.deferred (some []))]) w'→St g I' H (loc'++MB (bd::ms)) w':=fun {I' loc' bd w'} h=>by
  have h1:=St.unhide ((hw.rest Qw).rest Qw) h
  refine h1.perm (fun p=>?_) ?_
  ·
   simp only [MB,List.mem_append]
   constructor
   ·
    rintro (h | h | h)
    ·
     exact .inl (.inl h)
    ·
     exact .inr h
    ·
     exact .inl (.inr h)
   ·
    rintro ((h | h) | h)
    ·
     exact .inl h
    ·
     exact .inr (.inr h)
    ·
     exact .inr (.inl h)
  ·
   have hn:=h1.nodup
   have hpm:(loc'++MB (bd::ms)).Perm (loc'++[(bd,.deferred (some []))]++MB ms):=by
    rw [List.append_assoc]
    exact (List.Perm.refl loc').append List.perm_append_comm
   exact (hpm.map (·.1)).nodup_iff.2 hn
 refine zb7 (K:=K) (P:=P) (N:=N) (D:=mk ms) (g:=g) (H:=Vk H (MB ms)) (Q:=Q) Jc Jx Ja hg hF hseq hp h0 hass hbody ?_ ?_ a w ha (show St g I (Vk H (MB ms)) (K++L) w from (show St g I H ((K++L)++MB ms) w by rw [List.append_assoc];exact hw).hideR)
 ·
  intro bd I' loc' hI hJ a' w' ha' hw'
  exact hdone bd I' loc' hI hJ a' w' ha' (back hw')
 ·
  intro c bd pre I' loc' hI hpre hJ a' w' ha' hw'
  exact hstop c bd pre I' loc' hI hpre hJ a' w' ha' (back hw')
theorem WE {fn:Func}{R:Ending→World→Prop}{tmps:Array Value}{v:Value}:∀ (ms:List Nat) {L:Loc} {w:World},St g I H (L++MB ms) w→(∀ w,St g I H L w→(results fn tmps).run P w= .ok v w∧R (.returned v) w)→
  LeavesInM Fence.wide 0 P fn tmps R (mk ms) .returning w
 | [],L,w,hw,h=>by
  have hw:St g I H L w:=by simpa [MB] using hw
  exact ⟨v,h w hw⟩
 | b::ms,L,w,hw,h=>by
  have hu:Upd (L++MB (b::ms)) b (.deferred (some [])) (.deferred none) (L++(MB ms++[(b,.deferred none)])):=QJ (QJ .here)
  have hb:=hw.own _ _ hu.mem
  have hs:=hw.putObj hu
  refine ⟨by simp,.inl ⟨b,_,rfl,run_takeDeferred hb,?_⟩⟩
  exact WE ms (L:=L) (hs.subL (Ym Zg)) h
theorem KY {fn:Func}{R:Ending→World→Prop}{v:Value}(hv:∀ a,Kk N (mk ms) E a→∀ w,St g I H L w→(results fn a.tmps).run P w= .ok v w)(h:∀ w,St g I H L w→R (.returned v) w):
  At ⟨P,r,N,mk ms,g,H⟩ (bodyPostM Fence.wide 0 P fn R) .ret E I (L++MB ms):=fun a w ha hw=>by
 show LeavesInM _ _ _ _ _ _ _ _ _
 rw [ha.defers]
 exact WE ms hw fun w' hw'=>⟨hv a ha w' hw',h w' hw'⟩
theorem zdX {f:FuncId}{fn:Func}{c:Code}{args:List Value}{R:Ending→World→Prop}{w:World}(hf:P.funcs[f]? =some fn)(hb:fn.body=some c){N:Nat}(hN:fn.ntmps=N)
  (hlen:Nat.ble args.length N=true)(hw:St g I H loc w)(h:X ⟨P,none,N,mk [],g,H⟩ (bodyPostM Fence.wide 0 P fn R) c (zm2 0 args) I (loc++MB [])):Calls P f args.toArray w R:=
 zt7 hf hb hN hlen hw (by simpa [MB,mk] using h)
end
end
section
open Go
section
variable {g:World} {I I' H:Qu} {loc loc' L R:Loc} {w w':World}
theorem St.lend (h:St g I H L w):∃ I',HLe I I'∧(∀ b o,(b,o)∈L→I' b=some o)∧St g I' H [] w:=by
 obtain ⟨I',h1,h2,h3⟩:=h.freezeAll
 exact ⟨I',h1,h3,h2⟩
theorem St.unlend (h:St g I H L w)(h':St g I' H [] w')(hI:HLe I I')(hL:∀ b o,(b,o)∈L→I' b=some o):St g I H L w' where
 os:=h'.os
 tape:=h'.tape
 out:=h'.out
 size:=h'.size
 imm:=fun b o hb=>h'.imm b o (hI b o hb)
 frm:=h'.frm
 own:=fun b o hb=>h'.imm b o (hL b o hb)
 sepIH:=h.sepIH
 sepIL:=h.sepIL
 nodup:=h.nodup
theorem zkl.ofV {P:Program}{f:FuncId}{args:List Value}{v:Value}(h:∀ I',HLe I I'→(∀ b o,(b,o)∈L→I' b=some o)→Zw P f args I' v):zkl P f args I L v:=by
 intro g H w hw
 obtain ⟨I',h1,h2,h3⟩:=hw.lend
 refine (h I' h1 h2 g H w h3).mono ?_
 rintro e w' ⟨rfl,hs⟩
 exact ⟨rfl,hw.unlend hs h1 h2⟩
end
variable {C:Cx} {Q:Exit→Act→World→Prop} {E E':Env} {I I':Qu} {loc loc' L R:Loc} {ops:Array Oper} {rest:List Oper} {S:GS}
variable {dst:Option Tmp} {d:Nat} {ty:TypeId} {pos:String} {af:Array Edge} {gd:Option (Nat×Bool)} {x y z:Operand}
section maps
variable {α β:Type} [DecidableEq α] {ek:α→Value} {ev:β→Value} {m:List (α×β)} {a:α}
def zi1 (m:List (α×β))(a:α):Nat:=((K1 m a 0).map (·.1)).getD m.length
omit [DecidableEq α] in
theorem zcJ:∀ (m:List (α×β)) (k i:Nat) (q:α×β),m[i]? =some q→((QM ek ev k m)[i]?).map (fun e=>(e.key,e.born))=some (ek q.1,k+i):=by
 intro m
 induction m with
 | nil=>intro k i q h;simp at h
 | cons p m ih=>
  intro k i q h
  cases i with
  | zero=>simp at h;subst h;simp [QM]
  | succ i=>simp only [QM,List.getElem?_cons_succ];rw [ih _ _ _ (by simpa using h)];simp;omega
theorem zgr {kv vv:Value}:∀ (l:List MapEntry) (i:Nat),(l[i]?).map (·.val)=some vv∨l[i]? =none→l.modify i (fun e=>{e with key:=kv})=l.modify i fun e=>{e with key:=kv,val:=vv}:=by
 intro l
 induction l with
 | nil=>intro i _;simp
 | cons e l ih=>
  intro i hv
  cases i with
  | zero=>simp at hv;simp [hv]
  | succ i=>simp only [List.modify_succ_cons];rw [ih i (by simpa using hv)]
omit [DecidableEq α] in
theorem zia:∀ (m:List (α×β)) (k i:Nat) (q:α×β),m[i]? =some q→((QM ek ev k m)[i]?).map (·.val)=some (ev q.2):=by
 intro m
 induction m with
 | nil=>intro k i q h;simp at h
 | cons p m ih=>
  intro k i q h
  cases i with
  | zero=>simp at h;subst h;simp [QM]
  | succ i=>simp only [QM,List.getElem?_cons_succ];exact ih _ _ _ (by simpa using h)
theorem zqj:∀ (m:List (α×β)) (k j:Nat) (c:β),K1 m a k=some (j,c)→k≤j:=by
 intro m
 induction m with
 | nil=>intro k j c h;cases h
 | cons p m ih=>
  intro k j c h
  unfold K1 at h
  split at h
  ·
   simp at h;omega
  ·
   have:=ih _ _ _ h;omega
theorem zlm:∀ (m:List (α×β)) (k i:Nat) (c:β) (q:α×β),K1 m a k=some (k+i,c)→m[i]? =some q→q.2=c:=by
 intro m
 induction m with
 | nil=>intro k i c q h;cases h
 | cons p m ih=>
  intro k i c q h h'
  unfold K1 at h
  split at h
  ·
   simp only [Option.some.injEq,Prod.mk.injEq] at h
   have:i=0:=by omega
   subst this
   simp at h';subst h';exact h.2
  ·
   cases i with
   | zero=>
    exfalso
    have:=zqj m _ _ _ h;omega
   | succ i=>
    refine ih (k+1) i c q ?_ (by simpa using h')
    rw [h];simp;omega
theorem UB:∀ (m:List (α×β)) (a:α) (b:β),Zy m a=some b→Ys m a b=m
 | [],_,_,h=>by cases h
 | p::m,a,b,h=>by
  unfold Zy at h
  unfold Ys
  split
  ·
   rename_i e
   rw [if_pos e] at h
   cases h;subst e;rfl
  ·
   rename_i e
   rw [if_neg e] at h
   rw [UB m a b h]
theorem zdm {t k e r:Nat}{zv:Value}(zb:β)(hz:ev zb=zv)(hT:MpT C.P t k e zv)(hK:Y7 C.P k ek)(hx:QA [] E x=some (.map (some r)))(hy:QA [] E y=some (ek a))(hG:gd=none)(hN:Nat.blt d C.N=true)
  (hu:Upd loc r (ZR ek ev m) (ZR ek ev (Ys m a ((Zy m a).getD zb))) loc')(h:XO C Q ops rest [] ((d,.tuple #[ev ((Zy m a).getD zb),.int .i64 (zi1 m a:Nat)])::E) I loc'):XO C Q ops (⟨some d,.mapEntry t x y,ty,pos,af,gd⟩::rest) [] E I loc:=
 Z9 hG (by intro c e;cases e) fun a' w ha hw=>by
  have hm:=hw.own _ _ hu.mem
  have hf:=hK.find ev m a w
  have hs:=hw.putObj hu
  have hr:(Instr.mapEntry t (.map (some r)) (ek a)).run C.P w= .ok (.tuple #[ev ((Zy m a).getD zb),.int .i64 (zi1 m a:Nat)]) (w.putObj r (ZR ek ev (Ys m a ((Zy m a).getD zb)))):=by
   simp only [Instr.mapEntry,Sem.run_bind,run_underlying hT.1,Result.andThen,ZG hm,hK.chk]
   rw [hf]
   cases hi:K1 m a 0 with
   | none=>
    have hg0:Zy m a=none:=by rw [←VD m a 0,hi];rfl
    have h1:=Uu m a zb 0 hi
    simp only [Option.map_none,Sem.run_bind,ZQ hT.2,Result.andThen,hg0,Option.getD_none]
    rw [Yf _ hm,h1]
    simp only [Sem.run_pure,zi1,hi,goInt]
    rw [←hz]
    congr 2
    simp [ZR,WL]
   | some p=>
    obtain ⟨i,c⟩:=p
    have hg0:Zy m a=some c:=by rw [←VD m a 0,hi];rfl
    obtain ⟨⟨q,h1,h2⟩,h3,h4⟩:=KG (ek:=ek) (ev:=ev) m a c 0 i c (by rw [hi];simp)
    have hkb:=zcJ (ek:=ek) (ev:=ev) m 0 i q h1
    have hkey:(((QM ek ev 0 m).toArray[i]?).map (·.key)).getD (ek a)=ek a:=by
     simp only [List.getElem?_toArray]
     cases he:(QM ek ev 0 m)[i]? with
     | none=>rfl
     | some e=>rw [he] at hkb;simp at hkb;simp [hkb.1,h2]
    have hborn:(((QM ek ev 0 m).toArray[i]?).map (·.born)).getD 0=i:=by
     simp only [List.getElem?_toArray]
     cases he:(QM ek ev 0 m)[i]? with
     | none=>rw [he] at hkb;simp at hkb
     | some e=>rw [he] at hkb;simp at hkb;simp [hkb.2]
    simp only [Option.map_some,Sem.run_bind,hkey,Instr.keyThatStays,hK.bits,if_true,Sem.run_pure,Result.andThen,hg0,Option.getD_some,UB m a c hg0]
    rw [Yf _ hm]
    have hbornI:((((QM ek ev 0 m).toArray[i]?).map (fun e=>(e.born:Int))).getD 0)=(i:Int):=by
     simp only [List.getElem?_toArray] at hborn ⊢
     cases he:(QM ek ev 0 m)[i]? with
     | none=>rw [he] at hkb;simp at hkb
     | some e=>rw [he] at hkb;simp at hkb;simp [hkb.2]
    rw [UB m a c hg0] at h4
    have hobj:((QM ek ev 0 m).toArray.modify i fun e=>{e with key:=ek a})=(QM ek ev 0 m).toArray:=by
     apply Array.ext'
     rw [Array.toList_modify]
     conv=>rhs;rw [h4]
     refine zgr _ i ?_
     left
     rw [zia m 0 i q h1,zlm m 0 i c q (by rw [hi];simp) h1]
    rw [hobj]
    simp only [zi1,hi,Option.map_some,Option.getD_some,goInt]
    first
     | rfl
     | (rw [hbornI];rfl)
     | (simp only [hborn];rfl)
  simp only [execOp,Qj (S:=[]) ha trivial rfl hx,Qj (S:=[]) ha trivial rfl hy,Sem.run_bind,hr,Result.andThen,Sem.run_pure,Oper.uponIn_value]
  exact h _ _ (ha.put hN _) trivial hs
omit [DecidableEq α] in
theorem zhP:∀ (m:List (α×β)) (k i:Nat),i<m.length→(QM ek ev k m).findIdx? (fun e=>(e.born:Int)==((k+i:Nat):Int))=some i:=by
 intro m
 induction m with
 | nil=>intro k i h;simp at h
 | cons p m ih=>
  intro k i h
  simp only [QM,List.findIdx?_cons]
  cases i with
  | zero=>simp
  | succ i=>
   have hne:(((k:Nat):Int)==((k+(i+1):Nat):Int))=false:=by
    rw [beq_eq_false_iff_ne];omega
   rw [hne]
   have:=ih (k+1) i (by simpa using h)
   rw [show k+(i+1)=k+1+i by omega,this];rfl
theorem zf0 {kv vv:Value}:∀ (l:List MapEntry) (i:Nat),(l[i]?).map (·.key)=some kv→l.modify i (fun e=>{e with val:=vv})=l.modify i fun e=>{e with key:=kv,val:=vv}:=by
 intro l
 induction l with
 | nil=>intro i _;simp
 | cons e l ih=>
  intro i hv
  cases i with
  | zero=>simp at hv;simp [hv]
  | succ i=>simp only [List.modify_succ_cons];rw [ih i (by simpa using hv)]
theorem za2 {t r:Nat}(b c:β)(hm0:Zy m a=some c)(hx:QA [] E x=some (.map (some r)))(hy:QA [] E y=some (.int .i64 (zi1 m a:Nat)))(hz:QA [] E z=some (ev b))(hG:gd=none)
  (hu:Upd loc r (ZR ek ev m) (ZR ek ev (Ys m a b)) loc')(h:XO C Q ops rest [] E I loc'):XO C Q ops (⟨none,.entryStore t x y z,ty,pos,af,gd⟩::rest) [] E I loc:=
 Z9 hG (by intro c e;cases e) fun a' w ha hw=>by
  have hm:=hw.own _ _ hu.mem
  have hs:=hw.putObj hu
  have hr:(Instr.entryStore t (.map (some r)) (.int .i64 (zi1 m a:Nat)) (ev b)).run C.P w= .ok () (w.putObj r (ZR ek ev (Ys m a b))):=by
   cases hi:K1 m a 0 with
   | none=>rw [←VD m a 0,hi] at hm0;cases hm0
   | some p=>
    obtain ⟨i,c'⟩:=p
    obtain ⟨⟨q,h1,h2⟩,h3,h4⟩:=KG (ek:=ek) (ev:=ev) m a b 0 i c' (by rw [hi];simp)
    have hil:i<m.length:=(List.getElem?_eq_some_iff.1 h1).1
    have hp:zi1 m a=i:=by unfold zi1;rw [hi];rfl
    have hfi:=zhP (ek:=ek) (ev:=ev) m 0 i hil
    rw [Nat.zero_add] at hfi
    have hfa:(QM ek ev 0 m).toArray.findIdx? (fun e=>(e.born:Int)==((i:Nat):Int))=some i:=by
     rw [List.findIdx?_toArray];exact hfi
    have hkb:=zcJ (ek:=ek) (ev:=ev) m 0 i q h1
    have hobj:((QM ek ev 0 m).toArray.modify i fun e=>{e with val:=ev b})=(QM ek ev 0 (Ys m a b)).toArray:=by
     apply Array.ext'
     rw [Array.toList_modify]
     rw [h4]
     refine zf0 _ i ?_
     cases he:(QM ek ev 0 m)[i]? with
     | none=>rw [he] at hkb;simp at hkb
     | some e=>rw [he] at hkb;simp at hkb;simp [hkb.1,h2]
    simp only [Instr.entryStore,Sem.run_bind,ZG hm,Result.andThen,asInt,asIntOf,hp,Sem.run_pure]
    rw [hfa]
    simp only []
    rw [Yf _ hm,hobj]
    unfold ZR
    rw [h3]
  simp only [execOp,Qj (S:=[]) ha trivial rfl hx,Qj (S:=[]) ha trivial rfl hy,Qj (S:=[]) ha trivial rfl hz,Sem.run_bind,hr,Result.andThen,Sem.run_pure,Oper.uponIn_skip]
  exact h _ _ ha trivial hs
end maps
theorem zld {zv:Value}(h1:zv.cells= #[zv])(n:Nat):madeCells zv.cells n=(List.replicate n zv).toArray:=by
 rw [h1]
 apply Array.ext'
 have:∀ x:Nat,[zv][x % 1]?.getD default=zv:=fun x=>by rw [Nat.mod_one];rfl
 simp [madeCells,this,List.map_const']
def MkT (P:Program)(t e bytes:Nat)(zv:Value):Prop:=P.underlying t=some (.slice e)∧(P.info? e).map (fun i=>(i.zero,i.size,i.bytes))=some (some zv,1,bytes)∧zv.cells= #[zv]
theorem Q3 {t e bytes:Nat}{zv:Value}{n:Int}(hT:MkT C.P t e bytes zv)(hx:QA [] E x=some (.int .i64 n))(hy:QA [] E y=some (.int .i64 n))(hn:0≤n∧n≤1000000)(hb:bytes≤1000)
  (hG:gd=none)(hN:Nat.blt d C.N=true)(h:∀ b,XO C Q ops rest [] ((d,.slice (some ⟨b,0,none⟩) n.toNat n.toNat)::E) I ((b,.cells (List.replicate n.toNat zv).toArray e (0,0))::loc)):
  XO C Q ops (⟨some d,.makeSlice t x y,ty,pos,af,gd⟩::rest) [] E I loc:=
 Z9 hG (by intro c e;cases e) fun a w ha hw=>by
  obtain ⟨hu,hi,h1⟩:=hT
  rw [Option.map_eq_some_iff] at hi
  obtain ⟨i,hi,he⟩:=hi
  simp only [Prod.mk.injEq] at he
  obtain ⟨hz,hs,hbt⟩:=he
  have hr:=run_makeSlice (P:=C.P) (w:=w) t e i zv hu hi hz .i64 .i64 n n hn.1 (by omega) (by rw [hs];omega) (by rw [hbt];exact Int.le_trans (Int.mul_le_mul (by omega:(bytes:Int)≤1000) hn.2 hn.1 (by omega)) (by decide)) (by omega)
  rw [hs,Nat.mul_one,zld h1] at hr
  simp only [execOp,Qj (S:=[]) ha trivial rfl hx,Qj (S:=[]) ha trivial rfl hy,Sem.run_bind,hr,Result.andThen,Sem.run_pure,Oper.uponIn_value]
  exact h _ _ _ (ha.put hN _) trivial (hw.alloc _)
/-! ### Arrays -/
def ziJ (size:Nat):List Value→List (Nat×Value)→Option (List Value)
 | cells,[]=>some cells
 | cells,(i,v)::rest=>bif Nat.beq (Y0 v).length size&&Nat.ble (i*size+(Y0 v).length) cells.length then ziJ size (Vr cells (i*size) (Y0 v)) rest else none
theorem zeA (size:Nat):∀ (ps:List (Nat×Value)) (cells out:List Value),ziJ size cells ps=some out→Instr.fill (fun i=>some (i*size,size)) cells.toArray ps=some out.toArray
 | [],cells,out,h=>by
  simp only [ziJ,Option.some.injEq] at h
  subst h;rfl
 | (i,v)::ps,cells,out,h=>by
  simp only [ziJ] at h
  cases hb:(Nat.beq (Y0 v).length size&&Nat.ble (i*size+(Y0 v).length) cells.length) with
  | false=>rw [hb] at h;cases h
  | true=>
   rw [hb] at h
   simp only [Bool.and_eq_true] at hb
   have h1:=Nat.eq_of_beq_eq_true hb.1
   have h2:=Nat.le_of_ble_eq_true hb.2
   have e:cells=cells.take (i*size)++(cells.drop (i*size)).take size++cells.drop (i*size+size):=by
    rw [List.append_assoc]
    have:(cells.drop (i*size)).take size++cells.drop (i*size+size)=cells.drop (i*size):=by rw [←List.drop_drop];exact List.take_append_drop _ _
    rw [this,List.take_append_drop]
   have hl1:(cells.take (i*size)).length=i*size:=by rw [List.length_take];omega
   have hl2:((cells.drop (i*size)).take size).length=size:=by rw [List.length_take,List.length_drop];omega
   have hsp:Vr cells (i*size) (Y0 v)=cells.take (i*size)++Y0 v++cells.drop (i*size+size):=by
    have:=Kd (cells.take (i*size)) ((cells.drop (i*size)).take size) (Y0 v) (cells.drop (i*size+size)) (by rw [hl2];exact h1.symm)
    rw [←e,hl1] at this
    exact this
   have hfo:=zbd (place:=fun i=>some (i*size,size)) (i:=i) (off:=i*size) (size:=size) (v:=v) (vs:=Y0 v) (pre:=cells.take (i*size)) (old:=(cells.drop (i*size)).take size) (tail:=cells.drop (i*size+size)) (l:=ps) rfl (zdc v) h1 hl1 hl2
   rw [←e] at hfo
   rw [hfo,←hsp]
   exact zeA size ps _ out h
theorem Zp {t n e size:Nat}{zl:List Value}{parts:Array (Nat×Operand)}{ps:List (Nat×Value)}(cells:List Value)(hA:ArT C.P t n e size)(hz:Yp C.P t (.agg zl.toArray))(hp:parts.toList.map (fun p=>(QA S E p.2).map fun v=>(p.1,v))=ps.map some)(hf:ziJ size zl ps=some cells):
  QT C S E I loc ⟨dst,.build t parts,ty,pos,af,gd⟩ (.agg cells.toArray):=
 .of (by intro c e;cases e) fun a w ha hg hc hw=>by
  obtain ⟨hu,i,hi,hs⟩:=hA
  have key:∀ (l:List (Nat×Operand)) (ps:List (Nat×Value)),l.map (fun p=>(QA S E p.2).map fun v=>(p.1,v))=ps.map some→l.map (fun p=>(p.1,a.eval p.2))=ps:=by
   intro l
   induction l with
   | nil=>intro ps h;cases ps<;>simp_all
   | cons p l ih=>
    intro ps h
    cases ps with
    | nil=>simp at h
    | cons q ps=>
     simp only [List.map_cons,List.cons.injEq] at h ⊢
     refine ⟨?_,ih _ h.2⟩
     cases e1:QA S E p.2 with
     | none=>rw [e1] at h;simp at h
     | some v=>
      rw [e1] at h
      rw [Qj ha hg hc e1]
      simpa using h.1
  have hps:(parts.map fun (i,x)=>(i,a.eval x)).toList=ps:=by
   rw [←key _ _ hp];simp
  have hfe:=zeA size ps zl cells hf
  have hzc:(Value.agg zl.toArray).cells=zl.toArray:=rfl
  simp only [execOp,Instr.build,Sem.run_bind,ZQ hz,Result.andThen,run_underlying hu,run_sizeOf hi,hs,hps,hzc,hfe,Sem.run_pure]
theorem U4 {P:Program}{w:World}{t k e d:Nat}{m:Option Nat}(hT:P.underlying t=some (.map k e)):(Op.equalIn (d+1) t (.map m) (.map none)).run P w= .ok m.isNone w:=by
 simp only [Op.equalIn,Sem.run_bind,run_underlying hT,Result.andThen]
 cases m<;>rfl
theorem zif {t t' k e:Nat}{m:Option Nat}(hx:QA S E x=some (.map m))(hy:QA S E y=some (.map none))(hT:C.P.underlying t=some (.map k e)):QT C S E I loc ⟨dst,.binOp .eql t x y t',ty,pos,af,gd⟩ (.bool m.isNone):=
 .of (by intro c e;cases e) fun a w ha hg hc _=>by
  have e1:(eqGuard .eql t x y (.map m) (.map none)).run C.P w= .ok () w:=by unfold eqGuard;rfl
  have e2:(Op.equalIn 10000 t (.map m) (.map none)).run C.P w= .ok m.isNone w:=U4 (d:=9999) hT
  simp only [execOp,Qj ha hg hc hx,Qj ha hg hc hy,Sem.run_bind,e1,Sem.run_pure,Result.andThen,binOp,Op.equal,Op.maxDepth,e2]
end
section
open Go Go.Sort
section
variable {g:World} {I I' H:Qu} {loc loc' L R:Loc} {w w':World}
theorem St.grown (h:St g I H loc w)(os:Array Obj):St g I H loc (grow w os):=by
 have key:∀ (b:Nat) (o:Obj),w.heap[b]? =some o→(grow w os).heap[b]? =some o:=fun b o e=>by
  have hb:b<w.heap.size:=(Array.getElem?_eq_some_iff.1 e).1
  simp only [grow]
  rw [Array.getElem?_append_left hb];exact e
 exact ⟨h.os,h.tape,h.out,⟨Nat.le_trans h.size.1 (by simp [grow]),h.size.2⟩,fun b o e=>key b o (h.imm b o e),fun b o e=>key b o (h.frm b o e),fun b o e=>key b o (h.own b o e),h.sepIH,h.sepIL,h.nodup⟩
theorem St.aheadN (h:St g I H loc w)(n:Nat):St g I H loc (Go.Sort.ahead w n):=⟨h.os,h.tape,h.out,⟨h.size.1,Nat.le_trans h.size.2 (by simp [Go.Sort.ahead])⟩,h.imm,h.frm,h.own,h.sepIH,h.sepIL,h.nodup⟩
theorem St.rowPut {α:Type}[Inhabited α]{enc:α→Value}{b:Nat}{cs:Array Value}{e:TypeId}{fz:Nat×Nat}(h:St g I H loc w)(d:Array α)(hu:Upd loc b (.cells cs e fz) (.cells (putCells enc 0 d cs) e fz) loc'):St g I H loc' (putRow enc w b 0 d):=by
 have hb:=h.own _ _ hu.mem
 refine h.turn hu rfl rfl rfl (by simp) ?_ ?_
 ·
  simp only [putRow,mapBlock,Array.getElem?_modify,hb,Option.map_some];rfl
 ·
  intro c hc
  simp only [putRow,mapBlock,Array.getElem?_modify,if_neg (Ne.symm hc)]
theorem zbA {α:Type}[Inhabited α]{enc:α→Value}{cs:Array Value}{n:Nat}(xs:List α)(hl:xs.length=n)(hc:n≤cs.size):(putCells enc 0 xs.toArray cs).toList.take n=xs.map enc:=by
 apply List.ext_getElem?
 intro i
 by_cases hi:i<n
 ·
  rw [List.getElem?_take_of_lt hi,List.getElem?_map]
  have h1:i<cs.size:=by omega
  have h2:i<xs.length:=by omega
  have h3:(putCells enc 0 xs.toArray cs)[i]? =some (enc xs[i]):=by
   simp only [putCells,Array.getElem?_mapIdx,Array.getElem?_eq_getElem h1,Option.map_some]
   have:(0≤i∧i<0+xs.toArray.size):=by simp;omega
   rw [if_pos this]
   congr 2
   simp [h2]
  rw [Array.getElem?_toList,h3,List.getElem?_eq_getElem h2];rfl
 ·
  rw [List.getElem?_eq_none (by rw [List.length_take];omega),List.getElem?_eq_none (by rw [List.length_map];omega)]
theorem zac {α:Type}[Inhabited α]{enc:α→Value}{b:Nat}{cs:Array Value}{e:TypeId}(h:St g I H loc w)(hm:(b,Obj.cells cs e (0,0))∈loc)(xs:List α)(hl:cs.toList.take xs.length=xs.map enc):Holds enc w b 0 xs.toArray:=by
 have hb:=h.own _ _ hm
 intro j hj
 have hj':j<xs.length:=by simpa using hj
 refine ⟨?_,?_⟩
 ·
  simp only [World.cell?,hb,Option.isSome_none,Bool.false_eq_true,if_false]
  have:(cs.toList.take xs.length)[j]? =some (enc xs[j]):=by rw [hl,List.getElem?_map,List.getElem?_eq_getElem hj'];rfl
  rw [List.getElem?_take_of_lt hj',Array.getElem?_toList] at this
  rw [show 0+j=j from by omega,this]
  congr 2
  simp [hj']
 ·
  simp only [World.frozen?,hb];simp
theorem zhn {P:Program}{f:FuncId}{e:TypeId}
  (hs:∀ (blk off cap:Nat) (zs:List Int) (w:World),Holds (Value.int .i64) w blk off zs.toArray→blk<w.heap.size→zs.length<4611686018427387904→Calls P f #[.slice (some ⟨blk,off,none⟩) zs.length cap] w fun e w'=>e= .returned (.tuple #[])∧∃ n os,w'=grow (putRow (Value.int .i64) (Go.Sort.ahead w n) blk off (zs.mergeSort fun x y=>decide (x≤y)).toArray) os)
  (h0:∀ (p:Option Addr) (cap:Nat) (w:World),Calls P f #[.slice p 0 cap] w fun e w'=>e= .returned (.tuple #[])∧w'=w)
  (zs:List Int){v:Value}{n:Nat}{L:Loc}(hO:OwnS e 1 v n (zs.map (Value.int .i64)) L)(hn:n≤1000000)(I:Qu):
  Yg P f [v] I L (fun u I' L'=>u= .tuple #[]∧I'=I∧OwnS e 1 v n ((zs.mergeSort fun x y=>decide (x≤y)).map (Value.int .i64)) L'):=by
 intro g H w hw
 have hl:zs.length=n:=by have:=hO.1;simpa using this
 subst hl
 rcases hO.2 with ⟨rfl,h00,rfl⟩ | ⟨b,c,cur,rfl,rfl,hc,hc2,hsz,htk⟩
 ·
  have:zs=[]:=List.length_eq_zero_iff.1 h00
  subst this
  refine (h0 none 0 w).mono ?_
  rintro e w' ⟨rfl,rfl⟩
  refine ⟨_,I,[],rfl,zye _,hw,rfl,rfl,by simp,.inl ⟨rfl,rfl,rfl⟩⟩
 ·
  rw [Nat.mul_one] at hsz htk
  have hb:=hw.own b _ (List.mem_singleton.2 rfl)
  refine (hs b 0 c zs w (zac hw (List.mem_singleton.2 rfl) zs htk) (Array.getElem?_eq_some_iff.1 hb).1 (by omega)).mono ?_
  rintro e w' ⟨rfl,k,os,rfl⟩
  refine ⟨_,I,_,rfl,zye _,(((hw.aheadN k).rowPut _ .here).grown os),rfl,rfl,by simp [List.length_mergeSort],.inr ⟨b,c,_,rfl,rfl,hc,hc2,by simp [putCells,hsz],?_⟩⟩
  rw [Nat.mul_one]
  exact zbA _ (by simp [List.length_mergeSort]) (by omega)
theorem zaw {P:Program}{f:FuncId}{e:TypeId}(co:List Int→List Int)(hco:∀ zs,(co zs).length≤zs.length)(hcn:co []=[])
  (hs:∀ (blk off cap:Nat) (zs:List Int) (w:World),Holds (Value.int .i64) w blk off zs.toArray→zs.length≤9223372036854775807→zs.length≤cap→Calls P f #[.slice (some ⟨blk,off,none⟩) zs.length cap] w fun e w'=>e= .returned (.slice (some ⟨blk,off,none⟩) (co zs).length cap)∧∃ q,w'=putRow (Value.int .i64) (Go.Sort.ahead w q) blk off (co zs++List.replicate (zs.length-(co zs).length) 0).toArray)
  (h0:∀ (p:Option Addr) (cap:Nat) (w:World),Calls P f #[.slice p 0 cap] w fun e w'=>e= .returned (.slice p 0 cap)∧w'=w)
  (zs:List Int){v:Value}{n:Nat}{L:Loc}(hO:OwnS e 1 v n (zs.map (Value.int .i64)) L)(hn:n≤1000000)(I:Qu):
  Yg P f [v] I L (fun u I' L'=>I'=I∧OwnS e 1 u (co zs).length ((co zs).map (Value.int .i64)) L'):=by
 intro g H w hw
 have hl:zs.length=n:=by have:=hO.1;simpa using this
 subst hl
 have hle:=hco zs
 rcases hO.2 with ⟨rfl,h00,rfl⟩ | ⟨b,c,cur,rfl,rfl,hc,hc2,hsz,htk⟩
 ·
  have:zs=[]:=List.length_eq_zero_iff.1 h00
  subst this
  refine (h0 none 0 w).mono ?_
  rintro e w' ⟨rfl,rfl⟩
  refine ⟨_,I,[],rfl,zye _,hw,rfl,by simp [hcn],.inl ⟨rfl,by simp [hcn],rfl⟩⟩
 ·
  rw [Nat.mul_one] at hsz htk
  refine (hs b 0 c zs w (zac hw (List.mem_singleton.2 rfl) zs htk) (by omega) hc).mono ?_
  rintro e w' ⟨rfl,k,rfl⟩
  refine ⟨_,I,_,rfl,zye _,(hw.aheadN k).rowPut _ .here,rfl,by simp,.inr ⟨b,c,_,rfl,rfl,by omega,hc2,by simp [putCells,hsz],?_⟩⟩
  rw [Nat.mul_one]
  have h1:=zbA (enc:=Value.int .i64) (cs:=cur) (n:=zs.length) (co zs++List.replicate (zs.length-(co zs).length) 0) (by simp;omega) (by omega)
  have h2:=congrArg (List.take (co zs).length) h1
  rw [List.take_take,Nat.min_eq_left hle] at h2
  rw [h2];simp
end
end
section
open Go
section
variable {g:World} {I I' H:Qu} {loc loc' L R:Loc} {w w':World}
theorem OwnS.sl {α:Type}{e size:Nat}{enc:α→List Value}{v:Value}{n:Nat}{xs:List α}(hO:OwnS e size v n (xs.flatMap enc) L)(hs:∀ x,(enc x).length=size)(hsz:0<size)(hI:∀ b o,(b,o)∈L→I b=some o):∃ av c,v= .slice av n c∧Sl I size enc av n c xs:=by
 have hn:xs.length=n:=by
  have:=hO.1
  rw [ZU hs] at this
  exact Nat.eq_of_mul_eq_mul_right hsz this
 rcases hO.2 with ⟨rfl,rfl,rfl⟩ | ⟨b,c,cur,rfl,rfl,hc,_,hcs,htake⟩
 ·
  have:xs=[]:=List.length_eq_zero_iff.1 hn
  subst this
  exact ⟨none,0,rfl,.nil⟩
 ·
  have h3:=hI b _ (List.mem_cons_self ..)
  refine ⟨_,_,rfl,hn,hc,fun _=>rfl,fun k x hx j u hu=>.imm h3 ?_⟩
  rw [Y8]
  simp only [Ao,Nat.zero_add]
  have hq:=XL hs xs k x hx j u hu
  rw [←htake,List.getElem?_take] at hq
  split at hq
  ·
   simpa using hq
  ·
   cases hq
def Vj (e size:Nat):List (Value×Nat×List Value)→Loc→Prop
 | [],L=>L=[]
 | t::ts,L=>∃ L1 L2,L=L1++L2∧OwnS e size t.1 t.2.1 t.2.2 L1∧Vj e size ts L2
def V7:Value×Nat×List Value:=(.slice none 0 0,0,[])
theorem Vj.nil {e size:Nat}:Vj e size [] []:=rfl
theorem Vj.at {α:Type}[DecidableEq α]{e size:Nat}(a:α):∀ {m:List (α×(Value×Nat×List Value))} {L:Loc},Vj e size (m.map (·.2)) L→
  ∃ A Lt B,L=A++(Lt++B)∧OwnS e size ((Zy m a).getD V7).1 ((Zy m a).getD V7).2.1 ((Zy m a).getD V7).2.2 Lt∧∀ t' Lt',OwnS e size t'.1 t'.2.1 t'.2.2 Lt'→Vj e size ((Ys m a t').map (·.2)) (A++(Lt'++B))
 | [],L,h=>by
  have h:L=[]:=h
  subst h
  exact ⟨[],[],[],rfl,.nil,fun t' Lt' h'=>⟨Lt',[],by simp,h',rfl⟩⟩
 | p::m,L,⟨L1,L2,e1,h1,h2⟩=>by
  by_cases hp:p.1=a
  ·
   refine ⟨[],L1,L2,by rw [e1];rfl,by simp only [Zy,if_pos hp];exact h1,fun t' Lt' h'=>?_⟩
   simp only [Ys,if_pos hp,List.map_cons]
   exact ⟨Lt',L2,rfl,h',h2⟩
  ·
   obtain ⟨A,Lt,B,e2,h3,h4⟩:=Vj.at a h2
   refine ⟨L1++A,Lt,B,by rw [e1,e2,List.append_assoc],by simp only [Zy,if_neg hp];exact h3,fun t' Lt' h'=>?_⟩
   simp only [Ys,if_neg hp,List.map_cons]
   exact ⟨L1,A++(Lt'++B),by rw [List.append_assoc],h1,h4 t' Lt' h'⟩
end
variable {C:Cx} {Q:Exit→Act→World→Prop} {E:Env} {I:Qu} {loc:Loc}
theorem Vo {c:Code}(h:∀ I',HLe I I'→(∀ b o,(b,o)∈loc→I' b=some o)→X C Q c E I' []):X C Q c E I loc:=fun a w ha hw=>by
 obtain ⟨I',h1,h2,h3⟩:=hw.freezeAll
 exact h I' h1 h3 a w ha h2
theorem KC {ops:Array Oper}{rest:List Oper}{S:GS}(h:∀ I',HLe I I'→(∀ b o,(b,o)∈loc→I' b=some o)→XO C Q ops rest S E I' []):XO C Q ops rest S E I loc:=fun a w ha hg hw=>by
 obtain ⟨I',h1,h2,h3⟩:=hw.freezeAll
 exact h I' h1 h3 a w ha hg h2
theorem zc9 {c:Code}{L R:Loc}(hsp:YF loc L R)(h:∀ I',HLe I I'→(∀ b o,(b,o)∈L→I' b=some o)→X C Q c E I' R):X C Q c E I loc:=fun a w ha hw=>by
 have h0:=hw.unsplit hsp
 have h1:=h0.hideR
 obtain ⟨I',h2,h3,h4⟩:=h1.freezeAll
 have h5:St C.g I' C.H R w:=St.unhide (h0.rest Qw) h3
 exact h I' h2 h4 a w ha h5
theorem YE {α β:Type}[DecidableEq α]:∀ (m:List (α×β)) (a x:α) (b:β),Zy (Ys m a b) x=if a=x then some b else Zy m x
 | [],a,x,b=>by simp [Ys,Zy]
 | p::m,a,x,b=>by
  unfold Ys
  by_cases h:p.1=a
  ·
   rw [if_pos h]
   simp only [Zy]
   by_cases h2:a=x
   ·
    rw [if_pos h2,if_pos h2]
   ·
    rw [if_neg h2,if_neg h2,if_neg (by rw [h];exact h2)]
  ·
   rw [if_neg h]
   simp only [Zy]
   rw [YE m a x b]
   by_cases h2:p.1=x
   ·
    rw [if_pos h2,if_pos h2,if_neg (fun e=>h (by rw [h2,e]))]
   ·
    rw [if_neg h2,if_neg h2]
theorem KT {α β:Type}[DecidableEq α]:∀ {m:List (α×β)} {a:α} {b:β},Zy m a=some b→(a,b)∈m
 | [],_,_,h=>by cases h
 | p::m,a,b,h=>by
  unfold Zy at h
  split at h
  ·
   rename_i e
   cases h
   rw [←e];exact List.mem_cons_self ..
  ·
   exact List.mem_cons_of_mem _ (KT h)
theorem U0 {α β:Type}[DecidableEq α]:∀ {m:List (α×β)} {a:α},Zy m a=none↔a∉m.map (·.1)
 | [],a=>by simp [Zy]
 | p::m,a=>by
  unfold Zy
  by_cases h:p.1=a
  ·
   simp [h]
  ·
   rw [if_neg h,U0,List.map_cons,List.mem_cons,not_or]
   exact ⟨fun h2=>⟨fun e=>h e.symm,h2⟩,fun h2=>h2.2⟩
theorem Ku {α β:Type}[DecidableEq α]:∀ (m:List (α×β)) (a:α) (b:β),(Ys m a b).map (·.1)=if a∈m.map (·.1) then m.map (·.1) else m.map (·.1)++[a]
 | [],a,b=>by simp [Ys]
 | p::m,a,b=>by
  unfold Ys
  by_cases h:p.1=a
  ·
   simp [h]
  ·
   rw [if_neg h,List.map_cons,Ku m a b]
   by_cases h2:a∈m.map (·.1)
   ·
    rw [if_pos h2,if_pos (by simp only [List.map_cons];exact List.mem_cons_of_mem _ h2)];rfl
   ·
    rw [if_neg h2,if_neg (by simp only [List.map_cons,List.mem_cons,not_or];exact ⟨fun e=>h e.symm,h2⟩)];rfl
theorem Wu {α β:Type}[DecidableEq α]{m:List (α×β)}(a:α)(b:β)(h:(m.map (·.1)).Nodup):((Ys m a b).map (·.1)).Nodup:=by
 rw [Ku]
 split
 ·
  exact h
 ·
  rename_i h2
  rw [List.nodup_append]
  exact ⟨h,by simp,fun x hx y hy e=>by simp at hy;subst hy;subst e;exact h2 hx⟩
theorem zbK {α β:Type}[DecidableEq α]{m:List (α×β)}(h:(m.map (·.1)).Nodup){p:α×β}(hp:p∈m):Zy m p.1=some p.2:=by
 induction m with
 | nil=>cases hp
 | cons q m ih=>
  rw [List.map_cons,List.nodup_cons] at h
  unfold Zy
  rcases List.mem_cons.1 hp with rfl | hp
  ·
   rw [if_pos rfl]
  ·
   rw [if_neg (fun e=>h.1 (by rw [e];exact List.mem_map.2 ⟨p,hp,rfl⟩)),ih h.2 hp]
def zaf {α:Type}[DecidableEq α](s:List (α×Bool))(a:α):Bool:=(Zy s a).getD false
theorem UC {α:Type}[DecidableEq α](s:List (α×Bool))(a x:α):zaf (Ys s a true) x=(decide (a=x)||zaf s x):=by
 unfold zaf
 rw [YE]
 by_cases h:a=x
 ·
  simp [h]
 ·
  simp [h]
end
end Go.Kn
section
namespace Go.Kn
open Go
section
variable {I:Qu} {b off:Nat} {vs:List Value} {A:Array Value} {t:TypeId} {fz:Nat×Nat} {l:Loc}
variable {p0 p1 p2 p3 p4 p5 p6 p7 p8 p9:Nat×Obj}
theorem Cells.s0 (h:(A.toList.drop off).take vs.length=vs):Cells I ((b,.cells A t fz)::l) b off vs:=fun j v hv=>by
 refine zx9 ?_
 rw [Y8]
 rw [←h] at hv
 rw [List.getElem?_take] at hv
 split at hv
 ·
  rw [List.getElem?_drop] at hv;exact hv
 ·
  cases hv
theorem Cells.s1 (h:(A.toList.drop off).take vs.length=vs):Cells I (p0::(b,.cells A t fz)::l) b off vs:=(Cells.s0 h).there
theorem Sl.seg {α:Type}{size:Nat}{enc:α→List Value}{av:Option Addr}{n c:Nat}{xs:List α}{loc:Loc}(h:Sl I size enc av n c xs){k o:Nat}{x:α}(hx:xs[k]? =some x)(hv:((enc x).drop o).take vs.length=vs):Cells I loc (Ab av) (Ao av+k*size+o) vs:=fun j u hu=>by
 rw [←hv,List.getElem?_take] at hu
 split at hu
 ·
  rw [List.getElem?_drop] at hu
  rw [Nat.add_assoc]
  exact h.get hx hu
 ·
  cases hu
end
theorem Y3 {P:Program}{g:World}{I H:Qu}{post:List Value}{off:Nat}:∀ (vs:List Value) (pre:List Value) (w:World) (loc loc':Loc) (b:Nat) (t:TypeId) (old:List Value) (k:Nat),pre.length=off+k→old.length=vs.length→(∀ v∈vs,v.oneCell'=true)→St g I H loc w→
  Upd loc b (.cells (pre++(old++post)).toArray t (0,0)) (.cells (pre++(vs++post)).toArray t (0,0)) loc'→∃ w',(storeCells ⟨b,off,none⟩ vs k).run P w= .ok () w'∧St g I H loc' w'
 | [],pre,w,loc,loc',b,t,old,k,_,hl,_,hw,hu=>by
  have:old=[]:=List.length_eq_zero_iff.1 hl
  subst this
  refine ⟨w,rfl,?_⟩
  have hb:=hw.own _ _ hu.mem
  exact hw.turn hu rfl rfl rfl rfl hb (fun _ _=>rfl)
 | v::vs,pre,w,loc,loc',b,t,old,k,hp,hl,h1,hw,hu=>by
  cases old with
  | nil=>simp at hl
  | cons u old=>
   have hb:=hw.own _ _ hu.mem
   have hc:w.cell? ⟨b,off+k,none⟩=some u:=by simp [World.cell?,hb,←hp]
   have hfz:=Uj (off:=off+k) hw hu.mem
   obtain ⟨l1,u1,u2⟩:=hu.middle (.cells ((pre++[v])++(old++post)).toArray t (0,0))
   have hset:((pre++(u::old++post)).toArray.setIfInBounds (off+k) v)=((pre++[v])++(old++post)).toArray:=by rw [←hp];simp
   rw [←hset] at u1
   have hw1:=hw.setCell u1
   rw [hset] at u1
   obtain ⟨w',hr,hs⟩:=Y3 (P:=P) (post:=post) (off:=off) vs (pre++[v]) _ l1 loc' b t old (k+1) (by simp;omega) (by simpa using hl) (fun x hx=>h1 x (List.mem_cons_of_mem _ hx)) hw1 (by simpa using u2)
   refine ⟨w',?_,hs⟩
   simp only [storeCells,Sem.run_bind,Yo,run_store _ _ _ _ _ (h1 v (List.mem_cons_self ..)),hc,hfz,Bool.false_eq_true,if_false,Result.andThen,hr]
variable {C:Cx} {Q:Exit→Act→World→Prop} {E E':Env} {I I':Qu} {loc loc' L R:Loc} {ops:Array Oper} {rest:List Oper} {S:GS}
variable {dst:Option Tmp} {d:Nat} {ty:TypeId} {pos:String} {af:Array Edge} {gd:Option (Nat×Bool)} {x y z:Operand}
theorem XW {A:List Value}{off n:Nat}{vs:List Value}(h:off+n≤A.length)(hn:vs.length=n):Vr A off vs=A.take off++(vs++A.drop (off+n)):=by
 have e:A=A.take off++(A.drop off).take n++A.drop (off+n):=by
  rw [List.append_assoc]
  have:(A.drop off).take n++A.drop (off+n)=A.drop off:=by rw [←List.drop_drop];exact List.take_append_drop _ _
  rw [this,List.take_append_drop]
 have hl1:(A.take off).length=off:=by rw [List.length_take];omega
 have:=Kd (A.take off) ((A.drop off).take n) vs (A.drop (off+n)) (by rw [List.length_take,List.length_drop];omega)
 rw [←e,hl1,List.append_assoc] at this
 exact this
theorem Jf {t t' b off n:Nat}{vs:List Value}{A:List Value}(hx:QA [] E x=some (.pointer (some ⟨b,off,none⟩)))(hy:QA [] E y=some (.agg vs.toArray))(hT:SzT C.P t n)(hn:vs.length=n)(ho:Nat.ble (off+n) A.length=true)(h1:Yx vs=true)(hG:gd=none)
  (hu:Upd loc b (.cells A.toArray t' (0,0)) (.cells (Vr A off vs).toArray t' (0,0)) loc')(h:XO C Q ops rest [] E I loc'):
  XO C Q ops (⟨none,.store t x y,ty,pos,af,gd⟩::rest) [] E I loc:=
 Z9 hG (by intro c e;cases e) fun a w ha hw=>by
  obtain ⟨i,hi,hs⟩:=hT
  have hle:=Nat.le_of_ble_eq_true ho
  have e:A=A.take off++((A.drop off).take n++A.drop (off+n)):=by
   have:(A.drop off).take n++A.drop (off+n)=A.drop off:=by rw [←List.drop_drop];exact List.take_append_drop _ _
   rw [this,List.take_append_drop]
  rw [XW hle hn] at hu
  have hu2:Upd loc b (.cells (A.take off++((A.drop off).take n++A.drop (off+n))).toArray t' (0,0)) (.cells (A.take off++(vs++A.drop (off+n))).toArray t' (0,0)) loc':=by rw [←e];exact hu
  obtain ⟨w',hr,hs'⟩:=Y3 (P:=C.P) (off:=off) vs (A.take off) w loc loc' b t' ((A.drop off).take n) 0 (by rw [List.length_take];omega) (by rw [List.length_take,List.length_drop];omega) (V9 h1) hw hu2
  simp only [execOp,Qj (S:=[]) ha trivial rfl hx,Qj (S:=[]) ha trivial rfl hy,Instr.storeAt,Instr.sureAddr,Sem.run_bind,Sem.run_pure,Result.andThen,storeVar,run_sizeOf hi,hs,Value.cells,List.size_toArray,hn,ne_eq,not_true_eq_false,if_false]
  simp only [hr,Oper.uponIn_skip]
  exact h _ _ ha trivial hs'
theorem Q0 {a:Addr}(hx:QA S E x=some (.pointer (some a))):QT C S E I loc ⟨dst,.nilCheck x,ty,pos,af,gd⟩ (.pointer (some a)):=
 .of (by intro c e;cases e) fun ac w ha hg hc _=>by
  simp only [execOp,Qj ha hg hc hx];rfl
theorem ziE {t:TypeId}{k:IntKind}{a:Int}(hx:QA S E x=some (.int k a)):QT C S E I loc ⟨dst,.unOp .neg t x,ty,pos,af,gd⟩ (.int k (k.wrap (0-a))):=
 .of (by intro c e;cases e) fun ac w ha hg hc _=>by
  simp only [execOp,Qj ha hg hc hx];rfl
section
variable {P:Program} {fn:Func} {N:Nat} {g:World} {I H:Qu} {loc:Loc} {E:Env}
theorem zwn {D:List Deferred}{t tt b:Nat}{v:Value}(hr:fn.results= #[.cell t tt])(hv:VJ E t=some (.pointer (some ⟨b,0,none⟩)))(hT:ScT P tt)(hc:QU I loc b 0 v)(a:Act)(ha:Kk N D E a)(w:World)(hw:St g I H loc w):(results fn a.tmps).run P w= .ok v w:=by
 have e1:=ha.env _ _ hv
 rw [Array.getD_eq_getD_getElem?] at e1
 have l1:(loadVar tt ⟨b,0,none⟩).run P w= .ok v w:=by
  simp only [loadVar,Sem.run_bind,Yk hT,Result.andThen,Bool.false_eq_true,if_false,run_load,hc.get hw]
 simp only [results,hr]
 simp [List.mapM_cons,e1,asAddr,l1]
end
end Go.Kn
namespace Go.Kn
open Go
section
variable {C:Cx} {E:Env} {I:Qu} {loc:Loc} {S:GS} {dst:Option Tmp} {ty:TypeId} {pos:String} {af:Array Edge} {gd:Option (Nat×Bool)} {x y:Operand}
variable {α β:Type} [DecidableEq α] {ek:α→Value} {ev:β→Value} {m:List (α×β)} {a:α}
theorem YG {t k e r:Nat}{zv:Value}{b:β}(hget:Zy m a=some b)(hT:MpT C.P t k e zv)(hK:Y7 C.P k ek)(hx:QA S E x=some (.map (some r)))(hy:QA S E y=some (ek a))(hm:ZX S=true→Mem I loc r (ZR ek ev m)):
  QT C S E I loc ⟨dst,.lookup t x y false,ty,pos,af,gd⟩ (ev b):=by
 have:=KA (C:=C) (S:=S) (dst:=dst) (ty:=ty) (pos:=pos) (af:=af) (gd:=gd) hT hK hx hy hm
 rw [hget] at this
 exact this
end
end Go.Kn
end
section
namespace Go.Kn
open Go
section
variable {C:Cx} {E:Env} {I:Qu} {loc:Loc} {S:GS} {dst:Option Tmp} {ty:TypeId} {pos:String} {af:Array Edge} {gd:Option (Nat×Bool)} {x y:Operand}
variable {α:Type} [DecidableEq α] {ek:α→Value} {a:α}
def WI (t:Value×Nat×List Value):Value:=t.1
theorem Vp {m:List (α×(Value×Nat×List Value))}{t k e r:Nat}(hT:MpT C.P t k e (.slice none 0 0))(hK:Y7 C.P k ek)(hx:QA S E x=some (.map (some r)))(hy:QA S E y=some (ek a))(hm:ZX S=true→Mem I loc r (ZR ek WI m)):
  QT C S E I loc ⟨dst,.lookup t x y false,ty,pos,af,gd⟩ (((Zy m a).getD V7).1):=by
 have:=KA (C:=C) (S:=S) (dst:=dst) (ty:=ty) (pos:=pos) (af:=af) (gd:=gd) hT hK hx hy hm
 cases h:Zy m a with
 | none=>rw [h] at this;exact this
 | some b=>rw [h] at this;exact this
theorem YB {m:List (α×(Value×Nat×List Value))}{v:Value}(hv:((Zy m a).getD V7).1=v){t k e r:Nat}(hT:MpT C.P t k e (.slice none 0 0))(hK:Y7 C.P k ek)(hx:QA S E x=some (.map (some r)))(hy:QA S E y=some (ek a))(hm:ZX S=true→Mem I loc r (ZR ek WI m)):
  QT C S E I loc ⟨dst,.lookup t x y false,ty,pos,af,gd⟩ v:=by
 rw [←hv];exact Vp hT hK hx hy hm
theorem Kx {m:List (α×Int)}{t k e r:Nat}{ik:IntKind}(hT:MpT C.P t k e (.int ik 0))(hK:Y7 C.P k ek)(hx:QA S E x=some (.map (some r)))(hy:QA S E y=some (ek a))(hm:ZX S=true→Mem I loc r (ZR ek (Value.int ik) m)):
  QT C S E I loc ⟨dst,.lookup t x y true,ty,pos,af,gd⟩ (.tuple #[.int ik ((Zy m a).getD 0),.bool (Zy m a).isSome]):=by
 have:=Uk (C:=C) (S:=S) (dst:=dst) (ty:=ty) (pos:=pos) (af:=af) (gd:=gd) hT hK hx hy hm
 cases h:Zy m a with
 | none=>rw [h] at this;exact this
 | some b=>rw [h] at this;exact this
end
end Go.Kn
namespace Go.Kn
open Go
section
variable {C:Cx} {E:Env} {I:Qu} {loc:Loc} {S:GS} {dst:Option Tmp} {ty:TypeId} {pos:String} {af:Array Edge} {gd:Option (Nat×Bool)} {x y:Operand}
variable {α:Type} [DecidableEq α] {ek:α→Value} {a:α}
def zxV (b:Nat):Value:=.map (some b)
theorem zay {m:List (α×Nat)}{t k e r:Nat}(hT:MpT C.P t k e (.map none))(hK:Y7 C.P k ek)(hx:QA S E x=some (.map (some r)))(hy:QA S E y=some (ek a))(hm:ZX S=true→Mem I loc r (ZR ek zxV m)):
  QT C S E I loc ⟨dst,.lookup t x y false,ty,pos,af,gd⟩ (.map (Zy m a)):=by
 have:=KA (C:=C) (S:=S) (dst:=dst) (ty:=ty) (pos:=pos) (af:=af) (gd:=gd) hT hK hx hy hm
 cases h:Zy m a with
 | none=>rw [h] at this;exact this
 | some b=>rw [h] at this;exact this
end
end Go.Kn
end
section
namespace Go.Kn
open Go
theorem zfe {P:Program}{t e:Nat}(hT:Ar2 P t e .i64):Y7 (α:=Int×Int) P t Ya:=by
 obtain ⟨hu,hi,hc,he,hg⟩:=hT
 obtain ⟨i,hi2⟩:=Option.isSome_iff_exists.1 hi
 have hsz:i.size=1:=by have:=hc;unfold Program.cellsOf at this;rw [hi2] at this;exact this
 refine .of_asking hu (fun b a w=>?_) (fun a=>by simp [Ya,Instr.sameBits]) (fun a b=>rfl) (fun a b w=>?_)
 ·
  have hp:∀ (xs:Array Value) (q:Nat) (u:Value),xs[q]? =some u→(part e xs q).run P w= .ok u w:=fun xs q u h=>by
   simp only [part,Sem.run_bind,Yk (P:=P) ⟨_,he,trivial⟩,Result.andThen,Bool.false_eq_true,if_false,h,Sem.run_pure]
  have ck:∀ (x:Int) (q:Nat),(Instr.checkKey b (q+1) e (.int .i64 x)).run P w= .ok () w:=fun x q=>by
   simp only [Instr.checkKey,Sem.run_bind,run_underlying he,Result.andThen];rfl
  have key:∀ q,(Instr.checkKey b (q+2) t (Ya a)).run P w= .ok () w:=fun q=>by
   unfold Instr.checkKey
   simp only [Ya,Sem.run_bind,run_underlying hu,Result.andThen_ok]
   simp only [Std.Legacy.Range.forIn_eq_forIn_range',Std.Legacy.Range.size,Nat.sub_zero,Nat.add_one_sub_one,Nat.div_one]
   simp only [List.range',List.forIn_cons,List.forIn_nil,Sem.run_bind,run_sizeOf hi2,hsz,Result.andThen_ok,Nat.zero_mul,Nat.zero_add,Nat.one_mul,
    hp #[.int .i64 a.1,.int .i64 a.2] 0 (.int .i64 a.1) rfl,hp #[.int .i64 a.1,.int .i64 a.2] 1 (.int .i64 a.2) rfl,ck,Sem.run_pure]
  exact key 9998
 ·
  have e:=zea (P:=P) (t:=t) ⟨hu,hi,hc,he,hg⟩ w a.1 a.2 b.1 b.2 9998
  have e2:(Op.equal t (Ya a) (Ya b)).run P w= .ok (a.1==b.1&&a.2==b.2) w:=by
   simp only [Op.equal,Op.maxDepth,Ya];exact e
  rw [e2]
  congr 1
  obtain ⟨a1,a2⟩:=a;obtain ⟨b1,b2⟩:=b
  by_cases h1:a1=b1<;>by_cases h2:a2=b2<;>simp [h1,h2]
theorem zi8 {α β:Type}[DecidableEq α](m:List (α×β))(a:α)(b:β):zi1 (Ys m a b) a=zi1 m a:=by
 have key:∀ (m:List (α×β)) (k:Nat),((K1 (Ys m a b) a k).map (·.1)).getD (k+(Ys m a b).length)=((K1 m a k).map (·.1)).getD (k+m.length):=by
  intro m
  induction m with
  | nil=>intro k;simp [Ys,K1]
  | cons p m ih=>
   intro k
   unfold Ys
   by_cases h:p.1=a
   ·
    rw [if_pos h];simp [K1,h]
   ·
    rw [if_neg h]
    simp only [K1,if_neg h,List.length_cons]
    have:=ih (k+1)
    rw [show k+((Ys m a b).length+1)=k+1+(Ys m a b).length by omega,show k+(m.length+1)=k+1+m.length by omega]
    exact this
 have:=key m 0
 simpa [zi1] using this
theorem OwnS.val {e size n:Nat}{v:Value}{xs:List Value}{L:Loc}(h:OwnS e size v n xs L):∃ a m c,v= .slice a m c:=by
 rcases h.2 with ⟨h1,_⟩ | ⟨b,c,cur,h1,_⟩
 ·
  exact ⟨_,_,_,h1⟩
 ·
  exact ⟨_,_,_,h1⟩
theorem zcG {α β:Type}[DecidableEq α]:∀ (m:List (α×β)) (a:α) (b c:β),Ys (Ys m a b) a c=Ys m a c
 | [],a,b,c=>by simp [Ys]
 | p::m,a,b,c=>by
  by_cases h:p.1=a
  ·
   simp [Ys,h]
  ·
   simp only [Ys,if_neg h,zcG m a b c]
section
variable {P:Program} {fn:Func} {R:Ending→World→Prop} {N:Nat} {g:World} {I H:Qu} {loc:Loc} {E:Env} {r:Option Nat}
theorem Zs {t u tt n b:Nat}{vs:List Value}{v':Value}(hr:fn.results= #[.cell t tt,.tmp u])(hv:VJ E t=some (.pointer (some ⟨b,0,none⟩)))(hv':VJ E u=some v')(hA:AgT P tt n)(hc:Cells I loc b 0 vs)(hn:vs.length=n)
  (h:∀ w,St g I H loc w→R (.returned (.tuple #[.agg vs.toArray,v'])) w):At ⟨P,r,N,[],g,H⟩ (bodyPost P fn R) .ret E I loc:=fun a w ha hw=>
 ⟨ha.defers,.tuple #[.agg vs.toArray,v'],by
  have e1:=ha.env _ _ hv
  have e2:=ha.env _ _ hv'
  rw [Array.getD_eq_getD_getElem?] at e1 e2
  have h1:(loadCells ⟨b,0,none⟩ n).run P w= .ok vs.toArray w:=by
   rw [←hn]
   exact run_loadCells_list w _ _ fun j v hj=>by rw [Yo];exact (hc j v hj).get hw
  have hA':=hA
  obtain ⟨_,i,h2,h3⟩:=hA'
  have l1:(loadVar tt ⟨b,0,none⟩).run P w= .ok (.agg vs.toArray) w:=by
   simp only [loadVar,Sem.run_bind,Sem.run_pure,YT hA,Result.andThen,if_true,run_sizeOf h2,h3,h1]
  simp only [results,hr]
  simp [List.mapM_cons,e1,e2,asAddr,l1],h w hw⟩
end
end Go.Kn
namespace Go.Kn
open Go
section
variable {C:Cx} {Q:Exit→Act→World→Prop} {E G:Env} {I I':Qu} {loc loc' L R:Loc} {ops:Array Oper} {rest:List Oper} {S:GS} {b:Bool}
variable {d:Nat} {ty:TypeId} {pos:String} {af:Array Edge} {gd:Option (Nat×Bool)}
theorem zjp {f:FuncId}{cap:List Value}{l:List Operand}{vs:List Value}{tys:Array TypeId}{cal:Operand}{K:Value→Qu→Loc→Prop}
  (he:QA ((b,G)::S) E cal=some (.func (.func f) #[] cap.toArray))(hl:l.map (QA ((b,G)::S) E)=vs.map some)(hF:Fun C.P f)(hc:ZX ((b,G)::S)=true→Yg C.P f (vs++cap) I [] K)(hno:∃ v,K v I [])
  (hG:Zn ops ((b,G)::S) E ⟨some d,.call ⟨.value cal,l.toArray,tys⟩,ty,pos,af,gd⟩)(hN:Nat.blt d C.N=true)(hf:ZZ ((b,G)::S) E d=true)
  (h:∀ v I' L',HLe I I'→K v I' L'→XO C Q ops rest ((b,(d,v)::G)::S) E I' (L'++loc)):
  XO C Q ops (⟨some d,.call ⟨.value cal,l.toArray,tys⟩,ty,pos,af,gd⟩::rest) ((b,G)::S) E I loc:=
 zaN he hl hF hG rfl hN hf .nil hc (fun _=>hno) h
end
end Go.Kn
end
namespace Go.Proofs.YtodakphagkommaaGreatDoor
section
open Go Go.Kn Go.Proofs
theorem zbM:Fun Tryz.prog 100:=.of Tryz.func100 (by kernel_rfl) (by kernel_rfl)
theorem zqK:Fun Tryz.prog 101:=.of Tryz.func101 (by kernel_rfl) (by kernel_rfl)
theorem zgT:Fun Tryz.prog 148:=.of Tryz.func148 (by kernel_rfl) (by kernel_rfl)
theorem zjF:Fun Tryz.prog 151:=.of Tryz.func151 (by kernel_rfl) (by kernel_rfl)
theorem zds:Fun Tryz.prog 153:=.of Tryz.func153 (by kernel_rfl) (by kernel_rfl)
theorem zp0:Fun Tryz.prog 197:=.of Tryz.func197 (by kernel_rfl) (by kernel_rfl)
theorem zpb:Fun Tryz.prog 198:=.of Tryz.func198 (by kernel_rfl) (by kernel_rfl)
theorem zh6:Fun Tryz.prog 200:=.of Tryz.func200 (by kernel_rfl) (by kernel_rfl)
theorem zjz:Fun Tryz.prog 201:=.of Tryz.func201 (by kernel_rfl) (by kernel_rfl)
theorem znp:Fun Tryz.prog 53:=.of Tryz.func53 (by kernel_rfl) (by kernel_rfl)
theorem zc1:Fun Tryz.prog 57:=.of Tryz.func57 (by kernel_rfl) (by kernel_rfl)
theorem zil:Fun Tryz.prog 87:=.of Tryz.func87 (by kernel_rfl) (by kernel_rfl)
theorem mixed:Tryz.prog.follows .mixedOrders=true:=by kernel_rfl
theorem QK:ScT Tryz.prog 23:=.of (by kernel_rfl)
theorem Qs:ScT Tryz.prog 3:=.of (by kernel_rfl)
theorem Zo:SlT Tryz.prog 22 23 1:=.of (by kernel_rfl)
theorem Qy:SlT Tryz.prog 23 3 1:=.of (by kernel_rfl)
end
section
open Go Go.Kn Go.Proofs
def QR (n:Int):List Value:=[.int .i64 n]
structure Hd where
 a:Option Addr
 n:Nat
 c:Nat
def W2 (h:Hd):List Value:=[.slice h.a h.n h.c]
theorem Qv (x:Int):(QR x).length=1:=rfl
theorem Za (x:Hd):(W2 x).length=1:=rfl
theorem JG (xs:List Int):Yx (xs.flatMap QR)=true:=Yl (fun _=>rfl) xs
theorem ztQ (xs:List Hd):Yx (xs.flatMap W2)=true:=Yl (fun _=>rfl) xs
def zqo {α:Type}[DecidableEq α](xs ys:List α):Bool:=decide (xs=ys)
theorem _root_.Go.Kn.Sl.at {α:Type}{I:Qu}{size:Nat}{enc:α→List Value}{av:Option Addr}{n c:Nat}{xs:List α}(h:Sl I size enc av n c xs){k:Nat}(hk:k<n):∃ x,xs[k]? =some x:=
 ⟨_,List.getElem?_eq_getElem (by rw [h.len];exact hk)⟩
theorem V8 {p:Nat→Bool}{k:Nat}(h:(List.range k).all p=true)(hp:p k=true):(List.range (k+1)).all p=true:=by
 rw [List.range_succ,List.all_append,h];simpa using hp
theorem JK {p:Nat→Bool}{n k:Nat}(hk:k<n)(hp:p k=false):(List.range n).all p=false:=by
 cases h:(List.range n).all p with
 | false=>rfl
 | true=>
  rw [List.all_eq_true] at h
  rw [h k (List.mem_range.2 hk)] at hp;cases hp
theorem Q1 {α:Type}{xs:List α}{k:Nat}{x d:α}(h:xs[k]? =some x):xs.getD k d=x:=by simp [List.getD,h]
theorem Zk {α:Type}{xs:List α}{n k:Nat}{d:α}(hl:xs.length=n)(h:k<n):xs[k]? =some (xs.getD k d):=by
 have:k<xs.length:=by omega
 unfold List.getD
 rw [List.getElem?_eq_getElem this];rfl
def SlH (I:Qu)(av:Option Addr)(n c:Nat)(hs:List Hd)(vss:List (List Int)):Prop:=Sl I 1 W2 av n c hs∧hs.length=vss.length∧∀ (k:Nat) (h:Hd) (v:List Int),hs[k]? =some h→vss[k]? =some v→Sl I 1 QR h.a h.n h.c v
def SlN (I:Qu)(av:Option Addr)(n c:Nat)(vss:List (List Int)):Prop:=∃ hs:List Hd,SlH I av n c hs vss
theorem SlH.mono {I I':Qu}{av:Option Addr}{n c:Nat}{hs:List Hd}{vss:List (List Int)}(h:SlH I av n c hs vss)(hI:HLe I I'):SlH I' av n c hs vss:=
 ⟨h.1.mono hI,h.2.1,fun k h' v a b=>(h.2.2 k h' v a b).mono hI⟩
theorem SlN.mono {I I':Qu}{av:Option Addr}{n c:Nat}{vss:List (List Int)}(h:SlN I av n c vss)(hI:HLe I I'):SlN I' av n c vss:=by
 obtain ⟨hs,h1⟩:=h
 exact ⟨hs,h1.mono hI⟩
theorem SlH.len {I:Qu}{av:Option Addr}{n c:Nat}{hs:List Hd}{vss:List (List Int)}(h:SlH I av n c hs vss):vss.length=n:=by rw [←h.2.1,h.1.len]
theorem SlN.len {I:Qu}{av:Option Addr}{n c:Nat}{vss:List (List Int)}(h:SlN I av n c vss):vss.length=n:=by
 obtain ⟨hs,h1⟩:=h
 exact h1.len
theorem SlH.at {I:Qu}{av:Option Addr}{n c:Nat}{hs:List Hd}{vss:List (List Int)}(h:SlH I av n c hs vss){k:Nat}(hk:k<n):∃ hd v,hs[k]? =some hd∧vss[k]? =some v∧Sl I 1 QR hd.a hd.n hd.c v:=by
 obtain ⟨hd,hh⟩:=h.1.at hk
 have hl:=h.len
 have hv:vss[k]? =some (vss[k]'(by omega)):=List.getElem?_eq_getElem _
 exact ⟨hd,_,hh,hv,h.2.2 k hd _ hh hv⟩
def zlY {α:Type}(e:Int)(xs:List α):List α:=if e≠0 then [] else xs
theorem zmr {α:Type}{e:Int}{xs:List α}(h:e≠0):zlY e xs=[]:=by unfold zlY;rw [if_pos h]
theorem zj6 {α:Type}{e:Int}{xs:List α}(h:e=0):zlY e xs=xs:=by unfold zlY;rw [if_neg (by omega)]
theorem Kt {α:Type}{R:α→α→Prop}(ht:∀ a b c,R a b→R b c→R a c){l:List α}(h:∀ k (hk:k+1<l.length),R (l[k]'(by omega)) l[k+1]):l.Pairwise R:=by
 have key:∀ (n i:Nat) (hn:i+n<l.length),0<n→R (l[i]'(by omega)) l[i+n]:=by
  intro n
  induction n with
  | zero=>intro i _ h0;omega
  | succ n ih=>
   intro i hn _
   have h2:=h (i+n) (by omega)
   by_cases e:n=0
   ·
    subst e;exact h2
   ·
    exact ht _ _ _ (ih i (by omega) (by omega)) h2
 rw [List.pairwise_iff_getElem]
 intro i j hi hj hij
 have:=key (j-i) i (by omega) (by omega)
 simpa [show i+(j-i)=j by omega] using this
def Z6 (s:Int):Bool:=decide (s>0)&&(K4 s (IntKind.i64.wrap (s-1))==0)
def WV (cl:List Int)(s:Int):Bool:=cl.any (fun c=>c==s)||Z6 s
def zrM (a c:Int):Bool:=K4 a (IntKind.i64.wrap (0-a))==K4 c (IntKind.i64.wrap (0-c))
def Jb (cl:List Int)(c a:Int):Bool:=(K4 a c==a)&&zrM a c&&WV cl a&&WV cl (c-a)
def Km (cl:List Int)(c:Int)(a:Nat):Int:=match (List.range' a (c.toNat -a)).find? (fun k:Nat=>Jb cl c (k:Int)) with | none=>0 | some k=>(k:Int)
def Qx (cl:List Int)(c:Int):Int:=Km cl c 1
def Kj (all:Int)(cl:List Int)(i:Nat):Bool:= !(((decide (cl.getD i 0<1))||decide (cl.getD i 0>all))||(decide ((i:Int)>0)&&decide (cl.getD i 0≤cl.getD ((i:Int)-1).toNat 0)))
def Vd (n:Int):Int:=IntKind.i64.wrap (1*2^(min n.toNat IntKind.i64.bits))-1
def VY (n:Int)(cl:List Int):Int:=
 if n>6 then 2 else if decide (n<1)||decide ((cl.length:Int)≠n-1) then 420
 else if !(List.range cl.length).all (Kj (Vd n) cl) then 420
 else if decide (n>1)&&decide (cl.getD (n-2).toNat 0≠Vd n) then 420
 else if cl.any (fun c=>Qx cl c==0) then 420 else 0
theorem zeu {n:Int}(h:1≤n∧n≤6):2≤IntKind.i64.wrap (1*2^(min n.toNat IntKind.i64.bits))∧IntKind.i64.wrap (1*2^(min n.toNat IntKind.i64.bits))≤64:=by
 have:n=1∨n=2∨n=3∨n=4∨n=5∨n=6:=by omega
 rcases this with e | e | e | e | e | e<;>subst e<;>decide
theorem zaD {n:Int}(h:1≤n∧n≤6):1≤Vd n∧Vd n≤63:=by have:=zeu h;unfold Vd;omega
theorem zaZ {all:Int}{cl:List Int}(h:(List.range cl.length).all (Kj all cl)=true){k:Nat}{x:Int}(hx:cl[k]? =some x):1≤x∧x≤all:=by
 have h1:=List.all_eq_true.1 h k (List.mem_range.2 (List.getElem?_eq_some_iff.1 hx).1)
 unfold Kj at h1
 rw [Q1 hx] at h1
 simp at h1
 omega
theorem zth {n:Int}{cl:List Int}(h:n>6):VY n cl=2:=by unfold VY;rw [if_pos h]
theorem zsS {n:Int}{cl:List Int}(h:¬n>6)(h2:(decide (n<1)||decide ((cl.length:Int)≠n-1))=true):VY n cl=420:=by unfold VY;rw [if_neg h,if_pos h2]
theorem ztt {n:Int}{cl:List Int}(h:¬n>6)(h2:(decide (n<1)||decide ((cl.length:Int)≠n-1))=false)(h3:(List.range cl.length).all (Kj (Vd n) cl)=false):VY n cl=420:=by unfold VY;rw [if_neg h,if_neg (by rw [h2];decide),if_pos (by rw [h3];rfl)]
theorem ztp {n:Int}{cl:List Int}(h:¬n>6)(h2:(decide (n<1)||decide ((cl.length:Int)≠n-1))=false)(h3:(List.range cl.length).all (Kj (Vd n) cl)=true)(h4:(decide (n>1)&&decide (cl.getD (n-2).toNat 0≠Vd n))=true):VY n cl=420:=by
 unfold VY;rw [if_neg h,if_neg (by rw [h2];decide),if_neg (by rw [h3];decide),if_pos h4]
theorem znE {n:Int}{cl:List Int}(h:¬n>6)(h2:(decide (n<1)||decide ((cl.length:Int)≠n-1))=false)(h3:(List.range cl.length).all (Kj (Vd n) cl)=true)(h4:(decide (n>1)&&decide (cl.getD (n-2).toNat 0≠Vd n))=false):
  VY n cl=if cl.any (fun c=>Qx cl c==0) then 420 else 0:=by
 unfold VY;rw [if_neg h,if_neg (by rw [h2];decide),if_neg (by rw [h3];decide),if_neg (by rw [h4];decide)]
def Zb (b:Nat):Value:=.pointer (some ⟨b,0,none⟩)
def zsU (cl:List Int)(s:Int):Bool:=Z6 s||cl.any (fun y=>s==y)
def Wf (cl:List Int)(s a:Int):Bool:=zrM a s&&zsU cl a&&zsU cl (zdz s a)
def UO (s a:Int):Int:=K4 (IntKind.i64.wrap (a-1)) s
def Up (cl:List Int)(s:Int):Nat→Int→Option Int
 | 0,_=>none
 | f+1,a=>if decide (a>0) then (if Wf cl s a then some a else Up cl s f (UO s a)) else none
def Ww (cl:List Int)(s:Int):Option Int:=Up cl s 64 (UO s s)
theorem ziu:((List.range 64).all fun a=>(List.range 64).all fun s=>decide (0≤K4 (a:Int) (s:Int))&&decide (K4 (a:Int) (s:Int)≤(a:Int)))=true:=by kernel_rfl
theorem zvp {a s:Int}(ha:0≤a∧a≤63)(hs:0≤s∧s≤63):0≤K4 a s∧K4 a s≤a:=by
 have h:=List.all_eq_true.1 (List.all_eq_true.1 ziu a.toNat (List.mem_range.2 (by omega))) s.toNat (List.mem_range.2 (by omega))
 rw [show ((a.toNat:Nat):Int)=a by omega,show ((s.toNat:Nat):Int)=s by omega] at h
 simpa using h
theorem zjf {a s:Int}(ha:0<a∧a≤63)(hs:0≤s∧s≤63):0≤UO s a∧UO s a≤a-1:=by
 unfold UO
 rw [zbg (by omega)]
 exact zvp (by omega) hs
theorem zjQ {cl:List Int}{s a:Int}{f:Nat}(h:a>0)(hp:Wf cl s a=true):Up cl s (f+1) a=some a:=by
 unfold Up;rw [if_pos (by simpa using h),if_pos hp]
theorem zfX {cl:List Int}{s a:Int}{f:Nat}(h:a>0)(hp:Wf cl s a=false):Up cl s (f+1) a=Up cl s f (UO s a):=by
 rw [show Up cl s (f+1) a=if decide (a>0) then (if Wf cl s a then some a else Up cl s f (UO s a)) else none from rfl,if_pos (by simpa using h),if_neg (by rw [hp];decide)]
theorem zkc {cl:List Int}{s a:Int}{f:Nat}(h:¬a>0):Up cl s f a=none:=by
 cases f with
 | zero=>rfl
 | succ f=>rw [show Up cl s (f+1) a=if decide (a>0) then (if Wf cl s a then some a else Up cl s f (UO s a)) else none from rfl,if_neg (by simpa using h)]
def zdv (cl:List Int)(s:Int):Int:=match Ww cl s with | some a=>a | none=>0
def zd2 (cl:List Int)(s:Int):Int:=match Ww cl s with | some a=>zdz s a | none=>0
def YP (m:Int)(cl:List Int)(s:Int):Int:=if VY m cl≠0 then VY m cl else if cl.any (fun c=>c==s) then 0 else 1
def zaI (m:Int)(cl:List Int)(s:Int):Int:=if YP m cl s≠0 then 0 else Qx cl s
def zaG (m:Int)(cl:List Int)(s:Int):Int:=if YP m cl s≠0 then 0 else s-Qx cl s
theorem zgn {m:Int}{cl:List Int}{s:Int}(h:VY m cl≠0):YP m cl s=VY m cl:=by unfold YP;rw [if_pos h]
theorem zdO {m:Int}{cl:List Int}{s:Int}(h:VY m cl=0)(h2:cl.any (fun c=>c==s)=false):YP m cl s=1:=by unfold YP;rw [if_neg (by omega),if_neg (by rw [h2];decide)]
theorem zb4 {m:Int}{cl:List Int}{s:Int}(h:VY m cl=0)(h2:cl.any (fun c=>c==s)=true):YP m cl s=0:=by unfold YP;rw [if_neg (by omega),if_pos h2]
theorem zgk {m:Int}{cl:List Int}{s:Int}(h:YP m cl s≠0):zaI m cl s=0∧zaG m cl s=0:=by unfold zaI zaG;rw [if_pos h,if_pos h];exact ⟨rfl,rfl⟩
theorem zhj {m:Int}{cl:List Int}{s:Int}(h:YP m cl s=0):zaI m cl s=Qx cl s∧zaG m cl s=s-Qx cl s:=by unfold zaI zaG;rw [if_neg (by omega),if_neg (by omega)];exact ⟨rfl,rfl⟩
theorem ZW {m:Int}{cl:List Int}(h:VY m cl=0):1≤m∧m≤6∧(cl.length:Int)=m-1∧∀ c∈cl,1≤c∧c≤63:=by
 unfold VY at h
 split at h
 ·
  cases h
 ·
  rename_i h1
  split at h
  ·
   cases h
  ·
   rename_i h2
   split at h
   ·
    cases h
   ·
    rename_i h3
    simp at h2 h3
    refine ⟨by omega,by omega,by omega,fun c hc=>?_⟩
    obtain ⟨k,hk⟩:=List.getElem?_of_mem hc
    have h4:(List.range cl.length).all (Kj (Vd m) cl)=true:=by rw [List.all_eq_true];intro x hx;exact h3 x (List.mem_range.1 hx)
    have:=zaZ h4 hk
    have:=zaD (n:=m) (by omega)
    omega
end
section
open Go Go.Kn Go.Proofs
theorem zfG (I:Qu)(s:Int):Zw Tryz.prog 201 [.int .i64 s] I (.bool (Z6 s)):=by
 intro g H w hw
 refine qe Tryz.func201 Tryz.ntmps201 hw ?_
 refine zR (zA ?_)
 refine zN (zR ?_)
 refine zM ?_
 refine zC ?_
 refine zM ?_
 refine QE 2 rfl rfl rfl ?_
 refine zK (Qi rfl) ?_
 refine zK (Qi rfl) ?_
 refine zK (zjG rfl rfl rfl) ?_
 refine zK (Xo rfl rfl) ?_
 refine zK (QH rfl rfl rfl) ?_
 refine QP rfl rfl rfl rfl rfl ?_
 refine zA (zN (Qt ?_))
 exact zr rfl rfl (by rfl)
theorem YX {α:Type}{xs:List α}{k:Nat}{x:α}{p:α→Bool}(hx:xs[k]? =some x)(h:(xs.take k).any p=false)(hp:p x=false):(xs.take (k+1)).any p=false:=by rw [UV hx,h,hp];rfl
theorem JY {α:Type}{xs:List α}{k:Nat}{x:α}{p:α→Bool}(hx:xs[k]? =some x)(hp:p x=true):xs.any p=true:=List.any_eq_true.2 ⟨x,List.mem_of_getElem? hx,hp⟩
end
section
open Go Go.Kn Go.Proofs
def K8 {α:Type}(p:α→Bool)(xs:List α):Int:=if xs.any p then (xs.findIdx p:Int) else -1
theorem Jd {α:Type}{xs:List α}{k:Nat}{x:α}{p:α→Bool}(h:(xs.take k).any p=false)(hx:xs[k]? =some x)(hp:p x=true):K8 p xs=k:=by
 unfold K8
 rw [JY hx hp,if_pos rfl]
 have hk:=(List.getElem?_eq_some_iff.1 hx).1
 have:xs.findIdx p=k:=by
  rw [List.findIdx_eq hk]
  refine ⟨by rw [(List.getElem?_eq_some_iff.1 hx).2];exact hp,fun j hj=>?_⟩
  have:=List.any_eq_false.1 h xs[j] (by rw [List.mem_take_iff_getElem];exact ⟨j,by omega,rfl⟩)
  simpa using this
 omega
theorem Vv {α:Type}{xs:List α}{k n:Nat}{p:α→Bool}(hl:xs.length=n)(hk:n≤k)(h:(xs.take k).any p=false):K8 p xs= -1:=by
 unfold K8
 rw [ZF hl hk] at h
 rw [h];rfl
theorem KE {α:Type}{xs:List α}{p:α→Bool}:decide (K8 p xs≥0)=xs.any p:=by
 unfold K8
 cases h:xs.any p
 ·
  rfl
 simp
theorem zro {I:Qu}{av:Option Addr}{n c:Nat}{xs:List Int}(hS:Sl I 1 QR av n c xs)(hn:n≤100000)(v:Int):Zw Tryz.prog 101 [.slice av n c,.int .i64 v] I (.int .i64 (K8 (fun y=>v==y) xs)):=by
 intro g H w hw
 refine qe Tryz.func101 Tryz.ntmps101 hw ?_
 refine zR (zA (zN (Ql (zR ?_))))
 refine zM ?_
 refine zQ Qy ?_
 refine zM (zN (Qm ?_))
 refine zU [(0,_),(1,_),(7,_)] (fun T L0 mz E I' loc'=>∃ (k:Nat),mz=n-k∧E=(8,.int .i64 k)::T∧I=I'∧L0=loc'∧k≤n∧(xs.take k).any (fun y=>v==y)=false) ?_ (h:=⟨0,rfl,rfl,rfl,rfl,Nat.zero_le _,rfl⟩)
 rintro mz E I' loc' ⟨k,rfl,rfl,rfl,rfl,hk,hno⟩
 refine zR (zC (zN (Ql ?_)))
 refine zI ?_ ?_<;>intro hc9
 ·
  have hlt_k:k<n:=by have h:=hc9;simp at h;omega
  obtain ⟨x,hx⟩:=hS.at hlt_k
  refine Qo (Qa (Ql (Qm (zR (zM ?_)))))
  refine zA ?_
  refine zN (zR ?_)
  refine zM ?_
  refine zM ?_
  refine zM ?_
  refine zV (QF rfl rfl Qy (by assumption) (fun hg=>by omega)) ?_
  refine zV (Qd rfl Qs (fun hg=>by exact zx7 hS hx rfl)) ?_
  refine zC (zN ?_)
  refine zI ?_ ?_<;>intro hc16
  ·
   refine zR (zM ?_)
   refine zA (zN (Qt (Qn (Qc (Qc (Qn (Qc ?_)))))))
   exact zr rfl rfl (by rw [Jd hno hx hc16])
  refine Qo (Qh (Qa (Qg (zB ?_))))
  refine zM (Qb ?_)
  exact zm (h:=⟨n-(k+1),by omega,k+1,rfl,rfl,rfl,rfl,by omega,YX hx hno hc16⟩)
 have hge_k:n≤k:=by have h:=hc9;simp at h;omega
 refine QI (Qf (Qf (Qk (Qa (zR (zA (zN ?_)))))))
 refine Qt ?_
 exact zr rfl rfl (by rw [Vv hS.len hge_k hno])
theorem JM {I:Qu}{av:Option Addr}{n c:Nat}{xs:List Int}(hS:Sl I 1 QR av n c xs)(hn:n≤100000)(v:Int):Zw Tryz.prog 57 [.slice av n c,.int .i64 v] I (.bool (xs.any (fun y=>v==y))):=by
 intro g H w hw
 refine qe Tryz.func57 Tryz.ntmps57 hw ?_
 refine zR (zA ?_)
 refine zN (zR ?_)
 refine zM ?_
 refine zM ?_
 refine qc (vs:=[_,_]) rfl zqK (zro hS hn v) ?_
 refine zC ?_
 refine zA (zN (Qt ?_))
 first
 | exact zr rfl rfl (by rw [←KE])
theorem zta {I:Qu}{b:Nat}{av:Option Addr}{n c:Nat}{xs:List Int}(hc:QU I [] b 0 (.slice av n c))(hS:Sl I 1 QR av n c xs)(hn:n≤100000)(s:Int):Zw Tryz.prog 200 [.int .i64 s,Zb b] I (.bool (zsU xs s)):=by
 intro g H w hw
 refine qe Tryz.func200 Tryz.ntmps200 hw ?_
 refine zR (zA ?_)
 refine zN (zR ?_)
 refine zM ?_
 refine qc (vs:=[_]) rfl zjz (zfG I _) ?_
 refine zM ?_
 refine QX 2 rfl rfl rfl ?_
 refine zJ (Qd rfl QK (fun hg=>by exact hc.any)) ?_
 refine zJ (Qi rfl) ?_
 refine qf (vs:=[_,_]) rfl zc1 (fun hg=>JM hS hn _) ?_
 refine ZA rfl rfl rfl rfl rfl ?_
 refine zA (zN (Qt ?_))
 exact zr rfl rfl (by rfl)
end
section
open Go Go.Kn Go.Proofs
theorem zdR {I:Qu}{av:Option Addr}{n c:Nat}{xs:List Int}(hS:Sl I 1 QR av n c xs)(hn:n≤100000)(s:Int)(hs:1≤s∧s≤63):Zw Tryz.prog 153 [.slice av n c,.int .i64 s] I (.tuple #[.int .i64 (zdv xs s),.int .i64 (zd2 xs s),.bool (Ww xs s).isSome]):=by
 intro g H w hw
 refine qe Tryz.func153 Tryz.ntmps153 hw ?_
 have hIc:=zye I
 refine zR ?_
 refine Q5 rfl rfl rfl (fun b_2=>?_)
 refine zA ?_
 refine zA ?_
 refine zA (zN (Ql ?_))
 refine Zf .here (fun I1 hI1 hb1=>?_)
 have hS:=hS.mono hI1;have hIc:=hIc.trans hI1
 have hbx:=hb1
 refine Qg ?_
 refine zV (Zc (us:=[]) (vs:=[_]) rfl rfl) ?_
 refine zA (zN (Ql (zR ?_)))
 refine zM ?_
 refine zV (zjG rfl rfl rfl) ?_
 refine zM ?_
 refine zV (Xo rfl rfl) ?_
 refine zA (Qb ?_)
 have hn0:=zjf (a:=s) (s:=s) (by omega) (by omega)
 refine Qa (Qm ?_)
 refine zU [(1,_),(7,_)] (fun T L0 mz E I' loc'=>∃ (a:Int) (f:Nat),mz=a.toNat∧E=(8,.int .i64 a)::T∧I1=I'∧L0=loc'∧0≤a∧a≤63∧a.toNat<f∧Ww xs s=Up xs s f a) ?_ (h:=⟨UO s s,64,rfl,rfl,rfl,rfl,hn0.1,by omega,by omega,rfl⟩)
 rintro mz E I' loc' ⟨a,f,rfl,rfl,rfl,rfl,ha0,ha1,haf,hpf⟩
 refine Ql (zR (zM ?_))
 refine zC (zN ?_)
 refine zI ?_ ?_<;>intro hc15
 ·
  have ha:a>0:=by simpa using hc15
  obtain ⟨f,rfl⟩:∃ q,f=q+1:=⟨f-1,by omega⟩
  have hna:=zjf (a:=a) (s:=s) (by omega) (by omega)
  have hlt2:(UO s a).toNat<a.toNat:=by omega
  refine Qo (Qa (Ql (Qm (zR (zM ?_)))))
  refine zM ?_
  refine zV (zmI rfl) ?_
  refine zV (Xo rfl rfl) ?_
  refine zM ?_
  refine zM ?_
  refine zV (zmI rfl) ?_
  refine zV (Xo rfl rfl) ?_
  refine zC ?_
  refine zM ?_
  refine QE 9 rfl rfl rfl ?_
  refine zK (Qi rfl) ?_
  refine zK (Qi rfl) ?_
  refine UW (cap:=[Zb b_2]) (vs:=[_]) rfl rfl zh6 (fun hg=>zta (.imm hbx rfl) hS hn _) (.some rfl rfl rfl rfl gbt) rfl rfl ?_
  refine QP rfl rfl rfl rfl rfl ?_
  refine zM ?_
  refine QE 14 rfl rfl rfl ?_
  refine zK (Qi rfl) ?_
  refine zK (Qi rfl) ?_
  refine zK (Qi rfl) ?_
  refine zK (zcL rfl rfl) ?_
  refine UW (cap:=[Zb b_2]) (vs:=[_]) rfl rfl zh6 (fun hg=>zta (.imm hbx rfl) hS hn _) (.some rfl rfl rfl rfl gbt) rfl rfl ?_
  refine QP rfl rfl rfl rfl rfl ?_
  refine zN ?_
  refine zI ?_ ?_<;>intro hc40
  ·
   have hv:Ww xs s=some a:=by rw [hpf,zjQ ha (by unfold Wf zrM;simpa using hc40)]
   refine zR (zM ?_)
   refine zM ?_
   refine zM ?_
   refine zV (zcL rfl rfl) ?_
   refine zA ?_
   refine zA ?_
   refine zA (zN (Qt (Qn (Qc (Qc (Qn (Qc ?_)))))))
   exact Kz rfl rfl rfl rfl (fun w hw=>⟨by unfold zdv zd2;rw [hv];rfl,(hw.mono hIc).drop⟩)
  have hpf2:Ww xs s=Up xs s f (UO s a):=by rw [hpf,zfX ha (by unfold Wf zrM;simpa using hc40)]
  refine Qo (Qh (Qa (Qg (zM ?_))))
  refine zV (zjG rfl rfl rfl) ?_
  refine zM ?_
  refine zV (Xo rfl rfl) ?_
  refine zA (Qb ?_)
  exact zm (h:=⟨_,hlt2,UO s a,f,rfl,rfl,rfl,rfl,hna.1,by omega,by omega,hpf2⟩)
 have ha:¬a>0:=by simpa using hc15
 have hv:Ww xs s=none:=by rw [hpf,zkc ha]
 refine QI (Qf (Qf (Qk (Qa (zR (zA ?_))))))
 refine zA ?_
 refine zA (zN (Qt ?_))
 exact Kz rfl rfl rfl rfl (fun w hw=>⟨by unfold zdv zd2;rw [hv];rfl,(hw.mono hIc).drop⟩)
end
section
open Go Go.Kn Go.Proofs
def zvG (s:Int):Nat→Int→List Int
 | 0,_=>[]
 | f+1,a=>if decide (a>0) then a::zvG s f (UO s a) else []
theorem Wn {cl:List Int}{s:Int}:∀ (f:Nat) (a:Int),Up cl s f a=(zvG s f a).find? (Wf cl s)
 | 0,_=>rfl
 | f+1,a=>by
  unfold Up zvG
  split
  ·
   rw [List.find?_cons,Wn f]
   cases Wf cl s a<;>rfl
  ·
   rfl
def zrh (s:Nat):List Int:=((List.range' 1 (s-1)).map (fun k:Nat=>(k:Int))).filter (fun a=>K4 a s==a)
theorem zgZ:((List.range 64).all fun s=>decide (zvG (s:Int) 64 (UO s s)=(zrh s).reverse)&&(zrh s).all (fun a=>zdz s a==s-a))=true:=by kernel_rfl
theorem zdB {cl:List Int}{s a:Int}(h1:K4 a s=a)(h2:zdz s a=s-a):Wf cl s a=Jb cl s a:=by
 have hown:∀ x,zsU cl x=WV cl x:=fun x=>by
  unfold zsU WV
  rw [Bool.or_comm]
  congr 1
  congr 1
  funext y
  exact Bool.eq_iff_iff.2 (by simp;exact eq_comm)
 unfold Wf Jb
 rw [h1,h2,hown,hown]
 simp
theorem zc4 {cl:List Int}{s:Int}(hs:1≤s∧s≤63):(Ww cl s).isSome= !(Qx cl s==0):=by
 obtain ⟨n,rfl⟩:∃ n:Nat,s=(n:Int):=⟨s.toNat,by omega⟩
 have ht:=List.all_eq_true.1 zgZ n (List.mem_range.2 (by omega))
 rw [Bool.and_eq_true,decide_eq_true_eq] at ht
 have hl:=List.all_eq_true.1 ht.2
 have e1:(Ww cl n).isSome=(zrh n).any (Wf cl n):=by
  unfold Ww
  rw [Wn,ht.1]
  exact Bool.eq_iff_iff.2 (by rw [List.find?_isSome,List.any_eq_true];simp)
 have e2:(zrh n).any (Wf cl n)=(List.range' 1 (n-1)).any (fun k:Nat=>Jb cl n k):=by
  unfold zrh at hl ⊢
  rw [Bool.eq_iff_iff,List.any_eq_true,List.any_eq_true]
  constructor
  ·
   rintro ⟨a,ha,hp⟩
   have hla:=hl a ha
   rw [List.mem_filter,List.mem_map] at ha
   obtain ⟨⟨k,hk,rfl⟩,h2⟩:=ha
   exact ⟨k,hk,by rw [←zdB (by simpa using h2) (by simpa using hla)];exact hp⟩
  ·
   rintro ⟨k,hk,hp⟩
   have h2:K4 (k:Int) n=k:=by
    unfold Jb at hp
    simp only [Bool.and_eq_true,beq_iff_eq] at hp
    exact hp.1.1.1
   have hm:(k:Int)∈((List.range' 1 (n-1)).map (fun k:Nat=>(k:Int))).filter (fun a=>K4 a n==a):=List.mem_filter.2 ⟨List.mem_map.2 ⟨k,hk,rfl⟩,by simpa using h2⟩
   exact ⟨k,hm,by rw [zdB h2 (by simpa using hl _ hm)];exact hp⟩
 rw [e1,e2]
 unfold Qx Km
 rw [show (n:Int).toNat -1=n-1 by omega]
 cases e:(List.range' 1 (n-1)).find? (fun k:Nat=>Jb cl n k) with
 | none=>
  rw [List.find?_eq_none] at e
  simp only [beq_self_eq_true,Bool.not_true]
  rw [List.any_eq_false]
  exact e
 | some k=>
  have hk:=List.mem_of_find?_eq_some e
  have hp:=List.find?_some e
  rw [List.mem_range'] at hk
  obtain ⟨i,hi,e3⟩:=hk
  have:((k:Int)==0)=false:=beq_false_of_ne (by omega)
  simp only [this,Bool.not_false]
  exact List.any_eq_true.2 ⟨k,List.mem_of_find?_eq_some e,hp⟩
def zjo (xs:List Int)(k:Nat)(l:Int):Prop:=(k=0→l=0)∧∀ y,xs[k-1]? =some y→k≠0→l=y∧1≤y
theorem zeG {xs:List Int}{k:Nat}{x l b:Int}(hx:xs[k]? =some x)(hl:zjo xs k l):Kj (b-1) xs k= !(decide (x≤l)||decide (x≥b)):=by
 unfold Kj
 rw [Q1 hx]
 cases k with
 | zero=>
  rw [hl.1 rfl]
  simp only [show decide (((0:Nat):Int)>0)=false from rfl,Bool.false_and,Bool.or_false]
  congr 1
  rw [Bool.eq_iff_iff]
  simp
  omega
 | succ k=>
  have hk:=(List.getElem?_eq_some_iff.1 hx).1
  have hy:xs[k]? =some (xs[k]'(by omega)):=List.getElem?_eq_getElem _
  obtain ⟨e,h1⟩:=hl.2 _ (by rw [Nat.add_sub_cancel];exact hy) (by omega)
  rw [show (((k+1:Nat):Int)-1).toNat=k by omega,Q1 hy,←e]
  rw [←e] at h1
  congr 1
  rw [Bool.eq_iff_iff]
  simp
  omega
theorem zgh {xs:List Int}{k:Nat}{x l:Int}(hx:xs[k]? =some x)(_hl:zjo xs k l)(h:l<x)(h0:0≤l):zjo xs (k+1) x:=
 ⟨fun h=>by omega,fun y hy _=>by rw [Nat.add_sub_cancel,hx] at hy;cases hy;exact ⟨rfl,by omega⟩⟩
theorem zcR {xs:List Int}{k:Nat}{l m:Int}(hl:zjo xs k l)(hk:xs.length=k)(hm:(xs.length:Int)=m-1)(h1:m>1):xs.getD (m-2).toNat 0=l:=by
 have hk0:k≠0:=by omega
 have hy:xs[k-1]? =some (xs[k-1]'(by omega)):=List.getElem?_eq_getElem _
 rw [show (m-2).toNat=k-1 by omega,Q1 hy,(hl.2 _ hy hk0).1]
def iA (m:Int)(cl:List Int)(s:Int):Int:=if YP m cl s≠0 then 0 else zdv cl s
def iB (m:Int)(cl:List Int)(s:Int):Int:=if YP m cl s≠0 then 0 else zd2 cl s
theorem zi4 {m:Int}{cl:List Int}{s:Int}(h:YP m cl s≠0):iA m cl s=0∧iB m cl s=0:=by unfold iA iB;rw [if_pos h,if_pos h];exact ⟨rfl,rfl⟩
theorem zsT {m:Int}{cl:List Int}{s:Int}(h:YP m cl s=0):iA m cl s=zdv cl s∧iB m cl s=zd2 cl s:=by unfold iA iB;rw [if_neg (by omega),if_neg (by omega)];exact ⟨rfl,rfl⟩
theorem ziF {cl:List Int}{s:Int}:cl.any (fun y=>s==y)=cl.any (fun c=>c==s):=by
 congr 1
 funext y
 exact Bool.eq_iff_iff.2 (by simp;exact eq_comm)
def zkj (rows:List (List Int)):Bool:=if rows.length>6 then decide ((rows.length:Int)≤20) else rows.all (fun r=> !(decide ((r.length:Int)>12)&&(decide ((r.length:Int)≤64)||decide ((r.length:Int)>100))))&&decide ((rows.length:Int)≤5)
end
section
open Go Go.Kn Go.Proofs
theorem zht {I:Qu}{av:Option Addr}{n c:Nat}{xs:List Int}(hS:Sl I 1 QR av n c xs)(m:Int):Zw Tryz.prog 151 [.int .i64 m,.slice av n c] I (.int .i64 (VY m xs)):=by
 intro g H w hw
 refine qe Tryz.func151 Tryz.ntmps151 hw ?_
 refine zR (zA (zN (Ql (Qm (zR ?_)))))
 refine zM ?_
 refine zC ?_
 refine zA (zN ?_)
 refine zI ?_ ?_<;>intro hc13
 ·
  have h6:m>6:=by simpa using hc13
  refine zR (zA (zN (Qt (Qn (Qc ?_)))))
  exact zr rfl rfl (by rw [zth h6])
 have h6:¬m>6:=by simpa using hc13
 refine zR (zM ?_)
 refine zC ?_
 refine zM ?_
 refine QX 2 rfl rfl rfl ?_
 refine zJ (Qi rfl) ?_
 refine zJ (ZH rfl Qy) ?_
 refine zJ (Qi rfl) ?_
 refine zJ (ZO rfl rfl rfl (fun hg=>by (simp [ZX] at hg;omega))) ?_
 refine zJ (QH rfl rfl rfl) ?_
 refine ZA rfl rfl rfl rfl rfl ?_
 refine zA (zN ?_)
 refine zI ?_ ?_<;>intro hc16
 ·
  have h18:(decide (m<1)||decide ((xs.length:Int)≠m-1))=true:=by rw [hS.len];simpa using hc16
  refine zR (zA (zN (Qt (Qn (Qc ?_)))))
  exact zr rfl rfl (by rw [zsS h6 h18])
 have h18:(decide (m<1)||decide ((xs.length:Int)≠m-1))=false:=by rw [hS.len];simpa using hc16
 have hm:1≤m∧m≤6∧(n:Int)=m-1:=by rw [hS.len] at h18;simp at h18;omega
 have hn:n≤100000:=by omega
 have hsh:=zeu ⟨hm.1,hm.2.1⟩
 have hal:=zaD ⟨hm.1,hm.2.1⟩
 refine Qo (Qh (Qa (zR (zA (zN (Ql (zR ?_)))))))
 refine zM ?_
 refine zQ Qy ?_
 refine zM (zN (Qm ?_))
 refine zU [(0,_),(1,_),(26,_),(27,_)] (fun T L0 mz E I' loc'=>∃ (k:Nat) (l:Int),mz=n-k∧E=(5,.int .i64 l)::(28,.int .i64 k)::T∧I=I'∧L0=loc'∧k≤n∧(List.range k).all (Kj (Vd m) xs)=true∧zjo xs k l∧0≤l) ?_ (h:=⟨0,0,rfl,rfl,rfl,rfl,Nat.zero_le _,rfl,⟨fun _=>rfl,fun _ _ h=>absurd rfl h⟩,Int.le_refl _⟩)
 rintro mz E I' loc' ⟨k,l,rfl,rfl,rfl,rfl,hk,hall,hl,hl0⟩
 refine zR (zC (zN (Ql ?_)))
 refine zI ?_ ?_<;>intro hc29
 ·
  have hlt_k:k<n:=by have h:=hc29;simp at h;omega
  obtain ⟨x,hx⟩:=hS.at hlt_k
  refine Qo (Qa (Ql (Qm (zR ?_))))
  refine zV (QF rfl rfl Qy (by assumption) (fun hg=>by omega)) ?_
  refine zV (Qd rfl Qs (fun hg=>by exact zx7 hS hx rfl)) ?_
  refine zA (zN (Ql (zR ?_)))
  refine zM ?_
  refine zM ?_
  refine zC ?_
  refine zM ?_
  refine QX 3 rfl rfl rfl ?_
  refine zJ (Qi rfl) ?_
  refine zJ (Qi rfl) ?_
  refine zJ (Xu rfl rfl (fun hg=>by omega)) ?_
  refine zJ (QH rfl rfl rfl) ?_
  refine ZA rfl rfl rfl rfl rfl ?_
  refine zN ?_
  refine zI ?_ ?_<;>intro hc40
  ·
   refine zR (zA (zN (Qt (Qc (Qn (Qc (Qc ?_)))))))
   refine Qn (Qc ?_)
   first
   | exact zr rfl rfl (by rw [ztt h6 h18 (by rw [hS.len];exact JK hlt_k (by unfold Vd;rw [zeG hx hl,hc40];rfl))])
  have hlx:l<x:=by simp at hc40;omega
  refine Qo (Qa (Qg (zM ?_)))
  refine zA (Qb (Qh (Qa (Qg ?_))))
  refine zB ?_
  refine zM (Qb ?_)
  exact zm (h:=⟨n-(k+1),by omega,k+1,x,rfl,rfl,rfl,rfl,by omega,V8 hall (by unfold Vd;rw [zeG hx hl,hc40];rfl),zgh hx hl hlx hl0,by omega⟩)
 have hge_k:n≤k:=by have h:=hc29;simp at h;omega
 have hall0:(List.range xs.length).all (Kj (Vd m) xs)=true:=by rw [hS.len,show n=k by omega];exact hall
 have hnk:n=k:=by omega
 refine QI (Qf (Qf (Qk (Qa (Ql (zR (zM ?_)))))))
 refine zC ?_
 refine zM ?_
 refine QE 2 rfl rfl rfl ?_
 refine zK (Qi rfl) ?_
 refine zK (Qi rfl) ?_
 refine zK (Xu rfl rfl (fun hg=>by omega)) ?_
 refine zK (ZO rfl rfl rfl (fun hg=>by omega)) ?_
 refine zK (QH rfl rfl rfl) ?_
 refine QP rfl rfl rfl rfl rfl ?_
 refine zN ?_
 refine zI ?_ ?_<;>intro hc51
 ·
  have h67:(decide (m>1)&&decide (xs.getD (m-2).toNat 0≠Vd m))=true:=by have h:=hc51;simp only [Bool.and_eq_true,decide_eq_true_eq] at h;rw [zcR hl (by rw [hS.len];exact hnk) (by rw [hS.len];exact hm.2.2) h.1];unfold Vd;simpa using hc51
  refine zR (zA (zN (Qt (Qc ?_))))
  exact zr rfl rfl (by rw [ztp h6 h18 hall0 h67])
 have h67:(decide (m>1)&&decide (xs.getD (m-2).toNat 0≠Vd m))=false:=(Decidable.em (m>1)).elim (fun h1=>by rw [zcR hl (by rw [hS.len];exact hnk) (by rw [hS.len];exact hm.2.2) h1];unfold Vd;simpa using hc51) (fun h1=>by rw [decide_eq_false h1];rfl)
 refine Qo (Qa (Ql (zR (zM ?_))))
 refine zQ Qy ?_
 refine zM (zN (Qm ?_))
 refine zU [(1,_),(52,_),(53,_)] (fun T L0 mz E I' loc'=>∃ (k:Nat),mz=n-k∧E=(54,.int .i64 k)::T∧I=I'∧L0=loc'∧k≤n∧(xs.take k).any (fun c=>Qx xs c==0)=false) ?_ (h:=⟨0,rfl,rfl,rfl,rfl,Nat.zero_le _,rfl⟩)
 rintro mz E I' loc' ⟨k,rfl,rfl,rfl,rfl,hk,hno⟩
 refine zR (zC (zN (Ql ?_)))
 refine zI ?_ ?_<;>intro hc55
 ·
  have hlt_k:k<n:=by have h:=hc55;simp at h;omega
  obtain ⟨x,hx⟩:=hS.at hlt_k
  have hxa:=zaZ hall0 hx
  have hps:=zc4 (cl:=xs) (s:=x) (by omega)
  refine Qo (Qa (Ql (Qm (zR ?_))))
  refine zV (QF rfl rfl Qy (by assumption) (fun hg=>by omega)) ?_
  refine zV (Qd rfl Qs (fun hg=>by exact zx7 hS hx rfl)) ?_
  refine zA ?_
  refine zN (zR ?_)
  refine zM ?_
  refine zM ?_
  refine qc (vs:=[_,_]) rfl zds (zdR hS hn x (by omega)) ?_
  refine zM ?_
  refine zE ?_
  refine zE ?_
  refine zE ?_
  refine zA ?_
  refine zA ?_
  refine zA ?_
  refine zN (zR ?_)
  refine zM ?_
  refine zO (zN ?_)
  refine zI ?_ ?_<;>intro hc66
  ·
   have hsp:(Qx xs x==0)=true:=by rw [hps] at hc66;simpa using hc66
   refine zR (zA (zN (Qt (Qn (Qc (Qc (Qn ?_)))))))
   refine Qc ?_
   first
   | exact zr rfl rfl (by rw [znE h6 h18 hall0 h67,JY hx hsp];rfl)
  have hsp:(Qx xs x==0)=false:=by rw [hps] at hc66;simpa using hc66
  refine Qo (Qh (Qa (Qg (zB ?_))))
  refine zM (Qb ?_)
  exact zm (h:=⟨n-(k+1),by omega,k+1,rfl,rfl,rfl,rfl,by omega,YX hx hno hsp⟩)
 have hge_k:n≤k:=by have h:=hc55;simp at h;omega
 rw [ZF hS.len hge_k] at hno
 refine QI (Qf (Qf (Qk (Qa (zR (zA (zN ?_)))))))
 refine Qt ?_
 first
 | exact zr rfl rfl (by rw [znE h6 h18 hall0 h67,hno];rfl)
end
section
open Go Go.Kn Go.Proofs
theorem zrE {I:Qu}{av:Option Addr}{n c:Nat}{xs:List Int}(hS:Sl I 1 QR av n c xs)(hn:n≤100000)(m s:Int):Zw Tryz.prog 94 [.int .i64 m,.slice av n c,.int .i64 s] I (.tuple #[.int .i64 (iA m xs s),.int .i64 (iB m xs s),.int .i64 (YP m xs s)]):=by
 intro g H w hw
 refine qe Tryz.func94 Tryz.ntmps94 hw ?_
 refine zR (zA ?_)
 refine zA ?_
 refine zA (zN (Ql (zR ?_)))
 refine zM ?_
 refine zM ?_
 refine qc (vs:=[_,_]) rfl zjF (zht hS _) ?_
 refine zA ?_
 refine zN (zR ?_)
 refine zM ?_
 refine zC (zN ?_)
 refine zI ?_ ?_<;>intro hc13
 ·
  have hb:=zgn (s:=s) (show VY m xs≠0 by simpa using hc13)
  have hb2:=zi4 (show YP m xs s≠0 by rw [hb];simpa using hc13)
  refine zR (zM ?_)
  refine zA ?_
  refine zA ?_
  refine zA (zN (Qt (Qc ?_)))
  exact Kz rfl rfl rfl rfl (fun w hw=>⟨by rw [hb2.1,hb2.2,hb],hw.drop⟩)
 have hc0:VY m xs=0:=by simpa using hc13
 refine Qo (Qa (Ql (zR (zM ?_))))
 refine zM ?_
 refine qc (vs:=[_,_]) rfl zc1 (JM hS hn _) ?_
 refine zO (zN ?_)
 refine zI ?_ ?_<;>intro hc18
 ·
  have hb:=zdO (s:=s) hc0 (by rw [←ziF];simpa using hc18)
  have hb2:=zi4 (show YP m xs s≠0 by rw [hb];decide)
  refine zR (zA ?_)
  refine zA ?_
  refine zA (zN (Qt (Qc ?_)))
  exact Kz rfl rfl rfl rfl (fun w hw=>⟨by rw [hb2.1,hb2.2,hb],hw.drop⟩)
 have hin:xs.any (fun c=>c==s)=true:=by rw [←ziF];simpa using hc18
 have hb:=zb4 hc0 hin
 have hb2:=zsT hb
 have hs:=(ZW hc0).2.2.2 s (by simpa using hin)
 refine Qo (Qa (zR (zM ?_)))
 refine zM ?_
 refine qc (vs:=[_,_]) rfl zds (zdR hS hn s (by omega)) ?_
 refine zM ?_
 refine zE ?_
 refine zE ?_
 refine zE ?_
 refine zA ?_
 refine zA ?_
 refine zN (zR ?_)
 refine zM ?_
 refine zM ?_
 refine zA ?_
 refine zA ?_
 refine zA (zN (Qt ?_))
 first
 | exact Kz rfl rfl rfl rfl (fun w hw=>⟨by rw [hb2.1,hb2.2,hb];rfl,hw.drop⟩)
theorem zsr (I:Qu)(a:Option Addr)(n c:Nat):Zw Tryz.prog 197 [.slice a n c] I (.bool (decide ((n:Int)>64))):=by
 intro g H w hw
 refine qe Tryz.func197 Tryz.ntmps197 hw ?_
 refine zR (zA ?_)
 refine zN (zR ?_)
 refine zM ?_
 refine zQ Qy ?_
 refine zC ?_
 refine zA (zN (Qt ?_))
 exact zr rfl rfl (by rfl)
theorem zqX (I:Qu)(v:Int):Zw Tryz.prog 198 [.int .i64 v] I (.bool (decide (v<0)||decide (v>8589934592))):=by
 intro g H w hw
 refine qe Tryz.func198 Tryz.ntmps198 hw ?_
 refine zR (zA ?_)
 refine zN (zR ?_)
 refine zM ?_
 refine zC ?_
 refine zM ?_
 refine QX 2 rfl rfl rfl ?_
 refine zJ (Qi rfl) ?_
 refine zJ (QH rfl rfl rfl) ?_
 refine ZA rfl rfl rfl rfl rfl ?_
 refine zA (zN (Qt ?_))
 exact zr rfl rfl (by rfl)
theorem zlf {I:Qu}{bv:Option Addr}{n2 c2:Nat}{hs:List Hd}(hH:Sl I 1 W2 bv n2 c2 hs)(hn:n2≤100000):Zw Tryz.prog 100 [.slice bv n2 c2,.func (.func 197) #[] #[]] I (.int .i64 (K8 (fun h:Hd=>decide ((h.n:Int)>64)) hs)):=by
 intro g H w hw
 refine qe Tryz.func100 Tryz.ntmps100 hw ?_
 refine zR (zA (zN (Ql (zR ?_))))
 refine zM ?_
 refine zQ Zo ?_
 refine zM (zN (Qm ?_))
 refine zU [(0,_),(1,_),(7,_)] (fun T L0 mz E I' loc'=>∃ (k:Nat),mz=n2-k∧E=(8,.int .i64 k)::T∧I=I'∧L0=loc'∧k≤n2∧(hs.take k).any (fun h:Hd=>decide ((h.n:Int)>64))=false) ?_ (h:=⟨0,rfl,rfl,rfl,rfl,Nat.zero_le _,rfl⟩)
 rintro mz E I' loc' ⟨k,rfl,rfl,rfl,rfl,hk,hno⟩
 refine zR (zC (zN (Ql ?_)))
 refine zI ?_ ?_<;>intro hc9
 ·
  have hlt_k:k<n2:=by have h:=hc9;simp at h;omega
  obtain ⟨x,hx⟩:=hH.at hlt_k
  refine Qo (Qa (Ql (Qm (zR (zM ?_)))))
  refine zA ?_
  refine zN (zR ?_)
  refine zM ?_
  refine zM ?_
  refine zM ?_
  refine zV (QF rfl rfl Zo (by assumption) (fun hg=>by omega)) ?_
  refine zV (Qd rfl QK (fun hg=>by exact zx7 hH hx rfl)) ?_
  refine qc (vs:=[_]) rfl zp0 (zsr I x.a x.n x.c) ?_
  refine zN ?_
  refine zI ?_ ?_<;>intro hc16
  ·
   refine zR (zM ?_)
   refine zA (zN (Qt (Qn (Qc (Qc (Qn (Qc ?_)))))))
   exact zr rfl rfl (by rw [Jd hno hx hc16])
  refine Qo (Qh (Qa (Qg (zB ?_))))
  refine zM (Qb ?_)
  exact zm (h:=⟨n2-(k+1),by omega,k+1,rfl,rfl,rfl,rfl,by omega,YX hx hno hc16⟩)
 have hge_k:n2≤k:=by have h:=hc9;simp at h;omega
 refine QI (Qf (Qf (Qk (Qa (zR (zA (zN ?_)))))))
 refine Qt ?_
 exact zr rfl rfl (by rw [Vv hH.len hge_k hno])
theorem zd8 {I:Qu}{bv:Option Addr}{n2 c2:Nat}{hs:List Hd}(hH:Sl I 1 W2 bv n2 c2 hs)(hn:n2≤100000):Zw Tryz.prog 53 [.slice bv n2 c2,.func (.func 197) #[] #[]] I (.bool (hs.any (fun h:Hd=>decide ((h.n:Int)>64)))):=by
 intro g H w hw
 refine qe Tryz.func53 Tryz.ntmps53 hw ?_
 refine zR (zA ?_)
 refine zN (zR ?_)
 refine zM ?_
 refine zM ?_
 refine qc (vs:=[_,_]) rfl zbM (zlf hH hn) ?_
 refine zC ?_
 refine zA (zN (Qt ?_))
 first
 | exact zr rfl rfl (by rw [←KE])
theorem zlj {I:Qu}{av:Option Addr}{n c:Nat}{xs:List Int}(hS:Sl I 1 QR av n c xs)(hn:n≤100000):Zw Tryz.prog 148 [.slice av n c,.func (.func 198) #[] #[]] I (.int .i64 (K8 (fun v=>decide (v<0)||decide (v>8589934592)) xs)):=by
 intro g H w hw
 refine qe Tryz.func148 Tryz.ntmps148 hw ?_
 refine zR (zA (zN (Ql (zR ?_))))
 refine zM ?_
 refine zQ Qy ?_
 refine zM (zN (Qm ?_))
 refine zU [(0,_),(1,_),(7,_)] (fun T L0 mz E I' loc'=>∃ (k:Nat),mz=n-k∧E=(8,.int .i64 k)::T∧I=I'∧L0=loc'∧k≤n∧(xs.take k).any (fun v=>decide (v<0)||decide (v>8589934592))=false) ?_ (h:=⟨0,rfl,rfl,rfl,rfl,Nat.zero_le _,rfl⟩)
 rintro mz E I' loc' ⟨k,rfl,rfl,rfl,rfl,hk,hno⟩
 refine zR (zC (zN (Ql ?_)))
 refine zI ?_ ?_<;>intro hc9
 ·
  have hlt_k:k<n:=by have h:=hc9;simp at h;omega
  obtain ⟨x,hx⟩:=hS.at hlt_k
  refine Qo (Qa (Ql (Qm (zR (zM ?_)))))
  refine zA ?_
  refine zN (zR ?_)
  refine zM ?_
  refine zM ?_
  refine zM ?_
  refine zV (QF rfl rfl Qy (by assumption) (fun hg=>by omega)) ?_
  refine zV (Qd rfl Qs (fun hg=>by exact zx7 hS hx rfl)) ?_
  refine qc (vs:=[_]) rfl zpb (zqX I _) ?_
  refine zN ?_
  refine zI ?_ ?_<;>intro hc16
  ·
   refine zR (zM ?_)
   refine zA (zN (Qt (Qn (Qc (Qc (Qn (Qc ?_)))))))
   exact zr rfl rfl (by rw [Jd hno hx hc16])
  refine Qo (Qh (Qa (Qg (zB ?_))))
  refine zM (Qb ?_)
  exact zm (h:=⟨n-(k+1),by omega,k+1,rfl,rfl,rfl,rfl,by omega,YX hx hno hc16⟩)
 have hge_k:n≤k:=by have h:=hc9;simp at h;omega
 refine QI (Qf (Qf (Qk (Qa (zR (zA (zN ?_)))))))
 refine Qt ?_
 exact zr rfl rfl (by rw [Vv hS.len hge_k hno])
theorem zd4 {I:Qu}{av:Option Addr}{n c:Nat}{xs:List Int}(hS:Sl I 1 QR av n c xs)(hn:n≤100000):Zw Tryz.prog 87 [.slice av n c,.func (.func 198) #[] #[]] I (.bool (xs.any (fun v=>decide (v<0)||decide (v>8589934592)))):=by
 intro g H w hw
 refine qe Tryz.func87 Tryz.ntmps87 hw ?_
 refine zR (zA ?_)
 refine zN (zR ?_)
 refine zM ?_
 refine zM ?_
 refine qc (vs:=[_,_]) rfl zgT (zlj hS hn) ?_
 refine zC ?_
 refine zA (zN (Qt ?_))
 first
 | exact zr rfl rfl (by rw [←KE])
end
section
open Go Go.Kn Go.Proofs
def zjq (v:Int):Bool:=decide (v<0)||decide (v>8589934592)
def zrN (w:Nat)(r:List Int):Bool:=decide ((r.length:Int)≠w)||r.any zjq
def VM (rows:List (List Int)):Int:=
 if decide ((rows.length:Int)>6)||rows.any (fun r=>decide ((r.length:Int)>64)) then 2 else if rows.length=0 then 420
 else if rows.any (zrN (rows.getD 0 []).length) then 420 else 0
theorem zsB {rows:List (List Int)}(h:(decide ((rows.length:Int)>6)||rows.any (fun r=>decide ((r.length:Int)>64)))=true):VM rows=2:=by unfold VM;rw [if_pos h]
theorem ztC {rows:List (List Int)}(h:(decide ((rows.length:Int)>6)||rows.any (fun r=>decide ((r.length:Int)>64)))=false)(h2:rows.length=0):VM rows=420:=by unfold VM;rw [if_neg (by rw [h];decide),if_pos h2]
theorem zne {rows:List (List Int)}(h:(decide ((rows.length:Int)>6)||rows.any (fun r=>decide ((r.length:Int)>64)))=false)(h2:¬rows.length=0):VM rows=if rows.any (zrN (rows.getD 0 []).length) then 420 else 0:=by
 unfold VM;rw [if_neg (by rw [h];decide),if_neg h2]
theorem zqM {rows:List (List Int)}(h:(decide ((rows.length:Int)>6)||rows.any (fun r=>decide ((r.length:Int)>64)))=false){v:List Int}(hv:v∈rows):v.length≤64:=by
 rw [Bool.or_eq_false_iff] at h
 have:=List.any_eq_false.1 h.2 v hv
 simp at this;omega
theorem zcl {I:Qu}{av:Option Addr}{n c:Nat}{hs:List Hd}{vss:List (List Int)}(h:SlH I av n c hs vss)(p:Int→Bool):hs.any (fun x:Hd=>p (x.n:Int))=vss.any (fun r=>p (r.length:Int)):=by
 have hl:=h.2.1
 have hlen:∀ (k:Nat) (x:Hd) (v:List Int),hs[k]? =some x→vss[k]? =some v→v.length=x.n:=fun k x v a b=>(h.2.2 k x v a b).len
 clear h
 rw [Bool.eq_iff_iff,List.any_eq_true,List.any_eq_true]
 constructor
 ·
  rintro ⟨x,hx,hp⟩
  obtain ⟨k,hk⟩:=List.getElem?_of_mem hx
  have hk2:vss[k]? =some (vss[k]'(by have:=(List.getElem?_eq_some_iff.1 hk).1;omega)):=List.getElem?_eq_getElem _
  exact ⟨_,List.mem_of_getElem? hk2,by rw [hlen k _ _ hk hk2];exact hp⟩
 ·
  rintro ⟨v,hv,hp⟩
  obtain ⟨k,hk⟩:=List.getElem?_of_mem hv
  have hk2:hs[k]? =some (hs[k]'(by have:=(List.getElem?_eq_some_iff.1 hk).1;omega)):=List.getElem?_eq_getElem _
  exact ⟨_,List.mem_of_getElem? hk2,by rw [←hlen k _ _ hk2 hk];exact hp⟩
end
section
open Go Go.Kn Go.Proofs
theorem zv5 {I:Qu}{av:Option Addr}{n c:Nat}{rows:List (List Int)}(hV:SlN I av n c rows):Zw Tryz.prog 62 [.slice av n c] I (.bool (zkj rows)):=by
 intro g H w hw
 refine qe Tryz.func62 Tryz.ntmps62 hw ?_
 obtain ⟨hs,hV⟩:=hV
 have hH:=hV.1
 have hlV:=hV.len
 refine zR (zA (zN (Ql (zR ?_))))
 refine zM ?_
 refine zQ Zo ?_
 refine zC (zN ?_)
 refine zI ?_ ?_<;>intro hc6
 ·
  have h6:rows.length>6:=by simp at hc6;omega
  refine zR (zM ?_)
  refine zQ Zo ?_
  refine zC ?_
  refine zA (zN (Qt (Qc ?_)))
  first
  | exact zr rfl rfl (by unfold zkj;rw [if_pos h6,hlV])
 have h6:¬rows.length>6:=by simp at hc6;omega
 refine Qo (Qa (Ql (zR (zA (zN (Qm ?_))))))
 refine zU [(0,_)] (fun T L0 mz E I' loc'=>∃ (k:Nat),mz=n-k∧E=(3,.int .i64 k)::T∧I=I'∧L0=loc'∧k≤n∧(rows.take k).all (fun r=> !(decide ((r.length:Int)>12)&&(decide ((r.length:Int)≤64)||decide ((r.length:Int)>100))))=true) ?_ (h:=⟨0,rfl,rfl,rfl,rfl,Nat.zero_le _,rfl⟩)
 rintro mz E I' loc' ⟨k,rfl,rfl,rfl,rfl,hk,hall⟩
 refine Ql (zR (zM ?_))
 refine zM ?_
 refine zQ Zo ?_
 refine zC (zN ?_)
 refine zI ?_ ?_<;>intro hc13
 ·
  have hlt_k:k<n:=by have h:=hc13;simp at h;omega
  obtain ⟨x,v,hx,hv,hQ⟩:=hV.at hlt_k
  refine Qo (Qa (Ql (Qm (zR (zM ?_)))))
  refine zM ?_
  refine zV (QF rfl rfl Zo (by assumption) (fun hg=>by omega)) ?_
  refine zV (Qd rfl QK (fun hg=>by exact zx7 hH hx rfl)) ?_
  refine zQ Qy ?_
  refine zC ?_
  refine zM ?_
  refine QE 6 rfl rfl rfl ?_
  refine zK (Qi rfl) ?_
  refine zK (Qi rfl) ?_
  refine zK (QF rfl rfl Zo (by assumption) (fun hg=>by omega)) ?_
  refine zK (Qd rfl QK (fun hg=>by exact zx7 hH hx rfl)) ?_
  refine zK (ZH rfl Qy) ?_
  refine zK (QH rfl rfl rfl) ?_
  refine zK (Qi rfl) ?_
  refine QX 13 rfl rfl rfl ?_
  refine zJ (Qi rfl) ?_
  refine zJ (Qi rfl) ?_
  refine zJ (QF rfl rfl Zo (by assumption) (fun hg=>by omega)) ?_
  refine zJ (Qd rfl QK (fun hg=>by exact zx7 hH hx rfl)) ?_
  refine zJ (ZH rfl Qy) ?_
  refine zJ (QH rfl rfl rfl) ?_
  refine zha rfl rfl rfl (.some rfl rfl rfl rfl gbt) rfl rfl ?_
  refine QP rfl rfl rfl rfl rfl ?_
  refine zN ?_
  refine zI ?_ ?_<;>intro hc37
  ·
   refine zR (zA (zN (Qt (Qn (Qc (Qc (Qn ?_)))))))
   refine Qc ?_
   first
   | exact zr rfl rfl (by unfold zkj;rw [if_neg h6,List.all_eq_false.2 ⟨v,List.mem_of_getElem? hv,by rw [hQ.len,hc37];decide⟩];rfl)
  refine Qo (Qh (Qa (Qg (zM ?_))))
  refine zB ?_
  refine zA (Qb ?_)
  exact zm (h:=⟨n-(k+1),by omega,k+1,rfl,rfl,rfl,rfl,by omega,by rw [List.take_add_one,hv,List.all_append,hall,Option.toList_some,List.all_cons,List.all_nil,hQ.len,hc37];rfl⟩)
 have hge_k:n≤k:=by have h:=hc13;simp at h;omega
 rw [ZF hlV hge_k] at hall
 refine QI (Qf (Qf (Qk (Qa (zR (zM ?_))))))
 refine zQ Zo ?_
 refine zC ?_
 refine zA (zN (Qt ?_))
 first
 | exact zr rfl rfl (by unfold zkj;rw [if_neg h6,hall,hlV];rfl)
theorem zpx {I:Qu}{av:Option Addr}{n c:Nat}{rows:List (List Int)}(hV:SlN I av n c rows)(hn:n≤100000):Zw Tryz.prog 150 [.slice av n c] I (.int .i64 (VM rows)):=by
 intro g H w hw
 refine qe Tryz.func150 Tryz.ntmps150 hw ?_
 obtain ⟨hs,hV⟩:=hV
 have hH:=hV.1
 have hlV:=hV.len
 refine zR (zA (zN (Ql (zR ?_))))
 refine zM ?_
 refine zQ Zo ?_
 refine zC ?_
 refine zM ?_
 refine QX 3 rfl rfl rfl ?_
 refine zJ (Qi rfl) ?_
 refine qf (vs:=[_,_]) rfl znp (fun hg=>zd8 hH hn) ?_
 refine ZA rfl rfl rfl rfl rfl ?_
 refine zN ?_
 refine zI ?_ ?_<;>intro hc11
 ·
  have h1:(decide ((rows.length:Int)>6)||rows.any (fun r=>decide ((r.length:Int)>64)))=true:=by rw [hlV,←zcl hV (fun q=>decide (q>64))];exact hc11
  refine zR (zA (zN (Qt (Qc ?_))))
  exact zr rfl rfl (by rw [zsB h1])
 have h1:(decide ((rows.length:Int)>6)||rows.any (fun r=>decide ((r.length:Int)>64)))=false:=by rw [hlV,←zcl hV (fun q=>decide (q>64))];exact hc11
 refine Qo (Qa (Ql (zR (zM ?_))))
 refine zQ Zo ?_
 refine zC (zN ?_)
 refine zI ?_ ?_<;>intro hc14
 ·
  have h2:rows.length=0:=by simp at hc14;omega
  refine zR (zA (zN (Qt (Qc ?_))))
  exact zr rfl rfl (by rw [ztC h1 h2])
 have h2:¬rows.length=0:=by simp at hc14;omega
 obtain ⟨x0,v0,hx0,hv0,hQ0⟩:=hV.at (show 0<n by omega)
 refine Qo (Qa (Ql (zR (zM ?_))))
 refine zQ Zo ?_
 refine zM (zN (Qm ?_))
 refine zU [(0,_),(15,_),(16,_)] (fun T L0 mz E I' loc'=>∃ (k:Nat),mz=n-k∧E=(17,.int .i64 k)::T∧I=I'∧L0=loc'∧k≤n∧(rows.take k).any (zrN (rows.getD 0 []).length)=false) ?_ (h:=⟨0,rfl,rfl,rfl,rfl,Nat.zero_le _,rfl⟩)
 rintro mz E I' loc' ⟨k,rfl,rfl,rfl,rfl,hk,hno⟩
 refine zR (zC (zN (Ql ?_)))
 refine zI ?_ ?_<;>intro hc18
 ·
  have hlt_k:k<n:=by have h:=hc18;simp at h;omega
  obtain ⟨x,v,hx,hv,hQ⟩:=hV.at hlt_k
  have hrow:zrN (rows.getD 0 []).length v=(((x.n:Int) != (x0.n:Int))||v.any zjq):=by unfold zrN;rw [Q1 hv0,hQ.len,hQ0.len];congr 1;exact Bool.eq_iff_iff.2 (by simp)
  refine Qo (Qa (Ql (Qm (zR ?_))))
  refine zV (QF rfl rfl Zo (by assumption) (fun hg=>by omega)) ?_
  refine zV (Qd rfl QK (fun hg=>by exact zx7 hH hx rfl)) ?_
  refine zA ?_
  refine zN (zR ?_)
  refine zM ?_
  refine zQ Qy ?_
  refine zM ?_
  refine zV (QF rfl rfl Zo (by assumption) (fun hg=>by omega)) ?_
  refine zV (Qd rfl QK (fun hg=>by exact zx7 (k:=0) hH hx0 rfl)) ?_
  refine zQ Qy ?_
  refine zC ?_
  refine zM ?_
  refine QX 7 rfl rfl rfl ?_
  refine zJ (Qi rfl) ?_
  refine qf (vs:=[_,_]) rfl zil (fun hg=>zd4 hQ (by rw [←hQ.len];have:=zqM h1 (List.mem_of_getElem? hv);omega)) ?_
  refine ZA rfl rfl rfl rfl rfl ?_
  refine zN ?_
  refine zI ?_ ?_<;>intro hc31
  ·
   refine zR (zA (zN (Qt (Qn (Qc (Qc (Qn ?_)))))))
   refine Qc ?_
   first
   | exact zr rfl rfl (by rw [zne h1 h2,JY hv (by rw [hrow];exact hc31)];rfl)
  refine Qo (Qh (Qa (Qg (zB ?_))))
  refine zM (Qb ?_)
  exact zm (h:=⟨n-(k+1),by omega,k+1,rfl,rfl,rfl,rfl,by omega,YX hv hno (by rw [hrow];exact hc31)⟩)
 have hge_k:n≤k:=by have h:=hc18;simp at h;omega
 rw [ZF hlV hge_k] at hno
 refine QI (Qf (Qf (Qk (Qa (zR (zA (zN ?_)))))))
 refine Qt ?_
 first
 | exact zr rfl rfl (by rw [zne h1 h2,hno];rfl)
end
section
open Go Go.Kn Go.Proofs
def Va (f t:Int):Int:=if f=t then 0 else if t=0 then 1 else if f=0 then 4 else 2
theorem Ud (f t:Int):0≤Va f t∧Va f t≤4:=by
 unfold Va
 split
 ·
  omega
 ·
  split
  ·
   omega
  ·
   split<;>omega
def zaY (st cs:List Int)(s:Int)(k:Nat):Int:=(List.range k).foldl (fun b i=>JT b (Va s (st.getD i 0)+cs.getD i 0)) 1048576
def Yv (st cs:List Int)(s:Int):Int:=zaY st cs s st.length
theorem Z2 {α:Type}{xs:List α}{k:Nat}{x:α}(h:xs[k]? =some x):xs.drop k=x::xs.drop (k+1):=by
 obtain ⟨h1,h2⟩:=List.getElem?_eq_some_iff.1 h
 rw [List.drop_eq_getElem_cons h1,h2]
def zbx (n:Int):Int:=if n=0 then 1 else 0
end
section
open Go Go.Kn Go.Proofs
theorem zmC (I:Qu)(n:Int):Zw Tryz.prog 251 [.int .i64 n] I (.int .i64 (zbx n)):=by
 intro g H w hw
 refine qe Tryz.func251 Tryz.ntmps251 hw ?_
 refine zR (zA (zN (Ql (zR ?_))))
 refine zM ?_
 refine zC (zN ?_)
 refine zI ?_ ?_<;>intro hc4
 ·
  refine zR (zA (zN (Qt (Qc ?_))))
  exact zr rfl rfl (by unfold zbx;simp_all)
 refine Qo (Qa (zR (zA (zN (Qt ?_)))))
 exact zr rfl rfl (by unfold zbx;simp_all)
end
end Go.Proofs.YtodakphagkommaaGreatDoor
section
namespace Go.Kn
open Go
section
variable {C:Cx} {E:Env} {I:Qu} {loc:Loc} {S:GS} {dst:Option Tmp} {ty:TypeId} {pos:String} {af:Array Edge} {gd:Option (Nat×Bool)} {x y z:Operand}
end
end Go.Kn
namespace Go.Kn
open Go
section
variable {g:World} {I I' H:Qu} {loc loc' L R:Loc} {w w':World}
end
end Go.Kn
namespace Go.Kn
open Go
section
variable {C:Cx} {Q:Exit→Act→World→Prop} {E:Env} {I:Qu} {loc:Loc} {ops:Array Oper} {rest:List Oper} {d:Nat} {ty:TypeId} {pos:String} {af:Array Edge} {gd:Option (Nat×Bool)} {x y:Operand}
end
end Go.Kn
namespace Go.Kn
open Go
section
variable {C:Cx} {Q:Exit→Act→World→Prop} {E:Env} {I:Qu} {loc:Loc} {ops:Array Oper} {rest:List Oper} {d:Nat} {ty:TypeId} {pos:String} {af:Array Edge} {gd:Option (Nat×Bool)} {x y:Operand}
end
section
variable {C:Cx} {S:GS} {E:Env} {I:Qu} {loc:Loc} {dst:Option Tmp} {ty:TypeId} {pos:String} {af:Array Edge} {gd:Option (Nat×Bool)} {x y:Operand}
theorem Q6 {t e size b n c:Nat}{k:IntKind}{i:Int}(hx:QA S E x=some (.slice (some ⟨b,0,none⟩) n c))(hy:QA S E y=some (.int k i))(hT:SlT C.P t e size)(hb:ZX S=true→0≤i∧i<(n:Int)):
  QT C S E I loc ⟨dst,.indexAddr t x y,ty,pos,af,gd⟩ (.pointer (some ⟨b,i.toNat*size,none⟩)):=by
 have h:=WO (I:=I) (loc:=loc) (dst:=dst) (ty:=ty) (pos:=pos) (af:=af) (gd:=gd) hx hy hT hb
 rwa [Nat.zero_add] at h
end
end Go.Kn
end
namespace Go.Proofs.YtodakphagkommaaGreatDoor
section
open Go Go.Kn Go.Proofs
theorem _root_.Go.Kn.OwnS.lit {e size b n:Nat}{vs:List Value}(h:vs.length=n*size)(hn:n≤maxLen):OwnS e size (.slice (some ⟨b,0,none⟩) n n) n vs [(b,.cells vs.toArray e (0,0))]:=
 ⟨h,.inr ⟨b,n,_,rfl,rfl,Nat.le_refl _,hn,by simp [h],by rw [←h];simp⟩⟩
theorem zdd {e size n:Nat}{v:Value}{xs:List Value}{L:Go.Kn.Loc}(h:OwnS e size v n xs L):∃ a c,v= .slice a n c:=by
 rcases h.2 with ⟨h1,h2,_⟩ | ⟨b,c,cur,h1,_⟩
 ·
  subst h2;exact ⟨_,_,h1⟩
 ·
  exact ⟨_,_,h1⟩
def stS (out:List Int)(n:Int):List Int:=if n==8589934592||out.any (fun x=>x==n) then out else out++[n]
def Q9 (rows:List (List Int))(l:Nat):List Int:=(rows.map fun r=>r.getD l 0).foldl stS [0]
theorem zjH {rows:List (List Int)}{l k:Nat}{r:List Int}(h:rows[k]? =some r):Q9 (rows.take (k+1)) l=stS (Q9 (rows.take k) l) (r.getD l 0):=by
 unfold Q9
 rw [List.take_add_one,h,List.map_append,List.foldl_append];rfl
theorem znH {out:List Int}{n:Int}(h:(n==8589934592||out.any (fun x=>x==n))=true):stS out n=out:=by unfold stS;rw [if_pos h]
theorem zxf {out:List Int}{n:Int}(h:(n==8589934592||out.any (fun x=>x==n))=false):stS out n=out++[n]:=by unfold stS;rw [if_neg (by rw [h];decide)]
theorem zn5 {rows:List (List Int)}{l:Nat}:(Q9 rows l).length≤rows.length+1:=by
 have:∀ (ns out:List Int),(ns.foldl stS out).length≤ns.length+out.length:=by
  intro ns
  induction ns with
  | nil=>intro out;simp
  | cons n ns ih=>
   intro out
   refine Nat.le_trans (ih _) ?_
   have:(stS out n).length≤out.length+1:=by
    unfold stS
    split
    ·
     omega
    ·
     simp
   simp only [List.length_cons];omega
 have:=this (rows.map fun r=>r.getD l 0) [0]
 simpa [Q9] using this
end
section
open Go Go.Kn Go.Proofs
theorem Zi:ElT Tryz.prog 23 3 1 8:=.of (by kernel_rfl)
end
section
open Go Go.Kn Go.Proofs
theorem Z3 {α:Type}{xs:List α}{k:Nat}{x:α}(h:xs[k]? =some x):xs.take (k+1)=xs.take k++[x]:=by
 rw [List.take_add_one,h];rfl
section
variable {α:Type} {lt:α→α→Bool}
end
end
section
open Go Go.Kn Go.Proofs
def KK (s:Int):Nat:=s.toNat.log2
theorem ztV:((List.range 7).all fun n=>(List.range 64).all fun s=> !Z6 (s:Int)|| !decide ((s:Int)≤Vd (n:Int))||decide (KK (s:Int)<n))=true:=by kernel_rfl
theorem zsE {s:Int}{n:Nat}(hn:n≤6)(hs:1≤s∧s≤63)(h1:Z6 s=true)(h:s≤Vd (n:Int)):KK s<n:=by
 have h0:=List.all_eq_true.1 ztV n (List.mem_range.2 (by omega))
 have h0:=List.all_eq_true.1 h0 s.toNat (List.mem_range.2 (by omega))
 rw [show ((s.toNat:Nat):Int)=s by omega,h1] at h0
 simpa [h] using h0
theorem Wq {cl:List Int}{c:Int}{a:Nat}(h:Km cl c a≠0)(ha:1≤a):1≤Km cl c a∧Km cl c a<c∧Jb cl c (Km cl c a)=true:=by
 unfold Km at h ⊢
 cases hf:(List.range' a (c.toNat -a)).find? (fun k:Nat=>Jb cl c (k:Int)) with
 | none=>rw [hf] at h;exact absurd rfl h
 | some k=>
  have h1:=List.find?_some hf
  have h2:=List.mem_range'_1.1 (List.mem_of_find?_eq_some hf)
  exact ⟨by show 1≤(k:Int);omega,by show (k:Int)<c;omega,h1⟩
theorem zvt {s:Int}(h:1≤s∧s≤63):IntKind.i64.wrap (s-1)=s-1:=zbg (by omega)
def OkS (n:Nat)(cl:List Int)(s:Int):Prop:=1≤s∧s≤Vd (n:Int)∧WV cl s=true
theorem KS {m:Int}{cl:List Int}(h:VY m cl=0):∀ c∈cl,Qx cl c≠0:=by
 intro c hc hs
 unfold VY at h
 repeat (split at h; · cases h)
 rename_i h5
 exact h5 (List.any_eq_true.2 ⟨c,hc,by simp [hs]⟩)
theorem zlM {n:Nat}{cl:List Int}{s:Int}(hc:VY n cl=0)(h:OkS n cl s)(h1:(K4 s (IntKind.i64.wrap (s-1))==0)=false):OkS n cl (Qx cl s)∧OkS n cl (s-Qx cl s)∧1≤Qx cl s∧Qx cl s<s:=by
 obtain ⟨h2,h3,h4⟩:=h
 have hin:s∈cl:=by
  unfold WV Z6 at h4
  rw [h1,Bool.and_false,Bool.or_false,List.any_eq_true] at h4
  obtain ⟨c,hc2,e⟩:=h4
  have:c=s:=by simpa using e
  exact this ▸ hc2
 obtain ⟨a1,a2,a3⟩:=Wq (KS hc s hin) (Nat.le_refl 1)
 unfold Jb at a3
 simp only [Bool.and_eq_true] at a3
 exact ⟨⟨a1,by show Km cl s 1≤_;omega,a3.1.2⟩,⟨by show 1≤s-Km cl s 1;omega,by show s-Km cl s 1≤_;omega,a3.2⟩,a1,a2⟩
def Kf (u x:Int):Int:=if decide (u≠8589934592)&&decide (u≠x) then 1048576 else 0
def ZC (rows:List (List Int))(cl:List Int)(l:Nat):Nat→Int→List Int
 | 0,_=>[]
 | f+1,s=>
  if (K4 s (IntKind.i64.wrap (s-1))==0)=true then (Q9 rows l).map (Kf ((rows.getD (KK s) []).getD l 0))
  else (Q9 rows l).map fun x=>Yv (Q9 rows l) (ZC rows cl l f (Qx cl s)) x+Yv (Q9 rows l) (ZC rows cl l f (s-Qx cl s)) x
theorem Wg {rows:List (List Int)}{cl:List Int}{l f:Nat}{s:Int}(h:(K4 s (IntKind.i64.wrap (s-1))==0)=true):ZC rows cl l (f+1) s=(Q9 rows l).map (Kf ((rows.getD (KK s) []).getD l 0)):=by
 simp only [ZC];rw [if_pos h]
def zmR (st L R:List Int)(x:Int):Int:=Yv st L x+Yv st R x
theorem X6 {rows:List (List Int)}{cl:List Int}{l f:Nat}{s:Int}(h:(K4 s (IntKind.i64.wrap (s-1))==0)=false):ZC rows cl l (f+1) s=(Q9 rows l).map (zmR (Q9 rows l) (ZC rows cl l f (Qx cl s)) (ZC rows cl l f (s-Qx cl s))):=by
 simp only [ZC];rw [if_neg (by rw [h];decide)];rfl
theorem zfH {st cs:List Int}{s:Int}(h:∀ y∈cs,0≤y∧y≤1099511627776):0≤Yv st cs s∧Yv st cs s≤1048576:=by
 unfold Yv
 have:∀ k,0≤zaY st cs s k∧zaY st cs s k≤1048576:=by
  intro k
  induction k with
  | zero=>unfold zaY;simp
  | succ k ih=>
   have e:zaY st cs s (k+1)=JT (zaY st cs s k) (Va s (st.getD k 0)+cs.getD k 0):=by
    unfold zaY
    rw [List.range_succ,List.foldl_append,List.foldl_cons,List.foldl_nil]
   rw [e]
   have h1:=(Ud s (st.getD k 0)).1
   have h2:0≤cs.getD k 0:=by
    cases hk:cs[k]? with
    | none=>simp [List.getD,hk]
    | some y=>rw [Q1 hk];exact (h y (List.mem_of_getElem? hk)).1
   unfold JT
   split<;>omega
 exact this _
theorem UI {rows:List (List Int)}{cl:List Int}{l:Nat}:∀ (f:Nat) (s:Int),∀ y∈ZC rows cl l f s,0≤y∧y≤1099511627776
 | 0,_=>fun y hy=>by cases hy
 | f+1,s=>fun y hy=>by
  cases h:(K4 s (IntKind.i64.wrap (s-1))==0) with
  | true=>
   rw [Wg h,List.mem_map] at hy
   obtain ⟨x,_,rfl⟩:=hy
   unfold Kf
   split<;>omega
  | false=>
   rw [X6 h,List.mem_map] at hy
   obtain ⟨x,_,rfl⟩:=hy
   have h1:=zfH (st:=Q9 rows l) (s:=x) (UI (rows:=rows) (cl:=cl) (l:=l) f (Qx cl s))
   have h2:=zfH (st:=Q9 rows l) (s:=x) (UI (rows:=rows) (cl:=cl) (l:=l) f (s-Qx cl s))
   unfold zmR
   omega
theorem XB {rows:List (List Int)}{cl:List Int}{l f:Nat}{s:Int}:(ZC rows cl l (f+1) s).length=(Q9 rows l).length:=by
 cases h:(K4 s (IntKind.i64.wrap (s-1))==0) with
 | true=>rw [Wg h,List.length_map]
 | false=>rw [X6 h,List.length_map]
/-! ### A row that is filled -/
def Zh (row:List Int):Array Value:=(row.flatMap QR).toArray
theorem Jk (row:List Int):row.flatMap QR=row.map (Value.int .i64):=by
 induction row with
 | nil=>rfl
 | cons b row ih=>rw [List.flatMap_cons,ih];rfl
theorem Vm (row:List Int)(m:Nat)(b:Int):(Zh row).setIfInBounds ((m:Int).toNat*1) (.int .i64 b)=Zh (row.set m b):=by
 unfold Zh
 rw [Jk,Jk,Nat.mul_one,List.setIfInBounds_toArray,List.map_set];rfl
theorem zvv {row:List Int}{m:Nat}(h:m<row.length):Nat.blt ((m:Int).toNat*1) (Zh row).size=true:=by
 unfold Zh
 rw [List.size_toArray,ZU Qv,Nat.mul_one,Nat.mul_one]
 rw [Nat.blt_eq];exact h
theorem Q2 (n:Nat):(List.replicate n (Value.int .i64 0)).toArray=Zh (List.replicate n 0):=by
 unfold Zh
 rw [Jk,List.map_replicate]
theorem zfx {b n e:Nat}{row:List Int}(h:row.length=n)(hn:n≤1000000):OwnS e 1 (.slice (some ⟨b,0,none⟩) n n) n (row.flatMap QR) [(b,.cells (Zh row) e (0,0))]:=
 OwnS.lit (by rw [ZU Qv,h]) (by simp only [maxLen];omega)
end
section
open Go Go.Kn Go.Proofs
theorem YI:MkT Tryz.prog 23 3 8 (.int .i64 0):=⟨by kernel_rfl,by kernel_rfl,rfl⟩
theorem Yi:SzT Tryz.prog 3 1:=.of (by kernel_rfl)
end
section
open Go Go.Kn Go.Proofs
theorem We {rows:List (List Int)}(h:VM rows=0):1≤rows.length∧rows.length≤6∧(rows.getD 0 []).length≤64∧∀ r∈rows,r.length=(rows.getD 0 []).length∧∀ v∈r,0≤v∧v≤8589934592:=by
 unfold VM at h
 split at h
 ·
  cases h
 ·
  rename_i h1
  split at h
  ·
   cases h
  ·
   rename_i h2
   split at h
   ·
    cases h
   ·
    rename_i h3
    simp only [Bool.or_eq_true,decide_eq_true_eq,not_or,Bool.not_eq_true,List.any_eq_false] at h1 h3
    obtain ⟨r0,h0⟩:∃ r,rows[0]? =some r:=⟨_,List.getElem?_eq_getElem (by omega)⟩
    have hg:=Q1 (d:=([]:List Int)) h0
    have h64:=h1.2 r0 (List.mem_of_getElem? h0)
    simp at h64
    refine ⟨by omega,by omega,by rw [hg];omega,fun r hr=>?_⟩
    have:=h3 r hr
    unfold zrN at this
    rw [Bool.or_eq_false_iff] at this
    obtain ⟨ha,hb⟩:=this
    refine ⟨Int.ofNat.inj (Decidable.not_not.1 (of_decide_eq_false ha)),fun v hv=>?_⟩
    have:=List.any_eq_false.1 hb v hv
    unfold zjq at this
    simp at this
    omega
theorem zjC {n:Nat}{cl:List Int}(h:VY n cl=0):OkS n cl (Vd n):=by
 obtain ⟨h1,h6,hlen,hin⟩:=ZW h
 refine ⟨(zaD (n:=(n:Int)) ⟨h1,h6⟩).1,Int.le_refl _,?_⟩
 by_cases e:n=1
 ·
  subst e
  unfold WV
  rw [show Z6 (Vd ((1:Nat):Int))=true from by decide,Bool.or_true]
 ·
  unfold VY at h
  repeat (split at h; · cases h)
  rename_i h4 _
  have hg:(n:Int)>1:=by omega
  simp only [Bool.and_eq_true,decide_eq_true_eq,not_and,Decidable.not_not] at h4
  have h4:=h4 hg
  unfold WV
  rw [Bool.or_eq_true];left
  rw [List.any_eq_true]
  have hk:((n:Int)-2).toNat<cl.length:=by omega
  refine ⟨cl[((n:Int)-2).toNat],List.getElem_mem hk,?_⟩
  rw [beq_iff_eq,←h4]
  exact (Q1 (List.getElem?_eq_getElem hk)).symm
def ze2 (cs:List Int)(k:Nat):Int:=(cs.take k).foldl JT (cs.getD 0 0)
def Yn (cs:List Int):Int:=ze2 cs cs.length
theorem zcK {cs:List Int}{k:Nat}{x:Int}(hx:cs[k]? =some x):ze2 cs (k+1)=JT (ze2 cs k) x:=by
 unfold ze2
 rw [List.take_add_one,hx,List.foldl_append];rfl
theorem zed {cs:List Int}(h:∀ y∈cs,0≤y∧y≤1099511627776)(h0:0<cs.length):∀ k,0≤ze2 cs k∧ze2 cs k≤1099511627776:=by
 have hz:0≤cs.getD 0 0∧cs.getD 0 0≤1099511627776:=by
  have:=List.getElem?_eq_getElem h0
  rw [Q1 this];exact h _ (List.getElem_mem h0)
 intro k
 induction k with
 | zero=>simpa [ze2] using hz
 | succ k ih=>
  cases hk:cs[k]? with
  | none=>
   have:ze2 cs (k+1)=ze2 cs k:=by
    unfold ze2
    rw [List.take_add_one,hk];simp
   rw [this];exact ih
  | some x=>
   rw [zcK hk]
   have:=h x (List.mem_of_getElem? hk)
   unfold JT
   split<;>omega
def zch (rows:List (List Int))(cl:List Int)(k:Nat):Int:=(List.range k).foldl (fun s l=>s+Yn (ZC rows cl l 64 (Vd rows.length))) 0
def zhe (rows:List (List Int))(cl:List Int):Int:=zch rows cl (rows.getD 0 []).length
theorem zfW {rows:List (List Int)}{cl:List Int}{k:Nat}:zch rows cl (k+1)=zch rows cl k+Yn (ZC rows cl k 64 (Vd rows.length)):=by
 unfold zch
 rw [List.range_succ,List.foldl_append];rfl
theorem zfq {rows:List (List Int)}{l:Nat}:0<(Q9 rows l).length:=by
 have:∀ (ns out:List Int),out.length≤(ns.foldl stS out).length:=by
  intro ns
  induction ns with
  | nil=>intro out;simp
  | cons n ns ih=>
   intro out
   refine Nat.le_trans ?_ (ih _)
   unfold stS
   split
   ·
    omega
   ·
    simp
 exact this (rows.map fun r=>r.getD l 0) [0]
end
section
open Go Go.Kn Go.Proofs
def YH (rows:List (List Int))(cl:List Int):Int:=if VM rows≠0 then VM rows else VY rows.length cl
def zdY (rows:List (List Int))(cl:List Int):Int:=if YH rows cl≠0 then 0 else zhe rows cl
theorem zfs {rows:List (List Int)}{cl:List Int}(h:VM rows≠0):YH rows cl=VM rows∧zdY rows cl=0:=by
 have e:YH rows cl=VM rows:=by unfold YH;rw [if_pos h]
 exact ⟨e,by unfold zdY;rw [if_pos (by rw [e];exact h)]⟩
theorem ztL {rows:List (List Int)}{cl:List Int}(h:VM rows=0)(h2:VY rows.length cl≠0):YH rows cl=VY rows.length cl∧zdY rows cl=0:=by
 have e:YH rows cl=VY rows.length cl:=by unfold YH;rw [if_neg (by omega)]
 exact ⟨e,by unfold zdY;rw [if_pos (by rw [e];exact h2)]⟩
theorem zss {rows:List (List Int)}{cl:List Int}(h:VM rows=0)(h2:VY rows.length cl=0):YH rows cl=0∧zdY rows cl=zhe rows cl:=by
 have e:YH rows cl=0:=by unfold YH;rw [if_neg (by omega),h2]
 exact ⟨e,by unfold zdY;rw [if_neg (by omega)]⟩
def zb8 (I:Qu)(hs:List Hd)(vss:List (List Int)):Prop:=hs.length=vss.length∧∀ (k:Nat) (h:Hd) (v:List Int),hs[k]? =some h→vss[k]? =some v→Sl I 1 QR h.a h.n h.c v
theorem zb8.nil {I:Qu}:zb8 I [] []:=⟨rfl,fun k h v a=>by simp at a⟩
theorem zb8.mono {I I':Qu}{hs:List Hd}{vss:List (List Int)}(h:zb8 I hs vss)(hI:HLe I I'):zb8 I' hs vss:=⟨h.1,fun k x v a b=>(h.2 k x v a b).mono hI⟩
theorem zb8.snoc {I:Qu}{hs:List Hd}{vss:List (List Int)}(h:zb8 I hs vss){hd:Hd}{v:List Int}(hV:Sl I 1 QR hd.a hd.n hd.c v):zb8 I (hs++[hd]) (vss++[v]):=by
 refine ⟨by simp [h.1],fun k x y a b=>?_⟩
 rw [List.getElem?_append] at a b
 rw [h.1] at a
 split at a
 ·
  rename_i hk
  rw [if_pos hk] at b
  exact h.2 k x y a b
 ·
  rename_i hk
  rw [if_neg hk] at b
  have e:k-vss.length=0:=by
   cases hd2:k-vss.length with
   | zero=>rfl
   | succ m=>rw [hd2] at a;simp at a
  rw [e] at a b
  simp at a b
  subst a;subst b;exact hV
end
section
open Go Go.Kn Go.Proofs
def zfT (s:Int):Nat:=(List.range 6).foldl (fun c i=>c+s.toNat / 2^i % 2) 0
end
section
open Go Go.Kn Go.Proofs
def zaH (e:Int)(vss:List (List Int)):Value→Qu→Go.Kn.Loc→Prop:=fun v I' L=>L=[]∧∃ av c,v= .tuple #[.slice av vss.length c,.int .i64 e]∧SlN I' av vss.length c vss
theorem SlN.none {I:Qu}:SlN I none 0 0 []:=⟨[],.nil,zb8.nil⟩
theorem zaH.empty {e:Int}{vss:List (List Int)}{I:Qu}(h:vss=[]):zaH e vss (.tuple #[.slice none 0 0,.int .i64 e]) I []:=by
 subst h
 exact ⟨rfl,none,0,rfl,.none⟩
end
section
open Go Go.Kn Go.Proofs
theorem zn2:Fun Tryz.prog 96:=.of Tryz.func96 (by kernel_rfl) (by kernel_rfl)
theorem zt1 {xs:List Int}{x:Int}(hx:xs[0]? =some x):ze2 xs 1=x:=by
 cases xs with
 | nil=>cases hx
 | cons y xs=>cases hx;simp [ze2,JT]
theorem zuC {I:Qu}{av:Option Addr}{n c:Nat}{xs:List Int}(hS:Sl I 1 QR av n c xs)(hn:n≤100000)(h0:0<n):Zw Tryz.prog 96 [.slice av n c] I (.int .i64 (Yn xs)):=by
 intro g H w hw
 refine qe Tryz.func96 Tryz.ntmps96 hw ?_
 obtain ⟨x0,hx0⟩:=hS.at h0
 refine zR (zA (zN (Ql (zR ?_))))
 refine zM ?_
 refine zQ Qy ?_
 refine zC (zN ?_)
 refine zI ?_ ?_<;>intro hc7
 ·
  have h:=hc7;simp at h;omega
 refine Qo (Qa (zR (zM ?_)))
 refine zV (QF rfl rfl Qy (by assumption) (fun hg=>by omega)) ?_
 refine zV (Qd rfl Qs (fun hg=>by exact zx7 (k:=0) hS hx0 rfl)) ?_
 refine zA (zN (Ql (zR ?_)))
 refine zA (zN (Qm ?_))
 refine zU [(0,_)] (fun T L0 mz E I' loc'=>∃ (k:Nat) (m:Int),mz=n-k∧E=(3,.int .i64 m)::(4,.int .i64 k)::T∧I=I'∧L0=loc'∧k≤n∧m=ze2 xs k∧1≤k) ?_ (h:=⟨1,_,rfl,rfl,rfl,rfl,h0,(zt1 hx0).symm,Nat.le_refl _⟩)
 rintro mz E I' loc' ⟨k,m,rfl,rfl,rfl,rfl,hk,hm,hk1⟩
 refine Ql (zR (zM ?_))
 refine zM ?_
 refine zQ Qy ?_
 refine zC (zN ?_)
 refine zI ?_ ?_<;>intro hc15
 ·
  have hlt_k:k<n:=by have h:=hc15;simp at h;omega
  obtain ⟨x,hx⟩:=hS.at hlt_k
  refine Qo (Qa (Ql (Qm (Qg (zM ?_)))))
  refine zM ?_
  refine zM ?_
  refine zV (QF rfl rfl Qy (by assumption) (fun hg=>by omega)) ?_
  refine zV (Qd rfl Qs (fun hg=>by exact zx7 hS hx rfl)) ?_
  refine zV (zmZ rfl rfl) ?_
  refine zA (Qb (Qh (Qa (Qg ?_))))
  refine zM ?_
  refine zB ?_
  refine zA (Qb ?_)
  exact zm (h:=⟨n-(k+1),by omega,k+1,_,rfl,rfl,rfl,rfl,by omega,by rw [zcK hx,hm],by omega⟩)
 have hge_k:n≤k:=by have h:=hc15;simp at h;omega
 have hkn:k=xs.length:=by rw [hS.len];omega
 subst hkn
 refine QI (Qf (Qf (Qk (Qa (zR (zM ?_))))))
 refine zA (zN (Qt ?_))
 first
 | exact zr rfl rfl (by rw [hm];rfl)
theorem zpC {I:Qu}{av:Option Addr}{n c:Nat}{xs:List Int}(hS:Sl I 1 QR av n c xs)(hn:n≤100000)(h0:0<n):Zw Tryz.prog 236 [.slice av n c] I (.int .i64 (Yn xs)):=by
 intro g H w hw
 refine qe Tryz.func236 Tryz.ntmps236 hw ?_
 refine zR (zA ?_)
 refine zN (zR ?_)
 refine zM ?_
 refine qc (vs:=[_]) rfl zn2 (zuC hS hn h0) ?_
 refine zA (zN (Qt ?_))
 exact zr rfl rfl (by rfl)
end
end Go.Proofs.YtodakphagkommaaGreatDoor
namespace Go.Kn
section
open Go
theorem zfZ {C:Cx}{S:GS}{E:Env}{I:Qu}{loc:Loc}{dst:Option Nat}{ty:Nat}{pos:String}{af:Array Edge}{gd:Option (Nat×Bool)}{t e:Nat}{z1 z2 z3 z4 a b c d:Value}{x y:Operand}
  (hT:ArT C.P t 2 e 2)(hz:Yp C.P t (.agg #[z1,z2,z3,z4]))(hx:QA S E x=some (.agg #[a,b]))(hy:QA S E y=some (.agg #[c,d])):
  QT C S E I loc ⟨dst,.build t #[(0,x),(1,y)],ty,pos,af,gd⟩ (.agg #[a,b,c,d]):=
 .of (by intro c e;cases e) fun st w ha hg hc hw=>by
  obtain ⟨hu,i,hi,hs⟩:=hT
  have hsz:∀ w:World,(sizeOf e).run C.P w= .ok 2 w:=fun w=>by have h1:=Go.run_sizeOf (w:=w) hi;have h2:C.P.cellsOf e=2:=(by unfold Program.cellsOf;rw [hi];exact hs);rw [h2] at h1;exact h1
  simp only [execOp,Instr.build,Sem.run_bind,ZQ hz,Result.andThen,run_underlying hu,hsz,List.map_toArray,List.map_cons,List.map_nil,Qj ha hg hc hx,Qj ha hg hc hy]
  rfl
end
end Go.Kn
namespace Go.Proofs.YtodakphagkommaaGreatDoor
section
open Go Go.Kn Go.Proofs
theorem zqO:AgT Tryz.prog 285 4:=.of (by kernel_rfl)
theorem zcN:Ar2 Tryz.prog 79 3 .i64:=⟨by kernel_rfl,by kernel_rfl,by kernel_rfl,by kernel_rfl,by kernel_rfl⟩
theorem zin:ArT Tryz.prog 285 2 79 2:=.of (by kernel_rfl)
theorem zpl:SzT Tryz.prog 285 4:=.of (by kernel_rfl)
theorem zm7:Yp Tryz.prog 285 (.agg #[(.int .i64 0),(.int .i64 0),(.int .i64 0),(.int .i64 0)]):=.of (by kernel_rfl)
theorem JJ:Yp Tryz.prog 79 (.agg #[(.int .i64 0),(.int .i64 0)]):=.of (by kernel_rfl)
theorem zot (I:Qu):Zw Tryz.prog 252 [] I (.agg #[.int .i64 2,.int .i64 1,.int .i64 4,.int .i64 0]):=by
 intro g H w hw
 refine qe Tryz.func252 Tryz.ntmps252 hw ?_
 refine zR ?_
 refine Qr zm7 rfl rfl (fun b_0=>?_)
 refine zN (zR ?_)
 refine zV (zcs zcN JJ rfl rfl) ?_
 refine zV (zcs zcN JJ rfl rfl) ?_
 refine zV (zfZ zin zm7 rfl rfl) ?_
 refine zh zpl ?_
 refine zN (Qt ?_)
 exact KH (vs:=[.int .i64 2,.int .i64 1,.int .i64 4,.int .i64 0]) rfl rfl zqO (by repeat (first | exact zyc | apply zyb)) rfl (fun w hw=>⟨rfl,hw.drop⟩)
end
section
open Go Go.Kn Go.Proofs
theorem WM:AgT Tryz.prog 79 2:=.of (by kernel_rfl)
theorem Yc:ArT Tryz.prog 79 2 3 1:=.of (by kernel_rfl)
theorem zgX:Fun Tryz.prog 251:=.of Tryz.func251 (by kernel_rfl) (by kernel_rfl)
theorem zrw:Fun Tryz.prog 252:=.of Tryz.func252 (by kernel_rfl) (by kernel_rfl)
theorem zjs (n:Int):0≤zbx n∧zbx n<2:=by unfold zbx;split<;>omega
theorem zrK {f t:Int}(h:f≠t):((([.int .i64 2,.int .i64 1,.int .i64 4,.int .i64 0]:List Value).drop ((zbx f).toNat*2)).take 2)[(zbx t).toNat*1]? =some (.int .i64 (Va f t)):=by
 unfold Va zbx
 rw [if_neg h]
 by_cases h1:t=0
 ·
  have h2:¬f=0:=fun e=>h (by rw [e,h1])
  rw [if_pos h1,if_neg h2,if_pos h1];rfl
 rw [if_neg h1,if_neg h1]
 by_cases h2:f=0
 ·
  rw [if_pos h2,if_pos h2];rfl
 rw [if_neg h2,if_neg h2];rfl
theorem zsh (I:Qu)(f t:Int):Zw Tryz.prog 235 [.int .i64 f,.int .i64 t] I (.int .i64 (Va f t)):=by
 intro g H w hw
 refine qe Tryz.func235 Tryz.ntmps235 hw ?_
 refine zR (zA (zN (Ql (zR ?_))))
 refine zM ?_
 refine zM ?_
 refine zC (zN ?_)
 refine zI ?_ ?_<;>intro hc8
 ·
  have heq:f=t:=by simpa using hc8
  refine zR (zA (zN (Qt (Qc ?_))))
  first
  | exact zr rfl rfl (by unfold Va;rw [if_pos heq])
 have hne:f≠t:=by simpa using hc8
 refine Qo (Qa (zR (zA (zN (Ql ?_)))))
 refine YU mixed (by kernel_rfl) ?_
 refine Jj (cap:=[]) (vs:=[]) rfl rfl zrw (zot I) rfl rfl ?_
 refine zq (Qi rfl) ?_
 refine zq (Qi rfl) ?_
 refine Jj (cap:=[]) (vs:=[_]) rfl rfl zgX (zmC I _) rfl rfl ?_
 refine zq (zgf (cs:=[.int .i64 2,.int .i64 1,.int .i64 4,.int .i64 0]) rfl rfl zin WM (fun hg=>zjs _)) ?_
 refine zq (Qi rfl) ?_
 refine zq (Qi rfl) ?_
 refine Jj (cap:=[]) (vs:=[_]) rfl rfl zgX (zmC I _) rfl rfl ?_
 refine zq (JP rfl rfl Yc Qs (fun hg=>zjs _) (fun hg=>zrK hne)) ?_
 refine zq (ZP rfl) ?_
 refine YV ?_
 refine Qa (Qt ?_)
 exact zr rfl rfl (by rfl)
end
section
open Go Go.Kn Go.Proofs
def zoJ:List Int:=[0,1,56,2,57,49,28,3,61,58,42,50,38,29,17,4,62,47,59,36,45,43,51,22,53,39,33,30,24,18,12,5,63,55,48,27,60,41,37,16,46,35,44,21,52,32,23,11,54,26,40,15,34,20,31,10,25,14,19,9,13,8,7,6]
def VI (I:Qu):Prop:=∀ i:Nat,i<64→QU I [] 1 i (.int .u8 (zoJ.getD i 0))
theorem VI.mono {I I':Qu}(h:VI I)(hI:HLe I I'):VI I':=fun i hi=>(h i hi).mono hI
def zw8 (a b:Int):Int:=IntKind.u64.wrap ((BitVec.ofInt 64 a&&& BitVec.ofInt 64 b).toNat:Int)
def zkn (x:Int):Int:=(IntKind.u64.wrap (zw8 x (IntKind.u64.wrap (0-x))*285870213051353865)).fdiv (2^58)
theorem zpS:((List.range 64).all fun s=> !Z6 (s:Int)||(decide (0≤zkn (s:Int))&&decide (zkn (s:Int)<64)&&decide (IntKind.i64.wrap (zoJ.getD (zkn (s:Int)).toNat 0)=(KK (s:Int):Int))))=true:=by kernel_rfl
theorem ztg {s:Int}(hs:1≤s∧s≤63)(h1:Z6 s=true):(0≤zkn s∧zkn s<64)∧IntKind.i64.wrap (zoJ.getD (zkn s).toNat 0)=(KK s:Int):=by
 have h:=List.all_eq_true.1 zpS s.toNat (List.mem_range.2 (by omega))
 rw [show ((s.toNat:Nat):Int)=s by omega,h1] at h
 simpa using h
section
variable {C:Cx} {E:Env} {I:Qu} {loc:Go.Kn.Loc} {S:GS} {dst:Option Tmp} {ty:TypeId} {pos:String} {af:Array Edge} {gd:Option (Nat×Bool)} {x y:Operand} {a b:Int}
theorem zoW {t t':TypeId}(hx:QA S E x=some (.int .u64 a))(hy:QA S E y=some (.int .u64 b)):QT C S E I loc ⟨dst,.binOp .and t x y t',ty,pos,af,gd⟩ (.int .u64 (zw8 a b)):=
 .of (by intro c e;cases e) fun ac w ha hg hc _=>by
  simp only [execOp,Qj ha hg hc hx,Qj ha hg hc hy,Sem.run_bind,ZJ,Result.andThen,binOp,ne_eq,not_true_eq_false,if_false,Op.intBits,Sem.run_pure,zw8,IntKind.bits];rfl
end
/-! ### Maps of costs -/
def eiv:Int→Value:=Value.int .i64
structure Ut (m:List (Int×Int))(g:Int→Option Int):Prop where
 nd:(m.map (·.1)).Nodup
 get:∀ x,Zy m x=g x
theorem Ut.nil:Ut [] (fun _=>none):=⟨.nil,fun _=>rfl⟩
theorem Ut.set {m:List (Int×Int)}{g:Int→Option Int}(h:Ut m g)(x v:Int):Ut (Ys m x v) (fun y=>if x=y then some v else g y):=
 ⟨Wu _ _ h.nd,fun y=>by rw [YE,h.get]⟩
theorem Ut.congr {m:List (Int×Int)}{g g':Int→Option Int}(h:Ut m g)(e:∀ x,g x=g' x):Ut m g':=⟨h.nd,fun x=>by rw [h.get,e]⟩
theorem Ut.mem {m:List (Int×Int)}{g:Int→Option Int}(h:Ut m g){p:Int×Int}(hp:p∈m):g p.1=some p.2:=by rw [←h.get];exact zbK h.nd hp
def ziY {α:Type}(m:List α)(seen:List Nat):List α:=seen.filterMap fun i=>m[i]?
theorem zaQ {α:Type}{m:List α}{seen:List Nat}{i:Nat}{p:α}(hp:m[i]? =some p):ziY m (seen++[i])=ziY m seen++[p]:=by
 unfold ziY;rw [List.filterMap_append];simp [hp]
theorem zdx {α:Type}{m:List α}{seen:List Nat}(hnd:seen.Nodup)(hlt:∀ i∈seen,i<m.length)(hall:∀ i (p:α),m[i]? =some p→i∈seen):(ziY m seen).Perm m:=by
 have h1:=(XJ hnd hlt hall).filterMap (fun i=>m[i]?)
 rw [zcW] at h1
 exact h1
theorem zji {α:Type}{m:List α}{seen:List Nat}{p:α}:p∈ziY m seen↔ ∃ i∈seen,m[i]? =some p:=by unfold ziY;rw [List.mem_filterMap]
theorem JH {seen:List Nat}{i n:Nat}(hnd:seen.Nodup)(hlt:∀ i∈seen,i<n)(hs:i∉seen)(hi:i<n):(seen++[i]).Nodup∧(∀ j∈seen++[i],j<n)∧(seen++[i]).length≤n:=by
 have h1:(seen++[i]).Nodup:=List.nodup_append.2 ⟨hnd,by simp,fun a ha b hb e=>hs (by simp at hb;subst hb;subst e;exact ha)⟩
 have h2:∀ j∈seen++[i],j<n:=fun j hj=>(List.mem_append.1 hj).elim (hlt j) (fun h=>by simp at h;subst h;exact hi)
 refine ⟨h1,h2,?_⟩
 have:=Jh (m:=List.range n) h1 (by simpa using h2)
 simpa using this
/-! ### The least, in whatever order -/
theorem W9:∀ (xs:List Int) (b:Int),(∀ x∈xs,xs.foldl JT b≤x)∧xs.foldl JT b≤b∧(xs.foldl JT b=b∨xs.foldl JT b∈xs)
 | [],b=>⟨fun x h=>by simp at h,Int.le_refl _,.inl rfl⟩
 | y::xs,b=>by
  obtain ⟨h1,h2,h3⟩:=W9 xs (JT b y)
  simp only [List.foldl_cons]
  have hb:JT b y≤b∧JT b y≤y∧(JT b y=b∨JT b y=y):=by unfold JT;split<;>omega
  refine ⟨fun x hx=>?_,by omega,?_⟩
  ·
   rcases List.mem_cons.1 hx with rfl | hx
   ·
    omega
   ·
    exact h1 x hx
  ·
   rcases h3 with h3 | h3
   ·
    rcases hb.2.2 with e | e
    ·
     left;rw [h3,e]
    ·
     right;rw [h3,e];exact List.mem_cons_self ..
   ·
    right;exact List.mem_cons_of_mem _ h3
theorem za0 {xs:List Int}(h:xs≠[]):Yn xs∈xs∧∀ x∈xs,Yn xs≤x:=by
 cases xs with
 | nil=>exact absurd rfl h
 | cons y xs=>
  unfold Yn ze2
  rw [List.take_length]
  have e:(y::xs).getD 0 0=y:=rfl
  rw [e]
  obtain ⟨h1,h2,h3⟩:=W9 (y::xs) y
  refine ⟨?_,h1⟩
  rcases h3 with h3 | h3
  ·
   rw [h3];exact List.mem_cons_self ..
  ·
   exact h3
theorem ze4 {xs:List Int}{v:Int}(h:v∈xs)(h2:∀ x∈xs,v≤x):Yn xs=v:=by
 obtain ⟨h3,h4⟩:=za0 (List.ne_nil_of_mem h)
 have a:=h4 v h
 have b:=h2 _ h3
 omega
theorem zci (st cs:List Int)(s:Int)(k:Nat):zaY st cs s k=((List.range k).map fun i=>Va s (st.getD i 0)+cs.getD i 0).foldl JT 1048576:=by
 unfold zaY;rw [List.foldl_map]
structure zdg (st cs:List Int)(b:Int)(m:List (Int×Int)):Prop where
 len:cs.length=st.length
 nd:(m.map (·.1)).Nodup
 get:∀ (i:Nat) (x c:Int),st[i]? =some x→cs[i]? =some c→Zy m x=if c<1048576 then some c else none
 old:∀ p∈m,p.1∈st
 pos:∃ c∈cs,c<1048576
 le:∀ c∈cs,0≤c∧(c<1048576→c≤b)∧c≤1048576
theorem zdg.ne {st cs:List Int}{b:Int}{m:List (Int×Int)}(h:zdg st cs b m):0<m.length:=by
 obtain ⟨c,hc,hlt⟩:=h.pos
 obtain ⟨i,hi⟩:=List.getElem?_of_mem hc
 have hil:=(List.getElem?_eq_some_iff.1 hi).1
 have hx:st[i]? =some (st[i]'(by rw [←h.len];exact hil)):=List.getElem?_eq_getElem _
 have:=h.get i _ c hx hi
 rw [if_pos hlt] at this
 exact List.length_pos_of_mem (KT this)
theorem zdg.ent {st cs:List Int}{b:Int}{m:List (Int×Int)}(h:zdg st cs b m){x c:Int}:(x,c)∈m↔ ∃ i:Nat,st[i]? =some x∧cs[i]? =some c∧c<1048576:=by
 constructor
 ·
  intro hm
  obtain ⟨i,hi⟩:=List.getElem?_of_mem (h.old _ hm)
  have hil:=(List.getElem?_eq_some_iff.1 hi).1
  have hc:cs[i]? =some (cs[i]'(by rw [h.len];exact hil)):=List.getElem?_eq_getElem _
  have hg:=h.get i x _ hi hc
  rw [zbK h.nd hm] at hg
  split at hg
  ·
   rename_i hlt
   cases hg
   exact ⟨i,hi,hc,hlt⟩
  ·
   cases hg
 ·
  rintro ⟨i,h1,h2,h3⟩
  have:=h.get i x c h1 h2
  rw [if_pos h3] at this
  exact KT this
theorem KU {st cs:List Int}{b:Int}{m vs:List (Int×Int)}(h:zdg st cs b m)(hb:b≤1000)(hp:vs.Perm m)(s:Int):Yn (vs.map fun p=>p.2+Va s p.1)=Yv st cs s∧0≤Yv st cs s∧Yv st cs s≤b+4∧∀ p∈vs,0≤p.2∧p.2≤b:=by
 have hsm:∀ p∈m,0≤p.2∧p.2≤b:=fun p hp=>by
  obtain ⟨i,_,h2,h3⟩:=(h.ent (x:=p.1) (c:=p.2)).1 hp
  have:=h.le _ (List.mem_of_getElem? h2)
  exact ⟨this.1,this.2.1 h3⟩
 have hlow:∀ p∈m,Yv st cs s≤p.2+Va s p.1:=fun p hp=>by
  obtain ⟨i,h1,h2,h3⟩:=(h.ent (x:=p.1) (c:=p.2)).1 hp
  unfold Yv
  rw [zci]
  have hil:=(List.getElem?_eq_some_iff.1 h1).1
  have:=(W9 ((List.range st.length).map fun i=>Va s (st.getD i 0)+cs.getD i 0) 1048576).1 (Va s p.1+p.2) (List.mem_map.2 ⟨i,List.mem_range.2 hil,by rw [Q1 h1,Q1 h2]⟩)
  omega
 have hne:m≠[]:=fun e=>by have:=h.ne;rw [e] at this;simp at this
 obtain ⟨q,hq⟩:=List.exists_mem_of_ne_nil m hne
 have hq1:=hlow q hq
 have hq2:=hsm q hq
 have hq3:=Ud s q.1
 have hmem:∃ p∈m,Yv st cs s=p.2+Va s p.1:=by
  have h3:=(W9 ((List.range st.length).map fun i=>Va s (st.getD i 0)+cs.getD i 0) 1048576).2.2
  rw [←zci] at h3
  rcases h3 with h3 | h3
  ·
   have:Yv st cs s=1048576:=h3
   omega
  ·
   obtain ⟨i,hi,e⟩:=List.mem_map.1 h3
   have hi:=List.mem_range.1 hi
   have h1:st[i]? =some (st.getD i 0):=Zk rfl hi
   have h2:cs[i]? =some (cs.getD i 0):=Zk rfl (by rw [h.len];exact hi)
   have hst:=Ud s (st.getD i 0)
   have e:Va s (st.getD i 0)+cs.getD i 0=Yv st cs s:=e
   exact ⟨(st.getD i 0,cs.getD i 0),h.ent.2 ⟨i,h1,h2,by omega⟩,by show _=cs.getD i 0+Va s (st.getD i 0);omega⟩
 obtain ⟨p,hpm,he⟩:=hmem
 have hp2:=hsm p hpm
 have hp3:=Ud s p.1
 refine ⟨ze4 (List.mem_map.2 ⟨p,hp.mem_iff.2 hpm,he.symm⟩) (fun x hx=>?_),by omega,by omega,fun p hp'=>hsm p (hp.mem_iff.1 hp')⟩
 obtain ⟨r,hr,rfl⟩:=List.mem_map.1 hx
 exact hlow r (hp.mem_iff.1 hr)
end
section
open Go Go.Kn Go.Proofs
def Jn (c a:Nat):Bool:=c&&& a==c
theorem JL {c a s:Nat}(h:Jn c a=true)(g:Jn a s=true):Jn c s=true:=by
 unfold Jn at*
 rw [beq_iff_eq] at*
 calc c&&& s=(c&&& a)&&& s:=by rw [h]
  _=c&&& (a&&& s):=Nat.and_assoc ..
  _=c:=by rw [g,h]
theorem Xg {c a b:Nat}(h:Jn c a=true)(g:Jn c b=true)(e:b&&& a=0):c=0:=by
 unfold Jn at*
 rw [beq_iff_eq] at*
 calc c=(c&&& b)&&& a:=by rw [g,h]
  _=c&&& (b&&& a):=Nat.and_assoc ..
  _=0:=by rw [e];exact Nat.and_zero _
theorem Xd (a:Nat):Jn a a=true:=by unfold Jn;rw [Nat.and_self];exact beq_self_eq_true _
theorem zmv {a b:Nat}(h:Jn a b=true)(g:Jn b a=true):a=b:=by
 unfold Jn at*
 rw [beq_iff_eq] at*
 calc a=a&&& b:=h.symm
  _=b&&& a:=Nat.and_comm ..
  _=b:=g
theorem zaJ {a b:Nat}(h:Jn a b=true):a≤b:=by
 unfold Jn at h
 rw [beq_iff_eq] at h
 rw [←h];exact Nat.and_le_right
theorem zma:((List.range 64).all fun s=>(List.range 64).all fun a=> !Jn a s||((((s-a)&&& a)==0)&&Jn (s-a) s&&(zfT (a:Int)+zfT ((s-a:Nat):Int)==zfT (s:Int))))=true:=by kernel_rfl
theorem zbC {s a:Nat}(hs:s<64)(ha:a<64)(h:Jn a s=true):(s-a)&&& a=0∧Jn (s-a) s=true∧zfT (a:Int)+zfT ((s-a:Nat):Int)=zfT (s:Int):=by
 have h0:=List.all_eq_true.1 zma s (List.mem_range.2 hs)
 have h0:=List.all_eq_true.1 h0 a (List.mem_range.2 ha)
 rw [h] at h0
 simpa [and_assoc] using h0
theorem zlH:((List.range 64).all fun s=>(List.range 64).all fun a=>K4 (a:Int) (s:Int)==((a&&& s:Nat):Int))=true:=by kernel_rfl
theorem zrd {s a:Nat}(hs:s<64)(ha:a<64):K4 (a:Int) (s:Int)=((a&&& s:Nat):Int):=by
 have h0:=List.all_eq_true.1 zlH s (List.mem_range.2 hs)
 have h0:=List.all_eq_true.1 h0 a (List.mem_range.2 ha)
 exact eq_of_beq h0
theorem zqG {s a:Int}(hs:0≤s∧s≤63)(ha:0≤a∧a≤63):(K4 a s==a)=Jn a.toNat s.toNat:=by
 have h:=zrd (s:=s.toNat) (a:=a.toNat) (by omega) (by omega)
 rw [show ((s.toNat:Nat):Int)=s by omega,show ((a.toNat:Nat):Int)=a by omega] at h
 unfold Jn
 rw [h,Bool.eq_iff_iff,beq_iff_eq,beq_iff_eq]
 omega
def zio (s:Nat):Nat:=(K4 (s:Int) (IntKind.i64.wrap (0-(s:Int)))).toNat
theorem zry:((List.range 64).all fun s=>s==0||(Jn (zio s) s&&decide (1≤zio s)&&(K4 (s:Int) (IntKind.i64.wrap (0-(s:Int)))==(zio s:Int))&&(!Z6 (s:Int)||(zio s==s&&zfT (s:Int)==1))))=true:=by kernel_rfl
theorem X0 {s:Nat}(h0:1≤s)(hs:s<64):Jn (zio s) s=true∧1≤zio s∧K4 (s:Int) (IntKind.i64.wrap (0-(s:Int)))=(zio s:Int)∧(Z6 (s:Int)=true→zio s=s∧zfT (s:Int)=1):=by
 have h:=List.all_eq_true.1 zry s (List.mem_range.2 hs)
 have hne:(s==0)=false:=by simp;omega
 rw [hne,Bool.false_or] at h
 simp only [Bool.and_eq_true,Bool.or_eq_true,decide_eq_true_eq,beq_iff_eq,Bool.not_eq_true'] at h
 refine ⟨h.1.1.1,h.1.1.2,h.1.2,fun e=>?_⟩
 rcases h.2 with h | h
 ·
  rw [e] at h;cases h
 ·
  exact h
theorem zql:((List.range 7).all fun n=>n==0||((List.range 64).all fun s=> !decide ((s:Int)≤Vd (n:Int))||Jn s (Vd (n:Int)).toNat)&&(zfT (Vd (n:Int))==n))=true:=by kernel_rfl
theorem zgP {n:Nat}(h1:1≤n)(h6:n≤6):(∀ s:Nat,s<64→(s:Int)≤Vd (n:Int)→Jn s (Vd (n:Int)).toNat=true)∧zfT (Vd (n:Int))=n:=by
 have h:=List.all_eq_true.1 zql n (List.mem_range.2 (by omega))
 have hne:(n==0)=false:=by simp;omega
 rw [hne,Bool.false_or,Bool.and_eq_true] at h
 refine ⟨fun s hs hle=>?_,eq_of_beq h.2⟩
 have:=List.all_eq_true.1 h.1 s (List.mem_range.2 hs)
 simpa [hle] using this
/-! ### Counting -/
def wN (p:Int→Bool)(cl:List Int):Nat:=(cl.map fun c=>if p c then 1 else 0).sum
def inS (s:Int)(c:Int):Bool:=Jn c.toNat s.toNat
theorem zen {f g:Int→Nat}:∀ {cl:List Int},(∀ c∈cl,f c≤g c)→(cl.map f).sum≤(cl.map g).sum
 | [],_=>Nat.le_refl _
 | c::cl,h=>by
  have h1:=h c (List.mem_cons_self ..)
  have h2:=zen (f:=f) (g:=g) (cl:=cl) fun x hx=>h x (List.mem_cons_of_mem _ hx)
  simp only [List.map_cons,List.sum_cons];omega
theorem znm {f g:Int→Nat}:∀ {cl:List Int},(∀ c∈cl,f c≤g c)→(cl.map g).sum≤(cl.map f).sum→∀ c∈cl,f c=g c
 | [],_,_=>fun c hc=>by cases hc
 | x::cl,h,hs=>by
  have h1:=h x (List.mem_cons_self ..)
  have h2:=zen (f:=f) (g:=g) (cl:=cl) fun x hx=>h x (List.mem_cons_of_mem _ hx)
  simp only [List.map_cons,List.sum_cons] at hs
  intro c hc
  rcases List.mem_cons.1 hc with rfl | hc
  ·
   omega
  ·
   exact znm (f:=f) (g:=g) (cl:=cl) (fun x hx=>h x (List.mem_cons_of_mem _ hx)) (by omega) c hc
theorem Wp {f g:Int→Nat}(cl:List Int):(cl.map fun c=>f c+g c).sum=(cl.map f).sum+(cl.map g).sum:=by
 induction cl with
 | nil=>rfl
 | cons c cl ih=>simp only [List.map_cons,List.sum_cons,ih];omega
theorem znP {s:Int}{cl:List Int}(h:s∈cl):1≤(cl.map fun c=>if c=s then 1 else 0).sum:=by
 induction cl with
 | nil=>cases h
 | cons c cl ih=>
  simp only [List.map_cons,List.sum_cons]
  rcases List.mem_cons.1 h with rfl | h
  ·
   rw [if_pos rfl];omega
  ·
   have:=ih h;omega
section
variable {n:Nat} {cl:List Int} (hc:VY n cl=0)
include hc
theorem zgg {s:Int}(h:OkS n cl s):1≤s∧s≤63:=⟨h.1,Int.le_trans h.2.1 (zaD (n:=(n:Int)) ⟨(ZW hc).1,(ZW hc).2.1⟩).2⟩
theorem zrg {s:Int}(h:s∈cl):OkS n cl s:=by
 obtain ⟨h1,h6,hlen,hin⟩:=ZW hc
 have h63:=hin s h
 refine ⟨h63.1,?_,by unfold WV;rw [Bool.or_eq_true];left;rw [List.any_eq_true];exact ⟨s,h,by simp⟩⟩
 obtain ⟨k,hk⟩:=List.getElem?_of_mem h
 have h4:(List.range cl.length).all (Kj (Vd n) cl)=true:=by
  have h:=hc
  unfold VY at h
  repeat (split at h; · cases h)
  rename_i h3 _ _
  simpa using h3
 exact (zaZ h4 hk).2
theorem V5 {s:Int}(h:OkS n cl s)(h1:Z6 s=false):s∈cl∧OkS n cl (Qx cl s)∧OkS n cl (s-Qx cl s)∧1≤Qx cl s∧Qx cl s<s∧Jn (Qx cl s).toNat s.toNat=true∧zrM (Qx cl s) s=true:=by
 have hle:=zgg hc h
 have hin:s∈cl:=by
  have h4:=h.2.2
  unfold WV at h4
  rw [h1,Bool.or_false,List.any_eq_true] at h4
  obtain ⟨c,hc2,e⟩:=h4
  have:c=s:=by simpa using e
  exact this ▸ hc2
 have hz:(K4 s (IntKind.i64.wrap (s-1))==0)=false:=by
  unfold Z6 at h1
  rw [decide_eq_true (show s>0 by omega),Bool.true_and] at h1
  exact h1
 obtain ⟨o1,o2,o3,o4⟩:=zlM hc h hz
 obtain ⟨a1,a2,a3⟩:=Wq (KS hc s hin) (Nat.le_refl 1)
 have a3:Jb cl s (Qx cl s)=true:=a3
 unfold Jb at a3
 simp only [Bool.and_eq_true] at a3
 refine ⟨hin,o1,o2,o3,o4,?_,a3.1.1.2⟩
 rw [←zqG (by omega) (by omega)]
 exact a3.1.1.1
theorem zbQ:∀ (m:Nat) (s:Int),s.toNat≤m→OkS n cl s→zfT s≤wN (inS s) cl+1
 | 0,s,hm,h=>by have:=h.1;omega
 | m+1,s,hm,h=>by
  have hle:=zgg hc h
  cases h1:Z6 s with
  | true=>
   have:=(X0 (s:=s.toNat) (by omega) (by omega)).2.2.2
   rw [show ((s.toNat:Nat):Int)=s by omega] at this
   have:=(this h1).2
   omega
  | false=>
   obtain ⟨hin,o1,o2,o3,o4,o5,_⟩:=V5 hc h h1
   have i1:=zbQ m _ (by omega) o1
   have i2:=zbQ m _ (by omega) o2
   obtain ⟨q1,q2,q3⟩:=zbC (by omega) (by omega) o5
   rw [show (((Qx cl s).toNat:Nat):Int)=Qx cl s by omega,show ((s.toNat -(Qx cl s).toNat:Nat):Int)=s-Qx cl s by omega,show ((s.toNat:Nat):Int)=s by omega] at q3
   have hone:=znP hin
   have hpt:∀ c∈cl,((if c=s then 1 else 0)+((if inS (Qx cl s) c then 1 else 0)+(if inS (s-Qx cl s) c then 1 else 0)):Nat)≤if inS s c then 1 else 0:=fun c hcm=>by
    have hcle:=(ZW hc).2.2.2 c hcm
    unfold inS
    by_cases e:c=s
    ·
     subst e
     rw [if_pos rfl,if_pos (Xd _),if_neg,if_neg]
     ·
      omega
     ·
      intro g;have:=zaJ g;omega
     ·
      intro g;have:=zaJ g;omega
    ·
     rw [if_neg e]
     by_cases g1:Jn c.toNat (Qx cl s).toNat=true
     ·
      rw [if_pos g1,if_pos (JL g1 o5),if_neg]
      ·
       omega
      ·
       intro g2
       have g2:Jn c.toNat (s.toNat -(Qx cl s).toNat)=true:=by rw [←show (s-Qx cl s).toNat=s.toNat -(Qx cl s).toNat by omega];exact g2
       have:=Xg g1 g2 q1
       omega
     ·
      rw [if_neg g1]
      by_cases g2:Jn c.toNat (s-Qx cl s).toNat=true
      ·
       rw [if_pos g2,if_pos (JL (by rw [show s.toNat -(Qx cl s).toNat=(s-Qx cl s).toNat by omega] at q2;exact g2) (by rw [show (s-Qx cl s).toNat=s.toNat -(Qx cl s).toNat by omega];exact q2))]
       omega
      ·
       rw [if_neg g2];omega
   have hs:=zen hpt
   rw [Wp,Wp] at hs
   unfold wN at*
   omega
def zog (n:Nat)(cl:List Int)(s:Int):Prop:=OkS n cl s∧wN (inS s) cl+1=zfT s
theorem zkT:zog n cl (Vd n):=by
 obtain ⟨h1,h6,hlen,hin⟩:=ZW hc
 obtain ⟨g1,g2⟩:=zgP (n:=n) (by omega) (by omega)
 refine ⟨zjC hc,?_⟩
 have:wN (inS (Vd n)) cl=cl.length:=by
  unfold wN
  have:∀ l:List Int,(∀ c∈l,c∈cl)→(l.map fun c=>if inS (Vd n) c then 1 else 0).sum=l.length:=by
   intro l
   induction l with
   | nil=>intro _;rfl
   | cons c l ih=>
    intro hl
    have hcm:=hl c (List.mem_cons_self ..)
    have hle:=hin c hcm
    have:=(zrg hc hcm).2.1
    simp only [List.map_cons,List.sum_cons,List.length_cons,ih fun x hx=>hl x (List.mem_cons_of_mem _ hx)]
    have hs:inS (Vd n) c=true:=g1 c.toNat (by omega) (by omega)
    rw [if_pos hs];omega
  exact this cl fun _ h=>h
 omega
theorem zcY {s:Int}(h:zog n cl s)(h1:Z6 s=false):zog n cl (Qx cl s)∧zog n cl (s-Qx cl s)∧∀ c∈cl,inS s c=true→c=s∨inS (Qx cl s) c=true∨inS (s-Qx cl s) c=true:=by
 have hle:=zgg hc h.1
 obtain ⟨hin,o1,o2,o3,o4,o5,_⟩:=V5 hc h.1 h1
 obtain ⟨q1,q2,q3⟩:=zbC (by omega) (by omega) o5
 rw [show (((Qx cl s).toNat:Nat):Int)=Qx cl s by omega,show ((s.toNat -(Qx cl s).toNat:Nat):Int)=s-Qx cl s by omega,show ((s.toNat:Nat):Int)=s by omega] at q3
 have hone:=znP hin
 have i1:=zbQ hc _ _ (Nat.le_refl _) o1
 have i2:=zbQ hc _ _ (Nat.le_refl _) o2
 have hpt:∀ c∈cl,((if c=s then 1 else 0)+((if inS (Qx cl s) c then 1 else 0)+(if inS (s-Qx cl s) c then 1 else 0)):Nat)≤if inS s c then 1 else 0:=fun c hcm=>by
  have hcle:=(ZW hc).2.2.2 c hcm
  unfold inS
  by_cases e:c=s
  ·
   subst e
   rw [if_pos rfl,if_pos (Xd _),if_neg,if_neg]
   ·
    omega
   ·
    intro g;have:=zaJ g;omega
   ·
    intro g;have:=zaJ g;omega
  ·
   rw [if_neg e]
   by_cases g1:Jn c.toNat (Qx cl s).toNat=true
   ·
    rw [if_pos g1,if_pos (JL g1 o5),if_neg]
    ·
     omega
    ·
     intro g2
     have g2:Jn c.toNat (s.toNat -(Qx cl s).toNat)=true:=by rw [←show (s-Qx cl s).toNat=s.toNat -(Qx cl s).toNat by omega];exact g2
     have:=Xg g1 g2 q1
     omega
   ·
    rw [if_neg g1]
    by_cases g2:Jn c.toNat (s-Qx cl s).toNat=true
    ·
     rw [if_pos g2,if_pos (JL (by rw [show s.toNat -(Qx cl s).toNat=(s-Qx cl s).toNat by omega] at q2;exact g2) (by rw [show (s-Qx cl s).toNat=s.toNat -(Qx cl s).toNat by omega];exact q2))]
     omega
    ·
     rw [if_neg g2];omega
 have hs:=zen hpt
 rw [Wp,Wp] at hs
 have hf:=h.2
 refine ⟨⟨o1,?_⟩,⟨o2,?_⟩,fun c hcm hsc=>?_⟩
 ·
  unfold wN at*;omega
 ·
  unfold wN at*;omega
 ·
  have he:=znm hpt (by rw [Wp,Wp];unfold wN at*;omega) c hcm
  by_cases e:c=s
  ·
   exact .inl e
  ·
   rw [if_neg e,if_pos hsc] at he
   by_cases g1:inS (Qx cl s) c=true
   ·
    exact .inr (.inl g1)
   ·
    rw [if_neg g1] at he
    by_cases g2:inS (s-Qx cl s) c=true
    ·
     exact .inr (.inr g2)
    ·
     rw [if_neg g2] at he;omega
theorem zdH:∀ (m:Nat) (s:Int),s.toNat≤m→zog n cl s→∀ c∈cl,inS s c=true→zog n cl c
 | 0,s,hm,h=>by have:=h.1.1;omega
 | m+1,s,hm,h=>fun c hcm hsc=>by
  have hle:=zgg hc h.1
  have hcle:=(ZW hc).2.2.2 c hcm
  by_cases e:c=s
  ·
   exact e ▸ h
  ·
   cases h1:Z6 s with
   | true=>
    have:=(X0 (s:=s.toNat) (by omega) (by omega)).2.2.2
    rw [show ((s.toNat:Nat):Int)=s by omega] at this
    have hp:=(this h1).2
    have hf:=h.2
    have hz:∀ l:List Int,c∈l→1≤wN (inS s) l:=by
     intro l
     induction l with
     | nil=>intro h;cases h
     | cons x l ih=>
      intro hx
      unfold wN at*
      simp only [List.map_cons,List.sum_cons]
      rcases List.mem_cons.1 hx with rfl | hx
      ·
       rw [if_pos hsc];omega
      ·
       have:=ih hx;omega
    have:=hz cl hcm
    omega
   | false=>
    obtain ⟨f1,f2,f3⟩:=zcY hc h h1
    obtain ⟨_,o1,o2,o3,o4,_,_⟩:=V5 hc h.1 h1
    rcases f3 c hcm hsc with e' | g | g
    ·
     exact absurd e' e
    ·
     exact zdH m _ (by omega) f1 c hcm g
    ·
     exact zdH m _ (by omega) f2 c hcm g
theorem zod {c:Int}(h:c∈cl):zog n cl c:=by
 obtain ⟨h1,h6,hlen,hin⟩:=ZW hc
 have hle:=hin c h
 exact zdH hc _ _ (Nat.le_refl _) (zkT hc) c h ((zgP (n:=n) (by omega) (by omega)).1 c.toNat (by omega) (by have:=(zrg hc h).2.1;omega))
theorem zgm {s a:Int}(hs:s∈cl)(h1:Z6 s=false)(ha:1≤a∧a<s)(h:Jb cl s a=true):a=Qx cl s:=by
 have hle:=(ZW hc).2.2.2 s hs
 obtain ⟨_,_,f3⟩:=zcY hc (zod hc hs) h1
 obtain ⟨_,o1,o2,o3,o4,o5,o6⟩:=V5 hc (zrg hc hs) h1
 obtain ⟨q1,q2,q3⟩:=zbC (by omega) (by omega) o5
 generalize Qx cl s=b at*
 unfold Jb at h
 simp only [Bool.and_eq_true] at h
 obtain ⟨⟨⟨k1,k2⟩,k3⟩,k4⟩:=h
 rw [zqG (by omega) (by omega)] at k1
 obtain ⟨p1,p2,p3⟩:=zbC (by omega) (by omega) k1
 have la:=X0 (s:=a.toNat) (by omega) (by omega)
 have lb:=X0 (s:=b.toNat) (by omega) (by omega)
 have ls:=X0 (s:=s.toNat) (by omega) (by omega)
 rw [show ((a.toNat:Nat):Int)=a by omega] at la
 rw [show ((b.toNat:Nat):Int)=b by omega] at lb
 rw [show ((s.toNat:Nat):Int)=s by omega] at ls
 unfold zrM at k2 o6
 rw [beq_iff_eq,la.2.2.1,ls.2.2.1] at k2
 rw [beq_iff_eq,lb.2.2.1,ls.2.2.1] at o6
 have eab:zio a.toNat=zio b.toNat:=by omega
 have esb:(s-b).toNat=s.toNat -b.toNat:=by omega
 have esa:(s-a).toNat=s.toNat -a.toNat:=by omega
 -- a lies YK b
 have hab:Jn a.toNat b.toNat=true:=by
  cases hsa:Z6 a with
  | true=>
   have:=(la.2.2.2 hsa).1
   rw [←this,eab];exact lb.1
  | false=>
   unfold WV at k3
   rw [hsa,Bool.or_false,List.any_eq_true] at k3
   obtain ⟨c,hcm,e⟩:=k3
   have:c=a:=by simpa using e
   subst this
   rcases f3 c hcm k1 with e | g | g
   ·
    omega
   ·
    exact g
   ·
    exfalso
    have g:Jn c.toNat (s.toNat -b.toNat)=true:=by rw [←esb];exact g
    have:=Xg (JL (eab ▸ la.1:Jn (zio b.toNat) c.toNat=true) g) lb.1 (by rw [Nat.and_comm];exact q1)
    have:=la.2.1
    omega
 have hle2:=zaJ hab
 -- what is left of b lies YK what is left of a
 have hbb:Jn (s.toNat -b.toNat) (s.toNat -a.toNat)=true:=by
  by_cases e:(s.toNat -b.toNat)<64∧(s.toNat -a.toNat)<64
  ·
   have:∀ x y z:Nat,x<64→y<64→z<64→Jn x z=true→Jn y z=true→Jn x y=true→Jn (z-y) (z-x)=true:=by
    intro x y z _ _ hz hx hy hxy
    have e1:∀ u v:Nat,v<64→Jn u v=true→v-u=v^^^u:=by
     intro u v hv hu
     have hu64:u<64:=Nat.lt_of_le_of_lt (zaJ hu) hv
     have ht:((List.range 64).all fun v=>(List.range 64).all fun u=> !Jn u v||(v-u==v^^^u))=true:=by kernel_rfl
     have h0:=List.all_eq_true.1 ht v (List.mem_range.2 hv)
     have h0:=List.all_eq_true.1 h0 u (List.mem_range.2 hu64)
     rw [hu] at h0
     simpa using h0
    rw [e1 _ _ hz hy,e1 _ _ hz hx]
    unfold Jn at*
    rw [beq_iff_eq] at*
    apply Nat.eq_of_testBit_eq
    intro i
    have t1:=congrArg (fun q=>Nat.testBit q i) hx
    have t2:=congrArg (fun q=>Nat.testBit q i) hy
    have t3:=congrArg (fun q=>Nat.testBit q i) hxy
    simp only [Nat.testBit_and,Nat.testBit_xor] at*
    revert t1 t2 t3
    cases x.testBit i<;>cases y.testBit i<;>cases z.testBit i<;>simp
   exact this a.toNat b.toNat s.toNat (by omega) (by omega) (by omega) k1 o5 hab
  ·
   omega
 have hpos:1≤s.toNat -b.toNat:=by omega
 have hba:Jn (s.toNat -a.toNat) (s.toNat -b.toNat)=true:=by
  cases hsa:Z6 (s-a) with
  | true=>
   have l1:=X0 (s:=s.toNat -a.toNat) (by omega) (by omega)
   have l2:=X0 (s:=s.toNat -b.toNat) (by omega) (by omega)
   rw [show ((s.toNat -a.toNat:Nat):Int)=s-a by omega] at l1
   have l3:=(l1.2.2.2 hsa).2
   -- one witness: what lies YK it is it
   have ht:((List.range 64).all fun v=>(List.range 64).all fun u=> !Jn u v||u==0|| !(zfT (v:Int)==1)||(v==u))=true:=by kernel_rfl
   have h0:=List.all_eq_true.1 ht (s.toNat -a.toNat) (List.mem_range.2 (by omega))
   have h0:=List.all_eq_true.1 h0 (s.toNat -b.toNat) (List.mem_range.2 (by omega))
   rw [hbb,show ((s.toNat -a.toNat:Nat):Int)=s-a by omega,l3,show ((s.toNat -b.toNat)==0)=false by simp;omega] at h0
   have h0:s.toNat -a.toNat=s.toNat -b.toNat:=by simpa using h0
   rw [h0];exact Xd _
  | false=>
   unfold WV at k4
   rw [hsa,Bool.or_false,List.any_eq_true] at k4
   obtain ⟨c,hcm,e⟩:=k4
   have:c=s-a:=by simpa using e
   subst this
   rcases f3 _ hcm (by unfold inS;rw [esa];exact p2) with e | g | g
   ·
    omega
   ·
    exfalso
    unfold inS at g
    rw [esa] at g
    have:=Xg (JL hbb g) (Xd (s.toNat -b.toNat)) q1
    omega
   ·
    unfold inS at g
    rw [esa,esb] at g;exact g
 have:=zmv hbb hba
 omega
omit hc in
theorem zlS {s a:Int} (h0:0≤s):a∈zrh s.toNat→(1≤a∧a<s)∧K4 a s=a:=fun h=>by
 unfold zrh at h
 obtain ⟨h1,h2⟩:=List.mem_filter.1 h
 obtain ⟨k,hk,rfl⟩:=List.mem_map.1 h1
 have:=List.mem_range'_1.1 hk
 rw [show ((s.toNat:Nat):Int)=s by omega] at h2
 exact ⟨by omega,eq_of_beq h2⟩
theorem ze0 {s:Int}(hs:s∈cl)(h1:Z6 s=false):zdv cl s=Qx cl s∧zd2 cl s=s-Qx cl s∧(Ww cl s).isSome=true:=by
 have hle:=(ZW hc).2.2.2 s hs
 have hne:=KS hc s hs
 have hsome:=zc4 (cl:=cl) hle
 have hsm:(Ww cl s).isSome=true:=by rw [hsome];simpa using hne
 obtain ⟨a,hpa⟩:=Option.isSome_iff_exists.1 hsm
 have htab:=List.all_eq_true.1 zgZ s.toNat (List.mem_range.2 (by omega))
 rw [Bool.and_eq_true,decide_eq_true_eq,show ((s.toNat:Nat):Int)=s by omega] at htab
 have hf:=hpa
 unfold Ww at hf
 rw [Wn,htab.1] at hf
 have hp:=List.find?_some hf
 have hm:=List.mem_reverse.1 (List.mem_of_find?_eq_some hf)
 obtain ⟨hr,ha⟩:=zlS (s:=s) (by omega) hm
 have hl:zdz s a=s-a:=by simpa using List.all_eq_true.1 htab.2 a hm
 rw [zdB ha hl] at hp
 have:=zgm hc hs h1 hr hp
 unfold zdv zd2
 rw [hpa]
 exact ⟨this,by rw [←this];exact hl,rfl⟩
end
end
section
open Go Go.Kn Go.Proofs
def ImO (I:Qu)(r:Nat)(o:Obj):Prop:=I r=some o
theorem ImO.mono {I I':Qu}{r:Nat}{o:Obj}(h:ImO I r o)(hI:HLe I I'):ImO I' r o:=hI _ _ h
def zvR (st cs:List Int)(b:Int):Value→Qu→Go.Kn.Loc→Prop:=fun v I' L=>L=[]∧∃ r m,v= .map (some r)∧ImO I' r (ZR eiv eiv m)∧zdg st cs b m
theorem Xm:∀ (ns out:List Int) (x:Int),x∈ns.foldl stS out↔x∈out∨(x∈ns∧x≠8589934592)
 | [],out,x=>by simp
 | n::ns,out,x=>by
  rw [List.foldl_cons,Xm ns]
  have:x∈stS out n↔x∈out∨(x=n∧n≠8589934592):=by
   unfold stS
   split
   ·
    rename_i h
    rw [Bool.or_eq_true,List.any_eq_true] at h
    constructor
    ·
     exact fun h=>.inl h
    ·
     rintro (h2 | ⟨rfl,h2⟩)
     ·
      exact h2
     ·
      rcases h with h | ⟨y,hy,e⟩
      ·
       exact absurd (eq_of_beq h) h2
      ·
       rw [←eq_of_beq e];exact hy
   ·
    rename_i h
    rw [Bool.or_eq_true,not_or] at h
    rw [List.mem_append,List.mem_singleton]
    constructor
    ·
     rintro (h2 | rfl)
     ·
      exact .inl h2
     ·
      exact .inr ⟨rfl,fun e=>h.1 (by rw [e];rfl)⟩
    ·
     rintro (h2 | ⟨rfl,_⟩)
     ·
      exact .inl h2
     ·
      exact .inr rfl
  rw [this,List.mem_cons]
  constructor
  ·
   rintro ((h | ⟨rfl,h⟩) | ⟨h,h2⟩)
   ·
    exact .inl h
   ·
    exact .inr ⟨.inl rfl,h⟩
   ·
    exact .inr ⟨.inr h,h2⟩
  ·
   rintro (h | ⟨rfl | h,h2⟩)
   ·
    exact .inl (.inl h)
   ·
    exact .inl (.inr ⟨rfl,h2⟩)
   ·
    exact .inr ⟨h,h2⟩
theorem zaF:∀ (ns out:List Int),out.Nodup→(ns.foldl stS out).Nodup
 | [],_,h=>h
 | n::ns,out,h=>by
  rw [List.foldl_cons]
  refine zaF ns _ ?_
  unfold stS
  split
  ·
   exact h
  ·
   rename_i h2
   rw [Bool.or_eq_true,not_or,List.any_eq_true] at h2
   refine List.nodup_append.2 ⟨h,by simp,fun a ha b hb e=>?_⟩
   simp at hb
   subst hb;subst e
   exact h2.2 ⟨a,ha,by simp⟩
theorem zsN (rows:List (List Int))(l:Nat):(Q9 rows l).Nodup:=zaF _ _ (by simp)
theorem zfn {rows:List (List Int)}{l:Nat}{x:Int}:x∈Q9 rows l↔x=0∨((∃ r∈rows,r.getD l 0=x)∧x≠8589934592):=by
 unfold Q9
 rw [Xm]
 simp
def stM (rows:List (List Int))(l:Nat):List (Int×Int):=(Q9 rows l).map fun x=>(x,0)
theorem zhz (rows:List (List Int))(l:Nat):(stM rows l).map (·.1)=Q9 rows l:=by unfold stM;simp [Function.comp_def]
theorem zm3 {rows:List (List Int)}{l i:Nat}{p:Int×Int}(h:(stM rows l)[i]? =some p):p.1∈Q9 rows l∧p.2=0:=by
 unfold stM at h
 rw [List.getElem?_map] at h
 obtain ⟨x,hx,rfl⟩:=Option.map_eq_some_iff.1 h
 exact ⟨List.mem_of_getElem? hx,rfl⟩
def zeO (rows:List (List Int))(l:Nat)(seen:List Nat):List Int:=(ziY (stM rows l) seen).map (·.1)
theorem XG {rows:List (List Int)}{l i:Nat}{seen:List Nat}{p:Int×Int}(h:(stM rows l)[i]? =some p):zeO rows l (seen++[i])=zeO rows l seen++[p.1]:=by unfold zeO;rw [zaQ h,List.map_append];rfl
theorem zlw {rows:List (List Int)}{l i:Nat}{seen:List Nat}{p:Int×Int}(h:(stM rows l)[i]? =some p)(hs:i∉seen):p.1∉zeO rows l seen:=fun hm=>by
 obtain ⟨q,hq,e⟩:=List.mem_map.1 hm
 obtain ⟨j,hj,hqj⟩:=zji.1 hq
 have hnd:=zsN rows l
 rw [←zhz] at hnd
 have h1:((stM rows l).map (·.1))[i]? =some p.1:=by rw [List.getElem?_map,h];rfl
 have h2:((stM rows l).map (·.1))[j]? =some p.1:=by rw [List.getElem?_map,hqj,←e];rfl
 obtain ⟨g1,e1⟩:=List.getElem?_eq_some_iff.1 h1
 obtain ⟨g2,e2⟩:=List.getElem?_eq_some_iff.1 h2
 have:=(List.getElem_inj hnd).1 (show ((stM rows l).map (·.1))[i]=((stM rows l).map (·.1))[j] by rw [e1,e2])
 exact hs (this ▸ hj)
theorem zfm {rows:List (List Int)}{l:Nat}{seen:List Nat}{x:Int}(h:x∈zeO rows l seen):x∈Q9 rows l:=by
 obtain ⟨q,hq,rfl⟩:=List.mem_map.1 h
 obtain ⟨j,_,hqj⟩:=zji.1 hq
 exact (zm3 hqj).1
theorem zeH {rows:List (List Int)}{l:Nat}{seen:List Nat}(hnd:seen.Nodup)(hlt:∀ i∈seen,i<(stM rows l).length)(hall:∀ i (p:Int×Int),(stM rows l)[i]? =some p→i∈seen)(x:Int):x∈zeO rows l seen↔x∈Q9 rows l:=by
 have:=(zdx hnd hlt hall).map (fun p=>p.1)
 rw [zhz] at this
 exact this.mem_iff
/-! ### A single witness -/
def WY (rows:List (List Int))(l:Nat)(u:Int)(seen:List Nat)(x:Int):Option Int:=if x∈zeO rows l seen∧Kf u x=0 then some 0 else none
theorem zhl {rows:List (List Int)}{l:Nat}{u:Int}:Ut [] (WY rows l u []):=Ut.nil.congr fun x=>by unfold WY zeO ziY;simp
theorem zh1 {rows:List (List Int)}{l:Nat}{u:Int}{seen:List Nat}{i:Nat}{p:Int×Int}{m:List (Int×Int)}(h:Ut m (WY rows l u seen))(hp:(stM rows l)[i]? =some p)(hg:Kf u p.1=0):Ut (Ys m p.1 0) (WY rows l u (seen++[i])):=
 (h.set p.1 0).congr fun x=>by
  unfold WY
  rw [XG hp];simp only [List.mem_append,List.mem_singleton]
  by_cases e:p.1=x
  ·
   subst e
   rw [if_pos rfl,if_pos ⟨.inr rfl,hg⟩]
  ·
   rw [if_neg e]
   by_cases g:x∈zeO rows l seen∧Kf u x=0
   ·
    rw [if_pos g,if_pos ⟨.inl g.1,g.2⟩]
   ·
    rw [if_neg g,if_neg]
    rintro ⟨h1 | h1,h2⟩
    ·
     exact g ⟨h1,h2⟩
    ·
     exact e h1.symm
theorem zmp {rows:List (List Int)}{l:Nat}{u:Int}{seen:List Nat}{i:Nat}{p:Int×Int}{m:List (Int×Int)}(h:Ut m (WY rows l u seen))(hp:(stM rows l)[i]? =some p)(hg:Kf u p.1≠0):Ut m (WY rows l u (seen++[i])):=
 h.congr fun x=>by
  unfold WY
  rw [XG hp];simp only [List.mem_append,List.mem_singleton]
  by_cases g:x∈zeO rows l seen∧Kf u x=0
  ·
   rw [if_pos g,if_pos ⟨.inl g.1,g.2⟩]
  ·
   rw [if_neg g,if_neg]
   rintro ⟨h1 | h1,h2⟩
   ·
    exact g ⟨h1,h2⟩
   ·
    subst h1;exact hg h2
theorem zbb {u x:Int}(h:(u==x||u==8589934592)=true):Kf u x=0:=by
 unfold Kf
 rw [if_neg]
 rw [Bool.or_eq_true,beq_iff_eq,beq_iff_eq] at h
 simp only [Bool.and_eq_true,decide_eq_true_eq]
 rintro ⟨h1,h2⟩
 rcases h with h | h
 ·
  exact h2 h
 ·
  exact h1 h
theorem zg2 {u x:Int}(h:(u==x||u==8589934592)=false):Kf u x=1048576∧Kf u x≠0:=by
 have:Kf u x=1048576:=by
  unfold Kf
  rw [if_pos]
  rw [Bool.or_eq_false_iff,beq_eq_false_iff_ne,beq_eq_false_iff_ne] at h
  simp only [Bool.and_eq_true,decide_eq_true_eq]
  exact ⟨h.2,h.1⟩
 exact ⟨this,by omega⟩
theorem zl6 {rows:List (List Int)}{l w:Nat}{v:List Int}{seen:List Nat}{m:List (Int×Int)}{b:Int}(hb:0≤b)(hv:rows[w]? =some v)(h:Ut m (WY rows l (v.getD l 0) seen))(hnd:seen.Nodup)(hlt:∀ i∈seen,i<(stM rows l).length)(hall:∀ i (p:Int×Int),(stM rows l)[i]? =some p→i∈seen):
  zdg (Q9 rows l) ((Q9 rows l).map (Kf ((rows.getD w []).getD l 0))) b m:=by
 rw [Q1 hv]
 have hgv:∀ x,Kf (v.getD l 0) x=0∨Kf (v.getD l 0) x=1048576:=fun x=>by
  cases e:(v.getD l 0==x||v.getD l 0==8589934592) with
  | true=>exact .inl (zbb e)
  | false=>exact .inr (zg2 e).1
 refine ⟨by rw [List.length_map],h.nd,fun i x c hx hcx=>?_,fun p hp=>?_,?_,fun c hcm=>?_⟩
 ·
  rw [List.getElem?_map,hx] at hcx
  simp only [Option.map_some,Option.some.injEq] at hcx
  subst hcx
  rw [h.get]
  unfold WY
  have hin:=(zeH hnd hlt hall x).2 (List.mem_of_getElem? hx)
  rcases hgv x with e | e
  ·
   rw [if_pos ⟨hin,e⟩,e,if_pos (by omega)]
  ·
   rw [if_neg (fun g=>by omega),e,if_neg (by omega)]
 ·
  have:=h.mem hp
  unfold WY at this
  split at this
  ·
   rename_i g;exact zfm g.1
  ·
   cases this
 ·
  by_cases e:v.getD l 0=8589934592
  ·
   refine ⟨Kf (v.getD l 0) 0,List.mem_map.2 ⟨0,zfn.2 (.inl rfl),rfl⟩,?_⟩
   rw [zbb (by rw [e];simp)];omega
  ·
   refine ⟨Kf (v.getD l 0) (v.getD l 0),List.mem_map.2 ⟨v.getD l 0,zfn.2 (.inr ⟨⟨v,List.mem_of_getElem? hv,rfl⟩,e⟩),rfl⟩,?_⟩
   rw [zbb (by simp)];omega
 ·
  obtain ⟨x,_,rfl⟩:=List.mem_map.1 hcm
  rcases hgv x with e | e<;>rw [e]<;>omega
/-! ### Two parts -/
def zeS (st ca cb:List Int)(j:Nat)(x:Int):Int:=(if 1≤j then Yv st ca x else 0)+(if 2≤j then Yv st cb x else 0)
def gF (st ca cb:List Int)(j:Nat)(x:Int):Option Int:=if x∈st∧1≤j then some (zeS st ca cb j x) else none
def hF (rows:List (List Int))(l:Nat)(ca cb:List Int)(j:Nat)(seen:List Nat)(x:Int):Option Int:=if x∈zeO rows l seen then some (zeS (Q9 rows l) ca cb (j+1) x) else gF (Q9 rows l) ca cb j x
theorem zx2 {st ca cb:List Int}:Ut [] (gF st ca cb 0):=Ut.nil.congr fun x=>by unfold gF;rw [if_neg (fun h=>by omega)]
theorem zx6 {rows:List (List Int)}{l j:Nat}{ca cb:List Int}{m:List (Int×Int)}(h:Ut m (gF (Q9 rows l) ca cb j)):Ut m (hF rows l ca cb j []):=h.congr fun x=>by unfold hF zeO ziY;simp
theorem zsb {rows:List (List Int)}{l j:Nat}{ca cb:List Int}{m:List (Int×Int)}{seen:List Nat}(h:Ut m (hF rows l ca cb j seen))(hnd:seen.Nodup)(hlt:∀ i∈seen,i<(stM rows l).length)(hall:∀ i (p:Int×Int),(stM rows l)[i]? =some p→i∈seen):Ut m (gF (Q9 rows l) ca cb (j+1)):=
 h.congr fun x=>by
  unfold hF
  by_cases g:x∈zeO rows l seen
  ·
   rw [if_pos g];unfold gF;rw [if_pos ⟨zfm g,by omega⟩]
  ·
   have g':x∉Q9 rows l:=fun e=>g ((zeH hnd hlt hall x).2 e)
   rw [if_neg g];unfold gF;rw [if_neg (fun e=>g' e.1),if_neg (fun e=>g' e.1)]
theorem zwk {rows:List (List Int)}{l j:Nat}{ca cb:List Int}{m:List (Int×Int)}{seen:List Nat}{i:Nat}{p:Int×Int}(h:Ut m (hF rows l ca cb j seen))(hp:(stM rows l)[i]? =some p)(hs:i∉seen):(Zy m p.1).getD 0=zeS (Q9 rows l) ca cb j p.1:=by
 rw [h.get]
 unfold hF
 rw [if_neg (zlw hp hs)]
 unfold gF
 by_cases e:1≤j
 ·
  rw [if_pos ⟨(zm3 hp).1,e⟩];rfl
 ·
  rw [if_neg (fun g=>e g.2)]
  unfold zeS
  rw [if_neg e,if_neg (by omega)];rfl
theorem zeY {st ca cb:List Int}{j:Nat}{x:Int}(hj:j<2):zeS st ca cb j x+Yv st (if j=0 then ca else cb) x=zeS st ca cb (j+1) x:=by
 unfold zeS
 rcases (show j=0∨j=1 by omega) with e | e<;>subst e<;>simp
theorem znu {rows:List (List Int)}{l j:Nat}{ca cb:List Int}{m:List (Int×Int)}{seen:List Nat}{i:Nat}{p:Int×Int}(h:Ut m (hF rows l ca cb j seen))(hp:(stM rows l)[i]? =some p):Ut (Ys m p.1 (zeS (Q9 rows l) ca cb (j+1) p.1)) (hF rows l ca cb j (seen++[i])):=
 (h.set p.1 _).congr fun x=>by
  unfold hF
  rw [XG hp];simp only [List.mem_append,List.mem_singleton]
  by_cases e:p.1=x
  ·
   subst e
   rw [if_pos rfl,if_pos (.inr rfl)]
  ·
   rw [if_neg e]
   by_cases g:x∈zeO rows l seen
   ·
    rw [if_pos g,if_pos (.inl g)]
   ·
    rw [if_neg g,if_neg]
    rintro (h1 | h1)
    ·
     exact g h1
    ·
     exact e h1.symm
theorem zqW {st ca cb:List Int}{ba bb b:Int}{ma mb m:List (Int×Int)}(hne:st≠[])(hA:zdg st ca ba ma)(hB:zdg st cb bb mb)(h1:ba≤1000)(h2:bb≤1000)(hb:ba+bb+8≤b)(h:Ut m (gF st ca cb 2)):zdg st (st.map (zmR st ca cb)) b m:=by
 have ha:∀ x,0≤Yv st ca x∧Yv st ca x≤ba+4:=fun x=>by
  have:=KU hA h1 (.refl _) x
  exact ⟨this.2.1,this.2.2.1⟩
 have hbb:∀ x,0≤Yv st cb x∧Yv st cb x≤bb+4:=fun x=>by
  have:=KU hB h2 (.refl _) x
  exact ⟨this.2.1,this.2.2.1⟩
 have hlt:∀ x,0≤zmR st ca cb x∧zmR st ca cb x<1048576∧zmR st ca cb x≤b:=fun x=>by
  have:=ha x;have:=hbb x
  unfold zmR;omega
 refine ⟨by rw [List.length_map],h.nd,fun i x c hx hcx=>?_,fun p hp=>?_,?_,fun c hcm=>?_⟩
 ·
  rw [List.getElem?_map,hx] at hcx
  simp only [Option.map_some,Option.some.injEq] at hcx
  subst hcx
  rw [h.get,if_pos (hlt x).2.1]
  unfold gF
  rw [if_pos ⟨List.mem_of_getElem? hx,by omega⟩]
  unfold zeS zmR;simp
 ·
  have:=h.mem hp
  unfold gF at this
  split at this
  ·
   rename_i g;exact g.1
  ·
   cases this
 ·
  obtain ⟨x,hx⟩:=List.exists_mem_of_ne_nil st hne
  exact ⟨_,List.mem_map.2 ⟨x,hx,rfl⟩,(hlt x).2.1⟩
 ·
  obtain ⟨x,_,rfl⟩:=List.mem_map.1 hcm
  have:=hlt x
  exact ⟨this.1,fun _=>this.2.2,by omega⟩
theorem zjN {st cs:List Int}{b:Int}{m vs:List (Int×Int)}(h:zdg st cs b m)(hp:vs.Perm m):Yn (vs.map (·.2))=Yn cs:=by
 obtain ⟨c,hc,hlt⟩:=h.pos
 have hne:cs≠[]:=List.ne_nil_of_mem hc
 obtain ⟨h1,h2⟩:=za0 hne
 have h3:=h2 c hc
 obtain ⟨i,hi⟩:=List.getElem?_of_mem h1
 have hil:=(List.getElem?_eq_some_iff.1 hi).1
 have hx:st[i]? =some (st[i]'(by rw [←h.len];exact hil)):=List.getElem?_eq_getElem _
 have hm:=h.ent.2 ⟨i,hx,hi,by omega⟩
 refine ze4 (List.mem_map.2 ⟨_,hp.mem_iff.2 hm,rfl⟩) (fun x hx=>?_)
 obtain ⟨p,hpm,rfl⟩:=List.mem_map.1 hx
 obtain ⟨j,_,hj,_⟩:=(h.ent (x:=p.1) (c:=p.2)).1 (hp.mem_iff.1 hpm)
 exact h2 _ (List.mem_of_getElem? hj)
section
variable {C:Cx} {E:Env} {I:Qu} {loc:Go.Kn.Loc} {S:GS} {dst:Option Tmp} {ty:TypeId} {pos:String} {af:Array Edge} {gd:Option (Nat×Bool)} {x y:Operand} {a:Int}
theorem zau {m:List (Int×Int)}{t k e r:Nat}(hT:MpT C.P t k e (.int .i64 0))(hK:Y7 C.P k eiv)(hx:QA S E x=some (.map (some r)))(hy:QA S E y=some (eiv a))(hm:ZX S=true→Mem I loc r (ZR eiv eiv m)):
  QT C S E I loc ⟨dst,.lookup t x y false,ty,pos,af,gd⟩ (.int .i64 ((Zy m a).getD 0)):=by
 have:=KA (C:=C) (S:=S) (dst:=dst) (ty:=ty) (pos:=pos) (af:=af) (gd:=gd) hT hK hx hy hm
 cases h:Zy m a with
 | none=>rw [h] at this;exact this
 | some b=>rw [h] at this;exact this
end
theorem zl5 {I:Qu}{b j ra rb r:Nat}{e:TypeId}{fz:Nat×Nat}{l:Go.Kn.Loc}(hr:(if j=0 then ra else rb)=r)(h:j<2):QU I ((b,.cells (([[Value.map (some ra)],[Value.map (some rb)]]:List (List Value)).flatten).toArray e fz)::l) b (((j:Nat):Int).toNat*1) (.map (some r)):=by
 subst hr
 rcases (show j=0∨j=1 by omega) with e | e<;>subst e<;>exact .here rfl
theorem zdg.small {st cs:List Int}{b:Int}{m:List (Int×Int)}(h:zdg st cs b m):m.length≤st.length:=by
 have:=h.nd.length_le_of_subset (l₂:=st) (fun x hx=>by
  obtain ⟨p,hp,rfl⟩:=List.mem_map.1 hx
  exact h.old p hp)
 simpa using this
theorem zuT {st ca cb:List Int}{ba bb:Int}{ma mb:List (Int×Int)}(hA:zdg st ca ba ma)(hB:zdg st cb bb mb)(h1:ba≤1000)(h2:bb≤1000)(j:Nat)(x:Int):0≤zeS st ca cb j x∧zeS st ca cb j x≤3000:=by
 have a:=KU hA h1 (.refl _) x
 have b:=KU hB h2 (.refl _) x
 unfold zeS
 split<;>split<;>omega
structure PrE (I:Qu)(fid brow bloc bcst bcla bbel rm:Nat)(av bv:Option Addr)(n c n2 c2:Nat)(xs:List Int)(rows:List (List Int))(l:Nat):Prop where
 row:QU I [] brow 0 (.slice bv n2 c2)
 loc:QU I [] bloc 0 (.int .i64 l)
 cst:QU I [] bcst 0 (.map (some rm))
 cla:QU I [] bcla 0 (.slice av n c)
 bel:QU I [] bbel 0 (.func (.func fid) #[] #[Zb brow,Zb bloc,Zb bcst,Zb bcla,Zb bbel])
 mp:ImO I rm (ZR eiv eiv (stM rows l))
 deb:VI I
 hS:Sl I 1 QR av n c xs
 hV:SlN I bv n2 c2 rows
theorem PrE.mono {I I':Qu}{fid brow bloc bcst bcla bbel rm:Nat}{av bv:Option Addr}{n c n2 c2:Nat}{xs:List Int}{rows:List (List Int)}{l:Nat}(h:PrE I fid brow bloc bcst bcla bbel rm av bv n c n2 c2 xs rows l)(hI:HLe I I'):PrE I' fid brow bloc bcst bcla bbel rm av bv n c n2 c2 xs rows l:=
 ⟨h.row.mono hI,h.loc.mono hI,h.cst.mono hI,h.cla.mono hI,h.bel.mono hI,h.mp.mono hI,h.deb.mono hI,h.hS.mono hI,h.hV.mono hI⟩
theorem zrL:((List.range 64).all fun s=>IntKind.u64.wrap (s:Int)==(s:Int))=true:=by kernel_rfl
theorem zsC {s:Int}(hs:0≤s∧s≤63):IntKind.u64.wrap s=s:=by
 have h:=List.all_eq_true.1 zrL s.toNat (List.mem_range.2 (by omega))
 rw [show ((s.toNat:Nat):Int)=s by omega] at h
 exact eq_of_beq h
theorem zpV {rows:List (List Int)}{l k:Nat}{r:List Int}(h:rows[k]? =some r)(hne:r.getD l 0≠8589934592):Ys (stM (rows.take k) l) (r.getD l 0) 0=stM (rows.take (k+1)) l:=by
 have hst:=zjH (l:=l) h
 unfold stM
 rw [hst]
 cases e:(Q9 (rows.take k) l).any (fun x=>x==r.getD l 0) with
 | true=>
  rw [znH (by rw [e,Bool.or_true])]
  refine UB _ _ _ ?_
  obtain ⟨x,hx,hxe⟩:=List.any_eq_true.1 e
  have hxe:=eq_of_beq hxe
  subst hxe
  have hnd:=zsN (rows.take k) l
  have:=zbK (m:=(Q9 (rows.take k) l).map fun x=>(x,(0:Int))) (by rw [List.map_map];simpa [Function.comp_def] using hnd) (List.mem_map.2 ⟨_,hx,rfl⟩)
  exact this
 | false=>
  rw [zxf (by rw [e,Bool.or_false];exact beq_eq_false_iff_ne.2 hne),List.map_append]
  refine Uu _ _ _ 0 ?_
  have hn:Zy ((Q9 (rows.take k) l).map fun x=>(x,(0:Int))) (r.getD l 0)=none:=U0.2 (by
   rw [List.map_map]
   intro hm
   obtain ⟨x,hx,hxe⟩:=List.mem_map.1 hm
   have:=List.any_eq_false.1 e x hx
   exact this (by simpa using hxe))
  rw [←VD _ _ 0] at hn
  exact Option.map_eq_none_iff.1 hn
theorem zlA {rows:List (List Int)}{l k:Nat}{r:List Int}(h:rows[k]? =some r)(he:r.getD l 0=8589934592):stM (rows.take k) l=stM (rows.take (k+1)) l:=by
 have hst:=zjH (l:=l) h
 unfold stM
 rw [hst,znH (by rw [he];rfl)]
end
section
open Go Go.Kn Go.Proofs
theorem zpy:ArT Tryz.prog 290 64 5 1:=.of (by kernel_rfl)
theorem zoT:CvT Tryz.prog 5 3 .i64:=⟨by kernel_rfl,by kernel_rfl⟩
theorem zqZ:Fun Tryz.prog 250:=.of Tryz.func250 (by kernel_rfl) (by kernel_rfl)
theorem zv2:ScT Tryz.prog 5:=.of (by kernel_rfl)
theorem zrW {I:Qu}(hD:VI I){s:Int}(hs:1≤s∧s≤63)(h1:Z6 s=true):Zw Tryz.prog 250 [.int .u64 s] I (.int .i64 (KK s)):=by
 intro g H w hw
 refine qe Tryz.func250 Tryz.ntmps250 hw ?_
 obtain ⟨hd1,hd2⟩:=ztg hs h1
 have hcell:∀ loc,QU I loc 1 (0+(zkn s).toNat*1) (.int .u8 (zoJ.getD (zkn s).toNat 0)):=fun loc=>by rw [show 0+(zkn s).toNat*1=(zkn s).toNat by omega];exact (hD _ (by omega)).any
 refine zR (zA (zN (Ql (zR ?_))))
 refine zM ?_
 refine zC (zN ?_)
 refine zI ?_ ?_<;>intro hc4
 ·
  have h:=hc4;simp at h;omega
 refine Qo (Qa (zR (zM ?_)))
 refine zM ?_
 refine zV (ziE rfl) ?_
 refine zV (zoW rfl rfl) ?_
 refine zV (zjG rfl rfl rfl) ?_
 refine zV (zjl rfl rfl (by decide) (rfl:min _ _=58)) ?_
 refine zV (Q8 rfl rfl zpy (fun hg=>by exact hd1)) ?_
 refine zV (Qd rfl zv2 (fun hg=>by exact (hcell _))) ?_
 refine zV (JU rfl zoT) ?_
 refine zA (zN (Qt ?_))
 first
 | exact zr rfl rfl (by rw [hd2])
theorem zx5 {I:Qu}(hD:VI I){s:Int}(hs:1≤s∧s≤63)(h1:Z6 s=true):Zw Tryz.prog 234 [.int .u64 s] I (.int .i64 (KK s)):=by
 intro g H w hw
 refine qe Tryz.func234 Tryz.ntmps234 hw ?_
 refine zR (zA (zN (Ql ?_)))
 refine zI ?_ ?_<;>intro hcK
 ·
  cases hcK
 refine Qo (Qa (zR (zM ?_)))
 refine qc (vs:=[_]) rfl zqZ (zrW hD hs h1) ?_
 refine zA (zN (Qt ?_))
 exact zr rfl rfl (by rfl)
end
section
open Go Go.Kn Go.Proofs
theorem KB:CvT Tryz.prog 3 186 .u64:=⟨by kernel_rfl,by kernel_rfl⟩
theorem zqt:ElT Tryz.prog 275 171 1 8:=.of (by kernel_rfl)
theorem zd9:Fun Tryz.prog 233:=.of Tryz.func233 (by kernel_rfl) (by kernel_rfl)
theorem zqH:Fun Tryz.prog 234:=.of Tryz.func234 (by kernel_rfl) (by kernel_rfl)
theorem zpU:Fun Tryz.prog 235:=.of Tryz.func235 (by kernel_rfl) (by kernel_rfl)
theorem zel:Fun Tryz.prog 236:=.of Tryz.func236 (by kernel_rfl) (by kernel_rfl)
theorem ZE:Y7 (α:=Int) Tryz.prog 3 (.int .i64):=zpn (by kernel_rfl)
theorem Y5:MpT Tryz.prog 171 3 3 (.int .i64 0):=⟨by kernel_rfl,.of (by kernel_rfl)⟩
theorem zbN:ScT Tryz.prog 171:=.of (by kernel_rfl)
theorem Kl:ScT Tryz.prog 22:=.of (by kernel_rfl)
theorem zdp:ScT Tryz.prog 274:=.of (by kernel_rfl)
theorem zg0:SlT Tryz.prog 275 171 1:=.of (by kernel_rfl)
theorem zwP {I:Qu}(hD:VI I){s:Int}(hs:1≤s∧s≤63)(h1:Z6 s=true):Zw Tryz.prog 234 [.int .u64 (IntKind.u64.wrap s)] I (.int .i64 (KK s)):=by
 rw [zsC (by omega)];exact zx5 hD hs h1
theorem zky {I:Qu}{av:Option Addr}{n c m:Nat}{xs:List Int}(hS:Sl I 1 QR av n c xs)(hn:n≤100000)(hc:VY m xs=0){s:Int}(hin:s∈xs)(h1:Z6 s=false):Zw Tryz.prog 153 [.slice av n c,.int .i64 s] I (.tuple #[.int .i64 (Qx xs s),.int .i64 (s-Qx xs s),.bool true]):=by
 have h:=zdR hS hn s ((ZW hc).2.2.2 s hin)
 obtain ⟨e1,e2,e3⟩:=ze0 hc hin h1
 rw [e1,e2,e3] at h;exact h
theorem zaO {I:Qu}{av:Option Addr}{n c:Nat}{xs:List Int}{v:Int}(e:Yn xs=v)(hS:Sl I 1 QR av n c xs)(hn:n≤100000)(h0:0<n):Zw Tryz.prog 236 [.slice av n c] I (.int .i64 v):=by
 rw [←e];exact zpC hS hn h0
theorem zmo {I:Qu}{brow bloc bcst bcla bbel rm:Nat}{av bv:Option Addr}{n c n2 c2:Nat}{xs:List Int}{rows:List (List Int)}{l:Nat}(hE:PrE I 233 brow bloc bcst bcla bbel rm av bv n c n2 c2 xs rows l)(hn:n≤100000)(hn2:n2≤100000)(hl:∀ r∈rows,l<r.length)(hc:VY rows.length xs=0)(f:Nat)(s:Int)(hok:OkS rows.length xs s)(ih:∀ (I':Qu),HLe I I'→∀ (s':Int),OkS rows.length xs s'→s'<s→Yg Tryz.prog 233 ([.int .i64 s']++[Zb brow,Zb bloc,Zb bcst,Zb bcla,Zb bbel]) I' [] (zvR (Q9 rows l) (ZC rows xs l f s') (8*(s'-1)))):Yg Tryz.prog 233 [.int .i64 s,Zb brow,Zb bloc,Zb bcst,Zb bcla,Zb bbel] I [] (zvR (Q9 rows l) (ZC rows xs l (f+1) s) (8*(s-1))):=by
 intro g H w hw
 refine qe Tryz.func233 Tryz.ntmps233 hw ?_
 have hIc:=zye I
 obtain ⟨hs,hV⟩:=hE.hV
 have hH:=hV.1
 have hlV:=hV.len
 have hal:=(ZW hc).1
 have hal6:=(ZW hc).2.1
 have hs63:=zgg hc hok
 have hsl:=zn5 (rows:=rows) (l:=l)
 refine zR (zA ?_)
 refine zN (zR ?_)
 refine ZD rfl rfl (fun r_20=>?_)
 refine zA (zN (Ql (zR ?_)))
 refine zM ?_
 refine qc (vs:=[_]) rfl zjz (zfG _ _) ?_
 refine zN ?_
 refine zI ?_ ?_<;>intro hc22
 ·
  have hsing:Z6 s=true:=hc22
  have hwn:=zsE (n:=rows.length) (by omega) hs63 hsing hok.2.1
  obtain ⟨x,v,hx,hv,hQ⟩:=hV.at (show KK s<n2 by omega)
  have hlv:=hl v (List.mem_of_getElem? hv)
  have hu:=Zk (d:=0) rfl hlv
  have hvn:=hQ.len
  have hz:(K4 s (IntKind.i64.wrap (s-1))==0)=true:=by unfold Z6 at hsing;rw [Bool.and_eq_true] at hsing;exact hsing.2
  refine Ql ?_
  refine YU mixed (by kernel_rfl) ?_
  refine zq (Qd rfl Kl (fun hg=>by exact hE.row.any)) ?_
  refine zq (Qi rfl) ?_
  refine zq (JU rfl KB) ?_
  refine Jj (cap:=[]) (vs:=[_]) rfl rfl zqH (zwP hE.deb hs63 hsing) rfl rfl ?_
  refine zq (zX Zo hH) ?_
  refine zq (Qd rfl QK (fun hg=>by exact zx7 hH hx rfl)) ?_
  refine zq (Qd rfl Qs (fun hg=>by exact hE.loc.any)) ?_
  refine zq (zX Qy hQ) ?_
  refine zq (Qd rfl Qs (fun hg=>by exact zx7 hQ hu rfl)) ?_
  refine zq (ZP rfl) ?_
  refine YV ?_
  refine Qa (Ql (zR ?_))
  refine zV (Qd rfl zbN (fun hg=>by exact hE.cst.any)) ?_
  refine Jt (ek:=eiv) (ev:=eiv) (m:=(stM rows l)) rfl Y5 rfl rfl (.inl hE.mp) (fun b_33=>?_)
  refine zN (Qm ?_)
  refine zU [(8,_),(9,_),(33,_)] (fun T L0 mz E I' loc'=>∃ (seen:List Nat) (m:List (Int×Int)),mz=(stM rows l).length-seen.length∧E=T∧I=I'∧[(b_33,YN rm (stM rows l).length seen),(r_20,ZR eiv eiv m)]=loc'∧Ut m (WY rows l (v.getD l 0) seen)∧seen.Nodup∧∀ i∈seen,i<(stM rows l).length) ?_ (h:=⟨[],[],rfl,rfl,rfl,rfl,zhl,.nil,fun i h=>by cases h⟩)
  rintro mz E I' loc' ⟨seen,m,rfl,rfl,rfl,rfl,hm,hnd,hlt⟩
  refine zR ?_
  refine Jv (ek:=eiv) (ev:=eiv) (m:=(stM rows l)) (fun s'=>[(b_33,YN rm (stM rows l).length s'),(r_20,ZR eiv eiv m)]) rfl (fun s'=>.here) rfl rfl rfl rfl rfl (.inl hE.mp) (by simp) ?_
  intro t tv s' hno hyes
  refine zN (Ql ?_)
  refine zI ?_ ?_<;>intro hc35
  ·
   obtain ⟨i,q,hq,hns,rfl⟩:=hyes hc35
   refine Qo (Qa (Qm (zR ?_)))
   refine zV (Jq (ek:=eiv) (ev:=eiv) (m:=(stM rows l)) (p:=q) (seen:=seen) (i:=i) rfl (.inl hE.mp) (.inr (by simp)) hq) ?_
   refine zE ?_
   refine zA ?_
   refine zN (zR ?_)
   refine zM ?_
   refine zM ?_
   refine zC ?_
   refine zM ?_
   refine QX 3 rfl rfl rfl ?_
   refine zJ (Qi rfl) ?_
   refine zJ (QH rfl rfl rfl) ?_
   refine ZA rfl rfl rfl rfl rfl ?_
   refine zN ?_
   refine zI ?_ ?_<;>intro hc44
   ·
    refine Qg (zM ?_)
    refine zM ?_
    refine Q4 (m:=m) (ek:=eiv) (ev:=eiv) (a:=q.1) 0 Y5 ZE rfl rfl rfl rfl (by repeat (first | exact Upd.here | apply Upd.there | apply QJ)) ?_
    refine Qb (Qh ?_)
    have hs9:=JH hnd hlt hns (List.getElem?_eq_some_iff.1 hq).1
    first
    | exact zm (h:=⟨(stM rows l).length-(seen++[i]).length,by rw [List.length_append,List.length_singleton];have:=hs9.2.2;rw [List.length_append,List.length_singleton] at this;omega,seen++[i],Ys m q.1 0,rfl,rfl,rfl,rfl,zh1 hm hq (zbb hc44),hs9.1,hs9.2.1⟩)
   refine Qo (Qh ?_)
   have hs9:=JH hnd hlt hns (List.getElem?_eq_some_iff.1 hq).1
   first
   | exact zm (h:=⟨(stM rows l).length-(seen++[i]).length,by rw [List.length_append,List.length_singleton];have:=hs9.2.2;rw [List.length_append,List.length_singleton] at this;omega,seen++[i],m,rfl,rfl,rfl,rfl,zmp hm hq (zg2 hc44).2,hs9.1,hs9.2.1⟩)
  obtain ⟨rfl,hall⟩:=hno hc35
  refine QI (Qf (Qf (Qk (Qa (zR (zM ?_))))))
  refine zA (zN (Qt (Qc ?_)))
  first
  | exact Zv rfl rfl (fun w hw=>by obtain ⟨I9,h91,h92,h93⟩:=hw.freezeAll;exact ⟨_,I9,[],rfl,hIc.trans h91,h92,rfl,r_20,m,rfl,h93 _ _ (by simp),by rw [Wg hz];exact zl6 (by omega) hv hm hnd hlt hall⟩)
 have hns0:Z6 s=false:=hc22
 obtain ⟨hin,ok1,ok2,hp1,hp2,_,_⟩:=V5 hc hok hns0
 have hz:(K4 s (IntKind.i64.wrap (s-1))==0)=false:=by unfold Z6 at hns0;rw [decide_eq_true (show s>0 by omega),Bool.true_and] at hns0;exact hns0
 refine Qo (Qa (zR ?_))
 refine zV (Qd rfl QK (fun hg=>by exact hE.cla.any)) ?_
 refine zM ?_
 refine qc (vs:=[_,_]) rfl zds (zky hE.hS hn hc hin hns0) ?_
 refine zM ?_
 refine zE ?_
 refine zE ?_
 refine zE ?_
 refine zA ?_
 refine zA ?_
 refine zA (zN (Ql (Ql ?_)))
 have hD:=zye I
 refine Kw mixed ?_
 refine zT 0 rfl (Qd rfl zdp (fun hg=>by exact hE.bel.any)) hD ?_
 refine zT 1 rfl (Qi rfl) hD ?_
 refine zT 3 rfl (Qd rfl zdp (fun hg=>by exact hE.bel.any)) hD ?_
 refine zT 4 rfl (Qi rfl) hD ?_
 refine zT 8 rfl (Qi rfl) hD ?_
 refine qd 2 rfl ?_
 refine Qz (cap:=[Zb brow,Zb bloc,Zb bcst,Zb bcla,Zb bbel]) (vs:=[_]) rfl rfl zd9 (by exact .nil) (ih _ hIc _ ok1 hp2) rfl rfl ?_
 rintro vv2 I2 L2 hI2 ⟨rfl,ra,ma,rfl,hMa,hRa⟩
 have hE:=hE.mono hI2;have hIc:=hIc.trans hI2;have hD:=hD.trans hI2
 refine Qb ?_
 refine zD hD ?_
 refine qd 5 rfl ?_
 refine Qz (cap:=[Zb brow,Zb bloc,Zb bcst,Zb bcla,Zb bbel]) (vs:=[_]) rfl rfl zd9 (by exact .nil) (ih _ hIc _ ok2 (by omega)) rfl rfl ?_
 rintro vv3 I3 L3 hI3 ⟨rfl,rb,mb,rfl,hMb,hRb⟩
 have hE:=hE.mono hI3;have hMa:=hMa.mono hI3;have hIc:=hIc.trans hI3;have hD:=hD.trans hI3
 refine Qb ?_
 refine zD hD ?_
 refine qd 6 rfl ?_
 refine Qq (ps:=[(0,_),(1,_)]) (m:=[[.map (some ra)],[.map (some rb)]]) zqt rfl (.cons rfl (.cons rfl (.nil))) rfl (by simp) (by decide) (by decide) rfl rfl (fun b_61=>?_)
 refine Qb ?_
 refine zD hD ?_
 refine zT 7 rfl (ZH rfl zg0) hD ?_
 refine QG (by kernel_rfl) ?_
 refine QQ ?_
 refine Qa (Qm ?_)
 refine zU [(3,_),(8,_),(61,_),(62,_)] (fun T L0 mz E I' loc'=>∃ (j:Nat) (m:List (Int×Int)),mz=2-j∧E=(63,.int .i64 j)::T∧HLe I3 I'∧[(b_61,.cells (([[Value.map (some ra)],[Value.map (some rb)]]:List (List Value)).flatten).toArray 171 (0,0)),(r_20,ZR eiv eiv m)]=loc'∧j≤2∧Ut m (gF (Q9 rows l) (ZC rows xs l f (Qx xs s)) (ZC rows xs l f (s-Qx xs s)) j)) ?_ (h:=⟨0,[],rfl,rfl,zye _,rfl,Nat.zero_le _,zx2⟩)
 rintro mz E J4 loc' ⟨j,m,rfl,rfl,hJ,rfl,hj,hm⟩
 have hE:=hE.mono hJ;have hMa:=hMa.mono hJ;have hMb:=hMb.mono hJ;have hIc:=hIc.trans hJ
 have hB2:=hJ
 refine zR (zC (zN (Ql ?_)))
 refine zI ?_ ?_<;>intro hc64
 ·
  have hlt_j:j<2:=by have h:=hc64;simp at h;omega
  obtain ⟨rj,mj,bj,hrj,hMj,hRj,hbj⟩:∃ rj mj bj,(if j=0 then ra else rb)=rj∧ImO J4 rj (ZR eiv eiv mj)∧zdg (Q9 rows l) (if j=0 then (ZC rows xs l f (Qx xs s)) else (ZC rows xs l f (s-Qx xs s))) bj mj∧bj≤1000:=by
   rcases (show j=0∨j=1 by omega) with e | e
   ·
    subst e;exact ⟨ra,ma,8*(Qx xs s-1),rfl,hMa,hRa,by omega⟩
   subst e;exact ⟨rb,mb,8*(s-Qx xs s-1),rfl,hMb,hRb,by omega⟩
  have hmjl:=hRj.small
  refine Qo (Qa (Ql (Qm (zR ?_))))
  refine zV (Q6 rfl rfl zg0 (fun hg=>by omega)) ?_
  refine zV (Qd rfl zbN (fun hg=>by exact zl5 hrj hlt_j)) ?_
  refine zA ?_
  refine zN (zR ?_)
  refine zV (Qd rfl zbN (fun hg=>by exact hE.cst.any)) ?_
  refine Jt (ek:=eiv) (ev:=eiv) (m:=(stM rows l)) rfl Y5 rfl rfl (.inl hE.mp) (fun b_68=>?_)
  refine zN (Qm ?_)
  refine zU [(3,_),(8,_),(15,_),(61,_),(62,_),(63,_),(68,_)] (fun T L0 mz E I' loc'=>∃ (seen:List Nat) (m2:List (Int×Int)),mz=(stM rows l).length-seen.length∧E=T∧HLe J4 I'∧[(b_68,YN rm (stM rows l).length seen),(b_61,.cells (([[Value.map (some ra)],[Value.map (some rb)]]:List (List Value)).flatten).toArray 171 (0,0)),(r_20,ZR eiv eiv m2)]=loc'∧Ut m2 (hF rows l (ZC rows xs l f (Qx xs s)) (ZC rows xs l f (s-Qx xs s)) j seen)∧seen.Nodup∧∀ i∈seen,i<(stM rows l).length) ?_ (h:=⟨[],m,rfl,rfl,zye _,rfl,zx6 hm,.nil,fun i h=>by cases h⟩)
  rintro mz E J5 loc' ⟨seen,m2,rfl,rfl,hJ,rfl,hm2,hnd4,hlt4⟩
  have hE:=hE.mono hJ;have hMj:=hMj.mono hJ;have hB2:=hB2.trans hJ
  have hB4:=hJ
  refine zR ?_
  refine Jv (ek:=eiv) (ev:=eiv) (m:=(stM rows l)) (fun s'=>[(b_68,YN rm (stM rows l).length s'),(b_61,.cells (([[Value.map (some ra)],[Value.map (some rb)]]:List (List Value)).flatten).toArray 171 (0,0)),(r_20,ZR eiv eiv m2)]) rfl (fun s'=>.here) rfl rfl rfl rfl rfl (.inl hE.mp) (by simp) ?_
  intro t tv s' hno hyes
  refine zN (Ql ?_)
  refine zI ?_ ?_<;>intro hc70
  ·
   obtain ⟨i,q,hq,hns,rfl⟩:=hyes hc70
   have hlk:=zwk hm2 hq hns
   have htot:=zuT hRa hRb (by omega) (by omega) j q.1
   refine Qo (Qa (Qm (zR ?_)))
   refine zV (Jq (ek:=eiv) (ev:=eiv) (m:=(stM rows l)) (p:=q) (seen:=seen) (i:=i) rfl (.inl hE.mp) (.inr (by simp)) hq) ?_
   refine zE ?_
   refine zA ?_
   refine zN (zR ?_)
   refine zA (zN (Ql (zR ?_)))
   refine zM ?_
   refine Jt (ek:=eiv) (ev:=eiv) (m:=mj) rfl Y5 rfl rfl (.inl hMj) (fun b_74=>?_)
   refine zN (Qm ?_)
   refine zU [(3,_),(8,_),(15,_),(16,_),(61,_),(62,_),(63,_),(68,_),(74,_)] (fun T L0 mz E I' loc'=>∃ (seen6:List Nat) (v6:Value) (q6:Nat) (L:Go.Kn.Loc),mz=mj.length-seen6.length∧E=(17,v6)::T∧J5=I'∧L++[(b_74,YN rj mj.length seen6),(b_68,YN rm (stM rows l).length (seen++[i])),(b_61,.cells (([[Value.map (some ra)],[Value.map (some rb)]]:List (List Value)).flatten).toArray 171 (0,0)),(r_20,ZR eiv eiv m2)]=loc'∧OwnS 3 1 v6 q6 (((ziY mj seen6).map fun p=>p.2+Va q.1 p.1).flatMap QR) L∧q6=seen6.length∧seen6.Nodup∧∀ i∈seen6,i<mj.length) ?_ (h:=⟨[],_,0,[],rfl,rfl,rfl,rfl,OwnS.nil,rfl,.nil,fun i h=>by cases h⟩)
   rintro mz E I' loc' ⟨seen6,v6,q6,L,rfl,rfl,rfl,rfl,hO6,hq6,hnd6,hlt6⟩
   have hsl6:=Jh hnd6 hlt6
   refine zR ?_
   refine Jv (ek:=eiv) (ev:=eiv) (m:=mj) (fun s'=>L++[(b_74,YN rj mj.length s'),(b_68,YN rm (stM rows l).length (seen++[i])),(b_61,.cells (([[Value.map (some ra)],[Value.map (some rb)]]:List (List Value)).flatten).toArray 171 (0,0)),(r_20,ZR eiv eiv m2)]) rfl (fun s'=>QJ .here) rfl rfl rfl rfl rfl (.inl hMj) (by simp) ?_
   intro t tv s' hno hyes
   refine zN (Ql ?_)
   refine zI ?_ ?_<;>intro hc76
   ·
    obtain ⟨i6,p6,hp6,hns6,rfl⟩:=hyes hc76
    have hb6:=(KU hRj hbj (.refl _) q.1).2.2.2 p6 (List.mem_of_getElem? hp6)
    have hst6:=Ud q.1 p6.1
    refine Qo (Qa (Qm (zR ?_)))
    refine zV (Jq (ek:=eiv) (ev:=eiv) (m:=mj) (p:=p6) (seen:=seen6) (i:=i6) rfl (.inl hMj) (.inr (by simp)) hp6) ?_
    refine zE ?_
    refine zE ?_
    refine zA ?_
    refine zA (zN (Qg ?_))
    refine zM ?_
    refine zM ?_
    refine zM ?_
    refine zM ?_
    refine qc (vs:=[_,_]) rfl zpU (zsh _ _ _) ?_
    refine zB ?_
    refine Qq (ps:=[(0,_)]) (m:=[QR (p6.2+Va q.1 p6.1)]) Zi rfl (.cons rfl (.nil)) rfl (by simp [Qv]) (by decide) (by decide) rfl rfl (fun b_86=>?_)
    refine QY (v:=_) (ys:=[(p6.2+Va q.1 p6.1)].flatMap QR) (L:=L) rfl rfl Zi hO6 (by repeat (first | exact .cons .here .nil | exact QD | exact Qw | apply QC | apply QB)) ⟨rfl,fun _=>rfl,zyc⟩ (JG _) (by omega) rfl rfl ?_
    intro v9 L9 hO9 _;rw [←List.flatMap_append] at hO9
    refine zA (Qb (Qh ?_))
    have hs9:=JH hnd6 hlt6 hns6 (List.getElem?_eq_some_iff.1 hp6).1
    exact zm (h:=⟨mj.length-(seen6++[i6]).length,by rw [List.length_append,List.length_singleton];have:=hs9.2.2;rw [List.length_append,List.length_singleton] at this;omega,seen6++[i6],v9,q6+1,L9,rfl,rfl,rfl,rfl,by rw [zaQ hp6,List.map_append];exact hO9,by rw [List.length_append,List.length_singleton];omega,hs9.1,hs9.2.1⟩)
   obtain ⟨rfl,hall6⟩:=hno hc76
   have hlen6:=(XJ hnd6 hlt6 hall6).length_eq
   rw [List.length_range] at hlen6
   have hne6:=hRj.ne
   have hbe:=KU hRj hbj (zdx hnd6 hlt6 hall6) q.1
   refine QI (Qf (Qf (Qk (Qa ?_))))
   refine Y9 hO6 Qv (by decide) Qw (fun I7 hI7 af7 cf7 ef7 hLst=>?_)
   subst ef7
   have hB4:=hB4.trans hI7
   have hD:=zye I7
   refine Jo ?_
   refine Z7 I7 [] mixed ?_
   refine zT 0 rfl (Qi rfl) hD ?_
   refine zT 1 rfl (Qi rfl) hD ?_
   refine zT 3 rfl (Qi rfl) hD ?_
   refine Zr 2 4 rfl rfl (by kernel_rfl) ?_ ?_
   ·
    refine zV (zau (m:=m2) (a:=q.1) Y5 ZE rfl rfl (fun _=>(by exact Mem.m3))) ?_
    refine Qb ?_
    refine zD hD ?_
    refine qd 4 rfl ?_
    refine qc (vs:=[_]) rfl zel (zaO hbe.1 hLst (by omega) (by omega)) ?_
    refine Qb ?_
    refine zD hD ?_
    refine zT 5 rfl (ZO rfl rfl rfl (fun hg=>by omega)) hD ?_
    refine qd 6 rfl ?_
    refine Q4 (m:=m2) (ek:=eiv) (ev:=eiv) (a:=q.1) ((Zy m2 q.1).getD 0+Yv (Q9 rows l) (if j=0 then (ZC rows xs l f (Qx xs s)) else (ZC rows xs l f (s-Qx xs s))) q.1) Y5 ZE rfl rfl rfl rfl (by repeat (first | exact Upd.here | apply Upd.there | apply QJ)) ?_
    refine Qb ?_
    refine zD hD ?_
    refine QG (by kernel_rfl) ?_
    refine QQ ?_
    refine Qh ?_
    have hs9:=JH hnd4 hlt4 hns (List.getElem?_eq_some_iff.1 hq).1
    rw [hlk,zeY hlt_j]
    exact zm (h:=⟨(stM rows l).length-(seen++[i]).length,by rw [List.length_append,List.length_singleton];have:=hs9.2.2;rw [List.length_append,List.length_singleton] at this;omega,seen++[i],Ys m2 q.1 (zeS (Q9 rows l) (ZC rows xs l f (Qx xs s)) (ZC rows xs l f (s-Qx xs s)) (j+1) q.1),rfl,rfl,hB4,rfl,znu hm2 hq,hs9.1,hs9.2.1⟩)
   refine qc (vs:=[_]) rfl zel (zaO hbe.1 hLst (by omega) (by omega)) ?_
   refine Qb ?_
   refine zD hD ?_
   refine qd 2 rfl ?_
   refine zV (zau (m:=m2) (a:=q.1) Y5 ZE rfl rfl (fun _=>(by exact Mem.m3))) ?_
   refine Qb ?_
   refine zD hD ?_
   refine zT 5 rfl (ZO rfl rfl rfl (fun hg=>by omega)) hD ?_
   refine qd 6 rfl ?_
   refine Q4 (m:=m2) (ek:=eiv) (ev:=eiv) (a:=q.1) ((Zy m2 q.1).getD 0+Yv (Q9 rows l) (if j=0 then (ZC rows xs l f (Qx xs s)) else (ZC rows xs l f (s-Qx xs s))) q.1) Y5 ZE rfl rfl rfl rfl (by repeat (first | exact Upd.here | apply Upd.there | apply QJ)) ?_
   refine Qb ?_
   refine zD hD ?_
   refine QG (by kernel_rfl) ?_
   refine QQ ?_
   refine Qh ?_
   have hs9:=JH hnd4 hlt4 hns (List.getElem?_eq_some_iff.1 hq).1
   rw [hlk,zeY hlt_j]
   exact zm (h:=⟨(stM rows l).length-(seen++[i]).length,by rw [List.length_append,List.length_singleton];have:=hs9.2.2;rw [List.length_append,List.length_singleton] at this;omega,seen++[i],Ys m2 q.1 (zeS (Q9 rows l) (ZC rows xs l f (Qx xs s)) (ZC rows xs l f (s-Qx xs s)) (j+1) q.1),rfl,rfl,hB4,rfl,znu hm2 hq,hs9.1,hs9.2.1⟩)
  obtain ⟨rfl,hall⟩:=hno hc70
  refine QI (Qf (Qf (Qk (Qh (Qa (Qg (zB ?_)))))))
  refine zM (Qb ?_)
  exact zm (h:=⟨2-(j+1),by omega,j+1,m2,rfl,rfl,hB2,rfl,by omega,zsb hm2 hnd4 hlt4 hall⟩)
 have hge_j:2≤j:=by have h:=hc64;simp at h;omega
 have hj2:j=2:=by omega
 subst hj2
 refine QI (Qf (Qf (Qk (Qa (zR (zM ?_))))))
 refine zA (zN (Qt ?_))
 first
 | exact Zv rfl rfl (fun w hw=>by obtain ⟨I9,h91,h92,h93⟩:=hw.freezeAll;exact ⟨_,I9,[],rfl,hIc.trans h91,h92,rfl,r_20,m,rfl,h93 _ _ (by simp),by rw [X6 hz];exact zqW (List.ne_nil_of_length_pos zfq) hRa hRb (by omega) (by omega) (by omega) hm⟩)
end
section
open Go Go.Kn Go.Proofs
theorem zqe:Fun Tryz.prog 199:=.of Tryz.func199 (by kernel_rfl) (by kernel_rfl)
theorem zo3:SzT Tryz.prog 171 1:=.of (by kernel_rfl)
theorem zoD:SzT Tryz.prog 274 1:=.of (by kernel_rfl)
theorem zuz:Yp Tryz.prog 171 (.map none):=.of (by kernel_rfl)
theorem zvq:Yp Tryz.prog 274 .nilFunc:=.of (by kernel_rfl)
theorem zcw {brow bloc bcst bcla bbel rm:Nat}{av bv:Option Addr}{n c n2 c2:Nat}{xs:List Int}{rows:List (List Int)}{l:Nat}(hn:n≤100000)(hn2:n2≤100000)(hl:∀ r∈rows,l<r.length)(hc:VY rows.length xs=0):∀ (f:Nat) (I:Qu),PrE I 233 brow bloc bcst bcla bbel rm av bv n c n2 c2 xs rows l→∀ (s:Int),OkS rows.length xs s→s.toNat≤f→Yg Tryz.prog 233 ([.int .i64 s]++[Zb brow,Zb bloc,Zb bcst,Zb bcla,Zb bbel]) I [] (zvR (Q9 rows l) (ZC rows xs l f s) (8*(s-1)))
 | 0,_,_,s,hok,hf=>by have:=hok.1;omega
 | f+1,I,hE,s,hok,hf=>zmo hE hn hn2 hl hc f s hok fun I' hI s' hok' hlt=>zcw hn hn2 hl hc f I' (hE.mono hI) s' hok' (by have:=hok'.1;have:=hok.1;omega)
theorem zi9 {I:Qu}{brow bloc bcst bcla bbel rm:Nat}{av bv:Option Addr}{n c n2 c2:Nat}{xs:List Int}{rows:List (List Int)}{l:Nat}(hE:PrE I 233 brow bloc bcst bcla bbel rm av bv n c n2 c2 xs rows l)(hn:n≤100000)(hn2:n2≤100000)(hl:∀ r∈rows,l<r.length)(hc:VY rows.length xs=0):Yg Tryz.prog 233 ([.int .i64 (IntKind.i64.wrap (1*2^(min (n2:Int).toNat IntKind.i64.bits))-1)]++[Zb brow,Zb bloc,Zb bcst,Zb bcla,Zb bbel]) I [] (zvR (Q9 rows l) (ZC rows xs l 64 (Vd rows.length)) (8*(Vd rows.length-1))):=by
 have hlV:=hE.hV.len
 subst hlV
 exact zcw hn hn2 hl hc 64 I hE (Vd rows.length) (zjC hc) (by have:=(zaD (n:=(rows.length:Int)) ⟨(ZW hc).1,(ZW hc).2.1⟩).2;omega)
theorem zra {I:Qu}{av:Option Addr}{n c:Nat}{xs:List Int}(hS:Sl I 1 QR av n c xs)(hn:n≤100000){bv:Option Addr}{n2 c2:Nat}{rows:List (List Int)}(hV:SlN I bv n2 c2 rows)(hn2:n2≤100000){l:Nat}(hDb:VI I)(hl:∀ r∈rows,l<r.length)(hl64:l≤64)(hc:VY rows.length xs=0):Zw Tryz.prog 199 [.slice bv n2 c2,.slice av n c,.int .i64 l] I (.int .i64 (Yn (ZC rows xs l 64 (Vd rows.length)))):=by
 intro g H w hw
 refine qe Tryz.func199 Tryz.ntmps199 hw ?_
 have hIc:=zye I
 obtain ⟨hs,hV⟩:=hV
 have hH:=hV.1
 have hlV:=hV.len
 have hal:=(ZW hc).1
 have hal6:=(ZW hc).2.1
 have hsl:=zn5 (rows:=rows) (l:=l)
 have hsh:=zeu (n:=(n2:Int)) ⟨by omega,by omega⟩
 refine zR ?_
 refine Q5 rfl rfl rfl (fun b_3=>?_)
 refine Q5 rfl rfl rfl (fun b_4=>?_)
 refine Q5 rfl rfl rfl (fun b_5=>?_)
 refine zA ?_
 refine zN (zR ?_)
 refine ZD rfl rfl (fun r_14=>?_)
 refine UU (m:=[]) (ek:=eiv) (ev:=eiv) (a:=0) 0 Y5 ZE rfl rfl rfl rfl (by repeat (first | exact Upd.here | apply Upd.there | apply QJ)) ?_
 refine zM ?_
 refine Qr zuz rfl rfl (fun b_7=>?_)
 refine zS zo3 ?_
 refine zN (Ql (zR ?_))
 refine zL Kl ?_
 refine zQ Zo ?_
 refine zM (zN (Qm ?_))
 refine zU [(3,_),(4,_),(5,_),(7,_),(16,_),(17,_)] (fun T L0 mz E I' loc'=>∃ (k:Nat),mz=n2-k∧E=(18,.int .i64 k)::T∧I=I'∧[(b_7,.cells #[.map (some r_14)] 171 (0,0)),(r_14,ZR eiv eiv (stM (rows.take k) l)),(b_5,.cells #[.int .i64 l] 3 (0,0)),(b_4,.cells #[.slice av n c] 23 (0,0)),(b_3,.cells #[.slice bv n2 c2] 22 (0,0))]=loc'∧k≤n2) ?_ (h:=⟨0,rfl,rfl,rfl,rfl,Nat.zero_le _⟩)
 rintro mz E I' loc' ⟨k,rfl,rfl,rfl,rfl,hk⟩
 refine zR (zC (zN (Ql ?_)))
 refine zI ?_ ?_<;>intro hc19
 ·
  have hlt_k:k<n2:=by have h:=hc19;simp at h;omega
  obtain ⟨x,v,hx,hv,hQ⟩:=hV.at hlt_k
  have hlv:=hl v (List.mem_of_getElem? hv)
  have hu:=Zk (d:=0) rfl hlv
  have hvn:=hQ.len
  refine Qo (Qa (Ql (Qm (zR ?_))))
  refine zV (zX Zo hH) ?_
  refine zV (Qd rfl QK (fun hg=>by exact zx7 hH hx rfl)) ?_
  refine zA ?_
  refine zN (zR ?_)
  refine zM ?_
  refine zL Qs ?_
  refine zV (zX Qy hQ) ?_
  refine zV (Qd rfl Qs (fun hg=>by exact zx7 hQ hu rfl)) ?_
  refine zC (zN ?_)
  refine zI ?_ ?_<;>intro hc26
  ·
   have hne:v.getD l 0≠8589934592:=by simpa using hc26
   have hD:=zye I
   refine Jo ?_
   refine Z7 I [(b_7,.cells #[.map (some r_14)] 171 (0,0)),(b_5,.cells #[.int .i64 l] 3 (0,0)),(b_4,.cells #[.slice av n c] 23 (0,0)),(b_3,.cells #[.slice bv n2 c2] 22 (0,0))] mixed ?_
   refine zT 0 rfl (Qd rfl zbN (fun hg=>by exact QU.h0 rfl)) hD ?_
   refine zT 1 rfl (Qi rfl) hD ?_
   refine zT 2 rfl (Qd rfl Qs (fun hg=>by exact QU.h1 rfl)) hD ?_
   refine zT 3 rfl (zX Qy hQ) hD ?_
   refine zT 4 rfl (Qd rfl Qs (fun hg=>by exact zx7 hQ hu rfl)) hD ?_
   refine qd 5 rfl ?_
   refine Q4 (m:=stM (rows.take k) l) (ek:=eiv) (ev:=eiv) (a:=v.getD l 0) 0 Y5 ZE rfl rfl rfl rfl (by repeat (first | exact Upd.here | apply Upd.there | apply QJ)) ?_
   refine Qb ?_
   refine zD hD ?_
   refine QG (by kernel_rfl) ?_
   refine QQ ?_
   rw [zpV hv hne]
   refine Qh (Qa (Qg (zB ?_)))
   refine zM (Qb ?_)
   exact zm (h:=⟨n2-(k+1),by omega,k+1,rfl,rfl,rfl,rfl,by omega⟩)
  have heq:v.getD l 0=8589934592:=by simpa using hc26
  rw [zlA hv heq]
  refine Qo (Qh (Qa (Qg (zB ?_))))
  refine zM (Qb ?_)
  exact zm (h:=⟨n2-(k+1),by omega,k+1,rfl,rfl,rfl,rfl,by omega⟩)
 have hge_k:n2≤k:=by have h:=hc19;simp at h;omega
 rw [List.take_of_length_le (show rows.length≤k by omega)]
 refine QI (Qf (Qf (Qk (Qa (zR ?_)))))
 refine Qr zvq rfl rfl (fun b_10=>?_)
 refine zN (zR ?_)
 refine zV (Zc (us:=[]) (vs:=[_,_,_,_,_]) rfl rfl) ?_
 refine zS zoD ?_
 refine zN (zR ?_)
 refine zA (zN (Ql (Ql ?_)))
 refine Vo (fun I2 hI2 hall=>?_)
 have hS:=hS.mono hI2;have hV:=hV.mono hI2;have hDb:=hDb.mono hI2;have hIc:=hIc.trans hI2
 have hE:PrE I2 233 b_3 b_5 b_7 b_4 b_10 r_14 av bv n c n2 c2 xs rows l:=⟨.imm (hall _ _ (by repeat (first | exact List.mem_cons_self .. | apply List.mem_cons_of_mem))) rfl,.imm (hall _ _ (by repeat (first | exact List.mem_cons_self .. | apply List.mem_cons_of_mem))) rfl,.imm (hall _ _ (by repeat (first | exact List.mem_cons_self .. | apply List.mem_cons_of_mem))) rfl,.imm (hall _ _ (by repeat (first | exact List.mem_cons_self .. | apply List.mem_cons_of_mem))) rfl,.imm (hall _ _ (by repeat (first | exact List.mem_cons_self .. | apply List.mem_cons_of_mem))) rfl,hall _ _ (by repeat (first | exact List.mem_cons_self .. | apply List.mem_cons_of_mem)),hDb,hS,⟨hs,hV⟩⟩
 have hD:=zye I2
 refine Kw mixed ?_
 refine zT 0 rfl (Qd rfl zdp (fun hg=>by exact hE.bel.any)) hD ?_
 refine zT 1 rfl (Qd rfl Kl (fun hg=>by exact hE.row.any)) hD ?_
 refine zT 2 rfl (ZH rfl Zo) hD ?_
 refine zT 3 rfl (Xu rfl rfl (fun hg=>by omega)) hD ?_
 refine zT 4 rfl (ZO rfl rfl rfl (fun hg=>by omega)) hD ?_
 refine qd 5 rfl ?_
 refine Qz (cap:=[Zb b_3,Zb b_5,Zb b_7,Zb b_4,Zb b_10]) (vs:=[_]) rfl rfl zd9 (by exact .nil) (zi9 hE hn hn2 hl hc) rfl rfl ?_
 rintro vv3 I3 L3 hI3 ⟨rfl,rm2,m,rfl,hM2,hR2⟩
 have hIc:=hIc.trans hI3;have hD:=hD.trans hI3
 have hml:=hR2.small
 have hmp:=hR2.ne
 refine Qb ?_
 refine zD hD ?_
 refine qd 6 rfl ?_
 refine Jt (ek:=eiv) (ev:=eiv) (m:=m) rfl Y5 rfl rfl (.inl hM2) (fun b_40=>?_)
 refine Qb ?_
 refine zD hD ?_
 refine QG (by kernel_rfl) ?_
 refine QQ ?_
 refine Qa (Qm ?_)
 refine zU [(40,_)] (fun T L0 mz E I' loc'=>∃ (seen:List Nat) (v6:Value) (q6:Nat) (L:Go.Kn.Loc),mz=m.length-seen.length∧E=(11,v6)::T∧I3=I'∧L++[(b_40,YN rm2 m.length seen)]=loc'∧OwnS 3 1 v6 q6 (((ziY m seen).map (·.2)).flatMap QR) L∧q6=seen.length∧seen.Nodup∧∀ i∈seen,i<m.length) ?_ (h:=⟨[],_,0,[],rfl,rfl,rfl,rfl,OwnS.nil,rfl,.nil,fun i h=>by cases h⟩)
 rintro mz E I' loc' ⟨seen,v6,q6,L,rfl,rfl,rfl,rfl,hO6,hq6,hnd,hlt⟩
 have hsl6:=Jh hnd hlt
 refine zR ?_
 refine Jv (ek:=eiv) (ev:=eiv) (m:=m) (fun s'=>L++[(b_40,YN rm2 m.length s')]) rfl (fun s'=>QJ .here) rfl rfl rfl rfl rfl (.inl hM2) (by simp) ?_
 intro t tv s' hno hyes
 refine zN (Ql ?_)
 refine zI ?_ ?_<;>intro hc42
 ·
  obtain ⟨i,q,hq,hns,rfl⟩:=hyes hc42
  refine Qo (Qa (Qm (zR ?_)))
  refine zV (Jq (ek:=eiv) (ev:=eiv) (m:=m) (p:=q) (seen:=seen) (i:=i) rfl (.inl hM2) (.inr (by simp)) hq) ?_
  refine zE ?_
  refine zA (zN (Qg ?_))
  refine zM ?_
  refine zM ?_
  refine Qq (ps:=[(0,_)]) (m:=[QR q.2]) Zi rfl (.cons rfl (.nil)) rfl (by simp [Qv]) (by decide) (by decide) rfl rfl (fun b_47=>?_)
  refine QY (v:=_) (ys:=[q.2].flatMap QR) (L:=L) rfl rfl Zi hO6 (by repeat (first | exact .cons .here .nil | exact QD | exact Qw | apply QC | apply QB)) ⟨rfl,fun _=>rfl,zyc⟩ (JG _) (by omega) rfl rfl ?_
  intro v9 L9 hO9 _;rw [←List.flatMap_append] at hO9
  refine zA (Qb (Qh ?_))
  have hs9:=JH hnd hlt hns (List.getElem?_eq_some_iff.1 hq).1
  exact zm (h:=⟨m.length-(seen++[i]).length,by rw [List.length_append,List.length_singleton];have:=hs9.2.2;rw [List.length_append,List.length_singleton] at this;omega,seen++[i],v9,q6+1,L9,rfl,rfl,rfl,rfl,by rw [zaQ hq,List.map_append];exact hO9,by rw [List.length_append,List.length_singleton];omega,hs9.1,hs9.2.1⟩)
 obtain ⟨rfl,hall2⟩:=hno hc42
 have hlen6:=(XJ hnd hlt hall2).length_eq
 rw [List.length_range] at hlen6
 refine QI (Qf (Qf (Qk (Qa (Ql ?_)))))
 refine Y9 hO6 Qv (by decide) Qw (fun I5 hI5 af5 cf5 ef5 hLst=>?_)
 subst ef5
 have hIc:=hIc.trans hI5
 refine Qg (zM ?_)
 refine qc (vs:=[_]) rfl zel (zaO (zjN hR2 (zdx hnd hlt hall2)) hLst (by omega) (by omega)) ?_
 refine zA (zN (Qt ?_))
 exact zp hIc rfl rfl (by rfl)
theorem ztO {I:Qu}{av:Option Addr}{n c:Nat}{xs:List Int}(hS:Sl I 1 QR av n c xs)(hn:n≤100000){bv:Option Addr}{n2 c2:Nat}{rows:List (List Int)}(hV:SlN I bv n2 c2 rows)(hn2:n2≤100000)(hDb:VI I)(hr:VM rows=0)(hc:VY rows.length xs=0):Zw Tryz.prog 152 [.slice bv n2 c2,.slice av n c] I (.int .i64 (zhe rows xs)):=by
 intro g H w hw
 refine qe Tryz.func152 Tryz.ntmps152 hw ?_
 obtain ⟨hs,hV⟩:=hV
 have hH:=hV.1
 have hlV:=hV.len
 obtain ⟨hr1,hr6,hr64,hrr⟩:=We hr
 obtain ⟨x0,v0,hx0,hv0,hQ0⟩:=hV.at (show 0<n2 by omega)
 have hw0:=hQ0.len
 have hg0:=Q1 (d:=([]:List Int)) hv0
 have hv64:v0.length≤64:=by rw [←hg0];exact hr64
 refine zR (zA (zN (Ql (zR ?_))))
 refine zM ?_
 refine zV (zX Zo hH) ?_
 refine zV (Qd rfl QK (fun hg=>by exact zx7 (k:=0) hH hx0 rfl)) ?_
 refine zQ Qy ?_
 refine zM (zN (Qm ?_))
 refine zU [(0,_),(1,_),(9,_)] (fun T L0 mz E I' loc'=>∃ (k:Nat) (sm:Int),mz=v0.length-k∧E=(4,.int .i64 sm)::(10,.int .i64 k)::T∧I=I'∧[]=loc'∧k≤v0.length∧sm=zch rows xs k∧0≤sm∧sm≤k*1099511627776) ?_ (h:=⟨0,_,rfl,rfl,rfl,rfl,Nat.zero_le _,rfl,Int.le_refl _,(show (0:Int)≤((0:Nat):Int)*1099511627776 by decide)⟩)
 rintro mz E I' loc' ⟨k,sm,rfl,rfl,rfl,rfl,hk,hsm,hs1,hs2⟩
 refine zR (zC (zN (Ql ?_)))
 refine zI ?_ ?_<;>intro hc11
 ·
  have hlt_k:k<v0.length:=by have h:=hc11;simp at h;omega
  refine Qo (Qa (Ql (Qm (zR (zM ?_)))))
  refine zA (zN (Qg ?_))
  refine zM ?_
  refine zM ?_
  refine zM ?_
  refine zM ?_
  refine qc (vs:=[_,_,_]) rfl zqe (zra (l:=k) hS hn ⟨hs,hV⟩ hn2 hDb (fun r hm=>by rw [(hrr r hm).1,hg0];omega) (by omega) hc) ?_
  refine zV (ZO rfl rfl rfl (fun _=>by (have hmi:0≤Yn (ZC rows xs k 64 (Vd rows.length))∧Yn (ZC rows xs k 64 (Vd rows.length))≤1099511627776:=zed (cs:=(ZC rows xs k 64 (Vd rows.length))) (UI _ _) (by rw [XB];exact zfq) (ZC rows xs k 64 (Vd rows.length)).length;omega))) ?_
  refine zA (Qb (Qh (Qa (Qg ?_))))
  refine zB ?_
  refine zM (Qb ?_)
  exact zm (h:=⟨v0.length-(k+1),by omega,k+1,_,rfl,rfl,rfl,rfl,by omega,by rw [zfW,hsm],by have hmi:0≤Yn (ZC rows xs k 64 (Vd rows.length))∧Yn (ZC rows xs k 64 (Vd rows.length))≤1099511627776:=zed (cs:=(ZC rows xs k 64 (Vd rows.length))) (UI _ _) (by rw [XB];exact zfq) (ZC rows xs k 64 (Vd rows.length)).length;omega,by have hmi:0≤Yn (ZC rows xs k 64 (Vd rows.length))∧Yn (ZC rows xs k 64 (Vd rows.length))≤1099511627776:=zed (cs:=(ZC rows xs k 64 (Vd rows.length))) (UI _ _) (by rw [XB];exact zfq) (ZC rows xs k 64 (Vd rows.length)).length;omega⟩)
 have hge_k:k=v0.length:=by have h:=hc11;simp at h;omega
 refine QI (Qf (Qf (Qk (Qa (zR (zM ?_))))))
 refine zA (zN (Qt ?_))
 first
 | exact zr rfl rfl (by rw [hsm,hge_k,←hg0];rfl)
end
end Go.Proofs.YtodakphagkommaaGreatDoor
