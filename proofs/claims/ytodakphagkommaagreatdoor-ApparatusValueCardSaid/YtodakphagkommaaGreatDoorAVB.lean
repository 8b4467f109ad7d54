/- apparatusValue_holds, part B of the proof: what its theorems say holds without further conditions. -/
import Derived.Laws.MakeOwn
import Derived.Sort.Row
import Derived.Sort.Grow
import Derived.Test.YtodakphagkommaaGreatDoorProg
import Derived.KernelRfl
import Derived.Lib.Hide
import Derived.Test.YtodakphagkommaaGreatDoorAVA
namespace Go.Kn
section
open Go
def K3 (a b:Int):Int:=IntKind.i64.wrap ((BitVec.ofInt 64 a&&& BitVec.ofInt 64 b).toNat:Int)
def orI (a b:Int):Int:=IntKind.i64.wrap ((BitVec.ofInt 64 a||| BitVec.ofInt 64 b).toNat:Int)
def zd9 (a b:Int):Int:=IntKind.i64.wrap ((BitVec.ofInt 64 a&&& ~~~(BitVec.ofInt 64 b)).toNat:Int)
section
variable {C:Cx} {Q:Exit→Act→World→Prop} {E E':Env} {I I':Qu} {loc loc' L R:Loc} {ops:Array Oper} {rest:List Oper} {S:GS}
variable {dst:Option Tmp} {d:Nat} {ty:TypeId} {pos:String} {af:Array Edge} {gd:Option (Nat×Bool)} {x y z:Operand} {a b:Int}
theorem zay {t t':TypeId}(hx:QA S E x=some (.int .i64 a))(hy:QA S E y=some (.int .i64 b)):QV C S E I loc ⟨dst,.binOp .and t x y t',ty,pos,af,gd⟩ (.int .i64 (K3 a b)):=
 .of (by intro c e;cases e) fun ac w ha hg hc _=>by
  simp only [execOp,Qj ha hg hc hx,Qj ha hg hc hy,Sem.run_bind,ZK,Result.andThen,binOp,ne_eq,not_true_eq_false,if_false,Op.intBits,Sem.run_pure,K3,IntKind.bits];rfl
theorem zyY {t t':TypeId}(hx:QA S E x=some (.int .i64 a))(hy:QA S E y=some (.int .i64 b)):QV C S E I loc ⟨dst,.binOp .or t x y t',ty,pos,af,gd⟩ (.int .i64 (orI a b)):=
 .of (by intro c e;cases e) fun ac w ha hg hc _=>by
  simp only [execOp,Qj ha hg hc hx,Qj ha hg hc hy,Sem.run_bind,ZK,Result.andThen,binOp,ne_eq,not_true_eq_false,if_false,Op.intBits,Sem.run_pure,orI,IntKind.bits];rfl
theorem zdC {t t':TypeId}(hx:QA S E x=some (.int .i64 a))(hy:QA S E y=some (.int .i64 b)):QV C S E I loc ⟨dst,.binOp .andNot t x y t',ty,pos,af,gd⟩ (.int .i64 (zd9 a b)):=
 .of (by intro c e;cases e) fun ac w ha hg hc _=>by
  simp only [execOp,Qj ha hg hc hx,Qj ha hg hc hy,Sem.run_bind,ZK,Result.andThen,binOp,ne_eq,not_true_eq_false,if_false,Op.intBits,Sem.run_pure,zd9,IntKind.bits];rfl
theorem zaa {t t':TypeId}{k k':IntKind}(hx:QA S E x=some (.int k a))(hy:QA S E y=some (.int k' b))(h0:ZY S=true→0≤b):QV C S E I loc ⟨dst,.binOp .shl t x y t',ty,pos,af,gd⟩ (.int k (k.wrap (a*2^(min b.toNat k.bits)))):=
 .of (by intro c e;cases e) fun ac w ha hg hc _=>by
  have:=h0 hc
  simp only [execOp,Qj ha hg hc hx,Qj ha hg hc hy,Sem.run_bind,ZK,Result.andThen,binOp,Op.shift,if_neg (show ¬b<0 by omega),Sem.run_pure]
theorem zon {t:TypeId}(hx:QA S E x=some (.int .i64 a)):QV C S E I loc ⟨dst,.unOp .neg t x,ty,pos,af,gd⟩ (.int .i64 (IntKind.i64.wrap (0-a))):=
 .of (by intro c e;cases e) fun ac w ha hg hc _=>by
  simp only [execOp,Qj ha hg hc hx];rfl
def Kq (a b:Int):Int:=if b<a then b else a
def ztl (a b:Int):Int:=if b>a then b else a
theorem znZ {k:IntKind}{ats:Array TypeId}(hx:QA S E x=some (.int k a))(hy:QA S E y=some (.int k b)):QV C S E I loc ⟨dst,.call ⟨.builtin .min, #[x,y],ats⟩,ty,pos,af,gd⟩ (.int k (Kq a b)):=
 .of (by intro c e;cases e) fun ac w ha hg hc hw=>by
  simp only [execOp,resolve,List.map_toArray,List.map_cons,List.map_nil,Qj ha hg hc hx,Qj ha hg hc hy,Sem.run_bind,Sem.run_pure,Result.andThen,invoke,builtin];rfl
theorem Y8 {k:IntKind}{ats:Array TypeId}(hx:QA S E x=some (.int k a))(hy:QA S E y=some (.int k b)):QV C S E I loc ⟨dst,.call ⟨.builtin .max, #[x,y],ats⟩,ty,pos,af,gd⟩ (.int k (ztl a b)):=
 .of (by intro c e;cases e) fun ac w ha hg hc hw=>by
  simp only [execOp,resolve,List.map_toArray,List.map_cons,List.map_nil,Qj ha hg hc hx,Qj ha hg hc hy,Sem.run_bind,Sem.run_pure,Result.andThen,invoke,builtin];rfl
theorem KA {t e n size:Nat}{k:IntKind}{cs:List Value}{i:Int}{v:Value}(hx:QA S E x=some (.agg cs.toArray))(hy:QA S E y=some (.int k i))(hT:ArT C.P t n e size)(hS:ScT C.P e)(hb:ZY S=true→0≤i∧i<(n:Int))(hv:ZY S=true→cs[i.toNat*size]? =some v):
  QV C S E I loc ⟨dst,.index t x y,ty,pos,af,gd⟩ v:=
 .of (by intro c e;cases e) fun ac w ha hg hc _=>by
  obtain ⟨h1,j,h2,h3⟩:=hT
  have h4:cs.toArray[i.toNat*size]? =some v:=by simpa using hv hc
  simp only [execOp,Qj ha hg hc hx,Qj ha hg hc hy,Instr.index,asIntOf,Sem.run_bind,Sem.run_pure,run_underlying h1,Result.andThen,if_pos (hb hc),run_sizeOf h2,h3,part,Yj hS,Bool.false_eq_true,if_false,h4]
theorem zhu {t e n size:Nat}{k:IntKind}{cs:List Value}{i:Int}(hx:QA S E x=some (.agg cs.toArray))(hy:QA S E y=some (.int k i))(hT:ArT C.P t n e size)(hA:AgT C.P e size)(hb:ZY S=true→0≤i∧i<(n:Int)):
  QV C S E I loc ⟨dst,.index t x y,ty,pos,af,gd⟩ (.agg ((cs.drop (i.toNat*size)).take size).toArray):=
 .of (by intro c e;cases e) fun ac w ha hg hc _=>by
  obtain ⟨h1,j,h2,h3⟩:=hT
  have h5:cs.toArray.extract (i.toNat*size) (i.toNat*size+size)=((cs.drop (i.toNat*size)).take size).toArray:=by simp
  simp only [execOp,Qj ha hg hc hx,Qj ha hg hc hy,Instr.index,asIntOf,Sem.run_bind,Sem.run_pure,run_underlying h1,Result.andThen,if_pos (hb hc),run_sizeOf h2,h3,part,Y7 hA,if_true,h5]
end
section
variable {P:Program} {fn:Func} {R:Ending→World→Prop} {N:Nat} {g:World} {I H:Qu} {loc:Loc} {E:Env} {r:Option Nat}
theorem Ys {t tt n b:Nat}{vs:List Value}(hr:fn.results= #[.cell t tt])(hv:V1 E t=some (.pointer (some ⟨b,0,none⟩)))(hA:AgT P tt n)(hc:Cells I loc b 0 vs)(hn:vs.length=n)(h:∀ w,St g I H loc w→R (.returned (.agg vs.toArray)) w):
  At ⟨P,r,N,[],g,H⟩ (bodyPost P fn R) .ret E I loc:=fun a w ha hw=>
 ⟨ha.defers,.agg vs.toArray,by
  have e1:=ha.env _ _ hv
  rw [Array.getD_eq_getD_getElem?] at e1
  have h1:(loadCells ⟨b,0,none⟩ n).run P w= .ok vs.toArray w:=by
   rw [←hn]
   exact run_loadCells_list w _ _ fun j v hj=>by rw [Yp];exact (hc j v hj).get hw
  have hA':=hA
  obtain ⟨_,i,h2,h3⟩:=hA'
  have l1:(loadVar tt ⟨b,0,none⟩).run P w= .ok (.agg vs.toArray) w:=by
   simp only [loadVar,Sem.run_bind,Sem.run_pure,Y7 hA,Result.andThen,if_true,run_sizeOf h2,h3,h1]
  simp only [results,hr]
  simp [List.mapM_cons,e1,asAddr,l1],h w hw⟩
end
end
section
open Go
theorem WB {P:Program}{w:World}{dd:Nat}{f:Field}{fs:List Field}{cx cy:Array Value}{u v:Value}{c r:Bool}(hn:f.name≠ "_")(h1:(part f.type cx f.offset).run P w= .ok u w)(h2:(part f.type cy f.offset).run P w= .ok v w)
  (hc:(Op.equalIn dd f.type u v).run P w= .ok c w)(hr:(Op.eqFields dd cx cy fs).run P w= .ok r w):(Op.eqFields dd cx cy (f::fs)).run P w= .ok (c&&r) w:=by
 simp only [Op.eqFields,if_pos hn,Sem.run_bind,h1,h2,hc,Result.andThen,Sem.run_ite]
 cases c with
 | false=>simp
 | true=>simpa using hr
def zg9 (P:Program):List Field→Nat→Option (List EqK)
 | [],_=>some []
 | f::fs,k=>if f.name≠ "_" ∧f.offset=k then
   match zaj P f.type with
   | some q=>(zg9 P fs (k+1)).map (q:: ·)
   | none=>match P.underlying f.type with
    | some (.struct gs)=>if P.stoodInHeld f.type=false then
      match zal P gs.toList 0,P.info? f.type with
      | some l,some i=>if i.size=l.length then (zg9 P fs (k+l.length)).map (l++ ·) else none
      | _,_=>none
     else none
    | _=>none
  else none
def zx4 (P:Program)(t:Nat)(ks:List EqK):Prop:=P.underlying t=some (.struct (P.fieldsOf t))∧P.stoodInHeld t=false∧P.eqGuardType P.depth t=false∧zg9 P (P.fieldsOf t).toList 0=some ks
theorem XF:∀ {k1 k2:List EqK} {xs ys:List Value} {b:Bool},Ka (k1++k2) xs ys=some b→∃ u1 u2 v1 v2 b1 b2,xs=u1++u2∧ys=v1++v2∧u1.length=k1.length∧v1.length=k1.length∧Ka k1 u1 v1=some b1∧Ka k2 u2 v2=some b2∧b=(b1&&b2)
 | [],k2,xs,ys,b,h=>⟨[],xs,[],ys,true,b,rfl,rfl,rfl,rfl,rfl,h,by simp⟩
 | .int::k1,k2,xs,ys,b,h=>by
  match xs,ys,h with
  | .int k a::xs,.int k' c::ys,h=>
   simp only [List.cons_append,Ka] at h
   split at h
   ·
    rename_i hk
    cases hr:Ka (k1++k2) xs ys with
    | none=>rw [hr] at h;cases h
    | some r=>
     rw [hr] at h
     obtain ⟨u1,u2,v1,v2,b1,b2,rfl,rfl,h1,h2,h3,h4,rfl⟩:=XF hr
     refine ⟨.int k a::u1,u2,.int k' c::v1,v2,(a==c&&b1),b2,rfl,rfl,by simp [h1],by simp [h2],?_,h4,?_⟩
     ·
      simp only [Ka,if_pos hk,h3]
     ·
      simp only [Option.some.injEq] at h;rw [←h,Bool.and_assoc]
   ·
    cases h
 | .str::k1,k2,xs,ys,b,h=>by
  match xs,ys,h with
  | .string a::xs,.string c::ys,h=>
   simp only [List.cons_append,Ka] at h
   cases hr:Ka (k1++k2) xs ys with
   | none=>rw [hr] at h;cases h
   | some r=>
    rw [hr] at h
    obtain ⟨u1,u2,v1,v2,b1,b2,rfl,rfl,h1,h2,h3,h4,rfl⟩:=XF hr
    refine ⟨.string a::u1,u2,.string c::v1,v2,(zu8 a c&&b1),b2,rfl,rfl,by simp [h1],by simp [h2],?_,h4,?_⟩
    ·
     simp only [Ka,h3]
    ·
     simp only [Option.some.injEq] at h;rw [←h,Bool.and_assoc]
 | .bool::k1,k2,xs,ys,b,h=>by
  match xs,ys,h with
  | .bool a::xs,.bool c::ys,h=>
   simp only [List.cons_append,Ka] at h
   cases hr:Ka (k1++k2) xs ys with
   | none=>rw [hr] at h;cases h
   | some r=>
    rw [hr] at h
    obtain ⟨u1,u2,v1,v2,b1,b2,rfl,rfl,h1,h2,h3,h4,rfl⟩:=XF hr
    refine ⟨.bool a::u1,u2,.bool c::v1,v2,(a==c&&b1),b2,rfl,rfl,by simp [h1],by simp [h2],?_,h4,?_⟩
    ·
     simp only [Ka,h3]
    ·
     simp only [Option.some.injEq] at h;rw [←h,Bool.and_assoc]
theorem zaN {P:Program}{w:World}{t:TypeId}{cs:Array Value}{off:Nat}{v:Value}(h:ScT P t)(hv:cs[off]? =some v):(part t cs off).run P w= .ok v w:=by
 simp only [part,Sem.run_bind,Yj h,Result.andThen,Bool.false_eq_true,if_false,hv,Sem.run_pure]
theorem zan {P:Program}{w:World}{t:TypeId}{cs:Array Value}{off n:Nat}(h:AgT P t n):(part t cs off).run P w= .ok (.agg (cs.extract off (off+n))) w:=by
 obtain ⟨i,hi,hs⟩:=h.2
 simp only [part,Sem.run_bind,Y7 h,Result.andThen,if_true,run_sizeOf hi,hs,Sem.run_pure]
theorem zaE (a b c:List Value)(n m:Nat)(hn:a.length=n)(hm:b.length=m):(a++(b++c)).toArray.extract n (n+m)=b.toArray:=by
 subst hn;subst hm
 apply Array.ext'
 simp
theorem zkc {P:Program}{w:World}{dd:Nat}{t:TypeId}{q:EqK}(hk:zaj P t=some q){ks:List EqK}{xs ys:List Value}{b:Bool}(he:Ka (q::ks) xs ys=some b):
  ∃ u v us vs c r,xs=u::us∧ys=v::vs∧ScT P t∧(Op.equalIn (dd+1) t u v).run P w= .ok c w∧Ka ks us vs=some r∧b=(c&&r):=by
 unfold zaj at hk
 cases hu:P.underlying t with
 | none=>rw [hu] at hk;cases hk
 | some td=>
  rw [hu] at hk
  cases td<;>simp only [Option.some.injEq,reduceCtorEq] at hk
  case int kk=>
   subst hk
   match xs,ys,he with
   | .int k a::xs,.int k' c::ys,he=>
    simp only [Ka] at he
    split at he
    ·
     rename_i hkk
     subst hkk
     cases hr:Ka ks xs ys with
     | none=>rw [hr] at he;cases he
     | some r=>
      rw [hr] at he
      simp only [Option.some.injEq] at he
      exact ⟨_,_,xs,ys,(a==c),r,rfl,rfl,⟨_,hu,trivial⟩,run_equalIn_int w dd t k kk a c hu,hr,he.symm⟩
    ·
     cases he
  case string=>
   subst hk
   match xs,ys,he with
   | .string a::xs,.string c::ys,he=>
    simp only [Ka] at he
    cases hr:Ka ks xs ys with
    | none=>rw [hr] at he;cases he
    | some r=>
     rw [hr] at he
     simp only [Option.some.injEq] at he
     exact ⟨_,_,xs,ys,_,r,rfl,rfl,⟨_,hu,trivial⟩,run_equalIn_string w dd t a c hu,hr,he.symm⟩
  case bool=>
   subst hk
   match xs,ys,he with
   | .bool a::xs,.bool c::ys,he=>
    simp only [Ka] at he
    cases hr:Ka ks xs ys with
    | none=>rw [hr] at he;cases he
    | some r=>
     rw [hr] at he
     simp only [Option.some.injEq] at he
     exact ⟨_,_,xs,ys,(a==c),r,rfl,rfl,⟨_,hu,trivial⟩,run_equalIn_bool' w dd t a c hu,hr,he.symm⟩
theorem Jk {P:Program}{w:World}(dd:Nat):∀ (fs:List Field) (ks:List EqK) (k:Nat) (pre xs pre' ys:List Value) (b:Bool),zg9 P fs k=some ks→pre.length=k→pre'.length=k→Ka ks xs ys=some b→
  (Op.eqFields (dd+2) (pre++xs).toArray (pre'++ys).toArray fs).run P w= .ok b w
 | [],ks,k,pre,xs,pre',ys,b,hf,_,_,he=>by
  simp only [zg9,Option.some.injEq] at hf
  subst hf
  cases xs<;>cases ys<;>simp only [Ka] at he<;>first | (cases he;rfl) | cases he
 | f::fs,ks,k,pre,xs,pre',ys,b,hf,hp,hp',he=>by
  simp only [zg9] at hf
  split at hf
  ·
   rename_i hn
   cases hk:zaj P f.type with
   | some q=>
    rw [hk] at hf
    simp only [Option.map_eq_some_iff] at hf
    obtain ⟨l,hl,rfl⟩:=hf
    obtain ⟨u,v,us,vs,c,r,rfl,rfl,hs,hc,hr,rfl⟩:=zkc (w:=w) (dd:=dd+1) hk he
    refine WB hn.1 (zaN hs (by rw [hn.2,←hp];simp)) (zaN hs (by rw [hn.2,←hp'];simp)) hc ?_
    have:=Jk (P:=P) (w:=w) dd fs l (k+1) (pre++[u]) us (pre'++[v]) vs r hl (by simp [hp]) (by simp [hp']) hr
    simpa using this
   | none=>
    rw [hk] at hf
    simp only at hf
    cases hu:P.underlying f.type with
    | none=>rw [hu] at hf;cases hf
    | some td=>
     rw [hu] at hf
     cases td<;>simp only [reduceCtorEq] at hf
     rename_i gs
     split at hf
     ·
      rename_i hst
      cases hfl:zal P gs.toList 0 with
      | none=>rw [hfl] at hf;simp at hf
      | some l2=>
       cases hin:P.info? f.type with
       | none=>rw [hfl,hin] at hf;simp at hf
       | some i=>
        rw [hfl,hin] at hf
        simp only at hf
        split at hf
        ·
         rename_i hsz
         simp only [Option.map_eq_some_iff] at hf
         obtain ⟨l,hl,rfl⟩:=hf
         obtain ⟨u1,u2,v1,v2,b1,b2,rfl,rfl,hu1,hv1,h1,h2,rfl⟩:=XF he
         have hag:AgT P f.type l2.length:=⟨⟨_,hu,trivial⟩,i,hin,hsz⟩
         have hfo:P.fieldsOf f.type=gs:=by unfold Program.fieldsOf;rw [hu]
         refine WB (u:=.agg u1.toArray) (v:=.agg v1.toArray) hn.1 ?_ ?_ ?_ ?_
         ·
          rw [zan hag,hn.2,zaE pre u1 u2 k l2.length hp hu1]
         ·
          rw [zan hag,hn.2,zaE pre' v1 v2 k l2.length hp' hv1]
         ·
          rw [run_equalIn_struct w (dd+1) f.type _ _ (by rw [hfo];exact hu) hst,hfo]
          have:=Xm (P:=P) (w:=w) dd gs.toList l2 0 [] u1 [] v1 b1 hfl rfl rfl h1
          simpa using this
         ·
          have:=Jk (P:=P) (w:=w) dd fs l (k+l2.length) (pre++u1) u2 (pre'++v1) v2 b2 hl (by simp [hp,hu1]) (by simp [hp',hv1]) h2
          simpa [List.append_assoc] using this
        ·
         cases hf
     ·
      cases hf
  ·
   cases hf
variable {C:Cx} {Q:Exit→Act→World→Prop} {E E':Env} {I I':Qu} {loc loc' L R:Loc} {ops:Array Oper} {rest:List Oper} {S:GS}
variable {dst:Option Tmp} {d:Nat} {ty:TypeId} {pos:String} {af:Array Edge} {gd:Option (Nat×Bool)} {x y z:Operand}
theorem zbq {t t':TypeId}{ks:List EqK}{us vs:List Value}{b:Bool}(hx:QA S E x=some (.agg us.toArray))(hy:QA S E y=some (.agg vs.toArray))(hT:zx4 C.P t ks)(h:Ka ks us vs=some b):QV C S E I loc ⟨dst,.binOp .eql t x y t',ty,pos,af,gd⟩ (.bool b):=
 .of (by intro c e;cases e) fun a w ha hg hc _=>by
  have:=Jk (P:=C.P) (w:=w) 9997 _ _ 0 [] us [] vs b hT.2.2.2 rfl rfl h
  simp only [List.nil_append] at this
  simp only [execOp,Qj ha hg hc hx,Qj ha hg hc hy,Sem.run_bind,run_eqGuard_agg w _ _ _ _ _ _ hT.2.2.1,Result.andThen,run_eql_struct,run_equalIn_struct w 9999 t _ _ hT.1 hT.2.1,this,Sem.run_pure]
theorem zaO {t t':TypeId}{ks:List EqK}{us vs:List Value}{b:Bool}(hx:QA S E x=some (.agg us.toArray))(hy:QA S E y=some (.agg vs.toArray))(hT:zx4 C.P t ks)(h:Ka ks us vs=some b):QV C S E I loc ⟨dst,.binOp .neq t x y t',ty,pos,af,gd⟩ (.bool (!b)):=
 .of (by intro c e;cases e) fun a w ha hg hc _=>by
  have:=Jk (P:=C.P) (w:=w) 9997 _ _ 0 [] us [] vs b hT.2.2.2 rfl rfl h
  simp only [List.nil_append] at this
  simp only [execOp,Qj ha hg hc hx,Qj ha hg hc hy,Sem.run_bind,run_eqGuard_agg w _ _ _ _ _ _ hT.2.2.1,Result.andThen,run_neq_struct,run_equalIn_struct w 9999 t _ _ hT.1 hT.2.1,this,Sem.run_pure]
end
section
open Go
def mk (ms:List Nat):List Deferred:=ms.map fun b=>{target:=.collected b,args:= #[]}
def MB:List Nat→Loc
 | []=>[]
 | b::ms=>MB ms++[(b,.deferred (some []))]
def ztF (C:Cx)(M:List Nat→Env→Qu→Loc→Prop):Act→World→Prop:=fun a w=>∃ ms E I loc,M ms E I loc∧KD C.N (mk ms) E a∧St C.g I C.H loc w
section
variable {P:Program} {r:Option Nat} {N:Nat} {g:World} {H:Qu} {Q:Exit→Act→World→Prop} {E E':Env} {I I':Qu} {loc loc' L R:Loc} {ms:List Nat}
theorem zoQ {x y:Code}(T:Env)(_hT:Sub T E)(M:Env→Loc→List Nat→Env→Qu→Loc→Prop)(h1:X ⟨P,r,N,mk ms,g,H⟩ (Exit.then (ztF ⟨P,r,N,[],g,H⟩ (M T loc)) Q) x E I loc)
  (h2:∀ ms E I loc',M T loc ms E I loc'→X ⟨P,r,N,mk ms,g,H⟩ Q y E I loc'):X ⟨P,r,N,mk ms,g,H⟩ Q (.seq x y) E I loc:=fun a w ha hw=>
 wpIn_seq (wpIn_mono (h1 a w ha hw) fun e a' w' hq=>by
  cases e with
  | normal=>obtain ⟨ms',E',I',loc',hM,hf,hs⟩:=hq;exact h2 ms' E' I' loc' hM _ _ hf hs
  | _=>exact hq)
theorem zce {M:List Nat→Env→Qu→Loc→Prop}{C':Cx}(hN:C'.N=N)(hg:C'.g=g)(hH:C'.H=H)(E':Env)(loc':Loc)(hM:M ms E' I loc')(hE:Sub E' E)(hs:KJ loc' loc):At ⟨P,r,N,mk ms,g,H⟩ (Exit.then (ztF C' M) Q) .normal E I loc:=
 fun _ _ ha hw=>⟨ms,E',I,loc',hM,by rw [hN];exact ha.sub hE,by rw [hg,hH];exact hw.dropTo hs⟩
theorem zn {M:List Nat→Env→Qu→Loc→Prop}{C':Cx}{E':Env}{loc':Loc}(hN:C'.N=N:=by exact rfl)(hg:C'.g=g:=by exact rfl)(hH:C'.H=H:=by exact rfl)(hE:Sub E' E:=by repeat (first | exact .nil | refine .cons rfl ?_))(h:M ms E' I loc')(hs:KJ loc' loc:=by repeat (first | exact .refl | refine .keep ?_ | refine .drop ?_)):At ⟨P,r,N,mk ms,g,H⟩ (Exit.then (ztF C' M) Q) .normal E I loc:=zce hN hg hH E' loc' h hE hs
theorem zd {M:List Nat→Env→Qu→Loc→Prop}{C':Cx}{E':Env}{loc':Loc}(hN:C'.N=N:=by exact rfl)(hg:C'.g=g:=by exact rfl)(hH:C'.H=H:=by exact rfl)(hE:Sub E' E:=by repeat (first | exact .nil | refine .cons rfl ?_))(h:M ms E' I loc')(hs:KJ loc' loc:=by repeat (first | exact .refl | exact Zj | refine Yk ?_ | refine .drop ?_ | refine Z7 ?_)):At ⟨P,r,N,mk ms,g,H⟩ (Exit.then (ztF C' M) Q) .normal E I loc:=zce hN hg hH E' loc' h hE hs
theorem zmf {M:List Nat→Env→Qu→Loc→Prop}{C':Cx}(hN:C'.N=N)(hg:C'.g=g)(hH:C'.H=H)(E':Env)(loc' l:Loc)(hM:M ms E' I loc')(hE:Sub E' E)(hp:loc'.Perm l)(hs:KJ l loc):At ⟨P,r,N,mk ms,g,H⟩ (Exit.then (ztF C' M) Q) .normal E I loc:=
 fun _ _ ha hw=>⟨ms,E',I,loc',hM,by rw [hN];exact ha.sub hE,by
  rw [hg,hH]
  have h1:=hw.dropTo hs
  exact h1.perm (fun p=>hp.mem_iff) ((hp.map (·.1)).nodup_iff.2 h1.nodup)⟩
theorem UE {c:Code}(T:Env)(_hT:Sub T E)(J:Env→Loc→Nat→List Nat→Env→Qu→Loc→Prop)(m0:Nat)(E0:Env)(I0:Qu)(loc0:Loc)(h0:J T loc m0 ms E0 I0 loc0)(hE:Sub E0 E)(hI:HLe I0 I)(hl:loc0=loc)
  (round:∀ m ms E I loc',J T loc m ms E I loc'→X ⟨P,r,N,mk ms,g,H⟩ (Exit.then (ztF ⟨P,r,N,[],g,H⟩ fun ms E I loc'=>∃ m',m'<m∧J T loc m' ms E I loc') Q) c E I loc'):X ⟨P,r,N,mk ms,g,H⟩ Q (.loop c) E I loc:=by
 classical
 intro a w ha hw
 let R:Nat→Act→World→Prop:=fun m a w=>∃ ms E I loc',J T loc m ms E I loc'∧KD N (mk ms) E a∧St g I H loc' w
 have least:∀ a w,(∃ m,R m a w)→∃ m,R m a w∧∀ m',R m' a w→m≤m':=fun a w ⟨m,h⟩=>by
  induction m using Nat.strongRecOn with
  | _ m ih=>
   by_cases h':∃ m',m'<m∧R m' a w
   ·
    obtain ⟨m',hlt,hm⟩:=h';exact ih m' hlt hm
   ·
    exact ⟨m,h,fun m' hm=>Nat.le_of_not_lt fun hlt=>h' ⟨m',hlt,hm⟩⟩
 let μ:Act→World→Nat:=fun a w=>if h:∃ m,R m a w then Classical.choose (least a w h) else 0
 have hμ:∀ a w,(∃ m,R m a w)→R (μ a w) a w:=fun a w h=>by simp only [μ,dif_pos h];exact (Classical.choose_spec (least a w h)).1
 have hle:∀ m a w,R m a w→μ a w≤m:=fun m a w h=>by
  have h':∃ m,R m a w:=⟨m,h⟩
  simp only [μ,dif_pos h'];exact (Classical.choose_spec (least a w h')).2 m h
 refine wpIn_loop (fun a w=>∃ m,R m a w) μ ⟨m0,ms,E0,I0,loc0,h0,ha.sub hE,hl ▸ hw.mono hI⟩ fun a w h=>?_
 obtain ⟨ms1,E1,I1,loc1,hJ,hf,hs⟩:=hμ a w h
 refine wpIn_mono (round _ _ _ _ _ hJ a w hf hs) fun e a' w' hq=>?_
 cases e with
 | normal=>
  obtain ⟨ms2,E2,I2,loc2,⟨m',hlt,hJ'⟩,hf',hs'⟩:=hq
  exact ⟨⟨m',ms2,E2,I2,loc2,hJ',hf',hs'⟩,Nat.lt_of_le_of_lt (hle m' a' w' ⟨ms2,E2,I2,loc2,hJ',hf',hs'⟩) hlt⟩
 | _=>exact hq
theorem Xj {α:Type}{gop:Operand}{p:Nat}{assign body:Code}{f:FuncId}{cap:List Value}{K:Loc}{enc:α→Value}{xs:List α}
  (Jc:List α→Qu→Loc→Prop)(Jx:Code→List α→Qu→Loc→Prop)(Ja:List α→α→Env→Qu→Loc→Prop)
  (hg:QA [] E gop=some (.func (.func f) #[] cap.toArray))(hF:Fun P f)(hseq:zzo P f cap I K enc xs)(hp:Nat.blt p N=true)(h0:Jc [] I L)
  (hass:∀ l pre x I' loc' H1,pre++[x]<+:xs→HLe I I'→Jc pre I' loc'→X ⟨P,some l,N,[],g,H1⟩ (Exit.then (Met ⟨P,some l,N,[],g,H1⟩ fun E2 I2 loc2=>HLe I' I2∧Ja pre x E2 I2 loc2) (fun _ _ _=>False)) assign ((p,enc x)::E) I' loc')
  (hbody:∀ l pre x E2 I2 loc2 H2,pre++[x]<+:xs→HLe I I2→Ja pre x E2 I2 loc2→X ⟨P,some l,N,[],g,H2⟩ (zbo g H2 (fun q I3 loc3=>HLe I2 I3∧Jc q I3 loc3) (fun c q I3 loc3=>HLe I2 I3∧Jx c q I3 loc3) (pre++[x])) body E2 I2 loc2)
  (hdone:∀ bd I' loc',HLe I I'→Jc xs I' loc'→At ⟨P,none,N,mk (bd::ms),g,H⟩ Q .normal E I' (loc'++MB (bd::ms)))
  (hstop:∀ c bd pre I' loc',HLe I I'→pre<+:xs→Jx c pre I' loc'→X ⟨P,none,N,mk (bd::ms),g,H⟩ Q c E I' (loc'++MB (bd::ms))):
  X ⟨P,none,N,mk ms,g,H⟩ Q (.rangeFunc gop #[p] assign body) E I (K++(L++MB ms)):=by
 intro a w ha hw
 have back:∀ {I':Qu} {loc':Loc} {bd:Nat} {w':World},St g I' (VD H (MB ms)) (loc'++[(bd,.deferred (some []))]) w'→St g I' H (loc'++MB (bd::ms)) w':=fun {I' loc' bd w'} h=>by
  have h1:=St.unhide ((hw.rest Qx).rest Qx) h
  refine h1.perm (fun p=>?_) ?_
  ·
   simp only [MB,List.mem_append]
   constructor
   ·
    rintro (h | h | h)
    ·
     exact .inl (.inl h)
    ·
     exact .inr h
    ·
     exact .inl (.inr h)
   ·
    rintro ((h | h) | h)
    ·
     exact .inl h
    ·
     exact .inr (.inr h)
    ·
     exact .inr (.inl h)
  ·
   have hn:=h1.nodup
   have hpm:(loc'++MB (bd::ms)).Perm (loc'++[(bd,.deferred (some []))]++MB ms):=by
    rw [List.append_assoc]
    exact (List.Perm.refl loc').append List.perm_append_comm
   exact (hpm.map (·.1)).nodup_iff.2 hn
 refine zdQ (K:=K) (P:=P) (N:=N) (D:=mk ms) (g:=g) (H:=VD H (MB ms)) (Q:=Q) Jc Jx Ja hg hF hseq hp h0 hass hbody ?_ ?_ a w ha (show St g I (VD H (MB ms)) (K++L) w from (show St g I H ((K++L)++MB ms) w by rw [List.append_assoc];exact hw).hideR)
 ·
  intro bd I' loc' hI hJ a' w' ha' hw'
  exact hdone bd I' loc' hI hJ a' w' ha' (back hw')
 ·
  intro c bd pre I' loc' hI hpre hJ a' w' ha' hw'
  exact hstop c bd pre I' loc' hI hpre hJ a' w' ha' (back hw')
theorem Xs {fn:Func}{R:Ending→World→Prop}{tmps:Array Value}{v:Value}:∀ (ms:List Nat) {L:Loc} {w:World},St g I H (L++MB ms) w→(∀ w,St g I H L w→(results fn tmps).run P w= .ok v w∧R (.returned v) w)→
  LeavesInM Fence.wide 0 P fn tmps R (mk ms) .returning w
 | [],L,w,hw,h=>by
  have hw:St g I H L w:=by simpa [MB] using hw
  exact ⟨v,h w hw⟩
 | b::ms,L,w,hw,h=>by
  have hu:Upd (L++MB (b::ms)) b (.deferred (some [])) (.deferred none) (L++(MB ms++[(b,.deferred none)])):=QK (QK .here)
  have hb:=hw.own _ _ hu.mem
  have hs:=hw.putObj hu
  refine ⟨by simp,.inl ⟨b,_,rfl,run_takeDeferred hb,?_⟩⟩
  exact Xs ms (L:=L) (hs.subL (Yk Zj)) h
theorem Uh {fn:Func}{R:Ending→World→Prop}{v:Value}(hv:∀ a,KD N (mk ms) E a→∀ w,St g I H L w→(results fn a.tmps).run P w= .ok v w)(h:∀ w,St g I H L w→R (.returned v) w):
  At ⟨P,r,N,mk ms,g,H⟩ (bodyPostM Fence.wide 0 P fn R) .ret E I (L++MB ms):=fun a w ha hw=>by
 show LeavesInM _ _ _ _ _ _ _ _ _
 rw [ha.defers]
 exact Xs ms hw fun w' hw'=>⟨hv a ha w' hw',h w' hw'⟩
theorem zeF {f:FuncId}{fn:Func}{c:Code}{args:List Value}{R:Ending→World→Prop}{w:World}(hf:P.funcs[f]? =some fn)(hb:fn.body=some c){N:Nat}(hN:fn.ntmps=N)
  (hlen:Nat.ble args.length N=true)(hw:St g I H loc w)(h:X ⟨P,none,N,mk [],g,H⟩ (bodyPostM Fence.wide 0 P fn R) c (zo5 0 args) I (loc++MB [])):Calls P f args.toArray w R:=
 zwx hf hb hN hlen hw (by simpa [MB,mk] using h)
end
end
section
open Go
section
variable {g:World} {I I' H:Qu} {loc loc' L R:Loc} {w w':World}
theorem St.lend (h:St g I H L w):∃ I',HLe I I'∧(∀ b o,(b,o)∈L→I' b=some o)∧St g I' H [] w:=by
 obtain ⟨I',h1,h2,h3⟩:=h.freezeAll
 exact ⟨I',h1,h3,h2⟩
theorem St.unlend (h:St g I H L w)(h':St g I' H [] w')(hI:HLe I I')(hL:∀ b o,(b,o)∈L→I' b=some o):St g I H L w' where
 os:=h'.os
 tape:=h'.tape
 out:=h'.out
 size:=h'.size
 imm:=fun b o hb=>h'.imm b o (hI b o hb)
 frm:=h'.frm
 own:=fun b o hb=>h'.imm b o (hL b o hb)
 sepIH:=h.sepIH
 sepIL:=h.sepIL
 nodup:=h.nodup
theorem zlv.ofV {P:Program}{f:FuncId}{args:List Value}{v:Value}(h:∀ I',HLe I I'→(∀ b o,(b,o)∈L→I' b=some o)→Zy P f args I' v):zlv P f args I L v:=by
 intro g H w hw
 obtain ⟨I',h1,h2,h3⟩:=hw.lend
 refine (h I' h1 h2 g H w h3).mono ?_
 rintro e w' ⟨rfl,hs⟩
 exact ⟨rfl,hw.unlend hs h1 h2⟩
end
variable {C:Cx} {Q:Exit→Act→World→Prop} {E E':Env} {I I':Qu} {loc loc' L R:Loc} {ops:Array Oper} {rest:List Oper} {S:GS}
variable {dst:Option Tmp} {d:Nat} {ty:TypeId} {pos:String} {af:Array Edge} {gd:Option (Nat×Bool)} {x y z:Operand}
section maps
variable {α β:Type} [DecidableEq α] {ek:α→Value} {ev:β→Value} {m:List (α×β)} {a:α}
def ziW (m:List (α×β))(a:α):Nat:=((WH m a 0).map (·.1)).getD m.length
omit [DecidableEq α] in
theorem zcY:∀ (m:List (α×β)) (k i:Nat) (q:α×β),m[i]? =some q→((QX ek ev k m)[i]?).map (fun e=>(e.key,e.born))=some (ek q.1,k+i):=by
 intro m
 induction m with
 | nil=>intro k i q h;simp at h
 | cons p m ih=>
  intro k i q h
  cases i with
  | zero=>simp at h;subst h;simp [QX]
  | succ i=>simp only [QX,List.getElem?_cons_succ];rw [ih _ _ _ (by simpa using h)];simp;omega
theorem zg1 {kv vv:Value}:∀ (l:List MapEntry) (i:Nat),(l[i]?).map (·.val)=some vv∨l[i]? =none→l.modify i (fun e=>{e with key:=kv})=l.modify i fun e=>{e with key:=kv,val:=vv}:=by
 intro l
 induction l with
 | nil=>intro i _;simp
 | cons e l ih=>
  intro i hv
  cases i with
  | zero=>simp at hv;simp [hv]
  | succ i=>simp only [List.modify_succ_cons];rw [ih i (by simpa using hv)]
omit [DecidableEq α] in
theorem ziN:∀ (m:List (α×β)) (k i:Nat) (q:α×β),m[i]? =some q→((QX ek ev k m)[i]?).map (·.val)=some (ev q.2):=by
 intro m
 induction m with
 | nil=>intro k i q h;simp at h
 | cons p m ih=>
  intro k i q h
  cases i with
  | zero=>simp at h;subst h;simp [QX]
  | succ i=>simp only [QX,List.getElem?_cons_succ];exact ih _ _ _ (by simpa using h)
theorem zrh:∀ (m:List (α×β)) (k j:Nat) (c:β),WH m a k=some (j,c)→k≤j:=by
 intro m
 induction m with
 | nil=>intro k j c h;cases h
 | cons p m ih=>
  intro k j c h
  unfold WH at h
  split at h
  ·
   simp at h;omega
  ·
   have:=ih _ _ _ h;omega
theorem zmI:∀ (m:List (α×β)) (k i:Nat) (c:β) (q:α×β),WH m a k=some (k+i,c)→m[i]? =some q→q.2=c:=by
 intro m
 induction m with
 | nil=>intro k i c q h;cases h
 | cons p m ih=>
  intro k i c q h h'
  unfold WH at h
  split at h
  ·
   simp only [Option.some.injEq,Prod.mk.injEq] at h
   have:i=0:=by omega
   subst this
   simp at h';subst h';exact h.2
  ·
   cases i with
   | zero=>
    exfalso
    have:=zrh m _ _ _ h;omega
   | succ i=>
    refine ih (k+1) i c q ?_ (by simpa using h')
    rw [h];simp;omega
theorem U2:∀ (m:List (α×β)) (a:α) (b:β),ZE m a=some b→YA m a b=m
 | [],_,_,h=>by cases h
 | p::m,a,b,h=>by
  unfold ZE at h
  unfold YA
  split
  ·
   rename_i e
   rw [if_pos e] at h
   cases h;subst e;rfl
  ·
   rename_i e
   rw [if_neg e] at h
   rw [U2 m a b h]
theorem zeQ {t k e r:Nat}{zv:Value}(zb:β)(hz:ev zb=zv)(hT:MpT C.P t k e zv)(hK:V4 C.P k ek)(hx:QA [] E x=some (.map (some r)))(hy:QA [] E y=some (ek a))(hG:gd=none)(hN:Nat.blt d C.N=true)
  (hu:Upd loc r (ZQ ek ev m) (ZQ ek ev (YA m a ((ZE m a).getD zb))) loc')(h:XO C Q ops rest [] ((d,.tuple #[ev ((ZE m a).getD zb),.int .i64 (ziW m a:Nat)])::E) I loc'):XO C Q ops (⟨some d,.mapEntry t x y,ty,pos,af,gd⟩::rest) [] E I loc:=
 Yg hG (by intro c e;cases e) fun a' w ha hw=>by
  have hm:=hw.own _ _ hu.mem
  have hf:=hK.find ev m a w
  have hs:=hw.putObj hu
  have hr:(Instr.mapEntry t (.map (some r)) (ek a)).run C.P w= .ok (.tuple #[ev ((ZE m a).getD zb),.int .i64 (ziW m a:Nat)]) (w.putObj r (ZQ ek ev (YA m a ((ZE m a).getD zb)))):=by
   simp only [Instr.mapEntry,Sem.run_bind,run_underlying hT.1,Result.andThen,Yd hm,hK.chk]
   rw [hf]
   cases hi:WH m a 0 with
   | none=>
    have hg0:ZE m a=none:=by rw [←Kg m a 0,hi];rfl
    have h1:=XK m a zb 0 hi
    simp only [Option.map_none,Sem.run_bind,Z1 hT.2,Result.andThen,hg0,Option.getD_none]
    rw [YV _ hm,h1]
    simp only [Sem.run_pure,ziW,hi,goInt]
    rw [←hz]
    congr 2
    simp [ZQ,Xt]
   | some p=>
    obtain ⟨i,c⟩:=p
    have hg0:ZE m a=some c:=by rw [←Kg m a 0,hi];rfl
    obtain ⟨⟨q,h1,h2⟩,h3,h4⟩:=KR (ek:=ek) (ev:=ev) m a c 0 i c (by rw [hi];simp)
    have hkb:=zcY (ek:=ek) (ev:=ev) m 0 i q h1
    have hkey:(((QX ek ev 0 m).toArray[i]?).map (·.key)).getD (ek a)=ek a:=by
     simp only [List.getElem?_toArray]
     cases he:(QX ek ev 0 m)[i]? with
     | none=>rfl
     | some e=>rw [he] at hkb;simp at hkb;simp [hkb.1,h2]
    have hborn:(((QX ek ev 0 m).toArray[i]?).map (·.born)).getD 0=i:=by
     simp only [List.getElem?_toArray]
     cases he:(QX ek ev 0 m)[i]? with
     | none=>rw [he] at hkb;simp at hkb
     | some e=>rw [he] at hkb;simp at hkb;simp [hkb.2]
    simp only [Option.map_some,Sem.run_bind,hkey,Instr.keyThatStays,hK.bits,if_true,Sem.run_pure,Result.andThen,hg0,Option.getD_some,U2 m a c hg0]
    rw [YV _ hm]
    have hbornI:((((QX ek ev 0 m).toArray[i]?).map (fun e=>(e.born:Int))).getD 0)=(i:Int):=by
     simp only [List.getElem?_toArray] at hborn ⊢
     cases he:(QX ek ev 0 m)[i]? with
     | none=>rw [he] at hkb;simp at hkb
     | some e=>rw [he] at hkb;simp at hkb;simp [hkb.2]
    rw [U2 m a c hg0] at h4
    have hobj:((QX ek ev 0 m).toArray.modify i fun e=>{e with key:=ek a})=(QX ek ev 0 m).toArray:=by
     apply Array.ext'
     rw [Array.toList_modify]
     conv=>rhs;rw [h4]
     refine zg1 _ i ?_
     left
     rw [ziN m 0 i q h1,zmI m 0 i c q (by rw [hi];simp) h1]
    rw [hobj]
    simp only [ziW,hi,Option.map_some,Option.getD_some,goInt]
    first
     | rfl
     | (rw [hbornI];rfl)
     | (simp only [hborn];rfl)
  simp only [execOp,Qj (S:=[]) ha trivial rfl hx,Qj (S:=[]) ha trivial rfl hy,Sem.run_bind,hr,Result.andThen,Sem.run_pure,Oper.uponIn_value]
  exact h _ _ (ha.put hN _) trivial hs
omit [DecidableEq α] in
theorem zln:∀ (m:List (α×β)) (k i:Nat),i<m.length→(QX ek ev k m).findIdx? (fun e=>(e.born:Int)==((k+i:Nat):Int))=some i:=by
 intro m
 induction m with
 | nil=>intro k i h;simp at h
 | cons p m ih=>
  intro k i h
  simp only [QX,List.findIdx?_cons]
  cases i with
  | zero=>simp
  | succ i=>
   have hne:(((k:Nat):Int)==((k+(i+1):Nat):Int))=false:=by
    rw [beq_eq_false_iff_ne];omega
   rw [hne]
   have:=ih (k+1) i (by simpa using h)
   rw [show k+(i+1)=k+1+i by omega,this];rfl
theorem zhr {kv vv:Value}:∀ (l:List MapEntry) (i:Nat),(l[i]?).map (·.key)=some kv→l.modify i (fun e=>{e with val:=vv})=l.modify i fun e=>{e with key:=kv,val:=vv}:=by
 intro l
 induction l with
 | nil=>intro i _;simp
 | cons e l ih=>
  intro i hv
  cases i with
  | zero=>simp at hv;simp [hv]
  | succ i=>simp only [List.modify_succ_cons];rw [ih i (by simpa using hv)]
theorem zbF {t r:Nat}(b c:β)(hm0:ZE m a=some c)(hx:QA [] E x=some (.map (some r)))(hy:QA [] E y=some (.int .i64 (ziW m a:Nat)))(hz:QA [] E z=some (ev b))(hG:gd=none)
  (hu:Upd loc r (ZQ ek ev m) (ZQ ek ev (YA m a b)) loc')(h:XO C Q ops rest [] E I loc'):XO C Q ops (⟨none,.entryStore t x y z,ty,pos,af,gd⟩::rest) [] E I loc:=
 Yg hG (by intro c e;cases e) fun a' w ha hw=>by
  have hm:=hw.own _ _ hu.mem
  have hs:=hw.putObj hu
  have hr:(Instr.entryStore t (.map (some r)) (.int .i64 (ziW m a:Nat)) (ev b)).run C.P w= .ok () (w.putObj r (ZQ ek ev (YA m a b))):=by
   cases hi:WH m a 0 with
   | none=>rw [←Kg m a 0,hi] at hm0;cases hm0
   | some p=>
    obtain ⟨i,c'⟩:=p
    obtain ⟨⟨q,h1,h2⟩,h3,h4⟩:=KR (ek:=ek) (ev:=ev) m a b 0 i c' (by rw [hi];simp)
    have hil:i<m.length:=(List.getElem?_eq_some_iff.1 h1).1
    have hp:ziW m a=i:=by unfold ziW;rw [hi];rfl
    have hfi:=zln (ek:=ek) (ev:=ev) m 0 i hil
    rw [Nat.zero_add] at hfi
    have hfa:(QX ek ev 0 m).toArray.findIdx? (fun e=>(e.born:Int)==((i:Nat):Int))=some i:=by
     rw [List.findIdx?_toArray];exact hfi
    have hkb:=zcY (ek:=ek) (ev:=ev) m 0 i q h1
    have hobj:((QX ek ev 0 m).toArray.modify i fun e=>{e with val:=ev b})=(QX ek ev 0 (YA m a b)).toArray:=by
     apply Array.ext'
     rw [Array.toList_modify]
     rw [h4]
     refine zhr _ i ?_
     cases he:(QX ek ev 0 m)[i]? with
     | none=>rw [he] at hkb;simp at hkb
     | some e=>rw [he] at hkb;simp at hkb;simp [hkb.1,h2]
    simp only [Instr.entryStore,Sem.run_bind,Yd hm,Result.andThen,asInt,asIntOf,hp,Sem.run_pure]
    rw [hfa]
    simp only []
    rw [YV _ hm,hobj]
    unfold ZQ
    rw [h3]
  simp only [execOp,Qj (S:=[]) ha trivial rfl hx,Qj (S:=[]) ha trivial rfl hy,Qj (S:=[]) ha trivial rfl hz,Sem.run_bind,hr,Result.andThen,Sem.run_pure,Oper.uponIn_skip]
  exact h _ _ ha trivial hs
end maps
theorem zlD {zv:Value}(h1:zv.cells= #[zv])(n:Nat):madeCells zv.cells n=(List.replicate n zv).toArray:=by
 rw [h1]
 apply Array.ext'
 have:∀ x:Nat,[zv][x % 1]?.getD default=zv:=fun x=>by rw [Nat.mod_one];rfl
 simp [madeCells,this,List.map_const']
def MkT (P:Program)(t e bytes:Nat)(zv:Value):Prop:=P.underlying t=some (.slice e)∧(P.info? e).map (fun i=>(i.zero,i.size,i.bytes))=some (some zv,1,bytes)∧zv.cells= #[zv]
theorem Q5 {t e bytes:Nat}{zv:Value}{n:Int}(hT:MkT C.P t e bytes zv)(hx:QA [] E x=some (.int .i64 n))(hy:QA [] E y=some (.int .i64 n))(hn:0≤n∧n≤1000000)(hb:bytes≤1000)
  (hG:gd=none)(hN:Nat.blt d C.N=true)(h:∀ b,XO C Q ops rest [] ((d,.slice (some ⟨b,0,none⟩) n.toNat n.toNat)::E) I ((b,.cells (List.replicate n.toNat zv).toArray e (0,0))::loc)):
  XO C Q ops (⟨some d,.makeSlice t x y,ty,pos,af,gd⟩::rest) [] E I loc:=
 Yg hG (by intro c e;cases e) fun a w ha hw=>by
  obtain ⟨hu,hi,h1⟩:=hT
  rw [Option.map_eq_some_iff] at hi
  obtain ⟨i,hi,he⟩:=hi
  simp only [Prod.mk.injEq] at he
  obtain ⟨hz,hs,hbt⟩:=he
  have hr:=run_makeSlice (P:=C.P) (w:=w) t e i zv hu hi hz .i64 .i64 n n hn.1 (by omega) (by rw [hs];omega) (by rw [hbt];exact Int.le_trans (Int.mul_le_mul (by omega:(bytes:Int)≤1000) hn.2 hn.1 (by omega)) (by decide)) (by omega)
  rw [hs,Nat.mul_one,zlD h1] at hr
  simp only [execOp,Qj (S:=[]) ha trivial rfl hx,Qj (S:=[]) ha trivial rfl hy,Sem.run_bind,hr,Result.andThen,Sem.run_pure,Oper.uponIn_value]
  exact h _ _ _ (ha.put hN _) trivial (hw.alloc _)
/-! ### Arrays -/
def zin (size:Nat):List Value→List (Nat×Value)→Option (List Value)
 | cells,[]=>some cells
 | cells,(i,v)::rest=>bif Nat.beq (Vc v).length size&&Nat.ble (i*size+(Vc v).length) cells.length then zin size (VF cells (i*size) (Vc v)) rest else none
theorem zfF (size:Nat):∀ (ps:List (Nat×Value)) (cells out:List Value),zin size cells ps=some out→Instr.fill (fun i=>some (i*size,size)) cells.toArray ps=some out.toArray
 | [],cells,out,h=>by
  simp only [zin,Option.some.injEq] at h
  subst h;rfl
 | (i,v)::ps,cells,out,h=>by
  simp only [zin] at h
  cases hb:(Nat.beq (Vc v).length size&&Nat.ble (i*size+(Vc v).length) cells.length) with
  | false=>rw [hb] at h;cases h
  | true=>
   rw [hb] at h
   simp only [Bool.and_eq_true] at hb
   have h1:=Nat.eq_of_beq_eq_true hb.1
   have h2:=Nat.le_of_ble_eq_true hb.2
   have e:cells=cells.take (i*size)++(cells.drop (i*size)).take size++cells.drop (i*size+size):=by
    rw [List.append_assoc]
    have:(cells.drop (i*size)).take size++cells.drop (i*size+size)=cells.drop (i*size):=by rw [←List.drop_drop];exact List.take_append_drop _ _
    rw [this,List.take_append_drop]
   have hl1:(cells.take (i*size)).length=i*size:=by rw [List.length_take];omega
   have hl2:((cells.drop (i*size)).take size).length=size:=by rw [List.length_take,List.length_drop];omega
   have hsp:VF cells (i*size) (Vc v)=cells.take (i*size)++Vc v++cells.drop (i*size+size):=by
    have:=Ku (cells.take (i*size)) ((cells.drop (i*size)).take size) (Vc v) (cells.drop (i*size+size)) (by rw [hl2];exact h1.symm)
    rw [←e,hl1] at this
    exact this
   have hfo:=zcD (place:=fun i=>some (i*size,size)) (i:=i) (off:=i*size) (size:=size) (v:=v) (vs:=Vc v) (pre:=cells.take (i*size)) (old:=(cells.drop (i*size)).take size) (tail:=cells.drop (i*size+size)) (l:=ps) rfl (zdB v) h1 hl1 hl2
   rw [←e] at hfo
   rw [hfo,←hsp]
   exact zfF size ps _ out h
theorem Zz {t n e size:Nat}{zl:List Value}{parts:Array (Nat×Operand)}{ps:List (Nat×Value)}(cells:List Value)(hA:ArT C.P t n e size)(hz:Yu C.P t (.agg zl.toArray))(hp:parts.toList.map (fun p=>(QA S E p.2).map fun v=>(p.1,v))=ps.map some)(hf:zin size zl ps=some cells):
  QV C S E I loc ⟨dst,.build t parts,ty,pos,af,gd⟩ (.agg cells.toArray):=
 .of (by intro c e;cases e) fun a w ha hg hc hw=>by
  obtain ⟨hu,i,hi,hs⟩:=hA
  have key:∀ (l:List (Nat×Operand)) (ps:List (Nat×Value)),l.map (fun p=>(QA S E p.2).map fun v=>(p.1,v))=ps.map some→l.map (fun p=>(p.1,a.eval p.2))=ps:=by
   intro l
   induction l with
   | nil=>intro ps h;cases ps<;>simp_all
   | cons p l ih=>
    intro ps h
    cases ps with
    | nil=>simp at h
    | cons q ps=>
     simp only [List.map_cons,List.cons.injEq] at h ⊢
     refine ⟨?_,ih _ h.2⟩
     cases e1:QA S E p.2 with
     | none=>rw [e1] at h;simp at h
     | some v=>
      rw [e1] at h
      rw [Qj ha hg hc e1]
      simpa using h.1
  have hps:(parts.map fun (i,x)=>(i,a.eval x)).toList=ps:=by
   rw [←key _ _ hp];simp
  have hfe:=zfF size ps zl cells hf
  have hzc:(Value.agg zl.toArray).cells=zl.toArray:=rfl
  simp only [execOp,Instr.build,Sem.run_bind,Z1 hz,Result.andThen,run_underlying hu,run_sizeOf hi,hs,hps,hzc,hfe,Sem.run_pure]
theorem UZ {P:Program}{w:World}{t k e d:Nat}{m:Option Nat}(hT:P.underlying t=some (.map k e)):(Op.equalIn (d+1) t (.map m) (.map none)).run P w= .ok m.isNone w:=by
 simp only [Op.equalIn,Sem.run_bind,run_underlying hT,Result.andThen]
 cases m<;>rfl
theorem zh8 {t t' k e:Nat}{m:Option Nat}(hx:QA S E x=some (.map m))(hy:QA S E y=some (.map none))(hT:C.P.underlying t=some (.map k e)):QV C S E I loc ⟨dst,.binOp .eql t x y t',ty,pos,af,gd⟩ (.bool m.isNone):=
 .of (by intro c e;cases e) fun a w ha hg hc _=>by
  have e1:(eqGuard .eql t x y (.map m) (.map none)).run C.P w= .ok () w:=by unfold eqGuard;rfl
  have e2:(Op.equalIn 10000 t (.map m) (.map none)).run C.P w= .ok m.isNone w:=UZ (d:=9999) hT
  simp only [execOp,Qj ha hg hc hx,Qj ha hg hc hy,Sem.run_bind,e1,Sem.run_pure,Result.andThen,binOp,Op.equal,Op.maxDepth,e2]
end
section
open Go Go.Sort
section
variable {g:World} {I I' H:Qu} {loc loc' L R:Loc} {w w':World}
theorem St.grown (h:St g I H loc w)(os:Array Obj):St g I H loc (grow w os):=by
 have key:∀ (b:Nat) (o:Obj),w.heap[b]? =some o→(grow w os).heap[b]? =some o:=fun b o e=>by
  have hb:b<w.heap.size:=(Array.getElem?_eq_some_iff.1 e).1
  simp only [grow]
  rw [Array.getElem?_append_left hb];exact e
 exact ⟨h.os,h.tape,h.out,⟨Nat.le_trans h.size.1 (by simp [grow]),h.size.2⟩,fun b o e=>key b o (h.imm b o e),fun b o e=>key b o (h.frm b o e),fun b o e=>key b o (h.own b o e),h.sepIH,h.sepIL,h.nodup⟩
theorem St.aheadN (h:St g I H loc w)(n:Nat):St g I H loc (Go.Sort.ahead w n):=⟨h.os,h.tape,h.out,⟨h.size.1,Nat.le_trans h.size.2 (by simp [Go.Sort.ahead])⟩,h.imm,h.frm,h.own,h.sepIH,h.sepIL,h.nodup⟩
theorem St.rowPut {α:Type}[Inhabited α]{enc:α→Value}{b:Nat}{cs:Array Value}{e:TypeId}{fz:Nat×Nat}(h:St g I H loc w)(d:Array α)(hu:Upd loc b (.cells cs e fz) (.cells (putCells enc 0 d cs) e fz) loc'):St g I H loc' (putRow enc w b 0 d):=by
 have hb:=h.own _ _ hu.mem
 refine h.turn hu rfl rfl rfl (by simp) ?_ ?_
 ·
  simp only [putRow,mapBlock,Array.getElem?_modify,hb,Option.map_some];rfl
 ·
  intro c hc
  simp only [putRow,mapBlock,Array.getElem?_modify,if_neg (Ne.symm hc)]
theorem zcJ {α:Type}[Inhabited α]{enc:α→Value}{cs:Array Value}{n:Nat}(xs:List α)(hl:xs.length=n)(hc:n≤cs.size):(putCells enc 0 xs.toArray cs).toList.take n=xs.map enc:=by
 apply List.ext_getElem?
 intro i
 by_cases hi:i<n
 ·
  rw [List.getElem?_take_of_lt hi,List.getElem?_map]
  have h1:i<cs.size:=by omega
  have h2:i<xs.length:=by omega
  have h3:(putCells enc 0 xs.toArray cs)[i]? =some (enc xs[i]):=by
   simp only [putCells,Array.getElem?_mapIdx,Array.getElem?_eq_getElem h1,Option.map_some]
   have:(0≤i∧i<0+xs.toArray.size):=by simp;omega
   rw [if_pos this]
   congr 2
   simp [h2]
  rw [Array.getElem?_toList,h3,List.getElem?_eq_getElem h2];rfl
 ·
  rw [List.getElem?_eq_none (by rw [List.length_take];omega),List.getElem?_eq_none (by rw [List.length_map];omega)]
theorem zao {α:Type}[Inhabited α]{enc:α→Value}{b:Nat}{cs:Array Value}{e:TypeId}(h:St g I H loc w)(hm:(b,Obj.cells cs e (0,0))∈loc)(xs:List α)(hl:cs.toList.take xs.length=xs.map enc):Holds enc w b 0 xs.toArray:=by
 have hb:=h.own _ _ hm
 intro j hj
 have hj':j<xs.length:=by simpa using hj
 refine ⟨?_,?_⟩
 ·
  simp only [World.cell?,hb,Option.isSome_none,Bool.false_eq_true,if_false]
  have:(cs.toList.take xs.length)[j]? =some (enc xs[j]):=by rw [hl,List.getElem?_map,List.getElem?_eq_getElem hj'];rfl
  rw [List.getElem?_take_of_lt hj',Array.getElem?_toList] at this
  rw [show 0+j=j from by omega,this]
  congr 2
  simp [hj']
 ·
  simp only [World.frozen?,hb];simp
theorem zji {P:Program}{f:FuncId}{e:TypeId}
  (hs:∀ (blk off cap:Nat) (zs:List Int) (w:World),Holds (Value.int .i64) w blk off zs.toArray→blk<w.heap.size→zs.length<4611686018427387904→Calls P f #[.slice (some ⟨blk,off,none⟩) zs.length cap] w fun e w'=>e= .returned (.tuple #[])∧∃ n os,w'=grow (putRow (Value.int .i64) (Go.Sort.ahead w n) blk off (zs.mergeSort fun x y=>decide (x≤y)).toArray) os)
  (h0:∀ (p:Option Addr) (cap:Nat) (w:World),Calls P f #[.slice p 0 cap] w fun e w'=>e= .returned (.tuple #[])∧w'=w)
  (zs:List Int){v:Value}{n:Nat}{L:Loc}(hO:OwnS e 1 v n (zs.map (Value.int .i64)) L)(hn:n≤1000000)(I:Qu):
  Yf P f [v] I L (fun u I' L'=>u= .tuple #[]∧I'=I∧OwnS e 1 v n ((zs.mergeSort fun x y=>decide (x≤y)).map (Value.int .i64)) L'):=by
 intro g H w hw
 have hl:zs.length=n:=by have:=hO.1;simpa using this
 subst hl
 rcases hO.2 with ⟨rfl,h00,rfl⟩ | ⟨b,c,cur,rfl,rfl,hc,hc2,hsz,htk⟩
 ·
  have:zs=[]:=List.length_eq_zero_iff.1 h00
  subst this
  refine (h0 none 0 w).mono ?_
  rintro e w' ⟨rfl,rfl⟩
  refine ⟨_,I,[],rfl,zAh _,hw,rfl,rfl,by simp,.inl ⟨rfl,rfl,rfl⟩⟩
 ·
  rw [Nat.mul_one] at hsz htk
  have hb:=hw.own b _ (List.mem_singleton.2 rfl)
  refine (hs b 0 c zs w (zao hw (List.mem_singleton.2 rfl) zs htk) (Array.getElem?_eq_some_iff.1 hb).1 (by omega)).mono ?_
  rintro e w' ⟨rfl,k,os,rfl⟩
  refine ⟨_,I,_,rfl,zAh _,(((hw.aheadN k).rowPut _ .here).grown os),rfl,rfl,by simp [List.length_mergeSort],.inr ⟨b,c,_,rfl,rfl,hc,hc2,by simp [putCells,hsz],?_⟩⟩
  rw [Nat.mul_one]
  exact zcJ _ (by simp [List.length_mergeSort]) (by omega)
theorem zbc {P:Program}{f:FuncId}{e:TypeId}(co:List Int→List Int)(hco:∀ zs,(co zs).length≤zs.length)(hcn:co []=[])
  (hs:∀ (blk off cap:Nat) (zs:List Int) (w:World),Holds (Value.int .i64) w blk off zs.toArray→zs.length≤9223372036854775807→zs.length≤cap→Calls P f #[.slice (some ⟨blk,off,none⟩) zs.length cap] w fun e w'=>e= .returned (.slice (some ⟨blk,off,none⟩) (co zs).length cap)∧∃ q,w'=putRow (Value.int .i64) (Go.Sort.ahead w q) blk off (co zs++List.replicate (zs.length-(co zs).length) 0).toArray)
  (h0:∀ (p:Option Addr) (cap:Nat) (w:World),Calls P f #[.slice p 0 cap] w fun e w'=>e= .returned (.slice p 0 cap)∧w'=w)
  (zs:List Int){v:Value}{n:Nat}{L:Loc}(hO:OwnS e 1 v n (zs.map (Value.int .i64)) L)(hn:n≤1000000)(I:Qu):
  Yf P f [v] I L (fun u I' L'=>I'=I∧OwnS e 1 u (co zs).length ((co zs).map (Value.int .i64)) L'):=by
 intro g H w hw
 have hl:zs.length=n:=by have:=hO.1;simpa using this
 subst hl
 have hle:=hco zs
 rcases hO.2 with ⟨rfl,h00,rfl⟩ | ⟨b,c,cur,rfl,rfl,hc,hc2,hsz,htk⟩
 ·
  have:zs=[]:=List.length_eq_zero_iff.1 h00
  subst this
  refine (h0 none 0 w).mono ?_
  rintro e w' ⟨rfl,rfl⟩
  refine ⟨_,I,[],rfl,zAh _,hw,rfl,by simp [hcn],.inl ⟨rfl,by simp [hcn],rfl⟩⟩
 ·
  rw [Nat.mul_one] at hsz htk
  refine (hs b 0 c zs w (zao hw (List.mem_singleton.2 rfl) zs htk) (by omega) hc).mono ?_
  rintro e w' ⟨rfl,k,rfl⟩
  refine ⟨_,I,_,rfl,zAh _,(hw.aheadN k).rowPut _ .here,rfl,by simp,.inr ⟨b,c,_,rfl,rfl,by omega,hc2,by simp [putCells,hsz],?_⟩⟩
  rw [Nat.mul_one]
  have h1:=zcJ (enc:=Value.int .i64) (cs:=cur) (n:=zs.length) (co zs++List.replicate (zs.length-(co zs).length) 0) (by simp;omega) (by omega)
  have h2:=congrArg (List.take (co zs).length) h1
  rw [List.take_take,Nat.min_eq_left hle] at h2
  rw [h2];simp
end
end
section
open Go
section
variable {g:World} {I I' H:Qu} {loc loc' L R:Loc} {w w':World}
theorem OwnS.sl {α:Type}{e size:Nat}{enc:α→List Value}{v:Value}{n:Nat}{xs:List α}(hO:OwnS e size v n (xs.flatMap enc) L)(hs:∀ x,(enc x).length=size)(hsz:0<size)(hI:∀ b o,(b,o)∈L→I b=some o):∃ av c,v= .slice av n c∧Sl I size enc av n c xs:=by
 have hn:xs.length=n:=by
  have:=hO.1
  rw [ZT hs] at this
  exact Nat.eq_of_mul_eq_mul_right hsz this
 rcases hO.2 with ⟨rfl,rfl,rfl⟩ | ⟨b,c,cur,rfl,rfl,hc,_,hcs,htake⟩
 ·
  have:xs=[]:=List.length_eq_zero_iff.1 hn
  subst this
  exact ⟨none,0,rfl,.nil⟩
 ·
  have h3:=hI b _ (List.mem_cons_self ..)
  refine ⟨_,_,rfl,hn,hc,fun _=>rfl,fun k x hx j u hu=>.imm h3 ?_⟩
  rw [Vq]
  simp only [Ao,Nat.zero_add]
  have hq:=X4 hs xs k x hx j u hu
  rw [←htake,List.getElem?_take] at hq
  split at hq
  ·
   simpa using hq
  ·
   cases hq
def Vz (e size:Nat):List (Value×Nat×List Value)→Loc→Prop
 | [],L=>L=[]
 | t::ts,L=>∃ L1 L2,L=L1++L2∧OwnS e size t.1 t.2.1 t.2.2 L1∧Vz e size ts L2
def Jw:Value×Nat×List Value:=(.slice none 0 0,0,[])
theorem Vz.nil {e size:Nat}:Vz e size [] []:=rfl
theorem Vz.at {α:Type}[DecidableEq α]{e size:Nat}(a:α):∀ {m:List (α×(Value×Nat×List Value))} {L:Loc},Vz e size (m.map (·.2)) L→
  ∃ A Lt B,L=A++(Lt++B)∧OwnS e size ((ZE m a).getD Jw).1 ((ZE m a).getD Jw).2.1 ((ZE m a).getD Jw).2.2 Lt∧∀ t' Lt',OwnS e size t'.1 t'.2.1 t'.2.2 Lt'→Vz e size ((YA m a t').map (·.2)) (A++(Lt'++B))
 | [],L,h=>by
  have h:L=[]:=h
  subst h
  exact ⟨[],[],[],rfl,.nil,fun t' Lt' h'=>⟨Lt',[],by simp,h',rfl⟩⟩
 | p::m,L,⟨L1,L2,e1,h1,h2⟩=>by
  by_cases hp:p.1=a
  ·
   refine ⟨[],L1,L2,by rw [e1];rfl,by simp only [ZE,if_pos hp];exact h1,fun t' Lt' h'=>?_⟩
   simp only [YA,if_pos hp,List.map_cons]
   exact ⟨Lt',L2,rfl,h',h2⟩
  ·
   obtain ⟨A,Lt,B,e2,h3,h4⟩:=Vz.at a h2
   refine ⟨L1++A,Lt,B,by rw [e1,e2,List.append_assoc],by simp only [ZE,if_neg hp];exact h3,fun t' Lt' h'=>?_⟩
   simp only [YA,if_neg hp,List.map_cons]
   exact ⟨L1,A++(Lt'++B),by rw [List.append_assoc],h1,h4 t' Lt' h'⟩
end
variable {C:Cx} {Q:Exit→Act→World→Prop} {E:Env} {I:Qu} {loc:Loc}
theorem VJ {c:Code}(h:∀ I',HLe I I'→(∀ b o,(b,o)∈loc→I' b=some o)→X C Q c E I' []):X C Q c E I loc:=fun a w ha hw=>by
 obtain ⟨I',h1,h2,h3⟩:=hw.freezeAll
 exact h I' h1 h3 a w ha h2
theorem K8 {ops:Array Oper}{rest:List Oper}{S:GS}(h:∀ I',HLe I I'→(∀ b o,(b,o)∈loc→I' b=some o)→XO C Q ops rest S E I' []):XO C Q ops rest S E I loc:=fun a w ha hg hw=>by
 obtain ⟨I',h1,h2,h3⟩:=hw.freezeAll
 exact h I' h1 h3 a w ha hg h2
theorem zdz {c:Code}{L R:Loc}(hsp:YN loc L R)(h:∀ I',HLe I I'→(∀ b o,(b,o)∈L→I' b=some o)→X C Q c E I' R):X C Q c E I loc:=fun a w ha hw=>by
 have h0:=hw.unsplit hsp
 have h1:=h0.hideR
 obtain ⟨I',h2,h3,h4⟩:=h1.freezeAll
 have h5:St C.g I' C.H R w:=St.unhide (h0.rest Qx) h3
 exact h I' h2 h4 a w ha h5
theorem YE {α β:Type}[DecidableEq α]:∀ (m:List (α×β)) (a x:α) (b:β),ZE (YA m a b) x=if a=x then some b else ZE m x
 | [],a,x,b=>by simp [YA,ZE]
 | p::m,a,x,b=>by
  unfold YA
  by_cases h:p.1=a
  ·
   rw [if_pos h]
   simp only [ZE]
   by_cases h2:a=x
   ·
    rw [if_pos h2,if_pos h2]
   ·
    rw [if_neg h2,if_neg h2,if_neg (by rw [h];exact h2)]
  ·
   rw [if_neg h]
   simp only [ZE]
   rw [YE m a x b]
   by_cases h2:p.1=x
   ·
    rw [if_pos h2,if_pos h2,if_neg (fun e=>h (by rw [h2,e]))]
   ·
    rw [if_neg h2,if_neg h2]
theorem Ur {α β:Type}[DecidableEq α]:∀ {m:List (α×β)} {a:α} {b:β},ZE m a=some b→(a,b)∈m
 | [],_,_,h=>by cases h
 | p::m,a,b,h=>by
  unfold ZE at h
  split at h
  ·
   rename_i e
   cases h
   rw [←e];exact List.mem_cons_self ..
  ·
   exact List.mem_cons_of_mem _ (Ur h)
theorem Wl {α β:Type}[DecidableEq α]:∀ {m:List (α×β)} {a:α},ZE m a=none↔a∉m.map (·.1)
 | [],a=>by simp [ZE]
 | p::m,a=>by
  unfold ZE
  by_cases h:p.1=a
  ·
   simp [h]
  ·
   rw [if_neg h,Wl,List.map_cons,List.mem_cons,not_or]
   exact ⟨fun h2=>⟨fun e=>h e.symm,h2⟩,fun h2=>h2.2⟩
theorem Ua {α β:Type}[DecidableEq α]:∀ (m:List (α×β)) (a:α) (b:β),(YA m a b).map (·.1)=if a∈m.map (·.1) then m.map (·.1) else m.map (·.1)++[a]
 | [],a,b=>by simp [YA]
 | p::m,a,b=>by
  unfold YA
  by_cases h:p.1=a
  ·
   simp [h]
  ·
   rw [if_neg h,List.map_cons,Ua m a b]
   by_cases h2:a∈m.map (·.1)
   ·
    rw [if_pos h2,if_pos (by simp only [List.map_cons];exact List.mem_cons_of_mem _ h2)];rfl
   ·
    rw [if_neg h2,if_neg (by simp only [List.map_cons,List.mem_cons,not_or];exact ⟨fun e=>h e.symm,h2⟩)];rfl
theorem WV {α β:Type}[DecidableEq α]{m:List (α×β)}(a:α)(b:β)(h:(m.map (·.1)).Nodup):((YA m a b).map (·.1)).Nodup:=by
 rw [Ua]
 split
 ·
  exact h
 ·
  rename_i h2
  rw [List.nodup_append]
  exact ⟨h,by simp,fun x hx y hy e=>by simp at hy;subst hy;subst e;exact h2 hx⟩
theorem zcr {α β:Type}[DecidableEq α]{m:List (α×β)}(h:(m.map (·.1)).Nodup){p:α×β}(hp:p∈m):ZE m p.1=some p.2:=by
 induction m with
 | nil=>cases hp
 | cons q m ih=>
  rw [List.map_cons,List.nodup_cons] at h
  unfold ZE
  rcases List.mem_cons.1 hp with rfl | hp
  ·
   rw [if_pos rfl]
  ·
   rw [if_neg (fun e=>h.1 (by rw [e];exact List.mem_map.2 ⟨p,hp,rfl⟩)),ih h.2 hp]
def zdn {α:Type}[DecidableEq α](s:List (α×Bool))(a:α):Bool:=(ZE s a).getD false
theorem WG {α:Type}[DecidableEq α](s:List (α×Bool))(a x:α):zdn (YA s a true) x=(decide (a=x)||zdn s x):=by
 unfold zdn
 rw [YE]
 by_cases h:a=x
 ·
  simp [h]
 ·
  simp [h]
end
end Go.Kn
section
namespace Go.Kn
open Go
section
variable {I:Qu} {b off:Nat} {vs:List Value} {A:Array Value} {t:TypeId} {fz:Nat×Nat} {l:Loc}
variable {p0 p1 p2 p3 p4 p5 p6 p7 p8 p9:Nat×Obj}
theorem Cells.s0 (h:(A.toList.drop off).take vs.length=vs):Cells I ((b,.cells A t fz)::l) b off vs:=fun j v hv=>by
 refine zAc ?_
 rw [Vq]
 rw [←h] at hv
 rw [List.getElem?_take] at hv
 split at hv
 ·
  rw [List.getElem?_drop] at hv;exact hv
 ·
  cases hv
theorem Cells.s1 (h:(A.toList.drop off).take vs.length=vs):Cells I (p0::(b,.cells A t fz)::l) b off vs:=(Cells.s0 h).there
theorem Sl.seg {α:Type}{size:Nat}{enc:α→List Value}{av:Option Addr}{n c:Nat}{xs:List α}{loc:Loc}(h:Sl I size enc av n c xs){k o:Nat}{x:α}(hx:xs[k]? =some x)(hv:((enc x).drop o).take vs.length=vs):Cells I loc (Ab av) (Ao av+k*size+o) vs:=fun j u hu=>by
 rw [←hv,List.getElem?_take] at hu
 split at hu
 ·
  rw [List.getElem?_drop] at hu
  rw [Nat.add_assoc]
  exact h.get hx hu
 ·
  cases hu
end
theorem Vn {P:Program}{g:World}{I H:Qu}{post:List Value}{off:Nat}:∀ (vs:List Value) (pre:List Value) (w:World) (loc loc':Loc) (b:Nat) (t:TypeId) (old:List Value) (k:Nat),pre.length=off+k→old.length=vs.length→(∀ v∈vs,v.oneCell'=true)→St g I H loc w→
  Upd loc b (.cells (pre++(old++post)).toArray t (0,0)) (.cells (pre++(vs++post)).toArray t (0,0)) loc'→∃ w',(storeCells ⟨b,off,none⟩ vs k).run P w= .ok () w'∧St g I H loc' w'
 | [],pre,w,loc,loc',b,t,old,k,_,hl,_,hw,hu=>by
  have:old=[]:=List.length_eq_zero_iff.1 hl
  subst this
  refine ⟨w,rfl,?_⟩
  have hb:=hw.own _ _ hu.mem
  exact hw.turn hu rfl rfl rfl rfl hb (fun _ _=>rfl)
 | v::vs,pre,w,loc,loc',b,t,old,k,hp,hl,h1,hw,hu=>by
  cases old with
  | nil=>simp at hl
  | cons u old=>
   have hb:=hw.own _ _ hu.mem
   have hc:w.cell? ⟨b,off+k,none⟩=some u:=by simp [World.cell?,hb,←hp]
   have hfz:=UL (off:=off+k) hw hu.mem
   obtain ⟨l1,u1,u2⟩:=hu.middle (.cells ((pre++[v])++(old++post)).toArray t (0,0))
   have hset:((pre++(u::old++post)).toArray.setIfInBounds (off+k) v)=((pre++[v])++(old++post)).toArray:=by rw [←hp];simp
   rw [←hset] at u1
   have hw1:=hw.setCell u1
   rw [hset] at u1
   obtain ⟨w',hr,hs⟩:=Vn (P:=P) (post:=post) (off:=off) vs (pre++[v]) _ l1 loc' b t old (k+1) (by simp;omega) (by simpa using hl) (fun x hx=>h1 x (List.mem_cons_of_mem _ hx)) hw1 (by simpa using u2)
   refine ⟨w',?_,hs⟩
   simp only [storeCells,Sem.run_bind,Yp,run_store _ _ _ _ _ (h1 v (List.mem_cons_self ..)),hc,hfz,Bool.false_eq_true,if_false,Result.andThen,hr]
variable {C:Cx} {Q:Exit→Act→World→Prop} {E E':Env} {I I':Qu} {loc loc' L R:Loc} {ops:Array Oper} {rest:List Oper} {S:GS}
variable {dst:Option Tmp} {d:Nat} {ty:TypeId} {pos:String} {af:Array Edge} {gd:Option (Nat×Bool)} {x y z:Operand}
theorem X3 {A:List Value}{off n:Nat}{vs:List Value}(h:off+n≤A.length)(hn:vs.length=n):VF A off vs=A.take off++(vs++A.drop (off+n)):=by
 have e:A=A.take off++(A.drop off).take n++A.drop (off+n):=by
  rw [List.append_assoc]
  have:(A.drop off).take n++A.drop (off+n)=A.drop off:=by rw [←List.drop_drop];exact List.take_append_drop _ _
  rw [this,List.take_append_drop]
 have hl1:(A.take off).length=off:=by rw [List.length_take];omega
 have:=Ku (A.take off) ((A.drop off).take n) vs (A.drop (off+n)) (by rw [List.length_take,List.length_drop];omega)
 rw [←e,hl1,List.append_assoc] at this
 exact this
theorem Vm {t t' b off n:Nat}{vs:List Value}{A:List Value}(hx:QA [] E x=some (.pointer (some ⟨b,off,none⟩)))(hy:QA [] E y=some (.agg vs.toArray))(hT:SzT C.P t n)(hn:vs.length=n)(ho:Nat.ble (off+n) A.length=true)(h1:Yz vs=true)(hG:gd=none)
  (hu:Upd loc b (.cells A.toArray t' (0,0)) (.cells (VF A off vs).toArray t' (0,0)) loc')(h:XO C Q ops rest [] E I loc'):
  XO C Q ops (⟨none,.store t x y,ty,pos,af,gd⟩::rest) [] E I loc:=
 Yg hG (by intro c e;cases e) fun a w ha hw=>by
  obtain ⟨i,hi,hs⟩:=hT
  have hle:=Nat.le_of_ble_eq_true ho
  have e:A=A.take off++((A.drop off).take n++A.drop (off+n)):=by
   have:(A.drop off).take n++A.drop (off+n)=A.drop off:=by rw [←List.drop_drop];exact List.take_append_drop _ _
   rw [this,List.take_append_drop]
  rw [X3 hle hn] at hu
  have hu2:Upd loc b (.cells (A.take off++((A.drop off).take n++A.drop (off+n))).toArray t' (0,0)) (.cells (A.take off++(vs++A.drop (off+n))).toArray t' (0,0)) loc':=by rw [←e];exact hu
  obtain ⟨w',hr,hs'⟩:=Vn (P:=C.P) (off:=off) vs (A.take off) w loc loc' b t' ((A.drop off).take n) 0 (by rw [List.length_take];omega) (by rw [List.length_take,List.length_drop];omega) (JB h1) hw hu2
  simp only [execOp,Qj (S:=[]) ha trivial rfl hx,Qj (S:=[]) ha trivial rfl hy,Instr.storeAt,Instr.sureAddr,Sem.run_bind,Sem.run_pure,Result.andThen,storeVar,run_sizeOf hi,hs,Value.cells,List.size_toArray,hn,ne_eq,not_true_eq_false,if_false]
  simp only [hr,Oper.uponIn_skip]
  exact h _ _ ha trivial hs'
theorem Q1 {a:Addr}(hx:QA S E x=some (.pointer (some a))):QV C S E I loc ⟨dst,.nilCheck x,ty,pos,af,gd⟩ (.pointer (some a)):=
 .of (by intro c e;cases e) fun ac w ha hg hc _=>by
  simp only [execOp,Qj ha hg hc hx];rfl
theorem zjX {t:TypeId}{k:IntKind}{a:Int}(hx:QA S E x=some (.int k a)):QV C S E I loc ⟨dst,.unOp .neg t x,ty,pos,af,gd⟩ (.int k (k.wrap (0-a))):=
 .of (by intro c e;cases e) fun ac w ha hg hc _=>by
  simp only [execOp,Qj ha hg hc hx];rfl
section
variable {P:Program} {fn:Func} {N:Nat} {g:World} {I H:Qu} {loc:Loc} {E:Env}
theorem zyJ {D:List Deferred}{t tt b:Nat}{v:Value}(hr:fn.results= #[.cell t tt])(hv:V1 E t=some (.pointer (some ⟨b,0,none⟩)))(hT:ScT P tt)(hc:QT I loc b 0 v)(a:Act)(ha:KD N D E a)(w:World)(hw:St g I H loc w):(results fn a.tmps).run P w= .ok v w:=by
 have e1:=ha.env _ _ hv
 rw [Array.getD_eq_getD_getElem?] at e1
 have l1:(loadVar tt ⟨b,0,none⟩).run P w= .ok v w:=by
  simp only [loadVar,Sem.run_bind,Yj hT,Result.andThen,Bool.false_eq_true,if_false,run_load,hc.get hw]
 simp only [results,hr]
 simp [List.mapM_cons,e1,asAddr,l1]
end
end Go.Kn
namespace Go.Kn
open Go
section
variable {C:Cx} {E:Env} {I:Qu} {loc:Loc} {S:GS} {dst:Option Tmp} {ty:TypeId} {pos:String} {af:Array Edge} {gd:Option (Nat×Bool)} {x y:Operand}
variable {α β:Type} [DecidableEq α] {ek:α→Value} {ev:β→Value} {m:List (α×β)} {a:α}
theorem YM {t k e r:Nat}{zv:Value}{b:β}(hget:ZE m a=some b)(hT:MpT C.P t k e zv)(hK:V4 C.P k ek)(hx:QA S E x=some (.map (some r)))(hy:QA S E y=some (ek a))(hm:ZY S=true→Mem I loc r (ZQ ek ev m)):
  QV C S E I loc ⟨dst,.lookup t x y false,ty,pos,af,gd⟩ (ev b):=by
 have:=KN (C:=C) (S:=S) (dst:=dst) (ty:=ty) (pos:=pos) (af:=af) (gd:=gd) hT hK hx hy hm
 rw [hget] at this
 exact this
end
end Go.Kn
end
section
namespace Go.Kn
open Go
section
variable {C:Cx} {E:Env} {I:Qu} {loc:Loc} {S:GS} {dst:Option Tmp} {ty:TypeId} {pos:String} {af:Array Edge} {gd:Option (Nat×Bool)} {x y:Operand}
variable {α:Type} [DecidableEq α] {ek:α→Value} {a:α}
def Xp (t:Value×Nat×List Value):Value:=t.1
theorem VH {m:List (α×(Value×Nat×List Value))}{t k e r:Nat}(hT:MpT C.P t k e (.slice none 0 0))(hK:V4 C.P k ek)(hx:QA S E x=some (.map (some r)))(hy:QA S E y=some (ek a))(hm:ZY S=true→Mem I loc r (ZQ ek Xp m)):
  QV C S E I loc ⟨dst,.lookup t x y false,ty,pos,af,gd⟩ (((ZE m a).getD Jw).1):=by
 have:=KN (C:=C) (S:=S) (dst:=dst) (ty:=ty) (pos:=pos) (af:=af) (gd:=gd) hT hK hx hy hm
 cases h:ZE m a with
 | none=>rw [h] at this;exact this
 | some b=>rw [h] at this;exact this
theorem YG {m:List (α×(Value×Nat×List Value))}{v:Value}(hv:((ZE m a).getD Jw).1=v){t k e r:Nat}(hT:MpT C.P t k e (.slice none 0 0))(hK:V4 C.P k ek)(hx:QA S E x=some (.map (some r)))(hy:QA S E y=some (ek a))(hm:ZY S=true→Mem I loc r (ZQ ek Xp m)):
  QV C S E I loc ⟨dst,.lookup t x y false,ty,pos,af,gd⟩ v:=by
 rw [←hv];exact VH hT hK hx hy hm
theorem KV {m:List (α×Int)}{t k e r:Nat}{ik:IntKind}(hT:MpT C.P t k e (.int ik 0))(hK:V4 C.P k ek)(hx:QA S E x=some (.map (some r)))(hy:QA S E y=some (ek a))(hm:ZY S=true→Mem I loc r (ZQ ek (Value.int ik) m)):
  QV C S E I loc ⟨dst,.lookup t x y true,ty,pos,af,gd⟩ (.tuple #[.int ik ((ZE m a).getD 0),.bool (ZE m a).isSome]):=by
 have:=UK (C:=C) (S:=S) (dst:=dst) (ty:=ty) (pos:=pos) (af:=af) (gd:=gd) hT hK hx hy hm
 cases h:ZE m a with
 | none=>rw [h] at this;exact this
 | some b=>rw [h] at this;exact this
end
end Go.Kn
namespace Go.Kn
open Go
section
variable {C:Cx} {E:Env} {I:Qu} {loc:Loc} {S:GS} {dst:Option Tmp} {ty:TypeId} {pos:String} {af:Array Edge} {gd:Option (Nat×Bool)} {x y:Operand}
variable {α:Type} [DecidableEq α] {ek:α→Value} {a:α}
def zz7 (b:Nat):Value:=.map (some b)
theorem za1 {m:List (α×Nat)}{t k e r:Nat}(hT:MpT C.P t k e (.map none))(hK:V4 C.P k ek)(hx:QA S E x=some (.map (some r)))(hy:QA S E y=some (ek a))(hm:ZY S=true→Mem I loc r (ZQ ek zz7 m)):
  QV C S E I loc ⟨dst,.lookup t x y false,ty,pos,af,gd⟩ (.map (ZE m a)):=by
 have:=KN (C:=C) (S:=S) (dst:=dst) (ty:=ty) (pos:=pos) (af:=af) (gd:=gd) hT hK hx hy hm
 cases h:ZE m a with
 | none=>rw [h] at this;exact this
 | some b=>rw [h] at this;exact this
end
end Go.Kn
end
section
namespace Go.Kn
open Go
theorem zfw {P:Program}{t e:Nat}(hT:Ar2 P t e .i64):V4 (α:=Int×Int) P t YD:=by
 obtain ⟨hu,hi,hc,he,hg⟩:=hT
 obtain ⟨i,hi2⟩:=Option.isSome_iff_exists.1 hi
 have hsz:i.size=1:=by have:=hc;unfold Program.cellsOf at this;rw [hi2] at this;exact this
 refine .of_asking hu (fun b a w=>?_) (fun a=>by simp [YD,Instr.sameBits]) (fun a b=>rfl) (fun a b w=>?_)
 ·
  have hp:∀ (xs:Array Value) (q:Nat) (u:Value),xs[q]? =some u→(part e xs q).run P w= .ok u w:=fun xs q u h=>by
   simp only [part,Sem.run_bind,Yj (P:=P) ⟨_,he,trivial⟩,Result.andThen,Bool.false_eq_true,if_false,h,Sem.run_pure]
  have ck:∀ (x:Int) (q:Nat),(Instr.checkKey b (q+1) e (.int .i64 x)).run P w= .ok () w:=fun x q=>by
   simp only [Instr.checkKey,Sem.run_bind,run_underlying he,Result.andThen];rfl
  have key:∀ q,(Instr.checkKey b (q+2) t (YD a)).run P w= .ok () w:=fun q=>by
   unfold Instr.checkKey
   simp only [YD,Sem.run_bind,run_underlying hu,Result.andThen_ok]
   simp only [Std.Legacy.Range.forIn_eq_forIn_range',Std.Legacy.Range.size,Nat.sub_zero,Nat.add_one_sub_one,Nat.div_one]
   simp only [List.range',List.forIn_cons,List.forIn_nil,Sem.run_bind,run_sizeOf hi2,hsz,Result.andThen_ok,Nat.zero_mul,Nat.zero_add,Nat.one_mul,
    hp #[.int .i64 a.1,.int .i64 a.2] 0 (.int .i64 a.1) rfl,hp #[.int .i64 a.1,.int .i64 a.2] 1 (.int .i64 a.2) rfl,ck,Sem.run_pure]
  exact key 9998
 ·
  have e:=zff (P:=P) (t:=t) ⟨hu,hi,hc,he,hg⟩ w a.1 a.2 b.1 b.2 9998
  have e2:(Op.equal t (YD a) (YD b)).run P w= .ok (a.1==b.1&&a.2==b.2) w:=by
   simp only [Op.equal,Op.maxDepth,YD];exact e
  rw [e2]
  congr 1
  obtain ⟨a1,a2⟩:=a;obtain ⟨b1,b2⟩:=b
  by_cases h1:a1=b1<;>by_cases h2:a2=b2<;>simp [h1,h2]
theorem ziH {α β:Type}[DecidableEq α](m:List (α×β))(a:α)(b:β):ziW (YA m a b) a=ziW m a:=by
 have key:∀ (m:List (α×β)) (k:Nat),((WH (YA m a b) a k).map (·.1)).getD (k+(YA m a b).length)=((WH m a k).map (·.1)).getD (k+m.length):=by
  intro m
  induction m with
  | nil=>intro k;simp [YA,WH]
  | cons p m ih=>
   intro k
   unfold YA
   by_cases h:p.1=a
   ·
    rw [if_pos h];simp [WH,h]
   ·
    rw [if_neg h]
    simp only [WH,if_neg h,List.length_cons]
    have:=ih (k+1)
    rw [show k+((YA m a b).length+1)=k+1+(YA m a b).length by omega,show k+(m.length+1)=k+1+m.length by omega]
    exact this
 have:=key m 0
 simpa [ziW] using this
theorem OwnS.val {e size n:Nat}{v:Value}{xs:List Value}{L:Loc}(h:OwnS e size v n xs L):∃ a m c,v= .slice a m c:=by
 rcases h.2 with ⟨h1,_⟩ | ⟨b,c,cur,h1,_⟩
 ·
  exact ⟨_,_,_,h1⟩
 ·
  exact ⟨_,_,_,h1⟩
theorem zdl {α β:Type}[DecidableEq α]:∀ (m:List (α×β)) (a:α) (b c:β),YA (YA m a b) a c=YA m a c
 | [],a,b,c=>by simp [YA]
 | p::m,a,b,c=>by
  by_cases h:p.1=a
  ·
   simp [YA,h]
  ·
   simp only [YA,if_neg h,zdl m a b c]
section
variable {P:Program} {fn:Func} {R:Ending→World→Prop} {N:Nat} {g:World} {I H:Qu} {loc:Loc} {E:Env} {r:Option Nat}
theorem Zu {t u tt n b:Nat}{vs:List Value}{v':Value}(hr:fn.results= #[.cell t tt,.tmp u])(hv:V1 E t=some (.pointer (some ⟨b,0,none⟩)))(hv':V1 E u=some v')(hA:AgT P tt n)(hc:Cells I loc b 0 vs)(hn:vs.length=n)
  (h:∀ w,St g I H loc w→R (.returned (.tuple #[.agg vs.toArray,v'])) w):At ⟨P,r,N,[],g,H⟩ (bodyPost P fn R) .ret E I loc:=fun a w ha hw=>
 ⟨ha.defers,.tuple #[.agg vs.toArray,v'],by
  have e1:=ha.env _ _ hv
  have e2:=ha.env _ _ hv'
  rw [Array.getD_eq_getD_getElem?] at e1 e2
  have h1:(loadCells ⟨b,0,none⟩ n).run P w= .ok vs.toArray w:=by
   rw [←hn]
   exact run_loadCells_list w _ _ fun j v hj=>by rw [Yp];exact (hc j v hj).get hw
  have hA':=hA
  obtain ⟨_,i,h2,h3⟩:=hA'
  have l1:(loadVar tt ⟨b,0,none⟩).run P w= .ok (.agg vs.toArray) w:=by
   simp only [loadVar,Sem.run_bind,Sem.run_pure,Y7 hA,Result.andThen,if_true,run_sizeOf h2,h3,h1]
  simp only [results,hr]
  simp [List.mapM_cons,e1,e2,asAddr,l1],h w hw⟩
end
end Go.Kn
namespace Go.Kn
open Go
section
variable {C:Cx} {Q:Exit→Act→World→Prop} {E G:Env} {I I':Qu} {loc loc' L R:Loc} {ops:Array Oper} {rest:List Oper} {S:GS} {b:Bool}
variable {d:Nat} {ty:TypeId} {pos:String} {af:Array Edge} {gd:Option (Nat×Bool)}
theorem zjS {f:FuncId}{cap:List Value}{l:List Operand}{vs:List Value}{tys:Array TypeId}{cal:Operand}{K:Value→Qu→Loc→Prop}
  (he:QA ((b,G)::S) E cal=some (.func (.func f) #[] cap.toArray))(hl:l.map (QA ((b,G)::S) E)=vs.map some)(hF:Fun C.P f)(hc:ZY ((b,G)::S)=true→Yf C.P f (vs++cap) I [] K)(hno:∃ v,K v I [])
  (hG:Zn ops ((b,G)::S) E ⟨some d,.call ⟨.value cal,l.toArray,tys⟩,ty,pos,af,gd⟩)(hN:Nat.blt d C.N=true)(hf:ZX ((b,G)::S) E d=true)
  (h:∀ v I' L',HLe I I'→K v I' L'→XO C Q ops rest ((b,(d,v)::G)::S) E I' (L'++loc)):
  XO C Q ops (⟨some d,.call ⟨.value cal,l.toArray,tys⟩,ty,pos,af,gd⟩::rest) ((b,G)::S) E I loc:=
 zbt he hl hF hG rfl hN hf .nil hc (fun _=>hno) h
end
end Go.Kn
end
namespace Go.Proofs.YtodakphagkommaaGreatDoor
section
open Go Go.Kn Go.Proofs
theorem zcl:Fun Tryz.prog 100:=.of Tryz.func100 (by kernel_rfl) (by kernel_rfl)
theorem zq0:Fun Tryz.prog 101:=.of Tryz.func101 (by kernel_rfl) (by kernel_rfl)
theorem zih:Fun Tryz.prog 148:=.of Tryz.func148 (by kernel_rfl) (by kernel_rfl)
theorem zh2:Fun Tryz.prog 151:=.of Tryz.func151 (by kernel_rfl) (by kernel_rfl)
theorem zeJ:Fun Tryz.prog 153:=.of Tryz.func153 (by kernel_rfl) (by kernel_rfl)
theorem zsR:Fun Tryz.prog 197:=.of Tryz.func197 (by kernel_rfl) (by kernel_rfl)
theorem zsn:Fun Tryz.prog 198:=.of Tryz.func198 (by kernel_rfl) (by kernel_rfl)
theorem zjg:Fun Tryz.prog 200:=.of Tryz.func200 (by kernel_rfl) (by kernel_rfl)
theorem zjn:Fun Tryz.prog 201:=.of Tryz.func201 (by kernel_rfl) (by kernel_rfl)
theorem zpy:Fun Tryz.prog 53:=.of Tryz.func53 (by kernel_rfl) (by kernel_rfl)
theorem zdA:Fun Tryz.prog 57:=.of Tryz.func57 (by kernel_rfl) (by kernel_rfl)
theorem ziS:Fun Tryz.prog 87:=.of Tryz.func87 (by kernel_rfl) (by kernel_rfl)
theorem mixed:Tryz.prog.follows .mixedOrders=true:=by kernel_rfl
theorem QJ:ScT Tryz.prog 23:=.of (by kernel_rfl)
theorem Qr:ScT Tryz.prog 3:=.of (by kernel_rfl)
theorem Zp:SlT Tryz.prog 22 23 1:=.of (by kernel_rfl)
theorem Qw:SlT Tryz.prog 23 3 1:=.of (by kernel_rfl)
end
section
open Go Go.Kn Go.Proofs
def QQ (n:Int):List Value:=[.int .i64 n]
structure Hd where
 a:Option Addr
 n:Nat
 c:Nat
def XI (h:Hd):List Value:=[.slice h.a h.n h.c]
theorem Qv (x:Int):(QQ x).length=1:=rfl
theorem Zb (x:Hd):(XI x).length=1:=rfl
theorem Kk (xs:List Int):Yz (xs.flatMap QQ)=true:=Yl (fun _=>rfl) xs
theorem zwr (xs:List Hd):Yz (xs.flatMap XI)=true:=Yl (fun _=>rfl) xs
def zsI {α:Type}[DecidableEq α](xs ys:List α):Bool:=decide (xs=ys)
theorem _root_.Go.Kn.Sl.at {α:Type}{I:Qu}{size:Nat}{enc:α→List Value}{av:Option Addr}{n c:Nat}{xs:List α}(h:Sl I size enc av n c xs){k:Nat}(hk:k<n):∃ x,xs[k]? =some x:=
 ⟨_,List.getElem?_eq_getElem (by rw [h.len];exact hk)⟩
theorem Jv {p:Nat→Bool}{k:Nat}(h:(List.range k).all p=true)(hp:p k=true):(List.range (k+1)).all p=true:=by
 rw [List.range_succ,List.all_append,h];simpa using hp
theorem Kd {p:Nat→Bool}{n k:Nat}(hk:k<n)(hp:p k=false):(List.range n).all p=false:=by
 cases h:(List.range n).all p with
 | false=>rfl
 | true=>
  rw [List.all_eq_true] at h
  rw [h k (List.mem_range.2 hk)] at hp;cases hp
theorem QU {α:Type}{xs:List α}{k:Nat}{x d:α}(h:xs[k]? =some x):xs.getD k d=x:=by simp [List.getD,h]
theorem Q4 {α:Type}{xs:List α}{n k:Nat}{d:α}(hl:xs.length=n)(h:k<n):xs[k]? =some (xs.getD k d):=by
 have:k<xs.length:=by omega
 unfold List.getD
 rw [List.getElem?_eq_getElem this];rfl
def SlH (I:Qu)(av:Option Addr)(n c:Nat)(hs:List Hd)(vss:List (List Int)):Prop:=Sl I 1 XI av n c hs∧hs.length=vss.length∧∀ (k:Nat) (h:Hd) (v:List Int),hs[k]? =some h→vss[k]? =some v→Sl I 1 QQ h.a h.n h.c v
def SlN (I:Qu)(av:Option Addr)(n c:Nat)(vss:List (List Int)):Prop:=∃ hs:List Hd,SlH I av n c hs vss
theorem SlH.mono {I I':Qu}{av:Option Addr}{n c:Nat}{hs:List Hd}{vss:List (List Int)}(h:SlH I av n c hs vss)(hI:HLe I I'):SlH I' av n c hs vss:=
 ⟨h.1.mono hI,h.2.1,fun k h' v a b=>(h.2.2 k h' v a b).mono hI⟩
theorem SlN.mono {I I':Qu}{av:Option Addr}{n c:Nat}{vss:List (List Int)}(h:SlN I av n c vss)(hI:HLe I I'):SlN I' av n c vss:=by
 obtain ⟨hs,h1⟩:=h
 exact ⟨hs,h1.mono hI⟩
theorem SlH.len {I:Qu}{av:Option Addr}{n c:Nat}{hs:List Hd}{vss:List (List Int)}(h:SlH I av n c hs vss):vss.length=n:=by rw [←h.2.1,h.1.len]
theorem SlN.len {I:Qu}{av:Option Addr}{n c:Nat}{vss:List (List Int)}(h:SlN I av n c vss):vss.length=n:=by
 obtain ⟨hs,h1⟩:=h
 exact h1.len
theorem SlH.at {I:Qu}{av:Option Addr}{n c:Nat}{hs:List Hd}{vss:List (List Int)}(h:SlH I av n c hs vss){k:Nat}(hk:k<n):∃ hd v,hs[k]? =some hd∧vss[k]? =some v∧Sl I 1 QQ hd.a hd.n hd.c v:=by
 obtain ⟨hd,hh⟩:=h.1.at hk
 have hl:=h.len
 have hv:vss[k]? =some (vss[k]'(by omega)):=List.getElem?_eq_getElem _
 exact ⟨hd,_,hh,hv,h.2.2 k hd _ hh hv⟩
def zm0 {α:Type}(e:Int)(xs:List α):List α:=if e≠0 then [] else xs
theorem zmR {α:Type}{e:Int}{xs:List α}(h:e≠0):zm0 e xs=[]:=by unfold zm0;rw [if_pos h]
theorem zk2 {α:Type}{e:Int}{xs:List α}(h:e=0):zm0 e xs=xs:=by unfold zm0;rw [if_neg (by omega)]
theorem KO {α:Type}{R:α→α→Prop}(ht:∀ a b c,R a b→R b c→R a c){l:List α}(h:∀ k (hk:k+1<l.length),R (l[k]'(by omega)) l[k+1]):l.Pairwise R:=by
 have key:∀ (n i:Nat) (hn:i+n<l.length),0<n→R (l[i]'(by omega)) l[i+n]:=by
  intro n
  induction n with
  | zero=>intro i _ h0;omega
  | succ n ih=>
   intro i hn _
   have h2:=h (i+n) (by omega)
   by_cases e:n=0
   ·
    subst e;exact h2
   ·
    exact ht _ _ _ (ih i (by omega) (by omega)) h2
 rw [List.pairwise_iff_getElem]
 intro i j hi hj hij
 have:=key (j-i) i (by omega) (by omega)
 simpa [show i+(j-i)=j by omega] using this
def Z8 (s:Int):Bool:=decide (s>0)&&(K3 s (IntKind.i64.wrap (s-1))==0)
def WP (cl:List Int)(s:Int):Bool:=cl.any (fun c=>c==s)||Z8 s
def ztA (a c:Int):Bool:=K3 a (IntKind.i64.wrap (0-a))==K3 c (IntKind.i64.wrap (0-c))
def JL (cl:List Int)(c a:Int):Bool:=(K3 a c==a)&&ztA a c&&WP cl a&&WP cl (c-a)
def KG (cl:List Int)(c:Int)(a:Nat):Int:=match (List.range' a (c.toNat -a)).find? (fun k:Nat=>JL cl c (k:Int)) with | none=>0 | some k=>(k:Int)
def Qy (cl:List Int)(c:Int):Int:=KG cl c 1
def KE (all:Int)(cl:List Int)(i:Nat):Bool:= !(((decide (cl.getD i 0<1))||decide (cl.getD i 0>all))||(decide ((i:Int)>0)&&decide (cl.getD i 0≤cl.getD ((i:Int)-1).toNat 0)))
def Vs (n:Int):Int:=IntKind.i64.wrap (1*2^(min n.toNat IntKind.i64.bits))-1
def Jg (n:Int)(cl:List Int):Int:=
 if n>6 then 2 else if decide (n<1)||decide ((cl.length:Int)≠n-1) then 420
 else if !(List.range cl.length).all (KE (Vs n) cl) then 420
 else if decide (n>1)&&decide (cl.getD (n-2).toNat 0≠Vs n) then 420
 else if cl.any (fun c=>Qy cl c==0) then 420 else 0
theorem zgv {n:Int}(h:1≤n∧n≤6):2≤IntKind.i64.wrap (1*2^(min n.toNat IntKind.i64.bits))∧IntKind.i64.wrap (1*2^(min n.toNat IntKind.i64.bits))≤64:=by
 have:n=1∨n=2∨n=3∨n=4∨n=5∨n=6:=by omega
 rcases this with e | e | e | e | e | e<;>subst e<;>decide
theorem zbj {n:Int}(h:1≤n∧n≤6):1≤Vs n∧Vs n≤63:=by have:=zgv h;unfold Vs;omega
theorem zbO {all:Int}{cl:List Int}(h:(List.range cl.length).all (KE all cl)=true){k:Nat}{x:Int}(hx:cl[k]? =some x):1≤x∧x≤all:=by
 have h1:=List.all_eq_true.1 h k (List.mem_range.2 (List.getElem?_eq_some_iff.1 hx).1)
 unfold KE at h1
 rw [QU hx] at h1
 simp at h1
 omega
theorem zw2 {n:Int}{cl:List Int}(h:n>6):Jg n cl=2:=by unfold Jg;rw [if_pos h]
theorem zua {n:Int}{cl:List Int}(h:¬n>6)(h2:(decide (n<1)||decide ((cl.length:Int)≠n-1))=true):Jg n cl=420:=by unfold Jg;rw [if_neg h,if_pos h2]
theorem zwu {n:Int}{cl:List Int}(h:¬n>6)(h2:(decide (n<1)||decide ((cl.length:Int)≠n-1))=false)(h3:(List.range cl.length).all (KE (Vs n) cl)=false):Jg n cl=420:=by unfold Jg;rw [if_neg h,if_neg (by rw [h2];decide),if_pos (by rw [h3];rfl)]
theorem zu3 {n:Int}{cl:List Int}(h:¬n>6)(h2:(decide (n<1)||decide ((cl.length:Int)≠n-1))=false)(h3:(List.range cl.length).all (KE (Vs n) cl)=true)(h4:(decide (n>1)&&decide (cl.getD (n-2).toNat 0≠Vs n))=true):Jg n cl=420:=by
 unfold Jg;rw [if_neg h,if_neg (by rw [h2];decide),if_neg (by rw [h3];decide),if_pos h4]
theorem zpf {n:Int}{cl:List Int}(h:¬n>6)(h2:(decide (n<1)||decide ((cl.length:Int)≠n-1))=false)(h3:(List.range cl.length).all (KE (Vs n) cl)=true)(h4:(decide (n>1)&&decide (cl.getD (n-2).toNat 0≠Vs n))=false):
  Jg n cl=if cl.any (fun c=>Qy cl c==0) then 420 else 0:=by
 unfold Jg;rw [if_neg h,if_neg (by rw [h2];decide),if_neg (by rw [h3];decide),if_neg (by rw [h4];decide)]
def Zc (b:Nat):Value:=.pointer (some ⟨b,0,none⟩)
def zxu (cl:List Int)(s:Int):Bool:=Z8 s||cl.any (fun y=>s==y)
def Xc (cl:List Int)(s a:Int):Bool:=ztA a s&&zxu cl a&&zxu cl (zd9 s a)
def U9 (s a:Int):Int:=K3 (IntKind.i64.wrap (a-1)) s
def UM (cl:List Int)(s:Int):Nat→Int→Option Int
 | 0,_=>none
 | f+1,a=>if decide (a>0) then (if Xc cl s a then some a else UM cl s f (U9 s a)) else none
def WN (cl:List Int)(s:Int):Option Int:=UM cl s 64 (U9 s s)
theorem zkJ:((List.range 64).all fun a=>(List.range 64).all fun s=>decide (0≤K3 (a:Int) (s:Int))&&decide (K3 (a:Int) (s:Int)≤(a:Int)))=true:=by kernel_rfl
theorem zw7 {a s:Int}(ha:0≤a∧a≤63)(hs:0≤s∧s≤63):0≤K3 a s∧K3 a s≤a:=by
 have h:=List.all_eq_true.1 (List.all_eq_true.1 zkJ a.toNat (List.mem_range.2 (by omega))) s.toNat (List.mem_range.2 (by omega))
 rw [show ((a.toNat:Nat):Int)=a by omega,show ((s.toNat:Nat):Int)=s by omega] at h
 simpa using h
theorem zhK {a s:Int}(ha:0<a∧a≤63)(hs:0≤s∧s≤63):0≤U9 s a∧U9 s a≤a-1:=by
 unfold U9
 rw [zcz (by omega)]
 exact zw7 (by omega) hs
theorem zkb {cl:List Int}{s a:Int}{f:Nat}(h:a>0)(hp:Xc cl s a=true):UM cl s (f+1) a=some a:=by
 unfold UM;rw [if_pos (by simpa using h),if_pos hp]
theorem zho {cl:List Int}{s a:Int}{f:Nat}(h:a>0)(hp:Xc cl s a=false):UM cl s (f+1) a=UM cl s f (U9 s a):=by
 rw [show UM cl s (f+1) a=if decide (a>0) then (if Xc cl s a then some a else UM cl s f (U9 s a)) else none from rfl,if_pos (by simpa using h),if_neg (by rw [hp];decide)]
theorem zkD {cl:List Int}{s a:Int}{f:Nat}(h:¬a>0):UM cl s f a=none:=by
 cases f with
 | zero=>rfl
 | succ f=>rw [show UM cl s (f+1) a=if decide (a>0) then (if Xc cl s a then some a else UM cl s f (U9 s a)) else none from rfl,if_neg (by simpa using h)]
def zew (cl:List Int)(s:Int):Int:=match WN cl s with | some a=>a | none=>0
def zeB (cl:List Int)(s:Int):Int:=match WN cl s with | some a=>zd9 s a | none=>0
def YX (m:Int)(cl:List Int)(s:Int):Int:=if Jg m cl≠0 then Jg m cl else if cl.any (fun c=>c==s) then 0 else 1
def zbf (m:Int)(cl:List Int)(s:Int):Int:=if YX m cl s≠0 then 0 else Qy cl s
def za0 (m:Int)(cl:List Int)(s:Int):Int:=if YX m cl s≠0 then 0 else s-Qy cl s
theorem zht {m:Int}{cl:List Int}{s:Int}(h:Jg m cl≠0):YX m cl s=Jg m cl:=by unfold YX;rw [if_pos h]
theorem zek {m:Int}{cl:List Int}{s:Int}(h:Jg m cl=0)(h2:cl.any (fun c=>c==s)=false):YX m cl s=1:=by unfold YX;rw [if_neg (by omega),if_neg (by rw [h2];decide)]
theorem zcS {m:Int}{cl:List Int}{s:Int}(h:Jg m cl=0)(h2:cl.any (fun c=>c==s)=true):YX m cl s=0:=by unfold YX;rw [if_neg (by omega),if_pos h2]
theorem zha {m:Int}{cl:List Int}{s:Int}(h:YX m cl s≠0):zbf m cl s=0∧za0 m cl s=0:=by unfold zbf za0;rw [if_pos h,if_pos h];exact ⟨rfl,rfl⟩
theorem zij {m:Int}{cl:List Int}{s:Int}(h:YX m cl s=0):zbf m cl s=Qy cl s∧za0 m cl s=s-Qy cl s:=by unfold zbf za0;rw [if_neg (by omega),if_neg (by omega)];exact ⟨rfl,rfl⟩
theorem ZV {m:Int}{cl:List Int}(h:Jg m cl=0):1≤m∧m≤6∧(cl.length:Int)=m-1∧∀ c∈cl,1≤c∧c≤63:=by
 unfold Jg at h
 split at h
 ·
  cases h
 ·
  rename_i h1
  split at h
  ·
   cases h
  ·
   rename_i h2
   split at h
   ·
    cases h
   ·
    rename_i h3
    simp at h2 h3
    refine ⟨by omega,by omega,by omega,fun c hc=>?_⟩
    obtain ⟨k,hk⟩:=List.getElem?_of_mem hc
    have h4:(List.range cl.length).all (KE (Vs m) cl)=true:=by rw [List.all_eq_true];intro x hx;exact h3 x (List.mem_range.1 hx)
    have:=zbO h4 hk
    have:=zbj (n:=m) (by omega)
    omega
end
section
open Go Go.Kn Go.Proofs
theorem zfo (I:Qu)(s:Int):Zy Tryz.prog 201 [.int .i64 s] I (.bool (Z8 s)):=by
 intro g H w hw
 refine qe Tryz.func201 Tryz.ntmps201 hw ?_
 refine zR (zA ?_)
 refine zN (zR ?_)
 refine zM ?_
 refine zC ?_
 refine zM ?_
 refine QH 2 rfl rfl rfl ?_
 refine zK (Qi rfl) ?_
 refine zK (Qi rfl) ?_
 refine zK (zkf rfl rfl rfl) ?_
 refine zK (zay rfl rfl) ?_
 refine zK (QG rfl rfl rfl) ?_
 refine QP rfl rfl rfl rfl rfl ?_
 refine zA (zN (Qt ?_))
 exact zr rfl rfl (by rfl)
theorem Vb {α:Type}{xs:List α}{k:Nat}{x:α}{p:α→Bool}(hx:xs[k]? =some x)(h:(xs.take k).any p=false)(hp:p x=false):(xs.take (k+1)).any p=false:=by rw [UW hx,h,hp];rfl
theorem Kt {α:Type}{xs:List α}{k:Nat}{x:α}{p:α→Bool}(hx:xs[k]? =some x)(hp:p x=true):xs.any p=true:=List.any_eq_true.2 ⟨x,List.mem_of_getElem? hx,hp⟩
end
section
open Go Go.Kn Go.Proofs
def Uk {α:Type}(p:α→Bool)(xs:List α):Int:=if xs.any p then (xs.findIdx p:Int) else -1
theorem JE {α:Type}{xs:List α}{k:Nat}{x:α}{p:α→Bool}(h:(xs.take k).any p=false)(hx:xs[k]? =some x)(hp:p x=true):Uk p xs=k:=by
 unfold Uk
 rw [Kt hx hp,if_pos rfl]
 have hk:=(List.getElem?_eq_some_iff.1 hx).1
 have:xs.findIdx p=k:=by
  rw [List.findIdx_eq hk]
  refine ⟨by rw [(List.getElem?_eq_some_iff.1 hx).2];exact hp,fun j hj=>?_⟩
  have:=List.any_eq_false.1 h xs[j] (by rw [List.mem_take_iff_getElem];exact ⟨j,by omega,rfl⟩)
  simpa using this
 omega
theorem VQ {α:Type}{xs:List α}{k n:Nat}{p:α→Bool}(hl:xs.length=n)(hk:n≤k)(h:(xs.take k).any p=false):Uk p xs= -1:=by
 unfold Uk
 rw [ZH hl hk] at h
 rw [h];rfl
theorem K1 {α:Type}{xs:List α}{p:α→Bool}:decide (Uk p xs≥0)=xs.any p:=by
 unfold Uk
 cases h:xs.any p
 ·
  rfl
 simp
theorem zq4 {I:Qu}{av:Option Addr}{n c:Nat}{xs:List Int}(hS:Sl I 1 QQ av n c xs)(hn:n≤100000)(v:Int):Zy Tryz.prog 101 [.slice av n c,.int .i64 v] I (.int .i64 (Uk (fun y=>v==y) xs)):=by
 intro g H w hw
 refine qe Tryz.func101 Tryz.ntmps101 hw ?_
 refine zR (zA (zN (Ql (zR ?_))))
 refine zM ?_
 refine zQ Qw ?_
 refine zM (zN (Qm ?_))
 refine zU [(0,_),(1,_),(7,_)] (fun T L0 mz E I' loc'=>∃ (k:Nat),mz=n-k∧E=(8,.int .i64 k)::T∧I=I'∧L0=loc'∧k≤n∧(xs.take k).any (fun y=>v==y)=false) ?_ (h:=⟨0,rfl,rfl,rfl,rfl,Nat.zero_le _,rfl⟩)
 rintro mz E I' loc' ⟨k,rfl,rfl,rfl,rfl,hk,hno⟩
 refine zR (zC (zN (Ql ?_)))
 refine zI ?_ ?_<;>intro hc9
 ·
  have hlt_k:k<n:=by have h:=hc9;simp at h;omega
  obtain ⟨x,hx⟩:=hS.at hlt_k
  refine Qn (Qa (Ql (Qm (zR (zM ?_)))))
  refine zA ?_
  refine zN (zR ?_)
  refine zM ?_
  refine zM ?_
  refine zM ?_
  refine zV (QE rfl rfl Qw (by assumption) (fun hg=>by omega)) ?_
  refine zV (Qe rfl Qr (fun hg=>by exact zAa hS hx rfl)) ?_
  refine zC (zN ?_)
  refine zI ?_ ?_<;>intro hc16
  ·
   refine zR (zM ?_)
   refine zA (zN (Qt (Qp (Qc (Qc (Qp (Qc ?_)))))))
   exact zr rfl rfl (by rw [JE hno hx hc16])
  refine Qn (Qf (Qa (Qg (zB ?_))))
  refine zM (Qb ?_)
  exact zm (h:=⟨n-(k+1),by omega,k+1,rfl,rfl,rfl,rfl,by omega,Vb hx hno hc16⟩)
 have hge_k:n≤k:=by have h:=hc9;simp at h;omega
 refine QI (Qh (Qh (Qk (Qa (zR (zA (zN ?_)))))))
 refine Qt ?_
 exact zr rfl rfl (by rw [VQ hS.len hge_k hno])
theorem Kf {I:Qu}{av:Option Addr}{n c:Nat}{xs:List Int}(hS:Sl I 1 QQ av n c xs)(hn:n≤100000)(v:Int):Zy Tryz.prog 57 [.slice av n c,.int .i64 v] I (.bool (xs.any (fun y=>v==y))):=by
 intro g H w hw
 refine qe Tryz.func57 Tryz.ntmps57 hw ?_
 refine zR (zA ?_)
 refine zN (zR ?_)
 refine zM ?_
 refine zM ?_
 refine qc (vs:=[_,_]) rfl zq0 (zq4 hS hn v) ?_
 refine zC ?_
 refine zA (zN (Qt ?_))
 first
 | exact zr rfl rfl (by rw [←K1])
theorem zxw {I:Qu}{b:Nat}{av:Option Addr}{n c:Nat}{xs:List Int}(hc:QT I [] b 0 (.slice av n c))(hS:Sl I 1 QQ av n c xs)(hn:n≤100000)(s:Int):Zy Tryz.prog 200 [.int .i64 s,Zc b] I (.bool (zxu xs s)):=by
 intro g H w hw
 refine qe Tryz.func200 Tryz.ntmps200 hw ?_
 refine zR (zA ?_)
 refine zN (zR ?_)
 refine zM ?_
 refine qc (vs:=[_]) rfl zjn (zfo I _) ?_
 refine zM ?_
 refine QR 2 rfl rfl rfl ?_
 refine zJ (Qe rfl QJ (fun hg=>by exact hc.any)) ?_
 refine zJ (Qi rfl) ?_
 refine qf (vs:=[_,_]) rfl zdA (fun hg=>Kf hS hn _) ?_
 refine Zo rfl rfl rfl rfl rfl ?_
 refine zA (zN (Qt ?_))
 exact zr rfl rfl (by rfl)
end
section
open Go Go.Kn Go.Proofs
theorem zeE {I:Qu}{av:Option Addr}{n c:Nat}{xs:List Int}(hS:Sl I 1 QQ av n c xs)(hn:n≤100000)(s:Int)(hs:1≤s∧s≤63):Zy Tryz.prog 153 [.slice av n c,.int .i64 s] I (.tuple #[.int .i64 (zew xs s),.int .i64 (zeB xs s),.bool (WN xs s).isSome]):=by
 intro g H w hw
 refine qe Tryz.func153 Tryz.ntmps153 hw ?_
 have hIc:=zAh I
 refine zR ?_
 refine Q2 rfl rfl rfl (fun b_2=>?_)
 refine zA ?_
 refine zA ?_
 refine zA (zN (Ql ?_))
 refine Zg .here (fun I1 hI1 hb1=>?_)
 have hS:=hS.mono hI1;have hIc:=hIc.trans hI1
 have hbx:=hb1
 refine Qg ?_
 refine zV (Zd (us:=[]) (vs:=[_]) rfl rfl) ?_
 refine zA (zN (Ql (zR ?_)))
 refine zM ?_
 refine zV (zkf rfl rfl rfl) ?_
 refine zM ?_
 refine zV (zay rfl rfl) ?_
 refine zA (Qb ?_)
 have hn0:=zhK (a:=s) (s:=s) (by omega) (by omega)
 refine Qa (Qm ?_)
 refine zU [(1,_),(7,_)] (fun T L0 mz E I' loc'=>∃ (a:Int) (f:Nat),mz=a.toNat∧E=(8,.int .i64 a)::T∧I1=I'∧L0=loc'∧0≤a∧a≤63∧a.toNat<f∧WN xs s=UM xs s f a) ?_ (h:=⟨U9 s s,64,rfl,rfl,rfl,rfl,hn0.1,by omega,by omega,rfl⟩)
 rintro mz E I' loc' ⟨a,f,rfl,rfl,rfl,rfl,ha0,ha1,haf,hpf⟩
 refine Ql (zR (zM ?_))
 refine zC (zN ?_)
 refine zI ?_ ?_<;>intro hc15
 ·
  have ha:a>0:=by simpa using hc15
  obtain ⟨f,rfl⟩:∃ q,f=q+1:=⟨f-1,by omega⟩
  have hna:=zhK (a:=a) (s:=s) (by omega) (by omega)
  have hlt2:(U9 s a).toNat<a.toNat:=by omega
  refine Qn (Qa (Ql (Qm (zR (zM ?_)))))
  refine zM ?_
  refine zV (zon rfl) ?_
  refine zV (zay rfl rfl) ?_
  refine zM ?_
  refine zM ?_
  refine zV (zon rfl) ?_
  refine zV (zay rfl rfl) ?_
  refine zC ?_
  refine zM ?_
  refine QH 9 rfl rfl rfl ?_
  refine zK (Qi rfl) ?_
  refine zK (Qi rfl) ?_
  refine Wz (cap:=[Zc b_2]) (vs:=[_]) rfl rfl zjg (fun hg=>zxw (.imm hbx rfl) hS hn _) (.some rfl rfl rfl rfl gbt) rfl rfl ?_
  refine QP rfl rfl rfl rfl rfl ?_
  refine zM ?_
  refine QH 14 rfl rfl rfl ?_
  refine zK (Qi rfl) ?_
  refine zK (Qi rfl) ?_
  refine zK (Qi rfl) ?_
  refine zK (zdC rfl rfl) ?_
  refine Wz (cap:=[Zc b_2]) (vs:=[_]) rfl rfl zjg (fun hg=>zxw (.imm hbx rfl) hS hn _) (.some rfl rfl rfl rfl gbt) rfl rfl ?_
  refine QP rfl rfl rfl rfl rfl ?_
  refine zN ?_
  refine zI ?_ ?_<;>intro hc40
  ·
   have hv:WN xs s=some a:=by rw [hpf,zkb ha (by unfold Xc ztA;simpa using hc40)]
   refine zR (zM ?_)
   refine zM ?_
   refine zM ?_
   refine zV (zdC rfl rfl) ?_
   refine zA ?_
   refine zA ?_
   refine zA (zN (Qt (Qp (Qc (Qc (Qp (Qc ?_)))))))
   exact KK rfl rfl rfl rfl (fun w hw=>⟨by unfold zew zeB;rw [hv];rfl,(hw.mono hIc).drop⟩)
  have hpf2:WN xs s=UM xs s f (U9 s a):=by rw [hpf,zho ha (by unfold Xc ztA;simpa using hc40)]
  refine Qn (Qf (Qa (Qg (zM ?_))))
  refine zV (zkf rfl rfl rfl) ?_
  refine zM ?_
  refine zV (zay rfl rfl) ?_
  refine zA (Qb ?_)
  exact zm (h:=⟨_,hlt2,U9 s a,f,rfl,rfl,rfl,rfl,hna.1,by omega,by omega,hpf2⟩)
 have ha:¬a>0:=by simpa using hc15
 have hv:WN xs s=none:=by rw [hpf,zkD ha]
 refine QI (Qh (Qh (Qk (Qa (zR (zA ?_))))))
 refine zA ?_
 refine zA (zN (Qt ?_))
 exact KK rfl rfl rfl rfl (fun w hw=>⟨by unfold zew zeB;rw [hv];rfl,(hw.mono hIc).drop⟩)
end
section
open Go Go.Kn Go.Proofs
def zxA (s:Int):Nat→Int→List Int
 | 0,_=>[]
 | f+1,a=>if decide (a>0) then a::zxA s f (U9 s a) else []
theorem W5 {cl:List Int}{s:Int}:∀ (f:Nat) (a:Int),UM cl s f a=(zxA s f a).find? (Xc cl s)
 | 0,_=>rfl
 | f+1,a=>by
  unfold UM zxA
  split
  ·
   rw [List.find?_cons,W5 f]
   cases Xc cl s a<;>rfl
  ·
   rfl
def zri (s:Nat):List Int:=((List.range' 1 (s-1)).map (fun k:Nat=>(k:Int))).filter (fun a=>K3 a s==a)
theorem zik:((List.range 64).all fun s=>decide (zxA (s:Int) 64 (U9 s s)=(zri s).reverse)&&(zri s).all (fun a=>zd9 s a==s-a))=true:=by kernel_rfl
theorem zeN {cl:List Int}{s a:Int}(h1:K3 a s=a)(h2:zd9 s a=s-a):Xc cl s a=JL cl s a:=by
 have hown:∀ x,zxu cl x=WP cl x:=fun x=>by
  unfold zxu WP
  rw [Bool.or_comm]
  congr 1
  congr 1
  funext y
  exact Bool.eq_iff_iff.2 (by simp;exact eq_comm)
 unfold Xc JL
 rw [h1,h2,hown,hown]
 simp
theorem zcV {cl:List Int}{s:Int}(hs:1≤s∧s≤63):(WN cl s).isSome= !(Qy cl s==0):=by
 obtain ⟨n,rfl⟩:∃ n:Nat,s=(n:Int):=⟨s.toNat,by omega⟩
 have ht:=List.all_eq_true.1 zik n (List.mem_range.2 (by omega))
 rw [Bool.and_eq_true,decide_eq_true_eq] at ht
 have hl:=List.all_eq_true.1 ht.2
 have e1:(WN cl n).isSome=(zri n).any (Xc cl n):=by
  unfold WN
  rw [W5,ht.1]
  exact Bool.eq_iff_iff.2 (by rw [List.find?_isSome,List.any_eq_true];simp)
 have e2:(zri n).any (Xc cl n)=(List.range' 1 (n-1)).any (fun k:Nat=>JL cl n k):=by
  unfold zri at hl ⊢
  rw [Bool.eq_iff_iff,List.any_eq_true,List.any_eq_true]
  constructor
  ·
   rintro ⟨a,ha,hp⟩
   have hla:=hl a ha
   rw [List.mem_filter,List.mem_map] at ha
   obtain ⟨⟨k,hk,rfl⟩,h2⟩:=ha
   exact ⟨k,hk,by rw [←zeN (by simpa using h2) (by simpa using hla)];exact hp⟩
  ·
   rintro ⟨k,hk,hp⟩
   have h2:K3 (k:Int) n=k:=by
    unfold JL at hp
    simp only [Bool.and_eq_true,beq_iff_eq] at hp
    exact hp.1.1.1
   have hm:(k:Int)∈((List.range' 1 (n-1)).map (fun k:Nat=>(k:Int))).filter (fun a=>K3 a n==a):=List.mem_filter.2 ⟨List.mem_map.2 ⟨k,hk,rfl⟩,by simpa using h2⟩
   exact ⟨k,hm,by rw [zeN h2 (by simpa using hl _ hm)];exact hp⟩
 rw [e1,e2]
 unfold Qy KG
 rw [show (n:Int).toNat -1=n-1 by omega]
 cases e:(List.range' 1 (n-1)).find? (fun k:Nat=>JL cl n k) with
 | none=>
  rw [List.find?_eq_none] at e
  simp only [beq_self_eq_true,Bool.not_true]
  rw [List.any_eq_false]
  exact e
 | some k=>
  have hk:=List.mem_of_find?_eq_some e
  have hp:=List.find?_some e
  rw [List.mem_range'] at hk
  obtain ⟨i,hi,e3⟩:=hk
  have:((k:Int)==0)=false:=beq_false_of_ne (by omega)
  simp only [this,Bool.not_false]
  exact List.any_eq_true.2 ⟨k,List.mem_of_find?_eq_some e,hp⟩
def zi2 (xs:List Int)(k:Nat)(l:Int):Prop:=(k=0→l=0)∧∀ y,xs[k-1]? =some y→k≠0→l=y∧1≤y
theorem zgO {xs:List Int}{k:Nat}{x l b:Int}(hx:xs[k]? =some x)(hl:zi2 xs k l):KE (b-1) xs k= !(decide (x≤l)||decide (x≥b)):=by
 unfold KE
 rw [QU hx]
 cases k with
 | zero=>
  rw [hl.1 rfl]
  simp only [show decide (((0:Nat):Int)>0)=false from rfl,Bool.false_and,Bool.or_false]
  congr 1
  rw [Bool.eq_iff_iff]
  simp
  omega
 | succ k=>
  have hk:=(List.getElem?_eq_some_iff.1 hx).1
  have hy:xs[k]? =some (xs[k]'(by omega)):=List.getElem?_eq_getElem _
  obtain ⟨e,h1⟩:=hl.2 _ (by rw [Nat.add_sub_cancel];exact hy) (by omega)
  rw [show (((k+1:Nat):Int)-1).toNat=k by omega,QU hy,←e]
  rw [←e] at h1
  congr 1
  rw [Bool.eq_iff_iff]
  simp
  omega
theorem zhj {xs:List Int}{k:Nat}{x l:Int}(hx:xs[k]? =some x)(_hl:zi2 xs k l)(h:l<x)(h0:0≤l):zi2 xs (k+1) x:=
 ⟨fun h=>by omega,fun y hy _=>by rw [Nat.add_sub_cancel,hx] at hy;cases hy;exact ⟨rfl,by omega⟩⟩
theorem zdF {xs:List Int}{k:Nat}{l m:Int}(hl:zi2 xs k l)(hk:xs.length=k)(hm:(xs.length:Int)=m-1)(h1:m>1):xs.getD (m-2).toNat 0=l:=by
 have hk0:k≠0:=by omega
 have hy:xs[k-1]? =some (xs[k-1]'(by omega)):=List.getElem?_eq_getElem _
 rw [show (m-2).toNat=k-1 by omega,QU hy,(hl.2 _ hy hk0).1]
def iA (m:Int)(cl:List Int)(s:Int):Int:=if YX m cl s≠0 then 0 else zew cl s
def iB (m:Int)(cl:List Int)(s:Int):Int:=if YX m cl s≠0 then 0 else zeB cl s
theorem zlh {m:Int}{cl:List Int}{s:Int}(h:YX m cl s≠0):iA m cl s=0∧iB m cl s=0:=by unfold iA iB;rw [if_pos h,if_pos h];exact ⟨rfl,rfl⟩
theorem zuj {m:Int}{cl:List Int}{s:Int}(h:YX m cl s=0):iA m cl s=zew cl s∧iB m cl s=zeB cl s:=by unfold iA iB;rw [if_neg (by omega),if_neg (by omega)];exact ⟨rfl,rfl⟩
theorem zjY {cl:List Int}{s:Int}:cl.any (fun y=>s==y)=cl.any (fun c=>c==s):=by
 congr 1
 funext y
 exact Bool.eq_iff_iff.2 (by simp;exact eq_comm)
def zlA (rows:List (List Int)):Bool:=if rows.length>6 then decide ((rows.length:Int)≤20) else rows.all (fun r=> !(decide ((r.length:Int)>12)&&(decide ((r.length:Int)≤64)||decide ((r.length:Int)>100))))&&decide ((rows.length:Int)≤5)
end
section
open Go Go.Kn Go.Proofs
theorem zks {I:Qu}{av:Option Addr}{n c:Nat}{xs:List Int}(hS:Sl I 1 QQ av n c xs)(m:Int):Zy Tryz.prog 151 [.int .i64 m,.slice av n c] I (.int .i64 (Jg m xs)):=by
 intro g H w hw
 refine qe Tryz.func151 Tryz.ntmps151 hw ?_
 refine zR (zA (zN (Ql (Qm (zR ?_)))))
 refine zM ?_
 refine zC ?_
 refine zA (zN ?_)
 refine zI ?_ ?_<;>intro hc13
 ·
  have h6:m>6:=by simpa using hc13
  refine zR (zA (zN (Qt (Qp (Qc ?_)))))
  exact zr rfl rfl (by rw [zw2 h6])
 have h6:¬m>6:=by simpa using hc13
 refine zR (zM ?_)
 refine zC ?_
 refine zM ?_
 refine QR 2 rfl rfl rfl ?_
 refine zJ (Qi rfl) ?_
 refine zJ (Zr rfl Qw) ?_
 refine zJ (Qi rfl) ?_
 refine zJ (ZR rfl rfl rfl (fun hg=>by (simp [ZY] at hg;omega))) ?_
 refine zJ (QG rfl rfl rfl) ?_
 refine Zo rfl rfl rfl rfl rfl ?_
 refine zA (zN ?_)
 refine zI ?_ ?_<;>intro hc16
 ·
  have h18:(decide (m<1)||decide ((xs.length:Int)≠m-1))=true:=by rw [hS.len];simpa using hc16
  refine zR (zA (zN (Qt (Qp (Qc ?_)))))
  exact zr rfl rfl (by rw [zua h6 h18])
 have h18:(decide (m<1)||decide ((xs.length:Int)≠m-1))=false:=by rw [hS.len];simpa using hc16
 have hm:1≤m∧m≤6∧(n:Int)=m-1:=by rw [hS.len] at h18;simp at h18;omega
 have hn:n≤100000:=by omega
 have hsh:=zgv ⟨hm.1,hm.2.1⟩
 have hal:=zbj ⟨hm.1,hm.2.1⟩
 refine Qn (Qf (Qa (zR (zA (zN (Ql (zR ?_)))))))
 refine zM ?_
 refine zQ Qw ?_
 refine zM (zN (Qm ?_))
 refine zU [(0,_),(1,_),(26,_),(27,_)] (fun T L0 mz E I' loc'=>∃ (k:Nat) (l:Int),mz=n-k∧E=(5,.int .i64 l)::(28,.int .i64 k)::T∧I=I'∧L0=loc'∧k≤n∧(List.range k).all (KE (Vs m) xs)=true∧zi2 xs k l∧0≤l) ?_ (h:=⟨0,0,rfl,rfl,rfl,rfl,Nat.zero_le _,rfl,⟨fun _=>rfl,fun _ _ h=>absurd rfl h⟩,Int.le_refl _⟩)
 rintro mz E I' loc' ⟨k,l,rfl,rfl,rfl,rfl,hk,hall,hl,hl0⟩
 refine zR (zC (zN (Ql ?_)))
 refine zI ?_ ?_<;>intro hc29
 ·
  have hlt_k:k<n:=by have h:=hc29;simp at h;omega
  obtain ⟨x,hx⟩:=hS.at hlt_k
  refine Qn (Qa (Ql (Qm (zR ?_))))
  refine zV (QE rfl rfl Qw (by assumption) (fun hg=>by omega)) ?_
  refine zV (Qe rfl Qr (fun hg=>by exact zAa hS hx rfl)) ?_
  refine zA (zN (Ql (zR ?_)))
  refine zM ?_
  refine zM ?_
  refine zC ?_
  refine zM ?_
  refine QR 3 rfl rfl rfl ?_
  refine zJ (Qi rfl) ?_
  refine zJ (Qi rfl) ?_
  refine zJ (zaa rfl rfl (fun hg=>by omega)) ?_
  refine zJ (QG rfl rfl rfl) ?_
  refine Zo rfl rfl rfl rfl rfl ?_
  refine zN ?_
  refine zI ?_ ?_<;>intro hc40
  ·
   refine zR (zA (zN (Qt (Qc (Qp (Qc (Qc ?_)))))))
   refine Qp (Qc ?_)
   first
   | exact zr rfl rfl (by rw [zwu h6 h18 (by rw [hS.len];exact Kd hlt_k (by unfold Vs;rw [zgO hx hl,hc40];rfl))])
  have hlx:l<x:=by simp at hc40;omega
  refine Qn (Qa (Qg (zM ?_)))
  refine zA (Qb (Qf (Qa (Qg ?_))))
  refine zB ?_
  refine zM (Qb ?_)
  exact zm (h:=⟨n-(k+1),by omega,k+1,x,rfl,rfl,rfl,rfl,by omega,Jv hall (by unfold Vs;rw [zgO hx hl,hc40];rfl),zhj hx hl hlx hl0,by omega⟩)
 have hge_k:n≤k:=by have h:=hc29;simp at h;omega
 have hall0:(List.range xs.length).all (KE (Vs m) xs)=true:=by rw [hS.len,show n=k by omega];exact hall
 have hnk:n=k:=by omega
 refine QI (Qh (Qh (Qk (Qa (Ql (zR (zM ?_)))))))
 refine zC ?_
 refine zM ?_
 refine QH 2 rfl rfl rfl ?_
 refine zK (Qi rfl) ?_
 refine zK (Qi rfl) ?_
 refine zK (zaa rfl rfl (fun hg=>by omega)) ?_
 refine zK (ZR rfl rfl rfl (fun hg=>by omega)) ?_
 refine zK (QG rfl rfl rfl) ?_
 refine QP rfl rfl rfl rfl rfl ?_
 refine zN ?_
 refine zI ?_ ?_<;>intro hc51
 ·
  have h67:(decide (m>1)&&decide (xs.getD (m-2).toNat 0≠Vs m))=true:=by have h:=hc51;simp only [Bool.and_eq_true,decide_eq_true_eq] at h;rw [zdF hl (by rw [hS.len];exact hnk) (by rw [hS.len];exact hm.2.2) h.1];unfold Vs;simpa using hc51
  refine zR (zA (zN (Qt (Qc ?_))))
  exact zr rfl rfl (by rw [zu3 h6 h18 hall0 h67])
 have h67:(decide (m>1)&&decide (xs.getD (m-2).toNat 0≠Vs m))=false:=(Decidable.em (m>1)).elim (fun h1=>by rw [zdF hl (by rw [hS.len];exact hnk) (by rw [hS.len];exact hm.2.2) h1];unfold Vs;simpa using hc51) (fun h1=>by rw [decide_eq_false h1];rfl)
 refine Qn (Qa (Ql (zR (zM ?_))))
 refine zQ Qw ?_
 refine zM (zN (Qm ?_))
 refine zU [(1,_),(52,_),(53,_)] (fun T L0 mz E I' loc'=>∃ (k:Nat),mz=n-k∧E=(54,.int .i64 k)::T∧I=I'∧L0=loc'∧k≤n∧(xs.take k).any (fun c=>Qy xs c==0)=false) ?_ (h:=⟨0,rfl,rfl,rfl,rfl,Nat.zero_le _,rfl⟩)
 rintro mz E I' loc' ⟨k,rfl,rfl,rfl,rfl,hk,hno⟩
 refine zR (zC (zN (Ql ?_)))
 refine zI ?_ ?_<;>intro hc55
 ·
  have hlt_k:k<n:=by have h:=hc55;simp at h;omega
  obtain ⟨x,hx⟩:=hS.at hlt_k
  have hxa:=zbO hall0 hx
  have hps:=zcV (cl:=xs) (s:=x) (by omega)
  refine Qn (Qa (Ql (Qm (zR ?_))))
  refine zV (QE rfl rfl Qw (by assumption) (fun hg=>by omega)) ?_
  refine zV (Qe rfl Qr (fun hg=>by exact zAa hS hx rfl)) ?_
  refine zA ?_
  refine zN (zR ?_)
  refine zM ?_
  refine zM ?_
  refine qc (vs:=[_,_]) rfl zeJ (zeE hS hn x (by omega)) ?_
  refine zM ?_
  refine zE ?_
  refine zE ?_
  refine zE ?_
  refine zA ?_
  refine zA ?_
  refine zA ?_
  refine zN (zR ?_)
  refine zM ?_
  refine zO (zN ?_)
  refine zI ?_ ?_<;>intro hc66
  ·
   have hsp:(Qy xs x==0)=true:=by rw [hps] at hc66;simpa using hc66
   refine zR (zA (zN (Qt (Qp (Qc (Qc (Qp ?_)))))))
   refine Qc ?_
   first
   | exact zr rfl rfl (by rw [zpf h6 h18 hall0 h67,Kt hx hsp];rfl)
  have hsp:(Qy xs x==0)=false:=by rw [hps] at hc66;simpa using hc66
  refine Qn (Qf (Qa (Qg (zB ?_))))
  refine zM (Qb ?_)
  exact zm (h:=⟨n-(k+1),by omega,k+1,rfl,rfl,rfl,rfl,by omega,Vb hx hno hsp⟩)
 have hge_k:n≤k:=by have h:=hc55;simp at h;omega
 rw [ZH hS.len hge_k] at hno
 refine QI (Qh (Qh (Qk (Qa (zR (zA (zN ?_)))))))
 refine Qt ?_
 first
 | exact zr rfl rfl (by rw [zpf h6 h18 hall0 h67,hno];rfl)
end
section
open Go Go.Kn Go.Proofs
theorem zrb {I:Qu}{av:Option Addr}{n c:Nat}{xs:List Int}(hS:Sl I 1 QQ av n c xs)(hn:n≤100000)(m s:Int):Zy Tryz.prog 94 [.int .i64 m,.slice av n c,.int .i64 s] I (.tuple #[.int .i64 (iA m xs s),.int .i64 (iB m xs s),.int .i64 (YX m xs s)]):=by
 intro g H w hw
 refine qe Tryz.func94 Tryz.ntmps94 hw ?_
 refine zR (zA ?_)
 refine zA ?_
 refine zA (zN (Ql (zR ?_)))
 refine zM ?_
 refine zM ?_
 refine qc (vs:=[_,_]) rfl zh2 (zks hS _) ?_
 refine zA ?_
 refine zN (zR ?_)
 refine zM ?_
 refine zC (zN ?_)
 refine zI ?_ ?_<;>intro hc13
 ·
  have hb:=zht (s:=s) (show Jg m xs≠0 by simpa using hc13)
  have hb2:=zlh (show YX m xs s≠0 by rw [hb];simpa using hc13)
  refine zR (zM ?_)
  refine zA ?_
  refine zA ?_
  refine zA (zN (Qt (Qc ?_)))
  exact KK rfl rfl rfl rfl (fun w hw=>⟨by rw [hb2.1,hb2.2,hb],hw.drop⟩)
 have hc0:Jg m xs=0:=by simpa using hc13
 refine Qn (Qa (Ql (zR (zM ?_))))
 refine zM ?_
 refine qc (vs:=[_,_]) rfl zdA (Kf hS hn _) ?_
 refine zO (zN ?_)
 refine zI ?_ ?_<;>intro hc18
 ·
  have hb:=zek (s:=s) hc0 (by rw [←zjY];simpa using hc18)
  have hb2:=zlh (show YX m xs s≠0 by rw [hb];decide)
  refine zR (zA ?_)
  refine zA ?_
  refine zA (zN (Qt (Qc ?_)))
  exact KK rfl rfl rfl rfl (fun w hw=>⟨by rw [hb2.1,hb2.2,hb],hw.drop⟩)
 have hin:xs.any (fun c=>c==s)=true:=by rw [←zjY];simpa using hc18
 have hb:=zcS hc0 hin
 have hb2:=zuj hb
 have hs:=(ZV hc0).2.2.2 s (by simpa using hin)
 refine Qn (Qa (zR (zM ?_)))
 refine zM ?_
 refine qc (vs:=[_,_]) rfl zeJ (zeE hS hn s (by omega)) ?_
 refine zM ?_
 refine zE ?_
 refine zE ?_
 refine zE ?_
 refine zA ?_
 refine zA ?_
 refine zN (zR ?_)
 refine zM ?_
 refine zM ?_
 refine zA ?_
 refine zA ?_
 refine zA (zN (Qt ?_))
 first
 | exact KK rfl rfl rfl rfl (fun w hw=>⟨by rw [hb2.1,hb2.2,hb];rfl,hw.drop⟩)
theorem zuZ (I:Qu)(a:Option Addr)(n c:Nat):Zy Tryz.prog 197 [.slice a n c] I (.bool (decide ((n:Int)>64))):=by
 intro g H w hw
 refine qe Tryz.func197 Tryz.ntmps197 hw ?_
 refine zR (zA ?_)
 refine zN (zR ?_)
 refine zM ?_
 refine zQ Qw ?_
 refine zC ?_
 refine zA (zN (Qt ?_))
 exact zr rfl rfl (by rfl)
theorem zpQ (I:Qu)(v:Int):Zy Tryz.prog 198 [.int .i64 v] I (.bool (decide (v<0)||decide (v>8589934592))):=by
 intro g H w hw
 refine qe Tryz.func198 Tryz.ntmps198 hw ?_
 refine zR (zA ?_)
 refine zN (zR ?_)
 refine zM ?_
 refine zC ?_
 refine zM ?_
 refine QR 2 rfl rfl rfl ?_
 refine zJ (Qi rfl) ?_
 refine zJ (QG rfl rfl rfl) ?_
 refine Zo rfl rfl rfl rfl rfl ?_
 refine zA (zN (Qt ?_))
 exact zr rfl rfl (by rfl)
theorem zmm {I:Qu}{bv:Option Addr}{n2 c2:Nat}{hs:List Hd}(hH:Sl I 1 XI bv n2 c2 hs)(hn:n2≤100000):Zy Tryz.prog 100 [.slice bv n2 c2,.func (.func 197) #[] #[]] I (.int .i64 (Uk (fun h:Hd=>decide ((h.n:Int)>64)) hs)):=by
 intro g H w hw
 refine qe Tryz.func100 Tryz.ntmps100 hw ?_
 refine zR (zA (zN (Ql (zR ?_))))
 refine zM ?_
 refine zQ Zp ?_
 refine zM (zN (Qm ?_))
 refine zU [(0,_),(1,_),(7,_)] (fun T L0 mz E I' loc'=>∃ (k:Nat),mz=n2-k∧E=(8,.int .i64 k)::T∧I=I'∧L0=loc'∧k≤n2∧(hs.take k).any (fun h:Hd=>decide ((h.n:Int)>64))=false) ?_ (h:=⟨0,rfl,rfl,rfl,rfl,Nat.zero_le _,rfl⟩)
 rintro mz E I' loc' ⟨k,rfl,rfl,rfl,rfl,hk,hno⟩
 refine zR (zC (zN (Ql ?_)))
 refine zI ?_ ?_<;>intro hc9
 ·
  have hlt_k:k<n2:=by have h:=hc9;simp at h;omega
  obtain ⟨x,hx⟩:=hH.at hlt_k
  refine Qn (Qa (Ql (Qm (zR (zM ?_)))))
  refine zA ?_
  refine zN (zR ?_)
  refine zM ?_
  refine zM ?_
  refine zM ?_
  refine zV (QE rfl rfl Zp (by assumption) (fun hg=>by omega)) ?_
  refine zV (Qe rfl QJ (fun hg=>by exact zAa hH hx rfl)) ?_
  refine qc (vs:=[_]) rfl zsR (zuZ I x.a x.n x.c) ?_
  refine zN ?_
  refine zI ?_ ?_<;>intro hc16
  ·
   refine zR (zM ?_)
   refine zA (zN (Qt (Qp (Qc (Qc (Qp (Qc ?_)))))))
   exact zr rfl rfl (by rw [JE hno hx hc16])
  refine Qn (Qf (Qa (Qg (zB ?_))))
  refine zM (Qb ?_)
  exact zm (h:=⟨n2-(k+1),by omega,k+1,rfl,rfl,rfl,rfl,by omega,Vb hx hno hc16⟩)
 have hge_k:n2≤k:=by have h:=hc9;simp at h;omega
 refine QI (Qh (Qh (Qk (Qa (zR (zA (zN ?_)))))))
 refine Qt ?_
 exact zr rfl rfl (by rw [VQ hH.len hge_k hno])
theorem zeZ {I:Qu}{bv:Option Addr}{n2 c2:Nat}{hs:List Hd}(hH:Sl I 1 XI bv n2 c2 hs)(hn:n2≤100000):Zy Tryz.prog 53 [.slice bv n2 c2,.func (.func 197) #[] #[]] I (.bool (hs.any (fun h:Hd=>decide ((h.n:Int)>64)))):=by
 intro g H w hw
 refine qe Tryz.func53 Tryz.ntmps53 hw ?_
 refine zR (zA ?_)
 refine zN (zR ?_)
 refine zM ?_
 refine zM ?_
 refine qc (vs:=[_,_]) rfl zcl (zmm hH hn) ?_
 refine zC ?_
 refine zA (zN (Qt ?_))
 first
 | exact zr rfl rfl (by rw [←K1])
theorem znq {I:Qu}{av:Option Addr}{n c:Nat}{xs:List Int}(hS:Sl I 1 QQ av n c xs)(hn:n≤100000):Zy Tryz.prog 148 [.slice av n c,.func (.func 198) #[] #[]] I (.int .i64 (Uk (fun v=>decide (v<0)||decide (v>8589934592)) xs)):=by
 intro g H w hw
 refine qe Tryz.func148 Tryz.ntmps148 hw ?_
 refine zR (zA (zN (Ql (zR ?_))))
 refine zM ?_
 refine zQ Qw ?_
 refine zM (zN (Qm ?_))
 refine zU [(0,_),(1,_),(7,_)] (fun T L0 mz E I' loc'=>∃ (k:Nat),mz=n-k∧E=(8,.int .i64 k)::T∧I=I'∧L0=loc'∧k≤n∧(xs.take k).any (fun v=>decide (v<0)||decide (v>8589934592))=false) ?_ (h:=⟨0,rfl,rfl,rfl,rfl,Nat.zero_le _,rfl⟩)
 rintro mz E I' loc' ⟨k,rfl,rfl,rfl,rfl,hk,hno⟩
 refine zR (zC (zN (Ql ?_)))
 refine zI ?_ ?_<;>intro hc9
 ·
  have hlt_k:k<n:=by have h:=hc9;simp at h;omega
  obtain ⟨x,hx⟩:=hS.at hlt_k
  refine Qn (Qa (Ql (Qm (zR (zM ?_)))))
  refine zA ?_
  refine zN (zR ?_)
  refine zM ?_
  refine zM ?_
  refine zM ?_
  refine zV (QE rfl rfl Qw (by assumption) (fun hg=>by omega)) ?_
  refine zV (Qe rfl Qr (fun hg=>by exact zAa hS hx rfl)) ?_
  refine qc (vs:=[_]) rfl zsn (zpQ I _) ?_
  refine zN ?_
  refine zI ?_ ?_<;>intro hc16
  ·
   refine zR (zM ?_)
   refine zA (zN (Qt (Qp (Qc (Qc (Qp (Qc ?_)))))))
   exact zr rfl rfl (by rw [JE hno hx hc16])
  refine Qn (Qf (Qa (Qg (zB ?_))))
  refine zM (Qb ?_)
  exact zm (h:=⟨n-(k+1),by omega,k+1,rfl,rfl,rfl,rfl,by omega,Vb hx hno hc16⟩)
 have hge_k:n≤k:=by have h:=hc9;simp at h;omega
 refine QI (Qh (Qh (Qk (Qa (zR (zA (zN ?_)))))))
 refine Qt ?_
 exact zr rfl rfl (by rw [VQ hS.len hge_k hno])
theorem zez {I:Qu}{av:Option Addr}{n c:Nat}{xs:List Int}(hS:Sl I 1 QQ av n c xs)(hn:n≤100000):Zy Tryz.prog 87 [.slice av n c,.func (.func 198) #[] #[]] I (.bool (xs.any (fun v=>decide (v<0)||decide (v>8589934592)))):=by
 intro g H w hw
 refine qe Tryz.func87 Tryz.ntmps87 hw ?_
 refine zR (zA ?_)
 refine zN (zR ?_)
 refine zM ?_
 refine zM ?_
 refine qc (vs:=[_,_]) rfl zih (znq hS hn) ?_
 refine zC ?_
 refine zA (zN (Qt ?_))
 first
 | exact zr rfl rfl (by rw [←K1])
end
section
open Go Go.Kn Go.Proofs
def zjj (v:Int):Bool:=decide (v<0)||decide (v>8589934592)
def ztw (w:Nat)(r:List Int):Bool:=decide ((r.length:Int)≠w)||r.any zjj
def V5 (rows:List (List Int)):Int:=
 if decide ((rows.length:Int)>6)||rows.any (fun r=>decide ((r.length:Int)>64)) then 2 else if rows.length=0 then 420
 else if rows.any (ztw (rows.getD 0 []).length) then 420 else 0
theorem zuv {rows:List (List Int)}(h:(decide ((rows.length:Int)>6)||rows.any (fun r=>decide ((r.length:Int)>64)))=true):V5 rows=2:=by unfold V5;rw [if_pos h]
theorem ztO {rows:List (List Int)}(h:(decide ((rows.length:Int)>6)||rows.any (fun r=>decide ((r.length:Int)>64)))=false)(h2:rows.length=0):V5 rows=420:=by unfold V5;rw [if_neg (by rw [h];decide),if_pos h2]
theorem zpq {rows:List (List Int)}(h:(decide ((rows.length:Int)>6)||rows.any (fun r=>decide ((r.length:Int)>64)))=false)(h2:¬rows.length=0):V5 rows=if rows.any (ztw (rows.getD 0 []).length) then 420 else 0:=by
 unfold V5;rw [if_neg (by rw [h];decide),if_neg h2]
theorem zsb {rows:List (List Int)}(h:(decide ((rows.length:Int)>6)||rows.any (fun r=>decide ((r.length:Int)>64)))=false){v:List Int}(hv:v∈rows):v.length≤64:=by
 rw [Bool.or_eq_false_iff] at h
 have:=List.any_eq_false.1 h.2 v hv
 simp at this;omega
theorem zdI {I:Qu}{av:Option Addr}{n c:Nat}{hs:List Hd}{vss:List (List Int)}(h:SlH I av n c hs vss)(p:Int→Bool):hs.any (fun x:Hd=>p (x.n:Int))=vss.any (fun r=>p (r.length:Int)):=by
 have hl:=h.2.1
 have hlen:∀ (k:Nat) (x:Hd) (v:List Int),hs[k]? =some x→vss[k]? =some v→v.length=x.n:=fun k x v a b=>(h.2.2 k x v a b).len
 clear h
 rw [Bool.eq_iff_iff,List.any_eq_true,List.any_eq_true]
 constructor
 ·
  rintro ⟨x,hx,hp⟩
  obtain ⟨k,hk⟩:=List.getElem?_of_mem hx
  have hk2:vss[k]? =some (vss[k]'(by have:=(List.getElem?_eq_some_iff.1 hk).1;omega)):=List.getElem?_eq_getElem _
  exact ⟨_,List.mem_of_getElem? hk2,by rw [hlen k _ _ hk hk2];exact hp⟩
 ·
  rintro ⟨v,hv,hp⟩
  obtain ⟨k,hk⟩:=List.getElem?_of_mem hv
  have hk2:hs[k]? =some (hs[k]'(by have:=(List.getElem?_eq_some_iff.1 hk).1;omega)):=List.getElem?_eq_getElem _
  exact ⟨_,List.mem_of_getElem? hk2,by rw [←hlen k _ _ hk2 hk];exact hp⟩
end
section
open Go Go.Kn Go.Proofs
theorem zyy {I:Qu}{av:Option Addr}{n c:Nat}{rows:List (List Int)}(hV:SlN I av n c rows):Zy Tryz.prog 62 [.slice av n c] I (.bool (zlA rows)):=by
 intro g H w hw
 refine qe Tryz.func62 Tryz.ntmps62 hw ?_
 obtain ⟨hs,hV⟩:=hV
 have hH:=hV.1
 have hlV:=hV.len
 refine zR (zA (zN (Ql (zR ?_))))
 refine zM ?_
 refine zQ Zp ?_
 refine zC (zN ?_)
 refine zI ?_ ?_<;>intro hc6
 ·
  have h6:rows.length>6:=by simp at hc6;omega
  refine zR (zM ?_)
  refine zQ Zp ?_
  refine zC ?_
  refine zA (zN (Qt (Qc ?_)))
  first
  | exact zr rfl rfl (by unfold zlA;rw [if_pos h6,hlV])
 have h6:¬rows.length>6:=by simp at hc6;omega
 refine Qn (Qa (Ql (zR (zA (zN (Qm ?_))))))
 refine zU [(0,_)] (fun T L0 mz E I' loc'=>∃ (k:Nat),mz=n-k∧E=(3,.int .i64 k)::T∧I=I'∧L0=loc'∧k≤n∧(rows.take k).all (fun r=> !(decide ((r.length:Int)>12)&&(decide ((r.length:Int)≤64)||decide ((r.length:Int)>100))))=true) ?_ (h:=⟨0,rfl,rfl,rfl,rfl,Nat.zero_le _,rfl⟩)
 rintro mz E I' loc' ⟨k,rfl,rfl,rfl,rfl,hk,hall⟩
 refine Ql (zR (zM ?_))
 refine zM ?_
 refine zQ Zp ?_
 refine zC (zN ?_)
 refine zI ?_ ?_<;>intro hc13
 ·
  have hlt_k:k<n:=by have h:=hc13;simp at h;omega
  obtain ⟨x,v,hx,hv,hQ⟩:=hV.at hlt_k
  refine Qn (Qa (Ql (Qm (zR (zM ?_)))))
  refine zM ?_
  refine zV (QE rfl rfl Zp (by assumption) (fun hg=>by omega)) ?_
  refine zV (Qe rfl QJ (fun hg=>by exact zAa hH hx rfl)) ?_
  refine zQ Qw ?_
  refine zC ?_
  refine zM ?_
  refine QH 6 rfl rfl rfl ?_
  refine zK (Qi rfl) ?_
  refine zK (Qi rfl) ?_
  refine zK (QE rfl rfl Zp (by assumption) (fun hg=>by omega)) ?_
  refine zK (Qe rfl QJ (fun hg=>by exact zAa hH hx rfl)) ?_
  refine zK (Zr rfl Qw) ?_
  refine zK (QG rfl rfl rfl) ?_
  refine zK (Qi rfl) ?_
  refine QR 13 rfl rfl rfl ?_
  refine zJ (Qi rfl) ?_
  refine zJ (Qi rfl) ?_
  refine zJ (QE rfl rfl Zp (by assumption) (fun hg=>by omega)) ?_
  refine zJ (Qe rfl QJ (fun hg=>by exact zAa hH hx rfl)) ?_
  refine zJ (Zr rfl Qw) ?_
  refine zJ (QG rfl rfl rfl) ?_
  refine zph rfl rfl rfl (.some rfl rfl rfl rfl gbt) rfl rfl ?_
  refine QP rfl rfl rfl rfl rfl ?_
  refine zN ?_
  refine zI ?_ ?_<;>intro hc37
  ·
   refine zR (zA (zN (Qt (Qp (Qc (Qc (Qp ?_)))))))
   refine Qc ?_
   first
   | exact zr rfl rfl (by unfold zlA;rw [if_neg h6,List.all_eq_false.2 ⟨v,List.mem_of_getElem? hv,by rw [hQ.len,hc37];decide⟩];rfl)
  refine Qn (Qf (Qa (Qg (zM ?_))))
  refine zB ?_
  refine zA (Qb ?_)
  exact zm (h:=⟨n-(k+1),by omega,k+1,rfl,rfl,rfl,rfl,by omega,by rw [List.take_add_one,hv,List.all_append,hall,Option.toList_some,List.all_cons,List.all_nil,hQ.len,hc37];rfl⟩)
 have hge_k:n≤k:=by have h:=hc13;simp at h;omega
 rw [ZH hlV hge_k] at hall
 refine QI (Qh (Qh (Qk (Qa (zR (zM ?_))))))
 refine zQ Zp ?_
 refine zC ?_
 refine zA (zN (Qt ?_))
 first
 | exact zr rfl rfl (by unfold zlA;rw [if_neg h6,hall,hlV];rfl)
theorem zqb {I:Qu}{av:Option Addr}{n c:Nat}{rows:List (List Int)}(hV:SlN I av n c rows)(hn:n≤100000):Zy Tryz.prog 150 [.slice av n c] I (.int .i64 (V5 rows)):=by
 intro g H w hw
 refine qe Tryz.func150 Tryz.ntmps150 hw ?_
 obtain ⟨hs,hV⟩:=hV
 have hH:=hV.1
 have hlV:=hV.len
 refine zR (zA (zN (Ql (zR ?_))))
 refine zM ?_
 refine zQ Zp ?_
 refine zC ?_
 refine zM ?_
 refine QR 3 rfl rfl rfl ?_
 refine zJ (Qi rfl) ?_
 refine qf (vs:=[_,_]) rfl zpy (fun hg=>zeZ hH hn) ?_
 refine Zo rfl rfl rfl rfl rfl ?_
 refine zN ?_
 refine zI ?_ ?_<;>intro hc11
 ·
  have h1:(decide ((rows.length:Int)>6)||rows.any (fun r=>decide ((r.length:Int)>64)))=true:=by rw [hlV,←zdI hV (fun q=>decide (q>64))];exact hc11
  refine zR (zA (zN (Qt (Qc ?_))))
  exact zr rfl rfl (by rw [zuv h1])
 have h1:(decide ((rows.length:Int)>6)||rows.any (fun r=>decide ((r.length:Int)>64)))=false:=by rw [hlV,←zdI hV (fun q=>decide (q>64))];exact hc11
 refine Qn (Qa (Ql (zR (zM ?_))))
 refine zQ Zp ?_
 refine zC (zN ?_)
 refine zI ?_ ?_<;>intro hc14
 ·
  have h2:rows.length=0:=by simp at hc14;omega
  refine zR (zA (zN (Qt (Qc ?_))))
  exact zr rfl rfl (by rw [ztO h1 h2])
 have h2:¬rows.length=0:=by simp at hc14;omega
 obtain ⟨x0,v0,hx0,hv0,hQ0⟩:=hV.at (show 0<n by omega)
 refine Qn (Qa (Ql (zR (zM ?_))))
 refine zQ Zp ?_
 refine zM (zN (Qm ?_))
 refine zU [(0,_),(15,_),(16,_)] (fun T L0 mz E I' loc'=>∃ (k:Nat),mz=n-k∧E=(17,.int .i64 k)::T∧I=I'∧L0=loc'∧k≤n∧(rows.take k).any (ztw (rows.getD 0 []).length)=false) ?_ (h:=⟨0,rfl,rfl,rfl,rfl,Nat.zero_le _,rfl⟩)
 rintro mz E I' loc' ⟨k,rfl,rfl,rfl,rfl,hk,hno⟩
 refine zR (zC (zN (Ql ?_)))
 refine zI ?_ ?_<;>intro hc18
 ·
  have hlt_k:k<n:=by have h:=hc18;simp at h;omega
  obtain ⟨x,v,hx,hv,hQ⟩:=hV.at hlt_k
  have hrow:ztw (rows.getD 0 []).length v=(((x.n:Int) != (x0.n:Int))||v.any zjj):=by unfold ztw;rw [QU hv0,hQ.len,hQ0.len];congr 1;exact Bool.eq_iff_iff.2 (by simp)
  refine Qn (Qa (Ql (Qm (zR ?_))))
  refine zV (QE rfl rfl Zp (by assumption) (fun hg=>by omega)) ?_
  refine zV (Qe rfl QJ (fun hg=>by exact zAa hH hx rfl)) ?_
  refine zA ?_
  refine zN (zR ?_)
  refine zM ?_
  refine zQ Qw ?_
  refine zM ?_
  refine zV (QE rfl rfl Zp (by assumption) (fun hg=>by omega)) ?_
  refine zV (Qe rfl QJ (fun hg=>by exact zAa (k:=0) hH hx0 rfl)) ?_
  refine zQ Qw ?_
  refine zC ?_
  refine zM ?_
  refine QR 7 rfl rfl rfl ?_
  refine zJ (Qi rfl) ?_
  refine qf (vs:=[_,_]) rfl ziS (fun hg=>zez hQ (by rw [←hQ.len];have:=zsb h1 (List.mem_of_getElem? hv);omega)) ?_
  refine Zo rfl rfl rfl rfl rfl ?_
  refine zN ?_
  refine zI ?_ ?_<;>intro hc31
  ·
   refine zR (zA (zN (Qt (Qp (Qc (Qc (Qp ?_)))))))
   refine Qc ?_
   first
   | exact zr rfl rfl (by rw [zpq h1 h2,Kt hv (by rw [hrow];exact hc31)];rfl)
  refine Qn (Qf (Qa (Qg (zB ?_))))
  refine zM (Qb ?_)
  exact zm (h:=⟨n-(k+1),by omega,k+1,rfl,rfl,rfl,rfl,by omega,Vb hv hno (by rw [hrow];exact hc31)⟩)
 have hge_k:n≤k:=by have h:=hc18;simp at h;omega
 rw [ZH hlV hge_k] at hno
 refine QI (Qh (Qh (Qk (Qa (zR (zA (zN ?_)))))))
 refine Qt ?_
 first
 | exact zr rfl rfl (by rw [zpq h1 h2,hno];rfl)
end
section
open Go Go.Kn Go.Proofs
def Vu (f t:Int):Int:=if f=t then 0 else if t=0 then 1 else if f=0 then 4 else 2
theorem UC (f t:Int):0≤Vu f t∧Vu f t≤4:=by
 unfold Vu
 split
 ·
  omega
 ·
  split
  ·
   omega
  ·
   split<;>omega
def zbH (st cs:List Int)(s:Int)(k:Nat):Int:=(List.range k).foldl (fun b i=>Kq b (Vu s (st.getD i 0)+cs.getD i 0)) 1048576
def Yw (st cs:List Int)(s:Int):Int:=zbH st cs s st.length
theorem ZO {α:Type}{xs:List α}{k:Nat}{x:α}(h:xs[k]? =some x):xs.drop k=x::xs.drop (k+1):=by
 obtain ⟨h1,h2⟩:=List.getElem?_eq_some_iff.1 h
 rw [List.drop_eq_getElem_cons h1,h2]
def zby (n:Int):Int:=if n=0 then 1 else 0
end
section
open Go Go.Kn Go.Proofs
theorem zoS (I:Qu)(n:Int):Zy Tryz.prog 251 [.int .i64 n] I (.int .i64 (zby n)):=by
 intro g H w hw
 refine qe Tryz.func251 Tryz.ntmps251 hw ?_
 refine zR (zA (zN (Ql (zR ?_))))
 refine zM ?_
 refine zC (zN ?_)
 refine zI ?_ ?_<;>intro hc4
 ·
  refine zR (zA (zN (Qt (Qc ?_))))
  exact zr rfl rfl (by unfold zby;simp_all)
 refine Qn (Qa (zR (zA (zN (Qt ?_)))))
 exact zr rfl rfl (by unfold zby;simp_all)
end
end Go.Proofs.YtodakphagkommaaGreatDoor
section
namespace Go.Kn
open Go
section
variable {C:Cx} {E:Env} {I:Qu} {loc:Loc} {S:GS} {dst:Option Tmp} {ty:TypeId} {pos:String} {af:Array Edge} {gd:Option (Nat×Bool)} {x y z:Operand}
end
end Go.Kn
namespace Go.Kn
open Go
section
variable {g:World} {I I' H:Qu} {loc loc' L R:Loc} {w w':World}
end
end Go.Kn
namespace Go.Kn
open Go
section
variable {C:Cx} {Q:Exit→Act→World→Prop} {E:Env} {I:Qu} {loc:Loc} {ops:Array Oper} {rest:List Oper} {d:Nat} {ty:TypeId} {pos:String} {af:Array Edge} {gd:Option (Nat×Bool)} {x y:Operand}
end
end Go.Kn
namespace Go.Kn
open Go
section
variable {C:Cx} {Q:Exit→Act→World→Prop} {E:Env} {I:Qu} {loc:Loc} {ops:Array Oper} {rest:List Oper} {d:Nat} {ty:TypeId} {pos:String} {af:Array Edge} {gd:Option (Nat×Bool)} {x y:Operand}
end
section
variable {C:Cx} {S:GS} {E:Env} {I:Qu} {loc:Loc} {dst:Option Tmp} {ty:TypeId} {pos:String} {af:Array Edge} {gd:Option (Nat×Bool)} {x y:Operand}
theorem Q6 {t e size b n c:Nat}{k:IntKind}{i:Int}(hx:QA S E x=some (.slice (some ⟨b,0,none⟩) n c))(hy:QA S E y=some (.int k i))(hT:SlT C.P t e size)(hb:ZY S=true→0≤i∧i<(n:Int)):
  QV C S E I loc ⟨dst,.indexAddr t x y,ty,pos,af,gd⟩ (.pointer (some ⟨b,i.toNat*size,none⟩)):=by
 have h:=Xh (I:=I) (loc:=loc) (dst:=dst) (ty:=ty) (pos:=pos) (af:=af) (gd:=gd) hx hy hT hb
 rwa [Nat.zero_add] at h
end
end Go.Kn
end
namespace Go.Proofs.YtodakphagkommaaGreatDoor
section
open Go Go.Kn Go.Proofs
theorem _root_.Go.Kn.OwnS.lit {e size b n:Nat}{vs:List Value}(h:vs.length=n*size)(hn:n≤maxLen):OwnS e size (.slice (some ⟨b,0,none⟩) n n) n vs [(b,.cells vs.toArray e (0,0))]:=
 ⟨h,.inr ⟨b,n,_,rfl,rfl,Nat.le_refl _,hn,by simp [h],by rw [←h];simp⟩⟩
theorem zd6 {e size n:Nat}{v:Value}{xs:List Value}{L:Go.Kn.Loc}(h:OwnS e size v n xs L):∃ a c,v= .slice a n c:=by
 rcases h.2 with ⟨h1,h2,_⟩ | ⟨b,c,cur,h1,_⟩
 ·
  subst h2;exact ⟨_,_,h1⟩
 ·
  exact ⟨_,_,h1⟩
def stS (out:List Int)(n:Int):List Int:=if n==8589934592||out.any (fun x=>x==n) then out else out++[n]
def Za (rows:List (List Int))(l:Nat):List Int:=(rows.map fun r=>r.getD l 0).foldl stS [0]
theorem zjZ {rows:List (List Int)}{l k:Nat}{r:List Int}(h:rows[k]? =some r):Za (rows.take (k+1)) l=stS (Za (rows.take k) l) (r.getD l 0):=by
 unfold Za
 rw [List.take_add_one,h,List.map_append,List.foldl_append];rfl
theorem zoL {out:List Int}{n:Int}(h:(n==8589934592||out.any (fun x=>x==n))=true):stS out n=out:=by unfold stS;rw [if_pos h]
theorem zy4 {out:List Int}{n:Int}(h:(n==8589934592||out.any (fun x=>x==n))=false):stS out n=out++[n]:=by unfold stS;rw [if_neg (by rw [h];decide)]
theorem zoq {rows:List (List Int)}{l:Nat}:(Za rows l).length≤rows.length+1:=by
 have:∀ (ns out:List Int),(ns.foldl stS out).length≤ns.length+out.length:=by
  intro ns
  induction ns with
  | nil=>intro out;simp
  | cons n ns ih=>
   intro out
   refine Nat.le_trans (ih _) ?_
   have:(stS out n).length≤out.length+1:=by
    unfold stS
    split
    ·
     omega
    ·
     simp
   simp only [List.length_cons];omega
 have:=this (rows.map fun r=>r.getD l 0) [0]
 simpa [Za] using this
end
section
open Go Go.Kn Go.Proofs
theorem Zh:ElT Tryz.prog 23 3 1 8:=.of (by kernel_rfl)
end
section
open Go Go.Kn Go.Proofs
theorem Z4 {α:Type}{xs:List α}{k:Nat}{x:α}(h:xs[k]? =some x):xs.take (k+1)=xs.take k++[x]:=by
 rw [List.take_add_one,h];rfl
section
variable {α:Type} {lt:α→α→Bool}
end
end
section
open Go Go.Kn Go.Proofs
def KS (s:Int):Nat:=s.toNat.log2
theorem zv8:((List.range 7).all fun n=>(List.range 64).all fun s=> !Z8 (s:Int)|| !decide ((s:Int)≤Vs (n:Int))||decide (KS (s:Int)<n))=true:=by kernel_rfl
theorem zwf {s:Int}{n:Nat}(hn:n≤6)(hs:1≤s∧s≤63)(h1:Z8 s=true)(h:s≤Vs (n:Int)):KS s<n:=by
 have h0:=List.all_eq_true.1 zv8 n (List.mem_range.2 (by omega))
 have h0:=List.all_eq_true.1 h0 s.toNat (List.mem_range.2 (by omega))
 rw [show ((s.toNat:Nat):Int)=s by omega,h1] at h0
 simpa [h] using h0
theorem WM {cl:List Int}{c:Int}{a:Nat}(h:KG cl c a≠0)(ha:1≤a):1≤KG cl c a∧KG cl c a<c∧JL cl c (KG cl c a)=true:=by
 unfold KG at h ⊢
 cases hf:(List.range' a (c.toNat -a)).find? (fun k:Nat=>JL cl c (k:Int)) with
 | none=>rw [hf] at h;exact absurd rfl h
 | some k=>
  have h1:=List.find?_some hf
  have h2:=List.mem_range'_1.1 (List.mem_of_find?_eq_some hf)
  exact ⟨by show 1≤(k:Int);omega,by show (k:Int)<c;omega,h1⟩
theorem zwP {s:Int}(h:1≤s∧s≤63):IntKind.i64.wrap (s-1)=s-1:=zcz (by omega)
def OkS (n:Nat)(cl:List Int)(s:Int):Prop:=1≤s∧s≤Vs (n:Int)∧WP cl s=true
theorem Ud {m:Int}{cl:List Int}(h:Jg m cl=0):∀ c∈cl,Qy cl c≠0:=by
 intro c hc hs
 unfold Jg at h
 repeat (split at h; · cases h)
 rename_i h5
 exact h5 (List.any_eq_true.2 ⟨c,hc,by simp [hs]⟩)
theorem zmK {n:Nat}{cl:List Int}{s:Int}(hc:Jg n cl=0)(h:OkS n cl s)(h1:(K3 s (IntKind.i64.wrap (s-1))==0)=false):OkS n cl (Qy cl s)∧OkS n cl (s-Qy cl s)∧1≤Qy cl s∧Qy cl s<s:=by
 obtain ⟨h2,h3,h4⟩:=h
 have hin:s∈cl:=by
  unfold WP Z8 at h4
  rw [h1,Bool.and_false,Bool.or_false,List.any_eq_true] at h4
  obtain ⟨c,hc2,e⟩:=h4
  have:c=s:=by simpa using e
  exact this ▸ hc2
 obtain ⟨a1,a2,a3⟩:=WM (Ud hc s hin) (Nat.le_refl 1)
 unfold JL at a3
 simp only [Bool.and_eq_true] at a3
 exact ⟨⟨a1,by show KG cl s 1≤_;omega,a3.1.2⟩,⟨by show 1≤s-KG cl s 1;omega,by show s-KG cl s 1≤_;omega,a3.2⟩,a1,a2⟩
def Kz (u x:Int):Int:=if decide (u≠8589934592)&&decide (u≠x) then 1048576 else 0
def ZC (rows:List (List Int))(cl:List Int)(l:Nat):Nat→Int→List Int
 | 0,_=>[]
 | f+1,s=>
  if (K3 s (IntKind.i64.wrap (s-1))==0)=true then (Za rows l).map (Kz ((rows.getD (KS s) []).getD l 0))
  else (Za rows l).map fun x=>Yw (Za rows l) (ZC rows cl l f (Qy cl s)) x+Yw (Za rows l) (ZC rows cl l f (s-Qy cl s)) x
theorem WI {rows:List (List Int)}{cl:List Int}{l f:Nat}{s:Int}(h:(K3 s (IntKind.i64.wrap (s-1))==0)=true):ZC rows cl l (f+1) s=(Za rows l).map (Kz ((rows.getD (KS s) []).getD l 0)):=by
 simp only [ZC];rw [if_pos h]
def zpt (st L R:List Int)(x:Int):Int:=Yw st L x+Yw st R x
theorem zau {rows:List (List Int)}{cl:List Int}{l f:Nat}{s:Int}(h:(K3 s (IntKind.i64.wrap (s-1))==0)=false):ZC rows cl l (f+1) s=(Za rows l).map (zpt (Za rows l) (ZC rows cl l f (Qy cl s)) (ZC rows cl l f (s-Qy cl s))):=by
 simp only [ZC];rw [if_neg (by rw [h];decide)];rfl
theorem zgU {st cs:List Int}{s:Int}(h:∀ y∈cs,0≤y∧y≤1099511627776):0≤Yw st cs s∧Yw st cs s≤1048576:=by
 unfold Yw
 have:∀ k,0≤zbH st cs s k∧zbH st cs s k≤1048576:=by
  intro k
  induction k with
  | zero=>unfold zbH;simp
  | succ k ih=>
   have e:zbH st cs s (k+1)=Kq (zbH st cs s k) (Vu s (st.getD k 0)+cs.getD k 0):=by
    unfold zbH
    rw [List.range_succ,List.foldl_append,List.foldl_cons,List.foldl_nil]
   rw [e]
   have h1:=(UC s (st.getD k 0)).1
   have h2:0≤cs.getD k 0:=by
    cases hk:cs[k]? with
    | none=>simp [List.getD,hk]
    | some y=>rw [QU hk];exact (h y (List.mem_of_getElem? hk)).1
   unfold Kq
   split<;>omega
 exact this _
theorem Wp {rows:List (List Int)}{cl:List Int}{l:Nat}:∀ (f:Nat) (s:Int),∀ y∈ZC rows cl l f s,0≤y∧y≤1099511627776
 | 0,_=>fun y hy=>by cases hy
 | f+1,s=>fun y hy=>by
  cases h:(K3 s (IntKind.i64.wrap (s-1))==0) with
  | true=>
   rw [WI h,List.mem_map] at hy
   obtain ⟨x,_,rfl⟩:=hy
   unfold Kz
   split<;>omega
  | false=>
   rw [zau h,List.mem_map] at hy
   obtain ⟨x,_,rfl⟩:=hy
   have h1:=zgU (st:=Za rows l) (s:=x) (Wp (rows:=rows) (cl:=cl) (l:=l) f (Qy cl s))
   have h2:=zgU (st:=Za rows l) (s:=x) (Wp (rows:=rows) (cl:=cl) (l:=l) f (s-Qy cl s))
   unfold zpt
   omega
theorem X9 {rows:List (List Int)}{cl:List Int}{l f:Nat}{s:Int}:(ZC rows cl l (f+1) s).length=(Za rows l).length:=by
 cases h:(K3 s (IntKind.i64.wrap (s-1))==0) with
 | true=>rw [WI h,List.length_map]
 | false=>rw [zau h,List.length_map]
/-! ### A row that is filled -/
def Zi (row:List Int):Array Value:=(row.flatMap QQ).toArray
theorem JG (row:List Int):row.flatMap QQ=row.map (Value.int .i64):=by
 induction row with
 | nil=>rfl
 | cons b row ih=>rw [List.flatMap_cons,ih];rfl
theorem VN (row:List Int)(m:Nat)(b:Int):(Zi row).setIfInBounds ((m:Int).toNat*1) (.int .i64 b)=Zi (row.set m b):=by
 unfold Zi
 rw [JG,JG,Nat.mul_one,List.setIfInBounds_toArray,List.map_set];rfl
theorem ztJ {row:List Int}{m:Nat}(h:m<row.length):Nat.blt ((m:Int).toNat*1) (Zi row).size=true:=by
 unfold Zi
 rw [List.size_toArray,ZT Qv,Nat.mul_one,Nat.mul_one]
 rw [Nat.blt_eq];exact h
theorem Q3 (n:Nat):(List.replicate n (Value.int .i64 0)).toArray=Zi (List.replicate n 0):=by
 unfold Zi
 rw [JG,List.map_replicate]
theorem zfO {b n e:Nat}{row:List Int}(h:row.length=n)(hn:n≤1000000):OwnS e 1 (.slice (some ⟨b,0,none⟩) n n) n (row.flatMap QQ) [(b,.cells (Zi row) e (0,0))]:=
 OwnS.lit (by rw [ZT Qv,h]) (by simp only [maxLen];omega)
end
section
open Go Go.Kn Go.Proofs
theorem YQ:MkT Tryz.prog 23 3 8 (.int .i64 0):=⟨by kernel_rfl,by kernel_rfl,rfl⟩
theorem Z2:SzT Tryz.prog 3 1:=.of (by kernel_rfl)
end
section
open Go Go.Kn Go.Proofs
theorem KU {rows:List (List Int)}(h:V5 rows=0):1≤rows.length∧rows.length≤6∧(rows.getD 0 []).length≤64∧∀ r∈rows,r.length=(rows.getD 0 []).length∧∀ v∈r,0≤v∧v≤8589934592:=by
 unfold V5 at h
 split at h
 ·
  cases h
 ·
  rename_i h1
  split at h
  ·
   cases h
  ·
   rename_i h2
   split at h
   ·
    cases h
   ·
    rename_i h3
    simp only [Bool.or_eq_true,decide_eq_true_eq,not_or,Bool.not_eq_true,List.any_eq_false] at h1 h3
    obtain ⟨r0,h0⟩:∃ r,rows[0]? =some r:=⟨_,List.getElem?_eq_getElem (by omega)⟩
    have hg:=QU (d:=([]:List Int)) h0
    have h64:=h1.2 r0 (List.mem_of_getElem? h0)
    simp at h64
    refine ⟨by omega,by omega,by rw [hg];omega,fun r hr=>?_⟩
    have:=h3 r hr
    unfold ztw at this
    rw [Bool.or_eq_false_iff] at this
    obtain ⟨ha,hb⟩:=this
    refine ⟨Int.ofNat.inj (Decidable.not_not.1 (of_decide_eq_false ha)),fun v hv=>?_⟩
    have:=List.any_eq_false.1 hb v hv
    unfold zjj at this
    simp at this
    omega
theorem ziJ {n:Nat}{cl:List Int}(h:Jg n cl=0):OkS n cl (Vs n):=by
 obtain ⟨h1,h6,hlen,hin⟩:=ZV h
 refine ⟨(zbj (n:=(n:Int)) ⟨h1,h6⟩).1,Int.le_refl _,?_⟩
 by_cases e:n=1
 ·
  subst e
  unfold WP
  rw [show Z8 (Vs ((1:Nat):Int))=true from by decide,Bool.or_true]
 ·
  unfold Jg at h
  repeat (split at h; · cases h)
  rename_i h4 _
  have hg:(n:Int)>1:=by omega
  simp only [Bool.and_eq_true,decide_eq_true_eq,not_and,Decidable.not_not] at h4
  have h4:=h4 hg
  unfold WP
  rw [Bool.or_eq_true];left
  rw [List.any_eq_true]
  have hk:((n:Int)-2).toNat<cl.length:=by omega
  refine ⟨cl[((n:Int)-2).toNat],List.getElem_mem hk,?_⟩
  rw [beq_iff_eq,←h4]
  exact (QU (List.getElem?_eq_getElem hk)).symm
def zfl (cs:List Int)(k:Nat):Int:=(cs.take k).foldl Kq (cs.getD 0 0)
def Yo (cs:List Int):Int:=zfl cs cs.length
theorem zdt {cs:List Int}{k:Nat}{x:Int}(hx:cs[k]? =some x):zfl cs (k+1)=Kq (zfl cs k) x:=by
 unfold zfl
 rw [List.take_add_one,hx,List.foldl_append];rfl
theorem zea {cs:List Int}(h:∀ y∈cs,0≤y∧y≤1099511627776)(h0:0<cs.length):∀ k,0≤zfl cs k∧zfl cs k≤1099511627776:=by
 have hz:0≤cs.getD 0 0∧cs.getD 0 0≤1099511627776:=by
  have:=List.getElem?_eq_getElem h0
  rw [QU this];exact h _ (List.getElem_mem h0)
 intro k
 induction k with
 | zero=>simpa [zfl] using hz
 | succ k ih=>
  cases hk:cs[k]? with
  | none=>
   have:zfl cs (k+1)=zfl cs k:=by
    unfold zfl
    rw [List.take_add_one,hk];simp
   rw [this];exact ih
  | some x=>
   rw [zdt hk]
   have:=h x (List.mem_of_getElem? hk)
   unfold Kq
   split<;>omega
def zdU (rows:List (List Int))(cl:List Int)(k:Nat):Int:=(List.range k).foldl (fun s l=>s+Yo (ZC rows cl l 64 (Vs rows.length))) 0
def zk9 (rows:List (List Int))(cl:List Int):Int:=zdU rows cl (rows.getD 0 []).length
theorem zhq {rows:List (List Int)}{cl:List Int}{k:Nat}:zdU rows cl (k+1)=zdU rows cl k+Yo (ZC rows cl k 64 (Vs rows.length)):=by
 unfold zdU
 rw [List.range_succ,List.foldl_append];rfl
theorem zgq {rows:List (List Int)}{l:Nat}:0<(Za rows l).length:=by
 have:∀ (ns out:List Int),out.length≤(ns.foldl stS out).length:=by
  intro ns
  induction ns with
  | nil=>intro out;simp
  | cons n ns ih=>
   intro out
   refine Nat.le_trans ?_ (ih _)
   unfold stS
   split
   ·
    omega
   ·
    simp
 exact this (rows.map fun r=>r.getD l 0) [0]
end
section
open Go Go.Kn Go.Proofs
def YO (rows:List (List Int))(cl:List Int):Int:=if V5 rows≠0 then V5 rows else Jg rows.length cl
def zeo (rows:List (List Int))(cl:List Int):Int:=if YO rows cl≠0 then 0 else zk9 rows cl
theorem zfW {rows:List (List Int)}{cl:List Int}(h:V5 rows≠0):YO rows cl=V5 rows∧zeo rows cl=0:=by
 have e:YO rows cl=V5 rows:=by unfold YO;rw [if_pos h]
 exact ⟨e,by unfold zeo;rw [if_pos (by rw [e];exact h)]⟩
theorem zxq {rows:List (List Int)}{cl:List Int}(h:V5 rows=0)(h2:Jg rows.length cl≠0):YO rows cl=Jg rows.length cl∧zeo rows cl=0:=by
 have e:YO rows cl=Jg rows.length cl:=by unfold YO;rw [if_neg (by omega)]
 exact ⟨e,by unfold zeo;rw [if_pos (by rw [e];exact h2)]⟩
theorem zwQ {rows:List (List Int)}{cl:List Int}(h:V5 rows=0)(h2:Jg rows.length cl=0):YO rows cl=0∧zeo rows cl=zk9 rows cl:=by
 have e:YO rows cl=0:=by unfold YO;rw [if_neg (by omega),h2]
 exact ⟨e,by unfold zeo;rw [if_neg (by omega)]⟩
def zdT (I:Qu)(hs:List Hd)(vss:List (List Int)):Prop:=hs.length=vss.length∧∀ (k:Nat) (h:Hd) (v:List Int),hs[k]? =some h→vss[k]? =some v→Sl I 1 QQ h.a h.n h.c v
theorem zdT.nil {I:Qu}:zdT I [] []:=⟨rfl,fun k h v a=>by simp at a⟩
theorem zdT.mono {I I':Qu}{hs:List Hd}{vss:List (List Int)}(h:zdT I hs vss)(hI:HLe I I'):zdT I' hs vss:=⟨h.1,fun k x v a b=>(h.2 k x v a b).mono hI⟩
theorem zdT.snoc {I:Qu}{hs:List Hd}{vss:List (List Int)}(h:zdT I hs vss){hd:Hd}{v:List Int}(hV:Sl I 1 QQ hd.a hd.n hd.c v):zdT I (hs++[hd]) (vss++[v]):=by
 refine ⟨by simp [h.1],fun k x y a b=>?_⟩
 rw [List.getElem?_append] at a b
 rw [h.1] at a
 split at a
 ·
  rename_i hk
  rw [if_pos hk] at b
  exact h.2 k x y a b
 ·
  rename_i hk
  rw [if_neg hk] at b
  have e:k-vss.length=0:=by
   cases hd2:k-vss.length with
   | zero=>rfl
   | succ m=>rw [hd2] at a;simp at a
  rw [e] at a b
  simp at a b
  subst a;subst b;exact hV
end
section
open Go Go.Kn Go.Proofs
def zhb (s:Int):Nat:=(List.range 6).foldl (fun c i=>c+s.toNat / 2^i % 2) 0
end
section
open Go Go.Kn Go.Proofs
def zbg (e:Int)(vss:List (List Int)):Value→Qu→Go.Kn.Loc→Prop:=fun v I' L=>L=[]∧∃ av c,v= .tuple #[.slice av vss.length c,.int .i64 e]∧SlN I' av vss.length c vss
theorem SlN.none {I:Qu}:SlN I none 0 0 []:=⟨[],.nil,zdT.nil⟩
theorem zbg.empty {e:Int}{vss:List (List Int)}{I:Qu}(h:vss=[]):zbg e vss (.tuple #[.slice none 0 0,.int .i64 e]) I []:=by
 subst h
 exact ⟨rfl,none,0,rfl,.none⟩
end
section
open Go Go.Kn Go.Proofs
theorem zoX:Fun Tryz.prog 96:=.of Tryz.func96 (by kernel_rfl) (by kernel_rfl)
theorem zvI {xs:List Int}{x:Int}(hx:xs[0]? =some x):zfl xs 1=x:=by
 cases xs with
 | nil=>cases hx
 | cons y xs=>cases hx;simp [zfl,Kq]
theorem zuF {I:Qu}{av:Option Addr}{n c:Nat}{xs:List Int}(hS:Sl I 1 QQ av n c xs)(hn:n≤100000)(h0:0<n):Zy Tryz.prog 96 [.slice av n c] I (.int .i64 (Yo xs)):=by
 intro g H w hw
 refine qe Tryz.func96 Tryz.ntmps96 hw ?_
 obtain ⟨x0,hx0⟩:=hS.at h0
 refine zR (zA (zN (Ql (zR ?_))))
 refine zM ?_
 refine zQ Qw ?_
 refine zC (zN ?_)
 refine zI ?_ ?_<;>intro hc7
 ·
  have h:=hc7;simp at h;omega
 refine Qn (Qa (zR (zM ?_)))
 refine zV (QE rfl rfl Qw (by assumption) (fun hg=>by omega)) ?_
 refine zV (Qe rfl Qr (fun hg=>by exact zAa (k:=0) hS hx0 rfl)) ?_
 refine zA (zN (Ql (zR ?_)))
 refine zA (zN (Qm ?_))
 refine zU [(0,_)] (fun T L0 mz E I' loc'=>∃ (k:Nat) (m:Int),mz=n-k∧E=(3,.int .i64 m)::(4,.int .i64 k)::T∧I=I'∧L0=loc'∧k≤n∧m=zfl xs k∧1≤k) ?_ (h:=⟨1,_,rfl,rfl,rfl,rfl,h0,(zvI hx0).symm,Nat.le_refl _⟩)
 rintro mz E I' loc' ⟨k,m,rfl,rfl,rfl,rfl,hk,hm,hk1⟩
 refine Ql (zR (zM ?_))
 refine zM ?_
 refine zQ Qw ?_
 refine zC (zN ?_)
 refine zI ?_ ?_<;>intro hc15
 ·
  have hlt_k:k<n:=by have h:=hc15;simp at h;omega
  obtain ⟨x,hx⟩:=hS.at hlt_k
  refine Qn (Qa (Ql (Qm (Qg (zM ?_)))))
  refine zM ?_
  refine zM ?_
  refine zV (QE rfl rfl Qw (by assumption) (fun hg=>by omega)) ?_
  refine zV (Qe rfl Qr (fun hg=>by exact zAa hS hx rfl)) ?_
  refine zV (znZ rfl rfl) ?_
  refine zA (Qb (Qf (Qa (Qg ?_))))
  refine zM ?_
  refine zB ?_
  refine zA (Qb ?_)
  exact zm (h:=⟨n-(k+1),by omega,k+1,_,rfl,rfl,rfl,rfl,by omega,by rw [zdt hx,hm],by omega⟩)
 have hge_k:n≤k:=by have h:=hc15;simp at h;omega
 have hkn:k=xs.length:=by rw [hS.len];omega
 subst hkn
 refine QI (Qh (Qh (Qk (Qa (zR (zM ?_))))))
 refine zA (zN (Qt ?_))
 first
 | exact zr rfl rfl (by rw [hm];rfl)
theorem zrz {I:Qu}{av:Option Addr}{n c:Nat}{xs:List Int}(hS:Sl I 1 QQ av n c xs)(hn:n≤100000)(h0:0<n):Zy Tryz.prog 236 [.slice av n c] I (.int .i64 (Yo xs)):=by
 intro g H w hw
 refine qe Tryz.func236 Tryz.ntmps236 hw ?_
 refine zR (zA ?_)
 refine zN (zR ?_)
 refine zM ?_
 refine qc (vs:=[_]) rfl zoX (zuF hS hn h0) ?_
 refine zA (zN (Qt ?_))
 exact zr rfl rfl (by rfl)
end
end Go.Proofs.YtodakphagkommaaGreatDoor
namespace Go.Kn
section
open Go
theorem zhc {C:Cx}{S:GS}{E:Env}{I:Qu}{loc:Loc}{dst:Option Nat}{ty:Nat}{pos:String}{af:Array Edge}{gd:Option (Nat×Bool)}{t e:Nat}{z1 z2 z3 z4 a b c d:Value}{x y:Operand}
  (hT:ArT C.P t 2 e 2)(hz:Yu C.P t (.agg #[z1,z2,z3,z4]))(hx:QA S E x=some (.agg #[a,b]))(hy:QA S E y=some (.agg #[c,d])):
  QV C S E I loc ⟨dst,.build t #[(0,x),(1,y)],ty,pos,af,gd⟩ (.agg #[a,b,c,d]):=
 .of (by intro c e;cases e) fun st w ha hg hc hw=>by
  obtain ⟨hu,i,hi,hs⟩:=hT
  have hsz:∀ w:World,(sizeOf e).run C.P w= .ok 2 w:=fun w=>by have h1:=Go.run_sizeOf (w:=w) hi;have h2:C.P.cellsOf e=2:=(by unfold Program.cellsOf;rw [hi];exact hs);rw [h2] at h1;exact h1
  simp only [execOp,Instr.build,Sem.run_bind,Z1 hz,Result.andThen,run_underlying hu,hsz,List.map_toArray,List.map_cons,List.map_nil,Qj ha hg hc hx,Qj ha hg hc hy]
  rfl
end
end Go.Kn
namespace Go.Proofs.YtodakphagkommaaGreatDoor
section
open Go Go.Kn Go.Proofs
theorem zsp:AgT Tryz.prog 285 4:=.of (by kernel_rfl)
theorem zdi:Ar2 Tryz.prog 79 3 .i64:=⟨by kernel_rfl,by kernel_rfl,by kernel_rfl,by kernel_rfl,by kernel_rfl⟩
theorem ziT:ArT Tryz.prog 285 2 79 2:=.of (by kernel_rfl)
theorem zqc:SzT Tryz.prog 285 4:=.of (by kernel_rfl)
theorem zpn:Yu Tryz.prog 285 (.agg #[(.int .i64 0),(.int .i64 0),(.int .i64 0),(.int .i64 0)]):=.of (by kernel_rfl)
theorem Ub:Yu Tryz.prog 79 (.agg #[(.int .i64 0),(.int .i64 0)]):=.of (by kernel_rfl)
theorem zst (I:Qu):Zy Tryz.prog 252 [] I (.agg #[.int .i64 2,.int .i64 1,.int .i64 4,.int .i64 0]):=by
 intro g H w hw
 refine qe Tryz.func252 Tryz.ntmps252 hw ?_
 refine zR ?_
 refine Qs zpn rfl rfl (fun b_0=>?_)
 refine zN (zR ?_)
 refine zV (zcU zdi Ub rfl rfl) ?_
 refine zV (zcU zdi Ub rfl rfl) ?_
 refine zV (zhc ziT zpn rfl rfl) ?_
 refine zh zqc ?_
 refine zN (Qt ?_)
 exact Ys (vs:=[.int .i64 2,.int .i64 1,.int .i64 4,.int .i64 0]) rfl rfl zsp (by repeat (first | exact zAf | apply zAe)) rfl (fun w hw=>⟨rfl,hw.drop⟩)
end
section
open Go Go.Kn Go.Proofs
theorem zbi:AgT Tryz.prog 79 2:=.of (by kernel_rfl)
theorem Y0:ArT Tryz.prog 79 2 3 1:=.of (by kernel_rfl)
theorem zkY:Fun Tryz.prog 251:=.of Tryz.func251 (by kernel_rfl) (by kernel_rfl)
theorem zpR:Fun Tryz.prog 252:=.of Tryz.func252 (by kernel_rfl) (by kernel_rfl)
theorem zkl (n:Int):0≤zby n∧zby n<2:=by unfold zby;split<;>omega
theorem zrI {f t:Int}(h:f≠t):((([.int .i64 2,.int .i64 1,.int .i64 4,.int .i64 0]:List Value).drop ((zby f).toNat*2)).take 2)[(zby t).toNat*1]? =some (.int .i64 (Vu f t)):=by
 unfold Vu zby
 rw [if_neg h]
 by_cases h1:t=0
 ·
  have h2:¬f=0:=fun e=>h (by rw [e,h1])
  rw [if_pos h1,if_neg h2,if_pos h1];rfl
 rw [if_neg h1,if_neg h1]
 by_cases h2:f=0
 ·
  rw [if_pos h2,if_pos h2];rfl
 rw [if_neg h2,if_neg h2];rfl
theorem zuB (I:Qu)(f t:Int):Zy Tryz.prog 235 [.int .i64 f,.int .i64 t] I (.int .i64 (Vu f t)):=by
 intro g H w hw
 refine qe Tryz.func235 Tryz.ntmps235 hw ?_
 refine zR (zA (zN (Ql (zR ?_))))
 refine zM ?_
 refine zM ?_
 refine zC (zN ?_)
 refine zI ?_ ?_<;>intro hc8
 ·
  have heq:f=t:=by simpa using hc8
  refine zR (zA (zN (Qt (Qc ?_))))
  first
  | exact zr rfl rfl (by unfold Vu;rw [if_pos heq])
 have hne:f≠t:=by simpa using hc8
 refine Qn (Qa (zR (zA (zN (Ql ?_)))))
 refine YF mixed (by kernel_rfl) ?_
 refine JC (cap:=[]) (vs:=[]) rfl rfl zpR (zst I) rfl rfl ?_
 refine zq (Qi rfl) ?_
 refine zq (Qi rfl) ?_
 refine JC (cap:=[]) (vs:=[_]) rfl rfl zkY (zoS I _) rfl rfl ?_
 refine zq (zhu (cs:=[.int .i64 2,.int .i64 1,.int .i64 4,.int .i64 0]) rfl rfl ziT zbi (fun hg=>zkl _)) ?_
 refine zq (Qi rfl) ?_
 refine zq (Qi rfl) ?_
 refine JC (cap:=[]) (vs:=[_]) rfl rfl zkY (zoS I _) rfl rfl ?_
 refine zq (KA rfl rfl Y0 Qr (fun hg=>zkl _) (fun hg=>zrI hne)) ?_
 refine zq (ZF rfl) ?_
 refine YK ?_
 refine Qa (Qt ?_)
 exact zr rfl rfl (by rfl)
end
section
open Go Go.Kn Go.Proofs
def zrB:List Int:=[0,1,56,2,57,49,28,3,61,58,42,50,38,29,17,4,62,47,59,36,45,43,51,22,53,39,33,30,24,18,12,5,63,55,48,27,60,41,37,16,46,35,44,21,52,32,23,11,54,26,40,15,34,20,31,10,25,14,19,9,13,8,7,6]
def VT (I:Qu):Prop:=∀ i:Nat,i<64→QT I [] 1 i (.int .u8 (zrB.getD i 0))
theorem VT.mono {I I':Qu}(h:VT I)(hI:HLe I I'):VT I':=fun i hi=>(h i hi).mono hI
def zzm (a b:Int):Int:=IntKind.u64.wrap ((BitVec.ofInt 64 a&&& BitVec.ofInt 64 b).toNat:Int)
def zly (x:Int):Int:=(IntKind.u64.wrap (zzm x (IntKind.u64.wrap (0-x))*285870213051353865)).fdiv (2^58)
theorem zto:((List.range 64).all fun s=> !Z8 (s:Int)||(decide (0≤zly (s:Int))&&decide (zly (s:Int)<64)&&decide (IntKind.i64.wrap (zrB.getD (zly (s:Int)).toNat 0)=(KS (s:Int):Int))))=true:=by kernel_rfl
theorem zxe {s:Int}(hs:1≤s∧s≤63)(h1:Z8 s=true):(0≤zly s∧zly s<64)∧IntKind.i64.wrap (zrB.getD (zly s).toNat 0)=(KS s:Int):=by
 have h:=List.all_eq_true.1 zto s.toNat (List.mem_range.2 (by omega))
 rw [show ((s.toNat:Nat):Int)=s by omega,h1] at h
 simpa using h
section
variable {C:Cx} {E:Env} {I:Qu} {loc:Go.Kn.Loc} {S:GS} {dst:Option Tmp} {ty:TypeId} {pos:String} {af:Array Edge} {gd:Option (Nat×Bool)} {x y:Operand} {a b:Int}
theorem zqr {t t':TypeId}(hx:QA S E x=some (.int .u64 a))(hy:QA S E y=some (.int .u64 b)):QV C S E I loc ⟨dst,.binOp .and t x y t',ty,pos,af,gd⟩ (.int .u64 (zzm a b)):=
 .of (by intro c e;cases e) fun ac w ha hg hc _=>by
  simp only [execOp,Qj ha hg hc hx,Qj ha hg hc hy,Sem.run_bind,ZK,Result.andThen,binOp,ne_eq,not_true_eq_false,if_false,Op.intBits,Sem.run_pure,zzm,IntKind.bits];rfl
end
/-! ### Maps of costs -/
def eiv:Int→Value:=Value.int .i64
structure US (m:List (Int×Int))(g:Int→Option Int):Prop where
 nd:(m.map (·.1)).Nodup
 get:∀ x,ZE m x=g x
theorem US.nil:US [] (fun _=>none):=⟨.nil,fun _=>rfl⟩
theorem US.set {m:List (Int×Int)}{g:Int→Option Int}(h:US m g)(x v:Int):US (YA m x v) (fun y=>if x=y then some v else g y):=
 ⟨WV _ _ h.nd,fun y=>by rw [YE,h.get]⟩
theorem US.congr {m:List (Int×Int)}{g g':Int→Option Int}(h:US m g)(e:∀ x,g x=g' x):US m g':=⟨h.nd,fun x=>by rw [h.get,e]⟩
theorem US.mem {m:List (Int×Int)}{g:Int→Option Int}(h:US m g){p:Int×Int}(hp:p∈m):g p.1=some p.2:=by rw [←h.get];exact zcr h.nd hp
def zkL {α:Type}(m:List α)(seen:List Nat):List α:=seen.filterMap fun i=>m[i]?
theorem zck {α:Type}{m:List α}{seen:List Nat}{i:Nat}{p:α}(hp:m[i]? =some p):zkL m (seen++[i])=zkL m seen++[p]:=by
 unfold zkL;rw [List.filterMap_append];simp [hp]
theorem zeO {α:Type}{m:List α}{seen:List Nat}(hnd:seen.Nodup)(hlt:∀ i∈seen,i<m.length)(hall:∀ i (p:α),m[i]? =some p→i∈seen):(zkL m seen).Perm m:=by
 have h1:=(zad hnd hlt hall).filterMap (fun i=>m[i]?)
 rw [zdo] at h1
 exact h1
theorem zkt {α:Type}{m:List α}{seen:List Nat}{p:α}:p∈zkL m seen↔ ∃ i∈seen,m[i]? =some p:=by unfold zkL;rw [List.mem_filterMap]
theorem Kj {seen:List Nat}{i n:Nat}(hnd:seen.Nodup)(hlt:∀ i∈seen,i<n)(hs:i∉seen)(hi:i<n):(seen++[i]).Nodup∧(∀ j∈seen++[i],j<n)∧(seen++[i]).length≤n:=by
 have h1:(seen++[i]).Nodup:=List.nodup_append.2 ⟨hnd,by simp,fun a ha b hb e=>hs (by simp at hb;subst hb;subst e;exact ha)⟩
 have h2:∀ j∈seen++[i],j<n:=fun j hj=>(List.mem_append.1 hj).elim (hlt j) (fun h=>by simp at h;subst h;exact hi)
 refine ⟨h1,h2,?_⟩
 have:=JI (m:=List.range n) h1 (by simpa using h2)
 simpa using this
/-! ### The least, in whatever order -/
theorem XU:∀ (xs:List Int) (b:Int),(∀ x∈xs,xs.foldl Kq b≤x)∧xs.foldl Kq b≤b∧(xs.foldl Kq b=b∨xs.foldl Kq b∈xs)
 | [],b=>⟨fun x h=>by simp at h,Int.le_refl _,.inl rfl⟩
 | y::xs,b=>by
  obtain ⟨h1,h2,h3⟩:=XU xs (Kq b y)
  simp only [List.foldl_cons]
  have hb:Kq b y≤b∧Kq b y≤y∧(Kq b y=b∨Kq b y=y):=by unfold Kq;split<;>omega
  refine ⟨fun x hx=>?_,by omega,?_⟩
  ·
   rcases List.mem_cons.1 hx with rfl | hx
   ·
    omega
   ·
    exact h1 x hx
  ·
   rcases h3 with h3 | h3
   ·
    rcases hb.2.2 with e | e
    ·
     left;rw [h3,e]
    ·
     right;rw [h3,e];exact List.mem_cons_self ..
   ·
    right;exact List.mem_cons_of_mem _ h3
theorem zcv {xs:List Int}(h:xs≠[]):Yo xs∈xs∧∀ x∈xs,Yo xs≤x:=by
 cases xs with
 | nil=>exact absurd rfl h
 | cons y xs=>
  unfold Yo zfl
  rw [List.take_length]
  have e:(y::xs).getD 0 0=y:=rfl
  rw [e]
  obtain ⟨h1,h2,h3⟩:=XU (y::xs) y
  refine ⟨?_,h1⟩
  rcases h3 with h3 | h3
  ·
   rw [h3];exact List.mem_cons_self ..
  ·
   exact h3
theorem zgF {xs:List Int}{v:Int}(h:v∈xs)(h2:∀ x∈xs,v≤x):Yo xs=v:=by
 obtain ⟨h3,h4⟩:=zcv (List.ne_nil_of_mem h)
 have a:=h4 v h
 have b:=h2 _ h3
 omega
theorem zc1 (st cs:List Int)(s:Int)(k:Nat):zbH st cs s k=((List.range k).map fun i=>Vu s (st.getD i 0)+cs.getD i 0).foldl Kq 1048576:=by
 unfold zbH;rw [List.foldl_map]
structure zd3 (st cs:List Int)(b:Int)(m:List (Int×Int)):Prop where
 len:cs.length=st.length
 nd:(m.map (·.1)).Nodup
 get:∀ (i:Nat) (x c:Int),st[i]? =some x→cs[i]? =some c→ZE m x=if c<1048576 then some c else none
 old:∀ p∈m,p.1∈st
 pos:∃ c∈cs,c<1048576
 le:∀ c∈cs,0≤c∧(c<1048576→c≤b)∧c≤1048576
theorem zd3.ne {st cs:List Int}{b:Int}{m:List (Int×Int)}(h:zd3 st cs b m):0<m.length:=by
 obtain ⟨c,hc,hlt⟩:=h.pos
 obtain ⟨i,hi⟩:=List.getElem?_of_mem hc
 have hil:=(List.getElem?_eq_some_iff.1 hi).1
 have hx:st[i]? =some (st[i]'(by rw [←h.len];exact hil)):=List.getElem?_eq_getElem _
 have:=h.get i _ c hx hi
 rw [if_pos hlt] at this
 exact List.length_pos_of_mem (Ur this)
theorem zd3.ent {st cs:List Int}{b:Int}{m:List (Int×Int)}(h:zd3 st cs b m){x c:Int}:(x,c)∈m↔ ∃ i:Nat,st[i]? =some x∧cs[i]? =some c∧c<1048576:=by
 constructor
 ·
  intro hm
  obtain ⟨i,hi⟩:=List.getElem?_of_mem (h.old _ hm)
  have hil:=(List.getElem?_eq_some_iff.1 hi).1
  have hc:cs[i]? =some (cs[i]'(by rw [h.len];exact hil)):=List.getElem?_eq_getElem _
  have hg:=h.get i x _ hi hc
  rw [zcr h.nd hm] at hg
  split at hg
  ·
   rename_i hlt
   cases hg
   exact ⟨i,hi,hc,hlt⟩
  ·
   cases hg
 ·
  rintro ⟨i,h1,h2,h3⟩
  have:=h.get i x c h1 h2
  rw [if_pos h3] at this
  exact Ur this
theorem Ui {st cs:List Int}{b:Int}{m vs:List (Int×Int)}(h:zd3 st cs b m)(hb:b≤1000)(hp:vs.Perm m)(s:Int):Yo (vs.map fun p=>p.2+Vu s p.1)=Yw st cs s∧0≤Yw st cs s∧Yw st cs s≤b+4∧∀ p∈vs,0≤p.2∧p.2≤b:=by
 have hsm:∀ p∈m,0≤p.2∧p.2≤b:=fun p hp=>by
  obtain ⟨i,_,h2,h3⟩:=(h.ent (x:=p.1) (c:=p.2)).1 hp
  have:=h.le _ (List.mem_of_getElem? h2)
  exact ⟨this.1,this.2.1 h3⟩
 have hlow:∀ p∈m,Yw st cs s≤p.2+Vu s p.1:=fun p hp=>by
  obtain ⟨i,h1,h2,h3⟩:=(h.ent (x:=p.1) (c:=p.2)).1 hp
  unfold Yw
  rw [zc1]
  have hil:=(List.getElem?_eq_some_iff.1 h1).1
  have:=(XU ((List.range st.length).map fun i=>Vu s (st.getD i 0)+cs.getD i 0) 1048576).1 (Vu s p.1+p.2) (List.mem_map.2 ⟨i,List.mem_range.2 hil,by rw [QU h1,QU h2]⟩)
  omega
 have hne:m≠[]:=fun e=>by have:=h.ne;rw [e] at this;simp at this
 obtain ⟨q,hq⟩:=List.exists_mem_of_ne_nil m hne
 have hq1:=hlow q hq
 have hq2:=hsm q hq
 have hq3:=UC s q.1
 have hmem:∃ p∈m,Yw st cs s=p.2+Vu s p.1:=by
  have h3:=(XU ((List.range st.length).map fun i=>Vu s (st.getD i 0)+cs.getD i 0) 1048576).2.2
  rw [←zc1] at h3
  rcases h3 with h3 | h3
  ·
   have:Yw st cs s=1048576:=h3
   omega
  ·
   obtain ⟨i,hi,e⟩:=List.mem_map.1 h3
   have hi:=List.mem_range.1 hi
   have h1:st[i]? =some (st.getD i 0):=Q4 rfl hi
   have h2:cs[i]? =some (cs.getD i 0):=Q4 rfl (by rw [h.len];exact hi)
   have hst:=UC s (st.getD i 0)
   have e:Vu s (st.getD i 0)+cs.getD i 0=Yw st cs s:=e
   exact ⟨(st.getD i 0,cs.getD i 0),h.ent.2 ⟨i,h1,h2,by omega⟩,by show _=cs.getD i 0+Vu s (st.getD i 0);omega⟩
 obtain ⟨p,hpm,he⟩:=hmem
 have hp2:=hsm p hpm
 have hp3:=UC s p.1
 refine ⟨zgF (List.mem_map.2 ⟨p,hp.mem_iff.2 hpm,he.symm⟩) (fun x hx=>?_),by omega,by omega,fun p hp'=>hsm p (hp.mem_iff.1 hp')⟩
 obtain ⟨r,hr,rfl⟩:=List.mem_map.1 hx
 exact hlow r (hp.mem_iff.1 hr)
end
section
open Go Go.Kn Go.Proofs
def JN (c a:Nat):Bool:=c&&& a==c
theorem Kc {c a s:Nat}(h:JN c a=true)(g:JN a s=true):JN c s=true:=by
 unfold JN at*
 rw [beq_iff_eq] at*
 calc c&&& s=(c&&& a)&&& s:=by rw [h]
  _=c&&& (a&&& s):=Nat.and_assoc ..
  _=c:=by rw [g,h]
theorem XR {c a b:Nat}(h:JN c a=true)(g:JN c b=true)(e:b&&& a=0):c=0:=by
 unfold JN at*
 rw [beq_iff_eq] at*
 calc c=(c&&& b)&&& a:=by rw [g,h]
  _=c&&& (b&&& a):=Nat.and_assoc ..
  _=0:=by rw [e];exact Nat.and_zero _
theorem XG (a:Nat):JN a a=true:=by unfold JN;rw [Nat.and_self];exact beq_self_eq_true _
theorem znk {a b:Nat}(h:JN a b=true)(g:JN b a=true):a=b:=by
 unfold JN at*
 rw [beq_iff_eq] at*
 calc a=a&&& b:=h.symm
  _=b&&& a:=Nat.and_comm ..
  _=b:=g
theorem zaZ {a b:Nat}(h:JN a b=true):a≤b:=by
 unfold JN at h
 rw [beq_iff_eq] at h
 rw [←h];exact Nat.and_le_right
theorem zmL:((List.range 64).all fun s=>(List.range 64).all fun a=> !JN a s||((((s-a)&&& a)==0)&&JN (s-a) s&&(zhb (a:Int)+zhb ((s-a:Nat):Int)==zhb (s:Int))))=true:=by kernel_rfl
theorem zbW {s a:Nat}(hs:s<64)(ha:a<64)(h:JN a s=true):(s-a)&&& a=0∧JN (s-a) s=true∧zhb (a:Int)+zhb ((s-a:Nat):Int)=zhb (s:Int):=by
 have h0:=List.all_eq_true.1 zmL s (List.mem_range.2 hs)
 have h0:=List.all_eq_true.1 h0 a (List.mem_range.2 ha)
 rw [h] at h0
 simpa [and_assoc] using h0
theorem znd:((List.range 64).all fun s=>(List.range 64).all fun a=>K3 (a:Int) (s:Int)==((a&&& s:Nat):Int))=true:=by kernel_rfl
theorem zrc {s a:Nat}(hs:s<64)(ha:a<64):K3 (a:Int) (s:Int)=((a&&& s:Nat):Int):=by
 have h0:=List.all_eq_true.1 znd s (List.mem_range.2 hs)
 have h0:=List.all_eq_true.1 h0 a (List.mem_range.2 ha)
 exact eq_of_beq h0
theorem zry {s a:Int}(hs:0≤s∧s≤63)(ha:0≤a∧a≤63):(K3 a s==a)=JN a.toNat s.toNat:=by
 have h:=zrc (s:=s.toNat) (a:=a.toNat) (by omega) (by omega)
 rw [show ((s.toNat:Nat):Int)=s by omega,show ((a.toNat:Nat):Int)=a by omega] at h
 unfold JN
 rw [h,Bool.eq_iff_iff,beq_iff_eq,beq_iff_eq]
 omega
def zj4 (s:Nat):Nat:=(K3 (s:Int) (IntKind.i64.wrap (0-(s:Int)))).toNat
theorem zs8:((List.range 64).all fun s=>s==0||(JN (zj4 s) s&&decide (1≤zj4 s)&&(K3 (s:Int) (IntKind.i64.wrap (0-(s:Int)))==(zj4 s:Int))&&(!Z8 (s:Int)||(zj4 s==s&&zhb (s:Int)==1))))=true:=by kernel_rfl
theorem zat {s:Nat}(h0:1≤s)(hs:s<64):JN (zj4 s) s=true∧1≤zj4 s∧K3 (s:Int) (IntKind.i64.wrap (0-(s:Int)))=(zj4 s:Int)∧(Z8 (s:Int)=true→zj4 s=s∧zhb (s:Int)=1):=by
 have h:=List.all_eq_true.1 zs8 s (List.mem_range.2 hs)
 have hne:(s==0)=false:=by simp;omega
 rw [hne,Bool.false_or] at h
 simp only [Bool.and_eq_true,Bool.or_eq_true,decide_eq_true_eq,beq_iff_eq,Bool.not_eq_true'] at h
 refine ⟨h.1.1.1,h.1.1.2,h.1.2,fun e=>?_⟩
 rcases h.2 with h | h
 ·
  rw [e] at h;cases h
 ·
  exact h
theorem zr5:((List.range 7).all fun n=>n==0||((List.range 64).all fun s=> !decide ((s:Int)≤Vs (n:Int))||JN s (Vs (n:Int)).toNat)&&(zhb (Vs (n:Int))==n))=true:=by kernel_rfl
theorem zj7 {n:Nat}(h1:1≤n)(h6:n≤6):(∀ s:Nat,s<64→(s:Int)≤Vs (n:Int)→JN s (Vs (n:Int)).toNat=true)∧zhb (Vs (n:Int))=n:=by
 have h:=List.all_eq_true.1 zr5 n (List.mem_range.2 (by omega))
 have hne:(n==0)=false:=by simp;omega
 rw [hne,Bool.false_or,Bool.and_eq_true] at h
 refine ⟨fun s hs hle=>?_,eq_of_beq h.2⟩
 have:=List.all_eq_true.1 h.1 s (List.mem_range.2 hs)
 simpa [hle] using this
/-! ### Counting -/
def wN (p:Int→Bool)(cl:List Int):Nat:=(cl.map fun c=>if p c then 1 else 0).sum
def inS (s:Int)(c:Int):Bool:=JN c.toNat s.toNat
theorem zgT {f g:Int→Nat}:∀ {cl:List Int},(∀ c∈cl,f c≤g c)→(cl.map f).sum≤(cl.map g).sum
 | [],_=>Nat.le_refl _
 | c::cl,h=>by
  have h1:=h c (List.mem_cons_self ..)
  have h2:=zgT (f:=f) (g:=g) (cl:=cl) fun x hx=>h x (List.mem_cons_of_mem _ hx)
  simp only [List.map_cons,List.sum_cons];omega
theorem zoR {f g:Int→Nat}:∀ {cl:List Int},(∀ c∈cl,f c≤g c)→(cl.map g).sum≤(cl.map f).sum→∀ c∈cl,f c=g c
 | [],_,_=>fun c hc=>by cases hc
 | x::cl,h,hs=>by
  have h1:=h x (List.mem_cons_self ..)
  have h2:=zgT (f:=f) (g:=g) (cl:=cl) fun x hx=>h x (List.mem_cons_of_mem _ hx)
  simp only [List.map_cons,List.sum_cons] at hs
  intro c hc
  rcases List.mem_cons.1 hc with rfl | hc
  ·
   omega
  ·
   exact zoR (f:=f) (g:=g) (cl:=cl) (fun x hx=>h x (List.mem_cons_of_mem _ hx)) (by omega) c hc
theorem WQ {f g:Int→Nat}(cl:List Int):(cl.map fun c=>f c+g c).sum=(cl.map f).sum+(cl.map g).sum:=by
 induction cl with
 | nil=>rfl
 | cons c cl ih=>simp only [List.map_cons,List.sum_cons,ih];omega
theorem zow {s:Int}{cl:List Int}(h:s∈cl):1≤(cl.map fun c=>if c=s then 1 else 0).sum:=by
 induction cl with
 | nil=>cases h
 | cons c cl ih=>
  simp only [List.map_cons,List.sum_cons]
  rcases List.mem_cons.1 h with rfl | h
  ·
   rw [if_pos rfl];omega
  ·
   have:=ih h;omega
section
variable {n:Nat} {cl:List Int} (hc:Jg n cl=0)
include hc
theorem zhn {s:Int}(h:OkS n cl s):1≤s∧s≤63:=⟨h.1,Int.le_trans h.2.1 (zbj (n:=(n:Int)) ⟨(ZV hc).1,(ZV hc).2.1⟩).2⟩
theorem zqU {s:Int}(h:s∈cl):OkS n cl s:=by
 obtain ⟨h1,h6,hlen,hin⟩:=ZV hc
 have h63:=hin s h
 refine ⟨h63.1,?_,by unfold WP;rw [Bool.or_eq_true];left;rw [List.any_eq_true];exact ⟨s,h,by simp⟩⟩
 obtain ⟨k,hk⟩:=List.getElem?_of_mem h
 have h4:(List.range cl.length).all (KE (Vs n) cl)=true:=by
  have h:=hc
  unfold Jg at h
  repeat (split at h; · cases h)
  rename_i h3 _ _
  simpa using h3
 exact (zbO h4 hk).2
theorem JA {s:Int}(h:OkS n cl s)(h1:Z8 s=false):s∈cl∧OkS n cl (Qy cl s)∧OkS n cl (s-Qy cl s)∧1≤Qy cl s∧Qy cl s<s∧JN (Qy cl s).toNat s.toNat=true∧ztA (Qy cl s) s=true:=by
 have hle:=zhn hc h
 have hin:s∈cl:=by
  have h4:=h.2.2
  unfold WP at h4
  rw [h1,Bool.or_false,List.any_eq_true] at h4
  obtain ⟨c,hc2,e⟩:=h4
  have:c=s:=by simpa using e
  exact this ▸ hc2
 have hz:(K3 s (IntKind.i64.wrap (s-1))==0)=false:=by
  unfold Z8 at h1
  rw [decide_eq_true (show s>0 by omega),Bool.true_and] at h1
  exact h1
 obtain ⟨o1,o2,o3,o4⟩:=zmK hc h hz
 obtain ⟨a1,a2,a3⟩:=WM (Ud hc s hin) (Nat.le_refl 1)
 have a3:JL cl s (Qy cl s)=true:=a3
 unfold JL at a3
 simp only [Bool.and_eq_true] at a3
 refine ⟨hin,o1,o2,o3,o4,?_,a3.1.1.2⟩
 rw [←zry (by omega) (by omega)]
 exact a3.1.1.1
theorem zco:∀ (m:Nat) (s:Int),s.toNat≤m→OkS n cl s→zhb s≤wN (inS s) cl+1
 | 0,s,hm,h=>by have:=h.1;omega
 | m+1,s,hm,h=>by
  have hle:=zhn hc h
  cases h1:Z8 s with
  | true=>
   have:=(zat (s:=s.toNat) (by omega) (by omega)).2.2.2
   rw [show ((s.toNat:Nat):Int)=s by omega] at this
   have:=(this h1).2
   omega
  | false=>
   obtain ⟨hin,o1,o2,o3,o4,o5,_⟩:=JA hc h h1
   have i1:=zco m _ (by omega) o1
   have i2:=zco m _ (by omega) o2
   obtain ⟨q1,q2,q3⟩:=zbW (by omega) (by omega) o5
   rw [show (((Qy cl s).toNat:Nat):Int)=Qy cl s by omega,show ((s.toNat -(Qy cl s).toNat:Nat):Int)=s-Qy cl s by omega,show ((s.toNat:Nat):Int)=s by omega] at q3
   have hone:=zow hin
   have hpt:∀ c∈cl,((if c=s then 1 else 0)+((if inS (Qy cl s) c then 1 else 0)+(if inS (s-Qy cl s) c then 1 else 0)):Nat)≤if inS s c then 1 else 0:=fun c hcm=>by
    have hcle:=(ZV hc).2.2.2 c hcm
    unfold inS
    by_cases e:c=s
    ·
     subst e
     rw [if_pos rfl,if_pos (XG _),if_neg,if_neg]
     ·
      omega
     ·
      intro g;have:=zaZ g;omega
     ·
      intro g;have:=zaZ g;omega
    ·
     rw [if_neg e]
     by_cases g1:JN c.toNat (Qy cl s).toNat=true
     ·
      rw [if_pos g1,if_pos (Kc g1 o5),if_neg]
      ·
       omega
      ·
       intro g2
       have g2:JN c.toNat (s.toNat -(Qy cl s).toNat)=true:=by rw [←show (s-Qy cl s).toNat=s.toNat -(Qy cl s).toNat by omega];exact g2
       have:=XR g1 g2 q1
       omega
     ·
      rw [if_neg g1]
      by_cases g2:JN c.toNat (s-Qy cl s).toNat=true
      ·
       rw [if_pos g2,if_pos (Kc (by rw [show s.toNat -(Qy cl s).toNat=(s-Qy cl s).toNat by omega] at q2;exact g2) (by rw [show (s-Qy cl s).toNat=s.toNat -(Qy cl s).toNat by omega];exact q2))]
       omega
      ·
       rw [if_neg g2];omega
   have hs:=zgT hpt
   rw [WQ,WQ] at hs
   unfold wN at*
   omega
def zqX (n:Nat)(cl:List Int)(s:Int):Prop:=OkS n cl s∧wN (inS s) cl+1=zhb s
theorem zmv:zqX n cl (Vs n):=by
 obtain ⟨h1,h6,hlen,hin⟩:=ZV hc
 obtain ⟨g1,g2⟩:=zj7 (n:=n) (by omega) (by omega)
 refine ⟨ziJ hc,?_⟩
 have:wN (inS (Vs n)) cl=cl.length:=by
  unfold wN
  have:∀ l:List Int,(∀ c∈l,c∈cl)→(l.map fun c=>if inS (Vs n) c then 1 else 0).sum=l.length:=by
   intro l
   induction l with
   | nil=>intro _;rfl
   | cons c l ih=>
    intro hl
    have hcm:=hl c (List.mem_cons_self ..)
    have hle:=hin c hcm
    have:=(zqU hc hcm).2.1
    simp only [List.map_cons,List.sum_cons,List.length_cons,ih fun x hx=>hl x (List.mem_cons_of_mem _ hx)]
    have hs:inS (Vs n) c=true:=g1 c.toNat (by omega) (by omega)
    rw [if_pos hs];omega
  exact this cl fun _ h=>h
 omega
theorem zdY {s:Int}(h:zqX n cl s)(h1:Z8 s=false):zqX n cl (Qy cl s)∧zqX n cl (s-Qy cl s)∧∀ c∈cl,inS s c=true→c=s∨inS (Qy cl s) c=true∨inS (s-Qy cl s) c=true:=by
 have hle:=zhn hc h.1
 obtain ⟨hin,o1,o2,o3,o4,o5,_⟩:=JA hc h.1 h1
 obtain ⟨q1,q2,q3⟩:=zbW (by omega) (by omega) o5
 rw [show (((Qy cl s).toNat:Nat):Int)=Qy cl s by omega,show ((s.toNat -(Qy cl s).toNat:Nat):Int)=s-Qy cl s by omega,show ((s.toNat:Nat):Int)=s by omega] at q3
 have hone:=zow hin
 have i1:=zco hc _ _ (Nat.le_refl _) o1
 have i2:=zco hc _ _ (Nat.le_refl _) o2
 have hpt:∀ c∈cl,((if c=s then 1 else 0)+((if inS (Qy cl s) c then 1 else 0)+(if inS (s-Qy cl s) c then 1 else 0)):Nat)≤if inS s c then 1 else 0:=fun c hcm=>by
  have hcle:=(ZV hc).2.2.2 c hcm
  unfold inS
  by_cases e:c=s
  ·
   subst e
   rw [if_pos rfl,if_pos (XG _),if_neg,if_neg]
   ·
    omega
   ·
    intro g;have:=zaZ g;omega
   ·
    intro g;have:=zaZ g;omega
  ·
   rw [if_neg e]
   by_cases g1:JN c.toNat (Qy cl s).toNat=true
   ·
    rw [if_pos g1,if_pos (Kc g1 o5),if_neg]
    ·
     omega
    ·
     intro g2
     have g2:JN c.toNat (s.toNat -(Qy cl s).toNat)=true:=by rw [←show (s-Qy cl s).toNat=s.toNat -(Qy cl s).toNat by omega];exact g2
     have:=XR g1 g2 q1
     omega
   ·
    rw [if_neg g1]
    by_cases g2:JN c.toNat (s-Qy cl s).toNat=true
    ·
     rw [if_pos g2,if_pos (Kc (by rw [show s.toNat -(Qy cl s).toNat=(s-Qy cl s).toNat by omega] at q2;exact g2) (by rw [show (s-Qy cl s).toNat=s.toNat -(Qy cl s).toNat by omega];exact q2))]
     omega
    ·
     rw [if_neg g2];omega
 have hs:=zgT hpt
 rw [WQ,WQ] at hs
 have hf:=h.2
 refine ⟨⟨o1,?_⟩,⟨o2,?_⟩,fun c hcm hsc=>?_⟩
 ·
  unfold wN at*;omega
 ·
  unfold wN at*;omega
 ·
  have he:=zoR hpt (by rw [WQ,WQ];unfold wN at*;omega) c hcm
  by_cases e:c=s
  ·
   exact .inl e
  ·
   rw [if_neg e,if_pos hsc] at he
   by_cases g1:inS (Qy cl s) c=true
   ·
    exact .inr (.inl g1)
   ·
    rw [if_neg g1] at he
    by_cases g2:inS (s-Qy cl s) c=true
    ·
     exact .inr (.inr g2)
    ·
     rw [if_neg g2] at he;omega
theorem ze2:∀ (m:Nat) (s:Int),s.toNat≤m→zqX n cl s→∀ c∈cl,inS s c=true→zqX n cl c
 | 0,s,hm,h=>by have:=h.1.1;omega
 | m+1,s,hm,h=>fun c hcm hsc=>by
  have hle:=zhn hc h.1
  have hcle:=(ZV hc).2.2.2 c hcm
  by_cases e:c=s
  ·
   exact e ▸ h
  ·
   cases h1:Z8 s with
   | true=>
    have:=(zat (s:=s.toNat) (by omega) (by omega)).2.2.2
    rw [show ((s.toNat:Nat):Int)=s by omega] at this
    have hp:=(this h1).2
    have hf:=h.2
    have hz:∀ l:List Int,c∈l→1≤wN (inS s) l:=by
     intro l
     induction l with
     | nil=>intro h;cases h
     | cons x l ih=>
      intro hx
      unfold wN at*
      simp only [List.map_cons,List.sum_cons]
      rcases List.mem_cons.1 hx with rfl | hx
      ·
       rw [if_pos hsc];omega
      ·
       have:=ih hx;omega
    have:=hz cl hcm
    omega
   | false=>
    obtain ⟨f1,f2,f3⟩:=zdY hc h h1
    obtain ⟨_,o1,o2,o3,o4,_,_⟩:=JA hc h.1 h1
    rcases f3 c hcm hsc with e' | g | g
    ·
     exact absurd e' e
    ·
     exact ze2 m _ (by omega) f1 c hcm g
    ·
     exact ze2 m _ (by omega) f2 c hcm g
theorem zqL {c:Int}(h:c∈cl):zqX n cl c:=by
 obtain ⟨h1,h6,hlen,hin⟩:=ZV hc
 have hle:=hin c h
 exact ze2 hc _ _ (Nat.le_refl _) (zmv hc) c h ((zj7 (n:=n) (by omega) (by omega)).1 c.toNat (by omega) (by have:=(zqU hc h).2.1;omega))
theorem zhm {s a:Int}(hs:s∈cl)(h1:Z8 s=false)(ha:1≤a∧a<s)(h:JL cl s a=true):a=Qy cl s:=by
 have hle:=(ZV hc).2.2.2 s hs
 obtain ⟨_,_,f3⟩:=zdY hc (zqL hc hs) h1
 obtain ⟨_,o1,o2,o3,o4,o5,o6⟩:=JA hc (zqU hc hs) h1
 obtain ⟨q1,q2,q3⟩:=zbW (by omega) (by omega) o5
 generalize Qy cl s=b at*
 unfold JL at h
 simp only [Bool.and_eq_true] at h
 obtain ⟨⟨⟨k1,k2⟩,k3⟩,k4⟩:=h
 rw [zry (by omega) (by omega)] at k1
 obtain ⟨p1,p2,p3⟩:=zbW (by omega) (by omega) k1
 have la:=zat (s:=a.toNat) (by omega) (by omega)
 have lb:=zat (s:=b.toNat) (by omega) (by omega)
 have ls:=zat (s:=s.toNat) (by omega) (by omega)
 rw [show ((a.toNat:Nat):Int)=a by omega] at la
 rw [show ((b.toNat:Nat):Int)=b by omega] at lb
 rw [show ((s.toNat:Nat):Int)=s by omega] at ls
 unfold ztA at k2 o6
 rw [beq_iff_eq,la.2.2.1,ls.2.2.1] at k2
 rw [beq_iff_eq,lb.2.2.1,ls.2.2.1] at o6
 have eab:zj4 a.toNat=zj4 b.toNat:=by omega
 have esb:(s-b).toNat=s.toNat -b.toNat:=by omega
 have esa:(s-a).toNat=s.toNat -a.toNat:=by omega
 -- a lies Yy b
 have hab:JN a.toNat b.toNat=true:=by
  cases hsa:Z8 a with
  | true=>
   have:=(la.2.2.2 hsa).1
   rw [←this,eab];exact lb.1
  | false=>
   unfold WP at k3
   rw [hsa,Bool.or_false,List.any_eq_true] at k3
   obtain ⟨c,hcm,e⟩:=k3
   have:c=a:=by simpa using e
   subst this
   rcases f3 c hcm k1 with e | g | g
   ·
    omega
   ·
    exact g
   ·
    exfalso
    have g:JN c.toNat (s.toNat -b.toNat)=true:=by rw [←esb];exact g
    have:=XR (Kc (eab ▸ la.1:JN (zj4 b.toNat) c.toNat=true) g) lb.1 (by rw [Nat.and_comm];exact q1)
    have:=la.2.1
    omega
 have hle2:=zaZ hab
 -- what is left of b lies Yy what is left of a
 have hbb:JN (s.toNat -b.toNat) (s.toNat -a.toNat)=true:=by
  by_cases e:(s.toNat -b.toNat)<64∧(s.toNat -a.toNat)<64
  ·
   have:∀ x y z:Nat,x<64→y<64→z<64→JN x z=true→JN y z=true→JN x y=true→JN (z-y) (z-x)=true:=by
    intro x y z _ _ hz hx hy hxy
    have e1:∀ u v:Nat,v<64→JN u v=true→v-u=v^^^u:=by
     intro u v hv hu
     have hu64:u<64:=Nat.lt_of_le_of_lt (zaZ hu) hv
     have ht:((List.range 64).all fun v=>(List.range 64).all fun u=> !JN u v||(v-u==v^^^u))=true:=by kernel_rfl
     have h0:=List.all_eq_true.1 ht v (List.mem_range.2 hv)
     have h0:=List.all_eq_true.1 h0 u (List.mem_range.2 hu64)
     rw [hu] at h0
     simpa using h0
    rw [e1 _ _ hz hy,e1 _ _ hz hx]
    unfold JN at*
    rw [beq_iff_eq] at*
    apply Nat.eq_of_testBit_eq
    intro i
    have t1:=congrArg (fun q=>Nat.testBit q i) hx
    have t2:=congrArg (fun q=>Nat.testBit q i) hy
    have t3:=congrArg (fun q=>Nat.testBit q i) hxy
    simp only [Nat.testBit_and,Nat.testBit_xor] at*
    revert t1 t2 t3
    cases x.testBit i<;>cases y.testBit i<;>cases z.testBit i<;>simp
   exact this a.toNat b.toNat s.toNat (by omega) (by omega) (by omega) k1 o5 hab
  ·
   omega
 have hpos:1≤s.toNat -b.toNat:=by omega
 have hba:JN (s.toNat -a.toNat) (s.toNat -b.toNat)=true:=by
  cases hsa:Z8 (s-a) with
  | true=>
   have l1:=zat (s:=s.toNat -a.toNat) (by omega) (by omega)
   have l2:=zat (s:=s.toNat -b.toNat) (by omega) (by omega)
   rw [show ((s.toNat -a.toNat:Nat):Int)=s-a by omega] at l1
   have l3:=(l1.2.2.2 hsa).2
   -- one witness: what lies Yy it is it
   have ht:((List.range 64).all fun v=>(List.range 64).all fun u=> !JN u v||u==0|| !(zhb (v:Int)==1)||(v==u))=true:=by kernel_rfl
   have h0:=List.all_eq_true.1 ht (s.toNat -a.toNat) (List.mem_range.2 (by omega))
   have h0:=List.all_eq_true.1 h0 (s.toNat -b.toNat) (List.mem_range.2 (by omega))
   rw [hbb,show ((s.toNat -a.toNat:Nat):Int)=s-a by omega,l3,show ((s.toNat -b.toNat)==0)=false by simp;omega] at h0
   have h0:s.toNat -a.toNat=s.toNat -b.toNat:=by simpa using h0
   rw [h0];exact XG _
  | false=>
   unfold WP at k4
   rw [hsa,Bool.or_false,List.any_eq_true] at k4
   obtain ⟨c,hcm,e⟩:=k4
   have:c=s-a:=by simpa using e
   subst this
   rcases f3 _ hcm (by unfold inS;rw [esa];exact p2) with e | g | g
   ·
    omega
   ·
    exfalso
    unfold inS at g
    rw [esa] at g
    have:=XR (Kc hbb g) (XG (s.toNat -b.toNat)) q1
    omega
   ·
    unfold inS at g
    rw [esa,esb] at g;exact g
 have:=znk hbb hba
 omega
omit hc in
theorem zl7 {s a:Int} (h0:0≤s):a∈zri s.toNat→(1≤a∧a<s)∧K3 a s=a:=fun h=>by
 unfold zri at h
 obtain ⟨h1,h2⟩:=List.mem_filter.1 h
 obtain ⟨k,hk,rfl⟩:=List.mem_map.1 h1
 have:=List.mem_range'_1.1 hk
 rw [show ((s.toNat:Nat):Int)=s by omega] at h2
 exact ⟨by omega,eq_of_beq h2⟩
theorem zgX {s:Int}(hs:s∈cl)(h1:Z8 s=false):zew cl s=Qy cl s∧zeB cl s=s-Qy cl s∧(WN cl s).isSome=true:=by
 have hle:=(ZV hc).2.2.2 s hs
 have hne:=Ud hc s hs
 have hsome:=zcV (cl:=cl) hle
 have hsm:(WN cl s).isSome=true:=by rw [hsome];simpa using hne
 obtain ⟨a,hpa⟩:=Option.isSome_iff_exists.1 hsm
 have htab:=List.all_eq_true.1 zik s.toNat (List.mem_range.2 (by omega))
 rw [Bool.and_eq_true,decide_eq_true_eq,show ((s.toNat:Nat):Int)=s by omega] at htab
 have hf:=hpa
 unfold WN at hf
 rw [W5,htab.1] at hf
 have hp:=List.find?_some hf
 have hm:=List.mem_reverse.1 (List.mem_of_find?_eq_some hf)
 obtain ⟨hr,ha⟩:=zl7 (s:=s) (by omega) hm
 have hl:zd9 s a=s-a:=by simpa using List.all_eq_true.1 htab.2 a hm
 rw [zeN ha hl] at hp
 have:=zhm hc hs h1 hr hp
 unfold zew zeB
 rw [hpa]
 exact ⟨this,by rw [←this];exact hl,rfl⟩
end
end
section
open Go Go.Kn Go.Proofs
def ImO (I:Qu)(r:Nat)(o:Obj):Prop:=I r=some o
theorem ImO.mono {I I':Qu}{r:Nat}{o:Obj}(h:ImO I r o)(hI:HLe I I'):ImO I' r o:=hI _ _ h
def zxH (st cs:List Int)(b:Int):Value→Qu→Go.Kn.Loc→Prop:=fun v I' L=>L=[]∧∃ r m,v= .map (some r)∧ImO I' r (ZQ eiv eiv m)∧zd3 st cs b m
theorem zaB:∀ (ns out:List Int) (x:Int),x∈ns.foldl stS out↔x∈out∨(x∈ns∧x≠8589934592)
 | [],out,x=>by simp
 | n::ns,out,x=>by
  rw [List.foldl_cons,zaB ns]
  have:x∈stS out n↔x∈out∨(x=n∧n≠8589934592):=by
   unfold stS
   split
   ·
    rename_i h
    rw [Bool.or_eq_true,List.any_eq_true] at h
    constructor
    ·
     exact fun h=>.inl h
    ·
     rintro (h2 | ⟨rfl,h2⟩)
     ·
      exact h2
     ·
      rcases h with h | ⟨y,hy,e⟩
      ·
       exact absurd (eq_of_beq h) h2
      ·
       rw [←eq_of_beq e];exact hy
   ·
    rename_i h
    rw [Bool.or_eq_true,not_or] at h
    rw [List.mem_append,List.mem_singleton]
    constructor
    ·
     rintro (h2 | rfl)
     ·
      exact .inl h2
     ·
      exact .inr ⟨rfl,fun e=>h.1 (by rw [e];rfl)⟩
    ·
     rintro (h2 | ⟨rfl,_⟩)
     ·
      exact .inl h2
     ·
      exact .inr rfl
  rw [this,List.mem_cons]
  constructor
  ·
   rintro ((h | ⟨rfl,h⟩) | ⟨h,h2⟩)
   ·
    exact .inl h
   ·
    exact .inr ⟨.inl rfl,h⟩
   ·
    exact .inr ⟨.inr h,h2⟩
  ·
   rintro (h | ⟨rfl | h,h2⟩)
   ·
    exact .inl (.inl h)
   ·
    exact .inl (.inr ⟨rfl,h2⟩)
   ·
    exact .inr ⟨h,h2⟩
theorem zbn:∀ (ns out:List Int),out.Nodup→(ns.foldl stS out).Nodup
 | [],_,h=>h
 | n::ns,out,h=>by
  rw [List.foldl_cons]
  refine zbn ns _ ?_
  unfold stS
  split
  ·
   exact h
  ·
   rename_i h2
   rw [Bool.or_eq_true,not_or,List.any_eq_true] at h2
   refine List.nodup_append.2 ⟨h,by simp,fun a ha b hb e=>?_⟩
   simp at hb
   subst hb;subst e
   exact h2.2 ⟨a,ha,by simp⟩
theorem zvs (rows:List (List Int))(l:Nat):(Za rows l).Nodup:=zbn _ _ (by simp)
theorem zbh {rows:List (List Int)}{l:Nat}{x:Int}:x∈Za rows l↔x=0∨((∃ r∈rows,r.getD l 0=x)∧x≠8589934592):=by
 unfold Za
 rw [zaB]
 simp
def stM (rows:List (List Int))(l:Nat):List (Int×Int):=(Za rows l).map fun x=>(x,0)
theorem zig (rows:List (List Int))(l:Nat):(stM rows l).map (·.1)=Za rows l:=by unfold stM;simp [Function.comp_def]
theorem zpG {rows:List (List Int)}{l i:Nat}{p:Int×Int}(h:(stM rows l)[i]? =some p):p.1∈Za rows l∧p.2=0:=by
 unfold stM at h
 rw [List.getElem?_map] at h
 obtain ⟨x,hx,rfl⟩:=Option.map_eq_some_iff.1 h
 exact ⟨List.mem_of_getElem? hx,rfl⟩
def zfG (rows:List (List Int))(l:Nat)(seen:List Nat):List Int:=(zkL (stM rows l) seen).map (·.1)
theorem zaq {rows:List (List Int)}{l i:Nat}{seen:List Nat}{p:Int×Int}(h:(stM rows l)[i]? =some p):zfG rows l (seen++[i])=zfG rows l seen++[p.1]:=by unfold zfG;rw [zck h,List.map_append];rfl
theorem zlW {rows:List (List Int)}{l i:Nat}{seen:List Nat}{p:Int×Int}(h:(stM rows l)[i]? =some p)(hs:i∉seen):p.1∉zfG rows l seen:=fun hm=>by
 obtain ⟨q,hq,e⟩:=List.mem_map.1 hm
 obtain ⟨j,hj,hqj⟩:=zkt.1 hq
 have hnd:=zvs rows l
 rw [←zig] at hnd
 have h1:((stM rows l).map (·.1))[i]? =some p.1:=by rw [List.getElem?_map,h];rfl
 have h2:((stM rows l).map (·.1))[j]? =some p.1:=by rw [List.getElem?_map,hqj,←e];rfl
 obtain ⟨g1,e1⟩:=List.getElem?_eq_some_iff.1 h1
 obtain ⟨g2,e2⟩:=List.getElem?_eq_some_iff.1 h2
 have:=(List.getElem_inj hnd).1 (show ((stM rows l).map (·.1))[i]=((stM rows l).map (·.1))[j] by rw [e1,e2])
 exact hs (this ▸ hj)
theorem zfM {rows:List (List Int)}{l:Nat}{seen:List Nat}{x:Int}(h:x∈zfG rows l seen):x∈Za rows l:=by
 obtain ⟨q,hq,rfl⟩:=List.mem_map.1 h
 obtain ⟨j,_,hqj⟩:=zkt.1 hq
 exact (zpG hqj).1
theorem zfn {rows:List (List Int)}{l:Nat}{seen:List Nat}(hnd:seen.Nodup)(hlt:∀ i∈seen,i<(stM rows l).length)(hall:∀ i (p:Int×Int),(stM rows l)[i]? =some p→i∈seen)(x:Int):x∈zfG rows l seen↔x∈Za rows l:=by
 have:=(zeO hnd hlt hall).map (fun p=>p.1)
 rw [zig] at this
 exact this.mem_iff
/-! ### A single witness -/
def Xx (rows:List (List Int))(l:Nat)(u:Int)(seen:List Nat)(x:Int):Option Int:=if x∈zfG rows l seen∧Kz u x=0 then some 0 else none
theorem zjs {rows:List (List Int)}{l:Nat}{u:Int}:US [] (Xx rows l u []):=US.nil.congr fun x=>by unfold Xx zfG zkL;simp
theorem zkH {rows:List (List Int)}{l:Nat}{u:Int}{seen:List Nat}{i:Nat}{p:Int×Int}{m:List (Int×Int)}(h:US m (Xx rows l u seen))(hp:(stM rows l)[i]? =some p)(hg:Kz u p.1=0):US (YA m p.1 0) (Xx rows l u (seen++[i])):=
 (h.set p.1 0).congr fun x=>by
  unfold Xx
  rw [zaq hp];simp only [List.mem_append,List.mem_singleton]
  by_cases e:p.1=x
  ·
   subst e
   rw [if_pos rfl,if_pos ⟨.inr rfl,hg⟩]
  ·
   rw [if_neg e]
   by_cases g:x∈zfG rows l seen∧Kz u x=0
   ·
    rw [if_pos g,if_pos ⟨.inl g.1,g.2⟩]
   ·
    rw [if_neg g,if_neg]
    rintro ⟨h1 | h1,h2⟩
    ·
     exact g ⟨h1,h2⟩
    ·
     exact e h1.symm
theorem zno {rows:List (List Int)}{l:Nat}{u:Int}{seen:List Nat}{i:Nat}{p:Int×Int}{m:List (Int×Int)}(h:US m (Xx rows l u seen))(hp:(stM rows l)[i]? =some p)(hg:Kz u p.1≠0):US m (Xx rows l u (seen++[i])):=
 h.congr fun x=>by
  unfold Xx
  rw [zaq hp];simp only [List.mem_append,List.mem_singleton]
  by_cases g:x∈zfG rows l seen∧Kz u x=0
  ·
   rw [if_pos g,if_pos ⟨.inl g.1,g.2⟩]
  ·
   rw [if_neg g,if_neg]
   rintro ⟨h1 | h1,h2⟩
   ·
    exact g ⟨h1,h2⟩
   ·
    subst h1;exact hg h2
theorem zcp {u x:Int}(h:(u==x||u==8589934592)=true):Kz u x=0:=by
 unfold Kz
 rw [if_neg]
 rw [Bool.or_eq_true,beq_iff_eq,beq_iff_eq] at h
 simp only [Bool.and_eq_true,decide_eq_true_eq]
 rintro ⟨h1,h2⟩
 rcases h with h | h
 ·
  exact h2 h
 ·
  exact h1 h
theorem zix {u x:Int}(h:(u==x||u==8589934592)=false):Kz u x=1048576∧Kz u x≠0:=by
 have:Kz u x=1048576:=by
  unfold Kz
  rw [if_pos]
  rw [Bool.or_eq_false_iff,beq_eq_false_iff_ne,beq_eq_false_iff_ne] at h
  simp only [Bool.and_eq_true,decide_eq_true_eq]
  exact ⟨h.2,h.1⟩
 exact ⟨this,by omega⟩
theorem znG {rows:List (List Int)}{l w:Nat}{v:List Int}{seen:List Nat}{m:List (Int×Int)}{b:Int}(hb:0≤b)(hv:rows[w]? =some v)(h:US m (Xx rows l (v.getD l 0) seen))(hnd:seen.Nodup)(hlt:∀ i∈seen,i<(stM rows l).length)(hall:∀ i (p:Int×Int),(stM rows l)[i]? =some p→i∈seen):
  zd3 (Za rows l) ((Za rows l).map (Kz ((rows.getD w []).getD l 0))) b m:=by
 rw [QU hv]
 have hgv:∀ x,Kz (v.getD l 0) x=0∨Kz (v.getD l 0) x=1048576:=fun x=>by
  cases e:(v.getD l 0==x||v.getD l 0==8589934592) with
  | true=>exact .inl (zcp e)
  | false=>exact .inr (zix e).1
 refine ⟨by rw [List.length_map],h.nd,fun i x c hx hcx=>?_,fun p hp=>?_,?_,fun c hcm=>?_⟩
 ·
  rw [List.getElem?_map,hx] at hcx
  simp only [Option.map_some,Option.some.injEq] at hcx
  subst hcx
  rw [h.get]
  unfold Xx
  have hin:=(zfn hnd hlt hall x).2 (List.mem_of_getElem? hx)
  rcases hgv x with e | e
  ·
   rw [if_pos ⟨hin,e⟩,e,if_pos (by omega)]
  ·
   rw [if_neg (fun g=>by omega),e,if_neg (by omega)]
 ·
  have:=h.mem hp
  unfold Xx at this
  split at this
  ·
   rename_i g;exact zfM g.1
  ·
   cases this
 ·
  by_cases e:v.getD l 0=8589934592
  ·
   refine ⟨Kz (v.getD l 0) 0,List.mem_map.2 ⟨0,zbh.2 (.inl rfl),rfl⟩,?_⟩
   rw [zcp (by rw [e];simp)];omega
  ·
   refine ⟨Kz (v.getD l 0) (v.getD l 0),List.mem_map.2 ⟨v.getD l 0,zbh.2 (.inr ⟨⟨v,List.mem_of_getElem? hv,rfl⟩,e⟩),rfl⟩,?_⟩
   rw [zcp (by simp)];omega
 ·
  obtain ⟨x,_,rfl⟩:=List.mem_map.1 hcm
  rcases hgv x with e | e<;>rw [e]<;>omega
/-! ### Two parts -/
def zgV (st ca cb:List Int)(j:Nat)(x:Int):Int:=(if 1≤j then Yw st ca x else 0)+(if 2≤j then Yw st cb x else 0)
def gF (st ca cb:List Int)(j:Nat)(x:Int):Option Int:=if x∈st∧1≤j then some (zgV st ca cb j x) else none
def hF (rows:List (List Int))(l:Nat)(ca cb:List Int)(j:Nat)(seen:List Nat)(x:Int):Option Int:=if x∈zfG rows l seen then some (zgV (Za rows l) ca cb (j+1) x) else gF (Za rows l) ca cb j x
theorem zz9 {st ca cb:List Int}:US [] (gF st ca cb 0):=US.nil.congr fun x=>by unfold gF;rw [if_neg (fun h=>by omega)]
theorem zz3 {rows:List (List Int)}{l j:Nat}{ca cb:List Int}{m:List (Int×Int)}(h:US m (gF (Za rows l) ca cb j)):US m (hF rows l ca cb j []):=h.congr fun x=>by unfold hF zfG zkL;simp
theorem zuz {rows:List (List Int)}{l j:Nat}{ca cb:List Int}{m:List (Int×Int)}{seen:List Nat}(h:US m (hF rows l ca cb j seen))(hnd:seen.Nodup)(hlt:∀ i∈seen,i<(stM rows l).length)(hall:∀ i (p:Int×Int),(stM rows l)[i]? =some p→i∈seen):US m (gF (Za rows l) ca cb (j+1)):=
 h.congr fun x=>by
  unfold hF
  by_cases g:x∈zfG rows l seen
  ·
   rw [if_pos g];unfold gF;rw [if_pos ⟨zfM g,by omega⟩]
  ·
   have g':x∉Za rows l:=fun e=>g ((zfn hnd hlt hall x).2 e)
   rw [if_neg g];unfold gF;rw [if_neg (fun e=>g' e.1),if_neg (fun e=>g' e.1)]
theorem zys {rows:List (List Int)}{l j:Nat}{ca cb:List Int}{m:List (Int×Int)}{seen:List Nat}{i:Nat}{p:Int×Int}(h:US m (hF rows l ca cb j seen))(hp:(stM rows l)[i]? =some p)(hs:i∉seen):(ZE m p.1).getD 0=zgV (Za rows l) ca cb j p.1:=by
 rw [h.get]
 unfold hF
 rw [if_neg (zlW hp hs)]
 unfold gF
 by_cases e:1≤j
 ·
  rw [if_pos ⟨(zpG hp).1,e⟩];rfl
 ·
  rw [if_neg (fun g=>e g.2)]
  unfold zgV
  rw [if_neg e,if_neg (by omega)];rfl
theorem zgJ {st ca cb:List Int}{j:Nat}{x:Int}(hj:j<2):zgV st ca cb j x+Yw st (if j=0 then ca else cb) x=zgV st ca cb (j+1) x:=by
 unfold zgV
 rcases (show j=0∨j=1 by omega) with e | e<;>subst e<;>simp
theorem zn1 {rows:List (List Int)}{l j:Nat}{ca cb:List Int}{m:List (Int×Int)}{seen:List Nat}{i:Nat}{p:Int×Int}(h:US m (hF rows l ca cb j seen))(hp:(stM rows l)[i]? =some p):US (YA m p.1 (zgV (Za rows l) ca cb (j+1) p.1)) (hF rows l ca cb j (seen++[i])):=
 (h.set p.1 _).congr fun x=>by
  unfold hF
  rw [zaq hp];simp only [List.mem_append,List.mem_singleton]
  by_cases e:p.1=x
  ·
   subst e
   rw [if_pos rfl,if_pos (.inr rfl)]
  ·
   rw [if_neg e]
   by_cases g:x∈zfG rows l seen
   ·
    rw [if_pos g,if_pos (.inl g)]
   ·
    rw [if_neg g,if_neg]
    rintro (h1 | h1)
    ·
     exact g h1
    ·
     exact e h1.symm
theorem zqY {st ca cb:List Int}{ba bb b:Int}{ma mb m:List (Int×Int)}(hne:st≠[])(hA:zd3 st ca ba ma)(hB:zd3 st cb bb mb)(h1:ba≤1000)(h2:bb≤1000)(hb:ba+bb+8≤b)(h:US m (gF st ca cb 2)):zd3 st (st.map (zpt st ca cb)) b m:=by
 have ha:∀ x,0≤Yw st ca x∧Yw st ca x≤ba+4:=fun x=>by
  have:=Ui hA h1 (.refl _) x
  exact ⟨this.2.1,this.2.2.1⟩
 have hbb:∀ x,0≤Yw st cb x∧Yw st cb x≤bb+4:=fun x=>by
  have:=Ui hB h2 (.refl _) x
  exact ⟨this.2.1,this.2.2.1⟩
 have hlt:∀ x,0≤zpt st ca cb x∧zpt st ca cb x<1048576∧zpt st ca cb x≤b:=fun x=>by
  have:=ha x;have:=hbb x
  unfold zpt;omega
 refine ⟨by rw [List.length_map],h.nd,fun i x c hx hcx=>?_,fun p hp=>?_,?_,fun c hcm=>?_⟩
 ·
  rw [List.getElem?_map,hx] at hcx
  simp only [Option.map_some,Option.some.injEq] at hcx
  subst hcx
  rw [h.get,if_pos (hlt x).2.1]
  unfold gF
  rw [if_pos ⟨List.mem_of_getElem? hx,by omega⟩]
  unfold zgV zpt;simp
 ·
  have:=h.mem hp
  unfold gF at this
  split at this
  ·
   rename_i g;exact g.1
  ·
   cases this
 ·
  obtain ⟨x,hx⟩:=List.exists_mem_of_ne_nil st hne
  exact ⟨_,List.mem_map.2 ⟨x,hx,rfl⟩,(hlt x).2.1⟩
 ·
  obtain ⟨x,_,rfl⟩:=List.mem_map.1 hcm
  have:=hlt x
  exact ⟨this.1,fun _=>this.2.2,by omega⟩
theorem zhS {st cs:List Int}{b:Int}{m vs:List (Int×Int)}(h:zd3 st cs b m)(hp:vs.Perm m):Yo (vs.map (·.2))=Yo cs:=by
 obtain ⟨c,hc,hlt⟩:=h.pos
 have hne:cs≠[]:=List.ne_nil_of_mem hc
 obtain ⟨h1,h2⟩:=zcv hne
 have h3:=h2 c hc
 obtain ⟨i,hi⟩:=List.getElem?_of_mem h1
 have hil:=(List.getElem?_eq_some_iff.1 hi).1
 have hx:st[i]? =some (st[i]'(by rw [←h.len];exact hil)):=List.getElem?_eq_getElem _
 have hm:=h.ent.2 ⟨i,hx,hi,by omega⟩
 refine zgF (List.mem_map.2 ⟨_,hp.mem_iff.2 hm,rfl⟩) (fun x hx=>?_)
 obtain ⟨p,hpm,rfl⟩:=List.mem_map.1 hx
 obtain ⟨j,_,hj,_⟩:=(h.ent (x:=p.1) (c:=p.2)).1 (hp.mem_iff.1 hpm)
 exact h2 _ (List.mem_of_getElem? hj)
section
variable {C:Cx} {E:Env} {I:Qu} {loc:Go.Kn.Loc} {S:GS} {dst:Option Tmp} {ty:TypeId} {pos:String} {af:Array Edge} {gd:Option (Nat×Bool)} {x y:Operand} {a:Int}
theorem za6 {m:List (Int×Int)}{t k e r:Nat}(hT:MpT C.P t k e (.int .i64 0))(hK:V4 C.P k eiv)(hx:QA S E x=some (.map (some r)))(hy:QA S E y=some (eiv a))(hm:ZY S=true→Mem I loc r (ZQ eiv eiv m)):
  QV C S E I loc ⟨dst,.lookup t x y false,ty,pos,af,gd⟩ (.int .i64 ((ZE m a).getD 0)):=by
 have:=KN (C:=C) (S:=S) (dst:=dst) (ty:=ty) (pos:=pos) (af:=af) (gd:=gd) hT hK hx hy hm
 cases h:ZE m a with
 | none=>rw [h] at this;exact this
 | some b=>rw [h] at this;exact this
end
theorem zmj {I:Qu}{b j ra rb r:Nat}{e:TypeId}{fz:Nat×Nat}{l:Go.Kn.Loc}(hr:(if j=0 then ra else rb)=r)(h:j<2):QT I ((b,.cells (([[Value.map (some ra)],[Value.map (some rb)]]:List (List Value)).flatten).toArray e fz)::l) b (((j:Nat):Int).toNat*1) (.map (some r)):=by
 subst hr
 rcases (show j=0∨j=1 by omega) with e | e<;>subst e<;>exact .here rfl
theorem zd3.small {st cs:List Int}{b:Int}{m:List (Int×Int)}(h:zd3 st cs b m):m.length≤st.length:=by
 have:=h.nd.length_le_of_subset (l₂:=st) (fun x hx=>by
  obtain ⟨p,hp,rfl⟩:=List.mem_map.1 hx
  exact h.old p hp)
 simpa using this
theorem zxd {st ca cb:List Int}{ba bb:Int}{ma mb:List (Int×Int)}(hA:zd3 st ca ba ma)(hB:zd3 st cb bb mb)(h1:ba≤1000)(h2:bb≤1000)(j:Nat)(x:Int):0≤zgV st ca cb j x∧zgV st ca cb j x≤3000:=by
 have a:=Ui hA h1 (.refl _) x
 have b:=Ui hB h2 (.refl _) x
 unfold zgV
 split<;>split<;>omega
structure PrE (I:Qu)(fid brow bloc bcst bcla bbel rm:Nat)(av bv:Option Addr)(n c n2 c2:Nat)(xs:List Int)(rows:List (List Int))(l:Nat):Prop where
 row:QT I [] brow 0 (.slice bv n2 c2)
 loc:QT I [] bloc 0 (.int .i64 l)
 cst:QT I [] bcst 0 (.map (some rm))
 cla:QT I [] bcla 0 (.slice av n c)
 bel:QT I [] bbel 0 (.func (.func fid) #[] #[Zc brow,Zc bloc,Zc bcst,Zc bcla,Zc bbel])
 mp:ImO I rm (ZQ eiv eiv (stM rows l))
 deb:VT I
 hS:Sl I 1 QQ av n c xs
 hV:SlN I bv n2 c2 rows
theorem PrE.mono {I I':Qu}{fid brow bloc bcst bcla bbel rm:Nat}{av bv:Option Addr}{n c n2 c2:Nat}{xs:List Int}{rows:List (List Int)}{l:Nat}(h:PrE I fid brow bloc bcst bcla bbel rm av bv n c n2 c2 xs rows l)(hI:HLe I I'):PrE I' fid brow bloc bcst bcla bbel rm av bv n c n2 c2 xs rows l:=
 ⟨h.row.mono hI,h.loc.mono hI,h.cst.mono hI,h.cla.mono hI,h.bel.mono hI,h.mp.mono hI,h.deb.mono hI,h.hS.mono hI,h.hV.mono hI⟩
theorem zp9:((List.range 64).all fun s=>IntKind.u64.wrap (s:Int)==(s:Int))=true:=by kernel_rfl
theorem zwI {s:Int}(hs:0≤s∧s≤63):IntKind.u64.wrap s=s:=by
 have h:=List.all_eq_true.1 zp9 s.toNat (List.mem_range.2 (by omega))
 rw [show ((s.toNat:Nat):Int)=s by omega] at h
 exact eq_of_beq h
theorem zsm {rows:List (List Int)}{l k:Nat}{r:List Int}(h:rows[k]? =some r)(hne:r.getD l 0≠8589934592):YA (stM (rows.take k) l) (r.getD l 0) 0=stM (rows.take (k+1)) l:=by
 have hst:=zjZ (l:=l) h
 unfold stM
 rw [hst]
 cases e:(Za (rows.take k) l).any (fun x=>x==r.getD l 0) with
 | true=>
  rw [zoL (by rw [e,Bool.or_true])]
  refine U2 _ _ _ ?_
  obtain ⟨x,hx,hxe⟩:=List.any_eq_true.1 e
  have hxe:=eq_of_beq hxe
  subst hxe
  have hnd:=zvs (rows.take k) l
  have:=zcr (m:=(Za (rows.take k) l).map fun x=>(x,(0:Int))) (by rw [List.map_map];simpa [Function.comp_def] using hnd) (List.mem_map.2 ⟨_,hx,rfl⟩)
  exact this
 | false=>
  rw [zy4 (by rw [e,Bool.or_false];exact beq_eq_false_iff_ne.2 hne),List.map_append]
  refine XK _ _ _ 0 ?_
  have hn:ZE ((Za (rows.take k) l).map fun x=>(x,(0:Int))) (r.getD l 0)=none:=Wl.2 (by
   rw [List.map_map]
   intro hm
   obtain ⟨x,hx,hxe⟩:=List.mem_map.1 hm
   have:=List.any_eq_false.1 e x hx
   exact this (by simpa using hxe))
  rw [←Kg _ _ 0] at hn
  exact Option.map_eq_none_iff.1 hn
theorem zmb {rows:List (List Int)}{l k:Nat}{r:List Int}(h:rows[k]? =some r)(he:r.getD l 0=8589934592):stM (rows.take k) l=stM (rows.take (k+1)) l:=by
 have hst:=zjZ (l:=l) h
 unfold stM
 rw [hst,zoL (by rw [he];rfl)]
end
section
open Go Go.Kn Go.Proofs
theorem zrX:ArT Tryz.prog 290 64 5 1:=.of (by kernel_rfl)
theorem zrF:CvT Tryz.prog 5 3 .i64:=⟨by kernel_rfl,by kernel_rfl⟩
theorem zqT:Fun Tryz.prog 250:=.of Tryz.func250 (by kernel_rfl) (by kernel_rfl)
theorem zzj:ScT Tryz.prog 5:=.of (by kernel_rfl)
theorem zu0 {I:Qu}(hD:VT I){s:Int}(hs:1≤s∧s≤63)(h1:Z8 s=true):Zy Tryz.prog 250 [.int .u64 s] I (.int .i64 (KS s)):=by
 intro g H w hw
 refine qe Tryz.func250 Tryz.ntmps250 hw ?_
 obtain ⟨hd1,hd2⟩:=zxe hs h1
 have hcell:∀ loc,QT I loc 1 (0+(zly s).toNat*1) (.int .u8 (zrB.getD (zly s).toNat 0)):=fun loc=>by rw [show 0+(zly s).toNat*1=(zly s).toNat by omega];exact (hD _ (by omega)).any
 refine zR (zA (zN (Ql (zR ?_))))
 refine zM ?_
 refine zC (zN ?_)
 refine zI ?_ ?_<;>intro hc4
 ·
  have h:=hc4;simp at h;omega
 refine Qn (Qa (zR (zM ?_)))
 refine zM ?_
 refine zV (zjX rfl) ?_
 refine zV (zqr rfl rfl) ?_
 refine zV (zkf rfl rfl rfl) ?_
 refine zV (zj3 rfl rfl (by decide) (rfl:min _ _=58)) ?_
 refine zV (Zq rfl rfl zrX (fun hg=>by exact hd1)) ?_
 refine zV (Qe rfl zzj (fun hg=>by exact (hcell _))) ?_
 refine zV (JW rfl zrF) ?_
 refine zA (zN (Qt ?_))
 first
 | exact zr rfl rfl (by rw [hd2])
theorem zz1 {I:Qu}(hD:VT I){s:Int}(hs:1≤s∧s≤63)(h1:Z8 s=true):Zy Tryz.prog 234 [.int .u64 s] I (.int .i64 (KS s)):=by
 intro g H w hw
 refine qe Tryz.func234 Tryz.ntmps234 hw ?_
 refine zR (zA (zN (Ql ?_)))
 refine zI ?_ ?_<;>intro hcK
 ·
  cases hcK
 refine Qn (Qa (zR (zM ?_)))
 refine qc (vs:=[_]) rfl zqT (zu0 hD hs h1) ?_
 refine zA (zN (Qt ?_))
 exact zr rfl rfl (by rfl)
end
section
open Go Go.Kn Go.Proofs
theorem K6:CvT Tryz.prog 3 186 .u64:=⟨by kernel_rfl,by kernel_rfl⟩
theorem zrg:ElT Tryz.prog 275 171 1 8:=.of (by kernel_rfl)
theorem zeu:Fun Tryz.prog 233:=.of Tryz.func233 (by kernel_rfl) (by kernel_rfl)
theorem zqq:Fun Tryz.prog 234:=.of Tryz.func234 (by kernel_rfl) (by kernel_rfl)
theorem zru:Fun Tryz.prog 235:=.of Tryz.func235 (by kernel_rfl) (by kernel_rfl)
theorem zfa:Fun Tryz.prog 236:=.of Tryz.func236 (by kernel_rfl) (by kernel_rfl)
theorem ZG:V4 (α:=Int) Tryz.prog 3 (.int .i64):=zrA (by kernel_rfl)
theorem Vv:MpT Tryz.prog 171 3 3 (.int .i64 0):=⟨by kernel_rfl,.of (by kernel_rfl)⟩
theorem zbB:ScT Tryz.prog 171:=.of (by kernel_rfl)
theorem KH:ScT Tryz.prog 22:=.of (by kernel_rfl)
theorem zen:ScT Tryz.prog 274:=.of (by kernel_rfl)
theorem zhW:SlT Tryz.prog 275 171 1:=.of (by kernel_rfl)
theorem zzn {I:Qu}(hD:VT I){s:Int}(hs:1≤s∧s≤63)(h1:Z8 s=true):Zy Tryz.prog 234 [.int .u64 (IntKind.u64.wrap s)] I (.int .i64 (KS s)):=by
 rw [zwI (by omega)];exact zz1 hD hs h1
theorem zlE {I:Qu}{av:Option Addr}{n c m:Nat}{xs:List Int}(hS:Sl I 1 QQ av n c xs)(hn:n≤100000)(hc:Jg m xs=0){s:Int}(hin:s∈xs)(h1:Z8 s=false):Zy Tryz.prog 153 [.slice av n c,.int .i64 s] I (.tuple #[.int .i64 (Qy xs s),.int .i64 (s-Qy xs s),.bool true]):=by
 have h:=zeE hS hn s ((ZV hc).2.2.2 s hin)
 obtain ⟨e1,e2,e3⟩:=zgX hc hin h1
 rw [e1,e2,e3] at h;exact h
theorem zbQ {I:Qu}{av:Option Addr}{n c:Nat}{xs:List Int}{v:Int}(e:Yo xs=v)(hS:Sl I 1 QQ av n c xs)(hn:n≤100000)(h0:0<n):Zy Tryz.prog 236 [.slice av n c] I (.int .i64 v):=by
 rw [←e];exact zrz hS hn h0
theorem zmE {I:Qu}{brow bloc bcst bcla bbel rm:Nat}{av bv:Option Addr}{n c n2 c2:Nat}{xs:List Int}{rows:List (List Int)}{l:Nat}(hE:PrE I 233 brow bloc bcst bcla bbel rm av bv n c n2 c2 xs rows l)(hn:n≤100000)(hn2:n2≤100000)(hl:∀ r∈rows,l<r.length)(hc:Jg rows.length xs=0)(f:Nat)(s:Int)(hok:OkS rows.length xs s)(ih:∀ (I':Qu),HLe I I'→∀ (s':Int),OkS rows.length xs s'→s'<s→Yf Tryz.prog 233 ([.int .i64 s']++[Zc brow,Zc bloc,Zc bcst,Zc bcla,Zc bbel]) I' [] (zxH (Za rows l) (ZC rows xs l f s') (8*(s'-1)))):Yf Tryz.prog 233 [.int .i64 s,Zc brow,Zc bloc,Zc bcst,Zc bcla,Zc bbel] I [] (zxH (Za rows l) (ZC rows xs l (f+1) s) (8*(s-1))):=by
 intro g H w hw
 refine qe Tryz.func233 Tryz.ntmps233 hw ?_
 have hIc:=zAh I
 obtain ⟨hs,hV⟩:=hE.hV
 have hH:=hV.1
 have hlV:=hV.len
 have hal:=(ZV hc).1
 have hal6:=(ZV hc).2.1
 have hs63:=zhn hc hok
 have hsl:=zoq (rows:=rows) (l:=l)
 refine zR (zA ?_)
 refine zN (zR ?_)
 refine ZL rfl rfl (fun r_20=>?_)
 refine zA (zN (Ql (zR ?_)))
 refine zM ?_
 refine qc (vs:=[_]) rfl zjn (zfo _ _) ?_
 refine zN ?_
 refine zI ?_ ?_<;>intro hc22
 ·
  have hsing:Z8 s=true:=hc22
  have hwn:=zwf (n:=rows.length) (by omega) hs63 hsing hok.2.1
  obtain ⟨x,v,hx,hv,hQ⟩:=hV.at (show KS s<n2 by omega)
  have hlv:=hl v (List.mem_of_getElem? hv)
  have hu:=Q4 (d:=0) rfl hlv
  have hvn:=hQ.len
  have hz:(K3 s (IntKind.i64.wrap (s-1))==0)=true:=by unfold Z8 at hsing;rw [Bool.and_eq_true] at hsing;exact hsing.2
  refine Ql ?_
  refine YF mixed (by kernel_rfl) ?_
  refine zq (Qe rfl KH (fun hg=>by exact hE.row.any)) ?_
  refine zq (Qi rfl) ?_
  refine zq (JW rfl K6) ?_
  refine JC (cap:=[]) (vs:=[_]) rfl rfl zqq (zzn hE.deb hs63 hsing) rfl rfl ?_
  refine zq (zX Zp hH) ?_
  refine zq (Qe rfl QJ (fun hg=>by exact zAa hH hx rfl)) ?_
  refine zq (Qe rfl Qr (fun hg=>by exact hE.loc.any)) ?_
  refine zq (zX Qw hQ) ?_
  refine zq (Qe rfl Qr (fun hg=>by exact zAa hQ hu rfl)) ?_
  refine zq (ZF rfl) ?_
  refine YK ?_
  refine Qa (Ql (zR ?_))
  refine zV (Qe rfl zbB (fun hg=>by exact hE.cst.any)) ?_
  refine JU (ek:=eiv) (ev:=eiv) (m:=(stM rows l)) rfl Vv rfl rfl (.inl hE.mp) (fun b_33=>?_)
  refine zN (Qm ?_)
  refine zU [(8,_),(9,_),(33,_)] (fun T L0 mz E I' loc'=>∃ (seen:List Nat) (m:List (Int×Int)),mz=(stM rows l).length-seen.length∧E=T∧I=I'∧[(b_33,YT rm (stM rows l).length seen),(r_20,ZQ eiv eiv m)]=loc'∧US m (Xx rows l (v.getD l 0) seen)∧seen.Nodup∧∀ i∈seen,i<(stM rows l).length) ?_ (h:=⟨[],[],rfl,rfl,rfl,rfl,zjs,.nil,fun i h=>by cases h⟩)
  rintro mz E I' loc' ⟨seen,m,rfl,rfl,rfl,rfl,hm,hnd,hlt⟩
  refine zR ?_
  refine JT (ek:=eiv) (ev:=eiv) (m:=(stM rows l)) (fun s'=>[(b_33,YT rm (stM rows l).length s'),(r_20,ZQ eiv eiv m)]) rfl (fun s'=>.here) rfl rfl rfl rfl rfl (.inl hE.mp) (by simp) ?_
  intro t tv s' hno hyes
  refine zN (Ql ?_)
  refine zI ?_ ?_<;>intro hc35
  ·
   obtain ⟨i,q,hq,hns,rfl⟩:=hyes hc35
   refine Qn (Qa (Qm (zR ?_)))
   refine zV (JV (ek:=eiv) (ev:=eiv) (m:=(stM rows l)) (p:=q) (seen:=seen) (i:=i) rfl (.inl hE.mp) (.inr (by simp)) hq) ?_
   refine zE ?_
   refine zA ?_
   refine zN (zR ?_)
   refine zM ?_
   refine zM ?_
   refine zC ?_
   refine zM ?_
   refine QR 3 rfl rfl rfl ?_
   refine zJ (Qi rfl) ?_
   refine zJ (QG rfl rfl rfl) ?_
   refine Zo rfl rfl rfl rfl rfl ?_
   refine zN ?_
   refine zI ?_ ?_<;>intro hc44
   ·
    refine Qg (zM ?_)
    refine zM ?_
    refine Q7 (m:=m) (ek:=eiv) (ev:=eiv) (a:=q.1) 0 Vv ZG rfl rfl rfl rfl (by repeat (first | exact Upd.here | apply Upd.there | apply QK)) ?_
    refine Qb (Qf ?_)
    have hs9:=Kj hnd hlt hns (List.getElem?_eq_some_iff.1 hq).1
    first
    | exact zm (h:=⟨(stM rows l).length-(seen++[i]).length,by rw [List.length_append,List.length_singleton];have:=hs9.2.2;rw [List.length_append,List.length_singleton] at this;omega,seen++[i],YA m q.1 0,rfl,rfl,rfl,rfl,zkH hm hq (zcp hc44),hs9.1,hs9.2.1⟩)
   refine Qn (Qf ?_)
   have hs9:=Kj hnd hlt hns (List.getElem?_eq_some_iff.1 hq).1
   first
   | exact zm (h:=⟨(stM rows l).length-(seen++[i]).length,by rw [List.length_append,List.length_singleton];have:=hs9.2.2;rw [List.length_append,List.length_singleton] at this;omega,seen++[i],m,rfl,rfl,rfl,rfl,zno hm hq (zix hc44).2,hs9.1,hs9.2.1⟩)
  obtain ⟨rfl,hall⟩:=hno hc35
  refine QI (Qh (Qh (Qk (Qa (zR (zM ?_))))))
  refine zA (zN (Qt (Qc ?_)))
  first
  | exact Zx rfl rfl (fun w hw=>by obtain ⟨I9,h91,h92,h93⟩:=hw.freezeAll;exact ⟨_,I9,[],rfl,hIc.trans h91,h92,rfl,r_20,m,rfl,h93 _ _ (by simp),by rw [WI hz];exact znG (by omega) hv hm hnd hlt hall⟩)
 have hns0:Z8 s=false:=hc22
 obtain ⟨hin,ok1,ok2,hp1,hp2,_,_⟩:=JA hc hok hns0
 have hz:(K3 s (IntKind.i64.wrap (s-1))==0)=false:=by unfold Z8 at hns0;rw [decide_eq_true (show s>0 by omega),Bool.true_and] at hns0;exact hns0
 refine Qn (Qa (zR ?_))
 refine zV (Qe rfl QJ (fun hg=>by exact hE.cla.any)) ?_
 refine zM ?_
 refine qc (vs:=[_,_]) rfl zeJ (zlE hE.hS hn hc hin hns0) ?_
 refine zM ?_
 refine zE ?_
 refine zE ?_
 refine zE ?_
 refine zA ?_
 refine zA ?_
 refine zA (zN (Ql (Ql ?_)))
 have hD:=zAh I
 refine K4 mixed ?_
 refine zT 0 rfl (Qe rfl zen (fun hg=>by exact hE.bel.any)) hD ?_
 refine zT 1 rfl (Qi rfl) hD ?_
 refine zT 3 rfl (Qe rfl zen (fun hg=>by exact hE.bel.any)) hD ?_
 refine zT 4 rfl (Qi rfl) hD ?_
 refine zT 8 rfl (Qi rfl) hD ?_
 refine qd 2 rfl ?_
 refine Qz (cap:=[Zc brow,Zc bloc,Zc bcst,Zc bcla,Zc bbel]) (vs:=[_]) rfl rfl zeu (by exact .nil) (ih _ hIc _ ok1 hp2) rfl rfl ?_
 rintro vv2 I2 L2 hI2 ⟨rfl,ra,ma,rfl,hMa,hRa⟩
 have hE:=hE.mono hI2;have hIc:=hIc.trans hI2;have hD:=hD.trans hI2
 refine Qb ?_
 refine zD hD ?_
 refine qd 5 rfl ?_
 refine Qz (cap:=[Zc brow,Zc bloc,Zc bcst,Zc bcla,Zc bbel]) (vs:=[_]) rfl rfl zeu (by exact .nil) (ih _ hIc _ ok2 (by omega)) rfl rfl ?_
 rintro vv3 I3 L3 hI3 ⟨rfl,rb,mb,rfl,hMb,hRb⟩
 have hE:=hE.mono hI3;have hMa:=hMa.mono hI3;have hIc:=hIc.trans hI3;have hD:=hD.trans hI3
 refine Qb ?_
 refine zD hD ?_
 refine qd 6 rfl ?_
 refine Qq (ps:=[(0,_),(1,_)]) (m:=[[.map (some ra)],[.map (some rb)]]) zrg rfl (.cons rfl (.cons rfl (.nil))) rfl (by simp) (by decide) (by decide) rfl rfl (fun b_61=>?_)
 refine Qb ?_
 refine zD hD ?_
 refine zT 7 rfl (Zr rfl zhW) hD ?_
 refine QF (by kernel_rfl) ?_
 refine QO ?_
 refine Qa (Qm ?_)
 refine zU [(3,_),(8,_),(61,_),(62,_)] (fun T L0 mz E I' loc'=>∃ (j:Nat) (m:List (Int×Int)),mz=2-j∧E=(63,.int .i64 j)::T∧HLe I3 I'∧[(b_61,.cells (([[Value.map (some ra)],[Value.map (some rb)]]:List (List Value)).flatten).toArray 171 (0,0)),(r_20,ZQ eiv eiv m)]=loc'∧j≤2∧US m (gF (Za rows l) (ZC rows xs l f (Qy xs s)) (ZC rows xs l f (s-Qy xs s)) j)) ?_ (h:=⟨0,[],rfl,rfl,zAh _,rfl,Nat.zero_le _,zz9⟩)
 rintro mz E J4 loc' ⟨j,m,rfl,rfl,hJ,rfl,hj,hm⟩
 have hE:=hE.mono hJ;have hMa:=hMa.mono hJ;have hMb:=hMb.mono hJ;have hIc:=hIc.trans hJ
 have hB2:=hJ
 refine zR (zC (zN (Ql ?_)))
 refine zI ?_ ?_<;>intro hc64
 ·
  have hlt_j:j<2:=by have h:=hc64;simp at h;omega
  obtain ⟨rj,mj,bj,hrj,hMj,hRj,hbj⟩:∃ rj mj bj,(if j=0 then ra else rb)=rj∧ImO J4 rj (ZQ eiv eiv mj)∧zd3 (Za rows l) (if j=0 then (ZC rows xs l f (Qy xs s)) else (ZC rows xs l f (s-Qy xs s))) bj mj∧bj≤1000:=by
   rcases (show j=0∨j=1 by omega) with e | e
   ·
    subst e;exact ⟨ra,ma,8*(Qy xs s-1),rfl,hMa,hRa,by omega⟩
   subst e;exact ⟨rb,mb,8*(s-Qy xs s-1),rfl,hMb,hRb,by omega⟩
  have hmjl:=hRj.small
  refine Qn (Qa (Ql (Qm (zR ?_))))
  refine zV (Q6 rfl rfl zhW (fun hg=>by omega)) ?_
  refine zV (Qe rfl zbB (fun hg=>by exact zmj hrj hlt_j)) ?_
  refine zA ?_
  refine zN (zR ?_)
  refine zV (Qe rfl zbB (fun hg=>by exact hE.cst.any)) ?_
  refine JU (ek:=eiv) (ev:=eiv) (m:=(stM rows l)) rfl Vv rfl rfl (.inl hE.mp) (fun b_68=>?_)
  refine zN (Qm ?_)
  refine zU [(3,_),(8,_),(15,_),(61,_),(62,_),(63,_),(68,_)] (fun T L0 mz E I' loc'=>∃ (seen:List Nat) (m2:List (Int×Int)),mz=(stM rows l).length-seen.length∧E=T∧HLe J4 I'∧[(b_68,YT rm (stM rows l).length seen),(b_61,.cells (([[Value.map (some ra)],[Value.map (some rb)]]:List (List Value)).flatten).toArray 171 (0,0)),(r_20,ZQ eiv eiv m2)]=loc'∧US m2 (hF rows l (ZC rows xs l f (Qy xs s)) (ZC rows xs l f (s-Qy xs s)) j seen)∧seen.Nodup∧∀ i∈seen,i<(stM rows l).length) ?_ (h:=⟨[],m,rfl,rfl,zAh _,rfl,zz3 hm,.nil,fun i h=>by cases h⟩)
  rintro mz E J5 loc' ⟨seen,m2,rfl,rfl,hJ,rfl,hm2,hnd4,hlt4⟩
  have hE:=hE.mono hJ;have hMj:=hMj.mono hJ;have hB2:=hB2.trans hJ
  have hB4:=hJ
  refine zR ?_
  refine JT (ek:=eiv) (ev:=eiv) (m:=(stM rows l)) (fun s'=>[(b_68,YT rm (stM rows l).length s'),(b_61,.cells (([[Value.map (some ra)],[Value.map (some rb)]]:List (List Value)).flatten).toArray 171 (0,0)),(r_20,ZQ eiv eiv m2)]) rfl (fun s'=>.here) rfl rfl rfl rfl rfl (.inl hE.mp) (by simp) ?_
  intro t tv s' hno hyes
  refine zN (Ql ?_)
  refine zI ?_ ?_<;>intro hc70
  ·
   obtain ⟨i,q,hq,hns,rfl⟩:=hyes hc70
   have hlk:=zys hm2 hq hns
   have htot:=zxd hRa hRb (by omega) (by omega) j q.1
   refine Qn (Qa (Qm (zR ?_)))
   refine zV (JV (ek:=eiv) (ev:=eiv) (m:=(stM rows l)) (p:=q) (seen:=seen) (i:=i) rfl (.inl hE.mp) (.inr (by simp)) hq) ?_
   refine zE ?_
   refine zA ?_
   refine zN (zR ?_)
   refine zA (zN (Ql (zR ?_)))
   refine zM ?_
   refine JU (ek:=eiv) (ev:=eiv) (m:=mj) rfl Vv rfl rfl (.inl hMj) (fun b_74=>?_)
   refine zN (Qm ?_)
   refine zU [(3,_),(8,_),(15,_),(16,_),(61,_),(62,_),(63,_),(68,_),(74,_)] (fun T L0 mz E I' loc'=>∃ (seen6:List Nat) (v6:Value) (q6:Nat) (L:Go.Kn.Loc),mz=mj.length-seen6.length∧E=(17,v6)::T∧J5=I'∧L++[(b_74,YT rj mj.length seen6),(b_68,YT rm (stM rows l).length (seen++[i])),(b_61,.cells (([[Value.map (some ra)],[Value.map (some rb)]]:List (List Value)).flatten).toArray 171 (0,0)),(r_20,ZQ eiv eiv m2)]=loc'∧OwnS 3 1 v6 q6 (((zkL mj seen6).map fun p=>p.2+Vu q.1 p.1).flatMap QQ) L∧q6=seen6.length∧seen6.Nodup∧∀ i∈seen6,i<mj.length) ?_ (h:=⟨[],_,0,[],rfl,rfl,rfl,rfl,OwnS.nil,rfl,.nil,fun i h=>by cases h⟩)
   rintro mz E I' loc' ⟨seen6,v6,q6,L,rfl,rfl,rfl,rfl,hO6,hq6,hnd6,hlt6⟩
   have hsl6:=JI hnd6 hlt6
   refine zR ?_
   refine JT (ek:=eiv) (ev:=eiv) (m:=mj) (fun s'=>L++[(b_74,YT rj mj.length s'),(b_68,YT rm (stM rows l).length (seen++[i])),(b_61,.cells (([[Value.map (some ra)],[Value.map (some rb)]]:List (List Value)).flatten).toArray 171 (0,0)),(r_20,ZQ eiv eiv m2)]) rfl (fun s'=>QK .here) rfl rfl rfl rfl rfl (.inl hMj) (by simp) ?_
   intro t tv s' hno hyes
   refine zN (Ql ?_)
   refine zI ?_ ?_<;>intro hc76
   ·
    obtain ⟨i6,p6,hp6,hns6,rfl⟩:=hyes hc76
    have hb6:=(Ui hRj hbj (.refl _) q.1).2.2.2 p6 (List.mem_of_getElem? hp6)
    have hst6:=UC q.1 p6.1
    refine Qn (Qa (Qm (zR ?_)))
    refine zV (JV (ek:=eiv) (ev:=eiv) (m:=mj) (p:=p6) (seen:=seen6) (i:=i6) rfl (.inl hMj) (.inr (by simp)) hp6) ?_
    refine zE ?_
    refine zE ?_
    refine zA ?_
    refine zA (zN (Qg ?_))
    refine zM ?_
    refine zM ?_
    refine zM ?_
    refine zM ?_
    refine qc (vs:=[_,_]) rfl zru (zuB _ _ _) ?_
    refine zB ?_
    refine Qq (ps:=[(0,_)]) (m:=[QQ (p6.2+Vu q.1 p6.1)]) Zh rfl (.cons rfl (.nil)) rfl (by simp [Qv]) (by decide) (by decide) rfl rfl (fun b_86=>?_)
    refine QY (v:=_) (ys:=[(p6.2+Vu q.1 p6.1)].flatMap QQ) (L:=L) rfl rfl Zh hO6 (by repeat (first | exact .cons .here .nil | exact QD | exact Qx | apply QC | apply QB)) ⟨rfl,fun _=>rfl,zAf⟩ (Kk _) (by omega) rfl rfl ?_
    intro v9 L9 hO9 _;rw [←List.flatMap_append] at hO9
    refine zA (Qb (Qf ?_))
    have hs9:=Kj hnd6 hlt6 hns6 (List.getElem?_eq_some_iff.1 hp6).1
    exact zm (h:=⟨mj.length-(seen6++[i6]).length,by rw [List.length_append,List.length_singleton];have:=hs9.2.2;rw [List.length_append,List.length_singleton] at this;omega,seen6++[i6],v9,q6+1,L9,rfl,rfl,rfl,rfl,by rw [zck hp6,List.map_append];exact hO9,by rw [List.length_append,List.length_singleton];omega,hs9.1,hs9.2.1⟩)
   obtain ⟨rfl,hall6⟩:=hno hc76
   have hlen6:=(zad hnd6 hlt6 hall6).length_eq
   rw [List.length_range] at hlen6
   have hne6:=hRj.ne
   have hbe:=Ui hRj hbj (zeO hnd6 hlt6 hall6) q.1
   refine QI (Qh (Qh (Qk (Qa ?_))))
   refine Vr hO6 Qv (by decide) Qx (fun I7 hI7 af7 cf7 ef7 hLst=>?_)
   subst ef7
   have hB4:=hB4.trans hI7
   have hD:=zAh I7
   refine Jl ?_
   refine Z0 I7 [] mixed ?_
   refine zT 0 rfl (Qi rfl) hD ?_
   refine zT 1 rfl (Qi rfl) hD ?_
   refine zT 3 rfl (Qi rfl) hD ?_
   refine Zt 2 4 rfl rfl (by kernel_rfl) ?_ ?_
   ·
    refine zV (za6 (m:=m2) (a:=q.1) Vv ZG rfl rfl (fun _=>(by exact Mem.m3))) ?_
    refine Qb ?_
    refine zD hD ?_
    refine qd 4 rfl ?_
    refine qc (vs:=[_]) rfl zfa (zbQ hbe.1 hLst (by omega) (by omega)) ?_
    refine Qb ?_
    refine zD hD ?_
    refine zT 5 rfl (ZR rfl rfl rfl (fun hg=>by omega)) hD ?_
    refine qd 6 rfl ?_
    refine Q7 (m:=m2) (ek:=eiv) (ev:=eiv) (a:=q.1) ((ZE m2 q.1).getD 0+Yw (Za rows l) (if j=0 then (ZC rows xs l f (Qy xs s)) else (ZC rows xs l f (s-Qy xs s))) q.1) Vv ZG rfl rfl rfl rfl (by repeat (first | exact Upd.here | apply Upd.there | apply QK)) ?_
    refine Qb ?_
    refine zD hD ?_
    refine QF (by kernel_rfl) ?_
    refine QO ?_
    refine Qf ?_
    have hs9:=Kj hnd4 hlt4 hns (List.getElem?_eq_some_iff.1 hq).1
    rw [hlk,zgJ hlt_j]
    exact zm (h:=⟨(stM rows l).length-(seen++[i]).length,by rw [List.length_append,List.length_singleton];have:=hs9.2.2;rw [List.length_append,List.length_singleton] at this;omega,seen++[i],YA m2 q.1 (zgV (Za rows l) (ZC rows xs l f (Qy xs s)) (ZC rows xs l f (s-Qy xs s)) (j+1) q.1),rfl,rfl,hB4,rfl,zn1 hm2 hq,hs9.1,hs9.2.1⟩)
   refine qc (vs:=[_]) rfl zfa (zbQ hbe.1 hLst (by omega) (by omega)) ?_
   refine Qb ?_
   refine zD hD ?_
   refine qd 2 rfl ?_
   refine zV (za6 (m:=m2) (a:=q.1) Vv ZG rfl rfl (fun _=>(by exact Mem.m3))) ?_
   refine Qb ?_
   refine zD hD ?_
   refine zT 5 rfl (ZR rfl rfl rfl (fun hg=>by omega)) hD ?_
   refine qd 6 rfl ?_
   refine Q7 (m:=m2) (ek:=eiv) (ev:=eiv) (a:=q.1) ((ZE m2 q.1).getD 0+Yw (Za rows l) (if j=0 then (ZC rows xs l f (Qy xs s)) else (ZC rows xs l f (s-Qy xs s))) q.1) Vv ZG rfl rfl rfl rfl (by repeat (first | exact Upd.here | apply Upd.there | apply QK)) ?_
   refine Qb ?_
   refine zD hD ?_
   refine QF (by kernel_rfl) ?_
   refine QO ?_
   refine Qf ?_
   have hs9:=Kj hnd4 hlt4 hns (List.getElem?_eq_some_iff.1 hq).1
   rw [hlk,zgJ hlt_j]
   exact zm (h:=⟨(stM rows l).length-(seen++[i]).length,by rw [List.length_append,List.length_singleton];have:=hs9.2.2;rw [List.length_append,List.length_singleton] at this;omega,seen++[i],YA m2 q.1 (zgV (Za rows l) (ZC rows xs l f (Qy xs s)) (ZC rows xs l f (s-Qy xs s)) (j+1) q.1),rfl,rfl,hB4,rfl,zn1 hm2 hq,hs9.1,hs9.2.1⟩)
  obtain ⟨rfl,hall⟩:=hno hc70
  refine QI (Qh (Qh (Qk (Qf (Qa (Qg (zB ?_)))))))
  refine zM (Qb ?_)
  exact zm (h:=⟨2-(j+1),by omega,j+1,m2,rfl,rfl,hB2,rfl,by omega,zuz hm2 hnd4 hlt4 hall⟩)
 have hge_j:2≤j:=by have h:=hc64;simp at h;omega
 have hj2:j=2:=by omega
 subst hj2
 refine QI (Qh (Qh (Qk (Qa (zR (zM ?_))))))
 refine zA (zN (Qt ?_))
 first
 | exact Zx rfl rfl (fun w hw=>by obtain ⟨I9,h91,h92,h93⟩:=hw.freezeAll;exact ⟨_,I9,[],rfl,hIc.trans h91,h92,rfl,r_20,m,rfl,h93 _ _ (by simp),by rw [zau hz];exact zqY (List.ne_nil_of_length_pos zgq) hRa hRb (by omega) (by omega) (by omega) hm⟩)
end
section
open Go Go.Kn Go.Proofs
theorem zs3:Fun Tryz.prog 199:=.of Tryz.func199 (by kernel_rfl) (by kernel_rfl)
theorem zpO:SzT Tryz.prog 171 1:=.of (by kernel_rfl)
theorem zqo:SzT Tryz.prog 274 1:=.of (by kernel_rfl)
theorem ztP:Yu Tryz.prog 171 (.map none):=.of (by kernel_rfl)
theorem zvm:Yu Tryz.prog 274 .nilFunc:=.of (by kernel_rfl)
theorem zcW {brow bloc bcst bcla bbel rm:Nat}{av bv:Option Addr}{n c n2 c2:Nat}{xs:List Int}{rows:List (List Int)}{l:Nat}(hn:n≤100000)(hn2:n2≤100000)(hl:∀ r∈rows,l<r.length)(hc:Jg rows.length xs=0):∀ (f:Nat) (I:Qu),PrE I 233 brow bloc bcst bcla bbel rm av bv n c n2 c2 xs rows l→∀ (s:Int),OkS rows.length xs s→s.toNat≤f→Yf Tryz.prog 233 ([.int .i64 s]++[Zc brow,Zc bloc,Zc bcst,Zc bcla,Zc bbel]) I [] (zxH (Za rows l) (ZC rows xs l f s) (8*(s-1)))
 | 0,_,_,s,hok,hf=>by have:=hok.1;omega
 | f+1,I,hE,s,hok,hf=>zmE hE hn hn2 hl hc f s hok fun I' hI s' hok' hlt=>zcW hn hn2 hl hc f I' (hE.mono hI) s' hok' (by have:=hok'.1;have:=hok.1;omega)
theorem zhX {I:Qu}{brow bloc bcst bcla bbel rm:Nat}{av bv:Option Addr}{n c n2 c2:Nat}{xs:List Int}{rows:List (List Int)}{l:Nat}(hE:PrE I 233 brow bloc bcst bcla bbel rm av bv n c n2 c2 xs rows l)(hn:n≤100000)(hn2:n2≤100000)(hl:∀ r∈rows,l<r.length)(hc:Jg rows.length xs=0):Yf Tryz.prog 233 ([.int .i64 (IntKind.i64.wrap (1*2^(min (n2:Int).toNat IntKind.i64.bits))-1)]++[Zc brow,Zc bloc,Zc bcst,Zc bcla,Zc bbel]) I [] (zxH (Za rows l) (ZC rows xs l 64 (Vs rows.length)) (8*(Vs rows.length-1))):=by
 have hlV:=hE.hV.len
 subst hlV
 exact zcW hn hn2 hl hc 64 I hE (Vs rows.length) (ziJ hc) (by have:=(zbj (n:=(rows.length:Int)) ⟨(ZV hc).1,(ZV hc).2.1⟩).2;omega)
theorem zsO {I:Qu}{av:Option Addr}{n c:Nat}{xs:List Int}(hS:Sl I 1 QQ av n c xs)(hn:n≤100000){bv:Option Addr}{n2 c2:Nat}{rows:List (List Int)}(hV:SlN I bv n2 c2 rows)(hn2:n2≤100000){l:Nat}(hDb:VT I)(hl:∀ r∈rows,l<r.length)(hl64:l≤64)(hc:Jg rows.length xs=0):Zy Tryz.prog 199 [.slice bv n2 c2,.slice av n c,.int .i64 l] I (.int .i64 (Yo (ZC rows xs l 64 (Vs rows.length)))):=by
 intro g H w hw
 refine qe Tryz.func199 Tryz.ntmps199 hw ?_
 have hIc:=zAh I
 obtain ⟨hs,hV⟩:=hV
 have hH:=hV.1
 have hlV:=hV.len
 have hal:=(ZV hc).1
 have hal6:=(ZV hc).2.1
 have hsl:=zoq (rows:=rows) (l:=l)
 have hsh:=zgv (n:=(n2:Int)) ⟨by omega,by omega⟩
 refine zR ?_
 refine Q2 rfl rfl rfl (fun b_3=>?_)
 refine Q2 rfl rfl rfl (fun b_4=>?_)
 refine Q2 rfl rfl rfl (fun b_5=>?_)
 refine zA ?_
 refine zN (zR ?_)
 refine ZL rfl rfl (fun r_14=>?_)
 refine WC (m:=[]) (ek:=eiv) (ev:=eiv) (a:=0) 0 Vv ZG rfl rfl rfl rfl (by repeat (first | exact Upd.here | apply Upd.there | apply QK)) ?_
 refine zM ?_
 refine Qs ztP rfl rfl (fun b_7=>?_)
 refine zS zpO ?_
 refine zN (Ql (zR ?_))
 refine zL KH ?_
 refine zQ Zp ?_
 refine zM (zN (Qm ?_))
 refine zU [(3,_),(4,_),(5,_),(7,_),(16,_),(17,_)] (fun T L0 mz E I' loc'=>∃ (k:Nat),mz=n2-k∧E=(18,.int .i64 k)::T∧I=I'∧[(b_7,.cells #[.map (some r_14)] 171 (0,0)),(r_14,ZQ eiv eiv (stM (rows.take k) l)),(b_5,.cells #[.int .i64 l] 3 (0,0)),(b_4,.cells #[.slice av n c] 23 (0,0)),(b_3,.cells #[.slice bv n2 c2] 22 (0,0))]=loc'∧k≤n2) ?_ (h:=⟨0,rfl,rfl,rfl,rfl,Nat.zero_le _⟩)
 rintro mz E I' loc' ⟨k,rfl,rfl,rfl,rfl,hk⟩
 refine zR (zC (zN (Ql ?_)))
 refine zI ?_ ?_<;>intro hc19
 ·
  have hlt_k:k<n2:=by have h:=hc19;simp at h;omega
  obtain ⟨x,v,hx,hv,hQ⟩:=hV.at hlt_k
  have hlv:=hl v (List.mem_of_getElem? hv)
  have hu:=Q4 (d:=0) rfl hlv
  have hvn:=hQ.len
  refine Qn (Qa (Ql (Qm (zR ?_))))
  refine zV (zX Zp hH) ?_
  refine zV (Qe rfl QJ (fun hg=>by exact zAa hH hx rfl)) ?_
  refine zA ?_
  refine zN (zR ?_)
  refine zM ?_
  refine zL Qr ?_
  refine zV (zX Qw hQ) ?_
  refine zV (Qe rfl Qr (fun hg=>by exact zAa hQ hu rfl)) ?_
  refine zC (zN ?_)
  refine zI ?_ ?_<;>intro hc26
  ·
   have hne:v.getD l 0≠8589934592:=by simpa using hc26
   have hD:=zAh I
   refine Jl ?_
   refine Z0 I [(b_7,.cells #[.map (some r_14)] 171 (0,0)),(b_5,.cells #[.int .i64 l] 3 (0,0)),(b_4,.cells #[.slice av n c] 23 (0,0)),(b_3,.cells #[.slice bv n2 c2] 22 (0,0))] mixed ?_
   refine zT 0 rfl (Qe rfl zbB (fun hg=>by exact QT.h0 rfl)) hD ?_
   refine zT 1 rfl (Qi rfl) hD ?_
   refine zT 2 rfl (Qe rfl Qr (fun hg=>by exact QT.h1 rfl)) hD ?_
   refine zT 3 rfl (zX Qw hQ) hD ?_
   refine zT 4 rfl (Qe rfl Qr (fun hg=>by exact zAa hQ hu rfl)) hD ?_
   refine qd 5 rfl ?_
   refine Q7 (m:=stM (rows.take k) l) (ek:=eiv) (ev:=eiv) (a:=v.getD l 0) 0 Vv ZG rfl rfl rfl rfl (by repeat (first | exact Upd.here | apply Upd.there | apply QK)) ?_
   refine Qb ?_
   refine zD hD ?_
   refine QF (by kernel_rfl) ?_
   refine QO ?_
   rw [zsm hv hne]
   refine Qf (Qa (Qg (zB ?_)))
   refine zM (Qb ?_)
   exact zm (h:=⟨n2-(k+1),by omega,k+1,rfl,rfl,rfl,rfl,by omega⟩)
  have heq:v.getD l 0=8589934592:=by simpa using hc26
  rw [zmb hv heq]
  refine Qn (Qf (Qa (Qg (zB ?_))))
  refine zM (Qb ?_)
  exact zm (h:=⟨n2-(k+1),by omega,k+1,rfl,rfl,rfl,rfl,by omega⟩)
 have hge_k:n2≤k:=by have h:=hc19;simp at h;omega
 rw [List.take_of_length_le (show rows.length≤k by omega)]
 refine QI (Qh (Qh (Qk (Qa (zR ?_)))))
 refine Qs zvm rfl rfl (fun b_10=>?_)
 refine zN (zR ?_)
 refine zV (Zd (us:=[]) (vs:=[_,_,_,_,_]) rfl rfl) ?_
 refine zS zqo ?_
 refine zN (zR ?_)
 refine zA (zN (Ql (Ql ?_)))
 refine VJ (fun I2 hI2 hall=>?_)
 have hS:=hS.mono hI2;have hV:=hV.mono hI2;have hDb:=hDb.mono hI2;have hIc:=hIc.trans hI2
 have hE:PrE I2 233 b_3 b_5 b_7 b_4 b_10 r_14 av bv n c n2 c2 xs rows l:=⟨.imm (hall _ _ (by repeat (first | exact List.mem_cons_self .. | apply List.mem_cons_of_mem))) rfl,.imm (hall _ _ (by repeat (first | exact List.mem_cons_self .. | apply List.mem_cons_of_mem))) rfl,.imm (hall _ _ (by repeat (first | exact List.mem_cons_self .. | apply List.mem_cons_of_mem))) rfl,.imm (hall _ _ (by repeat (first | exact List.mem_cons_self .. | apply List.mem_cons_of_mem))) rfl,.imm (hall _ _ (by repeat (first | exact List.mem_cons_self .. | apply List.mem_cons_of_mem))) rfl,hall _ _ (by repeat (first | exact List.mem_cons_self .. | apply List.mem_cons_of_mem)),hDb,hS,⟨hs,hV⟩⟩
 have hD:=zAh I2
 refine K4 mixed ?_
 refine zT 0 rfl (Qe rfl zen (fun hg=>by exact hE.bel.any)) hD ?_
 refine zT 1 rfl (Qe rfl KH (fun hg=>by exact hE.row.any)) hD ?_
 refine zT 2 rfl (Zr rfl Zp) hD ?_
 refine zT 3 rfl (zaa rfl rfl (fun hg=>by omega)) hD ?_
 refine zT 4 rfl (ZR rfl rfl rfl (fun hg=>by omega)) hD ?_
 refine qd 5 rfl ?_
 refine Qz (cap:=[Zc b_3,Zc b_5,Zc b_7,Zc b_4,Zc b_10]) (vs:=[_]) rfl rfl zeu (by exact .nil) (zhX hE hn hn2 hl hc) rfl rfl ?_
 rintro vv3 I3 L3 hI3 ⟨rfl,rm2,m,rfl,hM2,hR2⟩
 have hIc:=hIc.trans hI3;have hD:=hD.trans hI3
 have hml:=hR2.small
 have hmp:=hR2.ne
 refine Qb ?_
 refine zD hD ?_
 refine qd 6 rfl ?_
 refine JU (ek:=eiv) (ev:=eiv) (m:=m) rfl Vv rfl rfl (.inl hM2) (fun b_40=>?_)
 refine Qb ?_
 refine zD hD ?_
 refine QF (by kernel_rfl) ?_
 refine QO ?_
 refine Qa (Qm ?_)
 refine zU [(40,_)] (fun T L0 mz E I' loc'=>∃ (seen:List Nat) (v6:Value) (q6:Nat) (L:Go.Kn.Loc),mz=m.length-seen.length∧E=(11,v6)::T∧I3=I'∧L++[(b_40,YT rm2 m.length seen)]=loc'∧OwnS 3 1 v6 q6 (((zkL m seen).map (·.2)).flatMap QQ) L∧q6=seen.length∧seen.Nodup∧∀ i∈seen,i<m.length) ?_ (h:=⟨[],_,0,[],rfl,rfl,rfl,rfl,OwnS.nil,rfl,.nil,fun i h=>by cases h⟩)
 rintro mz E I' loc' ⟨seen,v6,q6,L,rfl,rfl,rfl,rfl,hO6,hq6,hnd,hlt⟩
 have hsl6:=JI hnd hlt
 refine zR ?_
 refine JT (ek:=eiv) (ev:=eiv) (m:=m) (fun s'=>L++[(b_40,YT rm2 m.length s')]) rfl (fun s'=>QK .here) rfl rfl rfl rfl rfl (.inl hM2) (by simp) ?_
 intro t tv s' hno hyes
 refine zN (Ql ?_)
 refine zI ?_ ?_<;>intro hc42
 ·
  obtain ⟨i,q,hq,hns,rfl⟩:=hyes hc42
  refine Qn (Qa (Qm (zR ?_)))
  refine zV (JV (ek:=eiv) (ev:=eiv) (m:=m) (p:=q) (seen:=seen) (i:=i) rfl (.inl hM2) (.inr (by simp)) hq) ?_
  refine zE ?_
  refine zA (zN (Qg ?_))
  refine zM ?_
  refine zM ?_
  refine Qq (ps:=[(0,_)]) (m:=[QQ q.2]) Zh rfl (.cons rfl (.nil)) rfl (by simp [Qv]) (by decide) (by decide) rfl rfl (fun b_47=>?_)
  refine QY (v:=_) (ys:=[q.2].flatMap QQ) (L:=L) rfl rfl Zh hO6 (by repeat (first | exact .cons .here .nil | exact QD | exact Qx | apply QC | apply QB)) ⟨rfl,fun _=>rfl,zAf⟩ (Kk _) (by omega) rfl rfl ?_
  intro v9 L9 hO9 _;rw [←List.flatMap_append] at hO9
  refine zA (Qb (Qf ?_))
  have hs9:=Kj hnd hlt hns (List.getElem?_eq_some_iff.1 hq).1
  exact zm (h:=⟨m.length-(seen++[i]).length,by rw [List.length_append,List.length_singleton];have:=hs9.2.2;rw [List.length_append,List.length_singleton] at this;omega,seen++[i],v9,q6+1,L9,rfl,rfl,rfl,rfl,by rw [zck hq,List.map_append];exact hO9,by rw [List.length_append,List.length_singleton];omega,hs9.1,hs9.2.1⟩)
 obtain ⟨rfl,hall2⟩:=hno hc42
 have hlen6:=(zad hnd hlt hall2).length_eq
 rw [List.length_range] at hlen6
 refine QI (Qh (Qh (Qk (Qa (Ql ?_)))))
 refine Vr hO6 Qv (by decide) Qx (fun I5 hI5 af5 cf5 ef5 hLst=>?_)
 subst ef5
 have hIc:=hIc.trans hI5
 refine Qg (zM ?_)
 refine qc (vs:=[_]) rfl zfa (zbQ (zhS hR2 (zeO hnd hlt hall2)) hLst (by omega) (by omega)) ?_
 refine zA (zN (Qt ?_))
 exact zp hIc rfl rfl (by rfl)
theorem zu2 {I:Qu}{av:Option Addr}{n c:Nat}{xs:List Int}(hS:Sl I 1 QQ av n c xs)(hn:n≤100000){bv:Option Addr}{n2 c2:Nat}{rows:List (List Int)}(hV:SlN I bv n2 c2 rows)(hn2:n2≤100000)(hDb:VT I)(hr:V5 rows=0)(hc:Jg rows.length xs=0):Zy Tryz.prog 152 [.slice bv n2 c2,.slice av n c] I (.int .i64 (zk9 rows xs)):=by
 intro g H w hw
 refine qe Tryz.func152 Tryz.ntmps152 hw ?_
 obtain ⟨hs,hV⟩:=hV
 have hH:=hV.1
 have hlV:=hV.len
 obtain ⟨hr1,hr6,hr64,hrr⟩:=KU hr
 obtain ⟨x0,v0,hx0,hv0,hQ0⟩:=hV.at (show 0<n2 by omega)
 have hw0:=hQ0.len
 have hg0:=QU (d:=([]:List Int)) hv0
 have hv64:v0.length≤64:=by rw [←hg0];exact hr64
 refine zR (zA (zN (Ql (zR ?_))))
 refine zM ?_
 refine zV (zX Zp hH) ?_
 refine zV (Qe rfl QJ (fun hg=>by exact zAa (k:=0) hH hx0 rfl)) ?_
 refine zQ Qw ?_
 refine zM (zN (Qm ?_))
 refine zU [(0,_),(1,_),(9,_)] (fun T L0 mz E I' loc'=>∃ (k:Nat) (sm:Int),mz=v0.length-k∧E=(4,.int .i64 sm)::(10,.int .i64 k)::T∧I=I'∧[]=loc'∧k≤v0.length∧sm=zdU rows xs k∧0≤sm∧sm≤k*1099511627776) ?_ (h:=⟨0,_,rfl,rfl,rfl,rfl,Nat.zero_le _,rfl,Int.le_refl _,(show (0:Int)≤((0:Nat):Int)*1099511627776 by decide)⟩)
 rintro mz E I' loc' ⟨k,sm,rfl,rfl,rfl,rfl,hk,hsm,hs1,hs2⟩
 refine zR (zC (zN (Ql ?_)))
 refine zI ?_ ?_<;>intro hc11
 ·
  have hlt_k:k<v0.length:=by have h:=hc11;simp at h;omega
  refine Qn (Qa (Ql (Qm (zR (zM ?_)))))
  refine zA (zN (Qg ?_))
  refine zM ?_
  refine zM ?_
  refine zM ?_
  refine zM ?_
  refine qc (vs:=[_,_,_]) rfl zs3 (zsO (l:=k) hS hn ⟨hs,hV⟩ hn2 hDb (fun r hm=>by rw [(hrr r hm).1,hg0];omega) (by omega) hc) ?_
  refine zV (ZR rfl rfl rfl (fun _=>by (have hmi:0≤Yo (ZC rows xs k 64 (Vs rows.length))∧Yo (ZC rows xs k 64 (Vs rows.length))≤1099511627776:=zea (cs:=(ZC rows xs k 64 (Vs rows.length))) (Wp _ _) (by rw [X9];exact zgq) (ZC rows xs k 64 (Vs rows.length)).length;omega))) ?_
  refine zA (Qb (Qf (Qa (Qg ?_))))
  refine zB ?_
  refine zM (Qb ?_)
  exact zm (h:=⟨v0.length-(k+1),by omega,k+1,_,rfl,rfl,rfl,rfl,by omega,by rw [zhq,hsm],by have hmi:0≤Yo (ZC rows xs k 64 (Vs rows.length))∧Yo (ZC rows xs k 64 (Vs rows.length))≤1099511627776:=zea (cs:=(ZC rows xs k 64 (Vs rows.length))) (Wp _ _) (by rw [X9];exact zgq) (ZC rows xs k 64 (Vs rows.length)).length;omega,by have hmi:0≤Yo (ZC rows xs k 64 (Vs rows.length))∧Yo (ZC rows xs k 64 (Vs rows.length))≤1099511627776:=zea (cs:=(ZC rows xs k 64 (Vs rows.length))) (Wp _ _) (by rw [X9];exact zgq) (ZC rows xs k 64 (Vs rows.length)).length;omega⟩)
 have hge_k:k=v0.length:=by have h:=hc11;simp at h;omega
 refine QI (Qh (Qh (Qk (Qa (zR (zM ?_))))))
 refine zA (zN (Qt ?_))
 first
 | exact zr rfl rfl (by rw [hsm,hge_k,←hg0];rfl)
end
end Go.Proofs.YtodakphagkommaaGreatDoor
