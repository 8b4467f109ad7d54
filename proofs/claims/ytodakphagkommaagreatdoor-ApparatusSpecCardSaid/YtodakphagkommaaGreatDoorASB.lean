/- apparatusSpec_holds, part B of the proof: what its theorems say holds without further conditions. -/
import Derived.Laws.MakeOwn
import Derived.Sort.Row
import Derived.Sort.Grow
import Derived.Test.YtodakphagkommaaGreatDoorProg
import Derived.KernelRfl
import Derived.Lib.Hide
import Derived.Test.YtodakphagkommaaGreatDoorASA
namespace Go.Kn
section
open Go
def JO (a b:Int):Int:=IntKind.i64.wrap ((BitVec.ofInt 64 a&&& BitVec.ofInt 64 b).toNat:Int)
def orI (a b:Int):Int:=IntKind.i64.wrap ((BitVec.ofInt 64 a||| BitVec.ofInt 64 b).toNat:Int)
def zd0 (a b:Int):Int:=IntKind.i64.wrap ((BitVec.ofInt 64 a&&& ~~~(BitVec.ofInt 64 b)).toNat:Int)
section
variable {C:Cx} {Q:Exit→Act→World→Prop} {E E':Env} {I I':Qw} {loc loc' L R:Loc} {ops:Array Oper} {rest:List Oper} {S:GS}
variable {dst:Option Tmp} {d:Nat} {ty:TypeId} {pos:String} {af:Array Edge} {gd:Option (Nat×Bool)} {x y z:Operand} {a b:Int}
theorem Kj {t t':TypeId}(hx:QE S E x=some (.int .i64 a))(hy:QE S E y=some (.int .i64 b)):QZ C S E I loc ⟨dst,.binOp .and t x y t',ty,pos,af,gd⟩ (.int .i64 (JO a b)):=
 .of (by intro c e;cases e) fun ac w ha hg hc _=>by
  simp only [execOp,Qn ha hg hc hx,Qn ha hg hc hy,Sem.run_bind,ZG,Result.andThen,binOp,ne_eq,not_true_eq_false,if_false,Op.intBits,Sem.run_pure,JO,IntKind.bits];rfl
theorem zzd {t t':TypeId}(hx:QE S E x=some (.int .i64 a))(hy:QE S E y=some (.int .i64 b)):QZ C S E I loc ⟨dst,.binOp .or t x y t',ty,pos,af,gd⟩ (.int .i64 (orI a b)):=
 .of (by intro c e;cases e) fun ac w ha hg hc _=>by
  simp only [execOp,Qn ha hg hc hx,Qn ha hg hc hy,Sem.run_bind,ZG,Result.andThen,binOp,ne_eq,not_true_eq_false,if_false,Op.intBits,Sem.run_pure,orI,IntKind.bits];rfl
theorem zdF {t t':TypeId}(hx:QE S E x=some (.int .i64 a))(hy:QE S E y=some (.int .i64 b)):QZ C S E I loc ⟨dst,.binOp .andNot t x y t',ty,pos,af,gd⟩ (.int .i64 (zd0 a b)):=
 .of (by intro c e;cases e) fun ac w ha hg hc _=>by
  simp only [execOp,Qn ha hg hc hx,Qn ha hg hc hy,Sem.run_bind,ZG,Result.andThen,binOp,ne_eq,not_true_eq_false,if_false,Op.intBits,Sem.run_pure,zd0,IntKind.bits];rfl
theorem K6 {t t':TypeId}{k k':IntKind}(hx:QE S E x=some (.int k a))(hy:QE S E y=some (.int k' b))(h0:ZV S=true→0≤b):QZ C S E I loc ⟨dst,.binOp .shl t x y t',ty,pos,af,gd⟩ (.int k (k.wrap (a*2^(min b.toNat k.bits)))):=
 .of (by intro c e;cases e) fun ac w ha hg hc _=>by
  have:=h0 hc
  simp only [execOp,Qn ha hg hc hx,Qn ha hg hc hy,Sem.run_bind,ZG,Result.andThen,binOp,Op.shift,if_neg (show ¬b<0 by omega),Sem.run_pure]
theorem zgE {t:TypeId}(hx:QE S E x=some (.int .i64 a)):QZ C S E I loc ⟨dst,.unOp .neg t x,ty,pos,af,gd⟩ (.int .i64 (IntKind.i64.wrap (0-a))):=
 .of (by intro c e;cases e) fun ac w ha hg hc _=>by
  simp only [execOp,Qn ha hg hc hx];rfl
def JQ (a b:Int):Int:=if b<a then b else a
def zsm (a b:Int):Int:=if b>a then b else a
theorem zdm {k:IntKind}{ats:Array TypeId}(hx:QE S E x=some (.int k a))(hy:QE S E y=some (.int k b)):QZ C S E I loc ⟨dst,.call ⟨.builtin .min, #[x,y],ats⟩,ty,pos,af,gd⟩ (.int k (JQ a b)):=
 .of (by intro c e;cases e) fun ac w ha hg hc hw=>by
  simp only [execOp,resolve,List.map_toArray,List.map_cons,List.map_nil,Qn ha hg hc hx,Qn ha hg hc hy,Sem.run_bind,Sem.run_pure,Result.andThen,invoke,builtin];rfl
theorem Vd {k:IntKind}{ats:Array TypeId}(hx:QE S E x=some (.int k a))(hy:QE S E y=some (.int k b)):QZ C S E I loc ⟨dst,.call ⟨.builtin .max, #[x,y],ats⟩,ty,pos,af,gd⟩ (.int k (zsm a b)):=
 .of (by intro c e;cases e) fun ac w ha hg hc hw=>by
  simp only [execOp,resolve,List.map_toArray,List.map_cons,List.map_nil,Qn ha hg hc hx,Qn ha hg hc hy,Sem.run_bind,Sem.run_pure,Result.andThen,invoke,builtin];rfl
theorem Kr {t e n size:Nat}{k:IntKind}{cs:List Value}{i:Int}{v:Value}(hx:QE S E x=some (.agg cs.toArray))(hy:QE S E y=some (.int k i))(hT:ArT C.P t n e size)(hS:ScT C.P e)(hb:ZV S=true→0≤i∧i<(n:Int))(hv:ZV S=true→cs[i.toNat*size]? =some v):
  QZ C S E I loc ⟨dst,.index t x y,ty,pos,af,gd⟩ v:=
 .of (by intro c e;cases e) fun ac w ha hg hc _=>by
  obtain ⟨h1,j,h2,h3⟩:=hT
  have h4:cs.toArray[i.toNat*size]? =some v:=by simpa using hv hc
  simp only [execOp,Qn ha hg hc hx,Qn ha hg hc hy,Instr.index,asIntOf,Sem.run_bind,Sem.run_pure,run_underlying h1,Result.andThen,if_pos (hb hc),run_sizeOf h2,h3,part,Yr hS,Bool.false_eq_true,if_false,h4]
theorem zhI {t e n size:Nat}{k:IntKind}{cs:List Value}{i:Int}(hx:QE S E x=some (.agg cs.toArray))(hy:QE S E y=some (.int k i))(hT:ArT C.P t n e size)(hA:AgT C.P e size)(hb:ZV S=true→0≤i∧i<(n:Int)):
  QZ C S E I loc ⟨dst,.index t x y,ty,pos,af,gd⟩ (.agg ((cs.drop (i.toNat*size)).take size).toArray):=
 .of (by intro c e;cases e) fun ac w ha hg hc _=>by
  obtain ⟨h1,j,h2,h3⟩:=hT
  have h5:cs.toArray.extract (i.toNat*size) (i.toNat*size+size)=((cs.drop (i.toNat*size)).take size).toArray:=by simp
  simp only [execOp,Qn ha hg hc hx,Qn ha hg hc hy,Instr.index,asIntOf,Sem.run_bind,Sem.run_pure,run_underlying h1,Result.andThen,if_pos (hb hc),run_sizeOf h2,h3,part,Ve hA,if_true,h5]
end
section
variable {P:Program} {fn:Func} {R:Ending→World→Prop} {N:Nat} {g:World} {I H:Qw} {loc:Loc} {E:Env} {r:Option Nat}
theorem KG {t tt n b:Nat}{vs:List Value}(hr:fn.results= #[.cell t tt])(hv:V3 E t=some (.pointer (some ⟨b,0,none⟩)))(hA:AgT P tt n)(hc:Cells I loc b 0 vs)(hn:vs.length=n)(h:∀ w,St g I H loc w→R (.returned (.agg vs.toArray)) w):
  At ⟨P,r,N,[],g,H⟩ (bodyPost P fn R) .ret E I loc:=fun a w ha hw=>
 ⟨ha.defers,.agg vs.toArray,by
  have e1:=ha.env _ _ hv
  rw [Array.getD_eq_getD_getElem?] at e1
  have h1:(loadCells ⟨b,0,none⟩ n).run P w= .ok vs.toArray w:=by
   rw [←hn]
   exact run_loadCells_list w _ _ fun j v hj=>by rw [Yx];exact (hc j v hj).get hw
  have hA':=hA
  obtain ⟨_,i,h2,h3⟩:=hA'
  have l1:(loadVar tt ⟨b,0,none⟩).run P w= .ok (.agg vs.toArray) w:=by
   simp only [loadVar,Sem.run_bind,Sem.run_pure,Ve hA,Result.andThen,if_true,run_sizeOf h2,h3,h1]
  simp only [results,hr]
  simp [List.mapM_cons,e1,asAddr,l1],h w hw⟩
end
end
section
open Go
theorem Wb {P:Program}{w:World}{dd:Nat}{f:Field}{fs:List Field}{cx cy:Array Value}{u v:Value}{c r:Bool}(hn:f.name≠ "_")(h1:(part f.type cx f.offset).run P w= .ok u w)(h2:(part f.type cy f.offset).run P w= .ok v w)
  (hc:(Op.equalIn dd f.type u v).run P w= .ok c w)(hr:(Op.eqFields dd cx cy fs).run P w= .ok r w):(Op.eqFields dd cx cy (f::fs)).run P w= .ok (c&&r) w:=by
 simp only [Op.eqFields,if_pos hn,Sem.run_bind,h1,h2,hc,Result.andThen,Sem.run_ite]
 cases c with
 | false=>simp
 | true=>simpa using hr
def zhr (P:Program):List Field→Nat→Option (List EqK)
 | [],_=>some []
 | f::fs,k=>if f.name≠ "_" ∧f.offset=k then
   match zar P f.type with
   | some q=>(zhr P fs (k+1)).map (q:: ·)
   | none=>match P.underlying f.type with
    | some (.struct gs)=>if P.stoodInHeld f.type=false then
      match zal P gs.toList 0,P.info? f.type with
      | some l,some i=>if i.size=l.length then (zhr P fs (k+l.length)).map (l++ ·) else none
      | _,_=>none
     else none
    | _=>none
  else none
def zzf (P:Program)(t:Nat)(ks:List EqK):Prop:=P.underlying t=some (.struct (P.fieldsOf t))∧P.stoodInHeld t=false∧P.eqGuardType P.depth t=false∧zhr P (P.fieldsOf t).toList 0=some ks
theorem XS:∀ {k1 k2:List EqK} {xs ys:List Value} {b:Bool},Ka (k1++k2) xs ys=some b→∃ u1 u2 v1 v2 b1 b2,xs=u1++u2∧ys=v1++v2∧u1.length=k1.length∧v1.length=k1.length∧Ka k1 u1 v1=some b1∧Ka k2 u2 v2=some b2∧b=(b1&&b2)
 | [],k2,xs,ys,b,h=>⟨[],xs,[],ys,true,b,rfl,rfl,rfl,rfl,rfl,h,by simp⟩
 | .int::k1,k2,xs,ys,b,h=>by
  match xs,ys,h with
  | .int k a::xs,.int k' c::ys,h=>
   simp only [List.cons_append,Ka] at h
   split at h
   ·
    rename_i hk
    cases hr:Ka (k1++k2) xs ys with
    | none=>rw [hr] at h;cases h
    | some r=>
     rw [hr] at h
     obtain ⟨u1,u2,v1,v2,b1,b2,rfl,rfl,h1,h2,h3,h4,rfl⟩:=XS hr
     refine ⟨.int k a::u1,u2,.int k' c::v1,v2,(a==c&&b1),b2,rfl,rfl,by simp [h1],by simp [h2],?_,h4,?_⟩
     ·
      simp only [Ka,if_pos hk,h3]
     ·
      simp only [Option.some.injEq] at h;rw [←h,Bool.and_assoc]
   ·
    cases h
 | .str::k1,k2,xs,ys,b,h=>by
  match xs,ys,h with
  | .string a::xs,.string c::ys,h=>
   simp only [List.cons_append,Ka] at h
   cases hr:Ka (k1++k2) xs ys with
   | none=>rw [hr] at h;cases h
   | some r=>
    rw [hr] at h
    obtain ⟨u1,u2,v1,v2,b1,b2,rfl,rfl,h1,h2,h3,h4,rfl⟩:=XS hr
    refine ⟨.string a::u1,u2,.string c::v1,v2,(zvn a c&&b1),b2,rfl,rfl,by simp [h1],by simp [h2],?_,h4,?_⟩
    ·
     simp only [Ka,h3]
    ·
     simp only [Option.some.injEq] at h;rw [←h,Bool.and_assoc]
 | .bool::k1,k2,xs,ys,b,h=>by
  match xs,ys,h with
  | .bool a::xs,.bool c::ys,h=>
   simp only [List.cons_append,Ka] at h
   cases hr:Ka (k1++k2) xs ys with
   | none=>rw [hr] at h;cases h
   | some r=>
    rw [hr] at h
    obtain ⟨u1,u2,v1,v2,b1,b2,rfl,rfl,h1,h2,h3,h4,rfl⟩:=XS hr
    refine ⟨.bool a::u1,u2,.bool c::v1,v2,(a==c&&b1),b2,rfl,rfl,by simp [h1],by simp [h2],?_,h4,?_⟩
    ·
     simp only [Ka,h3]
    ·
     simp only [Option.some.injEq] at h;rw [←h,Bool.and_assoc]
theorem X9 {P:Program}{w:World}{t:TypeId}{cs:Array Value}{off:Nat}{v:Value}(h:ScT P t)(hv:cs[off]? =some v):(part t cs off).run P w= .ok v w:=by
 simp only [part,Sem.run_bind,Yr h,Result.andThen,Bool.false_eq_true,if_false,hv,Sem.run_pure]
theorem zaz {P:Program}{w:World}{t:TypeId}{cs:Array Value}{off n:Nat}(h:AgT P t n):(part t cs off).run P w= .ok (.agg (cs.extract off (off+n))) w:=by
 obtain ⟨i,hi,hs⟩:=h.2
 simp only [part,Sem.run_bind,Ve h,Result.andThen,if_true,run_sizeOf hi,hs,Sem.run_pure]
theorem X1 (a b c:List Value)(n m:Nat)(hn:a.length=n)(hm:b.length=m):(a++(b++c)).toArray.extract n (n+m)=b.toArray:=by
 subst hn;subst hm
 apply Array.ext'
 simp
theorem zh2 {P:Program}{w:World}{dd:Nat}{t:TypeId}{q:EqK}(hk:zar P t=some q){ks:List EqK}{xs ys:List Value}{b:Bool}(he:Ka (q::ks) xs ys=some b):
  ∃ u v us vs c r,xs=u::us∧ys=v::vs∧ScT P t∧(Op.equalIn (dd+1) t u v).run P w= .ok c w∧Ka ks us vs=some r∧b=(c&&r):=by
 unfold zar at hk
 cases hu:P.underlying t with
 | none=>rw [hu] at hk;cases hk
 | some td=>
  rw [hu] at hk
  cases td<;>simp only [Option.some.injEq,reduceCtorEq] at hk
  case int kk=>
   subst hk
   match xs,ys,he with
   | .int k a::xs,.int k' c::ys,he=>
    simp only [Ka] at he
    split at he
    ·
     rename_i hkk
     subst hkk
     cases hr:Ka ks xs ys with
     | none=>rw [hr] at he;cases he
     | some r=>
      rw [hr] at he
      simp only [Option.some.injEq] at he
      exact ⟨_,_,xs,ys,(a==c),r,rfl,rfl,⟨_,hu,trivial⟩,run_equalIn_int w dd t k kk a c hu,hr,he.symm⟩
    ·
     cases he
  case string=>
   subst hk
   match xs,ys,he with
   | .string a::xs,.string c::ys,he=>
    simp only [Ka] at he
    cases hr:Ka ks xs ys with
    | none=>rw [hr] at he;cases he
    | some r=>
     rw [hr] at he
     simp only [Option.some.injEq] at he
     exact ⟨_,_,xs,ys,_,r,rfl,rfl,⟨_,hu,trivial⟩,run_equalIn_string w dd t a c hu,hr,he.symm⟩
  case bool=>
   subst hk
   match xs,ys,he with
   | .bool a::xs,.bool c::ys,he=>
    simp only [Ka] at he
    cases hr:Ka ks xs ys with
    | none=>rw [hr] at he;cases he
    | some r=>
     rw [hr] at he
     simp only [Option.some.injEq] at he
     exact ⟨_,_,xs,ys,(a==c),r,rfl,rfl,⟨_,hu,trivial⟩,run_equalIn_bool' w dd t a c hu,hr,he.symm⟩
theorem Ji {P:Program}{w:World}(dd:Nat):∀ (fs:List Field) (ks:List EqK) (k:Nat) (pre xs pre' ys:List Value) (b:Bool),zhr P fs k=some ks→pre.length=k→pre'.length=k→Ka ks xs ys=some b→
  (Op.eqFields (dd+2) (pre++xs).toArray (pre'++ys).toArray fs).run P w= .ok b w
 | [],ks,k,pre,xs,pre',ys,b,hf,_,_,he=>by
  simp only [zhr,Option.some.injEq] at hf
  subst hf
  cases xs<;>cases ys<;>simp only [Ka] at he<;>first | (cases he;rfl) | cases he
 | f::fs,ks,k,pre,xs,pre',ys,b,hf,hp,hp',he=>by
  simp only [zhr] at hf
  split at hf
  ·
   rename_i hn
   cases hk:zar P f.type with
   | some q=>
    rw [hk] at hf
    simp only [Option.map_eq_some_iff] at hf
    obtain ⟨l,hl,rfl⟩:=hf
    obtain ⟨u,v,us,vs,c,r,rfl,rfl,hs,hc,hr,rfl⟩:=zh2 (w:=w) (dd:=dd+1) hk he
    refine Wb hn.1 (X9 hs (by rw [hn.2,←hp];simp)) (X9 hs (by rw [hn.2,←hp'];simp)) hc ?_
    have:=Ji (P:=P) (w:=w) dd fs l (k+1) (pre++[u]) us (pre'++[v]) vs r hl (by simp [hp]) (by simp [hp']) hr
    simpa using this
   | none=>
    rw [hk] at hf
    simp only at hf
    cases hu:P.underlying f.type with
    | none=>rw [hu] at hf;cases hf
    | some td=>
     rw [hu] at hf
     cases td<;>simp only [reduceCtorEq] at hf
     rename_i gs
     split at hf
     ·
      rename_i hst
      cases hfl:zal P gs.toList 0 with
      | none=>rw [hfl] at hf;simp at hf
      | some l2=>
       cases hin:P.info? f.type with
       | none=>rw [hfl,hin] at hf;simp at hf
       | some i=>
        rw [hfl,hin] at hf
        simp only at hf
        split at hf
        ·
         rename_i hsz
         simp only [Option.map_eq_some_iff] at hf
         obtain ⟨l,hl,rfl⟩:=hf
         obtain ⟨u1,u2,v1,v2,b1,b2,rfl,rfl,hu1,hv1,h1,h2,rfl⟩:=XS he
         have hag:AgT P f.type l2.length:=⟨⟨_,hu,trivial⟩,i,hin,hsz⟩
         have hfo:P.fieldsOf f.type=gs:=by unfold Program.fieldsOf;rw [hu]
         refine Wb (u:=.agg u1.toArray) (v:=.agg v1.toArray) hn.1 ?_ ?_ ?_ ?_
         ·
          rw [zaz hag,hn.2,X1 pre u1 u2 k l2.length hp hu1]
         ·
          rw [zaz hag,hn.2,X1 pre' v1 v2 k l2.length hp' hv1]
         ·
          rw [run_equalIn_struct w (dd+1) f.type _ _ (by rw [hfo];exact hu) hst,hfo]
          have:=Xg (P:=P) (w:=w) dd gs.toList l2 0 [] u1 [] v1 b1 hfl rfl rfl h1
          simpa using this
         ·
          have:=Ji (P:=P) (w:=w) dd fs l (k+l2.length) (pre++u1) u2 (pre'++v1) v2 b2 hl (by simp [hp,hu1]) (by simp [hp',hv1]) h2
          simpa [List.append_assoc] using this
        ·
         cases hf
     ·
      cases hf
  ·
   cases hf
variable {C:Cx} {Q:Exit→Act→World→Prop} {E E':Env} {I I':Qw} {loc loc' L R:Loc} {ops:Array Oper} {rest:List Oper} {S:GS}
variable {dst:Option Tmp} {d:Nat} {ty:TypeId} {pos:String} {af:Array Edge} {gd:Option (Nat×Bool)} {x y z:Operand}
theorem zek {t t':TypeId}{ks:List EqK}{us vs:List Value}{b:Bool}(hx:QE S E x=some (.agg us.toArray))(hy:QE S E y=some (.agg vs.toArray))(hT:zzf C.P t ks)(h:Ka ks us vs=some b):QZ C S E I loc ⟨dst,.binOp .eql t x y t',ty,pos,af,gd⟩ (.bool b):=
 .of (by intro c e;cases e) fun a w ha hg hc _=>by
  have:=Ji (P:=C.P) (w:=w) 9997 _ _ 0 [] us [] vs b hT.2.2.2 rfl rfl h
  simp only [List.nil_append] at this
  simp only [execOp,Qn ha hg hc hx,Qn ha hg hc hy,Sem.run_bind,run_eqGuard_agg w _ _ _ _ _ _ hT.2.2.1,Result.andThen,run_eql_struct,run_equalIn_struct w 9999 t _ _ hT.1 hT.2.1,this,Sem.run_pure]
theorem zik {t t':TypeId}{ks:List EqK}{us vs:List Value}{b:Bool}(hx:QE S E x=some (.agg us.toArray))(hy:QE S E y=some (.agg vs.toArray))(hT:zzf C.P t ks)(h:Ka ks us vs=some b):QZ C S E I loc ⟨dst,.binOp .neq t x y t',ty,pos,af,gd⟩ (.bool (!b)):=
 .of (by intro c e;cases e) fun a w ha hg hc _=>by
  have:=Ji (P:=C.P) (w:=w) 9997 _ _ 0 [] us [] vs b hT.2.2.2 rfl rfl h
  simp only [List.nil_append] at this
  simp only [execOp,Qn ha hg hc hx,Qn ha hg hc hy,Sem.run_bind,run_eqGuard_agg w _ _ _ _ _ _ hT.2.2.1,Result.andThen,run_neq_struct,run_equalIn_struct w 9999 t _ _ hT.1 hT.2.1,this,Sem.run_pure]
end
section
open Go
def mk (ms:List Nat):List Deferred:=ms.map fun b=>{target:=.collected b,args:= #[]}
def MB:List Nat→Loc
 | []=>[]
 | b::ms=>MB ms++[(b,.deferred (some []))]
def zt3 (C:Cx)(M:List Nat→Env→Qw→Loc→Prop):Act→World→Prop:=fun a w=>∃ ms E I loc,M ms E I loc∧Kz C.N (mk ms) E a∧St C.g I C.H loc w
section
variable {P:Program} {r:Option Nat} {N:Nat} {g:World} {H:Qw} {Q:Exit→Act→World→Prop} {E E':Env} {I I':Qw} {loc loc' L R:Loc} {ms:List Nat}
theorem zoy {x y:Code}(T:Env)(_hT:Sub T E)(M:Env→Loc→List Nat→Env→Qw→Loc→Prop)(h1:X ⟨P,r,N,mk ms,g,H⟩ (Exit.then (zt3 ⟨P,r,N,[],g,H⟩ (M T loc)) Q) x E I loc)
  (h2:∀ ms E I loc',M T loc ms E I loc'→X ⟨P,r,N,mk ms,g,H⟩ Q y E I loc'):X ⟨P,r,N,mk ms,g,H⟩ Q (.seq x y) E I loc:=fun a w ha hw=>
 wpIn_seq (wpIn_mono (h1 a w ha hw) fun e a' w' hq=>by
  cases e with
  | normal=>obtain ⟨ms',E',I',loc',hM,hf,hs⟩:=hq;exact h2 ms' E' I' loc' hM _ _ hf hs
  | _=>exact hq)
theorem zcD {M:List Nat→Env→Qw→Loc→Prop}{C':Cx}(hN:C'.N=N)(hg:C'.g=g)(hH:C'.H=H)(E':Env)(loc':Loc)(hM:M ms E' I loc')(hE:Sub E' E)(hs:KF loc' loc):At ⟨P,r,N,mk ms,g,H⟩ (Exit.then (zt3 C' M) Q) .normal E I loc:=
 fun _ _ ha hw=>⟨ms,E',I,loc',hM,by rw [hN];exact ha.sub hE,by rw [hg,hH];exact hw.dropTo hs⟩
theorem zn {M:List Nat→Env→Qw→Loc→Prop}{C':Cx}{E':Env}{loc':Loc}(hN:C'.N=N:=by exact rfl)(hg:C'.g=g:=by exact rfl)(hH:C'.H=H:=by exact rfl)(hE:Sub E' E:=by repeat (first | exact .nil | refine .cons rfl ?_))(h:M ms E' I loc')(hs:KF loc' loc:=by repeat (first | exact .refl | refine .keep ?_ | refine .drop ?_)):At ⟨P,r,N,mk ms,g,H⟩ (Exit.then (zt3 C' M) Q) .normal E I loc:=zcD hN hg hH E' loc' h hE hs
theorem zd {M:List Nat→Env→Qw→Loc→Prop}{C':Cx}{E':Env}{loc':Loc}(hN:C'.N=N:=by exact rfl)(hg:C'.g=g:=by exact rfl)(hH:C'.H=H:=by exact rfl)(hE:Sub E' E:=by repeat (first | exact .nil | refine .cons rfl ?_))(h:M ms E' I loc')(hs:KF loc' loc:=by repeat (first | exact .refl | exact Zg | refine Yu ?_ | refine .drop ?_ | refine Ya ?_)):At ⟨P,r,N,mk ms,g,H⟩ (Exit.then (zt3 C' M) Q) .normal E I loc:=zcD hN hg hH E' loc' h hE hs
theorem zm7 {M:List Nat→Env→Qw→Loc→Prop}{C':Cx}(hN:C'.N=N)(hg:C'.g=g)(hH:C'.H=H)(E':Env)(loc' l:Loc)(hM:M ms E' I loc')(hE:Sub E' E)(hp:loc'.Perm l)(hs:KF l loc):At ⟨P,r,N,mk ms,g,H⟩ (Exit.then (zt3 C' M) Q) .normal E I loc:=
 fun _ _ ha hw=>⟨ms,E',I,loc',hM,by rw [hN];exact ha.sub hE,by
  rw [hg,hH]
  have h1:=hw.dropTo hs
  exact h1.perm (fun p=>hp.mem_iff) ((hp.map (·.1)).nodup_iff.2 h1.nodup)⟩
theorem UF {c:Code}(T:Env)(_hT:Sub T E)(J:Env→Loc→Nat→List Nat→Env→Qw→Loc→Prop)(m0:Nat)(E0:Env)(I0:Qw)(loc0:Loc)(h0:J T loc m0 ms E0 I0 loc0)(hE:Sub E0 E)(hI:HLe I0 I)(hl:loc0=loc)
  (round:∀ m ms E I loc',J T loc m ms E I loc'→X ⟨P,r,N,mk ms,g,H⟩ (Exit.then (zt3 ⟨P,r,N,[],g,H⟩ fun ms E I loc'=>∃ m',m'<m∧J T loc m' ms E I loc') Q) c E I loc'):X ⟨P,r,N,mk ms,g,H⟩ Q (.loop c) E I loc:=by
 classical
 intro a w ha hw
 let R:Nat→Act→World→Prop:=fun m a w=>∃ ms E I loc',J T loc m ms E I loc'∧Kz N (mk ms) E a∧St g I H loc' w
 have least:∀ a w,(∃ m,R m a w)→∃ m,R m a w∧∀ m',R m' a w→m≤m':=fun a w ⟨m,h⟩=>by
  induction m using Nat.strongRecOn with
  | _ m ih=>
   by_cases h':∃ m',m'<m∧R m' a w
   ·
    obtain ⟨m',hlt,hm⟩:=h';exact ih m' hlt hm
   ·
    exact ⟨m,h,fun m' hm=>Nat.le_of_not_lt fun hlt=>h' ⟨m',hlt,hm⟩⟩
 let μ:Act→World→Nat:=fun a w=>if h:∃ m,R m a w then Classical.choose (least a w h) else 0
 have hμ:∀ a w,(∃ m,R m a w)→R (μ a w) a w:=fun a w h=>by simp only [μ,dif_pos h];exact (Classical.choose_spec (least a w h)).1
 have hle:∀ m a w,R m a w→μ a w≤m:=fun m a w h=>by
  have h':∃ m,R m a w:=⟨m,h⟩
  simp only [μ,dif_pos h'];exact (Classical.choose_spec (least a w h')).2 m h
 refine wpIn_loop (fun a w=>∃ m,R m a w) μ ⟨m0,ms,E0,I0,loc0,h0,ha.sub hE,hl ▸ hw.mono hI⟩ fun a w h=>?_
 obtain ⟨ms1,E1,I1,loc1,hJ,hf,hs⟩:=hμ a w h
 refine wpIn_mono (round _ _ _ _ _ hJ a w hf hs) fun e a' w' hq=>?_
 cases e with
 | normal=>
  obtain ⟨ms2,E2,I2,loc2,⟨m',hlt,hJ'⟩,hf',hs'⟩:=hq
  exact ⟨⟨m',ms2,E2,I2,loc2,hJ',hf',hs'⟩,Nat.lt_of_le_of_lt (hle m' a' w' ⟨ms2,E2,I2,loc2,hJ',hf',hs'⟩) hlt⟩
 | _=>exact hq
theorem Xh {α:Type}{gop:Operand}{p:Nat}{assign body:Code}{f:FuncId}{cap:List Value}{K:Loc}{enc:α→Value}{xs:List α}
  (Jc:List α→Qw→Loc→Prop)(Jx:Code→List α→Qw→Loc→Prop)(Ja:List α→α→Env→Qw→Loc→Prop)
  (hg:QE [] E gop=some (.func (.func f) #[] cap.toArray))(hF:Fun P f)(hseq:zzv P f cap I K enc xs)(hp:Nat.blt p N=true)(h0:Jc [] I L)
  (hass:∀ l pre x I' loc' H1,pre++[x]<+:xs→HLe I I'→Jc pre I' loc'→X ⟨P,some l,N,[],g,H1⟩ (Exit.then (Met ⟨P,some l,N,[],g,H1⟩ fun E2 I2 loc2=>HLe I' I2∧Ja pre x E2 I2 loc2) (fun _ _ _=>False)) assign ((p,enc x)::E) I' loc')
  (hbody:∀ l pre x E2 I2 loc2 H2,pre++[x]<+:xs→HLe I I2→Ja pre x E2 I2 loc2→X ⟨P,some l,N,[],g,H2⟩ (za3 g H2 (fun q I3 loc3=>HLe I2 I3∧Jc q I3 loc3) (fun c q I3 loc3=>HLe I2 I3∧Jx c q I3 loc3) (pre++[x])) body E2 I2 loc2)
  (hdone:∀ bd I' loc',HLe I I'→Jc xs I' loc'→At ⟨P,none,N,mk (bd::ms),g,H⟩ Q .normal E I' (loc'++MB (bd::ms)))
  (hstop:∀ c bd pre I' loc',HLe I I'→pre<+:xs→Jx c pre I' loc'→X ⟨P,none,N,mk (bd::ms),g,H⟩ Q c E I' (loc'++MB (bd::ms))):
  X ⟨P,none,N,mk ms,g,H⟩ Q (.rangeFunc gop #[p] assign body) E I (K++(L++MB ms)):=by
 intro a w ha hw
 have back:∀ {I':Qw} {loc':Loc} {bd:Nat} {w':World},St g I' (VE H (MB ms)) (loc'++[(bd,.deferred (some []))]) w'→St g I' H (loc'++MB (bd::ms)) w':=fun {I' loc' bd w'} h=>by
  have h1:=St.unhide ((hw.rest Qy).rest Qy) h
  refine h1.perm (fun p=>?_) ?_
  ·
   simp only [MB,List.mem_append]
   constructor
   ·
    rintro (h | h | h)
    ·
     exact .inl (.inl h)
    ·
     exact .inr h
    ·
     exact .inl (.inr h)
   ·
    rintro ((h | h) | h)
    ·
     exact .inl h
    ·
     exact .inr (.inr h)
    ·
     exact .inr (.inl h)
  ·
   have hn:=h1.nodup
   have hpm:(loc'++MB (bd::ms)).Perm (loc'++[(bd,.deferred (some []))]++MB ms):=by
    rw [List.append_assoc]
    exact (List.Perm.refl loc').append List.perm_append_comm
   exact (hpm.map (·.1)).nodup_iff.2 hn
 refine zdD (K:=K) (P:=P) (N:=N) (D:=mk ms) (g:=g) (H:=VE H (MB ms)) (Q:=Q) Jc Jx Ja hg hF hseq hp h0 hass hbody ?_ ?_ a w ha (show St g I (VE H (MB ms)) (K++L) w from (show St g I H ((K++L)++MB ms) w by rw [List.append_assoc];exact hw).hideR)
 ·
  intro bd I' loc' hI hJ a' w' ha' hw'
  exact hdone bd I' loc' hI hJ a' w' ha' (back hw')
 ·
  intro c bd pre I' loc' hI hpre hJ a' w' ha' hw'
  exact hstop c bd pre I' loc' hI hpre hJ a' w' ha' (back hw')
theorem Xl {fn:Func}{R:Ending→World→Prop}{tmps:Array Value}{v:Value}:∀ (ms:List Nat) {L:Loc} {w:World},St g I H (L++MB ms) w→(∀ w,St g I H L w→(results fn tmps).run P w= .ok v w∧R (.returned v) w)→
  LeavesInM Fence.wide 0 P fn tmps R (mk ms) .returning w
 | [],L,w,hw,h=>by
  have hw:St g I H L w:=by simpa [MB] using hw
  exact ⟨v,h w hw⟩
 | b::ms,L,w,hw,h=>by
  have hu:Upd (L++MB (b::ms)) b (.deferred (some [])) (.deferred none) (L++(MB ms++[(b,.deferred none)])):=QM (QM .here)
  have hb:=hw.own _ _ hu.mem
  have hs:=hw.putObj hu
  refine ⟨by simp,.inl ⟨b,_,rfl,run_takeDeferred hb,?_⟩⟩
  exact Xl ms (L:=L) (hs.subL (Yu Zg)) h
theorem Ud {fn:Func}{R:Ending→World→Prop}{v:Value}(hv:∀ a,Kz N (mk ms) E a→∀ w,St g I H L w→(results fn a.tmps).run P w= .ok v w)(h:∀ w,St g I H L w→R (.returned v) w):
  At ⟨P,r,N,mk ms,g,H⟩ (bodyPostM Fence.wide 0 P fn R) .ret E I (L++MB ms):=fun a w ha hw=>by
 show LeavesInM _ _ _ _ _ _ _ _ _
 rw [ha.defers]
 exact Xl ms hw fun w' hw'=>⟨hv a ha w' hw',h w' hw'⟩
theorem zeS {f:FuncId}{fn:Func}{c:Code}{args:List Value}{R:Ending→World→Prop}{w:World}(hf:P.funcs[f]? =some fn)(hb:fn.body=some c){N:Nat}(hN:fn.ntmps=N)
  (hlen:Nat.ble args.length N=true)(hw:St g I H loc w)(h:X ⟨P,none,N,mk [],g,H⟩ (bodyPostM Fence.wide 0 P fn R) c (zon 0 args) I (loc++MB [])):Calls P f args.toArray w R:=
 zwm hf hb hN hlen hw (by simpa [MB,mk] using h)
end
end
section
open Go
section
variable {g:World} {I I' H:Qw} {loc loc' L R:Loc} {w w':World}
theorem St.lend (h:St g I H L w):∃ I',HLe I I'∧(∀ b o,(b,o)∈L→I' b=some o)∧St g I' H [] w:=by
 obtain ⟨I',h1,h2,h3⟩:=h.freezeAll
 exact ⟨I',h1,h3,h2⟩
theorem St.unlend (h:St g I H L w)(h':St g I' H [] w')(hI:HLe I I')(hL:∀ b o,(b,o)∈L→I' b=some o):St g I H L w' where
 os:=h'.os
 tape:=h'.tape
 out:=h'.out
 size:=h'.size
 imm:=fun b o hb=>h'.imm b o (hI b o hb)
 frm:=h'.frm
 own:=fun b o hb=>h'.imm b o (hL b o hb)
 sepIH:=h.sepIH
 sepIL:=h.sepIL
 nodup:=h.nodup
theorem zlF.ofV {P:Program}{f:FuncId}{args:List Value}{v:Value}(h:∀ I',HLe I I'→(∀ b o,(b,o)∈L→I' b=some o)→Zu P f args I' v):zlF P f args I L v:=by
 intro g H w hw
 obtain ⟨I',h1,h2,h3⟩:=hw.lend
 refine (h I' h1 h2 g H w h3).mono ?_
 rintro e w' ⟨rfl,hs⟩
 exact ⟨rfl,hw.unlend hs h1 h2⟩
end
variable {C:Cx} {Q:Exit→Act→World→Prop} {E E':Env} {I I':Qw} {loc loc' L R:Loc} {ops:Array Oper} {rest:List Oper} {S:GS}
variable {dst:Option Tmp} {d:Nat} {ty:TypeId} {pos:String} {af:Array Edge} {gd:Option (Nat×Bool)} {x y z:Operand}
section maps
variable {α β:Type} [DecidableEq α] {ek:α→Value} {ev:β→Value} {m:List (α×β)} {a:α}
def zjN (m:List (α×β))(a:α):Nat:=((WG m a 0).map (·.1)).getD m.length
omit [DecidableEq α] in
theorem zcW:∀ (m:List (α×β)) (k i:Nat) (q:α×β),m[i]? =some q→((Q2 ek ev k m)[i]?).map (fun e=>(e.key,e.born))=some (ek q.1,k+i):=by
 intro m
 induction m with
 | nil=>intro k i q h;simp at h
 | cons p m ih=>
  intro k i q h
  cases i with
  | zero=>simp at h;subst h;simp [Q2]
  | succ i=>simp only [Q2,List.getElem?_cons_succ];rw [ih _ _ _ (by simpa using h)];simp;omega
theorem zhh {kv vv:Value}:∀ (l:List MapEntry) (i:Nat),(l[i]?).map (·.val)=some vv∨l[i]? =none→l.modify i (fun e=>{e with key:=kv})=l.modify i fun e=>{e with key:=kv,val:=vv}:=by
 intro l
 induction l with
 | nil=>intro i _;simp
 | cons e l ih=>
  intro i hv
  cases i with
  | zero=>simp at hv;simp [hv]
  | succ i=>simp only [List.modify_succ_cons];rw [ih i (by simpa using hv)]
omit [DecidableEq α] in
theorem zkh:∀ (m:List (α×β)) (k i:Nat) (q:α×β),m[i]? =some q→((Q2 ek ev k m)[i]?).map (·.val)=some (ev q.2):=by
 intro m
 induction m with
 | nil=>intro k i q h;simp at h
 | cons p m ih=>
  intro k i q h
  cases i with
  | zero=>simp at h;subst h;simp [Q2]
  | succ i=>simp only [Q2,List.getElem?_cons_succ];exact ih _ _ _ (by simpa using h)
theorem zsF:∀ (m:List (α×β)) (k j:Nat) (c:β),WG m a k=some (j,c)→k≤j:=by
 intro m
 induction m with
 | nil=>intro k j c h;cases h
 | cons p m ih=>
  intro k j c h
  unfold WG at h
  split at h
  ·
   simp at h;omega
  ·
   have:=ih _ _ _ h;omega
theorem znp:∀ (m:List (α×β)) (k i:Nat) (c:β) (q:α×β),WG m a k=some (k+i,c)→m[i]? =some q→q.2=c:=by
 intro m
 induction m with
 | nil=>intro k i c q h;cases h
 | cons p m ih=>
  intro k i c q h h'
  unfold WG at h
  split at h
  ·
   simp only [Option.some.injEq,Prod.mk.injEq] at h
   have:i=0:=by omega
   subst this
   simp at h';subst h';exact h.2
  ·
   cases i with
   | zero=>
    exfalso
    have:=zsF m _ _ _ h;omega
   | succ i=>
    refine ih (k+1) i c q ?_ (by simpa using h')
    rw [h];simp;omega
theorem Wl:∀ (m:List (α×β)) (a:α) (b:β),ZH m a=some b→YE m a b=m
 | [],_,_,h=>by cases h
 | p::m,a,b,h=>by
  unfold ZH at h
  unfold YE
  split
  ·
   rename_i e
   rw [if_pos e] at h
   cases h;subst e;rfl
  ·
   rename_i e
   rw [if_neg e] at h
   rw [Wl m a b h]
theorem zen {t k e r:Nat}{zv:Value}(zb:β)(hz:ev zb=zv)(hT:MpT C.P t k e zv)(hK:Jr C.P k ek)(hx:QE [] E x=some (.map (some r)))(hy:QE [] E y=some (ek a))(hG:gd=none)(hN:Nat.blt d C.N=true)
  (hu:Upd loc r (Z0 ek ev m) (Z0 ek ev (YE m a ((ZH m a).getD zb))) loc')(h:XO C Q ops rest [] ((d,.tuple #[ev ((ZH m a).getD zb),.int .i64 (zjN m a:Nat)])::E) I loc'):XO C Q ops (⟨some d,.mapEntry t x y,ty,pos,af,gd⟩::rest) [] E I loc:=
 Yh hG (by intro c e;cases e) fun a' w ha hw=>by
  have hm:=hw.own _ _ hu.mem
  have hf:=hK.find ev m a w
  have hs:=hw.putObj hu
  have hr:(Instr.mapEntry t (.map (some r)) (ek a)).run C.P w= .ok (.tuple #[ev ((ZH m a).getD zb),.int .i64 (zjN m a:Nat)]) (w.putObj r (Z0 ek ev (YE m a ((ZH m a).getD zb)))):=by
   simp only [Instr.mapEntry,Sem.run_bind,run_underlying hT.1,Result.andThen,Ye hm,hK.chk]
   rw [hf]
   cases hi:WG m a 0 with
   | none=>
    have hg0:ZH m a=none:=by rw [←Kg m a 0,hi];rfl
    have h1:=XH m a zb 0 hi
    simp only [Option.map_none,Sem.run_bind,Z2 hT.2,Result.andThen,hg0,Option.getD_none]
    rw [Y7 _ hm,h1]
    simp only [Sem.run_pure,zjN,hi,goInt]
    rw [←hz]
    congr 2
    simp [Z0,Xo]
   | some p=>
    obtain ⟨i,c⟩:=p
    have hg0:ZH m a=some c:=by rw [←Kg m a 0,hi];rfl
    obtain ⟨⟨q,h1,h2⟩,h3,h4⟩:=KL (ek:=ek) (ev:=ev) m a c 0 i c (by rw [hi];simp)
    have hkb:=zcW (ek:=ek) (ev:=ev) m 0 i q h1
    have hkey:(((Q2 ek ev 0 m).toArray[i]?).map (·.key)).getD (ek a)=ek a:=by
     simp only [List.getElem?_toArray]
     cases he:(Q2 ek ev 0 m)[i]? with
     | none=>rfl
     | some e=>rw [he] at hkb;simp at hkb;simp [hkb.1,h2]
    have hborn:(((Q2 ek ev 0 m).toArray[i]?).map (·.born)).getD 0=i:=by
     simp only [List.getElem?_toArray]
     cases he:(Q2 ek ev 0 m)[i]? with
     | none=>rw [he] at hkb;simp at hkb
     | some e=>rw [he] at hkb;simp at hkb;simp [hkb.2]
    simp only [Option.map_some,Sem.run_bind,hkey,Instr.keyThatStays,hK.bits,if_true,Sem.run_pure,Result.andThen,hg0,Option.getD_some,Wl m a c hg0]
    rw [Y7 _ hm]
    have hbornI:((((Q2 ek ev 0 m).toArray[i]?).map (fun e=>(e.born:Int))).getD 0)=(i:Int):=by
     simp only [List.getElem?_toArray] at hborn ⊢
     cases he:(Q2 ek ev 0 m)[i]? with
     | none=>rw [he] at hkb;simp at hkb
     | some e=>rw [he] at hkb;simp at hkb;simp [hkb.2]
    rw [Wl m a c hg0] at h4
    have hobj:((Q2 ek ev 0 m).toArray.modify i fun e=>{e with key:=ek a})=(Q2 ek ev 0 m).toArray:=by
     apply Array.ext'
     rw [Array.toList_modify]
     conv=>rhs;rw [h4]
     refine zhh _ i ?_
     left
     rw [zkh m 0 i q h1,znp m 0 i c q (by rw [hi];simp) h1]
    rw [hobj]
    simp only [zjN,hi,Option.map_some,Option.getD_some,goInt]
    first
     | rfl
     | (rw [hbornI];rfl)
     | (simp only [hborn];rfl)
  simp only [execOp,Qn (S:=[]) ha trivial rfl hx,Qn (S:=[]) ha trivial rfl hy,Sem.run_bind,hr,Result.andThen,Sem.run_pure,Oper.uponIn_value]
  exact h _ _ (ha.put hN _) trivial hs
omit [DecidableEq α] in
theorem zkX:∀ (m:List (α×β)) (k i:Nat),i<m.length→(Q2 ek ev k m).findIdx? (fun e=>(e.born:Int)==((k+i:Nat):Int))=some i:=by
 intro m
 induction m with
 | nil=>intro k i h;simp at h
 | cons p m ih=>
  intro k i h
  simp only [Q2,List.findIdx?_cons]
  cases i with
  | zero=>simp
  | succ i=>
   have hne:(((k:Nat):Int)==((k+(i+1):Nat):Int))=false:=by
    rw [beq_eq_false_iff_ne];omega
   rw [hne]
   have:=ih (k+1) i (by simpa using h)
   rw [show k+(i+1)=k+1+i by omega,this];rfl
theorem zhm {kv vv:Value}:∀ (l:List MapEntry) (i:Nat),(l[i]?).map (·.key)=some kv→l.modify i (fun e=>{e with val:=vv})=l.modify i fun e=>{e with key:=kv,val:=vv}:=by
 intro l
 induction l with
 | nil=>intro i _;simp
 | cons e l ih=>
  intro i hv
  cases i with
  | zero=>simp at hv;simp [hv]
  | succ i=>simp only [List.modify_succ_cons];rw [ih i (by simpa using hv)]
theorem zcg {t r:Nat}(b c:β)(hm0:ZH m a=some c)(hx:QE [] E x=some (.map (some r)))(hy:QE [] E y=some (.int .i64 (zjN m a:Nat)))(hz:QE [] E z=some (ev b))(hG:gd=none)
  (hu:Upd loc r (Z0 ek ev m) (Z0 ek ev (YE m a b)) loc')(h:XO C Q ops rest [] E I loc'):XO C Q ops (⟨none,.entryStore t x y z,ty,pos,af,gd⟩::rest) [] E I loc:=
 Yh hG (by intro c e;cases e) fun a' w ha hw=>by
  have hm:=hw.own _ _ hu.mem
  have hs:=hw.putObj hu
  have hr:(Instr.entryStore t (.map (some r)) (.int .i64 (zjN m a:Nat)) (ev b)).run C.P w= .ok () (w.putObj r (Z0 ek ev (YE m a b))):=by
   cases hi:WG m a 0 with
   | none=>rw [←Kg m a 0,hi] at hm0;cases hm0
   | some p=>
    obtain ⟨i,c'⟩:=p
    obtain ⟨⟨q,h1,h2⟩,h3,h4⟩:=KL (ek:=ek) (ev:=ev) m a b 0 i c' (by rw [hi];simp)
    have hil:i<m.length:=(List.getElem?_eq_some_iff.1 h1).1
    have hp:zjN m a=i:=by unfold zjN;rw [hi];rfl
    have hfi:=zkX (ek:=ek) (ev:=ev) m 0 i hil
    rw [Nat.zero_add] at hfi
    have hfa:(Q2 ek ev 0 m).toArray.findIdx? (fun e=>(e.born:Int)==((i:Nat):Int))=some i:=by
     rw [List.findIdx?_toArray];exact hfi
    have hkb:=zcW (ek:=ek) (ev:=ev) m 0 i q h1
    have hobj:((Q2 ek ev 0 m).toArray.modify i fun e=>{e with val:=ev b})=(Q2 ek ev 0 (YE m a b)).toArray:=by
     apply Array.ext'
     rw [Array.toList_modify]
     rw [h4]
     refine zhm _ i ?_
     cases he:(Q2 ek ev 0 m)[i]? with
     | none=>rw [he] at hkb;simp at hkb
     | some e=>rw [he] at hkb;simp at hkb;simp [hkb.1,h2]
    simp only [Instr.entryStore,Sem.run_bind,Ye hm,Result.andThen,asInt,asIntOf,hp,Sem.run_pure]
    rw [hfa]
    simp only []
    rw [Y7 _ hm,hobj]
    unfold Z0
    rw [h3]
  simp only [execOp,Qn (S:=[]) ha trivial rfl hx,Qn (S:=[]) ha trivial rfl hy,Qn (S:=[]) ha trivial rfl hz,Sem.run_bind,hr,Result.andThen,Sem.run_pure,Oper.uponIn_skip]
  exact h _ _ ha trivial hs
end maps
theorem zmE {zv:Value}(h1:zv.cells= #[zv])(n:Nat):madeCells zv.cells n=(List.replicate n zv).toArray:=by
 rw [h1]
 apply Array.ext'
 have:∀ x:Nat,[zv][x % 1]?.getD default=zv:=fun x=>by rw [Nat.mod_one];rfl
 simp [madeCells,this,List.map_const']
def MkT (P:Program)(t e bytes:Nat)(zv:Value):Prop:=P.underlying t=some (.slice e)∧(P.info? e).map (fun i=>(i.zero,i.size,i.bytes))=some (some zv,1,bytes)∧zv.cells= #[zv]
theorem Q4 {t e bytes:Nat}{zv:Value}{n:Int}(hT:MkT C.P t e bytes zv)(hx:QE [] E x=some (.int .i64 n))(hy:QE [] E y=some (.int .i64 n))(hn:0≤n∧n≤1000000)(hb:bytes≤1000)
  (hG:gd=none)(hN:Nat.blt d C.N=true)(h:∀ b,XO C Q ops rest [] ((d,.slice (some ⟨b,0,none⟩) n.toNat n.toNat)::E) I ((b,.cells (List.replicate n.toNat zv).toArray e (0,0))::loc)):
  XO C Q ops (⟨some d,.makeSlice t x y,ty,pos,af,gd⟩::rest) [] E I loc:=
 Yh hG (by intro c e;cases e) fun a w ha hw=>by
  obtain ⟨hu,hi,h1⟩:=hT
  rw [Option.map_eq_some_iff] at hi
  obtain ⟨i,hi,he⟩:=hi
  simp only [Prod.mk.injEq] at he
  obtain ⟨hz,hs,hbt⟩:=he
  have hr:=run_makeSlice (P:=C.P) (w:=w) t e i zv hu hi hz .i64 .i64 n n hn.1 (by omega) (by rw [hs];omega) (by rw [hbt];exact Int.le_trans (Int.mul_le_mul (by omega:(bytes:Int)≤1000) hn.2 hn.1 (by omega)) (by decide)) (by omega)
  rw [hs,Nat.mul_one,zmE h1] at hr
  simp only [execOp,Qn (S:=[]) ha trivial rfl hx,Qn (S:=[]) ha trivial rfl hy,Sem.run_bind,hr,Result.andThen,Sem.run_pure,Oper.uponIn_value]
  exact h _ _ _ (ha.put hN _) trivial (hw.alloc _)
/-! ### Arrays -/
def zjA (size:Nat):List Value→List (Nat×Value)→Option (List Value)
 | cells,[]=>some cells
 | cells,(i,v)::rest=>bif Nat.beq (Vf v).length size&&Nat.ble (i*size+(Vf v).length) cells.length then zjA size (Vk cells (i*size) (Vf v)) rest else none
theorem zfO (size:Nat):∀ (ps:List (Nat×Value)) (cells out:List Value),zjA size cells ps=some out→Instr.fill (fun i=>some (i*size,size)) cells.toArray ps=some out.toArray
 | [],cells,out,h=>by
  simp only [zjA,Option.some.injEq] at h
  subst h;rfl
 | (i,v)::ps,cells,out,h=>by
  simp only [zjA] at h
  cases hb:(Nat.beq (Vf v).length size&&Nat.ble (i*size+(Vf v).length) cells.length) with
  | false=>rw [hb] at h;cases h
  | true=>
   rw [hb] at h
   simp only [Bool.and_eq_true] at hb
   have h1:=Nat.eq_of_beq_eq_true hb.1
   have h2:=Nat.le_of_ble_eq_true hb.2
   have e:cells=cells.take (i*size)++(cells.drop (i*size)).take size++cells.drop (i*size+size):=by
    rw [List.append_assoc]
    have:(cells.drop (i*size)).take size++cells.drop (i*size+size)=cells.drop (i*size):=by rw [←List.drop_drop];exact List.take_append_drop _ _
    rw [this,List.take_append_drop]
   have hl1:(cells.take (i*size)).length=i*size:=by rw [List.length_take];omega
   have hl2:((cells.drop (i*size)).take size).length=size:=by rw [List.length_take,List.length_drop];omega
   have hsp:Vk cells (i*size) (Vf v)=cells.take (i*size)++Vf v++cells.drop (i*size+size):=by
    have:=Kq (cells.take (i*size)) ((cells.drop (i*size)).take size) (Vf v) (cells.drop (i*size+size)) (by rw [hl2];exact h1.symm)
    rw [←e,hl1] at this
    exact this
   have hfo:=zbN (place:=fun i=>some (i*size,size)) (i:=i) (off:=i*size) (size:=size) (v:=v) (vs:=Vf v) (pre:=cells.take (i*size)) (old:=(cells.drop (i*size)).take size) (tail:=cells.drop (i*size+size)) (l:=ps) rfl (zc9 v) h1 hl1 hl2
   rw [←e] at hfo
   rw [hfo,←hsp]
   exact zfO size ps _ out h
theorem ZC {t n e size:Nat}{zl:List Value}{parts:Array (Nat×Operand)}{ps:List (Nat×Value)}(cells:List Value)(hA:ArT C.P t n e size)(hz:Yz C.P t (.agg zl.toArray))(hp:parts.toList.map (fun p=>(QE S E p.2).map fun v=>(p.1,v))=ps.map some)(hf:zjA size zl ps=some cells):
  QZ C S E I loc ⟨dst,.build t parts,ty,pos,af,gd⟩ (.agg cells.toArray):=
 .of (by intro c e;cases e) fun a w ha hg hc hw=>by
  obtain ⟨hu,i,hi,hs⟩:=hA
  have key:∀ (l:List (Nat×Operand)) (ps:List (Nat×Value)),l.map (fun p=>(QE S E p.2).map fun v=>(p.1,v))=ps.map some→l.map (fun p=>(p.1,a.eval p.2))=ps:=by
   intro l
   induction l with
   | nil=>intro ps h;cases ps<;>simp_all
   | cons p l ih=>
    intro ps h
    cases ps with
    | nil=>simp at h
    | cons q ps=>
     simp only [List.map_cons,List.cons.injEq] at h ⊢
     refine ⟨?_,ih _ h.2⟩
     cases e1:QE S E p.2 with
     | none=>rw [e1] at h;simp at h
     | some v=>
      rw [e1] at h
      rw [Qn ha hg hc e1]
      simpa using h.1
  have hps:(parts.map fun (i,x)=>(i,a.eval x)).toList=ps:=by
   rw [←key _ _ hp];simp
  have hfe:=zfO size ps zl cells hf
  have hzc:(Value.agg zl.toArray).cells=zl.toArray:=rfl
  simp only [execOp,Instr.build,Sem.run_bind,Z2 hz,Result.andThen,run_underlying hu,run_sizeOf hi,hs,hps,hzc,hfe,Sem.run_pure]
theorem WE {P:Program}{w:World}{t k e d:Nat}{m:Option Nat}(hT:P.underlying t=some (.map k e)):(Op.equalIn (d+1) t (.map m) (.map none)).run P w= .ok m.isNone w:=by
 simp only [Op.equalIn,Sem.run_bind,run_underlying hT,Result.andThen]
 cases m<;>rfl
theorem zib {t t' k e:Nat}{m:Option Nat}(hx:QE S E x=some (.map m))(hy:QE S E y=some (.map none))(hT:C.P.underlying t=some (.map k e)):QZ C S E I loc ⟨dst,.binOp .eql t x y t',ty,pos,af,gd⟩ (.bool m.isNone):=
 .of (by intro c e;cases e) fun a w ha hg hc _=>by
  have e1:(eqGuard .eql t x y (.map m) (.map none)).run C.P w= .ok () w:=by unfold eqGuard;rfl
  have e2:(Op.equalIn 10000 t (.map m) (.map none)).run C.P w= .ok m.isNone w:=WE (d:=9999) hT
  simp only [execOp,Qn ha hg hc hx,Qn ha hg hc hy,Sem.run_bind,e1,Sem.run_pure,Result.andThen,binOp,Op.equal,Op.maxDepth,e2]
end
section
open Go Go.Sort
section
variable {g:World} {I I' H:Qw} {loc loc' L R:Loc} {w w':World}
theorem St.grown (h:St g I H loc w)(os:Array Obj):St g I H loc (grow w os):=by
 have key:∀ (b:Nat) (o:Obj),w.heap[b]? =some o→(grow w os).heap[b]? =some o:=fun b o e=>by
  have hb:b<w.heap.size:=(Array.getElem?_eq_some_iff.1 e).1
  simp only [grow]
  rw [Array.getElem?_append_left hb];exact e
 exact ⟨h.os,h.tape,h.out,⟨Nat.le_trans h.size.1 (by simp [grow]),h.size.2⟩,fun b o e=>key b o (h.imm b o e),fun b o e=>key b o (h.frm b o e),fun b o e=>key b o (h.own b o e),h.sepIH,h.sepIL,h.nodup⟩
theorem St.aheadN (h:St g I H loc w)(n:Nat):St g I H loc (Go.Sort.ahead w n):=⟨h.os,h.tape,h.out,⟨h.size.1,Nat.le_trans h.size.2 (by simp [Go.Sort.ahead])⟩,h.imm,h.frm,h.own,h.sepIH,h.sepIL,h.nodup⟩
theorem St.rowPut {α:Type}[Inhabited α]{enc:α→Value}{b:Nat}{cs:Array Value}{e:TypeId}{fz:Nat×Nat}(h:St g I H loc w)(d:Array α)(hu:Upd loc b (.cells cs e fz) (.cells (putCells enc 0 d cs) e fz) loc'):St g I H loc' (putRow enc w b 0 d):=by
 have hb:=h.own _ _ hu.mem
 refine h.turn hu rfl rfl rfl (by simp) ?_ ?_
 ·
  simp only [putRow,mapBlock,Array.getElem?_modify,hb,Option.map_some];rfl
 ·
  intro c hc
  simp only [putRow,mapBlock,Array.getElem?_modify,if_neg (Ne.symm hc)]
theorem zce {α:Type}[Inhabited α]{enc:α→Value}{cs:Array Value}{n:Nat}(xs:List α)(hl:xs.length=n)(hc:n≤cs.size):(putCells enc 0 xs.toArray cs).toList.take n=xs.map enc:=by
 apply List.ext_getElem?
 intro i
 by_cases hi:i<n
 ·
  rw [List.getElem?_take_of_lt hi,List.getElem?_map]
  have h1:i<cs.size:=by omega
  have h2:i<xs.length:=by omega
  have h3:(putCells enc 0 xs.toArray cs)[i]? =some (enc xs[i]):=by
   simp only [putCells,Array.getElem?_mapIdx,Array.getElem?_eq_getElem h1,Option.map_some]
   have:(0≤i∧i<0+xs.toArray.size):=by simp;omega
   rw [if_pos this]
   congr 2
   simp [h2]
  rw [Array.getElem?_toList,h3,List.getElem?_eq_getElem h2];rfl
 ·
  rw [List.getElem?_eq_none (by rw [List.length_take];omega),List.getElem?_eq_none (by rw [List.length_map];omega)]
theorem zaL {α:Type}[Inhabited α]{enc:α→Value}{b:Nat}{cs:Array Value}{e:TypeId}(h:St g I H loc w)(hm:(b,Obj.cells cs e (0,0))∈loc)(xs:List α)(hl:cs.toList.take xs.length=xs.map enc):Holds enc w b 0 xs.toArray:=by
 have hb:=h.own _ _ hm
 intro j hj
 have hj':j<xs.length:=by simpa using hj
 refine ⟨?_,?_⟩
 ·
  simp only [World.cell?,hb,Option.isSome_none,Bool.false_eq_true,if_false]
  have:(cs.toList.take xs.length)[j]? =some (enc xs[j]):=by rw [hl,List.getElem?_map,List.getElem?_eq_getElem hj'];rfl
  rw [List.getElem?_take_of_lt hj',Array.getElem?_toList] at this
  rw [show 0+j=j from by omega,this]
  congr 2
  simp [hj']
 ·
  simp only [World.frozen?,hb];simp
theorem zkj {P:Program}{f:FuncId}{e:TypeId}
  (hs:∀ (blk off cap:Nat) (zs:List Int) (w:World),Holds (Value.int .i64) w blk off zs.toArray→blk<w.heap.size→zs.length<4611686018427387904→Calls P f #[.slice (some ⟨blk,off,none⟩) zs.length cap] w fun e w'=>e= .returned (.tuple #[])∧∃ n os,w'=grow (putRow (Value.int .i64) (Go.Sort.ahead w n) blk off (zs.mergeSort fun x y=>decide (x≤y)).toArray) os)
  (h0:∀ (p:Option Addr) (cap:Nat) (w:World),Calls P f #[.slice p 0 cap] w fun e w'=>e= .returned (.tuple #[])∧w'=w)
  (zs:List Int){v:Value}{n:Nat}{L:Loc}(hO:OwnS e 1 v n (zs.map (Value.int .i64)) L)(hn:n≤1000000)(I:Qw):
  Z4 P f [v] I L (fun u I' L'=>u= .tuple #[]∧I'=I∧OwnS e 1 v n ((zs.mergeSort fun x y=>decide (x≤y)).map (Value.int .i64)) L'):=by
 intro g H w hw
 have hl:zs.length=n:=by have:=hO.1;simpa using this
 subst hl
 rcases hO.2 with ⟨rfl,h00,rfl⟩ | ⟨b,c,cur,rfl,rfl,hc,hc2,hsz,htk⟩
 ·
  have:zs=[]:=List.length_eq_zero_iff.1 h00
  subst this
  refine (h0 none 0 w).mono ?_
  rintro e w' ⟨rfl,rfl⟩
  refine ⟨_,I,[],rfl,zAl _,hw,rfl,rfl,by simp,.inl ⟨rfl,rfl,rfl⟩⟩
 ·
  rw [Nat.mul_one] at hsz htk
  have hb:=hw.own b _ (List.mem_singleton.2 rfl)
  refine (hs b 0 c zs w (zaL hw (List.mem_singleton.2 rfl) zs htk) (Array.getElem?_eq_some_iff.1 hb).1 (by omega)).mono ?_
  rintro e w' ⟨rfl,k,os,rfl⟩
  refine ⟨_,I,_,rfl,zAl _,(((hw.aheadN k).rowPut _ .here).grown os),rfl,rfl,by simp [List.length_mergeSort],.inr ⟨b,c,_,rfl,rfl,hc,hc2,by simp [putCells,hsz],?_⟩⟩
  rw [Nat.mul_one]
  exact zce _ (by simp [List.length_mergeSort]) (by omega)
theorem zbn {P:Program}{f:FuncId}{e:TypeId}(co:List Int→List Int)(hco:∀ zs,(co zs).length≤zs.length)(hcn:co []=[])
  (hs:∀ (blk off cap:Nat) (zs:List Int) (w:World),Holds (Value.int .i64) w blk off zs.toArray→zs.length≤9223372036854775807→zs.length≤cap→Calls P f #[.slice (some ⟨blk,off,none⟩) zs.length cap] w fun e w'=>e= .returned (.slice (some ⟨blk,off,none⟩) (co zs).length cap)∧∃ q,w'=putRow (Value.int .i64) (Go.Sort.ahead w q) blk off (co zs++List.replicate (zs.length-(co zs).length) 0).toArray)
  (h0:∀ (p:Option Addr) (cap:Nat) (w:World),Calls P f #[.slice p 0 cap] w fun e w'=>e= .returned (.slice p 0 cap)∧w'=w)
  (zs:List Int){v:Value}{n:Nat}{L:Loc}(hO:OwnS e 1 v n (zs.map (Value.int .i64)) L)(hn:n≤1000000)(I:Qw):
  Z4 P f [v] I L (fun u I' L'=>I'=I∧OwnS e 1 u (co zs).length ((co zs).map (Value.int .i64)) L'):=by
 intro g H w hw
 have hl:zs.length=n:=by have:=hO.1;simpa using this
 subst hl
 have hle:=hco zs
 rcases hO.2 with ⟨rfl,h00,rfl⟩ | ⟨b,c,cur,rfl,rfl,hc,hc2,hsz,htk⟩
 ·
  have:zs=[]:=List.length_eq_zero_iff.1 h00
  subst this
  refine (h0 none 0 w).mono ?_
  rintro e w' ⟨rfl,rfl⟩
  refine ⟨_,I,[],rfl,zAl _,hw,rfl,by simp [hcn],.inl ⟨rfl,by simp [hcn],rfl⟩⟩
 ·
  rw [Nat.mul_one] at hsz htk
  refine (hs b 0 c zs w (zaL hw (List.mem_singleton.2 rfl) zs htk) (by omega) hc).mono ?_
  rintro e w' ⟨rfl,k,rfl⟩
  refine ⟨_,I,_,rfl,zAl _,(hw.aheadN k).rowPut _ .here,rfl,by simp,.inr ⟨b,c,_,rfl,rfl,by omega,hc2,by simp [putCells,hsz],?_⟩⟩
  rw [Nat.mul_one]
  have h1:=zce (enc:=Value.int .i64) (cs:=cur) (n:=zs.length) (co zs++List.replicate (zs.length-(co zs).length) 0) (by simp;omega) (by omega)
  have h2:=congrArg (List.take (co zs).length) h1
  rw [List.take_take,Nat.min_eq_left hle] at h2
  rw [h2];simp
end
end
section
open Go
section
variable {g:World} {I I' H:Qw} {loc loc' L R:Loc} {w w':World}
theorem OwnS.sl {α:Type}{e size:Nat}{enc:α→List Value}{v:Value}{n:Nat}{xs:List α}(hO:OwnS e size v n (xs.flatMap enc) L)(hs:∀ x,(enc x).length=size)(hsz:0<size)(hI:∀ b o,(b,o)∈L→I b=some o):∃ av c,v= .slice av n c∧Sl I size enc av n c xs:=by
 have hn:xs.length=n:=by
  have:=hO.1
  rw [ZD hs] at this
  exact Nat.eq_of_mul_eq_mul_right hsz this
 rcases hO.2 with ⟨rfl,rfl,rfl⟩ | ⟨b,c,cur,rfl,rfl,hc,_,hcs,htake⟩
 ·
  have:xs=[]:=List.length_eq_zero_iff.1 hn
  subst this
  exact ⟨none,0,rfl,.nil⟩
 ·
  have h3:=hI b _ (List.mem_cons_self ..)
  refine ⟨_,_,rfl,hn,hc,fun _=>rfl,fun k x hx j u hu=>.imm h3 ?_⟩
  rw [Vb]
  simp only [Ao,Nat.zero_add]
  have hq:=X6 hs xs k x hx j u hu
  rw [←htake,List.getElem?_take] at hq
  split at hq
  ·
   simpa using hq
  ·
   cases hq
def VH (e size:Nat):List (Value×Nat×List Value)→Loc→Prop
 | [],L=>L=[]
 | t::ts,L=>∃ L1 L2,L=L1++L2∧OwnS e size t.1 t.2.1 t.2.2 L1∧VH e size ts L2
def JA:Value×Nat×List Value:=(.slice none 0 0,0,[])
theorem VH.nil {e size:Nat}:VH e size [] []:=rfl
theorem VH.at {α:Type}[DecidableEq α]{e size:Nat}(a:α):∀ {m:List (α×(Value×Nat×List Value))} {L:Loc},VH e size (m.map (·.2)) L→
  ∃ A Lt B,L=A++(Lt++B)∧OwnS e size ((ZH m a).getD JA).1 ((ZH m a).getD JA).2.1 ((ZH m a).getD JA).2.2 Lt∧∀ t' Lt',OwnS e size t'.1 t'.2.1 t'.2.2 Lt'→VH e size ((YE m a t').map (·.2)) (A++(Lt'++B))
 | [],L,h=>by
  have h:L=[]:=h
  subst h
  exact ⟨[],[],[],rfl,.nil,fun t' Lt' h'=>⟨Lt',[],by simp,h',rfl⟩⟩
 | p::m,L,⟨L1,L2,e1,h1,h2⟩=>by
  by_cases hp:p.1=a
  ·
   refine ⟨[],L1,L2,by rw [e1];rfl,by simp only [ZH,if_pos hp];exact h1,fun t' Lt' h'=>?_⟩
   simp only [YE,if_pos hp,List.map_cons]
   exact ⟨Lt',L2,rfl,h',h2⟩
  ·
   obtain ⟨A,Lt,B,e2,h3,h4⟩:=VH.at a h2
   refine ⟨L1++A,Lt,B,by rw [e1,e2,List.append_assoc],by simp only [ZH,if_neg hp];exact h3,fun t' Lt' h'=>?_⟩
   simp only [YE,if_neg hp,List.map_cons]
   exact ⟨L1,A++(Lt'++B),by rw [List.append_assoc],h1,h4 t' Lt' h'⟩
end
variable {C:Cx} {Q:Exit→Act→World→Prop} {E:Env} {I:Qw} {loc:Loc}
theorem VN {c:Code}(h:∀ I',HLe I I'→(∀ b o,(b,o)∈loc→I' b=some o)→X C Q c E I' []):X C Q c E I loc:=fun a w ha hw=>by
 obtain ⟨I',h1,h2,h3⟩:=hw.freezeAll
 exact h I' h1 h3 a w ha h2
theorem K4 {ops:Array Oper}{rest:List Oper}{S:GS}(h:∀ I',HLe I I'→(∀ b o,(b,o)∈loc→I' b=some o)→XO C Q ops rest S E I' []):XO C Q ops rest S E I loc:=fun a w ha hg hw=>by
 obtain ⟨I',h1,h2,h3⟩:=hw.freezeAll
 exact h I' h1 h3 a w ha hg h2
theorem zdd {c:Code}{L R:Loc}(hsp:YS loc L R)(h:∀ I',HLe I I'→(∀ b o,(b,o)∈L→I' b=some o)→X C Q c E I' R):X C Q c E I loc:=fun a w ha hw=>by
 have h0:=hw.unsplit hsp
 have h1:=h0.hideR
 obtain ⟨I',h2,h3,h4⟩:=h1.freezeAll
 have h5:St C.g I' C.H R w:=St.unhide (h0.rest Qy) h3
 exact h I' h2 h4 a w ha h5
theorem YI {α β:Type}[DecidableEq α]:∀ (m:List (α×β)) (a x:α) (b:β),ZH (YE m a b) x=if a=x then some b else ZH m x
 | [],a,x,b=>by simp [YE,ZH]
 | p::m,a,x,b=>by
  unfold YE
  by_cases h:p.1=a
  ·
   rw [if_pos h]
   simp only [ZH]
   by_cases h2:a=x
   ·
    rw [if_pos h2,if_pos h2]
   ·
    rw [if_neg h2,if_neg h2,if_neg (by rw [h];exact h2)]
  ·
   rw [if_neg h]
   simp only [ZH]
   rw [YI m a x b]
   by_cases h2:p.1=x
   ·
    rw [if_pos h2,if_pos h2,if_neg (fun e=>h (by rw [h2,e]))]
   ·
    rw [if_neg h2,if_neg h2]
theorem Ua {α β:Type}[DecidableEq α]:∀ {m:List (α×β)} {a:α} {b:β},ZH m a=some b→(a,b)∈m
 | [],_,_,h=>by cases h
 | p::m,a,b,h=>by
  unfold ZH at h
  split at h
  ·
   rename_i e
   cases h
   rw [←e];exact List.mem_cons_self ..
  ·
   exact List.mem_cons_of_mem _ (Ua h)
theorem U0 {α β:Type}[DecidableEq α]:∀ {m:List (α×β)} {a:α},ZH m a=none↔a∉m.map (·.1)
 | [],a=>by simp [ZH]
 | p::m,a=>by
  unfold ZH
  by_cases h:p.1=a
  ·
   simp [h]
  ·
   rw [if_neg h,U0,List.map_cons,List.mem_cons,not_or]
   exact ⟨fun h2=>⟨fun e=>h e.symm,h2⟩,fun h2=>h2.2⟩
theorem KW {α β:Type}[DecidableEq α]:∀ (m:List (α×β)) (a:α) (b:β),(YE m a b).map (·.1)=if a∈m.map (·.1) then m.map (·.1) else m.map (·.1)++[a]
 | [],a,b=>by simp [YE]
 | p::m,a,b=>by
  unfold YE
  by_cases h:p.1=a
  ·
   simp [h]
  ·
   rw [if_neg h,List.map_cons,KW m a b]
   by_cases h2:a∈m.map (·.1)
   ·
    rw [if_pos h2,if_pos (by simp only [List.map_cons];exact List.mem_cons_of_mem _ h2)];rfl
   ·
    rw [if_neg h2,if_neg (by simp only [List.map_cons,List.mem_cons,not_or];exact ⟨fun e=>h e.symm,h2⟩)];rfl
theorem W8 {α β:Type}[DecidableEq α]{m:List (α×β)}(a:α)(b:β)(h:(m.map (·.1)).Nodup):((YE m a b).map (·.1)).Nodup:=by
 rw [KW]
 split
 ·
  exact h
 ·
  rename_i h2
  rw [List.nodup_append]
  exact ⟨h,by simp,fun x hx y hy e=>by simp at hy;subst hy;subst e;exact h2 hx⟩
theorem zbz {α β:Type}[DecidableEq α]{m:List (α×β)}(h:(m.map (·.1)).Nodup){p:α×β}(hp:p∈m):ZH m p.1=some p.2:=by
 induction m with
 | nil=>cases hp
 | cons q m ih=>
  rw [List.map_cons,List.nodup_cons] at h
  unfold ZH
  rcases List.mem_cons.1 hp with rfl | hp
  ·
   rw [if_pos rfl]
  ·
   rw [if_neg (fun e=>h.1 (by rw [e];exact List.mem_map.2 ⟨p,hp,rfl⟩)),ih h.2 hp]
def zgG {α:Type}[DecidableEq α](s:List (α×Bool))(a:α):Bool:=(ZH s a).getD false
theorem XN {α:Type}[DecidableEq α](s:List (α×Bool))(a x:α):zgG (YE s a true) x=(decide (a=x)||zgG s x):=by
 unfold zgG
 rw [YI]
 by_cases h:a=x
 ·
  simp [h]
 ·
  simp [h]
end
end Go.Kn
section
namespace Go.Kn
open Go
section
variable {I:Qw} {b off:Nat} {vs:List Value} {A:Array Value} {t:TypeId} {fz:Nat×Nat} {l:Loc}
variable {p0 p1 p2 p3 p4 p5 p6 p7 p8 p9:Nat×Obj}
theorem Cells.s0 (h:(A.toList.drop off).take vs.length=vs):Cells I ((b,.cells A t fz)::l) b off vs:=fun j v hv=>by
 refine zAg ?_
 rw [Vb]
 rw [←h] at hv
 rw [List.getElem?_take] at hv
 split at hv
 ·
  rw [List.getElem?_drop] at hv;exact hv
 ·
  cases hv
theorem Cells.s1 (h:(A.toList.drop off).take vs.length=vs):Cells I (p0::(b,.cells A t fz)::l) b off vs:=(Cells.s0 h).there
theorem Sl.seg {α:Type}{size:Nat}{enc:α→List Value}{av:Option Addr}{n c:Nat}{xs:List α}{loc:Loc}(h:Sl I size enc av n c xs){k o:Nat}{x:α}(hx:xs[k]? =some x)(hv:((enc x).drop o).take vs.length=vs):Cells I loc (Ab av) (Ao av+k*size+o) vs:=fun j u hu=>by
 rw [←hv,List.getElem?_take] at hu
 split at hu
 ·
  rw [List.getElem?_drop] at hu
  rw [Nat.add_assoc]
  exact h.get hx hu
 ·
  cases hu
end
theorem Vo {P:Program}{g:World}{I H:Qw}{post:List Value}{off:Nat}:∀ (vs:List Value) (pre:List Value) (w:World) (loc loc':Loc) (b:Nat) (t:TypeId) (old:List Value) (k:Nat),pre.length=off+k→old.length=vs.length→(∀ v∈vs,v.oneCell'=true)→St g I H loc w→
  Upd loc b (.cells (pre++(old++post)).toArray t (0,0)) (.cells (pre++(vs++post)).toArray t (0,0)) loc'→∃ w',(storeCells ⟨b,off,none⟩ vs k).run P w= .ok () w'∧St g I H loc' w'
 | [],pre,w,loc,loc',b,t,old,k,_,hl,_,hw,hu=>by
  have:old=[]:=List.length_eq_zero_iff.1 hl
  subst this
  refine ⟨w,rfl,?_⟩
  have hb:=hw.own _ _ hu.mem
  exact hw.turn hu rfl rfl rfl rfl hb (fun _ _=>rfl)
 | v::vs,pre,w,loc,loc',b,t,old,k,hp,hl,h1,hw,hu=>by
  cases old with
  | nil=>simp at hl
  | cons u old=>
   have hb:=hw.own _ _ hu.mem
   have hc:w.cell? ⟨b,off+k,none⟩=some u:=by simp [World.cell?,hb,←hp]
   have hfz:=UK (off:=off+k) hw hu.mem
   obtain ⟨l1,u1,u2⟩:=hu.middle (.cells ((pre++[v])++(old++post)).toArray t (0,0))
   have hset:((pre++(u::old++post)).toArray.setIfInBounds (off+k) v)=((pre++[v])++(old++post)).toArray:=by rw [←hp];simp
   rw [←hset] at u1
   have hw1:=hw.setCell u1
   rw [hset] at u1
   obtain ⟨w',hr,hs⟩:=Vo (P:=P) (post:=post) (off:=off) vs (pre++[v]) _ l1 loc' b t old (k+1) (by simp;omega) (by simpa using hl) (fun x hx=>h1 x (List.mem_cons_of_mem _ hx)) hw1 (by simpa using u2)
   refine ⟨w',?_,hs⟩
   simp only [storeCells,Sem.run_bind,Yx,run_store _ _ _ _ _ (h1 v (List.mem_cons_self ..)),hc,hfz,Bool.false_eq_true,if_false,Result.andThen,hr]
variable {C:Cx} {Q:Exit→Act→World→Prop} {E E':Env} {I I':Qw} {loc loc' L R:Loc} {ops:Array Oper} {rest:List Oper} {S:GS}
variable {dst:Option Tmp} {d:Nat} {ty:TypeId} {pos:String} {af:Array Edge} {gd:Option (Nat×Bool)} {x y z:Operand}
theorem Kk {A:List Value}{off n:Nat}{vs:List Value}(h:off+n≤A.length)(hn:vs.length=n):Vk A off vs=A.take off++(vs++A.drop (off+n)):=by
 have e:A=A.take off++(A.drop off).take n++A.drop (off+n):=by
  rw [List.append_assoc]
  have:(A.drop off).take n++A.drop (off+n)=A.drop off:=by rw [←List.drop_drop];exact List.take_append_drop _ _
  rw [this,List.take_append_drop]
 have hl1:(A.take off).length=off:=by rw [List.length_take];omega
 have:=Kq (A.take off) ((A.drop off).take n) vs (A.drop (off+n)) (by rw [List.length_take,List.length_drop];omega)
 rw [←e,hl1,List.append_assoc] at this
 exact this
theorem JG {t t' b off n:Nat}{vs:List Value}{A:List Value}(hx:QE [] E x=some (.pointer (some ⟨b,off,none⟩)))(hy:QE [] E y=some (.agg vs.toArray))(hT:SzT C.P t n)(hn:vs.length=n)(ho:Nat.ble (off+n) A.length=true)(h1:YD vs=true)(hG:gd=none)
  (hu:Upd loc b (.cells A.toArray t' (0,0)) (.cells (Vk A off vs).toArray t' (0,0)) loc')(h:XO C Q ops rest [] E I loc'):
  XO C Q ops (⟨none,.store t x y,ty,pos,af,gd⟩::rest) [] E I loc:=
 Yh hG (by intro c e;cases e) fun a w ha hw=>by
  obtain ⟨i,hi,hs⟩:=hT
  have hle:=Nat.le_of_ble_eq_true ho
  have e:A=A.take off++((A.drop off).take n++A.drop (off+n)):=by
   have:(A.drop off).take n++A.drop (off+n)=A.drop off:=by rw [←List.drop_drop];exact List.take_append_drop _ _
   rw [this,List.take_append_drop]
  rw [Kk hle hn] at hu
  have hu2:Upd loc b (.cells (A.take off++((A.drop off).take n++A.drop (off+n))).toArray t' (0,0)) (.cells (A.take off++(vs++A.drop (off+n))).toArray t' (0,0)) loc':=by rw [←e];exact hu
  obtain ⟨w',hr,hs'⟩:=Vo (P:=C.P) (off:=off) vs (A.take off) w loc loc' b t' ((A.drop off).take n) 0 (by rw [List.length_take];omega) (by rw [List.length_take,List.length_drop];omega) (Jv h1) hw hu2
  simp only [execOp,Qn (S:=[]) ha trivial rfl hx,Qn (S:=[]) ha trivial rfl hy,Instr.storeAt,Instr.sureAddr,Sem.run_bind,Sem.run_pure,Result.andThen,storeVar,run_sizeOf hi,hs,Value.cells,List.size_toArray,hn,ne_eq,not_true_eq_false,if_false]
  simp only [hr,Oper.uponIn_skip]
  exact h _ _ ha trivial hs'
theorem Q5 {a:Addr}(hx:QE S E x=some (.pointer (some a))):QZ C S E I loc ⟨dst,.nilCheck x,ty,pos,af,gd⟩ (.pointer (some a)):=
 .of (by intro c e;cases e) fun ac w ha hg hc _=>by
  simp only [execOp,Qn ha hg hc hx];rfl
theorem zj4 {t:TypeId}{k:IntKind}{a:Int}(hx:QE S E x=some (.int k a)):QZ C S E I loc ⟨dst,.unOp .neg t x,ty,pos,af,gd⟩ (.int k (k.wrap (0-a))):=
 .of (by intro c e;cases e) fun ac w ha hg hc _=>by
  simp only [execOp,Qn ha hg hc hx];rfl
section
variable {P:Program} {fn:Func} {N:Nat} {g:World} {I H:Qw} {loc:Loc} {E:Env}
theorem zzw {D:List Deferred}{t tt b:Nat}{v:Value}(hr:fn.results= #[.cell t tt])(hv:V3 E t=some (.pointer (some ⟨b,0,none⟩)))(hT:ScT P tt)(hc:QY I loc b 0 v)(a:Act)(ha:Kz N D E a)(w:World)(hw:St g I H loc w):(results fn a.tmps).run P w= .ok v w:=by
 have e1:=ha.env _ _ hv
 rw [Array.getD_eq_getD_getElem?] at e1
 have l1:(loadVar tt ⟨b,0,none⟩).run P w= .ok v w:=by
  simp only [loadVar,Sem.run_bind,Yr hT,Result.andThen,Bool.false_eq_true,if_false,run_load,hc.get hw]
 simp only [results,hr]
 simp [List.mapM_cons,e1,asAddr,l1]
end
end Go.Kn
namespace Go.Kn
open Go
section
variable {C:Cx} {E:Env} {I:Qw} {loc:Loc} {S:GS} {dst:Option Tmp} {ty:TypeId} {pos:String} {af:Array Edge} {gd:Option (Nat×Bool)} {x y:Operand}
variable {α β:Type} [DecidableEq α] {ek:α→Value} {ev:β→Value} {m:List (α×β)} {a:α}
theorem YO {t k e r:Nat}{zv:Value}{b:β}(hget:ZH m a=some b)(hT:MpT C.P t k e zv)(hK:Jr C.P k ek)(hx:QE S E x=some (.map (some r)))(hy:QE S E y=some (ek a))(hm:ZV S=true→Mem I loc r (Z0 ek ev m)):
  QZ C S E I loc ⟨dst,.lookup t x y false,ty,pos,af,gd⟩ (ev b):=by
 have:=KZ (C:=C) (S:=S) (dst:=dst) (ty:=ty) (pos:=pos) (af:=af) (gd:=gd) hT hK hx hy hm
 rw [hget] at this
 exact this
end
end Go.Kn
end
section
namespace Go.Kn
open Go
section
variable {C:Cx} {E:Env} {I:Qw} {loc:Loc} {S:GS} {dst:Option Tmp} {ty:TypeId} {pos:String} {af:Array Edge} {gd:Option (Nat×Bool)} {x y:Operand}
variable {α:Type} [DecidableEq α] {ek:α→Value} {a:α}
def Xr (t:Value×Nat×List Value):Value:=t.1
theorem VK {m:List (α×(Value×Nat×List Value))}{t k e r:Nat}(hT:MpT C.P t k e (.slice none 0 0))(hK:Jr C.P k ek)(hx:QE S E x=some (.map (some r)))(hy:QE S E y=some (ek a))(hm:ZV S=true→Mem I loc r (Z0 ek Xr m)):
  QZ C S E I loc ⟨dst,.lookup t x y false,ty,pos,af,gd⟩ (((ZH m a).getD JA).1):=by
 have:=KZ (C:=C) (S:=S) (dst:=dst) (ty:=ty) (pos:=pos) (af:=af) (gd:=gd) hT hK hx hy hm
 cases h:ZH m a with
 | none=>rw [h] at this;exact this
 | some b=>rw [h] at this;exact this
theorem YF {m:List (α×(Value×Nat×List Value))}{v:Value}(hv:((ZH m a).getD JA).1=v){t k e r:Nat}(hT:MpT C.P t k e (.slice none 0 0))(hK:Jr C.P k ek)(hx:QE S E x=some (.map (some r)))(hy:QE S E y=some (ek a))(hm:ZV S=true→Mem I loc r (Z0 ek Xr m)):
  QZ C S E I loc ⟨dst,.lookup t x y false,ty,pos,af,gd⟩ v:=by
 rw [←hv];exact VK hT hK hx hy hm
theorem KQ {m:List (α×Int)}{t k e r:Nat}{ik:IntKind}(hT:MpT C.P t k e (.int ik 0))(hK:Jr C.P k ek)(hx:QE S E x=some (.map (some r)))(hy:QE S E y=some (ek a))(hm:ZV S=true→Mem I loc r (Z0 ek (Value.int ik) m)):
  QZ C S E I loc ⟨dst,.lookup t x y true,ty,pos,af,gd⟩ (.tuple #[.int ik ((ZH m a).getD 0),.bool (ZH m a).isSome]):=by
 have:=UI (C:=C) (S:=S) (dst:=dst) (ty:=ty) (pos:=pos) (af:=af) (gd:=gd) hT hK hx hy hm
 cases h:ZH m a with
 | none=>rw [h] at this;exact this
 | some b=>rw [h] at this;exact this
end
end Go.Kn
namespace Go.Kn
open Go
section
variable {C:Cx} {E:Env} {I:Qw} {loc:Loc} {S:GS} {dst:Option Tmp} {ty:TypeId} {pos:String} {af:Array Edge} {gd:Option (Nat×Bool)} {x y:Operand}
variable {α:Type} [DecidableEq α] {ek:α→Value} {a:α}
def zAa (b:Nat):Value:=.map (some b)
theorem za1 {m:List (α×Nat)}{t k e r:Nat}(hT:MpT C.P t k e (.map none))(hK:Jr C.P k ek)(hx:QE S E x=some (.map (some r)))(hy:QE S E y=some (ek a))(hm:ZV S=true→Mem I loc r (Z0 ek zAa m)):
  QZ C S E I loc ⟨dst,.lookup t x y false,ty,pos,af,gd⟩ (.map (ZH m a)):=by
 have:=KZ (C:=C) (S:=S) (dst:=dst) (ty:=ty) (pos:=pos) (af:=af) (gd:=gd) hT hK hx hy hm
 cases h:ZH m a with
 | none=>rw [h] at this;exact this
 | some b=>rw [h] at this;exact this
end
end Go.Kn
end
section
namespace Go.Kn
open Go
theorem znB {P:Program}{t e:Nat}(hT:Ar2 P t e .i64):Jr (α:=Int×Int) P t YR:=by
 obtain ⟨hu,hi,hc,he,hg⟩:=hT
 obtain ⟨i,hi2⟩:=Option.isSome_iff_exists.1 hi
 have hsz:i.size=1:=by have:=hc;unfold Program.cellsOf at this;rw [hi2] at this;exact this
 refine .of_asking hu (fun b a w=>?_) (fun a=>by simp [YR,Instr.sameBits]) (fun a b=>rfl) (fun a b w=>?_)
 ·
  have hp:∀ (xs:Array Value) (q:Nat) (u:Value),xs[q]? =some u→(part e xs q).run P w= .ok u w:=fun xs q u h=>by
   simp only [part,Sem.run_bind,Yr (P:=P) ⟨_,he,trivial⟩,Result.andThen,Bool.false_eq_true,if_false,h,Sem.run_pure]
  have ck:∀ (x:Int) (q:Nat),(Instr.checkKey b (q+1) e (.int .i64 x)).run P w= .ok () w:=fun x q=>by
   simp only [Instr.checkKey,Sem.run_bind,run_underlying he,Result.andThen];rfl
  have key:∀ q,(Instr.checkKey b (q+2) t (YR a)).run P w= .ok () w:=fun q=>by
   unfold Instr.checkKey
   simp only [YR,Sem.run_bind,run_underlying hu,Result.andThen_ok]
   simp only [Std.Legacy.Range.forIn_eq_forIn_range',Std.Legacy.Range.size,Nat.sub_zero,Nat.add_one_sub_one,Nat.div_one]
   simp only [List.range',List.forIn_cons,List.forIn_nil,Sem.run_bind,run_sizeOf hi2,hsz,Result.andThen_ok,Nat.zero_mul,Nat.zero_add,Nat.one_mul,
    hp #[.int .i64 a.1,.int .i64 a.2] 0 (.int .i64 a.1) rfl,hp #[.int .i64 a.1,.int .i64 a.2] 1 (.int .i64 a.2) rfl,ck,Sem.run_pure]
  exact key 9998
 ·
  have e:=zey (P:=P) (t:=t) ⟨hu,hi,hc,he,hg⟩ w a.1 a.2 b.1 b.2 9998
  have e2:(Op.equal t (YR a) (YR b)).run P w= .ok (a.1==b.1&&a.2==b.2) w:=by
   simp only [Op.equal,Op.maxDepth,YR];exact e
  rw [e2]
  congr 1
  obtain ⟨a1,a2⟩:=a;obtain ⟨b1,b2⟩:=b
  by_cases h1:a1=b1<;>by_cases h2:a2=b2<;>simp [h1,h2]
theorem zkH {α β:Type}[DecidableEq α](m:List (α×β))(a:α)(b:β):zjN (YE m a b) a=zjN m a:=by
 have key:∀ (m:List (α×β)) (k:Nat),((WG (YE m a b) a k).map (·.1)).getD (k+(YE m a b).length)=((WG m a k).map (·.1)).getD (k+m.length):=by
  intro m
  induction m with
  | nil=>intro k;simp [YE,WG]
  | cons p m ih=>
   intro k
   unfold YE
   by_cases h:p.1=a
   ·
    rw [if_pos h];simp [WG,h]
   ·
    rw [if_neg h]
    simp only [WG,if_neg h,List.length_cons]
    have:=ih (k+1)
    rw [show k+((YE m a b).length+1)=k+1+(YE m a b).length by omega,show k+(m.length+1)=k+1+m.length by omega]
    exact this
 have:=key m 0
 simpa [zjN] using this
theorem OwnS.val {e size n:Nat}{v:Value}{xs:List Value}{L:Loc}(h:OwnS e size v n xs L):∃ a m c,v= .slice a m c:=by
 rcases h.2 with ⟨h1,_⟩ | ⟨b,c,cur,h1,_⟩
 ·
  exact ⟨_,_,_,h1⟩
 ·
  exact ⟨_,_,_,h1⟩
theorem zdz {α β:Type}[DecidableEq α]:∀ (m:List (α×β)) (a:α) (b c:β),YE (YE m a b) a c=YE m a c
 | [],a,b,c=>by simp [YE]
 | p::m,a,b,c=>by
  by_cases h:p.1=a
  ·
   simp [YE,h]
  ·
   simp only [YE,if_neg h,zdz m a b c]
section
variable {P:Program} {fn:Func} {R:Ending→World→Prop} {N:Nat} {g:World} {I H:Qw} {loc:Loc} {E:Env} {r:Option Nat}
theorem Zp {t u tt n b:Nat}{vs:List Value}{v':Value}(hr:fn.results= #[.cell t tt,.tmp u])(hv:V3 E t=some (.pointer (some ⟨b,0,none⟩)))(hv':V3 E u=some v')(hA:AgT P tt n)(hc:Cells I loc b 0 vs)(hn:vs.length=n)
  (h:∀ w,St g I H loc w→R (.returned (.tuple #[.agg vs.toArray,v'])) w):At ⟨P,r,N,[],g,H⟩ (bodyPost P fn R) .ret E I loc:=fun a w ha hw=>
 ⟨ha.defers,.tuple #[.agg vs.toArray,v'],by
  have e1:=ha.env _ _ hv
  have e2:=ha.env _ _ hv'
  rw [Array.getD_eq_getD_getElem?] at e1 e2
  have h1:(loadCells ⟨b,0,none⟩ n).run P w= .ok vs.toArray w:=by
   rw [←hn]
   exact run_loadCells_list w _ _ fun j v hj=>by rw [Yx];exact (hc j v hj).get hw
  have hA':=hA
  obtain ⟨_,i,h2,h3⟩:=hA'
  have l1:(loadVar tt ⟨b,0,none⟩).run P w= .ok (.agg vs.toArray) w:=by
   simp only [loadVar,Sem.run_bind,Sem.run_pure,Ve hA,Result.andThen,if_true,run_sizeOf h2,h3,h1]
  simp only [results,hr]
  simp [List.mapM_cons,e1,e2,asAddr,l1],h w hw⟩
end
end Go.Kn
namespace Go.Kn
open Go
section
variable {C:Cx} {Q:Exit→Act→World→Prop} {E G:Env} {I I':Qw} {loc loc' L R:Loc} {ops:Array Oper} {rest:List Oper} {S:GS} {b:Bool}
variable {d:Nat} {ty:TypeId} {pos:String} {af:Array Edge} {gd:Option (Nat×Bool)}
theorem zkD {f:FuncId}{cap:List Value}{l:List Operand}{vs:List Value}{tys:Array TypeId}{cal:Operand}{K:Value→Qw→Loc→Prop}
  (he:QE ((b,G)::S) E cal=some (.func (.func f) #[] cap.toArray))(hl:l.map (QE ((b,G)::S) E)=vs.map some)(hF:Fun C.P f)(hc:ZV ((b,G)::S)=true→Z4 C.P f (vs++cap) I [] K)(hno:∃ v,K v I [])
  (hG:Zt ops ((b,G)::S) E ⟨some d,.call ⟨.value cal,l.toArray,tys⟩,ty,pos,af,gd⟩)(hN:Nat.blt d C.N=true)(hf:Z3 ((b,G)::S) E d=true)
  (h:∀ v I' L',HLe I I'→K v I' L'→XO C Q ops rest ((b,(d,v)::G)::S) E I' (L'++loc)):
  XO C Q ops (⟨some d,.call ⟨.value cal,l.toArray,tys⟩,ty,pos,af,gd⟩::rest) ((b,G)::S) E I loc:=
 zcE he hl hF hG rfl hN hf .nil hc (fun _=>hno) h
end
end Go.Kn
end
namespace Go.Proofs.YtodakphagkommaaGreatDoor
section
open Go Go.Kn Go.Proofs
theorem zbK:Fun Tryz.prog 100:=.of Tryz.func100 (by kernel_rfl) (by kernel_rfl)
theorem zqi:Fun Tryz.prog 101:=.of Tryz.func101 (by kernel_rfl) (by kernel_rfl)
theorem zi5:Fun Tryz.prog 148:=.of Tryz.func148 (by kernel_rfl) (by kernel_rfl)
theorem zkv:Fun Tryz.prog 151:=.of Tryz.func151 (by kernel_rfl) (by kernel_rfl)
theorem ze2:Fun Tryz.prog 153:=.of Tryz.func153 (by kernel_rfl) (by kernel_rfl)
theorem zs3:Fun Tryz.prog 197:=.of Tryz.func197 (by kernel_rfl) (by kernel_rfl)
theorem zr3:Fun Tryz.prog 198:=.of Tryz.func198 (by kernel_rfl) (by kernel_rfl)
theorem zkR:Fun Tryz.prog 200:=.of Tryz.func200 (by kernel_rfl) (by kernel_rfl)
theorem zh4:Fun Tryz.prog 201:=.of Tryz.func201 (by kernel_rfl) (by kernel_rfl)
theorem zjE:Fun Tryz.prog 239:=.of Tryz.func239 (by kernel_rfl) (by kernel_rfl)
theorem zju:Fun Tryz.prog 254:=.of Tryz.func254 (by kernel_rfl) (by kernel_rfl)
theorem zsI:Fun Tryz.prog 255:=.of Tryz.func255 (by kernel_rfl) (by kernel_rfl)
theorem zos:Fun Tryz.prog 53:=.of Tryz.func53 (by kernel_rfl) (by kernel_rfl)
theorem zcX:Fun Tryz.prog 57:=.of Tryz.func57 (by kernel_rfl) (by kernel_rfl)
theorem zk5:Fun Tryz.prog 87:=.of Tryz.func87 (by kernel_rfl) (by kernel_rfl)
theorem mixed:Tryz.prog.follows .mixedOrders=true:=by kernel_rfl
theorem QJ:ScT Tryz.prog 23:=.of (by kernel_rfl)
theorem Qr:ScT Tryz.prog 3:=.of (by kernel_rfl)
theorem Q0:SlT Tryz.prog 22 23 1:=.of (by kernel_rfl)
theorem Qt:SlT Tryz.prog 23 3 1:=.of (by kernel_rfl)
end
section
open Go Go.Kn Go.Proofs
def QP (n:Int):List Value:=[.int .i64 n]
structure Hd where
 a:Option Addr
 n:Nat
 c:Nat
def WL (h:Hd):List Value:=[.slice h.a h.n h.c]
theorem Qu (x:Int):(QP x).length=1:=rfl
theorem Zb (x:Hd):(WL x).length=1:=rfl
theorem V0 (xs:List Int):YD (xs.flatMap QP)=true:=Yv (fun _=>rfl) xs
theorem zqD (xs:List Hd):YD (xs.flatMap WL)=true:=Yv (fun _=>rfl) xs
def zta {α:Type}[DecidableEq α](xs ys:List α):Bool:=decide (xs=ys)
theorem _root_.Go.Kn.Sl.at {α:Type}{I:Qw}{size:Nat}{enc:α→List Value}{av:Option Addr}{n c:Nat}{xs:List α}(h:Sl I size enc av n c xs){k:Nat}(hk:k<n):∃ x,xs[k]? =some x:=
 ⟨_,List.getElem?_eq_getElem (by rw [h.len];exact hk)⟩
theorem VP {p:Nat→Bool}{k:Nat}(h:(List.range k).all p=true)(hp:p k=true):(List.range (k+1)).all p=true:=by
 rw [List.range_succ,List.all_append,h];simpa using hp
theorem JB {p:Nat→Bool}{n k:Nat}(hk:k<n)(hp:p k=false):(List.range n).all p=false:=by
 cases h:(List.range n).all p with
 | false=>rfl
 | true=>
  rw [List.all_eq_true] at h
  rw [h k (List.mem_range.2 hk)] at hp;cases hp
theorem QN {α:Type}{xs:List α}{k:Nat}{x d:α}(h:xs[k]? =some x):xs.getD k d=x:=by simp [List.getD,h]
theorem QX {α:Type}{xs:List α}{n k:Nat}{d:α}(hl:xs.length=n)(h:k<n):xs[k]? =some (xs.getD k d):=by
 have:k<xs.length:=by omega
 unfold List.getD
 rw [List.getElem?_eq_getElem this];rfl
def SlH (I:Qw)(av:Option Addr)(n c:Nat)(hs:List Hd)(vss:List (List Int)):Prop:=Sl I 1 WL av n c hs∧hs.length=vss.length∧∀ (k:Nat) (h:Hd) (v:List Int),hs[k]? =some h→vss[k]? =some v→Sl I 1 QP h.a h.n h.c v
def SlN (I:Qw)(av:Option Addr)(n c:Nat)(vss:List (List Int)):Prop:=∃ hs:List Hd,SlH I av n c hs vss
theorem SlH.mono {I I':Qw}{av:Option Addr}{n c:Nat}{hs:List Hd}{vss:List (List Int)}(h:SlH I av n c hs vss)(hI:HLe I I'):SlH I' av n c hs vss:=
 ⟨h.1.mono hI,h.2.1,fun k h' v a b=>(h.2.2 k h' v a b).mono hI⟩
theorem SlN.mono {I I':Qw}{av:Option Addr}{n c:Nat}{vss:List (List Int)}(h:SlN I av n c vss)(hI:HLe I I'):SlN I' av n c vss:=by
 obtain ⟨hs,h1⟩:=h
 exact ⟨hs,h1.mono hI⟩
theorem SlH.len {I:Qw}{av:Option Addr}{n c:Nat}{hs:List Hd}{vss:List (List Int)}(h:SlH I av n c hs vss):vss.length=n:=by rw [←h.2.1,h.1.len]
theorem SlN.len {I:Qw}{av:Option Addr}{n c:Nat}{vss:List (List Int)}(h:SlN I av n c vss):vss.length=n:=by
 obtain ⟨hs,h1⟩:=h
 exact h1.len
theorem SlH.at {I:Qw}{av:Option Addr}{n c:Nat}{hs:List Hd}{vss:List (List Int)}(h:SlH I av n c hs vss){k:Nat}(hk:k<n):∃ hd v,hs[k]? =some hd∧vss[k]? =some v∧Sl I 1 QP hd.a hd.n hd.c v:=by
 obtain ⟨hd,hh⟩:=h.1.at hk
 have hl:=h.len
 have hv:vss[k]? =some (vss[k]'(by omega)):=List.getElem?_eq_getElem _
 exact ⟨hd,_,hh,hv,h.2.2 k hd _ hh hv⟩
def zmv {α:Type}(e:Int)(xs:List α):List α:=if e≠0 then [] else xs
theorem zms {α:Type}{e:Int}{xs:List α}(h:e≠0):zmv e xs=[]:=by unfold zmv;rw [if_pos h]
theorem zkz {α:Type}{e:Int}{xs:List α}(h:e=0):zmv e xs=xs:=by unfold zmv;rw [if_neg (by omega)]
theorem K1 {α:Type}{R:α→α→Prop}(ht:∀ a b c,R a b→R b c→R a c){l:List α}(h:∀ k (hk:k+1<l.length),R (l[k]'(by omega)) l[k+1]):l.Pairwise R:=by
 have key:∀ (n i:Nat) (hn:i+n<l.length),0<n→R (l[i]'(by omega)) l[i+n]:=by
  intro n
  induction n with
  | zero=>intro i _ h0;omega
  | succ n ih=>
   intro i hn _
   have h2:=h (i+n) (by omega)
   by_cases e:n=0
   ·
    subst e;exact h2
   ·
    exact ht _ _ _ (ih i (by omega) (by omega)) h2
 rw [List.pairwise_iff_getElem]
 intro i j hi hj hij
 have:=key (j-i) i (by omega) (by omega)
 simpa [show i+(j-i)=j by omega] using this
def ZN (s:Int):Bool:=decide (s>0)&&(JO s (IntKind.i64.wrap (s-1))==0)
def WH (cl:List Int)(s:Int):Bool:=cl.any (fun c=>c==s)||ZN s
def zhO (a c:Int):Bool:=JO a (IntKind.i64.wrap (0-a))==JO c (IntKind.i64.wrap (0-c))
def Vv (cl:List Int)(c a:Int):Bool:=(JO a c==a)&&zhO a c&&WH cl a&&WH cl (c-a)
def Vc (cl:List Int)(c:Int)(a:Nat):Int:=match (List.range' a (c.toNat -a)).find? (fun k:Nat=>Vv cl c (k:Int)) with | none=>0 | some k=>(k:Int)
def Qx (cl:List Int)(c:Int):Int:=Vc cl c 1
theorem zhz {cl:List Int}{c:Int}{a:Nat}(h:(a:Int)<c)(hp:Vv cl c a=true):Vc cl c a=a:=by
 unfold Vc
 rw [show c.toNat -a=(c.toNat -(a+1))+1 by omega,List.range'_succ,List.find?_cons,hp]
theorem zfb {cl:List Int}{c:Int}{a:Nat}(h:(a:Int)<c)(hp:Vv cl c a=false):Vc cl c a=Vc cl c (a+1):=by
 unfold Vc
 rw [show c.toNat -a=(c.toNat -(a+1))+1 by omega,List.range'_succ,List.find?_cons,hp]
theorem zhs {cl:List Int}{c:Int}{a:Nat}(h:c≤(a:Int)):Vc cl c a=0:=by
 unfold Vc
 rw [show c.toNat -a=0 by omega];rfl
def V8 (all:Int)(cl:List Int)(i:Nat):Bool:= !(((decide (cl.getD i 0<1))||decide (cl.getD i 0>all))||(decide ((i:Int)>0)&&decide (cl.getD i 0≤cl.getD ((i:Int)-1).toNat 0)))
def ZK (n:Int):Int:=IntKind.i64.wrap (1*2^(min n.toNat IntKind.i64.bits))-1
def Y8 (n:Int)(cl:List Int):Int:=
 if n>6 then 2 else if decide (n<1)||decide ((cl.length:Int)≠n-1) then 420
 else if !(List.range cl.length).all (V8 (ZK n) cl) then 420
 else if decide (n>1)&&decide (cl.getD (n-2).toNat 0≠ZK n) then 420
 else if cl.any (fun c=>Qx cl c==0) then 420 else 0
theorem zaa {n:Int}(h:1≤n∧n≤6):2≤IntKind.i64.wrap (1*2^(min n.toNat IntKind.i64.bits))∧IntKind.i64.wrap (1*2^(min n.toNat IntKind.i64.bits))≤64:=by
 have:n=1∨n=2∨n=3∨n=4∨n=5∨n=6:=by omega
 rcases this with e | e | e | e | e | e<;>subst e<;>decide
theorem JV {n:Int}(h:1≤n∧n≤6):1≤ZK n∧ZK n≤63:=by have:=zaa h;unfold ZK;omega
theorem XV {all:Int}{cl:List Int}(h:(List.range cl.length).all (V8 all cl)=true){k:Nat}{x:Int}(hx:cl[k]? =some x):1≤x∧x≤all:=by
 have h1:=List.all_eq_true.1 h k (List.mem_range.2 (List.getElem?_eq_some_iff.1 hx).1)
 unfold V8 at h1
 rw [QN hx] at h1
 simp at h1
 omega
theorem zoC {n:Int}{cl:List Int}(h:n>6):Y8 n cl=2:=by unfold Y8;rw [if_pos h]
theorem zpx {n:Int}{cl:List Int}(h:¬n>6)(h2:(decide (n<1)||decide ((cl.length:Int)≠n-1))=true):Y8 n cl=420:=by unfold Y8;rw [if_neg h,if_pos h2]
theorem zpn {n:Int}{cl:List Int}(h:¬n>6)(h2:(decide (n<1)||decide ((cl.length:Int)≠n-1))=false)(h3:(List.range cl.length).all (V8 (ZK n) cl)=false):Y8 n cl=420:=by unfold Y8;rw [if_neg h,if_neg (by rw [h2];decide),if_pos (by rw [h3];rfl)]
theorem zo4 {n:Int}{cl:List Int}(h:¬n>6)(h2:(decide (n<1)||decide ((cl.length:Int)≠n-1))=false)(h3:(List.range cl.length).all (V8 (ZK n) cl)=true)(h4:(decide (n>1)&&decide (cl.getD (n-2).toNat 0≠ZK n))=true):Y8 n cl=420:=by
 unfold Y8;rw [if_neg h,if_neg (by rw [h2];decide),if_neg (by rw [h3];decide),if_pos h4]
theorem zfv {n:Int}{cl:List Int}(h:¬n>6)(h2:(decide (n<1)||decide ((cl.length:Int)≠n-1))=false)(h3:(List.range cl.length).all (V8 (ZK n) cl)=true)(h4:(decide (n>1)&&decide (cl.getD (n-2).toNat 0≠ZK n))=false):
  Y8 n cl=if cl.any (fun c=>Qx cl c==0) then 420 else 0:=by
 unfold Y8;rw [if_neg h,if_neg (by rw [h2];decide),if_neg (by rw [h3];decide),if_neg (by rw [h4];decide)]
def Ze (b:Nat):Value:=.pointer (some ⟨b,0,none⟩)
def zwW (cl:List Int)(s:Int):Bool:=ZN s||cl.any (fun y=>s==y)
def WX (cl:List Int)(s a:Int):Bool:=zhO a s&&zwW cl a&&zwW cl (zd0 s a)
def Wh (s a:Int):Int:=JO (IntKind.i64.wrap (a-1)) s
def UC (cl:List Int)(s:Int):Nat→Int→Option Int
 | 0,_=>none
 | f+1,a=>if decide (a>0) then (if WX cl s a then some a else UC cl s f (Wh s a)) else none
def WO (cl:List Int)(s:Int):Option Int:=UC cl s 64 (Wh s s)
theorem zla:((List.range 64).all fun a=>(List.range 64).all fun s=>decide (0≤JO (a:Int) (s:Int))&&decide (JO (a:Int) (s:Int)≤(a:Int)))=true:=by kernel_rfl
theorem zuq {a s:Int}(ha:0≤a∧a≤63)(hs:0≤s∧s≤63):0≤JO a s∧JO a s≤a:=by
 have h:=List.all_eq_true.1 (List.all_eq_true.1 zla a.toNat (List.mem_range.2 (by omega))) s.toNat (List.mem_range.2 (by omega))
 rw [show ((a.toNat:Nat):Int)=a by omega,show ((s.toNat:Nat):Int)=s by omega] at h
 simpa using h
theorem zjR {a s:Int}(ha:0<a∧a≤63)(hs:0≤s∧s≤63):0≤Wh s a∧Wh s a≤a-1:=by
 unfold Wh
 rw [zb5 (by omega)]
 exact zuq (by omega) hs
theorem zj5 {cl:List Int}{s a:Int}{f:Nat}(h:a>0)(hp:WX cl s a=true):UC cl s (f+1) a=some a:=by
 unfold UC;rw [if_pos (by simpa using h),if_pos hp]
theorem zhp {cl:List Int}{s a:Int}{f:Nat}(h:a>0)(hp:WX cl s a=false):UC cl s (f+1) a=UC cl s f (Wh s a):=by
 rw [show UC cl s (f+1) a=if decide (a>0) then (if WX cl s a then some a else UC cl s f (Wh s a)) else none from rfl,if_pos (by simpa using h),if_neg (by rw [hp];decide)]
theorem zij {cl:List Int}{s a:Int}{f:Nat}(h:¬a>0):UC cl s f a=none:=by
 cases f with
 | zero=>rfl
 | succ f=>rw [show UC cl s (f+1) a=if decide (a>0) then (if WX cl s a then some a else UC cl s f (Wh s a)) else none from rfl,if_neg (by simpa using h)]
def ze0 (cl:List Int)(s:Int):Int:=match WO cl s with | some a=>a | none=>0
def zeg (cl:List Int)(s:Int):Int:=match WO cl s with | some a=>zd0 s a | none=>0
def Y6 (m:Int)(cl:List Int)(s:Int):Int:=if Y8 m cl≠0 then Y8 m cl else if cl.any (fun c=>c==s) then 0 else 1
def zbc (m:Int)(cl:List Int)(s:Int):Int:=if Y6 m cl s≠0 then 0 else Qx cl s
def zaW (m:Int)(cl:List Int)(s:Int):Int:=if Y6 m cl s≠0 then 0 else s-Qx cl s
theorem zhv {m:Int}{cl:List Int}{s:Int}(h:Y8 m cl≠0):Y6 m cl s=Y8 m cl:=by unfold Y6;rw [if_pos h]
theorem zeD {m:Int}{cl:List Int}{s:Int}(h:Y8 m cl=0)(h2:cl.any (fun c=>c==s)=false):Y6 m cl s=1:=by unfold Y6;rw [if_neg (by omega),if_neg (by rw [h2];decide)]
theorem zdT {m:Int}{cl:List Int}{s:Int}(h:Y8 m cl=0)(h2:cl.any (fun c=>c==s)=true):Y6 m cl s=0:=by unfold Y6;rw [if_neg (by omega),if_pos h2]
theorem zhF {m:Int}{cl:List Int}{s:Int}(h:Y6 m cl s≠0):zbc m cl s=0∧zaW m cl s=0:=by unfold zbc zaW;rw [if_pos h,if_pos h];exact ⟨rfl,rfl⟩
theorem zke {m:Int}{cl:List Int}{s:Int}(h:Y6 m cl s=0):zbc m cl s=Qx cl s∧zaW m cl s=s-Qx cl s:=by unfold zbc zaW;rw [if_neg (by omega),if_neg (by omega)];exact ⟨rfl,rfl⟩
theorem Zy {m:Int}{cl:List Int}(h:Y8 m cl=0):1≤m∧m≤6∧(cl.length:Int)=m-1∧∀ c∈cl,1≤c∧c≤63:=by
 unfold Y8 at h
 split at h
 ·
  cases h
 ·
  rename_i h1
  split at h
  ·
   cases h
  ·
   rename_i h2
   split at h
   ·
    cases h
   ·
    rename_i h3
    simp at h2 h3
    refine ⟨by omega,by omega,by omega,fun c hc=>?_⟩
    obtain ⟨k,hk⟩:=List.getElem?_of_mem hc
    have h4:(List.range cl.length).all (V8 (ZK m) cl)=true:=by rw [List.all_eq_true];intro x hx;exact h3 x (List.mem_range.1 hx)
    have:=XV h4 hk
    have:=JV (n:=m) (by omega)
    omega
end
section
open Go Go.Kn Go.Proofs
theorem zgO (I:Qw)(s:Int):Zu Tryz.prog 201 [.int .i64 s] I (.bool (ZN s)):=by
 intro g H w hw
 refine qe Tryz.func201 Tryz.ntmps201 hw ?_
 refine zR (zA ?_)
 refine zN (zR ?_)
 refine zM ?_
 refine zC ?_
 refine zM ?_
 refine QG 2 rfl rfl rfl ?_
 refine zK (Qh rfl) ?_
 refine zK (Qh rfl) ?_
 refine zK (zhA rfl rfl rfl) ?_
 refine zK (Kj rfl rfl) ?_
 refine zK (QI rfl rfl rfl) ?_
 refine QL rfl rfl rfl rfl rfl ?_
 refine zA (zN (Qs ?_))
 exact zr rfl rfl (by rfl)
theorem Ym {α:Type}{xs:List α}{k:Nat}{x:α}{p:α→Bool}(hx:xs[k]? =some x)(h:(xs.take k).any p=false)(hp:p x=false):(xs.take (k+1)).any p=false:=by rw [XR hx,h,hp];rfl
theorem YM {α:Type}{xs:List α}{k:Nat}{x:α}{p:α→Bool}(hx:xs[k]? =some x)(hp:p x=true):xs.any p=true:=List.any_eq_true.2 ⟨x,List.mem_of_getElem? hx,hp⟩
theorem zpb {I:Qw}{av:Option Addr}{n c:Nat}{xs:List Int}(hS:Sl I 1 QP av n c xs)(hn:n≤100000)(s:Int):Zu Tryz.prog 254 [.slice av n c,.int .i64 s] I (.bool (WH xs s)):=by
 intro g H w hw
 refine qe Tryz.func254 Tryz.ntmps254 hw ?_
 refine zR (zA (zN (Qk (zR ?_))))
 refine zA (zN (Ql ?_))
 refine zU [(0,_),(1,_)] (fun T L0 mz E I' loc'=>∃ (k:Nat),mz=n-k∧E=(5,.int .i64 k)::T∧I=I'∧L0=loc'∧k≤n∧(xs.take k).any (fun c=>c==s)=false) ?_ (h:=⟨0,rfl,rfl,rfl,rfl,Nat.zero_le _,rfl⟩)
 rintro mz E I' loc' ⟨k,rfl,rfl,rfl,rfl,hk,hno⟩
 refine Qk (zR (zM ?_))
 refine zM ?_
 refine zQ Qt ?_
 refine zC (zN ?_)
 refine zI ?_ ?_<;>intro hc9
 ·
  have hlt_k:k<n:=by have h:=hc9;simp at h;omega
  obtain ⟨x,hx⟩:=hS.at hlt_k
  refine Qo (Qa (Qk (Ql (zR (zM ?_)))))
  refine zM ?_
  refine zV (Qz rfl rfl Qt (by assumption) (fun hg=>by omega)) ?_
  refine zV (Qd rfl Qr (fun hg=>by exact zAe hS hx rfl)) ?_
  refine zM ?_
  refine zC (zN ?_)
  refine zI ?_ ?_<;>intro hc17
  ·
   refine zR (zA (zN (Qs (Qm (Qb (Qb (Qm ?_)))))))
   refine Qb ?_
   first
   | exact zr rfl rfl (by unfold WH;rw [YM hx hc17];rfl)
  refine Qo (Qg (Qa (Qf (zM ?_))))
  refine zB ?_
  refine zA (Qc ?_)
  exact zm (h:=⟨n-(k+1),by omega,k+1,rfl,rfl,rfl,rfl,by omega,Ym hx hno hc17⟩)
 have hge_k:n≤k:=by have h:=hc9;simp at h;omega
 rw [Zo hS.len hge_k] at hno
 refine QH (Qe (Qe (Qj (Qa (zR (zM ?_))))))
 refine zC ?_
 refine zM ?_
 refine QG 2 rfl rfl rfl ?_
 refine zK (Qh rfl) ?_
 refine zK (Qh rfl) ?_
 refine zK (zhA rfl rfl rfl) ?_
 refine zK (Kj rfl rfl) ?_
 refine zK (QI rfl rfl rfl) ?_
 refine QL rfl rfl rfl rfl rfl ?_
 refine zA (zN (Qs ?_))
 first
 | exact zr rfl rfl (by unfold WH;rw [hno];rfl)
theorem zgH {I:Qw}{av:Option Addr}{n c:Nat}{xs:List Int}(hS:Sl I 1 QP av n c xs)(hn:n≤100000)(s:Int)(hs:s≤1000):Zu Tryz.prog 239 [.slice av n c,.int .i64 s] I (.int .i64 (Qx xs s)):=by
 intro g H w hw
 refine qe Tryz.func239 Tryz.ntmps239 hw ?_
 refine zR (zA (zN (Qk (zR ?_))))
 refine zA (zN (Ql ?_))
 refine zU [(0,_),(1,_)] (fun T L0 mz E I' loc'=>∃ (k:Nat),mz=(max s.toNat 1)-k∧E=(5,.int .i64 k)::T∧I=I'∧L0=loc'∧k≤(max s.toNat 1)∧1≤k∧Qx xs s=Vc xs s k) ?_ (h:=⟨1,rfl,rfl,rfl,rfl,by omega,Nat.le_refl _,rfl⟩)
 rintro mz E I' loc' ⟨k,rfl,rfl,rfl,rfl,hk,h1,hsp⟩
 refine Qk (zR (zM ?_))
 refine zM ?_
 refine zC (zN ?_)
 refine zI ?_ ?_<;>intro hc8
 ·
  have hlt:(k:Int)<s:=by simpa using hc8
  have hs0:0<s:=by omega
  refine Qo (Qa (Qk (Ql (zR (zM ?_)))))
  refine zM ?_
  refine zV (Kj rfl rfl) ?_
  refine zM ?_
  refine zC ?_
  refine zM ?_
  refine QG 5 rfl rfl rfl ?_
  refine zK (Qh rfl) ?_
  refine zK (Qh rfl) ?_
  refine zK (zgE rfl) ?_
  refine zK (Kj rfl rfl) ?_
  refine zK (Qh rfl) ?_
  refine zK (Qh rfl) ?_
  refine zK (zgE rfl) ?_
  refine zK (Kj rfl rfl) ?_
  refine zK (QI rfl rfl rfl) ?_
  refine QL rfl rfl rfl rfl rfl ?_
  refine zM ?_
  refine QG 16 rfl rfl rfl ?_
  refine zK (Qh rfl) ?_
  refine zK (Qh rfl) ?_
  refine qg (vs:=[_,_]) rfl zju (fun hg=>zpb hS hn _) ?_
  refine QL rfl rfl rfl rfl rfl ?_
  refine zM ?_
  refine QG 21 rfl rfl rfl ?_
  refine zK (Qh rfl) ?_
  refine zK (Qh rfl) ?_
  refine zK (Qh rfl) ?_
  refine zK (ZA rfl rfl rfl (fun hg=>by omega)) ?_
  refine qg (vs:=[_,_]) rfl zju (fun hg=>zpb hS hn _) ?_
  refine QL rfl rfl rfl rfl rfl ?_
  refine zN ?_
  refine zI ?_ ?_<;>intro hc38
  ·
   refine zR (zM ?_)
   refine zA (zN (Qs (Qm (Qb (Qb (Qm (Qb ?_)))))))
   first
   | exact zr rfl rfl (by rw [hsp,zhz hlt (by unfold Vv zhO;simpa using hc38)])
  refine Qo (Qg (Qa (Qf (zM ?_))))
  refine zB ?_
  refine zA (Qc ?_)
  exact zm (h:=⟨(max s.toNat 1)-(k+1),by omega,k+1,rfl,rfl,rfl,rfl,by omega,by omega,by rw [hsp,zfb hlt (by unfold Vv zhO;simpa using hc38)]⟩)
 have hge:s≤(k:Int):=by simpa using hc8
 refine QH (Qe (Qe (Qj (Qa (zR (zA (zN ?_)))))))
 refine Qs ?_
 exact zr rfl rfl (by rw [hsp,zhs hge])
end
section
open Go Go.Kn Go.Proofs
theorem znW {I:Qw}{av:Option Addr}{n c:Nat}{xs:List Int}(hS:Sl I 1 QP av n c xs)(m:Int):Zu Tryz.prog 210 [.int .i64 m,.slice av n c] I (.int .i64 (Y8 m xs)):=by
 intro g H w hw
 refine qe Tryz.func210 Tryz.ntmps210 hw ?_
 refine zR (zA (zN (Qk (zR ?_))))
 refine zM ?_
 refine zC (zN ?_)
 refine zI ?_ ?_<;>intro hc9
 ·
  have h6:m>6:=by simpa using hc9
  refine zR (zA (zN (Qs (Qb ?_))))
  exact zr rfl rfl (by rw [zoC h6])
 have h6:¬m>6:=by simpa using hc9
 refine Qo (Qa (Qk (zR (zM ?_))))
 refine zC ?_
 refine zM ?_
 refine QV 2 rfl rfl rfl ?_
 refine zJ (Qh rfl) ?_
 refine zJ (ZB rfl Qt) ?_
 refine zJ (Qh rfl) ?_
 refine zJ (ZA rfl rfl rfl (fun hg=>by (simp [ZV] at hg;omega))) ?_
 refine zJ (QI rfl rfl rfl) ?_
 refine Zs rfl rfl rfl rfl rfl ?_
 refine zN ?_
 refine zI ?_ ?_<;>intro hc18
 ·
  have h18:(decide (m<1)||decide ((xs.length:Int)≠m-1))=true:=by rw [hS.len];simpa using hc18
  refine zR (zA (zN (Qs (Qb ?_))))
  exact zr rfl rfl (by rw [zpx h6 h18])
 have h18:(decide (m<1)||decide ((xs.length:Int)≠m-1))=false:=by rw [hS.len];simpa using hc18
 have hm:1≤m∧m≤6∧(n:Int)=m-1:=by rw [hS.len] at h18;simp at h18;omega
 have hn:n≤100000:=by omega
 have hsh:=zaa ⟨hm.1,hm.2.1⟩
 have hal:=JV ⟨hm.1,hm.2.1⟩
 refine Qo (Qa (zR (zM ?_)))
 refine zV (K6 rfl rfl (fun hg=>by omega)) ?_
 refine zB ?_
 refine zA (zN (Qk (zR ?_)))
 refine zA (zN (Ql ?_))
 refine zU [(0,_),(1,_),(5,_)] (fun T L0 mz E I' loc'=>∃ (k:Nat),mz=n-k∧E=(6,.int .i64 k)::T∧I=I'∧L0=loc'∧k≤n∧(List.range k).all (V8 (ZK m) xs)=true) ?_ (h:=⟨0,rfl,rfl,rfl,rfl,Nat.zero_le _,rfl⟩)
 rintro mz E I' loc' ⟨k,rfl,rfl,rfl,rfl,hk,hall⟩
 refine Qk (zR (zM ?_))
 refine zM ?_
 refine zQ Qt ?_
 refine zC (zN ?_)
 refine zI ?_ ?_<;>intro hc25
 ·
  have hlt_k:k<n:=by have h:=hc25;simp at h;omega
  obtain ⟨x,hx⟩:=hS.at hlt_k
  refine Qo (Qa (Qk (Ql (Qk ?_))))
  refine Yq mixed (by kernel_rfl) ?_
  refine zq (Qh rfl) ?_
  refine zq (Qh rfl) ?_
  refine zq (Qz rfl rfl Qt (by assumption) (fun hg=>by omega)) ?_
  refine zq (Qd rfl Qr (fun hg=>by exact zAe hS hx rfl)) ?_
  refine zq (QI rfl rfl rfl) ?_
  refine zq (Qh rfl) ?_
  refine YP 5 rfl rfl rfl ?_
  refine zj (Qh rfl) ?_
  refine zj (Qh rfl) ?_
  refine zj (Qz rfl rfl Qt (by assumption) (fun hg=>by omega)) ?_
  refine zj (Qd rfl Qr (fun hg=>by exact zAe hS hx rfl)) ?_
  refine zj (Qh rfl) ?_
  refine zj (QI rfl rfl rfl) ?_
  refine Ke rfl rfl rfl rfl rfl ?_
  refine zq (Qh rfl) ?_
  refine YP 13 rfl rfl rfl ?_
  refine zj (Qh rfl) ?_
  refine zj (QI rfl rfl rfl) ?_
  refine zj (Qh rfl) ?_
  refine U7 16 rfl rfl rfl ?_
  refine zk (Qh rfl) ?_
  refine zk (Qh rfl) ?_
  refine zk (Qz rfl rfl Qt (by assumption) (fun hg=>by omega)) ?_
  refine zk (Qd rfl Qr (fun hg=>by exact zAe hS hx rfl)) ?_
  refine zk (Qh rfl) ?_
  refine zk (Qh rfl) ?_
  refine zk (ZA rfl rfl rfl (fun hg=>by omega)) ?_
  refine zk (Qz rfl rfl Qt (by assumption) (fun hg=>by (simp [ZV] at hg;omega))) ?_
  refine zk (Qd rfl Qr (fun hg=>by exact Sl.getD0 (k:=((k:Int)-1).toNat) (d:=0) hS (by simp [ZV] at hg;omega) rfl)) ?_
  refine zk (QI rfl rfl rfl) ?_
  refine zca rfl rfl rfl (.some rfl rfl rfl rfl gbf) rfl rfl ?_
  refine Ke rfl rfl rfl rfl rfl ?_
  refine Yp ?_
  refine Qa ?_
  refine zI ?_ ?_<;>intro hc56
  ·
   refine zR (zA (zN (Qs (Qm (Qb (Qb (Qm ?_)))))))
   refine Qb ?_
   first
   | exact zr rfl rfl (by rw [zpn h6 h18 (by rw [hS.len];exact JB hlt_k (by have:=QN (d:=0) hx;unfold V8 ZK;rw [this,hc56];rfl))])
  refine Qo (Qg (Qa (Qf (zM ?_))))
  refine zB ?_
  refine zA (Qc ?_)
  exact zm (h:=⟨n-(k+1),by omega,k+1,rfl,rfl,rfl,rfl,by omega,VP hall (by have:=QN (d:=0) hx;unfold V8 ZK;rw [this,hc56];rfl)⟩)
 have hge_k:n≤k:=by have h:=hc25;simp at h;omega
 have hall0:(List.range xs.length).all (V8 (ZK m) xs)=true:=by rw [hS.len,show n=k by omega];exact hall
 refine QH (Qe (Qe (Qj (Qa (Qk (zR (zM ?_)))))))
 refine zC ?_
 refine zM ?_
 refine QG 2 rfl rfl rfl ?_
 refine zK (Qh rfl) ?_
 refine zK (Qh rfl) ?_
 refine zK (ZA rfl rfl rfl (fun hg=>by omega)) ?_
 refine zK (Qz rfl rfl Qt (by assumption) (fun hg=>by (simp [ZV] at hg;omega))) ?_
 refine zK (Qd rfl Qr (fun hg=>by exact Sl.getD0 (k:=(m-2).toNat) (d:=0) hS (by simp [ZV] at hg;omega) rfl)) ?_
 refine zK (Qh rfl) ?_
 refine zK (QI rfl rfl rfl) ?_
 refine QL rfl rfl rfl rfl rfl ?_
 refine zN ?_
 refine zI ?_ ?_<;>intro hc67
 ·
  have h67:(decide (m>1)&&decide (xs.getD (m-2).toNat 0≠ZK m))=true:=by unfold ZK;simpa using hc67
  refine zR (zA (zN (Qs (Qb ?_))))
  exact zr rfl rfl (by rw [zo4 h6 h18 hall0 h67])
 have h67:(decide (m>1)&&decide (xs.getD (m-2).toNat 0≠ZK m))=false:=by unfold ZK;simpa using hc67
 refine Qo (Qa (Qk (zR (zA (zN (Ql ?_))))))
 refine zU [(1,_)] (fun T L0 mz E I' loc'=>∃ (k:Nat),mz=n-k∧E=(7,.int .i64 k)::T∧I=I'∧L0=loc'∧k≤n∧(xs.take k).any (fun c=>Qx xs c==0)=false) ?_ (h:=⟨0,rfl,rfl,rfl,rfl,Nat.zero_le _,rfl⟩)
 rintro mz E I' loc' ⟨k,rfl,rfl,rfl,rfl,hk,hno⟩
 refine Qk (zR (zM ?_))
 refine zM ?_
 refine zQ Qt ?_
 refine zC (zN ?_)
 refine zI ?_ ?_<;>intro hc71
 ·
  have hlt_k:k<n:=by have h:=hc71;simp at h;omega
  obtain ⟨x,hx⟩:=hS.at hlt_k
  have hxa:=XV hall0 hx
  refine Qo (Qa (Qk (Ql (zR (zM ?_)))))
  refine zM ?_
  refine zM ?_
  refine zV (Qz rfl rfl Qt (by assumption) (fun hg=>by omega)) ?_
  refine zV (Qd rfl Qr (fun hg=>by exact zAe hS hx rfl)) ?_
  refine qc (vs:=[_,_]) rfl zjE (zgH hS hn _ (by omega)) ?_
  refine zC (zN ?_)
  refine zI ?_ ?_<;>intro hc80
  ·
   refine zR (zA (zN (Qs (Qm (Qb (Qb (Qm ?_)))))))
   refine Qb ?_
   first
   | exact zr rfl rfl (by rw [zfv h6 h18 hall0 h67,YM hx hc80];rfl)
  refine Qo (Qg (Qa (Qf (zM ?_))))
  refine zB ?_
  refine zA (Qc ?_)
  exact zm (h:=⟨n-(k+1),by omega,k+1,rfl,rfl,rfl,rfl,by omega,Ym hx hno hc80⟩)
 have hge_k:n≤k:=by have h:=hc71;simp at h;omega
 rw [Zo hS.len hge_k] at hno
 refine QH (Qe (Qe (Qj (Qa (zR (zA (zN ?_)))))))
 refine Qs ?_
 first
 | exact zr rfl rfl (by rw [zfv h6 h18 hall0 h67,hno];rfl)
end
section
open Go Go.Kn Go.Proofs
def Ur {α:Type}(p:α→Bool)(xs:List α):Int:=if xs.any p then (xs.findIdx p:Int) else -1
theorem JJ {α:Type}{xs:List α}{k:Nat}{x:α}{p:α→Bool}(h:(xs.take k).any p=false)(hx:xs[k]? =some x)(hp:p x=true):Ur p xs=k:=by
 unfold Ur
 rw [YM hx hp,if_pos rfl]
 have hk:=(List.getElem?_eq_some_iff.1 hx).1
 have:xs.findIdx p=k:=by
  rw [List.findIdx_eq hk]
  refine ⟨by rw [(List.getElem?_eq_some_iff.1 hx).2];exact hp,fun j hj=>?_⟩
  have:=List.any_eq_false.1 h xs[j] (by rw [List.mem_take_iff_getElem];exact ⟨j,by omega,rfl⟩)
  simpa using this
 omega
theorem VT {α:Type}{xs:List α}{k n:Nat}{p:α→Bool}(hl:xs.length=n)(hk:n≤k)(h:(xs.take k).any p=false):Ur p xs= -1:=by
 unfold Ur
 rw [Zo hl hk] at h
 rw [h];rfl
theorem KH {α:Type}{xs:List α}{p:α→Bool}:decide (Ur p xs≥0)=xs.any p:=by
 unfold Ur
 cases h:xs.any p
 ·
  rfl
 simp
theorem ztg {I:Qw}{av:Option Addr}{n c:Nat}{xs:List Int}(hS:Sl I 1 QP av n c xs)(hn:n≤100000)(v:Int):Zu Tryz.prog 101 [.slice av n c,.int .i64 v] I (.int .i64 (Ur (fun y=>v==y) xs)):=by
 intro g H w hw
 refine qe Tryz.func101 Tryz.ntmps101 hw ?_
 refine zR (zA (zN (Qk (zR ?_))))
 refine zM ?_
 refine zQ Qt ?_
 refine zM (zN (Ql ?_))
 refine zU [(0,_),(1,_),(7,_)] (fun T L0 mz E I' loc'=>∃ (k:Nat),mz=n-k∧E=(8,.int .i64 k)::T∧I=I'∧L0=loc'∧k≤n∧(xs.take k).any (fun y=>v==y)=false) ?_ (h:=⟨0,rfl,rfl,rfl,rfl,Nat.zero_le _,rfl⟩)
 rintro mz E I' loc' ⟨k,rfl,rfl,rfl,rfl,hk,hno⟩
 refine zR (zC (zN (Qk ?_)))
 refine zI ?_ ?_<;>intro hc9
 ·
  have hlt_k:k<n:=by have h:=hc9;simp at h;omega
  obtain ⟨x,hx⟩:=hS.at hlt_k
  refine Qo (Qa (Qk (Ql (zR (zM ?_)))))
  refine zA ?_
  refine zN (zR ?_)
  refine zM ?_
  refine zM ?_
  refine zM ?_
  refine zV (Qz rfl rfl Qt (by assumption) (fun hg=>by omega)) ?_
  refine zV (Qd rfl Qr (fun hg=>by exact zAe hS hx rfl)) ?_
  refine zC (zN ?_)
  refine zI ?_ ?_<;>intro hc16
  ·
   refine zR (zM ?_)
   refine zA (zN (Qs (Qm (Qb (Qb (Qm (Qb ?_)))))))
   exact zr rfl rfl (by rw [JJ hno hx hc16])
  refine Qo (Qg (Qa (Qf (zB ?_))))
  refine zM (Qc ?_)
  exact zm (h:=⟨n-(k+1),by omega,k+1,rfl,rfl,rfl,rfl,by omega,Ym hx hno hc16⟩)
 have hge_k:n≤k:=by have h:=hc9;simp at h;omega
 refine QH (Qe (Qe (Qj (Qa (zR (zA (zN ?_)))))))
 refine Qs ?_
 exact zr rfl rfl (by rw [VT hS.len hge_k hno])
theorem Kc {I:Qw}{av:Option Addr}{n c:Nat}{xs:List Int}(hS:Sl I 1 QP av n c xs)(hn:n≤100000)(v:Int):Zu Tryz.prog 57 [.slice av n c,.int .i64 v] I (.bool (xs.any (fun y=>v==y))):=by
 intro g H w hw
 refine qe Tryz.func57 Tryz.ntmps57 hw ?_
 refine zR (zA ?_)
 refine zN (zR ?_)
 refine zM ?_
 refine zM ?_
 refine qc (vs:=[_,_]) rfl zqi (ztg hS hn v) ?_
 refine zC ?_
 refine zA (zN (Qs ?_))
 first
 | exact zr rfl rfl (by rw [←KH])
theorem zwL {I:Qw}{b:Nat}{av:Option Addr}{n c:Nat}{xs:List Int}(hc:QY I [] b 0 (.slice av n c))(hS:Sl I 1 QP av n c xs)(hn:n≤100000)(s:Int):Zu Tryz.prog 200 [.int .i64 s,Ze b] I (.bool (zwW xs s)):=by
 intro g H w hw
 refine qe Tryz.func200 Tryz.ntmps200 hw ?_
 refine zR (zA ?_)
 refine zN (zR ?_)
 refine zM ?_
 refine qc (vs:=[_]) rfl zh4 (zgO I _) ?_
 refine zM ?_
 refine QV 2 rfl rfl rfl ?_
 refine zJ (Qd rfl QJ (fun hg=>by exact hc.any)) ?_
 refine zJ (Qh rfl) ?_
 refine qf (vs:=[_,_]) rfl zcX (fun hg=>Kc hS hn _) ?_
 refine Zs rfl rfl rfl rfl rfl ?_
 refine zA (zN (Qs ?_))
 exact zr rfl rfl (by rfl)
end
section
open Go Go.Kn Go.Proofs
theorem zei {I:Qw}{av:Option Addr}{n c:Nat}{xs:List Int}(hS:Sl I 1 QP av n c xs)(hn:n≤100000)(s:Int)(hs:1≤s∧s≤63):Zu Tryz.prog 153 [.slice av n c,.int .i64 s] I (.tuple #[.int .i64 (ze0 xs s),.int .i64 (zeg xs s),.bool (WO xs s).isSome]):=by
 intro g H w hw
 refine qe Tryz.func153 Tryz.ntmps153 hw ?_
 have hIc:=zAl I
 refine zR ?_
 refine Q9 rfl rfl rfl (fun b_2=>?_)
 refine zA ?_
 refine zA ?_
 refine zA (zN (Qk ?_))
 refine Zn .here (fun I1 hI1 hb1=>?_)
 have hS:=hS.mono hI1;have hIc:=hIc.trans hI1
 have hbx:=hb1
 refine Qf ?_
 refine zV (Zf (us:=[]) (vs:=[_]) rfl rfl) ?_
 refine zA (zN (Qk (zR ?_)))
 refine zM ?_
 refine zV (zhA rfl rfl rfl) ?_
 refine zM ?_
 refine zV (Kj rfl rfl) ?_
 refine zA (Qc ?_)
 have hn0:=zjR (a:=s) (s:=s) (by omega) (by omega)
 refine Qa (Ql ?_)
 refine zU [(1,_),(7,_)] (fun T L0 mz E I' loc'=>∃ (a:Int) (f:Nat),mz=a.toNat∧E=(8,.int .i64 a)::T∧I1=I'∧L0=loc'∧0≤a∧a≤63∧a.toNat<f∧WO xs s=UC xs s f a) ?_ (h:=⟨Wh s s,64,rfl,rfl,rfl,rfl,hn0.1,by omega,by omega,rfl⟩)
 rintro mz E I' loc' ⟨a,f,rfl,rfl,rfl,rfl,ha0,ha1,haf,hpf⟩
 refine Qk (zR (zM ?_))
 refine zC (zN ?_)
 refine zI ?_ ?_<;>intro hc15
 ·
  have ha:a>0:=by simpa using hc15
  obtain ⟨f,rfl⟩:∃ q,f=q+1:=⟨f-1,by omega⟩
  have hna:=zjR (a:=a) (s:=s) (by omega) (by omega)
  have hlt2:(Wh s a).toNat<a.toNat:=by omega
  refine Qo (Qa (Qk (Ql (zR (zM ?_)))))
  refine zM ?_
  refine zV (zgE rfl) ?_
  refine zV (Kj rfl rfl) ?_
  refine zM ?_
  refine zM ?_
  refine zV (zgE rfl) ?_
  refine zV (Kj rfl rfl) ?_
  refine zC ?_
  refine zM ?_
  refine QG 9 rfl rfl rfl ?_
  refine zK (Qh rfl) ?_
  refine zK (Qh rfl) ?_
  refine U9 (cap:=[Ze b_2]) (vs:=[_]) rfl rfl zkR (fun hg=>zwL (.imm hbx rfl) hS hn _) (.some rfl rfl rfl rfl gbt) rfl rfl ?_
  refine QL rfl rfl rfl rfl rfl ?_
  refine zM ?_
  refine QG 14 rfl rfl rfl ?_
  refine zK (Qh rfl) ?_
  refine zK (Qh rfl) ?_
  refine zK (Qh rfl) ?_
  refine zK (zdF rfl rfl) ?_
  refine U9 (cap:=[Ze b_2]) (vs:=[_]) rfl rfl zkR (fun hg=>zwL (.imm hbx rfl) hS hn _) (.some rfl rfl rfl rfl gbt) rfl rfl ?_
  refine QL rfl rfl rfl rfl rfl ?_
  refine zN ?_
  refine zI ?_ ?_<;>intro hc40
  ·
   have hv:WO xs s=some a:=by rw [hpf,zj5 ha (by unfold WX zhO;simpa using hc40)]
   refine zR (zM ?_)
   refine zM ?_
   refine zM ?_
   refine zV (zdF rfl rfl) ?_
   refine zA ?_
   refine zA ?_
   refine zA (zN (Qs (Qm (Qb (Qb (Qm (Qb ?_)))))))
   exact KM rfl rfl rfl rfl (fun w hw=>⟨by unfold ze0 zeg;rw [hv];rfl,(hw.mono hIc).drop⟩)
  have hpf2:WO xs s=UC xs s f (Wh s a):=by rw [hpf,zhp ha (by unfold WX zhO;simpa using hc40)]
  refine Qo (Qg (Qa (Qf (zM ?_))))
  refine zV (zhA rfl rfl rfl) ?_
  refine zM ?_
  refine zV (Kj rfl rfl) ?_
  refine zA (Qc ?_)
  exact zm (h:=⟨_,hlt2,Wh s a,f,rfl,rfl,rfl,rfl,hna.1,by omega,by omega,hpf2⟩)
 have ha:¬a>0:=by simpa using hc15
 have hv:WO xs s=none:=by rw [hpf,zij ha]
 refine QH (Qe (Qe (Qj (Qa (zR (zA ?_))))))
 refine zA ?_
 refine zA (zN (Qs ?_))
 exact KM rfl rfl rfl rfl (fun w hw=>⟨by unfold ze0 zeg;rw [hv];rfl,(hw.mono hIc).drop⟩)
end
section
open Go Go.Kn Go.Proofs
def zxX (s:Int):Nat→Int→List Int
 | 0,_=>[]
 | f+1,a=>if decide (a>0) then a::zxX s f (Wh s a) else []
theorem WQ {cl:List Int}{s:Int}:∀ (f:Nat) (a:Int),UC cl s f a=(zxX s f a).find? (WX cl s)
 | 0,_=>rfl
 | f+1,a=>by
  unfold UC zxX
  split
  ·
   rw [List.find?_cons,WQ f]
   cases WX cl s a<;>rfl
  ·
   rfl
def zs5 (s:Nat):List Int:=((List.range' 1 (s-1)).map (fun k:Nat=>(k:Int))).filter (fun a=>JO a s==a)
theorem zh8:((List.range 64).all fun s=>decide (zxX (s:Int) 64 (Wh s s)=(zs5 s).reverse)&&(zs5 s).all (fun a=>zd0 s a==s-a))=true:=by kernel_rfl
theorem zeJ {cl:List Int}{s a:Int}(h1:JO a s=a)(h2:zd0 s a=s-a):WX cl s a=Vv cl s a:=by
 have hown:∀ x,zwW cl x=WH cl x:=fun x=>by
  unfold zwW WH
  rw [Bool.or_comm]
  congr 1
  congr 1
  funext y
  exact Bool.eq_iff_iff.2 (by simp;exact eq_comm)
 unfold WX Vv
 rw [h1,h2,hown,hown]
 simp
theorem zdJ {cl:List Int}{s:Int}(hs:1≤s∧s≤63):(WO cl s).isSome= !(Qx cl s==0):=by
 obtain ⟨n,rfl⟩:∃ n:Nat,s=(n:Int):=⟨s.toNat,by omega⟩
 have ht:=List.all_eq_true.1 zh8 n (List.mem_range.2 (by omega))
 rw [Bool.and_eq_true,decide_eq_true_eq] at ht
 have hl:=List.all_eq_true.1 ht.2
 have e1:(WO cl n).isSome=(zs5 n).any (WX cl n):=by
  unfold WO
  rw [WQ,ht.1]
  exact Bool.eq_iff_iff.2 (by rw [List.find?_isSome,List.any_eq_true];simp)
 have e2:(zs5 n).any (WX cl n)=(List.range' 1 (n-1)).any (fun k:Nat=>Vv cl n k):=by
  unfold zs5 at hl ⊢
  rw [Bool.eq_iff_iff,List.any_eq_true,List.any_eq_true]
  constructor
  ·
   rintro ⟨a,ha,hp⟩
   have hla:=hl a ha
   rw [List.mem_filter,List.mem_map] at ha
   obtain ⟨⟨k,hk,rfl⟩,h2⟩:=ha
   exact ⟨k,hk,by rw [←zeJ (by simpa using h2) (by simpa using hla)];exact hp⟩
  ·
   rintro ⟨k,hk,hp⟩
   have h2:JO (k:Int) n=k:=by
    unfold Vv at hp
    simp only [Bool.and_eq_true,beq_iff_eq] at hp
    exact hp.1.1.1
   have hm:(k:Int)∈((List.range' 1 (n-1)).map (fun k:Nat=>(k:Int))).filter (fun a=>JO a n==a):=List.mem_filter.2 ⟨List.mem_map.2 ⟨k,hk,rfl⟩,by simpa using h2⟩
   exact ⟨k,hm,by rw [zeJ h2 (by simpa using hl _ hm)];exact hp⟩
 rw [e1,e2]
 unfold Qx Vc
 rw [show (n:Int).toNat -1=n-1 by omega]
 cases e:(List.range' 1 (n-1)).find? (fun k:Nat=>Vv cl n k) with
 | none=>
  rw [List.find?_eq_none] at e
  simp only [beq_self_eq_true,Bool.not_true]
  rw [List.any_eq_false]
  exact e
 | some k=>
  have hk:=List.mem_of_find?_eq_some e
  have hp:=List.find?_some e
  rw [List.mem_range'] at hk
  obtain ⟨i,hi,e3⟩:=hk
  have:((k:Int)==0)=false:=beq_false_of_ne (by omega)
  simp only [this,Bool.not_false]
  exact List.any_eq_true.2 ⟨k,List.mem_of_find?_eq_some e,hp⟩
def zj7 (xs:List Int)(k:Nat)(l:Int):Prop:=(k=0→l=0)∧∀ y,xs[k-1]? =some y→k≠0→l=y∧1≤y
theorem zfC {xs:List Int}{k:Nat}{x l b:Int}(hx:xs[k]? =some x)(hl:zj7 xs k l):V8 (b-1) xs k= !(decide (x≤l)||decide (x≥b)):=by
 unfold V8
 rw [QN hx]
 cases k with
 | zero=>
  rw [hl.1 rfl]
  simp only [show decide (((0:Nat):Int)>0)=false from rfl,Bool.false_and,Bool.or_false]
  congr 1
  rw [Bool.eq_iff_iff]
  simp
  omega
 | succ k=>
  have hk:=(List.getElem?_eq_some_iff.1 hx).1
  have hy:xs[k]? =some (xs[k]'(by omega)):=List.getElem?_eq_getElem _
  obtain ⟨e,h1⟩:=hl.2 _ (by rw [Nat.add_sub_cancel];exact hy) (by omega)
  rw [show (((k+1:Nat):Int)-1).toNat=k by omega,QN hy,←e]
  rw [←e] at h1
  congr 1
  rw [Bool.eq_iff_iff]
  simp
  omega
theorem zhq {xs:List Int}{k:Nat}{x l:Int}(hx:xs[k]? =some x)(_hl:zj7 xs k l)(h:l<x)(h0:0≤l):zj7 xs (k+1) x:=
 ⟨fun h=>by omega,fun y hy _=>by rw [Nat.add_sub_cancel,hx] at hy;cases hy;exact ⟨rfl,by omega⟩⟩
theorem zcQ {xs:List Int}{k:Nat}{l m:Int}(hl:zj7 xs k l)(hk:xs.length=k)(hm:(xs.length:Int)=m-1)(h1:m>1):xs.getD (m-2).toNat 0=l:=by
 have hk0:k≠0:=by omega
 have hy:xs[k-1]? =some (xs[k-1]'(by omega)):=List.getElem?_eq_getElem _
 rw [show (m-2).toNat=k-1 by omega,QN hy,(hl.2 _ hy hk0).1]
def iA (m:Int)(cl:List Int)(s:Int):Int:=if Y6 m cl s≠0 then 0 else ze0 cl s
def iB (m:Int)(cl:List Int)(s:Int):Int:=if Y6 m cl s≠0 then 0 else zeg cl s
theorem zku {m:Int}{cl:List Int}{s:Int}(h:Y6 m cl s≠0):iA m cl s=0∧iB m cl s=0:=by unfold iA iB;rw [if_pos h,if_pos h];exact ⟨rfl,rfl⟩
theorem zv4 {m:Int}{cl:List Int}{s:Int}(h:Y6 m cl s=0):iA m cl s=ze0 cl s∧iB m cl s=zeg cl s:=by unfold iA iB;rw [if_neg (by omega),if_neg (by omega)];exact ⟨rfl,rfl⟩
theorem ziC {cl:List Int}{s:Int}:cl.any (fun y=>s==y)=cl.any (fun c=>c==s):=by
 congr 1
 funext y
 exact Bool.eq_iff_iff.2 (by simp;exact eq_comm)
def zlO (rows:List (List Int)):Bool:=if rows.length>6 then decide ((rows.length:Int)≤20) else rows.all (fun r=> !(decide ((r.length:Int)>12)&&(decide ((r.length:Int)≤64)||decide ((r.length:Int)>100))))&&decide ((rows.length:Int)≤5)
end
section
open Go Go.Kn Go.Proofs
theorem zid {I:Qw}{av:Option Addr}{n c:Nat}{xs:List Int}(hS:Sl I 1 QP av n c xs)(m:Int):Zu Tryz.prog 151 [.int .i64 m,.slice av n c] I (.int .i64 (Y8 m xs)):=by
 intro g H w hw
 refine qe Tryz.func151 Tryz.ntmps151 hw ?_
 refine zR (zA (zN (Qk (Ql (zR ?_)))))
 refine zM ?_
 refine zC ?_
 refine zA (zN ?_)
 refine zI ?_ ?_<;>intro hc13
 ·
  have h6:m>6:=by simpa using hc13
  refine zR (zA (zN (Qs (Qm (Qb ?_)))))
  exact zr rfl rfl (by rw [zoC h6])
 have h6:¬m>6:=by simpa using hc13
 refine zR (zM ?_)
 refine zC ?_
 refine zM ?_
 refine QV 2 rfl rfl rfl ?_
 refine zJ (Qh rfl) ?_
 refine zJ (ZB rfl Qt) ?_
 refine zJ (Qh rfl) ?_
 refine zJ (ZA rfl rfl rfl (fun hg=>by (simp [ZV] at hg;omega))) ?_
 refine zJ (QI rfl rfl rfl) ?_
 refine Zs rfl rfl rfl rfl rfl ?_
 refine zA (zN ?_)
 refine zI ?_ ?_<;>intro hc16
 ·
  have h18:(decide (m<1)||decide ((xs.length:Int)≠m-1))=true:=by rw [hS.len];simpa using hc16
  refine zR (zA (zN (Qs (Qm (Qb ?_)))))
  exact zr rfl rfl (by rw [zpx h6 h18])
 have h18:(decide (m<1)||decide ((xs.length:Int)≠m-1))=false:=by rw [hS.len];simpa using hc16
 have hm:1≤m∧m≤6∧(n:Int)=m-1:=by rw [hS.len] at h18;simp at h18;omega
 have hn:n≤100000:=by omega
 have hsh:=zaa ⟨hm.1,hm.2.1⟩
 have hal:=JV ⟨hm.1,hm.2.1⟩
 refine Qo (Qg (Qa (zR (zA (zN (Qk (zR ?_)))))))
 refine zM ?_
 refine zQ Qt ?_
 refine zM (zN (Ql ?_))
 refine zU [(0,_),(1,_),(26,_),(27,_)] (fun T L0 mz E I' loc'=>∃ (k:Nat) (l:Int),mz=n-k∧E=(5,.int .i64 l)::(28,.int .i64 k)::T∧I=I'∧L0=loc'∧k≤n∧(List.range k).all (V8 (ZK m) xs)=true∧zj7 xs k l∧0≤l) ?_ (h:=⟨0,0,rfl,rfl,rfl,rfl,Nat.zero_le _,rfl,⟨fun _=>rfl,fun _ _ h=>absurd rfl h⟩,Int.le_refl _⟩)
 rintro mz E I' loc' ⟨k,l,rfl,rfl,rfl,rfl,hk,hall,hl,hl0⟩
 refine zR (zC (zN (Qk ?_)))
 refine zI ?_ ?_<;>intro hc29
 ·
  have hlt_k:k<n:=by have h:=hc29;simp at h;omega
  obtain ⟨x,hx⟩:=hS.at hlt_k
  refine Qo (Qa (Qk (Ql (zR ?_))))
  refine zV (Qz rfl rfl Qt (by assumption) (fun hg=>by omega)) ?_
  refine zV (Qd rfl Qr (fun hg=>by exact zAe hS hx rfl)) ?_
  refine zA (zN (Qk (zR ?_)))
  refine zM ?_
  refine zM ?_
  refine zC ?_
  refine zM ?_
  refine QV 3 rfl rfl rfl ?_
  refine zJ (Qh rfl) ?_
  refine zJ (Qh rfl) ?_
  refine zJ (K6 rfl rfl (fun hg=>by omega)) ?_
  refine zJ (QI rfl rfl rfl) ?_
  refine Zs rfl rfl rfl rfl rfl ?_
  refine zN ?_
  refine zI ?_ ?_<;>intro hc40
  ·
   refine zR (zA (zN (Qs (Qb (Qm (Qb (Qb ?_)))))))
   refine Qm (Qb ?_)
   first
   | exact zr rfl rfl (by rw [zpn h6 h18 (by rw [hS.len];exact JB hlt_k (by unfold ZK;rw [zfC hx hl,hc40];rfl))])
  have hlx:l<x:=by simp at hc40;omega
  refine Qo (Qa (Qf (zM ?_)))
  refine zA (Qc (Qg (Qa (Qf ?_))))
  refine zB ?_
  refine zM (Qc ?_)
  exact zm (h:=⟨n-(k+1),by omega,k+1,x,rfl,rfl,rfl,rfl,by omega,VP hall (by unfold ZK;rw [zfC hx hl,hc40];rfl),zhq hx hl hlx hl0,by omega⟩)
 have hge_k:n≤k:=by have h:=hc29;simp at h;omega
 have hall0:(List.range xs.length).all (V8 (ZK m) xs)=true:=by rw [hS.len,show n=k by omega];exact hall
 have hnk:n=k:=by omega
 refine QH (Qe (Qe (Qj (Qa (Qk (zR (zM ?_)))))))
 refine zC ?_
 refine zM ?_
 refine QG 2 rfl rfl rfl ?_
 refine zK (Qh rfl) ?_
 refine zK (Qh rfl) ?_
 refine zK (K6 rfl rfl (fun hg=>by omega)) ?_
 refine zK (ZA rfl rfl rfl (fun hg=>by omega)) ?_
 refine zK (QI rfl rfl rfl) ?_
 refine QL rfl rfl rfl rfl rfl ?_
 refine zN ?_
 refine zI ?_ ?_<;>intro hc51
 ·
  have h67:(decide (m>1)&&decide (xs.getD (m-2).toNat 0≠ZK m))=true:=by have h:=hc51;simp only [Bool.and_eq_true,decide_eq_true_eq] at h;rw [zcQ hl (by rw [hS.len];exact hnk) (by rw [hS.len];exact hm.2.2) h.1];unfold ZK;simpa using hc51
  refine zR (zA (zN (Qs (Qb ?_))))
  exact zr rfl rfl (by rw [zo4 h6 h18 hall0 h67])
 have h67:(decide (m>1)&&decide (xs.getD (m-2).toNat 0≠ZK m))=false:=(Decidable.em (m>1)).elim (fun h1=>by rw [zcQ hl (by rw [hS.len];exact hnk) (by rw [hS.len];exact hm.2.2) h1];unfold ZK;simpa using hc51) (fun h1=>by rw [decide_eq_false h1];rfl)
 refine Qo (Qa (Qk (zR (zM ?_))))
 refine zQ Qt ?_
 refine zM (zN (Ql ?_))
 refine zU [(1,_),(52,_),(53,_)] (fun T L0 mz E I' loc'=>∃ (k:Nat),mz=n-k∧E=(54,.int .i64 k)::T∧I=I'∧L0=loc'∧k≤n∧(xs.take k).any (fun c=>Qx xs c==0)=false) ?_ (h:=⟨0,rfl,rfl,rfl,rfl,Nat.zero_le _,rfl⟩)
 rintro mz E I' loc' ⟨k,rfl,rfl,rfl,rfl,hk,hno⟩
 refine zR (zC (zN (Qk ?_)))
 refine zI ?_ ?_<;>intro hc55
 ·
  have hlt_k:k<n:=by have h:=hc55;simp at h;omega
  obtain ⟨x,hx⟩:=hS.at hlt_k
  have hxa:=XV hall0 hx
  have hps:=zdJ (cl:=xs) (s:=x) (by omega)
  refine Qo (Qa (Qk (Ql (zR ?_))))
  refine zV (Qz rfl rfl Qt (by assumption) (fun hg=>by omega)) ?_
  refine zV (Qd rfl Qr (fun hg=>by exact zAe hS hx rfl)) ?_
  refine zA ?_
  refine zN (zR ?_)
  refine zM ?_
  refine zM ?_
  refine qc (vs:=[_,_]) rfl ze2 (zei hS hn x (by omega)) ?_
  refine zM ?_
  refine zE ?_
  refine zE ?_
  refine zE ?_
  refine zA ?_
  refine zA ?_
  refine zA ?_
  refine zN (zR ?_)
  refine zM ?_
  refine zO (zN ?_)
  refine zI ?_ ?_<;>intro hc66
  ·
   have hsp:(Qx xs x==0)=true:=by rw [hps] at hc66;simpa using hc66
   refine zR (zA (zN (Qs (Qm (Qb (Qb (Qm ?_)))))))
   refine Qb ?_
   first
   | exact zr rfl rfl (by rw [zfv h6 h18 hall0 h67,YM hx hsp];rfl)
  have hsp:(Qx xs x==0)=false:=by rw [hps] at hc66;simpa using hc66
  refine Qo (Qg (Qa (Qf (zB ?_))))
  refine zM (Qc ?_)
  exact zm (h:=⟨n-(k+1),by omega,k+1,rfl,rfl,rfl,rfl,by omega,Ym hx hno hsp⟩)
 have hge_k:n≤k:=by have h:=hc55;simp at h;omega
 rw [Zo hS.len hge_k] at hno
 refine QH (Qe (Qe (Qj (Qa (zR (zA (zN ?_)))))))
 refine Qs ?_
 first
 | exact zr rfl rfl (by rw [zfv h6 h18 hall0 h67,hno];rfl)
end
section
open Go Go.Kn Go.Proofs
theorem zrA {I:Qw}{av:Option Addr}{n c:Nat}{xs:List Int}(hS:Sl I 1 QP av n c xs)(hn:n≤100000)(m s:Int):Zu Tryz.prog 94 [.int .i64 m,.slice av n c,.int .i64 s] I (.tuple #[.int .i64 (iA m xs s),.int .i64 (iB m xs s),.int .i64 (Y6 m xs s)]):=by
 intro g H w hw
 refine qe Tryz.func94 Tryz.ntmps94 hw ?_
 refine zR (zA ?_)
 refine zA ?_
 refine zA (zN (Qk (zR ?_)))
 refine zM ?_
 refine zM ?_
 refine qc (vs:=[_,_]) rfl zkv (zid hS _) ?_
 refine zA ?_
 refine zN (zR ?_)
 refine zM ?_
 refine zC (zN ?_)
 refine zI ?_ ?_<;>intro hc13
 ·
  have hb:=zhv (s:=s) (show Y8 m xs≠0 by simpa using hc13)
  have hb2:=zku (show Y6 m xs s≠0 by rw [hb];simpa using hc13)
  refine zR (zM ?_)
  refine zA ?_
  refine zA ?_
  refine zA (zN (Qs (Qb ?_)))
  exact KM rfl rfl rfl rfl (fun w hw=>⟨by rw [hb2.1,hb2.2,hb],hw.drop⟩)
 have hc0:Y8 m xs=0:=by simpa using hc13
 refine Qo (Qa (Qk (zR (zM ?_))))
 refine zM ?_
 refine qc (vs:=[_,_]) rfl zcX (Kc hS hn _) ?_
 refine zO (zN ?_)
 refine zI ?_ ?_<;>intro hc18
 ·
  have hb:=zeD (s:=s) hc0 (by rw [←ziC];simpa using hc18)
  have hb2:=zku (show Y6 m xs s≠0 by rw [hb];decide)
  refine zR (zA ?_)
  refine zA ?_
  refine zA (zN (Qs (Qb ?_)))
  exact KM rfl rfl rfl rfl (fun w hw=>⟨by rw [hb2.1,hb2.2,hb],hw.drop⟩)
 have hin:xs.any (fun c=>c==s)=true:=by rw [←ziC];simpa using hc18
 have hb:=zdT hc0 hin
 have hb2:=zv4 hb
 have hs:=(Zy hc0).2.2.2 s (by simpa using hin)
 refine Qo (Qa (zR (zM ?_)))
 refine zM ?_
 refine qc (vs:=[_,_]) rfl ze2 (zei hS hn s (by omega)) ?_
 refine zM ?_
 refine zE ?_
 refine zE ?_
 refine zE ?_
 refine zA ?_
 refine zA ?_
 refine zN (zR ?_)
 refine zM ?_
 refine zM ?_
 refine zA ?_
 refine zA ?_
 refine zA (zN (Qs ?_))
 first
 | exact KM rfl rfl rfl rfl (fun w hw=>⟨by rw [hb2.1,hb2.2,hb];rfl,hw.drop⟩)
theorem zvO (I:Qw)(a:Option Addr)(n c:Nat):Zu Tryz.prog 197 [.slice a n c] I (.bool (decide ((n:Int)>64))):=by
 intro g H w hw
 refine qe Tryz.func197 Tryz.ntmps197 hw ?_
 refine zR (zA ?_)
 refine zN (zR ?_)
 refine zM ?_
 refine zQ Qt ?_
 refine zC ?_
 refine zA (zN (Qs ?_))
 exact zr rfl rfl (by rfl)
theorem zqG (I:Qw)(v:Int):Zu Tryz.prog 198 [.int .i64 v] I (.bool (decide (v<0)||decide (v>8589934592))):=by
 intro g H w hw
 refine qe Tryz.func198 Tryz.ntmps198 hw ?_
 refine zR (zA ?_)
 refine zN (zR ?_)
 refine zM ?_
 refine zC ?_
 refine zM ?_
 refine QV 2 rfl rfl rfl ?_
 refine zJ (Qh rfl) ?_
 refine zJ (QI rfl rfl rfl) ?_
 refine Zs rfl rfl rfl rfl rfl ?_
 refine zA (zN (Qs ?_))
 exact zr rfl rfl (by rfl)
theorem zne {I:Qw}{bv:Option Addr}{n2 c2:Nat}{hs:List Hd}(hH:Sl I 1 WL bv n2 c2 hs)(hn:n2≤100000):Zu Tryz.prog 100 [.slice bv n2 c2,.func (.func 197) #[] #[]] I (.int .i64 (Ur (fun h:Hd=>decide ((h.n:Int)>64)) hs)):=by
 intro g H w hw
 refine qe Tryz.func100 Tryz.ntmps100 hw ?_
 refine zR (zA (zN (Qk (zR ?_))))
 refine zM ?_
 refine zQ Q0 ?_
 refine zM (zN (Ql ?_))
 refine zU [(0,_),(1,_),(7,_)] (fun T L0 mz E I' loc'=>∃ (k:Nat),mz=n2-k∧E=(8,.int .i64 k)::T∧I=I'∧L0=loc'∧k≤n2∧(hs.take k).any (fun h:Hd=>decide ((h.n:Int)>64))=false) ?_ (h:=⟨0,rfl,rfl,rfl,rfl,Nat.zero_le _,rfl⟩)
 rintro mz E I' loc' ⟨k,rfl,rfl,rfl,rfl,hk,hno⟩
 refine zR (zC (zN (Qk ?_)))
 refine zI ?_ ?_<;>intro hc9
 ·
  have hlt_k:k<n2:=by have h:=hc9;simp at h;omega
  obtain ⟨x,hx⟩:=hH.at hlt_k
  refine Qo (Qa (Qk (Ql (zR (zM ?_)))))
  refine zA ?_
  refine zN (zR ?_)
  refine zM ?_
  refine zM ?_
  refine zM ?_
  refine zV (Qz rfl rfl Q0 (by assumption) (fun hg=>by omega)) ?_
  refine zV (Qd rfl QJ (fun hg=>by exact zAe hH hx rfl)) ?_
  refine qc (vs:=[_]) rfl zs3 (zvO I x.a x.n x.c) ?_
  refine zN ?_
  refine zI ?_ ?_<;>intro hc16
  ·
   refine zR (zM ?_)
   refine zA (zN (Qs (Qm (Qb (Qb (Qm (Qb ?_)))))))
   exact zr rfl rfl (by rw [JJ hno hx hc16])
  refine Qo (Qg (Qa (Qf (zB ?_))))
  refine zM (Qc ?_)
  exact zm (h:=⟨n2-(k+1),by omega,k+1,rfl,rfl,rfl,rfl,by omega,Ym hx hno hc16⟩)
 have hge_k:n2≤k:=by have h:=hc9;simp at h;omega
 refine QH (Qe (Qe (Qj (Qa (zR (zA (zN ?_)))))))
 refine Qs ?_
 exact zr rfl rfl (by rw [VT hH.len hge_k hno])
theorem zeA {I:Qw}{bv:Option Addr}{n2 c2:Nat}{hs:List Hd}(hH:Sl I 1 WL bv n2 c2 hs)(hn:n2≤100000):Zu Tryz.prog 53 [.slice bv n2 c2,.func (.func 197) #[] #[]] I (.bool (hs.any (fun h:Hd=>decide ((h.n:Int)>64)))):=by
 intro g H w hw
 refine qe Tryz.func53 Tryz.ntmps53 hw ?_
 refine zR (zA ?_)
 refine zN (zR ?_)
 refine zM ?_
 refine zM ?_
 refine qc (vs:=[_,_]) rfl zbK (zne hH hn) ?_
 refine zC ?_
 refine zA (zN (Qs ?_))
 first
 | exact zr rfl rfl (by rw [←KH])
theorem zns {I:Qw}{av:Option Addr}{n c:Nat}{xs:List Int}(hS:Sl I 1 QP av n c xs)(hn:n≤100000):Zu Tryz.prog 148 [.slice av n c,.func (.func 198) #[] #[]] I (.int .i64 (Ur (fun v=>decide (v<0)||decide (v>8589934592)) xs)):=by
 intro g H w hw
 refine qe Tryz.func148 Tryz.ntmps148 hw ?_
 refine zR (zA (zN (Qk (zR ?_))))
 refine zM ?_
 refine zQ Qt ?_
 refine zM (zN (Ql ?_))
 refine zU [(0,_),(1,_),(7,_)] (fun T L0 mz E I' loc'=>∃ (k:Nat),mz=n-k∧E=(8,.int .i64 k)::T∧I=I'∧L0=loc'∧k≤n∧(xs.take k).any (fun v=>decide (v<0)||decide (v>8589934592))=false) ?_ (h:=⟨0,rfl,rfl,rfl,rfl,Nat.zero_le _,rfl⟩)
 rintro mz E I' loc' ⟨k,rfl,rfl,rfl,rfl,hk,hno⟩
 refine zR (zC (zN (Qk ?_)))
 refine zI ?_ ?_<;>intro hc9
 ·
  have hlt_k:k<n:=by have h:=hc9;simp at h;omega
  obtain ⟨x,hx⟩:=hS.at hlt_k
  refine Qo (Qa (Qk (Ql (zR (zM ?_)))))
  refine zA ?_
  refine zN (zR ?_)
  refine zM ?_
  refine zM ?_
  refine zM ?_
  refine zV (Qz rfl rfl Qt (by assumption) (fun hg=>by omega)) ?_
  refine zV (Qd rfl Qr (fun hg=>by exact zAe hS hx rfl)) ?_
  refine qc (vs:=[_]) rfl zr3 (zqG I _) ?_
  refine zN ?_
  refine zI ?_ ?_<;>intro hc16
  ·
   refine zR (zM ?_)
   refine zA (zN (Qs (Qm (Qb (Qb (Qm (Qb ?_)))))))
   exact zr rfl rfl (by rw [JJ hno hx hc16])
  refine Qo (Qg (Qa (Qf (zB ?_))))
  refine zM (Qc ?_)
  exact zm (h:=⟨n-(k+1),by omega,k+1,rfl,rfl,rfl,rfl,by omega,Ym hx hno hc16⟩)
 have hge_k:n≤k:=by have h:=hc9;simp at h;omega
 refine QH (Qe (Qe (Qj (Qa (zR (zA (zN ?_)))))))
 refine Qs ?_
 exact zr rfl rfl (by rw [VT hS.len hge_k hno])
theorem ze7 {I:Qw}{av:Option Addr}{n c:Nat}{xs:List Int}(hS:Sl I 1 QP av n c xs)(hn:n≤100000):Zu Tryz.prog 87 [.slice av n c,.func (.func 198) #[] #[]] I (.bool (xs.any (fun v=>decide (v<0)||decide (v>8589934592)))):=by
 intro g H w hw
 refine qe Tryz.func87 Tryz.ntmps87 hw ?_
 refine zR (zA ?_)
 refine zN (zR ?_)
 refine zM ?_
 refine zM ?_
 refine qc (vs:=[_,_]) rfl zi5 (zns hS hn) ?_
 refine zC ?_
 refine zA (zN (Qs ?_))
 first
 | exact zr rfl rfl (by rw [←KH])
end
section
open Go Go.Kn Go.Proofs
def zba (v:Int):Bool:=decide (v<0)||decide (v>8589934592)
def zhb (w:Nat)(r:List Int):Bool:=decide ((r.length:Int)≠w)||r.any zba
def YX (rows:List (List Int)):Int:=
 if decide ((rows.length:Int)>6)||rows.any (fun r=>decide ((r.length:Int)>64)) then 2 else if rows.length=0 then 420
 else if rows.any (zhb (rows.getD 0 []).length) then 420 else 0
theorem zjV {rows:List (List Int)}(h:(decide ((rows.length:Int)>6)||rows.any (fun r=>decide ((r.length:Int)>64)))=true):YX rows=2:=by unfold YX;rw [if_pos h]
theorem zox {rows:List (List Int)}(h:(decide ((rows.length:Int)>6)||rows.any (fun r=>decide ((r.length:Int)>64)))=false)(h2:rows.length=0):YX rows=420:=by unfold YX;rw [if_neg (by rw [h];decide),if_pos h2]
theorem zcV {rows:List (List Int)}(h:(decide ((rows.length:Int)>6)||rows.any (fun r=>decide ((r.length:Int)>64)))=false)(h2:¬rows.length=0):YX rows=if rows.any (zhb (rows.getD 0 []).length) then 420 else 0:=by
 unfold YX;rw [if_neg (by rw [h];decide),if_neg h2]
theorem zjd {rows:List (List Int)}(h:(decide ((rows.length:Int)>6)||rows.any (fun r=>decide ((r.length:Int)>64)))=false){v:List Int}(hv:v∈rows):v.length≤64:=by
 rw [Bool.or_eq_false_iff] at h
 have:=List.any_eq_false.1 h.2 v hv
 simp at this;omega
theorem zdv {I:Qw}{av:Option Addr}{n c:Nat}{hs:List Hd}{vss:List (List Int)}(h:SlH I av n c hs vss)(p:Int→Bool):hs.any (fun x:Hd=>p (x.n:Int))=vss.any (fun r=>p (r.length:Int)):=by
 have hl:=h.2.1
 have hlen:∀ (k:Nat) (x:Hd) (v:List Int),hs[k]? =some x→vss[k]? =some v→v.length=x.n:=fun k x v a b=>(h.2.2 k x v a b).len
 clear h
 rw [Bool.eq_iff_iff,List.any_eq_true,List.any_eq_true]
 constructor
 ·
  rintro ⟨x,hx,hp⟩
  obtain ⟨k,hk⟩:=List.getElem?_of_mem hx
  have hk2:vss[k]? =some (vss[k]'(by have:=(List.getElem?_eq_some_iff.1 hk).1;omega)):=List.getElem?_eq_getElem _
  exact ⟨_,List.mem_of_getElem? hk2,by rw [hlen k _ _ hk hk2];exact hp⟩
 ·
  rintro ⟨v,hv,hp⟩
  obtain ⟨k,hk⟩:=List.getElem?_of_mem hv
  have hk2:hs[k]? =some (hs[k]'(by have:=(List.getElem?_eq_some_iff.1 hk).1;omega)):=List.getElem?_eq_getElem _
  exact ⟨_,List.mem_of_getElem? hk2,by rw [←hlen k _ _ hk2 hk];exact hp⟩
end
section
open Go Go.Kn Go.Proofs
theorem zx8 {I:Qw}{av:Option Addr}{n c:Nat}{rows:List (List Int)}(hV:SlN I av n c rows):Zu Tryz.prog 62 [.slice av n c] I (.bool (zlO rows)):=by
 intro g H w hw
 refine qe Tryz.func62 Tryz.ntmps62 hw ?_
 obtain ⟨hs,hV⟩:=hV
 have hH:=hV.1
 have hlV:=hV.len
 refine zR (zA (zN (Qk (zR ?_))))
 refine zM ?_
 refine zQ Q0 ?_
 refine zC (zN ?_)
 refine zI ?_ ?_<;>intro hc6
 ·
  have h6:rows.length>6:=by simp at hc6;omega
  refine zR (zM ?_)
  refine zQ Q0 ?_
  refine zC ?_
  refine zA (zN (Qs (Qb ?_)))
  first
  | exact zr rfl rfl (by unfold zlO;rw [if_pos h6,hlV])
 have h6:¬rows.length>6:=by simp at hc6;omega
 refine Qo (Qa (Qk (zR (zA (zN (Ql ?_))))))
 refine zU [(0,_)] (fun T L0 mz E I' loc'=>∃ (k:Nat),mz=n-k∧E=(3,.int .i64 k)::T∧I=I'∧L0=loc'∧k≤n∧(rows.take k).all (fun r=> !(decide ((r.length:Int)>12)&&(decide ((r.length:Int)≤64)||decide ((r.length:Int)>100))))=true) ?_ (h:=⟨0,rfl,rfl,rfl,rfl,Nat.zero_le _,rfl⟩)
 rintro mz E I' loc' ⟨k,rfl,rfl,rfl,rfl,hk,hall⟩
 refine Qk (zR (zM ?_))
 refine zM ?_
 refine zQ Q0 ?_
 refine zC (zN ?_)
 refine zI ?_ ?_<;>intro hc13
 ·
  have hlt_k:k<n:=by have h:=hc13;simp at h;omega
  obtain ⟨x,v,hx,hv,hQ⟩:=hV.at hlt_k
  refine Qo (Qa (Qk (Ql (zR (zM ?_)))))
  refine zM ?_
  refine zV (Qz rfl rfl Q0 (by assumption) (fun hg=>by omega)) ?_
  refine zV (Qd rfl QJ (fun hg=>by exact zAe hH hx rfl)) ?_
  refine zQ Qt ?_
  refine zC ?_
  refine zM ?_
  refine QG 6 rfl rfl rfl ?_
  refine zK (Qh rfl) ?_
  refine zK (Qh rfl) ?_
  refine zK (Qz rfl rfl Q0 (by assumption) (fun hg=>by omega)) ?_
  refine zK (Qd rfl QJ (fun hg=>by exact zAe hH hx rfl)) ?_
  refine zK (ZB rfl Qt) ?_
  refine zK (QI rfl rfl rfl) ?_
  refine zK (Qh rfl) ?_
  refine QV 13 rfl rfl rfl ?_
  refine zJ (Qh rfl) ?_
  refine zJ (Qh rfl) ?_
  refine zJ (Qz rfl rfl Q0 (by assumption) (fun hg=>by omega)) ?_
  refine zJ (Qd rfl QJ (fun hg=>by exact zAe hH hx rfl)) ?_
  refine zJ (ZB rfl Qt) ?_
  refine zJ (QI rfl rfl rfl) ?_
  refine zjm rfl rfl rfl (.some rfl rfl rfl rfl gbt) rfl rfl ?_
  refine QL rfl rfl rfl rfl rfl ?_
  refine zN ?_
  refine zI ?_ ?_<;>intro hc37
  ·
   refine zR (zA (zN (Qs (Qm (Qb (Qb (Qm ?_)))))))
   refine Qb ?_
   first
   | exact zr rfl rfl (by unfold zlO;rw [if_neg h6,List.all_eq_false.2 ⟨v,List.mem_of_getElem? hv,by rw [hQ.len,hc37];decide⟩];rfl)
  refine Qo (Qg (Qa (Qf (zM ?_))))
  refine zB ?_
  refine zA (Qc ?_)
  exact zm (h:=⟨n-(k+1),by omega,k+1,rfl,rfl,rfl,rfl,by omega,by rw [List.take_add_one,hv,List.all_append,hall,Option.toList_some,List.all_cons,List.all_nil,hQ.len,hc37];rfl⟩)
 have hge_k:n≤k:=by have h:=hc13;simp at h;omega
 rw [Zo hlV hge_k] at hall
 refine QH (Qe (Qe (Qj (Qa (zR (zM ?_))))))
 refine zQ Q0 ?_
 refine zC ?_
 refine zA (zN (Qs ?_))
 first
 | exact zr rfl rfl (by unfold zlO;rw [if_neg h6,hall,hlV];rfl)
theorem ztR {I:Qw}{av:Option Addr}{n c:Nat}{rows:List (List Int)}(hV:SlN I av n c rows)(hn:n≤100000):Zu Tryz.prog 150 [.slice av n c] I (.int .i64 (YX rows)):=by
 intro g H w hw
 refine qe Tryz.func150 Tryz.ntmps150 hw ?_
 obtain ⟨hs,hV⟩:=hV
 have hH:=hV.1
 have hlV:=hV.len
 refine zR (zA (zN (Qk (zR ?_))))
 refine zM ?_
 refine zQ Q0 ?_
 refine zC ?_
 refine zM ?_
 refine QV 3 rfl rfl rfl ?_
 refine zJ (Qh rfl) ?_
 refine qf (vs:=[_,_]) rfl zos (fun hg=>zeA hH hn) ?_
 refine Zs rfl rfl rfl rfl rfl ?_
 refine zN ?_
 refine zI ?_ ?_<;>intro hc11
 ·
  have h1:(decide ((rows.length:Int)>6)||rows.any (fun r=>decide ((r.length:Int)>64)))=true:=by rw [hlV,←zdv hV (fun q=>decide (q>64))];exact hc11
  refine zR (zA (zN (Qs (Qb ?_))))
  exact zr rfl rfl (by rw [zjV h1])
 have h1:(decide ((rows.length:Int)>6)||rows.any (fun r=>decide ((r.length:Int)>64)))=false:=by rw [hlV,←zdv hV (fun q=>decide (q>64))];exact hc11
 refine Qo (Qa (Qk (zR (zM ?_))))
 refine zQ Q0 ?_
 refine zC (zN ?_)
 refine zI ?_ ?_<;>intro hc14
 ·
  have h2:rows.length=0:=by simp at hc14;omega
  refine zR (zA (zN (Qs (Qb ?_))))
  exact zr rfl rfl (by rw [zox h1 h2])
 have h2:¬rows.length=0:=by simp at hc14;omega
 obtain ⟨x0,v0,hx0,hv0,hQ0⟩:=hV.at (show 0<n by omega)
 refine Qo (Qa (Qk (zR (zM ?_))))
 refine zQ Q0 ?_
 refine zM (zN (Ql ?_))
 refine zU [(0,_),(15,_),(16,_)] (fun T L0 mz E I' loc'=>∃ (k:Nat),mz=n-k∧E=(17,.int .i64 k)::T∧I=I'∧L0=loc'∧k≤n∧(rows.take k).any (zhb (rows.getD 0 []).length)=false) ?_ (h:=⟨0,rfl,rfl,rfl,rfl,Nat.zero_le _,rfl⟩)
 rintro mz E I' loc' ⟨k,rfl,rfl,rfl,rfl,hk,hno⟩
 refine zR (zC (zN (Qk ?_)))
 refine zI ?_ ?_<;>intro hc18
 ·
  have hlt_k:k<n:=by have h:=hc18;simp at h;omega
  obtain ⟨x,v,hx,hv,hQ⟩:=hV.at hlt_k
  have hrow:zhb (rows.getD 0 []).length v=(((x.n:Int) != (x0.n:Int))||v.any zba):=by unfold zhb;rw [QN hv0,hQ.len,hQ0.len];congr 1;exact Bool.eq_iff_iff.2 (by simp)
  refine Qo (Qa (Qk (Ql (zR ?_))))
  refine zV (Qz rfl rfl Q0 (by assumption) (fun hg=>by omega)) ?_
  refine zV (Qd rfl QJ (fun hg=>by exact zAe hH hx rfl)) ?_
  refine zA ?_
  refine zN (zR ?_)
  refine zM ?_
  refine zQ Qt ?_
  refine zM ?_
  refine zV (Qz rfl rfl Q0 (by assumption) (fun hg=>by omega)) ?_
  refine zV (Qd rfl QJ (fun hg=>by exact zAe (k:=0) hH hx0 rfl)) ?_
  refine zQ Qt ?_
  refine zC ?_
  refine zM ?_
  refine QV 7 rfl rfl rfl ?_
  refine zJ (Qh rfl) ?_
  refine qf (vs:=[_,_]) rfl zk5 (fun hg=>ze7 hQ (by rw [←hQ.len];have:=zjd h1 (List.mem_of_getElem? hv);omega)) ?_
  refine Zs rfl rfl rfl rfl rfl ?_
  refine zN ?_
  refine zI ?_ ?_<;>intro hc31
  ·
   refine zR (zA (zN (Qs (Qm (Qb (Qb (Qm ?_)))))))
   refine Qb ?_
   first
   | exact zr rfl rfl (by rw [zcV h1 h2,YM hv (by rw [hrow];exact hc31)];rfl)
  refine Qo (Qg (Qa (Qf (zB ?_))))
  refine zM (Qc ?_)
  exact zm (h:=⟨n-(k+1),by omega,k+1,rfl,rfl,rfl,rfl,by omega,Ym hv hno (by rw [hrow];exact hc31)⟩)
 have hge_k:n≤k:=by have h:=hc18;simp at h;omega
 rw [Zo hlV hge_k] at hno
 refine QH (Qe (Qe (Qj (Qa (zR (zA (zN ?_)))))))
 refine Qs ?_
 first
 | exact zr rfl rfl (by rw [zcV h1 h2,hno];rfl)
end
section
open Go Go.Kn Go.Proofs
def ZZ (f t:Int):Int:=if f=t then 0 else if t=0 then 1 else if f=0 then 4 else 2
theorem YW (f t:Int):0≤ZZ f t∧ZZ f t≤4:=by
 unfold ZZ
 split
 ·
  omega
 ·
  split
  ·
   omega
  ·
   split<;>omega
def WJ (st cs:List Int)(s:Int)(k:Nat):Int:=(List.range k).foldl (fun b i=>JQ b (ZZ s (st.getD i 0)+cs.getD i 0)) 1048576
def Yc (st cs:List Int)(s:Int):Int:=WJ st cs s st.length
theorem zha {st cs:List Int}{s:Int}{k:Nat}{x y:Int}(hx:st[k]? =some x)(hy:cs[k]? =some y):WJ st cs s (k+1)=JQ (WJ st cs s k) (ZZ s x+y):=by
 unfold WJ
 rw [List.range_succ,List.foldl_append,List.foldl_cons,List.foldl_nil,QN hx,QN hy]
theorem Z5 {α:Type}{xs:List α}{k:Nat}{x:α}(h:xs[k]? =some x):xs.drop k=x::xs.drop (k+1):=by
 obtain ⟨h1,h2⟩:=List.getElem?_eq_some_iff.1 h
 rw [List.drop_eq_getElem_cons h1,h2]
def zbP (n:Int):Int:=if n=0 then 1 else 0
end
section
open Go Go.Kn Go.Proofs
theorem zvE (I:Qw)(f t:Int):Zu Tryz.prog 255 [.int .i64 f,.int .i64 t] I (.int .i64 (ZZ f t)):=by
 intro g H w hw
 refine qe Tryz.func255 Tryz.ntmps255 hw ?_
 refine zR (zA (zN (Qk (zR ?_))))
 refine zM ?_
 refine zM ?_
 refine zC (zN ?_)
 refine zI ?_ ?_<;>intro hc7
 ·
  refine zR (zA (zN (Qs (Qb ?_))))
  exact zr rfl rfl (by unfold ZZ;simp_all)
 refine Qo (Qa (Qk (zR (zM ?_))))
 refine zC (zN ?_)
 refine zI ?_ ?_<;>intro hc9
 ·
  refine zR (zA (zN (Qs (Qb ?_))))
  exact zr rfl rfl (by unfold ZZ;simp_all)
 refine Qo (Qa (Qk (zR (zM ?_))))
 refine zC (zN ?_)
 refine zI ?_ ?_<;>intro hc11
 ·
  refine zR (zA (zN (Qs (Qb ?_))))
  exact zr rfl rfl (by unfold ZZ;simp_all)
 refine Qo (Qa (zR (zA (zN (Qs ?_)))))
 exact zr rfl rfl (by unfold ZZ;simp_all)
theorem zly {I:Qw}{av:Option Addr}{n c:Nat}{xs:List Int}(hS:Sl I 1 QP av n c xs){bv:Option Addr}{n2 c2:Nat}{cs:List Int}(hC:Sl I 1 QP bv n2 c2 cs)(hn:n≤100000)(hnn:n=n2)(hcs:∀ y∈cs,0≤y∧y≤1099511627776)(i:Nat)(hi:i<n):Zu Tryz.prog 240 [.slice av n c,.int .i64 i,.slice bv n2 c2] I (.int .i64 (Yc xs cs (xs.getD i 0))):=by
 intro g H w hw
 refine qe Tryz.func240 Tryz.ntmps240 hw ?_
 obtain ⟨s0,h0⟩:=hS.at hi
 rw [QN h0]
 refine zR (zA ?_)
 refine zN (zR ?_)
 refine zA (zN (Qk (zR ?_)))
 refine zA (zN (Ql ?_))
 refine zU [(0,_),(1,_),(2,_)] (fun T L0 mz E I' loc'=>∃ (k:Nat) (b:Int),mz=n-k∧E=(7,.int .i64 b)::(8,.int .i64 k)::T∧I=I'∧L0=loc'∧k≤n∧b=WJ xs cs s0 k) ?_ (h:=⟨0,_,rfl,rfl,rfl,rfl,Nat.zero_le _,rfl⟩)
 rintro mz E I' loc' ⟨k,b,rfl,rfl,rfl,rfl,hk,hb⟩
 refine Qk (zR (zM ?_))
 refine zM ?_
 refine zQ Qt ?_
 refine zC (zN ?_)
 refine zI ?_ ?_<;>intro hc12
 ·
  have hlt_k:k<n:=by have h:=hc12;simp at h;omega
  obtain ⟨x,hx⟩:=hS.at hlt_k
  obtain ⟨y,hy⟩:=hC.at (show k<n2 by omega)
  refine Qo (Qa (Qk (Ql ?_)))
  refine Yq mixed (by kernel_rfl) ?_
  refine zq (Qh rfl) ?_
  refine zq (Qh rfl) ?_
  refine zq (Qh rfl) ?_
  refine zq (Qz rfl rfl Qt (by assumption) (fun hg=>by omega)) ?_
  refine zq (Qd rfl Qr (fun hg=>by exact zAe hS h0 rfl)) ?_
  refine zq (Qh rfl) ?_
  refine zq (Qh rfl) ?_
  refine zq (Qz rfl rfl Qt (by assumption) (fun hg=>by omega)) ?_
  refine zq (Qd rfl Qr (fun hg=>by exact zAe hS hx rfl)) ?_
  refine Vs (cap:=[]) (vs:=[_,_]) rfl rfl zsI (zvE I _ _) rfl rfl ?_
  refine zq (Qh rfl) ?_
  refine zq (Qh rfl) ?_
  refine zq (Qz rfl rfl Qt (by assumption) (fun hg=>by omega)) ?_
  refine zq (Qd rfl Qr (fun hg=>by exact zAe hC hy rfl)) ?_
  refine zq (ZA rfl rfl rfl (fun _=>by have h1:=YW s0 x;have h2:=hcs y (List.mem_of_getElem? hy);omega)) ?_
  refine zq (zdm rfl rfl) ?_
  refine zq (ZM rfl) ?_
  refine Yp ?_
  refine Qg (Qa (Qf (zM ?_)))
  refine zV (ZA rfl rfl rfl (fun _=>by have h1:=YW s0 x;have h2:=hcs y (List.mem_of_getElem? hy);omega)) ?_
  refine zA (Qc ?_)
  exact zm (h:=⟨n-(k+1),by omega,k+1,_,rfl,rfl,rfl,rfl,by omega,by rw [zha hx hy,hb]⟩)
 have hge_k:n≤k:=by have h:=hc12;simp at h;omega
 have hkn:k=n:=by omega
 refine QH (Qe (Qe (Qj (Qa (zR (zM ?_))))))
 refine zA (zN (Qs ?_))
 exact zr rfl rfl (by rw [hb,hkn,←hS.len];rfl)
end
section
open Go Go.Kn Go.Proofs
theorem ztY {I:Qw}{av:Option Addr}{n c:Nat}{rows:List (List Int)}(hV:SlN I av n c rows)(hn:n≤100000):Zu Tryz.prog 209 [.slice av n c] I (.int .i64 (YX rows)):=by
 intro g H w hw
 refine qe Tryz.func209 Tryz.ntmps209 hw ?_
 obtain ⟨hs,hV⟩:=hV
 have hH:=hV.1
 have hlV:=hV.len
 refine zR (zA (zN (Qk (zR ?_))))
 refine zM ?_
 refine zQ Q0 ?_
 refine zC (zN ?_)
 refine zI ?_ ?_<;>intro hc8
 ·
  have h1:(decide ((rows.length:Int)>6)||rows.any (fun r=>decide ((r.length:Int)>64)))=true:=by rw [hlV,hc8];rfl
  refine zR (zA (zN (Qs (Qb ?_))))
  exact zr rfl rfl (by rw [zjV h1])
 have h8:decide ((rows.length:Int)>6)=false:=by rw [hlV];exact hc8
 refine Qo (Qa (Qk (zR (zA (zN (Ql ?_))))))
 refine zU [(0,_)] (fun T L0 mz E I' loc'=>∃ (k:Nat),mz=n-k∧E=(3,.int .i64 k)::T∧I=I'∧L0=loc'∧k≤n∧(rows.take k).any (fun r=>decide ((r.length:Int)>64))=false) ?_ (h:=⟨0,rfl,rfl,rfl,rfl,Nat.zero_le _,rfl⟩)
 rintro mz E I' loc' ⟨k,rfl,rfl,rfl,rfl,hk,hno⟩
 refine Qk (zR (zM ?_))
 refine zM ?_
 refine zQ Q0 ?_
 refine zC (zN ?_)
 refine zI ?_ ?_<;>intro hc12
 ·
  have hlt_k:k<n:=by have h:=hc12;simp at h;omega
  obtain ⟨x,v,hx,hv,hQ⟩:=hV.at hlt_k
  refine Qo (Qa (Qk (Ql (zR (zM ?_)))))
  refine zM ?_
  refine zV (Qz rfl rfl Q0 (by assumption) (fun hg=>by omega)) ?_
  refine zV (Qd rfl QJ (fun hg=>by exact zAe hH hx rfl)) ?_
  refine zQ Qt ?_
  refine zC (zN ?_)
  refine zI ?_ ?_<;>intro hc20
  ·
   have h1:(decide ((rows.length:Int)>6)||rows.any (fun r=>decide ((r.length:Int)>64)))=true:=by rw [h8,YM hv (by rw [hQ.len];exact hc20)];rfl
   refine zR (zA (zN (Qs (Qm (Qb (Qb (Qm ?_)))))))
   refine Qb ?_
   exact zr rfl rfl (by rw [zjV h1])
  refine Qo (Qg (Qa (Qf (zM ?_))))
  refine zB ?_
  refine zA (Qc ?_)
  exact zm (h:=⟨n-(k+1),by omega,k+1,rfl,rfl,rfl,rfl,by omega,Ym hv hno (by rw [hQ.len];exact hc20)⟩)
 have hge_k:n≤k:=by have h:=hc12;simp at h;omega
 rw [Zo hlV hge_k] at hno
 have h1:(decide ((rows.length:Int)>6)||rows.any (fun r=>decide ((r.length:Int)>64)))=false:=by rw [h8,hno];rfl
 refine QH (Qe (Qe (Qj (Qa (Qk (zR (zM ?_)))))))
 refine zQ Q0 ?_
 refine zC (zN ?_)
 refine zI ?_ ?_<;>intro hc23
 ·
  have h2:rows.length=0:=by simp at hc23;omega
  refine zR (zA (zN (Qs (Qb ?_))))
  exact zr rfl rfl (by rw [zox h1 h2])
 have h2:¬rows.length=0:=by simp at hc23;omega
 obtain ⟨x0,v0,hx0,hv0,hQ0⟩:=hV.at (show 0<n by omega)
 refine Qo (Qa (Qk (zR (zA (zN (Ql ?_))))))
 refine zU [(0,_)] (fun T L0 mz E I' loc'=>∃ (i:Nat),mz=n-i∧E=(4,.int .i64 i)::T∧I=I'∧L0=loc'∧i≤n∧(rows.take i).any (zhb (rows.getD 0 []).length)=false) ?_ (h:=⟨0,rfl,rfl,rfl,rfl,Nat.zero_le _,rfl⟩)
 rintro mz E I' loc' ⟨i,rfl,rfl,rfl,rfl,hi,hno2⟩
 refine Qk (zR (zM ?_))
 refine zM ?_
 refine zQ Q0 ?_
 refine zC (zN ?_)
 refine zI ?_ ?_<;>intro hc27
 ·
  have hlt_i:i<n:=by have h:=hc27;simp at h;omega
  obtain ⟨x,v,hx,hv,hQ⟩:=hV.at hlt_i
  have hxl:x.n≤100000:=by rw [←hQ.len];have:=zjd h1 (List.mem_of_getElem? hv);omega
  refine Qo (Qa (Qk (Ql (Qk (Qk ?_)))))
  refine Yq mixed (by kernel_rfl) ?_
  refine zq (Qh rfl) ?_
  refine zq (Qh rfl) ?_
  refine zq (Qz rfl rfl Q0 (by assumption) (fun hg=>by omega)) ?_
  refine zq (Qd rfl QJ (fun hg=>by exact zAe hH hx rfl)) ?_
  refine zq (ZB rfl Qt) ?_
  refine zq (Qh rfl) ?_
  refine zq (Qz rfl rfl Q0 (by assumption) (fun hg=>by omega)) ?_
  refine zq (Qd rfl QJ (fun hg=>by exact zAe (k:=0) hH hx0 rfl)) ?_
  refine zq (ZB rfl Qt) ?_
  refine zq (QI rfl rfl rfl) ?_
  refine Yp ?_
  refine Qa ?_
  refine zI ?_ ?_<;>intro hc39
  ·
   have hbad:zhb (rows.getD 0 []).length v=true:=by unfold zhb;rw [QN hv0,hQ.len,hQ0.len,decide_eq_true (by simpa using hc39)];rfl
   refine zR (zA (zN (Qs (Qb (Qm (Qb (Qb ?_)))))))
   refine Qm (Qb ?_)
   first
   | exact zr rfl rfl (by rw [zcV h1 h2,YM hv hbad];rfl)
  have hne:decide ((x.n:Int)≠(x0.n:Nat))=false:=decide_eq_false (by simpa using hc39)
  refine Qo (Qa (zR (zA (zN (Ql ?_)))))
  refine zU [(0,_),(4,_)] (fun T L0 mz E I' loc'=>∃ (j:Nat),mz=x.n-j∧E=(5,.int .i64 j)::T∧I=I'∧L0=loc'∧j≤x.n∧(v.take j).any zba=false) ?_ (h:=⟨0,rfl,rfl,rfl,rfl,Nat.zero_le _,rfl⟩)
  rintro mz E I' loc' ⟨j,rfl,rfl,rfl,rfl,hj,hst⟩
  refine Qk (zR (zM ?_))
  refine zM ?_
  refine zM ?_
  refine zV (Qz rfl rfl Q0 (by assumption) (fun hg=>by omega)) ?_
  refine zV (Qd rfl QJ (fun hg=>by exact zAe hH hx rfl)) ?_
  refine zQ Qt ?_
  refine zC (zN ?_)
  refine zI ?_ ?_<;>intro hc46
  ·
   have hlt_j:j<x.n:=by have h:=hc46;simp at h;omega
   obtain ⟨u,hu⟩:=hQ.at hlt_j
   refine Qo (Qa (Qk (Ql (zR (zM ?_)))))
   refine zM ?_
   refine zV (Qz rfl rfl Q0 (by assumption) (fun hg=>by omega)) ?_
   refine zV (Qd rfl QJ (fun hg=>by exact zAe hH hx rfl)) ?_
   refine zM ?_
   refine zV (Qz rfl rfl Qt (by assumption) (fun hg=>by omega)) ?_
   refine zV (Qd rfl Qr (fun hg=>by exact zAe hQ hu rfl)) ?_
   refine zC ?_
   refine zM ?_
   refine QV 8 rfl rfl rfl ?_
   refine zJ (Qh rfl) ?_
   refine zJ (Qh rfl) ?_
   refine zJ (Qz rfl rfl Q0 (by assumption) (fun hg=>by omega)) ?_
   refine zJ (Qd rfl QJ (fun hg=>by exact zAe hH hx rfl)) ?_
   refine zJ (Qh rfl) ?_
   refine zJ (Qz rfl rfl Qt (by assumption) (fun hg=>by omega)) ?_
   refine zJ (Qd rfl Qr (fun hg=>by exact zAe hQ hu rfl)) ?_
   refine zJ (QI rfl rfl rfl) ?_
   refine Zs rfl rfl rfl rfl rfl ?_
   refine zN ?_
   refine zI ?_ ?_<;>intro hc66
   ·
    have hbad:zhb (rows.getD 0 []).length v=true:=by unfold zhb;rw [YM hu (by unfold zba;exact hc66),Bool.or_true]
    refine zR (zA (zN (Qs (Qm (Qb (Qb (Qm ?_)))))))
    refine Qm (Qb (Qb (Qm (Qb ?_))))
    first
    | exact zr rfl rfl (by rw [zcV h1 h2,YM hv hbad];rfl)
   refine Qo (Qg (Qa (Qf (zM ?_))))
   refine zB ?_
   refine zA (Qc ?_)
   exact zm (h:=⟨x.n-(j+1),by omega,j+1,rfl,rfl,rfl,rfl,by omega,Ym hu hst (by unfold zba;exact hc66)⟩)
  have hge_j:x.n≤j:=by have h:=hc46;simp at h;omega
  rw [Zo hQ.len hge_j] at hst
  have hrow:zhb (rows.getD 0 []).length v=false:=by unfold zhb;rw [QN hv0,hQ.len,hQ0.len,hne,hst];rfl
  refine QH (Qe (Qe (Qj (Qg (Qa (Qf (zM ?_)))))))
  refine zB ?_
  refine zA (Qc ?_)
  exact zm (h:=⟨n-(i+1),by omega,i+1,rfl,rfl,rfl,rfl,by omega,Ym hv hno2 hrow⟩)
 have hge_i:n≤i:=by have h:=hc27;simp at h;omega
 rw [Zo hlV hge_i] at hno2
 refine QH (Qe (Qe (Qj (Qa (zR (zA (zN ?_)))))))
 refine Qs ?_
 first
 | exact zr rfl rfl (by rw [zcV h1 h2,hno2];rfl)
end
section
open Go Go.Kn Go.Proofs
theorem zpI (I:Qw)(n:Int):Zu Tryz.prog 251 [.int .i64 n] I (.int .i64 (zbP n)):=by
 intro g H w hw
 refine qe Tryz.func251 Tryz.ntmps251 hw ?_
 refine zR (zA (zN (Qk (zR ?_))))
 refine zM ?_
 refine zC (zN ?_)
 refine zI ?_ ?_<;>intro hc4
 ·
  refine zR (zA (zN (Qs (Qb ?_))))
  exact zr rfl rfl (by unfold zbP;simp_all)
 refine Qo (Qa (zR (zA (zN (Qs ?_)))))
 exact zr rfl rfl (by unfold zbP;simp_all)
end
end Go.Proofs.YtodakphagkommaaGreatDoor
section
namespace Go.Kn
open Go
section
variable {C:Cx} {E:Env} {I:Qw} {loc:Loc} {S:GS} {dst:Option Tmp} {ty:TypeId} {pos:String} {af:Array Edge} {gd:Option (Nat×Bool)} {x y z:Operand}
end
end Go.Kn
namespace Go.Kn
open Go
section
variable {g:World} {I I' H:Qw} {loc loc' L R:Loc} {w w':World}
end
end Go.Kn
namespace Go.Kn
open Go
section
variable {C:Cx} {Q:Exit→Act→World→Prop} {E:Env} {I:Qw} {loc:Loc} {ops:Array Oper} {rest:List Oper} {d:Nat} {ty:TypeId} {pos:String} {af:Array Edge} {gd:Option (Nat×Bool)} {x y:Operand}
end
end Go.Kn
namespace Go.Kn
open Go
section
variable {C:Cx} {Q:Exit→Act→World→Prop} {E:Env} {I:Qw} {loc:Loc} {ops:Array Oper} {rest:List Oper} {d:Nat} {ty:TypeId} {pos:String} {af:Array Edge} {gd:Option (Nat×Bool)} {x y:Operand}
end
section
variable {C:Cx} {S:GS} {E:Env} {I:Qw} {loc:Loc} {dst:Option Tmp} {ty:TypeId} {pos:String} {af:Array Edge} {gd:Option (Nat×Bool)} {x y:Operand}
theorem Q6 {t e size b n c:Nat}{k:IntKind}{i:Int}(hx:QE S E x=some (.slice (some ⟨b,0,none⟩) n c))(hy:QE S E y=some (.int k i))(hT:SlT C.P t e size)(hb:ZV S=true→0≤i∧i<(n:Int)):
  QZ C S E I loc ⟨dst,.indexAddr t x y,ty,pos,af,gd⟩ (.pointer (some ⟨b,i.toNat*size,none⟩)):=by
 have h:=Xn (I:=I) (loc:=loc) (dst:=dst) (ty:=ty) (pos:=pos) (af:=af) (gd:=gd) hx hy hT hb
 rwa [Nat.zero_add] at h
end
theorem OwnS.spot {α:Type}{e size n k:Nat}{enc:α→List Value}{v:Value}{xs:List α}{x:α}{L:Loc}(hO:OwnS e size v n (xs.flatMap enc) L)(hs:∀ x,(enc x).length=size)(hsz:0<size)(hx:xs[k]? =some x):
  k<n∧∃ b c cur,v= .slice (some ⟨b,0,none⟩) n c∧L=[(b,.cells (cur:List Value).toArray e (0,0))]∧(cur.drop (k*size)).take size=enc x∧k*size+size≤cur.length∧
   ∀ y,OwnS e size v n ((xs.set k y).flatMap enc) [(b,.cells (Vk cur (k*size) (enc y)).toArray e (0,0))]:=by
 obtain ⟨hk,hxk⟩:=List.getElem?_eq_some_iff.1 hx
 have hl:=hO.1
 rw [ZD hs] at hl
 have hln:xs.length=n:=Nat.eq_of_mul_eq_mul_right hsz hl
 rcases hO.2 with ⟨_,h2,_⟩ | ⟨b,c,cur,h1,h2,h3,h4,h5,h6⟩
 ·
  omega
 obtain ⟨cl⟩:=cur
 simp only [List.size_toArray] at h5 h6
 have hspl:xs=xs.take k++x::xs.drop (k+1):=by
  rw [←hxk,←List.drop_eq_getElem_cons hk,List.take_append_drop]
 have hb1:(k+1)*size≤n*size:=Nat.mul_le_mul_right _ (by omega)
 have hb2:n*size≤c*size:=Nat.mul_le_mul_right _ h3
 rw [Nat.add_mul,Nat.one_mul] at hb1
 have htk:((xs.take k).flatMap enc).length=k*size:=by rw [ZD hs,List.length_take];congr 1;omega
 have hcl:cl.take (n*size)=(xs.take k).flatMap enc++(enc x++(xs.drop (k+1)).flatMap enc):=by
  rw [h6];conv=>lhs;rw [hspl]
  rw [List.flatMap_append,List.flatMap_cons]
 have hdec:cl=(xs.take k).flatMap enc++(enc x++((xs.drop (k+1)).flatMap enc++cl.drop (n*size))):=by
  conv=>lhs;rw [←List.take_append_drop (n*size) cl]
  rw [hcl];simp only [List.append_assoc]
 have hdrop:cl.drop (k*size)=enc x++((xs.drop (k+1)).flatMap enc++cl.drop (n*size)):=by
  conv=>lhs;rw [hdec]
  rw [←htk];exact List.drop_left
 refine ⟨by omega,b,c,cl,h1,h2,?_,by omega,fun y=>⟨?_,.inr ⟨b,c,_,h1,rfl,h3,h4,?_,?_⟩⟩⟩
 ·
  rw [hdrop,←hs x];exact List.take_left
 ·
  rw [ZD hs,List.length_set];omega
 ·
  have hsl:=Kk (A:=cl) (off:=k*size) (n:=size) (vs:=enc y) (by omega) (hs y)
  rw [List.size_toArray,hsl]
  simp only [List.length_append,List.length_take,List.length_drop,hs]
  omega
 ·
  have hsl:=Kk (A:=cl) (off:=k*size) (n:=size) (vs:=enc y) (by omega) (hs y)
  have e1:cl.take (k*size)=(xs.take k).flatMap enc:=by
   conv=>lhs;rw [hdec]
   rw [←htk];exact List.take_left
  have e2:cl.drop (k*size+size)=(xs.drop (k+1)).flatMap enc++cl.drop (n*size):=by
   have hd:∀ l:List Value,List.drop size (enc x++l)=l:=fun l=>by rw [←hs x];exact List.drop_left
   rw [←List.drop_drop,hdrop,hd]
  rw [hsl,e1,e2]
  have e3:(xs.set k y).flatMap enc=(xs.take k).flatMap enc++(enc y++(xs.drop (k+1)).flatMap enc):=by
   rw [List.set_eq_take_append_cons_drop,if_pos (by omega),List.flatMap_append,List.flatMap_cons]
  have e4:((xs.set k y).flatMap enc).length=n*size:=by rw [ZD hs,List.length_set];omega
  show List.take (n*size) ((xs.take k).flatMap enc++(enc y++((xs.drop (k+1)).flatMap enc++cl.drop (n*size))))=_
  rw [←List.append_assoc (enc y),←List.append_assoc,←e3,←e4]
  exact List.take_left
theorem OwnS.spot1 {α:Type}{e n k:Nat}{enc:α→List Value}{u:α→Value}{v:Value}{xs:List α}{x:α}{L:Loc}(hO:OwnS e 1 v n (xs.flatMap enc) L)(he:∀ x,enc x=[u x])(hx:xs[k]? =some x):
  k<n∧∃ b c cur,v= .slice (some ⟨b,0,none⟩) n c∧L=[(b,.cells (cur:List Value).toArray e (0,0))]∧(∀ (I:Qw) (l:Loc),QY I ((b,.cells cur.toArray e (0,0))::l) b (((k:Nat):Int).toNat*1) (u x))∧Nat.blt (((k:Nat):Int).toNat*1) cur.toArray.size=true∧
   ∀ y,OwnS e 1 v n ((xs.set k y).flatMap enc) [(b,.cells (cur.toArray.setIfInBounds (((k:Nat):Int).toNat*1) (u y)) e (0,0))]:=by
 obtain ⟨h1,b,c,cur,h2,h3,h4,h5,h6⟩:=hO.spot (fun x=>by rw [he];rfl) (by decide) hx
 have hk:k<cur.length:=by omega
 have hck:cur[k]? =some (u x):=by
  have:=congrArg (fun l:List Value=>l[0]?) h4
  simpa [he] using this
 refine ⟨h1,b,c,cur,h2,h3,fun I l=>?_,?_,fun y=>?_⟩
 ·
  refine zAg ?_
  rw [Vb]
  show cur[k*1]? =_
  rw [Nat.mul_one];exact hck
 ·
  show Nat.blt (k*1) cur.length=true
  rw [Nat.mul_one,Nat.blt_eq];exact hk
 ·
  have h7:=h6 y
  rw [Kk (by rw [he];simp;omega) rfl] at h7
  have e1:cur.toArray.setIfInBounds (((k:Nat):Int).toNat*1) (u y)=(cur.take (k*1)++(enc y++cur.drop (k*1+(enc y).length))).toArray:=by
   show cur.toArray.setIfInBounds (k*1) (u y)=_
   rw [he,Nat.mul_one,List.setIfInBounds_toArray,List.set_eq_take_append_cons_drop,if_pos hk];rfl
  rw [e1];exact h7
end Go.Kn
end
namespace Go.Proofs.YtodakphagkommaaGreatDoor
section
open Go Go.Kn Go.Proofs
theorem _root_.Go.Kn.OwnS.lit {e size b n:Nat}{vs:List Value}(h:vs.length=n*size)(hn:n≤maxLen):OwnS e size (.slice (some ⟨b,0,none⟩) n n) n vs [(b,.cells vs.toArray e (0,0))]:=
 ⟨h,.inr ⟨b,n,_,rfl,rfl,Nat.le_refl _,hn,by simp [h],by rw [←h];simp⟩⟩
theorem zaS {e size n:Nat}{v:Value}{xs:List Value}{L:Go.Kn.Loc}(h:OwnS e size v n xs L):∃ a c,v= .slice a n c:=by
 rcases h.2 with ⟨h1,h2,_⟩ | ⟨b,c,cur,h1,_⟩
 ·
  subst h2;exact ⟨_,_,h1⟩
 ·
  exact ⟨_,_,h1⟩
def stS (out:List Int)(n:Int):List Int:=if n==8589934592||out.any (fun x=>x==n) then out else out++[n]
def QF (rows:List (List Int))(l:Nat):List Int:=(rows.map fun r=>r.getD l 0).foldl stS [0]
theorem zbF {rows:List (List Int)}{l k:Nat}{r:List Int}(h:rows[k]? =some r):QF (rows.take (k+1)) l=stS (QF (rows.take k) l) (r.getD l 0):=by
 unfold QF
 rw [List.take_add_one,h,List.map_append,List.foldl_append];rfl
theorem zh0 {out:List Int}{n:Int}(h:(n==8589934592||out.any (fun x=>x==n))=true):stS out n=out:=by unfold stS;rw [if_pos h]
theorem zwN {out:List Int}{n:Int}(h:(n==8589934592||out.any (fun x=>x==n))=false):stS out n=out++[n]:=by unfold stS;rw [if_neg (by rw [h];decide)]
theorem zbo {rows:List (List Int)}{l:Nat}:(QF rows l).length≤rows.length+1:=by
 have:∀ (ns out:List Int),(ns.foldl stS out).length≤ns.length+out.length:=by
  intro ns
  induction ns with
  | nil=>intro out;simp
  | cons n ns ih=>
   intro out
   refine Nat.le_trans (ih _) ?_
   have:(stS out n).length≤out.length+1:=by
    unfold stS
    split
    ·
     omega
    ·
     simp
   simp only [List.length_cons];omega
 have:=this (rows.map fun r=>r.getD l 0) [0]
 simpa [QF] using this
end
section
open Go Go.Kn Go.Proofs
theorem Za:ElT Tryz.prog 23 3 1 8:=.of (by kernel_rfl)
theorem zcw {I:Qw}{av:Option Addr}{n c:Nat}{rows:List (List Int)}(hV:SlN I av n c rows)(hn:n≤100000)(l:Nat)(hl:∀ r∈rows,l<r.length):Z4 Tryz.prog 212 [.slice av n c,.int .i64 l] I [] (KD 1 QP (QF rows l)):=by
 intro g H w hw
 refine qe Tryz.func212 Tryz.ntmps212 hw ?_
 have hIc:=zAl I
 obtain ⟨hs,hV⟩:=hV
 have hH:=hV.1
 have hlV:=hV.len
 refine zR (zA ?_)
 refine zN (zR ?_)
 refine Qp (ps:=[(0,_)]) (m:=[QP (0:Int)]) Za rfl (.cons rfl (.nil)) rfl (by simp [Qu]) (by decide) (by decide) rfl rfl (fun b_10=>?_)
 refine zA (zN (Qk (zR ?_)))
 refine zA (zN (Ql ?_))
 refine zU [(0,_),(1,_)] (fun T L0 mz E I' loc'=>∃ (i:Nat) (w9:Value) (q:Nat) (L:Go.Kn.Loc),mz=n-i∧E=(5,w9)::(6,.int .i64 i)::T∧HLe I I'∧L=loc'∧i≤n∧OwnS 3 1 w9 q ((QF (rows.take i) l).flatMap QP) L∧q≤i+1) ?_ (h:=⟨0,_,1,[(b_10,_)],rfl,rfl,zAl _,rfl,Nat.zero_le _,OwnS.lit rfl (by decide),Nat.le_refl _⟩)
 rintro mz E J1 loc' ⟨i,w9,q,L,rfl,rfl,hJ,rfl,hi,hO,hq⟩
 have hH:=hH.mono hJ;have hV:=hV.mono hJ;have hIc:=hIc.trans hJ
 have hB0:=hJ
 obtain ⟨va,vc,rfl⟩:=zaS hO
 refine Qk (zR (zM ?_))
 refine zM ?_
 refine zQ Q0 ?_
 refine zC (zN ?_)
 refine zI ?_ ?_<;>intro hc14
 ·
  have hlt_i:i<n:=by have h:=hc14;simp at h;omega
  obtain ⟨x,v,hx,hv,hQ⟩:=hV.at hlt_i
  have hlv:=hl v (List.mem_of_getElem? hv)
  have hu:=QX (d:=0) rfl hlv
  have hvn:=hQ.len
  refine Qo (Qa (Qk (Ql (zR (zM ?_)))))
  refine zM ?_
  refine zV (zX Q0 hH) ?_
  refine zV (Qd rfl QJ (fun hg=>by exact zAe hH hx rfl)) ?_
  refine zM ?_
  refine zV (zX Qt hQ) ?_
  refine zV (Qd rfl Qr (fun hg=>by exact zAe hQ hu rfl)) ?_
  refine zA ?_
  refine zN (zR ?_)
  refine zM ?_
  refine zC ?_
  refine zA (zN (Qk (zR ?_)))
  refine zA (zN (Ql ?_))
  refine zU [(0,_),(1,_),(5,_),(6,_),(7,_)] (fun T L0 mz E I' loc'=>∃ (k:Nat) (m:Bool),mz=q-k∧E=(8,.bool m)::(9,.int .i64 k)::T∧J1=I'∧L=loc'∧k≤q∧m=((v.getD l 0)==8589934592||((QF (rows.take i) l).take k).any (fun x=>x==(v.getD l 0)))) ?_ (h:=⟨0,_,rfl,rfl,rfl,rfl,Nat.zero_le _,by simp⟩)
  rintro mz E I' loc' ⟨k,m,rfl,rfl,rfl,rfl,hk,hm⟩
  refine Qk (zR (zM ?_))
  refine zM ?_
  refine zQ Qt ?_
  refine zC (zN ?_)
  refine zI ?_ ?_<;>intro hc29
  ·
   have hlt_k:k<q:=by have h:=hc29;simp at h;omega
   have hql:=hO.1
   rw [ZD Qu] at hql
   obtain ⟨y,hy⟩:∃ y,(QF (rows.take i) l)[k]? =some y:=⟨_,List.getElem?_eq_getElem (by omega)⟩
   obtain ⟨_,b,cc,cur,hvv,rfl,hcl,_,_⟩:=hO.spot1 (u:=fun x=>.int .i64 x) (fun _=>rfl) hy
   cases hvv
   refine Qo (Qa (Qk (Ql (Qf (zM ?_)))))
   refine zM ?_
   refine QV 1 rfl rfl rfl ?_
   refine zJ (Qh rfl) ?_
   refine zJ (Qh rfl) ?_
   refine zJ (Q6 rfl rfl Qt (fun hg=>by omega)) ?_
   refine zJ (Qd rfl Qr (fun hg=>by exact hcl _ _)) ?_
   refine zJ (Qh rfl) ?_
   refine zJ (QI rfl rfl rfl) ?_
   refine Zs rfl rfl rfl rfl rfl ?_
   refine zA (Qc (Qg (Qa (Qf ?_))))
   refine zM ?_
   refine zB ?_
   refine zA (Qc ?_)
   exact zm (h:=⟨q-(k+1),by omega,k+1,_,rfl,rfl,rfl,rfl,by omega,by rw [XR hy,hm,Bool.or_assoc]⟩)
  have hge_k:q≤k:=by have h:=hc29;simp at h;omega
  have hql:=hO.1
  rw [ZD Qu] at hql
  rw [List.take_of_length_le (by omega)] at hm
  refine QH (Qe (Qe (Qj (Qa (zR (zM ?_))))))
  refine zO (zN ?_)
  refine zI ?_ ?_<;>intro hc42
  ·
   refine Qf (zM ?_)
   refine zM ?_
   refine Qp (ps:=[(0,_)]) (m:=[QP (v.getD l 0)]) Za rfl (.cons rfl (.nil)) rfl (by simp [Qu]) (by decide) (by decide) rfl rfl (fun b_45=>?_)
   refine QU (v:=_) (ys:=[v.getD l 0].flatMap QP) (L:=L) rfl rfl Za hO (by repeat (first | exact .cons .here .nil | exact QD | exact Qy | apply QC | apply QB)) ⟨rfl,fun _=>rfl,zAj⟩ (V0 [v.getD l 0]) (by omega) rfl rfl ?_
   intro v9 L9 hO9 _;rw [←List.flatMap_append] at hO9
   refine zA (Qc (Qg (Qa (Qf ?_))))
   refine zM ?_
   refine zB ?_
   refine zA (Qc ?_)
   first
   | exact zm (h:=⟨n-(i+1),by omega,i+1,_,_,_,rfl,rfl,hB0,rfl,by omega,by rw [zbF hv,zwN (by rw [←hm];simpa using hc42)];exact hO9,by omega⟩)
  refine Qo (Qg (Qa (Qf (zM ?_))))
  refine zB ?_
  refine zA (Qc ?_)
  first
  | exact zm (h:=⟨n-(i+1),by omega,i+1,_,_,_,rfl,rfl,hB0,rfl,by omega,by rw [zbF hv,zh0 (by rw [←hm];simpa using hc42)];exact hO,by omega⟩)
 have hge_i:n≤i:=by have h:=hc14;simp at h;omega
 rw [Zo hlV hge_i] at hO
 refine QH (Qe (Qe (Qj (Qa (zR (zM ?_))))))
 refine zA (zN (Qs ?_))
 exact Zq rfl rfl (fun w hw=>by obtain ⟨I9,h91,h92,h93⟩:=OwnS.res hO Qu (by decide) hw;exact ⟨_,I9,[],rfl,hIc.trans h91,h92,h93⟩)
end
section
open Go Go.Kn Go.Proofs
theorem Z6 {α:Type}{xs:List α}{k:Nat}{x:α}(h:xs[k]? =some x):xs.take (k+1)=xs.take k++[x]:=by
 rw [List.take_add_one,h];rfl
section
variable {α:Type} {lt:α→α→Bool}
end
end
section
open Go Go.Kn Go.Proofs
def Vx (s:Int):Nat:=s.toNat.log2
def zx0 (w:Int):Int:=IntKind.i64.wrap (1*2^(min w.toNat IntKind.i64.bits))
theorem zqP:((List.range 64).all fun s=>(List.range 7).all fun w=> !ZN (s:Int)|| !decide (w≤Vx (s:Int))||(decide (zx0 (w:Int)<(s:Int))==decide (w<Vx (s:Int))))=true:=by kernel_rfl
theorem zpk {s:Int}(hs:1≤s∧s≤63)(h1:ZN s=true){w:Nat}(hw:w≤Vx s)(hw6:w<7):decide (zx0 (w:Int)<s)=decide (w<Vx s):=by
 have h:=List.all_eq_true.1 zqP s.toNat (List.mem_range.2 (by omega))
 have h:=List.all_eq_true.1 h w (List.mem_range.2 hw6)
 rw [show ((s.toNat:Nat):Int)=s by omega,h1] at h
 simpa [hw] using h
theorem zxB:((List.range 7).all fun n=>(List.range 64).all fun s=> !ZN (s:Int)|| !decide ((s:Int)≤ZK (n:Int))||decide (Vx (s:Int)<n))=true:=by kernel_rfl
theorem znk {s:Int}{n:Nat}(hn:n≤6)(hs:1≤s∧s≤63)(h1:ZN s=true)(h:s≤ZK (n:Int)):Vx s<n:=by
 have h0:=List.all_eq_true.1 zxB n (List.mem_range.2 (by omega))
 have h0:=List.all_eq_true.1 h0 s.toNat (List.mem_range.2 (by omega))
 rw [show ((s.toNat:Nat):Int)=s by omega,h1] at h0
 simpa [h] using h0
theorem Xf {cl:List Int}{c:Int}{a:Nat}(h:Vc cl c a≠0)(ha:1≤a):1≤Vc cl c a∧Vc cl c a<c∧Vv cl c (Vc cl c a)=true:=by
 unfold Vc at h ⊢
 cases hf:(List.range' a (c.toNat -a)).find? (fun k:Nat=>Vv cl c (k:Int)) with
 | none=>rw [hf] at h;exact absurd rfl h
 | some k=>
  have h1:=List.find?_some hf
  have h2:=List.mem_range'_1.1 (List.mem_of_find?_eq_some hf)
  exact ⟨by show 1≤(k:Int);omega,by show (k:Int)<c;omega,h1⟩
theorem zlW {s:Int}(h:1≤s∧s≤63):IntKind.i64.wrap (s-1)=s-1:=zb5 (by omega)
def OkS (n:Nat)(cl:List Int)(s:Int):Prop:=1≤s∧s≤ZK (n:Int)∧WH cl s=true
theorem Um {m:Int}{cl:List Int}(h:Y8 m cl=0):∀ c∈cl,Qx cl c≠0:=by
 intro c hc hs
 unfold Y8 at h
 repeat (split at h; · cases h)
 rename_i h5
 exact h5 (List.any_eq_true.2 ⟨c,hc,by simp [hs]⟩)
theorem zbL {n:Nat}{cl:List Int}{s:Int}(hc:Y8 n cl=0)(h:OkS n cl s)(h1:(JO s (IntKind.i64.wrap (s-1))==0)=false):OkS n cl (Qx cl s)∧OkS n cl (s-Qx cl s)∧1≤Qx cl s∧Qx cl s<s:=by
 obtain ⟨h2,h3,h4⟩:=h
 have hin:s∈cl:=by
  unfold WH ZN at h4
  rw [h1,Bool.and_false,Bool.or_false,List.any_eq_true] at h4
  obtain ⟨c,hc2,e⟩:=h4
  have:c=s:=by simpa using e
  exact this ▸ hc2
 obtain ⟨a1,a2,a3⟩:=Xf (Um hc s hin) (Nat.le_refl 1)
 unfold Vv at a3
 simp only [Bool.and_eq_true] at a3
 exact ⟨⟨a1,by show Vc cl s 1≤_;omega,a3.1.2⟩,⟨by show 1≤s-Vc cl s 1;omega,by show s-Vc cl s 1≤_;omega,a3.2⟩,a1,a2⟩
theorem zsY {n:Nat}{cl:List Int}{s:Int}(hn:n≤6)(h:OkS n cl s)(h63:s≤63)(h1:(JO s (IntKind.i64.wrap (s-1))==0)=true):ZN s=true∧Vx s<n:=by
 have hs:ZN s=true:=by unfold ZN;rw [h1,decide_eq_true (show s>0 by have:=h.1;omega)];rfl
 exact ⟨hs,znk hn ⟨h.1,h63⟩ hs h.2.1⟩
def Yn (u x:Int):Int:=if decide (u≠8589934592)&&decide (u≠x) then 1048576 else 0
def QO (rows:List (List Int))(cl:List Int)(l:Nat):Nat→Int→List Int
 | 0,_=>[]
 | f+1,s=>
  if (JO s (IntKind.i64.wrap (s-1))==0)=true then (QF rows l).map (Yn ((rows.getD (Vx s) []).getD l 0))
  else (QF rows l).map fun x=>Yc (QF rows l) (QO rows cl l f (Qx cl s)) x+Yc (QF rows l) (QO rows cl l f (s-Qx cl s)) x
theorem Ki {rows:List (List Int)}{cl:List Int}{l f:Nat}{s:Int}(h:(JO s (IntKind.i64.wrap (s-1))==0)=true):QO rows cl l (f+1) s=(QF rows l).map (Yn ((rows.getD (Vx s) []).getD l 0)):=by
 simp only [QO];rw [if_pos h]
def zhy (st L R:List Int)(x:Int):Int:=Yc st L x+Yc st R x
theorem KP {rows:List (List Int)}{cl:List Int}{l f:Nat}{s:Int}(h:(JO s (IntKind.i64.wrap (s-1))==0)=false):QO rows cl l (f+1) s=(QF rows l).map (zhy (QF rows l) (QO rows cl l f (Qx cl s)) (QO rows cl l f (s-Qx cl s))):=by
 simp only [QO];rw [if_neg (by rw [h];decide)];rfl
theorem XL {st cs:List Int}{s:Int}(h:∀ y∈cs,0≤y∧y≤1099511627776):0≤Yc st cs s∧Yc st cs s≤1048576:=by
 unfold Yc
 have:∀ k,0≤WJ st cs s k∧WJ st cs s k≤1048576:=by
  intro k
  induction k with
  | zero=>unfold WJ;simp
  | succ k ih=>
   have e:WJ st cs s (k+1)=JQ (WJ st cs s k) (ZZ s (st.getD k 0)+cs.getD k 0):=by
    unfold WJ
    rw [List.range_succ,List.foldl_append,List.foldl_cons,List.foldl_nil]
   rw [e]
   have h1:=(YW s (st.getD k 0)).1
   have h2:0≤cs.getD k 0:=by
    cases hk:cs[k]? with
    | none=>simp [List.getD,hk]
    | some y=>rw [QN hk];exact (h y (List.mem_of_getElem? hk)).1
   unfold JQ
   split<;>omega
 exact this _
theorem Y9 {rows:List (List Int)}{cl:List Int}{l:Nat}:∀ (f:Nat) (s:Int),∀ y∈QO rows cl l f s,0≤y∧y≤1099511627776
 | 0,_=>fun y hy=>by cases hy
 | f+1,s=>fun y hy=>by
  cases h:(JO s (IntKind.i64.wrap (s-1))==0) with
  | true=>
   rw [Ki h,List.mem_map] at hy
   obtain ⟨x,_,rfl⟩:=hy
   unfold Yn
   split<;>omega
  | false=>
   rw [KP h,List.mem_map] at hy
   obtain ⟨x,_,rfl⟩:=hy
   have h1:=XL (st:=QF rows l) (s:=x) (Y9 (rows:=rows) (cl:=cl) (l:=l) f (Qx cl s))
   have h2:=XL (st:=QF rows l) (s:=x) (Y9 (rows:=rows) (cl:=cl) (l:=l) f (s-Qx cl s))
   unfold zhy
   omega
theorem Yi {rows:List (List Int)}{cl:List Int}{l f:Nat}{s:Int}:(QO rows cl l (f+1) s).length=(QF rows l).length:=by
 cases h:(JO s (IntKind.i64.wrap (s-1))==0) with
 | true=>rw [Ki h,List.length_map]
 | false=>rw [KP h,List.length_map]
/-! ### A row that is filled -/
def Zk (row:List Int):Array Value:=(row.flatMap QP).toArray
theorem JL (row:List Int):row.flatMap QP=row.map (Value.int .i64):=by
 induction row with
 | nil=>rfl
 | cons b row ih=>rw [List.flatMap_cons,ih];rfl
theorem YQ (row:List Int)(m:Nat)(b:Int):(Zk row).setIfInBounds ((m:Int).toNat*1) (.int .i64 b)=Zk (row.set m b):=by
 unfold Zk
 rw [JL,JL,Nat.mul_one,List.setIfInBounds_toArray,List.map_set];rfl
theorem zsX {row:List Int}{m:Nat}(h:m<row.length):Nat.blt ((m:Int).toNat*1) (Zk row).size=true:=by
 unfold Zk
 rw [List.size_toArray,ZD Qu,Nat.mul_one,Nat.mul_one]
 rw [Nat.blt_eq];exact h
theorem Q7 (n:Nat):(List.replicate n (Value.int .i64 0)).toArray=Zk (List.replicate n 0):=by
 unfold Zk
 rw [JL,List.map_replicate]
theorem XK {b n e:Nat}{row:List Int}(h:row.length=n)(hn:n≤1000000):OwnS e 1 (.slice (some ⟨b,0,none⟩) n n) n (row.flatMap QP) [(b,.cells (Zk row) e (0,0))]:=
 OwnS.lit (by rw [ZD Qu,h]) (by simp only [maxLen];omega)
def zbp (st:List Int)(g:Int→Int)(k:Nat):List Int:=(st.take k).map g++List.replicate (st.length-k) 0
theorem zje {st:List Int}{g:Int→Int}{k:Nat}(h:k≤st.length):(zbp st g k).length=st.length:=by
 unfold zbp
 rw [List.length_append,List.length_map,List.length_take,List.length_replicate];omega
theorem zgU {st:List Int}{g:Int→Int}:zbp st g 0=List.replicate st.length 0:=by simp [zbp]
theorem zep {st:List Int}{g:Int→Int}{k:Nat}{x:Int}(hx:st[k]? =some x):(zbp st g k).set k (g x)=zbp st g (k+1):=by
 have hk:=(List.getElem?_eq_some_iff.1 hx).1
 unfold zbp
 rw [List.set_append_right _ _ (by simp;omega),List.take_add_one,hx]
 rw [show st.length-k=st.length-(k+1)+1 by omega,List.replicate_succ]
 rw [show k-(List.map g (List.take k st)).length=0 by simp;omega,List.set_cons_zero]
 simp
theorem znP {st:List Int}{g:Int→Int}{k:Nat}{x:Int}(hx:st[k]? =some x)(h:g x=0):zbp st g k=zbp st g (k+1):=by
 rw [←zep hx,h]
 have hk:=(List.getElem?_eq_some_iff.1 hx).1
 have hg:(zbp st g k)[k]? =some 0:=by
  unfold zbp
  rw [List.getElem?_append_right (by simp;omega),List.getElem?_replicate,if_pos (by simp;omega)]
 obtain ⟨h1,h2⟩:=List.getElem?_eq_some_iff.1 hg
 have:=List.set_getElem_self h1
 rw [h2] at this
 exact this.symm
theorem zlg {st:List Int}{g:Int→Int}{k:Nat}(h:st.length≤k):zbp st g k=st.map g:=by
 unfold zbp
 rw [List.take_of_length_le h,show st.length-k=0 by omega];simp
end
section
open Go Go.Kn Go.Proofs
theorem zeO:Fun Tryz.prog 212:=.of Tryz.func212 (by kernel_rfl) (by kernel_rfl)
theorem zcl:Fun Tryz.prog 213:=.of Tryz.func213 (by kernel_rfl) (by kernel_rfl)
theorem zi4:Fun Tryz.prog 240:=.of Tryz.func240 (by kernel_rfl) (by kernel_rfl)
theorem YC:MkT Tryz.prog 23 3 8 (.int .i64 0):=⟨by kernel_rfl,by kernel_rfl,rfl⟩
theorem Yd:SzT Tryz.prog 3 1:=.of (by kernel_rfl)
theorem zdn {I:Qw}{av:Option Addr}{n c:Nat}{xs:List Int}(_hS:Sl I 1 QP av n c xs)(_hn:n≤100000){bv:Option Addr}{n2 c2:Nat}{rows:List (List Int)}(hV:SlN I bv n2 c2 rows)(hn2:n2≤100000)(l:Nat)(hl:∀ r∈rows,l<r.length)(hc:Y8 rows.length xs=0)(f:Nat)(s:Int)(hok:OkS rows.length xs s)(hsg:(JO s (IntKind.i64.wrap (s-1))==0)=true):Z4 Tryz.prog 213 [.slice bv n2 c2,.slice av n c,.int .i64 l,.int .i64 s] I [] (KD 1 QP (QO rows xs l (f+1) s)):=by
 intro g H w hw
 refine qe Tryz.func213 Tryz.ntmps213 hw ?_
 have hIc:=zAl I
 obtain ⟨hs,hV⟩:=hV
 have hH:=hV.1
 have hlV:=hV.len
 have hal:=(Zy hc).1
 have hal6:=(Zy hc).2.1
 have ha63:=(JV (n:=(rows.length:Int)) ⟨hal,hal6⟩).2
 have hs0:=hok.1
 have hs1:=hok.2.1
 have hsl:=zbo (rows:=rows) (l:=l)
 obtain ⟨hsing,hwn⟩:=zsY (by omega) hok (by omega) hsg
 refine zR (zA ?_)
 refine zN (zR ?_)
 refine zM ?_
 refine zM ?_
 refine QA (cap:=[]) (vs:=[_,_]) rfl rfl zeO .nil (zcw ⟨hs,hV⟩ hn2 l hl) rfl rfl ?_
 rintro vv1 I1 L1 hI1 ⟨rfl,a9,c9,rfl,hSt⟩
 have hH:=hH.mono hI1;have hV:=hV.mono hI1;have hIc:=hIc.trans hI1
 refine zA ?_
 refine zN (zR ?_)
 refine zM ?_
 refine zQ Qt ?_
 refine Q4 YC rfl rfl (by omega) (by decide) rfl rfl (fun b_22=>?_)
 refine zA (Qc ?_)
 have e0:(((QF rows l).length:Nat):Int).toNat=(QF rows l).length:=rfl
 rw [e0,Q7,←zgU (g:=(Yn ((rows.getD (Vx s) []).getD l 0)))]
 refine Qa (Qk (zR (zM ?_)))
 refine zM ?_
 refine zB ?_
 refine zV (Kj rfl rfl) ?_
 refine zC (zN ?_)
 refine zI ?_ ?_<;>intro hc27
 ·
  refine zR (zA (zN (Qk (Ql ?_))))
  refine zU [(0,_),(2,_),(3,_),(9,_),(10,_)] (fun T L0 mz E I' loc'=>∃ (k:Nat),mz=(Vx s)-k∧E=(11,.int .i64 k)::T∧I1=I'∧[(b_22,.cells (Zk (zbp (QF rows l) (Yn ((rows.getD (Vx s) []).getD l 0)) 0)) 3 (0,0))]=loc'∧k≤(Vx s)) ?_ (h:=⟨0,rfl,rfl,rfl,rfl,Nat.zero_le _⟩)
  rintro mz E I' loc' ⟨k,rfl,rfl,rfl,rfl,hk⟩
  refine Qk (zR (zM ?_))
  refine zV (K6 rfl rfl (fun hg=>by omega)) ?_
  refine zM ?_
  refine zC (zN ?_)
  refine zI ?_ ?_<;>intro hc31
  ·
   have hlt_k:k<Vx s:=by have:=zpk (w:=k) ⟨hs0,by omega⟩ hsing hk (by omega);have h9:decide (zx0 (k:Int)<s)=true:=hc31;rw [this] at h9;simpa using h9
   refine Qo (Qa (Ql (Qf (zM ?_))))
   refine zB ?_
   refine zA (Qc (Qg ?_))
   exact zm (h:=⟨(Vx s)-(k+1),by omega,k+1,rfl,rfl,rfl,rfl,by omega⟩)
  have hge_k:k=Vx s:=by have:=zpk (w:=k) ⟨hs0,by omega⟩ hsing hk (by omega);have h9:decide (zx0 (k:Int)<s)=false:=hc31;rw [this] at h9;simp at h9;omega
  subst hge_k
  obtain ⟨x,v,hx,hv,hQ⟩:=hV.at (show Vx s<n2 by omega)
  have hlv:=hl v (List.mem_of_getElem? hv)
  have hu:=QX (d:=0) rfl hlv
  have hvn:=hQ.len
  have hgv:(rows.getD (Vx s) []).getD l 0=v.getD l 0:=by rw [QN hv]
  refine QH (Qe (Qe (Qj (Qa (Qk (zR (zA ?_)))))))
  refine zN (Ql ?_)
  refine zU [(0,_),(2,_),(9,_),(10,_),(11,_)] (fun T L0 mz E I' loc'=>∃ (i:Nat),mz=(QF rows l).length-i∧E=(12,.int .i64 i)::T∧I1=I'∧[(b_22,.cells (Zk (zbp (QF rows l) (Yn ((rows.getD (Vx s) []).getD l 0)) i)) 3 (0,0))]=loc'∧i≤(QF rows l).length) ?_ (h:=⟨0,rfl,rfl,rfl,rfl,Nat.zero_le _⟩)
  rintro mz E I' loc' ⟨i,rfl,rfl,rfl,rfl,hi⟩
  refine Qk (zR (zM ?_))
  refine zM ?_
  refine zQ Qt ?_
  refine zC (zN ?_)
  refine zI ?_ ?_<;>intro hc37
  ·
   have hlt_i:i<(QF rows l).length:=by have h:=hc37;simp at h;omega
   obtain ⟨y,hy⟩:=hSt.at hlt_i
   refine Qo (Qa (Qk (Ql (Qk ?_))))
   refine Yq mixed (by kernel_rfl) ?_
   refine zq (Qh rfl) ?_
   refine zq (Qh rfl) ?_
   refine zq (zX Q0 hH) ?_
   refine zq (Qd rfl QJ (fun hg=>by exact zAe hH hx rfl)) ?_
   refine zq (Qh rfl) ?_
   refine zq (zX Qt hQ) ?_
   refine zq (Qd rfl Qr (fun hg=>by exact zAe hQ hu rfl)) ?_
   refine zq (QI rfl rfl rfl) ?_
   refine zq (Qh rfl) ?_
   refine U7 8 rfl rfl rfl ?_
   refine zk (Qh rfl) ?_
   refine zk (Qh rfl) ?_
   refine zk (zX Q0 hH) ?_
   refine zk (Qd rfl QJ (fun hg=>by exact zAe hH hx rfl)) ?_
   refine zk (Qh rfl) ?_
   refine zk (zX Qt hQ) ?_
   refine zk (Qd rfl Qr (fun hg=>by exact zAe hQ hu rfl)) ?_
   refine zk (Qh rfl) ?_
   refine zk (Qh rfl) ?_
   refine zk (zX Qt hSt) ?_
   refine zk (Qd rfl Qr (fun hg=>by exact zAe hSt hy rfl)) ?_
   refine zk (QI rfl rfl rfl) ?_
   refine zrp rfl rfl rfl rfl rfl ?_
   refine Yp ?_
   refine Qa ?_
   refine zI ?_ ?_<;>intro hc61
   ·
    have hgy:(Yn ((rows.getD (Vx s) []).getD l 0)) y=1048576:=by unfold Yn;rw [hgv,if_pos (by simpa using hc61)]
    refine Qf (zM ?_)
    refine zM ?_
    refine zV (Q6 rfl rfl Qt (fun hg=>by omega)) ?_
    refine ZE rfl rfl Yd rfl rfl (by repeat (first | exact Upd.here | apply Upd.there | apply QM)) (zsX (by rw [zje (by omega)];omega)) ?_
    refine Qc ?_
    rw [YQ,show (zbp (QF rows l) (Yn ((rows.getD (Vx s) []).getD l 0)) i).set i 1048576=zbp (QF rows l) (Yn ((rows.getD (Vx s) []).getD l 0)) (i+1) from by rw [←zep hy,hgy]]
    refine Qg (Qa (Qf (zM ?_)))
    refine zB ?_
    refine zA (Qc ?_)
    exact zm (h:=⟨(QF rows l).length-(i+1),by omega,i+1,rfl,rfl,rfl,rfl,by omega⟩)
   have hgy:(Yn ((rows.getD (Vx s) []).getD l 0)) y=0:=by unfold Yn;rw [hgv,if_neg (by simpa using hc61)]
   rw [znP hy hgy]
   refine Qo (Qg (Qa (Qf (zM ?_))))
   refine zB ?_
   refine zA (Qc ?_)
   exact zm (h:=⟨(QF rows l).length-(i+1),by omega,i+1,rfl,rfl,rfl,rfl,by omega⟩)
  have hge_i:(QF rows l).length≤i:=by have h:=hc37;simp at h;omega
  rw [zlg hge_i]
  refine QH (Qe (Qe (Qj (Qa (zR (zM ?_))))))
  refine zA (zN (Qs (Qb ?_)))
  exact Zq rfl rfl (fun w hw=>by obtain ⟨I9,h91,h92,h93⟩:=OwnS.res (XK (by rw [List.length_map]) (by omega)) Qu (by decide) hw;rw [←Ki (f:=f) hsg] at h93;exact ⟨_,I9,[],rfl,hIc.trans h91,h92,h93⟩)
 rw [←zlW ⟨hs0,by omega⟩,hsg] at hc27;cases hc27
theorem zeN {I:Qw}{av:Option Addr}{n c:Nat}{xs:List Int}(hS:Sl I 1 QP av n c xs)(hn:n≤100000){bv:Option Addr}{n2 c2:Nat}{rows:List (List Int)}(hV:SlN I bv n2 c2 rows)(hn2:n2≤100000)(l:Nat)(hl:∀ r∈rows,l<r.length)(hc:Y8 rows.length xs=0)(f:Nat)(hf1:1≤f)(s:Int)(hok:OkS rows.length xs s)(ih:∀ (I':Qw),HLe I I'→∀ (s':Int),OkS rows.length xs s'→s'<s→Z4 Tryz.prog 213 [.slice bv n2 c2,.slice av n c,.int .i64 l,.int .i64 s'] I' [] (KD 1 QP (QO rows xs l f s')))(hsg:(JO s (IntKind.i64.wrap (s-1))==0)=false):Z4 Tryz.prog 213 [.slice bv n2 c2,.slice av n c,.int .i64 l,.int .i64 s] I [] (KD 1 QP (QO rows xs l (f+1) s)):=by
 intro g H w hw
 refine qe Tryz.func213 Tryz.ntmps213 hw ?_
 have hIc:=zAl I
 obtain ⟨hs,hV⟩:=hV
 have hH:=hV.1
 have hlV:=hV.len
 have hal:=(Zy hc).1
 have hal6:=(Zy hc).2.1
 have ha63:=(JV (n:=(rows.length:Int)) ⟨hal,hal6⟩).2
 have hs0:=hok.1
 have hs1:=hok.2.1
 have hsl:=zbo (rows:=rows) (l:=l)
 obtain ⟨hk1,hk2,hp1,hp2⟩:=zbL hc hok hsg
 obtain ⟨f0,rfl⟩:∃ f0,f=f0+1:=⟨f-1,by omega⟩
 refine zR (zA ?_)
 refine zN (zR ?_)
 refine zM ?_
 refine zM ?_
 refine QA (cap:=[]) (vs:=[_,_]) rfl rfl zeO .nil (zcw ⟨hs,hV⟩ hn2 l hl) rfl rfl ?_
 rintro vv1 I1 L1 hI1 ⟨rfl,a9,c9,rfl,hSt⟩
 have hS:=hS.mono hI1;have hIc:=hIc.trans hI1
 refine zA ?_
 refine zN (zR ?_)
 refine zM ?_
 refine zQ Qt ?_
 refine Q4 YC rfl rfl (by omega) (by decide) rfl rfl (fun b_22=>?_)
 refine zA (Qc ?_)
 have e0:(((QF rows l).length:Nat):Int).toNat=(QF rows l).length:=rfl
 rw [e0,Q7,←zgU (g:=(zhy (QF rows l) (QO rows xs l (f0+1) (Qx xs s)) (QO rows xs l (f0+1) (s-Qx xs s))))]
 refine Qa (Qk (zR (zM ?_)))
 refine zM ?_
 refine zB ?_
 refine zV (Kj rfl rfl) ?_
 refine zC (zN ?_)
 refine zI ?_ ?_<;>intro hc27
 ·
  rw [←zlW ⟨hs0,by omega⟩,hsg] at hc27;cases hc27
 refine Qo (Qa (zR (zM ?_)))
 refine zM ?_
 refine qc (vs:=[_,_]) rfl zjE (zgH hS hn s (by omega)) ?_
 refine zA ?_
 refine zN (zR ?_)
 refine zM ?_
 refine zM ?_
 refine zM ?_
 refine zM ?_
 refine QA (cap:=[]) (vs:=[_,_,_,_]) rfl rfl zcl .nil (ih _ hIc _ hk1 hp2) rfl rfl ?_
 rintro vv2 I2 L2 hI2 ⟨rfl,aL,cL,rfl,hLt⟩
 have hSt:=hSt.mono hI2;have hIc:=hIc.trans hI2
 refine zA ?_
 refine zN (zR ?_)
 refine zM ?_
 refine zM ?_
 refine zM ?_
 refine zM ?_
 refine zM ?_
 refine zB ?_
 refine QA (cap:=[]) (vs:=[_,_,_,_]) rfl rfl zcl .nil (ih _ hIc _ hk2 (by omega)) rfl rfl ?_
 rintro vv3 I3 L3 hI3 ⟨rfl,aR,cR,rfl,hRt⟩
 have hSt:=hSt.mono hI3;have hLt:=hLt.mono hI3;have hIc:=hIc.trans hI3
 refine zA (zN (Qk (zR ?_)))
 refine zA (zN (Ql ?_))
 refine zU [(9,_),(10,_),(14,_),(15,_)] (fun T L0 mz E I' loc'=>∃ (i:Nat),mz=(QF rows l).length-i∧E=(16,.int .i64 i)::T∧I3=I'∧[(b_22,.cells (Zk (zbp (QF rows l) (zhy (QF rows l) (QO rows xs l (f0+1) (Qx xs s)) (QO rows xs l (f0+1) (s-Qx xs s))) i)) 3 (0,0))]=loc'∧i≤(QF rows l).length) ?_ (h:=⟨0,rfl,rfl,rfl,rfl,Nat.zero_le _⟩)
 rintro mz E I' loc' ⟨i,rfl,rfl,rfl,rfl,hi⟩
 refine Qk (zR (zM ?_))
 refine zM ?_
 refine zQ Qt ?_
 refine zC (zN ?_)
 refine zI ?_ ?_<;>intro hc84
 ·
  have hlt_i:i<(QF rows l).length:=by have h:=hc84;simp at h;omega
  obtain ⟨y,hy⟩:=hSt.at hlt_i
  refine Qo (Qa (Qk (Ql (Qf (zM ?_)))))
  refine zM ?_
  refine zM ?_
  refine zM ?_
  refine zM ?_
  refine qc (vs:=[_,_,_]) rfl zi4 (zly hSt hLt (by omega) Yi.symm (Y9 _ _) i hlt_i) ?_
  refine zM ?_
  refine zM ?_
  refine zM ?_
  refine qc (vs:=[_,_,_]) rfl zi4 (zly hSt hRt (by omega) Yi.symm (Y9 _ _) i hlt_i) ?_
  refine zV (ZA rfl rfl rfl (fun _=>by (have hb1:=XL (st:=(QF rows l)) (s:=(QF rows l).getD i 0) (Y9 (rows:=rows) (cl:=xs) (l:=l) (f0+1) (Qx xs s));have hb2:=XL (st:=(QF rows l)) (s:=(QF rows l).getD i 0) (Y9 (rows:=rows) (cl:=xs) (l:=l) (f0+1) (s-Qx xs s));omega))) ?_
  refine zV (Q6 rfl rfl Qt (fun hg=>by omega)) ?_
  refine ZE rfl rfl Yd rfl rfl (by repeat (first | exact Upd.here | apply Upd.there | apply QM)) (zsX (by rw [zje (by omega)];omega)) ?_
  refine Qc ?_
  rw [YQ,show (zbp (QF rows l) (zhy (QF rows l) (QO rows xs l (f0+1) (Qx xs s)) (QO rows xs l (f0+1) (s-Qx xs s))) i).set i (Yc (QF rows l) (QO rows xs l (f0+1) (Qx xs s)) ((QF rows l).getD i 0)+Yc (QF rows l) (QO rows xs l (f0+1) (s-Qx xs s)) ((QF rows l).getD i 0))=zbp (QF rows l) (zhy (QF rows l) (QO rows xs l (f0+1) (Qx xs s)) (QO rows xs l (f0+1) (s-Qx xs s))) (i+1) from by rw [←zep hy,QN hy];rfl]
  refine Qg (Qa (Qf (zM ?_)))
  refine zB ?_
  refine zA (Qc ?_)
  exact zm (h:=⟨(QF rows l).length-(i+1),by omega,i+1,rfl,rfl,rfl,rfl,by omega⟩)
 have hge_i:(QF rows l).length≤i:=by have h:=hc84;simp at h;omega
 rw [zlg hge_i]
 refine QH (Qe (Qe (Qj (Qa (zR (zM ?_))))))
 refine zA (zN (Qs ?_))
 exact Zq rfl rfl (fun w hw=>by obtain ⟨I9,h91,h92,h93⟩:=OwnS.res (XK (by rw [List.length_map]) (by omega)) Qu (by decide) hw;rw [←KP (f:=f0+1) hsg] at h93;exact ⟨_,I9,[],rfl,hIc.trans h91,h92,h93⟩)
end
section
open Go Go.Kn Go.Proofs
theorem JE {rows:List (List Int)}(h:YX rows=0):1≤rows.length∧rows.length≤6∧(rows.getD 0 []).length≤64∧∀ r∈rows,r.length=(rows.getD 0 []).length∧∀ v∈r,0≤v∧v≤8589934592:=by
 unfold YX at h
 split at h
 ·
  cases h
 ·
  rename_i h1
  split at h
  ·
   cases h
  ·
   rename_i h2
   split at h
   ·
    cases h
   ·
    rename_i h3
    simp only [Bool.or_eq_true,decide_eq_true_eq,not_or,Bool.not_eq_true,List.any_eq_false] at h1 h3
    obtain ⟨r0,h0⟩:∃ r,rows[0]? =some r:=⟨_,List.getElem?_eq_getElem (by omega)⟩
    have hg:=QN (d:=([]:List Int)) h0
    have h64:=h1.2 r0 (List.mem_of_getElem? h0)
    simp at h64
    refine ⟨by omega,by omega,by rw [hg];omega,fun r hr=>?_⟩
    have:=h3 r hr
    unfold zhb at this
    rw [Bool.or_eq_false_iff] at this
    obtain ⟨ha,hb⟩:=this
    refine ⟨Int.ofNat.inj (Decidable.not_not.1 (of_decide_eq_false ha)),fun v hv=>?_⟩
    have:=List.any_eq_false.1 hb v hv
    unfold zba at this
    simp at this
    omega
theorem Xi {n:Nat}{cl:List Int}(h:Y8 n cl=0):OkS n cl (ZK n):=by
 obtain ⟨h1,h6,hlen,hin⟩:=Zy h
 refine ⟨(JV (n:=(n:Int)) ⟨h1,h6⟩).1,Int.le_refl _,?_⟩
 by_cases e:n=1
 ·
  subst e
  unfold WH
  rw [show ZN (ZK ((1:Nat):Int))=true from by decide,Bool.or_true]
 ·
  unfold Y8 at h
  repeat (split at h; · cases h)
  rename_i h4 _
  have hg:(n:Int)>1:=by omega
  simp only [Bool.and_eq_true,decide_eq_true_eq,not_and,Decidable.not_not] at h4
  have h4:=h4 hg
  unfold WH
  rw [Bool.or_eq_true];left
  rw [List.any_eq_true]
  have hk:((n:Int)-2).toNat<cl.length:=by omega
  refine ⟨cl[((n:Int)-2).toNat],List.getElem_mem hk,?_⟩
  rw [beq_iff_eq,←h4]
  exact (QN (List.getElem?_eq_getElem hk)).symm
def zcM (cs:List Int)(k:Nat):Int:=(cs.take k).foldl JQ (cs.getD 0 0)
def ZP (cs:List Int):Int:=zcM cs cs.length
theorem Wq {cs:List Int}{k:Nat}{x:Int}(hx:cs[k]? =some x):zcM cs (k+1)=JQ (zcM cs k) x:=by
 unfold zcM
 rw [List.take_add_one,hx,List.foldl_append];rfl
theorem WS {cs:List Int}(h:∀ y∈cs,0≤y∧y≤1099511627776)(h0:0<cs.length):∀ k,0≤zcM cs k∧zcM cs k≤1099511627776:=by
 have hz:0≤cs.getD 0 0∧cs.getD 0 0≤1099511627776:=by
  have:=List.getElem?_eq_getElem h0
  rw [QN this];exact h _ (List.getElem_mem h0)
 intro k
 induction k with
 | zero=>simpa [zcM] using hz
 | succ k ih=>
  cases hk:cs[k]? with
  | none=>
   have:zcM cs (k+1)=zcM cs k:=by
    unfold zcM
    rw [List.take_add_one,hk];simp
   rw [this];exact ih
  | some x=>
   rw [Wq hk]
   have:=h x (List.mem_of_getElem? hk)
   unfold JQ
   split<;>omega
def zbg (rows:List (List Int))(cl:List Int)(k:Nat):Int:=(List.range k).foldl (fun s l=>s+ZP (QO rows cl l 64 (ZK rows.length))) 0
def zgW (rows:List (List Int))(cl:List Int):Int:=zbg rows cl (rows.getD 0 []).length
theorem zbq {rows:List (List Int)}{cl:List Int}{k:Nat}:zbg rows cl (k+1)=zbg rows cl k+ZP (QO rows cl k 64 (ZK rows.length)):=by
 unfold zbg
 rw [List.range_succ,List.foldl_append];rfl
theorem Uq {rows:List (List Int)}{l:Nat}:0<(QF rows l).length:=by
 have:∀ (ns out:List Int),out.length≤(ns.foldl stS out).length:=by
  intro ns
  induction ns with
  | nil=>intro out;simp
  | cons n ns ih=>
   intro out
   refine Nat.le_trans ?_ (ih _)
   unfold stS
   split
   ·
    omega
   ·
    simp
 exact this (rows.map fun r=>r.getD l 0) [0]
end
section
open Go Go.Kn Go.Proofs
theorem zjv {av bv:Option Addr}{n c n2 c2:Nat}{xs:List Int}{rows:List (List Int)}(hn:n≤100000)(hn2:n2≤100000)(l:Nat)(hl:∀ r∈rows,l<r.length)(hc:Y8 rows.length xs=0):∀ (f:Nat) (I:Qw),Sl I 1 QP av n c xs→SlN I bv n2 c2 rows→∀ (s:Int),OkS rows.length xs s→s.toNat≤f→Z4 Tryz.prog 213 [.slice bv n2 c2,.slice av n c,.int .i64 l,.int .i64 s] I [] (KD 1 QP (QO rows xs l f s))
 | 0,_,_,_,s,hok,hf=>by have:=hok.1;omega
 | f+1,I,hS,hV,s,hok,hf=>by
  cases hsg:(JO s (IntKind.i64.wrap (s-1))==0) with
  | true=>exact zdn hS hn hV hn2 l hl hc f s hok hsg
  | false=>
   obtain ⟨_,_,hp1,hp2⟩:=zbL hc hok hsg
   exact zeN hS hn hV hn2 l hl hc f (by omega) s hok (fun I' hI s' hok' hlt=>zjv hn hn2 l hl hc f I' (hS.mono hI) (hV.mono hI) s' hok' (by omega)) hsg
theorem zg3 {I:Qw}{av bv:Option Addr}{n c n2 c2:Nat}{xs:List Int}{rows:List (List Int)}(hS:Sl I 1 QP av n c xs)(hn:n≤100000)(hV:SlN I bv n2 c2 rows)(hn2:n2≤100000)(l:Nat)(hl:∀ r∈rows,l<r.length)(hc:Y8 rows.length xs=0):Z4 Tryz.prog 213 [.slice bv n2 c2,.slice av n c,.int .i64 l,.int .i64 (IntKind.i64.wrap (1*2^(min (n2:Int).toNat IntKind.i64.bits))-1)] I [] (KD 1 QP (QO rows xs l 64 (ZK rows.length))):=by
 have hlV:=hV.len
 subst hlV
 exact zjv hn hn2 l hl hc 64 I hS hV (ZK rows.length) (Xi hc) (by have:=(JV (n:=(rows.length:Int)) ⟨(Zy hc).1,(Zy hc).2.1⟩).2;omega)
theorem zni {I:Qw}{av:Option Addr}{n c:Nat}{xs:List Int}(hS:Sl I 1 QP av n c xs)(hn:n≤100000){bv:Option Addr}{n2 c2:Nat}{rows:List (List Int)}(hV:SlN I bv n2 c2 rows)(hn2:n2≤100000)(hr:YX rows=0)(hc:Y8 rows.length xs=0):Zu Tryz.prog 211 [.slice bv n2 c2,.slice av n c] I (.int .i64 (zgW rows xs)):=by
 intro g H w hw
 refine qe Tryz.func211 Tryz.ntmps211 hw ?_
 have hIc:=zAl I
 obtain ⟨hs,hV⟩:=hV
 have hH:=hV.1
 have hlV:=hV.len
 obtain ⟨hr1,hr6,hr64,hrr⟩:=JE hr
 obtain ⟨x0,v0,hx0,hv0,hQ0⟩:=hV.at (show 0<n2 by omega)
 have hw0:=hQ0.len
 have hg0:=QN (d:=([]:List Int)) hv0
 have hv64:v0.length≤64:=by rw [←hg0];exact hr64
 have hsh:=zaa (n:=(n2:Int)) ⟨by omega,by omega⟩
 refine zR (zA ?_)
 refine zN (zR ?_)
 refine zA (zN (Qk (zR ?_)))
 refine zA (zN (Ql ?_))
 refine zU [(0,_),(1,_)] (fun T L0 mz E I' loc'=>∃ (k:Nat) (sm:Int),mz=v0.length-k∧E=(5,.int .i64 sm)::(6,.int .i64 k)::T∧HLe I I'∧L0=loc'∧k≤v0.length∧sm=zbg rows xs k∧0≤sm∧sm≤k*1099511627776) ?_ (h:=⟨0,_,rfl,rfl,zAl _,rfl,Nat.zero_le _,rfl,Int.le_refl _,(show (0:Int)≤((0:Nat):Int)*1099511627776 by decide)⟩)
 rintro mz E J1 loc' ⟨k,sm,rfl,rfl,hJ,rfl,hk,hsm,hs1,hs2⟩
 have hS:=hS.mono hJ;have hH:=hH.mono hJ;have hV:=hV.mono hJ;have hIc:=hIc.trans hJ
 have hB0:=hJ
 refine Qk (zR (zM ?_))
 refine zM ?_
 refine zV (zX Q0 hH) ?_
 refine zV (Qd rfl QJ (fun hg=>by exact zAe (k:=0) hH hx0 rfl)) ?_
 refine zQ Qt ?_
 refine zC (zN ?_)
 refine zI ?_ ?_<;>intro hc15
 ·
  have hlt_k:k<v0.length:=by have h:=hc15;simp at h;omega
  refine Qo (Qa (Qk (Ql (zR (zM ?_)))))
  refine zM ?_
  refine zM ?_
  refine zM ?_
  refine zQ Q0 ?_
  refine zV (K6 rfl rfl (fun hg=>by omega)) ?_
  refine zB ?_
  refine QA (cap:=[]) (vs:=[_,_,_,_]) rfl rfl zcl .nil (zg3 hS hn ⟨hs,hV⟩ hn2 k (fun r hm=>by rw [(hrr r hm).1,hg0];omega) hc) rfl rfl ?_
  rintro vv2 I2 L2 hI2 ⟨rfl,aC,cC,rfl,hC⟩
  have hB0:=hB0.trans hI2
  refine zA ?_
  refine zN (zR ?_)
  refine zM ?_
  refine zV (Qz rfl rfl Qt hC (fun hg=>by (rw [Yi];have:=Uq (rows:=rows) (l:=k);omega))) ?_
  refine zV (Qd rfl Qr (fun hg=>by exact zAe (k:=0) hC (QX (d:=0) rfl (by rw [Yi];exact Uq)) rfl)) ?_
  refine zA (zN (Qk (zR ?_)))
  refine zA (zN (Ql ?_))
  refine zU [(0,_),(1,_),(5,_),(6,_),(7,_)] (fun T L0 mz E I' loc'=>∃ (i:Nat) (b:Int),mz=(QO rows xs k 64 (ZK rows.length)).length-i∧E=(8,.int .i64 b)::(9,.int .i64 i)::T∧I2=I'∧L0=loc'∧i≤(QO rows xs k 64 (ZK rows.length)).length∧b=zcM (QO rows xs k 64 (ZK rows.length)) i) ?_ (h:=⟨0,_,rfl,rfl,rfl,rfl,Nat.zero_le _,by simp [zcM]⟩)
  rintro mz E I' loc' ⟨i,b,rfl,rfl,rfl,rfl,hi,hb⟩
  refine Qk (zR (zM ?_))
  refine zM ?_
  refine zQ Qt ?_
  refine zC (zN ?_)
  refine zI ?_ ?_<;>intro hc32
  ·
   have hlt_i:i<(QO rows xs k 64 (ZK rows.length)).length:=by have h:=hc32;simp at h;omega
   obtain ⟨y,hy⟩:∃ y,(QO rows xs k 64 (ZK rows.length))[i]? =some y:=⟨_,List.getElem?_eq_getElem hlt_i⟩
   refine Qo (Qa (Qk (Ql (Qf (zM ?_)))))
   refine zM ?_
   refine zM ?_
   refine zV (zX Qt hC) ?_
   refine zV (Qd rfl Qr (fun hg=>by exact zAe hC hy rfl)) ?_
   refine zV (zdm rfl rfl) ?_
   refine zA (Qc (Qg (Qa (Qf ?_))))
   refine zM ?_
   refine zV (ZA rfl rfl rfl (fun _=>by (have hcl:(QO rows xs k 64 (ZK rows.length)).length≤7:=(by rw [Yi];have:=zbo (rows:=rows) (l:=k);omega);omega))) ?_
   refine zA (Qc ?_)
   exact zm (h:=⟨(QO rows xs k 64 (ZK rows.length)).length-(i+1),by omega,i+1,_,rfl,rfl,rfl,rfl,by omega,by rw [Wq hy,hb]⟩)
  have hge_i:(QO rows xs k 64 (ZK rows.length)).length≤i:=by have h:=hc32;simp at h;omega
  have hie:i=(QO rows xs k 64 (ZK rows.length)).length:=by omega
  rw [hie] at hb
  have hb:b=ZP (QO rows xs k 64 (ZK rows.length)):=hb
  refine QH (Qe (Qe (Qj (Qa (Qf (zM ?_))))))
  refine zM ?_
  refine zV (ZA rfl rfl rfl (fun _=>by (have hmi:0≤ZP (QO rows xs k 64 (ZK rows.length))∧ZP (QO rows xs k 64 (ZK rows.length))≤1099511627776:=WS (cs:=(QO rows xs k 64 (ZK rows.length))) (Y9 _ _) (by rw [Yi];exact Uq) (QO rows xs k 64 (ZK rows.length)).length;omega))) ?_
  refine zA (Qc (Qg (Qa (Qf ?_))))
  refine zM ?_
  refine zB ?_
  refine zA (Qc ?_)
  exact zm (h:=⟨v0.length-(k+1),by omega,k+1,_,rfl,rfl,hB0,rfl,by omega,by rw [zbq,hsm,hb],by have hmi:0≤ZP (QO rows xs k 64 (ZK rows.length))∧ZP (QO rows xs k 64 (ZK rows.length))≤1099511627776:=WS (cs:=(QO rows xs k 64 (ZK rows.length))) (Y9 _ _) (by rw [Yi];exact Uq) (QO rows xs k 64 (ZK rows.length)).length;omega,by have hmi:0≤ZP (QO rows xs k 64 (ZK rows.length))∧ZP (QO rows xs k 64 (ZK rows.length))≤1099511627776:=WS (cs:=(QO rows xs k 64 (ZK rows.length))) (Y9 _ _) (by rw [Yi];exact Uq) (QO rows xs k 64 (ZK rows.length)).length;omega⟩)
 have hge_k:k=v0.length:=by have h:=hc15;simp at h;omega
 refine QH (Qe (Qe (Qj (Qa (zR (zM ?_))))))
 refine zA (zN (Qs ?_))
 first
 | exact zp hIc rfl rfl (by rw [hsm,hge_k,←hg0];rfl)
end
section
open Go Go.Kn Go.Proofs
def Yk (rows:List (List Int))(cl:List Int):Int:=if YX rows≠0 then YX rows else Y8 rows.length cl
def zdt (rows:List (List Int))(cl:List Int):Int:=if Yk rows cl≠0 then 0 else zgW rows cl
theorem zbm {rows:List (List Int)}{cl:List Int}(h:YX rows≠0):Yk rows cl=YX rows∧zdt rows cl=0:=by
 have e:Yk rows cl=YX rows:=by unfold Yk;rw [if_pos h]
 exact ⟨e,by unfold zdt;rw [if_pos (by rw [e];exact h)]⟩
theorem zpA {rows:List (List Int)}{cl:List Int}(h:YX rows=0)(h2:Y8 rows.length cl≠0):Yk rows cl=Y8 rows.length cl∧zdt rows cl=0:=by
 have e:Yk rows cl=Y8 rows.length cl:=by unfold Yk;rw [if_neg (by omega)]
 exact ⟨e,by unfold zdt;rw [if_pos (by rw [e];exact h2)]⟩
theorem zpP {rows:List (List Int)}{cl:List Int}(h:YX rows=0)(h2:Y8 rows.length cl=0):Yk rows cl=0∧zdt rows cl=zgW rows cl:=by
 have e:Yk rows cl=0:=by unfold Yk;rw [if_neg (by omega),h2]
 exact ⟨e,by unfold zdt;rw [if_neg (by omega)]⟩
def zcp (I:Qw)(hs:List Hd)(vss:List (List Int)):Prop:=hs.length=vss.length∧∀ (k:Nat) (h:Hd) (v:List Int),hs[k]? =some h→vss[k]? =some v→Sl I 1 QP h.a h.n h.c v
theorem zcp.nil {I:Qw}:zcp I [] []:=⟨rfl,fun k h v a=>by simp at a⟩
theorem zcp.mono {I I':Qw}{hs:List Hd}{vss:List (List Int)}(h:zcp I hs vss)(hI:HLe I I'):zcp I' hs vss:=⟨h.1,fun k x v a b=>(h.2 k x v a b).mono hI⟩
theorem zcp.snoc {I:Qw}{hs:List Hd}{vss:List (List Int)}(h:zcp I hs vss){hd:Hd}{v:List Int}(hV:Sl I 1 QP hd.a hd.n hd.c v):zcp I (hs++[hd]) (vss++[v]):=by
 refine ⟨by simp [h.1],fun k x y a b=>?_⟩
 rw [List.getElem?_append] at a b
 rw [h.1] at a
 split at a
 ·
  rename_i hk
  rw [if_pos hk] at b
  exact h.2 k x y a b
 ·
  rename_i hk
  rw [if_neg hk] at b
  have e:k-vss.length=0:=by
   cases hd2:k-vss.length with
   | zero=>rfl
   | succ m=>rw [hd2] at a;simp at a
  rw [e] at a b
  simp at a b
  subst a;subst b;exact hV
end
section
open Go Go.Kn Go.Proofs
theorem zr9:Fun Tryz.prog 209:=.of Tryz.func209 (by kernel_rfl) (by kernel_rfl)
theorem zrY:Fun Tryz.prog 210:=.of Tryz.func210 (by kernel_rfl) (by kernel_rfl)
theorem zsg:Fun Tryz.prog 211:=.of Tryz.func211 (by kernel_rfl) (by kernel_rfl)
theorem zth {I:Qw}{av:Option Addr}{n c:Nat}{xs:List Int}(hS:Sl I 1 QP av n c xs)(hn:n≤100000){bv:Option Addr}{n2 c2:Nat}{rows:List (List Int)}(hV:SlN I bv n2 c2 rows)(hn2:n2≤100000):Zu Tryz.prog 166 [.slice bv n2 c2,.slice av n c] I (.tuple #[.int .i64 (zdt rows xs),.int .i64 (Yk rows xs)]):=by
 intro g H w hw
 refine qe Tryz.func166 Tryz.ntmps166 hw ?_
 have hlV:=hV.len
 subst hlV
 refine zR (zA ?_)
 refine zA ?_
 refine zN (zR ?_)
 refine zM ?_
 refine qc (vs:=[_]) rfl zr9 (ztY hV hn2) ?_
 refine zA (zN (Qk (zR ?_)))
 refine zM ?_
 refine zC (zN ?_)
 refine zI ?_ ?_<;>intro hc11
 ·
  have hr0:YX rows≠0:=by simpa using hc11
  obtain ⟨e1,e2⟩:=zbm (cl:=xs) hr0
  refine zR (zM ?_)
  refine zA ?_
  refine zA (zN (Qs (Qb ?_)))
  first
  | exact Zr rfl rfl rfl (fun w hw=>⟨by rw [e1,e2],hw.drop⟩)
 have hr0:YX rows=0:=by simpa using hc11
 refine Qo (Qa (zR (zM ?_)))
 refine zQ Q0 ?_
 refine zM ?_
 refine qc (vs:=[_,_]) rfl zrY (znW hS _) ?_
 refine zA (zN (Qk (zR ?_)))
 refine zM ?_
 refine zC (zN ?_)
 refine zI ?_ ?_<;>intro hc18
 ·
  have hc0:Y8 rows.length xs≠0:=by simpa using hc18
  obtain ⟨e1,e2⟩:=zpA hr0 hc0
  refine zR (zM ?_)
  refine zA ?_
  refine zA (zN (Qs (Qb ?_)))
  first
  | exact Zr rfl rfl rfl (fun w hw=>⟨by rw [e1,e2],hw.drop⟩)
 have hc0:Y8 rows.length xs=0:=by simpa using hc18
 obtain ⟨e1,e2⟩:=zpP hr0 hc0
 refine Qo (Qa (zR (zM ?_)))
 refine zM ?_
 refine qc (vs:=[_,_]) rfl zsg (zni hS hn hV hn2 hr0 hc0) ?_
 refine zA ?_
 refine zA (zN (Qs ?_))
 first
 | exact Zr rfl rfl rfl (fun w hw=>⟨by rw [e1,e2],hw.drop⟩)
end
section
open Go Go.Kn Go.Proofs
def zbD (s:Int):Nat:=(List.range 6).foldl (fun c i=>c+s.toNat / 2^i % 2) 0
end
section
open Go Go.Kn Go.Proofs
def za2 (e:Int)(vss:List (List Int)):Value→Qw→Go.Kn.Loc→Prop:=fun v I' L=>L=[]∧∃ av c,v= .tuple #[.slice av vss.length c,.int .i64 e]∧SlN I' av vss.length c vss
theorem SlN.none {I:Qw}:SlN I none 0 0 []:=⟨[],.nil,zcp.nil⟩
theorem za2.empty {e:Int}{vss:List (List Int)}{I:Qw}(h:vss=[]):za2 e vss (.tuple #[.slice none 0 0,.int .i64 e]) I []:=by
 subst h
 exact ⟨rfl,none,0,rfl,.none⟩
end
section
open Go Go.Kn Go.Proofs
theorem zoV:Fun Tryz.prog 96:=.of Tryz.func96 (by kernel_rfl) (by kernel_rfl)
theorem zuh {xs:List Int}{x:Int}(hx:xs[0]? =some x):zcM xs 1=x:=by
 cases xs with
 | nil=>cases hx
 | cons y xs=>cases hx;simp [zcM,JQ]
theorem zvd {I:Qw}{av:Option Addr}{n c:Nat}{xs:List Int}(hS:Sl I 1 QP av n c xs)(hn:n≤100000)(h0:0<n):Zu Tryz.prog 96 [.slice av n c] I (.int .i64 (ZP xs)):=by
 intro g H w hw
 refine qe Tryz.func96 Tryz.ntmps96 hw ?_
 obtain ⟨x0,hx0⟩:=hS.at h0
 refine zR (zA (zN (Qk (zR ?_))))
 refine zM ?_
 refine zQ Qt ?_
 refine zC (zN ?_)
 refine zI ?_ ?_<;>intro hc7
 ·
  have h:=hc7;simp at h;omega
 refine Qo (Qa (zR (zM ?_)))
 refine zV (Qz rfl rfl Qt (by assumption) (fun hg=>by omega)) ?_
 refine zV (Qd rfl Qr (fun hg=>by exact zAe (k:=0) hS hx0 rfl)) ?_
 refine zA (zN (Qk (zR ?_)))
 refine zA (zN (Ql ?_))
 refine zU [(0,_)] (fun T L0 mz E I' loc'=>∃ (k:Nat) (m:Int),mz=n-k∧E=(3,.int .i64 m)::(4,.int .i64 k)::T∧I=I'∧L0=loc'∧k≤n∧m=zcM xs k∧1≤k) ?_ (h:=⟨1,_,rfl,rfl,rfl,rfl,h0,(zuh hx0).symm,Nat.le_refl _⟩)
 rintro mz E I' loc' ⟨k,m,rfl,rfl,rfl,rfl,hk,hm,hk1⟩
 refine Qk (zR (zM ?_))
 refine zM ?_
 refine zQ Qt ?_
 refine zC (zN ?_)
 refine zI ?_ ?_<;>intro hc15
 ·
  have hlt_k:k<n:=by have h:=hc15;simp at h;omega
  obtain ⟨x,hx⟩:=hS.at hlt_k
  refine Qo (Qa (Qk (Ql (Qf (zM ?_)))))
  refine zM ?_
  refine zM ?_
  refine zV (Qz rfl rfl Qt (by assumption) (fun hg=>by omega)) ?_
  refine zV (Qd rfl Qr (fun hg=>by exact zAe hS hx rfl)) ?_
  refine zV (zdm rfl rfl) ?_
  refine zA (Qc (Qg (Qa (Qf ?_))))
  refine zM ?_
  refine zB ?_
  refine zA (Qc ?_)
  exact zm (h:=⟨n-(k+1),by omega,k+1,_,rfl,rfl,rfl,rfl,by omega,by rw [Wq hx,hm],by omega⟩)
 have hge_k:n≤k:=by have h:=hc15;simp at h;omega
 have hkn:k=xs.length:=by rw [hS.len];omega
 subst hkn
 refine QH (Qe (Qe (Qj (Qa (zR (zM ?_))))))
 refine zA (zN (Qs ?_))
 first
 | exact zr rfl rfl (by rw [hm];rfl)
theorem zp7 {I:Qw}{av:Option Addr}{n c:Nat}{xs:List Int}(hS:Sl I 1 QP av n c xs)(hn:n≤100000)(h0:0<n):Zu Tryz.prog 236 [.slice av n c] I (.int .i64 (ZP xs)):=by
 intro g H w hw
 refine qe Tryz.func236 Tryz.ntmps236 hw ?_
 refine zR (zA ?_)
 refine zN (zR ?_)
 refine zM ?_
 refine qc (vs:=[_]) rfl zoV (zvd hS hn h0) ?_
 refine zA (zN (Qs ?_))
 exact zr rfl rfl (by rfl)
end
end Go.Proofs.YtodakphagkommaaGreatDoor
namespace Go.Kn
section
open Go
theorem zho {C:Cx}{S:GS}{E:Env}{I:Qw}{loc:Loc}{dst:Option Nat}{ty:Nat}{pos:String}{af:Array Edge}{gd:Option (Nat×Bool)}{t e:Nat}{z1 z2 z3 z4 a b c d:Value}{x y:Operand}
  (hT:ArT C.P t 2 e 2)(hz:Yz C.P t (.agg #[z1,z2,z3,z4]))(hx:QE S E x=some (.agg #[a,b]))(hy:QE S E y=some (.agg #[c,d])):
  QZ C S E I loc ⟨dst,.build t #[(0,x),(1,y)],ty,pos,af,gd⟩ (.agg #[a,b,c,d]):=
 .of (by intro c e;cases e) fun st w ha hg hc hw=>by
  obtain ⟨hu,i,hi,hs⟩:=hT
  have hsz:∀ w:World,(sizeOf e).run C.P w= .ok 2 w:=fun w=>by have h1:=Go.run_sizeOf (w:=w) hi;have h2:C.P.cellsOf e=2:=(by unfold Program.cellsOf;rw [hi];exact hs);rw [h2] at h1;exact h1
  simp only [execOp,Instr.build,Sem.run_bind,Z2 hz,Result.andThen,run_underlying hu,hsz,List.map_toArray,List.map_cons,List.map_nil,Qn ha hg hc hx,Qn ha hg hc hy]
  rfl
end
end Go.Kn
namespace Go.Proofs.YtodakphagkommaaGreatDoor
section
open Go Go.Kn Go.Proofs
theorem ztz:AgT Tryz.prog 285 4:=.of (by kernel_rfl)
theorem zgh:Ar2 Tryz.prog 79 3 .i64:=⟨by kernel_rfl,by kernel_rfl,by kernel_rfl,by kernel_rfl,by kernel_rfl⟩
theorem zi2:ArT Tryz.prog 285 2 79 2:=.of (by kernel_rfl)
theorem zqW:SzT Tryz.prog 285 4:=.of (by kernel_rfl)
theorem zpg:Yz Tryz.prog 285 (.agg #[(.int .i64 0),(.int .i64 0),(.int .i64 0),(.int .i64 0)]):=.of (by kernel_rfl)
theorem KI:Yz Tryz.prog 79 (.agg #[(.int .i64 0),(.int .i64 0)]):=.of (by kernel_rfl)
theorem zq1 (I:Qw):Zu Tryz.prog 252 [] I (.agg #[.int .i64 2,.int .i64 1,.int .i64 4,.int .i64 0]):=by
 intro g H w hw
 refine qe Tryz.func252 Tryz.ntmps252 hw ?_
 refine zR ?_
 refine Qv zpg rfl rfl (fun b_0=>?_)
 refine zN (zR ?_)
 refine zV (zdK zgh KI rfl rfl) ?_
 refine zV (zdK zgh KI rfl rfl) ?_
 refine zV (zho zi2 zpg rfl rfl) ?_
 refine zh zqW ?_
 refine zN (Qs ?_)
 exact KG (vs:=[.int .i64 2,.int .i64 1,.int .i64 4,.int .i64 0]) rfl rfl ztz (by repeat (first | exact zAj | apply zAi)) rfl (fun w hw=>⟨rfl,hw.drop⟩)
end
section
open Go Go.Kn Go.Proofs
theorem za0:AgT Tryz.prog 79 2:=.of (by kernel_rfl)
theorem Y1:ArT Tryz.prog 79 2 3 1:=.of (by kernel_rfl)
theorem zkp:Fun Tryz.prog 251:=.of Tryz.func251 (by kernel_rfl) (by kernel_rfl)
theorem zrq:Fun Tryz.prog 252:=.of Tryz.func252 (by kernel_rfl) (by kernel_rfl)
theorem zlu (n:Int):0≤zbP n∧zbP n<2:=by unfold zbP;split<;>omega
theorem zsT {f t:Int}(h:f≠t):((([.int .i64 2,.int .i64 1,.int .i64 4,.int .i64 0]:List Value).drop ((zbP f).toNat*2)).take 2)[(zbP t).toNat*1]? =some (.int .i64 (ZZ f t)):=by
 unfold ZZ zbP
 rw [if_neg h]
 by_cases h1:t=0
 ·
  have h2:¬f=0:=fun e=>h (by rw [e,h1])
  rw [if_pos h1,if_neg h2,if_pos h1];rfl
 rw [if_neg h1,if_neg h1]
 by_cases h2:f=0
 ·
  rw [if_pos h2,if_pos h2];rfl
 rw [if_neg h2,if_neg h2];rfl
theorem zwZ (I:Qw)(f t:Int):Zu Tryz.prog 235 [.int .i64 f,.int .i64 t] I (.int .i64 (ZZ f t)):=by
 intro g H w hw
 refine qe Tryz.func235 Tryz.ntmps235 hw ?_
 refine zR (zA (zN (Qk (zR ?_))))
 refine zM ?_
 refine zM ?_
 refine zC (zN ?_)
 refine zI ?_ ?_<;>intro hc8
 ·
  have heq:f=t:=by simpa using hc8
  refine zR (zA (zN (Qs (Qb ?_))))
  first
  | exact zr rfl rfl (by unfold ZZ;rw [if_pos heq])
 have hne:f≠t:=by simpa using hc8
 refine Qo (Qa (zR (zA (zN (Qk ?_)))))
 refine Yq mixed (by kernel_rfl) ?_
 refine Vs (cap:=[]) (vs:=[]) rfl rfl zrq (zq1 I) rfl rfl ?_
 refine zq (Qh rfl) ?_
 refine zq (Qh rfl) ?_
 refine Vs (cap:=[]) (vs:=[_]) rfl rfl zkp (zpI I _) rfl rfl ?_
 refine zq (zhI (cs:=[.int .i64 2,.int .i64 1,.int .i64 4,.int .i64 0]) rfl rfl zi2 za0 (fun hg=>zlu _)) ?_
 refine zq (Qh rfl) ?_
 refine zq (Qh rfl) ?_
 refine Vs (cap:=[]) (vs:=[_]) rfl rfl zkp (zpI I _) rfl rfl ?_
 refine zq (Kr rfl rfl Y1 Qr (fun hg=>zlu _) (fun hg=>zsT hne)) ?_
 refine zq (ZM rfl) ?_
 refine Yp ?_
 refine Qa (Qs ?_)
 exact zr rfl rfl (by rfl)
end
section
open Go Go.Kn Go.Proofs
def zqV:List Int:=[0,1,56,2,57,49,28,3,61,58,42,50,38,29,17,4,62,47,59,36,45,43,51,22,53,39,33,30,24,18,12,5,63,55,48,27,60,41,37,16,46,35,44,21,52,32,23,11,54,26,40,15,34,20,31,10,25,14,19,9,13,8,7,6]
def V5 (I:Qw):Prop:=∀ i:Nat,i<64→QY I [] 1 i (.int .u8 (zqV.getD i 0))
theorem V5.mono {I I':Qw}(h:V5 I)(hI:HLe I I'):V5 I':=fun i hi=>(h i hi).mono hI
def zy8 (a b:Int):Int:=IntKind.u64.wrap ((BitVec.ofInt 64 a&&& BitVec.ofInt 64 b).toNat:Int)
def zlH (x:Int):Int:=(IntKind.u64.wrap (zy8 x (IntKind.u64.wrap (0-x))*285870213051353865)).fdiv (2^58)
theorem zqt:((List.range 64).all fun s=> !ZN (s:Int)||(decide (0≤zlH (s:Int))&&decide (zlH (s:Int)<64)&&decide (IntKind.i64.wrap (zqV.getD (zlH (s:Int)).toNat 0)=(Vx (s:Int):Int))))=true:=by kernel_rfl
theorem zuS {s:Int}(hs:1≤s∧s≤63)(h1:ZN s=true):(0≤zlH s∧zlH s<64)∧IntKind.i64.wrap (zqV.getD (zlH s).toNat 0)=(Vx s:Int):=by
 have h:=List.all_eq_true.1 zqt s.toNat (List.mem_range.2 (by omega))
 rw [show ((s.toNat:Nat):Int)=s by omega,h1] at h
 simpa using h
section
variable {C:Cx} {E:Env} {I:Qw} {loc:Go.Kn.Loc} {S:GS} {dst:Option Tmp} {ty:TypeId} {pos:String} {af:Array Edge} {gd:Option (Nat×Bool)} {x y:Operand} {a b:Int}
theorem zrc {t t':TypeId}(hx:QE S E x=some (.int .u64 a))(hy:QE S E y=some (.int .u64 b)):QZ C S E I loc ⟨dst,.binOp .and t x y t',ty,pos,af,gd⟩ (.int .u64 (zy8 a b)):=
 .of (by intro c e;cases e) fun ac w ha hg hc _=>by
  simp only [execOp,Qn ha hg hc hx,Qn ha hg hc hy,Sem.run_bind,ZG,Result.andThen,binOp,ne_eq,not_true_eq_false,if_false,Op.intBits,Sem.run_pure,zy8,IntKind.bits];rfl
end
/-! ### Maps of costs -/
def eiv:Int→Value:=Value.int .i64
structure UR (m:List (Int×Int))(g:Int→Option Int):Prop where
 nd:(m.map (·.1)).Nodup
 get:∀ x,ZH m x=g x
theorem UR.nil:UR [] (fun _=>none):=⟨.nil,fun _=>rfl⟩
theorem UR.set {m:List (Int×Int)}{g:Int→Option Int}(h:UR m g)(x v:Int):UR (YE m x v) (fun y=>if x=y then some v else g y):=
 ⟨W8 _ _ h.nd,fun y=>by rw [YI,h.get]⟩
theorem UR.congr {m:List (Int×Int)}{g g':Int→Option Int}(h:UR m g)(e:∀ x,g x=g' x):UR m g':=⟨h.nd,fun x=>by rw [h.get,e]⟩
theorem UR.mem {m:List (Int×Int)}{g:Int→Option Int}(h:UR m g){p:Int×Int}(hp:p∈m):g p.1=some p.2:=by rw [←h.get];exact zbz h.nd hp
def zjK {α:Type}(m:List α)(seen:List Nat):List α:=seen.filterMap fun i=>m[i]?
theorem zcv {α:Type}{m:List α}{seen:List Nat}{i:Nat}{p:α}(hp:m[i]? =some p):zjK m (seen++[i])=zjK m seen++[p]:=by
 unfold zjK;rw [List.filterMap_append];simp [hp]
theorem zem {α:Type}{m:List α}{seen:List Nat}(hnd:seen.Nodup)(hlt:∀ i∈seen,i<m.length)(hall:∀ i (p:α),m[i]? =some p→i∈seen):(zjK m seen).Perm m:=by
 have h1:=(XX hnd hlt hall).filterMap (fun i=>m[i]?)
 rw [zcU] at h1
 exact h1
theorem zk4 {α:Type}{m:List α}{seen:List Nat}{p:α}:p∈zjK m seen↔ ∃ i∈seen,m[i]? =some p:=by unfold zjK;rw [List.mem_filterMap]
theorem Kd {seen:List Nat}{i n:Nat}(hnd:seen.Nodup)(hlt:∀ i∈seen,i<n)(hs:i∉seen)(hi:i<n):(seen++[i]).Nodup∧(∀ j∈seen++[i],j<n)∧(seen++[i]).length≤n:=by
 have h1:(seen++[i]).Nodup:=List.nodup_append.2 ⟨hnd,by simp,fun a ha b hb e=>hs (by simp at hb;subst hb;subst e;exact ha)⟩
 have h2:∀ j∈seen++[i],j<n:=fun j hj=>(List.mem_append.1 hj).elim (hlt j) (fun h=>by simp at h;subst h;exact hi)
 refine ⟨h1,h2,?_⟩
 have:=JF (m:=List.range n) h1 (by simpa using h2)
 simpa using this
/-! ### The least, in whatever order -/
theorem VU:∀ (xs:List Int) (b:Int),(∀ x∈xs,xs.foldl JQ b≤x)∧xs.foldl JQ b≤b∧(xs.foldl JQ b=b∨xs.foldl JQ b∈xs)
 | [],b=>⟨fun x h=>by simp at h,Int.le_refl _,.inl rfl⟩
 | y::xs,b=>by
  obtain ⟨h1,h2,h3⟩:=VU xs (JQ b y)
  simp only [List.foldl_cons]
  have hb:JQ b y≤b∧JQ b y≤y∧(JQ b y=b∨JQ b y=y):=by unfold JQ;split<;>omega
  refine ⟨fun x hx=>?_,by omega,?_⟩
  ·
   rcases List.mem_cons.1 hx with rfl | hx
   ·
    omega
   ·
    exact h1 x hx
  ·
   rcases h3 with h3 | h3
   ·
    rcases hb.2.2 with e | e
    ·
     left;rw [h3,e]
    ·
     right;rw [h3,e];exact List.mem_cons_self ..
   ·
    right;exact List.mem_cons_of_mem _ h3
theorem WB {xs:List Int}(h:xs≠[]):ZP xs∈xs∧∀ x∈xs,ZP xs≤x:=by
 cases xs with
 | nil=>exact absurd rfl h
 | cons y xs=>
  unfold ZP zcM
  rw [List.take_length]
  have e:(y::xs).getD 0 0=y:=rfl
  rw [e]
  obtain ⟨h1,h2,h3⟩:=VU (y::xs) y
  refine ⟨?_,h1⟩
  rcases h3 with h3 | h3
  ·
   rw [h3];exact List.mem_cons_self ..
  ·
   exact h3
theorem zfy {xs:List Int}{v:Int}(h:v∈xs)(h2:∀ x∈xs,v≤x):ZP xs=v:=by
 obtain ⟨h3,h4⟩:=WB (List.ne_nil_of_mem h)
 have a:=h4 v h
 have b:=h2 _ h3
 omega
theorem zaC (st cs:List Int)(s:Int)(k:Nat):WJ st cs s k=((List.range k).map fun i=>ZZ s (st.getD i 0)+cs.getD i 0).foldl JQ 1048576:=by
 unfold WJ;rw [List.foldl_map]
structure zdX (st cs:List Int)(b:Int)(m:List (Int×Int)):Prop where
 len:cs.length=st.length
 nd:(m.map (·.1)).Nodup
 get:∀ (i:Nat) (x c:Int),st[i]? =some x→cs[i]? =some c→ZH m x=if c<1048576 then some c else none
 old:∀ p∈m,p.1∈st
 pos:∃ c∈cs,c<1048576
 le:∀ c∈cs,0≤c∧(c<1048576→c≤b)∧c≤1048576
theorem zdX.ne {st cs:List Int}{b:Int}{m:List (Int×Int)}(h:zdX st cs b m):0<m.length:=by
 obtain ⟨c,hc,hlt⟩:=h.pos
 obtain ⟨i,hi⟩:=List.getElem?_of_mem hc
 have hil:=(List.getElem?_eq_some_iff.1 hi).1
 have hx:st[i]? =some (st[i]'(by rw [←h.len];exact hil)):=List.getElem?_eq_getElem _
 have:=h.get i _ c hx hi
 rw [if_pos hlt] at this
 exact List.length_pos_of_mem (Ua this)
theorem zdX.ent {st cs:List Int}{b:Int}{m:List (Int×Int)}(h:zdX st cs b m){x c:Int}:(x,c)∈m↔ ∃ i:Nat,st[i]? =some x∧cs[i]? =some c∧c<1048576:=by
 constructor
 ·
  intro hm
  obtain ⟨i,hi⟩:=List.getElem?_of_mem (h.old _ hm)
  have hil:=(List.getElem?_eq_some_iff.1 hi).1
  have hc:cs[i]? =some (cs[i]'(by rw [h.len];exact hil)):=List.getElem?_eq_getElem _
  have hg:=h.get i x _ hi hc
  rw [zbz h.nd hm] at hg
  split at hg
  ·
   rename_i hlt
   cases hg
   exact ⟨i,hi,hc,hlt⟩
  ·
   cases hg
 ·
  rintro ⟨i,h1,h2,h3⟩
  have:=h.get i x c h1 h2
  rw [if_pos h3] at this
  exact Ua this
theorem Ug {st cs:List Int}{b:Int}{m vs:List (Int×Int)}(h:zdX st cs b m)(hb:b≤1000)(hp:vs.Perm m)(s:Int):ZP (vs.map fun p=>p.2+ZZ s p.1)=Yc st cs s∧0≤Yc st cs s∧Yc st cs s≤b+4∧∀ p∈vs,0≤p.2∧p.2≤b:=by
 have hsm:∀ p∈m,0≤p.2∧p.2≤b:=fun p hp=>by
  obtain ⟨i,_,h2,h3⟩:=(h.ent (x:=p.1) (c:=p.2)).1 hp
  have:=h.le _ (List.mem_of_getElem? h2)
  exact ⟨this.1,this.2.1 h3⟩
 have hlow:∀ p∈m,Yc st cs s≤p.2+ZZ s p.1:=fun p hp=>by
  obtain ⟨i,h1,h2,h3⟩:=(h.ent (x:=p.1) (c:=p.2)).1 hp
  unfold Yc
  rw [zaC]
  have hil:=(List.getElem?_eq_some_iff.1 h1).1
  have:=(VU ((List.range st.length).map fun i=>ZZ s (st.getD i 0)+cs.getD i 0) 1048576).1 (ZZ s p.1+p.2) (List.mem_map.2 ⟨i,List.mem_range.2 hil,by rw [QN h1,QN h2]⟩)
  omega
 have hne:m≠[]:=fun e=>by have:=h.ne;rw [e] at this;simp at this
 obtain ⟨q,hq⟩:=List.exists_mem_of_ne_nil m hne
 have hq1:=hlow q hq
 have hq2:=hsm q hq
 have hq3:=YW s q.1
 have hmem:∃ p∈m,Yc st cs s=p.2+ZZ s p.1:=by
  have h3:=(VU ((List.range st.length).map fun i=>ZZ s (st.getD i 0)+cs.getD i 0) 1048576).2.2
  rw [←zaC] at h3
  rcases h3 with h3 | h3
  ·
   have:Yc st cs s=1048576:=h3
   omega
  ·
   obtain ⟨i,hi,e⟩:=List.mem_map.1 h3
   have hi:=List.mem_range.1 hi
   have h1:st[i]? =some (st.getD i 0):=QX rfl hi
   have h2:cs[i]? =some (cs.getD i 0):=QX rfl (by rw [h.len];exact hi)
   have hst:=YW s (st.getD i 0)
   have e:ZZ s (st.getD i 0)+cs.getD i 0=Yc st cs s:=e
   exact ⟨(st.getD i 0,cs.getD i 0),h.ent.2 ⟨i,h1,h2,by omega⟩,by show _=cs.getD i 0+ZZ s (st.getD i 0);omega⟩
 obtain ⟨p,hpm,he⟩:=hmem
 have hp2:=hsm p hpm
 have hp3:=YW s p.1
 refine ⟨zfy (List.mem_map.2 ⟨p,hp.mem_iff.2 hpm,he.symm⟩) (fun x hx=>?_),by omega,by omega,fun p hp'=>hsm p (hp.mem_iff.1 hp')⟩
 obtain ⟨r,hr,rfl⟩:=List.mem_map.1 hx
 exact hlow r (hp.mem_iff.1 hr)
end
end Go.Proofs.YtodakphagkommaaGreatDoor
