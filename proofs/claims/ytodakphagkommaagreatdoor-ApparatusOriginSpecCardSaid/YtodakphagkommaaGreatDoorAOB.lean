/- apparatusOriginSpec_holds, part B of the proof: what its theorems say holds without further conditions. -/
import Derived.Laws.CopyRow
import Derived.Lib.AppendZerosOnto
import Derived.Lib.Overlaps
import Derived.Laws.MakeOwn
import Derived.Sort.Row
import Derived.Sort.Grow
import Derived.Test.YtodakphagkommaaGreatDoorProg
import Derived.KernelRfl
import Derived.Lib.Hide
import Derived.Test.YtodakphagkommaaGreatDoorAOA
namespace Go.Kn
section
open Go
section
variable {C:Cx} {Q:Exit->Act->World->Prop} {E:Env} {I:Qu} {a:Loc}
theorem zFB {x y:Code}(T:Env)(_hT:Sub T E)(M:Env->Loc->Env->Qu->Loc->Prop)(h1:X C (Exit.then (Met C (M T a)) Q) x E I a)(h2:∀ E I V,M T a E I V->X C Q y E I V):X C Q (.seq x y) E I a:=zIr (M T a) h1 h2
theorem zY {x y:Code}(T:Env)(M:Env->Loc->Env->Qu->Loc->Prop)(h1:X C (Exit.then (Met C (M T a)) Q) x E I a)(h2:∀ E I V,M T a E I V->X C Q y E I V)(_hT:Sub T E:=by repeat (first | exact .nil | refine .cons U ?_)):X C Q (.seq x y) E I a:=zFB T _hT M h1 h2
theorem zo7 {c:Code}(T:Env)(_hT:Sub T E)(J:Env->Loc->Nat->Env->Qu->Loc->Prop)(m0:Nat)(f:Env)(g:Qu)(b:Loc)(h0:J T a m0 f g b)(i:Sub f E)(j:HLe g I)(l:b=a)
  (d:∀ m E I V,J T a m E I V->X C (Exit.then (Met C fun E I V=>∃ h,h<m/\J T a h E I V) Q) c E I V):X C Q (.loop c) E I a:=zDQ (J T a) m0 f g b h0 i j l d
theorem zU {c:Code}(T:Env)(J:Env->Loc->Nat->Env->Qu->Loc->Prop){m0:Nat}{f:Env}{g:Qu}{b:Loc}
  (d:∀ m E I V,J T a m E I V->X C (Exit.then (Met C fun E I V=>∃ i,i<m/\J T a i E I V) Q) c E I V)(_hT:Sub T E:=by repeat (first | exact .nil | refine .cons U ?_))(j:Sub f E:=by repeat (first | exact .nil | refine .cons U ?_))(l:HLe g I:=by exact zJH _)(n:b=a:=by exact U)(h:J T a m0 f g b):X C Q (.loop c) E I a:=zo7 T _hT J m0 f g b h j l n d
end
def ArT (P:Program)(t n e size:Nat):Prop:=P.underlying t=some (.array n e)/\∃ i,P.info? e=some i/\i.size=size
def zI2 (P:Program)(t n e size:Nat):Bool:=(match P.underlying t with | some (.array n' e')=>n'==n&&e'==e | _=>false)&&(match P.info? e with | some i=>i.size==size | none=>false)
theorem ArT.of {P:Program}{t n e a:Nat}(h:zI2 P t n e a=true):ArT P t n e a:=by
 simp only [zI2,ji] at h;obtain ⟨h1,h2⟩:=h;refine ⟨?_,?_⟩
 ·split at h1
  ·rename_i g f b;rw [ji,jW,jW] at h1;rw [b,h1.1,h1.2]
  ·cases h1
 ·split at h2
  ·rename_i i d;rw [jW] at h2;exact ⟨i,d,h2⟩
  ·cases h2
section
variable {C:Cx} {S:GS} {E:Env} {I p:Qu} {d:Loc} {f:Option Nat} {h:Nat} {g:String} {l:Array Edge} {o:Option (Nat×Bool)} {x y:Operand}
theorem Zh {t e q b r n:Nat}{k:IntKind}{i:Int}(B:QB S E x=some (.pointer (some ⟨b,r,none⟩)))(D:QB S E y=some (.int k i))(z:ArT C.P t n e q)(A:ZH S=true->0<=i/\i<(n:Int)):
  Q2 C S E I d ⟨f,.indexAddr t x y,h,g,l,o⟩ (.pointer (some ⟨b,r+i.toNat*q,none⟩)):=
 .of kF fun a w u hg s _=>by
  obtain ⟨h1,j,h2,h3⟩:=z;simp only [execOp,Qp u hg s B,Qp u hg s D,Instr.indexAt,asIntOf,Instr.sureAddr,jg,jp,jQ h1,Result.andThen,jb (A s),run_sizeOf h2,Y8,h3]
end
section
variable {C:Cx} {S:GS} {E:Env} {I o:Qu} {f:Loc} {g:Option Nat} {j:Nat} {i:String} {l:Array Edge} {n:Option (Nat×Bool)} {x y:Operand}
theorem ZU {t s:TypeId}{k:IntKind}{a b:Int}(q:QB S E x=some (.int k a))(r:QB S E y=some (.int k b))(h:ZH S=true->b≠0):Q2 C S E I f ⟨g,.binOp .rem t x y s,j,i,l,n⟩ (.int k (a.tmod b)):=
 .of kF fun a w p hg d _=>by
  simp only [execOp,Qp p hg d q,Qp p hg d r,jg,ZQ,Result.andThen,binOp,Bb,ON,Oa,Op.intDiv,ja (h d),jp]
theorem zdn {t s:TypeId}{k:IntKind}{a b:Int}(q:QB S E x=some (.int k a))(r:QB S E y=some (.int k b))(h:ZH S=true->b≠0):Q2 C S E I f ⟨g,.binOp .quo t x y s,j,i,l,n⟩ (.int k (k.wrap (a.tdiv b))):=
 .of kF fun a w p hg d _=>by
  simp only [execOp,Qp p hg d q,Qp p hg d r,jg,ZQ,Result.andThen,binOp,Bb,ON,Oa,Op.intDiv,ja (h d),jp]
def CvT (P:Program)(s d:Nat)(k:IntKind):Prop:=(P.underlying s).isSome=true/\P.underlying d=some (.int k)
theorem Uy {s d:TypeId}{k r:IntKind}{a:Int}(q:QB S E x=some (.int r a))(b:CvT C.P s d k):Q2 C S E I f ⟨g,.convert s d x,j,i,l,n⟩ (.int k (k.wrap a)):=
 .of kF fun a w h hg p _=>by
  obtain ⟨h1,h2⟩:=b;obtain ⟨u,h1⟩:=OW.1 h1;simp only [execOp,Qp h hg p q,convert,jg,jQ h1,jQ h2,Result.andThen,Conv.intToInt,jp]
end
section
variable {C:Cx} {Q:Exit->Act->World->Prop} {E:Env} {I:Qu} {a:Loc}
theorem U3 {d:Nat}{l:List Oper}(b:C.P.follows .mixedOrders=true)(h:XD C (noP Q) l.toArray I a l.length (Array.replicate l.length false) [] E I a):X C Q (.region d l.toArray true) E I a:=VR (ZM I a b h)
end
theorem ZN {A B L:Loc}(h:UR A B):UR A (L++B):=by
 induction L with
 | nil=>exact h
 | cons x l ih=>exact .drop ih
theorem zm {C:Cx}{Q:Exit->Act->World->Prop}{E:Env}{I:Qu}{W:Loc}{M:Env->Qu->Loc->Prop}{a:Env}{V:Loc}(b:Sub a E:=by repeat (first | exact .nil | refine .cons U ?_))(h:M a I V)(d:UR V W:=by repeat (first | exact .refl | exact Q3 | refine Z4 ?_ | refine .drop ?_ | refine ZN ?_)):At C (Exit.then (Met C M) Q) .normal E I W:=Ya a V h b d
theorem Mem.there {I:Qu}{l:Loc}{b:Nat}{o:Obj}{p:Nat×Obj}(h:Mem I l b o):Mem I (p::l) b o:=h.imp id (jm _)
theorem Mem.app {I:Qu}{A B:Loc}{b:Nat}{o:Obj}(h:Mem I B b o):Mem I (A++B) b o:=h.imp id (O6 _)
theorem zmd {A l a:Loc}{b:Nat}{o:Obj}(h:Zb l b o a):Zb (A++l) b o (A++a):=by
 induction A with
 | nil=>exact h
 | cons x l ih=>exact .there ih
theorem Zz {A l L R:Loc}(h:YS l L R):YS (A++l) L (A++R):=by
 induction h with
 | nil=>exact .nil
 | cons h _ ih=>exact .cons (zmd h) ih
theorem ZC {p:Nat×Obj}{l L R:Loc}(h:YS l L R):YS (p::l) L (p::R):=Zz (A:=[p]) h
theorem Vx {C:Cx}{Q:Exit->Act->World->Prop}{E:Env}{I:Qu}{W:Loc}{M:Env->Qu->Loc->Prop}(a:Env)(V l:Loc)(h:M a I V)(g:Sub a E)(b:V.Perm l)(d:UR l W):At C (Exit.then (Met C M) Q) .normal E I W:=
 fun _ _ i f=>⟨a,I,V,h,i.sub g,(f.subL d).perm (fun _p=>b.mem_iff) ((b.map (·.1)).nodup_iff.2 (f.subL d).nodup)⟩
theorem Cells.app {I:Qu}{A B:Loc}{b a:Nat}{d:List Value}(h:Cells I B b a d):Cells I (A++B) b a d:=fun j u f=>(h j u f).app
abbrev zJG:=@Cells.app
section
variable {C:Cx} {Q:Exit->Act->World->Prop} {E:Env} {I:Qu} {f L R:Loc} {i:Type} {e b:Nat} {d:i->List Value} {v:Value} {n:Nat} {g:List i}
theorem zb8 {c:Code}(q:OwnS e b v n (g.flatMap d) L)(s:∀ x,(d x).length=b)(p:0<b)(o:YS f L R)
  (h:∀ Y,HLe I Y->∀ j l,v= .slice j n l->Sl Y b d j n l g->X C Q c E Y R):X C Q c E I f:=fun a w r t=>
 let ⟨Y,j,l,h1,h2,h3,h4⟩:=OwnS.freeze (R:=R) q s p (t.unsplit o)
 h Y h1 j l h3 h4 a w r h2
theorem zx4 {c:Code}(p:OwnS e b v n (g.flatMap d) L)(q:∀ x,(d x).length=b)(h:∀ Y,HLe I Y->∀ l o,v= .slice l n o->Sl Y b d l n o g->X C Q c E Y R)(a:YS f L R:=by repeat (first | exact .cons .here .nil | exact Zp | exact Q6 | apply ZC | apply Zz))(j:0<b:=by decide):X C Q c E I f:=zb8 p q j a h
theorem zdk {q:Array Oper}{rest:List Oper}{S:GS}(r:OwnS e b v n (g.flatMap d) L)(t:∀ x,(d x).length=b)(p:0<b)(o:YS f L R)
  (h:∀ Y,HLe I Y->∀ j l,v= .slice j n l->Sl Y b d j n l g->XO C Q q rest S E Y R):XO C Q q rest S E I f:=fun a w s hg u=>
 let ⟨Y,j,l,h1,h2,h3,h4⟩:=OwnS.freeze (R:=R) r t p (u.unsplit o)
 h Y h1 j l h3 h4 a w s hg h2
end
theorem SlE.bad {g:Type}{I:Qu}{a:Nat}{b:g->List Value}{f:List g}{e d:Int}(h:e=d)(i:f=[]):SlE a b f e (.tuple #[.slice none 0 0,.int .i64 d]) I []:=by subst h;subst i;exact ⟨U,none,0,U,.nil⟩
theorem SlE.good {j:Type}{I:Qu}{a:Nat}{b:j->List Value}{h i:List j}{e f:Int}{d:Option Addr}{q c:Nat}(l:e=f)(o:h=i)(g:Sl I a b d q c i):SlE a b h e (.tuple #[.slice d q c,.int .i64 f]) I []:=by subst l;subst o;have n:=g.len;subst n;exact ⟨U,d,c,U,g⟩
theorem Jv.good {i:Type}{I:Qu}{a:Nat}{b:i->List Value}{g h:List i}{d:Option Addr}{q c:Nat}(l:g=h)(f:Sl I a b d q c h):Jv a b g (.slice d q c) I []:=by subst l;have j:=f.len;subst j;exact ⟨U,d,c,U,f⟩
theorem OwnS.new {e a b:Nat}:OwnS e a (.slice (some ⟨b,0,none⟩) 0 0) 0 [] [(b,.cells #[] e (0,0))]:=⟨by simp,.inr ⟨b,0, #[],U,U,jn _,by decide,by simp,by simp⟩⟩
theorem zbI {b:Type}{a:List b}{k:Nat}{x:b}(h:a[k]? =some x)(p:b->Bool):(a.take (k+1)).any p=((a.take k).any p||p x):=by rw [jz,h,Af];simp
theorem QZ {b:Type}{a:List b}{k n:Nat}(d:a.length=n)(h:n<=k):a.take k=a:=jr kB
section
variable {C:Cx} {Q:Exit->Act->World->Prop} {E O:Env} {I T B:Qu} {p K o L R:Loc} {l:Array Oper} {rest:List Oper} {S:GS}
variable {F:Option Tmp} {d:Nat} {G:TypeId} {A:String} {J:Array Edge} {M:Option (Nat×Bool)} {x y z:Operand}
theorem St.setRow {g:World}{H:Qu}{w:World}{b:Nat}{a:Array Value}{t:TypeId}(h:St g I H p w)(f:Array Value)(i:Upd p b (.cells a t (0,0)) (.cells f t (0,0)) K):St g I H K (w.setRow b f):=by have j:=h.own _ _ i.mem;exact h.turn i U U U (by simp [World.setRow]) (setRow_heap w b a f t (0,0) j) (fun c n=>setRow_other w b c f n)
theorem zbm {t D n c e f:Nat}{b:Option Addr}(s:QB S E x=some (.slice b n c))(u:QB S E y=some (.slice none 0 0))(r:SlT C.P t e f):Q2 C S E I p ⟨F,.binOp .eql t x y D,G,A,J,M⟩ (.bool b.isNone):=
 .of kF fun a w h hg i _=>by
  have j:∀ g x y t,(eqGuard g t x y (.slice b n c) (.slice none 0 0)).run C.P w= .ok () w:=by intros;unfold eqGuard;rename_i g _ _ _;cases g<;>rfl
  have q:(Op.equal t (.slice b n c) (.slice none 0 0)).run C.P w= .ok b.isNone w:=by
   show (Op.equalIn (9999+1) t (.slice b n c) (.slice none 0 0)).run C.P w=_;unfold Op.equalIn;rw [jg,jQ r.1];cases b<;>rfl
  simp only [execOp,Qp h hg i s,Qp h hg i u,jg,j,Result.andThen,binOp,q,jp]
theorem zig {t e a b f n c:Nat}{k:IntKind}{i:Int}(q:QB S E x=some (.slice (some ⟨b,f,none⟩) n c))(r:QB S E y=some (.int k i))(j:SlT C.P t e a)(g:0<=i/\i<=(n:Int)/\i<(c:Int)):
  Q2 C S E I p ⟨F,.slice t x (some y) none none,G,A,J,M⟩ (.slice (some ⟨b,f+i.toNat*a,none⟩) (n-i.toNat) (c-i.toNat)):=by
 have h:=Wu (C:=C) (I:=I) (loc:=p) (dst:=F) (ty:=G) (pos:=A) (af:=J) (gd:=M) q r j (fun _=>⟨g.1,g.2.1⟩);rwa [zfW kB] at h
theorem Cells.part {b f:Nat}{a i g:List Value}(h:Cells I p b 0 (a++i++g))(r:f=a.length):Cells I p b f i:=fun j u n=>by
 subst r;have q:j<i.length:=(jc.1 n).1;have:=h (a.length+j) u (by rw [js,Ov kB,Nat.add_sub_cancel_left,O3 q];exact n);rwa [Oj] at this
theorem zmU {t r:TypeId}{k n:IntKind}{a b:Int}{q:Nat}(i:QB S E x=some (.int k a))(j:QB S E y=some (.int n b))(h0:0<=b)(h:min b.toNat k.bits=q):Q2 C S E I p ⟨F,.binOp .shr t x y r,G,A,J,M⟩ (.int k (a.fdiv (2^q))):=
 .of kF fun s w f hg g _=>by
  simp only [execOp,Qp f hg g i,Qp f hg g j,jg,ZQ,Result.andThen,binOp,Op.shift,ja (show ¬b<0 by omega),h,jp]
def zf9 (P:Program)(s f fo:Nat):Prop:=∃ fs x,P.underlying s=some (.struct fs)/\fs[f]? =some x/\x.offset=fo/\ScT P x.type
def zqz (P:Program)(s f fo:Nat):Bool:=match P.underlying s with
 | some (.struct fs)=>match fs[f]? with
  | some x=>x.offset==fo&&zGB P x.type
  | none=>false
 | _=>false
theorem zf9.of {P:Program}{s f a:Nat}(h:zqz P s f a=true):zf9 P s f a:=by
 unfold zqz at h;split at h
 ·rename_i b g;split at h
  ·rename_i x i;simp only [ji,jW] at h;exact ⟨b,x,g,i,h.1,ScT.of h.2⟩
  ·cases h
 ·cases h
theorem zke {s f g:Nat}{b:List Value}{v:Value}(q:QB S E x=some (.agg b.toArray))(hF:zf9 C.P s f g)(n:b[g]? =some v):Q2 C S E I p ⟨F,.field s x f,G,A,J,M⟩ v:=
 .of kF fun a w i hg j _=>by
  obtain ⟨r,h,h1,h2,h3,h4⟩:=hF;have h5:b.toArray[h.offset]? =some v:=(by rw [h3];simpa using n);simp only [execOp,Qp i hg j q,Instr.field,jg,jQ h1,Result.andThen,h2,asAgg,jp,part,Y2 h4,jy,Oa,h5]
theorem zco {i:Nat}{s:Oper}{fuel:Nat}{b:Array Bool}(V:l[i]? =some s){a:Act}{w:World}(u:UQ C.N C.D E a)(hg:Ud S a)(W:St C.g I C.H p w)
  (h:XO C (fun e a w=>match e with | .normal=>St C.g B C.H o w/\VM C.r C.P .any l Q (fun w=>St C.g B C.H o w) fuel (b.setIfInBounds i true) a w | e=>Q e a w) l [s] S E I p):
  wpOpIn (FR C.r) 0 C.P l Q i (fun t j=>St C.g B C.H o j/\VM C.r C.P .any l Q (fun w=>St C.g B C.H o w) fuel (b.setIfInBounds i true) t j) a w:=by
 have:=h a w u hg W;simp only [wpListIn] at this;unfold wpOpIn;simp only [V];split
 ·rename_i f;simp only [f,OB] at this;unfold Oper.wpIn at*;refine ⟨fun _ _=>trivial,?_⟩;have h2:=this.2;generalize (s.semAt (FR C.r).round a.eval).run C.P w=q at*
  cases q with
  | ok n j=>cases n<;>exact h2
  | halt x j=>cases x<;>exact h2
 ·rename_i f;simp only [f] at this;exact this
theorem WG (i j k:Nat){t u ok:Oper}{fuel:Nat}{b:Array Bool}(D:l[i]? =some t)(N:l[j]? =some u)(V:l[k]? =some ok)(s:Region.ready .any l b=[i,j,k])
  (h1:XO C (fun e a w=>match e with | .normal=>St C.g B C.H o w/\VM C.r C.P .any l Q (fun w=>St C.g B C.H o w) fuel (b.setIfInBounds i true) a w | e=>Q e a w) l [t] S E I p)
  (h2:XO C (fun e a w=>match e with | .normal=>St C.g B C.H o w/\VM C.r C.P .any l Q (fun w=>St C.g B C.H o w) fuel (b.setIfInBounds j true) a w | e=>Q e a w) l [u] S E I p)
  (h3:XO C (fun e a w=>match e with | .normal=>St C.g B C.H o w/\VM C.r C.P .any l Q (fun w=>St C.g B C.H o w) fuel (b.setIfInBounds k true) a w | e=>Q e a w) l [ok] S E I p):XD C Q l B o (fuel+1) b S E I p:=by
 intro a w h hg n;refine ⟨(fun h0=>by rw [s] at h0;cases h0),fun q f=>?_⟩;rw [s] at f;rcases jo.1 f with e | f
 ·subst e;exact zco D h hg n h1
 ·rcases jo.1 f with e | f
  ·subst e;exact zco N h hg n h2
  ·obtain rfl:=jM.1 f;exact zco V h hg n h3
theorem ztZ (i:Nat){d:Nat}{v:Value}{fuel j u:Nat}{f:Bool}{V:Oper}{b:Array Bool}{t:Op}(D:l[i]? =some ⟨some d,t,G,A,J,some (j,f)⟩)(hj:l[j]? =some V)(hd:V.dst=some u)(q:J9 E u=some (.bool f))
  (H:Q2 C [] E B o ⟨some d,t,G,A,J,none⟩ v)(Z:Nat.blt d C.N=true)
  (hs:Region.noSelect l=true)(n:Region.free .any l b i=true)(hr:(Region.ready .any l b).contains i=true)(hQ:W0 Q)(Y:HLe B I)(hl:UR o p)
  (h:XD C Q l B o fuel (b.setIfInBounds i true) [] ((d,v)::E) I p):XD C Q l B o (fuel+1) b [] E I p:=by
 intro a w g hg P;have hp:=g.put Z v;refine U6 (v:=v) D (fun c e=>H.1 c e) (BK hs) (fun c a w=>hQ c a d _ w) fuel b a w (B9 D n) (by simpa using hr) ?_ ((P.mono Y).subL hl) (h _ _ hp trivial P);have W:Zt l [(true,[])] E ⟨some d,t,G,A,J,some (j,f)⟩:=.some U hj hd (by simpa [WY,zie] using q) kJ;have s:=W.wanted g (show Ud [(true,[])] a from ⟨(fun _ _ e=>by cases e),trivial⟩);exact .inl ⟨by rw [s];rfl,fun w' r=>H.2 a w' g trivial rfl r⟩
theorem zw (i n:Nat){d:Nat}{v:Value}{fuel j:Nat}{b:Bool}{q:Oper}{a:Array Bool}{r:Op}(D:l[i]? =some ⟨some d,r,G,A,J,some (j,b)⟩)(Y:Q2 C [] E B o ⟨some d,r,G,A,J,none⟩ v)(s:HLe B I)(h:XD C Q l B o fuel (a.setIfInBounds i true) [] ((d,v)::E) I p)(H:l[j]? =some q:=by exact U)(w:q.dst=some n:=by exact U)(g:J9 E n=some (.bool b):=by exact U)(t:Nat.blt d C.N=true:=by exact U)
  (W:Region.noSelect l=true:=by kernel_rfl)(f:Region.free .any l a i=true:=by kernel_rfl)(V:(Region.ready .any l a).contains i=true:=by kernel_rfl)(u:W0 Q:=by first | exact zoO | (repeat (first | exact np_body | with_reducible refine np_then ?_ | with_reducible refine np_block ?_)))(P:UR o p:=by repeat (first | exact .refl | exact Wq | refine .keep ?_ | refine .drop ?_ | refine ZN ?_)):XD C Q l B o (fuel+1) a [] E I p:=ztZ i D H w g Y t W f V u s P h
end
def zsH (m:List (Int×Nat)):List MapEntry:=m.map fun p=>{key:=.int .i64 p.1,val:=.bool true,born:=p.2}
def zkR (m:List (Int×Nat))(c:Nat):Obj:=.map (zsH m).toArray c
section
variable {C:Cx} {Q:Exit->Act->World->Prop} {E j:Env} {I l:Qu} {f b L R:Loc} {g:Array Oper} {rest:List Oper} {S:GS}
variable {h:Option Tmp} {d:Nat} {n:TypeId} {i:String} {o:Array Edge} {p:Option (Nat×Bool)} {x y z:Operand} {m:List (Int×Nat)} {a:Int}
end
def KI (a b:Int):Int:=IntKind.i64.wrap ((BitVec.ofInt 64 a&&& BitVec.ofInt 64 b).toNat:Int)
def orI (a b:Int):Int:=IntKind.i64.wrap ((BitVec.ofInt 64 a||| BitVec.ofInt 64 b).toNat:Int)
def zhT (a b:Int):Int:=IntKind.i64.wrap ((BitVec.ofInt 64 a&&& ~~~(BitVec.ofInt 64 b)).toNat:Int)
section
variable {C:Cx} {Q:Exit->Act->World->Prop} {E s:Env} {I u:Qu} {f q L R:Loc} {r:Array Oper} {rest:List Oper} {S:GS}
variable {g:Option Tmp} {d:Nat} {l:TypeId} {h:String} {o:Array Edge} {p:Option (Nat×Bool)} {x y z:Operand} {a b:Int}
theorem Ua {t B:TypeId}(n:QB S E x=some (.int .i64 a))(A:QB S E y=some (.int .i64 b)):Q2 C S E I f ⟨g,.binOp .and t x y B,l,h,o,p⟩ (.int .i64 (KI a b)):=
 .of kF fun D w i hg j _=>by
  simp only [execOp,Qp i hg j n,Qp i hg j A,jg,ZQ,Result.andThen,binOp,Bb,ON,Oa,Op.intBits,jp,KI,IntKind.bits];rfl
theorem zHo {t B:TypeId}(n:QB S E x=some (.int .i64 a))(A:QB S E y=some (.int .i64 b)):Q2 C S E I f ⟨g,.binOp .or t x y B,l,h,o,p⟩ (.int .i64 (orI a b)):=
 .of kF fun D w i hg j _=>by
  simp only [execOp,Qp i hg j n,Qp i hg j A,jg,ZQ,Result.andThen,binOp,Bb,ON,Oa,Op.intBits,jp,orI,IntKind.bits];rfl
theorem zg1 {t B:TypeId}(n:QB S E x=some (.int .i64 a))(A:QB S E y=some (.int .i64 b)):Q2 C S E I f ⟨g,.binOp .andNot t x y B,l,h,o,p⟩ (.int .i64 (zhT a b)):=
 .of kF fun D w i hg j _=>by
  simp only [execOp,Qp i hg j n,Qp i hg j A,jg,ZQ,Result.andThen,binOp,Bb,ON,Oa,Op.intBits,jp,zhT,IntKind.bits];rfl
theorem U7 {t D:TypeId}{k B:IntKind}(n:QB S E x=some (.int k a))(A:QB S E y=some (.int B b))(h0:ZH S=true->0<=b):Q2 C S E I f ⟨g,.binOp .shl t x y D,l,h,o,p⟩ (.int k (k.wrap (a*2^(min b.toNat k.bits)))):=
 .of kF fun F w j hg i _=>by
  have:=h0 i;simp only [execOp,Qp j hg i n,Qp j hg i A,jg,ZQ,Result.andThen,binOp,Op.shift,ja (show ¬b<0 by omega),jp]
theorem zgG {t:TypeId}(n:QB S E x=some (.int .i64 a)):Q2 C S E I f ⟨g,.unOp .neg t x,l,h,o,p⟩ (.int .i64 (IntKind.i64.wrap (0-a))):=
 .of kF fun A w i hg j _=>by
  simp only [execOp,Qp i hg j n];rfl
def KY (a b:Int):Int:=if b<a then b else a
def znQ (a b:Int):Int:=if b>a then b else a
theorem zgM {k:IntKind}{i:Array TypeId}(t:QB S E x=some (.int k a))(A:QB S E y=some (.int k b)):Q2 C S E I f ⟨g,.call ⟨.builtin .min, #[x,y],i⟩,l,h,o,p⟩ (.int k (KY a b)):=
 .of kF fun B w j hg n D=>by
  simp only [execOp,resolve,OF,jF,Ah,Qp j hg n t,Qp j hg n A,jg,jp,Result.andThen,invoke,builtin];rfl
theorem VK {k:IntKind}{i:Array TypeId}(t:QB S E x=some (.int k a))(A:QB S E y=some (.int k b)):Q2 C S E I f ⟨g,.call ⟨.builtin .max, #[x,y],i⟩,l,h,o,p⟩ (.int k (znQ a b)):=
 .of kF fun B w j hg n D=>by
  simp only [execOp,resolve,OF,jF,Ah,Qp j hg n t,Qp j hg n A,jg,jp,Result.andThen,invoke,builtin];rfl
theorem Us {t e n A:Nat}{k:IntKind}{D:List Value}{i:Int}{v:Value}(M:QB S E x=some (.agg D.toArray))(N:QB S E y=some (.int k i))(H:ArT C.P t n e A)(G:ScT C.P e)(J:ZH S=true->0<=i/\i<(n:Int))(K:ZH S=true->D[i.toNat*A]? =some v):
  Q2 C S E I f ⟨g,.index t x y,l,h,o,p⟩ v:=
 .of kF fun O w F hg B _=>by
  obtain ⟨h1,j,h2,h3⟩:=H;have h4:D.toArray[i.toNat*A]? =some v:=(by simpa using K B);simp only [execOp,Qp F hg B M,Qp F hg B N,Instr.index,asIntOf,jg,jp,jQ h1,Result.andThen,jb (J B),run_sizeOf h2,h3,part,Y2 G,jy,Oa,h4]
theorem zlt {t e n A:Nat}{k:IntKind}{cs:List Value}{i:Int}(J:QB S E x=some (.agg cs.toArray))(K:QB S E y=some (.int k i))(G:ArT C.P t n e A)(F:AgT C.P e A)(H:ZH S=true->0<=i/\i<(n:Int)):
  Q2 C S E I f ⟨g,.index t x y,l,h,o,p⟩ (.agg ((cs.drop (i.toNat*A)).take A).toArray):=
 .of kF fun M w D hg B _=>by
  obtain ⟨h1,j,h2,h3⟩:=G;have h5:cs.toArray.extract (i.toNat*A) (i.toNat*A+A)=((cs.drop (i.toNat*A)).take A).toArray:=(by simp);simp only [execOp,Qp D hg B J,Qp D hg B K,Instr.index,asIntOf,jg,jp,jQ h1,Result.andThen,jb (H B),run_sizeOf h2,h3,part,Jg F,OB,h5]
end
section
variable {P:Program} {f:Func} {R:Ending->World->Prop} {N:Nat} {g:World} {I H:Qu} {d:Loc} {E:Env} {r:Option Nat}
theorem ZD {t o n b:Nat}{vs:List Value}(A:f.results= #[.cell t o])(B:J9 E t=some (.pointer (some ⟨b,0,none⟩)))(q:AgT P o n)(x:Cells I d b 0 vs)(z:vs.length=n)(h:∀ w,St g I H d w->R (.returned (.agg vs.toArray)) w):
  At ⟨P,r,N,[],g,H⟩ (bodyPost P f R) .ret E I d:=fun a w s u=>
 ⟨s.defers,.agg vs.toArray,by
  have p:=s.env _ _ B;rw [OM] at p
  have h1:(loadCells ⟨b,0,none⟩ n).run P w= .ok vs.toArray w:=by
   rw [<-z];exact BU w _ _ fun j v y=>by rw [Y8];exact (x j v y).get u
  have l:=q;obtain ⟨_,i,h2,h3⟩:=l
  have C:(loadVar o ⟨b,0,none⟩).run P w= .ok (.agg vs.toArray) w:=by
   simp only [loadVar,jg,jp,Jg q,Result.andThen,OB,run_sizeOf h2,h3,h1]
  simp only [results,A]
  simp [p,asAddr,C],h w u⟩
end
theorem XL {P:Program}{w:World}{d:Nat}{f:Field}{g:List Field}{a b:Array Value}{u v:Value}{c r:Bool}(i:f.name≠ "_")(h1:(part f.type a f.offset).run P w= .ok u w)(h2:(part f.type b f.offset).run P w= .ok v w)
  (h:(Op.equalIn d f.type u v).run P w= .ok c w)(j:(Op.eqFields d a b g).run P w= .ok r w):(Op.eqFields d a b (f::g)).run P w= .ok (c&&r) w:=by
 simp only [Op.eqFields,jb i,jg,h1,h2,h,Result.andThen,Sem.run_ite]
 cases c with
 | false=>simp
 | true=>simpa using j
def zkY (P:Program):List Field->Nat->Option (List EqK)
 | [],_=>some []
 | f::fs,k=>if f.name≠ "_" /\f.offset=k then
   match zcM P f.type with
   | some q=>(zkY P fs (k+1)).map (q:: ·)
   | none=>match P.underlying f.type with
    | some (.struct gs)=>if P.stoodInHeld f.type=false then
      match zbL P gs.toList 0,P.info? f.type with
      | some l,some i=>if i.size=l.length then (zkY P fs (k+l.length)).map (l++ ·) else none
      | _,_=>none
     else none
    | _=>none
  else none
def zII (P:Program)(t:Nat)(ks:List EqK):Prop:=P.underlying t=some (.struct (P.fieldsOf t))/\P.stoodInHeld t=false/\P.eqGuardType P.depth t=false/\zkY P (P.fieldsOf t).toList 0=some ks
theorem zbG:∀ {k1 k2:List EqK} {d f:List Value} {b:Bool},K5 (k1++k2) d f=some b->∃ u1 u2 i n j l,d=u1++u2/\f=i++n/\u1.length=k1.length/\i.length=k1.length/\K5 k1 u1 i=some j/\K5 k2 u2 n=some l/\b=(j&&l)
 | [],k2,d,f,b,h=>⟨[],d,[],f,true,b,U,U,U,U,U,h,by simp⟩
 | .int::k1,k2,d,f,b,h=>by
  match d,f,h with
  | .int k a::d,.int k' c::f,h=>
   simp only [OE,K5] at h;split at h
   ·rename_i o
    cases g:K5 (k1++k2) d f with
    | none=>rw [g] at h;cases h
    | some r=>
     rw [g] at h;obtain ⟨u1,u2,i,n,j,l,rfl,rfl,h1,h2,h3,h4,rfl⟩:=zbG g;refine ⟨.int k a::u1,u2,.int k' c::i,n,(a==c&&j),l,U,U,by simp [h1],by simp [h2],?_,h4,?_⟩
     ·simp only [K5,jb o,h3]
     ·simp only [Oe] at h;rw [<-h,OV]
   ·cases h
 | .str::k1,k2,d,f,b,h=>by
  match d,f,h with
  | .string a::d,.string c::f,h=>
   simp only [OE,K5] at h
   cases g:K5 (k1++k2) d f with
   | none=>rw [g] at h;cases h
   | some r=>
    rw [g] at h;obtain ⟨u1,u2,i,n,j,l,rfl,rfl,h1,h2,h3,h4,rfl⟩:=zbG g;refine ⟨.string a::u1,u2,.string c::i,n,(zDE a c&&j),l,U,U,by simp [h1],by simp [h2],?_,h4,?_⟩
    ·simp only [K5,h3]
    ·simp only [Oe] at h;rw [<-h,OV]
 | .bool::k1,k2,d,f,b,h=>by
  match d,f,h with
  | .bool a::d,.bool c::f,h=>
   simp only [OE,K5] at h
   cases g:K5 (k1++k2) d f with
   | none=>rw [g] at h;cases h
   | some r=>
    rw [g] at h;obtain ⟨u1,u2,i,n,j,l,rfl,rfl,h1,h2,h3,h4,rfl⟩:=zbG g;refine ⟨.bool a::u1,u2,.bool c::i,n,(a==c&&j),l,U,U,by simp [h1],by simp [h2],?_,h4,?_⟩
    ·simp only [K5,h3]
    ·simp only [Oe] at h;rw [<-h,OV]
theorem zcG {P:Program}{w:World}{t:TypeId}{b:Array Value}{a:Nat}{v:Value}(h:ScT P t)(d:b[a]? =some v):(part t b a).run P w= .ok v w:=by simp only [part,jg,Y2 h,Result.andThen,jy,Oa,d,jp]
theorem Xe {P:Program}{w:World}{t:TypeId}{b:Array Value}{a n:Nat}(h:AgT P t n):(part t b a).run P w= .ok (.agg (b.extract a (a+n))) w:=by obtain ⟨i,d,f⟩:=h.2;simp only [part,jg,Jg h,Result.andThen,OB,run_sizeOf d,f,jp]
theorem zcy (a b c:List Value)(n m:Nat)(f:a.length=n)(d:b.length=m):(a++(b++c)).toArray.extract n (n+m)=b.toArray:=by subst f;subst d;apply Bs;simp
theorem zn3 {P:Program}{w:World}{dd:Nat}{t:TypeId}{q:EqK}(i:zcM P t=some q){l:List EqK}{f g:List Value}{b:Bool}(d:K5 (q::l) f g=some b):
  ∃ u v o p c r,f=u::o/\g=v::p/\ScT P t/\(Op.equalIn (dd+1) t u v).run P w= .ok c w/\K5 l o p=some r/\b=(c&&r):=by
 unfold zcM at i
 cases j:P.underlying t with
 | none=>rw [j] at i;cases i
 | some s=>
  rw [j] at i;cases s<;>simp only [Oe,reduceCtorEq] at i
  case int kk=>
   subst i
   match f,g,d with
   | .int k a::f,.int k' c::g,d=>
    simp only [K5] at d;split at d
    ·rename_i n;subst n
     cases h:K5 l f g with
     | none=>rw [h] at d;cases d
     | some r=>
      rw [h] at d;simp only [Oe] at d;exact ⟨_,_,f,g,(a==c),r,U,U,⟨_,j,trivial⟩,BM w dd t k kk a c j,h,d.symm⟩
    ·cases d
  case string=>
   subst i
   match f,g,d with
   | .string a::f,.string c::g,d=>
    simp only [K5] at d
    cases h:K5 l f g with
    | none=>rw [h] at d;cases d
    | some r=>
     rw [h] at d;simp only [Oe] at d;exact ⟨_,_,f,g,_,r,U,U,⟨_,j,trivial⟩,run_equalIn_string w dd t a c j,h,d.symm⟩
  case bool=>
   subst i
   match f,g,d with
   | .bool a::f,.bool c::g,d=>
    simp only [K5] at d
    cases h:K5 l f g with
    | none=>rw [h] at d;cases d
    | some r=>
     rw [h] at d;simp only [Oe] at d;exact ⟨_,_,f,g,(a==c),r,U,U,⟨_,j,trivial⟩,B2 w dd t a c j,h,d.symm⟩
theorem Ks {P:Program}{w:World}(h:Nat):∀ (o:List Field) (C:List EqK) (k:Nat) (d A a B:List Value) (b:Bool),zkY P o k=some C->d.length=k->a.length=k->K5 C A B=some b->
  (Op.eqFields (h+2) (d++A).toArray (a++B).toArray o).run P w= .ok b w
 | [],C,k,d,A,a,B,b,hf,_,_,he=>by
  simp only [zkY,Oe] at hf;subst hf;cases A<;>cases B<;>simp only [K5] at he<;>first | (cases he;rfl) | cases he
 | f::o,C,k,d,A,a,B,b,hf,hp,hp',he=>by
  simp only [zkY] at hf;split at hf
  ·rename_i n
   cases F:zcM P f.type with
   | some q=>
    rw [F] at hf;simp only [Ot] at hf;obtain ⟨l,G,rfl⟩:=hf;obtain ⟨u,v,V,W,c,r,rfl,rfl,J,O,Q,rfl⟩:=zn3 (w:=w) (dd:=h+1) F he;refine XL n.1 (zcG J (by rw [n.2,<-hp];simp)) (zcG J (by rw [n.2,<-hp'];simp)) O ?_;have:=Ks (P:=P) (w:=w) h o l (k+1) (d++[u]) V (a++[v]) W r G (by simp [hp]) (by simp [hp']) Q;simpa using this
   | none=>
    rw [F] at hf;simp only at hf
    cases t:P.underlying f.type with
    | none=>rw [t] at hf;cases hf
    | some T=>
     rw [t] at hf;cases T<;>simp only [reduceCtorEq] at hf;rename_i E;split at hf
     ·rename_i H
      cases g:zbL P E.toList 0 with
      | none=>rw [g] at hf;simp at hf
      | some z=>
       cases j:P.info? f.type with
       | none=>rw [g,j] at hf;simp at hf
       | some i=>
        rw [g,j] at hf;simp only at hf;split at hf
        ·rename_i I;simp only [Ot] at hf;obtain ⟨l,G,rfl⟩:=hf;obtain ⟨u1,u2,D,K,M,N,rfl,rfl,x,y,h1,h2,rfl⟩:=zbG he;have p:AgT P f.type z.length:=⟨⟨_,t,trivial⟩,i,j,I⟩;have s:P.fieldsOf f.type=E:=(by unfold Program.fieldsOf;rw [t]);refine XL (u:=.agg u1.toArray) (v:=.agg D.toArray) n.1 ?_ ?_ ?_ ?_
         ·rw [Xe p,n.2,zcy d u1 u2 k z.length hp x]
         ·rw [Xe p,n.2,zcy a D K k z.length hp' y]
         ·rw [BT w (h+1) f.type _ _ (by rw [s];exact t) H,s];have:=zaT (P:=P) (w:=w) h E.toList z 0 [] u1 [] D M g U U h1;simpa using this
         ·have:=Ks (P:=P) (w:=w) h o l (k+z.length) (d++u1) u2 (a++D) K N G (by simp [hp,x]) (by simp [hp',y]) h2;simpa [js] using this
        ·cases hf
     ·cases hf
  ·cases hf
variable {C:Cx} {Q:Exit->Act->World->Prop} {E E':Env} {I Y:Qu} {W V L R:Loc} {a0:Array Oper} {rest:List Oper} {S:GS}
variable {Z:Option Tmp} {d:Nat} {ty:TypeId} {a1:String} {af:Array Edge} {gd:Option (Nat×Bool)} {x y z:Operand}
theorem Xa {t q:TypeId}{n:List EqK}{g i:List Value}{b:Bool}(o:QB S E x=some (.agg g.toArray))(p:QB S E y=some (.agg i.toArray))(f:zII C.P t n)(h:K5 n g i=some b):Q2 C S E I W ⟨Z,.binOp .eql t x y q,ty,a1,af,gd⟩ (.bool b):=
 .of kF fun a w j hg l _=>by
  have:=Ks (P:=C.P) (w:=w) 9997 _ _ 0 [] g [] i b f.2.2.2 U U h;simp only [Oi] at this;simp only [execOp,Qp j hg l o,Qp j hg l p,jg,BL w _ _ _ _ _ _ f.2.2.1,Result.andThen,run_eql_struct,BT w 9999 t _ _ f.1 f.2.1,this,jp]
theorem zni {t q:TypeId}{n:List EqK}{g i:List Value}{b:Bool}(o:QB S E x=some (.agg g.toArray))(p:QB S E y=some (.agg i.toArray))(f:zII C.P t n)(h:K5 n g i=some b):Q2 C S E I W ⟨Z,.binOp .neq t x y q,ty,a1,af,gd⟩ (.bool (!b)):=
 .of kF fun a w j hg l _=>by
  have:=Ks (P:=C.P) (w:=w) 9997 _ _ 0 [] g [] i b f.2.2.2 U U h;simp only [Oi] at this;simp only [execOp,Qp j hg l o,Qp j hg l p,jg,BL w _ _ _ _ _ _ f.2.2.1,Result.andThen,run_neq_struct,BT w 9999 t _ _ f.1 f.2.1,this,jp]
end
section
open Go
def mk (ms:List Nat):List Deferred:=ms.map fun b=>{target:=.collected b,args:= #[]}
def MB:List Nat->Loc
 | []=>[]
 | b::ms=>MB ms++[(b,.deferred (some []))]
def zBR (C:Cx)(M:List Nat->Env->Qu->Loc->Prop):Act->World->Prop:=fun a w=>∃ ms E I u,M ms E I u/\UQ C.N (mk ms) E a/\St C.g I C.H u w
section
variable {P:Program} {r:Option Nat} {N:Nat} {g:World} {H:Qu} {Q:Exit->Act->World->Prop} {E n:Env} {I j:Qu} {i d L R:Loc} {ms:List Nat}
theorem zuX {x y:Code}(T:Env)(_hT:Sub T E)(M:Env->Loc->List Nat->Env->Qu->Loc->Prop)(h1:X ⟨P,r,N,mk ms,g,H⟩ (Exit.then (zBR ⟨P,r,N,[],g,H⟩ (M T i)) Q) x E I i)
  (h2:∀ ms E I d,M T i ms E I d->X ⟨P,r,N,mk ms,g,H⟩ Q y E I d):X ⟨P,r,N,mk ms,g,H⟩ Q (.seq x y) E I i:=fun a w l q=>
 wpIn_seq (AY (h1 a w l q) fun e s t f=>by
  cases e with
  | normal=>obtain ⟨b,n,j,d,h,o,p⟩:=f;exact h2 b n j d h _ _ o p
  | _=>exact f)
theorem zeN {M:List Nat->Env->Qu->Loc->Prop}{a:Cx}(l:a.N=N)(hg:a.g=g)(f:a.H=H)(n:Env)(d:Loc)(h:M ms n I d)(b:Sub n E)(p:UR d i):At ⟨P,r,N,mk ms,g,H⟩ (Exit.then (zBR a M) Q) .normal E I i:=
 fun _ _ o q=>⟨ms,n,I,d,h,by rw [l];exact o.sub b,by rw [hg,f];exact q.dropTo p⟩
theorem zn {M:List Nat->Env->Qu->Loc->Prop}{a:Cx}{n:Env}{d:Loc}(l:a.N=N:=by exact U)(hg:a.g=g:=by exact U)(f:a.H=H:=by exact U)(b:Sub n E:=by repeat (first | exact .nil | refine .cons U ?_))(h:M ms n I d)(o:UR d i:=by repeat (first | exact .refl | refine .keep ?_ | refine .drop ?_)):At ⟨P,r,N,mk ms,g,H⟩ (Exit.then (zBR a M) Q) .normal E I i:=zeN l hg f n d h b o
theorem zd {M:List Nat->Env->Qu->Loc->Prop}{a:Cx}{n:Env}{d:Loc}(l:a.N=N:=by exact U)(hg:a.g=g:=by exact U)(f:a.H=H:=by exact U)(b:Sub n E:=by repeat (first | exact .nil | refine .cons U ?_))(h:M ms n I d)(o:UR d i:=by repeat (first | exact .refl | exact Q3 | refine Z4 ?_ | refine .drop ?_ | refine ZN ?_)):At ⟨P,r,N,mk ms,g,H⟩ (Exit.then (zBR a M) Q) .normal E I i:=zeN l hg f n d h b o
theorem ztf {M:List Nat->Env->Qu->Loc->Prop}{a:Cx}(q:a.N=N)(hg:a.g=g)(h:a.H=H)(n:Env)(d l:Loc)(o:M ms n I d)(f:Sub n E)(b:d.Perm l)(t:UR l i):At ⟨P,r,N,mk ms,g,H⟩ (Exit.then (zBR a M) Q) .normal E I i:=
 fun _ _ s u=>⟨ms,n,I,d,o,by rw [q];exact s.sub f,by
  rw [hg,h];have h1:=u.dropTo t
  exact h1.perm (fun p=>b.mem_iff) ((b.map (·.1)).nodup_iff.2 h1.nodup)⟩
theorem WZ {c:Code}(T:Env)(_hT:Sub T E)(J:Env->Loc->Nat->List Nat->Env->Qu->Loc->Prop)(m0:Nat)(A:Env)(B:Qu)(o:Loc)(h0:J T i m0 ms A B o)(W:Sub A E)(Y:HLe B I)(hl:o=i)
  (q:∀ m ms E I d,J T i m ms E I d->X ⟨P,r,N,mk ms,g,H⟩ (Exit.then (zBR ⟨P,r,N,[],g,H⟩ fun ms E I d=>∃ f,f<m/\J T i f ms E I d) Q) c E I d):X ⟨P,r,N,mk ms,g,H⟩ Q (.loop c) E I i:=by
 classical
 intro a w ha hw;let R:Nat->Act->World->Prop:=fun m a w=>∃ ms E I d,J T i m ms E I d/\UQ N (mk ms) E a/\St g I H d w
 have b:∀ a w,(∃ m,R m a w)->∃ m,R m a w/\∀ f,R f a w->m<=f:=fun a w ⟨m,h⟩=>by
  induction m using Nat.strongRecOn with
  | _ m ih=>
   by_cases s:∃ f,f<m/\R f a w
   ·obtain ⟨f,l,D⟩:=s;exact ih f l D
   ·exact ⟨m,h,fun f D=>BA fun l=>s ⟨f,l,D⟩⟩
 let z:Act->World->Nat:=fun a w=>if h:∃ m,R m a w then Classical.choose (b a w h) else 0
 have F:∀ a w,(∃ m,R m a w)->R (z a w) a w:=fun a w h=>by simp only [z,dif_pos h];exact (An (b a w h)).1
 have C:∀ m a w,R m a w->z a w<=m:=fun m a w h=>by
  have s:∃ m,R m a w:=⟨m,h⟩;simp only [z,dif_pos s];exact (An (b a w s)).2 m h
 refine wpIn_loop (fun a w=>∃ m,R m a w) z ⟨m0,ms,A,B,o,h0,ha.sub W,hl ▸ hw.mono Y⟩ fun a w h=>?_;obtain ⟨a0,E1,I1,O,Z,hf,hs⟩:=F a w h;refine AY (q _ _ _ _ _ Z a w hf hs) fun e V w' M=>?_
 cases e with
 | normal=>
  obtain ⟨y,G,K,p,⟨f,l,t⟩,u,x⟩:=M;exact ⟨⟨f,y,G,K,p,t,u,x⟩,Bq (C f V w' ⟨y,G,K,p,t,u,x⟩) l⟩
 | _=>exact M
theorem zaR {M:Type}{W:Operand}{p:Nat}{s z:Code}{f:FuncId}{V:List Value}{K:Loc}{enc:M->Value}{xs:List M}
  (T:List M->Qu->Loc->Prop)(Jx:Code->List M->Qu->Loc->Prop)(Ja:List M->M->Env->Qu->Loc->Prop)
  (hg:QB [] E W=some (.func (.func f) #[] V.toArray))(hF:Fun P f)(a0:zID P f V I K enc xs)(hp:Nat.blt p N=true)(h0:T [] I L)
  (Y:∀ l b x j d H1,b++[x]<+:xs->HLe I j->T b j d->X ⟨P,some l,N,[],g,H1⟩ (Exit.then (Met ⟨P,some l,N,[],g,H1⟩ fun E2 y t=>HLe j y/\Ja b x E2 y t) (fun _ _ _=>False)) s ((p,enc x)::E) j d)
  (B:∀ l b x E2 y t H2,b++[x]<+:xs->HLe I y->Ja b x E2 y t->X ⟨P,some l,N,[],g,H2⟩ (zdx g H2 (fun q O u=>HLe y O/\T q O u) (fun c q O u=>HLe y O/\Jx c q O u) (b++[x])) z E2 y t)
  (C:∀ o j d,HLe I j->T xs j d->At ⟨P,none,N,mk (o::ms),g,H⟩ Q .normal E j (d++MB (o::ms)))
  (F:∀ c o b j d,HLe I j->b<+:xs->Jx c b j d->X ⟨P,none,N,mk (o::ms),g,H⟩ Q c E j (d++MB (o::ms))):
  X ⟨P,none,N,mk ms,g,H⟩ Q (.rangeFunc W #[p] s z) E I (K++(L++MB ms)):=by
 intro a w ha hw
 have back:∀ {j:Qu} {d:Loc} {o:Nat} {J:World},St g j (JH H (MB ms)) (d++[(o,.deferred (some []))]) J->St g j H (d++MB (o::ms)) J:=fun {j d o J} h=>by
  have h1:=St.unhide ((hw.rest Q6).rest Q6) h;refine h1.perm (fun p=>?_) ?_
  ·simp only [MB,jC];constructor
   ·rintro (h | h | h)
    ·exact .inl (.inl h)
    ·exact .inr h
    ·exact .inl (.inr h)
   ·rintro ((h | h) | h)
    ·exact .inl h
    ·exact .inr (.inr h)
    ·exact .inr (.inl h)
  ·have hn:=h1.nodup
   have a1:(d++MB (o::ms)).Perm (d++[(o,.deferred (some []))]++MB ms):=by
    rw [js];exact (List.Perm.refl d).append Ap
   exact (a1.map (·.1)).nodup_iff.2 hn
 refine zf8 (K:=K) (P:=P) (N:=N) (D:=mk ms) (g:=g) (H:=JH H (MB ms)) (Q:=Q) T Jx Ja hg hF a0 hp h0 Y B ?_ ?_ a w ha (show St g I (JH H (MB ms)) (K++L) w from (show St g I H ((K++L)++MB ms) w by rw [js];exact hw).hideR)
 ·intro o j d hI hJ a' J A G;exact C o j d hI hJ a' J A (back G)
 ·intro c o b j d hI Z hJ a' J A G;exact F c o b j d hI Z hJ a' J A (back G)
theorem zaL {l:Func}{R:Ending->World->Prop}{a:Array Value}{v:Value}:∀ (ms:List Nat) {L:Loc} {w:World},St g I H (L++MB ms) w->(∀ w,St g I H L w->(results l a).run P w= .ok v w/\R (.returned v) w)->
  LeavesInM Fence.wide 0 P l a R (mk ms) .returning w
 | [],L,w,f,h=>by
  have f:St g I H L w:=(by simpa [MB] using f);exact ⟨v,h w f⟩
 | b::ms,L,w,f,h=>by
  have o:Upd (L++MB (b::ms)) b (.deferred (some [])) (.deferred none) (L++(MB ms++[(b,.deferred none)])):=QN (QN .here);have p:=f.own _ _ o.mem;have q:=f.putObj o;refine ⟨by simp,.inl ⟨b,_,U,run_takeDeferred p,?_⟩⟩;exact zaL ms (L:=L) (q.subL (Z4 Q3)) h
theorem Wz {f:Func}{R:Ending->World->Prop}{v:Value}(p:∀ a,UQ N (mk ms) E a->∀ w,St g I H L w->(results f a.tmps).run P w= .ok v w)(h:∀ w,St g I H L w->R (.returned v) w):
  At ⟨P,r,N,mk ms,g,H⟩ (bodyPostM Fence.wide 0 P f R) .ret E I (L++MB ms):=fun a w l q=>by
 show LeavesInM _ _ _ _ _ _ _ _ _;rw [l.defers];exact zaL ms q fun o b=>⟨p a l o b,h o b⟩
theorem zhn {f:FuncId}{l:Func}{c:Code}{a:List Value}{R:Ending->World->Prop}{w:World}(q:P.funcs[f]? =some l)(p:l.body=some c){N:Nat}(o:l.ntmps=N)
  (b:Nat.ble a.length N=true)(s:St g I H i w)(h:X ⟨P,none,N,mk [],g,H⟩ (bodyPostM Fence.wide 0 P l R) c (zvP 0 a) I (i++MB [])):Calls P f a.toArray w R:=
 zDm q p o b s (by simpa [MB,mk] using h)
end
section
variable {g:World} {I a H:Qu} {j i L R:Loc} {w d:World}
theorem St.lend (h:St g I H L w):∃ a,HLe I a/\(∀ b o,(b,o)∈L->a b=some o)/\St g a H [] w:=by obtain ⟨a,h1,h2,h3⟩:=h.freezeAll;exact ⟨a,h1,h3,h2⟩
theorem St.unlend (h:St g I H L w)(f:St g a H [] d)(n:HLe I a)(hL:∀ b o,(b,o)∈L->a b=some o):St g I H L d where
 os:=f.os
 tape:=f.tape
 out:=f.out
 size:=f.size
 imm:=fun b o l=>f.imm b o (n b o l)
 frm:=f.frm
 own:=fun b o l=>f.imm b o (hL b o l)
 sepIH:=h.sepIH
 sepIL:=h.sepIL
 nodup:=h.nodup
theorem zk6.ofV {P:Program}{f:FuncId}{l:List Value}{v:Value}(h:∀ a,HLe I a->(∀ b o,(b,o)∈L->a b=some o)->Zj P f l a v):zk6 P f l I L v:=by intro g H w n;obtain ⟨a,h1,h2,h3⟩:=n.lend;refine (h a h1 h2 g H w h3).mono ?_;rintro e d ⟨rfl,p⟩;exact ⟨U,n.unlend p h1 h2⟩
end
variable {C:Cx} {Q:Exit->Act->World->Prop} {E Y:Env} {I Z:Qu} {u A L R:Loc} {B:Array Oper} {rest:List Oper} {S:GS}
variable {O:Option Tmp} {d:Nat} {V:TypeId} {F:String} {W:Array Edge} {G:Option (Nat×Bool)} {x y z:Operand}
section maps
variable {f g:Type} [DecidableEq f] {ek:f->Value} {ev:g->Value} {m:List (f×g)} {a:f}
def znG (m:List (f×g))(a:f):Nat:=((X5 m a 0).map (·.1)).getD m.length
omit [DecidableEq f] in
theorem zgd:∀ (m:List (f×g)) (k i:Nat) (q:f×g),m[i]? =some q->((Q4 ek ev k m)[i]?).map (fun e=>(e.key,e.born))=some (ek q.1,k+i):=by
 intro m
 induction m with
 | nil=>intro k i q h;simp at h
 | cons p m ih=>
  intro k i q h
  cases i with
  | zero=>simp at h;subst h;simp [Q4]
  | succ i=>simp only [Q4,OZ];rw [ih _ _ _ (by simpa using h)];simp;omega
theorem zkO {h j:Value}:∀ (l:List MapEntry) (i:Nat),(l[i]?).map (·.val)=some j\/l[i]? =none->l.modify i (fun e=>{e with key:=h})=l.modify i fun e=>{e with key:=h,val:=j}:=by
 intro l
 induction l with
 | nil=>intro i _;simp
 | cons e l ih=>
  intro i b
  cases i with
  | zero=>simp at b;simp [b]
  | succ i=>simp only [List.modify_succ_cons];rw [ih i (by simpa using b)]
omit [DecidableEq f] in
theorem zoE:∀ (m:List (f×g)) (k i:Nat) (q:f×g),m[i]? =some q->((Q4 ek ev k m)[i]?).map (·.val)=some (ev q.2):=by
 intro m
 induction m with
 | nil=>intro k i q h;simp at h
 | cons p m ih=>
  intro k i q h
  cases i with
  | zero=>simp at h;subst h;simp [Q4]
  | succ i=>simp only [Q4,OZ];exact ih _ _ _ (by simpa using h)
theorem zzs:∀ (m:List (f×g)) (k j:Nat) (c:g),X5 m a k=some (j,c)->k<=j:=by
 intro m
 induction m with
 | nil=>intro k j c h;cases h
 | cons p m ih=>
  intro k j c h;unfold X5 at h;split at h
  ·simp at h;omega
  ·have:=ih _ _ _ h;omega
theorem zsJ:∀ (m:List (f×g)) (k i:Nat) (c:g) (q:f×g),X5 m a k=some (k+i,c)->m[i]? =some q->q.2=c:=by
 intro m
 induction m with
 | nil=>intro k i c q h;cases h
 | cons p m ih=>
  intro k i c q h b;unfold X5 at h;split at h
  ·simp only [Oe,AO] at h;have:i=0:=kB;subst this;simp at b;subst b;exact h.2
  ·cases i with
   | zero=>
    exfalso;have:=zzs m _ _ _ h;omega
   | succ i=>
    refine ih (k+1) i c q ?_ (by simpa using b);rw [h];simp;omega
theorem XE:∀ (m:List (f×g)) (a:f) (b:g),ZR m a=some b->Vd m a b=m
 | [],_,_,h=>by cases h
 | p::m,a,b,h=>by
  unfold ZR at h;unfold Vd;split
  ·rename_i e;rw [jb e] at h;cases h;subst e;rfl
  ·rename_i e;rw [ja e] at h;rw [XE m a b h]
theorem ziI {t k e r:Nat}{zv:Value}(D:g)(hz:ev D=zv)(hT:MpT C.P t k e zv)(K:Ke C.P k ek)(hx:QB [] E x=some (.map (some r)))(hy:QB [] E y=some (ek a))(hG:G=none)(hN:Nat.blt d C.N=true)
  (hu:Upd u r (Yg ek ev m) (Yg ek ev (Vd m a ((ZR m a).getD D))) A)(h:XO C Q B rest [] ((d,.tuple #[ev ((ZR m a).getD D),.int .i64 (znG m a:Nat)])::E) I A):XO C Q B (⟨some d,.mapEntry t x y,V,F,W,G⟩::rest) [] E I u:=
 YR hG kF fun a' w M hw=>by
  have T:=hw.own _ _ hu.mem;have hf:=K.find ev m a w;have hs:=hw.putObj hu
  have hr:(Instr.mapEntry t (.map (some r)) (ek a)).run C.P w= .ok (.tuple #[ev ((ZR m a).getD D),.int .i64 (znG m a:Nat)]) (w.putObj r (Yg ek ev (Vd m a ((ZR m a).getD D)))):=by
   simp only [Instr.mapEntry,jg,jQ hT.1,Result.andThen,YL T,K.chk];rw [hf]
   cases s:X5 m a 0 with
   | none=>
    have l:ZR m a=none:=(by rw [<-Ui m a 0,s];rfl);have h1:=zbD m a D 0 s;simp only [Bm,jg,Yq hT.2,Result.andThen,l,Option.getD_none];rw [VW _ T,h1];simp only [jp,znG,s,goInt];rw [<-hz];congr 2;simp [Yg,zaM]
   | some p=>
    obtain ⟨i,c⟩:=p;have l:ZR m a=some c:=(by rw [<-Ui m a 0,s];rfl);obtain ⟨⟨q,h1,h2⟩,h3,h4⟩:=Wi (ek:=ek) (ev:=ev) m a c 0 i c (by rw [s];simp);have b:=zgd (ek:=ek) (ev:=ev) m 0 i q h1
    have H:(((Q4 ek ev 0 m).toArray[i]?).map (·.key)).getD (ek a)=ek a:=by
     simp only [AK]
     cases o:(Q4 ek ev 0 m)[i]? with
     | none=>rfl
     | some e=>rw [o] at b;simp at b;simp [b.1,h2]
    have j:(((Q4 ek ev 0 m).toArray[i]?).map (·.born)).getD 0=i:=by
     simp only [AK]
     cases o:(Q4 ek ev 0 m)[i]? with
     | none=>rw [o] at b;simp at b
     | some e=>rw [o] at b;simp at b;simp [b.2]
    simp only [Ow,jg,H,Instr.keyThatStays,K.bits,OB,jp,Result.andThen,l,Option.getD_some,XE m a c l];rw [VW _ T]
    have n:((((Q4 ek ev 0 m).toArray[i]?).map (fun e=>(e.born:Int))).getD 0)=(i:Int):=by
     simp only [AK] at j ⊢
     cases o:(Q4 ek ev 0 m)[i]? with
     | none=>rw [o] at b;simp at b
     | some e=>rw [o] at b;simp at b;simp [b.2]
    rw [XE m a c l] at h4
    have J:((Q4 ek ev 0 m).toArray.modify i fun e=>{e with key:=ek a})=(Q4 ek ev 0 m).toArray:=by
     apply Bs;rw [Array.toList_modify]
     conv=>rhs;rw [h4]
     refine zkO _ i ?_;left;rw [zoE m 0 i q h1,zsJ m 0 i c q (by rw [s];simp) h1]
    rw [J];simp only [znG,s,Ow,Option.getD_some,goInt]
    first
     | rfl
     | (rw [n];rfl)
     | (simp only [j];rfl)
  simp only [execOp,Qp (S:=[]) M trivial rfl hx,Qp (S:=[]) M trivial rfl hy,jg,hr,Result.andThen,jp,OU];exact h _ _ (M.put hN _) trivial hs
omit [DecidableEq f] in
theorem zmS:∀ (m:List (f×g)) (k i:Nat),i<m.length->(Q4 ek ev k m).findIdx? (fun e=>(e.born:Int)==((k+i:Nat):Int))=some i:=by
 intro m
 induction m with
 | nil=>intro k i h;simp at h
 | cons p m ih=>
  intro k i h;simp only [Q4,Bo]
  cases i with
  | zero=>simp
  | succ i=>
   have b:(((k:Nat):Int)==((k+(i+1):Nat):Int))=false:=by
    rw [OL];omega
   rw [b];have:=ih (k+1) i (by simpa using h);rw [show k+(i+1)=k+1+i by omega,this];rfl
theorem zlv {h j:Value}:∀ (l:List MapEntry) (i:Nat),(l[i]?).map (·.key)=some h->l.modify i (fun e=>{e with val:=j})=l.modify i fun e=>{e with key:=h,val:=j}:=by
 intro l
 induction l with
 | nil=>intro i _;simp
 | cons e l ih=>
  intro i b
  cases i with
  | zero=>simp at b;simp [b]
  | succ i=>simp only [List.modify_succ_cons];rw [ih i (by simpa using b)]
theorem zfh {t r:Nat}(b c:g)(n:ZR m a=some c)(hx:QB [] E x=some (.map (some r)))(hy:QB [] E y=some (.int .i64 (znG m a:Nat)))(hz:QB [] E z=some (ev b))(hG:G=none)
  (N:Upd u r (Yg ek ev m) (Yg ek ev (Vd m a b)) A)(h:XO C Q B rest [] E I A):XO C Q B (⟨none,.entryStore t x y z,V,F,W,G⟩::rest) [] E I u:=
 YR hG kF fun a' w s T=>by
  have M:=T.own _ _ N.mem;have hs:=T.putObj N
  have hr:(Instr.entryStore t (.map (some r)) (.int .i64 (znG m a:Nat)) (ev b)).run C.P w= .ok () (w.putObj r (Yg ek ev (Vd m a b))):=by
   cases H:X5 m a 0 with
   | none=>rw [<-Ui m a 0,H] at n;cases n
   | some p=>
    obtain ⟨i,c'⟩:=p;obtain ⟨⟨q,h1,h2⟩,h3,h4⟩:=Wi (ek:=ek) (ev:=ev) m a b 0 i c' (by rw [H];simp);have J:i<m.length:=(jc.1 h1).1;have hp:znG m a=i:=(by unfold znG;rw [H];rfl);have l:=zmS (ek:=ek) (ev:=ev) m 0 i J;rw [Oj] at l
    have D:(Q4 ek ev 0 m).toArray.findIdx? (fun e=>(e.born:Int)==((i:Nat):Int))=some i:=by
     rw [List.findIdx?_toArray];exact l
    have j:=zgd (ek:=ek) (ev:=ev) m 0 i q h1
    have o:((Q4 ek ev 0 m).toArray.modify i fun e=>{e with val:=ev b})=(Q4 ek ev 0 (Vd m a b)).toArray:=by
     apply Bs;rw [Array.toList_modify];rw [h4];refine zlv _ i ?_
     cases K:(Q4 ek ev 0 m)[i]? with
     | none=>rw [K] at j;simp at j
     | some e=>rw [K] at j;simp at j;simp [j.1,h2]
    simp only [Instr.entryStore,jg,YL M,Result.andThen,asInt,asIntOf,hp,jp];rw [D];simp only [];rw [VW _ M,o];unfold Yg;rw [h3]
  simp only [execOp,Qp (S:=[]) s trivial rfl hx,Qp (S:=[]) s trivial rfl hy,Qp (S:=[]) s trivial rfl hz,jg,hr,Result.andThen,jp,AS];exact h _ _ s trivial hs
end maps
theorem zrw {a:Value}(h1:a.cells= #[a])(n:Nat):madeCells a.cells n=(List.replicate n a).toArray:=by
 rw [h1];apply Bs;have:∀ x:Nat,[a][x % 1]?.getD default=a:=fun x=>by rw [Nat.mod_one];rfl
 simp [madeCells,this,List.map_const']
def MkT (P:Program)(t e bytes:Nat)(zv:Value):Prop:=P.underlying t=some (.slice e)/\(P.info? e).map (fun i=>(i.zero,i.size,i.bytes))=some (some zv,1,bytes)/\zv.cells= #[zv]
theorem Q1 {t e f:Nat}{p:Value}{n:Int}(J:MkT C.P t e f p)(T:QB [] E x=some (.int .i64 n))(hy:QB [] E y=some (.int .i64 n))(o:0<=n/\n<=1000000)(hb:f<=1000)
  (D:G=none)(H:Nat.blt d C.N=true)(h:∀ b,XO C Q B rest [] ((d,.slice (some ⟨b,0,none⟩) n.toNat n.toNat)::E) I ((b,.cells (List.replicate n.toNat p).toArray e (0,0))::u)):
  XO C Q B (⟨some d,.makeSlice t x y,V,F,W,G⟩::rest) [] E I u:=
 YR D kF fun a w j M=>by
  obtain ⟨K,g,h1⟩:=J;rw [Ot] at g;obtain ⟨i,g,q⟩:=g;simp only [AO] at q;obtain ⟨hz,s,l⟩:=q;have r:=run_makeSlice (P:=C.P) (w:=w) t e i p K g hz .i64 .i64 n n o.1 kB (by rw [s];omega) (by rw [l];exact Int.le_trans (Int.mul_le_mul (by omega:(f:Int)<=1000) o.2 o.1 kB) kC) kB;rw [s,Om,zrw h1] at r;simp only [execOp,Qp (S:=[]) j trivial rfl T,Qp (S:=[]) j trivial rfl hy,jg,r,Result.andThen,jp,OU];exact h _ _ _ (j.put H _) trivial (M.alloc _)
def zov (size:Nat):List Value->List (Nat×Value)->Option (List Value)
 | cells,[]=>some cells
 | cells,(i,v)::rest=>bif Nat.beq (V7 v).length size&&Nat.ble (i*size+(V7 v).length) cells.length then zov size (Jt cells (i*size) (V7 v)) rest else none
theorem zkd (a:Nat):∀ (p:List (Nat×Value)) (b f:List Value),zov a b p=some f->Instr.fill (fun i=>some (i*a,a)) b.toArray p=some f.toArray
 | [],b,f,h=>by
  simp only [zov,Oe] at h;subst h;rfl
 | (i,v)::p,b,f,h=>by
  simp only [zov] at h
  cases g:(Nat.beq (V7 v).length a&&Nat.ble (i*a+(V7 v).length) b.length) with
  | false=>rw [g] at h;cases h
  | true=>
   rw [g] at h;simp only [ji] at g;have h1:=Aq g.1;have h2:=AM g.2
   have e:b=b.take (i*a)++(b.drop (i*a)).take a++b.drop (i*a+a):=by
    rw [js];have:(b.drop (i*a)).take a++b.drop (i*a+a)=b.drop (i*a):=by rw [<-Aa];exact jT _ _
    rw [this,jT]
   have n:(b.take (i*a)).length=i*a:=(by rw [jJ];omega);have o:((b.drop (i*a)).take a).length=a:=by rw [jJ,Oy];omega
   have q:Jt b (i*a) (V7 v)=b.take (i*a)++V7 v++b.drop (i*a+a):=by
    have:=UH (b.take (i*a)) ((b.drop (i*a)).take a) (V7 v) (b.drop (i*a+a)) (by rw [o];exact h1.symm);rw [<-e,n] at this;exact this
   have j:=zfe (place:=fun i=>some (i*a,a)) (i:=i) (off:=i*a) (size:=a) (v:=v) (vs:=V7 v) (pre:=b.take (i*a)) (old:=(b.drop (i*a)).take a) (tail:=b.drop (i*a+a)) (l:=p) U (zfJ v) h1 n o;rw [<-e] at j;rw [j,<-q];exact zkd a p _ f h
theorem Zw {t n e f:Nat}{g:List Value}{parts:Array (Nat×Operand)}{ps:List (Nat×Value)}(b:List Value)(D:ArT C.P t n e f)(hz:YX C.P t (.agg g.toArray))(N:parts.toList.map (fun p=>(QB S E p.2).map fun v=>(p.1,v))=ps.map some)(K:zov f g ps=some b):
  Q2 C S E I u ⟨O,.build t parts,V,F,W,G⟩ (.agg b.toArray):=
 .of kF fun a w H hg J hw=>by
  obtain ⟨hu,i,M,T⟩:=D
  have key:∀ (l:List (Nat×Operand)) (ps:List (Nat×Value)),l.map (fun p=>(QB S E p.2).map fun v=>(p.1,v))=ps.map some->l.map (fun p=>(p.1,a.eval p.2))=ps:=by
   intro l
   induction l with
   | nil=>intro ps h;cases ps<;>simp_all
   | cons p l ih=>
    intro ps h
    cases ps with
    | nil=>simp at h
    | cons q ps=>
     simp only [jF,AV] at h ⊢;refine ⟨?_,ih _ h.2⟩
     cases j:QB S E p.2 with
     | none=>rw [j] at h;simp at h
     | some v=>
      rw [j] at h;rw [Qp H hg J j];simpa using h.1
  have r:(parts.map fun (i,x)=>(i,a.eval x)).toList=ps:=by
   rw [<-key _ _ N];simp
  have o:=zkd f ps g b K;have s:(Value.agg g.toArray).cells=g.toArray:=rfl;simp only [execOp,Instr.build,jg,Yq hz,Result.andThen,jQ hu,run_sizeOf M,T,r,s,o,jp]
theorem X4 {P:Program}{w:World}{t k e d:Nat}{m:Option Nat}(a:P.underlying t=some (.map k e)):(Op.equalIn (d+1) t (.map m) (.map none)).run P w= .ok m.isNone w:=by simp only [Op.equalIn,jg,jQ a,Result.andThen];cases m<;>rfl
theorem znh {t n k e:Nat}{m:Option Nat}(j:QB S E x=some (.map m))(l:QB S E y=some (.map none))(i:C.P.underlying t=some (.map k e)):Q2 C S E I u ⟨O,.binOp .eql t x y n,V,F,W,G⟩ (.bool m.isNone):=
 .of kF fun a w b hg f _=>by
  have g:(eqGuard .eql t x y (.map m) (.map none)).run C.P w= .ok () w:=(by unfold eqGuard;rfl);have h:(Op.equalIn 10000 t (.map m) (.map none)).run C.P w= .ok m.isNone w:=X4 (d:=9999) i;simp only [execOp,Qp b hg f j,Qp b hg f l,jg,g,jp,Result.andThen,binOp,Op.equal,Op.maxDepth,h]
def zi4 (P:Program)(s f fo n:Nat):Prop:=∃ fs x,P.underlying s=some (.struct fs)/\fs[f]? =some x/\x.offset=fo/\AgT P x.type n
def zpN (P:Program)(s f fo n:Nat):Bool:=match P.underlying s with
 | some (.struct fs)=>match fs[f]? with
  | some x=>x.offset==fo&&zH5 P x.type n
  | none=>false
 | _=>false
theorem zi4.of {P:Program}{s f a n:Nat}(h:zpN P s f a n=true):zi4 P s f a n:=by
 unfold zpN at h;split at h
 ·rename_i b g;split at h
  ·rename_i x i;rw [ji] at h;exact ⟨b,x,g,i,by simpa using h.1,.of h.2⟩
  ·cases h
 ·cases h
theorem zas {s f b n:Nat}{g:List Value}(h:List Value)(o:QB S E x=some (.agg g.toArray))(hF:zi4 C.P s f b n)(l:(g.drop b).take n=h):Q2 C S E I u ⟨O,.field s x f,V,F,W,G⟩ (.agg h.toArray):=
 .of kF fun a w i hg j _=>by
  obtain ⟨p,q,h1,h2,h3,h4⟩:=hF
  have h5:g.toArray.extract b (b+n)=h.toArray:=by
   apply Bs;simp [<-l,List.extract_eq_take_drop]
  simp only [execOp,Qp i hg j o,Instr.field,jg,jQ h1,Result.andThen,h2,asAgg,jp,Xe h4,h3,h5]
end
section
open Go Go.Sort
section
variable {g:World} {I s H:Qu} {a r L R:Loc} {w l:World}
theorem St.grown (h:St g I H a w)(d:Array Obj):St g I H a (grow w d):=by
 have key:∀ (b:Nat) (o:Obj),w.heap[b]? =some o->(grow w d).heap[b]? =some o:=fun b o e=>by
  have f:b<w.heap.size:=(O0.1 e).1;simp only [grow];rw [Array.getElem?_append_left f];exact e
 exact ⟨h.os,h.tape,h.out,⟨jO h.size.1 (by simp [grow]),h.size.2⟩,fun b o e=>key b o (h.imm b o e),fun b o e=>key b o (h.frm b o e),fun b o e=>key b o (h.own b o e),h.sepIH,h.sepIL,h.nodup⟩
theorem St.aheadN (h:St g I H a w)(n:Nat):St g I H a (Go.Sort.ahead w n):=⟨h.os,h.tape,h.out,⟨h.size.1,jO h.size.2 (by simp [Go.Sort.ahead])⟩,h.imm,h.frm,h.own,h.sepIH,h.sepIL,h.nodup⟩
theorem St.rowPut {f:Type}[Inhabited f]{enc:f->Value}{b:Nat}{i:Array Value}{e:TypeId}{j:Nat×Nat}(h:St g I H a w)(d:Array f)(n:Upd a b (.cells i e j) (.cells (putCells enc 0 d i) e j) r):St g I H r (putRow enc w b 0 d):=by
 have o:=h.own _ _ n.mem;refine h.turn n U U U kJ ?_ ?_
 ·simp only [putRow,mapBlock,BC,o,Ow];rfl
 ·intro c p;simp only [putRow,mapBlock,BC,ja (Bu p)]
theorem zeA {d:Type}[Inhabited d]{enc:d->Value}{cs:Array Value}{n:Nat}(b:List d)(j:b.length=n)(h:n<=cs.size):(putCells enc 0 b.toArray cs).toList.take n=b.map enc:=by
 apply Ad;intro i;by_cases f:i<n
 ·rw [Bp f,jB];have h1:i<cs.size:=kB;have h2:i<b.length:=kB
  have h3:(putCells enc 0 b.toArray cs)[i]? =some (enc b[i]):=by
   simp only [putCells,Array.getElem?_mapIdx,O2 h1,Ow];have:(0<=i/\i<0+b.toArray.size):=by simp;omega
   rw [jb this];congr 2;simp [h2]
  rw [Am,h3,jf h2];rfl
 ·rw [Ol (by rw [jJ];omega),Ol (by rw [ju];omega)]
theorem zcd {n:Type}[Inhabited n]{enc:n->Value}{b:Nat}{i:Array Value}{e:TypeId}(h:St g I H a w)(t:(b,Obj.cells i e (0,0))∈a)(f:List n)(q:i.toList.take f.length=f.map enc):Holds enc w b 0 f.toArray:=by
 have o:=h.own _ _ t;intro j p;have d:j<f.length:=(by simpa using p);refine ⟨?_,?_⟩
 ·simp only [World.cell?,o,Option.isSome_none,jy,Oa];have:(i.toList.take f.length)[j]? =some (enc f[j]):=by rw [q,jB,jf d];rfl
  rw [Bp d,Am] at this;rw [show 0+j=j from by omega,this];congr 2;simp [d]
 ·simp only [World.frozen?,o];simp
theorem zlQ {P:Program}{f:FuncId}{e:TypeId}
  (K:∀ (h j i:Nat) (d:List Int) (w:World),Holds (Value.int .i64) w h j d.toArray->h<w.heap.size->d.length<4611686018427387904->Calls P f #[.slice (some ⟨h,j,none⟩) d.length i] w fun e l=>e= .returned (.tuple #[])/\∃ n B,l=grow (putRow (Value.int .i64) (Go.Sort.ahead w n) h j (d.mergeSort fun x y=>decide (x<=y)).toArray) B)
  (h0:∀ (p:Option Addr) (i:Nat) (w:World),Calls P f #[.slice p 0 i] w fun e l=>e= .returned (.tuple #[])/\l=w)
  (d:List Int){v:Value}{n:Nat}{L:Loc}(C:OwnS e 1 v n (d.map (Value.int .i64)) L)(M:n<=1000000)(I:Qu):
  ZP P f [v] I L (fun u s D=>u= .tuple #[]/\s=I/\OwnS e 1 v n ((d.mergeSort fun x y=>decide (x<=y)).map (Value.int .i64)) D):=by
 intro g H w t;have J:d.length=n:=(by have:=C.1;simpa using this);subst J;rcases C.2 with ⟨rfl,z,rfl⟩ | ⟨b,c,E,rfl,rfl,G,A,o,q⟩
 ·have:d=[]:=Oo.1 z;subst this;refine (h0 none 0 w).mono ?_;rintro e l ⟨rfl,rfl⟩;refine ⟨_,I,[],U,zJH _,t,U,U,by simp,.inl ⟨U,U,U⟩⟩
 ·rw [Om] at o q;have F:=t.own b _ (jM.2 U);refine (K b 0 c d w (zcd t (jM.2 U) d q) (O0.1 F).1 kB).mono ?_;rintro e l ⟨rfl,k,B,rfl⟩;refine ⟨_,I,_,U,zJH _,(((t.aheadN k).rowPut _ .here).grown B),U,U,by simp [List.length_mergeSort],.inr ⟨b,c,_,U,U,G,A,by simp [putCells,o],?_⟩⟩;rw [Om];exact zeA _ (by simp [List.length_mergeSort]) kB
theorem zdE {P:Program}{f:FuncId}{e:TypeId}(i:List Int->List Int)(C:∀ d,(i d).length<=d.length)(t:i []=[])
  (M:∀ (j o h:Nat) (d:List Int) (w:World),Holds (Value.int .i64) w j o d.toArray->d.length<=9223372036854775807->d.length<=h->Calls P f #[.slice (some ⟨j,o,none⟩) d.length h] w fun e l=>e= .returned (.slice (some ⟨j,o,none⟩) (i d).length h)/\∃ q,l=putRow (Value.int .i64) (Go.Sort.ahead w q) j o (i d++List.replicate (d.length-(i d).length) 0).toArray)
  (h0:∀ (p:Option Addr) (h:Nat) (w:World),Calls P f #[.slice p 0 h] w fun e l=>e= .returned (.slice p 0 h)/\l=w)
  (d:List Int){v:Value}{n:Nat}{L:Loc}(F:OwnS e 1 v n (d.map (Value.int .i64)) L)(N:n<=1000000)(I:Qu):
  ZP P f [v] I L (fun u s G=>s=I/\OwnS e 1 u (i d).length ((i d).map (Value.int .i64)) G):=by
 intro g H w E;have K:d.length=n:=(by have:=F.1;simpa using this);subst K;have D:=C d;rcases F.2 with ⟨rfl,A,rfl⟩ | ⟨b,c,z,rfl,rfl,J,B,x,y⟩
 ·have:d=[]:=Oo.1 A;subst this;refine (h0 none 0 w).mono ?_;rintro e l ⟨rfl,rfl⟩;refine ⟨_,I,[],U,zJH _,E,U,by simp [t],.inl ⟨U,by simp [t],U⟩⟩
 ·rw [Om] at x y;refine (M b 0 c d w (zcd E (jM.2 U) d y) kB J).mono ?_;rintro e l ⟨rfl,k,rfl⟩;refine ⟨_,I,_,U,zJH _,(E.aheadN k).rowPut _ .here,U,by simp,.inr ⟨b,c,_,U,U,kB,B,by simp [putCells,x],?_⟩⟩;rw [Om];have h1:=zeA (enc:=Value.int .i64) (cs:=z) (n:=d.length) (i d++List.replicate (d.length-(i d).length) 0) kK kB;have h2:=jA (List.take (i d).length) h1;rw [List.take_take,BJ D] at h2;rw [h2];simp
end
end
section
open Go
section
variable {g:World} {I i H:Qu} {f d L R:Loc} {w l:World}
theorem OwnS.sl {B:Type}{e a:Nat}{h:B->List Value}{v:Value}{n:Nat}{q:List B}(y:OwnS e a v n (q.flatMap h) L)(A:∀ x,(h x).length=a)(s:0<a)(D:∀ b o,(b,o)∈L->I b=some o):∃ t c,v= .slice t n c/\Sl I a h t n c q:=by
 have z:q.length=n:=by
  have:=y.1;rw [ZF A] at this;exact AN s this
 rcases y.2 with ⟨rfl,rfl,rfl⟩ | ⟨b,c,C,rfl,rfl,E,_,F,p⟩
 ·have:q=[]:=Oo.1 z;subst this;exact ⟨none,0,U,.nil⟩
 ·have h3:=D b _ (jl ..);refine ⟨_,_,U,z,E,fun _=>U,fun k x J j u G=>.imm h3 ?_⟩;rw [Ve];simp only [Ao,Oj];have r:=zb7 A q k x J j u G;rw [<-p,OA] at r;split at r
  ·simpa using r
  ·cases r
def Z6 (e size:Nat):List (Value×Nat×List Value)->Loc->Prop
 | [],L=>L=[]
 | t::ts,L=>∃ L1 L2,L=L1++L2/\OwnS e size t.1 t.2.1 t.2.2 L1/\Z6 e size ts L2
def Kj:Value×Nat×List Value:=(.slice none 0 0,0,[])
theorem Z6.nil {e a:Nat}:Z6 e a [] []:=rfl
theorem Z6.snoc {e a:Nat}{t:Value×Nat×List Value}{b:Loc}(n:OwnS e a t.1 t.2.1 t.2.2 b):∀ {j:List (Value×Nat×List Value)} {L:Loc},Z6 e a j L->Z6 e a (j++[t]) (L++b)
 | [],L,h=>by
  have h:L=[]:=h;subst h;exact ⟨b,[],by simp,n,U⟩
 | u::j,L,⟨L1,L2,e1,h1,h2⟩=>⟨L1,L2++b,by rw [e1,js],h1,Z6.snoc n h2⟩
theorem Z6.at {s:Type}[DecidableEq s]{e j:Nat}(a:s):∀ {m:List (s×(Value×Nat×List Value))} {L:Loc},Z6 e j (m.map (·.2)) L->
  ∃ A q B,L=A++(q++B)/\OwnS e j ((ZR m a).getD Kj).1 ((ZR m a).getD Kj).2.1 ((ZR m a).getD Kj).2.2 q/\∀ n b,OwnS e j n.1 n.2.1 n.2.2 b->Z6 e j ((Vd m a n).map (·.2)) (A++(b++B))
 | [],L,h=>by
  have h:L=[]:=h;subst h;exact ⟨[],[],[],U,.nil,fun n b o=>⟨b,[],by simp,o,U⟩⟩
 | p::m,L,⟨L1,L2,e1,h1,h2⟩=>by
  by_cases r:p.1=a
  ·refine ⟨[],L1,L2,by rw [e1];rfl,by simp only [ZR,jb r];exact h1,fun n b o=>?_⟩;simp only [Vd,jb r,jF];exact ⟨b,L2,U,o,h2⟩
  ·obtain ⟨A,q,B,t,h3,h4⟩:=Z6.at a h2;refine ⟨L1++A,q,B,by rw [e1,t,js],by simp only [ZR,ja r];exact h3,fun n b o=>?_⟩;simp only [Vd,ja r,jF];exact ⟨L1,A++(b++B),by rw [js],h1,h4 n b o⟩
theorem Z6.each {e a:Nat}:∀ {n:List (Value×Nat×List Value)} {L:Loc},Z6 e a n L->∀ t∈n,∃ h,OwnS e a t.1 t.2.1 t.2.2 h/\∀ p∈h,p∈L
 | [],_,_,t,b=>by cases b
 | u::n,L,⟨L1,L2,e1,h1,h2⟩,t,b=>by
  rcases jo.1 b with rfl | b
  ·exact ⟨L1,h1,fun p j=>by rw [e1];exact OS _ j⟩
  ·obtain ⟨h,h3,h4⟩:=h2.each t b;exact ⟨h,h3,fun p j=>by rw [e1];exact O6 _ (h4 p j)⟩
end
variable {C:Cx} {Q:Exit->Act->World->Prop} {E:Env} {I:Qu} {r:Loc}
theorem Vz {c:Code}(h:∀ d,HLe I d->(∀ b o,(b,o)∈r->d b=some o)->X C Q c E d []):X C Q c E I r:=fun a w f g=>by
 obtain ⟨d,h1,h2,h3⟩:=g.freezeAll;exact h d h1 h3 a w f h2
theorem Wg {f:Array Oper}{rest:List Oper}{S:GS}(h:∀ d,HLe I d->(∀ b o,(b,o)∈r->d b=some o)->XO C Q f rest S E d []):XO C Q f rest S E I r:=fun a w g hg i=>by
 obtain ⟨d,h1,h2,h3⟩:=i.freezeAll;exact h d h1 h3 a w g hg h2
theorem zfU {c:Code}{L R:Loc}(f:YS r L R)(h:∀ d,HLe I d->(∀ b o,(b,o)∈L->d b=some o)->X C Q c E d R):X C Q c E I r:=fun a w i j=>by
 have h0:=j.unsplit f;have h1:=h0.hideR;obtain ⟨d,h2,h3,h4⟩:=h1.freezeAll;have h5:St C.g d C.H R w:=St.unhide (h0.rest Q6) h3;exact h d h2 h4 a w i h5
theorem Vv {d f:Type}[DecidableEq d]:∀ (m:List (d×f)) (a x:d) (b:f),ZR (Vd m a b) x=if a=x then some b else ZR m x
 | [],a,x,b=>by simp [Vd,ZR]
 | p::m,a,x,b=>by
  unfold Vd;by_cases h:p.1=a
  ·rw [jb h];simp only [ZR];by_cases h2:a=x
   ·rw [jb h2,jb h2]
   ·rw [ja h2,ja h2,ja (by rw [h];exact h2)]
  ·rw [ja h];simp only [ZR];rw [Vv m a x b];by_cases h2:p.1=x
   ·rw [jb h2,jb h2,ja (fun e=>h (by rw [h2,e]))]
   ·rw [ja h2,ja h2]
theorem Ux {d f:Type}[DecidableEq d]:∀ {m:List (d×f)} {a:d} {b:f},ZR m a=some b->(a,b)∈m
 | [],_,_,h=>by cases h
 | p::m,a,b,h=>by
  unfold ZR at h;split at h
  ·rename_i e;cases h;rw [<-e];exact jl ..
  ·exact jm _ (Ux h)
theorem Xj {b d:Type}[DecidableEq b]:∀ {m:List (b×d)} {a:b},ZR m a=none↔a∉m.map (·.1)
 | [],a=>by simp [ZR]
 | p::m,a=>by
  unfold ZR;by_cases h:p.1=a
  ·simp [h]
  ·rw [ja h,Xj,jF,jo,not_or];exact ⟨fun h2=>⟨fun e=>h e.symm,h2⟩,fun h2=>h2.2⟩
theorem Ug {d f:Type}[DecidableEq d]:∀ (m:List (d×f)) (a:d) (b:f),(Vd m a b).map (·.1)=if a∈m.map (·.1) then m.map (·.1) else m.map (·.1)++[a]
 | [],a,b=>by simp [Vd]
 | p::m,a,b=>by
  unfold Vd;by_cases h:p.1=a
  ·simp [h]
  ·rw [ja h,jF,Ug m a b];by_cases h2:a∈m.map (·.1)
   ·rw [jb h2,jb (by simp only [jF];exact jm _ h2)];rfl
   ·rw [ja h2,ja (by simp only [jF,jo,not_or];exact ⟨fun e=>h e.symm,h2⟩)];rfl
theorem WD {d g:Type}[DecidableEq d]{m:List (d×g)}(a:d)(b:g)(h:(m.map (·.1)).Nodup):((Vd m a b).map (·.1)).Nodup:=by
 rw [Ug];split
 ·exact h
 ·rename_i h2;rw [Ae];exact ⟨h,by simp,fun x i y f e=>by simp at f;subst f;subst e;exact h2 i⟩
theorem zei {b d:Type}[DecidableEq b]{m:List (b×d)}(h:(m.map (·.1)).Nodup){p:b×d}(a:p∈m):ZR m p.1=some p.2:=by
 induction m with
 | nil=>cases a
 | cons q m ih=>
  rw [jF,O5] at h;unfold ZR;rcases jo.1 a with rfl | a
  ·rw [jb rfl]
  ·rw [ja (fun e=>h.1 (by rw [e];exact jt.2 ⟨p,a,U⟩)),ih h.2 a]
def zjt {α:Type}[DecidableEq α](s:List (α×Bool))(a:α):Bool:=(ZR s a).getD false
theorem zbz {b:Type}[DecidableEq b](s:List (b×Bool))(a x:b):zjt (Vd s a true) x=(decide (a=x)||zjt s x):=by
 unfold zjt;rw [Vv];by_cases h:a=x
 ·simp [h]
 ·simp [h]
end
end Go.Kn
section
namespace Go.Kn
open Go
section
variable {I:Qu} {b a:Nat} {vs:List Value} {A:Array Value} {t:TypeId} {d:Nat×Nat} {l:Loc}
variable {f g i p q r s w y z:Nat×Obj}
theorem Cells.s0 (h:(A.toList.drop a).take vs.length=vs):Cells I ((b,.cells A t d)::l) b a vs:=fun j v n=>by
 refine zJC ?_;rw [Ve];rw [<-h] at n;rw [OA] at n;split at n
 ·rw [AF] at n;exact n
 ·cases n
theorem Cells.s1 (h:(A.toList.drop a).take vs.length=vs):Cells I (f::(b,.cells A t d)::l) b a vs:=(Cells.s0 h).there
theorem Cells.s2 (h:(A.toList.drop a).take vs.length=vs):Cells I (f::g::(b,.cells A t d)::l) b a vs:=(Cells.s1 h).there
theorem Cells.s3 (h:(A.toList.drop a).take vs.length=vs):Cells I (f::g::i::(b,.cells A t d)::l) b a vs:=(Cells.s2 h).there
theorem Cells.s4 (h:(A.toList.drop a).take vs.length=vs):Cells I (f::g::i::p::(b,.cells A t d)::l) b a vs:=(Cells.s3 h).there
theorem Sl.seg {G:Type}{B:Nat}{C:G->List Value}{E:Option Addr}{n c:Nat}{H:List G}{F:Loc}(h:Sl I B C E n c H){k o:Nat}{x:G}(K:H[k]? =some x)(J:((C x).drop o).take vs.length=vs):Cells I F (Ab E) (Ao E+k*B+o) vs:=fun j u D=>by
 rw [<-J,OA] at D;split at D
 ·rw [AF] at D;rw [Nat.add_assoc];exact h.get K D
 ·cases D
end
theorem Jp {P:Program}{g:World}{I H:Qu}{post:List Value}{off:Nat}:∀ (h:List Value) (d:List Value) (w:World) (F B:Loc) (b:Nat) (t:TypeId) (a:List Value) (k:Nat),d.length=off+k->a.length=h.length->(∀ v∈h,v.oneCell'=true)->St g I H F w->
  Upd F b (.cells (d++(a++post)).toArray t (0,0)) (.cells (d++(h++post)).toArray t (0,0)) B->∃ i,(storeCells ⟨b,off,none⟩ h k).run P w= .ok () i/\St g I H B i
 | [],d,w,F,B,b,t,a,k,_,hl,_,hw,hu=>by
  have:a=[]:=Oo.1 hl;subst this;refine ⟨w,U,?_⟩;have j:=hw.own _ _ hu.mem;exact hw.turn hu U U U U j (fun _ _=>U)
 | v::h,d,w,F,B,b,t,a,k,hp,hl,h1,hw,hu=>by
  cases a with
  | nil=>simp at hl
  | cons u a=>
   have j:=hw.own _ _ hu.mem;have o:w.cell? ⟨b,off+k,none⟩=some u:=(by simp [World.cell?,j,<-hp]);have l:=W7 (off:=off+k) hw hu.mem;obtain ⟨s,u1,u2⟩:=hu.middle (.cells ((d++[v])++(a++post)).toArray t (0,0));have f:((d++(u::a++post)).toArray.setIfInBounds (off+k) v)=((d++[v])++(a++post)).toArray:=(by rw [<-hp];simp);rw [<-f] at u1;have n:=hw.setCell u1;rw [f] at u1;obtain ⟨i,p,q⟩:=Jp (P:=P) (post:=post) (off:=off) h (d++[v]) _ s B b t a (k+1) kK (by simpa using hl) (fun x r=>h1 x (jm _ r)) n (by simpa using u2);refine ⟨i,?_,q⟩;simp only [storeCells,jg,Y8,run_store _ _ _ _ _ (h1 v (jl ..)),o,l,jy,Oa,Result.andThen,p]
variable {C:Cx} {Q:Exit->Act->World->Prop} {E V:Env} {I W:Qu} {F B L R:Loc} {J:Array Oper} {rest:List Oper} {S:GS}
variable {K:Option Tmp} {d:Nat} {O:TypeId} {G:String} {T:Array Edge} {M:Option (Nat×Bool)} {x y z:Operand}
theorem Ub {A:List Value}{off n:Nat}{vs:List Value}(h:off+n<=A.length)(b:vs.length=n):Jt A off vs=A.take off++(vs++A.drop (off+n)):=by
 have e:A=A.take off++(A.drop off).take n++A.drop (off+n):=by
  rw [js];have:(A.drop off).take n++A.drop (off+n)=A.drop off:=by rw [<-Aa];exact jT _ _
  rw [this,jT]
 have a:(A.take off).length=off:=(by rw [jJ];omega);have:=UH (A.take off) ((A.drop off).take n) vs (A.drop (off+n)) (by rw [jJ,Oy];omega);rw [<-e,a,js] at this;exact this
theorem YW {t j b f n:Nat}{g:List Value}{A:List Value}(hx:QB [] E x=some (.pointer (some ⟨b,f,none⟩)))(hy:QB [] E y=some (.agg g.toArray))(D:SzT C.P t n)(r:g.length=n)(N:Nat.ble (f+n) A.length=true)(h1:YY g=true)(u:M=none)
  (s:Upd F b (.cells A.toArray j (0,0)) (.cells (Jt A f g).toArray j (0,0)) B)(h:XO C Q J rest [] E I B):
  XO C Q J (⟨none,.store t x y,O,G,T,M⟩::rest) [] E I F:=
 YR u kF fun a w l hw=>by
  obtain ⟨i,H,Z⟩:=D;have o:=AM N
  have e:A=A.take f++((A.drop f).take n++A.drop (f+n)):=by
   have:(A.drop f).take n++A.drop (f+n)=A.drop f:=by rw [<-Aa];exact jT _ _
   rw [this,jT]
  rw [Ub o r] at s;have q:Upd F b (.cells (A.take f++((A.drop f).take n++A.drop (f+n))).toArray j (0,0)) (.cells (A.take f++(g++A.drop (f+n))).toArray j (0,0)) B:=(by rw [<-e];exact s);obtain ⟨w',Y,p⟩:=Jp (P:=C.P) (off:=f) g (A.take f) w F B b j ((A.drop f).take n) 0 (by rw [jJ];omega) (by rw [jJ,Oy];omega) (Kx h1) hw q;simp only [execOp,Qp (S:=[]) l trivial rfl hx,Qp (S:=[]) l trivial rfl hy,Instr.storeAt,Instr.sureAddr,jg,jp,Result.andThen,storeVar,run_sizeOf H,Z,Value.cells,OH,r,Bb,ON,Oa];simp only [Y,AS];exact h _ _ l trivial p
theorem Q9 {a:Addr}(g:QB S E x=some (.pointer (some a))):Q2 C S E I F ⟨K,.nilCheck x,O,G,T,M⟩ (.pointer (some a)):=
 .of kF fun h w b hg f _=>by
  simp only [execOp,Qp b hg f g];rfl
theorem zpY {t:TypeId}{k:IntKind}{a:Int}(g:QB S E x=some (.int k a)):Q2 C S E I F ⟨K,.unOp .neg t x,O,G,T,M⟩ (.int k (k.wrap (0-a))):=
 .of kF fun h w b hg f _=>by
  simp only [execOp,Qp b hg f g];rfl
section
variable {P:Program} {f:Func} {N:Nat} {g:World} {I H:Qu} {d:Loc} {E:Env}
theorem zIq {D:List Deferred}{t h b:Nat}{v:Value}(o:f.results= #[.cell t h])(p:J9 E t=some (.pointer (some ⟨b,0,none⟩)))(j:ScT P h)(n:QO I d b 0 v)(a:Act)(l:UQ N D E a)(w:World)(q:St g I H d w):(results f a.tmps).run P w= .ok v w:=by
 have i:=l.env _ _ p;rw [OM] at i
 have r:(loadVar h ⟨b,0,none⟩).run P w= .ok v w:=by
  simp only [loadVar,jg,Y2 j,Result.andThen,jy,Oa,run_load,n.get q]
 simp only [results,o];simp [i,asAddr,r]
end
end Go.Kn
namespace Go.Kn
open Go
section
variable {C:Cx} {E:Env} {I:Qu} {g:Loc} {S:GS} {d:Option Tmp} {i:TypeId} {f:String} {j:Array Edge} {l:Option (Nat×Bool)} {x y:Operand}
variable {h n:Type} [DecidableEq h] {ek:h->Value} {ev:n->Value} {m:List (h×n)} {a:h}
theorem VF {t k e r:Nat}{z:Value}{b:n}(o:ZR m a=some b)(q:MpT C.P t k e z)(p:Ke C.P k ek)(u:QB S E x=some (.map (some r)))(w:QB S E y=some (ek a))(s:ZH S=true->Mem I g r (Yg ek ev m)):
  Q2 C S E I g ⟨d,.lookup t x y false,i,f,j,l⟩ (ev b):=by
 have:=UZ (C:=C) (S:=S) (dst:=d) (ty:=i) (pos:=f) (af:=j) (gd:=l) q p u w s;rw [o] at this;exact this
end
end Go.Kn
end
section
namespace Go.Kn
open Go
section
variable {C:Cx} {E:Env} {I:Qu} {g:Loc} {S:GS} {d:Option Tmp} {i:TypeId} {f:String} {j:Array Edge} {l:Option (Nat×Bool)} {x y:Operand}
variable {n:Type} [DecidableEq n] {ek:n->Value} {a:n}
def zaO (t:Value×Nat×List Value):Value:=t.1
theorem JT {m:List (n×(Value×Nat×List Value))}{t k e r:Nat}(p:MpT C.P t k e (.slice none 0 0))(o:Ke C.P k ek)(s:QB S E x=some (.map (some r)))(u:QB S E y=some (ek a))(q:ZH S=true->Mem I g r (Yg ek zaO m)):
  Q2 C S E I g ⟨d,.lookup t x y false,i,f,j,l⟩ (((ZR m a).getD Kj).1):=by
 have:=UZ (C:=C) (S:=S) (dst:=d) (ty:=i) (pos:=f) (af:=j) (gd:=l) p o s u q
 cases h:ZR m a with
 | none=>rw [h] at this;exact this
 | some b=>rw [h] at this;exact this
theorem Vs {m:List (n×(Value×Nat×List Value))}{v:Value}(p:((ZR m a).getD Kj).1=v){t k e r:Nat}(h:MpT C.P t k e (.slice none 0 0))(b:Ke C.P k ek)(q:QB S E x=some (.map (some r)))(s:QB S E y=some (ek a))(o:ZH S=true->Mem I g r (Yg ek zaO m)):
  Q2 C S E I g ⟨d,.lookup t x y false,i,f,j,l⟩ v:=by
 rw [<-p];exact JT h b q s o
theorem Wh {m:List (n×Int)}{t k e r:Nat}{o:IntKind}(q:MpT C.P t k e (.int o 0))(p:Ke C.P k ek)(u:QB S E x=some (.map (some r)))(w:QB S E y=some (ek a))(s:ZH S=true->Mem I g r (Yg ek (Value.int o) m)):
  Q2 C S E I g ⟨d,.lookup t x y true,i,f,j,l⟩ (.tuple #[.int o ((ZR m a).getD 0),.bool (ZR m a).isSome]):=by
 have:=W5 (C:=C) (S:=S) (dst:=d) (ty:=i) (pos:=f) (af:=j) (gd:=l) q p u w s
 cases h:ZR m a with
 | none=>rw [h] at this;exact this
 | some b=>rw [h] at this;exact this
end
end Go.Kn
namespace Go.Kn
open Go
section
variable {C:Cx} {E:Env} {I:Qu} {g:Loc} {S:GS} {d:Option Tmp} {j:TypeId} {f:String} {l:Array Edge} {n:Option (Nat×Bool)} {x y:Operand}
variable {i:Type} [DecidableEq i] {ek:i->Value} {a:i}
def zJf (b:Nat):Value:=.map (some b)
theorem zdG {m:List (i×Nat)}{t k e r:Nat}(p:MpT C.P t k e (.map none))(o:Ke C.P k ek)(s:QB S E x=some (.map (some r)))(u:QB S E y=some (ek a))(q:ZH S=true->Mem I g r (Yg ek zJf m)):
  Q2 C S E I g ⟨d,.lookup t x y false,j,f,l,n⟩ (.map (ZR m a)):=by
 have:=UZ (C:=C) (S:=S) (dst:=d) (ty:=j) (pos:=f) (af:=l) (gd:=n) p o s u q
 cases h:ZR m a with
 | none=>rw [h] at this;exact this
 | some b=>rw [h] at this;exact this
end
end Go.Kn
end
section
namespace Go.Kn
open Go
theorem ztB {P:Program}{t e:Nat}(C:Ar2 P t e .i64):Ke (α:=Int×Int) P t VE:=by
 obtain ⟨j,o,n,f,hg⟩:=C;obtain ⟨i,d⟩:=OW.1 o;have g:i.size=1:=(by have:=n;unfold Program.cellsOf at this;rw [d] at this;exact this);refine .of_asking j (fun b a w=>?_) (fun a=>by simp [VE,Instr.sameBits]) (fun a b=>U) (fun a b w=>?_)
 ·have p:∀ (l:Array Value) (q:Nat) (u:Value),l[q]? =some u->(part e l q).run P w= .ok u w:=fun l q u h=>by
   simp only [part,jg,Y2 (P:=P) ⟨_,f,trivial⟩,Result.andThen,jy,Oa,h,jp]
  have A:∀ (x:Int) (q:Nat),(Instr.checkKey b (q+1) e (.int .i64 x)).run P w= .ok () w:=fun x q=>by
   simp only [Instr.checkKey,jg,jQ f,Result.andThen];rfl
  have key:∀ q,(Instr.checkKey b (q+2) t (VE a)).run P w= .ok () w:=fun q=>by
   unfold Instr.checkKey;simp only [VE,jg,jQ j,Ax];simp only [Std.Legacy.Range.forIn_eq_forIn_range',Std.Legacy.Range.size,Nat.sub_zero,Nat.add_one_sub_one,Nat.div_one]
   simp only [List.range',List.forIn_cons,List.forIn_nil,jg,run_sizeOf d,g,Ax,B8,Oj,By,
    p #[.int .i64 a.1,.int .i64 a.2] 0 (.int .i64 a.1) rfl,p #[.int .i64 a.1,.int .i64 a.2] 1 (.int .i64 a.2) rfl,A,jp]
  exact key 9998
 ·have e:=zhp (P:=P) (t:=t) ⟨j,o,n,f,hg⟩ w a.1 a.2 b.1 b.2 9998
  have B:(Op.equal t (VE a) (VE b)).run P w= .ok (a.1==b.1&&a.2==b.2) w:=by
   simp only [Op.equal,Op.maxDepth,VE];exact e
  rw [B];congr 1;obtain ⟨r,s⟩:=a;obtain ⟨y,z⟩:=b;by_cases h1:r=y<;>by_cases h2:s=z<;>simp [h1,h2]
theorem znH {d f:Type}[DecidableEq d](m:List (d×f))(a:d)(b:f):znG (Vd m a b) a=znG m a:=by
 have key:∀ (m:List (d×f)) (k:Nat),((X5 (Vd m a b) a k).map (·.1)).getD (k+(Vd m a b).length)=((X5 m a k).map (·.1)).getD (k+m.length):=by
  intro m
  induction m with
  | nil=>intro k;simp [Vd,X5]
  | cons p m ih=>
   intro k;unfold Vd;by_cases h:p.1=a
   ·rw [jb h];simp [X5,h]
   ·rw [ja h];simp only [X5,ja h,jx];have:=ih (k+1);rw [show k+((Vd m a b).length+1)=k+1+(Vd m a b).length by omega,show k+(m.length+1)=k+1+m.length by omega];exact this
 have:=key m 0;simpa [znG] using this
theorem OwnS.val {e d n:Nat}{v:Value}{g:List Value}{L:Loc}(h:OwnS e d v n g L):∃ a m c,v= .slice a m c:=by
 rcases h.2 with ⟨h1,_⟩ | ⟨b,c,f,h1,_⟩
 ·exact ⟨_,_,_,h1⟩
 ·exact ⟨_,_,_,h1⟩
theorem zfT {d f:Type}[DecidableEq d]:∀ (m:List (d×f)) (a:d) (b c:f),Vd (Vd m a b) a c=Vd m a c
 | [],a,b,c=>by simp [Vd]
 | p::m,a,b,c=>by
  by_cases h:p.1=a
  ·simp [Vd,h]
  ·simp only [Vd,ja h,zfT m a b c]
section
variable {P:Program} {f:Func} {R:Ending->World->Prop} {N:Nat} {g:World} {I H:Qu} {d:Loc} {E:Env} {r:Option Nat}
theorem Zg {t u q n b:Nat}{vs:List Value}{s:Value}(F:f.results= #[.cell t q,.tmp u])(G:J9 E t=some (.pointer (some ⟨b,0,none⟩)))(p:J9 E u=some s)(z:AgT P q n)(B:Cells I d b 0 vs)(D:vs.length=n)
  (h:∀ w,St g I H d w->R (.returned (.tuple #[.agg vs.toArray,s])) w):At ⟨P,r,N,[],g,H⟩ (bodyPost P f R) .ret E I d:=fun a w o A=>
 ⟨o.defers,.tuple #[.agg vs.toArray,s],by
  have x:=o.env _ _ G;have y:=o.env _ _ p;rw [OM] at x y
  have h1:(loadCells ⟨b,0,none⟩ n).run P w= .ok vs.toArray w:=by
   rw [<-D];exact BU w _ _ fun j v C=>by rw [Y8];exact (B j v C).get A
  have l:=z;obtain ⟨_,i,h2,h3⟩:=l
  have J:(loadVar q ⟨b,0,none⟩).run P w= .ok (.agg vs.toArray) w:=by
   simp only [loadVar,jg,jp,Jg z,Result.andThen,OB,run_sizeOf h2,h3,h1]
  simp only [results,F]
  simp [x,y,asAddr,J],h w A⟩
end
end Go.Kn
namespace Go.Kn
open Go
section
variable {C:Cx} {Q:Exit->Act->World->Prop} {E G:Env} {I j:Qu} {g n L R:Loc} {a:Array Oper} {rest:List Oper} {S:GS} {b:Bool}
variable {d:Nat} {o:TypeId} {i:String} {p:Array Edge} {q:Option (Nat×Bool)}
theorem zmv {f:FuncId}{cap:List Value}{l:List Operand}{vs:List Value}{s:Array TypeId}{r:Operand}{K:Value->Qu->Loc->Prop}
  (z:QB ((b,G)::S) E r=some (.func (.func f) #[] cap.toArray))(B:l.map (QB ((b,G)::S) E)=vs.map some)(hF:Fun C.P f)(y:ZH ((b,G)::S)=true->ZP C.P f (vs++cap) I [] K)(t:∃ v,K v I [])
  (w:Zt a ((b,G)::S) E ⟨some d,.call ⟨.value r,l.toArray,s⟩,o,i,p,q⟩)(x:Nat.blt d C.N=true)(A:Yf ((b,G)::S) E d=true)
  (h:∀ v j u,HLe I j->K v j u->XO C Q a rest ((b,(d,v)::G)::S) E j (u++g)):
  XO C Q a (⟨some d,.call ⟨.value r,l.toArray,s⟩,o,i,p,q⟩::rest) ((b,G)::S) E I g:=
 zd2 z B hF w U x A .nil y (fun _=>t) h
end
end Go.Kn
end
namespace Go.Proofs.YtodakphagkommaaGreatDoor
section
open Go Go.Kn Go.Proofs
abbrev ku:=ArT Tryz.prog
abbrev kr:=MpT Tryz.prog
abbrev kq:=PlT Tryz.prog
abbrev kp:=ElT Tryz.prog
abbrev ko:=SlT Tryz.prog
abbrev km:=AgT Tryz.prog
abbrev kl:=ScT Tryz.prog
abbrev kj:=YX Tryz.prog
abbrev ki:=SzT Tryz.prog
abbrev kh:=Q0 Tryz.prog
abbrev kg:=ZP Tryz.prog
abbrev kf:=Zj Tryz.prog
abbrev ke:=Fun Tryz.prog
theorem zft:ke 100:=.of Tryz.func100 kA kA
theorem zAB:ke 101:=.of Tryz.func101 kA kA
theorem zpI:ke 148:=.of Tryz.func148 kA kA
theorem zpC:ke 151:=.of Tryz.func151 kA kA
theorem zid:ke 153:=.of Tryz.func153 kA kA
theorem zyZ:ke 197:=.of Tryz.func197 kA kA
theorem zAL:ke 198:=.of Tryz.func198 kA kA
theorem zlH:ke 200:=.of Tryz.func200 kA kA
theorem zoV:ke 201:=.of Tryz.func201 kA kA
theorem zpB:ke 239:=.of Tryz.func239 kA kA
theorem zp5:ke 254:=.of Tryz.func254 kA kA
theorem zAE:ke 255:=.of Tryz.func255 kA kA
theorem zwr:ke 53:=.of Tryz.func53 kA kA
theorem zge:ke 57:=.of Tryz.func57 kA kA
theorem znr:ke 87:=.of Tryz.func87 kA kA
theorem mixed:Tryz.prog.follows .mixedOrders=true:=kA
theorem QA:kl 23:=.of kA
theorem Qr:kl 3:=.of kA
theorem QM:ko 22 23 1:=.of kA
theorem Qt:ko 23 3 1:=.of kA
def QF (n:Int):List Value:=[.int .i64 n]
structure Hd where
 a:Option Addr
 n:Nat
 c:Nat
def Kv (h:Hd):List Value:=[.slice h.a h.n h.c]
theorem QL (x:Int):(QF x).length=1:=rfl
theorem VH (x:Hd):(Kv x).length=1:=rfl
theorem YJ (o:List Int):YY (o.flatMap QF)=true:=YM (fun _=>U) o
theorem zlN (o:List Hd):YY (o.flatMap Kv)=true:=YM (fun _=>U) o
def ziH {D:Type}[DecidableEq D](o J:List D):Bool:=decide (o=J)
variable{D:Type}
theorem znP [DecidableEq D](o:List D):ziH o o=true:=jN U
variable{I:Qu}{N n c k:Nat}{O:D->List Value}{B:Option Addr}
theorem _root_.Go.Kn.Sl.at {o:List D}(h:Sl I N O B n c o)(a:k<n):∃ x,o[k]? =some x:=
 ⟨_,jf (by rw [h.len];exact a)⟩
theorem YT {p:Nat->Bool}(h:(List.range k).all p=true)(a:p k=true):(List.range (k+1)).all p=true:=by rw [Ok,As,h];simpa using a
theorem Y9 {p:Nat->Bool}(b:k<n)(a:p k=false):(List.range n).all p=false:=by
 cases h:(List.range n).all p with
 | false=>rfl
 | true=>
  rw [jk] at h;rw [h k (jq.2 b)] at a;cases a
variable{x d:D}
theorem QJ {o:List D}(h:o[k]? =some x):o.getD k d=x:=by simp [List.getD,h]
theorem QE {o:List D}(a:o.length=n)(h:k<n):o[k]? =some (o.getD k d):=by have:k<o.length:=kB;unfold List.getD;rw [jf this];rfl
def SlH (I:Qu)(B:Option Addr)(n c:Nat)(C:List Hd)(z:List (List Int)):Prop:=Sl I 1 Kv B n c C/\C.length=z.length/\∀ (k:Nat) (h:Hd) (v:List Int),C[k]? =some h->z[k]? =some v->Sl I 1 QF h.a h.n h.c v
def SlN (I:Qu)(B:Option Addr)(n c:Nat)(z:List (List Int)):Prop:=∃ C:List Hd,SlH I B n c C z
variable{A:Qu}{C:List Hd}{z:List (List Int)}
theorem SlH.mono (h:SlH I B n c C z)(f:HLe I A):SlH A B n c C z:=
 ⟨h.1.mono f,h.2.1,fun k g v a b=>(h.2.2 k g v a b).mono f⟩
theorem SlN.mono (h:SlN I B n c z)(a:HLe I A):SlN A B n c z:=by obtain ⟨C,h1⟩:=h;exact ⟨C,h1.mono a⟩
theorem SlH.len (h:SlH I B n c C z):z.length=n:=by rw [<-h.2.1,h.1.len]
theorem SlN.len (h:SlN I B n c z):z.length=n:=by obtain ⟨C,h1⟩:=h;exact h1.len
theorem SlH.at (h:SlH I B n c C z)(i:k<n):∃ b v,C[k]? =some b/\z[k]? =some v/\Sl I 1 QF b.a b.n b.c v:=by obtain ⟨b,f⟩:=h.1.at i;have j:=h.len;have g:z[k]? =some (z[k]' kB):=jf _;exact ⟨b,_,f,g,h.2.2 k b _ f g⟩
theorem SlN.at (h:SlN I B n c z)(f:k<n):∃ C b v,Sl I 1 Kv B n c C/\C[k]? =some b/\z[k]? =some v/\Sl I 1 QF b.a b.n b.c v:=by obtain ⟨C,h1⟩:=h;obtain ⟨b,v,h2,h3,h4⟩:=h1.at f;exact ⟨C,b,v,h1.1,h2,h3,h4⟩
variable{K:Option Addr}{hd:Hd}{v:List Int}
theorem SlH.snoc {m d:Nat}(h:SlH I B n c C z)(j:Sl I 1 Kv K m d (C++[hd]))(l:Sl I 1 QF hd.a hd.n hd.c v):SlH I K m d (C++[hd]) (z++[v]):=by
 refine ⟨j,by simp [h.2.1],fun k i o a b=>?_⟩;by_cases g:k<C.length
 ·rw [O3 g] at a;rw [O3 (by rw [<-h.2.1];exact g)] at b;exact h.2.2 k i o a b
 ·have f:k=C.length:=(by have:=(jc.1 a).1;simp at this;omega);subst f;rw [Ov kB] at a;rw [Ov (by rw [h.2.1];omega)] at b;simp at a;simp [h.2.1] at b;subst a;subst b;exact l
def zjE {D:Type}(e:Int)(o:List D):List D:=if e≠0 then [] else o
variable{e:Int}
theorem VJ {o:List D}(h:e≠0):zjE e o=[]:=by unfold zjE;rw [jb h]
theorem zap {o:List D}(h:e=0):zjE e o=o:=by unfold zjE;rw [ja kB]
variable{R:D->D->Prop}
theorem UY (o:∀ a b c,R a b->R b c->R a c){l:List D}(h:∀ k (r:k+1<l.length),R (l[k]' kB) l[k+1]):l.Pairwise R:=by
 have key:∀ (n i:Nat) (g:i+n<l.length),0<n->R (l[i]' kB) l[i+n]:=by
  intro n
  induction n with
  | zero=>intro i _ h0;omega
  | succ n ih=>
   intro i g _;have h2:=h (i+n) kB;by_cases e:n=0
   ·subst e;exact h2
   ·exact o _ _ _ (ih i kB kB) h2
 rw [jY];intro i j p q f;have:=key (j-i) i kB kB;simpa [show i+(j-i)=j by omega] using this
def ZV (s:Int):Bool:=decide (s>0)&&(KI s (IntKind.i64.wrap (s-1))==0)
def Xf (cl:List Int)(s:Int):Bool:=cl.any (fun c=>c==s)||ZV s
def zii (a c:Int):Bool:=KI a (IntKind.i64.wrap (0-a))==KI c (IntKind.i64.wrap (0-c))
def Jr (cl:List Int)(c a:Int):Bool:=(KI a c==a)&&zii a c&&Xf cl a&&Xf cl (c-a)
def Jd (cl:List Int)(c:Int)(a:Nat):Int:=match (List.range' a (c.toNat -a)).find? (fun k:Nat=>Jr cl c (k:Int)) with | none=>0 | some k=>(k:Int)
def Qz (cl:List Int)(c:Int):Int:=Jd cl c 1
variable{cl:List Int}
theorem zk3 {c:Int}{a:Nat}(h:(a:Int)<c)(b:Jr cl c a=true):Jd cl c a=a:=by unfold Jd;rw [show c.toNat -a=(c.toNat -(a+1))+1 by omega,List.range'_succ,OX,b]
theorem zhU {c:Int}{a:Nat}(h:(a:Int)<c)(b:Jr cl c a=false):Jd cl c a=Jd cl c (a+1):=by unfold Jd;rw [show c.toNat -a=(c.toNat -(a+1))+1 by omega,List.range'_succ,OX,b]
theorem zlk {c:Int}{a:Nat}(h:c<=(a:Int)):Jd cl c a=0:=by unfold Jd;rw [show c.toNat -a=0 by omega];rfl
def Kk (all:Int)(cl:List Int)(i:Nat):Bool:= !(((decide (cl.getD i 0<1))||decide (cl.getD i 0>all))||(decide ((i:Int)>0)&&decide (cl.getD i 0<=cl.getD ((i:Int)-1).toNat 0)))
def ZS (n:Int):Int:=IntKind.i64.wrap (1*2^(min n.toNat IntKind.i64.bits))-1
def VX (n:Int)(cl:List Int):Int:=
 if n>6 then 2 else if decide (n<1)||decide ((cl.length:Int)≠n-1) then 420
 else if !(List.range cl.length).all (Kk (ZS n) cl) then 420
 else if decide (n>1)&&decide (cl.getD (n-2).toNat 0≠ZS n) then 420
 else if cl.any (fun c=>Qz cl c==0) then 420 else 0
theorem zbX {n:Int}(h:1<=n/\n<=6):2<=IntKind.i64.wrap (1*2^(min n.toNat IntKind.i64.bits))/\IntKind.i64.wrap (1*2^(min n.toNat IntKind.i64.bits))<=64:=by have:n=1\/n=2\/n=3\/n=4\/n=5\/n=6:=kB;rcases this with e | e | e | e | e | e<;>subst e<;>decide
theorem KQ {n:Int}(h:1<=n/\n<=6):1<=ZS n/\ZS n<=63:=by have:=zbX h;unfold ZS;omega
variable{all:Int}
theorem zbE (h:(List.range cl.length).all (Kk all cl)=true){x:Int}(a:cl[k]? =some x):1<=x/\x<=all:=by have h1:=jk.1 h k (jq.2 (jc.1 a).1);unfold Kk at h1;rw [QJ a] at h1;simp at h1;omega
theorem zuF {n:Int}(h:n>6):VX n cl=2:=by unfold VX;rw [jb h]
theorem zv4 {n:Int}(h:¬n>6)(h2:(decide (n<1)||decide ((cl.length:Int)≠n-1))=true):VX n cl=420:=by unfold VX;rw [ja h,jb h2]
theorem zt0 {n:Int}(h:¬n>6)(h2:(decide (n<1)||decide ((cl.length:Int)≠n-1))=false)(h3:(List.range cl.length).all (Kk (ZS n) cl)=false):VX n cl=420:=by unfold VX;rw [ja h,ja (by rw [h2];decide),jb (by rw [h3];rfl)]
theorem zvi {n:Int}(h:¬n>6)(h2:(decide (n<1)||decide ((cl.length:Int)≠n-1))=false)(h3:(List.range cl.length).all (Kk (ZS n) cl)=true)(h4:(decide (n>1)&&decide (cl.getD (n-2).toNat 0≠ZS n))=true):VX n cl=420:=by unfold VX;rw [ja h,ja (by rw [h2];decide),ja (by rw [h3];decide),jb h4]
theorem zkq {n:Int}(h:¬n>6)(h2:(decide (n<1)||decide ((cl.length:Int)≠n-1))=false)(h3:(List.range cl.length).all (Kk (ZS n) cl)=true)(h4:(decide (n>1)&&decide (cl.getD (n-2).toNat 0≠ZS n))=false):
  VX n cl=if cl.any (fun c=>Qz cl c==0) then 420 else 0:=by
 unfold VX;rw [ja h,ja (by rw [h2];decide),ja (by rw [h3];decide),ja (by rw [h4];decide)]
def Zm (b:Nat):Value:=.pointer (some ⟨b,0,none⟩)
def zCM (cl:List Int)(s:Int):Bool:=ZV s||cl.any (fun y=>s==y)
def zaq (cl:List Int)(s a:Int):Bool:=zii a s&&zCM cl a&&zCM cl (zhT s a)
def WO (s a:Int):Int:=KI (IntKind.i64.wrap (a-1)) s
def W6 (cl:List Int)(s:Int):Nat->Int->Option Int
 | 0,_=>none
 | f+1,a=>if decide (a>0) then (if zaq cl s a then some a else W6 cl s f (WO s a)) else none
def zaD (cl:List Int)(s:Int):Option Int:=W6 cl s 64 (WO s s)
theorem zow:((List.range 64).all fun a=>(List.range 64).all fun s=>decide (0<=KI (a:Int) (s:Int))&&decide (KI (a:Int) (s:Int)<=(a:Int)))=true:=kA
variable{a s:Int}
theorem zCZ (b:0<=a/\a<=63)(C:0<=s/\s<=63):0<=KI a s/\KI a s<=a:=by have h:=jk.1 (jk.1 zow a.toNat (jq.2 kB)) s.toNat (jq.2 kB);rw [show ((a.toNat:Nat):Int)=a by omega,show ((s.toNat:Nat):Int)=s by omega] at h;simpa using h
theorem zpL (b:0<a/\a<=63)(C:0<=s/\s<=63):0<=WO s a/\WO s a<=a-1:=by unfold WO;rw [zct kB];exact zCZ kB C
variable{f:Nat}
theorem zom (h:a>0)(b:zaq cl s a=true):W6 cl s (f+1) a=some a:=by unfold W6;rw [jb (by simpa using h),jb b]
theorem zlr (h:a>0)(b:zaq cl s a=false):W6 cl s (f+1) a=W6 cl s f (WO s a):=by rw [show W6 cl s (f+1) a=if decide (a>0) then (if zaq cl s a then some a else W6 cl s f (WO s a)) else none from U,jb (by simpa using h),ja (by rw [b];decide)]
theorem zm0 (h:¬a>0):W6 cl s f a=none:=by
 cases f with
 | zero=>rfl
 | succ f=>rw [show W6 cl s (f+1) a=if decide (a>0) then (if zaq cl s a then some a else W6 cl s f (WO s a)) else none from U,ja (by simpa using h)]
def zh9 (cl:List Int)(s:Int):Int:=match zaD cl s with | some a=>a | none=>0
def ziv (cl:List Int)(s:Int):Int:=match zaD cl s with | some a=>zhT s a | none=>0
def VY (m:Int)(cl:List Int)(s:Int):Int:=if VX m cl≠0 then VX m cl else if cl.any (fun c=>c==s) then 0 else 1
def zdC (m:Int)(cl:List Int)(s:Int):Int:=if VY m cl s≠0 then 0 else Qz cl s
def zdH (m:Int)(cl:List Int)(s:Int):Int:=if VY m cl s≠0 then 0 else s-Qz cl s
variable{m:Int}
theorem zln (h:VX m cl≠0):VY m cl s=VX m cl:=by unfold VY;rw [jb h]
theorem zhj (h:VX m cl=0)(h2:cl.any (fun c=>c==s)=false):VY m cl s=1:=by unfold VY;rw [ja kB,ja (by rw [h2];decide)]
theorem zfS (h:VX m cl=0)(h2:cl.any (fun c=>c==s)=true):VY m cl s=0:=by unfold VY;rw [ja kB,jb h2]
theorem zkW (h:VY m cl s≠0):zdC m cl s=0/\zdH m cl s=0:=by unfold zdC zdH;rw [jb h,jb h];exact ⟨U,U⟩
theorem zmF (h:VY m cl s=0):zdC m cl s=Qz cl s/\zdH m cl s=s-Qz cl s:=by unfold zdC zdH;rw [ja kB,ja kB];exact ⟨U,U⟩
theorem ZJ (h:VX m cl=0):1<=m/\m<=6/\(cl.length:Int)=m-1/\∀ c∈cl,1<=c/\c<=63:=by
 unfold VX at h;split at h
 ·cases h
 ·rename_i h1;split at h
  ·cases h
  ·rename_i h2;split at h
   ·cases h
   ·rename_i h3;simp at h2 h3;refine ⟨kB,kB,kB,fun c b=>?_⟩;obtain ⟨k,g⟩:=jU b;have h4:(List.range cl.length).all (Kk (ZS m) cl)=true:=(by rw [jk];intro x i;exact h3 x (jq.1 i));have:=zbE h4 g;have:=KQ (n:=m) kB;omega
theorem zjR (I:Qu)(s:Int):kf 201 [.int .i64 s] I (.bool (ZV s)):=by
 intro g H w b;refine qe Tryz.func201 Tryz.ntmps201 b ?_;refine zR (zA<|zN (zR ?_));refine zM<|zC ?_
 refine zM ?_;refine Qw 2 U U U ?_;refine zK (Qd U) ?_;refine zK (Qd U) ?_;refine zK (zk4 U U U) ?_;refine zK (Ua U U) ?_;refine zK (Qx U U U) ?_;refine QC U U U U U<|zA (zN (Qq ?_))
 exact zr U U kL
variable{p:D->Bool}
theorem Z3 {o:List D}(g:o[k]? =some x)(h:(o.take k).any p=false)(b:p x=false):(o.take (k+1)).any p=false:=by rw [zbI g,h,b];rfl
theorem YN {o:List D}(g:o[k]? =some x)(b:p x=true):o.any p=true:=jD.2 ⟨x,je g,b⟩
variable{o:List Int}
theorem zvI (t:Sl I 1 QF B n c o)(M:n<=100000)(s:Int):kf 254 [.slice B n c,.int .i64 s] I (.bool (Xf o s)):=by
 intro g H w G;refine qe Tryz.func254 Tryz.ntmps254 G ?_;refine zR (zA (zN (Qk (zR<|zA (zN (Ql ?_))))));refine zU [(0,_),(1,_)] (fun T F y E A i=>∃ (k:Nat),y=n-k/\E=(5,.int .i64 k)::T/\I=A/\F=i/\k<=n/\(o.take k).any (fun c=>c==s)=false) ?_ (h:=⟨0,U,U,U,U,jd _,U⟩);rintro y E A i ⟨k,rfl,rfl,rfl,rfl,J,q⟩;refine Qk (zR (zM<|zM ?_));refine zQ Qt<|zC (zN ?_)
 refine zI ?_ ?_<;>intro r
 ·have l:k<n:=kd r;obtain ⟨x,u⟩:=t.at l;refine Qm<|Qa<|Qk<|Ql<|zR<|zM ?_;refine zM ?_;refine zV (Qs U U Qt kE (fun hg=>kB)) ?_;refine zV (Qc U Qr (fun hg=>by exact zJA t u U))<|zM<|zC (zN ?_)
  refine zI ?_ ?_<;>intro b
  ·refine zR (zA (zN (Qq (Qn (Qb (Qb (Qn<|Qb ?_)))))))
   first
   | exact zr U U (by unfold Xf;rw [YN u b];rfl)
  refine Qm<|Qg<|Qa<|Qh<|zM ?_;exact zB<|zA (Qe<|zm (h:=⟨n-(k+1),kB,k+1,U,U,U,U,kB,Z3 u q b⟩))
 have j:n<=k:=kd r;rw [QZ t.len j] at q;refine Qy (Qf (Qf (Qj (Qa (zR (zM<|zC ?_))))));refine zM ?_;refine Qw 2 U U U ?_;refine zK (Qd U) ?_;refine zK (Qd U) ?_;refine zK (zk4 U U U) ?_;refine zK (Ua U U) ?_;refine zK (Qx U U U) ?_;refine QC U U U U U<|zA (zN (Qq ?_))
 first
 | exact zr U U (by unfold Xf;rw [q];rfl)
theorem zjB (t:Sl I 1 QF B n c o)(u:n<=100000)(s:Int)(C:s<=1000):kf 239 [.slice B n c,.int .i64 s] I (.int .i64 (Qz o s)):=by
 intro g H w J;refine qe Tryz.func239 Tryz.ntmps239 J ?_;refine zR (zA (zN (Qk (zR<|zA (zN (Ql ?_))))));refine zU [(0,_),(1,_)] (fun T F y E A i=>∃ (k:Nat),y=(max s.toNat 1)-k/\E=(5,.int .i64 k)::T/\I=A/\F=i/\k<=(max s.toNat 1)/\1<=k/\Qz o s=Jd o s k) ?_ (h:=⟨1,U,U,U,U,kB,jn _,U⟩);rintro y E A i ⟨k,rfl,rfl,rfl,rfl,M,h1,j⟩;refine Qk (zR (zM<|zM<|zC (zN ?_)));refine zI ?_ ?_<;>intro l
 ·have q:(k:Int)<s:=(by simpa using l);have G:0<s:=kB;refine Qm<|Qa<|Qk<|Ql<|zR<|zM ?_;refine zM<|zV (Ua U U)<|zM<|zC ?_
  refine zM ?_;refine Qw 5 U U U ?_;refine zK (Qd U) ?_;refine zK (Qd U) ?_;refine zK (zgG U) ?_;refine zK (Ua U U) ?_;refine zK (Qd U) ?_;refine zK (Qd U) ?_;refine zK (zgG U) ?_;refine zK (Ua U U) ?_;refine zK (Qx U U U) ?_;refine QC U U U U U ?_;refine zM ?_;refine Qw 16 U U U ?_;refine zK (Qd U) ?_;refine zK (Qd U)<|qg (vs:=[_,_]) U zp5 (fun hg=>zvI t u _)<|QC U U U U U ?_
  refine zM ?_;refine Qw 21 U U U ?_;refine zK (Qd U) ?_;refine zK (Qd U) ?_;refine zK (Qd U) ?_;refine zK (Zf U U U (fun hg=>kB))<|qg (vs:=[_,_]) U zp5 (fun hg=>zvI t u _)<|QC U U U U U<|zN ?_
  refine zI ?_ ?_<;>intro b
  ·refine zR (zM<|zA (zN (Qq (Qn (Qb (Qb (Qn (Qb ?_))))))))
   first
   | exact zr U U (by rw [j,zk3 q (by unfold Jr zii;simpa using b)])
  refine Qm<|Qg<|Qa<|Qh<|zM ?_;refine zB<|zA (Qe ?_)
  exact zm (h:=⟨(max s.toNat 1)-(k+1),kB,k+1,U,U,U,U,kB,kB,by rw [j,zhU q (by unfold Jr zii;simpa using b)]⟩)
 have r:s<=(k:Int):=(by simpa using l);exact Qy (Qf (Qf (Qj (Qa (zR (zA (zN<|Qq<|zr U U (by rw [j,zlk r]))))))))
theorem zry (q:Sl I 1 QF B n c o)(m:Int):kf 210 [.int .i64 m,.slice B n c] I (.int .i64 (VX m o)):=by
 intro g H w hw;refine qe Tryz.func210 Tryz.ntmps210 hw ?_;refine zR<|zA<|zN<|Qk<|zR ?_;refine zM<|zC (zN ?_)
 refine zI ?_ ?_<;>intro W
 ·have h6:m>6:=(by simpa using W);exact zR (zA (zN (Qq (Qb<|zr U U (by rw [zuF h6])))))
 have h6:¬m>6:=(by simpa using W);refine Qm (Qa (Qk (zR (zM<|zC ?_))));refine zM ?_;refine QI 2 U U U ?_;refine zJ (Qd U)<|zJ (Zs U Qt)<|zJ (Qd U) ?_
 refine zJ (Zf U U U (fun hg=>by (simp [ZH] at hg;omega)))<|zJ (Qx U U U) ?_
 refine Q5 U U U U U<|zN ?_
 refine zI ?_ ?_<;>intro F
 ·have j:(decide (m<1)||decide ((o.length:Int)≠m-1))=true:=(by rw [q.len];simpa using F);exact zR (zA (zN (Qq (Qb<|zr U U (by rw [zv4 h6 j])))))
 have j:(decide (m<1)||decide ((o.length:Int)≠m-1))=false:=(by rw [q.len];simpa using F);have Z:1<=m/\m<=6/\(n:Int)=m-1:=(by rw [q.len] at j;simp at j;omega);have hn:n<=100000:=kB;have a1:=zbX ⟨Z.1,Z.2.1⟩;have a0:=KQ ⟨Z.1,Z.2.1⟩;refine Qm<|Qa<|zR<|zM ?_;refine zV (U7 U U (fun hg=>kB)) ?_;refine zB<|zA (zN (Qk (zR<|zA (zN (Ql ?_)))))
 refine zU [(0,_),(1,_),(5,_)] (fun T L0 Y E A l=>∃ (k:Nat),Y=n-k/\E=(6,.int .i64 k)::T/\I=A/\L0=l/\k<=n/\(List.range k).all (Kk (ZS m) o)=true) ?_ (h:=⟨0,U,U,U,U,jd _,U⟩);rintro Y E A l ⟨k,rfl,rfl,rfl,rfl,hk,y⟩;refine Qk (zR (zM<|zM ?_));refine zQ Qt<|zC (zN ?_)
 refine zI ?_ ?_<;>intro G
 ·have i:k<n:=kd G;obtain ⟨x,t⟩:=q.at i;refine Qm (Qa (Qk (Ql (Qk<|ZW mixed kA<|zq (Qd U)<|zq (Qd U)<|zq (Qs U U Qt kE (fun hg=>kB))<|zq (Qc U Qr (fun hg=>by exact zJA q t U))<|zq (Qx U U U)<|zq (Qd U)<|Ym 5 U U U<|zj (Qd U)<|zj (Qd U)<|zj (Qs U U Qt kE (fun hg=>kB)) ?_))));refine zj (Qc U Qr (fun hg=>by exact zJA q t U))<|zj (Qd U)<|zj (Qx U U U)<|Jm U U U U U<|zq (Qd U)<|Ym 13 U U U<|zj (Qd U)<|zj (Qx U U U)<|zj (Qd U)<|Yd 16 U U U<|zk (Qd U)<|zk (Qd U) ?_
  refine zk (Qs U U Qt kE (fun hg=>kB))<|zk (Qc U Qr (fun hg=>by exact zJA q t U))<|zk (Qd U)<|zk (Qd U)<|zk (Zf U U U (fun hg=>kB))<|zk (Qs U U Qt kE (fun hg=>by (simp [ZH] at hg;omega)))<|zk (Qc U Qr (fun hg=>by exact Sl.getD0 (k:=((k:Int)-1).toNat) (d:=0) q (by simp [ZH] at hg;omega) U))<|zk (Qx U U U)<|UX U U U (.some U U U U gbf) U U<|Jm U U U U U<|ZX<|Qa ?_
  refine zI ?_ ?_<;>intro J
  ·refine zR (zA (zN (Qq (Qn (Qb (Qb (Qn<|Qb ?_)))))))
   first
   | exact zr U U (by rw [zt0 h6 j (by rw [q.len];exact Y9 i (by have:=QJ (d:=0) t;unfold Kk ZS;rw [this,J];rfl))])
  refine Qm<|Qg<|Qa<|Qh<|zM ?_;refine zB<|zA (Qe ?_)
  exact zm (h:=⟨n-(k+1),kB,k+1,U,U,U,U,kB,YT y (by have:=QJ (d:=0) t;unfold Kk ZS;rw [this,J];rfl)⟩)
 have r:n<=k:=kd G;have b:(List.range o.length).all (Kk (ZS m) o)=true:=(by rw [q.len,show n=k by omega];exact y);refine Qy (Qf (Qf (Qj (Qa (Qk (zR (zM<|zC ?_)))))));refine zM ?_;refine Qw 2 U U U ?_;refine zK (Qd U) ?_;refine zK (Qd U)<|zK (Zf U U U (fun hg=>kB))<|zK (Qs U U Qt kE (fun hg=>by (simp [ZH] at hg;omega)))<|zK (Qc U Qr (fun hg=>by exact Sl.getD0 (k:=(m-2).toNat) (d:=0) q (by simp [ZH] at hg;omega) U))<|zK (Qd U) ?_
 refine zK (Qx U U U) ?_;refine QC U U U U U<|zN ?_
 refine zI ?_ ?_<;>intro M
 ·have u:(decide (m>1)&&decide (o.getD (m-2).toNat 0≠ZS m))=true:=(by unfold ZS;simpa using M);exact zR (zA (zN (Qq (Qb<|zr U U (by rw [zvi h6 j b u])))))
 have u:(decide (m>1)&&decide (o.getD (m-2).toNat 0≠ZS m))=false:=(by unfold ZS;simpa using M);refine Qm (Qa (Qk (zR (zA (zN (Ql<|zU [(1,_)] (fun T L0 Y E A l=>∃ (k:Nat),Y=n-k/\E=(7,.int .i64 k)::T/\I=A/\L0=l/\k<=n/\(o.take k).any (fun c=>Qz o c==0)=false) ?_ (h:=⟨0,U,U,U,U,jd _,U⟩)))))));rintro Y E A l ⟨k,rfl,rfl,rfl,rfl,hk,V⟩;refine Qk (zR (zM<|zM ?_));refine zQ Qt<|zC (zN ?_)
 refine zI ?_ ?_<;>intro P
 ·have i:k<n:=kd P;obtain ⟨x,t⟩:=q.at i;have a2:=zbE b t;refine Qm<|Qa<|Qk<|Ql<|zR<|zM ?_;refine zM ?_;refine zM ?_;refine zV (Qs U U Qt kE (fun hg=>kB)) ?_;refine zV (Qc U Qr (fun hg=>by exact zJA q t U)) ?_;refine qcV (vs:=[_,_]) U zpB (zjB q hn _ kB)<|zC (zN ?_)
  refine zI ?_ ?_<;>intro Q
  ·refine zR (zA (zN (Qq (Qn (Qb (Qb (Qn<|Qb ?_)))))))
   first
   | exact zr U U (by rw [zkq h6 j b u,YN t Q];rfl)
  refine Qm<|Qg<|Qa<|Qh<|zM ?_;exact zB<|zA (Qe<|zm (h:=⟨n-(k+1),kB,k+1,U,U,U,U,kB,Z3 t V Q⟩))
 have r:n<=k:=kd P;rw [QZ q.len r] at V;refine Qy (Qf (Qf (Qj (Qa (zR (zA (zN<|Qq ?_)))))))
 first
 | exact zr U U (by rw [zkq h6 j b u,V];rfl)
def KA {D:Type}(p:D->Bool)(o:List D):Int:=if o.any p then (o.findIdx p:Int) else -1
theorem V5 {o:List D}(h:(o.take k).any p=false)(b:o[k]? =some x)(g:p x=true):KA p o=k:=by
 unfold KA;rw [YN b g,jb rfl];have i:=(jc.1 b).1
 have:o.findIdx p=k:=by
  rw [List.findIdx_eq i];refine ⟨by rw [(jc.1 b).2];exact g,fun j l=>?_⟩;have:=jL.1 h o[j] (by rw [Ar];exact ⟨j,kB,U⟩);simpa using this
 omega
theorem VG {o:List D}(g:o.length=n)(b:n<=k)(h:(o.take k).any p=false):KA p o= -1:=by unfold KA;rw [QZ g b] at h;rw [h];rfl
theorem Ut {o:List D}:decide (KA p o>=0)=o.any p:=by
 unfold KA;cases h:o.any p
 ·rfl
 simp
theorem zzi (t:Sl I 1 QF B n c o)(P:n<=100000)(v:Int):kf 101 [.slice B n c,.int .i64 v] I (.int .i64 (KA (fun y=>v==y) o)):=by
 intro g H w J;refine qe Tryz.func101 Tryz.ntmps101 J ?_;refine zR<|zA<|zN<|Qk<|zR ?_;refine zM ?_;refine zQ Qt ?_;refine zM<|zN<|Ql ?_;refine zU [(0,_),(1,_),(7,_)] (fun T G F E A i=>∃ (k:Nat),F=n-k/\E=(8,.int .i64 k)::T/\I=A/\G=i/\k<=n/\(o.take k).any (fun y=>v==y)=false) ?_ (h:=⟨0,U,U,U,U,jd _,U⟩);rintro F E A i ⟨k,rfl,rfl,rfl,rfl,M,q⟩;refine zR<|zC<|zN<|Qk ?_;refine zI ?_ ?_<;>intro r
 ·have l:k<n:=kd r;obtain ⟨x,u⟩:=t.at l;refine Qm (Qa (Qk (Ql (zR (zM<|zA<|zN (zR ?_))))));refine zM ?_;refine zM ?_;refine zM ?_;refine zV (Qs U U Qt kE (fun hg=>kB)) ?_;refine zV (Qc U Qr (fun hg=>by exact zJA t u U))<|zC (zN ?_)
  refine zI ?_ ?_<;>intro b
  ·refine zR (zM<|zA (zN (Qq (Qn (Qb (Qb (Qn (Qb ?_))))))));exact zr U U (by rw [V5 q u b])
  exact Qm (Qg (Qa (Qh (zB<|zM (Qe<|zm (h:=⟨n-(k+1),kB,k+1,U,U,U,U,kB,Z3 u q b⟩))))))
 have j:n<=k:=kd r;exact Qy (Qf (Qf (Qj (Qa (zR (zA (zN<|Qq<|zr U U (by rw [VG t.len j q]))))))))
theorem Ue (b:Sl I 1 QF B n c o)(h:n<=100000)(v:Int):kf 57 [.slice B n c,.int .i64 v] I (.bool (o.any (fun y=>v==y))):=by
 intro g H w i;refine qe Tryz.func57 Tryz.ntmps57 i ?_;refine zR (zA<|zN (zR ?_));refine zM ?_;refine zM ?_;refine qcV (vs:=[_,_]) U zAB (zzi b h v)<|zC<|zA (zN (Qq ?_))
 first
 | exact zr U U (by rw [<-Ut])
variable{b:Nat}
theorem zEA (i:QO I [] b 0 (.slice B n c))(h:Sl I 1 QF B n c o)(j:n<=100000)(s:Int):kf 200 [.int .i64 s,Zm b] I (.bool (zCM o s)):=by intro g H w l;refine qe Tryz.func200 Tryz.ntmps200 l ?_;refine zR (zA<|zN (zR ?_));refine zM ?_;refine qcV (vs:=[_]) U zoV (zjR I _) ?_;refine zM ?_;refine QI 2 U U U ?_;refine zJ (Qc U QA (fun hg=>by exact i.any)) ?_;refine zJ (Qd U) ?_;refine qf (vs:=[_,_]) U zge (fun hg=>Ue h j _) ?_;refine Q5 U U U U U ?_;refine zA (zN (Qq ?_));exact zr U U kL
theorem zhJ (P:Sl I 1 QF B n c o)(hn:n<=100000)(s:Int)(C:1<=s/\s<=63):kf 153 [.slice B n c,.int .i64 s] I (.tuple #[.int .i64 (zh9 o s),.int .i64 (ziv o s),.bool (zaD o s).isSome]):=by
 intro g H w M;refine qe Tryz.func153 Tryz.ntmps153 M ?_;have i:=zJH I;refine zR<|QU U U U (fun u=>zA<|zA<|zA (zN (Qk<|Zk .here (fun I1 y V=>?_))))
 have P:=P.mono y;have i:=i.trans y;have F:=V;refine Qh<|zV (Zn (us:=[]) (vs:=[_]) U U)<|zA (zN (Qk (zR ?_)))
 refine zM ?_;refine zV (zk4 U U U)<|zM<|zV (Ua U U)<|zA (Qe ?_)
 have W:=zpL (a:=s) (s:=s) kB kB;refine Qa (Ql<|zU [(1,_),(7,_)] (fun T L0 mz E A r=>∃ (a:Int) (f:Nat),mz=a.toNat/\E=(8,.int .i64 a)::T/\I1=A/\L0=r/\0<=a/\a<=63/\a.toNat<f/\zaD o s=W6 o s f a) ?_ (h:=⟨WO s s,64,U,U,U,U,W.1,kB,kB,U⟩));rintro mz E A r ⟨a,f,rfl,rfl,rfl,rfl,a0,a1,a2,t⟩;refine Qk (zR (zM<|zC (zN ?_)));refine zI ?_ ?_<;>intro j
 ·have Q:a>0:=(by simpa using j);obtain ⟨f,rfl⟩:∃ q,f=q+1:=⟨f-1,kB⟩;have Y:=zpL (a:=a) (s:=s) kB kB;have G:(WO s a).toNat<a.toNat:=kB;refine Qm<|Qa<|Qk<|Ql<|zR<|zM ?_;refine zM ?_;refine zV (zgG U)<|zV (Ua U U)<|zM ?_
  refine zM ?_;refine zV (zgG U)<|zV (Ua U U)<|zC ?_
  refine zM ?_;refine Qw 9 U U U ?_;refine zK (Qd U) ?_;refine zK (Qd U)<|Xr (cap:=[Zm u]) (vs:=[_]) U U zlH (fun hg=>zEA (.imm F U) P hn _) (.some U U U U gbt) U U<|QC U U U U U ?_
  refine zM ?_;refine Qw 14 U U U ?_;refine zK (Qd U) ?_;refine zK (Qd U) ?_;refine zK (Qd U) ?_;refine zK (zg1 U U)<|Xr (cap:=[Zm u]) (vs:=[_]) U U zlH (fun hg=>zEA (.imm F U) P hn _) (.some U U U U gbt) U U<|QC U U U U U<|zN ?_
  refine zI ?_ ?_<;>intro l
  ·have Z:zaD o s=some a:=(by rw [t,zom Q (by unfold zaq zii;simpa using l)]);refine zR<|zM ?_;refine zM ?_;refine zM ?_;refine zV (zg1 U U)<|zA<|zA<|zA (zN (Qq (Qn (Qb (Qb (Qn (Qb ?_)))))))
   exact Jo U U U U (fun w M=>⟨by unfold zh9 ziv;rw [Z];rfl,(M.mono i).drop⟩)
  have J:zaD o s=W6 o s f (WO s a):=(by rw [t,zlr Q (by unfold zaq zii;simpa using l)]);exact Qm (Qg (Qa (Qh (zM<|zV (zk4 U U U)<|zM<|zV (Ua U U)<|zA (Qe<|zm (h:=⟨_,G,WO s a,f,U,U,U,U,Y.1,kB,kB,J⟩))))))
 have Q:¬a>0:=(by simpa using j);have Z:zaD o s=none:=(by rw [t,zm0 Q]);refine Qy (Qf (Qf (Qj (Qa (zR (zA<|zA<|zA (zN (Qq ?_))))))));exact Jo U U U U (fun w M=>⟨by unfold zh9 ziv;rw [Z];rfl,(M.mono i).drop⟩)
def zBQ (s:Int):Nat->Int->List Int
 | 0,_=>[]
 | f+1,a=>if decide (a>0) then a::zBQ s f (WO s a) else []
theorem zaf {cl:List Int}{s:Int}:∀ (f:Nat) (a:Int),W6 cl s f a=(zBQ s f a).find? (zaq cl s)
 | 0,_=>rfl
 | f+1,a=>by
  unfold W6 zBQ;split
  ·rw [OX,zaf f];cases zaq cl s a<;>rfl
  ·rfl
def zyL (s:Nat):List Int:=((List.range' 1 (s-1)).map (fun k:Nat=>(k:Int))).filter (fun a=>KI a s==a)
theorem zpE:((List.range 64).all fun s=>decide (zBQ (s:Int) 64 (WO s s)=(zyL s).reverse)&&(zyL s).all (fun a=>zhT s a==s-a))=true:=kA
theorem zir (h1:KI a s=a)(h2:zhT s a=s-a):zaq cl s a=Jr cl s a:=by
 have g:∀ x,zCM cl x=Xf cl x:=fun x=>by
  unfold zCM Xf;rw [Bool.or_comm];congr 1;congr 1;funext y;exact jI.2 (by simp;exact eq_comm)
 unfold zaq Jr;rw [h1,h2,g,g];simp
theorem zfV (C:1<=s/\s<=63):(zaD cl s).isSome= !(Qz cl s==0):=by
 obtain ⟨n,rfl⟩:∃ n:Nat,s=(n:Int):=⟨s.toNat,kB⟩;have r:=jk.1 zpE n (jq.2 kB);rw [ji,jG] at r;have l:=jk.1 r.2
 have u:(zaD cl n).isSome=(zyL n).any (zaq cl n):=by
  unfold zaD;rw [zaf,r.1];exact jI.2 (by rw [List.find?_isSome,jD];simp)
 have w:(zyL n).any (zaq cl n)=(List.range' 1 (n-1)).any (fun k:Nat=>Jr cl n k):=by
  unfold zyL at l ⊢;rw [jI,jD,jD];constructor
  ·rintro ⟨a,j,g⟩;have q:=l a j;rw [jP,jt] at j;obtain ⟨⟨k,h,rfl⟩,h2⟩:=j;exact ⟨k,h,by rw [<-zir (by simpa using h2) (by simpa using q)];exact g⟩
  ·rintro ⟨k,h,g⟩
   have h2:KI (k:Int) n=k:=by
    unfold Jr at g;simp only [ji,jW] at g;exact g.1.1.1
   have t:(k:Int)∈((List.range' 1 (n-1)).map (fun k:Nat=>(k:Int))).filter (fun a=>KI a n==a):=jP.2 ⟨jt.2 ⟨k,h,U⟩,by simpa using h2⟩;exact ⟨k,t,by rw [zir h2 (by simpa using l _ t)];exact g⟩
 rw [u,w];unfold Qz Jd;rw [show (n:Int).toNat -1=n-1 by omega]
 cases e:(List.range' 1 (n-1)).find? (fun k:Nat=>Jr cl n k) with
 | none=>
  rw [OR] at e;simp only [beq_self_eq_true,BW];rw [jL];exact e
 | some k=>
  have h:=O4 e;have g:=Bl e;rw [List.mem_range'] at h;obtain ⟨i,E,y⟩:=h;have:((k:Int)==0)=false:=AX kB;simp only [this,Bool.not_false];exact jD.2 ⟨k,O4 e,g⟩
def zns (o:List Int)(k:Nat)(l:Int):Prop:=(k=0->l=0)/\∀ y,o[k-1]? =some y->k≠0->l=y/\1<=y
variable{l:Int}
theorem ziU {x b:Int}(h:o[k]? =some x)(g:zns o k l):Kk (b-1) o k= !(decide (x<=l)||decide (x>=b)):=by
 unfold Kk;rw [QJ h]
 cases k with
 | zero=>
  rw [g.1 rfl];simp only [show decide (((0:Nat):Int)>0)=false from U,Az,OQ];congr 1;rw [jI];simp;omega
 | succ k=>
  have j:=(jc.1 h).1;have i:o[k]? =some (o[k]' kB):=jf _;obtain ⟨e,h1⟩:=g.2 _ (by rw [AH];exact i) kB;rw [show (((k+1:Nat):Int)-1).toNat=k by omega,QJ i,<-e];rw [<-e] at h1;congr 1;rw [jI];simp;omega
theorem zk0 {x:Int}(i:o[k]? =some x)(_j:zns o k l)(h:l<x)(h0:0<=l):zns o (k+1) x:=
 ⟨fun h=>kB,fun y g _=>by rw [AH,i] at g;cases g;exact ⟨U,kB⟩⟩
theorem zf7 (i:zns o k l)(j:o.length=k)(q:(o.length:Int)=m-1)(h1:m>1):o.getD (m-2).toNat 0=l:=by have g:k≠0:=kB;have h:o[k-1]? =some (o[k-1]' kB):=jf _;rw [show (m-2).toNat=k-1 by omega,QJ h,(i.2 _ h g).1]
def iA (m:Int)(cl:List Int)(s:Int):Int:=if VY m cl s≠0 then 0 else zh9 cl s
def iB (m:Int)(cl:List Int)(s:Int):Int:=if VY m cl s≠0 then 0 else ziv cl s
theorem zqL (h:VY m cl s≠0):iA m cl s=0/\iB m cl s=0:=by unfold iA iB;rw [jb h,jb h];exact ⟨U,U⟩
theorem zF4 (h:VY m cl s=0):iA m cl s=zh9 cl s/\iB m cl s=ziv cl s:=by unfold iA iB;rw [ja kB,ja kB];exact ⟨U,U⟩
theorem zoM :cl.any (fun y=>s==y)=cl.any (fun c=>c==s):=by congr 1;funext y;exact jI.2 (by simp;exact eq_comm)
def zqO (rows:List (List Int)):Bool:=if rows.length>6 then decide ((rows.length:Int)<=20) else rows.all (fun r=> !(decide ((r.length:Int)>12)&&(decide ((r.length:Int)<=64)||decide ((r.length:Int)>100))))&&decide ((rows.length:Int)<=5)
theorem znT (t:Sl I 1 QF B n c o)(m:Int):kf 151 [.int .i64 m,.slice B n c] I (.int .i64 (VX m o)):=by
 intro g H w hw;refine qe Tryz.func151 Tryz.ntmps151 hw ?_;refine zR<|zA<|zN<|Qk<|Ql<|zR ?_;refine zM<|zC<|zA (zN ?_)
 refine zI ?_ ?_<;>intro Q
 ·have h6:m>6:=(by simpa using Q);exact zR (zA (zN (Qq (Qn (Qb<|zr U U (by rw [zuF h6]))))))
 have h6:¬m>6:=(by simpa using Q);refine zR (zM<|zC ?_);refine zM ?_;refine QI 2 U U U ?_;refine zJ (Qd U)<|zJ (Zs U Qt)<|zJ (Qd U) ?_
 refine zJ (Zf U U U (fun hg=>by (simp [ZH] at hg;omega)))<|zJ (Qx U U U) ?_
 refine Q5 U U U U U ?_;refine zA<|zN ?_;refine zI ?_ ?_<;>intro V
 ·have q:(decide (m<1)||decide ((o.length:Int)≠m-1))=true:=(by rw [t.len];simpa using V);exact zR (zA (zN (Qq (Qn (Qb<|zr U U (by rw [zv4 h6 q]))))))
 have q:(decide (m<1)||decide ((o.length:Int)≠m-1))=false:=(by rw [t.len];simpa using V);have hm:1<=m/\m<=6/\(n:Int)=m-1:=(by rw [t.len] at q;simp at q;omega);have hn:n<=100000:=kB;have a6:=zbX ⟨hm.1,hm.2.1⟩;have a5:=KQ ⟨hm.1,hm.2.1⟩;refine Qm (Qg (Qa (zR (zA (zN (Qk (zR<|zM ?_)))))));refine zQ Qt ?_;refine zM<|zN<|Ql ?_;refine zU [(0,_),(1,_),(26,_),(27,_)] (fun T L0 mz E A r=>∃ (k:Nat) (l:Int),mz=n-k/\E=(5,.int .i64 l)::(28,.int .i64 k)::T/\I=A/\L0=r/\k<=n/\(List.range k).all (Kk (ZS m) o)=true/\zns o k l/\0<=l) ?_ (h:=⟨0,0,U,U,U,U,jd _,U,⟨fun _=>U,fun _ _ h=>absurd U h⟩,AC _⟩);rintro mz E A r ⟨k,l,rfl,rfl,rfl,rfl,hk,P,hl,a3⟩;refine zR<|zC<|zN<|Qk ?_;refine zI ?_ ?_<;>intro W
 ·have j:k<n:=kd W;obtain ⟨x,M⟩:=t.at j;refine Qm (Qa (Qk (Ql (zR<|zV (Qs U U Qt kE (fun hg=>kB)) ?_))));refine zV (Qc U Qr (fun hg=>by exact zJA t M U))<|zA (zN (Qk (zR ?_)))
  refine zM ?_;refine zM<|zC ?_
  refine zM ?_;refine QI 3 U U U ?_;refine zJ (Qd U) ?_;refine zJ (Qd U) ?_;refine zJ (U7 U U (fun hg=>kB)) ?_;refine zJ (Qx U U U) ?_;refine Q5 U U U U U<|zN ?_
  refine zI ?_ ?_<;>intro y
  ·refine zR (zA (zN (Qq (Qb (Qn (Qb (Qb<|Qn (Qb ?_))))))))
   first
   | exact zr U U (by rw [zt0 h6 q (by rw [t.len];exact Y9 j (by unfold ZS;rw [ziU M hl,y];rfl))])
  have a4:l<x:=(by simp at y;omega);refine Qm (Qa (Qh (zM<|zA (Qe (Qg (Qa (Qh<|zB<|zM (Qe ?_))))))));exact zm (h:=⟨n-(k+1),kB,k+1,x,U,U,U,U,kB,YT P (by unfold ZS;rw [ziU M hl,y];rfl),zk0 M hl a4 a3,kB⟩)
 have G:n<=k:=kd W;have i:(List.range o.length).all (Kk (ZS m) o)=true:=(by rw [t.len,show n=k by omega];exact P);have a1:n=k:=kB;refine Qy (Qf (Qf (Qj (Qa (Qk (zR (zM<|zC ?_)))))));refine zM ?_;refine Qw 2 U U U ?_;refine zK (Qd U) ?_;refine zK (Qd U)<|zK (U7 U U (fun hg=>kB))<|zK (Zf U U U (fun hg=>kB))<|zK (Qx U U U) ?_
 refine QC U U U U U<|zN ?_
 refine zI ?_ ?_<;>intro F
 ·have J:(decide (m>1)&&decide (o.getD (m-2).toNat 0≠ZS m))=true:=(by have h:=F;simp only [ji,jG] at h;rw [zf7 hl (by rw [t.len];exact a1) (by rw [t.len];exact hm.2.2) h.1];unfold ZS;simpa using F);exact zR (zA (zN (Qq (Qb<|zr U U (by rw [zvi h6 q i J])))))
 have J:(decide (m>1)&&decide (o.getD (m-2).toNat 0≠ZS m))=false:=(Bn (m>1)).elim (fun h1=>by rw [zf7 hl (by rw [t.len];exact a1) (by rw [t.len];exact hm.2.2) h1];unfold ZS;simpa using F) (fun h1=>by rw [jX h1];rfl);refine Qm (Qa (Qk (zR (zM<|zQ Qt ?_))));refine zM<|zN<|Ql ?_;refine zU [(1,_),(52,_),(53,_)] (fun T L0 mz E A r=>∃ (k:Nat),mz=n-k/\E=(54,.int .i64 k)::T/\I=A/\L0=r/\k<=n/\(o.take k).any (fun c=>Qz o c==0)=false) ?_ (h:=⟨0,U,U,U,U,jd _,U⟩);rintro mz E A r ⟨k,rfl,rfl,rfl,rfl,hk,Z⟩;refine zR<|zC<|zN<|Qk ?_;refine zI ?_ ?_<;>intro Y
 ·have j:k<n:=kd Y;obtain ⟨x,M⟩:=t.at j;have a7:=zbE i M;have a2:=zfV (cl:=o) (s:=x) kB;refine Qm (Qa (Qk (Ql (zR<|zV (Qs U U Qt kE (fun hg=>kB)) ?_))));refine zV (Qc U Qr (fun hg=>by exact zJA t M U))<|zA<|zN (zR ?_)
  refine zM ?_;refine zM ?_;refine qcV (vs:=[_,_]) U zid (zhJ t hn x kB)<|zM ?_
  refine zE ?_;refine zE ?_;refine zE ?_;refine zA<|zA<|zA<|zN (zR ?_)
  refine zM<|zO (zN ?_)
  refine zI ?_ ?_<;>intro u
  ·have a0:(Qz o x==0)=true:=(by rw [a2] at u;simpa using u);refine zR (zA (zN (Qq (Qn (Qb (Qb (Qn<|Qb ?_)))))))
   first
   | exact zr U U (by rw [zkq h6 q i J,YN M a0];rfl)
  have a0:(Qz o x==0)=false:=(by rw [a2] at u;simpa using u);exact Qm (Qg (Qa (Qh (zB<|zM (Qe<|zm (h:=⟨n-(k+1),kB,k+1,U,U,U,U,kB,Z3 M Z a0⟩))))))
 have G:n<=k:=kd Y;rw [QZ t.len G] at Z;refine Qy (Qf (Qf (Qj (Qa (zR (zA (zN<|Qq ?_)))))))
 first
 | exact zr U U (by rw [zkq h6 q i J,Z];rfl)
theorem zzz (y:Sl I 1 QF B n c o)(E:n<=100000)(m s:Int):kf 94 [.int .i64 m,.slice B n c,.int .i64 s] I (.tuple #[.int .i64 (iA m o s),.int .i64 (iB m o s),.int .i64 (VY m o s)]):=by
 intro g H w t;refine qe Tryz.func94 Tryz.ntmps94 t ?_;refine zR (zA<|zA<|zA (zN (Qk (zR ?_))));refine zM ?_;refine zM ?_;refine qcV (vs:=[_,_]) U zpC (znT y _) ?_;refine zA<|zN (zR ?_)
 refine zM<|zC (zN ?_)
 refine zI ?_ ?_<;>intro i
 ·have j:=zln (s:=s) (show VX m o≠0 by simpa using i);have h:=zqL (show VY m o s≠0 by rw [j];simpa using i);exact zR (zM<|zA<|zA<|zA (zN (Qq (Qb<|Jo U U U U (fun w t=>⟨by rw [h.1,h.2,j],t.drop⟩)))))
 have r:VX m o=0:=(by simpa using i);refine Qm<|Qa<|Qk<|zR<|zM ?_;refine zM ?_;refine qcV (vs:=[_,_]) U zge (Ue y E _)<|zO (zN ?_)
 refine zI ?_ ?_<;>intro q
 ·have j:=zhj (s:=s) r (by rw [<-zoM];simpa using q);have h:=zqL (show VY m o s≠0 by rw [j];decide);exact zR (zA<|zA<|zA (zN (Qq (Qb<|Jo U U U U (fun w t=>⟨by rw [h.1,h.2,j],t.drop⟩)))))
 have u:o.any (fun c=>c==s)=true:=(by rw [<-zoM];simpa using q);have j:=zfS r u;have h:=zF4 j;have C:=(ZJ r).2.2.2 s (by simpa using u);refine Qm<|Qa<|zR<|zM ?_;refine zM ?_;refine qcV (vs:=[_,_]) U zid (zhJ y E s kB)<|zM ?_
 refine zE ?_;refine zE ?_;refine zE ?_;refine zA<|zA<|zN (zR ?_)
 refine zM ?_;refine zM<|zA<|zA<|zA (zN (Qq ?_))
 first
 | exact Jo U U U U (fun w t=>⟨by rw [h.1,h.2,j];rfl,t.drop⟩)
theorem zFM (I:Qu)(a:Option Addr)(n c:Nat):kf 197 [.slice a n c] I (.bool (decide ((n:Int)>64))):=by
 intro g H w h;refine qe Tryz.func197 Tryz.ntmps197 h ?_;refine zR (zA<|zN (zR ?_));refine zM ?_;refine zQ Qt<|zC<|zA (zN (Qq ?_))
 exact zr U U kL
theorem zxU (I:Qu)(v:Int):kf 198 [.int .i64 v] I (.bool (decide (v<0)||decide (v>8589934592))):=by
 intro g H w h;refine qe Tryz.func198 Tryz.ntmps198 h ?_;refine zR (zA<|zN (zR ?_));refine zM<|zC ?_
 refine zM ?_;refine QI 2 U U U ?_;refine zJ (Qd U) ?_;refine zJ (Qx U U U) ?_;refine Q5 U U U U U ?_;refine zA<|zN<|Qq ?_;exact zr U U kL
variable{F M:Nat}
theorem zrA (y:Sl I 1 Kv K F M C)(W:F<=100000):kf 100 [.slice K F M,.func (.func 197) #[] #[]] I (.int .i64 (KA (fun h:Hd=>decide ((h.n:Int)>64)) C)):=by
 intro g H w Q;refine qe Tryz.func100 Tryz.ntmps100 Q ?_;refine zR<|zA<|zN<|Qk<|zR ?_;refine zM ?_;refine zQ QM ?_;refine zM<|zN<|Ql ?_;refine zU [(0,_),(1,_),(7,_)] (fun T P J E A j=>∃ (k:Nat),J=F-k/\E=(8,.int .i64 k)::T/\I=A/\P=j/\k<=F/\(C.take k).any (fun h:Hd=>decide ((h.n:Int)>64))=false) ?_ (h:=⟨0,U,U,U,U,jd _,U⟩);rintro J E A j ⟨k,rfl,rfl,rfl,rfl,V,t⟩;refine zR<|zC<|zN<|Qk ?_;refine zI ?_ ?_<;>intro u
 ·have r:k<F:=kd u;obtain ⟨x,G⟩:=y.at r;refine Qm (Qa (Qk (Ql (zR (zM<|zA<|zN (zR ?_))))));refine zM ?_;refine zM ?_;refine zM ?_;refine zV (Qs U U QM kE (fun hg=>kB)) ?_;refine zV (Qc U QA (fun hg=>by exact zJA y G U))<|qcV (vs:=[_]) U zyZ (zFM I x.a x.n x.c)<|zN ?_
  refine zI ?_ ?_<;>intro i
  ·refine zR (zM<|zA (zN (Qq (Qn (Qb (Qb (Qn (Qb ?_))))))));exact zr U U (by rw [V5 t G i])
  exact Qm (Qg (Qa (Qh (zB<|zM (Qe<|zm (h:=⟨F-(k+1),kB,k+1,U,U,U,U,kB,Z3 G t i⟩))))))
 have q:F<=k:=kd u;exact Qy (Qf (Qf (Qj (Qa (zR (zA (zN<|Qq<|zr U U (by rw [VG y.len q t]))))))))
theorem zh4 (i:Sl I 1 Kv K F M C)(j:F<=100000):kf 53 [.slice K F M,.func (.func 197) #[] #[]] I (.bool (C.any (fun h:Hd=>decide ((h.n:Int)>64)))):=by
 intro g H w q;refine qe Tryz.func53 Tryz.ntmps53 q ?_;refine zR (zA<|zN (zR ?_));refine zM ?_;refine zM ?_;refine qcV (vs:=[_,_]) U zft (zrA i j)<|zC<|zA (zN (Qq ?_))
 first
 | exact zr U U (by rw [<-Ut])
theorem ztm (y:Sl I 1 QF B n c o)(W:n<=100000):kf 148 [.slice B n c,.func (.func 198) #[] #[]] I (.int .i64 (KA (fun v=>decide (v<0)||decide (v>8589934592)) o)):=by
 intro g H w Q;refine qe Tryz.func148 Tryz.ntmps148 Q ?_;refine zR<|zA<|zN<|Qk<|zR ?_;refine zM ?_;refine zQ Qt ?_;refine zM<|zN<|Ql ?_;refine zU [(0,_),(1,_),(7,_)] (fun T P J E A j=>∃ (k:Nat),J=n-k/\E=(8,.int .i64 k)::T/\I=A/\P=j/\k<=n/\(o.take k).any (fun v=>decide (v<0)||decide (v>8589934592))=false) ?_ (h:=⟨0,U,U,U,U,jd _,U⟩);rintro J E A j ⟨k,rfl,rfl,rfl,rfl,V,t⟩;refine zR<|zC<|zN<|Qk ?_;refine zI ?_ ?_<;>intro u
 ·have r:k<n:=kd u;obtain ⟨x,G⟩:=y.at r;refine Qm (Qa (Qk (Ql (zR (zM<|zA<|zN (zR ?_))))));refine zM ?_;refine zM ?_;refine zM ?_;refine zV (Qs U U Qt kE (fun hg=>kB)) ?_;refine zV (Qc U Qr (fun hg=>by exact zJA y G U))<|qcV (vs:=[_]) U zAL (zxU I _)<|zN ?_
  refine zI ?_ ?_<;>intro i
  ·refine zR (zM<|zA (zN (Qq (Qn (Qb (Qb (Qn (Qb ?_))))))));exact zr U U (by rw [V5 t G i])
  exact Qm (Qg (Qa (Qh (zB<|zM (Qe<|zm (h:=⟨n-(k+1),kB,k+1,U,U,U,U,kB,Z3 G t i⟩))))))
 have q:n<=k:=kd u;exact Qy (Qf (Qf (Qj (Qa (zR (zA (zN<|Qq<|zr U U (by rw [VG y.len q t]))))))))
theorem zhS (h:Sl I 1 QF B n c o)(i:n<=100000):kf 87 [.slice B n c,.func (.func 198) #[] #[]] I (.bool (o.any (fun v=>decide (v<0)||decide (v>8589934592)))):=by
 intro g H w j;refine qe Tryz.func87 Tryz.ntmps87 j ?_;refine zR (zA<|zN (zR ?_));refine zM ?_;refine zM ?_;refine qcV (vs:=[_,_]) U zpI (ztm h i)<|zC<|zA (zN (Qq ?_))
 first
 | exact zr U U (by rw [<-Ut])
def zda (v:Int):Bool:=decide (v<0)||decide (v>8589934592)
def zkM (w:Nat)(r:List Int):Bool:=decide ((r.length:Int)≠w)||r.any zda
def Vc (rows:List (List Int)):Int:=
 if decide ((rows.length:Int)>6)||rows.any (fun r=>decide ((r.length:Int)>64)) then 2 else if rows.length=0 then 420
 else if rows.any (zkM (rows.getD 0 []).length) then 420 else 0
variable{rows:List (List Int)}
theorem zna (h:(decide ((rows.length:Int)>6)||rows.any (fun r=>decide ((r.length:Int)>64)))=true):Vc rows=2:=by unfold Vc;rw [jb h]
theorem zu4 (h:(decide ((rows.length:Int)>6)||rows.any (fun r=>decide ((r.length:Int)>64)))=false)(h2:rows.length=0):Vc rows=420:=by unfold Vc;rw [ja (by rw [h];decide),jb h2]
theorem zf5 (h:(decide ((rows.length:Int)>6)||rows.any (fun r=>decide ((r.length:Int)>64)))=false)(h2:¬rows.length=0):Vc rows=if rows.any (zkM (rows.getD 0 []).length) then 420 else 0:=by unfold Vc;rw [ja (by rw [h];decide),ja h2]
theorem zo2 (h:(decide ((rows.length:Int)>6)||rows.any (fun r=>decide ((r.length:Int)>64)))=false)(g:v∈rows):v.length<=64:=by rw [jS] at h;have:=jL.1 h.2 v g;simp at this;omega
theorem zg5 (h:SlH I B n c C z)(p:Int->Bool):C.any (fun x:Hd=>p (x.n:Int))=z.any (fun r=>p (r.length:Int)):=by
 have w:=h.2.1;have i:∀ (k:Nat) (x:Hd) (v:List Int),C[k]? =some x->z[k]? =some v->v.length=x.n:=fun k x v a b=>(h.2.2 k x v a b).len;clear h;rw [jI,jD,jD];constructor
 ·rintro ⟨x,u,q⟩;obtain ⟨k,j⟩:=jU u;have g:z[k]? =some (z[k]'(by have:=(jc.1 j).1;omega)):=jf _;exact ⟨_,je g,by rw [i k _ _ j g];exact q⟩
 ·rintro ⟨v,t,q⟩;obtain ⟨k,j⟩:=jU t;have g:C[k]? =some (C[k]'(by have:=(jc.1 j).1;omega)):=jf _;exact ⟨_,je g,by rw [<-i k _ _ g j];exact q⟩
theorem zHb (J:SlN I B n c rows):kf 62 [.slice B n c] I (.bool (zqO rows)):=by
 intro g H w hw;refine qe Tryz.func62 Tryz.ntmps62 hw ?_;obtain ⟨C,J⟩:=J;have Q:=J.1;have y:=J.len;refine zR<|zA<|zN<|Qk<|zR ?_;refine zM ?_;refine zQ QM<|zC (zN ?_)
 refine zI ?_ ?_<;>intro P
 ·have h6:rows.length>6:=(by simp at P;omega);refine zR (zM<|zQ QM<|zC<|zA (zN (Qq (Qb ?_))))
  first
  | exact zr U U (by unfold zqO;rw [jb h6,y])
 have h6:¬rows.length>6:=(by simp at P;omega);refine Qm (Qa (Qk (zR (zA (zN (Ql<|zU [(0,_)] (fun T L0 Z E A t=>∃ (k:Nat),Z=n-k/\E=(3,.int .i64 k)::T/\I=A/\L0=t/\k<=n/\(rows.take k).all (fun r=> !(decide ((r.length:Int)>12)&&(decide ((r.length:Int)<=64)||decide ((r.length:Int)>100))))=true) ?_ (h:=⟨0,U,U,U,U,jd _,U⟩)))))));rintro Z E A t ⟨k,rfl,rfl,rfl,rfl,hk,i⟩;refine Qk (zR (zM<|zM ?_));refine zQ QM<|zC (zN ?_)
 refine zI ?_ ?_<;>intro j
 ·have G:k<n:=kd j;obtain ⟨x,v,V,Y,W⟩:=J.at G;refine Qm<|Qa<|Qk<|Ql<|zR<|zM ?_;refine zM ?_;refine zV (Qs U U QM kE (fun hg=>kB)) ?_;refine zV (Qc U QA (fun hg=>by exact zJA Q V U))<|zQ Qt<|zC ?_
  refine zM ?_;refine Qw 6 U U U ?_;refine zK (Qd U) ?_;refine zK (Qd U)<|zK (Qs U U QM kE (fun hg=>kB))<|zK (Qc U QA (fun hg=>by exact zJA Q V U))<|zK (Zs U Qt)<|zK (Qx U U U)<|zK (Qd U)<|QI 13 U U U ?_
  refine zJ (Qd U)<|zJ (Qd U)<|zJ (Qs U U QM kE (fun hg=>kB))<|zJ (Qc U QA (fun hg=>by exact zJA Q V U))<|zJ (Zs U Qt)<|zJ (Qx U U U)<|znD U U U (.some U U U U gbt) U U<|QC U U U U U<|zN ?_
  refine zI ?_ ?_<;>intro q
  ·refine zR (zA (zN (Qq (Qn (Qb (Qb (Qn<|Qb ?_)))))))
   first
   | exact zr U U (by unfold zqO;rw [ja h6,Bw.2 ⟨v,je Y,by rw [W.len,q];decide⟩];rfl)
  refine Qm<|Qg<|Qa<|Qh<|zM ?_;refine zB<|zA (Qe ?_)
  exact zm (h:=⟨n-(k+1),kB,k+1,U,U,U,U,kB,by rw [jz,Y,As,i,Option.toList_some,BX,List.all_nil,W.len,q];rfl⟩)
 have u:n<=k:=kd j;rw [QZ y u] at i;refine Qy (Qf (Qf (Qj (Qa (zR (zM<|zQ QM<|zC<|zA (zN (Qq ?_))))))))
 first
 | exact zr U U (by unfold zqO;rw [ja h6,i,y];rfl)
theorem zxw (i:SlN I B n c rows)(hn:n<=100000):kf 150 [.slice B n c] I (.int .i64 (Vc rows)):=by
 intro g H w hw;refine qe Tryz.func150 Tryz.ntmps150 hw ?_;obtain ⟨C,i⟩:=i;have Y:=i.1;have Q:=i.len;refine zR<|zA<|zN<|Qk<|zR ?_;refine zM ?_;refine zQ QM<|zC ?_
 refine zM ?_;refine QI 3 U U U ?_;refine zJ (Qd U)<|qf (vs:=[_,_]) U zwr (fun hg=>zh4 Y hn)<|Q5 U U U U U<|zN ?_
 refine zI ?_ ?_<;>intro j
 ·have h1:(decide ((rows.length:Int)>6)||rows.any (fun r=>decide ((r.length:Int)>64)))=true:=(by rw [Q,<-zg5 i (fun q=>decide (q>64))];exact j);exact zR (zA (zN (Qq (Qb<|zr U U (by rw [zna h1])))))
 have h1:(decide ((rows.length:Int)>6)||rows.any (fun r=>decide ((r.length:Int)>64)))=false:=(by rw [Q,<-zg5 i (fun q=>decide (q>64))];exact j);refine Qm (Qa (Qk (zR (zM<|zQ QM<|zC (zN ?_)))));refine zI ?_ ?_<;>intro t
 ·have h2:rows.length=0:=(by simp at t;omega);exact zR (zA (zN (Qq (Qb<|zr U U (by rw [zu4 h1 h2])))))
 have h2:¬rows.length=0:=(by simp at t;omega);obtain ⟨x0,v0,a2,a1,a0⟩:=i.at (show 0<n by omega);refine Qm (Qa (Qk (zR (zM<|zQ QM ?_))));refine zM<|zN<|Ql ?_;refine zU [(0,_),(15,_),(16,_)] (fun T L0 mz E A J=>∃ (k:Nat),mz=n-k/\E=(17,.int .i64 k)::T/\I=A/\L0=J/\k<=n/\(rows.take k).any (zkM (rows.getD 0 []).length)=false) ?_ (h:=⟨0,U,U,U,U,jd _,U⟩);rintro mz E A J ⟨k,rfl,rfl,rfl,rfl,hk,W⟩;refine zR<|zC<|zN<|Qk ?_;refine zI ?_ ?_<;>intro u
 ·have V:k<n:=kd u;obtain ⟨x,v,hx,hv,Z⟩:=i.at V;have G:zkM (rows.getD 0 []).length v=(((x.n:Int) != (x0.n:Int))||v.any zda):=(by unfold zkM;rw [QJ a1,Z.len,a0.len];congr 1;exact jI.2 kJ);refine Qm (Qa (Qk (Ql (zR<|zV (Qs U U QM kE (fun hg=>kB)) ?_))));refine zV (Qc U QA (fun hg=>by exact zJA Y hx U))<|zA<|zN (zR ?_)
  refine zM ?_;refine zQ Qt ?_;refine zM ?_;refine zV (Qs U U QM kE (fun hg=>kB)) ?_;refine zV (Qc U QA (fun hg=>by exact zJA (k:=0) Y a2 U))<|zQ Qt<|zC ?_
  refine zM ?_;refine QI 7 U U U ?_;refine zJ (Qd U)<|qf (vs:=[_,_]) U znr (fun hg=>zhS Z (by rw [<-Z.len];have:=zo2 h1 (je hv);omega))<|Q5 U U U U U<|zN ?_
  refine zI ?_ ?_<;>intro y
  ·refine zR (zA (zN (Qq (Qn (Qb (Qb (Qn<|Qb ?_)))))))
   first
   | exact zr U U (by rw [zf5 h1 h2,YN hv (by rw [G];exact y)];rfl)
  refine Qm (Qg (Qa (Qh (zB<|zM (Qe ?_)))));exact zm (h:=⟨n-(k+1),kB,k+1,U,U,U,U,kB,Z3 hv W (by rw [G];exact y)⟩)
 have P:n<=k:=kd u;rw [QZ Q P] at W;refine Qy (Qf (Qf (Qj (Qa (zR (zA (zN<|Qq ?_)))))))
 first
 | exact zr U U (by rw [zf5 h1 h2,W];rfl)
variable{J:List D}{y:D}
theorem zpr {o:List D}(i:o[k]? =some x)(j:J[k]? =some y)(g:o.take k=J.take k)(h:x=y):o.take (k+1)=J.take (k+1):=by rw [jz,jz,i,j,g,h]
theorem zzY [DecidableEq D]{o:List D}(g:o[k]? =some x)(i:J[k]? =some y)(h:x≠y):ziH o J=false:=
 jX fun e=>h (by rw [e,i] at g;exact (Ob g).symm)
theorem zrJ [DecidableEq D]{o:List D}{m:Nat}(h1:o.length=n)(h2:J.length=m)(h:n≠m):ziH o J=false:=
 jX fun e=>h (by rw [<-h1,<-h2,e])
def Yk (f t:Int):Int:=if f=t then 0 else if t=0 then 1 else if f=0 then 4 else 2
theorem VO (f t:Int):0<=Yk f t/\Yk f t<=4:=by
 unfold Yk;split
 ·omega
 ·split
  ·omega
  ·split<;>omega
def zat (st G:List Int)(s:Int)(k:Nat):Int:=(List.range k).foldl (fun b i=>KY b (Yk s (st.getD i 0)+G.getD i 0)) 1048576
def YF (st G:List Int)(s:Int):Int:=zat st G s st.length
variable{G:List Int}
theorem zlj {g:List Int}{x y:Int}(h:g[k]? =some x)(i:G[k]? =some y):zat g G s (k+1)=KY (zat g G s k) (Yk s x+y):=by unfold zat;rw [Ok,Oh,Of,Bt,QJ h,QJ i]
def zGF:List Int->List Int->Bool
 | x::a,y::b=>if x≠y then decide (x<y) else zGF a b
 | _,_=>false
theorem ZA {o:List D}(h:o[k]? =some x):o.drop k=x::o.drop (k+1):=by obtain ⟨h1,h2⟩:=jc.1 h;rw [List.drop_eq_getElem_cons h1,h2]
def zd4 (n:Int):Int:=if n=0 then 1 else 0
theorem zCA (I:Qu)(f t:Int):kf 255 [.int .i64 f,.int .i64 t] I (.int .i64 (Yk f t)):=by
 intro g H w q;refine qe Tryz.func255 Tryz.ntmps255 q ?_;refine zR<|zA<|zN<|Qk<|zR ?_;refine zM ?_;refine zM<|zC (zN ?_)
 refine zI ?_ ?_<;>intro i
 ·refine zR<|zA<|zN<|Qq<|Qb ?_;exact zr U U (by unfold Yk;simp_all)
 refine Qm (Qa (Qk (zR (zM<|zC (zN ?_)))));refine zI ?_ ?_<;>intro j
 ·refine zR<|zA<|zN<|Qq<|Qb ?_;exact zr U U (by unfold Yk;simp_all)
 refine Qm (Qa (Qk (zR (zM<|zC (zN ?_)))));refine zI ?_ ?_<;>intro h
 ·refine zR<|zA<|zN<|Qq<|Qb ?_;exact zr U U (by unfold Yk;simp_all)
 refine Qm<|Qa<|zR<|zA<|zN<|Qq ?_;exact zr U U (by unfold Yk;simp_all)
theorem zlM (t:Sl I 1 QF B n c o)(W:Sl I 1 QF K F M G)(hn:n<=100000)(a0:n=F)(u:∀ y∈G,0<=y/\y<=1099511627776)(i:Nat)(hi:i<n):kf 240 [.slice B n c,.int .i64 i,.slice K F M] I (.int .i64 (YF o G (o.getD i 0))):=by
 intro g H w hw;refine qe Tryz.func240 Tryz.ntmps240 hw ?_;obtain ⟨s0,h0⟩:=t.at hi;rw [QJ h0];refine zR (zA<|zN (zR<|zA (zN (Qk (zR<|zA (zN (Ql ?_)))))));refine zU [(0,_),(1,_),(2,_)] (fun T L0 mz E A q=>∃ (k:Nat) (b:Int),mz=n-k/\E=(7,.int .i64 b)::(8,.int .i64 k)::T/\I=A/\L0=q/\k<=n/\b=zat o G s0 k) ?_ (h:=⟨0,_,U,U,U,U,jd _,U⟩);rintro mz E A q ⟨k,b,rfl,rfl,rfl,rfl,hk,Y⟩;refine Qk (zR (zM<|zM ?_));refine zQ Qt<|zC (zN ?_)
 refine zI ?_ ?_<;>intro j
 ·have r:k<n:=kd j;obtain ⟨x,Z⟩:=t.at r;obtain ⟨y,P⟩:=W.at (show k<F by omega);refine Qm (Qa (Qk (Ql<|ZW mixed kA<|zq (Qd U)<|zq (Qd U)<|zq (Qd U)<|zq (Qs U U Qt kE (fun hg=>kB))<|zq (Qc U Qr (fun hg=>by exact zJA t h0 U))<|zq (Qd U)<|zq (Qd U)<|zq (Qs U U Qt kE (fun hg=>kB))<|zq (Qc U Qr (fun hg=>by exact zJA t Z U))<|YG (cap:=[]) (vs:=[_,_]) U U zAE (zCA I _ _) U U ?_)));refine zq (Qd U)<|zq (Qd U)<|zq (Qs U U Qt kE (fun hg=>kB))<|zq (Qc U Qr (fun hg=>by exact zJA W P U))<|zq (Zf U U U (fun _=>by have h1:=VO s0 x;have h2:=u y (je P);omega))<|zq (zgM U U)<|zq (ZE U)<|ZX ?_
  refine Qg<|Qa<|Qh<|zM ?_;refine zV (Zf U U U (fun _=>by have h1:=VO s0 x;have h2:=u y (je P);omega)) ?_;exact zA (Qe<|zm (h:=⟨n-(k+1),kB,k+1,_,U,U,U,U,kB,by rw [zlj Z P,Y]⟩))
 have Q:n<=k:=kd j;have V:k=n:=kB;refine Qy (Qf (Qf (Qj (Qa (zR (zM<|zA (zN (Qq ?_))))))));exact zr U U (by rw [Y,V,<-t.len];rfl)
theorem zBr (hV:SlN I B n c rows)(hn:n<=100000):kf 209 [.slice B n c] I (.int .i64 (Vc rows)):=by
 intro g H w hw;refine qe Tryz.func209 Tryz.ntmps209 hw ?_;obtain ⟨C,hV⟩:=hV;have hH:=hV.1;have V:=hV.len;refine zR<|zA<|zN<|Qk<|zR ?_;refine zM ?_;refine zQ QM<|zC (zN ?_)
 refine zI ?_ ?_<;>intro b3
 ·have h1:(decide ((rows.length:Int)>6)||rows.any (fun r=>decide ((r.length:Int)>64)))=true:=(by rw [V,b3];rfl);exact zR (zA (zN (Qq (Qb<|zr U U (by rw [zna h1])))))
 have h8:decide ((rows.length:Int)>6)=false:=(by rw [V];exact b3);refine Qm (Qa (Qk (zR (zA (zN (Ql<|zU [(0,_)] (fun T L0 mz E A q=>∃ (k:Nat),mz=n-k/\E=(3,.int .i64 k)::T/\I=A/\L0=q/\k<=n/\(rows.take k).any (fun r=>decide ((r.length:Int)>64))=false) ?_ (h:=⟨0,U,U,U,U,jd _,U⟩)))))));rintro mz E A q ⟨k,rfl,rfl,rfl,rfl,hk,b0⟩;refine Qk (zR (zM<|zM ?_));refine zQ QM<|zC (zN ?_)
 refine zI ?_ ?_<;>intro W
 ·have a9:k<n:=kd W;obtain ⟨x,v,hx,hv,Q⟩:=hV.at a9;refine Qm<|Qa<|Qk<|Ql<|zR<|zM ?_;refine zM ?_;refine zV (Qs U U QM kE (fun hg=>kB)) ?_;refine zV (Qc U QA (fun hg=>by exact zJA hH hx U))<|zQ Qt<|zC (zN ?_)
  refine zI ?_ ?_<;>intro Y
  ·have h1:(decide ((rows.length:Int)>6)||rows.any (fun r=>decide ((r.length:Int)>64)))=true:=(by rw [h8,YN hv (by rw [Q.len];exact Y)];rfl);exact zR (zA (zN (Qq (Qn (Qb (Qb (Qn<|Qb<|zr U U (by rw [zna h1]))))))))
  refine Qm<|Qg<|Qa<|Qh<|zM ?_;refine zB<|zA (Qe ?_)
  exact zm (h:=⟨n-(k+1),kB,k+1,U,U,U,U,kB,Z3 hv b0 (by rw [Q.len];exact Y)⟩)
 have a6:n<=k:=kd W;rw [QZ V a6] at b0;have h1:(decide ((rows.length:Int)>6)||rows.any (fun r=>decide ((r.length:Int)>64)))=false:=(by rw [h8,b0];rfl);refine Qy (Qf (Qf (Qj (Qa (Qk (zR (zM<|zQ QM<|zC (zN ?_))))))));refine zI ?_ ?_<;>intro Z
 ·have h2:rows.length=0:=(by simp at Z;omega);exact zR (zA (zN (Qq (Qb<|zr U U (by rw [zu4 h1 h2])))))
 have h2:¬rows.length=0:=(by simp at Z;omega);obtain ⟨x0,v0,b7,b5,b2⟩:=hV.at (show 0<n by omega);refine Qm (Qa (Qk (zR (zA (zN (Ql<|zU [(0,_)] (fun T L0 mz E A q=>∃ (i:Nat),mz=n-i/\E=(4,.int .i64 i)::T/\I=A/\L0=q/\i<=n/\(rows.take i).any (zkM (rows.getD 0 []).length)=false) ?_ (h:=⟨0,U,U,U,U,jd _,U⟩)))))));rintro mz E A q ⟨i,rfl,rfl,rfl,rfl,hi,P⟩;refine Qk (zR (zM<|zM ?_));refine zQ QM<|zC (zN ?_)
 refine zI ?_ ?_<;>intro a0
 ·have a7:i<n:=kd a0;obtain ⟨x,v,hx,hv,Q⟩:=hV.at a7;have b8:x.n<=100000:=(by rw [<-Q.len];have:=zo2 h1 (je hv);omega);refine Qm (Qa (Qk (Ql (Qk (Qk<|ZW mixed kA<|zq (Qd U)<|zq (Qd U)<|zq (Qs U U QM kE (fun hg=>kB))<|zq (Qc U QA (fun hg=>by exact zJA hH hx U))<|zq (Zs U Qt)<|zq (Qd U)<|zq (Qs U U QM kE (fun hg=>kB))<|zq (Qc U QA (fun hg=>by exact zJA (k:=0) hH b7 U))<|zq (Zs U Qt)<|zq (Qx U U U) ?_)))));refine ZX<|Qa ?_
  refine zI ?_ ?_<;>intro a1
  ·have t:zkM (rows.getD 0 []).length v=true:=(by unfold zkM;rw [QJ b5,Q.len,b2.len,jN (by simpa using a1)];rfl);refine zR (zA (zN (Qq (Qb (Qn (Qb (Qb<|Qn (Qb ?_))))))))
   first
   | exact zr U U (by rw [zf5 h1 h2,YN hv t];rfl)
  have b6:decide ((x.n:Int)≠(x0.n:Nat))=false:=jX (by simpa using a1);refine Qm (Qa (zR (zA (zN (Ql<|zU [(0,_),(4,_)] (fun T L0 mz E A q=>∃ (j:Nat),mz=x.n-j/\E=(5,.int .i64 j)::T/\I=A/\L0=q/\j<=x.n/\(v.take j).any zda=false) ?_ (h:=⟨0,U,U,U,U,jd _,U⟩))))));rintro mz E A q ⟨j,rfl,rfl,rfl,rfl,hj,b1⟩;refine Qk (zR (zM<|zM ?_));refine zM ?_;refine zV (Qs U U QM kE (fun hg=>kB)) ?_;refine zV (Qc U QA (fun hg=>by exact zJA hH hx U))<|zQ Qt<|zC (zN ?_)
  refine zI ?_ ?_<;>intro a2
  ·have a8:j<x.n:=kd a2;obtain ⟨u,hu⟩:=Q.at a8;refine Qm<|Qa<|Qk<|Ql<|zR<|zM ?_;refine zM ?_;refine zV (Qs U U QM kE (fun hg=>kB)) ?_;refine zV (Qc U QA (fun hg=>by exact zJA hH hx U))<|zM ?_
   refine zV (Qs U U Qt kE (fun hg=>kB)) ?_;refine zV (Qc U Qr (fun hg=>by exact zJA Q hu U))<|zC ?_
   refine zM ?_;refine QI 8 U U U ?_;refine zJ (Qd U)<|zJ (Qd U)<|zJ (Qs U U QM kE (fun hg=>kB))<|zJ (Qc U QA (fun hg=>by exact zJA hH hx U))<|zJ (Qd U)<|zJ (Qs U U Qt kE (fun hg=>kB))<|zJ (Qc U Qr (fun hg=>by exact zJA Q hu U)) ?_
   refine zJ (Qx U U U) ?_;refine Q5 U U U U U<|zN ?_
   refine zI ?_ ?_<;>intro a3
   ·have t:zkM (rows.getD 0 []).length v=true:=(by unfold zkM;rw [YN hu (by unfold zda;exact a3),BE]);refine zR (zA (zN (Qq (Qn (Qb (Qb (Qn<|Qn (Qb (Qb (Qn (Qb ?_)))))))))))
    first
    | exact zr U U (by rw [zf5 h1 h2,YN hv t];rfl)
   refine Qm<|Qg<|Qa<|Qh<|zM ?_;refine zB<|zA (Qe ?_)
   exact zm (h:=⟨x.n-(j+1),kB,j+1,U,U,U,U,kB,Z3 hu b1 (by unfold zda;exact a3)⟩)
  have a5:x.n<=j:=kd a2;rw [QZ Q.len a5] at b1;have b4:zkM (rows.getD 0 []).length v=false:=(by unfold zkM;rw [QJ b5,Q.len,b2.len,b6,b1];rfl);refine Qy<|Qf<|Qf<|Qj<|Qg<|Qa<|Qh<|zM ?_;exact zB<|zA (Qe<|zm (h:=⟨n-(i+1),kB,i+1,U,U,U,U,kB,Z3 hv P b4⟩))
 have a4:n<=i:=kd a0;rw [QZ V a4] at P;refine Qy (Qf (Qf (Qj (Qa (zR (zA (zN<|Qq ?_)))))))
 first
 | exact zr U U (by rw [zf5 h1 h2,P];rfl)
theorem zvl (I:Qu)(n:Int):kf 251 [.int .i64 n] I (.int .i64 (zd4 n)):=by
 intro g H w i;refine qe Tryz.func251 Tryz.ntmps251 i ?_;refine zR<|zA<|zN<|Qk<|zR ?_;refine zM<|zC (zN ?_)
 refine zI ?_ ?_<;>intro h
 ·refine zR<|zA<|zN<|Qq<|Qb ?_;exact zr U U (by unfold zd4;simp_all)
 refine Qm<|Qa<|zR<|zA<|zN<|Qq ?_;exact zr U U (by unfold zd4;simp_all)
end
end Go.Proofs.YtodakphagkommaaGreatDoor
section
namespace Go.Kn
open Go
section
variable {C:Cx} {E:Env} {I:Qu} {a:Loc} {S:GS} {b:Option Tmp} {f:TypeId} {d:String} {g:Array Edge} {h:Option (Nat×Bool)} {x y z:Operand}
end
end Go.Kn
namespace Go.Kn
open Go
section
variable {g:World} {I d H:Qu} {b a L R:Loc} {w f:World}
end
end Go.Kn
namespace Go.Kn
open Go
section
variable {C:Cx} {Q:Exit->Act->World->Prop} {E:Env} {I:Qu} {a:Loc} {b:Array Oper} {rest:List Oper} {d:Nat} {g:TypeId} {f:String} {h:Array Edge} {i:Option (Nat×Bool)} {x y:Operand}
end
end Go.Kn
namespace Go.Kn
open Go
section
variable {C:Cx} {Q:Exit->Act->World->Prop} {E:Env} {I:Qu} {a:Loc} {b:Array Oper} {rest:List Oper} {d:Nat} {g:TypeId} {f:String} {h:Array Edge} {i:Option (Nat×Bool)} {x y:Operand}
end
section
variable {C:Cx} {S:GS} {E:Env} {I:Qu} {a:Loc} {d:Option Tmp} {g:TypeId} {f:String} {j:Array Edge} {l:Option (Nat×Bool)} {x y:Operand}
theorem QD {t e o b n c:Nat}{k:IntKind}{i:Int}(r:QB S E x=some (.slice (some ⟨b,0,none⟩) n c))(s:QB S E y=some (.int k i))(p:SlT C.P t e o)(q:ZH S=true->0<=i/\i<(n:Int)):
  Q2 C S E I a ⟨d,.indexAddr t x y,g,f,j,l⟩ (.pointer (some ⟨b,i.toNat*o,none⟩)):=by
 have h:=zaZ (I:=I) (loc:=a) (dst:=d) (ty:=g) (pos:=f) (af:=j) (gd:=l) r s p q;rwa [Oj] at h
end
theorem OwnS.spot {z:Type}{e a n k:Nat}{d:z->List Value}{v:Value}{f:List z}{x:z}{L:Loc}(B:OwnS e a v n (f.flatMap d) L)(j:∀ x,(d x).length=a)(u:0<a)(M:f[k]? =some x):
  k<n/\∃ b c h,v= .slice (some ⟨b,0,none⟩) n c/\L=[(b,.cells (h:List Value).toArray e (0,0))]/\(h.drop (k*a)).take a=d x/\k*a+a<=h.length/\
   ∀ y,OwnS e a v n ((f.set k y).flatMap d) [(b,.cells (Jt h (k*a) (d y)).toArray e (0,0))]:=by
 obtain ⟨J,w⟩:=jc.1 M;have C:=B.1;rw [ZF j] at C;have K:f.length=n:=AN u C;rcases B.2 with ⟨_,h2,_⟩ | ⟨b,c,h,h1,h2,h3,h4,h5,h6⟩
 ·omega
 obtain ⟨g⟩:=h;simp only [OH] at h5 h6
 have q:f=f.take k++x::f.drop (k+1):=by
  rw [<-w,<-List.drop_eq_getElem_cons J,jT]
 have s:(k+1)*a<=n*a:=Av _ kB;have H:n*a<=c*a:=Av _ h3;rw [O9,By] at s;have r:((f.take k).flatMap d).length=k*a:=by rw [ZF j,jJ];congr 1;omega
 have t:g.take (n*a)=(f.take k).flatMap d++(d x++(f.drop (k+1)).flatMap d):=by
  rw [h6];conv=>lhs;rw [q];rw [jh,jV]
 have o:g=(f.take k).flatMap d++(d x++((f.drop (k+1)).flatMap d++g.drop (n*a))):=by
  conv=>lhs;rw [<-jT (n*a) g]
  rw [t];simp only [js]
 have i:g.drop (k*a)=d x++((f.drop (k+1)).flatMap d++g.drop (n*a)):=by
  conv=>lhs;rw [o]
  rw [<-r];exact BR
 refine ⟨kB,b,c,g,h1,h2,?_,kB,fun y=>⟨?_,.inr ⟨b,c,_,h1,U,h3,h4,?_,?_⟩⟩⟩
 ·rw [i,<-j x];exact A6
 ·rw [ZF j,AL];omega
 ·have p:=Ub (A:=g) (off:=k*a) (n:=a) (vs:=d y) kB (j y);rw [OH,p];simp only [jj,jJ,Oy,j];omega
 ·have p:=Ub (A:=g) (off:=k*a) (n:=a) (vs:=d y) kB (j y)
  have D:g.take (k*a)=(f.take k).flatMap d:=by
   conv=>lhs;rw [o]
   rw [<-r];exact A6
  have E:g.drop (k*a+a)=(f.drop (k+1)).flatMap d++g.drop (n*a):=by
   have I:∀ l:List Value,List.drop a (d x++l)=l:=fun l=>(by rw [<-j x];exact BR);rw [<-Aa,i,I]
  rw [p,D,E]
  have F:(f.set k y).flatMap d=(f.take k).flatMap d++(d y++(f.drop (k+1)).flatMap d):=by
   rw [AQ,jb kB,jh,jV]
  have G:((f.set k y).flatMap d).length=n*a:=(by rw [ZF j,AL];omega);show List.take (n*a) ((f.take k).flatMap d++(d y++((f.drop (k+1)).flatMap d++g.drop (n*a))))=_;rw [<-js (d y),<-js,<-F,<-G];exact A6
theorem OwnS.spot1 {g:Type}{e n k:Nat}{d:g->List Value}{u:g->Value}{v:Value}{i:List g}{x:g}{L:Loc}(p:OwnS e 1 v n (i.flatMap d) L)(f:∀ x,d x=[u x])(q:i[k]? =some x):
  k<n/\∃ b c a,v= .slice (some ⟨b,0,none⟩) n c/\L=[(b,.cells (a:List Value).toArray e (0,0))]/\(∀ (I:Qu) (l:Loc),QO I ((b,.cells a.toArray e (0,0))::l) b (((k:Nat):Int).toNat*1) (u x))/\Nat.blt (((k:Nat):Int).toNat*1) a.toArray.size=true/\
   ∀ y,OwnS e 1 v n ((i.set k y).flatMap d) [(b,.cells (a.toArray.setIfInBounds (((k:Nat):Int).toNat*1) (u y)) e (0,0))]:=by
 obtain ⟨h1,b,c,a,h2,h3,h4,h5,h6⟩:=p.spot (fun x=>by rw [f];rfl) kC q;have j:k<a.length:=kB
 have h:a[k]? =some (u x):=by
  have:=jA (fun l:List Value=>l[0]?) h4;simpa [f] using this
 refine ⟨h1,b,c,a,h2,h3,fun I l=>?_,?_,fun y=>?_⟩
 ·refine zJC ?_;rw [Ve];show a[k*1]? =_;rw [Om];exact h
 ·show Nat.blt (k*1) a.length=true;rw [Om,AW];exact j
 ·have h7:=h6 y;rw [Ub (by rw [f];simp;omega) rfl] at h7
  have o:a.toArray.setIfInBounds (((k:Nat):Int).toNat*1) (u y)=(a.take (k*1)++(d y++a.drop (k*1+(d y).length))).toArray:=by
   show a.toArray.setIfInBounds (k*1) (u y)=_;rw [f,Om,Aj,AQ,jb j];rfl
  rw [o];exact h7
end Go.Kn
end
namespace Go.Proofs.YtodakphagkommaaGreatDoor
section
open Go Go.Kn Go.Proofs
variable{n:Nat}{J:List Value}
theorem _root_.Go.Kn.OwnS.lit {e size b:Nat}(h:J.length=n*size)(a:n<=maxLen):OwnS e size (.slice (some ⟨b,0,none⟩) n n) n J [(b,.cells J.toArray e (0,0))]:=
 ⟨h,.inr ⟨b,n,_,U,U,jn _,a,by simp [h],by rw [<-h];simp⟩⟩
theorem zaV {e d:Nat}{v:Value}{j:List Value}{L:Go.Kn.Loc}(h:OwnS e d v n j L):∃ a c,v= .slice a n c:=by
 rcases h.2 with ⟨h1,h2,_⟩ | ⟨b,c,f,h1,_⟩
 ·subst h2;exact ⟨_,_,h1⟩
 ·exact ⟨_,_,h1⟩
def stS (z:List Int)(n:Int):List Int:=if n==8589934592||z.any (fun x=>x==n) then z else z++[n]
def QG (rows:List (List Int))(l:Nat):List Int:=(rows.map fun r=>r.getD l 0).foldl stS [0]
variable{rows:List (List Int)}{l k:Nat}{r:List Int}
theorem zfa (h:rows[k]? =some r):QG (rows.take (k+1)) l=stS (QG (rows.take k) l) (r.getD l 0):=by unfold QG;rw [jz,h,Od,Oh];rfl
variable{z:List Int}
theorem zp1 {n:Int}(h:(n==8589934592||z.any (fun x=>x==n))=true):stS z n=z:=by unfold stS;rw [jb h]
theorem zCN {n:Int}(h:(n==8589934592||z.any (fun x=>x==n))=false):stS z n=z++[n]:=by unfold stS;rw [ja (by rw [h];decide)]
theorem zdu :(QG rows l).length<=rows.length+1:=by
 have:∀ (a z:List Int),(a.foldl stS z).length<=a.length+z.length:=by
  intro a
  induction a with
  | nil=>intro z;simp
  | cons n a ih=>
   intro z;refine jO (ih _) ?_
   have:(stS z n).length<=z.length+1:=by
    unfold stS;split
    ·omega
    ·simp
   simp only [jx];omega
 have:=this (rows.map fun r=>r.getD l 0) [0];simpa [QG] using this
theorem QS:kp 23 3 1 8:=.of kA
variable{I:Qu}{C:Option Addr}{c:Nat}
theorem zes (t:SlN I C n c rows)(hn:n<=100000)(l:Nat)(hl:∀ r∈rows,l<r.length):kg 212 [.slice C n c,.int .i64 l] I [] (Jv 1 QF (QG rows l)):=by
 intro g H w hw;refine qe Tryz.func212 Tryz.ntmps212 hw ?_;have s:=zJH I;obtain ⟨A,t⟩:=t;have P:=t.1;have a2:=t.len;refine zR (zA<|zN (zR<|zpb [(0,_)] [QF (0:Int)] QS (fun G=>zA (zN (Qk (zR<|zA (zN (Ql ?_))))))));refine zU [(0,_),(1,_)] (fun T L0 N E O a=>∃ (i:Nat) (w9:Value) (q:Nat) (L:Go.Kn.Loc),N=n-i/\E=(5,w9)::(6,.int .i64 i)::T/\HLe I O/\L=a/\i<=n/\OwnS 3 1 w9 q ((QG (rows.take i) l).flatMap QF) L/\q<=i+1) ?_ (h:=⟨0,_,1,[(G,_)],U,U,zJH _,U,jd _,OwnS.lit U kC,jn _⟩);rintro N E J1 a ⟨i,w9,q,L,rfl,rfl,Q,rfl,hi,f,hq⟩;have P:=P.mono Q;have t:=t.mono Q;have s:=s.trans Q;have K:=Q;obtain ⟨va,vc,rfl⟩:=zaV f;refine Qk (zR (zM<|zM ?_));refine zQ QM<|zC (zN ?_)
 refine zI ?_ ?_<;>intro j
 ·have D:i<n:=kd j;obtain ⟨x,v,hx,hv,hQ⟩:=t.at D;have a4:=hl v (je hv);have hu:=QE (d:=0) U a4;have a8:=hQ.len;refine Qm<|Qa<|Qk<|Ql<|zR<|zM ?_;refine zM ?_;refine zV (zX QM P)<|zV (Qc U QA (fun hg=>by exact zJA P hx U))<|zM ?_
  refine zV (zX Qt hQ)<|zV (Qc U Qr (fun hg=>by exact zJA hQ hu U))<|zA<|zN (zR ?_)
  refine zM<|zC<|zA (zN (Qk (zR<|zA (zN (Ql ?_)))))
  refine zU [(0,_),(1,_),(5,_),(6,_),(7,_)] (fun T L0 N E O a=>∃ (k:Nat) (m:Bool),N=q-k/\E=(8,.bool m)::(9,.int .i64 k)::T/\J1=O/\L=a/\k<=q/\m=((v.getD l 0)==8589934592||((QG (rows.take i) l).take k).any (fun x=>x==(v.getD l 0)))) ?_ (h:=⟨0,_,U,U,U,U,jd _,by simp⟩);rintro N E O a ⟨k,m,rfl,rfl,rfl,rfl,hk,V⟩;refine Qk (zR (zM<|zM ?_));refine zQ Qt<|zC (zN ?_)
  refine zI ?_ ?_<;>intro o
  ·have a3:k<q:=kd o;have F:=f.1;rw [ZF QL] at F;obtain ⟨y,hy⟩:∃ y,(QG (rows.take i) l)[k]? =some y:=⟨_,jf kB⟩;obtain ⟨_,b,cc,a7,a5,rfl,a0,_,_⟩:=f.spot1 (u:=fun x=>.int .i64 x) (fun _=>U) hy;cases a5;refine Qm<|Qa<|Qk<|Ql<|Qh<|zM ?_;refine zM ?_;refine QI 1 U U U ?_;refine zJ (Qd U)<|zJ (Qd U)<|zJ (QD U U Qt (fun hg=>kB))<|zJ (Qc U Qr (fun hg=>by exact a0 _ _))<|zJ (Qd U)<|zJ (Qx U U U) ?_
   refine Q5 U U U U U<|zA (Qe (Qg (Qa (Qh<|zM ?_))))
   exact zB<|zA (Qe<|zm (h:=⟨q-(k+1),kB,k+1,_,U,U,U,U,kB,by rw [zbI hy,V,AU]⟩))
  have a1:q<=k:=kd o;have F:=f.1;rw [ZF QL] at F;rw [jr kB] at V;refine Qy (Qf (Qf (Qj (Qa (zR (zM<|zO (zN ?_)))))));refine zI ?_ ?_<;>intro p
  ·refine Qh (zM<|zM ?_);refine zpb [(0,_)] [QF (v.getD l 0)] QS (fun a6=>?_);refine zpa (_) ([v.getD l 0].flatMap QF) (L) U U QS f ⟨U,fun _=>U,zJF⟩ (YJ [v.getD l 0]) ?_;intro v9 L9 M _;rw [<-jh] at M;refine zA (Qe (Qg (Qa (Qh<|zM ?_))));refine zB<|zA (Qe ?_)
   first
   | exact zm (h:=⟨n-(i+1),kB,i+1,_,_,_,U,U,K,U,kB,by rw [zfa hv,zCN (by rw [<-V];simpa using p)];exact M,kB⟩)
  refine Qm<|Qg<|Qa<|Qh<|zM ?_;refine zB<|zA (Qe ?_)
  first
  | exact zm (h:=⟨n-(i+1),kB,i+1,_,_,_,U,U,K,U,kB,by rw [zfa hv,zp1 (by rw [<-V];simpa using p)];exact f,kB⟩)
 have B:n<=i:=kd j;rw [QZ a2 B] at f;refine Qy (Qf (Qf (Qj (Qa (zR (zM<|zA (zN (Qq ?_))))))));exact Zc U U (fun w hw=>by obtain ⟨I9,W,Y,Z⟩:=OwnS.res f QL kC hw;exact ⟨_,I9,[],U,s.trans W,Y,Z⟩)
variable{K:Type}
theorem Z0 {j:List K}{x:K}(h:j[k]? =some x):j.take (k+1)=j.take k++[x]:=by rw [jz,h];rfl
section
variable {d:Type} {f:d->d->Bool}
def zz4 (f:d->d->Bool):List d->List d->List d
 | a,[]=>a
 | a,y::b=>a.takeWhile (fun x=>f x y)++y::zz4 f (a.dropWhile fun x=>f x y) b
end
def ltI (a b:Int):Bool:=decide (a<b)
def zG1 (j ys:List Int)(s:Int):List Int:=zz4 ltI j ys++[s]
def JC (s:Int):Nat:=s.toNat.log2
def zGj (w:Int):Int:=IntKind.i64.wrap (1*2^(min w.toNat IntKind.i64.bits))
theorem zAU:((List.range 64).all fun s=>(List.range 7).all fun w=> !ZV (s:Int)|| !decide (w<=JC (s:Int))||(decide (zGj (w:Int)<(s:Int))==decide (w<JC (s:Int))))=true:=kA
variable{s:Int}{w:Nat}
theorem zug (A:1<=s/\s<=63)(h1:ZV s=true)(b:w<=JC s)(a:w<7):decide (zGj (w:Int)<s)=decide (w<JC s):=by have h:=jk.1 zAU s.toNat (jq.2 kB);have h:=jk.1 h w (jq.2 a);rw [show ((s.toNat:Nat):Int)=s by omega,h1] at h;simpa [b] using h
theorem zEM:((List.range 7).all fun n=>(List.range 64).all fun s=> !ZV (s:Int)|| !decide ((s:Int)<=ZS (n:Int))||decide (JC (s:Int)<n))=true:=kA
theorem ztG (a:n<=6)(A:1<=s/\s<=63)(h1:ZV s=true)(h:s<=ZS (n:Int)):JC s<n:=by have h0:=jk.1 zEM n (jq.2 kB);have h0:=jk.1 h0 s.toNat (jq.2 kB);rw [show ((s.toNat:Nat):Int)=s by omega,h1] at h0;simpa [h] using h0
variable{cl:List Int}{a:Nat}
theorem zau {c:Int}(h:Jd cl c a≠0)(d:1<=a):1<=Jd cl c a/\Jd cl c a<c/\Jr cl c (Jd cl c a)=true:=by
 unfold Jd at h ⊢
 cases b:(List.range' a (c.toNat -a)).find? (fun k:Nat=>Jr cl c (k:Int)) with
 | none=>rw [b] at h;exact absurd U h
 | some k=>
  have h1:=Bl b;have h2:=Bx.1 (O4 b);exact ⟨by show 1<=(k:Int);omega,by show (k:Int)<c;omega,h1⟩
theorem zs5 (h:1<=s/\s<=63):IntKind.i64.wrap (s-1)=s-1:=zct kB
def OkS (n:Nat)(cl:List Int)(s:Int):Prop:=1<=s/\s<=ZS (n:Int)/\Xf cl s=true
variable{m:Int}
theorem WH (h:VX m cl=0):∀ c∈cl,Qz cl c≠0:=by
 intro c b A;unfold VX at h
 repeat (split at h; · cases h)
 rename_i h5;exact h5 (jD.2 ⟨c,b,by simp [A]⟩)
theorem zdN (j:VX n cl=0)(h:OkS n cl s)(h1:(KI s (IntKind.i64.wrap (s-1))==0)=false):OkS n cl (Qz cl s)/\OkS n cl (s-Qz cl s)/\1<=Qz cl s/\Qz cl s<s:=by
 obtain ⟨h2,h3,h4⟩:=h
 have f:s∈cl:=by
  unfold Xf ZV at h4;rw [h1,OP,OQ,jD] at h4;obtain ⟨c,d,e⟩:=h4;have:c=s:=by simpa using e
  exact this ▸ d
 obtain ⟨g,i,b⟩:=zau (WH j s f) (jn 1);unfold Jr at b;simp only [ji] at b;exact ⟨⟨g,by show Jd cl s 1<=_;omega,b.1.2⟩,⟨by show 1<=s-Jd cl s 1;omega,by show s-Jd cl s 1<=_;omega,b.2⟩,g,i⟩
theorem zBs (d:n<=6)(h:OkS n cl s)(b:s<=63)(h1:(KI s (IntKind.i64.wrap (s-1))==0)=true):ZV s=true/\JC s<n:=by have A:ZV s=true:=(by unfold ZV;rw [h1,jN (show s>0 by have:=h.1;omega)];rfl);exact ⟨A,ztG d ⟨h.1,b⟩ A h.2.1⟩
def Y1 (u x:Int):Int:=if decide (u≠8589934592)&&decide (u≠x) then 1048576 else 0
def QT (rows:List (List Int))(cl:List Int)(l:Nat):Nat->Int->List Int
 | 0,_=>[]
 | f+1,s=>
  if (KI s (IntKind.i64.wrap (s-1))==0)=true then (QG rows l).map (Y1 ((rows.getD (JC s) []).getD l 0))
  else (QG rows l).map fun x=>YF (QG rows l) (QT rows cl l f (Qz cl s)) x+YF (QG rows l) (QT rows cl l f (s-Qz cl s)) x
variable{f:Nat}
theorem Uc (h:(KI s (IntKind.i64.wrap (s-1))==0)=true):QT rows cl l (f+1) s=(QG rows l).map (Y1 ((rows.getD (JC s) []).getD l 0)):=by simp only [QT];rw [jb h]
def zk7 (st L R:List Int)(x:Int):Int:=YF st L x+YF st R x
theorem Wk (h:(KI s (IntKind.i64.wrap (s-1))==0)=false):QT rows cl l (f+1) s=(QG rows l).map (zk7 (QG rows l) (QT rows cl l f (Qz cl s)) (QT rows cl l f (s-Qz cl s))):=by simp only [QT];rw [ja (by rw [h];decide)];rfl
variable{st cs:List Int}
theorem zbF (h:∀ y∈cs,0<=y/\y<=1099511627776):0<=YF st cs s/\YF st cs s<=1048576:=by
 unfold YF
 have:∀ k,0<=zat st cs s k/\zat st cs s k<=1048576:=by
  intro k
  induction k with
  | zero=>unfold zat;simp
  | succ k ih=>
   have e:zat st cs s (k+1)=KY (zat st cs s k) (Yk s (st.getD k 0)+cs.getD k 0):=by
    unfold zat;rw [Ok,Oh,Of,Bt]
   rw [e];have h1:=(VO s (st.getD k 0)).1
   have h2:0<=cs.getD k 0:=by
    cases b:cs[k]? with
    | none=>simp [List.getD,b]
    | some y=>rw [QJ b];exact (h y (je b)).1
   unfold KY;split<;>omega
 exact this _
theorem V2 {rows:List (List Int)}{cl:List Int}{l:Nat}:∀ (f:Nat) (s:Int),∀ y∈QT rows cl l f s,0<=y/\y<=1099511627776
 | 0,_=>fun y b=>by cases b
 | f+1,s=>fun y b=>by
  cases h:(KI s (IntKind.i64.wrap (s-1))==0) with
  | true=>
   rw [Uc h,jt] at b;obtain ⟨x,_,rfl⟩:=b;unfold Y1;split<;>omega
  | false=>
   rw [Wk h,jt] at b;obtain ⟨x,_,rfl⟩:=b;have h1:=zbF (st:=QG rows l) (s:=x) (V2 (rows:=rows) (cl:=cl) (l:=l) f (Qz cl s));have h2:=zbF (st:=QG rows l) (s:=x) (V2 (rows:=rows) (cl:=cl) (l:=l) f (s-Qz cl s));unfold zk7;omega
theorem YU :(QT rows cl l (f+1) s).length=(QG rows l).length:=by
 cases h:(KI s (IntKind.i64.wrap (s-1))==0) with
 | true=>rw [Uc h,ju]
 | false=>rw [Wk h,ju]
def Zl (B:List Int):Array Value:=(B.flatMap QF).toArray
theorem KC (B:List Int):B.flatMap QF=B.map (Value.int .i64):=by
 induction B with
 | nil=>rfl
 | cons b B ih=>rw [jV,ih];rfl
theorem Y0 (B:List Int)(m:Nat)(b:Int):(Zl B).setIfInBounds ((m:Int).toNat*1) (.int .i64 b)=Zl (B.set m b):=by unfold Zl;rw [KC,KC,Om,Aj,B4];rfl
variable{B:List Int}
theorem zqU {m:Nat}(h:m<B.length):Nat.blt ((m:Int).toNat*1) (Zl B).size=true:=by unfold Zl;rw [OH,ZF QL,Om,Om];rw [AW];exact h
theorem Q8 (n:Nat):(List.replicate n (Value.int .i64 0)).toArray=Zl (List.replicate n 0):=by unfold Zl;rw [KC,BS]
theorem zbt {b e:Nat}(h:B.length=n)(d:n<=1000000):OwnS e 1 (.slice (some ⟨b,0,none⟩) n n) n (B.flatMap QF) [(b,.cells (Zl B) e (0,0))]:=
 OwnS.lit (by rw [ZF QL,h]) (by simp only [maxLen];omega)
def zc7 (st:List Int)(g:Int->Int)(k:Nat):List Int:=(st.take k).map g++List.replicate (st.length-k) 0
variable{g:Int->Int}
theorem znC (h:k<=st.length):(zc7 st g k).length=st.length:=by unfold zc7;rw [jj,ju,jJ,A5];omega
theorem zi1 :zc7 st g 0=List.replicate st.length 0:=by simp [zc7]
variable{x:Int}
theorem zhC (b:st[k]? =some x):(zc7 st g k).set k (g x)=zc7 st g (k+1):=by have d:=(jc.1 b).1;unfold zc7;rw [List.set_append_right _ _ kK,jz,b];rw [show st.length-k=st.length-(k+1)+1 by omega,List.replicate_succ];rw [show k-(List.map g (List.take k st)).length=0 by simp;omega,List.set_cons_zero];simp
theorem zsE (b:st[k]? =some x)(h:g x=0):zc7 st g k=zc7 st g (k+1):=by
 rw [<-zhC b,h];have d:=(jc.1 b).1
 have hg:(zc7 st g k)[k]? =some 0:=by
  unfold zc7;rw [Ov kK,Ay,jb kK]
 obtain ⟨h1,h2⟩:=jc.1 hg;have:=List.set_getElem_self h1;rw [h2] at this;exact this.symm
theorem zng (h:st.length<=k):zc7 st g k=st.map g:=by unfold zc7;rw [jr h,show st.length-k=0 by omega];simp
theorem zio:ke 212:=.of Tryz.func212 kA kA
theorem ze4:ke 213:=.of Tryz.func213 kA kA
theorem zp0:ke 240:=.of Tryz.func240 kA kA
theorem Y7:MkT Tryz.prog 23 3 8 (.int .i64 0):=⟨kA,kA,U⟩
theorem ZO:ki 3 1:=.of kA
variable{j:List Int}{F:Option Addr}{D G:Nat}
theorem zgL (_hS:Sl I 1 QF C n c j)(_hn:n<=100000)(q:SlN I F D G rows)(b2:D<=100000)(l:Nat)(hl:∀ r∈rows,l<r.length)(hc:VX rows.length j=0)(f:Nat)(s:Int)(a0:OkS rows.length j s)(a2:(KI s (IntKind.i64.wrap (s-1))==0)=true):kg 213 [.slice F D G,.slice C n c,.int .i64 l,.int .i64 s] I [] (Jv 1 QF (QT rows j l (f+1) s)):=by
 intro g H w hw;refine qe Tryz.func213 Tryz.ntmps213 hw ?_;have P:=zJH I;obtain ⟨A,q⟩:=q;have hH:=q.1;have b4:=q.len;have a8:=(ZJ hc).1;have a4:=(ZJ hc).2.1;have b3:=(KQ (n:=(rows.length:Int)) ⟨a8,a4⟩).2;have a1:=a0.1;have b5:=a0.2.1;have b6:=zdu (rows:=rows) (l:=l);obtain ⟨o,b8⟩:=zBs kB a0 kB a2;refine zR (zA<|zN (zR ?_));refine zM ?_;refine zM<|zpc [_,_] U zio .nil (zes ⟨A,q⟩ b2 l hl) ?_
 rintro b9 I1 L1 O ⟨rfl,a9,c9,rfl,Q⟩;have hH:=hH.mono O;have q:=q.mono O;have P:=P.trans O;refine zA<|zN (zR ?_)
 refine zM ?_;refine zQ Qt ?_;refine Q1 Y7 U U kB kC U U (fun p=>zA (Qe ?_));have e0:(((QG rows l).length:Nat):Int).toNat=(QG rows l).length:=rfl;rw [e0,Q8,<-zi1 (g:=(Y1 ((rows.getD (JC s) []).getD l 0)))];refine Qa (Qk (zR (zM<|zM ?_)));refine zB<|zV (Ua U U)<|zC (zN ?_)
 refine zI ?_ ?_<;>intro t
 ·refine zR (zA (zN (Qk (Ql<|zU [(0,_),(2,_),(3,_),(9,_),(10,_)] (fun T L0 mz E I' b=>∃ (k:Nat),mz=(JC s)-k/\E=(11,.int .i64 k)::T/\I1=I'/\[(p,.cells (Zl (zc7 (QG rows l) (Y1 ((rows.getD (JC s) []).getD l 0)) 0)) 3 (0,0))]=b/\k<=(JC s)) ?_ (h:=⟨0,U,U,U,U,jd _⟩)))));rintro mz E I' b ⟨k,rfl,rfl,rfl,rfl,hk⟩;refine Qk<|zR<|zM ?_;refine zV (U7 U U (fun hg=>kB))<|zM<|zC (zN ?_)
  refine zI ?_ ?_<;>intro u
  ·have b0:k<JC s:=(by have:=zug (w:=k) ⟨a1,kB⟩ o hk kB;have h9:decide (zGj (k:Int)<s)=true:=u;rw [this] at h9;simpa using h9);refine Qm<|Qa<|Ql<|Qh<|zM ?_;exact zB<|zA (Qe (Qg<|zm (h:=⟨(JC s)-(k+1),kB,k+1,U,U,U,U,kB⟩)))
  have W:k=JC s:=(by have:=zug (w:=k) ⟨a1,kB⟩ o hk kB;have h9:decide (zGj (k:Int)<s)=false:=u;rw [this] at h9;simp at h9;omega);subst W;obtain ⟨x,v,hx,hv,hQ⟩:=q.at (show JC s<D by omega);have b1:=hl v (je hv);have hu:=QE (d:=0) U b1;have b7:=hQ.len;have a5:(rows.getD (JC s) []).getD l 0=v.getD l 0:=(by rw [QJ hv]);refine Qy (Qf (Qf (Qj (Qa (Qk (zR (zA<|zN (Ql<|zU [(0,_),(2,_),(9,_),(10,_),(11,_)] (fun T L0 mz E I' b=>∃ (i:Nat),mz=(QG rows l).length-i/\E=(12,.int .i64 i)::T/\I1=I'/\[(p,.cells (Zl (zc7 (QG rows l) (Y1 ((rows.getD (JC s) []).getD l 0)) i)) 3 (0,0))]=b/\i<=(QG rows l).length) ?_ (h:=⟨0,U,U,U,U,jd _⟩)))))))));rintro mz E I' b ⟨i,rfl,rfl,rfl,rfl,hi⟩;refine Qk (zR (zM<|zM ?_));refine zQ Qt<|zC (zN ?_)
  refine zI ?_ ?_<;>intro M
  ·have Z:i<(QG rows l).length:=kd M;obtain ⟨y,hy⟩:=Q.at Z;refine Qm (Qa (Qk (Ql (Qk<|ZW mixed kA<|zq (Qd U)<|zq (Qd U)<|zq (zX QM hH)<|zq (Qc U QA (fun hg=>by exact zJA hH hx U))<|zq (Qd U)<|zq (zX Qt hQ)<|zq (Qc U Qr (fun hg=>by exact zJA hQ hu U))<|zq (Qx U U U)<|zq (Qd U)<|Yd 8 U U U ?_))));refine zk (Qd U)<|zk (Qd U)<|zk (zX QM hH)<|zk (Qc U QA (fun hg=>by exact zJA hH hx U))<|zk (Qd U)<|zk (zX Qt hQ)<|zk (Qc U Qr (fun hg=>by exact zJA hQ hu U))<|zk (Qd U)<|zk (Qd U)<|zk (zX Qt Q)<|zk (Qc U Qr (fun hg=>by exact zJA Q hy U))<|zk (Qx U U U) ?_
   refine JM U U U U U<|ZX<|Qa ?_
   refine zI ?_ ?_<;>intro N
   focus
    have Y:(Y1 ((rows.getD (JC s) []).getD l 0)) y=1048576:=(by unfold Y1;rw [a5,jb (by simpa using N)]);refine Qh<|zM ?_;refine zM ?_;refine zV (QD U U Qt (fun hg=>kB))<|Zx U U ZO U U (by repeat (first | exact Upd.here | apply Upd.there | apply QN)) (zqU (by rw [znC kB];omega))<|Qe ?_
    rw [Y0,show (zc7 (QG rows l) (Y1 ((rows.getD (JC s) []).getD l 0)) i).set i 1048576=zc7 (QG rows l) (Y1 ((rows.getD (JC s) []).getD l 0)) (i+1) from by rw [<-zhC hy,Y]];refine Qg<|Qa<|Qh<|zM ?_
   rotate_left
   have Y:(Y1 ((rows.getD (JC s) []).getD l 0)) y=0:=(by unfold Y1;rw [a5,ja (by simpa using N)]);rw [zsE hy Y];refine Qm<|Qg<|Qa<|Qh<|zM ?_
   all_goals
    exact zB<|zA (Qe<|zm (h:=⟨(QG rows l).length-(i+1),kB,i+1,U,U,U,U,kB⟩))
  have V:(QG rows l).length<=i:=kd M;rw [zng V];refine Qy (Qf (Qf (Qj (Qa (zR (zM<|zA (zN (Qq (Qb ?_)))))))));exact Zc U U (fun w hw=>by obtain ⟨I9,a6,a7,a3⟩:=OwnS.res (zbt (by rw [ju]) kB) QL kC hw;rw [<-Uc (f:=f) a2] at a3;exact ⟨_,I9,[],U,P.trans a6,a7,a3⟩)
 rw [<-zs5 ⟨a1,kB⟩,a2] at t;cases t
theorem ziq (hS:Sl I 1 QF C n c j)(hn:n<=100000)(hV:SlN I F D G rows)(a8:D<=100000)(l:Nat)(hl:∀ r∈rows,l<r.length)(hc:VX rows.length j=0)(f:Nat)(b5:1<=f)(s:Int)(P:OkS rows.length j s)(ih:∀ (V:Qu),HLe I V->∀ (s':Int),OkS rows.length j s'->s'<s->kg 213 [.slice F D G,.slice C n c,.int .i64 l,.int .i64 s'] V [] (Jv 1 QF (QT rows j l f s')))(Q:(KI s (IntKind.i64.wrap (s-1))==0)=false):kg 213 [.slice F D G,.slice C n c,.int .i64 l,.int .i64 s] I [] (Jv 1 QF (QT rows j l (f+1) s)):=by
 intro g H w hw;refine qe Tryz.func213 Tryz.ntmps213 hw ?_;have b:=zJH I;obtain ⟨A,hV⟩:=hV;have hH:=hV.1;have b6:=hV.len;have a5:=(ZJ hc).1;have a1:=(ZJ hc).2.1;have b2:=(KQ (n:=(rows.length:Int)) ⟨a5,a1⟩).2;have b1:=P.1;have b8:=P.2.1;have b9:=zdu (rows:=rows) (l:=l);obtain ⟨a6,a7,b7,b0⟩:=zdN hc P Q;obtain ⟨d,rfl⟩:∃ d,f=d+1:=⟨f-1,kB⟩;refine zR (zA<|zN (zR ?_));refine zM ?_;refine zM<|zpc [_,_] U zio .nil (zes ⟨A,hV⟩ a8 l hl) ?_
 rintro c0 I1 L1 Z ⟨rfl,a9,c9,rfl,o⟩;have hS:=hS.mono Z;have b:=b.trans Z;refine zA<|zN (zR ?_)
 refine zM ?_;refine zQ Qt ?_;refine Q1 Y7 U U kB kC U U (fun W=>zA (Qe ?_));have e0:(((QG rows l).length:Nat):Int).toNat=(QG rows l).length:=rfl;rw [e0,Q8,<-zi1 (g:=(zk7 (QG rows l) (QT rows j l (d+1) (Qz j s)) (QT rows j l (d+1) (s-Qz j s))))];refine Qa (Qk (zR (zM<|zM ?_)));refine zB<|zV (Ua U U)<|zC (zN ?_)
 refine zI ?_ ?_<;>intro q
 ·rw [<-zs5 ⟨b1,kB⟩,Q] at q;cases q
 refine Qm<|Qa<|zR<|zM ?_;refine zM ?_;refine qcV (vs:=[_,_]) U zpB (zjB hS hn s kB) ?_;refine zA<|zN (zR ?_)
 refine zM ?_;refine zM ?_;refine zM ?_;refine zM<|zpc [_,_,_,_] U ze4 .nil (ih _ b _ a6 b0) ?_
 rintro c1 I2 L2 a0 ⟨rfl,aL,cL,rfl,N⟩;have o:=o.mono a0;have b:=b.trans a0;refine zA<|zN (zR ?_)
 refine zM ?_;refine zM ?_;refine zM ?_;refine zM ?_;refine zM ?_;refine zB<|zpc [_,_,_,_] U ze4 .nil (ih _ b _ a7 kB) ?_
 rintro c2 I3 L3 M ⟨rfl,aR,cR,rfl,a4⟩;have o:=o.mono M;have N:=N.mono M;have b:=b.trans M;refine zA (zN (Qk (zR<|zA (zN (Ql ?_)))));refine zU [(9,_),(10,_),(14,_),(15,_)] (fun T L0 mz E V u=>∃ (i:Nat),mz=(QG rows l).length-i/\E=(16,.int .i64 i)::T/\I3=V/\[(W,.cells (Zl (zc7 (QG rows l) (zk7 (QG rows l) (QT rows j l (d+1) (Qz j s)) (QT rows j l (d+1) (s-Qz j s))) i)) 3 (0,0))]=u/\i<=(QG rows l).length) ?_ (h:=⟨0,U,U,U,U,jd _⟩);rintro mz E V u ⟨i,rfl,rfl,rfl,rfl,hi⟩;refine Qk (zR (zM<|zM ?_));refine zQ Qt<|zC (zN ?_)
 refine zI ?_ ?_<;>intro t
 ·have p:i<(QG rows l).length:=kd t;obtain ⟨y,hy⟩:=o.at p;refine Qm<|Qa<|Qk<|Ql<|Qh<|zM ?_;refine zM ?_;refine zM ?_;refine zM ?_;refine zM ?_;refine qcV (vs:=[_,_,_]) U zp0 (zlM o N kB YU.symm (V2 _ _) i p)<|zM ?_
  refine zM ?_;refine zM ?_;refine qcV (vs:=[_,_,_]) U zp0 (zlM o a4 kB YU.symm (V2 _ _) i p)<|zV (Zf U U U (fun _=>by (have b3:=zbF (st:=(QG rows l)) (s:=(QG rows l).getD i 0) (V2 (rows:=rows) (cl:=j) (l:=l) (d+1) (Qz j s));have b4:=zbF (st:=(QG rows l)) (s:=(QG rows l).getD i 0) (V2 (rows:=rows) (cl:=j) (l:=l) (d+1) (s-Qz j s));omega)))<|zV (QD U U Qt (fun hg=>kB))<|Zx U U ZO U U (by repeat (first | exact Upd.here | apply Upd.there | apply QN)) (zqU (by rw [znC kB];omega))<|Qe ?_
  rw [Y0,show (zc7 (QG rows l) (zk7 (QG rows l) (QT rows j l (d+1) (Qz j s)) (QT rows j l (d+1) (s-Qz j s))) i).set i (YF (QG rows l) (QT rows j l (d+1) (Qz j s)) ((QG rows l).getD i 0)+YF (QG rows l) (QT rows j l (d+1) (s-Qz j s)) ((QG rows l).getD i 0))=zc7 (QG rows l) (zk7 (QG rows l) (QT rows j l (d+1) (Qz j s)) (QT rows j l (d+1) (s-Qz j s))) (i+1) from by rw [<-zhC hy,QJ hy];rfl];refine Qg<|Qa<|Qh<|zM ?_;exact zB<|zA (Qe<|zm (h:=⟨(QG rows l).length-(i+1),kB,i+1,U,U,U,U,kB⟩))
 have O:(QG rows l).length<=i:=kd t;rw [zng O];refine Qy (Qf (Qf (Qj (Qa (zR (zM<|zA (zN (Qq ?_))))))));exact Zc U U (fun w hw=>by obtain ⟨I9,a2,a3,Y⟩:=OwnS.res (zbt (by rw [ju]) kB) QL kC hw;rw [<-Wk (f:=d+1) Q] at Y;exact ⟨_,I9,[],U,b.trans a2,a3,Y⟩)
theorem Js (h:Vc rows=0):1<=rows.length/\rows.length<=6/\(rows.getD 0 []).length<=64/\∀ r∈rows,r.length=(rows.getD 0 []).length/\∀ v∈r,0<=v/\v<=8589934592:=by
 unfold Vc at h;split at h
 ·cases h
 ·rename_i h1;split at h
  ·cases h
  ·rename_i h2;split at h
   ·cases h
   ·rename_i h3;simp only [On,jG,not_or,Bool.not_eq_true,jL] at h1 h3;obtain ⟨t,h0⟩:∃ r,rows[0]? =some r:=⟨_,jf kB⟩;have hg:=QJ (d:=([]:List Int)) h0;have b:=h1.2 t (je h0);simp at b;refine ⟨kB,kB,by rw [hg];omega,fun r p=>?_⟩;have:=h3 r p;unfold zkM at this;rw [jS] at this;obtain ⟨i,o⟩:=this;refine ⟨Int.ofNat.inj (Decidable.not_not.1 (AI i)),fun v q=>?_⟩;have:=jL.1 o v q;unfold zda at this;simp at this;omega
theorem zaU (h:VX n cl=0):OkS n cl (ZS n):=by
 obtain ⟨h1,h6,d,i⟩:=ZJ h;refine ⟨(KQ (n:=(n:Int)) ⟨h1,h6⟩).1,AC _,?_⟩;by_cases e:n=1
 ·subst e;unfold Xf;rw [show ZV (ZS ((1:Nat):Int))=true from by decide,BE]
 ·unfold VX at h
  repeat (split at h; · cases h)
  rename_i h4 _;have hg:(n:Int)>1:=kB;simp only [ji,jG,not_and,Decidable.not_not] at h4;have h4:=h4 hg;unfold Xf;rw [On];left;rw [jD];have b:((n:Int)-2).toNat<cl.length:=kB;refine ⟨cl[((n:Int)-2).toNat],O8 b,?_⟩;rw [jW,<-h4];exact (QJ (jf b)).symm
def zfv (cs:List Int)(k:Nat):Int:=(cs.take k).foldl KY (cs.getD 0 0)
def ZY (cs:List Int):Int:=zfv cs cs.length
theorem XV (b:cs[k]? =some x):zfv cs (k+1)=KY (zfv cs k) x:=by unfold zfv;rw [jz,b,Oh];rfl
theorem zaJ (h:∀ y∈cs,0<=y/\y<=1099511627776)(h0:0<cs.length):∀ k,0<=zfv cs k/\zfv cs k<=1099511627776:=by
 have d:0<=cs.getD 0 0/\cs.getD 0 0<=1099511627776:=by
  have:=jf h0;rw [QJ this];exact h _ (O8 h0)
 intro k
 induction k with
 | zero=>simpa [zfv] using d
 | succ k ih=>
  cases b:cs[k]? with
  | none=>
   have:zfv cs (k+1)=zfv cs k:=by
    unfold zfv;rw [jz,b];simp
   rw [this];exact ih
  | some x=>
   rw [XV b];have:=h x (je b);unfold KY;split<;>omega
def zdp (rows:List (List Int))(cl:List Int)(k:Nat):Int:=(List.range k).foldl (fun s l=>s+ZY (QT rows cl l 64 (ZS rows.length))) 0
def zgo (rows:List (List Int))(cl:List Int):Int:=zdp rows cl (rows.getD 0 []).length
theorem zc6 :zdp rows cl (k+1)=zdp rows cl k+ZY (QT rows cl k 64 (ZS rows.length)):=by unfold zdp;rw [Ok,Oh];rfl
theorem WS :0<(QG rows l).length:=by
 have:∀ (b z:List Int),z.length<=(b.foldl stS z).length:=by
  intro b
  induction b with
  | nil=>intro z;simp
  | cons n b ih=>
   intro z;refine jO ?_ (ih _);unfold stS;split
   ·omega
   ·simp
 exact this (rows.map fun r=>r.getD l 0) [0]
theorem zoC {C F:Option Addr}{n c D G:Nat}{j:List Int}{rows:List (List Int)}(p:n<=100000)(b:D<=100000)(l:Nat)(o:∀ r∈rows,l<r.length)(i:VX rows.length j=0):∀ (f:Nat) (I:Qu),Sl I 1 QF C n c j->SlN I F D G rows->∀ (s:Int),OkS rows.length j s->s.toNat<=f->kg 213 [.slice F D G,.slice C n c,.int .i64 l,.int .i64 s] I [] (Jv 1 QF (QT rows j l f s))
 | 0,_,_,_,s,hok,hf=>by have:=hok.1;omega
 | f+1,I,hS,hV,s,hok,hf=>by
  cases d:(KI s (IntKind.i64.wrap (s-1))==0) with
  | true=>exact zgL hS p hV b l o i f s hok d
  | false=>
   obtain ⟨_,_,y,A⟩:=zdN i hok d;exact ziq hS p hV b l o i f kB s hok (fun t q E h u=>zoC p b l o i f t (hS.mono q) (hV.mono q) E h kB) d
theorem zj6 (o:Sl I 1 QF C n c j)(q:n<=100000)(i:SlN I F D G rows)(h:D<=100000)(l:Nat)(p:∀ r∈rows,l<r.length)(b:VX rows.length j=0):kg 213 [.slice F D G,.slice C n c,.int .i64 l,.int .i64 (IntKind.i64.wrap (1*2^(min (D:Int).toNat IntKind.i64.bits))-1)] I [] (Jv 1 QF (QT rows j l 64 (ZS rows.length))):=by have d:=i.len;subst d;exact zoC q h l p b 64 I o i (ZS rows.length) (zaU b) (by have:=(KQ (n:=(rows.length:Int)) ⟨(ZJ b).1,(ZJ b).2.1⟩).2;omega)
theorem ztj (hS:Sl I 1 QF C n c j)(hn:n<=100000)(p:SlN I F D G rows)(a6:D<=100000)(hr:Vc rows=0)(hc:VX rows.length j=0):kf 211 [.slice F D G,.slice C n c] I (.int .i64 (zgo rows j)):=by
 intro g H w hw;refine qe Tryz.func211 Tryz.ntmps211 hw ?_;have M:=zJH I;obtain ⟨A,p⟩:=p;have hH:=p.1;have b2:=p.len;obtain ⟨b3,b4,Z,a7⟩:=Js hr;obtain ⟨x0,Q,a9,a8,a2⟩:=p.at (show 0<D by omega);have b8:=a2.len;have N:=QJ (d:=([]:List Int)) a8;have b0:Q.length<=64:=(by rw [<-N];exact Z);have b7:=zbX (n:=(D:Int)) ⟨kB,kB⟩;refine zR (zA<|zN (zR<|zA (zN (Qk (zR<|zA (zN (Ql ?_)))))));refine zU [(0,_),(1,_)] (fun T L0 mz E I' o=>∃ (k:Nat) (sm:Int),mz=Q.length-k/\E=(5,.int .i64 sm)::(6,.int .i64 k)::T/\HLe I I'/\L0=o/\k<=Q.length/\sm=zdp rows j k/\0<=sm/\sm<=k*1099511627776) ?_ (h:=⟨0,_,U,U,zJH _,U,jd _,U,AC _,(show (0:Int)<=((0:Nat):Int)*1099511627776 by decide)⟩);rintro mz E J1 o ⟨k,sm,rfl,rfl,V,rfl,hk,a0,b5,b6⟩;have hS:=hS.mono V;have hH:=hH.mono V;have p:=p.mono V;have M:=M.trans V;have u:=V;refine Qk (zR (zM<|zM ?_));refine zV (zX QM hH)<|zV (Qc U QA (fun hg=>by exact zJA (k:=0) hH a9 U))<|zQ Qt<|zC (zN ?_)
 refine zI ?_ ?_<;>intro q
 ·have a5:k<Q.length:=kd q;refine Qm<|Qa<|Qk<|Ql<|zR<|zM ?_;refine zM ?_;refine zM ?_;refine zM ?_;refine zQ QM<|zV (U7 U U (fun hg=>kB))<|zB<|zpc [_,_,_,_] U ze4 .nil (zj6 hS hn ⟨A,p⟩ a6 k (fun r hm=>by rw [(a7 r hm).1,N];omega) hc) ?_
  rintro b9 I2 L2 a1 ⟨rfl,aC,cC,rfl,hC⟩;have u:=u.trans a1;refine zA<|zN (zR ?_)
  refine zM ?_;refine zV (Qs U U Qt hC (fun hg=>by (rw [YU];have:=WS (rows:=rows) (l:=k);omega))) ?_;refine zV (Qc U Qr (fun hg=>by exact zJA (k:=0) hC (QE (d:=0) U kQ) U))<|zA (zN (Qk (zR<|zA (zN (Ql ?_)))))
  refine zU [(0,_),(1,_),(5,_),(6,_),(7,_)] (fun T L0 mz E I' o=>∃ (i:Nat) (b:Int),mz=(QT rows j k 64 (ZS rows.length)).length-i/\E=(8,.int .i64 b)::(9,.int .i64 i)::T/\I2=I'/\L0=o/\i<=(QT rows j k 64 (ZS rows.length)).length/\b=zfv (QT rows j k 64 (ZS rows.length)) i) ?_ (h:=⟨0,_,U,U,U,U,jd _,by simp [zfv]⟩);rintro mz E I' o ⟨i,b,rfl,rfl,rfl,rfl,hi,W⟩;refine Qk (zR (zM<|zM ?_));refine zQ Qt<|zC (zN ?_)
  refine zI ?_ ?_<;>intro t
  ·have P:i<(QT rows j k 64 (ZS rows.length)).length:=kd t;obtain ⟨y,hy⟩:∃ y,(QT rows j k 64 (ZS rows.length))[i]? =some y:=⟨_,jf P⟩;refine Qm<|Qa<|Qk<|Ql<|Qh<|zM ?_;refine zM ?_;refine zM ?_;refine zV (zX Qt hC)<|zV (Qc U Qr (fun hg=>by exact zJA hC hy U))<|zV (zgM U U) ?_
   refine zA<|Qe<|Qg<|Qa<|Qh ?_;refine zM ?_;refine zV (Zf U U U (fun _=>by (have b1:(QT rows j k 64 (ZS rows.length)).length<=7:=(by rw [YU];have:=zdu (rows:=rows) (l:=k);omega);omega))) ?_;refine zA<|Qe ?_;exact zm (h:=⟨(QT rows j k 64 (ZS rows.length)).length-(i+1),kB,i+1,_,U,U,U,U,kB,by rw [XV hy,W]⟩)
  have a3:(QT rows j k 64 (ZS rows.length)).length<=i:=kd t;have a4:i=(QT rows j k 64 (ZS rows.length)).length:=kB;rw [a4] at W;have W:b=ZY (QT rows j k 64 (ZS rows.length)):=W;refine Qy<|Qf<|Qf<|Qj<|Qa<|Qh<|zM ?_;refine zM ?_;refine zV (Zf U U U (fun _=>by (have Y:0<=ZY (QT rows j k 64 (ZS rows.length))/\ZY (QT rows j k 64 (ZS rows.length))<=1099511627776:=zaJ (cs:=(QT rows j k 64 (ZS rows.length))) (V2 _ _) kQ (QT rows j k 64 (ZS rows.length)).length;omega))) ?_;refine zA (Qe (Qg (Qa (Qh<|zM ?_))));refine zB<|zA (Qe ?_)
  exact zm (h:=⟨Q.length-(k+1),kB,k+1,_,U,U,u,U,kB,by rw [zc6,a0,W],by have Y:0<=ZY (QT rows j k 64 (ZS rows.length))/\ZY (QT rows j k 64 (ZS rows.length))<=1099511627776:=zaJ (cs:=(QT rows j k 64 (ZS rows.length))) (V2 _ _) kQ (QT rows j k 64 (ZS rows.length)).length;omega,by have Y:0<=ZY (QT rows j k 64 (ZS rows.length))/\ZY (QT rows j k 64 (ZS rows.length))<=1099511627776:=zaJ (cs:=(QT rows j k 64 (ZS rows.length))) (V2 _ _) kQ (QT rows j k 64 (ZS rows.length)).length;omega⟩)
 have O:k=Q.length:=kd q;refine Qy (Qf (Qf (Qj (Qa (zR (zM<|zA (zN (Qq ?_))))))))
 first
 | exact zp M U U (by rw [a0,O,<-N];rfl)
def YZ (rows:List (List Int))(cl:List Int):Int:=if Vc rows≠0 then Vc rows else VX rows.length cl
def zgx (rows:List (List Int))(cl:List Int):Int:=if YZ rows cl≠0 then 0 else zgo rows cl
theorem zdI (h:Vc rows≠0):YZ rows cl=Vc rows/\zgx rows cl=0:=by have e:YZ rows cl=Vc rows:=(by unfold YZ;rw [jb h]);exact ⟨e,by unfold zgx;rw [jb (by rw [e];exact h)]⟩
theorem zvW (h:Vc rows=0)(h2:VX rows.length cl≠0):YZ rows cl=VX rows.length cl/\zgx rows cl=0:=by have e:YZ rows cl=VX rows.length cl:=(by unfold YZ;rw [ja kB]);exact ⟨e,by unfold zgx;rw [jb (by rw [e];exact h2)]⟩
theorem zvk (h:Vc rows=0)(h2:VX rows.length cl=0):YZ rows cl=0/\zgx rows cl=zgo rows cl:=by have e:YZ rows cl=0:=(by unfold YZ;rw [ja kB,h2]);exact ⟨e,by unfold zgx;rw [ja kB]⟩
def WM (I:Qu)(A:List Hd)(t:List (List Int)):Prop:=A.length=t.length/\∀ (k:Nat) (h:Hd) (v:List Int),A[k]? =some h->t[k]? =some v->Sl I 1 QF h.a h.n h.c v
theorem WM.nil :WM I [] []:=⟨U,fun k h v a=>by simp at a⟩
variable{A:List Hd}{t:List (List Int)}
theorem WM.mono {d:Qu}(h:WM I A t)(i:HLe I d):WM d A t:=⟨h.1,fun k x v a b=>(h.2 k x v a b).mono i⟩
variable{hd:Hd}{v:List Int}
theorem WM.snoc (h:WM I A t)(o:Sl I 1 QF hd.a hd.n hd.c v):WM I (A++[hd]) (t++[v]):=by
 refine ⟨by simp [h.1],fun k x y a b=>?_⟩;rw [Ac] at a b;rw [h.1] at a;split at a
 ·rename_i i;rw [jb i] at b;exact h.2 k x y a b
 ·rename_i i;rw [ja i] at b
  have e:k-t.length=0:=by
   cases d:k-t.length with
   | zero=>rfl
   | succ m=>rw [d] at a;simp at a
  rw [e] at a b;simp at a b;subst a;subst b;exact o
theorem WM.app {o:List Hd}{d:List (List Int)}(h:WM I A t)(g:WM I o d):WM I (A++o) (t++d):=by
 refine ⟨by simp [h.1,g.1],fun k x y a b=>?_⟩;rw [Ac] at a b;rw [h.1] at a;split at a
 ·rename_i i;rw [jb i] at b;exact h.2 k x y a b
 ·rename_i i;rw [ja i] at b;exact g.2 _ x y a b
theorem WM.drop (h:WM I A t)(i:Nat):WM I (A.drop i) (t.drop i):=
 ⟨by simp [h.1],fun k x y a b=>by rw [AF] at a b;exact h.2 _ x y a b⟩
theorem WM.take (h:WM I A t)(i:Nat):WM I (A.take i) (t.take i):=
 ⟨by simp [h.1],fun k x y a b=>by
  rw [OA] at a b;split at a
  ·rename_i d;rw [jb d] at b;exact h.2 _ x y a b
  ·cases a⟩
theorem SlH.of (h:Sl I 1 Kv C n c A)(r:WM I A t):SlH I C n c A t:=⟨h,r⟩
theorem SlH.rel (h:SlH I C n c A t):WM I A t:=h.2
def lexB (a b:List Int):Bool:=zGF a b
def zyW:Nat->List (List Int)->List (List Int)
 | 0,l=>l
 | f+1,l=>if l.length<2 then l else zz4 zGF (zyW f (l.take (l.length / 2))) (zyW f (l.drop (l.length / 2)))
theorem zw1:ke 209:=.of Tryz.func209 kA kA
theorem zBq:ke 210:=.of Tryz.func210 kA kA
theorem zBb:ke 211:=.of Tryz.func211 kA kA
theorem zBe (M:Sl I 1 QF C n c j)(N:n<=100000)(y:SlN I F D G rows)(u:D<=100000):kf 166 [.slice F D G,.slice C n c] I (.tuple #[.int .i64 (zgx rows j),.int .i64 (YZ rows j)]):=by
 intro g H w o;refine qe Tryz.func166 Tryz.ntmps166 o ?_;have E:=y.len;subst E;refine zR (zA<|zA<|zN (zR ?_));refine zM ?_;refine qcV (vs:=[_]) U zw1 (zBr y u) ?_;refine zA<|zN<|Qk<|zR ?_;refine zM<|zC (zN ?_)
 refine zI ?_ ?_<;>intro h
 ·have b:Vc rows≠0:=(by simpa using h);obtain ⟨p,q⟩:=zdI (cl:=j) b;refine zR (zM<|zA<|zA (zN (Qq (Qb ?_))))
  first
  | exact QY U U U (fun w o=>⟨by rw [p,q],o.drop⟩)
 have b:Vc rows=0:=(by simpa using h);refine Qm (Qa (zR (zM<|zQ QM ?_)));refine zM ?_;refine qcV (vs:=[_,_]) U zBq (zry M _) ?_;refine zA<|zN<|Qk<|zR ?_;refine zM<|zC (zN ?_)
 refine zI ?_ ?_<;>intro i
 ·have d:VX rows.length j≠0:=(by simpa using i);obtain ⟨p,q⟩:=zvW b d;refine zR (zM<|zA<|zA (zN (Qq (Qb ?_))))
  first
  | exact QY U U U (fun w o=>⟨by rw [p,q],o.drop⟩)
 have d:VX rows.length j=0:=(by simpa using i);obtain ⟨p,q⟩:=zvk b d;refine Qm<|Qa<|zR<|zM ?_;refine zM ?_;refine qcV (vs:=[_,_]) U zBb (ztj M N y u b d) ?_;refine zA<|zA (zN (Qq ?_))
 first
 | exact QY U U U (fun w o=>⟨by rw [p,q],o.drop⟩)
def zqH:Hd:=⟨none,0,0⟩
variable{i:Nat}
theorem SlH.getD (h:SlH I C n c A t)(b:i<n):A[i]? =some (A.getD i zqH)/\t[i]? =some (t.getD i [])/\Sl I 1 QF (A.getD i zqH).a (A.getD i zqH).n (A.getD i zqH).c (t.getD i []):=by have h1:=QE (d:=zqH) h.1.len b;have h2:=QE (d:=([]:List Int)) h.len b;exact ⟨h1,h2,h.2.2 i _ _ h1 h2⟩
def zIt (s a:Int):Bool:=(KI a s==a)&&zii a s
def zDV (X Y:List (List Int))(s:Int):List (List Int):=X.flatMap fun x=>Y.map fun y=>zG1 x y s
def zqp:Nat->Int->List (List Int)
 | 0,_=>[]
 | f+1,s=>if (KI s (IntKind.i64.wrap (s-1))==0)=true then [[]] else (List.range' 1 (s.toNat -1)).flatMap fun a:Nat=>if zIt s a then zDV (zqp f a) (zqp f (s-a)) s else []
def zeT (s:Int):Nat:=(List.range 6).foldl (fun c i=>c+s.toNat / 2^i % 2) 0
def zIc (n:Int):List (List Int):=zyW 946 (zqp 7 (ZS n))
def XH (e:Int)(t:List (List Int)):Value->Qu->Go.Kn.Loc->Prop:=fun v I' L=>L=[]/\∃ C c,v= .tuple #[.slice C t.length c,.int .i64 e]/\SlN I' C t.length c t
theorem SlN.none :SlN I none 0 0 []:=⟨[],.nil,WM.nil⟩
theorem XH.empty {e:Int}(h:t=[]):XH e t (.tuple #[.slice none 0 0,.int .i64 e]) I []:=by subst h;exact ⟨U,none,0,U,.none⟩
def zD8 (b c:Int):Bool:=decide (b<0)||decide (c<b)
def zJo (rows:List (List Int))(p:Int×List (List Int))(x:List Int):Int×List (List Int):=
 let c:=zgo rows x;let b:=if zD8 p.1 c then c else p.1
 let o:=if zD8 p.1 c then [] else p.2
 (b,if c==b then o++[x] else o)
def zI9 (rows:List (List Int))(k:Nat):Int×List (List Int):=((zIc rows.length).take k).foldl (zJo rows) (-1,[])
def zzf (rows:List (List Int)):Int:=if Vc rows≠0 then 0 else (zI9 rows (zIc rows.length).length).1
def znB (rows:List (List Int)):List (List Int):=if Vc rows≠0 then [] else (zI9 rows (zIc rows.length).length).2
def zDM (rows:List (List Int)):Value->Qu->Go.Kn.Loc->Prop:=fun v I' L=>L=[]/\∃ C c,v= .tuple #[.slice C (znB rows).length c,.int .i64 (zzf rows),.int .i64 (Vc rows)]/\SlN I' C (znB rows).length c (znB rows)
theorem zDM.bad (h:Vc rows≠0):zDM rows (.tuple #[.slice none 0 0,.int .i64 0,.int .i64 (Vc rows)]) I []:=by have b:znB rows=[]:=(by unfold znB;rw [jb h]);have d:zzf rows=0:=(by unfold zzf;rw [jb h]);exact ⟨U,none,0,by rw [b,d];rfl,by rw [b];exact .none⟩
end
end Go.Proofs.YtodakphagkommaaGreatDoor
