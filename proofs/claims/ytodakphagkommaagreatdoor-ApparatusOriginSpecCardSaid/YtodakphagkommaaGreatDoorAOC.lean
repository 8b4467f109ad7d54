/- apparatusOriginSpec_holds, part C of the proof: what its theorems say holds without further conditions. -/
import Derived.Lib.SlicesCompact
import Derived.Lib.RowBridge
import Derived.Shelf.SlSortCmp.WholeK
import Derived.Shelf.Small.Bits
import Derived.Shelf.Small.Wraps
import Derived.Shelf.Strconv.Itoa0
import Derived.Shelf.Sort.Plain
import Derived.Shelf.Slices.Turned
import Derived.Shelf.Slices.Equal
import Derived.Ground.Names2Prog
import Derived.Shelf.Slices.Clone
import Derived.Shelf.Slices.CompactI
import Derived.Shelf.Slices.SearchI
import Derived.Shelf.Slices.Cells
import Derived.Shelf.Slices.In.SortNone
import Derived.Shelf.Slices.Empties
import Derived.Shelf.Slices.Empties2
import Derived.Ground.SlgnProg
import Derived.Shelf.SlicesE.Clone
import Derived.Ground.SlsfProg
import Derived.Shelf.SlSortCmp.InsertionK
import Derived.Shelf.SlSortCmp.SiftDownK
import Derived.Shelf.SlSortCmp.HeapSortK
import Derived.Shelf.SlSortCmp.MedianK
import Derived.Shelf.SlSortCmp.PivotK
import Derived.Shelf.SlSortCmp.ReverseRangeK
import Derived.Shelf.SlSortCmp.PartialInsertionK
import Derived.Shelf.SlSortCmp.PartitionEqualK
import Derived.Shelf.SlSortCmp.PartitionK
import Derived.Shelf.SlSortCmp.PdqK
import Derived.Shelf.SlSortCmp.NoneTotal
import Derived.Test.YtodakphagkommaaGreatDoorProg
import Derived.Test.YtodakphagkommaaGreatDoorAOB
namespace Go.Proofs.YtodakphagkommaaGreatDoor
section
open Go Go.Kn Go.Proofs
theorem zvo:ke 96:=.of Tryz.func96 kA kA
variable{xs:List Int}{x:Int}
theorem zFN (a:xs[0]? =some x):zfv xs 1=x:=by
 cases xs with
 | nil=>cases a
 | cons y xs=>cases a;simp [zfv,KY]
variable{I:Qu}{a:Option Addr}{n c:Nat}
theorem zD5 (i:Sl I 1 QF a n c xs)(B:n<=100000)(h0:0<n):kf 96 [.slice a n c] I (.int .i64 (ZY xs)):=by
 intro g H w z;refine qe Tryz.func96 Tryz.ntmps96 z ?_;obtain ⟨C,j⟩:=i.at h0;refine zR<|zA<|zN<|Qk<|zR ?_;refine zM ?_;refine zQ Qt<|zC (zN ?_)
 refine zI ?_ ?_<;>intro l
 ·have h:=l;simp at h;omega
 refine Qm (Qa (zR (zM<|zV (Qs U U Qt kE (fun hg=>kB)) ?_)));refine zV (Qc U Qr (fun hg=>by exact zJA (k:=0) i j U))<|zA (zN (Qk (zR<|zA (zN (Ql ?_)))))
 refine zU [(0,_)] (fun T u t E q d=>∃ (k:Nat) (m:Int),t=n-k/\E=(3,.int .i64 m)::(4,.int .i64 k)::T/\I=q/\u=d/\k<=n/\m=zfv xs k/\1<=k) ?_ (h:=⟨1,_,U,U,U,U,h0,(zFN j).symm,jn _⟩);rintro t E q d ⟨k,m,rfl,rfl,rfl,rfl,A,r,y⟩;refine Qk (zR (zM<|zM ?_));refine zQ Qt<|zC (zN ?_)
 refine zI ?_ ?_<;>intro b
 ·have f:k<n:=kd b;obtain ⟨x,s⟩:=i.at f;refine Qm<|Qa<|Qk<|Ql<|Qh<|zM ?_;refine zM ?_;refine zM ?_;refine zV (Qs U U Qt kE (fun hg=>kB)) ?_;refine zV (Qc U Qr (fun hg=>by exact zJA i s U))<|zV (zgM U U)<|zA (Qe (Qg (Qa (Qh<|zM ?_))))
  exact zB<|zA (Qe<|zm (h:=⟨n-(k+1),kB,k+1,_,U,U,U,U,kB,by rw [XV s,r],kB⟩))
 have o:n<=k:=kd b;have p:k=xs.length:=(by rw [i.len];omega);subst p;refine Qy (Qf (Qf (Qj (Qa (zR (zM<|zA (zN (Qq ?_))))))))
 first
 | exact zr U U (by rw [r];rfl)
theorem zxv (b:Sl I 1 QF a n c xs)(d:n<=100000)(h0:0<n):kf 236 [.slice a n c] I (.int .i64 (ZY xs)):=by intro g H w f;refine qe Tryz.func236 Tryz.ntmps236 f ?_;refine zR (zA<|zN (zR ?_));refine zM ?_;refine qcV (vs:=[_]) U zvo (zD5 b d h0) ?_;refine zA (zN (Qq ?_));exact zr U U kL
end
end Go.Proofs.YtodakphagkommaaGreatDoor
namespace Go.Kn
section
open Go
theorem zkS {C:Cx}{S:GS}{E:Env}{I:Qu}{h:Loc}{f:Option Nat}{D:Nat}{j:String}{p:Array Edge}{q:Option (Nat×Bool)}{t e:Nat}{F G H J a b c d:Value}{x y:Operand}
  (r:ArT C.P t 2 e 2)(B:YX C.P t (.agg #[F,G,H,J]))(z:QB S E x=some (.agg #[a,b]))(A:QB S E y=some (.agg #[c,d])):
  Q2 C S E I h ⟨f,.build t #[(0,x),(1,y)],D,j,p,q⟩ (.agg #[a,b,c,d]):=
 .of kF fun M w l hg n K=>by
  obtain ⟨u,i,o,s⟩:=r;have g:∀ w:World,(sizeOf e).run C.P w= .ok 2 w:=fun w=>(by have h1:=Go.run_sizeOf (w:=w) o;have h2:C.P.cellsOf e=2:=(by unfold Program.cellsOf;rw [o];exact s);rw [h2] at h1;exact h1);simp only [execOp,Instr.build,jg,Yq B,Result.andThen,jQ u,g,OF,jF,Ah,Qp l hg n z,Qp l hg n A];rfl
end
end Go.Kn
namespace Go.Proofs.YtodakphagkommaaGreatDoor
section
open Go Go.Kn Go.Proofs
theorem zBf:km 285 4:=.of kA
theorem zkK:Ar2 Tryz.prog 79 3 .i64:=⟨kA,kA,kA,kA,kA⟩
theorem zmK:ku 285 2 79 2:=.of kA
theorem zAD:ki 285 4:=.of kA
theorem zwD:kj 285 (.agg #[(.int .i64 0),(.int .i64 0),(.int .i64 0),(.int .i64 0)]):=.of kA
theorem K4:kj 79 (.agg #[(.int .i64 0),(.int .i64 0)]):=.of kA
theorem zyQ (I:Qu):kf 252 [] I (.agg #[.int .i64 2,.int .i64 1,.int .i64 4,.int .i64 0]):=by
 intro g H w a;refine qe Tryz.func252 Tryz.ntmps252 a ?_;refine zR<|Qv zwD U U (fun b=>zN (zR ?_))
 refine zV (zgw zkK K4 U U)<|zV (zgw zkK K4 U U)<|zV (zkS zmK zwD U U)<|zh zAD<|zN (Qq ?_)
 exact ZD (vs:=[.int .i64 2,.int .i64 1,.int .i64 4,.int .i64 0]) U U zBf kI U (fun w a=>⟨U,a.drop⟩)
theorem zdc:km 79 2:=.of kA
theorem Yx:ku 79 2 3 1:=.of kA
theorem zn4:ke 251:=.of Tryz.func251 kA kA
theorem zyw:ke 252:=.of Tryz.func252 kA kA
theorem zpX (n:Int):0<=zd4 n/\zd4 n<2:=by unfold zd4;split<;>omega
theorem zzK {f t:Int}(h:f≠t):((([.int .i64 2,.int .i64 1,.int .i64 4,.int .i64 0]:List Value).drop ((zd4 f).toNat*2)).take 2)[(zd4 t).toNat*1]? =some (.int .i64 (Yk f t)):=by
 unfold Yk zd4;rw [ja h];by_cases h1:t=0
 ·have h2:¬f=0:=fun e=>h (by rw [e,h1]);rw [jb h1,ja h2,jb h1];rfl
 rw [ja h1,ja h1];by_cases h2:f=0
 ·rw [jb h2,jb h2];rfl
 rw [ja h2,ja h2];rfl
theorem zFw (I:Qu)(f t:Int):kf 235 [.int .i64 f,.int .i64 t] I (.int .i64 (Yk f t)):=by
 intro g H w h;refine qe Tryz.func235 Tryz.ntmps235 h ?_;refine zR<|zA<|zN<|Qk<|zR ?_;refine zM ?_;refine zM<|zC (zN ?_)
 refine zI ?_ ?_<;>intro a
 ·have b:f=t:=(by simpa using a);refine zR<|zA<|zN<|Qq<|Qb ?_
  first
  | exact zr U U (by unfold Yk;rw [jb b])
 have d:f≠t:=(by simpa using a);refine Qm (Qa (zR (zA (zN (Qk<|ZW mixed kA<|YG (cap:=[]) (vs:=[]) U U zyw (zyQ I) U U<|zq (Qd U)<|zq (Qd U)<|YG (cap:=[]) (vs:=[_]) U U zn4 (zvl I _) U U<|zq (zlt (cs:=[.int .i64 2,.int .i64 1,.int .i64 4,.int .i64 0]) U U zmK zdc (fun hg=>zpX _))<|zq (Qd U)<|zq (Qd U)<|YG (cap:=[]) (vs:=[_]) U U zn4 (zvl I _) U U<|zq (Us U U Yx Qr (fun hg=>zpX _) (fun hg=>zzK d))<|zq (ZE U) ?_)))));exact ZX<|Qa (Qq<|zr U U kL)
def zz9:List Int:=[0,1,56,2,57,49,28,3,61,58,42,50,38,29,17,4,62,47,59,36,45,43,51,22,53,39,33,30,24,18,12,5,63,55,48,27,60,41,37,16,46,35,44,21,52,32,23,11,54,26,40,15,34,20,31,10,25,14,19,9,13,8,7,6]
def JZ (I:Qu):Prop:=∀ i:Nat,i<64->QO I [] 1 i (.int .u8 (zz9.getD i 0))
variable{I B:Qu}
theorem JZ.mono (h:JZ I)(a:HLe I B):JZ B:=fun i b=>(h i b).mono a
def zIl (a b:Int):Int:=IntKind.u64.wrap ((BitVec.ofInt 64 a&&& BitVec.ofInt 64 b).toNat:Int)
def zqT (x:Int):Int:=(IntKind.u64.wrap (zIl x (IntKind.u64.wrap (0-x))*285870213051353865)).fdiv (2^58)
theorem zAw:((List.range 64).all fun s=> !ZV (s:Int)||(decide (0<=zqT (s:Int))&&decide (zqT (s:Int)<64)&&decide (IntKind.i64.wrap (zz9.getD (zqT (s:Int)).toNat 0)=(JC (s:Int):Int))))=true:=kA
variable{s:Int}
theorem zEe (a:1<=s/\s<=63)(h1:ZV s=true):(0<=zqT s/\zqT s<64)/\IntKind.i64.wrap (zz9.getD (zqT s).toNat 0)=(JC s:Int):=by have h:=jk.1 zAw s.toNat (jq.2 kB);rw [show ((s.toNat:Nat):Int)=s by omega,h1] at h;simpa using h
section
variable {C:Cx} {E:Env} {I:Qu} {d:Go.Kn.Loc} {S:GS} {f:Option Tmp} {h:TypeId} {g:String} {i:Array Edge} {j:Option (Nat×Bool)} {x y:Operand} {a b:Int}
theorem zyE {t q:TypeId}(o:QB S E x=some (.int .u64 a))(p:QB S E y=some (.int .u64 b)):Q2 C S E I d ⟨f,.binOp .and t x y q,h,g,i,j⟩ (.int .u64 (zIl a b)):=
 .of kF fun r w l hg n _=>by
  simp only [execOp,Qp l hg n o,Qp l hg n p,jg,ZQ,Result.andThen,binOp,Bb,ON,Oa,Op.intBits,jp,zIl,IntKind.bits];rfl
end
def eiv:Int->Value:=Value.int .i64
structure WQ (m:List (Int×Int))(g:Int->Option Int):Prop where
 nd:(m.map (·.1)).Nodup
 get:∀ x,ZR m x=g x
theorem WQ.nil:WQ [] (fun _=>none):=⟨.nil,fun _=>U⟩
variable{m:List (Int×Int)}{g:Int->Option Int}
theorem WQ.set (h:WQ m g)(x v:Int):WQ (Vd m x v) (fun y=>if x=y then some v else g y):=
 ⟨WD _ _ h.nd,fun y=>by rw [Vv,h.get]⟩
theorem WQ.congr {a:Int->Option Int}(h:WQ m g)(e:∀ x,g x=a x):WQ m a:=⟨h.nd,fun x=>by rw [h.get,e]⟩
variable{p:Int×Int}
theorem WQ.mem (h:WQ m g)(a:p∈m):g p.1=some p.2:=by rw [<-h.get];exact zei h.nd a
variable{x v:Int}
theorem WQ.in (h:WQ m g)(e:g x=some v):(x,v)∈m:=Ux (by rw [h.get];exact e)
def zoW {J:Type}(m:List J)(A:List Nat):List J:=A.filterMap fun i=>m[i]?
variable{J:Type}{A:List Nat}{i:Nat}
theorem zeF {m:List J}{p:J}(a:m[i]? =some p):zoW m (A++[i])=zoW m A++[p]:=by unfold zoW;rw [List.filterMap_append];simp [a]
theorem zhK {m:List J}(d:A.Nodup)(b:∀ i∈A,i<m.length)(a:∀ i (p:J),m[i]? =some p->i∈A):(zoW m A).Perm m:=by have h1:=(zcq d b a).filterMap (fun i=>m[i]?);rw [zg7] at h1;exact h1
theorem znS {m:List J}{p:J}:p∈zoW m A↔ ∃ i∈A,m[i]? =some p:=by unfold zoW;rw [List.mem_filterMap]
variable{n:Nat}
theorem Uj (f:A.Nodup)(d:∀ i∈A,i<n)(t:i∉A)(q:i<n):(A++[i]).Nodup/\(∀ j∈A++[i],j<n)/\(A++[i]).length<=n:=by have h1:(A++[i]).Nodup:=Ae.2 ⟨f,by simp,fun a o b l e=>t (by simp at l;subst l;subst e;exact o)⟩;have h2:∀ j∈A++[i],j<n:=fun j r=>(jC.1 r).elim (d j) (fun h=>by simp at h;subst h;exact q);refine ⟨h1,h2,?_⟩;have:=KH (m:=List.range n) h1 (by simpa using h2);simpa using this
theorem JW:∀ (a:List Int) (b:Int),(∀ x∈a,a.foldl KY b<=x)/\a.foldl KY b<=b/\(a.foldl KY b=b\/a.foldl KY b∈a)
 | [],b=>⟨fun x h=>by simp at h,AC _,.inl U⟩
 | y::a,b=>by
  obtain ⟨h1,h2,h3⟩:=JW a (KY b y);simp only [Of];have f:KY b y<=b/\KY b y<=y/\(KY b y=b\/KY b y=y):=(by unfold KY;split<;>omega);refine ⟨fun x d=>?_,kB,?_⟩
  ·rcases jo.1 d with rfl | d
   ·omega
   ·exact h1 x d
  ·rcases h3 with h3 | h3
   ·rcases f.2.2 with e | e
    ·left;rw [h3,e]
    ·right;rw [h3,e];exact jl ..
   ·right;exact jm _ h3
variable{xs:List Int}
theorem XA (h:xs≠[]):ZY xs∈xs/\∀ x∈xs,ZY xs<=x:=by
 cases xs with
 | nil=>exact absurd U h
 | cons y xs=>
  unfold ZY zfv;rw [Al];have e:(y::xs).getD 0 0=y:=rfl;rw [e];obtain ⟨h1,h2,h3⟩:=JW (y::xs) y;refine ⟨?_,h1⟩;rcases h3 with h3 | h3
  ·rw [h3];exact jl ..
  ·exact h3
theorem zj8 (h:v∈xs)(h2:∀ x∈xs,v<=x):ZY xs=v:=by obtain ⟨h3,h4⟩:=XA (AG h);have a:=h4 v h;have b:=h2 _ h3;omega
theorem zb1 (b a:List Int)(s:Int)(k:Nat):zat b a s k=((List.range k).map fun i=>Yk s (b.getD i 0)+a.getD i 0).foldl KY 1048576:=by unfold zat;rw [List.foldl_map]
structure zha (st cs:List Int)(b:Int)(m:List (Int×Int)):Prop where
 len:cs.length=st.length
 nd:(m.map (·.1)).Nodup
 get:∀ (i:Nat) (x c:Int),st[i]? =some x->cs[i]? =some c->ZR m x=if c<1048576 then some c else none
 old:∀ p∈m,p.1∈st
 pos:∃ c∈cs,c<1048576
 le:∀ c∈cs,0<=c/\(c<1048576->c<=b)/\c<=1048576
variable{st cs:List Int}{b:Int}
theorem zha.ne (h:zha st cs b m):0<m.length:=by obtain ⟨c,j,d⟩:=h.pos;obtain ⟨i,f⟩:=jU j;have a:=(jc.1 f).1;have l:st[i]? =some (st[i]'(by rw [<-h.len];exact a)):=jf _;have:=h.get i _ c l f;rw [jb d] at this;exact AZ (Ux this)
theorem zha.ent (h:zha st cs b m){c:Int}:(x,c)∈m↔ ∃ i:Nat,st[i]? =some x/\cs[i]? =some c/\c<1048576:=by
 constructor
 ·intro l;obtain ⟨i,a⟩:=jU (h.old _ l);have d:=(jc.1 a).1;have j:cs[i]? =some (cs[i]'(by rw [h.len];exact d)):=jf _;have hg:=h.get i x _ a j;rw [zei h.nd l] at hg;split at hg
  ·rename_i f;cases hg;exact ⟨i,a,j,f⟩
  ·cases hg
 ·rintro ⟨i,h1,h2,h3⟩;have:=h.get i x c h1 h2;rw [jb h3] at this;exact Ux this
variable{G:List (Int×Int)}
theorem WC (h:zha st cs b m)(O:b<=1000)(d:G.Perm m)(s:Int):ZY (G.map fun p=>p.2+Yk s p.1)=YF st cs s/\0<=YF st cs s/\YF st cs s<=b+4/\∀ p∈G,0<=p.2/\p.2<=b:=by
 have f:∀ p∈m,0<=p.2/\p.2<=b:=fun p d=>by
  obtain ⟨i,_,h2,h3⟩:=(h.ent (x:=p.1) (c:=p.2)).1 d;have:=h.le _ (je h2);exact ⟨this.1,this.2.1 h3⟩
 have a:∀ p∈m,YF st cs s<=p.2+Yk s p.1:=fun p d=>by
  obtain ⟨i,h1,h2,h3⟩:=(h.ent (x:=p.1) (c:=p.2)).1 d;unfold YF;rw [zb1];have t:=(jc.1 h1).1;have:=(JW ((List.range st.length).map fun i=>Yk s (st.getD i 0)+cs.getD i 0) 1048576).1 (Yk s p.1+p.2) (jt.2 ⟨i,jq.2 t,by rw [QJ h1,QJ h2]⟩);omega
 have u:m≠[]:=fun e=>(by have:=h.ne;rw [e] at this;simp at this);obtain ⟨q,y⟩:=Bk m u;have E:=a q y;have F:=f q y;have H:=VO s q.1
 have j:∃ p∈m,YF st cs s=p.2+Yk s p.1:=by
  have h3:=(JW ((List.range st.length).map fun i=>Yk s (st.getD i 0)+cs.getD i 0) 1048576).2.2;rw [<-zb1] at h3;rcases h3 with h3 | h3
  ·have:YF st cs s=1048576:=h3;omega
  ·obtain ⟨i,o,e⟩:=jt.1 h3;have o:=jq.1 o;have h1:st[i]? =some (st.getD i 0):=QE U o;have h2:cs[i]? =some (cs.getD i 0):=QE U (by rw [h.len];exact o);have M:=VO s (st.getD i 0);have e:Yk s (st.getD i 0)+cs.getD i 0=YF st cs s:=e;exact ⟨(st.getD i 0,cs.getD i 0),h.ent.2 ⟨i,h1,h2,kB⟩,by show _=cs.getD i 0+Yk s (st.getD i 0);omega⟩
 obtain ⟨p,l,z⟩:=j;have C:=f p l;have D:=VO s p.1;refine ⟨zj8 (jt.2 ⟨p,d.mem_iff.2 l,z.symm⟩) (fun x N=>?_),kB,kB,fun p w=>f p (d.mem_iff.1 w)⟩;obtain ⟨r,K,rfl⟩:=jt.1 N;exact a r (d.mem_iff.1 K)
def JE (c a:Nat):Bool:=c&&& a==c
variable{c a:Nat}
theorem J0 {s:Nat}(h:JE c a=true)(g:JE a s=true):JE c s=true:=by
 unfold JE at*;rw [jW] at*
 calc c&&& s=(c&&& a)&&& s:=by rw [h]
  _=c&&& (a&&& s):=Nat.and_assoc ..
  _=c:=by rw [g,h]
theorem Xm {b:Nat}(h:JE c a=true)(g:JE c b=true)(e:b&&& a=0):c=0:=by
 unfold JE at*;rw [jW] at*
 calc c=(c&&& b)&&& a:=by rw [g,h]
  _=c&&& (b&&& a):=Nat.and_assoc ..
  _=0:=by rw [e];exact Nat.and_zero _
theorem Wn (a:Nat):JE a a=true:=by unfold JE;rw [Nat.and_self];exact beq_self_eq_true _
theorem zsN {b:Nat}(h:JE a b=true)(g:JE b a=true):a=b:=by
 unfold JE at*;rw [jW] at*
 calc a=a&&& b:=h.symm
  _=b&&& a:=B6 ..
  _=b:=g
theorem zaN {b:Nat}(h:JE a b=true):a<=b:=by unfold JE at h;rw [jW] at h;rw [<-h];exact Nat.and_le_right
theorem zsj:((List.range 64).all fun s=>(List.range 64).all fun a=> !JE a s||((((s-a)&&& a)==0)&&JE (s-a) s&&(zeT (a:Int)+zeT ((s-a:Nat):Int)==zeT (s:Int))))=true:=kA
theorem zcL {s:Nat}(f:s<64)(d:a<64)(h:JE a s=true):(s-a)&&& a=0/\JE (s-a) s=true/\zeT (a:Int)+zeT ((s-a:Nat):Int)=zeT (s:Int):=by have h0:=jk.1 zsj s (jq.2 f);have h0:=jk.1 h0 a (jq.2 d);rw [h] at h0;simpa [and_assoc] using h0
theorem zrK:((List.range 64).all fun s=>(List.range 64).all fun a=>KI (a:Int) (s:Int)==((a&&& s:Nat):Int))=true:=kA
theorem zxx {s:Nat}(f:s<64)(d:a<64):KI (a:Int) (s:Int)=((a&&& s:Nat):Int):=by have h0:=jk.1 zrK s (jq.2 f);have h0:=jk.1 h0 a (jq.2 d);exact eq_of_beq h0
theorem zxs {a:Int}(f:0<=s/\s<=63)(d:0<=a/\a<=63):(KI a s==a)=JE a.toNat s.toNat:=by have h:=zxx (s:=s.toNat) (a:=a.toNat) kB kB;rw [show ((s.toNat:Nat):Int)=s by omega,show ((a.toNat:Nat):Int)=a by omega] at h;unfold JE;rw [h,jI,jW,jW];omega
def zmZ (s:Nat):Nat:=(KI (s:Int) (IntKind.i64.wrap (0-(s:Int)))).toNat
theorem zBh:((List.range 64).all fun s=>s==0||(JE (zmZ s) s&&decide (1<=zmZ s)&&(KI (s:Int) (IntKind.i64.wrap (0-(s:Int)))==(zmZ s:Int))&&(!ZV (s:Int)||(zmZ s==s&&zeT (s:Int)==1))))=true:=kA
theorem zcJ {s:Nat}(h0:1<=s)(f:s<64):JE (zmZ s) s=true/\1<=zmZ s/\KI (s:Int) (IntKind.i64.wrap (0-(s:Int)))=(zmZ s:Int)/\(ZV (s:Int)=true->zmZ s=s/\zeT (s:Int)=1):=by
 have h:=jk.1 zBh s (jq.2 f);have d:(s==0)=false:=(by simp;omega);rw [d,Ai] at h;simp only [ji,On,jG,jW,jZ] at h;refine ⟨h.1.1.1,h.1.1.2,h.1.2,fun e=>?_⟩;rcases h.2 with h | h
 ·rw [e] at h;cases h
 ·exact h
theorem zzN:((List.range 7).all fun n=>n==0||((List.range 64).all fun s=> !decide ((s:Int)<=ZS (n:Int))||JE s (ZS (n:Int)).toNat)&&(zeT (ZS (n:Int))==n))=true:=kA
theorem zmJ (h1:1<=n)(h6:n<=6):(∀ s:Nat,s<64->(s:Int)<=ZS (n:Int)->JE s (ZS (n:Int)).toNat=true)/\zeT (ZS (n:Int))=n:=by have h:=jk.1 zzN n (jq.2 kB);have f:(n==0)=false:=(by simp;omega);rw [f,Ai,ji] at h;refine ⟨fun s j d=>?_,eq_of_beq h.2⟩;have:=jk.1 h.1 s (jq.2 j);simpa [d] using this
def wN (p:Int->Bool)(cl:List Int):Nat:=(cl.map fun c=>if p c then 1 else 0).sum
def inS (s:Int)(c:Int):Bool:=JE c.toNat s.toNat
theorem zjQ {f g:Int->Nat}:∀ {cl:List Int},(∀ c∈cl,f c<=g c)->(cl.map f).sum<=(cl.map g).sum
 | [],_=>jn _
 | c::cl,h=>by
  have h1:=h c (jl ..);have h2:=zjQ (f:=f) (g:=g) (cl:=cl) fun x d=>h x (jm _ d);simp only [jF,Be];omega
theorem zuN {f g:Int->Nat}:∀ {cl:List Int},(∀ c∈cl,f c<=g c)->(cl.map g).sum<=(cl.map f).sum->∀ c∈cl,f c=g c
 | [],_,_=>fun c d=>by cases d
 | x::cl,h,hs=>by
  have h1:=h x (jl ..);have h2:=zjQ (f:=f) (g:=g) (cl:=cl) fun x j=>h x (jm _ j);simp only [jF,Be] at hs;intro c d;rcases jo.1 d with rfl | d
  ·omega
  ·exact zuN (f:=f) (g:=g) (cl:=cl) (fun x j=>h x (jm _ j)) kB c d
theorem zaa {f g:Int->Nat}(d:List Int):(d.map fun c=>f c+g c).sum=(d.map f).sum+(d.map g).sum:=by
 induction d with
 | nil=>rfl
 | cons c d ih=>simp only [jF,Be,ih];omega
variable{cl:List Int}
theorem zul (h:s∈cl):1<=(cl.map fun c=>if c=s then 1 else 0).sum:=by
 induction cl with
 | nil=>cases h
 | cons c cl ih=>
  simp only [jF,Be];rcases jo.1 h with rfl | h
  ·rw [jb rfl];omega
  ·have:=ih h;omega
section
variable {n:Nat} {d:List Int} (f:VX n d=0)
include f
theorem zeD {s:Int}(h:OkS n d s):1<=s/\s<=63:=⟨h.1,Int.le_trans h.2.1 (KQ (n:=(n:Int)) ⟨(ZJ f).1,(ZJ f).2.1⟩).2⟩
theorem zzk {s:Int}(h:s∈d):OkS n d s:=by
 obtain ⟨h1,h6,o,l⟩:=ZJ f;have j:=l s h;refine ⟨j.1,?_,by unfold Xf;rw [On];left;rw [jD];exact ⟨s,h,by simp⟩⟩;obtain ⟨k,q⟩:=jU h
 have h4:(List.range d.length).all (Kk (ZS n) d)=true:=by
  have h:=f;unfold VX at h
  repeat (split at h; · cases h)
  rename_i h3 _ _;simpa using h3
 exact (zbE h4 q).2
theorem VI {s:Int}(h:OkS n d s)(h1:ZV s=false):s∈d/\OkS n d (Qz d s)/\OkS n d (s-Qz d s)/\1<=Qz d s/\Qz d s<s/\JE (Qz d s).toNat s.toNat=true/\zii (Qz d s) s=true:=by
 have q:=zeD f h
 have l:s∈d:=by
  have h4:=h.2.2;unfold Xf at h4;rw [h1,OQ,jD] at h4;obtain ⟨c,o,e⟩:=h4;have:c=s:=by simpa using e
  exact this ▸ o
 have r:(KI s (IntKind.i64.wrap (s-1))==0)=false:=by
  unfold ZV at h1;rw [jN (show s>0 by omega),Ou] at h1;exact h1
 obtain ⟨t,u,w,y⟩:=zdN f h r;obtain ⟨z,C,j⟩:=zau (WH f s l) (jn 1);have j:Jr d s (Qz d s)=true:=j;unfold Jr at j;simp only [ji] at j;refine ⟨l,t,u,w,y,?_,j.1.1.2⟩;rw [<-zxs kB kB];exact j.1.1.1
theorem zfo:∀ (m:Nat) (s:Int),s.toNat<=m->OkS n d s->zeT s<=wN (inS s) d+1
 | 0,s,hm,h=>by have:=h.1;omega
 | m+1,s,hm,h=>by
  have w:=zeD f h
  cases h1:ZV s with
  | true=>
   have:=(zcJ (s:=s.toNat) kB kB).2.2.2;rw [show ((s.toNat:Nat):Int)=s by omega] at this;have:=(this h1).2;omega
  | false=>
   obtain ⟨l,z,C,K,M,t,_⟩:=VI f h h1;have F:=zfo m _ kB z;have H:=zfo m _ kB C;obtain ⟨D,u,E⟩:=zcL kB kB t;rw [show (((Qz d s).toNat:Nat):Int)=Qz d s by omega,show ((s.toNat -(Qz d s).toNat:Nat):Int)=s-Qz d s by omega,show ((s.toNat:Nat):Int)=s by omega] at E;have r:=zul l
   have o:∀ c∈d,((if c=s then 1 else 0)+((if inS (Qz d s) c then 1 else 0)+(if inS (s-Qz d s) c then 1 else 0)):Nat)<=if inS s c then 1 else 0:=fun c j=>by
    have q:=(ZJ f).2.2.2 c j;unfold inS;by_cases e:c=s
    ·subst e;rw [jb rfl,jb (Wn _),ja,ja]
     ·omega
     ·intro g;have:=zaN g;omega
     ·intro g;have:=zaN g;omega
    ·rw [ja e];by_cases g1:JE c.toNat (Qz d s).toNat=true
     ·rw [jb g1,jb (J0 g1 t),ja]
      ·omega
      ·intro g2;have g2:JE c.toNat (s.toNat -(Qz d s).toNat)=true:=(by rw [<-show (s-Qz d s).toNat=s.toNat -(Qz d s).toNat by omega];exact g2);have:=Xm g1 g2 D;omega
     ·rw [ja g1];by_cases g2:JE c.toNat (s-Qz d s).toNat=true
      ·rw [jb g2,jb (J0 (by rw [show s.toNat -(Qz d s).toNat=(s-Qz d s).toNat by omega] at u;exact g2) (by rw [show (s-Qz d s).toNat=s.toNat -(Qz d s).toNat by omega];exact u))];omega
      ·rw [ja g2];omega
   have y:=zjQ o;rw [zaa,zaa] at y;unfold wN at*;omega
def zzp (n:Nat)(d:List Int)(s:Int):Prop:=OkS n d s/\wN (inS s) d+1=zeT s
theorem zsX:zzp n d (ZS n):=by
 obtain ⟨h1,h6,r,o⟩:=ZJ f;obtain ⟨g1,g2⟩:=zmJ (n:=n) kB kB;refine ⟨zaU f,?_⟩
 have:wN (inS (ZS n)) d=d.length:=by
  unfold wN
  have:∀ l:List Int,(∀ c∈l,c∈d)->(l.map fun c=>if inS (ZS n) c then 1 else 0).sum=l.length:=by
   intro l
   induction l with
   | nil=>intro _;rfl
   | cons c l ih=>
    intro q;have j:=q c (jl ..);have t:=o c j;have:=(zzk f j).2.1;simp only [jF,Be,jx,ih fun x w=>q x (jm _ w)];have u:inS (ZS n) c=true:=g1 c.toNat kB kB;rw [jb u];omega
  exact this d fun _ h=>h
 omega
theorem zgf {s:Int}(h:zzp n d s)(h1:ZV s=false):zzp n d (Qz d s)/\zzp n d (s-Qz d s)/\∀ c∈d,inS s c=true->c=s\/inS (Qz d s) c=true\/inS (s-Qz d s) c=true:=by
 have D:=zeD f h.1;obtain ⟨q,w,y,O,P,z,_⟩:=VI f h.1 h1;obtain ⟨F,C,H⟩:=zcL kB kB z;rw [show (((Qz d s).toNat:Nat):Int)=Qz d s by omega,show ((s.toNat -(Qz d s).toNat:Nat):Int)=s-Qz d s by omega,show ((s.toNat:Nat):Int)=s by omega] at H;have u:=zul q;have M:=zfo f _ _ (jn _) w;have N:=zfo f _ _ (jn _) y
 have l:∀ c∈d,((if c=s then 1 else 0)+((if inS (Qz d s) c then 1 else 0)+(if inS (s-Qz d s) c then 1 else 0)):Nat)<=if inS s c then 1 else 0:=fun c j=>by
  have t:=(ZJ f).2.2.2 c j;unfold inS;by_cases e:c=s
  ·subst e;rw [jb rfl,jb (Wn _),ja,ja]
   ·omega
   ·intro g;have:=zaN g;omega
   ·intro g;have:=zaN g;omega
  ·rw [ja e];by_cases g1:JE c.toNat (Qz d s).toNat=true
   ·rw [jb g1,jb (J0 g1 z),ja]
    ·omega
    ·intro g2;have g2:JE c.toNat (s.toNat -(Qz d s).toNat)=true:=(by rw [<-show (s-Qz d s).toNat=s.toNat -(Qz d s).toNat by omega];exact g2);have:=Xm g1 g2 F;omega
   ·rw [ja g1];by_cases g2:JE c.toNat (s-Qz d s).toNat=true
    ·rw [jb g2,jb (J0 (by rw [show s.toNat -(Qz d s).toNat=(s-Qz d s).toNat by omega] at C;exact g2) (by rw [show (s-Qz d s).toNat=s.toNat -(Qz d s).toNat by omega];exact C))];omega
    ·rw [ja g2];omega
 have E:=zjQ l;rw [zaa,zaa] at E;have K:=h.2;refine ⟨⟨w,?_⟩,⟨y,?_⟩,fun c j r=>?_⟩
 ·unfold wN at*;omega
 ·unfold wN at*;omega
 ·have o:=zuN l (by rw [zaa,zaa];unfold wN at*;omega) c j;by_cases e:c=s
  ·exact .inl e
  ·rw [ja e,jb r] at o;by_cases g1:inS (Qz d s) c=true
   ·exact .inr (.inl g1)
   ·rw [ja g1] at o;by_cases g2:inS (s-Qz d s) c=true
    ·exact .inr (.inr g2)
    ·rw [ja g2] at o;omega
theorem zhm:∀ (m:Nat) (s:Int),s.toNat<=m->zzp n d s->∀ c∈d,inS s c=true->zzp n d c
 | 0,s,hm,h=>by have:=h.1.1;omega
 | m+1,s,hm,h=>fun c j o=>by
  have z:=zeD f h.1;have r:=(ZJ f).2.2.2 c j;by_cases e:c=s
  ·exact e ▸ h
  ·cases h1:ZV s with
   | true=>
    have:=(zcJ (s:=s.toNat) kB kB).2.2.2;rw [show ((s.toNat:Nat):Int)=s by omega] at this;have E:=(this h1).2;have D:=h.2
    have C:∀ l:List Int,c∈l->1<=wN (inS s) l:=by
     intro l
     induction l with
     | nil=>intro h;cases h
     | cons x l ih=>
      intro q;unfold wN at*;simp only [jF,Be];rcases jo.1 q with rfl | q
      ·rw [jb o];omega
      ·have:=ih q;omega
    have:=C d j;omega
   | false=>
    obtain ⟨u,w,y⟩:=zgf f h h1;obtain ⟨_,F,H,K,M,_,_⟩:=VI f h.1 h1;rcases y c j o with t | g | g
    ·exact absurd t e
    ·exact zhm m _ kB u c j g
    ·exact zhm m _ kB w c j g
theorem zxz {c:Int}(h:c∈d):zzp n d c:=by obtain ⟨h1,h6,l,j⟩:=ZJ f;have o:=j c h;exact zhm f _ _ (jn _) (zsX f) c h ((zmJ (n:=n) kB kB).1 c.toNat kB (by have:=(zzk f h).2.1;omega))
theorem zle {s a:Int}(K:s∈d)(h1:ZV s=false)(ha:1<=a/\a<s)(h:Jr d s a=true):a=Qz d s:=by
 have a0:=(ZJ f).2.2.2 s K;obtain ⟨_,_,Q⟩:=zgf f (zxz f K) h1;obtain ⟨_,o1,o2,o3,o4,o5,o6⟩:=VI f (zzk f K) h1;obtain ⟨q1,q2,q3⟩:=zcL kB kB o5;generalize Qz d s=b at*;unfold Jr at h;simp only [ji] at h;obtain ⟨⟨⟨k1,k2⟩,k3⟩,k4⟩:=h;rw [zxs kB kB] at k1;obtain ⟨p1,p2,p3⟩:=zcL kB kB k1;have E:=zcJ (s:=a.toNat) kB kB;have F:=zcJ (s:=b.toNat) kB kB;have O:=zcJ (s:=s.toNat) kB kB;rw [show ((a.toNat:Nat):Int)=a by omega] at E;rw [show ((b.toNat:Nat):Int)=b by omega] at F;rw [show ((s.toNat:Nat):Int)=s by omega] at O;unfold zii at k2 o6;rw [jW,E.2.2.1,O.2.2.1] at k2;rw [jW,F.2.2.1,O.2.2.1] at o6;have t:zmZ a.toNat=zmZ b.toNat:=kB;have w:(s-b).toNat=s.toNat -b.toNat:=kB;have l:(s-a).toNat=s.toNat -a.toNat:=kB
 have C:JE a.toNat b.toNat=true:=by
  cases j:ZV a with
  | true=>
   have:=(E.2.2.2 j).1;rw [<-this,t];exact F.1
  | false=>
   unfold Xf at k3;rw [j,OQ,jD] at k3;obtain ⟨c,r,e⟩:=k3;have:c=a:=by simpa using e
   subst this;rcases Q c r k1 with e | g | g
   ·omega
   ·exact g
   ·exfalso;have g:JE c.toNat (s.toNat -b.toNat)=true:=(by rw [<-w];exact g);have:=Xm (J0 (t ▸ E.1:JE (zmZ b.toNat) c.toNat=true) g) F.1 (by rw [B6];exact q1);have:=E.2.1;omega
 have T:=zaN C
 have o:JE (s.toNat -b.toNat) (s.toNat -a.toNat)=true:=by
  by_cases e:(s.toNat -b.toNat)<64/\(s.toNat -a.toNat)<64
  ·have:∀ x y z:Nat,x<64->y<64->z<64->JE x z=true->JE y z=true->JE x y=true->JE (z-y) (z-x)=true:=by
    intro x y z _ _ hz Z hy N
    have P:∀ u v:Nat,v<64->JE u v=true->v-u=v^^^u:=by
     intro u v Y W;have D:u<64:=Bq (zaN W) Y;have M:((List.range 64).all fun v=>(List.range 64).all fun u=> !JE u v||(v-u==v^^^u))=true:=kA;have h0:=jk.1 M v (jq.2 Y);have h0:=jk.1 h0 u (jq.2 D);rw [W] at h0;simpa using h0
    rw [P _ _ hz hy,P _ _ hz Z];unfold JE at*;rw [jW] at*;apply Nat.eq_of_testBit_eq;intro i;have t1:=jA (fun q=>Nat.testBit q i) Z;have t2:=jA (fun q=>Nat.testBit q i) hy;have t3:=jA (fun q=>Nat.testBit q i) N;simp only [Nat.testBit_and,Nat.testBit_xor] at*
    revert t1 t2 t3
    cases x.testBit i<;>cases y.testBit i<;>cases z.testBit i<;>simp
   exact this a.toNat b.toNat s.toNat kB kB kB k1 o5 C
  ·omega
 have V:1<=s.toNat -b.toNat:=kB
 have H:JE (s.toNat -a.toNat) (s.toNat -b.toNat)=true:=by
  cases j:ZV (s-a) with
  | true=>
   have l1:=zcJ (s:=s.toNat -a.toNat) kB kB;have l2:=zcJ (s:=s.toNat -b.toNat) kB kB;rw [show ((s.toNat -a.toNat:Nat):Int)=s-a by omega] at l1;have l3:=(l1.2.2.2 j).2
   have M:((List.range 64).all fun v=>(List.range 64).all fun u=> !JE u v||u==0|| !(zeT (v:Int)==1)||(v==u))=true:=kA;have h0:=jk.1 M (s.toNat -a.toNat) (jq.2 kB);have h0:=jk.1 h0 (s.toNat -b.toNat) (jq.2 kB);rw [o,show ((s.toNat -a.toNat:Nat):Int)=s-a by omega,l3,show ((s.toNat -b.toNat)==0)=false by simp;omega] at h0;have h0:s.toNat -a.toNat=s.toNat -b.toNat:=(by simpa using h0);rw [h0];exact Wn _
  | false=>
   unfold Xf at k4;rw [j,OQ,jD] at k4;obtain ⟨c,r,e⟩:=k4;have:c=s-a:=by simpa using e
   subst this;rcases Q _ r (by unfold inS;rw [l];exact p2) with e | g | g
   ·omega
   ·exfalso;unfold inS at g;rw [l] at g;have:=Xm (J0 o g) (Wn (s.toNat -b.toNat)) q1;omega
   ·unfold inS at g;rw [l,w] at g;exact g
 have:=zsN o H;omega
omit f in
theorem ztF {s a:Int} (h0:0<=s):a∈zyL s.toNat->(1<=a/\a<s)/\KI a s=a:=fun h=>by
 unfold zyL at h;obtain ⟨h1,h2⟩:=jP.1 h;obtain ⟨k,j,rfl⟩:=jt.1 h1;have:=Bx.1 j;rw [show ((s.toNat:Nat):Int)=s by omega] at h2;exact ⟨kB,eq_of_beq h2⟩
theorem zja {s:Int}(t:s∈d)(h1:ZV s=false):zh9 d s=Qz d s/\ziv d s=s-Qz d s/\(zaD d s).isSome=true:=by have q:=(ZJ f).2.2.2 s t;have r:=WH f s t;have j:=zfV (cl:=d) q;have u:(zaD d s).isSome=true:=(by rw [j];simpa using r);obtain ⟨a,l⟩:=OW.1 u;have h:=jk.1 zpE s.toNat (jq.2 kB);rw [ji,jG,show ((s.toNat:Nat):Int)=s by omega] at h;have o:=l;unfold zaD at o;rw [zaf,h.1] at o;have z:=Bl o;have y:=List.mem_reverse.1 (O4 o);obtain ⟨D,C⟩:=ztF (s:=s) kB y;have w:zhT s a=s-a:=(by simpa using jk.1 h.2 a y);rw [zir C w] at z;have:=zle f t h1 D z;unfold zh9 ziv;rw [l];exact ⟨this,by rw [<-this];exact w,U⟩
end
def ImO (I:Qu)(r:Nat)(o:Obj):Prop:=I r=some o
variable{o:Obj}
theorem ImO.mono {r:Nat}(h:ImO I r o)(d:HLe I B):ImO B r o:=d _ _ h
def zGp (st cs:List Int)(b:Int):Value->Qu->Go.Kn.Loc->Prop:=fun v B L=>L=[]/\∃ r m,v= .map (some r)/\ImO B r (Yg eiv eiv m)/\zha st cs b m
theorem zbZ:∀ (f d:List Int) (x:Int),x∈f.foldl stS d↔x∈d\/(x∈f/\x≠8589934592)
 | [],d,x=>by simp
 | n::f,d,x=>by
  rw [Of,zbZ f]
  have:x∈stS d n↔x∈d\/(x=n/\n≠8589934592):=by
   unfold stS;split
   ·rename_i h;rw [On,jD] at h;constructor
    ·exact fun h=>.inl h
    ·rintro (h2 | ⟨rfl,h2⟩)
     ·exact h2
     ·rcases h with h | ⟨y,j,e⟩
      ·exact absurd (eq_of_beq h) h2
      ·rw [<-eq_of_beq e];exact j
   ·rename_i h;rw [On,not_or] at h;rw [jC,jM];constructor
    ·rintro (h2 | rfl)
     ·exact .inl h2
     ·exact .inr ⟨U,fun e=>h.1 (by rw [e];rfl)⟩
    ·rintro (h2 | ⟨rfl,_⟩)
     ·exact .inl h2
     ·exact .inr U
  rw [this,jo];constructor
  ·rintro ((h | ⟨rfl,h⟩) | ⟨h,h2⟩)
   ·exact .inl h
   ·exact .inr ⟨.inl U,h⟩
   ·exact .inr ⟨.inr h,h2⟩
  ·rintro (h | ⟨rfl | h,h2⟩)
   ·exact .inl (.inl h)
   ·exact .inl (.inr ⟨U,h2⟩)
   ·exact .inr ⟨h,h2⟩
theorem zdf:∀ (f d:List Int),d.Nodup->(f.foldl stS d).Nodup
 | [],_,h=>h
 | n::f,d,h=>by
  rw [Of];refine zdf f _ ?_;unfold stS;split
  ·exact h
  ·rename_i h2;rw [On,not_or,jD] at h2;refine Ae.2 ⟨h,by simp,fun a l b j e=>?_⟩;simp at j;subst j;subst e;exact h2.2 ⟨a,l,by simp⟩
theorem zBD (rows:List (List Int))(l:Nat):(QG rows l).Nodup:=zdf _ _ kJ
variable{rows:List (List Int)}{l:Nat}
theorem zcI :x∈QG rows l↔x=0\/((∃ r∈rows,r.getD l 0=x)/\x≠8589934592):=by unfold QG;rw [zbZ];simp
def stM (rows:List (List Int))(l:Nat):List (Int×Int):=(QG rows l).map fun x=>(x,0)
theorem zpQ (rows:List (List Int))(l:Nat):(stM rows l).map (·.1)=QG rows l:=by unfold stM;simp [BZ]
theorem zvV (h:(stM rows l)[i]? =some p):p.1∈QG rows l/\p.2=0:=by unfold stM at h;rw [jB] at h;obtain ⟨x,d,rfl⟩:=Ot.1 h;exact ⟨je d,U⟩
def ziZ (rows:List (List Int))(l:Nat)(A:List Nat):List Int:=(zoW (stM rows l) A).map (·.1)
theorem zb9 (h:(stM rows l)[i]? =some p):ziZ rows l (A++[i])=ziZ rows l A++[p.1]:=by unfold ziZ;rw [zeF h,Od];rfl
theorem zq6 (h:(stM rows l)[i]? =some p)(z:i∉A):p.1∉ziZ rows l A:=fun w=>by
 obtain ⟨q,y,e⟩:=jt.1 w;obtain ⟨j,u,f⟩:=znS.1 y;have d:=zBD rows l;rw [<-zpQ] at d;have h1:((stM rows l).map (·.1))[i]? =some p.1:=(by rw [jB,h];rfl);have h2:((stM rows l).map (·.1))[j]? =some p.1:=(by rw [jB,f,<-e];rfl);obtain ⟨g1,r⟩:=jc.1 h1;obtain ⟨g2,t⟩:=jc.1 h2;have:=(List.getElem_inj d).1 (show ((stM rows l).map (·.1))[i]=((stM rows l).map (·.1))[j] by rw [r,t]);exact z (this ▸ u)
theorem zks (h:x∈ziZ rows l A):x∈QG rows l:=by obtain ⟨q,f,rfl⟩:=jt.1 h;obtain ⟨j,_,d⟩:=znS.1 f;exact (zvV d).1
theorem zjW (h:A.Nodup)(f:∀ i∈A,i<(stM rows l).length)(d:∀ i (p:Int×Int),(stM rows l)[i]? =some p->i∈A)(x:Int):x∈ziZ rows l A↔x∈QG rows l:=by have:=(zhK h f d).map (fun p=>p.1);rw [zpQ] at this;exact this.mem_iff
def za9 (rows:List (List Int))(l:Nat)(u:Int)(A:List Nat)(x:Int):Option Int:=if x∈ziZ rows l A/\Y1 u x=0 then some 0 else none
variable{u:Int}
theorem zoQ :WQ [] (za9 rows l u []):=WQ.nil.congr fun x=>by unfold za9 ziZ zoW;simp
theorem zpj (h:WQ m (za9 rows l u A))(d:(stM rows l)[i]? =some p)(hg:Y1 u p.1=0):WQ (Vd m p.1 0) (za9 rows l u (A++[i])):=
 (h.set p.1 0).congr fun x=>by
  unfold za9;rw [zb9 d];simp only [jC,jM];by_cases e:p.1=x
  ·subst e;rw [jb rfl,jb ⟨.inr U,hg⟩]
  ·rw [ja e];by_cases g:x∈ziZ rows l A/\Y1 u x=0
   ·rw [jb g,jb ⟨.inl g.1,g.2⟩]
   ·rw [ja g,ja];rintro ⟨h1 | h1,h2⟩
    ·exact g ⟨h1,h2⟩
    ·exact e h1.symm
theorem zrr (h:WQ m (za9 rows l u A))(d:(stM rows l)[i]? =some p)(hg:Y1 u p.1≠0):WQ m (za9 rows l u (A++[i])):=
 h.congr fun x=>by
  unfold za9;rw [zb9 d];simp only [jC,jM];by_cases g:x∈ziZ rows l A/\Y1 u x=0
  ·rw [jb g,jb ⟨.inl g.1,g.2⟩]
  ·rw [ja g,ja];rintro ⟨h1 | h1,h2⟩
   ·exact g ⟨h1,h2⟩
   ·subst h1;exact hg h2
theorem zd9 (h:(u==x||u==8589934592)=true):Y1 u x=0:=by
 unfold Y1;rw [ja];rw [On,jW,jW] at h;simp only [ji,jG];rintro ⟨h1,h2⟩;rcases h with h | h
 ·exact h2 h
 ·exact h1 h
theorem zm8 (h:(u==x||u==8589934592)=false):Y1 u x=1048576/\Y1 u x≠0:=by
 have:Y1 u x=1048576:=by
  unfold Y1;rw [jb];rw [jS,OL,OL] at h;simp only [ji,jG];exact ⟨h.2,h.1⟩
 exact ⟨this,kB⟩
theorem ztI {w:Nat}{v:List Int}(E:0<=b)(z:rows[w]? =some v)(h:WQ m (za9 rows l (v.getD l 0) A))(y:A.Nodup)(t:∀ i∈A,i<(stM rows l).length)(f:∀ i (p:Int×Int),(stM rows l)[i]? =some p->i∈A):
  zha (QG rows l) ((QG rows l).map (Y1 ((rows.getD w []).getD l 0))) b m:=by
 rw [QJ z]
 have j:∀ x,Y1 (v.getD l 0) x=0\/Y1 (v.getD l 0) x=1048576:=fun x=>by
  cases e:(v.getD l 0==x||v.getD l 0==8589934592) with
  | true=>exact .inl (zd9 e)
  | false=>exact .inr (zm8 e).1
 refine ⟨by rw [ju],h.nd,fun i x c C d=>?_,fun p D=>?_,?_,fun c q=>?_⟩
 ·rw [jB,C] at d;simp only [Ow,Oe] at d;subst d;rw [h.get];unfold za9;have r:=(zjW y t f x).2 (je C);rcases j x with e | e
  ·rw [jb ⟨r,e⟩,e,jb kB]
  ·rw [ja (fun g=>kB),e,ja kB]
 ·have:=h.mem D;unfold za9 at this;split at this
  ·rename_i g;exact zks g.1
  ·cases this
 ·by_cases e:v.getD l 0=8589934592
  ·refine ⟨Y1 (v.getD l 0) 0,jt.2 ⟨0,zcI.2 (.inl U),U⟩,?_⟩;rw [zd9 (by rw [e];simp)];omega
  ·refine ⟨Y1 (v.getD l 0) (v.getD l 0),jt.2 ⟨v.getD l 0,zcI.2 (.inr ⟨⟨v,je z,U⟩,e⟩),U⟩,?_⟩;rw [zd9 kJ];omega
 ·obtain ⟨x,_,rfl⟩:=jt.1 q;rcases j x with e | e<;>rw [e]<;>omega
def zjG (st D F:List Int)(j:Nat)(x:Int):Int:=(if 1<=j then YF st D x else 0)+(if 2<=j then YF st F x else 0)
def gF (st D F:List Int)(j:Nat)(x:Int):Option Int:=if x∈st/\1<=j then some (zjG st D F j x) else none
def hF (rows:List (List Int))(l:Nat)(D F:List Int)(j:Nat)(A:List Nat)(x:Int):Option Int:=if x∈ziZ rows l A then some (zjG (QG rows l) D F (j+1) x) else gF (QG rows l) D F j x
variable{D F:List Int}
theorem zJe :WQ [] (gF st D F 0):=WQ.nil.congr fun x=>by unfold gF;rw [ja (fun h=>kB)]
variable{j:Nat}
theorem zJj (h:WQ m (gF (QG rows l) D F j)):WQ m (hF rows l D F j []):=h.congr fun x=>by unfold hF ziZ zoW;simp
theorem zEQ (h:WQ m (hF rows l D F j A))(q:A.Nodup)(f:∀ i∈A,i<(stM rows l).length)(d:∀ i (p:Int×Int),(stM rows l)[i]? =some p->i∈A):WQ m (gF (QG rows l) D F (j+1)):=
 h.congr fun x=>by
  unfold hF;by_cases g:x∈ziZ rows l A
  ·rw [jb g];unfold gF;rw [jb ⟨zks g,kB⟩]
  ·have r:x∉QG rows l:=fun e=>g ((zjW q f d x).2 e);rw [ja g];unfold gF;rw [ja (fun e=>r e.1),ja (fun e=>r e.1)]
theorem zGJ (h:WQ m (hF rows l D F j A))(d:(stM rows l)[i]? =some p)(f:i∉A):(ZR m p.1).getD 0=zjG (QG rows l) D F j p.1:=by
 rw [h.get];unfold hF;rw [ja (zq6 d f)];unfold gF;by_cases e:1<=j
 ·rw [jb ⟨(zvV d).1,e⟩];rfl
 ·rw [ja (fun g=>e g.2)];unfold zjG;rw [ja e,ja kB];rfl
theorem zkL (d:j<2):zjG st D F j x+YF st (if j=0 then D else F) x=zjG st D F (j+1) x:=by unfold zjG;rcases (show j=0\/j=1 by omega) with e | e<;>subst e<;>simp
theorem zvQ (h:WQ m (hF rows l D F j A))(d:(stM rows l)[i]? =some p):WQ (Vd m p.1 (zjG (QG rows l) D F (j+1) p.1)) (hF rows l D F j (A++[i])):=
 (h.set p.1 _).congr fun x=>by
  unfold hF;rw [zb9 d];simp only [jC,jM];by_cases e:p.1=x
  ·subst e;rw [jb rfl,jb (.inr U)]
  ·rw [ja e];by_cases g:x∈ziZ rows l A
   ·rw [jb g,jb (.inl g)]
   ·rw [ja g,ja];rintro (h1 | h1)
    ·exact g h1
    ·exact e h1.symm
variable{K M:Int}{N O:List (Int×Int)}
theorem zy8 (w:st≠[])(y:zha st D K N)(z:zha st F M O)(h1:K<=1000)(h2:M<=1000)(H:K+M+8<=b)(h:WQ m (gF st D F 2)):zha st (st.map (zk7 st D F)) b m:=by
 have C:∀ x,0<=YF st D x/\YF st D x<=K+4:=fun x=>by
  have:=WC y h1 (.refl _) x;exact ⟨this.2.1,this.2.2.1⟩
 have r:∀ x,0<=YF st F x/\YF st F x<=M+4:=fun x=>by
  have:=WC z h2 (.refl _) x;exact ⟨this.2.1,this.2.2.1⟩
 have f:∀ x,0<=zk7 st D F x/\zk7 st D F x<1048576/\zk7 st D F x<=b:=fun x=>by
  have:=C x;have:=r x;unfold zk7;omega
 refine ⟨by rw [ju],h.nd,fun i x c q d=>?_,fun p E=>?_,?_,fun c t=>?_⟩
 ·rw [jB,q] at d;simp only [Ow,Oe] at d;subst d;rw [h.get,jb (f x).2.1];unfold gF;rw [jb ⟨je q,kB⟩];unfold zjG zk7;simp
 ·have:=h.mem E;unfold gF at this;split at this
  ·rename_i g;exact g.1
  ·cases this
 ·obtain ⟨x,q⟩:=Bk st w;exact ⟨_,jt.2 ⟨x,q,U⟩,(f x).2.1⟩
 ·obtain ⟨x,_,rfl⟩:=jt.1 t;have:=f x;exact ⟨this.1,fun _=>this.2.2,kB⟩
theorem zoe (h:zha st cs b m)(y:G.Perm m):ZY (G.map (·.2))=ZY cs:=by obtain ⟨c,t,C⟩:=h.pos;have f:cs≠[]:=AG t;obtain ⟨h1,h2⟩:=XA f;have h3:=h2 c t;obtain ⟨i,w⟩:=jU h1;have d:=(jc.1 w).1;have r:st[i]? =some (st[i]'(by rw [<-h.len];exact d)):=jf _;have E:=h.ent.2 ⟨i,r,w,kB⟩;refine zj8 (jt.2 ⟨_,y.mem_iff.2 E,U⟩) (fun x r=>?_);obtain ⟨p,q,rfl⟩:=jt.1 r;obtain ⟨j,_,z,_⟩:=(h.ent (x:=p.1) (c:=p.2)).1 (y.mem_iff.1 q);exact h2 _ (je z)
section
variable {C:Cx} {E:Env} {I:Qu} {g:Go.Kn.Loc} {S:GS} {d:Option Tmp} {i:TypeId} {f:String} {j:Array Edge} {l:Option (Nat×Bool)} {x y:Operand} {a:Int}
theorem zc4 {m:List (Int×Int)}{t k e r:Nat}(w:MpT C.P t k e (.int .i64 0))(q:Ke C.P k eiv)(H:QB S E x=some (.map (some r)))(Q:QB S E y=some (eiv a))(z:ZH S=true->Mem I g r (Yg eiv eiv m)):
  Q2 C S E I g ⟨d,.lookup t x y false,i,f,j,l⟩ (.int .i64 ((ZR m a).getD 0)):=by
 have:=UZ (C:=C) (S:=S) (dst:=d) (ty:=i) (pos:=f) (af:=j) (gd:=l) w q H Q z
 cases h:ZR m a with
 | none=>rw [h] at this;exact this
 | some b=>rw [h] at this;exact this
end
variable{e:TypeId}{Q:Nat×Nat}
theorem zq2 {b d f r:Nat}{l:Go.Kn.Loc}(q:(if j=0 then d else f)=r)(h:j<2):QO I ((b,.cells (([[Value.map (some d)],[Value.map (some f)]]:List (List Value)).flatten).toArray e Q)::l) b (((j:Nat):Int).toNat*1) (.map (some r)):=by subst q;rcases (show j=0\/j=1 by omega) with e | e<;>subst e<;>exact .here U
theorem zha.small (h:zha st cs b m):m.length<=st.length:=by
 have:=h.nd.length_le_of_subset (l₂:=st) (fun x f=>by
  obtain ⟨p,d,rfl⟩:=jt.1 f
  exact h.old p d)
 simpa using this
theorem zEF (d:zha st D K N)(f:zha st F M O)(h1:K<=1000)(h2:M<=1000)(j:Nat)(x:Int):0<=zjG st D F j x/\zjG st D F j x<=3000:=by have a:=WC d h1 (.refl _) x;have b:=WC f h2 (.refl _) x;unfold zjG;split<;>split<;>omega
structure PrE (I:Qu)(fid brow bloc bcst bcla bbel rm:Nat)(av bv:Option Addr)(n c n2 c2:Nat)(xs:List Int)(rows:List (List Int))(l:Nat):Prop where
 row:QO I [] brow 0 (.slice bv n2 c2)
 loc:QO I [] bloc 0 (.int .i64 l)
 cst:QO I [] bcst 0 (.map (some rm))
 cla:QO I [] bcla 0 (.slice av n c)
 bel:QO I [] bbel 0 (.func (.func fid) #[] #[Zm brow,Zm bloc,Zm bcst,Zm bcla,Zm bbel])
 mp:ImO I rm (Yg eiv eiv (stM rows l))
 deb:JZ I
 hS:Sl I 1 QF av n c xs
 hV:SlN I bv n2 c2 rows
variable{brow bloc bcst bcla bbel rm n2 c2:Nat}{av bv:Option Addr}
theorem PrE.mono {f:Nat}(h:PrE I f brow bloc bcst bcla bbel rm av bv n c n2 c2 xs rows l)(d:HLe I B):PrE B f brow bloc bcst bcla bbel rm av bv n c n2 c2 xs rows l:=
 ⟨h.row.mono d,h.loc.mono d,h.cst.mono d,h.cla.mono d,h.bel.mono d,h.mp.mono d,h.deb.mono d,h.hS.mono d,h.hV.mono d⟩
theorem zz3:((List.range 64).all fun s=>IntKind.u64.wrap (s:Int)==(s:Int))=true:=kA
theorem zEK (d:0<=s/\s<=63):IntKind.u64.wrap s=s:=by have h:=jk.1 zz3 s.toNat (jq.2 kB);rw [show ((s.toNat:Nat):Int)=s by omega] at h;exact eq_of_beq h
variable{k:Nat}{r:List Int}
theorem zwU (h:rows[k]? =some r)(q:r.getD l 0≠8589934592):Vd (stM (rows.take k) l) (r.getD l 0) 0=stM (rows.take (k+1)) l:=by
 have t:=zfa (l:=l) h;unfold stM;rw [t]
 cases e:(QG (rows.take k) l).any (fun x=>x==r.getD l 0) with
 | true=>
  rw [zp1 (by rw [e,BE])];refine XE _ _ _ ?_;obtain ⟨x,w,d⟩:=jD.1 e;have d:=eq_of_beq d;subst d;have f:=zBD (rows.take k) l;have:=zei (m:=(QG (rows.take k) l).map fun x=>(x,(0:Int))) (by rw [List.map_map];simpa [BZ] using f) (jt.2 ⟨_,w,U⟩);exact this
 | false=>
  rw [zCN (by rw [e,OQ];exact OL.2 q),Od];refine zbD _ _ _ 0 ?_
  have y:ZR ((QG (rows.take k) l).map fun x=>(x,(0:Int))) (r.getD l 0)=none:=Xj.2 (by
   rw [List.map_map];intro z;obtain ⟨x,w,d⟩:=jt.1 z;have:=jL.1 e x w
   exact this (by simpa using d))
  rw [<-Ui _ _ 0] at y;exact Option.map_eq_none_iff.1 y
theorem zsv (h:rows[k]? =some r)(f:r.getD l 0=8589934592):stM (rows.take k) l=stM (rows.take (k+1)) l:=by have d:=zfa (l:=l) h;unfold stM;rw [d,zp1 (by rw [f];rfl)]
theorem zyU:ku 290 64 5 1:=.of kA
theorem zAo:CvT Tryz.prog 5 3 .i64:=⟨kA,kA⟩
theorem zxd:ke 250:=.of Tryz.func250 kA kA
theorem zIh:kl 5:=.of kA
theorem zFY (z:JZ I)(C:1<=s/\s<=63)(h1:ZV s=true):kf 250 [.int .u64 s] I (.int .i64 (JC s)):=by
 intro g H w E;refine qe Tryz.func250 Tryz.ntmps250 E ?_;obtain ⟨t,y⟩:=zEe C h1;have d:∀ f,QO I f 1 (0+(zqT s).toNat*1) (.int .u8 (zz9.getD (zqT s).toNat 0)):=fun f=>(by rw [show 0+(zqT s).toNat*1=(zqT s).toNat by omega];exact (z _ kB).any);refine zR<|zA<|zN<|Qk<|zR ?_;refine zM<|zC (zN ?_)
 refine zI ?_ ?_<;>intro q
 ·have h:=q;simp at h;omega
 refine Qm<|Qa<|zR<|zM ?_;refine zM ?_;refine zV (zpY U)<|zV (zyE U U)<|zV (zk4 U U U)<|zV (zmU U U kC (rfl:min _ _=58))<|zV (Zh U U zyU (fun hg=>by exact t))<|zV (Qc U zIh (fun hg=>by exact (d _)))<|zV (Uy U zAo)<|zA (zN (Qq ?_))
 first
 | exact zr U U (by rw [y])
theorem zJm (f:JZ I)(h:1<=s/\s<=63)(h1:ZV s=true):kf 234 [.int .u64 s] I (.int .i64 (JC s)):=by
 intro g H w q;refine qe Tryz.func234 Tryz.ntmps234 q ?_;refine zR<|zA<|zN<|Qk ?_;refine zI ?_ ?_<;>intro d
 ·cases d
 refine Qm (Qa (zR (zM<|qcV (vs:=[_]) U zxd (zFY f h h1) ?_)));refine zA<|zN<|Qq ?_;exact zr U U kL
theorem U0:CvT Tryz.prog 3 186 .u64:=⟨kA,kA⟩
theorem zBn:kp 275 171 1 8:=.of kA
theorem zht:ke 233:=.of Tryz.func233 kA kA
theorem zzZ:ke 234:=.of Tryz.func234 kA kA
theorem zyD:ke 235:=.of Tryz.func235 kA kA
theorem ziC:ke 236:=.of Tryz.func236 kA kA
theorem ZZ:Ke (α:=Int) Tryz.prog 3 (.int .i64):=zzJ kA
theorem Jz:kr 171 3 3 (.int .i64 0):=⟨kA,.of kA⟩
theorem zeO:kl 171:=.of kA
theorem UM:kl 22:=.of kA
theorem zhE:kl 274:=.of kA
theorem zp8:ko 275 171 1:=.of kA
theorem zHh (d:JZ I)(f:1<=s/\s<=63)(h1:ZV s=true):kf 234 [.int .u64 (IntKind.u64.wrap s)] I (.int .i64 (JC s)):=by rw [zEK kB];exact zJm d f h1
theorem zr7 {m:Nat}(y:Sl I 1 QF av n c xs)(z:n<=100000)(f:VX m xs=0)(d:s∈xs)(h1:ZV s=false):kf 153 [.slice av n c,.int .i64 s] I (.tuple #[.int .i64 (Qz xs s),.int .i64 (s-Qz xs s),.bool true]):=by have h:=zhJ y z s ((ZJ f).2.2.2 s d);obtain ⟨q,t,w⟩:=zja f d h1;rw [q,t,w] at h;exact h
theorem zeb (e:ZY xs=v)(d:Sl I 1 QF av n c xs)(f:n<=100000)(h0:0<n):kf 236 [.slice av n c] I (.int .i64 v):=by rw [<-e];exact zxv d f h0
theorem ztR (V:PrE I 233 brow bloc bcst bcla bbel rm av bv n c n2 c2 xs rows l)(hn:n<=100000)(j2:n2<=100000)(hl:∀ r∈rows,l<r.length)(hc:VX rows.length xs=0)(f:Nat)(s:Int)(e2:OkS rows.length xs s)(ih:∀ (B:Qu),HLe I B->∀ (s':Int),OkS rows.length xs s'->s'<s->kg 233 ([.int .i64 s']++[Zm brow,Zm bloc,Zm bcst,Zm bcla,Zm bbel]) B [] (zGp (QG rows l) (QT rows xs l f s') (8*(s'-1)))):kg 233 [.int .i64 s,Zm brow,Zm bloc,Zm bcst,Zm bcla,Zm bbel] I [] (zGp (QG rows l) (QT rows xs l (f+1) s) (8*(s-1))):=by
 intro g H w hw;refine qe Tryz.func233 Tryz.ntmps233 hw ?_;have Z:=zJH I;obtain ⟨hs,hV⟩:=V.hV;have hH:=hV.1;have j1:=hV.len;have i9:=(ZJ hc).1;have i0:=(ZJ hc).2.1;have c8:=zeD hc e2;have j5:=zdu (rows:=rows) (l:=l);refine zR (zA<|zN (zR<|Yb U U (fun P=>zA (zN (Qk (zR ?_))))));refine zM ?_;refine qcV (vs:=[_]) U zoV (zjR _ _)<|zN ?_
 refine zI ?_ ?_<;>intro b9
 ·have W:ZV s=true:=b9;have j7:=ztG (n:=rows.length) kB c8 W e2.2.1;obtain ⟨x,v,hx,hv,hQ⟩:=hV.at (show JC s<n2 by omega);have f4:=hl v (je hv);have hu:=QE (d:=0) U f4;have j6:=hQ.len;have hz:(KI s (IntKind.i64.wrap (s-1))==0)=true:=(by unfold ZV at W;rw [ji] at W;exact W.2);refine Qk<|ZW mixed kA<|zq (Qc U UM (fun hg=>by exact V.row.any))<|zq (Qd U)<|zq (Uy U U0)<|YG (cap:=[]) (vs:=[_]) U U zzZ (zHh V.deb c8 W) U U<|zq (zX QM hH) ?_
  refine zq (Qc U QA (fun hg=>by exact zJA hH hx U))<|zq (Qc U Qr (fun hg=>by exact V.loc.any))<|zq (zX Qt hQ) ?_
  refine zq (Qc U Qr (fun hg=>by exact zJA hQ hu U))<|zq (ZE U)<|ZX<|Qa (Qk (zR<|zV (Qc U zeO (fun hg=>by exact V.cst.any))<|KT (ek:=eiv) (ev:=eiv) (m:=(stM rows l)) U Jz U U (.inl V.mp) (fun b6=>zN (Ql<|zU [(8,_),(9,_),(33,_)] (fun T L0 mz E B z=>∃ (A:List Nat) (m:List (Int×Int)),mz=(stM rows l).length-A.length/\E=T/\I=B/\[(b6,VS rm (stM rows l).length A),(P,Yg eiv eiv m)]=z/\WQ m (za9 rows l (v.getD l 0) A)/\A.Nodup/\∀ i∈A,i<(stM rows l).length) ?_ (h:=⟨[],[],U,U,U,U,zoQ,.nil,fun i h=>by cases h⟩)))))
  rintro mz E B z ⟨A,m,rfl,rfl,rfl,rfl,hm,e1,d9⟩;refine zR<|KP (ek:=eiv) (ev:=eiv) (m:=(stM rows l)) (fun s'=>[(b6,VS rm (stM rows l).length s'),(P,Yg eiv eiv m)]) U (fun s'=>.here) U U U U U (.inl V.mp) kJ ?_
  intro t tv s' b1 a2;refine zN<|Qk ?_;refine zI ?_ ?_<;>intro c0
  ·obtain ⟨i,q,hq,b2,rfl⟩:=a2 c0;refine Qm (Qa (Ql (zR<|zV (KX (ek:=eiv) (ev:=eiv) (m:=(stM rows l)) (p:=q) (seen:=A) (i:=i) U (.inl V.mp) (.inr kJ) hq)<|zE ?_)));refine zA<|zN (zR ?_)
   refine zM ?_;refine zM<|zC ?_
   refine zM ?_;refine QI 3 U U U ?_;refine zJ (Qd U)<|zJ (Qx U U U) ?_
   refine Q5 U U U U U<|zN ?_
   refine zI ?_ ?_<;>intro c1
   ·refine Qh (zM<|zM<|Zd (m:=m) (ek:=eiv) (ev:=eiv) (a:=q.1) 0 Jz ZZ U U U U (by repeat (first | exact Upd.here | apply Upd.there | apply QN))<|Qe (Qg ?_));have C:=Uj e1 d9 b2 (jc.1 hq).1
    first
    | exact zm (h:=⟨(stM rows l).length-(A++[i]).length,by rw [jj,jv];have:=C.2.2;rw [jj,jv] at this;omega,A++[i],Vd m q.1 0,U,U,U,U,zpj hm hq (zd9 c1),C.1,C.2.1⟩)
   refine Qm<|Qg ?_;have C:=Uj e1 d9 b2 (jc.1 hq).1
   first
   | exact zm (h:=⟨(stM rows l).length-(A++[i]).length,by rw [jj,jv];have:=C.2.2;rw [jj,jv] at this;omega,A++[i],m,U,U,U,U,zrr hm hq (zm8 c1).2,C.1,C.2.1⟩)
  obtain ⟨rfl,a8⟩:=b1 c0;refine Qy (Qf (Qf (Qj (Qa (zR (zM<|zA (zN (Qq (Qb ?_)))))))))
  first
  | exact Zc U U (fun w hw=>by obtain ⟨I9,c9,d0,d1⟩:=hw.freezeAll;exact ⟨_,I9,[],U,Z.trans c9,d0,U,P,m,U,d1 _ _ kJ,by rw [Uc hz];exact ztI kB hv hm e1 d9 a8⟩)
 have a1:ZV s=false:=b9;obtain ⟨f1,f7,f8,j3,f5,_,_⟩:=VI hc e2 a1;have hz:(KI s (IntKind.i64.wrap (s-1))==0)=false:=(by unfold ZV at a1;rw [jN (show s>0 by omega),Ou] at a1;exact a1);refine Qm (Qa (zR<|zV (Qc U QA (fun hg=>by exact V.cla.any))<|zM ?_));refine qcV (vs:=[_,_]) U zid (zr7 V.hS hn hc f1 a1)<|zM ?_
 refine zE ?_;refine zE ?_;refine zE ?_;refine zA<|zA<|zA (zN (Qk (Qk ?_)))
 have Y:=zJH I;refine U3 mixed<|zT 0 U (Qc U zhE (fun hg=>by exact V.bel.any)) Y<|zT 1 U (Qd U) Y<|zT 3 U (Qc U zhE (fun hg=>by exact V.bel.any)) Y<|zT 4 U (Qd U) Y<|zT 8 U (Qd U) Y<|qd 2 U<|Yi (cap:=[Zm brow,Zm bloc,Zm bcst,Zm bcla,Zm bbel]) (vs:=[_]) U U zht (by exact .nil) (ih _ Z _ f7 f5) U U ?_
 rintro j8 I2 L2 d4 ⟨rfl,ra,N,rfl,a6,d6⟩;have V:=V.mono d4;have Z:=Z.trans d4;have Y:=Y.trans d4;refine Qe<|zD Y<|qd 5 U<|Yi (cap:=[Zm brow,Zm bloc,Zm bcst,Zm bcla,Zm bbel]) (vs:=[_]) U U zht (by exact .nil) (ih _ Z _ f8 kB) U U ?_
 rintro j9 I3 L3 b3 ⟨rfl,rb,O,rfl,d5,d7⟩;have V:=V.mono b3;have a6:=a6.mono b3;have Z:=Z.trans b3;have Y:=Y.trans b3;refine Qe<|zD Y<|qd 6 U<|zpb [(0,_),(1,_)] [[.map (some ra)],[.map (some rb)]] zBn (fun a0=>Qe<|zD Y<|zT 7 U (Zs U zp8) Y<|QH kA<|QP<|Qa (Ql<|zU [(3,_),(8,_),(61,_),(62,_)] (fun T L0 mz E B z=>∃ (j:Nat) (m:List (Int×Int)),mz=2-j/\E=(63,.int .i64 j)::T/\HLe I3 B/\[(a0,.cells (([[Value.map (some ra)],[Value.map (some rb)]]:List (List Value)).flatten).toArray 171 (0,0)),(P,Yg eiv eiv m)]=z/\j<=2/\WQ m (gF (QG rows l) (QT rows xs l f (Qz xs s)) (QT rows xs l f (s-Qz xs s)) j)) ?_ (h:=⟨0,[],U,U,zJH _,U,jd _,zJe⟩)))
 rintro mz E J4 z ⟨j,m,rfl,rfl,hJ,rfl,hj,hm⟩;have V:=V.mono hJ;have a6:=a6.mono hJ;have d5:=d5.mono hJ;have Z:=Z.trans hJ;have d2:=hJ;refine zR<|zC<|zN<|Qk ?_;refine zI ?_ ?_<;>intro c3
 ·have b0:j<2:=by have h:=c3;simp at h;omega
  obtain ⟨rj,mj,bj,f6,a7,b4,e6⟩:∃ rj mj bj,(if j=0 then ra else rb)=rj/\ImO J4 rj (Yg eiv eiv mj)/\zha (QG rows l) (if j=0 then (QT rows xs l f (Qz xs s)) else (QT rows xs l f (s-Qz xs s))) bj mj/\bj<=1000:=by
   rcases (show j=0\/j=1 by omega) with e | e
   ·subst e;exact ⟨ra,N,8*(Qz xs s-1),U,a6,d6,kB⟩
   subst e;exact ⟨rb,O,8*(s-Qz xs s-1),U,d5,d7,kB⟩
  have i1:=b4.small;refine Qm (Qa (Qk (Ql (zR<|zV (QD U U zp8 (fun hg=>kB))<|zV (Qc U zeO (fun hg=>by exact zq2 f6 b0))<|zA<|zN (zR<|zV (Qc U zeO (fun hg=>by exact V.cst.any))<|KT (ek:=eiv) (ev:=eiv) (m:=(stM rows l)) U Jz U U (.inl V.mp) (fun a3=>zN (Ql ?_)))))));refine zU [(3,_),(8,_),(15,_),(61,_),(62,_),(63,_),(68,_)] (fun T L0 mz E B z=>∃ (A:List Nat) (m2:List (Int×Int)),mz=(stM rows l).length-A.length/\E=T/\HLe J4 B/\[(a3,VS rm (stM rows l).length A),(a0,.cells (([[Value.map (some ra)],[Value.map (some rb)]]:List (List Value)).flatten).toArray 171 (0,0)),(P,Yg eiv eiv m2)]=z/\WQ m2 (hF rows l (QT rows xs l f (Qz xs s)) (QT rows xs l f (s-Qz xs s)) j A)/\A.Nodup/\∀ i∈A,i<(stM rows l).length) ?_ (h:=⟨[],m,U,U,zJH _,U,zJj hm,.nil,fun i h=>by cases h⟩);rintro mz E J5 z ⟨A,m2,rfl,rfl,hJ,rfl,e0,c7,c6⟩;have V:=V.mono hJ;have a7:=a7.mono hJ;have d2:=d2.trans hJ;have d3:=hJ;refine zR<|KP (ek:=eiv) (ev:=eiv) (m:=(stM rows l)) (fun s'=>[(a3,VS rm (stM rows l).length s'),(a0,.cells (([[Value.map (some ra)],[Value.map (some rb)]]:List (List Value)).flatten).toArray 171 (0,0)),(P,Yg eiv eiv m2)]) U (fun s'=>.here) U U U U U (.inl V.mp) kJ ?_
  intro t tv s' b1 a2;refine zN<|Qk ?_;refine zI ?_ ?_<;>intro c4
  ·obtain ⟨i,q,hq,b2,rfl⟩:=a2 c4;have f3:=zGJ e0 hq b2;have i5:=zEF d6 d7 kB kB j q.1;refine Qm (Qa (Ql (zR<|zV (KX (ek:=eiv) (ev:=eiv) (m:=(stM rows l)) (p:=q) (seen:=A) (i:=i) U (.inl V.mp) (.inr kJ) hq)<|zE ?_)));refine zA<|zN (zR<|zA (zN (Qk (zR ?_))))
   refine zM<|KT (ek:=eiv) (ev:=eiv) (m:=mj) U Jz U U (.inl a7) (fun b7=>zN (Ql<|zU [(3,_),(8,_),(15,_),(16,_),(61,_),(62,_),(63,_),(68,_),(74,_)] (fun T L0 mz E B z=>∃ (y:List Nat) (v6:Value) (q6:Nat) (L:Go.Kn.Loc),mz=mj.length-y.length/\E=(17,v6)::T/\J5=B/\L++[(b7,VS rj mj.length y),(a3,VS rm (stM rows l).length (A++[i])),(a0,.cells (([[Value.map (some ra)],[Value.map (some rb)]]:List (List Value)).flatten).toArray 171 (0,0)),(P,Yg eiv eiv m2)]=z/\OwnS 3 1 v6 q6 (((zoW mj y).map fun p=>p.2+Yk q.1 p.1).flatMap QF) L/\q6=y.length/\y.Nodup/\∀ i∈y,i<mj.length) ?_ (h:=⟨[],_,0,[],U,U,U,U,OwnS.nil,U,.nil,fun i h=>by cases h⟩)))
   rintro mz E B z ⟨y,v6,q6,L,rfl,rfl,rfl,rfl,e3,j4,a5,a4⟩;have i3:=KH a5 a4;refine zR<|KP (ek:=eiv) (ev:=eiv) (m:=mj) (fun s'=>L++[(b7,VS rj mj.length s'),(a3,VS rm (stM rows l).length (A++[i])),(a0,.cells (([[Value.map (some ra)],[Value.map (some rb)]]:List (List Value)).flatten).toArray 171 (0,0)),(P,Yg eiv eiv m2)]) U (fun s'=>QN .here) U U U U U (.inl a7) kJ ?_
   intro t tv s' b1 a2;refine zN<|Qk ?_;refine zI ?_ ?_<;>intro c5
   ·obtain ⟨i6,p6,b5,e7,rfl⟩:=a2 c5;have j0:=(WC b4 e6 (.refl _) q.1).2.2.2 p6 (je b5);have i4:=VO q.1 p6.1;refine Qm (Qa (Ql (zR<|zV (KX (ek:=eiv) (ev:=eiv) (m:=mj) (p:=p6) (seen:=y) (i:=i6) U (.inl a7) (.inr kJ) b5)<|zE ?_)));refine zE ?_;refine zA<|zA (zN (Qh ?_))
    refine zM ?_;refine zM ?_;refine zM ?_;refine zM ?_;refine qcV (vs:=[_,_]) U zyD (zFw _ _ _)<|zB<|zpb [(0,_)] [QF (p6.2+Yk q.1 p6.1)] QS (fun f9=>?_)
    refine zpa (_) ([(p6.2+Yk q.1 p6.1)].flatMap QF) (L) U U QS e3 ⟨U,fun _=>U,zJF⟩ (YJ _) ?_;intro v9 L9 e4 _;rw [<-jh] at e4;refine zA<|Qe<|Qg ?_;have C:=Uj a5 a4 e7 (jc.1 b5).1;exact zm (h:=⟨mj.length-(y++[i6]).length,by rw [jj,jv];have:=C.2.2;rw [jj,jv] at this;omega,y++[i6],v9,q6+1,L9,U,U,U,U,by rw [zeF b5,Od];exact e4,by rw [jj,jv];omega,C.1,C.2.1⟩)
   obtain ⟨rfl,a9⟩:=b1 c5;have d8:=(zcq a5 a4 a9).length_eq;rw [OG] at d8;have i2:=b4.ne;have e5:=WC b4 e6 (zhK a5 a4 a9) q.1;refine Qy (Qf (Qf (Qj (Qa<|zb8 e3 QL kC Q6 (fun I7 e9 i7 i8 e8 b8=>?_)))));subst e8;have d3:=d3.trans e9;have Y:=zJH I7;refine VR<|ZM I7 [] mixed<|zT 0 U (Qd U) Y<|zT 1 U (Qd U) Y<|zT 3 U (Qd U) Y ?_
   refine Zv 2 4 U U kA ?_ ?_
   focus
    refine zV (zc4 (m:=m2) (a:=q.1) Jz ZZ U U (fun _=>(by exact Mem.m3)))<|Qe<|zD Y<|qd 4 U<|qcV (vs:=[_]) U ziC (zeb e5.1 b8 kB kB) ?_
   rotate_left
   refine qcV (vs:=[_]) U ziC (zeb e5.1 b8 kB kB)<|Qe<|zD Y<|qd 2 U<|zV (zc4 (m:=m2) (a:=q.1) Jz ZZ U U (fun _=>(by exact Mem.m3))) ?_
   all_goals
    refine Qe<|zD Y<|zT 5 U (Zf U U U (fun hg=>kB)) Y<|qd 6 U<|Zd (m:=m2) (ek:=eiv) (ev:=eiv) (a:=q.1) ((ZR m2 q.1).getD 0+YF (QG rows l) (if j=0 then (QT rows xs l f (Qz xs s)) else (QT rows xs l f (s-Qz xs s))) q.1) Jz ZZ U U U U (by repeat (first | exact Upd.here | apply Upd.there | apply QN))<|Qe<|zD Y<|QH kA<|QP<|Qg ?_
    have C:=Uj c7 c6 b2 (jc.1 hq).1;rw [f3,zkL b0];exact zm (h:=⟨(stM rows l).length-(A++[i]).length,by rw [jj,jv];have:=C.2.2;rw [jj,jv] at this;omega,A++[i],Vd m2 q.1 (zjG (QG rows l) (QT rows xs l f (Qz xs s)) (QT rows xs l f (s-Qz xs s)) (j+1) q.1),U,U,d3,U,zvQ e0 hq,C.1,C.2.1⟩)
  obtain ⟨rfl,a8⟩:=b1 c4;exact Qy (Qf (Qf (Qj (Qg (Qa (Qh (zB<|zM (Qe<|zm (h:=⟨2-(j+1),kB,j+1,m2,U,U,d2,U,kB,zEQ e0 c7 c6 a8⟩)))))))))
 have f0:2<=j:=kd c3;have f2:j=2:=kB;subst f2;refine Qy (Qf (Qf (Qj (Qa (zR (zM<|zA (zN (Qq ?_))))))))
 first
 | exact Zc U U (fun w hw=>by obtain ⟨I9,c9,d0,d1⟩:=hw.freezeAll;exact ⟨_,I9,[],U,Z.trans c9,d0,U,P,m,U,d1 _ _ kJ,by rw [Wk hz];exact zy8 (List.ne_nil_of_length_pos WS) d6 d7 kB kB kB hm⟩)
theorem zAm:ke 199:=.of Tryz.func199 kA kA
theorem zBw:ki 171 1:=.of kA
theorem zzx:ki 274 1:=.of kA
theorem zGb:kj 171 (.map none):=.of kA
theorem zFZ:kj 274 .nilFunc:=.of kA
theorem zgZ {brow bloc bcst bcla bbel rm:Nat}{av bv:Option Addr}{n c n2 c2:Nat}{xs:List Int}{rows:List (List Int)}{l:Nat}(w:n<=100000)(h:n2<=100000)(t:∀ r∈rows,l<r.length)(q:VX rows.length xs=0):∀ (f:Nat) (I:Qu),PrE I 233 brow bloc bcst bcla bbel rm av bv n c n2 c2 xs rows l->∀ (s:Int),OkS rows.length xs s->s.toNat<=f->kg 233 ([.int .i64 s]++[Zm brow,Zm bloc,Zm bcst,Zm bcla,Zm bbel]) I [] (zGp (QG rows l) (QT rows xs l f s) (8*(s-1)))
 | 0,_,_,s,hok,hf=>by have:=hok.1;omega
 | f+1,I,hE,s,hok,hf=>ztR hE w h t q f s hok fun B y C d z=>zgZ w h t q f B (hE.mono y) C d (by have:=d.1;have:=hok.1;omega)
theorem zqI (q:PrE I 233 brow bloc bcst bcla bbel rm av bv n c n2 c2 xs rows l)(w:n<=100000)(h:n2<=100000)(t:∀ r∈rows,l<r.length)(d:VX rows.length xs=0):kg 233 ([.int .i64 (IntKind.i64.wrap (1*2^(min (n2:Int).toNat IntKind.i64.bits))-1)]++[Zm brow,Zm bloc,Zm bcst,Zm bcla,Zm bbel]) I [] (zGp (QG rows l) (QT rows xs l 64 (ZS rows.length)) (8*(ZS rows.length-1))):=by have f:=q.hV.len;subst f;exact zgZ w h t d 64 I q (ZS rows.length) (zaU d) (by have:=(KQ (n:=(rows.length:Int)) ⟨(ZJ d).1,(ZJ d).2.1⟩).2;omega)
theorem zBG (hS:Sl I 1 QF av n c xs)(hn:n<=100000)(hV:SlN I bv n2 c2 rows)(c7:n2<=100000)(a9:JZ I)(hl:∀ r∈rows,l<r.length)(d3:l<=64)(hc:VX rows.length xs=0):kf 199 [.slice bv n2 c2,.slice av n c,.int .i64 l] I (.int .i64 (ZY (QT rows xs l 64 (ZS rows.length)))):=by
 intro g H w hw;refine qe Tryz.func199 Tryz.ntmps199 hw ?_;have C:=zJH I;obtain ⟨hs,hV⟩:=hV;have hH:=hV.1;have d8:=hV.len;have d7:=(ZJ hc).1;have d2:=(ZJ hc).2.1;have e3:=zdu (rows:=rows) (l:=l);have e2:=zbX (n:=(n2:Int)) ⟨kB,kB⟩;refine zR<|QU U U U (fun W=>QU U U U (fun Y=>QU U U U (fun Z=>zA<|zN (zR<|Yb U U (fun P=>Wa (m:=[]) (ek:=eiv) (ev:=eiv) (a:=0) 0 Jz ZZ U U U U (by repeat (first | exact Upd.here | apply Upd.there | apply QN))<|zM<|Qv zGb U U (fun a0=>?_))))))
 refine zS zBw ?_;refine zN<|Qk<|zR ?_;refine zL UM<|zQ QM ?_
 refine zM<|zN<|Ql ?_;refine zU [(3,_),(4,_),(5,_),(7,_),(16,_),(17,_)] (fun T L0 mz E B y=>∃ (k:Nat),mz=n2-k/\E=(18,.int .i64 k)::T/\I=B/\[(a0,.cells #[.map (some P)] 171 (0,0)),(P,Yg eiv eiv (stM (rows.take k) l)),(Z,.cells #[.int .i64 l] 3 (0,0)),(Y,.cells #[.slice av n c] 23 (0,0)),(W,.cells #[.slice bv n2 c2] 22 (0,0))]=y/\k<=n2) ?_ (h:=⟨0,U,U,U,U,jd _⟩);rintro mz E B y ⟨k,rfl,rfl,rfl,rfl,hk⟩;refine zR<|zC<|zN<|Qk ?_;refine zI ?_ ?_<;>intro a6
 ·have b3:k<n2:=kd a6;obtain ⟨x,v,hx,hv,hQ⟩:=hV.at b3;have c6:=hl v (je hv);have hu:=QE (d:=0) U c6;have e4:=hQ.len;refine Qm (Qa (Qk (Ql (zR<|zV (zX QM hH)<|zV (Qc U QA (fun hg=>by exact zJA hH hx U))<|zA<|zN (zR ?_)))));refine zM<|zL Qr ?_
  refine zV (zX Qt hQ) ?_;refine zV (Qc U Qr (fun hg=>by exact zJA hQ hu U))<|zC (zN ?_)
  refine zI ?_ ?_<;>intro a7
  focus
   have c8:v.getD l 0≠8589934592:=(by simpa using a7);have z:=zJH I;refine VR<|ZM I [(a0,.cells #[.map (some P)] 171 (0,0)),(Z,.cells #[.int .i64 l] 3 (0,0)),(Y,.cells #[.slice av n c] 23 (0,0)),(W,.cells #[.slice bv n2 c2] 22 (0,0))] mixed<|zT 0 U (Qc U zeO (fun hg=>by exact QO.h0 U)) z<|zT 1 U (Qd U) z<|zT 2 U (Qc U Qr (fun hg=>by exact QO.h1 U)) z<|zT 3 U (zX Qt hQ) z<|zT 4 U (Qc U Qr (fun hg=>by exact zJA hQ hu U)) z<|qd 5 U<|Zd (m:=stM (rows.take k) l) (ek:=eiv) (ev:=eiv) (a:=v.getD l 0) 0 Jz ZZ U U U U (by repeat (first | exact Upd.here | apply Upd.there | apply QN))<|Qe<|zD z<|QH kA ?_
   refine QP ?_;rw [zwU hv c8];refine Qg<|Qa<|Qh<|zB ?_
  rotate_left
  have c4:v.getD l 0=8589934592:=(by simpa using a7);rw [zsv hv c4];refine Qm<|Qg<|Qa<|Qh<|zB ?_
  all_goals
   exact zM (Qe<|zm (h:=⟨n2-(k+1),kB,k+1,U,U,U,U,kB⟩))
 have c5:n2<=k:=kd a6;rw [jr (show rows.length<=k by omega)];refine Qy (Qf (Qf (Qj (Qa (zR<|Qv zFZ U U (fun a4=>zN (zR<|zV (Zn (us:=[]) (vs:=[_,_,_,_,_]) U U)<|zS zzx ?_)))))));refine zN (zR<|zA (zN (Qk (Qk<|Vz (fun I2 a1 f=>?_)))));have hS:=hS.mono a1;have hV:=hV.mono a1;have a9:=a9.mono a1;have C:=C.trans a1;have hE:PrE I2 233 W Z a0 Y a4 P av bv n c n2 c2 xs rows l:=⟨.imm (f _ _ kD) U,.imm (f _ _ kD) U,.imm (f _ _ kD) U,.imm (f _ _ kD) U,.imm (f _ _ kD) U,f _ _ kD,a9,hS,⟨hs,hV⟩⟩;have z:=zJH I2;refine U3 mixed<|zT 0 U (Qc U zhE (fun hg=>by exact hE.bel.any)) z<|zT 1 U (Qc U UM (fun hg=>by exact hE.row.any)) z<|zT 2 U (Zs U QM) z<|zT 3 U (U7 U U (fun hg=>kB)) z<|zT 4 U (Zf U U U (fun hg=>kB)) z<|qd 5 U<|Yi (cap:=[Zm W,Zm Z,Zm a0,Zm Y,Zm a4]) (vs:=[_]) U U zht (by exact .nil) (zqI hE hn c7 hl hc) U U ?_
 rintro e5 I3 L3 b5 ⟨rfl,c0,m,rfl,b0,b1⟩;have C:=C.trans b5;have z:=z.trans b5;have d9:=b1.small;have e0:=b1.ne;refine Qe<|zD z<|qd 6 U<|KT (ek:=eiv) (ev:=eiv) (m:=m) U Jz U U (.inl b0) (fun a5=>Qe<|zD z<|QH kA<|QP<|Qa (Ql<|zU [(40,_)] (fun T L0 mz E B y=>∃ (A:List Nat) (v6:Value) (q6:Nat) (L:Go.Kn.Loc),mz=m.length-A.length/\E=(11,v6)::T/\I3=B/\L++[(a5,VS c0 m.length A)]=y/\OwnS 3 1 v6 q6 (((zoW m A).map (·.2)).flatMap QF) L/\q6=A.length/\A.Nodup/\∀ i∈A,i<m.length) ?_ (h:=⟨[],_,0,[],U,U,U,U,OwnS.nil,U,.nil,fun i h=>by cases h⟩)))
 rintro mz E B y ⟨A,v6,q6,L,rfl,rfl,rfl,rfl,b7,e1,a3,a2⟩;have d4:=KH a3 a2;refine zR<|KP (ek:=eiv) (ev:=eiv) (m:=m) (fun s'=>L++[(a5,VS c0 m.length s')]) U (fun s'=>QN .here) U U U U U (.inl b0) kJ ?_
 intro t tv s' c9 b9;refine zN<|Qk ?_;refine zI ?_ ?_<;>intro a8
 ·obtain ⟨i,q,hq,d0,rfl⟩:=b9 a8;refine Qm (Qa (Ql (zR<|zV (KX (ek:=eiv) (ev:=eiv) (m:=m) (p:=q) (seen:=A) (i:=i) U (.inl b0) (.inr kJ) hq)<|zE ?_)));refine zA<|zN<|Qh ?_;refine zM ?_;refine zM ?_;refine zpb [(0,_)] [QF q.2] QS (fun d1=>?_);refine zpa (_) ([q.2].flatMap QF) (L) U U QS b7 ⟨U,fun _=>U,zJF⟩ (YJ _) ?_;intro v9 L9 b8 _;rw [<-jh] at b8;refine zA<|Qe<|Qg ?_;have b4:=Uj a3 a2 d0 (jc.1 hq).1;exact zm (h:=⟨m.length-(A++[i]).length,by rw [jj,jv];have:=b4.2.2;rw [jj,jv] at this;omega,A++[i],v9,q6+1,L9,U,U,U,U,by rw [zeF hq,Od];exact b8,by rw [jj,jv];omega,b4.1,b4.2.1⟩)
 obtain ⟨rfl,V⟩:=c9 a8;have b2:=(zcq a3 a2 V).length_eq;rw [OG] at b2;refine Qy (Qf (Qf (Qj (Qa (Qk<|zb8 b7 QL kC Q6 (fun I5 c3 d5 d6 c1 b6=>?_))))));subst c1;have C:=C.trans c3;refine Qh (zM<|qcV (vs:=[_]) U ziC (zeb (zoe b1 (zhK a3 a2 V)) b6 kB kB) ?_);exact zA (zN (Qq<|zp C U U kL))
theorem zCC (hS:Sl I 1 QF av n c xs)(hn:n<=100000)(z:SlN I bv n2 c2 rows)(a2:n2<=100000)(Z:JZ I)(hr:Vc rows=0)(hc:VX rows.length xs=0):kf 152 [.slice bv n2 c2,.slice av n c] I (.int .i64 (zgo rows xs)):=by
 intro g H w hw;refine qe Tryz.func152 Tryz.ntmps152 hw ?_;obtain ⟨hs,z⟩:=z;have hH:=z.1;have a7:=z.len;obtain ⟨a8,a9,V,a3⟩:=Js hr;obtain ⟨x0,C,a5,a4,a0⟩:=z.at (show 0<n2 by omega);have b2:=a0.len;have t:=QJ (d:=([]:List Int)) a4;have a6:C.length<=64:=(by rw [<-t];exact V);refine zR<|zA<|zN<|Qk<|zR ?_;refine zM ?_;refine zV (zX QM hH)<|zV (Qc U QA (fun hg=>by exact zJA (k:=0) hH a5 U))<|zQ Qt ?_
 refine zM<|zN<|Ql ?_;refine zU [(0,_),(1,_),(9,_)] (fun T L0 mz E B q=>∃ (k:Nat) (Y:Int),mz=C.length-k/\E=(4,.int .i64 Y)::(10,.int .i64 k)::T/\I=B/\[]=q/\k<=C.length/\Y=zdp rows xs k/\0<=Y/\Y<=k*1099511627776) ?_ (h:=⟨0,_,U,U,U,U,jd _,U,AC _,(show (0:Int)<=((0:Nat):Int)*1099511627776 by decide)⟩);rintro mz E B q ⟨k,Y,rfl,rfl,rfl,rfl,hk,W,b0,b1⟩;refine zR<|zC<|zN<|Qk ?_;refine zI ?_ ?_<;>intro f
 ·have a1:k<C.length:=kd f;refine Qm (Qa (Qk (Ql (zR (zM<|zA (zN (Qh ?_)))))));refine zM ?_;refine zM ?_;refine zM ?_;refine zM ?_;refine qcV (vs:=[_,_,_]) U zAm (zBG (l:=k) hS hn ⟨hs,z⟩ a2 Z (fun r hm=>by rw [(a3 r hm).1,t];omega) kB hc)<|zV (Zf U U U (fun _=>by (have P:0<=ZY (QT rows xs k 64 (ZS rows.length))/\ZY (QT rows xs k 64 (ZS rows.length))<=1099511627776:=zaJ (cs:=(QT rows xs k 64 (ZS rows.length))) (V2 _ _) kQ (QT rows xs k 64 (ZS rows.length)).length;omega))) ?_
  refine zA (Qe (Qg (Qa (Qh<|zB<|zM (Qe ?_)))));exact zm (h:=⟨C.length-(k+1),kB,k+1,_,U,U,U,U,kB,by rw [zc6,W],by have P:0<=ZY (QT rows xs k 64 (ZS rows.length))/\ZY (QT rows xs k 64 (ZS rows.length))<=1099511627776:=zaJ (cs:=(QT rows xs k 64 (ZS rows.length))) (V2 _ _) kQ (QT rows xs k 64 (ZS rows.length)).length;omega,by have P:0<=ZY (QT rows xs k 64 (ZS rows.length))/\ZY (QT rows xs k 64 (ZS rows.length))<=1099511627776:=zaJ (cs:=(QT rows xs k 64 (ZS rows.length))) (V2 _ _) kQ (QT rows xs k 64 (ZS rows.length)).length;omega⟩)
 have y:k=C.length:=kd f;refine Qy (Qf (Qf (Qj (Qa (zR (zM<|zA (zN (Qq ?_))))))))
 first
 | exact zr U U (by rw [W,y,<-t];rfl)
end
end Go.Proofs.YtodakphagkommaaGreatDoor
namespace Go.Kn
section
open Go
def zIa {α:Type}(P:Program)(f:FuncId)(cap:List Value)(I:Qu)(rel:Value->α->Qu->Prop)(xs:List α):Prop:=
 ∀ g l (J Jx:List α->Qu->Qu->Prop),(∀ pre I1 I2 H',HLe I1 I2->J pre I1 H'->J pre I2 H')->
  (∀ pre x v I' H',pre++[x]<+:xs->HLe I I'->rel v x I'->J pre I' H'->W9 P g l [v] I' H' fun b I2 H2=>if b then J (pre++[x]) I2 H2 else Jx (pre++[x]) I2 H2)->
  ∀ I0 H w,HLe I I0->J [] I0 H->St g I0 H [] w->Calls P f ((.func (.yield l) #[] #[]:Value)::cap).toArray w fun e w'=>∃ v I' H',e= .returned v/\HLe I0 I'/\St g I' H' [] w'/\(J xs I' H'\/∃ pre,pre<+:xs/\Jx pre I' H')
theorem zIa.mono {y:Type}{P:Program}{f:FuncId}{j:List Value}{I o:Qu}{rel:Value->y->Qu->Prop}{u:List y}(h:zIa P f j I rel u)(F:HLe I o):zIa P f j o rel u:=
 fun g l J C N M B H w h0 G Q=>h g l (fun a d i=>HLe o d/\J a d i) (fun a d i=>HLe o d/\C a d i)
  (fun a d p z h12 ⟨h1,h2⟩=>⟨h1.trans h12,N a d p z h12 h2⟩)
  (fun a x v d i s _ O ⟨h2,h3⟩ t W K=>by
   obtain ⟨E,n,q,D,T,hR⟩:=M a x v d i s h2 O h3 t W K;refine ⟨E,n,q,D,T,hR.mono ?_⟩;rintro e V ⟨b,p,A,r,h4,h5,h6⟩;refine ⟨b,p,A,r,h4,h5,?_⟩
   cases b with
   | true=>exact ⟨h2.trans h4,h6⟩
   | false=>exact ⟨h2.trans h4,h6⟩) B H w (F.trans h0) ⟨h0,G⟩ Q |>.mono fun e Y ⟨v,d,i,r,h1,h2,h3⟩=>⟨v,d,i,r,h1,h2,h3.elim (fun h=>.inl h.2) (fun ⟨a,s,h⟩=>.inr ⟨a,s,h.2⟩)⟩
section
variable {g:World} {I d H:Qu} {b a L K A B:Loc} {w f:World}
theorem St.permL (h:St g I H b w)(i:a.Perm b):St g I H a w:=h.perm (fun _p=>i.mem_iff) ((i.map (·.1)).nodup_iff.2 h.nodup)
end
section
variable {a:Type} {C:Cx} {Q:Exit->Act->World->Prop} {E g:Env} {I h:Qu} {d b L Z R:Loc}
variable {i:List a->Qu->Qu->Loc->Prop} {j:Code->List a->Qu->Qu->Loc->Prop} {f:List a}
end
section
variable {b:Type} {P:Program} {N:Nat} {g:World} {p:Nat} {a d:Code} {f:FuncId} {h:List Value} {rel:Value->b->Qu->Prop} {i:List b} {E:Env} {I H:Qu} {L B:Loc}
end
section
variable {b:Type} {P:Program} {N:Nat} {g:World} {H:Qu} {Q:Exit->Act->World->Prop} {h:Operand} {p:Nat} {a d:Code} {f:FuncId} {i:List Value} {rel:Value->b->Qu->Prop} {j:List b} {E:Env} {I:Qu} {L:Loc}
end
section
variable {P:Program} {r:Option Nat} {N:Nat} {g:World} {H:Qu} {Q:Exit->Act->World->Prop} {E d:Env} {I f:Qu} {b a L R:Loc} {h:List Nat}
end
end
end Go.Kn
namespace Go.Proofs.YtodakphagkommaaGreatDoor
section
open Go Go.Kn Go.Proofs
def Vf (zs:List Int):List Int:=zs.mergeSort fun x y=>decide (x<=y)
def zJn (s:Int)(x y:List Int):List Int:=Vf ((x++y)++[s])
def zGK (X Y:List (List Int))(s:Int):List (List Int):=X.flatMap fun x=>Y.map (zJn s x)
def zgX:Nat->Int->List (List Int)
 | 0,_=>[]
 | f+1,s=>if ZV s=true then [[]] else (zBQ s 64 (WO s s)).flatMap fun a=>if zii a s then zGK (zgX f a) (zgX f (s-a)) s else []
def zwi (x y:Int):Int:=if x<y then -1 else if x>y then 1 else 0
def zl1:List Int->List Int->Int
 | [],[]=>0
 | [],_::_=> -1
 | _::_,[]=>1
 | x::a,y::b=>if zwi x y≠0 then zwi x y else zl1 a b
def zDj:Nat->Int->Nat
 | 0,_=>0
 | f+1,s=>if ZV s=true then 1 else ((zBQ s 64 (WO s s)).map fun a=>if zii a s then zDj f a*zDj f (s-a) else 0).sum
variable{s:Int}
theorem zAh {X Y:List (List Int)}:(zGK X Y s).length=X.length*Y.length:=by
 unfold zGK
 induction X with
 | nil=>simp
 | cons x X ih=>rw [jV,jj,ih,ju,jx,Nat.succ_mul,Nat.add_comm]
theorem zai:∀ (f:Nat) (s:Int),(zgX f s).length=zDj f s
 | 0,_=>rfl
 | f+1,s=>by
  simp only [zgX,zDj];split
  ·rfl
  ·rw [List.length_flatMap];congr 1;refine OK fun a _=>?_;split
   ·rw [zAh,zai f a,zai f (s-a)]
   ·rfl
theorem zsi:((List.range 7).all fun n=>n==0||decide (zDj 7 (ZS (n:Int))<=945))=true:=kA
variable{n:Nat}
theorem zhx (h1:1<=n)(h6:n<=6):(zgX 7 (ZS (n:Int))).length<=945:=by have h:=jk.1 zsi n (jq.2 kB);have a:(n==0)=false:=(by simp;omega);rw [a,Ai,jG] at h;rw [zai];exact h
structure HdP (I:Qu) where
 h:Hd
 v:List Int
 ok:Sl I 1 QF h.a h.n h.c v
 len:v.length<=1000
instance (I : Qu) : Inhabited (HdP I) := ⟨⟨⟨none, 0, 0⟩, [], Sl.nil, by simp⟩⟩
def Y5 {I:Qu}(p:HdP I):Value:=.slice p.h.a p.h.n p.h.c
variable{cl:List Int}
theorem zqe (d:VX n cl=0)(o:s∈cl):ZV s=false:=by
 have i:=(ZJ d).2.2.2 s o;obtain ⟨f,g,b⟩:=zau (WH d s o) (jn 1);have b:Jr cl s (Jd cl s 1)=true:=b;unfold Jr at b;simp only [ji] at b;generalize Jd cl s 1=a at f g b
 cases h:ZV s with
 | false=>rfl
 | true=>
  exfalso;have k1:=b.1.1.1;rw [zxs kB kB] at k1;have j:((List.range 64).all fun s=>(List.range 64).all fun a=>a==0|| !(ZV (s:Int))|| !(JE a s)||(a==s))=true:=kA;have h0:=jk.1 j s.toNat (jq.2 kB);have h0:=jk.1 h0 a.toNat (jq.2 kB);rw [show ((s.toNat:Nat):Int)=s by omega,h,k1,show (a.toNat==0)=false by simp;omega] at h0;have:a.toNat=s.toNat:=by simpa using h0
  omega
theorem zkX {m:Int}:iA m cl s=zdC m cl s/\iB m cl s=zdH m cl s:=by
 by_cases h:VY m cl s=0
 ·obtain ⟨d,f⟩:=zF4 h;obtain ⟨g,i⟩:=zmF h
  have b:VX m cl=0:=by
   unfold VY at h;by_cases e:VX m cl=0
   ·exact e
   ·rw [jb e] at h;exact absurd h e
  have a:s∈cl:=by
   unfold VY at h;rw [ja (fun e=>e b)] at h
   cases e:cl.any (fun c=>c==s) with
   | true=>simpa using e
   | false=>rw [e] at h;simp at h
  obtain ⟨n,rfl⟩:∃ n:Nat,m=n:=⟨m.toNat,by have:=ZJ b;omega⟩;obtain ⟨g1,g2,_⟩:=zja b a (zqe b a);rw [d,f,g,i,g1,g2];exact ⟨U,U⟩
 ·obtain ⟨d,f⟩:=zqL h;obtain ⟨g,i⟩:=zkW h;rw [d,f,g,i];exact ⟨U,U⟩
inductive Tr where
 | leaf (w:Nat)
 | node (a b:Tr)
def Tr.mask:Tr->Nat
 | .leaf w=>2^w
 | .node a b=>a.mask+b.mask
def Tr.ok (n:Nat):Tr->Prop
 | .leaf w=>w<n
 | .node a b=>a.ok n/\b.ok n/\a.mask&&& b.mask=0
def Tr.has (w:Nat):Tr->Prop
 | .leaf v=>v=w
 | .node a b=>a.has w\/b.has w
def Tr.sets:Tr->List Nat
 | .leaf _=>[]
 | .node a b=>(a.mask+b.mask)::(a.sets++b.sets)
def bl (S:List Int)(f:Int->Int)(x:Int):Int:=(S.map fun y=>Yk x y+f y).foldl KY 1048576
def mn (S:List Int)(f:Int->Int):Int:=ZY (S.map f)
variable{f:Int->Int}{x y:Int}
theorem zhl {S:List Int}(h:y∈S):bl S f x<=Yk x y+f y:=(JW _ _).1 _ (jt.2 ⟨y,h,U⟩)
theorem zt7 {S:List Int}:bl S f x<=1048576:=(JW _ _).2.1
theorem zyM {S:List Int}{c:Int}(h:∀ y∈S,c<=Yk x y+f y)(h1:c<=1048576):c<=bl S f x:=by
 rcases (JW (S.map fun y=>Yk x y+f y) 1048576).2.2 with e | e
 ·unfold bl;rw [e];exact h1
 ·obtain ⟨y,b,a⟩:=jt.1 e;have:=h y b;unfold bl;rw [<-a];exact this
theorem zkF {S b:List Int}{d:Int->Int}(g:∀ y,y∈S↔y∈b)(h:∀ y∈S,f y=d y):bl S f x=bl b d x:=by
 apply Int.le_antisymm
 ·refine zyM (fun y a=>?_) zt7;have:=(g y).2 a;rw [<-h y this];exact zhl this
 ·refine zyM (fun y a=>?_) zt7;rw [h y a];exact zhl ((g y).1 a)
variable{st:List Int}
theorem zjd :YF st (st.map f) x=bl st f x:=by unfold YF bl;rw [zb1];congr 1;refine List.ext_getElem kJ fun i h1 h2=>?_;simp at h1;rw [List.getElem_map,List.getElem_map,List.getElem_range];rw [QJ (jf h1),QJ (x:=f st[i]) (by rw [jB,jf h1];rfl)]
theorem zs7 {S:List Int}(h:y∈S):mn S f<=f y:=
 (XA (AG (jt.2 ⟨y,h,U⟩))).2 _ (jt.2 ⟨y,h,U⟩)
theorem zz7 {S:List Int}(h:S≠[]):∃ y∈S,mn S f=f y:=by obtain ⟨y,a,e⟩:=jt.1 (XA (xs:=S.map f) (by simpa using h)).1;exact ⟨y,a,e.symm⟩
def cT (S:List Int)(u:Nat->Int):Tr->Int->Int
 | .leaf w,x=>Y1 (u w) x
 | .node a b,x=>bl S (cT S u a) x+bl S (cT S u b) x
theorem zjg (u x:Int):Y1 u x=0\/Y1 u x=1048576:=by unfold Y1;split<;>simp
theorem zla {S:List Int}(h:∀ y∈S,0<=f y):0<=bl S f x:=zyM (fun y a=>by have:=h y a;have:=(VO x y).1;omega) kC
theorem zk1 {S:List Int}{u:Nat->Int}:∀ (T:Tr) (x:Int),0<=cT S u T x
 | .leaf w,x=>by unfold cT;rcases zjg (u w) x with h | h<;>omega
 | .node a b,x=>by
  unfold cT;have h1:=zla (x:=x) fun y (_:y∈S)=>zk1 (S:=S) (u:=u) a y;have h2:=zla (x:=x) fun y (_:y∈S)=>zk1 (S:=S) (u:=u) b y;omega
theorem zdQ {S i:List Int}{u j:Nat->Int}(d:∀ y,y∈S↔y∈i):∀ (T:Tr) (x:Int),(∀ w,T.has w->u w=j w)->cT S u T x=cT i j T x
 | .leaf w,x,h=>by unfold cT;rw [h w rfl]
 | .node a b,x,h=>by
  unfold cT;rw [zkF d fun y _=>zdQ d a y fun w g=>h w (.inl g),zkF d fun y _=>zdQ d b y fun w g=>h w (.inr g)]
theorem JV:∀ T:Tr,1<=T.mask
 | .leaf w=>Nat.one_le_two_pow
 | .node a b=>by have:=JV a;have:=JV b;show 1<=a.mask+b.mask;omega
theorem zp2 (x:Int):Yk x x=0:=by unfold Yk;rw [jb rfl]
theorem zez {S:List Int}{u:Nat->Int}(h0:0∈S):∀ (n:Nat) (T:Tr),T.ok n->(∀ w,w<n->u w=8589934592\/u w∈S)->∃ x∈S,cT S u T x<=8*((T.mask:Int)-1)
 | n,.leaf w,hT,hu=>by
  rcases hu w hT with h | h
  ·exact ⟨0,h0,by unfold cT Y1;rw [ja (by simp [h])];have:=JV (.leaf w);omega⟩
  ·exact ⟨u w,h,by unfold cT Y1;rw [ja kJ];have:=JV (.leaf w);omega⟩
 | n,.node a b,⟨ha,hb,hd⟩,hu=>by
  obtain ⟨x,d,h1⟩:=zez h0 n a ha hu;obtain ⟨y,i,h2⟩:=zez h0 n b hb hu;refine ⟨x,d,?_⟩;unfold cT;have g:=zhl (f:=cT S u a) (x:=x) d;rw [zp2] at g;have j:=zhl (f:=cT S u b) (x:=x) i;have l:=(VO x y).2;have o:((Tr.node a b).mask:Int)=a.mask+b.mask:=(by show ((a.mask+b.mask:Nat):Int)=_;omega);have:=JV b;have:=JV a;omega
def Uh (cl:List Int):Nat->Int->Tr
 | 0,_=>.leaf 0
 | f+1,s=>if ZV s=true then .leaf (JC s) else .node (Uh cl f (Qz cl s)) (Uh cl f (s-Qz cl s))
theorem zhu {f:Nat}(h:ZV s=true):Uh cl (f+1) s= .leaf (JC s):=by simp only [Uh];rw [jb h]
theorem zhs {f:Nat}(h:ZV s=false):Uh cl (f+1) s= .node (Uh cl f (Qz cl s)) (Uh cl f (s-Qz cl s)):=by simp only [Uh];rw [ja (by rw [h];decide)]
theorem ziw:((List.range 64).all fun s=> !ZV (s:Int)||(2^JC (s:Int)==s))=true:=kA
theorem zif (o:1<=s/\s<=63)(h:ZV s=true):2^JC s=s.toNat:=by have h0:=jk.1 ziw s.toNat (jq.2 kB);rw [show ((s.toNat:Nat):Int)=s by omega,h] at h0;simpa using h0
theorem zgE:((List.range 6).all fun w=>ZV ((2^w:Nat):Int)&&(JC ((2^w:Nat):Int)==w)&&decide (2^w<64))=true:=kA
variable{w:Nat}
theorem zsg (h:w<6):ZV ((2^w:Nat):Int)=true/\JC ((2^w:Nat):Int)=w/\2^w<64:=by have h0:=jk.1 zgE w (jq.2 h);simp only [ji,jW,jG] at h0;exact ⟨h0.1.1,h0.1.2,h0.2⟩
section
variable {n:Nat} {a:List Int} (b:VX n a=0)
include b
theorem ze8:∀ (f:Nat) (s:Int),s.toNat<=f->OkS n a s->(Uh a f s).ok n/\(Uh a f s).mask=s.toNat/\∀ c∈(Uh a f s).sets,(c:Int)∈a
 | 0,s,hf,h=>by have:=h.1;omega
 | f+1,s,hf,h=>by
  have g:=zeD b h;have h6:=(ZJ b).2.1
  cases h1:ZV s with
  | true=>
   rw [zhu h1];exact ⟨ztG (n:=n) kB g h1 h.2.1,zif g h1,fun c d=>by cases d⟩
  | false=>
   obtain ⟨i,t,u,B,C,z,_⟩:=VI b h h1;obtain ⟨A,_,_⟩:=zcL kB kB z;obtain ⟨o,j,p⟩:=ze8 f _ kB t;obtain ⟨q,l,r⟩:=ze8 f _ kB u;rw [zhs h1];refine ⟨⟨o,q,?_⟩,?_,fun c d=>?_⟩
   ·rw [j,l,show (s-Qz a s).toNat=s.toNat -(Qz a s).toNat by omega,B6];exact A
   ·show _+_=_;rw [j,l];omega
   ·rcases jo.1 d with rfl | d
    ·rw [j,l,show (((Qz a s).toNat+(s-Qz a s).toNat:Nat):Int)=s by omega];exact i
    ·rcases jC.1 d with d | d
     ·exact p c d
     ·exact r c d
end
def uF (rows:List (List Int))(l:Nat)(w:Nat):Int:=(rows.getD w []).getD l 0
theorem zaI {rows:List (List Int)}{cl:List Int}{l n:Nat}(a:VX n cl=0):∀ (f:Nat) (s:Int),s.toNat<=f->OkS n cl s->QT rows cl l f s=(QG rows l).map (cT (QG rows l) (uF rows l) (Uh cl f s))
 | 0,s,hf,h=>by have:=h.1;omega
 | f+1,s,hf,h=>by
  have g:=zeD a h
  cases h1:ZV s with
  | true=>
   have b:(KI s (IntKind.i64.wrap (s-1))==0)=true:=(by unfold ZV at h1;rw [ji] at h1;exact h1.2);rw [Uc b,zhu h1];rfl
  | false=>
   have b:(KI s (IntKind.i64.wrap (s-1))==0)=false:=(by unfold ZV at h1;rw [jN (show s>0 by omega),Ou] at h1;exact h1);obtain ⟨d,i,j,o,p,q,_⟩:=VI a h h1;rw [Wk b,zhs h1,zaI a f _ kB i,zaI a f _ kB j];refine OK fun x _=>?_;unfold zk7;rw [zjd,zjd];rfl
theorem zce {n:Nat}(h6:n<=6):∀ {T:Tr},T.ok n->T.mask<64/\∃ q,JE T.mask q=true/\q=2^n-1
 | .leaf w,h=>by
  have o:w<n:=h;refine ⟨(zsg kB).2.2,_,?_,U⟩;have d:((List.range 7).all fun n=>(List.range n).all fun w=>JE (2^w) (2^n-1))=true:=kA;have h0:=jk.1 d n (jq.2 kB);exact jk.1 h0 w (jq.2 o)
 | .node a b,⟨ha,hb,hd⟩=>by
  obtain ⟨g,q,i,rfl⟩:=zce h6 ha;obtain ⟨j,p,l,rfl⟩:=zce h6 hb;have d:((List.range 64).all fun a=>(List.range 64).all fun b=> !(a&&& b==0)||decide (a+b<64)&&(List.range 7).all fun n=> !JE a (2^n-1)|| !JE b (2^n-1)||JE (a+b) (2^n-1))=true:=kA;have h0:=jk.1 d a.mask (jq.2 g);have h0:=jk.1 h0 b.mask (jq.2 j);rw [show (a.mask&&& b.mask==0)=true by rw [hd];rfl,BW,Ai,ji,jG] at h0;have h1:=jk.1 h0.2 n (jq.2 kB);rw [i,l] at h1;exact ⟨h0.1,_,by show JE (a.mask+b.mask) _=true;simpa using h1,U⟩
theorem zA2:((List.range 64).all fun a=>(List.range 64).all fun b=>a==0||b==0|| !(a&&& b==0)||((zii (a:Int) ((a+b:Nat):Int)||zii (b:Int) ((a+b:Nat):Int))&&(KI (a:Int) ((a+b:Nat):Int)==(a:Int))&&(KI (b:Int) ((a+b:Nat):Int)==(b:Int))&&JE a (a+b)&&JE b (a+b)&&(zeT (a:Int)+zeT (b:Int)==zeT ((a+b:Nat):Int))))=true:=kA
theorem zEt {a b:Nat}(d:1<=a/\a<64)(g:1<=b/\b<64)(h:a&&& b=0):(zii (a:Int) ((a+b:Nat):Int)=true\/zii (b:Int) ((a+b:Nat):Int)=true)/\KI (a:Int) ((a+b:Nat):Int)=(a:Int)/\KI (b:Int) ((a+b:Nat):Int)=(b:Int)/\JE a (a+b)=true/\JE b (a+b)=true/\zeT (a:Int)+zeT (b:Int)=zeT ((a+b:Nat):Int):=by have h0:=jk.1 zA2 a (jq.2 d.2);have h0:=jk.1 h0 b (jq.2 g.2);rw [h,show (a==0)=false by simp;omega,show (b==0)=false by simp;omega] at h0;simpa [and_assoc] using h0
theorem zAA {S:List Int}:bl S f x=1048576\/∃ y∈S,bl S f x=Yk x y+f y:=by
 rcases (JW (S.map fun y=>Yk x y+f y) 1048576).2.2 with e | e
 ·exact .inl e
 ·obtain ⟨y,b,a⟩:=jt.1 e;exact .inr ⟨y,b,a.symm⟩
section
variable {S a:List Int} {u f:Nat->Int} {p:Int} {k:Nat} (h0:0∈a) (b:p∈a) (d:p≠0\/∀ y∈a,y=0)
include h0 b d
end
def Tr.grow (w k:Nat):Tr->Tr
 | .leaf v=>if v=w then .node (.leaf w) (.leaf k) else .leaf v
 | .node a b=>.node (a.grow w k) (b.grow w k)
variable{rows:List (List Int)}{l:Nat}
theorem zHY (h:w<rows.length):uF rows l w=8589934592\/uF rows l w∈QG rows l:=by
 by_cases e:uF rows l w=8589934592
 ·exact .inl e
 ·right;rw [zcI];refine .inr ⟨⟨rows.getD w [],?_,U⟩,e⟩;unfold List.getD;rw [jf h];exact O8 h
def hL (K:Nat)(h:Hd):Hd:=⟨h.a,K,h.c⟩
def hR (K:Nat)(h:Hd):Hd:=⟨zy0 h.a h.c K 1,h.n-K,h.c-K⟩
variable{i:Nat}
theorem UE {b d:Type}{f:b->d}{a:List b}{x:b}(h:a[i]? =some x):(a.take (i+1)).map f=(a.take i).map f++[f x]:=by rw [jz,h,Od];rfl
variable{I:Qu}{k:Nat}{D:List Int}
theorem Jw {b t:Nat}{l:Go.Kn.Loc}(h:D[k]? =some x):QO I ((b,.cells (Zl D) t (0,0))::l) b (k*1) (.int .i64 x):=by refine .here ?_;rw [Ve];unfold Zl;rw [KC,Om];simp [h]
def Vu (o:List Hd):Array Value:=(o.flatMap Kv).toArray
theorem zcm (o:List Hd):o.flatMap Kv=o.map fun h=>Value.slice h.a h.n h.c:=by
 induction o with
 | nil=>rfl
 | cons b o ih=>rw [jV,ih];rfl
variable{o:List Hd}{m c:Nat}{a:Option Addr}
theorem zdb :(Vu o).setIfInBounds (m*1) (.slice a n c)=Vu (o.set m ⟨a,n,c⟩):=by unfold Vu;rw [zcm,zcm,Om];simp
theorem zI7 (h:m<o.length):Nat.blt (m*1) (Vu o).size=true:=by unfold Vu;rw [zcm,Om];simpa [AW] using h
theorem zdJ (n:Nat):(List.replicate n (Value.slice none 0 0)).toArray=Vu (List.replicate n ⟨none,0,0⟩):=by unfold Vu;rw [zcm];simp
def Tr.keys:Tr->List Int
 | .leaf w=>[((2^w:Nat):Int)]
 | .node a b=>((a.mask+b.mask:Nat):Int)::(a.keys++b.keys)
def zbY (g:Int->Int):Tr->Int
 | .leaf _=>0
 | .node a b=>Yk (g ((a.mask+b.mask:Nat):Int)) (g (a.mask:Int))+Yk (g ((a.mask+b.mask:Nat):Int)) (g (b.mask:Int))+zbY g a+zbY g b
def zr6 (S:List Int)(u:Nat->Int)(g:Int->Int):Tr->Prop
 | .leaf w=>(u w≠8589934592->g ((2^w:Nat):Int)=u w)/\g ((2^w:Nat):Int)∈S
 | .node a b=>g ((a.mask+b.mask:Nat):Int)∈S/\zr6 S u g a/\zr6 S u g b
theorem zbp:∀ T:Tr,(T.mask:Int)∈T.keys
 | .leaf _=>jl ..
 | .node _ _=>jl ..
variable{u:Nat->Int}{g:Int->Int}
theorem znw {S:List Int}:∀ {T:Tr},zr6 S u g T->g (T.mask:Int)∈S
 | .leaf _,h=>h.2
 | .node _ _,h=>h.1
theorem Uv {g d:Int->Int}:∀ {T:Tr},(∀ k∈T.keys,g k=d k)->zbY g T=zbY d T
 | .leaf _,_=>rfl
 | .node a b,h=>by
  have p:∀ k∈a.keys,g k=d k:=fun k j=>h k (jm _ (OS _ j));have q:∀ k∈b.keys,g k=d k:=fun k j=>h k (jm _ (O6 _ j));unfold zbY;rw [h _ (jl ..),p _ (zbp a),q _ (zbp b),Uv p,Uv q]
theorem WB {S:List Int}{u:Nat->Int}{g d:Int->Int}:∀ {T:Tr},(∀ k∈T.keys,g k=d k)->zr6 S u g T->zr6 S u d T
 | .leaf w,h,hg=>by
  have e:=h _ (jl ..);exact ⟨fun r=>by rw [<-e];exact hg.1 r,by rw [<-e];exact hg.2⟩
 | .node a b,h,hg=>by
  have p:∀ k∈a.keys,g k=d k:=fun k j=>h k (jm _ (OS _ j));have q:∀ k∈b.keys,g k=d k:=fun k j=>h k (jm _ (O6 _ j));exact ⟨by rw [<-h _ (jl ..)];exact hg.1,WB p hg.2.1,WB q hg.2.2⟩
theorem zlG {S:List Int}{u:Nat->Int}{g:Int->Int}:∀ {T:Tr},zr6 S u g T->cT S u T (g (T.mask:Int))<=zbY g T
 | .leaf w,h=>by
  show Y1 (u w) (g ((2^w:Nat):Int))<=0;unfold Y1;by_cases e:u w=8589934592
  ·rw [e];simp
  ·rw [h.1 e];simp
 | .node a b,h=>by
  have d:=zlG h.2.1;have j:=zlG h.2.2;have p:=zhl (f:=cT S u a) (x:=g ((a.mask+b.mask:Nat):Int)) (znw h.2.1);have q:=zhl (f:=cT S u b) (x:=g ((a.mask+b.mask:Nat):Int)) (znw h.2.2);show bl S (cT S u a) (g ((a.mask+b.mask:Nat):Int))+bl S (cT S u b) (g ((a.mask+b.mask:Nat):Int))<=_;unfold zbY;omega
theorem XX {n:Nat}(h6:n<=6):∀ {T:Tr},T.ok n->∀ k∈T.keys,1<=k/\JE k.toNat T.mask=true
 | .leaf w,_,k,d=>by
  rw [jM.1 d];have:1<=2^w:=Nat.one_le_two_pow;exact ⟨kB,by rw [Int.toNat_natCast];exact Wn _⟩
 | .node a b,⟨ha,hb,hd⟩,k,d=>by
  have h:=JV a;have j:=JV b;obtain ⟨_,_,_,p,q,_⟩:=zEt ⟨h,(zce h6 ha).1⟩ ⟨j,(zce h6 hb).1⟩ hd;rcases jo.1 d with rfl | d
  ·exact ⟨kB,by rw [Int.toNat_natCast];exact Wn _⟩
  ·rcases jC.1 d with d | d
   ·obtain ⟨h1,h2⟩:=XX h6 ha k d;exact ⟨h1,J0 h2 p⟩
   ·obtain ⟨h1,h2⟩:=XX h6 hb k d;exact ⟨h1,J0 h2 q⟩
theorem zlS {S:List Int}{u:Nat->Int}{n:Nat}(h6:n<=6):∀ (T:Tr),T.ok n->∀ x∈S,cT S u T x<1048576->∃ g,zr6 S u g T/\g (T.mask:Int)=x/\zbY g T<=cT S u T x
 | .leaf w,_,x,hx,h=>by
  refine ⟨fun _=>x,⟨fun H=>?_,hx⟩,U,?_⟩
  ·have h:Y1 (u w) x<1048576:=h;unfold Y1 at h;by_cases e:u w=x
   ·exact e.symm
   ·rw [jb (by simp [H,e])] at h;omega
  ·show (0:Int)<=Y1 (u w) x;rcases zjg (u w) x with e | e<;>omega
 | .node a b,⟨ha,hb,hd⟩,x,hx,h=>by
  have h:bl S (cT S u a) x+bl S (cT S u b) x<1048576:=h;have O:=zla (S:=S) (x:=x) fun y _=>zk1 (S:=S) (u:=u) a y;have P:=zla (S:=S) (x:=x) fun y _=>zk1 (S:=S) (u:=u) b y;rcases zAA (S:=S) (f:=cT S u a) (x:=x) with F | ⟨y,J,F⟩
  ·omega
  rcases zAA (S:=S) (f:=cT S u b) (x:=x) with G | ⟨z,K,G⟩
  ·omega
  have W:=(VO x y).1;have Y:=(VO x z).1;obtain ⟨j,A,B,M⟩:=zlS (u:=u) h6 a ha y J kB;obtain ⟨p,C,E,N⟩:=zlS (u:=u) h6 b hb z K kB;have Q:=JV a;have V:=JV b
  have r:∀ k∈a.keys,(if k=((a.mask+b.mask:Nat):Int) then x else if k∈a.keys then j k else p k)=j k:=fun k d=>by
   obtain ⟨k1,k2⟩:=XX h6 ha k d;have:=zaN k2;rw [ja kB,jb d]
  have t:∀ k∈b.keys,(if k=((a.mask+b.mask:Nat):Int) then x else if k∈a.keys then j k else p k)=p k:=fun k d=>by
   obtain ⟨k1,k2⟩:=XX h6 hb k d;have:=zaN k2;rw [ja kB,ja];intro q;obtain ⟨_,k3⟩:=XX h6 ha k q;have:=Xm k3 k2 (by rw [B6];exact hd);omega
  refine ⟨fun k=>if k=((a.mask+b.mask:Nat):Int) then x else if k∈a.keys then j k else p k,⟨by simp only [OB];exact hx,WB (fun k d=>(r k d).symm) A,WB (fun k d=>(t k d).symm) C⟩,?_,?_⟩
  ·show (if ((a.mask+b.mask:Nat):Int)=((a.mask+b.mask:Nat):Int) then x else _)=x;rw [jb rfl]
  ·unfold zbY;rw [Uv r,Uv t,r _ (zbp a),t _ (zbp b),jb rfl,B,E];show _<=bl S (cT S u a) x+bl S (cT S u b) x;omega
variable{T:Tr}
theorem zEX {S:List Int}(h6:n<=6)(h0:0∈S)(b:T.ok n)(p:∀ w,w<n->u w=8589934592\/u w∈S):(∀ g,zr6 S u g T->mn S (cT S u T)<=zbY g T)/\(∃ g,zr6 S u g T/\zbY g T<=mn S (cT S u T))/\mn S (cT S u T)<1048576:=by obtain ⟨z,d,r⟩:=zez (u:=u) h0 n T b p;have j:=(zce h6 b).1;have h:=zs7 (f:=cT S u T) d;refine ⟨fun g hg=>Int.le_trans (zs7 (znw hg)) (zlG hg),?_,kB⟩;obtain ⟨x,q,e⟩:=zz7 (f:=cT S u T) (AG h0);rw [e];obtain ⟨g,g1,_,g3⟩:=zlS (u:=u) h6 T b x q kB;exact ⟨g,g1,g3⟩
def zbi (O St:List Int)(k:Nat)(G h:Int->Int):Prop:=(∀ y,y∉O.drop k->h y=G y)/\∀ y∈O.drop k,h y∈St
section
variable {S:List Int} {u:Nat->Int} {n:Nat} {a:List Int}
end
theorem zhw:((List.range 6).all fun v=>(List.range 6).all fun w=>v==w|| !(2^v==2^w))=true:=kA
theorem zxB {v:Nat}(b:v<6)(d:w<6)(h:2^v=2^w):v=w:=by have h0:=jk.1 zhw v (jq.2 b);have h0:=jk.1 h0 w (jq.2 d);rw [h] at h0;simpa using h0
def stL (rows:List (List Int))(l k:Nat):List Int:=0::(((List.range k).map fun w=>uF rows l w).filter fun x=>x != 8589934592)
theorem zC3 (h:uF rows l k≠8589934592):stL rows l (k+1)=stL rows l k++[uF rows l k]:=by unfold stL;rw [Ok,Od,jH];simp [h]
theorem zGO (h:uF rows l k=8589934592):stL rows l (k+1)=stL rows l k:=by unfold stL;rw [Ok,Od,jH];simp [h]
theorem zE8 :y∈stL rows l rows.length↔y∈QG rows l:=by
 unfold stL;rw [zcI,jo,jP,jt,Ba];constructor
 ·rintro (h | ⟨⟨w,b,rfl⟩,h⟩)
  ·exact .inl h
  ·have b:=jq.1 b;refine .inr ⟨⟨rows.getD w [],?_,U⟩,h⟩;unfold List.getD;rw [jf b];exact O8 b
 ·rintro (h | ⟨⟨r,d,rfl⟩,h⟩)
  ·exact .inl h
  ·obtain ⟨w,b,rfl⟩:=BO d;refine .inr ⟨⟨w,jq.2 b,?_⟩,h⟩;unfold uF;rw [QJ (jf b)]
theorem zxC:((List.range 6).all fun w=>IntKind.i64.wrap (1*2^(min ((w:Nat):Int).toNat IntKind.i64.bits))==((2^w:Nat):Int))=true:=kA
theorem zDn (h:w<6):IntKind.i64.wrap (1*2^(min ((w:Nat):Int).toNat IntKind.i64.bits))=((2^w:Nat):Int):=eq_of_beq (jk.1 zxC w (jq.2 h))
structure GvE (I:Qu)(fid gid bop bst bgi bse bcl bro bsp rm:Nat)(caps:List Value)(ao as9 av bv:Option Addr)(no co ns cs n c n2 c2:Nat)(O St xs:List Int)(rows:List (List Int)):Prop where
 op:QO I [] bop 0 (.slice ao no co)
 st:QO I [] bst 0 (.slice as9 ns cs)
 gi:QO I [] bgi 0 (.map (some rm))
 se:QO I [] bse 0 (.func (.func fid) #[] caps.toArray)
 cl:QO I [] bcl 0 (.slice av n c)
 ro:QO I [] bro 0 (.slice bv n2 c2)
 sp:QO I [] bsp 0 (.func (.func gid) #[] #[])
 hO:Sl I 1 QF ao no co O
 hT:Sl I 1 QF as9 ns cs St
 hS:Sl I 1 QF av n c xs
 hV:SlN I bv n2 c2 rows
variable{C:Qu}{fid bst bse ns cs n2 c2:Nat}{caps:List Value}{av bv:Option Addr}{St xs:List Int}
theorem GvE.mono {z q p j r t F:Nat}{A d:Option Addr}{E B:Nat}{O:List Int}(h:GvE I fid z q bst p bse j r t F caps A d av bv E B ns cs n c n2 c2 O St xs rows)(b:HLe I C):GvE C fid z q bst p bse j r t F caps A d av bv E B ns cs n c n2 c2 O St xs rows:=
 ⟨h.op.mono b,h.st.mono b,h.gi.mono b,h.se.mono b,h.cl.mono b,h.ro.mono b,h.sp.mono b,h.hO.mono b,h.hT.mono b,h.hS.mono b,h.hV.mono b⟩
theorem zyz:ke 150:=.of Tryz.func150 kA kA
theorem zAX:ke 152:=.of Tryz.func152 kA kA
theorem zzn (A:Sl I 1 QF av n c xs)(B:SlN I bv n2 c2 rows)(t:n2<=100000)(z:JZ I):kf 92 [.slice bv n2 c2,.slice av n c] I (.tuple #[.int .i64 (zgx rows xs),.int .i64 (YZ rows xs)]):=by
 intro g H w j;refine qe Tryz.func92 Tryz.ntmps92 j ?_;have E:=B.len;subst E;refine zR (zA<|zA (zN (Qk (zR ?_))));refine zM ?_;refine qcV (vs:=[_]) U zyz (zxw B t) ?_;refine zA<|zN (zR ?_)
 refine zM<|zC (zN ?_)
 refine zI ?_ ?_<;>intro r
 ·have d:Vc rows≠0:=(by simpa using r);obtain ⟨p,q⟩:=zdI (cl:=xs) d;refine zR (zM<|zA<|zA (zN (Qq (Qb ?_))))
  first
  | exact QY U U U (fun w j=>⟨by rw [p,q],j.drop⟩)
 have d:Vc rows=0:=(by simpa using r);refine Qm (Qa (Qk (zR (zM<|zQ QM ?_))));refine zM ?_;refine qcV (vs:=[_,_]) U zpC (znT A _) ?_;refine zA<|zN (zR ?_)
 refine zM<|zC (zN ?_)
 refine zI ?_ ?_<;>intro h
 ·have b:VX rows.length xs≠0:=(by simpa using h);obtain ⟨p,q⟩:=zvW d b;refine zR (zM<|zA<|zA (zN (Qq (Qb ?_))))
  first
  | exact QY U U U (fun w j=>⟨by rw [p,q],j.drop⟩)
 have b:VX rows.length xs=0:=(by simpa using h);obtain ⟨p,q⟩:=zvk d b;have F:n<=100000:=(by have h1:=(ZJ b).2.2.1;have h2:=A.len;omega);refine Qm<|Qa<|zR<|zM ?_;refine zM ?_;refine qcV (vs:=[_,_]) U zAX (zCC A F B t z d b) ?_;refine zA<|zA (zN (Qq ?_))
 first
 | exact QY U U U (fun w j=>⟨by rw [p,q],j.drop⟩)
def WV (u x:Int):Int:=if (u != 8589934592&&u != x)=true then 1073741824 else 0
def zkN (S cs:List Int)(x:Int)(k:Nat):Int:=(List.range k).foldl (fun b j=>KY b (Yk x (S.getD j 0)+cs.getD j 0)) 1073741824
def Xl (S cs:List Int)(x:Int):Int:=zkN S cs x S.length
theorem zpU {S cs:List Int}{c:Int}(d:S[k]? =some y)(b:cs[k]? =some c):zkN S cs x (k+1)=KY (zkN S cs x k) (Yk x y+c):=by unfold zkN;rw [Ok,Oh,Of,Bt,QJ d,QJ b]
theorem zeL {S cs:List Int}{x:Int}(h:∀ c∈cs,0<=c):∀ k,0<=zkN S cs x k/\zkN S cs x k<=1073741824
 | 0=>by unfold zkN;simp
 | k+1=>by
  have ih:=zeL (S:=S) (x:=x) h k;have e:zkN S cs x (k+1)=KY (zkN S cs x k) (Yk x (S.getD k 0)+cs.getD k 0):=by unfold zkN;rw [Ok,Oh];rfl
  have h1:0<=cs.getD k 0:=by
   unfold List.getD
   cases b:cs[k]? with
   | none=>exact AC _
   | some c=>exact h c (je b)
  have h2:=(VO x (S.getD k 0)).1;rw [e];unfold KY;split<;>omega
def WT (S A B:List Int)(j:Nat)(x:Int):Int:=(if 0<j then Xl S A x else 0)+(if 1<j then Xl S B x else 0)
variable{j:Nat}
theorem zpm {S A B:List Int}(b:j<2):WT S A B j x+Xl S (if j=0 then A else B) x=WT S A B (j+1) x:=by unfold WT;rcases (show j=0\/j=1 by omega) with rfl | rfl<;>simp
theorem zqm {S A B:List Int}(d:∀ c∈A,0<=c)(h:∀ c∈B,0<=c)(j:Nat):0<=WT S A B j x/\WT S A B j x<=2147483648:=by have a:0<=Xl S A x/\Xl S A x<=1073741824:=zeL d S.length;have b:0<=Xl S B x/\Xl S B x<=1073741824:=zeL h S.length;unfold WT;split<;>split<;>omega
def rcF (S:List Int)(u:Nat->Int)(cl:List Int):Nat->Int->List Int
 | 0,_=>[]
 | f+1,s=>if ZV s=true then S.map (WV (u (JC s))) else S.map (WT S (rcF S u cl f (Qz cl s)) (rcF S u cl f (s-Qz cl s)) 2)
theorem zD4 {S:List Int}{f:Nat}(h:ZV s=true):rcF S u cl (f+1) s=S.map (WV (u (JC s))):=by simp only [rcF];rw [jb h]
theorem zFK {S:List Int}{f:Nat}(h:ZV s=false):rcF S u cl (f+1) s=S.map (WT S (rcF S u cl f (Qz cl s)) (rcF S u cl f (s-Qz cl s)) 2):=by simp only [rcF];rw [ja (by rw [h];decide)]
theorem zlW {S:List Int}{u:Nat->Int}{cl:List Int}:∀ (f:Nat) (s:Int),∀ c∈rcF S u cl f s,0<=c/\c<=2147483648
 | 0,_,c,h=>by cases h
 | f+1,s,c,h=>by
  cases h1:ZV s with
  | true=>
   rw [zD4 h1] at h;obtain ⟨x,_,rfl⟩:=jt.1 h;unfold WV;split<;>omega
  | false=>
   rw [zFK h1] at h;obtain ⟨x,_,rfl⟩:=jt.1 h;exact zqm (fun c b=>(zlW f _ c b).1) (fun c b=>(zlW f _ c b).1) 2
theorem zCn {S:List Int}{f:Nat}:(rcF S u cl (f+1) s).length=S.length:=by
 cases h1:ZV s with
 | true=>rw [zD4 h1,ju]
 | false=>rw [zFK h1,ju]
def zaG (S:List Int)(g h:Int->Int)(i:Nat):List Int:=(S.take i).map g++(S.drop i).map h
variable{h:Int->Int}
theorem zpu {S:List Int}:zaG S g h 0=S.map h:=by unfold zaG;simp
theorem zqq {S:List Int}(b:S.length<=i):zaG S g h i=S.map g:=by unfold zaG;rw [jr b,Or b];simp
theorem zpA {S:List Int}:(zaG S g h i).length=S.length:=by unfold zaG;rw [jj,ju,ju,<-jj,jT]
theorem zFr {S:List Int}(b:S[i]? =some x):(zaG S g h i)[i]? =some (h x):=by have p:=(jc.1 b).1;have d:((S.take i).map g).length=i:=(by rw [ju,jJ];omega);unfold zaG;rw [Ov kB,d,Br,ZA b];rfl
theorem znZ {S:List Int}(b:S[i]? =some x):(zaG S g h i).set i (g x)=zaG S g h (i+1):=by have p:=(jc.1 b).1;have d:((S.take i).map g).length=i:=(by rw [ju,jJ];omega);unfold zaG;rw [List.set_append_right _ _ kB,d,Br,ZA b,jF,List.set_cons_zero,UE b,js];rfl
theorem zro {S:List Int}(b:S[i]? =some x)(e:g x=h x):zaG S g h i=zaG S g h (i+1):=by unfold zaG;rw [ZA b,UE b,js,jF,e];rfl
theorem zmx {S:List Int}(e:∀ x,h x=0):List.replicate S.length (0:Int)=zaG S g h 0:=by
 rw [zpu]
 induction S with
 | nil=>rfl
 | cons x S ih=>rw [jF,e,jx,List.replicate_succ,ih]
theorem zCS (o:1<=s/\s<=63)(h:ZV s=true):JC s<6:=by
 have e:=zif o h;by_cases h6:JC s<6
 ·exact h6
 ·have:2^6<=2^JC s:=A9 kC kB;omega
theorem zvO (o:1<=s/\s<=63)(h:ZV s=true)(p:w<=JC s):(IntKind.i64.wrap (1*2^(min ((w:Nat):Int).toNat IntKind.i64.bits)) != s)=decide (w<JC s):=by
 have h6:=zCS o h;have e:=zif o h;rw [zDn kB];by_cases b:w<JC s
 ·rw [jN b,Ba];intro d;have:w=JC s:=zxB kB h6 kB;omega
 ·rw [jX b,BQ];have:w=JC s:=kB;rw [this];omega
structure RtE (I:Qu)(fid bst brow bloc bcla bse:Nat)(sv bv av:Option Addr)(ns cs n2 c2 n c:Nat)(St xs:List Int)(rows:List (List Int))(l:Nat):Prop where
 st:QO I [] bst 0 (.slice sv ns cs)
 row:QO I [] brow 0 (.slice bv n2 c2)
 loc:QO I [] bloc 0 (.int .i64 l)
 cla:QO I [] bcla 0 (.slice av n c)
 se:QO I [] bse 0 (.func (.func fid) #[] #[Zm bst,Zm brow,Zm bloc,Zm bcla,Zm bse])
 hT:Sl I 1 QF sv ns cs St
 hS:Sl I 1 QF av n c xs
 hV:SlN I bv n2 c2 rows
variable{brow bloc bcla:Nat}{sv:Option Addr}
theorem RtE.mono (h:RtE I fid bst brow bloc bcla bse sv bv av ns cs n2 c2 n c St xs rows l)(b:HLe I C):RtE C fid bst brow bloc bcla bse sv bv av ns cs n2 c2 n c St xs rows l:=
 ⟨h.st.mono b,h.row.mono b,h.loc.mono b,h.cla.mono b,h.se.mono b,h.hT.mono b,h.hS.mono b,h.hV.mono b⟩
theorem zu7:ke 93:=.of Tryz.func93 kA kA
theorem zEL:ke 94:=.of Tryz.func94 kA kA
theorem zDN:ke 95:=.of Tryz.func95 kA kA
theorem zlX:kl 174:=.of kA
theorem zr8 (I:Qu)(x y:Int):kf 95 [.int .i64 x,.int .i64 y] I (.int .i64 (Yk x y)):=by
 intro g H w q;refine qe Tryz.func95 Tryz.ntmps95 q ?_;refine zR<|zA<|zN<|Qk<|Ql<|zR ?_;refine zM ?_;refine zM<|zC<|zA (zN ?_)
 refine zI ?_ ?_<;>intro b
 ·refine zR<|zA<|zN<|Qq<|Qn<|Qb ?_
  first
  | exact zr U U (by unfold Yk;rw [jb (by simpa using b)])
 refine zR (zM<|zC<|zA (zN ?_));refine zI ?_ ?_<;>intro p
 ·refine zR<|zA<|zN<|Qq<|Qn<|Qb ?_
  first
  | exact zr U U (by unfold Yk;rw [ja (by simpa using b),jb (by simpa using p)])
 refine zR (zM<|zC<|zA (zN ?_));refine zI ?_ ?_<;>intro d
 ·refine zR<|zA<|zN<|Qq<|Qn<|Qb ?_
  first
  | exact zr U U (by unfold Yk;rw [ja (by simpa using b),ja (by simpa using p),jb (by simpa using d)])
 refine Qm<|Qg<|Qa<|zR<|zA<|zN<|Qq ?_
 first
 | exact zr U U (by unfold Yk;rw [ja (by simpa using b),ja (by simpa using p),ja (by simpa using d)])
theorem zsy (q:Sl I 1 QF av n c xs)(t:n<=100000)(r:VX m xs=0)(b:s∈xs):kf 94 [.int .i64 m,.slice av n c,.int .i64 s] I (.tuple #[.int .i64 (Qz xs s),.int .i64 (s-Qz xs s),.int .i64 0]):=by have h:=zzz q t (m:Int) s;have e:VY (m:Int) xs s=0:=zfS r (jD.2 ⟨s,b,by simp⟩);obtain ⟨d,p⟩:=zkX (m:=(m:Int)) (cl:=xs) (s:=s);rw [d,p,e] at h;unfold zdC zdH at h;rw [ja kB,ja kB] at h;exact h
theorem ztg (z:RtE I 93 bst brow bloc bcla bse sv bv av ns cs n2 c2 n c St xs rows l)(hn:n<=100000)(e2:n2<=100000)(e3:ns<=1000)(hl:∀ r∈rows,l<r.length)(hc:VX rows.length xs=0)(f:Nat)(s:Int)(b5:OkS rows.length xs s)(hf:1<s->1<=f)(ih:∀ (C:Qu),HLe I C->∀ (s':Int),OkS rows.length xs s'->s'<s->kg 93 ([.int .i64 s']++[Zm bst,Zm brow,Zm bloc,Zm bcla,Zm bse]) C [] (Jv 1 QF (rcF St (uF rows l) xs f s'))):kg 93 [.int .i64 s,Zm bst,Zm brow,Zm bloc,Zm bcla,Zm bse] I [] (Jv 1 QF (rcF St (uF rows l) xs (f+1) s)):=by
 intro g H w hw;refine qe Tryz.func93 Tryz.ntmps93 hw ?_;have K:=zJH I;have c3:=z.hV.len;subst c3;have c1:=z.hT.len;subst c1;obtain ⟨o,hV⟩:=z.hV;have hH:=hV.1;have d9:=(ZJ hc).1;have d5:=(ZJ hc).2.1;have G:=zeD hc b5;refine zR (zA<|zN (zR<|zV (Qc U QA (fun hg=>by exact z.st.any))<|zQ Qt ?_));refine Q1 Y7 U U kB kC U U (fun J=>zA (Qe ?_));have e0:((St.length:Nat):Int).toNat=St.length:=rfl;rw [e0,Q8];refine Qa (Qk (zR (zM<|zM ?_)));refine zB<|zV (Ua U U)<|zC (zN ?_)
 refine zI ?_ ?_<;>intro a2
 ·have F:ZV s=true:=(by unfold ZV;rw [jN (show s>0 by omega),Ou,zs5 G];exact a2);have d1:=ztG (n:=rows.length) kB G F b5.2.1;have e8:=zCS G F;refine zR (zA (zN (Qk (Ql<|zU [(0,_),(1,_),(2,_),(3,_),(8,_)] (fun T L0 Q E C t=>∃ (k:Nat),Q=(JC s)-k/\E=(9,.int .i64 k)::T/\I=C/\[(J,.cells (Zl (List.replicate St.length 0)) 3 (0,0))]=t/\k<=(JC s)) ?_ (h:=⟨0,U,U,U,U,jd _⟩)))));rintro Q E C t ⟨k,rfl,rfl,rfl,rfl,hk⟩;refine Qk<|zR<|zM ?_;refine zV (U7 U U (fun hg=>kB))<|zM<|zC (zN ?_)
  refine zI ?_ ?_<;>intro P
  ·have Y:k<JC s:=(by rw [zvO G F hk] at P;simpa using P);refine Qm<|Qa<|Ql<|Qh<|zM ?_;exact zB<|zA (Qe (Qg<|zm (h:=⟨(JC s)-(k+1),kB,k+1,U,U,U,U,kB⟩)))
  have W:k=JC s:=(by rw [zvO G F hk] at P;simp at P;omega);subst W;obtain ⟨x,v,hx,hv,hQ⟩:=hV.at d1;have c7:=hl v (je hv);have hu:=QE (d:=0) U c7;have e7:=hQ.len;have b8:uF rows l (JC s)=v.getD l 0:=(by unfold uF;rw [QJ hv]);rw [zmx (g:=(WV (uF rows l (JC s)))) (h:=(fun _=>0)) (fun _=>U)];refine Qy (Qf (Qf (Qj (Qa (Qk (zR<|zV (Qc U QA (fun hg=>by exact z.st.any))<|zQ Qt ?_))))));refine zM<|zN<|Ql ?_;refine zU [(2,_),(3,_),(8,_),(9,_),(38,_),(39,_)] (fun T L0 Q E C t=>∃ (i:Nat),Q=St.length-i/\E=(40,.int .i64 i)::T/\I=C/\[(J,.cells (Zl (zaG St (WV (uF rows l (JC s))) (fun _=>0) i)) 3 (0,0))]=t/\i<=St.length) ?_ (h:=⟨0,U,U,U,U,jd _⟩);rintro Q E C t ⟨i,rfl,rfl,rfl,rfl,hi⟩;refine zR<|zC<|zN<|Qk ?_;refine zI ?_ ?_<;>intro a3
  ·have N:i<St.length:=kd a3;obtain ⟨y,O⟩:=z.hT.at N;refine Qm (Qa (Qk (Ql (zR (zM<|zV (Qs U U Qt z.hT (fun hg=>kB)) ?_)))));refine zV (Qc U Qr (fun hg=>by exact zJA (z.hT) O U))<|zA<|zA (zN (Qk<|ZW mixed kA<|zq (Qc U UM (fun hg=>by exact z.row.any))<|zq (Qd U) ?_))
   refine zq (zX QM hH) ?_;refine zq (Qc U QA (fun hg=>by exact zJA hH hx U))<|zq (Qc U Qr (fun hg=>by exact z.loc.any))<|zq (zX Qt hQ) ?_
   refine zq (Qc U Qr (fun hg=>by exact zJA hQ hu U))<|zq (ZE U)<|ZX<|Qa (zR (zM<|zC ?_))
   refine zM ?_;refine Qw 2 U U U ?_;refine zK (Qd U) ?_;refine zK (Qd U) ?_;refine zK (Qx U U U) ?_;refine QC U U U U U<|zN ?_
   refine zI ?_ ?_<;>intro a4
   focus
    have b3:(WV (uF rows l (JC s))) y=1073741824:=(by unfold WV;rw [b8,jb (by simpa using a4)]);refine Qh<|zM ?_;refine zM ?_;refine zV (QD U U Qt (fun hg=>kB))<|Zx U U ZO U U (by repeat (first | exact Upd.here | apply Upd.there | apply QN)) (zqU (by rw [zpA];omega))<|Qe ?_
    rw [Y0,show (zaG St (WV (uF rows l (JC s))) (fun _=>0) i).set i 1073741824=zaG St (WV (uF rows l (JC s))) (fun _=>0) (i+1) from by rw [<-znZ O,b3]];refine Qg<|Qa<|Qh<|zB ?_
   rotate_left
   have b3:(WV (uF rows l (JC s))) y=0:=(by unfold WV;rw [b8,ja (by rw [a4];decide)]);rw [zro O b3];refine Qm<|Qg<|Qa<|Qh<|zB ?_
   all_goals
    exact zM (Qe<|zm (h:=⟨St.length-(i+1),kB,i+1,U,U,U,U,kB⟩))
  have M:St.length<=i:=kd a3;rw [zqq M];refine Qy (Qf (Qf (Qj (Qa (zR (zM<|zA (zN (Qq (Qb ?_)))))))))
  first
  | exact Zc U U (fun w hw=>by obtain ⟨I9,a9,b0,V⟩:=OwnS.res (zbt (by rw [ju]) kB) QL kC hw;rw [<-zD4 (f:=f) (cl:=xs) F] at V;exact ⟨_,I9,[],U,K.trans a9,b0,V⟩)
 have a8:ZV s=false:=(by unfold ZV;rw [jN (show s>0 by omega),Ou,zs5 G];exact a2);obtain ⟨c6,d2,d3,e4,e5,_,_⟩:=VI hc b5 a8;obtain ⟨p,rfl⟩:∃ p,f=p+1:=⟨f-1,by have:=hf kB;omega⟩;rw [zmx (g:=(WT St (rcF St (uF rows l) xs (p+1) (Qz xs s)) (rcF St (uF rows l) xs (p+1) (s-Qz xs s)) 0)) (h:=(WT St (rcF St (uF rows l) xs (p+1) (Qz xs s)) (rcF St (uF rows l) xs (p+1) (s-Qz xs s)) 0)) (fun _=>by unfold WT;simp)];refine Qm (Qa (zR<|zV (Qc U UM (fun hg=>by exact z.row.any))<|zQ QM<|zV (Qc U QA (fun hg=>by exact z.cla.any))<|zM ?_));refine qcV (vs:=[_,_,_]) U zEL (zsy z.hS hn hc c6)<|zM ?_
 refine zE ?_;refine zE ?_;refine zE ?_;refine zA<|zA<|zA (zN (Qk (zR ?_)))
 refine zM ?_;refine zM ?_;refine zpb [(0,_),(1,_)] [QF (Qz xs s),QF (s-Qz xs s)] QS (fun a1=>Z5 (b:=a1) (by repeat (first | exact Zb.here | apply Zb.there)) (fun I3 b6 c4=>?_));have z:=z.mono b6;have K:=K.trans b6;have Z:Sl I3 1 QF (some ⟨a1,0,none⟩) 2 2 ([Qz xs s,s-Qz xs s]:List Int):=Sl.lit ([Qz xs s,s-Qz xs s]:List Int) U QL (show _=some (Obj.cells (([Qz xs s,s-Qz xs s]:List Int).flatMap QF).toArray 3 (0,0)) from c4);refine zQ Qt ?_;refine zM<|zN<|Ql ?_;refine zU [(1,_),(5,_),(8,_),(75,_),(76,_)] (fun T L0 Q E C t=>∃ (j:Nat),Q=2-j/\E=(77,.int .i64 j)::T/\HLe I3 C/\[(J,.cells (Zl (zaG St (WT St (rcF St (uF rows l) xs (p+1) (Qz xs s)) (rcF St (uF rows l) xs (p+1) (s-Qz xs s)) j) (WT St (rcF St (uF rows l) xs (p+1) (Qz xs s)) (rcF St (uF rows l) xs (p+1) (s-Qz xs s)) j) 0)) 3 (0,0))]=t/\j<=2) ?_ (h:=⟨0,U,U,zJH _,U,jd _⟩);rintro Q E J4 t ⟨j,rfl,rfl,hJ,rfl,hj⟩;have z:=z.mono hJ;have Z:=Z.mono hJ;have K:=K.trans hJ;have b1:=hJ;refine zR<|zC<|zN<|Qk ?_;refine zI ?_ ?_<;>intro a5
 ·have b4:j<2:=by have h:=a5;simp at h;omega
  obtain ⟨q,c9,c8,d4,d0⟩:∃ q,([Qz xs s,s-Qz xs s]:List Int)[j]? =some q/\(rcF St (uF rows l) xs (p+1) (q))=(if j=0 then (rcF St (uF rows l) xs (p+1) (Qz xs s)) else (rcF St (uF rows l) xs (p+1) (s-Qz xs s)))/\OkS rows.length xs q/\q<s:=by
   rcases (show j=0\/j=1 by omega) with rfl | rfl
   ·exact ⟨_,U,U,d2,kB⟩
   exact ⟨_,U,U,d3,kB⟩
  have e1:(if j=0 then (rcF St (uF rows l) xs (p+1) (Qz xs s)) else (rcF St (uF rows l) xs (p+1) (s-Qz xs s))).length=St.length:=(by split<;>exact zCn);have b9:∀ c∈(if j=0 then (rcF St (uF rows l) xs (p+1) (Qz xs s)) else (rcF St (uF rows l) xs (p+1) (s-Qz xs s))),0<=c/\c<=2147483648:=(by split<;>exact zlW _ _);rw [show zaG St (WT St (rcF St (uF rows l) xs (p+1) (Qz xs s)) (rcF St (uF rows l) xs (p+1) (s-Qz xs s)) j) (WT St (rcF St (uF rows l) xs (p+1) (Qz xs s)) (rcF St (uF rows l) xs (p+1) (s-Qz xs s)) j) 0=zaG St (WT St (rcF St (uF rows l) xs (p+1) (Qz xs s)) (rcF St (uF rows l) xs (p+1) (s-Qz xs s)) (j+1)) (WT St (rcF St (uF rows l) xs (p+1) (Qz xs s)) (rcF St (uF rows l) xs (p+1) (s-Qz xs s)) j) 0 by rw [zpu,zpu]];refine Qm (Qa (Qk (Ql (zR<|zV (zX Qt Z)<|zV (Qc U Qr (fun hg=>by exact zJA Z c9 U))<|zA<|zN (zR<|zV (Qc U zlX (fun hg=>by exact z.se.any))<|zM<|Yi (cap:=[Zm bst,Zm brow,Zm bloc,Zm bcla,Zm bse]) (vs:=[_]) U U zu7 (by exact .nil) (ih _ K _ d4 d0) U U ?_)))));rintro e9 I5 L5 b7 ⟨rfl,aC,cC,rfl,a0⟩;have z:=z.mono b7;have b1:=b1.trans b7;rw [c8] at a0 ⊢;refine zA<|zN (zR<|zV (Qc U QA (fun hg=>by exact z.st.any))<|zQ Qt ?_)
  refine zM<|zN<|Ql ?_;refine zU [(1,_),(5,_),(8,_),(18,_),(75,_),(76,_),(77,_),(84,_),(85,_)] (fun T L0 Q E C t=>∃ (i:Nat),Q=St.length-i/\E=(86,.int .i64 i)::T/\I5=C/\[(J,.cells (Zl (zaG St (WT St (rcF St (uF rows l) xs (p+1) (Qz xs s)) (rcF St (uF rows l) xs (p+1) (s-Qz xs s)) (j+1)) (WT St (rcF St (uF rows l) xs (p+1) (Qz xs s)) (rcF St (uF rows l) xs (p+1) (s-Qz xs s)) j) i)) 3 (0,0))]=t/\i<=St.length) ?_ (h:=⟨0,U,U,U,U,jd _⟩);rintro Q E C t ⟨i,rfl,rfl,rfl,rfl,hi⟩;refine zR<|zC<|zN<|Qk ?_;refine zI ?_ ?_<;>intro a6
  ·have N:i<St.length:=kd a6;obtain ⟨y,O⟩:=z.hT.at N;have e6:=zqm (S:=St) (A:=(rcF St (uF rows l) xs (p+1) (Qz xs s))) (B:=(rcF St (uF rows l) xs (p+1) (s-Qz xs s))) (x:=y) (fun c h=>(zlW _ _ c h).1) (fun c h=>(zlW _ _ c h).1) j;refine Qm (Qa (Qk (Ql (zR (zM<|zV (Qs U U Qt z.hT (fun hg=>kB)) ?_)))));refine zV (Qc U Qr (fun hg=>by exact zJA (z.hT) O U))<|zA<|zA<|zN (zR<|zA (zN (Qk (zR<|zV (Qc U QA (fun hg=>by exact z.st.any))<|zQ Qt ?_))))
   refine zM<|zN<|Ql ?_;refine zU [(1,_),(5,_),(8,_),(18,_),(19,_),(20,_),(75,_),(76,_),(77,_),(84,_),(85,_),(86,_),(91,_),(92,_)] (fun T L0 Q E C t=>∃ (k:Nat),Q=St.length-k/\E=(21,.int .i64 (zkN St (if j=0 then (rcF St (uF rows l) xs (p+1) (Qz xs s)) else (rcF St (uF rows l) xs (p+1) (s-Qz xs s))) y k))::(93,.int .i64 k)::T/\I5=C/\[(J,.cells (Zl (zaG St (WT St (rcF St (uF rows l) xs (p+1) (Qz xs s)) (rcF St (uF rows l) xs (p+1) (s-Qz xs s)) (j+1)) (WT St (rcF St (uF rows l) xs (p+1) (Qz xs s)) (rcF St (uF rows l) xs (p+1) (s-Qz xs s)) j) i)) 3 (0,0))]=t/\k<=St.length) ?_ (h:=⟨0,U,U,U,U,jd _⟩);rintro Q E C t ⟨k,rfl,rfl,rfl,rfl,hk⟩;refine zR<|zC<|zN<|Qk ?_;refine zI ?_ ?_<;>intro a7
   ·have Y:k<St.length:=kd a7;obtain ⟨yk,c0⟩:=z.hT.at Y;obtain ⟨ck,b2⟩:=a0.at (show k<_ by omega);have d6:=b9 ck (je b2);have d8:=VO y yk;refine Qm (Qa (Qk (Ql (zR (zM<|zV (Qs U U Qt z.hT (fun hg=>kB)) ?_)))));refine zV (Qc U Qr (fun hg=>by exact zJA (z.hT) c0 U))<|zA<|zA (zN<|ZW mixed kA<|zq (Qd U)<|zq (Qd U)<|zq (Qd U)<|YG (cap:=[]) (vs:=[_,_]) U U zDN (zr8 _ _ _) U U<|zq (Qd U)<|zq (Qd U) ?_)
    refine zq (zX Qt a0) ?_;refine zq (Qc U Qr (fun hg=>by exact zJA a0 b2 U))<|zq (Zf U U U (fun hg=>kB))<|zq (zgM U U)<|zq (ZE U)<|ZX ?_
    rw [<-zpU c0 b2];exact Qg (Qa (Qh (zB<|zM (Qe<|zm (h:=⟨St.length-(k+1),kB,k+1,U,U,U,U,kB⟩)))))
   have W:St.length<=k:=kd a7;rw [show k=St.length by omega];have d7:=zeL (S:=St) (x:=y) (fun c h=>(b9 c h).1) St.length;refine Qy<|Qf<|Qf<|Qj<|Qa<|Qh<|zM ?_;refine zM ?_;refine zV (QD U U Qt (fun hg=>kB))<|zV (Qc U Qr (fun hg=>by exact Jw (zFr O)))<|zM ?_
   refine zB<|zV (QD U U Qt (fun hg=>kB))<|Zx U U ZO U U (by repeat (first | exact Upd.here | apply Upd.there | apply QN)) (zqU (by rw [zpA];omega))<|Qe ?_
   rw [Y0,show (zaG St (WT St (rcF St (uF rows l) xs (p+1) (Qz xs s)) (rcF St (uF rows l) xs (p+1) (s-Qz xs s)) (j+1)) (WT St (rcF St (uF rows l) xs (p+1) (Qz xs s)) (rcF St (uF rows l) xs (p+1) (s-Qz xs s)) j) i).set i ((WT St (rcF St (uF rows l) xs (p+1) (Qz xs s)) (rcF St (uF rows l) xs (p+1) (s-Qz xs s)) j) y+zkN St (if j=0 then (rcF St (uF rows l) xs (p+1) (Qz xs s)) else (rcF St (uF rows l) xs (p+1) (s-Qz xs s))) y St.length)=zaG St (WT St (rcF St (uF rows l) xs (p+1) (Qz xs s)) (rcF St (uF rows l) xs (p+1) (s-Qz xs s)) (j+1)) (WT St (rcF St (uF rows l) xs (p+1) (Qz xs s)) (rcF St (uF rows l) xs (p+1) (s-Qz xs s)) j) (i+1) from by rw [<-znZ O,<-zpm b4];rfl];exact Qg (Qa (Qh (zB<|zM (Qe<|zm (h:=⟨St.length-(i+1),kB,i+1,U,U,U,U,kB⟩)))))
  have M:St.length<=i:=kd a6;rw [show zaG St (WT St (rcF St (uF rows l) xs (p+1) (Qz xs s)) (rcF St (uF rows l) xs (p+1) (s-Qz xs s)) (j+1)) (WT St (rcF St (uF rows l) xs (p+1) (Qz xs s)) (rcF St (uF rows l) xs (p+1) (s-Qz xs s)) j) i=zaG St (WT St (rcF St (uF rows l) xs (p+1) (Qz xs s)) (rcF St (uF rows l) xs (p+1) (s-Qz xs s)) (j+1)) (WT St (rcF St (uF rows l) xs (p+1) (Qz xs s)) (rcF St (uF rows l) xs (p+1) (s-Qz xs s)) (j+1)) 0 by rw [zqq M,zpu]];exact Qy (Qf (Qf (Qj (Qg (Qa (Qh (zB<|zM (Qe<|zm (h:=⟨2-(j+1),kB,j+1,U,U,b1,U,kB⟩)))))))))
 have c5:2<=j:=kd a5;rw [show j=2 by omega,zpu];refine Qy (Qf (Qf (Qj (Qa (zR (zM<|zA (zN (Qq ?_))))))))
 first
 | exact Zc U U (fun w hw=>by obtain ⟨I9,a9,b0,V⟩:=OwnS.res (zbt (by rw [ju]) kB) QL kC hw;rw [<-zFK (f:=p+1) a8] at V;exact ⟨_,I9,[],U,K.trans a9,b0,V⟩)
end
section
open Go Go.Kn
theorem zkj (d:Array Int)(l:∀ j,0<j->j<d.size->d[j-1]! <=d[j]!):∀ m,m<=d.size->(Lib.compactUpTo d m).Pairwise (· < ·)/\(∀ x∈Lib.compactUpTo d m,0<m/\x<=d[m-1]!)/\∀ x,x∈Lib.compactUpTo d m↔ ∃ j,j<m/\d[j]! =x
 | 0,_=>⟨.nil,(fun x h=>by cases h),fun x=>⟨(fun h=>by cases h),fun ⟨j,h,_⟩=>kB⟩⟩
 | m+1,hm=>by
  obtain ⟨h1,h2,h3⟩:=zkj d l m kB;rw [Lib.compactUpTo_succ];by_cases g:Lib.keeps d m=true
  ·rw [jb g]
   have i:∀ x∈Lib.compactUpTo d m,x<d[m]! :=fun x f=>by
    obtain ⟨a,b⟩:=h2 x f;have h4:=l m a kB;unfold Lib.keeps at g;have h5:=Oq g;omega
   refine ⟨?_,?_,?_⟩
   ·rw [OJ];exact ⟨h1,List.pairwise_singleton ..,fun y o z n=>by rw [jM] at n;rw [n];exact i y o⟩
   ·intro x f;refine ⟨kB,?_⟩;rw [show m+1-1=m from by omega];rcases jC.1 f with f | f
    ·have:=i x f;omega
    ·rw [jM] at f;rw [f];exact AC _
   ·intro x;rw [jC,h3,jM];constructor
    ·rintro (⟨j,a,b⟩ | e)
     ·exact ⟨j,kB,b⟩
     ·exact ⟨m,kB,e.symm⟩
    ·rintro ⟨j,a,b⟩;by_cases e:j=m
     ·subst e;exact .inr b.symm
     ·exact .inl ⟨j,kB,b⟩
  ·rw [ja g,jw];unfold Lib.keeps at g;have h5:¬(m=0\/d[m]! ≠d[m-1]!):=fun h=>g (jN h);have h6:0<m/\d[m]! =d[m-1]! :=kB;refine ⟨h1,?_,?_⟩
   ·intro x f;have:=h2 x f;rw [show m+1-1=m from by omega];omega
   ·intro x;rw [h3];constructor
    ·rintro ⟨j,a,b⟩;exact ⟨j,kB,b⟩
    ·rintro ⟨j,a,b⟩;by_cases e:j=m
     ·subst e;exact ⟨j-1,kB,by rw [<-h6.2];exact b⟩
     ·exact ⟨j,kB,b⟩
theorem U4 (d:List Int):(Lib.compact (Vf d)).Pairwise (· < ·)/\∀ x,x∈Lib.compact (Vf d)↔x∈d:=by
 have n:(Vf d).Pairwise (fun a b=>decide (a<=b)=true):=List.pairwise_mergeSort (by intro a b c;simp;omega) (by intro a b;simp;omega) d;have l:∀ j,j<(Vf d).length->(Vf d).toArray[j]! =(Vf d)[j]! :=fun j f=>by simp
 have o:∀ j,0<j->j<(Vf d).toArray.size->(Vf d).toArray[j-1]! <=(Vf d).toArray[j]! :=by
  intro j h0 f;have g:j<(Vf d).length:=(by simpa using f);have h1:=jY.1 n (j-1) j kB g kB;have h2:=Oq h1;simpa [g,show j-1<(Vf d).length from by omega] using h2
 obtain ⟨h1,_,h3⟩:=zkj (Vf d).toArray o (Vf d).length kJ;refine ⟨h1,fun x=>?_⟩;unfold Lib.compact;rw [h3];have i:x∈Vf d↔x∈d:=(BP d _).mem_iff;rw [<-i];constructor
 ·rintro ⟨j,f,e⟩;have:(Vf d)[j]=x:=by simpa [f] using e
  rw [<-this];exact O8 f
 ·intro h;obtain ⟨j,f,e⟩:=BO h;exact ⟨j,f,by simpa [f] using e⟩
end
section
open Go Go.Kn Go.Proofs
def rcV (S:List Int)(u:Nat->Int)(cl:List Int)(f:Nat)(s x:Int):Int:=if ZV s=true then WV (u (JC s)) x else WT S (rcF S u cl f (Qz cl s)) (rcF S u cl f (s-Qz cl s)) 2 x
variable{u:Nat->Int}{cl:List Int}{s:Int}
theorem zFD {S:List Int}{f:Nat}:rcF S u cl (f+1) s=S.map (rcV S u cl f s):=by
 cases h:ZV s with
 | true=>rw [zD4 h];exact OK fun x _=>by unfold rcV;rw [jb h]
 | false=>rw [zFK h];exact OK fun x _=>by unfold rcV;rw [ja (by rw [h];decide)]
def stE (rows:List (List Int))(l:Nat):List Int:=Lib.compact (Vf (stL rows l rows.length))
def zka (rows:List (List Int))(cl:List Int)(l:Nat):List Int:=rcF (stE rows l) (uF rows l) cl 64 (ZS rows.length)
def zrG (rows:List (List Int))(cl:List Int)(l:Nat)(x:Int):Int:=rcV (stE rows l) (uF rows l) cl 63 (ZS rows.length) x
variable{rows:List (List Int)}{l:Nat}
theorem zca :zka rows cl l=(stE rows l).map (zrG rows cl l):=zFD (f:=63)
def VP (rows:List (List Int))(cl:List Int)(l:Nat):List Int:=(stE rows l).filter fun x=>zrG rows cl l x==ZY (zka rows cl l)
def Xk (rows:List (List Int))(cl:List Int):List (List Int):=if YZ rows cl≠0 then [] else (List.range (rows.getD 0 []).length).map (VP rows cl)
theorem XN (h:YZ rows cl≠0):Xk rows cl=[]:=by unfold Xk;rw [jb h]
theorem Wl (h:YZ rows cl=0):Xk rows cl=(List.range (rows.getD 0 []).length).map (VP rows cl):=by unfold Xk;rw [ja kB]
variable{b:Type}{k:Nat}{f:Nat->b}
theorem KE :(List.range (k+1)).map f=(List.range k).map f++[f k]:=by rw [Ok,Od];rfl
variable{p:b->Bool}{a:List b}{x:b}
theorem zqW (d:a[k]? =some x)(h:p x=true):(a.take (k+1)).filter p=(a.take k).filter p++[x]:=by rw [jz,d,jH];simp [h]
theorem zw6 (d:a[k]? =some x)(h:p x=false):(a.take (k+1)).filter p=(a.take k).filter p:=by rw [jz,d,jH];simp [h]
theorem zh7 :(stE rows l).length<=rows.length+1:=by
 have h1:(stL rows l rows.length).length<=rows.length+1:=by
  unfold stL;have:=jE (fun x=>x != 8589934592) ((List.range rows.length).map fun w=>uF rows l w);rw [ju,OG] at this;rw [jx];omega
 have h2:(Vf (stL rows l rows.length)).length=(stL rows l rows.length).length:=(by unfold Vf;exact (BP _ _).length_eq);have h3:=Lib.compact_length_le (Vf (stL rows l rows.length));unfold stE;omega
variable{y:Int}
theorem UJ :y∈stE rows l↔y∈QG rows l:=by unfold stE;rw [(U4 _).2,zE8]
theorem zuz :(stE rows l).Pairwise (· < ·):=(U4 _).1
theorem znu :0<(stE rows l).length:=AZ (UJ.2 (zcI.2 (.inl U)))
theorem zp6 :(zka rows cl l).length=(stE rows l).length:=by rw [zca,ju]
def zuS (rows:List (List Int))(cl:List Int):Value->Qu->Go.Kn.Loc->Prop:=fun v I' L=>L=[]/\∃ av c,v= .tuple #[.slice av (Xk rows cl).length c,.int .i64 (YZ rows cl)]/\SlN I' av (Xk rows cl).length c (Xk rows cl)
end
end Go.Proofs.YtodakphagkommaaGreatDoor
namespace Go.Kn
section
open Go Go.Sort Go.Shelf Go.Lib Go.Proofs
theorem zrq {w a:World}{L:Loc}(h:St w (fun b=>w.heap[b]?) (fun _=>none) L a):∃ q f,a=grow (w.drewN q) f:=by
 refine ⟨a.drawn-w.drawn,a.heap.extract w.heap.size a.heap.size,?_⟩;have h1:=h.size
 have n:w.heap++a.heap.extract w.heap.size a.heap.size=a.heap:=by
  apply Bs;apply Ad;intro i;by_cases d:i<w.heap.size
  ·have:=h.imm i _ (O2 d);rw [Am,Am,this,Array.getElem?_append_left d,O2 d]
  ·rw [Am,Am,Array.getElem?_append_right kB,Array.getElem?_extract];by_cases h2:i<a.heap.size
   ·rw [jb kB,show w.heap.size+(i-w.heap.size)=i by omega]
   ·rw [ja kB,Array.getElem?_eq_none kB]
 have g:=h.os;have j:=h.tape;have l:=h.out;cases w;cases a;simp only [grow,World.drewN] at*;subst g;subst j;subst l;simp only [World.mk.injEq,true_and,and_true];exact ⟨n.symm,kB⟩
theorem zlR {i:Type}[Inhabited i]{a:i->List Value}{k:Nat}(f:∀ x,(a x).length=k)(d:0<k)(b:List i):flatK a k b.toArray=(b.flatMap a).toArray:=by
 have p:(b.flatMap a).length=b.length*k:=ZF f b;apply Array.ext
 ·rw [size_flatK];simp [p]
 ·intro t h1 h2;have l:t<b.length*k:=(by rw [size_flatK] at h1;simpa using h1);have g:t / k<b.length:=(by rw [Nat.div_lt_iff_lt_mul d];exact l);have h:t % k<k:=A8 _ d;have r:b[t / k]? =some b[t / k]:=jf g;have q:(a b[t / k])[t % k]? =some ((a b[t / k])[t % k]'(by rw [f];exact h)):=jf _;have h3:=zb7 f b (t / k) _ r (t % k) _ q;rw [Nat.mul_comm,Nat.div_add_mod] at h3;have h4:=get_flatK a k b.toArray t (by simpa using l);rw [Da (flatK a k b.toArray) t h1] at h4;rw [h4];have n:b.toArray[t / k]! =b[t / k]'g:=(by simp [g]);rw [n];have o:(a (b[t / k]'g))[t % k]! =(a (b[t / k]'g))[t % k]'(by rw [f];exact h):=Da (a (b[t / k]'g)) (t % k) (by rw [f];exact h);rw [o];have j:(b.flatMap a).toArray[t]? =some ((a b[t / k])[t % k]'(by rw [f];exact h)):=(by simpa using h3);rw [O2 h2] at j;exact (Ob j).symm
theorem zrj {A:Type}[Inhabited A]{P:Program}{f g0:FuncId}{e:TypeId}{k:Nat}{a:A->List Value}{J:A->A->Int}(O:∀ x,(a x).length=k)(t:0<k)
  (hs:∀ (r z B:Nat) (d:Array A) (w:World),CmpLays P g0 #[] a k J r z d.size w->HoldsK a k w r z d->r<w.heap.size->d.size<4611686018427387904->
   Calls P f #[.slice (some ⟨r,z,none⟩) d.size B,.func (.func g0) #[] #[]] w fun e G=>e= .returned (.tuple #[])/\∃ o n E,PermIn 0 d.size d o/\SortedIn (ltOf J) 0 d.size o/\G=sortWorldK a k w r z n o E)
  (h0:∀ (p:Option Addr) (B:Nat) (fv:Value) (w:World),Calls P f #[.slice p 0 B,fv] w fun e G=>e= .returned (.tuple #[])/\G=w)
  (M:∀ (I:Qu) (x y:A),Zj P g0 [.agg (a x).toArray,.agg (a y).toArray] I (.int .i64 (J x y)))
  (l:List A){v:Value}{n:Nat}{L:Loc}(hO:OwnS e k v n (l.flatMap a) L)(hn:n<=1000000)(I:Qu):
  ZP P f [v,.func (.func g0) #[] #[]] I L (fun u I' L'=>u= .tuple #[]/\I'=I/\∃ F:List A,F.Perm l/\F.Pairwise (fun x y=>ltOf J y x=false)/\OwnS e k v n (F.flatMap a) L'):=by
 intro g H w T
 have hl:l.length=n:=by
  have:=hO.1;rw [ZF O] at this;exact AN t this
 subst hl;rcases hO.2 with ⟨rfl,W,rfl⟩ | ⟨b,c,K,rfl,rfl,hc,Z,Q,a4⟩
 ·have:l=[]:=Oo.1 W;subst this;refine (h0 none 0 _ w).mono ?_;rintro e G ⟨rfl,rfl⟩;exact ⟨_,I,[],U,zJH _,T,U,U,[],.nil,.nil,by simp,.inl ⟨U,U,U⟩⟩
 ·have hb:=T.own b _ (jM.2 U);have Y:b<w.heap.size:=(O0.1 hb).1;have a1:(l.flatMap a).length=l.length*k:=ZF O l
  have hH:HoldsK a k w b 0 l.toArray:=by
   unfold HoldsK;rw [zlR O t];exact zcd (enc:=id) T (jM.2 U) (l.flatMap a) (by rw [a1,a4];simp)
  have hC:CmpLays P g0 #[] a k J b 0 l.toArray.size w:=by
   intro m E V _ x y
   have h1:=M (fun q=>(sortWorldK a k w b 0 m V E).heap[q]?) x y (sortWorldK a k w b 0 m V E) (fun _=>none) (sortWorldK a k w b 0 m V E)
    ⟨U,U,U,⟨jn _,jn _⟩,fun _ _ h=>h,(fun _ _ h=>by cases h),(fun _ _ h=>by cases h),fun _=>.inr U,(fun _ _ h=>by cases h),by simp⟩
   refine Calls.mono h1 ?_;rintro e G ⟨rfl,hs⟩;exact ⟨U,zrq hs⟩
  have s:=hs b 0 c l.toArray w hC hH Y kK;rw [OH] at s;refine s.mono ?_;rintro e G ⟨rfl,o,m,E,hp,a3,rfl⟩;have D:o.size=l.length:=by simpa using hp.1
  have C:o.toList.Perm l:=by
   have:=hp.2.2;simpa [Array.extract_eq_self_of_le,D] using this
  have a0:o=o.toList.toArray:=(by simp);have N:(o.toList.flatMap a).length=l.length*k:=(by rw [ZF O,Bf,D]);refine ⟨_,I,[(b,.cells (putCells id 0 (o.toList.flatMap a).toArray K) e (0,0))],U,zJH _,?_,U,U,o.toList,C,?_,?_⟩
  ·unfold sortWorldK putRowK;rw [a0,zlR O t];simp only;exact (((T.aheadN m).rowPut (enc:=id) _ .here).grown E)
  ·rw [jY];intro i j hi hj a2;have:=a3 i j (jd _) a2 (by rw [<-D];simpa using hj);rw [Da o i (by simpa using hi),Da o j (by simpa using hj)] at this;simpa using this
  ·refine ⟨by rw [N],.inr ⟨b,c,_,U,U,hc,Z,by simp [putCells,Q],?_⟩⟩;have:=zeA (enc:=id) (cs:=K) (n:=l.length*k) (o.toList.flatMap a) N (by rw [Q];exact Av k hc);simpa using this
end
end Go.Kn
namespace Go.Proofs
section
open Go.Shelf
def Tryz.lays189_ren:Go.Shelf.Ren:=⟨fun | 189=>64 | 125=>108 | 257=>107 | 128=>164 | 129=>165 | 294=>155 | 295=>156 | 296=>157 | 297=>158 | 298=>159 | 299=>160 | 216=>161 | 300=>162 | 301=>163 | 328=>204 | 329=>205 | 330=>206 | 331=>207 | 332=>208 | 215=>192 | 343=>238 | n=>n,fun | 28=>23 | 3=>3 | 46=>186 | 0=>0 | 51=>234 | 53=>236 | 4=>4 | 183=>228 | 182=>227 | 131=>141 | 5=>5 | 9=>9 | 218=>259 | 222=>253 | 228=>278 | 229=>279 | n=>n,fun | n=>n⟩
theorem Tryz.lays189:Go.Proofs.Lays.n189 Tryz.prog Tryz.lays189_ren:={
 mixed:=kA
 f125:=Tryz.func108.trans (jA some kA)
 f128:=Tryz.func164.trans (jA some kA)
 f129:=Tryz.func165.trans (jA some kA)
 f189:=Tryz.func64.trans (jA some kA)
 f215:=Tryz.func192.trans (jA some kA)
 f216:=Tryz.func161.trans (jA some kA)
 f257:=Tryz.func107.trans (jA some kA)
 f294:=Tryz.func155.trans (jA some kA)
 f295:=Tryz.func156.trans (jA some kA)
 f296:=Tryz.func157.trans (jA some kA)
 f297:=Tryz.func158.trans (jA some kA)
 f298:=Tryz.func159.trans (jA some kA)
 f299:=Tryz.func160.trans (jA some kA)
 f300:=Tryz.func162.trans (jA some kA)
 f301:=Tryz.func163.trans (jA some kA)
 f328:=Tryz.func204.trans (jA some kA)
 f329:=Tryz.func205.trans (jA some kA)
 f330:=Tryz.func206.trans (jA some kA)
 f331:=Tryz.func207.trans (jA some kA)
 f332:=Tryz.func208.trans (jA some kA)
 f343:=Tryz.func238.trans (jA some kA)
 t0:=Tryz.underlying0
 a0:=Tryz.isAgg0
 z0:=Tryz.sizeOf0
 v0:=Tryz.zeroValue0
 t3:=Tryz.underlying3
 a3:=Tryz.isAgg3
 z3:=Tryz.sizeOf3
 v3:=Tryz.zeroValue3
 t4:=Tryz.underlying4
 a4:=Tryz.isAgg4
 z4:=Tryz.sizeOf4
 v4:=Tryz.zeroValue4
 t5:=Tryz.underlying5
 a5:=Tryz.isAgg5
 z5:=Tryz.sizeOf5
 v5:=Tryz.zeroValue5
 t9:=Tryz.underlying9
 a9:=Tryz.isAgg9
 z9:=Tryz.sizeOf9
 v9:=Tryz.zeroValue9
 t28:=Tryz.underlying23
 a28:=Tryz.isAgg23
 z28:=Tryz.sizeOf23
 v28:=Tryz.zeroValue23
 t46:=Tryz.underlying186
 a46:=Tryz.isAgg186
 z46:=Tryz.sizeOf186
 v46:=Tryz.zeroValue186
 t51:=Tryz.underlying234
 a51:=Tryz.isAgg234
 z51:=Tryz.sizeOf234
 v51:=Tryz.zeroValue234
 t53:=Tryz.underlying236
 a53:=Tryz.isAgg236
 z53:=Tryz.sizeOf236
 v53:=Tryz.zeroValue236
 t131:=Tryz.underlying141
 a131:=Tryz.isAgg141
 z131:=Tryz.sizeOf141
 v131:=Tryz.zeroValue141
 t182:=Tryz.underlying227
 a182:=Tryz.isAgg227
 z182:=Tryz.sizeOf227
 v182:=Tryz.zeroValue227
 t183:=Tryz.underlying228
 a183:=Tryz.isAgg228
 z183:=Tryz.sizeOf228
 v183:=Tryz.zeroValue228
 t218:=Tryz.underlying259
 a218:=Tryz.isAgg259
 z218:=Tryz.sizeOf259
 v218:=Tryz.zeroValue259
 t222:=Tryz.underlying253
 a222:=Tryz.isAgg253
 z222:=Tryz.sizeOf253
 v222:=Tryz.zeroValue253
 t228:=Tryz.underlying278
 a228:=Tryz.isAgg278
 z228:=Tryz.sizeOf278
 v228:=Tryz.zeroValue278
 t229:=Tryz.underlying279
 a229:=Tryz.isAgg279
 z229:=Tryz.sizeOf279
 v229:=Tryz.zeroValue279}
open Go.Sort Go.RowKit in
theorem Tryz.slices_Sort_int (a b d:Nat) (g:List Int) (w:World) (i:Holds (Value.int .i64) w a b g.toArray) (f:a<w.heap.size) (h:g.length<4611686018427387904):
  Calls Tryz.prog 64 #[.slice (some ⟨a,b,none⟩) g.length d] w fun e l=>
   e= .returned (.tuple #[])/\∃ n j,l=grow (putRow (Value.int .i64) (Sort.ahead w n) a b (g.mergeSort fun x y=>decide (x<=y)).toArray) j:=Any.slices_Sort_int Tryz.lays189 a b d g w i f h
def Tryz.laysNm220_ren:Go.Shelf.Ren:=⟨fun | 20=>91 | n=>n,fun | 22=>23 | 3=>3 | 4=>4 | 0=>0 | n=>n,fun | n=>n⟩
theorem Tryz.laysNm220:Go.Proofs.Lays2.n20 Tryz.prog Tryz.laysNm220_ren:={
 mixed:=kA
 f20:=Tryz.func91.trans (jA some kA)
 t0:=Tryz.underlying0
 a0:=Tryz.isAgg0
 z0:=Tryz.sizeOf0
 v0:=Tryz.zeroValue0
 t3:=Tryz.underlying3
 a3:=Tryz.isAgg3
 z3:=Tryz.sizeOf3
 v3:=Tryz.zeroValue3
 t4:=Tryz.underlying4
 a4:=Tryz.isAgg4
 z4:=Tryz.sizeOf4
 v4:=Tryz.zeroValue4
 t22:=Tryz.underlying23
 a22:=Tryz.isAgg23
 z22:=Tryz.sizeOf23
 v22:=Tryz.zeroValue23
 i3:=by kernel_rfl}
open Go.RowKit Go.Lib Go.Sort in
theorem Tryz.slices_Compact_int (a b d:Nat) (f:List Int) (w:World) (i:Holds (Value.int .i64) w a b f.toArray) (h:f.length<=9223372036854775807) (g:f.length<=d):
  Calls Tryz.prog 91 #[.slice (some ⟨a,b,none⟩) f.length d] w fun e j=>e= .returned (.slice (some ⟨a,b,none⟩) (Lib.compact f).length d)/\∃ q,j=putRow (Value.int .i64) (Sort.ahead w q) a b (Lib.compact f++List.replicate (f.length-(Lib.compact f).length) 0).toArray:=Any.slices_Compact_int Tryz.laysNm220 a b d f w i h g
open Go.RowKit Go.Lib Go.Sort in
theorem Tryz.slices_Compact_int_empty (a:Option Addr) (b:Nat) (w:World):
  Calls Tryz.prog 91 #[.slice a 0 b] w fun e d=>e= .returned (.slice a 0 b)/\d=w:=Any.slices_Compact_int_empty Tryz.laysNm220 a b w
open Go.RowKit Go.Sort in
theorem Tryz.slices_Sort_int_none (p:Option Addr) (a:Nat) (w:World):
  Calls Tryz.prog 64 #[.slice p 0 a] w fun e b=>e= .returned (.tuple #[])/\b=w:=Any.slices_Sort_int_none Tryz.lays189 p a w
def Tryz.laysSlF06_f140_ren:Go.Shelf.Ren:=⟨fun | 6=>140 | 15=>108 | 14=>191 | 28=>164 | 29=>165 | 20=>224 | 21=>225 | 22=>226 | 23=>227 | 24=>228 | 25=>229 | 26=>230 | 27=>231 | 46=>246 | 47=>205 | 48=>206 | 49=>247 | 50=>248 | 57=>258 | n=>n,fun | 22=>48 | 24=>54 | 25=>213 | 3=>3 | 39=>186 | 0=>0 | 53=>234 | 55=>236 | 4=>4 | 46=>228 | 45=>227 | 50=>141 | 5=>5 | 9=>9 | 66=>259 | 70=>253 | 76=>278 | 77=>279 | n=>n,fun | n=>n⟩
theorem Tryz.laysSlF06_f140:Go.Proofs.SlLaysF0.n6 Tryz.prog Tryz.laysSlF06_f140_ren:={
 mixed:=kA
 f6:=⟨Tryz.f140.name,by decide,Tryz.func140.trans (jA some kA)⟩
 f14:=⟨Tryz.f191.name,by decide,Tryz.func191.trans (jA some kA)⟩
 f15:=Tryz.func108.trans (jA some kA)
 f20:=⟨Tryz.f224.name,by decide,Tryz.func224.trans (jA some kA)⟩
 f21:=⟨Tryz.f225.name,by decide,Tryz.func225.trans (jA some kA)⟩
 f22:=⟨Tryz.f226.name,by decide,Tryz.func226.trans (jA some kA)⟩
 f23:=⟨Tryz.f227.name,by decide,Tryz.func227.trans (jA some kA)⟩
 f24:=⟨Tryz.f228.name,by decide,Tryz.func228.trans (jA some kA)⟩
 f25:=⟨Tryz.f229.name,by decide,Tryz.func229.trans (jA some kA)⟩
 f26:=⟨Tryz.f230.name,by decide,Tryz.func230.trans (jA some kA)⟩
 f27:=⟨Tryz.f231.name,by decide,Tryz.func231.trans (jA some kA)⟩
 f28:=Tryz.func164.trans (jA some kA)
 f29:=Tryz.func165.trans (jA some kA)
 f46:=⟨Tryz.f246.name,by decide,Tryz.func246.trans (jA some kA)⟩
 f47:=Tryz.func205.trans (jA some kA)
 f48:=Tryz.func206.trans (jA some kA)
 f49:=⟨Tryz.f247.name,by decide,Tryz.func247.trans (jA some kA)⟩
 f50:=⟨Tryz.f248.name,by decide,Tryz.func248.trans (jA some kA)⟩
 f57:=⟨Tryz.f258.name,by decide,Tryz.func258.trans (jA some kA)⟩
 t0:=Tryz.underlying0
 a0:=Tryz.isAgg0
 z0:=Tryz.sizeOf0
 v0:=Tryz.zeroValue0
 t3:=Tryz.underlying3
 a3:=Tryz.isAgg3
 z3:=Tryz.sizeOf3
 v3:=Tryz.zeroValue3
 t4:=Tryz.underlying4
 a4:=Tryz.isAgg4
 z4:=Tryz.sizeOf4
 v4:=Tryz.zeroValue4
 t5:=Tryz.underlying5
 a5:=Tryz.isAgg5
 z5:=Tryz.sizeOf5
 v5:=Tryz.zeroValue5
 t9:=Tryz.underlying9
 a9:=Tryz.isAgg9
 z9:=Tryz.sizeOf9
 v9:=Tryz.zeroValue9
 t22:=Tryz.underlying48
 a22:=Tryz.isAgg48
 z22:=Tryz.sizeOf48
 v22:=Tryz.zeroValue48
 t25:=Tryz.underlying213
 a25:=Tryz.isAgg213
 z25:=Tryz.sizeOf213
 v25:=Tryz.zeroValue213
 t39:=Tryz.underlying186
 a39:=Tryz.isAgg186
 z39:=Tryz.sizeOf186
 v39:=Tryz.zeroValue186
 t45:=Tryz.underlying227
 a45:=Tryz.isAgg227
 z45:=Tryz.sizeOf227
 v45:=Tryz.zeroValue227
 t46:=Tryz.underlying228
 a46:=Tryz.isAgg228
 z46:=Tryz.sizeOf228
 v46:=Tryz.zeroValue228
 t50:=Tryz.underlying141
 a50:=Tryz.isAgg141
 z50:=Tryz.sizeOf141
 v50:=Tryz.zeroValue141
 t53:=Tryz.underlying234
 a53:=Tryz.isAgg234
 z53:=Tryz.sizeOf234
 v53:=Tryz.zeroValue234
 t55:=Tryz.underlying236
 a55:=Tryz.isAgg236
 z55:=Tryz.sizeOf236
 v55:=Tryz.zeroValue236
 t66:=Tryz.underlying259
 a66:=Tryz.isAgg259
 z66:=Tryz.sizeOf259
 v66:=Tryz.zeroValue259
 t70:=Tryz.underlying253
 a70:=Tryz.isAgg253
 z70:=Tryz.sizeOf253
 v70:=Tryz.zeroValue253
 t76:=Tryz.underlying278
 a76:=Tryz.isAgg278
 z76:=Tryz.sizeOf278
 v76:=Tryz.zeroValue278
 t77:=Tryz.underlying279
 a77:=Tryz.isAgg279
 z77:=Tryz.sizeOf279
 v77:=Tryz.zeroValue279}
open Go.RowKit Go.Lib Go.Sort in
theorem Tryz.slices_SortFunc {o:Type} [Inhabited o] (k:Nat) (u:∀ w,(isAgg (Tryz.laysSlF06_f140_ren.t 24)).run Tryz.prog w= .ok true w) (zE:∀ w,(Go.sizeOf (Tryz.laysSlF06_f140_ren.t 24)).run Tryz.prog w= .ok k w) (b:o->List Value) (B:∀ x,(b x).length=k) (h1:∀ x,∀ v∈b x,v.oneCell'=true) (p:o->o->Int) (A:SWO (ltOf p)) (g:Nat) (q:Array Value) (a f i:Nat) (d:Array o) (w:World) (y:∀ h w,(callFunc g h).run Tryz.prog w= .ok (.enter g h) w) (l:CmpLays Tryz.prog g q b k p a f d.size w) (z:HoldsK b k w a f d) (j:a<w.heap.size) (s:d.size<4611686018427387904):
  Calls Tryz.prog 140 #[.slice (some ⟨a,f,none⟩) d.size i,.func (.func g) #[] q] w fun e D=>
   e= .returned (.tuple #[])/\∃ r n C,PermIn 0 d.size d r/\SortedIn (ltOf p) 0 d.size r/\D=sortWorldK b k w a f n r C:=AnyQ.slices_SortFunc Tryz.laysSlF06_f140 k u zE b B h1 p A g q a f i d w y l z j s
open Go.RowKit Go.Lib Go.Sort in
theorem Tryz.slices_SortFunc_none {α:Type} [Inhabited α] (p:Option Addr) (a:Nat) (b:Value) (w:World):
  Calls Tryz.prog 140 #[.slice p 0 a,b] w fun e d=>e= .returned (.tuple #[])/\d=w:=AnyF.slices_SortFunc_none Tryz.laysSlF06_f140 p a b w
end
end Go.Proofs
namespace Go.Proofs.YtodakphagkommaaGreatDoor
section
open Go Go.Kn Go.Proofs
theorem UK:kp 22 23 1 24:=.of kA
theorem znz:ke 64:=.of Tryz.func64 kA kA
theorem zv8:ke 91:=.of Tryz.func91 kA kA
theorem zFG:ke 92:=.of Tryz.func92 kA kA
theorem zym:ki 174 1:=.of kA
theorem Ze:ki 23 1:=.of kA
theorem zDk:kj 174 .nilFunc:=.of kA
theorem Vi:kj 23 (.slice none 0 0):=.of kA
theorem zE7:kj 3 (.int .i64 0):=.of kA
theorem XB (A:List Int):A.flatMap QF=A.map (Value.int .i64):=by
 induction A with
 | nil=>rfl
 | cons z A ih=>rw [jV,ih];rfl
variable{A:List Int}{v:Value}
theorem zny {n:Nat}{L:Go.Kn.Loc}(a:OwnS 3 1 v n (A.flatMap QF) L)(f:n<=1000000)(I:Qu):kg 64 [v] I L (fun u b d=>u= .tuple #[]/\b=I/\OwnS 3 1 v n ((Vf A).flatMap QF) d):=by rw [XB] at a;rw [XB];exact zlQ Tryz.slices_Sort_int Tryz.slices_Sort_int_none A a f I
theorem zlu {n:Nat}{L:Go.Kn.Loc}(a:OwnS 3 1 v n (A.flatMap QF) L)(f:n<=1000000)(I:Qu):kg 91 [v] I L (fun u b d=>b=I/\OwnS 3 1 u (Lib.compact A).length ((Lib.compact A).flatMap QF) d):=by rw [XB] at a;rw [XB];exact zdE Lib.compact Lib.compact_length_le U Tryz.slices_Compact_int Tryz.slices_Compact_int_empty A a f I
theorem zgH {I:Qu}{j d b a i:Nat}{J D q:Option Addr}{z C B F n c:Nat}{St o:List Int}{rows:List (List Int)}{l:Nat}(y:n<=100000)(p:B<=100000)(t:z<=1000)(x:∀ r∈rows,l<r.length)(w:VX rows.length o=0):∀ (f:Nat) (I:Qu),RtE I 93 j d b a i J D q z C B F n c St o rows l->∀ (s:Int),OkS rows.length o s->s.toNat<=f->kg 93 ([.int .i64 s]++[Zm j,Zm d,Zm b,Zm a,Zm i]) I [] (Jv 1 QF (rcF St (uF rows l) o f s))
 | 0,_,_,s,hok,hf=>by have:=hok.1;omega
 | f+1,I,hE,s,hok,hf=>ztg hE y p t x w f s hok (fun h=>kB) fun u E H g G=>zgH (I:=u) y p t x w f u (hE.mono E) H g (by have:=g.1;have:=hok.1;omega)
variable{I:Qu}{q D:Option Addr}{o:List Int}{B F:Nat}{rows:List (List Int)}
theorem zBv {n c:Nat}(J:Sl I 1 QF q n c o)(a:SlN I D B F rows)(e1:B<=100000)(f2:JZ I):kg 51 [.slice D B F,.slice q n c] I [] (zuS rows o):=by
 intro g H w hw;refine qe Tryz.func51 Tryz.ntmps51 hw ?_;have a2:=zJH I;have i1:=a.len;subst i1;have e0:=a;obtain ⟨hs,hV⟩:=e0;have hH:=hV.1;refine zR<|QU U U U (fun b2=>QU U U U (fun b3=>zA<|zA (zN (Qk (zR<|zV (Qc U UM (fun hg=>by exact zJB (zJC U)))<|zV (Qc U QA (fun hg=>by exact zJC U))<|qcV (vs:=[_,_]) U zFG (zzn J a e1 f2)<|zM ?_)))))
 refine zE ?_;refine zE ?_;refine zA<|zN (zR ?_)
 refine zM<|zC (zN ?_)
 refine zI ?_ ?_<;>intro b9
 ·have O:YZ rows o≠0:=(by simpa using b9);refine zR (zM<|zA<|zA (zN (Qq (Qb ?_))))
  first
  | exact QY U U U (fun w hw=>⟨_,_,[],U,a2,hw.drop,U,none,0,by rw [XN O];rfl,by rw [XN O];exact .none⟩)
 have O:YZ rows o=0:=by simpa using b9
 have i6:Vc rows=0:=by cases Bn (Vc rows=0) with
  | inl h=>exact h
  | inr h=>exact absurd ((zdI h).1.symm.trans O) h
 have d0:VX rows.length o=0:=(by have h:=O;unfold YZ at h;rw [ja kB] at h;exact h);obtain ⟨l2,l3,e2,d2⟩:=Js i6;obtain ⟨x0,v0,i8,i7,f4⟩:=hV.at (k:=0) kB;have c5:=f4.len;have d1:rows.getD 0 []=v0:=QJ i7;rw [d1] at e2 d2;have l9:=(ZJ d0).2.2.1;have l0:=J.len;have hn:n<=100000:=kB;have l4:=zbX (n:=(rows.length:Int)) ⟨kB,kB⟩;have j6:=KQ (n:=(rows.length:Int)) ⟨kB,kB⟩;refine Qm (Qa (Qk (Qk<|Vz (fun I1 a5 b8=>?_))));have J:=J.mono a5;have a:=a.mono a5;have hV:=hV.mono a5;have hH:=hH.mono a5;have a2:=a2.trans a5;have f:QO I1 [] b2 0 (.slice D rows.length F):=.imm (b8 _ _ kD) U;have s:QO I1 [] b3 0 (.slice q n c):=.imm (b8 _ _ kD) U;refine Qh<|zV (Qc U UM (fun hg=>by exact f.any))<|zV (zX QM hH)<|zV (Qc U QA (fun hg=>by exact zJA hH i8 U))<|zQ Qt ?_
 refine zM<|zN<|Ql ?_;refine zU [(2,_),(3,_),(29,_)] (fun T L0 mz E I' t=>∃ (l:Nat) (v4:Value) (os:List Hd) (L:Go.Kn.Loc),mz=x0.n-l/\E=(4,v4)::(30,.int .i64 l)::T/\HLe I1 I'/\L=t/\l<=x0.n/\OwnS 23 1 v4 l (os.flatMap Kv) L/\WM I' os ((List.range l).map (VP rows o))) ?_ (h:=⟨0,_,[],[],U,U,zJH _,U,jd _,OwnS.nil,WM.nil⟩);rintro mz E J2 t ⟨l,v4,os,L,rfl,rfl,hJ,rfl,hl,c6,j⟩;have J:=J.mono hJ;have a:=a.mono hJ;have hV:=hV.mono hJ;have hH:=hH.mono hJ;have f:=f.mono hJ;have s:=s.mono hJ;have a2:=a2.trans hJ;have p:=hJ;obtain ⟨i9,j0,rfl⟩:=zaV c6;refine zR<|zC<|zN<|Qk ?_;refine zI ?_ ?_<;>intro c0
 ·have i2:l<x0.n:=kd c0;have l5:=zh7 (rows:=rows) (l:=l);refine Qm<|Qa<|Qk<|Ql<|zR<|zM ?_;refine Qv zE7 U U (fun P=>?_);refine zS ZO ?_;refine zN (zR<|zpb [(0,_)] [QF (0:Int)] QS (fun d4=>Qv Vi U U (fun Q=>?_)));refine zS Ze ?_;refine zN<|Qk<|zR ?_;refine zV (Qc U UM (fun hg=>by exact f.any)) ?_;refine zQ QM ?_;refine zM<|zN<|Ql ?_;refine zU [(2,_),(3,_),(4,_),(6,_),(7,_),(29,_),(30,_),(34,_),(35,_)] (fun T L0 mz E I' t=>∃ (i:Nat) (v7:Value) (q7:Nat) (L7:Go.Kn.Loc),mz=rows.length-i/\E=(36,.int .i64 i)::T/\J2=I'/\(Q,.cells #[v7] 23 (0,0))::(L7++((P,.cells #[.int .i64 l] 3 (0,0))::L))=t/\i<=rows.length/\OwnS 3 1 v7 q7 ((stL rows l i).flatMap QF) L7/\q7<=i+1) ?_ (h:=⟨0,_,1,[(d4,_)],U,U,U,U,jd _,OwnS.lit U kC,jn _⟩);rintro mz E I' t ⟨i,v7,q7,L7,rfl,rfl,rfl,rfl,hi,a6,l1⟩;obtain ⟨va,vc,rfl⟩:=zaV a6;refine zR<|zC<|zN<|Qk ?_;refine zI ?_ ?_<;>intro c1
  ·have W:i<rows.length:=kd c1;obtain ⟨x,v,hx,hv,hQ⟩:=hV.at W;have i3:l<v.length:=(by rw [(d2 v (je hv)).1];omega);have hu:=QE (d:=0) U i3;have l8:=hQ.len;have c7:uF rows l i=v.getD l 0:=(by unfold uF;rw [QJ hv]);refine Qm (Qa (Qk (Ql (zR<|zV (zX QM hH)<|zV (Qc U QA (fun hg=>by exact zJA hH hx U))<|zA<|zN (zR ?_)))));refine zM<|zV (Qc U Qr (fun hg=>by (repeat (first | exact zJC U | apply zJB | apply zJD))))<|zV (zX Qt hQ)<|zV (Qc U Qr (fun hg=>by exact zJA hQ hu U))<|zA<|zN (zR ?_)
   refine zM<|zC (zN ?_)
   refine zI ?_ ?_<;>intro c2
   ·have i4:uF rows l i≠8589934592:=(by rw [c7];simpa using c2);refine Qh<|zV (Qc U QA (fun hg=>by exact zJC U))<|zM ?_
    refine zpb [(0,_)] [QF (v.getD l 0)] QS (fun j2=>?_);refine zpa (_) ([v.getD l 0].flatMap QF) (L7) U U QS a6 ⟨U,fun _=>U,by repeat (first | exact zJF | apply zJE | apply zJG)⟩ (YJ [v.getD l 0]) ?_;intro v9 L9 a3 _;rw [<-jh] at a3;obtain ⟨m6,m7,rfl⟩:=zaV a3;refine zS Ze<|Qe (Qg (Qa (Qh (zB<|zM (Qe ?_)))))
    first
    | exact Vx _ _ (L9++((Q,_)::((P,_)::L))) ⟨rows.length-(i+1),kB,i+1,_,q7+1,L9,U,U,U,U,kB,by rw [zC3 i4,c7];exact a3,kB⟩ kc AA.symm kH
   have i0:uF rows l i=8589934592:=(by rw [c7];simpa using c2);refine Qm (Qg (Qa (Qh (zB<|zM (Qe ?_)))))
   first
   | exact zm (h:=⟨rows.length-(i+1),kB,i+1,_,q7,L7,U,U,U,U,kB,by rw [zGO i0];exact a6,kB⟩)
  have a7:rows.length<=i:=kd c1;rw [show i=rows.length by omega] at a6;refine Qy (Qf (Qf (Qj (Qa (zR<|zV (Qc U QA (fun hg=>by exact zJC U))<|zpc [_] U znz (by repeat (first | exact .cons .here .nil | exact Zp | exact Q6 | apply ZC | apply Zz)) (zny a6 kB _) ?_)))));rintro m8 I4 L4 Z ⟨rfl,rfl,f3⟩;have J:=J.mono Z;have a:=a.mono Z;have f:=f.mono Z;have s:=s.mono Z;have j:=j.mono Z;have p:=p.trans Z;refine zN (zR<|zV (Qc U QA (fun hg=>by (repeat (first | exact zJC U | apply zJB | apply zJD))))<|zpc [_] U zv8 (by repeat (first | exact .cons .here .nil | exact Zp | exact Q6 | apply ZC | apply Zz)) (zlu f3 kB _) ?_);rintro m9 I5 L5 a0 ⟨rfl,b4⟩;have J:=J.mono a0;have a:=a.mono a0;have f:=f.mono a0;have s:=s.mono a0;have j:=j.mono a0;have p:=p.trans a0;have b4:OwnS 3 1 _ (stE rows l).length ((stE rows l).flatMap QF) _:=b4;obtain ⟨e4,e5,rfl⟩:=zaV b4;refine zS Ze ?_;refine zN (zR<|Qv zDk U U (fun K=>zN (zR<|zV (Zn (us:=[]) (vs:=[_,_,_,_,_]) U U) ?_)));refine zS zym ?_;refine zN (Qk<|zx4 b4 QL (fun I6 a1 k6 k8 e7 u=>?_));cases e7;have J:=J.mono a1;have a:=a.mono a1;have f:=f.mono a1;have s:=s.mono a1;have j:=j.mono a1;have p:=p.trans a1;refine Zk (b:=K) (by repeat (first | exact Zb.here | apply Zb.there)) (fun I7 V f7=>?_);have J:=J.mono V;have a:=a.mono V;have f:=f.mono V;have s:=s.mono V;have j:=j.mono V;have u:=u.mono V;have p:=p.trans V;have z:QO I7 [] K 0 (.func (.func 93) #[] #[Zm Q,Zm b2,Zm P,Zm b3,Zm K]):=.imm f7 U;refine Zk (b:=Q) (by repeat (first | exact Zb.here | apply Zb.there)) (fun I8 N f8=>?_);have J:=J.mono N;have a:=a.mono N;have f:=f.mono N;have s:=s.mono N;have j:=j.mono N;have u:=u.mono N;have z:=z.mono N;have p:=p.trans N;have Y:QO I8 [] Q 0 (.slice e4 (stE rows l).length e5):=.imm f8 U;refine Zk (b:=P) (by repeat (first | exact Zb.here | apply Zb.there)) (fun I9 G f9=>?_);have J:=J.mono G;have a:=a.mono G;have f:=f.mono G;have s:=s.mono G;have j:=j.mono G;have u:=u.mono G;have z:=z.mono G;have Y:=Y.mono G;have p:=p.trans G;have f1:QO I9 [] P 0 (.int .i64 l):=.imm f9 U;have f5:RtE I9 93 Q b2 P b3 K e4 D q (stE rows l).length e5 rows.length F n c (stE rows l) o rows l:=⟨Y,f,f1,s,z,u,J,a⟩;have hD:=zJH I9;refine U3 mixed<|zT 0 U (Qc U zlX (fun hg=>by exact z.any)) hD<|zT 1 U (Qc U UM (fun hg=>by exact f.any)) hD<|zT 2 U (Zs U QM) hD<|zT 3 U (U7 U U (fun hg=>kB)) hD<|zT 4 U (Zf U U U (fun hg=>kB)) hD<|qd 5 U<|Yi (cap:=[Zm Q,Zm b2,Zm P,Zm b3,Zm K]) (vs:=[_]) U U zu7 (by exact .nil) (zgH (I:=I9) hn e1 kB (fun r hr=>by rw [(d2 r hr).1];omega) d0 64 I9 f5 (ZS rows.length) (zaU d0) kB) U U ?_
  rintro j8 e6 k0 M ⟨rfl,aA,cA,rfl,a4⟩;have j:=j.mono M;have u:=u.mono M;have Y:=Y.mono M;have p:=p.trans M;have hD:=hD.trans M;have l7:(rcF (stE rows l) (uF rows l) o 64 (ZS rows.length)).length=(stE rows l).length:=zp6;have l6:=znu (rows:=rows) (l:=l);have d7:=zD5 (xs:=zka rows o l) a4 kB kB;refine Qe<|zD hD<|zT 6 U (ZE U) hD<|QH kA<|QP<|Qa (zR (zM<|qcV (vs:=[_]) U zvo (d7) ?_))
  refine zA<|zN (zR<|zA (zN (Qk (zR<|zV (Qc U QA (fun hg=>by exact Y.any))<|zQ Qt ?_))))
  refine zM<|zN<|Ql ?_;refine zU [(2,_),(3,_),(4,_),(12,_),(13,_),(29,_),(30,_),(64,_),(65,_)] (fun T L0 mz E I' t=>∃ (i:Nat) (d3:Value) (b6:Nat) (b1:Go.Kn.Loc),mz=(stE rows l).length-i/\E=(14,d3)::(66,.int .i64 i)::T/\e6=I'/\b1++L=t/\i<=(stE rows l).length/\OwnS 3 1 d3 b6 ((((stE rows l).take i).filter fun x=>zrG rows o l x==ZY (zka rows o l)).flatMap QF) b1/\b6<=i) ?_ (h:=⟨0,_,0,[],U,U,U,U,jd _,OwnS.nil,jn _⟩);rintro mz E I' t ⟨i,d3,b6,b1,rfl,rfl,rfl,rfl,hi,C,j7⟩;refine zR<|zC<|zN<|Qk ?_;refine zI ?_ ?_<;>intro c3
  ·have W:i<(stE rows l).length:=kd c3;obtain ⟨y,b5⟩:=u.at W;have f6:(zka rows o l)[i]? =some (zrG rows o l y):=(by rw [zca,jB,b5];rfl);refine Qm (Qa (Qk (Ql (zR (zM<|zV (zX Qt u)<|zV (Qc U Qr (fun hg=>by exact zJA u b5 U))<|zA<|zA<|zN (zR ?_))))));refine zM ?_;refine zM ?_;refine zV (zX Qt a4)<|zV (Qc U Qr (fun hg=>by exact zJA a4 f6 U))<|zM<|zC (zN ?_)
   refine zI ?_ ?_<;>intro c4
   ·have c8:(zrG rows o l y==ZY (zka rows o l))=true:=c4;refine Qh (zM<|zM ?_);refine zpb [(0,_)] [QF y] QS (fun j3=>?_);refine zpa (_) ([y].flatMap QF) (b1) U U QS C ⟨U,fun _=>U,by repeat (first | exact zJF | apply zJE | apply zJG)⟩ (YJ [y]) ?_;intro v9 L9 a3 _;rw [<-jh] at a3;refine zA (Qe (Qg (Qa (Qh<|zB<|zM (Qe ?_)))))
    first
    | exact zm (h:=⟨(stE rows l).length-(i+1),kB,i+1,_,_,_,U,U,U,U,kB,by rw [zqW b5 c8];exact a3,kB⟩)
   have c8:(zrG rows o l y==ZY (zka rows o l))=false:=c4;refine Qm (Qg (Qa (Qh (zB<|zM (Qe ?_)))))
   first
   | exact zm (h:=⟨(stE rows l).length-(i+1),kB,i+1,_,_,_,U,U,U,U,kB,by rw [zw6 b5 c8];exact C,kB⟩)
  have a7:(stE rows l).length<=i:=kd c3;rw [jr a7] at C;obtain ⟨a9,b0,rfl⟩:=zaV C;have e3:(stE rows l).filter (fun x=>zrG rows o l x==ZY (zka rows o l))=VP rows o l:=rfl;have i5:b6=(VP rows o l).length:=(by have h1:=C.1;rw [ZF QL,e3] at h1;omega);subst i5;refine Qy (Qf (Qf (Qj (Qa<|zx4 C QL (fun j9 b7 j1 j5 d5 d9=>?_)))));cases d5;have j:=j.mono b7;have p:=p.trans b7;refine Qh (zM<|zM ?_);refine zpb [(0,_)] [Kv ⟨a9,(VP rows o l).length,b0⟩] UK (fun j4=>?_);refine zpa (_) ([(⟨a9,(VP rows o l).length,b0⟩:Hd)].flatMap Kv) (L) U U UK c6 ⟨U,fun _=>U,by repeat (first | exact zJF | apply zJE | apply zJG)⟩ (zlN _) ?_;intro v8 L8 d8 _;rw [<-jh] at d8;refine zA (Qe (Qg (Qa (Qh<|zB<|zM (Qe ?_)))));exact zm (h:=⟨x0.n-(l+1),kB,l+1,_,_,_,U,U,p,U,kB,d8,by rw [KE];exact j.snoc (hd:=⟨a9,(VP rows o l).length,b0⟩) (by rw [<-e3];exact d9)⟩)
 have a8:l=x0.n:=kd c0;refine Qy (Qf (Qf (Qj (Qa (zR (zM<|zA<|zA (zN (Qq ?_))))))))
 first
 | exact QY U U U (fun w hw=>by obtain ⟨I9,k7,c9,d6,e8,e9,f0⟩:=OwnS.freeze (R:=[]) c6 VH kC (by rw [jw];exact hw);cases e9;exact ⟨_,I9,[],U,a2.trans d6,e8,U,i9,j0,by rw [Wl O,ju,OG,d1,c5,O,<-a8],by rw [Wl O,ju,OG,d1,c5,<-a8];exact ⟨os,f0,j.mono d6⟩⟩)
def Low (a b:Int):Prop:=a<1048576\/b<1048576->a=b
def blN (S:List Int)(f:Int->Int)(x:Int):Int:=(S.map fun y=>Yk x y+f y).foldl KY 1073741824
variable{f:Int->Int}{x:Int}
theorem zC9 {S:List Int}{y:Int}(h:y∈S):blN S f x<=Yk x y+f y:=(JW _ _).1 _ (jt.2 ⟨y,h,U⟩)
theorem zvJ {S:List Int}:blN S f x=1073741824\/∃ y∈S,blN S f x=Yk x y+f y:=by
 rcases (JW (S.map fun y=>Yk x y+f y) 1073741824).2.2 with e | e
 ·exact .inl e
 ·obtain ⟨y,b,a⟩:=jt.1 e;exact .inr ⟨y,b,a.symm⟩
theorem zt6 {S:List Int}{i:Int->Int}(h:∀ y∈S,Low (f y) (i y)):Low (bl S f x) (blN S i x):=by
 intro j
 have d:bl S f x<1048576->blN S i x<=bl S f x:=fun h1=>by
  rcases zAA (S:=S) (f:=f) (x:=x) with e | ⟨y,l,e⟩
  ·omega
  ·have s:=(VO x y).1;have:=h y l (.inl kB);have:=zC9 (f:=i) (x:=x) l;omega
 have g:blN S i x<1048576->bl S f x<=blN S i x:=fun h1=>by
  rcases zvJ (S:=S) (f:=i) (x:=x) with e | ⟨y,l,e⟩
  ·omega
  ·have s:=(VO x y).1;have:=h y l (.inr kB);have:=zhl (f:=f) (x:=x) l;omega
 rcases j with j | j
 ·have a:=d j;have b:=g kB;omega
 ·have a:=g j;have b:=d kB;omega
def cN (S:List Int)(u:Nat->Int):Tr->Int->Int
 | .leaf w,x=>WV (u w) x
 | .node a b,x=>blN S (cN S u a) x+blN S (cN S u b) x
theorem zkG {S:List Int}(h:∀ y∈S,0<=f y):0<=blN S f x:=by
 rcases zvJ (S:=S) (f:=f) (x:=x) with e | ⟨y,a,e⟩
 ·omega
 ·have:=h y a;have:=(VO x y).1;omega
theorem zq1 {S:List Int}{u:Nat->Int}:∀ (T:Tr) (x:Int),0<=cN S u T x
 | .leaf w,x=>by unfold cN WV;split<;>omega
 | .node a b,x=>by
  unfold cN;have h1:=zkG (x:=x) fun y (_:y∈S)=>zq1 (S:=S) (u:=u) a y;have h2:=zkG (x:=x) fun y (_:y∈S)=>zq1 (S:=S) (u:=u) b y;omega
theorem zyj {S:List Int}{u:Nat->Int}:∀ (T:Tr) (x:Int),Low (cT S u T x) (cN S u T x)
 | .leaf w,x=>by
  intro h;unfold cT cN Y1 WV at*;by_cases d:u w=8589934592
  ·simp [d]
  ·by_cases g:u w=x
   ·simp [g]
   ·simp [d,g] at h
 | .node a b,x=>by
  intro h;have i:=zt6 (S:=S) (x:=x) fun y _=>zyj (S:=S) (u:=u) a y;have j:=zt6 (S:=S) (x:=x) fun y _=>zyj (S:=S) (u:=u) b y;have l:=zla (x:=x) fun y (_:y∈S)=>zk1 (S:=S) (u:=u) a y;have B:=zla (x:=x) fun y (_:y∈S)=>zk1 (S:=S) (u:=u) b y;have n:=zkG (x:=x) fun y (_:y∈S)=>zq1 (S:=S) (u:=u) a y;have p:=zkG (x:=x) fun y (_:y∈S)=>zq1 (S:=S) (u:=u) b y;unfold cT cN at h ⊢;rcases h with h | h
  ·rw [i (.inl kB),j (.inl kB)]
  ·rw [i (.inr kB),j (.inr kB)]
theorem zgc {S:List Int}:Xl S (S.map f) x=blN S f x:=by
 unfold Xl zkN blN
 have:∀ k,k<=S.length->(List.range k).foldl (fun b j=>KY b (Yk x (S.getD j 0)+(S.map f).getD j 0)) 1073741824=((S.take k).map fun y=>Yk x y+f y).foldl KY 1073741824:=by
  intro k
  induction k with
  | zero=>intro _;simp
  | succ k ih=>
   intro g;have a:S[k]? =some (S[k]' kB):=jf _;have d:(S.map f)[k]? =some (f (S[k]' kB)):=(by rw [jB,a];rfl);rw [Ok,Oh,ih kB,UE a,Oh,Of,Bt,Of,Bt,QJ a,QJ d]
 have h:=this S.length (jn _);rw [Al] at h;exact h
theorem ze6 {S:List Int}{u:Nat->Int}{a:List Int}{n:Nat}(b:VX n a=0):∀ (f:Nat) (s:Int),s.toNat<=f->OkS n a s->rcF S u a f s=S.map (cN S u (Uh a f s))
 | 0,s,hf,h=>by have:=h.1;omega
 | f+1,s,hf,h=>by
  have g:=zeD b h
  cases h1:ZV s with
  | true=>rw [zD4 h1,zhu h1];rfl
  | false=>
   obtain ⟨d,i,j,l,p,r,_⟩:=VI b h h1;rw [zFK h1,zhs h1,ze6 b f _ kB i,ze6 b f _ kB j];refine OK fun x _=>?_;unfold WT;rw [zgc,zgc];rfl
variable{l:Nat}{u:Nat->Int}
theorem zF3 (T:Tr)(x:Int):cT (stE rows l) u T x=cT (QG rows l) u T x:=zdQ (fun _=>UJ) T x fun _ _=>U
variable{cl:List Int}
theorem zEE (a:VX rows.length cl=0)(d:x∈stE rows l):zrG rows cl l x=cN (stE rows l) (uF rows l) (Uh cl 64 (ZS rows.length)) x:=by obtain ⟨g,i,_⟩:=ZJ a;have b:=KQ (n:=(rows.length:Int)) ⟨g,i⟩;have h:=zca (rows:=rows) (cl:=cl) (l:=l);unfold zka at h;rw [ze6 a 64 _ kB (zaU a)] at h;exact (List.map_inj_left.1 h x d).symm
theorem zsG (J:Vc rows=0)(d:VX rows.length cl=0):x∈VP rows cl l↔x∈QG rows l/\cT (QG rows l) (uF rows l) (Uh cl 64 (ZS rows.length)) x=mn (QG rows l) (cT (QG rows l) (uF rows l) (Uh cl 64 (ZS rows.length))):=by
 obtain ⟨Q,P,_⟩:=Js J;have G:=KQ (n:=(rows.length:Int)) ⟨kB,kB⟩;obtain ⟨j,_,_⟩:=ze8 d 64 (ZS rows.length) kB (zaU d);have i:zka rows cl l=(stE rows l).map (cN (stE rows l) (uF rows l) (Uh cl 64 (ZS rows.length))):=ze6 d 64 _ kB (zaU d);have a:=fun (x:Int) (M:x∈stE rows l)=>zEE (cl:=cl) d M;generalize Uh cl 64 (ZS rows.length)=T at j i a;have h0:(0:Int)∈QG rows l:=zcI.2 (.inl U);obtain ⟨_,_,m4⟩:=zEX (u:=uF rows l) P h0 j fun w K=>zHY (rows:=rows) (l:=l) K;have h:QG rows l≠[]:=AG h0;have g:stE rows l≠[]:=AG (UJ.2 h0);have b:=fun x=>zyj (S:=stE rows l) (u:=uF rows l) T x;have e:=fun x=>zF3 (rows:=rows) (l:=l) (u:=uF rows l) T x
 have H:ZY (zka rows cl l)=mn (QG rows l) (cT (QG rows l) (uF rows l) T):=by
  rw [i];show mn (stE rows l) (cN (stE rows l) (uF rows l) T)=_;obtain ⟨y,N,C⟩:=zz7 (f:=cT (QG rows l) (uF rows l) T) h;obtain ⟨z,O,E⟩:=zz7 (f:=cN (stE rows l) (uF rows l) T) g;have p:=b y (.inl (by rw [e];omega));have r:=zs7 (f:=cN (stE rows l) (uF rows l) T) (UJ.2 N);rw [<-p,e,<-C] at r;have s:=b z (.inr kB);have t:=zs7 (f:=cT (QG rows l) (uF rows l) T) (UJ.1 O);rw [<-e,s,<-E] at t;omega
 unfold VP;rw [jP,jW,H,UJ];constructor
 ·rintro ⟨h1,h2⟩;refine ⟨h1,?_⟩;rw [a x (UJ.2 h1)] at h2;rw [<-e,b x (.inr kB),h2]
 ·rintro ⟨h1,h2⟩;refine ⟨h1,?_⟩;rw [a x (UJ.2 h1),<-b x (.inl (by rw [e];omega)),e,h2]
theorem zye :(VP rows cl l).Pairwise (· < ·):=zuz.filter _
theorem zDR:ke 62:=.of Tryz.func62 kA kA
theorem VN:ko 24 67 3:=.of kA
theorem zAn (h:SlN I D B F rows)(q:Option Addr)(n c:Nat)(d:Option Addr)(a b:Nat):kf 29 [.slice D B F,.slice q n c,.slice d a b] I (.bool (zqO rows&&decide ((n:Int)<=40)&&decide ((a:Int)<=40))):=by
 intro g H w i;refine qe Tryz.func29 Tryz.ntmps29 i ?_;refine zR (zA<|zN (zR ?_));refine zM ?_;refine qcV (vs:=[_]) U zDR (zHb h) ?_;refine zA<|zN (zR ?_)
 refine zM ?_;refine zM ?_;refine Qw 1 U U U ?_;refine zK (Qd U)<|zK (Zs U Qt)<|zK (Qx U U U) ?_
 refine QC U U U U U ?_;refine zM ?_;refine Qw 6 U U U ?_;refine zK (Qd U)<|zK (Zs U VN)<|zK (Qx U U U) ?_
 refine QC U U U U U<|zA (zN (Qq ?_))
 exact zr U U (by cases zqO rows<;>cases decide ((n:Int)<=40)<;>rfl)
structure Dg where
 n:Int
 lo:Int
 hi:Int
 b:Int
def zmr (d:Dg):List Value:=[.int .i64 d.n,.int .i64 d.lo,.int .i64 d.hi,.int .i64 d.b]
theorem ztx (d:Dg):(zmr d).length=4:=rfl
def zfw (d:Dg):Bool:=decide (d.n<d.lo)||decide (d.n>d.hi)
def zqS (c:Int)(d:Dg):Int:=orI (IntKind.i64.wrap (c*2^(min d.b.toNat IntKind.i64.bits))) d.n
def VT (c:Int):List Dg->Option Int
 | []=>some c
 | d::p=>if zfw d=true then none else VT (zqS c d) p
variable{c:Int}{p:List Dg}{k:Nat}
theorem zsD {d:Dg}(h:p[k]? =some d)(a:zfw d=true):VT c (p.drop k)=none:=by rw [ZA h];unfold VT;rw [jb a]
theorem zpM {d:Dg}(h:p[k]? =some d)(a:zfw d=false):VT c (p.drop k)=VT (zqS c d) (p.drop (k+1)):=by rw [ZA h];show (if zfw d=true then none else VT (zqS c d) (p.drop (k+1)))=_;rw [ja (by rw [a];decide)]
theorem ztJ (h:p.length<=k):VT c (p.drop k)=some c:=by rw [Or h];rfl
theorem zxt:km 165 4:=.of kA
theorem zch:kh 165 0 0:=.of kA
theorem zo8:kh 165 1 1:=.of kA
theorem zn2:kh 165 2 2:=.of kA
theorem zqC:kh 165 3 3:=.of kA
theorem zmO:ko 218 165 4:=.of kA
theorem zwY:ki 165 4:=.of kA
theorem zFO:kj 165 (.agg #[(.int .i64 0),(.int .i64 0),(.int .i64 0),(.int .i64 0)]):=.of kA
theorem zEZ {n c:Nat}(C:Sl I 4 zmr q n c p)(V:n<=100000)(O:∀ d∈p,0<=d.b):kf 85 [.slice q n c] I (.tuple #[.int .i64 ((VT 0 p).getD 0),.bool (VT 0 p).isSome]):=by
 intro g H w z;refine qe Tryz.func85 Tryz.ntmps85 z ?_;refine zR (zA<|zA (zN (Qk (zR ?_))));refine zM ?_;refine zQ zmO ?_;refine zM<|zN<|Ql ?_;refine zU [(6,_),(7,_)] (fun T P M E K r=>∃ (k:Nat) (a:Int),M=n-k/\E=(2,.int .i64 a)::(8,.int .i64 k)::T/\I=K/\[]=r/\k<=n/\VT 0 p=VT a (p.drop k)) ?_ (h:=⟨0,0,U,U,U,U,jd _,U⟩);rintro M E K r ⟨k,a,rfl,rfl,rfl,rfl,Q,i⟩;refine zR<|zC<|zN<|Qk ?_;refine zI ?_ ?_<;>intro y
 ·have t:k<n:=kd y;obtain ⟨d,G⟩:=C.at t;have J:=O d (je G);refine Qm (Qa (Qk (Ql (zR<|zV (zX zmO C)<|zV (Qo U zxt (fun hg=>by exact zJI C G) U)<|Qv zFO U U (fun N=>zh zwY<|zN (Qk (zR<|zF zch ?_)))))));refine zL Qr<|zF zo8 ?_
  refine zL Qr<|zC ?_
  refine zM ?_;refine QI 5 U U U ?_;refine zJ (Qi U zch) ?_;refine zJ (Qc U Qr (fun hg=>by exact QO.h0 U))<|zJ (Qi U zn2) ?_
  refine zJ (Qc U Qr (fun hg=>by exact QO.h0 U)) ?_;refine zJ (Qx U U U) ?_;refine Q5 U U U U U<|zN ?_
  refine zI ?_ ?_<;>intro j
  ·rw [zsD G j] at i;refine zR (zA<|zA (zN (Qq (Qb (Qn (Qb (Qb (Qn<|Qb ?_))))))))
   first
   | exact QY U U U (fun w z=>⟨by rw [i];rfl,z.drop⟩)
  refine Qm (Qa<|ZW mixed kA<|zq (Qd U)<|zq (Qi U zqC)<|zq (Qc U Qr (fun hg=>by exact QO.h0 U))<|zq (U7 U U (fun hg=>by exact J))<|zq (Qi U zch)<|zq (Qc U Qr (fun hg=>by exact QO.h0 U))<|zq (zHo U U)<|zq (ZE U)<|ZX<|Qg (Qa (Qh (zB ?_))));exact zM (Qe<|zm (h:=⟨n-(k+1),kB,k+1,zqS a d,U,U,U,U,kB,by rw [i,zpM G j]⟩))
 have s:n<=k:=kd y;rw [ztJ (by rw [C.len];exact s)] at i;refine Qy (Qf (Qf (Qj (Qa (zR (zM<|zA<|zA (zN (Qq ?_))))))))
 first
 | exact QY U U U (fun w z=>⟨by rw [i];rfl,z.drop⟩)
structure Sg where
 id:Int
 role:Int
 bar:Int
 mark:Int
 kind:Int
 side:Int
 dir:Int
 level:Int
 size:Int
 wth:Int
 fn:Int
 fd:Int
 tn:Int
 td:Int
def YA (x:Sg):List Value:=[.int .i64 x.id,.int .i64 x.role,.int .i64 x.bar,.int .i64 x.mark,.int .i64 x.kind,.int .i64 x.side,.int .i64 x.dir,.int .i64 x.level,.int .i64 x.size,.int .i64 x.wth,.int .i64 x.fn,.int .i64 x.fd,.int .i64 x.tn,.int .i64 x.td]
def VD (x:Sg):Value:=.agg (YA x).toArray
theorem Yp (x:Sg):(YA x).length=14:=rfl
def dgs (x:Sg):List Dg:=[⟨x.role,0,63,6⟩,⟨x.kind,1,9,4⟩,⟨x.side,0,2,2⟩,⟨x.dir,0,8,4⟩,⟨x.level,0,3,2⟩,⟨x.size,0,255,8⟩,⟨x.wth,0,64,7⟩]
theorem zH4 (x:Sg):∀ d∈dgs x,0<=d.b:=fun d h=>by
 unfold dgs at h;simp only [jo,List.not_mem_nil,or_false] at h;rcases h with rfl | rfl | rfl | rfl | rfl | rfl | rfl<;>simp
def U8 (x:Sg):Int:=(VT 0 (dgs x)).getD 0
def Ki (x:Sg):Int:=if (VT 0 (dgs x)).isSome=true then 0 else 410
theorem zol {x:Sg}(h:(VT 0 (dgs x)).isSome=false):U8 x=0/\Ki x=410:=by
 have:VT 0 (dgs x)=none:=by cases a:VT 0 (dgs x) with
  | none=>rfl
  | some c=>rw [a] at h;cases h
 unfold U8 Ki;rw [this];exact ⟨U,U⟩
theorem zrt {x:Sg}(h:(VT 0 (dgs x)).isSome=true):Ki x=0:=by unfold Ki;rw [jb h]
theorem zAb:kp 218 165 4 32:=.of kA
theorem Vm:kh 54 1 1:=.of kA
theorem Ur:kh 54 4 4:=.of kA
theorem Vr:kh 54 5 5:=.of kA
theorem Vq:kh 54 6 6:=.of kA
theorem Vj:kh 54 7 7:=.of kA
theorem Vo:kh 54 8 8:=.of kA
theorem Vl:kh 54 9 9:=.of kA
theorem zB6:ke 85:=.of Tryz.func85 kA kA
theorem WU:kq 165 #[(0,1),(1,1),(2,1),(3,1)] (.agg #[(.int .i64 0),(.int .i64 0),(.int .i64 0),(.int .i64 0)]):=⟨.of kA,kA,fun w=>kA⟩
theorem zvK (I:Qu)(x:Sg):kf 47 [VD x] I (.tuple #[.int .i64 (U8 x),.int .i64 (Ki x)]):=by
 intro g H w j;refine qe Tryz.func47 Tryz.ntmps47 j ?_;have a:=zJH I;refine zR<|QU U U U (fun y=>zA<|zA<|zN (zR<|zF Vm ?_))
 refine zL Qr<|zV (QK (ps:=[(0,_),(1,_),(2,_),(3,_)]) [_,_,_,_] WU U U)<|zF Ur ?_
 refine zL Qr<|zV (QK (ps:=[(0,_),(1,_),(2,_),(3,_)]) [_,_,_,_] WU U U)<|zF Vr ?_
 refine zL Qr<|zV (QK (ps:=[(0,_),(1,_),(2,_),(3,_)]) [_,_,_,_] WU U U)<|zF Vq ?_
 refine zL Qr<|zV (QK (ps:=[(0,_),(1,_),(2,_),(3,_)]) [_,_,_,_] WU U U)<|zF Vj ?_
 refine zL Qr<|zV (QK (ps:=[(0,_),(1,_),(2,_),(3,_)]) [_,_,_,_] WU U U)<|zF Vo ?_
 refine zL Qr<|zV (QK (ps:=[(0,_),(1,_),(2,_),(3,_)]) [_,_,_,_] WU U U)<|zF Vl ?_
 refine zL Qr<|zV (QK (ps:=[(0,_),(1,_),(2,_),(3,_)]) [_,_,_,_] WU U U)<|zpb [(0,_),(1,_),(2,_),(3,_),(4,_),(5,_),(6,_)] [zmr ⟨x.role,0,63,6⟩,zmr ⟨x.kind,1,9,4⟩,zmr ⟨x.side,0,2,2⟩,zmr ⟨x.dir,0,8,4⟩,zmr ⟨x.level,0,3,2⟩,zmr ⟨x.size,0,255,8⟩,zmr ⟨x.wth,0,64,7⟩] zAb (fun d=>Z5 (b:=d) (by repeat (first | exact Zb.here | apply Zb.there)) (fun t r s=>?_))
 have a:=a.trans r;have n:Sl t 4 zmr (some ⟨d,0,none⟩) 7 7 (dgs x):=Sl.lit (dgs x) U ztx (show _=some (Obj.cells ((dgs x).flatMap zmr).toArray 165 (0,0)) from s);refine qcV (vs:=[_]) U zB6 (zEZ n kC (zH4 x))<|zM ?_
 refine zE ?_;refine zE ?_;refine zA<|zA (zN (Qk (zR ?_)))
 refine zM<|zO (zN ?_)
 refine zI ?_ ?_<;>intro h
 ·have i:(VT 0 (dgs x)).isSome=false:=(by simpa using h);obtain ⟨k1,k2⟩:=zol i;exact zR (zA<|zA (zN (Qq (Qb<|QY U U U (fun w j=>⟨by rw [k1,k2],(j.mono a).drop⟩)))))
 have i:(VT 0 (dgs x)).isSome=true:=(by simpa using h);have k2:=zrt i;refine Qm (Qa (zR (zM<|zA<|zA (zN (Qq ?_)))))
 first
 | exact QY U U U (fun w j=>⟨by rw [k2];rfl,(j.mono a).drop⟩)
theorem zsL:((List.range 9).all fun b=>decide (0<=IntKind.i64.wrap (1*2^(min ((b:Nat):Int).toNat IntKind.i64.bits))/\IntKind.i64.wrap (1*2^(min ((b:Nat):Int).toNat IntKind.i64.bits))<=256))=true:=kA
variable{b:Nat}
theorem zwM (h:b<=8):0<=IntKind.i64.wrap (1*2^(min ((b:Nat):Int).toNat IntKind.i64.bits))/\IntKind.i64.wrap (1*2^(min ((b:Nat):Int).toNat IntKind.i64.bits))<=256:=Oq (jk.1 zsL b (jq.2 kB))
theorem zAd (I:Qu)(r:Nat)(c:Int)(b:Nat)(i:b<=8):kg 46 [.int .i64 b,Zm r] I [(r,.cells #[.int .i64 c] 3 (0,0))] (fun v d h=>v= .int .i64 (KI c (IntKind.i64.wrap (1*2^(min (b:Int).toNat IntKind.i64.bits))-1))/\d=I/\h=[(r,.cells #[.int .i64 (c.fdiv (2^(min (b:Int).toNat IntKind.i64.bits)))] 3 (0,0))]):=by
 intro g H w a;refine qe Tryz.func46 Tryz.ntmps46 a ?_;have j:=zwM i;refine zR (zA (zN (Qk<|ZW mixed kA<|zq (Qc U Qr (fun hg=>by exact QO.h0 U))<|zq (Qd U)<|zq (U7 U U (fun hg=>kB))<|zq (Zf U U U (fun _=>kB))<|zq (Ua U U)<|zq (ZE U)<|ZX<|Qa (zR<|zL Qr<|zM ?_))));refine zV (zmU U U kB U)<|zS ZO ?_
 refine zN<|zR ?_;exact zM<|zA (zN (Qq<|Zc U U (fun w a=>⟨_,I,_,U,zJH _,a,U,U,U⟩)))
def lbN (b:Nat)(c:Int):Int:=KI c (IntKind.i64.wrap (1*2^(min (b:Int).toNat IntKind.i64.bits))-1)
def shN (b:Nat)(c:Int):Int:=c.fdiv (2^(min (b:Int).toNat IntKind.i64.bits))
def zlB (c:Int):Sg:=⟨0,shN 4 (shN 2 (shN 4 (shN 2 (shN 8 (shN 7 c))))),0,0,lbN 4 (shN 2 (shN 4 (shN 2 (shN 8 (shN 7 c))))),lbN 2 (shN 4 (shN 2 (shN 8 (shN 7 c)))),lbN 4 (shN 2 (shN 8 (shN 7 c))),lbN 2 (shN 8 (shN 7 c)),lbN 8 (shN 7 c),lbN 7 c,0,0,0,0⟩
def za5:Sg:=⟨0,0,0,0,0,0,0,0,0,0,0,0,0,0⟩
def Vb (c:Int):Int:=Ki (zlB c)
def UU (c:Int):Sg:=if Vb c≠0 then za5 else zlB c
theorem QQ:km 54 14:=.of kA
theorem zdq:ke 46:=.of Tryz.func46 kA kA
theorem zuL:ke 47:=.of Tryz.func47 kA kA
theorem JI:kq 54 #[(0,1),(1,1),(2,1),(3,1),(4,1),(5,1),(6,1),(7,1),(8,1),(9,1),(10,2),(12,2)] (.agg #[(.int .i64 0),(.int .i64 0),(.int .i64 0),(.int .i64 0),(.int .i64 0),(.int .i64 0),(.int .i64 0),(.int .i64 0),(.int .i64 0),(.int .i64 0),(.int .i64 0),(.int .i64 0),(.int .i64 0),(.int .i64 0)]):=⟨.of kA,kA,fun w=>kA⟩
theorem Zy:ki 54 14:=.of kA
theorem Kc:kj 54 (.agg #[(.int .i64 0),(.int .i64 0),(.int .i64 0),(.int .i64 0),(.int .i64 0),(.int .i64 0),(.int .i64 0),(.int .i64 0),(.int .i64 0),(.int .i64 0),(.int .i64 0),(.int .i64 0),(.int .i64 0),(.int .i64 0)]):=.of kA
theorem zan (I:Qu)(r:Nat)(c:Int)(b:Nat)(g:b<=8):kg 46 [.int .i64 b,Zm r] I [(r,.cells #[.int .i64 c] 3 (0,0))] (fun v a d=>v= .int .i64 (lbN b c)/\a=I/\d=[(r,.cells #[.int .i64 (shN b c)] 3 (0,0))]):=zAd I r c b g
set_option maxHeartbeats 1600000 in
theorem zo9 (I:Qu) (c:Int):kf 23 [.int .i64 c] I (.tuple #[VD (UU c),.int .i64 (Vb c)]):=by
 intro g H w C;refine qe Tryz.func23 Tryz.ntmps23 C ?_;have a:=zJH I;refine zR<|Qv Kc U U (fun E=>zA<|zN (zR ?_))
 refine zM ?_;refine Qv zE7 U U (fun d=>?_);refine zS ZO ?_;refine zN (zR<|zV (Zn (us:=[]) (vs:=[_]) U U)<|zA<|zN (zR ?_));refine zM<|Yi (cap:=[Zm d]) (vs:=[_]) U U zdq (by repeat (first | exact .cons .here .nil | exact Zp | exact Q6 | apply ZC | apply Zz)) (zan _ d c 7 kC) U U ?_
 rintro G P Z j ⟨rfl,rfl,rfl⟩;have a:=a.trans j;refine zF Vl ?_;refine zS ZO ?_;refine zN<|zR ?_;refine zM<|Yi (cap:=[Zm d]) (vs:=[_]) U U zdq (by repeat (first | exact .cons .here .nil | exact Zp | exact Q6 | apply ZC | apply Zz)) (zan _ d (shN 7 c) 8 kC) U U ?_
 rintro J Q L2 n ⟨rfl,rfl,rfl⟩;have a:=a.trans n;refine zF Vo ?_;refine zS ZO ?_;refine zN<|zR ?_;refine zM<|Yi (cap:=[Zm d]) (vs:=[_]) U U zdq (by repeat (first | exact .cons .here .nil | exact Zp | exact Q6 | apply ZC | apply Zz)) (zan _ d (shN 8 (shN 7 c)) 2 kC) U U ?_
 rintro K T L3 r ⟨rfl,rfl,rfl⟩;have a:=a.trans r;refine zF Vj ?_;refine zS ZO ?_;refine zN<|zR ?_;refine zM<|Yi (cap:=[Zm d]) (vs:=[_]) U U zdq (by repeat (first | exact .cons .here .nil | exact Zp | exact Q6 | apply ZC | apply Zz)) (zan _ d (shN 2 (shN 8 (shN 7 c))) 4 kC) U U ?_
 rintro M V L4 s ⟨rfl,rfl,rfl⟩;have a:=a.trans s;refine zF Vq ?_;refine zS ZO ?_;refine zN<|zR ?_;refine zM<|Yi (cap:=[Zm d]) (vs:=[_]) U U zdq (by repeat (first | exact .cons .here .nil | exact Zp | exact Q6 | apply ZC | apply Zz)) (zan _ d (shN 4 (shN 2 (shN 8 (shN 7 c)))) 2 kC) U U ?_
 rintro N W L5 t ⟨rfl,rfl,rfl⟩;have a:=a.trans t;refine zF Vr ?_;refine zS ZO ?_;refine zN<|zR ?_;refine zM<|Yi (cap:=[Zm d]) (vs:=[_]) U U zdq (by repeat (first | exact .cons .here .nil | exact Zp | exact Q6 | apply ZC | apply Zz)) (zan _ d (shN 2 (shN 4 (shN 2 (shN 8 (shN 7 c))))) 4 kC) U U ?_
 rintro O Y L6 y ⟨rfl,rfl,rfl⟩;have a:=a.trans y;refine zF Ur ?_;refine zS ZO ?_;refine zN (zR<|zL Qr<|zF Vm ?_);refine zS ZO ?_;refine zN<|Qk<|zR ?_;refine zV (Qo U QQ (fun hg=>by exact Cells.g1) U)<|qcV (vs:=[_]) U zuL (zvK _ (zlB c))<|zM ?_
 refine zE ?_;refine zE ?_;refine zA<|zN (zR ?_)
 refine zM<|zC (zN ?_)
 refine zI ?_ ?_<;>intro h
 focus
  have z:Vb c≠0:=(by unfold Vb;simpa using h);have k1:UU c=za5:=jb z;have i:Vb c=Ki (zlB c):=rfl;refine zR<|zV (QK (ps:=[]) [_,_,_,_,_,_,_,_,_,_,_,_,_,_] JI U U)<|zM<|zh Zy ?_
  refine zA<|zN<|Qq<|Qb ?_
 rotate_left
 have z:Vb c=0:=(by unfold Vb;simpa using h);have k1:UU c=zlB c:=ja kB;have i:=z;refine Qm (Qa (zR<|zV (Qo U QQ (fun hg=>by exact Cells.g1) U)<|zh Zy ?_));refine zA<|zN<|Qq ?_
 all_goals
  exact Zg U U U QQ kI U (fun w C=>⟨by rw [k1,i];rfl,(C.mono a).drop⟩)
def zdB (x y:Int):Int:=if (x != y&&x != 8589934592&&y != 8589934592)=true then 3 else 0
theorem zkH (I:Qu)(x y:Int):kf 104 [.int .i64 x,.int .i64 y] I (.int .i64 (zdB x y)):=by
 intro g H w d;refine qe Tryz.func104 Tryz.ntmps104 d ?_;refine zR<|zA<|zN<|Qk<|zR ?_;refine zM ?_;refine zM<|zC ?_
 refine zM ?_;refine Qw 3 U U U ?_;refine zK (Qd U) ?_;refine zK (Qx U U U) ?_;refine QC U U U U U ?_;refine zM ?_;refine Qw 7 U U U ?_;refine zK (Qd U) ?_;refine zK (Qx U U U) ?_;refine QC U U U U U<|zN ?_
 refine zI ?_ ?_<;>intro a
 ·refine zR<|zA<|zN<|Qq<|Qb ?_
  first
  | exact zr U U (by unfold zdB;rw [jb kE])
 refine Qm<|Qa<|zR<|zA<|zN<|Qq ?_
 first
 | exact zr U U (by unfold zdB;rw [ja (by simp_all)])
structure Rd where
 lost:Bool
 sg:Sg
def Kf (r:Rd):List Value:=.bool r.lost::YA r.sg
theorem zck (r:Rd):(Kf r).length=15:=rfl
def Yu (r:Rd):Int:=if r.lost=true then 8589934592 else U8 r.sg
theorem zb4:km 60 15:=.of kA
theorem JA:kh 60 0 0:=.of kA
theorem V1:kh 60 1 1:=.of kA
theorem V4:kh 65 2 2:=.of kA
theorem K1:kl 4:=.of kA
theorem UL:kl 63:=.of kA
theorem KW:ko 63 60 15:=.of kA
theorem zfE:ki 60 15:=.of kA
theorem zoG:kj 60 (.agg #[(.bool false),(.int .i64 0),(.int .i64 0),(.int .i64 0),(.int .i64 0),(.int .i64 0),(.int .i64 0),(.int .i64 0),(.int .i64 0),(.int .i64 0),(.int .i64 0),(.int .i64 0),(.int .i64 0),(.int .i64 0),(.int .i64 0)]):=.of kA
variable{J:List Rd}
theorem Vg {n c:Nat}(hR:Sl I 15 Kf q n c J)(hn:n<=100000)(no yr:Int):kg 59 [.agg #[.int .i64 no,.int .i64 yr,.slice q n c]] I [] (Jv 1 QF (J.map Yu)):=by
 intro g H w V;refine qe Tryz.func59 Tryz.ntmps59 V ?_;have j:=zJH I;refine zR<|QU U U U (fun K=>zA (zN (Qk (Qk<|Vz (fun Z z G=>?_)))))
 have hR:=hR.mono z;have j:=j.trans z;have P:QO Z [] K 2 (.slice q n c):=.imm (G _ _ kD) U;refine Qh<|zF V4<|zV (Qc U UL (fun hg=>by exact P.any))<|zQ KW ?_
 refine zM<|zN<|Ql ?_;refine zU [(7,_),(8,_)] (fun T L0 mz E Y i=>∃ (k:Nat) (W:Value) (L:Go.Kn.Loc),mz=n-k/\E=(2,W)::(9,.int .i64 k)::T/\Z=Y/\L=i/\k<=n/\OwnS 3 1 W k (((J.take k).map Yu).flatMap QF) L) ?_ (h:=⟨0,_,[],U,U,U,U,jd _,OwnS.nil⟩);rintro mz E Y i ⟨k,W,L,rfl,rfl,rfl,rfl,hk,Q⟩;refine zR<|zC<|zN<|Qk ?_;refine zI ?_ ?_<;>intro a
 ·have y:k<n:=kd a;obtain ⟨r,hr⟩:=hR.at y;refine Qm (Qa (Qk (Ql (zR<|zV (zX KW hR)<|zV (Qo U zb4 (fun hg=>by exact zJI hR hr) U)<|Qv zoG U U (fun a1=>zh zfE<|zN (zR<|zA (zN (Qk (zR<|zF JA ?_)))))))));refine zV (Qc U K1 (fun hg=>by exact zJC U))<|zO (zN ?_)
  refine zI ?_ ?_<;>intro d
  focus
   have t:Yu r=U8 r.sg:=(by unfold Yu;rw [ja (by simpa using d)]);refine Qh<|zF V1 ?_
   refine zV (Qo U QQ (fun hg=>by exact Cells.s0 (vs:=[_,_,_,_,_,_,_,_,_,_,_,_,_,_]) U) U)<|qcV (vs:=[_]) U zuL (zvK _ r.sg)<|zM ?_
   refine zE ?_;refine zE<|zA (Qe ?_)
   rw [<-t];refine Qa<|Qh<|zM ?_
  rotate_left
  have t:Yu r=8589934592:=(by unfold Yu;rw [jb (by simpa using d)]);rw [<-t];refine Qm<|Qa<|Qh<|zM ?_
  all_goals
   refine zM ?_;refine zpb [(0,_)] [QF (Yu r)] QS (fun a0=>?_);refine zpa (_) ([Yu r].flatMap QF) (L) U U QS Q ⟨U,fun _=>U,by repeat (first | exact zJF | apply zJE | apply zJG)⟩ (YJ [Yu r]) ?_;intro v9 L9 C _;rw [<-jh] at C;refine zA (Qe (Qg (Qa (Qh<|zB<|zM (Qe ?_)))));exact zm (h:=⟨n-(k+1),kB,k+1,_,_,U,U,U,U,kB,by rw [UE hr];exact C⟩)
 have s:n<=k:=kd a;rw [QZ hR.len s,show k=n by omega] at Q;refine Qy (Qf (Qf (Qj (Qa (zR (zM<|zA (zN (Qq ?_))))))));exact Zc U U (fun w V=>by obtain ⟨I9,M,N,O⟩:=OwnS.res Q QL kC V;exact ⟨_,I9,[],U,j.trans M,N,O⟩)
structure Wt where
 no:Int
 yr:Int
 a:Option Addr
 n:Nat
 c:Nat
def zlz (w:Wt):List Value:=[.int .i64 w.no,.int .i64 w.yr,.slice w.a w.n w.c]
theorem zjK (w:Wt):(zlz w).length=3:=rfl
def zuG (G:List Wt):Bool:=decide (G.length<=5)&&G.all fun w=>decide (w.n<=8)
theorem Z9:ko 35 65 3:=.of kA
variable{G:List Wt}
theorem zEb {n c:Nat}(t:Sl I 3 zlz q n c G)(Q:n<=9223372036854775807):kf 28 [.slice q n c] I (.bool (zuG G)):=by
 intro g H w O;refine qe Tryz.func28 Tryz.ntmps28 O ?_;have N:=t.len;refine zR<|zA<|zN<|Qk<|zR ?_;refine zM ?_;refine zQ Z9<|zC (zN ?_)
 refine zI ?_ ?_<;>intro s
 ·have h5:¬G.length<=5:=kd s;refine zR<|zA<|zN<|Qq<|Qb ?_
  first
  | exact zr U U (by unfold zuG;rw [jX h5];rfl)
 have h5:G.length<=5:=kd s;refine Qm (Qa (Qk (zR (zA (zN (Ql<|zU [(0,_)] (fun T M K E C j=>∃ (k:Nat),K=n-k/\E=(3,.int .i64 k)::T/\I=C/\M=j/\k<=n/\(G.take k).all (fun w=>decide (w.n<=8))=true) ?_ (h:=⟨0,U,U,U,U,jd _,U⟩)))))));rintro K E C j ⟨k,rfl,rfl,rfl,rfl,P,a⟩;refine Qk (zR (zM<|zM ?_));refine zQ Z9<|zC (zN ?_)
 refine zI ?_ ?_<;>intro d
 ·have r:k<n:=kd d;obtain ⟨x,z⟩:=t.at r;refine Qm<|Qa<|Qk<|Ql<|zR<|zM ?_;refine zM ?_;refine zV (zX Z9 t)<|zF V4<|zV (Qc U UL (fun hg=>by exact zJJ t z U))<|zQ KW<|zC (zN ?_)
  refine zI ?_ ?_<;>intro i
  ·have h8:decide (x.n<=8)=false:=(by have h:=i;simp at h;simp;omega);refine zR (zA (zN (Qq (Qn (Qb (Qb (Qn<|Qb ?_)))))))
   first
   | exact zr U U (by unfold zuG;rw [Bw.2 ⟨x,je z,by rw [h8];decide⟩,OP])
  have h8:decide (x.n<=8)=true:=(by have h:=i;simp at h;simp;omega);refine Qm<|Qg<|Qa<|Qh<|zM ?_;refine zB<|zA (Qe ?_)
  exact zm (h:=⟨n-(k+1),kB,k+1,U,U,U,U,kB,by rw [Z0 z,As,a];simpa using h8⟩)
 have y:n<=k:=kd d;rw [jr kB] at a;refine Qy (Qf (Qf (Qj (Qa (zR (zA (zN<|Qq ?_)))))))
 first
 | exact zr U U (by unfold zuG;rw [a,jN h5];rfl)
def Yc:Sg:=za5
def Za (n lo hi:Int):Bool:=decide (n>=lo)&&decide (n<=hi)
def zcV (n:Int):Int:=if n<0 then 0-n else n
def zlK (a b:Int):Int:=(Int.gcd a b:Int)
def K7 (n d:Int):Bool:= !(((((decide (d<1)||decide (d>1073741824))||decide (n< -1073741824))||decide (n>1073741824))||(zlK n d != 1)))
def XJ (fn fd tn td:Int):Bool:=(K7 fn fd&&K7 tn td)&&(decide (fn*td<tn*fd)&&(decide (fn>=0)&&decide (tn<=td)))
def zGv (k:Sg):Bool:=Za k.id 0 1048576&&Za k.role 0 63&&Za k.bar 0 4095&&Za k.kind 1 9&&Za k.mark 1 3&&Za k.side 0 2&&Za k.dir 0 8&&Za k.level 0 3&&Za k.size 0 255&&Za k.wth 0 64
def frm (k:Sg):Bool:=zGv k&&XJ k.fn k.fd k.tn k.td
def skP (o:List Sg)(i:Nat):Bool:= !(!frm (o.getD i Yc)||(decide ((i:Int)>0)&&decide ((o.getD ((i:Int)-1).toNat Yc).id>=(o.getD i Yc).id)))
def skB (o:List Sg):Bool:=(List.range o.length).all (skP o)
def Kg (o:List Sg):Int:=if o.length>4096 then 2 else if skB o then 0 else 360
def zIJ (n d:Int):List Value:=[.int .i64 n,.int .i64 d]
def WN (n d:Int):Value:=.agg (zIJ n d).toArray
variable{n:Int}
theorem zpZ (h:0<=n/\n<=9223372036854775807):IntKind.u64.wrap n=n:=by unfold IntKind.wrap IntKind.signed IntKind.bits;simp;omega
theorem zwV (a: -1073741824<=n/\n<=1073741824)(h:¬n<0):IntKind.u64.wrap n=zcV n:=by rw [zpZ kB];unfold zcV;rw [ja h]
theorem zzl (a: -1073741824<=n/\n<=1073741824)(h:n<0):IntKind.u64.wrap (0-IntKind.u64.wrap n)=zcV n:=by unfold zcV;rw [jb h];unfold IntKind.wrap IntKind.signed IntKind.bits;simp;omega
def zBY (t b1 b2:Nat)(a b:Int):Go.Kn.Loc:=[(b2,.cells #[.int .u64 b] t (0,0)),(b1,.cells #[.int .u64 a] t (0,0))]
def zfy (a b:Nat):List Nat:=if a=0 then [] else if b=0 then [a,0] else if a % b=0 then [a,b] else a::zfy b (a % b)
termination_by b
decreasing_by exact A8 _ kB
theorem zfC (b:Nat):zfy 0 b=[]:=by rw [zfy];rfl
variable{a:Nat}
theorem zeB (d:a≠0)(g:b≠0)(h:a % b=0):zfy a b=[a,b]:=by rw [zfy,ja d,ja g,jb h]
theorem zg3 (d:a≠0)(g:b≠0)(h:a % b≠0):zfy a b=a::zfy b (a % b):=by rw [zfy,ja d,ja g,ja h]
theorem zru:∀ (m:Nat) {a b d:Nat},b<=m->b≠0->(a=0->d=b)->(zfy a b).getLastD d=Nat.gcd a b:=by
 intro m
 induction m with
 | zero=>intro a b d h1 h2;omega
 | succ m ih=>
  intro a b d h1 h2 i;by_cases g:a=0
  ·subst g;rw [zfC,Nat.gcd_zero_left,i rfl];rfl
  ·by_cases h:a % b=0
   ·rw [zeB g h2 h];show b=_;rw [BH,Nat.gcd_rec,h,Nat.gcd_zero_left]
   ·rw [zg3 g h2 h,List.getLastD_cons,ih (by have:=A8 a (show 0<b by omega);omega) h (fun e=>absurd e h2)];rw [BH b,<-Nat.gcd_rec,BH]
theorem zjy (a b:Nat):((a:Int)).tmod (b:Int)=((a % b:Nat):Int):=by rw [Int.tmod_eq_emod_of_nonneg kB];rfl
theorem zlq {a b:Int}(d: -1073741824<=a/\a<=1073741824)(g: -1073741824<=b/\b<=1073741824): -9223372036854775808<=a*b/\a*b<=9223372036854775807:=by
 have h1:(a*b).natAbs<=1073741824*1073741824:=by
  rw [Int.natAbs_mul];exact Nat.mul_le_mul kB kB
 omega
def zBP (n d:Int):Int:=if K7 n d then 0 else 120
variable{d:Int}
theorem zag (h:K7 n d=true):(1<=d/\d<=1073741824)/\ -1073741824<=n/\n<=1073741824:=by unfold K7 at h;simp at h;omega
theorem zzm (n d:Int):Nat.gcd (zcV n).toNat d.toNat=Int.gcd n d.toNat:=by unfold Int.gcd zcV;congr 1;split<;>omega
theorem Zr (h:0<b):znQ (b:Int) 1=(b:Int):=by unfold znQ;split<;>omega
variable{C:List Nat}
theorem zoh {g i:Nat}(h:zfy g i=C++zfy a b)(j:a≠0):C++[a]<+:zfy g i:=by
 rw [h,zfy,ja j];have key:∀ l:List Nat,C++[a]<+:C++a::l:=fun l=>⟨l,by simp⟩;split
 ·exact key _
 ·split<;>exact key _
theorem zlE {l:List Nat}{x d:Nat}:(l++[x]).getLastD d=x:=by simp [List.getLastD_eq_getLast?]
theorem zA6 (h:((((decide (d<1)||decide (d>1073741824))||decide (n< -1073741824))||decide (n>1073741824))||(zlK n d != 1))=true):K7 n d=false:=by unfold K7;rw [h];rfl
theorem zrc (h:((((decide (d<1)||decide (d>1073741824))||decide (n< -1073741824))||decide (n>1073741824))||(zlK n d != 1))=false):K7 n d=true:=by unfold K7;rw [h];rfl
variable{fn fd tn td:Int}
theorem zeR :(zBP fn fd != 0||zBP tn td != 0)= !(K7 fn fd&&K7 tn td):=by unfold zBP;cases K7 fn fd<;>cases K7 tn td<;>rfl
def zqV (an ad bn bd:Int):Int:=if K7 an ad&&K7 bn bd then 0 else 120
def znp (an ad bn bd:Int):Int:=if K7 an ad&&K7 bn bd then zwi (an*bd) (bn*ad) else 0
theorem zhg :(((zqV fn fd tn td==0)&&decide (znp fn fd tn td<0))&&decide (fn>=0)&&decide (tn<=td))=XJ fn fd tn td:=by
 unfold zqV znp XJ zwi
 cases h:(K7 fn fd&&K7 tn td) with
 | false=>rfl
 | true=>
  simp only [OB,Ou];by_cases h2:fn*td<tn*fd
  ·simp [h2]
  ·by_cases h3:fn*td>tn*fd<;>simp [h2,h3]
theorem zbQ {o:List Sg}{x:Sg}(g:o[k]? =some x):skP o k= !(!frm x||(decide ((k:Int)>0)&&decide ((o.getD ((k:Int)-1).toNat Yc).id>=x.id))):=by unfold skP;rw [QJ g]
end
end Go.Proofs.YtodakphagkommaaGreatDoor
