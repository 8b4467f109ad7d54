/- apparatusOriginSpec_holds, part G of the proof: what its theorems say holds without further conditions. -/
import Derived.Lib.SlicesCompact
import Derived.Lib.RowBridge
import Derived.Test.YtodakphagkommaaGreatDoorAOF
namespace Go.Proofs.YtodakphagkommaaGreatDoor.R
section
open Go Go.Kn Go.Proofs
variable{ps:List Pt}
theorem zdz (h:Lst ps)(f:Pt->Bool):((ps.filter f).map (·.id)).Pairwise (· < ·):=by rw [A3];exact h.inc.filter f
theorem zd8 {f:Pt->Bool}{x:Int}:x∈(ps.filter f).map (·.id)↔ ∃ p∈ps,f p=true/\p.id=x:=by
 rw [jt];constructor
 ·rintro ⟨p,a,e⟩;exact ⟨p,(jP.1 a).1,(jP.1 a).2,e⟩
 ·rintro ⟨p,a,b,e⟩;exact ⟨p,jP.2 ⟨a,b⟩,e⟩
structure Ver (ps:List Pt)(v:List Int):Prop where
 inc:v.Pairwise (· < ·)
 sub:∀ x∈v,∃ p∈ps,p.id=x
 need:∀ p∈ps,p.id∈v->∀ n∈p.needs,n∈v
variable{v:List Int}{b:Int}
theorem Ver.on (h:Lst ps)(r:Ver ps v){a:Int}(i:a∈v)(d:onF ps a b=true):b∈v:=by
 obtain ⟨p,g,rfl⟩:=zhV d
 revert d i
 refine h.ind (M:=fun p=>p.id∈v->onF ps p.id b=true->b∈v) (fun p g ih i d=>?_) p g;obtain ⟨n,l,e⟩:=(h.on_iff g).1 d;have f:=r.need p g i n l;rcases e with rfl | e
 ·exact f
 ·obtain ⟨j,q,o,rfl⟩:=h.has p g n l;exact ih q o j f e
variable{u:List Int}
theorem zaE {x:Int}:x∈zfz ps u↔(∃ p∈ps,p.id=x)/\∃ n∈u,n=x\/onF ps n x=true:=by
 unfold zfz;rw [zd8];constructor
 ·rintro ⟨p,d,f,rfl⟩;rw [jD] at f;obtain ⟨n,a,e⟩:=f;exact ⟨⟨p,d,U⟩,n,a,by simpa using e⟩
 ·rintro ⟨⟨p,d,rfl⟩,n,a,e⟩;exact ⟨p,d,jD.2 ⟨n,a,by simpa using e⟩,U⟩
theorem Ws (h:Lst ps)(u:List Int):(zfz ps u).Pairwise (· < ·):=zdz h _
theorem ze7 :chB ps u=true↔u.Pairwise (· < ·)/\∀ x∈u,∃ p∈ps,p.id=x:=by unfold chB;rw [ji,zrW,jk];exact ⟨fun h=>⟨h.1,fun x a=>JY.1 (h.2 x a)⟩,fun h=>⟨h.1,fun x a=>JY.2 (h.2 x a)⟩⟩
theorem zAj (h:Lst ps)(u:List Int):Ver ps (zfz ps u) where
 inc:=Ws h u
 sub:=fun x j=>(zaE.1 j).1
 need:=fun p d f m a=>by
  obtain ⟨_,n,g,e⟩:=zaE.1 f;obtain ⟨_,q,i,rfl⟩:=h.has p d m a;refine zaE.2 ⟨⟨q,i,U⟩,n,g,.inr ?_⟩;rcases e with rfl | e
  ·exact h.on_need d a
  ·exact h.on_trans e (h.on_need d a)
theorem zlp (h:Lst ps)(d:Ver ps v):zfz ps v=v:=
 zaC (Ws h v) d.inc fun a=>by
  rw [zaE];constructor
  ·rintro ⟨_,n,g,rfl | e⟩
   ·exact g
   ·exact d.on h g e
  ·intro f;exact ⟨d.sub a f,a,f,.inl U⟩
theorem XZ (h:Lst ps):X6 ps v=true↔Ver ps v:=by
 unfold X6;rw [ji,ze7];constructor
 ·rintro ⟨⟨h1,h2⟩,h3⟩;have e:zfz ps v=v:=Oq h3;have:=zAj h v;rwa [e] at this
 ·intro a;exact ⟨⟨a.inc,a.sub⟩,jN (zlp h a)⟩
theorem zw0 (h:Lst ps)(d:chB ps v=true):decide ((zfz ps v).length≠v.length)= !X6 ps v:=by
 have a:∀ x∈v,x∈zfz ps v:=fun x g=>zaE.2 ⟨(ze7.1 d).2 x g,x,g,.inl U⟩;have f:=(ze7.1 d).1;unfold X6;rw [d,Ou];by_cases e:zfz ps v=v
 ·rw [show ziH (zfz ps v) v=true from jN e,e];simp
 ·rw [show ziH (zfz ps v) v=false from jX e];exact jN fun i=>e<|((zao f (Ws h v) a).2 kB).symm
theorem zjw (h0:orF (ps.map pchk)=0)(h:lsB ps=true):Lst ps:=by
 have f:∀ p∈ps,ndB p.id p.needs=true/\idB p=true/\UI p=true:=fun p d=>by
  have h1:=KV.1 h0 (pchk p) (jt.2 ⟨p,d,U⟩);unfold pchk at h1;split at h1
  ·cases h1
  ·split at h1
   ·rename_i h2;simpa [ji] using h2
   ·cases h1
 unfold lsB at h;rw [jk] at h;refine ⟨fun p d=>?_,?_,fun p d n l=>?_⟩
 ·have:=(f p d).2.1;unfold idB at this;simp at this;omega
 ·refine UY (R:=fun p q:Pt=>p.id<q.id) (fun a b c h1 h2=>B3 h1 h2) fun k f=>?_;have h1:=h (k+1) (jq.2 f);unfold lsP at h1;rw [show (((k+1:Nat):Int)-1).toNat=k by omega,QJ (jf f),QJ (jf (show k<ps.length by omega))] at h1;simp at h1;have:=h1.1;omega
 ·obtain ⟨k,g,rfl⟩:=A7.1 d;have h1:=h k (jq.2 g);unfold lsP at h1;rw [QJ (jf g)] at h1;simp at h1;refine ⟨?_,JY.1 (h1.2 n l)⟩;obtain ⟨j,i,rfl⟩:=A7.1 l;have h2:=(f _ d).1;unfold ndB at h2;rw [jk] at h2;have h3:=h2 j (jq.2 i);unfold ndP at h3;rw [QJ (jf i)] at h3;simp at h3;omega
theorem U1 (h:JL ps=0):ps.length<=512/\orF (ps.map pchk)=0/\lsB ps=true/\zkU ps=true:=by
 unfold JL at h;split at h
 ·cases h
 ·split at h
  ·contradiction
  ·split at h
   ·rename_i h1 h2 h3;rw [ji] at h3;exact ⟨kB,kB,h3⟩
   ·cases h
theorem V3 (h:JL ps=0):Lst ps:=zjw (U1 h).2.1 (U1 h).2.2.1
def Srt (o:List Sg):Prop:=o.Pairwise fun a b=>a.id<b.id
def Yw (o:List Sg)(s:Int):Option Sg:=o.find? fun x=>x.id==s
variable{x:Sg}{o:List Sg}{s:Int}
theorem KG :Yw (x::o) s=if x.id=s then some x else Yw o s:=by
 unfold Yw;rw [OX];by_cases h:x.id=s
 ·rw [jb h,show (x.id==s)=true by simpa using h]
 ·rw [ja h,show (x.id==s)=false by simpa using h]
theorem znJ (h:Yw o s=some x):x.id=s:=by have:=Bl h;simpa using this
theorem zkh (h:Yw o s=some x):x∈o:=O4 h
theorem zcA :Yw o s=none↔ ∀ x∈o,x.id≠s:=by unfold Yw;rw [OR];simp
theorem zhO (h:Srt o)(a:x∈o):Yw o x.id=some x:=by
 induction o with
 | nil=>cases a
 | cons y A ih=>
  rw [KG];have d:=Jb.1 h;rcases jo.1 a with rfl | a
  ·rw [jb rfl]
  ·rw [ja (by have:=d.1 x a;omega)];exact ih d.2 a
variable{A:List Sg}
theorem zyR (l:Srt o)(n:Srt A)(h:∀ s,Yw o s=Yw A s):o=A:=by
 have j:∀ {o A:List Sg},Srt o->(∀ s,Yw o s=Yw A s)->∀ a∈o,a∈A:=fun {o A} h1 h2 a d=>zkh (by rw [<-h2];exact zhO h1 d);have h1:=j l h;have h2:=j n (fun s=>(h s).symm);clear j h
 induction o generalizing A with
 | nil=>
  cases A with
  | nil=>rfl
  | cons y A=>have:=h2 y (jl ..);cases this
 | cons x o ih=>
  cases A with
  | nil=>have:=h1 x (jl ..);cases this
  | cons y A=>
   have f:=Jb.1 l;have g:=Jb.1 n
   have e:x=y:=by
    rcases jo.1 (h1 x (jl ..)) with e | e
    ·exact e
    ·rcases jo.1 (h2 y (jl ..)) with i | i
     ·exact i.symm
     ·have h3:=f.1 _ i;have h4:=g.1 _ e;omega
   subst e;refine jA _<|ih f.2 g.2 (fun a d=>?_) (fun a d=>?_)
   ·rcases jo.1 (h1 a (jm _ d)) with e | e
    ·subst e;have:=f.1 _ d;omega
    ·exact e
   ·rcases jo.1 (h2 a (jm _ d)) with e | e
    ·subst e;have:=g.1 _ d;omega
    ·exact e
theorem zmP (h:skB o=true):Srt o:=by unfold skB at h;rw [jk] at h;refine UY (R:=fun p q:Sg=>p.id<q.id) (fun a b c h1 h2=>B3 h1 h2) fun k d=>?_;have h1:=h (k+1) (jq.2 d);unfold skP at h1;rw [show (((k+1:Nat):Int)-1).toNat=k by omega,QJ (jf d),QJ (jf (show k<o.length by omega))] at h1;simp at h1;have:=h1.2;omega
theorem zhR (h:Kg o=0):o.length<=4096/\skB o=true:=by
 unfold Kg at h;split at h
 ·cases h
 ·split at h
  ·rename_i h1 h2;exact ⟨kB,h2⟩
  ·cases h
def zdr (o:List Sg)(k:Sg):List Sg:=o.takeWhile (fun x=>decide (x.id<k.id))++k::o.dropWhile (fun x=>decide (x.id<k.id))
theorem zi2 :Yw (o++A) s=(Yw o s).or (Yw A s):=by unfold Yw;rw [A2]
theorem zty {k:Sg}(a:Yw o k.id=none):Yw (zdr o k) s=if k.id=s then some k else Yw o s:=by
 unfold zdr;rw [zi2,KG];by_cases h:k.id=s
 ·subst h;have h1:Yw (o.takeWhile fun x=>decide (x.id<k.id)) k.id=none:=zcA.2 fun x d=>zcA.1 a x ((List.takeWhile_sublist _).mem d);rw [h1,jb rfl,jb rfl];rfl
 ·rw [ja h,ja h,<-zi2,O1]
theorem zgP (h:Srt o){k:Int}:∀ x∈o.dropWhile (fun x=>decide (x.id<k)),k<=x.id:=by
 induction o with
 | nil=>intro x a;cases a
 | cons y A ih=>
  have f:=Jb.1 h;intro x a;rw [BN] at a;split at a
  ·exact ih f.2 x a
  ·rename_i d;have d:k<=y.id:=(by simpa using d);rcases jo.1 a with rfl | a
   ·exact d
   ·have:=f.1 x a;omega
theorem zgQ {k:Int}:∀ x∈o.takeWhile (fun x=>decide (x.id<k)),x.id<k:=fun x a=>by
 have:=jk.1 (List.all_takeWhile (l:=o) (p:=fun x:Sg=>decide (x.id<k))) x a;simpa using this
theorem zxr (h:Srt o){k:Sg}(f:Yw o k.id=none):Srt (zdr o k):=by
 have h0:Srt (o.takeWhile (fun x=>decide (x.id<k.id))++o.dropWhile (fun x=>decide (x.id<k.id))):=(by rw [O1];exact h);unfold Srt at h0;rw [OJ] at h0;unfold Srt zdr;rw [OJ,Jb];refine ⟨h0.1,⟨fun x a=>?_,h0.2.1⟩,fun x a y d=>?_⟩
 ·have h1:=zgP h x a;have h2:=zcA.1 f x ((List.dropWhile_sublist _).mem a);omega
 ·rcases jo.1 d with rfl | d
  ·exact zgQ x a
  ·exact h0.2.2 x a y d
def Ji (x:Sg)(f:Int):Int×Int×Int×Int:=
 if f=1 then (x.role,0,0,0) else if f=2 then (x.bar,0,0,0) else if f=3 then (x.mark,0,0,0) else if f=4 then (x.side,0,0,0) else if f=5 then (x.dir,0,0,0)
 else if f=6 then (x.level,0,0,0) else if f=7 then (x.size,0,0,0) else if f=8 then (x.wth,0,0,0) else if f=9 then (x.fn,x.fd,x.tn,x.td) else (0,0,0,0)
def isF (f:Int):Prop:=1<=f/\f<=9
variable{f:Int}
theorem zcB (h:isF f):f=1\/f=2\/f=3\/f=4\/f=5\/f=6\/f=7\/f=8\/f=9:=by unfold isF at h;omega
variable{y:Sg}
theorem zbS :(Jk x f y).id=x.id:=by unfold Jk;(repeat' split)<;>rfl
theorem UC :(Jk x f y).kind=x.kind:=by unfold Jk;(repeat' split)<;>rfl
variable{g:Int}
theorem ztW :Ji (Jk x 1 y) g=if g=1 then Ji y g else Ji x g:=by
 rw [show Jk x 1 y= {x with role:=y.role} from U];by_cases hg:g=1
 ·subst hg;rfl
 ·rw [ja hg];unfold Ji;simp only [ja hg]
theorem zrR :Ji (Jk x 2 y) g=if g=2 then Ji y g else Ji x g:=by
 rw [show Jk x 2 y= {x with bar:=y.bar} from U];by_cases hg:g=2
 ·subst hg;rfl
 ·rw [ja hg];unfold Ji;simp only [ja hg]
theorem zsa :Ji (Jk x 3 y) g=if g=3 then Ji y g else Ji x g:=by
 rw [show Jk x 3 y= {x with mark:=y.mark} from U];by_cases hg:g=3
 ·subst hg;rfl
 ·rw [ja hg];unfold Ji;simp only [ja hg]
theorem zsY :Ji (Jk x 4 y) g=if g=4 then Ji y g else Ji x g:=by
 rw [show Jk x 4 y= {x with side:=y.side} from U];by_cases hg:g=4
 ·subst hg;rfl
 ·rw [ja hg];unfold Ji;simp only [ja hg]
theorem zrY :Ji (Jk x 5 y) g=if g=5 then Ji y g else Ji x g:=by
 rw [show Jk x 5 y= {x with dir:=y.dir} from U];by_cases hg:g=5
 ·subst hg;rfl
 ·rw [ja hg];unfold Ji;simp only [ja hg]
theorem zss :Ji (Jk x 6 y) g=if g=6 then Ji y g else Ji x g:=by
 rw [show Jk x 6 y= {x with level:=y.level} from U];by_cases hg:g=6
 ·subst hg;rfl
 ·rw [ja hg];unfold Ji;simp only [ja hg]
theorem ztV :Ji (Jk x 7 y) g=if g=7 then Ji y g else Ji x g:=by
 rw [show Jk x 7 y= {x with size:=y.size} from U];by_cases hg:g=7
 ·subst hg;rfl
 ·rw [ja hg];unfold Ji;simp only [ja hg]
theorem ztE :Ji (Jk x 8 y) g=if g=8 then Ji y g else Ji x g:=by
 rw [show Jk x 8 y= {x with wth:=y.wth} from U];by_cases hg:g=8
 ·subst hg;rfl
 ·rw [ja hg];unfold Ji;simp only [ja hg]
theorem zrZ :Ji (Jk x 9 y) g=if g=9 then Ji y g else Ji x g:=by
 rw [show Jk x 9 y= {x with fn:=y.fn,fd:=y.fd,tn:=y.tn,td:=y.td} from U];by_cases hg:g=9
 ·subst hg;rfl
 ·rw [ja hg];unfold Ji;simp only [ja hg]
theorem Uq (a:isF f):Ji (Jk x f y) g=if g=f then Ji y g else Ji x g:=by
 rcases zcB a with rfl | rfl | rfl | rfl | rfl | rfl | rfl | rfl | rfl
 ·exact ztW
 ·exact zrR
 ·exact zsa
 ·exact zsY
 ·exact zrY
 ·exact zss
 ·exact ztV
 ·exact ztE
 ·exact zrZ
theorem zjT (h1:x.id=y.id)(h2:x.kind=y.kind)(h:∀ f,isF f->Ji x f=Ji y f):x=y:=by have z:x.role=y.role:=jA (fun p=>p.1) (show ((x.role,0,0,0):Int×Int×Int×Int)=(y.role,0,0,0) from h 1 ⟨by decide,by decide⟩);have B:x.bar=y.bar:=jA (fun p=>p.1) (show ((x.bar,0,0,0):Int×Int×Int×Int)=(y.bar,0,0,0) from h 2 ⟨by decide,by decide⟩);have C:x.mark=y.mark:=jA (fun p=>p.1) (show ((x.mark,0,0,0):Int×Int×Int×Int)=(y.mark,0,0,0) from h 3 ⟨by decide,by decide⟩);have D:x.side=y.side:=jA (fun p=>p.1) (show ((x.side,0,0,0):Int×Int×Int×Int)=(y.side,0,0,0) from h 4 ⟨by decide,by decide⟩);have E:x.dir=y.dir:=jA (fun p=>p.1) (show ((x.dir,0,0,0):Int×Int×Int×Int)=(y.dir,0,0,0) from h 5 ⟨by decide,by decide⟩);have F:x.level=y.level:=jA (fun p=>p.1) (show ((x.level,0,0,0):Int×Int×Int×Int)=(y.level,0,0,0) from h 6 ⟨by decide,by decide⟩);have G:x.size=y.size:=jA (fun p=>p.1) (show ((x.size,0,0,0):Int×Int×Int×Int)=(y.size,0,0,0) from h 7 ⟨by decide,by decide⟩);have H:x.wth=y.wth:=jA (fun p=>p.1) (show ((x.wth,0,0,0):Int×Int×Int×Int)=(y.wth,0,0,0) from h 8 ⟨by decide,by decide⟩);have I:(x.fn,x.fd,x.tn,x.td)=(y.fn,y.fd,y.tn,y.td):=h 9 ⟨by decide,by decide⟩;obtain ⟨J,K,M,N,O,P,Q,T,V,a,d,i,j,l⟩:=x;obtain ⟨W,Y,Z,b4,b5,b6,b7,b8,b9,n,q,r,t,w⟩:=y;cases h1;cases h2;cases z;cases B;cases C;cases D;cases E;cases F;cases G;cases H;cases I;rfl
def rmF (l:List Pt)(s:Int):List Int:=(l.filter fun p=>p.kind==3&&p.sign==s).map (·.id)
def stF (l:List Pt)(s f:Int):List Pt:=l.filter fun p=>p.kind==1&&(p.sign==s&&p.field==f)
def unB (on:Int->Int->Bool)(l:List Pt)(p:Pt):Bool:=p.kind==1&&(rmF l p.sign).any fun i=> !on i p.id
def unF (on:Int->Int->Bool)(l:List Pt)(s:Int):List Pt:=l.filter fun p=>p.sign==s&&unB on l p
def exB (on:Int->Int->Bool)(l:List Pt)(s:Int):Bool:=(rmF l s).isEmpty|| !(unF on l s).isEmpty
def JF (on:Int->Int->Bool)(l:List Pt)(s f:Int):List Pt:=(stF l s f).filter fun p=> !(stF l s f).any fun q=>on q.id p.id
def zkR (x:Sg)(f:Int):List Pt->Sg
 | []=>x
 | p::_=>Jk x f p.nw
def zej (on:Int->Int->Bool)(l:List Pt)(x:Sg)(k:Nat):Sg:=(List.range k).foldl (fun y (j:Nat)=>zkR y ((j:Int)+1) (JF on l x.id ((j:Int)+1))) x
def zcU (on:Int->Int->Bool)(l:List Pt)(x:Sg):Sg:=zej on l x 9
def Ul (base:List Sg)(l:List Pt):List Sg:=l.foldl (fun s p=>if p.kind=2 then zdr s p.nw else s) base
def Jl (on:Int->Int->Bool)(base:List Sg)(l:List Pt):List Sg:=((Ul base l).filter fun x=>exB on l x.id).map (zcU on l)
def Zi (ps:List Pt)(v:List Int):List Pt:=ps.filter fun p=>v.any (· ==p.id)
def Xf (o:List Sg)(s:Int):Bool:=o.any fun x=>x.id==s
def ziW (l:List Pt)(s:Int):Bool:=l.any fun q=>q.kind==2&&q.sign==s
def zvA (base:List Sg)(l:List Pt)(p:Pt):Bool:= !((p.kind==2&&Xf base p.sign)||(p.kind != 2&& !Xf base p.sign)&& !ziW l p.sign)
def zb0 (base:List Sg)(l:List Pt):Bool:=l.all (zvA base l)
def KM (ps:List Pt)(base:List Sg)(v:List Int):Int:=if JL ps≠0 then JL ps else if Kg base≠0 then Kg base else if v.length>512 then 2 else if X6 ps v&&zb0 base (Zi ps v) then 0 else 380
def za3 (ps:List Pt)(base:List Sg)(v:List Int):Int:=if KM ps base v≠0 then KM ps base v else if (Jl (onF ps) base (Zi ps v)).length>4096 then 2 else 0
def zfx (ps:List Pt)(base:List Sg)(v:List Int):List Sg:=zjE (za3 ps base v) (Jl (onF ps) base (Zi ps v))
def zH8:List Pt->Bool
 | []=>false
 | p::ps=>ps.any fun q=> !Wb q.nw p.nw
abbrev Ck:=Int×Int×List Int
def cf0 (on:Int->Int->Bool)(l:List Pt)(s:Int):List Ck:=if (unF on l s).isEmpty then [] else [(s,0,(l.filter fun p=>p.sign==s&&(unB on l p||p.kind==3)).map (·.id))]
def cfK (on:Int->Int->Bool)(l:List Pt)(s f:Int):List Ck:=if exB on l s&&zH8 (JF on l s f) then [(s,f,(JF on l s f).map (·.id))] else []
def cfS (on:Int->Int->Bool)(l:List Pt)(s:Int):List Ck:=cf0 on l s++(List.range 9).flatMap fun (k:Nat)=>cfK on l s ((k:Int)+1)
def cfL (on:Int->Int->Bool)(base:List Sg)(l:List Pt):List Ck:=(Ul base l).flatMap fun x=>cfS on l x.id
structure zxR (p:Pt):Prop where
 pos:1<=p.id/\p.id<=1048576
 sg:0<=p.sign/\p.sign<=1048576
 kind:p.kind=1\/p.kind=2\/p.kind=3
 set:p.kind=1->isF p.field/\Jk p.nw p.field Yc=Yc/\frm (Jk zdm p.field p.nw)=true
 ins:p.kind=2->p.nw.id=p.sign/\frm p.nw=true
variable{p:Pt}
theorem zyN (h:pchk p=0):zxR p:=by
 unfold pchk at h;split at h
 ·cases h
 ·split at h
  ·rename_i h1 h2;rw [ji,ji] at h2;obtain ⟨h3,h4,h5⟩:=h2;unfold idB at h4;unfold UI at h5;simp only [ji,jG] at h4;refine ⟨kB,kB,?_,fun a=>?_,fun a=>?_⟩
   ·split at h5
    ·omega
    ·split at h5
     ·omega
     ·split at h5
      ·omega
      ·cases h5
   ·rw [jb a] at h5;simp only [ji,Za,jG] at h5;exact ⟨⟨h5.1.1,h5.1.2⟩,Un.1 h5.2.1,h5.2.2⟩
   ·rw [ja kB,jb a] at h5;simp only [ji,jW] at h5;exact h5.2
  ·cases h
structure Sto (ps:List Pt):Prop where
 lst:Lst ps
 ok:∀ p∈ps,zxR p
 tog:∀ p∈ps,∀ q∈ps,p.id≠q.id->zbr p q (onF ps p.id q.id)=true
variable{q:Pt}
theorem zAx (h:zkU ps=true)(d:p∈ps)(i:q∈ps)(a:p.id≠q.id):zbr p q (onF ps p.id q.id)=true:=by unfold zkU at h;rw [jk] at h;have h1:=h p d;rw [jk] at h1;have h2:=h1 q i;rw [show (p.id==q.id)=false by simpa using a,Ai] at h2;exact h2
theorem Wo (h:JL ps=0):Sto ps:=
 ⟨V3 h,fun p d=>zyN (KV.1 (U1 h).2.1 _ (jt.2 ⟨p,d,U⟩)),fun _p d _q i a=>zAx (U1 h).2.2.2 d i a⟩
theorem Sto.ins (h:Sto ps)(a:p∈ps)(d:q∈ps)(j:p.sign=q.sign)(i:q.kind=2):p=q\/(p.kind≠2/\onF ps p.id q.id=true):=by
 by_cases e:p.id=q.id
 ·exact .inl (h.lst.uniq a d e)
 ·have:=h.tog p a q d e;unfold zbr at this;rw [ja (by simpa using j),jb i] at this;simp at this;exact .inr this
theorem Sto.rem (h:Sto ps)(d:p∈ps)(i:q∈ps)(j:p.sign=q.sign)(a:q.kind=3):onF ps p.id q.id=false:=by
 by_cases e:p.id=q.id
 ·rw [e];exact h.lst.on_irr
 ·have:=h.tog p d q i e;unfold zbr at this;rw [ja (by simpa using j),ja kB,jb a] at this;simpa using this
theorem Yo :p∈Zi ps v↔p∈ps/\p.id∈v:=by unfold Zi;rw [jP];simp
theorem Ver.closed (i:Ver ps v):∀ p∈ps,(v.any (· ==p.id))=true->∀ q∈ps,q.id∈p.needs->(v.any (· ==q.id))=true:=fun p a h q _ d=>by
 have:p.id∈v:=by simpa using h
 have:=i.need p a this _ d;simpa using this
theorem zbh (h:Lst ps)(a:Ver ps v):Lst (Zi ps v):=h.part a.closed
theorem znY (h:Lst ps)(d:Ver ps v)(a:p∈Zi ps v)(b:Int):onF (Zi ps v) p.id b=onF ps p.id b:=
 h.on_part d.closed (Yo.1 a).1 (jP.1 a).2
theorem Xx (h:Sto ps)(i:Ver ps v):Sto (Zi ps v):=
 ⟨zbh h.lst i,fun p a=>h.ok p (Yo.1 a).1,fun p a q j d=>by rw [znY h.lst i a];exact h.tog p (Yo.1 a).1 q (Yo.1 j).1 d⟩
def zAf (l:List Pt)(on on':Int->Int->Bool):Prop:=∀ p∈l,∀ b,on p.id b=on' p.id b
variable{l:List Pt}
theorem ziE {i:Int}:i∈rmF l s↔ ∃ p∈l,p.kind=3/\p.sign=s/\p.id=i:=by unfold rmF;rw [zd8];simp [and_assoc]
theorem KD :p∈stF l s f↔p∈l/\p.kind=1/\p.sign=s/\p.field=f:=by unfold stF;rw [jP];simp
section
variable {l:List Pt} {on on':Int->Int->Bool}
theorem zFv (h:zAf l on on')(p:Pt):unB on l p=unB on' l p:=by unfold unB;congr 1;refine zbn fun i a=>?_;obtain ⟨q,d,_,_,rfl⟩:=ziE.1 a;rw [h q d]
theorem zC0 (h:zAf l on on')(s:Int):unF on l s=unF on' l s:=by unfold unF;exact jA (fun f=>l.filter f) (funext fun p=>by rw [zFv h])
theorem zFL (h:zAf l on on')(s:Int):exB on l s=exB on' l s:=by unfold exB;rw [zC0 h]
theorem zoz (h:zAf l on on')(s f:Int):JF on l s f=JF on' l s f:=by unfold JF;refine jA (fun g=>(stF l s f).filter g) (funext fun p=>jA _ (zbn fun q a=>?_));rw [h q (KD.1 a).1]
theorem zBB (h:zAf l on on')(x:Sg)(k:Nat):zej on l x k=zej on' l x k:=by
 unfold zej;have:(fun (y:Sg) (j:Nat)=>zkR y ((j:Int)+1) (JF on l x.id ((j:Int)+1)))=fun (y:Sg) (j:Nat)=>zkR y ((j:Int)+1) (JF on' l x.id ((j:Int)+1)):=funext fun y=>funext fun j=>by rw [zoz h]
 rw [this]
theorem zxO (h:zAf l on on')(a:List Sg):Jl on a l=Jl on' a l:=by unfold Jl;rw [show (fun x:Sg=>exB on l x.id)=fun x=>exB on' l x.id from funext fun x=>zFL h x.id,show zcU on l=zcU on' l from funext fun x=>zBB h x 9]
end
theorem zga (h:Lst ps)(d:Ver ps v):zAf (Zi ps v) (onF (Zi ps v)) (onF ps):=fun _ a b=>znY h d a b
section
variable {b:List Pt} {a:List Sg} {v:List Int}
end
theorem zoU :Xf o s=(Yw o s).isSome:=by unfold Xf Yw;rw [jI,List.find?_isSome,jD]
def zgR (l:List Pt)(s:Int):Option Sg:=(l.find? fun q=>q.kind==2&&q.sign==s).map (·.nw)
theorem zcs (h:zgR l s=some x):∃ q∈l,q.kind=2/\q.sign=s/\q.nw=x:=by unfold zgR at h;rw [Ot] at h;obtain ⟨q,a,rfl⟩:=h;have:=Bl a;simp at this;exact ⟨q,O4 a,this.1,this.2,U⟩
variable{base:List Sg}
theorem zn8 (h:zb0 base l=true)(d:q∈l)(a:q.kind=2):Yw base q.sign=none:=by unfold zb0 at h;rw [jk] at h;have:=h q d;unfold zvA at this;rw [zoU] at this;simp [a] at this;exact this
theorem zbq :Ul base (l++[q])=if q.kind=2 then zdr (Ul base l) q.nw else Ul base l:=by unfold Ul;rw [Oh];rfl
theorem znF {base:List Sg}(H:Srt base):∀ (t a:List Pt),Sto (a++t)->zb0 base (a++t)=true->Srt (Ul base a)->(∀ s,Yw (Ul base a) s=(Yw base s).or (zgR a s))->
  Srt (Ul base (a++t))/\∀ s,Yw (Ul base (a++t)) s=(Yw base s).or (zgR (a++t) s)
 | [],a,_,_,h1,h2=>by rw [jw];exact ⟨h1,h2⟩
 | q::t,a,hs,hf,h1,h2=>by
  have e:a++q::t=(a++[q])++t:=(by simp);rw [e] at hs hf ⊢;have D:q∈a++[q]++t:=by simp
  have E:∀ s,zgR (a++[q]) s=(zgR a s).or (if q.kind=2/\q.sign=s then some q.nw else none):=by
   intro s;unfold zgR;rw [A2];by_cases d:q.kind=2/\q.sign=s
   ·rw [jb d,OX,show (q.kind==2&&q.sign==s)=true by simpa using d];cases a.find? fun q=>q.kind==2&&q.sign==s<;>rfl
   ·rw [ja d,OX,show (q.kind==2&&q.sign==s)=false by simpa using d];cases a.find? fun q=>q.kind==2&&q.sign==s<;>rfl
  refine znF H t (a++[q]) hs hf ?_ ?_
  ·rw [zbq];by_cases d:q.kind=2
   ·rw [jb d];have j:=((hs.ok q D).ins d).1;refine zxr h1 ?_;rw [h2,j,zn8 hf D d]
    cases G:zgR a q.sign with
    | none=>rfl
    | some x=>
     exfalso;obtain ⟨r,F,z,B,_⟩:=zcs G;rcases hs.ins (p:=r) (q:=q) (by simp [F]) D B d with w | ⟨w,_⟩
     ·subst w;have:=hs.lst.inc;rw [js,OJ] at this;have:=this.2.2 r F r kJ;omega
     ·exact w z
   ·rw [ja d];exact h1
  ·intro s;rw [zbq,E];by_cases d:q.kind=2
   ·have j:=((hs.ok q D).ins d).1
    have n:Yw (Ul base a) q.nw.id=none:=by
     rw [h2,j,zn8 hf D d]
     cases G:zgR a q.sign with
     | none=>rfl
     | some x=>
      exfalso;obtain ⟨r,F,z,B,_⟩:=zcs G;rcases hs.ins (p:=r) (q:=q) (by simp [F]) D B d with w | ⟨w,_⟩
      ·subst w;have:=hs.lst.inc;rw [js,OJ] at this;have:=this.2.2 r F r kJ;omega
      ·exact w z
    rw [jb d,zty n,j,h2];have i:=n;rw [h2,j] at i;by_cases C:q.sign=s
    ·subst C;rw [jb rfl,jb ⟨d,U⟩]
     cases h3:Yw base q.sign with
     | some x=>rw [h3] at i;cases i
     | none=>
      rw [h3] at i
      cases h4:zgR a q.sign with
      | some x=>rw [h4] at i;cases i
      | none=>rfl
    ·rw [ja C,ja (fun h=>C h.2),Option.or_none]
   ·rw [ja d,ja (fun h=>d h.1),Option.or_none,h2]
theorem zbf (a:Srt base)(h:Sto l)(d:zb0 base l=true):Srt (Ul base l)/\∀ s,Yw (Ul base l) s=(Yw base s).or (zgR l s):=by have:=znF a l [] h d a (fun s=>by simp [zgR,Ul]);simpa using this
theorem zxp :(zkR x f ps).id=x.id:=by
 cases ps with
 | nil=>rfl
 | cons p ps=>exact zbS
theorem zoJ :(zkR x f ps).kind=x.kind:=by
 cases ps with
 | nil=>rfl
 | cons p ps=>exact UC
variable{k:Nat}
theorem zbO {on:Int->Int->Bool}:zej on l x (k+1)=zkR (zej on l x k) ((k:Int)+1) (JF on l x.id ((k:Int)+1)):=by unfold zej;rw [Ok,Oh];rfl
theorem zem {on:Int->Int->Bool}{l:List Pt}{x:Sg}:∀ k:Nat,(zej on l x k).id=x.id/\(zej on l x k).kind=x.kind
 | 0=>⟨U,U⟩
 | k+1=>by
  rw [zbO,zxp,zoJ];exact zem k
def zIV (x:Sg)(f:Int):List Pt->Int×Int×Int×Int
 | []=>Ji x f
 | p::_=>Ji p.nw f
theorem zjh {on:Int->Int->Bool}{l:List Pt}{x:Sg}{f:Int}(a:isF f):∀ k:Nat,k<=9->Ji (zej on l x k) f=if f<=k then zIV x f (JF on l x.id f) else Ji x f
 | 0,_=>by rw [ja (by unfold isF at a;omega)];rfl
 | k+1,hk=>by
  rw [zbO];have ih:=zjh (on:=on) (l:=l) (x:=x) a k kB;by_cases e:f=(k:Int)+1
  ·subst e;rw [jb kB];rw [ja kB] at ih
   cases d:JF on l x.id ((k:Int)+1) with
   | nil=>exact ih
   | cons p ps=>show Ji (Jk _ _ _) _=_;rw [Uq a,jb rfl];rfl
  ·have:Ji (zkR (zej on l x k) ((k:Int)+1) (JF on l x.id ((k:Int)+1))) f=Ji (zej on l x k) f:=by
    cases JF on l x.id ((k:Int)+1) with
    | nil=>rfl
    | cons p ps=>show Ji (Jk _ _ _) _=_;rw [Uq (by unfold isF;omega),ja e]
   rw [this,ih];by_cases h2:f<=(k:Int)
   ·rw [jb h2,jb kB]
   ·rw [ja h2,ja kB]
theorem zdO {on:Int->Int->Bool}(a:isF f):Ji (zcU on l x) f=zIV x f (JF on l x.id f):=by unfold zcU;rw [zjh a 9 (jn _),jb (by unfold isF at a;omega)]
theorem zaQ {on:Int->Int->Bool}:(zcU on l x).id=x.id:=(zem 9).1
theorem ziu {p:Int->Bool}:Yw (o.filter fun x=>p x.id) s=if p s then Yw o s else none:=by
 induction o with
 | nil=>cases p s<;>rfl
 | cons x o ih=>
  rw [Oc,KG];by_cases e:x.id=s
  ·subst e;rw [jb rfl]
   cases a:p x.id with
   | true=>simp [KG]
   | false=>rw [a] at ih;simpa using ih
  ·rw [ja e]
   cases a:p x.id with
   | true=>simp [KG,e,ih]
   | false=>simpa using ih
theorem ztH {f:Sg->Sg}(a:∀ x,(f x).id=x.id):Yw (o.map f) s=(Yw o s).map f:=by
 induction o with
 | nil=>rfl
 | cons x o ih=>
  rw [jF,KG,KG,a];by_cases e:x.id=s
  ·rw [jb e,jb e];rfl
  ·rw [ja e,ja e,ih]
theorem zdK {on:Int->Int->Bool}:Yw (Jl on base l) s=if exB on l s then (Yw (Ul base l) s).map (zcU on l) else none:=by unfold Jl;rw [ztH (fun _=>zaQ),ziu (p:=exB on l)];cases exB on l s<;>rfl
section
variable {l a:List Pt} {s:Int} {on:Int->Int->Bool}
end
theorem znK {k:Sg}:(zdr o k).length=o.length+1:=by have:=jA List.length (O1 (p:=fun x:Sg=>decide (x.id<k.id)) (l:=o));rw [jj] at this;unfold zdr;rw [jj,jx];omega
theorem zhx:∀ {l:List Pt} {base:List Sg},(Ul base l).length<=base.length+l.length
 | [],base=>by simp [Ul]
 | q::l,base=>by
  show (Ul (if q.kind=2 then zdr base q.nw else base) l).length<=_;refine jO zhx ?_;split
  ·rw [znK,jx];omega
  ·rw [jx];omega
theorem zyc {on:Int->Int->Bool}:(Jl on base l).length<=base.length+l.length:=by unfold Jl;rw [ju];exact jO (jE ..) zhx
structure zBL (l t:List Pt):Prop where
 perm:t.Perm l
 need:∀ t1 p t2,t=t1++p::t2->∀ n∈p.needs,∃ q∈t1,q.id=n
variable{t:List Pt}
theorem zBL.mem (h:zBL l t):p∈t↔p∈l:=h.perm.mem_iff
theorem zBL.on (hl:Lst l)(h:zBL l t){t1 t2:List Pt}(e:t=t1++p::t2)(hon:onF l p.id b=true):∃ q∈t1,q.id=b:=by
 have hp:p∈l:=h.mem.1 (by rw [e];simp)
 revert t1 t2
 revert hon
 refine hl.ind (M:=fun p=>onF l p.id b=true->∀ {t1 t2:List Pt},t=t1++p::t2->∃ q∈t1,q.id=b) (fun p hp ih hon t1 t2 e=>?_) p hp;obtain ⟨n,hn,e2⟩:=(hl.on_iff hp).1 hon;obtain ⟨q,hq,rfl⟩:=h.need t1 p t2 e n hn;rcases e2 with e2 | e2
 ·
  exact ⟨q,hq,e2⟩
 ·
  obtain ⟨u1,u2,rfl⟩:=List.append_of_mem hq;have hql:q∈l:=h.mem.1 (by rw [e];simp);have hlt:=(hl.has p hp _ hn).1;obtain ⟨r,hr,hrb⟩:=ih q hql hlt e2 (t1:=u1) (t2:=u2++p::t2) (by rw [e];simp);exact ⟨r,by simp [hr],hrb⟩
theorem zBL.nodup (d:Lst l)(h:zBL l t):t.Nodup:=by rw [h.perm.nodup_iff];exact d.inc.imp fun {a b} h e=>by subst e;omega
def zJz (t:List Pt)(s:Int):Bool:=t.any fun p=>p.kind==3&&p.sign==s
def zJs (x:Sg)(t:List Pt)(s:Int):Sg:=t.foldl (fun y p=>if p.kind=1/\p.sign=s then Jk y p.field p.nw else y) x
def stS (base:List Sg)(t:List Pt)(s:Int):Option Sg:=if zJz t s then none else ((Yw base s).or (zgR t s)).map fun x=>zJs x t s
theorem zuY {on:Int->Int->Bool}(h:(s,f,u)∈cfL on base l):
  (∃ x∈Ul base l,x.id=s)/\((f=0/\(unF on l s).isEmpty=false/\u=(l.filter fun p=>p.sign==s&&(unB on l p||p.kind==3)).map (·.id))\/(isF f/\exB on l s=true/\zH8 (JF on l s f)=true/\u=(JF on l s f).map (·.id))):=by
 unfold cfL at h;rw [B5] at h;obtain ⟨x,a,h⟩:=h;unfold cfS at h;rcases jC.1 h with h | h
 ·unfold cf0 at h;split at h
  ·cases h
  ·rename_i h2;simp only [jM,AO] at h;obtain ⟨rfl,rfl,rfl⟩:=h;exact ⟨⟨x,a,U⟩,.inl ⟨U,by simpa using h2,U⟩⟩
 ·rw [B5] at h;obtain ⟨k,d,h⟩:=h;rw [jq] at d;unfold cfK at h;split at h
  ·rename_i h2;rw [ji] at h2;simp only [jM,AO] at h;obtain ⟨rfl,rfl,rfl⟩:=h;exact ⟨⟨x,a,U⟩,.inr ⟨by unfold isF;omega,h2.1,h2.2,U⟩⟩
  ·cases h
section
variable {d:List Pt} {x:Pt}
theorem zj9 {a b:Int}(h:a≠x.id):onF (d++[x]) a b=onF d a b:=zfq (fun q i=>by simp at i;subst i;exact fun e=>h e.symm)
theorem zqs {b:Int}:onF (d++[x]) x.id b=x.needs.any fun n=>n==b||onF d n b:=zcC (fun q a=>by cases a)
theorem zsW (h:Lst d)(z:∀ p∈d,p.id<x.id)(D:1<=x.id)(C:∀ n∈x.needs,∃ q∈d,q.id=n):Lst (d++[x]) where
 pos:=fun p i=>(jC.1 i).elim (h.pos p) (fun e=>by simp at e;subst e;exact D)
 inc:=by
  rw [OJ];exact ⟨h.inc,by simp,fun a B b w=>by simp at w;subst w;exact z a B⟩
 has:=fun p i n j=>by
  rcases jC.1 i with i | i
  ·obtain ⟨h1,q,r,e⟩:=h.has p i n j;exact ⟨h1,q,by simp [r],e⟩
  ·simp at i;subst i;obtain ⟨q,r,rfl⟩:=C n j;exact ⟨z q r,q,by simp [r],U⟩
end
structure Res (ps:List Pt)(base:List Sg)(v:List Int)(x y:Pt):Prop where
 chk:JL ps=0
 ver:Ver ps v
 bas:Kg base=0
 fit:zb0 base (Zi ps v)=true
 len:ps.length<=30/\base.length<=60
 new:∀ p∈ps,p.id<x.id
 idh:1<=x.id/\x.id<=1048576
 kind:x.kind=1
 field:isF x.field
 cf:(x.sign,x.field,x.needs)∈cfL (onF ps) base (Zi ps v)
 yin:y∈ps/\y.id∈x.needs
 val:x.nw=y.nw
section
variable {d:List Pt} {f:List Sg} {v:List Int} {x y:Pt} (h:Res d f v x y)
include h
theorem Res.lat:exB (onF d) (Zi d v) x.sign=true/\zH8 (JF (onF d) (Zi d v) x.sign x.field)=true/\x.needs=(JF (onF d) (Zi d v) x.sign x.field).map (·.id):=by
 rcases (zuY h.cf).2 with ⟨e,_⟩ | ⟨_,h1,h2,h3⟩
 ·have:=h.field;unfold isF at this;omega
 ·exact ⟨h1,h2,h3⟩
theorem Res.need {n:Int}:n∈x.needs↔ ∃ q∈JF (onF d) (Zi d v) x.sign x.field,q.id=n:=by rw [h.lat.2.2,jt]
theorem Res.needP {n:Int}(a:n∈x.needs):∃ q∈d,q.id=n/\q.id∈v/\q.kind=1/\q.sign=x.sign/\q.field=x.field:=by obtain ⟨q,i,rfl⟩:=h.need.1 a;obtain ⟨h1,h2,h3,h4⟩:=KD.1 (jP.1 i).1;obtain ⟨h5,h6⟩:=Yo.1 h1;exact ⟨q,h5,U,h6,h2,h3,h4⟩
theorem Res.lst:Lst (d++[x]):=zsW (V3 h.chk) h.new h.idh.1 fun n a=>by
 obtain ⟨q,i,e,_⟩:=h.needP a;exact ⟨q,i,e⟩
theorem Res.yP:y.kind=1/\y.sign=x.sign/\y.field=x.field:=by obtain ⟨q,a,e,_,h1⟩:=h.needP h.yin.2;have:=(V3 h.chk).uniq a h.yin.1 e;subst this;exact h1
theorem Res.sto:Sto (d++[x]):=by
 have z:=Wo h.chk;have hL:=h.lst;refine ⟨hL,fun p i=>?_,fun p i q K F=>?_⟩
 ·rcases jC.1 i with i | i
  ·exact z.ok p i
  ·simp at i;subst i;have H:=z.ok y h.yin.1;have w:=h.yP;refine ⟨h.idh,by rw [<-w.2.1];exact H.sg,.inl h.kind,fun _=>?_,fun e=>by rw [h.kind] at e;omega⟩;have:=H.set w.1;rw [w.2.2,<-h.val] at this;exact this
 ·rcases jC.1 K with a | a
  ·rcases jC.1 i with i | i
   ·rw [zj9 (by have:=h.new p i;omega)];exact z.tog p i q a F
   ·simp at i;subst i;unfold zbr;by_cases D:p.sign=q.sign
    ·rw [ja (by simpa using D)];rw [zqs];obtain ⟨n,B⟩:∃ n,n∈p.needs:=⟨_,h.yin.2⟩;split
     ·rename_i E
      have:p.needs.any (fun n=>n==q.id||onF d n q.id)=true:=by
       rw [jD];obtain ⟨r,C,rfl,_,G,j,_⟩:=h.needP B;refine ⟨_,B,?_⟩;rcases z.ins C a (by rw [j,D]) E with e | ⟨_,e⟩
       ·subst e;omega
       ·rw [e,BE]
      rw [this,h.kind];rfl
     ·split
      ·rename_i E
       have:p.needs.any (fun n=>n==q.id||onF d n q.id)=false:=by
        rw [jL];intro n B;obtain ⟨r,C,rfl,_,G,j,_⟩:=h.needP B;have I:=z.rem C a (by rw [j,D]) E;have J:r.id≠q.id:=fun e=>(by have:=z.lst.uniq C a e;subst this;omega);simp [I,J]
       rw [this];rfl
      ·rfl
    ·rw [jb (by simpa using D)]
  ·simp at a;subst a;unfold zbr;split
   ·rfl
   ·rw [ja (by rw [h.kind];decide),ja (by rw [h.kind];decide)]
theorem Res.pchk:pchk x=0:=by
 have B:=Wo h.chk;have E:=B.ok y h.yin.1;have i:=h.yP;have a:=E.set i.1;rw [i.2.2,<-h.val] at a;have G:0<=x.sign/\x.sign<=1048576:=by rw [<-i.2.1];exact E.sg
 have C:x.needs.length<=32:=by
  rw [h.lat.2.2,ju];unfold JF;refine jO (jE ..) ?_;unfold stF;refine jO (jE ..) ?_;unfold Zi;refine jO (jE ..) ?_;have:=h.len.1;omega
 have j:x.needs.Pairwise (· < ·):=by
  rw [h.lat.2.2,A3];exact (((V3 h.chk).inc.filter _).filter _).filter _
 unfold Go.Proofs.YtodakphagkommaaGreatDoor.R.pchk;rw [ja kB]
 have z:ndB x.id x.needs=true:=by
  unfold ndB;rw [jk];intro k n;rw [jq] at n;obtain ⟨q,D,e,_⟩:=h.needP (O8 n);have h1:=B.lst.pos q D;have h2:=h.new q D;unfold ndP;rw [QJ (jf n)]
  cases k with
  | zero=>simp;omega
  | succ k=>
   rw [show (((k+1:Nat):Int)-1).toNat=k by omega,QJ (jf (show k<x.needs.length by omega))];have:=jY.1 j k (k+1) kB n kB;simp;omega
 have r:idB x=true:=by
  have:=h.idh;unfold idB;simp only [ji,jG];omega
 have w:UI x=true:=by
  have F:=h.field;unfold isF at F;unfold UI;rw [jb h.kind,a.2.1,zn7,a.2.2];unfold Za;simp;omega
 rw [z,r,w];rfl
theorem Res.verL':Zi (d++[x]) (v++[x.id])=Zi d v++[x]:=by
 unfold Zi;rw [jH];congr 1
 ·refine AP fun p a=>?_;have:=h.new p a;rw [Af];have e:([x.id].any fun n=>n==p.id)=false:=(by simp;omega);rw [e,OQ]
 ·simp
theorem Res.on' {p:Pt}(a:p∈d)(b:Int):onF (d++[x]) p.id b=onF d p.id b:=zj9 (by have:=h.new p a;omega)
theorem Res.noton {p:Pt}(_hp:p∈d):onF (d++[x]) p.id x.id=false:=by
 cases a:onF (d++[x]) p.id x.id with
 | false=>rfl
 | true=>
  have h1:=(h.lst.on_lt a).1;have h2:=h.new p _hp;omega
theorem Res.all':Ul f (Zi d v++[x])=Ul f (Zi d v):=by rw [zbq,ja (by rw [h.kind];decide)]
theorem Res.rm' (s:Int):rmF (Zi d v++[x]) s=rmF (Zi d v) s:=by unfold rmF;rw [jH];simp [h.kind]
theorem Res.ex':exB (onF (d++[x])) (Zi d v++[x]) x.sign=true:=by
 unfold exB;rw [h.rm']
 cases z:(rmF (Zi d v) x.sign).isEmpty with
 | true=>rfl
 | false=>
  have:x∈unF (onF (d++[x])) (Zi d v++[x]) x.sign:=by
   unfold unF;refine jP.2 ⟨by simp,?_⟩;unfold unB;rw [h.rm',h.kind]
   have:(rmF (Zi d v) x.sign).any (fun i=> !onF (d++[x]) i x.id)=true:=by
    have j:rmF (Zi d v) x.sign≠[]:=fun e=>(by rw [e] at z;cases z);obtain ⟨i,w⟩:=Bk _ j;refine jD.2 ⟨i,w,?_⟩;obtain ⟨r,n,_,_,rfl⟩:=ziE.1 w;rw [h.noton (Yo.1 n).1];rfl
   rw [this];simp
  cases B:unF (onF (d++[x])) (Zi d v++[x]) x.sign with
  | nil=>rw [B] at this;cases this
  | cons a t=>rfl
theorem Res.st':stF (Zi d v++[x]) x.sign x.field=stF (Zi d v) x.sign x.field++[x]:=by unfold stF;rw [jH];simp [h.kind]
theorem Res.lat':JF (onF (d++[x])) (Zi d v++[x]) x.sign x.field=[x]:=by
 unfold JF;rw [h.st',jH]
 have z:(stF (Zi d v) x.sign x.field).filter (fun p=> !(stF (Zi d v) x.sign x.field++[x]).any fun q=>onF (d++[x]) q.id p.id)=[]:=by
  rw [AD];intro p w;have r:=KD.1 w;have C:=(Yo.1 r.1).1;simp only [jZ,Bool.not_eq_false];rw [Af]
  cases j:(stF (Zi d v) x.sign x.field).any fun q=>onF d q.id p.id with
  | true=>
   rw [jD] at j;obtain ⟨q,a,n⟩:=j;have:(stF (Zi d v) x.sign x.field).any (fun q=>onF (d++[x]) q.id p.id)=true:=jD.2 ⟨q,a,by rw [h.on' (Yo.1 (KD.1 a).1).1];exact n⟩;rw [this];rfl
  | false=>
   have i:p∈JF (onF d) (Zi d v) x.sign x.field:=jP.2 ⟨w,by rw [j];rfl⟩
   have:onF (d++[x]) x.id p.id=true:=by
    rw [zqs,jD];exact ⟨p.id,h.need.2 ⟨p,i,U⟩,by simp⟩
   simp [this]
 have B:[x].filter (fun p=> !(stF (Zi d v) x.sign x.field++[x]).any fun q=>onF (d++[x]) q.id p.id)=[x]:=by
  have:(stF (Zi d v) x.sign x.field++[x]).any (fun q=>onF (d++[x]) q.id x.id)=false:=by
   rw [jL];intro q a;rcases jC.1 a with a | a
   ·rw [h.noton (Yo.1 (KD.1 a).1).1];decide
   ·simp at a;subst a;rw [h.lst.on_irr];decide
  rw [Oc,this];rfl
 rw [z,B];rfl
theorem Res.value:∃ z,Yw (Jl (onF (d++[x])) f (Zi (d++[x]) (v++[x.id]))) x.sign=some z/\Jk Yc x.field z=x.nw:=by
 have w:=zmP (zhR h.bas).2;have r:=zbf w (Xx (Wo h.chk) h.ver) h.fit;obtain ⟨⟨B,n,a⟩,_⟩:=zuY h.cf;rw [h.verL',zdK,h.ex',jb rfl,h.all',<-a,zhO r.1 n];refine ⟨_,U,?_⟩;have i:=((h.sto.ok x kJ).set h.kind);obtain ⟨j,h1,_⟩:=i;refine zjT ?_ ?_ fun g hg=>?_
 ·rw [zbS];have:=jA Sg.id h1;rw [zbS] at this;exact this.symm
 ·rw [UC];have:=jA Sg.kind h1;rw [UC] at this;exact this.symm
 ·rw [Uq j];by_cases e:g=x.field
  ·subst e;rw [jb rfl,zdO j,a,h.lat'];rfl
  ·rw [ja e];have:Ji (Jk x.nw x.field Yc) g=Ji Yc g:=by rw [h1]
   rw [Uq j,ja e] at this;exact this.symm
end
theorem zw7:XJ 0 1 1 2=true:=by decide
theorem zx2:XJ 0 1 1 1=true:=by decide
theorem zqu (a:isF f)(x:Sg):frm (Jk zgu f x)=frm (Jk zdm f x):=by
 rcases zcB a with rfl | rfl | rfl | rfl | rfl | rfl | rfl | rfl | rfl<;>
 simp [frm,zGv,Jk,zgu,zdm,Za,zw7,zx2]
theorem zs6 (a:isF f)(x:Sg):Wb (Jk Yc f x) x=Wb (Jk x f Yc) Yc:=by
 rw [jI,Un,Un];constructor
 ·intro h;refine zjT ?_ ?_ fun g hg=>?_
  ·rw [zbS,<-h,zbS]
  ·rw [UC,<-h,UC]
  ·rw [Uq a];by_cases e:g=f
   ·rw [jb e]
   ·rw [ja e]
    conv=>lhs;rw [<-h]
    rw [Uq a,ja e]
 ·intro h;refine zjT ?_ ?_ fun g hg=>?_
  ·rw [zbS];have:=jA Sg.id h;rw [zbS] at this;exact this.symm
  ·rw [UC];have:=jA Sg.kind h;rw [UC] at this;exact this.symm
  ·rw [Uq a];by_cases e:g=f
   ·rw [jb e]
   ·rw [ja e];have:Ji (Jk x f Yc) g=Ji Yc g:=by rw [h]
    rw [Uq a,ja e] at this;exact this.symm
def zl1 (x y:Int):Int:=if x<y then -1 else if x>y then 1 else 0
def foF (f:Int):Nat:=if f=1 then 1 else if f=2 then 2 else if f=3 then 3 else if f=4 then 5 else if f=5 then 6 else if f=6 then 7 else if f=7 then 8 else 9
def zE1 (x:Sg)(f:Int):Int:=if f=1 then x.role else if f=2 then x.bar else if f=3 then x.mark else if f=4 then x.side else if f=5 then x.dir else if f=6 then x.level else if f=7 then x.size else x.wth
def zJb (b:Nat):List Value:=[.pointer none,.pointer (some ⟨b,0+1,none⟩),.pointer (some ⟨b,0+2,none⟩),.pointer (some ⟨b,0+3,none⟩),.pointer (some ⟨b,0+5,none⟩),.pointer (some ⟨b,0+6,none⟩),.pointer (some ⟨b,0+7,none⟩),.pointer (some ⟨b,0+8,none⟩),.pointer (some ⟨b,0+9,none⟩)]
theorem zci (h:1<=f/\f<=8):f=1\/f=2\/f=3\/f=4\/f=5\/f=6\/f=7\/f=8:=kB
theorem zdg (h:1<=f/\f<=8)(b:Nat):(zJb b)[f.toNat*1]? =some (.pointer (some ⟨b,foF f,none⟩)):=by rcases zci h with rfl | rfl | rfl | rfl | rfl | rfl | rfl | rfl<;>rfl
theorem zh1 (h:1<=f/\f<=8)(x:Sg):zfj (YA x) (foF f)=some (.int .i64 (zE1 x f)):=by rcases zci h with rfl | rfl | rfl | rfl | rfl | rfl | rfl | rfl<;>rfl
theorem zAg :Nat.blt (foF f) 14=true:=by
 unfold foF
 repeat' split
 all_goals rfl
theorem zqx (h:1<=f/\f<=8)(x y:Sg):(YA x).toArray.setIfInBounds (foF f) (.int .i64 (zE1 y f))=(YA (Jk x f y)).toArray:=by rcases zci h with rfl | rfl | rfl | rfl | rfl | rfl | rfl | rfl<;>rfl
def zlh (v:List Int)(k:Nat)(l:Int):Prop:=(k=0->l=0)/\∀ y,v[k-1]? =some y->k≠0->l=y
theorem zde {x:Int}(d:v[k]? =some x):zlh v (k+1) x:=⟨fun h=>kB,fun y a _=>by simp at a;rw [d] at a;cases a;rfl⟩
variable{id:Int}
theorem zDZ {l x:Int}(a:(List.range k).all (ndP id v)=true)(h:zlh v k l)(i:v[k]? =some x):ndP id v k= !(decide (x<=l)||decide (x>=id)):=by
 unfold ndP;rw [QJ i]
 cases k with
 | zero=>
  rw [h.1 rfl];rw [jI];simp;omega
 | succ k=>
  have j:=(jc.1 i).1;have d:v[k]? =some (v[k]' kB):=jf _;have e:=h.2 _ (by rw [AH];exact d) kB;rw [show (((k+1:Nat):Int)-1).toNat=k by omega,QJ d,<-e]
  have h1:1<=l:=by
   rw [jk] at a;have:=a k (jq.2 kB);unfold ndP at this;rw [QJ d] at this;simp at this;omega
  rw [jI];simp;omega
theorem zuv (h:p.needs.length>32):pchk p=2:=by unfold pchk;rw [jb h]
theorem zFd (h:¬p.needs.length>32)(h2:ndB p.id p.needs=false):pchk p=370:=by unfold pchk;rw [ja h,h2];rfl
theorem zfQ (h:¬p.needs.length>32)(h2:ndB p.id p.needs=true)(h3:(idB p&&UI p)=false):pchk p=370:=by unfold pchk;rw [ja h,h2,h3];rfl
theorem zjP (h:¬p.needs.length>32)(h2:ndB p.id p.needs=true)(h3:(idB p&&UI p)=true):pchk p=0:=by unfold pchk;rw [ja h,h2,h3];rfl
theorem zxJ (h:p.kind=1)(h2:Za p.field 1 9=true):UI p=(Wb (Jk p.nw p.field Yc) Yc&&frm (Jk zdm p.field p.nw)):=by unfold UI;rw [jb h,h2,Ou]
theorem zEq (h:p.kind=1)(h2:Za p.field 1 9=false):(idB p&&UI p)=false:=by unfold UI;rw [jb h,h2,Az,OP]
theorem zyH (h:p.kind=2):UI p=(p.field==0&&(p.nw.id==p.sign&&frm p.nw)):=by unfold UI;rw [ja kB,jb h]
theorem zxX (h:p.kind=3):UI p=(p.field==0&&Wb p.nw Yc):=by unfold UI;rw [ja kB,ja kB,jb h]
theorem zGH (h1:p.kind≠1)(h2:p.kind≠2)(h3:p.kind≠3):(idB p&&UI p)=false:=by unfold UI;rw [ja h1,ja h2,ja h3,OP]
def znp (an ad bn bd:Int):Int:=if K7 an ad&&K7 bn bd then zl1 (an*bd) (bn*ad) else 0
theorem zhg {a j i d:Int}:(((zqV a j i d==0)&&decide (znp a j i d<0))&&decide (a>=0)&&decide (i<=d))=XJ a j i d:=by
 unfold zqV znp XJ zl1
 cases h:(K7 a j&&K7 i d) with
 | false=>rfl
 | true=>
  simp only [OB,Ou];by_cases h2:a*d<i*j
  ·simp [h2]
  ·by_cases h3:a*d>i*j<;>simp [h2,h3]
theorem zbQ (a:o[k]? =some x):skP o k= !(!frm x||(decide ((k:Int)>0)&&decide ((o.getD ((k:Int)-1).toNat Yc).id>=x.id))):=by unfold skP;rw [QJ a]
theorem zsr (I:Qu)(x y:Int):kf 142 [.int .i64 x,.int .i64 y] I (.int .i64 (zl1 x y)):=by
 intro g H w j;refine qe Tryz.func142 Tryz.ntmps142 j ?_;refine zR (zA<|zN (zR ?_));refine zM ?_;refine qcV (vs:=[_]) U zal (zlc I _) ?_;refine zA<|zN (zR ?_)
 refine zM ?_;refine qcV (vs:=[_]) U zal (zlc I _) ?_;refine zA<|zN<|Qk<|zR ?_;refine zM<|zN ?_;refine zI ?_ ?_<;>intro h
 ·cases h
 refine Qm<|Qa<|Qk<|zR<|zM<|zN ?_;refine zI ?_ ?_<;>intro i
 ·cases i
 refine Qm<|Qa<|Qk<|zR<|zM ?_;refine zM<|zC (zN ?_)
 refine zI ?_ ?_<;>intro a
 focus
  refine zR<|zA<|zN<|Qq<|Qb ?_
 rotate_left
 refine Qm<|Qa<|Qk<|zR<|zM ?_;refine zM<|zC (zN ?_)
 refine zI ?_ ?_<;>intro d
 focus
  refine zR<|zA<|zN<|Qq<|Qb ?_
 rotate_left
 refine Qm<|Qa<|zR<|zA<|zN<|Qq ?_
 all_goals
  exact zr U U (by unfold zl1;first | (rw [jb (by simpa using a)]) | (rw [ja (by simpa using a),jb (by simpa using d)]) | (rw [ja (by simpa using a),ja (by simpa using d)]))
theorem zmA (I:Qu)(i d n j:Int):kf 237 [WN (i) (d),WN (n) (j)] I (.tuple #[.int .i64 (znp i d n j),.int .i64 (zqV i d n j)]):=by
 intro g H w z;refine qe Tryz.func237 Tryz.ntmps237 z ?_;refine zR<|QU U U U (fun B=>QU U U U (fun C=>zA<|zA (zN (Qk (zR<|zV (Qo U Ys (fun hg=>by exact Cells.g1) U)<|qcV (vs:=[_]) U ze9 (zbk I _ _)<|zC ?_)))))
 refine zM ?_;refine QI 3 U U U<|zJ (Qo U Ys (fun hg=>by exact Cells.g0) U)<|qf (vs:=[_]) U ze9 (fun hg=>zbk I _ _)<|zJ (Qx U U U) ?_
 refine Q5 U U U U U<|zN ?_
 refine zI ?_ ?_<;>intro a
 focus
  have r:(K7 i d&&K7 n j)=false:=(by have h:=a;rw [zeR,jZ] at h;exact h);refine zR (zA<|zA (zN (Qq (Qb ?_))))
 rotate_left
 have r:(K7 i d&&K7 n j)=true:=(by have h:=a;rw [zeR,OC] at h;exact h);have ⟨D,E⟩:=zag (ji .. ▸ r).1;have ⟨F,G⟩:=zag (ji .. ▸ r).2;refine Qm (Qa (zR<|zF YB ?_));refine zL Qr<|zF Y4 ?_
 refine zL Qr ?_;refine zV (Zf U U U (fun _=>by exact zlq kB kB))<|zF YB ?_
 refine zL Qr<|zF Y4 ?_
 refine zL Qr ?_;refine zV (Zf U U U (fun _=>by exact zlq kB kB))<|qcV (vs:=[_,_]) U ziF (zsr I _ _) ?_
 refine zA<|zA (zN (Qq ?_))
 all_goals
  exact QY U U U (fun w z=>⟨by unfold znp zqV;rw [r];rfl,z.drop⟩)
theorem zoI (I:Qu)(d a i h:Int):kf 203 [WN (d) (a),WN (i) (h)] I (.bool (XJ d a i h)):=by
 intro g H w r;refine qe Tryz.func203 Tryz.ntmps203 r ?_;refine zR<|QU U U U (fun j=>QU U U U (fun n=>zA<|zN (zR<|zV (Qo U Ys (fun hg=>by exact Cells.g1) U)<|zV (Qo U Ys (fun hg=>by exact Cells.g0) U)<|qcV (vs:=[_,_]) U zqD (zmA I _ _ _ _)<|zM ?_)))
 refine zE ?_;refine zE ?_;refine zA<|zA<|zN (zR ?_)
 refine zM<|zC ?_
 refine zM ?_;refine Qw 2 U U U ?_;refine zK (Qd U) ?_;refine zK (Qx U U U) ?_;refine QC U U U U U ?_;refine zM ?_;refine Qw 6 U U U ?_;refine zK (Qi U YB) ?_;refine zK (Qc U Qr (fun hg=>by exact QO.h1 U))<|zK (Qx U U U) ?_
 refine QC U U U U U ?_;refine zM ?_;refine Qw 11 U U U ?_;refine zK (Qi U YB) ?_;refine zK (Qc U Qr (fun hg=>by exact QO.h0 U))<|zK (Qi U Y4) ?_
 refine zK (Qc U Qr (fun hg=>by exact QO.h0 U))<|zK (Qx U U U) ?_
 refine QC U U U U U<|zA (zN (Qq ?_))
 exact zr U U (by rw [<-zhg])
theorem zzM (I:Qu)(x:Sg):kf 154 [VD x] I (.bool (frm x)):=by
 intro g H w d;refine qe Tryz.func154 Tryz.ntmps154 d ?_;refine zR<|QU U U U (fun a=>zA<|zN (zR<|zF Zu ?_))
 refine zL Qr<|qcV (vs:=[_,_,_]) U YV (Yh I _ _ _)<|zM ?_
 refine Qw 3 U U U ?_;refine zK (Qi U Vm) ?_;refine zK (Qc U Qr (fun hg=>by exact QO.h0 U))<|qg (vs:=[_,_,_]) U YV (fun hg=>Yh I _ _ _)<|QC U U U U U ?_
 refine zM ?_;refine Qw 8 U U U ?_;refine zK (Qi U Vn) ?_;refine zK (Qc U Qr (fun hg=>by exact QO.h0 U))<|qg (vs:=[_,_,_]) U YV (fun hg=>Yh I _ _ _)<|QC U U U U U ?_
 refine zM ?_;refine Qw 13 U U U ?_;refine zK (Qi U Ur) ?_;refine zK (Qc U Qr (fun hg=>by exact QO.h0 U))<|qg (vs:=[_,_,_]) U YV (fun hg=>Yh I _ _ _)<|QC U U U U U ?_
 refine zM ?_;refine Qw 18 U U U ?_;refine zK (Qi U YP) ?_;refine zK (Qc U Qr (fun hg=>by exact QO.h0 U))<|qg (vs:=[_,_,_]) U YV (fun hg=>Yh I _ _ _)<|QC U U U U U ?_
 refine zM ?_;refine Qw 23 U U U ?_;refine zK (Qi U Vr) ?_;refine zK (Qc U Qr (fun hg=>by exact QO.h0 U))<|qg (vs:=[_,_,_]) U YV (fun hg=>Yh I _ _ _)<|QC U U U U U ?_
 refine zM ?_;refine Qw 28 U U U ?_;refine zK (Qi U Vq) ?_;refine zK (Qc U Qr (fun hg=>by exact QO.h0 U))<|qg (vs:=[_,_,_]) U YV (fun hg=>Yh I _ _ _)<|QC U U U U U ?_
 refine zM ?_;refine Qw 33 U U U ?_;refine zK (Qi U Vj) ?_;refine zK (Qc U Qr (fun hg=>by exact QO.h0 U))<|qg (vs:=[_,_,_]) U YV (fun hg=>Yh I _ _ _)<|QC U U U U U ?_
 refine zM ?_;refine Qw 38 U U U ?_;refine zK (Qi U Vo) ?_;refine zK (Qc U Qr (fun hg=>by exact QO.h0 U))<|qg (vs:=[_,_,_]) U YV (fun hg=>Yh I _ _ _)<|QC U U U U U ?_
 refine zM ?_;refine Qw 43 U U U ?_;refine zK (Qi U Vl) ?_;refine zK (Qc U Qr (fun hg=>by exact QO.h0 U))<|qg (vs:=[_,_,_]) U YV (fun hg=>Yh I _ _ _)<|QC U U U U U ?_
 refine zM ?_;refine Qw 48 U U U ?_;refine zK (Qi U Yy)<|zK (Qo U Ys (fun hg=>by exact Cells.s0 (vs:=[_,_]) U) U)<|zK (Qi U Yz)<|zK (Qo U Ys (fun hg=>by exact Cells.s0 (vs:=[_,_]) U) U)<|qg (vs:=[_,_]) U zpD (fun hg=>zoI I _ _ _ _)<|QC U U U U U<|zA (zN (Qq ?_))
 exact zr U U kL
variable{I:Qu}{B:Option Addr}
theorem zkm {n c:Nat}(i:Sl I 14 YA B n c o)(Q:n<=100000):kf 102 [.slice B n c] I (.int .i64 (Kg o)):=by
 intro g H w O;refine qe Tryz.func102 Tryz.ntmps102 O ?_;refine zR<|zA<|zN<|Qk<|zR ?_;refine zM ?_;refine zQ Z7<|zC (zN ?_)
 refine zI ?_ ?_<;>intro D
 ·have h6:o.length>4096:=(by rw [i.len];simp at D;omega);refine zR<|zA<|zN<|Qq<|Qb ?_
  first
  | exact zr U U (by unfold Kg;rw [jb h6])
 have h6:¬o.length>4096:=(by rw [i.len];simp at D;omega);refine Qm (Qa (Qk (zR (zM<|zQ Z7 ?_))));refine zM<|zN<|Ql ?_;refine zU [(0,_),(8,_),(9,_)] (fun T M K E J C=>∃ (k:Nat),K=n-k/\E=(10,.int .i64 k)::T/\I=J/\M=C/\k<=n/\(List.range k).all (skP o)=true) ?_ (h:=⟨0,U,U,U,U,jd _,U⟩);rintro K E J C ⟨k,rfl,rfl,rfl,rfl,P,j⟩;refine zR<|zC<|zN<|Qk ?_;refine zI ?_ ?_<;>intro r
 ·have a:k<n:=kd r;obtain ⟨x,G⟩:=i.at a;refine Qm (Qa (Qk (Ql (zR (zM<|zV (Qs U U Z7 kE (fun hg=>kB))<|zV (Qo U QQ (fun hg=>by exact zJI i G) U)<|Qv Kc U U (fun N=>?_))))));refine zA ?_;refine zh Zy ?_;refine zN<|Qk ?_;refine ZW mixed kA ?_;refine zq (Qo U QQ (fun hg=>by exact Cells.g0) U) ?_;refine YG (cap:=[]) (vs:=[_]) U U zqv (zzM I _) U U ?_;refine zq (ZT U) ?_;refine zq (Qd U)<|Ym 3 U U U<|zj (Qd U)<|zj (Qx U U U)<|zj (Qd U)<|Yd 6 U U U<|zk (Qd U)<|zk (Qd U)<|zk (Zf U U U (fun hg=>kB))<|zk (Qs U U Z7 kE (fun hg=>by (simp [ZH] at hg;omega)))<|zk (Qi U Zu)<|zk (Qc U Qr (fun hg=>by exact zJA (k:=((k:Int)-1).toNat) i (QE (d:=Yc) i.len (by simp [ZH] at hg;omega)) U)) ?_
  refine zk (Qi U Zu)<|zk (Qc U Qr (fun hg=>by exact QO.h0 U))<|zk (Qx U U U)<|UX U U U (.some U U U U gbf) U U<|Jm U U U U U<|ZX<|Qa ?_
  refine zI ?_ ?_<;>intro z
  ·refine zR (zA (zN (Qq (Qn (Qb (Qb (Qn<|Qb ?_)))))))
   first
   | exact zr U U (by unfold Kg skB;rw [ja h6,Y9 (k:=k) (by rw [i.len];exact a) (by rw [zbQ G,z];rfl)];rfl)
  refine Qm (Qg (Qa (Qh (zB<|zM (Qe ?_)))));exact zm (h:=⟨n-(k+1),kB,k+1,U,U,U,U,kB,YT j (by rw [zbQ G,z];rfl)⟩)
 have F:n<=k:=kd r;refine Qy (Qf (Qf (Qj (Qa (zR (zA (zN<|Qq ?_)))))))
 first
 | exact zr U U (by unfold Kg skB;rw [ja h6,i.len,show n=k by omega,j];rfl)
theorem zcz (I:Qu)(b:Nat):kf 196 [Zm b] I (.agg (zJb b).toArray):=by
 intro g H w d;refine qe Tryz.func196 Tryz.ntmps196 d ?_;refine zR<|Qv zt3 U U (fun h=>zN (Qk ?_))
 have a:=zJH I;refine VR<|ZM I [] mixed<|zT 0 U (Qd U) a<|zT 1 U (Q9 U) a<|zT 2 U (Qi U Vm) a<|zT 3 U (Qd U) a<|zT 4 U (Q9 U) a<|zT 5 U (Qi U Vn) a<|zT 6 U (Qd U) a<|zT 7 U (Q9 U) a<|zT 8 U (Qi U YP) a<|zT 9 U (Qd U) a ?_
 refine zT 10 U (Q9 U) a<|zT 11 U (Qi U Vr) a<|zT 12 U (Qd U) a<|zT 13 U (Q9 U) a<|zT 14 U (Qi U Vq) a<|zT 15 U (Qd U) a<|zT 16 U (Q9 U) a<|zT 17 U (Qi U Vj) a<|zT 18 U (Qd U) a<|zT 19 U (Q9 U) a<|zT 20 U (Qi U Vo) a<|zT 21 U (Qd U) a ?_
 refine zT 22 U (Q9 U) a<|zT 23 U (Qi U Vl) a<|zT 24 U (Zw (ps:=[(1,_),(2,_),(3,_),(4,_),(5,_),(6,_),(7,_),(8,_)]) [_,_,_,_,_,_,_,_,_] Xb zt3 U U) a<|qd 25 U ?_
 exact zh zx1<|Qe<|zD a<|QH kA<|QP<|Qa (Qq<|ZD U U zwQ Cells.g0 U (fun w d=>⟨U,d.drop⟩))
theorem zEj (I:Qu)(x:Sg)(f:Int)(y:Sg)(D:isF f):kf 146 [VD x,.int .i64 f,VD y] I (VD (Jk x f y)):=by
 intro g H w r;refine qe Tryz.func146 Tryz.ntmps146 r ?_;refine zR<|QU U U U (fun j=>QU U U U (fun i=>Qv Kc U U (fun C=>zN (Qk (zR (zM<|zC (zN ?_)))))))
 refine zI ?_ ?_<;>intro n
 ·have z:f=9:=(by simpa using n);refine zR<|zF Yy ?_
  refine zV (Qo U Ys (fun hg=>by exact Cells.s1 (vs:=[_,_]) U) U)<|zF Yz ?_
  refine zV (Qo U Ys (fun hg=>by exact Cells.s1 (vs:=[_,_]) U) U) ?_;refine zF Yy ?_;refine YW U U UP U U U U (by repeat (first | exact Upd.here | apply Upd.there | apply QN)) ?_;refine zF Yz ?_;refine YW U U UP U U U U (by repeat (first | exact Upd.here | apply Upd.there | apply QN))<|zN (zR<|zV (Qo U QQ (fun hg=>by exact Cells.g2) U) ?_)
  refine zh Zy<|zN (Qq (Qb ?_))
  first
  | exact ZD U U QQ Cells.g0 U (fun w r=>⟨by rw [z];rfl,r.drop⟩)
 have a:1<=f/\f<=8:=(by have h:=n;unfold isF at D;simp at h;omega);refine Qm<|Qa<|Qk ?_;have d:=zJH I;refine VR<|ZM I [(i,.cells (VD y).cells 54 (0,0))] mixed<|zT 1 U (Qd U) d<|zT 4 U (Qd U) d<|qd 0 U<|qcV (vs:=[_]) U zil (zcz I _)<|Qe<|zD d ?_
 refine Zv 2 3 U U kA ?_ ?_
 focus
  refine zV (Us U U Xb X8 (fun hg=>kB) (fun hg=>zdg a j))<|Qe<|zD d<|qd 3 U<|qcV (vs:=[_]) U zil (zcz I _)<|Qe<|zD d<|qd 5 U<|zV (Us U U Xb X8 (fun hg=>kB) (fun hg=>zdg a i))<|Qe<|zD d<|zT 6 U (Q9 U) d ?_
  refine zT 7 U (Qc U Qr (fun hg=>by exact QO.h0 (zh1 a y))) d ?_
 rotate_left
 refine qcV (vs:=[_]) U zil (zcz I _)<|Qe<|zD d ?_
 refine Zv 2 5 U U kA ?_ ?_
 focus
  refine zV (Us U U Xb X8 (fun hg=>kB) (fun hg=>zdg a j))<|Qe<|zD d<|qd 5 U<|zV (Us U U Xb X8 (fun hg=>kB) (fun hg=>zdg a i))<|Qe<|zD d<|zT 6 U (Q9 U) d<|zT 7 U (Qc U Qr (fun hg=>by exact QO.h0 (zh1 a y))) d ?_
 rotate_left
 refine zV (Us U U Xb X8 (fun hg=>kB) (fun hg=>zdg a i))<|Qe<|zD d<|zT 6 U (Q9 U) d<|zT 7 U (Qc U Qr (fun hg=>by exact QO.h0 (zh1 a y))) d<|qd 2 U<|zV (Us U U Xb X8 (fun hg=>kB) (fun hg=>zdg a j))<|Qe<|zD d ?_
 all_goals
  refine zT 8 U (Q9 U) d<|qd 9 U<|Zx U U ZO U U Upd.u2 (by exact zAg) ?_
  rw [show (VD x).cells.setIfInBounds (foF f) (.int .i64 (zE1 y f))=(YA (Jk x f y)).toArray from zqx a x y];exact Qe<|zD d<|QH kA<|QP<|Qa (zR<|zV (Qo U QQ (fun hg=>by exact Cells.g2) U)<|zh Zy<|zN (Qq<|ZD U U QQ Cells.g0 U (fun w r=>⟨U,r.drop⟩)))
end
section
open Go Go.Kn
theorem zjI (a:List Int):a.flatMap QF=a.map (Value.int .i64):=by
 induction a with
 | nil=>rfl
 | cons z a ih=>rw [jV,ih];rfl
theorem za4 {b d:List Int}(f:d.Pairwise (· < ·))(h:∀ x,x∈b↔x∈d):Lib.compact (Vf b)=d:=
 zaC (U4 b).1 f fun a=>by rw [(U4 b).2,h]
end
section
open Go Go.Kn Go.Proofs
theorem zzP (i j:Nat)(h:i+j<=1000000):IntKind.i64.wrap ((IntKind.u64.wrap ((i:Int)+(j:Int))).fdiv (2^1))=(((i+j) / 2:Nat):Int):=by
 have h1:IntKind.u64.wrap ((i:Int)+(j:Int))=((i+j:Nat):Int):=by
  rw [show ((i:Int)+(j:Int))=((i+j:Nat):Int) by omega];exact zpZ ⟨kB,kB⟩
 rw [h1,show ((2:Int)^1)=((2:Nat):Int) from U,Bc _ kB,<-Int.natCast_ediv];exact zct ⟨kB,kB⟩
variable{x:Int}
theorem zFo {y:Int}:decide (zl1 x y<0)=decide (x<y):=by
 unfold zl1;by_cases h:x<y
 ·rw [jb h];simp [h]
 ·rw [ja h];split<;>simp [h]
section
variable {g:Type} {key:g->Int} {f:List g} {t:Int}
theorem zHJ (l:f.Pairwise (fun a b=>key a<key b)){h:Nat}{y:g}(j:f[h]? =some y)(d:key y<t):∀ q z,q<h+1->f[q]? =some z->key z<t:=fun q z n i=>by
 obtain ⟨h1,h2⟩:=jc.1 i;obtain ⟨h3,h4⟩:=jc.1 j;by_cases e:q=h
 ·subst e;rw [j] at i;cases i;exact d
 ·have:=jY.1 l q h h1 h3 kB;rw [h2,h4] at this;omega
theorem zGP (l:f.Pairwise (fun a b=>key a<key b)){h:Nat}{y:g}(j:f[h]? =some y)(d:¬key y<t):∀ q z,h<=q->f[q]? =some z->¬key z<t:=fun q z n i=>by
 obtain ⟨h1,h2⟩:=jc.1 i;obtain ⟨h3,h4⟩:=jc.1 j;by_cases e:q=h
 ·subst e;rw [j] at i;cases i;exact d
 ·have:=jY.1 l h q h3 h1 kB;rw [h2,h4] at this;omega
def zly (key:g->Int)(f:List g)(t:Int):Nat:=(f.takeWhile fun x=>decide (key x<t)).length
theorem zEs {i:Nat}(j:i<=f.length)(d:∀ q z,q<i->f[q]? =some z->key z<t)(b:∀ q z,i<=q->f[q]? =some z->¬key z<t):zly key f t=i:=by
 unfold zly
 have h1:(f.take i).all (fun x=>decide (key x<t))=true:=by
  rw [jk];intro z n;obtain ⟨q,h⟩:=jU n;have a:q<i:=(by have:=(jc.1 h).1;rw [jJ] at this;omega);rw [Bp a] at h;exact jN (d q z a h)
 rw [(zEl h1 j (fun y l=>jX (b i y (jn _) l))).1,jJ];omega
theorem ztd {i n:Nat}{d:g}(p:f.length=n)(o:∀ q z,q<i->f[q]? =some z->key z<t)(l:∀ q z,i<=q->f[q]? =some z->¬key z<t)(y:f.Pairwise (fun a b=>key a<key b)):(decide ((i:Int)<(n:Int))&&(key (f.getD i d)==t))=f.any fun x=>key x==t:=by
 rw [jI,jD,ji];constructor
 ·rintro ⟨h1,h2⟩;have u:i<n:=(by have:=Oq h1;omega);exact ⟨_,je (QE p u),h2⟩
 ·rintro ⟨x,A,e⟩;have e:key x=t:=(by simpa using e);obtain ⟨q,j⟩:=jU A;have w:=(jc.1 j).1
  have h1:i<=q:=by
   rcases B7 q i with h | h
   ·have:=o q x h j;omega
   ·exact h
  have h2:q=i:=by
   by_cases s:q=i
   ·exact s
   ·have r:=QE (d:=d) p (show i<n by omega);obtain ⟨h3,h4⟩:=jc.1 j;obtain ⟨h5,h6⟩:=jc.1 r;have h7:=jY.1 y i q h5 h3 kB;rw [h4,h6] at h7;have:=l i _ (jn _) r;omega
  subst h2;refine ⟨jN kB,?_⟩;rw [QJ j,e];simp
end
instance : Inhabited Sg := ⟨Yc⟩
def zuT (a b:Sg):Int:=zl1 a.id b.id
theorem ltG (a b:Sg):Go.Proofs.ltOf zuT a b=decide (a.id<b.id):=by unfold Go.Proofs.ltOf zuT;exact zFo
theorem zJg:Go.Sort.SWO (Go.Proofs.ltOf zuT) where
 irrefl:=fun x=>by rw [ltG];simp
 trans:=fun x y z h1 h2=>by rw [ltG] at*;simp at*;omega
 ntrans:=fun x y z h1 h2=>by rw [ltG] at*;simp at*;omega
theorem zsM {Q d:List Sg}(i:d.Perm Q)(j:d.Pairwise (fun x y=>Go.Proofs.ltOf zuT y x=false))(g:(Q.map (·.id)).Nodup):Srt d:=by have f:(d.map (·.id)).Nodup:=(i.map (·.id)).nodup_iff.2 g;unfold Srt;have h2:d.Pairwise (fun a b=>a.id≠b.id):=A3.1 f;refine (j.and h2).imp fun {a b} h=>?_;have:=h.1;rw [ltG] at this;simp at this;have:=h.2;omega
theorem sub_zero {t:Int}:(x-t==0)=(x==t):=by rw [jI];simp;omega
def zoi (v:List Int)(i:Nat):Bool:= !(decide ((i:Int)>0)&&decide (v.getD i 0<=v.getD ((i:Int)-1).toNat 0))
theorem zel {v:List Int}:zzL v=(List.range v.length).all (zoi v):=rfl
theorem zlF (v:List Int):(List.range 1).all (zoi v)=true:=by simp [zoi]
variable{k:Nat}
theorem zpT {v:List Int}(a:v[k]? =some x)(h:1<=k):zoi v k= !decide (x<=v.getD ((k:Int)-1).toNat 0):=by unfold zoi;rw [QJ a,jN (show (k:Int)>0 by omega),Ou]
variable{n:Nat}
theorem zm2 {p:Nat->Bool}(h:(List.range k).all p=true)(b:n<=k):(List.range n).all p=true:=by rw [jk] at*;intro i a;exact h i (jq.2 (Nat.lt_of_lt_of_le (jq.1 a) b))
variable{v:Value}
theorem zCy (e:Nat)(Q:List Int){L:Go.Kn.Loc}(b:OwnS e 1 v n (Q.map (Value.int .i64)) L)(d:n<=1000000)(I:Qu):
  kg 64 [v] I L (fun u F a=>u= .tuple #[]/\F=I/\OwnS e 1 v n ((Vf Q).map (Value.int .i64)) a):=
 zlQ Tryz.slices_Sort_int Tryz.slices_Sort_int_none Q b d I
theorem zo5 (e:Nat)(Q:List Int){L:Go.Kn.Loc}(b:OwnS e 1 v n (Q.map (Value.int .i64)) L)(d:n<=1000000)(I:Qu):
  kg 91 [v] I L (fun u F a=>F=I/\OwnS e 1 u (Lib.compact Q).length ((Lib.compact Q).map (Value.int .i64)) a):=
 zdE Lib.compact Lib.compact_length_le U Tryz.slices_Compact_int Tryz.slices_Compact_int_empty Q b d I
theorem zEh (I:Qu)(x y:Sg):kf 141 [VD x,VD y] I (.int .i64 (zuT x y)):=by
 intro g H w d;refine qe Tryz.func141 Tryz.ntmps141 d ?_;refine zR<|QU U U U (fun a=>QU U U U (fun b=>zA<|zN (zR<|zF Zu ?_)))
 refine zL Qr<|zF Zu ?_
 refine zL Qr<|qcV (vs:=[_,_]) U ziF (zsr I _ _) ?_
 refine zA<|zN<|Qq ?_;exact zr U U kL
theorem zyk (e:Nat)(Q:List Sg){L:Go.Kn.Loc}(p:OwnS e 14 v n (Q.flatMap YA) L)(s:n<=1000000)(I:Qu):
  kg 140 [v,.func (.func 141) #[] #[]] I L (fun u F j=>u= .tuple #[]/\F=I/\∃ a:List Sg,a.Perm Q/\a.Pairwise (fun x y=>Go.Proofs.ltOf zuT y x=false)/\OwnS e 14 v n (a.flatMap YA) j):=
 zrj Yp kC (fun f h g d w l o q t=>Tryz.slices_SortFunc 14 (fun w=>Jg QQ) (fun w=>by obtain ⟨i,r,z⟩:=Zy;rw [<-z];exact Go.Kn.run_sizeOf r) YA Yp (fun x=>Kx kL) zuT zJg 141 #[] f h g d w (fun b w=>Ka zxy b w) l o q t)
  (Tryz.slices_SortFunc_none (α:=Sg)) (fun I x y=>zEh I x y) Q p s I
theorem zv6 (I:Qu)(x:Int):kf 190 [.int .i64 x] I (.bool false):=by
 intro g H w a;refine qe Tryz.func190 Tryz.ntmps190 a ?_;refine zR (zA<|zN (zR ?_));refine zM ?_;refine zM<|zC<|zA (zN (Qq ?_))
 exact zr U U kJ
theorem zED (I:Qu)(x y:Int):kf 161 [.int .i64 x,.int .i64 y] I (.bool (decide (x<y))):=by
 intro g H w a;refine qe Tryz.func161 Tryz.ntmps161 a ?_;refine zR (zA<|zN (zR ?_));refine zM ?_;refine qcV (vs:=[_]) U zal (zlc I _)<|zM ?_
 refine Qw 2 U U U ?_;refine zK (Qd U)<|qg (vs:=[_]) U zal (fun hg=>zlc I _)<|zK (ZT U)<|QC U U U U U ?_
 refine zM ?_;refine QI 7 U U U ?_;refine zJ (Qd U)<|zJ (Qd U)<|zJ (Qx U U U) ?_
 refine Q5 U U U U U ?_;refine zA<|zN<|Qq ?_;exact zr U U kL
variable{I:Qu}{av:Option Addr}{c:Nat}{xs:List Int}
theorem zG5 (l:Sl I 1 QF av n c xs)(M:n<=100000)(u:xs.Pairwise (· < ·))(t:Int):kf 139 [.slice av n c,.int .i64 t] I (.tuple #[.int .i64 (zly (fun x:Int=>x) xs t:Nat),.bool (xs.any fun x=>x==t)]):=by
 intro g H w A;refine qe Tryz.func139 Tryz.ntmps139 A ?_;refine zR (zA<|zA<|zN (zR ?_));refine zM ?_;refine zQ Qt<|zA<|zN (zR ?_)
 refine zM<|zA<|zA (zN (Qk (Ql ?_)))
 refine zU [(0,_),(1,_),(6,_)] (fun T D C E F f=>∃ (i j:Nat),C=j-i/\E=(7,.int .i64 i)::(8,.int .i64 j)::T/\I=F/\D=f/\i<=j/\j<=n/\(∀ q z,q<i->xs[q]? =some z->z<t)/\∀ q z,j<=q->xs[q]? =some z->¬z<t) ?_ (h:=⟨0,n,U,U,U,U,jd _,jn _,fun q z h=>absurd h kB,fun q z h1 h2=>by have:=(jc.1 h2).1;rw [l.len] at this;omega⟩);rintro C E F f ⟨i,j,rfl,rfl,rfl,rfl,J,s,p,o⟩;refine Qk (zR (zM<|zM<|zC (zN ?_)));refine zI ?_ ?_<;>intro a
 ·have K:i<j:=kd a;obtain ⟨y,B⟩:=l.at (k:=(i+j) / 2) kB;refine Qm<|Qa<|Ql<|zR<|zM ?_;refine zM ?_;refine zB<|zV (Uy U U0)<|zV (zmU U U kC (rfl:min _ _=1))<|zV (Uy U zmu)<|zA (Qe ?_)
  rw [zzP i j kB];refine Qa (zR (zM<|zM ?_));refine zV (Qs U U Qt kE (fun hg=>kB)) ?_;refine zV (Qc U Qr (fun hg=>by exact zJA (k:=(i+j) / 2) l B U))<|zM ?_
  refine qcV (vs:=[_,_]) U zyf (zED I _ _)<|zN ?_
  refine zI ?_ ?_<;>intro b
  ·refine Qh<|zM ?_;exact zB<|zA (Qe (Qg<|zm (h:=⟨j-((i+j) / 2+1),kB,(i+j) / 2+1,j,U,U,U,U,kB,s,zHJ (key:=fun x:Int=>x) u B (by simpa using b),o⟩)))
  exact Qh (zM<|zA (Qe (Qg<|zm (h:=⟨(i+j) / 2-i,kB,i,(i+j) / 2,U,U,U,U,kB,kB,p,zGP (key:=fun x:Int=>x) u B (by simpa using b)⟩))))
 have G:j<=i:=kd a;have r:j=i:=kB;subst r;refine Qy (Qf (Qf (Qj (Qa (zR (zM<|zM ?_))))));refine zM<|zC ?_
 refine zM ?_;refine Qw 4 U U U ?_;refine zK (Qd U) ?_;refine zK (Qd U)<|zK (Qs U U Qt kE (fun hg=>by (simp [ZH] at hg;omega)))<|zK (Qc U Qr (fun hg=>by exact Sl.getD0 (k:=j) (d:=0) l (by simp [ZH] at hg;omega) U))<|zK (Qd U) ?_
 refine zK (Qx U U U)<|zK (Qd U)<|QI 11 U U U ?_
 refine zJ (Qd U)<|zJ (Qd U)<|zJ (Qs U U Qt kE (fun hg=>by (simp [ZH] at hg;omega)))<|zJ (Qc U Qr (fun hg=>by exact Sl.getD0 (k:=j) (d:=0) l (by simp [ZH] at hg;omega) U))<|qf (vs:=[_]) U zo1 (fun hg=>zv6 I _)<|zJ (Qd U)<|Qw 17 U U U ?_
 refine zK (Qd U)<|qg (vs:=[_]) U zo1 (fun hg=>zv6 I _)<|ze5 U U U (.some U U U U gbf) U U<|znD U U U (.some U U U U gbt) U U<|QC U U U U U<|zA<|zA (zN (Qq ?_))
 exact QY U U U (fun w A=>⟨by rw [<-ztd (key:=fun x:Int=>x) (d:=0) l.len p o u,zEs (key:=fun x:Int=>x) (by rw [l.len];omega) p o];simp,A.drop⟩)
theorem zCE (l:Sl I 1 QF av n c xs)(u:n<=100000):kf 149 [.slice av n c] I (.bool (zzL xs)):=by
 intro g H w s;refine qe Tryz.func149 Tryz.ntmps149 s ?_;refine zR (zA (zN (Qk (zR<|zA (zN (Ql ?_))))));refine zU [(0,_)] (fun T r q E F i=>∃ (k:Nat),q=(max n 1)-k/\E=(3,.int .i64 k)::T/\I=F/\r=i/\k<=(max n 1)/\1<=k/\(List.range k).all (zoi xs)=true) ?_ (h:=⟨1,U,U,U,U,kB,jn _,zlF xs⟩);rintro q E F i ⟨k,rfl,rfl,rfl,rfl,t,h1,b⟩;refine Qk (zR (zM<|zM ?_));refine zQ Qt<|zC (zN ?_)
 refine zI ?_ ?_<;>intro o
 ·have a:k<n:=kd o;obtain ⟨x,p⟩:=l.at a;refine Qm (Qa (Qk (Ql (Qk<|ZW mixed kA<|zq (Qd U)<|zq (Qd U)<|zq (Qs U U Qt kE (fun hg=>kB))<|zq (Qc U Qr (fun hg=>by exact zJA (k:=k) l p U))<|zq (Qd U)<|zq (Qd U)<|zq (Zf U U U (fun _=>kB))<|zq (Qs U U Qt kE (fun hg=>kB))<|zq (Qc U Qr (fun hg=>by exact Sl.getD0 (k:=((k:Int)-1).toNat) (d:=0) l kB U))<|zq (Qx U U U) ?_))));refine ZX<|Qa ?_
  refine zI ?_ ?_<;>intro f
  ·refine zR (zA (zN (Qq (Qn (Qb (Qb (Qn<|Qb ?_)))))))
   first
   | exact zr U U (by rw [zel,Y9 (k:=k) (by rw [l.len];exact a) (by rw [zpT p h1,f];rfl)])
  refine Qm<|Qg<|Qa<|Qh<|zM ?_;refine zB<|zA (Qe ?_)
  exact zm (h:=⟨(max n 1)-(k+1),kB,k+1,U,U,U,U,kB,kB,YT b (by rw [zpT p h1,f];rfl)⟩)
 have j:n<=k:=kd o;exact Qy (Qf (Qf (Qj (Qa (zR (zA (zN<|Qq<|zr U U (by rw [zel,l.len,zm2 b (show n<=k from j)]))))))))
theorem zte {xs:List Sg}(i:Sl I 14 YA av n c xs)(q:n<=400000):kg 138 [.slice av n c] I [] (fun v F L=>F=I/\OwnS 54 14 v n (xs.flatMap YA) L):=by
 intro g H w d;refine qe Tryz.func138 Tryz.ntmps138 d ?_;refine zR<|zA<|zN<|Qk<|zR ?_;refine zM ?_;refine zV (zbm U U Z7)<|zN ?_
 refine zI ?_ ?_<;>intro b
 ·have j:n=0:=OT fun h=>(by have:=i.base h;rw [this] at b;cases b);have o:=i.len;subst j;have l:=OI o;subst l;exact zR (zA (zN (Qq (Qb<|Zc U U (fun w d=>⟨_,I,_,U,zJH _,d,U,OwnS.nil⟩)))))
 refine Qm (Qa (zR<|zpb [] [] Vy (fun f=>zM<|zpa (_) (xs.flatMap YA) ([(f,_)]) U U Vy OwnS.new (i.src Yp) (zcW _) ?_)));intro r p a _;rw [Oi,Oj] at a;exact zA (zN (Qq<|Zc U U (fun w d=>⟨_,I,_,U,zJH _,d.subL Q3,U,a⟩)))
variable{bv:Option Addr}{Y c2:Nat}{V:List Int}
theorem zmy (y:Sl I 1 QF av n c xs)(z:n<=400000)(q:Sl I 1 QF bv Y c2 V)(A:Y<=100000):kg 50 [.slice av n c,.slice bv Y c2] I [] (Jv 1 QF (Lib.compact (Vf (xs++V)))):=by
 intro g H w r;refine qe Tryz.func50 Tryz.ntmps50 r ?_;have a:=zJH I;refine zR (zA<|zN (zR ?_));refine zM<|zpc [_] U zn5 .nil (zdU y z) ?_
 rintro B E J b ⟨rfl,u⟩;have q:=q.mono b;have a:=a.trans b;refine zM<|zf0 (v:=_) (ys:=V.flatMap QF) (L:=_) U U QS u Q6 (q.src QL) (YJ _) kB U U ?_
 intro M t d _;rw [<-jh,zjI] at d;refine zA<|zN (zR ?_)
 refine zM<|zpc [_] U znz Q6 (zCy 3 (xs++V) d kB _) ?_
 rintro C F t l ⟨rfl,rfl,p⟩;have a:=a.trans l;refine zN<|zR ?_;refine zM<|zpc [_] U zv8 Q6 (zo5 3 _ p kB _) ?_
 rintro D G K o ⟨rfl,f⟩;have a:=a.trans o;refine zA<|zN<|Qq ?_;rw [<-zjI] at f;exact Zc U U (fun w r=>by obtain ⟨s,h,i,j⟩:=OwnS.res f QL kC (r.subL (by exact Q3));exact ⟨_,s,[],U,a.trans h,i,j⟩)
def zfA (b:Nat):Value:=.map (some b)
structure zbi (s:List (Int×Bool))(A:Int->Bool):Prop where
 nodup:(s.map (·.1)).Nodup
 all:∀ q∈s,q.2=true
 mem:∀ x,zjt s x=A x
theorem zbi.nil:zbi [] (fun _=>false):=⟨.nil,(fun q a=>by cases a),fun _=>U⟩
variable{s:List (Int×Bool)}{A:Int->Bool}
theorem zbi.put (h:zbi s A)(a:Int):zbi (Vd s a true) (fun x=>decide (a=x)||A x) where
 nodup:=WD a true h.nodup
 all:=by
  have key:∀ (s:List (Int×Bool)),(∀ q∈s,q.2=true)->∀ q∈Vd s a true,q.2=true:=by
   intro s
   induction s with
   | nil=>intro _ q b;simp [Vd] at b;rw [b]
   | cons p s ih=>
    intro h q b;unfold Vd at b;split at b
    ·rcases jo.1 b with rfl | b
     ·rfl
     ·exact h q (jm _ b)
    ·rcases jo.1 b with rfl | b
     ·exact h _ (jl ..)
     ·exact ih (fun q b=>h q (jm _ b)) q b
  exact key s h.all
 mem:=fun x=>by rw [zbz,h.mem]
theorem zbi.congr {B:Int->Bool}(h:zbi s A)(e:∀ x,A x=B x):zbi s B:=⟨h.nodup,h.all,fun x=>by rw [h.mem,e]⟩
theorem zbi.key (h:zbi s A):A x=true↔x∈s.map (·.1):=by
 rw [<-h.mem];unfold zjt;constructor
 ·intro h1
  cases hg:ZR s x with
  | none=>rw [hg] at h1;cases h1
  | some b=>exact jt.2 ⟨_,Ux hg,U⟩
 ·intro h1;obtain ⟨q,a,rfl⟩:=jt.1 h1;rw [zei h.nodup a,h.all q a];rfl
def OnS (I:Qu)(M:Nat)(A:Int->Bool):Prop:=∃ s:List (Int×Bool),I M=some (Yg (Value.int .i64) Value.bool s)/\zbi s A
variable{F:Qu}{M:Nat}
theorem OnS.mono (h:OnS I M A)(a:HLe I F):OnS F M A:=by obtain ⟨s,h1,h2⟩:=h;exact ⟨s,a _ _ h1,h2⟩
def OnL (I:Qu)(m:List (Int×Nat))(ps:List Pt):Prop:=m.map (·.1)=ps.map (·.id)/\∀ q∈m,OnS I q.2 (onF ps q.1)
variable{m:List (Int×Nat)}{ps:List Pt}
theorem OnL.mono (h:OnL I m ps)(a:HLe I F):OnL F m ps:=⟨h.1,fun q b=>(h.2 q b).mono a⟩
theorem OnL.nil :OnL I [] (ps.take 0):=⟨by simp,fun q a=>by cases a⟩
def OnM (I:Qu)(r:Nat)(ps:List Pt):Prop:=∃ m:List (Int×Nat),I r=some (Yg (Value.int .i64) zfA m)/\OnL I m ps
variable{r:Nat}
theorem OnM.mono (h:OnM I r ps)(a:HLe I F):OnM F r ps:=by obtain ⟨m,h1,h2⟩:=h;exact ⟨m,a _ _ h1,h2.mono a⟩
variable{a:Int}
theorem OnL.get (h:OnL I m ps)(b:∃ q∈ps,q.id=a):∃ M,ZR m a=some M/\OnS I M (onF ps a):=by
 cases hg:ZR m a with
 | none=>
  have:=Xj.1 hg;rw [h.1] at this;obtain ⟨q,d,rfl⟩:=b;exact absurd (jt.2 ⟨q,d,U⟩) this
 | some M=>exact ⟨M,U,h.2 _ (Ux hg)⟩
variable{p:Pt}
theorem Lst.before (h:Lst ps)(g:ps[k]? =some p){n:Int}(t:n∈p.needs):∃ q∈ps.take k,q.id=n:=by
 obtain ⟨h1,q,u,rfl⟩:=h.has p (je g) n t;obtain ⟨j,d⟩:=jU u;obtain ⟨f,b⟩:=jc.1 d;obtain ⟨i,l⟩:=jc.1 g
 have o:j<k:=by
  rcases B7 j k with h3 | h3
  ·exact h3
  ·exfalso;by_cases e:k=j
   ·subst e;rw [g] at d;cases d;omega
   ·have:=jY.1 h.inc k j i f kB;rw [b,l] at this;omega
 refine ⟨q,?_,U⟩;rw [Ar];exact ⟨j,kB,b⟩
theorem Lst.fresh (h:Lst ps)(f:ps[k]? =some p):∀ q∈ps.take k,q.id<p.id:=fun q g=>by
 obtain ⟨j,i,rfl⟩:=Ar.1 g;obtain ⟨b,d⟩:=jc.1 f;have:=jY.1 h.inc j k kB b kB;rw [d] at this;exact this
theorem OnL.step (hL:Lst ps)(o:ps[k]? =some p)(i:OnL I m (ps.take k))(t:I M=some (Yg (Value.int .i64) Value.bool s))
  (u:zbi s (fun x=>p.needs.any fun n=>n==x||onF (ps.take k) n x)):OnL I (Vd m p.id M) (ps.take (k+1)):=by
 have g:=hL.fresh o
 have b:p.id∉m.map (·.1):=by
  rw [i.1];intro h;obtain ⟨q,d,e⟩:=jt.1 h;have:=g q d;omega
 have j:Vd m p.id M=m++[(p.id,M)]:=by
  refine zbD m p.id M 0 ?_;have:=Xj.2 b;rw [<-Ui m p.id 0] at this;simpa using this
 rw [Z0 o];refine ⟨by rw [Ug,ja b,i.1];simp,fun q d=>?_⟩;rw [j] at d;rcases jC.1 d with d | d
 ·obtain ⟨w,h1,h2⟩:=i.2 q d;refine ⟨w,h1,h2.congr fun x=>?_⟩;have l:q.1≠p.id:=fun e=>b (by rw [<-e];exact jt.2 ⟨q,d,U⟩);rw [zfq (fun z f=>by simp at f;subst f;exact fun e=>l e.symm)]
 ·simp at d;subst d;exact ⟨s,t,u.congr fun x=>(zcC (fun z f=>by cases f)).symm⟩
def zsA (O:List (Int×Bool))(D:List Nat)(x:Int):Bool:=D.any fun i=>(O[i]?.map (·.1))==some x
theorem zdS (O:List (Int×Bool))(x:Int):zsA O [] x=false:=rfl
variable{O:List (Int×Bool)}{D:List Nat}{i:Nat}
theorem zcK {p:Int×Bool}(b:O[i]? =some p)(x:Int):zsA O (D++[i]) x=(decide (p.1=x)||zsA O D x):=by unfold zsA;rw [Af,jI];simp [b,or_comm]
theorem zeJ (h:zbi O A)(d:∀ i p,O[i]? =some p->i∈D)(x:Int):zsA O D x=A x:=by
 rw [jI,h.key];unfold zsA;rw [jD];constructor
 ·rintro ⟨i,_,b⟩
  cases f:O[i]? with
  | none=>rw [f] at b;simp at b
  | some p=>rw [f] at b;simp at b;exact jt.2 ⟨p,je f,b⟩
 ·intro f;obtain ⟨p,g,rfl⟩:=jt.1 f;obtain ⟨i,b⟩:=jU g;exact ⟨i,d i p b,by rw [b];simp⟩
theorem zeg (hP:SlP I av n c ps)(hn:n<=100000)(hL:Lst ps)(b4:∀ p∈ps,p.n<=100000):kg 89 [.slice av n c] I [] (fun v F L=>L=[]/\∃ r,v= .map (some r)/\OnM F r ps):=by
 intro g H w hw;refine qe Tryz.func89 Tryz.ntmps89 hw ?_;have Q:=zJH I;refine zR (zA<|zN (zR<|Yb U U (fun f=>zA (zN (Qk (zR ?_))))));refine zM ?_;refine zQ QV ?_;refine zM<|zN<|Ql ?_;refine zU [(3,_),(11,_),(12,_)] (fun T L0 K E F d=>∃ (k:Nat) (m:List (Int×Nat)),K=n-k/\E=(13,.int .i64 k)::T/\HLe I F/\[(f,Yg (Value.int .i64) zfA m)]=d/\k<=n/\OnL F m (ps.take k)) ?_ (h:=⟨0,[],U,U,zJH _,U,jd _,OnL.nil⟩);rintro K E J1 d ⟨k,m,rfl,rfl,hJ,rfl,hk,hm⟩;have hP:=hP.mono hJ;have Q:=Q.trans hJ;have P:=hJ;refine zR<|zC<|zN<|Qk ?_;refine zI ?_ ?_<;>intro u
 ·have a1:k<n:=kd u;have b9:=hP.1;obtain ⟨p,hp,hN⟩:=hP.at a1;have b7:=je hp;have hN:Sl J1 1 QF p.a p.n p.c p.needs:=hN;have c0:=b4 p b7;refine Qm (Qa (Qk (Ql (zR<|zV (Qs U U QV kE (fun hg=>kB))<|zV (Qo U YH (fun hg=>by exact zJI hP.1 hp) U)<|Qv WP U U (fun N=>?_)))));refine zh Km<|zN (zR<|Yb U U (fun l=>zA (zN (Qk (zR<|zF YD ?_)))))
  refine zL QA<|zQ Qt ?_
  refine zM<|zN<|Ql ?_;refine zU [(3,_),(5,_),(6,_),(11,_),(12,_),(13,_),(19,_),(20,_)] (fun T L0 K E F d=>∃ (j:Nat) (s:List (Int×Bool)),K=p.n-j/\E=(21,.int .i64 j)::T/\J1=F/\[(l,Yg (Value.int .i64) Value.bool s),(N,.cells (Y5 p).toArray 57 (0,0)),(f,Yg (Value.int .i64) zfA m)]=d/\j<=p.n/\zbi s (fun x=>(p.needs.take j).any fun n=>n==x||onF (ps.take k) n x)) ?_ (h:=⟨0,[],U,U,U,U,jd _,zbi.nil⟩);rintro K E F d ⟨j,s,rfl,rfl,rfl,rfl,hj,hs⟩;refine zR<|zC<|zN<|Qk ?_;refine zI ?_ ?_<;>intro z
  ·have a0:j<p.n:=kd z;obtain ⟨y,hy⟩:=hN.at a0;obtain ⟨M,a6,O,a2,b8⟩:=hm.get (hL.before hp (je hy));refine Qm (Qa (Qk (Ql (zR<|zV (Qs U U Qt kE (fun hg=>kB)) ?_))));refine zV (Qc U Qr (fun hg=>by exact zJA hN hy U))<|zA<|zN (zR ?_)
   refine zM ?_;refine zM<|Zd (m:=s) (ek:=Value.int .i64) (ev:=Value.bool) (a:=y) true JP ZZ U U U U (by repeat (first | exact Upd.here | apply Upd.there | apply QN))<|zN (zR ?_)
   refine zM ?_;refine zM<|zV (VF (m:=m) (ek:=Value.int .i64) (ev:=zfA) (a:=y) a6 We ZZ U U (fun _=>.inr kJ))<|KT (ek:=Value.int .i64) (ev:=Value.bool) (m:=O) U JP U U (.inl a2) (fun o=>zN (Ql<|zU [(3,_),(5,_),(6,_),(11,_),(12,_),(13,_),(19,_),(20,_),(21,_),(30,_)] (fun T L0 K E F d=>∃ (D:List Nat) (s:List (Int×Bool)),K=O.length-D.length/\E=T/\J1=F/\[(o,VS M O.length D),(l,Yg (Value.int .i64) Value.bool s),(N,.cells (Y5 p).toArray 57 (0,0)),(f,Yg (Value.int .i64) zfA m)]=d/\zbi s (fun x=>zsA O D x||(decide (y=x)||(p.needs.take j).any fun n=>n==x||onF (ps.take k) n x))/\D.Nodup/\∀ i∈D,i<O.length) ?_ (h:=⟨[],_,U,U,U,U,(hs.put y).congr (fun x=>by rw [zdS,Ai]),.nil,fun i h=>by cases h⟩)))
   rintro K E F d ⟨D,s,rfl,rfl,rfl,rfl,hs,G,a7⟩;have c1:=KH G a7;refine zR<|KP (ek:=Value.int .i64) (ev:=Value.bool) (m:=O) (fun s'=>[(o,VS M O.length s'),(l,Yg (Value.int .i64) Value.bool s),(N,.cells (Y5 p).toArray 57 (0,0)),(f,Yg (Value.int .i64) zfA m)]) U (fun s'=>.here) U U U U U (.inl a2) kJ ?_
   intro t tv s' b5 a9;refine zN<|Qk ?_;refine zI ?_ ?_<;>intro B
   ·obtain ⟨i,q,hq,b6,rfl⟩:=a9 B;refine Qm (Qa (Ql (zR<|zV (KX (ek:=Value.int .i64) (ev:=Value.bool) (m:=O) (p:=q) (seen:=D) (i:=i) U (.inl a2) (.inr kJ) hq)<|zE ?_)));refine zA<|zN<|Qh ?_;refine zM ?_;refine zM<|Zd (m:=s) (ek:=Value.int .i64) (ev:=Value.bool) (a:=q.1) true JP ZZ U U U U (by repeat (first | exact Upd.here | apply Upd.there | apply QN))<|Qe (Qg ?_)
    have J:(D++[i]).Nodup:=Ae.2 ⟨G,by simp,fun a ha b hb e=>b6 (by simp at hb;subst hb;subst e;exact ha)⟩;have C:∀ j∈D++[i],j<O.length:=fun j hj=>(jC.1 hj).elim (a7 j) (fun h=>by simp at h;subst h;exact (jc.1 hq).1);have a8:=KH J C;rw [jj,jv] at a8;exact zm (h:=⟨O.length-(D++[i]).length,by rw [jj,jv];omega,D++[i],_,U,U,U,U,(hs.put q.1).congr (fun x=>by rw [zcK hq,AU]),J,C⟩)
   obtain ⟨rfl,a5⟩:=b5 B;refine Qy (Qf (Qf (Qj (Qg (Qa (Qh (zB<|zM (Qe ?_))))))));exact zm (h:=⟨p.n-(j+1),kB,j+1,_,U,U,U,U,kB,hs.congr (fun x=>by rw [zbI hy,zeJ b8 a5 x];rw [jI];simp;grind)⟩)
  have W:p.n<=j:=kd z;refine Qy (Qf (Qf (Qj (Qa<|Zk .here (fun I4 a4 b2=>?_)))));have hm:=hm.mono a4;have P:=P.trans a4;have b3:=b2;refine Qh (zM<|zF Zq ?_);refine zL Qr<|zM<|Zd (m:=m) (ek:=Value.int .i64) (ev:=zfA) (a:=p.id) l We ZZ U U U U (by repeat (first | exact Upd.here | apply Upd.there | apply QN))<|Qe (Qg (Qa (Qh (zB<|zM (Qe ?_)))))
  exact zm (h:=⟨n-(k+1),kB,k+1,_,U,U,P,U,kB,OnL.step hL hp hm b3 (by rw [QZ hN.len W] at hs;exact hs)⟩)
 have Z:n<=k:=kd u;rw [QZ hP.len Z] at hm;refine Qy (Qf (Qf (Qj (Qa (zR (zM<|zA (zN (Qq ?_))))))));exact Zc U U (fun w hw=>by obtain ⟨I9,a3,b0,b1⟩:=hw.freezeAll;exact ⟨_,I9,[],U,Q.trans a3,b0,U,f,U,m,b1 _ _ kJ,hm.mono a3⟩)
theorem zih (x:Sg):(Kg [x]==0)=frm x:=by unfold Kg skB skP;cases h:frm x<;>simp [h]
theorem zi3 (a b c d x y:Bool):(((((a&&b)&&c)&&d)&&x)&&y)=(((a&&b)&&(c&&d))&&(x&&y)):=by simp only [OV]
theorem zuD (a b c d x y z:Bool):((((((a&&b)&&c)&&d)&&x)&&y)&&z)=(((a&&b)&&(c&&d))&&(x&&(y&&z))):=by simp only [OV]
theorem zwB (I:Qu)(x:Sg):kf 147 [VD x] I (.bool (frm x)):=by
 intro g H w o;refine qe Tryz.func147 Tryz.ntmps147 o ?_;have b:=zJH I;refine zR<|QU U U U (fun h=>zA<|zN (zR<|zV (Qo U QQ (fun hg=>by exact Cells.g0) U)<|zpb [(0,_)] [YA x] Vy (fun j=>Z5 .here (fun q d f=>?_))))
 have b:=b.trans d;have l:=Sl.lit [x] U Yp (show _=some (Obj.cells (([x]:List Sg).flatMap YA).toArray 54 (0,0)) from f);refine qcV (vs:=[_]) U zis (zkm l kC)<|zC<|zA (zN (Qq ?_))
 exact zp b U U (by rw [zih])
theorem zDl (p:Pt)(B:Nd I p):kf 86 [Wd p] I (.int .i64 (pchk p)):=by
 intro g H w hw;refine qe Tryz.func86 Tryz.ntmps86 hw ?_;have B:Sl I 1 QF p.a p.n p.c p.needs:=B;refine zR<|QU U U U (fun a3=>zA (zN (Qk (zR<|zF YD ?_))))
 refine zL QA<|zQ Qt<|zC (zN ?_)
 refine zI ?_ ?_<;>intro C
 ·have d:p.needs.length>32:=(by rw [B.len];simp at C;omega);exact zR (zA (zN (Qq (Qb<|zr U U (by rw [zuv d])))))
 have d:¬p.needs.length>32:=(by rw [B.len];simp at C;omega);have a5:p.n<=100000:=(by have:=B.len;omega);refine Qm (Qa (zR (zA (zN (Qk (zR<|zF YD ?_))))));refine zL QA<|zQ Qt ?_
 refine zM<|zN<|Ql ?_;refine zU [(1,_),(13,_),(14,_)] (fun T L0 mz E F P=>∃ (k:Nat) (l:Int),mz=p.n-k/\E=(3,.int .i64 l)::(15,.int .i64 k)::T/\I=F/\L0=P/\k<=p.n/\(List.range k).all (ndP p.id p.needs)=true/\zlh p.needs k l) ?_ (h:=⟨0,0,U,U,U,U,jd _,U,⟨fun _=>U,fun y hy h=>absurd U h⟩⟩);rintro mz E F P ⟨k,l,rfl,rfl,rfl,rfl,z,j,hl⟩;refine zR<|zC<|zN<|Qk ?_;refine zI ?_ ?_<;>intro G
 ·have u:k<p.n:=kd G;obtain ⟨x,W⟩:=B.at u;refine Qm (Qa (Qk (Ql (zR<|zV (Qs U U Qt kE (fun hg=>kB)) ?_))));refine zV (Qc U Qr (fun hg=>by exact zJA B W U))<|zA (zN (Qk (zR ?_)))
  refine zM ?_;refine zM<|zC ?_
  refine zM ?_;refine QI 3 U U U ?_;refine zJ (Qd U)<|zJ (Qi U Zq) ?_
  refine zJ (Qc U Qr (fun hg=>by exact QO.h0 U)) ?_;refine zJ (Qx U U U) ?_;refine Q5 U U U U U<|zN ?_
  refine zI ?_ ?_<;>intro J
  ·have f:ndB p.id p.needs=false:=(by unfold ndB;exact Y9 (k:=k) (by rw [B.len];exact u) (by rw [zDZ j hl W,J];rfl));exact zR (zA (zN (Qq (Qb (Qn (Qb (Qb<|Qn (Qb<|zr U U (by rw [zFd d f])))))))))
  refine Qm (Qa (Qh (zM<|zA (Qe (Qg (Qa (Qh<|zB<|zM (Qe ?_))))))));exact zm (h:=⟨p.n-(k+1),kB,k+1,_,U,U,U,U,kB,YT j (by rw [zDZ j hl W,J];rfl),zde W⟩)
 have Z:p.n<=k:=kd G;have f:ndB p.id p.needs=true:=(by unfold ndB;rw [B.len,show p.n=k by omega];exact j);refine Qy (Qf (Qf (Qj (Qa (zR<|zF Zq ?_)))));refine zL Qr<|zC ?_
 refine zM ?_;refine Qw 3 U U U ?_;refine zK (Qi U Zq) ?_;refine zK (Qc U Qr (fun hg=>by exact QO.h0 U))<|zK (Qx U U U) ?_
 refine QC U U U U U ?_;refine zM ?_;refine Qw 8 U U U ?_;refine zK (Qi U ZB) ?_;refine zK (Qc U Qr (fun hg=>by exact QO.h0 U))<|zK (Qx U U U) ?_
 refine QC U U U U U ?_;refine zM ?_;refine Qw 13 U U U ?_;refine zK (Qi U ZB) ?_;refine zK (Qc U Qr (fun hg=>by exact QO.h0 U))<|zK (Qx U U U) ?_
 refine QC U U U U U<|zA (zN (Qk (zR<|zF Yn ?_)))
 refine zL Qr<|zN (Ql (zR (zC<|zA (zN ?_))))
 refine zI ?_ ?_<;>intro K
 focus
  have z:p.kind=1:=(by simpa using K);refine Qk (zR<|zF YK ?_);refine zL Qr<|zC ?_
  refine zM ?_;refine QI 3 U U U ?_;refine zJ (Qi U YK) ?_;refine zJ (Qc U Qr (fun hg=>by exact QO.h0 U)) ?_;refine zJ (Qx U U U) ?_;refine Q5 U U U U U<|zN ?_
  refine zI ?_ ?_<;>intro t
  ·have o:(idB p&&UI p)=false:=zEq z (by unfold Za;simp at t ⊢;omega);exact zR (zA (zN (Qq (Qb (Qn (Qb<|zr U U (by rw [zfQ d f o])))))))
  have hf:isF p.field:=(by have h:=t;unfold isF;simp at h;omega);have Q:Za p.field 1 9=true:=(by have h:=t;unfold Za;simp at h ⊢;omega);refine Qm (Qa (zR<|zV (QK (ps:=[(1,_)]) [_,_] zdi U U)<|zV (QK (ps:=[(0,_),(1,_)]) [_,_] zdi U U)<|zV (QK (ps:=[(3,_),(4,_),(10,_),(11,_)]) [_,_,_,_,_,_,_,_,_,_,_,_,_,_] JI U U)<|Qv Kc U U (fun a4=>?_)));refine zh Zy<|zN (Qh (zM<|zM ?_))
  refine Qw 1 U U U ?_;refine zK (Qi U Yr)<|zK (Qo U QQ (fun hg=>by exact Cells.s1 (vs:=[_,_,_,_,_,_,_,_,_,_,_,_,_,_]) U) U)<|zK (Qi U YK) ?_
  refine zK (Qc U Qr (fun hg=>by exact QO.h1 U))<|zK (QK (ps:=[]) [_,_,_,_,_,_,_,_,_,_,_,_,_,_] JI U U)<|qg (vs:=[_,_,_]) U zqK (fun hg=>zEj I p.nw p.field Yc hf)<|zK (QK (ps:=[]) [_,_,_,_,_,_,_,_,_,_,_,_,_,_] JI U U)<|zK (Xa U U Um U)<|QC U U U U U ?_
  refine zM ?_;refine Qw 11 U U U<|zK (Qo U QQ (fun hg=>by exact Cells.g0) U)<|zK (Qi U YK) ?_
  refine zK (Qc U Qr (fun hg=>by exact QO.h1 U))<|zK (Qi U Yr)<|zK (Qo U QQ (fun hg=>by exact Cells.s1 (vs:=[_,_,_,_,_,_,_,_,_,_,_,_,_,_]) U) U)<|qg (vs:=[_,_,_]) U zqK (fun hg=>zEj I zdm p.field p.nw hf)<|qg (vs:=[_]) U zmo (fun hg=>zwB I _)<|QC U U U U U<|zA (Qe (Qg (Qa (Qk (zR<|zM<|zO (zN ?_))))))
  refine zI ?_ ?_<;>intro b
  ·have o:(idB p&&UI p)=false:=(by (exact (show (idB p&&UI p)=false from by rw [zxJ z Q];exact (zi3 _ _ _ _ _ _).symm.trans ((jZ _).mp b))));exact zR (zA (zN (Qq (Qb<|zr U U (by rw [zfQ d f o])))))
  have o:(idB p&&UI p)=true:=by (exact (show (idB p&&UI p)=true from by rw [zxJ z Q];exact (zi3 _ _ _ _ _ _).symm.trans ((OC _).mp b)))
 rotate_left
 have a0:p.kind≠1:=(by simpa using K);refine zR (zC<|zA (zN ?_));refine zI ?_ ?_<;>intro N
 focus
  have z:p.kind=2:=(by simpa using N);refine Qh (zM<|zM ?_);refine Qw 1 U U U ?_;refine zK (Qi U YK) ?_;refine zK (Qc U Qr (fun hg=>by exact QO.h0 U))<|zK (Qx U U U) ?_
  refine QC U U U U U ?_;refine zM ?_;refine Qw 6 U U U ?_;refine zK (Qi U Yr)<|zK (Qi U Zu) ?_
  refine zK (Qc U Qr (fun hg=>by exact QO.h0 U))<|zK (Qi U ZB) ?_
  refine zK (Qc U Qr (fun hg=>by exact QO.h0 U))<|zK (Qx U U U) ?_
  refine QC U U U U U ?_;refine zM ?_;refine Qw 14 U U U ?_;refine zK (Qi U Yr)<|zK (Qo U QQ (fun hg=>by exact Cells.s0 (vs:=[_,_,_,_,_,_,_,_,_,_,_,_,_,_]) U) U)<|qg (vs:=[_]) U zmo (fun hg=>zwB I _)<|QC U U U U U<|zA (Qe (Qg (Qa (Qk (zR<|zM<|zO (zN ?_))))))
  refine zI ?_ ?_<;>intro b
  ·have o:(idB p&&UI p)=false:=(by (exact (show (idB p&&UI p)=false from by rw [zyH z];exact (zuD _ _ _ _ _ _ _).symm.trans ((jZ _).mp b))));exact zR (zA (zN (Qq (Qb<|zr U U (by rw [zfQ d f o])))))
  have o:(idB p&&UI p)=true:=by (exact (show (idB p&&UI p)=true from by rw [zyH z];exact (zuD _ _ _ _ _ _ _).symm.trans ((OC _).mp b)))
 rotate_left
 have a1:p.kind≠2:=(by simpa using N);refine zR (zC<|zA (zN ?_));refine zI ?_ ?_<;>intro q
 focus
  have z:p.kind=3:=(by simpa using q);refine Qh (zM<|zM ?_);refine Qw 1 U U U ?_;refine zK (Qi U YK) ?_;refine zK (Qc U Qr (fun hg=>by exact QO.h0 U))<|zK (Qx U U U) ?_
  refine QC U U U U U ?_;refine zM ?_;refine Qw 6 U U U ?_;refine zK (Qi U Yr)<|zK (Qo U QQ (fun hg=>by exact Cells.s0 (vs:=[_,_,_,_,_,_,_,_,_,_,_,_,_,_]) U) U)<|zK (QK (ps:=[]) [_,_,_,_,_,_,_,_,_,_,_,_,_,_] JI U U)<|zK (Xa U U Um U)<|QC U U U U U<|zA (Qe (Qg (Qa (Qk (zR<|zM<|zO (zN ?_))))))
  refine zI ?_ ?_<;>intro b
  ·have o:(idB p&&UI p)=false:=(by (exact (show (idB p&&UI p)=false from by rw [zxX z];exact (zi3 _ _ _ _ _ _).symm.trans ((jZ _).mp b))));exact zR (zA (zN (Qq (Qb<|zr U U (by rw [zfQ d f o])))))
  have o:(idB p&&UI p)=true:=by (exact (show (idB p&&UI p)=true from by rw [zxX z];exact (zi3 _ _ _ _ _ _).symm.trans ((OC _).mp b)))
 rotate_left
 have a2:p.kind≠3:=(by simpa using q);refine Qh (zA (Qe (Qg (Qa (Qk (zR<|zM<|zO (zN ?_)))))));refine zI ?_ ?_<;>intro b
 ·have o:(idB p&&UI p)=false:=(by exact zGH a0 a1 a2);exact zR (zA (zN (Qq (Qb<|zr U U (by rw [zfQ d f o])))))
 have o:(idB p&&UI p)=true:=by (exfalso;have h:=b;simp at h)
 all_goals
  exact Qm (Qa (zR (zA (zN (Qq<|zr U U (by rw [zjP d f o]))))))
variable{Z:Nat}{cap:List Value}
theorem zHt (o:Sl I 1 QF av n c xs)(G:n<=100000){P:Int->Bool}(hF:ke Z)(z:∀ x∈xs,kf Z ([.int .i64 x]++cap) I (.bool (P x))):kf 148 [.slice av n c,.func (.func Z) #[] cap.toArray] I (.int .i64 (KA P xs)):=by
 intro g H w B;refine qe Tryz.func148 Tryz.ntmps148 B ?_;have o:=o;refine zR<|zA<|zN<|Qk<|zR ?_;refine zM ?_;refine zQ Qt ?_;refine zM<|zN<|Ql ?_;refine zU [(0,_),(1,_),(7,_)] (fun T y u E F d=>∃ (k:Nat),u=n-k/\E=(8,.int .i64 k)::T/\I=F/\y=d/\k<=n/\(xs.take k).any P=false) ?_ (h:=⟨0,U,U,U,U,jd _,U⟩);rintro u E F d ⟨k,rfl,rfl,rfl,rfl,C,l⟩;refine zR<|zC<|zN<|Qk ?_;refine zI ?_ ?_<;>intro q
 ·have j:k<n:=kd q;obtain ⟨x,t⟩:=o.at j;refine Qm (Qa (Qk (Ql (zR (zM<|zA<|zN (zR ?_))))));refine zM ?_;refine zM ?_;refine zM ?_;refine zV (Qs U U Qt kE (fun hg=>kB)) ?_;refine zV (Qc U Qr (fun hg=>by exact zJA o t U))<|YE (cap:=cap) (vs:=[_]) U U hF (z x (je t)) U U<|zN ?_
  refine zI ?_ ?_<;>intro b
  ·refine zR (zM<|zA (zN (Qq (Qn (Qb (Qb (Qn (Qb ?_))))))));exact zr U U (by rw [V5 l t b])
  exact Qm (Qg (Qa (Qh (zB<|zM (Qe<|zm (h:=⟨n-(k+1),kB,k+1,U,U,U,U,kB,Z3 t l b⟩))))))
 have f:n<=k:=kd q;exact Qy (Qf (Qf (Qj (Qa (zR (zA (zN<|Qq<|zr U U (by rw [VG o.len f l]))))))))
theorem zCk (b:Sl I 1 QF av n c xs)(f:n<=100000){P:Int->Bool}(hF:ke Z)(d:∀ x∈xs,kf Z ([.int .i64 x]++cap) I (.bool (P x))):kf 87 [.slice av n c,.func (.func Z) #[] cap.toArray] I (.bool (xs.any P)):=by
 intro g H w h;refine qe Tryz.func87 Tryz.ntmps87 h ?_;refine zR (zA<|zN (zR ?_));refine zM ?_;refine zM ?_;refine qcV (vs:=[_,_]) U zpI (zHt b f hF d)<|zC<|zA (zN (Qq ?_))
 exact zr U U (by rw [<-Ut])
variable{P:Pt->Bool}
theorem zFz (z:SlP I av n c ps)(J:n<=100000)(hF:ke Z)(B:∀ x∈ps,kf Z ([Wd x]++cap) I (.bool (P x))):kf 169 [.slice av n c,.func (.func Z) #[] cap.toArray] I (.int .i64 (KA P ps)):=by
 intro g H w C;refine qe Tryz.func169 Tryz.ntmps169 C ?_;have t:=z.1;refine zR<|zA<|zN<|Qk<|zR ?_;refine zM ?_;refine zQ QV ?_;refine zM<|zN<|Ql ?_;refine zU [(0,_),(1,_),(7,_)] (fun T y u E F d=>∃ (k:Nat),u=n-k/\E=(8,.int .i64 k)::T/\I=F/\y=d/\k<=n/\(ps.take k).any P=false) ?_ (h:=⟨0,U,U,U,U,jd _,U⟩);rintro u E F d ⟨k,rfl,rfl,rfl,rfl,G,l⟩;refine zR<|zC<|zN<|Qk ?_;refine zI ?_ ?_<;>intro o
 ·have j:k<n:=kd o;obtain ⟨x,q⟩:=t.at j;refine Qm (Qa (Qk (Ql (zR (zM<|zA<|zN (zR ?_))))));refine zM ?_;refine zM ?_;refine zM ?_;refine zV (Qs U U QV kE (fun hg=>kB))<|zV (Qo U YH (fun hg=>by exact zJI t q) U)<|YE (cap:=cap) (vs:=[_]) U U hF (B x (je q)) U U<|zN ?_
  refine zI ?_ ?_<;>intro b
  ·refine zR (zM<|zA (zN (Qq (Qn (Qb (Qb (Qn (Qb ?_))))))));exact zr U U (by rw [V5 l q b])
  exact Qm (Qg (Qa (Qh (zB<|zM (Qe<|zm (h:=⟨n-(k+1),kB,k+1,U,U,U,U,kB,Z3 q l b⟩))))))
 have f:n<=k:=kd o;exact Qy (Qf (Qf (Qj (Qa (zR (zA (zN<|Qq<|zr U U (by rw [VG t.len f l]))))))))
theorem zDB (b:SlP I av n c ps)(f:n<=100000)(hF:ke Z)(d:∀ x∈ps,kf Z ([Wd x]++cap) I (.bool (P x))):kf 116 [.slice av n c,.func (.func Z) #[] cap.toArray] I (.bool (ps.any P)):=by
 intro g H w h;refine qe Tryz.func116 Tryz.ntmps116 h ?_;refine zR (zA<|zN (zR ?_));refine zM ?_;refine zM ?_;refine qcV (vs:=[_,_]) U zeU (zFz b f hF d)<|zC<|zA (zN (Qq ?_))
 exact zr U U (by rw [<-Ut])
theorem zIw {b:Nat}(d:I b=some (.cells #[.map (some r)] 167 (0,0)))(f:I r=some (Yg (Value.int .i64) Value.bool s))(x:Int):kf 88 [.int .i64 x,.pointer (some ⟨b,0,none⟩)] I (.bool (!zjt s x)):=by intro g H w h;refine qe Tryz.func88 Tryz.ntmps88 h ?_;refine zR (zA<|zN (zR<|zV (Qc U znl (fun hg=>by exact .imm d U))<|zM<|zV (Y3 JP ZZ U U (fun _=>.inl f))<|zO<|zA (zN (Qq ?_))));exact zr U U kL
def zxH (ps:List Pt):List Int:=ps.map (·.id)
def lsQ (ps:List Pt)(i:Nat):Bool:= !((decide ((i:Int)>0)&&decide ((ps.getD i WL).id<=(ps.getD ((i:Int)-1).toNat WL).id))||(ps.getD i WL).needs.any (fun n=> !X7 (ps.take i) n))
theorem zud {l:Int}(d:ps[k]? =some p)(h1:1<=p.id)(b:zlh (zxH ps) k l)(g:∀ x,zjt s x=X7 (ps.take k) x):lsQ ps k= !(decide (p.id<=l)||p.needs.any fun x=> !zjt s x):=by
 unfold lsQ;rw [QJ d];simp only [g];congr 2
 cases k with
 | zero=>
  rw [b.1 rfl,jI];simp;omega
 | succ k=>
  have h:=(jc.1 d).1;have f:ps[k]? =some (ps[k]' kB):=jf _;have e:=b.2 (ps[k]' kB).id (by rw [AH];simp [zxH,f]) kB;rw [show (((k+1:Nat):Int)-1).toNat=k by omega,QJ f,<-e,jI];simp
theorem zlb (b:ps[k]? =some p):zlh (zxH ps) (k+1) p.id:=zde (by simp [zxH,b])
theorem zri (b:ps[k]? =some p)(x:Int):X7 (ps.take (k+1)) x=(decide (p.id=x)||X7 (ps.take k) x):=by unfold X7;rw [Z0 b,Af,jI];simp [or_comm]
theorem zrB {n:Int}(h:X7 (ps.take k) n=true):X7 ps n=true:=by obtain ⟨q,b,e⟩:=JY.1 h;exact JY.2 ⟨q,Au b,e⟩
theorem zpP (h0:orF (ps.map pchk)=0):(List.range ps.length).all (lsQ ps)=lsB ps:=by
 rw [jI];constructor
 ·intro h;unfold lsB;rw [jk] at h ⊢;intro i d;have:=h i d;unfold lsQ at this;unfold lsP;simp only [jZ,jS] at this ⊢;refine ⟨this.1,?_⟩;have h2:=this.2;rw [jL] at h2 ⊢;intro n f b;refine h2 n f ?_;rw [jZ] at b ⊢
  cases g:X7 (ps.take i) n with
  | false=>rfl
  | true=>rw [zrB g] at b;cases b
 ·intro h;have hL:=zjw h0 h;unfold lsB at h;rw [jk] at h ⊢;intro i d;have:=h i d;unfold lsP at this;unfold lsQ;simp only [jZ,jS] at this ⊢;refine ⟨this.1,?_⟩;rw [jL];intro n f b;have j:ps[i]? =some (ps.getD i WL):=QE U (jq.1 d);obtain ⟨q,l,e⟩:=hL.before j f;rw [JY.2 ⟨q,l,e⟩] at b;cases b
def Kt (k:Int)(ps:List Pt)(s:Int):List Int:=(ps.filter fun q=>q.kind==k&&q.sign==s).map (·.id)
theorem WE {c:Int}(d:ps[k]? =some p)(s:Int):Kt c (ps.take (k+1)) s=Kt c (ps.take k) s++(if p.kind=c/\p.sign=s then [p.id] else []):=by
 unfold Kt;rw [Z0 d,jH,Od];congr 1;by_cases h:p.kind=c/\p.sign=s
 ·rw [jb h];simp [h.1,h.2]
 ·rw [ja h]
  have:(p.kind==c&&p.sign==s)=false:=by
   rw [Aw];intro b;simp at b;exact h b
  simp [this]
theorem XU {c:Int}{s:Int}:x∈Kt c ps s↔ ∃ q∈ps,q.kind=c/\q.sign=s/\q.id=x:=by unfold Kt;rw [zd8];simp [and_assoc]
def zkP (mi:List (Int×Int))(ps:List Pt):Prop:=∀ s,Kt 2 ps s=(ZR mi s).toList
theorem zkP.nil :zkP [] (ps.take 0):=fun s=>by simp [Kt,ZR]
variable{mi:List (Int×Int)}
theorem zkP.put (h:zkP mi (ps.take k))(f:ps[k]? =some p)(b:p.kind=2)(d:ZR mi p.sign=none):zkP (Vd mi p.sign p.id) (ps.take (k+1)):=fun s=>by
 rw [WE f,h s,Vv];by_cases e:p.sign=s
 ·subst e;rw [jb ⟨b,U⟩,jb rfl,d];rfl
 ·rw [ja (fun q=>e q.2),ja e,jw]
theorem zkP.skip (h:zkP mi (ps.take k))(d:ps[k]? =some p)(b:p.kind≠2):zkP mi (ps.take (k+1)):=fun s=>by
 rw [WE d,h s,ja (fun q=>b q.1),jw]
def zaS (K:List (Int×(Value×Nat×List Value)))(ps:List Pt):Prop:=∀ s,((ZR K s).getD Kj).2.2=(Kt 3 ps s).flatMap QF
theorem zaS.nil :zaS [] (ps.take 0):=fun s=>by simp [Kt,ZR,Kj]
variable{K:List (Int×(Value×Nat×List Value))}
theorem zaS.put (h:zaS K (ps.take k))(d:ps[k]? =some p)(b:p.kind=3):zaS (Vd K p.sign (v,n,((ZR K p.sign).getD Kj).2.2++[p.id].flatMap QF)) (ps.take (k+1)):=fun s=>by
 rw [WE d,Vv];by_cases e:p.sign=s
 ·subst e;rw [jb rfl,jb ⟨b,U⟩,jh,<-h];rfl
 ·rw [ja e,ja (fun q=>e q.2),jw,h s]
theorem zaS.skip (h:zaS K (ps.take k))(d:ps[k]? =some p)(b:p.kind≠3):zaS K (ps.take (k+1)):=fun s=>by
 rw [WE d,h s,ja (fun q=>b q.1),jw]
theorem zb2 {c:Int}{s:Int}:(Kt c ps s).length<=ps.length:=by unfold Kt;rw [ju];exact jE _ _
variable{e:Nat}
theorem zwA {L:Go.Kn.Loc}(h:zaS K ps)(j:Z6 e 1 (K.map (·.2)) L)(l:∀ b o,(b,o)∈L->I b=some o)(s:Int):
  ∃ av c,((ZR K s).getD Kj).1= .slice av (Kt 3 ps s).length c/\Sl I 1 QF av (Kt 3 ps s).length c (Kt 3 ps s):=by
 obtain ⟨A,u,B,rfl,g,_⟩:=j.at s;rw [h s] at g;obtain ⟨av,c,f,d⟩:=g.sl QL kC (fun b o q=>l b o (by simp [q]));have t:=d.len;rw [<-t] at f d;exact ⟨av,c,f,d⟩
theorem zwq {s:Int}{L:Go.Kn.Loc}(h:zaS K ps)(b:OwnS e 1 ((ZR K s).getD Kj).1 ((ZR K s).getD Kj).2.1 ((ZR K s).getD Kj).2.2 L):((ZR K s).getD Kj).2.1<=ps.length:=by have h1:=b.1;rw [h s,zJc] at h1;have h2:=zb2 (c:=3) (ps:=ps) (s:=s);omega
theorem zpf {x y:Nat×Obj}{A L B:Go.Kn.Loc}:(x::y::(A++(L++B))).Perm (L++(x::y::(A++B))):=Ox (x::y::A) L B
def tgP (ps:List Pt)(p:Pt):Bool:= !(((Kt 2 ps p.sign).any fun i=>p.id != i&& !onF ps p.id i)||(Kt 3 ps p.sign).any (onF ps p.id))
theorem zmh (hL:Lst ps)(l:zkP mi ps):zkU ps=ps.all (tgP ps):=by
 unfold zkU;rw [jI,jk,jk];refine forall_congr' fun p=>forall_congr' fun t=>?_;unfold tgP;rw [jk];simp only [jZ,jS,jL,XU];constructor
 ·intro h;constructor
  ·rintro x ⟨q,j,h2,f,rfl⟩ g;have:=h q j;unfold zbr at this;rw [ja (by simpa using f.symm),jb h2] at this;simp at this g;rcases this with e | e
   ·exact g.1 e
   ·rw [g.2] at e;cases e.2
  ·rintro x ⟨q,j,h3,f,rfl⟩ g;have:=h q j;unfold zbr at this;rw [ja (by simpa using f.symm),ja kB,jb h3] at this;simp at this;rcases this with e | e
   ·rw [e,hL.on_irr] at g;cases g
   ·rw [e] at g;cases g
 ·rintro ⟨h1,h2⟩ q j;unfold zbr;by_cases f:p.sign=q.sign
  ·rw [ja (by simpa using f)];by_cases e:p.id=q.id
   ·simp [e]
   ·by_cases k2:q.kind=2
    ·rw [jb k2];have:=h1 q.id ⟨q,j,k2,f.symm,U⟩
     have o:p.kind≠2:=fun k=>e (by
      have b:=XU.2 ⟨p,t,k,U,U⟩;have d:=XU.2 ⟨q,j,k2,f.symm,U⟩;rw [l p.sign] at b d
      cases hg:ZR mi p.sign with
      | none=>rw [hg] at b;cases b
      | some z=>rw [hg] at b d;simp at b d;rw [b,d])
     simp [e] at this;simp [this,o]
    ·rw [ja k2];by_cases k3:q.kind=3
     ·rw [jb k3];have:=h2 q.id ⟨q,j,k3,f.symm,U⟩;simp at this;simp [this]
     ·rw [ja k3];simp
  ·rw [jb f];simp
variable{C:Int}
theorem zz2 (hL:Lst ps)(h:zkP mi (ps.take k))(d:ps[k]? =some p)(g:p.kind=2)(o:ZR mi p.sign=some C):zkU ps=false:=by have l:C∈Kt 2 (ps.take k) p.sign:=(by rw [h,o];simp);obtain ⟨q,f,k2,t,rfl⟩:=XU.1 l;have j:=hL.fresh d q f;unfold zkU;rw [Aw];intro b;rw [jk] at b;have h1:=b p (je d);rw [jk] at h1;have h2:=h1 q (Au f);unfold zbr at h2;rw [ja (by simpa using t.symm),jb k2] at h2;simp [g] at h2;omega
theorem zu0 (b:zkP mi ps):((ZR mi p.sign).isSome&&(p.id != (ZR mi p.sign).getD 0)&& !onF ps p.id ((ZR mi p.sign).getD 0))=((Kt 2 ps p.sign).any fun i=>p.id != i&& !onF ps p.id i):=by
 rw [b p.sign]
 cases ZR mi p.sign with
 | none=>rfl
 | some x=>simp
theorem zwd (h:ps.length>512):JL ps=2:=by unfold JL;rw [jb h]
theorem zvn (h:¬ps.length>512)(b:ps[k]? =some p)(h0:orF ((ps.take k).map pchk)=0)(h1:pchk p≠0):JL ps=pchk p:=by have:orF (ps.map pchk)=pchk p:=zsh (k:=k) (by simp [b]) (by rw [<-List.map_take];exact h0) h1;unfold JL;rw [ja h,this,jb h1]
theorem zuR (h:¬ps.length>512)(h0:orF (ps.map pchk)=0)(h1:lsB ps=false):JL ps=380:=by unfold JL;rw [ja h,ja kB,h1];rfl
theorem ziV (h:¬ps.length>512)(h0:orF (ps.map pchk)=0)(h1:lsB ps=true)(h2:zkU ps=false):JL ps=380:=by unfold JL;rw [ja h,ja kB,h1,h2];rfl
theorem zvT (h:¬ps.length>512)(h0:orF (ps.map pchk)=0)(h1:lsB ps=true)(h2:zkU ps=true):JL ps=0:=by unfold JL;rw [ja h,ja kB,h1,h2];rfl
theorem znW (d:ps[k]? =some p)(h0:orF ((ps.take k).map pchk)=0)(h1:pchk p=0):orF ((ps.take (k+1)).map pchk)=0:=by
 rw [KV] at h0 ⊢;intro x b;rw [Z0 d,Od,jC] at b;rcases b with b | b
 ·exact h0 x b
 ·simp at b;rw [b,h1]
theorem ztz (h:pchk p=0):1<=p.id/\p.id<=1048576/\0<=p.sign/\p.sign<=1048576/\p.needs.length<=32:=by
 unfold pchk at h;split at h
 ·cases h
 ·split at h
  ·rename_i h1 h2;simp only [ji] at h2;have h3:=h2.2.1;unfold idB at h3;simp at h3;omega
  ·cases h
theorem zBg (d:SlP I av n c ps)(f:∀ p∈ps,pchk p=0):∀ p∈ps,p.n<=100000:=fun p b=>by
 have h1:Sl I 1 QF p.a p.n p.c p.needs:=d.2 p b;have h2:=f p b;have h3:=h1.len;unfold pchk at h2;split at h2
 ·cases h2
 ·omega
theorem zg4 (b:SlP I av n c ps)(h:JL ps=0):∀ p∈ps,p.n<=100000:=zBg b fun p d=>KV.1 (U1 h).2.1 _ (jt.2 ⟨p,d,U⟩)
theorem zvm (J:SlP I av n c ps)(hn:n<=100000):kf 48 [.slice av n c] I (.int .i64 (JL ps)):=by
 intro g H w hw;refine qe Tryz.func48 Tryz.ntmps48 hw ?_;have G:=zJH I;refine zR<|zA<|zN<|Qk<|zR ?_;refine zM ?_;refine zQ QV<|zC (zN ?_)
 refine zI ?_ ?_<;>intro b6
 ·have z:ps.length>512:=(by rw [J.len];simp at b6;omega);exact zR (zA (zN (Qq (Qb<|zp G U U (by rw [zwd z])))))
 have z:¬ps.length>512:=(by rw [J.len];simp at b6;omega);refine Qm (Qa (Qk (zR (zM<|zQ QV ?_))));refine zM<|zN<|Ql ?_;refine zU [(0,_),(25,_),(26,_)] (fun T L0 mz E F d=>∃ (k:Nat) (e:Int),mz=n-k/\E=(27,.int .i64 k)::T/\I=F/\L0=d/\k<=n/\e=0/\orF ((ps.take k).map pchk)=0) ?_ (h:=⟨0,0,U,U,U,U,jd _,U,U⟩);rintro mz E F d ⟨k,e,rfl,rfl,rfl,rfl,hk,he,h0⟩;refine zR<|zC<|zN<|Qk ?_;refine zI ?_ ?_<;>intro b7
 ·have f:k<n:=kd b7;have a1:=J.1;obtain ⟨p,t,hN⟩:=J.at f;have W:=je t;have hN:Sl I 1 QF p.a p.n p.c p.needs:=hN;refine Qm (Qa (Qk (Ql (zR<|zV (Qs U U QV kE (fun hg=>kB))<|zV (Qo U YH (fun hg=>by exact zJI a1 t) U)<|Qv WP U U (fun i5=>?_)))));refine zh Km ?_;refine zN<|zR ?_;refine zV (Qo U YH (fun hg=>by exact Cells.g0) U) ?_;refine qcV (vs:=[_]) U zDK (zDl p hN) ?_;refine zA<|zN (zR ?_)
  refine zM<|zC (zN ?_)
  refine zI ?_ ?_<;>intro b8
  ·have q:JL ps=pchk p:=zvn z t h0 (by simpa using b8);exact zR (zM<|zA (zN (Qq (Qn (Qb (Qb (Qn (Qb<|zp G U U (by rw [q])))))))))
  have f0:pchk p=0:=(by simpa using b8);exact Qm (Qg (Qa (Qh (zB<|zM (Qe<|zm (h:=⟨n-(k+1),kB,k+1,_,U,U,U,U,kB,f0,znW t h0 f0⟩))))))
 have u:n<=k:=kd b7;have h0:orF (ps.map pchk)=0:=(by rw [QZ J.len u] at h0;exact h0);have hz:∀ p∈ps,pchk p=0:=fun p t=>KV.1 h0 _ (jt.2 ⟨p,t,U⟩);have b3:=zBg J hz;refine Qy (Qf (Qf (Qj (Qa (zR<|Yb U U (fun a0=>Qv zDc U U (fun a6=>?_)))))));refine zS zAY<|zA (zN (Qk (zR ?_)))
 refine zM ?_;refine zQ QV ?_;refine zM<|zN<|Ql ?_;refine zU [(0,_),(5,_),(38,_),(39,_)] (fun T L0 mz E F d=>∃ (k:Nat) (l:Int) (s:List (Int×Bool)),mz=n-k/\E=(6,.int .i64 l)::(40,.int .i64 k)::T/\I=F/\[(a6,.cells #[.map (some a0)] 167 (0,0)),(a0,Yg (Value.int .i64) Value.bool s)]=d/\k<=n/\(List.range k).all (lsQ ps)=true/\zlh (zxH ps) k l/\∀ x,zjt s x=X7 (ps.take k) x) ?_ (h:=⟨0,0,[],U,U,U,U,jd _,U,⟨fun _=>U,fun y hy h=>absurd U h⟩,fun x=>U⟩);rintro mz E F d ⟨k,l,s,rfl,rfl,rfl,rfl,hk,b5,hl,hs⟩;refine zR<|zC<|zN<|Qk ?_;refine zI ?_ ?_<;>intro b9
 ·have f:k<n:=kd b9;have a1:=J.1;obtain ⟨p,t,hN⟩:=J.at f;have W:=je t;have hN:Sl I 1 QF p.a p.n p.c p.needs:=hN;have d5:=b3 p W;have e9:=(ztz (hz p W)).1;refine Qm (Qa (Qk (Ql (zR<|zV (Qs U U QV kE (fun hg=>kB))<|zV (Qo U YH (fun hg=>by exact zJI a1 t) U)<|Qv WP U U (fun f5=>?_)))));refine zh Km<|zN (Qk (zR<|zF Zq ?_))
  refine zL Qr<|zM<|zC ?_
  refine zM ?_;refine QI 4 U U U ?_;refine zJ (Qi U YD) ?_;refine zJ (Qc U QA (fun hg=>by exact QO.h0 U))<|zJ (Zn (us:=[]) (vs:=[_]) U U)<|zlD (cap:=[]) (vs:=[_,_]) U U znr Zp (fun hg=>zk6.ofV fun F f6 e1=>zCk (cap:=[.pointer (some ⟨a6,0,none⟩)]) (hN.mono f6) d5 zFA (fun x _=>zIw (b:=a6) (r:=a0) (s:=s) (e1 a6 _ kJ) (e1 a0 _ kJ) x)) (.some U U U U gbf) U U<|Q5 U U U U U<|zN ?_
  refine zI ?_ ?_<;>intro c0
  ·have q:JL ps=380:=zuR z h0 (by rw [<-zpP h0];exact Y9 (k:=k) (by rw [J.len];exact f) (by rw [zud t e9 hl hs];exact jA (! ·) c0));exact zR (zA (zN (Qq (Qb (Qn (Qb (Qb<|Qn (Qb<|zp G U U (by rw [q])))))))))
  refine Qm<|Qa ?_;have N:=zJH I;refine VR<|ZM I [(f5,.cells (Y5 p).toArray 57 (0,0)),(a6,.cells #[.map (some a0)] 167 (0,0))] mixed<|zT 0 U (Qc U znl (fun hg=>by exact QO.h1 U)) N<|zT 1 U (Qi U Zq) N<|zT 2 U (Qc U Qr (fun hg=>by exact QO.h0 U)) N<|zT 3 U (Qi U Zq) N<|zT 4 U (Qc U Qr (fun hg=>by exact QO.h0 U)) N<|qd 5 U<|Zd (m:=s) (ek:=Value.int .i64) (ev:=Value.bool) (a:=p.id) true JP ZZ U U U U (by repeat (first | exact Upd.here | apply Upd.there | apply QN))<|Qe<|zD N<|zT 6 U (ZE U) N ?_
  refine QH kA<|QP<|Qg (Qa (Qh (zB<|zM (Qe ?_))))
  exact zm (h:=⟨n-(k+1),kB,k+1,_,_,U,U,U,U,kB,YT b5 (by rw [zud t e9 hl hs];exact jA (! ·) c0),zlb t,fun x=>by rw [zbz,hs,zri t]⟩)
 have u:n<=k:=kd b9;have b1:lsB ps=true:=(by rw [<-zpP h0,J.len,show n=k by omega];exact b5);have hL:Lst ps:=zjw h0 b1;refine Qy (Qf (Qf (Qj (Qa (zR (zM<|zpc [_] U zoR .nil (zeg J hn hL b3) ?_))))));rintro i8 I3 L3 e0 ⟨rfl,r9,rfl,c9⟩;have J:=J.mono e0;have G:=G.trans e0;refine zA<|zN (zR<|Yb U U (fun a3=>Yb U U (fun a4=>zA<|zA (zN (Qk (Qk ?_))))))
 refine Xh [(a4,Yg (Value.int .i64) zaO []),(a3,Yg (Value.int .i64) (Value.int .i64) [])] (by repeat (first | exact Wq | exact .refl | refine .keep ?_ | refine .drop ?_)) ?_;refine Qh (zM<|zQ QV ?_);refine zM<|zN<|Ql ?_;refine zU [(0,_),(9,_),(10,_),(11,_),(64,_),(65,_)] (fun T L0 mz E F d=>∃ (k:Nat) (mi:List (Int×Int)) (K:List (Int×(Value×Nat×List Value))) (L:Go.Kn.Loc),mz=n-k/\E=(66,.int .i64 k)::T/\I3=F/\(a4,Yg (Value.int .i64) zaO K)::(a3,Yg (Value.int .i64) (Value.int .i64) mi)::L=d/\k<=n/\zkP mi (ps.take k)/\zaS K (ps.take k)/\Z6 3 1 (K.map (·.2)) L) ?_ (h:=⟨0,[],[],[],U,U,U,U,jd _,zkP.nil,zaS.nil,Z6.nil⟩);rintro mz E F d ⟨k,mi,K,L,rfl,rfl,rfl,rfl,hk,Q,a5,a2⟩;refine zR<|zC<|zN<|Qk ?_;refine zI ?_ ?_<;>intro c1
 ·have f:k<n:=kd c1;have a1:=J.1;obtain ⟨p,t,hN⟩:=J.at f;have W:=je t;have hN:Sl I3 1 QF p.a p.n p.c p.needs:=hN;have d5:=b3 p W;refine Qm (Qa (Qk (Ql (zR<|zV (Qs U U QV kE (fun hg=>kB))<|zV (Qo U YH (fun hg=>by exact zJI a1 t) U)<|Qv WP U U (fun d7=>?_)))));refine zh Km<|zN (zR<|zF Yn ?_)
  refine zL Qr<|zN (Ql (zR (zC<|zA (zN ?_))))
  refine zI ?_ ?_<;>intro c3
  ·have e4:p.kind=2:=(by simpa using c3);refine Qk (zR (zM<|zF ZB ?_));refine zL Qr<|zV (Wh (m:=mi) (ek:=Value.int .i64) (a:=p.sign) Jz ZZ U U (fun _=>.inr kJ))<|zM ?_
   refine zE ?_;refine zE ?_;refine zA<|zA<|zN (zR ?_)
   refine zM<|zN ?_;refine zI ?_ ?_<;>intro c4
   ·obtain ⟨C,f8⟩:=OW.1 c4;have q:JL ps=380:=ziV z h0 b1 (zz2 hL Q t e4 f8);exact zR (zA (zN (Qq (Qb (Qn (Qn (Qb<|Qb (Qn (Qb<|zp G U U (by rw [q]))))))))))
   have d4:ZR mi p.sign=none:=(by simpa using c4);refine Qm (Qa (Qh (zM<|zF ZB ?_)));refine zL Qr<|zF Zq ?_
   exact zL Qr<|Zd (m:=mi) (ek:=Value.int .i64) (ev:=Value.int .i64) (a:=p.sign) p.id Jz ZZ U U U U (by repeat (first | exact Upd.here | apply Upd.there | apply QN))<|Qe (Qg (Qg (Qa (Qh (zB<|zM (Qe<|zm (h:=⟨n-(k+1),kB,k+1,_,_,_,U,U,U,U,kB,Q.put t e4 d4,a5.skip t kB,a2⟩)))))))
  have c7:p.kind≠2:=(by simpa using c3);refine zR (zC<|zA (zN ?_));refine zI ?_ ?_<;>intro c5
  ·have f9:p.kind=3:=(by simpa using c5);obtain ⟨A,Lt,B,rfl,e2,f2⟩:=a2.at p.sign;have hq:=zwq a5 e2;have i7:=Bh k ps;have N:=zJH I3;refine VR<|ZM I3 [(d7,.cells (Y5 p).toArray 57 (0,0))] mixed<|zT 0 U (Qd U) N<|zT 1 U (Qi U ZB) N<|zT 2 U (Qc U Qr (fun hg=>by exact QO.h0 U)) N<|zT 3 U (Qd U) N<|zT 4 U (Qi U ZB) N<|zT 5 U (Qc U Qr (fun hg=>by exact QO.h0 U)) N<|zT 7 U (Qi U Zq) N<|zT 8 U (Qc U Qr (fun hg=>by exact QO.h0 U)) N ?_
   refine Zv 6 9 U U kA ?_ ?_
   focus
    refine zV (JT (m:=K) (ek:=Value.int .i64) (a:=p.sign) Jf ZZ U U (fun _=>.inr kJ))<|Qe<|zD N<|qd 9 U<|zpb [(0,_)] [QF p.id] QS (fun d9=>?_)
   rotate_left
   refine zpb [(0,_)] [QF p.id] QS (fun d9=>Qe<|zD N<|qd 6 U<|zV (JT (m:=K) (ek:=Value.int .i64) (a:=p.sign) Jf ZZ U U (fun _=>.inr kJ)) ?_)
   all_goals
    refine Qe<|zD N<|qd 10 U<|zpa (_) ([p.id].flatMap QF) (Lt) U U QS e2 ⟨U,fun _=>U,zJF⟩ (YJ [p.id]) ?_
    intro v9 L9 f7 _;refine Qe<|zD N<|qd 11 U<|Zd (m:=K) (ek:=Value.int .i64) (ev:=zaO) (a:=p.sign) (v9,((ZR K p.sign).getD Kj).2.1+1,((ZR K p.sign).getD Kj).2.2++[p.id].flatMap QF) Jf ZZ U U U U (by repeat (first | exact Upd.here | apply Upd.there | apply QN))<|Qe<|zD N<|QH kA<|QP<|Qg (Qg (Qa (Qh (zB<|zM (Qe ?_)))))
    exact Vx _ _ (L9++((a4,_)::(a3,_)::(A++B))) ⟨n-(k+1),kB,k+1,_,_,A++(L9++B),U,U,U,U,kB,Q.skip t c7,a5.put t f9,f2 (v9,_,_) L9 f7⟩ kc zpf kH
  have e5:p.kind≠3:=(by simpa using c5);exact Qm (Qg (Qg (Qa (Qh (zB<|zM (Qe<|zm (h:=⟨n-(k+1),kB,k+1,_,_,_,U,U,U,U,kB,Q.skip t c7,a5.skip t e5,a2⟩)))))))
 have u:n<=k:=kd c1;rw [QZ J.len u] at Q a5;refine Qy (Qf (Qf (Qj (Qa (Qk (Qk<|Vz (fun I5 c8 d0=>?_)))))));have J:=J.mono c8;have c9:=c9.mono c8;have G:=G.trans c8;have e7:I5 a3=some (Yg (Value.int .i64) (Value.int .i64) mi):=d0 _ _ kJ;have e8:I5 a4=some (Yg (Value.int .i64) zaO K):=d0 _ _ kJ;have f1:=zwA a5 a2 (fun b o h=>d0 b o (by simp [h]));obtain ⟨m,e6,i0⟩:=c9;refine Qh (zM<|zQ QV ?_);refine zM<|zN<|Ql ?_;refine zU [(9,_),(10,_),(11,_),(101,_),(102,_)] (fun T L0 mz E F d=>∃ (k:Nat),mz=n-k/\E=(103,.int .i64 k)::T/\I5=F/\[]=d/\k<=n/\(ps.take k).all (tgP ps)=true) ?_ (h:=⟨0,U,U,U,U,jd _,U⟩);rintro mz E F d ⟨k,rfl,rfl,rfl,rfl,hk,d6⟩;refine zR<|zC<|zN<|Qk ?_;refine zI ?_ ?_<;>intro a7
 ·have f:k<n:=kd a7;have a1:=J.1;obtain ⟨p,t,hN⟩:=J.at f;have W:=je t;have hN:Sl I5 1 QF p.a p.n p.c p.needs:=hN;have d5:=b3 p W;obtain ⟨M,c6,O,f3,b4⟩:=i0.get ⟨p,W,U⟩;refine Qm (Qa (Qk (Ql (zR<|zV (Qs U U QV kE (fun hg=>kB))<|zV (Qo U YH (fun hg=>by exact zJI a1 t) U)<|Qv WP U U (fun d8=>?_)))));refine zh Km<|zN (Qk (zR (zM<|zF ZB ?_)))
  refine zL Qr<|zV (Wh (m:=mi) (ek:=Value.int .i64) (a:=p.sign) Jz ZZ U U (fun _=>.inl e7))<|zM ?_
  refine zE ?_;refine zE ?_;refine zA<|zA<|zN (zR ?_)
  refine zM ?_;refine zM ?_;refine Qw 1 U U U ?_;refine zK (Qi U Zq) ?_;refine zK (Qc U Qr (fun hg=>by exact QO.h0 U))<|zK (Qd U) ?_
  refine zK (Qx U U U) ?_;refine QC U U U U U ?_;refine zM ?_;refine Qw 7 U U U ?_;refine zK (Qd U)<|zK (Qi U Zq) ?_
  refine zK (Qc U Qr (fun hg=>by exact QO.h0 U))<|zK (VF (m:=m) (ek:=Value.int .i64) (ev:=zfA) (a:=p.id) c6 We ZZ U U (fun _=>.inl e6))<|zK (Qd U)<|zK (Y3 (m:=O) JP ZZ U U (fun _=>.inl f3))<|zK (ZT U)<|QC U U U U U<|zN ?_
  refine zI ?_ ?_<;>intro a8
  ·have hA:=a8;simp only [show ∀ x,(ZR O x).getD false=onF ps p.id x from fun x=>b4.mem x] at hA;have q:JL ps=380:=ziV z h0 b1 (by rw [zmh hL Q];exact zdF t (by unfold tgP;rw [<-zu0 Q,hA];rfl));exact zR (zA (zN (Qq (Qb (Qn (Qb (Qb<|Qn (Qb<|zp G U U (by rw [q])))))))))
  have hA:=a8;simp only [show ∀ x,(ZR O x).getD false=onF ps p.id x from fun x=>b4.mem x] at hA;refine Qm<|Qa<|Qk ?_;obtain ⟨i4,c2,i2,e3⟩:=f1 p.sign;have i3:=zb2 (c:=3) (ps:=ps) (s:=p.sign);have i6:=J.len;refine Qh (zM<|zF ZB ?_);refine zL Qr<|zV (Vs (m:=K) (ek:=Value.int .i64) (a:=p.sign) i2 Jf ZZ U U (fun _=>.inl e8))<|zQ Qt ?_
  refine zM<|zN<|Ql ?_;refine zU [(9,_),(10,_),(11,_),(17,_),(101,_),(102,_),(103,_),(133,_),(134,_)] (fun T L0 mz E F d=>∃ (j:Nat),mz=(Kt 3 ps p.sign).length-j/\E=(135,.int .i64 j)::T/\I5=F/\[(d8,.cells (Y5 p).toArray 57 (0,0))]=d/\j<=(Kt 3 ps p.sign).length/\((Kt 3 ps p.sign).take j).any (onF ps p.id)=false) ?_ (h:=⟨0,U,U,U,U,jd _,U⟩);rintro mz E F d ⟨j,rfl,rfl,rfl,rfl,hj,d3⟩;refine zR<|zC<|zN<|Qk ?_;refine zI ?_ ?_<;>intro a9
  ·have d2:j<(Kt 3 ps p.sign).length:=kd a9;obtain ⟨y,hy⟩:=e3.at d2;refine Qm (Qa (Qk (Ql (zR<|zV (Qs U U Qt kE (fun hg=>kB)) ?_))));refine zV (Qc U Qr (fun hg=>by exact zJA e3 hy U))<|zA<|zN (zR ?_)
   refine zM<|zF Zq ?_
   refine zL Qr<|zV (VF (m:=m) (ek:=Value.int .i64) (ev:=zfA) (a:=p.id) c6 We ZZ U U (fun _=>.inl e6))<|zM<|zV (Y3 (m:=O) JP ZZ U U (fun _=>.inl f3))<|zN ?_
   refine zI ?_ ?_<;>intro b0
   ·have b2:=b0;simp only [show ∀ x,(ZR O x).getD false=onF ps p.id x from fun x=>b4.mem x] at b2;have q:JL ps=380:=ziV z h0 b1 (by rw [zmh hL Q];exact zdF t (by unfold tgP;rw [YN hy b2,BE];rfl));exact zR (zA (zN (Qq (Qn (Qb (Qb (Qn<|Qn (Qb (Qb (Qn (Qb<|zp G U U (by rw [q]))))))))))))
   have b2:=b0;simp only [show ∀ x,(ZR O x).getD false=onF ps p.id x from fun x=>b4.mem x] at b2;exact Qm (Qg (Qa (Qh (zB<|zM (Qe<|zm (h:=⟨(Kt 3 ps p.sign).length-(j+1),kB,j+1,U,U,U,U,kB,Z3 hy d3 b2⟩))))))
  have d1:(Kt 3 ps p.sign).length<=j:=kd a9;rw [QZ rfl d1] at d3;have i1:tgP ps p=true:=(by unfold tgP;rw [<-zu0 Q,hA,d3];rfl);exact Qy (Qf (Qf (Qj (Qg (Qa (Qh (zB<|zM (Qe<|zm (h:=⟨n-(k+1),kB,k+1,U,U,U,U,kB,X9 t d6 i1⟩)))))))))
 have u:n<=k:=kd a7;have f4:zkU ps=true:=(by rw [zmh hL Q];rw [QZ J.len u] at d6;exact d6);exact Qy (Qf (Qf (Qj (Qa (zR (zA (zN<|Qq<|zp G U U (by rw [zvT z h0 b1 f4]))))))))
def zjH (e:Int)(xs:List Int):Value->Qu->Go.Kn.Loc->Prop:=fun v F L=>L=[]/\∃ av c,v= .tuple #[.slice av xs.length c,.int .i64 e]/\Sl F 1 QF av xs.length c xs
theorem zjH.empty {e:Int}(h:xs=[]):zjH e xs (.tuple #[.slice none 0 0,.int .i64 e]) I []:=by subst h;exact ⟨U,none,0,U,.nil⟩
theorem zjH.good {e b:Int}(h:e=b)(g:V=xs)(d:Sl I 1 QF av n c V):zjH b xs (.tuple #[.slice av n c,.int .i64 e]) I []:=by subst h;subst g;have f:=d.len;subst f;exact ⟨U,av,c,U,d⟩
def clE (ps:List Pt)(G:List Int):Int:=if G.length>512 then 2 else if chB ps G then 0 else 380
variable{G:List Int}
theorem zGa (h:G.length>512):clE ps G=2:=by unfold clE;rw [jb h]
theorem zAT (h:¬G.length>512)(h2:chB ps G=false):clE ps G=380:=by unfold clE;rw [ja h,h2];rfl
theorem zE4 (h:¬G.length>512)(h2:chB ps G=true):clE ps G=0:=by unfold clE;rw [ja h,h2];rfl
theorem zv7 (h:zzL G=false):chB ps G=false:=by unfold chB;rw [h];rfl
theorem zvh (b:G[k]? =some x)(h:X7 ps x=false):chB ps G=false:=by unfold chB;rw [zdF b h,OP]
theorem zwF (h:zzL G=true)(h2:G.all (X7 ps)=true):chB ps G=true:=by unfold chB;rw [h,h2];rfl
def zic (ps:List Pt)(G:List Int)(k:Nat)(Q:List Int)(S:Int->Bool):Prop:=∀ x,x∈Q↔(x∈G\/∃ n∈G.take k,onF ps n x=true)\/S x=true
theorem zic.start :zic ps G 0 G (fun _=>false):=fun x=>by simp
variable{Q:List Int}
theorem zic.put {S b:Int->Bool}(h:zic ps G k Q S)(e:∀ x,b x=(decide (a=x)||S x)):zic ps G k (Q++[a]) b:=fun x=>by
 rw [jC,h x,e x];simp only [jM,On,jG];constructor
 ·rintro (h | h)
  ·rcases h with h | h
   ·exact .inl h
   ·exact .inr (.inr h)
  ·exact .inr (.inl h.symm)
 ·rintro (h | h | h)
  ·exact .inl (.inl h)
  ·exact .inr h.symm
  ·exact .inl (.inr h)
theorem zic.next {S:Int->Bool}{n:Int}(h:zic ps G k Q S)(d:G[k]? =some n)(e:∀ x,S x=onF ps n x):zic ps G (k+1) Q (fun _=>false):=fun x=>by
 rw [h x,e x,Z0 d];simp only [jC,jM,jy,or_false];constructor
 ·rintro (h | h)
  ·rcases h with h | ⟨m,b,h⟩
   ·exact .inl h
   ·exact .inr ⟨m,.inl b,h⟩
  ·exact .inr ⟨n,.inr U,h⟩
 ·rintro (h | ⟨m,b | rfl,h⟩)
  ·exact .inl (.inl h)
  ·exact .inl (.inr ⟨m,b,h⟩)
  ·exact .inr h
theorem zic.congr {S b:Int->Bool}(h:zic ps G k Q S)(e:∀ x,S x=b x):zic ps G k Q b:=fun x=>by rw [h x,e x]
theorem ztL (hL:Lst ps)(h:zic ps G n Q (fun _=>false))(j:G.length=n)(b:G.all (X7 ps)=true):Lib.compact (Vf (Q++[]))=zfz ps G:=by
 rw [jw];refine za4 (Ws hL G) fun x=>?_;rw [h x,zaE,<-j,Al];simp only [jy,or_false];constructor
 ·rintro (g | ⟨m,d,f⟩)
  ·exact ⟨JY.1 (jk.1 b x g),x,g,.inl U⟩
  ·exact ⟨(hL.on_lt f).2,m,d,.inr f⟩
 ·rintro ⟨_,m,d,rfl | f⟩
  ·exact .inl d
  ·exact .inr ⟨m,d,f⟩
theorem zBX (hL:Lst ps)(h:zbi O (onF ps a)):O.length<=ps.length:=by
 have:=BF h.nodup (l₂:=zxH ps) (fun x d=>by
  obtain ⟨_,q,b,e⟩:=hL.on_lt (h.key.2 d)
  exact jt.2 ⟨q,b,e⟩)
 simpa [zxH] using this
theorem OnL.hit (h:OnL I m ps)(hg:ZR m a=some M):X7 ps a=true/\OnS I M (onF ps a):=by have d:=Ux hg;refine ⟨?_,h.2 _ d⟩;have b:a∈m.map (·.1):=jt.2 ⟨_,d,U⟩;rw [h.1] at b;obtain ⟨q,f,e⟩:=jt.1 b;exact JY.2 ⟨q,f,e⟩
theorem OnL.miss (h:OnL I m ps)(hg:ZR m a=none):X7 ps a=false:=by
 cases b:X7 ps a with
 | false=>rfl
 | true=>
  obtain ⟨M,h1,_⟩:=h.get (JY.1 b);rw [hg] at h1;cases h1
def vrE (ps:List Pt)(v:List Int):Int:=if v.length>512 then 2 else if X6 ps v then 0 else 380
variable{w:Int}
theorem zCj (hL:Lst ps){v:List Int}(h:w=(zjE (clE ps v) (zfz ps v)).length):(if ((clE ps v==0)&&(w != (v.length:Int)))=true then 380 else clE ps v)=vrE ps v:=by
 unfold vrE;by_cases h1:v.length>512
 ·rw [jb h1,zGa h1];rfl
 ·rw [ja h1]
  cases b:chB ps v with
  | false=>
   rw [zAT h1 b];unfold X6;rw [b];rfl
  | true=>
   rw [zE4 h1 b,zap rfl] at*;have h2:=zw0 hL b;subst h
   cases d:X6 ps v with
   | true=>
    rw [d] at h2;simp at h2;simp [h2]
   | false=>
    rw [d] at h2;simp at h2;rw [jb]
    ·rfl
    ·simp;omega
theorem zGE {a b:List Int}(h:JL ps=0)(h2:a.length>512\/b.length>512):zqR ps a b=2:=by unfold zqR;rw [ja kB,jb (by simpa using h2)]
theorem zdt {v:List Int}(h:vrE ps v=0):X6 ps v=true:=by
 unfold vrE at h;split at h
 ·cases h
 ·split at h
  ·assumption
  ·cases h
theorem zfD (x:Nat×Obj)(L:Go.Kn.Loc):(x::L).Perm (L++[x]):=(Ap (l₁:=L) (l₂:=[x])).symm
theorem zl8 (hP:SlP I av n c ps)(hn:n<=512)(hL:Lst ps)(d1:∀ p∈ps,p.n<=100000)(f:Sl I 1 QF bv Y c2 V)(d0:Y<=100000):kg 90 [.slice av n c,.slice bv Y c2] I [] (zjH (clE ps V) (zjE (clE ps V) (zfz ps V))):=by
 intro g H w W;refine qe Tryz.func90 Tryz.ntmps90 W ?_;have d:=zJH I;refine zR (zA<|zA (zN (Qk (zR ?_))));refine zM ?_;refine zQ Qt<|zC (zN ?_)
 refine zI ?_ ?_<;>intro a0
 ·have l:V.length>512:=(by rw [f.len];simp at a0;omega);refine zR (zA<|zA (zN (Qq (Qb ?_))))
  first
  | exact QY U U U (fun w W=>⟨_,I,[],U,d,W.drop,by rw [zGa l];exact zjH.empty U⟩)
 have l:¬V.length>512:=(by rw [f.len];simp at a0;omega);refine Qm (Qa (zR (zM<|zpc [_] U zoR .nil (zeg hP kB hL d1) ?_)));rintro e2 I1 L1 a8 ⟨rfl,r9,rfl,a9⟩;have hP:=hP.mono a8;have f:=f.mono a8;have d:=d.trans a8;refine zA<|zN (zR ?_)
 refine zM<|zpc [_] U zn5 .nil (zdU f kB) ?_
 rintro e3 I2 L2 N ⟨rfl,hO⟩;have hP:=hP.mono N;have f:=f.mono N;have a9:=a9.mono N;have d:=d.trans N;refine zA (zN (Qk (Qk<|Xh _ Q3<|Qh (zM<|zQ Qt ?_))));refine zM<|zN<|Ql ?_;refine zU [(1,_),(6,_),(17,_),(18,_)] (fun T L0 mz E F o=>∃ (k:Nat) (Q:List Int) (v:Value) (q:Nat) (L:Go.Kn.Loc),mz=Y-k/\E=(4,v)::(19,.int .i64 k)::T/\I2=F/\L=o/\k<=Y/\OwnS 3 1 v q (Q.flatMap QF) L/\q<=Y+512*k/\zic ps V k Q (fun _=>false)/\(V.take k).all (X7 ps)=true) ?_ (h:=⟨0,V,_,Y,_,U,U,U,U,jd _,hO,kB,zic.start,U⟩);rintro mz E F o ⟨k,Q,v,q,L,rfl,rfl,rfl,rfl,hk,hO,c4,hM,u⟩;refine zR<|zC<|zN<|Qk ?_;refine zI ?_ ?_<;>intro a1
 ·have b3:k<Y:=kd a1;obtain ⟨y,hy⟩:=f.at b3;refine Qm (Qa (Qk (Ql (zR<|zV (Qs U U Qt kE (fun hg=>kB)) ?_))));refine zV (Qc U Qr (fun hg=>by exact zJA f hy U))<|zA (zN (Qk (Qk ?_)))
  obtain ⟨m,c1,c3⟩:=a9;refine Qh (zM<|zM ?_);refine zV (zdG (m:=m) (ek:=Value.int .i64) We ZZ U U (fun _=>.inl c1))<|zV (znh U U zAz)<|zN ?_
  refine zI ?_ ?_<;>intro J
  ·have b4:X7 ps y=false:=c3.miss (Option.isNone_iff_eq_none.1 J);have B:clE ps V=380:=zAT l (zvh hy b4);refine zR (zA<|zA (zN (Qq (Qb (Qn (Qb (Qb (Qn<|Qb ?_))))))))
   first
   | exact QY U U U (fun w W=>⟨_,I2,[],U,d,W.drop,by rw [B];exact zjH.empty U⟩)
  obtain ⟨M,a4⟩:∃ M,ZR m y=some M:=(by cases hg:ZR m y with | none=>rw [hg] at J;cases J | some r=>exact ⟨r,U⟩);obtain ⟨b9,O,b5,c6⟩:=c3.hit a4;have d5:=zBX hL c6;have e0:=hP.len;refine Qm<|Qa<|zR<|zM ?_;refine zM ?_;refine zV (zdG (m:=m) (ek:=Value.int .i64) We ZZ U U (fun _=>.inl c1)) ?_;rw [a4];refine KT (ek:=Value.int .i64) (ev:=Value.bool) (m:=O) U JP U U (.inl b5) (fun z=>zN (Ql<|zU [(1,_),(6,_),(17,_),(18,_),(19,_),(30,_)] (fun T L0 mz E F o=>∃ (D:List Nat) (Q:List Int) (v:Value) (q:Nat) (L:Go.Kn.Loc),mz=O.length-D.length/\E=(4,v)::T/\I2=F/\(z,VS M O.length D)::L=o/\OwnS 3 1 v q (Q.flatMap QF) L/\q<=Y+512*k+D.length/\zic ps V k Q (zsA O D)/\D.Nodup/\∀ i∈D,i<O.length) ?_ (h:=⟨[],Q,v,q,L,U,U,U,U,hO,by simpa using c4,hM.congr (fun x=>(zdS O x).symm),.nil,fun i h=>by cases h⟩)));rintro mz E F o ⟨D,Q,v,q,L,rfl,rfl,rfl,rfl,hO,c4,hM,a6,c0⟩;have e1:=KH a6 c0;refine zR<|KP (ek:=Value.int .i64) (ev:=Value.bool) (m:=O) (fun s'=>(z,VS M O.length s')::L) U (fun s'=>.here) U U U U U (.inl b5) kJ ?_
  intro t tv s' d2 c7;refine zN<|Qk ?_;refine zI ?_ ?_<;>intro a2
  ·obtain ⟨i,q,hq,d3,rfl⟩:=c7 a2;refine Qm (Qa (Ql (zR<|zV (KX (ek:=Value.int .i64) (ev:=Value.bool) (m:=O) (p:=q) (seen:=D) (i:=i) U (.inl b5) (.inr kJ) hq)<|zE ?_)));refine zA<|zN<|Qh ?_;refine zM ?_;refine zM ?_;refine zpb [(0,_)] [QF q.1] QS (fun d4=>?_);refine zpa (_) ([q.1].flatMap QF) (L) U U QS hO ⟨U,fun _=>U,zJF⟩ (YJ [q.1]) ?_;intro v9 L9 b8 _;rw [<-jh] at b8;refine zA<|Qe<|Qg ?_;have a7:(D++[i]).Nodup:=Ae.2 ⟨a6,by simp,fun a ha b hb e=>d3 (by simp at hb;subst hb;subst e;exact ha)⟩;have a5:∀ j∈D++[i],j<O.length:=fun j hj=>(jC.1 hj).elim (c0 j) (fun h=>by simp at h;subst h;exact (jc.1 hq).1);have c5:=KH a7 a5;rw [jj,jv] at c5;exact Vx _ _ (L9++[(z,_)]) ⟨O.length-(D++[i]).length,by rw [jj,jv];omega,D++[i],Q++[q.1],v9,_,L9,U,U,U,U,b8,by rw [jj,jv];omega,hM.put (fun x=>zcK hq x),a7,a5⟩ kc (zfD _ _) kH
  obtain ⟨rfl,b0⟩:=d2 a2;exact Qy (Qf (Qf (Qj (Qg (Qa (Qh (zB<|zM (Qe<|zm (h:=⟨Y-(k+1),kB,k+1,Q,v,q,L,U,U,U,U,kB,hO,kB,(hM.next hy (fun x=>zeJ c6 b0 x)),X9 hy u b9⟩)))))))))
 have b1:Y<=k:=kd a1;rw [QZ f.len b1] at u;have d9:Y=k:=kB;refine Qy (Qf (Qf (Qj (Qa (Qk (zR (zM<|qcV (vs:=[_]) U zAa (zCE f d0)<|zO (zN ?_))))))));refine zI ?_ ?_<;>intro a3
 ·have B:clE ps V=380:=zAT l (zv7 (by simpa using a3));refine zR (zA<|zA (zN (Qq (Qb ?_))))
  first
  | exact QY U U U (fun w W=>⟨_,I2,[],U,d,W.drop,by rw [B];exact zjH.empty U⟩)
 have b2:clE ps V=0:=zE4 l (zwF (by simpa using a3) u);refine Qm (Qa (Qk<|zx4 hO QL (fun I5 b6 d6 d8 c8 hZ=>?_)));subst c8;have f:=f.mono b6;have d:=d.trans b6;refine Qh (zM<|zpc [_,_] U zwp .nil (zmy hZ (by have:=f.len;omega) .nil kB) ?_);rintro e4 I6 L6 b7 ⟨rfl,d7,c9,rfl,hR⟩;have f:=f.mono b7;have d:=d.trans b7;refine zA<|zA (zN (Qq ?_))
 first
 | exact QY U U U (fun w W=>⟨_,I6,[],U,d,W.drop,by rw [b2];exact zjH.good U (by rw [zap rfl];exact ztL hL hM (by rw [f.len];omega) u) hR⟩)
theorem zfK (t:SlP I av n c ps)(u:n<=512)(hL:Lst ps)(l:∀ p∈ps,p.n<=100000)(h:Sl I 1 QF bv Y c2 V)(j:Y<=100000):kf 49 [.slice av n c,.slice bv Y c2] I (.int .i64 (vrE ps V)):=by
 intro g H w y;refine qe Tryz.func49 Tryz.ntmps49 y ?_;have b:=zJH I;refine zR (zA<|zN (zR ?_));refine zM ?_;refine zM<|zpc [_,_] U zBZ .nil (zl8 t u hL l h j) ?_
 rintro z B E f ⟨rfl,q,J,rfl,hR⟩;have h:=h.mono f;have b:=b.trans f;refine zM ?_;refine zE ?_;refine zE ?_;refine zA<|zA (zN (Qk (zR ?_)))
 refine zM<|zC ?_
 refine zM ?_;refine Qw 2 U U U ?_;refine zK (Qd U)<|zK (Zs U Qt)<|zK (Qd U)<|zK (Zs U Qt)<|zK (Qx U U U) ?_
 refine QC U U U U U<|zN ?_
 refine zI ?_ ?_<;>intro d
 ·have o:vrE ps V=380:=(by rw [<-zCj (v:=V) hL rfl,h.len,jb d]);refine zR<|zA<|zN<|Qq<|Qb ?_;exact zp b U U (by rw [o]<;>rfl)
 have o:vrE ps V=clE ps V:=(by rw [<-zCj (v:=V) hL rfl,h.len,ja (by rw [d];exact O7)]);refine Qm (Qa (zR (zM<|zA (zN (Qq ?_)))));exact zp b U U (by rw [o]<;>rfl)
abbrev zpn:=Value×Nat×List Value
variable{N:List Int}
theorem zxS (b:ps[k]? =some p)(h:(N.any fun x=>x==p.id)=false):Zi (ps.take (k+1)) N=Zi (ps.take k) N:=by unfold Zi;rw [Z0 b,jH,Oc,h];simp
theorem ztA (b:ps[k]? =some p)(h:(N.any fun x=>x==p.id)=true):Zi (ps.take (k+1)) N=Zi (ps.take k) N++[p]:=by unfold Zi;rw [Z0 b,jH,Oc,h];rfl
theorem zaS.start:zaS [] []:=fun _s=>U
variable{l:List Pt}
theorem zaS.put' {K:List (Int×zpn)}(h:zaS K l)(b:p.kind=3):zaS (Vd K p.sign (v,n,((ZR K p.sign).getD Kj).2.2++[p.id].flatMap QF)) (l++[p]):=by have h1:zaS K ((l++[p]).take l.length):=(by simpa using h);have:=zaS.put (v:=v) (n:=n) h1 (show (l++[p])[l.length]? =some p by simp) b;rw [show (l++[p]).take (l.length+1)=l++[p] from jr kJ] at this;exact this
theorem zaS.skip' {K:List (Int×zpn)}(h:zaS K l)(b:p.kind≠3):zaS K (l++[p]):=by have h1:zaS K ((l++[p]).take l.length):=(by simpa using h);have:=zaS.skip h1 (show (l++[p])[l.length]? =some p by simp) b;rw [show (l++[p]).take (l.length+1)=l++[p] from jr kJ] at this;exact this
def zlx (W:List ((Int×Int)×zpn))(l:List Pt):Prop:=∀ q:Int×Int,((ZR W q).getD Kj).2.2=(stF l q.1 q.2).flatMap Y5
theorem zlx.start:zlx [] []:=fun _q=>U
theorem ziP (l:List Pt)(p:Pt)(s f:Int):stF (l++[p]) s f=stF l s f++(if p.kind=1/\p.sign=s/\p.field=f then [p] else []):=by
 unfold stF;rw [jH];congr 1;by_cases h:p.kind=1/\p.sign=s/\p.field=f
 ·rw [jb h];simp [h.1,h.2.1,h.2.2]
 ·rw [ja h]
  have:(p.kind==1&&(p.sign==s&&p.field==f))=false:=by
   rw [Aw];intro b;simp at b;exact h b
  simp [this]
variable{W:List ((Int×Int)×zpn)}
theorem zlx.put (h:zlx W l)(b:p.kind=1):zlx (Vd W (p.sign,p.field) (v,n,((ZR W (p.sign,p.field)).getD Kj).2.2++[p].flatMap Y5)) (l++[p]):=fun q=>by
 rw [ziP,Vv];by_cases e:(p.sign,p.field)=q
 ·subst e;rw [jb rfl,jb ⟨b,U,U⟩,jh,<-h];rfl
 ·rw [ja e,ja (fun h2=>e (Prod.ext h2.2.1 h2.2.2)),jw,h q]
theorem zlx.skip (h:zlx W l)(b:p.kind≠1):zlx W (l++[p]):=fun q=>by
 rw [ziP,ja (fun h2=>b h2.1),jw,h q]
theorem zaj {s f:Int}:(stF l s f).length<=l.length:=jE _ _
variable{q:Int×Int}
theorem zFi {L:Go.Kn.Loc}(h:zlx W l)(b:OwnS e 19 ((ZR W q).getD Kj).1 ((ZR W q).getD Kj).2.1 ((ZR W q).getD Kj).2.2 L):((ZR W q).getD Kj).2.1<=l.length:=by have h1:=b.1;rw [h q,ZF Yj] at h1;have h2:=zaj (l:=l) (s:=q.1) (f:=q.2);omega
theorem zEP {L:Go.Kn.Loc}(h:zlx W l)(j:Z6 e 19 (W.map (·.2)) L)(t:∀ b o,(b,o)∈L->I b=some o)(q:Int×Int):
  ∃ av c,((ZR W q).getD Kj).1= .slice av (stF l q.1 q.2).length c/\Sl I 19 Y5 av (stF l q.1 q.2).length c (stF l q.1 q.2):=by
 obtain ⟨A,z,B,rfl,g,_⟩:=j.at q;rw [h q] at g;obtain ⟨av,c,f,d⟩:=g.sl Yj kC (fun b o u=>t b o (by simp [u]));have y:=d.len;rw [<-y] at f d;exact ⟨av,c,f,d⟩
def zfR (s:List (Int×Bool))(J:List Sg)(l:List Pt):Prop:=∀ x,zjt s x=(Xf J x||ziW l x)
variable{J:List Sg}
theorem zmg {b:Sg}(d:J[k]? =some b)(x:Int):Xf (J.take (k+1)) x=(decide (b.id=x)||Xf (J.take k) x):=by unfold Xf;rw [Z0 d,Af,jI];simp [or_comm]
theorem zgj (l:List Pt)(p:Pt)(x:Int):ziW (l++[p]) x=(ziW l x||(p.kind==2&&p.sign==x)):=by unfold ziW;rw [Af];simp
theorem zfR.put (h:zfR s J l)(b:p.kind=2):zfR (Vd s p.sign true) J (l++[p]):=fun x=>by
 rw [zbz,h x,zgj,b,jI];simp only [On,jG,ji,jW,true_and];constructor
 ·rintro (h | h | h)
  ·exact .inr (.inr h)
  ·exact .inl h
  ·exact .inr (.inl h)
 ·rintro (h | h | h)
  ·exact .inr (.inl h)
  ·exact .inr (.inr h)
  ·exact .inl h
theorem zfR.skip (h:zfR s J l)(b:p.kind≠2):zfR s J (l++[p]):=fun x=>by
 rw [h x,zgj,show (p.kind==2)=false by simpa using b,Az,OQ]
theorem zld (h:∀ x,zjt s x=Xf (J.take n) x)(b:J.length<=n):zfR s J []:=fun x=>by
 rw [h x,jr b];simp [ziW]
theorem zxn (hL:Lst ps){q:Pt}(t:ps[k]? =some p)(y:q∈ps)(h:q.id<p.id):q∈ps.take k:=by
 obtain ⟨j,d⟩:=jU y;obtain ⟨f,b⟩:=jc.1 d;obtain ⟨g,o⟩:=jc.1 t;rw [Ar];refine ⟨j,?_,b⟩
 have u:j<k:=by
  rcases B7 j k with h3 | h3
  ·exact h3
  ·exfalso;by_cases e:k=j
   ·subst e;rw [t] at d;cases d;omega
   ·have:=jY.1 hL.inc k j g f kB;rw [b,o] at this;omega
 omega
theorem zfl {s:Int}:ziW l s=true↔ ∃ q∈l,q.kind=2/\q.sign=s:=by unfold ziW;rw [jD];simp
variable{kn:Bool}
theorem zjk (f:Sto ps)(u:ps[k]? =some p)(_E:(N.any fun x=>x==p.id)=true)(t:kn=(Xf J p.sign||ziW (Zi (ps.take k) N) p.sign)):
  (kn==(p.kind==2))= !zvA J (Zi ps N) p:=by
 subst t;have j:=je u;unfold zvA;by_cases g:p.kind=2
 ·have h1:ziW (Zi (ps.take k) N) p.sign=false:=by
   rw [Aw];intro B;obtain ⟨q,o,d,y⟩:=zfl.1 B;obtain ⟨b,_⟩:=Yo.1 o;have H:=f.lst.fresh u q b;rcases f.ins j (Au b) y.symm d with rfl | ⟨h,_⟩
   ·omega
   ·exact h g
  rw [h1,g];simp
 ·have h1:ziW (Zi (ps.take k) N) p.sign=ziW (Zi ps N) p.sign:=by
   rw [jI,zfl,zfl];constructor
   ·rintro ⟨q,o,h⟩;obtain ⟨b,d⟩:=Yo.1 o;exact ⟨q,Yo.2 ⟨Au b,d⟩,h⟩
   ·rintro ⟨q,o,h2,z⟩;obtain ⟨b,d⟩:=Yo.1 o;rcases f.ins j b z.symm h2 with rfl | ⟨_,h⟩
    ·exact absurd h2 g
    ·exact ⟨q,Yo.2 ⟨zxn f.lst u b (f.lst.on_lt h).1,d⟩,h2,z⟩
  rw [h1,show (p.kind==2)=false by simpa using g];have:(p.kind != 2)=true:=by simpa using g
  rw [this];cases Xf J p.sign<;>cases ziW (Zi ps N) p.sign<;>rfl
def zeQ (l:List Pt):List Sg:=(l.filter fun p=>p.kind==2).map (·.nw)
theorem ztK (h:p.kind=2):zeQ (l++[p])=zeQ l++[p.nw]:=by unfold zeQ;rw [jH];simp [h]
theorem zff (h:p.kind≠2):zeQ (l++[p])=zeQ l:=by unfold zeQ;rw [jH];simp [h]
theorem zrE (xs:List Sg)(k:Sg):(zdr xs k).Perm (k::xs):=by unfold zdr;refine AA.trans (List.Perm.cons _ ?_);rw [O1]
theorem zeo:∀ (l:List Pt) (J:List Sg),(Ul J l).Perm (J++zeQ l)
 | [],J=>by unfold Ul zeQ;simp
 | p::l,J=>by
  have h:=zeo l (if p.kind=2 then zdr J p.nw else J);have e:Ul J (p::l)=Ul (if p.kind=2 then zdr J p.nw else J) l:=rfl;rw [e];refine h.trans ?_;by_cases b:p.kind=2
  ·rw [jb b];have d:zeQ (p::l)=p.nw::zeQ l:=(by unfold zeQ;simp [b]);rw [d];exact ((zrE J p.nw).append_right _).trans AA.symm
  ·rw [ja b];have d:zeQ (p::l)=zeQ l:=(by unfold zeQ;simp [b]);rw [d]
theorem zp3 {xs V:List Sg}(h1:Srt xs)(h2:Srt V)(f:∀ a,a∈xs↔a∈V):xs=V:=by
 have key:∀ {xs V:List Sg},Srt V->(∀ a∈xs,a∈V)->∀ s x,Yw xs s=some x->Yw V s=some x:=fun h g s x b=>by
  have:=zhO h (g x (zkh b));rw [znJ b] at this;exact this
 refine zyR h1 h2 fun s=>?_
 cases b:Yw xs s with
 | some x=>exact (key h2 (fun a d=>(f a).1 d) s x b).symm
 | none=>
  cases j:Yw V s with
  | none=>rfl
  | some y=>rw [key h1 (fun a d=>(f a).2 d) s y j] at b;cases b
theorem zrS {Q:List Sg}(t:Srt J)(o:Sto l)(u:zb0 J l=true)(j:Q.Perm (J++zeQ l))(z:Q.Pairwise (fun x y=>Go.Proofs.ltOf zuT y x=false)):Q=Ul J l:=by
 have h1:=(zbf t o u).1;have f:=zeo l J
 have g:((Ul J l).map (·.id)).Nodup:=by
  rw [List.nodup_iff_pairwise_ne,A3];exact List.Pairwise.imp (fun {a b} h=>kB) h1
 have d:((J++zeQ l).map (·.id)).Nodup:=(f.map (·.id)).nodup_iff.1 g;exact zp3 (zsM j z d) h1 fun a=>(j.trans f.symm).mem_iff
def zGn (I:Qu)(r:Nat)(l:List Pt):Prop:=∃ W:List ((Int×Int)×zpn),I r=some (Yg VE zaO W)/\∀ q:Int×Int,∃ av c,((ZR W q).getD Kj).1= .slice av (stF l q.1 q.2).length c/\Sl I 19 Y5 av (stF l q.1 q.2).length c (stF l q.1 q.2)
theorem zGn.mono (h:zGn I r l)(b:HLe I F):zGn F r l:=by obtain ⟨W,h1,h2⟩:=h;exact ⟨W,b _ _ h1,fun q=>by obtain ⟨av,c,h3,h4⟩:=h2 q;exact ⟨av,c,h3,h4.mono b⟩⟩
def zGg (I:Qu)(r:Nat)(l:List Pt):Prop:=∃ K:List (Int×zpn),I r=some (Yg (Value.int .i64) zaO K)/\∀ s,∃ av c,((ZR K s).getD Kj).1= .slice av (rmF l s).length c/\Sl I 1 QF av (rmF l s).length c (rmF l s)
theorem zGg.mono (h:zGg I r l)(b:HLe I F):zGg F r l:=by obtain ⟨K,h1,h2⟩:=h;exact ⟨K,b _ _ h1,fun s=>by obtain ⟨av,c,h3,h4⟩:=h2 s;exact ⟨av,c,h3,h4.mono b⟩⟩
structure StQ (I:Qu)(ps l:List Pt)(xs:List Sg)(r1 r2 r3:Nat)(av:Option Addr)(n c:Nat):Prop where
 on:OnM I r1 ps
 set:zGn I r2 l
 rem:zGg I r3 l
 sg:Sl I 14 YA av n c xs
 sub:∀ p∈l,p∈ps
 nd:∀ p∈ps,Nd I p
 lst:Lst ps
 few:ps.length<=512
 fewl:l.length<=512
variable{r1 r2 r3:Nat}
theorem StQ.mono {xs:List Sg}(h:StQ I ps l xs r1 r2 r3 av n c)(b:HLe I F):StQ F ps l xs r1 r2 r3 av n c:=
 ⟨h.on.mono b,h.set.mono b,h.rem.mono b,h.sg.mono b,h.sub,fun p d=>(h.nd p d).mono b,h.lst,h.few,h.fewl⟩
def stA (r1 r2 r3:Nat)(av:Option Addr)(n c:Nat):Value:=.agg #[.map (some r1),.map (some r2),.map (some r3),.slice av n c]
def RdQ (e:Int)(ps l:List Pt)(xs:List Sg):Value->Qu->Go.Kn.Loc->Prop:=fun v F L=>L=[]/\∃ m1 m2 m3 av n c,v= .tuple #[.agg #[.map m1,.map m2,.map m3,.slice av n c],.int .i64 e]/\(e=0->∃ r1 r2 r3,m1=some r1/\m2=some r2/\m3=some r3/\StQ F ps l xs r1 r2 r3 av n c)
theorem zp4 (h:JL ps≠0):KM ps J N=JL ps:=by unfold KM;rw [jb h]
theorem zpW (h:JL ps=0)(h2:Kg J≠0):KM ps J N=Kg J:=by unfold KM;rw [ja kB,jb h2]
theorem zDx (h:JL ps=0)(h2:Kg J=0)(h3:vrE ps N≠0):KM ps J N=vrE ps N:=by
 unfold KM;rw [ja kB,ja kB];unfold vrE at*;split
 ·rfl
 ·rename_i h4;rw [ja h4] at h3
  cases b:X6 ps N with
  | true=>rw [b] at h3;exact absurd U h3
  | false=>rfl
theorem zvu (h:vrE ps N=0):¬N.length>512:=fun h2=>by unfold vrE at h;rw [jb h2] at h;cases h
theorem zGf (h:JL ps=0)(h2:Kg J=0)(h3:vrE ps N=0)(h4:zb0 J (Zi ps N)=false):KM ps J N=380:=by unfold KM;rw [ja kB,ja kB,ja (zvu h3),h4,OP];rfl
theorem zHk (h:JL ps=0)(h2:Kg J=0)(h3:vrE ps N=0)(h4:zb0 J (Zi ps N)=true):KM ps J N=0:=by unfold KM;rw [ja kB,ja kB,ja (zvu h3),h4,zdt h3];rfl
theorem zA0 (d:p∈ps)(b:(N.any fun x=>x==p.id)=true)(h:zvA J (Zi ps N) p=false):zb0 J (Zi ps N)=false:=by unfold zb0;exact Bw.2 ⟨p,jP.2 ⟨d,b⟩,by rw [h];exact O7⟩
theorem zFm {x a b c:Nat×Obj}{d g f:Go.Kn.Loc}:(x::(d++(a::b::c::(g++f)))).Perm (d++(x::a::b::c::(g++f))):=AA.symm
theorem zFW {x a b c:Nat×Obj}{f A L B d:Go.Kn.Loc}:(x::(f++(a::b::c::((A++(L++B))++d)))).Perm (L++(x::(f++(a::b::c::(A++(B++d)))))):=by
 have h1:((A++(L++B))++d).Perm (L++(A++(B++d))):=by
  rw [js,js];exact Ox A L _
 have h2:(x::(f++(a::b::c::((A++(L++B))++d)))).Perm (x::(f++(a::b::c::(L++(A++(B++d)))))):=((h1.cons c |>.cons b |>.cons a).append_left f).cons x;refine h2.trans ?_;have h3:(a::b::c::(L++(A++(B++d)))).Perm (L++(a::b::c::(A++(B++d)))):=Ox [a,b,c] L _;exact ((h3.append_left f).cons x).trans<|Ox (x::f) L _
theorem zuf {x a b c:Nat×Obj}{f A L B d:Go.Kn.Loc}:(x::(f++(a::b::c::(d++(A++(L++B)))))).Perm (L++(x::(f++(a::b::c::(d++(A++B)))))):=by
 have h1:(d++(A++(L++B))).Perm (L++(d++(A++B))):=by
  refine ((Ox A L B).append_left d).trans (Ox d L _)
 have h2:=((h1.cons c |>.cons b |>.cons a).append_left f).cons x;refine h2.trans ?_;have h3:(a::b::c::(L++(d++(A++B)))).Perm (L++(a::b::c::(d++(A++B)))):=Ox [a,b,c] L _;exact ((h3.append_left f).cons x).trans<|Ox (x::f) L _
variable{dv:Option Addr}
theorem zD2 (hP:SlP I av n c ps)(hn:n<=100000)(hB:Sl I 14 YA bv Y c2 J)(i4:Y<=100000){n3 c3:Nat}(hV:Sl I 1 QF dv n3 c3 N)(f2:n3<=100000):kg 83 [.slice av n c,.slice bv Y c2,.slice dv n3 c3] I [] (RdQ (KM ps J N) ps (Zi ps N) (Ul J (Zi ps N))):=by
 intro g H w hw;refine qe Tryz.func83 Tryz.ntmps83 hw ?_;have a0:=zJH I;refine zR<|Qv zvj U U (fun b2=>zA (zN (Qk (zR ?_))))
 refine zM ?_;refine qcV (vs:=[_]) U zue (zvm hP hn) ?_;refine zA<|zN (zR ?_)
 refine zM<|zC (zN ?_)
 refine zI ?_ ?_<;>intro c8
 ·have d:JL ps≠0:=(by simpa using c8);refine zR<|zV (Qo U Ju (fun hg=>by exact Cells.g0) U)<|zM<|zh Xd ?_
  refine zA<|zN<|Qq<|Qb ?_
  first
  | exact Zg U U U Ju kG U (fun w hw=>⟨_,I,[],U,a0,hw.drop,U,_,_,_,_,_,_,by rw [zp4 d],fun h0=>absurd h0 (by rw [zp4 d];exact d)⟩)
 have d:JL ps=0:=(by simpa using c8);have e2:n<=512:=(by have:=(U1 d).1;rw [hP.len] at this;omega);have hL:=V3 d;have e3:=zg4 hP d;have c0:=Wo d;refine Qm (Qa (Qk (zR (zM<|qcV (vs:=[_]) U zis (zkm hB i4) ?_))));refine zA<|zN (zR ?_)
 refine zM<|zC (zN ?_)
 refine zI ?_ ?_<;>intro d0
 ·have a2:Kg J≠0:=(by simpa using d0);refine zR<|zV (Qo U Ju (fun hg=>by exact Cells.g0) U)<|zM<|zh Xd ?_
  refine zA<|zN<|Qq<|Qb ?_
  first
  | exact Zg U U U Ju kG U (fun w hw=>⟨_,I,[],U,a0,hw.drop,U,_,_,_,_,_,_,by rw [zpW d a2],fun h0=>absurd h0 (by rw [zpW d a2];exact a2)⟩)
 have a2:Kg J=0:=(by simpa using d0);refine Qm<|Qa<|Qk<|zR<|zM ?_;refine zM ?_;refine qcV (vs:=[_,_]) U zwe (zfK hP e2 hL e3 hV f2) ?_;refine zA<|zN (zR ?_)
 refine zM<|zC (zN ?_)
 refine zI ?_ ?_<;>intro d1
 ·have a4:vrE ps N≠0:=(by simpa using d1);refine zR<|zV (Qo U Ju (fun hg=>by exact Cells.g0) U)<|zM<|zh Xd ?_
  refine zA<|zN<|Qq<|Qb ?_
  first
  | exact Zg U U U Ju kG U (fun w hw=>⟨_,I,[],U,a0,hw.drop,U,_,_,_,_,_,_,by rw [zDx d a2 a4],fun h0=>absurd h0 (by rw [zDx d a2 a4];exact a4)⟩)
 have a4:vrE ps N=0:=(by simpa using d1);have c7:=(XZ hL).1 (zdt a4);refine Qm (Qa (zR (zM<|zpc [_] U zoR .nil (zeg hP hn hL e3) ?_)));rintro k0 I1 L1 c6 ⟨rfl,r9,rfl,b8⟩;have hP:=hP.mono c6;have hB:=hB.mono c6;have hV:=hV.mono c6;have a0:=a0.trans c6;refine Yb U U (fun f=>Yb U U (fun j=>zM<|zpc [_] U zxM .nil (zte hB kB) ?_));rintro j0 I2 L2 b7 ⟨rfl,hO⟩;have hP:=hP.mono b7;have hB:=hB.mono b7;have hV:=hV.mono b7;have b8:=b8.mono b7;have a0:=a0.trans b7;obtain ⟨Lg,f6⟩:∃ Lg,Lg=L2:=⟨_,U⟩;subst f6;obtain ⟨vg,i8⟩:∃ z,z=j0:=⟨_,U⟩;subst i8;obtain ⟨va,vn,vc,rfl⟩:=hO.val;refine zV (QK (ps:=[(0,_),(1,_),(2,_),(3,_)]) [_,_,_,_] zBm U U)<|zh Xd<|zN (zR<|Yb U U (fun a8=>zA (zN (Qk (zR ?_)))))
 refine zM ?_;refine zQ Z7 ?_;refine zM<|zN<|Ql ?_;refine zU [(0,_),(2,_),(6,_),(8,_),(43,_),(44,_)] (fun T L0 mz E F a7=>∃ (k:Nat) (s:List (Int×Bool)),mz=Y-k/\E=(45,.int .i64 k)::T/\I2=F/\(a8,Yg (Value.int .i64) Value.bool s)::(Lg++[(j,Yg (Value.int .i64) zaO []),(f,Yg VE zaO []),(b2,.cells #[.map (some r9),.map (some f),.map (some j),.slice va vn vc] 159 (0,0))])=a7/\k<=Y/\∀ x,zjt s x=Xf (J.take k) x) ?_ (h:=⟨0,[],U,U,U,U,jd _,fun x=>U⟩);rintro mz E F a7 ⟨k,s,rfl,rfl,rfl,rfl,hk,hs⟩;refine zR<|zC<|zN<|Qk ?_;refine zI ?_ ?_<;>intro d2
 ·have b1:k<Y:=kd d2;obtain ⟨b,hb⟩:=hB.at b1;refine Qm (Qa (Qk (Ql (zR<|zV (Qs U U Z7 kE (fun hg=>kB))<|zV (Qo U QQ (fun hg=>by exact zJI hB hb) U)<|Qv Kc U U (fun j2=>?_)))));refine zh Zy<|zN (Qh (zM<|zF Zu ?_))
  exact zL Qr<|Zd (m:=s) (ek:=Value.int .i64) (ev:=Value.bool) (a:=b.id) true JP ZZ U U U U (by repeat (first | exact Upd.here | apply Upd.there | apply QN))<|Qe (Qg (Qa (Qh (zB<|zM (Qe<|zm (h:=⟨Y-(k+1),kB,k+1,_,U,U,U,U,kB,fun x=>by rw [zbz,hs,zmg hb]⟩))))))
 have b0:Y<=k:=kd d2;have a3:=zld hs (by rw [hB.len];exact b0);refine Qy (Qf (Qf (Qj (Qa (Qk (zR (zM<|zQ QV ?_)))))));refine zM<|zN<|Ql ?_;refine zU [(2,_),(6,_),(8,_),(53,_),(54,_)] (fun T L0 mz E F a7=>∃ (k:Nat) (s:List (Int×Bool)) (vg:Value) (q:Nat) (Lg:Go.Kn.Loc) (W:List ((Int×Int)×zpn)) (Ls:Go.Kn.Loc) (K:List (Int×zpn)) (Lr:Go.Kn.Loc),mz=n-k/\E=(55,.int .i64 k)::T/\I2=F/\(a8,Yg (Value.int .i64) Value.bool s)::(Lg++((j,Yg (Value.int .i64) zaO K)::(f,Yg VE zaO W)::(b2,.cells #[.map (some r9),.map (some f),.map (some j),vg] 159 (0,0))::(Ls++Lr)))=a7/\k<=n/\zfR s J (Zi (ps.take k) N)/\OwnS 54 14 vg q ((J++zeQ (Zi (ps.take k) N)).flatMap YA) Lg/\q<=Y+k/\zlx W (Zi (ps.take k) N)/\Z6 57 19 (W.map (·.2)) Ls/\zaS K (Zi (ps.take k) N)/\Z6 3 1 (K.map (·.2)) Lr/\(Zi (ps.take k) N).all (zvA J (Zi ps N))=true) ?_ (h:=⟨0,s,_,Y,Lg,[],[],[],[],U,U,U,U,jd _,a3,by rw [show J++zeQ (Zi (ps.take 0) N)=J from jw _];exact hO,jn _,zlx.start,Z6.nil,zaS.start,Z6.nil,U⟩);rintro mz E F a7 ⟨k,s,vg,q,Lg,W,Ls,K,Lr,rfl,rfl,rfl,rfl,hk,a3,hO,hq,a6,u,a5,t,a1⟩;obtain ⟨va,vn,vc,rfl⟩:=hO.val;refine zR<|zC<|zN<|Qk ?_;refine zI ?_ ?_<;>intro d3
 ·have b1:k<n:=kd d3;have f9:=hP.1;obtain ⟨p,hp,hN⟩:=hP.at b1;have f3:=je hp;have hN:Sl I2 1 QF p.a p.n p.c p.needs:=hN;have j6:=e3 p f3;refine Qm (Qa (Qk (Ql (zR<|zV (Qs U U QV kE (fun hg=>kB))<|zV (Qo U YH (fun hg=>by exact zJI f9 hp) U)<|Qv WP U U (fun e6=>?_)))));refine zh Km<|zN (Qk (zR (zM<|zF Zq ?_)))
  refine zL Qr<|qcV (vs:=[_,_]) U zzo (zG5 hV f2 c7.inc _)<|zM ?_
  refine zE ?_;refine zE ?_;refine zA<|zA<|zN (zR ?_)
  refine zM<|zO (zN ?_)
  refine zI ?_ ?_<;>intro d4
  ·have b4:(N.any fun x=>x==p.id)=false:=(jZ _).mp d4;have y:=zxS hp b4;refine Qy (Qf (Qj (Qa (Qh (zB<|zM (Qe ?_))))))
   first
   | exact zm (h:=⟨n-(k+1),kB,k+1,_,_,_,_,_,_,_,_,U,U,U,U,kB,by rw [y];exact a3,by rw [y];exact hO,kB,by rw [y];exact a6,u,by rw [y];exact a5,t,by rw [y];exact a1⟩)
  have b4:(N.any fun x=>x==p.id)=true:=(OC _).mp d4;have y:=ztA hp b4;refine Qm (Qa (Qk (zR (zM<|zF ZB ?_))));refine zL Qr<|zV (Y3 (m:=s) JP ZZ U U (fun _=>(by exact Mem.m1)))<|zF Yn ?_
  refine zL Qr<|zC<|zV (zsx U U zIi)<|zN ?_
  refine zI ?_ ?_<;>intro d5
  ·have b5:(zjt s p.sign==(p.kind==2))=true:=d5;rw [zjk c0 hp b4 (a3 p.sign)] at b5;have b3:=(jZ _).mp b5;have e8:=zA0 f3 b4 b3;refine zR<|zV (Qo U Ju (fun hg=>by (repeat (first | exact zJF | apply zJE | apply zJG))) U)<|zh Xd ?_
   refine zA (zN (Qq (Qb (Qn (Qb (Qb (Qn<|Qb ?_)))))))
   first
   | exact Zg U U U Ju kG U (fun w hw=>⟨_,I2,[],U,a0,hw.drop,U,_,_,_,_,_,_,by rw [zGf d a2 a4 e8],fun h0=>absurd h0 (by rw [zGf d a2 a4 e8];exact kC)⟩)
  have b5:(zjt s p.sign==(p.kind==2))=false:=d5;rw [zjk c0 hp b4 (a3 p.sign)] at b5;have b3:=(OC _).mp b5;refine Qm (Qa (zR<|zF Yn ?_));refine zL Qr<|zN (Ql (zR (zC<|zA (zN ?_))))
  refine zI ?_ ?_<;>intro d6
  ·have f0:p.kind=2:=(by simpa using d6);refine zR (zM<|zF ZB ?_);refine zL Qr<|Zd (m:=s) (ek:=Value.int .i64) (ev:=Value.bool) (a:=p.sign) true JP ZZ U U U U (by repeat (first | exact Upd.here | apply Upd.there | apply QN))<|zN (Qh<|zF X2 ?_)
   refine zV (Qc U zdy (fun hg=>by (repeat (first | exact zJC U | apply zJB | apply zJD))))<|zF Yr ?_
   refine zV (Qo U QQ (fun hg=>by exact Cells.s0 (vs:=[_,_,_,_,_,_,_,_,_,_,_,_,_,_]) U) U)<|zpb [(0,_)] [YA p.nw] Vy (fun j4=>?_)
   refine zpa (_) ([p.nw].flatMap YA) (Lg) U U Vy hO ⟨U,fun _=>U,zJF⟩ (zcW [p.nw]) ?_;intro v9 L9 a9 _;rw [<-jh] at a9;obtain ⟨j7,j9,j8,rfl⟩:=a9.val;refine zF X2 ?_;refine zS zoH<|Qe (Qg (Qg (Qa (Qh (zB<|zM (Qe ?_))))))
   first
   | exact Vx _ _ (L9++((a8,_)::(j,_)::(f,_)::(b2,_)::(Ls++Lr))) ⟨n-(k+1),kB,k+1,_,_,_,L9,W,Ls,K,Lr,U,U,U,U,kB,by rw [y];exact a3.put f0,by rw [y,ztK f0,<-js];exact a9,kB,by rw [y];exact a6.skip kB,u,by rw [y];exact a5.skip' kB,t,by rw [y,As,a1];simp [b3]⟩ kc zFm kH
  have d8:p.kind≠2:=(by simpa using d6);refine zR (zC<|zA (zN ?_));refine zI ?_ ?_<;>intro d7
  ·have i2:p.kind=1:=(by simpa using d7);refine zR<|zF ZB ?_
   refine zL Qr<|zF YK ?_
   refine zL Qr<|zV (Zw (ps:=[(0,_),(1,_)]) [_,_] Yx K4 U U)<|Qv K4 U U (fun j3=>?_)
   refine zh zms<|zN ?_
   obtain ⟨A,Lt,B,f8,b9,c5⟩:=u.at (p.sign,p.field);subst f8;rw [js A,js Lt];have i5:=zFi a6 b9;have i6:(Zi (ps.take k) N).length<=k:=jO (jE ..) (Bh k ps);refine Qh<|zF zcu ?_
   refine zV (Qc U zh5 (fun hg=>by (repeat (first | exact zJC U | apply zJB | apply zJD))))<|zV (Qo U zdc (fun hg=>by exact Cells.g0) U)<|zV (Qo U YH (fun hg=>by exact Cells.g1) U)<|zpb [(0,_)] [Y5 p] UO (fun f4=>ziI (m:=W) (ek:=VE) (ev:=zaO) (a:=(p.sign,p.field)) Kj U ziz zfN U U U U (by repeat (first | exact Upd.here | apply Upd.there | apply QN))<|zE<|zpa (_) ([p].flatMap Y5) (Lt) U U UO b9 ⟨U,fun _=>U,zJF⟩ (znR [p]) ?_)
   intro v9 L9 a9 _;refine zE<|zfh (ek:=VE) (ev:=zaO) (m:=Vd W (p.sign,p.field) ((ZR W (p.sign,p.field)).getD Kj)) (a:=(p.sign,p.field)) (v9,((ZR W (p.sign,p.field)).getD Kj).2.1+1,((ZR W (p.sign,p.field)).getD Kj).2.2++[p].flatMap Y5) ((ZR W (p.sign,p.field)).getD Kj) (by rw [Vv,jb rfl]) U (by rw [znH];exact U) U U (by repeat (first | exact Upd.here | apply Upd.there | apply QN)) ?_
   rw [zfT];refine Qe (Qg (Qg (Qa (Qh (zB<|zM (Qe ?_))))))
   first
   | exact Vx _ _ (L9++((a8,_)::(Lg++((j,_)::(f,_)::(b2,_)::(A++(B++Lr)))))) ⟨n-(k+1),kB,k+1,s,_,q,Lg,_,A++(L9++B),K,Lr,U,U,U,U,kB,by rw [y];exact a3.skip kB,by rw [y,zff kB];exact hO,kB,by rw [y];exact a6.put i2,c5 (v9,_,_) L9 a9,by rw [y];exact a5.skip' kB,t,by rw [y,As,a1];simp [b3]⟩ kc zFW kH
  have e9:p.kind≠1:=(by simpa using d7);refine zR (zC<|zA (zN ?_));refine zI ?_ ?_<;>intro c1
  ·have i3:p.kind=3:=(by simpa using c1);obtain ⟨A,Lt,B,f7,b9,c5⟩:=t.at p.sign;subst f7;have i5:=zwq a5 b9;have i6:(Zi (ps.take k) N).length<=k:=jO (jE ..) (Bh k ps);have hD:=zJH I2;refine VR<|ZM I2 [(e6,.cells (Y5 p).toArray 57 (0,0)),(b2,.cells #[.map (some r9),.map (some f),.map (some j),.slice va vn vc] 159 (0,0))] mixed<|zT 0 U (Qi U XI) hD<|zT 1 U (Qc U zku (fun hg=>by exact QO.h1 U)) hD<|zT 2 U (Qi U ZB) hD<|zT 3 U (Qc U Qr (fun hg=>by exact QO.h0 U)) hD<|zT 4 U (Qi U XI) hD<|zT 5 U (Qc U zku (fun hg=>by exact QO.h1 U)) hD<|zT 6 U (Qi U ZB) hD<|zT 7 U (Qc U Qr (fun hg=>by exact QO.h0 U)) hD<|zT 9 U (Qi U Zq) hD<|zT 10 U (Qc U Qr (fun hg=>by exact QO.h0 U)) hD ?_
   refine Zv 8 11 U U kA ?_ ?_
   focus
    refine zV (JT (m:=K) (ek:=Value.int .i64) (a:=p.sign) Jf ZZ U U (fun _=>.inr kJ))<|Qe<|zD hD<|qd 11 U<|zpb [(0,_)] [QF p.id] QS (fun d9=>?_)
   rotate_left
   refine zpb [(0,_)] [QF p.id] QS (fun d9=>Qe<|zD hD<|qd 8 U<|zV (JT (m:=K) (ek:=Value.int .i64) (a:=p.sign) Jf ZZ U U (fun _=>.inr kJ)) ?_)
   all_goals
    refine Qe<|zD hD<|qd 12 U<|zpa (_) ([p.id].flatMap QF) (Lt) U U QS b9 ⟨U,fun _=>U,zJF⟩ (YJ [p.id]) ?_
    intro v9 L9 a9 _;refine Qe<|zD hD<|qd 13 U<|Zd (m:=K) (ek:=Value.int .i64) (ev:=zaO) (a:=p.sign) (v9,((ZR K p.sign).getD Kj).2.1+1,((ZR K p.sign).getD Kj).2.2++[p.id].flatMap QF) Jf ZZ U U U U (by repeat (first | exact Upd.here | apply Upd.there | apply QN))<|Qe<|zD hD<|QH kA<|QP<|Qg (Qg (Qa (Qh (zB<|zM (Qe ?_)))))
    first
    | exact Vx _ _ (L9++((a8,_)::(Lg++((j,_)::(f,_)::(b2,_)::(Ls++(A++B)))))) ⟨n-(k+1),kB,k+1,s,_,q,Lg,W,Ls,_,A++(L9++B),U,U,U,U,kB,by rw [y];exact a3.skip kB,by rw [y,zff kB];exact hO,kB,by rw [y];exact a6.skip kB,u,by rw [y];exact a5.put' i3,c5 (v9,_,_) L9 a9,by rw [y,As,a1];simp [b3]⟩ kc zuf kH
  have f1:p.kind≠3:=(by simpa using c1);refine Qm (Qg (Qg (Qa (Qh (zB<|zM (Qe ?_))))))
  first
  | exact zm (h:=⟨n-(k+1),kB,k+1,_,_,_,_,_,_,_,_,U,U,U,U,kB,by rw [y];exact a3.skip d8,by rw [y,zff d8];exact hO,kB,by rw [y];exact a6.skip e9,u,by rw [y];exact a5.skip' f1,t,by rw [y,As,a1];simp [b3]⟩)
 have b0:n<=k:=kd d3;have i1:Zi (ps.take k) N=Zi ps N:=(by rw [QZ hP.len b0]);rw [i1] at a3 hO a6 a5 a1;have c4:zb0 J (Zi ps N)=true:=a1;refine Qy (Qf (Qf (Qj (Qa (zR<|zF X2 ?_)))));refine zV (Qc U zdy (fun hg=>by (repeat (first | exact zJC U | apply zJB | apply zJD))))<|zpc [_,_] U zyh (by repeat (first | exact .cons .here .nil | exact Zp | exact Q6 | apply ZC | apply Zz)) (zyk 54 _ hO kB _) ?_
 rintro k6 I5 L5 e1 ⟨rfl,rfl,j1,e4,e5,e7⟩;have hP:=hP.mono e1;have b8:=b8.mono e1;have a0:=a0.trans e1;refine Qe ?_;have i9:j1=Ul J (Zi ps N):=zrS (zmP (zhR a2).2) (Xx c0 c7) c4 e4 e5;rw [i9] at e7;refine Qa (zR<|zV (Qo U Ju (fun hg=>by (repeat (first | exact zJF | apply zJE | apply zJG))) U)<|zh Xd ?_);refine zA<|zN<|Qq ?_
 first
 | exact Zg U U U Ju kG U (fun w hw=>by obtain ⟨I9,e0,f5,b6⟩:=hw.freezeAll;obtain ⟨j5,c9,i7,i0⟩:=e7.sl Yp kC (fun b o hb=>b6 b o (by simp [hb]));cases i7;exact ⟨_,I9,[],U,a0.trans e0,f5,U,_,_,_,_,_,_,by rw [zHk d a2 a4 c4],fun _=>⟨_,_,_,U,U,U,⟨b8.mono e0,⟨W,b6 f _ kJ,zEP a6 u (fun b o hb=>b6 b o (by simp [hb]))⟩,⟨K,b6 j _ kJ,zwA a5 t (fun b o hb=>b6 b o (by simp [hb]))⟩,i0,fun p hp=>(Yo.1 hp).1,fun p hp=>(hP.2 p hp).mono e0,hL,by rw [hP.len];exact e2,jO (jE ..) (by rw [hP.len];exact e2)⟩⟩⟩)
def zin (P:Pt->Bool)(xs:List Pt):List Int:=(xs.filter P).map (·.id)
theorem zlJ {xs:List Pt}:zin P (xs.take 0)=[]:=by unfold zin;simp
theorem zr2 {xs:List Pt}(b:xs[k]? =some p)(h:P p=true):zin P (xs.take (k+1))=zin P (xs.take k)++[p.id]:=by unfold zin;rw [Z0 b,jH,Oc,jb h];simp
theorem zy1 {xs:List Pt}(b:xs[k]? =some p)(h:P p=false):zin P (xs.take (k+1))=zin P (xs.take k):=by unfold zin;rw [Z0 b,jH,Oc,ja (by rw [h];exact O7)];simp
def zGw (on:Int->Int->Bool)(l:List Pt)(s:Int)(p:Pt):Bool:=(rmF l s).any fun i=> !on i p.id
def unL (on:Int->Int->Bool)(l:List Pt)(s f:Int):List Int:=zin (zGw on l s) (stF l s f)
def unK (on:Int->Int->Bool)(l:List Pt)(s:Int)(k:Nat):List Int:=(List.range k).flatMap fun (j:Nat)=>unL on l s ((j:Int)+1)
theorem zkA (on:Int->Int->Bool)(l:List Pt)(s:Int)(k:Nat):unK on l s (k+1)=unK on l s k++unL on l s ((k:Int)+1):=by unfold unK;rw [Ok,jh];simp
theorem zAp {on:Int->Int->Bool}{s:Int}(k:Nat):(unK on l s k).length<=k*l.length:=by
 induction k with
 | zero=>simp [unK]
 | succ k ih=>
  rw [zkA,jj,Nat.succ_mul]
  have h1:(unL on l s ((k:Int)+1)).length<=l.length:=by
   unfold unL zin;rw [ju];exact jO (jE ..) zaj
  omega
theorem zq9 {on:Int->Int->Bool}{xs:List Pt}{s:Int}{j q:Nat}{L:Go.Kn.Loc}(b:OwnS e 1 v q ((unK on l s k++zin P (xs.take j)).flatMap QF) L)(d:k<=9)(f:l.length<=512)(g:xs.length<=512):q<=10000:=by
 have h1:=b.1;rw [zJc,jj] at h1;have h2:(unK on l s k).length<=9*512:=jO (zAp k) (Nat.mul_le_mul d f)
 have h3:(zin P (xs.take j)).length<=xs.length:=by
  unfold zin;rw [ju];refine jO (jE ..) ?_;rw [jJ];omega
 omega
theorem zqa {on:Int->Int->Bool}{s:Int}(h:∀ p∈l,zxR p):x∈unK on l s 9↔x∈(unF on l s).map (·.id):=by
 unfold unK unL zin unF unB;rw [B5];simp only [jt,jP,jq,KD,ji,jW];constructor
 ·rintro ⟨j,t,p,⟨⟨f,d,b,o⟩,g⟩,rfl⟩;exact ⟨p,⟨f,b,d,by rw [b];exact g⟩,U⟩
 ·rintro ⟨p,⟨f,b,d,g⟩,rfl⟩;have o:=((h p f).set d).1;unfold isF at o;refine ⟨(p.field-1).toNat,kB,p,⟨⟨f,d,b,kB⟩,by rw [b] at g;exact g⟩,U⟩
theorem zHj {on:Int->Int->Bool}{s:Int}(d:∀ p∈l,zxR p):((((rmF l s).length:Int)==0)||decide (((unK on l s 9).length:Int)>0))=exB on l s:=by
 unfold exB
 have h1:(unK on l s 9).length=0↔unF on l s=[]:=by
  constructor
  ·intro h;have h2:=Oo.1 h
   cases b:unF on l s with
   | nil=>rfl
   | cons p f=>
    have:p.id∈unK on l s 9:=(zqa d).2 (by rw [b];simp);rw [h2] at this;cases this
  ·intro h
   cases b:unK on l s 9 with
   | nil=>rfl
   | cons x f=>
    have:x∈(unF on l s).map (·.id):=(zqa d).1 (by rw [b];simp);rw [h] at this;cases this
 congr 1
 ·cases rmF l s with
  | nil=>rfl
  | cons x f=>simp;omega
 ·cases b:unF on l s with
  | nil=>rw [h1.2 b];rfl
  | cons p f=>
   have:(unK on l s 9).length≠0:=fun h=>by rw [h1.1 h] at b;cases b
   simp;omega
theorem zDD (b:∀ p∈l,p∈ps){s i:Int}(h:i∈rmF l s):∃ q∈ps,q.id=i:=by obtain ⟨q,d,_,_,e⟩:=ziE.1 h;exact ⟨q,b q d,e⟩
theorem zDC {s:Int}:(rmF l s).length<=l.length:=zb2 (c:=3)
def zgm (on:Int->Int->Bool)(xs:List Pt)(p:Pt):Bool:= !xs.any fun q=>on q.id p.id
theorem zDe (on:Int->Int->Bool)(l:List Pt)(s f:Int):JF on l s f=(stF l s f).filter (zgm on (stF l s f)):=rfl
theorem Wc {xs:List Pt}(b:xs[k]? =some p)(h:P p=true):(xs.take (k+1)).filter P=(xs.take k).filter P++[p]:=by rw [Z0 b,jH,Oc,jb h];simp
theorem za1 {xs:List Pt}(b:xs[k]? =some p)(h:P p=false):(xs.take (k+1)).filter P=(xs.take k).filter P:=by rw [Z0 b,jH,Oc,ja (by rw [h];exact O7)];simp
theorem zhz {xs:List Pt}(b:xs[k]? =some p)(h:P p=true):(xs.take k).filter P++[p]<+:xs.filter P:=by rw [<-Wc b h];exact ⟨(xs.drop (k+1)).filter P,by rw [<-jH,jT]⟩
theorem zGQ {b1 b2:Nat}(h1:I b1=some (.cells #[.map (some r1),.map (some r2),.map (some r3),.slice av n c] 159 (0,0)))(h2:I b2=some (.cells (Y5 p).toArray 57 (0,0)))(d:OnM I r1 ps)(C:Int)(f:∃ q∈ps,q.id=C):kf 232 [.int .i64 C,.pointer (some ⟨b1,0,none⟩),.pointer (some ⟨b2,0,none⟩)] I (.bool (!onF ps C p.id)):=by
 intro g H w u;refine qe Tryz.func232 Tryz.ntmps232 u ?_;obtain ⟨m,h,j⟩:=d;obtain ⟨M,b,O,o,t⟩:=j.get f;refine zR (zA<|zN (zR<|zF zgn ?_));refine zV (Qc U zlV (fun hg=>by exact .imm h1 U))<|zM<|zV (VF (m:=m) (ek:=Value.int .i64) (ev:=zfA) (a:=C) b We ZZ U U (fun _=>.inl h))<|zF Zq ?_
 refine zV (Qc U Qr (fun hg=>by exact .imm h2 U))<|zV (Y3 (m:=O) JP ZZ U U (fun _=>.inl o))<|zO<|zA (zN (Qq ?_))
 exact zr U U (by rw [show (ZR O p.id).getD false=onF ps C p.id from t.mem _])
theorem ztN {xs:List Sg}(hx:StQ I ps l xs r1 r2 r3 av n c)(s:Int):kg 193 [stA r1 r2 r3 av n c,.int .i64 s] I [] (Jv 1 QF (unK (onF ps) l s 9)):=by
 intro g H w hw;refine qe Tryz.func193 Tryz.ntmps193 hw ?_;have b3:=zJH I;obtain ⟨W,c0,a6⟩:=hx.set;obtain ⟨K,b9,a5⟩:=hx.rem;obtain ⟨c7,c3,c1,b4⟩:=a5 s;have b5:=hx.fewl;have c8:=zDC (l:=l) (s:=s);refine zR<|QU U U U (fun d=>zA (zN (Qk (Qk<|Xh ((d,.cells #[.map (some r1),.map (some r2),.map (some r3),.slice av n c] 159 (0,0))::[]) .refl<|Qh (zA (zN (Ql<|zU [(1,_),(2,_)] (fun T L0 mz E F b=>∃ (k:Nat) (v:Value) (q:Nat) (L:Go.Kn.Loc),mz=9-k/\E=(4,v)::(5,.int .i64 ((k:Int)+1))::T/\I=F/\(d,.cells #[.map (some r1),.map (some r2),.map (some r3),.slice av n c] 159 (0,0))::L=b/\k<=9/\OwnS 3 1 v q ((unK (onF ps) l s k).flatMap QF) L/\True) ?_ (h:=⟨0,_,0,[],U,U,U,U,jd _,OwnS.nil,trivial⟩))))))))
 rintro mz E F b ⟨k,v,q,L,rfl,rfl,rfl,rfl,hk,o,_⟩;refine Qk (zR (zM<|zC (zN ?_)));refine zI ?_ ?_<;>intro a4
 ·have b8:k<9:=kd a4;refine Qm<|Qa<|Qk<|Ql<|Qk ?_;obtain ⟨c6,c2,a7,z⟩:=a6 (s,(k:Int)+1);dsimp only at a7 z;have c5:=zaj (l:=l) (s:=s) (f:=(k:Int)+1);refine Qh<|zF zcu ?_
  refine zL zh5<|zM ?_
  refine zM<|zV (Zw (ps:=[(0,_),(1,_)]) [_,_] Yx K4 U U)<|zV (Vs (m:=W) (ek:=VE) (a:=(s,(k:Int)+1)) a7 ziz zfN U U (fun _=>.inl c0))<|zQ QV ?_
  refine zM<|zN<|Ql ?_;refine zU [(1,_),(2,_),(5,_),(17,_),(18,_)] (fun T L0 mz E F b=>∃ (j:Nat) (v:Value) (q:Nat) (L:Go.Kn.Loc),mz=(stF l s ((k:Int)+1)).length-j/\E=(4,v)::(19,.int .i64 j)::T/\I=F/\(d,.cells #[.map (some r1),.map (some r2),.map (some r3),.slice av n c] 159 (0,0))::L=b/\j<=(stF l s ((k:Int)+1)).length/\OwnS 3 1 v q ((unK (onF ps) l s k++zin (zGw (onF ps) l s) ((stF l s ((k:Int)+1)).take j)).flatMap QF) L/\True) ?_ (h:=⟨0,v,q,L,U,U,U,U,jd _,by rw [zlJ,jw];exact o,trivial⟩);rintro mz E F b ⟨j,v,q,L,rfl,rfl,rfl,rfl,hj,o,_⟩;refine zR<|zC<|zN<|Qk ?_;refine zI ?_ ?_<;>intro t
  ·have a0:j<(stF l s ((k:Int)+1)).length:=kd t;obtain ⟨p,hp⟩:=z.at a0;refine Qm (Qa (Qk (Ql (zR<|zV (Qs U U QV kE (fun hg=>kB))<|zV (Qo U YH (fun hg=>by exact zJI z hp) U)<|Qv WP U U (fun y=>?_)))));refine zh Km<|zN (zR<|zF XI ?_)
   refine zL zku<|zM<|zV (Vs (m:=K) (ek:=Value.int .i64) (a:=s) c1 Jf ZZ U U (fun _=>.inl b9))<|zV (Zn (us:=[]) (vs:=[_,_]) U U)<|XF (cap:=[]) (vs:=[_,_]) U U znr Zp (zk6.ofV fun F a1 a2=>zCk (cap:=[.pointer (some ⟨d,0,none⟩),.pointer (some ⟨y,0,none⟩)]) (b4.mono a1) kB zAq (fun i hi=>zGQ (b1:=d) (b2:=y) (r1:=r1) (r2:=r2) (r3:=r3) (av:=av) (n:=n) (c:=c) (p:=p) (a2 d _ kJ) (a2 y _ kJ) (hx.on.mono a1) i (zDD hx.sub hi))) U U<|zN ?_
   refine zI ?_ ?_<;>intro u
   ·have hq:=zq9 o kB b5 kB;refine Qh (zM<|zF Zq ?_);refine zL Qr ?_;refine zpb [(0,_)] [QF p.id] QS (fun c4=>?_);refine zpa (_) ([p.id].flatMap QF) (L) U U QS o ⟨U,fun _=>U,zJF⟩ (YJ [p.id]) ?_;intro v9 L9 a3 _;rw [<-jh,js] at a3;refine zA (Qe (Qg (Qa (Qh<|zB<|zM (Qe ?_)))))
    first
    | exact Vx _ _ (L9++[(d,_)]) ⟨(stF l s ((k:Int)+1)).length-(j+1),kB,j+1,_,_,L9,U,U,U,U,kB,by rw [zr2 (P:=zGw (onF ps) l s) hp u];exact a3,trivial⟩ kc (zfD _ _) kH
   refine Qm (Qg (Qa (Qh (zB<|zM (Qe ?_)))))
   first
   | exact zm (h:=⟨(stF l s ((k:Int)+1)).length-(j+1),kB,j+1,_,_,_,U,U,U,U,kB,by rw [zy1 (P:=zGw (onF ps) l s) hp u];exact o,trivial⟩)
  have B:(stF l s ((k:Int)+1)).length<=j:=kd t;rw [QZ rfl B] at o;refine Qy<|Qf<|Qf<|Qj<|Qg<|Qa<|Qh<|zM ?_;refine zB<|zA (Qe ?_)
  exact zm (h:=⟨9-(k+1),kB,k+1,_,_,_,U,U,U,U,kB,by rw [zkA];exact o,trivial⟩)
 have b6:9<=k:=kd a4;have b7:k=9:=kB;subst b7;refine Qy (Qf (Qf (Qj (Qa (zR (zM<|zA (zN (Qq ?_))))))));exact Zc U U (fun w hw=>by obtain ⟨I9,a8,a9,b0⟩:=OwnS.res o QL kC (hw.subL (by repeat (first | exact .refl | refine .drop ?_)));exact ⟨_,I9,[],U,b3.trans a8,a9,b0⟩)
theorem zmD {xs:List Sg}(g:StQ I ps l xs r1 r2 r3 av n c)(s:Int):kg 193 [stA r1 r2 r3 av n c,.int .i64 s] I [] (fun u _j f=>f=[]/\∃ b d,u= .slice b (unK (onF ps) l s 9).length d):=
 (ztN g s).mono fun v F o _ h=>by
  obtain ⟨h1,b,d,h2,_⟩:=h;exact ⟨h1,b,d,h2⟩
theorem zq4 {xs:List Sg}(t:StQ I ps l xs r1 r2 r3 av n c)(j:∀ p∈l,zxR p)(s:Int):kf 143 [stA r1 r2 r3 av n c,.int .i64 s] I (.bool (exB (onF ps) l s)):=by
 intro g H w B;refine qe Tryz.func143 Tryz.ntmps143 B ?_;have b:=zJH I;obtain ⟨K,h,d⟩:=t.rem;obtain ⟨u,c3,o,z⟩:=d s;refine zR<|QU U U U (fun y=>zA<|zN (zR<|zF XI ?_))
 refine zL zku<|zM<|zV (Vs (m:=K) (ek:=Value.int .i64) (a:=s) o Jf ZZ U U (fun _=>.inl h))<|zQ Qt<|zC ?_
 refine zM ?_;refine QI 6 U U U<|zJ (Qo U Ju (fun hg=>by exact Cells.g0) U)<|zJ (Qd U)<|zmv (cap:=[]) (vs:=[_,_]) U U zyl (fun hg=>zmD t s) ⟨_,U,none,0,U⟩ (.some U U U U gbf) U U ?_
 rintro vv E T f ⟨rfl,a9,c9,rfl⟩;have b:=b.trans f;refine zJ (Zs U Qt)<|zJ (Qx U U U) ?_
 refine Q5 U U U U U ?_;exact zA (zN (Qq<|zp b U U (by rw [<-zHj j])))
end
end Go.Proofs.YtodakphagkommaaGreatDoor.R
