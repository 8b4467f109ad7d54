/- topOrigins_holds, part F of the proof: what its theorems say holds without further conditions. -/
import Derived.Lib.Hide
import Derived.Lib.SlicesCompact
import Derived.Lib.RowBridge
import Derived.Test.YtmbjmjbjdgjonaaGreatDoorTOE
namespace Go.Proofs.YtmbjmjbjdgjonaaGreatDoor.R
section
open Go Go.Kn Go.Proofs
theorem zEy (xs:List Int):(xs.flatMap Q3).length=xs.length:=by rw [ZF Zh,OB]
variable{α:Type}{k:Nat}
theorem zmN {xs:List α}{x:α}{p:α->Bool}(hx:xs[k]? =some x)(h:(xs.take k).all p=true)(hp:p x=true):(xs.take (k+1)).all p=true:=by rw [jP,hx,Au,h];simpa using hp
theorem zmL {xs:List α}{x:α}{p:α->Bool}(hx:xs[k]? =some x)(hp:p x=false):xs.all p=false:=BU.2 ⟨x,jd hx,by rw [hp];decide⟩
theorem zjG {xs:List α}{x:α}{p:α->Bool}(h:(xs.take k).any p=false)(hx:xs[k]? =some x)(hp:p x=true):xs.findIdx p=k:=by have hk:=(jc.1 hx).1;rw [List.findIdx_eq hk];refine ⟨by rw [(jc.1 hx).2];exact hp,fun j hj=>?_⟩;have:=jJ.1 h xs[j] (by rw [Af];exact ⟨j,kB,U⟩);simpa using this
theorem JX {xs:List α}{x:α}{p:α->Bool}(h:(xs.take k).any p=false)(hx:xs[k]? =some x)(hp:p x=true):Wx p xs=k:=by unfold Wx;rw [UO hx hp,jb rfl,zjG h hx hp]
theorem zut {xs:List α}{p:α->Bool}(h:xs.any p=true):∃ i x,Wx p xs=(i:Nat)/\xs[i]? =some x/\p x=true/\i<xs.length:=by obtain ⟨x,hx,hp⟩:=ju.1 h;have hl:=Bp ⟨x,hx,hp⟩;exact ⟨xs.findIdx p,xs[xs.findIdx p],by unfold Wx;rw [h];rfl,je hl,List.findIdx_getElem,hl⟩
theorem zCx {α:Type}{p:α->Bool}:∀ {xs:List α} {k:Nat},(xs.take k).all p=true->k<=xs.length->(∀ y,xs[k]? =some y->p y=false)->xs.takeWhile p=xs.take k/\xs.dropWhile p=xs.drop k
 | [],k,_,hk,_=>by simp
 | x::xs,0,_,_,h=>by
  have:=h x U;simp [this]
 | x::xs,k+1,h,hk,h2=>by
  rw [List.take_succ_cons,List.all_cons,jj] at h;obtain ⟨h3,h4⟩:=zCx h.2 (by simpa using hk) (fun y hy=>h2 y (by simpa using hy));rw [List.takeWhile_cons,BI,jb h.1,jb h.1,h3,h4];exact ⟨U,U⟩
theorem Wg:∀ {xs ys:List Int},xs.Pairwise (· < ·)->ys.Pairwise (· < ·)->(∀ a,a∈xs↔a∈ys)->xs=ys
 | [],[],_,_,_=>rfl
 | [],y::ys,_,_,h=>by have:=(h y).2 (jk ..);cases this
 | x::xs,[],_,_,h=>by have:=(h x).1 (jk ..);cases this
 | x::xs,y::ys,hx,hy,h=>by
  rw [jV] at hx hy
  have e:x=y:=by
   rcases jp.1 ((h x).1 (jk ..)) with e | e
   ·exact e
   ·rcases jp.1 ((h y).2 (jk ..)) with e2 | e2
    ·exact e2.symm
    ·have h1:=hx.1 _ e2;have h2:=hy.1 _ e;omega
  subst e;refine jr _ (Wg hx.2 hy.2 fun a=>?_);constructor
  ·intro ha;rcases jp.1 ((h a).1 (jq _ ha)) with e | e
   ·subst e;have:=hx.1 _ ha;omega
   ·exact e
  ·intro ha;rcases jp.1 ((h a).2 (jq _ ha)) with e | e
   ·subst e;have:=hy.1 _ ha;omega
   ·exact e
theorem zaj:∀ {ys xs:List Int},xs.Pairwise (· < ·)->ys.Pairwise (· < ·)->(∀ a∈xs,a∈ys)->xs.length<=ys.length/\(ys.length<=xs.length->xs=ys)
 | [],[],_,_,_=>⟨js _,fun _=>U⟩
 | [],x::xs,_,_,h=>by have:=h x (jk ..);cases this
 | y::ys,[],_,_,_=>⟨jf _,fun h=>by simp at h⟩
 | y::ys,x::xs,hx,hy,h=>by
  have hx':=jV.1 hx;have hy':=jV.1 hy;by_cases e:x=y
  ·subst e;have:=zaj hx'.2 hy'.2 fun a ha=>(jp.1 (h a (jq _ ha))).elim (fun e=>by subst e;have:=hx'.1 _ ha;omega) id;exact ⟨by simpa using this.1,fun hl=>by rw [this.2 (by simpa using hl)]⟩
  ·have hxy:y<x:=by
    rcases jp.1 (h x (jk ..)) with e2 | e2
    ·exact absurd e2 e
    ·exact hy'.1 _ e2
   have:=(zaj hx hy'.2 fun a ha=>(jp.1 (h a ha)).elim (fun e2=>by
    subst e2;rcases jp.1 ha with e3 | e3
    ·omega
    ·have:=hx'.1 _ e3;omega) id).1
   simp only [jw] at this ⊢;exact ⟨kB,fun hl=>kB⟩
def ZU:Sg:=⟨0,0,0,0,0,0,0,0,0,0,0,0,0,0⟩
instance : DecidableEq Sg := fun a b => decidable_of_iff (WW a b = true) VF
theorem XF (x:Sg):WW x x=true:=VF.2 U
variable{x y:Sg}
theorem zmS (h:WW x y=false):x≠y:=fun e=>by subst e;rw [XF] at h;cases h
structure Pt where
 id:Int
 kind:Int
 sign:Int
 field:Int
 nw:Sg
 a:Option Addr
 n:Nat
 c:Nat
 needs:List Int
def Yh (p:Pt):List Value:=[.int .i64 p.id,.int .i64 p.kind,.int .i64 p.sign,.int .i64 p.field,.int .i64 p.nw.id,.int .i64 p.nw.role,.int .i64 p.nw.bar,.int .i64 p.nw.mark,.int .i64 p.nw.kind,.int .i64 p.nw.side,.int .i64 p.nw.dir,.int .i64 p.nw.level,.int .i64 p.nw.size,.int .i64 p.nw.wth,.int .i64 p.nw.fn,.int .i64 p.nw.fd,.int .i64 p.nw.tn,.int .i64 p.nw.td,.slice p.a p.n p.c]
def UI (p:Pt):Value:=.agg (Yh p).toArray
theorem Yd (x:Pt):(Yh x).length=19:=rfl
theorem zgh (xs:List Pt):YP (xs.flatMap Yh)=true:=Vb (fun _=>U) xs
def zaV:Pt:=⟨0,0,0,0,ZU,none,0,0,[]⟩
def Nd (I:Qt)(p:Pt):Prop:=Sl I 1 Q3 p.a p.n p.c p.needs
variable{I I':Qt}{p:Pt}
theorem Nd.mono (h:Nd I p)(hI:HLe I I'):Nd I' p:=Sl.mono h hI
def SlP (I:Qt)(av:Option Addr)(n c:Nat)(ps:List Pt):Prop:=Sl I 19 Yh av n c ps/\∀ p∈ps,Nd I p
variable{av:Option Addr}{n c:Nat}{ps:List Pt}
theorem SlP.mono (h:SlP I av n c ps)(hI:HLe I I'):SlP I' av n c ps:=⟨h.1.mono hI,fun p hp=>(h.2 p hp).mono hI⟩
theorem SlP.nil :SlP I av 0 c []:=⟨.nil,fun p hp=>by cases hp⟩
theorem SlP.len (h:SlP I av n c ps):ps.length=n:=h.1.len
theorem SlP.at (h:SlP I av n c ps)(hk:k<n):∃ p,ps[k]? =some p/\Nd I p:=by obtain ⟨p,hp⟩:=h.1.at hk;exact ⟨p,hp,h.2 p (jd hp)⟩
structure Cf where
 sign:Int
 field:Int
 a:Option Addr
 n:Nat
 c:Nat
 ids:List Int
def zoI (x:Cf):List Value:=[.int .i64 x.sign,.int .i64 x.field,.slice x.a x.n x.c]
theorem zpF (x:Cf):(zoI x).length=3:=rfl
theorem zze (xs:List Cf):YP (xs.flatMap zoI)=true:=Vb (fun _=>U) xs
def Cf.key (x:Cf):Int×Int×List Int:=(x.sign,x.field,x.ids)
def SlC (I:Qt)(av:Option Addr)(n c:Nat)(cs:List Cf):Prop:=Sl I 3 zoI av n c cs/\∀ x∈cs,Sl I 1 Q3 x.a x.n x.c x.ids
def skP (xs:List Sg)(i:Nat):Bool:= !(!frm (xs.getD i ZU)||(decide ((i:Int)>0)&&decide ((xs.getD ((i:Int)-1).toNat ZU).id>=(xs.getD i ZU).id)))
def skB (xs:List Sg):Bool:=(List.range xs.length).all (skP xs)
def chkG (xs:List Sg):Int:=if xs.length>4096 then 2 else if skB xs then 0 else 360
def VD (x:Sg)(f:Int)(y:Sg):Sg:=
 if f=1 then {x with role:=y.role} else if f=2 then {x with bar:=y.bar} else if f=3 then {x with mark:=y.mark} else if f=4 then {x with side:=y.side} else if f=5 then {x with dir:=y.dir}
 else if f=6 then {x with level:=y.level} else if f=7 then {x with size:=y.size} else if f=8 then {x with wth:=y.wth} else if f=9 then {x with fn:=y.fn,fd:=y.fd,tn:=y.tn,td:=y.td} else x
def zcG:Sg:=⟨0,0,0,3,9,0,0,0,0,0,0,1,1,2⟩
def ndP (id:Int)(v:List Int)(i:Nat):Bool:= !((decide (v.getD i 0<1)||decide (v.getD i 0>=id))||(decide ((i:Int)>0)&&decide (v.getD i 0<=v.getD ((i:Int)-1).toNat 0)))
def ndB (id:Int)(v:List Int):Bool:=(List.range v.length).all (ndP id v)
def idB (p:Pt):Bool:=(decide (p.id>=1)&&decide (p.id<=1048576))&&(decide (p.sign>=0)&&decide (p.sign<=1048576))
def WG (p:Pt):Bool:=
 if p.kind=1 then Zu p.field 1 9&&(WW (VD p.nw p.field ZU) ZU&&frm (VD zcG p.field p.nw))
 else if p.kind=2 then p.field==0&&(p.nw.id==p.sign&&frm p.nw)
 else if p.kind=3 then p.field==0&&WW p.nw ZU else false
def Jw (p:Pt):Int:=if p.needs.length>32 then 2 else if ndB p.id p.needs&&(idB p&&WG p) then 0 else 370
def orF:List Int->Int
 | []=>0
 | x::xs=>if x≠0 then x else orF xs
theorem Ve:∀ {xs:List Int},orF xs=0↔ ∀ x∈xs,x=0
 | []=>by simp [orF]
 | x::xs=>by
  unfold orF;by_cases h:x=0
  ·rw [ja (by simpa using h),Ve];simp [h]
  ·rw [jb h];simp [h]
theorem ziu {xs:List Int}{x:Int}(hx:xs[k]? =some x)(h:orF (xs.take k)=0)(hne:x≠0):orF xs=x:=by
 induction xs generalizing k with
 | nil=>simp at hx
 | cons y ys ih=>
  cases k with
  | zero=>
   simp at hx;subst hx;unfold orF;rw [jb hne]
  | succ k=>
   rw [List.take_succ_cons] at h;unfold orF at h ⊢;by_cases hy:y=0
   ·rw [ja (by simpa using hy)] at h ⊢;exact ih (by simpa using hx) h
   ·rw [jb hy] at h;exact absurd h hy
def onS (f:Int->Int->Bool)(p:Pt):Int->Int->Bool:=fun a b=>if a=p.id then p.needs.any (fun n=>n==b||f n b) else f a b
def onF (ps:List Pt):Int->Int->Bool:=ps.foldl onS (fun _ _=>false)
def zbZ (ps:List Pt)(n:Int):Bool:=ps.any (fun q=>q.id==n)
def lsP (ps:List Pt)(i:Nat):Bool:= !((decide ((i:Int)>0)&&decide ((ps.getD i zaV).id<=(ps.getD ((i:Int)-1).toNat zaV).id))||(ps.getD i zaV).needs.any (fun n=> !zbZ ps n))
def lsB (ps:List Pt):Bool:=(List.range ps.length).all (lsP ps)
def zph (p q:Pt)(on:Bool):Bool:=if p.sign≠q.sign then true else if q.kind=2 then p.kind != 2&&on else if q.kind=3 then !on else true
def zjX (ps:List Pt):Bool:=ps.all fun p=>ps.all fun q=>p.id==q.id||zph p q (onF ps p.id q.id)
def KV (ps:List Pt):Int:=if ps.length>512 then 2 else if orF (ps.map Jw)≠0 then orF (ps.map Jw) else if lsB ps&&zjX ps then 0 else 380
structure Lst (ps:List Pt):Prop where
 pos:∀ p∈ps,1<=p.id
 inc:ps.Pairwise (fun p q=>p.id<q.id)
 has:∀ p∈ps,∀ n∈p.needs,n<p.id/\∃ q∈ps,q.id=n
theorem Jj {n:Int}:zbZ ps n=true↔ ∃ q∈ps,q.id=n:=by unfold zbZ;rw [ju];simp
variable{q:Pt}
theorem Lst.uniq (h:Lst ps)(hp:p∈ps)(hq:q∈ps)(e:p.id=q.id):p=q:=by
 obtain ⟨i,hi⟩:=jC hp;obtain ⟨j,hj⟩:=jC hq;obtain ⟨hi1,hi2⟩:=jc.1 hi;obtain ⟨hj1,hj2⟩:=jc.1 hj;by_cases hij:i=j
 ·subst hij;rw [hi] at hj;exact Ob hj
 ·rcases Nat.lt_or_gt_of_ne hij with hlt | hlt
  ·have:=jM.1 h.inc i j hi1 hj1 hlt;rw [hi2,hj2] at this;omega
  ·have:=jM.1 h.inc j i hj1 hi1 hlt;rw [hi2,hj2] at this;omega
variable{a b:Int}
theorem znG {f:Int->Int->Bool}(h:a≠p.id):onS f p a b=f a b:=by unfold onS;rw [ja h]
theorem Wf:∀ (ps:List Pt) {f:Int->Int->Bool} {a b:Int},(∀ p∈ps,p.id≠a)->ps.foldl onS f a b=f a b
 | [],_,_,_,_=>rfl
 | p::ps,f,a,b,h=>by
  rw [Of,Wf ps (fun q hq=>h q (jq _ hq)),znG (fun e=>h p (jk ..) e.symm)]
theorem zp6 (h:∀ p∈ps,p.id≠a):onF ps a b=false:=Wf ps h
variable{qs:List Pt}
theorem zfF (h:∀ q∈qs,q.id≠p.id):onF (ps++p::qs) p.id b=p.needs.any (fun n=>n==b||onF ps n b):=by unfold onF;rw [Od,Of,Wf qs h];unfold onS;rw [jb rfl]
theorem zjt (h:∀ q∈qs,q.id≠a):onF (ps++qs) a b=onF ps a b:=by unfold onF;rw [Od,Wf qs h]
theorem Lst.tail_ne (h:Lst (ps++p::qs)):(∀ q∈qs,p.id<q.id)/\(∀ q∈ps,q.id<p.id):=by have h1:=h.inc;rw [Ov] at h1;exact ⟨(jV.1 h1.2.1).1,fun q hq=>h1.2.2 q hq p (jk ..)⟩
theorem zbc {xs:List α}{f g:α->Bool}(h:∀ x∈xs,f x=g x):xs.any f=xs.any g:=by
 induction xs with
 | nil=>rfl
 | cons x xs ih=>rw [List.any_cons,List.any_cons,h x (jk ..),ih fun y hy=>h y (jq _ hy)]
theorem Lst.on (h:Lst ps)(hp:p∈ps)(b:Int):onF ps p.id b=p.needs.any (fun n=>n==b||onF ps n b):=by
 obtain ⟨l,r,rfl⟩:=A8 hp;obtain ⟨h1,h2⟩:=h.tail_ne;rw [zfF (fun q hq e=>by have:=h1 q hq;omega)];refine zbc fun n hn=>?_;have hlt:=(h.has p hp n hn).1;rw [zjt (ps:=l) (qs:=p::r)];intro q hq e;rcases jp.1 hq with rfl | hq
 ·omega
 ·have:=h1 q hq;omega
theorem Lst.on_iff (h:Lst ps)(hp:p∈ps):onF ps p.id b=true↔ ∃ n∈p.needs,n=b\/onF ps n b=true:=by rw [h.on hp,ju];simp
theorem zhm (h:onF ps a b=true):∃ p∈ps,p.id=a:=by
 by_cases hx:∃ p∈ps,p.id=a
 ·exact hx
 ·rw [zp6 (fun p hp e=>hx ⟨p,hp,e⟩)] at h;cases h
variable{M:Pt->Prop}
theorem Lst.ind (h:Lst ps)(hs:∀ p∈ps,(∀ q∈ps,q.id<p.id->M q)->M p):∀ p∈ps,M p:=by
 have key:∀ (m:Nat) (q:Pt),q∈ps->q.id.toNat<=m->M q:=by
  intro m
  induction m with
  | zero=>
   intro q hq hm;have:=h.pos q hq;omega
  | succ m ih=>
   intro q hq hm;exact hs q hq fun r hr hlt=>ih r hr (by have:=h.pos r hr;omega)
 exact fun p hp=>key _ p hp (js _)
theorem Lst.on_lt (h:Lst ps)(hon:onF ps a b=true):b<a/\∃ q∈ps,q.id=b:=by
 obtain ⟨p,hp,rfl⟩:=zhm hon
 revert hon
 refine h.ind (M:=fun p=>onF ps p.id b=true->b<p.id/\∃ q∈ps,q.id=b) (fun p hp ih hon=>?_) p hp;obtain ⟨n,hn,e⟩:=(h.on_iff hp).1 hon;obtain ⟨h1,q,hq,rfl⟩:=h.has p hp n hn;rcases e with rfl | e
 ·exact ⟨h1,q,hq,U⟩
 ·have:=ih q hq h1 e;exact ⟨kB,this.2⟩
theorem Lst.on_irr (h:Lst ps):onF ps a a=false:=by
 cases hon:onF ps a a with
 | false=>rfl
 | true=>have:=(h.on_lt hon).1;omega
theorem Lst.on_trans (h:Lst ps){c:Int}(h1:onF ps a b=true)(h2:onF ps b c=true):onF ps a c=true:=by
 obtain ⟨p,hp,rfl⟩:=zhm h1
 revert h1
 refine h.ind (M:=fun p=>onF ps p.id b=true->onF ps p.id c=true) (fun p hp ih hon=>?_) p hp;obtain ⟨n,hn,e⟩:=(h.on_iff hp).1 hon;obtain ⟨hlt,q,hq,rfl⟩:=h.has p hp n hn;rcases e with rfl | e
 ·exact (h.on_iff hp).2 ⟨_,hn,.inr h2⟩
 ·exact (h.on_iff hp).2 ⟨_,hn,.inr (ih q hq hlt e)⟩
theorem Lst.on_need (h:Lst ps)(hp:p∈ps){n:Int}(hn:n∈p.needs):onF ps p.id n=true:=(h.on_iff hp).2 ⟨n,hn,.inl U⟩
theorem Lst.part (h:Lst ps){f:Pt->Bool}(hc:∀ p∈ps,f p=true->∀ q∈ps,q.id∈p.needs->f q=true):Lst (ps.filter f):=
 ⟨fun p hp=>h.pos p (jF.1 hp).1,h.inc.filter f,fun p hp n hn=>by
  obtain ⟨hp1,hp2⟩:=jF.1 hp;obtain ⟨h1,q,hq,rfl⟩:=h.has p hp1 n hn
  exact ⟨h1,q,jF.2 ⟨hq,hc p hp1 hp2 q hq hn⟩,U⟩⟩
theorem Lst.on_part (h:Lst ps){f:Pt->Bool}(hc:∀ p∈ps,f p=true->∀ q∈ps,q.id∈p.needs->f q=true)(hp:p∈ps)(hf:f p=true):onF (ps.filter f) p.id b=onF ps p.id b:=by
 have hL:=h.part hc
 revert hf
 refine h.ind (M:=fun p=>f p=true->onF (ps.filter f) p.id b=onF ps p.id b) (fun p hp ih hf=>?_) p hp;rw [hL.on (jF.2 ⟨hp,hf⟩),h.on hp];refine zbc fun n hn=>?_;obtain ⟨h1,q,hq,rfl⟩:=h.has p hp n hn;rw [ih q hq h1 (hc p hp hf q hq hn)]
def zuS (v:List Int):Bool:=(List.range v.length).all fun i=> !(decide ((i:Int)>0)&&decide (v.getD i 0<=v.getD ((i:Int)-1).toNat 0))
variable{v:List Int}
theorem zoN :zuS v=true↔v.Pairwise (· < ·):=by
 unfold zuS;constructor
 ·intro h;refine Ky (R:=fun a b:Int=>a<b) (fun a b c h1 h2=>Int.lt_trans h1 h2) fun k hk=>?_;rw [ji] at h;have h1:=h (k+1) (jm.2 hk);rw [show (((k+1:Nat):Int)-1).toNat=k by omega,Q1 (je hk),Q1 (je (show k<v.length by omega))] at h1;simp at h1;omega
 ·intro h;rw [ji];intro k hk;rw [jm] at hk
  cases k with
  | zero=>rfl
  | succ k=>
   rw [show (((k+1:Nat):Int)-1).toNat=k by omega,Q1 (je hk),Q1 (je (show k<v.length by omega))];have:=jM.1 h k (k+1) kB hk kB;simp;omega
def chB (ps:List Pt)(ids:List Int):Bool:=zuS ids&&ids.all (zbZ ps)
def zhp (ps:List Pt)(ids:List Int):List Int:=(ps.filter fun p=>ids.any fun n=>n==p.id||onF ps n p.id).map (·.id)
def zoG (ps:List Pt)(v:List Int):Bool:=chB ps v&&zhh (zhp ps v) v
theorem zcF (h:Lst ps)(f:Pt->Bool):((ps.filter f).map (·.id)).Pairwise (· < ·):=by rw [OV];exact h.inc.filter f
theorem zcd {f:Pt->Bool}{x:Int}:x∈(ps.filter f).map (·.id)↔ ∃ p∈ps,f p=true/\p.id=x:=by
 rw [jt];constructor
 ·rintro ⟨p,hp,e⟩;exact ⟨p,(jF.1 hp).1,(jF.1 hp).2,e⟩
 ·rintro ⟨p,hp,hf,e⟩;exact ⟨p,jF.2 ⟨hp,hf⟩,e⟩
structure Ver (ps:List Pt)(v:List Int):Prop where
 inc:v.Pairwise (· < ·)
 sub:∀ x∈v,∃ p∈ps,p.id=x
 need:∀ p∈ps,p.id∈v->∀ n∈p.needs,n∈v
theorem Ver.on (h:Lst ps)(hv:Ver ps v)(ha:a∈v)(hon:onF ps a b=true):b∈v:=by
 obtain ⟨p,hp,rfl⟩:=zhm hon
 revert hon ha
 refine h.ind (M:=fun p=>p.id∈v->onF ps p.id b=true->b∈v) (fun p hp ih ha hon=>?_) p hp;obtain ⟨n,hn,e⟩:=(h.on_iff hp).1 hon;have hnv:=hv.need p hp ha n hn;rcases e with rfl | e
 ·exact hnv
 ·obtain ⟨hlt,q,hq,rfl⟩:=h.has p hp n hn;exact ih q hq hlt hnv e
variable{ids:List Int}
theorem zab {x:Int}:x∈zhp ps ids↔(∃ p∈ps,p.id=x)/\∃ n∈ids,n=x\/onF ps n x=true:=by
 unfold zhp;rw [zcd];constructor
 ·rintro ⟨p,hp,hf,rfl⟩;rw [ju] at hf;obtain ⟨n,hn,e⟩:=hf;exact ⟨⟨p,hp,U⟩,n,hn,by simpa using e⟩
 ·rintro ⟨⟨p,hp,rfl⟩,n,hn,e⟩;exact ⟨p,hp,ju.2 ⟨n,hn,by simpa using e⟩,U⟩
theorem Wc (h:Lst ps)(ids:List Int):(zhp ps ids).Pairwise (· < ·):=zcF h _
theorem zgf :chB ps ids=true↔ids.Pairwise (· < ·)/\∀ x∈ids,∃ p∈ps,p.id=x:=by unfold chB;rw [jj,zoN,ji];exact ⟨fun h=>⟨h.1,fun x hx=>Jj.1 (h.2 x hx)⟩,fun h=>⟨h.1,fun x hx=>Jj.2 (h.2 x hx)⟩⟩
theorem zvz (h:Lst ps)(ids:List Int):Ver ps (zhp ps ids) where
 inc:=Wc h ids
 sub:=fun x hx=>(zab.1 hx).1
 need:=fun p hp hpv m hm=>by
  obtain ⟨_,n,hn,e⟩:=zab.1 hpv;obtain ⟨_,q,hq,rfl⟩:=h.has p hp m hm;refine zab.2 ⟨⟨q,hq,U⟩,n,hn,.inr ?_⟩;rcases e with rfl | e
  ·exact h.on_need hp hm
  ·exact h.on_trans e (h.on_need hp hm)
theorem zjE (h:Lst ps)(hv:Ver ps v):zhp ps v=v:=
 Wg (Wc h v) hv.inc fun a=>by
  rw [zab];constructor
  ·rintro ⟨_,n,hn,rfl | e⟩
   ·exact hn
   ·exact hv.on h hn e
  ·intro ha;exact ⟨hv.sub a ha,a,ha,.inl U⟩
theorem Xt (h:Lst ps):zoG ps v=true↔Ver ps v:=by
 unfold zoG;rw [jj,zgf];constructor
 ·rintro ⟨⟨h1,h2⟩,h3⟩;have e:zhp ps v=v:=Oi h3;have:=zvz h v;rwa [e] at this
 ·intro hv;exact ⟨⟨hv.inc,hv.sub⟩,jX (zjE h hv)⟩
theorem zxo (h:Lst ps)(hc:chB ps v=true):decide ((zhp ps v).length≠v.length)= !zoG ps v:=by
 have hsub:∀ x∈v,x∈zhp ps v:=fun x hx=>zab.2 ⟨(zgf.1 hc).2 x hx,x,hx,.inl U⟩;have hnd:=(zgf.1 hc).1;unfold zoG;rw [hc,OM];by_cases e:zhp ps v=v
 ·rw [show zhh (zhp ps v) v=true from jX e,e];simp
 ·rw [show zhh (zhp ps v) v=false from j1 e];refine jX fun hl=>e ?_;exact ((zaj hnd (Wc h v) hsub).2 kB).symm
theorem znw (h0:orF (ps.map Jw)=0)(h:lsB ps=true):Lst ps:=by
 have hk:∀ p∈ps,ndB p.id p.needs=true/\idB p=true/\WG p=true:=fun p hp=>by
  have h1:=Ve.1 h0 (Jw p) (jt.2 ⟨p,hp,U⟩);unfold Jw at h1;split at h1
  ·cases h1
  ·split at h1
   ·rename_i h2;simpa [jj] using h2
   ·cases h1
 unfold lsB at h;rw [ji] at h;refine ⟨fun p hp=>?_,?_,fun p hp n hn=>?_⟩
 ·have:=(hk p hp).2.1;unfold idB at this;simp at this;omega
 ·refine Ky (R:=fun p q:Pt=>p.id<q.id) (fun a b c h1 h2=>Int.lt_trans h1 h2) fun k hk=>?_;have h1:=h (k+1) (jm.2 hk);unfold lsP at h1;rw [show (((k+1:Nat):Int)-1).toNat=k by omega,Q1 (je hk),Q1 (je (show k<ps.length by omega))] at h1;simp at h1;have:=h1.1;omega
 ·obtain ⟨k,hk1,rfl⟩:=BD.1 hp;have h1:=h k (jm.2 hk1);unfold lsP at h1;rw [Q1 (je hk1)] at h1;simp at h1;refine ⟨?_,Jj.1 (h1.2 n hn)⟩;obtain ⟨j,hj,rfl⟩:=BD.1 hn;have h2:=(hk _ hp).1;unfold ndB at h2;rw [ji] at h2;have h3:=h2 j (jm.2 hj);unfold ndP at h3;rw [Q1 (je hj)] at h3;simp at h3;omega
theorem K7 (h:KV ps=0):ps.length<=512/\orF (ps.map Jw)=0/\lsB ps=true/\zjX ps=true:=by
 unfold KV at h;split at h
 ·cases h
 ·split at h
  ·contradiction
  ·split at h
   ·rename_i h1 h2 h3;rw [jj] at h3;exact ⟨kB,kB,h3⟩
   ·cases h
theorem K6 (h:KV ps=0):Lst ps:=znw (K7 h).2.1 (K7 h).2.2.1
def Srt (xs:List Sg):Prop:=xs.Pairwise fun a b=>a.id<b.id
def QW (xs:List Sg)(s:Int):Option Sg:=xs.find? fun x=>x.id==s
variable{s:Int}
theorem W7 :QW [] s=none:=rfl
variable{xs:List Sg}
theorem ZK :QW (x::xs) s=if x.id=s then some x else QW xs s:=by
 unfold QW;rw [OZ];by_cases h:x.id=s
 ·rw [jb h,show (x.id==s)=true by simpa using h]
 ·rw [ja h,show (x.id==s)=false by simpa using h]
theorem Vr (h:QW xs s=some x):x.id=s:=by have:=Av h;simpa using this
theorem JQ (h:QW xs s=some x):x∈xs:=OA h
theorem KN :QW xs s=none↔ ∀ x∈xs,x.id≠s:=by unfold QW;rw [Or];simp
theorem WD (h:Srt xs)(hx:x∈xs):QW xs x.id=some x:=by
 induction xs with
 | nil=>cases hx
 | cons y ys ih=>
  rw [ZK];have h':=jV.1 h;rcases jp.1 hx with rfl | hx
  ·rw [jb rfl]
  ·rw [ja (by have:=h'.1 x hx;omega)];exact ih h'.2 hx
variable{ys:List Sg}
theorem zgR (hx:Srt xs)(hy:Srt ys)(h:∀ s,QW xs s=QW ys s):xs=ys:=by
 have hm:∀ {xs ys:List Sg},Srt xs->(∀ s,QW xs s=QW ys s)->∀ a∈xs,a∈ys:=fun {xs ys} h1 h2 a ha=>JQ (by rw [<-h2];exact WD h1 ha);have h1:=hm hx h;have h2:=hm hy (fun s=>(h s).symm);clear hm h
 induction xs generalizing ys with
 | nil=>
  cases ys with
  | nil=>rfl
  | cons y ys=>have:=h2 y (jk ..);cases this
 | cons x xs ih=>
  cases ys with
  | nil=>have:=h1 x (jk ..);cases this
  | cons y ys=>
   have hx':=jV.1 hx;have hy':=jV.1 hy
   have e:x=y:=by
    rcases jp.1 (h1 x (jk ..)) with e | e
    ·exact e
    ·rcases jp.1 (h2 y (jk ..)) with e2 | e2
     ·exact e2.symm
     ·have h3:=hx'.1 _ e2;have h4:=hy'.1 _ e;omega
   subst e;refine jr _ (ih hx'.2 hy'.2 (fun a ha=>?_) (fun a ha=>?_))
   ·rcases jp.1 (h1 a (jq _ ha)) with e | e
    ·subst e;have:=hx'.1 _ ha;omega
    ·exact e
   ·rcases jp.1 (h2 a (jq _ ha)) with e | e
    ·subst e;have:=hy'.1 _ ha;omega
    ·exact e
theorem VL (h:skB xs=true):Srt xs:=by unfold skB at h;rw [ji] at h;refine Ky (R:=fun p q:Sg=>p.id<q.id) (fun a b c h1 h2=>Int.lt_trans h1 h2) fun k hk=>?_;have h1:=h (k+1) (jm.2 hk);unfold skP at h1;rw [show (((k+1:Nat):Int)-1).toNat=k by omega,Q1 (je hk),Q1 (je (show k<xs.length by omega))] at h1;simp at h1;have:=h1.2;omega
theorem zx1 (h:skB xs=true)(hx:x∈xs):frm x=true:=by unfold skB at h;rw [ji] at h;obtain ⟨k,hk,rfl⟩:=BD.1 hx;have h1:=h k (jm.2 hk);unfold skP at h1;rw [Q1 (je hk)] at h1;simp at h1;exact h1.1
theorem Y5 (h:chkG xs=0):xs.length<=4096/\skB xs=true:=by
 unfold chkG at h;split at h
 ·cases h
 ·split at h
  ·rename_i h1 h2;exact ⟨kB,h2⟩
  ·cases h
def ze3 (xs:List Sg)(k:Sg):List Sg:=xs.takeWhile (fun x=>decide (x.id<k.id))++k::xs.dropWhile (fun x=>decide (x.id<k.id))
theorem zeD :QW (xs++ys) s=(QW xs s).or (QW ys s):=by unfold QW;rw [AQ]
theorem zjk {k:Sg}(hn:QW xs k.id=none):QW (ze3 xs k) s=if k.id=s then some k else QW xs s:=by
 unfold ze3;rw [zeD,ZK];by_cases h:k.id=s
 ·subst h;have h1:QW (xs.takeWhile fun x=>decide (x.id<k.id)) k.id=none:=KN.2 fun x hx=>KN.1 hn x ((List.takeWhile_sublist _).mem hx);rw [h1,jb rfl,jb rfl];rfl
 ·rw [ja h,ja h,<-zeD,Ow]
theorem zfi (h:Srt xs){k:Int}:∀ x∈xs.dropWhile (fun x=>decide (x.id<k)),k<=x.id:=by
 induction xs with
 | nil=>intro x hx;cases hx
 | cons y ys ih=>
  have h':=jV.1 h;intro x hx;rw [BI] at hx;split at hx
  ·exact ih h'.2 x hx
  ·rename_i hy;have hy:k<=y.id:=(by simpa using hy);rcases jp.1 hx with rfl | hx
   ·exact hy
   ·have:=h'.1 x hx;omega
theorem zfK {k:Int}:∀ x∈xs.takeWhile (fun x=>decide (x.id<k)),x.id<k:=fun x hx=>by
 have:=ji.1 (List.all_takeWhile (l:=xs) (p:=fun x:Sg=>decide (x.id<k))) x hx;simpa using this
theorem zlh (h:Srt xs){k:Sg}(hn:QW xs k.id=none):Srt (ze3 xs k):=by
 have h0:Srt (xs.takeWhile (fun x=>decide (x.id<k.id))++xs.dropWhile (fun x=>decide (x.id<k.id))):=(by rw [Ow];exact h);unfold Srt at h0;rw [Ov] at h0;unfold Srt ze3;rw [Ov,jV];refine ⟨h0.1,⟨fun x hx=>?_,h0.2.1⟩,fun x hx y hy=>?_⟩
 ·have h1:=zfi h x hx;have h2:=KN.1 hn x ((List.dropWhile_sublist _).mem hx);omega
 ·rcases jp.1 hy with rfl | hy
  ·exact zfK x hx
  ·exact h0.2.2 x hx y hy
def ZR (x:Sg)(f:Int):Int×Int×Int×Int:=
 if f=1 then (x.role,0,0,0) else if f=2 then (x.bar,0,0,0) else if f=3 then (x.mark,0,0,0) else if f=4 then (x.side,0,0,0) else if f=5 then (x.dir,0,0,0)
 else if f=6 then (x.level,0,0,0) else if f=7 then (x.size,0,0,0) else if f=8 then (x.wth,0,0,0) else if f=9 then (x.fn,x.fd,x.tn,x.td) else (0,0,0,0)
def isF (f:Int):Prop:=1<=f/\f<=9
variable{f:Int}
theorem Xd (h:isF f):f=1\/f=2\/f=3\/f=4\/f=5\/f=6\/f=7\/f=8\/f=9:=by unfold isF at h;omega
theorem zib :(VD x f y).id=x.id:=by unfold VD;(repeat' split)<;>rfl
theorem zjf :(VD x f y).kind=x.kind:=by unfold VD;(repeat' split)<;>rfl
variable{g:Int}
theorem zrq :ZR (VD x 1 y) g=if g=1 then ZR y g else ZR x g:=by
 rw [show VD x 1 y= {x with role:=y.role} from U];by_cases hg:g=1
 ·subst hg;rfl
 ·rw [ja hg];unfold ZR;simp only [ja hg]
theorem zpW :ZR (VD x 2 y) g=if g=2 then ZR y g else ZR x g:=by
 rw [show VD x 2 y= {x with bar:=y.bar} from U];by_cases hg:g=2
 ·subst hg;rfl
 ·rw [ja hg];unfold ZR;simp only [ja hg]
theorem zoV :ZR (VD x 3 y) g=if g=3 then ZR y g else ZR x g:=by
 rw [show VD x 3 y= {x with mark:=y.mark} from U];by_cases hg:g=3
 ·subst hg;rfl
 ·rw [ja hg];unfold ZR;simp only [ja hg]
theorem zp5 :ZR (VD x 4 y) g=if g=4 then ZR y g else ZR x g:=by
 rw [show VD x 4 y= {x with side:=y.side} from U];by_cases hg:g=4
 ·subst hg;rfl
 ·rw [ja hg];unfold ZR;simp only [ja hg]
theorem zpg :ZR (VD x 5 y) g=if g=5 then ZR y g else ZR x g:=by
 rw [show VD x 5 y= {x with dir:=y.dir} from U];by_cases hg:g=5
 ·subst hg;rfl
 ·rw [ja hg];unfold ZR;simp only [ja hg]
theorem zqq :ZR (VD x 6 y) g=if g=6 then ZR y g else ZR x g:=by
 rw [show VD x 6 y= {x with level:=y.level} from U];by_cases hg:g=6
 ·subst hg;rfl
 ·rw [ja hg];unfold ZR;simp only [ja hg]
theorem zo6 :ZR (VD x 7 y) g=if g=7 then ZR y g else ZR x g:=by
 rw [show VD x 7 y= {x with size:=y.size} from U];by_cases hg:g=7
 ·subst hg;rfl
 ·rw [ja hg];unfold ZR;simp only [ja hg]
theorem zoU :ZR (VD x 8 y) g=if g=8 then ZR y g else ZR x g:=by
 rw [show VD x 8 y= {x with wth:=y.wth} from U];by_cases hg:g=8
 ·subst hg;rfl
 ·rw [ja hg];unfold ZR;simp only [ja hg]
theorem zrz :ZR (VD x 9 y) g=if g=9 then ZR y g else ZR x g:=by
 rw [show VD x 9 y= {x with fn:=y.fn,fd:=y.fd,tn:=y.tn,td:=y.td} from U];by_cases hg:g=9
 ·subst hg;rfl
 ·rw [ja hg];unfold ZR;simp only [ja hg]
theorem X7 (hf:isF f):ZR (VD x f y) g=if g=f then ZR y g else ZR x g:=by
 rcases Xd hf with rfl | rfl | rfl | rfl | rfl | rfl | rfl | rfl | rfl
 ·exact zrq
 ·exact zpW
 ·exact zoV
 ·exact zp5
 ·exact zpg
 ·exact zqq
 ·exact zo6
 ·exact zoU
 ·exact zrz
theorem ztx (h1:x.id=y.id)(h2:x.kind=y.kind)(h:∀ f,isF f->ZR x f=ZR y f):x=y:=by have e1:x.role=y.role:=jr (fun p=>p.1) (show ((x.role,0,0,0):Int×Int×Int×Int)=(y.role,0,0,0) from h 1 ⟨by decide,by decide⟩);have e2:x.bar=y.bar:=jr (fun p=>p.1) (show ((x.bar,0,0,0):Int×Int×Int×Int)=(y.bar,0,0,0) from h 2 ⟨by decide,by decide⟩);have e3:x.mark=y.mark:=jr (fun p=>p.1) (show ((x.mark,0,0,0):Int×Int×Int×Int)=(y.mark,0,0,0) from h 3 ⟨by decide,by decide⟩);have e4:x.side=y.side:=jr (fun p=>p.1) (show ((x.side,0,0,0):Int×Int×Int×Int)=(y.side,0,0,0) from h 4 ⟨by decide,by decide⟩);have e5:x.dir=y.dir:=jr (fun p=>p.1) (show ((x.dir,0,0,0):Int×Int×Int×Int)=(y.dir,0,0,0) from h 5 ⟨by decide,by decide⟩);have e6:x.level=y.level:=jr (fun p=>p.1) (show ((x.level,0,0,0):Int×Int×Int×Int)=(y.level,0,0,0) from h 6 ⟨by decide,by decide⟩);have e7:x.size=y.size:=jr (fun p=>p.1) (show ((x.size,0,0,0):Int×Int×Int×Int)=(y.size,0,0,0) from h 7 ⟨by decide,by decide⟩);have e8:x.wth=y.wth:=jr (fun p=>p.1) (show ((x.wth,0,0,0):Int×Int×Int×Int)=(y.wth,0,0,0) from h 8 ⟨by decide,by decide⟩);have e9:(x.fn,x.fd,x.tn,x.td)=(y.fn,y.fd,y.tn,y.td):=h 9 ⟨by decide,by decide⟩;obtain ⟨a1,a2,a3,a4,a5,a6,a7,a8,a9,a10,a11,a12,a13,a14⟩:=x;obtain ⟨b1,b2,b3,b4,b5,b6,b7,b8,b9,b10,b11,b12,b13,b14⟩:=y;cases h1;cases h2;cases e1;cases e2;cases e3;cases e4;cases e5;cases e6;cases e7;cases e8;cases e9;rfl
def rmF (l:List Pt)(s:Int):List Int:=(l.filter fun p=>p.kind==3&&p.sign==s).map (·.id)
def stF (l:List Pt)(s f:Int):List Pt:=l.filter fun p=>p.kind==1&&(p.sign==s&&p.field==f)
def unB (on:Int->Int->Bool)(l:List Pt)(p:Pt):Bool:=p.kind==1&&(rmF l p.sign).any fun i=> !on i p.id
def unF (on:Int->Int->Bool)(l:List Pt)(s:Int):List Pt:=l.filter fun p=>p.sign==s&&unB on l p
def exB (on:Int->Int->Bool)(l:List Pt)(s:Int):Bool:=(rmF l s).isEmpty|| !(unF on l s).isEmpty
def VQ (on:Int->Int->Bool)(l:List Pt)(s f:Int):List Pt:=(stF l s f).filter fun p=> !(stF l s f).any fun q=>on q.id p.id
def zoL (x:Sg)(f:Int):List Pt->Sg
 | []=>x
 | p::_=>VD x f p.nw
def zeG (on:Int->Int->Bool)(l:List Pt)(x:Sg)(k:Nat):Sg:=(List.range k).foldl (fun y (j:Nat)=>zoL y ((j:Int)+1) (VQ on l x.id ((j:Int)+1))) x
def zf6 (on:Int->Int->Bool)(l:List Pt)(x:Sg):Sg:=zeG on l x 9
def Uo (base:List Sg)(l:List Pt):List Sg:=l.foldl (fun s p=>if p.kind=2 then ze3 s p.nw else s) base
def zaL (on:Int->Int->Bool)(base:List Sg)(l:List Pt):List Sg:=((Uo base l).filter fun x=>exB on l x.id).map (zf6 on l)
def ZY (ps:List Pt)(v:List Int):List Pt:=ps.filter fun p=>v.any (· ==p.id)
def WK (xs:List Sg)(s:Int):Bool:=xs.any fun x=>x.id==s
def zf7 (l:List Pt)(s:Int):Bool:=l.any fun q=>q.kind==2&&q.sign==s
def zoR (base:List Sg)(l:List Pt)(p:Pt):Bool:= !((p.kind==2&&WK base p.sign)||(p.kind != 2&& !WK base p.sign)&& !zf7 l p.sign)
def zbo (base:List Sg)(l:List Pt):Bool:=l.all (zoR base l)
def WZ (ps:List Pt)(base:List Sg)(v:List Int):Int:=if KV ps≠0 then KV ps else if chkG base≠0 then chkG base else if v.length>512 then 2 else if zoG ps v&&zbo base (ZY ps v) then 0 else 380
def zaY (ps:List Pt)(base:List Sg)(v:List Int):Int:=if WZ ps base v≠0 then WZ ps base v else if (zaL (onF ps) base (ZY ps v)).length>4096 then 2 else 0
def zcz (ps:List Pt)(base:List Sg)(v:List Int):List Sg:=zoJ (zaY ps base v) (zaL (onF ps) base (ZY ps v))
def zkz:List Pt->Bool
 | []=>false
 | p::ps=>ps.any fun q=> !WW q.nw p.nw
abbrev Ck:=Int×Int×List Int
def cf0 (on:Int->Int->Bool)(l:List Pt)(s:Int):List Ck:=if (unF on l s).isEmpty then [] else [(s,0,(l.filter fun p=>p.sign==s&&(unB on l p||p.kind==3)).map (·.id))]
def cfK (on:Int->Int->Bool)(l:List Pt)(s f:Int):List Ck:=if exB on l s&&zkz (VQ on l s f) then [(s,f,(VQ on l s f).map (·.id))] else []
def cfS (on:Int->Int->Bool)(l:List Pt)(s:Int):List Ck:=cf0 on l s++(List.range 9).flatMap fun (k:Nat)=>cfK on l s ((k:Int)+1)
def cfL (on:Int->Int->Bool)(base:List Sg)(l:List Pt):List Ck:=(Uo base l).flatMap fun x=>cfS on l x.id
def zyg (ps:List Pt)(base:List Sg)(v:List Int):List Ck:=zoJ (zaY ps base v) (cfL (onF ps) base (ZY ps v))
structure zmG (p:Pt):Prop where
 pos:1<=p.id/\p.id<=1048576
 sg:0<=p.sign/\p.sign<=1048576
 kind:p.kind=1\/p.kind=2\/p.kind=3
 set:p.kind=1->isF p.field/\VD p.nw p.field ZU=ZU/\frm (VD zcG p.field p.nw)=true
 ins:p.kind=2->p.nw.id=p.sign/\frm p.nw=true
theorem zmT (h:Jw p=0):zmG p:=by
 unfold Jw at h;split at h
 ·cases h
 ·split at h
  ·rename_i h1 h2;rw [jj,jj] at h2;obtain ⟨h3,h4,h5⟩:=h2;unfold idB at h4;unfold WG at h5;simp only [jj,jQ] at h4;refine ⟨kB,kB,?_,fun hk=>?_,fun hk=>?_⟩
   ·split at h5
    ·omega
    ·split at h5
     ·omega
     ·split at h5
      ·omega
      ·cases h5
   ·rw [jb hk] at h5;simp only [jj,Zu,jQ] at h5;exact ⟨⟨h5.1.1,h5.1.2⟩,VF.1 h5.2.1,h5.2.2⟩
   ·rw [ja kB,jb hk] at h5;simp only [jj,j0] at h5;exact h5.2
  ·cases h
structure Sto (ps:List Pt):Prop where
 lst:Lst ps
 ok:∀ p∈ps,zmG p
 tog:∀ p∈ps,∀ q∈ps,p.id≠q.id->zph p q (onF ps p.id q.id)=true
theorem zud (h:zjX ps=true)(hp:p∈ps)(hq:q∈ps)(hne:p.id≠q.id):zph p q (onF ps p.id q.id)=true:=by unfold zjX at h;rw [ji] at h;have h1:=h p hp;rw [ji] at h1;have h2:=h1 q hq;rw [show (p.id==q.id)=false by simpa using hne,OC] at h2;exact h2
theorem W8 (h:KV ps=0):Sto ps:=
 ⟨K6 h,fun p hp=>zmT (Ve.1 (K7 h).2.1 _ (jt.2 ⟨p,hp,U⟩)),fun _p hp _q hq hne=>zud (K7 h).2.2.2 hp hq hne⟩
theorem Sto.ins (h:Sto ps)(hp:p∈ps)(hq:q∈ps)(hs:p.sign=q.sign)(hk:q.kind=2):p=q\/(p.kind≠2/\onF ps p.id q.id=true):=by
 by_cases e:p.id=q.id
 ·exact .inl (h.lst.uniq hp hq e)
 ·have:=h.tog p hp q hq e;unfold zph at this;rw [ja (by simpa using hs),jb hk] at this;simp at this;exact .inr this
theorem Vf :p∈ZY ps v↔p∈ps/\p.id∈v:=by unfold ZY;rw [jF];simp
theorem Ver.closed (hv:Ver ps v):∀ p∈ps,(v.any (· ==p.id))=true->∀ q∈ps,q.id∈p.needs->(v.any (· ==q.id))=true:=fun p hp h q _ hq=>by
 have:p.id∈v:=by simpa using h
 have:=hv.need p hp this _ hq;simpa using this
theorem zh5 (h:Lst ps)(hv:Ver ps v):Lst (ZY ps v):=h.part hv.closed
theorem znd (h:Lst ps)(hv:Ver ps v)(hp:p∈ZY ps v)(b:Int):onF (ZY ps v) p.id b=onF ps p.id b:=
 h.on_part hv.closed (Vf.1 hp).1 (jF.1 hp).2
theorem zdP (h:Sto ps)(hv:Ver ps v):Sto (ZY ps v):=
 ⟨zh5 h.lst hv,fun p hp=>h.ok p (Vf.1 hp).1,fun p hp q hq hne=>by rw [znd h.lst hv hp];exact h.tog p (Vf.1 hp).1 q (Vf.1 hq).1 hne⟩
def zyV (l:List Pt)(on on':Int->Int->Bool):Prop:=∀ p∈l,∀ b,on p.id b=on' p.id b
variable{l:List Pt}
theorem zac {i:Int}:i∈rmF l s↔ ∃ p∈l,p.kind=3/\p.sign=s/\p.id=i:=by unfold rmF;rw [zcd];simp [and_assoc]
theorem JB :p∈stF l s f↔p∈l/\p.kind=1/\p.sign=s/\p.field=f:=by unfold stF;rw [jF];simp
section
variable {l:List Pt} {on on':Int->Int->Bool}
theorem zAt (h:zyV l on on')(p:Pt):unB on l p=unB on' l p:=by unfold unB;congr 1;refine zbc fun i hi=>?_;obtain ⟨q,hq,_,_,rfl⟩:=zac.1 hi;rw [h q hq]
theorem zDa (h:zyV l on on')(s:Int):unF on l s=unF on' l s:=by unfold unF;exact jr (fun f=>l.filter f) (funext fun p=>by rw [zAt h])
theorem zz8 (h:zyV l on on')(s:Int):exB on l s=exB on' l s:=by unfold exB;rw [zDa h]
theorem zuP (h:zyV l on on')(s f:Int):VQ on l s f=VQ on' l s f:=by unfold VQ;refine jr (fun g=>(stF l s f).filter g) (funext fun p=>?_);refine jr _ (zbc fun q hq=>?_);rw [h q (JB.1 hq).1]
theorem zxC (h:zyV l on on')(x:Sg)(k:Nat):zeG on l x k=zeG on' l x k:=by
 unfold zeG;have:(fun (y:Sg) (j:Nat)=>zoL y ((j:Int)+1) (VQ on l x.id ((j:Int)+1)))=fun (y:Sg) (j:Nat)=>zoL y ((j:Int)+1) (VQ on' l x.id ((j:Int)+1)):=funext fun y=>funext fun j=>by rw [zuP h]
 rw [this]
theorem zwg (h:zyV l on on')(base:List Sg):zaL on base l=zaL on' base l:=by unfold zaL;rw [show (fun x:Sg=>exB on l x.id)=fun x=>exB on' l x.id from funext fun x=>zz8 h x.id,show zf6 on l=zf6 on' l from funext fun x=>zxC h x 9]
end
theorem zkD (h:Lst ps)(hv:Ver ps v):zyV (ZY ps v) (onF (ZY ps v)) (onF ps):=fun _ hp b=>znd h hv hp b
theorem zz7 (h:Lst ps):lsB ps=true:=by
 unfold lsB;rw [ji];intro k hk;rw [jm] at hk;have hn:∀ n∈(ps[k]).needs,zbZ ps n=true:=fun n hn=>Jj.2 (h.has _ (OS hk) n hn).2;unfold lsP;rw [Q1 (je hk)];rw [show (ps[k]).needs.any (fun n=> !zbZ ps n)=false from jJ.2 fun n hn'=>by rw [hn n hn'];decide,OL]
 cases k with
 | zero=>rfl
 | succ k=>
  rw [show (((k+1:Nat):Int)-1).toNat=k by omega,Q1 (je (show k<ps.length by omega))];have:=jM.1 h.inc k (k+1) kB hk kB;simp;omega
theorem zyZ (h:Sto ps):zjX ps=true:=by
 unfold zjX;rw [ji];intro p hp;rw [ji];intro q hq;by_cases e:p.id=q.id
 ·rw [show (p.id==q.id)=true by simpa using e];rfl
 ·rw [h.tog p hp q hq e,BY]
theorem ztU (hn:ps.length<=512)(hp:orF (ps.map Jw)=0)(h:Sto ps):KV ps=0:=by unfold KV;rw [ja kB,ja kB,zz7 h.lst,zyZ h];rfl
section
variable {ps:List Pt} {base:List Sg} {v:List Int}
end
theorem U3 :WK xs s=(QW xs s).isSome:=by unfold WK QW;rw [jL,BV,ju]
def Uv (l:List Pt)(s:Int):Option Sg:=(l.find? fun q=>q.kind==2&&q.sign==s).map (·.nw)
theorem ziE :zf7 l s=(Uv l s).isSome:=by unfold zf7 Uv;rw [Option.isSome_map,jL,BV,ju]
theorem Jz (h:Uv l s=some x):∃ q∈l,q.kind=2/\q.sign=s/\q.nw=x:=by unfold Uv at h;rw [jY] at h;obtain ⟨q,hq,rfl⟩:=h;have:=Av hq;simp at this;exact ⟨q,OA hq,this.1,this.2,U⟩
theorem zvw (h:Sto l)(hq:q∈l)(hk:q.kind=2):Uv l q.sign=some q.nw:=by
 cases hf:Uv l q.sign with
 | none=>
  unfold Uv at hf;rw [AM,Or] at hf;have:=hf q hq;simp [hk] at this
 | some x=>
  obtain ⟨r,hr,h1,h2,rfl⟩:=Jz hf;rcases h.ins hr hq h2 hk with e | ⟨e,_⟩
  ·rw [e]
  ·exact absurd h1 e
variable{base:List Sg}
theorem zdK (h:zbo base l=true)(hq:q∈l)(hk:q.kind=2):QW base q.sign=none:=by unfold zbo at h;rw [ji] at h;have:=h q hq;unfold zoR at this;rw [U3] at this;simp [hk] at this;exact this
theorem znx (h:zbo base l=true)(hq:q∈l):(QW base q.sign).isSome=true\/(Uv l q.sign).isSome=true:=by
 unfold zbo at h;rw [ji] at h;have:=h q hq;unfold zoR at this;rw [U3,ziE] at this;by_cases hk:q.kind=2
 ·right;rw [<-ziE];unfold zf7;exact ju.2 ⟨q,hq,by simp [hk]⟩
 ·simp [hk] at this
  cases h1:QW base q.sign with
  | some x=>exact .inl U
  | none=>rw [h1] at this;exact .inr (this.resolve_left kK)
theorem zic :Uo base (l++[q])=if q.kind=2 then ze3 (Uo base l) q.nw else Uo base l:=by unfold Uo;rw [Od];rfl
theorem zk3 {base:List Sg}(hb:Srt base):∀ (l2 l1:List Pt),Sto (l1++l2)->zbo base (l1++l2)=true->Srt (Uo base l1)->(∀ s,QW (Uo base l1) s=(QW base s).or (Uv l1 s))->
  Srt (Uo base (l1++l2))/\∀ s,QW (Uo base (l1++l2)) s=(QW base s).or (Uv (l1++l2) s)
 | [],l1,_,_,h1,h2=>by rw [jz];exact ⟨h1,h2⟩
 | q::l2,l1,hs,hf,h1,h2=>by
  have e:l1++q::l2=(l1++[q])++l2:=(by simp);rw [e] at hs hf ⊢;have hq:q∈l1++[q]++l2:=by simp
  have hins:∀ s,Uv (l1++[q]) s=(Uv l1 s).or (if q.kind=2/\q.sign=s then some q.nw else none):=by
   intro s;unfold Uv;rw [AQ];by_cases hk:q.kind=2/\q.sign=s
   ·rw [jb hk,OZ,show (q.kind==2&&q.sign==s)=true by simpa using hk];cases l1.find? fun q=>q.kind==2&&q.sign==s<;>rfl
   ·rw [ja hk,OZ,show (q.kind==2&&q.sign==s)=false by simpa using hk];cases l1.find? fun q=>q.kind==2&&q.sign==s<;>rfl
  refine zk3 hb l2 (l1++[q]) hs hf ?_ ?_
  ·rw [zic];by_cases hk:q.kind=2
   ·rw [jb hk];have hid:=((hs.ok q hq).ins hk).1;refine zlh h1 ?_;rw [h2,hid,zdK hf hq hk]
    cases hi:Uv l1 q.sign with
    | none=>rfl
    | some x=>
     exfalso;obtain ⟨r,hr,hr1,hr2,_⟩:=Jz hi;rcases hs.ins (p:=r) (q:=q) (by simp [hr]) hq hr2 hk with e2 | ⟨e2,_⟩
     ·subst e2;have:=hs.lst.inc;rw [jn,Ov] at this;have:=this.2.2 r hr r kK;omega
     ·exact e2 hr1
   ·rw [ja hk];exact h1
  ·intro s;rw [zic,hins];by_cases hk:q.kind=2
   ·have hid:=((hs.ok q hq).ins hk).1
    have hnone:QW (Uo base l1) q.nw.id=none:=by
     rw [h2,hid,zdK hf hq hk]
     cases hi:Uv l1 q.sign with
     | none=>rfl
     | some x=>
      exfalso;obtain ⟨r,hr,hr1,hr2,_⟩:=Jz hi;rcases hs.ins (p:=r) (q:=q) (by simp [hr]) hq hr2 hk with e2 | ⟨e2,_⟩
      ·subst e2;have:=hs.lst.inc;rw [jn,Ov] at this;have:=this.2.2 r hr r kK;omega
      ·exact e2 hr1
    rw [jb hk,zjk hnone,hid,h2];have hn2:=hnone;rw [h2,hid] at hn2;by_cases hs2:q.sign=s
    ·subst hs2;rw [jb rfl,jb ⟨hk,U⟩]
     cases h3:QW base q.sign with
     | some x=>rw [h3] at hn2;cases hn2
     | none=>
      rw [h3] at hn2
      cases h4:Uv l1 q.sign with
      | some x=>rw [h4] at hn2;cases hn2
      | none=>rfl
    ·rw [ja hs2,ja (fun h=>hs2 h.2),Bf]
   ·rw [ja hk,ja (fun h=>hk h.1),Bf,h2]
theorem zbg (hb:Srt base)(hs:Sto l)(hf:zbo base l=true):Srt (Uo base l)/\∀ s,QW (Uo base l) s=(QW base s).or (Uv l s):=by have:=zk3 hb l [] hs hf hb (fun s=>by simp [Uv,Uo]);simpa using this
theorem zuE :(zoL x f ps).id=x.id:=by
 cases ps with
 | nil=>rfl
 | cons p ps=>exact zib
theorem zkM :(zoL x f ps).kind=x.kind:=by
 cases ps with
 | nil=>rfl
 | cons p ps=>exact zjf
theorem zbk {on:Int->Int->Bool}:zeG on l x (k+1)=zoL (zeG on l x k) ((k:Int)+1) (VQ on l x.id ((k:Int)+1)):=by unfold zeG;rw [Ou,Od];rfl
theorem zem {on:Int->Int->Bool}{l:List Pt}{x:Sg}:∀ k:Nat,(zeG on l x k).id=x.id/\(zeG on l x k).kind=x.kind
 | 0=>⟨U,U⟩
 | k+1=>by
  rw [zbk,zuE,zkM];exact zem k
def zFQ (x:Sg)(f:Int):List Pt->Int×Int×Int×Int
 | []=>ZR x f
 | p::_=>ZR p.nw f
theorem zjr {on:Int->Int->Bool}{l:List Pt}{x:Sg}{f:Int}(hf:isF f):∀ k:Nat,k<=9->ZR (zeG on l x k) f=if f<=k then zFQ x f (VQ on l x.id f) else ZR x f
 | 0,_=>by rw [ja (by unfold isF at hf;omega)];rfl
 | k+1,hk=>by
  rw [zbk];have ih:=zjr (on:=on) (l:=l) (x:=x) hf k kB;by_cases e:f=(k:Int)+1
  ·subst e;rw [jb kB];rw [ja kB] at ih
   cases hl:VQ on l x.id ((k:Int)+1) with
   | nil=>exact ih
   | cons p ps=>show ZR (VD _ _ _) _=_;rw [X7 hf,jb rfl];rfl
  ·have:ZR (zoL (zeG on l x k) ((k:Int)+1) (VQ on l x.id ((k:Int)+1))) f=ZR (zeG on l x k) f:=by
    cases VQ on l x.id ((k:Int)+1) with
    | nil=>rfl
    | cons p ps=>show ZR (VD _ _ _) _=_;rw [X7 (by unfold isF;omega),ja e]
   rw [this,ih];by_cases h2:f<=(k:Int)
   ·rw [jb h2,jb kB]
   ·rw [ja h2,ja kB]
theorem zwJ {on:Int->Int->Bool}(hf:isF f):ZR (zf6 on l x) f=zFQ x f (VQ on l x.id f):=by unfold zf6;rw [zjr hf 9 (js _),jb (by unfold isF at hf;omega)]
theorem zeQ {on:Int->Int->Bool}:(zf6 on l x).id=x.id:=(zem 9).1
theorem zq4 {on:Int->Int->Bool}:(zf6 on l x).kind=x.kind:=(zem 9).2
theorem zbI {p:Int->Bool}:QW (xs.filter fun x=>p x.id) s=if p s then QW xs s else none:=by
 induction xs with
 | nil=>cases p s<;>rfl
 | cons x xs ih=>
  rw [Oe,ZK];by_cases e:x.id=s
  ·subst e;rw [jb rfl]
   cases hp:p x.id with
   | true=>simp [ZK]
   | false=>rw [hp] at ih;simpa using ih
  ·rw [ja e]
   cases hp:p x.id with
   | true=>simp [ZK,e,ih]
   | false=>simpa using ih
theorem zjn {f:Sg->Sg}(hf:∀ x,(f x).id=x.id):QW (xs.map f) s=(QW xs s).map f:=by
 induction xs with
 | nil=>rfl
 | cons x xs ih=>
  rw [jx,ZK,ZK,hf];by_cases e:x.id=s
  ·rw [jb e,jb e];rfl
  ·rw [ja e,ja e,ih]
theorem zcO (h:Srt xs)(p:Sg->Bool):Srt (xs.filter p):=List.Pairwise.filter p h
theorem zlN (h:Srt xs){f:Sg->Sg}(hf:∀ x,(f x).id=x.id):Srt (xs.map f):=by unfold Srt;rw [OV];simp only [hf];exact h
theorem zxB {on:Int->Int->Bool}(h:Srt (Uo base l)):Srt (zaL on base l):=zlN (zcO h _) fun _=>zeQ
theorem zoX {on:Int->Int->Bool}:QW (zaL on base l) s=if exB on l s then (QW (Uo base l) s).map (zf6 on l) else none:=by unfold zaL;rw [zjn (fun _=>zeQ),zbI (p:=exB on l)];cases exB on l s<;>rfl
section
variable {l l':List Pt} {s:Int} {on:Int->Int->Bool}
end
theorem znB {k:Sg}:(ze3 xs k).length=xs.length+1:=by have:=jr List.length (Ow (p:=fun x:Sg=>decide (x.id<k.id)) (l:=xs));rw [jh] at this;unfold ze3;rw [jh,jw];omega
theorem zgp:∀ {l:List Pt} {base:List Sg},(Uo base l).length<=base.length+l.length
 | [],base=>by simp [Uo]
 | q::l,base=>by
  show (Uo (if q.kind=2 then ze3 base q.nw else base) l).length<=_;refine jT zgp ?_;split
  ·rw [znB,jw];omega
  ·rw [jw];omega
def apE (xs:List Sg)(p:Pt):Int:=
 if (p.kind==1&& !WK xs p.sign)||(p.kind==2&&WK xs p.sign) then 370 else if p.kind==2&&decide (xs.length>=4096) then 2 else 0
def apG (xs:List Sg)(p:Pt):List Sg:=
 if p.kind=2 then ze3 xs p.nw else if p.kind=3 then xs.filter (fun x=>x.id != p.sign) else xs.map fun x=>if x.id=p.sign then VD x p.field p.nw else x
def zqv (xs:List Sg):List Pt->Int×List Sg
 | []=>(0,xs)
 | p::l=>if Jw p≠0 then (Jw p,[]) else if apE xs p≠0 then (apE xs p,[]) else zqv (apG xs p) l
structure zkd (l t:List Pt):Prop where
 perm:t.Perm l
 need:∀ t1 p t2,t=t1++p::t2->∀ n∈p.needs,∃ q∈t1,q.id=n
variable{t:List Pt}
theorem zkd.mem (h:zkd l t):p∈t↔p∈l:=h.perm.mem_iff
variable{t1 t2:List Pt}
theorem zkd.on (hl:Lst l)(h:zkd l t)(e:t=t1++p::t2)(hon:onF l p.id b=true):∃ q∈t1,q.id=b:=by
 have hp:p∈l:=h.mem.1 kP
 revert t1 t2
 revert hon
 refine hl.ind (M:=fun p=>onF l p.id b=true->∀ {t1 t2:List Pt},t=t1++p::t2->∃ q∈t1,q.id=b) (fun p hp ih hon t1 t2 e=>?_) p hp;obtain ⟨n,hn,e2⟩:=(hl.on_iff hp).1 hon;obtain ⟨q,hq,rfl⟩:=h.need t1 p t2 e n hn;rcases e2 with e2 | e2
 ·exact ⟨q,hq,e2⟩
 ·obtain ⟨u1,u2,rfl⟩:=A8 hq;have hql:q∈l:=h.mem.1 kP;have hlt:=(hl.has p hp _ hn).1;obtain ⟨r,hr,hrb⟩:=ih q hql hlt e2 (t1:=u1) (t2:=u2++p::t2) kP;exact ⟨r,by simp [hr],hrb⟩
theorem zkd.nodup (hl:Lst l)(h:zkd l t):t.Nodup:=by rw [h.perm.nodup_iff];exact hl.inc.imp fun {a b} h e=>by subst e;omega
def zba (t:List Pt)(s:Int):Bool:=t.any fun p=>p.kind==3&&p.sign==s
def zcg (x:Sg)(t:List Pt)(s:Int):Sg:=t.foldl (fun y p=>if p.kind=1/\p.sign=s then VD y p.field p.nw else y) x
def stS (base:List Sg)(t:List Pt)(s:Int):Option Sg:=if zba t s then none else ((QW base s).or (Uv t s)).map fun x=>zcg x t s
theorem Xg :zcg x (t++[p]) s=if p.kind=1/\p.sign=s then VD (zcg x t s) p.field p.nw else zcg x t s:=by unfold zcg;rw [Od];rfl
theorem zkk :zba (t++[p]) s=(zba t s||(p.kind==3&&p.sign==s)):=by unfold zba;simp
theorem zlm :Uv (t++[q]) s=(Uv t s).or (if q.kind=2/\q.sign=s then some q.nw else none):=by
 unfold Uv;rw [AQ];by_cases hk:q.kind=2/\q.sign=s
 ·rw [jb hk,OZ,show (q.kind==2&&q.sign==s)=true by simpa using hk];cases t.find? fun q=>q.kind==2&&q.sign==s<;>rfl
 ·rw [ja hk,OZ,show (q.kind==2&&q.sign==s)=false by simpa using hk];cases t.find? fun q=>q.kind==2&&q.sign==s<;>rfl
theorem zfw {x:Sg}{s:Int}:∀ {t:List Pt},(∀ p∈t,p.sign≠s)->zcg x t s=x
 | [],_=>rfl
 | p::t,h=>by
  unfold zcg;rw [Of,ja (fun e=>h p (jk ..) e.2)];exact zfw fun q hq=>h q (jq _ hq)
theorem zeO (h:∀ p∈t,p.sign≠s):Uv t s=none:=by unfold Uv;rw [AM,Or];intro p hp;have:=h p hp;simp [this]
theorem zmj (h:∀ p∈t,p.sign≠s):zba t s=false:=by unfold zba;rw [jJ];intro p hp;have:=h p hp;simp [this]
theorem zAx (h:Srt xs)(h2:p.kind=2->QW xs p.nw.id=none):Srt (apG xs p):=by
 unfold apG;split
 ·rename_i hk;exact zlh h (h2 hk)
 ·split
  ·exact zcO h _
  ·refine zlN h fun x=>?_;split
   ·exact zib
   ·rfl
theorem zsq :(apG xs p).length<=xs.length+1:=by
 unfold apG;split
 ·rw [znB];omega
 ·split
  ·exact jT (j3 ..) kB
  ·rw [jE];omega
theorem zxK (h2:p.kind=2->p.nw.id=p.sign/\QW xs p.sign=none)(hk:p.kind=1\/p.kind=2\/p.kind=3):
  QW (apG xs p) s=if p.sign=s then (if p.kind=2 then some p.nw else if p.kind=3 then none else (QW xs s).map fun x=>VD x p.field p.nw) else QW xs s:=by
 unfold apG;rcases hk with hk | hk | hk
 ·simp only [hk,Int.reduceEq,reduceIte];rw [zjn (fun x=>by split<;>first | exact zib | rfl)];by_cases e:p.sign=s
  ·rw [jb e]
   cases hl:QW xs s with
   | none=>rfl
   | some x=>rw [j9,j9,jb (by rw [Vr hl,e])]
  ·rw [ja e]
   cases hl:QW xs s with
   | none=>rfl
   | some x=>rw [j9,ja (by rw [Vr hl];exact fun h=>e h.symm)]
 ·simp only [hk,Int.reduceEq,reduceIte];rw [zjk (by rw [(h2 hk).1];exact (h2 hk).2),(h2 hk).1]
 ·simp only [hk,Int.reduceEq,reduceIte];rw [zbI (p:=fun i=>i != p.sign)];by_cases e:p.sign=s
  ·rw [jb e,ja (by simp [e])]
  ·rw [ja e,jb (by simpa using fun h=>e h.symm)]
structure zFB (on:Int->Int->Bool)(l:List Pt):Prop where
 seen:∀ p∈l,p.kind=1->∀ r∈l,r.kind=3->r.sign=p.sign->on r.id p.id=true
 one:∀ s f,zba l s=false->isF f->∀ p∈VQ on l s f,∀ q∈VQ on l s f,p.nw=q.nw
theorem zna :zba l s= !(rmF l s).isEmpty:=by unfold zba rmF;rw [List.isEmpty_map];rw [jL,ju];simp
theorem znT (hb:Srt base)(hs:Sto l)(hf:zbo base l=true)(h:cfL (onF l) base l=[]):zFB (onF l) l:=by
 have hin:∀ s,(QW (Uo base l) s).isSome=true->cfS (onF l) l s=[]:=fun s h1=>by
  obtain ⟨x,hx⟩:=jW.1 h1;unfold cfL at h;rw [Ak] at h;have:=h x (JQ hx);rwa [Vr hx] at this
 have hall:∀ p∈l,cfS (onF l) l p.sign=[]:=fun p hp=>hin _ (by
  rw [(zbg hb hs hf).2];rcases znx hf hp with h1 | h1
  ·obtain ⟨x,hx⟩:=jW.1 h1;rw [hx];rfl
  ·obtain ⟨x,hx⟩:=jW.1 h1;rw [hx]
   cases QW base p.sign<;>rfl)
 have hun:∀ p∈l,(unF (onF l) l p.sign).isEmpty=true:=fun p hp=>by
  have h1:=hall p hp;unfold cfS at h1;rw [Bj] at h1;have h2:=h1.1;unfold cf0 at h2;split at h2
  ·assumption
  ·cases h2
 refine ⟨fun p hp hk r hr hrk hrs=>?_,fun s f hrem hff p hp q hq=>?_⟩
 ·have h1:=hun p hp;rw [Bq] at h1;unfold unF at h1;rw [Om] at h1;have h2:=h1 p hp;unfold unB at h2;simp [hk] at h2;exact h2 r.id (zac.2 ⟨r,hr,hrk,hrs,U⟩)
 ·have hpl:=JB.1 (jF.1 hp).1;have h1:=hall p hpl.1;rw [hpl.2.2.1] at h1;unfold cfS at h1;rw [Bj,Ak] at h1;have h2:=h1.2 (f-1).toNat (jm.2 (by unfold isF at hff;omega));rw [show (((f-1).toNat:Nat):Int)+1=f by unfold isF at hff;omega] at h2;unfold cfK at h2
  have hex:exB (onF l) l s=true:=by
   unfold exB;rw [zna] at hrem;simp at hrem;simp [hrem]
  rw [hex,OM] at h2
  have hd:zkz (VQ (onF l) l s f)=false:=by
   cases hd:zkz (VQ (onF l) l s f) with
   | false=>rfl
   | true=>rw [hd] at h2;cases h2
  revert hp hq hd
  cases VQ (onF l) l s f with
  | nil=>intro hp;cases hp
  | cons z zs=>
   intro hp hq hd;unfold zkz at hd;rw [jJ] at hd
   have key:∀ p∈z::zs,p.nw=z.nw:=fun p hp=>by
    rcases jp.1 hp with rfl | hp
    ·rfl
    ·have e1:=hd p hp;simp only [Bo,Ox] at e1;exact VF.1 e1
   rw [key p hp,key q hq]
theorem zri (hs:Sto l)(hf:zbo base l=true)(hc:zFB (onF l) l)(ht:zkd l t)(e:t=t1++p::t2)(hlen:xs.length<4096)(hx:∀ s,QW xs s=stS base t1 s):
  apE xs p=0/\(p.kind=2->p.nw.id=p.sign/\QW xs p.sign=none)/\∀ s,QW (apG xs p) s=stS base (t1++[p]) s:=by
 have hp:p∈l:=ht.mem.1 kP;have hnd:=ht.nodup hs.lst;have hmem1:∀ q∈t1,q∈l:=fun q hq=>ht.mem.1 (by rw [e];simp [hq])
 have hnp:p∉t1:=fun hq=>by
  rw [e,Oz] at hnd;exact hnd.2.2 p hq p kK U
 have bef:∀ q∈t1,onF l q.id p.id=true->False:=fun q hq hon=>by
  obtain ⟨u1,u2,rfl⟩:=A8 hq;obtain ⟨r,hr,hrp⟩:=ht.on hs.lst (t1:=u1) (t2:=u2++p::t2) (p:=q) kP hon;have:r=p:=hs.lst.uniq (hmem1 r (by simp [hr])) hp hrp;subst this;exact hnp (by simp [hr])
 have hins:p.kind=2->∀ q∈t1,q.sign≠p.sign:=fun hk q hq hqs=>by
  rcases hs.ins (hmem1 q hq) hp hqs hk with e2 | ⟨_,e2⟩
  ·subst e2;exact hnp hq
  ·exact bef q hq e2
 have h2:p.kind=2->p.nw.id=p.sign/\QW xs p.sign=none:=fun hk=>by
  refine ⟨((hs.ok p hp).ins hk).1,?_⟩;rw [hx];unfold stS;rw [zeO (hins hk),zdK hf hp hk];split<;>rfl
 have h1:p.kind=1->∃ x,QW xs p.sign=some x:=fun hk=>by
  rw [hx];unfold stS
  have hrem:zba t1 p.sign=false:=by
   cases hr:zba t1 p.sign with
   | false=>rfl
   | true=>
    unfold zba at hr;rw [ju] at hr;obtain ⟨r,hr,hr2⟩:=hr;simp at hr2;exact (bef r hr (hc.seen p hp hk r (hmem1 r hr) hr2.1 hr2.2)).elim
  rw [hrem];rcases znx hf hp with h1 | h1
  ·obtain ⟨x,hx⟩:=jW.1 h1;rw [hx];exact ⟨_,U⟩
  ·obtain ⟨x,hx⟩:=jW.1 h1;obtain ⟨q,hq,hqk,hqs,_⟩:=Jz hx;rcases hs.ins hp hq hqs.symm hqk with e2 | ⟨_,e2⟩
   ·subst e2;omega
   ·obtain ⟨r,hr,hrq⟩:=ht.on hs.lst e e2;have:r=q:=hs.lst.uniq (hmem1 r hr) hq hrq;subst this
    have hio:(Uv t1 p.sign).isSome=true:=by
     rw [<-ziE];exact ju.2 ⟨r,hr,by simp [hqk,hqs]⟩
    obtain ⟨y,hy⟩:=jW.1 hio;rw [hy];cases QW base p.sign<;>exact ⟨_,U⟩
 refine ⟨?_,h2,fun s=>?_⟩
 ·unfold apE;rw [U3];rcases (hs.ok p hp).kind with hk | hk | hk
  ·obtain ⟨x,hx1⟩:=h1 hk;simp [hk,hx1]
  ·simp [hk,(h2 hk).2];omega
  ·simp [hk]
 ·rw [zxK h2 (hs.ok p hp).kind,hx];unfold stS;rw [zkk,zlm];by_cases hps:p.sign=s
  ·subst hps;rw [jb rfl];rcases (hs.ok p hp).kind with hk | hk | hk
   ·have e1:¬(p.kind=2/\p.sign=p.sign):=fun h=>kB;have e2:¬p.kind=2:=kB;have e3:¬p.kind=3:=kB;have e4:(p.kind==3&&p.sign==p.sign)=false:=(by simp [hk]);rw [ja e2,ja e3,ja e1,Bf,e4,OL]
    cases zba t1 p.sign with
    | true=>rfl
    | false=>
     simp only [jB,j2,Option.map_map];congr 1;funext x;simp [Xg,hk]
   ·have e1:p.kind=2/\p.sign=p.sign:=⟨hk,U⟩;have e4:(p.kind==3&&p.sign==p.sign)=false:=(by simp [hk]);rw [jb hk,jb e1,e4,OL,zmj (hins hk),zeO (hins hk),zdK hf hp hk];simp [Xg,hk,zfw (hins hk)]
   ·have e2:¬p.kind=2:=kB;rw [ja e2,jb hk];simp [hk]
  ·rw [ja hps];have e1:(p.kind==3&&p.sign==s)=false:=(by simp [hps]);have e2:¬(p.kind=2/\p.sign=s):=fun h=>hps h.2;rw [e1,OL,ja e2,Bf];simp [Xg,hps]
theorem zgr {base:List Sg}{l t:List Pt}(hs:Sto l)(hp:∀ p∈l,Jw p=0)(hf:zbo base l=true)(hc:zFB (onF l) l)(ht:zkd l t):
  ∀ (t2 t1:List Pt) (xs:List Sg),t=t1++t2->xs.length+t2.length<=4096->Srt xs->(∀ s,QW xs s=stS base t1 s)->∃ ys,zqv xs t2=(0,ys)/\Srt ys/\∀ s,QW ys s=stS base t s
 | [],t1,xs,e,_,h1,h2=>⟨xs,U,h1,by rw [e,jz];exact h2⟩
 | p::t2,t1,xs,e,hl,h1,h2=>by
  obtain ⟨h3,h4,h5⟩:=zri hs hf hc ht e (by simp at hl;omega) h2;have hpl:p∈l:=ht.mem.1 kP;unfold zqv;rw [ja (by rw [hp p hpl];decide),ja (by rw [h3];decide)];have hal:=zsq (xs:=xs) (p:=p);exact zgr hs hp hf hc ht t2 (t1++[p]) (apG xs p) kP (by simp at hl;omega) (zAx h1 (fun hk=>by rw [(h4 hk).1];exact (h4 hk).2)) h5
theorem zog (_hf:isF f):∀ (t:List Pt),(∀ p∈t,p.kind=1->isF p.field)->
  (ZR (zcg x t s) f=ZR x f/\∀ p∈t,¬(p.kind=1/\p.sign=s/\p.field=f))\/∃ t1 z t2,t=t1++z::t2/\(z.kind=1/\z.sign=s/\z.field=f)/\ZR (zcg x t s) f=ZR z.nw f/\∀ p∈t2,¬(p.kind=1/\p.sign=s/\p.field=f):=by
 intro t
 have key:∀ (n:Nat) (t:List Pt),t.length=n->(∀ p∈t,p.kind=1->isF p.field)->
  (ZR (zcg x t s) f=ZR x f/\∀ p∈t,¬(p.kind=1/\p.sign=s/\p.field=f))\/∃ t1 z t2,t=t1++z::t2/\(z.kind=1/\z.sign=s/\z.field=f)/\ZR (zcg x t s) f=ZR z.nw f/\∀ p∈t2,¬(p.kind=1/\p.sign=s/\p.field=f):=by
  intro n
  induction n with
  | zero=>
   intro t ht _;have:t=[]:=j4 ht;subst this;exact .inl ⟨U,fun p hp=>by cases hp⟩
  | succ n ih=>
   intro t ht hk;obtain ⟨u,p,rfl⟩:∃ u p,t=u++[p]:=⟨t.dropLast,t.getLast (by intro e;subst e;simp at ht),(List.dropLast_concat_getLast _).symm⟩;have hk':∀ q∈u,q.kind=1->isF q.field:=fun q hq=>hk q (by simp [hq]);rw [Xg];by_cases h1:p.kind=1/\p.sign=s/\p.field=f
   ·right;refine ⟨u,p,[],by simp,h1,?_,fun q hq=>by cases hq⟩;rw [jb ⟨h1.1,h1.2.1⟩,X7 (hk p kK h1.1),jb h1.2.2.symm]
   ·have hsame:ZR (if p.kind=1/\p.sign=s then VD (zcg x u s) p.field p.nw else zcg x u s) f=ZR (zcg x u s) f:=by
     split
     ·rename_i h2;rw [X7 (hk p kK h2.1),ja (fun e=>h1 ⟨h2.1,h2.2,e.symm⟩)]
     ·rfl
    rw [hsame];rcases ih u (by simp at ht;omega) hk' with ⟨h2,h3⟩ | ⟨t1,z,t2,rfl,hz,h2,h3⟩
    ·exact .inl ⟨h2,fun q hq=>by
      rcases jv.1 hq with hq | hq
      ·exact h3 q hq
      ·simp at hq;subst hq;exact h1⟩
    ·exact .inr ⟨t1,z,t2++[p],by simp,hz,h2,fun q hq=>by
      rcases jv.1 hq with hq | hq
      ·exact h3 q hq
      ·simp at hq;subst hq;exact h1⟩
 exact key _ t U
theorem zdR :(zcg x t s).id=x.id/\(zcg x t s).kind=x.kind:=by
 induction t generalizing x with
 | nil=>exact ⟨U,U⟩
 | cons p t ih=>
  have:=ih (x:=if p.kind=1/\p.sign=s then VD x p.field p.nw else x);refine ⟨this.1.trans ?_,this.2.trans ?_⟩
  ·split
   ·exact zib
   ·rfl
  ·split
   ·exact zjf
   ·rfl
theorem zm0 (hs:Sto l)(ht:t.Perm l)(s:Int):Uv t s=Uv l s:=by
 cases h:Uv l s with
 | some x=>
  obtain ⟨q,hq,hk,rfl,rfl⟩:=Jz h
  have hio:(Uv t q.sign).isSome=true:=by
   rw [<-ziE];exact ju.2 ⟨q,ht.mem_iff.2 hq,by simp [hk]⟩
  obtain ⟨y,hy⟩:=jW.1 hio;obtain ⟨r,hr,hrk,hrs,rfl⟩:=Jz hy;rcases hs.ins (ht.mem_iff.1 hr) hq hrs hk with e | ⟨e,_⟩
  ·rw [hy,e]
  ·exact absurd hrk e
 | none=>
  cases h2:Uv t s with
  | none=>rfl
  | some x=>
   obtain ⟨q,hq,hk,rfl,rfl⟩:=Jz h2;rw [zvw hs (ht.mem_iff.1 hq) hk] at h;cases h
theorem znl (hb:Srt base)(hs:Sto l)(hp:∀ p∈l,Jw p=0)(hf:zbo base l=true)(hc:cfL (onF l) base l=[])(ht:zkd l t)(hl:base.length+l.length<=4096):
  zqv base t=(0,zaL (onF l) base l):=by
 have hcm:=znT hb hs hf hc
 obtain ⟨ys,h1,h2,h3⟩:=zgr hs hp hf hcm ht t [] base U (by rw [ht.perm.length_eq];omega) hb (fun s=>by
  unfold stS Uv zba zcg;simp)
 rw [h1];refine jr _ (zgR h2 (zxB (zbg hb hs hf).1) fun s=>?_);rw [h3,zoX,(zbg hb hs hf).2]
 have hrem:zba t s=zba l s:=by
  unfold zba;rw [jL,ju,ju];simp only [ht.mem]
 unfold stS;rw [hrem,zm0 hs ht.perm]
 have hun:(unF (onF l) l s).isEmpty=true:=by
  rw [Bq];unfold unF;rw [Om];intro p hpl;unfold unB;simp only [jj,j0,ju,jS,not_and,not_exists];intro hps hk i hi;obtain ⟨r,hr,hrk,hrs,rfl⟩:=zac.1 hi;rw [hcm.seen p hpl hk r hr hrk hrs];simp
 have hex:exB (onF l) l s= !zba l s:=by
  unfold exB;rw [hun,zna];simp
 rw [hex]
 cases hr:zba l s with
 | true=>rfl
 | false=>
  simp only [jB,j2,Bool.not_false,Oj]
  cases hx:(QW base s).or (Uv l s) with
  | none=>rfl
  | some x=>
   have hxs:x.id=s:=by
    cases h4:QW base s with
    | some y=>rw [h4] at hx;simp at hx;subst hx;exact Vr h4
    | none=>
     rw [h4] at hx;simp at hx;obtain ⟨q,hq,hk,hsg,rfl⟩:=Jz hx;rw [((hs.ok q hq).ins hk).1,hsg]
   rw [j9,j9];refine jr _ (ztx (by rw [zdR.1,zeQ]) (by rw [zdR.2,zq4]) fun f hff=>?_);rw [zwJ hff,hxs];rcases zog (x:=x) (s:=s) hff t (fun p hp hk=>((hs.ok p (ht.mem.1 hp)).set hk).1) with ⟨h4,h5⟩ | ⟨t1,z,t2,e,hz,h4,h5⟩
   ·rw [h4]
    have:VQ (onF l) l s f=[]:=by
     unfold VQ
     have:stF l s f=[]:=by
      unfold stF;rw [Om];intro p hpl;have:=h5 p (ht.mem.2 hpl);simpa using this
     rw [this];rfl
    rw [this];rfl
   ·rw [h4];have hzl:z∈l:=ht.mem.1 kP
    have hzlat:z∈VQ (onF l) l s f:=by
     unfold VQ;rw [jF];refine ⟨JB.2 ⟨hzl,hz⟩,?_⟩;rw [jS,jJ];intro q hq;obtain ⟨hql,hqk,hqs,hqf⟩:=JB.1 hq;intro hon;have hqt:q∈t:=ht.mem.2 hql;rw [e] at hqt;rcases jv.1 hqt with hqt | hqt
     ·obtain ⟨u1,u2,rfl⟩:=A8 hqt;obtain ⟨r,hr1,hr2⟩:=ht.on hs.lst (t1:=u1) (t2:=u2++z::t2) (p:=q) kP hon;have hrl:r∈l:=ht.mem.1 (by rw [e];simp [hr1]);have:=hs.lst.uniq hrl hzl hr2;subst this;have hnd:=ht.nodup hs.lst;rw [e,Oz] at hnd;exact hnd.2.2 r (by simp [hr1]) r kK U
     ·rcases jp.1 hqt with rfl | hqt
      ·rw [hs.lst.on_irr] at hon;cases hon
      ·exact h5 q hqt ⟨hqk,hqs,hqf⟩
    have hone:=hcm.one s f hr hff
    revert hzlat hone
    cases VQ (onF l) l s f with
    | nil=>intro h;cases h
    | cons y ys=>
     intro hzl hone;show _=ZR y.nw f;rw [hone z hzl y (jk ..)]
theorem zyx:zeA 0 1 1 2=true:=by decide
def V2 (x y:Int):Int:=if x<y then -1 else if x>y then 1 else 0
def foF (f:Int):Nat:=if f=1 then 1 else if f=2 then 2 else if f=3 then 3 else if f=4 then 5 else if f=5 then 6 else if f=6 then 7 else if f=7 then 8 else 9
def zAP (x:Sg)(f:Int):Int:=if f=1 then x.role else if f=2 then x.bar else if f=3 then x.mark else if f=4 then x.side else if f=5 then x.dir else if f=6 then x.level else if f=7 then x.size else x.wth
def zFR (b:Nat):List Value:=[.pointer none,.pointer (some ⟨b,0+1,none⟩),.pointer (some ⟨b,0+2,none⟩),.pointer (some ⟨b,0+3,none⟩),.pointer (some ⟨b,0+5,none⟩),.pointer (some ⟨b,0+6,none⟩),.pointer (some ⟨b,0+7,none⟩),.pointer (some ⟨b,0+8,none⟩),.pointer (some ⟨b,0+9,none⟩)]
theorem zbP (h:1<=f/\f<=8):f=1\/f=2\/f=3\/f=4\/f=5\/f=6\/f=7\/f=8:=kB
theorem zcT (h:1<=f/\f<=8)(b:Nat):(zFR b)[f.toNat*1]? =some (.pointer (some ⟨b,foF f,none⟩)):=by rcases zbP h with rfl | rfl | rfl | rfl | rfl | rfl | rfl | rfl<;>rfl
theorem zgx (h:1<=f/\f<=8)(x:Sg):zj9 (Zk x) (foF f)=some (.int .i64 (zAP x f)):=by rcases zbP h with rfl | rfl | rfl | rfl | rfl | rfl | rfl | rfl<;>rfl
theorem zu0 :Nat.blt (foF f) 14=true:=by
 unfold foF
 repeat' split
 all_goals rfl
theorem zkx (h:1<=f/\f<=8)(x y:Sg):(Zk x).toArray.setIfInBounds (foF f) (.int .i64 (zAP y f))=(Zk (VD x f y)).toArray:=by rcases zbP h with rfl | rfl | rfl | rfl | rfl | rfl | rfl | rfl<;>rfl
def zhl (v:List Int)(k:Nat)(l:Int):Prop:=(k=0->l=0)/\∀ y,v[k-1]? =some y->k≠0->l=y
theorem zah {x:Int}(hx:v[k]? =some x):zhl v (k+1) x:=⟨fun h=>kB,fun y hy _=>by simp at hy;rw [hx] at hy;cases hy;rfl⟩
variable{id:Int}
theorem zpQ {l x:Int}(hall:(List.range k).all (ndP id v)=true)(hl:zhl v k l)(hx:v[k]? =some x):ndP id v k= !(decide (x<=l)||decide (x>=id)):=by
 unfold ndP;rw [Q1 hx]
 cases k with
 | zero=>
  rw [hl.1 rfl];rw [jL];simp;omega
 | succ k=>
  have hk:=(jc.1 hx).1;have hy:v[k]? =some (v[k]' kB):=je _;have e:=hl.2 _ (by rw [Ba];exact hy) kB;rw [show (((k+1:Nat):Int)-1).toNat=k by omega,Q1 hy,<-e]
  have h1:1<=l:=by
   rw [ji] at hall;have:=hall k (jm.2 kB);unfold ndP at this;rw [Q1 hy] at this;simp at this;omega
  rw [jL];simp;omega
theorem zBb (h:p.needs.length>32):Jw p=2:=by unfold Jw;rw [jb h]
theorem zCI (h:¬p.needs.length>32)(h2:ndB p.id p.needs=false):Jw p=370:=by unfold Jw;rw [ja h,h2];rfl
theorem zfB (h:¬p.needs.length>32)(h2:ndB p.id p.needs=true)(h3:(idB p&&WG p)=false):Jw p=370:=by unfold Jw;rw [ja h,h2,h3];rfl
theorem zjc (h:¬p.needs.length>32)(h2:ndB p.id p.needs=true)(h3:(idB p&&WG p)=true):Jw p=0:=by unfold Jw;rw [ja h,h2,h3];rfl
theorem zA1 (h:p.kind=1)(h2:Zu p.field 1 9=true):WG p=(WW (VD p.nw p.field ZU) ZU&&frm (VD zcG p.field p.nw)):=by unfold WG;rw [jb h,h2,OM]
theorem zBm (h:p.kind=1)(h2:Zu p.field 1 9=false):(idB p&&WG p)=false:=by unfold WG;rw [jb h,h2,Bc,Aa]
theorem zAw (h:p.kind=2):WG p=(p.field==0&&(p.nw.id==p.sign&&frm p.nw)):=by unfold WG;rw [ja kB,jb h]
theorem zAv (h:p.kind=3):WG p=(p.field==0&&WW p.nw ZU):=by unfold WG;rw [ja kB,ja kB,jb h]
theorem zEU (h1:p.kind≠1)(h2:p.kind≠2)(h3:p.kind≠3):(idB p&&WG p)=false:=by unfold WG;rw [ja h1,ja h2,ja h3,Aa]
def zkU (an ad bn bd:Int):Int:=if Ux an ad&&Ux bn bd then V2 (an*bd) (bn*ad) else 0
theorem zgE {fn fd tn td:Int}:(((zoK fn fd tn td==0)&&decide (zkU fn fd tn td<0))&&decide (fn>=0)&&decide (tn<=td))=zeA fn fd tn td:=by
 unfold zoK zkU zeA V2
 cases h:(Ux fn fd&&Ux tn td) with
 | false=>rfl
 | true=>
  simp only [Oj,OM];by_cases h2:fn*td<tn*fd
  ·simp [h2]
  ·by_cases h3:fn*td>tn*fd<;>simp [h2,h3]
theorem zcy (hx:xs[k]? =some x):skP xs k= !(!frm x||(decide ((k:Int)>0)&&decide ((xs.getD ((k:Int)-1).toNat ZU).id>=x.id))):=by unfold skP;rw [Q1 hx]
theorem zgU (I:Qt)(x:Int):Zt Tryz.prog 116 [.int .i64 x] I (.bool false):=by intro g H w hw;refine qe Tryz.func116 Tryz.ntmps116 hw ?_;refine zR (zA ?_);refine zN (zR ?_);refine zM ?_;refine zM ?_;refine zC ?_;refine zA (zN (Qr ?_));exact zr U U kK
theorem zjC (I:Qt)(x y:Int):Zt Tryz.prog 42 [.int .i64 x,.int .i64 y] I (.int .i64 (V2 x y)):=by
 intro g H w hw;refine qe Tryz.func42 Tryz.ntmps42 hw ?_;refine zR (zA ?_);refine zN (zR ?_);refine zM ?_;refine qcV (vs:=[_]) U XV (zgU I _) ?_;refine zA ?_;refine zN (zR ?_);refine zM ?_;refine qcV (vs:=[_]) U XV (zgU I _) ?_;refine zA (zN (Ql (zR ?_)));refine zM (zN ?_);refine zI ?_ ?_<;>intro hc11
 ·cases hc11
 refine Qo (Qa (Ql (zR (zM (zN ?_)))));refine zI ?_ ?_<;>intro hc13
 ·cases hc13
 refine Qo (Qa (Ql (zR (zM ?_))));refine zM ?_;refine zC (zN ?_);refine zI ?_ ?_<;>intro hc16
 focus
  refine zR (zA (zN (Qr (Qc ?_))))
 rotate_left
 refine Qo (Qa (Ql (zR (zM ?_))));refine zM ?_;refine zC (zN ?_);refine zI ?_ ?_<;>intro hc19
 focus
  refine zR (zA (zN (Qr (Qc ?_))))
 rotate_left
 refine Qo (Qa (zR (zA (zN (Qr ?_)))))
 all_goals
  exact zr U U (by unfold V2;first | (rw [jb (by simpa using hc16)]) | (rw [ja (by simpa using hc16),jb (by simpa using hc19)]) | (rw [ja (by simpa using hc16),ja (by simpa using hc19)]))
theorem zk0 (I:Qt)(an ad bn bd:Int):Zt Tryz.prog 155 [Uw (an) (ad),Uw (bn) (bd)] I (.tuple #[.int .i64 (zkU an ad bn bd),.int .i64 (zoK an ad bn bd)]):=by
 intro g H w hw;refine qe Tryz.func155 Tryz.ntmps155 hw ?_;refine zR ?_;refine QG U U U (fun b_2=>?_);refine QG U U U (fun b_3=>?_);refine zA ?_;refine zA (zN (Ql (zR ?_)));refine zV (Qk U Zs (fun hg=>by exact Cells.g1) U) ?_;refine qcV (vs:=[_]) U WH (KW I _ _) ?_;refine zC ?_;refine zM ?_;refine Q8 3 U U U ?_;refine zJ (Qk U Zs (fun hg=>by exact Cells.g0) U) ?_;refine qf (vs:=[_]) U WH (fun hg=>KW I _ _) ?_;refine zJ (QI U U U) ?_;refine ZO U U U U U ?_;refine zN ?_;refine zI ?_ ?_<;>intro hc13
 focus
  have hb:(Ux an ad&&Ux bn bd)=false:=(by have h:=hc13;rw [zeo,jS] at h;exact h);refine zR (zA ?_);refine zA (zN (Qr (Qc ?_)))
 rotate_left
 have hb:(Ux an ad&&Ux bn bd)=true:=(by have h:=hc13;rw [zeo,Ox] at h;exact h);have ⟨ha1,ha2⟩:=JE (jj .. ▸ hb).1;have ⟨hb1,hb2⟩:=JE (jj .. ▸ hb).2;refine Qo (Qa (zR ?_));refine zF Yt ?_;refine zL Qq ?_;refine zF Vp ?_;refine zL Qq ?_;refine zV (ZL U U U (fun _=>by exact zqT kB kB)) ?_;refine zF Yt ?_;refine zL Qq ?_;refine zF Vp ?_;refine zL Qq ?_;refine zV (ZL U U U (fun _=>by exact zqT kB kB)) ?_;refine qcV (vs:=[_,_]) U zfe (zjC I _ _) ?_;refine zA ?_;refine zA (zN (Qr ?_))
 all_goals
  exact Q9 U U U (fun w hw=>⟨by unfold zkU zoK;rw [hb];rfl,hw.drop⟩)
theorem zk8 (I:Qt)(an ad bn bd:Int):Zt Tryz.prog 83 [Uw (an) (ad),Uw (bn) (bd)] I (.bool (zeA an ad bn bd)):=by intro g H w hw;refine qe Tryz.func83 Tryz.ntmps83 hw ?_;refine zR ?_;refine QG U U U (fun b_2=>?_);refine QG U U U (fun b_3=>?_);refine zA ?_;refine zN (zR ?_);refine zV (Qk U Zs (fun hg=>by exact Cells.g1) U) ?_;refine zV (Qk U Zs (fun hg=>by exact Cells.g0) U) ?_;refine qcV (vs:=[_,_]) U zm8 (zk0 I _ _ _ _) ?_;refine zM ?_;refine zE ?_;refine zE ?_;refine zA ?_;refine zA ?_;refine zN (zR ?_);refine zM ?_;refine zC ?_;refine zM ?_;refine QA 2 U U U ?_;refine zK (Qj U) ?_;refine zK (QI U U U) ?_;refine QE U U U U U ?_;refine zM ?_;refine QA 6 U U U ?_;refine zK (Qe U Yt) ?_;refine zK (Qd U Qq (fun hg=>by exact QB.h1 U)) ?_;refine zK (QI U U U) ?_;refine QE U U U U U ?_;refine zM ?_;refine QA 11 U U U ?_;refine zK (Qe U Yt) ?_;refine zK (Qd U Qq (fun hg=>by exact QB.h0 U)) ?_;refine zK (Qe U Vp) ?_;refine zK (Qd U Qq (fun hg=>by exact QB.h0 U)) ?_;refine zK (QI U U U) ?_;refine QE U U U U U ?_;refine zA (zN (Qr ?_));exact zr U U (by rw [<-zgE])
theorem zpl (I:Qt)(x:Sg):Zt Tryz.prog 37 [Yp x] I (.bool (frm x)):=by intro g H w hw;refine qe Tryz.func37 Tryz.ntmps37 hw ?_;refine zR ?_;refine QG U U U (fun b_1=>?_);refine zA ?_;refine zN (zR ?_);refine zF Zb ?_;refine zL Qq ?_;refine qcV (vs:=[_,_,_]) U Yg (Zq I _ _ _) ?_;refine zM ?_;refine QA 3 U U U ?_;refine zK (Qe U Vq) ?_;refine zK (Qd U Qq (fun hg=>by exact QB.h0 U)) ?_;refine qg (vs:=[_,_,_]) U Yg (fun hg=>Zq I _ _ _) ?_;refine QE U U U U U ?_;refine zM ?_;refine QA 8 U U U ?_;refine zK (Qe U Yq) ?_;refine zK (Qd U Qq (fun hg=>by exact QB.h0 U)) ?_;refine qg (vs:=[_,_,_]) U Yg (fun hg=>Zq I _ _ _) ?_;refine QE U U U U U ?_;refine zM ?_;refine QA 13 U U U ?_;refine zK (Qe U Kw) ?_;refine zK (Qd U Qq (fun hg=>by exact QB.h0 U)) ?_;refine qg (vs:=[_,_,_]) U Yg (fun hg=>Zq I _ _ _) ?_;refine QE U U U U U ?_;refine zM ?_;refine QA 18 U U U ?_;refine zK (Qe U VJ) ?_;refine zK (Qd U Qq (fun hg=>by exact QB.h0 U)) ?_;refine qg (vs:=[_,_,_]) U Yg (fun hg=>Zq I _ _ _) ?_;refine QE U U U U U ?_;refine zM ?_;refine QA 23 U U U ?_;refine zK (Qe U VE) ?_;refine zK (Qd U Qq (fun hg=>by exact QB.h0 U)) ?_;refine qg (vs:=[_,_,_]) U Yg (fun hg=>Zq I _ _ _) ?_;refine QE U U U U U ?_;refine zM ?_;refine QA 28 U U U ?_;refine zK (Qe U Yx) ?_;refine zK (Qd U Qq (fun hg=>by exact QB.h0 U)) ?_;refine qg (vs:=[_,_,_]) U Yg (fun hg=>Zq I _ _ _) ?_;refine QE U U U U U ?_;refine zM ?_;refine QA 33 U U U ?_;refine zK (Qe U Jk) ?_;refine zK (Qd U Qq (fun hg=>by exact QB.h0 U)) ?_;refine qg (vs:=[_,_,_]) U Yg (fun hg=>Zq I _ _ _) ?_;refine QE U U U U U ?_;refine zM ?_;refine QA 38 U U U ?_;refine zK (Qe U Yy) ?_;refine zK (Qd U Qq (fun hg=>by exact QB.h0 U)) ?_;refine qg (vs:=[_,_,_]) U Yg (fun hg=>Zq I _ _ _) ?_;refine QE U U U U U ?_;refine zM ?_;refine QA 43 U U U ?_;refine zK (Qe U VT) ?_;refine zK (Qd U Qq (fun hg=>by exact QB.h0 U)) ?_;refine qg (vs:=[_,_,_]) U Yg (fun hg=>Zq I _ _ _) ?_;refine QE U U U U U ?_;refine zM ?_;refine QA 48 U U U ?_;refine zK (Qe U Ym) ?_;refine zK (Qk U Zs (fun hg=>by exact Cells.s0 (vs:=[_,_]) U) U) ?_;refine zK (Qe U Yl) ?_;refine zK (Qk U Zs (fun hg=>by exact Cells.s0 (vs:=[_,_]) U) U) ?_;refine qg (vs:=[_,_]) U zsd (fun hg=>zk8 I _ _ _ _) ?_;refine QE U U U U U ?_;refine zA (zN (Qr ?_));exact zr U U kL
theorem Xx (hS:Sl I 14 Zk av n c xs)(hn:n<=100000):Zt Tryz.prog 10 [.slice av n c] I (.int .i64 (chkG xs)):=by
 intro g H w hw;refine qe Tryz.func10 Tryz.ntmps10 hw ?_;refine zR (zA (zN (Ql (zR ?_))));refine zM ?_;refine zQ Q4 ?_;refine zC (zN ?_);refine zI ?_ ?_<;>intro hc7
 ·have h6:xs.length>4096:=(by rw [hS.len];simp at hc7;omega);refine zR (zA (zN (Qr (Qc ?_))))
  first
  | exact zr U U (by unfold chkG;rw [jb h6])
 have h6:¬xs.length>4096:=(by rw [hS.len];simp at hc7;omega);refine Qo (Qa (Ql (zR (zM ?_))));refine zQ Q4 ?_;refine zM (zN (Qp ?_));refine zU [(0,_),(8,_),(9,_)] (fun T L0 mz E I' loc'=>∃ (k:Nat),mz=n-k/\E=(10,.int .i64 k)::T/\I=I'/\L0=loc'/\k<=n/\(List.range k).all (skP xs)=true) ?_ (h:=⟨0,U,U,U,U,jf _,U⟩);rintro mz E I' loc' ⟨k,rfl,rfl,rfl,rfl,hk,hall⟩;refine zR (zC (zN (Ql ?_)));refine zI ?_ ?_<;>intro hc11
 ·have hlt_k:k<n:=(by have h:=hc11;simp at h;omega);obtain ⟨x,hx⟩:=hS.at hlt_k;refine Qo (Qa (Ql (Qp (zR (zM ?_)))));refine zV (Qy U U Q4 kI (fun hg=>kB)) ?_;refine zV (Qk U QY (fun hg=>by exact zGO hS hx) U) ?_;refine Qs UV U U (fun b_4=>?_);refine zA ?_;refine zh Yk ?_;refine zN (Ql ?_);refine YE mixed kA ?_;refine zq (Qk U QY (fun hg=>by exact Cells.g0) U) ?_;refine Jq (cap:=[]) (vs:=[_]) U U zlV (zpl I _) U U ?_;refine zq (Vv U) ?_;refine zq (Qj U) ?_;refine JL 3 U U U ?_;refine zj (Qj U) ?_;refine zj (QI U U U) ?_;refine zj (Qj U) ?_;refine za9 6 U U U ?_;refine zk (Qj U) ?_;refine zk (Qj U) ?_;refine zk (ZL U U U (fun hg=>kB)) ?_;refine zk (Qy U U Q4 kI (fun hg=>by (simp [ZS] at hg;omega))) ?_;refine zk (Qe U Zb) ?_;refine zk (Qd U Qq (fun hg=>by exact zGG (k:=((k:Int)-1).toNat) hS (Zc (d:=ZU) hS.len (by simp [ZS] at hg;omega)) U)) ?_;refine zk (Qe U Zb) ?_;refine zk (Qd U Qq (fun hg=>by exact QB.h0 U)) ?_;refine zk (QI U U U) ?_;refine zgy U U U (.some U U U U gbf) U U ?_;refine W5 U U U U U ?_;refine YC ?_;refine Qa ?_;refine zI ?_ ?_<;>intro hc32
  ·refine zR (zA (zN (Qr (Qn (Qc (Qc (Qn ?_)))))));refine Qc ?_
   first
   | exact zr U U (by unfold chkG skB;rw [ja h6,JW (k:=k) (by rw [hS.len];exact hlt_k) (by rw [zcy hx,hc32];rfl)];rfl)
  refine Qo (Qg (Qa (Qf (zB ?_))));refine zM (Qb ?_);exact zm (h:=⟨n-(k+1),kB,k+1,U,U,U,U,kB,V7 hall (by rw [zcy hx,hc32];rfl)⟩)
 have hge_k:n<=k:=(by have h:=hc11;simp at h;omega);refine QF (Qh (Qh (Qm (Qa (zR (zA (zN ?_)))))));refine Qr ?_
 first
 | exact zr U U (by unfold chkG skB;rw [ja h6,hS.len,show n=k by omega,hall];rfl)
theorem zby (I:Qt)(b:Nat):Zt Tryz.prog 235 [QZ b] I (.agg (zFR b).toArray):=by intro g H w hw;refine qe Tryz.func235 Tryz.ntmps235 hw ?_;refine zR ?_;refine Qs ztC U U (fun b_2=>?_);refine zN (Ql ?_);have hD:=zGN I;refine YZ ?_;refine ZA I [] mixed ?_;refine zT 0 U (Qj U) hD ?_;refine zT 1 U (Qu U) hD ?_;refine zT 2 U (Qe U Vq) hD ?_;refine zT 3 U (Qj U) hD ?_;refine zT 4 U (Qu U) hD ?_;refine zT 5 U (Qe U Yq) hD ?_;refine zT 6 U (Qj U) hD ?_;refine zT 7 U (Qu U) hD ?_;refine zT 8 U (Qe U VJ) hD ?_;refine zT 9 U (Qj U) hD ?_;refine zT 10 U (Qu U) hD ?_;refine zT 11 U (Qe U VE) hD ?_;refine zT 12 U (Qj U) hD ?_;refine zT 13 U (Qu U) hD ?_;refine zT 14 U (Qe U Yx) hD ?_;refine zT 15 U (Qj U) hD ?_;refine zT 16 U (Qu U) hD ?_;refine zT 17 U (Qe U Jk) hD ?_;refine zT 18 U (Qj U) hD ?_;refine zT 19 U (Qu U) hD ?_;refine zT 20 U (Qe U Yy) hD ?_;refine zT 21 U (Qj U) hD ?_;refine zT 22 U (Qu U) hD ?_;refine zT 23 U (Qe U VT) hD ?_;refine zT 24 U (ZT (ps:=[(1,_),(2,_),(3,_),(4,_),(5,_),(6,_),(7,_),(8,_)]) [_,_,_,_,_,_,_,_,_] WT ztC U U) hD ?_;refine qd 25 U ?_;refine zh zvB ?_;refine Qb ?_;refine zD hD ?_;refine Qz kA ?_;refine QD ?_;refine Qa (Qr ?_);exact Y3 U U zvX Cells.g0 U (fun w hw=>⟨U,hw.drop⟩)
theorem zA5 (I:Qt)(x:Sg)(f:Int)(y:Sg)(hf:isF f):Zt Tryz.prog 209 [Yp x,.int .i64 f,Yp y] I (Yp (VD x f y)):=by
 intro g H w hw;refine qe Tryz.func209 Tryz.ntmps209 hw ?_;refine zR ?_;refine QG U U U (fun b_3=>?_);refine QG U U U (fun b_5=>?_);refine Qs UV U U (fun b_6=>?_);refine zN (Ql (zR (zM ?_)));refine zC (zN ?_);refine zI ?_ ?_<;>intro hc8
 ·have hf9:f=9:=(by simpa using hc8);refine zR ?_;refine zF Ym ?_;refine zV (Qk U Zs (fun hg=>by exact Cells.s1 (vs:=[_,_]) U) U) ?_;refine zF Yl ?_;refine zV (Qk U Zs (fun hg=>by exact Cells.s1 (vs:=[_,_]) U) U) ?_;refine zF Ym ?_;refine YO U U YQ U U U U (by repeat (first | exact Upd.here | apply Upd.there | apply QH)) ?_;refine zF Yl ?_;refine YO U U YQ U U U U (by repeat (first | exact Upd.here | apply Upd.there | apply QH)) ?_;refine zN (zR ?_);refine zV (Qk U QY (fun hg=>by exact Cells.g2) U) ?_;refine zh Yk ?_;refine zN (Qr (Qc ?_))
  first
  | exact Y3 U U QY Cells.g0 U (fun w hw=>⟨by rw [hf9];rfl,hw.drop⟩)
 have hf8:1<=f/\f<=8:=(by have h:=hc8;unfold isF at hf;simp at h;omega);refine Qo (Qa (Ql ?_));have hD:=zGN I;refine YZ ?_;refine ZA I [(b_5,.cells (Yp y).cells 28 (0,0))] mixed ?_;refine zT 1 U (Qj U) hD ?_;refine zT 4 U (Qj U) hD ?_;refine qd 0 U ?_;refine qcV (vs:=[_]) U zgJ (zby I _) ?_;refine Qb ?_;refine zD hD ?_;refine Zo 2 3 U U kA ?_ ?_
 focus
  refine zV (Un U U WT XZ (fun hg=>kB) (fun hg=>zcT hf8 b_3)) ?_;refine Qb ?_;refine zD hD ?_;refine qd 3 U ?_;refine qcV (vs:=[_]) U zgJ (zby I _) ?_;refine Qb ?_;refine zD hD ?_;refine qd 5 U ?_;refine zV (Un U U WT XZ (fun hg=>kB) (fun hg=>zcT hf8 b_5)) ?_;refine Qb ?_;refine zD hD ?_;refine zT 6 U (Qu U) hD ?_;refine zT 7 U (Qd U Qq (fun hg=>by exact QB.h0 (zgx hf8 y))) hD ?_
 rotate_left
 refine qcV (vs:=[_]) U zgJ (zby I _) ?_;refine Qb ?_;refine zD hD ?_;refine Zo 2 5 U U kA ?_ ?_
 focus
  refine zV (Un U U WT XZ (fun hg=>kB) (fun hg=>zcT hf8 b_3)) ?_;refine Qb ?_;refine zD hD ?_;refine qd 5 U ?_;refine zV (Un U U WT XZ (fun hg=>kB) (fun hg=>zcT hf8 b_5)) ?_;refine Qb ?_;refine zD hD ?_;refine zT 6 U (Qu U) hD ?_;refine zT 7 U (Qd U Qq (fun hg=>by exact QB.h0 (zgx hf8 y))) hD ?_
 rotate_left
 refine zV (Un U U WT XZ (fun hg=>kB) (fun hg=>zcT hf8 b_5)) ?_;refine Qb ?_;refine zD hD ?_;refine zT 6 U (Qu U) hD ?_;refine zT 7 U (Qd U Qq (fun hg=>by exact QB.h0 (zgx hf8 y))) hD ?_;refine qd 2 U ?_;refine zV (Un U U WT XZ (fun hg=>kB) (fun hg=>zcT hf8 b_3)) ?_;refine Qb ?_;refine zD hD ?_
 all_goals
  refine zT 8 U (Qu U) hD ?_;refine qd 9 U ?_;refine Z0 U U ZD U U Upd.u2 (by exact zu0) ?_;rw [show (Yp x).cells.setIfInBounds (foF f) (.int .i64 (zAP y f))=(Zk (VD x f y)).toArray from zkx hf8 x y];refine Qb ?_;refine zD hD ?_;refine Qz kA ?_;refine QD ?_;refine Qa (zR ?_);refine zV (Qk U QY (fun hg=>by exact Cells.g2) U) ?_;refine zh Yk ?_;refine zN (Qr ?_);exact Y3 U U QY Cells.g0 U (fun w hw=>⟨U,hw.drop⟩)
end
section
open Go Go.Kn
theorem ziF (zs:List Int):zs.flatMap Q3=zs.map (Value.int .i64):=by
 induction zs with
 | nil=>rfl
 | cons z zs ih=>rw [jO,ih];rfl
theorem zaF {zs ys:List Int}(hy:ys.Pairwise (· < ·))(h:∀ x,x∈zs↔x∈ys):Lib.compact (YB zs)=ys:=
 Wg (zbH zs).1 hy fun a=>by rw [(zbH zs).2,h]
end
section
open Go Go.Kn Go.Proofs
theorem zki (i j:Nat)(h:i+j<=1000000):IntKind.i64.wrap ((IntKind.u64.wrap ((i:Int)+(j:Int))).fdiv (2^1))=(((i+j) / 2:Nat):Int):=by
 have h1:IntKind.u64.wrap ((i:Int)+(j:Int))=((i+j:Nat):Int):=by
  rw [show ((i:Int)+(j:Int))=((i+j:Nat):Int) by omega];exact zju ⟨kB,kB⟩
 rw [h1,show ((2:Int)^1)=((2:Nat):Int) from U,AW _ kB,<-Int.natCast_ediv];exact zdp ⟨kB,kB⟩
variable{x:Int}
theorem zDd {y:Int}:decide (V2 x y<0)=decide (x<y):=by
 unfold V2;by_cases h:x<y
 ·rw [jb h];simp [h]
 ·rw [ja h];split<;>simp [h]
section
variable {α:Type} {key:α->Int} {xs:List α} {t:Int}
theorem zFe (hs:xs.Pairwise (fun a b=>key a<key b)){h:Nat}{y:α}(hy:xs[h]? =some y)(hlt:key y<t):∀ q z,q<h+1->xs[q]? =some z->key z<t:=fun q z hq hz=>by
 obtain ⟨h1,h2⟩:=jc.1 hz;obtain ⟨h3,h4⟩:=jc.1 hy;by_cases e:q=h
 ·subst e;rw [hy] at hz;cases hz;exact hlt
 ·have:=jM.1 hs q h h1 h3 kB;rw [h2,h4] at this;omega
theorem zFC (hs:xs.Pairwise (fun a b=>key a<key b)){h:Nat}{y:α}(hy:xs[h]? =some y)(hlt:¬key y<t):∀ q z,h<=q->xs[q]? =some z->¬key z<t:=fun q z hq hz=>by
 obtain ⟨h1,h2⟩:=jc.1 hz;obtain ⟨h3,h4⟩:=jc.1 hy;by_cases e:q=h
 ·subst e;rw [hy] at hz;cases hz;exact hlt
 ·have:=jM.1 hs h q h3 h1 kB;rw [h2,h4] at this;omega
def zD0 (key:α->Int)(xs:List α)(t:Int):Nat:=(xs.takeWhile fun x=>decide (key x<t)).length
theorem zzl {i:Nat}(hi:i<=xs.length)(hlo:∀ q z,q<i->xs[q]? =some z->key z<t)(hhi:∀ q z,i<=q->xs[q]? =some z->¬key z<t):zD0 key xs t=i:=by
 unfold zD0
 have h1:(xs.take i).all (fun x=>decide (key x<t))=true:=by
  rw [ji];intro z hz;obtain ⟨q,hq⟩:=jC hz;have hq1:q<i:=(by have:=(jc.1 hq).1;rw [jH] at this;omega);rw [A9 hq1] at hq;exact jX (hlo q z hq1 hq)
 rw [(zCx h1 hi (fun y hy=>j1 (hhi i y (js _) hy))).1,jH];omega
theorem zqk {i n:Nat}{d:α}(hl:xs.length=n)(hlo:∀ q z,q<i->xs[q]? =some z->key z<t)(hhi:∀ q z,i<=q->xs[q]? =some z->¬key z<t)(hs:xs.Pairwise (fun a b=>key a<key b)):(decide ((i:Int)<(n:Int))&&(key (xs.getD i d)==t))=xs.any fun x=>key x==t:=by
 rw [jL,ju,jj];constructor
 ·rintro ⟨h1,h2⟩;have hi:i<n:=(by have:=Oi h1;omega);exact ⟨_,jd (Zc hl hi),h2⟩
 ·rintro ⟨x,hx,e⟩;have e:key x=t:=(by simpa using e);obtain ⟨q,hq⟩:=jC hx;have hqn:=(jc.1 hq).1
  have h1:i<=q:=by
   rcases B2 q i with h | h
   ·have:=hlo q x h hq;omega
   ·exact h
  have h2:q=i:=by
   by_cases e2:q=i
   ·exact e2
   ·have hy:=Zc (d:=d) hl (show i<n by omega);obtain ⟨h3,h4⟩:=jc.1 hq;obtain ⟨h5,h6⟩:=jc.1 hy;have h7:=jM.1 hs i q h5 h3 kB;rw [h4,h6] at h7;have:=hhi i _ (js _) hy;omega
  subst h2;refine ⟨jX kB,?_⟩;rw [Q1 hq,e];simp
end
instance : Inhabited Sg := ⟨ZU⟩
def ztO (a b:Sg):Int:=V2 a.id b.id
theorem ltG (a b:Sg):Go.Proofs.ltOf ztO a b=decide (a.id<b.id):=by unfold Go.Proofs.ltOf ztO;exact zDd
theorem zGg:Go.Sort.SWO (Go.Proofs.ltOf ztO) where
 irrefl:=fun x=>by rw [ltG];simp
 trans:=fun x y z h1 h2=>by rw [ltG] at*;simp at*;omega
 ntrans:=fun x y z h1 h2=>by rw [ltG] at*;simp at*;omega
theorem zry {zs zs':List Sg}(hp:zs'.Perm zs)(hs:zs'.Pairwise (fun x y=>Go.Proofs.ltOf ztO y x=false))(hn:(zs.map (·.id)).Nodup):Srt zs':=by have hn':(zs'.map (·.id)).Nodup:=(hp.map (·.id)).nodup_iff.2 hn;unfold Srt;have h2:zs'.Pairwise (fun a b=>a.id≠b.id):=OV.1 hn';refine (hs.and h2).imp fun {a b} h=>?_;have:=h.1;rw [ltG] at this;simp at this;have:=h.2;omega
def zy5 (v:List Int)(i:Nat):Bool:= !(decide ((i:Int)>0)&&decide (v.getD i 0<=v.getD ((i:Int)-1).toNat 0))
theorem zlc {v:List Int}:zuS v=(List.range v.length).all (zy5 v):=rfl
theorem zmu (v:List Int):(List.range 1).all (zy5 v)=true:=by simp [zy5]
variable{k:Nat}
theorem zm2 {v:List Int}(hx:v[k]? =some x)(h:1<=k):zy5 v k= !decide (x<=v.getD ((k:Int)-1).toNat 0):=by unfold zy5;rw [Q1 hx,jX (show (k:Int)>0 by omega),OM]
variable{n:Nat}
theorem zl3 {p:Nat->Bool}(h:(List.range k).all p=true)(hn:n<=k):(List.range n).all p=true:=by rw [ji] at*;intro i hi;exact h i (jm.2 (Nat.lt_of_lt_of_le (jm.1 hi) hn))
variable{v:Value}
theorem zCY (e:Nat)(zs:List Int){L:Go.Kn.Loc}(hO:OwnS e 1 v n (zs.map (Value.int .i64)) L)(hn:n<=1000000)(I:Qt):
  ZQ Tryz.prog 70 [v] I L (fun u I' L'=>u= .tuple #[]/\I'=I/\OwnS e 1 v n ((YB zs).map (Value.int .i64)) L'):=
 zlX Tryz.slices_Sort_int Tryz.slices_Sort_int_none zs hO hn I
theorem zm6 (e:Nat)(zs:List Int){L:Go.Kn.Loc}(hO:OwnS e 1 v n (zs.map (Value.int .i64)) L)(hn:n<=1000000)(I:Qt):
  ZQ Tryz.prog 71 [v] I L (fun u I' L'=>I'=I/\OwnS e 1 u (Lib.compact zs).length ((Lib.compact zs).map (Value.int .i64)) L'):=
 zcD Lib.compact Lib.compact_length_le U Tryz.slices_Compact_int Tryz.slices_Compact_int_empty zs hO hn I
theorem zBo (I:Qt)(x y:Sg):Zt Tryz.prog 127 [Yp x,Yp y] I (.int .i64 (ztO x y)):=by intro g H w hw;refine qe Tryz.func127 Tryz.ntmps127 hw ?_;refine zR ?_;refine QG U U U (fun b_2=>?_);refine QG U U U (fun b_3=>?_);refine zA ?_;refine zN (zR ?_);refine zF Zb ?_;refine zL Qq ?_;refine zF Zb ?_;refine zL Qq ?_;refine qcV (vs:=[_,_]) U zfe (zjC I _ _) ?_;refine zA (zN (Qr ?_));exact zr U U kL
theorem zxT (e:Nat)(zs:List Sg){L:Go.Kn.Loc}(hO:OwnS e 14 v n (zs.flatMap Zk) L)(hn:n<=1000000)(I:Qt):
  ZQ Tryz.prog 126 [v,.func (.func 127) #[] #[]] I L (fun u I' L'=>u= .tuple #[]/\I'=I/\∃ zs':List Sg,zs'.Perm zs/\zs'.Pairwise (fun x y=>Go.Proofs.ltOf ztO y x=false)/\OwnS e 14 v n (zs'.flatMap Zk) L'):=
 zo1 Z8 kE (fun blk off cap d w hC hH hb hs=>Tryz.slices_SortFunc 14 (fun w=>Y6 QY) (fun w=>by obtain ⟨i,hi,hz⟩:=Yk;rw [<-hz];exact Go.Kn.run_sizeOf hi) Zk Z8 (fun x=>Je kL) ztO zGg 127 #[] blk off cap d w (fun args w=>YF zuD args w) hC hH hb hs)
  (Tryz.slices_SortFunc_none_f126 (α:=Sg)) (fun I x y=>zBo I x y) zs hO hn I
theorem ztp (I:Qt)(x:Int):Zt Tryz.prog 174 [.int .i64 x] I (.bool false):=by intro g H w hw;refine qe Tryz.func174 Tryz.ntmps174 hw ?_;refine zR (zA ?_);refine zN (zR ?_);refine zM ?_;refine zM ?_;refine zC ?_;refine zA (zN (Qr ?_));exact zr U U kK
theorem zDt (I:Qt)(x y:Int):Zt Tryz.prog 173 [.int .i64 x,.int .i64 y] I (.bool (decide (x<y))):=by intro g H w hw;refine qe Tryz.func173 Tryz.ntmps173 hw ?_;refine zR (zA ?_);refine zN (zR ?_);refine zM ?_;refine qcV (vs:=[_]) U XV (zgU I _) ?_;refine zM ?_;refine QA 2 U U U ?_;refine zK (Qj U) ?_;refine qg (vs:=[_]) U XV (fun hg=>zgU I _) ?_;refine zK (Vv U) ?_;refine QE U U U U U ?_;refine zM ?_;refine Q8 7 U U U ?_;refine zJ (Qj U) ?_;refine zJ (Qj U) ?_;refine zJ (QI U U U) ?_;refine ZO U U U U U ?_;refine zA (zN (Qr ?_));exact zr U U kL
variable{I:Qt}{av:Option Addr}{c:Nat}{xs:List Int}
theorem zEW (hS:Sl I 1 Q3 av n c xs)(hn:n<=100000)(hs:xs.Pairwise (· < ·))(t:Int):Zt Tryz.prog 125 [.slice av n c,.int .i64 t] I (.tuple #[.int .i64 (zD0 (fun x:Int=>x) xs t:Nat),.bool (xs.any fun x=>x==t)]):=by
 intro g H w hw;refine qe Tryz.func125 Tryz.ntmps125 hw ?_;refine zR (zA ?_);refine zA ?_;refine zN (zR ?_);refine zM ?_;refine zQ Qx ?_;refine zA ?_;refine zN (zR ?_);refine zM ?_;refine zA ?_;refine zA (zN (Ql (Qp ?_)));refine zU [(0,_),(1,_),(6,_)] (fun T L0 mz E I' loc'=>∃ (i j:Nat),mz=j-i/\E=(7,.int .i64 i)::(8,.int .i64 j)::T/\I=I'/\L0=loc'/\i<=j/\j<=n/\(∀ q z,q<i->xs[q]? =some z->z<t)/\∀ q z,j<=q->xs[q]? =some z->¬z<t) ?_ (h:=⟨0,n,U,U,U,U,jf _,js _,fun q z h=>absurd h kB,fun q z h1 h2=>by have:=(jc.1 h2).1;rw [hS.len] at this;omega⟩);rintro mz E I' loc' ⟨i,j,rfl,rfl,rfl,rfl,hij,hjn,hlo,hhi⟩;refine Ql (zR (zM ?_));refine zM ?_;refine zC (zN ?_);refine zI ?_ ?_<;>intro hc15
 ·have hlt:i<j:=(by have h:=hc15;simp at h;omega);obtain ⟨y,hy⟩:=hS.at (k:=(i+j) / 2) kB;refine Qo (Qa (Qp (zR (zM ?_))));refine zM ?_;refine zB ?_;refine zV (YK U Jp) ?_;refine zV (zi9 U U kE (rfl:min _ _=1)) ?_;refine zV (YK U Xc) ?_;refine zA (Qb ?_);rw [zki i j kB];refine Qa (zR (zM ?_));refine zM ?_;refine zV (Qy U U Qx kI (fun hg=>kB)) ?_;refine zV (Qd U Qq (fun hg=>by exact zGG (k:=(i+j) / 2) hS hy U)) ?_;refine zM ?_;refine qcV (vs:=[_,_]) U zt8 (zDt I _ _) ?_;refine zN ?_;refine zI ?_ ?_<;>intro hc27
  ·refine Qf (zM ?_);refine zB ?_;refine zA (Qb (Qg ?_));exact zm (h:=⟨j-((i+j) / 2+1),kB,(i+j) / 2+1,j,U,U,U,U,kB,hjn,zFe (key:=fun x:Int=>x) hs hy (by simpa using hc27),hhi⟩)
  refine Qf (zM ?_);refine zA (Qb (Qg ?_));exact zm (h:=⟨(i+j) / 2-i,kB,i,(i+j) / 2,U,U,U,U,kB,kB,hlo,zFC (key:=fun x:Int=>x) hs hy (by simpa using hc27)⟩)
 have hge:j<=i:=(by have h:=hc15;simp at h;omega);have hje:j=i:=kB;subst hje;refine QF (Qh (Qh (Qm (Qa (zR (zM ?_))))));refine zM ?_;refine zM ?_;refine zC ?_;refine zM ?_;refine QA 4 U U U ?_;refine zK (Qj U) ?_;refine zK (Qj U) ?_;refine zK (Qy U U Qx kI (fun hg=>by (simp [ZS] at hg;omega))) ?_;refine zK (Qd U Qq (fun hg=>by exact Sl.getD0 (k:=j) (d:=0) hS (by simp [ZS] at hg;omega) U)) ?_;refine zK (Qj U) ?_;refine zK (QI U U U) ?_;refine zK (Qj U) ?_;refine Q8 11 U U U ?_;refine zJ (Qj U) ?_;refine zJ (Qj U) ?_;refine zJ (Qy U U Qx kI (fun hg=>by (simp [ZS] at hg;omega))) ?_;refine zJ (Qd U Qq (fun hg=>by exact Sl.getD0 (k:=j) (d:=0) hS (by simp [ZS] at hg;omega) U)) ?_;refine qf (vs:=[_]) U zko (fun hg=>ztp I _) ?_;refine zJ (Qj U) ?_;refine QA 17 U U U ?_;refine zK (Qj U) ?_;refine qg (vs:=[_]) U zko (fun hg=>ztp I _) ?_;refine zww U U U (.some U U U U gbf) U U ?_;refine zsw U U U (.some U U U U gbt) U U ?_;refine QE U U U U U ?_;refine zA ?_;refine zA (zN (Qr ?_));exact Q9 U U U (fun w hw=>⟨by rw [<-zqk (key:=fun x:Int=>x) (d:=0) hS.len hlo hhi hs,zzl (key:=fun x:Int=>x) (by rw [hS.len];omega) hlo hhi];simp,hw.drop⟩)
theorem zDi (hS:Sl I 1 Q3 av n c xs)(hn:n<=100000):Zt Tryz.prog 211 [.slice av n c] I (.bool (zuS xs)):=by
 intro g H w hw;refine qe Tryz.func211 Tryz.ntmps211 hw ?_;refine zR (zA (zN (Ql (zR ?_))));refine zA (zN (Qp ?_));refine zU [(0,_)] (fun T L0 mz E I' loc'=>∃ (k:Nat),mz=(max n 1)-k/\E=(3,.int .i64 k)::T/\I=I'/\L0=loc'/\k<=(max n 1)/\1<=k/\(List.range k).all (zy5 xs)=true) ?_ (h:=⟨1,U,U,U,U,kB,js _,zmu xs⟩);rintro mz E I' loc' ⟨k,rfl,rfl,rfl,rfl,hk,h1,hall⟩;refine Ql (zR (zM ?_));refine zM ?_;refine zQ Qx ?_;refine zC (zN ?_);refine zI ?_ ?_<;>intro hc7
 ·have hlt_k:k<n:=(by have h:=hc7;simp at h;omega);obtain ⟨x,hx⟩:=hS.at hlt_k;refine Qo (Qa (Ql (Qp (Ql ?_))));refine YE mixed kA ?_;refine zq (Qj U) ?_;refine zq (Qj U) ?_;refine zq (Qy U U Qx kI (fun hg=>kB)) ?_;refine zq (Qd U Qq (fun hg=>by exact zGG (k:=k) hS hx U)) ?_;refine zq (Qj U) ?_;refine zq (Qj U) ?_;refine zq (ZL U U U (fun _=>kB)) ?_;refine zq (Qy U U Qx kI (fun hg=>kB)) ?_;refine zq (Qd U Qq (fun hg=>by exact Sl.getD0 (k:=((k:Int)-1).toNat) (d:=0) hS kB U)) ?_;refine zq (QI U U U) ?_;refine YC ?_;refine Qa ?_;refine zI ?_ ?_<;>intro hc19
  ·refine zR (zA (zN (Qr (Qn (Qc (Qc (Qn ?_)))))));refine Qc ?_
   first
   | exact zr U U (by rw [zlc,JW (k:=k) (by rw [hS.len];exact hlt_k) (by rw [zm2 hx h1,hc19];rfl)])
  refine Qo (Qg (Qa (Qf (zM ?_))));refine zB ?_;refine zA (Qb ?_);exact zm (h:=⟨(max n 1)-(k+1),kB,k+1,U,U,U,U,kB,kB,V7 hall (by rw [zm2 hx h1,hc19];rfl)⟩)
 have hge_k:n<=k:=(by have h:=hc7;simp at h;omega);refine QF (Qh (Qh (Qm (Qa (zR (zA (zN ?_)))))));refine Qr ?_;exact zr U U (by rw [zlc,hS.len,zl3 hall (show n<=k from hge_k)])
theorem zqY {xs:List Sg}(hS:Sl I 14 Zk av n c xs)(hn:n<=400000):ZQ Tryz.prog 124 [.slice av n c] I [] (fun v I' L=>I'=I/\OwnS 28 14 v n (xs.flatMap Zk) L):=by
 intro g H w hw;refine qe Tryz.func124 Tryz.ntmps124 hw ?_;refine zR (zA (zN (Ql (zR ?_))));refine zM ?_;refine zV (zbe U U Q4) ?_;refine zN ?_;refine zI ?_ ?_<;>intro hc4
 ·have hn0:n=0:=OY fun h=>(by have:=hS.base h;rw [this] at hc4;cases hc4);have hl:=hS.len;subst hn0;have hx0:=j4 hl;subst hx0;refine zR (zA (zN (Qr (Qc ?_))));exact QR U U (fun w hw=>⟨_,I,_,U,zGN _,hw,U,OwnS.nil⟩)
 refine Qo (Qa (zR ?_));refine zpb [] [] VG (fun b_5=>?_);refine zM ?_;refine zpa (_) (xs.flatMap Zk) ([(b_5,_)]) U U VG OwnS.new (hS.src Z8) (zgW _) ?_;intro v1 L1 hO1 _;rw [j8,Oc] at hO1;refine zA (zN (Qr ?_));exact QR U U (fun w hw=>⟨_,I,_,U,zGN _,hw.subL QS,U,hO1⟩)
variable{bv:Option Addr}{n2 c2:Nat}{ys:List Int}
theorem zla (hS:Sl I 1 Q3 av n c xs)(hn:n<=400000)(hT:Sl I 1 Q3 bv n2 c2 ys)(hn2:n2<=100000):ZQ Tryz.prog 50 [.slice av n c,.slice bv n2 c2] I [] (zec 1 Q3 (Lib.compact (YB (xs++ys)))):=by intro g H w hw;refine qe Tryz.func50 Tryz.ntmps50 hw ?_;have hIc:=zGN I;refine zR (zA ?_);refine zN (zR ?_);refine zM ?_;refine zpc [_] U zii .nil (za8 hS hn) ?_;rintro vv1 I1 L1 hI1 ⟨rfl,hO⟩;have hT:=hT.mono hI1;have hIc:=hIc.trans hI1;refine zM ?_;refine zbF (v:=_) (ys:=ys.flatMap Q3) (L:=_) U U Zw hO QO (hT.src Zh) (JH _) kB U U ?_;intro v2 L2 hO2 _;rw [<-jo,ziF] at hO2;refine zA ?_;refine zN (zR ?_);refine zM ?_;refine zpc [_] U zfq QO (zCY 3 (xs++ys) hO2 kB _) ?_;rintro vv2 I2 L2 hI2 ⟨rfl,rfl,hO3⟩;have hIc:=hIc.trans hI2;refine zN (zR ?_);refine zM ?_;refine zpc [_] U ztz QO (zm6 3 _ hO3 kB _) ?_;rintro vv3 I3 L3 hI3 ⟨rfl,hO4⟩;have hIc:=hIc.trans hI3;refine zA (zN (Qr ?_));rw [<-ziF] at hO4;exact QR U U (fun w hw=>by obtain ⟨I9,h91,h92,h93⟩:=OwnS.res hO4 Zh kE (hw.subL (by exact QS));exact ⟨_,I9,[],U,hIc.trans h91,h92,h93⟩)
def zeE (b:Nat):Value:=.map (some b)
structure zbr (s:List (Int×Bool))(A:Int->Bool):Prop where
 nodup:(s.map (·.1)).Nodup
 all:∀ q∈s,q.2=true
 mem:∀ x,ziP s x=A x
theorem zbr.nil:zbr [] (fun _=>false):=⟨.nil,(fun q hq=>by cases hq),fun _=>U⟩
variable{s:List (Int×Bool)}{A:Int->Bool}
theorem zbr.put (h:zbr s A)(a:Int):zbr (YM s a true) (fun x=>decide (a=x)||A x) where
 nodup:=XU a true h.nodup
 all:=by
  have key:∀ (s:List (Int×Bool)),(∀ q∈s,q.2=true)->∀ q∈YM s a true,q.2=true:=by
   intro s
   induction s with
   | nil=>intro _ q hq;simp [YM] at hq;rw [hq]
   | cons p s ih=>
    intro h q hq;unfold YM at hq;split at hq
    ·rcases jp.1 hq with rfl | hq
     ·rfl
     ·exact h q (jq _ hq)
    ·rcases jp.1 hq with rfl | hq
     ·exact h _ (jk ..)
     ·exact ih (fun q hq=>h q (jq _ hq)) q hq
  exact key s h.all
 mem:=fun x=>by rw [zaZ,h.mem]
theorem zbr.congr {B:Int->Bool}(h:zbr s A)(e:∀ x,A x=B x):zbr s B:=⟨h.nodup,h.all,fun x=>by rw [h.mem,e]⟩
theorem zbr.key (h:zbr s A):A x=true↔x∈s.map (·.1):=by
 rw [<-h.mem];unfold ziP;constructor
 ·intro h1
  cases hg:ZP s x with
  | none=>rw [hg] at h1;cases h1
  | some b=>exact jt.2 ⟨_,U8 hg,U⟩
 ·intro h1;obtain ⟨q,hq,rfl⟩:=jt.1 h1;rw [zc6 h.nodup hq,h.all q hq];rfl
def OnS (I:Qt)(ref:Nat)(A:Int->Bool):Prop:=∃ s:List (Int×Bool),I ref=some (Z7 (Value.int .i64) Value.bool s)/\zbr s A
variable{I':Qt}{ref:Nat}
theorem OnS.mono (h:OnS I ref A)(hI:HLe I I'):OnS I' ref A:=by obtain ⟨s,h1,h2⟩:=h;exact ⟨s,hI _ _ h1,h2⟩
def OnL (I:Qt)(m:List (Int×Nat))(ps:List Pt):Prop:=m.map (·.1)=ps.map (·.id)/\∀ q∈m,OnS I q.2 (onF ps q.1)
variable{m:List (Int×Nat)}{ps:List Pt}
theorem OnL.mono (h:OnL I m ps)(hI:HLe I I'):OnL I' m ps:=⟨h.1,fun q hq=>(h.2 q hq).mono hI⟩
theorem OnL.nil :OnL I [] (ps.take 0):=⟨by simp,fun q hq=>by cases hq⟩
def OnM (I:Qt)(r:Nat)(ps:List Pt):Prop:=∃ m:List (Int×Nat),I r=some (Z7 (Value.int .i64) zeE m)/\OnL I m ps
variable{r:Nat}
theorem OnM.mono (h:OnM I r ps)(hI:HLe I I'):OnM I' r ps:=by obtain ⟨m,h1,h2⟩:=h;exact ⟨m,hI _ _ h1,h2.mono hI⟩
variable{a:Int}
theorem OnL.get (h:OnL I m ps)(ha:∃ q∈ps,q.id=a):∃ ref,ZP m a=some ref/\OnS I ref (onF ps a):=by
 cases hg:ZP m a with
 | none=>
  have:=XR.1 hg;rw [h.1] at this;obtain ⟨q,hq,rfl⟩:=ha;exact absurd (jt.2 ⟨q,hq,U⟩) this
 | some ref=>exact ⟨ref,U,h.2 _ (U8 hg)⟩
variable{p:Pt}
theorem Lst.before (h:Lst ps)(hk:ps[k]? =some p){n:Int}(hn:n∈p.needs):∃ q∈ps.take k,q.id=n:=by
 obtain ⟨h1,q,hq,rfl⟩:=h.has p (jd hk) n hn;obtain ⟨j,hj⟩:=jC hq;obtain ⟨hj1,hj2⟩:=jc.1 hj;obtain ⟨hk1,hk2⟩:=jc.1 hk
 have hjk:j<k:=by
  rcases B2 j k with h3 | h3
  ·exact h3
  ·exfalso;by_cases e:k=j
   ·subst e;rw [hk] at hj;cases hj;omega
   ·have:=jM.1 h.inc k j hk1 hj1 kB;rw [hj2,hk2] at this;omega
 refine ⟨q,?_,U⟩;rw [Af];exact ⟨j,kB,hj2⟩
theorem Lst.fresh (h:Lst ps)(hk:ps[k]? =some p):∀ q∈ps.take k,q.id<p.id:=fun q hq=>by
 obtain ⟨j,hj,rfl⟩:=Af.1 hq;obtain ⟨hk1,hk2⟩:=jc.1 hk;have:=jM.1 h.inc j k kB hk1 kB;rw [hk2] at this;exact this
theorem OnL.step (hL:Lst ps)(hk:ps[k]? =some p)(hm:OnL I m (ps.take k))(hb:I ref=some (Z7 (Value.int .i64) Value.bool s))
  (hs:zbr s (fun x=>p.needs.any fun n=>n==x||onF (ps.take k) n x)):OnL I (YM m p.id ref) (ps.take (k+1)):=by
 have hfr:=hL.fresh hk
 have hnew:p.id∉m.map (·.1):=by
  rw [hm.1];intro h;obtain ⟨q,hq,e⟩:=jt.1 h;have:=hfr q hq;omega
 have hmi:YM m p.id ref=m++[(p.id,ref)]:=by
  refine za3 m p.id ref 0 ?_;have:=XR.2 hnew;rw [<-KP m p.id 0] at this;simpa using this
 rw [ZI hk];refine ⟨by rw [Xw,ja hnew,hm.1];simp,fun q hq=>?_⟩;rw [hmi] at hq;rcases jv.1 hq with hq | hq
 ·obtain ⟨s',h1,h2⟩:=hm.2 q hq;refine ⟨s',h1,h2.congr fun x=>?_⟩;have hne:q.1≠p.id:=fun e=>hnew (by rw [<-e];exact jt.2 ⟨q,hq,U⟩);rw [zjt (fun z hz=>by simp at hz;subst hz;exact fun e=>hne e.symm)]
 ·simp at hq;subst hq;refine ⟨s,hb,hs.congr fun x=>?_⟩;exact (zfF (fun z hz=>by cases hz)).symm
def zpZ (sn:List (Int×Bool))(seen:List Nat)(x:Int):Bool:=seen.any fun i=>(sn[i]?.map (·.1))==some x
theorem zep (sn:List (Int×Bool))(x:Int):zpZ sn [] x=false:=rfl
variable{sn:List (Int×Bool)}{seen:List Nat}{i:Nat}
theorem zbl {p:Int×Bool}(hp:sn[i]? =some p)(x:Int):zpZ sn (seen++[i]) x=(decide (p.1=x)||zpZ sn seen x):=by unfold zpZ;rw [A1,jL];simp [hp,or_comm]
theorem zeb (h:zbr sn A)(hall:∀ i p,sn[i]? =some p->i∈seen)(x:Int):zpZ sn seen x=A x:=by
 rw [jL,h.key];unfold zpZ;rw [ju];constructor
 ·rintro ⟨i,_,hi⟩
  cases hx:sn[i]? with
  | none=>rw [hx] at hi;simp at hi
  | some p=>rw [hx] at hi;simp at hi;exact jt.2 ⟨p,jd hx,hi⟩
 ·intro hx;obtain ⟨p,hp,rfl⟩:=jt.1 hx;obtain ⟨i,hi⟩:=jC hp;exact ⟨i,hall i p hi,by rw [hi];simp⟩
theorem zcV (hP:SlP I av n c ps)(hn:n<=100000)(hL:Lst ps)(hnd:∀ p∈ps,p.n<=100000):ZQ Tryz.prog 123 [.slice av n c] I [] (fun v I' L=>L=[]/\∃ r,v= .map (some r)/\OnM I' r ps):=by
 intro g H w hw;refine qe Tryz.func123 Tryz.ntmps123 hw ?_;have hIc:=zGN I;refine zR (zA ?_);refine zN (zR ?_);refine ZV U U (fun r_10=>?_);refine zA (zN (Ql (zR ?_)));refine zM ?_;refine zQ ZG ?_;refine zM (zN (Qp ?_));refine zU [(3,_),(11,_),(12,_)] (fun T L0 mz E I' loc'=>∃ (k:Nat) (m:List (Int×Nat)),mz=n-k/\E=(13,.int .i64 k)::T/\HLe I I'/\[(r_10,Z7 (Value.int .i64) zeE m)]=loc'/\k<=n/\OnL I' m (ps.take k)) ?_ (h:=⟨0,[],U,U,zGN _,U,jf _,OnL.nil⟩);rintro mz E J1 loc' ⟨k,m,rfl,rfl,hJ,rfl,hk,hm⟩;have hP:=hP.mono hJ;have hIc:=hIc.trans hJ;have hB0:=hJ;refine zR (zC (zN (Ql ?_)));refine zI ?_ ?_<;>intro hc14
 ·have hlt_k:k<n:=(by have h:=hc14;simp at h;omega);have hP1:=hP.1;obtain ⟨p,hp,hN⟩:=hP.at hlt_k;have hpm:=jd hp;have hN:Sl J1 1 Q3 p.a p.n p.c p.needs:=hN;have hpn:=hnd p hpm;refine Qo (Qa (Ql (Qp (zR ?_))));refine zV (Qy U U ZG kI (fun hg=>kB)) ?_;refine zV (Qk U YG (fun hg=>by exact zGO hP.1 hp) U) ?_;refine Qs Uf U U (fun b_5=>?_);refine zh VY ?_;refine zN (zR ?_);refine ZV U U (fun r_17=>?_);refine zA (zN (Ql (zR ?_)));refine zF U9 ?_;refine zL QK ?_;refine zQ Qx ?_;refine zM (zN (Qp ?_));refine zU [(3,_),(5,_),(6,_),(11,_),(12,_),(13,_),(19,_),(20,_)] (fun T L0 mz E I' loc'=>∃ (j:Nat) (s:List (Int×Bool)),mz=p.n-j/\E=(21,.int .i64 j)::T/\J1=I'/\[(r_17,Z7 (Value.int .i64) Value.bool s),(b_5,.cells (Yh p).toArray 53 (0,0)),(r_10,Z7 (Value.int .i64) zeE m)]=loc'/\j<=p.n/\zbr s (fun x=>(p.needs.take j).any fun n=>n==x||onF (ps.take k) n x)) ?_ (h:=⟨0,[],U,U,U,U,jf _,zbr.nil⟩);rintro mz E I' loc' ⟨j,s,rfl,rfl,rfl,rfl,hj,hs⟩;refine zR (zC (zN (Ql ?_)));refine zI ?_ ?_<;>intro hc22
  ·have hlt_j:j<p.n:=(by have h:=hc22;simp at h;omega);obtain ⟨y,hy⟩:=hN.at hlt_j;obtain ⟨ref,hget,sn,hsn,hsq⟩:=hm.get (hL.before hp (jd hy));refine Qo (Qa (Ql (Qp (zR ?_))));refine zV (Qy U U Qx kI (fun hg=>kB)) ?_;refine zV (Qd U Qq (fun hg=>by exact zGG hN hy U)) ?_;refine zA ?_;refine zN (zR ?_);refine zM ?_;refine zM ?_;refine Q6 (m:=s) (ek:=Value.int .i64) (ev:=Value.bool) (a:=y) true V6 Z3 U U U U (by repeat (first | exact Upd.here | apply Upd.there | apply QH)) ?_;refine zN (zR ?_);refine zM ?_;refine zM ?_;refine zV (Vh (m:=m) (ek:=Value.int .i64) (ev:=zeE) (a:=y) hget UC Z3 U U (fun _=>.inr kK)) ?_;refine Uj (ek:=Value.int .i64) (ev:=Value.bool) (m:=sn) U V6 U U (.inl hsn) (fun b_30=>?_);refine zN (Qp ?_);refine zU [(3,_),(5,_),(6,_),(11,_),(12,_),(13,_),(19,_),(20,_),(21,_),(30,_)] (fun T L0 mz E I' loc'=>∃ (seen:List Nat) (s:List (Int×Bool)),mz=sn.length-seen.length/\E=T/\J1=I'/\[(b_30,Vt ref sn.length seen),(r_17,Z7 (Value.int .i64) Value.bool s),(b_5,.cells (Yh p).toArray 53 (0,0)),(r_10,Z7 (Value.int .i64) zeE m)]=loc'/\zbr s (fun x=>zpZ sn seen x||(decide (y=x)||(p.needs.take j).any fun n=>n==x||onF (ps.take k) n x))/\seen.Nodup/\∀ i∈seen,i<sn.length) ?_ (h:=⟨[],_,U,U,U,U,(hs.put y).congr (fun x=>by rw [zep,OC]),.nil,fun i h=>by cases h⟩);rintro mz E I' loc' ⟨seen,s,rfl,rfl,rfl,rfl,hs,hnd2,hlt⟩;have hsl:=Ue hnd2 hlt;refine zR ?_;refine Ul (ek:=Value.int .i64) (ev:=Value.bool) (m:=sn) (fun s'=>[(b_30,Vt ref sn.length s'),(r_17,Z7 (Value.int .i64) Value.bool s),(b_5,.cells (Yh p).toArray 53 (0,0)),(r_10,Z7 (Value.int .i64) zeE m)]) U (fun s'=>.here) U U U U U (.inl hsn) kK ?_;intro t tv s' hno hyes;refine zN (Ql ?_);refine zI ?_ ?_<;>intro hc32
   ·obtain ⟨i,q,hq,hns,rfl⟩:=hyes hc32;refine Qo (Qa (Qp (zR ?_)));refine zV (KX (ek:=Value.int .i64) (ev:=Value.bool) (m:=sn) (p:=q) (seen:=seen) (i:=i) U (.inl hsn) (.inr kK) hq) ?_;refine zE ?_;refine zA (zN (Qf ?_));refine zM ?_;refine zM ?_;refine Q6 (m:=s) (ek:=Value.int .i64) (ev:=Value.bool) (a:=q.1) true V6 Z3 U U U U (by repeat (first | exact Upd.here | apply Upd.there | apply QH)) ?_;refine Qb (Qg ?_);have hnd3:(seen++[i]).Nodup:=Oz.2 ⟨hnd2,by simp,fun a ha b hb e=>hns (by simp at hb;subst hb;subst e;exact ha)⟩;have hlt3:∀ j∈seen++[i],j<sn.length:=fun j hj=>(jv.1 hj).elim (hlt j) (fun h=>by simp at h;subst h;exact (jc.1 hq).1);have hsl2:=Ue hnd3 hlt3;rw [jh,jG] at hsl2;exact zm (h:=⟨sn.length-(seen++[i]).length,by rw [jh,jG];omega,seen++[i],_,U,U,U,U,(hs.put q.1).congr (fun x=>by rw [zbl hq,Bool.or_assoc]),hnd3,hlt3⟩)
   obtain ⟨rfl,hall⟩:=hno hc32;refine QF (Qh (Qh (Qm (Qg (Qa (Qf (zB ?_)))))));refine zM (Qb ?_);exact zm (h:=⟨p.n-(j+1),kB,j+1,_,U,U,U,U,kB,hs.congr (fun x=>by rw [zc0 hy,zeb hsq hall x];rw [jL];simp;grind)⟩)
  have hge_j:p.n<=j:=(by have h:=hc22;simp at h;omega);refine QF (Qh (Qh (Qm (Qa ?_))));refine QQ .here (fun I4 hI4 hb4=>?_);have hm:=hm.mono hI4;have hB0:=hB0.trans hI4;have hbx:=hb4;refine Qf (zM ?_);refine zF Zy ?_;refine zL Qq ?_;refine zM ?_;refine Q6 (m:=m) (ek:=Value.int .i64) (ev:=zeE) (a:=p.id) r_17 UC Z3 U U U U (by repeat (first | exact Upd.here | apply Upd.there | apply QH)) ?_;refine Qb (Qg (Qa (Qf (zB ?_))));refine zM (Qb ?_);exact zm (h:=⟨n-(k+1),kB,k+1,_,U,U,hB0,U,kB,OnL.step hL hp hm hbx (by rw [ZJ hN.len hge_j] at hs;exact hs)⟩)
 have hge_k:n<=k:=(by have h:=hc14;simp at h;omega);rw [ZJ hP.len hge_k] at hm;refine QF (Qh (Qh (Qm (Qa (zR (zM ?_))))));refine zA (zN (Qr ?_));exact QR U U (fun w hw=>by obtain ⟨I9,h91,h92,h93⟩:=hw.freezeAll;exact ⟨_,I9,[],U,hIc.trans h91,h92,U,r_10,U,m,h93 _ _ kK,hm.mono h91⟩)
theorem zvE (x:Sg):(chkG [x]==0)=frm x:=by unfold chkG skB skP;cases h:frm x<;>simp [h]
theorem zht (a b c d x y:Bool):(((((a&&b)&&c)&&d)&&x)&&y)=(((a&&b)&&(c&&d))&&(x&&y)):=by simp only [An]
theorem ztK (a b c d x y z:Bool):((((((a&&b)&&c)&&d)&&x)&&y)&&z)=(((a&&b)&&(c&&d))&&(x&&(y&&z))):=by simp only [An]
theorem ztI (I:Qt)(x:Sg):Zt Tryz.prog 210 [Yp x] I (.bool (frm x)):=by intro g H w hw;refine qe Tryz.func210 Tryz.ntmps210 hw ?_;have hIc:=zGN I;refine zR ?_;refine QG U U U (fun b_1=>?_);refine zA ?_;refine zN (zR ?_);refine zV (Qk U QY (fun hg=>by exact Cells.g0) U) ?_;refine zpb [(0,_)] [Zk x] VG (fun b_4=>?_);refine Ju .here (fun I1 hI1 hb1=>?_);have hIc:=hIc.trans hI1;have hS:=Sl.lit [x] U Z8 (show _=some (Obj.cells (([x]:List Sg).flatMap Zk).toArray 28 (0,0)) from hb1);refine qcV (vs:=[_]) U zaQ (Xx hS kE) ?_;refine zC ?_;refine zA (zN (Qr ?_));exact zp hIc U U (by rw [zvE])
theorem zBs (p:Pt)(hN:Nd I p):Zt Tryz.prog 170 [UI p] I (.int .i64 (Jw p)):=by
 intro g H w hw;refine qe Tryz.func170 Tryz.ntmps170 hw ?_;have hN:Sl I 1 Q3 p.a p.n p.c p.needs:=hN;refine zR ?_;refine QG U U U (fun b_1=>?_);refine zA (zN (Ql (zR ?_)));refine zF U9 ?_;refine zL QK ?_;refine zQ Qx ?_;refine zC (zN ?_);refine zI ?_ ?_<;>intro hc11
 ·have hlen:p.needs.length>32:=(by rw [hN.len];simp at hc11;omega);refine zR (zA (zN (Qr (Qc ?_))));exact zr U U (by rw [zBb hlen])
 have hlen:¬p.needs.length>32:=(by rw [hN.len];simp at hc11;omega);have hpn:p.n<=100000:=(by have:=hN.len;omega);refine Qo (Qa (zR (zA (zN (Ql (zR ?_))))));refine zF U9 ?_;refine zL QK ?_;refine zQ Qx ?_;refine zM (zN (Qp ?_));refine zU [(1,_),(13,_),(14,_)] (fun T L0 mz E I' loc'=>∃ (k:Nat) (l:Int),mz=p.n-k/\E=(3,.int .i64 l)::(15,.int .i64 k)::T/\I=I'/\L0=loc'/\k<=p.n/\(List.range k).all (ndP p.id p.needs)=true/\zhl p.needs k l) ?_ (h:=⟨0,0,U,U,U,U,jf _,U,⟨fun _=>U,fun y hy h=>absurd U h⟩⟩);rintro mz E I' loc' ⟨k,l,rfl,rfl,rfl,rfl,hk,hall,hl⟩;refine zR (zC (zN (Ql ?_)));refine zI ?_ ?_<;>intro hc16
 ·have hlt_k:k<p.n:=(by have h:=hc16;simp at h;omega);obtain ⟨x,hx⟩:=hN.at hlt_k;refine Qo (Qa (Ql (Qp (zR ?_))));refine zV (Qy U U Qx kI (fun hg=>kB)) ?_;refine zV (Qd U Qq (fun hg=>by exact zGG hN hx U)) ?_;refine zA (zN (Ql (zR ?_)));refine zM ?_;refine zM ?_;refine zC ?_;refine zM ?_;refine Q8 3 U U U ?_;refine zJ (Qj U) ?_;refine zJ (Qe U Zy) ?_;refine zJ (Qd U Qq (fun hg=>by exact QB.h0 U)) ?_;refine zJ (QI U U U) ?_;refine ZO U U U U U ?_;refine zN ?_;refine zI ?_ ?_<;>intro hc27
  ·have hnd:ndB p.id p.needs=false:=(by unfold ndB;exact JW (k:=k) (by rw [hN.len];exact hlt_k) (by rw [zpQ hall hl hx,hc27];rfl));refine zR (zA (zN (Qr (Qc (Qn (Qc (Qc ?_)))))));refine Qn (Qc ?_);exact zr U U (by rw [zCI hlen hnd])
  refine Qo (Qa (Qf (zM ?_)));refine zA (Qb (Qg (Qa (Qf ?_))));refine zB ?_;refine zM (Qb ?_);exact zm (h:=⟨p.n-(k+1),kB,k+1,_,U,U,U,U,kB,V7 hall (by rw [zpQ hall hl hx,hc27];rfl),zah hx⟩)
 have hge_k:p.n<=k:=(by have h:=hc16;simp at h;omega);have hnd:ndB p.id p.needs=true:=(by unfold ndB;rw [hN.len,show p.n=k by omega];exact hall);refine QF (Qh (Qh (Qm (Qa (zR ?_)))));refine zF Zy ?_;refine zL Qq ?_;refine zC ?_;refine zM ?_;refine QA 3 U U U ?_;refine zK (Qe U Zy) ?_;refine zK (Qd U Qq (fun hg=>by exact QB.h0 U)) ?_;refine zK (QI U U U) ?_;refine QE U U U U U ?_;refine zM ?_;refine QA 8 U U U ?_;refine zK (Qe U Yz) ?_;refine zK (Qd U Qq (fun hg=>by exact QB.h0 U)) ?_;refine zK (QI U U U) ?_;refine QE U U U U U ?_;refine zM ?_;refine QA 13 U U U ?_;refine zK (Qe U Yz) ?_;refine zK (Qd U Qq (fun hg=>by exact QB.h0 U)) ?_;refine zK (QI U U U) ?_;refine QE U U U U U ?_;refine zA (zN (Ql (zR ?_)));refine zF Wo ?_;refine zL Qq ?_;refine zN (Qp (zR (zC ?_)));refine zA (zN ?_);refine zI ?_ ?_<;>intro hc50
 focus
  have hk:p.kind=1:=(by simpa using hc50);refine Ql (zR ?_);refine zF Kk ?_;refine zL Qq ?_;refine zC ?_;refine zM ?_;refine Q8 3 U U U ?_;refine zJ (Qe U Kk) ?_;refine zJ (Qd U Qq (fun hg=>by exact QB.h0 U)) ?_;refine zJ (QI U U U) ?_;refine ZO U U U U U ?_;refine zN ?_;refine zI ?_ ?_<;>intro hc59
  ·have hb:(idB p&&WG p)=false:=zBm hk (by unfold Zu;simp at hc59 ⊢;omega);refine zR (zA (zN (Qr (Qc (Qn (Qc ?_))))));exact zr U U (by rw [zfB hlen hnd hb])
  have hf:isF p.field:=(by have h:=hc59;unfold isF;simp at h;omega);have hw1:Zu p.field 1 9=true:=(by have h:=hc59;unfold Zu;simp at h ⊢;omega);refine Qo (Qa (zR ?_));refine zV (QC (ps:=[(1,_)]) [_,_] znm U U) ?_;refine zV (QC (ps:=[(0,_),(1,_)]) [_,_] znm U U) ?_;refine zV (QC (ps:=[(3,_),(4,_),(10,_),(11,_)]) [_,_,_,_,_,_,_,_,_,_,_,_,_,_] W9 U U) ?_;refine Qs UV U U (fun b_7=>?_);refine zh Yk ?_;refine zN (Qf (zM ?_));refine zM ?_;refine QA 1 U U U ?_;refine zK (Qe U VH) ?_;refine zK (Qk U QY (fun hg=>by exact Cells.s1 (vs:=[_,_,_,_,_,_,_,_,_,_,_,_,_,_]) U) U) ?_;refine zK (Qe U Kk) ?_;refine zK (Qd U Qq (fun hg=>by exact QB.h1 U)) ?_;refine zK (QC (ps:=[]) [_,_,_,_,_,_,_,_,_,_,_,_,_,_] W9 U U) ?_;refine qg (vs:=[_,_,_]) U zly (fun hg=>zA5 I p.nw p.field ZU hf) ?_;refine zK (QC (ps:=[]) [_,_,_,_,_,_,_,_,_,_,_,_,_,_] W9 U U) ?_;refine zK (zgV U U U2 U) ?_;refine QE U U U U U ?_;refine zM ?_;refine QA 11 U U U ?_;refine zK (Qk U QY (fun hg=>by exact Cells.g0) U) ?_;refine zK (Qe U Kk) ?_;refine zK (Qd U Qq (fun hg=>by exact QB.h1 U)) ?_;refine zK (Qe U VH) ?_;refine zK (Qk U QY (fun hg=>by exact Cells.s1 (vs:=[_,_,_,_,_,_,_,_,_,_,_,_,_,_]) U) U) ?_;refine qg (vs:=[_,_,_]) U zly (fun hg=>zA5 I zcG p.field p.nw hf) ?_;refine qg (vs:=[_]) U zll (fun hg=>ztI I _) ?_;refine QE U U U U U ?_;refine zA (Qb (Qg (Qa (Ql (zR ?_)))));refine zM ?_;refine zO (zN ?_);refine zI ?_ ?_<;>intro hc119
  ·have hb:(idB p&&WG p)=false:=(by (exact (show (idB p&&WG p)=false from by rw [zA1 hk hw1];exact (zht _ _ _ _ _ _).symm.trans ((jS _).mp hc119))));refine zR (zA (zN (Qr (Qc ?_))));exact zr U U (by rw [zfB hlen hnd hb])
  have hb:(idB p&&WG p)=true:=by (exact (show (idB p&&WG p)=true from by rw [zA1 hk hw1];exact (zht _ _ _ _ _ _).symm.trans ((Ox _).mp hc119)))
 rotate_left
 have hk1:p.kind≠1:=(by simpa using hc50);refine zR (zC ?_);refine zA (zN ?_);refine zI ?_ ?_<;>intro hc83
 focus
  have hk:p.kind=2:=(by simpa using hc83);refine Qf (zM ?_);refine zM ?_;refine QA 1 U U U ?_;refine zK (Qe U Kk) ?_;refine zK (Qd U Qq (fun hg=>by exact QB.h0 U)) ?_;refine zK (QI U U U) ?_;refine QE U U U U U ?_;refine zM ?_;refine QA 6 U U U ?_;refine zK (Qe U VH) ?_;refine zK (Qe U Zb) ?_;refine zK (Qd U Qq (fun hg=>by exact QB.h0 U)) ?_;refine zK (Qe U Yz) ?_;refine zK (Qd U Qq (fun hg=>by exact QB.h0 U)) ?_;refine zK (QI U U U) ?_;refine QE U U U U U ?_;refine zM ?_;refine QA 14 U U U ?_;refine zK (Qe U VH) ?_;refine zK (Qk U QY (fun hg=>by exact Cells.s0 (vs:=[_,_,_,_,_,_,_,_,_,_,_,_,_,_]) U) U) ?_;refine qg (vs:=[_]) U zll (fun hg=>ztI I _) ?_;refine QE U U U U U ?_;refine zA (Qb (Qg (Qa (Ql (zR ?_)))));refine zM ?_;refine zO (zN ?_);refine zI ?_ ?_<;>intro hc119
  ·have hb:(idB p&&WG p)=false:=(by (exact (show (idB p&&WG p)=false from by rw [zAw hk];exact (ztK _ _ _ _ _ _ _).symm.trans ((jS _).mp hc119))));refine zR (zA (zN (Qr (Qc ?_))));exact zr U U (by rw [zfB hlen hnd hb])
  have hb:(idB p&&WG p)=true:=by (exact (show (idB p&&WG p)=true from by rw [zAw hk];exact (ztK _ _ _ _ _ _ _).symm.trans ((Ox _).mp hc119)))
 rotate_left
 have hk2:p.kind≠2:=(by simpa using hc83);refine zR (zC ?_);refine zA (zN ?_);refine zI ?_ ?_<;>intro hc104
 focus
  have hk:p.kind=3:=(by simpa using hc104);refine Qf (zM ?_);refine zM ?_;refine QA 1 U U U ?_;refine zK (Qe U Kk) ?_;refine zK (Qd U Qq (fun hg=>by exact QB.h0 U)) ?_;refine zK (QI U U U) ?_;refine QE U U U U U ?_;refine zM ?_;refine QA 6 U U U ?_;refine zK (Qe U VH) ?_;refine zK (Qk U QY (fun hg=>by exact Cells.s0 (vs:=[_,_,_,_,_,_,_,_,_,_,_,_,_,_]) U) U) ?_;refine zK (QC (ps:=[]) [_,_,_,_,_,_,_,_,_,_,_,_,_,_] W9 U U) ?_;refine zK (zgV U U U2 U) ?_;refine QE U U U U U ?_;refine zA (Qb (Qg (Qa (Ql (zR ?_)))));refine zM ?_;refine zO (zN ?_);refine zI ?_ ?_<;>intro hc119
  ·have hb:(idB p&&WG p)=false:=(by (exact (show (idB p&&WG p)=false from by rw [zAv hk];exact (zht _ _ _ _ _ _).symm.trans ((jS _).mp hc119))));refine zR (zA (zN (Qr (Qc ?_))));exact zr U U (by rw [zfB hlen hnd hb])
  have hb:(idB p&&WG p)=true:=by (exact (show (idB p&&WG p)=true from by rw [zAv hk];exact (zht _ _ _ _ _ _).symm.trans ((Ox _).mp hc119)))
 rotate_left
 have hk3:p.kind≠3:=(by simpa using hc104);refine Qf (zA (Qb (Qg (Qa (Ql (zR ?_))))));refine zM ?_;refine zO (zN ?_);refine zI ?_ ?_<;>intro hc119
 ·have hb:(idB p&&WG p)=false:=(by exact zEU hk1 hk2 hk3);refine zR (zA (zN (Qr (Qc ?_))));exact zr U U (by rw [zfB hlen hnd hb])
 have hb:(idB p&&WG p)=true:=by (exfalso;have h:=hc119;simp at h)
 all_goals
  refine Qo (Qa (zR (zA (zN (Qr ?_)))));exact zr U U (by rw [zjc hlen hnd hb])
variable{fid:Nat}{cap:List Value}{P:Int->Bool}
theorem zE1 (hS:Sl I 1 Q3 av n c xs)(hn:n<=100000)(hF:Fun Tryz.prog fid)(hf:∀ x∈xs,Zt Tryz.prog fid ([.int .i64 x]++cap) I (.bool (P x))):Zt Tryz.prog 141 [.slice av n c,.func (.func fid) #[] cap.toArray] I (.int .i64 (Wx P xs)):=by
 intro g H w hw;refine qe Tryz.func141 Tryz.ntmps141 hw ?_;have hS:=hS;refine zR (zA (zN (Ql (zR ?_))));refine zM ?_;refine zQ Qx ?_;refine zM (zN (Qp ?_));refine zU [(0,_),(1,_),(7,_)] (fun T L0 mz E I' loc'=>∃ (k:Nat),mz=n-k/\E=(8,.int .i64 k)::T/\I=I'/\L0=loc'/\k<=n/\(xs.take k).any P=false) ?_ (h:=⟨0,U,U,U,U,jf _,U⟩);rintro mz E I' loc' ⟨k,rfl,rfl,rfl,rfl,hk,hno⟩;refine zR (zC (zN (Ql ?_)));refine zI ?_ ?_<;>intro hc9
 ·have hlt_k:k<n:=(by have h:=hc9;simp at h;omega);obtain ⟨x,hx⟩:=hS.at hlt_k;refine Qo (Qa (Ql (Qp (zR (zM ?_)))));refine zA ?_;refine zN (zR ?_);refine zM ?_;refine zM ?_;refine zM ?_;refine zV (Qy U U Qx kI (fun hg=>kB)) ?_;refine zV (Qd U Qq (fun hg=>by exact zGG hS hx U)) ?_;refine Yo (cap:=cap) (vs:=[_]) U U hF (hf x (jd hx)) U U ?_;refine zN ?_;refine zI ?_ ?_<;>intro hc16
  ·refine zR (zM ?_);refine zA (zN (Qr (Qn (Qc (Qc (Qn (Qc ?_)))))));exact zr U U (by rw [JX hno hx hc16])
  refine Qo (Qg (Qa (Qf (zB ?_))));refine zM (Qb ?_);exact zm (h:=⟨n-(k+1),kB,k+1,U,U,U,U,kB,VP hx hno hc16⟩)
 have hge_k:n<=k:=(by have h:=hc9;simp at h;omega);refine QF (Qh (Qh (Qm (Qa (zR (zA (zN ?_)))))));refine Qr ?_;exact zr U U (by rw [Jm hS.len hge_k hno])
theorem zAg (hS:Sl I 1 Q3 av n c xs)(hn:n<=100000)(hF:Fun Tryz.prog fid)(hf:∀ x∈xs,Zt Tryz.prog fid ([.int .i64 x]++cap) I (.bool (P x))):Zt Tryz.prog 63 [.slice av n c,.func (.func fid) #[] cap.toArray] I (.bool (xs.any P)):=by intro g H w hw;refine qe Tryz.func63 Tryz.ntmps63 hw ?_;refine zR (zA ?_);refine zN (zR ?_);refine zM ?_;refine zM ?_;refine qcV (vs:=[_,_]) U zkH (zE1 hS hn hF hf) ?_;refine zC ?_;refine zA (zN (Qr ?_));exact zr U U (by rw [<-UB])
theorem zBF (hP:SlP I av n c ps)(hn:n<=100000){P:Pt->Bool}(hF:Fun Tryz.prog fid)(hf:∀ x∈ps,Zt Tryz.prog fid ([UI x]++cap) I (.bool (P x))):Zt Tryz.prog 176 [.slice av n c,.func (.func fid) #[] cap.toArray] I (.int .i64 (Wx P ps)):=by
 intro g H w hw;refine qe Tryz.func176 Tryz.ntmps176 hw ?_;have hS:=hP.1;refine zR (zA (zN (Ql (zR ?_))));refine zM ?_;refine zQ ZG ?_;refine zM (zN (Qp ?_));refine zU [(0,_),(1,_),(7,_)] (fun T L0 mz E I' loc'=>∃ (k:Nat),mz=n-k/\E=(8,.int .i64 k)::T/\I=I'/\L0=loc'/\k<=n/\(ps.take k).any P=false) ?_ (h:=⟨0,U,U,U,U,jf _,U⟩);rintro mz E I' loc' ⟨k,rfl,rfl,rfl,rfl,hk,hno⟩;refine zR (zC (zN (Ql ?_)));refine zI ?_ ?_<;>intro hc9
 ·have hlt_k:k<n:=(by have h:=hc9;simp at h;omega);obtain ⟨x,hx⟩:=hS.at hlt_k;refine Qo (Qa (Ql (Qp (zR (zM ?_)))));refine zA ?_;refine zN (zR ?_);refine zM ?_;refine zM ?_;refine zM ?_;refine zV (Qy U U ZG kI (fun hg=>kB)) ?_;refine zV (Qk U YG (fun hg=>by exact zGO hS hx) U) ?_;refine Yo (cap:=cap) (vs:=[_]) U U hF (hf x (jd hx)) U U ?_;refine zN ?_;refine zI ?_ ?_<;>intro hc16
  ·refine zR (zM ?_);refine zA (zN (Qr (Qn (Qc (Qc (Qn (Qc ?_)))))));exact zr U U (by rw [JX hno hx hc16])
  refine Qo (Qg (Qa (Qf (zB ?_))));refine zM (Qb ?_);exact zm (h:=⟨n-(k+1),kB,k+1,U,U,U,U,kB,VP hx hno hc16⟩)
 have hge_k:n<=k:=(by have h:=hc9;simp at h;omega);refine QF (Qh (Qh (Qm (Qa (zR (zA (zN ?_)))))));refine Qr ?_;exact zr U U (by rw [Jm hS.len hge_k hno])
theorem zCG (hP:SlP I av n c ps)(hn:n<=100000){P:Pt->Bool}(hF:Fun Tryz.prog fid)(hf:∀ x∈ps,Zt Tryz.prog fid ([UI x]++cap) I (.bool (P x))):Zt Tryz.prog 131 [.slice av n c,.func (.func fid) #[] cap.toArray] I (.bool (ps.any P)):=by intro g H w hw;refine qe Tryz.func131 Tryz.ntmps131 hw ?_;refine zR (zA ?_);refine zN (zR ?_);refine zM ?_;refine zM ?_;refine qcV (vs:=[_,_]) U zga (zBF hP hn hF hf) ?_;refine zC ?_;refine zA (zN (Qr ?_));exact zr U U (by rw [<-UB])
theorem zE6 {b:Nat}(hb:I b=some (.cells #[.map (some r)] 192 (0,0)))(hr:I r=some (Z7 (Value.int .i64) Value.bool s))(x:Int):Zt Tryz.prog 171 [.int .i64 x,.pointer (some ⟨b,0,none⟩)] I (.bool (!ziP s x)):=by intro g H w hw;refine qe Tryz.func171 Tryz.ntmps171 hw ?_;refine zR (zA ?_);refine zN (zR ?_);refine zV (Qd U zkA (fun hg=>by exact .imm hb U)) ?_;refine zM ?_;refine zV (YJ V6 Z3 U U (fun _=>.inl hr)) ?_;refine zO ?_;refine zA (zN (Qr ?_));exact zr U U kL
def zws (ps:List Pt):List Int:=ps.map (·.id)
def lsQ (ps:List Pt)(i:Nat):Bool:= !((decide ((i:Int)>0)&&decide ((ps.getD i zaV).id<=(ps.getD ((i:Int)-1).toNat zaV).id))||(ps.getD i zaV).needs.any (fun n=> !zbZ (ps.take i) n))
theorem zta {l:Int}(hp:ps[k]? =some p)(h1:1<=p.id)(hl:zhl (zws ps) k l)(hs:∀ x,ziP s x=zbZ (ps.take k) x):lsQ ps k= !(decide (p.id<=l)||p.needs.any fun x=> !ziP s x):=by
 unfold lsQ;rw [Q1 hp];simp only [hs];congr 2
 cases k with
 | zero=>
  rw [hl.1 rfl,jL];simp;omega
 | succ k=>
  have hk:=(jc.1 hp).1;have hy:ps[k]? =some (ps[k]' kB):=je _;have e:=hl.2 (ps[k]' kB).id (by rw [Ba];simp [zws,hy]) kB;rw [show (((k+1:Nat):Int)-1).toNat=k by omega,Q1 hy,<-e,jL];simp
theorem zjZ (hp:ps[k]? =some p):zhl (zws ps) (k+1) p.id:=zah (by simp [zws,hp])
theorem zqX (hp:ps[k]? =some p)(x:Int):zbZ (ps.take (k+1)) x=(decide (p.id=x)||zbZ (ps.take k) x):=by unfold zbZ;rw [ZI hp,A1,jL];simp [or_comm]
theorem zoQ {n:Int}(h:zbZ (ps.take k) n=true):zbZ ps n=true:=by obtain ⟨q,hq,e⟩:=Jj.1 h;exact Jj.2 ⟨q,Ah hq,e⟩
theorem zmU (h0:orF (ps.map Jw)=0):(List.range ps.length).all (lsQ ps)=lsB ps:=by
 rw [jL];constructor
 ·intro h;unfold lsB;rw [ji] at h ⊢;intro i hi;have:=h i hi;unfold lsQ at this;unfold lsP;simp only [jS,On] at this ⊢;refine ⟨this.1,?_⟩;have h2:=this.2;rw [jJ] at h2 ⊢;intro n hn hc;refine h2 n hn ?_;rw [jS] at hc ⊢
  cases hh:zbZ (ps.take i) n with
  | false=>rfl
  | true=>rw [zoQ hh] at hc;cases hc
 ·intro h;have hL:=znw h0 h;unfold lsB at h;rw [ji] at h ⊢;intro i hi;have:=h i hi;unfold lsP at this;unfold lsQ;simp only [jS,On] at this ⊢;refine ⟨this.1,?_⟩;rw [jJ];intro n hn hc;have hk:ps[i]? =some (ps.getD i zaV):=Zc U (jm.1 hi);obtain ⟨q,hq,e⟩:=hL.before hk hn;rw [Jj.2 ⟨q,hq,e⟩] at hc;cases hc
def JM (k:Int)(ps:List Pt)(s:Int):List Int:=(ps.filter fun q=>q.kind==k&&q.sign==s).map (·.id)
theorem We {c:Int}(hp:ps[k]? =some p)(s:Int):JM c (ps.take (k+1)) s=JM c (ps.take k) s++(if p.kind=c/\p.sign=s then [p.id] else []):=by
 unfold JM;rw [ZI hp,jN,jZ];congr 1;by_cases h:p.kind=c/\p.sign=s
 ·rw [jb h];simp [h.1,h.2]
 ·rw [ja h]
  have:(p.kind==c&&p.sign==s)=false:=by
   rw [AP];intro hc;simp at hc;exact h hc
  simp [this]
theorem Xk {c:Int}{s:Int}:x∈JM c ps s↔ ∃ q∈ps,q.kind=c/\q.sign=s/\q.id=x:=by unfold JM;rw [zcd];simp [and_assoc]
def zjK (mi:List (Int×Int))(ps:List Pt):Prop:=∀ s,JM 2 ps s=(ZP mi s).toList
theorem zjK.nil :zjK [] (ps.take 0):=fun s=>by simp [JM,ZP]
variable{mi:List (Int×Int)}
theorem zjK.put (h:zjK mi (ps.take k))(hp:ps[k]? =some p)(hk:p.kind=2)(hn:ZP mi p.sign=none):zjK (YM mi p.sign p.id) (ps.take (k+1)):=fun s=>by
 rw [We hp,h s,Y4];by_cases e:p.sign=s
 ·subst e;rw [jb ⟨hk,U⟩,jb rfl,hn];rfl
 ·rw [ja (fun q=>e q.2),ja e,jz]
theorem zjK.skip (h:zjK mi (ps.take k))(hp:ps[k]? =some p)(hk:p.kind≠2):zjK mi (ps.take (k+1)):=fun s=>by
 rw [We hp,h s,ja (fun q=>hk q.1),jz]
def zaO (mr:List (Int×(Value×Nat×List Value)))(ps:List Pt):Prop:=∀ s,((ZP mr s).getD Uy).2.2=(JM 3 ps s).flatMap Q3
theorem zaO.nil :zaO [] (ps.take 0):=fun s=>by simp [JM,ZP,Uy]
variable{mr:List (Int×(Value×Nat×List Value))}
theorem zaO.put (h:zaO mr (ps.take k))(hp:ps[k]? =some p)(hk:p.kind=3):zaO (YM mr p.sign (v,n,((ZP mr p.sign).getD Uy).2.2++[p.id].flatMap Q3)) (ps.take (k+1)):=fun s=>by
 rw [We hp,Y4];by_cases e:p.sign=s
 ·subst e;rw [jb rfl,jb ⟨hk,U⟩,jo,<-h];rfl
 ·rw [ja e,ja (fun q=>e q.2),jz,h s]
theorem zaO.skip (h:zaO mr (ps.take k))(hp:ps[k]? =some p)(hk:p.kind≠3):zaO mr (ps.take (k+1)):=fun s=>by
 rw [We hp,h s,ja (fun q=>hk q.1),jz]
theorem zbs {c:Int}{s:Int}:(JM c ps s).length<=ps.length:=by unfold JM;rw [jE];exact j3 _ _
variable{e:Nat}
theorem zrH {L:Go.Kn.Loc}(h:zaO mr ps)(hA:JY e 1 (mr.map (·.2)) L)(hI:∀ b o,(b,o)∈L->I b=some o)(s:Int):
  ∃ av c,((ZP mr s).getD Uy).1= .slice av (JM 3 ps s).length c/\Sl I 1 Q3 av (JM 3 ps s).length c (JM 3 ps s):=by
 obtain ⟨A,Lt,B,rfl,hO,_⟩:=hA.at s;rw [h s] at hO;obtain ⟨av,c,e1,e2⟩:=hO.sl Zh kE (fun b o hb=>hI b o (by simp [hb]));have hn:=e2.len;rw [<-hn] at e1 e2;exact ⟨av,c,e1,e2⟩
theorem zsx {s:Int}{L:Go.Kn.Loc}(h:zaO mr ps)(hO:OwnS e 1 ((ZP mr s).getD Uy).1 ((ZP mr s).getD Uy).2.1 ((ZP mr s).getD Uy).2.2 L):((ZP mr s).getD Uy).2.1<=ps.length:=by have h1:=hO.1;rw [h s,zEy] at h1;have h2:=zbs (c:=3) (ps:=ps) (s:=s);omega
theorem znt {x y:Nat×Obj}{A L B:Go.Kn.Loc}:(x::y::(A++(L++B))).Perm (L++(x::y::(A++B))):=Ol (x::y::A) L B
def tgP (ps:List Pt)(p:Pt):Bool:= !(((JM 2 ps p.sign).any fun i=>p.id != i&& !onF ps p.id i)||(JM 3 ps p.sign).any (onF ps p.id))
theorem znO (hL:Lst ps)(hi:zjK mi ps):zjX ps=ps.all (tgP ps):=by
 unfold zjX;rw [jL,ji,ji];refine forall_congr' fun p=>forall_congr' fun hp=>?_;unfold tgP;rw [ji];simp only [jS,On,jJ,Xk];constructor
 ·intro h;constructor
  ·rintro x ⟨q,hq,h2,hs,rfl⟩ hc;have:=h q hq;unfold zph at this;rw [ja (by simpa using hs.symm),jb h2] at this;simp at this hc;rcases this with e | e
   ·exact hc.1 e
   ·rw [hc.2] at e;cases e.2
  ·rintro x ⟨q,hq,h3,hs,rfl⟩ hc;have:=h q hq;unfold zph at this;rw [ja (by simpa using hs.symm),ja kB,jb h3] at this;simp at this;rcases this with e | e
   ·rw [e,hL.on_irr] at hc;cases hc
   ·rw [e] at hc;cases hc
 ·rintro ⟨h1,h2⟩ q hq;unfold zph;by_cases hs:p.sign=q.sign
  ·rw [ja (by simpa using hs)];by_cases e:p.id=q.id
   ·simp [e]
   ·by_cases k2:q.kind=2
    ·rw [jb k2];have:=h1 q.id ⟨q,hq,k2,hs.symm,U⟩
     have hk:p.kind≠2:=fun k=>e (by
      have hm1:=Xk.2 ⟨p,hp,k,U,U⟩;have hm2:=Xk.2 ⟨q,hq,k2,hs.symm,U⟩;rw [hi p.sign] at hm1 hm2
      cases hg:ZP mi p.sign with
      | none=>rw [hg] at hm1;cases hm1
      | some z=>rw [hg] at hm1 hm2;simp at hm1 hm2;rw [hm1,hm2])
     simp [e] at this;simp [this,hk]
    ·rw [ja k2];by_cases k3:q.kind=3
     ·rw [jb k3];have:=h2 q.id ⟨q,hq,k3,hs.symm,U⟩;simp at this;simp [this]
     ·rw [ja k3];simp
  ·rw [jb hs];simp
variable{id:Int}
theorem zxs (hL:Lst ps)(h:zjK mi (ps.take k))(hp:ps[k]? =some p)(hk:p.kind=2)(hn:ZP mi p.sign=some id):zjX ps=false:=by have hm:id∈JM 2 (ps.take k) p.sign:=(by rw [h,hn];simp);obtain ⟨q,hq,k2,hs,rfl⟩:=Xk.1 hm;have hlt:=hL.fresh hp q hq;unfold zjX;rw [AP];intro hc;rw [ji] at hc;have h1:=hc p (jd hp);rw [ji] at h1;have h2:=h1 q (Ah hq);unfold zph at h2;rw [ja (by simpa using hs.symm),jb k2] at h2;simp [hk] at h2;omega
theorem zsX (hi:zjK mi ps):((ZP mi p.sign).isSome&&(p.id != (ZP mi p.sign).getD 0)&& !onF ps p.id ((ZP mi p.sign).getD 0))=((JM 2 ps p.sign).any fun i=>p.id != i&& !onF ps p.id i):=by
 rw [hi p.sign]
 cases ZP mi p.sign with
 | none=>rfl
 | some x=>simp
theorem zBa (h:ps.length>512):KV ps=2:=by unfold KV;rw [jb h]
theorem zzi (h:¬ps.length>512)(hp:ps[k]? =some p)(h0:orF ((ps.take k).map Jw)=0)(h1:Jw p≠0):KV ps=Jw p:=by have:orF (ps.map Jw)=Jw p:=ziu (k:=k) (by simp [hp]) (by rw [<-List.map_take];exact h0) h1;unfold KV;rw [ja h,this,jb h1]
theorem zCE (h:¬ps.length>512)(h0:orF (ps.map Jw)=0)(h1:lsB ps=false):KV ps=380:=by unfold KV;rw [ja h,ja kB,h1];rfl
theorem zlE (h:¬ps.length>512)(h0:orF (ps.map Jw)=0)(h1:lsB ps=true)(h2:zjX ps=false):KV ps=380:=by unfold KV;rw [ja h,ja kB,h1,h2];rfl
theorem zBQ (h:¬ps.length>512)(h0:orF (ps.map Jw)=0)(h1:lsB ps=true)(h2:zjX ps=true):KV ps=0:=by unfold KV;rw [ja h,ja kB,h1,h2];rfl
theorem zt4 (hp:ps[k]? =some p)(h0:orF ((ps.take k).map Jw)=0)(h1:Jw p=0):orF ((ps.take (k+1)).map Jw)=0:=by
 rw [Ve] at h0 ⊢;intro x hx;rw [ZI hp,jZ,jv] at hx;rcases hx with hx | hx
 ·exact h0 x hx
 ·simp at hx;rw [hx,h1]
theorem zpS (h:Jw p=0):1<=p.id/\p.id<=1048576/\0<=p.sign/\p.sign<=1048576/\p.needs.length<=32:=by
 unfold Jw at h;split at h
 ·cases h
 ·split at h
  ·rename_i h1 h2;simp only [jj] at h2;have h3:=h2.2.1;unfold idB at h3;simp at h3;omega
  ·cases h
theorem zDo (hP:SlP I av n c ps)(hz:∀ p∈ps,Jw p=0):∀ p∈ps,p.n<=100000:=fun p hp=>by
 have h1:Sl I 1 Q3 p.a p.n p.c p.needs:=hP.2 p hp;have h2:=hz p hp;have h3:=h1.len;unfold Jw at h2;split at h2
 ·cases h2
 ·omega
theorem zAo (hP:SlP I av n c ps)(h:KV ps=0):∀ p∈ps,p.n<=100000:=zDo hP fun p hp=>Ve.1 (K7 h).2.1 _ (jt.2 ⟨p,hp,U⟩)
theorem zAi (hP:SlP I av n c ps)(hn:n<=100000):Zt Tryz.prog 121 [.slice av n c] I (.int .i64 (KV ps)):=by
 intro g H w hw;refine qe Tryz.func121 Tryz.ntmps121 hw ?_;have hIc:=zGN I;refine zR (zA (zN (Ql (zR ?_))));refine zM ?_;refine zQ ZG ?_;refine zC (zN ?_);refine zI ?_ ?_<;>intro hc24
 ·have hlen:ps.length>512:=(by rw [hP.len];simp at hc24;omega);refine zR (zA (zN (Qr (Qc ?_))));exact zp hIc U U (by rw [zBa hlen])
 have hlen:¬ps.length>512:=(by rw [hP.len];simp at hc24;omega);refine Qo (Qa (Ql (zR (zM ?_))));refine zQ ZG ?_;refine zM (zN (Qp ?_));refine zU [(0,_),(25,_),(26,_)] (fun T L0 mz E I' loc'=>∃ (k:Nat) (e:Int),mz=n-k/\E=(27,.int .i64 k)::T/\I=I'/\L0=loc'/\k<=n/\e=0/\orF ((ps.take k).map Jw)=0) ?_ (h:=⟨0,0,U,U,U,U,jf _,U,U⟩);rintro mz E I' loc' ⟨k,e,rfl,rfl,rfl,rfl,hk,he,h0⟩;refine zR (zC (zN (Ql ?_)));refine zI ?_ ?_<;>intro hc28
 ·have hlt_k:k<n:=(by have h:=hc28;simp at h;omega);have hP1:=hP.1;obtain ⟨p,hp,hN⟩:=hP.at hlt_k;have hpm:=jd hp;have hN:Sl I 1 Q3 p.a p.n p.c p.needs:=hN;refine Qo (Qa (Ql (Qp (zR ?_))));refine zV (Qy U U ZG kI (fun hg=>kB)) ?_;refine zV (Qk U YG (fun hg=>by exact zGO hP1 hp) U) ?_;refine Qs Uf U U (fun b_4=>?_);refine zh VY ?_;refine zN (zR ?_);refine zV (Qk U YG (fun hg=>by exact Cells.g0) U) ?_;refine qcV (vs:=[_]) U zuk (zBs p hN) ?_;refine zA ?_;refine zN (zR ?_);refine zM ?_;refine zC (zN ?_);refine zI ?_ ?_<;>intro hc34
  ·have hbad:KV ps=Jw p:=zzi hlen hp h0 (by simpa using hc34);refine zR (zM ?_);refine zA (zN (Qr (Qn (Qc (Qc (Qn (Qc ?_)))))));exact zp hIc U U (by rw [hbad])
  have hpk:Jw p=0:=(by simpa using hc34);refine Qo (Qg (Qa (Qf (zB ?_))));refine zM (Qb ?_);exact zm (h:=⟨n-(k+1),kB,k+1,_,U,U,U,U,kB,hpk,zt4 hp h0 hpk⟩)
 have hge_k:n<=k:=(by have h:=hc28;simp at h;omega);have h0:orF (ps.map Jw)=0:=(by rw [ZJ hP.len hge_k] at h0;exact h0);have hz:∀ p∈ps,Jw p=0:=fun p hp=>Ve.1 h0 _ (jt.2 ⟨p,hp,U⟩);have hnd:=zDo hP hz;refine QF (Qh (Qh (Qm (Qa (zR ?_)))));refine ZV U U (fun r_37=>?_);refine Qs zB3 U U (fun b_5=>?_);refine zS zva ?_;refine zA (zN (Ql (zR ?_)));refine zM ?_;refine zQ ZG ?_;refine zM (zN (Qp ?_));refine zU [(0,_),(5,_),(38,_),(39,_)] (fun T L0 mz E I' loc'=>∃ (k:Nat) (l:Int) (s:List (Int×Bool)),mz=n-k/\E=(6,.int .i64 l)::(40,.int .i64 k)::T/\I=I'/\[(b_5,.cells #[.map (some r_37)] 192 (0,0)),(r_37,Z7 (Value.int .i64) Value.bool s)]=loc'/\k<=n/\(List.range k).all (lsQ ps)=true/\zhl (zws ps) k l/\∀ x,ziP s x=zbZ (ps.take k) x) ?_ (h:=⟨0,0,[],U,U,U,U,jf _,U,⟨fun _=>U,fun y hy h=>absurd U h⟩,fun x=>U⟩);rintro mz E I' loc' ⟨k,l,s,rfl,rfl,rfl,rfl,hk,hall,hl,hs⟩;refine zR (zC (zN (Ql ?_)));refine zI ?_ ?_<;>intro hc41
 ·have hlt_k:k<n:=(by have h:=hc41;simp at h;omega);have hP1:=hP.1;obtain ⟨p,hp,hN⟩:=hP.at hlt_k;have hpm:=jd hp;have hN:Sl I 1 Q3 p.a p.n p.c p.needs:=hN;have hpn:=hnd p hpm;have hp1:=(zpS (hz p hpm)).1;refine Qo (Qa (Ql (Qp (zR ?_))));refine zV (Qy U U ZG kI (fun hg=>kB)) ?_;refine zV (Qk U YG (fun hg=>by exact zGO hP1 hp) U) ?_;refine Qs Uf U U (fun b_8=>?_);refine zh VY ?_;refine zN (Ql (zR ?_));refine zF Zy ?_;refine zL Qq ?_;refine zM ?_;refine zC ?_;refine zM ?_;refine Q8 4 U U U ?_;refine zJ (Qe U U9) ?_;refine zJ (Qd U QK (fun hg=>by exact QB.h0 U)) ?_;refine zJ (QN (us:=[]) (vs:=[_]) U U) ?_;refine zmP (cap:=[]) (vs:=[_,_]) U U zlD QT (fun hg=>zke.ofV fun I' hI' hL'=>zAg (cap:=[.pointer (some ⟨b_5,0,none⟩)]) (hN.mono hI') hpn zvj (fun x _=>zE6 (b:=b_5) (r:=r_37) (s:=s) (hL' b_5 _ kK) (hL' r_37 _ kK) x)) (.some U U U U gbf) U U ?_;refine ZO U U U U U ?_;refine zN ?_;refine zI ?_ ?_<;>intro hc53
  ·have hbad:KV ps=380:=zCE hlen h0 (by rw [<-zmU h0];exact JW (k:=k) (by rw [hP.len];exact hlt_k) (by rw [zta hp hp1 hl hs];exact jr (! ·) hc53));refine zR (zA (zN (Qr (Qc (Qn (Qc (Qc ?_)))))));refine Qn (Qc ?_);exact zp hIc U U (by rw [hbad])
  refine Qo (Qa ?_);have hD:=zGN I;refine YZ ?_;refine ZA I [(b_8,.cells (Yh p).toArray 53 (0,0)),(b_5,.cells #[.map (some r_37)] 192 (0,0))] mixed ?_;refine zT 0 U (Qd U zkA (fun hg=>by exact QB.h1 U)) hD ?_;refine zT 1 U (Qe U Zy) hD ?_;refine zT 2 U (Qd U Qq (fun hg=>by exact QB.h0 U)) hD ?_;refine zT 3 U (Qe U Zy) hD ?_;refine zT 4 U (Qd U Qq (fun hg=>by exact QB.h0 U)) hD ?_;refine qd 5 U ?_;refine Q6 (m:=s) (ek:=Value.int .i64) (ev:=Value.bool) (a:=p.id) true V6 Z3 U U U U (by repeat (first | exact Upd.here | apply Upd.there | apply QH)) ?_;refine Qb ?_;refine zD hD ?_;refine zT 6 U (QU U) hD ?_;refine Qz kA ?_;refine QD ?_;refine Qg (Qa (Qf (zB ?_)));refine zM (Qb ?_);exact zm (h:=⟨n-(k+1),kB,k+1,_,_,U,U,U,U,kB,V7 hall (by rw [zta hp hp1 hl hs];exact jr (! ·) hc53),zjZ hp,fun x=>by rw [zaZ,hs,zqX hp]⟩)
 have hge_k:n<=k:=(by have h:=hc41;simp at h;omega);have hls:lsB ps=true:=(by rw [<-zmU h0,hP.len,show n=k by omega];exact hall);have hL:Lst ps:=znw h0 hls;refine QF (Qh (Qh (Qm (Qa (zR (zM ?_))))));refine zpc [_] U zg8 .nil (zcV hP hn hL hnd) ?_;rintro vv3 I3 L3 hI3 ⟨rfl,r9,rfl,hOn⟩;have hP:=hP.mono hI3;have hIc:=hIc.trans hI3;refine zA ?_;refine zN (zR ?_);refine ZV U U (fun r_62=>?_);refine ZV U U (fun r_63=>?_);refine zA ?_;refine zA (zN (Ql (Ql ?_)));refine Xh [(r_63,Z7 (Value.int .i64) zfd []),(r_62,Z7 (Value.int .i64) (Value.int .i64) [])] (by repeat (first | exact Yb | exact .refl | refine .keep ?_ | refine .drop ?_)) ?_;refine Qf (zM ?_);refine zQ ZG ?_;refine zM (zN (Qp ?_));refine zU [(0,_),(9,_),(10,_),(11,_),(64,_),(65,_)] (fun T L0 mz E I' loc'=>∃ (k:Nat) (mi:List (Int×Int)) (mr:List (Int×(Value×Nat×List Value))) (L:Go.Kn.Loc),mz=n-k/\E=(66,.int .i64 k)::T/\I3=I'/\(r_63,Z7 (Value.int .i64) zfd mr)::(r_62,Z7 (Value.int .i64) (Value.int .i64) mi)::L=loc'/\k<=n/\zjK mi (ps.take k)/\zaO mr (ps.take k)/\JY 3 1 (mr.map (·.2)) L) ?_ (h:=⟨0,[],[],[],U,U,U,U,jf _,zjK.nil,zaO.nil,JY.nil⟩);rintro mz E I' loc' ⟨k,mi,mr,L,rfl,rfl,rfl,rfl,hk,hmi,hmr,hAll⟩;refine zR (zC (zN (Ql ?_)));refine zI ?_ ?_<;>intro hc67
 ·have hlt_k:k<n:=(by have h:=hc67;simp at h;omega);have hP1:=hP.1;obtain ⟨p,hp,hN⟩:=hP.at hlt_k;have hpm:=jd hp;have hN:Sl I3 1 Q3 p.a p.n p.c p.needs:=hN;have hpn:=hnd p hpm;refine Qo (Qa (Ql (Qp (zR ?_))));refine zV (Qy U U ZG kI (fun hg=>kB)) ?_;refine zV (Qk U YG (fun hg=>by exact zGO hP1 hp) U) ?_;refine Qs Uf U U (fun b_13=>?_);refine zh VY ?_;refine zN (zR ?_);refine zF Wo ?_;refine zL Qq ?_;refine zN (Qp (zR (zC ?_)));refine zA (zN ?_);refine zI ?_ ?_<;>intro hc72
  ·have hk2:p.kind=2:=(by simpa using hc72);refine Ql (zR (zM ?_));refine zF Yz ?_;refine zL Qq ?_;refine zV (UU (m:=mi) (ek:=Value.int .i64) (a:=p.sign) VU Z3 U U (fun _=>.inr kK)) ?_;refine zM ?_;refine zE ?_;refine zE ?_;refine zA ?_;refine zA ?_;refine zN (zR ?_);refine zM (zN ?_);refine zI ?_ ?_<;>intro hc81
   ·obtain ⟨id,hid⟩:=jW.1 hc81;have hbad:KV ps=380:=zlE hlen h0 hls (zxs hL hmi hp hk2 hid);refine zR (zA (zN (Qr (Qc (Qn (Qn (Qc ?_)))))));refine Qc (Qn (Qc ?_));exact zp hIc U U (by rw [hbad])
   have hnone:ZP mi p.sign=none:=(by simpa using hc81);refine Qo (Qa (Qf (zM ?_)));refine zF Yz ?_;refine zL Qq ?_;refine zF Zy ?_;refine zL Qq ?_;refine Q6 (m:=mi) (ek:=Value.int .i64) (ev:=Value.int .i64) (a:=p.sign) p.id VU Z3 U U U U (by repeat (first | exact Upd.here | apply Upd.there | apply QH)) ?_;refine Qb (Qg (Qg (Qa (Qf (zB ?_)))));refine zM (Qb ?_);exact zm (h:=⟨n-(k+1),kB,k+1,_,_,_,U,U,U,U,kB,hmi.put hp hk2 hnone,hmr.skip hp kB,hAll⟩)
  have hk2n:p.kind≠2:=(by simpa using hc72);refine zR (zC ?_);refine zA (zN ?_);refine zI ?_ ?_<;>intro hc87
  ·have hk3:p.kind=3:=(by simpa using hc87);obtain ⟨A,Lt,B,rfl,hOt,hset⟩:=hAll.at p.sign;have hq:=zsx hmr hOt;have hq2:=AZ k ps;have hD:=zGN I3;refine YZ ?_;refine ZA I3 [(b_13,.cells (Yh p).toArray 53 (0,0))] mixed ?_;refine zT 0 U (Qj U) hD ?_;refine zT 1 U (Qe U Yz) hD ?_;refine zT 2 U (Qd U Qq (fun hg=>by exact QB.h0 U)) hD ?_;refine zT 3 U (Qj U) hD ?_;refine zT 4 U (Qe U Yz) hD ?_;refine zT 5 U (Qd U Qq (fun hg=>by exact QB.h0 U)) hD ?_;refine zT 7 U (Qe U Zy) hD ?_;refine zT 8 U (Qd U Qq (fun hg=>by exact QB.h0 U)) hD ?_;refine Zo 6 9 U U kA ?_ ?_
   focus
    refine zV (KQ (m:=mr) (ek:=Value.int .i64) (a:=p.sign) JC Z3 U U (fun _=>.inr kK)) ?_;refine Qb ?_;refine zD hD ?_;refine qd 9 U ?_;refine zpb [(0,_)] [Q3 p.id] Zw (fun b_98=>?_)
   rotate_left
   refine zpb [(0,_)] [Q3 p.id] Zw (fun b_98=>?_);refine Qb ?_;refine zD hD ?_;refine qd 6 U ?_;refine zV (KQ (m:=mr) (ek:=Value.int .i64) (a:=p.sign) JC Z3 U U (fun _=>.inr kK)) ?_
   all_goals
    refine Qb ?_;refine zD hD ?_;refine qd 10 U ?_;refine zpa (_) ([p.id].flatMap Q3) (Lt) U U Zw hOt ⟨U,fun _=>U,zGL⟩ (JH [p.id]) ?_;intro v9 L9 hO9 _;refine Qb ?_;refine zD hD ?_;refine qd 11 U ?_;refine Q6 (m:=mr) (ek:=Value.int .i64) (ev:=zfd) (a:=p.sign) (v9,((ZP mr p.sign).getD Uy).2.1+1,((ZP mr p.sign).getD Uy).2.2++[p.id].flatMap Q3) JC Z3 U U U U (by repeat (first | exact Upd.here | apply Upd.there | apply QH)) ?_;refine Qb ?_;refine zD hD ?_;refine Qz kA ?_;refine QD ?_;refine Qg (Qg (Qa (Qf (zB ?_))));refine zM (Qb ?_);exact Ub _ _ (L9++((r_63,_)::(r_62,_)::(A++B))) ⟨n-(k+1),kB,k+1,_,_,A++(L9++B),U,U,U,U,kB,hmi.skip hp hk2n,hmr.put hp hk3,hset (v9,_,_) L9 hO9⟩ (.cons U (.cons U (.cons U (.cons U (.cons U (.cons U (.cons U .nil))))))) znt kH
  have hk3n:p.kind≠3:=(by simpa using hc87);refine Qo (Qg (Qg (Qa (Qf (zB ?_)))));refine zM (Qb ?_);exact zm (h:=⟨n-(k+1),kB,k+1,_,_,_,U,U,U,U,kB,hmi.skip hp hk2n,hmr.skip hp hk3n,hAll⟩)
 have hge_k:n<=k:=(by have h:=hc67;simp at h;omega);rw [ZJ hP.len hge_k] at hmi hmr;refine QF (Qh (Qh (Qm (Qa (Ql (Ql ?_))))));refine Jg (fun I5 hI5 hb5=>?_);have hP:=hP.mono hI5;have hOn:=hOn.mono hI5;have hIc:=hIc.trans hI5;have hmiI:I5 r_62=some (Z7 (Value.int .i64) (Value.int .i64) mi):=hb5 _ _ kK;have hmrI:I5 r_63=some (Z7 (Value.int .i64) zfd mr):=hb5 _ _ kK;have hrem:=zrH hmr hAll (fun b o h=>hb5 b o (by simp [h]));obtain ⟨m,hm1,hm2⟩:=hOn;refine Qf (zM ?_);refine zQ ZG ?_;refine zM (zN (Qp ?_));refine zU [(9,_),(10,_),(11,_),(101,_),(102,_)] (fun T L0 mz E I' loc'=>∃ (k:Nat),mz=n-k/\E=(103,.int .i64 k)::T/\I5=I'/\[]=loc'/\k<=n/\(ps.take k).all (tgP ps)=true) ?_ (h:=⟨0,U,U,U,U,jf _,U⟩);rintro mz E I' loc' ⟨k,rfl,rfl,rfl,rfl,hk,htg⟩;refine zR (zC (zN (Ql ?_)));refine zI ?_ ?_<;>intro hc104
 ·have hlt_k:k<n:=(by have h:=hc104;simp at h;omega);have hP1:=hP.1;obtain ⟨p,hp,hN⟩:=hP.at hlt_k;have hpm:=jd hp;have hN:Sl I5 1 Q3 p.a p.n p.c p.needs:=hN;have hpn:=hnd p hpm;obtain ⟨ref,hget,sn,hsn,hsq⟩:=hm2.get ⟨p,hpm,U⟩;refine Qo (Qa (Ql (Qp (zR ?_))));refine zV (Qy U U ZG kI (fun hg=>kB)) ?_;refine zV (Qk U YG (fun hg=>by exact zGO hP1 hp) U) ?_;refine Qs Uf U U (fun b_17=>?_);refine zh VY ?_;refine zN (Ql (zR (zM ?_)));refine zF Yz ?_;refine zL Qq ?_;refine zV (UU (m:=mi) (ek:=Value.int .i64) (a:=p.sign) VU Z3 U U (fun _=>.inl hmiI)) ?_;refine zM ?_;refine zE ?_;refine zE ?_;refine zA ?_;refine zA ?_;refine zN (zR ?_);refine zM ?_;refine zM ?_;refine QA 1 U U U ?_;refine zK (Qe U Zy) ?_;refine zK (Qd U Qq (fun hg=>by exact QB.h0 U)) ?_;refine zK (Qj U) ?_;refine zK (QI U U U) ?_;refine QE U U U U U ?_;refine zM ?_;refine QA 7 U U U ?_;refine zK (Qj U) ?_;refine zK (Qe U Zy) ?_;refine zK (Qd U Qq (fun hg=>by exact QB.h0 U)) ?_;refine zK (Vh (m:=m) (ek:=Value.int .i64) (ev:=zeE) (a:=p.id) hget UC Z3 U U (fun _=>.inl hm1)) ?_;refine zK (Qj U) ?_;refine zK (YJ (m:=sn) V6 Z3 U U (fun _=>.inl hsn)) ?_;refine zK (Vv U) ?_;refine QE U U U U U ?_;refine zN ?_;refine zI ?_ ?_<;>intro hc129
  ·have hA:=hc129;simp only [show ∀ x,(ZP sn x).getD false=onF ps p.id x from fun x=>hsq.mem x] at hA;have hbad:KV ps=380:=zlE hlen h0 hls (by rw [znO hL hmi];exact zmL hp (by unfold tgP;rw [<-zsX hmi,hA];rfl));refine zR (zA (zN (Qr (Qc (Qn (Qc (Qc ?_)))))));refine Qn (Qc ?_);exact zp hIc U U (by rw [hbad])
  have hA:=hc129;simp only [show ∀ x,(ZP sn x).getD false=onF ps p.id x from fun x=>hsq.mem x] at hA;refine Qo (Qa (Ql ?_));obtain ⟨av2,c2,hv2,hS2⟩:=hrem p.sign;have hk3l:=zbs (c:=3) (ps:=ps) (s:=p.sign);have hpl:=hP.len;refine Qf (zM ?_);refine zF Yz ?_;refine zL Qq ?_;refine zV (Ji (m:=mr) (ek:=Value.int .i64) (a:=p.sign) hv2 JC Z3 U U (fun _=>.inl hmrI)) ?_;refine zQ Qx ?_;refine zM (zN (Qp ?_));refine zU [(9,_),(10,_),(11,_),(17,_),(101,_),(102,_),(103,_),(133,_),(134,_)] (fun T L0 mz E I' loc'=>∃ (j:Nat),mz=(JM 3 ps p.sign).length-j/\E=(135,.int .i64 j)::T/\I5=I'/\[(b_17,.cells (Yh p).toArray 53 (0,0))]=loc'/\j<=(JM 3 ps p.sign).length/\((JM 3 ps p.sign).take j).any (onF ps p.id)=false) ?_ (h:=⟨0,U,U,U,U,jf _,U⟩);rintro mz E I' loc' ⟨j,rfl,rfl,rfl,rfl,hj,hno⟩;refine zR (zC (zN (Ql ?_)));refine zI ?_ ?_<;>intro hc136
  ·have hlt_j:j<(JM 3 ps p.sign).length:=(by have h:=hc136;simp at h;omega);obtain ⟨y,hy⟩:=hS2.at hlt_j;refine Qo (Qa (Ql (Qp (zR ?_))));refine zV (Qy U U Qx kI (fun hg=>kB)) ?_;refine zV (Qd U Qq (fun hg=>by exact zGG hS2 hy U)) ?_;refine zA ?_;refine zN (zR ?_);refine zM ?_;refine zF Zy ?_;refine zL Qq ?_;refine zV (Vh (m:=m) (ek:=Value.int .i64) (ev:=zeE) (a:=p.id) hget UC Z3 U U (fun _=>.inl hm1)) ?_;refine zM ?_;refine zV (YJ (m:=sn) V6 Z3 U U (fun _=>.inl hsn)) ?_;refine zN ?_;refine zI ?_ ?_<;>intro hc144
   ·have hon:=hc144;simp only [show ∀ x,(ZP sn x).getD false=onF ps p.id x from fun x=>hsq.mem x] at hon;have hbad:KV ps=380:=zlE hlen h0 hls (by rw [znO hL hmi];exact zmL hp (by unfold tgP;rw [UO hy hon,BY];rfl));refine zR (zA (zN (Qr (Qn (Qc (Qc (Qn ?_)))))));refine Qn (Qc (Qc (Qn (Qc ?_))));exact zp hIc U U (by rw [hbad])
   have hon:=hc144;simp only [show ∀ x,(ZP sn x).getD false=onF ps p.id x from fun x=>hsq.mem x] at hon;refine Qo (Qg (Qa (Qf (zB ?_))));refine zM (Qb ?_);exact zm (h:=⟨(JM 3 ps p.sign).length-(j+1),kB,j+1,U,U,U,U,kB,VP hy hno hon⟩)
  have hge_j:(JM 3 ps p.sign).length<=j:=(by have h:=hc136;simp at h;omega);rw [ZJ rfl hge_j] at hno;have htp:tgP ps p=true:=(by unfold tgP;rw [<-zsX hmi,hA,hno];rfl);refine QF (Qh (Qh (Qm (Qg (Qa (Qf (zB ?_)))))));refine zM (Qb ?_);exact zm (h:=⟨n-(k+1),kB,k+1,U,U,U,U,kB,zmN hp htg htp⟩)
 have hge_k:n<=k:=(by have h:=hc104;simp at h;omega);have htog:zjX ps=true:=(by rw [znO hL hmi];rw [ZJ hP.len hge_k] at htg;exact htg);refine QF (Qh (Qh (Qm (Qa (zR (zA (zN ?_)))))));refine Qr ?_;exact zp hIc U U (by rw [zBQ hlen h0 hls htog])
def zpv (e:Int)(xs:List Int):Value->Qt->Go.Kn.Loc->Prop:=fun v I' L=>L=[]/\∃ av c,v= .tuple #[.slice av xs.length c,.int .i64 e]/\Sl I' 1 Q3 av xs.length c xs
theorem zpv.empty {e:Int}(h:xs=[]):zpv e xs (.tuple #[.slice none 0 0,.int .i64 e]) I []:=by subst h;exact ⟨U,none,0,U,.nil⟩
theorem zpv.good {e e':Int}(h:e=e')(hx:ys=xs)(hS:Sl I 1 Q3 av n c ys):zpv e' xs (.tuple #[.slice av n c,.int .i64 e]) I []:=by subst h;subst hx;have hn:=hS.len;subst hn;exact ⟨U,av,c,U,hS⟩
def clE (ps:List Pt)(ids:List Int):Int:=if ids.length>512 then 2 else if chB ps ids then 0 else 380
variable{ids:List Int}
theorem zBX (h:ids.length>512):clE ps ids=2:=by unfold clE;rw [jb h]
theorem zyJ (h:¬ids.length>512)(h2:chB ps ids=false):clE ps ids=380:=by unfold clE;rw [ja h,h2];rfl
theorem zCO (h:¬ids.length>512)(h2:chB ps ids=true):clE ps ids=0:=by unfold clE;rw [ja h,h2];rfl
theorem zAy (h:zuS ids=false):chB ps ids=false:=by unfold chB;rw [h];rfl
theorem zAS (hx:ids[k]? =some x)(h:zbZ ps x=false):chB ps ids=false:=by unfold chB;rw [zmL hx h,Aa]
theorem zzy (h:zuS ids=true)(h2:ids.all (zbZ ps)=true):chB ps ids=true:=by unfold chB;rw [h,h2];rfl
def zgi (ps:List Pt)(ids:List Int)(k:Nat)(zs:List Int)(S:Int->Bool):Prop:=∀ x,x∈zs↔(x∈ids\/∃ n∈ids.take k,onF ps n x=true)\/S x=true
theorem zgi.start :zgi ps ids 0 ids (fun _=>false):=fun x=>by simp
variable{zs:List Int}
theorem zgi.put {S S':Int->Bool}(h:zgi ps ids k zs S)(e:∀ x,S' x=(decide (a=x)||S x)):zgi ps ids k (zs++[a]) S':=fun x=>by
 rw [jv,h x,e x];simp only [jA,OD,jQ];constructor
 ·rintro (h | h)
  ·rcases h with h | h
   ·exact .inl h
   ·exact .inr (.inr h)
  ·exact .inr (.inl h.symm)
 ·rintro (h | h | h)
  ·exact .inl (.inl h)
  ·exact .inr h.symm
  ·exact .inl (.inr h)
theorem zgi.next {S:Int->Bool}{n:Int}(h:zgi ps ids k zs S)(hn:ids[k]? =some n)(e:∀ x,S x=onF ps n x):zgi ps ids (k+1) zs (fun _=>false):=fun x=>by
 rw [h x,e x,ZI hn];simp only [jv,jA,jB,or_false];constructor
 ·rintro (h | h)
  ·rcases h with h | ⟨m,hm,h⟩
   ·exact .inl h
   ·exact .inr ⟨m,.inl hm,h⟩
  ·exact .inr ⟨n,.inr U,h⟩
 ·rintro (h | ⟨m,hm | rfl,h⟩)
  ·exact .inl (.inl h)
  ·exact .inl (.inr ⟨m,hm,h⟩)
  ·exact .inr h
theorem zgi.congr {S S':Int->Bool}(h:zgi ps ids k zs S)(e:∀ x,S x=S' x):zgi ps ids k zs S':=fun x=>by rw [h x,e x]
theorem zqP (hL:Lst ps)(h:zgi ps ids n zs (fun _=>false))(hn:ids.length=n)(hall:ids.all (zbZ ps)=true):Lib.compact (YB (zs++[]))=zhp ps ids:=by
 rw [jz];refine zaF (Wc hL ids) fun x=>?_;rw [h x,zab,<-hn,AU];simp only [jB,or_false];constructor
 ·rintro (hx | ⟨m,hm,ho⟩)
  ·exact ⟨Jj.1 (ji.1 hall x hx),x,hx,.inl U⟩
  ·exact ⟨(hL.on_lt ho).2,m,hm,.inr ho⟩
 ·rintro ⟨_,m,hm,rfl | ho⟩
  ·exact .inl hm
  ·exact .inr ⟨m,hm,ho⟩
theorem zDs (hL:Lst ps)(h:zbr sn (onF ps a)):sn.length<=ps.length:=by
 have:=BA h.nodup (l₂:=zws ps) (fun x hx=>by
  obtain ⟨_,q,hq,e⟩:=hL.on_lt (h.key.2 hx)
  exact jt.2 ⟨q,hq,e⟩)
 simpa [zws] using this
theorem OnL.hit (h:OnL I m ps)(hg:ZP m a=some ref):zbZ ps a=true/\OnS I ref (onF ps a):=by have hm:=U8 hg;refine ⟨?_,h.2 _ hm⟩;have hk:a∈m.map (·.1):=jt.2 ⟨_,hm,U⟩;rw [h.1] at hk;obtain ⟨q,hq,e⟩:=jt.1 hk;exact Jj.2 ⟨q,hq,e⟩
theorem OnL.miss (h:OnL I m ps)(hg:ZP m a=none):zbZ ps a=false:=by
 cases hh:zbZ ps a with
 | false=>rfl
 | true=>
  obtain ⟨ref,h1,_⟩:=h.get (Jj.1 hh);rw [hg] at h1;cases h1
def vrE (ps:List Pt)(v:List Int):Int:=if v.length>512 then 2 else if zoG ps v then 0 else 380
variable{w:Int}
theorem zCa (hL:Lst ps){v:List Int}(h:w=(zoJ (clE ps v) (zhp ps v)).length):(if ((clE ps v==0)&&(w != (v.length:Int)))=true then 380 else clE ps v)=vrE ps v:=by
 unfold vrE;by_cases h1:v.length>512
 ·rw [jb h1,zBX h1];rfl
 ·rw [ja h1]
  cases hc:chB ps v with
  | false=>
   rw [zyJ h1 hc];unfold zoG;rw [hc];rfl
  | true=>
   rw [zCO h1 hc,zal rfl] at*;have h2:=zxo hL hc;subst h
   cases hv:zoG ps v with
   | true=>
    rw [hv] at h2;simp at h2;simp [h2]
   | false=>
    rw [hv] at h2;simp at h2;rw [jb]
    ·rfl
    ·simp;omega
theorem zon {v:List Int}(h:vrE ps v=0):zoG ps v=true:=by
 unfold vrE at h;split at h
 ·cases h
 ·split at h
  ·assumption
  ·cases h
theorem ze5 (x:Nat×Obj)(L:Go.Kn.Loc):(x::L).Perm (L++[x]):=(OP (l₁:=L) (l₂:=[x])).symm
theorem zk7 (hP:SlP I av n c ps)(hn:n<=512)(hL:Lst ps)(hnd:∀ p∈ps,p.n<=100000)(hT:Sl I 1 Q3 bv n2 c2 ys)(hn2:n2<=100000):ZQ Tryz.prog 172 [.slice av n c,.slice bv n2 c2] I [] (zpv (clE ps ys) (zoJ (clE ps ys) (zhp ps ys))):=by
 intro g H w hw;refine qe Tryz.func172 Tryz.ntmps172 hw ?_;have hIc:=zGN I;refine zR (zA ?_);refine zA (zN (Ql (zR ?_)));refine zM ?_;refine zQ Qx ?_;refine zC (zN ?_);refine zI ?_ ?_<;>intro hc12
 ·have hlen:ys.length>512:=(by rw [hT.len];simp at hc12;omega);refine zR (zA ?_);refine zA (zN (Qr (Qc ?_)))
  first
  | exact Q9 U U U (fun w hw=>⟨_,I,[],U,hIc,hw.drop,by rw [zBX hlen];exact zpv.empty U⟩)
 have hlen:¬ys.length>512:=(by rw [hT.len];simp at hc12;omega);refine Qo (Qa (zR (zM ?_)));refine zpc [_] U zg8 .nil (zcV hP kB hL hnd) ?_;rintro vv1 I1 L1 hI1 ⟨rfl,r9,rfl,hOn⟩;have hP:=hP.mono hI1;have hT:=hT.mono hI1;have hIc:=hIc.trans hI1;refine zA ?_;refine zN (zR ?_);refine zM ?_;refine zpc [_] U zii .nil (za8 hT kB) ?_;rintro vv2 I2 L2 hI2 ⟨rfl,hO⟩;have hP:=hP.mono hI2;have hT:=hT.mono hI2;have hOn:=hOn.mono hI2;have hIc:=hIc.trans hI2;refine zA (zN (Ql (Ql ?_)));refine Xh _ QS ?_;refine Qf (zM ?_);refine zQ Qx ?_;refine zM (zN (Qp ?_));refine zU [(1,_),(6,_),(17,_),(18,_)] (fun T L0 mz E I' loc'=>∃ (k:Nat) (zs:List Int) (v:Value) (q:Nat) (L:Go.Kn.Loc),mz=n2-k/\E=(4,v)::(19,.int .i64 k)::T/\I2=I'/\L=loc'/\k<=n2/\OwnS 3 1 v q (zs.flatMap Q3) L/\q<=n2+512*k/\zgi ps ys k zs (fun _=>false)/\(ys.take k).all (zbZ ps)=true) ?_ (h:=⟨0,ys,_,n2,_,U,U,U,U,jf _,hO,kB,zgi.start,U⟩);rintro mz E I' loc' ⟨k,zs,v,q,L,rfl,rfl,rfl,rfl,hk,hO,hq5,hM,hall⟩;refine zR (zC (zN (Ql ?_)));refine zI ?_ ?_<;>intro hc20
 ·have hlt_k:k<n2:=(by have h:=hc20;simp at h;omega);obtain ⟨y,hy⟩:=hT.at hlt_k;refine Qo (Qa (Ql (Qp (zR ?_))));refine zV (Qy U U Qx kI (fun hg=>kB)) ?_;refine zV (Qd U Qq (fun hg=>by exact zGG hT hy U)) ?_;refine zA (zN (Ql (Ql ?_)));obtain ⟨m,hm1,hm2⟩:=hOn;refine Qf (zM ?_);refine zM ?_;refine zV (zcw (m:=m) (ek:=Value.int .i64) UC Z3 U U (fun _=>.inl hm1)) ?_;refine zV (zmc U U zxF) ?_;refine zN ?_;refine zI ?_ ?_<;>intro hc26
  ·have hmiss:zbZ ps y=false:=hm2.miss (Option.isNone_iff_eq_none.1 hc26);have hbad:clE ps ys=380:=zyJ hlen (zAS hy hmiss);refine zR (zA ?_);refine zA (zN (Qr (Qc (Qn (Qc (Qc (Qn ?_)))))));refine Qc ?_
   first
   | exact Q9 U U U (fun w hw=>⟨_,I2,[],U,hIc,hw.drop,by rw [hbad];exact zpv.empty U⟩)
  obtain ⟨ref,hget⟩:∃ ref,ZP m y=some ref:=(by cases hg:ZP m y with | none=>rw [hg] at hc26;cases hc26 | some r=>exact ⟨r,U⟩);obtain ⟨hhas,sn,hsn,hsq⟩:=hm2.hit hget;have hfew:=zDs hL hsq;have hpl:=hP.len;refine Qo (Qa (zR (zM ?_)));refine zM ?_;refine zV (zcw (m:=m) (ek:=Value.int .i64) UC Z3 U U (fun _=>.inl hm1)) ?_;rw [hget];refine Uj (ek:=Value.int .i64) (ev:=Value.bool) (m:=sn) U V6 U U (.inl hsn) (fun b_30=>?_);refine zN (Qp ?_);refine zU [(1,_),(6,_),(17,_),(18,_),(19,_),(30,_)] (fun T L0 mz E I' loc'=>∃ (seen:List Nat) (zs:List Int) (v:Value) (q:Nat) (L:Go.Kn.Loc),mz=sn.length-seen.length/\E=(4,v)::T/\I2=I'/\(b_30,Vt ref sn.length seen)::L=loc'/\OwnS 3 1 v q (zs.flatMap Q3) L/\q<=n2+512*k+seen.length/\zgi ps ys k zs (zpZ sn seen)/\seen.Nodup/\∀ i∈seen,i<sn.length) ?_ (h:=⟨[],zs,v,q,L,U,U,U,U,hO,by simpa using hq5,hM.congr (fun x=>(zep sn x).symm),.nil,fun i h=>by cases h⟩);rintro mz E I' loc' ⟨seen,zs,v,q,L,rfl,rfl,rfl,rfl,hO,hq5,hM,hnd2,hlt⟩;have hsl:=Ue hnd2 hlt;refine zR ?_;refine Ul (ek:=Value.int .i64) (ev:=Value.bool) (m:=sn) (fun s'=>(b_30,Vt ref sn.length s')::L) U (fun s'=>.here) U U U U U (.inl hsn) kK ?_;intro t tv s' hno hyes;refine zN (Ql ?_);refine zI ?_ ?_<;>intro hc32
  ·obtain ⟨i,q,hq,hns,rfl⟩:=hyes hc32;refine Qo (Qa (Qp (zR ?_)));refine zV (KX (ek:=Value.int .i64) (ev:=Value.bool) (m:=sn) (p:=q) (seen:=seen) (i:=i) U (.inl hsn) (.inr kK) hq) ?_;refine zE ?_;refine zA (zN (Qf ?_));refine zM ?_;refine zM ?_;refine zpb [(0,_)] [Q3 q.1] Zw (fun b_37=>?_);refine zpa (_) ([q.1].flatMap Q3) (L) U U Zw hO ⟨U,fun _=>U,zGL⟩ (JH [q.1]) ?_;intro v9 L9 hO9 _;rw [<-jo] at hO9;refine zA (Qb (Qg ?_));have hnd3:(seen++[i]).Nodup:=Oz.2 ⟨hnd2,by simp,fun a ha b hb e=>hns (by simp at hb;subst hb;subst e;exact ha)⟩;have hlt3:∀ j∈seen++[i],j<sn.length:=fun j hj=>(jv.1 hj).elim (hlt j) (fun h=>by simp at h;subst h;exact (jc.1 hq).1);have hsl2:=Ue hnd3 hlt3;rw [jh,jG] at hsl2;exact Ub _ _ (L9++[(b_30,_)]) ⟨sn.length-(seen++[i]).length,by rw [jh,jG];omega,seen++[i],zs++[q.1],v9,_,L9,U,U,U,U,hO9,by rw [jh,jG];omega,hM.put (fun x=>zbl hq x),hnd3,hlt3⟩ (.cons U (.cons U (.cons U (.cons U (.cons U (.cons U (.cons U .nil))))))) (ze5 _ _) kH
  obtain ⟨rfl,hall2⟩:=hno hc32;refine QF (Qh (Qh (Qm (Qg (Qa (Qf (zB ?_)))))));refine zM (Qb ?_);exact zm (h:=⟨n2-(k+1),kB,k+1,zs,v,q,L,U,U,U,U,kB,hO,kB,(hM.next hy (fun x=>zeb hsq hall2 x)),zmN hy hall hhas⟩)
 have hge_k:n2<=k:=(by have h:=hc20;simp at h;omega);rw [ZJ hT.len hge_k] at hall;have hk2:n2=k:=kB;refine QF (Qh (Qh (Qm (Qa (Ql (zR (zM ?_)))))));refine qcV (vs:=[_]) U zxH (zDi hT hn2) ?_;refine zO (zN ?_);refine zI ?_ ?_<;>intro hc42
 ·have hbad:clE ps ys=380:=zyJ hlen (zAy (by simpa using hc42));refine zR (zA ?_);refine zA (zN (Qr (Qc ?_)))
  first
  | exact Q9 U U U (fun w hw=>⟨_,I2,[],U,hIc,hw.drop,by rw [hbad];exact zpv.empty U⟩)
 have hgood:clE ps ys=0:=zCO hlen (zzy (by simpa using hc42) hall);refine Qo (Qa (Ql ?_));refine zx4 hO Zh (fun I5 hI5 af5 cf5 ef5 hZ=>?_);subst ef5;have hT:=hT.mono hI5;have hIc:=hIc.trans hI5;refine Qf (zM ?_);refine zpc [_,_] U zty .nil (zla hZ (by have:=hT.len;omega) .nil kB) ?_;rintro vv6 I6 L6 hI6 ⟨rfl,av9,c9,rfl,hR⟩;have hT:=hT.mono hI6;have hIc:=hIc.trans hI6;refine zA ?_;refine zA (zN (Qr ?_))
 first
 | exact Q9 U U U (fun w hw=>⟨_,I6,[],U,hIc,hw.drop,by rw [hgood];exact zpv.good U (by rw [zal rfl];exact zqP hL hM (by rw [hT.len];omega) hall) hR⟩)
theorem zlW (hP:SlP I av n c ps)(hn:n<=512)(hL:Lst ps)(hnd:∀ p∈ps,p.n<=100000)(hT:Sl I 1 Q3 bv n2 c2 ys)(hn2:n2<=100000):Zt Tryz.prog 122 [.slice av n c,.slice bv n2 c2] I (.int .i64 (vrE ps ys)):=by
 intro g H w hw;refine qe Tryz.func122 Tryz.ntmps122 hw ?_;have hIc:=zGN I;refine zR (zA ?_);refine zN (zR ?_);refine zM ?_;refine zM ?_;refine zpc [_,_] U zyB .nil (zk7 hP hn hL hnd hT hn2) ?_;rintro vv1 I1 L1 hI1 ⟨rfl,av9,c9,rfl,hR⟩;have hT:=hT.mono hI1;have hIc:=hIc.trans hI1;refine zM ?_;refine zE ?_;refine zE ?_;refine zA ?_;refine zA (zN (Ql (zR ?_)));refine zM ?_;refine zC ?_;refine zM ?_;refine QA 2 U U U ?_;refine zK (Qj U) ?_;refine zK (ZX U Qx) ?_;refine zK (Qj U) ?_;refine zK (ZX U Qx) ?_;refine zK (QI U U U) ?_;refine QE U U U U U ?_;refine zN ?_;refine zI ?_ ?_<;>intro hc20
 ·have hv:vrE ps ys=380:=(by rw [<-zCa (v:=ys) hL rfl,hT.len,jb hc20]);refine zR (zA (zN (Qr (Qc ?_))));exact zp hIc U U (by rw [hv]<;>rfl)
 have hv:vrE ps ys=clE ps ys:=(by rw [<-zCa (v:=ys) hL rfl,hT.len,ja (by rw [hc20];exact AH)]);refine Qo (Qa (zR (zM ?_)));refine zA (zN (Qr ?_));exact zp hIc U U (by rw [hv]<;>rfl)
abbrev znp:=Value×Nat×List Value
variable{ws:List Int}
theorem zu9 (hp:ps[k]? =some p)(h:(ws.any fun x=>x==p.id)=false):ZY (ps.take (k+1)) ws=ZY (ps.take k) ws:=by unfold ZY;rw [ZI hp,jN,Oe,h];simp
theorem zpP (hp:ps[k]? =some p)(h:(ws.any fun x=>x==p.id)=true):ZY (ps.take (k+1)) ws=ZY (ps.take k) ws++[p]:=by unfold ZY;rw [ZI hp,jN,Oe,h];rfl
theorem zaO.start:zaO [] []:=fun _s=>U
variable{l:List Pt}
theorem zaO.put' {mr:List (Int×znp)}(h:zaO mr l)(hk:p.kind=3):zaO (YM mr p.sign (v,n,((ZP mr p.sign).getD Uy).2.2++[p.id].flatMap Q3)) (l++[p]):=by have h1:zaO mr ((l++[p]).take l.length):=(by simpa using h);have:=zaO.put (v:=v) (n:=n) h1 (show (l++[p])[l.length]? =some p by simp) hk;rw [show (l++[p]).take (l.length+1)=l++[p] from jD kK] at this;exact this
theorem zaO.skip' {mr:List (Int×znp)}(h:zaO mr l)(hk:p.kind≠3):zaO mr (l++[p]):=by have h1:zaO mr ((l++[p]).take l.length):=(by simpa using h);have:=zaO.skip h1 (show (l++[p])[l.length]? =some p by simp) hk;rw [show (l++[p]).take (l.length+1)=l++[p] from jD kK] at this;exact this
def zj8 (ms:List ((Int×Int)×znp))(l:List Pt):Prop:=∀ q:Int×Int,((ZP ms q).getD Uy).2.2=(stF l q.1 q.2).flatMap Yh
theorem zj8.start:zj8 [] []:=fun _q=>U
theorem ziQ (l:List Pt)(p:Pt)(s f:Int):stF (l++[p]) s f=stF l s f++(if p.kind=1/\p.sign=s/\p.field=f then [p] else []):=by
 unfold stF;rw [jN];congr 1;by_cases h:p.kind=1/\p.sign=s/\p.field=f
 ·rw [jb h];simp [h.1,h.2.1,h.2.2]
 ·rw [ja h]
  have:(p.kind==1&&(p.sign==s&&p.field==f))=false:=by
   rw [AP];intro hc;simp at hc;exact h hc
  simp [this]
variable{ms:List ((Int×Int)×znp)}
theorem zj8.put (h:zj8 ms l)(hk:p.kind=1):zj8 (YM ms (p.sign,p.field) (v,n,((ZP ms (p.sign,p.field)).getD Uy).2.2++[p].flatMap Yh)) (l++[p]):=fun q=>by
 rw [ziQ,Y4];by_cases e:(p.sign,p.field)=q
 ·subst e;rw [jb rfl,jb ⟨hk,U,U⟩,jo,<-h];rfl
 ·rw [ja e,ja (fun h2=>e (Prod.ext h2.2.1 h2.2.2)),jz,h q]
theorem zj8.skip (h:zj8 ms l)(hk:p.kind≠1):zj8 ms (l++[p]):=fun q=>by
 rw [ziQ,ja (fun h2=>hk h2.1),jz,h q]
theorem WP {s f:Int}:(stF l s f).length<=l.length:=j3 _ _
variable{q:Int×Int}
theorem zDl {L:Go.Kn.Loc}(h:zj8 ms l)(hO:OwnS e 19 ((ZP ms q).getD Uy).1 ((ZP ms q).getD Uy).2.1 ((ZP ms q).getD Uy).2.2 L):((ZP ms q).getD Uy).2.1<=l.length:=by have h1:=hO.1;rw [h q,ZF Yd] at h1;have h2:=WP (l:=l) (s:=q.1) (f:=q.2);omega
theorem zzK {L:Go.Kn.Loc}(h:zj8 ms l)(hA:JY e 19 (ms.map (·.2)) L)(hI:∀ b o,(b,o)∈L->I b=some o)(q:Int×Int):
  ∃ av c,((ZP ms q).getD Uy).1= .slice av (stF l q.1 q.2).length c/\Sl I 19 Yh av (stF l q.1 q.2).length c (stF l q.1 q.2):=by
 obtain ⟨A,Lt,B,rfl,hO,_⟩:=hA.at q;rw [h q] at hO;obtain ⟨av,c,e1,e2⟩:=hO.sl Yd kE (fun b o hb=>hI b o (by simp [hb]));have hn:=e2.len;rw [<-hn] at e1 e2;exact ⟨av,c,e1,e2⟩
def zfm (s:List (Int×Bool))(bs:List Sg)(l:List Pt):Prop:=∀ x,ziP s x=(WK bs x||zf7 l x)
variable{bs:List Sg}
theorem znK {b:Sg}(hb:bs[k]? =some b)(x:Int):WK (bs.take (k+1)) x=(decide (b.id=x)||WK (bs.take k) x):=by unfold WK;rw [ZI hb,A1,jL];simp [or_comm]
theorem zfP (l:List Pt)(p:Pt)(x:Int):zf7 (l++[p]) x=(zf7 l x||(p.kind==2&&p.sign==x)):=by unfold zf7;rw [A1];simp
theorem zfm.put (h:zfm s bs l)(hk:p.kind=2):zfm (YM s p.sign true) bs (l++[p]):=fun x=>by
 rw [zaZ,h x,zfP,hk,jL];simp only [OD,jQ,jj,j0,true_and];constructor
 ·rintro (h | h | h)
  ·exact .inr (.inr h)
  ·exact .inl h
  ·exact .inr (.inl h)
 ·rintro (h | h | h)
  ·exact .inr (.inl h)
  ·exact .inr (.inr h)
  ·exact .inl h
theorem zfm.skip (h:zfm s bs l)(hk:p.kind≠2):zfm s bs (l++[p]):=fun x=>by
 rw [h x,zfP,show (p.kind==2)=false by simpa using hk,Bc,OL]
theorem zjy (h:∀ x,ziP s x=WK (bs.take n) x)(hn:bs.length<=n):zfm s bs []:=fun x=>by
 rw [h x,jD hn];simp [zf7]
theorem zyc (hL:Lst ps){q:Pt}(hp:ps[k]? =some p)(hq:q∈ps)(h:q.id<p.id):q∈ps.take k:=by
 obtain ⟨j,hj⟩:=jC hq;obtain ⟨hj1,hj2⟩:=jc.1 hj;obtain ⟨hk1,hk2⟩:=jc.1 hp;rw [Af];refine ⟨j,?_,hj2⟩
 have hjk:j<k:=by
  rcases B2 j k with h3 | h3
  ·exact h3
  ·exfalso;by_cases e:k=j
   ·subst e;rw [hp] at hj;cases hj;omega
   ·have:=jM.1 hL.inc k j hk1 hj1 kB;rw [hj2,hk2] at this;omega
 omega
theorem zcY {s:Int}:zf7 l s=true↔ ∃ q∈l,q.kind=2/\q.sign=s:=by unfold zf7;rw [ju];simp
variable{kn:Bool}
theorem ziv (hS:Sto ps)(hp:ps[k]? =some p)(_hin:(ws.any fun x=>x==p.id)=true)(hkn:kn=(WK bs p.sign||zf7 (ZY (ps.take k) ws) p.sign)):
  (kn==(p.kind==2))= !zoR bs (ZY ps ws) p:=by
 subst hkn;have hpm:=jd hp;unfold zoR;by_cases hk:p.kind=2
 ·have h1:zf7 (ZY (ps.take k) ws) p.sign=false:=by
   rw [AP];intro hc;obtain ⟨q,hq,hq2,hqs⟩:=zcY.1 hc;obtain ⟨hq1,_⟩:=Vf.1 hq;have hlt:=hS.lst.fresh hp q hq1;rcases hS.ins hpm (Ah hq1) hqs.symm hq2 with rfl | ⟨h,_⟩
   ·omega
   ·exact h hk
  rw [h1,hk];simp
 ·have h1:zf7 (ZY (ps.take k) ws) p.sign=zf7 (ZY ps ws) p.sign:=by
   rw [jL,zcY,zcY];constructor
   ·rintro ⟨q,hq,h⟩;obtain ⟨hq1,hq2⟩:=Vf.1 hq;exact ⟨q,Vf.2 ⟨Ah hq1,hq2⟩,h⟩
   ·rintro ⟨q,hq,h2,hs⟩;obtain ⟨hq1,hq2⟩:=Vf.1 hq;rcases hS.ins hpm hq1 hs.symm h2 with rfl | ⟨_,h⟩
    ·exact absurd h2 hk
    ·exact ⟨q,Vf.2 ⟨zyc hS.lst hp hq1 (hS.lst.on_lt h).1,hq2⟩,h2,hs⟩
  rw [h1,show (p.kind==2)=false by simpa using hk];have:(p.kind != 2)=true:=by simpa using hk
  rw [this];cases WK bs p.sign<;>cases zf7 (ZY ps ws) p.sign<;>rfl
def zcU (l:List Pt):List Sg:=(l.filter fun p=>p.kind==2).map (·.nw)
theorem zqh (h:p.kind=2):zcU (l++[p])=zcU l++[p.nw]:=by unfold zcU;rw [jN];simp [h]
theorem zea (h:p.kind≠2):zcU (l++[p])=zcU l:=by unfold zcU;rw [jN];simp [h]
theorem zq0 (xs:List Sg)(k:Sg):(ze3 xs k).Perm (k::xs):=by unfold ze3;refine O0.trans (List.Perm.cons _ ?_);rw [Ow]
theorem zc8:∀ (l:List Pt) (bs:List Sg),(Uo bs l).Perm (bs++zcU l)
 | [],bs=>by unfold Uo zcU;simp
 | p::l,bs=>by
  have h:=zc8 l (if p.kind=2 then ze3 bs p.nw else bs);have e:Uo bs (p::l)=Uo (if p.kind=2 then ze3 bs p.nw else bs) l:=rfl;rw [e];refine h.trans ?_;by_cases hk:p.kind=2
  ·rw [jb hk];have e2:zcU (p::l)=p.nw::zcU l:=(by unfold zcU;simp [hk]);rw [e2];exact ((zq0 bs p.nw).append_right _).trans O0.symm
  ·rw [ja hk];have e2:zcU (p::l)=zcU l:=(by unfold zcU;simp [hk]);rw [e2]
theorem zoy {xs ys:List Sg}(h1:Srt xs)(h2:Srt ys)(hp:∀ a,a∈xs↔a∈ys):xs=ys:=by
 have key:∀ {xs ys:List Sg},Srt ys->(∀ a∈xs,a∈ys)->∀ s x,QW xs s=some x->QW ys s=some x:=fun h hm s x hx=>by
  have:=WD h (hm x (JQ hx));rw [Vr hx] at this;exact this
 refine zgR h1 h2 fun s=>?_
 cases hx:QW xs s with
 | some x=>exact (key h2 (fun a ha=>(hp a).1 ha) s x hx).symm
 | none=>
  cases hy:QW ys s with
  | none=>rfl
  | some y=>rw [key h1 (fun a ha=>(hp a).2 ha) s y hy] at hx;cases hx
theorem zq2 {zs:List Sg}(hb:Srt bs)(hS:Sto l)(hf:zbo bs l=true)(hp:zs.Perm (bs++zcU l))(hs:zs.Pairwise (fun x y=>Go.Proofs.ltOf ztO y x=false)):zs=Uo bs l:=by
 have h1:=(zbg hb hS hf).1;have hp2:=zc8 l bs
 have hnd:((Uo bs l).map (·.id)).Nodup:=by
  rw [List.nodup_iff_pairwise_ne,OV];exact List.Pairwise.imp (fun {a b} h=>kB) h1
 have hnd2:((bs++zcU l).map (·.id)).Nodup:=(hp2.map (·.id)).nodup_iff.1 hnd;exact zoy (zry hp hs hnd2) h1 fun a=>(hp.trans hp2.symm).mem_iff
def zDR (I:Qt)(r:Nat)(l:List Pt):Prop:=∃ ms:List ((Int×Int)×znp),I r=some (Z7 Vg zfd ms)/\∀ q:Int×Int,∃ av c,((ZP ms q).getD Uy).1= .slice av (stF l q.1 q.2).length c/\Sl I 19 Yh av (stF l q.1 q.2).length c (stF l q.1 q.2)
theorem zDR.mono (h:zDR I r l)(hI:HLe I I'):zDR I' r l:=by obtain ⟨ms,h1,h2⟩:=h;exact ⟨ms,hI _ _ h1,fun q=>by obtain ⟨av,c,h3,h4⟩:=h2 q;exact ⟨av,c,h3,h4.mono hI⟩⟩
def zDJ (I:Qt)(r:Nat)(l:List Pt):Prop:=∃ mr:List (Int×znp),I r=some (Z7 (Value.int .i64) zfd mr)/\∀ s,∃ av c,((ZP mr s).getD Uy).1= .slice av (rmF l s).length c/\Sl I 1 Q3 av (rmF l s).length c (rmF l s)
theorem zDJ.mono (h:zDJ I r l)(hI:HLe I I'):zDJ I' r l:=by obtain ⟨mr,h1,h2⟩:=h;exact ⟨mr,hI _ _ h1,fun s=>by obtain ⟨av,c,h3,h4⟩:=h2 s;exact ⟨av,c,h3,h4.mono hI⟩⟩
structure StQ (I:Qt)(ps l:List Pt)(xs:List Sg)(r1 r2 r3:Nat)(av:Option Addr)(n c:Nat):Prop where
 on:OnM I r1 ps
 set:zDR I r2 l
 rem:zDJ I r3 l
 sg:Sl I 14 Zk av n c xs
 sub:∀ p∈l,p∈ps
 nd:∀ p∈ps,Nd I p
 lst:Lst ps
 few:ps.length<=512
 fewl:l.length<=512
theorem StQ.mono {xs:List Sg}{r1 r2 r3:Nat}(h:StQ I ps l xs r1 r2 r3 av n c)(hI:HLe I I'):StQ I' ps l xs r1 r2 r3 av n c:=
 ⟨h.on.mono hI,h.set.mono hI,h.rem.mono hI,h.sg.mono hI,h.sub,fun p hp=>(h.nd p hp).mono hI,h.lst,h.few,h.fewl⟩
def stA (r1 r2 r3:Nat)(av:Option Addr)(n c:Nat):Value:=.agg #[.map (some r1),.map (some r2),.map (some r3),.slice av n c]
def RdQ (e:Int)(ps l:List Pt)(xs:List Sg):Value->Qt->Go.Kn.Loc->Prop:=fun v I' L=>L=[]/\∃ m1 m2 m3 av n c,v= .tuple #[.agg #[.map m1,.map m2,.map m3,.slice av n c],.int .i64 e]/\(e=0->∃ r1 r2 r3,m1=some r1/\m2=some r2/\m3=some r3/\StQ I' ps l xs r1 r2 r3 av n c)
theorem zxJ (h:KV ps≠0):WZ ps bs ws=KV ps:=by unfold WZ;rw [jb h]
theorem zyD (h:KV ps=0)(h2:chkG bs≠0):WZ ps bs ws=chkG bs:=by unfold WZ;rw [ja kB,jb h2]
theorem zwP (h:KV ps=0)(h2:chkG bs=0)(h3:vrE ps ws≠0):WZ ps bs ws=vrE ps ws:=by
 unfold WZ;rw [ja kB,ja kB];unfold vrE at*;split
 ·rfl
 ·rename_i h4;rw [ja h4] at h3
  cases hv:zoG ps ws with
  | true=>rw [hv] at h3;exact absurd U h3
  | false=>rfl
theorem ztq (h:vrE ps ws=0):¬ws.length>512:=fun h2=>by unfold vrE at h;rw [jb h2] at h;cases h
theorem zCt (h:KV ps=0)(h2:chkG bs=0)(h3:vrE ps ws=0)(h4:zbo bs (ZY ps ws)=false):WZ ps bs ws=380:=by unfold WZ;rw [ja kB,ja kB,ja (ztq h3),h4,Aa];rfl
theorem zFr (h:KV ps=0)(h2:chkG bs=0)(h3:vrE ps ws=0)(h4:zbo bs (ZY ps ws)=true):WZ ps bs ws=0:=by unfold WZ;rw [ja kB,ja kB,ja (ztq h3),h4,zon h3];rfl
theorem zxf (hp:p∈ps)(hin:(ws.any fun x=>x==p.id)=true)(h:zoR bs (ZY ps ws) p=false):zbo bs (ZY ps ws)=false:=by unfold zbo;exact BU.2 ⟨p,jF.2 ⟨hp,hin⟩,by rw [h];exact AH⟩
theorem zzf {x a b c:Nat×Obj}{Lg Ls Lr:Go.Kn.Loc}:(x::(Lg++(a::b::c::(Ls++Lr)))).Perm (Lg++(x::a::b::c::(Ls++Lr))):=O0.symm
theorem zCC {x a b c:Nat×Obj}{Lg A L B Lr:Go.Kn.Loc}:(x::(Lg++(a::b::c::((A++(L++B))++Lr)))).Perm (L++(x::(Lg++(a::b::c::(A++(B++Lr)))))):=by
 have h1:((A++(L++B))++Lr).Perm (L++(A++(B++Lr))):=by
  rw [jn,jn];exact Ol A L _
 have h2:(x::(Lg++(a::b::c::((A++(L++B))++Lr)))).Perm (x::(Lg++(a::b::c::(L++(A++(B++Lr)))))):=((h1.cons c |>.cons b |>.cons a).append_left Lg).cons x;refine h2.trans ?_;have h3:(a::b::c::(L++(A++(B++Lr)))).Perm (L++(a::b::c::(A++(B++Lr)))):=Ol [a,b,c] L _;refine ((h3.append_left Lg).cons x).trans ?_;exact Ol (x::Lg) L _
theorem zsD {x a b c:Nat×Obj}{Lg A L B Ls:Go.Kn.Loc}:(x::(Lg++(a::b::c::(Ls++(A++(L++B)))))).Perm (L++(x::(Lg++(a::b::c::(Ls++(A++B)))))):=by
 have h1:(Ls++(A++(L++B))).Perm (L++(Ls++(A++B))):=by
  refine ((Ol A L B).append_left Ls).trans (Ol Ls L _)
 have h2:=((h1.cons c |>.cons b |>.cons a).append_left Lg).cons x;refine h2.trans ?_;have h3:(a::b::c::(L++(Ls++(A++B)))).Perm (L++(a::b::c::(Ls++(A++B)))):=Ol [a,b,c] L _;refine ((h3.append_left Lg).cons x).trans ?_;exact Ol (x::Lg) L _
variable{dv:Option Addr}
theorem zr1 (hP:SlP I av n c ps)(hn:n<=100000)(hB:Sl I 14 Zk bv n2 c2 bs)(hn2:n2<=100000){n3 c3:Nat}(hV:Sl I 1 Q3 dv n3 c3 ws)(hn3:n3<=100000):ZQ Tryz.prog 47 [.slice av n c,.slice bv n2 c2,.slice dv n3 c3] I [] (RdQ (WZ ps bs ws) ps (ZY ps ws) (Uo bs (ZY ps ws))):=by
 intro g H w hw;refine qe Tryz.func47 Tryz.ntmps47 hw ?_;have hIc:=zGN I;refine zR ?_;refine Qs zkE U U (fun b_6=>?_);refine zA (zN (Ql (zR ?_)));refine zM ?_;refine qcV (vs:=[_]) U zx2 (zAi hP hn) ?_;refine zA ?_;refine zN (zR ?_);refine zM ?_;refine zC (zN ?_);refine zI ?_ ?_<;>intro hc19
 ·have hck:KV ps≠0:=(by simpa using hc19);refine zR ?_;refine zV (Qk U YW (fun hg=>by exact Cells.g0) U) ?_;refine zM ?_;refine zh US ?_;refine zA (zN (Qr (Qc ?_)))
  first
  | exact Zl U U U YW kG U (fun w hw=>⟨_,I,[],U,hIc,hw.drop,U,_,_,_,_,_,_,by rw [zxJ hck],fun h0=>absurd h0 (by rw [zxJ hck];exact hck)⟩)
 have hck:KV ps=0:=(by simpa using hc19);have hn5:n<=512:=(by have:=(K7 hck).1;rw [hP.len] at this;omega);have hL:=K6 hck;have hnd:=zAo hP hck;have hSto:=W8 hck;refine Qo (Qa (Ql (zR (zM ?_))));refine qcV (vs:=[_]) U zaQ (Xx hB hn2) ?_;refine zA ?_;refine zN (zR ?_);refine zM ?_;refine zC (zN ?_);refine zI ?_ ?_<;>intro hc25
 ·have hcg:chkG bs≠0:=(by simpa using hc25);refine zR ?_;refine zV (Qk U YW (fun hg=>by exact Cells.g0) U) ?_;refine zM ?_;refine zh US ?_;refine zA (zN (Qr (Qc ?_)))
  first
  | exact Zl U U U YW kG U (fun w hw=>⟨_,I,[],U,hIc,hw.drop,U,_,_,_,_,_,_,by rw [zyD hck hcg],fun h0=>absurd h0 (by rw [zyD hck hcg];exact hcg)⟩)
 have hcg:chkG bs=0:=(by simpa using hc25);refine Qo (Qa (Ql (zR (zM ?_))));refine zM ?_;refine qcV (vs:=[_,_]) U zvP (zlW hP hn5 hL hnd hV hn3) ?_;refine zA ?_;refine zN (zR ?_);refine zM ?_;refine zC (zN ?_);refine zI ?_ ?_<;>intro hc32
 ·have hcv:vrE ps ws≠0:=(by simpa using hc32);refine zR ?_;refine zV (Qk U YW (fun hg=>by exact Cells.g0) U) ?_;refine zM ?_;refine zh US ?_;refine zA (zN (Qr (Qc ?_)))
  first
  | exact Zl U U U YW kG U (fun w hw=>⟨_,I,[],U,hIc,hw.drop,U,_,_,_,_,_,_,by rw [zwP hck hcg hcv],fun h0=>absurd h0 (by rw [zwP hck hcg hcv];exact hcv)⟩)
 have hcv:vrE ps ws=0:=(by simpa using hc32);have hVer:=(Xt hL).1 (zon hcv);refine Qo (Qa (zR (zM ?_)));refine zpc [_] U zg8 .nil (zcV hP hn hL hnd) ?_;rintro vv1 I1 L1 hI1 ⟨rfl,r9,rfl,hOn⟩;have hP:=hP.mono hI1;have hB:=hB.mono hI1;have hV:=hV.mono hI1;have hIc:=hIc.trans hI1;refine ZV U U (fun r_37=>?_);refine ZV U U (fun r_38=>?_);refine zM ?_;refine zpc [_] U ztY .nil (zqY hB kB) ?_;rintro vv2 I2 L2 hI2 ⟨rfl,hO⟩;have hP:=hP.mono hI2;have hB:=hB.mono hI2;have hV:=hV.mono hI2;have hOn:=hOn.mono hI2;have hIc:=hIc.trans hI2;obtain ⟨Lg,hLg⟩:∃ Lg,Lg=L2:=⟨_,U⟩;subst hLg;obtain ⟨vg,hvg⟩:∃ z,z=vv2:=⟨_,U⟩;subst hvg;obtain ⟨va,vn,vc,rfl⟩:=hO.val;refine zV (QC (ps:=[(0,_),(1,_),(2,_),(3,_)]) [_,_,_,_] zxw U U) ?_;refine zh US ?_;refine zN (zR ?_);refine ZV U U (fun r_42=>?_);refine zA (zN (Ql (zR ?_)));refine zM ?_;refine zQ Q4 ?_;refine zM (zN (Qp ?_));refine zU [(0,_),(2,_),(6,_),(8,_),(43,_),(44,_)] (fun T L0 mz E I' loc'=>∃ (k:Nat) (s:List (Int×Bool)),mz=n2-k/\E=(45,.int .i64 k)::T/\I2=I'/\(r_42,Z7 (Value.int .i64) Value.bool s)::(Lg++[(r_38,Z7 (Value.int .i64) zfd []),(r_37,Z7 Vg zfd []),(b_6,.cells #[.map (some r9),.map (some r_37),.map (some r_38),.slice va vn vc] 132 (0,0))])=loc'/\k<=n2/\∀ x,ziP s x=WK (bs.take k) x) ?_ (h:=⟨0,[],U,U,U,U,jf _,fun x=>U⟩);rintro mz E I' loc' ⟨k,s,rfl,rfl,rfl,rfl,hk,hs⟩;refine zR (zC (zN (Ql ?_)));refine zI ?_ ?_<;>intro hc46
 ·have hlt_k:k<n2:=(by have h:=hc46;simp at h;omega);obtain ⟨b,hb⟩:=hB.at hlt_k;refine Qo (Qa (Ql (Qp (zR ?_))));refine zV (Qy U U Q4 kI (fun hg=>kB)) ?_;refine zV (Qk U QY (fun hg=>by exact zGO hB hb) U) ?_;refine Qs UV U U (fun b_10=>?_);refine zh Yk ?_;refine zN (Qf (zM ?_));refine zF Zb ?_;refine zL Qq ?_;refine Q6 (m:=s) (ek:=Value.int .i64) (ev:=Value.bool) (a:=b.id) true V6 Z3 U U U U (by repeat (first | exact Upd.here | apply Upd.there | apply QH)) ?_;refine Qb (Qg (Qa (Qf (zB ?_))));refine zM (Qb ?_);exact zm (h:=⟨n2-(k+1),kB,k+1,_,U,U,U,U,kB,fun x=>by rw [zaZ,hs,znK hb]⟩)
 have hge_k:n2<=k:=(by have h:=hc46;simp at h;omega);have hkn:=zjy hs (by rw [hB.len];exact hge_k);refine QF (Qh (Qh (Qm (Qa (Ql (zR (zM ?_)))))));refine zQ ZG ?_;refine zM (zN (Qp ?_));refine zU [(2,_),(6,_),(8,_),(53,_),(54,_)] (fun T L0 mz E I' loc'=>∃ (k:Nat) (s:List (Int×Bool)) (vg:Value) (q:Nat) (Lg:Go.Kn.Loc) (ms:List ((Int×Int)×znp)) (Ls:Go.Kn.Loc) (mr:List (Int×znp)) (Lr:Go.Kn.Loc),mz=n-k/\E=(55,.int .i64 k)::T/\I2=I'/\(r_42,Z7 (Value.int .i64) Value.bool s)::(Lg++((r_38,Z7 (Value.int .i64) zfd mr)::(r_37,Z7 Vg zfd ms)::(b_6,.cells #[.map (some r9),.map (some r_37),.map (some r_38),vg] 132 (0,0))::(Ls++Lr)))=loc'/\k<=n/\zfm s bs (ZY (ps.take k) ws)/\OwnS 28 14 vg q ((bs++zcU (ZY (ps.take k) ws)).flatMap Zk) Lg/\q<=n2+k/\zj8 ms (ZY (ps.take k) ws)/\JY 53 19 (ms.map (·.2)) Ls/\zaO mr (ZY (ps.take k) ws)/\JY 3 1 (mr.map (·.2)) Lr/\(ZY (ps.take k) ws).all (zoR bs (ZY ps ws))=true) ?_ (h:=⟨0,s,_,n2,Lg,[],[],[],[],U,U,U,U,jf _,hkn,by rw [show bs++zcU (ZY (ps.take 0) ws)=bs from jz _];exact hO,js _,zj8.start,JY.nil,zaO.start,JY.nil,U⟩);rintro mz E I' loc' ⟨k,s,vg,q,Lg,ms,Ls,mr,Lr,rfl,rfl,rfl,rfl,hk,hkn,hO,hq,hsm,hAllS,hrm,hAllR,hfit⟩;obtain ⟨va,vn,vc,rfl⟩:=hO.val;refine zR (zC (zN (Ql ?_)));refine zI ?_ ?_<;>intro hc56
 ·have hlt_k:k<n:=(by have h:=hc56;simp at h;omega);have hP1:=hP.1;obtain ⟨p,hp,hN⟩:=hP.at hlt_k;have hpm:=jd hp;have hN:Sl I2 1 Q3 p.a p.n p.c p.needs:=hN;have hpn:=hnd p hpm;refine Qo (Qa (Ql (Qp (zR ?_))));refine zV (Qy U U ZG kI (fun hg=>kB)) ?_;refine zV (Qk U YG (fun hg=>by exact zGO hP1 hp) U) ?_;refine Qs Uf U U (fun b_12=>?_);refine zh VY ?_;refine zN (Ql (zR (zM ?_)));refine zF Zy ?_;refine zL Qq ?_;refine qcV (vs:=[_,_]) U zv6 (zEW hV hn3 hVer.inc _) ?_;refine zM ?_;refine zE ?_;refine zE ?_;refine zA ?_;refine zA ?_;refine zN (zR ?_);refine zM ?_;refine zO (zN ?_);refine zI ?_ ?_<;>intro hc67
  ·have hin:(ws.any fun x=>x==p.id)=false:=(jS _).mp hc67;have hT:=zu9 hp hin;refine QF (Qh (Qm (Qa (Qf (zB ?_)))));refine zM (Qb ?_)
   first
   | exact zm (h:=⟨n-(k+1),kB,k+1,_,_,_,_,_,_,_,_,U,U,U,U,kB,by rw [hT];exact hkn,by rw [hT];exact hO,kB,by rw [hT];exact hsm,hAllS,by rw [hT];exact hrm,hAllR,by rw [hT];exact hfit⟩)
  have hin:(ws.any fun x=>x==p.id)=true:=(Ox _).mp hc67;have hT:=zpP hp hin;refine Qo (Qa (Ql (zR (zM ?_))));refine zF Yz ?_;refine zL Qq ?_;refine zV (YJ (m:=s) V6 Z3 U U (fun _=>(by exact Mem.m1))) ?_;refine zF Wo ?_;refine zL Qq ?_;refine zC ?_;refine zV (zp3 U U zuW) ?_;refine zN ?_;refine zI ?_ ?_<;>intro hc75
  ·have h75:(ziP s p.sign==(p.kind==2))=true:=hc75;rw [ziv hSto hp hin (hkn p.sign)] at h75;have hfp:=(jS _).mp h75;have hfb:=zxf hpm hin hfp;refine zR ?_;refine zV (Qk U YW (fun hg=>by (repeat (first | exact zGL | apply zGK | apply zGM))) U) ?_;refine zh US ?_;refine zA (zN (Qr (Qc (Qn (Qc (Qc (Qn ?_)))))));refine Qc ?_
   first
   | exact Zl U U U YW kG U (fun w hw=>⟨_,I2,[],U,hIc,hw.drop,U,_,_,_,_,_,_,by rw [zCt hck hcg hcv hfb],fun h0=>absurd h0 (by rw [zCt hck hcg hcv hfb];exact kE)⟩)
  have h75:(ziP s p.sign==(p.kind==2))=false:=hc75;rw [ziv hSto hp hin (hkn p.sign)] at h75;have hfp:=(Ox _).mp h75;refine Qo (Qa (zR ?_));refine zF Wo ?_;refine zL Qq ?_;refine zN (Qp (zR (zC ?_)));refine zA (zN ?_);refine zI ?_ ?_<;>intro hc79
  ·have hk2:p.kind=2:=(by simpa using hc79);refine zR (zM ?_);refine zF Yz ?_;refine zL Qq ?_;refine Q6 (m:=s) (ek:=Value.int .i64) (ev:=Value.bool) (a:=p.sign) true V6 Z3 U U U U (by repeat (first | exact Upd.here | apply Upd.there | apply QH)) ?_;refine zN (Qf ?_);refine zF UN ?_;refine zV (Qd U zeW (fun hg=>by (repeat (first | exact zGI U | apply zGH | apply zGJ)))) ?_;refine zF VH ?_;refine zV (Qk U QY (fun hg=>by exact Cells.s0 (vs:=[_,_,_,_,_,_,_,_,_,_,_,_,_,_]) U) U) ?_;refine zpb [(0,_)] [Zk p.nw] VG (fun b_88=>?_);refine zpa (_) ([p.nw].flatMap Zk) (Lg) U U VG hO ⟨U,fun _=>U,zGL⟩ (zgW [p.nw]) ?_;intro v9 L9 hO9 _;rw [<-jo] at hO9;obtain ⟨va9,vn9,vc9,rfl⟩:=hO9.val;refine zF UN ?_;refine zS zrY ?_;refine Qb (Qg (Qg (Qa (Qf (zB ?_)))));refine zM (Qb ?_)
   first
   | exact Ub _ _ (L9++((r_42,_)::(r_38,_)::(r_37,_)::(b_6,_)::(Ls++Lr))) ⟨n-(k+1),kB,k+1,_,_,_,L9,ms,Ls,mr,Lr,U,U,U,U,kB,by rw [hT];exact hkn.put hk2,by rw [hT,zqh hk2,<-jn];exact hO9,kB,by rw [hT];exact hsm.skip kB,hAllS,by rw [hT];exact hrm.skip' kB,hAllR,by rw [hT,Au,hfit];simp [hfp]⟩ (.cons U (.cons U (.cons U (.cons U (.cons U (.cons U .nil)))))) zzf kH
  have hk2n:p.kind≠2:=(by simpa using hc79);refine zR (zC ?_);refine zA (zN ?_);refine zI ?_ ?_<;>intro hc91
  ·have hk1:p.kind=1:=(by simpa using hc91);refine zR ?_;refine zF Yz ?_;refine zL Qq ?_;refine zF Kk ?_;refine zL Qq ?_;refine zV (ZT (ps:=[(0,_),(1,_)]) [_,_] VM WY U U) ?_;refine Qs WY U U (fun b_15=>?_);refine zh zn1 ?_;refine zN ?_;obtain ⟨A,Lt,B,hLs,hOt,hset⟩:=hAllS.at (p.sign,p.field);subst hLs;rw [jn A,jn Lt];have hq0:=zDl hsm hOt;have hq2:(ZY (ps.take k) ws).length<=k:=jT (j3 ..) (AZ k ps);refine Qf ?_;refine zF zbB ?_;refine zV (Qd U zhk (fun hg=>by (repeat (first | exact zGI U | apply zGH | apply zGJ)))) ?_;refine zV (Qk U zhG (fun hg=>by exact Cells.g0) U) ?_;refine zV (Qk U YG (fun hg=>by exact Cells.g1) U) ?_;refine zpb [(0,_)] [Yh p] Ks (fun b_103=>?_);refine zgN (m:=ms) (ek:=Vg) (ev:=zfd) (a:=(p.sign,p.field)) Uy U zgK zft U U U U (by repeat (first | exact Upd.here | apply Upd.there | apply QH)) ?_;refine zE ?_;refine zpa (_) ([p].flatMap Yh) (Lt) U U Ks hOt ⟨U,fun _=>U,zGL⟩ (zgh [p]) ?_;intro v9 L9 hO9 _;refine zE ?_;refine zeu (ek:=Vg) (ev:=zfd) (m:=YM ms (p.sign,p.field) ((ZP ms (p.sign,p.field)).getD Uy)) (a:=(p.sign,p.field)) (v9,((ZP ms (p.sign,p.field)).getD Uy).2.1+1,((ZP ms (p.sign,p.field)).getD Uy).2.2++[p].flatMap Yh) ((ZP ms (p.sign,p.field)).getD Uy) (by rw [Y4,jb rfl]) U (by rw [zkZ];exact U) U U (by repeat (first | exact Upd.here | apply Upd.there | apply QH)) ?_;rw [zfb];refine Qb (Qg (Qg (Qa (Qf (zB ?_)))));refine zM (Qb ?_)
   first
   | exact Ub _ _ (L9++((r_42,_)::(Lg++((r_38,_)::(r_37,_)::(b_6,_)::(A++(B++Lr)))))) ⟨n-(k+1),kB,k+1,s,_,q,Lg,_,A++(L9++B),mr,Lr,U,U,U,U,kB,by rw [hT];exact hkn.skip kB,by rw [hT,zea kB];exact hO,kB,by rw [hT];exact hsm.put hk1,hset (v9,_,_) L9 hO9,by rw [hT];exact hrm.skip' kB,hAllR,by rw [hT,Au,hfit];simp [hfp]⟩ (.cons U (.cons U (.cons U (.cons U (.cons U (.cons U .nil)))))) zCC kH
  have hk1n:p.kind≠1:=(by simpa using hc91);refine zR (zC ?_);refine zA (zN ?_);refine zI ?_ ?_<;>intro hc107
  ·have hk3:p.kind=3:=(by simpa using hc107);obtain ⟨A,Lt,B,hLr,hOt,hset⟩:=hAllR.at p.sign;subst hLr;have hq0:=zsx hrm hOt;have hq2:(ZY (ps.take k) ws).length<=k:=jT (j3 ..) (AZ k ps);have hD:=zGN I2;refine YZ ?_;refine ZA I2 [(b_12,.cells (Yh p).toArray 53 (0,0)),(b_6,.cells #[.map (some r9),.map (some r_37),.map (some r_38),.slice va vn vc] 132 (0,0))] mixed ?_;refine zT 0 U (Qe U UL) hD ?_;refine zT 1 U (Qd U zbU (fun hg=>by exact QB.h1 U)) hD ?_;refine zT 2 U (Qe U Yz) hD ?_;refine zT 3 U (Qd U Qq (fun hg=>by exact QB.h0 U)) hD ?_;refine zT 4 U (Qe U UL) hD ?_;refine zT 5 U (Qd U zbU (fun hg=>by exact QB.h1 U)) hD ?_;refine zT 6 U (Qe U Yz) hD ?_;refine zT 7 U (Qd U Qq (fun hg=>by exact QB.h0 U)) hD ?_;refine zT 9 U (Qe U Zy) hD ?_;refine zT 10 U (Qd U Qq (fun hg=>by exact QB.h0 U)) hD ?_;refine Zo 8 11 U U kA ?_ ?_
   focus
    refine zV (KQ (m:=mr) (ek:=Value.int .i64) (a:=p.sign) JC Z3 U U (fun _=>.inr kK)) ?_;refine Qb ?_;refine zD hD ?_;refine qd 11 U ?_;refine zpb [(0,_)] [Q3 p.id] Zw (fun b_120=>?_)
   rotate_left
   refine zpb [(0,_)] [Q3 p.id] Zw (fun b_120=>?_);refine Qb ?_;refine zD hD ?_;refine qd 8 U ?_;refine zV (KQ (m:=mr) (ek:=Value.int .i64) (a:=p.sign) JC Z3 U U (fun _=>.inr kK)) ?_
   all_goals
    refine Qb ?_;refine zD hD ?_;refine qd 12 U ?_;refine zpa (_) ([p.id].flatMap Q3) (Lt) U U Zw hOt ⟨U,fun _=>U,zGL⟩ (JH [p.id]) ?_;intro v9 L9 hO9 _;refine Qb ?_;refine zD hD ?_;refine qd 13 U ?_;refine Q6 (m:=mr) (ek:=Value.int .i64) (ev:=zfd) (a:=p.sign) (v9,((ZP mr p.sign).getD Uy).2.1+1,((ZP mr p.sign).getD Uy).2.2++[p.id].flatMap Q3) JC Z3 U U U U (by repeat (first | exact Upd.here | apply Upd.there | apply QH)) ?_;refine Qb ?_;refine zD hD ?_;refine Qz kA ?_;refine QD ?_;refine Qg (Qg (Qa (Qf (zB ?_))));refine zM (Qb ?_)
    first
    | exact Ub _ _ (L9++((r_42,_)::(Lg++((r_38,_)::(r_37,_)::(b_6,_)::(Ls++(A++B)))))) ⟨n-(k+1),kB,k+1,s,_,q,Lg,ms,Ls,_,A++(L9++B),U,U,U,U,kB,by rw [hT];exact hkn.skip kB,by rw [hT,zea kB];exact hO,kB,by rw [hT];exact hsm.skip kB,hAllS,by rw [hT];exact hrm.put' hk3,hset (v9,_,_) L9 hO9,by rw [hT,Au,hfit];simp [hfp]⟩ (.cons U (.cons U (.cons U (.cons U (.cons U (.cons U .nil)))))) zsD kH
  have hk3n:p.kind≠3:=(by simpa using hc107);refine Qo (Qg (Qg (Qa (Qf (zB ?_)))));refine zM (Qb ?_)
  first
  | exact zm (h:=⟨n-(k+1),kB,k+1,_,_,_,_,_,_,_,_,U,U,U,U,kB,by rw [hT];exact hkn.skip hk2n,by rw [hT,zea hk2n];exact hO,kB,by rw [hT];exact hsm.skip hk1n,hAllS,by rw [hT];exact hrm.skip' hk3n,hAllR,by rw [hT,Au,hfit];simp [hfp]⟩)
 have hge_k:n<=k:=(by have h:=hc56;simp at h;omega);have hTn:ZY (ps.take k) ws=ZY ps ws:=(by rw [ZJ hP.len hge_k]);rw [hTn] at hkn hO hsm hrm hfit;have hfitB:zbo bs (ZY ps ws)=true:=hfit;refine QF (Qh (Qh (Qm (Qa (zR ?_)))));refine zF UN ?_;refine zV (Qd U zeW (fun hg=>by (repeat (first | exact zGI U | apply zGH | apply zGJ)))) ?_;refine zpc [_,_] U zyt (by repeat (first | exact .cons .here .nil | exact QT | exact QO | apply Zi | apply Zd)) (zxT 28 _ hO kB _) ?_;rintro vv5 I5 L5 hI5 ⟨rfl,rfl,zs2,hperm,hsort,hO2⟩;have hP:=hP.mono hI5;have hOn:=hOn.mono hI5;have hIc:=hIc.trans hI5;refine Qb ?_;have hz2:zs2=Uo bs (ZY ps ws):=zq2 (VL (Y5 hcg).2) (zdP hSto hVer) hfitB hperm hsort;rw [hz2] at hO2;refine Qa (zR ?_);refine zV (Qk U YW (fun hg=>by (repeat (first | exact zGL | apply zGK | apply zGM))) U) ?_;refine zh US ?_;refine zA (zN (Qr ?_))
 first
 | exact Zl U U U YW kG U (fun w hw=>by obtain ⟨I9,h91,h92,h93⟩:=hw.freezeAll;obtain ⟨av9,c9,hv9,hS9⟩:=hO2.sl Z8 kE (fun b o hb=>h93 b o (by simp [hb]));cases hv9;exact ⟨_,I9,[],U,hIc.trans h91,h92,U,_,_,_,_,_,_,by rw [zFr hck hcg hcv hfitB],fun _=>⟨_,_,_,U,U,U,⟨hOn.mono h91,⟨ms,h93 r_37 _ kK,zzK hsm hAllS (fun b o hb=>h93 b o (by simp [hb]))⟩,⟨mr,h93 r_38 _ kK,zrH hrm hAllR (fun b o hb=>h93 b o (by simp [hb]))⟩,hS9,fun p hp=>(Vf.1 hp).1,fun p hp=>(hP.2 p hp).mono h91,hL,by rw [hP.len];exact hn5,jT (j3 ..) (by rw [hP.len];exact hn5)⟩⟩⟩)
end
end Go.Proofs.YtmbjmjbjdgjonaaGreatDoor.R
