/- apparatusOriginSpec_holds, part J of the proof: what its theorems say holds without further conditions. -/
import Derived.ProofKit
import Derived.Deep.Slices
import Derived.Test.YtodakphagkommaaGreatDoorRows
import Derived.LaidMore
import Derived.MakeChecks
import Derived.Lib.LaidTab
import Derived.Test.YtodakphagkommaaGreatDoorCards
import Derived.Test.YtodakphagkommaaGreatDoorTie
import Derived.Stop.Joined
import Derived.SevenTiedAt
import Derived.Test.YtodakphagkommaaGreatDoorAOI
namespace Go.Proofs.YtodakphagkommaaGreatDoor.R
section
open Go Go.Kn Go.Proofs
theorem Xi {p:Int->Bool}:∀ (l:List Int) (j:Nat),V9 p j l=match l.findIdx? p with | some i=>((j+i:Nat):Int) | none=> -1
 | [],j=>rfl
 | v::z,j=>by
  unfold V9;rw [Bo]
  cases h:p v with
  | true=>simp
  | false=>
   simp only [jy,Oa];rw [Xi z (j+1)]
   cases z.findIdx? p with
   | none=>rfl
   | some i=>simp only [Ow];congr 1;omega
variable{A:Type}{p:A->Bool}
theorem zkl {u:List A}:KA p u=match u.findIdx? p with | some i=>(i:Int) | none=> -1:=by
 cases h:u.any p with
 | false=>rw [zeW h];unfold KA;rw [h];rfl
 | true=>
  obtain ⟨i,x,h1,h2,h3,h4⟩:=zgh h;rw [zi9 h4 h2 h3,h1]
section
variable {ws:List Wr} {rows:List (List Int)} {f:Int} {g:List Int} {j:List Em} {rd:List Int}
theorem zbB {q:Nat}{p:Int->Bool}:(Jh rows q).findIdx? p=rows.findIdx? fun r=>p (r.getD q 0):=by unfold Jh;rw [List.findIdx?_map];rfl
theorem zl0 {q:Nat}:(fun r:List Int=>okV (r.getD q 0))=zg8 q:=by funext r;unfold okV zg8;rw [BV]
theorem zDW {c:Int}(h0:c≠0)(a:c≠8589934592):exV c=fun v=>v==c:=by
 funext v;unfold exV okV
 cases h:v==c with
 | false=>rw [OP]
 | true=>rw [jW] at h;subst h;simp [h0,a]
theorem zzB {q:Nat}{c:Int}(h0:c≠0)(a:c≠8589934592)(h:¬V9 okV 0 (Jh rows q)<0):zk8 rows q c=(zhc rows q c:Int):=by
 unfold zk8 zhc;rw [zDW h0 a];rw [Xi,Xi,zbB,zbB,zl0];rw [Xi,zbB,zl0] at h
 cases h1:rows.findIdx? fun r=>r.getD q 0==c with
 | some i=>simp only;rw [jb kB];simp
 | none=>
  simp only;rw [ja kC]
  cases h2:rows.findIdx? (zg8 q) with
  | some i=>simp
  | none=>rw [h2] at h;exact absurd kC h
theorem zA3 {q:Nat}{c:Int}(h:¬V9 okV 0 (Jh rows q)<0):zot rows q c=(zhc rows q c:Int):=by
 unfold zot zhc;rw [zkl,zkl];rw [Xi,zbB,zl0] at h
 cases h1:rows.findIdx? fun r=>r.getD q 0==c with
 | some i=>simp only;rw [ja kB]
 | none=>
  simp only;rw [jb kC]
  cases h2:rows.findIdx? (zg8 q) with
  | some i=>simp
  | none=>rw [h2] at h;exact absurd kC h
structure BsI (ws:List Wr)(rows:List (List Int))(rd:List Int)(x:Sg)(q:Nat):Prop where
 id:x.id=(q:Int)
 lt:q<rd.length
 len:∀ r∈rows,r.length=rd.length
 wl:rows.length=ws.length
 nz:rd.getD q 0≠0
 nl:rd.getD q 0≠8589934592
 se:Vb (rd.getD q 0)=0
 ok:¬V9 okV 0 (Jh rows q)<0
 put:∃ (i:Nat) (w:Wr) (r:List Int) (y:Rd) (m:Bool),zhc rows q (rd.getD q 0)=i/\ws[i]? =some w/\rows[i]? =some r/\r.getD q 0≠0/\w.rs[nzF r q]? =some y/\y.lost=false/\x=XY q (rd.getD q 0) y.sg m
 read:∀ (i:Nat) (w:Wr) (r:List Int),ws[i]? =some w->rows[i]? =some r->r.getD q 0≠0->∃ y,w.rs[nzF r q]? =some y/\Yu y=r.getD q 0/\(y.lost=true↔r.getD q 0=8589934592)
theorem zwO (h:JD ws rows f g j rd=0){x:Sg}(hx:x∈Yl ws rows f g j rd):∃ q:Nat,BsI ws rows rd x q:=by
 obtain ⟨h1,h2,h3,h4⟩:=zoN h;obtain ⟨q,a,b,c⟩:=zdW h4 x hx;obtain ⟨J,M,_,a0,_,D,a2⟩:=zaz h1 h2 h3;obtain ⟨a1,_⟩:=Js (Kb D);have ht:=zmf h2 kB;have Q:=(zd7 h1 (by rw [h2];omega)).1
 have h0:rd.getD q 0≠0:=by
  intro e;unfold zaB at c;rw [jb (by rw [e];rfl)] at c;cases c
 have I:rd[q]? =some (rd.getD q 0):=QE U a;have F:=zgU h1 h2 h3 I h0;have K:rd.getD q 0≠8589934592:=by have:=(zgr F).2.2.2;omega
 have l:∀ (i:Nat) (w:Wr) (r:List Int),ws[i]? =some w->rows[i]? =some r->r.getD q 0≠0->∃ y,w.rs[nzF r q]? =some y/\Yu y=r.getD q 0/\(y.lost=true↔r.getD q 0=8589934592):=fun i w r B n P=>by
  have Y:=(jc.1 n).1
  have T:r=zc0 ws i:=by
   rw [ht,jB,OD kB] at n;exact (Ob n).symm
  obtain ⟨c,I⟩:∃ c,r[q]? =some c:=⟨_,QE (d:=0) U (by rw [M r (je n)];exact a)⟩;rw [QJ I] at P ⊢;rw [T] at I ⊢;obtain ⟨r0,u,G,C,_⟩:=zeh Q B I P;exact ⟨r0,u,G,C⟩
 have H:=zm5 (ws:=ws) (rows:=rows) (k:=q) (code:=rd.getD q 0) (fun i r n P=>by
  have Y:=(jc.1 n).1;obtain ⟨w,B⟩:∃ w,ws[i]? =some w:=⟨_,jf kB⟩;obtain ⟨y,u,_,C⟩:=l i w r B n P
  rw [ztX B n,QJ u];exact C) h0 (fun _=>F)
 rw [c] at H
 cases o:zbc ws rows q (rd.getD q 0) with
 | none=>rw [o] at H;cases H
 | some x'=>
  rw [o] at H;simp only [Out.sg.injEq] at H;subst H;have t:¬V9 okV 0 (Jh rows q)<0:=fun e=>(by rw [zwE e] at o;cases o);obtain ⟨i,r,s,n,N⟩:=zuE (code:=rd.getD q 0) t;have Y:=(jc.1 n).1;obtain ⟨w,B⟩:∃ w,ws[i]? =some w:=⟨_,jf kB⟩;obtain ⟨y,u,G,C⟩:=l i w r B n N;have W:ydF ws rows i q=y:=(by rw [ztX B n,QJ u]);rw [zit t s W rfl] at o;have hu:=zzB (rows:=rows) h0 K t;rw [s] at hu;have V:zhc rows q (rd.getD q 0)=i:=kB
  have z:okV (r.getD q 0)=true:=by
   have key:∀ p:Int->Bool,(∀ v,p v=true->okV v=true)->V9 p 0 (Jh rows q)=(i:Int)->okV (r.getD q 0)=true:=fun p hp e=>by
    obtain ⟨i2,v,u,G,C⟩:=zlI (show 0<=V9 p 0 (Jh rows q) by rw [e];omega);have Z:i2=i:=(by rw [u] at e;omega);subst Z;unfold Jh at G;rw [jB,n] at G;cases G;exact hp _ C
   unfold zk8 at s;split at s
   ·exact key _ (fun v O=>by unfold exV at O;simp at O;exact O.1) s
   ·exact key _ (fun v O=>O) s
  have E:y.lost=false:=by
   cases e:y.lost with
   | false=>rfl
   | true=>
    rw [C.1 e] at z;exact absurd z kC
  exact ⟨q,b,a,M,J,h0,K,F,t,⟨i,w,r,y,_,V,B,n,N,u,E,(Ob o).symm⟩,l⟩
end
variable{f:Int}
theorem zGe {n x:Sg}(t:isF f)(h:Jk n f Yc=Yc)(a:Ji n f=Ji x f):n=zkZ x f:=by
 obtain ⟨u,w,y,z,B,C,D,E,F,b,d,g,i,j⟩:=n;obtain ⟨G,H,I,J,K,M,N,O,P,l,o,q,r,s⟩:=x
 rcases zcB t with e | e | e | e | e | e | e | e | e<;>subst e<;>
  (simp [Jk,Yc] at h;simp [Ji] at a;simp [zkZ,Jk,Yc,h,a])
section
variable {l:List Wr} {rows:List (List Int)} {n:Int} {o:List Int} {j:List Em} {d:List Int} {a:List Pt} {b:List Int}
theorem zFq {g:List Sg}(h2:za3 a g b=0){x:Sg}(E:x∈Jl (onF a) g (Zi a b)){f:Int}(w:isF f){p:Pt}{r:List Pt}(z:JF (onF a) (Zi a b) x.id f=p::r):p.nw=zkZ x f:=by
 obtain ⟨h,_,_,_,_,i,_⟩:=WX h2
 have C:p∈stF (Zi a b) x.id f:=(jP.1 (show p∈(stF (Zi a b) x.id f).filter _ from by
  have:p∈JF (onF a) (Zi a b) x.id f:=by rw [z];exact jl ..
  exact this)).1
 obtain ⟨D,B,F,s⟩:=KD.1 C;have u:=(Xx h i).ok p D;obtain ⟨_,h3,_⟩:=u.set B;rw [s] at h3;refine zGe w h3 ?_;obtain ⟨y,_,q,_⟩:=zjz E;have t:x.id=y.id:=(by rw [q,zaQ]);rw [q,zdO w,<-t,z];rfl
theorem zmM (h1:JD l rows n o j d=0)(h2:za3 a (Yl l rows n o j d) b=0){x:Sg}(E:x∈Jl (onF a) (Yl l rows n o j d) (Zi a b)){f:Int}(F:isF f):zh3 rows j d (Zi a b) x f=zcT (onF a) rows j d (Zi a b) x.id f:=by
 obtain ⟨g,_,_,_,_,h,_⟩:=WX h2;have i:=zoz (zga g.lst h) x.id f
 cases t:JF (onF a) (Zi a b) x.id f with
 | cons p r=>
  rw [zrP (by rw [i,t];exact Nat.zero_lt_succ _),i,t];have H:=zFq h2 E F t;unfold zcT or1;rw [t,jb kJ];show _=(⟨3,0,[],zwv (p::r)⟩:Og);unfold zwv;simp only;rw [H]
 | nil=>
  have u:¬0<(JF (onF (Zi a b)) (Zi a b) x.id f).length:=(by rw [i,t];exact Nat.lt_irrefl 0);unfold zcT;rw [ja (by unfold or1;rw [t];simp)];unfold zh3;rw [ja u];unfold or2
  cases G:(Zi a b).find? (inP x.id) with
  | some q=>rfl
  | none=>
   simp only [jy,Oa];have B:(or2 (Zi a b) x.id).2=false:=(by unfold or2;rw [G]);obtain ⟨y,I,C,_⟩:=zkp (Xx g h) E B;obtain ⟨q,D⟩:=zwO h1 I;have z:x.id=(q:Int):=(by rw [C,zaQ,D.id]);rw [z];show zqP rows j q (d.getD q 0) f=_;unfold zqP or3;by_cases w:isT f=true
   ·have s:(f==2||f==3||f==9)=true:=w;rw [jb s,jb w];simp only [OB];rw [show zot rows ((q:Int)).toNat (d.getD ((q:Int)).toNat 0)=zot rows q (d.getD q 0) from U,zA3 D.ok]
   ·have s:¬(f==2||f==3||f==9)=true:=w;rw [ja s,ja w];simp only [jy,Oa];unfold or4 or5;rfl
theorem U5 {A q:Type}{g h:A->List q}:∀ {u:List A},(∀ x∈u,g x=h x)->u.flatMap g=u.flatMap h
 | [],_=>rfl
 | x::u,e=>by rw [jV,jV,e x (jl ..),U5 fun y i=>e y (jm _ i)]
theorem zm1 {g h:Int->Int->Og}{s:Int}(e:∀ f,isF f->g s f=h s f):tcJ g s 9=tcJ h s 9:=by unfold tcJ;apply U5;intro i q;have:=jq.1 q;rw [e _ (by unfold isF;omega)]
theorem zIs {e:Int}(g:e=0->JD l rows n o j d=0/\za3 a (Yl l rows n o j d) b=0):trF e (zh3 rows j d (Zi a b)) (Jl (onF a) (Yl l rows n o j d) (Zi a b))=tcF e (fun s f=>zcT (onF a) rows j d (Zi a b) s f) (Jl (onF a) (Yl l rows n o j d) (Zi a b)):=by
 unfold trF tcF;by_cases h:e=0
 ·rw [ja kB,ja kB];apply U5;intro x q;exact zm1 fun f i=>zmM (g h).1 (g h).2 q i
 ·rw [jb h,jb h]
theorem zH6 {g f:Int}{e:Int}(q:e=orE (Xg (JD l rows n o j d) a (Yl l rows n o j d) b) (Jl (onF a) (Yl l rows n o j d) (Zi a b)) g f):
  orO e (zGk rows j d (Zi a b) (Jl (onF a) (Yl l rows n o j d) (Zi a b)) g f)=orO e (zcT (onF a) rows j d (Zi a b) g f):=by
 unfold orO;by_cases h:e=0
 ·rw [ja kB,ja kB];rw [h] at q;have q:=q.symm;unfold orE at q;split at q
  ·exact absurd q kE
  ·rename_i h0;split at q
   ·cases q
   ·rename_i h5;have h0:Xg (JD l rows n o j d) a (Yl l rows n o j d) b=0:=(by simpa using h0);obtain ⟨r,s⟩:=zah h0;have h5:=Aw.2 h5;rw [jS,jS] at h5;obtain ⟨i,x,w,t,u,z⟩:=zhH (zgD h5.2)
    have y:isF f:=by
     have h6:=h5.1;simp only [jR] at h6;unfold isF;omega
    unfold zGk;rw [w,show ((i:Nat):Int).toNat=i from U,QJ t,zmM r s (je t) y];rw [jW] at u;rw [u]
 ·rw [jb h,jb h]
end
theorem zmj {rows:List (List Int)}{rd:List Int}:∀ k,(zjF rows rd k).length<=k
 | 0=>jn _
 | k+1=>by
  rw [zcN,jj];have:=zmj (rows:=rows) (rd:=rd) k;have h2:(zsH rows rd k).length<=1:=(by unfold zsH;split<;>simp);omega
theorem zyy (l:List Pt):(zwv l).length<=l.length:=by
 cases l with
 | nil=>exact jn _
 | cons p r=>unfold zwv;rw [ju];exact jE _ _
variable{on:Int->Int->Bool}{rows:List (List Int)}{es:List Em}{rd:List Int}{l:List Pt}
theorem zsq {s:Int}:(zcT on rows es rd l s f).ws.length<=rows.length+1/\(zcT on rows es rd l s f).ps.length<=l.length+1:=by
 unfold zcT;split
 ·refine ⟨jd _,?_⟩;have h1:=zyy (JF on l s f);have h2:(JF on l s f).length<=l.length:=jO (jE _ _) zaj;show (zwv (JF on l s f)).length<=_;omega
 ·split
  ·unfold or2;split
   ·exact ⟨jd _,by simp⟩
   ·exact ⟨jd _,jd _⟩
  ·split
   ·unfold or3;split
    ·exact ⟨by simp,jd _⟩
    ·exact ⟨jd _,jd _⟩
   ·split
    ·exact ⟨jd _,jd _⟩
    ·exact ⟨jO zfm (Nat.le_succ _),jd _⟩
variable{e:Int}
theorem zAe {s:Int}(b:rows.length<=1000)(a:l.length<=1000):(orO e (zcT on rows es rd l s f)).ws.length<=100000/\(orO e (zcT on rows es rd l s f)).ps.length<=100000:=by
 have h:=zsq (on:=on) (rows:=rows) (es:=es) (rd:=rd) (l:=l) (s:=s) (f:=f);unfold orO;split
 ·exact ⟨jd _,jd _⟩
 ·omega
theorem zoj {og:Int->Int->Og}{s:Int}:∀ j,(tcJ og s j).length<=j
 | 0=>jn _
 | j+1=>by
  have ih:=zoj (og:=og) (s:=s) j
  cases h:(og s ((j:Int)+1)).k==3 with
  | true=>rw [zhy h,jj,jv];omega
  | false=>rw [zpS h];omega
variable{og:Int->Int->Og}{s:List Sg}
theorem zBF :(tcF e og s).length<=s.length*9:=by
 unfold tcF;split
 ·exact jd _
 ·induction s with
  | nil=>exact jd _
  | cons x s ih=>
   rw [jV,jj,jx];have:=zoj (og:=og) (s:=x.id) 9;omega
theorem zuJ:ke 10:=.of Tryz.func10 kA kA
theorem zCl:ke 15:=.of Tryz.func15 kA kA
theorem zEv:ke 17:=.of Tryz.func17 kA kA
theorem zC4:ke 9:=.of Tryz.func9 kA kA
variable{I:Qu}{E F B C D G J:Option Addr}{ws:List Wr}{u z:List Int}{t:List Pt}
theorem w_lOrigin {n c:Nat}(i:SlW I E n c ws)(b8:n<=9223372036854775807){n2 c2:Nat}(d:SlN I F n2 c2 rows){a6 Z:Nat}{a7 a0:Nat}{a8 a5:Nat}(j:Sl I 1 QF B a6 Z u)(o:Sl I 3 Yv C a7 a0 es)(q:Sl I 1 QF D a8 a5 rd)(x:Int){pn pc:Nat}(T:SlP I G pn pc t){n3 c3:Nat}(h:Sl I 1 QF J n3 c3 z)(P:JZ I)(a K:Int):kf 4 [.slice E n c,.slice F n2 c2,.agg (ZI x B a6 Z C a7 a0 D a8 a5).toArray,.slice G pn pc,.slice J n3 c3,.int .i64 a,.int .i64 K] I (.bool true):=by
 intro g H w hw;refine qe Tryz.func4 Tryz.ntmps4 hw ?_;have y:=zJH I;have d0:=d.len;have c5:=j.len;have c6:=o.len;have c7:=q.len;have d5:=i.len;have c9:=T.len;have c4:=h.len;refine zR ?_;refine QU U U U (fun c8=>?_);refine zA<|zN<|Qk<|zR ?_;refine qcV (vs:=[]) U zC4 (zwa P) ?_;refine zO<|zN ?_;refine zI ?_ ?_<;>intro a9
 ·cases a9
 refine Qm<|Qa<|Qk<|zR<|zM ?_;refine zM ?_;refine zV (Qo U ZG (fun hg=>by exact Cells.g0) U) ?_;refine zM ?_;refine zM ?_;refine qcV (vs:=[_,_,_,_,_]) U zuJ (zm7 i b8 d j o q x T h) ?_;refine zO<|zN ?_;refine zI ?_ ?_<;>intro b0
 ·refine zR<|zA<|zN<|Qq<|Qb ?_;exact zp y U U kL
 have b5:zfn ws rows u es rd t z=true:=zgD b0;obtain ⟨g1,g2,g3,g4,g5,g6,g7,g8,g9,g10⟩:=znI b5;have b9:(Zi t z).length<=1000:=jO (jE _ _) kB;have b6:=zAe (e:=(orE (Xg (JD ws rows x u es rd) t (Yl ws rows x u es rd) z) (Jl (onF t) (Yl ws rows x u es rd) (Zi t z)) a K)) (on:=onF t) (rows:=rows) (es:=es) (rd:=rd) (l:=Zi t z) (s:=a) (f:=K) kB b9;have d6:(Jl (onF t) (Yl ws rows x u es rd) (Zi t z)).length<=2000:=(by have h1:=zyc (on:=onF t) (base:=(Yl ws rows x u es rd)) (l:=Zi t z);have h2:=zdR (ws:=ws) (rows:=rows) (no:=x) (cl:=u) (es:=es) (rd:=rd);omega);refine Qm<|Qa<|zR<|zM ?_;refine zM ?_;refine zV (Qo U ZG (fun hg=>by exact Cells.g0) U) ?_;refine zM ?_;refine zM ?_;refine zM ?_;refine zM ?_;refine zpc [_,_,_,_,_,_,_] U zgv .nil (zki i kB d kB j o q kB kB kB x T kB h kB P a K) ?_;rintro d7 I1 L1 M ⟨rfl,_,rfl,a1,b1,d1,a2,b2,d2,rfl,N,O⟩;have i:=i.mono M;have d:=d.mono M;have j:=j.mono M;have o:=o.mono M;have q:=q.mono M;have T:=T.mono M;have h:=h.mono M;have P:=P.mono M;have y:=y.trans M;refine zM ?_;refine zE ?_;refine zE ?_;refine Qv US U U (fun c0=>?_);refine zh YO ?_;refine zA ?_;refine zN<|zR ?_;refine zM ?_;refine zM ?_;refine zV (Qo U ZG (fun hg=>by exact Cells.g1) U) ?_;refine zM ?_;refine zM ?_;refine zM ?_;refine zM ?_;refine zpc [_,_,_,_,_,_,_] U zCl .nil (zrb i kB d kB j o q kB kB kB x T kB h kB a K) ?_;rintro d8 I2 L2 r ⟨rfl,_,rfl,a3,b3,d3,a4,b4,d4,rfl,V,W⟩;have i:=i.mono r;have d:=d.mono r;have j:=j.mono r;have o:=o.mono r;have q:=q.mono r;have T:=T.mono r;have h:=h.mono r;have P:=P.mono r;have N:=N.mono r;have O:=O.mono r;have y:=y.trans r;refine zM ?_;refine zE ?_;refine zE ?_;refine Qv US U U (fun c1=>?_);refine zh YO ?_;refine zA ?_;refine zN<|zR ?_;refine zM ?_;refine zM ?_;refine zV (Qo U ZG (fun hg=>by exact Cells.g2) U) ?_;refine zM ?_;refine zM ?_;refine zpc [_,_,_,_,_] U zmw .nil (zfO i kB d kB j o q kB kB kB x T kB h kB P) ?_;rintro d9 I3 L3 b ⟨rfl,ta,tc,rfl,Y⟩;have i:=i.mono b;have d:=d.mono b;have j:=j.mono b;have o:=o.mono b;have q:=q.mono b;have T:=T.mono b;have h:=h.mono b;have N:=N.mono b;have O:=O.mono b;have V:=V.mono b;have W:=W.mono b;have y:=y.trans b;refine zM ?_;refine zE ?_;refine zE ?_;refine zA ?_;refine zA ?_;refine zN<|zR ?_;refine zM ?_;refine zM ?_;refine zV (Qo U ZG (fun hg=>by exact Cells.g2) U) ?_;refine zM ?_;refine zM ?_;refine zpc [_,_,_,_,_] U zEv .nil (zmm i kB d kB j o q kB kB kB x T kB h kB) ?_;rintro e0 I4 L4 Q ⟨rfl,ua,uc,rfl,b7⟩;have N:=N.mono Q;have O:=O.mono Q;have V:=V.mono Q;have W:=W.mono Q;have Y:=Y.mono Q;have y:=y.trans Q;refine zM ?_;refine zE ?_;refine zE ?_;refine zA ?_;refine zA ?_;refine zN<|zR ?_;refine zV (Qo U Yt (fun hg=>by exact Cells.g1) U) ?_;refine zV (Qo U Yt (fun hg=>by exact Cells.g0) U) ?_;refine qcV (vs:=[_,_]) U ziN (znM (o1:=(orO (orE (Xg (JD ws rows x u es rd) t (Yl ws rows x u es rd) z) (Jl (onF t) (Yl ws rows x u es rd) (Zi t z)) a K) (zcT (onF t) rows es rd (Zi t z) a K))) (o2:=(orO (orE (Xg (JD ws rows x u es rd) t (Yl ws rows x u es rd) z) (Jl (onF t) (Yl ws rows x u es rd) (Zi t z)) a K) (zGk rows es rd (Zi t z) (Jl (onF t) (Yl ws rows x u es rd) (Zi t z)) a K))) N O V W (by rw [<-N.len];exact b6.1) (by rw [<-O.len];exact b6.2)) ?_;refine zM ?_;refine Qw 3 U U U ?_;refine zK (Qd U) ?_;refine zK (Qd U) ?_;refine zK (Qx U U U) ?_;refine QC U U U U U ?_;refine zM ?_;refine Qw 8 U U U ?_;refine zK (Qd U) ?_;refine zK (Qd U) ?_;refine qg (vs:=[_,_]) U zww (fun hg=>zm6 Y b7 (by have:=zBF (e:=(Xg (JD ws rows x u es rd) t (Yl ws rows x u es rd) z)) (og:=(fun s f=>zcT (onF t) rows es rd (Zi t z) s f)) (s:=(Jl (onF t) (Yl ws rows x u es rd) (Zi t z)));omega)) ?_;refine QC U U U U U ?_;refine zM ?_;refine Qw 13 U U U ?_;refine zK (Qd U) ?_;refine zK (Qd U) ?_;refine zK (Qx U U U) ?_;refine QC U U U U U ?_;refine zA<|zN<|Qq ?_
 first
 | exact zp y U U (by rw [zH6 rfl,ziT,zIs zah,jN rfl];simp)
end
end Go.Proofs.YtodakphagkommaaGreatDoor.R
namespace Go.Kn
section
open Go Go.ChangeShapes Go.WideShapes Go.ChangeAt Go.RowKit
def KJ (W:World):Qu:=fun b=>W.heap[b]?
theorem St.start (W:World):St W (KJ W) (fun _=>none) [] W:=
 ⟨U,U,U,⟨jn _,jn _⟩,fun _ _ h=>h,(fun _ _ h=>by cases h),(fun _ _ h=>by cases h),fun _=>.inr U,(fun _ _ h=>by cases h),by simp⟩
variable{W w:World}{E:Loc}
theorem St.below {H:Qu}(h:St W (KJ W) H E w):Below W.heap.size W w:=
 ⟨h.os,h.tape,h.out,h.size.1,fun k a=>by
  have e:W.heap[k]? =some W.heap[k]:=O2 a
  rw [h.imm k _ e,e]⟩
variable{P:Program}{f:FuncId}{v:Value}
theorem Zj.law {a:List Value}(h:Zj P f a (KJ W) v):Calls P f a.toArray W fun e g=>e= .returned v/\Below W.heap.size W g:=
 (h W _ W (St.start W)).mono fun _ _ ⟨b,d⟩=>⟨b,d.below⟩
variable{F:MemPlace->Prop}
theorem zeG (h:Below W.heap.size W w):W.keptBut w F:=by refine ⟨h.os,h.output,fun i a=>?_⟩;rw [h.block i a];rw [O2 a];cases W.heap[i]<;>simp
theorem Xq {H:Type}{l:TypeId×Value->H}{P:Program}{W n:World}(r:laidOutB P=true)(o:Below W.heap.size W n)(j:Nat->Bool):∀ (g:List TypeId) (i:List Value) (z:List (DataW H)) (b:List MemPlace),(∀ t∈g,P.readableRec t=true/\t<P.types.size)->
  DataW.TrodAll l P W 0 (fun _=>true) true g i z b->(∀ x∈b,x.block<W.heap.size/\j x.block=true)->DataW.TrodAll l P n 0 j true g i z b
 | [],[],[],b,_,h,_=>h
 | t::g,v::i,d::z,b,hr,⟨p,q,h1,h2,e⟩,hlt=>by
  subst e
  exact ⟨p,q,WideElems.Trod_stays r (hr t (jl ..)).1 (hr t (jl ..)).2 h1 (fun x a=>o.same (hlt x (OS _ a)).1) (fun x a=>(hlt x (OS _ a)).2),
   Xq r o j g i z q (fun t s=>hr t (jm _ s)) h2 (fun x a=>hlt x (O6 _ a)),U⟩
variable{H:Type}{s:ChangeSpec}{A:Bool}{args:Array Value}{before:List MemPlace}{G:TypeId}{l:TypeId×Value->H}{z:List (DataW H)}
theorem ztD {f:Func}{y:World}
  (hl:laidOutB P=true)(V:f.resultTypes= #[G])(Q:P.underlying G=some .bool)(Y:s.vars=[])(M:(s.fn H (z++[]))= {results:=[.lit (.bool true)],args:=z})(K:∀ t∈f.params.toList,P.readableRec t=true/\t<P.types.size)
  (J:DataW.Whole l P f.params.toList s.vars false W args.toList z [] before)(I:Below W.heap.size W y):s.post l P f false true false A W args (.bool true) y:=by
 have i:∀ x∈before,x.block<W.heap.size:=fun x d=>(by simpa using J.lt x d);have B:=J;obtain ⟨p,q,Z,O,rfl,C,_⟩:=J;rw [Y] at O;obtain ⟨_,rfl⟩:=trodVars_none O;rw [jw] at i C B
 have o:∀ (b:Nat) (g:Nat->Bool) (T:Bool),DataW.TrodAll l P y b g T f.resultTypes.toList ((Value.bool true).resultList f.resultTypes.size) [.lit (.bool true)] []:=fun b g T=>by
  rw [V];exact trodAll_mk1 (shut_bool Q true)
 have a:∀ g:Nat->Bool,(∀ x∈p,g x.block=true)->DataW.TrodAll l P y 0 g true f.params.toList args.toList z p:=fun g h=>Xq hl I g _ _ _ _ K Z (fun x d=>⟨i x d,h x d⟩);have n:∀ g:Nat->Bool,DataW.TrodVars l P y g s.vars [] []:=fun g=>(by rw [Y];rfl);refine ⟨z,[],p,[],p,[],B,?_,?_,?_,zeG I,fun _=>?_⟩
 ·rw [M];exact o _ _ _
 ·rw [M];exact a _ (fun x d=>by simpa using i x d)
 ·rw [M];exact n _
 ·refine ⟨fun j t r D u=>?_,[.lit (.bool true)]++z,[],[]++p,⟨[]++p,[],trodAll_append (a _ (fun _ _=>U)) (o _ _ _),n _,by simp,?_,fun h=>by cases h⟩,fun x d _=>by simpa using d⟩
  ·rw [V] at D u
   cases j with
   | zero=>simp [Value.resultList] at D u;subst D;subst u;exact okWide_bool_mk Q _
   | succ j=>simp at D
  ·intro b N d;rw [I.frozen (i _ (by simpa using d))];exact C b N (by simpa using d)
variable{u:Value}
theorem zgA {b o:Nat}(h:W.cell? ⟨b,o,none⟩=some u):QO (KJ W) [] b o u:=by
 unfold World.cell? at h;split at h
 ·rename_i c t a d;simp only [Option.isSome_none,jy,Oa] at h;exact ⟨c,t,a,.inl d,h⟩
 ·cases h
variable{t e:TypeId}{g:Nat}{cs:List Value}{I:DataW H×List MemPlace}{B:Type}
theorem UD {T:Nat}(d:B->List Value)(ok:B->Prop)
  (ht:P.underlying t=some (.slice e))(hc:P.cellsOf e=g)(Q:0<g)(O:∀ y,(d y).length=g)
  (a1:∀ fuel cs x,DataW.trod l P W 0 (fun _=>true) true fuel e cs=some x->∃ y,ok y/\d y=cs)
  (a2:DataW.trod l P W 0 (fun _=>true) true T t cs=some I):∃ av n c q,cs=[.slice av n c]/\Sl (KJ W) g d av n c q/\(∀ x∈q,ok x)/\c<=maxLen:=by
 rcases Go.Deep.open_slice ht a2 with ⟨e1,_⟩ | ⟨a,p,V,m,n,D,Pl,e1,hb,hl,hm,a3,_,r⟩
 ·subst e1;exact ⟨none,0,0,[],U,.nil,(fun x r=>by cases r),jd _⟩
 ·subst e1;have a7:p<=m:=by rw [a3];simp;exact hl
  have each:∀ i,i<p->∃ y,ok y/\W.cells? 0 (a.add (i*g)) g=some (d y):=fun i Z=>by
   obtain ⟨a6,h1,h2⟩:=r i kB;obtain ⟨y,hy,e⟩:=a1 _ _ _ h2;rw [hc] at h1;exact ⟨y,hy,by rw [h1,e]⟩
  have all:∀ k,k<=p->∃ q:List B,q.length=k/\∀ i x,q[i]? =some x->ok x/\W.cells? 0 (a.add (i*g)) g=some (d x):=by
   intro k
   induction k with
   | zero=>intro _;exact ⟨[],U,fun i x h=>by simp at h⟩
   | succ k ih=>
    intro hk;obtain ⟨q,M,J⟩:=ih kB;obtain ⟨y,hy,a0⟩:=each k kB;refine ⟨q++[y],by simp [M],fun i x h=>?_⟩;by_cases Z:i<q.length
    ·rw [O3 Z] at h;exact J i x h
    ·rw [Ov kB] at h;have:i=k:=by have:=(jc.1 h).1;simp at this;omega
     subst this;rw [M] at h;simp at h;subst h;exact ⟨hy,a0⟩
  obtain ⟨q,M,J⟩:=all p (jn _)
  have N:∀ (b o n:Nat),(⟨b,o,none⟩:Addr).add n=⟨b,o+n,none⟩:=fun b o n=>by
   unfold Addr.add;split
   ·rename_i e;subst e;rfl
   ·rfl
  have C:0<q.length->a.spot=none:=fun r=>by
   have a5:q[0]? =some q[0]:=jf r;have a4:0<(d q[0]).length:=(by rw [O];exact Q);obtain ⟨_,h1,h2⟩:=World.cells?_some (J 0 _ a5).2;have h3:=h2 0 Q;rw [jf a4] at h3;simpa [Addr.add] using World.cell?_spot h3
  have K:∀ i x,q[i]? =some x->∀ j u,(d x)[j]? =some u->W.cell? ⟨a.block,a.off+i*g+j,none⟩=some u:=fun i x r j u hu=>by
   obtain ⟨_,h1,h2⟩:=World.cells?_some (J i x r).2;have hj:j<g:=(by rw [<-O x];exact (jc.1 hu).1);have h3:=h2 j hj;rw [hu] at h3;have Y:=C (by have:=(jc.1 r).1;omega);obtain ⟨b,o,sp⟩:=a;simp only at Y;subst Y;rw [N,N] at h3;exact h3
  refine ⟨some a,p,V,q,U,⟨M,hl,fun hn=>?_,fun k x r j u hu=>?_⟩,fun x r=>?_,hm⟩
  ·have:=C kB;obtain ⟨b,o,sp⟩:=a;simp only at this;subst this;rfl
  ·exact zgA (K k x r j u hu)
  ·obtain ⟨i,Z⟩:=jU r;exact (J i x Z).1
variable{C:Nat}{d:DataW H}{p:List MemPlace}
theorem zd6 (a:B->List Value)(ok:B->Prop)
  (J:P.underlying t=some (.slice e))(M:P.cellsOf e=g)(j:0<g)(i:∀ y,(a y).length=g)
  (D:∀ fuel cs x,DataW.trod l P W 0 (fun _=>true) true fuel e cs=some x->∃ y,ok y/\a y=cs)
  (O:Value.okWide P W .any C t v)(h:DataW.Trod l P W 0 (fun _=>true) true t v d p):∃ r n c q,v= .slice r n c/\Sl (KJ W) g a r n c q/\(∀ x∈q,ok x)/\c<=maxLen:=by
 obtain ⟨K,o,b,rfl⟩:=okWide_slice J O;obtain ⟨fuel,N⟩:=h;obtain ⟨r,n,c,q,e,h1,h2,h3⟩:=UD a ok J M j i D (cs:=[.slice K o b]) (by simpa [Value.cells] using N);cases e;exact ⟨_,_,_,q,U,h1,h2,h3⟩
variable{k:IntKind}
theorem zgk (a:P.underlying e=some (.int k))(b:k= .i64)(fuel:Nat)(cs:List Value)(x:DataW H×List MemPlace)(h:DataW.trod l P W 0 (fun _=>true) true fuel e cs=some x):
  ∃ y:Int,(-9223372036854775808<=y/\y<=9223372036854775807)/\[Value.int .i64 y]=cs:=by
 subst b
 obtain ⟨v,i⟩:∃ v,cs=[v]:=by
  have:=h
  cases fuel with
  | zero=>simp [DataW.trod] at this
  | succ m=>unfold DataW.trod at this;rw [a] at this;split at this<;>simp_all
 subst i;obtain ⟨n,e,_,w⟩:=jK a h;cases e;simp only [Lit.wf,ji,jG] at w;exact ⟨n,w,U⟩
end
section
open Go
theorem Jn {H:Type}{l:TypeId×Value->H}{P:Program}{W:World}{b:Nat}{a:Nat->Bool}{d:Bool}{t C:Nat}{u:Array Field}{fuel:Nat}{q:List Value}{x:DataW H×List MemPlace}(E:P.underlying t=some (.struct u))
  (w:P.cellsOf t=C)(h:DataW.trod l P W b a d fuel t q=some x):
  q.length=C/\∃ n,∀ (i p j k:Nat),((u[i]?).map fun f=>(f.type,f.offset))=some (p,j)->P.cellsOf p=k->∃ y,DataW.trod l P W b a d n p ((q.drop j).take k)=some y:=by
 obtain ⟨F,n,_,_,D,s,z⟩:=DataW.trod_struct E h;refine ⟨D.trans w,n,fun i p j k A B=>?_⟩;obtain ⟨f,o,e⟩:=Ot.1 A;cases e;have g:=z i f o;have r:i<F.length:=(by rw [s];exact (O0.1 o).1);rw [B,jf r] at g;exact ⟨_,g⟩
end
end Go.Kn
namespace Go.Proofs.YtodakphagkommaaGreatDoor
section
open Go Go.Kn Go.Proofs
open Go.ChangeShapes Go.WideShapes Go.ChangeAt Go.RowKit
set_option maxRecDepth 100000
theorem ZL:Tryz.prog.underlying 3=some (.int .i64):=kA
theorem zuu:Tryz.prog.underlying 4=some .bool:=kA
theorem zFP:Tryz.prog.underlying 5=some (.int .u8):=kA
variable{H:Type}{W:World}{f:Nat}{v:Value}{p:List MemPlace}{g:TypeId×Value->H}{d:DataW H}
theorem zmq (o:Value.okWide Tryz.prog W .any f 23 v)(h:DataW.Trod g Tryz.prog W 0 (fun _=>true) true 23 v d p):
  ∃ a n c b,v= .slice a n c/\Sl (KJ W) 1 QF a n c b/\n<=9223372036854775807:=by
 obtain ⟨a,n,c,b,e,i,_,l⟩:=zd6 (e:=3) QF (fun _=>True) kA kA kC QL (fun fuel j x h=>by
  obtain ⟨y,_,e⟩:=zgk ZL U fuel j x h
  exact ⟨y,trivial,e⟩) o h
 exact ⟨a,n,c,b,e,i,by have:=i.cap;simp only [maxLen] at l;omega⟩
theorem zCO {I:Qu}:∀ (j:List Hd),(∀ h∈j,∃ v,Sl I 1 QF h.a h.n h.c v)->∃ i,WM I j i
 | [],_=>⟨[],WM.nil⟩
 | x::j,H=>by
  obtain ⟨i,o,q⟩:=zCO j fun h l=>H h (jm _ l);obtain ⟨r,h0⟩:=H x (jl ..);refine ⟨r::i,by simp [o],fun k h v a b=>?_⟩
  cases k with
  | zero=>cases a;cases b;exact h0
  | succ k=>exact q k h v a b
theorem zmW (z:Value.okWide Tryz.prog W .any f 22 v)(h:DataW.Trod g Tryz.prog W 0 (fun _=>true) true 22 v d p):
  ∃ i n c b,v= .slice i n c/\SlN (KJ W) i n c b/\n<=9223372036854775807:=by
 obtain ⟨i,n,c,r,e,o,j,u⟩:=zd6 (e:=23) Kv (fun h=>∃ v,Sl (KJ W) 1 QF h.a h.n h.c v) kA kA kC VH (fun fuel l x h=>by
  obtain ⟨a,m,q,A,e,s,_⟩:=UD (t:=23) (e:=3) QF (fun _=>True) kA kA kC QL (fun fuel l x h=>by
   obtain ⟨y,_,e⟩:=zgk ZL U fuel l x h
   exact ⟨y,trivial,e⟩) h
  exact ⟨⟨a,m,q⟩,⟨A,s⟩,e.symm⟩) z h
 obtain ⟨b,w⟩:=zCO r j;exact ⟨i,n,c,b,e,⟨r,o,w⟩,by have:=o.cap;simp only [maxLen] at u;omega⟩
def zoT:List (String×DataW Unit):=[("math/bits.deBruijn32tab",Rows.laid_math_bits_deBruijn32tab),("math/bits.deBruijn64tab",Rows.laid_math_bits_deBruijn64tab)]
theorem zJu:Tryz.prog.globalNamed "math/bits.deBruijn64tab" =some 1:=kA
theorem zJh:(Tryz.prog.globals[1]?).map (·.type)=some 290:=kA
theorem zFT:(Rows.laid_math_bits_deBruijn64tab:DataW Unit)=Lib.tabData .u8 zz9:=by rfl
theorem zFR (h:laidMetH Tryz.prog zoT W):JZ (KJ W):=by rw [MakeChecks.laidMetH_plain _ _ _ kA] at h;obtain ⟨E,⟨g0,I,r,A,C,F,t,x,y,s,⟨g1,J,j,B,D,G,b,o,q,a,_,_⟩,_⟩,_,_⟩:=h;obtain rfl:=Ob (zJu.symm.trans b);obtain rfl:=Ob (zJh.symm.trans o);rw [zFT] at a;have l:=Lib.cells_of_tab (n:=64) (e:=5) kA zFP kA kA a;intro i u;refine zgA ?_;have:=World.var?_cell b q i;rw [this];have w:i<zz9.length:=u;have e:j=(zz9.map fun z=>Value.int .u8 z).toArray:=Bs l;rw [e];simp [List.getD,w]
theorem zre (b:Os)(a:Array Value):laidMetH Tryz.prog zoT ((World.doorLaid Tryz.prog 400 b).forCall (fun _ _=>0) ⟨#[],a,[]⟩).memory:=
 laidMetH_of_parts3 (fuel:=8) (laidMet_of_run' 8 kA kA) kA kA
end
section
open Go Go.Kn Go.Proofs
open Go.ChangeShapes Go.WideShapes Go.ChangeAt Go.RowKit
set_option maxRecDepth 100000
theorem zwH:Tryz.prog.underlying 67=some (.struct (Tryz.prog.fieldsOf 67)):=kA
theorem zyb:Tryz.prog.underlying 24=some (.slice 67):=kA
theorem zhD:Tryz.prog.underlying 54=some (.struct (Tryz.prog.fieldsOf 54)):=kA
theorem zcp:Tryz.prog.underlying 52=some (.struct (Tryz.prog.fieldsOf 52)):=kA
theorem zy4:Tryz.prog.underlying 60=some (.struct (Tryz.prog.fieldsOf 60)):=kA
theorem zz6:Tryz.prog.underlying 63=some (.slice 60):=kA
theorem zyi:Tryz.prog.underlying 65=some (.struct (Tryz.prog.fieldsOf 65)):=kA
theorem zBz:Tryz.prog.underlying 35=some (.slice 65):=kA
theorem zef:Tryz.prog.underlying 23=some (.slice 3):=kA
theorem zoD:Tryz.prog.underlying 26=some (.struct (Tryz.prog.fieldsOf 26)):=kA
variable{H:Type}{W:World}{f:TypeId×Value->H}
theorem zIy (fuel:Nat)(i:List Value)(x:DataW H×List MemPlace)(h:DataW.trod f Tryz.prog W 0 (fun _=>true) true fuel 67 i=some x):∃ y:Em,(fun _=>True) y/\Yv y=i:=by
 obtain ⟨p,a,j⟩:=Jn (C:=3) zwH kA h
 match i,p with
 | [c0,c1,c2],_=>
  obtain ⟨_,b⟩:=j 0 3 0 1 kA kA;obtain ⟨q,l,_,t⟩:=jK ZL (show DataW.trod f Tryz.prog W 0 (fun _=>true) true a 3 [c0]=some _ from b);obtain ⟨_,d⟩:=j 1 3 1 1 kA kA;obtain ⟨r,n,_,u⟩:=jK ZL (show DataW.trod f Tryz.prog W 0 (fun _=>true) true a 3 [c1]=some _ from d);obtain ⟨_,g⟩:=j 2 3 2 1 kA kA;obtain ⟨s,o,_,w⟩:=jK ZL (show DataW.trod f Tryz.prog W 0 (fun _=>true) true a 3 [c2]=some _ from g);cases l;cases n;cases o;exact ⟨⟨q,r,s⟩,trivial,U⟩
theorem zHL (fuel:Nat)(I:List Value)(x:DataW H×List MemPlace)(h:DataW.trod f Tryz.prog W 0 (fun _=>true) true fuel 60 I=some x):∃ y:Rd,(fun _=>True) y/\Kf y=I:=by
 obtain ⟨hl,E,Z⟩:=Jn (C:=15) zy4 kA h
 match I,hl with
 | [c0,c1,c2,c3,c4,c5,c6,c7,c8,c9,c10,c11,c12,c13,c14],_=>
  obtain ⟨_,i⟩:=Z 0 4 0 1 kA kA;obtain ⟨n0,e0,_⟩:=DataW.trod_bool zuu (show DataW.trod f Tryz.prog W 0 (fun _=>true) true E 4 [c0]=some _ from i);obtain ⟨_,j⟩:=Z 1 54 1 14 kA kA;obtain ⟨_,a,b⟩:=Jn (C:=14) zhD kA (show DataW.trod f Tryz.prog W 0 (fun _=>true) true E 54 [c1,c2,c3,c4,c5,c6,c7,c8,c9,c10,c11,c12,c13,c14]=some _ from j);obtain ⟨_,l⟩:=b 0 3 0 1 kA kA;obtain ⟨n1,e1,_,w1⟩:=jK ZL (show DataW.trod f Tryz.prog W 0 (fun _=>true) true a 3 [c1]=some _ from l);obtain ⟨_,n⟩:=b 1 3 1 1 kA kA;obtain ⟨n2,e2,_,w2⟩:=jK ZL (show DataW.trod f Tryz.prog W 0 (fun _=>true) true a 3 [c2]=some _ from n);obtain ⟨_,o⟩:=b 2 3 2 1 kA kA;obtain ⟨n3,e3,_,w3⟩:=jK ZL (show DataW.trod f Tryz.prog W 0 (fun _=>true) true a 3 [c3]=some _ from o);obtain ⟨_,p⟩:=b 3 3 3 1 kA kA;obtain ⟨n4,e4,_,w4⟩:=jK ZL (show DataW.trod f Tryz.prog W 0 (fun _=>true) true a 3 [c4]=some _ from p);obtain ⟨_,q⟩:=b 4 3 4 1 kA kA;obtain ⟨n5,e5,_,w5⟩:=jK ZL (show DataW.trod f Tryz.prog W 0 (fun _=>true) true a 3 [c5]=some _ from q);obtain ⟨_,r⟩:=b 5 3 5 1 kA kA;obtain ⟨n6,e6,_,w6⟩:=jK ZL (show DataW.trod f Tryz.prog W 0 (fun _=>true) true a 3 [c6]=some _ from r);obtain ⟨_,s⟩:=b 6 3 6 1 kA kA;obtain ⟨n7,e7,_,w7⟩:=jK ZL (show DataW.trod f Tryz.prog W 0 (fun _=>true) true a 3 [c7]=some _ from s);obtain ⟨_,t⟩:=b 7 3 7 1 kA kA;obtain ⟨n8,e8,_,w8⟩:=jK ZL (show DataW.trod f Tryz.prog W 0 (fun _=>true) true a 3 [c8]=some _ from t);obtain ⟨_,u⟩:=b 8 3 8 1 kA kA;obtain ⟨n9,e9,_,w9⟩:=jK ZL (show DataW.trod f Tryz.prog W 0 (fun _=>true) true a 3 [c9]=some _ from u);obtain ⟨_,w⟩:=b 9 3 9 1 kA kA;obtain ⟨P,J,_,a0⟩:=jK ZL (show DataW.trod f Tryz.prog W 0 (fun _=>true) true a 3 [c10]=some _ from w);obtain ⟨_,d⟩:=b 10 52 10 2 kA kA;obtain ⟨_,F,f2⟩:=Jn (C:=2) zcp kA (show DataW.trod f Tryz.prog W 0 (fun _=>true) true a 52 [c11,c12]=some _ from d);obtain ⟨_,z⟩:=f2 0 3 0 1 kA kA;obtain ⟨Q,K,_,a1⟩:=jK ZL (show DataW.trod f Tryz.prog W 0 (fun _=>true) true F 3 [c11]=some _ from z);obtain ⟨_,A⟩:=f2 1 3 1 1 kA kA;obtain ⟨T,M,_,a2⟩:=jK ZL (show DataW.trod f Tryz.prog W 0 (fun _=>true) true F 3 [c12]=some _ from A);obtain ⟨_,g⟩:=b 11 52 12 2 kA kA;obtain ⟨_,G,f3⟩:=Jn (C:=2) zcp kA (show DataW.trod f Tryz.prog W 0 (fun _=>true) true a 52 [c13,c14]=some _ from g);obtain ⟨_,B⟩:=f3 0 3 0 1 kA kA;obtain ⟨V,N,_,a3⟩:=jK ZL (show DataW.trod f Tryz.prog W 0 (fun _=>true) true G 3 [c13]=some _ from B);obtain ⟨_,D⟩:=f3 1 3 1 1 kA kA;obtain ⟨Y,O,_,a4⟩:=jK ZL (show DataW.trod f Tryz.prog W 0 (fun _=>true) true G 3 [c14]=some _ from D);cases e0;cases e1;cases e2;cases e3;cases e4;cases e5;cases e6;cases e7;cases e8;cases e9;cases J;cases K;cases M;cases N;cases O;exact ⟨⟨n0,⟨n1,n2,n3,n4,n5,n6,n7,n8,n9,P,Q,T,V,Y⟩⟩,trivial,U⟩
theorem zG2 (fuel:Nat)(d:List Value)(x:DataW H×List MemPlace)(h:DataW.trod f Tryz.prog W 0 (fun _=>true) true fuel 65 d=some x):∃ y:Wt,(fun w=>∃ D,Sl (KJ W) 15 Kf w.a w.n w.c D) y/\zlz y=d:=by
 obtain ⟨s,b,l⟩:=Jn (C:=3) zyi kA h
 match d,s with
 | [c0,c1,c2],_=>
  obtain ⟨_,g⟩:=l 0 3 0 1 kA kA;obtain ⟨u,p,_,F⟩:=jK ZL (show DataW.trod f Tryz.prog W 0 (fun _=>true) true b 3 [c0]=some _ from g);obtain ⟨_,i⟩:=l 1 3 1 1 kA kA;obtain ⟨z,q,_,G⟩:=jK ZL (show DataW.trod f Tryz.prog W 0 (fun _=>true) true b 3 [c1]=some _ from i);obtain ⟨_,j⟩:=l 2 63 2 1 kA kA;obtain ⟨o,m2,B,A,r,s2,E,_⟩:=UD (t:=63) (e:=60) Kf (fun _:Rd=>True) zz6 kA kC zck (fun fuel d x h=>zHL fuel d x h) (show DataW.trod f Tryz.prog W 0 (fun _=>true) true b 63 [c2]=some _ from j);cases p;cases q;cases r;exact ⟨⟨u,z,o,m2,B⟩,⟨A,s2⟩,U⟩
theorem zI8 {I:Qu}:∀ (d:List Wt),(∀ w∈d,∃ i,Sl I 15 Kf w.a w.n w.c i)->∃ g:List Wr,d.length=g.length/\∀ (k:Nat) (w:Wt) (x:Wr),d[k]? =some w->g[k]? =some x->w.no=x.no/\w.yr=x.yr/\Sl I 15 Kf w.a w.n w.c x.rs
 | [],_=>⟨[],U,fun k w x h=>by simp at h⟩
 | y::d,H=>by
  obtain ⟨g,j,l⟩:=zI8 d fun w o=>H w (jm _ o);obtain ⟨i,h0⟩:=H y (jl ..);refine ⟨⟨y.no,y.yr,i⟩::g,by simp [j],fun k w x a b=>?_⟩
  cases k with
  | zero=>cases a;cases b;exact ⟨U,U,h0⟩
  | succ k=>exact l k w x a b
structure EdS where
 no:Int
 a1:Option Addr
 n1:Nat
 c1:Nat
 a2:Option Addr
 n2:Nat
 c2:Nat
 a3:Option Addr
 n3:Nat
 c3:Nat
def zDo (e:EdS):List Value:=ZI e.no e.a1 e.n1 e.c1 e.a2 e.n2 e.c2 e.a3 e.n3 e.c3
def zEk (e:EdS):Value:=.agg (zDo e).toArray
theorem zG8 (fuel:Nat)(a:List Value)(x:DataW H×List MemPlace)(h:DataW.trod f Tryz.prog W 0 (fun _=>true) true fuel 26 a=some x):∃ y:EdS,(fun e=>(∃ M,Sl (KJ W) 1 QF e.a1 e.n1 e.c1 M)/\(∃ z,Sl (KJ W) 3 Yv e.a2 e.n2 e.c2 z)/\∃ K,Sl (KJ W) 1 QF e.a3 e.n3 e.c3 K) y/\zDo y=a:=by
 obtain ⟨A,b,l⟩:=Jn (C:=4) zoD kA h
 match a,A with
 | [c0,c1,c2,c3],_=>
  obtain ⟨_,d⟩:=l 0 3 0 1 kA kA;obtain ⟨B,r,_,Q⟩:=jK ZL (show DataW.trod f Tryz.prog W 0 (fun _=>true) true b 3 [c0]=some _ from d);obtain ⟨_,g⟩:=l 1 23 1 1 kA kA;obtain ⟨o,m1,G,D,s,s1,N,_⟩:=UD (t:=23) (e:=3) QF (fun n:Int=> -9223372036854775808<=n/\n<=9223372036854775807) zef kA kC QL (fun fuel a x h=>zgk ZL U fuel a x h) (show DataW.trod f Tryz.prog W 0 (fun _=>true) true b 23 [c1]=some _ from g);obtain ⟨_,i⟩:=l 2 24 2 1 kA kA;obtain ⟨p,m2,I,E,u,s2,O,_⟩:=UD (t:=24) (e:=67) Yv (fun _:Em=>True) zyb kA kC zcP (fun fuel a x h=>zIy fuel a x h) (show DataW.trod f Tryz.prog W 0 (fun _=>true) true b 24 [c2]=some _ from i);obtain ⟨_,j⟩:=l 3 23 3 1 kA kA;obtain ⟨q,m3,J,F,w,s3,P,_⟩:=UD (t:=23) (e:=3) QF (fun n:Int=> -9223372036854775808<=n/\n<=9223372036854775807) zef kA kC QL (fun fuel a x h=>zgk ZL U fuel a x h) (show DataW.trod f Tryz.prog W 0 (fun _=>true) true b 23 [c3]=some _ from j);cases r;cases s;cases u;cases w;exact ⟨⟨B,o,m1,G,p,m2,I,q,m3,J⟩,⟨⟨D,s1⟩,⟨E,s2⟩,⟨F,s3⟩⟩,U⟩
variable{g:Nat}{v:Value}{d:DataW H}{p:List MemPlace}
theorem zxG (j:Value.okWide Tryz.prog W .any g 26 v)(h:DataW.Trod f Tryz.prog W 0 (fun _=>true) true 26 v d p):∃ y:EdS,v=zEk y/\(fun e=>(∃ q,Sl (KJ W) 1 QF e.a1 e.n1 e.c1 q)/\(∃ b,Sl (KJ W) 3 Yv e.a2 e.n2 e.c2 b)/\∃ o,Sl (KJ W) 1 QF e.a3 e.n3 e.c3 o) y:=by obtain ⟨a,rfl,_⟩:=okWide_struct zoD j;obtain ⟨fuel,i⟩:=h;obtain ⟨l⟩:=a;obtain ⟨y,n,e⟩:=zG8 fuel l _ i;exact ⟨y,by rw [<-e];rfl,n⟩
set_option maxRecDepth 100000 in
theorem zBi        (t:Value.okWide Tryz.prog W .any g 35 v) (h:DataW.Trod f Tryz.prog W 0 (fun _=>true) true 35 v d p):
  ∃ b n c j,v= .slice b n c/\SlW (KJ W) b n c j/\n<=9223372036854775807:=by
 obtain ⟨b,n,c,o,e,l,i,s⟩:=zd6 (e:=65) zlz (fun w=>∃ y,Sl (KJ W) 15 Kf w.a w.n w.c y) zBz kA kC zjK (fun fuel q x h=>zG2 fuel q x h) t h;obtain ⟨j,r,u⟩:=zI8 o i;exact ⟨b,n,c,j,e,⟨o,l,r,u⟩,jO l.cap s⟩
end
end Go.Proofs.YtodakphagkommaaGreatDoor
namespace Go.Proofs.YtodakphagkommaaGreatDoor.R
section
open Go Go.Kn Go.Proofs
open Go.ChangeShapes Go.WideShapes Go.ChangeAt Go.RowKit
set_option maxRecDepth 100000
theorem zhD:Tryz.prog.underlying 54=some (.struct (Tryz.prog.fieldsOf 54)):=kA
theorem zcp:Tryz.prog.underlying 52=some (.struct (Tryz.prog.fieldsOf 52)):=kA
theorem zef:Tryz.prog.underlying 23=some (.slice 3):=kA
theorem zw3:Tryz.prog.underlying 57=some (.struct (Tryz.prog.fieldsOf 57)):=kA
theorem zxQ:Tryz.prog.underlying 36=some (.slice 57):=kA
variable{H:Type}{W:World}{a:TypeId×Value->H}
theorem zIA (fuel:Nat)(l:List Value)(x:DataW H×List MemPlace)(h:DataW.trod a Tryz.prog W 0 (fun _=>true) true fuel 57 l=some x):∃ y:Pt,(fun p=>Nd (KJ W) p) y/\Y5 y=l:=by
 obtain ⟨hl,d,j⟩:=Jn (C:=19) zw3 kA h
 match l,hl with
 | [c0,c1,c2,c3,c4,c5,c6,c7,c8,c9,c10,c11,c12,c13,c14,c15,c16,c17,c18],_=>
  obtain ⟨_,o⟩:=j 0 3 0 1 kA kA;obtain ⟨n0,e0,_,w0⟩:=jK ZL (show DataW.trod a Tryz.prog W 0 (fun _=>true) true d 3 [c0]=some _ from o);obtain ⟨_,q⟩:=j 1 3 1 1 kA kA;obtain ⟨n1,e1,_,w1⟩:=jK ZL (show DataW.trod a Tryz.prog W 0 (fun _=>true) true d 3 [c1]=some _ from q);obtain ⟨_,r⟩:=j 2 3 2 1 kA kA;obtain ⟨n2,e2,_,w2⟩:=jK ZL (show DataW.trod a Tryz.prog W 0 (fun _=>true) true d 3 [c2]=some _ from r);obtain ⟨_,s⟩:=j 3 3 3 1 kA kA;obtain ⟨n3,e3,_,w3⟩:=jK ZL (show DataW.trod a Tryz.prog W 0 (fun _=>true) true d 3 [c3]=some _ from s);obtain ⟨_,u⟩:=j 4 54 4 14 kA kA;obtain ⟨_,b,f⟩:=Jn (C:=14) zhD kA (show DataW.trod a Tryz.prog W 0 (fun _=>true) true d 54 [c4,c5,c6,c7,c8,c9,c10,c11,c12,c13,c14,c15,c16,c17]=some _ from u);obtain ⟨_,z⟩:=f 0 3 0 1 kA kA;obtain ⟨n4,e4,_,w4⟩:=jK ZL (show DataW.trod a Tryz.prog W 0 (fun _=>true) true b 3 [c4]=some _ from z);obtain ⟨_,A⟩:=f 1 3 1 1 kA kA;obtain ⟨n5,e5,_,w5⟩:=jK ZL (show DataW.trod a Tryz.prog W 0 (fun _=>true) true b 3 [c5]=some _ from A);obtain ⟨_,B⟩:=f 2 3 2 1 kA kA;obtain ⟨n6,e6,_,w6⟩:=jK ZL (show DataW.trod a Tryz.prog W 0 (fun _=>true) true b 3 [c6]=some _ from B);obtain ⟨_,D⟩:=f 3 3 3 1 kA kA;obtain ⟨n7,e7,_,w7⟩:=jK ZL (show DataW.trod a Tryz.prog W 0 (fun _=>true) true b 3 [c7]=some _ from D);obtain ⟨_,E⟩:=f 4 3 4 1 kA kA;obtain ⟨n8,e8,_,w8⟩:=jK ZL (show DataW.trod a Tryz.prog W 0 (fun _=>true) true b 3 [c8]=some _ from E);obtain ⟨_,F⟩:=f 5 3 5 1 kA kA;obtain ⟨n9,e9,_,w9⟩:=jK ZL (show DataW.trod a Tryz.prog W 0 (fun _=>true) true b 3 [c9]=some _ from F);obtain ⟨_,G⟩:=f 6 3 6 1 kA kA;obtain ⟨a8,Y,_,d0⟩:=jK ZL (show DataW.trod a Tryz.prog W 0 (fun _=>true) true b 3 [c10]=some _ from G);obtain ⟨_,I⟩:=f 7 3 7 1 kA kA;obtain ⟨a9,Z,_,d1⟩:=jK ZL (show DataW.trod a Tryz.prog W 0 (fun _=>true) true b 3 [c11]=some _ from I);obtain ⟨_,J⟩:=f 8 3 8 1 kA kA;obtain ⟨b0,a0,_,d2⟩:=jK ZL (show DataW.trod a Tryz.prog W 0 (fun _=>true) true b 3 [c12]=some _ from J);obtain ⟨_,K⟩:=f 9 3 9 1 kA kA;obtain ⟨b1,a1,_,d3⟩:=jK ZL (show DataW.trod a Tryz.prog W 0 (fun _=>true) true b 3 [c13]=some _ from K);obtain ⟨_,g⟩:=f 10 52 10 2 kA kA;obtain ⟨_,Q,f2⟩:=Jn (C:=2) zcp kA (show DataW.trod a Tryz.prog W 0 (fun _=>true) true b 52 [c14,c15]=some _ from g);obtain ⟨_,M⟩:=f2 0 3 0 1 kA kA;obtain ⟨b2,a2,_,d4⟩:=jK ZL (show DataW.trod a Tryz.prog W 0 (fun _=>true) true Q 3 [c14]=some _ from M);obtain ⟨_,N⟩:=f2 1 3 1 1 kA kA;obtain ⟨b3,a3,_,d5⟩:=jK ZL (show DataW.trod a Tryz.prog W 0 (fun _=>true) true Q 3 [c15]=some _ from N);obtain ⟨_,i⟩:=f 11 52 12 2 kA kA;obtain ⟨_,T,f3⟩:=Jn (C:=2) zcp kA (show DataW.trod a Tryz.prog W 0 (fun _=>true) true b 52 [c16,c17]=some _ from i);obtain ⟨_,O⟩:=f3 0 3 0 1 kA kA;obtain ⟨b4,a4,_,d6⟩:=jK ZL (show DataW.trod a Tryz.prog W 0 (fun _=>true) true T 3 [c16]=some _ from O);obtain ⟨_,P⟩:=f3 1 3 1 1 kA kA;obtain ⟨b5,a5,_,d7⟩:=jK ZL (show DataW.trod a Tryz.prog W 0 (fun _=>true) true T 3 [c17]=some _ from P);obtain ⟨_,w⟩:=j 5 23 18 1 kA kA;obtain ⟨V,a7,b7,b6,a6,b8,b9,_⟩:=UD (t:=23) (e:=3) QF (fun n:Int=> -9223372036854775808<=n/\n<=9223372036854775807) zef kA kC QL (fun fuel l x h=>zgk ZL U fuel l x h) (show DataW.trod a Tryz.prog W 0 (fun _=>true) true d 23 [c18]=some _ from w);cases e0;cases e1;cases e2;cases e3;cases e4;cases e5;cases e6;cases e7;cases e8;cases e9;cases Y;cases Z;cases a0;cases a1;cases a2;cases a3;cases a4;cases a5;cases a6;exact ⟨⟨n0,n1,n2,n3,⟨n4,n5,n6,n7,n8,n9,a8,a9,b0,b1,b2,b3,b4,b5⟩,V,a7,b7,b6⟩,b8,U⟩
variable{b:Nat}{v:Value}{d:DataW H}{p:List MemPlace}
theorem open_ps (o:Value.okWide Tryz.prog W .any b 36 v)(h:DataW.Trod a Tryz.prog W 0 (fun _=>true) true 36 v d p):
  ∃ f n c i,v= .slice f n c/\SlP (KJ W) f n c i:=by
 obtain ⟨f,n,c,i,e,l,g,_⟩:=zd6 (e:=57) Y5 (fun p=>Nd (KJ W) p) zxQ kA kC Yj (fun fuel j x h=>zIA fuel j x h) o h;exact ⟨f,n,c,i,e,⟨l,g⟩⟩
end
end Go.Proofs.YtodakphagkommaaGreatDoor.R
namespace Go.Proofs.YtodakphagkommaaGreatDoor
section
open Go Go.Kn Go.Proofs
open Go.ChangeShapes Go.WideShapes Go.ChangeAt Go.RowKit
theorem own:ownKnob Tryz.prog.godebug=none:=kA
theorem zAi:laidOutB Tryz.prog=true:=kA
set_option maxRecDepth 100000 in
theorem KL (l:Os) (g:l.Started) (H:Type) (f:TypeId×Value->H):
  ReturnsInHanded {} Tryz.checked l 4 .any (fun w b=>(Rows.apparatusOriginSpecSpec.pre f Tryz.prog Tryz.f4 [] false w b/\laidMetH Tryz.prog zoT w)/\sizedMet f Tryz.prog Tryz.f4 (OpenSpec.ofChange Rows.apparatusOriginSpecSpec) false w b)
   (Rows.apparatusOriginSpecSpec.post f Tryz.prog Tryz.f4 false true false false):=by
 refine returnsInHanded_of_change_and (C:=Tryz.checked) (X:=fun w _=>laidMetH Tryz.prog zoT w) (fun _ _ _ hh h=>h.of_heap hh) own g kA Tryz.func4
  (ChangeSpec.witness_shaped (enc:=f) (C:=Tryz.checked) (os:=l) (X:=fun w _=>laidMetH Tryz.prog zoT w) false (World.doorLaid Tryz.prog 400 l) #[.slice none 0 0,.slice none 0 0,.agg #[.int .i64 0,.slice none 0 0,.slice none 0 0,.slice none 0 0],.slice none 0 0,.slice none 0 0,.int .i64 0,.int .i64 0] 8 U (World.shaped_of_RefB kA kA) kA kA kA (zre l _)) ?_
 intro W n b T gs before i F _ _ hL _;have a:∀ (j:Nat) t v,Tryz.f4.params[j]? =some t->b[j]? =some v->Value.okWide Tryz.prog W .any n t v:=i;have z:=F;obtain ⟨p,q,s,x,rfl,a6,a7⟩:=F;have d:DataW.TrodAll f Tryz.prog W 0 (fun _=>true) true Tryz.f4.params.toList b.toList T p:=s;rw [Tryz.params4] at d a;obtain ⟨G,a8,d0,V,p0,q1,ea,rfl,rfl,h0,d⟩:=trodAll_cons d;obtain ⟨I,a9,d1,Y,p1,q2,rfl,rfl,rfl,h1,d⟩:=trodAll_cons d;obtain ⟨J,b0,d2,Z,p2,q3,rfl,rfl,rfl,h2,d⟩:=trodAll_cons d;obtain ⟨K,b1,d3,a0,p3,q4,rfl,rfl,rfl,h3,d⟩:=trodAll_cons d;obtain ⟨M,b2,d4,a1,p4,q5,rfl,rfl,rfl,h4,d⟩:=trodAll_cons d;obtain ⟨N,b3,d5,a2,p5,q6,rfl,rfl,rfl,h5,d⟩:=trodAll_cons d;obtain ⟨O,b4,d6,a3,p6,q7,rfl,rfl,rfl,h6,d⟩:=trodAll_cons d;obtain ⟨rfl,rfl,rfl⟩:=trodAll_nil d;have r:b= #[G,I,J,K,M,N,O]:=(by rw [<-BD (xs:=b),ea]);subst r;obtain ⟨rfl,rfl⟩:=trodVars_none x;have u:=zFR hL;obtain ⟨wv,nw,cw,ws,rfl,A,o⟩:=zBi (a 0 35 G U U) h0;obtain ⟨bv,n2,c2,rows,rfl,x,a4⟩:=zmW (a 1 22 I U U) h1;obtain ⟨ed,rfl,⟨xs,B⟩,⟨es,D⟩,⟨rd,E⟩⟩:=zxG (a 2 26 J U U) h2;obtain ⟨pv,pn,pc,ps,rfl,hP⟩:=R.open_ps (a 3 36 K U U) h3;obtain ⟨dv,n3,c3,vs,rfl,y,a5⟩:=zmq (a 4 23 M U U) h4;obtain ⟨sg,rfl,_,_,Q⟩:=open_int ZL (a 5 3 N U U) h5;obtain ⟨fd,rfl,_,_,P⟩:=open_int ZL (a 6 3 O U U) h6;refine (Zj.law (R.w_lOrigin A o x B D E ed.no hP y u sg fd)).mono fun e W' ⟨he,hB⟩=>?_;subst he;exact ⟨_,U,ztD zAi kA zuu U U (by rw [Tryz.params4];simp only [jo,List.not_mem_nil,or_false,forall_eq_or_imp,forall_eq];exact ⟨⟨kA,Oq kA⟩,⟨kA,Oq kA⟩,⟨kA,Oq kA⟩,⟨kA,Oq kA⟩,⟨kA,Oq kA⟩,⟨kA,Oq kA⟩,⟨kA,Oq kA⟩⟩) z hB⟩
end
end Go.Proofs.YtodakphagkommaaGreatDoor
