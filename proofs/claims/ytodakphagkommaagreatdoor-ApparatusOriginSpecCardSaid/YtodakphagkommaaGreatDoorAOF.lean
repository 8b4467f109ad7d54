/- apparatusOriginSpec_holds, part F of the proof: what its theorems say holds without further conditions. -/
import Derived.Test.YtodakphagkommaaGreatDoorProg
import Derived.KernelRfl
import Derived.Lib.Hide
import Derived.Test.YtodakphagkommaaGreatDoorAOE
namespace Go.Proofs.YtodakphagkommaaGreatDoor
section
open Go Go.Kn Go.Proofs
def zqM (a b:List Int)(i:Nat):List Int:=Vk (b.length+1) (LC a b i)
def zay (a b:List Int)(i j:Nat):Nat->Int:=fun r=>if r<j then 0 else LC a b i r
variable{n:Nat}
theorem zeC {f g:Nat->Int}(h:∀ r,r<n->f r=g r):Vk n f=Vk n g:=by unfold Vk;exact OK fun r a=>h r (jq.1 a)
variable{a b:List Int}{i:Nat}
theorem zk9 :Vk (b.length+1) (fun _=>(0:Int))=Vk (b.length+1) (zay a b i (b.length+1)):=zeC fun r d=>by unfold zay;rw [jb d]
theorem zsI :Vk (b.length+1) (zay a b i 0)=zqM a b i:=zeC fun r _=>by unfold zay;rw [ja kB]
variable{k:Nat}{v:Int}
theorem zfI (h:v=LC a b i k):Vk (b.length+1) (Ky (zay a b i (k+1)) k v)=Vk (b.length+1) (zay a b i k):=zeC fun r _=>by
 unfold Ky zay;by_cases d:r=k
 ·subst d;rw [jb rfl,ja kB,h]
 ·rw [ja d];by_cases h2:r<k
  ·rw [jb kB,jb h2]
  ·rw [ja kB,ja h2]
theorem zpR :zay a b i (k+1) (k+1)=LC a b i (k+1):=by unfold zay;rw [ja kB]
def zg9 (I:Qu)(a b:List Int)(p:List Hd)(j:Nat):Prop:=∀ r,j<=r->r<=a.length->∃ h:Hd,p[r]? =some h/\h.n=b.length+1/\Sl I 1 QF h.a h.n h.c (zqM a b r)
variable{I:Qu}{p:List Hd}{j:Nat}
theorem zg9.mono {d:Qu}(h:zg9 I a b p j)(o:HLe I d):zg9 d a b p j:=fun r h1 h2=>by
 obtain ⟨x,f,g,l⟩:=h r h1 h2;exact ⟨x,f,g,l.mono o⟩
theorem zg9.start :zg9 I a b p (a.length+1):=fun r h1 h2=>kB
variable{h:Hd}
theorem zg9.put (l:zg9 I a b p (i+1)):zg9 I a b (p.set i h) (i+1):=fun r h1 h2=>by
 obtain ⟨x,d,f,g⟩:=l r h1 h2;exact ⟨x,by rw [BG kB];exact d,f,g⟩
theorem zg9.next (f:zg9 I a b p (i+1))(e:p[i]? =some h)(d:h.n=b.length+1)(g:Sl I 1 QF h.a h.n h.c (zqM a b i)):zg9 I a b p i:=fun r h1 h2=>by
 by_cases l:r=i
 ·subst l;exact ⟨h,e,d,g⟩
 ·exact f r kB h2
def ztY (a b:List Int):List (List Int):=(List.range (a.length+1)).map (zqM a b)
variable{s:Option Addr}{c:Nat}
theorem zg9.all (l:zg9 I a b p 0)(o:p.length=a.length+1)(g:Sl I 1 Kv s (a.length+1) c p):SlN I s (a.length+1) c (ztY a b):=by refine ⟨p,g,by rw [o];unfold ztY;simp,fun k h v h1 h2=>?_⟩;have r:=(jc.1 h1).1;obtain ⟨x,d,q,f⟩:=l k (jd _) kB;rw [h1] at d;cases d;unfold ztY at h2;rw [jB,OD kB] at h2;cases h2;exact f
theorem zF8 (h:i<=a.length):(ztY a b)[i]? =some (zqM a b i):=by unfold ztY;rw [jB,OD kB];rfl
theorem ziA:ke 221:=.of Tryz.func221 kA kA
theorem zvY:MkT Tryz.prog 22 23 24 (.slice none 0 0):=⟨kA,kA,U⟩
variable{o l:List Int}{u:Option Addr}{t z:Nat}
theorem zEr (V:Sl I 1 QF s n c o)(W:Sl I 1 QF u t z l)(hn:n<=1000)(b5:t<=1000):kg 220 [.slice s n c,.slice u t z] I [] (fun v O L=>L=[]/\∃ a c,v= .slice a (o.length+1) c/\SlN O a (o.length+1) c (ztY o l)):=by
 intro g H w hw;refine qe Tryz.func220 Tryz.ntmps220 hw ?_;have F:=zJH I;have a7:=V.len;subst a7;have a8:=W.len;subst a8;refine zR (zA<|zN (zR ?_));refine zM ?_;refine zQ Qt ?_;refine zB ?_;refine Q1 zvY U U kB kC U U (fun r=>zA (Qe ?_));have e0:((o.length:Nat):Int)+1=((o.length+1:Nat):Int):=rfl;rw [e0,show ((o.length+1:Nat):Int).toNat=o.length+1 from U,zdJ];refine Qa (Qk (zR (zM<|zQ Qt<|zA (zN (Ql ?_)))));refine zU [(0,_),(1,_),(5,_)] (fun T L0 mz E O A=>∃ (j:Nat) (q:Int) (p:List Hd),mz=(j+1)/\E=(6,.int .i64 q)::T/\HLe I O/\[(r,.cells (Vu p) 23 (0,0))]=A/\q=(j:Int)-1/\j<=o.length+1/\p.length=o.length+1/\zg9 O o l p j) ?_ (h:=⟨o.length+1,_,_,U,U,zJH _,U,kB,jn _,by rw [A5],zg9.start⟩);rintro mz E J1 A ⟨j,q,p,rfl,rfl,hJ,rfl,hq,hj,Q,hM⟩;have V:=V.mono hJ;have W:=W.mono hJ;have F:=F.trans hJ;have P:=hJ;refine Qk (zR (zM<|zC (zN ?_)));refine zI ?_ ?_<;>intro J
 ·obtain ⟨i,rfl⟩:∃ i,j=i+1:=⟨j-1,by have h:=J;simp at h;omega⟩;obtain rfl:q=(i:Int):=kB;refine Qm<|Qa<|Qk<|Ql<|zR<|zM ?_;refine zM ?_;refine zM ?_;refine zQ Qt ?_;refine zB ?_;refine Q1 Y7 U U kB kC U U (fun d=>zV (QD U U QM (fun hg=>kB))<|Zx U U Ze U U (by repeat (first | exact Upd.here | apply Upd.there | apply QN)) (zI7 kB)<|Qe ?_);have e1:((l.length:Nat):Int)+1=((l.length+1:Nat):Int):=rfl;rw [e1,show ((l.length+1:Nat):Int).toNat=l.length+1 from U,Q8,Zo,zdb];have B:(p.set i ⟨some ⟨d,0,none⟩,l.length+1,l.length+1⟩)[i]? =some ⟨some ⟨d,0,none⟩,l.length+1,l.length+1⟩:=(by rw [AE kB]);have G:zg9 J1 o l (p.set i ⟨some ⟨d,0,none⟩,l.length+1,l.length+1⟩) (i+1):=hM.put;refine Qa (Qk<|JB (loc':=[(d,.cells (Zl (Vk (l.length+1) (zay o l i (l.length+1)))) 3 (0,0)),(r,.cells (Vu (p.set i ⟨some ⟨d,0,none⟩,l.length+1,l.length+1⟩)) 23 (0,0))]) (by rw [zk9 (a:=o) (i:=i)];rfl)<|Qh (zM<|zQ Qt<|zA (zN (Ql ?_))));refine zU [(0,_),(1,_),(5,_),(6,_)] (fun T L0 mz E O A=>∃ (N:Nat) (q2:Int),mz=(N+1)/\E=(7,.int .i64 q2)::T/\J1=O/\[(d,.cells (Zl (Vk (l.length+1) (zay o l i N))) 3 (0,0)),(r,.cells (Vu (p.set i ⟨some ⟨d,0,none⟩,l.length+1,l.length+1⟩)) 23 (0,0))]=A/\q2=(N:Int)-1/\N<=l.length+1) ?_ (h:=⟨l.length+1,_,U,U,U,U,kB,jn _⟩);rintro mz E O A ⟨N,q2,rfl,rfl,rfl,rfl,b6,b0⟩;refine Qk (zR (zM<|zC (zN ?_)));refine zI ?_ ?_<;>intro K
  ·obtain ⟨k,rfl⟩:∃ k,N=k+1:=⟨N-1,by have h:=K;simp at h;omega⟩;obtain rfl:q2=(k:Int):=kB;refine Qm<|Qa<|Qk<|Ql<|Qk<|zR<|zM ?_;refine zM ?_;refine zQ Qt<|zC ?_
   refine zM ?_;refine QI 4 U U U ?_;refine zJ (Qd U)<|zJ (Qd U)<|zJ (Zs U Qt)<|zJ (Qx U U U) ?_
   refine Q5 U U U U U<|zN ?_
   refine zI ?_ ?_<;>intro M
   focus
    have a1:i=o.length\/k=l.length:=kd M;refine zR<|zM ?_;refine zM ?_;refine zV (QD U U QM (fun hg=>kB))<|zV (Qc U QA (fun hg=>by exact zJB (show QO _ _ r (i*1) (.slice (some ⟨d,0,none⟩) (l.length+1) (l.length+1)) from Wm B)))<|zM ?_
    refine zM ?_;refine zQ Qt ?_;refine zM ?_;refine zB<|zM ?_
    refine zQ Qt ?_;refine zB<|zM ?_
    refine zB ?_;refine zB<|zV (QD U U Qt (fun hg=>kB))<|Zx U U ZO U U (by repeat (first | exact Upd.here | apply Upd.there | apply QN)) (zqU kN)<|Qe ?_
    rw [Y0,JX,zfI (zi6 kB kB a1).symm];refine Qa<|Qy<|Qf<|Qj<|Qa<|Qh<|zM ?_
   rotate_left
   have a2:i<o.length/\k<l.length:=kd M;obtain ⟨x,hx⟩:=V.at a2.1;obtain ⟨y,hy⟩:=W.at a2.2;obtain ⟨h3,D,a9,C⟩:=G (i+1) (jn _) kB;have b1:=zlo o l (i+1) (k+1);have b2:=zlo o l (i+1) k;have b3:=zlo o l i (k+1);have b4:=zcD x y;have e3:zay o l i (k+1) (k+1)=LC o l i (k+1):=zpR;refine Qm<|Qa ?_;apply zIS
   ·intro key;have f:=zJH J1;refine VR<|ZM J1 [(r,.cells (Vu (p.set i ⟨some ⟨d,0,none⟩,l.length+1,l.length+1⟩)) 23 (0,0))] mixed<|zT 0 U (Qd U) f<|zT 1 U (Qd U) f<|zT 2 U (QD U U QM (fun hg=>kB)) f<|zT 3 U (Qc U QA (fun hg=>by exact (show QO _ _ r (i*1) (.slice (some ⟨d,0,none⟩) (l.length+1) (l.length+1)) from Wm B))) f<|zT 4 U (Qd U) f<|zT 5 U (Qd U) f<|zT 6 U (Qd U) f<|zT 7 U (zX Qt V) f<|zT 8 U (Qc U Qr (fun hg=>by exact zJA V hx U)) f<|zT 9 U (Qd U) f ?_
    refine zT 10 U (Qd U) f<|zT 11 U (zX Qt W) f<|zT 12 U (Qc U Qr (fun hg=>by exact zJA W hy U)) f<|zT 14 U (Qd U) f<|zT 15 U (Qd U) f<|zT 16 U (Zf U U U (fun hg=>kB)) f<|zT 17 U (QD U U QM (fun hg=>kB)) f<|zT 18 U (Qc U QA (fun hg=>by exact Wm (k:=i+1) D)) f<|zT 19 U (Qd U) f<|zT 20 U (Zf U U U (fun hg=>kB)) f<|zT 21 U (zX Qt C) f<|zT 22 U (Qc U Qr (fun hg=>by exact zJA (k:=k+1) C (YC (show k+1<_ by omega)) U)) f ?_
    refine zT 24 U (Qd U) f<|zT 25 U (Qd U) f<|zT 26 U (Zf U U U (fun hg=>kB)) f<|zT 27 U (QD U U QM (fun hg=>kB)) f<|zT 28 U (Qc U QA (fun hg=>by exact Wm (k:=i+1) D)) f<|zT 29 U (Qd U) f<|zT 30 U (zX Qt C) f<|zT 31 U (Qc U Qr (fun hg=>by exact zJA (k:=k) C (YC (show k<_ by omega)) U)) f<|zT 32 U (Zf U U U (fun hg=>kB)) f<|zT 33 U (Qd U) f<|zT 34 U (Qd U) f<|zT 35 U (QD U U QM (fun hg=>kB)) f ?_
    refine zT 36 U (Qc U QA (fun hg=>by exact (show QO _ _ r (i*1) (.slice (some ⟨d,0,none⟩) (l.length+1) (l.length+1)) from Wm B))) f<|zT 37 U (Qd U) f<|zT 38 U (Zf U U U (fun hg=>kB)) f<|zT 39 U (QD U U Qt (fun hg=>kB)) f ?_
    refine Zv 13 40 U U kA ?_ ?_
    focus
     refine YE (cap:=[]) (vs:=[.int .i64 x,.int .i64 y]) (v:=.int .i64 (zdB x y)) ?_ ?_ ziA ?_ ?_ ?_ ?_
     ·exact U
     ·exact U
     ·exact ze3 _ x y
     ·exact U
     ·exact U
     refine Qe<|zD f<|zT 23 U (Zf U U U (fun hg=>kB)) f<|qd 40 U<|zV (Qc U Qr (fun hg=>by exact Jw (k:=k+1) (YC (show k+1<_ by omega))))<|Qe<|zD f<|zT 41 U (Zf U U U (fun hg=>kB)) f ?_
    rotate_left
    refine zV (Qc U Qr (fun hg=>by exact Jw (k:=k+1) (YC (show k+1<_ by omega))))<|Qe<|zD f<|zT 41 U (Zf U U U (fun hg=>kB)) f<|qd 13 U ?_
    refine YE (cap:=[]) (vs:=[.int .i64 x,.int .i64 y]) (v:=.int .i64 (zdB x y)) ?_ ?_ ziA ?_ ?_ ?_ ?_
    ·exact U
    ·exact U
    ·exact ze3 _ x y
    ·exact U
    ·exact U
    refine Qe<|zD f<|zT 23 U (Zf U U U (fun hg=>kB)) f ?_
    all_goals
     refine zT 42 U (zix U U U) f<|zT 43 U (QD U U Qt (fun hg=>kB)) f<|qd 44 U<|Zx U U ZO U U (by repeat (first | exact Upd.here | apply Upd.there | apply QN)) (zqU kN)<|Qe<|zD f<|QH kA<|QP ?_
     first | exact key.out | exact Z8 key
   refine zfp (loc':=[(d,.cells (Zl (Vk (l.length+1) (zay o l i k))) 3 (0,0)),(r,.cells (Vu (p.set i ⟨some ⟨d,0,none⟩,l.length+1,l.length+1⟩)) 23 (0,0))]) (by rw [Y0,JX,zpR,zfI (zn9 hx hy).symm])<|Qg (Qa (Qh (zM ?_)))
   all_goals
    refine zB ?_;refine zA<|Qe ?_;exact zm (h:=⟨k+1,kB,k,_,U,U,U,U,kB,kB⟩)
  obtain rfl:N=0:=kd K;refine Qy (Qf (Qf (Qj (Qg (Qa<|JB (loc':=[(d,.cells (Zl (zqM o l i)) 3 (0,0)),(r,.cells (Vu (p.set i ⟨some ⟨d,0,none⟩,l.length+1,l.length+1⟩)) 23 (0,0))]) (by rw [zsI])<|Zk .here (fun I3 Y a5=>?_))))));have G:=G.mono Y;have P:=P.trans Y;have a0:Sl I3 1 QF (some ⟨d,0,none⟩) (l.length+1) (l.length+1) (zqM o l i):=Sl.lit _ Z1 QL a5;have a4:=G.next B U a0
  refine Qh<|zM ?_;refine zB<|zA (Qe ?_)
  exact zm (h:=⟨i+1,kB,i,_,(p.set i ⟨some ⟨d,0,none⟩,l.length+1,l.length+1⟩),U,U,P,U,kB,kB,by rw [AL];exact Q,a4⟩)
 obtain rfl:j=0:=kd J;refine Qy (Qf (Qf (Qj (Qa (Qk<|Zk .here (fun I4 Z a6=>?_))))));have hM:=hM.mono Z;have F:=F.trans Z;have a3:Sl I4 1 Kv (some ⟨r,0,none⟩) (o.length+1) (o.length+1) p:=Sl.lit _ Q VH a6;exact Qh (zM<|zA (zN (Qq<|Zc U U (fun w hw=>⟨_,_,[],U,F,hw.drop,U,_,_,U,hM.all Q a3⟩))))
def zHd:Hd:=⟨none,0,0⟩
def zF1 (a b:List Int)(r:Nat):List Int:=if r<=a.length then zqM a b r else []
theorem zpw (h:SlH I s (a.length+1) c p (ztY a b))(r:Nat):Sl I 1 QF (p.getD r zHd).a (p.getD r zHd).n (p.getD r zHd).c (zF1 a b r):=by
 have f:p.length=a.length+1:=(by rw [h.2.1];unfold ztY;simp);unfold zF1;split
 ·rename_i g;have e:=QE (d:=zHd) (k:=r) f kB;exact h.2.2 r _ _ e (zF8 g)
 ·have e:p.getD r zHd=zHd:=(by rw [Oz,Ol kB];rfl);rw [e];exact .nil
theorem zb5 {r:Nat}(d:r<=a.length)(f:k<=b.length):(zF1 a b r)[k]? =some (LC a b r k):=by unfold zF1 zqM;rw [jb d];exact YC kB
theorem zBW (h:SlH I s (a.length+1) c p (ztY a b))(r:Nat)(d:r<=a.length):(p.getD r zHd).n=b.length+1:=by have h1:=(zpw h r).len;unfold zF1 zqM at h1;rw [jb d,Z1] at h1;omega
theorem zl5 (a b:List Int)(i k:Nat):UT a b i k=((decide ((i:Int)<(a.length:Int))&&decide ((k:Int)<(b.length:Int)))&&(LC a b i k==zdB (a.getD i 0) (b.getD k 0)+LC a b (i+1) (k+1))):=by unfold UT;simp only [Int.ofNat_lt]
theorem zwy (a b:List Int)(i k:Nat):zfB a b i k=(decide ((i:Int)<(a.length:Int))&&(LC a b i k==2+LC a b (i+1) k)):=by unfold zfB;simp only [Int.ofNat_lt]
theorem zon:ke 219:=.of Tryz.func219 kA kA
theorem zBH:ke 220:=.of Tryz.func220 kA kA
theorem zCY (hS:Sl I 1 QF s n c o)(hT:Sl I 1 QF u t z l)(hn:n<=1000)(b9:t<=1000):kg 173 [.slice s n c,.slice u t z] I [] (zC7 o l):=by
 intro g H w hw;refine qe Tryz.func173 Tryz.ntmps173 hw ?_;have C:=zJH I;have b3:=hS.len;subst b3;have b5:=hT.len;subst b5;refine zR (zA<|zA<|zA (zN (Qk (zR ?_))));refine zM ?_;refine zQ Qt<|zC ?_
 refine zM ?_;refine QI 3 U U U ?_;refine zJ (Qd U)<|zJ (Zs U Qt)<|zJ (Qx U U U) ?_
 refine Q5 U U U U U<|zN ?_
 refine zI ?_ ?_<;>intro N
 ·have f:o.length>64\/l.length>64:=kd N;refine zR (zA<|zA<|zA (zN (Qq (Qb ?_))))
  first
  | exact Jo U U U U (fun w hw=>⟨_,_,[],U,C,hw.drop,U,_,none,0,by rw [zaH f,Kd (by rw [zaH f];decide)];rfl,by rw [Kd (by rw [zaH f];decide)];exact .nil⟩)
 have f:¬(o.length>64\/l.length>64):=kd N;refine Qm (Qa (Qk (zR (zM<|qcV (vs:=[_]) U zon (zCs hS kB)<|zO<|zM ?_))));refine QI 3 U U U ?_;refine zJ (Qd U)<|qf (vs:=[_]) U zon (fun hg=>zCs hT kB)<|zJ (ZT U)<|Q5 U U U U U<|zN ?_
 refine zI ?_ ?_<;>intro O
 ·have J:(o.any za0||l.any za0)=true:=(by have h:=O;simpa using h);refine zR (zA<|zA<|zA (zN (Qq (Qb ?_))))
  first
  | exact Jo U U U U (fun w hw=>⟨_,_,[],U,C,hw.drop,U,_,none,0,by rw [zam f J,Kd (by rw [zam f J];decide)];rfl,by rw [Kd (by rw [zam f J];decide)];exact .nil⟩)
 have a4:(o.any za0||l.any za0)=false:=(by have h:=O;simpa using h);refine Qm<|Qa<|zR<|zM ?_;refine zM<|zpc [_,_] U zBH .nil (zEr hS hT kB kB) ?_
 rintro c0 I1 L1 Y ⟨rfl,aM,cM,rfl,b0⟩;have hS:=hS.mono Y;have hT:=hT.mono Y;have C:=C.trans Y;refine zA<|Qe ?_;obtain ⟨p,Z⟩:=b0;have x:=Z.1;have D:p.length=o.length+1:=x.len;have r:=zpw Z;have F:=zBW Z;refine Qa (zR (zA<|zN (zR<|zA<|zN (zR<|zA (zN (Qk (Ql ?_)))))));refine zU [(0,_),(1,_),(7,_)] (fun T L0 mz E I' W=>∃ (i k:Nat) (M:List (Int×Int)) (v8:Value) (q:Nat) (L:Go.Kn.Loc),mz=(o.length-i+(l.length-k))/\E=(8,v8)::(9,.int .i64 i)::(10,.int .i64 k)::T/\I1=I'/\L=W/\i<=o.length/\k<=l.length/\PaQ o l M i k/\OwnS 79 2 v8 q (M.flatMap K6) L/\q<=i+k) ?_ (h:=⟨0,0,[],_,0,[],U,U,U,U,jd _,jd _,.start,OwnS.nil,jn _⟩);rintro mz E I' W ⟨i,k,M,v8,q,L,rfl,rfl,rfl,rfl,hi,hk,K,hO,hq⟩;refine Qk (zR (zM<|zM ?_));refine zQ Qt<|zC ?_
 refine zM ?_;refine QI 4 U U U ?_;refine zJ (Qd U)<|zJ (Qd U)<|zJ (Zs U Qt)<|zJ (Qx U U U) ?_
 refine Q5 U U U U U<|zN ?_
 refine zI ?_ ?_<;>intro P
 ·have b6:i<o.length\/k<l.length:=kd P;have b1:=zlo o l (i+1) (k+1);have b2:=zlo o l (i+1) k;have b4:=zcD (o.getD i 0) (l.getD k 0);refine Qm (Qa (Ql (Qk (Qk<|ZW mixed kA<|zq (Qd U)<|zq (Qd U)<|zq (Zs U Qt)<|zq (Qx U U U)<|zq (Qd U)<|Yd 4 U U U<|zk (Qd U)<|zk (Qd U)<|zk (Zs U Qt)<|zk (Qx U U U) ?_))));refine JM U U U U U<|zq (Qd U)<|Yd 10 U U U<|zk (Qd U)<|zk (Qd U)<|zk (zX QM x)<|zk (Qc U QA (fun hg=>by exact zJA (k:=i) x (QE (d:=zHd) D (by simp [ZH] at hg;omega)) U))<|zk (Qd U)<|zk (Qs U U Qt (r i) (fun hg=>by (simp [ZH] at hg;have q1:=F i kB;omega)))<|zk (Qc U Qr (fun hg=>by exact zJA (k:=k) (r i) (zb5 (by simp [ZH] at hg;omega) (by simp [ZH] at hg;omega)) U))<|zk (Qd U)<|zk (Qd U) ?_
  refine zk (zX Qt hS)<|zk (Qc U Qr (fun hg=>by exact zJA (k:=i) hS (QE (d:=0) U (by simp [ZH] at hg;omega)) U))<|zk (Qd U)<|zk (Qd U)<|zk (zX Qt hT)<|zk (Qc U Qr (fun hg=>by exact zJA (k:=k) hT (QE (d:=0) U (by simp [ZH] at hg;omega)) U))<|Va (cap:=[]) (vs:=[_,_]) U U ziA (fun hg=>ze3 _ _ _) (.some U U U U gbt) U U<|zk (Qd U)<|zk (Qd U)<|zk (Zf U U U (fun hg=>kB))<|zk (zX QM x)<|zk (Qc U QA (fun hg=>by exact zJA (k:=i+1) x (QE (d:=zHd) D (by simp [ZH] at hg;omega)) U)) ?_
  refine zk (Qd U)<|zk (Zf U U U (fun hg=>kB))<|zk (Qs U U Qt (r (i+1)) (fun hg=>by (simp [ZH] at hg;have q1:=F (i+1) kB;omega)))<|zk (Qc U Qr (fun hg=>by exact zJA (k:=k+1) (r (i+1)) (zb5 (by simp [ZH] at hg;omega) (by simp [ZH] at hg;omega)) U))<|zk (Zf U U U (fun hg=>kB))<|zk (Qx U U U)<|JM U U U U U<|ZX<|Qa ?_
  refine zI ?_ ?_<;>intro Q
  ·have A:UT o l i k=true:=(zl5 o l i k).trans Q;have h6:i<o.length/\k<l.length:=(by unfold UT at A;simp at A;omega);refine zR<|zM ?_;refine zB<|zA<|zN (zR ?_)
   refine zM ?_;refine zB<|zA<|zN (zR ?_)
   refine zM ?_;refine zM ?_;refine zM<|zV (Zw (ps:=[(0,_),(1,_)]) [_,_] Yx K4 U U)<|zpb [(0,_)] [K6 ((i:Int)+1,(k:Int)+1)] VL (fun b8=>?_)
   refine zpa (_) ([((i:Int)+1,(k:Int)+1)].flatMap K6) (L) U U VL hO ⟨U,fun _=>U,by repeat (first | exact zJF | apply zJE | apply zJG)⟩ (zc2 [((i:Int)+1,(k:Int)+1)]) ?_;intro v9 L9 y _;rw [<-jh] at y;exact zA (zN (Qy (Qf (Qj<|zm (h:=⟨o.length-(i+1)+(l.length-(k+1)),kB,i+1,k+1,_,_,_,L9,U,U,U,U,kB,kB,K.both A,y,kB⟩)))))
  have A:UT o l i k=false:=(zl5 o l i k).trans Q;refine Qm (Qa (Qk (Qk<|ZW mixed kA<|zq (Qd U)<|zq (Qd U)<|zq (Zs U Qt)<|zq (Qx U U U)<|zq (Qd U)<|Yd 4 U U U<|zk (Qd U)<|zk (Qd U)<|zk (zX QM x)<|zk (Qc U QA (fun hg=>by exact zJA (k:=i) x (QE (d:=zHd) D (by simp [ZH] at hg;omega)) U)) ?_)));refine zk (Qd U)<|zk (Qs U U Qt (r i) (fun hg=>by (simp [ZH] at hg;have q1:=F i kB;omega)))<|zk (Qc U Qr (fun hg=>by exact zJA (k:=k) (r i) (zb5 (by simp [ZH] at hg;omega) (by simp [ZH] at hg;omega)) U))<|zk (Qd U)<|zk (Qd U)<|zk (Zf U U U (fun hg=>kB))<|zk (zX QM x)<|zk (Qc U QA (fun hg=>by exact zJA (k:=i+1) x (QE (d:=zHd) D (by simp [ZH] at hg;omega)) U))<|zk (Qd U)<|zk (Qs U U Qt (r (i+1)) (fun hg=>by (simp [ZH] at hg;have q1:=F (i+1) kB;omega)))<|zk (Qc U Qr (fun hg=>by exact zJA (k:=k) (r (i+1)) (zb5 (by simp [ZH] at hg;omega) (by simp [ZH] at hg;omega)) U))<|zk (Zf U U U (fun hg=>kB)) ?_
  refine zk (Qx U U U)<|JM U U U U U<|ZX<|Qa ?_
  refine zI ?_ ?_<;>intro G
  ·have B:zfB o l i k=true:=(zwy o l i k).trans G;have h6:i<o.length:=(by unfold zfB at B;simp at B;omega);refine zR<|zM ?_;refine zB<|zA<|zN (zR ?_)
   refine zM ?_;refine zM<|zV (Zw (ps:=[(0,_),(1,_)]) [_,_] Yx K4 U U)<|zpb [(0,_)] [K6 ((i:Int)+1,(0:Int))] VL (fun a6=>?_)
   refine zpa (_) ([((i:Int)+1,(0:Int))].flatMap K6) (L) U U VL hO ⟨U,fun _=>U,by repeat (first | exact zJF | apply zJE | apply zJG)⟩ (zc2 [((i:Int)+1,(0:Int))]) ?_;intro v9 L9 y _;rw [<-jh] at y;exact zA (zN (Qy (Qf (Qj<|zm (h:=⟨o.length-(i+1)+(l.length-(k)),kB,i+1,k,_,_,_,L9,U,U,U,U,kB,kB,K.one A B,y,kB⟩)))))
  have B:zfB o l i k=false:=(zwy o l i k).trans G;have h6:=zg2 hi hk b6 A B;refine Qm<|Qa<|zR<|zM ?_;refine zB<|zA (zN (Qh ?_))
  refine zM ?_;refine zM<|zV (Zw (ps:=[(0,_),(1,_)]) [_,_] Yx K4 U U)<|zpb [(0,_)] [K6 ((0:Int),(k:Int)+1)] VL (fun a7=>?_)
  refine zpa (_) ([((0:Int),(k:Int)+1)].flatMap K6) (L) U U VL hO ⟨U,fun _=>U,by repeat (first | exact zJF | apply zJE | apply zJG)⟩ (zc2 [((0:Int),(k:Int)+1)]) ?_;intro v9 L9 y _;rw [<-jh] at y;exact zA (Qe (Qg<|zm (h:=⟨o.length-(i)+(l.length-(k+1)),kB,i,k+1,_,_,_,L9,U,U,U,U,kB,kB,K.two h6 A B,y,kB⟩)))
 have V:o.length<=i/\l.length<=k:=kd P;have a3:zpJ o l=M:=K.fin V.1 V.2;have a1:=ziy f a4;have a2:=(zd3 a1).trans a3;refine Qy (Qf (Qf (Qj (Qa (zR (zM<|zV (zX QM x)<|zV (Qc U QA (fun hg=>by exact zJA (k:=0) x (QE (d:=zHd) D kB) U))<|zV (Qs U U Qt (r 0) (fun hg=>by (have q1:=F 0 kB;omega))) ?_))))));refine zV (Qc U Qr (fun hg=>by exact zJA (k:=0) (r 0) (zb5 kB kB) U))<|zM<|zA<|zA<|zA (zN (Qq ?_))
 first
 | exact Jo U U U U (fun w hw=>by obtain ⟨I9,a5,c9,a8,a9,e9,a0⟩:=OwnS.freeze (R:=[]) hO zjq kC (by rw [jw];exact hw.subL (by repeat (first | exact .refl | exact Q3 | exact Q3 (L:=L) (R:=[]) | refine .drop ?_)));have b7:=a0.len;subst b7;exact ⟨_,I9,[],U,C.trans a8,a9,U,_,a5,c9,by rw [a1,a2,e9],by rw [a2];exact a0⟩)
end
end Go.Proofs.YtodakphagkommaaGreatDoor
section
namespace Go.Kn
open Go
theorem Z6.ix {e b:Nat}:∀ {f:List (Value×Nat×List Value)} {L:Loc} {k:Nat} {t:Value×Nat×List Value},Z6 e b f L->f[k]? =some t->
  ∃ A g B,L=A++(g++B)/\OwnS e b t.1 t.2.1 t.2.2 g/\∀ (d:Value×Nat×List Value) (a:Loc),OwnS e b d.1 d.2.1 d.2.2 a->Z6 e b (f.set k d) (A++(a++B))
 | [],L,k,t,_,h=>by simp at h
 | u::f,L,0,t,⟨L1,L2,e1,h1,h2⟩,h=>by
  cases h;exact ⟨[],L1,L2,e1,h1,fun d a i=>⟨a,L2,U,i,h2⟩⟩
 | u::f,L,k+1,t,⟨L1,L2,e1,h1,h2⟩,h=>by
  obtain ⟨A,g,B,j,h3,h4⟩:=Z6.ix (k:=k) h2 (by simpa using h);exact ⟨L1++A,g,B,by rw [e1,j,js],h3,fun d a i=>⟨L1,A++(a++B),by rw [js],h1,h4 d a i⟩⟩
theorem Z6.nils {e a:Nat}:∀ n:Nat,Z6 e a (List.replicate n Kj) []
 | 0=>rfl
 | n+1=>⟨[],[],U,OwnS.nil,Z6.nils n⟩
theorem zdv {x:Nat×Obj}{A L B:Loc}:(x::(A++(L++B))).Perm (L++(x::(A++B))):=by refine .trans (.cons _ ?_) AA.symm;rw [<-js,<-js];exact .append_right _ Ap
end Go.Kn
namespace Go.Proofs.YtodakphagkommaaGreatDoor
open Go Go.Kn Go.Proofs
abbrev Tr3:=Value×Nat×List Value
def Vp (ts:List Tr3):Array Value:=(ts.map (·.1)).toArray
theorem Kz {a:List Tr3}{i:Nat}{v:Value}{q:Nat}{w:List Value}:(Vp a).setIfInBounds ((i:Int).toNat*1) v=Vp (a.set i (v,q,w)):=by unfold Vp;show (a.map (·.1)).toArray.setIfInBounds (i*1) v=_;rw [Om,Aj,B4]
theorem Uz {I:Qu}{b d i:Nat}{a:List Tr3}{t:Tr3}{l:Go.Kn.Loc}(h:a[i]? =some t):QO I ((b,.cells (Vp a) d (0,0))::l) b ((i:Int).toNat*1) t.1:=by refine zJC ?_;rw [Ve];show (a.map (·.1))[i*1]? =_;rw [Om,jB,h];rfl
theorem zBM {a:List Tr3}{i:Nat}(h:i<a.length):Nat.blt ((i:Int).toNat*1) (Vp a).size=true:=by show Nat.blt (i*1) (Vp a).size=true;unfold Vp;rw [Om,AW];simpa using h
theorem zkV (n:Nat):(List.replicate n (Value.slice none 0 0)).toArray=Vp (List.replicate n Kj):=by unfold Vp;rw [BS];rfl
def zhB (ts:List Tr3)(n:Nat)(f:Nat->List Int):Prop:=ts.length=n/\∀ (r:Nat) (t:Tr3),ts[r]? =some t->t.2.2=(f r).flatMap QF/\t.2.1=(f r).length
theorem zhB.new {n:Nat}:zhB (List.replicate n Kj) n (fun _=>[]):=⟨by simp,fun r t h=>by
 rw [Ay] at h;split at h<;>cases h;exact ⟨U,U⟩⟩
theorem zhB.ext {b:List Tr3}{n:Nat}{f g:Nat->List Int}(h:zhB b n f)(d:∀ r,r<n->f r=g r):zhB b n g:=⟨h.1,fun r t a=>by
 have i:r<n:=by rw [<-h.1];exact (jc.1 a).1
 rw [<-d r i];exact h.2 r t a⟩
theorem zhB.put {d:List Tr3}{n i:Nat}{f:Nat->List Int}{g:List Int}{v:Value}{q:Nat}{w:List Value}(h:zhB d n f)(o:i<n)(j:w=g.flatMap QF)(l:q=g.length):zhB (d.set i (v,q,w)) n (Ky f i g):=⟨by rw [AL];exact h.1,fun r t a=>by
 by_cases b:r=i
 ·subst b;rw [AE (by rw [h.1];exact o)] at a;cases a;unfold Ky;rw [jb rfl];exact ⟨j,l⟩
 ·rw [BG kB] at a
  unfold Ky;rw [ja b];exact h.2 r t a⟩
theorem zhB.rows {I:Qu}{g:List Tr3}{n b G:Nat}{f:Nat->List Int}{L:Go.Kn.Loc}(h:zhB g n f)(z:Z6 3 1 g L)(A:∀ b o,(b,o)∈L->I b=some o)(C:I b=some (.cells (Vp g) G (0,0))):SlN I (some ⟨b,0,none⟩) n n ((List.range n).map f):=by
 have key:∀ r t,g[r]? =some t->∃ p c,t.1= .slice p (f r).length c/\Sl I 1 QF p (f r).length c (f r):=fun r t d=>by
  obtain ⟨H,h1,h2⟩:=z.each t (je d);obtain ⟨j,s⟩:=h.2 r t d;rw [j,s] at h1;exact h1.sl QL kC (fun b o F=>A b o (h2 _ F))
 let i:Tr3->Hd:=fun t=>match t.1 with | .slice a m c=>⟨a,m,c⟩ | _=>zHd
 have E:∀ r t,g[r]? =some t->Kv (i t)=[t.1]:=fun r t d=>by
  obtain ⟨p,c,j,_⟩:=key r t d;show Kv (match t.1 with | .slice a m c=>⟨a,m,c⟩ | _=>zHd)=_;rw [j];rfl
 have D:(Vp g)=((g.map i).flatMap Kv).toArray:=by
  unfold Vp;congr 1
  have:∀ (l:List Tr3),(∀ t∈l,Kv (i t)=[t.1])->l.map (·.1)=(l.map i).flatMap Kv:=fun l w=>by
   induction l with
   | nil=>rfl
   | cons a l ih=>rw [jF,jF,jV,w a (jl ..),<-ih fun t d=>w t (jm _ d)];rfl
  exact this g fun t d=>by obtain ⟨r,q⟩:=jU d;exact E r t q
 refine ⟨g.map i,?_,by simp [h.1],fun k x v h1 h2=>?_⟩
 ·exact Sl.lit (g.map i) (by rw [ju];exact h.1) VH (by rw [<-D];exact C)
 ·rw [jB] at h1 h2;obtain ⟨t,d,j⟩:=Ot.1 h1;obtain ⟨r,q,s⟩:=Ot.1 h2
  have u:r=k:=by
   rw [jc] at q;obtain ⟨_,e⟩:=q;simpa using e.symm
  subst u;obtain ⟨p,c,y,B⟩:=key r t d;subst j s;show Sl I 1 QF (match t.1 with | .slice a m c=>(⟨a,m,c⟩:Hd) | _=>zHd).a (match t.1 with | .slice a m c=>(⟨a,m,c⟩:Hd) | _=>zHd).n (match t.1 with | .slice a m c=>(⟨a,m,c⟩:Hd) | _=>zHd).c (f r);rw [y];exact B
def rwP (xs:List Wr)(k i:Nat):Nat->List Int:=fun r=>if r<i then zcQ xs r (k+1) else zcQ xs r k
theorem zE9 {a:List Wr}{k i:Nat}:rwP a k i i=zcQ a i k:=ja kB
theorem zxf {a:List Wr}{k:Nat}{r:Nat}(h:r<a.length):rwP a k a.length r=zcQ a r (k+1):=jb h
theorem zfs {a:List Wr}{k i:Nat}{g:List Int}(hg:g=zcQ a i k++zhh a i k)(r:Nat):Ky (rwP a k i) i g r=rwP a k (i+1) r:=by
 unfold Ky rwP;by_cases h:r=i
 ·subst h;rw [jb rfl,jb kB,XS,hg]
 ·rw [ja h];by_cases h2:r<i
  ·rw [jb h2,jb kB]
  ·rw [ja h2,ja kB]
theorem WI {b:Type}{f:Nat->b}{a:Nat}{u v:b}:Ky (Ky f a u) a v=Ky f a v:=by funext r;unfold Ky;split<;>rfl
def thW (xs:List Wr)(i k:Nat):List Int:=zfM (alW xs i) (csW xs i) k
def atW (xs:List Wr)(k i:Nat):Int:=zcS (pfW xs i) (csW xs i) k
def zc3 (xs:List Wr)(i k:Nat):List Int:=thW xs i k++List.replicate (wdW xs k-(thW xs i k).length) 0
theorem zA7 {a:List Wr}{i k:Nat}(h:¬k<(csW a 0).length):zhh a i k=zc3 a i k:=by unfold zhh zBt zc3 thW alW;rw [ja h,jw]
theorem zxP {a:List Wr}{k:Nat}(h:k<(csW a 0).length):zhh a 0 k=zc3 a 0 k++[(csW a 0).getD k 0]:=by unfold zhh zBt zc3 thW alW;rw [jb h,jb rfl]
theorem zBE {a:List Wr}{i k:Nat}(h:k<(csW a 0).length)(b:0<i):zhh a i k=zc3 a i k++[atW a k i]:=by unfold zhh zBt zc3 thW alW atW;rw [jb h,ja kB]
theorem zBx {a:List Wr}{i k:Nat}(h:k<(csW a 0).length->i=0):(zcQ a i k++zc3 a i k)++(if k<(csW a 0).length/\i=0 then [(csW a 0).getD k 0] else [])=zcQ a i k++zhh a i k:=by
 rw [js];congr 1;by_cases b:k<(csW a 0).length
 ·have h0:=h b;subst h0;rw [jb ⟨b,U⟩,zxP b]
 ·rw [ja kB,zA7 b,jw]
theorem zw5 {a:List Wr}{i k:Nat}:znQ ((wdF (alW a) i k:Nat):Int) ((thW a i k).length:Nat)=((wdF (alW a) (i+1) k:Nat):Int):=by unfold thW;rw [XG];show _=((max (wdF (alW a) i k) (cnt (alW a i) k):Nat):Int);unfold znQ;split<;>omega
theorem zEc {a:List Wr}(h:∀ x∈a,x.rs.length<=64)(k:Nat):wdW a k<=128:=zgt (fun j=>zlf h j) a.length k
theorem zvM {a:List Wr}{i:Nat}(b:i<a.length)(k:Nat):(thW a i k).length<=wdW a k:=by unfold thW;rw [XG];exact zfF (al:=alW a) b
theorem ziS {a:List Wr}{i:Nat}(b:i<a.length)(k:Nat):(zc3 a i k).length=wdW a k:=by have:=zvM b k;unfold zc3;rw [jj,A5];omega
theorem zub {a:List Wr}(h:∀ x∈a,x.rs.length<=64){i:Nat}(d:i<a.length):∀ k,(zcQ a i k).length<=k*129
 | 0=>jd _
 | k+1=>by
  have h1:=zub h d k;have h2:=zEc h k;have h3:=ziS d k
  have h4:(zhh a i k).length<=wdW a k+1:=by
   by_cases b:k<(csW a 0).length
   ·by_cases h0:i=0
    ·subst h0;rw [zxP b,jj,h3];simp
    ·rw [zBE b kB,jj,h3];simp
   ·rw [zA7 b,h3];omega
  rw [XS,jj];omega
theorem zAc {xs:List Wr}{i:Nat}(a:i<xs.length):(zcQ xs i ((csW xs 0).length+1)).length=loW xs:=by rw [<-zhL a];unfold zc0;exact Z1
theorem zwK {a:List Wr}:((List.range a.length).map fun r=>zcQ a r ((csW a 0).length+1))=(List.range a.length).map (zc0 a):=
 OK fun _r b=>(zhL (jq.1 b)).symm
end Go.Proofs.YtodakphagkommaaGreatDoor
end
namespace Go.Proofs.YtodakphagkommaaGreatDoor
section
open Go Go.Kn Go.Proofs
theorem zAk:ke 171:=.of Tryz.func171 kA kA
theorem zoX:ke 172:=.of Tryz.func172 kA kA
theorem zAv:ke 173:=.of Tryz.func173 kA kA
theorem zyY:ke 174:=.of Tryz.func174 kA kA
theorem zxI:ke 175:=.of Tryz.func175 kA kA
theorem zmX:ke 176:=.of Tryz.func176 kA kA
variable{I:Qu}{J:Option Addr}{n:Nat}
set_option maxHeartbeats 1600000 in
theorem zy3   {c:Nat} {f:List Wr} (z:SlW I J n c f) (hn:n<=100000):kg 124 [.slice J n c] I [] (XH (UV f) (K9 f)):=by
 intro g H w hw;refine qe Tryz.func124 Tryz.ntmps124 hw ?_;have a5:=zJH I;obtain ⟨ws,Z⟩:=id z;have W:=Z.1;have j8:=Z.len;subst j8;refine zR (zA<|zA<|zN (zR ?_));refine zM ?_;refine qcV (vs:=[_]) U zAk (zCg z hn) ?_;refine zA<|zN<|Qk<|zR ?_;refine zM<|zC ?_
 refine zM ?_;refine QI 2 U U U ?_;refine zJ (Qd U)<|zJ (Zs U Z9)<|zJ (Qx U U U) ?_
 refine Q5 U U U U U<|zN ?_
 refine zI ?_ ?_<;>intro N
 ·rw [zbg] at N;refine zR (zM<|zA<|zA (zN (Qq (Qb ?_))))
  first
  | exact QY U U U (fun w hw=>⟨_,_,[],U,a5,hw.drop,by rw [(znA N).1];exact XH.empty (znA N).2⟩)
 rw [zbg] at N;obtain ⟨o6,j1,l5,b5⟩:=ziD N;obtain ⟨w0,x0,k7,i9,n9,o0,i1⟩:=Z.at (k:=0) kB;have i4:x0.rs.map Yu=csW f 0:=(zaP i9).symm;have l1:=UW (i:=0) b5;have l2:=i1.len;have l4:=b5 x0 (je i9);refine Qm (Qa (zR (zM<|zV (zX Z9 W)<|zV (Qo U XC (fun hg=>by exact zJI W k7) U)<|zpc [_] U zoX .nil (zop i1 kB _ _) ?_)));rintro p8 I1 L1 d4 ⟨rfl,n3,c4,rfl,Y⟩;have z:=z.mono d4;have Z:=Z.mono d4;have W:=W.mono d4;have a5:=a5.trans d4;rw [i4] at Y ⊢;refine zA<|zN (zR ?_)
 refine zM ?_;refine zQ Z9 ?_;refine Q1 zvY U U kB kC U U (fun G=>zA (Qe ?_));rw [show ((f.length:Nat):Int).toNat=f.length from U,zkV];refine Qa (Qk (zR (zA (zN (Ql<|zU [(0,_),(5,_),(6,_)] (fun T L0 mz E s l=>∃ (k:Nat) (ts:List Tr3) (Lr:Go.Kn.Loc),mz=((csW f 0).length+1)-k/\E=(7,.int .i64 k)::T/\HLe I1 s/\(G,.cells (Vp ts) 23 (0,0))::Lr=l/\k<=((csW f 0).length+1)/\Z6 3 1 ts Lr/\zhB ts f.length (fun r=>zcQ f r k)) ?_ (h:=⟨0,_,[],U,U,zJH _,U,jd _,Z6.nils _,zhB.new.ext fun r _=>U⟩))))));rintro mz E J2 l ⟨k,ts,Lr,rfl,rfl,P,rfl,hk,c0,d6⟩;have z:=z.mono P;have Z:=Z.mono P;have W:=W.mono P;have Y:=Y.mono P;have a5:=a5.trans P;have D:=P;refine Qk (zR (zM<|zM ?_));refine zQ Qt<|zC (zN ?_)
 refine zI ?_ ?_<;>intro e3
 ·have j9:k<(csW f 0).length+1:=kd e3;refine Qm (Qa (Qk (Ql (zR (zA<|zN (zR<|zA<|zN (zR<|zA (zN (Qk (zR<|zA (zN (Ql ?_))))))))))));refine zU [(0,_),(5,_),(6,_),(7,_)] (fun T L0 mz E s l=>∃ (i:Nat) (mm:Int) (v9:Value) (os:List Hd) (L9:Go.Kn.Loc) (f7:Value) (b9:Go.Kn.Loc),mz=f.length-i/\E=(8,.int .i64 mm)::(9,v9)::(10,f7)::(11,.int .i64 i)::T/\HLe J2 s/\b9++(L9++((G,.cells (Vp ts) 23 (0,0))::Lr))=l/\i<=f.length/\mm=((wdF (alW f) i k:Nat):Int)/\OwnS 23 1 v9 i (os.flatMap Kv) L9/\WM s os ((List.range i).map (fun r=>thW f r k))/\OwnS 3 1 f7 i (((List.range i).map (atW f k)).flatMap QF) b9) ?_ (h:=⟨0,_,_,[],[],_,[],U,U,zJH _,U,jd _,U,OwnS.nil,WM.nil,OwnS.nil⟩);rintro mz E J3 l ⟨i,mm,v9,os,L9,f7,b9,rfl,rfl,P,rfl,hi,i6,M,q,d8⟩;have z:=z.mono P;have Z:=Z.mono P;have W:=W.mono P;have Y:=Y.mono P;have D:=D.trans P;have C:=P;refine Qk (zR (zM<|zM ?_));refine zQ Z9<|zC (zN ?_)
  refine zI ?_ ?_<;>intro e4
  ·have j:i<f.length:=kd e4;obtain ⟨w,x,hx,hv,e1,e2,hR⟩:=Z.at j;have i5:x.rs.map Yu=csW f i:=(zaP hv).symm;have o1:=UW (i:=i) b5;have o3:=hR.len;have p4:=b5 x (je hv);refine Qm<|Qa<|Qk<|Ql<|zR<|zM ?_;refine zM ?_;refine zV (zX Z9 W)<|zV (Qo U XC (fun hg=>by exact zJI W hx) U)<|zpc [_] U zoX .nil (zop hR kB _ _) ?_
   rintro p9 I4 L4 f2 ⟨rfl,n4,c7,rfl,b0⟩;have Y:=Y.mono f2;have q:=q.mono f2;have C:=C.trans f2;rw [i5] at b0 ⊢;refine zA<|zN (zR ?_)
   refine zM ?_;refine zM<|zpc [_,_] U zAv .nil (zCY Y b0 kB kB) ?_
   rintro q1 I5 L5 f3 ⟨rfl,z8,n5,c8,rfl,j4⟩;have q:=q.mono f3;have b0:=b0.mono f3;have C:=C.trans f3;refine zM ?_;refine zE ?_;refine zE ?_;refine zE ?_;refine zA<|zA<|zA (zN ?_)
   refine zY [(0,_),(5,_),(6,_),(7,_),(8,_),(9,_),(10,_),(11,_),(12,_)] (fun T L0 E s l=>∃ (ap:Option Addr) (np cp:Nat),E=(14,.slice ap np cp)::T/\I5=s/\b9++(L9++((G,.cells (Vp ts) 23 (0,0))::Lr))=l/\Sl s 2 K6 ap np cp (pfW f i)) ?_ ?_
   ·refine zR (zM<|zC (zN ?_));refine zI ?_ ?_<;>intro e5
    ·refine Qh<|zA<|Qe ?_
     first
     | exact Ya _ _ ⟨none,0,0,U,U,U,by rw [show pfW f i=[] from by unfold pfW;rw [jb (kd e5)]];exact .nil⟩ kc .refl
    refine Qm ?_
    first
    | exact Ya _ _ ⟨_,_,_,U,U,U,by rw [show pfW f i=JS (csW f 0) (csW f i) from by unfold pfW;rw [ja (kd e5)]];exact j4⟩ kc .refl
   rintro E s l ⟨ap,np,cp,rfl,rfl,rfl,c9⟩;have o2:=c9.len;have i8:=X3 (xs:=f) (i:=i);refine zR<|zM ?_;refine zM ?_;refine zM ?_;refine zM<|zpc [_,_,_] U zyY .nil (zyT c9 b0 kB kB i8.1 k) ?_
   rintro q2 I7 L7 d5 ⟨rfl,aA,cA,rfl,f9⟩;have q:=q.mono d5;have b0:=b0.mono d5;have c9:=c9.mono d5;have C:=C.trans d5;rw [show alR (csW f i) k 0 (pfW f i)=thW f i k from zE3] at f9 ⊢;refine zpb [(0,_)] [Kv (⟨aA,(thW f i k).length,cA⟩:Hd)] UK (fun k8=>?_);refine zpa (_) ([(⟨aA,(thW f i k).length,cA⟩:Hd)].flatMap Kv) (L9) U U UK M ⟨U,fun _=>U,by repeat (first | exact zJF | apply zJE | apply zJG)⟩ (zlN _) ?_;intro p6 m9 c6 _;rw [<-jh] at c6;refine zA<|zN<|Qk ?_;have k0:os.length=i:=(by simpa using q.1);have f6:(os++[(⟨aA,(thW f i k).length,cA⟩:Hd)])[i]? =some (⟨aA,(thW f i k).length,cA⟩:Hd):=(by rw [Ov kB,k0,Br];rfl);obtain ⟨_,sb,p5,n8,k6,rfl,j6,o5,l3⟩:=c6.spot1 (k:=i) (u:=fun h:Hd=>Value.slice h.a h.n h.c) (fun _=>U) f6;subst k6;refine Qh (zM<|zM ?_);refine zM ?_;refine zV (QD U U QM (fun hg=>kB))<|zV (Qc U QA (fun hg=>by exact j6 _ _))<|zQ Qt<|zV (VK U U)<|zA (zN (Qh ?_))
   refine zM ?_;refine zM ?_;refine zM ?_;refine zM ?_;refine qcV (vs:=[_,_,_]) U zxI (zqj c9 b0 kB kB i8.1 k kB)<|zpb [(0,_)] [QF (atW f k i)] QS (fun l0=>?_)
   refine zpa (_) ([atW f k i].flatMap QF) (b9) U U QS d8 ⟨U,fun _=>U,by repeat (first | exact zJF | apply zJE | apply zJG)⟩ (YJ _) ?_;intro p7 n0 d9 _;rw [<-jh] at d9;refine zA (Qe (Qg (Qa (Qh<|zM ?_))));refine zB<|zA (Qe ?_)
   exact zm (h:=⟨f.length-(i+1),kB,i+1,_,_,_,_,_,_,U,U,C,U,kB,by rw [i6];exact zw5,c6,by rw [KE];exact q.snoc (hd:=(⟨aA,(thW f i k).length,cA⟩:Hd)) f9,by rw [KE];exact d9⟩)
  have f4:f.length<=i:=kd e4;obtain rfl:i=f.length:=kB;refine Qy (Qf (Qf (Qj (Qa (Qk<|zx4 M VH (fun I8 b1 n1 n6 j2 y=>?_))))));subst j2;have z:=z.mono b1;have Z:=Z.mono b1;have W:=W.mono b1;have Y:=Y.mono b1;have q:=q.mono b1;have D:=D.trans b1;have C:=C.trans b1;refine zx4 d8 QL (fun I9 a6 n2 n7 j3 O=>?_);subst j3;have z:=z.mono a6;have Z:=Z.mono a6;have W:=W.mono a6;have Y:=Y.mono a6;have q:=q.mono a6;have y:=y.mono a6;have D:=D.trans a6;have C:=C.trans a6;have F:SlH I9 _ _ _ os ((List.range f.length).map fun r=>thW f r k):=⟨y,q.1,q.2⟩;subst i6;refine Qh (zA (zN (Ql<|zU [(0,_),(5,_),(6,_),(7,_),(8,_),(9,_),(10,_)] (fun T L0 mz E s l=>∃ (i:Nat) (b6:List Tr3) (e7:Go.Kn.Loc),mz=f.length-i/\E=(16,.int .i64 i)::T/\HLe I9 s/\(G,.cells (Vp b6) 23 (0,0))::e7=l/\i<=f.length/\Z6 3 1 b6 e7/\zhB b6 f.length (rwP f k i)) ?_ (h:=⟨0,_,_,U,U,zJH _,U,jd _,c0,d6.ext fun r _=>U⟩))));rintro mz E d2 l ⟨i,b6,e7,rfl,rfl,P,rfl,hi,c1,a7⟩;have z:=z.mono P;have Z:=Z.mono P;have W:=W.mono P;have Y:=Y.mono P;have q:=q.mono P;have y:=y.mono P;have O:=O.mono P;have F:=F.mono P;have D:=D.trans P;have C:=C.trans P;have a3:=P;refine Qk (zR (zM<|zM ?_));refine zQ Z9<|zC (zN ?_)
  refine zI ?_ ?_<;>intro e6
  ·have j:i<f.length:=kd e6;obtain ⟨⟨v0,q0,w0⟩,ht⟩:∃ t,b6[i]? =some t:=⟨_,jf (by rw [a7.1];exact j)⟩;obtain ⟨A0,b4,B0,rfl,a1,a4⟩:=c1.ix ht;obtain ⟨ew,K⟩:=a7.2 i _ ht;rw [zE9] at ew K;dsimp only at ew K a1;subst ew;subst K;obtain ⟨h4,v4,j7,j0,a2⟩:=F.at j;obtain rfl:v4=thW f i k:=(by rw [jB,OD j] at j0;exact (Ob j0).symm);have o4:=a2.len;have p3:=zEc b5 k;have p2:=zvM j k;have p1:=zub b5 j k;have p0:=ziS j k;have o7:(zcQ f i k++zc3 f i k).length<=10000:=(by rw [jj];omega);have o8:((zcQ f i k++zc3 f i k)++(if k<(csW f 0).length/\i=0 then [(csW f 0).getD k 0] else [])).length<=10001:=(by rw [jj];split<;>simp only [jx,Ag]<;>omega);have i2:((List.range f.length).map (atW f k))[i]? =some (atW f k i):=(by rw [jB,OD j];rfl);refine Qm<|Qa<|Qk<|Ql ?_;refine zY [(0,_),(5,_),(6,_),(7,_),(8,_),(9,_),(10,_),(16,_)] (fun T L0 E s l=>∃ (b7:List Tr3) (e8:Go.Kn.Loc),E=T/\HLe d2 s/\(G,.cells (Vp b7) 23 (0,0))::e8=l/\Z6 3 1 b7 e8/\zhB b7 f.length (Ky (rwP f k i) i (zcQ f i k++zc3 f i k))) ?_ ?_
   ·have a0:=zJH d2;have p:=zJH d2;refine VR<|ZM d2 [] mixed<|zT 0 U (Qd U) p<|zT 1 U (Qd U) p<|zT 2 U (Qd U) p<|zT 3 U (Qd U) p<|zT 4 U (QD U U QM (fun hg=>kB)) p<|zT 6 U (Qd U) p<|zT 7 U (Qd U) p<|zT 8 U (zX QM y) p<|zT 9 U (Qc U QA (fun hg=>by exact zJA y j7 U)) p<|zT 10 U (Qd U) p ?_
    refine Zv 5 11 U U kA ?_ ?_
    focus
     refine zV (Qc U QA (fun hg=>by exact Uz ht))<|Qe<|zD p<|qd 11 U<|zpc [_,_] U zmX .nil ((show ZP _ _ _ _ _ (Jv 1 QF (zc3 f i k)) from zjC a2 kB (wdW f k) kB)) ?_
     rintro l6 l8 m7 A ⟨rfl,aF,cF,rfl,hF⟩;have z:=z.mono A;have Z:=Z.mono A;have W:=W.mono A;have Y:=Y.mono A;have q:=q.mono A;have y:=y.mono A;have O:=O.mono A;have F:=F.mono A;have a2:=a2.mono A;have D:=D.trans A;have C:=C.trans A;have a3:=a3.trans A;have a0:=a0.trans A;have p:=p.trans A
    rotate_left
    refine zpc [_,_] U zmX .nil ((show ZP _ _ _ _ _ (Jv 1 QF (zc3 f i k)) from zjC a2 kB (wdW f k) kB)) ?_;rintro l7 l9 m8 B ⟨rfl,aF,cF,rfl,hF⟩;have z:=z.mono B;have Z:=Z.mono B;have W:=W.mono B;have Y:=Y.mono B;have q:=q.mono B;have y:=y.mono B;have O:=O.mono B;have F:=F.mono B;have a2:=a2.mono B;have D:=D.trans B;have C:=C.trans B;have a3:=a3.trans B;have a0:=a0.trans B;have p:=p.trans B;refine Qe<|zD p<|qd 5 U<|zV (Qc U QA (fun hg=>by exact Uz ht)) ?_
    all_goals
     refine Qe<|zD p<|qd 12 U<|zpa (_) ((zc3 f i k).flatMap QF) (b4) U U QS a1 (hF.src QL) (YJ _) ?_
     intro v9 L9 M _;rw [<-jh] at M;refine Qe<|zD p<|zT 13 U (QD U U QM (fun hg=>kB)) p<|qd 14 U<|Zx U U Ze M.one U (by repeat (first | exact Upd.here | apply Upd.there | apply QN)) (zBM (by rw [a7.1];exact j))<|Qe<|zD p<|QH kA<|QP ?_
     exact Vx _ _ (L9++((G,.cells ((Vp b6).setIfInBounds ((i:Int).toNat*1) v9) 23 (0,0))::(A0++B0))) ⟨_,A0++(L9++B0),U,a0,U,a4 (v9,_,_) L9 M,(a7.put j U kO).ext fun r _=>U⟩ kc (by rw [Kz];exact zdv) kH
   rintro E d3 l ⟨b7,e8,rfl,Q,rfl,c2,a8⟩;have z:=z.mono Q;have Z:=Z.mono Q;have W:=W.mono Q;have Y:=Y.mono Q;have q:=q.mono Q;have y:=y.mono Q;have O:=O.mono Q;have F:=F.mono Q;have a2:=a2.mono Q;have D:=D.trans Q;have C:=C.trans Q;have a3:=a3.trans Q;refine zY [(0,_),(5,_),(6,_),(7,_),(8,_),(9,_),(10,_),(16,_)] (fun T L0 E s l=>∃ (b8:List Tr3) (e9:Go.Kn.Loc),E=T/\HLe d3 s/\(G,.cells (Vp b8) 23 (0,0))::e9=l/\Z6 3 1 b8 e9/\zhB b8 f.length (Ky (rwP f k i) i ((zcQ f i k++zc3 f i k)++(if k<(csW f 0).length/\i=0 then [(csW f 0).getD k 0] else [])))) ?_ ?_
   ·have c5:=zJH d3;refine zR<|zM ?_;refine zM ?_;refine zQ Qt<|zC ?_
    refine zM ?_;refine Qw 4 U U U ?_;refine zK (Qd U) ?_;refine zK (Qx U U U) ?_;refine QC U U U U U<|zN ?_
    refine zI ?_ ?_<;>intro b2
    ·have d7:k<(csW f 0).length:=kd b2;have f5:i=0:=kd b2;obtain ⟨⟨v0,q0,w0⟩,ht⟩:∃ t,b7[i]? =some t:=⟨_,jf (by rw [a8.1];exact j)⟩;obtain ⟨A0,b4,B0,rfl,a1,a4⟩:=c2.ix ht;obtain ⟨ew,K⟩:=a8.2 i _ ht;rw [V0] at ew K;dsimp only at ew K a1;subst ew;subst K;have p:=zJH d3;refine VR<|ZM d3 [] mixed<|zT 0 U (Qd U) p<|zT 1 U (Qd U) p<|zT 2 U (Qd U) p<|zT 3 U (Qd U) p<|zT 4 U (QD U U QM (fun hg=>kB)) p<|zT 6 U (Qd U) p<|zT 7 U (Qd U) p<|zT 8 U (zX Qt Y) p<|zT 9 U (Qc U Qr (fun hg=>by exact zJA (k:=k) Y (QE (d:=0) U d7) U)) p ?_
     refine Zv 5 10 U U kA ?_ ?_
     focus
      refine zV (Qc U QA (fun hg=>by exact Uz ht))<|Qe<|zD p<|qd 10 U<|zpb [(0,_)] [QF ((csW f 0).getD k 0)] QS (fun f0=>?_)
     rotate_left
     refine zpb [(0,_)] [QF ((csW f 0).getD k 0)] QS (fun f0=>Qe<|zD p<|qd 5 U<|zV (Qc U QA (fun hg=>by exact zJB (Uz ht))) ?_)
     all_goals
      refine Qe<|zD p<|qd 11 U<|zpa (_) ([(csW f 0).getD k 0].flatMap QF) (b4) U U QS a1 ⟨U,fun _=>U,by repeat (first | exact zJF | apply zJE | apply zJG)⟩ (YJ _) ?_
      intro v9 L9 M _;rw [<-jh] at M;refine Qe<|zD p<|zT 12 U (QD U U QM (fun hg=>kB)) p<|qd 13 U<|Zx U U Ze M.one U (by repeat (first | exact Upd.here | apply Upd.there | apply QN)) (zBM (by rw [a8.1];exact j))<|Qe<|zD p<|QH kA<|QP ?_
      first
      | exact Vx _ _ (L9++((G,.cells ((Vp b7).setIfInBounds ((i:Int).toNat*1) v9) 23 (0,0))::(A0++B0))) ⟨_,A0++(L9++B0),U,c5,U,a4 (v9,_,_) L9 M,(a8.put j U kO).ext fun r _=>by rw [WI,jb ⟨d7,f5⟩]⟩ kc (by rw [Kz];exact zdv) kH
    have i7:¬(k<(csW f 0).length/\i=0):=kd b2;refine Qm ?_
    first
    | exact Ya _ _ ⟨_,_,U,c5,U,c2,by rw [ja i7,jw];exact a8⟩ kc .refl
   rintro E f8 l ⟨b8,e9,rfl,V,rfl,c3,a9⟩;have z:=z.mono V;have Z:=Z.mono V;have W:=W.mono V;have Y:=Y.mono V;have q:=q.mono V;have y:=y.mono V;have O:=O.mono V;have F:=F.mono V;have a2:=a2.mono V;have D:=D.trans V;have C:=C.trans V;have a3:=a3.trans V;refine zR<|zM ?_;refine zM ?_;refine zQ Qt<|zC ?_
   refine zM ?_;refine Qw 4 U U U ?_;refine zK (Qd U) ?_;refine zK (Qx U U U) ?_;refine QC U U U U U<|zN ?_
   refine zI ?_ ?_<;>intro b3
   ·have d7:k<(csW f 0).length:=kd b3;have f5:0<i:=kd b3;obtain ⟨⟨v0,q0,w0⟩,ht⟩:∃ t,b8[i]? =some t:=⟨_,jf (by rw [a9.1];exact j)⟩;obtain ⟨A0,b4,B0,rfl,a1,a4⟩:=c3.ix ht;obtain ⟨ew,K⟩:=a9.2 i _ ht;rw [V0] at ew K;dsimp only at ew K a1;subst ew;subst K;have p:=zJH f8;refine VR<|ZM f8 [] mixed<|zT 0 U (Qd U) p<|zT 1 U (Qd U) p<|zT 2 U (Qd U) p<|zT 3 U (Qd U) p<|zT 4 U (QD U U QM (fun hg=>kB)) p<|zT 6 U (Qd U) p<|zT 7 U (Qd U) p<|zT 8 U (zX Qt O) p<|zT 9 U (Qc U Qr (fun hg=>by exact zJA (k:=i) O i2 U)) p ?_
    refine Zv 5 10 U U kA ?_ ?_
    focus
     refine zV (Qc U QA (fun hg=>by exact Uz ht))<|Qe<|zD p<|qd 10 U<|zpb [(0,_)] [QF (atW f k i)] QS (fun f1=>?_)
    rotate_left
    refine zpb [(0,_)] [QF (atW f k i)] QS (fun f1=>Qe<|zD p<|qd 5 U<|zV (Qc U QA (fun hg=>by exact zJB (Uz ht))) ?_)
    all_goals
     refine Qe<|zD p<|qd 11 U<|zpa (_) ([atW f k i].flatMap QF) (b4) U U QS a1 ⟨U,fun _=>U,by repeat (first | exact zJF | apply zJE | apply zJG)⟩ (YJ _) ?_
     intro v9 L9 M _;rw [<-jh] at M;refine Qe<|zD p<|zT 12 U (QD U U QM (fun hg=>kB)) p<|qd 13 U<|Zx U U Ze M.one U (by repeat (first | exact Upd.here | apply Upd.there | apply QN)) (zBM (by rw [a9.1];exact j))<|Qe<|zD p<|QH kA<|QP ?_
     refine Qg<|Qa<|Qh<|zM ?_;refine zB<|zA (Qe ?_)
     first
     | exact Vx _ _ (L9++((G,.cells ((Vp b8).setIfInBounds ((i:Int).toNat*1) v9) 23 (0,0))::(A0++B0))) ⟨f.length-(i+1),kB,i+1,_,A0++(L9++B0),U,U,a3,U,kB,a4 (v9,_,_) L9 M,(a9.put j U kO).ext fun r _=>by rw [WI];exact zfs (by rw [zBE d7 f5,ja kB,jw,<-js]) r⟩ kc (by rw [Kz];exact zdv) kH
   have j5:(zcQ f i k++zc3 f i k)++(if k<(csW f 0).length/\i=0 then [(csW f 0).getD k 0] else [])=zcQ f i k++zhh f i k:=zBx (kd b3);refine Qm<|Qg<|Qa<|Qh<|zM ?_;exact zB<|zA (Qe<|Ya _ _ ⟨f.length-(i+1),kB,i+1,_,_,U,U,a3,U,kB,c3,a9.ext fun r _=>zfs j5 r⟩ kc .refl)
  have f4:f.length<=i:=kd e6;obtain rfl:i=f.length:=kB;refine Qy<|Qf<|Qf<|Qj<|Qg<|Qa<|Qh<|zM ?_;exact zB<|zA (Qe<|zm (h:=⟨((csW f 0).length+1)-(k+1),kB,k+1,_,_,U,U,D,U,kB,c1,a7.ext fun r hr=>zxf hr⟩))
 obtain rfl:k=(csW f 0).length+1:=kd e3;refine Qy<|Qf<|Qf<|Qj<|Qa<|Qk<|Qk ?_;obtain ⟨⟨v0,q0,w0⟩,ht⟩:∃ t,ts[0]? =some t:=⟨_,jf (by rw [d6.1];exact j1)⟩;obtain ⟨A0,b4,B0,rfl,a1,a4⟩:=c0.ix ht;obtain ⟨ew,K⟩:=d6.2 0 _ ht;dsimp only at ew K a1;subst ew;subst K;obtain ⟨va,vc,rfl⟩:=zaV a1;have o9:=zAc (xs:=f) j1;refine Qh<|zM ?_;refine zV (QD U U QM (fun hg=>kB))<|zV (Qc U QA (fun hg=>by exact Uz ht))<|zQ Qt<|zC (zN ?_)
 refine zI ?_ ?_<;>intro d1
 ·have h2:loW f>256:=kd d1;refine zR (zA<|zA (zN (Qq (Qb ?_))))
  first
  | exact QY U U U (fun w hw=>⟨_,_,[],U,a5,hw.drop,by rw [(zze N h2).1];exact XH.empty (zze N h2).2⟩)
 have h2:¬loW f>256:=kd d1;refine Qm (Qa (Qk<|Vz (fun m6 i0 e0=>?_)));have a5:=a5.trans i0;have i3:=e0 _ _ (jl ..);have d0:=d6.rows c0 (fun b o hm=>e0 b o (jm _ hm)) i3;rw [zwK] at d0;refine Qh (zM<|zA<|zA (zN (Qq ?_)))
 first
 | exact QY U U U (fun w hw=>⟨_,_,[],U,a5,hw.drop,by rw [(zx6 N h2).1,(zx6 N h2).2];exact ⟨U,_,_,by rw [ju,OG],by rw [ju,OG];exact d0⟩⟩)
variable{m k:Nat}
theorem zI6 {a l b:Int}(h:k=0/\l= -1\/0<k/\0<=l/\b=l):((decide (a<0)||decide (a>=(m:Int)))||(decide ((k:Int)>0)&&decide (a<=b)))=(decide (a<=l)||decide (a>=(m:Int))):=by rw [jI];simp only [On,ji,jG];omega
theorem zeH {rows:List (List Int)}{l:Int}{e:Em}:zed rows m l e=((decide (e.locus<=l)||decide (e.locus>=(m:Int)))|| !rsF e.reason e.code (zaY rows e)):=by unfold zed;rw [AU]
variable{c:Int}{b:Bool}
theorem zIR {r:Int}(h:r=1):rsF r c b=((b&&c != 0)&&c != 8589934592):=by unfold rsF;rw [jb h];rfl
theorem zIQ {r:Int}(h1:¬r=1)(h:r=2):rsF r c b=(!b&&Vb c==0):=by unfold rsF;rw [ja h1,jb h];unfold r2F;rw [BV]
theorem zIU {r:Int}(h1:¬r=1)(h2:¬r=2)(h:r=3):rsF r c b=(c==0):=by unfold rsF;rw [ja h1,ja h2,jb h];rfl
theorem zI0 {r:Int}(h1:¬r=1)(h2:¬r=2)(h:¬r=3):rsF r c b=false:=by unfold rsF;rw [ja h1,ja h2,ja h]
theorem zjN (a:List Int)(v:Int):(a.any fun y=>y==v)=a.any fun y=>v==y:=by
 congr 1;funext y;by_cases h:y=v
 ·subst h;rfl
 ·rw [AX h,AX (Bu h)]
def emF (k:Nat)(n:Int)(e:Em):Int:=if e.locus=(k:Int) then e.code else n
theorem zbH {k:Nat}:∀ {es:List Em} {n:Int},(∀ e∈es,¬e.locus=(k:Int))->es.foldl (emF k) n=n
 | [],_,_=>rfl
 | e::es,n,h=>by
  rw [Of,show emF k n e=n from ja (h e (jl ..))];exact zbH fun x a=>h x (jm _ a)
theorem zvX {m:Nat}:∀ {l:Int} {a:List Em},zBN m l a->∀ e∈a,l<e.locus
 | l,e::a,⟨h1,h2,h3⟩,x,d=>by
  rcases jo.1 d with rfl | d
  ·exact h1
  ·have:=zvX h3 x d;omega
variable{cl:List Int}{es:List Em}
theorem zgB {rows:List (List Int)}(h:Ku rows (rows.getD 0 []).length (-1) es=true):es.foldl (emF k) (JN rows cl k)=W8 rows cl es k:=by
 obtain ⟨f,i,h1,h2,h3⟩:=znx k (zjV h)
 have h0:es.foldl (emF k) (JN rows cl k)=(lfK es k).foldl (emF k) (JN rows cl k):=by
  conv=>lhs;rw [i]
  rw [Oh,zbH (es:=f) fun e a=>by have:=h1 e a;omega]
 rw [h0]
 cases d:lfK es k with
 | nil=>rw [zt2 d];rfl
 | cons e r=>
  rw [d] at h3;have g:∀ x∈r,¬x.locus=(k:Int):=fun x j=>(by have h4:=zvX h3.2.2 x j;have h5:=h2 e (by rw [d];exact jl ..);omega);rw [Of];by_cases a:e.locus=(k:Int)
  ·rw [show emF k (JN rows cl k) e=e.code from jb a,zbH g,zu5 d a]
  ·rw [show emF k (JN rows cl k) e=JN rows cl k from ja a,zbH g,zD7 d a]
variable{j:Nat}
theorem znv {n:Int}{e:Em}(h:es[j]? =some e):(es.take (j+1)).foldl (emF k) n=emF k ((es.take j).foldl (emF k) n) e:=by rw [jz,h,Oh];rfl
theorem zyq:ke 168:=.of Tryz.func168 kA kA
theorem zzd:ke 215:=.of Tryz.func215 kA kA
variable{G:Option Addr}{A F:Nat}
theorem zyG {rows:List (List Int)}(D:SlN I G A F rows)(Q:A<=100000)(l v:Int)(h0:0<=l)(P:∀ r∈rows,l.toNat<r.length):kf 215 [.slice G A F,.int .i64 l,.int .i64 v] I (.bool (rows.any fun r=>r.getD l.toNat 0==v)):=by
 intro g H w V;refine qe Tryz.func215 Tryz.ntmps215 V ?_;have y:=D.len;obtain ⟨B,u⟩:=id D;have t:=u.1;refine zR (zA (zN (Qk (zR<|zA (zN (Ql ?_))))));refine zU [(0,_),(1,_),(2,_)] (fun T M K E s i=>∃ (k:Nat),K=A-k/\E=(7,.int .i64 k)::T/\I=s/\M=i/\k<=A/\(rows.take k).any (fun r=>r.getD l.toNat 0==v)=false) ?_ (h:=⟨0,U,U,U,U,jd _,U⟩);rintro K E s i ⟨k,rfl,rfl,rfl,rfl,Y,q⟩;refine Qk (zR (zM<|zM ?_));refine zQ QM<|zC (zN ?_)
 refine zI ?_ ?_<;>intro a
 ·have p:k<A:=kd a;obtain ⟨h1,W,O,C,x⟩:=u.at p;have N:=x.len;have z:=P W (je C);refine Qm<|Qa<|Qk<|Ql<|zR<|zM ?_;refine zM ?_;refine zV (zX QM t)<|zV (Qc U QA (fun hg=>by exact zJA t O U))<|zM ?_
  refine zV (zX Qt x)<|zV (Qc U Qr (fun hg=>by exact zJA (k:=l.toNat) x (QE (d:=0) U z) U))<|zM<|zC (zN ?_)
  refine zI ?_ ?_<;>intro f
  ·exact zR (zA (zN (Qq (Qn (Qb (Qb (Qn<|Qb<|zr U U (by rw [YN C f]))))))))
  refine Qm<|Qg<|Qa<|Qh<|zM ?_;exact zB<|zA (Qe<|zm (h:=⟨A-(k+1),kB,k+1,U,U,U,U,kB,Z3 C q f⟩))
 have o:A<=k:=kd a;rw [QZ y o] at q;exact Qy (Qf (Qf (Qj (Qa (zR (zA (zN<|Qq<|zr U U (by rw [q]))))))))
theorem zxj {rows:List (List Int)}(s:SlN I G A F rows)(o:A<=100000)(e:Em)(h0:0<=e.locus)(t:∀ r∈rows,e.locus.toNat<r.length):kf 168 [.slice G A F,.agg (Yv e).toArray] I (.bool (rsF e.reason e.code (zaY rows e))):=by
 intro g H w u;refine qe Tryz.func168 Tryz.ntmps168 u ?_;refine zR<|QU U U U (fun p=>zA<|zN (zR ?_))
 refine zM<|zF YQ ?_
 refine zL Qr<|zF Kw ?_
 refine zL Qr<|qcV (vs:=[_,_,_]) U zzd (zyG s o e.locus e.code h0 t) ?_
 refine zA (zN (Qk (zR<|zF Xo ?_)));refine zL Qr<|zN (Ql (zR (zC<|zA (zN ?_))))
 refine zI ?_ ?_<;>intro f
 ·have a:e.reason=1:=(by simpa using f);refine zR<|zM ?_;refine zM ?_;refine Qw 1 U U U ?_;refine zK (Qi U Kw) ?_;refine zK (Qc U Qr (fun hg=>by exact QO.h0 U))<|zK (Qx U U U) ?_
  refine QC U U U U U ?_;refine zM ?_;refine Qw 6 U U U ?_;refine zK (Qi U Kw) ?_;refine zK (Qc U Qr (fun hg=>by exact QO.h0 U))<|zK (Qx U U U) ?_
  refine QC U U U U U<|zA (zN (Qq (Qn (Qb ?_))))
  first
  | exact zr U U (by rw [zIR a];rfl)
 have a:¬e.reason=1:=(by simpa using f);refine zR (zC<|zA (zN ?_));refine zI ?_ ?_<;>intro h
 ·have d:e.reason=2:=(by simpa using h);refine zR<|zF Kw ?_
  refine zL Qr<|qcV (vs:=[_]) U zhX (znn I e.code)<|zM ?_
  refine zE ?_;refine zE ?_;refine Qv Kc U U (fun q=>?_);refine zh Zy ?_;refine zA<|zN (zR ?_)
  refine zM<|zO<|zM ?_
  refine Qw 2 U U U ?_;refine zK (Qd U) ?_;refine zK (Qx U U U) ?_;refine QC U U U U U<|zA (zN (Qq (Qn (Qb ?_))))
  first
  | exact zr U U (by rw [zIQ a d];rfl)
 have d:¬e.reason=2:=(by simpa using h);refine zR (zC<|zA (zN ?_));refine zI ?_ ?_<;>intro i
 ·have l:e.reason=3:=(by simpa using i);refine zR<|zF Kw ?_
  refine zL Qr<|zC<|zA (zN (Qq (Qn (Qb ?_))))
  exact zr U U (by rw [zIU a d l])
 have l:¬e.reason=3:=(by simpa using i);exact Qm (Qg (Qa (zR (zA (zN (Qq<|zr U U (by rw [zI0 a d l])))))))
variable{xs:List Int}
theorem zHA {c:Nat}(p:Sl I 1 QF J n c xs)(B:n<=100000)(v:Int):kf 111 [.slice J n c,.int .i64 v] I (.bool (xs.any fun y=>v==y)):=by
 intro g H w u;refine qe Tryz.func111 Tryz.ntmps111 u ?_;refine zR (zA (zN (Qk (zR<|zA (zN (Ql ?_))))));refine zU [(0,_),(1,_)] (fun T t r E s d=>∃ (k:Nat),r=n-k/\E=(5,.int .i64 k)::T/\I=s/\t=d/\k<=n/\(xs.take k).any (fun y=>y==v)=false) ?_ (h:=⟨0,U,U,U,U,jd _,U⟩);rintro r E s d ⟨k,rfl,rfl,rfl,rfl,z,l⟩;refine Qk (zR (zM<|zM ?_));refine zQ Qt<|zC (zN ?_)
 refine zI ?_ ?_<;>intro o
 ·have i:k<n:=kd o;obtain ⟨x,q⟩:=p.at i;refine Qm<|Qa<|Qk<|Ql<|zR<|zM ?_;refine zM ?_;refine zV (Qs U U Qt kE (fun hg=>kB)) ?_;refine zV (Qc U Qr (fun hg=>by exact zJA p q U))<|zM<|zC (zN ?_)
  refine zI ?_ ?_<;>intro a
  ·exact zR (zA (zN (Qq (Qn (Qb (Qb (Qn<|Qb<|zr U U (by rw [<-zjN,YN q a]))))))))
  refine Qm<|Qg<|Qa<|Qh<|zM ?_;exact zB<|zA (Qe<|zm (h:=⟨n-(k+1),kB,k+1,U,U,U,U,kB,Z3 q l a⟩))
 have f:n<=k:=kd o;rw [QZ p.len f] at l;exact Qy (Qf (Qf (Qj (Qa (zR (zA (zN<|Qq<|zr U U (by rw [<-zjN,l]))))))))
variable{dv:Option Addr}{n3 c3:Nat}
theorem zm9 {rows:List (List Int)}(V:SlN I G A F rows)(Z:A<=100000)(a:Sl I 3 Yv dv n3 c3 es)(a3:n3<=100000)(a5:0<rows.length)(a0:∀ r∈rows,r.length=(rows.getD 0 []).length):kf 110 [.slice G A F,.slice dv n3 c3] I (.bool (Ku rows (rows.getD 0 []).length (-1) es)):=by
 intro g H w hw;refine qe Tryz.func110 Tryz.ntmps110 hw ?_;have a2:=V.len;obtain ⟨B,C⟩:=id V;have z:=C.1;have a1:=a.len;obtain ⟨a6,P,K,O,Q⟩:=C.at (k:=0) kB;have W:rows.getD 0 []=P:=QJ O;have p:=Q.len;have D:(rows.getD 0 []).length=P.length:=(by rw [W]);refine zR (zA (zN (Qk (zR<|zA (zN (Ql ?_))))));refine zU [(0,_),(1,_)] (fun T L0 mz E s x=>∃ (k:Nat) (l:Int),mz=n3-k/\E=(5,.int .i64 k)::T/\I=s/\L0=x/\k<=n3/\Ku rows (rows.getD 0 []).length (-1) es=Ku rows (rows.getD 0 []).length l (es.drop k)/\(k=0/\l= -1\/0<k/\0<=l/\(es.getD (k-1) zhY).locus=l)) ?_ (h:=⟨0, -1,U,U,U,U,jd _,U,.inl ⟨U,U⟩⟩);rintro mz E s x ⟨k,l,rfl,rfl,rfl,rfl,hk,o,M⟩;refine Qk (zR (zM<|zM ?_));refine zQ VN<|zC (zN ?_)
 refine zI ?_ ?_<;>intro q
 ·have y:k<n3:=kd q;obtain ⟨e,u⟩:=a.at y;have ek:((k:Int)-1).toNat=k-1:=kB;refine Qm (Qa (Qk (Ql (Qk (Qk<|ZW mixed kA<|zq (Qd U)<|zq (Qd U) ?_)))));refine zq (zX VN a)<|zq (Qi U YQ)<|zq (Qc U Qr (fun hg=>by exact zJA a u U))<|zq (Qx U U U)<|zq (Qd U)<|Ym 6 U U U<|zj (Qd U)<|zj (Qd U)<|zj (zX VN a)<|zj (Qi U YQ)<|zj (Qc U Qr (fun hg=>by exact zJA a u U))<|zj (Qd U) ?_
  refine zj (zX QM z)<|zj (Qc U QA (fun hg=>by exact zJA z K U))<|zj (Zs U Qt)<|zj (Qx U U U)<|Jm U U U U U<|zq (Qd U)<|Ym 18 U U U<|zj (Qd U)<|zj (Qx U U U)<|zj (Qd U)<|Yd 21 U U U<|zk (Qd U) ?_
  refine zk (Qd U)<|zk (zX VN a)<|zk (Qi U YQ)<|zk (Qc U Qr (fun hg=>by exact zJA a u U))<|zk (Qd U)<|zk (Qd U)<|zk (Zf U U U (fun hg=>kB))<|zk (zX VN a)<|zk (Qi U YQ)<|zk (Qc U Qr (fun hg=>by exact zJA (k:=((k:Int)-1).toNat) a (QE (d:=zhY) U (by simp [ZH] at hg;omega)) U))<|zk (Qx U U U)<|UX U U U (.some U U U U gbf) U U ?_
  refine Jm U U U U U<|ZX<|Qa ?_
  refine zI ?_ ?_<;>intro f
  ·rw [ek] at f;have N:(decide (e.locus<=l)||decide (e.locus>=((rows.getD 0 []).length:Int)))=true:=(by rw [<-zI6 M,D,p];exact f);have i:zed rows (rows.getD 0 []).length l e=true:=(by rw [zeH,N];rfl);exact zR (zA (zN (Qq (Qb (Qn (Qb (Qb<|Qn (Qb<|zr U U (by rw [o.trans (VU u i)])))))))))
  rw [ek] at f;have N:(decide (e.locus<=l)||decide (e.locus>=((rows.getD 0 []).length:Int)))=false:=(by rw [<-zI6 M,D,p];exact f);have a4:l<e.locus/\e.locus<((rows.getD 0 []).length:Int):=(by have h:=N;simp only [jS,jR] at h;omega);refine Qm<|Qa<|zR<|zM ?_;refine zM ?_;refine zM ?_;refine zV (zX VN a)<|zV (Qo U zqF (fun hg=>by exact zJI a u) U)<|qcV (vs:=[_,_]) U zyq (zxj V Z e kB (fun r hr=>by rw [a0 r hr];omega)) ?_
  refine zA<|zN (zR ?_)
  refine zM<|zO (zN ?_)
  refine zI ?_ ?_<;>intro t
  ·have i:zed rows (rows.getD 0 []).length l e=true:=(by rw [zeH,N];exact t);exact zR (zA (zN (Qq (Qn (Qb (Qb (Qn<|Qb<|zr U U (by rw [o.trans (VU u i)]))))))))
  have i:zed rows (rows.getD 0 []).length l e=false:=(by rw [zeH,N];exact t);refine Qm<|Qg<|Qa<|Qh<|zM ?_;refine zB<|zA (Qe ?_)
  exact zm (h:=⟨n3-(k+1),kB,k+1,e.locus,U,U,U,U,kB,by rw [o,zdh u i],.inr ⟨kB,kB,by rw [AH,Oz,u];rfl⟩⟩)
 have Y:n3<=k:=kd q;rw [zgi kB] at o;exact Qy (Qf (Qf (Qj (Qa (zR (zA (zN<|Qq<|zr U U (by rw [o]))))))))
variable{no:Int}
theorem zB9 {rows:List (List Int)}(h:YZ rows cl=0)(h2:((decide (no<0)||decide (no>1048576))|| !Ku rows (rows.getD 0 []).length (-1) es)=true):WK rows no cl es=430:=by
 cases h3:(decide (no<0)||decide (no>1048576))
 ·rw [h3,Ai,jZ] at h2;exact Xy h h3 h2
 ·exact zm4 h h3
theorem zxh {rows:List (List Int)}(h2:((decide (no<0)||decide (no>1048576))|| !Ku rows (rows.getD 0 []).length (-1) es)=false):(decide (no<0)||decide (no>1048576))=false/\Ku rows (rows.getD 0 []).length (-1) es=true:=by rw [jS,OC] at h2;exact h2
theorem zy2:ke 109:=.of Tryz.func109 kA kA
theorem zwG:ke 110:=.of Tryz.func110 kA kA
theorem zAt:ke 111:=.of Tryz.func111 kA kA
theorem zDh:ke 65:=.of Tryz.func65 kA kA
set_option maxHeartbeats 4000000 in
theorem zDp   {c:Nat}  (hS:Sl I 1 QF J n c xs)   {rows:List (List Int)} (u:SlN I G A F rows) (a7:A<=100000)    (d:Sl I 3 Yv dv n3 c3 es) (b9:n3<=100000) (c2:n<=100000) (no:Int):kg 65 [.slice G A F,.int .i64 no,.slice J n c,.slice dv n3 c3] I [] (zGm rows no xs es):=by
 intro g H w hw;refine qe Tryz.func65 Tryz.ntmps65 hw ?_;have y:=zJH I;have b7:=hS.len;subst b7;have b8:=u.len;subst b8;have b5:=d.len;subst b5;have a5:=u;obtain ⟨B,hV⟩:=a5;have hH:=hV.1;refine zR<|Qv zhF U U (fun C=>zA<|zN (zR ?_))
 refine zM ?_;refine zM<|zpc [_,_] U zy2 .nil (zrh hS c2 u a7) ?_
 rintro e5 I1 L1 t ⟨rfl,d5,c4,rfl,a4⟩;have hS:=hS.mono t;have u:=u.mono t;have hV:=hV.mono t;have hH:=hH.mono t;have d:=d.mono t;have y:=y.trans t;refine zM ?_;refine zE ?_;refine zE ?_;refine zA<|zA (zN (Qk (zR ?_)))
 refine zM<|zC (zN ?_)
 refine zI ?_ ?_<;>intro O
 ·have f:YZ rows xs≠0:=(by simpa using O);refine zR<|zV (QK (ps:=[]) [_,_,_,_] zfL U U)<|zM<|zh Ko ?_
  refine zA<|zN<|Qq<|Qb ?_
  first
  | exact Zg U U U ZG (vs:=ZI 0 none 0 0 none 0 0 none 0 0) kI U (fun w hw=>⟨_,_,[],U,y,hw.drop,U,_,by rw [zgC f]<;>rfl,.inr ⟨by rw [zgC f];exact f,_,_,_,_,_,_,_,_,_,U,.nil,.nil,.nil⟩⟩)
 have f:YZ rows xs=0:=by simpa using O
 have c6:Vc rows=0:=by cases Bn (Vc rows=0) with
  | inl h=>exact h
  | inr h=>exact absurd ((zdI h).1.symm.trans f) h
 obtain ⟨d9,e0,d3,c8⟩:=Js c6;obtain ⟨x0,v0,b2,d0,z⟩:=hV.at (k:=0) kB;have K:rows.getD 0 []=v0:=QJ d0;have d2:=z.len;have d8:(rows.getD 0 []).length=v0.length:=(by rw [K]);rw [zf3 f] at a4 ⊢;refine Qm (Qa (Qk (zR (zM<|zC ?_))));refine zM ?_;refine QI 2 U U U ?_;refine zJ (Qd U)<|zJ (Qx U U U) ?_
 refine Q5 U U U U U<|zM ?_
 refine QI 6 U U U ?_;refine zJ (Qd U)<|zJ (Qd U)<|qf (vs:=[_,_]) U zwG (fun hg=>zm9 u a7 d b9 kB (fun r hr=>(c8 r hr).1))<|zJ (ZT U)<|Q5 U U U U U<|zN ?_
 refine zI ?_ ?_<;>intro P
 ·have Z:WK rows no xs es=430:=zB9 f P;refine zR<|zV (QK (ps:=[]) [_,_,_,_] zfL U U)<|zh Ko ?_
  refine zA<|zN<|Qq<|Qb ?_
  first
  | exact Zg U U U ZG (vs:=ZI 0 none 0 0 none 0 0 none 0 0) kI U (fun w hw=>⟨_,_,[],U,y,hw.drop,U,_,by rw [Z]<;>rfl,.inr ⟨by rw [Z];decide,_,_,_,_,_,_,_,_,_,U,.nil,.nil,.nil⟩⟩)
 have i:=zxh P;refine Qm<|Qa<|zR<|zM ?_;refine zM ?_;refine zM<|zV (QK (ps:=[(0,_),(1,_),(2,_)]) [_,_,_,_] zfL U U)<|Qv zhF U U (fun q=>?_)
 refine zh Ko<|zN (Qk (Qk<|JB (loc':=[]++[(q,.cells (ZI no J xs.length c dv es.length c3 none 0 0).toArray 26 (0,0)),(C,.cells (ZI 0 none 0 0 none 0 0 none 0 0).toArray 26 (0,0))]) U<|Qh (zA (zN (Ql<|zU [(0,_),(3,_),(8,_),(10,_),(12,_)] (fun T L0 mz E s a=>∃ (k:Nat) (p:Option Addr) (x:Nat) (L:Go.Kn.Loc),mz=(rows.getD 0 []).length-k/\E=(13,.int .i64 k)::T/\I1=s/\L++[(q,.cells (ZI no J xs.length c dv es.length c3 p k x).toArray 26 (0,0)),(C,.cells (ZI 0 none 0 0 none 0 0 none 0 0).toArray 26 (0,0))]=a/\k<=(rows.getD 0 []).length/\OwnS 3 1 (.slice p k x) k (((List.range k).map (W8 rows xs es)).flatMap QF) L) ?_ (h:=⟨0,none,0,[],U,U,U,U,jd _,OwnS.nil⟩))))))
 rintro mz E s a ⟨k,p,x,L,rfl,rfl,rfl,rfl,hk,hO⟩;refine Qk (zR (zM<|zM ?_));refine zQ QM<|zC (zN ?_)
 refine zI ?_ ?_<;>intro Q
 ·have o:k<(rows.getD 0 []).length:=(by have h:=Oq Q;omega);obtain ⟨e2,N⟩:=id a4;have D:=N.1;obtain ⟨rx,rv,b1,a9,hQ⟩:=N.at o;have b0:=zkB f o;rw [b0] at a9;cases a9;have c7:=zdX (rows:=rows) (cl:=xs) (l:=k);have d7:=hQ.len;have c5:(VP rows xs k)[0]? =some ((VP rows xs k).getD 0 0):=QE U c7;have a6:v0[k]? =some (v0.getD k 0):=QE U (by rw [<-K];exact o);have d4:=zh7 (rows:=rows) (l:=k);have e1:(VP rows xs k).length<=(stE rows k).length:=jE _ _;refine Qm<|Qa<|Qk<|Ql<|zR<|zM ?_;refine zM ?_;refine zV (zX QM D)<|zV (Qc U QA (fun hg=>by exact zJA D b1 U))<|zV (zX Qt hQ)<|zV (Qc U Qr (fun hg=>by exact zJA hQ c5 U))<|zA (zN ?_)
  refine zY [(0,_),(3,_),(8,_),(10,_),(12,_),(13,_)] (fun T L0 E s a=>∃ (nb:Int),E=(14,.int .i64 nb)::T/\I1=s/\L++[(q,.cells (ZI no J xs.length c dv es.length c3 p k x).toArray 26 (0,0)),(C,.cells (ZI 0 none 0 0 none 0 0 none 0 0).toArray 26 (0,0))]=a/\nb=JN rows xs k) ?_ ?_
  ·refine Qk<|ZW mixed kA<|zq (Qd U)<|zq (Qd U) ?_
   refine zq (zX QM D) ?_;refine zq (Qc U QA (fun hg=>by exact zJA D b1 U))<|zq (Qd U) ?_
   refine zq (zX QM hH) ?_;refine zq (Qc U QA (fun hg=>by exact zJA hH b2 U))<|zq (Qd U) ?_
   refine zq (zX Qt z) ?_;refine zq (Qc U Qr (fun hg=>by exact zJA z a6 U))<|YG (cap:=[]) (vs:=[_,_]) U U zAt (zHA hQ kB _) U U<|ZX<|Qa ?_
   refine zI ?_ ?_<;>intro V
   ·refine Qh (zM<|zV (zX QM hH)<|zV (Qc U QA (fun hg=>by exact zJA hH b2 U))<|zM ?_);refine zV (zX Qt z)<|zV (Qc U Qr (fun hg=>by exact zJA z a6 U))<|zA (Qe ?_)
    first
    | exact Ya _ _ ⟨_,U,U,U,by unfold JN;rw [K,jb V]⟩ kc .refl
   refine Qm ?_
   first
   | exact Ya _ _ ⟨_,U,U,U,by unfold JN;rw [K,ja (by rw [V];decide)]⟩ kc .refl
  rintro E s a ⟨nb,rfl,rfl,rfl,c1⟩;refine Qk (zR (zA (zN (Ql<|zU [(0,_),(3,_),(8,_),(10,_),(12,_),(13,_)] (fun T L0 mz E s a=>∃ (j:Nat) (nn:Int),mz=es.length-j/\E=(14,.int .i64 nn)::(15,.int .i64 j)::T/\I1=s/\L++[(q,.cells (ZI no J xs.length c dv es.length c3 p k x).toArray 26 (0,0)),(C,.cells (ZI 0 none 0 0 none 0 0 none 0 0).toArray 26 (0,0))]=a/\j<=es.length/\nn=(es.take j).foldl (emF k) (JN rows xs k)) ?_ (h:=⟨0,_,U,U,U,U,jd _,c1⟩)))));rintro mz E s a ⟨j,nn,rfl,rfl,rfl,rfl,hj,M⟩;refine Qk (zR (zM<|zM ?_));refine zQ VN<|zC (zN ?_)
  refine zI ?_ ?_<;>intro W
  ·have a3:j<es.length:=kd W;obtain ⟨e,he⟩:=d.at a3;refine Qm<|Qa<|Qk<|Ql<|zR<|zM ?_;refine zM ?_;refine zV (zX VN d)<|zF YQ ?_
   refine zV (Qc U Qr (fun hg=>by exact zJA d he U))<|zM<|zC (zN ?_)
   refine zI ?_ ?_<;>intro Y
   ·refine Qh (zM<|zM ?_);refine zV (zX VN d)<|zF Kw ?_
    refine zV (Qc U Qr (fun hg=>by exact zJJ (j:=1) d he U))<|zA (Qe (Qg (Qa (Qh<|zM ?_))))
    refine zB<|zA (Qe ?_)
    first
    | exact zm (h:=⟨es.length-(j+1),kB,j+1,_,U,U,U,U,kB,by rw [znv he,<-M];unfold emF;rw [jb (by simpa using Y)]⟩)
   refine Qm<|Qg<|Qa<|Qh<|zM ?_;refine zB<|zA (Qe ?_)
   first
   | exact zm (h:=⟨es.length-(j+1),kB,j+1,_,U,U,U,U,kB,by rw [znv he,<-M];unfold emF;rw [ja (by simpa using Y)]⟩)
  have a2:es.length<=j:=kd W;rw [jr a2,zgB i.2] at M;obtain ⟨n9,c0⟩:∃ n9,n9=nn:=⟨_,U⟩;subst c0;have a8:=M;refine Qy (Qf (Qf (Qj (Qa (Qh<|zF Ye ?_)))));refine zV (Qc U QA (fun hg=>by (repeat (first | exact zJC U | apply zJB | apply zJD))))<|zM ?_
  refine zpb [(0,_)] [QF n9] QS (fun d1=>?_);refine zpa (_) ([n9].flatMap QF) (L) U U QS hO ⟨U,fun _=>U,by repeat (first | exact zJF | apply zJE | apply zJG)⟩ (YJ [n9]) ?_;intro v9 L9 a1 _;rw [<-jh] at a1;obtain ⟨e3,e4,rfl⟩:=zaV a1;refine zF Ye ?_;refine zS Ze ?_;refine Qe<|Qg<|Qa<|Qh<|zM ?_;refine zB<|zA (Qe ?_)
  exact zm (h:=⟨(rows.getD 0 []).length-(k+1),kB,k+1,_,_,_,U,U,U,U,kB,by rw [KE,<-a8];exact a1⟩)
 have b6:(rows.getD 0 []).length<=k:=(by have h:=AI Q;omega);obtain rfl:k=(rows.getD 0 []).length:=kB;refine Qy (Qf (Qf (Qj (Qa (zR<|zV (Qo U ZG (fun hg=>by (repeat (first | exact zJF | apply zJE | apply zJG))) U) ?_)))));refine zh Ko ?_;refine zA<|zN<|Qq ?_
 first
 | exact Zg U U U ZG (vs:=ZI no J xs.length c dv es.length c3 p (rows.getD 0 []).length x) kG U (fun w hw=>by obtain ⟨I9,d6,c9,a0,b3,e9,b4⟩:=OwnS.freeze (R:=[_,_]) hO QL kC hw;cases e9;exact ⟨_,I9,[],U,y.trans a0,b3.drop,U,_,by rw [zjU f i.1 i.2]<;>rfl,.inl ⟨zjU f i.1 i.2,J,_,_,dv,_,_,p,_,_,U,hS.mono a0,d.mono a0,b4⟩⟩)
variable{N O Q:Option Addr}{K V D W M Y:Nat}{rd:List Int}
theorem zg0 {rows:List (List Int)}(t:SlN I G A F rows)(C:A<=100000)(u:Sl I 1 QF N K V xs)(x:Sl I 3 Yv O D W es)(l:Sl I 1 QF Q M Y rd)(y:K<=100000)(z:D<=100000)(B:M<=100000)(no:Int):kf 32 [.slice G A F,.agg (ZI no N K V O D W Q M Y).toArray] I (.int .i64 (K8 rows no xs es rd)):=by
 intro g H w hw;refine qe Tryz.func32 Tryz.ntmps32 hw ?_;have d:=zJH I;refine zR<|QU U U U (fun E=>zA<|zN (zR ?_))
 refine zM<|zF zjo ?_
 refine zL Qr<|zF zeI ?_
 refine zL QA<|zF UB ?_
 refine zL zcn<|zpc [_,_,_,_] U zDh .nil (zDp u t C x z y no) ?_
 rintro a8 I1 L1 p r;have l:=l.mono p;have d:=d.trans p;obtain ⟨rfl,a6,T,Z,a7,a1,q1,c1,a2,q2,c9,a3,q3,c3,rfl,a0,a4,q,s,a5⟩:=r.opn;refine zM ?_;refine zE ?_;refine zE ?_;refine Qv zhF U U (fun P=>?_);refine zh Ko ?_;refine zA<|zN<|Qk<|zR ?_;refine zM<|zC (zN ?_)
 refine zI ?_ ?_<;>intro f
 ·have a:WK rows no xs es≠0:=(by have h:=f;simpa using h);refine zR (zM<|zA (zN (Qq (Qb ?_))))
  first
  | exact zp d U U (by rw [zAF a]<;>rfl)
 have a:WK rows no xs es=0:=(by have h:=f;simpa using h);obtain ⟨-, -, -,rfl⟩:=s a;refine Qm (Qa (Qk (zR<|zF Ye ?_)));refine zL QA<|zF Ye ?_
 refine zL QA<|qcV (vs:=[_,_]) U zuM (zqB l q B)<|zO (zN ?_)
 refine zI ?_ ?_<;>intro i
 ·have o:rd≠Je rows xs es:=fun e=>(by have h:=i;rw [jN e] at h;cases h);refine zR<|zA<|zN<|Qq<|Qb ?_
  first
  | exact zp d U U (by rw [zDI a o]<;>rfl)
 have o:rd=Je rows xs es:=OT fun e=>(by have h:=i;rw [jX e] at h;cases h);refine Qm<|Qa<|zR<|zA<|zN<|Qq ?_
 first
 | exact zp d U U (by rw [ztu a o]<;>rfl)
def V9 (p:Int->Bool):Nat->List Int->Int
 | _,[]=> -1
 | j,v::vs=>if p v=true then (j:Int) else V9 p (j+1) vs
def okV (v:Int):Bool:=v != 8589934592&&v != 0
def exV (code v:Int):Bool:=okV v&&v==code
def Jh (rows:List (List Int))(k:Nat):List Int:=rows.map fun r=>r.getD k 0
variable{i:Nat}{r:List Int}
theorem zvw {rows:List (List Int)}(h:rows[i]? =some r):(Jh rows k)[i]? =some (r.getD k 0):=by unfold Jh;rw [jB,h];rfl
theorem zl4 {rows:List (List Int)}:(Jh rows k).length=rows.length:=by unfold Jh;simp
variable{p:Int->Bool}{l:List Int}{v:Int}
theorem zhP (h:l[j]? =some v)(a:p v=true):V9 p j (l.drop j)=j:=by rw [ZA h];unfold V9;rw [jb a]
theorem zgK (h:l[j]? =some v)(a:p v=false):V9 p j (l.drop j)=V9 p (j+1) (l.drop (j+1)):=by rw [ZA h];show (if p v=true then (j:Int) else _)=_;rw [ja (by rw [a];decide)]
theorem zo3 (h:l.length<=j):V9 p j (l.drop j)= -1:=by rw [Or h];rfl
theorem zlI {p:Int->Bool}:∀ {l:List Int} {j:Nat},0<=V9 p j l->∃ i v,V9 p j l=((j+i:Nat):Int)/\l[i]? =some v/\p v=true
 | [],j,h=>by unfold V9 at h;omega
 | v::vs,j,h=>by
  unfold V9 at h ⊢;by_cases a:p v=true
  ·rw [jb a];exact ⟨0,v,by simp,U,a⟩
  ·rw [ja a] at h ⊢;obtain ⟨i,u,d,f,g⟩:=zlI h;exact ⟨i+1,u,by rw [d];omega,by simpa using f,g⟩
def X0 (l:List Int):Nat:=(l.filter okV).length
theorem zjS (h:l[j]? =some v)(a:okV v=true):X0 (l.drop j)=X0 (l.drop (j+1))+1:=by rw [ZA h];unfold X0;rw [Oc,jb a];rfl
theorem zqo (h:l[j]? =some v)(a:okV v=false):X0 (l.drop j)=X0 (l.drop (j+1)):=by rw [ZA h];unfold X0;rw [Oc,ja (by rw [a];decide)]
def za6 (l:List Int):Bool:=l.any fun v=>v==8589934592
theorem zlZ (h:l[j]? =some v):za6 (l.drop j)=(v==8589934592||za6 (l.drop (j+1))):=by rw [ZA h];rfl
theorem zAr (l:List Int):X0 l<=l.length:=jE _ _
def zk8 (rows:List (List Int))(k:Nat)(code:Int):Int:=if V9 (exV code) 0 (Jh rows k)>=0 then V9 (exV code) 0 (Jh rows k) else V9 okV 0 (Jh rows k)
def zvx (ws:List Wr)(rows:List (List Int))(k:Nat):Bool:=(decide ((ws.length:Int)>=2)&&((X0 (Jh rows k):Nat):Int)==1)&& !za6 (Jh rows k)
def zbc (ws:List Wr)(rows:List (List Int))(k:Nat)(code:Int):Option Sg:=
 if V9 okV 0 (Jh rows k)<0 then none else some (XY k code (ydF ws rows (zk8 rows k code).toNat k).sg (zvx ws rows k))
variable{code:Int}
theorem zE5 (h:V9 okV j l<0):V9 (exV code) j l<0:=by
 induction l generalizing j with
 | nil=>exact h
 | cons v d ih=>
  unfold V9 at h ⊢;by_cases a:okV v=true
  ·rw [jb a] at h;omega
  ·rw [ja a] at h;rw [ja (by unfold exV;simp [a])];exact ih h
theorem zuE {rows:List (List Int)}(h:¬V9 okV 0 (Jh rows k)<0):∃ (i:Nat) (r:List Int),zk8 rows k code=(i:Int)/\rows[i]? =some r/\r.getD k 0≠0:=by
 have key:∀ p:Int->Bool,(∀ v,p v=true->v≠0)->0<=V9 p 0 (Jh rows k)->∃ (i:Nat) (r:List Int),V9 p 0 (Jh rows k)=(i:Int)/\rows[i]? =some r/\r.getD k 0≠0:=fun p q h0=>by
  obtain ⟨i,v,g,d,o⟩:=zlI h0;unfold Jh at d;rw [jB] at d;obtain ⟨r,s,e⟩:=Ot.1 d;exact ⟨i,r,by rw [g];simp,s,by rw [e];exact q v o⟩
 have f:∀ v,okV v=true->v≠0:=fun v a=>(by unfold okV at a;simp at a;exact a.2);unfold zk8;split
 ·rename_i h1;exact key _ (fun v a=>f v (by unfold exV at a;simp at a;exact a.1)) h1
 ·exact key _ f kB
variable{ws:List Wr}
theorem ztX {rows:List (List Int)}{x:Wr}(d:ws[i]? =some x)(a:rows[i]? =some r):ydF ws rows i k=x.rs.getD (nzF r k) zcw:=by unfold ydF;rw [d,QJ a];rfl
theorem zwE {rows:List (List Int)}(h:V9 okV 0 (Jh rows k)<0):zbc ws rows k code=none:=by unfold zbc;rw [jb h]
variable{y:Rd}
theorem zit {rows:List (List Int)}{m:Bool}(h:¬V9 okV 0 (Jh rows k)<0)(a:zk8 rows k code=(i:Int))(f:ydF ws rows i k=y)(d:zvx ws rows k=m):zbc ws rows k code=some (XY k code y.sg m):=by unfold zbc;rw [ja h,a,d,<-f];rfl
theorem zen:zi4 Tryz.prog 60 1 1 14:=.of kA
theorem zqE:ke 177:=.of Tryz.func177 kA kA
variable{rs:List Rd}{Z:List Int}
theorem zb6 {c:Nat}(hR:Sl I 15 Kf J n c rs)(u:Sl I 1 QF G A F Z)(no yr:Int)(k:Nat)(hk:k<=A)(_hn:n<=100000)(a3:A<=100000)(hz:nzF Z k<n):kf 177 [.agg #[.int .i64 no,.int .i64 yr,.slice J n c],.slice G A F,.int .i64 k] I (.agg (Kf (rs.getD (nzF Z k) zcw)).toArray):=by
 intro g H w hw;refine qe Tryz.func177 Tryz.ntmps177 hw ?_;have x:=hR.len;have a2:=u.len;refine zR<|QU U U U (fun a0=>Qv zoG U U (fun a1=>zN (zR<|zA (zN (Qk (zR<|zA (zN (Ql ?_))))))))
 refine zU [(1,_),(2,_),(3,_),(6,_)] (fun T L0 mz E s o=>∃ (i:Nat) (q:Int),mz=k-i/\E=(7,.int .i64 q)::(8,.int .i64 i)::T/\I=s/\L0=o/\i<=k/\q=((nzF Z i:Nat):Int)/\nzF Z i<=i) ?_ (h:=⟨0,_,U,U,U,U,jd _,U,jn _⟩);rintro mz E s o ⟨i,q,rfl,rfl,rfl,rfl,hi,P,a4⟩;refine Qk (zR (zM<|zM<|zC (zN ?_)));refine zI ?_ ?_<;>intro f
 ·have C:i<k:=kd f;obtain ⟨cv,t⟩:∃ cv,Z[i]? =some cv:=u.at kB;refine Qm<|Qa<|Qk<|Ql<|zR<|zM ?_;refine zM ?_;refine zV (zX Qt u)<|zV (Qc U Qr (fun hg=>by exact zJA u t U))<|zC (zN ?_)
  refine zI ?_ ?_<;>intro a
  ·refine Qh<|zM ?_;refine zB<|zA (Qe (Qg (Qa (Qh<|zM ?_))))
   refine zB<|zA (Qe ?_)
   first
   | exact zm (h:=⟨k-(i+1),kB,i+1,_,U,U,U,U,kB,by rw [zeY t (by simpa using a)];omega,by rw [zeY t (by simpa using a)];omega⟩)
  refine Qm<|Qg<|Qa<|Qh<|zM ?_;refine zB<|zA (Qe ?_)
  first
  | exact zm (h:=⟨k-(i+1),kB,i+1,_,U,U,U,U,kB,by rw [ziQ t (by simpa using a)];exact P,by rw [ziQ t (by simpa using a)];omega⟩)
 have z:k<=i:=kd f;have B:i=k:=kB;rw [B] at P;subst P;refine Qy (Qf (Qf (Qj (Qa (zR<|zF V4 ?_)))));refine zL UL<|zM ?_
 refine zV (zX KW hR)<|zV (Qo U zb4 (fun hg=>by exact zJI (k:=nzF Z k) hR (QE (d:=zcw) x hz)) U) ?_
 refine zh zfE<|zN (Qq ?_)
 exact ZD U U zb4 kI U (fun w hw=>⟨U,hw.drop⟩)
set_option maxHeartbeats 4000000 in
theorem zrM   {c:Nat}  (c7:SlW I J n c ws)   {rows:List (List Int)} (hV:SlN I G A F rows) (e0:A<=100000) (d4:rows.length=ws.length) (k:Nat) (hk:∀ r∈rows,k<r.length) (d1:∀ x∈ws,x.rs.length<=100000) (d0:∀ r∈rows,r.length<=100000) (c9:zGz ws rows) (code:Int):kf 126 [.slice J n c,.slice G A F,.int .i64 k,.int .i64 code] I (.tuple #[VD ((zbc ws rows k code).getD za5),.bool (zbc ws rows k code).isSome]):=by
 intro g H w hw;refine qe Tryz.func126 Tryz.ntmps126 hw ?_;obtain ⟨e4,hW⟩:=id c7;have hH:=hW.1;have c0:=hW.len;have d8:=hV.len;obtain ⟨B,b7⟩:=id hV;have a4:=b7.1;have a5:(Jh rows k).length<=rows.length:=(by rw [zl4];exact jn _);refine zR<|Qv Kc U U (fun c5=>zA<|zN (zR<|zA<|zN (zR<|zA<|zN (zR<|zA<|zN (zR<|zA (zN (Qk (zR ?_))))))))
 refine zM ?_;refine zQ Z9 ?_;refine zB<|zA (zN (Ql ?_))
 refine zU [(0,_),(1,_),(2,_),(3,_),(8,_)] (fun T L0 mz E s t=>∃ (j:Nat) (q ex so:Int) (mn:Nat) (lo:Bool),mz=(j+1)/\E=(10,.int .i64 ex)::(11,.int .i64 so)::(12,.int .i64 mn)::(13,.bool lo)::(14,.int .i64 q)::T/\I=s/\L0=t/\q=(j:Int)-1/\j<=rows.length/\ex=V9 (exV code) j ((Jh rows k).drop j)/\so=V9 okV j ((Jh rows k).drop j)/\mn=X0 ((Jh rows k).drop j)/\lo=za6 ((Jh rows k).drop j)) ?_ (h:=⟨rows.length,_,_,_,0,false,U,U,U,U,kB,jn _,(zo3 a5).symm,(zo3 a5).symm,by rw [Or a5];rfl,by rw [Or a5];rfl⟩);rintro mz E s t ⟨j,q,ex,so,mn,lo,rfl,rfl,rfl,rfl,hq,hj,P,a8,a6,a1⟩;refine Qk (zR (zM<|zC (zN ?_)));refine zI ?_ ?_<;>intro a9
 ·obtain ⟨i,rfl⟩:∃ i,j=i+1:=⟨j-1,by have h:=a9;simp at h;omega⟩;obtain rfl:q=(i:Int):=kB;obtain ⟨h1,r1,hh,hr,hQ⟩:=b7.at (k:=i) kB;have c6:=hQ.len;have b9:=hk _ (je hr);have f:=zvw (k:=k) hr;have c8:=zAr ((Jh rows k).drop (i+1));rw [Oy] at c8;refine Qm<|Qa<|Qk<|Ql<|zR<|zM ?_;refine zM ?_;refine zV (zX QM a4)<|zV (Qc U QA (fun hg=>by exact zJA a4 hh U))<|zM ?_
  refine zV (zX Qt hQ)<|zV (Qc U Qr (fun hg=>by exact zJA (k:=k) hQ (QE (d:=0) U kB) U))<|zA<|zN (zR ?_)
  refine zM<|zC (zN ?_)
  refine zI ?_ ?_<;>intro b0
  ·have a3:(r1.getD k 0)=8589934592:=(by simpa using b0);have o:okV (r1.getD k 0)=false:=(by rw [a3];rfl);have z:exV code (r1.getD k 0)=false:=(by unfold exV;rw [o];rfl);have a0:za6 ((Jh rows k).drop i)=true:=(by rw [zlZ f,a3];rfl);refine Qh (zA (Qe (Qg (Qa (Qh<|zM ?_)))));refine zB<|zA (Qe ?_)
   first
   | exact zm (h:=⟨i+1,kB,i,_,_,_,_,_,U,U,U,U,kB,kB,by rw [zgK f z];exact P,by rw [zgK f o];exact a8,by rw [zqo f o];exact a6,a0.symm⟩)
  have a3:((r1.getD k 0)==8589934592)=false:=b0;have a0:za6 ((Jh rows k).drop i)=za6 ((Jh rows k).drop (i+1)):=(by rw [zlZ f,a3,Ai]);refine zR (zM<|zC (zN ?_));refine zI ?_ ?_<;>intro b1
  ·have o:okV (r1.getD k 0)=true:=(by unfold okV;rw [b1,bne,a3];rfl);refine zR (zM<|zA<|zN (zR ?_));refine zM ?_;refine zB<|zA<|zN (zR ?_)
   refine zM ?_;refine zM<|zC (zN ?_)
   refine zI ?_ ?_<;>intro b2
   ·have z:exV code (r1.getD k 0)=true:=(by unfold exV;rw [o,b2];rfl);refine Qh (zM<|zA (Qe (Qg (Qa (Qh<|zM ?_)))));refine zB<|zA (Qe ?_)
    first
    | exact zm (h:=⟨i+1,kB,i,_,_,_,(mn+1),_,U,U,U,U,kB,kB,by rw [zhP f z],by rw [zhP f o],by rw [zjS f o];omega,by rw [a0];exact a1⟩)
   have z:exV code (r1.getD k 0)=false:=(by unfold exV;rw [o,b2];rfl);refine Qm<|Qg<|Qa<|Qh<|zM ?_;refine zB<|zA (Qe ?_)
   first
   | exact zm (h:=⟨i+1,kB,i,_,_,_,(mn+1),_,U,U,U,U,kB,kB,by rw [zgK f z];exact P,by rw [zhP f o],by rw [zjS f o];omega,by rw [a0];exact a1⟩)
  have o:okV (r1.getD k 0)=false:=(by unfold okV;rw [b1];exact OP _);have z:exV code (r1.getD k 0)=false:=(by unfold exV;rw [o];rfl);refine Qm<|Qg<|Qa<|Qh<|zM ?_;refine zB<|zA (Qe ?_)
  first
  | exact zm (h:=⟨i+1,kB,i,_,_,_,_,_,U,U,U,U,kB,kB,by rw [zgK f z];exact P,by rw [zgK f o];exact a8,by rw [zqo f o];exact a6,by rw [a0];exact a1⟩)
 obtain rfl:j=0:=kd a9;rw [List.drop_zero] at P a8 a6 a1;subst P;subst a8;subst a6;subst a1;refine Qy (Qf (Qf (Qj (Qa (Qk (zR (zM<|zC (zN ?_))))))));refine zI ?_ ?_<;>intro b3
 ·have a2:V9 okV 0 (Jh rows k)<0:=(by simpa using b3);have a7:=zwE (ws:=ws) (code:=code) a2;refine zR<|zV (QK (ps:=[]) [_,_,_,_,_,_,_,_,_,_,_,_,_,_] JI U U)<|zh Zy ?_
  refine zA<|zN<|Qq<|Qb ?_;exact Zg U U U QQ kI U (fun w hw=>⟨by rw [a7];rfl,hw.drop⟩)
 have a2:¬V9 okV 0 (Jh rows k)<0:=(by simpa using b3);refine Qm<|Qa ?_;refine zY [(0,_),(1,_),(2,_),(3,_),(8,_),(12,_),(13,_)] (fun T L0 E s t=>∃ (wo:Int),E=(11,.int .i64 wo)::T/\I=s/\L0=t/\wo=zk8 rows k code) ?_ ?_
 ·refine zR (zM<|zC (zN ?_));refine zI ?_ ?_<;>intro b4
  ·refine Qh (zM<|zA (Qe ?_))
   first
   | exact Ya _ _ ⟨_,U,U,U,by unfold zk8;rw [jb (by simpa using b4)]⟩ kc .refl
  refine Qm ?_
  first
  | exact Ya _ _ ⟨_,U,U,U,by unfold zk8;rw [ja (by simpa using b4)]⟩ kc .refl
 rintro E s t ⟨wo,rfl,rfl,rfl,c2⟩;obtain ⟨i,r1,b8,c1,d2⟩:=zuE a2;rw [b8] at c2;subst c2;have d9:=(jc.1 c1).1;obtain ⟨w,x,hx,hv,e1,e2,hR⟩:=hW.at (k:=i) kB;obtain ⟨h1,r2,hh,hr,hQ⟩:=b7.at (k:=i) kB;obtain rfl:r2=r1:=(by rw [c1] at hr;exact (Ob hr).symm);have c6:=hQ.len;have d7:=hR.len;have b9:=hk _ (je hr);have e3:=c9 i x _ hv hr k b9 d2;have c4:=ztX (k:=k) hv hr;have d6:=d1 x (je hv);have d5:=d0 _ (je hr);refine zY [(0,_),(2,_),(3,_),(8,_),(12,_),(13,_)] (fun T L0 E s t=>∃ (b6:Nat),E=(16,.pointer (some ⟨b6,0,none⟩))::T/\I=s/\(b6,.cells (YA (x.rs.getD (nzF r2 k) zcw).sg).toArray 54 (0,0))::[(c5,.cells (YA za5).toArray 54 (0,0))]=t) ?_ ?_
 ·have u:=zJH I;refine VR<|ZM I [] mixed<|zT 0 U (Qd U) u<|zT 1 U (Qd U) u<|zT 2 U (zX Z9 hH) u<|zT 3 U (Qo U XC (fun hg=>by exact zJI hH hx) U) u<|zT 4 U (Qd U) u<|zT 5 U (Qd U) u<|zT 6 U (zX QM a4) u<|zT 7 U (Qc U QA (fun hg=>by exact zJA a4 hh U)) u<|zT 8 U (Qd U) u ?_
  refine Zv 9 11 U U kA ?_ ?_
  ·refine YE (cap:=[]) (vs:=[.agg (zlz w).toArray,.slice h1.a h1.n h1.c,.int .i64 k]) (v:=.agg (Kf (x.rs.getD (nzF r2 k) zcw)).toArray) ?_ ?_ zqE ?_ ?_ ?_ ?_
   ·exact U
   ·exact U
   ·exact zb6 hR hQ w.no w.yr k kB kB kB kB
   ·exact U
   ·exact U
   refine Qe<|zD u ?_
   refine Zv 10 11 U U kA ?_ ?_
   focus
    refine zV (zas [_,_,_,_,_,_,_,_,_,_,_,_,_,_] U zen U)<|Qe<|zD u<|qd 11 U<|Qv Kc U U (fun C=>?_)
   rotate_left
   refine Qv Kc U U (fun C=>Qe<|zD u<|qd 10 U<|zV (zas [_,_,_,_,_,_,_,_,_,_,_,_,_,_] U zen U) ?_)
   all_goals
    refine Qe<|zD u<|qd 12 U ?_
    exact zh Zy<|Qe<|zD u<|QH kA<|QP<|Ya _ _ ⟨C,U,U,U⟩ kc .refl
  refine Qv Kc U U (fun C=>Qe<|zD u<|qd 9 U ?_);refine YE (cap:=[]) (vs:=[.agg (zlz w).toArray,.slice h1.a h1.n h1.c,.int .i64 k]) (v:=.agg (Kf (x.rs.getD (nzF r2 k) zcw)).toArray) ?_ ?_ zqE ?_ ?_ ?_ ?_
  ·exact U
  ·exact U
  ·exact zb6 hR hQ w.no w.yr k kB kB kB kB
  ·exact U
  ·exact U
  refine Qe<|zD u<|qd 10 U<|zV (zas [_,_,_,_,_,_,_,_,_,_,_,_,_,_] U zen U)<|Qe<|zD u<|qd 12 U ?_
  exact zh Zy<|Qe<|zD u<|QH kA<|QP<|Ya _ _ ⟨C,U,U,U⟩ kc .refl
 rintro E s t ⟨b6,rfl,rfl,rfl⟩;refine zR (zM<|qcV (vs:=[_]) U zhX (znn I code)<|zM ?_);refine zE ?_;refine zE ?_;refine Qv Kc U U (fun d3=>?_);refine zh Zy ?_;refine zA<|zN (zR ?_)
 refine zM<|zF Zu ?_
 refine zS ZO ?_;refine zN (zR<|zF Vn ?_);refine zL Qr<|zF Vn ?_
 refine zS ZO ?_;refine zN (zR<|zF YP ?_);refine zL Qr<|zF YP ?_
 refine zS ZO ?_;refine zN (zR<|zF Yy ?_);refine zV (Qo U Ys (fun hg=>by exact Cells.s1 (vs:=[_,_]) U) U)<|zF Yy<|YW U U UP U U U U (by repeat (first | exact Upd.here | apply Upd.there | apply QN))<|zN (zR<|zF Yz ?_)
 refine zV (Qo U Ys (fun hg=>by exact Cells.s1 (vs:=[_,_]) U) U)<|zF Yz<|YW U U UP U U U U (by repeat (first | exact Upd.here | apply Upd.there | apply QN))<|zN (Qk (zR (zM<|zQ Z9<|zC ?_)))
 refine zM ?_;refine Qw 3 U U U ?_;refine zK (Qd U) ?_;refine zK (Qx U U U) ?_;refine QC U U U U U ?_;refine zM ?_;refine Qw 7 U U U ?_;refine zK (Qd U)<|zK (ZT U)<|QC U U U U U<|zN ?_
 refine zI ?_ ?_<;>intro b5
 focus
  have a7:=zit (code:=code) a2 b8 c4 (show zvx ws rows k=true from by unfold zvx;rw [c0];exact b5);refine Qh<|zF YP ?_
  refine zS ZO ?_;refine zN<|zR ?_
 rotate_left
 have a7:=zit (code:=code) a2 b8 c4 (show zvx ws rows k=false from by unfold zvx;rw [c0];exact b5);refine Qm<|Qa<|zR ?_
 all_goals
  refine zV (Qo U QQ (fun hg=>by exact Cells.g0) U) ?_;refine zh Zy ?_;refine zA<|zN<|Qq ?_;exact Zg U U U QQ kI U (fun w hw=>⟨by rw [a7];rfl,hw.drop⟩)
def zcZ (ws:List Wr)(rows:List (List Int))(rd:List Int):Nat->Option (List Sg)
 | 0=>some []
 | k+1=>match zcZ ws rows rd k with
  | none=>none
  | some l=>if (rd.getD k 0==0)=true then some l else (zbc ws rows k (rd.getD k 0)).map fun x=>l++[x]
theorem zqX {rows:List (List Int)}{l:List Sg}(h:zcZ ws rows rd k=some l)(a:rd[k]? =some c)(h0:(c==0)=true):zcZ ws rows rd (k+1)=some l:=by show (match zcZ ws rows rd k with | none=>none | some l=>if (rd.getD k 0==0)=true then some l else (zbc ws rows k (rd.getD k 0)).map fun x=>l++[x])=_;rw [h];simp only;rw [QJ a,jb h0]
theorem zwX {rows:List (List Int)}{l:List Sg}(h:zcZ ws rows rd k=some l)(a:rd[k]? =some c)(h0:(c==0)=false)(B:(zbc ws rows k c).isSome=true):zcZ ws rows rd (k+1)=some (l++[(zbc ws rows k c).getD za5]):=by
 show (match zcZ ws rows rd k with | none=>none | some l=>if (rd.getD k 0==0)=true then some l else (zbc ws rows k (rd.getD k 0)).map fun x=>l++[x])=_;rw [h];simp only;rw [QJ a,ja (by rw [h0];decide)]
 cases d:zbc ws rows k c with
 | none=>rw [d] at B;cases B
 | some x=>rfl
theorem zkr {ws : List Wr} {rows : List (List Int)} {rd : List Int} {k : Nat} (h : zcZ ws rows rd k = none) : ∀ j, k <= j -> zcZ ws rows rd j = none
  | 0, hj => by obtain rfl : k = 0 := by omega
                cases h
  | j + 1, hj => by
    by_cases e : k = j + 1
    · subst e; exact h
    · show (match zcZ ws rows rd j with | none => none | some l => if (rd.getD j 0 == 0) = true then some l else (zbc ws rows j (rd.getD j 0)).map fun x => l ++ [x]) = none
      rw [zkr h j kB]
theorem zyB {rows:List (List Int)}{l:List Sg}(h:zcZ ws rows rd k=some l)(a:rd[k]? =some c)(h0:(c==0)=false)(B:(zbc ws rows k c).isSome=false):(zcZ ws rows rd rd.length).isNone=true:=by
 have d:=(jc.1 a).1
 have h1:zcZ ws rows rd (k+1)=none:=by
  show (match zcZ ws rows rd k with | none=>none | some l=>if (rd.getD k 0==0)=true then some l else (zbc ws rows k (rd.getD k 0)).map fun x=>l++[x])=_;rw [h];simp only;rw [QJ a,ja (by rw [h0];decide)]
  cases f:zbc ws rows k c with
  | none=>rfl
  | some x=>rw [f] at B;cases B
 rw [zkr h1 _ d];rfl
def zdZ (ws:List Wr)(rows:List (List Int))(no:Int)(cl:List Int)(es:List Em)(rd:List Int):Int:=
 if UV ws≠0 then UV ws else if K9 ws≠rows then 430 else if K8 rows no cl es rd≠0 then K8 rows no cl es rd else if (zcZ ws rows rd rd.length).isNone=true then 430 else 0
def zso (ws:List Wr)(rows:List (List Int))(no:Int)(cl:List Int)(es:List Em)(rd:List Int):List Sg:=
 if zdZ ws rows no cl es rd≠0 then [] else (zcZ ws rows rd rd.length).getD []
section
variable {a:List Wr} {rows:List (List Int)} {no:Int} {cl:List Int} {es:List Em} {rd:List Int}
theorem zfi (h:zdZ a rows no cl es rd≠0):zso a rows no cl es rd=[]:=by unfold zso;rw [jb h]
theorem zFg (h:UV a≠0):zdZ a rows no cl es rd=UV a:=by unfold zdZ;rw [jb h]
theorem zFn (h:UV a=0)(h2:K9 a≠rows):zdZ a rows no cl es rd=430:=by unfold zdZ;rw [ja kB,jb h2]
theorem zB8 (h:UV a=0)(h2:K9 a=rows)(h3:K8 rows no cl es rd≠0):zdZ a rows no cl es rd=K8 rows no cl es rd:=by unfold zdZ;rw [ja kB,ja (fun e=>e h2),jb h3]
theorem zHP (h:UV a=0)(h2:K9 a=rows)(h3:K8 rows no cl es rd=0)(h4:(zcZ a rows rd rd.length).isNone=true):zdZ a rows no cl es rd=430:=by unfold zdZ;rw [ja kB,ja (fun e=>e h2),ja kB,jb h4]
theorem zIg {l:List Sg}(h:UV a=0)(h2:K9 a=rows)(h3:K8 rows no cl es rd=0)(h4:zcZ a rows rd rd.length=some l):zdZ a rows no cl es rd=0/\zso a rows no cl es rd=l:=by have h5:zdZ a rows no cl es rd=0:=(by unfold zdZ;rw [ja kB,ja (fun e=>e h2),ja kB,h4];rfl);exact ⟨h5,by unfold zso;rw [ja kB,h4];rfl⟩
def zBc (a:List Wr)(rows:List (List Int))(no:Int)(cl:List Int)(es:List Em)(rd:List Int):Value->Qu->Go.Kn.Loc->Prop:=fun v s L=>L=[]/\∃ J c,v= .tuple #[.slice J (zso a rows no cl es rd).length c,.int .i64 (zdZ a rows no cl es rd)]/\Sl s 14 YA J (zso a rows no cl es rd).length c (zso a rows no cl es rd)
theorem zBc.bad {s:Qu}{e:Int}(h:zdZ a rows no cl es rd=e)(d:e≠0):zBc a rows no cl es rd (.tuple #[.slice none 0 0,.int .i64 e]) s []:=by have h0:=zfi (show zdZ a rows no cl es rd≠0 by rw [h];exact d);exact ⟨U,none,0,by rw [h0,h];rfl,by rw [h0];exact .nil⟩
theorem zaz (h1:UV a=0)(h2:K9 a=rows)(h3:K8 rows no cl es rd=0):rows.length=a.length/\(∀ r∈rows,r.length=rd.length)/\rd.length<=64/\zGz a rows/\(∀ x∈a,x.rs.length<=64)/\YZ rows cl=0/\rd=Je rows cl es:=by
 obtain ⟨u,w⟩:=zgb h3
 have t:YZ rows cl=0:=by
  cases Bn (YZ rows cl=0) with
  | inl h=>exact h
  | inr h=>rw [zgC h] at u;exact absurd u h
 obtain ⟨E,H,z,s⟩:=Js (Kb t);have B:rd.length=(rows.getD 0 []).length:=(by rw [w,XP]);obtain ⟨g,d⟩:=zd7 h1 (by rw [h2];omega);rw [h2] at d
 have f:∀ x∈a,x.rs.length<=64:=fun x P=>by
  unfold WF at g;split at g
  ·omega
  ·split at g
   ·omega
   ·rename_i C;have o:∀ x∈a,x.rs.length<=64:=(by simpa using C);exact o x P
 exact ⟨d,fun r q=>by rw [(s r q).1,B],kB,by rw [<-h2];exact zvH,f,t,w⟩
end
theorem zBp:ke 124:=.of Tryz.func124 kA kA
theorem zxY:ke 125:=.of Tryz.func125 kA kA
theorem zwT:ke 126:=.of Tryz.func126 kA kA
theorem zvg:ke 32:=.of Tryz.func32 kA kA
set_option maxHeartbeats 4000000 in
theorem zoa   {c:Nat}  (B:SlW I J n c ws) (hn:n<=100000)   {rows:List (List Int)} (z:SlN I G A F rows) (b5:A<=100000)          (b0:Sl I 1 QF N K V xs) (b1:Sl I 3 Yv O D W es) (a:Sl I 1 QF Q M Y rd) (c6:K<=100000) (c7:D<=100000) (d0:M<=100000) (no:Int):kg 75 [.slice J n c,.slice G A F,.agg (ZI no N K V O D W Q M Y).toArray] I [] (zBc ws rows no xs es rd):=by
 intro g H w hw;refine qe Tryz.func75 Tryz.ntmps75 hw ?_;have o:=zJH I;obtain ⟨d5,hW⟩:=id B;have c5:=hW.len;subst c5;have c4:=z.len;subst c4;have b4:=a.len;subst b4;refine zR ?_;refine QU U U U (fun b2=>?_);refine zA ?_;refine zA ?_;refine zN<|zR ?_;refine zM ?_;refine zpc [_] U zBp .nil (zy3 B hn) ?_;rintro d7 I1 L1 u ⟨rfl,d4,c8,rfl,c1⟩;have B:=B.mono u;have z:=z.mono u;have b0:=b0.mono u;have b1:=b1.mono u;have a:=a.mono u;have o:=o.trans u;refine zM ?_;refine zE ?_;refine zE ?_;refine zA ?_;refine zA<|zN<|Qk<|zR ?_;refine zM ?_;refine zC<|zN ?_;refine zI ?_ ?_<;>intro a5
 ·have d:UV ws≠0:=(by have h:=a5;simpa using h);refine zR<|zM ?_;refine zA ?_;refine zA<|zN<|Qq<|Qb ?_;exact QY U U U (fun w hw=>⟨_,_,[],U,o,hw.drop,zBc.bad (zFg d) d⟩)
 have d:UV ws=0:=(by have h:=a5;simpa using h);refine Qm<|Qa<|Qk<|zR<|zM ?_;refine zM ?_;refine qcV (vs:=[_,_]) U zxY (zyp c1 z (by have:=(zcv (ws:=ws)).1;omega) (fun x hx=>jO (zcv.2 x hx) kC)) ?_;refine zO<|zN ?_;refine zI ?_ ?_<;>intro a6
 ·have q:K9 ws≠rows:=(by have h:=a6;simpa using h);refine zR<|zA ?_;refine zA<|zN<|Qq<|Qb ?_;exact QY U U U (fun w hw=>⟨_,_,[],U,o,hw.drop,zBc.bad (zFn d q) kC⟩)
 have q:K9 ws=rows:=(by have h:=a6;simpa using h);refine Qm<|Qa<|zR<|zM ?_;refine zV (Qo U ZG (fun hg=>by exact Cells.g0) U) ?_;refine qcV (vs:=[_,_]) U zvg (zg0 z b5 b0 b1 a c6 c7 d0 no) ?_;refine zA<|zN<|Qk<|zR ?_;refine zM ?_;refine zC<|zN ?_;refine zI ?_ ?_<;>intro a7
 ·have t:K8 rows no xs es rd≠0:=(by have h:=a7;simpa using h);refine zR<|zM ?_;refine zA ?_;refine zA<|zN<|Qq<|Qb ?_;exact QY U U U (fun w hw=>⟨_,_,[],U,o,hw.drop,zBc.bad (zB8 d q t) t⟩)
 have t:K8 rows no xs es rd=0:=(by have h:=a7;simpa using h);have f:=zaz d q t;refine Qm<|Qa<|zR ?_;refine zpb [] [] Vy (fun a4=>?_);refine zA<|zN<|Qk<|Qk ?_;refine JB (loc':=[(a4,.cells #[] 54 (0,0))]++[(b2,.cells (ZI no N K V O D W Q rd.length Y).toArray 26 (0,0))]) U ?_;refine Qh<|zA<|zN<|Ql ?_;refine zU [(0,_),(1,_),(5,_)] (fun T L0 mz E s a2=>∃ (k:Nat) (a3:Value) (l:List Sg) (L:Go.Kn.Loc),mz=rd.length-k/\E=(10,a3)::(11,.int .i64 k)::T/\I1=s/\L++[(b2,.cells (ZI no N K V O D W Q rd.length Y).toArray 26 (0,0))]=a2/\k<=rd.length/\zcZ ws rows rd k=some l/\OwnS 54 14 a3 l.length (l.flatMap YA) L/\l.length<=k) ?_ (h:=⟨0,_,[],[(a4,_)],U,U,U,U,jd _,U,OwnS.new,jn _⟩);rintro mz E s a2 ⟨k,a3,l,L,rfl,rfl,rfl,rfl,hk,hl,hO,d6⟩;refine Qk<|zR<|zM ?_;refine zF Ye ?_;refine zV (Qc U QA (fun hg=>by (repeat (first | exact zJC U | apply zJB | apply zJD)))) ?_;refine zQ Qt ?_;refine zC<|zN ?_;refine zI ?_ ?_<;>intro a8
 ·have a1:k<rd.length:=kd a8;obtain ⟨cd,a0⟩:=a.at a1;refine Qm<|Qa<|Qk<|Ql<|Qk<|zR ?_;refine zF Ye ?_;refine zV (Qc U QA (fun hg=>by (repeat (first | exact zJC U | apply zJB | apply zJD)))) ?_;refine zM ?_;refine zV (zX Qt a) ?_;refine zV (Qc U Qr (fun hg=>by exact zJA a a0 U)) ?_;refine zC<|zN ?_;refine zI ?_ ?_<;>intro C
  ·refine Qy<|Qf<|Qj<|Qa<|Qh<|zM ?_;refine zB ?_;refine zA<|Qe ?_;exact zm (h:=⟨rd.length-(k+1),kB,k+1,a3,l,L,U,U,U,U,kB,zqX hl a0 C,hO,kB⟩)
  refine Qm<|Qa<|zR<|zM ?_;refine zM ?_;refine zM ?_;refine zF Ye ?_;refine zV (Qc U QA (fun hg=>by (repeat (first | exact zJC U | apply zJB | apply zJD)))) ?_;refine zM ?_;refine zV (zX Qt a) ?_;refine zV (Qc U Qr (fun hg=>by exact zJA a a0 U)) ?_;refine qcV (vs:=[_,_,_,_]) U zwT (zrM B z b5 f.1 k (fun r hr=>by rw [f.2.1 r hr];exact a1) (fun x hx=>jO (f.2.2.2.2.1 x hx) kC) (fun r hr=>by rw [f.2.1 r hr];omega) f.2.2.2.1 cd) ?_;refine zM ?_;refine zE ?_;refine zE ?_;refine Qv Kc U U (fun d2=>?_);refine zh Zy ?_;refine zA<|zN<|Qk<|zR ?_;refine zM ?_;refine zO<|zN ?_;refine zI ?_ ?_<;>intro a9
  ·have c0:=zyB hl a0 C (by simpa using a9);refine zR<|zA ?_;refine zA<|zN<|Qq<|Qb<|Qn<|Qb<|Qb<|Qn ?_;refine Qb ?_;exact QY U U U (fun w hw=>⟨_,_,[],U,o,hw.drop,zBc.bad (zHP d q t c0) kC⟩)
  have d1:(zbc ws rows k cd).isSome=true:=(by simpa using a9);refine Qm<|Qa<|Qh<|zM ?_;refine zV (Qo U QQ (fun hg=>by exact Cells.g0) U) ?_;refine zpb [(0,_)] [YA ((zbc ws rows k cd).getD za5)] Vy (fun d3=>?_);refine zpa (_) ([((zbc ws rows k cd).getD za5)].flatMap YA) (L) U U Vy hO ⟨U,fun _=>U,by repeat (first | exact zJF | apply zJE | apply zJG)⟩ (zcW _) ?_;intro v9 L9 b3 _;rw [<-jh] at b3;refine zA<|Qe<|Qg<|Qa<|Qh ?_;refine zM ?_;refine zB ?_;refine zA<|Qe ?_
  first
  | exact zm (h:=⟨rd.length-(k+1),kB,k+1,_,l++[((zbc ws rows k cd).getD za5)],L9,U,U,U,U,kB,zwX hl a0 C d1,by rw [jj,jv];exact b3,by rw [jj,jv];omega⟩)
 have c2:rd.length<=k:=kd a8;obtain rfl:k=rd.length:=kB;have P:=zIg d q t hl;refine Qy<|Qf<|Qf<|Qj<|Qa<|zR<|zM ?_;refine zA ?_;refine zA<|zN<|Qq ?_
 first
 | exact QY U U U (fun w hw=>by obtain ⟨I9,b6,c9,b7,b8,e9,b9⟩:=OwnS.freeze (R:=[_]) hO Yp kC hw;exact ⟨_,I9,[],U,o.trans b7,b8.drop,U,b6,c9,by rw [P.1,P.2,e9],by rw [P.2];exact b9⟩)
def ixF {C:Type}(P:C->Bool)(xs:List C):List Int:=(xs.zipIdx.filter fun q=>P q.1).map fun q=>(q.2:Int)
variable{C:Type}{P:C->Bool}{x:C}
theorem znf {xs:List C}(a:xs[k]? =some x):ixF P (xs.take (k+1))=ixF P (xs.take k)++(if P x then [(k:Int)] else []):=by obtain ⟨g,d⟩:=jc.1 a;have e:xs.take (k+1)=xs.take k++[x]:=(by rw [jz,a];rfl);unfold ixF;rw [e,List.zipIdx_append,jH,Od];have f:(xs.take k).length=k:=(by rw [jJ];omega);cases h:P x<;>simp [h,f]
theorem zaW {xs:List C}(a:xs[k]? =some x)(h:P x=true):ixF P (xs.take (k+1))=ixF P (xs.take k)++[(k:Int)]:=by rw [znf a,jb h]
theorem zgg {xs:List C}(a:xs[k]? =some x)(h:P x=false):ixF P (xs.take (k+1))=ixF P (xs.take k):=by rw [znf a,ja (by rw [h];decide),jw]
def KK (rows:List (List Int))(k:Nat)(c:Int):List Int:=ixF (fun r=>r.getD k 0==c) rows
def zhe (k:Nat)(n:Int):Option Int->List Int->Option Int
 | o,r=>if decide (r.getD k 0>n)&&(match o with | none=>true | some b=>decide (r.getD k 0<b)) then some (r.getD k 0) else o
def zeK (rows:List (List Int))(k:Nat)(n:Int):Option Int:=rows.foldl (zhe k n) none
theorem zjx {rows:List (List Int)}{n:Int}(h:rows[i]? =some r):(rows.take (i+1)).foldl (zhe k n) none=zhe k n ((rows.take i).foldl (zhe k n) none) r:=by rw [jz,h,Oh];rfl
variable{o:Option Int}
theorem zhM {n:Int}(h:(decide (r.getD k 0>n)&&(!o.isSome||decide (r.getD k 0<o.getD 0)))=true):zhe k n o r=some (r.getD k 0):=by cases o<;>simp_all [zhe]
theorem zoo {n:Int}(h:(decide (r.getD k 0>n)&&(!o.isSome||decide (r.getD k 0<o.getD 0)))=false):zhe k n o r=o:=by cases o<;>simp_all [zhe]<;>omega
structure Vt where
 code:Int
 ws:List Int
structure En where
 loc:Int
 lem:Int
 vs:List Vt
structure Og where
 k:Int
 r:Int
 ws:List Int
 ps:List Int
deriving DecidableEq
theorem zi9 {C:Type}{P:C->Bool}:∀ {xs:List C} {k:Nat} {x:C},(xs.take k).any P=false->xs[k]? =some x->P x=true->xs.findIdx? P=some k
 | [],k,x,_,h,_=>by simp at h
 | y::xs,0,x,_,h,hP=>by simp at h;subst h;simp [Bo,hP]
 | y::xs,k+1,x,hn,h,hP=>by
  simp only [Bj,BY,jS] at hn;simp only [OZ] at h;rw [Bo,ja (by rw [hn.1];decide),zi9 hn.2 h hP];rfl
theorem zeW {xs:List C}(h:xs.any P=false):xs.findIdx? P=none:=by rw [List.findIdx?_eq_none_iff];intro x d;exact Aw.2 fun a=>by rw [jL] at h;exact h x d a
def zg8 (q:Nat)(r:List Int):Bool:=r.getD q 0 != 0&&r.getD q 0 != 8589934592
def zhc (rows:List (List Int))(q:Nat)(c:Int):Nat:=match rows.findIdx? (fun r=>r.getD q 0==c) with
 | some i=>i
 | none=>(rows.findIdx? (zg8 q)).getD 0
variable{q:Nat}
theorem zHO {rows:List (List Int)}(h:(rows.take k).any (fun r=>r.getD q 0==c)=false)(a:rows[k]? =some r)(d:(r.getD q 0==c)=true):zhc rows q c=k:=by unfold zhc;rw [zi9 (P:=fun r=>r.getD q 0==c) h a d]
theorem zIM {rows:List (List Int)}(h0:rows.any (fun r=>r.getD q 0==c)=false)(h:(rows.take k).any (zg8 q)=false)(a:rows[k]? =some r)(d:zg8 q r=true):zhc rows q c=k:=by unfold zhc;rw [zeW h0,zi9 h a d];rfl
theorem zHS {rows:List (List Int)}(h0:rows.any (fun r=>r.getD q 0==c)=false)(h:rows.any (zg8 q)=false):zhc rows q c=0:=by unfold zhc;rw [zeW h0,zeW h];rfl
def zmQ (q:Int)(e:Em):Bool:=e.locus==q&&e.reason==2
def zqP (rows:List (List Int))(es:List Em)(q:Nat)(rdq f:Int):Og:=
 if f==2||f==3||f==9 then ⟨1,0,[(zhc rows q rdq:Nat)],[]⟩
 else if es.any (zmQ q) then ⟨2,2,[],[]⟩
 else ⟨1,0,KK rows q rdq,[]⟩
theorem zAs {rows:List (List Int)}{r f:Int}(h:(f==2||f==3||f==9)=true):zqP rows es q r f=⟨1,0,[(zhc rows q r:Nat)],[]⟩:=jb h
theorem zBj {rows:List (List Int)}{r f:Int}(h:(f==2||f==3||f==9)=false)(h2:es.any (zmQ q)=true):zqP rows es q r f=⟨2,2,[],[]⟩:=by unfold zqP;rw [ja (by rw [h];decide),jb h2]
theorem zAR {rows:List (List Int)}{r f:Int}(h:(f==2||f==3||f==9)=false)(h2:es.any (zmQ q)=false):zqP rows es q r f=⟨1,0,KK rows q r,[]⟩:=by unfold zqP;rw [ja (by rw [h];decide),ja (by rw [h2];decide)]
def OgQ (o:Og)(v:Value)(I:Qu)(L:Go.Kn.Loc):Prop:=L=[]/\∃ a n c b m d,v= .agg #[.int .i64 o.k,.int .i64 o.r,.slice a n c,.slice b m d]/\Sl I 1 QF a n c o.ws/\Sl I 1 QF b m d o.ps
def zrX (rows:List (List Int))(q:Nat):Nat->Option Int->List Vt
 | _,none=>[]
 | 0,some _=>[]
 | m+1,some c=>⟨c,KK rows q c⟩::zrX rows q m (zeK rows q c)
def zlC (rows:List (List Int))(q:Nat):List Vt:=zrX rows q rows.length (zeK rows q (-1))
theorem zpk {q:Nat}{n:Int}:∀ {rows:List (List Int)} {o:Option Int} {c:Int},rows.foldl (zhe q n) o=some c->o=some c\/(n<c/\∃ r∈rows,r.getD q 0=c)
 | [],o,c,h=>.inl h
 | r::rows,o,c,h=>by
  rcases zpk (rows:=rows) h with h1 | ⟨h1,d,h2,h3⟩
  ·cases a:(decide (r.getD q 0>n)&&(!o.isSome||decide (r.getD q 0<o.getD 0))) with
   | true=>
    rw [zhM a] at h1;cases h1;simp only [ji,jG] at a;exact .inr ⟨a.1,r,jl ..,U⟩
   | false=>rw [zoo a] at h1;exact .inl h1
  ·exact .inr ⟨h1,d,jm _ h2,h3⟩
theorem zj4 {rows:List (List Int)}{n:Int}(h:zeK rows q n=some c):n<c/\∃ r∈rows,r.getD q 0=c:=(zpk h).resolve_left kJ
theorem zbR {rows:List (List Int)}:zrX rows q (m+1) (some c)=⟨c,KK rows q c⟩::zrX rows q m (zeK rows q c):=rfl
theorem zgV {rows:List (List Int)}:zrX rows q m none=[]:=by cases m<;>rfl
def zbv {C β:Type}(R:C->β->Prop)(B:List C)(vs:List β):Prop:=B.length=vs.length/\∀ (k:Nat) (h:C) (v:β),B[k]? =some h->vs[k]? =some v->R h v
variable{β:Type}{R:C->β->Prop}
theorem zbv.nil :zbv R [] []:=⟨U,fun k h v a=>by simp at a⟩
variable{B:List C}
theorem zbv.imp {d:C->β->Prop}{f:List β}(h:zbv R B f)(g:∀ a b,R a b->d a b):zbv d B f:=⟨h.1,fun k x v a b=>g _ _ (h.2 k x v a b)⟩
theorem zbv.snoc {f:List β}(h:zbv R B f){v:β}(g:R x v):zbv R (B++[x]) (f++[v]):=by
 refine ⟨by simp [h.1],fun k y z a b=>?_⟩;rw [Ac] at a b;rw [h.1] at a;split at a
 ·next hk=>rw [jb hk] at b;exact h.2 k y z a b
 ·next hk=>
  rw [ja hk] at b
  cases d:k-f.length with
  | zero=>rw [d] at a b;simp at a b;subst a b;exact g
  | succ j=>rw [d] at a;simp at a
theorem zbv.at {f:List β}(h:zbv R B f){v:β}(d:f[k]? =some v):∃ x,B[k]? =some x/\R x v:=by obtain ⟨g,_⟩:=jc.1 d;have a:k<B.length:=(by rw [h.1];exact g);exact ⟨B[k],jf a,h.2 k _ _ (jf a) d⟩
structure Vh where
 code:Int
 h:Hd
def za8 (x:Vh):List Value:=[.int .i64 x.code,.slice x.h.a x.h.n x.h.c]
theorem zcc (x:Vh):(za8 x).length=2:=rfl
def zER (I:Qu)(x:Vh)(v:Vt):Prop:=x.code=v.code/\Sl I 1 QF x.h.a x.h.n x.h.c v.ws
variable{s:Qu}
theorem zER.mono {x:Vh}{v:Vt}(h:zER I x v)(a:HLe I s):zER s x v:=⟨h.1,h.2.mono a⟩
def zd0 (I:Qu)(B:List Vh)(vs:List Vt):Prop:=zbv (zER I) B vs
variable{vs:List Vt}
theorem zd0.mono {B:List Vh}(h:zd0 I B vs)(a:HLe I s):zd0 s B vs:=zbv.imp h fun _ _ q=>q.mono a
theorem zd0.snoc {B:List Vh}(h:zd0 I B vs){x:Vh}{v:Vt}(a:zER I x v):zd0 I (B++[x]) (vs++[v]):=zbv.snoc h a
def SlV (I:Qu)(a:Option Addr)(n c:Nat)(vs:List Vt):Prop:=∃ B,Sl I 2 za8 a n c B/\zd0 I B vs
variable{a:Option Addr}
theorem SlV.mono {c:Nat}(h:SlV I a n c vs)(d:HLe I s):SlV s a n c vs:=⟨_,h.choose_spec.1.mono d,h.choose_spec.2.mono d⟩
structure Eh where
 loc:Int
 lem:Int
 h:Hd
def zbV (x:Eh):List Value:=[.int .i64 x.loc,.int .i64 x.lem,.slice x.h.a x.h.n x.h.c]
theorem zbK (x:Eh):(zbV x).length=3:=rfl
def zB3 (I:Qu)(x:Eh)(v:En):Prop:=x.loc=v.loc/\x.lem=v.lem/\SlV I x.h.a x.h.n x.h.c v.vs
theorem zB3.mono {x:Eh}{v:En}(h:zB3 I x v)(d:HLe I s):zB3 s x v:=⟨h.1,h.2.1,h.2.2.mono d⟩
def zee (I:Qu)(B:List Eh)(vs:List En):Prop:=zbv (zB3 I) B vs
theorem zee.mono {B:List Eh}{vs:List En}(h:zee I B vs)(d:HLe I s):zee s B vs:=zbv.imp h fun _ _ q=>q.mono d
theorem zee.snoc {B:List Eh}{vs:List En}(h:zee I B vs){x:Eh}{v:En}(d:zB3 I x v):zee I (B++[x]) (vs++[v]):=zbv.snoc h d
def zib (I:Qu)(a:Option Addr)(n c:Nat)(vs:List En):Prop:=∃ B,Sl I 3 zbV a n c B/\zee I B vs
theorem zib.mono {c:Nat}{vs:List En}(h:zib I a n c vs)(d:HLe I s):zib s a n c vs:=⟨_,h.choose_spec.1.mono d,h.choose_spec.2.mono d⟩
theorem zCG (xs:List Vh):YY (xs.flatMap za8)=true:=YM (fun _=>U) xs
theorem zuV (xs:List Eh):YY (xs.flatMap zbV)=true:=YM (fun _=>U) xs
theorem Yt:km 38 4:=.of kA
theorem zzG:ke 136:=.of Tryz.func136 kA kA
theorem zyS:ke 137:=.of Tryz.func137 kA kA
theorem zos:ke 33:=.of Tryz.func33 kA kA
theorem KU:kq 38 #[(0,1),(1,1),(2,1),(3,1)] (.agg #[(.int .i64 0),(.int .i64 0),(.slice none 0 0),(.slice none 0 0)]):=⟨.of kA,kA,fun w=>kA⟩
theorem YO:ki 38 4:=.of kA
theorem US:kj 38 (.agg #[(.int .i64 0),(.int .i64 0),(.slice none 0 0),(.slice none 0 0)]):=.of kA
theorem zxa {rows:List (List Int)}(hV:SlN I G A F rows)(b4:A<=100000)(q:Nat)(hq:∀ r∈rows,q<r.length)(c:Int):kg 33 [.slice G A F,.int .i64 (q:Nat),.int .i64 c] I [] (Jv 1 QF (KK rows q c)):=by
 intro g H w hw;refine qe Tryz.func33 Tryz.ntmps33 hw ?_;have a8:=zJH I;have a9:=hV.len;obtain ⟨B,a3⟩:=id hV;have a1:=a3.1;refine zR (zA<|zN (zR<|zpb [] [] QS (fun a4=>zA (zN (Qk (zR<|zA (zN (Ql ?_))))))));refine zU [(0,_),(1,_),(2,_)] (fun T L0 mz E s t=>∃ (k:Nat) (v:Value) (m:Nat) (L:Go.Kn.Loc),mz=A-k/\E=(7,v)::(8,.int .i64 k)::T/\I=s/\L=t/\k<=A/\OwnS 3 1 v m ((ixF (fun r=>r.getD q 0==c) (rows.take k)).flatMap QF) L/\m<=k) ?_ (h:=⟨0,_,0,[(a4,_)],U,U,U,U,jd _,by rw [AB];exact OwnS.new,jn _⟩);rintro mz E s t ⟨k,v,m,L,rfl,rfl,rfl,rfl,hk,hO,hm⟩;refine Qk (zR (zM<|zM ?_));refine zQ QM<|zC (zN ?_)
 refine zI ?_ ?_<;>intro d
 ·have z:k<A:=kd d;obtain ⟨hx,rx,b1,a0,hQ⟩:=a3.at z;have b5:=hq rx (je a0);have b3:=hQ.len;have b0:rx[q]? =some (rx.getD q 0):=QE U kB;refine Qm<|Qa<|Qk<|Ql<|zR<|zM ?_;refine zM ?_;refine zV (zX QM a1)<|zV (Qc U QA (fun hg=>by exact zJA a1 b1 U))<|zM ?_
  refine zV (zX Qt hQ)<|zV (Qc U Qr (fun hg=>by exact zJA (k:=q) hQ b0 U))<|zM<|zC (zN ?_)
  refine zI ?_ ?_<;>intro f
  ·have hy:(rx.getD q 0==c)=true:=(by simpa using f);refine Qh (zM<|zM ?_);refine zpb [(0,_)] [QF (k:Int)] QS (fun b2=>?_);refine zpa (_) ([(k:Int)].flatMap QF) (L) U U QS hO ⟨U,fun _=>U,by repeat (first | exact zJF | apply zJE | apply zJG)⟩ (YJ _) ?_;intro v9 L9 a2 _;rw [<-jh] at a2;refine zA (Qe (Qg (Qa (Qh<|zM ?_))));refine zB<|zA (Qe ?_)
   first
   | exact zm (h:=⟨A-(k+1),kB,k+1,_,_,_,U,U,U,U,kB,by rw [zaW a0 hy];exact a2,kB⟩)
  have hy:(rx.getD q 0==c)=false:=(by simpa using f);refine Qm<|Qg<|Qa<|Qh<|zM ?_;refine zB<|zA (Qe ?_)
  first
  | exact zm (h:=⟨A-(k+1),kB,k+1,_,_,_,U,U,U,U,kB,by rw [zgg a0 hy];exact hO,kB⟩)
 have u:A<=k:=kd d;rw [QZ a9 u] at hO;refine Qy (Qf (Qf (Qj (Qa (zR (zM<|zA (zN (Qq ?_))))))));exact Zc U U (fun w hw=>by obtain ⟨I9,a5,a6,a7⟩:=OwnS.res hO QL kC hw;exact ⟨_,I9,[],U,a8.trans a5,a6,a7⟩)
theorem zHW {rows:List (List Int)}(hV:SlN I G A F rows)(b3:A<=100000)(q:Nat)(hq:∀ r∈rows,q<r.length)(c:Int):kg 123 [.slice G A F,.int .i64 (q:Nat),.int .i64 c] I [] (Jv 1 QF (KK rows q c)):=by
 intro g H w hw;refine qe Tryz.func123 Tryz.ntmps123 hw ?_;have a7:=zJH I;have a8:=hV.len;obtain ⟨B,a3⟩:=id hV;have a1:=a3.1;refine zR<|zA<|zN<|Qk<|zR ?_;refine zM ?_;refine zQ QM ?_;refine zM<|zN<|Ql ?_;refine zU [(1,_),(2,_),(9,_),(10,_)] (fun T L0 mz E s t=>∃ (k:Nat) (v:Value) (m:Nat) (L:Go.Kn.Loc),mz=A-k/\E=(6,v)::(11,.int .i64 k)::T/\I=s/\L=t/\k<=A/\OwnS 3 1 v m ((ixF (fun r=>r.getD q 0==c) (rows.take k)).flatMap QF) L/\m<=k) ?_ (h:=⟨0,_,0,[],U,U,U,U,jd _,by rw [AB];exact OwnS.nil,jn _⟩);rintro mz E s t ⟨k,v,m,L,rfl,rfl,rfl,rfl,hk,hO,hm⟩;refine zR<|zC<|zN<|Qk ?_;refine zI ?_ ?_<;>intro d
 ·have z:k<A:=kd d;obtain ⟨hx,rx,b0,a0,hQ⟩:=a3.at z;have b4:=hq rx (je a0);have b2:=hQ.len;have a9:rx[q]? =some (rx.getD q 0):=QE U kB;refine Qm (Qa (Qk (Ql (zR (zM<|zV (zX QM a1)<|zV (Qc U QA (fun hg=>by exact zJA a1 b0 U))<|zA<|zA<|zN (zR ?_))))));refine zM ?_;refine zM ?_;refine zV (zX Qt hQ)<|zV (Qc U Qr (fun hg=>by exact zJA (k:=q) hQ a9 U))<|zM<|zC (zN ?_)
  refine zI ?_ ?_<;>intro f
  ·have hy:(rx.getD q 0==c)=true:=(by simpa using f);refine Qh (zM<|zM ?_);refine zpb [(0,_)] [QF (k:Int)] QS (fun b1=>?_);refine zpa (_) ([(k:Int)].flatMap QF) (L) U U QS hO ⟨U,fun _=>U,by repeat (first | exact zJF | apply zJE | apply zJG)⟩ (YJ _) ?_;intro v9 L9 a2 _;rw [<-jh] at a2;refine zA (Qe (Qg (Qa (Qh<|zB<|zM (Qe ?_)))))
   first
   | exact zm (h:=⟨A-(k+1),kB,k+1,_,_,_,U,U,U,U,kB,by rw [zaW a0 hy];exact a2,kB⟩)
  have hy:(rx.getD q 0==c)=false:=(by simpa using f);refine Qm (Qg (Qa (Qh (zB<|zM (Qe ?_)))))
  first
  | exact zm (h:=⟨A-(k+1),kB,k+1,_,_,_,U,U,U,U,kB,by rw [zgg a0 hy];exact hO,kB⟩)
 have u:A<=k:=kd d;rw [QZ a8 u] at hO;refine Qy (Qf (Qf (Qj (Qa (zR (zM<|zA (zN (Qq ?_))))))));exact Zc U U (fun w hw=>by obtain ⟨I9,a4,a5,a6⟩:=OwnS.res hO QL kC hw;exact ⟨_,I9,[],U,a7.trans a4,a5,a6⟩)
theorem zCL {rows:List (List Int)}(hV:SlN I G A F rows)(a7:A<=100000)(q:Nat)(hq:∀ r∈rows,q<r.length)(n:Int):kf 67 [.slice G A F,.int .i64 (q:Nat),.int .i64 n] I (.tuple #[.int .i64 ((zeK rows q n).getD 0),.bool (zeK rows q n).isSome]):=by
 intro g H w hw;refine qe Tryz.func67 Tryz.ntmps67 hw ?_;have a3:=hV.len;obtain ⟨B,a2⟩:=id hV;have a1:=a2.1;refine zR (zA<|zA<|zN (zR<|zA<|zN (zR<|zA (zN (Qk (zR<|zA (zN (Ql ?_))))))));refine zU [(0,_),(1,_),(2,_)] (fun T L0 mz E s t=>∃ (k:Nat) (o:Option Int),mz=A-k/\E=(8,.int .i64 (o.getD 0))::(9,.bool o.isSome)::(10,.int .i64 k)::T/\I=s/\L0=t/\k<=A/\(rows.take k).foldl (zhe q n) none=o) ?_ (h:=⟨0,none,U,U,U,U,jd _,U⟩);rintro mz E s t ⟨k,o,rfl,rfl,rfl,rfl,hk,ho⟩;refine Qk (zR (zM<|zM ?_));refine zQ QM<|zC (zN ?_)
 refine zI ?_ ?_<;>intro d
 ·have z:k<A:=kd d;obtain ⟨hx,rx,a5,a0,hQ⟩:=a2.at z;have a8:=hq rx (je a0);have a6:=hQ.len;have a4:rx[q]? =some (rx.getD q 0):=QE U kB;refine Qm<|Qa<|Qk<|Ql<|zR<|zM ?_;refine zM ?_;refine zV (zX QM a1)<|zV (Qc U QA (fun hg=>by exact zJA a1 a5 U))<|zM ?_
  refine zV (zX Qt hQ)<|zV (Qc U Qr (fun hg=>by exact zJA (k:=q) hQ a4 U))<|zA<|zN (zR ?_)
  refine zM ?_;refine zM<|zC ?_
  refine zM ?_;refine Qw 3 U U U ?_;refine zK (Qd U)<|zK (ZT U)<|zK (Qd U)<|QI 6 U U U ?_
  refine zJ (Qd U)<|zJ (Qd U)<|zJ (Qx U U U)<|znD U U U (.some U U U U gbt) U U<|QC U U U U U<|zN ?_
  refine zI ?_ ?_<;>intro f
  ·refine zR (zM<|zA (zN (Qh<|zA (Qe (Qg (Qa (Qh<|zM ?_)))))));exact zB<|zA (Qe<|zm (h:=⟨A-(k+1),kB,k+1,some (rx.getD q 0),U,U,U,U,kB,by rw [zjx a0,ho,zhM f]⟩))
  refine Qm<|Qg<|Qa<|Qh<|zM ?_;exact zB<|zA (Qe<|zm (h:=⟨A-(k+1),kB,k+1,o,U,U,U,U,kB,by rw [zjx a0,ho,zoo f]⟩))
 have u:A<=k:=kd d;rw [QZ a3 u] at ho;exact Qy (Qf (Qf (Qj (Qa (zR (zM<|zM<|zA<|zA (zN (Qq<|QY U U U (fun w hw=>⟨by rw [show zeK rows q n=o from ho],hw.drop⟩)))))))))
theorem ze2 {c:Nat}(hS:Sl I 1 QF J n c xs){ys:List Int}(hT:Sl I 1 QF G A F ys)(hn:n<=100000):kf 43 [.slice J n c,.slice G A F] I (.bool (decide (xs=ys))):=by
 intro g H w hw;refine qe Tryz.func43 Tryz.ntmps43 hw ?_;have a5:=hS.len;have a6:=hT.len;refine zR<|zA<|zN<|Qk<|zR ?_;refine zM ?_;refine zQ Qt ?_;refine zM ?_;refine zQ Qt<|zC (zN ?_)
 refine zI ?_ ?_<;>intro f
 ·have a1:xs≠ys:=fun e=>(by have h:=f;subst e;simp at h;omega);exact zR (zA (zN (Qq (Qb<|zr U U (by rw [jX a1])))))
 have a7:n=A:=kd f;refine Qm (Qa (Qk (zR (zA (zN (Ql<|zU [(0,_),(1,_)] (fun T L0 mz E s z=>∃ (k:Nat),mz=n-k/\E=(5,.int .i64 k)::T/\I=s/\L0=z/\k<=n/\xs.take k=ys.take k) ?_ (h:=⟨0,U,U,U,U,jd _,U⟩)))))));rintro mz E s z ⟨k,rfl,rfl,rfl,rfl,hk,d⟩;refine Qk (zR (zM<|zM ?_));refine zQ Qt<|zC (zN ?_)
 refine zI ?_ ?_<;>intro t
 ·have a0:k<n:=kd t;obtain ⟨x,hx⟩:=hS.at a0;obtain ⟨y,hy⟩:=hT.at (show k<A by omega);refine Qm (Qa (Qk (Ql (Qk<|ZW mixed kA<|zq (Qd U)<|zq (Qd U) ?_))));refine zq (zX Qt hS) ?_;refine zq (Qc U Qr (fun hg=>by exact zJA hS hx U))<|zq (Qd U)<|zq (Qd U) ?_
  refine zq (zX Qt hT) ?_;refine zq (Qc U Qr (fun hg=>by exact zJA hT hy U))<|zq (Qx U U U)<|ZX<|Qa ?_
  refine zI ?_ ?_<;>intro u
  ·have a1:xs≠ys:=fun e=>(by subst e;rw [hx] at hy;cases hy;simp at u);exact zR (zA (zN (Qq (Qn (Qb (Qb (Qn<|Qb<|zr U U (by rw [jX a1]))))))))
  have a4:x=y:=(by simpa using u);refine Qm<|Qg<|Qa<|Qh<|zM ?_;exact zB<|zA (Qe<|zm (h:=⟨n-(k+1),kB,k+1,U,U,U,U,kB,by rw [jz,jz,d,hx,hy,a4]⟩))
 have a3:n<=k:=kd t;have a2:xs=ys:=(by rw [jr kB,jr kB] at d;exact d);exact Qy (Qf (Qf (Qj (Qa (zR (zA (zN<|Qq<|zr U U (by rw [jN a2]))))))))
theorem zCf {rows:List (List Int)}(hV:SlN I G A F rows)(b2:A<=100000)(q:Nat)(hq:∀ r∈rows,q<r.length)(c:Int):kf 136 [.slice G A F,.int .i64 (q:Nat),.int .i64 c] I (.int .i64 (zhc rows q c:Nat)):=by
 intro g H w hw;refine qe Tryz.func136 Tryz.ntmps136 hw ?_;have a9:=hV.len;obtain ⟨B,a8⟩:=id hV;have a0:=a8.1;refine zR (zA (zN (Qk (zR<|zA (zN (Ql ?_))))));refine zU [(0,_),(1,_),(2,_)] (fun T L0 mz E s d=>∃ (k:Nat),mz=A-k/\E=(7,.int .i64 k)::T/\I=s/\L0=d/\k<=A/\(rows.take k).any (fun r=>r.getD q 0==c)=false) ?_ (h:=⟨0,U,U,U,U,jd _,U⟩);rintro mz E s d ⟨k,rfl,rfl,rfl,rfl,hk,a1⟩;refine Qk (zR (zM<|zM ?_));refine zQ QM<|zC (zN ?_)
 refine zI ?_ ?_<;>intro a4
 ·have t:k<A:=kd a4;obtain ⟨hx,rx,a3,u,hQ⟩:=a8.at t;have b1:=hq rx (je u);have b0:=hQ.len;have a2:rx[q]? =some (rx.getD q 0):=QE U kB;refine Qm<|Qa<|Qk<|Ql<|zR<|zM ?_;refine zM ?_;refine zV (zX QM a0)<|zV (Qc U QA (fun hg=>by exact zJA a0 a3 U))<|zM ?_
  refine zV (zX Qt hQ)<|zV (Qc U Qr (fun hg=>by exact zJA (k:=q) hQ a2 U))<|zM<|zC (zN ?_)
  refine zI ?_ ?_<;>intro a5
  ·have hy:(rx.getD q 0==c)=true:=(by simpa using a5);refine zR (zM<|zA (zN (Qq (Qn (Qb (Qb (Qn (Qb ?_))))))));exact zr U U (by rw [zHO a1 u hy])
  have hy:(rx.getD q 0==c)=false:=(by simpa using a5);refine Qm<|Qg<|Qa<|Qh<|zM ?_;exact zB<|zA (Qe<|zm (h:=⟨A-(k+1),kB,k+1,U,U,U,U,kB,Z3 u a1 hy⟩))
 have f:A<=k:=kd a4;rw [QZ a9 f] at a1;refine Qy (Qf (Qf (Qj (Qa (Qk (zR (zA<|zN (Ql<|zU [(0,_),(1,_)] (fun T L0 mz E s d=>∃ (k:Nat),mz=A-k/\E=(8,.int .i64 k)::T/\I=s/\L0=d/\k<=A/\(rows.take k).any (zg8 q)=false) ?_ (h:=⟨0,U,U,U,U,jd _,U⟩)))))))));rintro mz E s d ⟨k,rfl,rfl,rfl,rfl,hk,z⟩;refine Qk (zR (zM<|zM ?_));refine zQ QM<|zC (zN ?_)
 refine zI ?_ ?_<;>intro a6
 ·have t:k<A:=kd a6;obtain ⟨hx,rx,a3,u,hQ⟩:=a8.at t;have b1:=hq rx (je u);have b0:=hQ.len;have a2:rx[q]? =some (rx.getD q 0):=QE U kB;refine Qm<|Qa<|Qk<|Ql<|zR<|zM ?_;refine zM ?_;refine zV (zX QM a0)<|zV (Qc U QA (fun hg=>by exact zJA a0 a3 U))<|zM ?_
  refine zV (zX Qt hQ)<|zV (Qc U Qr (fun hg=>by exact zJA (k:=q) hQ a2 U))<|zC ?_
  refine zM ?_;refine Qw 8 U U U ?_;refine zK (Qd U) ?_;refine zK (Qd U) ?_;refine zK (zX QM a0)<|zK (Qc U QA (fun hg=>by exact zJA a0 a3 U))<|zK (Qd U) ?_
  refine zK (zX Qt hQ)<|zK (Qc U Qr (fun hg=>by exact zJA (k:=q) hQ a2 U))<|zK (Qx U U U) ?_
  refine QC U U U U U<|zN ?_
  refine zI ?_ ?_<;>intro a7
  ·have hy:zg8 q rx=true:=(by unfold zg8;simpa using a7);refine zR (zM<|zA (zN (Qq (Qn (Qb (Qb (Qn (Qb ?_))))))));exact zr U U (by rw [zIM a1 z u hy])
  have hy:zg8 q rx=false:=(by unfold zg8;simpa using a7);refine Qm<|Qg<|Qa<|Qh<|zM ?_;exact zB<|zA (Qe<|zm (h:=⟨A-(k+1),kB,k+1,U,U,U,U,kB,Z3 u z hy⟩))
 have f:A<=k:=kd a6;rw [QZ a9 f] at z;refine Qy (Qf (Qf (Qj (Qa (zR (zA (zN<|Qq ?_)))))))
 first
 | exact zr U U (by rw [zHS a1 z];rfl)
theorem zIL (_a4:Sl I 1 QF N K V xs)(d:Sl I 3 Yv O D W es)(_a5:Sl I 1 QF Q M Y rd)(_a6:K<=100000)(a7:D<=100000)(_a8:M<=100000)(no:Int)(q:Int):kf 137 [.agg (ZI no N K V O D W Q M Y).toArray,.int .i64 q] I (.bool (es.any (zmQ q))):=by
 intro g H w hw;refine qe Tryz.func137 Tryz.ntmps137 hw ?_;have a2:=d.len;refine zR<|QU U U U (fun a3=>zA (zN (Qk (zR<|zA (zN (Ql ?_))))))
 refine zU [(1,_),(2,_)] (fun T L0 mz E s u=>∃ (k:Nat),mz=D-k/\E=(5,.int .i64 k)::T/\I=s/\L0=u/\k<=D/\(es.take k).any (zmQ q)=false) ?_ (h:=⟨0,U,U,U,U,jd _,U⟩);rintro mz E s u ⟨k,rfl,rfl,rfl,rfl,hk,a1⟩;refine Qk (zR (zM<|zF UB ?_));refine zL zcn<|zQ VN<|zC (zN ?_)
 refine zI ?_ ?_<;>intro f
 ·have a0:k<D:=kd f;obtain ⟨e,he⟩:=d.at a0;refine Qm (Qa (Qk (Ql (zR<|zF UB ?_))));refine zL zcn<|zM ?_
  refine zV (zX VN d)<|zF YQ ?_
  refine zV (Qc U Qr (fun hg=>by exact zJA d he U))<|zM<|zC ?_
  refine zM ?_;refine Qw 8 U U U ?_;refine zK (Qi U UB) ?_;refine zK (Qc U zcn (fun hg=>by exact QO.h0 U))<|zK (Qd U) ?_
  refine zK (zX VN d)<|zK (Qi U Xo) ?_
  refine zK (Qc U Qr (fun hg=>by exact zJJ (j:=2) d he U))<|zK (Qx U U U) ?_
  refine QC U U U U U<|zN ?_
  refine zI ?_ ?_<;>intro t
  ·have hy:zmQ q e=true:=(by unfold zmQ;simpa using t);exact zR (zA (zN (Qq (Qn (Qb (Qb (Qn<|Qb<|zr U U (by rw [YN he hy]))))))))
  have hy:zmQ q e=false:=(by unfold zmQ;simpa using t);refine Qm<|Qg<|Qa<|Qh<|zM ?_;exact zB<|zA (Qe<|zm (h:=⟨D-(k+1),kB,k+1,U,U,U,U,kB,Z3 he a1 hy⟩))
 have z:D<=k:=kd f;rw [QZ a2 z] at a1;exact Qy (Qf (Qf (Qj (Qa (zR (zA (zN<|Qq<|zr U U (by rw [a1]))))))))
theorem zHM {rows:List (List Int)}(hV:SlN I G A F rows)(a3:A<=100000)(q:Nat)(hq:∀ r∈rows,q<r.length)(a5:Sl I 1 QF N K V xs)(a6:Sl I 3 Yv O D W es)(z:Sl I 1 QF Q M Y rd)(a7:K<=100000)(a8:D<=100000)(b0:M<=100000)(no:Int)(b4:q<M)(f:Int):kg 81 [.slice G A F,.agg (ZI no N K V O D W Q M Y).toArray,.int .i64 (q:Nat),.int .i64 f] I [] (OgQ (zqP rows es q (rd.getD q 0) f)):=by
 intro g H w hw;refine qe Tryz.func81 Tryz.ntmps81 hw ?_;have T:=zJH I;have b1:=z.len;have a2:rd[q]? =some (rd.getD q 0):=QE U kB;refine zR<|QU U U U (fun b2=>Qv US U U (fun b3=>zN (Qk (zR (zM<|zC ?_)))))
 refine zM ?_;refine QI 2 U U U ?_;refine zJ (Qd U)<|zJ (Qx U U U) ?_
 refine Q5 U U U U U<|zM ?_
 refine QI 6 U U U ?_;refine zJ (Qd U)<|zJ (Qx U U U) ?_
 refine Q5 U U U U U<|zN ?_
 refine zI ?_ ?_<;>intro d
 ·refine zR<|zM ?_;refine zM<|zF Ye ?_
  refine zL QA<|zM ?_
  refine zV (zX Qt z)<|zV (Qc U Qr (fun hg=>by exact zJA (k:=q) z a2 U))<|qcV (vs:=[_,_,_]) U zzG (zCf hV a3 q hq _)<|zpb [(0,_)] [QF (zhc rows q (rd.getD q 0):Nat)] QS (fun a0=>zV (QK (ps:=[(0,_),(2,_)]) [_,_,_,_] KU U U)<|zh YO<|zN (Qq (Qb ?_)))
  first
  | exact ZD U U Yt (vs:=[.int .i64 1,.int .i64 0,.slice (some ⟨a0,0,none⟩) 1 1,.slice none 0 0]) kI U (fun w hw=>by obtain ⟨I9,u,E,a1⟩:=hw.freezeAll;exact ⟨_,I9,[],U,T.trans u,E,U,_,_,_,_,_,_,by rw [zAs d],by rw [zAs d];exact Sl.lit (t:=3) [_] U QL (a1 a0 _ (by simp [QF])),by rw [zAs d];exact .nil⟩)
 refine Qm (Qa (Qk (zR<|zV (Qo U ZG (fun hg=>by exact Cells.g1) U)<|zM ?_)));refine qcV (vs:=[_,_]) U zyS (zIL a5 a6 z a7 a8 b0 no _)<|zN ?_
 refine zI ?_ ?_<;>intro h
 ·refine zR<|zV (QK (ps:=[(0,_),(1,_)]) [_,_,_,_] KU U U)<|zh YO<|zN (Qq (Qb ?_))
  first
  | exact ZD U U Yt (vs:=[.int .i64 2,.int .i64 2,.slice none 0 0,.slice none 0 0]) kI U (fun w hw=>by obtain ⟨I9,u,E,a1⟩:=hw.freezeAll;exact ⟨_,I9,[],U,T.trans u,E,U,_,_,_,_,_,_,by rw [zBj d h],by rw [zBj d h];exact .nil,by rw [zBj d h];exact .nil⟩)
 refine Qm<|Qa<|zR<|zM ?_;refine zM<|zF Ye ?_
 refine zL QA<|zM ?_
 refine zV (zX Qt z)<|zV (Qc U Qr (fun hg=>by exact zJA (k:=q) z a2 U))<|zpc [_,_,_] U zos .nil (zxa hV a3 q hq _) ?_
 rintro b5 I1 L1 a4 ⟨rfl,a9,c9,rfl,hH⟩;have T:=T.trans a4;refine zV (QK (ps:=[(0,_),(2,_)]) [_,_,_,_] KU U U)<|zh YO<|zN (Qq ?_)
 first
 | exact ZD U U Yt (vs:=[.int .i64 1,.int .i64 0,.slice a9 _ c9,.slice none 0 0]) kI U (fun w hw=>by obtain ⟨I9,u,E,a1⟩:=hw.freezeAll;exact ⟨_,I9,[],U,T.trans u,E,U,_,_,_,_,_,_,by rw [zAR d h],by rw [zAR d h];exact hH.mono u,by rw [zAR d h];exact .nil⟩)
theorem zdo:kp 72 77 2 32:=.of kA
theorem zky:kq 77 #[(0,1),(1,1)] (.agg #[(.int .i64 0),(.slice none 0 0)]):=⟨.of kA,kA,fun w=>kA⟩
def zsH (rows:List (List Int))(rd:List Int)(k:Nat):List En:=if (KK rows k (rd.getD k 0)).length<rows.length then [⟨(k:Int),rd.getD k 0,zlC rows k⟩] else []
def zjF (rows:List (List Int))(rd:List Int)(k:Nat):List En:=(List.range k).flatMap (zsH rows rd)
theorem zcN {rows:List (List Int)}:zjF rows rd (k+1)=zjF rows rd k++zsH rows rd k:=by unfold zjF;rw [Ok,jh];simp
theorem zjs {rows:List (List Int)}(h:(KK rows k (rd.getD k 0)).length<rows.length):zjF rows rd (k+1)=zjF rows rd k++[⟨(k:Int),rd.getD k 0,zlC rows k⟩]:=by rw [zcN];unfold zsH;rw [jb h]
theorem zpV {rows:List (List Int)}(h:¬(KK rows k (rd.getD k 0)).length<rows.length):zjF rows rd (k+1)=zjF rows rd k:=by rw [zcN];unfold zsH;rw [ja h,jw]
def zwx (e:Int)(rows:List (List Int))(rd:List Int):List En:=if e≠0 then [] else zjF rows rd rd.length
variable{e:Int}
theorem zmz {rows:List (List Int)}(h:e≠0):zwx e rows rd=[]:=jb h
theorem zeq {rows:List (List Int)}(h:e=0):zwx e rows rd=zjF rows rd rd.length:=ja kB
def zGq (e:Int)(xs:List En)(v:Value)(I:Qu)(L:Go.Kn.Loc):Prop:=L=[]/\∃ a n c,v= .tuple #[.slice a n c,.int .i64 e]/\zib I a n c xs
theorem SlV.nil :SlV I none 0 0 []:=⟨[],.nil,zbv.nil⟩
theorem zib.nil :zib I none 0 0 []:=⟨[],.nil,zbv.nil⟩
theorem SlV.len {c:Nat}(h:SlV I a n c vs):vs.length=n:=by obtain ⟨B,h1,h2⟩:=h;rw [<-h2.1];exact h1.len
theorem zib.len {c:Nat}{vs:List En}(h:zib I a n c vs):vs.length=n:=by obtain ⟨B,h1,h2⟩:=h;rw [<-h2.1];exact h1.len
def eqL {C:Type}(P:C->C->Bool):List C->List C->Bool
 | [],[]=>true
 | a::as1,b::bs=>P a b&&eqL P as1 bs
 | _,_=>false
theorem zim {C:Type}{P:C->C->Bool}:∀ {xs ys:List C},xs.length≠ys.length->eqL P xs ys=false
 | [],[],h=>absurd U h
 | _::_,[],_=>rfl
 | [],_::_,_=>rfl
 | a::xs,b::ys,h=>by
  unfold eqL;rw [zim (xs:=xs) (ys:=ys) (fun e=>h (by simp [e])),OP]
theorem zdL {C:Type}{P:C->C->Bool}:∀ {xs d:List C} {k:Nat} {x y:C},xs[k]? =some x->d[k]? =some y->eqL P (xs.take (k+1)) (d.take (k+1))=(eqL P (xs.take k) (d.take k)&&P x y)
 | [],_,k,x,y,h,_=>by simp at h
 | _::_,[],k,x,y,_,h=>by simp at h
 | a::xs,b::d,0,x,y,h1,h2=>by simp at h1 h2;subst h1;subst h2;simp [eqL]
 | a::xs,b::d,k+1,x,y,h1,h2=>by
  simp only [OZ] at h1 h2;simp only [Bj,eqL];rw [zdL h1 h2,OV]
theorem zhI {C:Type}{P:C->C->Bool}:∀ {xs d:List C} {k:Nat} {x y:C},xs[k]? =some x->d[k]? =some y->P x y=false->eqL P xs d=false
 | [],_,k,x,y,h,_,_=>by simp at h
 | _::_,[],k,x,y,_,h,_=>by simp at h
 | a::xs,b::d,0,x,y,h1,h2,h=>by simp at h1 h2;subst h1;subst h2;unfold eqL;rw [h];rfl
 | a::xs,b::d,k+1,x,y,h1,h2,h=>by
  simp only [OZ] at h1 h2;unfold eqL;rw [zhI h1 h2 h,OP]
theorem zbe {C:Type}{P:C->C->Bool}(h:∀ a,P a a=true):∀ xs:List C,eqL P xs xs=true
 | []=>rfl
 | a::xs=>by unfold eqL;rw [h a,zbe h xs];rfl
theorem dm2 {p q c:Bool}(h:(!p|| !q)=c):(p&&q)= !c:=by cases p<;>cases q<;>simp_all
theorem dm3 {p q r c:Bool}(h:((!p|| !q)|| !r)=c):((p&&q)&&r)= !c:=by cases p<;>cases q<;>cases r<;>simp_all
def vtE (x y:Vt):Bool:=x.code==y.code&&decide (x.ws=y.ws)
def enE (x y:En):Bool:=(x.loc==y.loc&&x.lem==y.lem)&&eqL vtE x.vs y.vs
theorem zs8 (x:Vt):vtE x x=true:=by simp [vtE]
theorem zjA (x:En):enE x x=true:=by unfold enE;rw [zbe zs8];simp
def ogE (x y:Og):Bool:=x.k==y.k&&(x.r==y.r&&(decide (x.ws=y.ws)&&decide (x.ps=y.ps)))
theorem ziT (x:Og):ogE x x=true:=by simp [ogE]
theorem zdd:kp 29 74 3 40:=.of kA
theorem zep:kh 38 0 0:=.of kA
theorem zjv:kh 38 1 1:=.of kA
theorem zj7:kh 38 2 2:=.of kA
theorem UA:kh 38 3 3:=.of kA
theorem ziR:kh 74 0 0:=.of kA
theorem zkt:kh 74 1 1:=.of kA
theorem zby:kh 74 2 2:=.of kA
theorem zi8:kh 77 0 0:=.of kA
theorem zkJ:kh 77 1 1:=.of kA
theorem zC5:ke 35:=.of Tryz.func35 kA kA
theorem zqA:ke 43:=.of Tryz.func43 kA kA
theorem zmn:kq 74 #[(0,1),(1,1),(2,1)] (.agg #[(.int .i64 0),(.int .i64 0),(.slice none 0 0)]):=⟨.of kA,kA,fun w=>kA⟩
theorem zn1:kl 72:=.of kA
theorem Xv:ko 29 74 3:=.of kA
theorem zcr:ko 72 77 2:=.of kA
theorem zti {c:Nat}{xs:List Vt}(hS:SlV I J n c xs){ys:List Vt}(hT:SlV I G A F ys)(hn:n<=100000)(a7:∀ v∈xs,v.ws.length<=100000):kf 35 [.slice J n c,.slice G A F] I (.bool (eqL vtE xs ys)):=by
 intro g H w hw;refine qe Tryz.func35 Tryz.ntmps35 hw ?_;have b1:=hS.len;have b2:=hT.len;obtain ⟨B,f,a4⟩:=hS;obtain ⟨ht,t,a5⟩:=hT;refine zR<|zA<|zN<|Qk<|zR ?_;refine zM ?_;refine zQ zcr ?_;refine zM ?_;refine zQ zcr<|zC (zN ?_)
 refine zI ?_ ?_<;>intro z
 ·have a9:xs.length≠ys.length:=kd z;exact zR (zA (zN (Qq (Qb<|zr U U (by rw [zim a9])))))
 have b3:n=A:=kd z;refine Qm (Qa (Qk (zR (zA (zN (Ql<|zU [(0,_),(1,_)] (fun T L0 mz E s a2=>∃ (k:Nat),mz=n-k/\E=(5,.int .i64 k)::T/\I=s/\L0=a2/\k<=n/\eqL vtE (xs.take k) (ys.take k)=true) ?_ (h:=⟨0,U,U,U,U,jd _,U⟩)))))));rintro mz E s a2 ⟨k,rfl,rfl,rfl,rfl,hk,d⟩;refine Qk (zR (zM<|zM ?_));refine zQ zcr<|zC (zN ?_)
 refine zI ?_ ?_<;>intro a0
 ·have a8:k<n:=kd a0;obtain ⟨u,hu⟩:∃ u,xs[k]? =some u:=⟨_,jf kB⟩;obtain ⟨v,hv⟩:∃ v,ys[k]? =some v:=⟨_,jf kB⟩;obtain ⟨x,hx,rx⟩:=a4.at hu;obtain ⟨y,hy,ry⟩:=a5.at hv;have b0:=a7 u (je hu);refine Qm (Qa (Qk (Ql (Qk<|ZW mixed kA<|zq (Qd U)<|zq (Qd U) ?_))));refine zq (zX zcr f)<|zq (Qi U zi8)<|zq (Qc U Qr (fun hg=>by exact zJA f hx U))<|zq (Qd U)<|zq (Qd U) ?_
  refine zq (zX zcr t)<|zq (Qi U zi8)<|zq (Qc U Qr (fun hg=>by exact zJA t hy U))<|zq (Qx U U U)<|zq (Qd U)<|Ym 11 U U U<|zj (Qd U)<|zj (Qd U)<|zj (zX zcr f)<|zj (Qi U zkJ)<|zj (Qc U QA (fun hg=>by exact zJJ (j:=1) f hx U))<|zj (Qd U) ?_
  refine zj (Qd U)<|zj (zX zcr t)<|zj (Qi U zkJ)<|zj (Qc U QA (fun hg=>by exact zJJ (j:=1) t hy U))<|Va (cap:=[]) (vs:=[_,_]) U U zqA (fun hg=>ze2 rx.2 ry.2 (by rw [<-rx.2.len];exact b0)) (.some U U U U gbf) U U<|zj (ZT U)<|Jm U U U U U<|ZX<|Qa ?_
  refine zI ?_ ?_<;>intro a1
  ·have a3:vtE u v=false:=(by unfold vtE;rw [<-rx.1,<-ry.1];exact dm2 a1);exact zR (zA (zN (Qq (Qn (Qb (Qb (Qn<|Qb<|zr U U (by rw [zhI hu hv a3]))))))))
  have a3:vtE u v=true:=(by unfold vtE;rw [<-rx.1,<-ry.1];exact dm2 a1);refine Qm<|Qg<|Qa<|Qh<|zM ?_;refine zB<|zA (Qe ?_)
  exact zm (h:=⟨n-(k+1),kB,k+1,U,U,U,U,kB,by rw [zdL hu hv,d,a3];rfl⟩)
 have a6:n<=k:=kd a0;rw [jr kB,jr kB] at d;exact Qy (Qf (Qf (Qj (Qa (zR (zA (zN<|Qq<|zr U U (by rw [d]))))))))
theorem zjl {c:Nat}{xs:List En}(hS:zib I J n c xs){ys:List En}(hT:zib I G A F ys)(hn:n<=100000)(a8:∀ v∈xs,v.vs.length<=100000/\∀ u∈v.vs,u.ws.length<=100000):kf 13 [.slice J n c,.slice G A F] I (.bool (eqL enE xs ys)):=by
 intro g H w hw;refine qe Tryz.func13 Tryz.ntmps13 hw ?_;have b1:=hS.len;have b2:=hT.len;obtain ⟨B,d,a5⟩:=hS;obtain ⟨ht,f,a6⟩:=hT;refine zR<|zA<|zN<|Qk<|zR ?_;refine zM ?_;refine zQ Xv ?_;refine zM ?_;refine zQ Xv<|zC (zN ?_)
 refine zI ?_ ?_<;>intro z
 ·have b0:xs.length≠ys.length:=kd z;exact zR (zA (zN (Qq (Qb<|zr U U (by rw [zim b0])))))
 have b3:n=A:=kd z;refine Qm (Qa (Qk (zR (zA (zN (Ql<|zU [(0,_),(1,_)] (fun T L0 mz E s a2=>∃ (k:Nat),mz=n-k/\E=(5,.int .i64 k)::T/\I=s/\L0=a2/\k<=n/\eqL enE (xs.take k) (ys.take k)=true) ?_ (h:=⟨0,U,U,U,U,jd _,U⟩)))))));rintro mz E s a2 ⟨k,rfl,rfl,rfl,rfl,hk,t⟩;refine Qk (zR (zM<|zM ?_));refine zQ Xv<|zC (zN ?_)
 refine zI ?_ ?_<;>intro a0
 ·have a9:k<n:=kd a0;obtain ⟨u,hu⟩:∃ u,xs[k]? =some u:=⟨_,jf kB⟩;obtain ⟨v,hv⟩:∃ v,ys[k]? =some v:=⟨_,jf kB⟩;obtain ⟨x,hx,rx⟩:=a5.at hu;obtain ⟨y,hy,ry⟩:=a6.at hv;have a4:=a8 u (je hu);refine Qm (Qa (Qk (Ql (Qk<|ZW mixed kA<|zq (Qd U)<|zq (Qd U) ?_))));refine zq (zX Xv d)<|zq (Qi U ziR)<|zq (Qc U Qr (fun hg=>by exact zJA d hx U))<|zq (Qd U)<|zq (Qd U) ?_
  refine zq (zX Xv f)<|zq (Qi U ziR)<|zq (Qc U Qr (fun hg=>by exact zJA f hy U))<|zq (Qx U U U)<|zq (Qd U)<|Ym 11 U U U<|zj (Qd U)<|zj (Qd U)<|zj (zX Xv d)<|zj (Qi U zkt)<|zj (Qc U Qr (fun hg=>by exact zJJ (j:=1) d hx U))<|zj (Qd U) ?_
  refine zj (Qd U)<|zj (zX Xv f)<|zj (Qi U zkt)<|zj (Qc U Qr (fun hg=>by exact zJJ (j:=1) f hy U))<|zj (Qx U U U)<|Jm U U U U U<|zq (Qd U)<|Ym 24 U U U<|zj (Qd U)<|zj (Qd U)<|zj (zX Xv d)<|zj (Qi U zby) ?_
  refine zj (Qc U zn1 (fun hg=>by exact zJJ (j:=2) d hx U))<|zj (Qd U)<|zj (Qd U)<|zj (zX Xv f)<|zj (Qi U zby)<|zj (Qc U zn1 (fun hg=>by exact zJJ (j:=2) f hy U))<|Va (cap:=[]) (vs:=[_,_]) U U zC5 (fun hg=>zti rx.2.2 ry.2.2 (by rw [<-rx.2.2.len];exact a4.1) a4.2) (.some U U U U gbf) U U<|zj (ZT U)<|Jm U U U U U<|ZX<|Qa ?_
  refine zI ?_ ?_<;>intro a1
  ·have a3:enE u v=false:=(by unfold enE;rw [<-rx.1,<-ry.1,<-rx.2.1,<-ry.2.1];exact dm3 a1);exact zR (zA (zN (Qq (Qn (Qb (Qb (Qn<|Qb<|zr U U (by rw [zhI hu hv a3]))))))))
  have a3:enE u v=true:=(by unfold enE;rw [<-rx.1,<-ry.1,<-rx.2.1,<-ry.2.1];exact dm3 a1);refine Qm<|Qg<|Qa<|Qh<|zM ?_;refine zB<|zA (Qe ?_)
  exact zm (h:=⟨n-(k+1),kB,k+1,U,U,U,U,kB,by rw [zdL hu hv,t,a3];rfl⟩)
 have a7:n<=k:=kd a0;rw [jr kB,jr kB] at t;exact Qy (Qf (Qf (Qj (Qa (zR (zA (zN<|Qq<|zr U U (by rw [t]))))))))
variable{a1 a2 a3 a4:Option Addr}
theorem znM {o1 o2:Og}{h t:Nat}(h1:Sl I 1 QF a1 h t o1.ws)(h2:Sl I 1 QF a2 A F o1.ps){z u:Nat}(h3:Sl I 1 QF a3 n3 c3 o2.ws)(h4:Sl I 1 QF a4 z u o2.ps)(d:h<=100000)(f:A<=100000):kf 18 [.agg #[.int .i64 o1.k,.int .i64 o1.r,.slice a1 h t,.slice a2 A F],.agg #[.int .i64 o2.k,.int .i64 o2.r,.slice a3 n3 c3,.slice a4 z u]] I (.bool (ogE o1 o2)):=by
 intro g H w hw;refine qe Tryz.func18 Tryz.ntmps18 hw ?_;refine zR<|QU U U U (fun E=>QU U U U (fun T=>zA<|zN (zR<|zF zep ?_)))
 refine zL Qr<|zF zep ?_
 refine zL Qr<|zC ?_
 refine zM ?_;refine Qw 5 U U U ?_;refine zK (Qi U zjv) ?_;refine zK (Qc U Qr (fun hg=>by exact QO.h1 U))<|zK (Qi U zjv) ?_
 refine zK (Qc U Qr (fun hg=>by exact QO.h0 U))<|zK (Qx U U U) ?_
 refine QC U U U U U ?_;refine zM ?_;refine Qw 12 U U U ?_;refine zK (Qi U zj7) ?_;refine zK (Qc U QA (fun hg=>by exact QO.h1 U))<|zK (Qi U zj7) ?_
 refine zK (Qc U QA (fun hg=>by exact QO.h0 U))<|qg (vs:=[_,_]) U zqA (fun hg=>ze2 h1 h3 d)<|QC U U U U U ?_
 refine zM ?_;refine Qw 19 U U U ?_;refine zK (Qi U UA) ?_;refine zK (Qc U QA (fun hg=>by exact QO.h1 U))<|zK (Qi U UA) ?_
 refine zK (Qc U QA (fun hg=>by exact QO.h0 U))<|qg (vs:=[_,_]) U zqA (fun hg=>ze2 h2 h4 f)<|QC U U U U U<|zA (zN (Qq ?_))
 exact zr U U (by unfold ogE;simp only [OV])
variable{ys:List (Int×Int)}
theorem zm6 {c:Nat}{xs:List (Int×Int)}(hS:Sl I 2 K6 J n c xs)(hT:Sl I 2 K6 G A F ys)(hn:n<=100000):kf 19 [.slice J n c,.slice G A F] I (.bool (decide (xs=ys))):=by
 intro g H w hw;refine qe Tryz.func19 Tryz.ntmps19 hw ?_;have a9:=hS.len;have b0:=hT.len;refine zR<|zA<|zN<|Qk<|zR ?_;refine zM ?_;refine zQ JG ?_;refine zM ?_;refine zQ JG<|zC (zN ?_)
 refine zI ?_ ?_<;>intro f
 ·have a5:xs≠ys:=fun e=>(by have h:=f;subst e;simp at h;omega);exact zR (zA (zN (Qq (Qb<|zr U U (by rw [jX a5])))))
 have b1:n=A:=kd f;refine Qm (Qa (Qk (zR (zA (zN (Ql<|zU [(0,_),(1,_)] (fun T L0 mz E s z=>∃ (k:Nat),mz=n-k/\E=(5,.int .i64 k)::T/\I=s/\L0=z/\k<=n/\xs.take k=ys.take k) ?_ (h:=⟨0,U,U,U,U,jd _,U⟩)))))));rintro mz E s z ⟨k,rfl,rfl,rfl,rfl,hk,d⟩;refine Qk (zR (zM<|zM ?_));refine zQ JG<|zC (zN ?_)
 refine zI ?_ ?_<;>intro t
 ·have a0:k<n:=kd t;obtain ⟨x,hx⟩:=hS.at a0;obtain ⟨y,hy⟩:=hT.at (show k<A by omega);refine Qm (Qa (Qk (Ql (Qk<|ZW mixed kA<|zq (Qd U)<|zq (Qd U) ?_))));refine zq (zX JG hS)<|zq (Qo U zdc (fun hg=>by exact zJI hS hx) U)<|zq (Qd U)<|zq (Qd U) ?_
  refine zq (zX JG hT)<|zq (Qo U zdc (fun hg=>by exact zJI hT hy) U)<|zq (zBC U U zkK)<|ZX<|Qa ?_
  refine zI ?_ ?_<;>intro u
  ·have a5:xs≠ys:=fun e=>(by subst e;rw [hx] at hy;cases hy;simp at u);exact zR (zA (zN (Qq (Qn (Qb (Qb (Qn<|Qb<|zr U U (by rw [jX a5]))))))))
  have a8:x=y:=(by have h:=u;simp at h;exact Prod.ext h.1 h.2);refine Qm<|Qg<|Qa<|Qh<|zM ?_;exact zB<|zA (Qe<|zm (h:=⟨n-(k+1),kB,k+1,U,U,U,U,kB,by rw [jz,jz,d,hx,hy,a8]⟩))
 have a7:n<=k:=kd t;have a6:xs=ys:=(by rw [jr kB,jr kB] at d;exact d);exact Qy (Qf (Qf (Qj (Qa (zR (zA (zN<|Qq<|zr U U (by rw [jN a6]))))))))
end
end Go.Proofs.YtodakphagkommaaGreatDoor
namespace Go.Proofs.YtodakphagkommaaGreatDoor.R
section
open Go Go.Kn Go.Proofs
theorem Ju:km 159 4:=.of kA
theorem zwQ:km 254 9:=.of kA
theorem YH:km 57 19:=.of kA
theorem Xb:ku 254 9 253 1:=.of kA
theorem zmu:CvT Tryz.prog 186 3 .i64:=⟨kA,kA⟩
theorem zqw:kp 151 202 1 24:=.of kA
theorem zqi:kp 202 4 1 1:=.of kA
theorem UO:kp 36 57 19 168:=.of kA
theorem zgn:kh 159 0 0:=.of kA
theorem zcu:kh 159 1 1:=.of kA
theorem XI:kh 159 2 2:=.of kA
theorem X2:kh 159 3 3:=.of kA
theorem Zq:kh 57 0 0:=.of kA
theorem Yn:kh 57 1 1:=.of kA
theorem ZB:kh 57 2 2:=.of kA
theorem YK:kh 57 3 3:=.of kA
theorem Yr:kh 57 4 4:=.of kA
theorem YD:kh 57 5 18:=.of kA
theorem zh2:ke 116:=.of Tryz.func116 kA kA
theorem zxE:ke 127:=.of Tryz.func127 kA kA
theorem zyo:ke 128:=.of Tryz.func128 kA kA
theorem zz0:ke 129:=.of Tryz.func129 kA kA
theorem zoK:ke 130:=.of Tryz.func130 kA kA
theorem zhk:ke 131:=.of Tryz.func131 kA kA
theorem znd:ke 132:=.of Tryz.func132 kA kA
theorem zxb:ke 133:=.of Tryz.func133 kA kA
theorem zwN:ke 134:=.of Tryz.func134 kA kA
theorem zik:ke 135:=.of Tryz.func135 kA kA
theorem zxM:ke 138:=.of Tryz.func138 kA kA
theorem zzo:ke 139:=.of Tryz.func139 kA kA
theorem zyh:ke 140:=.of Tryz.func140 kA kA
theorem zxy:ke 141:=.of Tryz.func141 kA kA
theorem zxD:ke 143:=.of Tryz.func143 kA kA
theorem zyV:ke 144:=.of Tryz.func144 kA kA
theorem zz8:ke 145:=.of Tryz.func145 kA kA
theorem zqK:ke 146:=.of Tryz.func146 kA kA
theorem zmo:ke 147:=.of Tryz.func147 kA kA
theorem zAa:ke 149:=.of Tryz.func149 kA kA
theorem zyf:ke 161:=.of Tryz.func161 kA kA
theorem zeU:ke 169:=.of Tryz.func169 kA kA
theorem zza:ke 179:=.of Tryz.func179 kA kA
theorem zhv:ke 180:=.of Tryz.func180 kA kA
theorem zxk:ke 181:=.of Tryz.func181 kA kA
theorem zyK:ke 182:=.of Tryz.func182 kA kA
theorem zwP:ke 183:=.of Tryz.func183 kA kA
theorem zzQ:ke 184:=.of Tryz.func184 kA kA
theorem zqr:ke 185:=.of Tryz.func185 kA kA
theorem zxo:ke 186:=.of Tryz.func186 kA kA
theorem zw4:ke 187:=.of Tryz.func187 kA kA
theorem zzE:ke 188:=.of Tryz.func188 kA kA
theorem zAJ:ke 189:=.of Tryz.func189 kA kA
theorem zo1:ke 190:=.of Tryz.func190 kA kA
theorem zyl:ke 193:=.of Tryz.func193 kA kA
theorem zAO:ke 194:=.of Tryz.func194 kA kA
theorem zxK:ke 195:=.of Tryz.func195 kA kA
theorem zil:ke 196:=.of Tryz.func196 kA kA
theorem zzr:ke 222:=.of Tryz.func222 kA kA
theorem zAq:ke 232:=.of Tryz.func232 kA kA
theorem zoZ:ke 242:=.of Tryz.func242 kA kA
theorem zAS:ke 243:=.of Tryz.func243 kA kA
theorem zt8:ke 41:=.of Tryz.func41 kA kA
theorem zue:ke 48:=.of Tryz.func48 kA kA
theorem zwe:ke 49:=.of Tryz.func49 kA kA
theorem zwp:ke 50:=.of Tryz.func50 kA kA
theorem zvq:ke 77:=.of Tryz.func77 kA kA
theorem zv9:ke 78:=.of Tryz.func78 kA kA
theorem zkI:ke 79:=.of Tryz.func79 kA kA
theorem zF5:ke 83:=.of Tryz.func83 kA kA
theorem zFE:ke 84:=.of Tryz.func84 kA kA
theorem zDK:ke 86:=.of Tryz.func86 kA kA
theorem zFA:ke 88:=.of Tryz.func88 kA kA
theorem zoR:ke 89:=.of Tryz.func89 kA kA
theorem zBZ:ke 90:=.of Tryz.func90 kA kA
theorem zoq:MkT Tryz.prog 202 4 1 (.bool false):=⟨kA,kA,U⟩
theorem We:kr 156 3 167 (.map none):=⟨kA,.of kA⟩
theorem ziz:kr 157 79 36 (.slice none 0 0):=⟨kA,.of kA⟩
theorem JP:kr 167 3 4 (.bool false):=⟨kA,.of kA⟩
theorem Jf:kr 91 3 23 (.slice none 0 0):=⟨kA,.of kA⟩
theorem zBm:kq 159 #[(0,1),(1,1),(2,1),(3,1)] (.agg #[(.map none),(.map none),(.map none),(.slice none 0 0)]):=⟨.of kA,kA,fun w=>kA⟩
theorem zdi:kq 52 #[(0,1),(1,1)] (.agg #[(.int .i64 0),(.int .i64 0)]):=⟨.of kA,kA,fun w=>kA⟩
theorem zlV:kl 156:=.of kA
theorem zh5:kl 157:=.of kA
theorem znl:kl 167:=.of kA
theorem zbU:kl 202:=.of kA
theorem X8:kl 253:=.of kA
theorem zdy:kl 48:=.of kA
theorem zku:kl 91:=.of kA
theorem zbM:ko 151 202 1:=.of kA
theorem Jq:ko 202 4 1:=.of kA
theorem QV:ko 36 57 19:=.of kA
theorem Xd:ki 159 4:=.of kA
theorem zAY:ki 167 1:=.of kA
theorem zx1:ki 254 9:=.of kA
theorem zs0:ki 4 1:=.of kA
theorem zoH:ki 48 1:=.of kA
theorem Km:ki 57 19:=.of kA
theorem zAz:Tryz.prog.underlying 167=some (.map 3 4):=kA
theorem zIi:Tryz.prog.underlying 4=some .bool:=kA
theorem zvj:kj 159 (.agg #[(.map none),(.map none),(.map none),(.slice none 0 0)]):=.of kA
theorem zDc:kj 167 (.map none):=.of kA
theorem zt3:kj 254 (.agg #[(.pointer none),(.pointer none),(.pointer none),(.pointer none),(.pointer none),(.pointer none),(.pointer none),(.pointer none),(.pointer none)]):=.of kA
theorem WP:kj 57 (.agg #[(.int .i64 0),(.int .i64 0),(.int .i64 0),(.int .i64 0),(.int .i64 0),(.int .i64 0),(.int .i64 0),(.int .i64 0),(.int .i64 0),(.int .i64 0),(.int .i64 0),(.int .i64 0),(.int .i64 0),(.int .i64 0),(.int .i64 0),(.int .i64 0),(.int .i64 0),(.int .i64 0),(.slice none 0 0)]):=.of kA
def zc1 (b:Bool):List Value:=[.bool b]
theorem Xt (x:Bool):(zc1 x).length=1:=rfl
theorem zHR (d:List Bool):YY (d.flatMap zc1)=true:=YM (fun _=>U) d
theorem zJc (d:List Int):(d.flatMap QF).length=d.length:=by rw [ZF QL,Om]
variable{s:Type}{k:Nat}{d:List s}{x:s}{p:s->Bool}
theorem X9 (b:d[k]? =some x)(h:(d.take k).all p=true)(a:p x=true):(d.take (k+1)).all p=true:=by rw [jz,b,As,h];simpa using a
theorem zdF (b:d[k]? =some x)(a:p x=false):d.all p=false:=Bw.2 ⟨x,je b,by rw [a];decide⟩
theorem zk2 (h:(d.take k).any p=false)(a:d[k]? =some x)(f:p x=true):d.findIdx p=k:=by have b:=(jc.1 a).1;rw [List.findIdx_eq b];refine ⟨by rw [(jc.1 a).2];exact f,fun j g=>?_⟩;have:=jL.1 h d[j] (by rw [Ar];exact ⟨j,kB,U⟩);simpa using this
theorem V5 (h:(d.take k).any p=false)(b:d[k]? =some x)(a:p x=true):KA p d=k:=by unfold KA;rw [YN b a,jb rfl,zk2 h b a]
theorem znO :decide (KA p d<0)= !d.any p:=by
 unfold KA;cases h:d.any p
 ·rfl
 ·simp
theorem zhH (h:d.any p=true):∃ i x,KA p d=(i:Nat)/\d[i]? =some x/\p x=true/\i<d.length:=by obtain ⟨x,f,b⟩:=jD.1 h;have a:=Bz ⟨x,f,b⟩;exact ⟨d.findIdx p,d[d.findIdx p],by unfold KA;rw [h];rfl,jf a,List.findIdx_getElem,a⟩
theorem zEl {s:Type}{p:s->Bool}:∀ {d:List s} {k:Nat},(d.take k).all p=true->k<=d.length->(∀ y,d[k]? =some y->p y=false)->d.takeWhile p=d.take k/\d.dropWhile p=d.drop k
 | [],k,_,hk,_=>by simp
 | x::d,0,_,_,h=>by
  have:=h x U;simp [this]
 | x::d,k+1,h,hk,h2=>by
  rw [Bj,BX,ji] at h;obtain ⟨h3,h4⟩:=zEl h.2 (by simpa using hk) (fun y a=>h2 y (by simpa using a));rw [Bi,BN,jb h.1,jb h.1,h3,h4];exact ⟨U,U⟩
theorem zaC:∀ {d f:List Int},d.Pairwise (· < ·)->f.Pairwise (· < ·)->(∀ a,a∈d↔a∈f)->d=f
 | [],[],_,_,_=>rfl
 | [],y::f,_,_,h=>by have:=(h y).2 (jl ..);cases this
 | x::d,[],_,_,h=>by have:=(h x).1 (jl ..);cases this
 | x::d,y::f,hx,hy,h=>by
  rw [Jb] at hx hy
  have e:x=y:=by
   rcases jo.1 ((h x).1 (jl ..)) with e | e
   ·exact e
   ·rcases jo.1 ((h y).2 (jl ..)) with g | g
    ·exact g.symm
    ·have h1:=hx.1 _ g;have h2:=hy.1 _ e;omega
  subst e;refine jA _ (zaC hx.2 hy.2 fun a=>?_);constructor
  ·intro b;rcases jo.1 ((h a).1 (jm _ b)) with e | e
   ·subst e;have:=hx.1 _ b;omega
   ·exact e
  ·intro b;rcases jo.1 ((h a).2 (jm _ b)) with e | e
   ·subst e;have:=hy.1 _ b;omega
   ·exact e
theorem zao:∀ {g d:List Int},d.Pairwise (· < ·)->g.Pairwise (· < ·)->(∀ a∈d,a∈g)->d.length<=g.length/\(g.length<=d.length->d=g)
 | [],[],_,_,_=>⟨jn _,fun _=>U⟩
 | [],x::d,_,_,h=>by have:=h x (jl ..);cases this
 | y::g,[],_,_,_=>⟨jd _,fun h=>by simp at h⟩
 | y::g,x::d,hx,hy,h=>by
  have b:=Jb.1 hx;have f:=Jb.1 hy;by_cases e:x=y
  ·subst e;have:=zao b.2 f.2 fun a j=>(jo.1 (h a (jm _ j))).elim (fun e=>by subst e;have:=b.1 _ j;omega) id;exact ⟨by simpa using this.1,fun n=>by rw [this.2 (by simpa using n)]⟩
  ·have o:y<x:=by
    rcases jo.1 (h x (jl ..)) with i | i
    ·exact absurd i e
    ·exact f.1 _ i
   have:=(zao hx f.2 fun a j=>(jo.1 (h a j)).elim (fun i=>by
    subst i;rcases jo.1 j with l | l
    ·omega
    ·have:=b.1 _ l;omega) id).1
   simp only [jx] at this ⊢;exact ⟨kB,fun n=>kB⟩
def Yc:Sg:=⟨0,0,0,0,0,0,0,0,0,0,0,0,0,0⟩
instance : DecidableEq Sg := fun a b => decidable_of_iff (Wb a b = true) Un
theorem zn7 (x:Sg):Wb x x=true:=Un.2 U
structure Pt where
 id:Int
 kind:Int
 sign:Int
 field:Int
 nw:Sg
 a:Option Addr
 n:Nat
 c:Nat
 needs:List Int
def Y5 (p:Pt):List Value:=[.int .i64 p.id,.int .i64 p.kind,.int .i64 p.sign,.int .i64 p.field,.int .i64 p.nw.id,.int .i64 p.nw.role,.int .i64 p.nw.bar,.int .i64 p.nw.mark,.int .i64 p.nw.kind,.int .i64 p.nw.side,.int .i64 p.nw.dir,.int .i64 p.nw.level,.int .i64 p.nw.size,.int .i64 p.nw.wth,.int .i64 p.nw.fn,.int .i64 p.nw.fd,.int .i64 p.nw.tn,.int .i64 p.nw.td,.slice p.a p.n p.c]
def Wd (p:Pt):Value:=.agg (Y5 p).toArray
theorem Yj (x:Pt):(Y5 x).length=19:=rfl
theorem znR (d:List Pt):YY (d.flatMap Y5)=true:=YM (fun _=>U) d
def WL:Pt:=⟨0,0,0,0,Yc,none,0,0,[]⟩
def Nd (I:Qu)(p:Pt):Prop:=Sl I 1 QF p.a p.n p.c p.needs
variable{I t:Qu}
theorem Nd.mono {p:Pt}(h:Nd I p)(a:HLe I t):Nd t p:=Sl.mono h a
def SlP (I:Qu)(o:Option Addr)(n c:Nat)(ps:List Pt):Prop:=Sl I 19 Y5 o n c ps/\∀ p∈ps,Nd I p
variable{o:Option Addr}{n c:Nat}{ps:List Pt}
theorem SlP.mono (h:SlP I o n c ps)(a:HLe I t):SlP t o n c ps:=⟨h.1.mono a,fun p b=>(h.2 p b).mono a⟩
theorem SlP.nil :SlP I o 0 c []:=⟨.nil,fun p a=>by cases a⟩
theorem SlP.len (h:SlP I o n c ps):ps.length=n:=h.1.len
theorem SlP.at (h:SlP I o n c ps)(b:k<n):∃ p,ps[k]? =some p/\Nd I p:=by obtain ⟨p,a⟩:=h.1.at b;exact ⟨p,a,h.2 p (je a)⟩
structure Cf where
 sign:Int
 field:Int
 a:Option Addr
 n:Nat
 c:Nat
 ids:List Int
def zJx (x:Cf):List Value:=[.int .i64 x.sign,.int .i64 x.field,.slice x.a x.n x.c]
def Cf.key (x:Cf):Int×Int×List Int:=(x.sign,x.field,x.ids)
def SlC (I:Qu)(o:Option Addr)(n c:Nat)(u:List Cf):Prop:=Sl I 3 zJx o n c u/\∀ x∈u,Sl I 1 QF x.a x.n x.c x.ids
variable{u:List Cf}
theorem SlC.mono (h:SlC I o n c u)(a:HLe I t):SlC t o n c u:=⟨h.1.mono a,fun p b=>(h.2 p b).mono a⟩
def skP (d:List Sg)(i:Nat):Bool:= !(!frm (d.getD i Yc)||(decide ((i:Int)>0)&&decide ((d.getD ((i:Int)-1).toNat Yc).id>=(d.getD i Yc).id)))
def skB (d:List Sg):Bool:=(List.range d.length).all (skP d)
def Kg (d:List Sg):Int:=if d.length>4096 then 2 else if skB d then 0 else 360
def Jk (x:Sg)(f:Int)(y:Sg):Sg:=
 if f=1 then {x with role:=y.role} else if f=2 then {x with bar:=y.bar} else if f=3 then {x with mark:=y.mark} else if f=4 then {x with side:=y.side} else if f=5 then {x with dir:=y.dir}
 else if f=6 then {x with level:=y.level} else if f=7 then {x with size:=y.size} else if f=8 then {x with wth:=y.wth} else if f=9 then {x with fn:=y.fn,fd:=y.fd,tn:=y.tn,td:=y.td} else x
def zdm:Sg:=⟨0,0,0,3,9,0,0,0,0,0,0,1,1,2⟩
def zgu:Sg:=⟨0,0,0,1,1,0,0,0,0,0,0,1,1,1⟩
def ndP (id:Int)(v:List Int)(i:Nat):Bool:= !((decide (v.getD i 0<1)||decide (v.getD i 0>=id))||(decide ((i:Int)>0)&&decide (v.getD i 0<=v.getD ((i:Int)-1).toNat 0)))
def ndB (id:Int)(v:List Int):Bool:=(List.range v.length).all (ndP id v)
def idB (p:Pt):Bool:=(decide (p.id>=1)&&decide (p.id<=1048576))&&(decide (p.sign>=0)&&decide (p.sign<=1048576))
def UI (p:Pt):Bool:=
 if p.kind=1 then Za p.field 1 9&&(Wb (Jk p.nw p.field Yc) Yc&&frm (Jk zdm p.field p.nw))
 else if p.kind=2 then p.field==0&&(p.nw.id==p.sign&&frm p.nw)
 else if p.kind=3 then p.field==0&&Wb p.nw Yc else false
def pchk (p:Pt):Int:=if p.needs.length>32 then 2 else if ndB p.id p.needs&&(idB p&&UI p) then 0 else 370
def orF:List Int->Int
 | []=>0
 | x::d=>if x≠0 then x else orF d
theorem KV:∀ {d:List Int},orF d=0↔ ∀ x∈d,x=0
 | []=>by simp [orF]
 | x::d=>by
  unfold orF;by_cases h:x=0
  ·rw [ja (by simpa using h),KV];simp [h]
  ·rw [jb h];simp [h]
theorem zsh {d:List Int}{x:Int}(a:d[k]? =some x)(h:orF (d.take k)=0)(b:x≠0):orF d=x:=by
 induction d generalizing k with
 | nil=>simp at a
 | cons y g ih=>
  cases k with
  | zero=>
   simp at a;subst a;unfold orF;rw [jb b]
  | succ k=>
   rw [Bj] at h;unfold orF at h ⊢;by_cases f:y=0
   ·rw [ja (by simpa using f)] at h ⊢;exact ih (by simpa using a) h
   ·rw [jb f] at h;exact absurd h f
def onS (f:Int->Int->Bool)(p:Pt):Int->Int->Bool:=fun a b=>if a=p.id then p.needs.any (fun n=>n==b||f n b) else f a b
def onF (ps:List Pt):Int->Int->Bool:=ps.foldl onS (fun _ _=>false)
def X7 (ps:List Pt)(n:Int):Bool:=ps.any (fun q=>q.id==n)
def lsP (ps:List Pt)(i:Nat):Bool:= !((decide ((i:Int)>0)&&decide ((ps.getD i WL).id<=(ps.getD ((i:Int)-1).toNat WL).id))||(ps.getD i WL).needs.any (fun n=> !X7 ps n))
def lsB (ps:List Pt):Bool:=(List.range ps.length).all (lsP ps)
def zbr (p q:Pt)(on:Bool):Bool:=if p.sign≠q.sign then true else if q.kind=2 then p.kind != 2&&on else if q.kind=3 then !on else true
def zkU (ps:List Pt):Bool:=ps.all fun p=>ps.all fun q=>p.id==q.id||zbr p q (onF ps p.id q.id)
def JL (ps:List Pt):Int:=if ps.length>512 then 2 else if orF (ps.map pchk)≠0 then orF (ps.map pchk) else if lsB ps&&zkU ps then 0 else 380
structure Lst (ps:List Pt):Prop where
 pos:∀ p∈ps,1<=p.id
 inc:ps.Pairwise (fun p q=>p.id<q.id)
 has:∀ p∈ps,∀ n∈p.needs,n<p.id/\∃ q∈ps,q.id=n
theorem JY {n:Int}:X7 ps n=true↔ ∃ q∈ps,q.id=n:=by unfold X7;rw [jD];simp
theorem Lst.uniq (h:Lst ps){p q:Pt}(z:p∈ps)(A:q∈ps)(e:p.id=q.id):p=q:=by
 obtain ⟨i,y⟩:=jU z;obtain ⟨j,w⟩:=jU A;obtain ⟨b,f⟩:=jc.1 y;obtain ⟨l,r⟩:=jc.1 w;by_cases g:i=j
 ·subst g;rw [y] at w;exact Ob w
 ·rcases Nat.lt_or_gt_of_ne g with a | a
  ·have:=jY.1 h.inc i j b l a;rw [f,r] at this;omega
  ·have:=jY.1 h.inc j i l b a;rw [f,r] at this;omega
variable{a b:Int}
theorem zm3 {f:Int->Int->Bool}{p:Pt}(h:a≠p.id):onS f p a b=f a b:=by unfold onS;rw [ja h]
theorem WJ:∀ (ps:List Pt) {f:Int->Int->Bool} {a b:Int},(∀ p∈ps,p.id≠a)->ps.foldl onS f a b=f a b
 | [],_,_,_,_=>rfl
 | p::ps,f,a,b,h=>by
  rw [Of,WJ ps (fun q g=>h q (jm _ g)),zm3 (fun e=>h p (jl ..) e.symm)]
theorem ztO (h:∀ p∈ps,p.id≠a):onF ps a b=false:=WJ ps h
variable{qs:List Pt}
theorem zcC {p:Pt}(h:∀ q∈qs,q.id≠p.id):onF (ps++p::qs) p.id b=p.needs.any (fun n=>n==b||onF ps n b):=by unfold onF;rw [Oh,Of,WJ qs h];unfold onS;rw [jb rfl]
theorem zfq (h:∀ q∈qs,q.id≠a):onF (ps++qs) a b=onF ps a b:=by unfold onF;rw [Oh,WJ qs h]
theorem Lst.tail_ne {p:Pt}(h:Lst (ps++p::qs)):(∀ q∈qs,p.id<q.id)/\(∀ q∈ps,q.id<p.id):=by have h1:=h.inc;rw [OJ] at h1;exact ⟨(Jb.1 h1.2.1).1,fun q f=>h1.2.2 q f p (jl ..)⟩
theorem zbn {f g:s->Bool}(h:∀ x∈d,f x=g x):d.any f=d.any g:=by
 induction d with
 | nil=>rfl
 | cons x d ih=>rw [BY,BY,h x (jl ..),ih fun y i=>h y (jm _ i)]
theorem Lst.on (h:Lst ps){p:Pt}(g:p∈ps)(b:Int):onF ps p.id b=p.needs.any (fun n=>n==b||onF ps n b):=by
 obtain ⟨l,r,rfl⟩:=List.append_of_mem g;obtain ⟨h1,h2⟩:=h.tail_ne;rw [zcC (fun q f e=>by have:=h1 q f;omega)];refine zbn fun n j=>?_;have i:=(h.has p g n j).1;rw [zfq (ps:=l) (qs:=p::r)];intro q f e;rcases jo.1 f with rfl | f
 ·omega
 ·have:=h1 q f;omega
theorem Lst.on_iff (h:Lst ps){p:Pt}(f:p∈ps):onF ps p.id b=true↔ ∃ n∈p.needs,n=b\/onF ps n b=true:=by rw [h.on f,jD];simp
theorem zhV (h:onF ps a b=true):∃ p∈ps,p.id=a:=by
 by_cases f:∃ p∈ps,p.id=a
 ·exact f
 ·rw [ztO (fun p g e=>f ⟨p,g,e⟩)] at h;cases h
variable{M:Pt->Prop}
theorem Lst.ind (h:Lst ps)(w:∀ p∈ps,(∀ q∈ps,q.id<p.id->M q)->M p):∀ p∈ps,M p:=by
 have key:∀ (m:Nat) (q:Pt),q∈ps->q.id.toNat<=m->M q:=by
  intro m
  induction m with
  | zero=>
   intro q f j;have:=h.pos q f;omega
  | succ m ih=>
   intro q f j;exact w q f fun r g i=>ih r g (by have:=h.pos r g;omega)
 exact fun p l=>key _ p l (jn _)
theorem Lst.on_lt (h:Lst ps)(f:onF ps a b=true):b<a/\∃ q∈ps,q.id=b:=by
 obtain ⟨p,g,rfl⟩:=zhV f
 revert f
 refine h.ind (M:=fun p=>onF ps p.id b=true->b<p.id/\∃ q∈ps,q.id=b) (fun p g ih f=>?_) p g;obtain ⟨n,j,e⟩:=(h.on_iff g).1 f;obtain ⟨h1,q,i,rfl⟩:=h.has p g n j;rcases e with rfl | e
 ·exact ⟨h1,q,i,U⟩
 ·have:=ih q i h1 e;exact ⟨kB,this.2⟩
theorem Lst.on_irr (h:Lst ps):onF ps a a=false:=by
 cases f:onF ps a a with
 | false=>rfl
 | true=>have:=(h.on_lt f).1;omega
theorem Lst.on_trans (h:Lst ps){c:Int}(h1:onF ps a b=true)(h2:onF ps b c=true):onF ps a c=true:=by
 obtain ⟨p,f,rfl⟩:=zhV h1
 revert h1
 refine h.ind (M:=fun p=>onF ps p.id b=true->onF ps p.id c=true) (fun p f ih j=>?_) p f;obtain ⟨n,i,e⟩:=(h.on_iff f).1 j;obtain ⟨g,q,l,rfl⟩:=h.has p f n i;rcases e with rfl | e
 ·exact (h.on_iff f).2 ⟨_,i,.inr h2⟩
 ·exact (h.on_iff f).2 ⟨_,i,.inr (ih q l g e)⟩
theorem Lst.on_need (h:Lst ps){p:Pt}(g:p∈ps){n:Int}(f:n∈p.needs):onF ps p.id n=true:=(h.on_iff g).2 ⟨n,f,.inl U⟩
variable{f:Pt->Bool}
theorem Lst.part (h:Lst ps)(w:∀ p∈ps,f p=true->∀ q∈ps,q.id∈p.needs->f q=true):Lst (ps.filter f):=
 ⟨fun p i=>h.pos p (jP.1 i).1,h.inc.filter f,fun p i n l=>by
  obtain ⟨g,j⟩:=jP.1 i;obtain ⟨h1,q,r,rfl⟩:=h.has p g n l
  exact ⟨h1,q,jP.2 ⟨r,w p g j q r l⟩,U⟩⟩
theorem Lst.on_part (h:Lst ps)(j:∀ p∈ps,f p=true->∀ q∈ps,q.id∈p.needs->f q=true){p:Pt}(g:p∈ps)(i:f p=true):onF (ps.filter f) p.id b=onF ps p.id b:=by
 have hL:=h.part j
 revert i
 refine h.ind (M:=fun p=>f p=true->onF (ps.filter f) p.id b=onF ps p.id b) (fun p g ih i=>?_) p g;rw [hL.on (jP.2 ⟨g,i⟩),h.on g];refine zbn fun n l=>?_;obtain ⟨h1,q,r,rfl⟩:=h.has p g n l;rw [ih q r h1 (j p g i q r l)]
def zzL (v:List Int):Bool:=(List.range v.length).all fun i=> !(decide ((i:Int)>0)&&decide (v.getD i 0<=v.getD ((i:Int)-1).toNat 0))
variable{v:List Int}
theorem zrW :zzL v=true↔v.Pairwise (· < ·):=by
 unfold zzL;constructor
 ·intro h;refine UY (R:=fun a b:Int=>a<b) (fun a b c h1 h2=>B3 h1 h2) fun k g=>?_;rw [jk] at h;have h1:=h (k+1) (jq.2 g);rw [show (((k+1:Nat):Int)-1).toNat=k by omega,QJ (jf g),QJ (jf (show k<v.length by omega))] at h1;simp at h1;omega
 ·intro h;rw [jk];intro k g;rw [jq] at g
  cases k with
  | zero=>rfl
  | succ k=>
   rw [show (((k+1:Nat):Int)-1).toNat=k by omega,QJ (jf g),QJ (jf (show k<v.length by omega))];have:=jY.1 h k (k+1) kB g kB;simp;omega
def chB (ps:List Pt)(ids:List Int):Bool:=zzL ids&&ids.all (X7 ps)
def zfz (ps:List Pt)(ids:List Int):List Int:=(ps.filter fun p=>ids.any fun n=>n==p.id||onF ps n p.id).map (·.id)
def X6 (ps:List Pt)(v:List Int):Bool:=chB ps v&&ziH (zfz ps v) v
def zqR (ps:List Pt)(a b:List Int):Int:=if JL ps≠0 then JL ps else if decide (a.length>512)||decide (b.length>512) then 2 else if X6 ps a&&X6 ps b then 0 else 380
end
end Go.Proofs.YtodakphagkommaaGreatDoor.R
