/- apparatusOriginSpec_holds, part I of the proof: what its theorems say holds without further conditions. -/
import Derived.KernelRfl
import Derived.Test.YtodakphagkommaaGreatDoorAOH
namespace Go.Proofs.YtodakphagkommaaGreatDoor.R
section
open Go Go.Kn Go.Proofs
theorem zfr:km 104 2:=.of kA
theorem Kl:km 98 8:=.of kA
theorem zpH:Ar2 Tryz.prog 104 3 .i64:=⟨kA,kA,kA,kA,kA⟩
theorem JQ:ku 104 2 3 1:=.of kA
theorem Wy:kh 98 2 5:=.of kA
theorem Xz:kh 98 3 6:=.of kA
theorem zmH:ke 112:=.of Tryz.func112 kA kA
theorem znN:ke 113:=.of Tryz.func113 kA kA
theorem zoS:ke 114:=.of Tryz.func114 kA kA
theorem znU:ke 115:=.of Tryz.func115 kA kA
theorem zmG:ke 117:=.of Tryz.func117 kA kA
theorem zpt:ke 118:=.of Tryz.func118 kA kA
theorem zdw:kl 36:=.of kA
theorem zdl:kl 96:=.of kA
theorem zp7:ki 36 1:=.of kA
theorem zjL:kj 104 (.agg #[(.int .i64 0),(.int .i64 0)]):=.of kA
theorem zF7:kj 36 (.slice none 0 0):=.of kA
variable{I:Qu}{a7:Nat}{cap:List Value}{P:Pt->Bool}
theorem zDU (hF:ke a7)(f:∀ x∈([]:List Pt),kf a7 ([Wd x]++cap) I (.bool (P x))):kg 113 [.slice none 0 0,.func (.func a7) #[] cap.toArray] I [] (fun u d L=>d=I/\∃ m,OwnS 57 19 u m (([]:List Pt).flatMap Y5) L):=by
 intro g H w b;refine qe Tryz.func113 Tryz.ntmps113 b ?_;refine zR (zA<|zN (zR ?_));refine zM ?_;refine zM ?_;refine qcV (vs:=[_,_]) U zeU (zFz (ps:=[]) ⟨.nil,fun x h=>by cases h⟩ kB hF f) ?_;refine zA<|zN<|Qk<|zR ?_;refine zM<|zC (zN ?_)
 refine zI ?_ ?_<;>intro a
 ·exact zR (zM<|zA (zN (Qq (Qb<|Zc U U (fun w b=>⟨_,I,[],U,zJH _,b.drop,U,0,OwnS.nil⟩)))))
 exact absurd a (by simp [KA])
variable{v:Value}{n:Nat}{L0:Go.Kn.Loc}{D:List Pt}
theorem zEw (q:OwnS 57 19 v n (D.flatMap Y5) L0)(s:n<=100000)(hF:ke a7)(l:∀ x∈D,kf a7 ([Wd x]++cap) I (.bool (P x))):kg 113 [v,.func (.func a7) #[] cap.toArray] I L0 (fun u o L=>o=I/\∃ m,OwnS 57 19 u m ((D.filter fun p=> !P p).flatMap Y5) L):=by
 obtain ⟨a,⟨rfl,rfl,rfl⟩ | ⟨b,c,d,rfl,rfl,g,f,i,j⟩⟩:=q
 ·obtain rfl:D=[]:=by
   rw [ZF Yj] at a;exact Oo.1 kB
  exact zDU hF l
 have r:D.length=n:=(by rw [ZF Yj] at a;omega);have h:=zCh (b:=b) (A:=d.toList) (c:=c) j (by rw [Bf];exact i) r g f s hF l;rw [BD] at h;exact h
variable{t:Tx}
theorem zxA (d:OnM I t.r D)(p:Pt)(f:∃ z∈D,z.id=p.id)(i:Int):kf 118 [.agg (Uu t).toArray,Wd p,.int .i64 i] I (.bool (onF D p.id i)):=by
 intro g H w x;refine qe Tryz.func118 Tryz.ntmps118 x ?_;obtain ⟨m,h,j⟩:=d;obtain ⟨y,b,q,l,o⟩:=j.get f;refine zR<|QU U U U (fun s=>QU U U U (fun u=>zA<|zN (zR<|zF Wy ?_)))
 refine zL zdl<|zF Zq ?_
 refine zL Qr<|zV (VF (m:=m) (ek:=Value.int .i64) (ev:=zfA) (a:=p.id) b zc8 ZZ U U (fun _=>.inl h))<|zM<|zV (Y3 (m:=q) zfP ZZ U U (fun _=>.inl l))<|zA (zN (Qq ?_))
 exact zr U U (by rw [show (ZR q i).getD false=onF D p.id i from o.mem _])
variable{b1 b2:Nat}{p:Pt}
theorem zzA (h1:I b1=some (.cells (Uu t).toArray 98 (0,0)))(h2:I b2=some (.cells (Y5 p).toArray 57 (0,0)))(a:OnM I t.r D)(q:Pt)(b:∃ z∈D,z.id=q.id):kf 117 [Wd q,.pointer (some ⟨b1,0,none⟩),.pointer (some ⟨b2,0,none⟩)] I (.bool (onF D q.id p.id)):=by
 intro g H w f;refine qe Tryz.func117 Tryz.ntmps117 f ?_;refine zR<|QU U U U (fun d=>zA<|zN (zR<|zV (Qo U Kl (fun hg=>by exact Cells.imm h1) U)<|zV (Qo U YH (fun hg=>by exact Cells.g0) U)<|zF Zq ?_))
 refine zV (Qc U Qr (fun hg=>by exact .imm h2 U))<|qcV (vs:=[_,_,_]) U zpt (zxA a q b _) ?_
 refine zA<|zN<|Qq ?_;exact zr U U kL
variable{av:Option Addr}{c:Nat}
theorem zEV {J:List Pt}(h1:I b1=some (.cells #[.slice av n c] 36 (0,0)))(h2:I b2=some (.cells (Uu t).toArray 98 (0,0)))(h:OnM I t.r D)(i:SlP I av n c J)(j:n<=100000)(d:∀ q∈J,∃ z∈D,z.id=q.id)(p:Pt):kf 115 [Wd p,.pointer (some ⟨b1,0,none⟩),.pointer (some ⟨b2,0,none⟩)] I (.bool (J.any fun q=>onF D q.id p.id)):=by
 intro g H w o;refine qe Tryz.func115 Tryz.ntmps115 o ?_;refine zR<|QU U U U (fun a=>zA<|zN (zR<|zV (Qc U zdw (fun hg=>by exact .imm h1 U))<|zV (Zn (us:=[]) (vs:=[_,_]) U U)<|XF (cap:=[]) (vs:=[_,_]) U U zh2 Zp (zk6.ofV fun s b f=>zDB (cap:=[.pointer (some ⟨b2,0,none⟩),.pointer (some ⟨a,0,none⟩)]) (i.mono b) j zmG (fun q l=>zzA (b1:=b2) (b2:=a) (t:=t) (p:=p) (b _ _ h2) (f a _ (.head _)) (h.mono b) q (d q l))) U U<|zA (zN (Qq ?_))))
 exact zr U U kL
variable{rows:List (List Int)}{es:List Em}{rd:List Int}{l:List Pt}{sg:List Sg}
theorem zBJ (N:zlA I t rows es rd D l sg)(s f:Int):kg 112 [.agg (Uu t).toArray,.agg #[.int .i64 s,.int .i64 f]] I [] (Jv 19 Y5 (stF l s f)):=by
 intro g H w J;refine qe Tryz.func112 Tryz.ntmps112 J ?_;have F:=zJH I;have a:=N.L.1;have W:=N.bl;refine zR<|QU U U U (fun y=>QU U U U (fun z=>zA (zN (Qk (zR<|zF Xz ?_)))))
 refine zL zdw<|zQ QV ?_
 refine zM<|zN<|Ql ?_;refine zU [(3,_),(8,_),(9,_)] (fun T L0 O E K i=>∃ (k:Nat) (v:Value) (q:Nat) (L:Go.Kn.Loc),O=t.ln-k/\E=(4,v)::(10,.int .i64 k)::T/\I=K/\L++[(z,.cells #[.int .i64 s,.int .i64 f] 104 (0,0)),(y,.cells (Uu t).toArray 98 (0,0))]=i/\k<=t.ln/\OwnS 57 19 v q ((stF (l.take k) s f).flatMap Y5) L/\q<=k) ?_ (h:=⟨0,_,0,[],U,U,U,U,jd _,by rw [AB];exact OwnS.nil,jn _⟩);rintro O E K i ⟨k,v,q,L,rfl,rfl,rfl,rfl,Z,x,hq⟩;refine zR<|zC<|zN<|Qk ?_;refine zI ?_ ?_<;>intro b
 ·have o:k<t.ln:=kd b;obtain ⟨p,G⟩:=a.at o;refine Qm (Qa (Qk (Ql (zR<|zV (zX QV a)<|zV (Qo U YH (fun hg=>by exact zJI a G) U)<|Qv WP U U (fun V=>?_)))));refine zh Km<|zN (zR<|zF Yn ?_)
  refine zL Qr<|zC ?_
  refine zM ?_;refine Qw 3 U U U ?_;refine zK (Qi U ZB) ?_;refine zK (Qc U Qr (fun hg=>by exact QO.h0 U))<|zK (Qi U YK) ?_
  refine zK (Qc U Qr (fun hg=>by exact QO.h0 U))<|zK (Zw (ps:=[(0,_),(1,_)]) [_,_] JQ zjL U U)<|zK (Qo U zfr (fun hg=>by (repeat (first | exact zJF | apply zJE | apply zJG))) U)<|zK (zyA U U zpH)<|QC U U U U U<|zN ?_
  refine zI ?_ ?_<;>intro d
  ·have r:(p.kind==1&&(p.sign==s&&p.field==f))=true:=(by simpa using d);refine Qh (zM<|zV (Qo U YH (fun hg=>by exact Cells.g0) U)<|zpb [(0,_)] [Y5 p] UO (fun M=>?_));refine zpa (_) ([p].flatMap Y5) (L) U U UO x ⟨U,fun _=>U,by repeat (first | exact zJF | apply zJE | apply zJG)⟩ (znR _) ?_;intro v9 Y u _;rw [<-jh] at u;refine zA (Qe (Qg (Qa (Qh<|zB<|zM (Qe ?_)))))
   first
   | exact zm (h:=⟨t.ln-(k+1),kB,k+1,_,_,_,U,U,U,U,kB,by rw [show stF (l.take (k+1)) s f=stF (l.take k) s f++[p] from Wc G r];exact u,kB⟩)
  have r:(p.kind==1&&(p.sign==s&&p.field==f))=false:=(by simpa using d);refine Qm (Qg (Qa (Qh (zB<|zM (Qe ?_)))))
  first
  | exact zm (h:=⟨t.ln-(k+1),kB,k+1,_,_,_,U,U,U,U,kB,by rw [show stF (l.take (k+1)) s f=stF (l.take k) s f from za1 G r];exact x,kB⟩)
 have j:t.ln<=k:=kd b;rw [QZ a.len j] at x;refine Qy (Qf (Qf (Qj (Qa (zR (zM<|zA (zN (Qq ?_))))))));exact Zc U U (fun w J=>by obtain ⟨Q,A,B,C⟩:=OwnS.res x Yj kC (J.subL (by exact Q3));exact ⟨_,Q,[],U,F.trans A,B,C⟩)
theorem zCr (u:zlA I t rows es rd D l sg)(s f:Int):kg 70 [.agg (Uu t).toArray,.agg #[.int .i64 s,.int .i64 f]] I [] (FrQ (or1 (onF D) l s f)):=by
 intro g H w hw;refine qe Tryz.func70 Tryz.ntmps70 hw ?_;have a:=zJH I;have b5:=u.bl;refine zR<|QU U U U (fun Q=>QU U U U (fun a0=>Qv US U U (fun a1=>zA<|zN (zR<|zV (Qo U Kl (fun hg=>by exact Cells.g2) U)<|zV (Qo U zfr (fun hg=>by exact Cells.g1) U)<|zpc [_,_] U zmH .nil (zBJ u s f) ?_))))
 rintro c6 I1 L1 W ⟨rfl,a9,c9,rfl,i⟩;have u:=u.mono W;have a:=a.trans W;have i:Sl I1 19 Y5 a9 (stF l s f).length c9 (stF l s f):=i;have N:(stF l s f).length<=100000:=jO zaj (by rw [u.L.1.len];exact b5);refine Qv zF7 U U (fun V=>?_);refine zS zp7 ?_;refine zN (Qk<|Zk (b:=Q) (by repeat (first | exact Zb.here | apply Zb.there)) (fun I2 C b3=>?_));have u:=u.mono C;have i:=i.mono C;have a:=a.trans C;have h2:=b3;refine Zk (b:=V) (by repeat (first | exact Zb.here | apply Zb.there)) (fun I3 y b4=>?_);have u:=u.mono y;have i:=i.mono y;have a:=a.trans y;have h2:=y _ _ h2;have h6:=b4;refine Qh<|zV (Qc U zdw (fun hg=>by exact .imm h6 U))<|zpc [_] U zoS .nil (zsz i kB) ?_
 rintro c7 I4 L4 F ⟨rfl,O⟩;have u:=u.mono F;have i:=i.mono F;have a:=a.trans F;refine zV (Zn (us:=[]) (vs:=[_,_]) U U)<|zpc [_,_] U znN (by repeat (first | exact .cons .here .nil | exact Zp | exact Q6 | apply ZC | apply Zz)) (zEw O N znU (cap:=[.pointer (some ⟨V,0,none⟩),.pointer (some ⟨Q,0,none⟩)]) (fun x hx=>zEV h6 h2 u.M ⟨i,fun q hq=>u.L.2 q (KD.1 hq).1⟩ N (fun q hq=>u.sub q (KD.1 hq).1) x)) ?_
 rintro c8 I5 L5 a6 ⟨rfl,m,b0⟩;have a:=a.trans a6;refine zA (zN (Qk (Qk<|zx4 b0 Yj (fun I6 a8 b9 c2 a2 j=>?_))));subst a2;have a:=a.trans a8;have j:Sl I6 19 Y5 _ m _ (JF (onF D) l s f):=j;have hm:=j.len;have c3:m<=100000:=(by rw [<-hm];exact jO (jE ..) N);refine Qh (zM<|zQ QV ?_);refine zM<|zN<|Ql ?_;refine zU [(4,_),(7,_),(17,_),(18,_)] (fun T L0 mz E I' B=>∃ (k:Nat) (v:Value) (q:Nat) (L:Go.Kn.Loc),mz=m-k/\E=(19,.int .i64 k)::T/\I6=I'/\L++[(a1,.cells #[.int .i64 0,.int .i64 0,.slice none 0 0,v] 38 (0,0)),(a0,.cells #[.int .i64 s,.int .i64 f] 104 (0,0))]=B/\k<=m/\OwnS 3 1 v q (((zne (JF (onF D) l s f) k).map (·.id)).flatMap QF) L/\q<=k) ?_ (h:=⟨0,_,0,[],U,U,U,U,jd _,by rw [zHm];exact OwnS.nil,jn _⟩);rintro mz E I' B ⟨k,v,q,L,rfl,rfl,rfl,rfl,hk,O,hq⟩;obtain ⟨Y,Z,rfl⟩:=zaV O;refine zR<|zC<|zN<|Qk ?_;refine zI ?_ ?_<;>intro z
 ·have J:k<m:=kd z;obtain ⟨p,hp⟩:=j.at J;obtain ⟨p0,K⟩:=j.at (k:=0) kB;refine Qm (Qa (Qk (Ql (zR<|zV (zX QV j)<|zV (Qo U YH (fun hg=>by exact zJI j hp) U)<|Qv WP U U (fun c1=>?_)))));refine zh Km<|zN (Qk<|ZW mixed kA<|zq (Qi U Yr) ?_)
  refine zq (Qo U QQ (fun hg=>by exact Cells.s0 (vs:=[_,_,_,_,_,_,_,_,_,_,_,_,_,_]) U) U)<|zq (Qd U) ?_
  refine zq (zX QV j)<|zq (Qi U Yr)<|zq (Qo U QQ (fun hg=>by exact Sl.seg (vs:=YA p0.nw) (o:=4) j K U) U)<|zq (Xa U U Um U)<|ZX<|Qa ?_
  refine zI ?_ ?_<;>intro A
  ·have r:Wb p.nw p0.nw=true:=A;rw [<-QJ (d:=WL) K] at r;refine Qh<|zF UA ?_
   refine zV (Qc U QA (fun hg=>by (repeat (first | exact zJC U | apply zJB | apply zJD))))<|zF Zq ?_
   refine zL Qr ?_;refine zpb [(0,_)] [QF p.id] QS (fun b8=>?_);refine zpa (_) ([p.id].flatMap QF) (L) U U QS O ⟨U,fun _=>U,by repeat (first | exact zJF | apply zJE | apply zJG)⟩ (YJ _) ?_;intro v9 L9 G _;obtain ⟨c4,c5,rfl⟩:=zaV G;rw [<-jh] at G;refine zF UA ?_;refine zS Ze ?_;refine Qe (Qg (Qa (Qh (zB<|zM (Qe ?_)))))
   first
   | exact zm (h:=⟨m-(k+1),kB,k+1,_,_,_,U,U,U,U,kB,by rw [zy7 hp r];exact G,kB⟩)
  have r:Wb p.nw p0.nw=false:=A;rw [<-QJ (d:=WL) K] at r;refine Qm (Qg (Qa (Qh (zB<|zM (Qe ?_)))))
  first
  | exact zm (h:=⟨m-(k+1),kB,k+1,_,_,_,U,U,U,U,kB,by rw [zCd hp r];exact O,kB⟩)
 have b6:m<=k:=kd z;have b7:k=m:=kB;refine Qy (Qf (Qf (Qj (Qa (zR<|zF zep ?_)))));refine zS ZO ?_;refine zN (zR<|zV (Qo U Yt (fun hg=>by (repeat (first | exact zJF | apply zJE | apply zJG))) U)<|zM ?_);refine zQ QV<|zC<|zh YO ?_
 refine zA<|zN<|Qq ?_;exact Zg U U U Yt (vs:=[.int .i64 3,.int .i64 0,.slice none 0 0,.slice Y _ Z]) kG U (fun w hw=>by obtain ⟨I9,c0,c9,a3,a4,e9,a5⟩:=OwnS.freeze (R:=[_,_]) O QL kC hw;cases e9;exact ⟨_,I9,[],U,a.trans a3,a4.drop,U,[.int .i64 3,.int .i64 0,.slice none 0 0,.slice Y _ Z],by rw [zCq hm],_,_,_,_,_,_,U,.nil,by show Sl _ 1 QF _ _ _ (zwv _);rw [<-zxu hm b7];exact a5⟩)
theorem zp9:kp 146 145 1 8:=.of kA
theorem zbj:kh 98 0 0:=.of kA
theorem zbx:kh 98 1 1:=.of kA
theorem zqh:ke 119:=.of Tryz.func119 kA kA
theorem zl6:ke 120:=.of Tryz.func120 kA kA
theorem zl9:ke 121:=.of Tryz.func121 kA kA
theorem zlO:ke 122:=.of Tryz.func122 kA kA
theorem zpl:ke 123:=.of Tryz.func123 kA kA
theorem zvb:ke 70:=.of Tryz.func70 kA kA
theorem zuC:ke 71:=.of Tryz.func71 kA kA
theorem zuQ:ke 72:=.of Tryz.func72 kA kA
theorem zwm:ke 73:=.of Tryz.func73 kA kA
theorem zwl:ke 74:=.of Tryz.func74 kA kA
theorem zok:kl 145:=.of kA
theorem zhW:ko 146 145 1:=.of kA
theorem zyJ (F:zlA I t rows es rd D l sg)(s f:Int):kg 71 [.agg (Uu t).toArray,.agg #[.int .i64 s,.int .i64 f]] I [] (FrQ (or2 l s)):=by
 intro g H w x;refine qe Tryz.func71 Tryz.ntmps71 x ?_;have B:=zJH I;have i:=F.L.1;have Q:=F.bl;refine zR<|QU U U U (fun K=>QU U U U (fun M=>Qv US U U (fun N=>zA (zN (Qk (zR<|zF Xz ?_))))))
 refine zL zdw<|zQ QV ?_
 refine zM<|zN<|Ql ?_;refine zU [(3,_),(4,_),(9,_),(10,_)] (fun T L0 G E C o=>∃ (k:Nat),G=t.ln-k/\E=(11,.int .i64 k)::T/\I=C/\L0=o/\k<=t.ln/\(l.take k).any (inP s)=false) ?_ (h:=⟨0,U,U,U,U,jd _,U⟩);rintro G E C o ⟨k,rfl,rfl,rfl,rfl,V,b⟩;refine zR<|zC<|zN<|Qk ?_;refine zI ?_ ?_<;>intro j
 ·have r:k<t.ln:=kd j;obtain ⟨p,u⟩:=i.at r;refine Qm (Qa (Qk (Ql (zR<|zV (zX QV i)<|zV (Qo U YH (fun hg=>by exact zJI i u) U)<|Qv WP U U (fun O=>?_)))));refine zh Km<|zN (zR<|zF Yn ?_)
  refine zL Qr<|zC ?_
  refine zM ?_;refine Qw 3 U U U ?_;refine zK (Qi U ZB) ?_;refine zK (Qc U Qr (fun hg=>by exact QO.h0 U))<|zK (Zh U U JQ (fun hg=>by decide))<|zK (Qc U Qr (fun hg=>by exact QO.h2 U))<|zK (Qx U U U) ?_
  refine QC U U U U U<|zN ?_
  refine zI ?_ ?_<;>intro a
  ·have a:inP s p=true:=a;refine zR<|zF Zq ?_
   refine zL Qr ?_;refine zpb [(0,_)] [QF p.id] QS (fun d=>zV (QK (ps:=[(0,_),(3,_)]) [_,_,_,_] KU U U)<|zh YO ?_);refine zA<|zN<|Qq<|Qn<|Qb<|Qb<|Qn<|Qb ?_
   first
   | exact Zg U U U Yt (vs:=[.int .i64 3,.int .i64 0,.slice none 0 0,.slice (some ⟨d,0,none⟩) 1 1]) kG U (fun w x=>by obtain ⟨J,y,z,A⟩:=x.freezeAll;exact ⟨_,J,[],U,B.trans y,z,U,[.int .i64 3,.int .i64 0,.slice none 0 0,.slice (some ⟨d,0,none⟩) 1 1],by rw [zcx b u a],none,0,0,_,_,_,by rw [zcx b u a],by rw [zcx b u a];exact .nil,by rw [zcx b u a];exact Sl.lit (t:=3) [_] U QL (A d _ (by simp [QF]))⟩)
  have a:inP s p=false:=a;exact Qm (Qg (Qa (Qh (zB<|zM (Qe<|zm (h:=⟨t.ln-(k+1),kB,k+1,U,U,U,U,kB,Z3 u b a⟩))))))
 have q:t.ln<=k:=kd j;rw [QZ i.len q] at b;refine Qy (Qf (Qf (Qj (Qa (zR<|zV (Qo U Yt (fun hg=>by exact Cells.g0) U) ?_)))));refine zh YO ?_;refine zA<|zN<|Qq ?_
 first
 | exact Zg U U U Yt (vs:=[.int .i64 0,.int .i64 0,.slice none 0 0,.slice none 0 0]) kG U (fun w x=>⟨_,I,[],U,zJH _,x.drop,U,[.int .i64 0,.int .i64 0,.slice none 0 0,.slice none 0 0],by rw [zf6 b],none,0,0,none,0,0,by rw [zf6 b];rfl,by rw [zf6 b];exact .nil,by rw [zf6 b];exact .nil⟩)
variable{q:Nat}{f:Int}{h:Hd}{r:List Int}
theorem zHK (h1:I b1=some (.cells #[.int .i64 (q:Nat),.int .i64 f] 104 (0,0)))(h2:I b2=some (.cells (Uu t).toArray 98 (0,0)))(b:Sl I 1 QF h.a h.n h.c r)(hR:Sl I 1 QF t.a3 t.n4 t.d3 rd)(s:q<r.length)(o:q<rd.length):kf 119 [.slice h.a h.n h.c,.pointer (some ⟨b1,0,none⟩),.pointer (some ⟨b2,0,none⟩)] I (.bool (r.getD q 0==rd.getD q 0)):=by
 intro g H w u;refine qe Tryz.func119 Tryz.ntmps119 u ?_;have i:=b.len;have j:=hR.len;refine zR (zA (zN (Qk<|ZW mixed kA<|zq (Qd U)<|zq (Zh U U JQ (fun hg=>by decide))<|zq (Qc U Qr (fun hg=>by exact QO.imm h1 U))<|zq (zX Qt b) ?_)));refine zq (Qc U Qr (fun hg=>by exact zJA (k:=q) b (QE (d:=0) U kB) U))<|zq (Qi U zbx)<|zq (Qi U Ye)<|zq (Qc U QA (fun hg=>by exact QO.imm h2 U))<|zq (Zh U U JQ (fun hg=>by decide))<|zq (Qc U Qr (fun hg=>by exact QO.imm h1 U))<|zq (zX Qt hR) ?_
 exact zq (Qc U Qr (fun hg=>by exact zJA (k:=q) hR (QE (d:=0) U kB) U))<|zq (Qx U U U)<|zq (ZE U)<|ZX<|Qa (Qq<|zr U U kL)
theorem zG4 (h1:I b1=some (.cells #[.int .i64 (q:Nat),.int .i64 f] 104 (0,0)))(b:Sl I 1 QF h.a h.n h.c r)(j:q<r.length):kf 120 [.slice h.a h.n h.c,.pointer (some ⟨b1,0,none⟩)] I (.bool (zg8 q r)):=by
 intro g H w o;refine qe Tryz.func120 Tryz.ntmps120 o ?_;have i:=b.len;refine zR (zA<|zN (zR ?_));refine zM<|zV (Zh U U JQ (fun hg=>by decide))<|zV (Qc U Qr (fun hg=>by exact QO.imm h1 U))<|zV (zX Qt b)<|zV (Qc U Qr (fun hg=>by exact zJA (k:=q) b (QE (d:=0) U kB) U))<|zC ?_
 refine zM ?_;refine Qw 6 U U U ?_;refine zK (Qd U)<|zK (Zh U U JQ (fun hg=>by decide))<|zK (Qc U Qr (fun hg=>by exact QO.imm h1 U))<|zK (zX Qt b)<|zK (Qc U Qr (fun hg=>by exact zJA (k:=q) b (QE (d:=0) U kB) U))<|zK (Qx U U U) ?_
 refine QC U U U U U<|zA (zN (Qq ?_))
 exact zr U U kL
theorem zIx (h1:I b1=some (.cells #[.int .i64 (q:Nat),.int .i64 f] 104 (0,0)))(e:Em):kf 122 [.agg (Yv e).toArray,.pointer (some ⟨b1,0,none⟩)] I (.bool (zmQ (q:Int) e)):=by
 intro g H w b;refine qe Tryz.func122 Tryz.ntmps122 b ?_;refine zR<|QU U U U (fun a=>zA<|zN (zR<|zF YQ ?_))
 refine zL Qr<|zV (Zh U U JQ (fun hg=>by decide))<|zV (Qc U Qr (fun hg=>by exact QO.imm h1 U))<|zC ?_
 refine zM ?_;refine Qw 5 U U U ?_;refine zK (Qi U Xo) ?_;refine zK (Qc U Qr (fun hg=>by exact QO.h0 U))<|zK (Qx U U U) ?_
 refine QC U U U U U<|zA (zN (Qq ?_))
 exact zr U U kL
theorem zFH (j:zlA I t rows es rd D l sg)(q:Nat)(f:Int)(Z:q<rd.length)(C:∀ r∈rows,q<r.length):kg 72 [.agg (Uu t).toArray,.agg #[.int .i64 (q:Nat),.int .i64 f]] I [] (FrQ (or3 rows rd (q:Int) f)):=by
 intro g H w F;refine qe Tryz.func72 Tryz.ntmps72 F ?_;have a:=zJH I;refine zR<|QU U U U (fun A=>QU U U U (fun y=>Qv US U U (fun a0=>zA (zN (Qk (zR<|zpb [(0,_),(1,_),(2,_)] [QF (2:Int),QF (3:Int),QF (9:Int)] QS (fun J=>zV (Zh U U JQ (fun hg=>by decide))<|zL Qr<|XF (cap:=[]) (vs:=[_,_]) U U zge Zp (zk6.ofV fun G a1 O=>Ue (Sl.lit (t:=3) [2,3,9] U QL (O J _ (.head _))) kC _) U U<|zO (zN ?_))))))))
 refine zI ?_ ?_<;>intro s
 ·have o:isT f=false:=(by rw [<-zqf];exact zyI s);refine zR<|zV (Qo U Yt (fun hg=>by exact Cells.g1) U) ?_
  refine zh YO ?_;refine zA<|zN<|Qq<|Qb ?_
  first
  | exact Zg U U U Yt (vs:=[.int .i64 0,.int .i64 0,.slice none 0 0,.slice none 0 0]) kG U (fun w F=>⟨_,I,[],U,a,F.drop,U,[.int .i64 0,.int .i64 0,.slice none 0 0,.slice none 0 0],by rw [zko o],none,0,0,none,0,0,by rw [zko o];rfl,by rw [zko o];exact .nil,by rw [zko o];exact .nil⟩)
 have o:isT f=true:=(by rw [<-zqf];exact zgD s);refine Qm (Qa (Qk<|Zk (b:=A) (by repeat (first | exact Zb.here | apply Zb.there)) (fun I1 B W=>?_)));have j:=j.mono B;have a:=a.trans B;have h2:=W;refine Zk (b:=y) (by repeat (first | exact Zb.here | apply Zb.there)) (fun I2 z Y=>?_);have j:=j.mono z;have a:=a.trans z;have h2:=z _ _ h2;have h3:=Y;refine Qh<|zF zbj ?_
 refine zV (Qc U UM (fun hg=>by exact .imm h2 U))<|zV (Zn (us:=[]) (vs:=[_,_]) U U)<|qcV (vs:=[_,_]) U zft (zES (cap:=[.pointer (some ⟨y,0,none⟩),.pointer (some ⟨A,0,none⟩)]) j.V j.b2 zqh (fun h r hr Q=>zHK h3 h2 Q j.R (C r hr) Z)) ?_
 refine zA<|zN ?_;refine zY [(4,_)] (fun T L0 E G x=>∃ (i:Int),E=(6,.int .i64 i)::T/\I2=G/\L0=x/\i=zot rows q (rd.getD q 0)) ?_ ?_
 ·refine zR (zM<|zC (zN ?_));refine zI ?_ ?_<;>intro u
  ·refine Qh<|zF zbj ?_
   exact zV (Qc U UM (fun hg=>by exact .imm h2 U))<|zV (Zn (us:=[]) (vs:=[_]) U U)<|qcV (vs:=[_,_]) U zft (zES (cap:=[.pointer (some ⟨y,0,none⟩)]) j.V j.b2 zl6 (fun h r hr Q=>zG4 h3 Q (C r hr)))<|zA (Qe<|zm (h:=⟨_,U,U,U,zHg u⟩))
  exact Qm<|zm (h:=⟨_,U,U,U,zGU u⟩)
 rintro E G x ⟨i,rfl,rfl,rfl,hi⟩;refine zR<|zM ?_;refine zpb [(0,_)] [QF i] QS (fun d=>zV (QK (ps:=[(0,_),(2,_)]) [_,_,_,_] KU U U)<|zh YO ?_);refine zA<|zN<|Qq ?_
 first
 | exact Zg U U U Yt (vs:=[.int .i64 1,.int .i64 0,.slice (some ⟨d,0,none⟩) 1 1,.slice none 0 0]) kG U (fun w F=>by obtain ⟨I9,K,M,N⟩:=F.freezeAll;exact ⟨_,I9,[],U,a.trans K,M,U,[.int .i64 1,.int .i64 0,.slice (some ⟨d,0,none⟩) 1 1,.slice none 0 0],by rw [zeV o],_,_,_,none,0,0,by rw [zeV o],by rw [zeV o];exact Sl.lit (t:=3) [_] U QL (by rw [<-hi];exact N d _ (by simp [QF])),by rw [zeV o];exact .nil⟩)
theorem zF9 (i:zlA I t rows es rd D l sg)(q:Nat)(f:Int):kg 73 [.agg (Uu t).toArray,.agg #[.int .i64 (q:Nat),.int .i64 f]] I [] (FrQ (or4 es (q:Int))):=by
 intro g H w y;refine qe Tryz.func73 Tryz.ntmps73 y ?_;have a:=zJH I;refine zR<|QU U U U (fun s=>QU U U U (fun j=>Qv US U U (fun A=>zA (zN (Qk<|Zk (b:=s) (by repeat (first | exact Zb.here | apply Zb.there)) (fun B o u=>?_))))))
 have i:=i.mono o;have a:=a.trans o;have h2:=u;refine Zk (b:=j) (by repeat (first | exact Zb.here | apply Zb.there)) (fun z d x=>?_);have i:=i.mono d;have a:=a.trans d;have h2:=d _ _ h2;have h3:=x;refine Qh<|zF zbx<|zF UB ?_
 refine zV (Qc U zcn (fun hg=>by exact .imm h2 U))<|zV (Zn (us:=[]) (vs:=[_]) U U)<|qcV (vs:=[_,_]) U zl9 (zH0 (cap:=[.pointer (some ⟨j,0,none⟩)]) i.E i.b3 zlO (fun e C=>zIx h3 e)) ?_
 refine zA<|zN (zR<|zV (QK (ps:=[(0,_),(1,_)]) [_,_,_,_] KU U U)<|zM<|zh YO ?_)
 exact zA (zN (Qq<|Zg U U U Yt (vs:=[.int .i64 2,.int .i64 2,.slice none 0 0,.slice none 0 0]) kG U (fun w y=>⟨_,z,[],U,a,y.drop,U,[.int .i64 2,.int .i64 2,.slice none 0 0,.slice none 0 0],U,none,0,0,none,0,0,U,.nil,.nil⟩)))
theorem zBd (j:zlA I t rows es rd D l sg)(q:Nat)(f:Int)(F:q<rd.length)(u:∀ r∈rows,q<r.length):kg 74 [.agg (Uu t).toArray,.agg #[.int .i64 (q:Nat),.int .i64 f]] I [] (FrQ (or5 rows rd (q:Int))):=by
 intro g H w x;refine qe Tryz.func74 Tryz.ntmps74 x ?_;have b:=zJH I;have E:=j.R.len;refine zR<|QU U U U (fun o=>QU U U U (fun s=>Qv US U U (fun B=>zA (zN (Qk ?_)))))
 have a:=zJH I;refine VR<|ZM I [(s,.cells #[.int .i64 (q:Nat),.int .i64 f] 104 (0,0)),(o,.cells (Uu t).toArray 98 (0,0))] mixed<|zT 0 U (Qi U zbj) a<|zT 1 U (Qc U UM (fun hg=>by exact QO.h1 U)) a<|zT 2 U (Zh U U JQ (fun hg=>by decide)) a<|zT 3 U (Qc U Qr (fun hg=>by exact QO.h0 U)) a<|zT 4 U (Qi U zbx) a<|zT 5 U (Qi U Ye) a<|zT 6 U (Qc U QA (fun hg=>by exact QO.h1 U)) a<|zT 7 U (Zh U U JQ (fun hg=>by decide)) a<|zT 8 U (Qc U Qr (fun hg=>by exact QO.h0 U)) a<|zT 9 U (Qs U U Qt j.R (fun hg=>kB)) a ?_
 refine zT 10 U (Qc U Qr (fun hg=>by exact zJA (k:=q) j.R (QE (d:=0) U kB) U)) a<|qd 11 U<|zpc [_,_,_] U zpl .nil (zHW j.V j.b2 q u _) ?_
 rintro G A J i ⟨rfl,y,z,rfl,C⟩;have b:=b.trans i;have a:=a.trans i;refine Qe<|zD a<|zT 12 U (QK (ps:=[(0,_),(2,_)]) [_,_,_,_] KU U U) a<|qd 13 U ?_
 refine zh YO ?_;refine Qe ?_;refine zD a ?_;refine zT 14 U (ZE U) a<|QH kA<|QP<|Qa (Qq ?_)
 exact Zg U U U Yt (vs:=[.int .i64 1,.int .i64 0,.slice y _ z,.slice none 0 0]) kG U (fun w x=>⟨_,A,[],U,b,x.drop,U,[.int .i64 1,.int .i64 0,.slice y _ z,.slice none 0 0],U,_,_,_,none,0,0,U,C,.nil⟩)
variable{k:Nat}
theorem zEn (d:zlA I t rows es rd D l sg)(s f:Int)(b:(or2 l s).2=false->∃ q:Nat,s=q/\q<rd.length/\∀ r∈rows,q<r.length)(g:k<5)(a:∀ j,j<k->(orK (onF D) rows es rd l s f j).2=false):kg (70+k) [.agg (Uu t).toArray,.agg #[.int .i64 s,.int .i64 f]] I [] (FrQ (orK (onF D) rows es rd l s f k)):=by
 match k,g with
 | 0,_=>exact zCr d s f
 | 1,_=>exact zyJ d s f
 | 2,_=>obtain ⟨q,rfl,h1,h2⟩:=b (a 1 kC);exact zFH d q f h1 h2
 | 3,_=>obtain ⟨q,rfl,h1,h2⟩:=b (a 1 kC);exact zF9 d q f
 | 4,_=>obtain ⟨q,rfl,h1,h2⟩:=b (a 1 kC);exact zBd d q f h1 h2
theorem zD3 (a:k<5):ke (70+k):=by
 match k,a with
 | 0,_=>exact zvb
 | 1,_=>exact zuC
 | 2,_=>exact zuQ
 | 3,_=>exact zwm
 | 4,_=>exact zwl
theorem zCm (F:zlA I t rows es rd D l sg)(s f:Int)(M:(or2 l s).2=false->∃ q:Nat,s=q/\q<rd.length/\∀ r∈rows,q<r.length):kg 39 [.agg (Uu t).toArray,.agg #[.int .i64 s,.int .i64 f]] I [] (OgQ (zcT (onF D) rows es rd l s f)):=by
 intro g H w N;refine qe Tryz.func39 Tryz.ntmps39 N ?_;have i:=zJH I;refine zR<|QU U U U (fun a0=>QU U U U (fun a3=>Qv US U U (fun a4=>zN (Qk (zR<|zV (Qo U Kl (fun hg=>by exact Cells.g2) U)<|zV (Zn (us:=[_]) (vs:=[]) U U)<|zV (Qo U Kl (fun hg=>by exact Cells.g2) U)<|zV (Zn (us:=[_]) (vs:=[]) U U)<|zV (Qo U Kl (fun hg=>by exact Cells.g2) U)<|zV (Zn (us:=[_]) (vs:=[]) U U)<|zV (Qo U Kl (fun hg=>by exact Cells.g2) U) ?_)))))
 refine zV (Zn (us:=[_]) (vs:=[]) U U)<|zV (Qo U Kl (fun hg=>by exact Cells.g2) U)<|zV (Zn (us:=[_]) (vs:=[]) U U)<|zpb [(0,_),(1,_),(2,_),(3,_),(4,_)] [zk5 70 t 0,zk5 70 t 1,zk5 70 t 2,zk5 70 t 3,zk5 70 t 4] zp9 (fun A=>zQ zhW<|zM (Qe<|Zk (b:=A) (by repeat (first | exact Zb.here | apply Zb.there)) (fun Y B J=>?_)))
 have F:=F.mono B;have i:=i.trans B;have h9:=J;have u:=Sl.lit (enc:=zk5 70 t) (size:=1) (t:=145) [0,1,2,3,4] U (fun _=>U) h9;refine Qa (Ql<|zU [(3,_),(4,_),(19,_),(20,_)] (fun T L0 V E W y=>∃ (k:Nat),V=5-k/\E=(21,.int .i64 k)::T/\HLe Y W/\L0=y/\k<=5/\∀ j,j<k->(orK (onF D) rows es rd l s f j).2=false) ?_ (h:=⟨0,U,U,zJH _,U,jd _,fun j h=>absurd h kB⟩));rintro V E J2 y ⟨k,rfl,rfl,G,rfl,hk,d⟩;have F:=F.mono G;have u:=u.mono G;have i:=i.trans G;have z:=G;refine zR<|zC<|zN<|Qk ?_;refine zI ?_ ?_<;>intro x
 ·have a:k<5:=kd x;have K:([0,1,2,3,4]:List Nat)[k]? =some k:=zJy a;refine Qm (Qa (Qk (Ql (zR<|zV (zX zhW u)<|zV (Qc U zok (fun hg=>by exact zJA u K U))<|zA<|zN (zR ?_)))));refine zM<|zV (Qo U zfr (fun hg=>by exact Cells.g1) U)<|zmE (pre:=[_]) (cap:=[]) (vs:=[_]) U U (zD3 a) .nil (zEn F s f M a d) U U ?_
  rintro a6 Z L3 C ⟨rfl,_,rfl,a1,n1,c1,a2,n2,c2,rfl,O,Q⟩;have i:=i.trans C;have z:=z.trans C;refine zM ?_;refine zE ?_;refine zE ?_;refine Qv US U U (fun a5=>?_);refine zh YO ?_;refine zA<|zN (zR ?_)
  refine zM<|zN ?_;refine zI ?_ ?_<;>intro o
  ·refine zR<|zV (Qo U Yt (fun hg=>by exact Cells.g0) U) ?_
   refine zh YO<|zN (Qq (Qn (Qb (Qb (Qn (Qb ?_))))))
   exact ZD U U Yt (vs:=[.int .i64 _,.int .i64 _,.slice a1 n1 c1,.slice a2 n2 c2]) kG U (fun w N=>⟨_,Z,[],U,i,N.drop,U,_,_,_,_,_,_,by rw [<-zmp a d o],by rw [<-zmp a d o];exact O,by rw [<-zmp a d o];exact Q⟩)
  refine Qm (Qg (Qa (Qh (zB<|zM (Qe ?_)))));exact zm (h:=⟨5-(k+1),kB,k+1,U,U,z,U,kB,fun j K=>by rcases Nat.lt_succ_iff_lt_or_eq.1 K with h | h;exact d j h;rw [h];exact o⟩)
 exact absurd (d 4 (kd x)) (by simp [orK,or5])
def Xg (e1:Int)(D:List Pt)(bs:List Sg)(F:List Int):Int:=if e1≠0 then e1 else za3 D bs F
variable{e1:Int}{bs:List Sg}{F:List Int}
theorem ziO (h:e1≠0):Xg e1 D bs F=e1:=jb h
theorem zc9 (h:e1=0):Xg e1 D bs F=za3 D bs F:=ja kB
theorem WX (h:za3 D bs F=0):Sto D/\D.length<=512/\(∀ p∈D,p.needs.length<=32)/\Kg bs=0/\F.length<=512/\Ver D F/\zb0 bs (Zi D F)=true/\zfx D bs F=Jl (onF D) bs (Zi D F)/\(Jl (onF D) bs (Zi D F)).length<=4096:=by
 have j:=h;unfold za3 at h;split at h
 ·exact absurd h kE
 ·split at h
  ·cases h
  ·rename_i a o;have a:KM D bs F=0:=(by simpa using a);unfold KM at a;split at a
   ·exact absurd a kE
   ·rename_i b;have b:JL D=0:=(by simpa using b);split at a
    ·exact absurd a kE
    ·rename_i hg;split at a
     ·cases a
     ·rename_i s;split at a
      ·rename_i d;rw [ji] at d;have g:=U1 b;refine ⟨Wo b,g.1,fun p i=>?_,by simpa using hg,kB,(XZ (V3 b)).1 d.1,d.2,?_,kB⟩
       ·have h0:pchk p=0:=KV.1 g.2.1 _ (jt.2 ⟨p,i,U⟩);unfold pchk at h0;split at h0
        ·cases h0
        ·omega
       ·unfold zfx zjE;rw [ja (by rw [j];simp)]
      ·cases a
def OpQ (e:Int)(rows:List (List Int))(es:List Em)(rd:List Int)(D l:List Pt)(s:List Sg)(v:Value)(I:Qu)(L:Go.Kn.Loc):Prop:=
 L=[]/\∃ F,v= .tuple #[.agg F.toArray,.int .i64 e]/\F.length=8/\YY F=true/\(e=0->∃ t,F=Uu t/\zlA I t rows es rd D l s)
variable{α β:Type}{m:List (α×β)}{a:α}{b:β}
theorem zjY [DecidableEq α]:ZR (Vd m a b) a=some b:=by rw [Vv,jb rfl]
theorem zr5 [DecidableEq α]{d:α}(h:a≠d):ZR (Vd m a b) d=ZR m d:=by rw [Vv,ja h]
theorem zbu {d:List Wr}{rows:List (List Int)}{rd:List Int}:∀ {k:Nat} {l:List Sg},Ww d rows rd k=some l->l.length<=k
 | 0,l,h=>by cases h;exact jn _
 | k+1,l,h=>by
  unfold Ww at h
  cases h1:Ww d rows rd k with
  | none=>rw [h1] at h;cases h
  | some g=>
   rw [h1] at h;have h2:=zbu h1;dsimp only at h;split at h
   ·cases h
   ·cases h;omega
   ·cases h;rw [jj,jv];omega
variable{ws:List Wr}{no:Int}{cl:List Int}
theorem zdR :(Yl ws rows no cl es rd).length<=rd.length:=by
 by_cases h:JD ws rows no cl es rd=0
 ·unfold Yl;rw [ja kB]
  cases h1:Ww ws rows rd rd.length with
  | none=>exact jd _
  | some l=>exact zbu h1
 ·rw [zb3 h];exact jd _
theorem znk {a:Int}:F.any (fun y=>a==y)=F.any (· ==a):=by congr 1;funext y;rw [jI,jW,jW];exact eq_comm
theorem zxZ (hL:Lst D)(g:D[k]? =some p){n:Int}(d:n∈p.needs):p.id≠n:=by have h1:=hL.on_lt (hL.on_need (je g) d);omega
theorem zbC:kh 98 4 7:=.of kA
theorem zuo:ke 44:=.of Tryz.func44 kA kA
theorem zvt:ke 45:=.of Tryz.func45 kA kA
theorem zuy:ke 68:=.of Tryz.func68 kA kA
theorem zuc:kq 98 #[(0,1),(1,4),(5,1),(6,1),(7,1)] (.agg #[(.slice none 0 0),(.int .i64 0),(.slice none 0 0),(.slice none 0 0),(.slice none 0 0),(.map none),(.slice none 0 0),(.slice none 0 0)]):=⟨.of kA,kA,fun w=>kA⟩
theorem zbN:ki 98 8:=.of kA
theorem zsR:kj 98 (.agg #[(.slice none 0 0),(.int .i64 0),(.slice none 0 0),(.slice none 0 0),(.slice none 0 0),(.map none),(.slice none 0 0),(.slice none 0 0)]):=.of kA
theorem zzS {u r:Nat}{o s0:List (Int×Bool)}{A B:Int->Bool}(J:I u=some (Yg (Value.int .i64) Value.bool o))(V:zbi o A)(a2:zbi s0 B):kg 68 [.map (some r),.map (some u)] I [(r,Yg (Value.int .i64) Value.bool s0)] (fun v Y L=>v= .tuple #[]/\Y=I/\∃ s,L=[(r,Yg (Value.int .i64) Value.bool s)]/\zbi s (fun x=>A x||B x)):=by
 intro g H w hw;refine qe Tryz.func68 Tryz.ntmps68 hw ?_;refine zR (zM<|KT (ek:=Value.int .i64) (ev:=Value.bool) (m:=o) U zfP U U (.inl J) (fun K=>zN (Ql<|zU [(0,_),(7,_)] (fun T L0 mz E Y G=>∃ (d:List Nat) (s:List (Int×Bool)),mz=o.length-d.length/\E=T/\I=Y/\[(K,VS u o.length d),(r,Yg (Value.int .i64) Value.bool s)]=G/\zbi s (fun x=>zsA o d x||B x)/\d.Nodup/\∀ i∈d,i<o.length) ?_ (h:=⟨[],_,U,U,U,U,a2.congr (fun x=>by rw [zdS,Ai]),.nil,fun i h=>by cases h⟩))));rintro mz E Y G ⟨d,s,rfl,rfl,rfl,rfl,hs,z,O⟩;have a3:=KH z O;refine zR<|KP (ek:=Value.int .i64) (ev:=Value.bool) (m:=o) (fun s'=>[(K,VS u o.length s'),(r,Yg (Value.int .i64) Value.bool s)]) U (fun s'=>.here) U U U U U (.inl J) kJ ?_
 intro t tv s' a0 W;refine zN<|Qk ?_;refine zI ?_ ?_<;>intro N
 ·obtain ⟨i,q,Z,a1,rfl⟩:=W N;refine Qm (Qa (Ql (zR<|zV (KX (ek:=Value.int .i64) (ev:=Value.bool) (m:=o) (p:=q) (seen:=d) (i:=i) U (.inl J) (.inr kJ) Z)<|zE ?_)));refine zE ?_;refine zA<|zA (zN (Qh ?_))
  refine zM ?_;refine zM ?_;refine zM<|Zd (m:=s) (ek:=Value.int .i64) (ev:=Value.bool) (a:=q.1) q.2 zfP ZZ U U U U (by repeat (first | exact Upd.here | apply Upd.there | apply QN))<|Qe (Qg ?_)
  have C:(d++[i]).Nodup:=Ae.2 ⟨z,by simp,fun a ha b hb e=>a1 (by simp at hb;subst hb;subst e;exact ha)⟩;have y:∀ j∈d++[i],j<o.length:=fun j hj=>(jC.1 hj).elim (O j) (fun h=>by simp at h;subst h;exact (jc.1 Z).1);have Q:=KH C y;rw [jj,jv] at Q;exact zm (h:=⟨o.length-(d++[i]).length,by rw [jj,jv];omega,d++[i],Vd s q.1 q.2,U,U,U,U,by rw [V.all q (je Z)];exact (hs.put q.1).congr (fun x=>by rw [zcK Z,AU]),C,y⟩)
 obtain ⟨rfl,M⟩:=a0 N;exact Qy (Qf (Qf (Qj<|JO (VQ U (fun w hw=>⟨_,I,_,U,zJH _,hw.subL (.drop .refl),U,U,s,U,hs.congr (fun x=>by rw [zeJ V M x])⟩)))))
variable{bv W Y Z pv dv:Option Addr}{n2 c2 K a0 N a4 O a5 pn pc n3 c3:Nat}{J:List Int}
theorem zvD (f1:SlW I av n c ws)(hn:n<=100000)(M:SlN I bv n2 c2 rows)(d8:n2<=100000)(f2:Sl I 1 QF W K a0 J)(Q:Sl I 3 Yv Y N a4 es)(A:Sl I 1 QF Z O a5 rd)(f6:K<=100000)(d6:N<=100000)(d7:O<=100000)(no:Int)(hP:SlP I pv pn pc D)(f9:pn<=100000)(o:Sl I 1 QF dv n3 c3 F)(d9:n3<=100000)(f0:JZ I):kg 36 [.slice av n c,.slice bv n2 c2,.agg (ZI no W K a0 Y N a4 Z O a5).toArray,.slice pv pn pc,.slice dv n3 c3] I [] (OpQ (Xg (JD ws rows no J es rd) D (Yl ws rows no J es rd) F) rows es rd D (Zi D F) (Jl (onF D) (Yl ws rows no J es rd) (Zi D F))):=by
 intro g H w hw;refine qe Tryz.func36 Tryz.ntmps36 hw ?_;have u:=zJH I;have i5:=A.len;refine zR<|QU U U U (fun d4=>Qv zsR U U (fun b5=>zA<|zN (zR ?_)))
 refine zM ?_;refine zM<|zV (Qo U ZG (fun hg=>by exact Cells.g1) U)<|zpc [_,_,_] U zuo .nil (Go.Proofs.YtodakphagkommaaGreatDoor.w_Signs f1 hn M d8 f2 Q A f6 d6 d7 no f0 (fun e=>e ▸ zvH)) ?_
 rintro j9 I1 L1 a3 ⟨rfl,e3,e4,rfl,c6⟩;have M:=M.mono a3;have Q:=Q.mono a3;have A:=A.mono a3;have hP:=hP.mono a3;have o:=o.mono a3;have u:=u.trans a3;have c6:Sl I1 14 YA e3 (Yl ws rows no J es rd).length e4 (Yl ws rows no J es rd):=c6;refine zM ?_;refine zE ?_;refine zE ?_;refine zA<|zA (zN (Qk (zR ?_)))
 refine zM<|zC (zN ?_)
 refine zI ?_ ?_<;>intro b6
 ·have a2:(JD ws rows no J es rd)≠0:=(by simpa using b6);refine zR<|zV (Qo U Kl (fun hg=>by exact Cells.g0) U)<|zM<|zh zbN ?_
  refine zA<|zN<|Qq<|Qb ?_
  first
  | exact Zg U U U Kl (vs:=[.slice none 0 0,.int .i64 0,.slice none 0 0,.slice none 0 0,.slice none 0 0,.map none,.slice none 0 0,.slice none 0 0]) kG U (fun w hw=>⟨_,I1,[],U,u,hw.drop,U,[.slice none 0 0,.int .i64 0,.slice none 0 0,.slice none 0 0,.slice none 0 0,.map none,.slice none 0 0,.slice none 0 0],by rw [ziO a2]<;>rfl,U,U,fun h=>absurd (ziO a2 ▸ h) a2⟩)
 have a2:(JD ws rows no J es rd)=0:=(by simpa using b6);refine Qm (Qa (zR (zM<|zV (Qo U ZG (fun hg=>by exact Cells.g1) U)<|Yb U U (fun d=>zV (QK (ps:=[(0,_),(1,_),(2,_)]) [_,_,_,_,_,_,_,_] zuc U U) ?_))));refine zh zbN<|zN (Qk (zR (zM<|zM ?_)))
 refine zM<|zpc [_,_,_] U zvt .nil (w_Signs hP f9 c6 (by have:=zdR (ws:=ws) (rows:=rows) (no:=no) (cl:=J) (es:=es) (rd:=rd);omega) o d9) ?_
 rintro k0 I2 L2 a6 ⟨rfl,B,C,rfl,a8⟩;have M:=M.mono a6;have Q:=Q.mono a6;have A:=A.mono a6;have hP:=hP.mono a6;have o:=o.mono a6;have u:=u.trans a6;have a8:Sl I2 14 YA B (zfx D (Yl ws rows no J es rd) F).length C (zfx D (Yl ws rows no J es rd) F):=a8;refine zM ?_;refine zE ?_;refine zE<|zF zbC ?_
 refine zS zoH<|zA<|zN (zR ?_)
 refine zM<|zC (zN ?_)
 refine zI ?_ ?_<;>intro b7
 ·have b0:za3 D (Yl ws rows no J es rd) F≠0:=(by simpa using b7);have f5:(Xg (JD ws rows no J es rd) D (Yl ws rows no J es rd) F)≠0:=(by rw [zc9 a2];exact b0);refine zR<|zV (Qo U Kl (fun hg=>by exact Cells.g1) U)<|zM<|zh zbN ?_
  refine zA<|zN<|Qq<|Qb ?_
  first
  | exact Zg U U U Kl (vs:=[.slice bv n2 c2,.int .i64 no,.slice W K a0,.slice Y N a4,.slice Z O a5,.map (some d),.slice none 0 0,.slice B (zfx D (Yl ws rows no J es rd) F).length C]) kG U (fun w hw=>⟨_,I2,[],U,u,hw.drop,U,[.slice bv n2 c2,.int .i64 no,.slice W K a0,.slice Y N a4,.slice Z O a5,.map (some d),.slice none 0 0,.slice B (zfx D (Yl ws rows no J es rd) F).length C],by rw [zc9 a2]<;>rfl,U,U,fun h=>absurd h f5⟩)
 have b0:za3 D (Yl ws rows no J es rd) F=0:=(by simpa using b7);obtain ⟨e2,j3,f7,j2,j5,i8,i6,e0,j4⟩:=WX b0;have hL:=e2.lst;refine Qm (Qa (Qk (zR (zM<|zQ QV ?_))));refine zM<|zN<|Ql ?_;refine zU [(4,_),(10,_),(44,_),(45,_)] (fun T L0 mz E I' V=>∃ (k:Nat) (m:List (Int×Nat)) (v:Value) (q:Nat) (L:Go.Kn.Loc),mz=pn-k/\E=(46,.int .i64 k)::T/\HLe I2 I'/\L++[(d,Yg (Value.int .i64) zfA m),(b5,.cells #[.slice bv n2 c2,.int .i64 no,.slice W K a0,.slice Y N a4,.slice Z O a5,.map (some d),v,.slice B (zfx D (Yl ws rows no J es rd) F).length C] 98 (0,0)),(d4,.cells (ZI no W K a0 Y N a4 Z O a5).toArray 26 (0,0))]=V/\k<=pn/\OnL I' m (D.take k)/\OwnS 57 19 v q (((D.take k).filter (fun p=>F.any (· ==p.id))).flatMap Y5) L/\q<=k) ?_ (h:=⟨0,[],_,0,[],U,U,zJH _,U,jd _,OnL.nil,OwnS.nil,jn _⟩);rintro mz E J3 V ⟨k,m,v,q,L,rfl,rfl,hJ,rfl,hk,hm,hO,hq⟩;have M:=M.mono hJ;have Q:=Q.mono hJ;have A:=A.mono hJ;have hP:=hP.mono hJ;have o:=o.mono hJ;have a8:=a8.mono hJ;have u:=u.trans hJ;have a9:=hJ;obtain ⟨b3,b4,rfl⟩:=zaV hO;refine zR<|zC<|zN<|Qk ?_;refine zI ?_ ?_<;>intro b8
 ·have d2:k<pn:=kd b8;obtain ⟨p,hp,hN⟩:=hP.at d2;have f8:=je hp;have hN:Sl J3 1 QF p.a p.n p.c p.needs:=hN;have i7:=f7 p f8;have j1:=hN.len;refine Qm (Qa (Qk (Ql (zR<|zV (Qs U U QV hP.1 (fun hg=>kB))<|zV (Qo U YH (fun hg=>by exact zJI hP.1 hp) U)<|Qv WP U U (fun d3=>?_)))));refine zh Km<|zN (zR<|zF Wy ?_)
  refine zV (Qc U zdl (fun hg=>by (repeat (first | exact zJC U | apply zJB | apply zJD))))<|zF Zq ?_
  refine zL Qr<|Yb U U (fun i=>Zd (m:=m) (ek:=Value.int .i64) (ev:=zfA) (a:=p.id) i zc8 ZZ U U U U (by repeat (first | exact Upd.here | apply Upd.there | apply QN))<|zN (Qk (zR<|zF YD ?_)))
  refine zL QA<|zQ Qt ?_
  refine zM<|zN<|Ql ?_;refine zU [(4,_),(10,_),(14,_),(44,_),(45,_),(46,_),(56,_),(57,_)] (fun T L0 mz E I' V=>∃ (j:Nat) (s:List (Int×Bool)),mz=p.n-j/\E=(58,.int .i64 j)::T/\J3=I'/\(i,Yg (Value.int .i64) Value.bool s)::(d3,.cells (Y5 p).toArray 57 (0,0))::(L++[(d,Yg (Value.int .i64) zfA (Vd m p.id i)),(b5,.cells #[.slice bv n2 c2,.int .i64 no,.slice W K a0,.slice Y N a4,.slice Z O a5,.map (some d),.slice b3 q b4,.slice B (zfx D (Yl ws rows no J es rd) F).length C] 98 (0,0)),(d4,.cells (ZI no W K a0 Y N a4 Z O a5).toArray 26 (0,0))])=V/\j<=p.n/\zbi s (fun x=>(p.needs.take j).any fun n=>n==x||onF (D.take k) n x)) ?_ (h:=⟨0,[],U,U,U,U,jd _,zbi.nil⟩);rintro mz E I' V ⟨j,s,rfl,rfl,rfl,rfl,hj,hs⟩;refine zR<|zC<|zN<|Qk ?_;refine zI ?_ ?_<;>intro b9
  ·have d1:j<p.n:=kd b9;obtain ⟨y,hy⟩:=hN.at d1;obtain ⟨j6,d5,sn,i2,i3⟩:=hm.get (hL.before hp (je hy));have i0:p.id≠y:=zxZ hL hp (je hy);refine Qm (Qa (Qk (Ql (zR<|zV (zX Qt hN)<|zV (Qc U Qr (fun hg=>by exact zJA hN hy U))<|zA<|zN (zR<|zF Wy ?_)))));refine zV (Qc U zdl (fun hg=>by (repeat (first | exact zJC U | apply zJB | apply zJD))))<|zF Zq ?_
   refine zL Qr<|zV (VF (m:=(Vd m p.id i)) (ek:=Value.int .i64) (ev:=zfA) (a:=p.id) zjY zc8 ZZ U U (fun _=>.inr kJ))<|zM<|Zd (m:=s) (ek:=Value.int .i64) (ev:=Value.bool) (a:=y) true zfP ZZ U U U U (by repeat (first | exact Upd.here | apply Upd.there | apply QN))<|zN (Qh<|zF Wy ?_)
   refine zV (Qc U zdl (fun hg=>by (repeat (first | exact zJC U | apply zJB | apply zJD))))<|zF Zq ?_
   refine zL Qr<|zV (VF (m:=(Vd m p.id i)) (ek:=Value.int .i64) (ev:=zfA) (a:=p.id) zjY zc8 ZZ U U (fun _=>.inr kJ))<|zF Wy ?_
   refine zV (Qc U zdl (fun hg=>by (repeat (first | exact zJC U | apply zJB | apply zJD))))<|zM<|zV (VF (m:=(Vd m p.id i)) (ek:=Value.int .i64) (ev:=zfA) (a:=y) ((zr5 i0).trans d5) zc8 ZZ U U (fun _=>.inr kJ))<|zpc [_,_] U zuy (.cons .here .nil) (zzS i2 i3 (hs.put y)) ?_
   rintro k6 I5 L5 j0 ⟨rfl,rfl,s2,rfl,i1⟩;refine Qe (Qg (Qa (Qh (zB<|zM (Qe ?_)))));exact zm (h:=⟨p.n-(j+1),kB,j+1,_,U,U,U,U,kB,i1.congr (fun x=>by rw [zbI hy];rw [jI];simp;grind)⟩)
  have c7:p.n<=j:=kd b9;refine Qy (Qf (Qf (Qj (Qa (Qk<|Zk .here (fun I6 c4 f3=>?_))))));have o:=o.mono c4;have hm:=hm.mono c4;have a9:=a9.trans c4;have f4:=f3;have c1:OnL I6 (Vd m p.id i) (D.take (k+1)):=OnL.step hL hp hm f4 (by rw [QZ hN.len c7] at hs;exact hs);refine Qh (zM<|zF Zq ?_);refine zL Qr<|qcV (vs:=[_,_]) U zge (Ue o d9 _)<|zN ?_
  refine zI ?_ ?_<;>intro c0
  ·have d0:F.any (· ==p.id)=true:=(by rw [<-znk];exact c0);refine Qh<|zF Xz ?_
   refine zV (Qc U zdw (fun hg=>by (repeat (first | exact zJC U | apply zJB | apply zJD))))<|zV (Qo U YH (fun hg=>by exact Cells.g0) U)<|zpb [(0,_)] [Y5 p] UO (fun i4=>?_)
   refine zpa (_) ([p].flatMap Y5) (L) U U UO hO ⟨U,fun _=>U,by repeat (first | exact zJF | apply zJE | apply zJG)⟩ (znR _) ?_;intro v9 L9 c5 _;obtain ⟨j7,j8,rfl⟩:=zaV c5;rw [<-jh] at c5;refine zF Xz ?_;refine zS zp7 ?_;refine Qe (Qg (Qa (Qh (zB<|zM (Qe ?_)))))
   first
   | exact zm (h:=⟨pn-(k+1),kB,k+1,_,_,_,_,U,U,a9,U,kB,c1,by rw [Wc hp d0];exact c5,kB⟩)
  have d0:F.any (· ==p.id)=false:=(by rw [<-znk];exact c0);refine Qm (Qg (Qa (Qh (zB<|zM (Qe ?_)))))
  first
  | exact zm (h:=⟨pn-(k+1),kB,k+1,_,_,_,_,U,U,a9,U,kB,c1,by rw [za1 hp d0];exact hO,kB⟩)
 have c8:pn<=k:=kd b8;rw [QZ hP.len c8] at hm hO;refine Qy (Qf (Qf (Qj (Qa (zR<|zV (Qo U Kl (fun hg=>by (repeat (first | exact zJF | apply zJE | apply zJG))) U) ?_)))));refine zh zbN ?_;refine zA<|zN<|Qq ?_
 first
 | exact Zg U U U Kl (vs:=[.slice bv n2 c2,.int .i64 no,.slice W K a0,.slice Y N a4,.slice Z O a5,.map (some d),.slice b3 q b4,.slice B (zfx D (Yl ws rows no J es rd) F).length C]) kG U (fun w hw=>by obtain ⟨I9,i9,c9,a1,e5,e9,e6⟩:=OwnS.freeze (R:=[_,_,_]) hO Yj kC hw;cases e9;obtain ⟨I8,G,e7,e8⟩:=e5.freezeAll;exact ⟨_,I8,[],U,(u.trans a1).trans G,e7,U,[.slice bv n2 c2,.int .i64 no,.slice W K a0,.slice Y N a4,.slice Z O a5,.map (some d),.slice b3 q b4,.slice B (zfx D (Yl ws rows no J es rd) F).length C],by rw [zc9 a2,b0],U,U,fun _=>⟨⟨bv,n2,c2,no,W,K,a0,Y,N,a4,Z,O,a5,d,b3,q,b4,B,_,C⟩,U,⟨(M.mono a1).mono G,(Q.mono a1).mono G,(A.mono a1).mono G,⟨m,e8 d _ kJ,(hm.mono a1).mono G⟩,⟨e6.mono G,fun z hz=>((hP.2 z (jP.1 hz).1).mono a1).mono G⟩,by rw [<-e0];exact (a8.mono a1).mono G,d8,d6,d7,by show q<=100000;omega,by show (zfx D (Yl ws rows no J es rd) F).length<=100000;rw [e0];omega,fun z hz=>⟨z,(jP.1 hz).1,U⟩⟩⟩⟩)
section
variable {f:List Wr} {rows:List (List Int)} {g:Int} {i:List Int} {j:List Em} {d:List Int}
theorem zoN (h:JD f rows g i j d=0):UV f=0/\K9 f=rows/\K8 rows g i j d=0/\Ww f rows d d.length=some (Yl f rows g i j d):=by
 have h0:=h;unfold JD at h;split at h
 ·exact absurd h kE
 ·split at h
  ·cases h
  ·split at h
   ·exact absurd h kE
   ·split at h
    ·cases h
    ·rename_i h1 h2 h3 h4;refine ⟨by simpa using h1,by simpa using h2,by simpa using h3,?_⟩;unfold Yl;rw [ja (by rw [h0];simp)]
     cases o:Ww f rows d d.length with
     | none=>rw [o] at h4;simp at h4
     | some l=>rfl
theorem zdW:∀ {k:Nat} {l:List Sg},Ww f rows d k=some l->∀ x∈l,∃ q:Nat,q<k/\x.id=(q:Int)/\zaB f rows q (d.getD q 0)= .sg x
 | 0,l,h,x,s=>by cases h;cases s
 | k+1,l,h,x,s=>by
  unfold Ww at h
  cases h1:Ww f rows d k with
  | none=>rw [h1] at h;cases h
  | some u=>
   rw [h1] at h;dsimp only at h;split at h
   ·cases h
   ·cases h;obtain ⟨q,a,b,c⟩:=zdW h1 x s;exact ⟨q,kB,b,c⟩
   ·rename_i y o;cases h;rcases jC.1 s with s | s
    ·obtain ⟨q,a,b,c⟩:=zdW h1 x s;exact ⟨q,kB,b,c⟩
    ·rw [jM] at s;subst s;refine ⟨k,kB,?_,o⟩;unfold zaB at o;split at o
     ·cases o
     ·split at o
      ·cases o
      ·split at o
       ·cases o
       ·cases o;rfl
theorem zEB (h:JD f rows g i j d=0){x:Sg}(u:x∈Yl f rows g i j d):∃ q:Nat,x.id=(q:Int)/\q<d.length/\(∀ r∈rows,q<r.length)/\zaB f rows q (d.getD q 0)= .sg x:=by obtain ⟨h1,h2,h3,h4⟩:=zoN h;obtain ⟨q,a,b,c⟩:=zdW h4 x u;have s:=(zaz h1 h2 h3).2.1;exact ⟨q,b,a,fun r o=>by rw [s r o];exact a,c⟩
end
theorem zsC {J:List Sg}{k y:Sg}(h:y∈zdr J k):y=k\/y∈J:=by
 unfold zdr at h;rcases jC.1 h with h | h
 ·exact .inr (List.takeWhile_sublist _ |>.subset h)
 ·rcases jo.1 h with h | h
  ·exact .inl h
  ·exact .inr (List.dropWhile_sublist _ |>.subset h)
theorem zjO:∀ {l:List Pt} {d:List Sg} {y:Sg},y∈Ul d l->y∈d\/∃ p∈l,p.kind=2/\p.nw=y
 | [],d,y,h=>.inl h
 | p::l,d,y,h=>by
  have g:y∈Ul (if p.kind=2 then zdr d p.nw else d) l:=h;rcases zjO g with h1 | ⟨q,h1,h2,h3⟩
  ·split at h1
   ·rename_i i;rcases zsC h1 with h1 | h1
    ·exact .inr ⟨p,jl ..,i,h1.symm⟩
    ·exact .inl h1
   ·exact .inl h1
  ·exact .inr ⟨q,jm _ h1,h2,h3⟩
variable{on:Int->Int->Bool}{a6:List Sg}{x:Sg}
theorem zjz (h:x∈Jl on a6 l):∃ y,y∈Ul a6 l/\x=zcU on l y/\exB on l y.id=true:=by unfold Jl at h;obtain ⟨y,h1,rfl⟩:=jt.1 h;obtain ⟨h2,h3⟩:=jP.1 h1;exact ⟨y,h2,U,h3⟩
theorem zH9 {s:Int}(h:(or2 l s).2=false):l.any (inP s)=false:=by
 unfold or2 at h
 cases d:l.find? (inP s) with
 | none=>rw [OR] at d;rw [jL];exact d
 | some p=>rw [d] at h;cases h
theorem zkp (j:Sto l)(h:x∈Jl on a6 l)(i:(or2 l x.id).2=false):∃ y∈a6,x=zcU on l y/\exB on l y.id=true:=by
 obtain ⟨y,h1,h2,h3⟩:=zjz h;rcases zjO h1 with h4 | ⟨p,g,d,o⟩
 ·exact ⟨y,h4,h2,h3⟩
 ·have h5:=zH9 i;rw [jL] at h5;refine absurd ?_ (h5 p g);unfold inP;rw [h2,zaQ,<-o,((j.ok p g).ins d).1];simp [d]
theorem zjX (h1:JD ws rows no cl es rd=0)(h2:za3 D (Yl ws rows no cl es rd) F=0)(j:x∈Jl (onF D) (Yl ws rows no cl es rd) (Zi D F))
  (i:(or2 (Zi D F) x.id).2=false):∃ q:Nat,x.id=q/\q<rd.length/\∀ r∈rows,q<r.length:=by
 obtain ⟨d,_,_,_,_,g,_⟩:=WX h2;obtain ⟨y,o,e,_⟩:=zkp (Xx d g) j i;obtain ⟨q,a,b,c,_⟩:=zEB h1 o;exact ⟨q,by rw [e,zaQ,a],b,c⟩
theorem zah (h:Xg e1 D bs F=0):e1=0/\za3 D bs F=0:=by
 unfold Xg at h;split at h
 ·exact absurd h kE
 ·rename_i h1;exact ⟨by simpa using h1,h⟩
def orE (e0:Int)(s:List Sg)(G f:Int):Int:=if e0≠0 then e0 else if (decide (f<1)||decide (f>9))|| !(s.any fun x=>x.id==G) then 440 else 0
def orO (e:Int)(o:Og):Og:=if e≠0 then zOg else o
def OrQ (e:Int)(o:Og)(v:Value)(I:Qu)(L:Go.Kn.Loc):Prop:=L=[]/\∃ F,v= .tuple #[.agg F.toArray,.int .i64 e]/\OgV I o F
variable{e0 G:Int}{s:List Sg}
theorem zEY (h:e0≠0):orE e0 s G f=e0:=jb h
theorem zCD (h:e0=0)(h2:((decide (f<1)||decide (f>9))|| !(s.any fun x=>x.id==G))=true):orE e0 s G f=440:=by unfold orE;rw [ja kB,jb h2]
theorem zDF (h:e0=0)(h2:((decide (f<1)||decide (f>9))|| !(s.any fun x=>x.id==G))=false):orE e0 s G f=0:=by unfold orE;rw [ja kB,ja (by rw [h2];decide)]
variable{e:Int}{o:Og}
theorem OrQ.bad (d:e≠0):OrQ e (orO e o) (.tuple #[.agg #[.int .i64 0,.int .i64 0,.slice none 0 0,.slice none 0 0],.int .i64 e]) I []:=by unfold orO;rw [jb d];exact ⟨U,[.int .i64 0,.int .i64 0,.slice none 0 0,.slice none 0 0],U,none,0,0,none,0,0,U,.nil,.nil⟩
def tcJ (og:Int->Int->Og)(s:Int)(j:Nat):List (Int×Int):=(List.range j).flatMap fun (i:Nat)=>if (og s ((i:Int)+1)).k==3 then [(s,(i:Int)+1)] else []
def tcK (og:Int->Int->Og)(s:List Sg)(k:Nat):List (Int×Int):=(s.take k).flatMap fun x=>tcJ og x.id 9
variable{og:Int->Int->Og}{j:Nat}
theorem zhy {s:Int}(h:((og s ((j:Int)+1)).k==3)=true):tcJ og s (j+1)=tcJ og s j++[(s,(j:Int)+1)]:=by unfold tcJ;rw [Ok,jh];simp only [jV,List.flatMap_nil,jw];rw [jb h]
theorem zpS {s:Int}(h:((og s ((j:Int)+1)).k==3)=false):tcJ og s (j+1)=tcJ og s j:=by unfold tcJ;rw [Ok,jh];simp only [jV,List.flatMap_nil,jw];rw [ja (by rw [h];decide),jw]
theorem zrO (d:s[k]? =some x):tcK og s (k+1)=tcK og s k++tcJ og x.id 9:=by unfold tcK;rw [jz,d,jh];simp
theorem zw9 (g:s.length=n)(d:n<=k):tcK og s k=s.flatMap fun x=>tcJ og x.id 9:=by unfold tcK;rw [jr kB]
def tcF (e:Int)(og:Int->Int->Og)(s:List Sg):List (Int×Int):=if e≠0 then [] else s.flatMap fun x=>tcJ og x.id 9
def zHI (e:Int)(J:List (Int×Int))(v:Value)(I:Qu)(L:Go.Kn.Loc):Prop:=L=[]/\∃ a c,v= .tuple #[.slice a J.length c,.int .i64 e]/\Sl I 2 K6 a J.length c J
theorem zH1 (h:((decide (f<1)||decide (f>9))|| !(s.any fun x=>x.id==G))=false):∃ x∈s,x.id=G:=by rw [jS] at h;have h2:=zgD h.2;rw [jD] at h2;obtain ⟨x,g,d⟩:=h2;exact ⟨x,g,by simpa using d⟩
variable{C:Cx}{Q:Exit->Act->World->Prop}{E:Env}{a8:Go.Kn.Loc}
theorem zDq (d:Go.Kn.Loc){c:Code}(i:d.Perm a8)(h:X C Q c E I d):X C Q c E I a8:=fun a w g u=>h a w g (u.permL i)
theorem zmc:ke 36:=.of Tryz.func36 kA kA
theorem zvB:ke 37:=.of Tryz.func37 kA kA
theorem zuO:ke 38:=.of Tryz.func38 kA kA
theorem zoP:ke 39:=.of Tryz.func39 kA kA
theorem ze0:zf9 Tryz.prog 38 0 0:=.of kA
theorem zH2 (h1:I b1=some (.cells #[.int .i64 G] 3 (0,0)))(x:Sg):kf 38 [VD x,.pointer (some ⟨b1,0,none⟩)] I (.bool (x.id==G)):=by
 intro g H w i;refine qe Tryz.func38 Tryz.ntmps38 i ?_;refine zR<|QU U U U (fun d=>zA<|zN (zR<|zF Zu ?_))
 refine zL Qr<|zV (Qc U Qr (fun hg=>by exact .imm h1 U))<|zC<|zA (zN (Qq ?_))
 exact zr U U kL
theorem zki (b5:SlW I av n c ws)(hn:n<=100000)(b3:SlN I bv n2 c2 rows)(c7:n2<=100000)(b6:Sl I 1 QF W K a0 J)(b7:Sl I 3 Yv Y N a4 es)(b8:Sl I 1 QF Z O a5 rd)(c4:K<=100000)(c5:N<=100000)(c6:O<=100000)(no:Int)(hP:SlP I pv pn pc D)(d0:pn<=100000)(b4:Sl I 1 QF dv n3 c3 F)(c8:n3<=100000)(a3:JZ I)(G u:Int):kg 14 [.slice av n c,.slice bv n2 c2,.agg (ZI no W K a0 Y N a4 Z O a5).toArray,.slice pv pn pc,.slice dv n3 c3,.int .i64 G,.int .i64 u] I [] (OrQ (orE (Xg (JD ws rows no J es rd) D (Yl ws rows no J es rd) F) (Jl (onF D) (Yl ws rows no J es rd) (Zi D F)) G u) (orO (orE (Xg (JD ws rows no J es rd) D (Yl ws rows no J es rd) F) (Jl (onF D) (Yl ws rows no J es rd) (Zi D F)) G u) (zcT (onF D) rows es rd (Zi D F) G u))):=by
 intro g H w M;refine qe Tryz.func14 Tryz.ntmps14 M ?_;have d:=zJH I;refine zR<|QU U U U (fun d9=>QU U U U (fun A=>Qv US U U (fun d7=>zA<|zN (zR ?_))))
 refine zM ?_;refine zM<|zV (Qo U ZG (fun hg=>by exact Cells.g2) U)<|zM ?_
 refine zM<|zpc [_,_,_,_,_] U zmc .nil (zvD b5 hn b3 c7 b6 b7 b8 c4 c5 c6 no hP d0 b4 c8 a3) ?_
 rintro e2 I1 L1 a9 ⟨rfl,vx,rfl,d4,d3,c9⟩;have d:=d.trans a9;refine zM ?_;refine zE ?_;refine zE ?_;refine Qv zsR U U (fun d8=>?_);refine zcf U U zbN d4 U d3 U (by repeat (first | exact Upd.here | apply Upd.there | apply QN)) ?_;refine zA<|zN<|Qk<|zR ?_;refine zM<|zC (zN ?_)
 refine zI ?_ ?_<;>intro B
 ·have i:(Xg (JD ws rows no J es rd) D (Yl ws rows no J es rd) F)≠0:=(by simpa using B);refine zR<|zV (Qo U Yt (fun hg=>by exact Cells.g1) U)<|zM<|zh YO ?_
  refine zA<|zN<|Qq<|Qb ?_
  first
  | exact Zg U U U Yt (vs:=[.int .i64 0,.int .i64 0,.slice none 0 0,.slice none 0 0]) kG U (fun w M=>⟨_,I1,[],U,d,M.drop,by rw [zEY i];exact OrQ.bad i⟩)
 have i:(Xg (JD ws rows no J es rd) D (Yl ws rows no J es rd) F)=0:=(by simpa using B);obtain ⟨t,rfl,V⟩:=c9 i;obtain ⟨d1,d2⟩:=zah i;refine Qm (Qa (Qk (Qk<|Zk (b:=A) (by repeat (first | exact Zb.here | apply Zb.there)) (fun I2 T b9=>?_))));have V:=V.mono T;have d:=d.trans T;have h12:=b9;refine Qh (zM<|zC ?_);refine zM ?_;refine QI 2 U U U ?_;refine zJ (Qd U)<|zJ (Qx U U U) ?_
 refine Q5 U U U U U<|zM ?_
 refine QI 6 U U U ?_;refine zJ (Qi U zbC) ?_;refine zJ (Qc U zdy (fun hg=>by exact QO.h0 U))<|zJ (Zn (us:=[]) (vs:=[_]) U U)<|qf (vs:=[_,_]) U zvB (fun hg=>zHG (cap:=[.pointer (some ⟨A,0,none⟩)]) V.S V.bs zuO (fun x hx=>zH2 h12 x))<|zJ (ZT U)<|Q5 U U U U U<|zN ?_
 refine zI ?_ ?_<;>intro y
 ·refine zR<|zV (Qo U Yt (fun hg=>by exact Cells.g1) U) ?_
  refine zh YO ?_;refine zA<|zN<|Qq<|Qb ?_
  first
  | exact Zg U U U Yt (vs:=[.int .i64 0,.int .i64 0,.slice none 0 0,.slice none 0 0]) kG U (fun w M=>⟨_,I2,[],U,d,M.drop,by rw [zCD i y];exact OrQ.bad kC⟩)
 obtain ⟨x,hx,z⟩:∃ x∈(Jl (onF D) (Yl ws rows no J es rd) (Zi D F)),x.id=G:=zH1 y;have c0:∃ x∈(Jl (onF D) (Yl ws rows no J es rd) (Zi D F)),x.id=G:=⟨x,hx,z⟩;refine Qm (Qa (zR<|zV (Qo U Kl (fun hg=>by exact Cells.g0) U)<|zV (Qc U Qr (fun hg=>by exact .imm h12 U))<|zM<|zV (Zw (ps:=[(0,_),(1,_)]) [_,_] JQ zjL U U)<|zpc [_,_] U zoP .nil (zCm V G u (fun h=>by obtain ⟨x,hx,z⟩:=c0;have h9:=zjX d1 d2 hx (by rw [z];exact h);rw [z] at h9;exact h9)) ?_));rintro e3 I3 L3 b0 ⟨rfl,a1,n1,c1,a2,n2,c2,rfl,d5,d6⟩;have d:=d.trans b0;refine zh YO ?_;refine zA<|zN<|Qq ?_
 first
 | exact Zg U U U Yt (vs:=[.int .i64 _,.int .i64 _,.slice a1 n1 c1,.slice a2 n2 c2]) kG U (fun w M=>⟨_,I3,[],U,d,M.drop,by rw [zDF i y];exact ⟨U,_,U,_,_,_,_,_,_,U,d5,d6⟩⟩)
theorem zfO (d1:SlW I av n c ws)(hn:n<=100000)(A:SlN I bv n2 c2 rows)(d7:n2<=100000)(M:Sl I 1 QF W K a0 J)(V:Sl I 3 Yv Y N a4 es)(a3:Sl I 1 QF Z O a5 rd)(d4:K<=100000)(d5:N<=100000)(d6:O<=100000)(no:Int)(hP:SlP I pv pn pc D)(e2:pn<=100000)(B:Sl I 1 QF dv n3 c3 F)(d8:n3<=100000)(c9:JZ I):kg 16 [.slice av n c,.slice bv n2 c2,.agg (ZI no W K a0 Y N a4 Z O a5).toArray,.slice pv pn pc,.slice dv n3 c3] I [] (zHI (Xg (JD ws rows no J es rd) D (Yl ws rows no J es rd) F) (tcF (Xg (JD ws rows no J es rd) D (Yl ws rows no J es rd) F) (fun s f=>zcT (onF D) rows es rd (Zi D F) s f) (Jl (onF D) (Yl ws rows no J es rd) (Zi D F)))):=by
 intro g H w hw;refine qe Tryz.func16 Tryz.ntmps16 hw ?_;have u:=zJH I;refine zR<|QU U U U (fun b8=>zA<|zA<|zN (zR ?_))
 refine zM ?_;refine zM<|zV (Qo U ZG (fun hg=>by exact Cells.g0) U)<|zM ?_
 refine zM<|zpc [_,_,_,_,_] U zmc .nil (zvD d1 hn A d7 M V a3 d4 d5 d6 no hP e2 B d8 c9) ?_
 rintro f3 I1 L1 i ⟨rfl,vx,rfl,e7,e6,d9⟩;have A:=A.mono i;have M:=M.mono i;have V:=V.mono i;have a3:=a3.mono i;have hP:=hP.mono i;have B:=B.mono i;have u:=u.trans i;refine zM ?_;refine zE ?_;refine zE ?_;refine Qv zsR U U (fun z=>?_);refine zcf U U zbN e7 U e6 U (by repeat (first | exact Upd.here | apply Upd.there | apply QN)) ?_;refine zA<|zN<|Qk<|zR ?_;refine zM<|zC (zN ?_)
 refine zI ?_ ?_<;>intro b4
 ·have a9:(Xg (JD ws rows no J es rd) D (Yl ws rows no J es rd) F)≠0:=(by simpa using b4);refine zR (zM<|zA<|zA (zN (Qq (Qb ?_))))
  first
  | exact QY U U U (fun w hw=>⟨_,I1,[],U,u,hw.drop,by unfold tcF;rw [jb a9];exact ⟨U,none,0,U,.nil⟩⟩)
 have a9:(Xg (JD ws rows no J es rd) D (Yl ws rows no J es rd) F)=0:=(by simpa using b4);obtain ⟨t,rfl,hT⟩:=d9 a9;obtain ⟨e4,e5⟩:=zah a9;have f0:=hT.bs;refine Qm (Qa (Qk (zR<|zF zbC ?_)));refine zL zdy<|zQ Z7 ?_
 refine zM<|zN<|Ql ?_;refine zU [(12,_),(29,_),(30,_)] (fun T L0 mz E I' d=>∃ (k:Nat) (v:Value) (q:Nat) (L:Go.Kn.Loc),mz=t.sn-k/\E=(10,v)::(31,.int .i64 k)::T/\HLe I1 I'/\L++[(z,.cells (Uu t).toArray 98 (0,0)),(b8,.cells (ZI no W K a0 Y N a4 Z O a5).toArray 26 (0,0))]=d/\k<=t.sn/\OwnS 79 2 v q ((tcK (fun s f=>zcT (onF D) rows es rd (Zi D F) s f) (Jl (onF D) (Yl ws rows no J es rd) (Zi D F)) k).flatMap K6) L/\q<=k*9) ?_ (h:=⟨0,_,0,[],U,U,zJH _,U,jd _,OwnS.nil,jd _⟩);rintro mz E J2 d ⟨k,v,q,L,rfl,rfl,y,rfl,hk,hO,hq⟩;have A:=A.mono y;have M:=M.mono y;have V:=V.mono y;have a3:=a3.mono y;have hP:=hP.mono y;have B:=B.mono y;have hT:=hT.mono y;have u:=u.trans y;have b9:=y;refine zR<|zC<|zN<|Qk ?_;refine zI ?_ ?_<;>intro b5
 ·have c4:k<t.sn:=kd b5;obtain ⟨x,hx⟩:=hT.S.at c4;refine Qm (Qa (Qk (Ql (zR<|zV (Qs U U Z7 hT.S (fun hg=>kB))<|zV (Qo U QQ (fun hg=>by exact zJI hT.S hx) U)<|Qv Kc U U (fun b3=>?_)))));refine zh Zy<|zN (Qk<|zDq (L++[(b3,.cells (YA x).toArray 54 (0,0)),(z,.cells (Uu t).toArray 98 (0,0)),(b8,.cells (ZI no W K a0 Y N a4 Z O a5).toArray 26 (0,0))]) AA<|Qh (zA (zN (Ql<|zU [(12,_),(14,_),(29,_),(30,_),(31,_)] (fun T L0 mz E I' d=>∃ (j:Nat) (v:Value) (q:Nat) (L:Go.Kn.Loc),mz=9-j/\E=(10,v)::(15,.int .i64 ((j:Int)+1))::T/\HLe J2 I'/\L++[(b3,.cells (YA x).toArray 54 (0,0)),(z,.cells (Uu t).toArray 98 (0,0)),(b8,.cells (ZI no W K a0 Y N a4 Z O a5).toArray 26 (0,0))]=d/\j<=9/\OwnS 79 2 v q ((tcK (fun s f=>zcT (onF D) rows es rd (Zi D F) s f) (Jl (onF D) (Yl ws rows no J es rd) (Zi D F)) k++tcJ (fun s f=>zcT (onF D) rows es rd (Zi D F) s f) x.id j).flatMap K6) L/\q<=k*9+j) ?_ (h:=⟨0,v,q,L,U,U,zJH _,U,jd _,by rw [show tcJ (fun s f=>zcT (onF D) rows es rd (Zi D F) s f) x.id 0=[] from U,jw];exact hO,kB⟩)))))
  rintro mz E J3 d ⟨j,v,q,L,rfl,rfl,y,rfl,hj,hO,hq⟩;have hT:=hT.mono y;have b9:=b9.trans y;have b0:=y;refine Qk (zR (zM<|zC (zN ?_)));refine zI ?_ ?_<;>intro b6
  ·have d3:j<9:=(by have h:=b6;simp only [jG] at h;omega);refine Qm (Qa (Qk (Ql (zR<|zV (Qo U Kl (fun hg=>by (repeat (first | exact zJF | apply zJE | apply zJG))) U)<|zF Zu ?_))));refine zV (Qc U Qr (fun hg=>by (repeat (first | exact zJC U | apply zJB | apply zJD))))<|zM<|zV (Zw (ps:=[(0,_),(1,_)]) [_,_] JQ zjL U U)<|zpc [_,_] U zoP .nil (zCm hT x.id ((j:Int)+1) (zjX e4 e5 (je hx))) ?_
   rintro f4 I4 L4 d0 ⟨rfl,a1,n1,c1,a2,n2,c2,rfl,f1,f2⟩;have b0:=b0.trans d0;refine zV (zke U ze0 U)<|zC (zN ?_)
   refine zI ?_ ?_<;>intro b7
   ·refine Qh (zM<|zF Zu ?_);refine zV (Qc U Qr (fun hg=>by (repeat (first | exact zJC U | apply zJB | apply zJD))))<|zM<|zV (Zw (ps:=[(0,_),(1,_)]) [_,_] Yx K4 U U)<|zpb [(0,_)] [K6 (x.id,(j:Int)+1)] VL (fun e8=>?_)
    refine zpa (_) ([(x.id,(j:Int)+1)].flatMap K6) (L) U U VL hO ⟨U,fun _=>U,by repeat (first | exact zJF | apply zJE | apply zJG)⟩ (zc2 [(x.id,(j:Int)+1)]) ?_;intro v9 L9 c6 _;rw [<-jh] at c6;refine zA (Qe (Qg (Qa (Qh<|zM ?_))));refine zB<|zA (Qe ?_)
    first
    | exact zm (h:=⟨9-(j+1),kB,j+1,_,_,_,U,U,b0,U,kB,by rw [zhy b7,<-js];exact c6,kB⟩)
   refine Qm<|Qg<|Qa<|Qh<|zM ?_;refine zB<|zA (Qe ?_)
   first
   | exact zm (h:=⟨9-(j+1),kB,j+1,_,_,_,U,U,b0,U,kB,by rw [zpS b7];exact hO,kB⟩)
  have d2:9<=j:=(by have h:=b6;simp only [jR] at h;omega);refine Qy (Qf (Qf (Qj (Qg (Qa (Qh (zB<|zM (Qe ?_))))))));exact zm (h:=⟨t.sn-(k+1),kB,k+1,_,_,_,U,U,b9,U,kB,by rw [zrO hx];rw [show j=9 by omega] at hO;exact hO,kB⟩)
 have c0:t.sn<=k:=kd b5;rw [zw9 hT.S.len c0] at hO;refine Qy (Qf (Qf (Qj (Qa (zR (zM<|zA<|zA (zN (Qq ?_))))))))
 first
 | exact QY U U U (fun w hw=>by obtain ⟨I9,c7,c8,a,c,e9,c5⟩:=OwnS.freeze' hO (fun _=>U) kC (hw.subL (by exact Q3));exact ⟨_,I9,[],U,u.trans c7,c8,by rw [a9];unfold tcF;rw [ja kJ];have e3:=c5.len;subst e3;exact ⟨U,a,c,by rw [e9],c5⟩⟩)
end
end Go.Proofs.YtodakphagkommaaGreatDoor.R
namespace Go.Proofs.YtodakphagkommaaGreatDoor
section
open Go Go.Kn Go.Proofs
abbrev Tri:=Value×Nat×List Value
structure zkT (rows:List (List Int))(k:Nat)(m:List (Int×Tri))(i:Nat):Prop where
 val:∀ c,((ZR m c).getD Kj).2.2=(KK (rows.take i) k c).flatMap QF
 nd:(m.map (·.1)).Nodup
 key:∀ c,c∈m.map (·.1)↔ ∃ r∈rows.take i,r.getD k 0=c
 len:(m.map (·.1)).length<=i
variable{rows:List (List Int)}{k:Nat}
theorem zkT.start :zkT rows k [] 0:=⟨fun c=>by rw [AB];rfl,.nil,(fun c=>by simp),jn _⟩
variable{i:Nat}{m:List (Int×Tri)}{r:List Int}{v:Value}
theorem zkT.put {n:Nat}(h:zkT rows k m i)(d:rows[i]? =some r):zkT rows k (Vd m (r.getD k 0) (v,n,((ZR m (r.getD k 0)).getD Kj).2.2++[(i:Int)].flatMap QF)) (i+1) where
 val:=fun c=>by
  rw [Vv];by_cases e:r.getD k 0=c
  ·rw [jb e,show KK (rows.take (i+1)) k c=KK (rows.take i) k c++[(i:Int)] from zaW d (by simpa using e),jh,<-h.val c];subst e;rfl
  ·rw [ja e,show KK (rows.take (i+1)) k c=KK (rows.take i) k c from zgg d (by simpa using e)];exact h.val c
 nd:=WD _ _ h.nd
 key:=fun c=>by
  rw [Ug,jz,d];split
  ·rename_i b;rw [h.key c];constructor
   ·rintro ⟨a,h1,h2⟩;exact ⟨a,OS _ h1,h2⟩
   ·rintro ⟨a,h1,h2⟩;rcases jC.1 h1 with h1 | h1
    ·exact ⟨a,h1,h2⟩
    ·simp at h1;subst h1;subst h2;exact (h.key _).1 b
  ·rw [jC,h.key c];constructor
   ·rintro (⟨a,h1,h2⟩ | h1)
    ·exact ⟨a,OS _ h1,h2⟩
    ·rw [jM] at h1;exact ⟨r,O6 _ kJ,h1.symm⟩
   ·rintro ⟨a,h1,h2⟩;rcases jC.1 h1 with h1 | h1
    ·exact .inl ⟨a,h1,h2⟩
    ·simp at h1;subst h1;exact .inr (by rw [jM];exact h2.symm)
 len:=by
  have:=h.len;rw [Ug];split
  ·omega
  ·rw [jj,jv];omega
variable{c:Int}
theorem zfm :(KK rows k c).length<=rows.length:=by unfold KK ixF;rw [ju];exact jO (jE ..) (by rw [List.length_zipIdx];exact jn _)
variable{e:Nat}
theorem zkT.le (h:zkT rows k m i){L:Go.Kn.Loc}(a:OwnS e 1 ((ZR m c).getD Kj).1 ((ZR m c).getD Kj).2.1 ((ZR m c).getD Kj).2.2 L):((ZR m c).getD Kj).2.1<=i:=by have h1:=a.1;rw [h.val c,ZF QL] at h1;have h2:=zfm (rows:=rows.take i) (k:=k) (c:=c);rw [jJ] at h2;omega
variable{I:Qu}
theorem zkT.sl {L:Go.Kn.Loc}(h:zkT rows k m rows.length)(l:Z6 e 1 (m.map (·.2)) L)(n:∀ b o,(b,o)∈L->I b=some o)(c:Int):
  ∃ a d,((ZR m c).getD Kj).1= .slice a (KK rows k c).length d/\Sl I 1 QF a (KK rows k c).length d (KK rows k c):=by
 obtain ⟨A,s,B,rfl,j,_⟩:=l.at c;rw [h.val c,Al] at j;obtain ⟨a,d,g,f⟩:=j.sl QL kC (fun b o p=>n b o (by simp [p]));have q:=f.len;rw [<-q] at g f;exact ⟨a,d,g,f⟩
def kyS (l:List Int)(f:List Nat):List Int:=f.map fun i=>l.getD i 0
variable{l:List Int}{f:List Nat}{a:Int}
theorem zth (h:l[i]? =some a):kyS l (f++[i])=kyS l f++[a]:=by unfold kyS;rw [Od,List.map_singleton,QJ h]
theorem zcX (l:List Int):((List.range l.length).map fun i=>l.getD i 0)=l:=by
 apply Ad;intro j;rw [jB];by_cases h:j<l.length
 ·rw [OD h,Ow,jf h,QJ (jf h)]
 ·rw [Ol (by simpa using BA h),Ol kB];rfl
theorem zzb (g:f.Nodup)(d:∀ i∈f,i<l.length)(b:∀ i,i<l.length->i∈f):(kyS l f).Perm l:=by have h1:f.Perm (List.range l.length):=(Bd g List.nodup_range).2 fun i=>(by rw [jq];exact ⟨d i,b i⟩);have h2:=h1.map fun i=>l.getD i 0;rw [zcX] at h2;exact h2
theorem zia {q:Nat}{n:Int}:∀ {rows:List (List Int)} {o:Option Int},(∀ b,o=some b->n<b)->(∀ r∈rows,n<r.getD q 0->∃ c,rows.foldl (zhe q n) o=some c/\c<=r.getD q 0)/\(∀ b,o=some b->∃ c,rows.foldl (zhe q n) o=some c/\c<=b)
 | [],o,_=>⟨(fun r t=>by cases t),fun b g=>⟨b,g,AC _⟩⟩
 | r::rows,o,ho=>by
  cases g:(decide (r.getD q 0>n)&&(!o.isSome||decide (r.getD q 0<o.getD 0))) with
  | true=>
   have s:=zhM g;simp only [ji,On,jG] at g;have ih:=zia (q:=q) (n:=n) (rows:=rows) (o:=some (r.getD q 0)) (fun b e=>by cases e;exact g.1);have j:(r::rows).foldl (zhe q n) o=rows.foldl (zhe q n) (some (r.getD q 0)):=(by rw [Of,s]);rw [j];refine ⟨fun h d p=>?_,fun b e=>?_⟩
   ·rcases jo.1 d with rfl | d
    ·exact ih.2 _ U
    ·exact ih.1 h d p
   ·obtain ⟨c,h1,h2⟩:=ih.2 _ U;subst e;rcases g.2 with h3 | h3
    ·cases h3
    ·have h3:r.getD q 0<b:=h3;exact ⟨c,h1,kB⟩
  | false=>
   have s:=zoo g;have ih:=zia (q:=q) (n:=n) (rows:=rows) (o:=o) ho;have j:(r::rows).foldl (zhe q n) o=rows.foldl (zhe q n) o:=(by rw [Of,s]);rw [j];refine ⟨fun h d p=>?_,ih.2⟩;rcases jo.1 d with rfl | d
   ·cases o with
    | none=>
     cases h9:decide (h.getD q 0>n) with
     | true=>rw [h9] at g;cases g
     | false=>simp only [jR] at h9;omega
    | some b=>
     cases h9:decide (h.getD q 0>n) with
     | true=>
      rw [h9] at g;have h8:decide (h.getD q 0<b)=false:=g;simp only [jR] at h8;obtain ⟨c,h1,h2⟩:=ih.2 b U;exact ⟨c,h1,kB⟩
     | false=>simp only [jR] at h9;omega
   ·exact ih.1 h d p
theorem Uf (l:List Int):(Vf l).Perm l:=BP ..
theorem zrL (l:List Int):(Vf l).Pairwise (· <= ·):=
 (List.pairwise_mergeSort (le:=fun x y:Int=>decide (x<=y)) (fun a b c h1 h2=>by simp at*;omega) (fun a b=>by simp;omega) l).imp fun h=>by simpa using h
theorem zps {rows:List (List Int)}{q:Nat}:∀ {l:List Int} {n:Int} {m:Nat},l.Pairwise (· < ·)->(∀ c,c∈l↔n<c/\∃ r∈rows,r.getD q 0=c)->l.length<=m->zrX rows q m (zeK rows q n)=l.map fun c=>⟨c,KK rows q c⟩
 | [],n,m,_,hk,_=>by
  have:zeK rows q n=none:=by
   cases h:zeK rows q n with
   | none=>rfl
   | some c=>have h1:=(hk c).2 (zj4 h);cases h1
  rw [this,zgV];rfl
 | c::l,n,0,_,_,hm=>by simp at hm
 | c::l,n,m+1,hs,hk,hm=>by
  obtain ⟨z,r,w,y⟩:=(hk c).1 (jl ..);obtain ⟨d,t,u⟩:=(zia (q:=q) (n:=n) (rows:=rows) (o:=none) (fun b e=>by cases e)).1 r w kB;have g:zeK rows q n=some d:=t;have p:=(hk d).2 (zj4 g)
  have j:d=c:=by
   rcases jo.1 p with h | h
   ·exact h
   ·have:=(Jb.1 hs).1 d h;omega
  rw [g,j,zbR,jF];congr 1;refine zps (Jb.1 hs).2 (fun x=>?_) (by simp at hm;omega);constructor
  ·intro s;exact ⟨(Jb.1 hs).1 x s,((hk x).1 (jm _ s)).2⟩
  ·rintro ⟨h1,h2⟩;rcases jo.1 ((hk x).2 ⟨kB,h2⟩) with h3 | h3
   ·omega
   ·exact h3
theorem zrp (h:zkT rows k m rows.length)(h0:∀ r∈rows,0<=r.getD k 0)(j:l.Perm (m.map (·.1))):(Vf l).map (fun c=>(⟨c,KK rows k c⟩:Vt))=zlC rows k:=by
 have g:(Vf l).Nodup:=((Uf l).trans j).nodup_iff.2 h.nd
 have p:(Vf l).Pairwise (· < ·):=by
  exact ((zrL l).and g).imp fun {a b} ⟨h2,h3⟩=>by have:a≠b:=h3;omega
 have d:∀ c,c∈Vf l↔(-1:Int)<c/\∃ r∈rows,r.getD k 0=c:=fun c=>by
  rw [((Uf l).trans j).mem_iff,h.key c,Al];constructor
  ·rintro ⟨r,n,rfl⟩;exact ⟨by have:=h0 r n;omega,r,n,U⟩
  ·exact fun h=>h.2
 have o:(Vf l).length<=rows.length:=(by rw [((Uf l).trans j).length_eq];exact h.len);unfold zlC;rw [zps p d o]
theorem zy5 (h:∃ r∈rows,r.getD k 0=c):0<(KK rows k c).length:=by obtain ⟨r,g,b⟩:=h;obtain ⟨i,d⟩:=jU g;unfold KK ixF;rw [ju];refine AZ (a:=(r,i)) (jP.2 ⟨?_,by simpa using b⟩);rw [List.mem_iff_getElem?];exact ⟨i,by simp [List.getElem?_zipIdx,d]⟩
variable{x:Nat×Obj}
theorem zvU {A L B R:Go.Kn.Loc}:(x::((A++(L++B))++R)).Perm (L++(x::(A++(B++R)))):=by have h:=Ox (x::A) L (B++R);simp only [OE,js] at h ⊢;exact h
theorem zfr:km 104 2:=.of kA
theorem YH:km 57 19:=.of kA
theorem zuB:km 74 3:=.of kA
theorem Kl:km 98 8:=.of kA
theorem zpH:Ar2 Tryz.prog 104 3 .i64:=⟨kA,kA,kA,kA,kA⟩
theorem JQ:ku 104 2 3 1:=.of kA
theorem zp9:kp 146 145 1 8:=.of kA
theorem UO:kp 36 57 19 168:=.of kA
theorem Zq:kh 57 0 0:=.of kA
theorem Yn:kh 57 1 1:=.of kA
theorem ZB:kh 57 2 2:=.of kA
theorem YK:kh 57 3 3:=.of kA
theorem Yr:kh 57 4 4:=.of kA
theorem YD:kh 57 5 18:=.of kA
theorem zbj:kh 98 0 0:=.of kA
theorem zbx:kh 98 1 1:=.of kA
theorem Wy:kh 98 2 5:=.of kA
theorem Xz:kh 98 3 6:=.of kA
theorem zbC:kh 98 4 7:=.of kA
theorem zmH:ke 112:=.of Tryz.func112 kA kA
theorem znN:ke 113:=.of Tryz.func113 kA kA
theorem zoS:ke 114:=.of Tryz.func114 kA kA
theorem znU:ke 115:=.of Tryz.func115 kA kA
theorem zh2:ke 116:=.of Tryz.func116 kA kA
theorem zmG:ke 117:=.of Tryz.func117 kA kA
theorem zpt:ke 118:=.of Tryz.func118 kA kA
theorem zqh:ke 119:=.of Tryz.func119 kA kA
theorem zl6:ke 120:=.of Tryz.func120 kA kA
theorem zl9:ke 121:=.of Tryz.func121 kA kA
theorem zlO:ke 122:=.of Tryz.func122 kA kA
theorem zpl:ke 123:=.of Tryz.func123 kA kA
theorem zeU:ke 169:=.of Tryz.func169 kA kA
theorem zqJ:ke 170:=.of Tryz.func170 kA kA
theorem zwf:ke 31:=.of Tryz.func31 kA kA
theorem zmc:ke 36:=.of Tryz.func36 kA kA
theorem zvB:ke 37:=.of Tryz.func37 kA kA
theorem zuO:ke 38:=.of Tryz.func38 kA kA
theorem zoP:ke 39:=.of Tryz.func39 kA kA
theorem zuo:ke 44:=.of Tryz.func44 kA kA
theorem zvt:ke 45:=.of Tryz.func45 kA kA
theorem zuy:ke 68:=.of Tryz.func68 kA kA
theorem zvL:ke 69:=.of Tryz.func69 kA kA
theorem zvb:ke 70:=.of Tryz.func70 kA kA
theorem zuC:ke 71:=.of Tryz.func71 kA kA
theorem zuQ:ke 72:=.of Tryz.func72 kA kA
theorem zwm:ke 73:=.of Tryz.func73 kA kA
theorem zwl:ke 74:=.of Tryz.func74 kA kA
theorem zfP:kr 55 3 4 (.bool false):=⟨kA,.of kA⟩
theorem Jf:kr 91 3 23 (.slice none 0 0):=⟨kA,.of kA⟩
theorem zc8:kr 96 3 55 (.map none):=⟨kA,.of kA⟩
theorem zuc:kq 98 #[(0,1),(1,4),(5,1),(6,1),(7,1)] (.agg #[(.slice none 0 0),(.int .i64 0),(.slice none 0 0),(.slice none 0 0),(.slice none 0 0),(.map none),(.slice none 0 0),(.slice none 0 0)]):=⟨.of kA,kA,fun w=>kA⟩
theorem zok:kl 145:=.of kA
theorem zdw:kl 36:=.of kA
theorem zdy:kl 48:=.of kA
theorem zdl:kl 96:=.of kA
theorem zhW:ko 146 145 1:=.of kA
theorem QV:ko 36 57 19:=.of kA
theorem zp7:ki 36 1:=.of kA
theorem zoH:ki 48 1:=.of kA
theorem Km:ki 57 19:=.of kA
theorem zuq:ki 72 1:=.of kA
theorem zu6:ki 74 3:=.of kA
theorem zbN:ki 98 8:=.of kA
theorem zwz:Tryz.prog.underlying 36=some (.slice 57):=kA
theorem ze0:zf9 Tryz.prog 38 0 0:=.of kA
theorem zjL:kj 104 (.agg #[(.int .i64 0),(.int .i64 0)]):=.of kA
theorem zF7:kj 36 (.slice none 0 0):=.of kA
theorem WP:kj 57 (.agg #[(.int .i64 0),(.int .i64 0),(.int .i64 0),(.int .i64 0),(.int .i64 0),(.int .i64 0),(.int .i64 0),(.int .i64 0),(.int .i64 0),(.int .i64 0),(.int .i64 0),(.int .i64 0),(.int .i64 0),(.int .i64 0),(.int .i64 0),(.int .i64 0),(.int .i64 0),(.int .i64 0),(.slice none 0 0)]):=.of kA
theorem zEH:kj 74 (.agg #[(.int .i64 0),(.int .i64 0),(.slice none 0 0)]):=.of kA
theorem zsR:kj 98 (.agg #[(.slice none 0 0),(.int .i64 0),(.slice none 0 0),(.slice none 0 0),(.slice none 0 0),(.map none),(.slice none 0 0),(.slice none 0 0)]):=.of kA
theorem zls {r:Nat}(W:I r=some (Yg (Value.int .i64) zaO m))(a2:m.length<=100000):kg 31 [.map (some r)] I [] (fun v K L=>L=[]/\∃ av c l,l.Perm (m.map (·.1))/\v= .slice av (Vf l).length c/\Sl K 1 QF av (Vf l).length c (Vf l)):=by
 intro g H w hw;refine qe Tryz.func31 Tryz.ntmps31 hw ?_;have y:=zJH I;refine zR<|zA<|zN<|Qk<|zR ?_;refine zM<|KT (ek:=Value.int .i64) (ev:=zaO) (m:=m) U Jf U U (.inl W) (fun C=>zN (Ql<|zU [(5,_)] (fun T L0 mz E K s=>∃ (f:List Nat) (v:Value) (L:Go.Kn.Loc),mz=m.length-f.length/\E=(2,v)::T/\I=K/\L++[(C,VS r m.length f)]=s/\f.Nodup/\(∀ i∈f,i<m.length)/\OwnS 3 1 v f.length ((kyS (m.map (·.1)) f).flatMap QF) L) ?_ (h:=⟨[],_,[],U,U,U,U,.nil,(fun i h=>by cases h),OwnS.nil⟩)))
 rintro mz E K s ⟨f,v,L,rfl,rfl,rfl,rfl,d,A,hO⟩;have a3:=KH d A;refine zR<|KP (ek:=Value.int .i64) (ev:=zaO) (m:=m) (fun s'=>L++[(C,VS r m.length s')]) U (fun s'=>QN .here) U U U U U (.inl W) kJ ?_
 intro t tv s' Y J;refine zN<|Qk ?_;refine zI ?_ ?_<;>intro F
 ·obtain ⟨i,q,hq,Z,rfl⟩:=J F;refine Qm (Qa (Ql (zR<|zV (KX (ek:=Value.int .i64) (ev:=zaO) (m:=m) (p:=q) (seen:=f) (i:=i) U (.inl W) (.inr kJ) hq)<|zE ?_)));refine zA<|zN<|Qh ?_;refine zM ?_;refine zM ?_;refine zpb [(0,_)] [QF q.1] QS (fun a1=>?_);refine zpa (_) ([q.1].flatMap QF) (L) U U QS hO ⟨U,fun _=>U,by repeat (first | exact zJF | apply zJE | apply zJG)⟩ (YJ _) ?_;intro v9 L9 z _;rw [<-jh] at z;refine zA<|Qe<|Qg ?_;have o:(f++[i]).Nodup:=Ae.2 ⟨d,by simp,fun a ha b hb e=>Z (by simp at hb;subst hb;subst e;exact ha)⟩;have n:∀ j∈f++[i],j<m.length:=fun j hj=>(jC.1 hj).elim (A j) (fun h=>by simp at h;subst h;exact (jc.1 hq).1);have G:=KH o n;rw [jj,jv] at G;rw [<-zth (by rw [jB,hq];rfl)] at z;exact zm (h:=⟨m.length-(f++[i]).length,by rw [jj,jv];omega,f++[i],_,L9,U,U,U,U,o,n,by rw [jj,jv];exact z⟩)
 obtain ⟨B,D⟩:=Y F;have B:=B.symm;subst B;have a0:(kyS (m.map (·.1)) f).Perm (m.map (·.1)):=zzb d (fun i M=>by rw [ju];exact A i M) (fun i M=>by rw [ju] at M;exact D i _ (jf M));refine Qy (Qf (Qf (Qj (Qa (zR (zM<|zpc [_] U znz (by repeat (first | exact .cons .here .nil | exact Zp | exact Q6 | apply ZC | apply Zz)) (zny hO kB _) ?_))))));rintro a4 I2 L2 P ⟨rfl,rfl,Q⟩;have y:=y.trans P;refine zN<|zR ?_;refine zM<|zA (zN (Qq ?_))
 exact Zc U U (fun w hw=>by obtain ⟨I9,N,O,a,c,e9,u⟩:=OwnS.freeze' Q QL kC (hw.subL (by exact Q3));have V:=u.len;rw [<-V] at e9 u;exact ⟨_,I9,[],U,y.trans N,O,U,a,c,_,a0,e9,u⟩)
variable{C ea1 ea2 ea3:Option Addr}{u s:List Int}{z:List Em}
theorem zcl {n2 c2:Nat}(Q:SlN I C n2 c2 rows)(i2:n2<=100000){p ec1:Nat}{q ec2:Nat}{d ec3:Nat}(f0:Sl I 1 QF ea1 p ec1 u)(f1:Sl I 3 Yv ea2 q ec2 z)(N:Sl I 1 QF ea3 d ec3 s)(f8:p<=100000)(f9:q<=100000)(i0:d<=100000)(O:Int)(e3:JZ I):kg 11 [.slice C n2 c2,.agg (ZI O ea1 p ec1 ea2 q ec2 ea3 d ec3).toArray] I [] (fun v P L=>zGq (K8 rows O u z s) (zwx (K8 rows O u z s) rows s) v P L):=by
 intro g H w hw;refine qe Tryz.func11 Tryz.ntmps11 hw ?_;have a1:=zJH I;have e8:=Q.len;refine zR<|QU U U U (fun K=>zA<|zA (zN (Qk (zR ?_))))
 refine zM<|zV (Qo U ZG (fun hg=>by exact Cells.g0) U)<|qcV (vs:=[_,_]) U zuh (zme Q i2 f0 f1 N f8 f9 i0 O e3) ?_
 refine zA<|zN (zR ?_)
 refine zM<|zC (zN ?_)
 refine zI ?_ ?_<;>intro a7
 ·have V:K8 rows O u z s≠0:=(by simpa using a7);refine zR (zM<|zA<|zA (zN (Qq (Qb ?_))))
  first
  | exact QY U U U (fun w hw=>⟨_,I,[],U,a1,hw.drop,U,_,_,_,U,by rw [zmz V];exact zib.nil⟩)
 have V:K8 rows O u z s=0:=(by simpa using a7);obtain ⟨i1,i4⟩:=zgb V;obtain ⟨k8,l0,j0,d3⟩:=Js (Kb (zmC i1));have j1:s.length=(rows.getD 0 []).length:=(by rw [i4];exact XP);have i9:=N.len;have b4:∀ k,k<s.length->∀ r∈rows,0<=r.getD k 0:=fun k hk r hr=>(by have h1:=d3 r hr;have h2:k<r.length:=kB;rw [QJ (jf h2)];exact (h1.2 _ (O8 h2)).1);refine Qm (Qa (Qk (zR<|zF Ye ?_)));refine zL QA<|zQ Qt ?_
 refine zM<|zN<|Ql ?_;refine zU [(0,_),(21,_),(22,_)] (fun T L0 mz E P n=>∃ (k:Nat) (v4:Value) (os:List Eh) (us:List En) (Lo:Go.Kn.Loc),mz=d-k/\E=(4,v4)::(23,.int .i64 k)::T/\HLe I P/\Lo++[(K,.cells (ZI O ea1 p ec1 ea2 q ec2 ea3 d ec3).toArray 26 (0,0))]=n/\k<=d/\OwnS 74 3 v4 os.length (os.flatMap zbV) Lo/\zee P os us/\us=zjF rows s k/\os.length<=k) ?_ (h:=⟨0,_,[],[],[],U,U,zJH _,U,jd _,OwnS.nil,zbv.nil,U,jn _⟩);rintro mz E J1 n ⟨k,v4,os,us,Lo,rfl,rfl,hJ,rfl,hk,hO,y,c0,j8⟩;have Q:=Q.mono hJ;have N:=N.mono hJ;have a1:=a1.trans hJ;have D:=hJ;refine zR<|zC<|zN<|Qk ?_;refine zI ?_ ?_<;>intro a8
 ·have f7:k<d:=kd a8;have f4:s[k]? =some (s.getD k 0):=QE U kB;have b4:=b4 k kB;refine Qm (Qa (Qk (Ql (zR (zM<|zV (zX Qt N)<|zV (Qc U Qr (fun hg=>by exact zJA (k:=k) N f4 U))<|zA<|zA<|zN (zR<|Yb U U (fun G=>zA (zN (Qk (zR ?_))))))))));refine zM ?_;refine zQ QM ?_;refine zM<|zN<|Ql ?_;refine zU [(0,_),(4,_),(6,_),(7,_),(8,_),(21,_),(22,_),(23,_),(29,_),(30,_)] (fun T L0 mz E P n=>∃ (i:Nat) (m:List (Int×Tri)) (Ls:Go.Kn.Loc),mz=n2-i/\E=(31,.int .i64 i)::T/\J1=P/\(G,Yg (Value.int .i64) zaO m)::(Ls++(Lo++[(K,.cells (ZI O ea1 p ec1 ea2 q ec2 ea3 d ec3).toArray 26 (0,0))]))=n/\i<=n2/\zkT rows k m i/\Z6 3 1 (m.map (·.2)) Ls) ?_ (h:=⟨0,[],[],U,U,U,U,jd _,zkT.start,Z6.nil⟩);rintro mz E P n ⟨i,m,Ls,rfl,rfl,rfl,rfl,hi,t,a6⟩;refine zR<|zC<|zN<|Qk ?_;refine zI ?_ ?_<;>intro a9
  ·have b7:i<n2:=kd a9;obtain ⟨hs,d0⟩:=id Q;have c7:=d0.1;obtain ⟨hx,rx,f5,d5,hQ⟩:=d0.at b7;have k7:=(d3 rx (je d5)).1;have j5:=hQ.len;have d2:rx[k]? =some (rx.getD k 0):=QE U kB;refine Qm (Qa (Qk (Ql (zR (zM<|zV (zX QM c7)<|zV (Qc U QA (fun hg=>by exact zJA c7 f5 U))<|zA<|zA (zN ?_))))));obtain ⟨A,Lt,B,e5,c9,d6⟩:=a6.at (rx.getD k 0);subst e5;rw [js A,js Lt];have k6:=t.le c9;have J:=zJH J1;refine VR<|ZM J1 [] mixed<|zT 0 U (Qd U) J<|zT 1 U (Qd U) J<|zT 2 U (Qd U) J<|zT 3 U (zX Qt hQ) J<|zT 4 U (Qc U Qr (fun hg=>by exact zJA (k:=k) hQ d2 U)) J<|zT 5 U (Qd U) J<|zT 6 U (Qd U) J<|zT 7 U (Qd U) J<|zT 8 U (zX Qt hQ) J<|zT 9 U (Qc U Qr (fun hg=>by exact zJA (k:=k) hQ d2 U)) J ?_
   refine zT 11 U (Qd U) J ?_;refine Zv 10 12 U U kA ?_ ?_
   focus
    refine zV (JT (m:=m) (ek:=Value.int .i64) (a:=(rx.getD k 0)) Jf ZZ U U (fun _=>.inr kJ))<|Qe<|zD J<|qd 12 U<|zpb [(0,_)] [QF (i:Int)] QS (fun c4=>?_)
   rotate_left
   refine zpb [(0,_)] [QF (i:Int)] QS (fun c4=>Qe<|zD J<|qd 10 U<|zV (JT (m:=m) (ek:=Value.int .i64) (a:=(rx.getD k 0)) Jf ZZ U U (fun _=>.inr kJ)) ?_)
   all_goals
    refine Qe<|zD J<|qd 13 U<|zpa (_) ([(i:Int)].flatMap QF) (Lt) U U QS c9 ⟨U,fun _=>U,by repeat (first | exact zJF | apply zJE | apply zJG)⟩ (YJ _) ?_
    intro v9 L9 F _;refine Qe<|zD J<|qd 14 U<|Zd (m:=m) (ek:=Value.int .i64) (ev:=zaO) (a:=(rx.getD k 0)) (v9,((ZR m (rx.getD k 0)).getD Kj).2.1+1,((ZR m (rx.getD k 0)).getD Kj).2.2++[(i:Int)].flatMap QF) Jf ZZ U U U U (by repeat (first | exact Upd.here | apply Upd.there | apply QN))<|Qe<|zD J<|QH kA<|QP<|Qg (Qa (Qh (zB<|zM (Qe ?_))))
    exact Vx _ _ (L9++((G,_)::(A++(B++(Lo++[(K,.cells (ZI O ea1 p ec1 ea2 q ec2 ea3 d ec3).toArray 26 (0,0))]))))) ⟨n2-(i+1),kB,i+1,_,A++(L9++B),U,U,U,U,kB,t.put d5,d6 (v9,_,_) L9 F⟩ kc zvU kH
  have f2:n2<=i:=kd a9;refine Qy<|Qf<|Qf<|Qj<|Qa<|Qk<|Qk ?_;have t:zkT rows k m rows.length:=(by rw [e8,show n2=i by omega];exact t);refine zfU (L:=(G,Yg (Value.int .i64) zaO m)::Ls) (R:=(Lo++[(K,.cells (ZI O ea1 p ec1 ea2 q ec2 ea3 d ec3).toArray 26 (0,0))])) (Q6 (A:=(G,Yg (Value.int .i64) zaO m)::Ls) (B:=(Lo++[(K,.cells (ZI O ea1 p ec1 ea2 q ec2 ea3 d ec3).toArray 26 (0,0))]))) (fun I3 c8 c6=>?_);have y:=y.mono c8;have D:=D.trans c8;have M:=c6 G _ (.head _);have a3:=fun c=>t.sl a6 (fun b o hb=>c6 b o (.tail _ hb)) c;obtain ⟨al,j4,i5,j6⟩:=a3 (s.getD k 0);have j9:=zfm (rows:=rows) (k:=k) (c:=(s.getD k 0));refine Qh (zM<|zM<|zV (Vs (m:=m) (ek:=Value.int .i64) (a:=(s.getD k 0)) i5 Jf ZZ U U (fun _=>.inl M))<|zQ Qt ?_);refine zM ?_;refine zQ QM<|zC (zN ?_)
  refine zI ?_ ?_<;>intro b0
  ·have i3:¬(KK rows k (s.getD k 0)).length<rows.length:=(by have h:=b0;rw [jW] at h;omega);refine Qy (Qf (Qj (Qa (Qh (zB<|zM (Qe ?_))))))
   first
   | exact zm (h:=⟨d-(k+1),kB,k+1,_,_,_,_,U,U,D,U,kB,hO,y,by rw [zpV i3];exact c0,kB⟩)
  have d9:(KK rows k (s.getD k 0)).length<rows.length:=(by have h:=b0;rw [OL] at h;omega);refine Qm<|Qa<|zR<|zM ?_;refine zM<|zV (QK (ps:=[(0,_),(1,_)]) [_,_,_] zmn U U)<|Qv zEH U U (fun c3=>?_)
  refine zh zu6<|zN (Qk (zR (zM<|zpc [_] U zwf .nil (zls M (by have:=t.len;rw [ju] at this;omega)) ?_)))
  rintro l4 I4 L4 a0 ⟨rfl,az,cz,l,b9,rfl,a2⟩;have y:=y.mono a0;have D:=D.trans a0;obtain ⟨Z,W⟩:∃ Z,Z=Vf l:=⟨_,U⟩;have d7:Z.map (fun c=>(⟨c,KK rows k c⟩:Vt))=zlC rows k:=(by rw [W];exact zrp t b4 b9);have i6:∀ c∈Z,∃ r∈rows,r.getD k 0=c:=fun c hc=>(by rw [W,((Uf l).trans b9).mem_iff,t.key c,Al] at hc;exact hc);have l1:Z.length<=rows.length:=(by rw [W,((Uf l).trans b9).length_eq];exact t.len);rw [<-W];rw [<-W] at a2;have M:=a0 _ _ M;have a3:∀ c,∃ av cc,((ZR m c).getD Kj).1= .slice av (KK rows k c).length cc/\Sl I4 1 QF av (KK rows k c).length cc (KK rows k c):=fun c=>(by obtain ⟨a,b,h1,h2⟩:=a3 c;exact ⟨a,b,h1,h2.mono a0⟩);refine zQ Qt ?_;refine zM<|zN<|Ql ?_;refine zU [(0,_),(4,_),(8,_),(11,_),(21,_),(22,_),(23,_),(62,_),(63,_)] (fun T L0 mz E P n=>∃ (j:Nat) (v5:Value) (Y:List Vh) (u5:List Vt) (L5:Go.Kn.Loc),mz=Z.length-j/\E=(64,.int .i64 j)::T/\I4=P/\L5++((c3,.cells #[.int .i64 k,.int .i64 (s.getD k 0),v5] 74 (0,0))::(Lo++[(K,.cells (ZI O ea1 p ec1 ea2 q ec2 ea3 d ec3).toArray 26 (0,0))]))=n/\j<=Z.length/\OwnS 77 2 v5 Y.length (Y.flatMap za8) L5/\zd0 P Y u5/\u5=(Z.take j).map (fun c=>(⟨c,KK rows k c⟩:Vt))/\Y.length<=j) ?_ (h:=⟨0,_,[],[],[],U,U,U,U,jd _,OwnS.nil,zbv.nil,U,jn _⟩);rintro mz E P n ⟨j,v5,Y,u5,L5,rfl,rfl,rfl,rfl,hj,b3,d4,c1,j7⟩;obtain ⟨a4,a5,rfl⟩:=zaV b3;refine zR<|zC<|zN<|Qk ?_;refine zI ?_ ?_<;>intro b1
  ·have b8:j<Z.length:=kd b1;obtain ⟨c,b5⟩:=a2.at b8;refine Qm (Qa (Qk (Ql (zR<|zV (zX Qt a2)<|zV (Qc U Qr (fun hg=>by exact zJA a2 b5 U))<|zA (zN (Qk ?_))))));obtain ⟨ac,cc,d8,e7⟩:=a3 c;have k0:=zy5 (i6 c (je b5));refine Qh (zM<|zM<|zV (Vs (m:=m) (ek:=Value.int .i64) (a:=c) d8 Jf ZZ U U (fun _=>.inl M))<|zQ Qt<|zC (zN ?_));refine zI ?_ ?_<;>intro d1
   ·refine Qh<|zF zby ?_
    refine zV (Qc U zn1 (fun hg=>by (repeat (first | exact zJC U | apply zJB | apply zJD))))<|zM ?_
    refine zM ?_;refine zM<|zV (Vs (m:=m) (ek:=Value.int .i64) (a:=c) d8 Jf ZZ U U (fun _=>.inl M))<|zV (QK (ps:=[(0,_),(1,_)]) [_,_] zky U U)<|zpb [(0,_)] [za8 (⟨c,⟨ac,(KK rows k c).length,cc⟩⟩:Vh)] zdo (fun i7=>?_)
    refine zpa (_) ([(⟨c,⟨ac,(KK rows k c).length,cc⟩⟩:Vh)].flatMap za8) (L5) U U zdo b3 ⟨U,fun _=>U,by repeat (first | exact zJF | apply zJE | apply zJG)⟩ (zCG _) ?_;intro v9 L9 F _;obtain ⟨l2,l3,rfl⟩:=zaV F;rw [<-jh] at F;refine zF zby ?_;refine zS zuq ?_;refine Qe (Qg (Qa (Qh (zB<|zM (Qe ?_)))));exact zm (h:=⟨Z.length-(j+1),kB,j+1,_,Y++[(⟨c,⟨ac,(KK rows k c).length,cc⟩⟩:Vh)],u5++[⟨c,KK rows k c⟩],L9,U,U,U,U,kB,by rw [jj,jv];exact F,d4.snoc (v:=⟨c,KK rows k c⟩) ⟨U,e7⟩,by rw [jz,b5,Od,<-c1];rfl,by rw [jj,jv];omega⟩)
   exfalso;have h:=d1;simp only [jR] at h;omega
  have b6:Z.length<=j:=kd b1;rw [jr b6,d7] at c1;refine Qy (Qf (Qf (Qj (Qa<|zx4 b3 zcc (fun I6 b2 j2 j3 e0 e4=>?_)))));cases e0;have y:=y.mono b2;have D:=D.trans b2;have e6:SlV I6 a4 Y.length a5 (zlC rows k):=⟨Y,e4,by rw [<-c1];exact d4.mono b2⟩;refine Qh (zM<|zV (Qo U zuB (fun hg=>by exact Cells.g0) U)<|zpb [(0,_)] [zbV (⟨(k:Int),(s.getD k 0),⟨a4,Y.length,a5⟩⟩:Eh)] zdd (fun i8=>?_));refine zpa (_) ([(⟨(k:Int),(s.getD k 0),⟨a4,Y.length,a5⟩⟩:Eh)].flatMap zbV) (Lo) U U zdd hO ⟨U,fun _=>U,by repeat (first | exact zJF | apply zJE | apply zJG)⟩ (zuV _) ?_;intro v9 L9 F _;rw [<-jh] at F;refine zA (Qe (Qg (Qa (Qh<|zB<|zM (Qe ?_)))))
  first
  | exact zm (h:=⟨d-(k+1),kB,k+1,_,os++[(⟨(k:Int),(s.getD k 0),⟨a4,Y.length,a5⟩⟩:Eh)],us++[(⟨(k:Int),(s.getD k 0),zlC rows k⟩:En)],L9,U,U,D,U,kB,by rw [jj,jv];exact F,y.snoc (v:=(⟨(k:Int),(s.getD k 0),zlC rows k⟩:En)) ⟨U,U,e6⟩,by rw [zjs d9,c0],by rw [jj,jv];omega⟩)
 have f3:d<=k:=kd a8;have f6:k=s.length:=kB;subst f6;refine Qy (Qf (Qf (Qj (Qa (zR (zM<|zA<|zA (zN (Qq ?_))))))))
 first
 | exact QY U U U (fun w hw=>by obtain ⟨I9,c5,e1,a,c,e9,e2⟩:=OwnS.freeze' hO zbK kC (hw.subL (by exact Q3));exact ⟨_,I9,[],U,a1.trans c5,e1,U,a,_,c,by rw [e9,V],os,e2,by rw [zeq V,<-c0];exact y.mono c5⟩)
end
end Go.Proofs.YtodakphagkommaaGreatDoor
namespace Go.Proofs.YtodakphagkommaaGreatDoor.R
section
open Go Go.Kn Go.Proofs
def zkZ (x:Sg)(f:Int):Sg:=Jk Yc f x
def rqF (i:List Pt)(y:Sg)(k:Nat):List Pt:=(i.take k).filter fun q=>Wb q.nw y
variable{i:List Pt}{y:Sg}
theorem zJl :((rqF i y 0).map (·.id)).flatMap QF=[]:=by unfold rqF;rw [AB];rfl
variable{k:Nat}{p:Pt}
theorem zua (a:i[k]? =some p)(h:Wb p.nw y=true):(rqF i y (k+1)).map (·.id)=(rqF i y k).map (·.id)++[p.id]:=by unfold rqF;rw [Wc a h,Od];rfl
theorem zHZ (a:i[k]? =some p)(h:Wb p.nw y=false):(rqF i y (k+1)).map (·.id)=(rqF i y k).map (·.id):=by unfold rqF;rw [za1 a h]
variable{n:Nat}
theorem zEU (b:i.length=n)(a:n<=k):(rqF i y k).map (·.id)=(i.filter fun q=>Wb q.nw y).map (·.id):=by unfold rqF;rw [jr kB]
def zh3 (rows:List (List Int))(u:List Em)(A:List Int)(l:List Pt)(x:Sg)(f:Int):Og:=
 if 0<(JF (onF l) l x.id f).length then ⟨3,0,[],((JF (onF l) l x.id f).filter fun q=>Wb q.nw (zkZ x f)).map (·.id)⟩
 else match l.find? (inP x.id) with
  | some q=>⟨3,0,[],[q.id]⟩
  | none=>zqP rows u x.id.toNat (A.getD x.id.toNat 0) f
variable{rows:List (List Int)}{u:List Em}{A:List Int}{l:List Pt}{x:Sg}{f:Int}
theorem zrP (h:0<(JF (onF l) l x.id f).length):zh3 rows u A l x f=⟨3,0,[],((JF (onF l) l x.id f).filter fun q=>Wb q.nw (zkZ x f)).map (·.id)⟩:=jb h
theorem zA5 (h:¬0<(JF (onF l) l x.id f).length)(a:(l.take k).any (inP x.id)=false)(d:l[k]? =some p)(g:inP x.id p=true):zh3 rows u A l x f=⟨3,0,[],[p.id]⟩:=by
 have h2:=zcx a d g;unfold or2 at h2;unfold zh3;rw [ja h]
 cases b:l.find? (inP x.id) with
 | none=>rw [b] at h2;cases h2
 | some q=>rw [b] at h2;simp only [AO] at h2;exact h2.1
variable{q:Nat}
theorem zys (h:¬0<(JF (onF l) l x.id f).length)(a:l.any (inP x.id)=false)(b:x.id=(q:Int)):zh3 rows u A l x f=zqP rows u q (A.getD q 0) f:=by unfold zh3;rw [ja h,OR.2 (by rw [jL] at a;exact a),b];rfl
def zJq (e:Int)(s:List Sg)(l:List Pt)(v:Value)(I:Qu)(L:Go.Kn.Loc):Prop:=L=[]/\∃ a n c b m d,v= .tuple #[.slice a n c,.slice b m d,.int .i64 e]/\(e=0->Sl I 14 YA a n c s/\SlP I b m d l)
variable{J:List Pt}{K:List Sg}{B:List Int}
theorem zBu (h:za3 J K B=0):KM J K B=0:=by
 unfold za3 at h;split at h
 ·exact absurd h kE
 ·rename_i h1;simpa using h1
def zGk (rows:List (List Int))(u:List Em)(A:List Int)(l:List Pt)(s:List Sg)(sign f:Int):Og:=zh3 rows u A l (s.getD (KA (fun x:Sg=>x.id==sign) s).toNat Yc) f
def trK (C:Sg->Int->Og)(s:List Sg)(k:Nat):List (Int×Int):=(s.take k).flatMap fun x=>tcJ (fun _ f=>C x f) x.id 9
variable{C:Sg->Int->Og}{s:List Sg}
theorem ztw (a:s[k]? =some x):trK C s (k+1)=trK C s k++tcJ (fun _ f=>C x f) x.id 9:=by unfold trK;rw [jz,a,jh];simp
theorem zAl (b:s.length=n)(a:n<=k):trK C s k=s.flatMap fun x=>tcJ (fun _ f=>C x f) x.id 9:=by unfold trK;rw [jr kB]
def trF (e:Int)(C:Sg->Int->Og)(s:List Sg):List (Int×Int):=if e≠0 then [] else s.flatMap fun x=>tcJ (fun _ f=>C x f) x.id 9
variable{c:Bool}
theorem zuw {a:Int}(h:((decide (f<1)||decide (f>9))||decide (KA (fun x:Sg=>x.id==a) s<0))=c):((decide (f<1)||decide (f>9))|| !(s.any fun x=>x.id==a))=c:=by rw [<-znO];exact h
theorem zuB:km 74 3:=.of kA
theorem zwf:ke 31:=.of Tryz.func31 kA kA
theorem zEa:ke 80:=.of Tryz.func80 kA kA
theorem zCb:ke 81:=.of Tryz.func81 kA kA
theorem zuq:ki 72 1:=.of kA
theorem zu6:ki 74 3:=.of kA
theorem zEH:kj 74 (.agg #[(.int .i64 0),(.int .i64 0),(.slice none 0 0)]):=.of kA
theorem zHC (I:Qu)(x:Sg)(f:Int):kf 80 [VD x,.int .i64 f] I (VD (zkZ x f)):=by
 intro g H w b;refine qe Tryz.func80 Tryz.ntmps80 b ?_;refine zR<|QU U U U (fun W=>Qv Kc U U (fun Y=>zN (zR<|zV (QK (ps:=[]) [_,_,_,_,_,_,_,_,_,_,_,_,_,_] JI U U)<|Qv Kc U U (fun Z=>?_))))
 refine zh Zy<|zN (Qk (zR (zM (zN (Ql (zR<|zC<|zA (zN ?_)))))))
 refine zI ?_ ?_<;>intro E
 ·have a:f=1:=(by simpa using E);subst a;refine Qh<|zF Vm ?_
  refine zL Qr<|zF Vm ?_
  refine zS ZO ?_;refine Qe<|Qg<|Qa<|zR ?_;refine zV (Qo U QQ (fun hg=>by exact Cells.g0) U) ?_;refine zh Zy ?_;refine zN<|Qq ?_;exact ZD U U QQ Cells.g1 U (fun w b=>⟨U,b.drop⟩)
 have F:f≠1:=(by simpa using E);refine zR (zC<|zA (zN ?_));refine zI ?_ ?_<;>intro d
 ·have a:f=2:=(by simpa using d);subst a;refine Qh<|zF Vn ?_
  refine zL Qr<|zF Vn ?_
  refine zS ZO ?_;refine Qe<|Qg<|Qa<|zR ?_;refine zV (Qo U QQ (fun hg=>by exact Cells.g0) U) ?_;exact zh Zy<|zN (Qq<|ZD U U QQ Cells.g1 U (fun w b=>⟨U,b.drop⟩))
 have G:f≠2:=(by simpa using d);refine zR (zC<|zA (zN ?_));refine zI ?_ ?_<;>intro h
 ·have a:f=3:=(by simpa using h);subst a;refine Qh<|zF YP ?_
  refine zL Qr<|zF YP ?_
  refine zS ZO ?_;refine Qe<|Qg<|Qa<|zR ?_;refine zV (Qo U QQ (fun hg=>by exact Cells.g0) U) ?_;exact zh Zy<|zN (Qq<|ZD U U QQ Cells.g1 U (fun w b=>⟨U,b.drop⟩))
 have M:f≠3:=(by simpa using h);refine zR (zC<|zA (zN ?_));refine zI ?_ ?_<;>intro j
 ·have a:f=4:=(by simpa using j);subst a;refine Qh<|zF Vr ?_
  refine zL Qr<|zF Vr ?_
  refine zS ZO ?_;refine Qe<|Qg<|Qa<|zR ?_;refine zV (Qo U QQ (fun hg=>by exact Cells.g0) U) ?_;exact zh Zy<|zN (Qq<|ZD U U QQ Cells.g1 U (fun w b=>⟨U,b.drop⟩))
 have N:f≠4:=(by simpa using j);refine zR (zC<|zA (zN ?_));refine zI ?_ ?_<;>intro o
 ·have a:f=5:=(by simpa using o);subst a;refine Qh<|zF Vq ?_
  refine zL Qr<|zF Vq ?_
  refine zS ZO ?_;refine Qe<|Qg<|Qa<|zR ?_;refine zV (Qo U QQ (fun hg=>by exact Cells.g0) U) ?_;exact zh Zy<|zN (Qq<|ZD U U QQ Cells.g1 U (fun w b=>⟨U,b.drop⟩))
 have O:f≠5:=(by simpa using o);refine zR (zC<|zA (zN ?_));refine zI ?_ ?_<;>intro r
 ·have a:f=6:=(by simpa using r);subst a;refine Qh<|zF Vj ?_
  refine zL Qr<|zF Vj ?_
  refine zS ZO ?_;refine Qe<|Qg<|Qa<|zR ?_;refine zV (Qo U QQ (fun hg=>by exact Cells.g0) U) ?_;exact zh Zy<|zN (Qq<|ZD U U QQ Cells.g1 U (fun w b=>⟨U,b.drop⟩))
 have P:f≠6:=(by simpa using r);refine zR (zC<|zA (zN ?_));refine zI ?_ ?_<;>intro t
 ·have a:f=7:=(by simpa using t);subst a;refine Qh<|zF Vo ?_
  refine zL Qr<|zF Vo ?_
  refine zS ZO ?_;refine Qe<|Qg<|Qa<|zR ?_;refine zV (Qo U QQ (fun hg=>by exact Cells.g0) U) ?_;exact zh Zy<|zN (Qq<|ZD U U QQ Cells.g1 U (fun w b=>⟨U,b.drop⟩))
 have Q:f≠7:=(by simpa using t);refine zR (zC<|zA (zN ?_));refine zI ?_ ?_<;>intro z
 ·have a:f=8:=(by simpa using z);subst a;refine Qh<|zF Vl ?_
  refine zL Qr<|zF Vl ?_
  refine zS ZO ?_;refine Qe<|Qg<|Qa<|zR ?_;refine zV (Qo U QQ (fun hg=>by exact Cells.g0) U) ?_;exact zh Zy<|zN (Qq<|ZD U U QQ Cells.g1 U (fun w b=>⟨U,b.drop⟩))
 have T:f≠8:=(by simpa using z);refine zR (zC<|zA (zN ?_));refine zI ?_ ?_<;>intro D
 ·have a:f=9:=(by simpa using D);subst a;refine zR<|zF Yy ?_
  refine zV (Qo U Ys (fun hg=>by exact Cells.s2 (vs:=[_,_]) U) U)<|zF Yy<|YW U U UP U U U U (by repeat (first | exact Upd.here | apply Upd.there | apply QN))<|zN (Qh<|zF Yz ?_)
  refine zV (Qo U Ys (fun hg=>by exact Cells.s2 (vs:=[_,_]) U) U)<|zF Yz<|YW U U UP U U U U (by repeat (first | exact Upd.here | apply Upd.there | apply QN))<|Qe (Qg (Qa (zR ?_)))
  refine zV (Qo U QQ (fun hg=>by exact Cells.g0) U) ?_;exact zh Zy<|zN (Qq<|ZD U U QQ Cells.g1 U (fun w b=>⟨U,b.drop⟩))
 have V:f≠9:=(by simpa using D);refine Qm (Qg (Qa (zR<|zV (Qo U QQ (fun hg=>by exact Cells.g0) U) ?_)));refine zh Zy<|zN (Qq ?_)
 first
 | exact ZD U U QQ Cells.g1 U (fun w b=>⟨by unfold zkZ Jk;rw [ja F,ja G,ja M,ja N,ja O,ja P,ja Q,ja T,ja V];rfl,b.drop⟩)
variable{I:Qu}{M D F G N:Option Addr}{O:List Int}
theorem zFX {n2 c2:Nat}(hV:SlN I M n2 c2 rows)(e5:n2<=100000){a8 b8:Nat}{b0 b9:Nat}{a4 c0:Nat}(a5:Sl I 1 QF D a8 b8 O)(a6:Sl I 3 Yv F b0 b9 u)(a3:Sl I 1 QF G a4 c0 A)(e1:a8<=100000)(e2:b0<=100000)(e3:a4<=100000)(no:Int){ln lc:Nat}(V:SlP I N ln lc l)(d1:ln<=100000)(hL:Lst l)(e6:∀ p∈l,p.n<=100000)(x:Sg)(f:Int)(f0:(or2 l x.id).2=false->∃ q:Nat,x.id=q/\q<a4/\∀ r∈rows,q<r.length):kg 42 [.slice M n2 c2,.agg (ZI no D a8 b8 F b0 b9 G a4 c0).toArray,.slice N ln lc,VD x,.int .i64 f] I [] (OgQ (zh3 rows u A l x f)):=by
 intro g H w hw;refine qe Tryz.func42 Tryz.ntmps42 hw ?_;have P:=zJH I;have b1:=V.len;have f6:=a3.len;refine zR<|QU U U U (fun d4=>QU U U U (fun c8=>Qv US U U (fun c5=>zN (Qk ?_))))
 have a:=zJH I;refine VR<|ZM I [(c8,.cells (YA x).toArray 54 (0,0))] mixed<|zT 0 U (Qd U) a<|zT 1 U (Qd U) a<|zT 3 U (Qi U Zu) a<|zT 4 U (Qc U Qr (fun hg=>by exact QO.h0 U)) a<|zT 5 U (Qd U) a<|qd 2 U<|zpc [_] U zkI .nil (zq5 V d1 hL e6) ?_
 rintro i2 I1 L1 Y ⟨rfl,ao,co,rfl,hM⟩;have hV:=hV.mono Y;have a5:=a5.mono Y;have a6:=a6.mono Y;have a3:=a3.mono Y;have V:=V.mono Y;have P:=P.trans Y;have a:=a.trans Y;have hM:SlM zc1 1 I1 ao ln co (l.map (KZ l)):=hM;refine Qe<|zD a<|qd 6 U<|zpc [_,_,_,_] U zv9 .nil (zEu V d1 hM x.id f) ?_
 rintro i3 I2 L2 Z ⟨rfl,a9,c9,rfl,a2⟩;have hV:=hV.mono Z;have a5:=a5.mono Z;have a6:=a6.mono Z;have a3:=a3.mono Z;have V:=V.mono Z;have P:=P.trans Z;have a:=a.trans Z;obtain ⟨m,hm⟩:∃ m,m=(ixK l (laP l x.id f) ln).length:=⟨_,U⟩;have f8:m<=100000:=(by rw [hm,zcj b1];exact jO (jE ..) kB);have e4:(JF (onF l) l x.id f).length=m:=(by rw [hm,zcj b1,ztb]);rw [<-hm] at a2;rw [<-hm];refine Qe<|zD a<|zT 7 U (ZE U) a<|QH kA<|QP<|Qa (Qk (zR (zM<|zQ Qt<|zC (zN ?_))))
 refine zI ?_ ?_<;>intro b4
 ·have d:0<(JF (onF l) l x.id f).length:=(by have h:=b4;simp only [jG] at h;omega);refine zR<|zV (QK (ps:=[(0,_)]) [_,_,_,_] KU U U)<|Qv US U U (fun c6=>?_)
  refine zh YO<|zN (Qk (zR (zA (zN (Ql<|zU [(2,_),(4,_),(8,_),(10,_),(11,_),(12,_)] (fun T L0 mz E I' W=>∃ (k:Nat) (v:Value) (q:Nat) (L:Go.Kn.Loc),mz=m-k/\E=(13,.int .i64 k)::T/\I2=I'/\L++[(c6,.cells #[.int .i64 3,.int .i64 0,.slice none 0 0,v] 38 (0,0)),(c5,.cells #[.int .i64 0,.int .i64 0,.slice none 0 0,.slice none 0 0] 38 (0,0)),(c8,.cells (YA x).toArray 54 (0,0)),(d4,.cells (ZI no D a8 b8 F b0 b9 G a4 c0).toArray 26 (0,0))]=W/\k<=m/\OwnS 3 1 v q (((rqF (JF (onF l) l x.id f) (zkZ x f) k).map (·.id)).flatMap QF) L/\q<=k) ?_ (h:=⟨0,_,0,[],U,U,U,U,jd _,by rw [zJl];exact OwnS.nil,jn _⟩))))))
  rintro mz E I' W ⟨k,v,q,L,rfl,rfl,rfl,rfl,hk,hO,hq⟩;obtain ⟨f4,f5,rfl⟩:=zaV hO;refine Qk (zR (zM<|zM ?_));refine zQ Qt<|zC (zN ?_)
  refine zI ?_ ?_<;>intro b5
  ·have a1:k<m:=kd b5;obtain ⟨y,c4⟩:=a2.at a1;obtain ⟨z,p,rfl,f9,d2,c3⟩:=zzg b1 c4;rw [<-ztb] at c3;refine Qm (Qa (Qk (Ql (Qk<|ZW mixed kA<|zq (Qd U)<|zq (Qd U)<|zq (Qd U) ?_))));refine zq (zX Qt a2) ?_;refine zq (Qc U Qr (fun hg=>by exact zJA a2 c4 U))<|zq (Qs U U QV V.1 (fun hg=>kB))<|zq (Qi U Yr)<|zq (Qo U QQ (fun hg=>by exact Sl.seg (vs:=YA p.nw) (o:=4) V.1 d2 U) U)<|zq (Qo U QQ (fun hg=>by (repeat (first | exact zJF | apply zJE | apply zJG))) U)<|zq (Qd U)<|YG (cap:=[]) (vs:=[_,_]) U U zEa (zHC _ _ _) U U<|zq (Xa U U Um U)<|ZX<|Qa ?_
   refine zI ?_ ?_<;>intro b6
   ·have a7:Wb p.nw (zkZ x f)=true:=b6;have a:=zJH I2;refine VR<|ZM I2 [] mixed<|zT 0 U (Qi U UA) a<|zT 2 U (Qd U) a<|zT 3 U (Qd U) a<|zT 4 U (Qd U) a<|zT 5 U (zX Qt a2) a<|zT 6 U (Qc U Qr (fun hg=>by exact zJA a2 c4 U)) a<|zT 7 U (Qs U U QV V.1 (fun hg=>kB)) a<|zT 8 U (Qi U Zq) a<|zT 9 U (Qc U Qr (fun hg=>by exact zJA V.1 d2 U)) a ?_
    refine Zv 1 10 U U kA ?_ ?_
    focus
     refine zV (Qc U QA (fun hg=>by (repeat (first | exact zJC U | apply zJB | apply zJD))))<|Qe<|zD a<|qd 10 U<|zpb [(0,_)] [QF p.id] QS (fun c7=>?_)
    rotate_left
    refine zpb [(0,_)] [QF p.id] QS (fun c7=>Qe<|zD a<|qd 1 U<|zV (Qc U QA (fun hg=>by (repeat (first | exact zJC U | apply zJB | apply zJD)))) ?_)
    all_goals
     refine Qe<|zD a<|qd 11 U<|zpa (_) ([p.id].flatMap QF) (L) U U QS hO ⟨U,fun _=>U,by repeat (first | exact zJF | apply zJE | apply zJG)⟩ (YJ _) ?_
     intro v9 L9 c1 _;obtain ⟨i0,i1,rfl⟩:=zaV c1;rw [<-jh] at c1;refine Qe<|zD a<|zT 12 U (Qi U UA) a<|qd 13 U ?_
     refine zS Ze ?_;refine Qe<|zD a<|QH kA<|QP ?_
     refine Qg<|Qa<|Qh<|zM ?_;refine zB<|zA (Qe ?_)
     first
     | exact zm (h:=⟨m-(k+1),kB,k+1,_,_,_,U,U,U,U,kB,by rw [zua c3 a7];exact c1,kB⟩)
   have a7:Wb p.nw (zkZ x f)=false:=b6;refine Qm<|Qg<|Qa<|Qh<|zM ?_;refine zB<|zA (Qe ?_)
   first
   | exact zm (h:=⟨m-(k+1),kB,k+1,_,_,_,U,U,U,U,kB,by rw [zHZ c3 a7];exact hO,kB⟩)
  have a0:m<=k:=kd b5;have f1:=zEU (y:=zkZ x f) e4 a0;refine Qy (Qf (Qf (Qj (Qa (zR<|zV (Qo U Yt (fun hg=>by (repeat (first | exact zJF | apply zJE | apply zJG))) U) ?_)))));refine zh YO<|zN (Qq (Qb ?_))
  first
  | exact ZD U U Yt (vs:=[.int .i64 3,.int .i64 0,.slice none 0 0,.slice f4 q f5]) kG U (fun w hw=>by obtain ⟨I9,f7,c9,d5,d6,e9,d0⟩:=OwnS.freeze (R:=[_,_,_,_]) hO QL kC hw;cases e9;exact ⟨_,I9,[],U,P.trans d5,d6.drop,U,none,0,0,_,_,_,by rw [zrP d],by rw [zrP d];exact .nil,by rw [zrP d];rw [f1] at d0;exact d0⟩)
 have d:¬0<(JF (onF l) l x.id f).length:=(by have h:=b4;simp only [jR] at h;omega);refine Qm (Qa (Qk (zR (zA (zN (Ql<|zU [(0,_),(2,_),(4,_),(6,_),(8,_),(10,_)] (fun T L0 mz E I' W=>∃ (k:Nat),mz=ln-k/\E=(14,.int .i64 k)::T/\I2=I'/\L0=W/\k<=ln/\(l.take k).any (inP x.id)=false) ?_ (h:=⟨0,U,U,U,U,jd _,U⟩)))))));rintro mz E I' W ⟨k,rfl,rfl,rfl,rfl,hk,Q⟩;refine Qk (zR (zM<|zM ?_));refine zQ QV<|zC (zN ?_)
 refine zI ?_ ?_<;>intro b7
 ·have a1:k<ln:=kd b7;obtain ⟨p,hp,hN⟩:=V.at a1;refine Qm (Qa (Qk (Ql (Qk<|ZW mixed kA<|zq (Qd U)<|zq (Qd U)<|zq (Qs U U QV V.1 (fun hg=>kB))<|zq (Qi U Yn)<|zq (Qc U Qr (fun hg=>by exact zJJ (j:=1) V.1 hp U))<|zq (Qx U U U)<|zq (Qd U)<|Yd 6 U U U<|zk (Qd U)<|zk (Qd U) ?_))));refine zk (Qs U U QV V.1 (fun hg=>kB))<|zk (Qi U ZB)<|zk (Qc U Qr (fun hg=>by exact zJJ (j:=2) V.1 hp U))<|zk (Qi U Zu)<|zk (Qc U Qr (fun hg=>by exact QO.h1 U))<|zk (Qx U U U)<|JM U U U U U<|ZX<|Qa ?_
  refine zI ?_ ?_<;>intro b
  ·have b:inP x.id p=true:=b;refine zR<|zM ?_;refine zM ?_;refine zV (Qs U U QV V.1 (fun hg=>kB))<|zF Zq ?_
   refine zV (Qc U Qr (fun hg=>by exact zJA V.1 hp U))<|zpb [(0,_)] [QF p.id] QS (fun b3=>zV (QK (ps:=[(0,_),(3,_)]) [_,_,_,_] KU U U)<|zh YO<|zN (Qq (Qn (Qb (Qb (Qn (Qb ?_)))))))
   first
   | exact ZD U U Yt (vs:=[.int .i64 3,.int .i64 0,.slice none 0 0,.slice (some ⟨b3,0,none⟩) 1 1]) kG U (fun w hw=>by obtain ⟨I9,d7,d8,d9⟩:=hw.freezeAll;exact ⟨_,I9,[],U,P.trans d7,d8,U,none,0,0,_,_,_,by rw [zA5 d Q hp b],by rw [zA5 d Q hp b];exact .nil,by rw [zA5 d Q hp b];exact Sl.lit (t:=3) [_] U QL (d9 b3 _ (by simp [QF]))⟩)
  have b:inP x.id p=false:=b;refine Qm<|Qg<|Qa<|Qh<|zM ?_;exact zB<|zA (Qe<|zm (h:=⟨ln-(k+1),kB,k+1,U,U,U,U,kB,Z3 hp Q b⟩))
 have a0:ln<=k:=kd b7;rw [QZ b1 a0] at Q;refine Qy<|Qf<|Qf<|Qj<|Qa<|Qk ?_;obtain ⟨q,b2,e7,e8⟩:=f0 (by rw [zf6 Q]);have d3:=zHM hV e5 q e8 a5 a6 a3 e1 e2 e3 no e7 f;rw [<-b2] at d3;refine Qh (zM<|zV (Qo U ZG (fun hg=>by exact Cells.g2) U)<|zF Zu ?_);refine zL Qr<|zM<|zpc [_,_,_,_] U zCb .nil (d3) ?_
 rintro i4 I5 L5 e0 ⟨rfl,pa,pn,pc,pb,pm,pd,rfl,f2,f3⟩;have P:=P.trans e0;refine zh YO<|zN (Qq ?_)
 first
 | exact ZD U U Yt (vs:=[.int .i64 _,.int .i64 _,.slice pa pn pc,.slice pb pm pd]) kG U (fun w hw=>⟨_,I5,[],U,P,hw.drop,U,_,_,_,_,_,_,by rw [zys d Q b2],by rw [zys d Q b2];exact f2,by rw [zys d Q b2];exact f3⟩)
end
end Go.Proofs.YtodakphagkommaaGreatDoor.R
namespace Go.Proofs.YtodakphagkommaaGreatDoor
section
open Go Go.Kn Go.Proofs
def nzl (l:List Int):List Int:=l.filter fun c=>c != 0
theorem Kh (a b:List Int):nzl (a++b)=nzl a++nzl b:=jH ..
theorem zeZ (n:Nat):nzl (List.replicate n 0)=[]:=by unfold nzl;rw [AD];intro a b;rw [List.eq_of_mem_replicate b];decide
variable{l:List Int}
theorem zmR (h:∀ c∈l,c≠0):nzl l=l:=by unfold nzl;rw [Bg];intro a b;simpa using h a b
theorem KS {d:Type}(f g:d->List Int):∀ (l:List d),(∀ a∈l,nzl (f a)=nzl (g a))->nzl (l.flatMap f)=nzl (l.flatMap g)
 | [],_=>rfl
 | a::l,h=>by
  rw [jV,jV,Kh,Kh,h a (jl ..),KS f g l fun b i=>h b (jm _ i)]
variable{k:Nat}{c:Int}
theorem zHQ (h:l[k]? =some c)(b:c≠0):(nzl l)[nzF l k]? =some c:=by
 have d:=(jc.1 h).1;have e:l=l.take k++c::l.drop (k+1):=by rw [<-ZA h,jT]
 have a:nzl l=nzl (l.take k)++c::nzl (l.drop (k+1)):=by
  conv=>lhs;rw [e]
  rw [Kh];congr 1;unfold nzl;rw [Oc,jb (by simpa using b)]
 rw [a,show nzF l k=(nzl (l.take k)).length from U,Ov (jn _),Br];rfl
def zbP (N:Nat)(cs:List Int)(a:Nat)(t:List (Int×Int))(q:Nat):List Int:=(((KN (a:Int) t).filter fun y=>y.1.toNat==q).map fun y=>cs.getD y.2.toNat 0)++(if q<N then [zcS t cs q] else [])
theorem zbW {a b:List Int}:∀ (f i k:Nat),∀ y∈KN (i:Int) (paF a b f i k),i<=y.1.toNat
 | 0,i,k,y,d=>by cases d
 | f+1,i,k,y,d=>by
  unfold paF at d;split at d
  ·split at d
   ·unfold KN at d;rw [jb kB] at d;have:=zbW f (i+1) (k+1) y d;omega
   ·split at d
    ·unfold KN at d;rw [jb kB] at d;have:=zbW f (i+1) k y d;omega
    ·unfold KN at d;simp only [gt_iff_lt,Int.lt_irrefl,Oa] at d;rcases jo.1 d with rfl | d
     ·simp
     ·exact zbW f i (k+1) y d
  ·cases d
variable{t:List (Int×Int)}{cs:List Int}{q:Nat}
theorem zbo {p:Int×Int}(h:(p.1==(q:Int)+1&&decide (p.2>0))=false):zcS (p::t) cs q=zcS t cs q:=by unfold zcS;rw [OX,h]
theorem zrF {p:Int×Int}(h:(p.1==(q:Int)+1&&decide (p.2>0))=true):zcS (p::t) cs q=cs.getD (p.2-1).toNat 0:=by unfold zcS;rw [OX,h]
theorem zsS (h:∀ p∈t,p.1≠(q:Int)+1):zcS t cs q=0:=by refine zvy ?_;rw [jL];intro p a;simp;intro e;exact absurd e (h p a)
theorem zad {a N:Nat}(h:a<=N):List.range' a (N+1-a)=a::List.range' (a+1) (N+1-(a+1)):=by rw [show N+1-a=(N+1-(a+1))+1 by omega];rfl
theorem zeP {T cs:List Int}(j:∀ c∈cs,c≠0):∀ (f a k:Nat),a<=T.length->k<=cs.length->T.length-a+(cs.length-k)<=f->nzl ((List.range' a (T.length+1-a)).flatMap (zbP T.length cs a (paF T cs f a k)))=cs.drop k
 | 0,a,k,ha,hk,hf=>by
  have x:cs.drop k=[]:=Or kB;rw [x]
  have B:∀ q∈List.range' a (T.length+1-a),nzl (zbP T.length cs a (paF T cs 0 a k) q)=nzl ((fun _=>[]) q):=fun q _=>by
   unfold zbP paF;split<;>rfl
  rw [KS _ (fun _=>[]) _ B];simp [nzl]
 | f+1,a,k,ha,hk,hf=>by
  unfold paF;split
  ·rename_i r;split
   ·rename_i s;have h1:a<T.length/\k<cs.length:=(by unfold UT at s;simp at s;omega);have ih:=zeP (T:=T) j f (a+1) (k+1) kB kB kB;have i:cs[k]? =some (cs.getD k 0):=QE U h1.2;rw [zad ha,jV,Kh]
    have g:∀ q∈List.range' (a+1) (T.length+1-(a+1)),nzl (zbP T.length cs a ((((a+1:Nat):Int),((k+1:Nat):Int))::paF T cs f (a+1) (k+1)) q)=nzl (zbP T.length cs (a+1) (paF T cs f (a+1) (k+1)) q):=fun q w=>by
     have z:=(Bx.1 w).1;unfold zbP;rw [show KN (a:Int) ((((a+1:Nat):Int),((k+1:Nat):Int))::paF T cs f (a+1) (k+1))=KN ((a+1:Nat):Int) (paF T cs f (a+1) (k+1)) from jb (by show ((a+1:Nat):Int)>0;omega)];rw [zbo kK]
    rw [KS _ _ _ g,ih,ZA i]
    have d:nzl (zbP T.length cs a ((((a+1:Nat):Int),((k+1:Nat):Int))::paF T cs f (a+1) (k+1)) a)=[cs.getD k 0]:=by
     unfold zbP;rw [show KN (a:Int) ((((a+1:Nat):Int),((k+1:Nat):Int))::paF T cs f (a+1) (k+1))=KN ((a+1:Nat):Int) (paF T cs f (a+1) (k+1)) from jb (by show ((a+1:Nat):Int)>0;omega)];rw [show (KN ((a+1:Nat):Int) (paF T cs f (a+1) (k+1))).filter (fun y=>y.1.toNat==a)=[] from AD.2 fun y A=>by have:=zbW f (a+1) (k+1) y A;simp;omega];rw [jb h1.1,zrF kJ,show (((((a+1:Nat):Int),((k+1:Nat):Int)):Int×Int).2-1).toNat=k by simp];exact zmR (l:=[cs.getD k 0]) fun c r=>by rw [jM.1 r];exact j _ (je i)
    rw [d];rfl
   ·split
    ·rename_i u;have h1:a<T.length:=(by unfold zfB at u;simp at u;omega);have ih:=zeP (T:=T) j f (a+1) k kB hk kB;rw [zad ha,jV,Kh]
     have g:∀ q∈List.range' (a+1) (T.length+1-(a+1)),nzl (zbP T.length cs a ((((a+1:Nat):Int),(0:Int))::paF T cs f (a+1) k) q)=nzl (zbP T.length cs (a+1) (paF T cs f (a+1) k) q):=fun q w=>by
      unfold zbP;rw [show KN (a:Int) ((((a+1:Nat):Int),(0:Int))::paF T cs f (a+1) k)=KN ((a+1:Nat):Int) (paF T cs f (a+1) k) from jb (by show ((a+1:Nat):Int)>0;omega)];rw [zbo kJ]
     rw [KS _ _ _ g,ih]
     have d:nzl (zbP T.length cs a ((((a+1:Nat):Int),(0:Int))::paF T cs f (a+1) k) a)=[]:=by
      unfold zbP;rw [show KN (a:Int) ((((a+1:Nat):Int),(0:Int))::paF T cs f (a+1) k)=KN ((a+1:Nat):Int) (paF T cs f (a+1) k) from jb (by show ((a+1:Nat):Int)>0;omega)];rw [show (KN ((a+1:Nat):Int) (paF T cs f (a+1) k)).filter (fun y=>y.1.toNat==a)=[] from AD.2 fun y A=>by have:=zbW f (a+1) k y A;simp;omega];rw [jb h1,zbo kJ,zsS fun p C e=>by rcases (zpv (a:=T) (b:=cs) f (a+1) k).1 p C with h | h<;>omega];rfl
     rw [d];rfl
    ·rename_i s u;have h2:k<cs.length:=zg2 ha hk (by simpa using r) (by simpa using s) (by simpa using u);have ih:=zeP (T:=T) j f a (k+1) ha kB kB;have i:cs[k]? =some (cs.getD k 0):=QE U h2;rw [zad ha,jV,Kh] at ih ⊢
     have n:KN (a:Int) (((0:Int),((k+1:Nat):Int))::paF T cs f a (k+1))=((a:Int),(k:Int))::KN (a:Int) (paF T cs f a (k+1)):=by
      show (if (0:Int)>0 then _ else ((a:Int),((k+1:Nat):Int)-1)::KN (a:Int) (paF T cs f a (k+1)))=_;rw [ja kC];congr 2;omega
     have o:∀ q,zcS (((0:Int),((k+1:Nat):Int))::paF T cs f a (k+1)) cs q=zcS (paF T cs f a (k+1)) cs q:=fun q=>zbo kK
     have g:∀ q∈List.range' (a+1) (T.length+1-(a+1)),nzl (zbP T.length cs a (((0:Int),((k+1:Nat):Int))::paF T cs f a (k+1)) q)=nzl (zbP T.length cs a (paF T cs f a (k+1)) q):=fun q w=>by
      have z:=(Bx.1 w).1;unfold zbP;rw [n,o,Oc,ja kK]
     rw [KS _ _ _ g]
     have d:nzl (zbP T.length cs a (((0:Int),((k+1:Nat):Int))::paF T cs f a (k+1)) a)=cs.getD k 0::nzl (zbP T.length cs a (paF T cs f a (k+1)) a):=by
      unfold zbP;rw [n,o,Oc,jb kJ,jF,OE];show nzl (cs.getD ((k:Int)).toNat 0::_)=_;rw [show ((k:Int)).toNat=k from U];unfold nzl;rw [Oc,jb (by simpa using j _ (je i))]
     rw [d,ZA i,OE,ih]
  ·rename_i r;have D:T.length<=a/\cs.length<=k:=(by simp at r;omega);have x:cs.drop k=[]:=Or kB;rw [x]
   have B:∀ q∈List.range' a (T.length+1-a),nzl (zbP T.length cs a [] q)=nzl ((fun _=>[]) q):=fun q _=>by
    unfold zbP;split<;>rfl
   rw [KS _ (fun _=>[]) _ B];simp [nzl]
variable{o:List Wr}{x:Wr}
theorem zh8 (h:WF o=0)(d:x∈o):zlL x.rs:=fun r b=>by
 obtain ⟨_,h1,_⟩:=zzh h d b;cases a:r.lost
 ·exact .inr ⟨U,by unfold Yu;rw [ja (by rw [a];decide)],zsQ (h1 a).1⟩
 ·exact .inl ⟨U,by unfold Yu;rw [jb a]⟩
variable{s:List Rd}{r:Rd}
theorem zoY (h:zlL s)(a:r∈s):(r.lost=true↔Yu r=8589934592)/\(r.lost=false->Vb (Yu r)=0):=by
 rcases h r a with ⟨h1,h2⟩ | ⟨h1,h2,h3⟩
 ·exact ⟨⟨fun _=>h2,fun _=>h1⟩,fun h4=>by rw [h1] at h4;cases h4⟩
 ·obtain ⟨h5,_,_,h8⟩:=zgO h3;exact ⟨⟨(fun h4=>by rw [h1] at h4;cases h4),fun h4=>by rw [h2] at h4;omega⟩,fun _=>by rw [h2];exact h5⟩
theorem zqd (h:zlL s):(s.map Yu).any za0=false:=by
 rw [jL];intro c b;obtain ⟨r,d,rfl⟩:=jt.1 b;obtain ⟨h1,h2⟩:=zoY h d;unfold za0;cases a:r.lost
 ·rw [h2 a];simp
 ·rw [h1.1 a];simp
theorem zsw (T:List Int):((List.range (T.length+1)).flatMap fun k=>if k<T.length then [T.getD k 0] else [])=T:=by
 rw [Ok,jh];have h1:([T.length].flatMap fun k=>if k<T.length then [T.getD k 0] else [])=[]:=(by simp);rw [h1,jw]
 have h2:∀ (l:List Nat),(∀ k∈l,k<T.length)->(l.flatMap fun k=>if k<T.length then [T.getD k 0] else [])=l.map fun k=>T.getD k 0:=fun l f=>by
  induction l with
  | nil=>rfl
  | cons a l ih=>rw [jV,jb (f a (jl ..)),ih fun k b=>f k (jm _ b)];rfl
 rw [h2 _ fun k b=>jq.1 b];refine Ad fun k=>?_;rw [jB];by_cases b:k<T.length
 ·rw [OD b,QE (d:=0) rfl b];rfl
 ·rw [Ol (by simpa using b),Ol (by simpa using b)];rfl
variable{i:Nat}
theorem zB0 (a:WF o=0)(g:o[i]? =some x):nzl (zc0 o i)=x.rs.map Yu:=by
 have E:=(jc.1 g).1;have b:csW o i=x.rs.map Yu:=zaP g;obtain ⟨p,d⟩:∃ p,o[0]? =some p:=⟨_,jf kB⟩;have z:csW o 0=p.rs.map Yu:=zaP d;have hR:=zh8 a (je g);have w:=zh8 a (je d)
 have n:∀ s:List Rd,zlL s->∀ c∈s.map Yu,c≠0:=fun s h c D=>by
  obtain ⟨r,G,rfl⟩:=jt.1 D;have:=(zAK h G).1;omega
 have j:∀ y∈o,y.rs.length<=64:=fun y H=>by
  unfold WF at a;split at a
  ·omega
  ·split at a
   ·omega
   ·rename_i F;have B:∀ x∈o,x.rs.length<=64:=(by simpa using F);exact B y H
 rw [zhL E];unfold zcQ;by_cases h0:i=0
 ·subst h0;have e:p=x:=(by rw [d] at g;exact Ob g);subst e;rw [KS _ (fun k=>if k<(csW o 0).length then [(csW o 0).getD k 0] else []) _ fun k _=>?_,zsw,z]
  ·exact zmR (n _ hR)
  ·by_cases u:k<(csW o 0).length
   ·rw [zxP u,jb u,Kh]
    have:nzl (zc3 o 0 k)=[]:=by
     unfold zc3 thW;rw [Kh,zeZ,jw,ze1];rfl
    rw [this];rfl
   ·rw [zA7 u,ja u];unfold zc3 thW;rw [Kh,zeZ,jw,ze1];rfl
 ·have C:zba (csW o 0) (csW o i)=0:=ziy (by
   rw [z,b,ju,ju]
   have I:=j p (je d);have J:=j x (je g);omega) (by rw [z,b,zqd w,zqd hR];rfl)
  have A:pfW o i=paF (csW o 0) (csW o i) ((csW o 0).length+(csW o i).length) 0 0:=by
   unfold pfW;rw [ja h0,zd3 C];rfl
  have f:=zeP (T:=csW o 0) (cs:=csW o i) (by rw [b];exact n _ hR) ((csW o 0).length+(csW o i).length) 0 0 (jd _) (jd _) kB;rw [<-A,List.drop_zero,Nat.sub_zero,<-List.range_eq_range'] at f;rw [KS _ (zbP (csW o 0).length (csW o i) 0 (pfW o i)) _ fun k _=>?_,f,b];unfold zhh zBt zbP;rw [Kh,Kh,zeZ,jw,Kh];congr 1;split
  ·first | rfl | rw [ja h0]
  ·rfl
theorem zeh (a:WF o=0)(d:o[i]? =some x)(h:(zc0 o i)[k]? =some c)(f:c≠0):∃ r,x.rs[nzF (zc0 o i) k]? =some r/\Yu r=c/\(r.lost=true↔c=8589934592)/\(r.lost=false->Vb c=0):=by have h1:=zHQ h f;rw [zB0 a d,jB] at h1;obtain ⟨r,b,e⟩:=Ot.1 h1;obtain ⟨h2,h3⟩:=zoY (zh8 a (je d)) (je b);rw [e] at h2 h3;exact ⟨r,b,e,h2,h3⟩
theorem zt4 {p:Int->Bool}:∀ (l:List Int) (j:Nat),V9 p j l= -1\/(j:Int)<=V9 p j l
 | [],_=>.inl U
 | v::vs,j=>by
  unfold V9;split
  ·exact .inr (AC _)
  ·rcases zt4 vs (j+1) with h | h
   ·exact .inl h
   ·exact .inr kB
theorem zql {p:Int->Bool}{v:Int}:∀ (l:List Int) (j:Nat),V9 p j (l++[v])=if 0<=V9 p j l then V9 p j l else if p v=true then ((j+l.length:Nat):Int) else -1
 | [],j=>by
  show (if p v=true then (j:Int) else -1)=_;rw [ja (show ¬0<=V9 p j [] by unfold V9;omega)];rfl
 | u::l,j=>by
  rw [OE];unfold V9;by_cases a:p u=true
  ·rw [jb a,jb a,jb kB]
  ·rw [ja a,ja a,zql l (j+1),jx,show j+1+l.length=j+(l.length+1) by omega]
variable{p:Int->Bool}{v:Int}
theorem zec (h:l[i]? =some v):V9 p 0 (l.take (i+1))=if 0<=V9 p 0 (l.take i) then V9 p 0 (l.take i) else if p v=true then (i:Int) else -1:=by have a:=(jc.1 h).1;rw [jz,h];show V9 p 0 (l.take i++[v])=_;rw [zql,jJ,BJ kB,Oj]
theorem zjc (h:l[i]? =some v)(a:p v=false):V9 p 0 (l.take (i+1))=V9 p 0 (l.take i):=by
 rw [zec h];rcases zt4 (p:=p) (l.take i) 0 with h1 | h1
 ·rw [h1,ja (show ¬(0:Int)<= -1 by decide),a];rfl
 ·rw [jb kB]
def atI (ws:List Wr)(rows:List (List Int))(k:Nat)(n:Int):Option Sg:=if 0<=n then some (ydF ws rows n.toNat k).sg else none
structure SgR (ws:List Wr)(rows:List (List Int))(k:Nat)(code:Int)(i:Nat):Prop where
 ex:(sgK ws rows k code i).ex=atI ws rows k (V9 (exV code) 0 ((Jh rows k).take i))
 so:(sgK ws rows k code i).so=atI ws rows k (V9 okV 0 ((Jh rows k).take i))
 many:(sgK ws rows k code i).many=X0 ((Jh rows k).take i)
 lost:(sgK ws rows k code i).lost=za6 ((Jh rows k).take i)
theorem zun {a:List Wr}{rows:List (List Int)}{k:Nat}{code:Int}(D:∀ i r,rows[i]? =some r->r.getD k 0≠0->((ydF a rows i k).lost=true↔r.getD k 0=8589934592)):∀ i,i<=rows.length->SgR a rows k code i
 | 0,_=>⟨U,U,U,U⟩
 | i+1,hi=>by
  have ih:=zun (code:=code) D i kB;obtain ⟨r,u⟩:∃ r,rows[i]? =some r:=⟨_,jf kB⟩;have j:=zvw (k:=k) u;have hg:(rows.getD i []).getD k 0=r.getD k 0:=(by rw [QJ u]);have A:(Jh rows k).take (i+1)=(Jh rows k).take i++[r.getD k 0]:=by rw [jz,j];rfl
  have d:X0 ((Jh rows k).take (i+1))=X0 ((Jh rows k).take i)+if okV (r.getD k 0)=true then 1 else 0:=by
   rw [A];unfold X0;rw [jH,jj,Oc];split<;>rfl
  have b:za6 ((Jh rows k).take (i+1))=(za6 ((Jh rows k).take i)||(r.getD k 0==8589934592)):=by
   rw [A];unfold za6;rw [Af];simp
  have g:sgK a rows k code (i+1)=zhd code (sgK a rows k code i) (r.getD k 0) (ydF a rows i k):=by
   show zhd code (sgK a rows k code i) ((rows.getD i []).getD k 0) (ydF a rows i k)=_;rw [hg]
  by_cases h0:r.getD k 0=0
  ·have h:sgK a rows k code (i+1)=sgK a rows k code i:=(by rw [g];unfold zhd;rw [jb (by rw [h0];rfl)]);have n:okV (r.getD k 0)=false:=(by rw [h0];rfl);have y:exV code (r.getD k 0)=false:=(by unfold exV;rw [n];rfl);have z:∀ p:Int->Bool,p (r.getD k 0)=false->V9 p 0 ((Jh rows k).take (i+1))=V9 p 0 ((Jh rows k).take i):=fun p f=>zjc j f;exact ⟨by rw [h,z _ y];exact ih.ex,by rw [h,z _ n];exact ih.so,by rw [h,d,n];exact ih.many,by rw [h,b,h0];rw [ih.lost];simp⟩
  ·have w:¬(r.getD k 0==0)=true:=(by simpa using h0);by_cases B:(ydF a rows i k).lost=true
   ·have h9:=(D i r u h0).1 B;have h:sgK a rows k code (i+1)= {sgK a rows k code i with lost:=true}:=(by rw [g];unfold zhd;rw [ja w,jb B]);have n:okV (r.getD k 0)=false:=(by rw [h9];rfl);have y:exV code (r.getD k 0)=false:=(by unfold exV;rw [n];rfl);have z:∀ p:Int->Bool,p (r.getD k 0)=false->V9 p 0 ((Jh rows k).take (i+1))=V9 p 0 ((Jh rows k).take i):=fun p f=>zjc j f;exact ⟨by rw [h,z _ y];exact ih.ex,by rw [h,z _ n];exact ih.so,by rw [h,d,n];exact ih.many,by rw [h,b,h9];simp⟩
   ·have h9:¬r.getD k 0=8589934592:=fun e=>B ((D i r u h0).2 e)
    have n:okV (r.getD k 0)=true:=by
     simp only [okV,bne,AX h9,AX h0];rfl
    have y:exV code (r.getD k 0)=(r.getD k 0==code):=(by unfold exV;rw [n];rfl);have h:sgK a rows k code (i+1)=⟨if ((sgK a rows k code i).ex.isNone&&r.getD k 0==code)=true then some (ydF a rows i k).sg else (sgK a rows k code i).ex,orS (sgK a rows k code i).so (ydF a rows i k).sg,(sgK a rows k code i).many+1,(sgK a rows k code i).lost⟩:=(by rw [g];unfold zhd;rw [ja w,ja B]);refine ⟨?_,?_,?_,?_⟩
    ·rw [h];show (if ((sgK a rows k code i).ex.isNone&&r.getD k 0==code)=true then some (ydF a rows i k).sg else (sgK a rows k code i).ex)=_;rw [ih.ex,zec j,y];unfold atI;by_cases f:0<=V9 (exV code) 0 ((Jh rows k).take i)
     ·rw [jb f,jb f,ja kJ,jb f]
     ·rw [ja f,ja f];by_cases C:(r.getD k 0==code)=true
      ·rw [C,jb rfl,jb (show ((none:Option Sg).isNone&&true)=true from U),jb kB];rfl
      ·rw [ja C,ja (by simpa using C),ja kB]
    ·rw [h];show orS (sgK a rows k code i).so (ydF a rows i k).sg=_;rw [ih.so,zec j,n,jb rfl];unfold atI;by_cases f:0<=V9 okV 0 ((Jh rows k).take i)
     ·rw [jb f,jb f,jb f];rfl
     ·rw [ja f,ja f,jb kB];rfl
    ·rw [h,d,n,jb rfl,<-ih.many]
    ·rw [h,b];show (sgK a rows k code i).lost=_;rw [ih.lost,AX h9,OQ]
variable{ws:List Wr}{rows:List (List Int)}{code:Int}
theorem zm5 (w:∀ i r,rows[i]? =some r->r.getD k 0≠0->((ydF ws rows i k).lost=true↔r.getD k 0=8589934592))(n:¬code=0)(y:¬V9 okV 0 (Jh rows k)<0->Vb code=0):zaB ws rows k code=match zbc ws rows k code with | none=>.err | some x=>.sg x:=by
 have h:=zun (code:=code) w rows.length (jn _);have z:(Jh rows k).take rows.length=Jh rows k:=jr (by rw [zl4];exact jn _);have a:=h.ex;have f:=h.so;have d:=h.many;have b:=h.lost;rw [z] at a f d b;unfold zaB;rw [ja (by simpa using n),a,f,d,b];unfold zbc;by_cases h0:V9 okV 0 (Jh rows k)<0
 ·have h1:=zE5 (code:=code) h0;rw [jb h0];unfold atI;rw [ja kB,ja kB];rfl
 ·rw [ja h0];have j:=y h0
  have g:(atI ws rows k (V9 (exV code) 0 (Jh rows k))).or (atI ws rows k (V9 okV 0 (Jh rows k)))=some (ydF ws rows (zk8 rows k code).toNat k).sg:=by
   unfold atI zk8;by_cases h1:0<=V9 (exV code) 0 (Jh rows k)
   ·rw [jb h1,jb h1];rfl
   ·rw [ja h1,ja h1,jb kB];rfl
  rw [g];show (if (Vb code != 0)=true then Out.err else Out.sg (XY k code (ydF ws rows (zk8 rows k code).toNat k).sg _))=Out.sg _;rw [ja (by rw [j];decide)]
  have u:((decide ((ws.length:Int)>1)&&((X0 (Jh rows k):Nat):Int)==1)&& !za6 (Jh rows k))=zvx ws rows k:=by
   unfold zvx;rw [show decide ((ws.length:Int)>1)=decide ((ws.length:Int)>=2) from decide_eq_decide.2 kB]
  rw [u]
theorem zkf {rows:List (List Int)}{m:Nat}:∀ {d:List Em} {l:Int},Ku rows m l d=true->∀ e∈d,rsF e.reason e.code (zaY rows e)=true/\l<e.locus
 | e0::d,l,h,e,f=>by
  unfold Ku at h;rw [ji,jZ] at h;obtain ⟨h1,h2⟩:=h;rw [zeH,jS,jS,OC] at h1;have h3:l<e0.locus:=(by have:=h1.1.1;simp at this;omega);rcases jo.1 f with rfl | f
  ·exact ⟨h1.2,h3⟩
  ·obtain ⟨a,b⟩:=zkf h2 e f;exact ⟨a,kB⟩
theorem zut {k:Nat}:∀ (a:List Em) (n:Int),a.foldl (emF k) n=n\/∃ e∈a,e.locus=(k:Int)/\a.foldl (emF k) n=e.code
 | [],n=>.inl U
 | e::a,n=>by
  rw [Of];rcases zut a (emF k n e) with h | ⟨x,d,h1,h2⟩
  ·rw [h];unfold emF;split
   ·rename_i b;exact .inr ⟨e,jl ..,b,U⟩
   ·exact .inl U
  ·exact .inr ⟨x,jm _ d,h1,h2⟩
section
variable {a:List Wr} {rows:List (List Int)} {j:Int} {f:List Int} {g:List Em} {b:List Int}
theorem zmf (h2:K9 a=rows)(h0:0<rows.length):rows=(List.range a.length).map (zc0 a):=by
 unfold K9 at h2;split at h2
 ·subst h2;simp at h0
 ·exact h2.symm
theorem zkv (d:WF a=0)(A:rows=(List.range a.length).map (zc0 a)){r:List Int}(w:r∈rows){k:Nat}(h0:r.getD k 0≠0)(u:r.getD k 0≠8589934592):Vb (r.getD k 0)=0:=by
 rw [A] at w;obtain ⟨i,y,rfl⟩:=jt.1 w;have h:=jq.1 y;obtain ⟨x,B⟩:∃ x,a[i]? =some x:=⟨_,jf h⟩
 obtain ⟨c,n⟩:∃ c,(zc0 a i)[k]? =some c:=by
  cases e:(zc0 a i)[k]? with
  | none=>rw [Oz,e] at h0;exact absurd U h0
  | some c=>exact ⟨c,U⟩
 rw [QJ n] at h0 u ⊢;obtain ⟨C,_,_,h3,h4⟩:=zeh d B n h0;exact h4 (by cases z:C.lost;rfl;exact absurd (h3.1 z) u)
theorem zlT (n:WF a=0)(A:rows=(List.range a.length).map (zc0 a)){k:Nat}(h0:JN rows f k≠0):Vb (JN rows f k)=0:=by
 have w:JN rows f k∈VP rows f k:=by
  unfold JN;split
  ·rename_i h;obtain ⟨y,B,e⟩:=jD.1 h;rw [jW] at e;rw [e];exact B
  ·have:=zdX (rows:=rows) (cl:=f) (l:=k);exact je (QE (d:=0) U this)
 have h1:=UJ.1 (jP.1 (show _∈(stE rows k).filter _ from w)).1;rcases zcI.1 h1 with h | ⟨⟨r,z,e⟩,u⟩
 ·exact absurd h h0
 ·rw [<-e] at h0 u ⊢;exact zkv n A z h0 u
theorem zgU (h1:UV a=0)(h2:K9 a=rows)(h3:K8 rows j f g b=0){k:Nat}{c:Int}(B:b[k]? =some c)(h0:c≠0):Vb c=0:=by
 obtain ⟨J,_,_,_,_,n,H⟩:=zaz h1 h2 h3;obtain ⟨P,_⟩:=zgb h3;obtain ⟨T,_⟩:=Js (Kb n);have M:=zmf h2 kB;have y:=(zd7 h1 (by rw [h2];omega)).1;have hg:=zts P;rw [H] at B;unfold Je at B;rw [jB] at B;obtain ⟨q,K,e⟩:=Ot.1 B;have G:q=k:=(by rw [jc] at K;obtain ⟨_,e⟩:=K;simpa using e.symm);subst G;rw [<-zgB hg] at e;rcases zut (k:=q) g (JN rows f q) with h | ⟨w,F,O,h⟩
 ·rw [h] at e;subst e;exact zlT y M h0
 ·rw [h] at e;obtain ⟨d,_⟩:=zkf hg w F;by_cases A:w.reason=1
  ·rw [zIR A] at d;simp only [ji,Ba,Bb] at d;obtain ⟨⟨z,D⟩,E⟩:=d;unfold zaY at z;obtain ⟨r,Q,N⟩:=jD.1 z;rw [jW,O] at N;have u:r.getD q 0=w.code:=N;rw [<-e,<-u];exact zkv y M Q (by rw [u];exact D) (by rw [u];exact E)
  ·by_cases C:w.reason=2
   ·rw [zIQ A C] at d;simp only [ji,jW] at d;rw [<-e];exact d.2
   ·by_cases I:w.reason=3
    ·rw [zIU A C I,jW] at d;rw [<-e] at h0;exact absurd d h0
    ·rw [zI0 A C I] at d;cases d
theorem znj (h1:UV a=0)(h2:K9 a=rows)(h3:K8 rows j f g b=0):∀ k,k<=b.length->zcZ a rows b k=Ww a rows b k
 | 0,_=>rfl
 | k+1,hk=>by
  have ih:=znj h1 h2 h3 k kB;obtain ⟨z,G,_,_,_,d,F⟩:=zaz h1 h2 h3;obtain ⟨E,_⟩:=Js (Kb d);have H:=zmf h2 kB;have w:=(zd7 h1 (by rw [h2];omega)).1;show (match zcZ a rows b k with | none=>none | some l=>if (b.getD k 0==0)=true then some l else (zbc a rows k (b.getD k 0)).map fun x=>l++[x])=(match Ww a rows b k with | none=>none | some l=>match zaB a rows k (b.getD k 0) with | .err=>none | .skip=>some l | .sg x=>some (l++[x]));rw [ih]
  cases J:Ww a rows b k with
  | none=>rfl
  | some l=>
   simp only;by_cases h0:b.getD k 0=0
   ·rw [jb (by rw [h0];rfl)];have:zaB a rows k (b.getD k 0)= .skip:=by unfold zaB;rw [jb (by rw [h0];rfl)]
    rw [this]
   ·rw [ja (by simpa using h0)];have h:b[k]? =some (b.getD k 0):=QE U kB
    have D:=zm5 (ws:=a) (rows:=rows) (k:=k) (code:=b.getD k 0) (fun i r u n=>by
     have I:=(jc.1 u).1;obtain ⟨x,A⟩:∃ x,a[i]? =some x:=⟨_,jf kB⟩
     have y:r=zc0 a i:=by
      rw [H,jB,OD kB] at u;exact (Ob u).symm
     obtain ⟨c,h⟩:∃ c,r[k]? =some c:=by
      cases e:r[k]? with
      | none=>rw [Oz,e] at n;exact absurd U n
      | some c=>exact ⟨c,U⟩
     rw [ztX A u,QJ h];rw [QJ h] at n;rw [y] at h ⊢;obtain ⟨K,B,_,C,_⟩:=zeh w A h n
     rw [QJ B];exact C) h0 (fun _=>zgU h1 h2 h3 h h0)
    rw [D];cases zbc a rows k (b.getD k 0)<;>rfl
end
theorem zij (ws:List Wr)(rows:List (List Int))(a:Int)(d:List Int)(f:List Em)(b:List Int):zdZ ws rows a d f b=JD ws rows a d f b/\zso ws rows a d f b=Yl ws rows a d f b:=by
 by_cases h1:UV ws=0
 ·by_cases h2:K9 ws=rows
  ·by_cases h3:K8 rows a d f b=0
   ·have h:=znj h1 h2 h3 b.length (jn _);have n:zdZ ws rows a d f b=JD ws rows a d f b:=(by unfold zdZ JD;rw [h]);exact ⟨n,by unfold zso Yl;rw [n,h]⟩
   ·have g:=zB8 (no:=a) h1 h2 h3;have j:=zDO (no:=a) h1 h2 h3;exact ⟨g.trans j.symm,by rw [zfi (by rw [g];exact h3),zb3 (by rw [j];exact h3)]⟩
  ·have g:=zFn (no:=a) (cl:=d) (es:=f) (rd:=b) h1 h2;have j:=zF2 (no:=a) (cl:=d) (es:=f) (rd:=b) h1 h2;exact ⟨g.trans j.symm,by rw [zfi (by rw [g];decide),zb3 (by rw [j];decide)]⟩
 ·have g:=zFg (rows:=rows) (no:=a) (cl:=d) (es:=f) (rd:=b) h1;have j:=zCv (rows:=rows) (no:=a) (cl:=d) (es:=f) (rd:=b) h1;exact ⟨g.trans j.symm,by rw [zfi (by rw [g];exact h1),zb3 (by rw [j];exact h1)]⟩
theorem zbu {ws:List Wr}{rows:List (List Int)}{a:List Int}:∀ k l,Ww ws rows a k=some l->l.length<=k
 | 0,l,h=>by cases h;exact jd _
 | k+1,l,h=>by
  cases b:Ww ws rows a k with
  | none=>rw [zdM b (k+1) kB] at h;cases h
  | some f=>
   have h0:=zbu k f b
   cases d:zaB ws rows k (a.getD k 0) with
   | err=>exact absurd (show Ww ws rows a (k+1)=none by show (match Ww ws rows a k with | none=>none | some l=>match zaB ws rows k (a.getD k 0) with | .err=>none | .skip=>some l | .sg x=>some (l++[x]))=none;rw [b];simp only;rw [d]) (by rw [h];simp)
   | skip=>rw [zj0 b d] at h;cases h;omega
   | sg x=>rw [zu1 b d] at h;cases h;rw [jj,jv];omega
end
end Go.Proofs.YtodakphagkommaaGreatDoor
namespace Go.Proofs.YtodakphagkommaaGreatDoor.R
section
open Go Go.Kn Go.Proofs
def zwh (p:Pt):Bool:=decide (p.needs.length>80)
def zFs (a b:Bool)(n1 W n3 Y vn:Nat):Bool:=(((((!a|| !((b&&decide ((n1:Int)<=40))&&decide ((W:Int)<=40)))||decide ((n3:Int)>300))||(decide ((Y:Int)>40)&&decide ((Y:Int)<=512)))||decide ((Y:Int)>600))||decide ((vn:Int)>600))
def zfn (D:List Wr)(rows:List (List Int))(F:List Int)(es:List Em)(rd:List Int)(C:List Pt)(vs:List Int):Bool:= !zFs (zGl D) (zqO rows) F.length es.length rd.length C.length vs.length&& !C.any zwh
section
variable {I:Qu} {t:Option Addr} {n c:Nat} {b:List Wr} {l:List Wt} {rows:List (List Int)} {d:List Int} {f:List Em} {g:List Int} {a:List Pt} {i:List Int} {o q r j s:Nat}
theorem zzt (p:zmV I t n c l b)(h1:d.length=o)(h2:f.length=q)(h3:g.length=r)(h4:a.length=j)(h5:i.length=s)(h:zFs (zuG l) (zqO rows) o q r j s=true):zfn b rows d f g a i=false:=by subst h1;subst h2;subst h3;subst h4;subst h5;rw [zDv p] at h;unfold zfn;rw [h];rfl
theorem zr1 (p:zmV I t n c l b)(h1:d.length=o)(h2:f.length=q)(h3:g.length=r)(h4:a.length=j)(h5:i.length=s)(h:zFs (zuG l) (zqO rows) o q r j s=false):zfn b rows d f g a i=(!a.any zwh)/\j<=600:=by subst h1;subst h2;subst h3;subst h4;subst h5;have h6:=h;rw [zDv p] at h;refine ⟨by unfold zfn;rw [h];rfl,?_⟩;unfold zFs at h6;simp only [jS,jR] at h6;omega
theorem znI (h:zfn b rows d f g a i=true):b.length<=5/\(∀ x∈b,x.rs.length<=8)/\rows.length<=20/\d.length<=40/\f.length<=40/\g.length<=300/\(a.length<=40\/512<a.length)/\a.length<=600/\i.length<=600/\∀ p∈a,p.needs.length<=80:=by
 unfold zfn at h;rw [ji] at h;obtain ⟨h1,h2⟩:=h;have h1:=zyI h1;unfold zFs at h1;simp only [jS,AJ,jR] at h1;obtain ⟨⟨⟨⟨⟨u,w⟩,h3⟩,h4⟩,h5⟩,h6⟩:=h1;have u:=zgD u;have w:=zgD w;simp only [ji,jG] at w;unfold zGl at u;rw [ji,jG,jk] at u
 have z:rows.length<=20:=by
  have h9:=w.1.1;unfold zqO at h9;split at h9
  ·simp only [jG] at h9;omega
  ·omega
 refine ⟨u.1,fun x A=>by simpa using u.2 x A,z,kB,kB,kB,kB,kB,kB,fun p y=>?_⟩;have h8:=zyI h2;rw [jL] at h8;have h7:=h8 p y;unfold zwh at h7;simpa using h7
end
theorem zEm:ke 28:=.of Tryz.func28 kA kA
theorem zDt:ke 29:=.of Tryz.func29 kA kA
theorem zwn:ke 40:=.of Tryz.func40 kA kA
theorem zuZ:ke 42:=.of Tryz.func42 kA kA
theorem zB2:ke 75:=.of Tryz.func75 kA kA
theorem zDA:ke 76:=.of Tryz.func76 kA kA
variable{I:Qu}{av bv M N O pv dv:Option Addr}{n c W Z G P J Q K V Y pc n3 c3:Nat}{D:List Wr}{rows:List (List Int)}{F rd vs:List Int}{es:List Em}{C:List Pt}
theorem zC8 (a0:SlW I av n c D)(hn:n<=100000)(T:SlN I bv W Z rows)(a6:W<=100000)(a1:Sl I 1 QF M G P F)(a2:Sl I 3 Yv N J Q es)(y:Sl I 1 QF O K V rd)(a3:G<=100000)(a4:J<=100000)(a5:K<=100000)(f:Int)(t:SlP I pv Y pc C)(E:Y<=1000)(d:Sl I 1 QF dv n3 c3 vs)(B:n3<=100000):kg 40 [.slice av n c,.slice bv W Z,.agg (ZI f M G P N J Q O K V).toArray,.slice pv Y pc,.slice dv n3 c3] I [] (zJq (Xg (JD D rows f F es rd) C (Yl D rows f F es rd) vs) (Jl (onF C) (Yl D rows f F es rd) (Zi C vs)) (Zi C vs)):=by
 intro g H w s;refine qe Tryz.func40 Tryz.ntmps40 s ?_;have a:=zJH I;have a8:=y.len;refine zR<|QU U U U (fun b2=>zA<|zA<|zA<|zN (zR ?_))
 refine zM ?_;refine zM<|zV (Qo U ZG (fun hg=>by exact Cells.g0) U)<|zpc [_,_,_] U zB2 .nil (zoa a0 hn T a6 a1 a2 y a3 a4 a5 f) ?_
 rintro b6 I1 L1 q ⟨rfl,b1,b5,rfl,i⟩;have t:=t.mono q;have d:=d.mono q;have a:=a.trans q;rw [(zij D rows f F es rd).1,(zij D rows f F es rd).2];rw [(zij D rows f F es rd).2] at i;refine zM ?_;refine zE ?_;refine zE ?_;refine zA<|zA (zN (Qk (zR ?_)))
 refine zM<|zC (zN ?_)
 refine zI ?_ ?_<;>intro o
 ·have b:(JD D rows f F es rd)≠0:=(by simpa using o);refine zR (zM<|zA<|zA<|zA (zN (Qq (Qb ?_))))
  first
  | exact Jo U U U U (fun w s=>⟨_,I1,[],U,a,s.drop,U,_,_,_,_,_,_,by rw [ziO b]<;>rfl,fun h=>absurd (ziO b ▸ h) b⟩)
 have b:(JD D rows f F es rd)=0:=(by simpa using o);have z:(Yl D rows f F es rd).length<=1000:=(by obtain ⟨g1,g2,g3,g4⟩:=zoN b;exact jO zdR (by have:=(zaz g1 g2 g3).2.2.1;omega));refine Qm<|Qa<|zR<|zM ?_;refine zM ?_;refine zM<|zpc [_,_,_] U zDA .nil (zB5 t E i z d B) ?_
 rintro b7 I2 L2 l ⟨rfl,b0,b4,rfl,r⟩;have t:=t.mono l;have d:=d.mono l;have i:=i.mono l;have a:=a.trans l;refine zM ?_;refine zE ?_;refine zE ?_;refine zA<|zA (zN (Qk (zR ?_)))
 refine zM<|zC (zN ?_)
 refine zI ?_ ?_<;>intro p
 ·have j:za3 C (Yl D rows f F es rd) vs≠0:=(by simpa using p);refine zR (zM<|zA<|zA<|zA (zN (Qq (Qb ?_))))
  first
  | exact Jo U U U U (fun w s=>⟨_,I2,[],U,a,s.drop,U,_,_,_,_,_,_,by rw [zc9 b]<;>rfl,fun h=>absurd (zc9 b ▸ h) j⟩)
 have j:za3 C (Yl D rows f F es rd) vs=0:=(by simpa using p);have A:=zBu j;obtain ⟨_,_,_,_,_,_,_,a7,_⟩:=WX j;refine Qm<|Qa<|zR<|zM ?_;refine zM ?_;refine zM<|zpc [_,_,_] U zvq .nil (zvZ t E i z d B) ?_
 rintro b8 I3 L3 u ⟨rfl,a9,b3,rfl,x⟩;have r:=r.mono u;have a:=a.trans u;refine zM ?_;refine zE ?_;refine zE ?_;refine zA<|zA<|zN (zR ?_)
 refine zM ?_;refine zM ?_;refine zM<|zA<|zA<|zA (zN (Qq ?_))
 first
 | exact Jo U U U U (fun w s=>⟨_,I3,[],U,a,s.drop,U,_,_,_,_,_,_,by rw [zc9 b,j,A]<;>rfl,fun _=>⟨by rw [<-a7];exact r,by rw [A] at x;exact x⟩⟩)
theorem zrb (b8:SlW I av n c D)(hn:n<=100000)(u:SlN I bv W Z rows)(b0:W<=100000)(A:Sl I 1 QF M G P F)(B:Sl I 3 Yv N J Q es)(r:Sl I 1 QF O K V rd)(a7:G<=100000)(a8:J<=100000)(a9:K<=100000)(b:Int)(hP:SlP I pv Y pc C)(c4:Y<=1000)(b7:Sl I 1 QF dv n3 c3 vs)(c0:n3<=100000)(a l:Int):kg 15 [.slice av n c,.slice bv W Z,.agg (ZI b M G P N J Q O K V).toArray,.slice pv Y pc,.slice dv n3 c3,.int .i64 a,.int .i64 l] I [] (OrQ (orE (Xg (JD D rows b F es rd) C (Yl D rows b F es rd) vs) (Jl (onF C) (Yl D rows b F es rd) (Zi C vs)) a l) (orO (orE (Xg (JD D rows b F es rd) C (Yl D rows b F es rd) vs) (Jl (onF C) (Yl D rows b F es rd) (Zi C vs)) a l) (zGk rows es rd (Zi C vs) (Jl (onF C) (Yl D rows b F es rd) (Zi C vs)) a l))):=by
 intro g H w hw;refine qe Tryz.func15 Tryz.ntmps15 hw ?_;have d:=zJH I;have d1:=r.len;refine zR<|QU U U U (fun b6=>Qv US U U (fun d0=>zA<|zN (zR ?_)))
 refine zM ?_;refine zM<|zV (Qo U ZG (fun hg=>by exact Cells.g1) U)<|zM ?_
 refine zM<|zpc [_,_,_,_,_] U zwn .nil (zC8 b8 hn u b0 A B r a7 a8 a9 b hP c4 b7 c0) ?_
 rintro e1 I1 L1 o ⟨rfl,sa,sn,sc,la,ln,lc,rfl,c2⟩;have u:=u.mono o;have A:=A.mono o;have B:=B.mono o;have r:=r.mono o;have d:=d.trans o;refine zM ?_;refine zE ?_;refine zE ?_;refine zE ?_;refine zA<|zA<|zA (zN (Qk (zR ?_)))
 refine zM<|zC (zN ?_)
 refine zI ?_ ?_<;>intro E
 ·have f:(Xg (JD D rows b F es rd) C (Yl D rows b F es rd) vs)≠0:=(by simpa using E);refine zR<|zV (QK (ps:=[]) [_,_,_,_] KU U U)<|zM<|zh YO ?_
  refine zA<|zN<|Qq<|Qb ?_
  first
  | exact Zg U U U Yt (vs:=[.int .i64 0,.int .i64 0,.slice none 0 0,.slice none 0 0]) kG U (fun w hw=>⟨_,I1,[],U,d,hw.drop,by rw [zEY f];exact OrQ.bad f⟩)
 have f:(Xg (JD D rows b F es rd) C (Yl D rows b F es rd) vs)=0:=(by simpa using E);obtain ⟨t,a0⟩:=c2 f;obtain ⟨c5,b2⟩:=zah f;obtain ⟨b3,d4,b1,d3,d8,b4,d2,d5,d6⟩:=WX b2;have d7:(Jl (onF C) (Yl D rows b F es rd) (Zi C vs)).length=sn:=t.len;have b9:=zbh b3.lst b4;have a6:(Zi C vs).length=ln:=a0.len;have a4:ln<=100000:=(by rw [<-a6];exact jO (jE ..) kB);have a5:∀ p∈Zi C vs,p.n<=100000:=fun p hp=>(by have h1:=b1 p (Yo.1 hp).1;have h2:=(a0.2 p hp).len;omega);refine Qm<|Qa<|zR<|zM ?_;refine zM ?_;refine qcV (vs:=[_,_]) U zt8 (zpq t kB _) ?_;refine zA<|zN<|Qk<|zR ?_;refine zM<|zC ?_
 refine zM ?_;refine QI 2 U U U ?_;refine zJ (Qd U)<|zJ (Qx U U U) ?_
 refine Q5 U U U U U<|zM ?_
 refine QI 6 U U U ?_;refine zJ (Qd U)<|zJ (Qx U U U) ?_
 refine Q5 U U U U U<|zN ?_
 refine zI ?_ ?_<;>intro T
 ·have s:=zuw T;refine zR<|zV (QK (ps:=[]) [_,_,_,_] KU U U)<|zh YO ?_
  refine zA<|zN<|Qq<|Qb ?_
  first
  | exact Zg U U U Yt (vs:=[.int .i64 0,.int .i64 0,.slice none 0 0,.slice none 0 0]) kG U (fun w hw=>⟨_,I1,[],U,d,hw.drop,by rw [zCD f s];exact OrQ.bad kC⟩)
 have s:=zuw T;obtain ⟨z,x0,c8,d9,e0,c9⟩:∃ (i:Nat) (x:Sg),KA (fun y:Sg=>y.id==a) (Jl (onF C) (Yl D rows b F es rd) (Zi C vs))=(i:Nat)/\(Jl (onF C) (Yl D rows b F es rd) (Zi C vs))[i]? =some x/\(x.id==a)=true/\i<(Jl (onF C) (Yl D rows b F es rd) (Zi C vs)).length:=zhH (zgD ((jS.1 s).2));have b5:(Jl (onF C) (Yl D rows b F es rd) (Zi C vs))[(KA (fun y:Sg=>y.id==a) (Jl (onF C) (Yl D rows b F es rd) (Zi C vs))).toNat]? =some ((Jl (onF C) (Yl D rows b F es rd) (Zi C vs)).getD (KA (fun y:Sg=>y.id==a) (Jl (onF C) (Yl D rows b F es rd) (Zi C vs))).toNat Yc):=(by rw [c8];exact QE U c9);refine Qm<|Qa<|Qk ?_;have j:=zJH I1;refine VR<|ZM I1 [(b6,.cells (ZI b M G P N J Q O K V).toArray 26 (0,0))] mixed<|zT 0 U (Qd U) j<|zT 1 U (Qo U ZG (fun hg=>by exact Cells.g0) U) j<|zT 2 U (Qd U) j<|zT 3 U (Qd U) j<|zT 4 U (Qd U) j<|zT 5 U (zX Z7 t) j<|zT 6 U (Qo U QQ (fun hg=>by exact zJI t b5) U) j<|zT 7 U (Qd U) j<|qd 8 U<|zpc [_,_,_,_,_] U zuZ .nil (zFX u b0 A B r a7 a8 a9 b a0 a4 b9 a5 ((Jl (onF C) (Yl D rows b F es rd) (Zi C vs)).getD (KA (fun y:Sg=>y.id==a) (Jl (onF C) (Yl D rows b F es rd) (Zi C vs))).toNat Yc) l (fun h=>by obtain ⟨q,h1,h2,h3⟩:=zjX c5 b2 (je b5) h;exact ⟨q,h1,kB,h3⟩)) ?_
 rintro e2 I2 L2 a3 ⟨rfl,a1,n1,c1,a2,W,Z,rfl,c6,c7⟩;have d:=d.trans a3;have j:=j.trans a3;refine Qe<|zD j<|qd 9 U ?_
 refine zh YO ?_;refine Qe<|zD j<|zT 10 U (ZE U) j<|QH kA<|QP<|Qa (Qq ?_)
 first
 | exact Zg U U U Yt (vs:=[.int .i64 _,.int .i64 _,.slice a1 n1 c1,.slice a2 W Z]) kG U (fun w hw=>⟨_,I2,[],U,d,hw.drop,by rw [zDF f s];exact ⟨U,_,U,_,_,_,_,_,_,U,c6,c7⟩⟩)
theorem zmm (d1:SlW I av n c D)(hn:n<=100000)(o:SlN I bv W Z rows)(c4:W<=100000)(r:Sl I 1 QF M G P F)(s:Sl I 3 Yv N J Q es)(i:Sl I 1 QF O K V rd)(b9:G<=100000)(c0:J<=100000)(c2:K<=100000)(l:Int)(hP:SlP I pv Y pc C)(d7:Y<=1000)(B:Sl I 1 QF dv n3 c3 vs)(d5:n3<=100000):kg 17 [.slice av n c,.slice bv W Z,.agg (ZI l M G P N J Q O K V).toArray,.slice pv Y pc,.slice dv n3 c3] I [] (zHI (Xg (JD D rows l F es rd) C (Yl D rows l F es rd) vs) (trF (Xg (JD D rows l F es rd) C (Yl D rows l F es rd) vs) (zh3 rows es rd (Zi C vs)) (Jl (onF C) (Yl D rows l F es rd) (Zi C vs)))):=by
 intro g H w hw;refine qe Tryz.func17 Tryz.ntmps17 hw ?_;have A:=zJH I;have e2:=i.len;refine zR<|QU U U U (fun a8=>zA<|zA<|zN (zR ?_))
 refine zM ?_;refine zM<|zV (Qo U ZG (fun hg=>by exact Cells.g0) U)<|zM ?_
 refine zM<|zpc [_,_,_,_,_] U zwn .nil (zC8 d1 hn o c4 r s i b9 c0 c2 l hP d7 B d5) ?_
 rintro f3 I1 L1 u ⟨rfl,sa,sn,sc,la,ln,lc,rfl,d6⟩;have o:=o.mono u;have r:=r.mono u;have s:=s.mono u;have i:=i.mono u;have hP:=hP.mono u;have B:=B.mono u;have A:=A.trans u;refine zM ?_;refine zE ?_;refine zE ?_;refine zE ?_;refine zA<|zA<|zA (zN (Qk (zR ?_)))
 refine zM<|zC (zN ?_)
 refine zI ?_ ?_<;>intro a4
 ·have a0:(Xg (JD D rows l F es rd) C (Yl D rows l F es rd) vs)≠0:=(by simpa using a4);refine zR (zM<|zA<|zA (zN (Qq (Qb ?_))))
  first
  | exact QY U U U (fun w hw=>⟨_,I1,[],U,A,hw.drop,by unfold trF;rw [jb a0];exact ⟨U,none,0,U,.nil⟩⟩)
 have a0:(Xg (JD D rows l F es rd) C (Yl D rows l F es rd) vs)=0:=(by simpa using a4);obtain ⟨b,y⟩:=d6 a0;obtain ⟨d9,c6⟩:=zah a0;obtain ⟨c7,e6,c5,e5,f0,c8,e3,e7,e8⟩:=WX c6;have e0:(Jl (onF C) (Yl D rows l F es rd) (Zi C vs)).length=sn:=b.len;have d3:=zbh c7.lst c8;have b8:(Zi C vs).length=ln:=y.len;have b6:ln<=100000:=(by rw [<-b8];exact jO (jE ..) kB);have b7:∀ p∈Zi C vs,p.n<=100000:=fun p hp=>(by have h1:=c5 p (Yo.1 hp).1;have h2:=(y.2 p hp).len;omega);have e4:sn<=100000:=kB;refine Qm (Qa (zR<|zpb [] [] VL (fun b3=>zA (zN (Qk (zR<|zA (zN (Ql ?_))))))));refine zU [(1,_),(7,_),(12,_),(13,_)] (fun T L0 mz E I' t=>∃ (k:Nat) (v:Value) (q:Nat) (L:Go.Kn.Loc),mz=sn-k/\E=(15,v)::(16,.int .i64 k)::T/\HLe I1 I'/\L++[(a8,.cells (ZI l M G P N J Q O K V).toArray 26 (0,0))]=t/\k<=sn/\OwnS 79 2 v q ((trK (zh3 rows es rd (Zi C vs)) (Jl (onF C) (Yl D rows l F es rd) (Zi C vs)) k).flatMap K6) L/\q<=k*9) ?_ (h:=⟨0,_,0,[(b3,_)],U,U,zJH _,U,jd _,OwnS.new,jd _⟩);rintro mz E J2 t ⟨k,v,q,L,rfl,rfl,d,rfl,hk,hO,hq⟩;have o:=o.mono d;have r:=r.mono d;have s:=s.mono d;have i:=i.mono d;have hP:=hP.mono d;have B:=B.mono d;have b:=b.mono d;have y:=y.mono d;have A:=A.trans d;have a9:=d;refine Qk (zR (zM<|zM ?_));refine zQ Z7<|zC (zN ?_)
 refine zI ?_ ?_<;>intro a5
 ·have b2:k<sn:=kd a5;obtain ⟨x,hx⟩:=b.at b2;refine Qm (Qa (Qk (Ql (zR (zA (zN (Ql<|zU [(1,_),(7,_),(12,_),(13,_),(16,_)] (fun T L0 mz E I' t=>∃ (j:Nat) (v:Value) (q:Nat) (L:Go.Kn.Loc),mz=9-j/\E=(15,v)::(17,.int .i64 ((j:Int)+1))::T/\HLe J2 I'/\L++[(a8,.cells (ZI l M G P N J Q O K V).toArray 26 (0,0))]=t/\j<=9/\OwnS 79 2 v q ((trK (zh3 rows es rd (Zi C vs)) (Jl (onF C) (Yl D rows l F es rd) (Zi C vs)) k++tcJ (fun _ f=>(zh3 rows es rd (Zi C vs)) x f) x.id j).flatMap K6) L/\q<=k*9+j) ?_ (h:=⟨0,v,q,L,U,U,zJH _,U,jd _,by rw [show tcJ (fun _ f=>(zh3 rows es rd (Zi C vs)) x f) x.id 0=[] from U,jw];exact hO,kB⟩))))))));rintro mz E J3 t ⟨j,v,q,L,rfl,rfl,d,rfl,hj,hO,hq⟩;have o:=o.mono d;have r:=r.mono d;have s:=s.mono d;have i:=i.mono d;have b:=b.mono d;have y:=y.mono d;have a9:=a9.trans d;have a3:=d;refine Qk (zR (zM<|zC (zN ?_)));refine zI ?_ ?_<;>intro a6
  ·have d4:j<9:=(by have h:=a6;simp only [jG] at h;omega);refine Qm<|Qa<|Qk<|Ql<|Qk ?_;have z:=zJH J3;refine VR<|ZM J3 [(a8,.cells (ZI l M G P N J Q O K V).toArray 26 (0,0))] mixed<|zT 0 U (Qd U) z<|zT 1 U (Qo U ZG (fun hg=>by exact Cells.g0) U) z<|zT 2 U (Qd U) z<|zT 3 U (Qd U) z<|zT 4 U (Qd U) z<|zT 5 U (zX Z7 b) z<|zT 6 U (Qo U QQ (fun hg=>by exact zJI b hx) U) z<|zT 7 U (Qd U) z<|qd 8 U<|zpc [_,_,_,_,_] U zuZ .nil (zFX o c4 r s i b9 c0 c2 l y b6 d3 b7 x ((j:Int)+1) (fun h=>by obtain ⟨q,h1,h2,h3⟩:=zjX d9 c6 (je hx) h;exact ⟨q,h1,kB,h3⟩)) ?_
   rintro f4 I4 L4 b0 ⟨rfl,a1,n1,c1,a2,W,Z,rfl,f1,f2⟩;have b:=b.mono b0;have a3:=a3.trans b0;have z:=z.trans b0;refine Qe<|zD z<|qd 9 U<|zV (zke U ze0 U)<|Qe<|zD z<|zT 10 U (Qx U U U) z<|QH kA<|QP<|Qa ?_
   refine zI ?_ ?_<;>intro a7
   ·refine Qh (zM<|zM ?_);refine zM ?_;refine zV (zX Z7 b)<|zF Zu ?_
    refine zV (Qc U Qr (fun hg=>by exact zJA b hx U))<|zM<|zV (Zw (ps:=[(0,_),(1,_)]) [_,_] Yx K4 U U)<|zpb [(0,_)] [K6 (x.id,(j:Int)+1)] VL (fun e1=>?_)
    refine zpa (_) ([(x.id,(j:Int)+1)].flatMap K6) (L) U U VL hO ⟨U,fun _=>U,by repeat (first | exact zJF | apply zJE | apply zJG)⟩ (zc2 [(x.id,(j:Int)+1)]) ?_;intro v9 L9 b5 _;rw [<-jh] at b5;refine zA (Qe (Qg (Qa (Qh<|zM ?_))));refine zB<|zA (Qe ?_)
    first
    | exact zm (h:=⟨9-(j+1),kB,j+1,_,_,_,U,U,a3,U,kB,by rw [zhy a7,<-js];exact b5,kB⟩)
   refine Qm<|Qg<|Qa<|Qh<|zM ?_;refine zB<|zA (Qe ?_)
   first
   | exact zm (h:=⟨9-(j+1),kB,j+1,_,_,_,U,U,a3,U,kB,by rw [zpS a7];exact hO,kB⟩)
  have d2:9<=j:=(by have h:=a6;simp only [jR] at h;omega);refine Qy<|Qf<|Qf<|Qj<|Qg<|Qa<|Qh<|zM ?_;refine zB<|zA (Qe ?_)
  exact zm (h:=⟨sn-(k+1),kB,k+1,_,_,_,U,U,a9,U,kB,by rw [ztw hx];rw [show j=9 by omega] at hO;exact hO,kB⟩)
 have b1:sn<=k:=kd a5;rw [zAl e0 b1] at hO;refine Qy (Qf (Qf (Qj (Qa (zR (zM<|zA<|zA (zN (Qq ?_))))))))
 first
 | exact QY U U U (fun w hw=>by obtain ⟨I9,c9,d0,a,c,e9,b4⟩:=OwnS.freeze' hO (fun _=>U) kC (hw.subL (by exact Q3));exact ⟨_,I9,[],U,A.trans c9,d0,by rw [a0];unfold trF;rw [ja kJ];have d8:=b4.len;subst d8;exact ⟨U,a,c,by rw [e9],b4⟩⟩)
theorem zm7 (a1:SlW I av n c D)(hn:n<=9223372036854775807)(B:SlN I bv W Z rows)(a2:Sl I 1 QF M G P F)(a3:Sl I 3 Yv N J Q es)(a4:Sl I 1 QF O K V rd)(no:Int)(A:SlP I pv Y pc C)(a0:Sl I 1 QF dv n3 c3 vs):kf 10 [.slice av n c,.slice bv W Z,.agg (ZI no M G P N J Q O K V).toArray,.slice pv Y pc,.slice dv n3 c3] I (.bool (zfn D rows F es rd C vs)):=by
 intro g H w hw;refine qe Tryz.func10 Tryz.ntmps10 hw ?_;obtain ⟨wt,b⟩:=id a1;have a8:=b.2.1;have d:=a2.len;have f:=a3.len;have i:=a4.len;have s:=A.len;have z:=a0.len;refine zR<|QU U U U (fun a6=>zA<|zN (zR ?_))
 refine zM ?_;refine qcV (vs:=[_]) U zEm (zEb b.1 hn) ?_;refine zA<|zN (zR ?_)
 refine zM<|zF zeI ?_
 refine zL QA<|zF UB ?_
 refine zL zcn<|qcV (vs:=[_,_,_]) U zDt (zAn B _ _ _ _ _ _) ?_
 refine zA<|zN<|Qk<|zR ?_;refine zM<|zO<|zM ?_
 refine QI 2 U U U ?_;refine zJ (Qd U)<|zJ (ZT U)<|Q5 U U U U U<|zM ?_
 refine QI 6 U U U ?_;refine zJ (Qi U Ye) ?_;refine zJ (Qc U QA (fun hg=>by exact QO.h0 U))<|zJ (Zs U Qt)<|zJ (Qx U U U) ?_
 refine Q5 U U U U U<|zM ?_
 refine QI 12 U U U ?_;refine zJ (Qd U)<|zJ (Zs U QV)<|zJ (Qx U U U)<|zJ (Qd U)<|Qw 16 U U U ?_
 refine zK (Qd U)<|zK (Zs U QV)<|zK (Qx U U U)<|ze5 U U U (.some U U U U gbf) U U<|Q5 U U U U U<|zM ?_
 refine QI 22 U U U ?_;refine zJ (Qd U)<|zJ (Zs U QV)<|zJ (Qx U U U) ?_
 refine Q5 U U U U U<|zM ?_
 refine QI 27 U U U ?_;refine zJ (Qd U)<|zJ (Zs U Qt)<|zJ (Qx U U U) ?_
 refine Q5 U U U U U<|zN ?_
 refine zI ?_ ?_<;>intro l
 ·have a:=zzt b d f i s z l;exact zR (zA (zN (Qq (Qb<|zr U U (by rw [a])))))
 have a:=zr1 b d f i s z l;have a5:Y<=600:=a.2;refine Qm (Qa (Qk (zR (zA (zN (Ql<|zU [(3,_)] (fun T L0 mz E I' r=>∃ (k:Nat),mz=Y-k/\E=(13,.int .i64 k)::T/\I=I'/\L0=r/\k<=Y/\(C.take k).any zwh=false) ?_ (h:=⟨0,U,U,U,U,jd _,U⟩)))))));rintro mz E I' r ⟨k,rfl,rfl,rfl,rfl,hk,y⟩;refine Qk (zR (zM<|zM ?_));refine zQ QV<|zC (zN ?_)
 refine zI ?_ ?_<;>intro o
 ·have x:k<Y:=kd o;obtain ⟨p,hp,hN⟩:=A.at x;have a7:p.needs.length=p.n:=hN.len;refine Qm<|Qa<|Qk<|Ql<|zR<|zM ?_;refine zM ?_;refine zV (Qs U U QV A.1 (fun hg=>kB))<|zF YD ?_
  refine zV (Qc U QA (fun hg=>by exact zJJ (j:=18) A.1 hp U))<|zQ Qt<|zC (zN ?_)
  refine zI ?_ ?_<;>intro q
  ·have t:zwh p=true:=(by have h:=q;unfold zwh;simp only [jG] at h ⊢;omega);refine zR (zA (zN (Qq (Qn (Qb (Qb (Qn<|Qb ?_)))))))
   first
   | exact zr U U (by rw [a.1,YN hp t];rfl)
  have t:zwh p=false:=(by have h:=q;unfold zwh;simp only [jR] at h ⊢;omega);refine Qm<|Qg<|Qa<|Qh<|zM ?_;exact zB<|zA (Qe<|zm (h:=⟨Y-(k+1),kB,k+1,U,U,U,U,kB,Z3 hp y t⟩))
 have u:Y<=k:=kd o;rw [QZ s u] at y;refine Qy (Qf (Qf (Qj (Qa (zR (zA (zN<|Qq ?_)))))))
 first
 | exact zr U U (by rw [a.1,y];rfl)
def zlw (d:Int):Sg:=⟨0,0,0,1,4,1,d,2,0,0,0,1,1,1⟩
def wK:List Wr:=[⟨1,0,[⟨false,zlw 3⟩]⟩,⟨2,0,[⟨false,zlw 4⟩]⟩]
def ptK:Pt:=⟨2,1,0,5,⟨0,0,0,0,0,0,5,0,0,0,0,0,0,0⟩,none,0,0,[]⟩
theorem zIT:UV wK=0:=kA
theorem zIP:K9 wK=[[36110336],[36241408]]:=kA
theorem mK:WK [[36110336],[36241408]] 1 [3] []=0:=kA
theorem rK:Je [[36110336],[36241408]] [3] []=[36110336]:=by rw [zju];kernel_rfl
theorem mK9:WK [[7],[9],[7]] 1 [5,7] []=0:=kA
theorem rK9:Je [[7],[9],[7]] [5,7] []=[7]:=by rw [zju];kernel_rfl
theorem eK9:K8 [[7],[9],[7]] 1 [5,7] [] [7]=0:=ztu mK9 rK9.symm
theorem nK9:zjF [[7],[9],[7]] [7] 1=[⟨0,7,[⟨7,[0,2]⟩,⟨9,[1]⟩]⟩]:=kA
theorem eK0:K8 [] 0 [] [] []=420:=by rw [zAF kC];kernel_rfl
theorem gK:JD wK [[36110336],[36241408]] 1 [3] [] [36110336]=0/\Yl wK [[36110336],[36241408]] 1 [3] [] [36110336]=[zlw 3]:=zDb zIT zIP (ztu mK rK.symm) kA
section
variable (a:List Int)
def opK:Int:=Xg (JD wK [[36110336],[36241408]] 1 [3] [] [36110336]) [ptK] (Yl wK [[36110336],[36241408]] 1 [3] [] [36110336]) a
def sgK:List Sg:=Jl (onF [ptK]) (Yl wK [[36110336],[36241408]] 1 [3] [] [36110336]) (Zi [ptK] a)
end
theorem zGi:opK [2]=0:=by unfold opK;rw [gK.1,gK.2];kernel_rfl
theorem zGt:opK []=0:=by unfold opK;rw [gK.1,gK.2];kernel_rfl
theorem zIE:orE (opK [2]) (sgK [2]) 0 5=0:=by unfold sgK;rw [zGi,gK.2];kernel_rfl
theorem zHE:orE (opK [2]) (sgK [2]) 0 6=0:=by unfold sgK;rw [zGi,gK.2];kernel_rfl
theorem zIN:orE (opK []) (sgK []) 0 5=0:=by unfold sgK;rw [zGt,gK.2];kernel_rfl
theorem zHu:orE (opK []) (sgK []) 0 10=440:=by unfold sgK;rw [zGt,gK.2];kernel_rfl
def ogK (vs:List Int)(s f:Int):Og:=zcT (onF [ptK]) [[36110336],[36241408]] [] [36110336] (Zi [ptK] vs) s f
theorem zId:orO 0 (ogK [2] 0 5)=⟨3,0,[],[2]⟩:=kA
theorem zGD:orO 0 (ogK [2] 0 6)=⟨1,0,[0],[]⟩:=kA
theorem zHU:orO 0 (ogK [] 0 5)=⟨1,0,[0],[]⟩:=kA
theorem zIG:orO 440 (ogK [] 0 10)=zOg:=kA
theorem zGY:tcF (opK [2]) (ogK [2]) (sgK [2])=[(0,5)]:=by unfold sgK;rw [zGi,gK.2];kernel_rfl
theorem zGR:tcF (opK []) (ogK []) (sgK [])=[]:=by unfold sgK;rw [zGt,gK.2];kernel_rfl
theorem zCx:kp 35 65 3 40:=.of kA
theorem zws:kp 63 60 15 120:=.of kA
theorem zpg:ke 11:=.of Tryz.func11 kA kA
theorem zwk:ke 13:=.of Tryz.func13 kA kA
theorem zgv:ke 14:=.of Tryz.func14 kA kA
theorem zmw:ke 16:=.of Tryz.func16 kA kA
theorem ziN:ke 18:=.of Tryz.func18 kA kA
theorem zww:ke 19:=.of Tryz.func19 kA kA
theorem zv3:ke 26:=.of Tryz.func26 kA kA
theorem zFf:kq 57 #[(0,1),(1,1),(2,1),(3,1),(4,14),(18,1)] (.agg #[(.int .i64 0),(.int .i64 0),(.int .i64 0),(.int .i64 0),(.int .i64 0),(.int .i64 0),(.int .i64 0),(.int .i64 0),(.int .i64 0),(.int .i64 0),(.int .i64 0),(.int .i64 0),(.int .i64 0),(.int .i64 0),(.int .i64 0),(.int .i64 0),(.int .i64 0),(.int .i64 0),(.slice none 0 0)]):=⟨.of kA,kA,fun w=>kA⟩
theorem zFV:kq 60 #[(0,1),(1,14)] (.agg #[(.bool false),(.int .i64 0),(.int .i64 0),(.int .i64 0),(.int .i64 0),(.int .i64 0),(.int .i64 0),(.int .i64 0),(.int .i64 0),(.int .i64 0),(.int .i64 0),(.int .i64 0),(.int .i64 0),(.int .i64 0),(.int .i64 0)]):=⟨.of kA,kA,fun w=>kA⟩
theorem zv0:kq 65 #[(0,1),(1,1),(2,1)] (.agg #[(.int .i64 0),(.int .i64 0),(.slice none 0 0)]):=⟨.of kA,kA,fun w=>kA⟩
theorem zFh (I:Qu)(d:Int):kf 26 [.int .i64 d] I (.agg (Kf ⟨false,zlw d⟩).toArray):=by
 intro g H w a;refine qe Tryz.func26 Tryz.ntmps26 a ?_;refine zR<|Qv zoG U U (fun b=>zN (zR ?_))
 refine zM<|zV (QK (ps:=[(1,_)]) [_,_] zdi U U)<|zV (QK (ps:=[(0,_),(1,_)]) [_,_] zdi U U)<|zV (QK (ps:=[(4,_),(3,_),(5,_),(6,_),(7,_),(10,_),(11,_)]) [_,_,_,_,_,_,_,_,_,_,_,_,_,_] JI U U)<|zV (QK (ps:=[(1,_)]) [_,_,_,_,_,_,_,_,_,_,_,_,_,_,_] zFV U U) ?_
 refine zh zfE<|zN (Qq ?_)
 exact ZD U U zb4 kI U (fun w a=>⟨U,a.drop⟩)
variable{vss:List (List Int)}
theorem zrv {b t:Nat}(a:List Hd)(d:a.length=n)(h:I b=some (.cells (a.flatMap Kv).toArray t (0,0)))(r:WM I a vss):SlN I (some ⟨b,0,none⟩) n n vss:=⟨a,Sl.lit a d VH h,r⟩
variable{cl:List Int}{no:Int}{k:Nat}
theorem zjJ (T:SlN I bv W Z rows)(x:Sl I 1 QF av n c cl)(u:Sl I 3 Yv dv n3 c3 es)(o:JZ I)(s:W<=100000)(hn:n<=100000)(t:n3<=100000)
  (y:WK rows no cl es=0)(hr:Je rows cl es=rd)(hk:rd.length=k):kg 25 [.slice bv W Z,.int .i64 no,.slice av n c,.slice dv n3 c3] I [] (fun v b L=>L=[]/\∃ h l i Z j c3,v= .tuple #[.agg (ZI no h n l i n3 Z j k c3).toArray,.int .i64 0]/\Sl b 1 QF h n l cl/\Sl b 3 Yv i n3 Z es/\Sl b 1 QF j k c3 rd):=by
 intro g H w hw;refine (zup x T s u t hn o no g H w hw).mono ?_;rintro ed w' ⟨v,b,L',r,E,hs,p⟩;obtain ⟨rfl,a0,A,B,a4,h,q1,l,i,q2,z,j,q3,c3,rfl,d,f,a,q, -⟩:=p.opn;obtain ⟨rfl,rfl,rfl,rfl⟩:=q y;have l1:=d.len.symm.trans x.len;have l2:=f.len.symm.trans u.len;subst l1;subst l2;subst hk;rw [hr] at a;have l3:=a.len;subst l3;exact ⟨_,b,[],r,E,hs,U,h,l,i,z,j,c3,by rw [y],d,f,a⟩
variable{a1 a2 a3:Option Addr}
theorem zG9 {b d:Nat}(f:SlN I bv 3 Z [[7],[9],[7]])(h1:Sl I 1 QF a1 2 b [5,7])(h2:Sl I 3 Yv a2 0 d [])(h3:Sl I 1 QF a3 1 c3 [7])(a:JZ I):kg 11 [.slice bv 3 Z,.agg (ZI 1 a1 2 b a2 0 d a3 1 c3).toArray] I [] (zGq 0 [⟨0,7,[⟨7,[0,2]⟩,⟨9,[1]⟩]⟩]):=by have h:=zcl f kC h1 h2 h3 kC kC kC 1 a;rw [eK9,(zeq U).trans nK9] at h;exact h
theorem zDs (a:JZ I):kg 11 [.slice none 0 0,.agg (ZI 0 none 0 0 none 0 0 none 0 0).toArray] I [] (zGq 420 []):=by have h:=zcl (I:=I) (ea1:=none) (ec1:=0) (ea2:=none) (ec2:=0) (ea3:=none) (ec3:=0) SlN.none kC .nil .nil .nil kC kC kC 0 a;rw [eK0] at h;exact h
theorem zHw (a:SlW I av 2 c wK):kg 27 [.slice av 2 c] I [] (XH 0 [[36110336],[36241408]]):=by have h:=zmB a kC;rw [zIT,zIP] at h;exact h
section
variable {I:Qu} {h i j n p q r:Option Addr} {c s t u w x g y:Nat} {vs:List Int} (z:SlW I h 2 c wK) (A:SlN I i 2 s [[36110336],[36241408]]) (h1:Sl I 1 QF j 1 t [3]) (h2:Sl I 3 Yv n 0 u []) (h3:Sl I 1 QF p 1 w [36110336]) (B:SlP I q 1 x [ptK]) (a:Sl I 1 QF r g y vs) (b:g<=100000) (d:JZ I)
include z A h1 h2 h3 B a b d
theorem zGh {f e:Int}{o:Og}(l:orE (opK vs) (sgK vs) 0 f=e)(E:orO e (ogK vs 0 f)=o):kg 14 [.slice h 2 c,.slice i 2 s,.agg (ZI 1 j 1 t n 0 u p 1 w).toArray,.slice q 1 x,.slice r g y,.int .i64 0,.int .i64 f] I [] (OrQ e o):=by subst E;subst l;exact zki z kC A kC h1 h2 h3 kC kC kC 1 B kC a b d 0 f
theorem zI5 {e:Int}{l:List (Int×Int)}(f:opK vs=e)(o:tcF (opK vs) (ogK vs) (sgK vs)=l):kg 16 [.slice h 2 c,.slice i 2 s,.agg (ZI 1 j 1 t n 0 u p 1 w).toArray,.slice q 1 x,.slice r g y] I [] (zHI e l):=by subst o;subst f;exact zfO z kC A kC h1 h2 h3 kC kC kC 1 B kC a b d
end
variable{o:Og}{a4:Option Addr}
theorem zhA {d f:Nat}(h1:Sl I 1 QF a1 d f o.ws)(h2:Sl I 1 QF a2 W Z o.ps){i g:Nat}(h3:Sl I 1 QF a3 n3 c3 o.ws)(h4:Sl I 1 QF a4 i g o.ps)(a:d<=100000)(b:W<=100000):kf 18 [.agg #[.int .i64 o.k,.int .i64 o.r,.slice a1 d f,.slice a2 W Z],.agg #[.int .i64 o.k,.int .i64 o.r,.slice a3 n3 c3,.slice a4 i g]] I (.bool true):=by have h:=znM h1 h2 h3 h4 a b;rw [ziT] at h;exact h
theorem zyX {a b:Option Addr}{d:Nat}(h1:zib I a n c [⟨0,7,[⟨7,[0,2]⟩,⟨9,[1]⟩]⟩])(h2:zib I b 1 d [⟨0,7,[⟨7,[0,2]⟩,⟨9,[1]⟩]⟩]):kf 13 [.slice a n c,.slice b 1 d] I (.bool true):=by have h:=zjl h1 h2 (by rw [<-h1.len];decide) kC;rw [zbe zjA] at h;exact h
theorem zzc {a b d f:Nat}(h1:I a=some (.cells (([0,2]:List Int).flatMap QF).toArray 3 (0,0)))(h2:I b=some (.cells (([1]:List Int).flatMap QF).toArray 3 (0,0)))(h3:I d=some (.cells (([⟨7,⟨some ⟨a,0,none⟩,2,2⟩⟩,⟨9,⟨some ⟨b,0,none⟩,1,1⟩⟩]:List Vh).flatMap za8).toArray 77 (0,0)))
  (h4:I f=some (.cells (([⟨0,7,⟨some ⟨d,0,none⟩,2,2⟩⟩]:List Eh).flatMap zbV).toArray 74 (0,0))):zib I (some ⟨f,0,none⟩) 1 1 [⟨0,7,[⟨7,[0,2]⟩,⟨9,[1]⟩]⟩]:=
 ⟨_,Sl.lit _ U zbK h4,zbv.nil.snoc ⟨U,U,_,Sl.lit _ U zcc h3,(zbv.nil.snoc ⟨U,Sl.lit _ U QL h1⟩).snoc ⟨U,Sl.lit _ U QL h2⟩⟩⟩
set_option maxRecDepth 100000 in
theorem zwa  (d:JZ I):kf 9 [] I (.bool true):=by
 intro g H w hw;refine qe Tryz.func9 Tryz.ntmps9 hw ?_;have a:=zJH I;refine zR (zA<|zN (zR<|zpb [(0,_)] [QF 7] QS (fun c6=>zpb [(0,_)] [QF 9] QS (fun c7=>zpb [(0,_)] [QF 7] QS (fun c8=>zpb [(0,_),(1,_),(2,_)] [Kv ⟨some ⟨c6,0,none⟩,1,1⟩,Kv ⟨some ⟨c7,0,none⟩,1,1⟩,Kv ⟨some ⟨c8,0,none⟩,1,1⟩] UK (fun i0=>zA<|zN (zR ?_)))))));refine zM ?_;refine zpb [(0,_),(1,_)] [QF 5,QF 7] QS (fun i1=>Wg (fun I1 i4 b8=>?_));have d:=d.mono i4;have a:=a.trans i4;have e1:SlN I1 (some ⟨i0,0,none⟩) 3 3 [[7],[9],[7]]:=zrv (vss:=[[7],[9],[7]]) ([⟨some ⟨c6,0,none⟩,1,1⟩,⟨some ⟨c7,0,none⟩,1,1⟩,⟨some ⟨c8,0,none⟩,1,1⟩]:List Hd) U (show _=some (Obj.cells (([⟨some ⟨c6,0,none⟩,1,1⟩,⟨some ⟨c7,0,none⟩,1,1⟩,⟨some ⟨c8,0,none⟩,1,1⟩]:List Hd).flatMap Kv).toArray 23 (0,0)) from b8 _ _ kD) (((WM.nil.snoc (hd:=⟨some ⟨c6,0,none⟩,1,1⟩) (Sl.lit ([7]:List Int) U QL (show _=some (Obj.cells (([7]:List Int).flatMap QF).toArray 3 (0,0)) from b8 _ _ kD))).snoc (hd:=⟨some ⟨c7,0,none⟩,1,1⟩) (Sl.lit ([9]:List Int) U QL (show _=some (Obj.cells (([9]:List Int).flatMap QF).toArray 3 (0,0)) from b8 _ _ kD))).snoc (hd:=⟨some ⟨c8,0,none⟩,1,1⟩) (Sl.lit ([7]:List Int) U QL (show _=some (Obj.cells (([7]:List Int).flatMap QF).toArray 3 (0,0)) from b8 _ _ kD)));have j4:Sl I1 1 QF (some ⟨i1,0,none⟩) 2 2 [5,7]:=(Sl.lit ([5,7]:List Int) U QL (show _=some (Obj.cells (([5,7]:List Int).flatMap QF).toArray 3 (0,0)) from b8 _ _ kD));refine zpc [_,_,_,_] U zpG .nil (zjJ (no:=1) (es:=[]) (rd:=[7]) (k:=1) e1 j4 .nil d kC kC kC mK9 rK9 U) ?_;rintro s9 I2 L2 e7 ⟨rfl,x1,x2,x3,x4,x5,x6,rfl,l2,l3,l4⟩;have d:=d.mono e7;have e1:=e1.mono e7;have a:=a.trans e7;refine zM ?_;refine zE ?_;refine zE ?_;refine Qv zhF U U (fun p0=>?_);refine zh Ko ?_;refine zA<|zN (zR ?_)
 refine zM<|zV (Qo U ZG (fun hg=>by exact Cells.g0) U)<|zpc [_,_] U zpg .nil (zG9 e1 l2 l3 l4 d) ?_
 rintro t0 I3 L3 i5 ⟨rfl,ea,en,ec,rfl,f⟩;have d:=d.mono i5;have a:=a.trans i5;refine zM ?_;refine zE ?_;refine zE ?_;refine zA<|zA<|zN (zR<|zV (QK (ps:=[]) [_,_,_,_] zfL U U)<|zpc [_,_] U zpg .nil (zDs d) ?_)
 rintro t1 I4 L4 e8 ⟨rfl,p1,p3,p2,rfl,_⟩;have d:=d.mono e8;have f:=f.mono e8;have a:=a.trans e8;refine zM ?_;refine zE ?_;refine zE ?_;refine zA<|zA<|zN (zR<|qcV (vs:=[_]) U zv3 (zFh _ _)<|zpb [(0,_)] [Kf ⟨false,zlw 3⟩] zws (fun b9=>zV (QK (ps:=[(0,_),(2,_)]) [_,_,_] zv0 U U)<|qcV (vs:=[_]) U zv3 (zFh _ _)<|zpb [(0,_)] [Kf ⟨false,zlw 4⟩] zws (fun c0=>zV (QK (ps:=[(0,_),(2,_)]) [_,_,_] zv0 U U)<|zpb [(0,_),(1,_)] [zlz ⟨1,0,some ⟨b9,0,none⟩,1,1⟩,zlz ⟨2,0,some ⟨c0,0,none⟩,1,1⟩] zCx (fun i2=>zA<|zN (zR ?_)))))
 refine zM<|Wg (fun I5 e9 c5=>?_)
 have d:=d.mono e9;have f:=f.mono e9;have a:=a.trans e9;have j8:Sl I5 15 Kf (some ⟨b9,0,none⟩) 1 1 [⟨false,zlw 3⟩]:=Sl.lit ([⟨false,zlw 3⟩]:List Rd) U zck (show _=some (Obj.cells (([⟨false,zlw 3⟩]:List Rd).flatMap Kf).toArray 60 (0,0)) from c5 _ _ kD);have j9:Sl I5 15 Kf (some ⟨c0,0,none⟩) 1 1 [⟨false,zlw 4⟩]:=Sl.lit ([⟨false,zlw 4⟩]:List Rd) U zck (show _=some (Obj.cells (([⟨false,zlw 4⟩]:List Rd).flatMap Kf).toArray 60 (0,0)) from c5 _ _ kD)
 have h:SlW I5 (some ⟨i2,0,none⟩) 2 2 wK:=⟨[⟨1,0,some ⟨b9,0,none⟩,1,1⟩,⟨2,0,some ⟨c0,0,none⟩,1,1⟩],Sl.lit ([⟨1,0,some ⟨b9,0,none⟩,1,1⟩,⟨2,0,some ⟨c0,0,none⟩,1,1⟩]:List Wt) U zjK (show _=some (Obj.cells (([⟨1,0,some ⟨b9,0,none⟩,1,1⟩,⟨2,0,some ⟨c0,0,none⟩,1,1⟩]:List Wt).flatMap zlz).toArray 65 (0,0)) from c5 _ _ kD),U,fun k w x h1 h2=>by
  rcases k with _ | _ | k
  ·cases h1;cases h2;exact ⟨U,U,j8⟩
  ·cases h1;cases h2;exact ⟨U,U,j9⟩
  simp at h1⟩
 refine zpc [_] U zu8 .nil (zHw h) ?_;rintro t2 I6 L6 e2 ⟨rfl,ta,tc,rfl,hT⟩;have d:=d.mono e2;have f:=f.mono e2;have h:=h.mono e2;have a:=a.trans e2;refine zM ?_;refine zE ?_;refine zE ?_;refine zA<|zA<|zN (zR ?_)
 refine zM ?_;refine zpb [(0,_)] [QF 3] QS (fun i3=>Wg (fun I7 d8 f6=>?_));have d:=d.mono d8;have f:=f.mono d8;have h:=h.mono d8;have hT:=hT.mono d8;have a:=a.trans d8;have j5:Sl I7 1 QF (some ⟨i3,0,none⟩) 1 1 [3]:=(Sl.lit ([3]:List Int) U QL (show _=some (Obj.cells (([3]:List Int).flatMap QF).toArray 3 (0,0)) from f6 _ _ kD));refine zpc [_,_,_,_] U zpG .nil (zjJ (no:=1) (es:=[]) (rd:=[36110336]) (k:=1) hT j5 .nil d kC kC kC mK rK U) ?_;rintro t3 I8 L8 d9 ⟨rfl,y1,y2,y3,y4,y5,y6,rfl,t,u,y⟩;have d:=d.mono d9;have f:=f.mono d9;have h:=h.mono d9;have hT:=hT.mono d9;have a:=a.trans d9;refine zM ?_;refine zE ?_;refine zE ?_;refine Qv zhF U U (fun l5=>?_);refine zh Ko ?_;refine zA<|zN (zR<|zV (QK (ps:=[(6,_)]) [_,_,_,_,_,_,_,_,_,_,_,_,_,_] JI U U)<|zV (QK (ps:=[(0,_),(1,_),(3,_),(4,_)]) [_,_,_,_,_,_,_,_,_,_,_,_,_,_,_,_,_,_,_] zFf U U)<|zpb [(0,_)] [Y5 ptK] UO (fun e3=>zA<|zN (zR ?_)))
 refine zM ?_;refine zM<|zV (Qo U ZG (fun hg=>by exact Cells.g1) U)<|zM ?_
 refine zpb [(0,_)] [QF 2] QS (fun e4=>Z5 (b:=e3) (by repeat (first | exact Zb.here | apply Zb.there)) (fun I9 c2 e0=>?_));have d:=d.mono c2;have f:=f.mono c2;have h:=h.mono c2;have hT:=hT.mono c2;have t:=t.mono c2;have u:=u.mono c2;have y:=y.mono c2;have a:=a.trans c2;refine Z5 (b:=e4) (by repeat (first | exact Zb.here | apply Zb.there)) (fun f9 b1 i6=>?_);have d:=d.mono b1;have f:=f.mono b1;have h:=h.mono b1;have hT:=hT.mono b1;have t:=t.mono b1;have u:=u.mono b1;have y:=y.mono b1;have a:=a.trans b1;have e0:=b1 _ _ e0;have T:SlP f9 (some ⟨e3,0,none⟩) 1 1 [ptK]:=⟨Sl.lit ([ptK]:List Pt) U Yj (show _=some (Obj.cells (([ptK]:List Pt).flatMap Y5).toArray 57 (0,0)) from e0),fun p hp=>by rw [jM] at hp;subst hp;exact .nil⟩;have k0:Sl f9 1 QF (some ⟨e4,0,none⟩) 1 1 [2]:=Sl.lit ([2]:List Int) U QL (show _=some (Obj.cells (([2]:List Int).flatMap QF).toArray 3 (0,0)) from i6);refine zpc [_,_,_,_,_,_,_] U zgv .nil (zGh (vs:=[2]) h hT t u y T k0 kC d zIE zId) ?_;rintro m7 n4 o4 b2 ⟨rfl,_,rfl,p6,r6,q4,q0,r2,q8,rfl,i,j⟩;have d:=d.mono b2;have f:=f.mono b2;have h:=h.mono b2;have hT:=hT.mono b2;have t:=t.mono b2;have u:=u.mono b2;have y:=y.mono b2;have T:=T.mono b2;have a:=a.trans b2;refine zM ?_;refine zE ?_;refine zE ?_;refine Qv US U U (fun l6=>?_);refine zh YO ?_;refine zA<|zN (zR ?_)
 refine zM ?_;refine zM<|zV (Qo U ZG (fun hg=>by exact Cells.g1) U)<|zM ?_
 refine zpb [(0,_)] [QF 2] QS (fun e5=>Z5 (b:=e5) (by repeat (first | exact Zb.here | apply Zb.there)) (fun i8 a6 i7=>?_));have d:=d.mono a6;have f:=f.mono a6;have h:=h.mono a6;have hT:=hT.mono a6;have t:=t.mono a6;have u:=u.mono a6;have y:=y.mono a6;have T:=T.mono a6;have i:=i.mono a6;have j:=j.mono a6;have a:=a.trans a6;have k6:Sl i8 1 QF (some ⟨e5,0,none⟩) 1 1 [2]:=Sl.lit ([2]:List Int) U QL (show _=some (Obj.cells (([2]:List Int).flatMap QF).toArray 3 (0,0)) from i7);refine zpc [_,_,_,_,_,_,_] U zgv .nil (zGh (vs:=[2]) h hT t u y T k6 kC d zHE zGD) ?_;rintro m8 n5 o5 a7 ⟨rfl,_,rfl,p7,r7,q5,q1,r3,q9,rfl,l,r⟩;have d:=d.mono a7;have f:=f.mono a7;have h:=h.mono a7;have hT:=hT.mono a7;have t:=t.mono a7;have u:=u.mono a7;have y:=y.mono a7;have T:=T.mono a7;have i:=i.mono a7;have j:=j.mono a7;have a:=a.trans a7;refine zM ?_;refine zE ?_;refine zE ?_;refine Qv US U U (fun l7=>?_);refine zh YO ?_;refine zA<|zN (zR ?_)
 refine zM ?_;refine zM<|zV (Qo U ZG (fun hg=>by exact Cells.g2) U)<|zM<|zpc [_,_,_,_,_,_,_] U zgv .nil (zGh (vs:=[]) h hT t u y T .nil kC d zIN zHU) ?_
 rintro m9 n6 o6 E ⟨rfl,_,rfl,p8,r8,q6,q2,r4,r0,rfl,q,s⟩;have d:=d.mono E;have f:=f.mono E;have h:=h.mono E;have hT:=hT.mono E;have t:=t.mono E;have u:=u.mono E;have y:=y.mono E;have T:=T.mono E;have i:=i.mono E;have j:=j.mono E;have l:=l.mono E;have r:=r.mono E;have a:=a.trans E;refine zM ?_;refine zE ?_;refine zE ?_;refine Qv US U U (fun l8=>?_);refine zh YO ?_;refine zA<|zN (zR ?_)
 refine zM ?_;refine zM<|zV (Qo U ZG (fun hg=>by exact Cells.g3) U)<|zM<|zpc [_,_,_,_,_,_,_] U zgv .nil (zGh (vs:=[]) h hT t u y T .nil kC d zHu zIG) ?_
 rintro n0 n7 o7 z ⟨rfl,_,rfl,p9,r9,q7,q3,r5,r1,rfl,p4,p5⟩;have d:=d.mono z;have f:=f.mono z;have h:=h.mono z;have hT:=hT.mono z;have t:=t.mono z;have u:=u.mono z;have y:=y.mono z;have T:=T.mono z;have i:=i.mono z;have j:=j.mono z;have l:=l.mono z;have r:=r.mono z;have q:=q.mono z;have s:=s.mono z;have a:=a.trans z;refine zM ?_;refine zE ?_;refine zE ?_;refine Qv US U U (fun l9=>?_);refine zh YO ?_;refine zA<|zN (zR ?_)
 refine zM ?_;refine zM<|zV (Qo U ZG (fun hg=>by exact Cells.g4) U)<|zM ?_
 refine zpb [(0,_)] [QF 2] QS (fun c9=>Z5 (b:=c9) (by repeat (first | exact Zb.here | apply Zb.there)) (fun i9 A f0=>?_));have d:=d.mono A;have f:=f.mono A;have h:=h.mono A;have hT:=hT.mono A;have t:=t.mono A;have u:=u.mono A;have y:=y.mono A;have T:=T.mono A;have i:=i.mono A;have j:=j.mono A;have l:=l.mono A;have r:=r.mono A;have q:=q.mono A;have s:=s.mono A;have a:=a.trans A;have k7:Sl i9 1 QF (some ⟨c9,0,none⟩) 1 1 [2]:=Sl.lit ([2]:List Int) U QL (show _=some (Obj.cells (([2]:List Int).flatMap QF).toArray 3 (0,0)) from f0);refine zpc [_,_,_,_,_] U zmw .nil (zI5 (vs:=[2]) h hT t u y T k7 kC d zGi zGY) ?_;rintro n1 n8 o8 B ⟨rfl,s5,s7,rfl,a0⟩;have d:=d.mono B;have f:=f.mono B;have h:=h.mono B;have hT:=hT.mono B;have t:=t.mono B;have u:=u.mono B;have y:=y.mono B;have T:=T.mono B;have i:=i.mono B;have j:=j.mono B;have l:=l.mono B;have r:=r.mono B;have q:=q.mono B;have s:=s.mono B;have a:=a.trans B;refine zM ?_;refine zE ?_;refine zE ?_;refine zA<|zA<|zN (zR ?_)
 refine zM ?_;refine zM<|zV (Qo U ZG (fun hg=>by exact Cells.g4) U)<|zM<|zpc [_,_,_,_,_] U zmw .nil (zI5 (vs:=[]) h hT t u y T .nil kC d zGt zGR) ?_
 rintro n2 n9 o9 b3 ⟨rfl,s6,s8,rfl,m6⟩;have f:=f.mono b3;have i:=i.mono b3;have j:=j.mono b3;have l:=l.mono b3;have r:=r.mono b3;have q:=q.mono b3;have s:=s.mono b3;have a0:=a0.mono b3;have a:=a.trans b3;refine zM ?_;refine zE ?_;refine zE ?_;refine zA<|zA (zN (Qk (zR ?_)))
 refine zM<|zC ?_
 refine zM ?_;refine QI 2 U U U ?_;refine zJ (Qd U)<|zJ (Qx U U U) ?_
 refine Q5 U U U U U<|zM ?_
 refine QI 6 U U U ?_;refine zJ (Qd U)<|zJ (Qx U U U) ?_
 refine Q5 U U U U U<|zM ?_
 refine QI 10 U U U ?_;refine zJ (Qd U)<|zJ (Qx U U U) ?_
 refine Q5 U U U U U<|zM ?_
 refine QI 14 U U U ?_;refine zJ (Qd U)<|zJ (Qx U U U) ?_
 refine Q5 U U U U U<|zM ?_
 refine QI 18 U U U ?_;refine zJ (Qd U)<|zJ (Qx U U U) ?_
 refine Q5 U U U U U<|zM ?_
 refine QI 22 U U U ?_;refine zJ (Qd U)<|zJ (Qx U U U) ?_
 refine Q5 U U U U U<|zM ?_
 refine QI 26 U U U ?_;refine zJ (Qd U)<|zJ (Qx U U U) ?_
 refine Q5 U U U U U<|zM ?_
 refine QI 30 U U U ?_;refine zJ (Qd U)<|zJ (Qx U U U) ?_
 refine Q5 U U U U U<|zM ?_
 refine QI 34 U U U ?_;refine zJ (Qd U)<|zJ (Qx U U U) ?_
 refine Q5 U U U U U<|zM ?_
 refine QI 38 U U U ?_;refine zJ (Qd U)<|zJ (Qx U U U) ?_
 refine Q5 U U U U U<|zM ?_
 refine QI 42 U U U ?_;refine zJ (Qd U)<|zJ (Zs U JG)<|zJ (Qx U U U) ?_
 refine Q5 U U U U U<|zN ?_
 refine zI ?_ ?_<;>intro f7
 ·exact absurd f7 kC
 refine Qm (Qa (Qk (zR (zM<|zpb [(0,_),(1,_)] [QF 0,QF 2] QS (fun d0=>zV (QK (ps:=[(0,_),(1,_)]) [_,_] zky U U)<|zpb [(0,_)] [QF 1] QS (fun d1=>zV (QK (ps:=[(0,_),(1,_)]) [_,_] zky U U)<|zpb [(0,_),(1,_)] [za8 ⟨7,⟨some ⟨d0,0,none⟩,2,2⟩⟩,za8 ⟨9,⟨some ⟨d1,0,none⟩,1,1⟩⟩] zdo (fun d2=>zV (QK (ps:=[(1,_),(2,_)]) [_,_,_] zmn U U)<|zpb [(0,_)] [zbV ⟨0,7,⟨some ⟨d2,0,none⟩,2,2⟩⟩] zdd (fun e6=>Z5 (b:=d0) (by repeat (first | exact Zb.here | apply Zb.there)) (fun o0 b4 b0=>?_)))))))));have f:=f.mono b4;have i:=i.mono b4;have j:=j.mono b4;have l:=l.mono b4;have r:=r.mono b4;have q:=q.mono b4;have s:=s.mono b4;have a0:=a0.mono b4;have a:=a.trans b4;refine Z5 (b:=d1) (by repeat (first | exact Zb.here | apply Zb.there)) (fun o1 a9 b7=>?_);have f:=f.mono a9;have i:=i.mono a9;have j:=j.mono a9;have l:=l.mono a9;have r:=r.mono a9;have q:=q.mono a9;have s:=s.mono a9;have a0:=a0.mono a9;have a:=a.trans a9;have b0:=a9 _ _ b0;refine Z5 (b:=d2) (by repeat (first | exact Zb.here | apply Zb.there)) (fun o2 a8 c4=>?_);have f:=f.mono a8;have i:=i.mono a8;have j:=j.mono a8;have l:=l.mono a8;have r:=r.mono a8;have q:=q.mono a8;have s:=s.mono a8;have a0:=a0.mono a8;have a:=a.trans a8;have b0:=a8 _ _ b0;have b7:=a8 _ _ b7;refine Z5 (b:=e6) (by repeat (first | exact Zb.here | apply Zb.there)) (fun o3 a5 f1=>?_);have f:=f.mono a5;have i:=i.mono a5;have j:=j.mono a5;have l:=l.mono a5;have r:=r.mono a5;have q:=q.mono a5;have s:=s.mono a5;have a0:=a0.mono a5;have a:=a.trans a5;have b0:=a5 _ _ b0;have b7:=a5 _ _ b7;have c4:=a5 _ _ c4;have j6:=zzc b0 b7 c4 f1;refine qcV (vs:=[_,_]) U zwk (zyX f j6)<|zO ?_
 refine zM<|QR (dj:=176) U U U<|zM<|QR (dj:=176) U U U<|zV (Zw (ps:=[(0,_),(1,_)]) [_,_] Yx K4 U U)<|QR (dj:=176) U U U<|zpb [(0,_)] [K6 ((0:Int),(5:Int))] VL (fun d3=>Z5 (b:=d3) (by repeat (first | exact Zb.here | apply Zb.there)) (fun j0 b5 f2=>?_))
 have i:=i.mono b5;have j:=j.mono b5;have l:=l.mono b5;have r:=r.mono b5;have q:=q.mono b5;have s:=s.mono b5;have a0:=a0.mono b5;have a:=a.trans b5;have j7:Sl j0 2 K6 (some ⟨d3,0,none⟩) 1 1 [((0:Int),(5:Int))]:=Sl.lit _ U (fun _=>U) f2;refine QR (dj:=176) U U U<|qcV (vs:=[_,_]) U zww (zm6 a0 j7 kC)<|QR (dj:=176) U U U<|zO<|zV (Z2 U U U)<|zN ?_
 refine zI ?_ ?_<;>intro f8
 ·exact absurd f8 kC
 refine Qm (Qa (zR<|zV (Qo U Yt (fun hg=>by exact Cells.g3) U)<|zpb [(0,_)] [QF 2] QS (fun d4=>zV (QK (ps:=[(0,_),(3,_)]) [_,_,_,_] KU U U)<|Z5 (b:=d4) (by repeat (first | exact Zb.here | apply Zb.there)) (fun j1 b6 f3=>?_))));have i:=i.mono b6;have j:=j.mono b6;have l:=l.mono b6;have r:=r.mono b6;have q:=q.mono b6;have s:=s.mono b6;have a:=a.trans b6;have k8:Sl j1 1 QF (some ⟨d4,0,none⟩) 1 1 [2]:=Sl.lit ([2]:List Int) U QL (show _=some (Obj.cells (([2]:List Int).flatMap QF).toArray 3 (0,0)) from f3);refine qcV (vs:=[_,_]) U ziN (zhA i j .nil k8 (by rw [<-i.len];decide) (by rw [<-j.len];decide))<|zM<|QR (dj:=187) U U U ?_
 refine zV (Qo U Yt (fun hg=>by exact Cells.g2) U)<|QR (dj:=187) U U U<|zpb [(0,_)] [QF 0] QS (fun d5=>QR (dj:=187) U U U<|zV (QK (ps:=[(0,_),(2,_)]) [_,_,_,_] KU U U)<|Z5 (b:=d5) (by repeat (first | exact Zb.here | apply Zb.there)) (fun j2 c1 f4=>?_))
 have l:=l.mono c1;have r:=r.mono c1;have q:=q.mono c1;have s:=s.mono c1;have a:=a.trans c1;have l0:Sl j2 1 QF (some ⟨d5,0,none⟩) 1 1 [0]:=Sl.lit ([0]:List Int) U QL (show _=some (Obj.cells (([0]:List Int).flatMap QF).toArray 3 (0,0)) from f4);refine QR (dj:=187) U U U<|qcV (vs:=[_,_]) U ziN (zhA l r l0 .nil (by rw [<-l.len];decide) (by rw [<-r.len];decide))<|zV (Z2 U U U)<|zM<|QR (dj:=193) U U U ?_
 refine zV (Qo U Yt (fun hg=>by exact Cells.g1) U)<|QR (dj:=193) U U U<|zpb [(0,_)] [QF 0] QS (fun d6=>QR (dj:=193) U U U<|zV (QK (ps:=[(0,_),(2,_)]) [_,_,_,_] KU U U)<|Z5 (b:=d6) (by repeat (first | exact Zb.here | apply Zb.there)) (fun j3 d7 f5=>?_))
 have q:=q.mono d7;have s:=s.mono d7;have a:=a.trans d7;have l1:Sl j3 1 QF (some ⟨d6,0,none⟩) 1 1 [0]:=Sl.lit ([0]:List Int) U QL (show _=some (Obj.cells (([0]:List Int).flatMap QF).toArray 3 (0,0)) from f5);exact QR (dj:=193) U U U<|qcV (vs:=[_,_]) U ziN (zhA q s l1 .nil (by rw [<-q.len];decide) (by rw [<-s.len];decide))<|zV (Z2 U U U)<|zA (zN (Qq<|zp a U U kL))
end
end Go.Proofs.YtodakphagkommaaGreatDoor.R
