/- topOrigins_holds, part H of the proof: what its theorems say holds without further conditions. -/
import Derived.Test.YtmbjmjbjdgjonaaGreatDoorTOG
namespace Go.Proofs.YtmbjmjbjdgjonaaGreatDoor.R
section
open Go Go.Kn Go.Proofs
def kdL (b1:Nat):List Value:=[.nilFunc,.nilFunc,.nilFunc,.func (.func 86) #[] #[],.func (.func 84) #[] #[],.func (.func 87) #[] #[],.func (.func 91) #[] #[],.func (.func 92) #[] #[QZ b1],.func (.func 93) #[] #[],.func (.func 95) #[] #[],.func (.func 85) #[] #[],.func (.func 96) #[] #[],.func (.func 98) #[] #[],.func (.func 99) #[] #[],.func (.func 100) #[] #[],.func (.func 102) #[] #[],.func (.func 103) #[] #[],.func (.func 104) #[] #[],.func (.func 106) #[] #[],.func (.func 107) #[] #[QZ b1],.func (.func 108) #[] #[],.func (.func 110) #[] #[],.func (.func 111) #[] #[QZ b1],.func (.func 113) #[] #[]]
theorem zn8 (I:Qt):ZQ Tryz.prog 39 [] I [] (fun v I' L=>L=[]/\∃ b1,v= .agg (kdL b1).toArray/\Uq I' b1 (.cells #[.func (.func 84) #[] #[]] 109 (0,0))):=by intro g H w hw;refine qe Tryz.func39 Tryz.ntmps39 hw ?_;have hIc:=zGN I;refine zR ?_;refine Qs zsO U U (fun b_0=>?_);refine zN (zR ?_);refine Qs zCq U U (fun b_1=>?_);refine zS zug ?_;refine zN (Ql ?_);refine QQ .here (fun I1 hI1 hb1=>?_);have hIc:=hIc.trans hI1;have h1:=Uq.of hb1;refine Qf ?_;refine zV (Qd U zbv (fun hg=>by exact QB.imm h1 U)) ?_;refine zV (QC (ps:=[(0,_),(1,_),(2,_)]) [_,_,_] WI U U) ?_;refine zV (QN (us:=[]) (vs:=[_]) U U) ?_;refine zV (QC (ps:=[(0,_),(1,_),(2,_)]) [_,_,_] WI U U) ?_;refine zV (QC (ps:=[(0,_),(1,_),(2,_)]) [_,_,_] WI U U) ?_;refine zV (QC (ps:=[(0,_),(1,_),(2,_)]) [_,_,_] WI U U) ?_;refine zV (QC (ps:=[(0,_),(1,_),(2,_)]) [_,_,_] WI U U) ?_;refine zV (QN (us:=[]) (vs:=[_]) U U) ?_;refine zV (QC (ps:=[(0,_),(1,_),(2,_)]) [_,_,_] WI U U) ?_;refine zV (QN (us:=[]) (vs:=[_]) U U) ?_;refine zV (QC (ps:=[(0,_),(1,_),(2,_)]) [_,_,_] WI U U) ?_;refine zV (ZT (ps:=[(1,_),(2,_),(3,_),(4,_),(5,_),(6,_),(7,_)]) (kdL b_1) zc4 zsO U U) ?_;refine zh zvY ?_;refine zN (Qr ?_);exact Ku U U (.ag zvQ (vs:=kdL b_1) kJ U) (fun w hw=>⟨_,I1,[],U,hIc,hw.drop,U,b_1,U,h1⟩)
variable{I:Qt}{b1:Nat}
theorem zzE (h1:Uq I b1 (.cells #[.func (.func 84) #[] #[]] 109 (0,0))){k:Int}(hk:1<=k/\k<=7):∃ (f0 f1 f2:Nat) (c0 c1 c2:List Value),((kdL b1).drop (k.toNat*3)).take 3=[.func (.func f0) #[] c0.toArray,.func (.func f1) #[] c1.toArray,.func (.func f2) #[] c2.toArray]/\KdR Tryz.prog k I f0 f1 f2 c0 c1 c2:=by
 have hc:k=1\/k=2\/k=3\/k=4\/k=5\/k=6\/k=7:=kB;rcases hc with rfl | rfl | rfl | rfl | rfl | rfl | rfl
 ·exact ⟨86,84,87,[],[],[],U,⟨zie,fun I2 h2 e=>⟨_,zen I2 e⟩⟩,⟨zhI,fun I2 h2 e=>⟨_,zjg I2 e⟩⟩,⟨zBY,fun I2 h2 e=>zxY I2 e⟩⟩
 ·exact ⟨91,92,93,[],[QZ b1],[],U,⟨zA2,fun I2 h2 e=>⟨_,zxN I2 e⟩⟩,⟨zAH,fun I2 h2 e=>⟨_,zDe (h1.mono h2) e⟩⟩,⟨zA7,fun I2 h2 e=>zvS I2 e⟩⟩
 ·exact ⟨95,85,96,[],[],[],U,⟨zzV,fun I2 h2 e=>⟨_,zvA I2 e⟩⟩,⟨ztQ,fun I2 h2 e=>⟨_,ztm I2 e⟩⟩,⟨zzB,fun I2 h2 e=>zum I2 e⟩⟩
 ·exact ⟨98,99,100,[],[],[],U,⟨zz1,fun I2 h2 e=>⟨_,zyU I2 e⟩⟩,⟨zAb,fun I2 h2 e=>⟨_,zzm I2 e⟩⟩,⟨zuj,fun I2 h2 e=>zub I2 e⟩⟩
 ·exact ⟨102,103,104,[],[],[],U,⟨zt3,fun I2 h2 e=>⟨_,zvW I2 e⟩⟩,⟨zuw,fun I2 h2 e=>⟨_,zzd I2 e⟩⟩,⟨zuc,fun I2 h2 e=>ztW I2 e⟩⟩
 ·exact ⟨106,107,108,[],[QZ b1],[],U,⟨zxe,fun I2 h2 e=>⟨_,zvt I2 e⟩⟩,⟨zyp,fun I2 h2 e=>⟨_,zzY (h1.mono h2) e⟩⟩,⟨zwU,fun I2 h2 e=>zwl I2 e⟩⟩
 exact ⟨110,111,113,[],[QZ b1],[],U,⟨zvZ,fun I2 h2 e=>⟨_,zw9 I2 e⟩⟩,⟨zw5,fun I2 h2 e=>⟨_,zzP (h1.mono h2) e⟩⟩,⟨zxg,fun I2 h2 e=>zxD I2 e⟩⟩
def bsL (xs:List Sg)(t:Int)(i j:Nat):Nat:=if i<j then (if V2 (xs.getD ((i+j) / 2) ZU).id t<0 then bsL xs t ((i+j) / 2+1) j else bsL xs t i ((i+j) / 2)) else i
termination_by j-i
variable{xs:List Sg}{t:Int}{i j:Nat}{y:Sg}
theorem zEV (h:i<j)(hy:xs[(i+j) / 2]? =some y)(hc:V2 y.id t<0):bsL xs t i j=bsL xs t ((i+j) / 2+1) j:=by rw [bsL,jb h,Ot,hy];exact jb hc
theorem zyW (h:i<j)(hy:xs[(i+j) / 2]? =some y)(hc:0<=V2 y.id t):bsL xs t i j=bsL xs t i ((i+j) / 2):=by rw [bsL,jb h,Ot,hy];exact ja (show ¬V2 y.id t<0 by omega)
theorem zzq :bsL xs t i i=i:=by rw [bsL,ja kB]
theorem zuO {xs:List Sg}{t:Int}{i j:Nat}(h:i<=j):bsL xs t i j<=j:=by
 rw [bsL];split
 ·split
  ·exact zuO kB
  ·have:=zuO (xs:=xs) (t:=t) (i:=i) (j:=(i+j) / 2) kB;omega
 ·exact h
termination_by j-i
variable{α:Type}{av:Option Addr}{n c:Nat}{enc:α->List Value}
theorem slv {e size:Nat}{xs:List α}{L:Go.Kn.Loc}(hO:OwnS e size (.slice av n c) n (xs.flatMap enc) L)(hs:∀ x,(enc x).length=size)(hsz:0<size)(hI:∀ b o,(b,o)∈L->I b=some o):Sl I size enc av n c xs:=by obtain ⟨av',c',e9,h⟩:=hO.sl hs hsz hI;cases e9;exact h
variable{p:Nat×Obj}
theorem zhc {L:Go.Kn.Loc}:Yu (p::L) (L++[p]) []:=by have h:=zgX (L:=L) (R:=[]) (p:=p);rwa [jz] at h
variable{b:Nat}{fz:Nat×Nat}{e:Ed}{l:Go.Kn.Loc}
theorem zrM {t:Nat}(h:I b=some (.cells (X6 e).toArray t fz)):Cells I l b (0+8) (Zk e.sign):=fun j u hu=>by
 have hj:j<14:=(jc.1 hu).1;refine QB.imm h ?_;rw [YU];show (X6 e)[0+8+j]? =_;rw [show X6 e=[.int .i64 e.kind,.int .i64 e.role,.int .i64 e.other,.int .i64 e.fr,.int .i64 e.to,.int .i64 e.by_,.int .i64 e.rn,.int .i64 e.rd]++Zk e.sign from U,OI (by show 8<=0+8+j;omega)];rw [show 0+8+j-([.int .i64 e.kind,.int .i64 e.role,.int .i64 e.other,.int .i64 e.fr,.int .i64 e.to,.int .i64 e.by_,.int .i64 e.rn,.int .i64 e.rd]:List Value).length=j from by show 0+8+j-8=j;omega];exact hu
def zar (xs:List Sg)(e:Ed)(k:Nat)(ys:List Sg):Prop:=(∀ y∈ys,(∃ x∈xs,x.id=y.id/\x.kind=y.kind)\/(e.kind=5/\y.id=e.sign.id))/\∀ i,cE e.kind e=some i->∀ x∈xs.take k,x.id≠i
theorem zar.nil :zar xs e 0 []:=⟨fun y hy=>(by cases hy),fun i _ x hx=>(by simp at hx)⟩
variable{ys:List Sg}{x:Sg}{k:Nat}
theorem zar.app {zs:List Sg}(h:zar xs e k ys)(hx:xs[k]? =some x)(hz:∀ z∈zs,z.id=x.id/\z.kind=x.kind)(hn:∀ i,cE e.kind e=some i->x.id≠i):zar xs e (k+1) (ys++zs):=by
 refine ⟨fun y hy=>?_,fun i hi z hz2=>?_⟩
 ·rcases jv.1 hy with h1 | h1
  ·exact h.1 y h1
  ·exact .inl ⟨x,jd hx,(hz y h1).1.symm,(hz y h1).2.symm⟩
 ·rw [jP,hx] at hz2;rcases jv.1 hz2 with h1 | h1
  ·exact h.2 i hi z h1
  ·simp at h1;subst h1;exact hn i hi
theorem zar.ins (h:zar xs e k ys)(hk:e.kind=5):zar xs e k (ys.take i++e.sign::ys.drop i):=by
 refine ⟨fun y hy=>?_,h.2⟩;rcases jv.1 hy with h1 | h1
 ·exact h.1 y (Ah h1)
 ·rcases jp.1 h1 with rfl | h2
  ·exact .inr ⟨hk,U⟩
  ·exact h.1 y (List.mem_of_mem_drop h2)
theorem zvJ (h:chkG xs=0)(hx:x∈xs)(hy:y∈xs)(e:x.id=y.id):x=y:=by have hs:=(Y5 h).2;have h1:=WD (VL hs) hx;have h2:=WD (VL hs) hy;rw [e,h2] at h1;exact (Ob h1).symm
theorem zar.app_r (h:zar xs e k ys)(hk:xs.length<=k)(h1:chkG xs=0)(h2:chkG ys=0):zE2 xs e.kind e.sign.id ys:=by
 refine ⟨h1,h2,fun s hs hy=>?_,fun s x y hx hy=>?_⟩
 ·obtain ⟨y,hy⟩:=jW.1 hy;rcases h.1 y (JQ hy) with ⟨x,hx,e1,_⟩ | ⟨hk,e1⟩
  ·exact absurd (e1.trans (Vr hy)) (KN.1 hs x hx)
  ·exact ⟨hk,by rw [<-e1,Vr hy]⟩
 ·rcases h.1 y (JQ hy) with ⟨x',hx',e1,e2⟩ | ⟨h5,e1⟩
  ·rw [<-e2,zvJ h1 (JQ hx) hx' (by rw [Vr hx,e1,Vr hy])]
  ·refine absurd ?_ (h.2 e.sign.id (by unfold cE;rw [jb h5]) x (by rw [jD hk];exact JQ hx));rw [Vr hx,<-e1,Vr hy]
theorem zGA {k:Int}(h:Zu k 1 7=true):1<=k/\k<=7:=by unfold Zu at h;simp at h;exact h
theorem zs6 (I:Qt)(x y:Sg):Zt Tryz.prog 41 [Yp x,Yp y] I (.int .i64 (V2 x.id y.id)):=by intro g H w hw;refine qe Tryz.func41 Tryz.ntmps41 hw ?_;refine zR ?_;refine QG U U U (fun b_2=>?_);refine QG U U U (fun b_3=>?_);refine zA ?_;refine zN (zR ?_);refine zF Zb ?_;refine zL Qq ?_;refine zF Zb ?_;refine zL Qq ?_;refine qcV (vs:=[_,_]) U zfe (zjC I _ _) ?_;refine zA (zN (Qr ?_));exact zr U U kL
theorem zEB (hS:Sl I 14 Zk av n c xs)(hn:n<=100000)(t:Sg):Zt Tryz.prog 40 [.slice av n c,Yp t,.func (.func 41) #[] #[]] I (.tuple #[.int .i64 (bsL xs t.id 0 n:Nat),.bool (decide (bsL xs t.id 0 n<n)&&(V2 (xs.getD (bsL xs t.id 0 n) ZU).id t.id==0))]):=by
 intro g H w hw;refine qe Tryz.func40 Tryz.ntmps40 hw ?_;refine zR ?_;refine QG U U U (fun b_4=>?_);refine zA ?_;refine zA ?_;refine zN (zR ?_);refine zM ?_;refine zQ Q4 ?_;refine zA ?_;refine zN (zR ?_);refine zM ?_;refine zA ?_;refine zA (zN (Ql (Qp ?_)));refine zU [(0,_),(2,_),(4,_),(8,_)] (fun T L0 mz E I' loc'=>∃ (i j:Nat),mz=j-i/\E=(9,.int .i64 i)::(10,.int .i64 j)::T/\I=I'/\L0=loc'/\i<=j/\j<=n/\bsL xs t.id i j=bsL xs t.id 0 n) ?_ (h:=⟨0,n,U,U,U,U,jf _,js _,U⟩);rintro mz E I' loc' ⟨i,j,rfl,rfl,rfl,rfl,hij,hjn,hbs⟩;refine Ql (zR (zM ?_));refine zM ?_;refine zC (zN ?_);refine zI ?_ ?_<;>intro hc17
 ·have hlt:i<j:=(by have h:=hc17;simp at h;omega);obtain ⟨y,hy⟩:=hS.at (k:=(i+j) / 2) kB;refine Qo (Qa (Qp (zR (zM ?_))));refine zM ?_;refine zB ?_;refine zV (YK U Jp) ?_;refine zV (zi9 U U kE (rfl:min _ _=1)) ?_;refine zV (YK U Xc) ?_;refine zA (Qb ?_);rw [zki i j kB];refine Qa (Ql ?_);refine YE mixed kA ?_;refine zq (Qj U) ?_;refine zq (Qj U) ?_;refine zq (Qj U) ?_;refine zq (Qy U U Q4 kI (fun hg=>kB)) ?_;refine zq (Qk U QY (fun hg=>by exact zGO (k:=(i+j) / 2) hS hy) U) ?_;refine zq (Qk U QY (fun hg=>by exact zGL) U) ?_;refine Jq (cap:=[]) (vs:=[_,_]) U U zsc (zs6 I _ _) U U ?_;refine zq (QI U U U) ?_;refine YC ?_;refine Qa ?_;refine zI ?_ ?_<;>intro hc31
  ·refine Qf (zM ?_);refine zB ?_;refine zA (Qb (Qg ?_));exact zm (h:=⟨j-((i+j) / 2+1),kB,(i+j) / 2+1,j,U,U,U,U,kB,hjn,by rw [<-hbs,zEV hlt hy (by simpa using hc31)]⟩)
  refine Qf (zM ?_);refine zA (Qb (Qg ?_));exact zm (h:=⟨(i+j) / 2-i,kB,i,(i+j) / 2,U,U,U,U,kB,kB,by rw [<-hbs,zyW hlt hy (by simpa using hc31)]⟩)
 have hge:j<=i:=(by have h:=hc17;simp at h;omega);have hje:j=i:=kB;subst hje;rw [zzq] at hbs;refine QF (Qh (Qh (Qm (Qa (Ql ?_)))));refine YE mixed kA ?_;refine zq (Qj U) ?_;refine zq (Qj U) ?_;refine zq (Qj U) ?_;refine zq (QI U U U) ?_;refine zq (Qj U) ?_;refine za9 4 U U U ?_;refine zk (Qj U) ?_;refine zk (Qj U) ?_;refine zk (Qj U) ?_;refine zk (Qy U U Q4 kI (fun hg=>by (simp [ZS] at hg;omega))) ?_;refine zk (Qk U QY (fun hg=>by exact zGO (k:=j) hS (Zc (d:=ZU) hS.len (by simp [ZS] at hg;omega))) U) ?_;refine zk (Qk U QY (fun hg=>by exact zGL) U) ?_;refine UT (cap:=[]) (vs:=[_,_]) U U zsc (fun hg=>zs6 I _ _) (.some U U U U gbt) U U ?_;refine zk (QI U U U) ?_;refine zyl U U U U U ?_;refine zq (QU U) ?_;refine zq (QU U) ?_;refine YC ?_;refine Qa (Qr ?_);exact Q9 U U U (fun w hw=>⟨by rw [<-hbs];simp,hw.drop⟩)
variable{zs:List Value}
theorem zvv {a:Nat}(h:a+b<=zs.length):∃ p q r,zs=p++(q++r)/\p.length=a/\q.length=b:=
 ⟨zs.take a,(zs.drop a).take b,(zs.drop a).drop b,by rw [jy,jy],by rw [jH];omega,by rw [jH,j7];omega⟩
theorem zru (xs:List Sg):(xs.flatMap Zk).length=xs.length*14:=ZF Z8 xs
theorem zih {cur rest:List Value}(hl:xs.length=n)(hn:n<=c)(hc:c<=maxLen)(hcur:cur=xs.flatMap Zk++rest)(hs:cur.length=c*14):OwnS 28 14 (.slice (some ⟨b,0,none⟩) n c) n (xs.flatMap Zk) [(b,.cells cur.toArray 28 (0,0))]:=by subst hcur;refine ⟨by rw [zru,hl],.inr ⟨b,c,_,U,U,hn,hc,by simpa using hs,?_⟩⟩;rw [List.take_left' (by rw [zru,hl])]
theorem znf {L:Go.Kn.Loc}(hO:OwnS 28 14 (.slice av n c) n (xs.flatMap Zk) L)(hn:n<=100000)(hl:xs.length=n)(b2:Nat)(y:Sg):ZQ Tryz.prog 43 [.slice av n c,.int .i64 n,.slice (some ⟨b2,0,none⟩) 1 1] I (L++[(b2,.cells [Zk y].flatten.toArray 28 (0,0))]) (fun v' I' L'=>I'=I/\OwnS 28 14 v' (n+1) ((xs.take n++y::xs.drop n).flatMap Zk) L'):=by
 intro g H w hw;refine qe Tryz.func43 Tryz.ntmps43 hw ?_;refine zR (zA ?_);refine zN (zR ?_);refine zM ?_;refine zM ?_;refine zV (Jf U U Q4 (fun hg=>kB)) ?_;refine zN (zR ?_);refine zM ?_;refine zQ Q4 ?_;refine zA (zN (Ql (zR ?_)));refine zM ?_;refine zC (zN ?_);refine zI ?_ ?_<;>intro hc16
 ·exact absurd hc16 kE
 refine Qo (Qa (zR (zM ?_)));refine zQ Q4 ?_;refine zA (zN (Ql (zR ?_)));refine zM ?_;refine zM ?_;refine zC (zN ?_);refine zI ?_ ?_<;>intro hc22
 ·refine zR (zM ?_);refine zM ?_;refine zpa (_) ([Zk y].flatten) (L) U U VG hO ⟨U,fun _=>U,.app zGL⟩ U ?_;intro v' L' hO' _;refine zA (zN (Qr (Qc ?_)));exact QR U U (fun w hw=>⟨_,I,_,U,zGN _,hw.subL QS,U,by rw [jD kB,Oa kB];simpa [jo] using hO'⟩)
 exact absurd hc22 kK
variable{R:List Value}
theorem zpw (hl:xs.length=n)(hi:i<n)(hn:n<=100000)(hnc:n<=c)(hcm:c<=maxLen)(hR:(((xs.take i).flatMap Zk)++((xs.drop i).flatMap Zk)++R).length=c*14)(b2:Nat)(hne:b2≠b)(y:Sg):ZQ Tryz.prog 43 [.slice (some ⟨b,0,none⟩) n c,.int .i64 i,.slice (some ⟨b2,0,none⟩) 1 1] I ([(b,.cells (((xs.take i).flatMap Zk)++((xs.drop i).flatMap Zk)++R).toArray 28 (0,0)),(b2,.cells [Zk y].flatten.toArray 28 (0,0))]) (fun v' I' L'=>I'=I/\OwnS 28 14 v' (n+1) ((xs.take i++y::xs.drop i).flatMap Zk) L'):=by
 intro g H w hw;refine qe Tryz.func43 Tryz.ntmps43 hw ?_;have hA:((xs.take i).flatMap Zk).length=i*14:=(by rw [zru,jH];omega);have hB:((xs.drop i).flatMap Zk).length=(n-i)*14:=(by rw [zru,j7];omega);refine zR (zA ?_);refine zN (zR ?_);refine zM ?_;refine zM ?_;refine zV (YH U U Q4 kB) ?_;refine zN (zR ?_);refine zM ?_;refine zQ Q4 ?_;refine zA (zN (Ql (zR ?_)));refine zM ?_;refine zC (zN ?_);refine zI ?_ ?_<;>intro hc16
 ·exact absurd hc16 kE
 refine Qo (Qa (zR (zM ?_)));refine zQ Q4 ?_;refine zA (zN (Ql (zR ?_)));refine zM ?_;refine zM ?_;refine zC (zN ?_);refine zI ?_ ?_<;>intro hc22
 ·have h:=hc22;simp at h;omega
 refine Qo (Qa (Ql (zR (zM ?_))));refine zM ?_;refine zB ?_;refine zM ?_;refine zV (zmD U Q4) ?_;refine zC (zN ?_);refine zI ?_ ?_<;>intro hc31
 ·have hgr:c<n+1:=(by have h:=hc31;simp at h;omega);refine zR (zM ?_);refine zM ?_;refine zV (KM U U Q4 (fun hg=>kB)) ?_;refine zM ?_;refine zM ?_;refine zB ?_;refine zM ?_;refine zB ?_;refine zj4 (ys:=((xs.take i).flatMap Zk)) U U VG zzN kB kE kB hA (Cells.part (pre:=[]) (post:=((xs.drop i).flatMap Zk)++R) (by rw [j8,<-jn];exact .here) U) kB U U (fun b3 c3 zs hc3 hm3 hz3=>?_);obtain ⟨z1,z2,z3,rfl,hz1,hz2⟩:=zvv (zs:=zs) (a:=14) (b:=(n-i)*14) (by rw [jh,hA] at hz3;omega);refine zA ?_;refine zN (zR ?_);refine zM ?_;refine zM ?_;refine zV (YH U U Q4 kB) ?_;refine zM ?_;refine zdf (pre:=((xs.take i).flatMap Zk)) (old:=z1) (post:=z2++z3) (vs:=[Zk y].flatten) (cur':=(((xs.take i).flatMap Zk)++[Zk y].flatten++(z2++z3)).toArray) (by rw [jn]) U U U Q4 (by show 14=_;simp only [Nat.min_def];split<;>omega) (by rw [hz1];rfl) kB (fun _=>U) (.there (.there .here)) U U U .here ?_;refine zN (Ql ?_);have hD:=zGN I;refine YZ ?_;refine ZA I [] mixed ?_;refine zT 0 U (Qj U) hD ?_;refine zT 1 U (Qj U) hD ?_;refine zT 2 U (Qj U) hD ?_;refine zT 3 U (ZL U U U (fun _=>kB)) hD ?_;refine zT 4 U (YH U U Q4 kB) hD ?_;refine zT 5 U (Qj U) hD ?_;refine zT 6 U (Qj U) hD ?_;refine zT 7 U (YH U U Q4 kB) hD ?_;refine qd 8 U ?_;refine zdf (pre:=((xs.take i).flatMap Zk)++[Zk y].flatten) (old:=z2) (post:=z3) (vs:=((xs.drop i).flatMap Zk)) (cur':=(((xs.take i).flatMap Zk)++[Zk y].flatten++((xs.drop i).flatMap Zk)++z3).toArray) (by rw [jn,jn,jn]) U U U Q4 (by rw [hB];simp only [Nat.min_def];split<;>omega) (by rw [hz2,hB]) (by rw [jh,hA];show i*14+14=_;omega) (fun _=>U) (.there (Cells.part (pre:=((xs.take i).flatMap Zk)) (post:=R) .here (by show 0+_=_;rw [hA];omega))) (zgW _) U U .here ?_;refine Qb ?_;refine zD hD ?_;refine Qz kA ?_;refine QD ?_;refine Qa (zR (zM ?_));refine zA (zN (Qr (Qc ?_)))
  first
  | exact QR U U (fun w hw=>⟨_,I,_,U,zGN _,hw.subL (.keep Yb),U,by rw [show (i:Int).toNat+((n:Int)+((1:Nat):Int)-(i:Int)).toNat=n+1 by omega];exact zih (rest:=z3) (by simp [hl];omega) kB hm3 (by simp) (by simp only [jh,hA,hB,hz1,hz2] at hz3 ⊢;show _+14+_+_=_;omega)⟩)
 have hgr:n+1<=c:=(by have h:=hc31;simp at h;omega);refine Qo (Qa (Ql ?_));obtain ⟨r5,R2,rfl,hr5⟩:∃ r5 R2,R=r5++R2/\r5.length=14:=⟨R.take 14,R.drop 14,by rw [jy],by rw [jH];simp only [jh,hA,hB] at hR;omega⟩;obtain ⟨p1,p2,hpp,hp1,hp2⟩:∃ p1 p2,((xs.drop i).flatMap Zk)++r5=p1++p2/\p1.length=14/\p2.length=(n-i)*14:=⟨(((xs.drop i).flatMap Zk)++r5).take 14,(((xs.drop i).flatMap Zk)++r5).drop 14,by rw [jy],by rw [jH,jh,hB,hr5];omega,by rw [j7,jh,hB,hr5];omega⟩;have hcur:(((xs.take i).flatMap Zk)++((xs.drop i).flatMap Zk)++(r5++R2)).toArray=(((xs.take i).flatMap Zk)++p1++p2++R2).toArray:=(by rw [jn (((xs.take i).flatMap Zk)++p1),jn ((xs.take i).flatMap Zk) p1,<-jn p1,<-hpp];simp only [jn]);refine Qf (zM ?_);refine zM ?_;refine zM ?_;refine zB ?_;refine zV (KM U U Q4 (fun hg=>kB)) ?_;refine zA (zN (Ql (zR ?_)));refine zM ?_;refine zM ?_;refine zM ?_;refine zM ?_;refine zB ?_;refine zV (YH U U Q4 kB) ?_;refine zhr U U U Tryz.func117 kA kA kA (by kernel_rfl:Extern.find Tryz.f117=some (Extern.SlicesOverlaps.overlaps #[44,44] #[4])) Q4 hne (jq _ (jk ..)) (jk ..) (by rw [Oh,hR];omega) U U ?_;refine zO (zN ?_);refine zI ?_ ?_<;>intro hc68
 ·refine Ql ?_;have hD:=zGN I;refine YZ ?_;refine ZA I [] mixed ?_;refine zT 0 U (Qj U) hD ?_;refine zT 1 U (Qj U) hD ?_;refine zT 2 U (Qj U) hD ?_;refine zT 3 U (ZL U U U (fun _=>kB)) hD ?_;refine zT 4 U (YH U U Q4 kB) hD ?_;refine zT 5 U (Qj U) hD ?_;refine zT 6 U (Qj U) hD ?_;refine zT 7 U (YH U U Q4 kB) hD ?_;refine qd 8 U ?_;refine zdf (pre:=((xs.take i).flatMap Zk)++p1) (old:=p2) (post:=R2) (vs:=((xs.drop i).flatMap Zk)) (cur':=(((xs.take i).flatMap Zk)++p1++((xs.drop i).flatMap Zk)++R2).toArray) hcur U U U Q4 (by rw [hB];simp only [Nat.min_def];split<;>omega) (by rw [hp2,hB]) (by rw [jh,hA,hp1];omega) (fun _=>U) (Cells.part (pre:=((xs.take i).flatMap Zk)) (post:=r5++R2) .here (by show 0+_=_;rw [hA];omega)) (zgW _) U U .here ?_;refine Qb ?_;refine zD hD ?_;refine Qz kA ?_;refine QD ?_;refine Qa (zR (zM ?_));refine zM ?_;refine zV (YH U U Q4 kB) ?_;refine zM ?_;refine zdf (pre:=((xs.take i).flatMap Zk)) (old:=p1) (post:=((xs.drop i).flatMap Zk)++R2) (vs:=[Zk y].flatten) (cur':=(((xs.take i).flatMap Zk)++[Zk y].flatten++(((xs.drop i).flatMap Zk)++R2)).toArray) (by rw [jn (_++_)]) U U U Q4 (by show 14=_;simp only [Nat.min_def];split<;>omega) (by rw [hp1];rfl) kB (fun _=>U) (.there .here) U U U .here ?_;refine zN (zR ?_);refine zM ?_;refine zA (zN (Qr (Qc ?_)))
  first
  | exact QR U U (fun w hw=>⟨_,I,_,U,zGN _,hw.subL (.keep Yb),U,by rw [show ((n:Int)+((1:Nat):Int)).toNat=n+1 by omega];exact zih (rest:=R2) (by simp [hl];omega) hgr hcm (by simp) (by simp only [jh,hA,hB,hr5] at hR ⊢;show _+14+_=_;omega)⟩)
 cases hc68
variable{v:Value}
theorem zoO {L:Go.Kn.Loc}(hO:OwnS 28 14 v n (xs.flatMap Zk) L)(hn:n<=100000)(hl:xs.length=n)(hi:i<=n)(b2:Nat)(y:Sg):
  ZQ Tryz.prog 43 [v,.int .i64 i,.slice (some ⟨b2,0,none⟩) 1 1] I (L++[(b2,.cells [Zk y].flatten.toArray 28 (0,0))]) (fun v' I' L'=>I'=I/\OwnS 28 14 v' (n+1) ((xs.take i++y::xs.drop i).flatMap Zk) L'):=by
 by_cases hin:i=n
 ·subst hin;obtain ⟨av,c,rfl⟩:=hO.shape;exact znf hO hn hl b2 y
 rcases hO.2 with ⟨_,h0,_⟩ | ⟨b,c,cur,rfl,rfl,hnc,hcm,hcs,ht⟩
 ·omega
 intro g H w hw
 have hne:b2≠b:=fun e=>by
  have:=hw.nodup;subst e;simp at this
 have hsplit:(xs.take i).flatMap Zk++(xs.drop i).flatMap Zk=xs.flatMap Zk:=by rw [<-jo,jy]
 have hcur:cur=((xs.take i).flatMap Zk++(xs.drop i).flatMap Zk++cur.toList.drop (n*14)).toArray:=by
  rw [hsplit,<-ht,jy,AT]
 rw [hcur] at hw;exact zpw hl kB hn hnc hcm (by rw [hsplit,<-ht,jy,O5,hcs]) b2 hne y g H w hw
theorem zxX (hS:Sl I 14 Zk av n c xs)(hn:n<=1000)(e:Ed):ZQ Tryz.prog 11 [.slice av n c,Y1 e] I [] (fun v I' L=>L=[]/\∃ a9 n9 c9 ys er,v= .tuple #[.slice a9 n9 c9,.int .i64 er]/\Sl I' 14 Zk a9 n9 c9 ys/\n9<=n+1/\(er=0->zE2 xs e.kind e.sign.id ys)/\(chkG xs=0->Zu e.kind 1 7=false->er=360)):=by
 intro g H w hw;refine qe Tryz.func11 Tryz.ntmps11 hw ?_;have hIc:=zGN I;refine zR ?_;refine QG U U U (fun b_3=>?_);refine zA ?_;refine zA (zN (Ql (Ql ?_)));refine QQ .here (fun I1 hI1 hb1=>?_);have hS:=hS.mono hI1;have hIc:=hIc.trans hI1;have hE:=Uq.of hb1;refine Qf (zM ?_);refine qcV (vs:=[_]) U zaQ (Xx hS kB) ?_;refine zA ?_;refine zN (zR ?_);refine zM ?_;refine zC (zN ?_);refine zI ?_ ?_<;>intro hc18
 ·have hne:chkG xs≠0:=(by simpa using hc18);refine zR (zM ?_);refine zA ?_;refine zA (zN (Qr (Qc ?_)));exact Q9 U U U (fun w hw=>⟨_,I1,[],U,hIc,hw.drop,U,none,0,0,[],_,U,.nil,jf _,fun h=>absurd h hne,fun h=>absurd h hne⟩)
 have hx0:chkG xs=0:=(by simpa using hc18);refine Qo (Qa (Ql (zR ?_)));refine zF Xs ?_;refine zV (Qd U Qq (fun hg=>by exact QB.imm hE U)) ?_;refine qcV (vs:=[_,_,_]) U Yg (Zq I1 _ _ _) ?_;refine zO (zN ?_);refine zI ?_ ?_<;>intro hc23
 ·have hwi:Zu e.kind 1 7=false:=(by simpa using hc23);refine zR (zA ?_);refine zA (zN (Qr (Qc ?_)));exact Q9 U U U (fun w hw=>⟨_,I1,[],U,hIc,hw.drop,U,none,0,0,[],_,U,.nil,jf _,fun h=>absurd h kE,fun _ _=>U⟩)
 have hwi:Zu e.kind 1 7=true:=(by simpa using hc23);have hk7:=zGA hwi;refine Qo (Qa ?_);refine zY [(0,_),(3,_),(4,_)] (fun T L0 E I' loc'=>∃ (p6 f0 f1 f2:Nat) (c0 c1 c2:List Value),E=(6,QZ p6)::T/\HLe I1 I'/\[(p6,.cells #[.func (.func f0) #[] c0.toArray,.func (.func f1) #[] c1.toArray,.func (.func f2) #[] c2.toArray] 112 (0,0))]=loc'/\KdR Tryz.prog e.kind I' f0 f1 f2 c0 c1 c2) ?_ ?_
 ·have hKc6:=zGN I1;have hD:=zGN I1;refine YZ ?_;refine ZA I1 [] mixed ?_;refine zT 1 U (Qe U Xs) hD ?_;refine zT 2 U (Qd U Qq (fun hg=>by exact QB.imm hE U)) hD ?_;refine Zo 0 4 U U kA ?_ ?_
  ·refine zpc [] U ztt .nil (zn8 I1) ?_;rintro vv2 I2 L2 hI2 ⟨rfl,b1,rfl,hb1⟩;have hKc6:=hKc6.trans hI2;have hD:=hD.trans hI2;obtain ⟨f0,f1,f2,c0,c1,c2,hkd,hKd⟩:=zzE hb1 hk7;refine Qb ?_;refine zD hD ?_;refine Zo 3 4 U U kA ?_ ?_
   focus
    refine zV (Wd U U zc4 zgq (fun hg=>kB)) ?_;rw [hkd];refine Qb ?_;refine zD hD ?_;refine qd 4 U ?_;refine Qs zkS U U (fun b_6=>?_)
   rotate_left
   refine Qs zkS U U (fun b_6=>?_);refine Qb ?_;refine zD hD ?_;refine qd 3 U ?_;refine zV (Wd U U zc4 zgq (fun hg=>kB)) ?_;rw [hkd]
   all_goals
    refine Qb ?_;refine zD hD ?_;refine qd 5 U ?_;refine zh zgZ ?_;refine Qb ?_;refine zD hD ?_;refine Qz kA ?_;refine QD ?_;exact zm (h:=⟨_,f0,f1,f2,c0,c1,c2,U,hKc6,U,hKd⟩)
  refine Qs zkS U U (fun b_6=>?_);refine Qb ?_;refine zD hD ?_;refine qd 0 U ?_;refine zpc [] U ztt .nil (zn8 I1) ?_;rintro vv3 I3 L3 hI3 ⟨rfl,b1,rfl,hb1⟩;have hKc6:=hKc6.trans hI3;have hD:=hD.trans hI3;obtain ⟨f0,f1,f2,c0,c1,c2,hkd,hKd⟩:=zzE hb1 hk7;refine Qb ?_;refine zD hD ?_;refine qd 3 U ?_;refine zV (Wd U U zc4 zgq (fun hg=>kB)) ?_;rw [hkd];refine Qb ?_;refine zD hD ?_;refine qd 5 U ?_;refine zh zgZ ?_;refine Qb ?_;refine zD hD ?_;refine Qz kA ?_;refine QD ?_;exact zm (h:=⟨_,f0,f1,f2,c0,c1,c2,U,hKc6,U,hKd⟩)
 rintro E J4 loc' ⟨p6,f0,f1,f2,c0,c1,c2,rfl,hJ,rfl,hKd⟩;have hS:=hS.mono hJ;have hE:=hE.mono hJ;have hIc:=hIc.trans hJ;obtain ⟨⟨hF0,hr⟩,⟨hF1,hf⟩,hF2,hd⟩:=hKd;obtain ⟨e2,hr0⟩:=hr _ (zGN _) e;obtain ⟨g1,hf1⟩:=hf _ (zGN _) e;refine zR ?_;refine zF zmr ?_;refine zL zyr ?_;refine zV (Qk U YD (fun hg=>by exact Cells.immC (vs:=X6 e) hE) U) ?_;refine Yo (cap:=c0) (vs:=[_]) U U hF0 (hr0) U U ?_;refine Qs zbT U U (fun b_7=>?_);refine zh U0 ?_;refine zN (zR ?_);refine zF Xs ?_;refine zV (Qd U Qq (fun hg=>by exact QB.imm hE U)) ?_;refine zF Xs ?_;refine zS ZD ?_;refine Qb ?_;rw [zlQ];refine Qa (Ql (zR ?_));refine zV (Qk U YD (fun hg=>by exact zGL) U) ?_;refine zV (Qk U YD (fun hg=>by exact Cells.immC (vs:=X6 e) hE) U) ?_;refine zV (zvs U U zuZ U) ?_;refine zM ?_;refine Q8 3 U U U ?_;refine zJ (Qe U zml) ?_;refine zJ (Qd U zbv (fun hg=>by exact QB.h1 U)) ?_;refine zJ (Qk U YD (fun hg=>by exact Cells.immC (vs:=X6 e) hE) U) ?_;refine UH (cap:=c1) (vs:=[_]) U U hF1 (fun hg=>hf1) (.some U U U U gbf) U U ?_;refine zJ (Vv U) ?_;refine ZO U U U U U ?_;refine zN ?_;refine zI ?_ ?_<;>intro hc44
 ·refine zR (zA ?_);refine zA (zN (Qr (Qc ?_)));exact Q9 U U U (fun w hw=>⟨_,J4,[],U,hIc,hw.drop,U,none,0,0,[],_,U,.nil,jf _,fun h=>absurd h kE,fun _ _=>U⟩)
 refine Qo (Qa ?_);refine zY [(0,_),(3,_),(4,_)] (fun T L0 E I' loc'=>∃ (wv:Value),E=(8,wv)::T/\HLe J4 I'/\[]=loc'/\zmX Tryz.prog (cE e.kind e) I' wv) ?_ ?_
 ·have hKc11:=zGN J4;refine Qf ?_;refine zF zky ?_;refine zL zu1 ?_;refine zV (Qk U YD (fun hg=>by exact Cells.immC (vs:=X6 e) hE) U) ?_;refine Z1 (cap:=c2) (vs:=[_]) U U hF2 .nil (hd _ (zGN _) e) U U ?_;rintro vv5 I5 L5 hI5 ⟨rfl,hW⟩;have hKc11:=hKc11.trans hI5;refine zA (Qb ?_);exact zm (h:=⟨_,U,hKc11,U,hW⟩)
 rintro E J6 loc' ⟨wv,rfl,hJ,rfl,hW⟩;have hS:=hS.mono hJ;have hE:=hE.mono hJ;have hIc:=hIc.trans hJ;refine Ql (zR (zM ?_));refine zQ Q4 ?_;refine zM (zN (Qp ?_));refine zU [(3,_),(8,_),(49,_),(50,_)] (fun T L0 mz E I' loc'=>∃ (k:Nat) (v:Value) (q:Nat) (L:Go.Kn.Loc) (ys:List Sg),mz=n-k/\E=(4,v)::(51,.int .i64 k)::T/\HLe J6 I'/\L=loc'/\k<=n/\OwnS 28 14 v q (ys.flatMap Zk) L/\q<=k/\zar xs e k ys) ?_ (h:=⟨0,_,0,[],[],U,U,zGN _,U,jf _,OwnS.nil,js _,zar.nil⟩);rintro mz E J7 loc' ⟨k,v,q,L,ys,rfl,rfl,hJ,rfl,hk,hO,hq,hfr⟩;have hS:=hS.mono hJ;have hE:=hE.mono hJ;have hW:=hW.mono hJ;have hIc:=hIc.trans hJ;have hB0:=hJ;refine zR (zC (zN (Ql ?_)));refine zI ?_ ?_<;>intro hc52
 ·have hlt_k:k<n:=(by have h:=hc52;simp at h;omega);obtain ⟨x,hx⟩:=hS.at hlt_k;have hW2:=hW;obtain ⟨fw,cw,rfl,hFw,hw9⟩:=hW2;refine Qo (Qa (Ql (Qp (zR ?_))));refine zV (Qy U U Q4 kI (fun hg=>kB)) ?_;refine zV (Qk U QY (fun hg=>by exact zGO hS hx) U) ?_;refine Qs UV U U (fun b_10=>?_);refine zh Yk ?_;refine zN (zR ?_);refine zM ?_;refine zV (Qk U QY (fun hg=>by exact zGL) U) ?_;refine Z1 (cap:=cw) (vs:=[_]) U U hFw .nil (hw9 _ (zGN _) x) U U ?_;rintro vv8 I8 L8 hI8 ⟨rfl,zav,zn,zc,zs,zg,rfl,hZ,hz1,hzid,hzn⟩;have hIc:=hIc.trans hI8;have hB0:=hB0.trans hI8;refine zM ?_;refine zE ?_;refine zE ?_;refine zA ?_;refine zA (zN (Ql (zR ?_)));refine zM ?_;refine zO (zN ?_);refine zI ?_ ?_<;>intro hc62
  ·have hgf:zg=false:=(by simpa using hc62);refine zR (zA ?_);refine zA (zN (Qr (Qc (Qn (Qc (Qc (Qn ?_)))))));refine Qc ?_;exact Q9 U U U (fun w hw=>⟨_,I8,[],U,hIc,hw.drop,U,none,0,0,[],_,U,.nil,jf _,fun h=>absurd h kE,fun _ _=>U⟩)
  have hgt:zg=true:=(by simpa using hc62);refine Qo (Qa (Qf (zM ?_)));refine zM ?_;refine zpa (_) (zs.flatMap Zk) (L) U U VG hO (hZ.src Z8) (zgW zs) ?_;intro v9 L9 hO9 _;rw [<-jo] at hO9;refine zA (Qb (Qg (Qa (Qf ?_))));refine zB ?_;refine zM (Qb ?_);exact zm (h:=⟨n-(k+1),kB,k+1,_,q+zn,_,ys++zs,U,U,hB0,U,kB,hO9,kB,hfr.app hx hzid (fun i hi=>hzn i hi hgt)⟩)
 have hge_k:n<=k:=(by have h:=hc52;simp at h;omega);obtain ⟨pa,pc,rfl⟩:=hO.shape;have hlen:ys.length=q:=(by have h:=hO.1;rw [ZF Z8] at h;omega);obtain rfl:n=k:=kB;refine QF (Qh (Qh (Qm (Qa ?_))));refine ztg [] .nil (fun T L0 E I' loc'=>∃ (v:Value) (q:Nat) (L:Go.Kn.Loc) (ys:List Sg),E=(4,v)::T/\HLe J7 I'/\L=loc'/\OwnS 28 14 v q (ys.flatMap Zk) L/\q<=n+1/\zar xs e n ys) ?_ ?_
 ·have hKc20:=zGN J7;refine zR ?_;refine zF Xs ?_;refine zV (Qd U Qq (fun hg=>by exact QB.imm hE U)) ?_;refine zC (zN ?_);refine zI ?_ ?_<;>intro hc69
  ·have hk5:e.kind=5:=(by simpa using hc69);refine zR (zM ?_);refine zF Xe ?_;refine zV (Qk U QY (fun hg=>by exact zrM hE) U) ?_;refine KL (cap:=[]) (vs:=[_,_,_]) U U zDG QT (zke.ofV fun I' hI' hL'=>zEB (slv hO Z8 kE hL') kB e.sign) U U ?_;refine zM ?_;refine zE ?_;refine zE ?_;refine zA ?_;refine zA (zN (Qf ?_));refine zM ?_;refine zM ?_;refine zF Xe ?_;refine zV (Qk U QY (fun hg=>by exact zrM hE) U) ?_;refine zpb [(0,_)] [Zk e.sign] VG (fun b_81=>?_);refine zpc [_,_,_] U zzS zhc (zoO hO kB hlen (zuO (jf _)) b_81 e.sign) ?_;rintro vv9 I9 L9 hI9 ⟨rfl,hO9⟩;have hKc20:=hKc20.trans hI9;refine zA (Qb ?_);exact zm (h:=⟨_,_,_,_,U,hKc20,U,hO9,kB,hfr.ins hk5⟩)
  refine Qo ?_;exact zm (h:=⟨_,_,_,_,U,hKc20,U,hO,kB,hfr⟩)
 rintro E J10 loc' ⟨v,q,L,ys,rfl,hJ,rfl,hO,hq,hfr⟩;have hS:=hS.mono hJ;have hIc:=hIc.trans hJ;obtain ⟨pa,pc,rfl⟩:=hO.shape;refine Ql (zR (zM ?_));refine KL (cap:=[]) (vs:=[_]) U U zaQ QT (zke.ofV fun I' hI' hL'=>Xx (slv hO Z8 kE hL') kB) U U ?_;refine zA ?_;refine zN (zR ?_);refine zM ?_;refine zC (zN ?_);refine zI ?_ ?_<;>intro hc86
 ·have hye:chkG ys≠0:=(by simpa using hc86);refine zR (zM ?_);refine zA ?_;refine zA (zN (Qr (Qc ?_)))
  first
  | exact Q9 U U U (fun w hw=>⟨_,J10,[],U,hIc,hw.drop,U,none,0,0,[],_,U,.nil,jf _,fun h=>absurd h hye,fun _ h=>by rw [hwi] at h;cases h⟩)
 have hy0:chkG ys=0:=(by simpa using hc86);refine Qo (Qa (zR (zM ?_)));refine zA ?_;refine zA (zN (Qr ?_))
 first
 | exact zcM hO Z8 kE (by repeat (first | exact .cons .here .nil | exact QT | exact QO | apply Zi | apply Zd)) (fun I7 hI7 a7 c7 e7 hS7=>by cases e7;exact Q9 U U U (fun w hw=>⟨_,I7,[],U,hIc.trans hI7,hw.drop,U,pa,q,pc,ys,_,U,hS7,kB,fun _=>hfr.app_r (by have:=hS.len;omega) hx0 hy0,fun _ h=>by rw [hwi] at h;cases h⟩))
end
end Go.Proofs.YtmbjmjbjdgjonaaGreatDoor.R
namespace Go.Kn
section
open Go
section
variable {C:Cx} {Q:Exit->Act->World->Prop} {E:Env} {I:Qt} {loc:Loc} {ops:Array Oper} {rest:List Oper} {dst:Option Tmp} {ty:TypeId} {pos:String} {af:Array Edge} {gd:Option (Nat×Bool)} {x:Operand}
theorem zp0 {t e n c b off t':Nat}{z:Value}{zc A:List Value}(F:List Value->Loc)(hx:Qv [] E x=some (.slice (some ⟨b,off,none⟩) n c))(hT:C.P.underlying t=some (.slice e))(hz:Yw C.P e z)(hzc:z.cells=zc.toArray)(h1:YP zc=true)
  (hle:off+n*zc.length<=A.length)(hG:gd=none)(hdst:dst=none)(hu:∀ zs:List Value,Upd loc b (.cells A.toArray t' (0,0)) (.cells (A.take off++(zs++A.drop (off+n*zc.length))).toArray t' (0,0)) (F zs))
  (h:∀ zs:List Value,zs.length=n*zc.length->XO C Q ops rest [] E I (F zs)):
  XO C Q ops (⟨dst,.call ⟨.builtin .clear, #[x], #[t]⟩,ty,pos,af,gd⟩::rest) [] E I loc:=
 Ya hG kC fun a w ha hw=>by
  subst hdst;have hsz:(Builtin.zeroCells z.cells n).toList.length=n*zc.length:=by rw [O5,VX,hzc];simp
  have hz1:∀ v∈(Builtin.zeroCells z.cells n).toList,v.oneCell'=true:=by
   intro v hv;rw [Array.mem_toList_iff] at hv;unfold Builtin.zeroCells at hv;rw [hzc] at hv;simp at hv;obtain ⟨q,hq,h2⟩:=hv;have hp:0<zc.length:=Nat.pos_of_ne_zero fun e=>(by rw [e] at hq;simp at hq);rw [je (Be _ hp)] at h2;exact Je h1 v (by rw [<-h2];exact OS _)
  have e:A=A.take off++((A.drop off).take (n*zc.length)++A.drop (off+n*zc.length)):=by
   have:(A.drop off).take (n*zc.length)++A.drop (off+n*zc.length)=A.drop off:=by rw [<-OT];exact jy _ _
   rw [this,jy]
  have hu2:=hu (Builtin.zeroCells z.cells n).toList;have hu3:Upd loc b (.cells (A.take off++((A.drop off).take (n*zc.length)++A.drop (off+n*zc.length))).toArray t' (0,0)) (.cells (A.take off++((Builtin.zeroCells z.cells n).toList++A.drop (off+n*zc.length))).toArray t' (0,0)) (F (Builtin.zeroCells z.cells n).toList):=(by rw [<-e];exact hu2);obtain ⟨w',hr,hs'⟩:=VW (P:=C.P) (off:=off) (Builtin.zeroCells z.cells n).toList (A.take off) w loc _ b t' ((A.drop off).take (n*zc.length)) 0 (by rw [jH];omega) (by rw [hsz,jH,j7];omega) hz1 hw hu3
  have hrun:(Builtin.clear_ #[t] ty #[.slice (some ⟨b,off,none⟩) n c]).run C.P w= .ok (.tuple #[]) w':=by
   have h0:n=0->w'=w:=by
    intro hn;subst hn;have:(Builtin.zeroCells z.cells 0).toList=[]:=jR.1 (by rw [hsz];omega);rw [this] at hr;simp [storeCells] at hr;exact hr.symm
   cases n with
   | zero=>rw [h0 rfl];simp [Builtin.clear_,jK hT,Result.andThen]
   | succ k=>simp [Builtin.clear_,jK hT,Result.andThen,Yc hz,hr]
  simp only [execOp,resolve,j6,jx,Oo,Qi (S:=[]) ha trivial rfl hx,jg,jl,Result.andThen,invoke,builtin,hrun,Oq];exact h _ hsz _ _ ha trivial hs'
end
section
variable {C:Cx} {Q:Exit->Act->World->Prop} {E:Env} {I:Qt} {loc L R:Loc} {ops:Array Oper} {rest:List Oper} {dst:Option Tmp} {d:Nat} {ty:TypeId} {pos:String} {af:Array Edge} {gd:Option (Nat×Bool)}
theorem zlK {P:Program}{a:Act}{w:World}{f:FuncId}{pre cap:List Value}{l:List Operand}{vs:List Value}{tys:Array TypeId}{cal:Operand}
  (he:a.eval cal= .func (.func f) pre.toArray cap.toArray)(hl:l.map a.eval=vs)(hF:Fun P f):
  (execOp a.eval ⟨dst,.call ⟨.value cal,l.toArray,tys⟩,ty,pos,af,gd⟩).run P w= .ok (.enter f (pre++(vs++cap)).toArray) w:=by
 simp only [execOp,resolve,he,j6,hl,Deferred.ofValue,jg,jl,Result.andThen,invoke,YF hF];simp
theorem zmf {f:FuncId}{pre cap:List Value}{l:List Operand}{vs:List Value}{tys:Array TypeId}{cal:Operand}{K:Value->Qt->Loc->Prop}
  (he:Qv [] E cal=some (.func (.func f) pre.toArray cap.toArray))(hl:l.map (Qv [] E)=vs.map some)(hF:Fun C.P f)(hsp:Yu loc L R)(hc:ZQ C.P f (pre++(vs++cap)) I L K)
  (hG:gd=none)(hN:Nat.blt d C.N=true)(h:∀ v I' L',HLe I I'->K v I' L'->XO C Q ops rest [] ((d,v)::E) I' (L'++R)):
  XO C Q ops (⟨some d,.call ⟨.value cal,l.toArray,tys⟩,ty,pos,af,gd⟩::rest) [] E I loc:=by
 intro a w ha hg hw;have hG':Zv ops [] E ⟨some d,.call ⟨.value cal,l.toArray,tys⟩,ty,pos,af,gd⟩:=.none hG;simp only [wpListIn];rw [hG'.wanted ha hg];simp only [ZS,Oj,Oper.wpIn];refine ⟨fun _ _=>trivial,?_⟩;rw [O8 _ _ _ kC,zlK (Qi ha hg U he) (Jd ha hg U hl) hF,BX];refine ⟨by simp [FR],U6.2 ((hc.frame hsp hw).mono ?_)⟩;rintro e w' ⟨v,I',L',rfl,hI,hs,hk⟩;have hp:=YA ha hg hN U v;exact h v I' L' hI hk _ _ hp.1 hp.2 hs
end
end
end Go.Kn
namespace Go.Proofs.YtmbjmjbjdgjonaaGreatDoor.R
section
open Go Go.Kn Go.Proofs
structure Tx where
 bv:Option Addr
 n2:Nat
 c2:Nat
 no:Int
 a1:Option Addr
 n1:Nat
 d1:Nat
 a2:Option Addr
 n3:Nat
 d2:Nat
 a3:Option Addr
 n4:Nat
 d3:Nat
 r:Nat
 lv:Option Addr
 ln:Nat
 lc:Nat
 sv:Option Addr
 sn:Nat
 sc:Nat
def Wu (t:Tx):List Value:=[.slice t.bv t.n2 t.c2,.int .i64 t.no,.slice t.a1 t.n1 t.d1,.slice t.a2 t.n3 t.d2,.slice t.a3 t.n4 t.d3,.map (some t.r),.slice t.lv t.ln t.lc,.slice t.sv t.sn t.sc]
structure zj7 (I:Qt)(t:Tx)(rows:List (List Int))(es:List Em)(rd:List Int)(ps l:List Pt)(s:List Sg):Prop where
 V:SlN I t.bv t.n2 t.c2 rows
 E:Sl I 3 V8 t.a2 t.n3 t.d2 es
 R:Sl I 1 Q3 t.a3 t.n4 t.d3 rd
 M:OnM I t.r ps
 L:SlP I t.lv t.ln t.lc l
 S:Sl I 14 Zk t.sv t.sn t.sc s
 b2:t.n2<=100000
 b3:t.n3<=100000
 b4:t.n4<=100000
 bl:t.ln<=100000
 bs:t.sn<=100000
 sub:∀ q∈l,∃ z∈ps,z.id=q.id
variable{I:Qt}{t:Tx}{rows:List (List Int)}{es:List Em}{rd:List Int}{ps l:List Pt}
theorem zj7.mono {I':Qt}{s:List Sg}(h:zj7 I t rows es rd ps l s)(hI:HLe I I'):zj7 I' t rows es rd ps l s:=
 ⟨h.V.mono hI,h.E.mono hI,h.R.mono hI,h.M.mono hI,h.L.mono hI,h.S.mono hI,h.b2,h.b3,h.b4,h.bl,h.bs,h.sub⟩
def zy2:List Pt->List Int
 | []=>[]
 | p::r=>((p::r).filter fun q=>WW q.nw p.nw).map (·.id)
def zOg:Og:=⟨0,0,[],[]⟩
def zu3 (rows:List (List Int))(q:Nat)(c:Int):Int:=if Wx (fun r:List Int=>r.getD q 0==c) rows<0 then Wx (zFG q) rows else Wx (fun r:List Int=>r.getD q 0==c) rows
def or1 (on:Int->Int->Bool)(l:List Pt)(s f:Int):Og×Bool:=(⟨3,0,[],zy2 (VQ on l s f)⟩,decide (0<(VQ on l s f).length))
def inP (s:Int)(q:Pt):Bool:=q.kind==2&&q.sign==s
def or2 (l:List Pt)(s:Int):Og×Bool:=match l.find? (inP s) with
 | some q=>(⟨3,0,[],[q.id]⟩,true)
 | none=>(zOg,false)
def isT (f:Int):Bool:=f==2||f==3||f==9
def or3 (rows:List (List Int))(rd:List Int)(s f:Int):Og×Bool:=if isT f then (⟨1,0,[zu3 rows s.toNat (rd.getD s.toNat 0)],[]⟩,true) else (zOg,false)
def or4 (es:List Em)(s:Int):Og×Bool:=(⟨2,2,[],[]⟩,es.any (zFT s))
def or5 (rows:List (List Int))(rd:List Int)(s:Int):Og×Bool:=(⟨1,0,zDN rows s.toNat (rd.getD s.toNat 0),[]⟩,true)
def orK (on:Int->Int->Bool)(rows:List (List Int))(es:List Em)(rd:List Int)(l:List Pt)(s f:Int)(k:Nat):Og×Bool:=
 if k=0 then or1 on l s f else if k=1 then or2 l s else if k=2 then or3 rows rd s f else if k=3 then or4 es s else or5 rows rd s
def zcn (on:Int->Int->Bool)(rows:List (List Int))(es:List Em)(rd:List Int)(l:List Pt)(s f:Int):Og:=
 if (or1 on l s f).2 then (or1 on l s f).1 else if (or2 l s).2 then (or2 l s).1 else if (or3 rows rd s f).2 then (or3 rows rd s f).1 else if (or4 es s).2 then (or4 es s).1 else (or5 rows rd s).1
variable{on:Int->Int->Bool}{s f:Int}{k:Nat}
theorem zmp (hk:k<5)(h:∀ j,j<k->(orK on rows es rd l s f j).2=false)(hy:(orK on rows es rd l s f k).2=true):(orK on rows es rd l s f k).1=zcn on rows es rd l s f:=by
 have e0:0<k->(or1 on l s f).2=false:=h 0;have e1:1<k->(or2 l s).2=false:=h 1;have e2:2<k->(or3 rows rd s f).2=false:=h 2;have e3:3<k->(or4 es s).2=false:=h 3;unfold zcn
 match k,hk with
 | 0,_=>rw [jb (show (or1 on l s f).2=true from hy)];rfl
 | 1,_=>rw [ja (by rw [e0 kE];decide),jb (show (or2 l s).2=true from hy)];rfl
 | 2,_=>rw [ja (by rw [e0 kE];decide),ja (by rw [e1 kE];decide),jb (show (or3 rows rd s f).2=true from hy)];rfl
 | 3,_=>rw [ja (by rw [e0 kE];decide),ja (by rw [e1 kE];decide),ja (by rw [e2 kE];decide),jb (show (or4 es s).2=true from hy)];rfl
 | 4,_=>rw [ja (by rw [e0 kE];decide),ja (by rw [e1 kE];decide),ja (by rw [e2 kE];decide),ja (by rw [e3 kE];decide)];rfl
def OgV (I:Qt)(o:Og)(vs:List Value):Prop:=∃ a n c b m d,vs=[.int .i64 o.k,.int .i64 o.r,.slice a n c,.slice b m d]/\Sl I 1 Q3 a n c o.ws/\Sl I 1 Q3 b m d o.ps
def FrQ (q:Og×Bool)(v:Value)(I:Qt)(L:Go.Kn.Loc):Prop:=L=[]/\∃ vs,v= .tuple #[.agg vs.toArray,.bool q.2]/\OgV I q.1 vs
variable{b n:Nat}{A:List Value}{zs:List Pt}{p:Pt}{loc:Go.Kn.Loc}
theorem ztk {t:Nat}(hA:A.take (n*19)=zs.flatMap Yh)(hp:zs[k]? =some p):Cells I ((b,.cells A.toArray t (0,0))::loc) b (k*19) (Yh p):=by
 intro j u hu;have hl:=zak Yd zs k p hp j u hu
 have:A[k*19+j]? =some u:=by
  rw [<-hA,Ar] at hl;split at hl
  ·exact hl
  ·cases hl
 exact .here (by rw [YU];simpa using this)
variable{B:List Value}{i c:Nat}
theorem zvF (hl:B.length=c*19)(hn:n<=c)(hi:i<n):(Y9 B (i*19) (Yh p)).length=c*19:=by rw [KS (n:=19) kB (Yd p)];simp only [jh,jH,j7,Yd];omega
theorem zqE (hB:B.take (n*19)=zs.flatMap Yh)(hl:B.length=c*19)(hn:n<=c)(hz:zs.length=n)(hi:i<n):(Y9 B (i*19) (Yh p)).take (n*19)=(zs.set i p).flatMap Yh:=by
 rw [KS (n:=19) kB (Yd p)];have hz2:zs.set i p=zs.take i++p::zs.drop (i+1):=by rw [Bl,jb kB]
 have hf:∀ k,k<=n->(zs.take k).flatMap Yh=B.take (k*19):=by
  intro k hk;have h1:zs.flatMap Yh=(zs.take k).flatMap Yh++(zs.drop k).flatMap Yh:=(by rw [<-jo,jy]);have h2:((zs.take k).flatMap Yh).length=k*19:=(by rw [ZF Yd,jH];congr 1;omega);have h3:=jr (List.take (k*19)) h1;rw [<-hB,List.take_take,Nat.min_eq_left kB,AO kB,<-h2,AU] at h3;rw [<-h3,h2]
 have hd:(zs.drop (i+1)).flatMap Yh=(B.take (n*19)).drop ((i+1)*19):=by
  have h1:zs.flatMap Yh=(zs.take (i+1)).flatMap Yh++(zs.drop (i+1)).flatMap Yh:=(by rw [<-jo,jy]);have h2:((zs.take (i+1)).flatMap Yh).length=(i+1)*19:=(by rw [ZF Yd,jH];congr 1;omega);rw [hB,h1,<-h2,List.drop_left]
 rw [hz2,jo,jO,hf i kB,hd];have e1:(B.take (i*19)).length=i*19:=(by rw [jH];omega);have t1:(B.take (i*19)).take (n*19)=B.take (i*19):=jD (by rw [e1];omega);have t2:(Yh p).take (n*19-i*19)=Yh p:=jD (by rw [Yd];omega);rw [List.take_append,e1,t1,List.take_append,t2,Yd,List.drop_take];rw [show (i+1)*19=i*19+19 by omega,show n*19-i*19-19=n*19-(i*19+19) by omega]
structure DlQ (P:Pt->Bool)(ps:List Pt)(n c i j:Nat)(zs:List Pt)(B:List Value):Prop where
 hB:B.take (n*19)=zs.flatMap Yh
 hz:zs.length=n
 hl:B.length=c*19
 hk:zs.take i=(ps.take j).filter fun p=> !P p
 hd:zs.drop j=ps.drop j
 hij:i<j
 hjn:j<=n
variable{P:Pt->Bool}{j:Nat}
theorem DlQ.at (h:DlQ P ps n c i j zs B)(hp:ps[j]? =some p):zs[j]? =some p:=by have h1:=jr (fun l=>l[0]?) h.hd;simp only [AJ,B1] at h1;rw [h1];exact hp
theorem DlQ.keep (h:DlQ P ps n c i j zs B)(hp:ps[j]? =some p)(hP:P p=false)(hn:n<=c)(hjn:j<n):DlQ P ps n c (i+1) (j+1) (zs.set i p) (Y9 B (i*19) (Yh p)):=
  ⟨zqE h.hB h.hl hn h.hz (by have:=h.hij;omega),by rw [A3];exact h.hz,zvF h.hl hn (by have:=h.hij;omega),
   by rw [X9 (P:=fun p=> !P p) hp (by rw [hP];rfl),<-h.hk,jP,List.take_set_of_le kB,Bk (by have:=h.hij;have:=h.hz;omega)];rfl,
   by rw [List.drop_set_of_lt (by have:=h.hij;omega)];have h1:=jr (List.drop 1) h.hd;rw [OT,OT] at h1;exact h1,by have:=h.hij;omega,kB⟩
theorem DlQ.drop (h:DlQ P ps n c i j zs B)(hp:ps[j]? =some p)(hP:P p=true)(hjn:j<n):DlQ P ps n c i (j+1) zs B:=
 ⟨h.hB,h.hz,h.hl,by rw [zcI (P:=fun p=> !P p) hp (by rw [hP];rfl)];exact h.hk,by have h1:=jr (List.drop 1) h.hd;rw [OT,OT] at h1;exact h1,by have:=h.hij;omega,kB⟩
theorem DlQ.new (hA:A.take (n*19)=ps.flatMap Yh)(hz:ps.length=n)(hl:A.length=c*19)(hi:ps[i]? =some p)(hP:P p=true)(hno:(ps.take i).any P=false):DlQ P ps n c i (i+1) ps A:=
 ⟨hA,hz,hl,by
  rw [zcI (P:=fun p=> !P p) hi (by rw [hP];rfl),OK.2]
  intro q hq;rw [jJ] at hno;simpa using hno q hq,U,kB,by have:=(jc.1 hi).1;omega⟩
theorem DlQ.own {zc:List Value}{t:Nat}(h:DlQ P ps n c i j zs B)(hj:n<=j)(hps:ps.length=n)(hn:n<=c)(hc:c<=maxLen)(hzc:zc.length=(n-i)*19):
  OwnS t 19 (.slice (some ⟨b,0,none⟩) i c) i ((ps.filter fun p=> !P p).flatMap Yh) [(b,.cells (B.take (0+i*19)++(zc++B.drop (0+i*19+(n-i)*19))).toArray t (0,0))]:=by
 rw [Oc];have hij:=h.hij;have hjn:=h.hjn;have hBl:=h.hl;have e1:(B.take (i*19)).length=i*19:=(by rw [jH];omega);have hf:ps.filter (fun p=> !P p)=zs.take i:=by rw [h.hk,jD kB]
 have hfl:(ps.filter fun p=> !P p).flatMap Yh=B.take (i*19):=by
  rw [hf];have h1:zs.flatMap Yh=(zs.take i).flatMap Yh++(zs.drop i).flatMap Yh:=(by rw [<-jo,jy]);have h2:((zs.take i).flatMap Yh).length=i*19:=(by rw [ZF Yd,jH];have:=h.hz;congr 1;omega);have h3:=jr (List.take (i*19)) h1;rw [<-h.hB,List.take_take,Nat.min_eq_left kB,AO kB,<-h2,AU] at h3;rw [<-h3,h2]
 refine ⟨by rw [hfl,e1],.inr ⟨b,c,_,U,U,kB,hc,?_,?_⟩⟩
 ·simp only [Oh,jh,e1,hzc,j7];omega
 ·rw [hfl];show ((B.take (i*19)++(zc++B.drop (i*19+(n-i)*19)))).take (i*19)=_;rw [AO kB,jD kB]
theorem zEo (h:DlQ P ps n c i j zs B)(hn:n<=c)(hj:j<n):Nat.ble (i*19+19) (c*19)=true:=Nat.ble_eq_true_of_le (by have:=h.hij;omega)
theorem zBN (h:DlQ P ps n c i j zs B)(hn:n<=c):0+i*19+(n-i)*19<=c*19:=by have:=h.hij;have:=h.hjn;omega
theorem zFs {t:Nat}(_hA:A.take (n*19)=ps.flatMap Yh)(hAl:A.length=c*19)(_hl:ps.length=n)(hnc:n<=c)(hc:c<=maxLen):OwnS t 19 (.slice (some ⟨b,0,none⟩) n c) n (A.take (n*19)) [(b,.cells A.toArray t (0,0))]:=
 ⟨by rw [jH];omega,.inr ⟨b,c,_,U,U,hnc,hc,by simp [hAl],by simp⟩⟩
variable{α:Type}
theorem zoh {xs:List α}{P:α->Bool}(h:xs.any P=true):∃ (i:Nat) (x:α),Wx P xs=(i:Nat)/\xs[i]? =some x/\P x=true/\(xs.take i).any P=false:=by obtain ⟨x,hx,hp⟩:=ju.1 h;have hl:=Bp ⟨x,hx,hp⟩;refine ⟨xs.findIdx P,xs[xs.findIdx P],by unfold Wx;rw [h];rfl,je hl,List.findIdx_getElem,?_⟩;rw [jJ];intro y hy;obtain ⟨k,hk,rfl⟩:=BJ hy;rw [jH] at hk;rw [List.getElem_take];exact AP.1 (List.not_of_lt_findIdx (Nat.lt_of_lt_of_le hk (Nat.min_le_left ..)))
def zkC (ls:List Pt)(k:Nat):List Pt:=(ls.take k).filter fun q=>WW q.nw ((ls.getD 0 zaV).nw)
variable{ls:List Pt}
theorem zEJ :((zkC ls 0).map (·.id)).flatMap Q3=[]:=by unfold zkC;rw [List.take_zero];rfl
theorem zwK (hp:ls[k]? =some p)(h:WW p.nw ((ls.getD 0 zaV).nw)=true):(zkC ls (k+1)).map (·.id)=(zkC ls k).map (·.id)++[p.id]:=by unfold zkC;rw [X9 hp h,jZ];rfl
theorem zAA (hp:ls[k]? =some p)(h:WW p.nw ((ls.getD 0 zaV).nw)=false):(zkC ls (k+1)).map (·.id)=(zkC ls k).map (·.id):=by unfold zkC;rw [zcI hp h]
theorem zyu {m:Nat}(hm:ls.length=m)(hk:k=m):(zkC ls k).map (·.id)=zy2 ls:=by
 unfold zkC;rw [jD kB]
 cases ls with
 | nil=>rfl
 | cons p r=>rfl
theorem zDA {m:Nat}(hm:(VQ on l s f).length=m):(or1 on l s f).2=decide ((m:Int)>0):=by show decide (0<(VQ on l s f).length)=_;rw [hm];cases m<;>simp
theorem zdV (hno:(l.take k).any (inP s)=false)(hp:l[k]? =some p)(h:inP s p=true):or2 l s=(⟨3,0,[],[p.id]⟩,true):=by
 have:l.find? (inP s)=some p:=by
  have e:l=l.take k++p::l.drop (k+1):=by
   rw [<-Zz hp,jy]
  rw [e,AQ,Or.2 (by rw [jJ] at hno;exact hno),OZ,h];rfl
 unfold or2;rw [this]
theorem ziC (hno:l.any (inP s)=false):or2 l s=(zOg,false):=by unfold or2;rw [Or.2 (by rw [jJ] at hno;exact hno)]
variable{q:Nat}
theorem zdX (h:isT f=true):or3 rows rd (q:Int) f=(⟨1,0,[zu3 rows q (rd.getD q 0)],[]⟩,true):=jb h
theorem ziS (h:isT f=false):or3 rows rd s f=(zOg,false):=ja (by rw [h];decide)
theorem zFJ {c:Int}(h:decide (Wx (fun r:List Int=>r.getD q 0==c) rows<0)=true):Wx (zFG q) rows=zu3 rows q c:=by unfold zu3;rw [jb (by simpa using h)]
theorem zEO {c:Int}(h:decide (Wx (fun r:List Int=>r.getD q 0==c) rows<0)=false):Wx (fun r:List Int=>r.getD q 0==c) rows=zu3 rows q c:=by unfold zu3;rw [ja (by simpa using h)]
def zjS (f:Nat)(t:Tx)(k:Nat):List Value:=[.func (.func (f+k)) #[.agg (Wu t).toArray] #[]]
theorem zF3 (h:k<5):([0,1,2,3,4]:List Nat)[k]? =some k:=by
 match k,h with
 | 0,_=>rfl
 | 1,_=>rfl
 | 2,_=>rfl
 | 3,_=>rfl
 | 4,_=>rfl
theorem zkX :([2,3,9]:List Int).any (fun y=>f==y)=isT f:=by simp only [List.any_cons,List.any_nil,OL,isT,Bool.or_assoc]
theorem zEw {b:Bool}(h:(!b)=true):b=false:=by cases b<;>simp_all
theorem zDh {b:Bool}(h:(!b)=false):b=true:=by cases b<;>simp_all
theorem zxM:Fun Tryz.prog 134:=.of Tryz.func134 kA kA
theorem zxd:Fun Tryz.prog 220:=.of Tryz.func220 kA kA
theorem zbm:MpT Tryz.prog 143 3 191 (.map none):=⟨kA,.of kA⟩
theorem zc1:MpT Tryz.prog 191 3 4 (.bool false):=⟨kA,.of kA⟩
theorem zzv:Tryz.prog.underlying 49=some (.slice 53):=kA
variable{av:Option Addr}{xs:List Sg}{fid:Nat}{cap:List Value}
theorem zEP (hS:Sl I 14 Zk av n c xs)(hn:n<=100000){P:Sg->Bool}(hF:Fun Tryz.prog fid)(hf:∀ x∈xs,Zt Tryz.prog fid ([Yp x]++cap) I (.bool (P x))):Zt Tryz.prog 134 [.slice av n c,.func (.func fid) #[] cap.toArray] I (.int .i64 (Wx P xs)):=by
 intro g H w hw;refine qe Tryz.func134 Tryz.ntmps134 hw ?_;have hS:=hS;refine zR (zA (zN (Ql (zR ?_))));refine zM ?_;refine zQ Q4 ?_;refine zM (zN (Qp ?_));refine zU [(0,_),(1,_),(7,_)] (fun T L0 mz E I' loc'=>∃ (k:Nat),mz=n-k/\E=(8,.int .i64 k)::T/\I=I'/\L0=loc'/\k<=n/\(xs.take k).any P=false) ?_ (h:=⟨0,U,U,U,U,jf _,U⟩);rintro mz E I' loc' ⟨k,rfl,rfl,rfl,rfl,hk,hno⟩;refine zR (zC (zN (Ql ?_)));refine zI ?_ ?_<;>intro hc9
 ·have hlt_k:k<n:=(by have h:=hc9;simp at h;omega);obtain ⟨x,hx⟩:=hS.at hlt_k;refine Qo (Qa (Ql (Qp (zR (zM ?_)))));refine zA ?_;refine zN (zR ?_);refine zM ?_;refine zM ?_;refine zM ?_;refine zV (Qy U U Q4 kI (fun hg=>kB)) ?_;refine zV (Qk U QY (fun hg=>by exact zGO hS hx) U) ?_;refine Yo (cap:=cap) (vs:=[_]) U U hF (hf x (jd hx)) U U ?_;refine zN ?_;refine zI ?_ ?_<;>intro hc16
  ·refine zR (zM ?_);refine zA (zN (Qr (Qn (Qc (Qc (Qn (Qc ?_)))))));exact zr U U (by rw [JX hno hx hc16])
  refine Qo (Qg (Qa (Qf (zB ?_))));refine zM (Qb ?_);exact zm (h:=⟨n-(k+1),kB,k+1,U,U,U,U,kB,VP hx hno hc16⟩)
 have hge_k:n<=k:=(by have h:=hc9;simp at h;omega);refine QF (Qh (Qh (Qm (Qa (zR (zA (zN ?_)))))));refine Qr ?_;exact zr U U (by rw [Jm hS.len hge_k hno])
theorem zD7 (hS:Sl I 14 Zk av n c xs)(hn:n<=100000){P:Sg->Bool}(hF:Fun Tryz.prog fid)(hf:∀ x∈xs,Zt Tryz.prog fid ([Yp x]++cap) I (.bool (P x))):Zt Tryz.prog 54 [.slice av n c,.func (.func fid) #[] cap.toArray] I (.bool (xs.any P)):=by intro g H w hw;refine qe Tryz.func54 Tryz.ntmps54 hw ?_;refine zR (zA ?_);refine zN (zR ?_);refine zM ?_;refine zM ?_;refine qcV (vs:=[_,_]) U zxM (zEP hS hn hF hf) ?_;refine zC ?_;refine zA (zN (Qr ?_));exact zr U U (by rw [<-UB])
theorem zEm {xs:List Em}(hS:Sl I 3 V8 av n c xs)(hn:n<=100000){P:Em->Bool}(hF:Fun Tryz.prog fid)(hf:∀ x∈xs,Zt Tryz.prog fid ([.agg (V8 x).toArray]++cap) I (.bool (P x))):Zt Tryz.prog 220 [.slice av n c,.func (.func fid) #[] cap.toArray] I (.int .i64 (Wx P xs)):=by
 intro g H w hw;refine qe Tryz.func220 Tryz.ntmps220 hw ?_;have hS:=hS;refine zR (zA (zN (Ql (zR ?_))));refine zM ?_;refine zQ Ww ?_;refine zM (zN (Qp ?_));refine zU [(0,_),(1,_),(7,_)] (fun T L0 mz E I' loc'=>∃ (k:Nat),mz=n-k/\E=(8,.int .i64 k)::T/\I=I'/\L0=loc'/\k<=n/\(xs.take k).any P=false) ?_ (h:=⟨0,U,U,U,U,jf _,U⟩);rintro mz E I' loc' ⟨k,rfl,rfl,rfl,rfl,hk,hno⟩;refine zR (zC (zN (Ql ?_)));refine zI ?_ ?_<;>intro hc9
 ·have hlt_k:k<n:=(by have h:=hc9;simp at h;omega);obtain ⟨x,hx⟩:=hS.at hlt_k;refine Qo (Qa (Ql (Qp (zR (zM ?_)))));refine zA ?_;refine zN (zR ?_);refine zM ?_;refine zM ?_;refine zM ?_;refine zV (Qy U U Ww kI (fun hg=>kB)) ?_;refine zV (Qk U ztb (fun hg=>by exact zGO hS hx) U) ?_;refine Yo (cap:=cap) (vs:=[_]) U U hF (hf x (jd hx)) U U ?_;refine zN ?_;refine zI ?_ ?_<;>intro hc16
  ·refine zR (zM ?_);refine zA (zN (Qr (Qn (Qc (Qc (Qn (Qc ?_)))))));exact zr U U (by rw [JX hno hx hc16])
  refine Qo (Qg (Qa (Qf (zB ?_))));refine zM (Qb ?_);exact zm (h:=⟨n-(k+1),kB,k+1,U,U,U,U,kB,VP hx hno hc16⟩)
 have hge_k:n<=k:=(by have h:=hc9;simp at h;omega);refine QF (Qh (Qh (Qm (Qa (zR (zA (zN ?_)))))));refine Qr ?_;exact zr U U (by rw [Jm hS.len hge_k hno])
theorem zFI {xs:List Em}(hS:Sl I 3 V8 av n c xs)(hn:n<=100000){P:Em->Bool}(hF:Fun Tryz.prog fid)(hf:∀ x∈xs,Zt Tryz.prog fid ([.agg (V8 x).toArray]++cap) I (.bool (P x))):Zt Tryz.prog 185 [.slice av n c,.func (.func fid) #[] cap.toArray] I (.bool (xs.any P)):=by intro g H w hw;refine qe Tryz.func185 Tryz.ntmps185 hw ?_;refine zR (zA ?_);refine zN (zR ?_);refine zM ?_;refine zM ?_;refine qcV (vs:=[_,_]) U zxd (zEm hS hn hF hf) ?_;refine zC ?_;refine zA (zN (Qr ?_));exact zr U U (by rw [<-UB])
theorem zq1 {xs:List Pt}(hS:Sl I 19 Yh av n c xs)(hn:n<=400000):ZQ Tryz.prog 179 [.slice av n c] I [] (fun v I' L=>I'=I/\OwnS 53 19 v n (xs.flatMap Yh) L):=by
 intro g H w hw;refine qe Tryz.func179 Tryz.ntmps179 hw ?_;refine zR (zA (zN (Ql (zR ?_))));refine zM ?_;refine zV (zbe U U ZG) ?_;refine zN ?_;refine zI ?_ ?_<;>intro hc4
 ·have hn0:n=0:=OY fun h=>(by have:=hS.base h;rw [this] at hc4;cases hc4);have hl:=hS.len;subst hn0;have hx0:=j4 hl;subst hx0;refine zR (zA (zN (Qr (Qc ?_))));exact QR U U (fun w hw=>⟨_,I,_,U,zGN _,hw,U,OwnS.nil⟩)
 refine Qo (Qa (zR ?_));refine zpb [] [] Ks (fun b_5=>?_);refine zM ?_;refine zpa (_) (xs.flatMap Yh) ([(b_5,_)]) U U Ks OwnS.new (hS.src Yd) (zgh _) ?_;intro v1 L1 hO1 _;rw [j8,Oc] at hO1;refine zA (zN (Qr ?_));exact QR U U (fun w hw=>⟨_,I,_,U,zGN _,hw.subL QS,U,hO1⟩)
theorem zB7 (hV:SlN I av n c rows)(hn:n<=100000){P:List Int->Bool}(hF:Fun Tryz.prog fid)(hf:∀ (h:Hd) (r:List Int),r∈rows->Sl I 1 Q3 h.a h.n h.c r->Zt Tryz.prog fid ([.slice h.a h.n h.c]++cap) I (.bool (P r))):Zt Tryz.prog 79 [.slice av n c,.func (.func fid) #[] cap.toArray] I (.int .i64 (Wx P rows)):=by
 intro g H w hw;refine qe Tryz.func79 Tryz.ntmps79 hw ?_;have hVl:=hV.len;obtain ⟨hs,hVH⟩:=id hV;have hS:=hVH.1;refine zR (zA (zN (Ql (zR ?_))));refine zM ?_;refine zQ Zn ?_;refine zM (zN (Qp ?_));refine zU [(0,_),(1,_),(7,_)] (fun T L0 mz E I' loc'=>∃ (k:Nat),mz=n-k/\E=(8,.int .i64 k)::T/\I=I'/\L0=loc'/\k<=n/\(rows.take k).any P=false) ?_ (h:=⟨0,U,U,U,U,jf _,U⟩);rintro mz E I' loc' ⟨k,rfl,rfl,rfl,rfl,hk,hno⟩;refine zR (zC (zN (Ql ?_)));refine zI ?_ ?_<;>intro hc9
 ·have hlt_k:k<n:=(by have h:=hc9;simp at h;omega);obtain ⟨hx1,rx,hx,hrx,hQ⟩:=hVH.at hlt_k;refine Qo (Qa (Ql (Qp (zR (zM ?_)))));refine zA ?_;refine zN (zR ?_);refine zM ?_;refine zM ?_;refine zM ?_;refine zV (Qy U U Zn kI (fun hg=>kB)) ?_;refine zV (Qd U QK (fun hg=>by exact zGG hS hx U)) ?_;refine Yo (cap:=cap) (vs:=[_]) U U hF (hf hx1 rx (jd hrx) hQ) U U ?_;refine zN ?_;refine zI ?_ ?_<;>intro hc16
  ·refine zR (zM ?_);refine zA (zN (Qr (Qn (Qc (Qc (Qn (Qc ?_)))))));exact zr U U (by rw [JX hno hrx hc16])
  refine Qo (Qg (Qa (Qf (zB ?_))));refine zM (Qb ?_);exact zm (h:=⟨n-(k+1),kB,k+1,U,U,U,U,kB,VP hrx hno hc16⟩)
 have hge_k:n<=k:=(by have h:=hc9;simp at h;omega);refine QF (Qh (Qh (Qm (Qa (zR (zA (zN ?_)))))));refine Qr ?_;exact zr U U (by rw [Jm hVl hge_k hno])
theorem zEN (hA:A.take (n*19)=ps.flatMap Yh)(hl:ps.length=n)(hn:n<=100000)(hF:Fun Tryz.prog fid)(hf:∀ x∈ps,Zt Tryz.prog fid ([UI x]++cap) I (.bool (P x))):ZQ Tryz.prog 176 [.slice (some ⟨b,0,none⟩) n c,.func (.func fid) #[] cap.toArray] I [(b,.cells A.toArray 53 (0,0))] (fun u I' L=>u= .int .i64 (Wx P ps)/\I'=I/\L=[(b,.cells A.toArray 53 (0,0))]):=by
 intro g H w hw;refine qe Tryz.func176 Tryz.ntmps176 hw ?_;refine zR (zA (zN (Ql (zR ?_))));refine zM ?_;refine zQ ZG ?_;refine zM (zN (Qp ?_));refine zU [(0,_),(1,_),(7,_)] (fun T L0 mz E I' loc'=>∃ (k:Nat),mz=n-k/\E=(8,.int .i64 k)::T/\I=I'/\L0=loc'/\k<=n/\(ps.take k).any P=false) ?_ (h:=⟨0,U,U,U,U,jf _,U⟩);rintro mz E I' loc' ⟨k,rfl,rfl,rfl,rfl,hk,hno⟩;refine zR (zC (zN (Ql ?_)));refine zI ?_ ?_<;>intro hc9
 ·have hlt_k:k<n:=(by have h:=hc9;simp at h;omega);obtain ⟨x,hx⟩:∃ x,ps[k]? =some x:=⟨_,je kB⟩;refine Qo (Qa (Ql (Qp (zR (zM ?_)))));refine zA ?_;refine zN (zR ?_);refine zM ?_;refine zM ?_;refine zM ?_;refine zV (Q2 U U ZG (fun hg=>kB)) ?_;refine zV (Qk U YG (fun hg=>by exact ztk hA hx) U) ?_;refine Yo (cap:=cap) (vs:=[_]) U U hF (hf x (jd hx)) U U ?_;refine zN ?_;refine zI ?_ ?_<;>intro hc16
  ·refine zR (zM ?_);refine zA (zN (Qr (Qn (Qc (Qc (Qn (Qc ?_)))))));exact QR U U (fun w hw=>⟨_,I,_,U,zGN _,hw,by rw [JX hno hx hc16],U,U⟩)
  refine Qo (Qg (Qa (Qf (zB ?_))));refine zM (Qb ?_);exact zm (h:=⟨n-(k+1),kB,k+1,U,U,U,U,kB,VP hx hno hc16⟩)
 have hge_k:n<=k:=(by have h:=hc9;simp at h;omega);refine QF (Qh (Qh (Qm (Qa (zR (zA (zN ?_)))))));refine Qr ?_;exact QR U U (fun w hw=>⟨_,I,_,U,zGN _,hw,by rw [Jm hl hge_k hno],U,U⟩)
theorem zzJ (hA:A.take (n*19)=ps.flatMap Yh)(hAl:A.length=c*19)(hl:ps.length=n)(hnc:n<=c)(hc:c<=maxLen)(hn:n<=100000)(hF:Fun Tryz.prog fid)(hf:∀ x∈ps,Zt Tryz.prog fid ([UI x]++cap) I (.bool (P x))):ZQ Tryz.prog 178 [.slice (some ⟨b,0,none⟩) n c,.func (.func fid) #[] cap.toArray] I [(b,.cells A.toArray 53 (0,0))] (fun u I' L=>I'=I/\∃ m,OwnS 53 19 u m ((ps.filter fun p=> !P p).flatMap Yh) L):=by
 intro g H w hw;refine qe Tryz.func178 Tryz.ntmps178 hw ?_;refine zR (zA ?_);refine zN (zR ?_);refine zM ?_;refine zM ?_;refine zpc [_,_] U zga QT (zEN hA hl hn hF hf) ?_;rintro vv1 I1 L1 hI1 ⟨rfl,rfl,rfl⟩;refine zA (zN (Ql (zR ?_)));refine zM ?_;refine zC (zN ?_);refine zI ?_ ?_<;>intro hc12
 ·have hno:ps.any P=false:=by cases h:ps.any P with | false=>rfl | true=>(obtain ⟨i,x,h1,h2,h3,h4⟩:=zut h;rw [h1] at hc12;simp at hc12)
  refine zR (zM ?_);refine zA (zN (Qr (Qc ?_)))
  first
  | exact QR U U (fun w hw=>⟨_,I1,_,U,zGN _,hw,U,_,by rw [OK.2 (fun q hq=>by rw [jJ] at hno;simpa using hno q hq),<-hA];exact zFs hA hAl hl hnc hc⟩)
 obtain ⟨i,x,hix,hi,hPi,hno⟩:∃ (i:Nat) (x:Pt),Wx P ps=(i:Nat)/\ps[i]? =some x/\P x=true/\(ps.take i).any P=false:=zoh (by cases h:ps.any P with | true=>rfl | false=>(unfold Wx at hc12;rw [h] at hc12;simp at hc12));have hil:=(jc.1 hi).1;rw [hix];refine Qo (Qa (Ql (zR (zM ?_))));refine zB ?_;refine zA (zN (Qp ?_));refine zU [(0,_),(1,_)] (fun T L0 mz E I' loc'=>∃ (i j:Nat) (zs:List Pt) (B:List Value),mz=n-j/\E=(5,.int .i64 i)::(6,.int .i64 j)::T/\I1=I'/\[(b,.cells B.toArray 53 (0,0))]=loc'/\DlQ P ps n c i j zs B) ?_ (h:=⟨i,i+1,ps,A,U,U,U,U,DlQ.new hA hl hAl hi hPi hno⟩);rintro mz E I' loc' ⟨i,j,zs,B,rfl,rfl,rfl,rfl,hD⟩;have hij:=hD.hij;have hjn:=hD.hjn;refine Ql (zR (zM ?_));refine zM ?_;refine zQ ZG ?_;refine zC (zN ?_);refine zI ?_ ?_<;>intro hc19
 ·have hlt:j<n:=(by have h:=hc19;simp at h;omega);obtain ⟨x,hx⟩:∃ x,ps[j]? =some x:=⟨_,je kB⟩;have hz:=hD.at hx;refine Qo (Qa (Ql (Qp (zR (zM ?_)))));refine zM ?_;refine zV (Q2 U U ZG (fun hg=>kB)) ?_;refine zV (Qk U YG (fun hg=>by exact ztk hD.hB hz) U) ?_;refine Qs Uf U U (fun b_7=>?_);refine zh VY ?_;refine zN (zR ?_);refine zM ?_;refine zV (Qk U YG (fun hg=>by exact Cells.g0) U) ?_;refine Yo (cap:=cap) (vs:=[_]) U U hF (hf x (jd hx)) U U ?_;refine zO (zN ?_);refine zI ?_ ?_<;>intro hc29
  ·refine zR (zM ?_);refine zM ?_;refine zV (Qk U YG (fun hg=>by exact Cells.g0) U) ?_;refine zV (Q2 U U ZG (fun hg=>kB)) ?_;refine YO (A:=B) U U VY U (by rw [hD.hl];exact zEo hD hnc hlt) U U (by repeat (first | exact Upd.here | apply Upd.there | apply QH)) ?_;refine zN (Qf (zM ?_));refine zB ?_;refine zA (Qb (Qg (Qa (Qf ?_))));refine zM ?_;refine zB ?_;refine zA (Qb ?_);exact zm (h:=⟨n-(j+1),kB,i+1,j+1,_,_,U,U,U,U,hD.keep hx (by simpa using hc29) hnc hlt⟩)
  refine Qo (Qg (Qa (Qf (zM ?_))));refine zB ?_;refine zA (Qb ?_);exact zm (h:=⟨n-(j+1),kB,i,j+1,_,_,U,U,U,U,hD.drop hx (by simpa using hc29) hlt⟩)
 have hge:n<=j:=(by have h:=hc19;simp at h;omega);refine QF (Qh (Qh (Qm (Qa (zR (zM ?_))))));refine zM ?_;refine zV (YH U U ZG kB) ?_;refine zp0 (A:=B) (fun zs=>[(b,.cells (B.take (0+i*19)++(zs++B.drop (0+i*19+(n-i)*19))).toArray 53 (0,0))]) U zzv Uf U U (by rw [hD.hl];exact zBN hD hnc) U U (fun zs=>.here) (fun zc hzc=>?_);refine zN (zR ?_);refine zM ?_;refine zM ?_;refine zV (KM U U ZG (fun hg=>kB)) ?_;refine zA (zN (Qr ?_));exact QR U U (fun w hw=>⟨_,I1,_,U,zGN _,hw,U,_,hD.own hge hl hnc hc hzc⟩)
theorem V1:AgT Tryz.prog 145 8:=.of kA
theorem zho:AgT Tryz.prog 150 2:=.of kA
theorem zyh:Ar2 Tryz.prog 150 3 .i64:=⟨kA,kA,kA,kA,kA⟩
theorem Kc:ArT Tryz.prog 150 2 3 1:=.of kA
theorem UM:QP Tryz.prog 145 2 5:=.of kA
theorem XN:QP Tryz.prog 145 3 6:=.of kA
theorem zwW:Fun Tryz.prog 177:=.of Tryz.func177 kA kA
theorem zvn:Fun Tryz.prog 178:=.of Tryz.func178 kA kA
theorem zyM:Fun Tryz.prog 179:=.of Tryz.func179 kA kA
theorem zwx:Fun Tryz.prog 180:=.of Tryz.func180 kA kA
theorem zwf:Fun Tryz.prog 181:=.of Tryz.func181 kA kA
theorem zw0:Fun Tryz.prog 182:=.of Tryz.func182 kA kA
theorem zbE:ScT Tryz.prog 143:=.of kA
theorem Kt:SzT Tryz.prog 62 4:=.of kA
theorem ztc:Yw Tryz.prog 150 (.agg #[(.int .i64 0),(.int .i64 0)]):=.of kA
theorem zFq:Yw Tryz.prog 49 (.slice none 0 0):=.of kA
theorem zcj:Yw Tryz.prog 62 (.agg #[(.int .i64 0),(.int .i64 0),(.slice none 0 0),(.slice none 0 0)]):=.of kA
theorem zCd (hF:Fun Tryz.prog fid)(hf:∀ x∈([]:List Pt),Zt Tryz.prog fid ([UI x]++cap) I (.bool (P x))):ZQ Tryz.prog 178 [.slice none 0 0,.func (.func fid) #[] cap.toArray] I [] (fun u I' L=>I'=I/\∃ m,OwnS 53 19 u m (([]:List Pt).flatMap Yh) L):=by
 intro g H w hw;refine qe Tryz.func178 Tryz.ntmps178 hw ?_;refine zR (zA ?_);refine zN (zR ?_);refine zM ?_;refine zM ?_;refine qcV (vs:=[_,_]) U zga (zBF (ps:=[]) ⟨.nil,fun x hx=>by cases hx⟩ kB hF hf) ?_;refine zA (zN (Ql (zR ?_)));refine zM ?_;refine zC (zN ?_);refine zI ?_ ?_<;>intro hc12
 ·refine zR (zM ?_);refine zA (zN (Qr (Qc ?_)));exact QR U U (fun w hw=>⟨_,I,[],U,zGN _,hw.drop,U,0,OwnS.nil⟩)
 exact absurd hc12 (by simp [Wx])
variable{v:Value}{L0:Go.Kn.Loc}
theorem zAp (hO:OwnS 53 19 v n (ps.flatMap Yh) L0)(hn:n<=100000)(hF:Fun Tryz.prog fid)(hf:∀ x∈ps,Zt Tryz.prog fid ([UI x]++cap) I (.bool (P x))):ZQ Tryz.prog 178 [v,.func (.func fid) #[] cap.toArray] I L0 (fun u I' L=>I'=I/\∃ m,OwnS 53 19 u m ((ps.filter fun p=> !P p).flatMap Yh) L):=by
 obtain ⟨hlen,⟨rfl,rfl,rfl⟩ | ⟨b,c,cur,rfl,rfl,hnc,hcm,hsz,htk⟩⟩:=hO
 ·obtain rfl:ps=[]:=by
   rw [ZF Yd] at hlen;exact jR.1 kB
  exact zCd hF hf
 have hl:ps.length=n:=(by rw [ZF Yd] at hlen;omega);have h:=zzJ (b:=b) (A:=cur.toList) (c:=c) htk (by rw [O5];exact hsz) hl hnc hcm hn hF hf;rw [AT] at h;exact h
theorem zxW (hOn:OnM I t.r ps)(p:Pt)(hid:∃ z∈ps,z.id=p.id)(i:Int):Zt Tryz.prog 182 [.agg (Wu t).toArray,UI p,.int .i64 i] I (.bool (onF ps p.id i)):=by intro g H w hw;refine qe Tryz.func182 Tryz.ntmps182 hw ?_;obtain ⟨m,hm1,hm2⟩:=hOn;obtain ⟨ref,hget,sn,hsn,hsq⟩:=hm2.get hid;refine zR ?_;refine QG U U U (fun b_3=>?_);refine QG U U U (fun b_4=>?_);refine zA ?_;refine zN (zR ?_);refine zF UM ?_;refine zL zbE ?_;refine zF Zy ?_;refine zL Qq ?_;refine zV (Vh (m:=m) (ek:=Value.int .i64) (ev:=zeE) (a:=p.id) hget zbm Z3 U U (fun _=>.inl hm1)) ?_;refine zM ?_;refine zV (YJ (m:=sn) zc1 Z3 U U (fun _=>.inl hsn)) ?_;refine zA (zN (Qr ?_));exact zr U U (by rw [show (ZP sn i).getD false=onF ps p.id i from hsq.mem _])
variable{b1 b2:Nat}
theorem zxE (h1:I b1=some (.cells (Wu t).toArray 145 (0,0)))(h2:I b2=some (.cells (Yh p).toArray 53 (0,0)))(hOn:OnM I t.r ps)(q:Pt)(hid:∃ z∈ps,z.id=q.id):Zt Tryz.prog 181 [UI q,.pointer (some ⟨b1,0,none⟩),.pointer (some ⟨b2,0,none⟩)] I (.bool (onF ps q.id p.id)):=by intro g H w hw;refine qe Tryz.func181 Tryz.ntmps181 hw ?_;refine zR ?_;refine QG U U U (fun b_3=>?_);refine zA ?_;refine zN (zR ?_);refine zV (Qk U V1 (fun hg=>by exact Cells.imm h1) U) ?_;refine zV (Qk U YG (fun hg=>by exact Cells.g0) U) ?_;refine zF Zy ?_;refine zV (Qd U Qq (fun hg=>by exact .imm h2 U)) ?_;refine qcV (vs:=[_,_,_]) U zw0 (zxW hOn q hid _) ?_;refine zA (zN (Qr ?_));exact zr U U kL
theorem zDf {xs:List Pt}(h1:I b1=some (.cells #[.slice av n c] 49 (0,0)))(h2:I b2=some (.cells (Wu t).toArray 145 (0,0)))(hOn:OnM I t.r ps)(hX:SlP I av n c xs)(hn:n<=100000)(hsub:∀ q∈xs,∃ z∈ps,z.id=q.id)(p:Pt):Zt Tryz.prog 180 [UI p,.pointer (some ⟨b1,0,none⟩),.pointer (some ⟨b2,0,none⟩)] I (.bool (xs.any fun q=>onF ps q.id p.id)):=by intro g H w hw;refine qe Tryz.func180 Tryz.ntmps180 hw ?_;refine zR ?_;refine QG U U U (fun b_3=>?_);refine zA ?_;refine zN (zR ?_);refine zV (Qd U zbp (fun hg=>by exact .imm h1 U)) ?_;refine zV (QN (us:=[]) (vs:=[_,_]) U U) ?_;refine KL (cap:=[]) (vs:=[_,_]) U U zkF QT (zke.ofV fun I' hI' hL'=>zCG (cap:=[.pointer (some ⟨b2,0,none⟩),.pointer (some ⟨b_3,0,none⟩)]) (hX.mono hI') hn zwf (fun q hq=>zxE (b1:=b2) (b2:=b_3) (t:=t) (p:=p) (hI' _ _ h2) (hL' b_3 _ (.head _)) (hOn.mono hI') q (hsub q hq))) U U ?_;refine zA (zN (Qr ?_));exact zr U U kL
variable{sg:List Sg}
theorem zw7 (hT:zj7 I t rows es rd ps l sg)(s f:Int):ZQ Tryz.prog 177 [.agg (Wu t).toArray,.agg #[.int .i64 s,.int .i64 f]] I [] (zec 19 Yh (stF l s f)):=by
 intro g H w hw;refine qe Tryz.func177 Tryz.ntmps177 hw ?_;have hIc:=zGN I;have hSl:=hT.L.1;have hbl:=hT.bl;refine zR ?_;refine QG U U U (fun b_2=>?_);refine QG U U U (fun b_3=>?_);refine zA (zN (Ql (zR ?_)));refine zF XN ?_;refine zL zbp ?_;refine zQ ZG ?_;refine zM (zN (Qp ?_));refine zU [(3,_),(8,_),(9,_)] (fun T L0 mz E I' loc'=>∃ (k:Nat) (v:Value) (q:Nat) (L:Go.Kn.Loc),mz=t.ln-k/\E=(4,v)::(10,.int .i64 k)::T/\I=I'/\L++[(b_3,.cells #[.int .i64 s,.int .i64 f] 150 (0,0)),(b_2,.cells (Wu t).toArray 145 (0,0))]=loc'/\k<=t.ln/\OwnS 53 19 v q ((stF (l.take k) s f).flatMap Yh) L/\q<=k) ?_ (h:=⟨0,_,0,[],U,U,U,U,jf _,by rw [List.take_zero];exact OwnS.nil,js _⟩);rintro mz E I' loc' ⟨k,v,q,L,rfl,rfl,rfl,rfl,hk,hO,hq⟩;refine zR (zC (zN (Ql ?_)));refine zI ?_ ?_<;>intro hc11
 ·have hlt_k:k<t.ln:=(by have h:=hc11;simp at h;omega);obtain ⟨p,hp⟩:=hSl.at hlt_k;refine Qo (Qa (Ql (Qp (zR ?_))));refine zV (zX ZG hSl) ?_;refine zV (Qk U YG (fun hg=>by exact zGO hSl hp) U) ?_;refine Qs Uf U U (fun b_6=>?_);refine zh VY ?_;refine zN (zR ?_);refine zF Wo ?_;refine zL Qq ?_;refine zC ?_;refine zM ?_;refine QA 3 U U U ?_;refine zK (Qe U Yz) ?_;refine zK (Qd U Qq (fun hg=>by exact QB.h0 U)) ?_;refine zK (Qe U Kk) ?_;refine zK (Qd U Qq (fun hg=>by exact QB.h0 U)) ?_;refine zK (ZT (ps:=[(0,_),(1,_)]) [_,_] Kc ztc U U) ?_;refine zK (Qk U zho (fun hg=>by (repeat (first | exact zGL | apply zGK | apply zGM))) U) ?_;refine zK (zuL U U zyh) ?_;refine QE U U U U U ?_;refine zN ?_;refine zI ?_ ?_<;>intro hc25
  ·have hst:(p.kind==1&&(p.sign==s&&p.field==f))=true:=(by simpa using hc25);refine Qf (zM ?_);refine zV (Qk U YG (fun hg=>by exact Cells.g0) U) ?_;refine zpb [(0,_)] [Yh p] Ks (fun b_28=>?_);refine zpa (_) ([p].flatMap Yh) (L) U U Ks hO ⟨U,fun _=>U,by repeat (first | exact zGL | apply zGK | apply zGM)⟩ (zgh _) ?_;intro v9 L9 hO9 _;rw [<-jo] at hO9;refine zA (Qb (Qg (Qa (Qf ?_))));refine zB ?_;refine zM (Qb ?_)
   first
   | exact zm (h:=⟨t.ln-(k+1),kB,k+1,_,_,_,U,U,U,U,kB,by rw [show stF (l.take (k+1)) s f=stF (l.take k) s f++[p] from X9 hp hst];exact hO9,kB⟩)
  have hst:(p.kind==1&&(p.sign==s&&p.field==f))=false:=(by simpa using hc25);refine Qo (Qg (Qa (Qf (zB ?_))));refine zM (Qb ?_)
  first
  | exact zm (h:=⟨t.ln-(k+1),kB,k+1,_,_,_,U,U,U,U,kB,by rw [show stF (l.take (k+1)) s f=stF (l.take k) s f from zcI hp hst];exact hO,kB⟩)
 have hge_k:t.ln<=k:=(by have h:=hc11;simp at h;omega);rw [ZJ hSl.len hge_k] at hO;refine QF (Qh (Qh (Qm (Qa (zR (zM ?_))))));refine zA (zN (Qr ?_));exact QR U U (fun w hw=>by obtain ⟨I9,h91,h92,h93⟩:=OwnS.res hO Yd kE (hw.subL (by exact QS));exact ⟨_,I9,[],U,hIc.trans h91,h92,h93⟩)
theorem zzM (hT:zj7 I t rows es rd ps l sg)(s f:Int):ZQ Tryz.prog 135 [.agg (Wu t).toArray,.agg #[.int .i64 s,.int .i64 f]] I [] (FrQ (or1 (onF ps) l s f)):=by
 intro g H w hw;refine qe Tryz.func135 Tryz.ntmps135 hw ?_;have hIc:=zGN I;have hbl:=hT.bl;refine zR ?_;refine QG U U U (fun b_2=>?_);refine QG U U U (fun b_3=>?_);refine Qs zcj U U (fun b_4=>?_);refine zA ?_;refine zN (zR ?_);refine zV (Qk U V1 (fun hg=>by exact Cells.g2) U) ?_;refine zV (Qk U zho (fun hg=>by exact Cells.g1) U) ?_;refine zpc [_,_] U zwW .nil (zw7 hT s f) ?_;rintro vv1 I1 L1 hI1 ⟨rfl,a9,c9,rfl,hSA⟩;have hT:=hT.mono hI1;have hIc:=hIc.trans hI1;have hSA:Sl I1 19 Yh a9 (stF l s f).length c9 (stF l s f):=hSA;have hsl:(stF l s f).length<=100000:=jT WP (by rw [hT.L.1.len];exact hbl);refine Qs zFq U U (fun b_6=>?_);refine zS znM ?_;refine zN (Ql ?_);refine QQ (b:=b_2) (by repeat (first | exact Zf.here | apply Zf.there)) (fun I2 hI2 hb2=>?_);have hT:=hT.mono hI2;have hSA:=hSA.mono hI2;have hIc:=hIc.trans hI2;have h2:=hb2;refine QQ (b:=b_6) (by repeat (first | exact Zf.here | apply Zf.there)) (fun I3 hI3 hb3=>?_);have hT:=hT.mono hI3;have hSA:=hSA.mono hI3;have hIc:=hIc.trans hI3;have h2:=hI3 _ _ h2;have h6:=hb3;refine Qf ?_;refine zV (Qd U zbp (fun hg=>by exact .imm h6 U)) ?_;refine zpc [_] U zyM .nil (zq1 hSA kB) ?_;rintro vv4 I4 L4 hI4 ⟨rfl,hO⟩;have hT:=hT.mono hI4;have hSA:=hSA.mono hI4;have hIc:=hIc.trans hI4;refine zV (QN (us:=[]) (vs:=[_,_]) U U) ?_;refine zpc [_,_] U zvn (by repeat (first | exact .cons .here .nil | exact QT | exact QO | apply Zi | apply Zd)) (zAp hO hsl zwx (cap:=[.pointer (some ⟨b_6,0,none⟩),.pointer (some ⟨b_2,0,none⟩)]) (fun x hx=>zDf h6 h2 hT.M ⟨hSA,fun q hq=>hT.L.2 q (JB.1 hq).1⟩ hsl (fun q hq=>hT.sub q (JB.1 hq).1) x)) ?_;rintro vv5 I5 L5 hI5 ⟨rfl,m,hO2⟩;have hIc:=hIc.trans hI5;refine zA (zN (Ql (Ql ?_)));refine zx4 hO2 Yd (fun I6 hI6 af6 cf6 ef6 hLt=>?_);subst ef6;have hIc:=hIc.trans hI6;have hLt:Sl I6 19 Yh _ m _ (VQ (onF ps) l s f):=hLt;have hm:=hLt.len;have hml:m<=100000:=(by rw [<-hm];exact jT (j3 ..) hsl);refine Qf (zM ?_);refine zQ ZG ?_;refine zM (zN (Qp ?_));refine zU [(4,_),(7,_),(17,_),(18,_)] (fun T L0 mz E I' loc'=>∃ (k:Nat) (v:Value) (q:Nat) (L:Go.Kn.Loc),mz=m-k/\E=(19,.int .i64 k)::T/\I6=I'/\L++[(b_4,.cells #[.int .i64 0,.int .i64 0,.slice none 0 0,v] 62 (0,0)),(b_3,.cells #[.int .i64 s,.int .i64 f] 150 (0,0))]=loc'/\k<=m/\OwnS 3 1 v q (((zkC (VQ (onF ps) l s f) k).map (·.id)).flatMap Q3) L/\q<=k) ?_ (h:=⟨0,_,0,[],U,U,U,U,jf _,by rw [zEJ];exact OwnS.nil,js _⟩);rintro mz E I' loc' ⟨k,v,q,L,rfl,rfl,rfl,rfl,hk,hO,hq⟩;obtain ⟨va4,vc4,rfl⟩:=zfu hO;refine zR (zC (zN (Ql ?_)));refine zI ?_ ?_<;>intro hc20
 ·have hlt_k:k<m:=(by have h:=hc20;simp at h;omega);obtain ⟨p,hp⟩:=hLt.at hlt_k;obtain ⟨p0,hp0⟩:=hLt.at (k:=0) kB;refine Qo (Qa (Ql (Qp (zR ?_))));refine zV (zX ZG hLt) ?_;refine zV (Qk U YG (fun hg=>by exact zGO hLt hp) U) ?_;refine Qs Uf U U (fun b_9=>?_);refine zh VY ?_;refine zN (Ql ?_);refine YE mixed kA ?_;refine zq (Qe U VH) ?_;refine zq (Qk U QY (fun hg=>by exact Cells.s0 (vs:=[_,_,_,_,_,_,_,_,_,_,_,_,_,_]) U) U) ?_;refine zq (Qj U) ?_;refine zq (zX ZG hLt) ?_;refine zq (Qe U VH) ?_;refine zq (Qk U QY (fun hg=>by exact Sl.seg (vs:=Zk p0.nw) (o:=4) hLt hp0 U) U) ?_;refine zq (zgV U U U2 U) ?_;refine YC ?_;refine Qa ?_;refine zI ?_ ?_<;>intro hc29
  ·have hq29:WW p.nw p0.nw=true:=hc29;rw [<-Q1 (d:=zaV) hp0] at hq29;refine Qf ?_;refine zF za6 ?_;refine zV (Qd U QK (fun hg=>by (repeat (first | exact zGI U | apply zGH | apply zGJ)))) ?_;refine zF Zy ?_;refine zL Qq ?_;refine zpb [(0,_)] [Q3 p.id] Zw (fun b_34=>?_);refine zpa (_) ([p.id].flatMap Q3) (L) U U Zw hO ⟨U,fun _=>U,by repeat (first | exact zGL | apply zGK | apply zGM)⟩ (JH _) ?_;intro v9 L9 hO9 _;obtain ⟨va9,vc9,rfl⟩:=zfu hO9;rw [<-jo] at hO9;refine zF za6 ?_;refine zS Ze ?_;refine Qb (Qg (Qa (Qf (zB ?_))));refine zM (Qb ?_)
   first
   | exact zm (h:=⟨m-(k+1),kB,k+1,_,_,_,U,U,U,U,kB,by rw [zwK hp hq29];exact hO9,kB⟩)
  have hq29:WW p.nw p0.nw=false:=hc29;rw [<-Q1 (d:=zaV) hp0] at hq29;refine Qo (Qg (Qa (Qf (zB ?_))));refine zM (Qb ?_)
  first
  | exact zm (h:=⟨m-(k+1),kB,k+1,_,_,_,U,U,U,U,kB,by rw [zAA hp hq29];exact hO,kB⟩)
 have hge_k:m<=k:=(by have h:=hc20;simp at h;omega);have hke:k=m:=kB;refine QF (Qh (Qh (Qm (Qa (zR ?_)))));refine zF za1 ?_;refine zS ZD ?_;refine zN (zR ?_);refine zV (Qk U VN (fun hg=>by (repeat (first | exact zGL | apply zGK | apply zGM))) U) ?_;refine zM ?_;refine zQ ZG ?_;refine zC ?_;refine zh Kt ?_;refine zA (zN (Qr ?_));exact Zl U U U VN (vs:=[.int .i64 3,.int .i64 0,.slice none 0 0,.slice va4 _ vc4]) kG U (fun w hw=>by obtain ⟨I9,av9,c9,h1',h2',e9,h4'⟩:=OwnS.freeze (R:=[_,_]) hO Zh kE hw;cases e9;exact ⟨_,I9,[],U,hIc.trans h1',h2'.drop,U,[.int .i64 3,.int .i64 0,.slice none 0 0,.slice va4 _ vc4],by rw [zDA hm],_,_,_,_,_,_,U,.nil,by show Sl _ 1 Q3 _ _ _ (zy2 _);rw [<-zyu hm hke];exact h4'⟩)
theorem zv2:ElT Tryz.prog 200 199 1 8:=.of kA
theorem zb0:QP Tryz.prog 145 0 0:=.of kA
theorem zbA:QP Tryz.prog 145 1 1:=.of kA
theorem zxc:Fun Tryz.prog 135:=.of Tryz.func135 kA kA
theorem zuo:Fun Tryz.prog 136:=.of Tryz.func136 kA kA
theorem zxI:Fun Tryz.prog 137:=.of Tryz.func137 kA kA
theorem zvg:Fun Tryz.prog 138:=.of Tryz.func138 kA kA
theorem zuz:Fun Tryz.prog 139:=.of Tryz.func139 kA kA
theorem zu7:Fun Tryz.prog 183:=.of Tryz.func183 kA kA
theorem zur:Fun Tryz.prog 184:=.of Tryz.func184 kA kA
theorem zwc:Fun Tryz.prog 185:=.of Tryz.func185 kA kA
theorem zwa:Fun Tryz.prog 186:=.of Tryz.func186 kA kA
theorem zyY:Fun Tryz.prog 187:=.of Tryz.func187 kA kA
theorem zhX:PlT Tryz.prog 62 #[(0,1),(1,1),(2,1),(3,1)] (.agg #[(.int .i64 0),(.int .i64 0),(.slice none 0 0),(.slice none 0 0)]):=⟨.of kA,kA,fun w=>kA⟩
theorem zvd:ScT Tryz.prog 199:=.of kA
theorem znc:SlT Tryz.prog 200 199 1:=.of kA
theorem zEv (hT:zj7 I t rows es rd ps l sg)(s f:Int):ZQ Tryz.prog 136 [.agg (Wu t).toArray,.agg #[.int .i64 s,.int .i64 f]] I [] (FrQ (or2 l s)):=by
 intro g H w hw;refine qe Tryz.func136 Tryz.ntmps136 hw ?_;have hIc:=zGN I;have hSl:=hT.L.1;have hbl:=hT.bl;refine zR ?_;refine QG U U U (fun b_2=>?_);refine QG U U U (fun b_3=>?_);refine Qs zcj U U (fun b_4=>?_);refine zA (zN (Ql (zR ?_)));refine zF XN ?_;refine zL zbp ?_;refine zQ ZG ?_;refine zM (zN (Qp ?_));refine zU [(3,_),(4,_),(9,_),(10,_)] (fun T L0 mz E I' loc'=>∃ (k:Nat),mz=t.ln-k/\E=(11,.int .i64 k)::T/\I=I'/\L0=loc'/\k<=t.ln/\(l.take k).any (inP s)=false) ?_ (h:=⟨0,U,U,U,U,jf _,U⟩);rintro mz E I' loc' ⟨k,rfl,rfl,rfl,rfl,hk,hno⟩;refine zR (zC (zN (Ql ?_)));refine zI ?_ ?_<;>intro hc12
 ·have hlt_k:k<t.ln:=(by have h:=hc12;simp at h;omega);obtain ⟨p,hp⟩:=hSl.at hlt_k;refine Qo (Qa (Ql (Qp (zR ?_))));refine zV (zX ZG hSl) ?_;refine zV (Qk U YG (fun hg=>by exact zGO hSl hp) U) ?_;refine Qs Uf U U (fun b_7=>?_);refine zh VY ?_;refine zN (zR ?_);refine zF Wo ?_;refine zL Qq ?_;refine zC ?_;refine zM ?_;refine QA 3 U U U ?_;refine zK (Qe U Yz) ?_;refine zK (Qd U Qq (fun hg=>by exact QB.h0 U)) ?_;refine zK (Zx U U Kc (fun hg=>by decide)) ?_;refine zK (Qd U Qq (fun hg=>by exact QB.h2 U)) ?_;refine zK (QI U U U) ?_;refine QE U U U U U ?_;refine zN ?_;refine zI ?_ ?_<;>intro hc24
  ·have hc24:inP s p=true:=hc24;refine zR ?_;refine zF Zy ?_;refine zL Qq ?_;refine zpb [(0,_)] [Q3 p.id] Zw (fun b_27=>?_);refine zV (QC (ps:=[(0,_),(3,_)]) [_,_,_,_] zhX U U) ?_;refine zh Kt ?_;refine zA (zN (Qr (Qn (Qc (Qc (Qn (Qc ?_)))))))
   first
   | exact Zl U U U VN (vs:=[.int .i64 3,.int .i64 0,.slice none 0 0,.slice (some ⟨b_27,0,none⟩) 1 1]) kG U (fun w hw=>by obtain ⟨I9,h91,h92,h93⟩:=hw.freezeAll;exact ⟨_,I9,[],U,hIc.trans h91,h92,U,[.int .i64 3,.int .i64 0,.slice none 0 0,.slice (some ⟨b_27,0,none⟩) 1 1],by rw [zdV hno hp hc24],none,0,0,_,_,_,by rw [zdV hno hp hc24],by rw [zdV hno hp hc24];exact .nil,by rw [zdV hno hp hc24];exact Sl.lit (t:=3) [_] U Zh (h93 b_27 _ (by simp [Q3]))⟩)
  have hc24:inP s p=false:=hc24;refine Qo (Qg (Qa (Qf (zB ?_))));refine zM (Qb ?_);exact zm (h:=⟨t.ln-(k+1),kB,k+1,U,U,U,U,kB,VP hp hno hc24⟩)
 have hge_k:t.ln<=k:=(by have h:=hc12;simp at h;omega);rw [ZJ hSl.len hge_k] at hno;refine QF (Qh (Qh (Qm (Qa (zR ?_)))));refine zV (Qk U VN (fun hg=>by exact Cells.g0) U) ?_;refine zh Kt ?_;refine zA (zN (Qr ?_))
 first
 | exact Zl U U U VN (vs:=[.int .i64 0,.int .i64 0,.slice none 0 0,.slice none 0 0]) kG U (fun w hw=>⟨_,I,[],U,zGN _,hw.drop,U,[.int .i64 0,.int .i64 0,.slice none 0 0,.slice none 0 0],by rw [ziC hno],none,0,0,none,0,0,by rw [ziC hno];rfl,by rw [ziC hno];exact .nil,by rw [ziC hno];exact .nil⟩)
variable{h:Hd}{r:List Int}
theorem zEx (h1:I b1=some (.cells #[.int .i64 (q:Nat),.int .i64 f] 150 (0,0)))(h2:I b2=some (.cells (Wu t).toArray 145 (0,0)))(hQ:Sl I 1 Q3 h.a h.n h.c r)(hR:Sl I 1 Q3 t.a3 t.n4 t.d3 rd)(hqr:q<r.length)(hqd:q<rd.length):Zt Tryz.prog 183 [.slice h.a h.n h.c,.pointer (some ⟨b1,0,none⟩),.pointer (some ⟨b2,0,none⟩)] I (.bool (r.getD q 0==rd.getD q 0)):=by intro g H w hw;refine qe Tryz.func183 Tryz.ntmps183 hw ?_;have hQl:=hQ.len;have hRl:=hR.len;refine zR (zA (zN (Ql ?_)));refine YE mixed kA ?_;refine zq (Qj U) ?_;refine zq (Zx U U Kc (fun hg=>by decide)) ?_;refine zq (Qd U Qq (fun hg=>by exact QB.imm h1 U)) ?_;refine zq (zX Qx hQ) ?_;refine zq (Qd U Qq (fun hg=>by exact zGG (k:=q) hQ (Zc (d:=0) U kB) U)) ?_;refine zq (Qe U zbA) ?_;refine zq (Qe U KY) ?_;refine zq (Qd U QK (fun hg=>by exact QB.imm h2 U)) ?_;refine zq (Zx U U Kc (fun hg=>by decide)) ?_;refine zq (Qd U Qq (fun hg=>by exact QB.imm h1 U)) ?_;refine zq (zX Qx hR) ?_;refine zq (Qd U Qq (fun hg=>by exact zGG (k:=q) hR (Zc (d:=0) U kB) U)) ?_;refine zq (QI U U U) ?_;refine zq (QU U) ?_;refine YC ?_;refine Qa (Qr ?_);exact zr U U kL
theorem zD4 (h1:I b1=some (.cells #[.int .i64 (q:Nat),.int .i64 f] 150 (0,0)))(hQ:Sl I 1 Q3 h.a h.n h.c r)(hqr:q<r.length):Zt Tryz.prog 184 [.slice h.a h.n h.c,.pointer (some ⟨b1,0,none⟩)] I (.bool (zFG q r)):=by intro g H w hw;refine qe Tryz.func184 Tryz.ntmps184 hw ?_;have hQl:=hQ.len;refine zR (zA ?_);refine zN (zR ?_);refine zM ?_;refine zV (Zx U U Kc (fun hg=>by decide)) ?_;refine zV (Qd U Qq (fun hg=>by exact QB.imm h1 U)) ?_;refine zV (zX Qx hQ) ?_;refine zV (Qd U Qq (fun hg=>by exact zGG (k:=q) hQ (Zc (d:=0) U kB) U)) ?_;refine zC ?_;refine zM ?_;refine QA 6 U U U ?_;refine zK (Qj U) ?_;refine zK (Zx U U Kc (fun hg=>by decide)) ?_;refine zK (Qd U Qq (fun hg=>by exact QB.imm h1 U)) ?_;refine zK (zX Qx hQ) ?_;refine zK (Qd U Qq (fun hg=>by exact zGG (k:=q) hQ (Zc (d:=0) U kB) U)) ?_;refine zK (QI U U U) ?_;refine QE U U U U U ?_;refine zA (zN (Qr ?_));exact zr U U kL
theorem zFk (h1:I b1=some (.cells #[.int .i64 (q:Nat),.int .i64 f] 150 (0,0)))(e:Em):Zt Tryz.prog 186 [.agg (V8 e).toArray,.pointer (some ⟨b1,0,none⟩)] I (.bool (zFT (q:Int) e)):=by intro g H w hw;refine qe Tryz.func186 Tryz.ntmps186 hw ?_;refine zR ?_;refine QG U U U (fun b_2=>?_);refine zA ?_;refine zN (zR ?_);refine zF JR ?_;refine zL Qq ?_;refine zV (Zx U U Kc (fun hg=>by decide)) ?_;refine zV (Qd U Qq (fun hg=>by exact QB.imm h1 U)) ?_;refine zC ?_;refine zM ?_;refine QA 5 U U U ?_;refine zK (Qe U zc3) ?_;refine zK (Qd U Qq (fun hg=>by exact QB.h0 U)) ?_;refine zK (QI U U U) ?_;refine QE U U U U U ?_;refine zA (zN (Qr ?_));exact zr U U kL
theorem zz6 (hT:zj7 I t rows es rd ps l sg)(q:Nat)(f:Int)(hqd:q<rd.length)(hqr:∀ r∈rows,q<r.length):ZQ Tryz.prog 137 [.agg (Wu t).toArray,.agg #[.int .i64 (q:Nat),.int .i64 f]] I [] (FrQ (or3 rows rd (q:Int) f)):=by
 intro g H w hw;refine qe Tryz.func137 Tryz.ntmps137 hw ?_;have hIc:=zGN I;refine zR ?_;refine QG U U U (fun b_2=>?_);refine QG U U U (fun b_3=>?_);refine Qs zcj U U (fun b_4=>?_);refine zA (zN (Ql (zR ?_)));refine zpb [(0,_),(1,_),(2,_)] [Q3 (2:Int),Q3 (3:Int),Q3 (9:Int)] Zw (fun b_7=>?_);refine zV (Zx U U Kc (fun hg=>by decide)) ?_;refine zL Qq ?_;refine KL (cap:=[]) (vs:=[_,_]) U U zfr QT (zke.ofV fun I' hI' hL'=>KJ (Sl.lit (t:=3) [2,3,9] U Zh (hL' b_7 _ (.head _))) kE _) U U ?_;refine zO (zN ?_);refine zI ?_ ?_<;>intro hc11
 ·have hf:isT f=false:=(by rw [<-zkX];exact zEw hc11);refine zR ?_;refine zV (Qk U VN (fun hg=>by exact Cells.g1) U) ?_;refine zh Kt ?_;refine zA (zN (Qr (Qc ?_)))
  first
  | exact Zl U U U VN (vs:=[.int .i64 0,.int .i64 0,.slice none 0 0,.slice none 0 0]) kG U (fun w hw=>⟨_,I,[],U,hIc,hw.drop,U,[.int .i64 0,.int .i64 0,.slice none 0 0,.slice none 0 0],by rw [ziS hf],none,0,0,none,0,0,by rw [ziS hf];rfl,by rw [ziS hf];exact .nil,by rw [ziS hf];exact .nil⟩)
 have hf:isT f=true:=(by rw [<-zkX];exact zDh hc11);refine Qo (Qa (Ql ?_));refine QQ (b:=b_2) (by repeat (first | exact Zf.here | apply Zf.there)) (fun I1 hI1 hb1=>?_);have hT:=hT.mono hI1;have hIc:=hIc.trans hI1;have h2:=hb1;refine QQ (b:=b_3) (by repeat (first | exact Zf.here | apply Zf.there)) (fun I2 hI2 hb2=>?_);have hT:=hT.mono hI2;have hIc:=hIc.trans hI2;have h2:=hI2 _ _ h2;have h3:=hb2;refine Qf ?_;refine zF zb0 ?_;refine zV (Qd U Ki (fun hg=>by exact .imm h2 U)) ?_;refine zV (QN (us:=[]) (vs:=[_,_]) U U) ?_;refine qcV (vs:=[_,_]) U ziT (zB7 (cap:=[.pointer (some ⟨b_3,0,none⟩),.pointer (some ⟨b_2,0,none⟩)]) hT.V hT.b2 zu7 (fun h r hr hQ=>zEx h3 h2 hQ hT.R (hqr r hr) hqd)) ?_;refine zA (zN ?_);refine zY [(4,_)] (fun T L0 E I' loc'=>∃ (i:Int),E=(6,.int .i64 i)::T/\I2=I'/\L0=loc'/\i=zu3 rows q (rd.getD q 0)) ?_ ?_
 ·refine zR (zM ?_);refine zC (zN ?_);refine zI ?_ ?_<;>intro hc18
  ·refine Qf ?_;refine zF zb0 ?_;refine zV (Qd U Ki (fun hg=>by exact .imm h2 U)) ?_;refine zV (QN (us:=[]) (vs:=[_]) U U) ?_;refine qcV (vs:=[_,_]) U ziT (zB7 (cap:=[.pointer (some ⟨b_3,0,none⟩)]) hT.V hT.b2 zur (fun h r hr hQ=>zD4 h3 hQ (hqr r hr))) ?_;refine zA (Qb ?_);exact zm (h:=⟨_,U,U,U,zFJ hc18⟩)
  refine Qo ?_;exact zm (h:=⟨_,U,U,U,zEO hc18⟩)
 rintro E I' loc' ⟨i,rfl,rfl,rfl,hi⟩;refine zR (zM ?_);refine zpb [(0,_)] [Q3 i] Zw (fun b_24=>?_);refine zV (QC (ps:=[(0,_),(2,_)]) [_,_,_,_] zhX U U) ?_;refine zh Kt ?_;refine zA (zN (Qr ?_))
 first
 | exact Zl U U U VN (vs:=[.int .i64 1,.int .i64 0,.slice (some ⟨b_24,0,none⟩) 1 1,.slice none 0 0]) kG U (fun w hw=>by obtain ⟨I9,h91,h92,h93⟩:=hw.freezeAll;exact ⟨_,I9,[],U,hIc.trans h91,h92,U,[.int .i64 1,.int .i64 0,.slice (some ⟨b_24,0,none⟩) 1 1,.slice none 0 0],by rw [zdX hf],_,_,_,none,0,0,by rw [zdX hf],by rw [zdX hf];exact Sl.lit (t:=3) [_] U Zh (by rw [<-hi];exact h93 b_24 _ (by simp [Q3])),by rw [zdX hf];exact .nil⟩)
theorem zAU (hT:zj7 I t rows es rd ps l sg)(q:Nat)(f:Int):ZQ Tryz.prog 138 [.agg (Wu t).toArray,.agg #[.int .i64 (q:Nat),.int .i64 f]] I [] (FrQ (or4 es (q:Int))):=by intro g H w hw;refine qe Tryz.func138 Tryz.ntmps138 hw ?_;have hIc:=zGN I;refine zR ?_;refine QG U U U (fun b_2=>?_);refine QG U U U (fun b_3=>?_);refine Qs zcj U U (fun b_4=>?_);refine zA (zN (Ql ?_));refine QQ (b:=b_2) (by repeat (first | exact Zf.here | apply Zf.there)) (fun I1 hI1 hb1=>?_);have hT:=hT.mono hI1;have hIc:=hIc.trans hI1;have h2:=hb1;refine QQ (b:=b_3) (by repeat (first | exact Zf.here | apply Zf.there)) (fun I2 hI2 hb2=>?_);have hT:=hT.mono hI2;have hIc:=hIc.trans hI2;have h2:=hI2 _ _ h2;have h3:=hb2;refine Qf ?_;refine zF zbA ?_;refine zF zi6 ?_;refine zV (Qd U zsN (fun hg=>by exact .imm h2 U)) ?_;refine zV (QN (us:=[]) (vs:=[_]) U U) ?_;refine qcV (vs:=[_,_]) U zwc (zFI (cap:=[.pointer (some ⟨b_3,0,none⟩)]) hT.E hT.b3 zwa (fun e he=>zFk h3 e)) ?_;refine zA ?_;refine zN (zR ?_);refine zV (QC (ps:=[(0,_),(1,_)]) [_,_,_,_] zhX U U) ?_;refine zM ?_;refine zh Kt ?_;refine zA (zN (Qr ?_));exact Zl U U U VN (vs:=[.int .i64 2,.int .i64 2,.slice none 0 0,.slice none 0 0]) kG U (fun w hw=>⟨_,I2,[],U,hIc,hw.drop,U,[.int .i64 2,.int .i64 2,.slice none 0 0,.slice none 0 0],U,none,0,0,none,0,0,U,.nil,.nil⟩)
theorem zv3 (hT:zj7 I t rows es rd ps l sg)(q:Nat)(f:Int)(hqd:q<rd.length)(hqr:∀ r∈rows,q<r.length):ZQ Tryz.prog 139 [.agg (Wu t).toArray,.agg #[.int .i64 (q:Nat),.int .i64 f]] I [] (FrQ (or5 rows rd (q:Int))):=by intro g H w hw;refine qe Tryz.func139 Tryz.ntmps139 hw ?_;have hIc:=zGN I;have hRl:=hT.R.len;refine zR ?_;refine QG U U U (fun b_2=>?_);refine QG U U U (fun b_3=>?_);refine Qs zcj U U (fun b_4=>?_);refine zA (zN (Ql ?_));have hD:=zGN I;refine YZ ?_;refine ZA I [(b_3,.cells #[.int .i64 (q:Nat),.int .i64 f] 150 (0,0)),(b_2,.cells (Wu t).toArray 145 (0,0))] mixed ?_;refine zT 0 U (Qe U zb0) hD ?_;refine zT 1 U (Qd U Ki (fun hg=>by exact QB.h1 U)) hD ?_;refine zT 2 U (Zx U U Kc (fun hg=>by decide)) hD ?_;refine zT 3 U (Qd U Qq (fun hg=>by exact QB.h0 U)) hD ?_;refine zT 4 U (Qe U zbA) hD ?_;refine zT 5 U (Qe U KY) hD ?_;refine zT 6 U (Qd U QK (fun hg=>by exact QB.h1 U)) hD ?_;refine zT 7 U (Zx U U Kc (fun hg=>by decide)) hD ?_;refine zT 8 U (Qd U Qq (fun hg=>by exact QB.h0 U)) hD ?_;refine zT 9 U (Qy U U Qx hT.R (fun hg=>kB)) hD ?_;refine zT 10 U (Qd U Qq (fun hg=>by exact zGG (k:=q) hT.R (Zc (d:=0) U kB) U)) hD ?_;refine qd 11 U ?_;refine zpc [_,_,_] U zyY .nil (zEz hT.V hT.b2 q hqr _) ?_;rintro vv1 I1 L1 hI1 ⟨rfl,a9,c9,rfl,hH⟩;have hIc:=hIc.trans hI1;have hD:=hD.trans hI1;refine Qb ?_;refine zD hD ?_;refine zT 12 U (QC (ps:=[(0,_),(2,_)]) [_,_,_,_] zhX U U) hD ?_;refine qd 13 U ?_;refine zh Kt ?_;refine Qb ?_;refine zD hD ?_;refine zT 14 U (QU U) hD ?_;refine Qz kA ?_;refine QD ?_;refine Qa (Qr ?_);exact Zl U U U VN (vs:=[.int .i64 1,.int .i64 0,.slice a9 _ c9,.slice none 0 0]) kG U (fun w hw=>⟨_,I1,[],U,hIc,hw.drop,U,[.int .i64 1,.int .i64 0,.slice a9 _ c9,.slice none 0 0],U,_,_,_,none,0,0,U,hH,.nil⟩)
theorem zDp (hT:zj7 I t rows es rd ps l sg)(s f:Int)(hrg:(or2 l s).2=false->∃ q:Nat,s=q/\q<rd.length/\∀ r∈rows,q<r.length)(hk:k<5)(hall:∀ j,j<k->(orK (onF ps) rows es rd l s f j).2=false):ZQ Tryz.prog (135+k) [.agg (Wu t).toArray,.agg #[.int .i64 s,.int .i64 f]] I [] (FrQ (orK (onF ps) rows es rd l s f k)):=by
 match k,hk with
 | 0,_=>exact zzM hT s f
 | 1,_=>exact zEv hT s f
 | 2,_=>obtain ⟨q,rfl,h1,h2⟩:=hrg (hall 1 kE);exact zz6 hT q f h1 h2
 | 3,_=>obtain ⟨q,rfl,h1,h2⟩:=hrg (hall 1 kE);exact zAU hT q f
 | 4,_=>obtain ⟨q,rfl,h1,h2⟩:=hrg (hall 1 kE);exact zv3 hT q f h1 h2
theorem zBe (hk:k<5):Fun Tryz.prog (135+k):=by
 match k,hk with
 | 0,_=>exact zxc
 | 1,_=>exact zuo
 | 2,_=>exact zxI
 | 3,_=>exact zvg
 | 4,_=>exact zuz
theorem zEH (hT:zj7 I t rows es rd ps l sg)(s f:Int)(hrg:(or2 l s).2=false->∃ q:Nat,s=q/\q<rd.length/\∀ r∈rows,q<r.length):ZQ Tryz.prog 56 [.agg (Wu t).toArray,.agg #[.int .i64 s,.int .i64 f]] I [] (OgQ (zcn (onF ps) rows es rd l s f)):=by
 intro g H w hw;refine qe Tryz.func56 Tryz.ntmps56 hw ?_;have hIc:=zGN I;refine zR ?_;refine QG U U U (fun b_2=>?_);refine QG U U U (fun b_3=>?_);refine Qs zcj U U (fun b_4=>?_);refine zN (Ql (zR ?_));refine zV (Qk U V1 (fun hg=>by exact Cells.g2) U) ?_;refine zV (QN (us:=[_]) (vs:=[]) U U) ?_;refine zV (Qk U V1 (fun hg=>by exact Cells.g2) U) ?_;refine zV (QN (us:=[_]) (vs:=[]) U U) ?_;refine zV (Qk U V1 (fun hg=>by exact Cells.g2) U) ?_;refine zV (QN (us:=[_]) (vs:=[]) U U) ?_;refine zV (Qk U V1 (fun hg=>by exact Cells.g2) U) ?_;refine zV (QN (us:=[_]) (vs:=[]) U U) ?_;refine zV (Qk U V1 (fun hg=>by exact Cells.g2) U) ?_;refine zV (QN (us:=[_]) (vs:=[]) U U) ?_;refine zpb [(0,_),(1,_),(2,_),(3,_),(4,_)] [zjS 135 t 0,zjS 135 t 1,zjS 135 t 2,zjS 135 t 3,zjS 135 t 4] zv2 (fun b_19=>?_);refine zQ znc ?_;refine zM (Qb ?_);refine QQ (b:=b_19) (by repeat (first | exact Zf.here | apply Zf.there)) (fun I1 hI1 hb1=>?_);have hT:=hT.mono hI1;have hIc:=hIc.trans hI1;have h9:=hb1;have hFn:=Sl.lit (enc:=zjS 135 t) (size:=1) (t:=199) [0,1,2,3,4] U (fun _=>U) h9;refine Qa (Qp ?_);refine zU [(3,_),(4,_),(19,_),(20,_)] (fun T L0 mz E I' loc'=>∃ (k:Nat),mz=5-k/\E=(21,.int .i64 k)::T/\HLe I1 I'/\L0=loc'/\k<=5/\∀ j,j<k->(orK (onF ps) rows es rd l s f j).2=false) ?_ (h:=⟨0,U,U,zGN _,U,jf _,fun j h=>absurd h kB⟩);rintro mz E J2 loc' ⟨k,rfl,rfl,hJ,rfl,hk,hall⟩;have hT:=hT.mono hJ;have hFn:=hFn.mono hJ;have hIc:=hIc.trans hJ;have hB0:=hJ;refine zR (zC (zN (Ql ?_)));refine zI ?_ ?_<;>intro hc22
 ·have hlt_k:k<5:=(by have h:=hc22;simp at h;omega);have hj:([0,1,2,3,4]:List Nat)[k]? =some k:=zF3 hlt_k;refine Qo (Qa (Ql (Qp (zR ?_))));refine zV (zX znc hFn) ?_;refine zV (Qd U zvd (fun hg=>by exact zGG hFn hj U)) ?_;refine zA ?_;refine zN (zR ?_);refine zM ?_;refine zV (Qk U zho (fun hg=>by exact Cells.g1) U) ?_;refine zmf (pre:=[_]) (cap:=[]) (vs:=[_]) U U (zBe hlt_k) .nil (zDp hT s f hrg hlt_k hall) U U ?_;rintro vv3 I3 L3 hI3 ⟨rfl,_,rfl,a1,n1,c1,a2,n2,c2,rfl,hw1,hw2⟩;have hIc:=hIc.trans hI3;have hB0:=hB0.trans hI3;refine zM ?_;refine zE ?_;refine zE ?_;refine Qs zcj U U (fun b_7=>?_);refine zh Kt ?_;refine zA ?_;refine zN (zR ?_);refine zM (zN ?_);refine zI ?_ ?_<;>intro hc31
  ·refine zR ?_;refine zV (Qk U VN (fun hg=>by exact Cells.g0) U) ?_;refine zh Kt ?_;refine zN (Qr (Qn (Qc (Qc (Qn (Qc ?_))))));exact Y3 U U VN (vs:=[.int .i64 _,.int .i64 _,.slice a1 n1 c1,.slice a2 n2 c2]) kG U (fun w hw=>⟨_,I3,[],U,hIc,hw.drop,U,_,_,_,_,_,_,by rw [<-zmp hlt_k hall hc31],by rw [<-zmp hlt_k hall hc31];exact hw1,by rw [<-zmp hlt_k hall hc31];exact hw2⟩)
  refine Qo (Qg (Qa (Qf (zB ?_))));refine zM (Qb ?_);exact zm (h:=⟨5-(k+1),kB,k+1,U,U,hB0,U,kB,fun j hj=>by rcases Nat.lt_succ_iff_lt_or_eq.1 hj with h | h;exact hall j h;rw [h];exact hc31⟩)
 exact absurd (hall 4 (by have h:=hc22;simp at h;omega)) (by simp [orK,or5])
def zkb (e1:Int)(ps:List Pt)(bs:List Sg)(vs:List Int):Int:=if e1≠0 then e1 else zaY ps bs vs
variable{e1:Int}{bs:List Sg}{vs:List Int}
theorem ztw (h:e1≠0):zkb e1 ps bs vs=e1:=jb h
theorem zfC (h:e1=0):zkb e1 ps bs vs=zaY ps bs vs:=ja kB
theorem zdq (h:zaY ps bs vs=0):Sto ps/\ps.length<=512/\(∀ p∈ps,p.needs.length<=32)/\chkG bs=0/\vs.length<=512/\Ver ps vs/\zbo bs (ZY ps vs)=true/\zcz ps bs vs=zaL (onF ps) bs (ZY ps vs)/\(zaL (onF ps) bs (ZY ps vs)).length<=4096:=by
 have hs:=h;unfold zaY at h;split at h
 ·exact absurd h kI
 ·split at h
  ·cases h
  ·rename_i hp hl;have hp:WZ ps bs vs=0:=(by simpa using hp);unfold WZ at hp;split at hp
   ·exact absurd hp kI
   ·rename_i hc;have hc:KV ps=0:=(by simpa using hc);split at hp
    ·exact absurd hp kI
    ·rename_i hg;split at hp
     ·cases hp
     ·rename_i hv;split at hp
      ·rename_i hb;rw [jj] at hb;have hk:=K7 hc;refine ⟨W8 hc,hk.1,fun p hm=>?_,by simpa using hg,kB,(Xt (K6 hc)).1 hb.1,hb.2,?_,kB⟩
       ·have h0:Jw p=0:=Ve.1 hk.2.1 _ (jt.2 ⟨p,hm,U⟩);unfold Jw at h0;split at h0
        ·cases h0
        ·omega
       ·unfold zcz zoJ;rw [ja (by rw [hs];simp)]
      ·cases hp
def OpQ (e:Int)(rows:List (List Int))(es:List Em)(rd:List Int)(ps l:List Pt)(s:List Sg)(v:Value)(I:Qt)(L:Go.Kn.Loc):Prop:=
 L=[]/\∃ vs,v= .tuple #[.agg vs.toArray,.int .i64 e]/\vs.length=8/\YP vs=true/\(e=0->∃ t,vs=Wu t/\zj7 I t rows es rd ps l s)
variable{β:Type}{a:α}{m:List (α×β)}
theorem zjj [DecidableEq α]{b:β}:ZP (YM m a b) a=some b:=by rw [Y4,jb rfl]
theorem zqR [DecidableEq α]{a':α}{b:β}(h:a≠a'):ZP (YM m a b) a'=ZP m a':=by rw [Y4,ja h]
theorem zja {ws:List Wr}{rows:List (List Int)}{rd:List Int}:∀ {k:Nat} {l:List Sg},UK ws rows rd k=some l->l.length<=k
 | 0,l,h=>by cases h;exact js _
 | k+1,l,h=>by
  unfold UK at h
  cases h1:UK ws rows rd k with
  | none=>rw [h1] at h;cases h
  | some l1=>
   rw [h1] at h;have h2:=zja h1;dsimp only at h;split at h
   ·cases h
   ·cases h;omega
   ·cases h;rw [jh,jG];omega
variable{ws:List Wr}{no:Int}{cl:List Int}
theorem zqJ :(Jn ws rows no cl es rd).length<=rd.length:=by
 by_cases h:Uz ws rows no cl es rd=0
 ·unfold Jn;rw [ja kB]
  cases h1:UK ws rows rd rd.length with
  | none=>exact jf _
  | some l=>exact zja h1
 ·rw [zgG h];exact jf _
theorem znU {a:Int}:vs.any (fun y=>a==y)=vs.any (· ==a):=by congr 1;funext y;rw [jL,j0,j0];exact eq_comm
theorem zxV (hL:Lst ps)(hp:ps[k]? =some p){n:Int}(hn:n∈p.needs):p.id≠n:=by have h1:=hL.on_lt (hL.on_need (jd hp) hn);omega
theorem zeJ:QP Tryz.prog 145 4 7:=.of kA
theorem zr7:Fun Tryz.prog 13:=.of Tryz.func13 kA kA
theorem zuT:Fun Tryz.prog 133:=.of Tryz.func133 kA kA
theorem zCX:Fun Tryz.prog 9:=.of Tryz.func9 kA kA
theorem zxA:PlT Tryz.prog 145 #[(0,1),(1,4),(5,1),(6,1),(7,1)] (.agg #[(.slice none 0 0),(.int .i64 0),(.slice none 0 0),(.slice none 0 0),(.slice none 0 0),(.map none),(.slice none 0 0),(.slice none 0 0)]):=⟨.of kA,kA,fun w=>kA⟩
theorem zcb:SzT Tryz.prog 145 8:=.of kA
theorem zsQ:Yw Tryz.prog 145 (.agg #[(.slice none 0 0),(.int .i64 0),(.slice none 0 0),(.slice none 0 0),(.slice none 0 0),(.map none),(.slice none 0 0),(.slice none 0 0)]):=.of kA
theorem zys {ref r:Nat}{sn s0:List (Int×Bool)}{A B:Int->Bool}(hsn:I ref=some (Z7 (Value.int .i64) Value.bool sn))(hsq:zbr sn A)(hs0:zbr s0 B):ZQ Tryz.prog 133 [.map (some r),.map (some ref)] I [(r,Z7 (Value.int .i64) Value.bool s0)] (fun v I' L=>v= .tuple #[]/\I'=I/\∃ s,L=[(r,Z7 (Value.int .i64) Value.bool s)]/\zbr s (fun x=>A x||B x)):=by
 intro g H w hw;refine qe Tryz.func133 Tryz.ntmps133 hw ?_;refine zR (zM ?_);refine Uj (ek:=Value.int .i64) (ev:=Value.bool) (m:=sn) U zc1 U U (.inl hsn) (fun b_7=>?_);refine zN (Qp ?_);refine zU [(0,_),(7,_)] (fun T L0 mz E I' loc'=>∃ (seen:List Nat) (s:List (Int×Bool)),mz=sn.length-seen.length/\E=T/\I=I'/\[(b_7,Vt ref sn.length seen),(r,Z7 (Value.int .i64) Value.bool s)]=loc'/\zbr s (fun x=>zpZ sn seen x||B x)/\seen.Nodup/\∀ i∈seen,i<sn.length) ?_ (h:=⟨[],_,U,U,U,U,hs0.congr (fun x=>by rw [zep,OC]),.nil,fun i h=>by cases h⟩);rintro mz E I' loc' ⟨seen,s,rfl,rfl,rfl,rfl,hs,hnd2,hlt⟩;have hsl:=Ue hnd2 hlt;refine zR ?_;refine Ul (ek:=Value.int .i64) (ev:=Value.bool) (m:=sn) (fun s'=>[(b_7,Vt ref sn.length s'),(r,Z7 (Value.int .i64) Value.bool s)]) U (fun s'=>.here) U U U U U (.inl hsn) kK ?_;intro t tv s' hno hyes;refine zN (Ql ?_);refine zI ?_ ?_<;>intro hc9
 ·obtain ⟨i,q,hq,hns,rfl⟩:=hyes hc9;refine Qo (Qa (Qp (zR ?_)));refine zV (KX (ek:=Value.int .i64) (ev:=Value.bool) (m:=sn) (p:=q) (seen:=seen) (i:=i) U (.inl hsn) (.inr kK) hq) ?_;refine zE ?_;refine zE ?_;refine zA ?_;refine zA (zN (Qf ?_));refine zM ?_;refine zM ?_;refine zM ?_;refine Q6 (m:=s) (ek:=Value.int .i64) (ev:=Value.bool) (a:=q.1) q.2 zc1 Z3 U U U U (by repeat (first | exact Upd.here | apply Upd.there | apply QH)) ?_;refine Qb (Qg ?_);have hnd3:(seen++[i]).Nodup:=Oz.2 ⟨hnd2,by simp,fun a ha b hb e=>hns (by simp at hb;subst hb;subst e;exact ha)⟩;have hlt3:∀ j∈seen++[i],j<sn.length:=fun j hj=>(jv.1 hj).elim (hlt j) (fun h=>by simp at h;subst h;exact (jc.1 hq).1);have hsl2:=Ue hnd3 hlt3;rw [jh,jG] at hsl2;exact zm (h:=⟨sn.length-(seen++[i]).length,by rw [jh,jG];omega,seen++[i],YM s q.1 q.2,U,U,U,U,by rw [hsq.all q (jd hq)];exact (hs.put q.1).congr (fun x=>by rw [zbl hq,Bool.or_assoc]),hnd3,hlt3⟩)
 obtain ⟨rfl,hall⟩:=hno hc9;refine QF (Qh (Qh (Qm ?_)));exact YV (Ys U (fun w hw=>⟨_,I,_,U,zGN _,hw.subL (.drop .refl),U,U,s,U,hs.congr (fun x=>by rw [zeb hsq hall x])⟩))
variable{bv ea1 ea2 ea3 pv dv:Option Addr}
theorem zAY (hW0:SlW I av n c ws)(hn:n<=100000){n2 c2:Nat}(hVn:SlN I bv n2 c2 rows)(hn2:n2<=100000){en1 ec1:Nat}{en2 ec2:Nat}{en3 ec3:Nat}{xs:List Int}(hX1:Sl I 1 Q3 ea1 en1 ec1 xs)(hX2:Sl I 3 V8 ea2 en2 ec2 es)(hX3:Sl I 1 Q3 ea3 en3 ec3 rd)(hm1:en1<=100000)(hm2:en2<=100000)(hm3:en3<=100000)(no:Int){pn pc:Nat}(hP:SlP I pv pn pc ps)(hpn:pn<=100000){n3 c3:Nat}(hVs:Sl I 1 Q3 dv n3 c3 vs)(hn3:n3<=100000)(hDb:KR I):ZQ Tryz.prog 53 [.slice av n c,.slice bv n2 c2,.agg (KC no ea1 en1 ec1 ea2 en2 ec2 ea3 en3 ec3).toArray,.slice pv pn pc,.slice dv n3 c3] I [] (OpQ (zkb (Uz ws rows no xs es rd) ps (Jn ws rows no xs es rd) vs) rows es rd ps (ZY ps vs) (zaL (onF ps) (Jn ws rows no xs es rd) (ZY ps vs))):=by
 intro g H w hw;refine qe Tryz.func53 Tryz.ntmps53 hw ?_;have hIc:=zGN I;have hX3l:=hX3.len;refine zR ?_;refine QG U U U (fun b_7=>?_);refine Qs zsQ U U (fun b_10=>?_);refine zA ?_;refine zN (zR ?_);refine zM ?_;refine zM ?_;refine zV (Qk U Vn (fun hg=>by exact Cells.g1) U) ?_;refine zpc [_,_,_] U zCX .nil (Go.Proofs.YtmbjmjbjdgjonaaGreatDoor.w_Signs hW0 hn hVn hn2 hX1 hX2 hX3 hm1 hm2 hm3 no hDb (fun e=>e ▸ zhK)) ?_;rintro vv1 I1 L1 hI1 ⟨rfl,as9,cs9,rfl,hSg⟩;have hVn:=hVn.mono hI1;have hX2:=hX2.mono hI1;have hX3:=hX3.mono hI1;have hP:=hP.mono hI1;have hVs:=hVs.mono hI1;have hIc:=hIc.trans hI1;have hSg:Sl I1 14 Zk as9 (Jn ws rows no xs es rd).length cs9 (Jn ws rows no xs es rd):=hSg;refine zM ?_;refine zE ?_;refine zE ?_;refine zA ?_;refine zA (zN (Ql (zR ?_)));refine zM ?_;refine zC (zN ?_);refine zI ?_ ?_<;>intro hc25
 ·have he1:(Uz ws rows no xs es rd)≠0:=(by simpa using hc25);refine zR ?_;refine zV (Qk U V1 (fun hg=>by exact Cells.g0) U) ?_;refine zM ?_;refine zh zcb ?_;refine zA (zN (Qr (Qc ?_)))
  first
  | exact Zl U U U V1 (vs:=[.slice none 0 0,.int .i64 0,.slice none 0 0,.slice none 0 0,.slice none 0 0,.map none,.slice none 0 0,.slice none 0 0]) kG U (fun w hw=>⟨_,I1,[],U,hIc,hw.drop,U,[.slice none 0 0,.int .i64 0,.slice none 0 0,.slice none 0 0,.slice none 0 0,.map none,.slice none 0 0,.slice none 0 0],by rw [ztw he1]<;>rfl,U,U,fun h=>absurd (ztw he1 ▸ h) he1⟩)
 have he1:(Uz ws rows no xs es rd)=0:=(by simpa using hc25);refine Qo (Qa (zR (zM ?_)));refine zV (Qk U Vn (fun hg=>by exact Cells.g1) U) ?_;refine ZV U U (fun r_30=>?_);refine zV (QC (ps:=[(0,_),(1,_),(2,_)]) [_,_,_,_,_,_,_,_] zxA U U) ?_;refine zh zcb ?_;refine zN (Ql (zR (zM ?_)));refine zM ?_;refine zM ?_;refine zpc [_,_,_] U zr7 .nil (w_Signs hP hpn hSg (by have:=zqJ (ws:=ws) (rows:=rows) (no:=no) (cl:=xs) (es:=es) (rd:=rd);omega) hVs hn3) ?_;rintro vv2 I2 L2 hI2 ⟨rfl,as8,cs8,rfl,hSs⟩;have hVn:=hVn.mono hI2;have hX2:=hX2.mono hI2;have hX3:=hX3.mono hI2;have hP:=hP.mono hI2;have hVs:=hVs.mono hI2;have hIc:=hIc.trans hI2;have hSs:Sl I2 14 Zk as8 (zcz ps (Jn ws rows no xs es rd) vs).length cs8 (zcz ps (Jn ws rows no xs es rd) vs):=hSs;refine zM ?_;refine zE ?_;refine zE ?_;refine zF zeJ ?_;refine zS zrY ?_;refine zA ?_;refine zN (zR ?_);refine zM ?_;refine zC (zN ?_);refine zI ?_ ?_<;>intro hc41
 ·have he2:zaY ps (Jn ws rows no xs es rd) vs≠0:=(by simpa using hc41);have he3:(zkb (Uz ws rows no xs es rd) ps (Jn ws rows no xs es rd) vs)≠0:=(by rw [zfC he1];exact he2);refine zR ?_;refine zV (Qk U V1 (fun hg=>by exact Cells.g1) U) ?_;refine zM ?_;refine zh zcb ?_;refine zA (zN (Qr (Qc ?_)))
  first
  | exact Zl U U U V1 (vs:=[.slice bv n2 c2,.int .i64 no,.slice ea1 en1 ec1,.slice ea2 en2 ec2,.slice ea3 en3 ec3,.map (some r_30),.slice none 0 0,.slice as8 (zcz ps (Jn ws rows no xs es rd) vs).length cs8]) kG U (fun w hw=>⟨_,I2,[],U,hIc,hw.drop,U,[.slice bv n2 c2,.int .i64 no,.slice ea1 en1 ec1,.slice ea2 en2 ec2,.slice ea3 en3 ec3,.map (some r_30),.slice none 0 0,.slice as8 (zcz ps (Jn ws rows no xs es rd) vs).length cs8],by rw [zfC he1]<;>rfl,U,U,fun h=>absurd h he3⟩)
 have he2:zaY ps (Jn ws rows no xs es rd) vs=0:=(by simpa using hc41);obtain ⟨hsto,hpl,hnd,hbg,hvl,hver,hfit,hsf,hsl⟩:=zdq he2;have hL:=hsto.lst;refine Qo (Qa (Ql (zR (zM ?_))));refine zQ ZG ?_;refine zM (zN (Qp ?_));refine zU [(4,_),(10,_),(44,_),(45,_)] (fun T L0 mz E I' loc'=>∃ (k:Nat) (m:List (Int×Nat)) (v:Value) (q:Nat) (L:Go.Kn.Loc),mz=pn-k/\E=(46,.int .i64 k)::T/\HLe I2 I'/\L++[(r_30,Z7 (Value.int .i64) zeE m),(b_10,.cells #[.slice bv n2 c2,.int .i64 no,.slice ea1 en1 ec1,.slice ea2 en2 ec2,.slice ea3 en3 ec3,.map (some r_30),v,.slice as8 (zcz ps (Jn ws rows no xs es rd) vs).length cs8] 145 (0,0)),(b_7,.cells (KC no ea1 en1 ec1 ea2 en2 ec2 ea3 en3 ec3).toArray 41 (0,0))]=loc'/\k<=pn/\OnL I' m (ps.take k)/\OwnS 53 19 v q (((ps.take k).filter (fun p=>vs.any (· ==p.id))).flatMap Yh) L/\q<=k) ?_ (h:=⟨0,[],_,0,[],U,U,zGN _,U,jf _,OnL.nil,OwnS.nil,js _⟩);rintro mz E J3 loc' ⟨k,m,v,q,L,rfl,rfl,hJ,rfl,hk,hm,hO,hq⟩;have hVn:=hVn.mono hJ;have hX2:=hX2.mono hJ;have hX3:=hX3.mono hJ;have hP:=hP.mono hJ;have hVs:=hVs.mono hJ;have hSs:=hSs.mono hJ;have hIc:=hIc.trans hJ;have hB0:=hJ;obtain ⟨va6,vc6,rfl⟩:=zfu hO;refine zR (zC (zN (Ql ?_)));refine zI ?_ ?_<;>intro hc47
 ·have hlt_k:k<pn:=(by have h:=hc47;simp at h;omega);obtain ⟨p,hp,hN⟩:=hP.at hlt_k;have hpm:=jd hp;have hN:Sl J3 1 Q3 p.a p.n p.c p.needs:=hN;have hpn2:=hnd p hpm;have hNl:=hN.len;refine Qo (Qa (Ql (Qp (zR ?_))));refine zV (Qy U U ZG hP.1 (fun hg=>kB)) ?_;refine zV (Qk U YG (fun hg=>by exact zGO hP.1 hp) U) ?_;refine Qs Uf U U (fun b_14=>?_);refine zh VY ?_;refine zN (zR ?_);refine zF UM ?_;refine zV (Qd U zbE (fun hg=>by (repeat (first | exact zGI U | apply zGH | apply zGJ)))) ?_;refine zF Zy ?_;refine zL Qq ?_;refine ZV U U (fun r_54=>?_);refine Q6 (m:=m) (ek:=Value.int .i64) (ev:=zeE) (a:=p.id) r_54 zbm Z3 U U U U (by repeat (first | exact Upd.here | apply Upd.there | apply QH)) ?_;refine zN (Ql (zR ?_));refine zF U9 ?_;refine zL QK ?_;refine zQ Qx ?_;refine zM (zN (Qp ?_));refine zU [(4,_),(10,_),(14,_),(44,_),(45,_),(46,_),(56,_),(57,_)] (fun T L0 mz E I' loc'=>∃ (j:Nat) (s:List (Int×Bool)),mz=p.n-j/\E=(58,.int .i64 j)::T/\J3=I'/\(r_54,Z7 (Value.int .i64) Value.bool s)::(b_14,.cells (Yh p).toArray 53 (0,0))::(L++[(r_30,Z7 (Value.int .i64) zeE (YM m p.id r_54)),(b_10,.cells #[.slice bv n2 c2,.int .i64 no,.slice ea1 en1 ec1,.slice ea2 en2 ec2,.slice ea3 en3 ec3,.map (some r_30),.slice va6 q vc6,.slice as8 (zcz ps (Jn ws rows no xs es rd) vs).length cs8] 145 (0,0)),(b_7,.cells (KC no ea1 en1 ec1 ea2 en2 ec2 ea3 en3 ec3).toArray 41 (0,0))])=loc'/\j<=p.n/\zbr s (fun x=>(p.needs.take j).any fun n=>n==x||onF (ps.take k) n x)) ?_ (h:=⟨0,[],U,U,U,U,jf _,zbr.nil⟩);rintro mz E I' loc' ⟨j,s,rfl,rfl,rfl,rfl,hj,hs⟩;refine zR (zC (zN (Ql ?_)));refine zI ?_ ?_<;>intro hc59
  ·have hlt_j:j<p.n:=(by have h:=hc59;simp at h;omega);obtain ⟨y,hy⟩:=hN.at hlt_j;obtain ⟨ref,hget,sn,hsn,hsq⟩:=hm.get (hL.before hp (jd hy));have hpy:p.id≠y:=zxV hL hp (jd hy);refine Qo (Qa (Ql (Qp (zR ?_))));refine zV (zX Qx hN) ?_;refine zV (Qd U Qq (fun hg=>by exact zGG hN hy U)) ?_;refine zA ?_;refine zN (zR ?_);refine zF UM ?_;refine zV (Qd U zbE (fun hg=>by (repeat (first | exact zGI U | apply zGH | apply zGJ)))) ?_;refine zF Zy ?_;refine zL Qq ?_;refine zV (Vh (m:=(YM m p.id r_54)) (ek:=Value.int .i64) (ev:=zeE) (a:=p.id) zjj zbm Z3 U U (fun _=>.inr kK)) ?_;refine zM ?_;refine Q6 (m:=s) (ek:=Value.int .i64) (ev:=Value.bool) (a:=y) true zc1 Z3 U U U U (by repeat (first | exact Upd.here | apply Upd.there | apply QH)) ?_;refine zN (Qf ?_);refine zF UM ?_;refine zV (Qd U zbE (fun hg=>by (repeat (first | exact zGI U | apply zGH | apply zGJ)))) ?_;refine zF Zy ?_;refine zL Qq ?_;refine zV (Vh (m:=(YM m p.id r_54)) (ek:=Value.int .i64) (ev:=zeE) (a:=p.id) zjj zbm Z3 U U (fun _=>.inr kK)) ?_;refine zF UM ?_;refine zV (Qd U zbE (fun hg=>by (repeat (first | exact zGI U | apply zGH | apply zGJ)))) ?_;refine zM ?_;refine zV (Vh (m:=(YM m p.id r_54)) (ek:=Value.int .i64) (ev:=zeE) (a:=y) ((zqR hpy).trans hget) zbm Z3 U U (fun _=>.inr kK)) ?_;refine zpc [_,_] U zuT (.cons .here .nil) (zys hsn hsq (hs.put y)) ?_;rintro vv5 I5 L5 hI5 ⟨rfl,rfl,s2,rfl,hs2⟩;refine Qb (Qg (Qa (Qf (zB ?_))));refine zM (Qb ?_);exact zm (h:=⟨p.n-(j+1),kB,j+1,_,U,U,U,U,kB,hs2.congr (fun x=>by rw [zc0 hy];rw [jL];simp;grind)⟩)
  have hge_j:p.n<=j:=(by have h:=hc59;simp at h;omega);refine QF (Qh (Qh (Qm (Qa (Ql ?_)))));refine QQ .here (fun I6 hI6 hb6=>?_);have hVs:=hVs.mono hI6;have hm:=hm.mono hI6;have hB0:=hB0.trans hI6;have hbx:=hb6;have hst6:OnL I6 (YM m p.id r_54) (ps.take (k+1)):=OnL.step hL hp hm hbx (by rw [ZJ hN.len hge_j] at hs;exact hs);refine Qf (zM ?_);refine zF Zy ?_;refine zL Qq ?_;refine qcV (vs:=[_,_]) U zfr (KJ hVs hn3 _) ?_;refine zN ?_;refine zI ?_ ?_<;>intro hc82
  ·have hin:vs.any (· ==p.id)=true:=(by rw [<-znU];exact hc82);refine Qf ?_;refine zF XN ?_;refine zV (Qd U zbp (fun hg=>by (repeat (first | exact zGI U | apply zGH | apply zGJ)))) ?_;refine zV (Qk U YG (fun hg=>by exact Cells.g0) U) ?_;refine zpb [(0,_)] [Yh p] Ks (fun b_86=>?_);refine zpa (_) ([p].flatMap Yh) (L) U U Ks hO ⟨U,fun _=>U,by repeat (first | exact zGL | apply zGK | apply zGM)⟩ (zgh _) ?_;intro v9 L9 hO9 _;obtain ⟨va9,vc9,rfl⟩:=zfu hO9;rw [<-jo] at hO9;refine zF XN ?_;refine zS znM ?_;refine Qb (Qg (Qa (Qf (zB ?_))));refine zM (Qb ?_)
   first
   | exact zm (h:=⟨pn-(k+1),kB,k+1,_,_,_,_,U,U,hB0,U,kB,hst6,by rw [X9 hp hin];exact hO9,kB⟩)
  have hin:vs.any (· ==p.id)=false:=(by rw [<-znU];exact hc82);refine Qo (Qg (Qa (Qf (zB ?_))));refine zM (Qb ?_)
  first
  | exact zm (h:=⟨pn-(k+1),kB,k+1,_,_,_,_,U,U,hB0,U,kB,hst6,by rw [zcI hp hin];exact hO,kB⟩)
 have hge_k:pn<=k:=(by have h:=hc47;simp at h;omega);rw [ZJ hP.len hge_k] at hm hO;refine QF (Qh (Qh (Qm (Qa (zR ?_)))));refine zV (Qk U V1 (fun hg=>by (repeat (first | exact zGL | apply zGK | apply zGM))) U) ?_;refine zh zcb ?_;refine zA (zN (Qr ?_))
 first
 | exact Zl U U U V1 (vs:=[.slice bv n2 c2,.int .i64 no,.slice ea1 en1 ec1,.slice ea2 en2 ec2,.slice ea3 en3 ec3,.map (some r_30),.slice va6 q vc6,.slice as8 (zcz ps (Jn ws rows no xs es rd) vs).length cs8]) kG U (fun w hw=>by obtain ⟨I9,av9,c9,h1',h2',e9,h4'⟩:=OwnS.freeze (R:=[_,_,_]) hO Yd kE hw;cases e9;obtain ⟨I8,h81,h82,h83⟩:=h2'.freezeAll;exact ⟨_,I8,[],U,(hIc.trans h1').trans h81,h82,U,[.slice bv n2 c2,.int .i64 no,.slice ea1 en1 ec1,.slice ea2 en2 ec2,.slice ea3 en3 ec3,.map (some r_30),.slice va6 q vc6,.slice as8 (zcz ps (Jn ws rows no xs es rd) vs).length cs8],by rw [zfC he1,he2],U,U,fun _=>⟨⟨bv,n2,c2,no,ea1,en1,ec1,ea2,en2,ec2,ea3,en3,ec3,r_30,va6,q,vc6,as8,_,cs8⟩,U,⟨(hVn.mono h1').mono h81,(hX2.mono h1').mono h81,(hX3.mono h1').mono h81,⟨m,h83 r_30 _ kK,(hm.mono h1').mono h81⟩,⟨h4'.mono h81,fun z hz=>((hP.2 z (jF.1 hz).1).mono h1').mono h81⟩,by rw [<-hsf];exact (hSs.mono h1').mono h81,hn2,hm2,hm3,by show q<=100000;omega,by show (zcz ps (Jn ws rows no xs es rd) vs).length<=100000;rw [hsf];omega,fun z hz=>⟨z,(jF.1 hz).1,U⟩⟩⟩⟩)
end
end Go.Proofs.YtmbjmjbjdgjonaaGreatDoor.R
namespace Go.Proofs.YtmbjmjbjdgjonaaGreatDoor
section
open Go Go.Kn Go.Proofs
def Up (ps:List (Int×Int)):Prop:=ps.Pairwise fun p q=>0<q.1->p.1<q.1
theorem zkr {a b:List Int}:∀ (f i k:Nat),(∀ p∈paF a b f i k,p.1=0\/(i:Int)<p.1)/\Up (paF a b f i k)
 | 0,_,_=>⟨(fun p hp=>by cases hp),.nil⟩
 | f+1,i,k=>by
  unfold paF;split
  ·split
   ·have ih:=zkr (a:=a) (b:=b) f (i+1) (k+1);refine ⟨fun p hp=>?_,jV.2 ⟨fun q hq hq0=>?_,ih.2⟩⟩
    ·rcases jp.1 hp with rfl | hp
     ·exact .inr (by simp only;omega)
     ·rcases ih.1 p hp with h | h
      ·exact .inl h
      ·exact .inr kB
    ·rcases ih.1 q hq with h | h
     ·omega
     ·simpa using h
   ·split
    ·have ih:=zkr (a:=a) (b:=b) f (i+1) k;refine ⟨fun p hp=>?_,jV.2 ⟨fun q hq hq0=>?_,ih.2⟩⟩
     ·rcases jp.1 hp with rfl | hp
      ·exact .inr (by simp only;omega)
      ·rcases ih.1 p hp with h | h
       ·exact .inl h
       ·exact .inr kB
     ·rcases ih.1 q hq with h | h
      ·omega
      ·simpa using h
    ·have ih:=zkr (a:=a) (b:=b) f i (k+1);refine ⟨fun p hp=>?_,jV.2 ⟨fun q hq hq0=>by simpa using hq0,ih.2⟩⟩;rcases jp.1 hp with rfl | hp
     ·exact .inl U
     ·exact ih.1 p hp
  ·exact ⟨(fun p hp=>by cases hp),.nil⟩
theorem zCy {xs:List Wr}{i:Nat}:Up (pfW xs i):=by
 unfold pfW;split
 ·exact .nil
 ·unfold JF;split
  ·exact .nil
  ·exact (zkr _ 0 0).2
def zeF (ps:List (Int×Int))(l:List Int)(k:Nat):Int:=match ps.find? (fun y=>y.1==(k:Int)+1&&decide (y.2>0)) with
 | none=>0
 | some y=>l.getD (y.2-1).toNat 0
theorem X3 {w:Nat->Nat}{a b c d:Nat}(hc:c<=w a)(hd:d<=w b)(h:YN w a+c=YN w b+d):a=b/\c=d:=by
 rcases BW a b with g | g | g
 ·have:=zam (w:=w) g;omega
 ·subst g;omega
 ·have:=zam (w:=w) g;omega
theorem zCr {w:Nat->Nat}{l:List Int}{m n:Nat}:∀ (qs pre:List (Int×Int)) (f:Nat->Int),Up (pre++qs)->(∀ p∈pre++qs,QOK m n p)->(∀ k,f (YN w k+w k)=zeF pre l k)->(∀ k c,c<w k->f (YN w k+c)=0)->
  (∀ k,(qs.foldl (prF w l) f) (YN w k+w k)=zeF (pre++qs) l k)/\∀ k c,c<w k->(qs.foldl (prF w l) f) (YN w k+c)=0
 | [],pre,f,_,_,h1,h2=>by rw [jz];exact ⟨h1,h2⟩
 | y::qs,pre,f,hu,hq,h1,h2=>by
  have e:pre++y::qs=(pre++[y])++qs:=(by simp);rw [e] at hu hq ⊢;rw [Of];obtain ⟨i,j,rfl,hi,hj,h0⟩:=hq y kK
  have hno:∀ p∈pre,0<(i:Int)->p.1<(i:Int):=fun p hp hi0=>by
   have:=(Ov.1 (Ov.1 hu).1).2.2 p hp ((i:Int),(j:Int)) kK;exact this hi0
  have hfind:∀ k:Nat,zeF (pre++[((i:Int),(j:Int))]) l k=if (0<i/\0<j)/\i=k+1 then l.getD ((j:Int)-1).toNat 0 else zeF pre l k:=fun k=>by
   unfold zeF;rw [AQ];by_cases hm:(0<i/\0<j)/\i=k+1
   ·rw [jb hm]
    have hnone:pre.find? (fun y=>y.1==(k:Int)+1&&decide (y.2>0))=none:=by
     rw [Or];intro p hp hc;have h3:=hno p hp kB;simp only [jj,j0] at hc;omega
    rw [hnone,Option.none_or];rw [List.find?_cons_of_pos kM]
   ·rw [ja hm]
    have:([((i:Int),(j:Int))]:List (Int×Int)).find? (fun y=>y.1==(k:Int)+1&&decide (y.2>0))=none:=by
     rw [Or];intro p hp hc;simp only [jA] at hp;subst hp;simp only [jj,j0,jQ] at hc;exact hm kB
    rw [this,Bf]
  refine zCr qs (pre++[((i:Int),(j:Int))]) (prF w l f ((i:Int),(j:Int))) hu hq (fun k=>?_) (fun k c hc=>?_)
  ·rw [hfind k];unfold prF;by_cases hb:(decide ((i:Int)>0)&&decide ((j:Int)>0))=true
   ·rw [jb hb];have hb2:0<i/\0<j:=(by simp at hb;omega);have e1:((i:Int)-1).toNat=i-1:=kB;show UW f (YN w ((i:Int)-1).toNat+w ((i:Int)-1).toNat) _ _=_;rw [e1];by_cases hk:i=k+1
    ·rw [jb ⟨hb2,hk⟩,show i-1=k by omega,Jt]
    ·rw [ja kB,Kb,h1 k];intro h;have:=(X3 (w:=w) (js _) (js _) h).1;omega
   ·rw [ja hb,h1 k,ja];intro h;apply hb;simp;omega
  ·unfold prF;split
   ·show UW f _ _ _=0;rw [Kb,h2 k c hc];intro h;have h3:=X3 (w:=w) (BE hc) (js _) h;obtain ⟨h4,h5⟩:=h3;subst h4;omega
   ·exact h2 k c hc
def zgs (al:List (Int×Int))(l:List Int)(k:Nat):List Int:=(al.filter fun q=>q.1.toNat==k).map fun q=>l.getD q.2.toNat 0
theorem zeC (al:List (Int×Int))(l:List Int)(k:Nat):(zgs al l k).length=cnt al k:=by
 unfold zgs;rw [jE]
 have key:∀ (qs pre:List (Int×Int)),(pre.filter fun q=>q.1.toNat==k).length=cnt pre k->((pre++qs).filter fun q=>q.1.toNat==k).length=cnt (pre++qs) k:=by
  intro qs
  induction qs with
  | nil=>intro pre h;rw [jz];exact h
  | cons q qs ih=>
   intro pre h;have e:pre++q::qs=(pre++[q])++qs:=(by simp);rw [e];refine ih (pre++[q]) ?_;rw [jN,jh,Wm,h];unfold UW;by_cases hq:q.1.toNat=k
   ·rw [jb hq.symm,OG (by simpa using hq),hq];simp
   ·rw [ja (By hq),OR (by simpa using hq)];simp
 have:=key al [] U;simpa using this
theorem zlt (al:List (Int×Int))(l:List Int)(q:Int×Int)(k:Nat):zgs (al++[q]) l k=zgs al l k++(if q.1.toNat=k then [l.getD q.2.toNat 0] else []):=by
 unfold zgs;rw [jN,jZ];congr 1;by_cases h:q.1.toNat=k
 ·rw [jb h,OG (by simpa using h)];rfl
 ·rw [ja h,OR (by simpa using h)];rfl
theorem zCe {w:Nat->Nat}{l:List Int}{f0:Nat->Int}(hf:∀ k c,c<w k->f0 (YN w k+c)=0):∀ (qs pre:List (Int×Int)),(∀ k,cnt (pre++qs) k<=w k)->
  (∀ k,(alP w l f0 pre).1 (YN w k+w k)=f0 (YN w k+w k))->(∀ k c,c<w k->(alP w l f0 pre).1 (YN w k+c)=(zgs pre l k).getD c 0)->
  (∀ k,(alP w l f0 (pre++qs)).1 (YN w k+w k)=f0 (YN w k+w k))/\∀ k c,c<w k->(alP w l f0 (pre++qs)).1 (YN w k+c)=(zgs (pre++qs) l k).getD c 0
 | [],pre,_,h1,h2=>by rw [jz];exact ⟨h1,h2⟩
 | q::qs,pre,hw,h1,h2=>by
  have e:pre++q::qs=(pre++[q])++qs:=(by simp);rw [e] at hw ⊢
  have hlt:cnt pre q.1.toNat<w q.1.toNat:=by
   have h3:=hw q.1.toNat;have h4:=zop (pre++[q]) q.1.toNat qs.length qs (js _);rw [zd7 rfl] at h4;omega
  refine zCe hf qs (pre++[q]) hw (fun k=>?_) (fun k c hc=>?_)
  ·rw [zd0,Kb,h1 k];intro h;obtain ⟨h3,h4⟩:=X3 (w:=w) (js _) (BE hlt) h;subst h3;omega
  ·rw [zd0,zlt];by_cases h:YN w k+c=YN w q.1.toNat+cnt pre q.1.toNat
   ·obtain ⟨h3,h4⟩:=X3 (w:=w) (BE hc) (BE hlt) h;rw [h,Jt,jb h3.symm,h4,<-zeC pre l,<-h3];simp
   ·rw [Kb h,h2 k c hc];by_cases hk:q.1.toNat=k
    ·subst hk;rw [jb rfl,Ot,Ot,AA];split
     ·rfl
     ·rename_i hlen;have hne:c≠(zgs pre l q.1.toNat).length:=(by rw [zeC];intro h5;exact h (by rw [h5]));rw [Oy kB,Oy kM]
    ·rw [ja hk,jz]
def zy4 (w:Nat->Nat)(T l:List Int)(i:Nat)(ps:List (Int×Int))(k:Nat):List Int:=
 (zgs (zjJ ps) l k++List.replicate (w k-(zgs (zjJ ps) l k).length) 0)++(if k<T.length then [if i=0 then T.getD k 0 else zeF ps l k] else [])
def zpH (xs:List Wr)(i k:Nat):List Int:=zy4 (wdW xs) (csW xs 0) (csW xs i) i (pfW xs i) k
def zy7 (xs:List Wr)(i k:Nat):List Int:=(List.range k).flatMap (zpH xs i)
theorem ze2 (xs:List Wr)(i k:Nat):zy7 xs i (k+1)=zy7 xs i k++zpH xs i k:=by unfold zy7;rw [Ou,jo];simp
theorem zvh {L:List Int}{m:Nat}(h:L.length<=m):(List.range m).map (fun c=>L.getD c 0)=L++List.replicate (m-L.length) 0:=by
 apply Ai;intro c;rw [j5,AA];by_cases hc:c<m
 ·rw [AY hc];split
  ·rename_i h1;rw [j9,Ot,je h1];rfl
  ·rename_i h1;rw [j9,Ot,Oy kB,List.getElem?_replicate,jb kB];rfl
 ·rw [Oy kM,ja kB,List.getElem?_replicate,ja kB];rfl
theorem zhR (f:Nat->Int)(a b:Nat):Vx (a+b) f=Vx a f++(List.range b).map fun c=>f (a+c):=by unfold Vx;rw [List.range_add,jZ,BC];rfl
theorem zDC {w:Nat->Nat}{T:List Int}:∀ m,(∀ k,txF w T m (YN w k+w k)=if k<m then T.getD k 0 else 0)/\∀ k c,c<w k->txF w T m (YN w k+c)=0
 | 0=>⟨fun k=>U,fun k c _=>U⟩
 | m+1=>by
  have ih:=zDC (w:=w) (T:=T) m;refine ⟨fun k=>?_,fun k c hc=>?_⟩
  ·show UW (txF w T m) (YN w m+w m) (T.getD m 0) _=_;by_cases e:k=m
   ·subst e;rw [Jt,jb kB]
   ·rw [Kb (fun h=>e (X3 (w:=w) (js _) (js _) h).1),ih.1 k];by_cases h:k<m
    ·rw [jb h,jb kB]
    ·rw [ja h,ja kB]
  ·show UW (txF w T m) (YN w m+w m) (T.getD m 0) _=_;rw [Kb,ih.2 k c hc];intro h;obtain ⟨h1,h2⟩:=X3 (w:=w) (BE hc) (js _) h;subst h1;omega
theorem zAQ {xs:List Wr}{i:Nat}(hi:i<xs.length):(∀ k,k<(csW xs 0).length->zjY (wdW xs) (csW xs 0) (csW xs i) i (pfW xs i) (YN (wdW xs) k+wdW xs k)=if i=0 then (csW xs 0).getD k 0 else zeF (pfW xs i) (csW xs i) k)/\
  ∀ k c,c<wdW xs k->zjY (wdW xs) (csW xs 0) (csW xs i) i (pfW xs i) (YN (wdW xs) k+c)=(zgs (alW xs i) (csW xs i) k).getD c 0:=by
 have hw:∀ k,cnt ([]++alW xs i) k<=wdW xs k:=fun k=>zjd (al:=alW xs) hi;by_cases h0:i=0
 ·subst h0;have e1:zjY (wdW xs) (csW xs 0) (csW xs 0) 0 (pfW xs 0)=txF (wdW xs) (csW xs 0) (csW xs 0).length:=rfl;have ht:=zDC (w:=wdW xs) (T:=csW xs 0) (csW xs 0).length;rw [e1];refine ⟨fun k hk=>by rw [ht.1 k,jb hk,jb rfl],fun k c hc=>by rw [ht.2 k c hc];rfl⟩
 ·have hp:=zCr (w:=wdW xs) (l:=csW xs i) (pfW xs i) [] (fun _=>0) (by rw [j8];exact zCy) (by rw [j8];exact (zaC (xs:=xs) (i:=i)).1) (fun k=>U) (fun k c _=>U);rw [j8] at hp
  have ha:=zCe (l:=csW xs i) (f0:=(pfW xs i).foldl (prF (wdW xs) (csW xs i)) (fun _=>0)) hp.2 (alW xs i) [] hw (fun k=>U) (fun k c hc=>by
   show (pfW xs i).foldl (prF (wdW xs) (csW xs i)) (fun _=>0) (YN (wdW xs) k+c)=_
   rw [hp.2 k c hc];rfl)
  rw [j8] at ha;have e1:zjY (wdW xs) (csW xs 0) (csW xs i) i (pfW xs i)=(alP (wdW xs) (csW xs i) ((pfW xs i).foldl (prF (wdW xs) (csW xs i)) (fun _=>0)) (alW xs i)).1:=(by unfold zjY;rw [ja h0];rfl);rw [e1];exact ⟨fun k _=>by rw [ha.1 k,hp.1 k,ja h0],ha.2⟩
theorem zvI {xs:List Wr}{i:Nat}(hi:i<xs.length):zhF xs i=zy7 xs i ((csW xs 0).length+1):=by
 obtain ⟨h1,h2⟩:=zAQ hi;have hle:∀ k,(zgs (alW xs i) (csW xs i) k).length<=wdW xs k:=fun k=>by rw [zeC];exact zjd (al:=alW xs) hi
 have hpart:∀ k,(List.range (wdW xs k)).map (fun c=>zjY (wdW xs) (csW xs 0) (csW xs i) i (pfW xs i) (YN (wdW xs) k+c))=zgs (alW xs i) (csW xs i) k++List.replicate (wdW xs k-(zgs (alW xs i) (csW xs i) k).length) 0:=fun k=>by
  rw [<-zvh (hle k)];refine O6 fun c hc=>?_;exact h2 k c (jm.1 hc)
 have key:∀ k,k<=(csW xs 0).length->Vx (YN (wdW xs) k) (zjY (wdW xs) (csW xs 0) (csW xs i) i (pfW xs i))=zy7 xs i k:=by
  intro k
  induction k with
  | zero=>intro _;rfl
  | succ k ih=>
   intro hk;rw [ze2,<-ih kB];show Vx (YN (wdW xs) k+(wdW xs k+1)) _=_;rw [zhR];congr 1;rw [Ou,jZ,hpart k];unfold zpH zy4;rw [jb kB];congr 1;simp only [jx,Oo];rw [h1 k kB]
 have hlo:loW xs=YN (wdW xs) (csW xs 0).length+wdW xs (csW xs 0).length:=(by unfold loW;show YN _ _+(_+1)-1=_;omega);unfold zhF;rw [hlo,zhR,key _ (js _),hpart,ze2];congr 1;unfold zpH zy4;rw [ja kB,jz];rfl
theorem zCn {ps:List (Int×Int)}{l:List Int}{m:Nat}(h:ps.any (fun y=>y.1==(m:Int)+1&&decide (y.2>0))=false):zeF ps l m=0:=by
 unfold zeF
 have:ps.find? (fun y=>y.1==(m:Int)+1&&decide (y.2>0))=none:=by
  rw [Or];intro y hy2 h3;exact jJ.1 h y hy2 h3
 rw [this]
end
end Go.Proofs.YtmbjmjbjdgjonaaGreatDoor
section
namespace Go.Kn
open Go
end Go.Kn
namespace Go.Proofs.YtmbjmjbjdgjonaaGreatDoor
open Go Go.Kn Go.Proofs
def thW (xs:List Wr)(i k:Nat):List Int:=zgs (alW xs i) (csW xs i) k
def zwp (xs:List Wr)(i k:Nat):List Int:=thW xs i k++List.replicate (wdW xs k-(thW xs i k).length) 0
theorem zER {xs:List Wr}{i k:Nat}(h:¬k<(csW xs 0).length):zpH xs i k=zwp xs i k:=by unfold zpH zy4 zwp thW alW;rw [ja h,jz]
theorem zFi {xs:List Wr}{k:Nat}(h:k<(csW xs 0).length):zpH xs 0 k=zwp xs 0 k++[(csW xs 0).getD k 0]:=by unfold zpH zy4 zwp thW alW;rw [jb h,jb rfl]
end Go.Proofs.YtmbjmjbjdgjonaaGreatDoor
end
namespace Go.Proofs.YtmbjmjbjdgjonaaGreatDoor
section
open Go Go.Kn Go.Proofs
section
variable {ws:List Wr} {rows:List (List Int)} {no:Int} {cl:List Int} {es:List Em} {rd:List Int}
theorem zuR (h1:zaM ws=0)(h2:Yj ws=rows)(h3:zcf rows no cl es rd=0):rows.length=ws.length/\(∀ r∈rows,r.length=rd.length)/\rd.length<=64/\zzX ws rows/\(∀ x∈ws,x.rs.length<=64)/\Y2 rows cl=0/\rd=ZW rows cl es:=by
 obtain ⟨hm,hr⟩:=zso h3
 have hc:Y2 rows cl=0:=by
  cases Bz (Y2 rows cl=0) with
  | inl h=>exact h
  | inr h=>rw [zmC h] at hm;exact absurd hm h
 obtain ⟨hr1,hr6,hr64,hrr⟩:=Uh (zeL hc);have hl:rd.length=(rows.getD 0 []).length:=(by rw [hr,zbM]);obtain ⟨hk,hlen⟩:=zgb h1 (by rw [h2];omega);rw [h2] at hlen
 have h64:∀ x∈ws,x.rs.length<=64:=fun x hx=>by
  unfold Ws at hk;split at hk
  ·omega
  ·split at hk
   ·omega
   ·rename_i hq;have hq2:∀ x∈ws,x.rs.length<=64:=(by simpa using hq);exact hq2 x hx
 exact ⟨hlen,fun r hr'=>by rw [(hrr r hr').1,hl],kB,by rw [<-h2];exact zhK,h64,hc,hr⟩
end
end
end Go.Proofs.YtmbjmjbjdgjonaaGreatDoor
namespace Go.Proofs.YtmbjmjbjdgjonaaGreatDoor.R
section
open Go Go.Kn Go.Proofs
section
variable {ws:List Wr} {rows:List (List Int)} {no:Int} {cl:List Int} {es:List Em} {rd:List Int}
theorem zAL (h:Uz ws rows no cl es rd=0):zaM ws=0/\Yj ws=rows/\zcf rows no cl es rd=0/\UK ws rows rd rd.length=some (Jn ws rows no cl es rd):=by
 have h0:=h;unfold Uz at h;split at h
 ·exact absurd h kI
 ·split at h
  ·cases h
  ·split at h
   ·exact absurd h kI
   ·split at h
    ·cases h
    ·rename_i h1 h2 h3 h4;refine ⟨by simpa using h1,by simpa using h2,by simpa using h3,?_⟩;unfold Jn;rw [ja (by rw [h0];simp)]
     cases hs:UK ws rows rd rd.length with
     | none=>rw [hs] at h4;simp at h4
     | some l=>rfl
theorem zgB:∀ {k:Nat} {l:List Sg},UK ws rows rd k=some l->∀ x∈l,∃ q:Nat,q<k/\x.id=(q:Int)/\zca ws rows q (rd.getD q 0)= .sg x
 | 0,l,h,x,hx=>by cases h;cases hx
 | k+1,l,h,x,hx=>by
  unfold UK at h
  cases h1:UK ws rows rd k with
  | none=>rw [h1] at h;cases h
  | some l1=>
   rw [h1] at h;dsimp only at h;split at h
   ·cases h
   ·cases h;obtain ⟨q,a,b,c⟩:=zgB h1 x hx;exact ⟨q,kB,b,c⟩
   ·rename_i y ho;cases h;rcases jv.1 hx with hx | hx
    ·obtain ⟨q,a,b,c⟩:=zgB h1 x hx;exact ⟨q,kB,b,c⟩
    ·rw [jA] at hx;subst hx;refine ⟨k,kB,?_,ho⟩;unfold zca at ho;split at ho
     ·cases ho
     ·split at ho
      ·cases ho
      ·split at ho
       ·cases ho
       ·cases ho;rfl
theorem zzT (h:Uz ws rows no cl es rd=0){x:Sg}(hx:x∈Jn ws rows no cl es rd):∃ q:Nat,x.id=(q:Int)/\q<rd.length/\(∀ r∈rows,q<r.length)/\zca ws rows q (rd.getD q 0)= .sg x:=by obtain ⟨h1,h2,h3,h4⟩:=zAL h;obtain ⟨q,a,b,c⟩:=zgB h4 x hx;have hr:=(zuR h1 h2 h3).2.1;exact ⟨q,b,a,fun r hm=>by rw [hr r hm];exact a,c⟩
end
theorem zpV {xs:List Sg}{k y:Sg}(h:y∈ze3 xs k):y=k\/y∈xs:=by
 unfold ze3 at h;rcases jv.1 h with h | h
 ·exact .inr (List.takeWhile_sublist _ |>.subset h)
 ·rcases jp.1 h with h | h
  ·exact .inl h
  ·exact .inr (List.dropWhile_sublist _ |>.subset h)
theorem ziJ:∀ {l:List Pt} {base:List Sg} {y:Sg},y∈Uo base l->y∈base\/∃ p∈l,p.kind=2/\p.nw=y
 | [],base,y,h=>.inl h
 | p::l,base,y,h=>by
  have h':y∈Uo (if p.kind=2 then ze3 base p.nw else base) l:=h;rcases ziJ h' with h1 | ⟨q,h1,h2,h3⟩
  ·split at h1
   ·rename_i hk;rcases zpV h1 with h1 | h1
    ·exact .inr ⟨p,jk ..,hk,h1.symm⟩
    ·exact .inl h1
   ·exact .inl h1
  ·exact .inr ⟨q,jq _ h1,h2,h3⟩
variable{on:Int->Int->Bool}{base:List Sg}{l:List Pt}{x:Sg}
theorem zp7 (h:x∈zaL on base l):∃ y,y∈Uo base l/\x=zf6 on l y/\exB on l y.id=true:=by unfold zaL at h;obtain ⟨y,h1,rfl⟩:=jt.1 h;obtain ⟨h2,h3⟩:=jF.1 h1;exact ⟨y,h2,U,h3⟩
theorem zD2 {s:Int}(h:(or2 l s).2=false):l.any (inP s)=false:=by
 unfold or2 at h
 cases hf:l.find? (inP s) with
 | none=>rw [Or] at hf;rw [jJ];exact hf
 | some p=>rw [hf] at h;cases h
theorem zpK (hs:Sto l)(h:x∈zaL on base l)(hn:(or2 l x.id).2=false):∃ y∈base,x=zf6 on l y/\exB on l y.id=true:=by
 obtain ⟨y,h1,h2,h3⟩:=zp7 h;rcases ziJ h1 with h4 | ⟨p,hp,hk,hw⟩
 ·exact ⟨y,h4,h2,h3⟩
 ·have h5:=zD2 hn;rw [jJ] at h5;refine absurd ?_ (h5 p hp);unfold inP;rw [h2,zeQ,<-hw,((hs.ok p hp).ins hk).1];simp [hk]
variable{ws:List Wr}{rows:List (List Int)}{no:Int}{cl rd vs:List Int}{es:List Em}{ps:List Pt}
theorem zCh (h1:Uz ws rows no cl es rd=0)(h2:zaY ps (Jn ws rows no cl es rd) vs=0)(hx:x∈zaL (onF ps) (Jn ws rows no cl es rd) (ZY ps vs))
  (hn:(or2 (ZY ps vs) x.id).2=false):∃ q:Nat,x.id=q/\q<rd.length/\∀ r∈rows,q<r.length:=by
 obtain ⟨hsto,_,_,_,_,hver,_⟩:=zdq h2;obtain ⟨y,hy,e,_⟩:=zpK (zdP hsto hver) hx hn;obtain ⟨q,a,b,c,_⟩:=zzT h1 hy;exact ⟨q,by rw [e,zeQ,a],b,c⟩
variable{e1:Int}{bs:List Sg}
theorem zw6 (h:zkb e1 ps bs vs=0):e1=0/\zaY ps bs vs=0:=by
 unfold zkb at h;split at h
 ·exact absurd h kI
 ·rename_i h1;exact ⟨by simpa using h1,h⟩
def orE (e0:Int)(s:List Sg)(sign f:Int):Int:=if e0≠0 then e0 else if (decide (f<1)||decide (f>9))|| !(s.any fun x=>x.id==sign) then 440 else 0
def orO (e:Int)(o:Og):Og:=if e≠0 then zOg else o
def OrQ (e:Int)(o:Og)(v:Value)(I:Qt)(L:Go.Kn.Loc):Prop:=L=[]/\∃ vs,v= .tuple #[.agg vs.toArray,.int .i64 e]/\OgV I o vs
variable{e0 sign f:Int}{s:List Sg}
theorem zEn (h:e0≠0):orE e0 s sign f=e0:=jb h
theorem zFA (h:e0=0)(h2:((decide (f<1)||decide (f>9))|| !(s.any fun x=>x.id==sign))=true):orE e0 s sign f=440:=by unfold orE;rw [ja kB,jb h2]
theorem zCN (h:e0=0)(h2:((decide (f<1)||decide (f>9))|| !(s.any fun x=>x.id==sign))=false):orE e0 s sign f=0:=by unfold orE;rw [ja kB,ja (by rw [h2];decide)]
variable{I:Qt}{e:Int}{o:Og}
theorem OrQ.bad (he:e≠0):OrQ e (orO e o) (.tuple #[.agg #[.int .i64 0,.int .i64 0,.slice none 0 0,.slice none 0 0],.int .i64 e]) I []:=by unfold orO;rw [jb he];exact ⟨U,[.int .i64 0,.int .i64 0,.slice none 0 0,.slice none 0 0],U,none,0,0,none,0,0,U,.nil,.nil⟩
theorem zEA (h:((decide (f<1)||decide (f>9))|| !(s.any fun x=>x.id==sign))=false):∃ x∈s,x.id=sign:=by rw [On] at h;have h2:=zDh h.2;rw [ju] at h2;obtain ⟨x,hx,he⟩:=h2;exact ⟨x,hx,by simpa using he⟩
theorem zC6:Fun Tryz.prog 53:=.of Tryz.func53 kA kA
theorem zzW:Fun Tryz.prog 54:=.of Tryz.func54 kA kA
theorem zAs:Fun Tryz.prog 55:=.of Tryz.func55 kA kA
theorem zAf:Fun Tryz.prog 56:=.of Tryz.func56 kA kA
variable{b1:Nat}
theorem zD8 (h1:I b1=some (.cells #[.int .i64 sign] 3 (0,0)))(x:Sg):Zt Tryz.prog 55 [Yp x,.pointer (some ⟨b1,0,none⟩)] I (.bool (x.id==sign)):=by intro g H w hw;refine qe Tryz.func55 Tryz.ntmps55 hw ?_;refine zR ?_;refine QG U U U (fun b_2=>?_);refine zA ?_;refine zN (zR ?_);refine zF Zb ?_;refine zL Qq ?_;refine zV (Qd U Qq (fun hg=>by exact .imm h1 U)) ?_;refine zC ?_;refine zA (zN (Qr ?_));exact zr U U kL
variable{av bv ea1 ea2 ea3 pv dv:Option Addr}{xs:List Int}
theorem zjb {n c:Nat}(hW0:SlW I av n c ws)(hn:n<=100000){n2 c2:Nat}(hVn:SlN I bv n2 c2 rows)(hn2:n2<=100000){en1 ec1:Nat}{en2 ec2:Nat}{en3 ec3:Nat}(hX1:Sl I 1 Q3 ea1 en1 ec1 xs)(hX2:Sl I 3 V8 ea2 en2 ec2 es)(hX3:Sl I 1 Q3 ea3 en3 ec3 rd)(hm1:en1<=100000)(hm2:en2<=100000)(hm3:en3<=100000)(no:Int){pn pc:Nat}(hP:SlP I pv pn pc ps)(hpn:pn<=100000){n3 c3:Nat}(hVs:Sl I 1 Q3 dv n3 c3 vs)(hn3:n3<=100000)(hDb:KR I)(sign fld:Int):ZQ Tryz.prog 16 [.slice av n c,.slice bv n2 c2,.agg (KC no ea1 en1 ec1 ea2 en2 ec2 ea3 en3 ec3).toArray,.slice pv pn pc,.slice dv n3 c3,.int .i64 sign,.int .i64 fld] I [] (OrQ (orE (zkb (Uz ws rows no xs es rd) ps (Jn ws rows no xs es rd) vs) (zaL (onF ps) (Jn ws rows no xs es rd) (ZY ps vs)) sign fld) (orO (orE (zkb (Uz ws rows no xs es rd) ps (Jn ws rows no xs es rd) vs) (zaL (onF ps) (Jn ws rows no xs es rd) (ZY ps vs)) sign fld) (zcn (onF ps) rows es rd (ZY ps vs) sign fld))):=by
 intro g H w hw;refine qe Tryz.func16 Tryz.ntmps16 hw ?_;have hIc:=zGN I;refine zR ?_;refine QG U U U (fun b_9=>?_);refine QG U U U (fun b_12=>?_);refine Qs zcj U U (fun b_14=>?_);refine zA ?_;refine zN (zR ?_);refine zM ?_;refine zM ?_;refine zV (Qk U Vn (fun hg=>by exact Cells.g2) U) ?_;refine zM ?_;refine zM ?_;refine zpc [_,_,_,_,_] U zC6 .nil (zAY hW0 hn hVn hn2 hX1 hX2 hX3 hm1 hm2 hm3 no hP hpn hVs hn3 hDb) ?_;rintro vv1 I1 L1 hI1 ⟨rfl,vx,rfl,hvl,hv1,hop⟩;have hIc:=hIc.trans hI1;refine zM ?_;refine zE ?_;refine zE ?_;refine Qs zsQ U U (fun b_16=>?_);refine zfn U U zcb hvl U hv1 U (by repeat (first | exact Upd.here | apply Upd.there | apply QH)) ?_;refine zA (zN (Ql (zR ?_)));refine zM ?_;refine zC (zN ?_);refine zI ?_ ?_<;>intro hc27
 ·have he0:(zkb (Uz ws rows no xs es rd) ps (Jn ws rows no xs es rd) vs)≠0:=(by simpa using hc27);refine zR ?_;refine zV (Qk U VN (fun hg=>by exact Cells.g1) U) ?_;refine zM ?_;refine zh Kt ?_;refine zA (zN (Qr (Qc ?_)))
  first
  | exact Zl U U U VN (vs:=[.int .i64 0,.int .i64 0,.slice none 0 0,.slice none 0 0]) kG U (fun w hw=>⟨_,I1,[],U,hIc,hw.drop,by rw [zEn he0];exact OrQ.bad he0⟩)
 have he0:(zkb (Uz ws rows no xs es rd) ps (Jn ws rows no xs es rd) vs)=0:=(by simpa using hc27);obtain ⟨t,rfl,hT⟩:=hop he0;obtain ⟨hs1,hs2⟩:=zw6 he0;refine Qo (Qa (Ql (Ql ?_)));refine QQ (b:=b_12) (by repeat (first | exact Zf.here | apply Zf.there)) (fun I2 hI2 hb2=>?_);have hT:=hT.mono hI2;have hIc:=hIc.trans hI2;have h12:=hb2;refine Qf (zM ?_);refine zC ?_;refine zM ?_;refine Q8 2 U U U ?_;refine zJ (Qj U) ?_;refine zJ (QI U U U) ?_;refine ZO U U U U U ?_;refine zM ?_;refine Q8 6 U U U ?_;refine zJ (Qe U zeJ) ?_;refine zJ (Qd U zeW (fun hg=>by exact QB.h0 U)) ?_;refine zJ (QN (us:=[]) (vs:=[_]) U U) ?_;refine qf (vs:=[_,_]) U zzW (fun hg=>zD7 (cap:=[.pointer (some ⟨b_12,0,none⟩)]) hT.S hT.bs zAs (fun x hx=>zD8 h12 x)) ?_;refine zJ (Vv U) ?_;refine ZO U U U U U ?_;refine zN ?_;refine zI ?_ ?_<;>intro hc42
 ·refine zR ?_;refine zV (Qk U VN (fun hg=>by exact Cells.g1) U) ?_;refine zh Kt ?_;refine zA (zN (Qr (Qc ?_)))
  first
  | exact Zl U U U VN (vs:=[.int .i64 0,.int .i64 0,.slice none 0 0,.slice none 0 0]) kG U (fun w hw=>⟨_,I2,[],U,hIc,hw.drop,by rw [zFA he0 hc42];exact OrQ.bad kE⟩)
 obtain ⟨x,hx,hxi⟩:∃ x∈(zaL (onF ps) (Jn ws rows no xs es rd) (ZY ps vs)),x.id=sign:=zEA hc42;have hin:∃ x∈(zaL (onF ps) (Jn ws rows no xs es rd) (ZY ps vs)),x.id=sign:=⟨x,hx,hxi⟩;refine Qo (Qa (zR ?_));refine zV (Qk U V1 (fun hg=>by exact Cells.g0) U) ?_;refine zV (Qd U Qq (fun hg=>by exact .imm h12 U)) ?_;refine zM ?_;refine zV (ZT (ps:=[(0,_),(1,_)]) [_,_] Kc ztc U U) ?_;refine zpc [_,_] U zAf .nil (zEH hT sign fld (fun h=>by obtain ⟨x,hx,hxi⟩:=hin;have h9:=zCh hs1 hs2 hx (by rw [hxi];exact h);rw [hxi] at h9;exact h9)) ?_;rintro vv3 I3 L3 hI3 ⟨rfl,a1,n1,c1,a2,n2,c2,rfl,hw1,hw2⟩;have hIc:=hIc.trans hI3;refine zh Kt ?_;refine zA (zN (Qr ?_))
 first
 | exact Zl U U U VN (vs:=[.int .i64 _,.int .i64 _,.slice a1 n1 c1,.slice a2 n2 c2]) kG U (fun w hw=>⟨_,I3,[],U,hIc,hw.drop,by rw [zCN he0 hc42];exact ⟨U,_,U,_,_,_,_,_,_,U,hw1,hw2⟩⟩)
theorem zkQ (a:List Sg):zcq a a [] where
 kind p hp:=by cases hp
 rem p hp:=by cases hp
 ins p hp:=by cases hp
 set p hp:=by cases hp
 dif p hp:=by cases hp
 one p hp:=by cases hp
 allrem s x h1 h2:=by rw [h1] at h2;cases h2
 allins s y h1 h2:=by rw [h1] at h2;cases h2
 allset s x y h1 h2:=by rw [h1] at h2;cases h2;exact ⟨U,fun f _ h=>absurd U h⟩
theorem zyH:∀ (n:Nat) (a b:List Sg),a.length+b.length<=n->Srt a->Srt b->(∀ x∈a,∀ y∈b,x.id=y.id->x.kind=y.kind)->∃ l,dfL a b=some l/\l.length<=9*(a.length+b.length):=by
 intro n
 induction n with
 | zero=>
  intro a b hn _ _ _;obtain rfl:a=[]:=j4 kB;obtain rfl:b=[]:=j4 kB;exact ⟨[],by unfold dfL;rfl,jf _⟩
 | succ n ih=>
  intro a b hn ha hb hk
  match a,b,hn,ha,hb,hk with
  | [],[],_,_,_,_=>exact ⟨[],by unfold dfL;rfl,jf _⟩
  | x::a,[],hn,ha,hb,hk=>
   obtain ⟨t1,_⟩:=Kr ha;obtain ⟨l,h1,h2⟩:=ih a [] (by simp at hn ⊢;omega) t1 hb (fun x hx y hy=>by cases hy);exact ⟨_,by unfold dfL;rw [h1];rfl,by simp only [jw,O4] at h2 ⊢;omega⟩
  | [],y::b,hn,ha,hb,hk=>
   obtain ⟨t1,_⟩:=Kr hb;obtain ⟨l,h1,h2⟩:=ih [] b (by simp at hn ⊢;omega) ha t1 (fun x hx=>by cases hx);exact ⟨_,by unfold dfL;rw [h1];rfl,by simp only [jw,O4] at h2 ⊢;omega⟩
  | x::a,y::b,hn,ha,hb,hk=>
   obtain ⟨t1,_⟩:=Kr ha;obtain ⟨u1,_⟩:=Kr hb;by_cases g:x.id<y.id
   ·obtain ⟨l,h1,h2⟩:=ih a (y::b) (by simp at hn ⊢;omega) t1 hb (fun z hz w hw=>hk z (jq _ hz) w hw);exact ⟨_,by unfold dfL;rw [jb g,h1];rfl,by simp only [jw] at h2 ⊢;omega⟩
   ·by_cases g2:y.id<x.id
    ·obtain ⟨l,h1,h2⟩:=ih (x::a) b (by simp at hn ⊢;omega) ha u1 (fun z hz w hw=>hk z hz w (jq _ hw));exact ⟨_,by unfold dfL;rw [ja g,jb g2,h1];rfl,by simp only [jw] at h2 ⊢;omega⟩
    ·have g3:=hk x (jk ..) y (jk ..) kB;obtain ⟨l,h1,h2⟩:=ih a b (by simp at hn ⊢;omega) t1 u1 (fun z hz w hw=>hk z (jq _ hz) w (jq _ hw));refine ⟨chC x y 9++l,by unfold dfL;rw [ja g,ja g2,ja (by simpa using g3),h1];rfl,?_⟩;have:=zrK x y 9;simp only [jh,jw] at h2 ⊢;have h3:(chC x y 9).length<=9:=(by unfold chC;exact jT (List.length_filterMap_le _ _) kK);omega
variable{a:List Sg}{first:Int}
theorem zhs {k i:Int}(h:zE2 base k i a)(hb:base.length<=12)(ha:a.length<=13)(h1:1<=first/\first<=256):za7 base a first []=0:=by obtain ⟨l,e,hl⟩:=zyH _ base a (js _) (VL (Y5 h.cb).2) (VL (Y5 h.ca).2) (fun x hx y hy e=>h.kd x.id x y (WD (VL (Y5 h.cb).2) hx) (by rw [e];exact WD (VL (Y5 h.ca).2) hy));unfold za7;rw [ja (by rw [h.cb];decide),ja (by rw [h.ca];decide),ja kE,ja (by unfold ndB;simp),ja (by unfold Zu;simp;omega),e];exact ja kB
structure One (base a:List Sg)(p:List Pt):Prop where
 cb:chkG base=0
 ca:chkG a=0
 dp:zcq base a p
 lst:Lst p
 ok:∀ x∈p,Jw x=0
 nn:∀ x∈p,x.needs=[]
 len:p.length<=512
 chk:KV p=0
variable{p:List Pt}
theorem zCm (hp:za7 base a first []=0)(rp:zoF base a first [] p):One base a p:=by obtain ⟨cb,ca,_,_,h1,lp,ep,hl,mp⟩:=zBL hp;obtain ⟨lp',ep',np⟩:=rp.2 hp;rw [ep] at ep';cases ep';have d1:=zFm _ base a lp (js _) (VL (Y5 cb).2) (VL (Y5 ca).2) ep;have nn:∀ x∈p,x.needs=[]:=znS np;have hlst:Lst p:=zns h1 (fun i x hx=>(np.of hx).choose_spec.2.1) nn;have hok:∀ x∈p,Jw x=0:=fun x hx=>zrw d1 np cb ca h1 mp kK kK .nil hx;have hlen:p.length<=512:=(by rw [np.len];exact hl);have hdp:=zzj d1 np;refine ⟨cb,ca,hdp,hlst,hok,nn,hlen,?_⟩;have hs:Sto (p++[]):=zve (base:=base) (a:=a) (b:=base) (by rw [jz];exact hlst) (fun x hx=>hok x (by simpa using hx)) (fun x hx=>nn x (by simpa using hx)) hdp (zkQ base) (by rintro ⟨x,_,y,hy,_⟩;cases hy);rw [jz] at hs;refine ztU hlen ?_ hs;rw [Ve];intro x hx;obtain ⟨y,hy,rfl⟩:=jt.1 hx;exact hok y hy
section
variable {base a:List Sg} {p:List Pt} (h:One base a p)
include h
theorem One.ver:Ver p (p.map (·.id)):=zeP h.lst (List.Sublist.refl _) h.nn
theorem One.vl:ZY p (p.map (·.id))=p:=zi5 h.lst
theorem One.sgn (hn:base.length+p.length<=4096):zaY p base (p.map (·.id))=0/\zcz p base (p.map (·.id))=a:=
 zkO h.chk h.cb h.ca h.ver h.vl (by rw [jE];exact h.len) hn h.dp
theorem One.sgn0 (hn:base.length<=4096):zaY p base []=0/\zcz p base []=base:=
 zkO (p:=[]) h.chk h.cb h.cb (zeP (t:=[]) h.lst (BZ _) (fun x hx=>by cases hx)) (by have:=zb4 (t:=[]) h.lst (BZ _);exact this) (jf _) (by simpa using hn) (zkQ base)
theorem One.cfl (hn:base.length+p.length<=4096):zyg p base (p.map (·.id))=[]:=by have hap:=h.dp.apart (zfc h.lst);exact (zvi h.chk h.cb hap.calm (by unfold zbo;exact ji.2 fun x hx=>zoC h.dp hx) hn (zeY h.lst) h.ver).2.1
def ztd (base:List Sg)(z:Sg)(f:Int):Bool:=match QW base z.id with
 | none=>true
 | some x=> !decide (ZR x f=ZR z f)
theorem One.any_in {z:Sg}(hz:QW a z.id=some z):p.any (inP z.id)=(QW base z.id).isNone:=by
 cases e:QW base z.id with
 | none=>
  obtain ⟨q,hq,k,s⟩:=h.dp.allins _ _ e hz;show _=true;rw [ju];exact ⟨q,hq,by unfold inP;simp [k,s]⟩
 | some x=>
  show _=false;rw [jJ];intro q hq g;unfold inP at g;simp at g;have:=(h.dp.ins q hq g.1).1;rw [g.2,e] at this;cases this
theorem One.lat {z x:Sg}(hz:QW a z.id=some z)(hx:QW base z.id=some x){f:Int}(hf:isF f)(on:Int->Int->Bool)(hon:∀ a b,on a b=false):decide (0<(VQ on p z.id f).length)= !decide (ZR x f=ZR z f):=by
 have hst:VQ on p z.id f=stF p z.id f:=by
  unfold VQ;refine OK.2 fun q _=>?_;rw [jS,jJ];intro r _ g;rw [hon] at g;cases g
 rw [hst];by_cases e:ZR x f=ZR z f
 ·have hnil:stF p z.id f=[]:=by
   rw [BB];intro q hq;obtain ⟨q1,q2,q3,q4⟩:=JB.1 hq;exact h.dp.dif q q1 q2 x z (by rw [q3];exact hx) (by rw [q3];exact hz) (by rw [q4];exact e)
  rw [hnil];simp [e]
 ·obtain ⟨q,hq,k,s,g⟩:=(h.dp.allset _ _ _ hx hz).2 f hf e;have:0<(stF p z.id f).length:=AL (JB.2 ⟨hq,k,s,g⟩);simp [e,this]
theorem One.k3 {rows:List (List Int)}{es:List Em}{rd:List Int}{z:Sg}(hz:QW a z.id=some z){f:Int}(hf:isF f):
  ((zcn (onF p) rows es rd (ZY p (p.map (·.id))) z.id f).k==3)=ztd base z f/\(ztd base z f=false->zcn (onF p) rows es rd (ZY p (p.map (·.id))) z.id f=zcn (onF p) rows es rd (ZY p []) z.id f):=by
 have hv0:ZY p []=[]:=zb4 (t:=[]) h.lst (BZ _);rw [h.vl,hv0];have hon:∀ a b,onF p a b=false:=zle h.nn;have hin:=h.any_in hz
 have h2:∀ l:List Pt,(or2 l z.id).2=l.any (inP z.id):=fun l=>by
  unfold or2
  cases hf:l.find? (inP z.id) with
  | none=>rw [Or] at hf;exact (jJ.2 hf).symm
  | some q=>exact (ju.2 ⟨q,OA hf,Av hf⟩).symm
 have h0:zcn (onF p) rows es rd [] z.id f=if (or3 rows rd z.id f).2 then (or3 rows rd z.id f).1 else if (or4 es z.id).2 then (or4 es z.id).1 else (or5 rows rd z.id).1:=by
  unfold zcn;rw [ja (show ¬(or1 (onF p) [] z.id f).2=true from by show ¬decide (0<0)=true;decide),ja (by rw [h2];simp)]
 have hk0:((zcn (onF p) rows es rd [] z.id f).k==3)=false:=by
  rw [h0];unfold or3
  cases isT f with
  | true=>rfl
  | false=>
   show ((if (or4 es z.id).2=true then (or4 es z.id).1 else (or5 rows rd z.id).1).k==3)=false;unfold or4 or5;split<;>rfl
 have hst:VQ (onF p) p z.id f=stF p z.id f:=by
  unfold VQ;refine OK.2 fun q _=>?_;rw [jS,jJ];intro r _ g;rw [hon] at g;cases g
 unfold ztd
 cases e:QW base z.id with
 | none=>
  dsimp only;rw [e] at hin;have h1:(or2 p z.id).2=true:=(by rw [h2,hin];rfl);refine ⟨?_,fun g=>by cases g⟩;unfold zcn;by_cases g:(or1 (onF p) p z.id f).2=true
  ·rw [jb g];rfl
  ·rw [ja g,jb h1];unfold or2 at h1 ⊢
   cases hf:p.find? (inP z.id) with
   | none=>rw [hf] at h1;cases h1
   | some q=>rfl
 | some x=>
  dsimp only;rw [e] at hin;have h1:(or2 p z.id).2=false:=(by rw [h2,hin];rfl);have hl:=h.lat hz e hf (onF p) hon;by_cases g:ZR x f=ZR z f
  ·have g1:(or1 (onF p) p z.id f).2=false:=by show decide _=false;rw [hl];simp [g]
   have:zcn (onF p) rows es rd p z.id f=zcn (onF p) rows es rd [] z.id f:=by
    rw [h0];unfold zcn;rw [ja (by rw [g1];decide),ja (by rw [h1];decide)]
   rw [this];refine ⟨by rw [hk0];simp [g],fun _=>U⟩
  ·have g1:(or1 (onF p) p z.id f).2=true:=(by show decide _=true;rw [hl];simp [g]);refine ⟨?_,fun q=>by simp [g] at q⟩;unfold zcn;rw [jb g1];simp [g];rfl
end
end
end Go.Proofs.YtmbjmjbjdgjonaaGreatDoor.R
namespace Go.Proofs.YtmbjmjbjdgjonaaGreatDoor
section
open Go Go.Kn Go.Proofs
def nzl (l:List Int):List Int:=l.filter fun c=>c != 0
theorem JD (a b:List Int):nzl (a++b)=nzl a++nzl b:=jN ..
theorem zdA (n:Nat):nzl (List.replicate n 0)=[]:=by unfold nzl;rw [Om];intro a ha;rw [List.eq_of_mem_replicate ha];decide
variable{l:List Int}
theorem zmJ (h:∀ c∈l,c≠0):nzl l=l:=by unfold nzl;rw [OK];intro a ha;simpa using h a ha
theorem Kq {α:Type}(f g:α->List Int):∀ (l:List α),(∀ a∈l,nzl (f a)=nzl (g a))->nzl (l.flatMap f)=nzl (l.flatMap g)
 | [],_=>rfl
 | a::l,h=>by
  rw [jO,jO,JD,JD,h a (jk ..),Kq f g l fun b hb=>h b (jq _ hb)]
variable{k:Nat}{c:Int}
theorem zEf (h:l[k]? =some c)(hc:c≠0):(nzl l)[nzF l k]? =some c:=by
 have hk:=(jc.1 h).1;have e:l=l.take k++c::l.drop (k+1):=by rw [<-Zz h,jy]
 have e2:nzl l=nzl (l.take k)++c::nzl (l.drop (k+1)):=by
  conv=>lhs;rw [e]
  rw [JD];congr 1;unfold nzl;rw [Oe,jb (by simpa using hc)]
 rw [e2,show nzF l k=(nzl (l.take k)).length from U,OI (js _),BF];rfl
def zbt (N:Nat)(cs:List Int)(a:Nat)(ps:List (Int×Int))(q:Nat):List Int:=(((KT (a:Int) ps).filter fun y=>y.1.toNat==q).map fun y=>cs.getD y.2.toNat 0)++(if q<N then [zeF ps cs q] else [])
theorem zb6 {a b:List Int}:∀ (f i k:Nat),∀ y∈KT (i:Int) (paF a b f i k),i<=y.1.toNat
 | 0,i,k,y,hy=>by cases hy
 | f+1,i,k,y,hy=>by
  unfold paF at hy;split at hy
  ·split at hy
   ·unfold KT at hy;rw [jb kB] at hy;have:=zb6 f (i+1) (k+1) y hy;omega
   ·split at hy
    ·unfold KT at hy;rw [jb kB] at hy;have:=zb6 f (i+1) k y hy;omega
    ·unfold KT at hy;simp only [gt_iff_lt,Int.lt_irrefl,j2] at hy;rcases jp.1 hy with rfl | hy
     ·simp
     ·exact zb6 f i (k+1) y hy
  ·cases hy
variable{p:Int×Int}{ps:List (Int×Int)}{cs:List Int}{q:Nat}
theorem zbf (h:(p.1==(q:Int)+1&&decide (p.2>0))=false):zeF (p::ps) cs q=zeF ps cs q:=by unfold zeF;rw [OZ,h]
theorem zq7 (h:(p.1==(q:Int)+1&&decide (p.2>0))=true):zeF (p::ps) cs q=cs.getD (p.2-1).toNat 0:=by unfold zeF;rw [OZ,h]
theorem zqo (h:∀ p∈ps,p.1≠(q:Int)+1):zeF ps cs q=0:=by refine zCn ?_;rw [jJ];intro p hp;simp;intro e;exact absurd e (h p hp)
theorem zas {a N:Nat}(h:a<=N):List.range' a (N+1-a)=a::List.range' (a+1) (N+1-(a+1)):=by rw [show N+1-a=(N+1-(a+1))+1 by omega];rfl
theorem zdm {T cs:List Int}(hcs:∀ c∈cs,c≠0):∀ (f a k:Nat),a<=T.length->k<=cs.length->T.length-a+(cs.length-k)<=f->nzl ((List.range' a (T.length+1-a)).flatMap (zbt T.length cs a (paF T cs f a k)))=cs.drop k
 | 0,a,k,ha,hk,hf=>by
  have e1:cs.drop k=[]:=Oa kB;rw [e1]
  have hz:∀ q∈List.range' a (T.length+1-a),nzl (zbt T.length cs a (paF T cs 0 a k) q)=nzl ((fun _=>[]) q):=fun q _=>by
   unfold zbt paF;split<;>rfl
  rw [Kq _ (fun _=>[]) _ hz];simp [nzl]
 | f+1,a,k,ha,hk,hf=>by
  unfold paF;split
  ·rename_i hc;split
   ·rename_i hb;have h1:a<T.length/\k<cs.length:=(by unfold zao at hb;simp at hb;omega);have ih:=zdm (T:=T) hcs f (a+1) (k+1) kB kB kB;have hck:cs[k]? =some (cs.getD k 0):=Zc U h1.2;rw [zas ha,jO,JD]
    have hrest:∀ q∈List.range' (a+1) (T.length+1-(a+1)),nzl (zbt T.length cs a ((((a+1:Nat):Int),((k+1:Nat):Int))::paF T cs f (a+1) (k+1)) q)=nzl (zbt T.length cs (a+1) (paF T cs f (a+1) (k+1)) q):=fun q hq=>by
     have hq1:=(Az.1 hq).1;unfold zbt;rw [show KT (a:Int) ((((a+1:Nat):Int),((k+1:Nat):Int))::paF T cs f (a+1) (k+1))=KT ((a+1:Nat):Int) (paF T cs f (a+1) (k+1)) from jb (by show ((a+1:Nat):Int)>0;omega)];rw [zbf kM]
    rw [Kq _ _ _ hrest,ih,Zz hck]
    have hhead:nzl (zbt T.length cs a ((((a+1:Nat):Int),((k+1:Nat):Int))::paF T cs f (a+1) (k+1)) a)=[cs.getD k 0]:=by
     unfold zbt;rw [show KT (a:Int) ((((a+1:Nat):Int),((k+1:Nat):Int))::paF T cs f (a+1) (k+1))=KT ((a+1:Nat):Int) (paF T cs f (a+1) (k+1)) from jb (by show ((a+1:Nat):Int)>0;omega)];rw [show (KT ((a+1:Nat):Int) (paF T cs f (a+1) (k+1))).filter (fun y=>y.1.toNat==a)=[] from Om.2 fun y hy=>by have:=zb6 f (a+1) (k+1) y hy;simp;omega];rw [jb h1.1,zq7 kK,show (((((a+1:Nat):Int),((k+1:Nat):Int)):Int×Int).2-1).toNat=k by simp];exact zmJ (l:=[cs.getD k 0]) fun c hc=>by rw [jA.1 hc];exact hcs _ (jd hck)
    rw [hhead];rfl
   ·split
    ·rename_i ho;have h1:a<T.length:=(by unfold zjO at ho;simp at ho;omega);have ih:=zdm (T:=T) hcs f (a+1) k kB hk kB;rw [zas ha,jO,JD]
     have hrest:∀ q∈List.range' (a+1) (T.length+1-(a+1)),nzl (zbt T.length cs a ((((a+1:Nat):Int),(0:Int))::paF T cs f (a+1) k) q)=nzl (zbt T.length cs (a+1) (paF T cs f (a+1) k) q):=fun q hq=>by
      unfold zbt;rw [show KT (a:Int) ((((a+1:Nat):Int),(0:Int))::paF T cs f (a+1) k)=KT ((a+1:Nat):Int) (paF T cs f (a+1) k) from jb (by show ((a+1:Nat):Int)>0;omega)];rw [zbf kK]
     rw [Kq _ _ _ hrest,ih]
     have hhead:nzl (zbt T.length cs a ((((a+1:Nat):Int),(0:Int))::paF T cs f (a+1) k) a)=[]:=by
      unfold zbt;rw [show KT (a:Int) ((((a+1:Nat):Int),(0:Int))::paF T cs f (a+1) k)=KT ((a+1:Nat):Int) (paF T cs f (a+1) k) from jb (by show ((a+1:Nat):Int)>0;omega)];rw [show (KT ((a+1:Nat):Int) (paF T cs f (a+1) k)).filter (fun y=>y.1.toNat==a)=[] from Om.2 fun y hy=>by have:=zb6 f (a+1) k y hy;simp;omega];rw [jb h1,zbf kK,zqo fun p hp e=>by rcases (zkr (a:=T) (b:=cs) f (a+1) k).1 p hp with h | h<;>omega];rfl
     rw [hhead];rfl
    ·rename_i hb ho;have h2:k<cs.length:=zjv ha hk (by simpa using hc) (by simpa using hb) (by simpa using ho);have ih:=zdm (T:=T) hcs f a (k+1) ha kB kB;have hck:cs[k]? =some (cs.getD k 0):=Zc U h2;rw [zas ha,jO,JD] at ih ⊢
     have hal:KT (a:Int) (((0:Int),((k+1:Nat):Int))::paF T cs f a (k+1))=((a:Int),(k:Int))::KT (a:Int) (paF T cs f a (k+1)):=by
      show (if (0:Int)>0 then _ else ((a:Int),((k+1:Nat):Int)-1)::KT (a:Int) (paF T cs f a (k+1)))=_;rw [ja kE];congr 2;omega
     have hbs:∀ q,zeF (((0:Int),((k+1:Nat):Int))::paF T cs f a (k+1)) cs q=zeF (paF T cs f a (k+1)) cs q:=fun q=>zbf kM
     have hrest:∀ q∈List.range' (a+1) (T.length+1-(a+1)),nzl (zbt T.length cs a (((0:Int),((k+1:Nat):Int))::paF T cs f a (k+1)) q)=nzl (zbt T.length cs a (paF T cs f a (k+1)) q):=fun q hq=>by
      have hq1:=(Az.1 hq).1;unfold zbt;rw [hal,hbs,Oe,ja kM]
     rw [Kq _ _ _ hrest]
     have hhead:nzl (zbt T.length cs a (((0:Int),((k+1:Nat):Int))::paF T cs f a (k+1)) a)=cs.getD k 0::nzl (zbt T.length cs a (paF T cs f a (k+1)) a):=by
      unfold zbt;rw [hal,hbs,Oe,jb kK,jx,OE];show nzl (cs.getD ((k:Int)).toNat 0::_)=_;rw [show ((k:Int)).toNat=k from U];unfold nzl;rw [Oe,jb (by simpa using hcs _ (jd hck))]
     rw [hhead,Zz hck,OE,ih]
  ·rename_i hc;have hd:T.length<=a/\cs.length<=k:=(by simp at hc;omega);have e1:cs.drop k=[]:=Oa kB;rw [e1]
   have hz:∀ q∈List.range' a (T.length+1-a),nzl (zbt T.length cs a [] q)=nzl ((fun _=>[]) q):=fun q _=>by
    unfold zbt;split<;>rfl
   rw [Kq _ (fun _=>[]) _ hz];simp [nzl]
variable{xs:List Wr}{x:Wr}
theorem zdT (h:Ws xs=0)(hx:x∈xs):znj x.rs:=fun r hr=>by
 obtain ⟨_,h1,_⟩:=znX h hx hr;cases hl:r.lost
 ·exact .inr ⟨U,by unfold Vm;rw [ja (by rw [hl];decide)],zqa (h1 hl).1⟩
 ·exact .inl ⟨U,by unfold Vm;rw [jb hl]⟩
variable{rs:List Rd}{r:Rd}
theorem zku (h:znj rs)(hr:r∈rs):(r.lost=true↔Vm r=8589934592)/\(r.lost=false->Kh (Vm r)=0):=by
 rcases h r hr with ⟨h1,h2⟩ | ⟨h1,h2,h3⟩
 ·exact ⟨⟨fun _=>h2,fun _=>h1⟩,fun h4=>by rw [h1] at h4;cases h4⟩
 ·obtain ⟨h5,_,_,h8⟩:=zeT h3;exact ⟨⟨(fun h4=>by rw [h1] at h4;cases h4),fun h4=>by rw [h2] at h4;omega⟩,fun _=>by rw [h2];exact h5⟩
theorem zmo (h:znj rs):(rs.map Vm).any zf1=false:=by
 rw [jJ];intro c hc;obtain ⟨r,hr,rfl⟩:=jt.1 hc;obtain ⟨h1,h2⟩:=zku h hr;unfold zf1;cases hl:r.lost
 ·rw [h2 hl];simp
 ·rw [h1.1 hl];simp
theorem zoP (T:List Int):((List.range (T.length+1)).flatMap fun k=>if k<T.length then [T.getD k 0] else [])=T:=by
 rw [Ou,jo];have h1:([T.length].flatMap fun k=>if k<T.length then [T.getD k 0] else [])=[]:=(by simp);rw [h1,jz]
 have h2:∀ (l:List Nat),(∀ k∈l,k<T.length)->(l.flatMap fun k=>if k<T.length then [T.getD k 0] else [])=l.map fun k=>T.getD k 0:=fun l hl=>by
  induction l with
  | nil=>rfl
  | cons a l ih=>rw [jO,jb (hl a (jk ..)),ih fun k hk=>hl k (jq _ hk)];rfl
 rw [h2 _ fun k hk=>jm.1 hk];refine Ai fun k=>?_;rw [j5];by_cases hk:k<T.length
 ·rw [AY hk,Zc (d:=0) rfl hk];rfl
 ·rw [Oy (by simpa using hk),Oy (by simpa using hk)];rfl
variable{i:Nat}
theorem zBc (hck:Ws xs=0)(hv:xs[i]? =some x):nzl (zhF xs i)=x.rs.map Vm:=by
 have hi:=(jc.1 hv).1;have hcs:csW xs i=x.rs.map Vm:=zcH hv;obtain ⟨x0,hx0⟩:∃ x0,xs[0]? =some x0:=⟨_,je kB⟩;have hT:csW xs 0=x0.rs.map Vm:=zcH hx0;have hR:=zdT hck (jd hv);have hR0:=zdT hck (jd hx0)
 have hnz:∀ rs:List Rd,znj rs->∀ c∈rs.map Vm,c≠0:=fun rs h c hc=>by
  obtain ⟨r,hr,rfl⟩:=jt.1 hc;have:=(zk6 h hr).1;omega
 have h64:∀ y∈xs,y.rs.length<=64:=fun y hy=>by
  unfold Ws at hck;split at hck
  ·omega
  ·split at hck
   ·omega
   ·rename_i hq;have hq2:∀ x∈xs,x.rs.length<=64:=(by simpa using hq);exact hq2 y hy
 rw [zvI hi];unfold zy7;by_cases h0:i=0
 ·subst h0;have e:x0=x:=(by rw [hx0] at hv;exact Ob hv);subst e;rw [Kq _ (fun k=>if k<(csW xs 0).length then [(csW xs 0).getD k 0] else []) _ fun k _=>?_,zoP,hT]
  ·exact zmJ (hnz _ hR)
  ·by_cases hk:k<(csW xs 0).length
   ·rw [zFi hk,jb hk,JD]
    have:nzl (zwp xs 0 k)=[]:=by
     unfold zwp thW;rw [JD,zdA,jz,zdD];rfl
    rw [this];rfl
   ·rw [zER hk,ja hk];unfold zwp thW;rw [JD,zdA,jz,zdD];rfl
 ·have hE:zaR (csW xs 0) (csW xs i)=0:=znv (by
   rw [hT,hcs,jE,jE]
   have a1:=h64 x0 (jd hx0);have a2:=h64 x (jd hv);omega) (by rw [hT,hcs,zmo hR0,zmo hR];rfl)
  have hps:pfW xs i=paF (csW xs 0) (csW xs i) ((csW xs 0).length+(csW xs i).length) 0 0:=by
   unfold pfW;rw [ja h0,zhy hE];rfl
  have hall:=zdm (T:=csW xs 0) (cs:=csW xs i) (by rw [hcs];exact hnz _ hR) ((csW xs 0).length+(csW xs i).length) 0 0 (jf _) (jf _) kB;rw [<-hps,List.drop_zero,Nat.sub_zero,<-List.range_eq_range'] at hall;rw [Kq _ (zbt (csW xs 0).length (csW xs i) 0 (pfW xs i)) _ fun k _=>?_,hall,hcs];unfold zpH zy4 zbt;rw [JD,JD,zdA,jz,JD];congr 1;split
  ·first | rfl | rw [ja h0]
  ·rfl
theorem zrk (hck:Ws xs=0)(hv:xs[i]? =some x)(h:(zhF xs i)[k]? =some c)(hc:c≠0):∃ r,x.rs[nzF (zhF xs i) k]? =some r/\Vm r=c/\(r.lost=true↔c=8589934592)/\(r.lost=false->Kh c=0):=by have h1:=zEf h hc;rw [zBc hck hv,j5] at h1;obtain ⟨r,hr,e⟩:=jY.1 h1;obtain ⟨h2,h3⟩:=zku (zdT hck (jd hv)) (jd hr);rw [e] at h2 h3;exact ⟨r,hr,e,h2,h3⟩
variable{ws:List Wr}
theorem zwQ (h0:0<(Yj ws).length):Yj ws=(List.range ws.length).map (zhF ws):=by
 unfold Yj at h0 ⊢;split
 ·rename_i h;rw [jb h] at h0;simp at h0
 ·rfl
theorem znn (hT:zaM ws=0)(h0:0<(Yj ws).length)(h4:ws.length<=6)(h12:((Yj ws).getD 0 []).length<=64):YL (Yj ws)=0:=by
 obtain ⟨hck,hl⟩:=zgb hT h0;have he:=zwQ h0
 have hlen:∀ r∈Yj ws,r.length=loW ws:=fun r hr=>by
  rw [he] at hr;obtain ⟨i,_,rfl⟩:=jt.1 hr;unfold zhF;exact Yr
 have h00:((Yj ws).getD 0 []).length=loW ws:=by
  rw [Ot,je h0];exact hlen _ (OS h0)
 rw [h00] at h12;unfold YL;rw [ja,ja kB,ja]
 ·rw [Bo,jJ];intro r hr hp;unfold zvr at hp;rw [OD] at hp;rcases hp with hp | hp
  ·rw [h00,hlen r hr] at hp;simp at hp
  ·obtain ⟨v,hv,hs⟩:=ju.1 hp;have hr2:=hr;rw [he] at hr2;obtain ⟨i,hi,rfl⟩:=jt.1 hr2;have hi:=jm.1 hi;obtain ⟨k,hk⟩:=jC hv;have hx:ws[i]? =some ws[i]:=je hi;unfold ziz at hs;by_cases hz:v=0
   ·subst hz;simp at hs
   ·obtain ⟨q,hq,e,_⟩:=zrk hck hx hk hz;have:=zk6 (zdT hck (jd hx)) (jd hq);rw [e] at this;simp at hs;omega
 ·rw [Bo,On];refine ⟨by simp;omega,jJ.2 fun r hr=>?_⟩;rw [hlen r hr];simp;omega
variable{rows:List (List Int)}{no:Int}{cl:List Int}{es:List Em}
theorem zvm (h:Y2 rows cl=0)(h2:W0 rows no cl es≠0):W0 rows no cl es=430:=by
 unfold W0 at h2 ⊢;rw [ja kB] at h2 ⊢;split
 ·rfl
 ·rename_i g;rw [ja g] at h2;split
  ·rename_i g2;rw [jb g2] at h2;exact absurd U h2
  ·rfl
end
end Go.Proofs.YtmbjmjbjdgjonaaGreatDoor
namespace Go.Proofs.YtmbjmjbjdgjonaaGreatDoor.R
section
open Go Go.Kn Go.Proofs
def zjA (x:Sg)(f:Int):Sg:=VD ZU f x
variable{x:Sg}{f:Int}
theorem zzD :ZR (zjA x f) f=ZR x f:=by
 unfold zjA;by_cases hf:isF f
 ·rw [X7 hf,jb rfl]
 ·have h:∀ y:Sg,ZR y f=(0,0,0,0):=fun y=>by
   unfold isF at hf;unfold ZR;rw [ja kB,ja kB,ja kB,ja kB,ja kB,ja kB,ja kB,ja kB,ja kB]
  rw [h,h]
variable{a b:Sg}
theorem zjI (hf:isF f)(h:ZR a f=ZR b f):zjA a f=zjA b f:=by
 obtain ⟨a1,a2,a3,a4,a5,a6,a7,a8,a9,a10,a11,a12,a13,a14⟩:=a;obtain ⟨b1,b2,b3,b4,b5,b6,b7,b8,b9,b10,b11,b12,b13,b14⟩:=b
 rcases Xd hf with e | e | e | e | e | e | e | e | e<;>subst e<;>
  (simp [ZR] at h;simp [zjA,VD,ZU,h])
variable{n:Nat}
theorem zx5 {z:Int}(h:0<=z/\z<=65535)(hn:n≠0):∃ w:Nat,(IntKind.i64.wrap z).tmod n=w/\w<n:=by have e:IntKind.i64.wrap z=z:=(by unfold IntKind.wrap IntKind.signed IntKind.bits;simp;omega);rw [e];have h0:(0:Int)<n:=kB;have h1:=Int.tmod_nonneg (n:Int) h.1;have h2:=Int.tmod_lt_of_pos z h0;exact ⟨(z.tmod n).toNat,kB,kB⟩
variable{e0:Int}{s:List Sg}
theorem zmI {sign:Int}(h0:e0=0)(hf:isF f)(hs:∃ y∈s,y.id=sign):orE e0 s sign f=0:=by refine zCN h0 ?_;unfold isF at hf;obtain ⟨y,hy,e⟩:=hs;rw [On,On];refine ⟨⟨by simpa using hf.1,by simpa using hf.2⟩,?_⟩;rw [Ox,ju];exact ⟨y,hy,by simpa using e⟩
theorem zo4 {o:Og}:orO 0 o=o:=ja kE
variable{rows:List (List Int)}{k:Nat}{c:Int}
theorem zwk :(zDN rows k c).length<=rows.length:=by unfold zDN ixF;rw [jE];exact jT (j3 ..) (by rw [List.length_zipIdx];exact js _)
theorem zuG (l:List Pt):(zy2 l).length<=l.length:=by
 cases l with
 | nil=>exact js _
 | cons p r=>unfold zy2;rw [jE];exact j3 _ _
variable{on:Int->Int->Bool}{es:List Em}{rd:List Int}{l:List Pt}
theorem zqj {s:Int}:(zcn on rows es rd l s f).ws.length<=rows.length+1/\(zcn on rows es rd l s f).ps.length<=l.length+1:=by
 unfold zcn;split
 ·refine ⟨jf _,?_⟩;have h1:=zuG (VQ on l s f);have h2:(VQ on l s f).length<=l.length:=jT (j3 _ _) WP;show (zy2 (VQ on l s f)).length<=_;omega
 ·split
  ·unfold or2;split
   ·exact ⟨jf _,by simp⟩
   ·exact ⟨jf _,jf _⟩
  ·split
   ·unfold or3;split
    ·exact ⟨by simp,jf _⟩
    ·exact ⟨jf _,jf _⟩
   ·split
    ·exact ⟨jf _,jf _⟩
    ·exact ⟨jT zwk (Nat.le_succ _),jf _⟩
theorem zx3 (hf:isF f):WW (zjA a f) (zjA b f)=decide (ZR a f=ZR b f):=by
 rw [jL,VF,jQ];constructor
 ·intro h;have:=jr (ZR · f) h;simpa only [zzD] using this
 ·exact zjI hf
def zqc (xs:List Sg)(k:Nat)(m:List (Int×Sg)):Prop:=∀ s,ZP m s=QW (xs.take k) s
variable{xs:List Sg}
theorem zqc.nil :zqc xs 0 []:=fun _s=>U
variable{m:List (Int×Sg)}
theorem zqc.step (h:zqc xs k m)(hs:Srt xs)(hx:xs[k]? =some x):zqc xs (k+1) (YM m x.id x):=fun s=>by
 rw [Y4,h s,jP,hx,zeD];show _=(QW (xs.take k) s).or (QW [x] s);rw [ZK,W7];by_cases e:x.id=s
 ·subst e;rw [jb rfl,jb rfl];have:QW (xs.take k) x.id=none:=KN.2 (zkW hs hx).2.1;rw [this];rfl
 ·rw [ja e,ja e];simp
theorem zqc.all (h:zqc xs k m)(hk:xs.length<=k)(s:Int):ZP m s=QW xs s:=by rw [h s,jD hk]
variable{base:List Sg}{z:Sg}{o:Option Sg}
theorem zkh (hf:isF f)(ho:o=QW base z.id):(!o.isSome|| !WW (zjA (o.getD ZU) f) (zjA z f))=ztd base z f:=by
 subst ho;unfold ztd
 cases QW base z.id with
 | none=>rfl
 | some x=>rw [zx3 hf];rfl
theorem zEX (h:Go.Proofs.YtmbjmjbjdgjonaaGreatDoor.chkG xs=0):chkG xs=0:=h
variable{row:List Int}
theorem zEq (h:k<=12):Go.Proofs.YtmbjmjbjdgjonaaGreatDoor.nzF row k<=12:=jT zvN h
section
variable {C:Cx} {S:GS} {E:Env} {I:Qt} {loc:Go.Kn.Loc} {dst:Option Nat} {ty:TypeId} {pos:String} {af:Array Edge} {gd:Option (Nat×Bool)} {x y:Operand}
theorem zDn {t k e r:Nat}{m:List (Int×Sg)}{bs:List Sg}{a:Int}(hw:∀ s,ZP m s=QW bs s)(hT:MpT C.P t k e (Yp ZU))(hK:VR C.P k (Value.int .i64))(hx:Qv S E x=some (.map (some r)))(hy:Qv S E y=some (.int .i64 a))(hm:ZS S=true->Mem I loc r (Z7 (Value.int .i64) Yp m)):
  QV C S E I loc ⟨dst,.lookup t x y true,ty,pos,af,gd⟩ (.tuple #[Yp ((QW bs a).getD ZU),.bool (QW bs a).isSome]):=by
 have h:=K3 (C:=C) (dst:=dst) (ty:=ty) (pos:=pos) (af:=af) (gd:=gd) (ek:=Value.int .i64) (ev:=Yp) hT hK hx hy hm;rw [hw a] at h
 cases e:QW bs a with
 | none=>rw [e] at h;exact h
 | some z=>rw [e] at h;exact h
end
theorem zBp (h:ztd base z f=false):∃ w,QW base z.id=some w:=by
 unfold ztd at h
 cases e:QW base z.id with
 | none=>rw [e] at h;cases h
 | some w=>exact ⟨w,U⟩
theorem zl7 (I:Qt)(x:Sg)(f:Int):Zt Tryz.prog 17 [Yp x,.int .i64 f] I (Yp (zjA x f)):=by
 intro g H w hw;refine qe Tryz.func17 Tryz.ntmps17 hw ?_;refine zR ?_;refine QG U U U (fun b_2=>?_);refine Qs UV U U (fun b_4=>?_);refine zN (zR ?_);refine zV (QC (ps:=[]) [_,_,_,_,_,_,_,_,_,_,_,_,_,_] W9 U U) ?_;refine Qs UV U U (fun b_5=>?_);refine zh Yk ?_;refine zN (Ql (zR (zM (zN (Qp (zR ?_))))));refine zC ?_;refine zA (zN ?_);refine zI ?_ ?_<;>intro hc8
 ·have hfk:f=1:=(by simpa using hc8);subst hfk;refine Qf ?_;refine zF Vq ?_;refine zL Qq ?_;refine zF Vq ?_;refine zS ZD ?_;refine Qb (Qg (Qa (zR ?_)));refine zV (Qk U QY (fun hg=>by exact Cells.g0) U) ?_;refine zh Yk ?_;refine zN (Qr ?_);exact Y3 U U QY Cells.g1 U (fun w hw=>⟨U,hw.drop⟩)
 have hg1:f≠1:=(by simpa using hc8);refine zR (zC ?_);refine zA (zN ?_);refine zI ?_ ?_<;>intro hc13
 ·have hfk:f=2:=(by simpa using hc13);subst hfk;refine Qf ?_;refine zF Yq ?_;refine zL Qq ?_;refine zF Yq ?_;refine zS ZD ?_;refine Qb (Qg (Qa (zR ?_)));refine zV (Qk U QY (fun hg=>by exact Cells.g0) U) ?_;refine zh Yk ?_;refine zN (Qr ?_);exact Y3 U U QY Cells.g1 U (fun w hw=>⟨U,hw.drop⟩)
 have hg2:f≠2:=(by simpa using hc13);refine zR (zC ?_);refine zA (zN ?_);refine zI ?_ ?_<;>intro hc18
 ·have hfk:f=3:=(by simpa using hc18);subst hfk;refine Qf ?_;refine zF VJ ?_;refine zL Qq ?_;refine zF VJ ?_;refine zS ZD ?_;refine Qb (Qg (Qa (zR ?_)));refine zV (Qk U QY (fun hg=>by exact Cells.g0) U) ?_;refine zh Yk ?_;refine zN (Qr ?_);exact Y3 U U QY Cells.g1 U (fun w hw=>⟨U,hw.drop⟩)
 have hg3:f≠3:=(by simpa using hc18);refine zR (zC ?_);refine zA (zN ?_);refine zI ?_ ?_<;>intro hc23
 ·have hfk:f=4:=(by simpa using hc23);subst hfk;refine Qf ?_;refine zF VE ?_;refine zL Qq ?_;refine zF VE ?_;refine zS ZD ?_;refine Qb (Qg (Qa (zR ?_)));refine zV (Qk U QY (fun hg=>by exact Cells.g0) U) ?_;refine zh Yk ?_;refine zN (Qr ?_);exact Y3 U U QY Cells.g1 U (fun w hw=>⟨U,hw.drop⟩)
 have hg4:f≠4:=(by simpa using hc23);refine zR (zC ?_);refine zA (zN ?_);refine zI ?_ ?_<;>intro hc28
 ·have hfk:f=5:=(by simpa using hc28);subst hfk;refine Qf ?_;refine zF Yx ?_;refine zL Qq ?_;refine zF Yx ?_;refine zS ZD ?_;refine Qb (Qg (Qa (zR ?_)));refine zV (Qk U QY (fun hg=>by exact Cells.g0) U) ?_;refine zh Yk ?_;refine zN (Qr ?_);exact Y3 U U QY Cells.g1 U (fun w hw=>⟨U,hw.drop⟩)
 have hg5:f≠5:=(by simpa using hc28);refine zR (zC ?_);refine zA (zN ?_);refine zI ?_ ?_<;>intro hc33
 ·have hfk:f=6:=(by simpa using hc33);subst hfk;refine Qf ?_;refine zF Jk ?_;refine zL Qq ?_;refine zF Jk ?_;refine zS ZD ?_;refine Qb (Qg (Qa (zR ?_)));refine zV (Qk U QY (fun hg=>by exact Cells.g0) U) ?_;refine zh Yk ?_;refine zN (Qr ?_);exact Y3 U U QY Cells.g1 U (fun w hw=>⟨U,hw.drop⟩)
 have hg6:f≠6:=(by simpa using hc33);refine zR (zC ?_);refine zA (zN ?_);refine zI ?_ ?_<;>intro hc38
 ·have hfk:f=7:=(by simpa using hc38);subst hfk;refine Qf ?_;refine zF Yy ?_;refine zL Qq ?_;refine zF Yy ?_;refine zS ZD ?_;refine Qb (Qg (Qa (zR ?_)));refine zV (Qk U QY (fun hg=>by exact Cells.g0) U) ?_;refine zh Yk ?_;refine zN (Qr ?_);exact Y3 U U QY Cells.g1 U (fun w hw=>⟨U,hw.drop⟩)
 have hg7:f≠7:=(by simpa using hc38);refine zR (zC ?_);refine zA (zN ?_);refine zI ?_ ?_<;>intro hc43
 ·have hfk:f=8:=(by simpa using hc43);subst hfk;refine Qf ?_;refine zF VT ?_;refine zL Qq ?_;refine zF VT ?_;refine zS ZD ?_;refine Qb (Qg (Qa (zR ?_)));refine zV (Qk U QY (fun hg=>by exact Cells.g0) U) ?_;refine zh Yk ?_;refine zN (Qr ?_);exact Y3 U U QY Cells.g1 U (fun w hw=>⟨U,hw.drop⟩)
 have hg8:f≠8:=(by simpa using hc43);refine zR (zC ?_);refine zA (zN ?_);refine zI ?_ ?_<;>intro hc48
 ·have hfk:f=9:=(by simpa using hc48);subst hfk;refine zR ?_;refine zF Ym ?_;refine zV (Qk U Zs (fun hg=>by exact Cells.s2 (vs:=[_,_]) U) U) ?_;refine zF Ym ?_;refine YO U U YQ U U U U (by repeat (first | exact Upd.here | apply Upd.there | apply QH)) ?_;refine zN (Qf ?_);refine zF Yl ?_;refine zV (Qk U Zs (fun hg=>by exact Cells.s2 (vs:=[_,_]) U) U) ?_;refine zF Yl ?_;refine YO U U YQ U U U U (by repeat (first | exact Upd.here | apply Upd.there | apply QH)) ?_;refine Qb (Qg (Qa (zR ?_)));refine zV (Qk U QY (fun hg=>by exact Cells.g0) U) ?_;refine zh Yk ?_;refine zN (Qr ?_);exact Y3 U U QY Cells.g1 U (fun w hw=>⟨U,hw.drop⟩)
 have hg9:f≠9:=(by simpa using hc48);refine Qo (Qg (Qa (zR ?_)));refine zV (Qk U QY (fun hg=>by exact Cells.g0) U) ?_;refine zh Yk ?_;refine zN (Qr ?_)
 first
 | exact Y3 U U QY Cells.g1 U (fun w hw=>⟨by unfold zjA VD;rw [ja hg1,ja hg2,ja hg3,ja hg4,ja hg5,ja hg6,ja hg7,ja hg8,ja hg9];rfl,hw.drop⟩)
theorem zz3:ElT Tryz.prog 22 72 3 40:=.of kA
theorem zCp:ElT Tryz.prog 70 69 15 120:=.of kA
theorem zzp:Fun Tryz.prog 7:=.of Tryz.func7 kA kA
theorem zC2:PlT Tryz.prog 69 #[(0,1),(1,14)] (.agg #[(.bool false),(.int .i64 0),(.int .i64 0),(.int .i64 0),(.int .i64 0),(.int .i64 0),(.int .i64 0),(.int .i64 0),(.int .i64 0),(.int .i64 0),(.int .i64 0),(.int .i64 0),(.int .i64 0),(.int .i64 0),(.int .i64 0)]):=⟨.of kA,kA,fun w=>kA⟩
theorem zC1:PlT Tryz.prog 72 #[(0,1),(1,1),(2,1)] (.agg #[(.int .i64 0),(.int .i64 0),(.slice none 0 0)]):=⟨.of kA,kA,fun w=>kA⟩
def w44:List Wr:=[⟨1,0,[⟨true,ZU⟩]⟩]
theorem zwL:zaM w44=0/\Yj w44=[[8589934592]]:=⟨kA,kA⟩
theorem zqz:YL [[8589934592]]=0/\UF [[8589934592]]=[[]]/\zc2 [[8589934592]]=0:=⟨kA,kA,kA⟩
variable{I:Qt}
set_option maxRecDepth 100000 in
theorem zqI  (hDb:KR I):Zt Tryz.prog 4 [] I (.bool true):=by
 intro g H w hw;refine qe Tryz.func4 Tryz.ntmps4 hw ?_;have hIc:=zGN I;refine zR (zA ?_);refine zN (zR ?_);refine zV (QC (ps:=[(0,_)]) [_,_,_,_,_,_,_,_,_,_,_,_,_,_,_] zC2 U U) ?_;refine zpb [(0,_)] [Wq ⟨true,ZU⟩] zCp (fun b_8=>?_);refine zV (QC (ps:=[(0,_),(2,_)]) [_,_,_] zC1 U U) ?_;refine zpb [(0,_)] [zo7 (⟨1,0,some ⟨b_8,0,none⟩,1,1⟩:Wt)] zz3 (fun b_10=>?_);refine zA ?_;refine zN (zR ?_);refine zM ?_;refine zfD (fun I1 hI1 hall1=>?_);have hDb:=hDb.mono hI1;have hIc:=hIc.trans hI1;have hq1:Sl I1 15 Wq (some ⟨b_8,0,none⟩) 1 1 [⟨true,ZU⟩]:=Sl.lit ([⟨true,ZU⟩]:List Rd) U ze7 (show _=some (Obj.cells (([⟨true,ZU⟩]:List Rd).flatMap Wq).toArray 69 (0,0)) from hall1 _ _ kF)
 have hW9:SlW I1 (some ⟨b_10,0,none⟩) 1 1 w44:=⟨[⟨1,0,some ⟨b_8,0,none⟩,1,1⟩],Sl.lit ([⟨1,0,some ⟨b_8,0,none⟩,1,1⟩]:List Wt) U zjp (show _=some (Obj.cells (([⟨1,0,some ⟨b_8,0,none⟩,1,1⟩]:List Wt).flatMap zo7).toArray 72 (0,0)) from hall1 _ _ kF),U,fun k w x h1 h2=>by
  rcases k with _ | k
  ·cases h1;cases h2;exact ⟨U,U,hq1⟩
  simp at h1⟩
 refine zpc [_] U zvf .nil (zgS hW9 kE) ?_;rintro vv2 I2 L2 hI2 ⟨rfl,ta,tc,rfl,hT⟩;have hDb:=hDb.mono hI2;have hIc:=hIc.trans hI2;rw [zwL.1,zwL.2];rw [zwL.2] at hT;refine zM ?_;refine zE ?_;refine zE ?_;refine zA ?_;refine zA ?_;refine zN (zR ?_);refine zM ?_;refine zpc [_] U zzp .nil (zsl hT kE hDb kE) ?_;rintro vv3 I3 L3 hI3 ⟨rfl,ba,bc,rfl,hB⟩;have hIc:=hIc.trans hI3;rw [zqz.1,zqz.2.1,zqz.2.2];rw [zqz.2.1] at hB;refine zM ?_;refine zE ?_;refine zE ?_;refine zE ?_;refine zA ?_;refine zA ?_;refine zA (zN (Ql ?_));obtain ⟨lhs,hB9⟩:=id hB;have hBh:=hB9.1;obtain ⟨y0,u0,hy0,hu0,hU0⟩:=hB9.at (k:=0) kE;cases hu0;obtain ⟨ya0,yn0,yc0⟩:=y0;obtain rfl:yn0=0:=hU0.len.symm;refine Qf (zM ?_);refine zC ?_;refine zM ?_;refine QJ (dj:=24) U U U ?_;refine zM ?_;refine QJ (dj:=24) U U U ?_;refine zC ?_;refine zV (ZN U U U) ?_;refine zM ?_;refine QJ (dj:=28) U U U ?_;refine zM ?_;refine QJ (dj:=28) U U U ?_;refine zQ Zn ?_;refine QJ (dj:=28) U U U ?_;refine zC ?_;refine zV (ZN U U U) ?_;refine zM ?_;refine QJ (dj:=33) U U U ?_;refine zM ?_;refine QJ (dj:=33) U U U ?_;refine zQ Zn ?_;refine QJ (dj:=33) U U U ?_;refine zC ?_;refine zV (ZN U U U) ?_;refine zM ?_;refine QJ (dj:=38) U U U ?_;refine zM ?_;refine QJ (dj:=38) U U U ?_;refine zV (Qy U U Zn hBh (fun hg=>by decide)) ?_;refine QJ (dj:=38) U U U ?_;refine zV (Qd U QK (fun hg=>by exact zGG (k:=0) hBh hy0 U)) ?_;refine QJ (dj:=38) U U U ?_;refine zQ Qx ?_;refine QJ (dj:=38) U U U ?_;refine zC ?_;refine zV (ZN U U U) ?_;refine zM ?_;refine QJ (dj:=45) U U U ?_;refine zM ?_;refine QJ (dj:=45) U U U ?_;refine zC ?_;refine zV (ZN U U U) ?_;refine zA (zN (Qr ?_));exact zp hIc U U kL
end
end Go.Proofs.YtmbjmjbjdgjonaaGreatDoor.R
