/- topOrigins_holds, part I of the proof: what its theorems say holds without further conditions. -/
import Derived.ProofKit
import Derived.Deep.Slices
import Derived.Test.YtmbjmjbjdgjonaaGreatDoorRows
import Derived.LaidMore
import Derived.MakeChecks
import Derived.Lib.LaidTab
import Derived.Test.YtmbjmjbjdgjonaaGreatDoorCards
import Derived.Test.YtmbjmjbjdgjonaaGreatDoorTie
import Derived.Stop.Joined
import Derived.SevenTiedAt
import Derived.Test.YtmbjmjbjdgjonaaGreatDoorTOH
namespace Go.Proofs.YtmbjmjbjdgjonaaGreatDoor.R
section
open Go Go.Kn Go.Proofs
theorem zpz:CvT Tryz.prog 23 3 .i64:=⟨kA,kA⟩
theorem zzc:Fun Tryz.prog 11:=.of Tryz.func11 kA kA
theorem zCl:Fun Tryz.prog 12:=.of Tryz.func12 kA kA
theorem zBu:Fun Tryz.prog 14:=.of Tryz.func14 kA kA
theorem zCs:Fun Tryz.prog 15:=.of Tryz.func15 kA kA
theorem zsm:Fun Tryz.prog 16:=.of Tryz.func16 kA kA
theorem zr8:Fun Tryz.prog 17:=.of Tryz.func17 kA kA
theorem zBy:Fun Tryz.prog 18:=.of Tryz.func18 kA kA
theorem zFv:Fun Tryz.prog 4:=.of Tryz.func4 kA kA
theorem zFH:Fun Tryz.prog 5:=.of Tryz.func5 kA kA
theorem zsS:MpT Tryz.prog 59 3 28 (.agg #[(.int .i64 0),(.int .i64 0),(.int .i64 0),(.int .i64 0),(.int .i64 0),(.int .i64 0),(.int .i64 0),(.int .i64 0),(.int .i64 0),(.int .i64 0),(.int .i64 0),(.int .i64 0),(.int .i64 0),(.int .i64 0)]):=⟨kA,.of kA⟩
theorem zBz:SlT Tryz.prog 55 139 3:=.of kA
set_option maxHeartbeats 8000000 in
set_option maxRecDepth 100000 in
theorem w_topOrigins {I:Qt} {av:Option Addr} {n c:Nat} {ws:List Wr} (hW0:SlW I av n c ws) (hbig:n<=9223372036854775807) (wh:Int) (hwh:0<=wh/\wh<=65535) {dv:Option Addr} {n3 c3:Nat} {es:List Em} (hEs:Sl I 3 V8 dv n3 c3 es) (x0:Ed) (fi:Int) (hfi:0<=fi/\fi<=255) (hDb:KR I):Zt Tryz.prog 3 [.slice av n c,.int .u16 wh,.slice dv n3 c3,Y1 x0,.int .u8 fi] I (.bool true):=by
 intro g H w hw;refine qe Tryz.func3 Tryz.ntmps3 hw ?_;have hIc:=zGN I;have hlE:=hEs.len;obtain ⟨hds,hW⟩:=id hW0;have hH:=hW.1;have hlW:=hW.len;have hfw:IntKind.i64.wrap fi=fi:=(by unfold IntKind.wrap IntKind.signed IntKind.bits;simp;omega);refine zR ?_;refine QG U U U (fun b_8=>?_);refine zA (zN (Ql (Ql ?_)));refine QQ .here (fun I1 hI1 hb1=>?_);have hW0:=hW0.mono hI1;have hW:=hW.mono hI1;have hEs:=hEs.mono hI1;have hDb:=hDb.mono hI1;have hIc:=hIc.trans hI1;have hE:=Uq.of hb1;refine Qf ?_;refine qcV (vs:=[]) U zFv (zqI hDb) ?_;refine zO (zN ?_);refine zI ?_ ?_<;>intro hc45
 ·cases hc45
 refine Qo (Qa (Ql (zR (zM ?_))));refine zQ VK ?_;refine zC ?_;refine zM ?_;refine Q8 3 U U U ?_;refine zJ (Qj U) ?_;refine qf (vs:=[_]) U zFH (fun hg=>zAF hW.1 hbig) ?_;refine zJ (Vv U) ?_;refine ZO U U U U U ?_;refine zM ?_;refine Q8 8 U U U ?_;refine zJ (Qj U) ?_;refine zJ (ZX U Ww) ?_;refine zJ (QI U U U) ?_;refine ZO U U U U U ?_;refine zN ?_;refine zI ?_ ?_<;>intro hc58
 ·refine zR (zA (zN (Qr (Qc ?_))));exact zp hIc U U kL
 have h58:n<=4/\n3<=40:=(by have h:=hc58;simp only [On,AF] at h;omega);have hn4:=h58.1;have hwl:ws.length=n:=kB;refine Qo (Qa (zR (zM ?_)));refine zpc [_] U zvf .nil (zgS hW0 kB) ?_;rintro vv2 I2 L2 hI2 ⟨rfl,av8,c8,rfl,hTb⟩;have hW0:=hW0.mono hI2;have hEs:=hEs.mono hI2;have hDb:=hDb.mono hI2;have hE:=hE.mono hI2;have hIc:=hIc.trans hI2;obtain ⟨tn,htn⟩:∃ t,t=(Yj ws).length:=⟨_,U⟩;rw [<-htn];rw [<-htn] at hTb;refine zM ?_;refine zE ?_;refine zE ?_;refine zA ?_;refine zA (zN (Ql (zR ?_)));refine zM ?_;refine zC (zN ?_);refine zI ?_ ?_<;>intro hc65
 ·refine zR (zA (zN (Qr (Qc ?_))));exact zp hIc U U kL
 have hcT:zaM ws=0:=(by simpa using hc65);have htl:=(zew (ws:=ws)).1;obtain ⟨ths,hTV⟩:=id hTb;have hTH:=hTV.1;obtain ⟨h0d,hh0⟩:∃ h0d:Hd,tn≠0->ths[0]? =some h0d:=⟨ths.getD 0 ⟨none,0,0⟩,fun h=>Zc U (by have:=hTH.len;omega)⟩;refine Qo (Qa (Ql (zR (zM ?_))));refine zQ Zn ?_;refine zC ?_;refine zM ?_;refine Q8 3 U U U ?_;refine zJ (Qj U) ?_;refine zJ (zX Zn hTH) ?_;refine zJ (Qd U QK (fun hg=>by exact zGG hTH (hh0 (by simp [ZS] at hg;omega)) U)) ?_;refine zJ (ZX U Qx) ?_;refine zJ (QI U U U) ?_;refine ZO U U U U U ?_;refine zN ?_;refine zI ?_ ?_<;>intro hc75
 ·refine zR (zA (zN (Qr (Qc ?_))));exact zp hIc U U kL
 have h75:tn≠0/\h0d.n<=12:=(by have h:=hc75;simp at h;omega);have h0:0<(Yj ws).length:=kB;have h12:((Yj ws).getD 0 []).length<=12:=(by obtain ⟨hd,r,k1,k2,k3⟩:=hTV.at (k:=0) kB;have k4:=hh0 h75.1;rw [k1] at k4;cases k4;rw [Q1 k2,k3.len];exact h75.2);have hr0:=znn hcT h0 kB kB;obtain ⟨hr1,hr6,hr64,hrr⟩:=Uh hr0;have hBI:=zxa hr0 kB;refine Qo (Qa (zR (zM ?_)));refine zpc [_] U zzp .nil (zsl hTb kB hDb kB) ?_;rintro vv3 I3 L3 hI3 ⟨rfl,ba,bc,rfl,hBs⟩;have hW0:=hW0.mono hI3;have hEs:=hEs.mono hI3;have hDb:=hDb.mono hI3;have hE:=hE.mono hI3;have hTb:=hTb.mono hI3;have hIc:=hIc.trans hI3;refine zM ?_;refine zE ?_;refine zE ?_;refine zE ?_;refine zA ?_;refine zA ?_;refine zA (zN (Ql (zR ?_)));refine zM ?_;refine zC ?_;refine zM ?_;refine Q8 2 U U U ?_;refine zJ (Qj U) ?_;refine zJ (ZX U Zn) ?_;refine zJ (QI U U U) ?_;refine ZO U U U U U ?_;refine zN ?_;refine zI ?_ ?_<;>intro hc88
 ·rw [hr0] at hc88;have h:=List.length_pos_iff.2 hBI.ne;simp at hc88;exact absurd hc88 hBI.ne
 obtain ⟨zi,hzw,hzn⟩:=zx5 (n:=(UF (Yj ws)).length) hwh (by have h:=List.length_pos_iff.2 hBI.ne;omega);obtain ⟨bhs,hBV⟩:=id hBs;have hBH:=hBV.1;obtain ⟨hx9,cl,hhx,hclx,hQ⟩:=hBV.at hzn;have hQl:=hQ.len;obtain ⟨_,hcE,_⟩:=zwD hBI hr0 (jd hclx);have hclb:=(zpG (rows:=Yj ws) kB).2 cl (jd hclx);refine Qo (Qa (zR (zM ?_)));refine zM ?_;refine zM ?_;refine zV (YK U zpz) ?_;refine zM ?_;refine zQ Zn ?_;refine zV (Z4 U U (fun hg=>kB)) ?_;rw [hzw];refine zV (zX Zn hBH) ?_;refine zV (Qd U QK (fun hg=>by exact zGG hBH hhx U)) ?_;refine zM ?_;refine zpc [_,_,_,_] U zzz .nil (ztr hQ hTb kB hEs kB kB hDb 1) ?_;rintro vv4 I4 L4 hI4 hMQ;have hW0:=hW0.mono hI4;have hDb:=hDb.mono hI4;have hE:=hE.mono hI4;have hTb:=hTb.mono hI4;have hIc:=hIc.trans hI4;obtain ⟨rfl,no2,cl2,es2,rd2,a1,q1,c1,a2,q2,c9,a3,q3,c4,rfl,hM1,hM2,hM3,hMy,hMn⟩:=hMQ.opn;refine zM ?_;refine zE ?_;refine zE ?_;refine Qs zw8 U U (fun b_16=>?_);refine zh Wy ?_;refine zA (zN (Ql (zR ?_)));refine zM ?_;refine zC (zN ?_);refine zI ?_ ?_<;>intro hc104
 ·have hM4:=zvm hcE (show W0 (Yj ws) 1 cl es≠0 by simpa using hc104);rw [hM4];refine zR (zM ?_);refine zC ?_;refine zA (zN (Qr (Qc ?_)));exact zp hIc U U kL
 have hM0:W0 (Yj ws) 1 cl es=0:=(by simpa using hc104);obtain ⟨ey1,ey2,ey3,ey4⟩:=hMy hM0;subst ey4;have hq3:=hM3.len;subst hq3;have hm1:q1<=100000:=(by rw [<-hM1.len,ey2];omega);have hm2:q2<=100000:=(by rw [<-hM2.len,ey3];omega);have hrdl:(ZW (Yj ws) cl es).length=((Yj ws).getD 0 []).length:=zbM;have hm3:(ZW (Yj ws) cl es).length<=100000:=kB;have hedc:zcf (Yj ws) no2 cl2 es2 (ZW (Yj ws) cl es)=0:=(by rw [ey1,ey2,ey3];exact zCv hM0 U);refine Qo (Qa (Ql ?_));refine QQ .here (fun I5 hI5 hb5=>?_);have hW0:=hW0.mono hI5;have hDb:=hDb.mono hI5;have hE:=hE.mono hI5;have hTb:=hTb.mono hI5;have hM1:=hM1.mono hI5;have hM2:=hM2.mono hI5;have hM3:=hM3.mono hI5;have hIc:=hIc.trans hI5;have hY:=Uq.of hb5;refine Qf (zM ?_);refine zM ?_;refine zV (Qk U Vn (fun hg=>by exact Cells.immC hY) U) ?_;refine zpc [_,_,_] U zCX .nil (Go.Proofs.YtmbjmjbjdgjonaaGreatDoor.w_Signs hW0 kB hTb kB hM1 hM2 hM3 hm1 hm2 hm3 no2 hDb (fun _=>zhK)) ?_;rintro vv6 I6 L6 hI6 ⟨rfl,sa,sc,rfl,hSg⟩;have hW0:=hW0.mono hI6;have hDb:=hDb.mono hI6;have hE:=hE.mono hI6;have hTb:=hTb.mono hI6;have hM1:=hM1.mono hI6;have hM2:=hM2.mono hI6;have hM3:=hM3.mono hI6;have hY:=hY.mono hI6;have hIc:=hIc.trans hI6;refine zM ?_;refine zE ?_;refine zE ?_;refine zA ?_;refine zA (zN (Ql (zR ?_)));refine zM ?_;refine zC (zN ?_);refine zI ?_ ?_<;>intro hc115
 ·obtain ⟨hs1,hs2⟩:=zA4 hcT U hedc (show (Uz ws (Yj ws) no2 cl2 es2 (ZW (Yj ws) cl es))≠0 by simpa using hc115);rw [hs1];refine zR (zM ?_);refine zC ?_;refine zA (zN (Qr (Qc ?_)));exact zp hIc U U kL
 have hs0:(Uz ws (Yj ws) no2 cl2 es2 (ZW (Yj ws) cl es))=0:=(by simpa using hc115);have hsk:=zBv hcT U hedc hs0;obtain ⟨hcw,htn⟩:=zgb hcT kB;have hinv:=zk2 hcw zhK htn (fun r hr=>by rw [hrdl];exact (hrr r hr).1) kB _ _ (js _) hsk;have hchk:=zEX (zo3 hinv kB);obtain ⟨v1,_,_,_⟩:=hinv;have hsl12:(Jn ws (Yj ws) no2 cl2 es2 (ZW (Yj ws) cl es)).length<=12:=(by rw [v1];exact zEq kB);have hsrt:=VL (Y5 hchk).2;refine Qo (Qa (Ql (zR (zM ?_))));refine qcV (vs:=[_]) U zaQ (Xx hSg kB) ?_;refine zC (zN ?_);refine zI ?_ ?_<;>intro hc120
 ·rw [hchk] at hc120;cases hc120
 refine Qo (Qa (zR (zM ?_)));refine zV (Qk U YD (fun hg=>by exact Cells.immC (vs:=X6 x0) hE) U) ?_;refine zpc [_,_] U zzc .nil (zxX hSg kB x0) ?_;rintro vv7 I7 L7 hI7 ⟨rfl,aa,an,ac,ys,er,rfl,hA,han,hap,_⟩;have hW0:=hW0.mono hI7;have hDb:=hDb.mono hI7;have hTb:=hTb.mono hI7;have hM1:=hM1.mono hI7;have hM2:=hM2.mono hI7;have hM3:=hM3.mono hI7;have hY:=hY.mono hI7;have hSg:=hSg.mono hI7;have hIc:=hIc.trans hI7;refine zM ?_;refine zE ?_;refine zE ?_;refine zA ?_;refine zA (zN (Ql (zR ?_)));refine zM ?_;refine zC (zN ?_);refine zI ?_ ?_<;>intro hc128
 ·refine zR (zA (zN (Qr (Qc ?_))));exact zp hIc U U kL
 have her:er=0:=(by simpa using hc128);have hap1:=hap her;have hAl:=hA.len;refine Qo (Qa (zR (zM ?_)));refine zM ?_;refine zM ?_;refine zV (YK U zms) ?_;rw [hfw];refine zB ?_;refine zpc [_,_,_,_] U zCl .nil (zDc hSg kB hA kB (1+fi) (.nil:Sl I7 1 Q3 none 0 0 []) kB) ?_;rintro vv8 I8 L8 hI8 ⟨rfl,pa,pn,pc,ps,rfl,hP,hdp⟩;have hW0:=hW0.mono hI8;have hDb:=hDb.mono hI8;have hTb:=hTb.mono hI8;have hM1:=hM1.mono hI8;have hM2:=hM2.mono hI8;have hM3:=hM3.mono hI8;have hY:=hY.mono hI8;have hSg:=hSg.mono hI8;have hA:=hA.mono hI8;have hIc:=hIc.trans hI8;refine zM ?_;refine zE ?_;refine zE ?_;refine zA ?_;refine zA (zN (Ql (zR ?_)));refine zM ?_;refine zC (zN ?_);refine zI ?_ ?_<;>intro hc139
 ·rw [zhs hap1 kB kB kB] at hc139;cases hc139
 have hd0:=zhs (first:=1+fi) hap1 kB kB kB;have hone:=zCm hd0 hdp;have hPl:=hP.1.len;have hpl:=hone.len;have hsn:=hone.sgn kB;have hsn0:=hone.sgn0 kB;have hcf:=hone.cfl kB;refine Qo (Qa (zR (zA (zN (Ql (zR ?_))))));refine zM ?_;refine zQ ZG ?_;refine zM (zN (Qp ?_));refine zU [(0,_),(11,_),(16,_),(18,_),(20,_),(22,_),(140,_),(141,_)] (fun T L0 mz E I' loc'=>∃ (k:Nat) (v:Value) (L:Go.Kn.Loc),mz=pn-k/\E=(24,v)::(142,.int .i64 k)::T/\HLe I8 I'/\L=loc'/\k<=pn/\OwnS 3 1 v k (((ps.take k).map (·.id)).flatMap Q3) L) ?_ (h:=⟨0,_,[],U,U,zGN _,U,jf _,OwnS.nil⟩);rintro mz E J9 loc' ⟨k,v,L,rfl,rfl,hJ,rfl,hk,hO⟩;have hW0:=hW0.mono hJ;have hDb:=hDb.mono hJ;have hTb:=hTb.mono hJ;have hM1:=hM1.mono hJ;have hM2:=hM2.mono hJ;have hM3:=hM3.mono hJ;have hY:=hY.mono hJ;have hSg:=hSg.mono hJ;have hA:=hA.mono hJ;have hP:=hP.mono hJ;have hIc:=hIc.trans hJ;have hB0:=hJ;refine zR (zC (zN (Ql ?_)));refine zI ?_ ?_<;>intro hc143
 ·have hlt_k:k<pn:=(by have h:=hc143;simp at h;omega);obtain ⟨p,hp⟩:=hP.1.at hlt_k;refine Qo (Qa (Ql (Qp (zR ?_))));refine zV (Qy U U ZG hP.1 (fun hg=>kB)) ?_;refine zV (Qk U YG (fun hg=>by exact zGO hP.1 hp) U) ?_;refine Qs Uf U U (fun b_26=>?_);refine zh VY ?_;refine zN (Qf (zM ?_));refine zF Zy ?_;refine zL Qq ?_;refine zpb [(0,_)] [Q3 p.id] Zw (fun b_149=>?_);refine zpa (_) ([p.id].flatMap Q3) (L) U U Zw hO ⟨U,fun _=>U,by repeat (first | exact zGL | apply zGK | apply zGM)⟩ (JH _) ?_;intro v9 L9 hO9 _;rw [<-jo] at hO9;refine zA (Qb (Qg (Qa (Qf ?_))));refine zB ?_;refine zM (Qb ?_);exact zm (h:=⟨pn-(k+1),kB,k+1,_,_,U,U,hB0,U,kB,by rw [jP,hp,jZ];exact hO9⟩)
 have hge_k:pn<=k:=(by have h:=hc143;simp at h;omega);rw [jD kB] at hO;obtain rfl:pn=k:=kB;refine QF (Qh (Qh (Qm (Qa (zR (zM ?_))))));refine zM ?_;refine zM ?_;refine zx7 hO Zh (fun I10 hI10 va vc e10 hV9=>?_);cases e10;have hW0:=hW0.mono hI10;have hDb:=hDb.mono hI10;have hTb:=hTb.mono hI10;have hM1:=hM1.mono hI10;have hM2:=hM2.mono hI10;have hM3:=hM3.mono hI10;have hY:=hY.mono hI10;have hSg:=hSg.mono hI10;have hA:=hA.mono hI10;have hP:=hP.mono hI10;have hIc:=hIc.trans hI10;have hV:Sl I10 1 Q3 va pn vc (ps.map (·.id)):=hV9;refine zpc [_,_,_] U zr7 .nil ((show ZQ _ _ _ _ _ (zlP 0 ys) from by have h:=w_Signs hP kB hSg kB hV kB;rwa [hsn.1,hsn.2] at h)) ?_;rintro vv11 I11 L11 hI11 ⟨rfl,ga,gc,rfl,hGs⟩;have hW0:=hW0.mono hI11;have hDb:=hDb.mono hI11;have hTb:=hTb.mono hI11;have hM1:=hM1.mono hI11;have hM2:=hM2.mono hI11;have hM3:=hM3.mono hI11;have hY:=hY.mono hI11;have hSg:=hSg.mono hI11;have hA:=hA.mono hI11;have hP:=hP.mono hI11;have hV:=hV.mono hI11;have hIc:=hIc.trans hI11;refine zM ?_;refine zE ?_;refine zE ?_;refine zA ?_;refine zA ?_;refine zN (zR ?_);refine zM ?_;refine zM ?_;refine zM ?_;refine zpc [_,_,_] U zBu .nil ((show ZQ _ _ _ _ _ (zy0 0 []) from by have h:=zgT hP kB hSg kB hV kB;rwa [hsn.1,hcf] at h)) ?_;rintro vv12 I12 L12 hI12 ⟨rfl,cs,xa,xc,rfl,_,hck⟩;have hW0:=hW0.mono hI12;have hDb:=hDb.mono hI12;have hTb:=hTb.mono hI12;have hM1:=hM1.mono hI12;have hM2:=hM2.mono hI12;have hM3:=hM3.mono hI12;have hY:=hY.mono hI12;have hSg:=hSg.mono hI12;have hA:=hA.mono hI12;have hP:=hP.mono hI12;have hV:=hV.mono hI12;have hGs:=hGs.mono hI12;have hIc:=hIc.trans hI12;have hcs:cs=[]:=List.map_eq_nil_iff.1 hck;subst hcs;refine zM ?_;refine zE ?_;refine zE ?_;refine zA ?_;refine zA (zN (Ql (zR ?_)));refine zM ?_;refine zC ?_;refine zM ?_;refine Q8 2 U U U ?_;refine zJ (Qj U) ?_;refine zJ (QI U U U) ?_;refine ZO U U U U U ?_;refine zM ?_;refine Q8 6 U U U ?_;refine zJ (Qj U) ?_;refine zJ (ZX U zBz) ?_;refine zJ (QI U U U) ?_;refine ZO U U U U U ?_;refine zM ?_;refine Q8 11 U U U ?_;refine zJ (Qj U) ?_;refine zJ (Qj U) ?_;refine qf (vs:=[_,_]) U zCs (fun hg=>zu8 hGs kB hA) ?_;refine zJ (Vv U) ?_;refine ZO U U U U U ?_;refine zN ?_;refine zI ?_ ?_<;>intro hc182
 ·simp [zfz] at hc182
 refine Qo (Qa (zR ?_));refine ZV U U (fun r_183=>?_);refine zA (zN (Ql (zR ?_)));refine zM ?_;refine zQ Q4 ?_;refine zM (zN (Qp ?_));refine zU [(0,_),(11,_),(16,_),(20,_),(22,_),(24,_),(31,_),(184,_),(185,_)] (fun T L0 mz E I' loc'=>∃ (k:Nat) (m:List (Int×Sg)),mz=(Jn ws (Yj ws) no2 cl2 es2 (ZW (Yj ws) cl es)).length-k/\E=(186,.int .i64 k)::T/\HLe I12 I'/\[(r_183,Z7 (Value.int .i64) Yp m)]=loc'/\k<=(Jn ws (Yj ws) no2 cl2 es2 (ZW (Yj ws) cl es)).length/\zqc (Jn ws (Yj ws) no2 cl2 es2 (ZW (Yj ws) cl es)) k m) ?_ (h:=⟨0,[],U,U,zGN _,U,jf _,zqc.nil⟩);rintro mz E J13 loc' ⟨k,m,rfl,rfl,hJ,rfl,hk,hm⟩;have hW0:=hW0.mono hJ;have hDb:=hDb.mono hJ;have hTb:=hTb.mono hJ;have hM1:=hM1.mono hJ;have hM2:=hM2.mono hJ;have hM3:=hM3.mono hJ;have hY:=hY.mono hJ;have hSg:=hSg.mono hJ;have hA:=hA.mono hJ;have hP:=hP.mono hJ;have hV:=hV.mono hJ;have hIc:=hIc.trans hJ;have hB2:=hJ;refine zR (zC (zN (Ql ?_)));refine zI ?_ ?_<;>intro hc187
 ·have hlt_k:k<(Jn ws (Yj ws) no2 cl2 es2 (ZW (Yj ws) cl es)).length:=(by have h:=hc187;simp at h;omega);obtain ⟨x,hx⟩:=hSg.at hlt_k;refine Qo (Qa (Ql (Qp (zR ?_))));refine zV (zX Q4 hSg) ?_;refine zV (Qk U QY (fun hg=>by exact zGO hSg hx) U) ?_;refine Qs UV U U (fun b_33=>?_);refine zh Yk ?_;refine zN (Qf (zM ?_));refine zF Zb ?_;refine zL Qq ?_;refine zV (Qk U QY (fun hg=>by exact zGL) U) ?_;refine Q6 (m:=m) (ek:=Value.int .i64) (ev:=Yp) (a:=x.id) x zsS Z3 U U U U (by repeat (first | exact Upd.here | apply Upd.there | apply QH)) ?_;refine Qb (Qg (Qa (Qf (zB ?_))));refine zM (Qb ?_);exact zm (h:=⟨(Jn ws (Yj ws) no2 cl2 es2 (ZW (Yj ws) cl es)).length-(k+1),kB,k+1,_,U,U,hB2,U,kB,hm.step hsrt hx⟩)
 have hge_k:(Jn ws (Yj ws) no2 cl2 es2 (ZW (Yj ws) cl es)).length<=k:=(by have h:=hc187;simp at h;omega);have hmw:=hm.all hge_k;refine QF (Qh (Qh (Qm (Qa (Ql (zR (zM ?_)))))));refine zQ Q4 ?_;refine zM (zN (Qp ?_));refine zU [(0,_),(11,_),(16,_),(22,_),(24,_),(31,_),(195,_),(196,_)] (fun T L0 mz E I' loc'=>∃ (k:Nat),mz=an-k/\E=(197,.int .i64 k)::T/\HLe J13 I'/\[(r_183,Z7 (Value.int .i64) Yp m)]=loc'/\k<=an) ?_ (h:=⟨0,U,U,zGN _,U,jf _⟩);rintro mz E J14 loc' ⟨k,rfl,rfl,hJ,rfl,hk⟩;have hW0:=hW0.mono hJ;have hDb:=hDb.mono hJ;have hTb:=hTb.mono hJ;have hM1:=hM1.mono hJ;have hM2:=hM2.mono hJ;have hM3:=hM3.mono hJ;have hY:=hY.mono hJ;have hA:=hA.mono hJ;have hP:=hP.mono hJ;have hV:=hV.mono hJ;have hIc:=hIc.trans hJ;have hB4:=hJ;refine zR (zC (zN (Ql ?_)));refine zI ?_ ?_<;>intro hc198
 ·have hlt_k:k<an:=(by have h:=hc198;simp at h;omega);obtain ⟨z,hz⟩:=hA.at hlt_k;have hzm:=jd hz;have hzl:QW ys z.id=some z:=WD (VL (Y5 hap1.ca).2) hzm;refine Qo (Qa (Ql (Qp (zR ?_))));refine zV (zX Q4 hA) ?_;refine zV (Qk U QY (fun hg=>by exact zGO hA hz) U) ?_;refine Qs UV U U (fun b_35=>?_);refine zh Yk ?_;refine zN (zR ?_);refine zM ?_;refine zF Zb ?_;refine zL Qq ?_;refine zV (zDn (m:=m) hmw zsS Z3 U U (fun _=>.inr kK)) ?_;refine zM ?_;refine zE ?_;refine zE ?_;refine Qs UV U U (fun b_36=>?_);refine zh Yk ?_;refine zA (zN (Ql ?_));refine QQ .here (fun I15 hI15 hb15=>?_);have hW0:=hW0.mono hI15;have hDb:=hDb.mono hI15;have hTb:=hTb.mono hI15;have hM1:=hM1.mono hI15;have hM2:=hM2.mono hI15;have hM3:=hM3.mono hI15;have hY:=hY.mono hI15;have hP:=hP.mono hI15;have hV:=hV.mono hI15;have hB4:=hB4.trans hI15;have hwz:=Uq.of hb15;refine QQ .here (fun I16 hI16 hb16=>?_);have hW0:=hW0.mono hI16;have hDb:=hDb.mono hI16;have hTb:=hTb.mono hI16;have hM1:=hM1.mono hI16;have hM2:=hM2.mono hI16;have hM3:=hM3.mono hI16;have hY:=hY.mono hI16;have hP:=hP.mono hI16;have hV:=hV.mono hI16;have hwz:=hwz.mono hI16;have hB4:=hB4.trans hI16;have hxz:=Uq.of hb16;refine Qf (zA (zN (Qp ?_)));refine zU [(0,_),(11,_),(16,_),(22,_),(24,_),(31,_),(35,_),(36,_),(37,_),(195,_),(196,_),(197,_)] (fun T L0 mz E I' loc'=>∃ (j:Nat),mz=9-j/\E=(38,.int .i64 ((j:Int)+1))::T/\HLe I16 I'/\[(r_183,Z7 (Value.int .i64) Yp m)]=loc'/\j<=9) ?_ (h:=⟨0,U,U,zGN _,U,jf _⟩);rintro mz E J17 loc' ⟨j,rfl,rfl,hJ,rfl,hj⟩;have hW0:=hW0.mono hJ;have hDb:=hDb.mono hJ;have hTb:=hTb.mono hJ;have hM1:=hM1.mono hJ;have hM2:=hM2.mono hJ;have hM3:=hM3.mono hJ;have hY:=hY.mono hJ;have hP:=hP.mono hJ;have hV:=hV.mono hJ;have hwz:=hwz.mono hJ;have hxz:=hxz.mono hJ;have hB4:=hB4.trans hJ;have hB6:=hJ;refine Ql (zR (zM ?_));refine zC (zN ?_);refine zI ?_ ?_<;>intro hc209
  ·have hlt_j:j<9:=(by have h:=hc209;simp only [jQ] at h;omega);have hjf:isF ((j:Int)+1):=(by unfold isF;omega);have hk3:=hone.k3 (rows:=Yj ws) (es:=es2) (rd:=(ZW (Yj ws) cl es)) hzl hjf;have hoe1:orE (zkb (Uz ws (Yj ws) no2 cl2 es2 (ZW (Yj ws) cl es)) ps (Jn ws (Yj ws) no2 cl2 es2 (ZW (Yj ws) cl es)) (ps.map (·.id))) (zaL (onF ps) (Jn ws (Yj ws) no2 cl2 es2 (ZW (Yj ws) cl es)) (ZY ps (ps.map (·.id)))) z.id ((j:Int)+1)=0:=zmI (by rw [zfC hs0];exact hsn.1) hjf ⟨z,by rw [<-(zdq hsn.1).2.2.2.2.2.2.2.1,hsn.2];exact hzm,U⟩;have hob:=zqj (on:=onF ps) (rows:=Yj ws) (es:=es2) (rd:=(ZW (Yj ws) cl es)) (l:=ZY ps (ps.map (·.id))) (s:=z.id) (f:=(j:Int)+1);have hvl:(ZY ps (ps.map (·.id))).length<=512:=(by rw [hone.vl];exact hpl);refine Qo (Qa (Ql (Qp (zR (zM ?_)))));refine zM ?_;refine zV (Qk U Vn (fun hg=>by exact Cells.immC hY) U) ?_;refine zM ?_;refine zM ?_;refine zF Zb ?_;refine zV (Qd U Qq (fun hg=>by exact QB.imm hxz U)) ?_;refine zM ?_;refine zpc [_,_,_,_,_,_,_] U zsm .nil (zjb hW0 kB hTb kB hM1 hM2 hM3 hm1 hm2 hm3 no2 hP kB hV kB hDb z.id ((j:Int)+1)) ?_;rintro vv18 I18 L18 hI18 ⟨rfl,_,rfl,a4,b4,d4,a5,b5,d5,rfl,hw1,hz1⟩;have hW0:=hW0.mono hI18;have hDb:=hDb.mono hI18;have hTb:=hTb.mono hI18;have hM1:=hM1.mono hI18;have hM2:=hM2.mono hI18;have hM3:=hM3.mono hI18;have hY:=hY.mono hI18;have hP:=hP.mono hI18;have hwz:=hwz.mono hI18;have hxz:=hxz.mono hI18;have hB6:=hB6.trans hI18;rw [hoe1,zo4];rw [hoe1,zo4] at hw1 hz1;refine zM ?_;refine zE ?_;refine zE ?_;refine Qs zcj U U (fun b_39=>?_);refine zh Kt ?_;refine zA (zN (Ql (zR ?_)));refine zM ?_;refine zC (zN ?_);refine zI ?_ ?_<;>intro hc225
   ·cases hc225
   refine Qo (Qa (Ql ?_));refine YE mixed kA ?_;refine zq (Qj U) ?_;refine zq (Vv U) ?_;refine zq (Qj U) ?_;refine JL 2 U U U ?_;refine zj (Qk U QY (fun hg=>by exact Cells.immC hwz) U) ?_;refine zj (Qj U) ?_;refine UT (cap:=[]) (vs:=[_,_]) U U zr8 (fun hg=>zl7 _ _ _) (.some U U U U gbf) U U ?_;refine zj (Qk U QY (fun hg=>by exact Cells.immC hxz) U) ?_;refine zj (Qj U) ?_;refine UT (cap:=[]) (vs:=[_,_]) U U zr8 (fun hg=>zl7 _ _ _) (.some U U U U gbf) U U ?_;refine zj (zdt U U U2 U) ?_;refine W5 U U U U U ?_;refine zq (QU U) ?_;refine YC ?_;refine Qa (Ql (Ql ?_));refine QQ .here (fun I19 hI19 hb19=>?_);have hW0:=hW0.mono hI19;have hDb:=hDb.mono hI19;have hTb:=hTb.mono hI19;have hM1:=hM1.mono hI19;have hM2:=hM2.mono hI19;have hM3:=hM3.mono hI19;have hY:=hY.mono hI19;have hP:=hP.mono hI19;have hxz:=hxz.mono hI19;have hw1:=hw1.mono hI19;have hz1:=hz1.mono hI19;have hB6:=hB6.trans hI19;have hog:=Uq.of hb19;refine Qf ?_;refine zF za1 ?_;refine zV (Qd U Qq (fun hg=>by exact QB.imm hog U)) ?_;refine zC ?_;refine zM ?_;refine zV (ziL U U zuW) ?_;refine zN ?_;refine zI ?_ ?_<;>intro hc241
   ·have h:(!(((zcn (onF ps) (Yj ws) es2 (ZW (Yj ws) cl es) (ZY ps (ps.map (·.id))) z.id ((j:Int)+1)).k==3)==(!(QW (Jn ws (Yj ws) no2 cl2 es2 (ZW (Yj ws) cl es)) z.id).isSome|| !WW (zjA ((QW (Jn ws (Yj ws) no2 cl2 es2 (ZW (Yj ws) cl es)) z.id).getD ZU) ((j:Int)+1)) (zjA z ((j:Int)+1)))))=true:=hc241;rw [hk3.1,zkh hjf rfl] at h;simp at h
   refine Qo (Qa (Ql (zR (zM (zN ?_)))));refine zI ?_ ?_<;>intro hc242
   focus
    refine QF (Qh (Qm (Qa (Qf (zM ?_)))))
   rotate_left
   have hch:ztd (Jn ws (Yj ws) no2 cl2 es2 (ZW (Yj ws) cl es)) z ((j:Int)+1)=false:=(by rw [<-zkh hjf rfl];exact hc242);obtain ⟨w9,hw9⟩:=zBp hch;have hoe2:orE (zkb (Uz ws (Yj ws) no2 cl2 es2 (ZW (Yj ws) cl es)) ps (Jn ws (Yj ws) no2 cl2 es2 (ZW (Yj ws) cl es)) []) (zaL (onF ps) (Jn ws (Yj ws) no2 cl2 es2 (ZW (Yj ws) cl es)) (ZY ps [])) z.id ((j:Int)+1)=0:=zmI (by rw [zfC hs0];exact hsn0.1) hjf ⟨w9,by rw [<-(zdq hsn0.1).2.2.2.2.2.2.2.1,hsn0.2];exact JQ hw9,Vr hw9⟩;refine Qo (Qa (zR (zM ?_)));refine zM ?_;refine zV (Qk U Vn (fun hg=>by exact Cells.immC hY) U) ?_;refine zM ?_;refine zF Zb ?_;refine zV (Qd U Qq (fun hg=>by exact QB.imm hxz U)) ?_;refine zM ?_;refine zpc [_,_,_,_,_,_,_] U zsm .nil (zjb hW0 kB hTb kB hM1 hM2 hM3 hm1 hm2 hm3 no2 hP kB (.nil:Sl I19 1 Q3 none 0 0 []) kB hDb z.id ((j:Int)+1)) ?_;rintro vv20 I20 L20 hI20 ⟨rfl,_,rfl,a6,b6,d6,a7,b7,d7,rfl,hw2,hz2⟩;have hw1:=hw1.mono hI20;have hz1:=hz1.mono hI20;have hog:=hog.mono hI20;have hB6:=hB6.trans hI20;rw [hoe2,zo4];rw [hoe2,zo4] at hw2 hz2;refine zM ?_;refine zE ?_;refine zE ?_;refine Qs zcj U U (fun b_42=>?_);refine zh Kt ?_;refine zA ?_;refine zN (zR ?_);refine zM ?_;refine zC ?_;refine zM ?_;refine Q8 2 U U U ?_;refine zJ (Qk U VN (fun hg=>by exact Cells.immC hog) U) ?_;refine zJ (Qk U VN (fun hg=>by exact zGL) U) ?_;refine qf (vs:=[_,_]) U zBy (fun hg=>zyR (o1:=(zcn (onF ps) (Yj ws) es2 (ZW (Yj ws) cl es) (ZY ps (ps.map (·.id))) z.id ((j:Int)+1))) (o2:=(zcn (onF ps) (Yj ws) es2 (ZW (Yj ws) cl es) (ZY ps []) z.id ((j:Int)+1))) hw1 hz1 hw2 hz2 (by rw [<-hw1.len];have:=hob.1;omega) (by rw [<-hz1.len];have:=hob.2;omega)) ?_;refine zJ (Vv U) ?_;refine ZO U U U U U ?_;refine zN ?_;refine zI ?_ ?_<;>intro hc261
   ·have h:=hc261;rw [hk3.2 hch,zqb] at h;simp at h
   refine Qo (Qg (Qa (Qf (zM ?_))))
   all_goals
    refine zB ?_;refine zA (Qb ?_);exact zm (h:=⟨9-(j+1),kB,j+1,U,U,hB6,U,kB⟩)
  have hge_j:9<=j:=(by have h:=hc209;simp only [AF] at h;omega);refine QF (Qh (Qh (Qm (Qg (Qa (Qf (zB ?_)))))));refine zM (Qb ?_);exact zm (h:=⟨an-(k+1),kB,k+1,U,U,hB4,U,kB⟩)
 have hge_k:an<=k:=(by have h:=hc198;simp at h;omega);refine QF (Qh (Qh (Qm (Qa (zR (zA (zN ?_)))))));refine Qr ?_;exact zp hIc U U kL
end
end Go.Proofs.YtmbjmjbjdgjonaaGreatDoor.R
namespace Go.Kn
section
open Go Go.ChangeShapes Go.WideShapes Go.ChangeAt Go.RowKit
def zbR (W:World):Qt:=fun b=>W.heap[b]?
theorem St.start (W:World):St W (zbR W) (fun _=>none) [] W:=
 ⟨U,U,U,⟨js _,js _⟩,fun _ _ h=>h,(fun _ _ h=>by cases h),(fun _ _ h=>by cases h),fun _=>.inr U,(fun _ _ h=>by cases h),by simp⟩
variable{W w:World}{loc:Loc}
theorem St.below {H:Qt}(h:St W (zbR W) H loc w):Below W.heap.size W w:=
 ⟨h.os,h.tape,h.out,h.size.1,fun k hk=>by
  have e:W.heap[k]? =some W.heap[k]:=OX hk
  rw [h.imm k _ e,e]⟩
variable{P:Program}{f:FuncId}{v:Value}
theorem Zt.law {args:List Value}(h:Zt P f args (zbR W) v):Calls P f args.toArray W fun e w'=>e= .returned v/\Below W.heap.size W w':=
 (h W _ W (St.start W)).mono fun _ _ ⟨he,hs⟩=>⟨he,hs.below⟩
variable{may:MemPlace->Prop}
theorem zei (h:Below W.heap.size W w):W.keptBut w may:=by refine ⟨h.os,h.output,fun i hi=>?_⟩;rw [h.block i hi];rw [OX hi];cases W.heap[i]<;>simp
theorem XB {H:Type}{enc:TypeId×Value->H}{P:Program}{W W':World}(hl:laidOutB P=true)(hB:Below W.heap.size W W')(sp:Nat->Bool):∀ (ts:List TypeId) (vs:List Value) (ds:List (DataW H)) (ps:List MemPlace),(∀ t∈ts,P.readableRec t=true/\t<P.types.size)->
  DataW.TrodAll enc P W 0 (fun _=>true) true ts vs ds ps->(∀ x∈ps,x.block<W.heap.size/\sp x.block=true)->DataW.TrodAll enc P W' 0 sp true ts vs ds ps
 | [],[],[],ps,_,h,_=>h
 | t::ts,v::vs,d::ds,ps,hr,⟨p,q,h1,h2,e⟩,hlt=>by
  subst e
  exact ⟨p,q,WideElems.Trod_stays hl (hr t (jk ..)).1 (hr t (jk ..)).2 h1 (fun x hx=>hB.same (hlt x (Ag _ hx)).1) (fun x hx=>(hlt x (Ag _ hx)).2),
   XB hl hB sp ts vs ds q (fun t ht=>hr t (jq _ ht)) h2 (fun x hx=>hlt x (Bw _ hx)),U⟩
variable{H:Type}{s:ChangeSpec}{again:Bool}{args:Array Value}{before:List MemPlace}{tb:TypeId}{enc:TypeId×Value->H}{ds:List (DataW H)}
theorem zoT {f:Func}{W':World}
  (hl:laidOutB P=true)(hr:f.resultTypes= #[tb])(hb:P.underlying tb=some .bool)(hv:s.vars=[])(hs:(s.fn H (ds++[]))= {results:=[.lit (.bool true)],args:=ds})(hrd:∀ t∈f.params.toList,P.readableRec t=true/\t<P.types.size)
  (hW:DataW.Whole enc P f.params.toList s.vars false W args.toList ds [] before)(hB:Below W.heap.size W W'):s.post enc P f false true false again W args (.bool true) W':=by
 have hlt:∀ x∈before,x.block<W.heap.size:=fun x hx=>(by simpa using hW.lt x hx);have hW0:=hW;obtain ⟨p,q,hA,hV,rfl,hfz,_⟩:=hW;rw [hv] at hV;obtain ⟨_,rfl⟩:=trodVars_none hV;rw [jz] at hlt hfz hW0
 have hres:∀ (b:Nat) (sp:Nat->Bool) (hd:Bool),DataW.TrodAll enc P W' b sp hd f.resultTypes.toList ((Value.bool true).resultList f.resultTypes.size) [.lit (.bool true)] []:=fun b sp hd=>by
  rw [hr];exact trodAll_mk1 (shut_bool hb true)
 have hargs:∀ sp:Nat->Bool,(∀ x∈p,sp x.block=true)->DataW.TrodAll enc P W' 0 sp true f.params.toList args.toList ds p:=fun sp h=>XB hl hB sp _ _ _ _ hrd hA (fun x hx=>⟨hlt x hx,h x hx⟩);have hnil:∀ sp:Nat->Bool,DataW.TrodVars enc P W' sp s.vars [] []:=fun sp=>(by rw [hv];rfl);refine ⟨ds,[],p,[],p,[],hW0,?_,?_,?_,zei hB,fun _=>?_⟩
 ·rw [hs];exact hres _ _ _
 ·rw [hs];exact hargs _ (fun x hx=>by simpa using hlt x hx)
 ·rw [hs];exact hnil _
 ·refine ⟨fun j t r ht hr'=>?_,[.lit (.bool true)]++ds,[],[]++p,⟨[]++p,[],trodAll_append (hargs _ (fun _ _=>U)) (hres _ _ _),hnil _,by simp,?_,fun h=>by cases h⟩,fun x hx _=>by simpa using hx⟩
  ·rw [hr] at ht hr'
   cases j with
   | zero=>simp [Value.resultList] at ht hr';subst ht;subst hr';exact okWide_bool_mk hb _
   | succ j=>simp at ht
  ·intro b off hx;rw [hB.frozen (hlt _ (by simpa using hx))];exact hfz b off (by simpa using hx)
variable{u:Value}
theorem zfI {b o:Nat}(h:W.cell? ⟨b,o,none⟩=some u):QB (zbR W) [] b o u:=by
 unfold World.cell? at h;split at h
 ·rename_i c t fz hb;simp only [Option.isSome_none,jB,j2] at h;exact ⟨c,t,fz,.inl hb,h⟩
 ·cases h
variable{t e:TypeId}{size:Nat}{cs:List Value}{x0:DataW H×List MemPlace}{α:Type}
theorem ziM {fuel0:Nat}(enc':α->List Value)(ok:α->Prop)
  (ht:P.underlying t=some (.slice e))(hc:P.cellsOf e=size)(hpos:0<size)(hlen:∀ y,(enc' y).length=size)
  (hel:∀ fuel cs x,DataW.trod enc P W 0 (fun _=>true) true fuel e cs=some x->∃ y,ok y/\enc' y=cs)
  (hf':DataW.trod enc P W 0 (fun _=>true) true fuel0 t cs=some x0):∃ av n c xs,cs=[.slice av n c]/\Sl (zbR W) size enc' av n c xs/\(∀ x∈xs,ok x)/\c<=maxLen:=by
 rcases Go.Deep.open_slice ht hf' with ⟨e1,_⟩ | ⟨a,len0,cap0,m,n,D,Pl,e1,hb,hl,hm,hmm,_,hx⟩
 ·subst e1;exact ⟨none,0,0,[],U,.nil,(fun x hx=>by cases hx),jf _⟩
 ·subst e1;have hlm:len0<=m:=by rw [hmm];simp;exact hl
  have each:∀ i,i<len0->∃ y,ok y/\W.cells? 0 (a.add (i*size)) size=some (enc' y):=fun i hi=>by
   obtain ⟨cs',h1,h2⟩:=hx i kB;obtain ⟨y,hy,e⟩:=hel _ _ _ h2;rw [hc] at h1;exact ⟨y,hy,by rw [h1,e]⟩
  have all:∀ k,k<=len0->∃ xs:List α,xs.length=k/\∀ i x,xs[i]? =some x->ok x/\W.cells? 0 (a.add (i*size)) size=some (enc' x):=by
   intro k
   induction k with
   | zero=>intro _;exact ⟨[],U,fun i x h=>by simp at h⟩
   | succ k ih=>
    intro hk;obtain ⟨xs,hl',hxs⟩:=ih kB;obtain ⟨y,hy,hcy⟩:=each k kB;refine ⟨xs++[y],by simp [hl'],fun i x h=>?_⟩;by_cases hi:i<xs.length
    ·rw [AB hi] at h;exact hxs i x h
    ·rw [OI kB] at h;have:i=k:=by have:=(jc.1 h).1;simp at this;omega
     subst this;rw [hl'] at h;simp at h;subst h;exact ⟨hy,hcy⟩
  obtain ⟨xs,hl',hxs⟩:=all len0 (js _)
  have add0:∀ (b o n:Nat),(⟨b,o,none⟩:Addr).add n=⟨b,o+n,none⟩:=fun b o n=>by
   unfold Addr.add;split
   ·rename_i e;subst e;rfl
   ·rfl
  have hspot:0<xs.length->a.spot=none:=fun hx=>by
   have hx0:xs[0]? =some xs[0]:=je hx;have hp0:0<(enc' xs[0]).length:=(by rw [hlen];exact hpos);obtain ⟨_,h1,h2⟩:=World.cells?_some (hxs 0 _ hx0).2;have h3:=h2 0 hpos;rw [je hp0] at h3;simpa [Addr.add] using World.cell?_spot h3
  have cellat:∀ i x,xs[i]? =some x->∀ j u,(enc' x)[j]? =some u->W.cell? ⟨a.block,a.off+i*size+j,none⟩=some u:=fun i x hx j u hu=>by
   obtain ⟨_,h1,h2⟩:=World.cells?_some (hxs i x hx).2;have hj:j<size:=(by rw [<-hlen x];exact (jc.1 hu).1);have h3:=h2 j hj;rw [hu] at h3;have hsp:=hspot (by have:=(jc.1 hx).1;omega);obtain ⟨b,o,sp⟩:=a;simp only at hsp;subst hsp;rw [add0,add0] at h3;exact h3
  refine ⟨some a,len0,cap0,xs,U,⟨hl',hl,fun hn=>?_,fun k x hx j u hu=>?_⟩,fun x hx=>?_,hm⟩
  ·have:=hspot kB;obtain ⟨b,o,sp⟩:=a;simp only at this;subst this;rfl
  ·exact zfI (cellat k x hx j u hu)
  ·obtain ⟨i,hi⟩:=jC hx;exact (hxs i x hi).1
variable{base:Nat}{d:DataW H}{p:List MemPlace}
theorem zmQ (enc':α->List Value)(ok:α->Prop)
  (ht:P.underlying t=some (.slice e))(hc:P.cellsOf e=size)(hpos:0<size)(hlen:∀ y,(enc' y).length=size)
  (hel:∀ fuel cs x,DataW.trod enc P W 0 (fun _=>true) true fuel e cs=some x->∃ y,ok y/\enc' y=cs)
  (hv:Value.okWide P W .any base t v)(h:DataW.Trod enc P W 0 (fun _=>true) true t v d p):∃ av n c xs,v= .slice av n c/\Sl (zbR W) size enc' av n c xs/\(∀ x∈xs,ok x)/\c<=maxLen:=by
 obtain ⟨a0,len0,cap0,rfl⟩:=okWide_slice ht hv;obtain ⟨fuel,hf⟩:=h;obtain ⟨av,n,c,xs,e,h1,h2,h3⟩:=ziM enc' ok ht hc hpos hlen hel (cs:=[.slice a0 len0 cap0]) (by simpa [Value.cells] using hf);cases e;exact ⟨_,_,_,xs,U,h1,h2,h3⟩
end
section
open Go
theorem VS {H:Type}{enc:TypeId×Value->H}{P:Program}{W:World}{base:Nat}{spare:Nat->Bool}{held:Bool}{t C:Nat}{fs:Array Field}{fuel:Nat}{cs:List Value}{x:DataW H×List MemPlace}(hs:P.underlying t=some (.struct fs))
  (hC:P.cellsOf t=C)(h:DataW.trod enc P W base spare held fuel t cs=some x):
  cs.length=C/\∃ n,∀ (i ty off k:Nat),((fs[i]?).map fun f=>(f.type,f.offset))=some (ty,off)->P.cellsOf ty=k->∃ y,DataW.trod enc P W base spare held n ty ((cs.drop off).take k)=some y:=by
 obtain ⟨xs,n,_,_,hl,hxl,hf⟩:=DataW.trod_struct hs h;refine ⟨hl.trans hC,n,fun i ty off k hi hk=>?_⟩;obtain ⟨f,hfi,e⟩:=jY.1 hi;cases e;have g:=hf i f hfi;have hix:i<xs.length:=(by rw [hxl];exact (OH.1 hfi).1);rw [hk,je hix] at g;exact ⟨_,g⟩
end
end Go.Kn
namespace Go.Proofs.YtmbjmjbjdgjonaaGreatDoor
section
open Go Go.Kn Go.Proofs
open Go.ChangeShapes Go.WideShapes Go.ChangeAt Go.RowKit
set_option maxRecDepth 100000
theorem ZM:Tryz.prog.underlying 3=some (.int .i64):=kA
theorem zs4:Tryz.prog.underlying 4=some .bool:=kA
theorem zsL:Tryz.prog.underlying 5=some (.int .u8):=kA
def zlH:List (String×DataW Unit):=[("math/bits.deBruijn32tab",Rows.laid_math_bits_deBruijn32tab),("math/bits.deBruijn64tab",Rows.laid_math_bits_deBruijn64tab)]
theorem zGn:Tryz.prog.globalNamed "math/bits.deBruijn64tab" =some 1:=kA
theorem zF5:(Tryz.prog.globals[1]?).map (·.type)=some 272:=kA
theorem zC5:(Rows.laid_math_bits_deBruijn64tab:DataW Unit)=Lib.tabData .u8 zua:=by rfl
theorem zC7 {W:World}(h:laidMetH Tryz.prog zlH W):KR (zbR W):=by rw [MakeChecks.laidMetH_plain _ _ _ kA] at h;obtain ⟨ps,⟨g0,t0,cs0,f0,p0,q0,hg0,ht0,hv0,hd0,⟨g1,t1,cs1,f1,p1,q1,hg1,ht1,hv1,hd1,_,_⟩,_⟩,_,_⟩:=h;obtain rfl:=Ob (zGn.symm.trans hg1);obtain rfl:=Ob (zF5.symm.trans ht1);rw [zC5] at hd1;have hcs:=Lib.cells_of_tab (n:=64) (e:=5) kA zsL kA kA hd1;intro i hi;refine zfI ?_;have:=World.var?_cell hg1 hv1 i;rw [this];have hl:i<zua.length:=hi;have e:cs1=(zua.map fun z=>Value.int .u8 z).toArray:=AS hcs;rw [e];simp [List.getD,hl]
theorem zqD (os:Os)(args:Array Value):laidMetH Tryz.prog zlH ((World.doorLaid Tryz.prog 400 os).forCall (fun _ _=>0) ⟨#[],args,[]⟩).memory:=
 laidMetH_of_parts3 (fuel:=8) (laidMet_of_run' 8 kA kA) kA kA
end
section
open Go Go.Kn Go.Proofs
open Go.ChangeShapes Go.WideShapes Go.ChangeAt Go.RowKit
set_option maxRecDepth 100000
theorem zyd:Tryz.prog.underlying 90=some (.struct (Tryz.prog.fieldsOf 90)):=kA
theorem zwY:Tryz.prog.underlying 24=some (.slice 90):=kA
theorem zgu:Tryz.prog.underlying 28=some (.struct (Tryz.prog.fieldsOf 28)):=kA
theorem XY:Tryz.prog.underlying 26=some (.struct (Tryz.prog.fieldsOf 26)):=kA
theorem zwZ:Tryz.prog.underlying 69=some (.struct (Tryz.prog.fieldsOf 69)):=kA
theorem zuF:Tryz.prog.underlying 70=some (.slice 69):=kA
theorem zxz:Tryz.prog.underlying 72=some (.struct (Tryz.prog.fieldsOf 72)):=kA
theorem zwd:Tryz.prog.underlying 22=some (.slice 72):=kA
variable{H:Type}{W:World}{enc:TypeId×Value->H}
theorem zFj (fuel:Nat)(cs:List Value)(x:DataW H×List MemPlace)(h:DataW.trod enc Tryz.prog W 0 (fun _=>true) true fuel 90 cs=some x):∃ y:Em,(fun _=>True) y/\V8 y=cs:=by
 obtain ⟨hl,n0_,f0⟩:=VS (C:=3) zyd kA h
 match cs,hl with
 | [c0,c1,c2],_=>
  obtain ⟨_,g0_0⟩:=f0 0 3 0 1 kA kA;obtain ⟨n0,e0,_,w0⟩:=jI ZM (show DataW.trod enc Tryz.prog W 0 (fun _=>true) true n0_ 3 [c0]=some _ from g0_0);obtain ⟨_,g0_1⟩:=f0 1 3 1 1 kA kA;obtain ⟨n1,e1,_,w1⟩:=jI ZM (show DataW.trod enc Tryz.prog W 0 (fun _=>true) true n0_ 3 [c1]=some _ from g0_1);obtain ⟨_,g0_2⟩:=f0 2 3 2 1 kA kA;obtain ⟨n2,e2,_,w2⟩:=jI ZM (show DataW.trod enc Tryz.prog W 0 (fun _=>true) true n0_ 3 [c2]=some _ from g0_2);cases e0;cases e1;cases e2;exact ⟨⟨n0,n1,n2⟩,trivial,U⟩
variable{base:Nat}{v:Value}{d:DataW H}{p:List MemPlace}
theorem zrx (hv:Value.okWide Tryz.prog W .any base 24 v)(h:DataW.Trod enc Tryz.prog W 0 (fun _=>true) true 24 v d p):
  ∃ av n c xs,v= .slice av n c/\Sl (zbR W) 3 V8 av n c xs:=by
 obtain ⟨av,n,c,xs,e,hS,hok,_⟩:=zmQ (e:=90) V8 (fun _=>True) zwY kA kE zbQ (fun fuel cs x h=>zFj fuel cs x h) hv h;exact ⟨av,n,c,xs,e,hS⟩
theorem zFn (fuel:Nat)(cs:List Value)(x:DataW H×List MemPlace)(h:DataW.trod enc Tryz.prog W 0 (fun _=>true) true fuel 69 cs=some x):∃ y:Rd,(fun _=>True) y/\Wq y=cs:=by
 obtain ⟨hl,n0_,f0⟩:=VS (C:=15) zwZ kA h
 match cs,hl with
 | [c0,c1,c2,c3,c4,c5,c6,c7,c8,c9,c10,c11,c12,c13,c14],_=>
  obtain ⟨_,g0_0⟩:=f0 0 4 0 1 kA kA;obtain ⟨n0,e0,_⟩:=DataW.trod_bool zs4 (show DataW.trod enc Tryz.prog W 0 (fun _=>true) true n0_ 4 [c0]=some _ from g0_0);obtain ⟨_,g0_1⟩:=f0 1 28 1 14 kA kA;obtain ⟨_,n1_,f1⟩:=VS (C:=14) zgu kA (show DataW.trod enc Tryz.prog W 0 (fun _=>true) true n0_ 28 [c1,c2,c3,c4,c5,c6,c7,c8,c9,c10,c11,c12,c13,c14]=some _ from g0_1);obtain ⟨_,g1_0⟩:=f1 0 3 0 1 kA kA;obtain ⟨n1,e1,_,w1⟩:=jI ZM (show DataW.trod enc Tryz.prog W 0 (fun _=>true) true n1_ 3 [c1]=some _ from g1_0);obtain ⟨_,g1_1⟩:=f1 1 3 1 1 kA kA;obtain ⟨n2,e2,_,w2⟩:=jI ZM (show DataW.trod enc Tryz.prog W 0 (fun _=>true) true n1_ 3 [c2]=some _ from g1_1);obtain ⟨_,g1_2⟩:=f1 2 3 2 1 kA kA;obtain ⟨n3,e3,_,w3⟩:=jI ZM (show DataW.trod enc Tryz.prog W 0 (fun _=>true) true n1_ 3 [c3]=some _ from g1_2);obtain ⟨_,g1_3⟩:=f1 3 3 3 1 kA kA;obtain ⟨n4,e4,_,w4⟩:=jI ZM (show DataW.trod enc Tryz.prog W 0 (fun _=>true) true n1_ 3 [c4]=some _ from g1_3);obtain ⟨_,g1_4⟩:=f1 4 3 4 1 kA kA;obtain ⟨n5,e5,_,w5⟩:=jI ZM (show DataW.trod enc Tryz.prog W 0 (fun _=>true) true n1_ 3 [c5]=some _ from g1_4);obtain ⟨_,g1_5⟩:=f1 5 3 5 1 kA kA;obtain ⟨n6,e6,_,w6⟩:=jI ZM (show DataW.trod enc Tryz.prog W 0 (fun _=>true) true n1_ 3 [c6]=some _ from g1_5);obtain ⟨_,g1_6⟩:=f1 6 3 6 1 kA kA;obtain ⟨n7,e7,_,w7⟩:=jI ZM (show DataW.trod enc Tryz.prog W 0 (fun _=>true) true n1_ 3 [c7]=some _ from g1_6);obtain ⟨_,g1_7⟩:=f1 7 3 7 1 kA kA;obtain ⟨n8,e8,_,w8⟩:=jI ZM (show DataW.trod enc Tryz.prog W 0 (fun _=>true) true n1_ 3 [c8]=some _ from g1_7);obtain ⟨_,g1_8⟩:=f1 8 3 8 1 kA kA;obtain ⟨n9,e9,_,w9⟩:=jI ZM (show DataW.trod enc Tryz.prog W 0 (fun _=>true) true n1_ 3 [c9]=some _ from g1_8);obtain ⟨_,g1_9⟩:=f1 9 3 9 1 kA kA;obtain ⟨n10,e10,_,w10⟩:=jI ZM (show DataW.trod enc Tryz.prog W 0 (fun _=>true) true n1_ 3 [c10]=some _ from g1_9);obtain ⟨_,g1_10⟩:=f1 10 26 10 2 kA kA;obtain ⟨_,n2_,f2⟩:=VS (C:=2) XY kA (show DataW.trod enc Tryz.prog W 0 (fun _=>true) true n1_ 26 [c11,c12]=some _ from g1_10);obtain ⟨_,g2_0⟩:=f2 0 3 0 1 kA kA;obtain ⟨n11,e11,_,w11⟩:=jI ZM (show DataW.trod enc Tryz.prog W 0 (fun _=>true) true n2_ 3 [c11]=some _ from g2_0);obtain ⟨_,g2_1⟩:=f2 1 3 1 1 kA kA;obtain ⟨n12,e12,_,w12⟩:=jI ZM (show DataW.trod enc Tryz.prog W 0 (fun _=>true) true n2_ 3 [c12]=some _ from g2_1);obtain ⟨_,g1_11⟩:=f1 11 26 12 2 kA kA;obtain ⟨_,n3_,f3⟩:=VS (C:=2) XY kA (show DataW.trod enc Tryz.prog W 0 (fun _=>true) true n1_ 26 [c13,c14]=some _ from g1_11);obtain ⟨_,g3_0⟩:=f3 0 3 0 1 kA kA;obtain ⟨n13,e13,_,w13⟩:=jI ZM (show DataW.trod enc Tryz.prog W 0 (fun _=>true) true n3_ 3 [c13]=some _ from g3_0);obtain ⟨_,g3_1⟩:=f3 1 3 1 1 kA kA;obtain ⟨n14,e14,_,w14⟩:=jI ZM (show DataW.trod enc Tryz.prog W 0 (fun _=>true) true n3_ 3 [c14]=some _ from g3_1);cases e0;cases e1;cases e2;cases e3;cases e4;cases e5;cases e6;cases e7;cases e8;cases e9;cases e10;cases e11;cases e12;cases e13;cases e14;exact ⟨⟨n0,⟨n1,n2,n3,n4,n5,n6,n7,n8,n9,n10,n11,n12,n13,n14⟩⟩,trivial,U⟩
theorem zEb (fuel:Nat)(cs:List Value)(x:DataW H×List MemPlace)(h:DataW.trod enc Tryz.prog W 0 (fun _=>true) true fuel 72 cs=some x):∃ y:Wt,(fun w=>∃ rs,Sl (zbR W) 15 Wq w.a w.n w.c rs) y/\zo7 y=cs:=by
 obtain ⟨hl,n0_,f0⟩:=VS (C:=3) zxz kA h
 match cs,hl with
 | [c0,c1,c2],_=>
  obtain ⟨_,g0_0⟩:=f0 0 3 0 1 kA kA;obtain ⟨n0,e0,_,w0⟩:=jI ZM (show DataW.trod enc Tryz.prog W 0 (fun _=>true) true n0_ 3 [c0]=some _ from g0_0);obtain ⟨_,g0_1⟩:=f0 1 3 1 1 kA kA;obtain ⟨n1,e1,_,w1⟩:=jI ZM (show DataW.trod enc Tryz.prog W 0 (fun _=>true) true n0_ 3 [c1]=some _ from g0_1);obtain ⟨_,g0_2⟩:=f0 2 70 2 1 kA kA;obtain ⟨a2,m2,q2,n2,e2,s2,o2,_⟩:=ziM (t:=70) (e:=69) Wq (fun _:Rd=>True) zuF kA kE ze7 (fun fuel cs x h=>zFn fuel cs x h) (show DataW.trod enc Tryz.prog W 0 (fun _=>true) true n0_ 70 [c2]=some _ from g0_2);cases e0;cases e1;cases e2;exact ⟨⟨n0,n1,a2,m2,q2⟩,⟨n2,s2⟩,U⟩
theorem zFK {I:Qt}:∀ (ws:List Wt),(∀ w∈ws,∃ rs,Sl I 15 Wq w.a w.n w.c rs)->∃ xs:List Wr,ws.length=xs.length/\∀ (k:Nat) (w:Wt) (x:Wr),ws[k]? =some w->xs[k]? =some x->w.no=x.no/\w.yr=x.yr/\Sl I 15 Wq w.a w.n w.c x.rs
 | [],_=>⟨[],U,fun k w x h=>by simp at h⟩
 | y::ws,H=>by
  obtain ⟨xs,hl,hv⟩:=zFK ws fun w hw=>H w (jq _ hw);obtain ⟨rs,h0⟩:=H y (jk ..);refine ⟨⟨y.no,y.yr,rs⟩::xs,by simp [hl],fun k w x a b=>?_⟩
  cases k with
  | zero=>cases a;cases b;exact ⟨U,U,h0⟩
  | succ k=>exact hv k w x a b
set_option maxRecDepth 100000 in
theorem zxO        (hv:Value.okWide Tryz.prog W .any base 22 v) (h:DataW.Trod enc Tryz.prog W 0 (fun _=>true) true 22 v d p):
  ∃ av n c xs,v= .slice av n c/\SlW (zbR W) av n c xs/\n<=9223372036854775807:=by
 obtain ⟨av,n,c,ws,e,hS,hok,hm⟩:=zmQ (e:=72) zo7 (fun w=>∃ rs,Sl (zbR W) 15 Wq w.a w.n w.c rs) zwd kA kE zjp (fun fuel cs x h=>zEb fuel cs x h) hv h;obtain ⟨xs,hl,hx⟩:=zFK ws hok;exact ⟨av,n,c,xs,e,⟨ws,hS,hl,hx⟩,jT hS.cap hm⟩
end
end Go.Proofs.YtmbjmjbjdgjonaaGreatDoor
namespace Go.Proofs.YtmbjmjbjdgjonaaGreatDoor.R
section
open Go Go.Kn Go.Proofs
open Go.ChangeShapes Go.WideShapes Go.ChangeAt Go.RowKit
set_option maxRecDepth 100000
theorem XY:Tryz.prog.underlying 26=some (.struct (Tryz.prog.fieldsOf 26)):=kA
theorem zgu:Tryz.prog.underlying 28=some (.struct (Tryz.prog.fieldsOf 28)):=kA
theorem zl6:Tryz.prog.underlying 30=some (.struct (Tryz.prog.fieldsOf 30)):=kA
theorem ound_23:Tryz.prog.underlying 23=some (.int .u16):=kA
theorem zB1 {H:Type}{enc:TypeId×Value->H}{W:World}(fuel:Nat)(cs:List Value)(x:DataW H×List MemPlace)(h:DataW.trod enc Tryz.prog W 0 (fun _=>true) true fuel 30 cs=some x):∃ y:Ed,(fun _=>True) y/\X6 y=cs:=by
 obtain ⟨hl,n0_,f0⟩:=VS (C:=22) zl6 kA h
 match cs,hl with
 | [c0,c1,c2,c3,c4,c5,c6,c7,c8,c9,c10,c11,c12,c13,c14,c15,c16,c17,c18,c19,c20,c21],_=>
  obtain ⟨_,g0_0⟩:=f0 0 3 0 1 kA kA;obtain ⟨n0,e0,_,w0⟩:=jI ZM (show DataW.trod enc Tryz.prog W 0 (fun _=>true) true n0_ 3 [c0]=some _ from g0_0);obtain ⟨_,g0_1⟩:=f0 1 3 1 1 kA kA;obtain ⟨n1,e1,_,w1⟩:=jI ZM (show DataW.trod enc Tryz.prog W 0 (fun _=>true) true n0_ 3 [c1]=some _ from g0_1);obtain ⟨_,g0_2⟩:=f0 2 3 2 1 kA kA;obtain ⟨n2,e2,_,w2⟩:=jI ZM (show DataW.trod enc Tryz.prog W 0 (fun _=>true) true n0_ 3 [c2]=some _ from g0_2);obtain ⟨_,g0_3⟩:=f0 3 3 3 1 kA kA;obtain ⟨n3,e3,_,w3⟩:=jI ZM (show DataW.trod enc Tryz.prog W 0 (fun _=>true) true n0_ 3 [c3]=some _ from g0_3);obtain ⟨_,g0_4⟩:=f0 4 3 4 1 kA kA;obtain ⟨n4,e4,_,w4⟩:=jI ZM (show DataW.trod enc Tryz.prog W 0 (fun _=>true) true n0_ 3 [c4]=some _ from g0_4);obtain ⟨_,g0_5⟩:=f0 5 3 5 1 kA kA;obtain ⟨n5,e5,_,w5⟩:=jI ZM (show DataW.trod enc Tryz.prog W 0 (fun _=>true) true n0_ 3 [c5]=some _ from g0_5);obtain ⟨_,g0_6⟩:=f0 6 26 6 2 kA kA;obtain ⟨_,n1_,f1⟩:=VS (C:=2) XY kA (show DataW.trod enc Tryz.prog W 0 (fun _=>true) true n0_ 26 [c6,c7]=some _ from g0_6);obtain ⟨_,g1_0⟩:=f1 0 3 0 1 kA kA;obtain ⟨n6,e6,_,w6⟩:=jI ZM (show DataW.trod enc Tryz.prog W 0 (fun _=>true) true n1_ 3 [c6]=some _ from g1_0);obtain ⟨_,g1_1⟩:=f1 1 3 1 1 kA kA;obtain ⟨n7,e7,_,w7⟩:=jI ZM (show DataW.trod enc Tryz.prog W 0 (fun _=>true) true n1_ 3 [c7]=some _ from g1_1);obtain ⟨_,g0_7⟩:=f0 7 28 8 14 kA kA;obtain ⟨_,n2_,f2⟩:=VS (C:=14) zgu kA (show DataW.trod enc Tryz.prog W 0 (fun _=>true) true n0_ 28 [c8,c9,c10,c11,c12,c13,c14,c15,c16,c17,c18,c19,c20,c21]=some _ from g0_7);obtain ⟨_,g2_0⟩:=f2 0 3 0 1 kA kA;obtain ⟨n8,e8,_,w8⟩:=jI ZM (show DataW.trod enc Tryz.prog W 0 (fun _=>true) true n2_ 3 [c8]=some _ from g2_0);obtain ⟨_,g2_1⟩:=f2 1 3 1 1 kA kA;obtain ⟨n9,e9,_,w9⟩:=jI ZM (show DataW.trod enc Tryz.prog W 0 (fun _=>true) true n2_ 3 [c9]=some _ from g2_1);obtain ⟨_,g2_2⟩:=f2 2 3 2 1 kA kA;obtain ⟨n10,e10,_,w10⟩:=jI ZM (show DataW.trod enc Tryz.prog W 0 (fun _=>true) true n2_ 3 [c10]=some _ from g2_2);obtain ⟨_,g2_3⟩:=f2 3 3 3 1 kA kA;obtain ⟨n11,e11,_,w11⟩:=jI ZM (show DataW.trod enc Tryz.prog W 0 (fun _=>true) true n2_ 3 [c11]=some _ from g2_3);obtain ⟨_,g2_4⟩:=f2 4 3 4 1 kA kA;obtain ⟨n12,e12,_,w12⟩:=jI ZM (show DataW.trod enc Tryz.prog W 0 (fun _=>true) true n2_ 3 [c12]=some _ from g2_4);obtain ⟨_,g2_5⟩:=f2 5 3 5 1 kA kA;obtain ⟨n13,e13,_,w13⟩:=jI ZM (show DataW.trod enc Tryz.prog W 0 (fun _=>true) true n2_ 3 [c13]=some _ from g2_5);obtain ⟨_,g2_6⟩:=f2 6 3 6 1 kA kA;obtain ⟨n14,e14,_,w14⟩:=jI ZM (show DataW.trod enc Tryz.prog W 0 (fun _=>true) true n2_ 3 [c14]=some _ from g2_6);obtain ⟨_,g2_7⟩:=f2 7 3 7 1 kA kA;obtain ⟨n15,e15,_,w15⟩:=jI ZM (show DataW.trod enc Tryz.prog W 0 (fun _=>true) true n2_ 3 [c15]=some _ from g2_7);obtain ⟨_,g2_8⟩:=f2 8 3 8 1 kA kA;obtain ⟨n16,e16,_,w16⟩:=jI ZM (show DataW.trod enc Tryz.prog W 0 (fun _=>true) true n2_ 3 [c16]=some _ from g2_8);obtain ⟨_,g2_9⟩:=f2 9 3 9 1 kA kA;obtain ⟨n17,e17,_,w17⟩:=jI ZM (show DataW.trod enc Tryz.prog W 0 (fun _=>true) true n2_ 3 [c17]=some _ from g2_9);obtain ⟨_,g2_10⟩:=f2 10 26 10 2 kA kA;obtain ⟨_,n3_,f3⟩:=VS (C:=2) XY kA (show DataW.trod enc Tryz.prog W 0 (fun _=>true) true n2_ 26 [c18,c19]=some _ from g2_10);obtain ⟨_,g3_0⟩:=f3 0 3 0 1 kA kA;obtain ⟨n18,e18,_,w18⟩:=jI ZM (show DataW.trod enc Tryz.prog W 0 (fun _=>true) true n3_ 3 [c18]=some _ from g3_0);obtain ⟨_,g3_1⟩:=f3 1 3 1 1 kA kA;obtain ⟨n19,e19,_,w19⟩:=jI ZM (show DataW.trod enc Tryz.prog W 0 (fun _=>true) true n3_ 3 [c19]=some _ from g3_1);obtain ⟨_,g2_11⟩:=f2 11 26 12 2 kA kA;obtain ⟨_,n4_,f4⟩:=VS (C:=2) XY kA (show DataW.trod enc Tryz.prog W 0 (fun _=>true) true n2_ 26 [c20,c21]=some _ from g2_11);obtain ⟨_,g4_0⟩:=f4 0 3 0 1 kA kA;obtain ⟨n20,e20,_,w20⟩:=jI ZM (show DataW.trod enc Tryz.prog W 0 (fun _=>true) true n4_ 3 [c20]=some _ from g4_0);obtain ⟨_,g4_1⟩:=f4 1 3 1 1 kA kA;obtain ⟨n21,e21,_,w21⟩:=jI ZM (show DataW.trod enc Tryz.prog W 0 (fun _=>true) true n4_ 3 [c21]=some _ from g4_1);cases e0;cases e1;cases e2;cases e3;cases e4;cases e5;cases e6;cases e7;cases e8;cases e9;cases e10;cases e11;cases e12;cases e13;cases e14;cases e15;cases e16;cases e17;cases e18;cases e19;cases e20;cases e21;exact ⟨⟨n0,n1,n2,n3,n4,n5,n6,n7,⟨n8,n9,n10,n11,n12,n13,n14,n15,n16,n17,n18,n19,n20,n21⟩⟩,trivial,U⟩
theorem open_edt {H:Type}{enc:TypeId×Value->H}{W:World}{base:Nat}{v:Value}{d:DataW H}{p:List MemPlace}(hv:Value.okWide Tryz.prog W .any base 30 v)(h:DataW.Trod enc Tryz.prog W 0 (fun _=>true) true 30 v d p):∃ y:Ed,v=Y1 y/\(fun _=>True) y:=by obtain ⟨cs,rfl,_⟩:=okWide_struct zl6 hv;obtain ⟨fuel,hf⟩:=h;obtain ⟨l⟩:=cs;obtain ⟨y,hy,e⟩:=zB1 fuel l _ hf;exact ⟨y,by rw [<-e];rfl,hy⟩
theorem wf_u16 {n:Int}(h:(Lit.int .u16 n).wf=true):0<=n/\n<=65535:=by simp only [Lit.wf,jj,jQ] at h;exact h
end
end Go.Proofs.YtmbjmjbjdgjonaaGreatDoor.R
namespace Go.Proofs.YtmbjmjbjdgjonaaGreatDoor
section
open Go Go.Kn Go.Proofs
open Go.ChangeShapes Go.WideShapes Go.ChangeAt Go.RowKit
theorem own:ownKnob Tryz.prog.godebug=none:=kA
theorem zvy:laidOutB Tryz.prog=true:=kA
set_option maxRecDepth 100000 in
theorem zag (os:Os) (started:os.Started) (H:Type) (enc:TypeId×Value->H):
  ReturnsInHanded {} Tryz.checked os 3 .any (fun w args=>(Rows.topOriginsSpec.pre enc Tryz.prog Tryz.f3 [] false w args/\laidMetH Tryz.prog zlH w)/\sizedMet enc Tryz.prog Tryz.f3 (OpenSpec.ofChange Rows.topOriginsSpec) false w args)
   (Rows.topOriginsSpec.post enc Tryz.prog Tryz.f3 false true false false):=by
 refine returnsInHanded_of_change_and (C:=Tryz.checked) (X:=fun w _=>laidMetH Tryz.prog zlH w) (fun _ _ _ hh h=>h.of_heap hh) own started kA Tryz.func3
  (ChangeSpec.witness_shaped (enc:=enc) (C:=Tryz.checked) (os:=os) (X:=fun w _=>laidMetH Tryz.prog zlH w) false (World.doorLaid Tryz.prog 400 os) #[.slice none 0 0,.int .u16 0,.slice none 0 0,.agg #[.int .i64 0,.int .i64 0,.int .i64 0,.int .i64 0,.int .i64 0,.int .i64 0,.int .i64 0,.int .i64 0,.int .i64 0,.int .i64 0,.int .i64 0,.int .i64 0,.int .i64 0,.int .i64 0,.int .i64 0,.int .i64 0,.int .i64 0,.int .i64 0,.int .i64 0,.int .i64 0,.int .i64 0,.int .i64 0],.int .u8 0] 8 U (World.shaped_of_RefB kA kA) kA kA kA (zqD os _)) ?_
 intro W base args ds gs before hval0 hW _ _ hL _;have hval:∀ (j:Nat) t v,Tryz.f3.params[j]? =some t->args[j]? =some v->Value.okWide Tryz.prog W .any base t v:=hval0;have hW':=hW;obtain ⟨p,q,hA0,hV,rfl,hfz,hnd⟩:=hW;have hA:DataW.TrodAll enc Tryz.prog W 0 (fun _=>true) true Tryz.f3.params.toList args.toList ds p:=hA0;rw [Tryz.params3] at hA hval;obtain ⟨v0,vs1,d0,ds1,p0,q1,ea,rfl,rfl,h0,hA⟩:=trodAll_cons hA;obtain ⟨v1,vs2,d1,ds2,p1,q2,rfl,rfl,rfl,h1,hA⟩:=trodAll_cons hA;obtain ⟨v2,vs3,d2,ds3,p2,q3,rfl,rfl,rfl,h2,hA⟩:=trodAll_cons hA;obtain ⟨v3,vs4,d3,ds4,p3,q4,rfl,rfl,rfl,h3,hA⟩:=trodAll_cons hA;obtain ⟨v4,vs5,d4,ds5,p4,q5,rfl,rfl,rfl,h4,hA⟩:=trodAll_cons hA;obtain ⟨rfl,rfl,rfl⟩:=trodAll_nil hA;have ea':args= #[v0,v1,v2,v3,v4]:=(by rw [<-AT (xs:=args),ea]);subst ea';obtain ⟨rfl,rfl⟩:=trodVars_none hV;have hDb:=zC7 hL;obtain ⟨wv,nw,cw,ws,rfl,hW0,hbig⟩:=zxO (hval 0 22 v0 U U) h0;obtain ⟨z,rfl,_,_,wfz⟩:=open_int R.ound_23 (hval 1 23 v1 U U) h1;obtain ⟨dv,n3,c3,es,rfl,hEs⟩:=zrx (hval 2 24 v2 U U) h2;obtain ⟨x0,rfl,_⟩:=R.open_edt (hval 3 30 v3 U U) h3;obtain ⟨fi,rfl,_,_,wffi⟩:=open_int zsL (hval 4 5 v4 U U) h4;have hfi:0<=fi/\fi<=255:=(by have h:=wffi;simp only [Lit.wf,jj,jQ] at h;exact h);refine (Zt.law (R.w_topOrigins hW0 hbig z (R.wf_u16 wfz) hEs x0 fi hfi hDb)).mono fun e W' ⟨he,hB⟩=>?_;subst he;exact ⟨_,U,zoT zvy kA zs4 U U (by rw [Tryz.params3];simp only [jp,List.not_mem_nil,or_false,forall_eq_or_imp,forall_eq];exact ⟨⟨kA,Oi kA⟩,⟨kA,Oi kA⟩,⟨kA,Oi kA⟩,⟨kA,Oi kA⟩,⟨kA,Oi kA⟩⟩) hW' hB⟩
end
end Go.Proofs.YtmbjmjbjdgjonaaGreatDoor
