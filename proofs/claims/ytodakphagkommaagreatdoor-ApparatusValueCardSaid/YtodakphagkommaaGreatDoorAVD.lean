/- apparatusValue_holds, part D of the proof: what its theorems say holds without further conditions. -/
import Derived.Test.YtodakphagkommaaGreatDoorAVC
namespace Go.Proofs.YtodakphagkommaaGreatDoor
section
open Go Go.Kn Go.Proofs
theorem Kb:ElT Tryz.prog 41 79 2 16:=.of (by kernel_rfl)
theorem zfr:Fun Tryz.prog 23:=.of Tryz.func23 (by kernel_rfl) (by kernel_rfl)
theorem zre:SzT Tryz.prog 177 1:=.of (by kernel_rfl)
theorem zqi:SzT Tryz.prog 182 1:=.of (by kernel_rfl)
theorem zuT:Yu Tryz.prog 177 .nilFunc:=.of (by kernel_rfl)
theorem zuc:Yu Tryz.prog 182 (.map none):=.of (by kernel_rfl)
theorem zxo {I:Qu}{ba bb bk bs r:Nat}{av bv:Option Addr}{n c n2 c2:Nat}{xs ys:List Int}(hE:(LsE I 103 ba bb bk bs r av bv n c n2 c2 xs ys))(hn:n≤100000)(hn2:n2≤100000)(i k:Nat)(m1:List ((Int×Int)×Int))(h:i<xs.length∧k<ys.length)(hm:MOK xs ys m1):Yf Tryz.prog 103 ([.int .i64 ((i:Int)+1),.int .i64 ((k:Int)+1)]++[Zc ba,Zc bb,Zc bk,Zc bs]) I [(r,ZQ YD zcM m1)] (fun v I' L'=>∃ A,U5 xs ys (i+1) (k+1) A∧v= .int .i64 A∧I'=I∧∃ m',MOK xs ys m'∧L'=[(r,ZQ YD zcM m')]):=zfe hE hn hn2 (xs.length+ys.length) (i+1) (k+1) m1 (by omega) (by omega) (by omega) hm
theorem zpA {I:Qu}{ba bb bk bs r:Nat}{av bv:Option Addr}{n c n2 c2:Nat}{xs ys:List Int}(hE:(LsE I 103 ba bb bk bs r av bv n c n2 c2 xs ys))(hn:n≤100000)(hn2:n2≤100000)(i k:Nat)(m1:List ((Int×Int)×Int))(h:i<xs.length∧k≤ys.length)(hm:MOK xs ys m1):Yf Tryz.prog 103 ([.int .i64 ((i:Int)+1),.int .i64 ((k:Int))]++[Zc ba,Zc bb,Zc bk,Zc bs]) I [(r,ZQ YD zcM m1)] (fun v I' L'=>∃ A,U5 xs ys (i+1) (k) A∧v= .int .i64 A∧I'=I∧∃ m',MOK xs ys m'∧L'=[(r,ZQ YD zcM m')]):=zfe hE hn hn2 (xs.length+ys.length) (i+1) (k) m1 (by omega) (by omega) (by omega) hm
theorem zva {I:Qu}{ba bb bk bs r:Nat}{av bv:Option Addr}{n c n2 c2:Nat}{xs ys:List Int}(hE:(LsE I 103 ba bb bk bs r av bv n c n2 c2 xs ys))(hn:n≤100000)(hn2:n2≤100000)(_i _k:Nat)(m1:List ((Int×Int)×Int))(_h:True)(hm:MOK xs ys m1):Yf Tryz.prog 103 ([.int .i64 (0),.int .i64 (0)]++[Zc ba,Zc bb,Zc bk,Zc bs]) I [(r,ZQ YD zcM m1)] (fun v I' L'=>∃ A,U5 xs ys (0) (0) A∧v= .int .i64 A∧I'=I∧∃ m',MOK xs ys m'∧L'=[(r,ZQ YD zcM m')]):=zfe hE hn hn2 (xs.length+ys.length) (0) (0) m1 (by omega) (by omega) (by omega) hm
set_option maxHeartbeats 1600000 in
theorem zvk {I:Qu} {av:Option Addr} {n c:Nat} {xs:List Int} (hA:Sl I 1 QQ av n c xs) {bv:Option Addr} {n2 c2:Nat} {ys:List Int} (hB:Sl I 1 QQ bv n2 c2 ys) (hnn:n≤1000000) (hnn2:n2≤1000000):Yf Tryz.prog 60 [.slice av n c,.slice bv n2 c2] I [] (zyA xs ys):=by
 intro g H w hw
 refine qe Tryz.func60 Tryz.ntmps60 hw ?_
 have hIc:=zAh I
 have hlA:=hA.len
 subst hlA
 have hlB:=hB.len
 subst hlB
 refine zR ?_
 refine Q2 rfl rfl rfl (fun b_2=>?_)
 refine Q2 rfl rfl rfl (fun b_3=>?_)
 refine zA ?_
 refine zA ?_
 refine zA (zN (Ql (Ql ?_)))
 refine VJ (fun I1 hI1 hall=>?_)
 have hA:=hA.mono hI1;have hB:=hB.mono hI1;have hIc:=hIc.trans hI1
 have hB2:QT I1 [] b_2 0 (.slice av xs.length c):=.imm (hall _ _ (by repeat (first | exact List.mem_cons_self .. | apply List.mem_cons_of_mem))) rfl
 have hB3:QT I1 [] b_3 0 (.slice bv ys.length c2):=.imm (hall _ _ (by repeat (first | exact List.mem_cons_self .. | apply List.mem_cons_of_mem))) rfl
 refine Qg ?_
 refine zV (Qe rfl QJ (fun hg=>by exact hB2.any)) ?_
 refine zQ Qw ?_
 refine zC ?_
 refine zM ?_
 refine QR 3 rfl rfl rfl ?_
 refine zJ (Qe rfl QJ (fun hg=>by exact hB3.any)) ?_
 refine zJ (Zr rfl Qw) ?_
 refine zJ (QG rfl rfl rfl) ?_
 refine Zo rfl rfl rfl rfl rfl ?_
 refine zN ?_
 refine zI ?_ ?_<;>intro hc25
 ·
  have hlong:xs.length>64∨ys.length>64:=by have h:=hc25;simp at h;omega
  refine zR (zA ?_)
  refine zA ?_
  refine zA (zN (Qt (Qc ?_)))
  first
  | exact KK rfl rfl rfl rfl (fun w hw=>⟨_,_,[],rfl,hIc,hw.drop,rfl,_,none,0,by rw [zed hlong,WE (by rw [zed hlong];decide)];rfl,by rw [WE (by rw [zed hlong];decide)];exact .nil⟩)
 have hlong:¬(xs.length>64∨ys.length>64):=by have h:=hc25;simp at h;omega
 refine Qn (Qa (Ql (zR ?_)))
 refine zV (Qe rfl QJ (fun hg=>by exact hB2.any)) ?_
 refine zV (Qe rfl QJ (fun hg=>by exact hB3.any)) ?_
 refine Qq (ps:=[(0,_),(1,_)]) (m:=[XI ⟨av,xs.length,c⟩,XI ⟨bv,ys.length,c2⟩]) zbl rfl (.cons rfl (.cons rfl (.nil))) rfl (by simp [Zb]) (by decide) (by decide) rfl rfl (fun b_28=>?_)
 refine zQ Zp ?_
 refine zM (Qb ?_)
 refine VJ (fun I2 hI2 hall=>?_)
 have hA:=hA.mono hI2;have hB:=hB.mono hI2;have hB2:=hB2.mono hI2;have hB3:=hB3.mono hI2;have hIc:=hIc.trans hI2
 have hAB:Sl I2 1 XI (some ⟨b_28,0,none⟩) 2 2 ([⟨av,xs.length,c⟩,⟨bv,ys.length,c2⟩]:List Hd):=Sl.lit _ rfl Zb (show _=some (Obj.cells (([⟨av,xs.length,c⟩,⟨bv,ys.length,c2⟩]:List Hd).flatMap XI).toArray 23 (0,0)) from (hall _ _ (by repeat (first | exact List.mem_cons_self .. | apply List.mem_cons_of_mem))))
 refine Qa (Qm ?_)
 refine zU [(2,_),(3,_),(28,_),(29,_)] (fun T L0 mz E I' loc'=>∃ (z:Nat),mz=2-z∧E=(5,.slice none 0 0)::(30,.int .i64 z)::T∧I2=I'∧[]=loc'∧z≤2∧([xs,ys].take z).any (fun l=>l.any zcR)=false) ?_ (h:=⟨0,rfl,rfl,rfl,rfl,Nat.zero_le _,rfl⟩)
 rintro mz E I' loc' ⟨z,rfl,rfl,rfl,rfl,hz,hno⟩
 refine zR (zC (zN (Ql ?_)))
 refine zI ?_ ?_<;>intro hc31
 ·
  have hlt_z:z<2:=by have h:=hc31;simp at h;omega
  obtain ⟨hd,zs,hhd,hzs,hZ,hz2⟩:=ziY hA hB hlt_z
  refine Qn (Qa (Ql (Qm (zR ?_))))
  refine zV (zX Zp hAB) ?_
  refine zV (Qe rfl QJ (fun hg=>by exact zAa hAB hhd rfl)) ?_
  refine zA ?_
  refine zN (zR ?_)
  refine zM ?_
  refine zQ Qw ?_
  refine zM (zN (Qm ?_))
  refine zU [(2,_),(3,_),(28,_),(29,_),(30,_),(34,_),(35,_)] (fun T L0 mz E I' loc'=>∃ (j:Nat),mz=hd.n-j∧E=(5,.slice none 0 0)::(36,.int .i64 j)::T∧I2=I'∧[]=loc'∧j≤hd.n∧(zs.take j).any zcR=false) ?_ (h:=⟨0,rfl,rfl,rfl,rfl,Nat.zero_le _,rfl⟩)
  rintro mz E I' loc' ⟨j,rfl,rfl,rfl,rfl,hj,hzb⟩
  refine zR (zC (zN (Ql ?_)))
  refine zI ?_ ?_<;>intro hc37
  ·
   have hlt_j:j<hd.n:=by have h:=hc37;simp at h;omega
   obtain ⟨cc,hz⟩:=hZ.at hlt_j
   refine Qn (Qa (Ql (Qm (zR ?_))))
   refine zV (zX Qw hZ) ?_
   refine zV (Qe rfl Qr (fun hg=>by exact zAa hZ hz rfl)) ?_
   refine zA ?_
   refine zN (zR ?_)
   refine zM ?_
   refine qc (vs:=[_]) rfl zfr (zga _ _) ?_
   refine zM ?_
   refine zE ?_
   refine zE ?_
   refine Qs Wv rfl rfl (fun b_11=>?_)
   refine zh Ye ?_
   refine zA ?_
   refine zN (zR ?_)
   refine zM ?_
   refine zC ?_
   refine zM ?_
   refine QH 2 rfl rfl rfl ?_
   refine zK (Qi rfl) ?_
   refine zK (QG rfl rfl rfl) ?_
   refine QP rfl rfl rfl rfl rfl ?_
   refine zN ?_
   refine zI ?_ ?_<;>intro hc50
   ·
    have hbc:zcR cc=true:=hc50
    have hyes:(xs.any zcR||ys.any zcR)=true:=by have h:=Kt (p:=fun l:List Int=>l.any zcR) hzs (Kt hz hbc);simpa using h
    refine zR (zA ?_)
    refine zA ?_
    refine zA (zN (Qt (Qp (Qc (Qc (Qp (Qp ?_)))))))
    refine Qc (Qc (Qp (Qc ?_)))
    first
    | exact KK rfl rfl rfl rfl (fun w hw=>⟨_,_,[],rfl,hIc,hw.drop,rfl,_,none,0,by rw [zfb hlong hyes,WE (by rw [zfb hlong hyes];decide)];rfl,by rw [WE (by rw [zfb hlong hyes];decide)];exact .nil⟩)
   have hbc:zcR cc=false:=hc50
   refine Qn (Qf (Qa (Qg (zB ?_))))
   refine zM (Qb ?_)
   exact zm (h:=⟨hd.n-(j+1),by omega,j+1,rfl,rfl,rfl,rfl,by omega,Vb hz hzb hbc⟩)
  have hge_j:hd.n≤j:=by have h:=hc37;simp at h;omega
  rw [ZH hZ.len hge_j] at hzb
  refine QI (Qh (Qh (Qk (Qf (Qa (Qg (zB ?_)))))))
  refine zM (Qb ?_)
  exact zm (h:=⟨2-(z+1),by omega,z+1,rfl,rfl,rfl,rfl,by omega,Vb hzs hno hzb⟩)
 have hge_z:2≤z:=by have h:=hc31;simp at h;omega
 rw [List.take_of_length_le (by simpa using hge_z)] at hno
 have hno2:(xs.any zcR||ys.any zcR)=false:=by simpa using hno
 refine QI (Qh (Qh (Qk (Qa (zR ?_)))))
 refine ZL rfl rfl (fun r_53=>?_)
 refine Qs zuc rfl rfl (fun b_13=>?_)
 refine zS zqi ?_
 refine zN (zR ?_)
 refine Qs zuT rfl rfl (fun b_14=>?_)
 refine zN (zR ?_)
 refine zV (Zd (us:=[]) (vs:=[_,_,_,_]) rfl rfl) ?_
 refine zS zre ?_
 refine zN (Ql (Ql ?_))
 refine Zg (b:=b_14) (by repeat (first | exact Q8.here | apply Q8.there)) (fun I5 hI5 hb5=>?_)
 have hA:=hA.mono hI5;have hB:=hB.mono hI5;have hB2:=hB2.mono hI5;have hB3:=hB3.mono hI5;have hIc:=hIc.trans hI5
 have hC14:QT I5 [] b_14 0 (.func (.func 103) #[] #[Zc b_2,Zc b_3,Zc b_13,Zc b_14]):=.imm hb5 rfl
 refine Zg (b:=b_13) (by repeat (first | exact Q8.here | apply Q8.there)) (fun I6 hI6 hb6=>?_)
 have hA:=hA.mono hI6;have hB:=hB.mono hI6;have hB2:=hB2.mono hI6;have hB3:=hB3.mono hI6;have hC14:=hC14.mono hI6;have hIc:=hIc.trans hI6
 have hC13:QT I6 [] b_13 0 (.map (some r_53)):=.imm hb6 rfl
 have hLE:LsE I6 103 b_2 b_3 b_13 b_14 r_53 av bv xs.length c ys.length c2 xs ys:=⟨hB2,hB3,hC13,hC14,hA,hB⟩
 refine Qg (zA ?_)
 refine zA (zN (Qm ?_))
 refine zU [(2,_),(3,_),(14,_)] (fun T L0 mz E I' loc'=>∃ (i k:Nat) (m:List ((Int×Int)×Int)) (pre:List (Int×Int)) (v5:Value) (q:Nat) (L:Go.Kn.Loc),mz=xs.length-i+(ys.length-k)∧E=(5,v5)::(15,.int .i64 i)::(16,.int .i64 k)::T∧HLe I6 I'∧L++[(r_53,ZQ YD zcM m)]=loc'∧i≤xs.length∧k≤ys.length∧MOK xs ys m∧PaQ xs ys pre i k∧OwnS 79 2 v5 q (pre.flatMap V8) L∧q≤i+k) ?_ (h:=⟨0,0,[],[],_,0,[],rfl,rfl,zAh _,rfl,Nat.zero_le _,Nat.zero_le _,.nil,.start,OwnS.nil,Nat.le_refl _⟩)
 rintro mz E J7 loc' ⟨i,k,m,pre,v5,q,L,rfl,rfl,hJ,rfl,hi,hk,hm,hpq,hO,hq⟩
 have hB2:=hB2.mono hJ;have hB3:=hB3.mono hJ;have hLE:=hLE.mono hJ;have hIc:=hIc.trans hJ
 have hB4:=hJ
 refine Ql (zR (zM ?_))
 refine zV (Qe rfl QJ (fun hg=>by exact hB2.any)) ?_
 refine zQ Qw ?_
 refine zC ?_
 refine zM ?_
 refine QR 4 rfl rfl rfl ?_
 refine zJ (Qi rfl) ?_
 refine zJ (Qe rfl QJ (fun hg=>by exact hB3.any)) ?_
 refine zJ (Zr rfl Qw) ?_
 refine zJ (QG rfl rfl rfl) ?_
 refine Zo rfl rfl rfl rfl rfl ?_
 refine zN ?_
 refine zI ?_ ?_<;>intro hc64
 ·
  have hor:i<xs.length∨k<ys.length:=by have h:=hc64;simp at h;omega
  refine Qn (Qa (Qm (zR ?_)))
  refine zV (Qe rfl K2 (fun hg=>by exact hLE.se.any)) ?_
  refine zM ?_
  refine zM ?_
  refine Qz (cap:=[Zc b_2,Zc b_3,Zc b_13,Zc b_14]) (vs:=[_,_]) rfl rfl K7 (by repeat (first | exact .cons .here .nil | exact QD | exact Qx | apply QC | apply QB)) (zfe hLE (by omega) (by omega) (xs.length+ys.length) i k m (by omega) hi hk hm) rfl rfl ?_
  rintro vv8 I8 L8 hI8 ⟨VV,hLV,rfl,rfl,m1,hm1,rfl⟩
  have hB2:=hB2.mono hI8;have hB3:=hB3.mono hI8;have hLE:=hLE.mono hI8;have hLE:=hLE.mono hI8;have hB4:=hB4.trans hI8
  have hbV:=hLV.inn
  refine zA (zN (Qm (Ql ?_)))
  obtain ⟨hd1,hd2,h5,h6⟩ | ⟨hd1,hd2,h5,h6⟩ | ⟨hd1,hd2,h5,h6⟩:=zlS hor
  ·
   obtain ⟨x,hx⟩:=hLE.hA.at h5
   obtain ⟨y,hy⟩:=hLE.hB.at h6
   have hbn:=zeY x y
   have hD:=zAh I8
   refine Jl ?_
   refine Z0 I8 [] mixed ?_
   refine zT 0 rfl (Qi rfl) hD ?_
   refine zT 1 rfl (Qe rfl QJ (fun hg=>by exact hB2.any)) hD ?_
   refine zT 2 rfl (Zr rfl Qw) hD ?_
   refine zT 3 rfl (QG rfl rfl rfl) hD ?_
   rw [hd1]
   refine zT 4 rfl (Qi rfl) hD ?_
   refine zw 5 81 rfl (Qi rfl) hD ?_
   refine zw 6 81 rfl (Qe rfl QJ (fun hg=>by exact hB3.any)) hD ?_
   refine zw 7 81 rfl (Zr rfl Qw) hD ?_
   refine zw 8 81 rfl (QG rfl rfl rfl) hD ?_
   rw [hd2]
   refine zT 9 rfl (ZN rfl rfl rfl) hD ?_
   refine zT 10 rfl (Qi rfl) hD ?_
   refine zw 11 87 rfl (Qi rfl) hD ?_
   refine zw 12 87 rfl (Qe rfl QJ (fun hg=>by exact hB2.any)) hD ?_
   refine zw 13 87 rfl (Qi rfl) hD ?_
   refine zw 14 87 rfl (QE rfl rfl Qw hLE.hA (fun hg=>by omega)) hD ?_
   refine zw 15 87 rfl (Qe rfl Qr (fun hg=>by exact zAa hLE.hA hx rfl)) hD ?_
   refine zw 16 87 rfl (Qe rfl QJ (fun hg=>by exact hB3.any)) hD ?_
   refine zw 17 87 rfl (Qi rfl) hD ?_
   refine zw 18 87 rfl (QE rfl rfl Qw hLE.hB (fun hg=>by omega)) hD ?_
   refine zw 19 87 rfl (Qe rfl Qr (fun hg=>by exact zAa hLE.hB hy rfl)) hD ?_
   refine zw 21 87 rfl (Qe rfl K2 (fun hg=>by exact hLE.se.any)) hD ?_
   refine zw 22 87 rfl (Qi rfl) hD ?_
   refine zw 23 87 rfl (ZR rfl rfl rfl (fun hg=>by omega)) hD ?_
   refine zw 24 87 rfl (Qi rfl) hD ?_
   refine zw 25 87 rfl (ZR rfl rfl rfl (fun hg=>by omega)) hD ?_
   refine qd 20 rfl ?_
   refine QN (dj:=87) rfl rfl rfl ?_
   refine qc (vs:=[_,_]) rfl zkd (zfs _ _ _) ?_
   refine Qb ?_
   refine zD hD ?_
   refine qd 26 rfl ?_
   refine QN (dj:=87) rfl rfl rfl ?_
   refine Qz (cap:=[Zc b_2,Zc b_3,Zc b_13,Zc b_14]) (vs:=[_,_]) rfl rfl K7 (by repeat (first | exact .cons .here .nil | exact QD | exact Qx | apply QC | apply QB)) (zxo hLE (by omega) (by omega) i k m1 (by omega) hm1) rfl rfl ?_
   rintro vv9 I9 L9 hI9 ⟨VA,hLA,rfl,rfl,m2,hm2,rfl⟩
   have hB2:=hB2.mono hI9;have hLE:=hLE.mono hI9;have hLE:=hLE.mono hI9;have hB4:=hB4.trans hI9;have hD:=hD.trans hI9
   have hbA:=hLA.inn
   refine Qb ?_
   refine zD hD ?_
   refine zw 27 87 rfl (ZR rfl rfl rfl (fun hg=>by omega)) hD ?_
   refine zw 28 87 rfl (QG rfl rfl rfl) hD ?_
   refine zT 29 rfl (ZN rfl rfl rfl) hD ?_
   refine zT 30 rfl (ZF rfl) hD ?_
   refine QF (by kernel_rfl) ?_
   refine QO ?_
   refine Qa ?_
   refine zI ?_ ?_<;>intro hc76
   ·
    have hbo:=zgn (t:=true) hx hy hLV hLA (by simpa using hc76)
    refine zR (zM ?_)
    refine zB ?_
    refine zM ?_
    refine zB ?_
    refine zA ?_
    refine zA (zN (Qg ?_))
    refine zM ?_
    refine zM ?_
    refine zM ?_
    refine zV (Zz (ps:=[(0,_),(1,_)]) [_,_] Y0 Ub rfl rfl) ?_
    refine Qq (ps:=[(0,_)]) (m:=[V8 ((i:Int)+1,(k:Int)+1)]) Kb rfl (.cons rfl (.nil)) rfl (by simp [Ky]) (by decide) (by decide) rfl rfl (fun b_115=>?_)
    refine QY (v:=_) (ys:=[((i:Int)+1,(k:Int)+1)].flatMap V8) (L:=L) rfl rfl Kb hO (by repeat (first | exact .cons .here .nil | exact QD | exact Qx | apply QC | apply QB)) ⟨rfl,fun _=>rfl,by repeat (first | exact zAf | apply zAe | apply zAg)⟩ (zhf [((i:Int)+1,(k:Int)+1)]) (by omega) rfl rfl ?_
    intro v9 L9 hO9 _;rw [←List.flatMap_append] at hO9
    refine zA (Qb (Qf (Qf ?_)))
    exact zm (h:=⟨xs.length-(i+1)+(ys.length-(k+1)),by omega,i+1,k+1,_,_,_,_,_,rfl,rfl,hB4,rfl,by omega,by omega,hm2,hpq.both hbo,hO9,by omega⟩)
   have hbo:=zgn (t:=false) hx hy hLV hLA (by simpa using hc76)
   refine zR (zM ?_)
   refine zV (Qe rfl QJ (fun hg=>by exact hB2.any)) ?_
   refine zQ Qw ?_
   refine zC ?_
   rw [hd1]
   refine zM ?_
   refine QN (dj:=122) rfl rfl rfl ?_
   refine zM ?_
   refine QN (dj:=122) rfl rfl rfl ?_
   refine zV (Qe rfl K2 (fun hg=>by exact hLE.se.any)) ?_
   refine QN (dj:=122) rfl rfl rfl ?_
   refine zM ?_
   refine QN (dj:=122) rfl rfl rfl ?_
   refine zB ?_
   refine QN (dj:=122) rfl rfl rfl ?_
   refine zM ?_
   refine QN (dj:=122) rfl rfl rfl ?_
   refine Qz (cap:=[Zc b_2,Zc b_3,Zc b_13,Zc b_14]) (vs:=[_,_]) rfl rfl K7 (by repeat (first | exact .cons .here .nil | exact QD | exact Qx | apply QC | apply QB)) (zpA hLE (by omega) (by omega) i k m2 (by omega) hm2) rfl rfl ?_
   rintro vv10 I10 L10 hI10 ⟨VB,hLB,rfl,rfl,m3,hm3,rfl⟩
   have hB4:=hB4.trans hI10
   have hbB:=hLB.inn
   refine QN (dj:=122) rfl rfl rfl ?_
   refine zB ?_
   refine QN (dj:=122) rfl rfl rfl ?_
   refine zC ?_
   refine zV (ZN rfl rfl rfl) ?_
   refine zA (zN ?_)
   refine zI ?_ ?_<;>intro hc117
   ·
    have hon:=zcb (t:=true) h5 hLV hLB (by simpa using hc117)
    refine zR (zM ?_)
    refine zB ?_
    refine zA (zN (Qg ?_))
    refine zM ?_
    refine zM ?_
    refine zV (Zz (ps:=[(0,_),(1,_)]) [_,_] Y0 Ub rfl rfl) ?_
    refine Qq (ps:=[(0,_)]) (m:=[V8 ((i:Int)+1,(0:Int))]) Kb rfl (.cons rfl (.nil)) rfl (by simp [Ky]) (by decide) (by decide) rfl rfl (fun b_137=>?_)
    refine QY (v:=_) (ys:=[((i:Int)+1,(0:Int))].flatMap V8) (L:=L) rfl rfl Kb hO (by repeat (first | exact .cons .here .nil | exact QD | exact Qx | apply QC | apply QB)) ⟨rfl,fun _=>rfl,by repeat (first | exact zAf | apply zAe | apply zAg)⟩ (zhf [((i:Int)+1,(0:Int))]) (by omega) rfl rfl ?_
    intro v9 L9 hO9 _;rw [←List.flatMap_append] at hO9
    refine zA (Qb (Qf (Qf ?_)))
    exact zm (h:=⟨xs.length-(i+1)+(ys.length-(k)),by omega,i+1,k,_,_,_,_,_,rfl,rfl,hB4,rfl,by omega,by omega,hm3,hpq.one hbo hon,hO9,by omega⟩)
   have hon:=zcb (t:=false) h5 hLV hLB (by simpa using hc117)
   refine zR (zM ?_)
   refine zB ?_
   refine zA (zN (Qg ?_))
   refine zM ?_
   refine zM ?_
   refine zV (Zz (ps:=[(0,_),(1,_)]) [_,_] Y0 Ub rfl rfl) ?_
   refine Qq (ps:=[(0,_)]) (m:=[V8 ((0:Int),(k:Int)+1)]) Kb rfl (.cons rfl (.nil)) rfl (by simp [Ky]) (by decide) (by decide) rfl rfl (fun b_74=>?_)
   refine QY (v:=_) (ys:=[((0:Int),(k:Int)+1)].flatMap V8) (L:=L) rfl rfl Kb hO (by repeat (first | exact .cons .here .nil | exact QD | exact Qx | apply QC | apply QB)) ⟨rfl,fun _=>rfl,by repeat (first | exact zAf | apply zAe | apply zAg)⟩ (zhf [((0:Int),(k:Int)+1)]) (by omega) rfl rfl ?_
   intro v9 L9 hO9 _;rw [←List.flatMap_append] at hO9
   refine zA (Qb (Qf (Qf ?_)))
   exact zm (h:=⟨xs.length-(i)+(ys.length-(k+1)),by omega,i,k+1,_,_,_,_,_,rfl,rfl,hB4,rfl,by omega,by omega,hm3,hpq.two h6 hbo hon,hO9,by omega⟩)
  ·
   have hD:=zAh I8
   refine Jl ?_
   refine Z0 I8 [] mixed ?_
   refine zT 0 rfl (Qi rfl) hD ?_
   refine zT 1 rfl (Qe rfl QJ (fun hg=>by exact hB2.any)) hD ?_
   refine zT 2 rfl (Zr rfl Qw) hD ?_
   refine zT 3 rfl (QG rfl rfl rfl) hD ?_
   rw [hd1]
   refine zT 4 rfl (Qi rfl) hD ?_
   refine zw 5 81 rfl (Qi rfl) hD ?_
   refine zw 6 81 rfl (Qe rfl QJ (fun hg=>by exact hB3.any)) hD ?_
   refine zw 7 81 rfl (Zr rfl Qw) hD ?_
   refine zw 8 81 rfl (QG rfl rfl rfl) hD ?_
   rw [hd2]
   refine zT 9 rfl (ZN rfl rfl rfl) hD ?_
   refine zT 10 rfl (Qi rfl) hD ?_
   refine zW 11 87 hD ?_
   refine zW 12 87 hD ?_
   refine zW 13 87 hD ?_
   refine zW 14 87 hD ?_
   refine zW 15 87 hD ?_
   refine zW 16 87 hD ?_
   refine zW 17 87 hD ?_
   refine zW 18 87 hD ?_
   refine zW 19 87 hD ?_
   refine zW 20 87 hD ?_
   refine zW 21 87 hD ?_
   refine zW 22 87 hD ?_
   refine zW 23 87 hD ?_
   refine zW 24 87 hD ?_
   refine zW 25 87 hD ?_
   refine zW 26 87 hD ?_
   refine zW 27 87 hD ?_
   refine zW 28 87 hD ?_
   refine zT 29 rfl (Y5 rfl rfl rfl) hD ?_
   refine zT 30 rfl (ZF rfl) hD ?_
   refine QF (by kernel_rfl) ?_
   refine QO ?_
   refine Qa ?_
   refine zI ?_ ?_<;>intro hc76
   ·
    cases hc76
   have hbo:=zf7 (a:=xs) (b:=ys) (i:=i) (k:=k) (.inr h6)
   refine zR (zM ?_)
   refine zV (Qe rfl QJ (fun hg=>by exact hB2.any)) ?_
   refine zQ Qw ?_
   refine zC ?_
   rw [hd1]
   refine zM ?_
   refine QN (dj:=122) rfl rfl rfl ?_
   refine zM ?_
   refine QN (dj:=122) rfl rfl rfl ?_
   refine zV (Qe rfl K2 (fun hg=>by exact hLE.se.any)) ?_
   refine QN (dj:=122) rfl rfl rfl ?_
   refine zM ?_
   refine QN (dj:=122) rfl rfl rfl ?_
   refine zB ?_
   refine QN (dj:=122) rfl rfl rfl ?_
   refine zM ?_
   refine QN (dj:=122) rfl rfl rfl ?_
   refine Qz (cap:=[Zc b_2,Zc b_3,Zc b_13,Zc b_14]) (vs:=[_,_]) rfl rfl K7 (by repeat (first | exact .cons .here .nil | exact QD | exact Qx | apply QC | apply QB)) (zpA hLE (by omega) (by omega) i k m1 (by omega) hm1) rfl rfl ?_
   rintro vv11 I11 L11 hI11 ⟨VB,hLB,rfl,rfl,m3,hm3,rfl⟩
   have hB4:=hB4.trans hI11
   have hbB:=hLB.inn
   refine QN (dj:=122) rfl rfl rfl ?_
   refine zB ?_
   refine QN (dj:=122) rfl rfl rfl ?_
   refine zC ?_
   refine zV (ZN rfl rfl rfl) ?_
   refine zA (zN ?_)
   refine zI ?_ ?_<;>intro hc117
   ·
    have hon:=zcb (t:=true) h5 hLV hLB (by simpa using hc117)
    refine zR (zM ?_)
    refine zB ?_
    refine zA (zN (Qg ?_))
    refine zM ?_
    refine zM ?_
    refine zV (Zz (ps:=[(0,_),(1,_)]) [_,_] Y0 Ub rfl rfl) ?_
    refine Qq (ps:=[(0,_)]) (m:=[V8 ((i:Int)+1,(0:Int))]) Kb rfl (.cons rfl (.nil)) rfl (by simp [Ky]) (by decide) (by decide) rfl rfl (fun b_137=>?_)
    refine QY (v:=_) (ys:=[((i:Int)+1,(0:Int))].flatMap V8) (L:=L) rfl rfl Kb hO (by repeat (first | exact .cons .here .nil | exact QD | exact Qx | apply QC | apply QB)) ⟨rfl,fun _=>rfl,by repeat (first | exact zAf | apply zAe | apply zAg)⟩ (zhf [((i:Int)+1,(0:Int))]) (by omega) rfl rfl ?_
    intro v9 L9 hO9 _;rw [←List.flatMap_append] at hO9
    refine zA (Qb (Qf (Qf ?_)))
    exact zm (h:=⟨xs.length-(i+1)+(ys.length-(k)),by omega,i+1,k,_,_,_,_,_,rfl,rfl,hB4,rfl,by omega,by omega,hm3,hpq.one hbo hon,hO9,by omega⟩)
   have hon:=zcb (t:=false) h5 hLV hLB (by simpa using hc117)
   exact absurd (zgE hi hk (.inl h5) hbo hon) (by omega)
  have hD:=zAh I8
  refine Jl ?_
  refine Z0 I8 [] mixed ?_
  refine zT 0 rfl (Qi rfl) hD ?_
  refine zT 1 rfl (Qe rfl QJ (fun hg=>by exact hB2.any)) hD ?_
  refine zT 2 rfl (Zr rfl Qw) hD ?_
  refine zT 3 rfl (QG rfl rfl rfl) hD ?_
  rw [hd1]
  refine zT 4 rfl (Qi rfl) hD ?_
  refine zW 5 81 hD ?_
  refine zW 6 81 hD ?_
  refine zW 7 81 hD ?_
  refine zW 8 81 hD ?_
  refine zT 9 rfl (Y5 rfl rfl rfl) hD ?_
  refine zT 10 rfl (Qi rfl) hD ?_
  refine zW 11 87 hD ?_
  refine zW 12 87 hD ?_
  refine zW 13 87 hD ?_
  refine zW 14 87 hD ?_
  refine zW 15 87 hD ?_
  refine zW 16 87 hD ?_
  refine zW 17 87 hD ?_
  refine zW 18 87 hD ?_
  refine zW 19 87 hD ?_
  refine zW 20 87 hD ?_
  refine zW 21 87 hD ?_
  refine zW 22 87 hD ?_
  refine zW 23 87 hD ?_
  refine zW 24 87 hD ?_
  refine zW 25 87 hD ?_
  refine zW 26 87 hD ?_
  refine zW 27 87 hD ?_
  refine zW 28 87 hD ?_
  refine zT 29 rfl (Y5 rfl rfl rfl) hD ?_
  refine zT 30 rfl (ZF rfl) hD ?_
  refine QF (by kernel_rfl) ?_
  refine QO ?_
  refine Qa ?_
  refine zI ?_ ?_<;>intro hc76
  ·
   cases hc76
  have hbo:=zf7 (a:=xs) (b:=ys) (i:=i) (k:=k) (.inl h5)
  refine zR (zM ?_)
  refine zV (Qe rfl QJ (fun hg=>by exact hB2.any)) ?_
  refine zQ Qw ?_
  refine zC ?_
  rw [hd1]
  refine zM ?_
  refine QW (dj:=122) rfl rfl rfl rfl rfl ?_
  refine QW (dj:=122) rfl rfl rfl rfl rfl ?_
  refine QW (dj:=122) rfl rfl rfl rfl rfl ?_
  refine QW (dj:=122) rfl rfl rfl rfl rfl ?_
  refine QW (dj:=122) rfl rfl rfl rfl rfl ?_
  refine QW (dj:=122) rfl rfl rfl rfl rfl ?_
  refine QW (dj:=122) rfl rfl rfl rfl rfl ?_
  refine QW (dj:=122) rfl rfl rfl rfl rfl ?_
  refine zV (Y5 rfl rfl rfl) ?_
  refine zA (zN ?_)
  refine zI ?_ ?_<;>intro hc117
  ·
   cases hc117
  have hon:=zsQ (a:=xs) (b:=ys) (i:=i) (k:=k) h5
  refine zR (zM ?_)
  refine zB ?_
  refine zA (zN (Qg ?_))
  refine zM ?_
  refine zM ?_
  refine zV (Zz (ps:=[(0,_),(1,_)]) [_,_] Y0 Ub rfl rfl) ?_
  refine Qq (ps:=[(0,_)]) (m:=[V8 ((0:Int),(k:Int)+1)]) Kb rfl (.cons rfl (.nil)) rfl (by simp [Ky]) (by decide) (by decide) rfl rfl (fun b_74=>?_)
  refine QY (v:=_) (ys:=[((0:Int),(k:Int)+1)].flatMap V8) (L:=L) rfl rfl Kb hO (by repeat (first | exact .cons .here .nil | exact QD | exact Qx | apply QC | apply QB)) ⟨rfl,fun _=>rfl,by repeat (first | exact zAf | apply zAe | apply zAg)⟩ (zhf [((0:Int),(k:Int)+1)]) (by omega) rfl rfl ?_
  intro v9 L9 hO9 _;rw [←List.flatMap_append] at hO9
  refine zA (Qb (Qf (Qf ?_)))
  exact zm (h:=⟨xs.length-(i)+(ys.length-(k+1)),by omega,i,k+1,_,_,_,_,_,rfl,rfl,hB4,rfl,by omega,by omega,hm1,hpq.two h6 hbo hon,hO9,by omega⟩)
 have hnor:xs.length≤i∧ys.length≤k:=by have h:=hc64;simp at h;omega
 have hfin:znW xs ys=pre:=hpq.fin hnor.1 hnor.2
 have hE0:=zkg hlong hno2
 have hR0:=(zgi hE0).trans hfin
 refine QI (Qh (Qh (Qk (Qa (zR ?_)))))
 refine zV (Qe rfl K2 (fun hg=>by exact hLE.se.any)) ?_
 refine Qz (cap:=[Zc b_2,Zc b_3,Zc b_13,Zc b_14]) (vs:=[_,_]) rfl rfl K7 (by repeat (first | exact .cons .here .nil | exact QD | exact Qx | apply QC | apply QB)) (zva hLE (by omega) (by omega) i k m trivial hm) rfl rfl ?_
 rintro vv12 I12 L12 hI12 ⟨VZ,hLZ,rfl,rfl,m5,hm5,rfl⟩
 have hIc:=hIc.trans hI12
 refine zM ?_
 refine zA ?_
 refine zA ?_
 refine zA (zN (Qt ?_))
 first
 | exact KK rfl rfl rfl rfl (fun w hw=>by obtain ⟨I9,av9,c9,h1',h2',e9,h4'⟩:=OwnS.freeze (R:=[]) hO Ky (by decide) (by rw [List.append_nil];exact hw.subL (by repeat (first | exact .refl | exact Zj | exact Zj (L:=L) (R:=[]) | refine .drop ?_)));have hq9:=h4'.len;subst hq9;exact ⟨_,I9,[],rfl,hIc.trans h1',h2',rfl,_,av9,c9,by rw [hE0,hR0,e9],by rw [hR0];exact h4'⟩)
end
section
open Go Go.Kn Go.Proofs
def Kl (a:Int):List (Int×Int)→List (Int×Int)
 | []=>[]
 | p::ps=>if p.1>0 then Kl p.1 ps else (a,p.2-1)::Kl a ps
def zg0 (ps:List (Int×Int)):List (Int×Int):=Kl 0 ps
theorem zro {a:Int}{ps:List (Int×Int)}{k:Nat}{p:Int×Int}(hp:ps[k]? =some p)(h:decide (p.1>0)=true):Kl a (ps.drop k)=Kl p.1 (ps.drop (k+1)):=by
 rw [ZO hp]
 show (if p.1>0 then Kl p.1 (ps.drop (k+1)) else (a,p.2-1)::Kl a (ps.drop (k+1)))=_
 rw [if_pos (by simpa using h)]
theorem zpp {a:Int}{ps:List (Int×Int)}{k:Nat}{p:Int×Int}(hp:ps[k]? =some p)(h:decide (p.1>0)=false):Kl a (ps.drop k)=(a,p.2-1)::Kl a (ps.drop (k+1)):=by
 rw [ZO hp]
 show (if p.1>0 then Kl p.1 (ps.drop (k+1)) else (a,p.2-1)::Kl a (ps.drop (k+1)))=_
 rw [if_neg (by simpa using h)]
theorem zsi {a:Int}{ps pre:List (Int×Int)}{k:Nat}(h:zg0 ps=pre++Kl a (ps.drop k))(hk:ps.length≤k):zg0 ps=pre:=by
 rw [h,List.drop_eq_nil_of_le hk];simp [Kl]
theorem zs0 {a:Int}{ps pre:List (Int×Int)}{k:Nat}{p:Int×Int}(h:zg0 ps=pre++Kl a (ps.drop k))(hp:ps[k]? =some p)(hn:decide (p.1>0)=false):pre++[(a,p.2-1)]<+:zg0 ps:=by
 rw [h,zpp hp hn]
 exact ⟨Kl a (ps.drop (k+1)),by simp⟩
def zyS (q:Int×Int):Value:=.int .i64 q.1
def zyx (q:Int×Int):Value:=.int .i64 q.2
end
end Go.Proofs.YtodakphagkommaaGreatDoor
section
namespace Go.Kn
open Go
def zpX {α:Type}(P:Program)(f:FuncId)(cap:List Value)(I:Qu)(K:Loc)(en1 en2:α→Value)(xs:List α):Prop:=
 ∀ g l (J Jx:List α→Qu→Qu→Prop),
  (∀ pre x I' H',pre++[x]<+:xs→HLe I I'→J pre I' H'→Xg P g l [en1 x,en2 x] I' H' fun b I2 H2=>if b then J (pre++[x]) I2 H2 else Jx (pre++[x]) I2 H2)→
  ∀ I0 H w,HLe I I0→J [] I0 H→St g I0 H K w→Calls P f ((.func (.yield l) #[] #[]:Value)::cap).toArray w fun e w'=>∃ v I' H',e= .returned v∧HLe I0 I'∧St g I' H' [] w'∧(J xs I' H'∨∃ pre,pre<+:xs∧Jx pre I' H')
section
variable {α:Type} {C:Cx} {Q:Exit→Act→World→Prop} {E E':Env} {I I':Qu} {loc loc' L R:Loc} {ops:Array Oper} {rest:List Oper} {S:GS}
variable {Jc:List α→Qu→Loc→Prop} {Jx:Code→List α→Qu→Loc→Prop} {pre:List α}
theorem zcE {P:Program}{N:Nat}{D:List Deferred}{K:Loc}{g:World}{H:Qu}{gop:Operand}{p q:Nat}{assign body:Code}{f:FuncId}{cap:List Value}{en1 en2:α→Value}{xs:List α}
  (Jc:List α→Qu→Loc→Prop)(Jx:Code→List α→Qu→Loc→Prop)(Ja:List α→α→Env→Qu→Loc→Prop)
  (hg:QA [] E gop=some (.func (.func f) #[] cap.toArray))(hF:Fun P f)(hseq:zpX P f cap I K en1 en2 xs)(hp:Nat.blt p N=true)(hq9:Nat.blt q N=true)(h0:Jc [] I loc)
  (hass:∀ l pre x I' loc' H1,pre++[x]<+:xs→HLe I I'→Jc pre I' loc'→X ⟨P,some l,N,[],g,H1⟩ (Exit.then (Met ⟨P,some l,N,[],g,H1⟩ fun E2 I2 loc2=>HLe I' I2∧Ja pre x E2 I2 loc2) (fun _ _ _=>False)) assign ((q,en2 x)::(p,en1 x)::E) I' loc')
  (hbody:∀ l pre x E2 I2 loc2 H2,pre++[x]<+:xs→HLe I I2→Ja pre x E2 I2 loc2→X ⟨P,some l,N,[],g,H2⟩ (zbo g H2 (fun q0 I3 loc3=>HLe I2 I3∧Jc q0 I3 loc3) (fun c q0 I3 loc3=>HLe I2 I3∧Jx c q0 I3 loc3) (pre++[x])) body E2 I2 loc2)
  (hdone:∀ bd I' loc',HLe I I'→Jc xs I' loc'→At ⟨P,none,N,{target:=.collected bd,args:= #[]}::D,g,H⟩ Q .normal E I' (loc'++[(bd,.deferred (some []))]))
  (hstop:∀ c bd pre I' loc',HLe I I'→pre<+:xs→Jx c pre I' loc'→X ⟨P,none,N,{target:=.collected bd,args:= #[]}::D,g,H⟩ Q c E I' (loc'++[(bd,.deferred (some []))])):
  X ⟨P,none,N,D,g,H⟩ Q (.rangeFunc gop #[p,q] assign body) E I (K++loc):=by
 intro a w ha hw
 refine wpIn_rangeFunc fun fn _=>?_
 have hen:=run_enterLoop_outer (P:=P) (w:=w) fn a.tmps #[p,q] assign body
 generalize hbd:w.heap.size=bd at hen
 let rec_:LoopState→Option Code→Obj:=fun st pd=>.loop {state:=st,pending:=pd,fn,tmps:=a.tmps,params:= #[p,q],assign,body,defers:=bd}
 have hw1:St g I H ((bd+1,rec_ .ready none)::(bd,.deferred (some []))::(K++loc)) ((w.alloc (.deferred (some []))).alloc (rec_ .ready none)):=by
  have h1:=hw.alloc (.deferred (some []))
  have h2:=h1.alloc (rec_ .ready none)
  rw [World.size_alloc,hbd] at h2
  exact h2
 have hev:=Qj (S:=[]) ha trivial rfl hg
 refine ⟨bd+1,[{target:=.collected bd,args:= #[]}],_,{target:=.fn (.func f) cap.toArray,args:= #[.func (.yield (bd+1)) #[] #[]]},(w.alloc (.deferred (some []))).alloc (rec_ .ready none),f,((.func (.yield (bd+1)) #[] #[]:Value)::cap).toArray,(w.alloc (.deferred (some []))).alloc (rec_ .ready none),hen,?_,fun _ _=>trivial,?_,by simp [FR],Xb.2 ?_⟩
 ·
  have e2:a.eval (.const (.func (.yield (bd+1)) #[] #[]))= .func (.yield (bd+1)) #[] #[]:=rfl
  simp only [resolve,List.map_toArray,List.map_cons,List.map_nil,e2,hev,Deferred.ofValue]
  rfl
 ·
  simp only [invoke,VW hF]
  simp
 -- the caller's blocks, between two rounds
 let Lr:LoopState→Option Code→Loc→Loc:=fun st pd l'=>l'++[(bd+1,rec_ st pd),(bd,.deferred (some []))]
 have okL:∀ {I' H1 l' W st pd},St g I' H1 (Lr st pd l') W→((Lr st pd l').map (·.1)).Nodup:=fun h=>h.nodup
 let J:List α→Qu→Qu→Prop:=fun pre I' H'=>∃ l',Jc pre I' l'∧HLe I I'∧H'=VD H (Lr .ready none l')∧((Lr .ready none l').map (·.1)).Nodup∧∀ b o,(b,o)∈Lr .ready none l'→H b=none
 let Jy:List α→Qu→Qu→Prop:=fun pre I' H'=>∃ c l',Jx c pre I' l'∧HLe I I'∧H'=VD H (Lr .done (some c) l')∧((Lr .done (some c) l').map (·.1)).Nodup∧∀ b o,(b,o)∈Lr .done (some c) l'→H b=none
 have hw2:St g I H (K++Lr .ready none loc) ((w.alloc (.deferred (some []))).alloc (rec_ .ready none)):=by
  have hp:(K++Lr .ready none loc).Perm ((bd+1,rec_ .ready none)::(bd,.deferred (some []))::(K++loc)):=by
   show (K++(loc++[(bd+1,rec_ .ready none),(bd,.deferred (some []))])).Perm _
   rw [←List.append_assoc]
   exact List.perm_append_comm
  exact hw1.perm (fun q=>hp.mem_iff) ((hp.map (·.1)).nodup_iff.2 hw1.nodup)
 have hw2r:=hw2.rest Qx
 have hJ0:J [] I (VD H (Lr .ready none loc)):=⟨loc,h0,zAh I,rfl,hw2r.nodup,fun b o hm=>(hw2r.sepIL b o hm).2⟩
 refine (hseq g (bd+1) J Jy ?_ I _ _ (zAh I) hJ0 hw2.hideR).mono ?_
 ·
  -- a round
  intro pre x I' H' hpre hI ⟨l',hJc,_,hH,hnd,hdj⟩ lit W hW
  subst hH
  have hS1:=hW.swap hnd hdj
  have hrec:W.heap[bd+1]? =some (rec_ .ready none):=hS1.own _ _ (by simp [Lr])
  refine ⟨fn,_,assign,body,run_yield (P:=P) hrec (by simp),?_⟩
  have hfit:KD N [] ((q,en2 x)::(p,en1 x)::E) {tmps:=(a.tmps.setIfInBounds p (en1 x)).setIfInBounds q (en2 x),defers:=[]}:=by
   have h1:=(ha.put hp (en1 x)).put hq9 (en2 x)
   exact ⟨h1.size,rfl,h1.env⟩
  have hdjK:∀ b o,(b,o)∈lit→H b=none:=fun b o hm=>(Wi (hW.sepIL b o hm).2).1
  refine roundIn_of_wpIn (F:=Fence.wide) trivial ?_
  have htm:((#[p,q]:Array Tmp).zip #[en1 x,en2 x]).foldl (fun tmps (t,v)=>tmps.setIfInBounds t v) a.tmps=(a.tmps.setIfInBounds p (en1 x)).setIfInBounds q (en2 x):=by simp
  show Code.wpIn _ _ _ _ _ {tmps:=((#[p,q]:Array Tmp).zip #[en1 x,en2 x]).foldl (fun tmps (t,v)=>tmps.setIfInBounds t v) a.tmps,defers:=[]} _
  rw [htm]
  have hA:=hass (bd+1) pre x I' l' (VD (VD H lit) [(bd+1,rec_ .ready none),(bd,.deferred (some []))]) hpre hI hJc _ W hfit hS1.hideR
  refine wpIn_mono (F:=Fence.wide.inRound (bd+1)) (n:=0) (P:=P) (show assign.wpIn (Fence.wide.inRound (bd+1)) 0 P _ _ _ from hA) ?_
  intro e a1 W1 hq
  cases e with
  | normal=>
   obtain ⟨E2,I2,loc2,⟨hI2,hJa⟩,hf2,hs2⟩:=hq
   have hs3:St g I2 (VD H lit) (loc2++[(bd+1,rec_ .ready none),(bd,.deferred (some []))]) W1:=St.unhide (hS1.rest Qx) hs2
   have hrec1:W1.heap[bd+1]? =some (rec_ .ready none):=hs3.own _ _ (by simp)
   have hs4:=hs3.putObj (o':=rec_ .busy none) (b:=bd+1) (QK .here)
   refine ⟨_,run_beginRound (P:=P) hrec1 rfl,?_⟩
   have hB:=hbody (bd+1) pre x E2 I2 loc2 (VD (VD H lit) [(bd+1,rec_ .busy none),(bd,.deferred (some []))]) hpre (hI.trans hI2) hJa a1 _ hf2 hs4.hideR
   refine wpIn_mono (F:=Fence.wide.inRound (bd+1)) (n:=0) (P:=P) (show body.wpIn (Fence.wide.inRound (bd+1)) 0 P _ _ _ from hB) ?_
   have fin:∀ (W3:World) (I3:Qu) (loc3:Loc) (jump:Option Code) (st:LoopState),St g I3 (VD (VD H lit) [(bd+1,rec_ .busy none),(bd,.deferred (some []))]) loc3 W3→
     (st=if jump.isNone then .ready else .done)→
     ∃ W4,(Instr.endRound (bd+1) jump).run P W3= .ok (.bool jump.isNone) W4∧St g I3 (VD H (Lr st jump loc3)) lit W4∧((Lr st jump loc3).map (·.1)).Nodup∧∀ b o,(b,o)∈Lr st jump loc3→H b=none:=by
    intro W3 I3 loc3 jump st hs hst
    have hs5:St g I3 (VD H lit) (loc3++[(bd+1,rec_ .busy none),(bd,.deferred (some []))]) W3:=St.unhide (hs4.rest Qx) hs
    have hrec3:W3.heap[bd+1]? =some (rec_ .busy none):=hs5.own _ _ (by simp)
    have hs6:=hs5.putObj (o':=rec_ st jump) (b:=bd+1) (QK .here)
    refine ⟨_,run_endRound (P:=P) jump hrec3,?_,hs6.nodup,fun b o hm=>(Wi (hs6.sepIL b o hm).2).1⟩
    rw [←hst]
    exact hs6.swap hW.nodup hdjK
   intro e a3 W3 hq
   cases e with
   | normal=>
    obtain ⟨I3,loc3,⟨hI3,hJ3⟩,hs⟩:=hq
    obtain ⟨W4,h1,h2,h3,h4⟩:=fin W3 I3 loc3 none .ready hs rfl
    exact ⟨_,W4,h1,true,I3,_,rfl,hI2.trans hI3,h2,loc3,hJ3,(hI.trans hI2).trans hI3,rfl,h3,h4⟩
   | ret=>
    obtain ⟨I3,loc3,⟨hI3,hJ3⟩,hs⟩:=hq
    obtain ⟨W4,h1,h2,h3,h4⟩:=fin W3 I3 loc3 (some .ret) .done hs rfl
    exact ⟨_,W4,h1,false,I3,_,rfl,hI2.trans hI3,h2,.ret,loc3,hJ3,(hI.trans hI2).trans hI3,rfl,h3,h4⟩
   | exit id=>
    obtain ⟨I3,loc3,⟨hI3,hJ3⟩,hs⟩:=hq
    obtain ⟨W4,h1,h2,h3,h4⟩:=fin W3 I3 loc3 (some (.exit id)) .done hs rfl
    exact ⟨_,W4,h1,false,I3,_,rfl,hI2.trans hI3,h2,.exit id,loc3,hJ3,(hI.trans hI2).trans hI3,rfl,h3,h4⟩
   | goto t=>exact hq.elim
   | panic c=>exact hq.elim
   | outgrown=>exact hq.elim
  | _=>exact hq.elim
 ·
  -- behind the call
  rintro e w' ⟨v,I',H',rfl,hI,hs,hJ | ⟨pre,hpre,hJ⟩⟩
  ·
   obtain ⟨l',hJc,hI1,rfl,hnd,hdj⟩:=hJ
   have hs1:=hs.swap hnd hdj
   have hrec:w'.heap[bd+1]? =some (rec_ .ready none):=hs1.own _ _ (by simp [Lr])
   have hs2:=hs1.putObj (o':=rec_ .exhausted none) (b:=bd+1) (QK .here)
   refine ⟨none,_,run_endLoop (P:=P) hrec (by simp),?_⟩
   refine hdone bd I' l' hI1 hJc _ _ ⟨ha.size,by simp [ha.defers],ha.env⟩ ?_
   refine hs2.rest (L:=[(bd+1,rec_ .exhausted none)]) ?_
   have:YN (l'++[(bd+1,rec_ .exhausted none),(bd,.deferred (some []))]) [(bd+1,rec_ .exhausted none)] (l'++[(bd,.deferred (some []))]):=by
    refine .cons ?_ .nil
    clear hdj hnd hs2 hs1 hs hJc hrec
    induction l' with
    | nil=>exact .here
    | cons q l ih=>exact .there ih
   exact this
  ·
   obtain ⟨c,l',hJc,hI1,rfl,hnd,hdj⟩:=hJ
   have hs1:=hs.swap hnd hdj
   have hrec:w'.heap[bd+1]? =some (rec_ .done (some c)):=hs1.own _ _ (by simp [Lr])
   have hs2:=hs1.putObj (o':=rec_ .exhausted (some c)) (b:=bd+1) (QK .here)
   refine ⟨some c,_,run_endLoop (P:=P) hrec (by simp),?_⟩
   refine hstop c bd pre I' l' hI1 hpre hJc _ _ ⟨ha.size,by simp [ha.defers],ha.env⟩ ?_
   refine hs2.rest (L:=[(bd+1,rec_ .exhausted (some c))]) ?_
   have:YN (l'++[(bd+1,rec_ .exhausted (some c)),(bd,.deferred (some []))]) [(bd+1,rec_ .exhausted (some c))] (l'++[(bd,.deferred (some []))]):=by
    refine .cons ?_ .nil
    clear hdj hnd hs2 hs1 hs hJc hrec
    induction l' with
    | nil=>exact .here
    | cons q l ih=>exact .there ih
   exact this
end
section
variable {P:Program} {r:Option Nat} {N:Nat} {g:World} {H:Qu} {Q:Exit→Act→World→Prop} {E E':Env} {I I':Qu} {loc loc' L R:Loc} {ms:List Nat}
theorem Wu {α:Type}{gop:Operand}{p q:Nat}{assign body:Code}{f:FuncId}{cap:List Value}{K:Loc}{en1 en2:α→Value}{xs:List α}
  (Jc:List α→Qu→Loc→Prop)(Jx:Code→List α→Qu→Loc→Prop)(Ja:List α→α→Env→Qu→Loc→Prop)
  (hg:QA [] E gop=some (.func (.func f) #[] cap.toArray))(hF:Fun P f)(hseq:zpX P f cap I K en1 en2 xs)(hp:Nat.blt p N=true)(hq9:Nat.blt q N=true)(h0:Jc [] I L)
  (hass:∀ l pre x I' loc' H1,pre++[x]<+:xs→HLe I I'→Jc pre I' loc'→X ⟨P,some l,N,[],g,H1⟩ (Exit.then (Met ⟨P,some l,N,[],g,H1⟩ fun E2 I2 loc2=>HLe I' I2∧Ja pre x E2 I2 loc2) (fun _ _ _=>False)) assign ((q,en2 x)::(p,en1 x)::E) I' loc')
  (hbody:∀ l pre x E2 I2 loc2 H2,pre++[x]<+:xs→HLe I I2→Ja pre x E2 I2 loc2→X ⟨P,some l,N,[],g,H2⟩ (zbo g H2 (fun q0 I3 loc3=>HLe I2 I3∧Jc q0 I3 loc3) (fun c q0 I3 loc3=>HLe I2 I3∧Jx c q0 I3 loc3) (pre++[x])) body E2 I2 loc2)
  (hdone:∀ bd I' loc',HLe I I'→Jc xs I' loc'→At ⟨P,none,N,mk (bd::ms),g,H⟩ Q .normal E I' (loc'++MB (bd::ms)))
  (hstop:∀ c bd pre I' loc',HLe I I'→pre<+:xs→Jx c pre I' loc'→X ⟨P,none,N,mk (bd::ms),g,H⟩ Q c E I' (loc'++MB (bd::ms))):
  X ⟨P,none,N,mk ms,g,H⟩ Q (.rangeFunc gop #[p,q] assign body) E I (K++(L++MB ms)):=by
 intro a w ha hw
 have back:∀ {I':Qu} {loc':Loc} {bd:Nat} {w':World},St g I' (VD H (MB ms)) (loc'++[(bd,.deferred (some []))]) w'→St g I' H (loc'++MB (bd::ms)) w':=fun {I' loc' bd w'} h=>by
  have h1:=St.unhide ((hw.rest Qx).rest Qx) h
  refine h1.perm (fun p=>?_) ?_
  ·
   simp only [MB,List.mem_append]
   constructor
   ·
    rintro (h | h | h)
    ·
     exact .inl (.inl h)
    ·
     exact .inr h
    ·
     exact .inl (.inr h)
   ·
    rintro ((h | h) | h)
    ·
     exact .inl h
    ·
     exact .inr (.inr h)
    ·
     exact .inr (.inl h)
  ·
   have hn:=h1.nodup
   have hpm:(loc'++MB (bd::ms)).Perm (loc'++[(bd,.deferred (some []))]++MB ms):=by
    rw [List.append_assoc]
    exact (List.Perm.refl loc').append List.perm_append_comm
   exact (hpm.map (·.1)).nodup_iff.2 hn
 refine zcE (K:=K) (P:=P) (N:=N) (D:=mk ms) (g:=g) (H:=VD H (MB ms)) (Q:=Q) Jc Jx Ja hg hF hseq hp hq9 h0 hass hbody ?_ ?_ a w ha (show St g I (VD H (MB ms)) (K++L) w from (show St g I H ((K++L)++MB ms) w by rw [List.append_assoc];exact hw).hideR)
 ·
  intro bd I' loc' hI hJ a' w' ha' hw'
  exact hdone bd I' loc' hI hJ a' w' ha' (back hw')
 ·
  intro c bd pre I' loc' hI hpre hJ a' w' ha' hw'
  exact hstop c bd pre I' loc' hI hpre hJ a' w' ha' (back hw')
end
end Go.Kn
namespace Go.Kn
open Go
section
variable {C:Cx} {Q:Exit→Act→World→Prop} {E E':Env} {I I' I0:Qu} {loc loc' loc0 L R:Loc} {ops:Array Oper} {rest:List Oper} {S:GS}
theorem QL {e:Exit}{b:Nat}{o:Obj}(ht:Q8 loc b o loc')(h:∀ I',HLe I I'→I' b=some o→At C Q e E I' loc'):At C Q e E I loc:=fun a w ha hw=>
 let ⟨h1,h2,h3⟩:=hw.freeze ht;h _ h2 h3 a w ha h1
theorem J9 {c:Code}(h:loc=loc')(hx:X C Q c E I loc'):X C Q c E I loc:=h ▸ hx
theorem zqJ (i j k m:Nat){oi oj ok om:Oper}{fuel:Nat}{listed:Array Bool}(hi:ops[i]? =some oi)(hj:ops[j]? =some oj)(hk:ops[k]? =some ok)(hm:ops[m]? =some om)(hr:Region.ready .any ops listed=[i,j,k,m])
  (h1:XO C (fun e a w=>match e with | .normal=>St C.g I0 C.H loc0 w∧YP C.r C.P .any ops Q (fun w=>St C.g I0 C.H loc0 w) fuel (listed.setIfInBounds i true) a w | e=>Q e a w) ops [oi] S E I loc)
  (h2:XO C (fun e a w=>match e with | .normal=>St C.g I0 C.H loc0 w∧YP C.r C.P .any ops Q (fun w=>St C.g I0 C.H loc0 w) fuel (listed.setIfInBounds j true) a w | e=>Q e a w) ops [oj] S E I loc)
  (h3:XO C (fun e a w=>match e with | .normal=>St C.g I0 C.H loc0 w∧YP C.r C.P .any ops Q (fun w=>St C.g I0 C.H loc0 w) fuel (listed.setIfInBounds k true) a w | e=>Q e a w) ops [ok] S E I loc)
  (h4:XO C (fun e a w=>match e with | .normal=>St C.g I0 C.H loc0 w∧YP C.r C.P .any ops Q (fun w=>St C.g I0 C.H loc0 w) fuel (listed.setIfInBounds m true) a w | e=>Q e a w) ops [om] S E I loc):XD C Q ops I0 loc0 (fuel+1) listed S E I loc:=by
 intro a w ha hg hw
 refine ⟨(fun h0=>by rw [hr] at h0;cases h0),fun q hq=>?_⟩
 rw [hr] at hq
 rcases List.mem_cons.1 hq with e | hq
 ·
  subst e;exact X8 hi ha hg hw h1
 ·
  rcases List.mem_cons.1 hq with e | hq
  ·
   subst e;exact X8 hj ha hg hw h2
  ·
   rcases List.mem_cons.1 hq with e | hq
   ·
    subst e;exact X8 hk ha hg hw h3
   ·
    obtain rfl:=List.mem_singleton.1 hq;exact X8 hm ha hg hw h4
end
end Go.Kn
end
namespace Go.Proofs.YtodakphagkommaaGreatDoor
section
open Go Go.Kn Go.Proofs
theorem zi1:Fun Tryz.prog 105:=.of Tryz.func105 (by kernel_rfl) (by kernel_rfl)
theorem zfT:ScT Tryz.prog 41:=.of (by kernel_rfl)
theorem Uy:SlT Tryz.prog 41 79 2:=.of (by kernel_rfl)
theorem zi0:SzT Tryz.prog 79 2:=.of (by kernel_rfl)
theorem zjy (I:Qu)(av:Option Addr)(n c:Nat):Yf Tryz.prog 61 [.slice av n c] I [] (fun v I' L=>L=[]∧∃ b1,v= .func (.func 105) #[] [Zc b1].toArray∧I' b1=some (.cells #[.slice av n c] 41 (0,0))):=by
 intro g H w hw
 refine qe Tryz.func61 Tryz.ntmps61 hw ?_
 have hIc:=zAh I
 refine zR ?_
 refine Q2 rfl rfl rfl (fun b_1=>?_)
 refine zA (zN (Ql ?_))
 refine Zg .here (fun I1 hI1 hb1=>?_)
 have hIc:=hIc.trans hI1
 have h1:=hb1
 refine Qg ?_
 refine zV (Zd (us:=[]) (vs:=[_]) rfl rfl) ?_
 refine zA (zN (Qt ?_))
 exact Zx rfl rfl (fun w hw=>⟨_,I1,[],rfl,hIc,hw.drop,rfl,b_1,rfl,h1⟩)
theorem zjL {I:Qu}{av:Option Addr}{n c:Nat}{ps:List (Int×Int)}(hS:Sl I 2 V8 av n c ps)(hn9:n≤1000000)(hps:∀ p∈ps, -1000000≤p.2∧p.2≤1000000){b1:Nat}(h1:I b1=some (.cells #[.slice av n c] 41 (0,0))):zpX Tryz.prog 105 [Zc b1] I [] zyS zyx (zg0 ps):=by
 intro g y J Jx hY I0 H w h0 hJ hw
 have hS:=hS.mono h0
 have h1:=h0 _ _ h1
 refine qe Tryz.func105 Tryz.ntmps105 hw ?_
 have hSl:=hS.len
 subst hSl
 refine zR (zA ?_)
 refine zN (zR ?_)
 refine zV (Qe rfl zfT (fun hg=>by exact QT.imm h1 rfl)) ?_
 refine zQ Uy ?_
 refine zM (zN (Qm ?_))
 refine zex (fun m E I' H' loc'=>∃ (k:Nat) (a:Int) (pre:List (Int×Int)),m=ps.length-k∧E=[(0,.func (.yield y) #[] #[]),(1,Zc b1),(3,.int .i64 a),(6,.slice av ps.length c),(7,.int .i64 ps.length),(8,.int .i64 k)]∧loc'=[]∧HLe I0 I'∧k≤ps.length∧J pre I' H'∧zg0 ps=pre++Kl a (ps.drop k)) _ _ _ ⟨0,0,[],rfl,rfl,rfl,zAh _,Nat.zero_le _,hJ,rfl⟩ (.cons rfl (.cons rfl (.cons rfl (.cons rfl (.cons rfl (.cons rfl .nil)))))) rfl ?_
 rintro m E I' H' loc' ⟨k,a,pre,rfl,rfl,rfl,hI1,hk,hJk,hal⟩
 have hS:=hS.mono hI1
 have h1:=hI1 _ _ h1
 have hI0:=h0.trans hI1
 refine zR (zC (zN (Ql ?_)))
 refine zI ?_ ?_<;>intro hc9
 ·
  have hlt:k<ps.length:=by have h:=hc9;simp at h;omega
  obtain ⟨p,hp⟩:=hS.at hlt
  refine Qn (Qa (Ql (Qm (zR ?_))))
  refine zV (zX Uy hS) ?_
  refine zV (Qo rfl zbi (fun hg=>by exact zAi hS hp) rfl) ?_
  refine Qs Ub rfl rfl (fun b_5=>?_)
  refine zh zi0 ?_
  refine zN (zR ?_)
  refine zV (Zq rfl rfl Y0 (fun hg=>by decide)) ?_
  refine zL Qr ?_
  refine zC (zN ?_)
  refine zI ?_ ?_<;>intro hc14
  ·
   refine Qg ?_
   refine zV (Zq rfl rfl Y0 (fun hg=>by decide)) ?_
   refine zL Qr ?_
   refine zA (Qb (Qf (Qa (Qg ?_))))
   refine zB ?_
   refine zM (Qb ?_)
   exact XW rfl rfl rfl _ [] ⟨ps.length-(k+1),by omega,k+1,p.1,pre,rfl,rfl,rfl,hI1,by omega,hJk,by rw [hal,zro hp hc14]⟩ (.cons rfl (.cons rfl (.cons rfl (.cons rfl (.cons rfl (.cons rfl .nil)))))) (.drop .refl)
  have hpre2:=zs0 hal hp hc14
  refine zR (zM ?_)
  refine zM ?_
  refine zV (Zq rfl rfl Y0 (fun hg=>by decide)) ?_
  refine zL Qr ?_
  refine zV (ZR rfl rfl rfl (fun _=>by (have hp9:=hps p (List.mem_of_getElem? hp);omega))) ?_
  refine zdR (vs:=[_,_]) (Post:=fun b I2 H2=>if b then J (pre++[(a,p.2-1)]) I2 H2 else Jx (pre++[(a,p.2-1)]) I2 H2) rfl rfl rfl rfl (hY pre (a,p.2-1) _ _ hpre2 hI0 hJk) ?_
  rintro t I2 H2 hI2 hP2
  refine zO (zN ?_)
  refine zI ?_ ?_<;>intro hc23
  ·
   have ht:t=false:=by simpa using hc23
   subst ht
   have hJ2:Jx (pre++[(a,p.2-1)]) I2 H2:=hP2
   refine Qt (Qp (Qc (Qc (Qp ?_))))
   exact YR rfl (fun w hw=>⟨_,I2,H2,rfl,hI1.trans hI2,hw.drop,.inr ⟨_,hpre2,hJ2⟩⟩)
  have ht:t=true:=by simpa using hc23
  subst ht
  have hJ2:J (pre++[(a,p.2-1)]) I2 H2:=hP2
  refine Qn (Qf (Qa (Qg (zB ?_))))
  refine zM (Qb ?_)
  first
  | exact XW rfl rfl rfl _ [] ⟨ps.length-(k+1),by omega,k+1,a,pre++[(a,p.2-1)],rfl,rfl,rfl,hI1.trans hI2,by omega,hJ2,by rw [hal,zpp hp hc14,List.append_assoc];rfl⟩ (.cons rfl (.cons rfl (.cons rfl (.cons rfl (.cons rfl (.cons rfl .nil)))))) (.drop .refl)
 have hge:ps.length≤k:=by have h:=hc9;simp at h;omega
 refine QI (Qh (Qh (Qk ?_)))
 first
 | exact VI (YR rfl (fun w hw=>⟨_,I',H',rfl,hI1,hw,.inl (by rw [zsi hal hge];exact hJk)⟩))
end
section
open Go Go.Kn Go.Proofs
/-! ### Lists as functions -/
def Vd (n:Nat)(f:Nat→Int):List Int:=(List.range n).map f
def KZ {β:Type}(f:Nat→β)(a:Nat)(v:β):Nat→β:=fun j=>if j=a then v else f j
def YI (f:Nat→Nat):Nat→Int:=fun j=>((f j:Nat):Int)
theorem Yb {n:Nat}{f:Nat→Int}:(Vd n f).length=n:=by unfold Vd;simp
theorem YH {n a:Nat}{f:Nat→Int}(h:a<n):(Vd n f)[a]? =some (f a):=by unfold Vd;simp [h]
theorem V0 {β:Type}{f:Nat→β}{a:Nat}{v:β}:KZ f a v a=v:=if_pos rfl
theorem JM {β:Type}{f:Nat→β}{a j:Nat}{v:β}(h:j≠a):KZ f a v j=f j:=if_neg h
theorem JZ {n a:Nat}{f:Nat→Int}{v:Int}:(Vd n f).set a v=Vd n (KZ f a v):=by
 apply List.ext_getElem?
 intro j
 rw [List.getElem?_set]
 by_cases hj:j<n
 ·
  rw [YH hj,YH hj,Yb]
  by_cases h:a=j
  ·
   subst h;rw [V0];simp [hj]
  ·
   rw [if_neg h,JM (Ne.symm h)]
 ·
  rw [List.getElem?_eq_none (l:=Vd n (KZ f a v)) (by rw [Yb];omega),Yb]
  by_cases h:a=j
  ·
   subst h;simp [hj]
  ·
   rw [if_neg h,List.getElem?_eq_none (by rw [Yb];omega)]
theorem Zf {n:Nat}:List.replicate n (0:Int)=Vd n (fun _=>0):=by
 apply List.ext_getElem?
 intro j
 unfold Vd
 by_cases h:j<n<;>simp [h]
theorem zaJ {f:Nat→Nat}{a v:Nat}:KZ (YI f) a (v:Int)=YI (KZ f a v):=by
 funext j
 by_cases h:j=a
 ·
  subst h;rw [V0];unfold YI;rw [V0]
 ·
  rw [JM h];unfold YI;rw [JM h]
theorem Wj:(fun _=>0:Nat→Int)=YI (fun _=>0):=by funext j;rfl
theorem znM {a b:Nat}:ztl (a:Int) (b:Int)=((max a b:Nat):Int):=by unfold ztl;split<;>omega
/-! ### Counts -/
def cnt (pre:List (Int×Int)):Nat→Nat:=pre.foldl (fun c q=>KZ c q.1.toNat (c q.1.toNat+1)) (fun _=>0)
theorem Ue {pre:List (Int×Int)}{q:Int×Int}:cnt (pre++[q])=KZ (cnt pre) q.1.toNat (cnt pre q.1.toNat+1):=by unfold cnt;rw [List.foldl_append];rfl
theorem zb6 {pre:List (Int×Int)}{q:Int×Int}{a:Nat}(h:q.1.toNat=a):cnt (pre++[q]) a=cnt pre a+1:=by rw [Ue,h];unfold KZ;rw [if_pos rfl]
theorem ztI {pre:List (Int×Int)}{q:Int×Int}{a:Nat}:cnt pre a≤cnt (pre++[q]) a:=by
 rw [Ue];unfold KZ;split
 ·
  rename_i h;subst h;omega
 ·
  exact Nat.le_refl _
theorem zko (pre:List (Int×Int))(a:Nat):∀ (r:Nat) (qs:List (Int×Int)),qs.length≤r→cnt pre a≤cnt (pre++qs) a:=by
 intro r qs _
 induction qs generalizing pre with
 | nil=>simp
 | cons q qs ih=>
  have h1:=ih (pre++[q]) (by simp at*;omega)
  rw [List.append_assoc] at h1
  exact Nat.le_trans ztI h1
theorem zp8 {pre xs:List (Int×Int)}{a:Nat}(h:pre<+:xs):cnt pre a≤cnt xs a:=by
 obtain ⟨qs,rfl⟩:=h;exact zko pre a qs.length qs (Nat.le_refl _)
theorem zkB (qs:List (Int×Int)):∀ (c:Nat→Nat) (a:Nat),(qs.foldl (fun c q=>KZ c q.1.toNat (c q.1.toNat+1)) c) a≤c a+qs.length:=by
 induction qs with
 | nil=>intro c a;simp
 | cons q qs ih=>
  intro c a
  rw [List.foldl_cons]
  have h:=ih (KZ c q.1.toNat (c q.1.toNat+1)) a
  have h2:KZ c q.1.toNat (c q.1.toNat+1) a≤c a+1:=by unfold KZ;split<;>(try (rename_i e;subst e))<;>omega
  rw [List.length_cons];omega
theorem zeg {pre:List (Int×Int)}{a:Nat}:cnt pre a≤pre.length:=by
 have h:=zkB pre (fun _=>0) a
 unfold cnt;omega
/-! ### How wide the places are -/
def wmx (w:Nat→Nat)(pre:List (Int×Int)):Nat→Nat:=fun a=>max (w a) (cnt pre a)
def wdF (al:Nat→List (Int×Int)):Nat→Nat→Nat
 | 0=>fun _=>0
 | i+1=>wmx (wdF al i) (al i)
theorem zhJ {w:Nat→Nat}:wmx w []=w:=by funext a;unfold wmx;show max (w a) 0=w a;omega
theorem zm9 {w:Nat→Nat}{pre:List (Int×Int)}{q:Int×Int}{a:Nat}(h:q.1.toNat=a):KZ (wmx w pre) a (max (wmx w pre a) (cnt (pre++[q]) a))=wmx w (pre++[q]):=by
 funext j
 unfold KZ
 split
 ·
  rename_i e;subst e
  rw [zb6 h]
  show max (max (w j) (cnt pre j)) (cnt pre j+1)=max (w j) (cnt (pre++[q]) j)
  rw [zb6 h];omega
 ·
  rename_i e
  show max (w j) (cnt pre j)=max (w j) (cnt (pre++[q]) j)
  rw [Ue,h];unfold KZ;rw [if_neg e]
theorem zqP {al:Nat→List (Int×Int)}(h:al 0=[]):wdF al 1=fun _=>0:=by
 show wmx (wdF al 0) (al 0)=_
 rw [h,zhJ];rfl
theorem zfJ {al:Nat→List (Int×Int)}{B:Nat}(h:∀ j,(al j).length≤B):∀ (i a:Nat),wdF al i a≤B
 | 0,a=>Nat.zero_le _
 | i+1,a=>by
  show max (wdF al i a) (cnt (al i) a)≤B
  have h1:=zfJ h i a
  have h2:=@zeg (al i) a
  have h3:=h i
  omega
theorem zf0 {al:Nat→List (Int×Int)}{j:Nat}:∀ {i a:Nat},j<i→cnt (al j) a≤wdF al i a
 | 0,_,h=>by omega
 | i+1,a,h=>by
  show _≤max (wdF al i a) (cnt (al i) a)
  by_cases e:j=i
  ·
   subst e;omega
  ·
   have:=zf0 (al:=al) (a:=a) (show j<i by omega);omega
/-! ### Where the places begin -/
def Ym (w:Nat→Nat):Nat→Nat
 | 0=>0
 | k+1=>Ym w k+(w k+1)
theorem zeU {w:Nat→Nat}{B:Nat}(h:∀ a,w a≤B):∀ k,Ym w k≤k*(B+1)
 | 0=>Nat.zero_le _
 | k+1=>by
  have h1:=zeU h k
  have h2:=h k
  show Ym w k+(w k+1)≤_
  rw [Nat.add_mul];omega
theorem W2 {w:Nat→Nat}{k:Nat}:∀ {j:Nat},k<j→Ym w k+w k+1≤Ym w j
 | 0,h=>by omega
 | j+1,h=>by
  show _≤Ym w j+(w j+1)
  by_cases e:k=j
  ·
   subst e;omega
  ·
   have:=W2 (w:=w) (show k<j by omega);omega
theorem zkV {w:Nat→Nat}:∀ k,k≤Ym w k
 | 0=>Nat.le_refl _
 | k+1=>by have:=zkV (w:=w) k;show k+1≤Ym w k+(w k+1);omega
def atK (w:Nat→Nat)(k:Nat):Nat→Nat:=fun j=>if j<k then Ym w j else 0
theorem zmF {w:Nat→Nat}:atK w 0=fun _=>0:=by funext j;unfold atK;simp
theorem znA {w:Nat→Nat}{k:Nat}:KZ (atK w k) k (Ym w k)=atK w (k+1):=by
 funext j
 unfold KZ atK
 by_cases e:j=k
 ·
  subst e;rw [if_pos rfl,if_pos (by omega)]
 ·
  rw [if_neg e]
  by_cases h:j<k
  ·
   rw [if_pos h,if_pos (by omega)]
  ·
   rw [if_neg h,if_neg (by omega)]
theorem zqQ {w:Nat→Nat}{n:Nat}:Vd n (YI (atK w n))=Vd n (YI (Ym w)):=by
 unfold Vd
 refine List.map_congr_left fun j hj=>?_
 unfold YI atK
 rw [if_pos (List.mem_range.1 hj)]
/-! ### Rows -/
def txF (w:Nat→Nat)(T:List Int):Nat→Nat→Int
 | 0=>fun _=>0
 | k+1=>KZ (txF w T k) (Ym w k+w k) (T.getD k 0)
def prF (w:Nat→Nat)(l:List Int)(f:Nat→Int)(y:Int×Int):Nat→Int:=
 if (decide (y.1>0)&&decide (y.2>0))=true then KZ f (Ym w (y.1-1).toNat+w (y.1-1).toNat) (l.getD (y.2-1).toNat 0) else f
def alS (w:Nat→Nat)(l:List Int)(s:(Nat→Int)×(Nat→Nat))(q:Int×Int):(Nat→Int)×(Nat→Nat):=
 (KZ s.1 (Ym w q.1.toNat+s.2 q.1.toNat) (l.getD q.2.toNat 0),KZ s.2 q.1.toNat (s.2 q.1.toNat+1))
def alP (w:Nat→Nat)(l:List Int)(f:Nat→Int)(pre:List (Int×Int)):(Nat→Int)×(Nat→Nat):=pre.foldl (alS w l) (f,fun _=>0)
theorem zsA {w:Nat→Nat}{l:List Int}{f:Nat→Int}{pre:List (Int×Int)}:(alP w l f pre).2=cnt pre:=by
 have key:∀ (f:Nat→Int) (c:Nat→Nat),(pre.foldl (alS w l) (f,c)).2=pre.foldl (fun c q=>KZ c q.1.toNat (c q.1.toNat+1)) c:=by
  induction pre with
  | nil=>intro f c;rfl
  | cons q pre ih=>intro f c;rw [List.foldl_cons,List.foldl_cons];exact ih _ _
 exact key f _
theorem zbZ {w:Nat→Nat}{l:List Int}{f:Nat→Int}{pre:List (Int×Int)}{q:Int×Int}:(alP w l f (pre++[q])).1=KZ (alP w l f pre).1 (Ym w q.1.toNat+cnt pre q.1.toNat) (l.getD q.2.toNat 0):=by
 rw [←zsA (w:=w) (l:=l) (f:=f)]
 unfold alP
 rw [List.foldl_append];rfl
def zfj (w:Nat→Nat)(T l:List Int)(i:Nat)(ps:List (Int×Int)):Nat→Int:=
 (alP w l (ps.foldl (prF w l) (if i=0 then txF w T T.length else fun _=>0)) (zg0 ps)).1
theorem zfZ {w:Nat→Nat}{l:List Int}{f:Nat→Int}{ps:List (Int×Int)}{k:Nat}{y:Int×Int}(hy:ps[k]? =some y):(ps.take (k+1)).foldl (prF w l) f=prF w l ((ps.take k).foldl (prF w l) f) y:=by
 rw [List.take_add_one,hy,List.foldl_append];rfl
/-! ### A table -/
def zxx (x:Wr):List Int:=x.rs.map YJ
def csW (xs:List Wr)(i:Nat):List Int:=((xs[i]?).map zxx).getD []
def pfW (xs:List Wr)(i:Nat):List (Int×Int):=if i=0 then [] else V6 (csW xs 0) (csW xs i)
def alW (xs:List Wr)(i:Nat):List (Int×Int):=zg0 (pfW xs i)
def wdW (xs:List Wr):Nat→Nat:=wdF (alW xs) xs.length
def loW (xs:List Wr):Nat:=Ym (wdW xs) ((csW xs 0).length+1)-1
def zcN (xs:List Wr)(i:Nat):List Int:=Vd (loW xs) (zfj (wdW xs) (csW xs 0) (csW xs i) i (pfW xs i))
def zai (xs:List Wr):Int:=if (Ut xs != 0||xs.length==0)=true then Ut xs else if loW xs>256 then 2 else 0
def Uv (xs:List Wr):List (List Int):=if (Ut xs != 0||xs.length==0)=true∨loW xs>256 then [] else (List.range xs.length).map (zcN xs)
theorem zsy {xs:List Wr}(h:(Ut xs != 0||xs.length==0)=true):zai xs=Ut xs∧Uv xs=[]:=by unfold zai Uv;rw [if_pos h,if_pos (.inl h)];exact ⟨rfl,rfl⟩
theorem zya {xs:List Wr}(h:(Ut xs != 0||xs.length==0)=false)(h2:loW xs>256):zai xs=2∧Uv xs=[]:=by unfold zai Uv;rw [if_neg (by rw [h];decide),if_pos h2,if_pos (.inr h2)];exact ⟨rfl,rfl⟩
theorem zyn {xs:List Wr}(h:(Ut xs != 0||xs.length==0)=false)(h2:¬loW xs>256):zai xs=0∧Uv xs=(List.range xs.length).map (zcN xs):=by unfold zai Uv;rw [if_neg (by rw [h];decide),if_neg h2,if_neg (by rw [h];simp;omega)];exact ⟨rfl,rfl⟩
theorem za9 {xs:List Wr}{i:Nat}{x:Wr}(h:xs[i]? =some x):csW xs i=x.rs.map YJ:=by unfold csW;rw [h];rfl
theorem zbu {xs:List Wr}:alW xs 0=[]:=rfl
/-! ### What lies in alignments -/
def QOK (m n:Nat)(p:Int×Int):Prop:=∃ i k:Nat,p=((i:Int),(k:Int))∧i≤m∧k≤n∧(0<i∨0<k)
theorem zml {a b:List Int}:∀ (f i k:Nat),i≤a.length→k≤b.length→(∀ p∈paF a b f i k,QOK a.length b.length p)∧(paF a b f i k).length≤f
 | 0,_,_,_,_=>⟨(fun p hp=>by cases hp),Nat.le_refl _⟩
 | f+1,i,k,hi,hk=>by
  unfold paF
  split
  ·
   rename_i hg
   split
   ·
    rename_i hb
    have h1:i<a.length∧k<b.length:=by unfold WZ at hb;simp at hb;omega
    have ih:=zml f (i+1) (k+1) h1.1 h1.2
    refine ⟨fun p hp=>?_,by rw [List.length_cons];omega⟩
    rcases List.mem_cons.1 hp with rfl | hp
    ·
     exact ⟨i+1,k+1,rfl,h1.1,h1.2,by omega⟩
    ·
     exact ih.1 p hp
   ·
    rename_i hb
    split
    ·
     rename_i ho
     have h1:i<a.length:=by unfold zgZ at ho;simp at ho;omega
     have ih:=zml f (i+1) k h1 hk
     refine ⟨fun p hp=>?_,by rw [List.length_cons];omega⟩
     rcases List.mem_cons.1 hp with rfl | hp
     ·
      exact ⟨i+1,0,rfl,h1,Nat.zero_le _,by omega⟩
     ·
      exact ih.1 p hp
    ·
     rename_i ho
     have h1:k<b.length:=zgE hi hk (by simp at hg;omega) (by simpa using hb) (by simpa using ho)
     have ih:=zml f i (k+1) hi h1
     refine ⟨fun p hp=>?_,by rw [List.length_cons];omega⟩
     rcases List.mem_cons.1 hp with rfl | hp
     ·
      exact ⟨0,k+1,rfl,Nat.zero_le _,h1,by omega⟩
     ·
      exact ih.1 p hp
  ·
   exact ⟨(fun p hp=>by cases hp),Nat.zero_le _⟩
theorem zdS {a b:List Int}:(∀ p∈V6 a b,QOK a.length b.length p)∧(V6 a b).length≤a.length+b.length:=by
 unfold V6
 split
 ·
  exact ⟨(fun p hp=>by cases hp),Nat.zero_le _⟩
 ·
  exact zml _ 0 0 (Nat.zero_le _) (Nat.zero_le _)
theorem zh6 {m n:Nat}:∀ (ps:List (Int×Int)) (a:Nat),a≤m→(∀ p∈ps,QOK m n p)→(∀ q∈Kl (a:Int) ps,∃ c r:Nat,q=((c:Int),(r:Int))∧c≤m∧r<n)∧(Kl (a:Int) ps).length≤ps.length
 | [],_,_,_=>⟨(fun q hq=>by cases hq),Nat.le_refl _⟩
 | p::ps,a,ha,h=>by
  obtain ⟨i,k,rfl,hi,hk,h0⟩:=h p (List.mem_cons_self ..)
  unfold Kl
  split
  ·
   have ih:=zh6 ps i hi fun p hp=>h p (List.mem_cons_of_mem _ hp)
   exact ⟨ih.1,Nat.le_succ_of_le ih.2⟩
  ·
   rename_i hn
   have hi0:i=0:=by simp at hn;omega
   have ih:=zh6 ps a ha fun p hp=>h p (List.mem_cons_of_mem _ hp)
   refine ⟨fun q hq=>?_,by rw [List.length_cons,List.length_cons];omega⟩
   rcases List.mem_cons.1 hq with rfl | hq
   ·
    exact ⟨a,k-1,by simp;omega,ha,by omega⟩
   ·
    exact ih.1 q hq
theorem Xu {xs:List Wr}{i:Nat}:(∀ p∈pfW xs i,QOK (csW xs 0).length (csW xs i).length p)∧(pfW xs i).length≤(csW xs 0).length+(csW xs i).length:=by
 unfold pfW
 split
 ·
  exact ⟨(fun p hp=>by cases hp),Nat.zero_le _⟩
 ·
  exact zdS
theorem zom {xs:List Wr}{i:Nat}:(∀ q∈alW xs i,∃ c r:Nat,q=((c:Int),(r:Int))∧c≤(csW xs 0).length∧r<(csW xs i).length)∧(alW xs i).length≤(csW xs 0).length+(csW xs i).length:=by
 have h:=zh6 (pfW xs i) 0 (Nat.zero_le _) (Xu (xs:=xs) (i:=i)).1
 exact ⟨h.1,Nat.le_trans h.2 Xu.2⟩
theorem WR {xs:List Wr}{i B:Nat}(h:∀ x∈xs,x.rs.length≤B):(csW xs i).length≤B:=by
 unfold csW
 cases hx:xs[i]? with
 | none=>exact Nat.zero_le _
 | some x=>
  have:=h x (List.mem_of_getElem? hx)
  show (x.rs.map YJ).length≤B
  rw [List.length_map];exact this
def PrQ (I:Qu)(xs:List Wr)(hs:List Hd)(i:Nat):Prop:=∀ j,j<i→∃ h,hs[j]? =some h∧h.n=(pfW xs j).length∧Sl I 2 V8 h.a h.n h.c (pfW xs j)
theorem PrQ.mono {I I':Qu}{xs:List Wr}{hs:List Hd}{i:Nat}(h:PrQ I xs hs i)(hI:HLe I I'):PrQ I' xs hs i:=fun j hj=>by
 obtain ⟨x,h1,h2,h3⟩:=h j hj;exact ⟨x,h1,h2,h3.mono hI⟩
theorem PrQ.start {I:Qu}{xs:List Wr}{n:Nat}(hn:0<n):PrQ I xs (List.replicate n ⟨none,0,0⟩) 1:=fun j hj=>by
 obtain rfl:j=0:=by omega
 exact ⟨_,by simp [hn];rfl,rfl,.nil⟩
theorem PrQ.put {I:Qu}{xs:List Wr}{hs:List Hd}{i:Nat}{a:Option Addr}{n c:Nat}(h:PrQ I xs hs i)(hi:0<i)(hil:i<hs.length)(hS:Sl I 2 V8 a n c (V6 (csW xs 0) (csW xs i))):PrQ I xs (hs.set i ⟨a,n,c⟩) (i+1):=fun j hj=>by
 have hp:pfW xs i=V6 (csW xs 0) (csW xs i):=by unfold pfW;rw [if_neg (by omega)]
 by_cases e:j=i
 ·
  subst e
  exact ⟨⟨a,n,c⟩,by rw [List.getElem?_set_self hil],by rw [hp];exact hS.len.symm,by rw [hp];exact hS⟩
 ·
  obtain ⟨x,h1,h2,h3⟩:=h j (by omega)
  exact ⟨x,by rw [List.getElem?_set_ne (Ne.symm e)];exact h1,h2,h3⟩
end
section
open Go Go.Kn Go.Proofs
theorem UF (row:List Int)(m:Nat)(b:Int):(Zi row).setIfInBounds (m*1) (.int .i64 b)=Zi (row.set m b):=by
 unfold Zi
 rw [JG,JG,Nat.mul_one,List.setIfInBounds_toArray,List.map_set]
theorem zvf {row:List Int}{m:Nat}(h:m<row.length):Nat.blt (m*1) (Zi row).size=true:=by
 unfold Zi
 rw [JG,Nat.mul_one]
 simpa [Nat.blt_eq] using h
theorem znC {I:Qu}{b t k:Nat}{hs:List Hd}{h:Hd}{l:Go.Kn.Loc}(e:hs[k]? =some h):QT I ((b,.cells (VX hs) t (0,0))::l) b (k*1) (.slice h.a h.n h.c):=by
 refine .here ?_
 rw [Vq]
 unfold VX
 rw [zap,Nat.mul_one]
 simp [e]
theorem Cells.imm {I:Qu}{b t:Nat}{vs:List Value}{fz:Nat×Nat}{l:Go.Kn.Loc}(h:I b=some (.cells vs.toArray t fz)):Cells I l b 0 vs:=fun j v hj=>.imm h (by rw [Vq,Nat.zero_add];simpa using hj)
theorem zkq {xs:List Wr}(h:(Ut xs != 0||xs.length==0)=false):Ut xs=0∧0<xs.length∧xs.length≤24∧∀ x∈xs,x.rs.length≤64:=by
 have h1:Ut xs=0∧¬xs.length=0:=by simpa using h
 obtain ⟨h1,h2⟩:=h1
 unfold Ut at h1
 split at h1
 ·
  cases h1
 ·
  rename_i h3
  split at h1
  ·
   cases h1
  ·
   rename_i h4
   refine ⟨by unfold Ut;rw [if_neg h3,if_neg h4];exact h1,by omega,by omega,fun x hx=>?_⟩
   have h5:xs.any (fun x=>decide (x.rs.length>64))=false:=by simpa using h4
   have:=List.any_eq_false.1 h5 x hx
   simp at this;omega
theorem zox {xs:List Wr}{i:Nat}{q:Int×Int}{pre:List (Int×Int)}(h:pre++[q]<+:alW xs i):0≤q.1∧q.1.toNat<(csW xs 0).length+1∧0≤q.2∧q.2.toNat<(csW xs i).length∧cnt pre q.1.toNat<cnt (alW xs i) q.1.toNat:=by
 obtain ⟨c,r,rfl,h1,h2⟩:=zom.1 q (h.subset (by simp))
 have h3:=zp8 (a:=((c:Int),(r:Int)).1.toNat) h
 rw [zb6 rfl] at h3
 exact ⟨by simp,by simp;omega,by simp,by simpa using h2,h3⟩
theorem zk5 {xs:List Wr}(h:∀ x∈xs,x.rs.length≤64)(i:Nat):(alW xs i).length≤128:=by
 have h1:=(zom (xs:=xs) (i:=i)).2
 have h2:=WR (i:=0) h
 have h3:=WR (i:=i) h
 omega
theorem zxz {xs:List Wr}{i k:Nat}{y:Int×Int}(h:(pfW xs i)[k]? =some y):0≤y.1∧y.1≤(csW xs 0).length∧0≤y.2∧y.2≤(csW xs i).length:=by
 obtain ⟨a,b,rfl,h1,h2,_⟩:=Xu.1 y (List.mem_of_getElem? h)
 simp;omega
theorem zxr {xs:List Wr}(hb:∀ x∈xs,x.rs.length≤64)(i:Nat):∀ p∈pfW xs i, -1000000≤p.2∧p.2≤1000000:=fun p hp=>by
 obtain ⟨a,b,rfl,h1,h2,_⟩:=Xu.1 p hp
 have:=WR (i:=i) hb
 simp;omega
theorem zoY {xs:List Wr}{k:Nat}(h:k<(csW xs 0).length):Ym (wdW xs) k+wdW xs k<loW xs:=by
 have h1:=W2 (w:=wdW xs) (show k<k+1 by omega)
 have h2:=W2 (w:=wdW xs) (show k+1<(csW xs 0).length+1 by omega)
 have h3:Ym (wdW xs) (k+1)=Ym (wdW xs) k+(wdW xs k+1):=rfl
 unfold loW;omega
theorem zrO {xs:List Wr}{a i c:Nat}(ha:a<(csW xs 0).length+1)(hi:i<xs.length)(hc:c<cnt (alW xs i) a):Ym (wdW xs) a+c<loW xs:=by
 have h1:=W2 (w:=wdW xs) ha
 have h2:cnt (alW xs i) a≤wdW xs a:=zf0 hi
 unfold loW;omega
theorem zzf {xs:List Wr}:((Ym (wdW xs) ((csW xs 0).length+1):Nat):Int)-1=((loW xs:Nat):Int):=by
 have:=zkV (w:=wdW xs) ((csW xs 0).length+1)
 unfold loW;omega
theorem zh5 {w:Nat→Nat}{l:List Int}{f:Nat→Int}{y:Int×Int}(h:(decide (y.1>0)&&decide (y.2>0))=true):prF w l f y=KZ f (Ym w (y.1-1).toNat+w (y.1-1).toNat) (l.getD (y.2-1).toNat 0):=by unfold prF;rw [if_pos h]
theorem zpb {w:Nat→Nat}{l:List Int}{f:Nat→Int}{y:Int×Int}(h:(decide (y.1>0)&&decide (y.2>0))=false):prF w l f y=f:=by unfold prF;rw [if_neg (by rw [h];decide)]
theorem zm8 {f g:Nat→Nat}{a:Nat}:ztl (YI f a) (YI g a)=((max (f a) (g a):Nat):Int):=znM
theorem zbx {f:Nat→Nat}{a B:Nat}(h:f a≤B):0≤YI f a∧YI f a≤(B:Int):=by unfold YI;omega
theorem zgg {n:Nat}:((n:Int)==0)=(n==0):=by rw [Bool.eq_iff_iff];simp
end
section
open Go Go.Kn Go.Proofs
theorem zwO:Fun Tryz.prog 58:=.of Tryz.func58 (by kernel_rfl) (by kernel_rfl)
theorem Vy:Fun Tryz.prog 59:=.of Tryz.func59 (by kernel_rfl) (by kernel_rfl)
theorem zw4:Fun Tryz.prog 60:=.of Tryz.func60 (by kernel_rfl) (by kernel_rfl)
theorem zn2:Fun Tryz.prog 61:=.of Tryz.func61 (by kernel_rfl) (by kernel_rfl)
theorem zrG:MkT Tryz.prog 133 41 24 (.slice none 0 0):=⟨by kernel_rfl,by kernel_rfl,rfl⟩
theorem zbD:SlT Tryz.prog 133 41 1:=.of (by kernel_rfl)
theorem zt0:SzT Tryz.prog 41 1:=.of (by kernel_rfl)
set_option maxHeartbeats 40000000 in
theorem zli {I:Qu} {av:Option Addr} {n c:Nat} {xs:List Wr} (hW0:SlW I av n c xs) (hn:n≤100000):Yf Tryz.prog 27 [.slice av n c] I [] (zbg (zai xs) (Uv xs)):=by
 intro g H w hw
 refine zeF Tryz.func27 rfl Tryz.ntmps27 rfl hw ?_
 have hIc:=zAh I
 obtain ⟨ws,hW⟩:=id hW0
 have hH:=hW.1
 have hlW:=hW.len
 subst hlW
 refine zR (zA ?_)
 refine zA (zN (Ql (zR ?_)))
 refine zM ?_
 refine qc (vs:=[_]) rfl zwO (zt4 hW0 hn) ?_
 refine zA ?_
 refine zN (zR ?_)
 refine zM ?_
 refine zC ?_
 refine zM ?_
 refine QR 2 rfl rfl rfl ?_
 refine zJ (Qi rfl) ?_
 refine zJ (Zr rfl Y9) ?_
 refine zJ (QG rfl rfl rfl) ?_
 refine Zo rfl rfl rfl rfl rfl ?_
 refine zN ?_
 refine zI ?_ ?_<;>intro hc33
 ·
  rw [zgg] at hc33
  refine zR (zM ?_)
  refine zA ?_
  refine zA (zN (Qt (Qc ?_)))
  first
  | exact Uh (L:=[]) (fun a ha w hw=>zvM rfl rfl rfl a ha w) (fun w hw=>⟨_,I,[],rfl,hIc,hw.drop,by rw [(zsy hc33).1];exact zbg.empty (zsy hc33).2⟩)
 rw [zgg] at hc33
 obtain ⟨hck,hx1,hx24,hrs⟩:=zkq hc33
 obtain ⟨w0,x0,hx0,hv0,e01,e02,hR0⟩:=hW.at (k:=0) (by omega)
 have hcs0:x0.rs.map YJ=csW xs 0:=(za9 hv0).symm
 have hM64:=WR (i:=0) hrs
 have hR0l:=hR0.len
 have hx0b:=hrs x0 (List.mem_of_getElem? hv0)
 refine Qn (Qa (zR (zM ?_)))
 refine zV (zX Y9 hH) ?_
 refine zV (Qo rfl zas (fun hg=>by exact zAi hH hx0) rfl) ?_
 refine Qz (cap:=[]) (vs:=[_]) rfl rfl Vy .nil (Yt hR0 (by omega) _ _) rfl rfl ?_
 rintro vv1 I1 L1 hI1 ⟨rfl,av4,c4,rfl,hT⟩
 have hW:=hW.mono hI1;have hH:=hH.mono hI1;have hIc:=hIc.trans hI1
 rw [hcs0] at hT ⊢
 refine zA ?_
 refine zN (zR ?_)
 refine zM ?_
 refine zQ Y9 ?_
 refine Q5 zrG rfl rfl (by omega) (by decide) rfl rfl (fun b_41=>?_)
 refine zA (Qb ?_)
 rw [show ((xs.length:Nat):Int).toNat=xs.length from rfl,zg2]
 refine Qa (zR (zM ?_))
 refine zQ Qw ?_
 refine zB ?_
 refine Q5 YQ rfl rfl (by omega) (by decide) rfl rfl (fun b_45=>?_)
 refine Qs Yq rfl rfl (fun b_6=>?_)
 refine zS Zk ?_
 refine Qb ?_
 have e1:(((csW xs 0).length:Nat):Int)+1=(((csW xs 0).length+1:Nat):Int):=rfl
 rw [e1,show (((csW xs 0).length+1:Nat):Int).toNat=(csW xs 0).length+1 from rfl,Q3,Zf,Wj]
 refine Zg (b:=b_6) (by repeat (first | exact Q8.here | apply Q8.there)) (fun I2 hI2 hb2=>?_)
 have hW:=hW.mono hI2;have hH:=hH.mono hI2;have hT:=hT.mono hI2;have hIc:=hIc.trans hI2
 have hC6:QT I2 [] b_6 0 (.slice (some ⟨b_45,0,none⟩) ((csW xs 0).length+1) ((csW xs 0).length+1)):=.imm hb2 rfl
 refine Qa (Ql (Ql ?_))
 have hw1:=zqP (al:=alW xs) zbu
 refine J9 (loc':=(b_45,.cells (Zi (Vd ((csW xs 0).length+1) (YI (wdF (alW xs) 1)))) 3 (0,0))::(b_41,.cells (VX (List.replicate xs.length ⟨none,0,0⟩)) 41 (0,0))::MB []) (by rw [hw1];rfl) ?_
 refine Qg (zA (zN (Qm ?_)))
 refine UE [(0,_),(2,_),(4,_),(5,_),(6,_)] (.cons rfl (.cons rfl (.cons rfl (.cons rfl (.cons rfl .nil))))) (fun T L0 mz ms E I' loc'=>∃ (i:Nat) (hs:List Hd),mz=xs.length-i∧E=(7,.int .i64 i)::T∧HLe I2 I'∧(b_45,.cells (Zi (Vd ((csW xs 0).length+1) (YI (wdF (alW xs) i)))) 3 (0,0))::(b_41,.cells (VX hs) 41 (0,0))::MB ms=loc'∧i≤xs.length∧1≤i∧hs.length=xs.length∧PrQ I' xs hs i) _ _ _ _ ⟨1,_,rfl,rfl,zAh _,rfl,hx1,Nat.le_refl _,by rw [List.length_replicate],PrQ.start hx1⟩ (.cons rfl (.cons rfl (.cons rfl (.cons rfl (.cons rfl (.cons rfl .nil)))))) (zAh _) rfl ?_
 rintro mz ms E J3 loc' ⟨i,hs,rfl,rfl,hJ,rfl,hi,hi1,hhl,hPr⟩
 have hW:=hW.mono hJ;have hH:=hH.mono hJ;have hT:=hT.mono hJ;have hC6:=hC6.mono hJ;have hIc:=hIc.trans hJ
 have hB0:=hJ
 refine Ql (zR (zM ?_))
 refine zM ?_
 refine zQ Y9 ?_
 refine zC (zN ?_)
 refine zI ?_ ?_<;>intro hc49
 ·
  have hlt_i:i<xs.length:=by have h:=hc49;simp at h;omega
  obtain ⟨w,x,hx,hv,e1,e2,hR⟩:=hW.at hlt_i
  have hcsi:x.rs.map YJ=csW xs i:=(za9 hv).symm
  have hMi:=WR (i:=i) hrs
  have hRl:=hR.len
  have hxb:=hrs x (List.mem_of_getElem? hv)
  refine Qn (Qa (Ql (Qm (zR (zM ?_)))))
  refine zM ?_
  refine zM ?_
  refine zM ?_
  refine zM ?_
  refine zV (zX Y9 hH) ?_
  refine zV (Qo rfl zas (fun hg=>by exact zAi hH hx) rfl) ?_
  refine Qz (cap:=[]) (vs:=[_]) rfl rfl Vy .nil (Yt hR (by omega) _ _) rfl rfl ?_
  rintro vv4 I4 L4 hI4 ⟨rfl,av7,c7,rfl,hT7⟩
  have hT:=hT.mono hI4;have hC6:=hC6.mono hI4;have hPr:=hPr.mono hI4;have hB0:=hB0.trans hI4
  rw [hcsi] at hT7 ⊢
  refine Qz (cap:=[]) (vs:=[_,_]) rfl rfl zw4 .nil (zvk hT hT7 (by omega) (by omega)) rfl rfl ?_
  rintro vv5 I5 L5 hI5 ⟨rfl,z8,av8,c8,rfl,hP8⟩
  have hC6:=hC6.mono hI5;have hPr:=hPr.mono hI5;have hB0:=hB0.trans hI5
  refine zM ?_
  refine zE ?_
  refine zE ?_
  refine zE ?_
  refine zV (Q6 rfl rfl zbD (fun hg=>by omega)) ?_
  refine ZI rfl rfl zt0 rfl rfl (by repeat (first | exact Upd.here | apply Upd.there | apply QK)) (zz4 (by omega)) ?_
  refine Qb ?_
  rw [show (#[Value.int .i64 z8,Value.slice av8 (V6 (csW xs 0) (csW xs i)).length c8,Value.int .i64 (Xv (csW xs 0) (csW xs i))]:Array Value)[1]=Value.slice av8 (V6 (csW xs 0) (csW xs i)).length c8 from rfl,zg4]
  have hPr2:=hPr.put (by omega) (by omega) hP8
  have hs2_at:(hs.set i ⟨av8,(V6 (csW xs 0) (csW xs i)).length,c8⟩)[i]? =some ⟨av8,(V6 (csW xs 0) (csW xs i)).length,c8⟩:=List.getElem?_set_self (by omega)
  have hpfe:pfW xs i=V6 (csW xs 0) (csW xs i):=by unfold pfW;rw [if_neg (by omega)]
  have hPi:Sl I5 2 V8 av8 (V6 (csW xs 0) (csW xs i)).length c8 (pfW xs i):=by rw [hpfe];exact hP8
  have hpl:=(Xu (xs:=xs) (i:=i)).2
  have hpr:=(zdS (a:=(csW xs 0)) (b:=(csW xs i))).2
  refine Qa (zR (zM ?_))
  refine zQ Qw ?_
  refine zB ?_
  refine Q5 YQ rfl rfl (by omega) (by decide) rfl rfl (fun b_69=>?_)
  refine Qs Yq rfl rfl (fun b_8=>?_)
  refine zS Zk ?_
  refine Qb ?_
  have e1:(((csW xs 0).length:Nat):Int)+1=(((csW xs 0).length+1:Nat):Int):=rfl
  rw [e1,show (((csW xs 0).length+1:Nat):Int).toNat=(csW xs 0).length+1 from rfl,Q3,Zf,Wj]
  refine Zg (b:=b_8) (by repeat (first | exact Q8.here | apply Q8.there)) (fun I6 hI6 hb6=>?_)
  have hC6:=hC6.mono hI6;have hPr2:=hPr2.mono hI6;have hPi:=hPi.mono hI6;have hB0:=hB0.trans hI6
  have hC8:QT I6 [] b_8 0 (.slice (some ⟨b_69,0,none⟩) ((csW xs 0).length+1) ((csW xs 0).length+1)):=.imm hb6 rfl
  refine Qa (zR (zM ?_))
  refine zM ?_
  refine zV (Q6 rfl rfl zbD (fun hg=>by omega)) ?_
  refine zV (Qe rfl zfT (fun hg=>by exact zAb (zAb (znC hs2_at)))) ?_
  refine Qz (cap:=[]) (vs:=[_]) rfl rfl zn2 .nil (zjy _ _ _ _) rfl rfl ?_
  rintro vv7 I7 L7 hI7 ⟨rfl,b1,rfl,hb1⟩
  have hC6:=hC6.mono hI7;have hPr2:=hPr2.mono hI7;have hPi:=hPi.mono hI7;have hC8:=hC8.mono hI7;have hB0:=hB0.trans hI7
  refine zN (Qm ?_)
  refine J9 (loc':=[]++(((b_69,.cells (Zi (Vd ((csW xs 0).length+1) (YI (cnt [])))) 3 (0,0))::(b_45,.cells (Zi (Vd ((csW xs 0).length+1) (YI (wmx (wdF (alW xs) i) [])))) 3 (0,0))::(b_41,.cells (VX (hs.set i ⟨av8,(V6 (csW xs 0) (csW xs i)).length,c8⟩)) 41 (0,0))::[])++MB ms)) (by rw [zhJ];rfl) ?_
  refine Wu (K:=[]) (L:=(b_69,.cells (Zi (Vd ((csW xs 0).length+1) (YI (cnt [])))) 3 (0,0))::(b_45,.cells (Zi (Vd ((csW xs 0).length+1) (YI (wmx (wdF (alW xs) i) [])))) 3 (0,0))::(b_41,.cells (VX (hs.set i ⟨av8,(V6 (csW xs 0) (csW xs i)).length,c8⟩)) 41 (0,0))::[]) (en1:=zyS) (en2:=zyx) (xs:=alW xs i) (fun pre I' loc'=>loc'=(b_69,.cells (Zi (Vd ((csW xs 0).length+1) (YI (cnt pre)))) 3 (0,0))::(b_45,.cells (Zi (Vd ((csW xs 0).length+1) (YI (wmx (wdF (alW xs) i) pre)))) 3 (0,0))::(b_41,.cells (VX (hs.set i ⟨av8,(V6 (csW xs 0) (csW xs i)).length,c8⟩)) 41 (0,0))::[]) (fun _ _ _ _=>False) (fun pre x E2 I2 loc2=>E2=[(6,Zc b_6),(8,Zc b_8),(9,.int .i64 x.1)]∧loc2=(b_69,.cells (Zi (Vd ((csW xs 0).length+1) (YI (cnt pre)))) 3 (0,0))::(b_45,.cells (Zi (Vd ((csW xs 0).length+1) (YI (wmx (wdF (alW xs) i) pre)))) 3 (0,0))::(b_41,.cells (VX (hs.set i ⟨av8,(V6 (csW xs 0) (csW xs i)).length,c8⟩)) 41 (0,0))::[]) rfl zi1 (zjL hPi (by omega) (zxr hrs i) hb1) rfl rfl rfl ?_ ?_ ?_ ?_
  ·
   rintro l9 pre x I1 loc1 H1 hpre hI1 rfl
   refine Qg (zA (Qb ?_))
   exact zcF _ ⟨zAh _,rfl,rfl⟩ (.cons rfl (.cons rfl (.cons rfl .nil)))
  ·
   rintro l9 pre x E2 I2 loc2 H2 hpre hI2 ⟨rfl,rfl⟩
   have hC6:=hC6.mono hI2;have hC8:=hC8.mono hI2
   obtain ⟨x1,x2,x3,x4,x5⟩:=zox hpre
   have hcb:=Nat.le_trans (@zeg (alW xs i) x.1.toNat) (zk5 hrs i)
   have hnc:=zbx (f:=cnt pre) (a:=x.1.toNat) (B:=128) (by omega)
   refine Qm (zR ?_)
   refine zV (Qe rfl QJ (fun hg=>by exact hC8.any)) ?_
   refine zM ?_
   refine zV (Q6 rfl rfl Qw (fun hg=>by omega)) ?_
   refine zV (Qe rfl Qr (fun hg=>by exact Jh (YH (by omega)))) ?_
   refine zB ?_
   refine zV (Q6 rfl rfl Qw (fun hg=>by omega)) ?_
   refine ZI rfl rfl Z2 rfl rfl (by repeat (first | exact Upd.here | apply Upd.there | apply QK)) (zvf (by rw [Yb];omega)) ?_
   refine Qb ?_
   rw [UF,JZ,show YI (cnt pre) x.1.toNat+1=((cnt pre x.1.toNat+1:Nat):Int) from rfl,zaJ,←Ue]
   refine Qa ?_
   have hD:=zAh I2
   refine Jl ?_
   refine Z0 I2 [(b_69,.cells (Zi (Vd ((csW xs 0).length+1) (YI (cnt (pre++[x]))))) 3 (0,0))] mixed ?_
   refine zT 0 rfl (Qe rfl QJ (fun hg=>by exact hC6.any)) hD ?_
   refine zT 1 rfl (Qi rfl) hD ?_
   refine zT 2 rfl (Qe rfl QJ (fun hg=>by exact hC6.any)) hD ?_
   refine zT 3 rfl (Qi rfl) hD ?_
   refine zT 4 rfl (Q6 rfl rfl Qw (fun hg=>by omega)) hD ?_
   refine zT 6 rfl (Qe rfl QJ (fun hg=>by exact hC8.any)) hD ?_
   refine zT 7 rfl (Qi rfl) hD ?_
   refine zT 8 rfl (Q6 rfl rfl Qw (fun hg=>by omega)) hD ?_
   refine zT 9 rfl (Qe rfl Qr (fun hg=>by exact Jh (YH (by omega)))) hD ?_
   refine qd 5 rfl ?_
   refine zV (Qe rfl Qr (fun hg=>by exact zAb (Jh (YH (by omega))))) ?_
   refine Qb ?_
   refine zD hD ?_
   refine zT 10 rfl (Y8 rfl rfl) hD ?_
   refine zT 11 rfl (Q6 rfl rfl Qw (fun hg=>by omega)) hD ?_
   refine qd 12 rfl ?_
   refine ZI rfl rfl Z2 rfl rfl (by repeat (first | exact Upd.here | apply Upd.there | apply QK)) (zvf (by rw [Yb];omega)) ?_
   refine Qb ?_
   refine zD hD ?_
   refine QF (by kernel_rfl) ?_
   refine QO ?_
   rw [zm8,UF,JZ,zaJ,zm9 rfl]
   refine Qf ?_
   exact zaG ⟨zAh _,rfl⟩ .refl
  ·
   rintro bd I1 loc1 hI1 rfl
   have hPr2:=hPr2.mono hI1;have hB0:=hB0.trans hI1
   refine Qf (Qf (Qa (Qg (zM ?_))))
   refine zB ?_
   refine zA (Qb ?_)
   exact zd (h:=⟨xs.length-(i+1),by omega,i+1,_,rfl,rfl,hB0,rfl,by omega,by omega,by rw [List.length_set];exact hhl,hPr2⟩)
  rintro c bd pre I1 loc1 hI1 hpre hF;exact hF.elim
 have hge_i:xs.length≤i:=by have h:=hc49;simp at h;omega
 obtain rfl:i=xs.length:=by omega
 refine QI (Qh (Qh (Qk (Qa (zR (zM ?_))))))
 refine zQ Qw ?_
 refine zB ?_
 refine Q5 YQ rfl rfl (by omega) (by decide) rfl rfl (fun b_98=>?_)
 refine Qs Yq rfl rfl (fun b_10=>?_)
 refine zS Zk ?_
 refine Qb ?_
 have e1:(((csW xs 0).length:Nat):Int)+1=(((csW xs 0).length+1:Nat):Int):=rfl
 rw [e1,show (((csW xs 0).length+1:Nat):Int).toNat=(csW xs 0).length+1 from rfl,Q3,Zf,Wj,←zmF (w:=(wdW xs))]
 refine Zg (b:=b_10) (by repeat (first | exact Q8.here | apply Q8.there)) (fun I8 hI8 hb8=>?_)
 have hW:=hW.mono hI8;have hH:=hH.mono hI8;have hT:=hT.mono hI8;have hC6:=hC6.mono hI8;have hPr:=hPr.mono hI8;have hIc:=hIc.trans hI8
 have hC10:QT I8 [] b_10 0 (.slice (some ⟨b_98,0,none⟩) ((csW xs 0).length+1) ((csW xs 0).length+1)):=.imm hb8 rfl
 refine Qa (zR (zA (zN (Ql (zR ?_)))))
 refine zV (Qe rfl QJ (fun hg=>by exact hC6.any)) ?_
 refine zQ Qw ?_
 refine zM (zN (Qm ?_))
 refine UE [(0,_),(2,_),(4,_),(5,_),(6,_),(10,_),(99,_),(100,_)] (.cons rfl (.cons rfl (.cons rfl (.cons rfl (.cons rfl (.cons rfl (.cons rfl (.cons rfl .nil)))))))) (fun T L0 mz ms E I' loc'=>∃ (k:Nat),mz=((csW xs 0).length+1)-k∧E=(11,.int .i64 ((Ym (wdW xs) k:Nat):Int))::(101,.int .i64 k)::T∧I8=I'∧(b_98,.cells (Zi (Vd ((csW xs 0).length+1) (YI (atK (wdW xs) k)))) 3 (0,0))::(b_45,.cells (Zi (Vd ((csW xs 0).length+1) (YI (wdW xs)))) 3 (0,0))::(b_41,.cells (VX hs) 41 (0,0))::MB ms=loc'∧k≤((csW xs 0).length+1)) _ _ _ _ ⟨0,rfl,rfl,rfl,rfl,Nat.zero_le _⟩ (.cons rfl (.cons rfl (.cons rfl (.cons rfl (.cons rfl (.cons rfl (.cons rfl (.cons rfl (.cons rfl (.cons rfl .nil)))))))))) (zAh _) rfl ?_
 rintro mz ms E I' loc' ⟨k,rfl,rfl,rfl,rfl,hk⟩
 refine zR (zC (zN (Ql ?_)))
 refine zI ?_ ?_<;>intro hc102
 ·
  have hlt_k:k<((csW xs 0).length+1):=by have h:=hc102;simp at h;omega
  have hns:=zbx (f:=Ym (wdW xs)) (a:=k) (B:=20000) (Nat.le_trans (zeU (zfJ (zk5 hrs) _) k) (Nat.le_trans (Nat.mul_le_mul_right 129 (show k≤65 by omega)) (by decide)))
  have hnw:=zbx (f:=(wdW xs)) (a:=k) (B:=128) (zfJ (zk5 hrs) _ _)
  have e9:YI (Ym (wdW xs)) k=((Ym (wdW xs) k:Nat):Int):=rfl
  refine Qn (Qa (Ql (Qm (zR (zM ?_)))))
  refine zV (Q6 rfl rfl Qw (fun hg=>by omega)) ?_
  refine zV (Qe rfl Qr (fun hg=>by exact zAb (Jh (k:=k) (YH (show k<_ by omega))))) ?_
  refine zA ?_
  refine zA ?_
  refine zN (zR ?_)
  refine zV (Qe rfl QJ (fun hg=>by exact hC10.any)) ?_
  refine zM ?_
  refine zM ?_
  refine zV (Q6 rfl rfl Qw (fun hg=>by omega)) ?_
  refine ZI rfl rfl Z2 rfl rfl (by repeat (first | exact Upd.here | apply Upd.there | apply QK)) (zvf (by rw [Yb];omega)) ?_
  refine Qb ?_
  rw [VN,JZ,zaJ,znA]
  refine Qa (Qg (zM ?_))
  refine zM ?_
  refine zB ?_
  refine zB ?_
  refine zA (Qb (Qf (Qa (Qg ?_))))
  refine zB ?_
  refine zM (Qb ?_)
  exact zd (h:=⟨((csW xs 0).length+1)-(k+1),by omega,k+1,rfl,rfl,rfl,rfl,by omega⟩)
 have hge_k:((csW xs 0).length+1)≤k:=by have h:=hc102;simp at h;omega
 obtain rfl:k=(csW xs 0).length+1:=by omega
 have hsE:=Nat.le_trans (zeU (w:=wdW xs) (zfJ (zk5 hrs) _) ((csW xs 0).length+1)) (Nat.mul_le_mul_right 129 (show (csW xs 0).length+1≤65 by omega))
 refine QI (Qh (Qh (Qk (Qa (Ql (zR (zM ?_)))))))
 refine zB ?_
 refine zA (Qb ?_)
 rw [zzf]
 refine Qa (zR (zM ?_))
 refine zC (zN ?_)
 refine zI ?_ ?_<;>intro hc118
 ·
  have hbig:loW xs>256:=by have h:=hc118;simp at h;omega
  obtain ⟨t1,t2⟩:=zya hc33 hbig
  refine zR (zA ?_)
  refine zA (zN (Qt (Qc ?_)))
  first
  | exact Uh (L:=_::_::_::[]) (fun a ha w hw=>zvM rfl rfl rfl a ha w) (fun w hw=>⟨_,I8,[],rfl,hIc,hw.drop,by rw [t1];exact zbg.empty t2⟩)
 have hbig:¬loW xs>256:=by have h:=hc118;simp at h;omega
 obtain ⟨t1,t2⟩:=zyn hc33 hbig
 refine J9 (by rw [zqQ]) ?_
 refine zdz (L:=(b_98,.cells (Zi (Vd ((csW xs 0).length+1) (YI (Ym (wdW xs))))) 3 (0,0))::(b_45,.cells (Zi (Vd ((csW xs 0).length+1) (YI (wdW xs)))) 3 (0,0))::(b_41,.cells (VX hs) 41 (0,0))::[]) (R:=MB ms) (.cons .here (.cons .here (.cons .here .nil))) (fun I10 hI10 hall=>?_)
 have hW:=hW.mono hI10;have hH:=hH.mono hI10;have hT:=hT.mono hI10;have hC6:=hC6.mono hI10;have hPr:=hPr.mono hI10;have hC10:=hC10.mono hI10;have hIc:=hIc.trans hI10
 have hAt:Sl I10 1 QQ (some ⟨b_98,0,none⟩) ((csW xs 0).length+1) ((csW xs 0).length+1) (Vd ((csW xs 0).length+1) (YI (Ym (wdW xs)))):=Sl.lit _ Yb Qv (hall _ _ (by repeat (first | exact List.mem_cons_self .. | apply List.mem_cons_of_mem)))
 have hWd:Sl I10 1 QQ (some ⟨b_45,0,none⟩) ((csW xs 0).length+1) ((csW xs 0).length+1) (Vd ((csW xs 0).length+1) (YI (wdW xs))):=Sl.lit _ Yb Qv (hall _ _ (by repeat (first | exact List.mem_cons_self .. | apply List.mem_cons_of_mem)))
 have hPs:Sl I10 1 XI (some ⟨b_41,0,none⟩) xs.length xs.length hs:=Sl.lit _ hhl Zb (hall _ _ (by repeat (first | exact List.mem_cons_self .. | apply List.mem_cons_of_mem)))
 refine J9 (loc':=[]++MB ms) rfl ?_
 refine Qn (Qa (Ql (zR (zM ?_))))
 refine zQ Y9 ?_
 refine zM (zN (Qm ?_))
 refine UE [(4,_),(5,_),(6,_),(10,_),(11,_),(119,_),(120,_)] (.cons rfl (.cons rfl (.cons rfl (.cons rfl (.cons rfl (.cons rfl (.cons rfl .nil))))))) (fun T L0 mz ms E I' loc'=>∃ (i:Nat) (v2:Value) (os:List Hd) (L:Go.Kn.Loc),mz=xs.length-i∧E=(2,v2)::(121,.int .i64 i)::T∧HLe I10 I'∧L++MB ms=loc'∧i≤xs.length∧OwnS 23 1 v2 i (os.flatMap XI) L∧zdT I' os ((List.range i).map (zcN xs))) _ _ _ _ ⟨0,_,[],[],rfl,rfl,zAh _,rfl,Nat.zero_le _,OwnS.nil,zdT.nil⟩ (.cons rfl (.cons rfl (.cons rfl (.cons rfl (.cons rfl (.cons rfl (.cons rfl (.cons rfl (.cons rfl .nil))))))))) (zAh _) rfl ?_
 rintro mz ms E J11 loc' ⟨i,v2,os,L,rfl,rfl,hJ,rfl,hi,hO,hre⟩
 have hW:=hW.mono hJ;have hH:=hH.mono hJ;have hT:=hT.mono hJ;have hC6:=hC6.mono hJ;have hPr:=hPr.mono hJ;have hC10:=hC10.mono hJ;have hAt:=hAt.mono hJ;have hWd:=hWd.mono hJ;have hPs:=hPs.mono hJ;have hIc:=hIc.trans hJ
 have hB6:=hJ
 obtain ⟨va2,vc2,rfl⟩:=zd6 hO
 refine zR (zC (zN (Ql ?_)))
 refine zI ?_ ?_<;>intro hc122
 ·
  have hlt_i:i<xs.length:=by have h:=hc122;simp at h;omega
  obtain ⟨w,x,hx,hv,e1,e2,hR⟩:=hW.at hlt_i
  have hcsi:x.rs.map YJ=csW xs i:=(za9 hv).symm
  have hMi:=WR (i:=i) hrs
  have hRl:=hR.len
  have hxb:=hrs x (List.mem_of_getElem? hv)
  obtain ⟨hp,hhp,hhn,hPf⟩:=hPr i hlt_i
  have hpl:=(Xu (xs:=xs) (i:=i)).2
  refine Qn (Qa (Ql (Qm (zR (zM ?_)))))
  refine zV (zX Y9 hH) ?_
  refine zV (Qo rfl zas (fun hg=>by exact zAi hH hx) rfl) ?_
  refine Qs ztc rfl rfl (fun b_15=>?_)
  refine zA ?_
  refine zh zkW ?_
  refine zN ?_
  refine zoQ [(2,_),(4,_),(5,_),(6,_),(10,_),(11,_),(14,_),(119,_),(120,_),(121,_)] (.cons rfl (.cons rfl (.cons rfl (.cons rfl (.cons rfl (.cons rfl (.cons rfl (.cons rfl (.cons rfl (.cons rfl .nil)))))))))) (fun T L0 ms E I' loc'=>∃ (b16 b17 b127:Nat) (av17:Option Addr) (c17:Nat),E=(16,Zc b16)::(17,Zc b17)::T∧HLe J11 I'∧(b127,.cells (Zi (Vd (loW xs) (fun _=>0))) 3 (0,0))::(L++MB ms)=loc'∧QT I' [] b16 0 (.slice (some ⟨b127,0,none⟩) (loW xs) (loW xs))∧QT I' [] b17 0 (.slice av17 (csW xs i).length c17)∧Sl I' 1 QQ av17 (csW xs i).length c17 (csW xs i)) ?_ ?_
  ·
   have hKc30:=zAh J11
   have hD:=zAh J11
   refine Jl ?_
   refine Z0 J11 [(b_15,.cells (zlt w).toArray 65 (0,0))] mixed ?_
   refine zT 0 rfl (Qi rfl) hD ?_
   refine zT 2 rfl (Qo rfl zas (fun hg=>by exact Cells.g0) rfl) hD ?_
   refine zqJ 1 3 4 5 rfl rfl rfl rfl (by kernel_rfl) ?_ ?_ ?_ ?_
   ·
    refine Q5 YQ rfl rfl (by omega) (by decide) rfl rfl (fun b_127=>?_)
    refine Qb ?_
    refine zD hD ?_
    refine Uo 3 4 5 rfl rfl rfl (by kernel_rfl) ?_ ?_ ?_
    ·
     refine Qz (cap:=[]) (vs:=[_]) rfl rfl Vy .nil (Yt hR (by omega) _ _) rfl rfl ?_
     rintro vv12 I12 L12 hI12 ⟨rfl,av30,c30,rfl,hL30⟩
     have hKc30:=hKc30.trans hI12;have hD:=hD.trans hI12
     rw [hcsi] at hL30 ⊢
     refine Qb ?_
     refine zD hD ?_
     refine Zt 4 5 rfl rfl (by kernel_rfl) ?_ ?_
     ·
      refine Qs Yq rfl rfl (fun b_16=>?_)
      refine Qb ?_
      refine zD hD ?_
      refine qd 5 rfl ?_
      refine Qs Yq rfl rfl (fun b_17=>?_)
      refine Qb ?_
      refine zD hD ?_
      refine qd 6 rfl ?_
      refine zS Zk ?_
      refine Qb ?_
      refine zD hD ?_
      refine qd 7 rfl ?_
      refine zS Zk ?_
      refine Qb ?_
      refine zD hD ?_
      refine QF (by kernel_rfl) ?_
      refine QO ?_
      rw [show ((loW xs:Nat):Int).toNat=loW xs from rfl,Q3,Zf]
      refine QL (b:=b_16) (by repeat (first | exact Q8.here | apply Q8.there)) (fun I16 h16 e16=>?_)
      refine QL (b:=b_17) (by repeat (first | exact Q8.here | apply Q8.there)) (fun I17 h17 e17=>?_)
      exact zn (h:=⟨b_16,b_17,b_127,_,_,rfl,(hKc30.trans h16).trans h17,rfl,.imm (h17 _ _ e16) rfl,.imm e17 rfl,(hL30.mono h16).mono h17⟩)
     refine Qs Yq rfl rfl (fun b_17=>?_)
     refine Qb ?_
     refine zD hD ?_
     refine qd 4 rfl ?_
     refine Qs Yq rfl rfl (fun b_16=>?_)
     refine Qb ?_
     refine zD hD ?_
     refine qd 6 rfl ?_
     refine zS Zk ?_
     refine Qb ?_
     refine zD hD ?_
     refine qd 7 rfl ?_
     refine zS Zk ?_
     refine Qb ?_
     refine zD hD ?_
     refine QF (by kernel_rfl) ?_
     refine QO ?_
     rw [show ((loW xs:Nat):Int).toNat=loW xs from rfl,Q3,Zf]
     refine QL (b:=b_16) (by repeat (first | exact Q8.here | apply Q8.there)) (fun I16 h16 e16=>?_)
     refine QL (b:=b_17) (by repeat (first | exact Q8.here | apply Q8.there)) (fun I17 h17 e17=>?_)
     exact zn (h:=⟨b_16,b_17,b_127,_,_,rfl,(hKc30.trans h16).trans h17,rfl,.imm (h17 _ _ e16) rfl,.imm e17 rfl,(hL30.mono h16).mono h17⟩)
    ·
     refine Qs Yq rfl rfl (fun b_16=>?_)
     refine Qb ?_
     refine zD hD ?_
     refine Zt 3 5 rfl rfl (by kernel_rfl) ?_ ?_
     ·
      refine Qz (cap:=[]) (vs:=[_]) rfl rfl Vy .nil (Yt hR (by omega) _ _) rfl rfl ?_
      rintro vv13 I13 L13 hI13 ⟨rfl,av30,c30,rfl,hL30⟩
      have hKc30:=hKc30.trans hI13;have hD:=hD.trans hI13
      rw [hcsi] at hL30 ⊢
      refine Qb ?_
      refine zD hD ?_
      refine qd 5 rfl ?_
      refine Qs Yq rfl rfl (fun b_17=>?_)
      refine Qb ?_
      refine zD hD ?_
      refine qd 6 rfl ?_
      refine zS Zk ?_
      refine Qb ?_
      refine zD hD ?_
      refine qd 7 rfl ?_
      refine zS Zk ?_
      refine Qb ?_
      refine zD hD ?_
      refine QF (by kernel_rfl) ?_
      refine QO ?_
      rw [show ((loW xs:Nat):Int).toNat=loW xs from rfl,Q3,Zf]
      refine QL (b:=b_16) (by repeat (first | exact Q8.here | apply Q8.there)) (fun I16 h16 e16=>?_)
      refine QL (b:=b_17) (by repeat (first | exact Q8.here | apply Q8.there)) (fun I17 h17 e17=>?_)
      exact zn (h:=⟨b_16,b_17,b_127,_,_,rfl,(hKc30.trans h16).trans h17,rfl,.imm (h17 _ _ e16) rfl,.imm e17 rfl,(hL30.mono h16).mono h17⟩)
     refine Qs Yq rfl rfl (fun b_17=>?_)
     refine Qb ?_
     refine zD hD ?_
     refine qd 3 rfl ?_
     refine Qz (cap:=[]) (vs:=[_]) rfl rfl Vy .nil (Yt hR (by omega) _ _) rfl rfl ?_
     rintro vv14 I14 L14 hI14 ⟨rfl,av30,c30,rfl,hL30⟩
     have hKc30:=hKc30.trans hI14;have hD:=hD.trans hI14
     rw [hcsi] at hL30 ⊢
     refine Qb ?_
     refine zD hD ?_
     refine qd 6 rfl ?_
     refine zS Zk ?_
     refine Qb ?_
     refine zD hD ?_
     refine qd 7 rfl ?_
     refine zS Zk ?_
     refine Qb ?_
     refine zD hD ?_
     refine QF (by kernel_rfl) ?_
     refine QO ?_
     rw [show ((loW xs:Nat):Int).toNat=loW xs from rfl,Q3,Zf]
     refine QL (b:=b_16) (by repeat (first | exact Q8.here | apply Q8.there)) (fun I16 h16 e16=>?_)
     refine QL (b:=b_17) (by repeat (first | exact Q8.here | apply Q8.there)) (fun I17 h17 e17=>?_)
     exact zn (h:=⟨b_16,b_17,b_127,_,_,rfl,(hKc30.trans h16).trans h17,rfl,.imm (h17 _ _ e16) rfl,.imm e17 rfl,(hL30.mono h16).mono h17⟩)
    refine Qs Yq rfl rfl (fun b_17=>?_)
    refine Qb ?_
    refine zD hD ?_
    refine Zt 3 4 rfl rfl (by kernel_rfl) ?_ ?_
    ·
     refine Qz (cap:=[]) (vs:=[_]) rfl rfl Vy .nil (Yt hR (by omega) _ _) rfl rfl ?_
     rintro vv15 I15 L15 hI15 ⟨rfl,av30,c30,rfl,hL30⟩
     have hKc30:=hKc30.trans hI15;have hD:=hD.trans hI15
     rw [hcsi] at hL30 ⊢
     refine Qb ?_
     refine zD hD ?_
     refine qd 4 rfl ?_
     refine Qs Yq rfl rfl (fun b_16=>?_)
     refine Qb ?_
     refine zD hD ?_
     refine qd 6 rfl ?_
     refine zS Zk ?_
     refine Qb ?_
     refine zD hD ?_
     refine qd 7 rfl ?_
     refine zS Zk ?_
     refine Qb ?_
     refine zD hD ?_
     refine QF (by kernel_rfl) ?_
     refine QO ?_
     rw [show ((loW xs:Nat):Int).toNat=loW xs from rfl,Q3,Zf]
     refine QL (b:=b_16) (by repeat (first | exact Q8.here | apply Q8.there)) (fun I16 h16 e16=>?_)
     refine QL (b:=b_17) (by repeat (first | exact Q8.here | apply Q8.there)) (fun I17 h17 e17=>?_)
     exact zn (h:=⟨b_16,b_17,b_127,_,_,rfl,(hKc30.trans h16).trans h17,rfl,.imm (h17 _ _ e16) rfl,.imm e17 rfl,(hL30.mono h16).mono h17⟩)
    refine Qs Yq rfl rfl (fun b_16=>?_)
    refine Qb ?_
    refine zD hD ?_
    refine qd 3 rfl ?_
    refine Qz (cap:=[]) (vs:=[_]) rfl rfl Vy .nil (Yt hR (by omega) _ _) rfl rfl ?_
    rintro vv16 I16 L16 hI16 ⟨rfl,av30,c30,rfl,hL30⟩
    have hKc30:=hKc30.trans hI16;have hD:=hD.trans hI16
    rw [hcsi] at hL30 ⊢
    refine Qb ?_
    refine zD hD ?_
    refine qd 6 rfl ?_
    refine zS Zk ?_
    refine Qb ?_
    refine zD hD ?_
    refine qd 7 rfl ?_
    refine zS Zk ?_
    refine Qb ?_
    refine zD hD ?_
    refine QF (by kernel_rfl) ?_
    refine QO ?_
    rw [show ((loW xs:Nat):Int).toNat=loW xs from rfl,Q3,Zf]
    refine QL (b:=b_16) (by repeat (first | exact Q8.here | apply Q8.there)) (fun I16 h16 e16=>?_)
    refine QL (b:=b_17) (by repeat (first | exact Q8.here | apply Q8.there)) (fun I17 h17 e17=>?_)
    exact zn (h:=⟨b_16,b_17,b_127,_,_,rfl,(hKc30.trans h16).trans h17,rfl,.imm (h17 _ _ e16) rfl,.imm e17 rfl,(hL30.mono h16).mono h17⟩)
   ·
    refine Qz (cap:=[]) (vs:=[_]) rfl rfl Vy .nil (Yt hR (by omega) _ _) rfl rfl ?_
    rintro vv17 I17 L17 hI17 ⟨rfl,av30,c30,rfl,hL30⟩
    have hKc30:=hKc30.trans hI17;have hD:=hD.trans hI17
    rw [hcsi] at hL30 ⊢
    refine Qb ?_
    refine zD hD ?_
    refine Uo 1 4 5 rfl rfl rfl (by kernel_rfl) ?_ ?_ ?_
    ·
     refine Q5 YQ rfl rfl (by omega) (by decide) rfl rfl (fun b_127=>?_)
     refine Qb ?_
     refine zD hD ?_
     refine Zt 4 5 rfl rfl (by kernel_rfl) ?_ ?_
     ·
      refine Qs Yq rfl rfl (fun b_16=>?_)
      refine Qb ?_
      refine zD hD ?_
      refine qd 5 rfl ?_
      refine Qs Yq rfl rfl (fun b_17=>?_)
      refine Qb ?_
      refine zD hD ?_
      refine qd 6 rfl ?_
      refine zS Zk ?_
      refine Qb ?_
      refine zD hD ?_
      refine qd 7 rfl ?_
      refine zS Zk ?_
      refine Qb ?_
      refine zD hD ?_
      refine QF (by kernel_rfl) ?_
      refine QO ?_
      rw [show ((loW xs:Nat):Int).toNat=loW xs from rfl,Q3,Zf]
      refine QL (b:=b_16) (by repeat (first | exact Q8.here | apply Q8.there)) (fun I16 h16 e16=>?_)
      refine QL (b:=b_17) (by repeat (first | exact Q8.here | apply Q8.there)) (fun I17 h17 e17=>?_)
      exact zn (h:=⟨b_16,b_17,b_127,_,_,rfl,(hKc30.trans h16).trans h17,rfl,.imm (h17 _ _ e16) rfl,.imm e17 rfl,(hL30.mono h16).mono h17⟩)
     refine Qs Yq rfl rfl (fun b_17=>?_)
     refine Qb ?_
     refine zD hD ?_
     refine qd 4 rfl ?_
     refine Qs Yq rfl rfl (fun b_16=>?_)
     refine Qb ?_
     refine zD hD ?_
     refine qd 6 rfl ?_
     refine zS Zk ?_
     refine Qb ?_
     refine zD hD ?_
     refine qd 7 rfl ?_
     refine zS Zk ?_
     refine Qb ?_
     refine zD hD ?_
     refine QF (by kernel_rfl) ?_
     refine QO ?_
     rw [show ((loW xs:Nat):Int).toNat=loW xs from rfl,Q3,Zf]
     refine QL (b:=b_16) (by repeat (first | exact Q8.here | apply Q8.there)) (fun I16 h16 e16=>?_)
     refine QL (b:=b_17) (by repeat (first | exact Q8.here | apply Q8.there)) (fun I17 h17 e17=>?_)
     exact zn (h:=⟨b_16,b_17,b_127,_,_,rfl,(hKc30.trans h16).trans h17,rfl,.imm (h17 _ _ e16) rfl,.imm e17 rfl,(hL30.mono h16).mono h17⟩)
    ·
     refine Qs Yq rfl rfl (fun b_16=>?_)
     refine Qb ?_
     refine zD hD ?_
     refine Zt 1 5 rfl rfl (by kernel_rfl) ?_ ?_
     ·
      refine Q5 YQ rfl rfl (by omega) (by decide) rfl rfl (fun b_127=>?_)
      refine Qb ?_
      refine zD hD ?_
      refine qd 5 rfl ?_
      refine Qs Yq rfl rfl (fun b_17=>?_)
      refine Qb ?_
      refine zD hD ?_
      refine qd 6 rfl ?_
      refine zS Zk ?_
      refine Qb ?_
      refine zD hD ?_
      refine qd 7 rfl ?_
      refine zS Zk ?_
      refine Qb ?_
      refine zD hD ?_
      refine QF (by kernel_rfl) ?_
      refine QO ?_
      rw [show ((loW xs:Nat):Int).toNat=loW xs from rfl,Q3,Zf]
      refine QL (b:=b_16) (by repeat (first | exact Q8.here | apply Q8.there)) (fun I16 h16 e16=>?_)
      refine QL (b:=b_17) (by repeat (first | exact Q8.here | apply Q8.there)) (fun I17 h17 e17=>?_)
      exact zn (h:=⟨b_16,b_17,b_127,_,_,rfl,(hKc30.trans h16).trans h17,rfl,.imm (h17 _ _ e16) rfl,.imm e17 rfl,(hL30.mono h16).mono h17⟩)
     refine Qs Yq rfl rfl (fun b_17=>?_)
     refine Qb ?_
     refine zD hD ?_
     refine qd 1 rfl ?_
     refine Q5 YQ rfl rfl (by omega) (by decide) rfl rfl (fun b_127=>?_)
     refine Qb ?_
     refine zD hD ?_
     refine qd 6 rfl ?_
     refine zS Zk ?_
     refine Qb ?_
     refine zD hD ?_
     refine qd 7 rfl ?_
     refine zS Zk ?_
     refine Qb ?_
     refine zD hD ?_
     refine QF (by kernel_rfl) ?_
     refine QO ?_
     rw [show ((loW xs:Nat):Int).toNat=loW xs from rfl,Q3,Zf]
     refine QL (b:=b_16) (by repeat (first | exact Q8.here | apply Q8.there)) (fun I16 h16 e16=>?_)
     refine QL (b:=b_17) (by repeat (first | exact Q8.here | apply Q8.there)) (fun I17 h17 e17=>?_)
     exact zn (h:=⟨b_16,b_17,b_127,_,_,rfl,(hKc30.trans h16).trans h17,rfl,.imm (h17 _ _ e16) rfl,.imm e17 rfl,(hL30.mono h16).mono h17⟩)
    refine Qs Yq rfl rfl (fun b_17=>?_)
    refine Qb ?_
    refine zD hD ?_
    refine Zt 1 4 rfl rfl (by kernel_rfl) ?_ ?_
    ·
     refine Q5 YQ rfl rfl (by omega) (by decide) rfl rfl (fun b_127=>?_)
     refine Qb ?_
     refine zD hD ?_
     refine qd 4 rfl ?_
     refine Qs Yq rfl rfl (fun b_16=>?_)
     refine Qb ?_
     refine zD hD ?_
     refine qd 6 rfl ?_
     refine zS Zk ?_
     refine Qb ?_
     refine zD hD ?_
     refine qd 7 rfl ?_
     refine zS Zk ?_
     refine Qb ?_
     refine zD hD ?_
     refine QF (by kernel_rfl) ?_
     refine QO ?_
     rw [show ((loW xs:Nat):Int).toNat=loW xs from rfl,Q3,Zf]
     refine QL (b:=b_16) (by repeat (first | exact Q8.here | apply Q8.there)) (fun I16 h16 e16=>?_)
     refine QL (b:=b_17) (by repeat (first | exact Q8.here | apply Q8.there)) (fun I17 h17 e17=>?_)
     exact zn (h:=⟨b_16,b_17,b_127,_,_,rfl,(hKc30.trans h16).trans h17,rfl,.imm (h17 _ _ e16) rfl,.imm e17 rfl,(hL30.mono h16).mono h17⟩)
    refine Qs Yq rfl rfl (fun b_16=>?_)
    refine Qb ?_
    refine zD hD ?_
    refine qd 1 rfl ?_
    refine Q5 YQ rfl rfl (by omega) (by decide) rfl rfl (fun b_127=>?_)
    refine Qb ?_
    refine zD hD ?_
    refine qd 6 rfl ?_
    refine zS Zk ?_
    refine Qb ?_
    refine zD hD ?_
    refine qd 7 rfl ?_
    refine zS Zk ?_
    refine Qb ?_
    refine zD hD ?_
    refine QF (by kernel_rfl) ?_
    refine QO ?_
    rw [show ((loW xs:Nat):Int).toNat=loW xs from rfl,Q3,Zf]
    refine QL (b:=b_16) (by repeat (first | exact Q8.here | apply Q8.there)) (fun I16 h16 e16=>?_)
    refine QL (b:=b_17) (by repeat (first | exact Q8.here | apply Q8.there)) (fun I17 h17 e17=>?_)
    exact zn (h:=⟨b_16,b_17,b_127,_,_,rfl,(hKc30.trans h16).trans h17,rfl,.imm (h17 _ _ e16) rfl,.imm e17 rfl,(hL30.mono h16).mono h17⟩)
   ·
    refine Qs Yq rfl rfl (fun b_16=>?_)
    refine Qb ?_
    refine zD hD ?_
    refine Uo 1 3 5 rfl rfl rfl (by kernel_rfl) ?_ ?_ ?_
    ·
     refine Q5 YQ rfl rfl (by omega) (by decide) rfl rfl (fun b_127=>?_)
     refine Qb ?_
     refine zD hD ?_
     refine Zt 3 5 rfl rfl (by kernel_rfl) ?_ ?_
     ·
      refine Qz (cap:=[]) (vs:=[_]) rfl rfl Vy .nil (Yt hR (by omega) _ _) rfl rfl ?_
      rintro vv18 I18 L18 hI18 ⟨rfl,av30,c30,rfl,hL30⟩
      have hKc30:=hKc30.trans hI18;have hD:=hD.trans hI18
      rw [hcsi] at hL30 ⊢
      refine Qb ?_
      refine zD hD ?_
      refine qd 5 rfl ?_
      refine Qs Yq rfl rfl (fun b_17=>?_)
      refine Qb ?_
      refine zD hD ?_
      refine qd 6 rfl ?_
      refine zS Zk ?_
      refine Qb ?_
      refine zD hD ?_
      refine qd 7 rfl ?_
      refine zS Zk ?_
      refine Qb ?_
      refine zD hD ?_
      refine QF (by kernel_rfl) ?_
      refine QO ?_
      rw [show ((loW xs:Nat):Int).toNat=loW xs from rfl,Q3,Zf]
      refine QL (b:=b_16) (by repeat (first | exact Q8.here | apply Q8.there)) (fun I16 h16 e16=>?_)
      refine QL (b:=b_17) (by repeat (first | exact Q8.here | apply Q8.there)) (fun I17 h17 e17=>?_)
      exact zn (h:=⟨b_16,b_17,b_127,_,_,rfl,(hKc30.trans h16).trans h17,rfl,.imm (h17 _ _ e16) rfl,.imm e17 rfl,(hL30.mono h16).mono h17⟩)
     refine Qs Yq rfl rfl (fun b_17=>?_)
     refine Qb ?_
     refine zD hD ?_
     refine qd 3 rfl ?_
     refine Qz (cap:=[]) (vs:=[_]) rfl rfl Vy .nil (Yt hR (by omega) _ _) rfl rfl ?_
     rintro vv19 I19 L19 hI19 ⟨rfl,av30,c30,rfl,hL30⟩
     have hKc30:=hKc30.trans hI19;have hD:=hD.trans hI19
     rw [hcsi] at hL30 ⊢
     refine Qb ?_
     refine zD hD ?_
     refine qd 6 rfl ?_
     refine zS Zk ?_
     refine Qb ?_
     refine zD hD ?_
     refine qd 7 rfl ?_
     refine zS Zk ?_
     refine Qb ?_
     refine zD hD ?_
     refine QF (by kernel_rfl) ?_
     refine QO ?_
     rw [show ((loW xs:Nat):Int).toNat=loW xs from rfl,Q3,Zf]
     refine QL (b:=b_16) (by repeat (first | exact Q8.here | apply Q8.there)) (fun I16 h16 e16=>?_)
     refine QL (b:=b_17) (by repeat (first | exact Q8.here | apply Q8.there)) (fun I17 h17 e17=>?_)
     exact zn (h:=⟨b_16,b_17,b_127,_,_,rfl,(hKc30.trans h16).trans h17,rfl,.imm (h17 _ _ e16) rfl,.imm e17 rfl,(hL30.mono h16).mono h17⟩)
    ·
     refine Qz (cap:=[]) (vs:=[_]) rfl rfl Vy .nil (Yt hR (by omega) _ _) rfl rfl ?_
     rintro vv20 I20 L20 hI20 ⟨rfl,av30,c30,rfl,hL30⟩
     have hKc30:=hKc30.trans hI20;have hD:=hD.trans hI20
     rw [hcsi] at hL30 ⊢
     refine Qb ?_
     refine zD hD ?_
     refine Zt 1 5 rfl rfl (by kernel_rfl) ?_ ?_
     ·
      refine Q5 YQ rfl rfl (by omega) (by decide) rfl rfl (fun b_127=>?_)
      refine Qb ?_
      refine zD hD ?_
      refine qd 5 rfl ?_
      refine Qs Yq rfl rfl (fun b_17=>?_)
      refine Qb ?_
      refine zD hD ?_
      refine qd 6 rfl ?_
      refine zS Zk ?_
      refine Qb ?_
      refine zD hD ?_
      refine qd 7 rfl ?_
      refine zS Zk ?_
      refine Qb ?_
      refine zD hD ?_
      refine QF (by kernel_rfl) ?_
      refine QO ?_
      rw [show ((loW xs:Nat):Int).toNat=loW xs from rfl,Q3,Zf]
      refine QL (b:=b_16) (by repeat (first | exact Q8.here | apply Q8.there)) (fun I16 h16 e16=>?_)
      refine QL (b:=b_17) (by repeat (first | exact Q8.here | apply Q8.there)) (fun I17 h17 e17=>?_)
      exact zn (h:=⟨b_16,b_17,b_127,_,_,rfl,(hKc30.trans h16).trans h17,rfl,.imm (h17 _ _ e16) rfl,.imm e17 rfl,(hL30.mono h16).mono h17⟩)
     refine Qs Yq rfl rfl (fun b_17=>?_)
     refine Qb ?_
     refine zD hD ?_
     refine qd 1 rfl ?_
     refine Q5 YQ rfl rfl (by omega) (by decide) rfl rfl (fun b_127=>?_)
     refine Qb ?_
     refine zD hD ?_
     refine qd 6 rfl ?_
     refine zS Zk ?_
     refine Qb ?_
     refine zD hD ?_
     refine qd 7 rfl ?_
     refine zS Zk ?_
     refine Qb ?_
     refine zD hD ?_
     refine QF (by kernel_rfl) ?_
     refine QO ?_
     rw [show ((loW xs:Nat):Int).toNat=loW xs from rfl,Q3,Zf]
     refine QL (b:=b_16) (by repeat (first | exact Q8.here | apply Q8.there)) (fun I16 h16 e16=>?_)
     refine QL (b:=b_17) (by repeat (first | exact Q8.here | apply Q8.there)) (fun I17 h17 e17=>?_)
     exact zn (h:=⟨b_16,b_17,b_127,_,_,rfl,(hKc30.trans h16).trans h17,rfl,.imm (h17 _ _ e16) rfl,.imm e17 rfl,(hL30.mono h16).mono h17⟩)
    refine Qs Yq rfl rfl (fun b_17=>?_)
    refine Qb ?_
    refine zD hD ?_
    refine Zt 1 3 rfl rfl (by kernel_rfl) ?_ ?_
    ·
     refine Q5 YQ rfl rfl (by omega) (by decide) rfl rfl (fun b_127=>?_)
     refine Qb ?_
     refine zD hD ?_
     refine qd 3 rfl ?_
     refine Qz (cap:=[]) (vs:=[_]) rfl rfl Vy .nil (Yt hR (by omega) _ _) rfl rfl ?_
     rintro vv21 I21 L21 hI21 ⟨rfl,av30,c30,rfl,hL30⟩
     have hKc30:=hKc30.trans hI21;have hD:=hD.trans hI21
     rw [hcsi] at hL30 ⊢
     refine Qb ?_
     refine zD hD ?_
     refine qd 6 rfl ?_
     refine zS Zk ?_
     refine Qb ?_
     refine zD hD ?_
     refine qd 7 rfl ?_
     refine zS Zk ?_
     refine Qb ?_
     refine zD hD ?_
     refine QF (by kernel_rfl) ?_
     refine QO ?_
     rw [show ((loW xs:Nat):Int).toNat=loW xs from rfl,Q3,Zf]
     refine QL (b:=b_16) (by repeat (first | exact Q8.here | apply Q8.there)) (fun I16 h16 e16=>?_)
     refine QL (b:=b_17) (by repeat (first | exact Q8.here | apply Q8.there)) (fun I17 h17 e17=>?_)
     exact zn (h:=⟨b_16,b_17,b_127,_,_,rfl,(hKc30.trans h16).trans h17,rfl,.imm (h17 _ _ e16) rfl,.imm e17 rfl,(hL30.mono h16).mono h17⟩)
    refine Qz (cap:=[]) (vs:=[_]) rfl rfl Vy .nil (Yt hR (by omega) _ _) rfl rfl ?_
    rintro vv22 I22 L22 hI22 ⟨rfl,av30,c30,rfl,hL30⟩
    have hKc30:=hKc30.trans hI22;have hD:=hD.trans hI22
    rw [hcsi] at hL30 ⊢
    refine Qb ?_
    refine zD hD ?_
    refine qd 1 rfl ?_
    refine Q5 YQ rfl rfl (by omega) (by decide) rfl rfl (fun b_127=>?_)
    refine Qb ?_
    refine zD hD ?_
    refine qd 6 rfl ?_
    refine zS Zk ?_
    refine Qb ?_
    refine zD hD ?_
    refine qd 7 rfl ?_
    refine zS Zk ?_
    refine Qb ?_
    refine zD hD ?_
    refine QF (by kernel_rfl) ?_
    refine QO ?_
    rw [show ((loW xs:Nat):Int).toNat=loW xs from rfl,Q3,Zf]
    refine QL (b:=b_16) (by repeat (first | exact Q8.here | apply Q8.there)) (fun I16 h16 e16=>?_)
    refine QL (b:=b_17) (by repeat (first | exact Q8.here | apply Q8.there)) (fun I17 h17 e17=>?_)
    exact zn (h:=⟨b_16,b_17,b_127,_,_,rfl,(hKc30.trans h16).trans h17,rfl,.imm (h17 _ _ e16) rfl,.imm e17 rfl,(hL30.mono h16).mono h17⟩)
   refine Qs Yq rfl rfl (fun b_17=>?_)
   refine Qb ?_
   refine zD hD ?_
   refine Uo 1 3 4 rfl rfl rfl (by kernel_rfl) ?_ ?_ ?_
   ·
    refine Q5 YQ rfl rfl (by omega) (by decide) rfl rfl (fun b_127=>?_)
    refine Qb ?_
    refine zD hD ?_
    refine Zt 3 4 rfl rfl (by kernel_rfl) ?_ ?_
    ·
     refine Qz (cap:=[]) (vs:=[_]) rfl rfl Vy .nil (Yt hR (by omega) _ _) rfl rfl ?_
     rintro vv23 I23 L23 hI23 ⟨rfl,av30,c30,rfl,hL30⟩
     have hKc30:=hKc30.trans hI23;have hD:=hD.trans hI23
     rw [hcsi] at hL30 ⊢
     refine Qb ?_
     refine zD hD ?_
     refine qd 4 rfl ?_
     refine Qs Yq rfl rfl (fun b_16=>?_)
     refine Qb ?_
     refine zD hD ?_
     refine qd 6 rfl ?_
     refine zS Zk ?_
     refine Qb ?_
     refine zD hD ?_
     refine qd 7 rfl ?_
     refine zS Zk ?_
     refine Qb ?_
     refine zD hD ?_
     refine QF (by kernel_rfl) ?_
     refine QO ?_
     rw [show ((loW xs:Nat):Int).toNat=loW xs from rfl,Q3,Zf]
     refine QL (b:=b_16) (by repeat (first | exact Q8.here | apply Q8.there)) (fun I16 h16 e16=>?_)
     refine QL (b:=b_17) (by repeat (first | exact Q8.here | apply Q8.there)) (fun I17 h17 e17=>?_)
     exact zn (h:=⟨b_16,b_17,b_127,_,_,rfl,(hKc30.trans h16).trans h17,rfl,.imm (h17 _ _ e16) rfl,.imm e17 rfl,(hL30.mono h16).mono h17⟩)
    refine Qs Yq rfl rfl (fun b_16=>?_)
    refine Qb ?_
    refine zD hD ?_
    refine qd 3 rfl ?_
    refine Qz (cap:=[]) (vs:=[_]) rfl rfl Vy .nil (Yt hR (by omega) _ _) rfl rfl ?_
    rintro vv24 I24 L24 hI24 ⟨rfl,av30,c30,rfl,hL30⟩
    have hKc30:=hKc30.trans hI24;have hD:=hD.trans hI24
    rw [hcsi] at hL30 ⊢
    refine Qb ?_
    refine zD hD ?_
    refine qd 6 rfl ?_
    refine zS Zk ?_
    refine Qb ?_
    refine zD hD ?_
    refine qd 7 rfl ?_
    refine zS Zk ?_
    refine Qb ?_
    refine zD hD ?_
    refine QF (by kernel_rfl) ?_
    refine QO ?_
    rw [show ((loW xs:Nat):Int).toNat=loW xs from rfl,Q3,Zf]
    refine QL (b:=b_16) (by repeat (first | exact Q8.here | apply Q8.there)) (fun I16 h16 e16=>?_)
    refine QL (b:=b_17) (by repeat (first | exact Q8.here | apply Q8.there)) (fun I17 h17 e17=>?_)
    exact zn (h:=⟨b_16,b_17,b_127,_,_,rfl,(hKc30.trans h16).trans h17,rfl,.imm (h17 _ _ e16) rfl,.imm e17 rfl,(hL30.mono h16).mono h17⟩)
   ·
    refine Qz (cap:=[]) (vs:=[_]) rfl rfl Vy .nil (Yt hR (by omega) _ _) rfl rfl ?_
    rintro vv25 I25 L25 hI25 ⟨rfl,av30,c30,rfl,hL30⟩
    have hKc30:=hKc30.trans hI25;have hD:=hD.trans hI25
    rw [hcsi] at hL30 ⊢
    refine Qb ?_
    refine zD hD ?_
    refine Zt 1 4 rfl rfl (by kernel_rfl) ?_ ?_
    ·
     refine Q5 YQ rfl rfl (by omega) (by decide) rfl rfl (fun b_127=>?_)
     refine Qb ?_
     refine zD hD ?_
     refine qd 4 rfl ?_
     refine Qs Yq rfl rfl (fun b_16=>?_)
     refine Qb ?_
     refine zD hD ?_
     refine qd 6 rfl ?_
     refine zS Zk ?_
     refine Qb ?_
     refine zD hD ?_
     refine qd 7 rfl ?_
     refine zS Zk ?_
     refine Qb ?_
     refine zD hD ?_
     refine QF (by kernel_rfl) ?_
     refine QO ?_
     rw [show ((loW xs:Nat):Int).toNat=loW xs from rfl,Q3,Zf]
     refine QL (b:=b_16) (by repeat (first | exact Q8.here | apply Q8.there)) (fun I16 h16 e16=>?_)
     refine QL (b:=b_17) (by repeat (first | exact Q8.here | apply Q8.there)) (fun I17 h17 e17=>?_)
     exact zn (h:=⟨b_16,b_17,b_127,_,_,rfl,(hKc30.trans h16).trans h17,rfl,.imm (h17 _ _ e16) rfl,.imm e17 rfl,(hL30.mono h16).mono h17⟩)
    refine Qs Yq rfl rfl (fun b_16=>?_)
    refine Qb ?_
    refine zD hD ?_
    refine qd 1 rfl ?_
    refine Q5 YQ rfl rfl (by omega) (by decide) rfl rfl (fun b_127=>?_)
    refine Qb ?_
    refine zD hD ?_
    refine qd 6 rfl ?_
    refine zS Zk ?_
    refine Qb ?_
    refine zD hD ?_
    refine qd 7 rfl ?_
    refine zS Zk ?_
    refine Qb ?_
    refine zD hD ?_
    refine QF (by kernel_rfl) ?_
    refine QO ?_
    rw [show ((loW xs:Nat):Int).toNat=loW xs from rfl,Q3,Zf]
    refine QL (b:=b_16) (by repeat (first | exact Q8.here | apply Q8.there)) (fun I16 h16 e16=>?_)
    refine QL (b:=b_17) (by repeat (first | exact Q8.here | apply Q8.there)) (fun I17 h17 e17=>?_)
    exact zn (h:=⟨b_16,b_17,b_127,_,_,rfl,(hKc30.trans h16).trans h17,rfl,.imm (h17 _ _ e16) rfl,.imm e17 rfl,(hL30.mono h16).mono h17⟩)
   refine Qs Yq rfl rfl (fun b_16=>?_)
   refine Qb ?_
   refine zD hD ?_
   refine Zt 1 3 rfl rfl (by kernel_rfl) ?_ ?_
   ·
    refine Q5 YQ rfl rfl (by omega) (by decide) rfl rfl (fun b_127=>?_)
    refine Qb ?_
    refine zD hD ?_
    refine qd 3 rfl ?_
    refine Qz (cap:=[]) (vs:=[_]) rfl rfl Vy .nil (Yt hR (by omega) _ _) rfl rfl ?_
    rintro vv26 I26 L26 hI26 ⟨rfl,av30,c30,rfl,hL30⟩
    have hKc30:=hKc30.trans hI26;have hD:=hD.trans hI26
    rw [hcsi] at hL30 ⊢
    refine Qb ?_
    refine zD hD ?_
    refine qd 6 rfl ?_
    refine zS Zk ?_
    refine Qb ?_
    refine zD hD ?_
    refine qd 7 rfl ?_
    refine zS Zk ?_
    refine Qb ?_
    refine zD hD ?_
    refine QF (by kernel_rfl) ?_
    refine QO ?_
    rw [show ((loW xs:Nat):Int).toNat=loW xs from rfl,Q3,Zf]
    refine QL (b:=b_16) (by repeat (first | exact Q8.here | apply Q8.there)) (fun I16 h16 e16=>?_)
    refine QL (b:=b_17) (by repeat (first | exact Q8.here | apply Q8.there)) (fun I17 h17 e17=>?_)
    exact zn (h:=⟨b_16,b_17,b_127,_,_,rfl,(hKc30.trans h16).trans h17,rfl,.imm (h17 _ _ e16) rfl,.imm e17 rfl,(hL30.mono h16).mono h17⟩)
   refine Qz (cap:=[]) (vs:=[_]) rfl rfl Vy .nil (Yt hR (by omega) _ _) rfl rfl ?_
   rintro vv27 I27 L27 hI27 ⟨rfl,av30,c30,rfl,hL30⟩
   have hKc30:=hKc30.trans hI27;have hD:=hD.trans hI27
   rw [hcsi] at hL30 ⊢
   refine Qb ?_
   refine zD hD ?_
   refine qd 1 rfl ?_
   refine Q5 YQ rfl rfl (by omega) (by decide) rfl rfl (fun b_127=>?_)
   refine Qb ?_
   refine zD hD ?_
   refine qd 6 rfl ?_
   refine zS Zk ?_
   refine Qb ?_
   refine zD hD ?_
   refine qd 7 rfl ?_
   refine zS Zk ?_
   refine Qb ?_
   refine zD hD ?_
   refine QF (by kernel_rfl) ?_
   refine QO ?_
   rw [show ((loW xs:Nat):Int).toNat=loW xs from rfl,Q3,Zf]
   refine QL (b:=b_16) (by repeat (first | exact Q8.here | apply Q8.there)) (fun I16 h16 e16=>?_)
   refine QL (b:=b_17) (by repeat (first | exact Q8.here | apply Q8.there)) (fun I17 h17 e17=>?_)
   exact zn (h:=⟨b_16,b_17,b_127,_,_,rfl,(hKc30.trans h16).trans h17,rfl,.imm (h17 _ _ e16) rfl,.imm e17 rfl,(hL30.mono h16).mono h17⟩)
  rintro ms E J28 loc' ⟨b16,b17,b127,av17,c17,rfl,hJ30,rfl,hC16,hC17,hL17⟩
  have hT:=hT.mono hJ30;have hC6:=hC6.mono hJ30;have hC10:=hC10.mono hJ30;have hAt:=hAt.mono hJ30;have hWd:=hWd.mono hJ30;have hPs:=hPs.mono hJ30;have hre:=hre.mono hJ30;have hPf:=hPf.mono hJ30;have hB6:=hB6.trans hJ30
  refine zoQ [(2,_),(4,_),(5,_),(6,_),(10,_),(11,_),(14,_),(16,_),(17,_),(119,_),(120,_),(121,_)] (.cons rfl (.cons rfl (.cons rfl (.cons rfl (.cons rfl (.cons rfl (.cons rfl (.cons rfl (.cons rfl (.cons rfl (.cons rfl (.cons rfl .nil)))))))))))) (fun T L0 ms E I' loc'=>E=T∧HLe J28 I'∧(b127,.cells (Zi (Vd (loW xs) ((if i=0 then txF (wdW xs) (csW xs 0) (csW xs 0).length else fun _=>0)))) 3 (0,0))::(L++MB ms)=loc') ?_ ?_
  ·
   have hKc31:=zAh J28
   refine zR (zM ?_)
   refine zC (zN ?_)
   refine zI ?_ ?_<;>intro hc131
   ·
    have hi0:i=0:=by have h:=hc131;simp at h;omega
    refine zR (zM ?_)
    refine zQ Qw ?_
    refine zM (zN (Qm ?_))
    refine UE [(2,_),(4,_),(5,_),(6,_),(10,_),(11,_),(14,_),(16,_),(17,_),(119,_),(120,_),(121,_),(132,_),(133,_)] (.cons rfl (.cons rfl (.cons rfl (.cons rfl (.cons rfl (.cons rfl (.cons rfl (.cons rfl (.cons rfl (.cons rfl (.cons rfl (.cons rfl (.cons rfl (.cons rfl .nil)))))))))))))) (fun T L0 mz ms E I' loc'=>∃ (k:Nat),mz=(csW xs 0).length-k∧E=(134,.int .i64 k)::T∧J28=I'∧(b127,.cells (Zi (Vd (loW xs) (txF (wdW xs) (csW xs 0) k))) 3 (0,0))::(L++MB ms)=loc'∧k≤(csW xs 0).length) _ _ _ _ ⟨0,rfl,rfl,rfl,rfl,Nat.zero_le _⟩ (.cons rfl (.cons rfl (.cons rfl (.cons rfl (.cons rfl (.cons rfl (.cons rfl (.cons rfl (.cons rfl (.cons rfl (.cons rfl (.cons rfl (.cons rfl (.cons rfl (.cons rfl .nil))))))))))))))) (zAh _) rfl ?_
    rintro mz ms E I' loc' ⟨k,rfl,rfl,rfl,rfl,hk⟩
    refine zR (zC (zN (Ql ?_)))
    refine zI ?_ ?_<;>intro hc135
    ·
     have hlt_k:k<(csW xs 0).length:=by have h:=hc135;simp at h;omega
     obtain ⟨tk,hTk⟩:=hT.at hlt_k
     have hps:=zoY hlt_k
     have hf1:YI (Ym (wdW xs)) k=(((Ym (wdW xs)) k:Nat):Int):=rfl
     have hf2:YI (wdW xs) k=(((wdW xs) k:Nat):Int):=rfl
     refine Qn (Qa (Ql (Qm (zR (zM ?_)))))
     refine zV (zX Qw hT) ?_
     refine zV (Qe rfl Qr (fun hg=>by exact zAa hT hTk rfl)) ?_
     refine zA ?_
     refine zA (zN ?_)
     have hD:=zAh J28
     refine Jl ?_
     refine Z0 J28 [] mixed ?_
     refine zT 0 rfl (Qe rfl QJ (fun hg=>by exact hC16.any)) hD ?_
     refine zT 1 rfl (Qe rfl QJ (fun hg=>by exact hC10.any)) hD ?_
     refine zT 2 rfl (Qi rfl) hD ?_
     refine zT 3 rfl (zX Qw hAt) hD ?_
     refine zT 4 rfl (Qe rfl Qr (fun hg=>by exact zAa (k:=k) hAt (YH (show k<_ by omega)) rfl)) hD ?_
     refine zT 5 rfl (Qe rfl QJ (fun hg=>by exact hC6.any)) hD ?_
     refine zT 6 rfl (Qi rfl) hD ?_
     refine zT 7 rfl (zX Qw hWd) hD ?_
     refine zT 8 rfl (Qe rfl Qr (fun hg=>by exact zAa (k:=k) hWd (YH (show k<_ by omega)) rfl)) hD ?_
     refine zT 9 rfl (ZR rfl rfl rfl (fun hg=>by omega)) hD ?_
     refine zT 10 rfl (Qi rfl) hD ?_
     refine zT 11 rfl (Q6 rfl rfl Qw (fun hg=>by omega)) hD ?_
     refine qd 12 rfl ?_
     refine ZI rfl rfl Z2 rfl rfl (by repeat (first | exact Upd.here | apply Upd.there | apply QK)) (by rw [show YI (Ym (wdW xs)) k+YI (wdW xs) k=((Ym (wdW xs) k+wdW xs k:Nat):Int) from rfl];exact ztJ (by rw [Yb];omega)) ?_
     refine Qb ?_
     refine zD hD ?_
     refine QF (by kernel_rfl) ?_
     refine QO ?_
     rw [show YI (Ym (wdW xs)) k+YI (wdW xs) k=((Ym (wdW xs) k+wdW xs k:Nat):Int) from rfl,VN,JZ,←QU (d:=0) hTk]
     refine Qf (Qa (Qg (zB ?_)))
     refine zM (Qb ?_)
     exact zd (h:=⟨(csW xs 0).length-(k+1),by omega,k+1,rfl,rfl,rfl,rfl,by omega⟩)
    have hge_k:(csW xs 0).length≤k:=by have h:=hc135;simp at h;omega
    obtain rfl:k=(csW xs 0).length:=by omega
    refine QI (Qh (Qh (Qk ?_)))
    exact zce rfl rfl rfl _ _ ⟨rfl,hKc31,by rw [if_pos hi0]⟩ (.cons rfl (.cons rfl (.cons rfl (.cons rfl (.cons rfl (.cons rfl (.cons rfl (.cons rfl (.cons rfl (.cons rfl (.cons rfl (.cons rfl .nil)))))))))))) .refl
   have hi0:¬i=0:=by have h:=hc131;simp at h;omega
   refine Qn ?_
   exact zce rfl rfl rfl _ _ ⟨rfl,hKc31,by rw [if_neg hi0]⟩ (.cons rfl (.cons rfl (.cons rfl (.cons rfl (.cons rfl (.cons rfl (.cons rfl (.cons rfl (.cons rfl (.cons rfl (.cons rfl (.cons rfl .nil)))))))))))) .refl
  rintro ms E J30 loc' ⟨rfl,hJ131,rfl⟩
  have hC6:=hC6.mono hJ131;have hC10:=hC10.mono hJ131;have hAt:=hAt.mono hJ131;have hWd:=hWd.mono hJ131;have hPs:=hPs.mono hJ131;have hre:=hre.mono hJ131;have hPf:=hPf.mono hJ131;have hC16:=hC16.mono hJ131;have hC17:=hC17.mono hJ131;have hL17:=hL17.mono hJ131;have hB6:=hB6.trans hJ131
  refine Ql (zR (zM ?_))
  refine zM ?_
  refine zV (zX zbD hPs) ?_
  refine zV (Qe rfl zfT (fun hg=>by exact zAa hPs hhp rfl)) ?_
  refine zQ Uy ?_
  refine zM (zN (Qm ?_))
  refine UE [(2,_),(4,_),(5,_),(6,_),(10,_),(11,_),(14,_),(16,_),(17,_),(119,_),(120,_),(121,_),(155,_),(156,_)] (.cons rfl (.cons rfl (.cons rfl (.cons rfl (.cons rfl (.cons rfl (.cons rfl (.cons rfl (.cons rfl (.cons rfl (.cons rfl (.cons rfl (.cons rfl (.cons rfl .nil)))))))))))))) (fun T L0 mz ms E I' loc'=>∃ (k:Nat),mz=(pfW xs i).length-k∧E=(157,.int .i64 k)::T∧J30=I'∧(b127,.cells (Zi (Vd (loW xs) (((pfW xs i).take k).foldl (prF (wdW xs) (csW xs i)) (if i=0 then txF (wdW xs) (csW xs 0) (csW xs 0).length else fun _=>0)))) 3 (0,0))::(L++MB ms)=loc'∧k≤(pfW xs i).length) _ _ _ _ ⟨0,rfl,rfl,rfl,rfl,Nat.zero_le _⟩ (.cons rfl (.cons rfl (.cons rfl (.cons rfl (.cons rfl (.cons rfl (.cons rfl (.cons rfl (.cons rfl (.cons rfl (.cons rfl (.cons rfl (.cons rfl (.cons rfl (.cons rfl .nil))))))))))))))) (zAh _) rfl ?_
  rintro mz ms E I' loc' ⟨k,rfl,rfl,rfl,rfl,hk⟩
  refine zR (zC (zN (Ql ?_)))
  refine zI ?_ ?_<;>intro hc158
  ·
   have hlt_k:k<(pfW xs i).length:=by have h:=hc158;simp at h;omega
   obtain ⟨y,hy⟩:=hPf.at (show k<_ by omega)
   obtain ⟨y1,y2,y3,y4⟩:=zxz hy
   refine Qn (Qa (Ql (Qm (zR ?_))))
   refine zV (zX Uy hPf) ?_
   refine zV (Qo rfl zbi (fun hg=>by exact zAi hPf hy) rfl) ?_
   refine Qs Ub rfl rfl (fun b_21=>?_)
   refine zh zi0 ?_
   refine zN (zR ?_)
   refine zV (Zq rfl rfl Y0 (fun hg=>by decide)) ?_
   refine zL Qr ?_
   refine zC ?_
   refine zM ?_
   refine QH 3 rfl rfl rfl ?_
   refine zK (Zq rfl rfl Y0 (fun hg=>by decide)) ?_
   refine zK (Qe rfl Qr (fun hg=>by exact QT.h0 rfl)) ?_
   refine zK (QG rfl rfl rfl) ?_
   refine QP rfl rfl rfl rfl rfl ?_
   refine zN ?_
   refine zI ?_ ?_<;>intro hc168
   ·
    have hy5:y.1>0∧y.2>0:=by have h:=hc168;simp at h;exact h
    have hps:=zoY (xs:=xs) (k:=(y.1-1).toNat) (by omega)
    have hf1:YI (Ym (wdW xs)) (y.1-1).toNat=(((Ym (wdW xs)) (y.1-1).toNat:Nat):Int):=rfl
    have hf2:YI (wdW xs) (y.1-1).toNat=(((wdW xs) (y.1-1).toNat:Nat):Int):=rfl
    have hD:=zAh J30
    refine Jl ?_
    refine Z0 J30 [(b_21,.cells (V8 y).toArray 79 (0,0))] mixed ?_
    refine zT 0 rfl (Qe rfl QJ (fun hg=>by exact hC16.any)) hD ?_
    refine zT 1 rfl (Qe rfl QJ (fun hg=>by exact hC10.any)) hD ?_
    refine zT 2 rfl (Zq rfl rfl Y0 (fun hg=>by decide)) hD ?_
    refine zT 3 rfl (Qe rfl Qr (fun hg=>by exact QT.h0 rfl)) hD ?_
    refine zT 4 rfl (ZR rfl rfl rfl (fun hg=>by omega)) hD ?_
    refine zT 5 rfl (zX Qw hAt) hD ?_
    refine zT 6 rfl (Qe rfl Qr (fun hg=>by exact zAa (k:=(y.1-1).toNat) hAt (YH (by omega)) rfl)) hD ?_
    refine zT 7 rfl (Qe rfl QJ (fun hg=>by exact hC6.any)) hD ?_
    refine zT 8 rfl (Zq rfl rfl Y0 (fun hg=>by decide)) hD ?_
    refine zT 9 rfl (Qe rfl Qr (fun hg=>by exact QT.h0 rfl)) hD ?_
    refine zT 10 rfl (ZR rfl rfl rfl (fun hg=>by omega)) hD ?_
    refine zT 11 rfl (zX Qw hWd) hD ?_
    refine zT 12 rfl (Qe rfl Qr (fun hg=>by exact zAa (k:=(y.1-1).toNat) hWd (YH (by omega)) rfl)) hD ?_
    refine zT 13 rfl (ZR rfl rfl rfl (fun hg=>by omega)) hD ?_
    refine zT 14 rfl (Qe rfl QJ (fun hg=>by exact hC17.any)) hD ?_
    refine zT 15 rfl (Zq rfl rfl Y0 (fun hg=>by decide)) hD ?_
    refine zT 16 rfl (Qe rfl Qr (fun hg=>by exact QT.h0 rfl)) hD ?_
    refine zT 17 rfl (ZR rfl rfl rfl (fun hg=>by omega)) hD ?_
    refine zT 18 rfl (zX Qw hL17) hD ?_
    refine zT 19 rfl (Qe rfl Qr (fun hg=>by exact zAa (k:=(y.2-1).toNat) hL17 (Q4 (d:=0) rfl (by omega)) rfl)) hD ?_
    refine zT 20 rfl (Q6 rfl rfl Qw (fun hg=>by omega)) hD ?_
    refine qd 21 rfl ?_
    refine ZI rfl rfl Z2 rfl rfl (by repeat (first | exact Upd.here | apply Upd.there | apply QK)) (by rw [show YI (Ym (wdW xs)) (y.1-1).toNat+YI (wdW xs) (y.1-1).toNat=((Ym (wdW xs) (y.1-1).toNat+wdW xs (y.1-1).toNat:Nat):Int) from rfl];exact ztJ (by rw [Yb];omega)) ?_
    refine Qb ?_
    refine zD hD ?_
    refine QF (by kernel_rfl) ?_
    refine QO ?_
    rw [show YI (Ym (wdW xs)) (y.1-1).toNat+YI (wdW xs) (y.1-1).toNat=((Ym (wdW xs) (y.1-1).toNat+wdW xs (y.1-1).toNat:Nat):Int) from rfl,VN,JZ]
    refine Qf (Qa (Qg (zB ?_)))
    refine zM (Qb ?_)
    exact zd (h:=⟨(pfW xs i).length-(k+1),by omega,k+1,rfl,rfl,rfl,by rw [zfZ hy,zh5 hc168],by omega⟩)
   refine Qn (Qf (Qa (Qg (zB ?_))))
   refine zM (Qb ?_)
   exact zd (h:=⟨(pfW xs i).length-(k+1),by omega,k+1,rfl,rfl,rfl,by rw [zfZ hy,zpb hc168],by omega⟩)
  have hge_k:(pfW xs i).length≤k:=by have h:=hc158;simp at h;omega
  rw [List.take_of_length_le hge_k]
  refine QI (Qh (Qh (Qk (Qa (zR (zM ?_))))))
  refine zQ Qw ?_
  refine zB ?_
  refine Q5 YQ rfl rfl (by omega) (by decide) rfl rfl (fun b_194=>?_)
  refine Qs Yq rfl rfl (fun b_22=>?_)
  refine zS Zk ?_
  refine Qb ?_
  have e1:(((csW xs 0).length:Nat):Int)+1=(((csW xs 0).length+1:Nat):Int):=rfl
  rw [e1,show (((csW xs 0).length+1:Nat):Int).toNat=(csW xs 0).length+1 from rfl,Q3,Zf,Wj]
  refine Zg (b:=b_22) (by repeat (first | exact Q8.here | apply Q8.there)) (fun I32 hI32 hb32=>?_)
  have hC10:=hC10.mono hI32;have hAt:=hAt.mono hI32;have hPs:=hPs.mono hI32;have hre:=hre.mono hI32;have hPf:=hPf.mono hI32;have hC16:=hC16.mono hI32;have hC17:=hC17.mono hI32;have hL17:=hL17.mono hI32;have hB6:=hB6.trans hI32
  have hC22:QT I32 [] b_22 0 (.slice (some ⟨b_194,0,none⟩) ((csW xs 0).length+1) ((csW xs 0).length+1)):=.imm hb32 rfl
  refine Qa (Ql (zR (zM ?_)))
  refine zM ?_
  refine zV (zX zbD hPs) ?_
  refine zV (Qe rfl zfT (fun hg=>by exact zAa hPs hhp rfl)) ?_
  refine Qz (cap:=[]) (vs:=[_]) rfl rfl zn2 .nil (zjy _ _ _ _) rfl rfl ?_
  rintro vv33 I33 L33 hI33 ⟨rfl,b1,rfl,hb1⟩
  have hC10:=hC10.mono hI33;have hAt:=hAt.mono hI33;have hre:=hre.mono hI33;have hPf:=hPf.mono hI33;have hC16:=hC16.mono hI33;have hC17:=hC17.mono hI33;have hL17:=hL17.mono hI33;have hC22:=hC22.mono hI33;have hB6:=hB6.trans hI33
  refine zN (Qm ?_)
  refine Wu (K:=[]) (L:=(b_194,.cells (Zi (Vd ((csW xs 0).length+1) (YI (cnt [])))) 3 (0,0))::(b127,.cells (Zi (Vd (loW xs) ((alP (wdW xs) (csW xs i) ((pfW xs i).foldl (prF (wdW xs) (csW xs i)) (if i=0 then txF (wdW xs) (csW xs 0) (csW xs 0).length else fun _=>0)) []).1))) 3 (0,0))::L) (en1:=zyS) (en2:=zyx) (xs:=alW xs i) (fun pre I' loc'=>loc'=(b_194,.cells (Zi (Vd ((csW xs 0).length+1) (YI (cnt pre)))) 3 (0,0))::(b127,.cells (Zi (Vd (loW xs) ((alP (wdW xs) (csW xs i) ((pfW xs i).foldl (prF (wdW xs) (csW xs i)) (if i=0 then txF (wdW xs) (csW xs 0) (csW xs 0).length else fun _=>0)) pre).1))) 3 (0,0))::L) (fun _ _ _ _=>False) (fun pre x E2 I2 loc2=>E2=[(10,Zc b_10),(16,Zc b16),(17,Zc b17),(22,Zc b_22),(23,.int .i64 x.1),(24,.int .i64 x.2)]∧loc2=(b_194,.cells (Zi (Vd ((csW xs 0).length+1) (YI (cnt pre)))) 3 (0,0))::(b127,.cells (Zi (Vd (loW xs) ((alP (wdW xs) (csW xs i) ((pfW xs i).foldl (prF (wdW xs) (csW xs i)) (if i=0 then txF (wdW xs) (csW xs 0) (csW xs 0).length else fun _=>0)) pre).1))) 3 (0,0))::L) rfl zi1 (zjL hPf (by omega) (zxr hrs i) hb1) rfl rfl rfl ?_ ?_ ?_ ?_
  ·
   rintro l9 pre x I1 loc1 H1 hpre hI1 rfl
   refine zR (zA (zN (Qg ?_)))
   refine zA (Qb ?_)
   exact zcF _ ⟨zAh _,rfl,rfl⟩ (.cons rfl (.cons rfl (.cons rfl (.cons rfl (.cons rfl (.cons rfl .nil))))))
  ·
   rintro l9 pre x E2 I2 loc2 H2 hpre hI2 ⟨rfl,rfl⟩
   have hC10:=hC10.mono hI2;have hAt:=hAt.mono hI2;have hC16:=hC16.mono hI2;have hC17:=hC17.mono hI2;have hL17:=hL17.mono hI2;have hC22:=hC22.mono hI2
   obtain ⟨x1,x2,x3,x4,x5⟩:=zox hpre
   have hcb:=Nat.le_trans (@zeg (alW xs i) x.1.toNat) (zk5 hrs i)
   have hnc:=zbx (f:=cnt pre) (a:=x.1.toNat) (B:=128) (by omega)
   have hp2:=zrO x2 hlt_i x5
   have hf1:YI (Ym (wdW xs)) x.1.toNat=(((Ym (wdW xs)) x.1.toNat:Nat):Int):=rfl
   have hf2:YI (cnt pre) x.1.toNat=(((cnt pre) x.1.toNat:Nat):Int):=rfl
   refine Qm (Ql ?_)
   have hD:=zAh I2
   refine Jl ?_
   refine Z0 I2 [(b_194,.cells (Zi (Vd ((csW xs 0).length+1) (YI (cnt pre)))) 3 (0,0))] mixed ?_
   refine zT 0 rfl (Qe rfl QJ (fun hg=>by exact hC16.any)) hD ?_
   refine zT 1 rfl (Qe rfl QJ (fun hg=>by exact hC10.any)) hD ?_
   refine zT 2 rfl (Qi rfl) hD ?_
   refine zT 3 rfl (zX Qw hAt) hD ?_
   refine zT 4 rfl (Qe rfl Qr (fun hg=>by exact zAa (k:=x.1.toNat) hAt (YH (by omega)) rfl)) hD ?_
   refine zT 5 rfl (Qe rfl QJ (fun hg=>by exact hC22.any)) hD ?_
   refine zT 6 rfl (Qi rfl) hD ?_
   refine zT 7 rfl (Q6 rfl rfl Qw (fun hg=>by omega)) hD ?_
   refine zT 8 rfl (Qe rfl Qr (fun hg=>by exact Jh (YH (by omega)))) hD ?_
   refine zT 9 rfl (ZR rfl rfl rfl (fun hg=>by omega)) hD ?_
   refine zT 10 rfl (Qe rfl QJ (fun hg=>by exact hC17.any)) hD ?_
   refine zT 11 rfl (Qi rfl) hD ?_
   refine zT 12 rfl (zX Qw hL17) hD ?_
   refine zT 13 rfl (Qe rfl Qr (fun hg=>by exact zAa (k:=x.2.toNat) hL17 (Q4 (d:=0) rfl (by omega)) rfl)) hD ?_
   refine zT 14 rfl (Q6 rfl rfl Qw (fun hg=>by omega)) hD ?_
   refine qd 15 rfl ?_
   refine ZI rfl rfl Z2 rfl rfl (by repeat (first | exact Upd.here | apply Upd.there | apply QK)) (by rw [show YI (Ym (wdW xs)) x.1.toNat+YI (cnt pre) x.1.toNat=((Ym (wdW xs) x.1.toNat+cnt pre x.1.toNat:Nat):Int) from rfl];exact ztJ (by rw [Yb];omega)) ?_
   refine Qb ?_
   refine zD hD ?_
   refine QF (by kernel_rfl) ?_
   refine QO ?_
   rw [show YI (Ym (wdW xs)) x.1.toNat+YI (cnt pre) x.1.toNat=((Ym (wdW xs) x.1.toNat+cnt pre x.1.toNat:Nat):Int) from rfl,VN,JZ,←zbZ]
   refine Qa (Qg ?_)
   refine zV (Qe rfl QJ (fun hg=>by exact hC22.any)) ?_
   refine zM ?_
   refine zV (Q6 rfl rfl Qw (fun hg=>by omega)) ?_
   refine zV (Qe rfl Qr (fun hg=>by exact Jh (YH (by omega)))) ?_
   refine zB ?_
   refine zV (Q6 rfl rfl Qw (fun hg=>by omega)) ?_
   refine ZI rfl rfl Z2 rfl rfl (by repeat (first | exact Upd.here | apply Upd.there | apply QK)) (zvf (by rw [Yb];omega)) ?_
   refine Qb ?_
   rw [UF,JZ,show YI (cnt pre) x.1.toNat+1=((cnt pre x.1.toNat+1:Nat):Int) from rfl,zaJ,←Ue]
   refine Qf ?_
   exact zaG ⟨zAh _,rfl⟩ .refl
  ·
   rintro bd I1 loc1 hI1 rfl
   have hre:=hre.mono hI1;have hC16:=hC16.mono hI1;have hB6:=hB6.trans hI1
   refine Qf (Qa ?_)
   refine Zg (b:=b127) (by repeat (first | exact Q8.here | apply Q8.there)) (fun I34 hI34 hb34=>?_)
   have hre:=hre.mono hI34;have hC16:=hC16.mono hI34;have hB6:=hB6.trans hI34
   have hRow:Sl I34 1 QQ (some ⟨b127,0,none⟩) (loW xs) (loW xs) (zcN xs i):=Sl.lit (zcN xs i) Yb Qv hb34
   refine Qg (zM ?_)
   refine zV (Qe rfl QJ (fun hg=>by exact hC16.any)) ?_
   refine Qq (ps:=[(0,_)]) (m:=[XI ⟨some ⟨b127,0,none⟩,loW xs,loW xs⟩]) zbl rfl (.cons rfl (.nil)) rfl (by simp [Zb]) (by decide) (by decide) rfl rfl (fun b_225=>?_)
   refine QY (v:=_) (ys:=[(⟨some ⟨b127,0,none⟩,loW xs,loW xs⟩:Hd)].flatMap XI) (L:=L) rfl rfl zbl hO (by repeat (first | exact .cons .here .nil | exact QD | exact Qx | apply QC | apply QB)) ⟨rfl,fun _=>rfl,by repeat (first | exact zAf | apply zAe | apply zAg)⟩ (zwr _) (by omega) rfl rfl ?_
   intro v9 L9 hO9 _;rw [←List.flatMap_append] at hO9
   refine zA (Qb (Qf (Qa (Qg ?_))))
   refine zB ?_
   refine zM (Qb ?_)
   exact zd (h:=⟨xs.length-(i+1),by omega,i+1,_,_,_,rfl,rfl,hB6,rfl,by omega,hO9,by rw [zag];exact hre.snoc (hd:=⟨some ⟨b127,0,none⟩,loW xs,loW xs⟩) hRow⟩)
  rintro c bd pre I1 loc1 hI1 hpre hF;exact hF.elim
 have hge_i:xs.length≤i:=by have h:=hc122;simp at h;omega
 obtain rfl:i=xs.length:=by omega
 refine QI (Qh (Qh (Qk (Qa (zR (zM ?_))))))
 refine zA ?_
 refine zA (zN (Qt ?_))
 first
 | exact Uh (L:=L) (fun a ha w hw=>zvM rfl rfl rfl a ha w) (fun w hw=>by obtain ⟨I9,av9,c9,h1',h2',e9,h4'⟩:=OwnS.freeze (R:=[]) hO Zb (by decide) (by rw [List.append_nil];exact hw);cases e9;exact ⟨_,I9,[],rfl,hIc.trans h1',h2',rfl,va2,vc2,by rw [t1,t2,List.length_map,List.length_range],by rw [t2,List.length_map,List.length_range];exact ⟨os,h4',hre.mono h1'⟩⟩)
end
section
open Go Go.Kn Go.Proofs
structure Em where
 locus:Int
 code:Int
 reason:Int
def YB (e:Em):List Value:=[.int .i64 e.locus,.int .i64 e.code,.int .i64 e.reason]
theorem zac (e:Em):(YB e).length=3:=rfl
theorem zvA (xs:List Em):Yz (xs.flatMap YB)=true:=Yl (fun _=>rfl) xs
def r1F (code:Int)(b:Bool):Bool:=(b&&code != 0)&&code != 8589934592
def r2F (code:Int)(b:Bool):Bool:=(Vl code==0)&& !b
def r3F (code:Int)(_:Bool):Bool:=code==0
def rsF (r code:Int)(b:Bool):Bool:=if r=1 then r1F code b else if r=2 then r2F code b else if r=3 then r3F code b else false
def Xo (rows:List (List Int))(e:Em):Bool:=rows.any fun r=>r.getD e.locus.toNat 0==e.code
def zd4 (rows:List (List Int))(m:Nat)(l:Int)(e:Em):Bool:=decide (e.locus≤l)||(decide (e.locus≥(m:Int))|| !rsF e.reason e.code (Xo rows e))
def J0 (rows:List (List Int))(m:Nat):Int→List Em→Bool
 | _,[]=>true
 | l,e::es=> !zd4 rows m l e&&J0 rows m e.locus es
theorem V2 {rows:List (List Int)}{m k:Nat}{l:Int}{es:List Em}{e:Em}(h:es[k]? =some e)(hb:zd4 rows m l e=true):J0 rows m l (es.drop k)=false:=by rw [ZO h];unfold J0;rw [hb];rfl
theorem zg3 {rows:List (List Int)}{m k:Nat}{l:Int}{es:List Em}{e:Em}(h:es[k]? =some e)(hb:zd4 rows m l e=false):J0 rows m l (es.drop k)=J0 rows m e.locus (es.drop (k+1)):=by
 rw [ZO h]
 show (!zd4 rows m l e&&J0 rows m e.locus (es.drop (k+1)))=_
 rw [hb];rfl
theorem ziI {rows:List (List Int)}{m k:Nat}{l:Int}{es:List Em}(h:es.length≤k):J0 rows m l (es.drop k)=true:=by rw [List.drop_eq_nil_of_le h];rfl
theorem zv3 {rows:List (List Int)}{m:Nat}{l:Int}{e:Em}(h1:e.reason≠1)(h2:e.reason≠2)(h3:e.reason≠3):zd4 rows m l e=true:=by unfold zd4 rsF;rw [if_neg h1,if_neg h2,if_neg h3];simp
theorem zxf {rows:List (List Int)}{m:Nat}{l:Int}{e:Em}(h:decide (e.locus≤l)=true):zd4 rows m l e=true:=by unfold zd4;rw [h];rfl
theorem zxc {rows:List (List Int)}{m:Nat}{l:Int}{e:Em}(h:decide (e.locus≥(m:Int))=true):zd4 rows m l e=true:=by unfold zd4;rw [h];simp
theorem zor {rows:List (List Int)}{m:Nat}{l:Int}{e:Em}{t:Bool}(h1:decide (e.locus≤l)=false)(h2:decide (e.locus≥(m:Int))=false)(h3:(!rsF e.reason e.code (Xo rows e))=t):zd4 rows m l e=t:=by unfold zd4;rw [h1,h2,h3];rfl
theorem zng (_rows:List (List Int))(m:Nat)(l:Int)(e:Em):decide (e.locus≤l)=true∨(decide (e.locus≤l)=false∧decide (e.locus≥(m:Int))=true)∨(decide (e.locus≤l)=false∧decide (e.locus≥(m:Int))=false):=by
 cases decide (e.locus≤l)<;>cases decide (e.locus≥(m:Int))<;>simp
/-! ### The readings -/
def lfK (es:List Em):Nat→List Em
 | 0=>es
 | k+1=>match lfK es k with
  | []=>[]
  | e::r=>if e.locus=(k:Int) then r else e::r
def VM (rows:List (List Int))(cl:List Int)(k:Nat):Int:=if (JF rows cl k).any (fun y=>(rows.getD 0 []).getD k 0==y)=true then (rows.getD 0 []).getD k 0 else (JF rows cl k).getD 0 0
def UV (rows:List (List Int))(cl:List Int)(es:List Em)(k:Nat):Int:=match lfK es k with
 | []=>VM rows cl k
 | e::_=>if e.locus=(k:Int) then e.code else VM rows cl k
def Vg (rows:List (List Int))(cl:List Int)(es:List Em):List Int:=(List.range (rows.getD 0 []).length).map (UV rows cl es)
theorem zot {es:List Em}{k:Nat}(h:lfK es k=[]):lfK es (k+1)=[]:=by show (match lfK es k with | []=>[] | e::r=>if e.locus=(k:Int) then r else e::r)=_;rw [h]
theorem zop {es:List Em}{k:Nat}{e:Em}{r:List Em}(h:lfK es k=e::r)(he:e.locus=(k:Int)):lfK es (k+1)=r:=by show (match lfK es k with | []=>[] | e::r=>if e.locus=(k:Int) then r else e::r)=_;rw [h];exact if_pos he
theorem zxj {es:List Em}{k:Nat}{e:Em}{r:List Em}(h:lfK es k=e::r)(he:¬e.locus=(k:Int)):lfK es (k+1)=e::r:=by show (match lfK es k with | []=>[] | e::r=>if e.locus=(k:Int) then r else e::r)=_;rw [h];exact if_neg he
theorem zn5 {rows:List (List Int)}{cl:List Int}{es:List Em}{k:Nat}(h:lfK es k=[]):UV rows cl es k=VM rows cl k:=by unfold UV;rw [h]
theorem zod {rows:List (List Int)}{cl:List Int}{es:List Em}{k:Nat}{e:Em}{r:List Em}(h:lfK es k=e::r)(he:e.locus=(k:Int)):UV rows cl es k=e.code:=by unfold UV;rw [h];exact if_pos he
theorem ztV {rows:List (List Int)}{cl:List Int}{es:List Em}{k:Nat}{e:Em}{r:List Em}(h:lfK es k=e::r)(he:¬e.locus=(k:Int)):UV rows cl es k=VM rows cl k:=by unfold UV;rw [h];exact if_neg he
def UT (rows:List (List Int))(no:Int)(cl:List Int)(es:List Em):Int:=
 if YO rows cl≠0 then YO rows cl else if (decide (no<0)||decide (no>1048576))=true then 430 else if J0 rows (rows.getD 0 []).length (-1) es=true then 0 else 430
theorem ziP {rows:List (List Int)}{no:Int}{cl:List Int}{es:List Em}(h:YO rows cl≠0):UT rows no cl es=YO rows cl:=by unfold UT;rw [if_pos h]
theorem zpB {rows:List (List Int)}{no:Int}{cl:List Int}{es:List Em}(h:YO rows cl=0)(h2:(decide (no<0)||decide (no>1048576))=true):UT rows no cl es=430:=by unfold UT;rw [if_neg (by omega),if_pos h2]
theorem Xi {rows:List (List Int)}{no:Int}{cl:List Int}{es:List Em}(h:YO rows cl=0)(h2:(decide (no<0)||decide (no>1048576))=false)(h3:J0 rows (rows.getD 0 []).length (-1) es=false):UT rows no cl es=430:=by unfold UT;rw [if_neg (by omega),if_neg (by rw [h2];decide),if_neg (by rw [h3];decide)]
theorem zoN {rows:List (List Int)}{no:Int}{cl:List Int}{es:List Em}(h:YO rows cl=0)(h2:(decide (no<0)||decide (no>1048576))=false)(h3:J0 rows (rows.getD 0 []).length (-1) es=true):UT rows no cl es=0:=by unfold UT;rw [if_neg (by omega),if_neg (by rw [h2];decide),if_pos h3]
def Z3 (no:Int)(a1:Option Addr)(n1 c1:Nat)(a2:Option Addr)(n2 c2:Nat)(a3:Option Addr)(n3 c3:Nat):List Value:=[.int .i64 no,.slice a1 n1 c1,.slice a2 n2 c2,.slice a3 n3 c3]
def zzI (I:Qu)(vs:List Value)(no:Int)(cl:List Int)(es:List Em)(rd:List Int):Prop:=∃ a1 n1 c1 a2 n2 c2 a3 n3 c3,vs=Z3 no a1 n1 c1 a2 n2 c2 a3 n3 c3∧Sl I 1 QQ a1 n1 c1 cl∧Sl I 3 YB a2 n2 c2 es∧Sl I 1 QQ a3 n3 c3 rd
def zy3 (rows:List (List Int))(no:Int)(cl:List Int)(es:List Em):Value→Qu→Go.Kn.Loc→Prop:=fun v I' L=>L=[]∧∃ vs,v= .tuple #[.agg vs.toArray,.int .i64 (UT rows no cl es)]∧
 ((UT rows no cl es=0∧zzI I' vs no cl es (Vg rows cl es))∨(UT rows no cl es≠0∧zzI I' vs 0 [] [] []))
theorem zmX {rows:List (List Int)}{cl:List Int}{k:Nat}(h:YO rows cl=0)(hk:k<(rows.getD 0 []).length):(UY rows cl)[k]? =some (JF rows cl k):=by rw [XT h,List.getElem?_map,List.getElem?_range hk];rfl
theorem zkX {rows:List (List Int)}{cl:List Int}(h:YO rows cl=0):(UY rows cl).length=(rows.getD 0 []).length:=by rw [XT h,List.length_map,List.length_range]
end
section
open Go Go.Kn Go.Proofs
theorem zn3:ElT Tryz.prog 24 67 3 24:=.of (by kernel_rfl)
theorem VR:QZ Tryz.prog 67 0 0:=.of (by kernel_rfl)
theorem X0:QZ Tryz.prog 67 1 1:=.of (by kernel_rfl)
theorem zti:Fun Tryz.prog 106:=.of Tryz.func106 (by kernel_rfl) (by kernel_rfl)
theorem zvl:Fun Tryz.prog 54:=.of Tryz.func54 (by kernel_rfl) (by kernel_rfl)
theorem zn6:Fun Tryz.prog 63:=.of Tryz.func63 (by kernel_rfl) (by kernel_rfl)
theorem zar:MpT Tryz.prog 120 3 124 (.agg #[.nilFunc]):=⟨by kernel_rfl,.of (by kernel_rfl)⟩
theorem zeh:PlT Tryz.prog 124 #[(0,1)] (.agg #[.nilFunc]):=⟨.of (by kernel_rfl),by kernel_rfl,fun w=>by kernel_rfl⟩
theorem zzq (I:Qu)(code:Int)(b:Bool):Zy Tryz.prog 97 [.int .i64 code,.bool b] I (.bool (r1F code b)):=by
 intro g H w hw
 refine qe Tryz.func97 Tryz.ntmps97 hw ?_
 refine zR (zA ?_)
 refine zN (zR ?_)
 refine zM ?_
 refine zM ?_
 refine QH 1 rfl rfl rfl ?_
 refine zK (Qi rfl) ?_
 refine zK (QG rfl rfl rfl) ?_
 refine QP rfl rfl rfl rfl rfl ?_
 refine zM ?_
 refine QH 5 rfl rfl rfl ?_
 refine zK (Qi rfl) ?_
 refine zK (QG rfl rfl rfl) ?_
 refine QP rfl rfl rfl rfl rfl ?_
 refine zA (zN (Qt ?_))
 exact zr rfl rfl (by rfl)
theorem zzs (I:Qu)(code:Int)(b:Bool):Zy Tryz.prog 98 [.int .i64 code,.bool b] I (.bool (r2F code b)):=by
 intro g H w hw
 refine qe Tryz.func98 Tryz.ntmps98 hw ?_
 have hIc:=zAh I
 refine zR (zA ?_)
 refine zN (zR ?_)
 refine zM ?_
 refine qc (vs:=[_]) rfl zfr (zga _ _) ?_
 refine zM ?_
 refine zE ?_
 refine zE ?_
 refine Qs Wv rfl rfl (fun b_5=>?_)
 refine zh Ye ?_
 refine zA ?_
 refine zN (zR ?_)
 refine zM ?_
 refine zC ?_
 refine zM ?_
 refine QH 2 rfl rfl rfl ?_
 refine zK (Qi rfl) ?_
 refine zK (Ve rfl) ?_
 refine QP rfl rfl rfl rfl rfl ?_
 refine zA (zN (Qt ?_))
 exact zp hIc rfl rfl (by rfl)
theorem zyK (I:Qu)(code:Int)(b:Bool):Zy Tryz.prog 99 [.int .i64 code,.bool b] I (.bool (r3F code b)):=by
 intro g H w hw
 refine qe Tryz.func99 Tryz.ntmps99 hw ?_
 refine zR (zA ?_)
 refine zN (zR ?_)
 refine zM ?_
 refine zC ?_
 refine zA (zN (Qt ?_))
 exact zr rfl rfl (by rfl)
def rsV (f:Nat):Value:=.agg #[.func (.func f) #[] #[]]
def rsM:List (Int×Nat):=[(1,97),(2,98),(3,99)]
theorem zh7 (I:Qu):Yf Tryz.prog 52 [] I [] (fun v I' L=>L=[]∧∃ r,v= .map (some r)∧I' r=some (ZQ (Value.int .i64) rsV rsM)):=by
 intro g H w hw
 refine qe Tryz.func52 Tryz.ntmps52 hw ?_
 have hIc:=zAh I
 refine zR (zA ?_)
 refine zN (zR ?_)
 refine ZL rfl rfl (fun r_1=>?_)
 refine zV (QS (ps:=[(0,_)]) [_] zeh rfl rfl) ?_
 refine WC (m:=[]) (ek:=Value.int .i64) (ev:=rsV) 97 zar ZG rfl rfl rfl rfl (by repeat (first | exact Upd.here | apply Upd.there | apply QK)) ?_
 refine zV (QS (ps:=[(0,_)]) [_] zeh rfl rfl) ?_
 refine WC (m:=[(1,97)]) (ek:=Value.int .i64) (ev:=rsV) 98 zar ZG rfl rfl rfl rfl (by repeat (first | exact Upd.here | apply Upd.there | apply QK)) ?_
 refine zV (QS (ps:=[(0,_)]) [_] zeh rfl rfl) ?_
 refine WC (m:=[(1,97),(2,98)]) (ek:=Value.int .i64) (ev:=rsV) 99 zar ZG rfl rfl rfl rfl (by repeat (first | exact Upd.here | apply Upd.there | apply QK)) ?_
 refine zM ?_
 refine zA (zN (Qt ?_))
 refine QL .here (fun I9 h9 e9=>?_)
 exact Zx rfl rfl (fun w hw=>⟨_,I9,[],rfl,hIc.trans h9,hw,rfl,r_1,rfl,e9⟩)
theorem zzu {I:Qu}{av:Option Addr}{n c:Nat}{v:List Int}(hQ:Sl I 1 QQ av n c v){b:Nat}{e:Em}(hb:I b=some (.cells (YB e).toArray 67 (0,0)))(h0:0≤e.locus)(hl:e.locus.toNat<n):Zy Tryz.prog 54 [.slice av n c,Zc b] I (.bool (v.getD e.locus.toNat 0==e.code)):=by
 intro g H w hw
 refine qe Tryz.func54 Tryz.ntmps54 hw ?_
 refine zR (zA (zN (Ql ?_)))
 refine YF mixed (by kernel_rfl) ?_
 refine zq (Qi rfl) ?_
 refine zq (Qd rfl VR) ?_
 refine zq (Qe rfl Qr (fun hg=>by exact .imm hb rfl)) ?_
 refine zq (zX Qw hQ) ?_
 refine zq (Qe rfl Qr (fun hg=>by exact zAa (k:=e.locus.toNat) hQ (Q4 (d:=0) hQ.len hl) rfl)) ?_
 refine zq (Qd rfl X0) ?_
 refine zq (Qe rfl Qr (fun hg=>by exact .imm hb rfl)) ?_
 refine zq (QG rfl rfl rfl) ?_
 refine zq (ZF rfl) ?_
 refine YK ?_
 refine Qa (Qt ?_)
 exact zr rfl rfl (by rfl)
theorem zmA {I:Qu}{bv:Option Addr}{n2 c2:Nat}{rows:List (List Int)}(hV:SlN I bv n2 c2 rows)(hn:n2≤100000){b:Nat}{e:Em}(hb:I b=some (.cells (YB e).toArray 67 (0,0)))(h0:0≤e.locus)(hl:∀ r∈rows,e.locus.toNat<r.length):Zy Tryz.prog 100 [.slice bv n2 c2,.func (.func 54) #[] [Zc b].toArray] I (.int .i64 (Uk (fun r:List Int=>r.getD e.locus.toNat 0==e.code) rows)):=by
 intro g H w hw
 refine qe Tryz.func100 Tryz.ntmps100 hw ?_
 have hlV:=hV.len
 obtain ⟨hs,hV⟩:=hV
 have hH:=hV.1
 refine zR (zA (zN (Ql (zR ?_))))
 refine zM ?_
 refine zQ Zp ?_
 refine zM (zN (Qm ?_))
 refine zU [(0,_),(1,_),(7,_)] (fun T L0 mz E I' loc'=>∃ (k:Nat),mz=n2-k∧E=(8,.int .i64 k)::T∧I=I'∧L0=loc'∧k≤n2∧(rows.take k).any (fun r:List Int=>r.getD e.locus.toNat 0==e.code)=false) ?_ (h:=⟨0,rfl,rfl,rfl,rfl,Nat.zero_le _,rfl⟩)
 rintro mz E I' loc' ⟨k,rfl,rfl,rfl,rfl,hk,hno⟩
 refine zR (zC (zN (Ql ?_)))
 refine zI ?_ ?_<;>intro hc9
 ·
  have hlt_k:k<n2:=by have h:=hc9;simp at h;omega
  obtain ⟨x,v,hx,hv,hQ⟩:=hV.at hlt_k
  refine Qn (Qa (Ql (Qm (zR (zM ?_)))))
  refine zA ?_
  refine zN (zR ?_)
  refine zM ?_
  refine zM ?_
  refine zM ?_
  refine zV (zX Zp hH) ?_
  refine zV (Qe rfl QJ (fun hg=>by exact zAa hH hx rfl)) ?_
  refine YY (cap:=[Zc b]) (vs:=[_]) rfl rfl zvl (zzu hQ hb h0 (by rw [←hQ.len];exact hl _ (List.mem_of_getElem? hv))) rfl rfl ?_
  refine zN ?_
  refine zI ?_ ?_<;>intro hc16
  ·
   refine zR (zM ?_)
   refine zA (zN (Qt (Qp (Qc (Qc (Qp (Qc ?_)))))))
   exact zr rfl rfl (by rw [JE hno hv hc16])
  refine Qn (Qf (Qa (Qg (zB ?_))))
  refine zM (Qb ?_)
  exact zm (h:=⟨n2-(k+1),by omega,k+1,rfl,rfl,rfl,rfl,by omega,Vb hv hno hc16⟩)
 have hge_k:n2≤k:=by have h:=hc9;simp at h;omega
 refine QI (Qh (Qh (Qk (Qa (zR (zA (zN ?_)))))))
 refine Qt ?_
 exact zr rfl rfl (by rw [VQ hlV hge_k hno])
theorem zer {I:Qu}{bv:Option Addr}{n2 c2:Nat}{rows:List (List Int)}(hV:SlN I bv n2 c2 rows)(hn:n2≤100000){b:Nat}{e:Em}(hb:I b=some (.cells (YB e).toArray 67 (0,0)))(h0:0≤e.locus)(hl:∀ r∈rows,e.locus.toNat<r.length):Zy Tryz.prog 53 [.slice bv n2 c2,.func (.func 54) #[] [Zc b].toArray] I (.bool (Xo rows e)):=by
 intro g H w hw
 refine qe Tryz.func53 Tryz.ntmps53 hw ?_
 refine zR (zA ?_)
 refine zN (zR ?_)
 refine zM ?_
 refine zM ?_
 refine qc (vs:=[_,_]) rfl zcl (zmA hV hn hb h0 hl) ?_
 refine zC ?_
 refine zA (zN (Qt ?_))
 exact zr rfl rfl (by unfold Xo;rw [←K1])
theorem zbw {I:Qu}{av:Option Addr}{n c:Nat}{xs:List Int}(hS:Sl I 1 QQ av n c xs)(hn:n≤400000):Yf Tryz.prog 55 [.slice av n c] I [] (fun v I' L=>I'=I∧OwnS 3 1 v n (xs.flatMap QQ) L):=by
 intro g H w hw
 refine qe Tryz.func55 Tryz.ntmps55 hw ?_
 refine zR (zA (zN (Ql (zR ?_))))
 refine zM ?_
 refine zV (X1 rfl rfl Qw) ?_
 refine zN ?_
 refine zI ?_ ?_<;>intro hc4
 ·
  have hn0:n=0:=Decidable.byContradiction fun h=>by have:=hS.base h;rw [this] at hc4;cases hc4
  have hl:=hS.len
  subst hn0
  have hx0:=List.eq_nil_of_length_eq_zero hl
  subst hx0
  refine zR (zA (zN (Qt (Qc ?_))))
  exact Zx rfl rfl (fun w hw=>⟨_,I,_,rfl,zAh _,hw,rfl,OwnS.nil⟩)
 refine Qn (Qa (zR ?_))
 refine Qq (ps:=[]) (m:=[]) Zh rfl (.nil) rfl (by simp) (by decide) (by decide) rfl rfl (fun b_5=>?_)
 refine zM ?_
 refine QY (v:=_) (ys:=xs.flatMap QQ) (L:=[(b_5,_)]) rfl rfl Zh OwnS.new (by repeat (first | exact .cons .here .nil | exact QD | exact Qx | apply QC | apply QB)) (hS.src Qv) (Kk _) (by omega) rfl rfl ?_
 intro v1 L1 hO1 _;rw [List.nil_append,Nat.zero_add] at hO1
 refine zA (zN (Qt ?_))
 exact Zx rfl rfl (fun w hw=>⟨_,I,_,rfl,zAh _,hw.subL Zj,rfl,hO1⟩)
theorem zl2 {I:Qu}{av:Option Addr}{n c:Nat}{xs:List Em}(hS:Sl I 3 YB av n c xs)(hn:n≤400000):Yf Tryz.prog 56 [.slice av n c] I [] (fun v I' L=>I'=I∧OwnS 67 3 v n (xs.flatMap YB) L):=by
 intro g H w hw
 refine qe Tryz.func56 Tryz.ntmps56 hw ?_
 refine zR (zA (zN (Ql (zR ?_))))
 refine zM ?_
 refine zV (X1 rfl rfl KC) ?_
 refine zN ?_
 refine zI ?_ ?_<;>intro hc4
 ·
  have hn0:n=0:=Decidable.byContradiction fun h=>by have:=hS.base h;rw [this] at hc4;cases hc4
  have hl:=hS.len
  subst hn0
  have hx0:=List.eq_nil_of_length_eq_zero hl
  subst hx0
  refine zR (zA (zN (Qt (Qc ?_))))
  exact Zx rfl rfl (fun w hw=>⟨_,I,_,rfl,zAh _,hw,rfl,OwnS.nil⟩)
 refine Qn (Qa (zR ?_))
 refine Qq (ps:=[]) (m:=[]) zn3 rfl (.nil) rfl (by simp) (by decide) (by decide) rfl rfl (fun b_5=>?_)
 refine zM ?_
 refine QY (v:=_) (ys:=xs.flatMap YB) (L:=[(b_5,_)]) rfl rfl zn3 OwnS.new (by repeat (first | exact .cons .here .nil | exact QD | exact Qx | apply QC | apply QB)) (hS.src zac) (zvA _) (by omega) rfl rfl ?_
 intro v1 L1 hO1 _;rw [List.nil_append,Nat.zero_add] at hO1
 refine zA (zN (Qt ?_))
 exact Zx rfl rfl (fun w hw=>⟨_,I,_,rfl,zAh _,hw.subL Zj,rfl,hO1⟩)
theorem znw {I:Qu}{av:Option Addr}{n c:Nat}{xs:List Int}(hS:Sl I 1 QQ av n c xs){bv:Option Addr}{n2 c2:Nat}{ys:List Int}(hT:Sl I 1 QQ bv n2 c2 ys)(hn:n≤100000):Zy Tryz.prog 106 [.slice av n c,.slice bv n2 c2] I (.bool (decide (xs=ys))):=by
 intro g H w hw
 refine qe Tryz.func106 Tryz.ntmps106 hw ?_
 have hl1:=hS.len
 have hl2:=hT.len
 refine zR (zA (zN (Ql (zR ?_))))
 refine zM ?_
 refine zQ Qw ?_
 refine zM ?_
 refine zQ Qw ?_
 refine zC (zN ?_)
 refine zI ?_ ?_<;>intro hc10
 ·
  have hne:xs≠ys:=fun e=>by have h:=hc10;subst e;simp at h;omega
  refine zR (zA (zN (Qt (Qc ?_))))
  exact zr rfl rfl (by rw [decide_eq_false hne])
 have hnn:n=n2:=by have h:=hc10;simp at h;omega
 refine Qn (Qa (Ql (zR (zM ?_))))
 refine zQ Qw ?_
 refine zM (zN (Qm ?_))
 refine zU [(0,_),(1,_),(12,_)] (fun T L0 mz E I' loc'=>∃ (k:Nat),mz=n-k∧E=(13,.int .i64 k)::T∧I=I'∧L0=loc'∧k≤n∧xs.take k=ys.take k) ?_ (h:=⟨0,rfl,rfl,rfl,rfl,Nat.zero_le _,rfl⟩)
 rintro mz E I' loc' ⟨k,rfl,rfl,rfl,rfl,hk,hall⟩
 refine zR (zC (zN (Ql ?_)))
 refine zI ?_ ?_<;>intro hc14
 ·
  have hlt_k:k<n:=by have h:=hc14;simp at h;omega
  obtain ⟨x,hx⟩:=hS.at hlt_k
  obtain ⟨y,hy⟩:=hT.at (show k<n2 by omega)
  refine Qn (Qa (Ql (Qm (zR (zM ?_)))))
  refine zA (zN (Ql ?_))
  refine YF mixed (by kernel_rfl) ?_
  refine zq (Qi rfl) ?_
  refine zq (Qi rfl) ?_
  refine zq (zX Qw hS) ?_
  refine zq (Qe rfl Qr (fun hg=>by exact zAa hS hx rfl)) ?_
  refine zq (Qi rfl) ?_
  refine zq (Qi rfl) ?_
  refine zq (zX Qw hT) ?_
  refine zq (Qe rfl Qr (fun hg=>by exact zAa hT hy rfl)) ?_
  refine zq (QG rfl rfl rfl) ?_
  refine YK ?_
  refine Qa ?_
  refine zI ?_ ?_<;>intro hc24
  ·
   have hne:xs≠ys:=fun e=>by subst e;rw [hx] at hy;cases hy;simp at hc24
   refine zR (zA (zN (Qt (Qp (Qc (Qc (Qp ?_)))))))
   refine Qc ?_
   exact zr rfl rfl (by rw [decide_eq_false hne])
  have hxy:x=y:=by simpa using hc24
  refine Qn (Qf (Qa (Qg (zB ?_))))
  refine zM (Qb ?_)
  exact zm (h:=⟨n-(k+1),by omega,k+1,rfl,rfl,rfl,rfl,by omega,by rw [List.take_add_one,List.take_add_one,hall,hx,hy,hxy]⟩)
 have hge_k:n≤k:=by have h:=hc14;simp at h;omega
 have heq:xs=ys:=by rw [List.take_of_length_le (by omega),List.take_of_length_le (by omega)] at hall;exact hall
 refine QI (Qh (Qh (Qk (Qa (zR (zA (zN ?_)))))))
 refine Qt ?_
 exact zr rfl rfl (by rw [decide_eq_true heq])
theorem zhM {I:Qu}{av:Option Addr}{n c:Nat}{xs:List Int}(hS:Sl I 1 QQ av n c xs){bv:Option Addr}{n2 c2:Nat}{ys:List Int}(hT:Sl I 1 QQ bv n2 c2 ys)(hn:n≤100000):Zy Tryz.prog 63 [.slice av n c,.slice bv n2 c2] I (.bool (decide (xs=ys))):=by
 intro g H w hw
 refine qe Tryz.func63 Tryz.ntmps63 hw ?_
 refine zR (zA ?_)
 refine zN (zR ?_)
 refine zM ?_
 refine zM ?_
 refine qc (vs:=[_,_]) rfl zti (znw hS hT hn) ?_
 refine zA (zN (Qt ?_))
 exact zr rfl rfl (by rfl)
theorem znE {I:Qu}{av:Option Addr}{n c:Nat}{xs:List (List Int)}(hS:SlN I av n c xs){bv:Option Addr}{n2 c2:Nat}{ys:List (List Int)}(hT:SlN I bv n2 c2 ys)(hn:n≤100000)(hn3:∀ x∈xs,x.length≤100000):Zy Tryz.prog 82 [.slice av n c,.slice bv n2 c2,.func (.func 63) #[] #[]] I (.bool (decide (xs=ys))):=by
 intro g H w hw
 refine qe Tryz.func82 Tryz.ntmps82 hw ?_
 have hl1:=hS.len
 have hl2:=hT.len
 obtain ⟨hs,hS⟩:=hS
 have hH:=hS.1
 obtain ⟨gs,hT⟩:=hT
 have hG:=hT.1
 refine zR (zA (zN (Ql (zR ?_))))
 refine zM ?_
 refine zQ Zp ?_
 refine zM ?_
 refine zQ Zp ?_
 refine zC (zN ?_)
 refine zI ?_ ?_<;>intro hc14
 ·
  have hne:xs≠ys:=fun e=>by have h:=hc14;subst e;simp at h;omega
  refine zR (zA (zN (Qt (Qc ?_))))
  exact zr rfl rfl (by rw [decide_eq_false hne])
 have hnn:n=n2:=by have h:=hc14;simp at h;omega
 refine Qn (Qa (Ql (zR (zM ?_))))
 refine zQ Zp ?_
 refine zM (zN (Qm ?_))
 refine zU [(1,_),(2,_),(15,_),(16,_)] (fun T L0 mz E I' loc'=>∃ (k:Nat),mz=n-k∧E=(17,.int .i64 k)::T∧I=I'∧L0=loc'∧k≤n∧xs.take k=ys.take k) ?_ (h:=⟨0,rfl,rfl,rfl,rfl,Nat.zero_le _,rfl⟩)
 rintro mz E I' loc' ⟨k,rfl,rfl,rfl,rfl,hk,hall⟩
 refine zR (zC (zN (Ql ?_)))
 refine zI ?_ ?_<;>intro hc18
 ·
  have hlt_k:k<n:=by have h:=hc18;simp at h;omega
  obtain ⟨x,u,hx,hu,hP⟩:=hS.at hlt_k
  obtain ⟨y,v,hy,hv,hQ⟩:=hT.at (show k<n2 by omega)
  refine Qn (Qa (Ql (Qm (zR (zM ?_)))))
  refine zV (zX Zp hH) ?_
  refine zV (Qe rfl QJ (fun hg=>by exact zAa hH hx rfl)) ?_
  refine zA ?_
  refine zA ?_
  refine zN (zR ?_)
  refine zM ?_
  refine zM ?_
  refine zV (zX Zp hG) ?_
  refine zV (Qe rfl QJ (fun hg=>by exact zAa hG hy rfl)) ?_
  refine zA ?_
  refine zN (zR ?_)
  refine zM ?_
  refine zM ?_
  refine zM ?_
  refine qc (vs:=[_,_]) rfl zn6 (zhM hP hQ (by rw [←hP.len];exact hn3 _ (List.mem_of_getElem? hu))) ?_
  refine zO (zN ?_)
  refine zI ?_ ?_<;>intro hc30
  ·
   have hne:xs≠ys:=fun e=>by subst e;rw [hu] at hv;cases hv;simp at hc30
   refine zR (zA (zN (Qt (Qp (Qc (Qc (Qp ?_)))))))
   refine Qc ?_
   exact zr rfl rfl (by rw [decide_eq_false hne])
  have huv:u=v:=by simpa using hc30
  refine Qn (Qf (Qa (Qg (zB ?_))))
  refine zM (Qb ?_)
  exact zm (h:=⟨n-(k+1),by omega,k+1,rfl,rfl,rfl,rfl,by omega,by rw [List.take_add_one,List.take_add_one,hall,hu,hv,huv]⟩)
 have hge_k:n≤k:=by have h:=hc18;simp at h;omega
 have heq:xs=ys:=by rw [List.take_of_length_le (by omega),List.take_of_length_le (by omega)] at hall;exact hall
 refine QI (Qh (Qh (Qk (Qa (zR (zA (zN ?_)))))))
 refine Qt ?_
 exact zr rfl rfl (by rw [decide_eq_true heq])
end
section
open Go Go.Kn Go.Proofs
theorem zb7 {rows:List (List Int)}{cl:List Int}{l:Nat}:0<(JF rows cl l).length:=by
 have hne:zlj rows cl l≠[]:=fun e=>by
  have h1:=zkT (rows:=rows) (cl:=cl) (l:=l)
  have h2:=zjB (rows:=rows) (l:=l)
  rw [e] at h1;simp at h1;omega
 obtain ⟨h1,_⟩:=zcv hne
 rw [zcI] at h1
 obtain ⟨x,hx,e⟩:=List.mem_map.1 h1
 refine List.length_pos_of_mem (a:=x) ?_
 unfold JF
 rw [List.mem_filter]
 exact ⟨hx,by rw [e,zcI];simp⟩
theorem zmT {rows:List (List Int)}{cl:List Int}{k:Nat}(h:(JF rows cl k).any (fun y=>(rows.getD 0 []).getD k 0==y)=true):(rows.getD 0 []).getD k 0=VM rows cl k:=by unfold VM;rw [if_pos h]
theorem zrR {rows:List (List Int)}{cl:List Int}{k:Nat}(h:(JF rows cl k).any (fun y=>(rows.getD 0 []).getD k 0==y)=false):(JF rows cl k).getD 0 0=VM rows cl k:=by unfold VM;rw [if_neg (by rw [h];decide)]
def zi5:Em:=⟨0,0,0⟩
theorem zcu {rows:List (List Int)}{cl:List Int}{es lf:List Em}{k:Nat}(hl:lf=lfK es k)(h:(decide ((lf.length:Int)>0)&&((lf.getD 0 zi5).locus==(k:Int)))=true):(lf.getD 0 zi5).code=UV rows cl es k∧lf.drop 1=lfK es (k+1)∧0<lf.length:=by
 cases lf with
 | nil=>simp at h
 | cons e r=>
  have he:e.locus=(k:Int):=by simpa using h
  exact ⟨(zod hl.symm he).symm,(zop hl.symm he).symm,by simp⟩
theorem ziG {rows:List (List Int)}{cl:List Int}{es lf:List Em}{k:Nat}(hl:lf=lfK es k)(h:(decide ((lf.length:Int)>0)&&((lf.getD 0 zi5).locus==(k:Int)))=false):VM rows cl k=UV rows cl es k∧lf=lfK es (k+1):=by
 cases lf with
 | nil=>exact ⟨(zn5 hl.symm).symm,(zot hl.symm).symm⟩
 | cons e r=>
  have he:¬e.locus=(k:Int):=by
   intro he
   have h3:(e.locus==(k:Int))=false:=by simpa using h
   rw [he] at h3;simp at h3
  exact ⟨(ztV hl.symm he).symm,(zxj hl.symm he).symm⟩
theorem UX {rows:List (List Int)}{cl:List Int}{es:List Em}:(Vg rows cl es).length=(rows.getD 0 []).length:=by unfold Vg;simp
end
end Go.Proofs.YtodakphagkommaaGreatDoor
section
namespace Go
def Exit.straight (Q:Exit→Act→World→Prop):Exit→Act→World→Prop
 | .goto _,_,_=>False
 | .normal,a,w=>Q .normal a w
 | .exit i,a,w=>Q (.exit i) a w
 | .ret,a,w=>Q .ret a w
 | .panic c,a,w=>Q (.panic c) a w
 | .outgrown,a,w=>Q .outgrown a w
section
variable {P:Program} {F:Fence} {n:Nat} {b:Frame} {a:Act} {k:List Item} {cs:List Frame} {w:World} {Q:Exit→Act→World→Prop}
theorem VE {c:Code}:step P (lone (b.atR a (.code (.scope c)::k)) cs w)= .next (lone (b.atR a (.code c:: .inScope c::k)) cs w):=
 step_lone_go (by simp [stepG,stepG.exec,Frame.atR])
theorem zbU {c:Code}:step P (lone (b.atR a (.inScope c::k)) cs w)= .next (lone (b.atR a k) cs w):=
 step_lone_go (by simp [stepG,stepG.exec,Frame.atR])
theorem UQ {c:Code}(h:c.wpIn F n P (Exit.straight Q) a w):(Code.scope c).wpIn F n P Q a w:=by
 intro b k cs hro hb hr
 have h0:(lone (b.atR a (.code (.scope c)::k)) cs w).fenced P F:=fenced_calm hb hr rfl
 obtain ⟨e,a₁,w₁,hq,harr⟩:=h b (.inScope c::k) cs hro hb hr
 cases e with
 | normal=>exact ⟨.normal,a₁,w₁,hq,.head h0 VE (StepsIn.trans harr (.one (fenced_calm hb hr rfl) zbU))⟩
 | exit id=>
  have hx:exitTo id (.inScope c::k)=exitTo id k:=by simp [exitTo]
  exact ⟨_,a₁,w₁,hq,fun k' hk=>.head h0 VE (harr.1 k' (by rw [hx];exact hk)),
   fun hr' hk=>let ⟨k₁,h1,h2⟩:=harr.2 hr' (by rw [hx];exact hk);⟨k₁,h1,.head h0 VE h2⟩⟩
 | goto l=>exact hq.elim
 | ret=>exact ⟨_,a₁,w₁,hq,.of_steps (.one h0 VE) harr⟩
 | panic ch=>exact ⟨_,a₁,w₁,hq,.of_steps (.one h0 VE) harr⟩
 | outgrown=>exact ⟨_,a₁,w₁,hq,.of_steps (.one h0 VE) harr⟩
end
end Go
namespace Go.Kn
open Go
section
variable {C:Cx} {Q:Exit→Act→World→Prop} {E:Env} {I:Qu} {loc:Loc}
theorem zr0 {c:Code}(h:X C (Exit.straight Q) c E I loc):X C Q (.scope c) E I loc:=fun a w ha hw=>UQ (h a w ha hw)
theorem zsM {l:Nat}(h:At C Q .normal E I loc):X C Q (.label l) E I loc:=fun a w ha hw=>wpIn_label (h a w ha hw)
theorem Jz (h:At C Q .ret E I loc):At C (Exit.straight Q) .ret E I loc:=h
theorem zgc {e:Exit}{loc':Loc}(h:loc=loc')(hx:At C Q e E I loc'):At C Q e E I loc:=h ▸ hx
variable {S:GS} {dst:Option Nat} {ty:TypeId} {pos:String} {af:Array Edge} {gd:Option (Nat×Bool)} {x y:Operand}
theorem Ws {P:Program}{w:World}{t e d:Nat}{q:Option Addr}(hT:P.underlying t=some (.pointer e)):(Op.equalIn (d+1) t (.pointer q) (.pointer none)).run P w= .ok q.isNone w:=by
 unfold Op.equalIn
 rw [Sem.run_bind,run_underlying hT]
 cases q<;>rfl
theorem WF {t t' e:Nat}{q:Option Addr}(hx:QA S E x=some (.pointer q))(hy:QA S E y=some (.pointer none))(hT:C.P.underlying t=some (.pointer e)):QV C S E I loc ⟨dst,.binOp .eql t x y t',ty,pos,af,gd⟩ (.bool q.isNone):=
 .of (by intro c e;cases e) fun a w ha hg hc _=>by
  have e1:∀ op x y t,(eqGuard op t x y (.pointer q) (.pointer none)).run C.P w= .ok () w:=by intros;unfold eqGuard;rename_i op _ _ _;cases op<;>rfl
  have e2:(Op.equal t (.pointer q) (.pointer none)).run C.P w= .ok q.isNone w:=Ws (d:=9999) hT
  simp only [execOp,Qj ha hg hc hx,Qj ha hg hc hy,Sem.run_bind,e1,Result.andThen,binOp,e2,Sem.run_pure]
end
end Go.Kn
end
namespace Go.Proofs.YtodakphagkommaaGreatDoor
section
open Go Go.Kn Go.Proofs
theorem Z5:AgT Tryz.prog 26 4:=.of (by kernel_rfl)
theorem zjD:AgT Tryz.prog 67 3:=.of (by kernel_rfl)
theorem zjC:QZ Tryz.prog 124 0 0:=.of (by kernel_rfl)
theorem Ji:QZ Tryz.prog 26 3 3:=.of (by kernel_rfl)
theorem XY:QZ Tryz.prog 67 2 2:=.of (by kernel_rfl)
theorem zvd:Fun Tryz.prog 51:=.of Tryz.func51 (by kernel_rfl) (by kernel_rfl)
theorem zwl:Fun Tryz.prog 52:=.of Tryz.func52 (by kernel_rfl) (by kernel_rfl)
theorem zld:Fun Tryz.prog 55:=.of Tryz.func55 (by kernel_rfl) (by kernel_rfl)
theorem zt6:Fun Tryz.prog 56:=.of Tryz.func56 (by kernel_rfl) (by kernel_rfl)
theorem zwg:Fun Tryz.prog 97:=.of Tryz.func97 (by kernel_rfl) (by kernel_rfl)
theorem zvH:Fun Tryz.prog 98:=.of Tryz.func98 (by kernel_rfl) (by kernel_rfl)
theorem zvV:Fun Tryz.prog 99:=.of Tryz.func99 (by kernel_rfl) (by kernel_rfl)
theorem zo0:PlT Tryz.prog 26 #[(0,1),(1,1),(2,1),(3,1)] (.agg #[(.int .i64 0),(.slice none 0 0),(.slice none 0 0),(.slice none 0 0)]):=⟨.of (by kernel_rfl),by kernel_rfl,fun w=>by kernel_rfl⟩
theorem zp0:ScT Tryz.prog 122:=.of (by kernel_rfl)
theorem zh1:SzT Tryz.prog 124 1:=.of (by kernel_rfl)
theorem KW:SzT Tryz.prog 26 4:=.of (by kernel_rfl)
theorem zoJ:SzT Tryz.prog 67 3:=.of (by kernel_rfl)
theorem zpi:Yu Tryz.prog 124 (.agg #[.nilFunc]):=.of (by kernel_rfl)
theorem zmc:Yu Tryz.prog 26 (.agg #[(.int .i64 0),(.slice none 0 0),(.slice none 0 0),(.slice none 0 0)]):=.of (by kernel_rfl)
theorem zuC:Yu Tryz.prog 67 (.agg #[(.int .i64 0),(.int .i64 0),(.int .i64 0)]):=.of (by kernel_rfl)
def zxP (I:Qu)(r:Nat):Prop:=I r=some (ZQ (Value.int .i64) rsV rsM)
theorem zxP.mono {I I':Qu}{r:Nat}(h:zxP I r)(hI:HLe I I'):zxP I' r:=hI _ _ h
theorem zmY (r:Int):(r≠1∧r≠2∧r≠3∧ZE rsM r=none)∨∃ f,ZE rsM r=some f∧Fun Tryz.prog f∧∀ (I:Qu) (code:Int) (b:Bool),Zy Tryz.prog f [.int .i64 code,.bool b] I (.bool (rsF r code b)):=by
 by_cases h1:r=1
 ·
  subst h1;exact .inr ⟨_,rfl,zwg,zzq⟩
 by_cases h2:r=2
 ·
  subst h2;exact .inr ⟨_,rfl,zvH,zzs⟩
 by_cases h3:r=3
 ·
  subst h3;exact .inr ⟨_,rfl,zvV,zyK⟩
 exact .inl ⟨h1,h2,h3,by unfold rsM;simp [ZE,Ne.symm h1,Ne.symm h2,Ne.symm h3]⟩
set_option maxHeartbeats 40000000 in
theorem zpJ {I:Qu} {av:Option Addr} {n c:Nat} {xs:List Int} (hS:Sl I 1 QQ av n c xs) {bv:Option Addr} {n2 c2:Nat} {rows:List (List Int)} (hVn:SlN I bv n2 c2 rows) (hn2:n2≤100000) {dv:Option Addr} {n3 c3:Nat} {es:List Em} (hEs:Sl I 3 YB dv n3 c3 es) (hn3:n3≤100000) (hnx:n≤100000) (hDb:VT I) (no:Int):Yf Tryz.prog 25 [.slice bv n2 c2,.int .i64 no,.slice av n c,.slice dv n3 c3] I [] (zy3 rows no xs es):=by
 intro g H w hw
 refine qe Tryz.func25 Tryz.ntmps25 hw ?_
 have hIc:=zAh I
 have hlV:=hVn.len
 subst hlV
 have hEl:=hEs.len
 subst hEl
 have hVn9:=hVn
 obtain ⟨hs,hV⟩:=hVn9
 have hH:=hV.1
 refine zR ?_
 refine Qs zmc rfl rfl (fun b_8=>?_)
 refine zA ?_
 refine zN (zR ?_)
 refine zM ?_
 refine zM ?_
 refine Qz (cap:=[]) (vs:=[_,_]) rfl rfl zvd .nil (zrj hS hVn hn2 hDb) rfl rfl ?_
 rintro vv1 I1 L1 hI1 ⟨rfl,av4,c4,rfl,hRt⟩
 have hS:=hS.mono hI1;have hVn:=hVn.mono hI1;have hV:=hV.mono hI1;have hH:=hH.mono hI1;have hEs:=hEs.mono hI1;have hIc:=hIc.trans hI1
 refine zM ?_
 refine zE ?_
 refine zE ?_
 refine zA ?_
 refine zA (zN (Ql (zR ?_)))
 refine zM ?_
 refine zC (zN ?_)
 refine zI ?_ ?_<;>intro hc28
 ·
  have hcE:YO rows xs≠0:=by simpa using hc28
  refine zR ?_
  refine zV (Qo rfl Z5 (fun hg=>by exact Cells.g0) rfl) ?_
  refine zM ?_
  refine zh KW ?_
  refine zA (zN (Qt (Qc ?_)))
  first
  | exact Zu rfl rfl rfl Z5 (vs:=Z3 0 none 0 0 none 0 0 none 0 0) (by repeat (first | exact zAf | apply zAe)) rfl (fun w hw=>⟨_,_,[],rfl,hIc,hw.drop,rfl,_,by rw [ziP hcE]<;>rfl,.inr ⟨by rw [ziP hcE];exact hcE,_,_,_,_,_,_,_,_,_,rfl,.nil,.nil,.nil⟩⟩)
 have hcE:YO rows xs=0:=by simpa using hc28
 have hr0:V5 rows=0:=by cases Decidable.em (V5 rows=0) with
  | inl h=>exact h
  | inr h=>exact absurd ((zfW h).1.symm.trans hcE) h
 obtain ⟨hr1,hr6,hr64,hrr⟩:=KU hr0
 obtain ⟨x0,v0,hx0,hv0,hQ0⟩:=hV.at (k:=0) (by omega)
 have hg0:rows.getD 0 []=v0:=QU hv0
 have hQ0l:=hQ0.len
 have hg1:(rows.getD 0 []).length=v0.length:=by rw [hg0]
 rw [zkX hcE] at hRt ⊢
 refine Qn (Qa (Ql (zR (zM ?_))))
 refine zC ?_
 refine zM ?_
 refine QR 2 rfl rfl rfl ?_
 refine zJ (Qi rfl) ?_
 refine zJ (QG rfl rfl rfl) ?_
 refine Zo rfl rfl rfl rfl rfl ?_
 refine zN ?_
 refine zI ?_ ?_<;>intro hc36
 ·
  refine zR ?_
  refine zV (Qo rfl Z5 (fun hg=>by exact Cells.g0) rfl) ?_
  refine zh KW ?_
  refine zA (zN (Qt (Qc ?_)))
  first
  | exact Zu rfl rfl rfl Z5 (vs:=Z3 0 none 0 0 none 0 0 none 0 0) (by repeat (first | exact zAf | apply zAe)) rfl (fun w hw=>⟨_,_,[],rfl,hIc,hw.drop,rfl,_,by rw [zpB hcE hc36]<;>rfl,.inr ⟨by rw [zpB hcE hc36];decide,_,_,_,_,_,_,_,_,_,rfl,.nil,.nil,.nil⟩⟩)
 refine Qn (Qa (zR ?_))
 refine Qz (cap:=[]) (vs:=[]) rfl rfl zwl .nil (zh7 _) rfl rfl ?_
 rintro vv2 I2 L2 hI2 ⟨rfl,rm,rfl,hRm⟩
 have hS:=hS.mono hI2;have hVn:=hVn.mono hI2;have hH:=hH.mono hI2;have hEs:=hEs.mono hI2;have hRt:=hRt.mono hI2;have hQ0:=hQ0.mono hI2;have hIc:=hIc.trans hI2
 have hRm:zxP I2 rm:=hRm
 refine zA ?_
 refine zA (zN (Ql (Ql ?_)))
 refine J9 (loc':=(b_8,.cells (Z3 0 none 0 0 none 0 0 none 0 0).toArray 26 (0,0))::[]) rfl ?_
 refine Qg (zM ?_)
 refine zQ KC ?_
 refine zM (zN (Qm ?_))
 refine zU [(0,_),(1,_),(2,_),(3,_),(8,_),(10,_),(11,_),(39,_),(40,_)] (fun T L0 mz E I' loc'=>∃ (k:Nat) (l:Int),mz=es.length-k∧E=(12,.int .i64 l)::(41,.int .i64 k)::T∧HLe I2 I'∧(b_8,.cells (Z3 0 none 0 0 none 0 0 none 0 0).toArray 26 (0,0))::[]=loc'∧k≤es.length∧ -1≤l∧J0 rows (rows.getD 0 []).length (-1) es=J0 rows (rows.getD 0 []).length l (es.drop k)) ?_ (h:=⟨0,(-1),rfl,rfl,zAh _,rfl,Nat.zero_le _,Int.le_refl _,rfl⟩)
 rintro mz E J3 loc' ⟨k,l,rfl,rfl,hJ,rfl,hk,hlm,hgo⟩
 have hS:=hS.mono hJ;have hVn:=hVn.mono hJ;have hH:=hH.mono hJ;have hEs:=hEs.mono hJ;have hRt:=hRt.mono hJ;have hQ0:=hQ0.mono hJ;have hRm:=hRm.mono hJ;have hIc:=hIc.trans hJ
 have hB0:=hJ
 refine zR (zC (zN (Ql ?_)))
 refine zI ?_ ?_<;>intro hc42
 ·
  have hlt_k:k<es.length:=by have h:=hc42;simp at h;omega
  obtain ⟨e,he⟩:=hEs.at hlt_k
  refine Qn (Qa (Ql (Qm (zR ?_))))
  refine zV (zX KC hEs) ?_
  refine zV (Qo rfl zjD (fun hg=>by exact zAi hEs he) rfl) ?_
  refine Qs zuC rfl rfl (fun b_14=>?_)
  refine zh zoJ ?_
  refine zN (Ql ?_)
  obtain ⟨h1,h2,h3,hget⟩ | ⟨f,hget,hFf,hCf⟩:=zmY e.reason
  ·
   refine Qg (zM ?_)
   refine zF XY ?_
   refine zL Qr ?_
   refine zV (zd2 hget (m:=rsM) (ek:=Value.int .i64) (ev:=rsV) (a:=e.reason) zar ZG rfl rfl (fun _=>.inl hRm)) ?_
   refine zM ?_
   refine zE ?_
   refine zE ?_
   refine Qs zpi rfl rfl (fun b_15=>?_)
   refine zh zh1 ?_
   refine zA (zN (Ql (Ql ?_)))
   refine Zg (b:=b_14) (by repeat (first | exact Q8.here | apply Q8.there)) (fun I4 hI4 hE14=>?_)
   have hIc:=hIc.trans hI4
   have hD:=zAh I4
   refine K4 mixed ?_
   refine zT 0 rfl (Qi rfl) hD ?_
   refine zT 1 rfl (Ve rfl) hD ?_
   refine zT 2 rfl (Qi rfl) hD ?_
   refine zW 3 54 hD ?_
   refine zW 4 54 hD ?_
   refine zW 5 54 hD ?_
   refine zW 6 54 hD ?_
   refine zT 7 rfl (Y5 rfl rfl rfl) hD ?_
   refine zT 8 rfl (Qi rfl) hD ?_
   refine zW 9 60 hD ?_
   refine zW 10 60 hD ?_
   refine zW 11 60 hD ?_
   refine zW 12 60 hD ?_
   refine zW 13 60 hD ?_
   refine zT 14 rfl (Y5 rfl rfl rfl) hD ?_
   refine zT 15 rfl (Qi rfl) hD ?_
   refine zW 16 67 hD ?_
   refine zW 17 67 hD ?_
   refine zW 18 67 hD ?_
   refine zW 19 67 hD ?_
   refine zW 20 67 hD ?_
   refine zW 21 67 hD ?_
   refine zW 22 67 hD ?_
   refine zW 23 67 hD ?_
   refine zW 24 67 hD ?_
   refine zT 25 rfl (Y5 rfl rfl rfl) hD ?_
   refine QF (by kernel_rfl) ?_
   refine QO ?_
   refine Qa ?_
   refine zI ?_ ?_<;>intro hc77
   ·
    have hbe:=zv3 (rows:=rows) (m:=(rows.getD 0 []).length) (l:=l) h1 h2 h3
    refine zR ?_
    refine zV (Qo rfl Z5 (fun hg=>by exact Cells.g1) rfl) ?_
    refine zh KW ?_
    refine zA (zN (Qt (Qc (Qp (Qc (Qc (Qp ?_)))))))
    refine Qc ?_
    first
    | exact Zu rfl rfl rfl Z5 (vs:=Z3 0 none 0 0 none 0 0 none 0 0) (by repeat (first | exact zAf | apply zAe)) rfl (fun w hw=>⟨_,_,[],rfl,hIc,hw.drop,rfl,_,by rw [Xi hcE hc36 (hgo.trans (V2 he hbe))]<;>rfl,.inr ⟨by rw [Xi hcE hc36 (hgo.trans (V2 he hbe))];decide,_,_,_,_,_,_,_,_,_,rfl,.nil,.nil,.nil⟩⟩)
   cases hc77
  refine Qg (zM ?_)
  refine zF XY ?_
  refine zL Qr ?_
  refine zV (zc7 hget (m:=rsM) (ek:=Value.int .i64) (ev:=rsV) (a:=e.reason) zar ZG rfl rfl (fun _=>.inl hRm)) ?_
  refine zM ?_
  refine zE ?_
  refine zE ?_
  refine Qs zpi rfl rfl (fun b_15=>?_)
  refine zh zh1 ?_
  refine zA (zN (Ql (Ql ?_)))
  obtain q1 | ⟨q1,q2⟩ | ⟨q1,q2⟩:=zng rows ((rows.getD 0 []).length) l e
  ·
   refine Zg (b:=b_15) (by repeat (first | exact Q8.here | apply Q8.there)) (fun I5 hI5 hb5=>?_)
   have hIc:=hIc.trans hI5
   have hC15:QT I5 [] b_15 0 (.func (.func f) #[] #[]):=.imm hb5 rfl
   refine Zg (b:=b_14) (by repeat (first | exact Q8.here | apply Q8.there)) (fun I6 hI6 hE14=>?_)
   have hIc:=hIc.trans hI6
   have hD:=zAh I6
   refine K4 mixed ?_
   refine zT 0 rfl (Qi rfl) hD ?_
   refine zT 1 rfl (Ve rfl) hD ?_
   refine zT 2 rfl (Qi rfl) hD ?_
   refine zw 3 54 rfl (Qd rfl VR) hD ?_
   refine zw 4 54 rfl (Qe rfl Qr (fun hg=>by exact .imm hE14 rfl)) hD ?_
   refine zw 5 54 rfl (Qi rfl) hD ?_
   refine zw 6 54 rfl (QG rfl rfl rfl) hD ?_
   rw [q1]
   refine zT 7 rfl (ZN rfl rfl rfl) hD ?_
   refine zT 8 rfl (Qi rfl) hD ?_
   refine zW 9 60 hD ?_
   refine zW 10 60 hD ?_
   refine zW 11 60 hD ?_
   refine zW 12 60 hD ?_
   refine zW 13 60 hD ?_
   refine zT 14 rfl (Y5 rfl rfl rfl) hD ?_
   refine zT 15 rfl (Qi rfl) hD ?_
   refine zW 16 67 hD ?_
   refine zW 17 67 hD ?_
   refine zW 18 67 hD ?_
   refine zW 19 67 hD ?_
   refine zW 20 67 hD ?_
   refine zW 21 67 hD ?_
   refine zW 22 67 hD ?_
   refine zW 23 67 hD ?_
   refine zW 24 67 hD ?_
   refine zT 25 rfl (Y5 rfl rfl rfl) hD ?_
   refine QF (by kernel_rfl) ?_
   refine QO ?_
   refine Qa ?_
   refine zI ?_ ?_<;>intro hc77
   ·
    have hbe:=zxf (rows:=rows) (m:=(rows.getD 0 []).length) q1
    refine zR ?_
    refine zV (Qo rfl Z5 (fun hg=>by exact Cells.g0) rfl) ?_
    refine zh KW ?_
    refine zA (zN (Qt (Qc (Qp (Qc (Qc (Qp ?_)))))))
    refine Qc ?_
    first
    | exact Zu rfl rfl rfl Z5 (vs:=Z3 0 none 0 0 none 0 0 none 0 0) (by repeat (first | exact zAf | apply zAe)) rfl (fun w hw=>⟨_,_,[],rfl,hIc,hw.drop,rfl,_,by rw [Xi hcE hc36 (hgo.trans (V2 he hbe))]<;>rfl,.inr ⟨by rw [Xi hcE hc36 (hgo.trans (V2 he hbe))];decide,_,_,_,_,_,_,_,_,_,rfl,.nil,.nil,.nil⟩⟩)
   cases hc77
  ·
   refine Zg (b:=b_15) (by repeat (first | exact Q8.here | apply Q8.there)) (fun I7 hI7 hb7=>?_)
   have hIc:=hIc.trans hI7
   have hC15:QT I7 [] b_15 0 (.func (.func f) #[] #[]):=.imm hb7 rfl
   refine Zg (b:=b_14) (by repeat (first | exact Q8.here | apply Q8.there)) (fun I8 hI8 hE14=>?_)
   have hIc:=hIc.trans hI8
   have hD:=zAh I8
   refine K4 mixed ?_
   refine zT 0 rfl (Qi rfl) hD ?_
   refine zT 1 rfl (Ve rfl) hD ?_
   refine zT 2 rfl (Qi rfl) hD ?_
   refine zw 3 54 rfl (Qd rfl VR) hD ?_
   refine zw 4 54 rfl (Qe rfl Qr (fun hg=>by exact .imm hE14 rfl)) hD ?_
   refine zw 5 54 rfl (Qi rfl) hD ?_
   refine zw 6 54 rfl (QG rfl rfl rfl) hD ?_
   rw [q1]
   refine zT 7 rfl (ZN rfl rfl rfl) hD ?_
   refine zT 8 rfl (Qi rfl) hD ?_
   refine zw 9 60 rfl (Qd rfl VR) hD ?_
   refine zw 10 60 rfl (Qe rfl Qr (fun hg=>by exact .imm hE14 rfl)) hD ?_
   refine zw 11 60 rfl (Qi rfl) hD ?_
   refine zw 12 60 rfl (Zr rfl Zp) hD ?_
   refine zw 13 60 rfl (QG rfl rfl rfl) hD ?_
   rw [q2]
   refine zT 14 rfl (ZN rfl rfl rfl) hD ?_
   refine zT 15 rfl (Qi rfl) hD ?_
   refine zW 16 67 hD ?_
   refine zW 17 67 hD ?_
   refine zW 18 67 hD ?_
   refine zW 19 67 hD ?_
   refine zW 20 67 hD ?_
   refine zW 21 67 hD ?_
   refine zW 22 67 hD ?_
   refine zW 23 67 hD ?_
   refine zW 24 67 hD ?_
   refine zT 25 rfl (Y5 rfl rfl rfl) hD ?_
   refine QF (by kernel_rfl) ?_
   refine QO ?_
   refine Qa ?_
   refine zI ?_ ?_<;>intro hc77
   ·
    have hbe:=zxc (rows:=rows) (l:=l) q2
    refine zR ?_
    refine zV (Qo rfl Z5 (fun hg=>by exact Cells.g0) rfl) ?_
    refine zh KW ?_
    refine zA (zN (Qt (Qc (Qp (Qc (Qc (Qp ?_)))))))
    refine Qc ?_
    first
    | exact Zu rfl rfl rfl Z5 (vs:=Z3 0 none 0 0 none 0 0 none 0 0) (by repeat (first | exact zAf | apply zAe)) rfl (fun w hw=>⟨_,_,[],rfl,hIc,hw.drop,rfl,_,by rw [Xi hcE hc36 (hgo.trans (V2 he hbe))]<;>rfl,.inr ⟨by rw [Xi hcE hc36 (hgo.trans (V2 he hbe))];decide,_,_,_,_,_,_,_,_,_,rfl,.nil,.nil,.nil⟩⟩)
   cases hc77
  have h0e:0≤e.locus:=by have h:=of_decide_eq_false q1;omega
  have hle:e.locus.toNat<(rows.getD 0 []).length:=by have h:=of_decide_eq_false q2;omega
  have hle2:∀ r∈rows,e.locus.toNat<r.length:=fun r hr=>by rw [(hrr r hr).1];exact hle
  refine Zg (b:=b_15) (by repeat (first | exact Q8.here | apply Q8.there)) (fun I9 hI9 hb9=>?_)
  have hVn:=hVn.mono hI9;have hIc:=hIc.trans hI9;have hB0:=hB0.trans hI9
  have hC15:QT I9 [] b_15 0 (.func (.func f) #[] #[]):=.imm hb9 rfl
  refine Zg (b:=b_14) (by repeat (first | exact Q8.here | apply Q8.there)) (fun I10 hI10 hE14=>?_)
  have hVn:=hVn.mono hI10;have hC15:=hC15.mono hI10;have hIc:=hIc.trans hI10;have hB0:=hB0.trans hI10
  have hD:=zAh I10
  refine K4 mixed ?_
  refine zT 0 rfl (Qi rfl) hD ?_
  refine zT 1 rfl (Ve rfl) hD ?_
  refine zT 2 rfl (Qi rfl) hD ?_
  refine zw 3 54 rfl (Qd rfl VR) hD ?_
  refine zw 4 54 rfl (Qe rfl Qr (fun hg=>by exact .imm hE14 rfl)) hD ?_
  refine zw 5 54 rfl (Qi rfl) hD ?_
  refine zw 6 54 rfl (QG rfl rfl rfl) hD ?_
  rw [q1]
  refine zT 7 rfl (ZN rfl rfl rfl) hD ?_
  refine zT 8 rfl (Qi rfl) hD ?_
  refine zw 9 60 rfl (Qd rfl VR) hD ?_
  refine zw 10 60 rfl (Qe rfl Qr (fun hg=>by exact .imm hE14 rfl)) hD ?_
  refine zw 11 60 rfl (Qi rfl) hD ?_
  refine zw 12 60 rfl (Zr rfl Zp) hD ?_
  refine zw 13 60 rfl (QG rfl rfl rfl) hD ?_
  rw [q2]
  refine zT 14 rfl (ZN rfl rfl rfl) hD ?_
  refine zT 15 rfl (Qi rfl) hD ?_
  refine zw 16 67 rfl (Qd rfl zjC) hD ?_
  refine zw 17 67 rfl (Qe rfl zp0 (fun hg=>by exact hC15.any)) hD ?_
  refine zw 18 67 rfl (Qd rfl X0) hD ?_
  refine zw 19 67 rfl (Qe rfl Qr (fun hg=>by exact .imm hE14 rfl)) hD ?_
  refine zw 20 67 rfl (Qi rfl) hD ?_
  refine zw 21 67 rfl (Zd (us:=[]) (vs:=[_]) rfl rfl) hD ?_
  refine qd 22 rfl ?_
  refine QN (dj:=67) rfl rfl rfl ?_
  refine qc (vs:=[_,_]) rfl zpy (zer hVn hn2 hE14 h0e hle2) ?_
  refine Qb ?_
  refine zD hD ?_
  refine qd 23 rfl ?_
  refine QN (dj:=67) rfl rfl rfl ?_
  refine YY (cap:=[]) (vs:=[_,_]) rfl rfl hFf (hCf _ _ _) rfl rfl ?_
  refine Qb ?_
  refine zD hD ?_
  refine zw 24 67 rfl (Ve rfl) hD ?_
  refine zT 25 rfl (ZN rfl rfl rfl) hD ?_
  refine QF (by kernel_rfl) ?_
  refine QO ?_
  refine Qa ?_
  refine zI ?_ ?_<;>intro hc77
  ·
   have hbe:=zor q1 q2 hc77
   refine zR ?_
   refine zV (Qo rfl Z5 (fun hg=>by exact Cells.g0) rfl) ?_
   refine zh KW ?_
   refine zA (zN (Qt (Qc (Qp (Qc (Qc (Qp ?_)))))))
   refine Qc ?_
   first
   | exact Zu rfl rfl rfl Z5 (vs:=Z3 0 none 0 0 none 0 0 none 0 0) (by repeat (first | exact zAf | apply zAe)) rfl (fun w hw=>⟨_,_,[],rfl,hIc,hw.drop,rfl,_,by rw [Xi hcE hc36 (hgo.trans (V2 he hbe))]<;>rfl,.inr ⟨by rw [Xi hcE hc36 (hgo.trans (V2 he hbe))];decide,_,_,_,_,_,_,_,_,_,rfl,.nil,.nil,.nil⟩⟩)
  have hbe:=zor q1 q2 hc77
  refine Qn (Qa (Qg ?_))
  refine zF VR ?_
  refine zV (Qe rfl Qr (fun hg=>by exact .imm hE14 rfl)) ?_
  refine zA (Qb (Qf (Qa (Qg ?_))))
  refine zB ?_
  refine zM (Qb ?_)
  exact zm (h:=⟨es.length-(k+1),by omega,k+1,_,rfl,rfl,hB0,rfl,by omega,by omega,by rw [hgo,zg3 he hbe]⟩)
 have hge_k:es.length≤k:=by have h:=hc42;simp at h;omega
 rw [ziI hge_k] at hgo
 refine QI (Qh (Qh (Qk (Qa (zR (zM ?_))))))
 refine zM ?_
 refine Qz (cap:=[]) (vs:=[_]) rfl rfl zld .nil (zbw hS (by omega)) rfl rfl ?_
 rintro vv11 I11 L11 hI11 ⟨rfl,hO1⟩
 have hH:=hH.mono hI11;have hEs:=hEs.mono hI11;have hRt:=hRt.mono hI11;have hQ0:=hQ0.mono hI11;have hIc:=hIc.trans hI11
 obtain ⟨va1,vc1,rfl⟩:=zd6 hO1
 refine zM ?_
 refine Qz (cap:=[]) (vs:=[_]) rfl rfl zt6 .nil (zl2 hEs (by omega)) rfl rfl ?_
 rintro vv12 I12 L12 hI12 ⟨rfl,hO2⟩
 have hH:=hH.mono hI12;have hEs:=hEs.mono hI12;have hRt:=hRt.mono hI12;have hQ0:=hQ0.mono hI12;have hIc:=hIc.trans hI12
 obtain ⟨va2,vc2,rfl⟩:=zd6 hO2
 refine zV (QS (ps:=[(0,_),(1,_),(2,_)]) [_,_,_,_] zo0 rfl rfl) ?_
 refine Y1 rfl rfl KW rfl rfl rfl rfl (by (repeat (first | exact Upd.here | apply Upd.there | apply QK))) ?_
 refine zN (Ql ?_)
 refine Vr hO2 zac (by decide) (by repeat (first | exact .cons .here .nil | exact QD | exact Qx | apply QC | apply QB)) (fun I13 hI13 af13 cf13 ef13 hEm2=>?_)
 cases ef13
 have hH:=hH.mono hI13;have hEs:=hEs.mono hI13;have hRt:=hRt.mono hI13;have hQ0:=hQ0.mono hI13;have hIc:=hIc.trans hI13
 refine Vr hO1 Qv (by decide) (by repeat (first | exact .cons .here .nil | exact QD | exact Qx | apply QC | apply QB)) (fun I14 hI14 af14 cf14 ef14 hCl=>?_)
 cases ef14
 have hH:=hH.mono hI14;have hEs:=hEs.mono hI14;have hRt:=hRt.mono hI14;have hQ0:=hQ0.mono hI14;have hEm2:=hEm2.mono hI14;have hIc:=hIc.trans hI14
 refine J9 (loc':=[]++[(b_8,.cells (Z3 no va1 n vc1 va2 es.length vc2 none 0 0).toArray 26 (0,0))]) rfl ?_
 refine Qg (zM ?_)
 refine zA (zN (Ql (zR ?_)))
 refine zM ?_
 refine zQ Zp ?_
 refine zM (zN (Qm ?_))
 refine zU [(0,_),(8,_),(89,_),(90,_)] (fun T L0 mz E I' loc'=>∃ (k:Nat) (lf:List Em) (dva:Option Addr) (dn:Nat) (dc:Nat) (va3:Option Addr) (vc3:Nat) (L:Go.Kn.Loc),mz=(rows.getD 0 []).length-k∧E=(17,.slice dva dn dc)::(91,.int .i64 k)::T∧HLe I14 I'∧L++[(b_8,.cells (Z3 no va1 n vc1 va2 es.length vc2 va3 k vc3).toArray 26 (0,0))]=loc'∧k≤(rows.getD 0 []).length∧lf=lfK es k∧Sl I' 3 YB dva dn dc lf∧OwnS 3 1 (.slice va3 k vc3) k (((List.range k).map (UV rows xs es)).flatMap QQ) L) ?_ (h:=⟨0,es,_,_,_,none,0,[],rfl,rfl,zAh _,rfl,Nat.zero_le _,rfl,hEs,OwnS.nil⟩)
 rintro mz E J15 loc' ⟨k,lf,dva,dn,dc,va3,vc3,L,rfl,rfl,hJ,rfl,hk,hlf,hLf,hO⟩
 have hH:=hH.mono hJ;have hRt:=hRt.mono hJ;have hQ0:=hQ0.mono hJ;have hEm2:=hEm2.mono hJ;have hCl:=hCl.mono hJ;have hIc:=hIc.trans hJ
 have hB2:=hJ
 have hLfl:=hLf.len
 subst hLfl
 refine zR (zC (zN (Ql ?_)))
 refine zI ?_ ?_<;>intro hc92
 ·
  have hlt_k:k<(rows.getD 0 []).length:=by have h:=of_decide_eq_true hc92;omega
  obtain ⟨rhs,hRh9⟩:=id hRt
  have hRh:=hRh9.1
  obtain ⟨rx,rv,hrx,hrv,hQ⟩:=hRh9.at hlt_k
  have hrv2:=zmX hcE hlt_k
  rw [hrv2] at hrv
  cases hrv
  have hrp:=zb7 (rows:=rows) (cl:=xs) (l:=k)
  have hQl:=hQ.len
  have hq0:(JF rows xs k)[0]? =some ((JF rows xs k).getD 0 0):=Q4 rfl hrp
  have hk0:v0[k]? =some (v0.getD k 0):=Q4 rfl (by rw [←hg0];exact hlt_k)
  have hstl:=zjK (rows:=rows) (l:=k)
  have hrl:(JF rows xs k).length≤(stE rows k).length:=List.length_filter_le _ _
  refine Qn (Qa (Ql (Qm (zR (zM ?_)))))
  refine zV (zX Zp hRh) ?_
  refine zV (Qe rfl QJ (fun hg=>by exact zAa hRh hrx rfl)) ?_
  refine zA ?_
  refine zA ?_
  refine zN (zR ?_)
  refine zM ?_
  refine zV (zX Qw hQ) ?_
  refine zV (Qe rfl Qr (fun hg=>by exact zAa hQ hq0 rfl)) ?_
  refine zA (zN ?_)
  refine zY [(0,_),(8,_),(17,_),(18,_),(89,_),(90,_),(91,_)] (fun T L0 E I' loc'=>∃ (b9:Int),E=(20,.int .i64 b9)::T∧HLe J15 I'∧L++[(b_8,.cells (Z3 no va1 n vc1 va2 es.length vc2 va3 k vc3).toArray 26 (0,0))]=loc'∧b9=VM rows xs k) ?_ ?_
  ·
   have hKc21:=zAh J15
   refine zR (zM ?_)
   refine zM ?_
   refine zV (zX Zp hH) ?_
   refine zV (Qe rfl QJ (fun hg=>by exact zAa hH hx0 rfl)) ?_
   refine zM ?_
   refine zV (zX Qw hQ0) ?_
   refine zV (Qe rfl Qr (fun hg=>by exact zAa hQ0 hk0 rfl)) ?_
   refine qc (vs:=[_,_]) rfl zdA (Kf hQ (by omega) _) ?_
   refine zN ?_
   refine zI ?_ ?_<;>intro hc106
   ·
    refine Qg (zM ?_)
    refine zV (zX Zp hH) ?_
    refine zV (Qe rfl QJ (fun hg=>by exact zAa hH hx0 rfl)) ?_
    refine zM ?_
    refine zV (zX Qw hQ0) ?_
    refine zV (Qe rfl Qr (fun hg=>by exact zAa hQ0 hk0 rfl)) ?_
    refine zA (Qb ?_)
    first
    | exact JH _ _ ⟨_,rfl,hKc21,rfl,by rw [←zmT (rows:=rows) (cl:=xs) (k:=k) (by rw [hg0];exact hc106),hg0]⟩ (.cons rfl (.cons rfl (.cons rfl (.cons rfl (.cons rfl (.cons rfl (.cons rfl (.cons rfl .nil)))))))) .refl
   refine Qn ?_
   first
   | exact JH _ _ ⟨_,rfl,hKc21,rfl,zrR (by rw [hg0];exact hc106)⟩ (.cons rfl (.cons rfl (.cons rfl (.cons rfl (.cons rfl (.cons rfl (.cons rfl (.cons rfl .nil)))))))) .refl
  rintro E J16 loc' ⟨b9,rfl,hJ106,rfl,hb9⟩
  have hLf:=hLf.mono hJ106;have hB2:=hB2.trans hJ106
  refine zY [(0,_),(8,_),(89,_),(90,_),(91,_)] (fun T L0 E I' loc'=>∃ (r9:Int) (lf2:List Em) (ea:Option Addr) (en ec:Nat),E=(17,.slice ea en ec)::(20,.int .i64 r9)::T∧HLe J16 I'∧L++[(b_8,.cells (Z3 no va1 n vc1 va2 es.length vc2 va3 k vc3).toArray 26 (0,0))]=loc'∧r9=UV rows xs es k∧lf2=lfK es (k+1)∧Sl I' 3 YB ea en ec lf2) ?_ ?_
  ·
   have hKc23:=zAh J16
   refine zR (zM ?_)
   refine zQ KC ?_
   refine zC ?_
   refine zM ?_
   refine QH 3 rfl rfl rfl ?_
   refine zK (Qi rfl) ?_
   refine zK (zX KC hLf) ?_
   refine zK (Qd rfl VR) ?_
   refine zK (Qe rfl Qr (fun hg=>by exact zAj (k:=0) hLf (Q4 (d:=zi5) rfl (by first | omega | (simp [ZY] at hg;omega))) rfl)) ?_
   refine zK (Qi rfl) ?_
   refine zK (QG rfl rfl rfl) ?_
   refine QP rfl rfl rfl rfl rfl ?_
   refine zN ?_
   refine zI ?_ ?_<;>intro hc123
   ·
    have hlf0:=(zcu (rows:=rows) (cl:=xs) hlf hc123).2.2
    refine YF mixed (by kernel_rfl) ?_
    refine zq (Qi rfl) ?_
    refine zq (zX KC hLf) ?_
    refine zq (Qd rfl X0) ?_
    refine zq (Qe rfl Qr (fun hg=>by exact zAj (k:=0) hLf (Q4 (d:=zi5) rfl (by first | omega | (simp [ZY] at hg;omega))) rfl)) ?_
    refine zq (Qi rfl) ?_
    refine zq (zbm rfl rfl KC (fun hg=>by omega)) ?_
    refine zq (ZF rfl) ?_
    refine zq (ZF rfl) ?_
    refine YK ?_
    exact JH _ _ ⟨_,lf.drop 1,_,_,_,rfl,hKc23,rfl,(zcu (rows:=rows) (cl:=xs) hlf hc123).1,(zcu (rows:=rows) (cl:=xs) hlf hc123).2.1,hLf.drop hlf0⟩ (.cons rfl (.cons rfl (.cons rfl (.cons rfl (.cons rfl (.cons rfl (.cons rfl .nil))))))) .refl
   refine Qn ?_
   exact JH _ _ ⟨_,lf,_,_,_,rfl,hKc23,rfl,hb9.trans (ziG (rows:=rows) (cl:=xs) hlf hc123).1,(ziG (rows:=rows) (cl:=xs) hlf hc123).2,hLf⟩ (.cons rfl (.cons rfl (.cons rfl (.cons rfl (.cons rfl (.cons rfl (.cons rfl .nil))))))) .refl
  rintro E J17 loc' ⟨r9,lf2,ea,en,ec,rfl,hJ123,rfl,hr9,hlf2,hLf2⟩
  have hB2:=hB2.trans hJ123
  refine Qg ?_
  refine zF Ji ?_
  refine zV (Qe rfl QJ (fun hg=>by (repeat (first | exact zAc rfl | apply zAb | apply zAd)))) ?_
  refine zM ?_
  refine Qq (ps:=[(0,_)]) (m:=[QQ r9]) Zh rfl (.cons rfl (.nil)) rfl (by simp [Qv]) (by decide) (by decide) rfl rfl (fun b_133=>?_)
  refine QY (v:=_) (ys:=[r9].flatMap QQ) (L:=L) rfl rfl Zh hO (by repeat (first | exact .cons .here .nil | exact QD | exact Qx | apply QC | apply QB)) ⟨rfl,fun _=>rfl,by repeat (first | exact zAf | apply zAe | apply zAg)⟩ (Kk [r9]) (by omega) rfl rfl ?_
  intro v9 L9 hO9 _;rw [←List.flatMap_append] at hO9;obtain ⟨va9,vc9,rfl⟩:=zd6 hO9
  refine zF Ji ?_
  refine ZI rfl rfl Zk rfl rfl (by (repeat (first | exact Upd.here | apply Upd.there | apply QK))) rfl ?_
  refine Qb (Qf (Qa (Qg (zB ?_))))
  refine zM (Qb ?_)
  exact zm (h:=⟨(rows.getD 0 []).length-(k+1),by omega,k+1,_,_,_,_,_,_,_,rfl,rfl,hB2,rfl,by omega,hlf2,hLf2,by rw [zag,←hr9];exact hO9⟩)
 have hge_k:(rows.getD 0 []).length≤k:=by have h:=of_decide_eq_false hc92;omega
 obtain rfl:k=(rows.getD 0 []).length:=by omega
 refine QI (Qh (Qh (Qk (Qa (zR ?_)))))
 refine zV (Qo rfl Z5 (fun hg=>by (repeat (first | exact zAf | apply zAe | apply zAg))) rfl) ?_
 refine Y1 rfl rfl KW rfl rfl rfl rfl (by (repeat (first | exact Upd.here | apply Upd.there | apply QK))) ?_
 refine zA (zN (Qt ?_))
 first
 | exact Zu rfl rfl rfl Z5 (vs:=Z3 no va1 n vc1 va2 es.length vc2 va3 (rows.getD 0 []).length vc3) (by repeat (first | exact zAf | apply zAe | apply zAg)) rfl (fun w hw=>by obtain ⟨I9,av9,c9,h1',h2',e9,h4'⟩:=OwnS.freeze (R:=[_]) hO Qv (by decide) hw;cases e9;exact ⟨_,I9,[],rfl,hIc.trans h1',h2'.drop,rfl,_,by rw [zoN hcE hc36 hgo]<;>rfl,.inl ⟨zoN hcE hc36 hgo,va1,_,_,va2,_,_,va3,_,_,rfl,hCl.mono h1',hEm2.mono h1',h4'⟩⟩)
end
section
open Go Go.Kn Go.Proofs
def Wc (rows:List (List Int))(no:Int)(cl:List Int)(es:List Em)(rd:List Int):Int:=if UT rows no cl es≠0 then UT rows no cl es else if rd=Vg rows cl es then 0 else 430
theorem ztW {rows:List (List Int)}{no:Int}{cl:List Int}{es:List Em}{rd:List Int}(h:UT rows no cl es≠0):Wc rows no cl es rd=UT rows no cl es:=by unfold Wc;rw [if_pos h]
theorem zyh {rows:List (List Int)}{no:Int}{cl:List Int}{es:List Em}{rd:List Int}(h:UT rows no cl es=0)(h2:rd≠Vg rows cl es):Wc rows no cl es rd=430:=by unfold Wc;rw [if_neg (by omega),if_neg h2]
theorem zqE {rows:List (List Int)}{no:Int}{cl:List Int}{es:List Em}{rd:List Int}(h:UT rows no cl es=0)(h2:rd=Vg rows cl es):Wc rows no cl es rd=0:=by unfold Wc;rw [if_neg (by omega),if_pos h2]
theorem zdf {rows:List (List Int)}{no:Int}{cl:List Int}{es:List Em}{rd:List Int}(h:Wc rows no cl es rd=0):UT rows no cl es=0∧rd=Vg rows cl es:=by
 unfold Wc at h
 split at h
 ·
  rename_i h1;exact absurd h h1
 ·
  rename_i h1
  split at h
  ·
   rename_i h2;exact ⟨by omega,h2⟩
  ·
   cases h
theorem zoA {rows:List (List Int)}{no:Int}{cl:List Int}{es:List Em}(h:UT rows no cl es=0):YO rows cl=0:=by
 unfold UT at h
 split at h
 ·
  rename_i h1;exact absurd h h1
 ·
  rename_i h1;omega
theorem KQ {rows:List (List Int)}{cl:List Int}(h:YO rows cl=0):V5 rows=0:=by
 cases Decidable.em (V5 rows=0) with
 | inl e=>exact e
 | inr e=>exact absurd ((zfW e).1.symm.trans h) e
theorem zy3.opn {rows:List (List Int)}{no:Int}{cl:List Int}{es:List Em}{v:Value}{I':Qu}{L:Go.Kn.Loc}(h:zy3 rows no cl es v I' L):L=[]∧∃ (no2:Int) (cl2:List Int) (es2:List Em) (rd2:List Int) (a1:Option Addr) (n1 c1:Nat) (a2:Option Addr) (n2 c2:Nat) (a3:Option Addr) (n3 c3:Nat),
  v= .tuple #[.agg (Z3 no2 a1 n1 c1 a2 n2 c2 a3 n3 c3).toArray,.int .i64 (UT rows no cl es)]∧Sl I' 1 QQ a1 n1 c1 cl2∧Sl I' 3 YB a2 n2 c2 es2∧Sl I' 1 QQ a3 n3 c3 rd2∧
  (UT rows no cl es=0→no2=no∧cl2=cl∧es2=es∧rd2=Vg rows cl es)∧(UT rows no cl es≠0→no2=0∧cl2=[]∧es2=[]∧rd2=[]):=by
 obtain ⟨rfl,vs,rfl,h⟩:=h
 rcases h with ⟨h0,a1,n1,c1,a2,n2,c2,a3,n3,c3,rfl,h1,h2,h3⟩ | ⟨h0,a1,n1,c1,a2,n2,c2,a3,n3,c3,rfl,h1,h2,h3⟩
 ·
  exact ⟨rfl,no,cl,es,Vg rows cl es,a1,n1,c1,a2,n2,c2,a3,n3,c3,rfl,h1,h2,h3,fun _=>⟨rfl,rfl,rfl,rfl⟩,fun h=>absurd h0 h⟩
 ·
  exact ⟨rfl,0,[],[],[],a1,n1,c1,a2,n2,c2,a3,n3,c3,rfl,h1,h2,h3,fun h=>absurd h h0,fun _=>⟨rfl,rfl,rfl,rfl⟩⟩
/-! ### Signs -/
def nzF (row:List Int)(k:Nat):Nat:=((row.take k).filter fun c=>c != 0).length
theorem zcg {row:List Int}{k:Nat}{c:Int}(h:row[k]? =some c)(hc:(c==0)=false):nzF row (k+1)=nzF row k+1:=by
 unfold nzF;rw [List.take_add_one,h,List.filter_append,List.length_append]
 have h2:(c != 0)=true:=by simpa [bne] using hc
 simp [h2]
theorem zfI {row:List Int}{k:Nat}{c:Int}(h:row[k]? =some c)(hc:(c==0)=true):nzF row (k+1)=nzF row k:=by
 unfold nzF;rw [List.take_add_one,h,List.filter_append,List.length_append]
 have h2:(c != 0)=false:=by simpa [bne] using hc
 simp [h2]
def zyE (ws:List Wr)(rows:List (List Int)):Prop:=∀ (i:Nat) (x:Wr) (row:List Int),ws[i]? =some x→rows[i]? =some row→∀ k,k<row.length→row.getD k 0≠0→nzF row k<x.rs.length
structure SgS where
 ex:Option Sg
 so:Option Sg
 many:Nat
 lost:Bool
def orS (a:Option Sg)(b:Sg):Option Sg:=match a with | none=>some b | some x=>some x
def zd8 (code:Int)(s:SgS)(c:Int)(y:Rd):SgS:=
 if (c==0)=true then s else if y.lost=true then {s with lost:=true} else
 ⟨if (s.ex.isNone&&c==code)=true then some y.sg else s.ex,orS s.so y.sg,s.many+1,s.lost⟩
def zpz:Rd:=⟨false,znx⟩
def ydF (ws:List Wr)(rows:List (List Int))(i k:Nat):Rd:=((ws[i]?).map (·.rs)).getD [] |>.getD (nzF (rows.getD i []) k) zpz
def sgK (ws:List Wr)(rows:List (List Int))(k:Nat)(code:Int):Nat→SgS
 | 0=>⟨none,none,0,false⟩
 | i+1=>zd8 code (sgK ws rows k code i) ((rows.getD i []).getD k 0) (ydF ws rows i k)
inductive Out | err | skip | sg (x:Sg)
def Uw (k:Nat)(code:Int)(y:Sg)(m:Bool):Sg:={UI code with id:=(k:Int),bar:=y.bar,mark:=if m=true then 3 else y.mark,fn:=y.fn,fd:=y.fd,tn:=y.tn,td:=y.td}
def zaU (ws:List Wr)(rows:List (List Int))(k:Nat)(code:Int):Out:=
 if (code==0)=true then .skip else
 match (sgK ws rows k code rows.length).ex.or (sgK ws rows k code rows.length).so with
 | none=>.err
 | some y=>if (Vl code != 0)=true then .err else .sg (Uw k code y ((decide ((ws.length:Int)>1)&&((sgK ws rows k code rows.length).many:Int)==1)&& !(sgK ws rows k code rows.length).lost))
def W0 (ws:List Wr)(rows:List (List Int))(rd:List Int):Nat→Option (List Sg)
 | 0=>some []
 | k+1=>match W0 ws rows rd k with
  | none=>none
  | some l=>match zaU ws rows k (rd.getD k 0) with
   | .err=>none
   | .skip=>some l
   | .sg x=>some (l++[x])
theorem zgI {ws : List Wr} {rows : List (List Int)} {rd : List Int} {k : Nat} (h : W0 ws rows rd k = none) : ∀ j, k ≤ j → W0 ws rows rd j = none
  | 0, hj => by obtain rfl : k = 0 := by omega
                cases h
  | j + 1, hj => by
    by_cases e : k = j + 1
    · subst e; exact h
    · show (match W0 ws rows rd j with | none => none | some l => match zaU ws rows j (rd.getD j 0) with | .err => none | .skip => some l | .sg x => some (l ++ [x])) = none
      rw [zgI h j (by omega)]
theorem zjv {ws:List Wr}{rows:List (List Int)}{rd:List Int}{k:Nat}{l:List Sg}(h:W0 ws rows rd k=some l)(ho:zaU ws rows k (rd.getD k 0)= .err)(hk:k<rd.length):W0 ws rows rd rd.length=none:=by
 refine zgI (k:=k+1) ?_ _ hk
 show (match W0 ws rows rd k with | none=>none | some l=>match zaU ws rows k (rd.getD k 0) with | .err=>none | .skip=>some l | .sg x=>some (l++[x]))=none
 rw [h];simp only;rw [ho]
theorem zlJ {ws:List Wr}{rows:List (List Int)}{rd:List Int}{k:Nat}{l:List Sg}(h:W0 ws rows rd k=some l)(ho:zaU ws rows k (rd.getD k 0)= .skip):W0 ws rows rd (k+1)=some l:=by
 show (match W0 ws rows rd k with | none=>none | some l=>match zaU ws rows k (rd.getD k 0) with | .err=>none | .skip=>some l | .sg x=>some (l++[x]))=_
 rw [h];simp only;rw [ho]
theorem zwF {ws:List Wr}{rows:List (List Int)}{rd:List Int}{k:Nat}{l:List Sg}{x:Sg}(h:W0 ws rows rd k=some l)(ho:zaU ws rows k (rd.getD k 0)= .sg x):W0 ws rows rd (k+1)=some (l++[x]):=by
 show (match W0 ws rows rd k with | none=>none | some l=>match zaU ws rows k (rd.getD k 0) with | .err=>none | .skip=>some l | .sg x=>some (l++[x]))=_
 rw [h];simp only;rw [ho]
def Km (ws:List Wr)(rows:List (List Int))(no:Int)(cl:List Int)(es:List Em)(rd:List Int):Int:=
 if zai ws≠0 then zai ws else if Uv ws≠rows then 430 else if Wc rows no cl es rd≠0 then Wc rows no cl es rd else if (W0 ws rows rd rd.length).isNone=true then 430 else 0
def Vk (ws:List Wr)(rows:List (List Int))(no:Int)(cl:List Int)(es:List Em)(rd:List Int):List Sg:=
 if Km ws rows no cl es rd≠0 then [] else (W0 ws rows rd rd.length).getD []
theorem zkZ {ws:List Wr}{rows:List (List Int)}{no:Int}{cl:List Int}{es:List Em}{rd:List Int}(h:Km ws rows no cl es rd≠0):Vk ws rows no cl es rd=[]:=by unfold Vk;rw [if_pos h]
theorem zzy {ws:List Wr}{rows:List (List Int)}{no:Int}{cl:List Int}{es:List Em}{rd:List Int}(h:zai ws≠0):Km ws rows no cl es rd=zai ws:=by unfold Km;rw [if_pos h]
theorem zyz {ws:List Wr}{rows:List (List Int)}{no:Int}{cl:List Int}{es:List Em}{rd:List Int}(h:zai ws=0)(h2:Uv ws≠rows):Km ws rows no cl es rd=430:=by unfold Km;rw [if_neg (by omega),if_pos h2]
theorem zx7 {ws:List Wr}{rows:List (List Int)}{no:Int}{cl:List Int}{es:List Em}{rd:List Int}(h:zai ws=0)(h2:Uv ws=rows)(h3:Wc rows no cl es rd≠0):Km ws rows no cl es rd=Wc rows no cl es rd:=by unfold Km;rw [if_neg (by omega),if_neg (fun e=>e h2),if_pos h3]
theorem zw0 {ws:List Wr}{rows:List (List Int)}{no:Int}{cl:List Int}{es:List Em}{rd:List Int}(h:zai ws=0)(h2:Uv ws=rows)(h3:Wc rows no cl es rd=0)(h4:W0 ws rows rd rd.length=none):Km ws rows no cl es rd=430:=by unfold Km;rw [if_neg (by omega),if_neg (fun e=>e h2),if_neg (by omega),h4];rfl
theorem zvZ {ws:List Wr}{rows:List (List Int)}{no:Int}{cl:List Int}{es:List Em}{rd:List Int}{l:List Sg}(h:zai ws=0)(h2:Uv ws=rows)(h3:Wc rows no cl es rd=0)(h4:W0 ws rows rd rd.length=some l):Km ws rows no cl es rd=0∧Vk ws rows no cl es rd=l:=by
 have e:Km ws rows no cl es rd=0:=by unfold Km;rw [if_neg (by omega),if_neg (fun e=>e h2),if_neg (by omega),h4];rfl
 exact ⟨e,by unfold Vk;rw [if_neg (by omega),h4];rfl⟩
theorem zqt {ws:List Wr}(_h:zai ws=0):(Ut ws != 0||ws.length==0)=false∨Uv ws=[]:=by
 cases e:(Ut ws != 0||ws.length==0) with
 | false=>exact .inl rfl
 | true=>exact .inr (zsy e).2
end
section
open Go Go.Kn Go.Proofs
theorem zlV:QZ Tryz.prog 26 0 0:=.of (by kernel_rfl)
theorem zfE:QZ Tryz.prog 26 1 1:=.of (by kernel_rfl)
theorem XJ:QZ Tryz.prog 26 2 2:=.of (by kernel_rfl)
theorem zjm:Fun Tryz.prog 25:=.of Tryz.func25 (by kernel_rfl) (by kernel_rfl)
theorem zgM:ScT Tryz.prog 24:=.of (by kernel_rfl)
theorem zic {I:Qu}{bv:Option Addr}{n2 c2:Nat}{rows:List (List Int)}(hVn:SlN I bv n2 c2 rows)(hn2:n2≤100000){ea1:Option Addr}{en1 ec1:Nat}{ea2:Option Addr}{en2 ec2:Nat}{ea3:Option Addr}{en3 ec3:Nat}{xs:List Int}{es:List Em}{rd:List Int}(hX1:Sl I 1 QQ ea1 en1 ec1 xs)(hX2:Sl I 3 YB ea2 en2 ec2 es)(hX3:Sl I 1 QQ ea3 en3 ec3 rd)(hm1:en1≤100000)(hm2:en2≤100000)(hm3:en3≤100000)(no:Int)(hDb:VT I):Zy Tryz.prog 30 [.slice bv n2 c2,.agg (Z3 no ea1 en1 ec1 ea2 en2 ec2 ea3 en3 ec3).toArray] I (.int .i64 (Wc rows no xs es rd)):=by
 intro g H w hw
 refine qe Tryz.func30 Tryz.ntmps30 hw ?_
 have hIc:=zAh I
 refine zR ?_
 refine Q2 rfl rfl rfl (fun b_3=>?_)
 refine zA ?_
 refine zN (zR ?_)
 refine zM ?_
 refine zF zlV ?_
 refine zL Qr ?_
 refine zF zfE ?_
 refine zL QJ ?_
 refine zF XJ ?_
 refine zL zgM ?_
 refine Qz (cap:=[]) (vs:=[_,_,_,_]) rfl rfl zjm .nil (zpJ hX1 hVn hn2 hX2 hm2 hm1 hDb no) rfl rfl ?_
 rintro vv1 I1 L1 hI1 hMQ
 have hX3:=hX3.mono hI1;have hIc:=hIc.trans hI1
 obtain ⟨rfl,no2,cl2,es2,rd2,a1,q1,c1,a2,q2,c9,a3,q3,c3,rfl,hM1,hM2,hM3,hMy,hMn⟩:=hMQ.opn
 refine zM ?_
 refine zE ?_
 refine zE ?_
 refine Qs zmc rfl rfl (fun b_5=>?_)
 refine zh KW ?_
 refine zA (zN (Ql (zR ?_)))
 refine zM ?_
 refine zC (zN ?_)
 refine zI ?_ ?_<;>intro hc18
 ·
  have hE0:UT rows no xs es≠0:=by have h:=hc18;simpa using h
  refine zR (zM ?_)
  refine zA (zN (Qt (Qc ?_)))
  first
  | exact zp hIc rfl rfl (by rw [ztW hE0]<;>rfl)
 have hE0:UT rows no xs es=0:=by have h:=hc18;simpa using h
 obtain ⟨-, -, -,rfl⟩:=hMy hE0
 refine Qn (Qa (Ql (zR ?_)))
 refine zF Ji ?_
 refine zL QJ ?_
 refine zF Ji ?_
 refine zL QJ ?_
 refine qc (vs:=[_,_]) rfl zn6 (zhM hX3 hM3 hm3) ?_
 refine zO (zN ?_)
 refine zI ?_ ?_<;>intro hc25
 ·
  have hrd:rd≠Vg rows xs es:=fun e=>by have h:=hc25;rw [decide_eq_true e] at h;cases h
  refine zR (zA (zN (Qt (Qc ?_))))
  first
  | exact zp hIc rfl rfl (by rw [zyh hE0 hrd]<;>rfl)
 have hrd:rd=Vg rows xs es:=Decidable.byContradiction fun e=>by have h:=hc25;rw [decide_eq_false e] at h;cases h
 refine Qn (Qa (zR (zA (zN (Qt ?_)))))
 first
 | exact zp hIc rfl rfl (by rw [zqE hE0 hrd]<;>rfl)
end
section
open Go Go.Kn Go.Proofs
theorem zfh {ws:List Wr}:(Uv ws).length≤ws.length∧∀ x∈Uv ws,x.length≤256:=by
 unfold Uv
 split
 ·
  exact ⟨Nat.zero_le _,fun x hx=>by cases hx⟩
 ·
  rename_i h
  refine ⟨by simp,fun x hx=>?_⟩
  obtain ⟨i,_,rfl⟩:=List.mem_map.1 hx
  unfold zcN
  rw [Yb]
  exact Nat.le_of_not_gt fun h2=>h (.inr h2)
theorem zgz {ws:List Wr}{rows:List (List Int)}(h:Uv ws=rows)(h0:0<rows.length):rows.length=ws.length:=by
 subst h
 unfold Uv at h0 ⊢
 split
 ·
  rename_i h;rw [if_pos h] at h0;simp at h0
 ·
  simp
theorem zzl {row:List Int}{k:Nat}:nzF row k≤k:=by
 unfold nzF
 have h1:=List.length_filter_le (fun c:Int=>c != 0) (row.take k)
 have h2:=List.length_take_le k row
 omega
theorem znb (xs:List Sg):Yz (xs.flatMap YU)=true:=Yl (fun _=>rfl) xs
/-! ### What has been passed -/
def atN (rows:List (List Int))(k i:Nat):Nat→Nat:=fun j=>if j<i then nzF (rows.getD j []) (k+1) else nzF (rows.getD j []) k
theorem zf9 {rows:List (List Int)}{k i:Nat}:YI (atN rows k i) i=((nzF (rows.getD i []) k:Nat):Int):=by unfold YI atN;rw [if_neg (by omega)]
theorem znF {rows:List (List Int)}:(fun _=>0)=atN rows 0 0:=by funext j;unfold atN;rw [if_neg (by omega)];rfl
theorem zp2 {rows:List (List Int)}{k i:Nat}{v:Nat}(h:nzF (rows.getD i []) (k+1)=v):KZ (atN rows k i) i v=atN rows k (i+1):=by
 funext j
 by_cases e:j=i
 ·
  subst e;rw [V0];unfold atN;rw [if_pos (by omega),h]
 ·
  rw [JM e];unfold atN
  by_cases h2:j<i
  ·
   rw [if_pos h2,if_pos (by omega)]
  ·
   rw [if_neg h2,if_neg (by omega)]
theorem zvq {rows:List (List Int)}{k i:Nat}(h:nzF (rows.getD i []) (k+1)=nzF (rows.getD i []) k):atN rows k i=atN rows k (i+1):=by
 funext j
 unfold atN
 by_cases e:j=i
 ·
  subst e;rw [if_neg (by omega),if_pos (by omega),h]
 ·
  by_cases h2:j<i
  ·
   rw [if_pos h2,if_pos (by omega)]
  ·
   rw [if_neg h2,if_neg (by omega)]
theorem znO {rows:List (List Int)}{k n:Nat}:Vd n (YI (atN rows k n))=Vd n (YI (atN rows (k+1) 0)):=by
 unfold Vd
 refine List.map_congr_left fun j hj=>?_
 unfold YI atN
 rw [if_pos (List.mem_range.1 hj),if_neg (by omega)]
/-! ### The steps -/
theorem zrT {ws:List Wr}{rows:List (List Int)}{k i:Nat}{code:Int}(h:((rows.getD i []).getD k 0==0)=true):sgK ws rows k code i=sgK ws rows k code (i+1):=by
 show _=zd8 code (sgK ws rows k code i) ((rows.getD i []).getD k 0) (ydF ws rows i k)
 unfold zd8;rw [if_pos h]
theorem zts {ws:List Wr}{rows:List (List Int)}{k i:Nat}{code:Int}{s:SgS}(hs:s=sgK ws rows k code i)(h:((rows.getD i []).getD k 0==0)=false)(hl:(ydF ws rows i k).lost=true):{s with lost:=true}=sgK ws rows k code (i+1):=by
 show _=zd8 code (sgK ws rows k code i) ((rows.getD i []).getD k 0) (ydF ws rows i k)
 unfold zd8;rw [if_neg (by rw [h];decide),if_pos hl,hs]
theorem zxn {ws:List Wr}{rows:List (List Int)}{k i:Nat}{code:Int}{s:SgS}{y:Rd}(hs:s=sgK ws rows k code i)(h:((rows.getD i []).getD k 0==0)=false)(hy:ydF ws rows i k=y)(hl:y.lost=false)(he:(s.ex.isNone&&(rows.getD i []).getD k 0==code)=true):
  (⟨some y.sg,orS s.so y.sg,s.many+1,s.lost⟩:SgS)=sgK ws rows k code (i+1):=by
 show _=zd8 code (sgK ws rows k code i) ((rows.getD i []).getD k 0) (ydF ws rows i k)
 unfold zd8;rw [if_neg (by rw [h];decide),hy,if_neg (by rw [hl];decide),←hs,if_pos he]
theorem zzd {ws:List Wr}{rows:List (List Int)}{k i:Nat}{code:Int}{s:SgS}{y:Rd}(hs:s=sgK ws rows k code i)(h:((rows.getD i []).getD k 0==0)=false)(hy:ydF ws rows i k=y)(hl:y.lost=false)(he:(s.ex.isNone&&(rows.getD i []).getD k 0==code)=false):
  (⟨s.ex,orS s.so y.sg,s.many+1,s.lost⟩:SgS)=sgK ws rows k code (i+1):=by
 show _=zd8 code (sgK ws rows k code i) ((rows.getD i []).getD k 0) (ydF ws rows i k)
 unfold zd8;rw [if_neg (by rw [h];decide),hy,if_neg (by rw [hl];decide),←hs,if_neg (by rw [he];decide)]
theorem zk7 {ws:List Wr}{rows:List (List Int)}{k:Nat}{code:Int}:∀ i,(sgK ws rows k code i).many≤i
 | 0=>Nat.le_refl _
 | i+1=>by
  have ih:=zk7 (ws:=ws) (rows:=rows) (k:=k) (code:=code) i
  show (zd8 code (sgK ws rows k code i) ((rows.getD i []).getD k 0) (ydF ws rows i k)).many≤i+1
  unfold zd8
  split
  ·
   omega
  ·
   split
   ·
    show (sgK ws rows k code i).many≤i+1;omega
   ·
    show (sgK ws rows k code i).many+1≤i+1;omega
theorem zmk {ws:List Wr}{rows:List (List Int)}{k:Nat}{code:Int}(h:(code==0)=true):zaU ws rows k code= .skip:=by unfold zaU;rw [if_pos h]
theorem zna {ws:List Wr}{rows:List (List Int)}{k:Nat}{code:Int}{s:SgS}(h:(code==0)=false)(hs:s=sgK ws rows k code rows.length)(hn:s.ex.or s.so=none):zaU ws rows k code= .err:=by
 subst hs;unfold zaU;rw [if_neg (by rw [h];decide),hn]
theorem zrH {ws:List Wr}{rows:List (List Int)}{k:Nat}{code:Int}{s:SgS}{y:Sg}(h:(code==0)=false)(hs:s=sgK ws rows k code rows.length)(hn:s.ex.or s.so=some y)(he:(Vl code != 0)=true):zaU ws rows k code= .err:=by
 subst hs;unfold zaU;rw [if_neg (by rw [h];decide),hn];simp only;rw [if_pos he]
theorem zwi {ws:List Wr}{rows:List (List Int)}{k:Nat}{code:Int}{s:SgS}{y:Sg}(h:(code==0)=false)(hs:s=sgK ws rows k code rows.length)(hn:s.ex.or s.so=some y)(he:(Vl code != 0)=false):
  zaU ws rows k code= .sg (Uw k code y ((decide ((ws.length:Int)>1)&&(s.many:Int)==1)&& !s.lost)):=by
 subst hs;unfold zaU;rw [if_neg (by rw [h];decide),hn];simp only;rw [if_neg (by rw [he];decide)]
theorem zvj {ws:List Wr}{rows:List (List Int)}{i k:Nat}{x:Wr}{y:Rd}(hx:ws[i]? =some x)(hy:x.rs[nzF (rows.getD i []) k]? =some y):ydF ws rows i k=y:=by
 unfold ydF;rw [hx];exact QU hy
theorem Cells.two {I:Qu}{b t off:Nat}{vs:List Value}{u u':Value}{fz:Nat×Nat}{l:Go.Kn.Loc}(h:I b=some (.cells vs.toArray t fz))(h0:vs[off]? =some u)(h1:vs[off+1]? =some u'):Cells I l b off [u,u']:=fun j v hj=>by
 rcases j with _ | _ | j
 ·
  cases hj;exact .imm h (by rw [Vq];simpa using h0)
 ·
  cases hj;exact .imm h (by rw [Vq];simpa using h1)
 ·
  simp at hj
def Vi (t:Nat)(I:Qu)(p:Option Addr)(s:Option Sg):Prop:=match s with
 | none=>p=none
 | some x=>∃ b l,p=some ⟨b,1,none⟩∧I b=some (.cells (JJ ⟨l,x⟩).toArray t (0,0))
theorem Vi.mono {t:Nat}{I I':Qu}{p:Option Addr}{s:Option Sg}(h:Vi t I p s)(hI:HLe I I'):Vi t I' p s:=by
 cases s with
 | none=>exact h
 | some x=>obtain ⟨b,l,h1,h2⟩:=h;exact ⟨b,l,h1,hI _ _ h2⟩
theorem Vi.isNone {t:Nat}{I:Qu}{p:Option Addr}{s:Option Sg}(h:Vi t I p s):p.isNone=s.isNone:=by
 cases s with
 | none=>have h:p=none:=h;subst h;rfl
 | some x=>obtain ⟨b,l,rfl,h2⟩:=h;rfl
theorem Vi.new {t:Nat}{I:Qu}{b:Nat}{y:Rd}(h:I b=some (.cells (JJ y).toArray t (0,0))):Vi t I (some ⟨b,0+1,none⟩) (some y.sg):=⟨b,y.lost,rfl,h⟩
theorem Vi.orN {t:Nat}{I:Qu}{p q:Option Addr}{s:Option Sg}{y:Sg}(h:Vi t I p s)(hp:p.isNone=true)(hq:Vi t I q (some y)):Vi t I q (orS s y):=by
 have:=h.isNone
 rw [hp] at this
 cases s with
 | none=>exact hq
 | some x=>cases this
theorem Vi.orS {t:Nat}{I:Qu}{p:Option Addr}{s:Option Sg}{y:Sg}(h:Vi t I p s)(hp:p.isNone=false):Vi t I p (orS s y):=by
 have:=h.isNone
 rw [hp] at this
 cases s with
 | none=>cases this
 | some x=>exact h
theorem Vi.orY {t:Nat}{I:Qu}{p q:Option Addr}{s u:Option Sg}(h:Vi t I p s)(hp:p.isNone=true)(hq:Vi t I q u):Vi t I q (s.or u):=by
 have:=h.isNone
 rw [hp] at this
 cases s with
 | none=>exact hq
 | some x=>cases this
theorem Vi.orX {t:Nat}{I:Qu}{p:Option Addr}{s u:Option Sg}(h:Vi t I p s)(hp:p.isNone=false):Vi t I p (s.or u):=by
 have:=h.isNone
 rw [hp] at this
 cases s with
 | none=>cases this
 | some x=>exact h
theorem Vi.at {t:Nat}{I:Qu}{p:Option Addr}{s:Option Sg}(h:Vi t I p s)(hp:p.isNone=false):∃ x b l,s=some x∧p=some ⟨b,1,none⟩∧I b=some (.cells (JJ ⟨l,x⟩).toArray t (0,0)):=by
 have:=h.isNone
 rw [hp] at this
 cases s with
 | none=>cases this
 | some x=>obtain ⟨b,l,h1,h2⟩:=h;exact ⟨x,b,l,rfl,h1,h2⟩
theorem Vi.none {t:Nat}{I:Qu}{p:Option Addr}{s:Option Sg}(h:Vi t I p s)(hp:p.isNone=true):s=Option.none:=by
 have:=h.isNone
 rw [hp] at this
 cases s with
 | none=>rfl
 | some x=>cases this
end
end Go.Proofs.YtodakphagkommaaGreatDoor
