/- apparatusTouched_holds, part D of the proof: what its theorems say holds without further conditions. -/
import Derived.Test.YtodakphagkommaaGreatDoorATC
namespace Go.Proofs.YtodakphagkommaaGreatDoor
section
open Go Go.Kn Go.Proofs
theorem JE:ElT Tryz.prog 41 79 2 16:=.of (by kernel_rfl)
theorem zjX:Fun Tryz.prog 23:=.of Tryz.func23 (by kernel_rfl) (by kernel_rfl)
theorem zpk:SzT Tryz.prog 177 1:=.of (by kernel_rfl)
theorem zqh:SzT Tryz.prog 182 1:=.of (by kernel_rfl)
theorem zuk:Yp Tryz.prog 177 .nilFunc:=.of (by kernel_rfl)
theorem zuP:Yp Tryz.prog 182 (.map none):=.of (by kernel_rfl)
theorem zsf {I:Qu}{ba bb bk bs r:Nat}{av bv:Option Addr}{n c n2 c2:Nat}{xs ys:List Int}(hE:(LsE I 103 ba bb bk bs r av bv n c n2 c2 xs ys))(hn:n≤100000)(hn2:n2≤100000)(i k:Nat)(m1:List ((Int×Int)×Int))(h:i<xs.length∧k<ys.length)(hm:MOK xs ys m1):Yg Tryz.prog 103 ([.int .i64 ((i:Int)+1),.int .i64 ((k:Int)+1)]++[Zb ba,Zb bb,Zb bk,Zb bs]) I [(r,ZR Ya zb0 m1)] (fun v I' L'=>∃ A,U2 xs ys (i+1) (k+1) A∧v= .int .i64 A∧I'=I∧∃ m',MOK xs ys m'∧L'=[(r,ZR Ya zb0 m')]):=zdV hE hn hn2 (xs.length+ys.length) (i+1) (k+1) m1 (by omega) (by omega) (by omega) hm
theorem znx {I:Qu}{ba bb bk bs r:Nat}{av bv:Option Addr}{n c n2 c2:Nat}{xs ys:List Int}(hE:(LsE I 103 ba bb bk bs r av bv n c n2 c2 xs ys))(hn:n≤100000)(hn2:n2≤100000)(i k:Nat)(m1:List ((Int×Int)×Int))(h:i<xs.length∧k≤ys.length)(hm:MOK xs ys m1):Yg Tryz.prog 103 ([.int .i64 ((i:Int)+1),.int .i64 ((k:Int))]++[Zb ba,Zb bb,Zb bk,Zb bs]) I [(r,ZR Ya zb0 m1)] (fun v I' L'=>∃ A,U2 xs ys (i+1) (k) A∧v= .int .i64 A∧I'=I∧∃ m',MOK xs ys m'∧L'=[(r,ZR Ya zb0 m')]):=zdV hE hn hn2 (xs.length+ys.length) (i+1) (k) m1 (by omega) (by omega) (by omega) hm
theorem zt6 {I:Qu}{ba bb bk bs r:Nat}{av bv:Option Addr}{n c n2 c2:Nat}{xs ys:List Int}(hE:(LsE I 103 ba bb bk bs r av bv n c n2 c2 xs ys))(hn:n≤100000)(hn2:n2≤100000)(_i _k:Nat)(m1:List ((Int×Int)×Int))(_h:True)(hm:MOK xs ys m1):Yg Tryz.prog 103 ([.int .i64 (0),.int .i64 (0)]++[Zb ba,Zb bb,Zb bk,Zb bs]) I [(r,ZR Ya zb0 m1)] (fun v I' L'=>∃ A,U2 xs ys (0) (0) A∧v= .int .i64 A∧I'=I∧∃ m',MOK xs ys m'∧L'=[(r,ZR Ya zb0 m')]):=zdV hE hn hn2 (xs.length+ys.length) (0) (0) m1 (by omega) (by omega) (by omega) hm
set_option maxHeartbeats 1600000 in
theorem zsi {I:Qu} {av:Option Addr} {n c:Nat} {xs:List Int} (hA:Sl I 1 QR av n c xs) {bv:Option Addr} {n2 c2:Nat} {ys:List Int} (hB:Sl I 1 QR bv n2 c2 ys) (hnn:n≤1000000) (hnn2:n2≤1000000):Yg Tryz.prog 60 [.slice av n c,.slice bv n2 c2] I [] (zwH xs ys):=by
 intro g H w hw
 refine qe Tryz.func60 Tryz.ntmps60 hw ?_
 have hIc:=zye I
 have hlA:=hA.len
 subst hlA
 have hlB:=hB.len
 subst hlB
 refine zR ?_
 refine Q5 rfl rfl rfl (fun b_2=>?_)
 refine Q5 rfl rfl rfl (fun b_3=>?_)
 refine zA ?_
 refine zA ?_
 refine zA (zN (Ql (Ql ?_)))
 refine Vo (fun I1 hI1 hall=>?_)
 have hA:=hA.mono hI1;have hB:=hB.mono hI1;have hIc:=hIc.trans hI1
 have hB2:QU I1 [] b_2 0 (.slice av xs.length c):=.imm (hall _ _ (by repeat (first | exact List.mem_cons_self .. | apply List.mem_cons_of_mem))) rfl
 have hB3:QU I1 [] b_3 0 (.slice bv ys.length c2):=.imm (hall _ _ (by repeat (first | exact List.mem_cons_self .. | apply List.mem_cons_of_mem))) rfl
 refine Qg ?_
 refine zV (Qd rfl QK (fun hg=>by exact hB2.any)) ?_
 refine zQ Qy ?_
 refine zC ?_
 refine zM ?_
 refine QX 3 rfl rfl rfl ?_
 refine zJ (Qd rfl QK (fun hg=>by exact hB3.any)) ?_
 refine zJ (ZH rfl Qy) ?_
 refine zJ (QH rfl rfl rfl) ?_
 refine ZA rfl rfl rfl rfl rfl ?_
 refine zN ?_
 refine zI ?_ ?_<;>intro hc25
 ·
  have hlong:xs.length>64∨ys.length>64:=by have h:=hc25;simp at h;omega
  refine zR (zA ?_)
  refine zA ?_
  refine zA (zN (Qt (Qc ?_)))
  first
  | exact Kz rfl rfl rfl rfl (fun w hw=>⟨_,_,[],rfl,hIc,hw.drop,rfl,_,none,0,by rw [zdF hlong,UN (by rw [zdF hlong];decide)];rfl,by rw [UN (by rw [zdF hlong];decide)];exact .nil⟩)
 have hlong:¬(xs.length>64∨ys.length>64):=by have h:=hc25;simp at h;omega
 refine Qo (Qa (Ql (zR ?_)))
 refine zV (Qd rfl QK (fun hg=>by exact hB2.any)) ?_
 refine zV (Qd rfl QK (fun hg=>by exact hB3.any)) ?_
 refine Qq (ps:=[(0,_),(1,_)]) (m:=[W2 ⟨av,xs.length,c⟩,W2 ⟨bv,ys.length,c2⟩]) zat rfl (.cons rfl (.cons rfl (.nil))) rfl (by simp [Za]) (by decide) (by decide) rfl rfl (fun b_28=>?_)
 refine zQ Zo ?_
 refine zM (Qb ?_)
 refine Vo (fun I2 hI2 hall=>?_)
 have hA:=hA.mono hI2;have hB:=hB.mono hI2;have hB2:=hB2.mono hI2;have hB3:=hB3.mono hI2;have hIc:=hIc.trans hI2
 have hAB:Sl I2 1 W2 (some ⟨b_28,0,none⟩) 2 2 ([⟨av,xs.length,c⟩,⟨bv,ys.length,c2⟩]:List Hd):=Sl.lit _ rfl Za (show _=some (Obj.cells (([⟨av,xs.length,c⟩,⟨bv,ys.length,c2⟩]:List Hd).flatMap W2).toArray 23 (0,0)) from (hall _ _ (by repeat (first | exact List.mem_cons_self .. | apply List.mem_cons_of_mem))))
 refine Qa (Qm ?_)
 refine zU [(2,_),(3,_),(28,_),(29,_)] (fun T L0 mz E I' loc'=>∃ (z:Nat),mz=2-z∧E=(5,.slice none 0 0)::(30,.int .i64 z)::T∧I2=I'∧[]=loc'∧z≤2∧([xs,ys].take z).any (fun l=>l.any zd7)=false) ?_ (h:=⟨0,rfl,rfl,rfl,rfl,Nat.zero_le _,rfl⟩)
 rintro mz E I' loc' ⟨z,rfl,rfl,rfl,rfl,hz,hno⟩
 refine zR (zC (zN (Ql ?_)))
 refine zI ?_ ?_<;>intro hc31
 ·
  have hlt_z:z<2:=by have h:=hc31;simp at h;omega
  obtain ⟨hd,zs,hhd,hzs,hZ,hz2⟩:=zgG hA hB hlt_z
  refine Qo (Qa (Ql (Qm (zR ?_))))
  refine zV (zX Zo hAB) ?_
  refine zV (Qd rfl QK (fun hg=>by exact zx7 hAB hhd rfl)) ?_
  refine zA ?_
  refine zN (zR ?_)
  refine zM ?_
  refine zQ Qy ?_
  refine zM (zN (Qm ?_))
  refine zU [(2,_),(3,_),(28,_),(29,_),(30,_),(34,_),(35,_)] (fun T L0 mz E I' loc'=>∃ (j:Nat),mz=hd.n-j∧E=(5,.slice none 0 0)::(36,.int .i64 j)::T∧I2=I'∧[]=loc'∧j≤hd.n∧(zs.take j).any zd7=false) ?_ (h:=⟨0,rfl,rfl,rfl,rfl,Nat.zero_le _,rfl⟩)
  rintro mz E I' loc' ⟨j,rfl,rfl,rfl,rfl,hj,hzb⟩
  refine zR (zC (zN (Ql ?_)))
  refine zI ?_ ?_<;>intro hc37
  ·
   have hlt_j:j<hd.n:=by have h:=hc37;simp at h;omega
   obtain ⟨cc,hz⟩:=hZ.at hlt_j
   refine Qo (Qa (Ql (Qm (zR ?_))))
   refine zV (zX Qy hZ) ?_
   refine zV (Qd rfl Qs (fun hg=>by exact zx7 hZ hz rfl)) ?_
   refine zA ?_
   refine zN (zR ?_)
   refine zM ?_
   refine qc (vs:=[_]) rfl zjX (zgN _ _) ?_
   refine zM ?_
   refine zE ?_
   refine zE ?_
   refine Qr WX rfl rfl (fun b_11=>?_)
   refine zh Vx ?_
   refine zA ?_
   refine zN (zR ?_)
   refine zM ?_
   refine zC ?_
   refine zM ?_
   refine QE 2 rfl rfl rfl ?_
   refine zK (Qi rfl) ?_
   refine zK (QH rfl rfl rfl) ?_
   refine QP rfl rfl rfl rfl rfl ?_
   refine zN ?_
   refine zI ?_ ?_<;>intro hc50
   ·
    have hbc:zd7 cc=true:=hc50
    have hyes:(xs.any zd7||ys.any zd7)=true:=by have h:=JY (p:=fun l:List Int=>l.any zd7) hzs (JY hz hbc);simpa using h
    refine zR (zA ?_)
    refine zA ?_
    refine zA (zN (Qt (Qn (Qc (Qc (Qn (Qn ?_)))))))
    refine Qc (Qc (Qn (Qc ?_)))
    first
    | exact Kz rfl rfl rfl rfl (fun w hw=>⟨_,_,[],rfl,hIc,hw.drop,rfl,_,none,0,by rw [zef hlong hyes,UN (by rw [zef hlong hyes];decide)];rfl,by rw [UN (by rw [zef hlong hyes];decide)];exact .nil⟩)
   have hbc:zd7 cc=false:=hc50
   refine Qo (Qh (Qa (Qg (zB ?_))))
   refine zM (Qb ?_)
   exact zm (h:=⟨hd.n-(j+1),by omega,j+1,rfl,rfl,rfl,rfl,by omega,YX hz hzb hbc⟩)
  have hge_j:hd.n≤j:=by have h:=hc37;simp at h;omega
  rw [ZF hZ.len hge_j] at hzb
  refine QI (Qf (Qf (Qk (Qh (Qa (Qg (zB ?_)))))))
  refine zM (Qb ?_)
  exact zm (h:=⟨2-(z+1),by omega,z+1,rfl,rfl,rfl,rfl,by omega,YX hzs hno hzb⟩)
 have hge_z:2≤z:=by have h:=hc31;simp at h;omega
 rw [List.take_of_length_le (by simpa using hge_z)] at hno
 have hno2:(xs.any zd7||ys.any zd7)=false:=by simpa using hno
 refine QI (Qf (Qf (Qk (Qa (zR ?_)))))
 refine ZD rfl rfl (fun r_53=>?_)
 refine Qr zuP rfl rfl (fun b_13=>?_)
 refine zS zqh ?_
 refine zN (zR ?_)
 refine Qr zuk rfl rfl (fun b_14=>?_)
 refine zN (zR ?_)
 refine zV (Zc (us:=[]) (vs:=[_,_,_,_]) rfl rfl) ?_
 refine zS zpk ?_
 refine zN (Ql (Ql ?_))
 refine Zf (b:=b_14) (by repeat (first | exact Q7.here | apply Q7.there)) (fun I5 hI5 hb5=>?_)
 have hA:=hA.mono hI5;have hB:=hB.mono hI5;have hB2:=hB2.mono hI5;have hB3:=hB3.mono hI5;have hIc:=hIc.trans hI5
 have hC14:QU I5 [] b_14 0 (.func (.func 103) #[] #[Zb b_2,Zb b_3,Zb b_13,Zb b_14]):=.imm hb5 rfl
 refine Zf (b:=b_13) (by repeat (first | exact Q7.here | apply Q7.there)) (fun I6 hI6 hb6=>?_)
 have hA:=hA.mono hI6;have hB:=hB.mono hI6;have hB2:=hB2.mono hI6;have hB3:=hB3.mono hI6;have hC14:=hC14.mono hI6;have hIc:=hIc.trans hI6
 have hC13:QU I6 [] b_13 0 (.map (some r_53)):=.imm hb6 rfl
 have hLE:LsE I6 103 b_2 b_3 b_13 b_14 r_53 av bv xs.length c ys.length c2 xs ys:=⟨hB2,hB3,hC13,hC14,hA,hB⟩
 refine Qg (zA ?_)
 refine zA (zN (Qm ?_))
 refine zU [(2,_),(3,_),(14,_)] (fun T L0 mz E I' loc'=>∃ (i k:Nat) (m:List ((Int×Int)×Int)) (pre:List (Int×Int)) (v5:Value) (q:Nat) (L:Go.Kn.Loc),mz=xs.length-i+(ys.length-k)∧E=(5,v5)::(15,.int .i64 i)::(16,.int .i64 k)::T∧HLe I6 I'∧L++[(r_53,ZR Ya zb0 m)]=loc'∧i≤xs.length∧k≤ys.length∧MOK xs ys m∧PaQ xs ys pre i k∧OwnS 79 2 v5 q (pre.flatMap VO) L∧q≤i+k) ?_ (h:=⟨0,0,[],[],_,0,[],rfl,rfl,zye _,rfl,Nat.zero_le _,Nat.zero_le _,.nil,.start,OwnS.nil,Nat.le_refl _⟩)
 rintro mz E J7 loc' ⟨i,k,m,pre,v5,q,L,rfl,rfl,hJ,rfl,hi,hk,hm,hpq,hO,hq⟩
 have hB2:=hB2.mono hJ;have hB3:=hB3.mono hJ;have hLE:=hLE.mono hJ;have hIc:=hIc.trans hJ
 have hB4:=hJ
 refine Ql (zR (zM ?_))
 refine zV (Qd rfl QK (fun hg=>by exact hB2.any)) ?_
 refine zQ Qy ?_
 refine zC ?_
 refine zM ?_
 refine QX 4 rfl rfl rfl ?_
 refine zJ (Qi rfl) ?_
 refine zJ (Qd rfl QK (fun hg=>by exact hB3.any)) ?_
 refine zJ (ZH rfl Qy) ?_
 refine zJ (QH rfl rfl rfl) ?_
 refine ZA rfl rfl rfl rfl rfl ?_
 refine zN ?_
 refine zI ?_ ?_<;>intro hc64
 ·
  have hor:i<xs.length∨k<ys.length:=by have h:=hc64;simp at h;omega
  refine Qo (Qa (Qm (zR ?_)))
  refine zV (Qd rfl KI (fun hg=>by exact hLE.se.any)) ?_
  refine zM ?_
  refine zM ?_
  refine Qz (cap:=[Zb b_2,Zb b_3,Zb b_13,Zb b_14]) (vs:=[_,_]) rfl rfl Kr (by repeat (first | exact .cons .here .nil | exact QD | exact Qw | apply QC | apply QB)) (zdV hLE (by omega) (by omega) (xs.length+ys.length) i k m (by omega) hi hk hm) rfl rfl ?_
  rintro vv8 I8 L8 hI8 ⟨VV,hLV,rfl,rfl,m1,hm1,rfl⟩
  have hB2:=hB2.mono hI8;have hB3:=hB3.mono hI8;have hLE:=hLE.mono hI8;have hLE:=hLE.mono hI8;have hB4:=hB4.trans hI8
  have hbV:=hLV.inn
  refine zA (zN (Qm (Ql ?_)))
  obtain ⟨hd1,hd2,h5,h6⟩ | ⟨hd1,hd2,h5,h6⟩ | ⟨hd1,hd2,h5,h6⟩:=zl2 hor
  ·
   obtain ⟨x,hx⟩:=hLE.hA.at h5
   obtain ⟨y,hy⟩:=hLE.hB.at h6
   have hbn:=zdD x y
   have hD:=zye I8
   refine Jo ?_
   refine Z7 I8 [] mixed ?_
   refine zT 0 rfl (Qi rfl) hD ?_
   refine zT 1 rfl (Qd rfl QK (fun hg=>by exact hB2.any)) hD ?_
   refine zT 2 rfl (ZH rfl Qy) hD ?_
   refine zT 3 rfl (QH rfl rfl rfl) hD ?_
   rw [hd1]
   refine zT 4 rfl (Qi rfl) hD ?_
   refine zw 5 81 rfl (Qi rfl) hD ?_
   refine zw 6 81 rfl (Qd rfl QK (fun hg=>by exact hB3.any)) hD ?_
   refine zw 7 81 rfl (ZH rfl Qy) hD ?_
   refine zw 8 81 rfl (QH rfl rfl rfl) hD ?_
   rw [hd2]
   refine zT 9 rfl (ZM rfl rfl rfl) hD ?_
   refine zT 10 rfl (Qi rfl) hD ?_
   refine zw 11 87 rfl (Qi rfl) hD ?_
   refine zw 12 87 rfl (Qd rfl QK (fun hg=>by exact hB2.any)) hD ?_
   refine zw 13 87 rfl (Qi rfl) hD ?_
   refine zw 14 87 rfl (QF rfl rfl Qy hLE.hA (fun hg=>by omega)) hD ?_
   refine zw 15 87 rfl (Qd rfl Qs (fun hg=>by exact zx7 hLE.hA hx rfl)) hD ?_
   refine zw 16 87 rfl (Qd rfl QK (fun hg=>by exact hB3.any)) hD ?_
   refine zw 17 87 rfl (Qi rfl) hD ?_
   refine zw 18 87 rfl (QF rfl rfl Qy hLE.hB (fun hg=>by omega)) hD ?_
   refine zw 19 87 rfl (Qd rfl Qs (fun hg=>by exact zx7 hLE.hB hy rfl)) hD ?_
   refine zw 21 87 rfl (Qd rfl KI (fun hg=>by exact hLE.se.any)) hD ?_
   refine zw 22 87 rfl (Qi rfl) hD ?_
   refine zw 23 87 rfl (ZO rfl rfl rfl (fun hg=>by omega)) hD ?_
   refine zw 24 87 rfl (Qi rfl) hD ?_
   refine zw 25 87 rfl (ZO rfl rfl rfl (fun hg=>by omega)) hD ?_
   refine qd 20 rfl ?_
   refine QO (dj:=87) rfl rfl rfl ?_
   refine qc (vs:=[_,_]) rfl zgJ (zft _ _ _) ?_
   refine Qb ?_
   refine zD hD ?_
   refine qd 26 rfl ?_
   refine QO (dj:=87) rfl rfl rfl ?_
   refine Qz (cap:=[Zb b_2,Zb b_3,Zb b_13,Zb b_14]) (vs:=[_,_]) rfl rfl Kr (by repeat (first | exact .cons .here .nil | exact QD | exact Qw | apply QC | apply QB)) (zsf hLE (by omega) (by omega) i k m1 (by omega) hm1) rfl rfl ?_
   rintro vv9 I9 L9 hI9 ⟨VA,hLA,rfl,rfl,m2,hm2,rfl⟩
   have hB2:=hB2.mono hI9;have hLE:=hLE.mono hI9;have hLE:=hLE.mono hI9;have hB4:=hB4.trans hI9;have hD:=hD.trans hI9
   have hbA:=hLA.inn
   refine Qb ?_
   refine zD hD ?_
   refine zw 27 87 rfl (ZO rfl rfl rfl (fun hg=>by omega)) hD ?_
   refine zw 28 87 rfl (QH rfl rfl rfl) hD ?_
   refine zT 29 rfl (ZM rfl rfl rfl) hD ?_
   refine zT 30 rfl (ZP rfl) hD ?_
   refine QG (by kernel_rfl) ?_
   refine QQ ?_
   refine Qa ?_
   refine zI ?_ ?_<;>intro hc76
   ·
    have hbo:=zfu (t:=true) hx hy hLV hLA (by simpa using hc76)
    refine zR (zM ?_)
    refine zB ?_
    refine zM ?_
    refine zB ?_
    refine zA ?_
    refine zA (zN (Qg ?_))
    refine zM ?_
    refine zM ?_
    refine zM ?_
    refine zV (Zp (ps:=[(0,_),(1,_)]) [_,_] Yc JJ rfl rfl) ?_
    refine Qq (ps:=[(0,_)]) (m:=[VO ((i:Int)+1,(k:Int)+1)]) JE rfl (.cons rfl (.nil)) rfl (by simp [Ka]) (by decide) (by decide) rfl rfl (fun b_115=>?_)
    refine QY (v:=_) (ys:=[((i:Int)+1,(k:Int)+1)].flatMap VO) (L:=L) rfl rfl JE hO (by repeat (first | exact .cons .here .nil | exact QD | exact Qw | apply QC | apply QB)) ⟨rfl,fun _=>rfl,by repeat (first | exact zyc | apply zyb | apply zyd)⟩ (zf9 [((i:Int)+1,(k:Int)+1)]) (by omega) rfl rfl ?_
    intro v9 L9 hO9 _;rw [←List.flatMap_append] at hO9
    refine zA (Qb (Qh (Qh ?_)))
    exact zm (h:=⟨xs.length-(i+1)+(ys.length-(k+1)),by omega,i+1,k+1,_,_,_,_,_,rfl,rfl,hB4,rfl,by omega,by omega,hm2,hpq.both hbo,hO9,by omega⟩)
   have hbo:=zfu (t:=false) hx hy hLV hLA (by simpa using hc76)
   refine zR (zM ?_)
   refine zV (Qd rfl QK (fun hg=>by exact hB2.any)) ?_
   refine zQ Qy ?_
   refine zC ?_
   rw [hd1]
   refine zM ?_
   refine QO (dj:=122) rfl rfl rfl ?_
   refine zM ?_
   refine QO (dj:=122) rfl rfl rfl ?_
   refine zV (Qd rfl KI (fun hg=>by exact hLE.se.any)) ?_
   refine QO (dj:=122) rfl rfl rfl ?_
   refine zM ?_
   refine QO (dj:=122) rfl rfl rfl ?_
   refine zB ?_
   refine QO (dj:=122) rfl rfl rfl ?_
   refine zM ?_
   refine QO (dj:=122) rfl rfl rfl ?_
   refine Qz (cap:=[Zb b_2,Zb b_3,Zb b_13,Zb b_14]) (vs:=[_,_]) rfl rfl Kr (by repeat (first | exact .cons .here .nil | exact QD | exact Qw | apply QC | apply QB)) (znx hLE (by omega) (by omega) i k m2 (by omega) hm2) rfl rfl ?_
   rintro vv10 I10 L10 hI10 ⟨VB,hLB,rfl,rfl,m3,hm3,rfl⟩
   have hB4:=hB4.trans hI10
   have hbB:=hLB.inn
   refine QO (dj:=122) rfl rfl rfl ?_
   refine zB ?_
   refine QO (dj:=122) rfl rfl rfl ?_
   refine zC ?_
   refine zV (ZM rfl rfl rfl) ?_
   refine zA (zN ?_)
   refine zI ?_ ?_<;>intro hc117
   ·
    have hon:=za6 (t:=true) h5 hLV hLB (by simpa using hc117)
    refine zR (zM ?_)
    refine zB ?_
    refine zA (zN (Qg ?_))
    refine zM ?_
    refine zM ?_
    refine zV (Zp (ps:=[(0,_),(1,_)]) [_,_] Yc JJ rfl rfl) ?_
    refine Qq (ps:=[(0,_)]) (m:=[VO ((i:Int)+1,(0:Int))]) JE rfl (.cons rfl (.nil)) rfl (by simp [Ka]) (by decide) (by decide) rfl rfl (fun b_137=>?_)
    refine QY (v:=_) (ys:=[((i:Int)+1,(0:Int))].flatMap VO) (L:=L) rfl rfl JE hO (by repeat (first | exact .cons .here .nil | exact QD | exact Qw | apply QC | apply QB)) ⟨rfl,fun _=>rfl,by repeat (first | exact zyc | apply zyb | apply zyd)⟩ (zf9 [((i:Int)+1,(0:Int))]) (by omega) rfl rfl ?_
    intro v9 L9 hO9 _;rw [←List.flatMap_append] at hO9
    refine zA (Qb (Qh (Qh ?_)))
    exact zm (h:=⟨xs.length-(i+1)+(ys.length-(k)),by omega,i+1,k,_,_,_,_,_,rfl,rfl,hB4,rfl,by omega,by omega,hm3,hpq.one hbo hon,hO9,by omega⟩)
   have hon:=za6 (t:=false) h5 hLV hLB (by simpa using hc117)
   refine zR (zM ?_)
   refine zB ?_
   refine zA (zN (Qg ?_))
   refine zM ?_
   refine zM ?_
   refine zV (Zp (ps:=[(0,_),(1,_)]) [_,_] Yc JJ rfl rfl) ?_
   refine Qq (ps:=[(0,_)]) (m:=[VO ((0:Int),(k:Int)+1)]) JE rfl (.cons rfl (.nil)) rfl (by simp [Ka]) (by decide) (by decide) rfl rfl (fun b_74=>?_)
   refine QY (v:=_) (ys:=[((0:Int),(k:Int)+1)].flatMap VO) (L:=L) rfl rfl JE hO (by repeat (first | exact .cons .here .nil | exact QD | exact Qw | apply QC | apply QB)) ⟨rfl,fun _=>rfl,by repeat (first | exact zyc | apply zyb | apply zyd)⟩ (zf9 [((0:Int),(k:Int)+1)]) (by omega) rfl rfl ?_
   intro v9 L9 hO9 _;rw [←List.flatMap_append] at hO9
   refine zA (Qb (Qh (Qh ?_)))
   exact zm (h:=⟨xs.length-(i)+(ys.length-(k+1)),by omega,i,k+1,_,_,_,_,_,rfl,rfl,hB4,rfl,by omega,by omega,hm3,hpq.two h6 hbo hon,hO9,by omega⟩)
  ·
   have hD:=zye I8
   refine Jo ?_
   refine Z7 I8 [] mixed ?_
   refine zT 0 rfl (Qi rfl) hD ?_
   refine zT 1 rfl (Qd rfl QK (fun hg=>by exact hB2.any)) hD ?_
   refine zT 2 rfl (ZH rfl Qy) hD ?_
   refine zT 3 rfl (QH rfl rfl rfl) hD ?_
   rw [hd1]
   refine zT 4 rfl (Qi rfl) hD ?_
   refine zw 5 81 rfl (Qi rfl) hD ?_
   refine zw 6 81 rfl (Qd rfl QK (fun hg=>by exact hB3.any)) hD ?_
   refine zw 7 81 rfl (ZH rfl Qy) hD ?_
   refine zw 8 81 rfl (QH rfl rfl rfl) hD ?_
   rw [hd2]
   refine zT 9 rfl (ZM rfl rfl rfl) hD ?_
   refine zT 10 rfl (Qi rfl) hD ?_
   refine zW 11 87 hD ?_
   refine zW 12 87 hD ?_
   refine zW 13 87 hD ?_
   refine zW 14 87 hD ?_
   refine zW 15 87 hD ?_
   refine zW 16 87 hD ?_
   refine zW 17 87 hD ?_
   refine zW 18 87 hD ?_
   refine zW 19 87 hD ?_
   refine zW 20 87 hD ?_
   refine zW 21 87 hD ?_
   refine zW 22 87 hD ?_
   refine zW 23 87 hD ?_
   refine zW 24 87 hD ?_
   refine zW 25 87 hD ?_
   refine zW 26 87 hD ?_
   refine zW 27 87 hD ?_
   refine zW 28 87 hD ?_
   refine zT 29 rfl (YR rfl rfl rfl) hD ?_
   refine zT 30 rfl (ZP rfl) hD ?_
   refine QG (by kernel_rfl) ?_
   refine QQ ?_
   refine Qa ?_
   refine zI ?_ ?_<;>intro hc76
   ·
    cases hc76
   have hbo:=zeQ (a:=xs) (b:=ys) (i:=i) (k:=k) (.inr h6)
   refine zR (zM ?_)
   refine zV (Qd rfl QK (fun hg=>by exact hB2.any)) ?_
   refine zQ Qy ?_
   refine zC ?_
   rw [hd1]
   refine zM ?_
   refine QO (dj:=122) rfl rfl rfl ?_
   refine zM ?_
   refine QO (dj:=122) rfl rfl rfl ?_
   refine zV (Qd rfl KI (fun hg=>by exact hLE.se.any)) ?_
   refine QO (dj:=122) rfl rfl rfl ?_
   refine zM ?_
   refine QO (dj:=122) rfl rfl rfl ?_
   refine zB ?_
   refine QO (dj:=122) rfl rfl rfl ?_
   refine zM ?_
   refine QO (dj:=122) rfl rfl rfl ?_
   refine Qz (cap:=[Zb b_2,Zb b_3,Zb b_13,Zb b_14]) (vs:=[_,_]) rfl rfl Kr (by repeat (first | exact .cons .here .nil | exact QD | exact Qw | apply QC | apply QB)) (znx hLE (by omega) (by omega) i k m1 (by omega) hm1) rfl rfl ?_
   rintro vv11 I11 L11 hI11 ⟨VB,hLB,rfl,rfl,m3,hm3,rfl⟩
   have hB4:=hB4.trans hI11
   have hbB:=hLB.inn
   refine QO (dj:=122) rfl rfl rfl ?_
   refine zB ?_
   refine QO (dj:=122) rfl rfl rfl ?_
   refine zC ?_
   refine zV (ZM rfl rfl rfl) ?_
   refine zA (zN ?_)
   refine zI ?_ ?_<;>intro hc117
   ·
    have hon:=za6 (t:=true) h5 hLV hLB (by simpa using hc117)
    refine zR (zM ?_)
    refine zB ?_
    refine zA (zN (Qg ?_))
    refine zM ?_
    refine zM ?_
    refine zV (Zp (ps:=[(0,_),(1,_)]) [_,_] Yc JJ rfl rfl) ?_
    refine Qq (ps:=[(0,_)]) (m:=[VO ((i:Int)+1,(0:Int))]) JE rfl (.cons rfl (.nil)) rfl (by simp [Ka]) (by decide) (by decide) rfl rfl (fun b_137=>?_)
    refine QY (v:=_) (ys:=[((i:Int)+1,(0:Int))].flatMap VO) (L:=L) rfl rfl JE hO (by repeat (first | exact .cons .here .nil | exact QD | exact Qw | apply QC | apply QB)) ⟨rfl,fun _=>rfl,by repeat (first | exact zyc | apply zyb | apply zyd)⟩ (zf9 [((i:Int)+1,(0:Int))]) (by omega) rfl rfl ?_
    intro v9 L9 hO9 _;rw [←List.flatMap_append] at hO9
    refine zA (Qb (Qh (Qh ?_)))
    exact zm (h:=⟨xs.length-(i+1)+(ys.length-(k)),by omega,i+1,k,_,_,_,_,_,rfl,rfl,hB4,rfl,by omega,by omega,hm3,hpq.one hbo hon,hO9,by omega⟩)
   have hon:=za6 (t:=false) h5 hLV hLB (by simpa using hc117)
   exact absurd (zhO hi hk (.inl h5) hbo hon) (by omega)
  have hD:=zye I8
  refine Jo ?_
  refine Z7 I8 [] mixed ?_
  refine zT 0 rfl (Qi rfl) hD ?_
  refine zT 1 rfl (Qd rfl QK (fun hg=>by exact hB2.any)) hD ?_
  refine zT 2 rfl (ZH rfl Qy) hD ?_
  refine zT 3 rfl (QH rfl rfl rfl) hD ?_
  rw [hd1]
  refine zT 4 rfl (Qi rfl) hD ?_
  refine zW 5 81 hD ?_
  refine zW 6 81 hD ?_
  refine zW 7 81 hD ?_
  refine zW 8 81 hD ?_
  refine zT 9 rfl (YR rfl rfl rfl) hD ?_
  refine zT 10 rfl (Qi rfl) hD ?_
  refine zW 11 87 hD ?_
  refine zW 12 87 hD ?_
  refine zW 13 87 hD ?_
  refine zW 14 87 hD ?_
  refine zW 15 87 hD ?_
  refine zW 16 87 hD ?_
  refine zW 17 87 hD ?_
  refine zW 18 87 hD ?_
  refine zW 19 87 hD ?_
  refine zW 20 87 hD ?_
  refine zW 21 87 hD ?_
  refine zW 22 87 hD ?_
  refine zW 23 87 hD ?_
  refine zW 24 87 hD ?_
  refine zW 25 87 hD ?_
  refine zW 26 87 hD ?_
  refine zW 27 87 hD ?_
  refine zW 28 87 hD ?_
  refine zT 29 rfl (YR rfl rfl rfl) hD ?_
  refine zT 30 rfl (ZP rfl) hD ?_
  refine QG (by kernel_rfl) ?_
  refine QQ ?_
  refine Qa ?_
  refine zI ?_ ?_<;>intro hc76
  ·
   cases hc76
  have hbo:=zeQ (a:=xs) (b:=ys) (i:=i) (k:=k) (.inl h5)
  refine zR (zM ?_)
  refine zV (Qd rfl QK (fun hg=>by exact hB2.any)) ?_
  refine zQ Qy ?_
  refine zC ?_
  rw [hd1]
  refine zM ?_
  refine QV (dj:=122) rfl rfl rfl rfl rfl ?_
  refine QV (dj:=122) rfl rfl rfl rfl rfl ?_
  refine QV (dj:=122) rfl rfl rfl rfl rfl ?_
  refine QV (dj:=122) rfl rfl rfl rfl rfl ?_
  refine QV (dj:=122) rfl rfl rfl rfl rfl ?_
  refine QV (dj:=122) rfl rfl rfl rfl rfl ?_
  refine QV (dj:=122) rfl rfl rfl rfl rfl ?_
  refine QV (dj:=122) rfl rfl rfl rfl rfl ?_
  refine zV (YR rfl rfl rfl) ?_
  refine zA (zN ?_)
  refine zI ?_ ?_<;>intro hc117
  ·
   cases hc117
  have hon:=zoG (a:=xs) (b:=ys) (i:=i) (k:=k) h5
  refine zR (zM ?_)
  refine zB ?_
  refine zA (zN (Qg ?_))
  refine zM ?_
  refine zM ?_
  refine zV (Zp (ps:=[(0,_),(1,_)]) [_,_] Yc JJ rfl rfl) ?_
  refine Qq (ps:=[(0,_)]) (m:=[VO ((0:Int),(k:Int)+1)]) JE rfl (.cons rfl (.nil)) rfl (by simp [Ka]) (by decide) (by decide) rfl rfl (fun b_74=>?_)
  refine QY (v:=_) (ys:=[((0:Int),(k:Int)+1)].flatMap VO) (L:=L) rfl rfl JE hO (by repeat (first | exact .cons .here .nil | exact QD | exact Qw | apply QC | apply QB)) ⟨rfl,fun _=>rfl,by repeat (first | exact zyc | apply zyb | apply zyd)⟩ (zf9 [((0:Int),(k:Int)+1)]) (by omega) rfl rfl ?_
  intro v9 L9 hO9 _;rw [←List.flatMap_append] at hO9
  refine zA (Qb (Qh (Qh ?_)))
  exact zm (h:=⟨xs.length-(i)+(ys.length-(k+1)),by omega,i,k+1,_,_,_,_,_,rfl,rfl,hB4,rfl,by omega,by omega,hm1,hpq.two h6 hbo hon,hO9,by omega⟩)
 have hnor:xs.length≤i∧ys.length≤k:=by have h:=hc64;simp at h;omega
 have hfin:zl1 xs ys=pre:=hpq.fin hnor.1 hnor.2
 have hE0:=zpi hlong hno2
 have hR0:=(zmi hE0).trans hfin
 refine QI (Qf (Qf (Qk (Qa (zR ?_)))))
 refine zV (Qd rfl KI (fun hg=>by exact hLE.se.any)) ?_
 refine Qz (cap:=[Zb b_2,Zb b_3,Zb b_13,Zb b_14]) (vs:=[_,_]) rfl rfl Kr (by repeat (first | exact .cons .here .nil | exact QD | exact Qw | apply QC | apply QB)) (zt6 hLE (by omega) (by omega) i k m trivial hm) rfl rfl ?_
 rintro vv12 I12 L12 hI12 ⟨VZ,hLZ,rfl,rfl,m5,hm5,rfl⟩
 have hIc:=hIc.trans hI12
 refine zM ?_
 refine zA ?_
 refine zA ?_
 refine zA (zN (Qt ?_))
 first
 | exact Kz rfl rfl rfl rfl (fun w hw=>by obtain ⟨I9,av9,c9,h1',h2',e9,h4'⟩:=OwnS.freeze (R:=[]) hO Ka (by decide) (by rw [List.append_nil];exact hw.subL (by repeat (first | exact .refl | exact Zg | exact Zg (L:=L) (R:=[]) | refine .drop ?_)));have hq9:=h4'.len;subst hq9;exact ⟨_,I9,[],rfl,hIc.trans h1',h2',rfl,_,av9,c9,by rw [hE0,hR0,e9],by rw [hR0];exact h4'⟩)
end
section
open Go Go.Kn Go.Proofs
def zad (a:Int):List (Int×Int)→List (Int×Int)
 | []=>[]
 | p::ps=>if p.1>0 then zad p.1 ps else (a,p.2-1)::zad a ps
def zg1 (ps:List (Int×Int)):List (Int×Int):=zad 0 ps
theorem zrF {a:Int}{ps:List (Int×Int)}{k:Nat}{p:Int×Int}(hp:ps[k]? =some p)(h:decide (p.1>0)=true):zad a (ps.drop k)=zad p.1 (ps.drop (k+1)):=by
 rw [Z2 hp]
 show (if p.1>0 then zad p.1 (ps.drop (k+1)) else (a,p.2-1)::zad a (ps.drop (k+1)))=_
 rw [if_pos (by simpa using h)]
theorem znD {a:Int}{ps:List (Int×Int)}{k:Nat}{p:Int×Int}(hp:ps[k]? =some p)(h:decide (p.1>0)=false):zad a (ps.drop k)=(a,p.2-1)::zad a (ps.drop (k+1)):=by
 rw [Z2 hp]
 show (if p.1>0 then zad p.1 (ps.drop (k+1)) else (a,p.2-1)::zad a (ps.drop (k+1)))=_
 rw [if_neg (by simpa using h)]
theorem zqB {a:Int}{ps pre:List (Int×Int)}{k:Nat}(h:zg1 ps=pre++zad a (ps.drop k))(hk:ps.length≤k):zg1 ps=pre:=by
 rw [h,List.drop_eq_nil_of_le hk];simp [zad]
theorem zru {a:Int}{ps pre:List (Int×Int)}{k:Nat}{p:Int×Int}(h:zg1 ps=pre++zad a (ps.drop k))(hp:ps[k]? =some p)(hn:decide (p.1>0)=false):pre++[(a,p.2-1)]<+:zg1 ps:=by
 rw [h,znD hp hn]
 exact ⟨zad a (ps.drop (k+1)),by simp⟩
def zwD (q:Int×Int):Value:=.int .i64 q.1
def zwh (q:Int×Int):Value:=.int .i64 q.2
end
end Go.Proofs.YtodakphagkommaaGreatDoor
section
namespace Go.Kn
open Go
def zop {α:Type}(P:Program)(f:FuncId)(cap:List Value)(I:Qu)(K:Loc)(en1 en2:α→Value)(xs:List α):Prop:=
 ∀ g l (J Jx:List α→Qu→Qu→Prop),
  (∀ pre x I' H',pre++[x]<+:xs→HLe I I'→J pre I' H'→WB P g l [en1 x,en2 x] I' H' fun b I2 H2=>if b then J (pre++[x]) I2 H2 else Jx (pre++[x]) I2 H2)→
  ∀ I0 H w,HLe I I0→J [] I0 H→St g I0 H K w→Calls P f ((.func (.yield l) #[] #[]:Value)::cap).toArray w fun e w'=>∃ v I' H',e= .returned v∧HLe I0 I'∧St g I' H' [] w'∧(J xs I' H'∨∃ pre,pre<+:xs∧Jx pre I' H')
section
variable {α:Type} {C:Cx} {Q:Exit→Act→World→Prop} {E E':Env} {I I':Qu} {loc loc' L R:Loc} {ops:Array Oper} {rest:List Oper} {S:GS}
variable {Jc:List α→Qu→Loc→Prop} {Jx:Code→List α→Qu→Loc→Prop} {pre:List α}
theorem za1 {P:Program}{N:Nat}{D:List Deferred}{K:Loc}{g:World}{H:Qu}{gop:Operand}{p q:Nat}{assign body:Code}{f:FuncId}{cap:List Value}{en1 en2:α→Value}{xs:List α}
  (Jc:List α→Qu→Loc→Prop)(Jx:Code→List α→Qu→Loc→Prop)(Ja:List α→α→Env→Qu→Loc→Prop)
  (hg:QA [] E gop=some (.func (.func f) #[] cap.toArray))(hF:Fun P f)(hseq:zop P f cap I K en1 en2 xs)(hp:Nat.blt p N=true)(hq9:Nat.blt q N=true)(h0:Jc [] I loc)
  (hass:∀ l pre x I' loc' H1,pre++[x]<+:xs→HLe I I'→Jc pre I' loc'→X ⟨P,some l,N,[],g,H1⟩ (Exit.then (Met ⟨P,some l,N,[],g,H1⟩ fun E2 I2 loc2=>HLe I' I2∧Ja pre x E2 I2 loc2) (fun _ _ _=>False)) assign ((q,en2 x)::(p,en1 x)::E) I' loc')
  (hbody:∀ l pre x E2 I2 loc2 H2,pre++[x]<+:xs→HLe I I2→Ja pre x E2 I2 loc2→X ⟨P,some l,N,[],g,H2⟩ (zaB g H2 (fun q0 I3 loc3=>HLe I2 I3∧Jc q0 I3 loc3) (fun c q0 I3 loc3=>HLe I2 I3∧Jx c q0 I3 loc3) (pre++[x])) body E2 I2 loc2)
  (hdone:∀ bd I' loc',HLe I I'→Jc xs I' loc'→At ⟨P,none,N,{target:=.collected bd,args:= #[]}::D,g,H⟩ Q .normal E I' (loc'++[(bd,.deferred (some []))]))
  (hstop:∀ c bd pre I' loc',HLe I I'→pre<+:xs→Jx c pre I' loc'→X ⟨P,none,N,{target:=.collected bd,args:= #[]}::D,g,H⟩ Q c E I' (loc'++[(bd,.deferred (some []))])):
  X ⟨P,none,N,D,g,H⟩ Q (.rangeFunc gop #[p,q] assign body) E I (K++loc):=by
 intro a w ha hw
 refine wpIn_rangeFunc fun fn _=>?_
 have hen:=run_enterLoop_outer (P:=P) (w:=w) fn a.tmps #[p,q] assign body
 generalize hbd:w.heap.size=bd at hen
 let rec_:LoopState→Option Code→Obj:=fun st pd=>.loop {state:=st,pending:=pd,fn,tmps:=a.tmps,params:= #[p,q],assign,body,defers:=bd}
 have hw1:St g I H ((bd+1,rec_ .ready none)::(bd,.deferred (some []))::(K++loc)) ((w.alloc (.deferred (some []))).alloc (rec_ .ready none)):=by
  have h1:=hw.alloc (.deferred (some []))
  have h2:=h1.alloc (rec_ .ready none)
  rw [World.size_alloc,hbd] at h2
  exact h2
 have hev:=Qj (S:=[]) ha trivial rfl hg
 refine ⟨bd+1,[{target:=.collected bd,args:= #[]}],_,{target:=.fn (.func f) cap.toArray,args:= #[.func (.yield (bd+1)) #[] #[]]},(w.alloc (.deferred (some []))).alloc (rec_ .ready none),f,((.func (.yield (bd+1)) #[] #[]:Value)::cap).toArray,(w.alloc (.deferred (some []))).alloc (rec_ .ready none),hen,?_,fun _ _=>trivial,?_,by simp [FR],Wb.2 ?_⟩
 ·
  have e2:a.eval (.const (.func (.yield (bd+1)) #[] #[]))= .func (.yield (bd+1)) #[] #[]:=rfl
  simp only [resolve,List.map_toArray,List.map_cons,List.map_nil,e2,hev,Deferred.ofValue]
  rfl
 ·
  simp only [invoke,Vz hF]
  simp
 -- the caller's blocks, between two rounds
 let Lr:LoopState→Option Code→Loc→Loc:=fun st pd l'=>l'++[(bd+1,rec_ st pd),(bd,.deferred (some []))]
 have okL:∀ {I' H1 l' W st pd},St g I' H1 (Lr st pd l') W→((Lr st pd l').map (·.1)).Nodup:=fun h=>h.nodup
 let J:List α→Qu→Qu→Prop:=fun pre I' H'=>∃ l',Jc pre I' l'∧HLe I I'∧H'=Vk H (Lr .ready none l')∧((Lr .ready none l').map (·.1)).Nodup∧∀ b o,(b,o)∈Lr .ready none l'→H b=none
 let Jy:List α→Qu→Qu→Prop:=fun pre I' H'=>∃ c l',Jx c pre I' l'∧HLe I I'∧H'=Vk H (Lr .done (some c) l')∧((Lr .done (some c) l').map (·.1)).Nodup∧∀ b o,(b,o)∈Lr .done (some c) l'→H b=none
 have hw2:St g I H (K++Lr .ready none loc) ((w.alloc (.deferred (some []))).alloc (rec_ .ready none)):=by
  have hp:(K++Lr .ready none loc).Perm ((bd+1,rec_ .ready none)::(bd,.deferred (some []))::(K++loc)):=by
   show (K++(loc++[(bd+1,rec_ .ready none),(bd,.deferred (some []))])).Perm _
   rw [←List.append_assoc]
   exact List.perm_append_comm
  exact hw1.perm (fun q=>hp.mem_iff) ((hp.map (·.1)).nodup_iff.2 hw1.nodup)
 have hw2r:=hw2.rest Qw
 have hJ0:J [] I (Vk H (Lr .ready none loc)):=⟨loc,h0,zye I,rfl,hw2r.nodup,fun b o hm=>(hw2r.sepIL b o hm).2⟩
 refine (hseq g (bd+1) J Jy ?_ I _ _ (zye I) hJ0 hw2.hideR).mono ?_
 ·
  -- a round
  intro pre x I' H' hpre hI ⟨l',hJc,_,hH,hnd,hdj⟩ lit W hW
  subst hH
  have hS1:=hW.swap hnd hdj
  have hrec:W.heap[bd+1]? =some (rec_ .ready none):=hS1.own _ _ (by simp [Lr])
  refine ⟨fn,_,assign,body,run_yield (P:=P) hrec (by simp),?_⟩
  have hfit:Kk N [] ((q,en2 x)::(p,en1 x)::E) {tmps:=(a.tmps.setIfInBounds p (en1 x)).setIfInBounds q (en2 x),defers:=[]}:=by
   have h1:=(ha.put hp (en1 x)).put hq9 (en2 x)
   exact ⟨h1.size,rfl,h1.env⟩
  have hdjK:∀ b o,(b,o)∈lit→H b=none:=fun b o hm=>(UP (hW.sepIL b o hm).2).1
  refine roundIn_of_wpIn (F:=Fence.wide) trivial ?_
  have htm:((#[p,q]:Array Tmp).zip #[en1 x,en2 x]).foldl (fun tmps (t,v)=>tmps.setIfInBounds t v) a.tmps=(a.tmps.setIfInBounds p (en1 x)).setIfInBounds q (en2 x):=by simp
  show Code.wpIn _ _ _ _ _ {tmps:=((#[p,q]:Array Tmp).zip #[en1 x,en2 x]).foldl (fun tmps (t,v)=>tmps.setIfInBounds t v) a.tmps,defers:=[]} _
  rw [htm]
  have hA:=hass (bd+1) pre x I' l' (Vk (Vk H lit) [(bd+1,rec_ .ready none),(bd,.deferred (some []))]) hpre hI hJc _ W hfit hS1.hideR
  refine wpIn_mono (F:=Fence.wide.inRound (bd+1)) (n:=0) (P:=P) (show assign.wpIn (Fence.wide.inRound (bd+1)) 0 P _ _ _ from hA) ?_
  intro e a1 W1 hq
  cases e with
  | normal=>
   obtain ⟨E2,I2,loc2,⟨hI2,hJa⟩,hf2,hs2⟩:=hq
   have hs3:St g I2 (Vk H lit) (loc2++[(bd+1,rec_ .ready none),(bd,.deferred (some []))]) W1:=St.unhide (hS1.rest Qw) hs2
   have hrec1:W1.heap[bd+1]? =some (rec_ .ready none):=hs3.own _ _ (by simp)
   have hs4:=hs3.putObj (o':=rec_ .busy none) (b:=bd+1) (QJ .here)
   refine ⟨_,run_beginRound (P:=P) hrec1 rfl,?_⟩
   have hB:=hbody (bd+1) pre x E2 I2 loc2 (Vk (Vk H lit) [(bd+1,rec_ .busy none),(bd,.deferred (some []))]) hpre (hI.trans hI2) hJa a1 _ hf2 hs4.hideR
   refine wpIn_mono (F:=Fence.wide.inRound (bd+1)) (n:=0) (P:=P) (show body.wpIn (Fence.wide.inRound (bd+1)) 0 P _ _ _ from hB) ?_
   have fin:∀ (W3:World) (I3:Qu) (loc3:Loc) (jump:Option Code) (st:LoopState),St g I3 (Vk (Vk H lit) [(bd+1,rec_ .busy none),(bd,.deferred (some []))]) loc3 W3→
     (st=if jump.isNone then .ready else .done)→
     ∃ W4,(Instr.endRound (bd+1) jump).run P W3= .ok (.bool jump.isNone) W4∧St g I3 (Vk H (Lr st jump loc3)) lit W4∧((Lr st jump loc3).map (·.1)).Nodup∧∀ b o,(b,o)∈Lr st jump loc3→H b=none:=by
    intro W3 I3 loc3 jump st hs hst
    have hs5:St g I3 (Vk H lit) (loc3++[(bd+1,rec_ .busy none),(bd,.deferred (some []))]) W3:=St.unhide (hs4.rest Qw) hs
    have hrec3:W3.heap[bd+1]? =some (rec_ .busy none):=hs5.own _ _ (by simp)
    have hs6:=hs5.putObj (o':=rec_ st jump) (b:=bd+1) (QJ .here)
    refine ⟨_,run_endRound (P:=P) jump hrec3,?_,hs6.nodup,fun b o hm=>(UP (hs6.sepIL b o hm).2).1⟩
    rw [←hst]
    exact hs6.swap hW.nodup hdjK
   intro e a3 W3 hq
   cases e with
   | normal=>
    obtain ⟨I3,loc3,⟨hI3,hJ3⟩,hs⟩:=hq
    obtain ⟨W4,h1,h2,h3,h4⟩:=fin W3 I3 loc3 none .ready hs rfl
    exact ⟨_,W4,h1,true,I3,_,rfl,hI2.trans hI3,h2,loc3,hJ3,(hI.trans hI2).trans hI3,rfl,h3,h4⟩
   | ret=>
    obtain ⟨I3,loc3,⟨hI3,hJ3⟩,hs⟩:=hq
    obtain ⟨W4,h1,h2,h3,h4⟩:=fin W3 I3 loc3 (some .ret) .done hs rfl
    exact ⟨_,W4,h1,false,I3,_,rfl,hI2.trans hI3,h2,.ret,loc3,hJ3,(hI.trans hI2).trans hI3,rfl,h3,h4⟩
   | exit id=>
    obtain ⟨I3,loc3,⟨hI3,hJ3⟩,hs⟩:=hq
    obtain ⟨W4,h1,h2,h3,h4⟩:=fin W3 I3 loc3 (some (.exit id)) .done hs rfl
    exact ⟨_,W4,h1,false,I3,_,rfl,hI2.trans hI3,h2,.exit id,loc3,hJ3,(hI.trans hI2).trans hI3,rfl,h3,h4⟩
   | goto t=>exact hq.elim
   | panic c=>exact hq.elim
   | outgrown=>exact hq.elim
  | _=>exact hq.elim
 ·
  -- behind the call
  rintro e w' ⟨v,I',H',rfl,hI,hs,hJ | ⟨pre,hpre,hJ⟩⟩
  ·
   obtain ⟨l',hJc,hI1,rfl,hnd,hdj⟩:=hJ
   have hs1:=hs.swap hnd hdj
   have hrec:w'.heap[bd+1]? =some (rec_ .ready none):=hs1.own _ _ (by simp [Lr])
   have hs2:=hs1.putObj (o':=rec_ .exhausted none) (b:=bd+1) (QJ .here)
   refine ⟨none,_,run_endLoop (P:=P) hrec (by simp),?_⟩
   refine hdone bd I' l' hI1 hJc _ _ ⟨ha.size,by simp [ha.defers],ha.env⟩ ?_
   refine hs2.rest (L:=[(bd+1,rec_ .exhausted none)]) ?_
   have:YF (l'++[(bd+1,rec_ .exhausted none),(bd,.deferred (some []))]) [(bd+1,rec_ .exhausted none)] (l'++[(bd,.deferred (some []))]):=by
    refine .cons ?_ .nil
    clear hdj hnd hs2 hs1 hs hJc hrec
    induction l' with
    | nil=>exact .here
    | cons q l ih=>exact .there ih
   exact this
  ·
   obtain ⟨c,l',hJc,hI1,rfl,hnd,hdj⟩:=hJ
   have hs1:=hs.swap hnd hdj
   have hrec:w'.heap[bd+1]? =some (rec_ .done (some c)):=hs1.own _ _ (by simp [Lr])
   have hs2:=hs1.putObj (o':=rec_ .exhausted (some c)) (b:=bd+1) (QJ .here)
   refine ⟨some c,_,run_endLoop (P:=P) hrec (by simp),?_⟩
   refine hstop c bd pre I' l' hI1 hpre hJc _ _ ⟨ha.size,by simp [ha.defers],ha.env⟩ ?_
   refine hs2.rest (L:=[(bd+1,rec_ .exhausted (some c))]) ?_
   have:YF (l'++[(bd+1,rec_ .exhausted (some c)),(bd,.deferred (some []))]) [(bd+1,rec_ .exhausted (some c))] (l'++[(bd,.deferred (some []))]):=by
    refine .cons ?_ .nil
    clear hdj hnd hs2 hs1 hs hJc hrec
    induction l' with
    | nil=>exact .here
    | cons q l ih=>exact .there ih
   exact this
end
section
variable {P:Program} {r:Option Nat} {N:Nat} {g:World} {H:Qu} {Q:Exit→Act→World→Prop} {E E':Env} {I I':Qu} {loc loc' L R:Loc} {ms:List Nat}
theorem UM {α:Type}{gop:Operand}{p q:Nat}{assign body:Code}{f:FuncId}{cap:List Value}{K:Loc}{en1 en2:α→Value}{xs:List α}
  (Jc:List α→Qu→Loc→Prop)(Jx:Code→List α→Qu→Loc→Prop)(Ja:List α→α→Env→Qu→Loc→Prop)
  (hg:QA [] E gop=some (.func (.func f) #[] cap.toArray))(hF:Fun P f)(hseq:zop P f cap I K en1 en2 xs)(hp:Nat.blt p N=true)(hq9:Nat.blt q N=true)(h0:Jc [] I L)
  (hass:∀ l pre x I' loc' H1,pre++[x]<+:xs→HLe I I'→Jc pre I' loc'→X ⟨P,some l,N,[],g,H1⟩ (Exit.then (Met ⟨P,some l,N,[],g,H1⟩ fun E2 I2 loc2=>HLe I' I2∧Ja pre x E2 I2 loc2) (fun _ _ _=>False)) assign ((q,en2 x)::(p,en1 x)::E) I' loc')
  (hbody:∀ l pre x E2 I2 loc2 H2,pre++[x]<+:xs→HLe I I2→Ja pre x E2 I2 loc2→X ⟨P,some l,N,[],g,H2⟩ (zaB g H2 (fun q0 I3 loc3=>HLe I2 I3∧Jc q0 I3 loc3) (fun c q0 I3 loc3=>HLe I2 I3∧Jx c q0 I3 loc3) (pre++[x])) body E2 I2 loc2)
  (hdone:∀ bd I' loc',HLe I I'→Jc xs I' loc'→At ⟨P,none,N,mk (bd::ms),g,H⟩ Q .normal E I' (loc'++MB (bd::ms)))
  (hstop:∀ c bd pre I' loc',HLe I I'→pre<+:xs→Jx c pre I' loc'→X ⟨P,none,N,mk (bd::ms),g,H⟩ Q c E I' (loc'++MB (bd::ms))):
  X ⟨P,none,N,mk ms,g,H⟩ Q (.rangeFunc gop #[p,q] assign body) E I (K++(L++MB ms)):=by
 intro a w ha hw
 have back:∀ {I':Qu} {loc':Loc} {bd:Nat} {w':World},St g I' (Vk H (MB ms)) (loc'++[(bd,.deferred (some []))]) w'→St g I' H (loc'++MB (bd::ms)) w':=fun {I' loc' bd w'} h=>by
  have h1:=St.unhide ((hw.rest Qw).rest Qw) h
  refine h1.perm (fun p=>?_) ?_
  ·
   simp only [MB,List.mem_append]
   constructor
   ·
    rintro (h | h | h)
    ·
     exact .inl (.inl h)
    ·
     exact .inr h
    ·
     exact .inl (.inr h)
   ·
    rintro ((h | h) | h)
    ·
     exact .inl h
    ·
     exact .inr (.inr h)
    ·
     exact .inr (.inl h)
  ·
   have hn:=h1.nodup
   have hpm:(loc'++MB (bd::ms)).Perm (loc'++[(bd,.deferred (some []))]++MB ms):=by
    rw [List.append_assoc]
    exact (List.Perm.refl loc').append List.perm_append_comm
   exact (hpm.map (·.1)).nodup_iff.2 hn
 refine za1 (K:=K) (P:=P) (N:=N) (D:=mk ms) (g:=g) (H:=Vk H (MB ms)) (Q:=Q) Jc Jx Ja hg hF hseq hp hq9 h0 hass hbody ?_ ?_ a w ha (show St g I (Vk H (MB ms)) (K++L) w from (show St g I H ((K++L)++MB ms) w by rw [List.append_assoc];exact hw).hideR)
 ·
  intro bd I' loc' hI hJ a' w' ha' hw'
  exact hdone bd I' loc' hI hJ a' w' ha' (back hw')
 ·
  intro c bd pre I' loc' hI hpre hJ a' w' ha' hw'
  exact hstop c bd pre I' loc' hI hpre hJ a' w' ha' (back hw')
end
end Go.Kn
namespace Go.Kn
open Go
section
variable {C:Cx} {Q:Exit→Act→World→Prop} {E E':Env} {I I' I0:Qu} {loc loc' loc0 L R:Loc} {ops:Array Oper} {rest:List Oper} {S:GS}
theorem QL {e:Exit}{b:Nat}{o:Obj}(ht:Q7 loc b o loc')(h:∀ I',HLe I I'→I' b=some o→At C Q e E I' loc'):At C Q e E I loc:=fun a w ha hw=>
 let ⟨h1,h2,h3⟩:=hw.freeze ht;h _ h2 h3 a w ha h1
theorem JA {c:Code}(h:loc=loc')(hx:X C Q c E I loc'):X C Q c E I loc:=h ▸ hx
theorem zrn (i j k m:Nat){oi oj ok om:Oper}{fuel:Nat}{listed:Array Bool}(hi:ops[i]? =some oi)(hj:ops[j]? =some oj)(hk:ops[k]? =some ok)(hm:ops[m]? =some om)(hr:Region.ready .any ops listed=[i,j,k,m])
  (h1:XO C (fun e a w=>match e with | .normal=>St C.g I0 C.H loc0 w∧YJ C.r C.P .any ops Q (fun w=>St C.g I0 C.H loc0 w) fuel (listed.setIfInBounds i true) a w | e=>Q e a w) ops [oi] S E I loc)
  (h2:XO C (fun e a w=>match e with | .normal=>St C.g I0 C.H loc0 w∧YJ C.r C.P .any ops Q (fun w=>St C.g I0 C.H loc0 w) fuel (listed.setIfInBounds j true) a w | e=>Q e a w) ops [oj] S E I loc)
  (h3:XO C (fun e a w=>match e with | .normal=>St C.g I0 C.H loc0 w∧YJ C.r C.P .any ops Q (fun w=>St C.g I0 C.H loc0 w) fuel (listed.setIfInBounds k true) a w | e=>Q e a w) ops [ok] S E I loc)
  (h4:XO C (fun e a w=>match e with | .normal=>St C.g I0 C.H loc0 w∧YJ C.r C.P .any ops Q (fun w=>St C.g I0 C.H loc0 w) fuel (listed.setIfInBounds m true) a w | e=>Q e a w) ops [om] S E I loc):XD C Q ops I0 loc0 (fuel+1) listed S E I loc:=by
 intro a w ha hg hw
 refine ⟨(fun h0=>by rw [hr] at h0;cases h0),fun q hq=>?_⟩
 rw [hr] at hq
 rcases List.mem_cons.1 hq with e | hq
 ·
  subst e;exact XA hi ha hg hw h1
 ·
  rcases List.mem_cons.1 hq with e | hq
  ·
   subst e;exact XA hj ha hg hw h2
  ·
   rcases List.mem_cons.1 hq with e | hq
   ·
    subst e;exact XA hk ha hg hw h3
   ·
    obtain rfl:=List.mem_singleton.1 hq;exact XA hm ha hg hw h4
end
end Go.Kn
end
namespace Go.Proofs.YtodakphagkommaaGreatDoor
section
open Go Go.Kn Go.Proofs
theorem zh2:Fun Tryz.prog 105:=.of Tryz.func105 (by kernel_rfl) (by kernel_rfl)
theorem ze8:ScT Tryz.prog 41:=.of (by kernel_rfl)
theorem Jm:SlT Tryz.prog 41 79 2:=.of (by kernel_rfl)
theorem zer:SzT Tryz.prog 79 2:=.of (by kernel_rfl)
theorem zho (I:Qu)(av:Option Addr)(n c:Nat):Yg Tryz.prog 61 [.slice av n c] I [] (fun v I' L=>L=[]∧∃ b1,v= .func (.func 105) #[] [Zb b1].toArray∧I' b1=some (.cells #[.slice av n c] 41 (0,0))):=by
 intro g H w hw
 refine qe Tryz.func61 Tryz.ntmps61 hw ?_
 have hIc:=zye I
 refine zR ?_
 refine Q5 rfl rfl rfl (fun b_1=>?_)
 refine zA (zN (Ql ?_))
 refine Zf .here (fun I1 hI1 hb1=>?_)
 have hIc:=hIc.trans hI1
 have h1:=hb1
 refine Qg ?_
 refine zV (Zc (us:=[]) (vs:=[_]) rfl rfl) ?_
 refine zA (zN (Qt ?_))
 exact Zv rfl rfl (fun w hw=>⟨_,I1,[],rfl,hIc,hw.drop,rfl,b_1,rfl,h1⟩)
theorem zjy {I:Qu}{av:Option Addr}{n c:Nat}{ps:List (Int×Int)}(hS:Sl I 2 VO av n c ps)(hn9:n≤1000000)(hps:∀ p∈ps, -1000000≤p.2∧p.2≤1000000){b1:Nat}(h1:I b1=some (.cells #[.slice av n c] 41 (0,0))):zop Tryz.prog 105 [Zb b1] I [] zwD zwh (zg1 ps):=by
 intro g y J Jx hY I0 H w h0 hJ hw
 have hS:=hS.mono h0
 have h1:=h0 _ _ h1
 refine qe Tryz.func105 Tryz.ntmps105 hw ?_
 have hSl:=hS.len
 subst hSl
 refine zR (zA ?_)
 refine zN (zR ?_)
 refine zV (Qd rfl ze8 (fun hg=>by exact QU.imm h1 rfl)) ?_
 refine zQ Jm ?_
 refine zM (zN (Qm ?_))
 refine zdh (fun m E I' H' loc'=>∃ (k:Nat) (a:Int) (pre:List (Int×Int)),m=ps.length-k∧E=[(0,.func (.yield y) #[] #[]),(1,Zb b1),(3,.int .i64 a),(6,.slice av ps.length c),(7,.int .i64 ps.length),(8,.int .i64 k)]∧loc'=[]∧HLe I0 I'∧k≤ps.length∧J pre I' H'∧zg1 ps=pre++zad a (ps.drop k)) _ _ _ ⟨0,0,[],rfl,rfl,rfl,zye _,Nat.zero_le _,hJ,rfl⟩ (.cons rfl (.cons rfl (.cons rfl (.cons rfl (.cons rfl (.cons rfl .nil)))))) rfl ?_
 rintro m E I' H' loc' ⟨k,a,pre,rfl,rfl,rfl,hI1,hk,hJk,hal⟩
 have hS:=hS.mono hI1
 have h1:=hI1 _ _ h1
 have hI0:=h0.trans hI1
 refine zR (zC (zN (Ql ?_)))
 refine zI ?_ ?_<;>intro hc9
 ·
  have hlt:k<ps.length:=by have h:=hc9;simp at h;omega
  obtain ⟨p,hp⟩:=hS.at hlt
  refine Qo (Qa (Ql (Qm (zR ?_))))
  refine zV (zX Jm hS) ?_
  refine zV (Qp rfl WM (fun hg=>by exact zyf hS hp) rfl) ?_
  refine Qr JJ rfl rfl (fun b_5=>?_)
  refine zh zer ?_
  refine zN (zR ?_)
  refine zV (Q8 rfl rfl Yc (fun hg=>by decide)) ?_
  refine zL Qs ?_
  refine zC (zN ?_)
  refine zI ?_ ?_<;>intro hc14
  ·
   refine Qg ?_
   refine zV (Q8 rfl rfl Yc (fun hg=>by decide)) ?_
   refine zL Qs ?_
   refine zA (Qb (Qh (Qa (Qg ?_))))
   refine zB ?_
   refine zM (Qb ?_)
   exact Xi rfl rfl rfl _ [] ⟨ps.length-(k+1),by omega,k+1,p.1,pre,rfl,rfl,rfl,hI1,by omega,hJk,by rw [hal,zrF hp hc14]⟩ (.cons rfl (.cons rfl (.cons rfl (.cons rfl (.cons rfl (.cons rfl .nil)))))) (.drop .refl)
  have hpre2:=zru hal hp hc14
  refine zR (zM ?_)
  refine zM ?_
  refine zV (Q8 rfl rfl Yc (fun hg=>by decide)) ?_
  refine zL Qs ?_
  refine zV (ZO rfl rfl rfl (fun _=>by (have hp9:=hps p (List.mem_of_getElem? hp);omega))) ?_
  refine zcU (vs:=[_,_]) (Post:=fun b I2 H2=>if b then J (pre++[(a,p.2-1)]) I2 H2 else Jx (pre++[(a,p.2-1)]) I2 H2) rfl rfl rfl rfl (hY pre (a,p.2-1) _ _ hpre2 hI0 hJk) ?_
  rintro t I2 H2 hI2 hP2
  refine zO (zN ?_)
  refine zI ?_ ?_<;>intro hc23
  ·
   have ht:t=false:=by simpa using hc23
   subst ht
   have hJ2:Jx (pre++[(a,p.2-1)]) I2 H2:=hP2
   refine Qt (Qn (Qc (Qc (Qn ?_))))
   exact YL rfl (fun w hw=>⟨_,I2,H2,rfl,hI1.trans hI2,hw.drop,.inr ⟨_,hpre2,hJ2⟩⟩)
  have ht:t=true:=by simpa using hc23
  subst ht
  have hJ2:J (pre++[(a,p.2-1)]) I2 H2:=hP2
  refine Qo (Qh (Qa (Qg (zB ?_))))
  refine zM (Qb ?_)
  first
  | exact Xi rfl rfl rfl _ [] ⟨ps.length-(k+1),by omega,k+1,a,pre++[(a,p.2-1)],rfl,rfl,rfl,hI1.trans hI2,by omega,hJ2,by rw [hal,znD hp hc14,List.append_assoc];rfl⟩ (.cons rfl (.cons rfl (.cons rfl (.cons rfl (.cons rfl (.cons rfl .nil)))))) (.drop .refl)
 have hge:ps.length≤k:=by have h:=hc9;simp at h;omega
 refine QI (Qf (Qf (Qk ?_)))
 first
 | exact Vl (YL rfl (fun w hw=>⟨_,I',H',rfl,hI1,hw,.inl (by rw [zqB hal hge];exact hJk)⟩))
end
section
open Go Go.Kn Go.Proofs
/-! ### Lists as functions -/
def Ve (n:Nat)(f:Nat→Int):List Int:=(List.range n).map f
def Ur {β:Type}(f:Nat→β)(a:Nat)(v:β):Nat→β:=fun j=>if j=a then v else f j
def YA (f:Nat→Nat):Nat→Int:=fun j=>((f j:Nat):Int)
theorem Yd {n:Nat}{f:Nat→Int}:(Ve n f).length=n:=by unfold Ve;simp
theorem YD {n a:Nat}{f:Nat→Int}(h:a<n):(Ve n f)[a]? =some (f a):=by unfold Ve;simp [h]
theorem KM {β:Type}{f:Nat→β}{a:Nat}{v:β}:Ur f a v a=v:=if_pos rfl
theorem X9 {β:Type}{f:Nat→β}{a j:Nat}{v:β}(h:j≠a):Ur f a v j=f j:=if_neg h
theorem Js {n a:Nat}{f:Nat→Int}{v:Int}:(Ve n f).set a v=Ve n (Ur f a v):=by
 apply List.ext_getElem?
 intro j
 rw [List.getElem?_set]
 by_cases hj:j<n
 ·
  rw [YD hj,YD hj,Yd]
  by_cases h:a=j
  ·
   subst h;rw [KM];simp [hj]
  ·
   rw [if_neg h,X9 (Ne.symm h)]
 ·
  rw [List.getElem?_eq_none (l:=Ve n (Ur f a v)) (by rw [Yd];omega),Yd]
  by_cases h:a=j
  ·
   subst h;simp [hj]
  ·
   rw [if_neg h,List.getElem?_eq_none (by rw [Yd];omega)]
theorem Ze {n:Nat}:List.replicate n (0:Int)=Ve n (fun _=>0):=by
 apply List.ext_getElem?
 intro j
 unfold Ve
 by_cases h:j<n<;>simp [h]
theorem Xr {f:Nat→Nat}{a v:Nat}:Ur (YA f) a (v:Int)=YA (Ur f a v):=by
 funext j
 by_cases h:j=a
 ·
  subst h;rw [KM];unfold YA;rw [KM]
 ·
  rw [X9 h];unfold YA;rw [X9 h]
theorem UT:(fun _=>0:Nat→Int)=YA (fun _=>0):=by funext j;rfl
theorem zlO {a b:Nat}:zp2 (a:Int) (b:Int)=((max a b:Nat):Int):=by unfold zp2;split<;>omega
/-! ### Counts -/
def cnt (pre:List (Int×Int)):Nat→Nat:=pre.foldl (fun c q=>Ur c q.1.toNat (c q.1.toNat+1)) (fun _=>0)
theorem UD {pre:List (Int×Int)}{q:Int×Int}:cnt (pre++[q])=Ur (cnt pre) q.1.toNat (cnt pre q.1.toNat+1):=by unfold cnt;rw [List.foldl_append];rfl
theorem zdK {pre:List (Int×Int)}{q:Int×Int}{a:Nat}(h:q.1.toNat=a):cnt (pre++[q]) a=cnt pre a+1:=by rw [UD,h];unfold Ur;rw [if_pos rfl]
theorem zs5 {pre:List (Int×Int)}{q:Int×Int}{a:Nat}:cnt pre a≤cnt (pre++[q]) a:=by
 rw [UD];unfold Ur;split
 ·
  rename_i h;subst h;omega
 ·
  exact Nat.le_refl _
theorem zpK (pre:List (Int×Int))(a:Nat):∀ (r:Nat) (qs:List (Int×Int)),qs.length≤r→cnt pre a≤cnt (pre++qs) a:=by
 intro r qs _
 induction qs generalizing pre with
 | nil=>simp
 | cons q qs ih=>
  have h1:=ih (pre++[q]) (by simp at*;omega)
  rw [List.append_assoc] at h1
  exact Nat.le_trans zs5 h1
theorem zp4 {pre xs:List (Int×Int)}{a:Nat}(h:pre<+:xs):cnt pre a≤cnt xs a:=by
 obtain ⟨qs,rfl⟩:=h;exact zpK pre a qs.length qs (Nat.le_refl _)
theorem zid (qs:List (Int×Int)):∀ (c:Nat→Nat) (a:Nat),(qs.foldl (fun c q=>Ur c q.1.toNat (c q.1.toNat+1)) c) a≤c a+qs.length:=by
 induction qs with
 | nil=>intro c a;simp
 | cons q qs ih=>
  intro c a
  rw [List.foldl_cons]
  have h:=ih (Ur c q.1.toNat (c q.1.toNat+1)) a
  have h2:Ur c q.1.toNat (c q.1.toNat+1) a≤c a+1:=by unfold Ur;split<;>(try (rename_i e;subst e))<;>omega
  rw [List.length_cons];omega
theorem zdy {pre:List (Int×Int)}{a:Nat}:cnt pre a≤pre.length:=by
 have h:=zid pre (fun _=>0) a
 unfold cnt;omega
/-! ### How wide the places are -/
def wmx (w:Nat→Nat)(pre:List (Int×Int)):Nat→Nat:=fun a=>max (w a) (cnt pre a)
def wdF (al:Nat→List (Int×Int)):Nat→Nat→Nat
 | 0=>fun _=>0
 | i+1=>wmx (wdF al i) (al i)
theorem ziw {w:Nat→Nat}:wmx w []=w:=by funext a;unfold wmx;show max (w a) 0=w a;omega
theorem zkV {w:Nat→Nat}{pre:List (Int×Int)}{q:Int×Int}{a:Nat}(h:q.1.toNat=a):Ur (wmx w pre) a (max (wmx w pre a) (cnt (pre++[q]) a))=wmx w (pre++[q]):=by
 funext j
 unfold Ur
 split
 ·
  rename_i e;subst e
  rw [zdK h]
  show max (max (w j) (cnt pre j)) (cnt pre j+1)=max (w j) (cnt (pre++[q]) j)
  rw [zdK h];omega
 ·
  rename_i e
  show max (w j) (cnt pre j)=max (w j) (cnt (pre++[q]) j)
  rw [UD,h];unfold Ur;rw [if_neg e]
theorem zrD {al:Nat→List (Int×Int)}(h:al 0=[]):wdF al 1=fun _=>0:=by
 show wmx (wdF al 0) (al 0)=_
 rw [h,ziw];rfl
theorem zev {al:Nat→List (Int×Int)}{B:Nat}(h:∀ j,(al j).length≤B):∀ (i a:Nat),wdF al i a≤B
 | 0,a=>Nat.zero_le _
 | i+1,a=>by
  show max (wdF al i a) (cnt (al i) a)≤B
  have h1:=zev h i a
  have h2:=@zdy (al i) a
  have h3:=h i
  omega
theorem znr {al:Nat→List (Int×Int)}{j:Nat}:∀ {i a:Nat},j<i→cnt (al j) a≤wdF al i a
 | 0,_,h=>by omega
 | i+1,a,h=>by
  show _≤max (wdF al i a) (cnt (al i) a)
  by_cases e:j=i
  ·
   subst e;omega
  ·
   have:=znr (al:=al) (a:=a) (show j<i by omega);omega
/-! ### Where the places begin -/
def VP (w:Nat→Nat):Nat→Nat
 | 0=>0
 | k+1=>VP w k+(w k+1)
theorem zdq {w:Nat→Nat}{B:Nat}(h:∀ a,w a≤B):∀ k,VP w k≤k*(B+1)
 | 0=>Nat.zero_le _
 | k+1=>by
  have h1:=zdq h k
  have h2:=h k
  show VP w k+(w k+1)≤_
  rw [Nat.add_mul];omega
theorem zbh {w:Nat→Nat}{k:Nat}:∀ {j:Nat},k<j→VP w k+w k+1≤VP w j
 | 0,h=>by omega
 | j+1,h=>by
  show _≤VP w j+(w j+1)
  by_cases e:k=j
  ·
   subst e;omega
  ·
   have:=zbh (w:=w) (show k<j by omega);omega
theorem zhx {w:Nat→Nat}:∀ k,k≤VP w k
 | 0=>Nat.le_refl _
 | k+1=>by have:=zhx (w:=w) k;show k+1≤VP w k+(w k+1);omega
def atK (w:Nat→Nat)(k:Nat):Nat→Nat:=fun j=>if j<k then VP w j else 0
theorem zl9 {w:Nat→Nat}:atK w 0=fun _=>0:=by funext j;unfold atK;simp
theorem zk8 {w:Nat→Nat}{k:Nat}:Ur (atK w k) k (VP w k)=atK w (k+1):=by
 funext j
 unfold Ur atK
 by_cases e:j=k
 ·
  subst e;rw [if_pos rfl,if_pos (by omega)]
 ·
  rw [if_neg e]
  by_cases h:j<k
  ·
   rw [if_pos h,if_pos (by omega)]
  ·
   rw [if_neg h,if_neg (by omega)]
theorem zrp {w:Nat→Nat}{n:Nat}:Ve n (YA (atK w n))=Ve n (YA (VP w)):=by
 unfold Ve
 refine List.map_congr_left fun j hj=>?_
 unfold YA atK
 rw [if_pos (List.mem_range.1 hj)]
/-! ### Rows -/
def txF (w:Nat→Nat)(T:List Int):Nat→Nat→Int
 | 0=>fun _=>0
 | k+1=>Ur (txF w T k) (VP w k+w k) (T.getD k 0)
def prF (w:Nat→Nat)(l:List Int)(f:Nat→Int)(y:Int×Int):Nat→Int:=
 if (decide (y.1>0)&&decide (y.2>0))=true then Ur f (VP w (y.1-1).toNat+w (y.1-1).toNat) (l.getD (y.2-1).toNat 0) else f
def alS (w:Nat→Nat)(l:List Int)(s:(Nat→Int)×(Nat→Nat))(q:Int×Int):(Nat→Int)×(Nat→Nat):=
 (Ur s.1 (VP w q.1.toNat+s.2 q.1.toNat) (l.getD q.2.toNat 0),Ur s.2 q.1.toNat (s.2 q.1.toNat+1))
def alP (w:Nat→Nat)(l:List Int)(f:Nat→Int)(pre:List (Int×Int)):(Nat→Int)×(Nat→Nat):=pre.foldl (alS w l) (f,fun _=>0)
theorem zpD {w:Nat→Nat}{l:List Int}{f:Nat→Int}{pre:List (Int×Int)}:(alP w l f pre).2=cnt pre:=by
 have key:∀ (f:Nat→Int) (c:Nat→Nat),(pre.foldl (alS w l) (f,c)).2=pre.foldl (fun c q=>Ur c q.1.toNat (c q.1.toNat+1)) c:=by
  induction pre with
  | nil=>intro f c;rfl
  | cons q pre ih=>intro f c;rw [List.foldl_cons,List.foldl_cons];exact ih _ _
 exact key f _
theorem zmc {w:Nat→Nat}{l:List Int}{f:Nat→Int}{pre:List (Int×Int)}{q:Int×Int}:(alP w l f (pre++[q])).1=Ur (alP w l f pre).1 (VP w q.1.toNat+cnt pre q.1.toNat) (l.getD q.2.toNat 0):=by
 rw [←zpD (w:=w) (l:=l) (f:=f)]
 unfold alP
 rw [List.foldl_append];rfl
def zoZ (w:Nat→Nat)(T l:List Int)(i:Nat)(ps:List (Int×Int)):Nat→Int:=
 (alP w l (ps.foldl (prF w l) (if i=0 then txF w T T.length else fun _=>0)) (zg1 ps)).1
theorem zfD {w:Nat→Nat}{l:List Int}{f:Nat→Int}{ps:List (Int×Int)}{k:Nat}{y:Int×Int}(hy:ps[k]? =some y):(ps.take (k+1)).foldl (prF w l) f=prF w l ((ps.take k).foldl (prF w l) f) y:=by
 rw [List.take_add_one,hy,List.foldl_append];rfl
/-! ### A table -/
def zvc (x:Wr):List Int:=x.rs.map Ko
def csW (xs:List Wr)(i:Nat):List Int:=((xs[i]?).map zvc).getD []
def pfW (xs:List Wr)(i:Nat):List (Int×Int):=if i=0 then [] else V1 (csW xs 0) (csW xs i)
def alW (xs:List Wr)(i:Nat):List (Int×Int):=zg1 (pfW xs i)
def wdW (xs:List Wr):Nat→Nat:=wdF (alW xs) xs.length
def loW (xs:List Wr):Nat:=VP (wdW xs) ((csW xs 0).length+1)-1
def zqw (xs:List Wr)(i:Nat):List Int:=Ve (loW xs) (zoZ (wdW xs) (csW xs 0) (csW xs i) i (pfW xs i))
def zae (xs:List Wr):Int:=if (WZ xs != 0||xs.length==0)=true then WZ xs else if loW xs>256 then 2 else 0
def Uz (xs:List Wr):List (List Int):=if (WZ xs != 0||xs.length==0)=true∨loW xs>256 then [] else (List.range xs.length).map (zqw xs)
theorem zrs {xs:List Wr}(h:(WZ xs != 0||xs.length==0)=true):zae xs=WZ xs∧Uz xs=[]:=by unfold zae Uz;rw [if_pos h,if_pos (.inl h)];exact ⟨rfl,rfl⟩
theorem zxw {xs:List Wr}(h:(WZ xs != 0||xs.length==0)=false)(h2:loW xs>256):zae xs=2∧Uz xs=[]:=by unfold zae Uz;rw [if_neg (by rw [h];decide),if_pos h2,if_pos (.inr h2)];exact ⟨rfl,rfl⟩
theorem zxi {xs:List Wr}(h:(WZ xs != 0||xs.length==0)=false)(h2:¬loW xs>256):zae xs=0∧Uz xs=(List.range xs.length).map (zqw xs):=by unfold zae Uz;rw [if_neg (by rw [h];decide),if_neg h2,if_neg (by rw [h];simp;omega)];exact ⟨rfl,rfl⟩
theorem zeB {xs:List Wr}{i:Nat}{x:Wr}(h:xs[i]? =some x):csW xs i=x.rs.map Ko:=by unfold csW;rw [h];rfl
theorem zkp {xs:List Wr}:alW xs 0=[]:=rfl
/-! ### What lies in alignments -/
def QOK (m n:Nat)(p:Int×Int):Prop:=∃ i k:Nat,p=((i:Int),(k:Int))∧i≤m∧k≤n∧(0<i∨0<k)
theorem zlZ {a b:List Int}:∀ (f i k:Nat),i≤a.length→k≤b.length→(∀ p∈paF a b f i k,QOK a.length b.length p)∧(paF a b f i k).length≤f
 | 0,_,_,_,_=>⟨(fun p hp=>by cases hp),Nat.le_refl _⟩
 | f+1,i,k,hi,hk=>by
  unfold paF
  split
  ·
   rename_i hg
   split
   ·
    rename_i hb
    have h1:i<a.length∧k<b.length:=by unfold WW at hb;simp at hb;omega
    have ih:=zlZ f (i+1) (k+1) h1.1 h1.2
    refine ⟨fun p hp=>?_,by rw [List.length_cons];omega⟩
    rcases List.mem_cons.1 hp with rfl | hp
    ·
     exact ⟨i+1,k+1,rfl,h1.1,h1.2,by omega⟩
    ·
     exact ih.1 p hp
   ·
    rename_i hb
    split
    ·
     rename_i ho
     have h1:i<a.length:=by unfold zgC at ho;simp at ho;omega
     have ih:=zlZ f (i+1) k h1 hk
     refine ⟨fun p hp=>?_,by rw [List.length_cons];omega⟩
     rcases List.mem_cons.1 hp with rfl | hp
     ·
      exact ⟨i+1,0,rfl,h1,Nat.zero_le _,by omega⟩
     ·
      exact ih.1 p hp
    ·
     rename_i ho
     have h1:k<b.length:=zhO hi hk (by simp at hg;omega) (by simpa using hb) (by simpa using ho)
     have ih:=zlZ f i (k+1) hi h1
     refine ⟨fun p hp=>?_,by rw [List.length_cons];omega⟩
     rcases List.mem_cons.1 hp with rfl | hp
     ·
      exact ⟨0,k+1,rfl,Nat.zero_le _,h1,by omega⟩
     ·
      exact ih.1 p hp
  ·
   exact ⟨(fun p hp=>by cases hp),Nat.zero_le _⟩
theorem zcB {a b:List Int}:(∀ p∈V1 a b,QOK a.length b.length p)∧(V1 a b).length≤a.length+b.length:=by
 unfold V1
 split
 ·
  exact ⟨(fun p hp=>by cases hp),Nat.zero_le _⟩
 ·
  exact zlZ _ 0 0 (Nat.zero_le _) (Nat.zero_le _)
theorem zic {m n:Nat}:∀ (ps:List (Int×Int)) (a:Nat),a≤m→(∀ p∈ps,QOK m n p)→(∀ q∈zad (a:Int) ps,∃ c r:Nat,q=((c:Int),(r:Int))∧c≤m∧r<n)∧(zad (a:Int) ps).length≤ps.length
 | [],_,_,_=>⟨(fun q hq=>by cases hq),Nat.le_refl _⟩
 | p::ps,a,ha,h=>by
  obtain ⟨i,k,rfl,hi,hk,h0⟩:=h p (List.mem_cons_self ..)
  unfold zad
  split
  ·
   have ih:=zic ps i hi fun p hp=>h p (List.mem_cons_of_mem _ hp)
   exact ⟨ih.1,Nat.le_succ_of_le ih.2⟩
  ·
   rename_i hn
   have hi0:i=0:=by simp at hn;omega
   have ih:=zic ps a ha fun p hp=>h p (List.mem_cons_of_mem _ hp)
   refine ⟨fun q hq=>?_,by rw [List.length_cons,List.length_cons];omega⟩
   rcases List.mem_cons.1 hq with rfl | hq
   ·
    exact ⟨a,k-1,by simp;omega,ha,by omega⟩
   ·
    exact ih.1 q hq
theorem XU {xs:List Wr}{i:Nat}:(∀ p∈pfW xs i,QOK (csW xs 0).length (csW xs i).length p)∧(pfW xs i).length≤(csW xs 0).length+(csW xs i).length:=by
 unfold pfW
 split
 ·
  exact ⟨(fun p hp=>by cases hp),Nat.zero_le _⟩
 ·
  exact zcB
theorem zmY {xs:List Wr}{i:Nat}:(∀ q∈alW xs i,∃ c r:Nat,q=((c:Int),(r:Int))∧c≤(csW xs 0).length∧r<(csW xs i).length)∧(alW xs i).length≤(csW xs 0).length+(csW xs i).length:=by
 have h:=zic (pfW xs i) 0 (Nat.zero_le _) (XU (xs:=xs) (i:=i)).1
 exact ⟨h.1,Nat.le_trans h.2 XU.2⟩
theorem Wh {xs:List Wr}{i B:Nat}(h:∀ x∈xs,x.rs.length≤B):(csW xs i).length≤B:=by
 unfold csW
 cases hx:xs[i]? with
 | none=>exact Nat.zero_le _
 | some x=>
  have:=h x (List.mem_of_getElem? hx)
  show (x.rs.map Ko).length≤B
  rw [List.length_map];exact this
def PrQ (I:Qu)(xs:List Wr)(hs:List Hd)(i:Nat):Prop:=∀ j,j<i→∃ h,hs[j]? =some h∧h.n=(pfW xs j).length∧Sl I 2 VO h.a h.n h.c (pfW xs j)
theorem PrQ.mono {I I':Qu}{xs:List Wr}{hs:List Hd}{i:Nat}(h:PrQ I xs hs i)(hI:HLe I I'):PrQ I' xs hs i:=fun j hj=>by
 obtain ⟨x,h1,h2,h3⟩:=h j hj;exact ⟨x,h1,h2,h3.mono hI⟩
theorem PrQ.start {I:Qu}{xs:List Wr}{n:Nat}(hn:0<n):PrQ I xs (List.replicate n ⟨none,0,0⟩) 1:=fun j hj=>by
 obtain rfl:j=0:=by omega
 exact ⟨_,by simp [hn];rfl,rfl,.nil⟩
theorem PrQ.put {I:Qu}{xs:List Wr}{hs:List Hd}{i:Nat}{a:Option Addr}{n c:Nat}(h:PrQ I xs hs i)(hi:0<i)(hil:i<hs.length)(hS:Sl I 2 VO a n c (V1 (csW xs 0) (csW xs i))):PrQ I xs (hs.set i ⟨a,n,c⟩) (i+1):=fun j hj=>by
 have hp:pfW xs i=V1 (csW xs 0) (csW xs i):=by unfold pfW;rw [if_neg (by omega)]
 by_cases e:j=i
 ·
  subst e
  exact ⟨⟨a,n,c⟩,by rw [List.getElem?_set_self hil],by rw [hp];exact hS.len.symm,by rw [hp];exact hS⟩
 ·
  obtain ⟨x,h1,h2,h3⟩:=h j (by omega)
  exact ⟨x,by rw [List.getElem?_set_ne (Ne.symm e)];exact h1,h2,h3⟩
end
section
open Go Go.Kn Go.Proofs
theorem Ul (row:List Int)(m:Nat)(b:Int):(Zh row).setIfInBounds (m*1) (.int .i64 b)=Zh (row.set m b):=by
 unfold Zh
 rw [Jk,Jk,Nat.mul_one,List.setIfInBounds_toArray,List.map_set]
theorem zuI {row:List Int}{m:Nat}(h:m<row.length):Nat.blt (m*1) (Zh row).size=true:=by
 unfold Zh
 rw [Jk,Nat.mul_one]
 simpa [Nat.blt_eq] using h
theorem zlo {I:Qu}{b t k:Nat}{hs:List Hd}{h:Hd}{l:Go.Kn.Loc}(e:hs[k]? =some h):QU I ((b,.cells (VE hs) t (0,0))::l) b (k*1) (.slice h.a h.n h.c):=by
 refine .here ?_
 rw [Y8]
 unfold VE
 rw [X4,Nat.mul_one]
 simp [e]
theorem Cells.imm {I:Qu}{b t:Nat}{vs:List Value}{fz:Nat×Nat}{l:Go.Kn.Loc}(h:I b=some (.cells vs.toArray t fz)):Cells I l b 0 vs:=fun j v hj=>.imm h (by rw [Y8,Nat.zero_add];simpa using hj)
theorem zhQ {xs:List Wr}(h:(WZ xs != 0||xs.length==0)=false):WZ xs=0∧0<xs.length∧xs.length≤24∧∀ x∈xs,x.rs.length≤64:=by
 have h1:WZ xs=0∧¬xs.length=0:=by simpa using h
 obtain ⟨h1,h2⟩:=h1
 unfold WZ at h1
 split at h1
 ·
  cases h1
 ·
  rename_i h3
  split at h1
  ·
   cases h1
  ·
   rename_i h4
   refine ⟨by unfold WZ;rw [if_neg h3,if_neg h4];exact h1,by omega,by omega,fun x hx=>?_⟩
   have h5:xs.any (fun x=>decide (x.rs.length>64))=false:=by simpa using h4
   have:=List.any_eq_false.1 h5 x hx
   simp at this;omega
theorem znW {xs:List Wr}{i:Nat}{q:Int×Int}{pre:List (Int×Int)}(h:pre++[q]<+:alW xs i):0≤q.1∧q.1.toNat<(csW xs 0).length+1∧0≤q.2∧q.2.toNat<(csW xs i).length∧cnt pre q.1.toNat<cnt (alW xs i) q.1.toNat:=by
 obtain ⟨c,r,rfl,h1,h2⟩:=zmY.1 q (h.subset (by simp))
 have h3:=zp4 (a:=((c:Int),(r:Int)).1.toNat) h
 rw [zdK rfl] at h3
 exact ⟨by simp,by simp;omega,by simp,by simpa using h2,h3⟩
theorem ziW {xs:List Wr}(h:∀ x∈xs,x.rs.length≤64)(i:Nat):(alW xs i).length≤128:=by
 have h1:=(zmY (xs:=xs) (i:=i)).2
 have h2:=Wh (i:=0) h
 have h3:=Wh (i:=i) h
 omega
theorem ztv {xs:List Wr}{i k:Nat}{y:Int×Int}(h:(pfW xs i)[k]? =some y):0≤y.1∧y.1≤(csW xs 0).length∧0≤y.2∧y.2≤(csW xs i).length:=by
 obtain ⟨a,b,rfl,h1,h2,_⟩:=XU.1 y (List.mem_of_getElem? h)
 simp;omega
theorem ztB {xs:List Wr}(hb:∀ x∈xs,x.rs.length≤64)(i:Nat):∀ p∈pfW xs i, -1000000≤p.2∧p.2≤1000000:=fun p hp=>by
 obtain ⟨a,b,rfl,h1,h2,_⟩:=XU.1 p hp
 have:=Wh (i:=i) hb
 simp;omega
theorem zmK {xs:List Wr}{k:Nat}(h:k<(csW xs 0).length):VP (wdW xs) k+wdW xs k<loW xs:=by
 have h1:=zbh (w:=wdW xs) (show k<k+1 by omega)
 have h2:=zbh (w:=wdW xs) (show k+1<(csW xs 0).length+1 by omega)
 have h3:VP (wdW xs) (k+1)=VP (wdW xs) k+(wdW xs k+1):=rfl
 unfold loW;omega
theorem zoQ {xs:List Wr}{a i c:Nat}(ha:a<(csW xs 0).length+1)(hi:i<xs.length)(hc:c<cnt (alW xs i) a):VP (wdW xs) a+c<loW xs:=by
 have h1:=zbh (w:=wdW xs) ha
 have h2:cnt (alW xs i) a≤wdW xs a:=znr hi
 unfold loW;omega
theorem zw5 {xs:List Wr}:((VP (wdW xs) ((csW xs 0).length+1):Nat):Int)-1=((loW xs:Nat):Int):=by
 have:=zhx (w:=wdW xs) ((csW xs 0).length+1)
 unfold loW;omega
theorem ziz {w:Nat→Nat}{l:List Int}{f:Nat→Int}{y:Int×Int}(h:(decide (y.1>0)&&decide (y.2>0))=true):prF w l f y=Ur f (VP w (y.1-1).toNat+w (y.1-1).toNat) (l.getD (y.2-1).toNat 0):=by unfold prF;rw [if_pos h]
theorem znw {w:Nat→Nat}{l:List Int}{f:Nat→Int}{y:Int×Int}(h:(decide (y.1>0)&&decide (y.2>0))=false):prF w l f y=f:=by unfold prF;rw [if_neg (by rw [h];decide)]
theorem zkS {f g:Nat→Nat}{a:Nat}:zp2 (YA f a) (YA g a)=((max (f a) (g a):Nat):Int):=zlO
theorem zaM {f:Nat→Nat}{a B:Nat}(h:f a≤B):0≤YA f a∧YA f a≤(B:Int):=by unfold YA;omega
theorem ze9 {n:Nat}:((n:Int)==0)=(n==0):=by rw [Bool.eq_iff_iff];simp
end
section
open Go Go.Kn Go.Proofs
theorem ztw:Fun Tryz.prog 58:=.of Tryz.func58 (by kernel_rfl) (by kernel_rfl)
theorem Vi:Fun Tryz.prog 59:=.of Tryz.func59 (by kernel_rfl) (by kernel_rfl)
theorem zrX:Fun Tryz.prog 60:=.of Tryz.func60 (by kernel_rfl) (by kernel_rfl)
theorem znk:Fun Tryz.prog 61:=.of Tryz.func61 (by kernel_rfl) (by kernel_rfl)
theorem zre:MkT Tryz.prog 133 41 24 (.slice none 0 0):=⟨by kernel_rfl,by kernel_rfl,rfl⟩
theorem zbI:SlT Tryz.prog 133 41 1:=.of (by kernel_rfl)
theorem zuQ:SzT Tryz.prog 41 1:=.of (by kernel_rfl)
set_option maxHeartbeats 40000000 in
theorem zhy {I:Qu} {av:Option Addr} {n c:Nat} {xs:List Wr} (hW0:SlW I av n c xs) (hn:n≤100000):Yg Tryz.prog 27 [.slice av n c] I [] (zaH (zae xs) (Uz xs)):=by
 intro g H w hw
 refine zdX Tryz.func27 rfl Tryz.ntmps27 rfl hw ?_
 have hIc:=zye I
 obtain ⟨ws,hW⟩:=id hW0
 have hH:=hW.1
 have hlW:=hW.len
 subst hlW
 refine zR (zA ?_)
 refine zA (zN (Ql (zR ?_)))
 refine zM ?_
 refine qc (vs:=[_]) rfl ztw (zvf hW0 hn) ?_
 refine zA ?_
 refine zN (zR ?_)
 refine zM ?_
 refine zC ?_
 refine zM ?_
 refine QX 2 rfl rfl rfl ?_
 refine zJ (Qi rfl) ?_
 refine zJ (ZH rfl Vf) ?_
 refine zJ (QH rfl rfl rfl) ?_
 refine ZA rfl rfl rfl rfl rfl ?_
 refine zN ?_
 refine zI ?_ ?_<;>intro hc33
 ·
  rw [ze9] at hc33
  refine zR (zM ?_)
  refine zA ?_
  refine zA (zN (Qt (Qc ?_)))
  first
  | exact KY (L:=[]) (fun a ha w hw=>zvB rfl rfl rfl a ha w) (fun w hw=>⟨_,I,[],rfl,hIc,hw.drop,by rw [(zrs hc33).1];exact zaH.empty (zrs hc33).2⟩)
 rw [ze9] at hc33
 obtain ⟨hck,hx1,hx24,hrs⟩:=zhQ hc33
 obtain ⟨w0,x0,hx0,hv0,e01,e02,hR0⟩:=hW.at (k:=0) (by omega)
 have hcs0:x0.rs.map Ko=csW xs 0:=(zeB hv0).symm
 have hM64:=Wh (i:=0) hrs
 have hR0l:=hR0.len
 have hx0b:=hrs x0 (List.mem_of_getElem? hv0)
 refine Qo (Qa (zR (zM ?_)))
 refine zV (zX Vf hH) ?_
 refine zV (Qp rfl zax (fun hg=>by exact zyf hH hx0) rfl) ?_
 refine Qz (cap:=[]) (vs:=[_]) rfl rfl Vi .nil (Yq hR0 (by omega) _ _) rfl rfl ?_
 rintro vv1 I1 L1 hI1 ⟨rfl,av4,c4,rfl,hT⟩
 have hW:=hW.mono hI1;have hH:=hH.mono hI1;have hIc:=hIc.trans hI1
 rw [hcs0] at hT ⊢
 refine zA ?_
 refine zN (zR ?_)
 refine zM ?_
 refine zQ Vf ?_
 refine Q3 zre rfl rfl (by omega) (by decide) rfl rfl (fun b_41=>?_)
 refine zA (Qb ?_)
 rw [show ((xs.length:Nat):Int).toNat=xs.length from rfl,zgi]
 refine Qa (zR (zM ?_))
 refine zQ Qy ?_
 refine zB ?_
 refine Q3 YI rfl rfl (by omega) (by decide) rfl rfl (fun b_45=>?_)
 refine Qr Yt rfl rfl (fun b_6=>?_)
 refine zS Zj ?_
 refine Qb ?_
 have e1:(((csW xs 0).length:Nat):Int)+1=(((csW xs 0).length+1:Nat):Int):=rfl
 rw [e1,show (((csW xs 0).length+1:Nat):Int).toNat=(csW xs 0).length+1 from rfl,Q2,Ze,UT]
 refine Zf (b:=b_6) (by repeat (first | exact Q7.here | apply Q7.there)) (fun I2 hI2 hb2=>?_)
 have hW:=hW.mono hI2;have hH:=hH.mono hI2;have hT:=hT.mono hI2;have hIc:=hIc.trans hI2
 have hC6:QU I2 [] b_6 0 (.slice (some ⟨b_45,0,none⟩) ((csW xs 0).length+1) ((csW xs 0).length+1)):=.imm hb2 rfl
 refine Qa (Ql (Ql ?_))
 have hw1:=zrD (al:=alW xs) zkp
 refine JA (loc':=(b_45,.cells (Zh (Ve ((csW xs 0).length+1) (YA (wdF (alW xs) 1)))) 3 (0,0))::(b_41,.cells (VE (List.replicate xs.length ⟨none,0,0⟩)) 41 (0,0))::MB []) (by rw [hw1];rfl) ?_
 refine Qg (zA (zN (Qm ?_)))
 refine Uc [(0,_),(2,_),(4,_),(5,_),(6,_)] (.cons rfl (.cons rfl (.cons rfl (.cons rfl (.cons rfl .nil))))) (fun T L0 mz ms E I' loc'=>∃ (i:Nat) (hs:List Hd),mz=xs.length-i∧E=(7,.int .i64 i)::T∧HLe I2 I'∧(b_45,.cells (Zh (Ve ((csW xs 0).length+1) (YA (wdF (alW xs) i)))) 3 (0,0))::(b_41,.cells (VE hs) 41 (0,0))::MB ms=loc'∧i≤xs.length∧1≤i∧hs.length=xs.length∧PrQ I' xs hs i) _ _ _ _ ⟨1,_,rfl,rfl,zye _,rfl,hx1,Nat.le_refl _,by rw [List.length_replicate],PrQ.start hx1⟩ (.cons rfl (.cons rfl (.cons rfl (.cons rfl (.cons rfl (.cons rfl .nil)))))) (zye _) rfl ?_
 rintro mz ms E J3 loc' ⟨i,hs,rfl,rfl,hJ,rfl,hi,hi1,hhl,hPr⟩
 have hW:=hW.mono hJ;have hH:=hH.mono hJ;have hT:=hT.mono hJ;have hC6:=hC6.mono hJ;have hIc:=hIc.trans hJ
 have hB0:=hJ
 refine Ql (zR (zM ?_))
 refine zM ?_
 refine zQ Vf ?_
 refine zC (zN ?_)
 refine zI ?_ ?_<;>intro hc49
 ·
  have hlt_i:i<xs.length:=by have h:=hc49;simp at h;omega
  obtain ⟨w,x,hx,hv,e1,e2,hR⟩:=hW.at hlt_i
  have hcsi:x.rs.map Ko=csW xs i:=(zeB hv).symm
  have hMi:=Wh (i:=i) hrs
  have hRl:=hR.len
  have hxb:=hrs x (List.mem_of_getElem? hv)
  refine Qo (Qa (Ql (Qm (zR (zM ?_)))))
  refine zM ?_
  refine zM ?_
  refine zM ?_
  refine zM ?_
  refine zV (zX Vf hH) ?_
  refine zV (Qp rfl zax (fun hg=>by exact zyf hH hx) rfl) ?_
  refine Qz (cap:=[]) (vs:=[_]) rfl rfl Vi .nil (Yq hR (by omega) _ _) rfl rfl ?_
  rintro vv4 I4 L4 hI4 ⟨rfl,av7,c7,rfl,hT7⟩
  have hT:=hT.mono hI4;have hC6:=hC6.mono hI4;have hPr:=hPr.mono hI4;have hB0:=hB0.trans hI4
  rw [hcsi] at hT7 ⊢
  refine Qz (cap:=[]) (vs:=[_,_]) rfl rfl zrX .nil (zsi hT hT7 (by omega) (by omega)) rfl rfl ?_
  rintro vv5 I5 L5 hI5 ⟨rfl,z8,av8,c8,rfl,hP8⟩
  have hC6:=hC6.mono hI5;have hPr:=hPr.mono hI5;have hB0:=hB0.trans hI5
  refine zM ?_
  refine zE ?_
  refine zE ?_
  refine zE ?_
  refine zV (Q6 rfl rfl zbI (fun hg=>by omega)) ?_
  refine ZI rfl rfl zuQ rfl rfl (by repeat (first | exact Upd.here | apply Upd.there | apply QJ)) (zx4 (by omega)) ?_
  refine Qb ?_
  rw [show (#[Value.int .i64 z8,Value.slice av8 (V1 (csW xs 0) (csW xs i)).length c8,Value.int .i64 (XF (csW xs 0) (csW xs i))]:Array Value)[1]=Value.slice av8 (V1 (csW xs 0) (csW xs i)).length c8 from rfl,zgp]
  have hPr2:=hPr.put (by omega) (by omega) hP8
  have hs2_at:(hs.set i ⟨av8,(V1 (csW xs 0) (csW xs i)).length,c8⟩)[i]? =some ⟨av8,(V1 (csW xs 0) (csW xs i)).length,c8⟩:=List.getElem?_set_self (by omega)
  have hpfe:pfW xs i=V1 (csW xs 0) (csW xs i):=by unfold pfW;rw [if_neg (by omega)]
  have hPi:Sl I5 2 VO av8 (V1 (csW xs 0) (csW xs i)).length c8 (pfW xs i):=by rw [hpfe];exact hP8
  have hpl:=(XU (xs:=xs) (i:=i)).2
  have hpr:=(zcB (a:=(csW xs 0)) (b:=(csW xs i))).2
  refine Qa (zR (zM ?_))
  refine zQ Qy ?_
  refine zB ?_
  refine Q3 YI rfl rfl (by omega) (by decide) rfl rfl (fun b_69=>?_)
  refine Qr Yt rfl rfl (fun b_8=>?_)
  refine zS Zj ?_
  refine Qb ?_
  have e1:(((csW xs 0).length:Nat):Int)+1=(((csW xs 0).length+1:Nat):Int):=rfl
  rw [e1,show (((csW xs 0).length+1:Nat):Int).toNat=(csW xs 0).length+1 from rfl,Q2,Ze,UT]
  refine Zf (b:=b_8) (by repeat (first | exact Q7.here | apply Q7.there)) (fun I6 hI6 hb6=>?_)
  have hC6:=hC6.mono hI6;have hPr2:=hPr2.mono hI6;have hPi:=hPi.mono hI6;have hB0:=hB0.trans hI6
  have hC8:QU I6 [] b_8 0 (.slice (some ⟨b_69,0,none⟩) ((csW xs 0).length+1) ((csW xs 0).length+1)):=.imm hb6 rfl
  refine Qa (zR (zM ?_))
  refine zM ?_
  refine zV (Q6 rfl rfl zbI (fun hg=>by omega)) ?_
  refine zV (Qd rfl ze8 (fun hg=>by exact zx8 (zx8 (zlo hs2_at)))) ?_
  refine Qz (cap:=[]) (vs:=[_]) rfl rfl znk .nil (zho _ _ _ _) rfl rfl ?_
  rintro vv7 I7 L7 hI7 ⟨rfl,b1,rfl,hb1⟩
  have hC6:=hC6.mono hI7;have hPr2:=hPr2.mono hI7;have hPi:=hPi.mono hI7;have hC8:=hC8.mono hI7;have hB0:=hB0.trans hI7
  refine zN (Qm ?_)
  refine JA (loc':=[]++(((b_69,.cells (Zh (Ve ((csW xs 0).length+1) (YA (cnt [])))) 3 (0,0))::(b_45,.cells (Zh (Ve ((csW xs 0).length+1) (YA (wmx (wdF (alW xs) i) [])))) 3 (0,0))::(b_41,.cells (VE (hs.set i ⟨av8,(V1 (csW xs 0) (csW xs i)).length,c8⟩)) 41 (0,0))::[])++MB ms)) (by rw [ziw];rfl) ?_
  refine UM (K:=[]) (L:=(b_69,.cells (Zh (Ve ((csW xs 0).length+1) (YA (cnt [])))) 3 (0,0))::(b_45,.cells (Zh (Ve ((csW xs 0).length+1) (YA (wmx (wdF (alW xs) i) [])))) 3 (0,0))::(b_41,.cells (VE (hs.set i ⟨av8,(V1 (csW xs 0) (csW xs i)).length,c8⟩)) 41 (0,0))::[]) (en1:=zwD) (en2:=zwh) (xs:=alW xs i) (fun pre I' loc'=>loc'=(b_69,.cells (Zh (Ve ((csW xs 0).length+1) (YA (cnt pre)))) 3 (0,0))::(b_45,.cells (Zh (Ve ((csW xs 0).length+1) (YA (wmx (wdF (alW xs) i) pre)))) 3 (0,0))::(b_41,.cells (VE (hs.set i ⟨av8,(V1 (csW xs 0) (csW xs i)).length,c8⟩)) 41 (0,0))::[]) (fun _ _ _ _=>False) (fun pre x E2 I2 loc2=>E2=[(6,Zb b_6),(8,Zb b_8),(9,.int .i64 x.1)]∧loc2=(b_69,.cells (Zh (Ve ((csW xs 0).length+1) (YA (cnt pre)))) 3 (0,0))::(b_45,.cells (Zh (Ve ((csW xs 0).length+1) (YA (wmx (wdF (alW xs) i) pre)))) 3 (0,0))::(b_41,.cells (VE (hs.set i ⟨av8,(V1 (csW xs 0) (csW xs i)).length,c8⟩)) 41 (0,0))::[]) rfl zh2 (zjy hPi (by omega) (ztB hrs i) hb1) rfl rfl rfl ?_ ?_ ?_ ?_
  ·
   rintro l9 pre x I1 loc1 H1 hpre hI1 rfl
   refine Qg (zA (Qb ?_))
   exact zbm _ ⟨zye _,rfl,rfl⟩ (.cons rfl (.cons rfl (.cons rfl .nil)))
  ·
   rintro l9 pre x E2 I2 loc2 H2 hpre hI2 ⟨rfl,rfl⟩
   have hC6:=hC6.mono hI2;have hC8:=hC8.mono hI2
   obtain ⟨x1,x2,x3,x4,x5⟩:=znW hpre
   have hcb:=Nat.le_trans (@zdy (alW xs i) x.1.toNat) (ziW hrs i)
   have hnc:=zaM (f:=cnt pre) (a:=x.1.toNat) (B:=128) (by omega)
   refine Qm (zR ?_)
   refine zV (Qd rfl QK (fun hg=>by exact hC8.any)) ?_
   refine zM ?_
   refine zV (Q6 rfl rfl Qy (fun hg=>by omega)) ?_
   refine zV (Qd rfl Qs (fun hg=>by exact V0 (YD (by omega)))) ?_
   refine zB ?_
   refine zV (Q6 rfl rfl Qy (fun hg=>by omega)) ?_
   refine ZI rfl rfl Yi rfl rfl (by repeat (first | exact Upd.here | apply Upd.there | apply QJ)) (zuI (by rw [Yd];omega)) ?_
   refine Qb ?_
   rw [Ul,Js,show YA (cnt pre) x.1.toNat+1=((cnt pre x.1.toNat+1:Nat):Int) from rfl,Xr,←UD]
   refine Qa ?_
   have hD:=zye I2
   refine Jo ?_
   refine Z7 I2 [(b_69,.cells (Zh (Ve ((csW xs 0).length+1) (YA (cnt (pre++[x]))))) 3 (0,0))] mixed ?_
   refine zT 0 rfl (Qd rfl QK (fun hg=>by exact hC6.any)) hD ?_
   refine zT 1 rfl (Qi rfl) hD ?_
   refine zT 2 rfl (Qd rfl QK (fun hg=>by exact hC6.any)) hD ?_
   refine zT 3 rfl (Qi rfl) hD ?_
   refine zT 4 rfl (Q6 rfl rfl Qy (fun hg=>by omega)) hD ?_
   refine zT 6 rfl (Qd rfl QK (fun hg=>by exact hC8.any)) hD ?_
   refine zT 7 rfl (Qi rfl) hD ?_
   refine zT 8 rfl (Q6 rfl rfl Qy (fun hg=>by omega)) hD ?_
   refine zT 9 rfl (Qd rfl Qs (fun hg=>by exact V0 (YD (by omega)))) hD ?_
   refine qd 5 rfl ?_
   refine zV (Qd rfl Qs (fun hg=>by exact zx8 (V0 (YD (by omega))))) ?_
   refine Qb ?_
   refine zD hD ?_
   refine zT 10 rfl (YS rfl rfl) hD ?_
   refine zT 11 rfl (Q6 rfl rfl Qy (fun hg=>by omega)) hD ?_
   refine qd 12 rfl ?_
   refine ZI rfl rfl Yi rfl rfl (by repeat (first | exact Upd.here | apply Upd.there | apply QJ)) (zuI (by rw [Yd];omega)) ?_
   refine Qb ?_
   refine zD hD ?_
   refine QG (by kernel_rfl) ?_
   refine QQ ?_
   rw [zkS,Ul,Js,Xr,zkV rfl]
   refine Qh ?_
   exact XK ⟨zye _,rfl⟩ .refl
  ·
   rintro bd I1 loc1 hI1 rfl
   have hPr2:=hPr2.mono hI1;have hB0:=hB0.trans hI1
   refine Qh (Qh (Qa (Qg (zM ?_))))
   refine zB ?_
   refine zA (Qb ?_)
   exact zd (h:=⟨xs.length-(i+1),by omega,i+1,_,rfl,rfl,hB0,rfl,by omega,by omega,by rw [List.length_set];exact hhl,hPr2⟩)
  rintro c bd pre I1 loc1 hI1 hpre hF;exact hF.elim
 have hge_i:xs.length≤i:=by have h:=hc49;simp at h;omega
 obtain rfl:i=xs.length:=by omega
 refine QI (Qf (Qf (Qk (Qa (zR (zM ?_))))))
 refine zQ Qy ?_
 refine zB ?_
 refine Q3 YI rfl rfl (by omega) (by decide) rfl rfl (fun b_98=>?_)
 refine Qr Yt rfl rfl (fun b_10=>?_)
 refine zS Zj ?_
 refine Qb ?_
 have e1:(((csW xs 0).length:Nat):Int)+1=(((csW xs 0).length+1:Nat):Int):=rfl
 rw [e1,show (((csW xs 0).length+1:Nat):Int).toNat=(csW xs 0).length+1 from rfl,Q2,Ze,UT,←zl9 (w:=(wdW xs))]
 refine Zf (b:=b_10) (by repeat (first | exact Q7.here | apply Q7.there)) (fun I8 hI8 hb8=>?_)
 have hW:=hW.mono hI8;have hH:=hH.mono hI8;have hT:=hT.mono hI8;have hC6:=hC6.mono hI8;have hPr:=hPr.mono hI8;have hIc:=hIc.trans hI8
 have hC10:QU I8 [] b_10 0 (.slice (some ⟨b_98,0,none⟩) ((csW xs 0).length+1) ((csW xs 0).length+1)):=.imm hb8 rfl
 refine Qa (zR (zA (zN (Ql (zR ?_)))))
 refine zV (Qd rfl QK (fun hg=>by exact hC6.any)) ?_
 refine zQ Qy ?_
 refine zM (zN (Qm ?_))
 refine Uc [(0,_),(2,_),(4,_),(5,_),(6,_),(10,_),(99,_),(100,_)] (.cons rfl (.cons rfl (.cons rfl (.cons rfl (.cons rfl (.cons rfl (.cons rfl (.cons rfl .nil)))))))) (fun T L0 mz ms E I' loc'=>∃ (k:Nat),mz=((csW xs 0).length+1)-k∧E=(11,.int .i64 ((VP (wdW xs) k:Nat):Int))::(101,.int .i64 k)::T∧I8=I'∧(b_98,.cells (Zh (Ve ((csW xs 0).length+1) (YA (atK (wdW xs) k)))) 3 (0,0))::(b_45,.cells (Zh (Ve ((csW xs 0).length+1) (YA (wdW xs)))) 3 (0,0))::(b_41,.cells (VE hs) 41 (0,0))::MB ms=loc'∧k≤((csW xs 0).length+1)) _ _ _ _ ⟨0,rfl,rfl,rfl,rfl,Nat.zero_le _⟩ (.cons rfl (.cons rfl (.cons rfl (.cons rfl (.cons rfl (.cons rfl (.cons rfl (.cons rfl (.cons rfl (.cons rfl .nil)))))))))) (zye _) rfl ?_
 rintro mz ms E I' loc' ⟨k,rfl,rfl,rfl,rfl,hk⟩
 refine zR (zC (zN (Ql ?_)))
 refine zI ?_ ?_<;>intro hc102
 ·
  have hlt_k:k<((csW xs 0).length+1):=by have h:=hc102;simp at h;omega
  have hns:=zaM (f:=VP (wdW xs)) (a:=k) (B:=20000) (Nat.le_trans (zdq (zev (ziW hrs) _) k) (Nat.le_trans (Nat.mul_le_mul_right 129 (show k≤65 by omega)) (by decide)))
  have hnw:=zaM (f:=(wdW xs)) (a:=k) (B:=128) (zev (ziW hrs) _ _)
  have e9:YA (VP (wdW xs)) k=((VP (wdW xs) k:Nat):Int):=rfl
  refine Qo (Qa (Ql (Qm (zR (zM ?_)))))
  refine zV (Q6 rfl rfl Qy (fun hg=>by omega)) ?_
  refine zV (Qd rfl Qs (fun hg=>by exact zx8 (V0 (k:=k) (YD (show k<_ by omega))))) ?_
  refine zA ?_
  refine zA ?_
  refine zN (zR ?_)
  refine zV (Qd rfl QK (fun hg=>by exact hC10.any)) ?_
  refine zM ?_
  refine zM ?_
  refine zV (Q6 rfl rfl Qy (fun hg=>by omega)) ?_
  refine ZI rfl rfl Yi rfl rfl (by repeat (first | exact Upd.here | apply Upd.there | apply QJ)) (zuI (by rw [Yd];omega)) ?_
  refine Qb ?_
  rw [Vm,Js,Xr,zk8]
  refine Qa (Qg (zM ?_))
  refine zM ?_
  refine zB ?_
  refine zB ?_
  refine zA (Qb (Qh (Qa (Qg ?_))))
  refine zB ?_
  refine zM (Qb ?_)
  exact zd (h:=⟨((csW xs 0).length+1)-(k+1),by omega,k+1,rfl,rfl,rfl,rfl,by omega⟩)
 have hge_k:((csW xs 0).length+1)≤k:=by have h:=hc102;simp at h;omega
 obtain rfl:k=(csW xs 0).length+1:=by omega
 have hsE:=Nat.le_trans (zdq (w:=wdW xs) (zev (ziW hrs) _) ((csW xs 0).length+1)) (Nat.mul_le_mul_right 129 (show (csW xs 0).length+1≤65 by omega))
 refine QI (Qf (Qf (Qk (Qa (Ql (zR (zM ?_)))))))
 refine zB ?_
 refine zA (Qb ?_)
 rw [zw5]
 refine Qa (zR (zM ?_))
 refine zC (zN ?_)
 refine zI ?_ ?_<;>intro hc118
 ·
  have hbig:loW xs>256:=by have h:=hc118;simp at h;omega
  obtain ⟨t1,t2⟩:=zxw hc33 hbig
  refine zR (zA ?_)
  refine zA (zN (Qt (Qc ?_)))
  first
  | exact KY (L:=_::_::_::[]) (fun a ha w hw=>zvB rfl rfl rfl a ha w) (fun w hw=>⟨_,I8,[],rfl,hIc,hw.drop,by rw [t1];exact zaH.empty t2⟩)
 have hbig:¬loW xs>256:=by have h:=hc118;simp at h;omega
 obtain ⟨t1,t2⟩:=zxi hc33 hbig
 refine JA (by rw [zrp]) ?_
 refine zc9 (L:=(b_98,.cells (Zh (Ve ((csW xs 0).length+1) (YA (VP (wdW xs))))) 3 (0,0))::(b_45,.cells (Zh (Ve ((csW xs 0).length+1) (YA (wdW xs)))) 3 (0,0))::(b_41,.cells (VE hs) 41 (0,0))::[]) (R:=MB ms) (.cons .here (.cons .here (.cons .here .nil))) (fun I10 hI10 hall=>?_)
 have hW:=hW.mono hI10;have hH:=hH.mono hI10;have hT:=hT.mono hI10;have hC6:=hC6.mono hI10;have hPr:=hPr.mono hI10;have hC10:=hC10.mono hI10;have hIc:=hIc.trans hI10
 have hAt:Sl I10 1 QR (some ⟨b_98,0,none⟩) ((csW xs 0).length+1) ((csW xs 0).length+1) (Ve ((csW xs 0).length+1) (YA (VP (wdW xs)))):=Sl.lit _ Yd Qv (hall _ _ (by repeat (first | exact List.mem_cons_self .. | apply List.mem_cons_of_mem)))
 have hWd:Sl I10 1 QR (some ⟨b_45,0,none⟩) ((csW xs 0).length+1) ((csW xs 0).length+1) (Ve ((csW xs 0).length+1) (YA (wdW xs))):=Sl.lit _ Yd Qv (hall _ _ (by repeat (first | exact List.mem_cons_self .. | apply List.mem_cons_of_mem)))
 have hPs:Sl I10 1 W2 (some ⟨b_41,0,none⟩) xs.length xs.length hs:=Sl.lit _ hhl Za (hall _ _ (by repeat (first | exact List.mem_cons_self .. | apply List.mem_cons_of_mem)))
 refine JA (loc':=[]++MB ms) rfl ?_
 refine Qo (Qa (Ql (zR (zM ?_))))
 refine zQ Vf ?_
 refine zM (zN (Qm ?_))
 refine Uc [(4,_),(5,_),(6,_),(10,_),(11,_),(119,_),(120,_)] (.cons rfl (.cons rfl (.cons rfl (.cons rfl (.cons rfl (.cons rfl (.cons rfl .nil))))))) (fun T L0 mz ms E I' loc'=>∃ (i:Nat) (v2:Value) (os:List Hd) (L:Go.Kn.Loc),mz=xs.length-i∧E=(2,v2)::(121,.int .i64 i)::T∧HLe I10 I'∧L++MB ms=loc'∧i≤xs.length∧OwnS 23 1 v2 i (os.flatMap W2) L∧zb8 I' os ((List.range i).map (zqw xs))) _ _ _ _ ⟨0,_,[],[],rfl,rfl,zye _,rfl,Nat.zero_le _,OwnS.nil,zb8.nil⟩ (.cons rfl (.cons rfl (.cons rfl (.cons rfl (.cons rfl (.cons rfl (.cons rfl (.cons rfl (.cons rfl .nil))))))))) (zye _) rfl ?_
 rintro mz ms E J11 loc' ⟨i,v2,os,L,rfl,rfl,hJ,rfl,hi,hO,hre⟩
 have hW:=hW.mono hJ;have hH:=hH.mono hJ;have hT:=hT.mono hJ;have hC6:=hC6.mono hJ;have hPr:=hPr.mono hJ;have hC10:=hC10.mono hJ;have hAt:=hAt.mono hJ;have hWd:=hWd.mono hJ;have hPs:=hPs.mono hJ;have hIc:=hIc.trans hJ
 have hB6:=hJ
 obtain ⟨va2,vc2,rfl⟩:=zdd hO
 refine zR (zC (zN (Ql ?_)))
 refine zI ?_ ?_<;>intro hc122
 ·
  have hlt_i:i<xs.length:=by have h:=hc122;simp at h;omega
  obtain ⟨w,x,hx,hv,e1,e2,hR⟩:=hW.at hlt_i
  have hcsi:x.rs.map Ko=csW xs i:=(zeB hv).symm
  have hMi:=Wh (i:=i) hrs
  have hRl:=hR.len
  have hxb:=hrs x (List.mem_of_getElem? hv)
  obtain ⟨hp,hhp,hhn,hPf⟩:=hPr i hlt_i
  have hpl:=(XU (xs:=xs) (i:=i)).2
  refine Qo (Qa (Ql (Qm (zR (zM ?_)))))
  refine zV (zX Vf hH) ?_
  refine zV (Qp rfl zax (fun hg=>by exact zyf hH hx) rfl) ?_
  refine Qr zrA rfl rfl (fun b_15=>?_)
  refine zA ?_
  refine zh zhq ?_
  refine zN ?_
  refine znq [(2,_),(4,_),(5,_),(6,_),(10,_),(11,_),(14,_),(119,_),(120,_),(121,_)] (.cons rfl (.cons rfl (.cons rfl (.cons rfl (.cons rfl (.cons rfl (.cons rfl (.cons rfl (.cons rfl (.cons rfl .nil)))))))))) (fun T L0 ms E I' loc'=>∃ (b16 b17 b127:Nat) (av17:Option Addr) (c17:Nat),E=(16,Zb b16)::(17,Zb b17)::T∧HLe J11 I'∧(b127,.cells (Zh (Ve (loW xs) (fun _=>0))) 3 (0,0))::(L++MB ms)=loc'∧QU I' [] b16 0 (.slice (some ⟨b127,0,none⟩) (loW xs) (loW xs))∧QU I' [] b17 0 (.slice av17 (csW xs i).length c17)∧Sl I' 1 QR av17 (csW xs i).length c17 (csW xs i)) ?_ ?_
  ·
   have hKc30:=zye J11
   have hD:=zye J11
   refine Jo ?_
   refine Z7 J11 [(b_15,.cells (zki w).toArray 65 (0,0))] mixed ?_
   refine zT 0 rfl (Qi rfl) hD ?_
   refine zT 2 rfl (Qp rfl zax (fun hg=>by exact Cells.g0) rfl) hD ?_
   refine zrn 1 3 4 5 rfl rfl rfl rfl (by kernel_rfl) ?_ ?_ ?_ ?_
   ·
    refine Q3 YI rfl rfl (by omega) (by decide) rfl rfl (fun b_127=>?_)
    refine Qb ?_
    refine zD hD ?_
    refine KP 3 4 5 rfl rfl rfl (by kernel_rfl) ?_ ?_ ?_
    ·
     refine Qz (cap:=[]) (vs:=[_]) rfl rfl Vi .nil (Yq hR (by omega) _ _) rfl rfl ?_
     rintro vv12 I12 L12 hI12 ⟨rfl,av30,c30,rfl,hL30⟩
     have hKc30:=hKc30.trans hI12;have hD:=hD.trans hI12
     rw [hcsi] at hL30 ⊢
     refine Qb ?_
     refine zD hD ?_
     refine Zr 4 5 rfl rfl (by kernel_rfl) ?_ ?_
     ·
      refine Qr Yt rfl rfl (fun b_16=>?_)
      refine Qb ?_
      refine zD hD ?_
      refine qd 5 rfl ?_
      refine Qr Yt rfl rfl (fun b_17=>?_)
      refine Qb ?_
      refine zD hD ?_
      refine qd 6 rfl ?_
      refine zS Zj ?_
      refine Qb ?_
      refine zD hD ?_
      refine qd 7 rfl ?_
      refine zS Zj ?_
      refine Qb ?_
      refine zD hD ?_
      refine QG (by kernel_rfl) ?_
      refine QQ ?_
      rw [show ((loW xs:Nat):Int).toNat=loW xs from rfl,Q2,Ze]
      refine QL (b:=b_16) (by repeat (first | exact Q7.here | apply Q7.there)) (fun I16 h16 e16=>?_)
      refine QL (b:=b_17) (by repeat (first | exact Q7.here | apply Q7.there)) (fun I17 h17 e17=>?_)
      exact zn (h:=⟨b_16,b_17,b_127,_,_,rfl,(hKc30.trans h16).trans h17,rfl,.imm (h17 _ _ e16) rfl,.imm e17 rfl,(hL30.mono h16).mono h17⟩)
     refine Qr Yt rfl rfl (fun b_17=>?_)
     refine Qb ?_
     refine zD hD ?_
     refine qd 4 rfl ?_
     refine Qr Yt rfl rfl (fun b_16=>?_)
     refine Qb ?_
     refine zD hD ?_
     refine qd 6 rfl ?_
     refine zS Zj ?_
     refine Qb ?_
     refine zD hD ?_
     refine qd 7 rfl ?_
     refine zS Zj ?_
     refine Qb ?_
     refine zD hD ?_
     refine QG (by kernel_rfl) ?_
     refine QQ ?_
     rw [show ((loW xs:Nat):Int).toNat=loW xs from rfl,Q2,Ze]
     refine QL (b:=b_16) (by repeat (first | exact Q7.here | apply Q7.there)) (fun I16 h16 e16=>?_)
     refine QL (b:=b_17) (by repeat (first | exact Q7.here | apply Q7.there)) (fun I17 h17 e17=>?_)
     exact zn (h:=⟨b_16,b_17,b_127,_,_,rfl,(hKc30.trans h16).trans h17,rfl,.imm (h17 _ _ e16) rfl,.imm e17 rfl,(hL30.mono h16).mono h17⟩)
    ·
     refine Qr Yt rfl rfl (fun b_16=>?_)
     refine Qb ?_
     refine zD hD ?_
     refine Zr 3 5 rfl rfl (by kernel_rfl) ?_ ?_
     ·
      refine Qz (cap:=[]) (vs:=[_]) rfl rfl Vi .nil (Yq hR (by omega) _ _) rfl rfl ?_
      rintro vv13 I13 L13 hI13 ⟨rfl,av30,c30,rfl,hL30⟩
      have hKc30:=hKc30.trans hI13;have hD:=hD.trans hI13
      rw [hcsi] at hL30 ⊢
      refine Qb ?_
      refine zD hD ?_
      refine qd 5 rfl ?_
      refine Qr Yt rfl rfl (fun b_17=>?_)
      refine Qb ?_
      refine zD hD ?_
      refine qd 6 rfl ?_
      refine zS Zj ?_
      refine Qb ?_
      refine zD hD ?_
      refine qd 7 rfl ?_
      refine zS Zj ?_
      refine Qb ?_
      refine zD hD ?_
      refine QG (by kernel_rfl) ?_
      refine QQ ?_
      rw [show ((loW xs:Nat):Int).toNat=loW xs from rfl,Q2,Ze]
      refine QL (b:=b_16) (by repeat (first | exact Q7.here | apply Q7.there)) (fun I16 h16 e16=>?_)
      refine QL (b:=b_17) (by repeat (first | exact Q7.here | apply Q7.there)) (fun I17 h17 e17=>?_)
      exact zn (h:=⟨b_16,b_17,b_127,_,_,rfl,(hKc30.trans h16).trans h17,rfl,.imm (h17 _ _ e16) rfl,.imm e17 rfl,(hL30.mono h16).mono h17⟩)
     refine Qr Yt rfl rfl (fun b_17=>?_)
     refine Qb ?_
     refine zD hD ?_
     refine qd 3 rfl ?_
     refine Qz (cap:=[]) (vs:=[_]) rfl rfl Vi .nil (Yq hR (by omega) _ _) rfl rfl ?_
     rintro vv14 I14 L14 hI14 ⟨rfl,av30,c30,rfl,hL30⟩
     have hKc30:=hKc30.trans hI14;have hD:=hD.trans hI14
     rw [hcsi] at hL30 ⊢
     refine Qb ?_
     refine zD hD ?_
     refine qd 6 rfl ?_
     refine zS Zj ?_
     refine Qb ?_
     refine zD hD ?_
     refine qd 7 rfl ?_
     refine zS Zj ?_
     refine Qb ?_
     refine zD hD ?_
     refine QG (by kernel_rfl) ?_
     refine QQ ?_
     rw [show ((loW xs:Nat):Int).toNat=loW xs from rfl,Q2,Ze]
     refine QL (b:=b_16) (by repeat (first | exact Q7.here | apply Q7.there)) (fun I16 h16 e16=>?_)
     refine QL (b:=b_17) (by repeat (first | exact Q7.here | apply Q7.there)) (fun I17 h17 e17=>?_)
     exact zn (h:=⟨b_16,b_17,b_127,_,_,rfl,(hKc30.trans h16).trans h17,rfl,.imm (h17 _ _ e16) rfl,.imm e17 rfl,(hL30.mono h16).mono h17⟩)
    refine Qr Yt rfl rfl (fun b_17=>?_)
    refine Qb ?_
    refine zD hD ?_
    refine Zr 3 4 rfl rfl (by kernel_rfl) ?_ ?_
    ·
     refine Qz (cap:=[]) (vs:=[_]) rfl rfl Vi .nil (Yq hR (by omega) _ _) rfl rfl ?_
     rintro vv15 I15 L15 hI15 ⟨rfl,av30,c30,rfl,hL30⟩
     have hKc30:=hKc30.trans hI15;have hD:=hD.trans hI15
     rw [hcsi] at hL30 ⊢
     refine Qb ?_
     refine zD hD ?_
     refine qd 4 rfl ?_
     refine Qr Yt rfl rfl (fun b_16=>?_)
     refine Qb ?_
     refine zD hD ?_
     refine qd 6 rfl ?_
     refine zS Zj ?_
     refine Qb ?_
     refine zD hD ?_
     refine qd 7 rfl ?_
     refine zS Zj ?_
     refine Qb ?_
     refine zD hD ?_
     refine QG (by kernel_rfl) ?_
     refine QQ ?_
     rw [show ((loW xs:Nat):Int).toNat=loW xs from rfl,Q2,Ze]
     refine QL (b:=b_16) (by repeat (first | exact Q7.here | apply Q7.there)) (fun I16 h16 e16=>?_)
     refine QL (b:=b_17) (by repeat (first | exact Q7.here | apply Q7.there)) (fun I17 h17 e17=>?_)
     exact zn (h:=⟨b_16,b_17,b_127,_,_,rfl,(hKc30.trans h16).trans h17,rfl,.imm (h17 _ _ e16) rfl,.imm e17 rfl,(hL30.mono h16).mono h17⟩)
    refine Qr Yt rfl rfl (fun b_16=>?_)
    refine Qb ?_
    refine zD hD ?_
    refine qd 3 rfl ?_
    refine Qz (cap:=[]) (vs:=[_]) rfl rfl Vi .nil (Yq hR (by omega) _ _) rfl rfl ?_
    rintro vv16 I16 L16 hI16 ⟨rfl,av30,c30,rfl,hL30⟩
    have hKc30:=hKc30.trans hI16;have hD:=hD.trans hI16
    rw [hcsi] at hL30 ⊢
    refine Qb ?_
    refine zD hD ?_
    refine qd 6 rfl ?_
    refine zS Zj ?_
    refine Qb ?_
    refine zD hD ?_
    refine qd 7 rfl ?_
    refine zS Zj ?_
    refine Qb ?_
    refine zD hD ?_
    refine QG (by kernel_rfl) ?_
    refine QQ ?_
    rw [show ((loW xs:Nat):Int).toNat=loW xs from rfl,Q2,Ze]
    refine QL (b:=b_16) (by repeat (first | exact Q7.here | apply Q7.there)) (fun I16 h16 e16=>?_)
    refine QL (b:=b_17) (by repeat (first | exact Q7.here | apply Q7.there)) (fun I17 h17 e17=>?_)
    exact zn (h:=⟨b_16,b_17,b_127,_,_,rfl,(hKc30.trans h16).trans h17,rfl,.imm (h17 _ _ e16) rfl,.imm e17 rfl,(hL30.mono h16).mono h17⟩)
   ·
    refine Qz (cap:=[]) (vs:=[_]) rfl rfl Vi .nil (Yq hR (by omega) _ _) rfl rfl ?_
    rintro vv17 I17 L17 hI17 ⟨rfl,av30,c30,rfl,hL30⟩
    have hKc30:=hKc30.trans hI17;have hD:=hD.trans hI17
    rw [hcsi] at hL30 ⊢
    refine Qb ?_
    refine zD hD ?_
    refine KP 1 4 5 rfl rfl rfl (by kernel_rfl) ?_ ?_ ?_
    ·
     refine Q3 YI rfl rfl (by omega) (by decide) rfl rfl (fun b_127=>?_)
     refine Qb ?_
     refine zD hD ?_
     refine Zr 4 5 rfl rfl (by kernel_rfl) ?_ ?_
     ·
      refine Qr Yt rfl rfl (fun b_16=>?_)
      refine Qb ?_
      refine zD hD ?_
      refine qd 5 rfl ?_
      refine Qr Yt rfl rfl (fun b_17=>?_)
      refine Qb ?_
      refine zD hD ?_
      refine qd 6 rfl ?_
      refine zS Zj ?_
      refine Qb ?_
      refine zD hD ?_
      refine qd 7 rfl ?_
      refine zS Zj ?_
      refine Qb ?_
      refine zD hD ?_
      refine QG (by kernel_rfl) ?_
      refine QQ ?_
      rw [show ((loW xs:Nat):Int).toNat=loW xs from rfl,Q2,Ze]
      refine QL (b:=b_16) (by repeat (first | exact Q7.here | apply Q7.there)) (fun I16 h16 e16=>?_)
      refine QL (b:=b_17) (by repeat (first | exact Q7.here | apply Q7.there)) (fun I17 h17 e17=>?_)
      exact zn (h:=⟨b_16,b_17,b_127,_,_,rfl,(hKc30.trans h16).trans h17,rfl,.imm (h17 _ _ e16) rfl,.imm e17 rfl,(hL30.mono h16).mono h17⟩)
     refine Qr Yt rfl rfl (fun b_17=>?_)
     refine Qb ?_
     refine zD hD ?_
     refine qd 4 rfl ?_
     refine Qr Yt rfl rfl (fun b_16=>?_)
     refine Qb ?_
     refine zD hD ?_
     refine qd 6 rfl ?_
     refine zS Zj ?_
     refine Qb ?_
     refine zD hD ?_
     refine qd 7 rfl ?_
     refine zS Zj ?_
     refine Qb ?_
     refine zD hD ?_
     refine QG (by kernel_rfl) ?_
     refine QQ ?_
     rw [show ((loW xs:Nat):Int).toNat=loW xs from rfl,Q2,Ze]
     refine QL (b:=b_16) (by repeat (first | exact Q7.here | apply Q7.there)) (fun I16 h16 e16=>?_)
     refine QL (b:=b_17) (by repeat (first | exact Q7.here | apply Q7.there)) (fun I17 h17 e17=>?_)
     exact zn (h:=⟨b_16,b_17,b_127,_,_,rfl,(hKc30.trans h16).trans h17,rfl,.imm (h17 _ _ e16) rfl,.imm e17 rfl,(hL30.mono h16).mono h17⟩)
    ·
     refine Qr Yt rfl rfl (fun b_16=>?_)
     refine Qb ?_
     refine zD hD ?_
     refine Zr 1 5 rfl rfl (by kernel_rfl) ?_ ?_
     ·
      refine Q3 YI rfl rfl (by omega) (by decide) rfl rfl (fun b_127=>?_)
      refine Qb ?_
      refine zD hD ?_
      refine qd 5 rfl ?_
      refine Qr Yt rfl rfl (fun b_17=>?_)
      refine Qb ?_
      refine zD hD ?_
      refine qd 6 rfl ?_
      refine zS Zj ?_
      refine Qb ?_
      refine zD hD ?_
      refine qd 7 rfl ?_
      refine zS Zj ?_
      refine Qb ?_
      refine zD hD ?_
      refine QG (by kernel_rfl) ?_
      refine QQ ?_
      rw [show ((loW xs:Nat):Int).toNat=loW xs from rfl,Q2,Ze]
      refine QL (b:=b_16) (by repeat (first | exact Q7.here | apply Q7.there)) (fun I16 h16 e16=>?_)
      refine QL (b:=b_17) (by repeat (first | exact Q7.here | apply Q7.there)) (fun I17 h17 e17=>?_)
      exact zn (h:=⟨b_16,b_17,b_127,_,_,rfl,(hKc30.trans h16).trans h17,rfl,.imm (h17 _ _ e16) rfl,.imm e17 rfl,(hL30.mono h16).mono h17⟩)
     refine Qr Yt rfl rfl (fun b_17=>?_)
     refine Qb ?_
     refine zD hD ?_
     refine qd 1 rfl ?_
     refine Q3 YI rfl rfl (by omega) (by decide) rfl rfl (fun b_127=>?_)
     refine Qb ?_
     refine zD hD ?_
     refine qd 6 rfl ?_
     refine zS Zj ?_
     refine Qb ?_
     refine zD hD ?_
     refine qd 7 rfl ?_
     refine zS Zj ?_
     refine Qb ?_
     refine zD hD ?_
     refine QG (by kernel_rfl) ?_
     refine QQ ?_
     rw [show ((loW xs:Nat):Int).toNat=loW xs from rfl,Q2,Ze]
     refine QL (b:=b_16) (by repeat (first | exact Q7.here | apply Q7.there)) (fun I16 h16 e16=>?_)
     refine QL (b:=b_17) (by repeat (first | exact Q7.here | apply Q7.there)) (fun I17 h17 e17=>?_)
     exact zn (h:=⟨b_16,b_17,b_127,_,_,rfl,(hKc30.trans h16).trans h17,rfl,.imm (h17 _ _ e16) rfl,.imm e17 rfl,(hL30.mono h16).mono h17⟩)
    refine Qr Yt rfl rfl (fun b_17=>?_)
    refine Qb ?_
    refine zD hD ?_
    refine Zr 1 4 rfl rfl (by kernel_rfl) ?_ ?_
    ·
     refine Q3 YI rfl rfl (by omega) (by decide) rfl rfl (fun b_127=>?_)
     refine Qb ?_
     refine zD hD ?_
     refine qd 4 rfl ?_
     refine Qr Yt rfl rfl (fun b_16=>?_)
     refine Qb ?_
     refine zD hD ?_
     refine qd 6 rfl ?_
     refine zS Zj ?_
     refine Qb ?_
     refine zD hD ?_
     refine qd 7 rfl ?_
     refine zS Zj ?_
     refine Qb ?_
     refine zD hD ?_
     refine QG (by kernel_rfl) ?_
     refine QQ ?_
     rw [show ((loW xs:Nat):Int).toNat=loW xs from rfl,Q2,Ze]
     refine QL (b:=b_16) (by repeat (first | exact Q7.here | apply Q7.there)) (fun I16 h16 e16=>?_)
     refine QL (b:=b_17) (by repeat (first | exact Q7.here | apply Q7.there)) (fun I17 h17 e17=>?_)
     exact zn (h:=⟨b_16,b_17,b_127,_,_,rfl,(hKc30.trans h16).trans h17,rfl,.imm (h17 _ _ e16) rfl,.imm e17 rfl,(hL30.mono h16).mono h17⟩)
    refine Qr Yt rfl rfl (fun b_16=>?_)
    refine Qb ?_
    refine zD hD ?_
    refine qd 1 rfl ?_
    refine Q3 YI rfl rfl (by omega) (by decide) rfl rfl (fun b_127=>?_)
    refine Qb ?_
    refine zD hD ?_
    refine qd 6 rfl ?_
    refine zS Zj ?_
    refine Qb ?_
    refine zD hD ?_
    refine qd 7 rfl ?_
    refine zS Zj ?_
    refine Qb ?_
    refine zD hD ?_
    refine QG (by kernel_rfl) ?_
    refine QQ ?_
    rw [show ((loW xs:Nat):Int).toNat=loW xs from rfl,Q2,Ze]
    refine QL (b:=b_16) (by repeat (first | exact Q7.here | apply Q7.there)) (fun I16 h16 e16=>?_)
    refine QL (b:=b_17) (by repeat (first | exact Q7.here | apply Q7.there)) (fun I17 h17 e17=>?_)
    exact zn (h:=⟨b_16,b_17,b_127,_,_,rfl,(hKc30.trans h16).trans h17,rfl,.imm (h17 _ _ e16) rfl,.imm e17 rfl,(hL30.mono h16).mono h17⟩)
   ·
    refine Qr Yt rfl rfl (fun b_16=>?_)
    refine Qb ?_
    refine zD hD ?_
    refine KP 1 3 5 rfl rfl rfl (by kernel_rfl) ?_ ?_ ?_
    ·
     refine Q3 YI rfl rfl (by omega) (by decide) rfl rfl (fun b_127=>?_)
     refine Qb ?_
     refine zD hD ?_
     refine Zr 3 5 rfl rfl (by kernel_rfl) ?_ ?_
     ·
      refine Qz (cap:=[]) (vs:=[_]) rfl rfl Vi .nil (Yq hR (by omega) _ _) rfl rfl ?_
      rintro vv18 I18 L18 hI18 ⟨rfl,av30,c30,rfl,hL30⟩
      have hKc30:=hKc30.trans hI18;have hD:=hD.trans hI18
      rw [hcsi] at hL30 ⊢
      refine Qb ?_
      refine zD hD ?_
      refine qd 5 rfl ?_
      refine Qr Yt rfl rfl (fun b_17=>?_)
      refine Qb ?_
      refine zD hD ?_
      refine qd 6 rfl ?_
      refine zS Zj ?_
      refine Qb ?_
      refine zD hD ?_
      refine qd 7 rfl ?_
      refine zS Zj ?_
      refine Qb ?_
      refine zD hD ?_
      refine QG (by kernel_rfl) ?_
      refine QQ ?_
      rw [show ((loW xs:Nat):Int).toNat=loW xs from rfl,Q2,Ze]
      refine QL (b:=b_16) (by repeat (first | exact Q7.here | apply Q7.there)) (fun I16 h16 e16=>?_)
      refine QL (b:=b_17) (by repeat (first | exact Q7.here | apply Q7.there)) (fun I17 h17 e17=>?_)
      exact zn (h:=⟨b_16,b_17,b_127,_,_,rfl,(hKc30.trans h16).trans h17,rfl,.imm (h17 _ _ e16) rfl,.imm e17 rfl,(hL30.mono h16).mono h17⟩)
     refine Qr Yt rfl rfl (fun b_17=>?_)
     refine Qb ?_
     refine zD hD ?_
     refine qd 3 rfl ?_
     refine Qz (cap:=[]) (vs:=[_]) rfl rfl Vi .nil (Yq hR (by omega) _ _) rfl rfl ?_
     rintro vv19 I19 L19 hI19 ⟨rfl,av30,c30,rfl,hL30⟩
     have hKc30:=hKc30.trans hI19;have hD:=hD.trans hI19
     rw [hcsi] at hL30 ⊢
     refine Qb ?_
     refine zD hD ?_
     refine qd 6 rfl ?_
     refine zS Zj ?_
     refine Qb ?_
     refine zD hD ?_
     refine qd 7 rfl ?_
     refine zS Zj ?_
     refine Qb ?_
     refine zD hD ?_
     refine QG (by kernel_rfl) ?_
     refine QQ ?_
     rw [show ((loW xs:Nat):Int).toNat=loW xs from rfl,Q2,Ze]
     refine QL (b:=b_16) (by repeat (first | exact Q7.here | apply Q7.there)) (fun I16 h16 e16=>?_)
     refine QL (b:=b_17) (by repeat (first | exact Q7.here | apply Q7.there)) (fun I17 h17 e17=>?_)
     exact zn (h:=⟨b_16,b_17,b_127,_,_,rfl,(hKc30.trans h16).trans h17,rfl,.imm (h17 _ _ e16) rfl,.imm e17 rfl,(hL30.mono h16).mono h17⟩)
    ·
     refine Qz (cap:=[]) (vs:=[_]) rfl rfl Vi .nil (Yq hR (by omega) _ _) rfl rfl ?_
     rintro vv20 I20 L20 hI20 ⟨rfl,av30,c30,rfl,hL30⟩
     have hKc30:=hKc30.trans hI20;have hD:=hD.trans hI20
     rw [hcsi] at hL30 ⊢
     refine Qb ?_
     refine zD hD ?_
     refine Zr 1 5 rfl rfl (by kernel_rfl) ?_ ?_
     ·
      refine Q3 YI rfl rfl (by omega) (by decide) rfl rfl (fun b_127=>?_)
      refine Qb ?_
      refine zD hD ?_
      refine qd 5 rfl ?_
      refine Qr Yt rfl rfl (fun b_17=>?_)
      refine Qb ?_
      refine zD hD ?_
      refine qd 6 rfl ?_
      refine zS Zj ?_
      refine Qb ?_
      refine zD hD ?_
      refine qd 7 rfl ?_
      refine zS Zj ?_
      refine Qb ?_
      refine zD hD ?_
      refine QG (by kernel_rfl) ?_
      refine QQ ?_
      rw [show ((loW xs:Nat):Int).toNat=loW xs from rfl,Q2,Ze]
      refine QL (b:=b_16) (by repeat (first | exact Q7.here | apply Q7.there)) (fun I16 h16 e16=>?_)
      refine QL (b:=b_17) (by repeat (first | exact Q7.here | apply Q7.there)) (fun I17 h17 e17=>?_)
      exact zn (h:=⟨b_16,b_17,b_127,_,_,rfl,(hKc30.trans h16).trans h17,rfl,.imm (h17 _ _ e16) rfl,.imm e17 rfl,(hL30.mono h16).mono h17⟩)
     refine Qr Yt rfl rfl (fun b_17=>?_)
     refine Qb ?_
     refine zD hD ?_
     refine qd 1 rfl ?_
     refine Q3 YI rfl rfl (by omega) (by decide) rfl rfl (fun b_127=>?_)
     refine Qb ?_
     refine zD hD ?_
     refine qd 6 rfl ?_
     refine zS Zj ?_
     refine Qb ?_
     refine zD hD ?_
     refine qd 7 rfl ?_
     refine zS Zj ?_
     refine Qb ?_
     refine zD hD ?_
     refine QG (by kernel_rfl) ?_
     refine QQ ?_
     rw [show ((loW xs:Nat):Int).toNat=loW xs from rfl,Q2,Ze]
     refine QL (b:=b_16) (by repeat (first | exact Q7.here | apply Q7.there)) (fun I16 h16 e16=>?_)
     refine QL (b:=b_17) (by repeat (first | exact Q7.here | apply Q7.there)) (fun I17 h17 e17=>?_)
     exact zn (h:=⟨b_16,b_17,b_127,_,_,rfl,(hKc30.trans h16).trans h17,rfl,.imm (h17 _ _ e16) rfl,.imm e17 rfl,(hL30.mono h16).mono h17⟩)
    refine Qr Yt rfl rfl (fun b_17=>?_)
    refine Qb ?_
    refine zD hD ?_
    refine Zr 1 3 rfl rfl (by kernel_rfl) ?_ ?_
    ·
     refine Q3 YI rfl rfl (by omega) (by decide) rfl rfl (fun b_127=>?_)
     refine Qb ?_
     refine zD hD ?_
     refine qd 3 rfl ?_
     refine Qz (cap:=[]) (vs:=[_]) rfl rfl Vi .nil (Yq hR (by omega) _ _) rfl rfl ?_
     rintro vv21 I21 L21 hI21 ⟨rfl,av30,c30,rfl,hL30⟩
     have hKc30:=hKc30.trans hI21;have hD:=hD.trans hI21
     rw [hcsi] at hL30 ⊢
     refine Qb ?_
     refine zD hD ?_
     refine qd 6 rfl ?_
     refine zS Zj ?_
     refine Qb ?_
     refine zD hD ?_
     refine qd 7 rfl ?_
     refine zS Zj ?_
     refine Qb ?_
     refine zD hD ?_
     refine QG (by kernel_rfl) ?_
     refine QQ ?_
     rw [show ((loW xs:Nat):Int).toNat=loW xs from rfl,Q2,Ze]
     refine QL (b:=b_16) (by repeat (first | exact Q7.here | apply Q7.there)) (fun I16 h16 e16=>?_)
     refine QL (b:=b_17) (by repeat (first | exact Q7.here | apply Q7.there)) (fun I17 h17 e17=>?_)
     exact zn (h:=⟨b_16,b_17,b_127,_,_,rfl,(hKc30.trans h16).trans h17,rfl,.imm (h17 _ _ e16) rfl,.imm e17 rfl,(hL30.mono h16).mono h17⟩)
    refine Qz (cap:=[]) (vs:=[_]) rfl rfl Vi .nil (Yq hR (by omega) _ _) rfl rfl ?_
    rintro vv22 I22 L22 hI22 ⟨rfl,av30,c30,rfl,hL30⟩
    have hKc30:=hKc30.trans hI22;have hD:=hD.trans hI22
    rw [hcsi] at hL30 ⊢
    refine Qb ?_
    refine zD hD ?_
    refine qd 1 rfl ?_
    refine Q3 YI rfl rfl (by omega) (by decide) rfl rfl (fun b_127=>?_)
    refine Qb ?_
    refine zD hD ?_
    refine qd 6 rfl ?_
    refine zS Zj ?_
    refine Qb ?_
    refine zD hD ?_
    refine qd 7 rfl ?_
    refine zS Zj ?_
    refine Qb ?_
    refine zD hD ?_
    refine QG (by kernel_rfl) ?_
    refine QQ ?_
    rw [show ((loW xs:Nat):Int).toNat=loW xs from rfl,Q2,Ze]
    refine QL (b:=b_16) (by repeat (first | exact Q7.here | apply Q7.there)) (fun I16 h16 e16=>?_)
    refine QL (b:=b_17) (by repeat (first | exact Q7.here | apply Q7.there)) (fun I17 h17 e17=>?_)
    exact zn (h:=⟨b_16,b_17,b_127,_,_,rfl,(hKc30.trans h16).trans h17,rfl,.imm (h17 _ _ e16) rfl,.imm e17 rfl,(hL30.mono h16).mono h17⟩)
   refine Qr Yt rfl rfl (fun b_17=>?_)
   refine Qb ?_
   refine zD hD ?_
   refine KP 1 3 4 rfl rfl rfl (by kernel_rfl) ?_ ?_ ?_
   ·
    refine Q3 YI rfl rfl (by omega) (by decide) rfl rfl (fun b_127=>?_)
    refine Qb ?_
    refine zD hD ?_
    refine Zr 3 4 rfl rfl (by kernel_rfl) ?_ ?_
    ·
     refine Qz (cap:=[]) (vs:=[_]) rfl rfl Vi .nil (Yq hR (by omega) _ _) rfl rfl ?_
     rintro vv23 I23 L23 hI23 ⟨rfl,av30,c30,rfl,hL30⟩
     have hKc30:=hKc30.trans hI23;have hD:=hD.trans hI23
     rw [hcsi] at hL30 ⊢
     refine Qb ?_
     refine zD hD ?_
     refine qd 4 rfl ?_
     refine Qr Yt rfl rfl (fun b_16=>?_)
     refine Qb ?_
     refine zD hD ?_
     refine qd 6 rfl ?_
     refine zS Zj ?_
     refine Qb ?_
     refine zD hD ?_
     refine qd 7 rfl ?_
     refine zS Zj ?_
     refine Qb ?_
     refine zD hD ?_
     refine QG (by kernel_rfl) ?_
     refine QQ ?_
     rw [show ((loW xs:Nat):Int).toNat=loW xs from rfl,Q2,Ze]
     refine QL (b:=b_16) (by repeat (first | exact Q7.here | apply Q7.there)) (fun I16 h16 e16=>?_)
     refine QL (b:=b_17) (by repeat (first | exact Q7.here | apply Q7.there)) (fun I17 h17 e17=>?_)
     exact zn (h:=⟨b_16,b_17,b_127,_,_,rfl,(hKc30.trans h16).trans h17,rfl,.imm (h17 _ _ e16) rfl,.imm e17 rfl,(hL30.mono h16).mono h17⟩)
    refine Qr Yt rfl rfl (fun b_16=>?_)
    refine Qb ?_
    refine zD hD ?_
    refine qd 3 rfl ?_
    refine Qz (cap:=[]) (vs:=[_]) rfl rfl Vi .nil (Yq hR (by omega) _ _) rfl rfl ?_
    rintro vv24 I24 L24 hI24 ⟨rfl,av30,c30,rfl,hL30⟩
    have hKc30:=hKc30.trans hI24;have hD:=hD.trans hI24
    rw [hcsi] at hL30 ⊢
    refine Qb ?_
    refine zD hD ?_
    refine qd 6 rfl ?_
    refine zS Zj ?_
    refine Qb ?_
    refine zD hD ?_
    refine qd 7 rfl ?_
    refine zS Zj ?_
    refine Qb ?_
    refine zD hD ?_
    refine QG (by kernel_rfl) ?_
    refine QQ ?_
    rw [show ((loW xs:Nat):Int).toNat=loW xs from rfl,Q2,Ze]
    refine QL (b:=b_16) (by repeat (first | exact Q7.here | apply Q7.there)) (fun I16 h16 e16=>?_)
    refine QL (b:=b_17) (by repeat (first | exact Q7.here | apply Q7.there)) (fun I17 h17 e17=>?_)
    exact zn (h:=⟨b_16,b_17,b_127,_,_,rfl,(hKc30.trans h16).trans h17,rfl,.imm (h17 _ _ e16) rfl,.imm e17 rfl,(hL30.mono h16).mono h17⟩)
   ·
    refine Qz (cap:=[]) (vs:=[_]) rfl rfl Vi .nil (Yq hR (by omega) _ _) rfl rfl ?_
    rintro vv25 I25 L25 hI25 ⟨rfl,av30,c30,rfl,hL30⟩
    have hKc30:=hKc30.trans hI25;have hD:=hD.trans hI25
    rw [hcsi] at hL30 ⊢
    refine Qb ?_
    refine zD hD ?_
    refine Zr 1 4 rfl rfl (by kernel_rfl) ?_ ?_
    ·
     refine Q3 YI rfl rfl (by omega) (by decide) rfl rfl (fun b_127=>?_)
     refine Qb ?_
     refine zD hD ?_
     refine qd 4 rfl ?_
     refine Qr Yt rfl rfl (fun b_16=>?_)
     refine Qb ?_
     refine zD hD ?_
     refine qd 6 rfl ?_
     refine zS Zj ?_
     refine Qb ?_
     refine zD hD ?_
     refine qd 7 rfl ?_
     refine zS Zj ?_
     refine Qb ?_
     refine zD hD ?_
     refine QG (by kernel_rfl) ?_
     refine QQ ?_
     rw [show ((loW xs:Nat):Int).toNat=loW xs from rfl,Q2,Ze]
     refine QL (b:=b_16) (by repeat (first | exact Q7.here | apply Q7.there)) (fun I16 h16 e16=>?_)
     refine QL (b:=b_17) (by repeat (first | exact Q7.here | apply Q7.there)) (fun I17 h17 e17=>?_)
     exact zn (h:=⟨b_16,b_17,b_127,_,_,rfl,(hKc30.trans h16).trans h17,rfl,.imm (h17 _ _ e16) rfl,.imm e17 rfl,(hL30.mono h16).mono h17⟩)
    refine Qr Yt rfl rfl (fun b_16=>?_)
    refine Qb ?_
    refine zD hD ?_
    refine qd 1 rfl ?_
    refine Q3 YI rfl rfl (by omega) (by decide) rfl rfl (fun b_127=>?_)
    refine Qb ?_
    refine zD hD ?_
    refine qd 6 rfl ?_
    refine zS Zj ?_
    refine Qb ?_
    refine zD hD ?_
    refine qd 7 rfl ?_
    refine zS Zj ?_
    refine Qb ?_
    refine zD hD ?_
    refine QG (by kernel_rfl) ?_
    refine QQ ?_
    rw [show ((loW xs:Nat):Int).toNat=loW xs from rfl,Q2,Ze]
    refine QL (b:=b_16) (by repeat (first | exact Q7.here | apply Q7.there)) (fun I16 h16 e16=>?_)
    refine QL (b:=b_17) (by repeat (first | exact Q7.here | apply Q7.there)) (fun I17 h17 e17=>?_)
    exact zn (h:=⟨b_16,b_17,b_127,_,_,rfl,(hKc30.trans h16).trans h17,rfl,.imm (h17 _ _ e16) rfl,.imm e17 rfl,(hL30.mono h16).mono h17⟩)
   refine Qr Yt rfl rfl (fun b_16=>?_)
   refine Qb ?_
   refine zD hD ?_
   refine Zr 1 3 rfl rfl (by kernel_rfl) ?_ ?_
   ·
    refine Q3 YI rfl rfl (by omega) (by decide) rfl rfl (fun b_127=>?_)
    refine Qb ?_
    refine zD hD ?_
    refine qd 3 rfl ?_
    refine Qz (cap:=[]) (vs:=[_]) rfl rfl Vi .nil (Yq hR (by omega) _ _) rfl rfl ?_
    rintro vv26 I26 L26 hI26 ⟨rfl,av30,c30,rfl,hL30⟩
    have hKc30:=hKc30.trans hI26;have hD:=hD.trans hI26
    rw [hcsi] at hL30 ⊢
    refine Qb ?_
    refine zD hD ?_
    refine qd 6 rfl ?_
    refine zS Zj ?_
    refine Qb ?_
    refine zD hD ?_
    refine qd 7 rfl ?_
    refine zS Zj ?_
    refine Qb ?_
    refine zD hD ?_
    refine QG (by kernel_rfl) ?_
    refine QQ ?_
    rw [show ((loW xs:Nat):Int).toNat=loW xs from rfl,Q2,Ze]
    refine QL (b:=b_16) (by repeat (first | exact Q7.here | apply Q7.there)) (fun I16 h16 e16=>?_)
    refine QL (b:=b_17) (by repeat (first | exact Q7.here | apply Q7.there)) (fun I17 h17 e17=>?_)
    exact zn (h:=⟨b_16,b_17,b_127,_,_,rfl,(hKc30.trans h16).trans h17,rfl,.imm (h17 _ _ e16) rfl,.imm e17 rfl,(hL30.mono h16).mono h17⟩)
   refine Qz (cap:=[]) (vs:=[_]) rfl rfl Vi .nil (Yq hR (by omega) _ _) rfl rfl ?_
   rintro vv27 I27 L27 hI27 ⟨rfl,av30,c30,rfl,hL30⟩
   have hKc30:=hKc30.trans hI27;have hD:=hD.trans hI27
   rw [hcsi] at hL30 ⊢
   refine Qb ?_
   refine zD hD ?_
   refine qd 1 rfl ?_
   refine Q3 YI rfl rfl (by omega) (by decide) rfl rfl (fun b_127=>?_)
   refine Qb ?_
   refine zD hD ?_
   refine qd 6 rfl ?_
   refine zS Zj ?_
   refine Qb ?_
   refine zD hD ?_
   refine qd 7 rfl ?_
   refine zS Zj ?_
   refine Qb ?_
   refine zD hD ?_
   refine QG (by kernel_rfl) ?_
   refine QQ ?_
   rw [show ((loW xs:Nat):Int).toNat=loW xs from rfl,Q2,Ze]
   refine QL (b:=b_16) (by repeat (first | exact Q7.here | apply Q7.there)) (fun I16 h16 e16=>?_)
   refine QL (b:=b_17) (by repeat (first | exact Q7.here | apply Q7.there)) (fun I17 h17 e17=>?_)
   exact zn (h:=⟨b_16,b_17,b_127,_,_,rfl,(hKc30.trans h16).trans h17,rfl,.imm (h17 _ _ e16) rfl,.imm e17 rfl,(hL30.mono h16).mono h17⟩)
  rintro ms E J28 loc' ⟨b16,b17,b127,av17,c17,rfl,hJ30,rfl,hC16,hC17,hL17⟩
  have hT:=hT.mono hJ30;have hC6:=hC6.mono hJ30;have hC10:=hC10.mono hJ30;have hAt:=hAt.mono hJ30;have hWd:=hWd.mono hJ30;have hPs:=hPs.mono hJ30;have hre:=hre.mono hJ30;have hPf:=hPf.mono hJ30;have hB6:=hB6.trans hJ30
  refine znq [(2,_),(4,_),(5,_),(6,_),(10,_),(11,_),(14,_),(16,_),(17,_),(119,_),(120,_),(121,_)] (.cons rfl (.cons rfl (.cons rfl (.cons rfl (.cons rfl (.cons rfl (.cons rfl (.cons rfl (.cons rfl (.cons rfl (.cons rfl (.cons rfl .nil)))))))))))) (fun T L0 ms E I' loc'=>E=T∧HLe J28 I'∧(b127,.cells (Zh (Ve (loW xs) ((if i=0 then txF (wdW xs) (csW xs 0) (csW xs 0).length else fun _=>0)))) 3 (0,0))::(L++MB ms)=loc') ?_ ?_
  ·
   have hKc31:=zye J28
   refine zR (zM ?_)
   refine zC (zN ?_)
   refine zI ?_ ?_<;>intro hc131
   ·
    have hi0:i=0:=by have h:=hc131;simp at h;omega
    refine zR (zM ?_)
    refine zQ Qy ?_
    refine zM (zN (Qm ?_))
    refine Uc [(2,_),(4,_),(5,_),(6,_),(10,_),(11,_),(14,_),(16,_),(17,_),(119,_),(120,_),(121,_),(132,_),(133,_)] (.cons rfl (.cons rfl (.cons rfl (.cons rfl (.cons rfl (.cons rfl (.cons rfl (.cons rfl (.cons rfl (.cons rfl (.cons rfl (.cons rfl (.cons rfl (.cons rfl .nil)))))))))))))) (fun T L0 mz ms E I' loc'=>∃ (k:Nat),mz=(csW xs 0).length-k∧E=(134,.int .i64 k)::T∧J28=I'∧(b127,.cells (Zh (Ve (loW xs) (txF (wdW xs) (csW xs 0) k))) 3 (0,0))::(L++MB ms)=loc'∧k≤(csW xs 0).length) _ _ _ _ ⟨0,rfl,rfl,rfl,rfl,Nat.zero_le _⟩ (.cons rfl (.cons rfl (.cons rfl (.cons rfl (.cons rfl (.cons rfl (.cons rfl (.cons rfl (.cons rfl (.cons rfl (.cons rfl (.cons rfl (.cons rfl (.cons rfl (.cons rfl .nil))))))))))))))) (zye _) rfl ?_
    rintro mz ms E I' loc' ⟨k,rfl,rfl,rfl,rfl,hk⟩
    refine zR (zC (zN (Ql ?_)))
    refine zI ?_ ?_<;>intro hc135
    ·
     have hlt_k:k<(csW xs 0).length:=by have h:=hc135;simp at h;omega
     obtain ⟨tk,hTk⟩:=hT.at hlt_k
     have hps:=zmK hlt_k
     have hf1:YA (VP (wdW xs)) k=(((VP (wdW xs)) k:Nat):Int):=rfl
     have hf2:YA (wdW xs) k=(((wdW xs) k:Nat):Int):=rfl
     refine Qo (Qa (Ql (Qm (zR (zM ?_)))))
     refine zV (zX Qy hT) ?_
     refine zV (Qd rfl Qs (fun hg=>by exact zx7 hT hTk rfl)) ?_
     refine zA ?_
     refine zA (zN ?_)
     have hD:=zye J28
     refine Jo ?_
     refine Z7 J28 [] mixed ?_
     refine zT 0 rfl (Qd rfl QK (fun hg=>by exact hC16.any)) hD ?_
     refine zT 1 rfl (Qd rfl QK (fun hg=>by exact hC10.any)) hD ?_
     refine zT 2 rfl (Qi rfl) hD ?_
     refine zT 3 rfl (zX Qy hAt) hD ?_
     refine zT 4 rfl (Qd rfl Qs (fun hg=>by exact zx7 (k:=k) hAt (YD (show k<_ by omega)) rfl)) hD ?_
     refine zT 5 rfl (Qd rfl QK (fun hg=>by exact hC6.any)) hD ?_
     refine zT 6 rfl (Qi rfl) hD ?_
     refine zT 7 rfl (zX Qy hWd) hD ?_
     refine zT 8 rfl (Qd rfl Qs (fun hg=>by exact zx7 (k:=k) hWd (YD (show k<_ by omega)) rfl)) hD ?_
     refine zT 9 rfl (ZO rfl rfl rfl (fun hg=>by omega)) hD ?_
     refine zT 10 rfl (Qi rfl) hD ?_
     refine zT 11 rfl (Q6 rfl rfl Qy (fun hg=>by omega)) hD ?_
     refine qd 12 rfl ?_
     refine ZI rfl rfl Yi rfl rfl (by repeat (first | exact Upd.here | apply Upd.there | apply QJ)) (by rw [show YA (VP (wdW xs)) k+YA (wdW xs) k=((VP (wdW xs) k+wdW xs k:Nat):Int) from rfl];exact zvv (by rw [Yd];omega)) ?_
     refine Qb ?_
     refine zD hD ?_
     refine QG (by kernel_rfl) ?_
     refine QQ ?_
     rw [show YA (VP (wdW xs)) k+YA (wdW xs) k=((VP (wdW xs) k+wdW xs k:Nat):Int) from rfl,Vm,Js,←Q1 (d:=0) hTk]
     refine Qh (Qa (Qg (zB ?_)))
     refine zM (Qb ?_)
     exact zd (h:=⟨(csW xs 0).length-(k+1),by omega,k+1,rfl,rfl,rfl,rfl,by omega⟩)
    have hge_k:(csW xs 0).length≤k:=by have h:=hc135;simp at h;omega
    obtain rfl:k=(csW xs 0).length:=by omega
    refine QI (Qf (Qf (Qk ?_)))
    exact zbz rfl rfl rfl _ _ ⟨rfl,hKc31,by rw [if_pos hi0]⟩ (.cons rfl (.cons rfl (.cons rfl (.cons rfl (.cons rfl (.cons rfl (.cons rfl (.cons rfl (.cons rfl (.cons rfl (.cons rfl (.cons rfl .nil)))))))))))) .refl
   have hi0:¬i=0:=by have h:=hc131;simp at h;omega
   refine Qo ?_
   exact zbz rfl rfl rfl _ _ ⟨rfl,hKc31,by rw [if_neg hi0]⟩ (.cons rfl (.cons rfl (.cons rfl (.cons rfl (.cons rfl (.cons rfl (.cons rfl (.cons rfl (.cons rfl (.cons rfl (.cons rfl (.cons rfl .nil)))))))))))) .refl
  rintro ms E J30 loc' ⟨rfl,hJ131,rfl⟩
  have hC6:=hC6.mono hJ131;have hC10:=hC10.mono hJ131;have hAt:=hAt.mono hJ131;have hWd:=hWd.mono hJ131;have hPs:=hPs.mono hJ131;have hre:=hre.mono hJ131;have hPf:=hPf.mono hJ131;have hC16:=hC16.mono hJ131;have hC17:=hC17.mono hJ131;have hL17:=hL17.mono hJ131;have hB6:=hB6.trans hJ131
  refine Ql (zR (zM ?_))
  refine zM ?_
  refine zV (zX zbI hPs) ?_
  refine zV (Qd rfl ze8 (fun hg=>by exact zx7 hPs hhp rfl)) ?_
  refine zQ Jm ?_
  refine zM (zN (Qm ?_))
  refine Uc [(2,_),(4,_),(5,_),(6,_),(10,_),(11,_),(14,_),(16,_),(17,_),(119,_),(120,_),(121,_),(155,_),(156,_)] (.cons rfl (.cons rfl (.cons rfl (.cons rfl (.cons rfl (.cons rfl (.cons rfl (.cons rfl (.cons rfl (.cons rfl (.cons rfl (.cons rfl (.cons rfl (.cons rfl .nil)))))))))))))) (fun T L0 mz ms E I' loc'=>∃ (k:Nat),mz=(pfW xs i).length-k∧E=(157,.int .i64 k)::T∧J30=I'∧(b127,.cells (Zh (Ve (loW xs) (((pfW xs i).take k).foldl (prF (wdW xs) (csW xs i)) (if i=0 then txF (wdW xs) (csW xs 0) (csW xs 0).length else fun _=>0)))) 3 (0,0))::(L++MB ms)=loc'∧k≤(pfW xs i).length) _ _ _ _ ⟨0,rfl,rfl,rfl,rfl,Nat.zero_le _⟩ (.cons rfl (.cons rfl (.cons rfl (.cons rfl (.cons rfl (.cons rfl (.cons rfl (.cons rfl (.cons rfl (.cons rfl (.cons rfl (.cons rfl (.cons rfl (.cons rfl (.cons rfl .nil))))))))))))))) (zye _) rfl ?_
  rintro mz ms E I' loc' ⟨k,rfl,rfl,rfl,rfl,hk⟩
  refine zR (zC (zN (Ql ?_)))
  refine zI ?_ ?_<;>intro hc158
  ·
   have hlt_k:k<(pfW xs i).length:=by have h:=hc158;simp at h;omega
   obtain ⟨y,hy⟩:=hPf.at (show k<_ by omega)
   obtain ⟨y1,y2,y3,y4⟩:=ztv hy
   refine Qo (Qa (Ql (Qm (zR ?_))))
   refine zV (zX Jm hPf) ?_
   refine zV (Qp rfl WM (fun hg=>by exact zyf hPf hy) rfl) ?_
   refine Qr JJ rfl rfl (fun b_21=>?_)
   refine zh zer ?_
   refine zN (zR ?_)
   refine zV (Q8 rfl rfl Yc (fun hg=>by decide)) ?_
   refine zL Qs ?_
   refine zC ?_
   refine zM ?_
   refine QE 3 rfl rfl rfl ?_
   refine zK (Q8 rfl rfl Yc (fun hg=>by decide)) ?_
   refine zK (Qd rfl Qs (fun hg=>by exact QU.h0 rfl)) ?_
   refine zK (QH rfl rfl rfl) ?_
   refine QP rfl rfl rfl rfl rfl ?_
   refine zN ?_
   refine zI ?_ ?_<;>intro hc168
   ·
    have hy5:y.1>0∧y.2>0:=by have h:=hc168;simp at h;exact h
    have hps:=zmK (xs:=xs) (k:=(y.1-1).toNat) (by omega)
    have hf1:YA (VP (wdW xs)) (y.1-1).toNat=(((VP (wdW xs)) (y.1-1).toNat:Nat):Int):=rfl
    have hf2:YA (wdW xs) (y.1-1).toNat=(((wdW xs) (y.1-1).toNat:Nat):Int):=rfl
    have hD:=zye J30
    refine Jo ?_
    refine Z7 J30 [(b_21,.cells (VO y).toArray 79 (0,0))] mixed ?_
    refine zT 0 rfl (Qd rfl QK (fun hg=>by exact hC16.any)) hD ?_
    refine zT 1 rfl (Qd rfl QK (fun hg=>by exact hC10.any)) hD ?_
    refine zT 2 rfl (Q8 rfl rfl Yc (fun hg=>by decide)) hD ?_
    refine zT 3 rfl (Qd rfl Qs (fun hg=>by exact QU.h0 rfl)) hD ?_
    refine zT 4 rfl (ZO rfl rfl rfl (fun hg=>by omega)) hD ?_
    refine zT 5 rfl (zX Qy hAt) hD ?_
    refine zT 6 rfl (Qd rfl Qs (fun hg=>by exact zx7 (k:=(y.1-1).toNat) hAt (YD (by omega)) rfl)) hD ?_
    refine zT 7 rfl (Qd rfl QK (fun hg=>by exact hC6.any)) hD ?_
    refine zT 8 rfl (Q8 rfl rfl Yc (fun hg=>by decide)) hD ?_
    refine zT 9 rfl (Qd rfl Qs (fun hg=>by exact QU.h0 rfl)) hD ?_
    refine zT 10 rfl (ZO rfl rfl rfl (fun hg=>by omega)) hD ?_
    refine zT 11 rfl (zX Qy hWd) hD ?_
    refine zT 12 rfl (Qd rfl Qs (fun hg=>by exact zx7 (k:=(y.1-1).toNat) hWd (YD (by omega)) rfl)) hD ?_
    refine zT 13 rfl (ZO rfl rfl rfl (fun hg=>by omega)) hD ?_
    refine zT 14 rfl (Qd rfl QK (fun hg=>by exact hC17.any)) hD ?_
    refine zT 15 rfl (Q8 rfl rfl Yc (fun hg=>by decide)) hD ?_
    refine zT 16 rfl (Qd rfl Qs (fun hg=>by exact QU.h0 rfl)) hD ?_
    refine zT 17 rfl (ZO rfl rfl rfl (fun hg=>by omega)) hD ?_
    refine zT 18 rfl (zX Qy hL17) hD ?_
    refine zT 19 rfl (Qd rfl Qs (fun hg=>by exact zx7 (k:=(y.2-1).toNat) hL17 (Zk (d:=0) rfl (by omega)) rfl)) hD ?_
    refine zT 20 rfl (Q6 rfl rfl Qy (fun hg=>by omega)) hD ?_
    refine qd 21 rfl ?_
    refine ZI rfl rfl Yi rfl rfl (by repeat (first | exact Upd.here | apply Upd.there | apply QJ)) (by rw [show YA (VP (wdW xs)) (y.1-1).toNat+YA (wdW xs) (y.1-1).toNat=((VP (wdW xs) (y.1-1).toNat+wdW xs (y.1-1).toNat:Nat):Int) from rfl];exact zvv (by rw [Yd];omega)) ?_
    refine Qb ?_
    refine zD hD ?_
    refine QG (by kernel_rfl) ?_
    refine QQ ?_
    rw [show YA (VP (wdW xs)) (y.1-1).toNat+YA (wdW xs) (y.1-1).toNat=((VP (wdW xs) (y.1-1).toNat+wdW xs (y.1-1).toNat:Nat):Int) from rfl,Vm,Js]
    refine Qh (Qa (Qg (zB ?_)))
    refine zM (Qb ?_)
    exact zd (h:=⟨(pfW xs i).length-(k+1),by omega,k+1,rfl,rfl,rfl,by rw [zfD hy,ziz hc168],by omega⟩)
   refine Qo (Qh (Qa (Qg (zB ?_))))
   refine zM (Qb ?_)
   exact zd (h:=⟨(pfW xs i).length-(k+1),by omega,k+1,rfl,rfl,rfl,by rw [zfD hy,znw hc168],by omega⟩)
  have hge_k:(pfW xs i).length≤k:=by have h:=hc158;simp at h;omega
  rw [List.take_of_length_le hge_k]
  refine QI (Qf (Qf (Qk (Qa (zR (zM ?_))))))
  refine zQ Qy ?_
  refine zB ?_
  refine Q3 YI rfl rfl (by omega) (by decide) rfl rfl (fun b_194=>?_)
  refine Qr Yt rfl rfl (fun b_22=>?_)
  refine zS Zj ?_
  refine Qb ?_
  have e1:(((csW xs 0).length:Nat):Int)+1=(((csW xs 0).length+1:Nat):Int):=rfl
  rw [e1,show (((csW xs 0).length+1:Nat):Int).toNat=(csW xs 0).length+1 from rfl,Q2,Ze,UT]
  refine Zf (b:=b_22) (by repeat (first | exact Q7.here | apply Q7.there)) (fun I32 hI32 hb32=>?_)
  have hC10:=hC10.mono hI32;have hAt:=hAt.mono hI32;have hPs:=hPs.mono hI32;have hre:=hre.mono hI32;have hPf:=hPf.mono hI32;have hC16:=hC16.mono hI32;have hC17:=hC17.mono hI32;have hL17:=hL17.mono hI32;have hB6:=hB6.trans hI32
  have hC22:QU I32 [] b_22 0 (.slice (some ⟨b_194,0,none⟩) ((csW xs 0).length+1) ((csW xs 0).length+1)):=.imm hb32 rfl
  refine Qa (Ql (zR (zM ?_)))
  refine zM ?_
  refine zV (zX zbI hPs) ?_
  refine zV (Qd rfl ze8 (fun hg=>by exact zx7 hPs hhp rfl)) ?_
  refine Qz (cap:=[]) (vs:=[_]) rfl rfl znk .nil (zho _ _ _ _) rfl rfl ?_
  rintro vv33 I33 L33 hI33 ⟨rfl,b1,rfl,hb1⟩
  have hC10:=hC10.mono hI33;have hAt:=hAt.mono hI33;have hre:=hre.mono hI33;have hPf:=hPf.mono hI33;have hC16:=hC16.mono hI33;have hC17:=hC17.mono hI33;have hL17:=hL17.mono hI33;have hC22:=hC22.mono hI33;have hB6:=hB6.trans hI33
  refine zN (Qm ?_)
  refine UM (K:=[]) (L:=(b_194,.cells (Zh (Ve ((csW xs 0).length+1) (YA (cnt [])))) 3 (0,0))::(b127,.cells (Zh (Ve (loW xs) ((alP (wdW xs) (csW xs i) ((pfW xs i).foldl (prF (wdW xs) (csW xs i)) (if i=0 then txF (wdW xs) (csW xs 0) (csW xs 0).length else fun _=>0)) []).1))) 3 (0,0))::L) (en1:=zwD) (en2:=zwh) (xs:=alW xs i) (fun pre I' loc'=>loc'=(b_194,.cells (Zh (Ve ((csW xs 0).length+1) (YA (cnt pre)))) 3 (0,0))::(b127,.cells (Zh (Ve (loW xs) ((alP (wdW xs) (csW xs i) ((pfW xs i).foldl (prF (wdW xs) (csW xs i)) (if i=0 then txF (wdW xs) (csW xs 0) (csW xs 0).length else fun _=>0)) pre).1))) 3 (0,0))::L) (fun _ _ _ _=>False) (fun pre x E2 I2 loc2=>E2=[(10,Zb b_10),(16,Zb b16),(17,Zb b17),(22,Zb b_22),(23,.int .i64 x.1),(24,.int .i64 x.2)]∧loc2=(b_194,.cells (Zh (Ve ((csW xs 0).length+1) (YA (cnt pre)))) 3 (0,0))::(b127,.cells (Zh (Ve (loW xs) ((alP (wdW xs) (csW xs i) ((pfW xs i).foldl (prF (wdW xs) (csW xs i)) (if i=0 then txF (wdW xs) (csW xs 0) (csW xs 0).length else fun _=>0)) pre).1))) 3 (0,0))::L) rfl zh2 (zjy hPf (by omega) (ztB hrs i) hb1) rfl rfl rfl ?_ ?_ ?_ ?_
  ·
   rintro l9 pre x I1 loc1 H1 hpre hI1 rfl
   refine zR (zA (zN (Qg ?_)))
   refine zA (Qb ?_)
   exact zbm _ ⟨zye _,rfl,rfl⟩ (.cons rfl (.cons rfl (.cons rfl (.cons rfl (.cons rfl (.cons rfl .nil))))))
  ·
   rintro l9 pre x E2 I2 loc2 H2 hpre hI2 ⟨rfl,rfl⟩
   have hC10:=hC10.mono hI2;have hAt:=hAt.mono hI2;have hC16:=hC16.mono hI2;have hC17:=hC17.mono hI2;have hL17:=hL17.mono hI2;have hC22:=hC22.mono hI2
   obtain ⟨x1,x2,x3,x4,x5⟩:=znW hpre
   have hcb:=Nat.le_trans (@zdy (alW xs i) x.1.toNat) (ziW hrs i)
   have hnc:=zaM (f:=cnt pre) (a:=x.1.toNat) (B:=128) (by omega)
   have hp2:=zoQ x2 hlt_i x5
   have hf1:YA (VP (wdW xs)) x.1.toNat=(((VP (wdW xs)) x.1.toNat:Nat):Int):=rfl
   have hf2:YA (cnt pre) x.1.toNat=(((cnt pre) x.1.toNat:Nat):Int):=rfl
   refine Qm (Ql ?_)
   have hD:=zye I2
   refine Jo ?_
   refine Z7 I2 [(b_194,.cells (Zh (Ve ((csW xs 0).length+1) (YA (cnt pre)))) 3 (0,0))] mixed ?_
   refine zT 0 rfl (Qd rfl QK (fun hg=>by exact hC16.any)) hD ?_
   refine zT 1 rfl (Qd rfl QK (fun hg=>by exact hC10.any)) hD ?_
   refine zT 2 rfl (Qi rfl) hD ?_
   refine zT 3 rfl (zX Qy hAt) hD ?_
   refine zT 4 rfl (Qd rfl Qs (fun hg=>by exact zx7 (k:=x.1.toNat) hAt (YD (by omega)) rfl)) hD ?_
   refine zT 5 rfl (Qd rfl QK (fun hg=>by exact hC22.any)) hD ?_
   refine zT 6 rfl (Qi rfl) hD ?_
   refine zT 7 rfl (Q6 rfl rfl Qy (fun hg=>by omega)) hD ?_
   refine zT 8 rfl (Qd rfl Qs (fun hg=>by exact V0 (YD (by omega)))) hD ?_
   refine zT 9 rfl (ZO rfl rfl rfl (fun hg=>by omega)) hD ?_
   refine zT 10 rfl (Qd rfl QK (fun hg=>by exact hC17.any)) hD ?_
   refine zT 11 rfl (Qi rfl) hD ?_
   refine zT 12 rfl (zX Qy hL17) hD ?_
   refine zT 13 rfl (Qd rfl Qs (fun hg=>by exact zx7 (k:=x.2.toNat) hL17 (Zk (d:=0) rfl (by omega)) rfl)) hD ?_
   refine zT 14 rfl (Q6 rfl rfl Qy (fun hg=>by omega)) hD ?_
   refine qd 15 rfl ?_
   refine ZI rfl rfl Yi rfl rfl (by repeat (first | exact Upd.here | apply Upd.there | apply QJ)) (by rw [show YA (VP (wdW xs)) x.1.toNat+YA (cnt pre) x.1.toNat=((VP (wdW xs) x.1.toNat+cnt pre x.1.toNat:Nat):Int) from rfl];exact zvv (by rw [Yd];omega)) ?_
   refine Qb ?_
   refine zD hD ?_
   refine QG (by kernel_rfl) ?_
   refine QQ ?_
   rw [show YA (VP (wdW xs)) x.1.toNat+YA (cnt pre) x.1.toNat=((VP (wdW xs) x.1.toNat+cnt pre x.1.toNat:Nat):Int) from rfl,Vm,Js,←zmc]
   refine Qa (Qg ?_)
   refine zV (Qd rfl QK (fun hg=>by exact hC22.any)) ?_
   refine zM ?_
   refine zV (Q6 rfl rfl Qy (fun hg=>by omega)) ?_
   refine zV (Qd rfl Qs (fun hg=>by exact V0 (YD (by omega)))) ?_
   refine zB ?_
   refine zV (Q6 rfl rfl Qy (fun hg=>by omega)) ?_
   refine ZI rfl rfl Yi rfl rfl (by repeat (first | exact Upd.here | apply Upd.there | apply QJ)) (zuI (by rw [Yd];omega)) ?_
   refine Qb ?_
   rw [Ul,Js,show YA (cnt pre) x.1.toNat+1=((cnt pre x.1.toNat+1:Nat):Int) from rfl,Xr,←UD]
   refine Qh ?_
   exact XK ⟨zye _,rfl⟩ .refl
  ·
   rintro bd I1 loc1 hI1 rfl
   have hre:=hre.mono hI1;have hC16:=hC16.mono hI1;have hB6:=hB6.trans hI1
   refine Qh (Qa ?_)
   refine Zf (b:=b127) (by repeat (first | exact Q7.here | apply Q7.there)) (fun I34 hI34 hb34=>?_)
   have hre:=hre.mono hI34;have hC16:=hC16.mono hI34;have hB6:=hB6.trans hI34
   have hRow:Sl I34 1 QR (some ⟨b127,0,none⟩) (loW xs) (loW xs) (zqw xs i):=Sl.lit (zqw xs i) Yd Qv hb34
   refine Qg (zM ?_)
   refine zV (Qd rfl QK (fun hg=>by exact hC16.any)) ?_
   refine Qq (ps:=[(0,_)]) (m:=[W2 ⟨some ⟨b127,0,none⟩,loW xs,loW xs⟩]) zat rfl (.cons rfl (.nil)) rfl (by simp [Za]) (by decide) (by decide) rfl rfl (fun b_225=>?_)
   refine QY (v:=_) (ys:=[(⟨some ⟨b127,0,none⟩,loW xs,loW xs⟩:Hd)].flatMap W2) (L:=L) rfl rfl zat hO (by repeat (first | exact .cons .here .nil | exact QD | exact Qw | apply QC | apply QB)) ⟨rfl,fun _=>rfl,by repeat (first | exact zyc | apply zyb | apply zyd)⟩ (ztQ _) (by omega) rfl rfl ?_
   intro v9 L9 hO9 _;rw [←List.flatMap_append] at hO9
   refine zA (Qb (Qh (Qa (Qg ?_))))
   refine zB ?_
   refine zM (Qb ?_)
   exact zd (h:=⟨xs.length-(i+1),by omega,i+1,_,_,_,rfl,rfl,hB6,rfl,by omega,hO9,by rw [XH];exact hre.snoc (hd:=⟨some ⟨b127,0,none⟩,loW xs,loW xs⟩) hRow⟩)
  rintro c bd pre I1 loc1 hI1 hpre hF;exact hF.elim
 have hge_i:xs.length≤i:=by have h:=hc122;simp at h;omega
 obtain rfl:i=xs.length:=by omega
 refine QI (Qf (Qf (Qk (Qa (zR (zM ?_))))))
 refine zA ?_
 refine zA (zN (Qt ?_))
 first
 | exact KY (L:=L) (fun a ha w hw=>zvB rfl rfl rfl a ha w) (fun w hw=>by obtain ⟨I9,av9,c9,h1',h2',e9,h4'⟩:=OwnS.freeze (R:=[]) hO Za (by decide) (by rw [List.append_nil];exact hw);cases e9;exact ⟨_,I9,[],rfl,hIc.trans h1',h2',rfl,va2,vc2,by rw [t1,t2,List.length_map,List.length_range],by rw [t2,List.length_map,List.length_range];exact ⟨os,h4',hre.mono h1'⟩⟩)
end
section
open Go Go.Kn Go.Proofs
structure Em where
 locus:Int
 code:Int
 reason:Int
def Yy (e:Em):List Value:=[.int .i64 e.locus,.int .i64 e.code,.int .i64 e.reason]
theorem XZ (e:Em):(Yy e).length=3:=rfl
theorem ztx (xs:List Em):Yx (xs.flatMap Yy)=true:=Yl (fun _=>rfl) xs
def r1F (code:Int)(b:Bool):Bool:=(b&&code != 0)&&code != 8589934592
def r2F (code:Int)(b:Bool):Bool:=(UG code==0)&& !b
def r3F (code:Int)(_:Bool):Bool:=code==0
def rsF (r code:Int)(b:Bool):Bool:=if r=1 then r1F code b else if r=2 then r2F code b else if r=3 then r3F code b else false
def zeW (rows:List (List Int))(e:Em):Bool:=rows.any fun r=>r.getD e.locus.toNat 0==e.code
def zgu (rows:List (List Int))(m:Nat)(l:Int)(e:Em):Bool:=decide (e.locus≤l)||(decide (e.locus≥(m:Int))|| !rsF e.reason e.code (zeW rows e))
def WT (rows:List (List Int))(m:Nat):Int→List Em→Bool
 | _,[]=>true
 | l,e::es=> !zgu rows m l e&&WT rows m e.locus es
theorem VK {rows:List (List Int)}{m k:Nat}{l:Int}{es:List Em}{e:Em}(h:es[k]? =some e)(hb:zgu rows m l e=true):WT rows m l (es.drop k)=false:=by rw [Z2 h];unfold WT;rw [hb];rfl
theorem zf1 {rows:List (List Int)}{m k:Nat}{l:Int}{es:List Em}{e:Em}(h:es[k]? =some e)(hb:zgu rows m l e=false):WT rows m l (es.drop k)=WT rows m e.locus (es.drop (k+1)):=by
 rw [Z2 h]
 show (!zgu rows m l e&&WT rows m e.locus (es.drop (k+1)))=_
 rw [hb];rfl
theorem ziU {rows:List (List Int)}{m k:Nat}{l:Int}{es:List Em}(h:es.length≤k):WT rows m l (es.drop k)=true:=by rw [List.drop_eq_nil_of_le h];rfl
theorem zvA {rows:List (List Int)}{m:Nat}{l:Int}{e:Em}(h1:e.reason≠1)(h2:e.reason≠2)(h3:e.reason≠3):zgu rows m l e=true:=by unfold zgu rsF;rw [if_neg h1,if_neg h2,if_neg h3];simp
theorem ztP {rows:List (List Int)}{m:Nat}{l:Int}{e:Em}(h:decide (e.locus≤l)=true):zgu rows m l e=true:=by unfold zgu;rw [h];rfl
theorem zsA {rows:List (List Int)}{m:Nat}{l:Int}{e:Em}(h:decide (e.locus≥(m:Int))=true):zgu rows m l e=true:=by unfold zgu;rw [h];simp
theorem zmP {rows:List (List Int)}{m:Nat}{l:Int}{e:Em}{t:Bool}(h1:decide (e.locus≤l)=false)(h2:decide (e.locus≥(m:Int))=false)(h3:(!rsF e.reason e.code (zeW rows e))=t):zgu rows m l e=t:=by unfold zgu;rw [h1,h2,h3];rfl
theorem zlX (_rows:List (List Int))(m:Nat)(l:Int)(e:Em):decide (e.locus≤l)=true∨(decide (e.locus≤l)=false∧decide (e.locus≥(m:Int))=true)∨(decide (e.locus≤l)=false∧decide (e.locus≥(m:Int))=false):=by
 cases decide (e.locus≤l)<;>cases decide (e.locus≥(m:Int))<;>simp
/-! ### The readings -/
def lfK (es:List Em):Nat→List Em
 | 0=>es
 | k+1=>match lfK es k with
  | []=>[]
  | e::r=>if e.locus=(k:Int) then r else e::r
def WU (rows:List (List Int))(cl:List Int)(k:Nat):Int:=if (JB rows cl k).any (fun y=>(rows.getD 0 []).getD k 0==y)=true then (rows.getD 0 []).getD k 0 else (JB rows cl k).getD 0 0
def Wo (rows:List (List Int))(cl:List Int)(es:List Em)(k:Nat):Int:=match lfK es k with
 | []=>WU rows cl k
 | e::_=>if e.locus=(k:Int) then e.code else WU rows cl k
def VG (rows:List (List Int))(cl:List Int)(es:List Em):List Int:=(List.range (rows.getD 0 []).length).map (Wo rows cl es)
theorem zuw {es:List Em}{k:Nat}(h:lfK es k=[]):lfK es (k+1)=[]:=by show (match lfK es k with | []=>[] | e::r=>if e.locus=(k:Int) then r else e::r)=_;rw [h]
theorem zsD {es:List Em}{k:Nat}{e:Em}{r:List Em}(h:lfK es k=e::r)(he:e.locus=(k:Int)):lfK es (k+1)=r:=by show (match lfK es k with | []=>[] | e::r=>if e.locus=(k:Int) then r else e::r)=_;rw [h];exact if_pos he
theorem zxy {es:List Em}{k:Nat}{e:Em}{r:List Em}(h:lfK es k=e::r)(he:¬e.locus=(k:Int)):lfK es (k+1)=e::r:=by show (match lfK es k with | []=>[] | e::r=>if e.locus=(k:Int) then r else e::r)=_;rw [h];exact if_neg he
theorem zs7 {rows:List (List Int)}{cl:List Int}{es:List Em}{k:Nat}(h:lfK es k=[]):Wo rows cl es k=WU rows cl k:=by unfold Wo;rw [h]
theorem zte {rows:List (List Int)}{cl:List Int}{es:List Em}{k:Nat}{e:Em}{r:List Em}(h:lfK es k=e::r)(he:e.locus=(k:Int)):Wo rows cl es k=e.code:=by unfold Wo;rw [h];exact if_pos he
theorem zwu {rows:List (List Int)}{cl:List Int}{es:List Em}{k:Nat}{e:Em}{r:List Em}(h:lfK es k=e::r)(he:¬e.locus=(k:Int)):Wo rows cl es k=WU rows cl k:=by unfold Wo;rw [h];exact if_neg he
def U9 (rows:List (List Int))(no:Int)(cl:List Int)(es:List Em):Int:=
 if YH rows cl≠0 then YH rows cl else if (decide (no<0)||decide (no>1048576))=true then 430 else if WT rows (rows.getD 0 []).length (-1) es=true then 0 else 430
theorem zh5 {rows:List (List Int)}{no:Int}{cl:List Int}{es:List Em}(h:YH rows cl≠0):U9 rows no cl es=YH rows cl:=by unfold U9;rw [if_pos h]
theorem zn4 {rows:List (List Int)}{no:Int}{cl:List Int}{es:List Em}(h:YH rows cl=0)(h2:(decide (no<0)||decide (no>1048576))=true):U9 rows no cl es=430:=by unfold U9;rw [if_neg (by omega),if_pos h2]
theorem WJ {rows:List (List Int)}{no:Int}{cl:List Int}{es:List Em}(h:YH rows cl=0)(h2:(decide (no<0)||decide (no>1048576))=false)(h3:WT rows (rows.getD 0 []).length (-1) es=false):U9 rows no cl es=430:=by unfold U9;rw [if_neg (by omega),if_neg (by rw [h2];decide),if_neg (by rw [h3];decide)]
theorem zmL {rows:List (List Int)}{no:Int}{cl:List Int}{es:List Em}(h:YH rows cl=0)(h2:(decide (no<0)||decide (no>1048576))=false)(h3:WT rows (rows.getD 0 []).length (-1) es=true):U9 rows no cl es=0:=by unfold U9;rw [if_neg (by omega),if_neg (by rw [h2];decide),if_pos h3]
def Z1 (no:Int)(a1:Option Addr)(n1 c1:Nat)(a2:Option Addr)(n2 c2:Nat)(a3:Option Addr)(n3 c3:Nat):List Value:=[.int .i64 no,.slice a1 n1 c1,.slice a2 n2 c2,.slice a3 n3 c3]
def zxF (I:Qu)(vs:List Value)(no:Int)(cl:List Int)(es:List Em)(rd:List Int):Prop:=∃ a1 n1 c1 a2 n2 c2 a3 n3 c3,vs=Z1 no a1 n1 c1 a2 n2 c2 a3 n3 c3∧Sl I 1 QR a1 n1 c1 cl∧Sl I 3 Yy a2 n2 c2 es∧Sl I 1 QR a3 n3 c3 rd
def zxe (rows:List (List Int))(no:Int)(cl:List Int)(es:List Em):Value→Qu→Go.Kn.Loc→Prop:=fun v I' L=>L=[]∧∃ vs,v= .tuple #[.agg vs.toArray,.int .i64 (U9 rows no cl es)]∧
 ((U9 rows no cl es=0∧zxF I' vs no cl es (VG rows cl es))∨(U9 rows no cl es≠0∧zxF I' vs 0 [] [] []))
theorem zkL {rows:List (List Int)}{cl:List Int}{k:Nat}(h:YH rows cl=0)(hk:k<(rows.getD 0 []).length):(UH rows cl)[k]? =some (JB rows cl k):=by rw [Xc h,List.getElem?_map,List.getElem?_range hk];rfl
theorem zg8 {rows:List (List Int)}{cl:List Int}(h:YH rows cl=0):(UH rows cl).length=(rows.getD 0 []).length:=by rw [Xc h,List.length_map,List.length_range]
end
section
open Go Go.Kn Go.Proofs
theorem zm0:ElT Tryz.prog 24 67 3 24:=.of (by kernel_rfl)
theorem VX:QW Tryz.prog 67 0 0:=.of (by kernel_rfl)
theorem zaX:QW Tryz.prog 67 1 1:=.of (by kernel_rfl)
theorem zpT:Fun Tryz.prog 106:=.of Tryz.func106 (by kernel_rfl) (by kernel_rfl)
theorem ztI:Fun Tryz.prog 54:=.of Tryz.func54 (by kernel_rfl) (by kernel_rfl)
theorem zm8:Fun Tryz.prog 63:=.of Tryz.func63 (by kernel_rfl) (by kernel_rfl)
theorem X5:MpT Tryz.prog 120 3 124 (.agg #[.nilFunc]):=⟨by kernel_rfl,.of (by kernel_rfl)⟩
theorem zeb:PlT Tryz.prog 124 #[(0,1)] (.agg #[.nilFunc]):=⟨.of (by kernel_rfl),by kernel_rfl,fun w=>by kernel_rfl⟩
theorem zv9 (I:Qu)(code:Int)(b:Bool):Zw Tryz.prog 97 [.int .i64 code,.bool b] I (.bool (r1F code b)):=by
 intro g H w hw
 refine qe Tryz.func97 Tryz.ntmps97 hw ?_
 refine zR (zA ?_)
 refine zN (zR ?_)
 refine zM ?_
 refine zM ?_
 refine QE 1 rfl rfl rfl ?_
 refine zK (Qi rfl) ?_
 refine zK (QH rfl rfl rfl) ?_
 refine QP rfl rfl rfl rfl rfl ?_
 refine zM ?_
 refine QE 5 rfl rfl rfl ?_
 refine zK (Qi rfl) ?_
 refine zK (QH rfl rfl rfl) ?_
 refine QP rfl rfl rfl rfl rfl ?_
 refine zA (zN (Qt ?_))
 exact zr rfl rfl (by rfl)
theorem zwc (I:Qu)(code:Int)(b:Bool):Zw Tryz.prog 98 [.int .i64 code,.bool b] I (.bool (r2F code b)):=by
 intro g H w hw
 refine qe Tryz.func98 Tryz.ntmps98 hw ?_
 have hIc:=zye I
 refine zR (zA ?_)
 refine zN (zR ?_)
 refine zM ?_
 refine qc (vs:=[_]) rfl zjX (zgN _ _) ?_
 refine zM ?_
 refine zE ?_
 refine zE ?_
 refine Qr WX rfl rfl (fun b_5=>?_)
 refine zh Vx ?_
 refine zA ?_
 refine zN (zR ?_)
 refine zM ?_
 refine zC ?_
 refine zM ?_
 refine QE 2 rfl rfl rfl ?_
 refine zK (Qi rfl) ?_
 refine zK (Vy rfl) ?_
 refine QP rfl rfl rfl rfl rfl ?_
 refine zA (zN (Qt ?_))
 exact zp hIc rfl rfl (by rfl)
theorem zwO (I:Qu)(code:Int)(b:Bool):Zw Tryz.prog 99 [.int .i64 code,.bool b] I (.bool (r3F code b)):=by
 intro g H w hw
 refine qe Tryz.func99 Tryz.ntmps99 hw ?_
 refine zR (zA ?_)
 refine zN (zR ?_)
 refine zM ?_
 refine zC ?_
 refine zA (zN (Qt ?_))
 exact zr rfl rfl (by rfl)
def rsV (f:Nat):Value:=.agg #[.func (.func f) #[] #[]]
def rsM:List (Int×Nat):=[(1,97),(2,98),(3,99)]
theorem zjB (I:Qu):Yg Tryz.prog 52 [] I [] (fun v I' L=>L=[]∧∃ r,v= .map (some r)∧I' r=some (ZR (Value.int .i64) rsV rsM)):=by
 intro g H w hw
 refine qe Tryz.func52 Tryz.ntmps52 hw ?_
 have hIc:=zye I
 refine zR (zA ?_)
 refine zN (zR ?_)
 refine ZD rfl rfl (fun r_1=>?_)
 refine zV (QS (ps:=[(0,_)]) [_] zeb rfl rfl) ?_
 refine UU (m:=[]) (ek:=Value.int .i64) (ev:=rsV) 97 X5 ZE rfl rfl rfl rfl (by repeat (first | exact Upd.here | apply Upd.there | apply QJ)) ?_
 refine zV (QS (ps:=[(0,_)]) [_] zeb rfl rfl) ?_
 refine UU (m:=[(1,97)]) (ek:=Value.int .i64) (ev:=rsV) 98 X5 ZE rfl rfl rfl rfl (by repeat (first | exact Upd.here | apply Upd.there | apply QJ)) ?_
 refine zV (QS (ps:=[(0,_)]) [_] zeb rfl rfl) ?_
 refine UU (m:=[(1,97),(2,98)]) (ek:=Value.int .i64) (ev:=rsV) 99 X5 ZE rfl rfl rfl rfl (by repeat (first | exact Upd.here | apply Upd.there | apply QJ)) ?_
 refine zM ?_
 refine zA (zN (Qt ?_))
 refine QL .here (fun I9 h9 e9=>?_)
 exact Zv rfl rfl (fun w hw=>⟨_,I9,[],rfl,hIc.trans h9,hw,rfl,r_1,rfl,e9⟩)
theorem zxu {I:Qu}{av:Option Addr}{n c:Nat}{v:List Int}(hQ:Sl I 1 QR av n c v){b:Nat}{e:Em}(hb:I b=some (.cells (Yy e).toArray 67 (0,0)))(h0:0≤e.locus)(hl:e.locus.toNat<n):Zw Tryz.prog 54 [.slice av n c,Zb b] I (.bool (v.getD e.locus.toNat 0==e.code)):=by
 intro g H w hw
 refine qe Tryz.func54 Tryz.ntmps54 hw ?_
 refine zR (zA (zN (Ql ?_)))
 refine YU mixed (by kernel_rfl) ?_
 refine zq (Qi rfl) ?_
 refine zq (Qe rfl VX) ?_
 refine zq (Qd rfl Qs (fun hg=>by exact .imm hb rfl)) ?_
 refine zq (zX Qy hQ) ?_
 refine zq (Qd rfl Qs (fun hg=>by exact zx7 (k:=e.locus.toNat) hQ (Zk (d:=0) hQ.len hl) rfl)) ?_
 refine zq (Qe rfl zaX) ?_
 refine zq (Qd rfl Qs (fun hg=>by exact .imm hb rfl)) ?_
 refine zq (QH rfl rfl rfl) ?_
 refine zq (ZP rfl) ?_
 refine YV ?_
 refine Qa (Qt ?_)
 exact zr rfl rfl (by rfl)
theorem zlD {I:Qu}{bv:Option Addr}{n2 c2:Nat}{rows:List (List Int)}(hV:SlN I bv n2 c2 rows)(hn:n2≤100000){b:Nat}{e:Em}(hb:I b=some (.cells (Yy e).toArray 67 (0,0)))(h0:0≤e.locus)(hl:∀ r∈rows,e.locus.toNat<r.length):Zw Tryz.prog 100 [.slice bv n2 c2,.func (.func 54) #[] [Zb b].toArray] I (.int .i64 (K8 (fun r:List Int=>r.getD e.locus.toNat 0==e.code) rows)):=by
 intro g H w hw
 refine qe Tryz.func100 Tryz.ntmps100 hw ?_
 have hlV:=hV.len
 obtain ⟨hs,hV⟩:=hV
 have hH:=hV.1
 refine zR (zA (zN (Ql (zR ?_))))
 refine zM ?_
 refine zQ Zo ?_
 refine zM (zN (Qm ?_))
 refine zU [(0,_),(1,_),(7,_)] (fun T L0 mz E I' loc'=>∃ (k:Nat),mz=n2-k∧E=(8,.int .i64 k)::T∧I=I'∧L0=loc'∧k≤n2∧(rows.take k).any (fun r:List Int=>r.getD e.locus.toNat 0==e.code)=false) ?_ (h:=⟨0,rfl,rfl,rfl,rfl,Nat.zero_le _,rfl⟩)
 rintro mz E I' loc' ⟨k,rfl,rfl,rfl,rfl,hk,hno⟩
 refine zR (zC (zN (Ql ?_)))
 refine zI ?_ ?_<;>intro hc9
 ·
  have hlt_k:k<n2:=by have h:=hc9;simp at h;omega
  obtain ⟨x,v,hx,hv,hQ⟩:=hV.at hlt_k
  refine Qo (Qa (Ql (Qm (zR (zM ?_)))))
  refine zA ?_
  refine zN (zR ?_)
  refine zM ?_
  refine zM ?_
  refine zM ?_
  refine zV (zX Zo hH) ?_
  refine zV (Qd rfl QK (fun hg=>by exact zx7 hH hx rfl)) ?_
  refine YQ (cap:=[Zb b]) (vs:=[_]) rfl rfl ztI (zxu hQ hb h0 (by rw [←hQ.len];exact hl _ (List.mem_of_getElem? hv))) rfl rfl ?_
  refine zN ?_
  refine zI ?_ ?_<;>intro hc16
  ·
   refine zR (zM ?_)
   refine zA (zN (Qt (Qn (Qc (Qc (Qn (Qc ?_)))))))
   exact zr rfl rfl (by rw [Jd hno hv hc16])
  refine Qo (Qh (Qa (Qg (zB ?_))))
  refine zM (Qb ?_)
  exact zm (h:=⟨n2-(k+1),by omega,k+1,rfl,rfl,rfl,rfl,by omega,YX hv hno hc16⟩)
 have hge_k:n2≤k:=by have h:=hc9;simp at h;omega
 refine QI (Qf (Qf (Qk (Qa (zR (zA (zN ?_)))))))
 refine Qt ?_
 exact zr rfl rfl (by rw [Vv hlV hge_k hno])
theorem zd1 {I:Qu}{bv:Option Addr}{n2 c2:Nat}{rows:List (List Int)}(hV:SlN I bv n2 c2 rows)(hn:n2≤100000){b:Nat}{e:Em}(hb:I b=some (.cells (Yy e).toArray 67 (0,0)))(h0:0≤e.locus)(hl:∀ r∈rows,e.locus.toNat<r.length):Zw Tryz.prog 53 [.slice bv n2 c2,.func (.func 54) #[] [Zb b].toArray] I (.bool (zeW rows e)):=by
 intro g H w hw
 refine qe Tryz.func53 Tryz.ntmps53 hw ?_
 refine zR (zA ?_)
 refine zN (zR ?_)
 refine zM ?_
 refine zM ?_
 refine qc (vs:=[_,_]) rfl zbM (zlD hV hn hb h0 hl) ?_
 refine zC ?_
 refine zA (zN (Qt ?_))
 exact zr rfl rfl (by unfold zeW;rw [←KE])
theorem zbS {I:Qu}{av:Option Addr}{n c:Nat}{xs:List Int}(hS:Sl I 1 QR av n c xs)(hn:n≤400000):Yg Tryz.prog 55 [.slice av n c] I [] (fun v I' L=>I'=I∧OwnS 3 1 v n (xs.flatMap QR) L):=by
 intro g H w hw
 refine qe Tryz.func55 Tryz.ntmps55 hw ?_
 refine zR (zA (zN (Ql (zR ?_))))
 refine zM ?_
 refine zV (Xl rfl rfl Qy) ?_
 refine zN ?_
 refine zI ?_ ?_<;>intro hc4
 ·
  have hn0:n=0:=Decidable.byContradiction fun h=>by have:=hS.base h;rw [this] at hc4;cases hc4
  have hl:=hS.len
  subst hn0
  have hx0:=List.eq_nil_of_length_eq_zero hl
  subst hx0
  refine zR (zA (zN (Qt (Qc ?_))))
  exact Zv rfl rfl (fun w hw=>⟨_,I,_,rfl,zye _,hw,rfl,OwnS.nil⟩)
 refine Qo (Qa (zR ?_))
 refine Qq (ps:=[]) (m:=[]) Zi rfl (.nil) rfl (by simp) (by decide) (by decide) rfl rfl (fun b_5=>?_)
 refine zM ?_
 refine QY (v:=_) (ys:=xs.flatMap QR) (L:=[(b_5,_)]) rfl rfl Zi OwnS.new (by repeat (first | exact .cons .here .nil | exact QD | exact Qw | apply QC | apply QB)) (hS.src Qv) (JG _) (by omega) rfl rfl ?_
 intro v1 L1 hO1 _;rw [List.nil_append,Nat.zero_add] at hO1
 refine zA (zN (Qt ?_))
 exact Zv rfl rfl (fun w hw=>⟨_,I,_,rfl,zye _,hw.subL Zg,rfl,hO1⟩)
theorem zk6 {I:Qu}{av:Option Addr}{n c:Nat}{xs:List Em}(hS:Sl I 3 Yy av n c xs)(hn:n≤400000):Yg Tryz.prog 56 [.slice av n c] I [] (fun v I' L=>I'=I∧OwnS 67 3 v n (xs.flatMap Yy) L):=by
 intro g H w hw
 refine qe Tryz.func56 Tryz.ntmps56 hw ?_
 refine zR (zA (zN (Ql (zR ?_))))
 refine zM ?_
 refine zV (Xl rfl rfl K5) ?_
 refine zN ?_
 refine zI ?_ ?_<;>intro hc4
 ·
  have hn0:n=0:=Decidable.byContradiction fun h=>by have:=hS.base h;rw [this] at hc4;cases hc4
  have hl:=hS.len
  subst hn0
  have hx0:=List.eq_nil_of_length_eq_zero hl
  subst hx0
  refine zR (zA (zN (Qt (Qc ?_))))
  exact Zv rfl rfl (fun w hw=>⟨_,I,_,rfl,zye _,hw,rfl,OwnS.nil⟩)
 refine Qo (Qa (zR ?_))
 refine Qq (ps:=[]) (m:=[]) zm0 rfl (.nil) rfl (by simp) (by decide) (by decide) rfl rfl (fun b_5=>?_)
 refine zM ?_
 refine QY (v:=_) (ys:=xs.flatMap Yy) (L:=[(b_5,_)]) rfl rfl zm0 OwnS.new (by repeat (first | exact .cons .here .nil | exact QD | exact Qw | apply QC | apply QB)) (hS.src XZ) (ztx _) (by omega) rfl rfl ?_
 intro v1 L1 hO1 _;rw [List.nil_append,Nat.zero_add] at hO1
 refine zA (zN (Qt ?_))
 exact Zv rfl rfl (fun w hw=>⟨_,I,_,rfl,zye _,hw.subL Zg,rfl,hO1⟩)
theorem zk3 {I:Qu}{av:Option Addr}{n c:Nat}{xs:List Int}(hS:Sl I 1 QR av n c xs){bv:Option Addr}{n2 c2:Nat}{ys:List Int}(hT:Sl I 1 QR bv n2 c2 ys)(hn:n≤100000):Zw Tryz.prog 106 [.slice av n c,.slice bv n2 c2] I (.bool (decide (xs=ys))):=by
 intro g H w hw
 refine qe Tryz.func106 Tryz.ntmps106 hw ?_
 have hl1:=hS.len
 have hl2:=hT.len
 refine zR (zA (zN (Ql (zR ?_))))
 refine zM ?_
 refine zQ Qy ?_
 refine zM ?_
 refine zQ Qy ?_
 refine zC (zN ?_)
 refine zI ?_ ?_<;>intro hc10
 ·
  have hne:xs≠ys:=fun e=>by have h:=hc10;subst e;simp at h;omega
  refine zR (zA (zN (Qt (Qc ?_))))
  exact zr rfl rfl (by rw [decide_eq_false hne])
 have hnn:n=n2:=by have h:=hc10;simp at h;omega
 refine Qo (Qa (Ql (zR (zM ?_))))
 refine zQ Qy ?_
 refine zM (zN (Qm ?_))
 refine zU [(0,_),(1,_),(12,_)] (fun T L0 mz E I' loc'=>∃ (k:Nat),mz=n-k∧E=(13,.int .i64 k)::T∧I=I'∧L0=loc'∧k≤n∧xs.take k=ys.take k) ?_ (h:=⟨0,rfl,rfl,rfl,rfl,Nat.zero_le _,rfl⟩)
 rintro mz E I' loc' ⟨k,rfl,rfl,rfl,rfl,hk,hall⟩
 refine zR (zC (zN (Ql ?_)))
 refine zI ?_ ?_<;>intro hc14
 ·
  have hlt_k:k<n:=by have h:=hc14;simp at h;omega
  obtain ⟨x,hx⟩:=hS.at hlt_k
  obtain ⟨y,hy⟩:=hT.at (show k<n2 by omega)
  refine Qo (Qa (Ql (Qm (zR (zM ?_)))))
  refine zA (zN (Ql ?_))
  refine YU mixed (by kernel_rfl) ?_
  refine zq (Qi rfl) ?_
  refine zq (Qi rfl) ?_
  refine zq (zX Qy hS) ?_
  refine zq (Qd rfl Qs (fun hg=>by exact zx7 hS hx rfl)) ?_
  refine zq (Qi rfl) ?_
  refine zq (Qi rfl) ?_
  refine zq (zX Qy hT) ?_
  refine zq (Qd rfl Qs (fun hg=>by exact zx7 hT hy rfl)) ?_
  refine zq (QH rfl rfl rfl) ?_
  refine YV ?_
  refine Qa ?_
  refine zI ?_ ?_<;>intro hc24
  ·
   have hne:xs≠ys:=fun e=>by subst e;rw [hx] at hy;cases hy;simp at hc24
   refine zR (zA (zN (Qt (Qn (Qc (Qc (Qn ?_)))))))
   refine Qc ?_
   exact zr rfl rfl (by rw [decide_eq_false hne])
  have hxy:x=y:=by simpa using hc24
  refine Qo (Qh (Qa (Qg (zB ?_))))
  refine zM (Qb ?_)
  exact zm (h:=⟨n-(k+1),by omega,k+1,rfl,rfl,rfl,rfl,by omega,by rw [List.take_add_one,List.take_add_one,hall,hx,hy,hxy]⟩)
 have hge_k:n≤k:=by have h:=hc14;simp at h;omega
 have heq:xs=ys:=by rw [List.take_of_length_le (by omega),List.take_of_length_le (by omega)] at hall;exact hall
 refine QI (Qf (Qf (Qk (Qa (zR (zA (zN ?_)))))))
 refine Qt ?_
 exact zr rfl rfl (by rw [decide_eq_true heq])
theorem zjx {I:Qu}{av:Option Addr}{n c:Nat}{xs:List Int}(hS:Sl I 1 QR av n c xs){bv:Option Addr}{n2 c2:Nat}{ys:List Int}(hT:Sl I 1 QR bv n2 c2 ys)(hn:n≤100000):Zw Tryz.prog 63 [.slice av n c,.slice bv n2 c2] I (.bool (decide (xs=ys))):=by
 intro g H w hw
 refine qe Tryz.func63 Tryz.ntmps63 hw ?_
 refine zR (zA ?_)
 refine zN (zR ?_)
 refine zM ?_
 refine zM ?_
 refine qc (vs:=[_,_]) rfl zpT (zk3 hS hT hn) ?_
 refine zA (zN (Qt ?_))
 exact zr rfl rfl (by rfl)
theorem zkP {I:Qu}{av:Option Addr}{n c:Nat}{xs:List (List Int)}(hS:SlN I av n c xs){bv:Option Addr}{n2 c2:Nat}{ys:List (List Int)}(hT:SlN I bv n2 c2 ys)(hn:n≤100000)(hn3:∀ x∈xs,x.length≤100000):Zw Tryz.prog 82 [.slice av n c,.slice bv n2 c2,.func (.func 63) #[] #[]] I (.bool (decide (xs=ys))):=by
 intro g H w hw
 refine qe Tryz.func82 Tryz.ntmps82 hw ?_
 have hl1:=hS.len
 have hl2:=hT.len
 obtain ⟨hs,hS⟩:=hS
 have hH:=hS.1
 obtain ⟨gs,hT⟩:=hT
 have hG:=hT.1
 refine zR (zA (zN (Ql (zR ?_))))
 refine zM ?_
 refine zQ Zo ?_
 refine zM ?_
 refine zQ Zo ?_
 refine zC (zN ?_)
 refine zI ?_ ?_<;>intro hc14
 ·
  have hne:xs≠ys:=fun e=>by have h:=hc14;subst e;simp at h;omega
  refine zR (zA (zN (Qt (Qc ?_))))
  exact zr rfl rfl (by rw [decide_eq_false hne])
 have hnn:n=n2:=by have h:=hc14;simp at h;omega
 refine Qo (Qa (Ql (zR (zM ?_))))
 refine zQ Zo ?_
 refine zM (zN (Qm ?_))
 refine zU [(1,_),(2,_),(15,_),(16,_)] (fun T L0 mz E I' loc'=>∃ (k:Nat),mz=n-k∧E=(17,.int .i64 k)::T∧I=I'∧L0=loc'∧k≤n∧xs.take k=ys.take k) ?_ (h:=⟨0,rfl,rfl,rfl,rfl,Nat.zero_le _,rfl⟩)
 rintro mz E I' loc' ⟨k,rfl,rfl,rfl,rfl,hk,hall⟩
 refine zR (zC (zN (Ql ?_)))
 refine zI ?_ ?_<;>intro hc18
 ·
  have hlt_k:k<n:=by have h:=hc18;simp at h;omega
  obtain ⟨x,u,hx,hu,hP⟩:=hS.at hlt_k
  obtain ⟨y,v,hy,hv,hQ⟩:=hT.at (show k<n2 by omega)
  refine Qo (Qa (Ql (Qm (zR (zM ?_)))))
  refine zV (zX Zo hH) ?_
  refine zV (Qd rfl QK (fun hg=>by exact zx7 hH hx rfl)) ?_
  refine zA ?_
  refine zA ?_
  refine zN (zR ?_)
  refine zM ?_
  refine zM ?_
  refine zV (zX Zo hG) ?_
  refine zV (Qd rfl QK (fun hg=>by exact zx7 hG hy rfl)) ?_
  refine zA ?_
  refine zN (zR ?_)
  refine zM ?_
  refine zM ?_
  refine zM ?_
  refine qc (vs:=[_,_]) rfl zm8 (zjx hP hQ (by rw [←hP.len];exact hn3 _ (List.mem_of_getElem? hu))) ?_
  refine zO (zN ?_)
  refine zI ?_ ?_<;>intro hc30
  ·
   have hne:xs≠ys:=fun e=>by subst e;rw [hu] at hv;cases hv;simp at hc30
   refine zR (zA (zN (Qt (Qn (Qc (Qc (Qn ?_)))))))
   refine Qc ?_
   exact zr rfl rfl (by rw [decide_eq_false hne])
  have huv:u=v:=by simpa using hc30
  refine Qo (Qh (Qa (Qg (zB ?_))))
  refine zM (Qb ?_)
  exact zm (h:=⟨n-(k+1),by omega,k+1,rfl,rfl,rfl,rfl,by omega,by rw [List.take_add_one,List.take_add_one,hall,hu,hv,huv]⟩)
 have hge_k:n≤k:=by have h:=hc18;simp at h;omega
 have heq:xs=ys:=by rw [List.take_of_length_le (by omega),List.take_of_length_le (by omega)] at hall;exact hall
 refine QI (Qf (Qf (Qk (Qa (zR (zA (zN ?_)))))))
 refine Qt ?_
 exact zr rfl rfl (by rw [decide_eq_true heq])
end
section
open Go Go.Kn Go.Proofs
theorem zkU {rows:List (List Int)}{cl:List Int}{l:Nat}:0<(JB rows cl l).length:=by
 have hne:zhg rows cl l≠[]:=fun e=>by
  have h1:=zgQ (rows:=rows) (cl:=cl) (l:=l)
  have h2:=zgR (rows:=rows) (l:=l)
  rw [e] at h1;simp at h1;omega
 obtain ⟨h1,_⟩:=za0 hne
 rw [zbw] at h1
 obtain ⟨x,hx,e⟩:=List.mem_map.1 h1
 refine List.length_pos_of_mem (a:=x) ?_
 unfold JB
 rw [List.mem_filter]
 exact ⟨hx,by rw [e,zbw];simp⟩
theorem zlN {rows:List (List Int)}{cl:List Int}{k:Nat}(h:(JB rows cl k).any (fun y=>(rows.getD 0 []).getD k 0==y)=true):(rows.getD 0 []).getD k 0=WU rows cl k:=by unfold WU;rw [if_pos h]
theorem zpP {rows:List (List Int)}{cl:List Int}{k:Nat}(h:(JB rows cl k).any (fun y=>(rows.getD 0 []).getD k 0==y)=false):(JB rows cl k).getD 0 0=WU rows cl k:=by unfold WU;rw [if_neg (by rw [h];decide)]
def zhp:Em:=⟨0,0,0⟩
theorem zaR {rows:List (List Int)}{cl:List Int}{es lf:List Em}{k:Nat}(hl:lf=lfK es k)(h:(decide ((lf.length:Int)>0)&&((lf.getD 0 zhp).locus==(k:Int)))=true):(lf.getD 0 zhp).code=Wo rows cl es k∧lf.drop 1=lfK es (k+1)∧0<lf.length:=by
 cases lf with
 | nil=>simp at h
 | cons e r=>
  have he:e.locus=(k:Int):=by simpa using h
  exact ⟨(zte hl.symm he).symm,(zsD hl.symm he).symm,by simp⟩
theorem zhD {rows:List (List Int)}{cl:List Int}{es lf:List Em}{k:Nat}(hl:lf=lfK es k)(h:(decide ((lf.length:Int)>0)&&((lf.getD 0 zhp).locus==(k:Int)))=false):WU rows cl k=Wo rows cl es k∧lf=lfK es (k+1):=by
 cases lf with
 | nil=>exact ⟨(zs7 hl.symm).symm,(zuw hl.symm).symm⟩
 | cons e r=>
  have he:¬e.locus=(k:Int):=by
   intro he
   have h3:(e.locus==(k:Int))=false:=by simpa using h
   rw [he] at h3;simp at h3
  exact ⟨(zwu hl.symm he).symm,(zxy hl.symm he).symm⟩
theorem Xn {rows:List (List Int)}{cl:List Int}{es:List Em}:(VG rows cl es).length=(rows.getD 0 []).length:=by unfold VG;simp
end
end Go.Proofs.YtodakphagkommaaGreatDoor
section
namespace Go
def Exit.straight (Q:Exit→Act→World→Prop):Exit→Act→World→Prop
 | .goto _,_,_=>False
 | .normal,a,w=>Q .normal a w
 | .exit i,a,w=>Q (.exit i) a w
 | .ret,a,w=>Q .ret a w
 | .panic c,a,w=>Q (.panic c) a w
 | .outgrown,a,w=>Q .outgrown a w
section
variable {P:Program} {F:Fence} {n:Nat} {b:Frame} {a:Act} {k:List Item} {cs:List Frame} {w:World} {Q:Exit→Act→World→Prop}
theorem Vn {c:Code}:step P (lone (b.atR a (.code (.scope c)::k)) cs w)= .next (lone (b.atR a (.code c:: .inScope c::k)) cs w):=
 step_lone_go (by simp [stepG,stepG.exec,Frame.atR])
theorem zbf {c:Code}:step P (lone (b.atR a (.inScope c::k)) cs w)= .next (lone (b.atR a k) cs w):=
 step_lone_go (by simp [stepG,stepG.exec,Frame.atR])
theorem K9 {c:Code}(h:c.wpIn F n P (Exit.straight Q) a w):(Code.scope c).wpIn F n P Q a w:=by
 intro b k cs hro hb hr
 have h0:(lone (b.atR a (.code (.scope c)::k)) cs w).fenced P F:=fenced_calm hb hr rfl
 obtain ⟨e,a₁,w₁,hq,harr⟩:=h b (.inScope c::k) cs hro hb hr
 cases e with
 | normal=>exact ⟨.normal,a₁,w₁,hq,.head h0 Vn (StepsIn.trans harr (.one (fenced_calm hb hr rfl) zbf))⟩
 | exit id=>
  have hx:exitTo id (.inScope c::k)=exitTo id k:=by simp [exitTo]
  exact ⟨_,a₁,w₁,hq,fun k' hk=>.head h0 Vn (harr.1 k' (by rw [hx];exact hk)),
   fun hr' hk=>let ⟨k₁,h1,h2⟩:=harr.2 hr' (by rw [hx];exact hk);⟨k₁,h1,.head h0 Vn h2⟩⟩
 | goto l=>exact hq.elim
 | ret=>exact ⟨_,a₁,w₁,hq,.of_steps (.one h0 Vn) harr⟩
 | panic ch=>exact ⟨_,a₁,w₁,hq,.of_steps (.one h0 Vn) harr⟩
 | outgrown=>exact ⟨_,a₁,w₁,hq,.of_steps (.one h0 Vn) harr⟩
end
end Go
namespace Go.Kn
open Go
section
variable {C:Cx} {Q:Exit→Act→World→Prop} {E:Env} {I:Qu} {loc:Loc}
theorem zpp {c:Code}(h:X C (Exit.straight Q) c E I loc):X C Q (.scope c) E I loc:=fun a w ha hw=>K9 (h a w ha hw)
theorem zoO {l:Nat}(h:At C Q .normal E I loc):X C Q (.label l) E I loc:=fun a w ha hw=>wpIn_label (h a w ha hw)
theorem V6 (h:At C Q .ret E I loc):At C (Exit.straight Q) .ret E I loc:=h
theorem ze5 {e:Exit}{loc':Loc}(h:loc=loc')(hx:At C Q e E I loc'):At C Q e E I loc:=h ▸ hx
variable {S:GS} {dst:Option Nat} {ty:TypeId} {pos:String} {af:Array Edge} {gd:Option (Nat×Bool)} {x y:Operand}
theorem U3 {P:Program}{w:World}{t e d:Nat}{q:Option Addr}(hT:P.underlying t=some (.pointer e)):(Op.equalIn (d+1) t (.pointer q) (.pointer none)).run P w= .ok q.isNone w:=by
 unfold Op.equalIn
 rw [Sem.run_bind,run_underlying hT]
 cases q<;>rfl
theorem UA {t t' e:Nat}{q:Option Addr}(hx:QA S E x=some (.pointer q))(hy:QA S E y=some (.pointer none))(hT:C.P.underlying t=some (.pointer e)):QT C S E I loc ⟨dst,.binOp .eql t x y t',ty,pos,af,gd⟩ (.bool q.isNone):=
 .of (by intro c e;cases e) fun a w ha hg hc _=>by
  have e1:∀ op x y t,(eqGuard op t x y (.pointer q) (.pointer none)).run C.P w= .ok () w:=by intros;unfold eqGuard;rename_i op _ _ _;cases op<;>rfl
  have e2:(Op.equal t (.pointer q) (.pointer none)).run C.P w= .ok q.isNone w:=U3 (d:=9999) hT
  simp only [execOp,Qj ha hg hc hx,Qj ha hg hc hy,Sem.run_bind,e1,Result.andThen,binOp,e2,Sem.run_pure]
end
end Go.Kn
end
namespace Go.Proofs.YtodakphagkommaaGreatDoor
section
open Go Go.Kn Go.Proofs
theorem Z0:AgT Tryz.prog 26 4:=.of (by kernel_rfl)
theorem zmH:AgT Tryz.prog 67 3:=.of (by kernel_rfl)
theorem zhd:QW Tryz.prog 124 0 0:=.of (by kernel_rfl)
theorem VT:QW Tryz.prog 26 3 3:=.of (by kernel_rfl)
theorem zbG:QW Tryz.prog 67 2 2:=.of (by kernel_rfl)
theorem zsJ:Fun Tryz.prog 51:=.of Tryz.func51 (by kernel_rfl) (by kernel_rfl)
theorem ztD:Fun Tryz.prog 52:=.of Tryz.func52 (by kernel_rfl) (by kernel_rfl)
theorem zhh:Fun Tryz.prog 55:=.of Tryz.func55 (by kernel_rfl) (by kernel_rfl)
theorem zsg:Fun Tryz.prog 56:=.of Tryz.func56 (by kernel_rfl) (by kernel_rfl)
theorem zvh:Fun Tryz.prog 97:=.of Tryz.func97 (by kernel_rfl) (by kernel_rfl)
theorem zsQ:Fun Tryz.prog 98:=.of Tryz.func98 (by kernel_rfl) (by kernel_rfl)
theorem zvd:Fun Tryz.prog 99:=.of Tryz.func99 (by kernel_rfl) (by kernel_rfl)
theorem zmF:PlT Tryz.prog 26 #[(0,1),(1,1),(2,1),(3,1)] (.agg #[(.int .i64 0),(.slice none 0 0),(.slice none 0 0),(.slice none 0 0)]):=⟨.of (by kernel_rfl),by kernel_rfl,fun w=>by kernel_rfl⟩
theorem zqb:ScT Tryz.prog 122:=.of (by kernel_rfl)
theorem zjS:SzT Tryz.prog 124 1:=.of (by kernel_rfl)
theorem KN:SzT Tryz.prog 26 4:=.of (by kernel_rfl)
theorem zsj:SzT Tryz.prog 67 3:=.of (by kernel_rfl)
theorem znG:Yp Tryz.prog 124 (.agg #[.nilFunc]):=.of (by kernel_rfl)
theorem zlk:Yp Tryz.prog 26 (.agg #[(.int .i64 0),(.slice none 0 0),(.slice none 0 0),(.slice none 0 0)]):=.of (by kernel_rfl)
theorem zwe:Yp Tryz.prog 67 (.agg #[(.int .i64 0),(.int .i64 0),(.int .i64 0)]):=.of (by kernel_rfl)
def zvE (I:Qu)(r:Nat):Prop:=I r=some (ZR (Value.int .i64) rsV rsM)
theorem zvE.mono {I I':Qu}{r:Nat}(h:zvE I r)(hI:HLe I I'):zvE I' r:=hI _ _ h
theorem zkB (r:Int):(r≠1∧r≠2∧r≠3∧Zy rsM r=none)∨∃ f,Zy rsM r=some f∧Fun Tryz.prog f∧∀ (I:Qu) (code:Int) (b:Bool),Zw Tryz.prog f [.int .i64 code,.bool b] I (.bool (rsF r code b)):=by
 by_cases h1:r=1
 ·
  subst h1;exact .inr ⟨_,rfl,zvh,zv9⟩
 by_cases h2:r=2
 ·
  subst h2;exact .inr ⟨_,rfl,zsQ,zwc⟩
 by_cases h3:r=3
 ·
  subst h3;exact .inr ⟨_,rfl,zvd,zwO⟩
 exact .inl ⟨h1,h2,h3,by unfold rsM;simp [Zy,Ne.symm h1,Ne.symm h2,Ne.symm h3]⟩
set_option maxHeartbeats 40000000 in
theorem znV {I:Qu} {av:Option Addr} {n c:Nat} {xs:List Int} (hS:Sl I 1 QR av n c xs) {bv:Option Addr} {n2 c2:Nat} {rows:List (List Int)} (hVn:SlN I bv n2 c2 rows) (hn2:n2≤100000) {dv:Option Addr} {n3 c3:Nat} {es:List Em} (hEs:Sl I 3 Yy dv n3 c3 es) (hn3:n3≤100000) (hnx:n≤100000) (hDb:VI I) (no:Int):Yg Tryz.prog 25 [.slice bv n2 c2,.int .i64 no,.slice av n c,.slice dv n3 c3] I [] (zxe rows no xs es):=by
 intro g H w hw
 refine qe Tryz.func25 Tryz.ntmps25 hw ?_
 have hIc:=zye I
 have hlV:=hVn.len
 subst hlV
 have hEl:=hEs.len
 subst hEl
 have hVn9:=hVn
 obtain ⟨hs,hV⟩:=hVn9
 have hH:=hV.1
 refine zR ?_
 refine Qr zlk rfl rfl (fun b_8=>?_)
 refine zA ?_
 refine zN (zR ?_)
 refine zM ?_
 refine zM ?_
 refine Qz (cap:=[]) (vs:=[_,_]) rfl rfl zsJ .nil (zpE hS hVn hn2 hDb) rfl rfl ?_
 rintro vv1 I1 L1 hI1 ⟨rfl,av4,c4,rfl,hRt⟩
 have hS:=hS.mono hI1;have hVn:=hVn.mono hI1;have hV:=hV.mono hI1;have hH:=hH.mono hI1;have hEs:=hEs.mono hI1;have hIc:=hIc.trans hI1
 refine zM ?_
 refine zE ?_
 refine zE ?_
 refine zA ?_
 refine zA (zN (Ql (zR ?_)))
 refine zM ?_
 refine zC (zN ?_)
 refine zI ?_ ?_<;>intro hc28
 ·
  have hcE:YH rows xs≠0:=by simpa using hc28
  refine zR ?_
  refine zV (Qp rfl Z0 (fun hg=>by exact Cells.g0) rfl) ?_
  refine zM ?_
  refine zh KN ?_
  refine zA (zN (Qt (Qc ?_)))
  first
  | exact Zs rfl rfl rfl Z0 (vs:=Z1 0 none 0 0 none 0 0 none 0 0) (by repeat (first | exact zyc | apply zyb)) rfl (fun w hw=>⟨_,_,[],rfl,hIc,hw.drop,rfl,_,by rw [zh5 hcE]<;>rfl,.inr ⟨by rw [zh5 hcE];exact hcE,_,_,_,_,_,_,_,_,_,rfl,.nil,.nil,.nil⟩⟩)
 have hcE:YH rows xs=0:=by simpa using hc28
 have hr0:VM rows=0:=by cases Decidable.em (VM rows=0) with
  | inl h=>exact h
  | inr h=>exact absurd ((zfs h).1.symm.trans hcE) h
 obtain ⟨hr1,hr6,hr64,hrr⟩:=We hr0
 obtain ⟨x0,v0,hx0,hv0,hQ0⟩:=hV.at (k:=0) (by omega)
 have hg0:rows.getD 0 []=v0:=Q1 hv0
 have hQ0l:=hQ0.len
 have hg1:(rows.getD 0 []).length=v0.length:=by rw [hg0]
 rw [zg8 hcE] at hRt ⊢
 refine Qo (Qa (Ql (zR (zM ?_))))
 refine zC ?_
 refine zM ?_
 refine QX 2 rfl rfl rfl ?_
 refine zJ (Qi rfl) ?_
 refine zJ (QH rfl rfl rfl) ?_
 refine ZA rfl rfl rfl rfl rfl ?_
 refine zN ?_
 refine zI ?_ ?_<;>intro hc36
 ·
  refine zR ?_
  refine zV (Qp rfl Z0 (fun hg=>by exact Cells.g0) rfl) ?_
  refine zh KN ?_
  refine zA (zN (Qt (Qc ?_)))
  first
  | exact Zs rfl rfl rfl Z0 (vs:=Z1 0 none 0 0 none 0 0 none 0 0) (by repeat (first | exact zyc | apply zyb)) rfl (fun w hw=>⟨_,_,[],rfl,hIc,hw.drop,rfl,_,by rw [zn4 hcE hc36]<;>rfl,.inr ⟨by rw [zn4 hcE hc36];decide,_,_,_,_,_,_,_,_,_,rfl,.nil,.nil,.nil⟩⟩)
 refine Qo (Qa (zR ?_))
 refine Qz (cap:=[]) (vs:=[]) rfl rfl ztD .nil (zjB _) rfl rfl ?_
 rintro vv2 I2 L2 hI2 ⟨rfl,rm,rfl,hRm⟩
 have hS:=hS.mono hI2;have hVn:=hVn.mono hI2;have hH:=hH.mono hI2;have hEs:=hEs.mono hI2;have hRt:=hRt.mono hI2;have hQ0:=hQ0.mono hI2;have hIc:=hIc.trans hI2
 have hRm:zvE I2 rm:=hRm
 refine zA ?_
 refine zA (zN (Ql (Ql ?_)))
 refine JA (loc':=(b_8,.cells (Z1 0 none 0 0 none 0 0 none 0 0).toArray 26 (0,0))::[]) rfl ?_
 refine Qg (zM ?_)
 refine zQ K5 ?_
 refine zM (zN (Qm ?_))
 refine zU [(0,_),(1,_),(2,_),(3,_),(8,_),(10,_),(11,_),(39,_),(40,_)] (fun T L0 mz E I' loc'=>∃ (k:Nat) (l:Int),mz=es.length-k∧E=(12,.int .i64 l)::(41,.int .i64 k)::T∧HLe I2 I'∧(b_8,.cells (Z1 0 none 0 0 none 0 0 none 0 0).toArray 26 (0,0))::[]=loc'∧k≤es.length∧ -1≤l∧WT rows (rows.getD 0 []).length (-1) es=WT rows (rows.getD 0 []).length l (es.drop k)) ?_ (h:=⟨0,(-1),rfl,rfl,zye _,rfl,Nat.zero_le _,Int.le_refl _,rfl⟩)
 rintro mz E J3 loc' ⟨k,l,rfl,rfl,hJ,rfl,hk,hlm,hgo⟩
 have hS:=hS.mono hJ;have hVn:=hVn.mono hJ;have hH:=hH.mono hJ;have hEs:=hEs.mono hJ;have hRt:=hRt.mono hJ;have hQ0:=hQ0.mono hJ;have hRm:=hRm.mono hJ;have hIc:=hIc.trans hJ
 have hB0:=hJ
 refine zR (zC (zN (Ql ?_)))
 refine zI ?_ ?_<;>intro hc42
 ·
  have hlt_k:k<es.length:=by have h:=hc42;simp at h;omega
  obtain ⟨e,he⟩:=hEs.at hlt_k
  refine Qo (Qa (Ql (Qm (zR ?_))))
  refine zV (zX K5 hEs) ?_
  refine zV (Qp rfl zmH (fun hg=>by exact zyf hEs he) rfl) ?_
  refine Qr zwe rfl rfl (fun b_14=>?_)
  refine zh zsj ?_
  refine zN (Ql ?_)
  obtain ⟨h1,h2,h3,hget⟩ | ⟨f,hget,hFf,hCf⟩:=zkB e.reason
  ·
   refine Qg (zM ?_)
   refine zF zbG ?_
   refine zL Qs ?_
   refine zV (zcI hget (m:=rsM) (ek:=Value.int .i64) (ev:=rsV) (a:=e.reason) X5 ZE rfl rfl (fun _=>.inl hRm)) ?_
   refine zM ?_
   refine zE ?_
   refine zE ?_
   refine Qr znG rfl rfl (fun b_15=>?_)
   refine zh zjS ?_
   refine zA (zN (Ql (Ql ?_)))
   refine Zf (b:=b_14) (by repeat (first | exact Q7.here | apply Q7.there)) (fun I4 hI4 hE14=>?_)
   have hIc:=hIc.trans hI4
   have hD:=zye I4
   refine Kw mixed ?_
   refine zT 0 rfl (Qi rfl) hD ?_
   refine zT 1 rfl (Vy rfl) hD ?_
   refine zT 2 rfl (Qi rfl) hD ?_
   refine zW 3 54 hD ?_
   refine zW 4 54 hD ?_
   refine zW 5 54 hD ?_
   refine zW 6 54 hD ?_
   refine zT 7 rfl (YR rfl rfl rfl) hD ?_
   refine zT 8 rfl (Qi rfl) hD ?_
   refine zW 9 60 hD ?_
   refine zW 10 60 hD ?_
   refine zW 11 60 hD ?_
   refine zW 12 60 hD ?_
   refine zW 13 60 hD ?_
   refine zT 14 rfl (YR rfl rfl rfl) hD ?_
   refine zT 15 rfl (Qi rfl) hD ?_
   refine zW 16 67 hD ?_
   refine zW 17 67 hD ?_
   refine zW 18 67 hD ?_
   refine zW 19 67 hD ?_
   refine zW 20 67 hD ?_
   refine zW 21 67 hD ?_
   refine zW 22 67 hD ?_
   refine zW 23 67 hD ?_
   refine zW 24 67 hD ?_
   refine zT 25 rfl (YR rfl rfl rfl) hD ?_
   refine QG (by kernel_rfl) ?_
   refine QQ ?_
   refine Qa ?_
   refine zI ?_ ?_<;>intro hc77
   ·
    have hbe:=zvA (rows:=rows) (m:=(rows.getD 0 []).length) (l:=l) h1 h2 h3
    refine zR ?_
    refine zV (Qp rfl Z0 (fun hg=>by exact Cells.g1) rfl) ?_
    refine zh KN ?_
    refine zA (zN (Qt (Qc (Qn (Qc (Qc (Qn ?_)))))))
    refine Qc ?_
    first
    | exact Zs rfl rfl rfl Z0 (vs:=Z1 0 none 0 0 none 0 0 none 0 0) (by repeat (first | exact zyc | apply zyb)) rfl (fun w hw=>⟨_,_,[],rfl,hIc,hw.drop,rfl,_,by rw [WJ hcE hc36 (hgo.trans (VK he hbe))]<;>rfl,.inr ⟨by rw [WJ hcE hc36 (hgo.trans (VK he hbe))];decide,_,_,_,_,_,_,_,_,_,rfl,.nil,.nil,.nil⟩⟩)
   cases hc77
  refine Qg (zM ?_)
  refine zF zbG ?_
  refine zL Qs ?_
  refine zV (zcd hget (m:=rsM) (ek:=Value.int .i64) (ev:=rsV) (a:=e.reason) X5 ZE rfl rfl (fun _=>.inl hRm)) ?_
  refine zM ?_
  refine zE ?_
  refine zE ?_
  refine Qr znG rfl rfl (fun b_15=>?_)
  refine zh zjS ?_
  refine zA (zN (Ql (Ql ?_)))
  obtain q1 | ⟨q1,q2⟩ | ⟨q1,q2⟩:=zlX rows ((rows.getD 0 []).length) l e
  ·
   refine Zf (b:=b_15) (by repeat (first | exact Q7.here | apply Q7.there)) (fun I5 hI5 hb5=>?_)
   have hIc:=hIc.trans hI5
   have hC15:QU I5 [] b_15 0 (.func (.func f) #[] #[]):=.imm hb5 rfl
   refine Zf (b:=b_14) (by repeat (first | exact Q7.here | apply Q7.there)) (fun I6 hI6 hE14=>?_)
   have hIc:=hIc.trans hI6
   have hD:=zye I6
   refine Kw mixed ?_
   refine zT 0 rfl (Qi rfl) hD ?_
   refine zT 1 rfl (Vy rfl) hD ?_
   refine zT 2 rfl (Qi rfl) hD ?_
   refine zw 3 54 rfl (Qe rfl VX) hD ?_
   refine zw 4 54 rfl (Qd rfl Qs (fun hg=>by exact .imm hE14 rfl)) hD ?_
   refine zw 5 54 rfl (Qi rfl) hD ?_
   refine zw 6 54 rfl (QH rfl rfl rfl) hD ?_
   rw [q1]
   refine zT 7 rfl (ZM rfl rfl rfl) hD ?_
   refine zT 8 rfl (Qi rfl) hD ?_
   refine zW 9 60 hD ?_
   refine zW 10 60 hD ?_
   refine zW 11 60 hD ?_
   refine zW 12 60 hD ?_
   refine zW 13 60 hD ?_
   refine zT 14 rfl (YR rfl rfl rfl) hD ?_
   refine zT 15 rfl (Qi rfl) hD ?_
   refine zW 16 67 hD ?_
   refine zW 17 67 hD ?_
   refine zW 18 67 hD ?_
   refine zW 19 67 hD ?_
   refine zW 20 67 hD ?_
   refine zW 21 67 hD ?_
   refine zW 22 67 hD ?_
   refine zW 23 67 hD ?_
   refine zW 24 67 hD ?_
   refine zT 25 rfl (YR rfl rfl rfl) hD ?_
   refine QG (by kernel_rfl) ?_
   refine QQ ?_
   refine Qa ?_
   refine zI ?_ ?_<;>intro hc77
   ·
    have hbe:=ztP (rows:=rows) (m:=(rows.getD 0 []).length) q1
    refine zR ?_
    refine zV (Qp rfl Z0 (fun hg=>by exact Cells.g0) rfl) ?_
    refine zh KN ?_
    refine zA (zN (Qt (Qc (Qn (Qc (Qc (Qn ?_)))))))
    refine Qc ?_
    first
    | exact Zs rfl rfl rfl Z0 (vs:=Z1 0 none 0 0 none 0 0 none 0 0) (by repeat (first | exact zyc | apply zyb)) rfl (fun w hw=>⟨_,_,[],rfl,hIc,hw.drop,rfl,_,by rw [WJ hcE hc36 (hgo.trans (VK he hbe))]<;>rfl,.inr ⟨by rw [WJ hcE hc36 (hgo.trans (VK he hbe))];decide,_,_,_,_,_,_,_,_,_,rfl,.nil,.nil,.nil⟩⟩)
   cases hc77
  ·
   refine Zf (b:=b_15) (by repeat (first | exact Q7.here | apply Q7.there)) (fun I7 hI7 hb7=>?_)
   have hIc:=hIc.trans hI7
   have hC15:QU I7 [] b_15 0 (.func (.func f) #[] #[]):=.imm hb7 rfl
   refine Zf (b:=b_14) (by repeat (first | exact Q7.here | apply Q7.there)) (fun I8 hI8 hE14=>?_)
   have hIc:=hIc.trans hI8
   have hD:=zye I8
   refine Kw mixed ?_
   refine zT 0 rfl (Qi rfl) hD ?_
   refine zT 1 rfl (Vy rfl) hD ?_
   refine zT 2 rfl (Qi rfl) hD ?_
   refine zw 3 54 rfl (Qe rfl VX) hD ?_
   refine zw 4 54 rfl (Qd rfl Qs (fun hg=>by exact .imm hE14 rfl)) hD ?_
   refine zw 5 54 rfl (Qi rfl) hD ?_
   refine zw 6 54 rfl (QH rfl rfl rfl) hD ?_
   rw [q1]
   refine zT 7 rfl (ZM rfl rfl rfl) hD ?_
   refine zT 8 rfl (Qi rfl) hD ?_
   refine zw 9 60 rfl (Qe rfl VX) hD ?_
   refine zw 10 60 rfl (Qd rfl Qs (fun hg=>by exact .imm hE14 rfl)) hD ?_
   refine zw 11 60 rfl (Qi rfl) hD ?_
   refine zw 12 60 rfl (ZH rfl Zo) hD ?_
   refine zw 13 60 rfl (QH rfl rfl rfl) hD ?_
   rw [q2]
   refine zT 14 rfl (ZM rfl rfl rfl) hD ?_
   refine zT 15 rfl (Qi rfl) hD ?_
   refine zW 16 67 hD ?_
   refine zW 17 67 hD ?_
   refine zW 18 67 hD ?_
   refine zW 19 67 hD ?_
   refine zW 20 67 hD ?_
   refine zW 21 67 hD ?_
   refine zW 22 67 hD ?_
   refine zW 23 67 hD ?_
   refine zW 24 67 hD ?_
   refine zT 25 rfl (YR rfl rfl rfl) hD ?_
   refine QG (by kernel_rfl) ?_
   refine QQ ?_
   refine Qa ?_
   refine zI ?_ ?_<;>intro hc77
   ·
    have hbe:=zsA (rows:=rows) (l:=l) q2
    refine zR ?_
    refine zV (Qp rfl Z0 (fun hg=>by exact Cells.g0) rfl) ?_
    refine zh KN ?_
    refine zA (zN (Qt (Qc (Qn (Qc (Qc (Qn ?_)))))))
    refine Qc ?_
    first
    | exact Zs rfl rfl rfl Z0 (vs:=Z1 0 none 0 0 none 0 0 none 0 0) (by repeat (first | exact zyc | apply zyb)) rfl (fun w hw=>⟨_,_,[],rfl,hIc,hw.drop,rfl,_,by rw [WJ hcE hc36 (hgo.trans (VK he hbe))]<;>rfl,.inr ⟨by rw [WJ hcE hc36 (hgo.trans (VK he hbe))];decide,_,_,_,_,_,_,_,_,_,rfl,.nil,.nil,.nil⟩⟩)
   cases hc77
  have h0e:0≤e.locus:=by have h:=of_decide_eq_false q1;omega
  have hle:e.locus.toNat<(rows.getD 0 []).length:=by have h:=of_decide_eq_false q2;omega
  have hle2:∀ r∈rows,e.locus.toNat<r.length:=fun r hr=>by rw [(hrr r hr).1];exact hle
  refine Zf (b:=b_15) (by repeat (first | exact Q7.here | apply Q7.there)) (fun I9 hI9 hb9=>?_)
  have hVn:=hVn.mono hI9;have hIc:=hIc.trans hI9;have hB0:=hB0.trans hI9
  have hC15:QU I9 [] b_15 0 (.func (.func f) #[] #[]):=.imm hb9 rfl
  refine Zf (b:=b_14) (by repeat (first | exact Q7.here | apply Q7.there)) (fun I10 hI10 hE14=>?_)
  have hVn:=hVn.mono hI10;have hC15:=hC15.mono hI10;have hIc:=hIc.trans hI10;have hB0:=hB0.trans hI10
  have hD:=zye I10
  refine Kw mixed ?_
  refine zT 0 rfl (Qi rfl) hD ?_
  refine zT 1 rfl (Vy rfl) hD ?_
  refine zT 2 rfl (Qi rfl) hD ?_
  refine zw 3 54 rfl (Qe rfl VX) hD ?_
  refine zw 4 54 rfl (Qd rfl Qs (fun hg=>by exact .imm hE14 rfl)) hD ?_
  refine zw 5 54 rfl (Qi rfl) hD ?_
  refine zw 6 54 rfl (QH rfl rfl rfl) hD ?_
  rw [q1]
  refine zT 7 rfl (ZM rfl rfl rfl) hD ?_
  refine zT 8 rfl (Qi rfl) hD ?_
  refine zw 9 60 rfl (Qe rfl VX) hD ?_
  refine zw 10 60 rfl (Qd rfl Qs (fun hg=>by exact .imm hE14 rfl)) hD ?_
  refine zw 11 60 rfl (Qi rfl) hD ?_
  refine zw 12 60 rfl (ZH rfl Zo) hD ?_
  refine zw 13 60 rfl (QH rfl rfl rfl) hD ?_
  rw [q2]
  refine zT 14 rfl (ZM rfl rfl rfl) hD ?_
  refine zT 15 rfl (Qi rfl) hD ?_
  refine zw 16 67 rfl (Qe rfl zhd) hD ?_
  refine zw 17 67 rfl (Qd rfl zqb (fun hg=>by exact hC15.any)) hD ?_
  refine zw 18 67 rfl (Qe rfl zaX) hD ?_
  refine zw 19 67 rfl (Qd rfl Qs (fun hg=>by exact .imm hE14 rfl)) hD ?_
  refine zw 20 67 rfl (Qi rfl) hD ?_
  refine zw 21 67 rfl (Zc (us:=[]) (vs:=[_]) rfl rfl) hD ?_
  refine qd 22 rfl ?_
  refine QO (dj:=67) rfl rfl rfl ?_
  refine qc (vs:=[_,_]) rfl znp (zd1 hVn hn2 hE14 h0e hle2) ?_
  refine Qb ?_
  refine zD hD ?_
  refine qd 23 rfl ?_
  refine QO (dj:=67) rfl rfl rfl ?_
  refine YQ (cap:=[]) (vs:=[_,_]) rfl rfl hFf (hCf _ _ _) rfl rfl ?_
  refine Qb ?_
  refine zD hD ?_
  refine zw 24 67 rfl (Vy rfl) hD ?_
  refine zT 25 rfl (ZM rfl rfl rfl) hD ?_
  refine QG (by kernel_rfl) ?_
  refine QQ ?_
  refine Qa ?_
  refine zI ?_ ?_<;>intro hc77
  ·
   have hbe:=zmP q1 q2 hc77
   refine zR ?_
   refine zV (Qp rfl Z0 (fun hg=>by exact Cells.g0) rfl) ?_
   refine zh KN ?_
   refine zA (zN (Qt (Qc (Qn (Qc (Qc (Qn ?_)))))))
   refine Qc ?_
   first
   | exact Zs rfl rfl rfl Z0 (vs:=Z1 0 none 0 0 none 0 0 none 0 0) (by repeat (first | exact zyc | apply zyb)) rfl (fun w hw=>⟨_,_,[],rfl,hIc,hw.drop,rfl,_,by rw [WJ hcE hc36 (hgo.trans (VK he hbe))]<;>rfl,.inr ⟨by rw [WJ hcE hc36 (hgo.trans (VK he hbe))];decide,_,_,_,_,_,_,_,_,_,rfl,.nil,.nil,.nil⟩⟩)
  have hbe:=zmP q1 q2 hc77
  refine Qo (Qa (Qg ?_))
  refine zF VX ?_
  refine zV (Qd rfl Qs (fun hg=>by exact .imm hE14 rfl)) ?_
  refine zA (Qb (Qh (Qa (Qg ?_))))
  refine zB ?_
  refine zM (Qb ?_)
  exact zm (h:=⟨es.length-(k+1),by omega,k+1,_,rfl,rfl,hB0,rfl,by omega,by omega,by rw [hgo,zf1 he hbe]⟩)
 have hge_k:es.length≤k:=by have h:=hc42;simp at h;omega
 rw [ziU hge_k] at hgo
 refine QI (Qf (Qf (Qk (Qa (zR (zM ?_))))))
 refine zM ?_
 refine Qz (cap:=[]) (vs:=[_]) rfl rfl zhh .nil (zbS hS (by omega)) rfl rfl ?_
 rintro vv11 I11 L11 hI11 ⟨rfl,hO1⟩
 have hH:=hH.mono hI11;have hEs:=hEs.mono hI11;have hRt:=hRt.mono hI11;have hQ0:=hQ0.mono hI11;have hIc:=hIc.trans hI11
 obtain ⟨va1,vc1,rfl⟩:=zdd hO1
 refine zM ?_
 refine Qz (cap:=[]) (vs:=[_]) rfl rfl zsg .nil (zk6 hEs (by omega)) rfl rfl ?_
 rintro vv12 I12 L12 hI12 ⟨rfl,hO2⟩
 have hH:=hH.mono hI12;have hEs:=hEs.mono hI12;have hRt:=hRt.mono hI12;have hQ0:=hQ0.mono hI12;have hIc:=hIc.trans hI12
 obtain ⟨va2,vc2,rfl⟩:=zdd hO2
 refine zV (QS (ps:=[(0,_),(1,_),(2,_)]) [_,_,_,_] zmF rfl rfl) ?_
 refine YO rfl rfl KN rfl rfl rfl rfl (by (repeat (first | exact Upd.here | apply Upd.there | apply QJ))) ?_
 refine zN (Ql ?_)
 refine Y9 hO2 XZ (by decide) (by repeat (first | exact .cons .here .nil | exact QD | exact Qw | apply QC | apply QB)) (fun I13 hI13 af13 cf13 ef13 hEm2=>?_)
 cases ef13
 have hH:=hH.mono hI13;have hEs:=hEs.mono hI13;have hRt:=hRt.mono hI13;have hQ0:=hQ0.mono hI13;have hIc:=hIc.trans hI13
 refine Y9 hO1 Qv (by decide) (by repeat (first | exact .cons .here .nil | exact QD | exact Qw | apply QC | apply QB)) (fun I14 hI14 af14 cf14 ef14 hCl=>?_)
 cases ef14
 have hH:=hH.mono hI14;have hEs:=hEs.mono hI14;have hRt:=hRt.mono hI14;have hQ0:=hQ0.mono hI14;have hEm2:=hEm2.mono hI14;have hIc:=hIc.trans hI14
 refine JA (loc':=[]++[(b_8,.cells (Z1 no va1 n vc1 va2 es.length vc2 none 0 0).toArray 26 (0,0))]) rfl ?_
 refine Qg (zM ?_)
 refine zA (zN (Ql (zR ?_)))
 refine zM ?_
 refine zQ Zo ?_
 refine zM (zN (Qm ?_))
 refine zU [(0,_),(8,_),(89,_),(90,_)] (fun T L0 mz E I' loc'=>∃ (k:Nat) (lf:List Em) (dva:Option Addr) (dn:Nat) (dc:Nat) (va3:Option Addr) (vc3:Nat) (L:Go.Kn.Loc),mz=(rows.getD 0 []).length-k∧E=(17,.slice dva dn dc)::(91,.int .i64 k)::T∧HLe I14 I'∧L++[(b_8,.cells (Z1 no va1 n vc1 va2 es.length vc2 va3 k vc3).toArray 26 (0,0))]=loc'∧k≤(rows.getD 0 []).length∧lf=lfK es k∧Sl I' 3 Yy dva dn dc lf∧OwnS 3 1 (.slice va3 k vc3) k (((List.range k).map (Wo rows xs es)).flatMap QR) L) ?_ (h:=⟨0,es,_,_,_,none,0,[],rfl,rfl,zye _,rfl,Nat.zero_le _,rfl,hEs,OwnS.nil⟩)
 rintro mz E J15 loc' ⟨k,lf,dva,dn,dc,va3,vc3,L,rfl,rfl,hJ,rfl,hk,hlf,hLf,hO⟩
 have hH:=hH.mono hJ;have hRt:=hRt.mono hJ;have hQ0:=hQ0.mono hJ;have hEm2:=hEm2.mono hJ;have hCl:=hCl.mono hJ;have hIc:=hIc.trans hJ
 have hB2:=hJ
 have hLfl:=hLf.len
 subst hLfl
 refine zR (zC (zN (Ql ?_)))
 refine zI ?_ ?_<;>intro hc92
 ·
  have hlt_k:k<(rows.getD 0 []).length:=by have h:=of_decide_eq_true hc92;omega
  obtain ⟨rhs,hRh9⟩:=id hRt
  have hRh:=hRh9.1
  obtain ⟨rx,rv,hrx,hrv,hQ⟩:=hRh9.at hlt_k
  have hrv2:=zkL hcE hlt_k
  rw [hrv2] at hrv
  cases hrv
  have hrp:=zkU (rows:=rows) (cl:=xs) (l:=k)
  have hQl:=hQ.len
  have hq0:(JB rows xs k)[0]? =some ((JB rows xs k).getD 0 0):=Zk rfl hrp
  have hk0:v0[k]? =some (v0.getD k 0):=Zk rfl (by rw [←hg0];exact hlt_k)
  have hstl:=zjU (rows:=rows) (l:=k)
  have hrl:(JB rows xs k).length≤(stE rows k).length:=List.length_filter_le _ _
  refine Qo (Qa (Ql (Qm (zR (zM ?_)))))
  refine zV (zX Zo hRh) ?_
  refine zV (Qd rfl QK (fun hg=>by exact zx7 hRh hrx rfl)) ?_
  refine zA ?_
  refine zA ?_
  refine zN (zR ?_)
  refine zM ?_
  refine zV (zX Qy hQ) ?_
  refine zV (Qd rfl Qs (fun hg=>by exact zx7 hQ hq0 rfl)) ?_
  refine zA (zN ?_)
  refine zY [(0,_),(8,_),(17,_),(18,_),(89,_),(90,_),(91,_)] (fun T L0 E I' loc'=>∃ (b9:Int),E=(20,.int .i64 b9)::T∧HLe J15 I'∧L++[(b_8,.cells (Z1 no va1 n vc1 va2 es.length vc2 va3 k vc3).toArray 26 (0,0))]=loc'∧b9=WU rows xs k) ?_ ?_
  ·
   have hKc21:=zye J15
   refine zR (zM ?_)
   refine zM ?_
   refine zV (zX Zo hH) ?_
   refine zV (Qd rfl QK (fun hg=>by exact zx7 hH hx0 rfl)) ?_
   refine zM ?_
   refine zV (zX Qy hQ0) ?_
   refine zV (Qd rfl Qs (fun hg=>by exact zx7 hQ0 hk0 rfl)) ?_
   refine qc (vs:=[_,_]) rfl zc1 (JM hQ (by omega) _) ?_
   refine zN ?_
   refine zI ?_ ?_<;>intro hc106
   ·
    refine Qg (zM ?_)
    refine zV (zX Zo hH) ?_
    refine zV (Qd rfl QK (fun hg=>by exact zx7 hH hx0 rfl)) ?_
    refine zM ?_
    refine zV (zX Qy hQ0) ?_
    refine zV (Qd rfl Qs (fun hg=>by exact zx7 hQ0 hk0 rfl)) ?_
    refine zA (Qb ?_)
    first
    | exact Jl _ _ ⟨_,rfl,hKc21,rfl,by rw [←zlN (rows:=rows) (cl:=xs) (k:=k) (by rw [hg0];exact hc106),hg0]⟩ (.cons rfl (.cons rfl (.cons rfl (.cons rfl (.cons rfl (.cons rfl (.cons rfl (.cons rfl .nil)))))))) .refl
   refine Qo ?_
   first
   | exact Jl _ _ ⟨_,rfl,hKc21,rfl,zpP (by rw [hg0];exact hc106)⟩ (.cons rfl (.cons rfl (.cons rfl (.cons rfl (.cons rfl (.cons rfl (.cons rfl (.cons rfl .nil)))))))) .refl
  rintro E J16 loc' ⟨b9,rfl,hJ106,rfl,hb9⟩
  have hLf:=hLf.mono hJ106;have hB2:=hB2.trans hJ106
  refine zY [(0,_),(8,_),(89,_),(90,_),(91,_)] (fun T L0 E I' loc'=>∃ (r9:Int) (lf2:List Em) (ea:Option Addr) (en ec:Nat),E=(17,.slice ea en ec)::(20,.int .i64 r9)::T∧HLe J16 I'∧L++[(b_8,.cells (Z1 no va1 n vc1 va2 es.length vc2 va3 k vc3).toArray 26 (0,0))]=loc'∧r9=Wo rows xs es k∧lf2=lfK es (k+1)∧Sl I' 3 Yy ea en ec lf2) ?_ ?_
  ·
   have hKc23:=zye J16
   refine zR (zM ?_)
   refine zQ K5 ?_
   refine zC ?_
   refine zM ?_
   refine QE 3 rfl rfl rfl ?_
   refine zK (Qi rfl) ?_
   refine zK (zX K5 hLf) ?_
   refine zK (Qe rfl VX) ?_
   refine zK (Qd rfl Qs (fun hg=>by exact zyg (k:=0) hLf (Zk (d:=zhp) rfl (by first | omega | (simp [ZX] at hg;omega))) rfl)) ?_
   refine zK (Qi rfl) ?_
   refine zK (QH rfl rfl rfl) ?_
   refine QP rfl rfl rfl rfl rfl ?_
   refine zN ?_
   refine zI ?_ ?_<;>intro hc123
   ·
    have hlf0:=(zaR (rows:=rows) (cl:=xs) hlf hc123).2.2
    refine YU mixed (by kernel_rfl) ?_
    refine zq (Qi rfl) ?_
    refine zq (zX K5 hLf) ?_
    refine zq (Qe rfl zaX) ?_
    refine zq (Qd rfl Qs (fun hg=>by exact zyg (k:=0) hLf (Zk (d:=zhp) rfl (by first | omega | (simp [ZX] at hg;omega))) rfl)) ?_
    refine zq (Qi rfl) ?_
    refine zq (zan rfl rfl K5 (fun hg=>by omega)) ?_
    refine zq (ZP rfl) ?_
    refine zq (ZP rfl) ?_
    refine YV ?_
    exact Jl _ _ ⟨_,lf.drop 1,_,_,_,rfl,hKc23,rfl,(zaR (rows:=rows) (cl:=xs) hlf hc123).1,(zaR (rows:=rows) (cl:=xs) hlf hc123).2.1,hLf.drop hlf0⟩ (.cons rfl (.cons rfl (.cons rfl (.cons rfl (.cons rfl (.cons rfl (.cons rfl .nil))))))) .refl
   refine Qo ?_
   exact Jl _ _ ⟨_,lf,_,_,_,rfl,hKc23,rfl,hb9.trans (zhD (rows:=rows) (cl:=xs) hlf hc123).1,(zhD (rows:=rows) (cl:=xs) hlf hc123).2,hLf⟩ (.cons rfl (.cons rfl (.cons rfl (.cons rfl (.cons rfl (.cons rfl (.cons rfl .nil))))))) .refl
  rintro E J17 loc' ⟨r9,lf2,ea,en,ec,rfl,hJ123,rfl,hr9,hlf2,hLf2⟩
  have hB2:=hB2.trans hJ123
  refine Qg ?_
  refine zF VT ?_
  refine zV (Qd rfl QK (fun hg=>by (repeat (first | exact zx9 rfl | apply zx8 | apply zya)))) ?_
  refine zM ?_
  refine Qq (ps:=[(0,_)]) (m:=[QR r9]) Zi rfl (.cons rfl (.nil)) rfl (by simp [Qv]) (by decide) (by decide) rfl rfl (fun b_133=>?_)
  refine QY (v:=_) (ys:=[r9].flatMap QR) (L:=L) rfl rfl Zi hO (by repeat (first | exact .cons .here .nil | exact QD | exact Qw | apply QC | apply QB)) ⟨rfl,fun _=>rfl,by repeat (first | exact zyc | apply zyb | apply zyd)⟩ (JG [r9]) (by omega) rfl rfl ?_
  intro v9 L9 hO9 _;rw [←List.flatMap_append] at hO9;obtain ⟨va9,vc9,rfl⟩:=zdd hO9
  refine zF VT ?_
  refine ZI rfl rfl Zj rfl rfl (by (repeat (first | exact Upd.here | apply Upd.there | apply QJ))) rfl ?_
  refine Qb (Qh (Qa (Qg (zB ?_))))
  refine zM (Qb ?_)
  exact zm (h:=⟨(rows.getD 0 []).length-(k+1),by omega,k+1,_,_,_,_,_,_,_,rfl,rfl,hB2,rfl,by omega,hlf2,hLf2,by rw [XH,←hr9];exact hO9⟩)
 have hge_k:(rows.getD 0 []).length≤k:=by have h:=of_decide_eq_false hc92;omega
 obtain rfl:k=(rows.getD 0 []).length:=by omega
 refine QI (Qf (Qf (Qk (Qa (zR ?_)))))
 refine zV (Qp rfl Z0 (fun hg=>by (repeat (first | exact zyc | apply zyb | apply zyd))) rfl) ?_
 refine YO rfl rfl KN rfl rfl rfl rfl (by (repeat (first | exact Upd.here | apply Upd.there | apply QJ))) ?_
 refine zA (zN (Qt ?_))
 first
 | exact Zs rfl rfl rfl Z0 (vs:=Z1 no va1 n vc1 va2 es.length vc2 va3 (rows.getD 0 []).length vc3) (by repeat (first | exact zyc | apply zyb | apply zyd)) rfl (fun w hw=>by obtain ⟨I9,av9,c9,h1',h2',e9,h4'⟩:=OwnS.freeze (R:=[_]) hO Qv (by decide) hw;cases e9;exact ⟨_,I9,[],rfl,hIc.trans h1',h2'.drop,rfl,_,by rw [zmL hcE hc36 hgo]<;>rfl,.inl ⟨zmL hcE hc36 hgo,va1,_,_,va2,_,_,va3,_,_,rfl,hCl.mono h1',hEm2.mono h1',h4'⟩⟩)
end
section
open Go Go.Kn Go.Proofs
def WP (rows:List (List Int))(no:Int)(cl:List Int)(es:List Em)(rd:List Int):Int:=if U9 rows no cl es≠0 then U9 rows no cl es else if rd=VG rows cl es then 0 else 430
theorem zuB {rows:List (List Int)}{no:Int}{cl:List Int}{es:List Em}{rd:List Int}(h:U9 rows no cl es≠0):WP rows no cl es rd=U9 rows no cl es:=by unfold WP;rw [if_pos h]
theorem zwl {rows:List (List Int)}{no:Int}{cl:List Int}{es:List Em}{rd:List Int}(h:U9 rows no cl es=0)(h2:rd≠VG rows cl es):WP rows no cl es rd=430:=by unfold WP;rw [if_neg (by omega),if_neg h2]
theorem zqC {rows:List (List Int)}{no:Int}{cl:List Int}{es:List Em}{rd:List Int}(h:U9 rows no cl es=0)(h2:rd=VG rows cl es):WP rows no cl es rd=0:=by unfold WP;rw [if_neg (by omega),if_pos h2]
theorem zhv {rows:List (List Int)}{no:Int}{cl:List Int}{es:List Em}{rd:List Int}(h:WP rows no cl es rd=0):U9 rows no cl es=0∧rd=VG rows cl es:=by
 unfold WP at h
 split at h
 ·
  rename_i h1;exact absurd h h1
 ·
  rename_i h1
  split at h
  ·
   rename_i h2;exact ⟨by omega,h2⟩
  ·
   cases h
theorem zno {rows:List (List Int)}{no:Int}{cl:List Int}{es:List Em}(h:U9 rows no cl es=0):YH rows cl=0:=by
 unfold U9 at h
 split at h
 ·
  rename_i h1;exact absurd h h1
 ·
  rename_i h1;omega
theorem zaa {rows:List (List Int)}{cl:List Int}(h:YH rows cl=0):VM rows=0:=by
 cases Decidable.em (VM rows=0) with
 | inl e=>exact e
 | inr e=>exact absurd ((zfs e).1.symm.trans h) e
theorem zxe.opn {rows:List (List Int)}{no:Int}{cl:List Int}{es:List Em}{v:Value}{I':Qu}{L:Go.Kn.Loc}(h:zxe rows no cl es v I' L):L=[]∧∃ (no2:Int) (cl2:List Int) (es2:List Em) (rd2:List Int) (a1:Option Addr) (n1 c1:Nat) (a2:Option Addr) (n2 c2:Nat) (a3:Option Addr) (n3 c3:Nat),
  v= .tuple #[.agg (Z1 no2 a1 n1 c1 a2 n2 c2 a3 n3 c3).toArray,.int .i64 (U9 rows no cl es)]∧Sl I' 1 QR a1 n1 c1 cl2∧Sl I' 3 Yy a2 n2 c2 es2∧Sl I' 1 QR a3 n3 c3 rd2∧
  (U9 rows no cl es=0→no2=no∧cl2=cl∧es2=es∧rd2=VG rows cl es)∧(U9 rows no cl es≠0→no2=0∧cl2=[]∧es2=[]∧rd2=[]):=by
 obtain ⟨rfl,vs,rfl,h⟩:=h
 rcases h with ⟨h0,a1,n1,c1,a2,n2,c2,a3,n3,c3,rfl,h1,h2,h3⟩ | ⟨h0,a1,n1,c1,a2,n2,c2,a3,n3,c3,rfl,h1,h2,h3⟩
 ·
  exact ⟨rfl,no,cl,es,VG rows cl es,a1,n1,c1,a2,n2,c2,a3,n3,c3,rfl,h1,h2,h3,fun _=>⟨rfl,rfl,rfl,rfl⟩,fun h=>absurd h0 h⟩
 ·
  exact ⟨rfl,0,[],[],[],a1,n1,c1,a2,n2,c2,a3,n3,c3,rfl,h1,h2,h3,fun h=>absurd h h0,fun _=>⟨rfl,rfl,rfl,rfl⟩⟩
/-! ### Signs -/
def nzF (row:List Int)(k:Nat):Nat:=((row.take k).filter fun c=>c != 0).length
theorem zib {row:List Int}{k:Nat}{c:Int}(h:row[k]? =some c)(hc:(c==0)=false):nzF row (k+1)=nzF row k+1:=by
 unfold nzF;rw [List.take_add_one,h,List.filter_append,List.length_append]
 have h2:(c != 0)=true:=by simpa [bne] using hc
 simp [h2]
theorem zm4 {row:List Int}{k:Nat}{c:Int}(h:row[k]? =some c)(hc:(c==0)=true):nzF row (k+1)=nzF row k:=by
 unfold nzF;rw [List.take_add_one,h,List.filter_append,List.length_append]
 have h2:(c != 0)=false:=by simpa [bne] using hc
 simp [h2]
def zwg (ws:List Wr)(rows:List (List Int)):Prop:=∀ (i:Nat) (x:Wr) (row:List Int),ws[i]? =some x→rows[i]? =some row→∀ k,k<row.length→row.getD k 0≠0→nzF row k<x.rs.length
structure SgS where
 ex:Option Sg
 so:Option Sg
 many:Nat
 lost:Bool
def orS (a:Option Sg)(b:Sg):Option Sg:=match a with | none=>some b | some x=>some x
def zhW (code:Int)(s:SgS)(c:Int)(y:Rd):SgS:=
 if (c==0)=true then s else if y.lost=true then {s with lost:=true} else
 ⟨if (s.ex.isNone&&c==code)=true then some y.sg else s.ex,orS s.so y.sg,s.many+1,s.lost⟩
def zuW:Rd:=⟨false,zkH⟩
def ydF (ws:List Wr)(rows:List (List Int))(i k:Nat):Rd:=((ws[i]?).map (·.rs)).getD [] |>.getD (nzF (rows.getD i []) k) zuW
def sgK (ws:List Wr)(rows:List (List Int))(k:Nat)(code:Int):Nat→SgS
 | 0=>⟨none,none,0,false⟩
 | i+1=>zhW code (sgK ws rows k code i) ((rows.getD i []).getD k 0) (ydF ws rows i k)
inductive Out | err | skip | sg (x:Sg)
def W8 (k:Nat)(code:Int)(y:Sg)(m:Bool):Sg:={zjc code with id:=(k:Int),bar:=y.bar,mark:=if m=true then 3 else y.mark,fn:=y.fn,fd:=y.fd,tn:=y.tn,td:=y.td}
def zbs (ws:List Wr)(rows:List (List Int))(k:Nat)(code:Int):Out:=
 if (code==0)=true then .skip else
 match (sgK ws rows k code rows.length).ex.or (sgK ws rows k code rows.length).so with
 | none=>.err
 | some y=>if (UG code != 0)=true then .err else .sg (W8 k code y ((decide ((ws.length:Int)>1)&&((sgK ws rows k code rows.length).many:Int)==1)&& !(sgK ws rows k code rows.length).lost))
def Wv (ws:List Wr)(rows:List (List Int))(rd:List Int):Nat→Option (List Sg)
 | 0=>some []
 | k+1=>match Wv ws rows rd k with
  | none=>none
  | some l=>match zbs ws rows k (rd.getD k 0) with
   | .err=>none
   | .skip=>some l
   | .sg x=>some (l++[x])
theorem zeJ {ws : List Wr} {rows : List (List Int)} {rd : List Int} {k : Nat} (h : Wv ws rows rd k = none) : ∀ j, k ≤ j → Wv ws rows rd j = none
  | 0, hj => by obtain rfl : k = 0 := by omega
                cases h
  | j + 1, hj => by
    by_cases e : k = j + 1
    · subst e; exact h
    · show (match Wv ws rows rd j with | none => none | some l => match zbs ws rows j (rd.getD j 0) with | .err => none | .skip => some l | .sg x => some (l ++ [x])) = none
      rw [zeJ h j (by omega)]
theorem zg4 {ws:List Wr}{rows:List (List Int)}{rd:List Int}{k:Nat}{l:List Sg}(h:Wv ws rows rd k=some l)(ho:zbs ws rows k (rd.getD k 0)= .err)(hk:k<rd.length):Wv ws rows rd rd.length=none:=by
 refine zeJ (k:=k+1) ?_ _ hk
 show (match Wv ws rows rd k with | none=>none | some l=>match zbs ws rows k (rd.getD k 0) with | .err=>none | .skip=>some l | .sg x=>some (l++[x]))=none
 rw [h];simp only;rw [ho]
theorem zlR {ws:List Wr}{rows:List (List Int)}{rd:List Int}{k:Nat}{l:List Sg}(h:Wv ws rows rd k=some l)(ho:zbs ws rows k (rd.getD k 0)= .skip):Wv ws rows rd (k+1)=some l:=by
 show (match Wv ws rows rd k with | none=>none | some l=>match zbs ws rows k (rd.getD k 0) with | .err=>none | .skip=>some l | .sg x=>some (l++[x]))=_
 rw [h];simp only;rw [ho]
theorem zt9 {ws:List Wr}{rows:List (List Int)}{rd:List Int}{k:Nat}{l:List Sg}{x:Sg}(h:Wv ws rows rd k=some l)(ho:zbs ws rows k (rd.getD k 0)= .sg x):Wv ws rows rd (k+1)=some (l++[x]):=by
 show (match Wv ws rows rd k with | none=>none | some l=>match zbs ws rows k (rd.getD k 0) with | .err=>none | .skip=>some l | .sg x=>some (l++[x]))=_
 rw [h];simp only;rw [ho]
def JO (ws:List Wr)(rows:List (List Int))(no:Int)(cl:List Int)(es:List Em)(rd:List Int):Int:=
 if zae ws≠0 then zae ws else if Uz ws≠rows then 430 else if WP rows no cl es rd≠0 then WP rows no cl es rd else if (Wv ws rows rd rd.length).isNone=true then 430 else 0
def YM (ws:List Wr)(rows:List (List Int))(no:Int)(cl:List Int)(es:List Em)(rd:List Int):List Sg:=
 if JO ws rows no cl es rd≠0 then [] else (Wv ws rows rd rd.length).getD []
theorem zir {ws:List Wr}{rows:List (List Int)}{no:Int}{cl:List Int}{es:List Em}{rd:List Int}(h:JO ws rows no cl es rd≠0):YM ws rows no cl es rd=[]:=by unfold YM;rw [if_pos h]
theorem zxm {ws:List Wr}{rows:List (List Int)}{no:Int}{cl:List Int}{es:List Em}{rd:List Int}(h:zae ws≠0):JO ws rows no cl es rd=zae ws:=by unfold JO;rw [if_pos h]
theorem zwy {ws:List Wr}{rows:List (List Int)}{no:Int}{cl:List Int}{es:List Em}{rd:List Int}(h:zae ws=0)(h2:Uz ws≠rows):JO ws rows no cl es rd=430:=by unfold JO;rw [if_neg (by omega),if_pos h2]
theorem zxd {ws:List Wr}{rows:List (List Int)}{no:Int}{cl:List Int}{es:List Em}{rd:List Int}(h:zae ws=0)(h2:Uz ws=rows)(h3:WP rows no cl es rd≠0):JO ws rows no cl es rd=WP rows no cl es rd:=by unfold JO;rw [if_neg (by omega),if_neg (fun e=>e h2),if_pos h3]
theorem zun {ws:List Wr}{rows:List (List Int)}{no:Int}{cl:List Int}{es:List Em}{rd:List Int}(h:zae ws=0)(h2:Uz ws=rows)(h3:WP rows no cl es rd=0)(h4:Wv ws rows rd rd.length=none):JO ws rows no cl es rd=430:=by unfold JO;rw [if_neg (by omega),if_neg (fun e=>e h2),if_neg (by omega),h4];rfl
theorem ztT {ws:List Wr}{rows:List (List Int)}{no:Int}{cl:List Int}{es:List Em}{rd:List Int}{l:List Sg}(h:zae ws=0)(h2:Uz ws=rows)(h3:WP rows no cl es rd=0)(h4:Wv ws rows rd rd.length=some l):JO ws rows no cl es rd=0∧YM ws rows no cl es rd=l:=by
 have e:JO ws rows no cl es rd=0:=by unfold JO;rw [if_neg (by omega),if_neg (fun e=>e h2),if_neg (by omega),h4];rfl
 exact ⟨e,by unfold YM;rw [if_neg (by omega),h4];rfl⟩
theorem zpw {ws:List Wr}(_h:zae ws=0):(WZ ws != 0||ws.length==0)=false∨Uz ws=[]:=by
 cases e:(WZ ws != 0||ws.length==0) with
 | false=>exact .inl rfl
 | true=>exact .inr (zrs e).2
end
section
open Go Go.Kn Go.Proofs
theorem zlL:QW Tryz.prog 26 0 0:=.of (by kernel_rfl)
theorem zfg:QW Tryz.prog 26 1 1:=.of (by kernel_rfl)
theorem zaL:QW Tryz.prog 26 2 2:=.of (by kernel_rfl)
theorem ziR:Fun Tryz.prog 25:=.of Tryz.func25 (by kernel_rfl) (by kernel_rfl)
theorem zjD:ScT Tryz.prog 24:=.of (by kernel_rfl)
theorem zi6 {I:Qu}{bv:Option Addr}{n2 c2:Nat}{rows:List (List Int)}(hVn:SlN I bv n2 c2 rows)(hn2:n2≤100000){ea1:Option Addr}{en1 ec1:Nat}{ea2:Option Addr}{en2 ec2:Nat}{ea3:Option Addr}{en3 ec3:Nat}{xs:List Int}{es:List Em}{rd:List Int}(hX1:Sl I 1 QR ea1 en1 ec1 xs)(hX2:Sl I 3 Yy ea2 en2 ec2 es)(hX3:Sl I 1 QR ea3 en3 ec3 rd)(hm1:en1≤100000)(hm2:en2≤100000)(hm3:en3≤100000)(no:Int)(hDb:VI I):Zw Tryz.prog 30 [.slice bv n2 c2,.agg (Z1 no ea1 en1 ec1 ea2 en2 ec2 ea3 en3 ec3).toArray] I (.int .i64 (WP rows no xs es rd)):=by
 intro g H w hw
 refine qe Tryz.func30 Tryz.ntmps30 hw ?_
 have hIc:=zye I
 refine zR ?_
 refine Q5 rfl rfl rfl (fun b_3=>?_)
 refine zA ?_
 refine zN (zR ?_)
 refine zM ?_
 refine zF zlL ?_
 refine zL Qs ?_
 refine zF zfg ?_
 refine zL QK ?_
 refine zF zaL ?_
 refine zL zjD ?_
 refine Qz (cap:=[]) (vs:=[_,_,_,_]) rfl rfl ziR .nil (znV hX1 hVn hn2 hX2 hm2 hm1 hDb no) rfl rfl ?_
 rintro vv1 I1 L1 hI1 hMQ
 have hX3:=hX3.mono hI1;have hIc:=hIc.trans hI1
 obtain ⟨rfl,no2,cl2,es2,rd2,a1,q1,c1,a2,q2,c9,a3,q3,c3,rfl,hM1,hM2,hM3,hMy,hMn⟩:=hMQ.opn
 refine zM ?_
 refine zE ?_
 refine zE ?_
 refine Qr zlk rfl rfl (fun b_5=>?_)
 refine zh KN ?_
 refine zA (zN (Ql (zR ?_)))
 refine zM ?_
 refine zC (zN ?_)
 refine zI ?_ ?_<;>intro hc18
 ·
  have hE0:U9 rows no xs es≠0:=by have h:=hc18;simpa using h
  refine zR (zM ?_)
  refine zA (zN (Qt (Qc ?_)))
  first
  | exact zp hIc rfl rfl (by rw [zuB hE0]<;>rfl)
 have hE0:U9 rows no xs es=0:=by have h:=hc18;simpa using h
 obtain ⟨-, -, -,rfl⟩:=hMy hE0
 refine Qo (Qa (Ql (zR ?_)))
 refine zF VT ?_
 refine zL QK ?_
 refine zF VT ?_
 refine zL QK ?_
 refine qc (vs:=[_,_]) rfl zm8 (zjx hX3 hM3 hm3) ?_
 refine zO (zN ?_)
 refine zI ?_ ?_<;>intro hc25
 ·
  have hrd:rd≠VG rows xs es:=fun e=>by have h:=hc25;rw [decide_eq_true e] at h;cases h
  refine zR (zA (zN (Qt (Qc ?_))))
  first
  | exact zp hIc rfl rfl (by rw [zwl hE0 hrd]<;>rfl)
 have hrd:rd=VG rows xs es:=Decidable.byContradiction fun e=>by have h:=hc25;rw [decide_eq_false e] at h;cases h
 refine Qo (Qa (zR (zA (zN (Qt ?_)))))
 first
 | exact zp hIc rfl rfl (by rw [zqC hE0 hrd]<;>rfl)
end
section
open Go Go.Kn Go.Proofs
theorem zdU {ws:List Wr}:(Uz ws).length≤ws.length∧∀ x∈Uz ws,x.length≤256:=by
 unfold Uz
 split
 ·
  exact ⟨Nat.zero_le _,fun x hx=>by cases hx⟩
 ·
  rename_i h
  refine ⟨by simp,fun x hx=>?_⟩
  obtain ⟨i,_,rfl⟩:=List.mem_map.1 hx
  unfold zqw
  rw [Yd]
  exact Nat.le_of_not_gt fun h2=>h (.inr h2)
theorem zfN {ws:List Wr}{rows:List (List Int)}(h:Uz ws=rows)(h0:0<rows.length):rows.length=ws.length:=by
 subst h
 unfold Uz at h0 ⊢
 split
 ·
  rename_i h;rw [if_pos h] at h0;simp at h0
 ·
  simp
theorem zxb {row:List Int}{k:Nat}:nzF row k≤k:=by
 unfold nzF
 have h1:=List.length_filter_le (fun c:Int=>c != 0) (row.take k)
 have h2:=List.length_take_le k row
 omega
theorem zmq (xs:List Sg):Yx (xs.flatMap Y2)=true:=Yl (fun _=>rfl) xs
/-! ### What has been passed -/
def atN (rows:List (List Int))(k i:Nat):Nat→Nat:=fun j=>if j<i then nzF (rows.getD j []) (k+1) else nzF (rows.getD j []) k
theorem zfC {rows:List (List Int)}{k i:Nat}:YA (atN rows k i) i=((nzF (rows.getD i []) k:Nat):Int):=by unfold YA atN;rw [if_neg (by omega)]
theorem zkY {rows:List (List Int)}:(fun _=>0)=atN rows 0 0:=by funext j;unfold atN;rw [if_neg (by omega)];rfl
theorem zrf {rows:List (List Int)}{k i:Nat}{v:Nat}(h:nzF (rows.getD i []) (k+1)=v):Ur (atN rows k i) i v=atN rows k (i+1):=by
 funext j
 by_cases e:j=i
 ·
  subst e;rw [KM];unfold atN;rw [if_pos (by omega),h]
 ·
  rw [X9 e];unfold atN
  by_cases h2:j<i
  ·
   rw [if_pos h2,if_pos (by omega)]
  ·
   rw [if_neg h2,if_neg (by omega)]
theorem zs9 {rows:List (List Int)}{k i:Nat}(h:nzF (rows.getD i []) (k+1)=nzF (rows.getD i []) k):atN rows k i=atN rows k (i+1):=by
 funext j
 unfold atN
 by_cases e:j=i
 ·
  subst e;rw [if_neg (by omega),if_pos (by omega),h]
 ·
  by_cases h2:j<i
  ·
   rw [if_pos h2,if_pos (by omega)]
  ·
   rw [if_neg h2,if_neg (by omega)]
theorem zk1 {rows:List (List Int)}{k n:Nat}:Ve n (YA (atN rows k n))=Ve n (YA (atN rows (k+1) 0)):=by
 unfold Ve
 refine List.map_congr_left fun j hj=>?_
 unfold YA atN
 rw [if_pos (List.mem_range.1 hj),if_neg (by omega)]
/-! ### The steps -/
theorem zpF {ws:List Wr}{rows:List (List Int)}{k i:Nat}{code:Int}(h:((rows.getD i []).getD k 0==0)=true):sgK ws rows k code i=sgK ws rows k code (i+1):=by
 show _=zhW code (sgK ws rows k code i) ((rows.getD i []).getD k 0) (ydF ws rows i k)
 unfold zhW;rw [if_pos h]
theorem zpv {ws:List Wr}{rows:List (List Int)}{k i:Nat}{code:Int}{s:SgS}(hs:s=sgK ws rows k code i)(h:((rows.getD i []).getD k 0==0)=false)(hl:(ydF ws rows i k).lost=true):{s with lost:=true}=sgK ws rows k code (i+1):=by
 show _=zhW code (sgK ws rows k code i) ((rows.getD i []).getD k 0) (ydF ws rows i k)
 unfold zhW;rw [if_neg (by rw [h];decide),if_pos hl,hs]
theorem zuO {ws:List Wr}{rows:List (List Int)}{k i:Nat}{code:Int}{s:SgS}{y:Rd}(hs:s=sgK ws rows k code i)(h:((rows.getD i []).getD k 0==0)=false)(hy:ydF ws rows i k=y)(hl:y.lost=false)(he:(s.ex.isNone&&(rows.getD i []).getD k 0==code)=true):
  (⟨some y.sg,orS s.so y.sg,s.many+1,s.lost⟩:SgS)=sgK ws rows k code (i+1):=by
 show _=zhW code (sgK ws rows k code i) ((rows.getD i []).getD k 0) (ydF ws rows i k)
 unfold zhW;rw [if_neg (by rw [h];decide),hy,if_neg (by rw [hl];decide),←hs,if_pos he]
theorem zxa {ws:List Wr}{rows:List (List Int)}{k i:Nat}{code:Int}{s:SgS}{y:Rd}(hs:s=sgK ws rows k code i)(h:((rows.getD i []).getD k 0==0)=false)(hy:ydF ws rows i k=y)(hl:y.lost=false)(he:(s.ex.isNone&&(rows.getD i []).getD k 0==code)=false):
  (⟨s.ex,orS s.so y.sg,s.many+1,s.lost⟩:SgS)=sgK ws rows k code (i+1):=by
 show _=zhW code (sgK ws rows k code i) ((rows.getD i []).getD k 0) (ydF ws rows i k)
 unfold zhW;rw [if_neg (by rw [h];decide),hy,if_neg (by rw [hl];decide),←hs,if_neg (by rw [he];decide)]
theorem zhU {ws:List Wr}{rows:List (List Int)}{k:Nat}{code:Int}:∀ i,(sgK ws rows k code i).many≤i
 | 0=>Nat.le_refl _
 | i+1=>by
  have ih:=zhU (ws:=ws) (rows:=rows) (k:=k) (code:=code) i
  show (zhW code (sgK ws rows k code i) ((rows.getD i []).getD k 0) (ydF ws rows i k)).many≤i+1
  unfold zhW
  split
  ·
   omega
  ·
   split
   ·
    show (sgK ws rows k code i).many≤i+1;omega
   ·
    show (sgK ws rows k code i).many+1≤i+1;omega
theorem zkX {ws:List Wr}{rows:List (List Int)}{k:Nat}{code:Int}(h:(code==0)=true):zbs ws rows k code= .skip:=by unfold zbs;rw [if_pos h]
theorem zln {ws:List Wr}{rows:List (List Int)}{k:Nat}{code:Int}{s:SgS}(h:(code==0)=false)(hs:s=sgK ws rows k code rows.length)(hn:s.ex.or s.so=none):zbs ws rows k code= .err:=by
 subst hs;unfold zbs;rw [if_neg (by rw [h];decide),hn]
theorem zoU {ws:List Wr}{rows:List (List Int)}{k:Nat}{code:Int}{s:SgS}{y:Sg}(h:(code==0)=false)(hs:s=sgK ws rows k code rows.length)(hn:s.ex.or s.so=some y)(he:(UG code != 0)=true):zbs ws rows k code= .err:=by
 subst hs;unfold zbs;rw [if_neg (by rw [h];decide),hn];simp only;rw [if_pos he]
theorem zuu {ws:List Wr}{rows:List (List Int)}{k:Nat}{code:Int}{s:SgS}{y:Sg}(h:(code==0)=false)(hs:s=sgK ws rows k code rows.length)(hn:s.ex.or s.so=some y)(he:(UG code != 0)=false):
  zbs ws rows k code= .sg (W8 k code y ((decide ((ws.length:Int)>1)&&(s.many:Int)==1)&& !s.lost)):=by
 subst hs;unfold zbs;rw [if_neg (by rw [h];decide),hn];simp only;rw [if_neg (by rw [he];decide)]
theorem ztb {ws:List Wr}{rows:List (List Int)}{i k:Nat}{x:Wr}{y:Rd}(hx:ws[i]? =some x)(hy:x.rs[nzF (rows.getD i []) k]? =some y):ydF ws rows i k=y:=by
 unfold ydF;rw [hx];exact Q1 hy
theorem Cells.two {I:Qu}{b t off:Nat}{vs:List Value}{u u':Value}{fz:Nat×Nat}{l:Go.Kn.Loc}(h:I b=some (.cells vs.toArray t fz))(h0:vs[off]? =some u)(h1:vs[off+1]? =some u'):Cells I l b off [u,u']:=fun j v hj=>by
 rcases j with _ | _ | j
 ·
  cases hj;exact .imm h (by rw [Y8];simpa using h0)
 ·
  cases hj;exact .imm h (by rw [Y8];simpa using h1)
 ·
  simp at hj
def Y1 (t:Nat)(I:Qu)(p:Option Addr)(s:Option Sg):Prop:=match s with
 | none=>p=none
 | some x=>∃ b l,p=some ⟨b,1,none⟩∧I b=some (.cells (JF ⟨l,x⟩).toArray t (0,0))
theorem Y1.mono {t:Nat}{I I':Qu}{p:Option Addr}{s:Option Sg}(h:Y1 t I p s)(hI:HLe I I'):Y1 t I' p s:=by
 cases s with
 | none=>exact h
 | some x=>obtain ⟨b,l,h1,h2⟩:=h;exact ⟨b,l,h1,hI _ _ h2⟩
theorem Y1.isNone {t:Nat}{I:Qu}{p:Option Addr}{s:Option Sg}(h:Y1 t I p s):p.isNone=s.isNone:=by
 cases s with
 | none=>have h:p=none:=h;subst h;rfl
 | some x=>obtain ⟨b,l,rfl,h2⟩:=h;rfl
theorem Y1.new {t:Nat}{I:Qu}{b:Nat}{y:Rd}(h:I b=some (.cells (JF y).toArray t (0,0))):Y1 t I (some ⟨b,0+1,none⟩) (some y.sg):=⟨b,y.lost,rfl,h⟩
theorem Y1.orN {t:Nat}{I:Qu}{p q:Option Addr}{s:Option Sg}{y:Sg}(h:Y1 t I p s)(hp:p.isNone=true)(hq:Y1 t I q (some y)):Y1 t I q (orS s y):=by
 have:=h.isNone
 rw [hp] at this
 cases s with
 | none=>exact hq
 | some x=>cases this
theorem Y1.orS {t:Nat}{I:Qu}{p:Option Addr}{s:Option Sg}{y:Sg}(h:Y1 t I p s)(hp:p.isNone=false):Y1 t I p (orS s y):=by
 have:=h.isNone
 rw [hp] at this
 cases s with
 | none=>cases this
 | some x=>exact h
theorem Y1.orY {t:Nat}{I:Qu}{p q:Option Addr}{s u:Option Sg}(h:Y1 t I p s)(hp:p.isNone=true)(hq:Y1 t I q u):Y1 t I q (s.or u):=by
 have:=h.isNone
 rw [hp] at this
 cases s with
 | none=>exact hq
 | some x=>cases this
theorem Y1.orX {t:Nat}{I:Qu}{p:Option Addr}{s u:Option Sg}(h:Y1 t I p s)(hp:p.isNone=false):Y1 t I p (s.or u):=by
 have:=h.isNone
 rw [hp] at this
 cases s with
 | none=>cases this
 | some x=>exact h
theorem Y1.at {t:Nat}{I:Qu}{p:Option Addr}{s:Option Sg}(h:Y1 t I p s)(hp:p.isNone=false):∃ x b l,s=some x∧p=some ⟨b,1,none⟩∧I b=some (.cells (JF ⟨l,x⟩).toArray t (0,0)):=by
 have:=h.isNone
 rw [hp] at this
 cases s with
 | none=>cases this
 | some x=>obtain ⟨b,l,h1,h2⟩:=h;exact ⟨x,b,l,rfl,h1,h2⟩
theorem Y1.none {t:Nat}{I:Qu}{p:Option Addr}{s:Option Sg}(h:Y1 t I p s)(hp:p.isNone=true):s=Option.none:=by
 have:=h.isNone
 rw [hp] at this
 cases s with
 | none=>rfl
 | some x=>cases this
end
end Go.Proofs.YtodakphagkommaaGreatDoor
