/- topOrigins_holds, part D of the proof: what its theorems say holds without further conditions. -/
import Derived.Test.YtmbjmjbjdgjonaaGreatDoorTOC
namespace Go.Proofs.YtmbjmjbjdgjonaaGreatDoor
section
open Go Go.Kn Go.Proofs
theorem zAz:Fun Tryz.prog 69:=.of Tryz.func69 kA kA
theorem ztz:Fun Tryz.prog 71:=.of Tryz.func71 kA kA
theorem zxt:SzT Tryz.prog 136 1:=.of kA
theorem zDx:Yw Tryz.prog 136 .nilFunc:=.of kA
variable{zs:List Int}{v:Value}
theorem zjB {n:Nat}{L:Go.Kn.Loc}(hO:OwnS 3 1 v n (zs.flatMap Q3) L)(hn:n<=1000000)(I:Qt):ZQ Tryz.prog 71 [v] I L (fun u I' L'=>I'=I/\OwnS 3 1 u (Lib.compact zs).length ((Lib.compact zs).flatMap Q3) L'):=by rw [XG] at hO;rw [XG];exact zcD Lib.compact Lib.compact_length_le U Tryz.slices_Compact_int Tryz.slices_Compact_int_empty zs hO hn I
theorem zfQ {I:Qt}{bst brow bloc bcla bse:Nat}{sv bv av:Option Addr}{ns cs n2 c2 n c:Nat}{St xs:List Int}{rows:List (List Int)}{l:Nat}(hn:n<=100000)(hn2:n2<=100000)(hns:ns<=1000)(hl:∀ r∈rows,l<r.length)(hc:V4 rows.length xs=0):∀ (f:Nat) (I:Qt),RtE I 72 bst brow bloc bcla bse sv bv av ns cs n2 c2 n c St xs rows l->∀ (s:Int),OkS rows.length xs s->s.toNat<=f->ZQ Tryz.prog 72 ([.int .i64 s]++[QZ bst,QZ brow,QZ bloc,QZ bcla,QZ bse]) I [] (zec 1 Q3 (rcF St (uF rows l) xs f s))
 | 0,_,_,s,hok,hf=>by have:=hok.1;omega
 | f+1,I,hE,s,hok,hf=>zpR hE hn hn2 hns hl hc f s hok (fun h=>kB) fun I' hI s' hok' hlt=>zfQ (I:=I') hn hn2 hns hl hc f I' (hE.mono hI) s' hok' (by have:=hok'.1;have:=hok.1;omega)
variable{I:Qt}{av bv:Option Addr}{xs:List Int}{rows:List (List Int)}
theorem zv9 {n c:Nat}(hS:Sl I 1 Q3 av n c xs){n2 c2:Nat}(hVn:SlN I bv n2 c2 rows)(hn2:n2<=100000)(hDb:KR I):ZQ Tryz.prog 26 [.slice bv n2 c2,.slice av n c] I [] (zBq rows xs):=by
 intro g H w hw;refine qe Tryz.func26 Tryz.ntmps26 hw ?_;have hIc:=zGN I;have hlV:=hVn.len;subst hlV;have hVn9:=hVn;obtain ⟨hs,hV⟩:=hVn9;have hH:=hV.1;refine zR ?_;refine QG U U U (fun b_2=>?_);refine QG U U U (fun b_3=>?_);refine zA ?_;refine zA (zN (Ql (zR ?_)));refine zV (Qd U Ki (fun hg=>by exact zGH (zGI U))) ?_;refine zV (Qd U QK (fun hg=>by exact zGI U)) ?_;refine qcV (vs:=[_,_]) U zAz (zvx hS hVn hn2 hDb) ?_;refine zM ?_;refine zE ?_;refine zE ?_;refine zA ?_;refine zN (zR ?_);refine zM ?_;refine zC (zN ?_);refine zI ?_ ?_<;>intro hc24
 ·have hcE:Y2 rows xs≠0:=(by simpa using hc24);refine zR (zM ?_);refine zA ?_;refine zA (zN (Qr (Qc ?_)))
  first
  | exact Q9 U U U (fun w hw=>⟨_,_,[],U,hIc,hw.drop,U,none,0,by rw [zeK hcE];rfl,by rw [zeK hcE];exact .none⟩)
 have hcE:Y2 rows xs=0:=by simpa using hc24
 have hr0:YL rows=0:=by cases Bz (YL rows=0) with
  | inl h=>exact h
  | inr h=>exact absurd ((ziY h).1.symm.trans hcE) h
 have hc0:V4 rows.length xs=0:=(by have h:=hcE;unfold Y2 at h;rw [ja kB] at h;exact h);obtain ⟨hr1,hr6,hr64,hrr⟩:=Uh hr0;obtain ⟨x0,v0,hx0,hv0,hQ0⟩:=hV.at (k:=0) kB;have hx0l:=hQ0.len;have hg0:rows.getD 0 []=v0:=Q1 hv0;rw [hg0] at hr64 hrr;have hxl:=(ZZ hc0).2.2.1;have hSl:=hS.len;have hn:n<=100000:=kB;have hsh:=zfj (n:=(rows.length:Int)) ⟨kB,kB⟩;have hal9:=WA (n:=(rows.length:Int)) ⟨kB,kB⟩;refine Qo (Qa (Ql (Ql ?_)));refine Jg (fun I1 hI1 hall=>?_);have hS:=hS.mono hI1;have hVn:=hVn.mono hI1;have hV:=hV.mono hI1;have hH:=hH.mono hI1;have hIc:=hIc.trans hI1;have hB2:QB I1 [] b_2 0 (.slice bv rows.length c2):=.imm (hall _ _ kF) U;have hB3:QB I1 [] b_3 0 (.slice av n c):=.imm (hall _ _ kF) U;refine Qf ?_;refine zV (Qd U Ki (fun hg=>by exact hB2.any)) ?_;refine zV (zX Zn hH) ?_;refine zV (Qd U QK (fun hg=>by exact zGG hH hx0 U)) ?_;refine zQ Qx ?_;refine zM (zN (Qp ?_));refine zU [(2,_),(3,_),(29,_)] (fun T L0 mz E I' loc'=>∃ (l:Nat) (v4:Value) (os:List Hd) (L:Go.Kn.Loc),mz=x0.n-l/\E=(4,v4)::(30,.int .i64 l)::T/\HLe I1 I'/\L=loc'/\l<=x0.n/\OwnS 37 1 v4 l (os.flatMap KU) L/\zaq I' os ((List.range l).map (Ug rows xs))) ?_ (h:=⟨0,_,[],[],U,U,zGN _,U,jf _,OwnS.nil,zaq.nil⟩);rintro mz E J2 loc' ⟨l,v4,os,L,rfl,rfl,hJ,rfl,hl,hO4,hre⟩;have hS:=hS.mono hJ;have hVn:=hVn.mono hJ;have hV:=hV.mono hJ;have hH:=hH.mono hJ;have hB2:=hB2.mono hJ;have hB3:=hB3.mono hJ;have hIc:=hIc.trans hJ;have hB0:=hJ;obtain ⟨va4,vc4,rfl⟩:=zfu hO4;refine zR (zC (zN (Ql ?_)));refine zI ?_ ?_<;>intro hc31
 ·have hlt_l:l<x0.n:=(by have h:=hc31;simp at h;omega);have hsl:=znq (rows:=rows) (l:=l);refine Qo (Qa (Ql (Qp (zR (zM ?_)))));refine Qs zsW U U (fun b_6=>?_);refine zS ZD ?_;refine zN (zR ?_);refine zpb [(0,_)] [Q3 (0:Int)] Zw (fun b_33=>?_);refine Qs YI U U (fun b_7=>?_);refine zS Ze ?_;refine zN (Ql (zR ?_));refine zV (Qd U Ki (fun hg=>by exact hB2.any)) ?_;refine zQ Zn ?_;refine zM (zN (Qp ?_));refine zU [(2,_),(3,_),(4,_),(6,_),(7,_),(29,_),(30,_),(34,_),(35,_)] (fun T L0 mz E I' loc'=>∃ (i:Nat) (v7:Value) (q7:Nat) (L7:Go.Kn.Loc),mz=rows.length-i/\E=(36,.int .i64 i)::T/\J2=I'/\(b_7,.cells #[v7] 37 (0,0))::(L7++((b_6,.cells #[.int .i64 l] 3 (0,0))::L))=loc'/\i<=rows.length/\OwnS 3 1 v7 q7 ((stL rows l i).flatMap Q3) L7/\q7<=i+1) ?_ (h:=⟨0,_,1,[(b_33,_)],U,U,U,U,jf _,OwnS.lit U kE,js _⟩);rintro mz E I' loc' ⟨i,v7,q7,L7,rfl,rfl,rfl,rfl,hi,hO7,hq7⟩;obtain ⟨va,vc,rfl⟩:=zfu hO7;refine zR (zC (zN (Ql ?_)));refine zI ?_ ?_<;>intro hc37
  ·have hlt_i:i<rows.length:=(by have h:=hc37;simp at h;omega);obtain ⟨x,v,hx,hv,hQ⟩:=hV.at hlt_i;have hlv:l<v.length:=(by rw [(hrr v (jd hv)).1];omega);have hu:=Zc (d:=0) U hlv;have hvn:=hQ.len;have hUF:uF rows l i=v.getD l 0:=(by unfold uF;rw [Q1 hv]);refine Qo (Qa (Ql (Qp (zR ?_))));refine zV (zX Zn hH) ?_;refine zV (Qd U QK (fun hg=>by exact zGG hH hx U)) ?_;refine zA ?_;refine zN (zR ?_);refine zM ?_;refine zV (Qd U Qq (fun hg=>by (repeat (first | exact zGI U | apply zGH | apply zGJ)))) ?_;refine zV (zX Qx hQ) ?_;refine zV (Qd U Qq (fun hg=>by exact zGG hQ hu U)) ?_;refine zA ?_;refine zN (zR ?_);refine zM ?_;refine zC (zN ?_);refine zI ?_ ?_<;>intro hc45
   ·have hne:uF rows l i≠8589934592:=(by rw [hUF];simpa using hc45);refine Qf ?_;refine zV (Qd U QK (fun hg=>by exact zGI U)) ?_;refine zM ?_;refine zpb [(0,_)] [Q3 (v.getD l 0)] Zw (fun b_48=>?_);refine zpa (_) ([v.getD l 0].flatMap Q3) (L7) U U Zw hO7 ⟨U,fun _=>U,by repeat (first | exact zGL | apply zGK | apply zGM)⟩ (JH [v.getD l 0]) ?_;intro v9 L9 hO9 _;rw [<-jo] at hO9;obtain ⟨va9,vc9,rfl⟩:=zfu hO9;refine zS Ze ?_;refine Qb (Qg (Qa (Qf (zB ?_))));refine zM (Qb ?_)
    first
    | exact Ub _ _ (L9++((b_7,_)::((b_6,_)::L))) ⟨rows.length-(i+1),kB,i+1,_,q7+1,L9,U,U,U,U,kB,by rw [zCR hne,hUF];exact hO9,kB⟩ (.cons U (.cons U (.cons U (.cons U (.cons U (.cons U (.cons U (.cons U (.cons U (.cons U .nil)))))))))) O0.symm kH
   have heq:uF rows l i=8589934592:=(by rw [hUF];simpa using hc45);refine Qo (Qg (Qa (Qf (zB ?_))));refine zM (Qb ?_)
   first
   | exact zm (h:=⟨rows.length-(i+1),kB,i+1,_,q7,L7,U,U,U,U,kB,by rw [zEQ heq];exact hO7,kB⟩)
  have hge_i:rows.length<=i:=(by have h:=hc37;simp at h;omega);rw [show i=rows.length by omega] at hO7;refine QF (Qh (Qh (Qm (Qa (zR ?_)))));refine zV (Qd U QK (fun hg=>by exact zGI U)) ?_;refine zpc [_] U zfq (by repeat (first | exact .cons .here .nil | exact QT | exact QO | apply Zi | apply Zd)) (zdh hO7 kB _) ?_;rintro vv4 I4 L4 hI4 ⟨rfl,rfl,hO5⟩;have hS:=hS.mono hI4;have hVn:=hVn.mono hI4;have hB2:=hB2.mono hI4;have hB3:=hB3.mono hI4;have hre:=hre.mono hI4;have hB0:=hB0.trans hI4;refine zN (zR ?_);refine zV (Qd U QK (fun hg=>by (repeat (first | exact zGI U | apply zGH | apply zGJ)))) ?_;refine zpc [_] U ztz (by repeat (first | exact .cons .here .nil | exact QT | exact QO | apply Zi | apply Zd)) (zjB hO5 kB _) ?_;rintro vv5 I5 L5 hI5 ⟨rfl,hO6⟩;have hS:=hS.mono hI5;have hVn:=hVn.mono hI5;have hB2:=hB2.mono hI5;have hB3:=hB3.mono hI5;have hre:=hre.mono hI5;have hB0:=hB0.trans hI5;have hO6:OwnS 3 1 _ (stE rows l).length ((stE rows l).flatMap Q3) _:=hO6;obtain ⟨va6,vc6,rfl⟩:=zfu hO6;refine zS Ze ?_;refine zN (zR ?_);refine Qs zDx U U (fun b_11=>?_);refine zN (zR ?_);refine zV (QN (us:=[]) (vs:=[_,_,_,_,_]) U U) ?_;refine zS zxt ?_;refine zN (Ql ?_);refine zx4 hO6 Zh (fun I6 hI6 af6 cf6 ef6 hT9=>?_);cases ef6;have hS:=hS.mono hI6;have hVn:=hVn.mono hI6;have hB2:=hB2.mono hI6;have hB3:=hB3.mono hI6;have hre:=hre.mono hI6;have hB0:=hB0.trans hI6;refine QQ (b:=b_11) (by repeat (first | exact Zf.here | apply Zf.there)) (fun I7 hI7 hb7=>?_);have hS:=hS.mono hI7;have hVn:=hVn.mono hI7;have hB2:=hB2.mono hI7;have hB3:=hB3.mono hI7;have hre:=hre.mono hI7;have hT9:=hT9.mono hI7;have hB0:=hB0.trans hI7;have hC11:QB I7 [] b_11 0 (.func (.func 72) #[] #[QZ b_7,QZ b_2,QZ b_6,QZ b_3,QZ b_11]):=.imm hb7 U;refine QQ (b:=b_7) (by repeat (first | exact Zf.here | apply Zf.there)) (fun I8 hI8 hb8=>?_);have hS:=hS.mono hI8;have hVn:=hVn.mono hI8;have hB2:=hB2.mono hI8;have hB3:=hB3.mono hI8;have hre:=hre.mono hI8;have hT9:=hT9.mono hI8;have hC11:=hC11.mono hI8;have hB0:=hB0.trans hI8;have hC7:QB I8 [] b_7 0 (.slice va6 (stE rows l).length vc6):=.imm hb8 U;refine QQ (b:=b_6) (by repeat (first | exact Zf.here | apply Zf.there)) (fun I9 hI9 hb9=>?_);have hS:=hS.mono hI9;have hVn:=hVn.mono hI9;have hB2:=hB2.mono hI9;have hB3:=hB3.mono hI9;have hre:=hre.mono hI9;have hT9:=hT9.mono hI9;have hC11:=hC11.mono hI9;have hC7:=hC7.mono hI9;have hB0:=hB0.trans hI9;have hC6:QB I9 [] b_6 0 (.int .i64 l):=.imm hb9 U;have hRE:RtE I9 72 b_7 b_2 b_6 b_3 b_11 va6 bv av (stE rows l).length vc6 rows.length c2 n c (stE rows l) xs rows l:=⟨hC7,hB2,hC6,hB3,hC11,hT9,hS,hVn⟩;have hD:=zGN I9;refine KF mixed ?_;refine zT 0 U (Qd U zob (fun hg=>by exact hC11.any)) hD ?_;refine zT 1 U (Qd U Ki (fun hg=>by exact hB2.any)) hD ?_;refine zT 2 U (ZX U Zn) hD ?_;refine zT 3 U (zaA U U (fun hg=>kB)) hD ?_;refine zT 4 U (ZL U U U (fun hg=>kB)) hD ?_;refine qd 5 U ?_;refine Z1 (cap:=[QZ b_7,QZ b_2,QZ b_6,QZ b_3,QZ b_11]) (vs:=[_]) U U zsK (by exact .nil) (zfQ (I:=I9) hn hn2 kB (fun r hr=>by rw [(hrr r hr).1];omega) hc0 64 I9 hRE (YY rows.length) (zov hc0) kB) U U ?_;rintro vv10 I10 L10 hI10 ⟨rfl,aA,cA,rfl,hAll⟩;have hre:=hre.mono hI10;have hT9:=hT9.mono hI10;have hC7:=hC7.mono hI10;have hB0:=hB0.trans hI10;have hD:=hD.trans hI10;have htl:(rcF (stE rows l) (uF rows l) xs 64 (YY rows.length)).length=(stE rows l).length:=zlw;have hsp:=znz (rows:=rows) (l:=l);have hMin:=zCL (xs:=zoH rows xs l) hAll kB kB;refine Qb ?_;refine zD hD ?_;refine zT 6 U (QU U) hD ?_;refine Qz kA ?_;refine QD ?_;refine Qa (zR (zM ?_));refine qcV (vs:=[_]) U zsy (hMin) ?_;refine zA ?_;refine zN (zR ?_);refine zA (zN (Ql (zR ?_)));refine zV (Qd U QK (fun hg=>by exact hC7.any)) ?_;refine zQ Qx ?_;refine zM (zN (Qp ?_));refine zU [(2,_),(3,_),(4,_),(12,_),(13,_),(29,_),(30,_),(64,_),(65,_)] (fun T L0 mz E I' loc'=>∃ (i:Nat) (v14:Value) (q14:Nat) (L14:Go.Kn.Loc),mz=(stE rows l).length-i/\E=(14,v14)::(66,.int .i64 i)::T/\I10=I'/\L14++L=loc'/\i<=(stE rows l).length/\OwnS 3 1 v14 q14 ((((stE rows l).take i).filter fun x=>zxh rows xs l x==YR (zoH rows xs l)).flatMap Q3) L14/\q14<=i) ?_ (h:=⟨0,_,0,[],U,U,U,U,jf _,OwnS.nil,js _⟩);rintro mz E I' loc' ⟨i,v14,q14,L14,rfl,rfl,rfl,rfl,hi,hO14,hq14⟩;refine zR (zC (zN (Ql ?_)));refine zI ?_ ?_<;>intro hc67
  ·have hlt_i:i<(stE rows l).length:=(by have h:=hc67;simp at h;omega);obtain ⟨y,hst⟩:=hT9.at hlt_i;have hax:(zoH rows xs l)[i]? =some (zxh rows xs l y):=(by rw [zer,j5,hst];rfl);refine Qo (Qa (Ql (Qp (zR (zM ?_)))));refine zV (zX Qx hT9) ?_;refine zV (Qd U Qq (fun hg=>by exact zGG hT9 hst U)) ?_;refine zA ?_;refine zA ?_;refine zN (zR ?_);refine zM ?_;refine zM ?_;refine zV (zX Qx hAll) ?_;refine zV (Qd U Qq (fun hg=>by exact zGG hAll hax U)) ?_;refine zM ?_;refine zC (zN ?_);refine zI ?_ ?_<;>intro hc76
   ·have hbf:(zxh rows xs l y==YR (zoH rows xs l))=true:=hc76;refine Qf (zM ?_);refine zM ?_;refine zpb [(0,_)] [Q3 y] Zw (fun b_79=>?_);refine zpa (_) ([y].flatMap Q3) (L14) U U Zw hO14 ⟨U,fun _=>U,by repeat (first | exact zGL | apply zGK | apply zGM)⟩ (JH [y]) ?_;intro v9 L9 hO9 _;rw [<-jo] at hO9;refine zA (Qb (Qg (Qa (Qf ?_))));refine zB ?_;refine zM (Qb ?_)
    first
    | exact zm (h:=⟨(stE rows l).length-(i+1),kB,i+1,_,_,_,U,U,U,U,kB,by rw [zpI hst hbf];exact hO9,kB⟩)
   have hbf:(zxh rows xs l y==YR (zoH rows xs l))=false:=hc76;refine Qo (Qg (Qa (Qf (zB ?_))));refine zM (Qb ?_)
   first
   | exact zm (h:=⟨(stE rows l).length-(i+1),kB,i+1,_,_,_,U,U,U,U,kB,by rw [zya hst hbf];exact hO14,kB⟩)
  have hge_i:(stE rows l).length<=i:=(by have h:=hc67;simp at h;omega);rw [jD hge_i] at hO14;obtain ⟨va14,vc14,rfl⟩:=zfu hO14;have hrf:(stE rows l).filter (fun x=>zxh rows xs l x==YR (zoH rows xs l))=Ug rows xs l:=rfl;have hq9:q14=(Ug rows xs l).length:=(by have h1:=hO14.1;rw [ZF Zh,hrf] at h1;omega);subst hq9;refine QF (Qh (Qh (Qm (Qa ?_))));refine zx4 hO14 Zh (fun I12 hI12 af12 cf12 ef12 hR14=>?_);cases ef12;have hre:=hre.mono hI12;have hB0:=hB0.trans hI12;refine Qf (zM ?_);refine zM ?_;refine zpb [(0,_)] [KU ⟨va14,(Ug rows xs l).length,vc14⟩] UP (fun b_84=>?_);refine zpa (_) ([(⟨va14,(Ug rows xs l).length,vc14⟩:Hd)].flatMap KU) (L) U U UP hO4 ⟨U,fun _=>U,by repeat (first | exact zGL | apply zGK | apply zGM)⟩ (zrh _) ?_;intro v8 L8 hO8 _;rw [<-jo] at hO8;refine zA (Qb (Qg (Qa (Qf ?_))));refine zB ?_;refine zM (Qb ?_);exact zm (h:=⟨x0.n-(l+1),kB,l+1,_,_,_,U,U,hB0,U,kB,hO8,by rw [zbX];exact hre.snoc (hd:=⟨va14,(Ug rows xs l).length,vc14⟩) (by rw [<-hrf];exact hR14)⟩)
 have hge_l:l=x0.n:=(by have h:=hc31;simp at h;omega);refine QF (Qh (Qh (Qm (Qa (zR (zM ?_))))));refine zA ?_;refine zA (zN (Qr ?_))
 first
 | exact Q9 U U U (fun w hw=>by obtain ⟨I9,av9,c9,h1',h2',e9,h4'⟩:=OwnS.freeze (R:=[]) hO4 K5 kE (by rw [jz];exact hw);cases e9;exact ⟨_,I9,[],U,hIc.trans h1',h2',U,va4,vc4,by rw [zaX hcE,jE,OU,hg0,hx0l,hcE,<-hge_l],by rw [zaX hcE,jE,OU,hg0,hx0l,<-hge_l];exact ⟨os,h4',hre.mono h1'⟩⟩)
structure Dg where
 n:Int
 lo:Int
 hi:Int
 b:Int
def zot (d:Dg):List Value:=[.int .i64 d.n,.int .i64 d.lo,.int .i64 d.hi,.int .i64 d.b]
theorem zpt (d:Dg):(zot d).length=4:=rfl
def zjz (d:Dg):Bool:=decide (d.n<d.lo)||decide (d.n>d.hi)
def zpr (c:Int)(d:Dg):Int:=orI (IntKind.i64.wrap (c*2^(min d.b.toNat IntKind.i64.bits))) d.n
def VI (c:Int):List Dg->Option Int
 | []=>some c
 | d::ds=>if zjz d=true then none else VI (zpr c d) ds
variable{c:Int}{ds:List Dg}{k:Nat}
theorem zpC {d:Dg}(h:ds[k]? =some d)(hb:zjz d=true):VI c (ds.drop k)=none:=by rw [Zz h];unfold VI;rw [jb hb]
theorem zmR {d:Dg}(h:ds[k]? =some d)(hb:zjz d=false):VI c (ds.drop k)=VI (zpr c d) (ds.drop (k+1)):=by rw [Zz h];show (if zjz d=true then none else VI (zpr c d) (ds.drop (k+1)))=_;rw [ja (by rw [hb];decide)]
theorem zpd (h:ds.length<=k):VI c (ds.drop k)=some c:=by rw [Oa h];rfl
theorem zyz:AgT Tryz.prog 204 4:=.of kA
theorem zb3:QP Tryz.prog 204 0 0:=.of kA
theorem zlx:QP Tryz.prog 204 1 1:=.of kA
theorem zlZ:QP Tryz.prog 204 2 2:=.of kA
theorem zng:QP Tryz.prog 204 3 3:=.of kA
theorem zmM:SlT Tryz.prog 236 204 4:=.of kA
theorem zxR:SzT Tryz.prog 204 4:=.of kA
theorem zC8:Yw Tryz.prog 204 (.agg #[(.int .i64 0),(.int .i64 0),(.int .i64 0),(.int .i64 0)]):=.of kA
theorem zAZ {n c:Nat}(hS:Sl I 4 zot av n c ds)(hn:n<=100000)(hb:∀ d∈ds,0<=d.b):Zt Tryz.prog 140 [.slice av n c] I (.tuple #[.int .i64 ((VI 0 ds).getD 0),.bool (VI 0 ds).isSome]):=by
 intro g H w hw;refine qe Tryz.func140 Tryz.ntmps140 hw ?_;refine zR (zA ?_);refine zA (zN (Ql (zR ?_)));refine zM ?_;refine zQ zmM ?_;refine zM (zN (Qp ?_));refine zU [(6,_),(7,_)] (fun T L0 mz E I' loc'=>∃ (k:Nat) (a:Int),mz=n-k/\E=(2,.int .i64 a)::(8,.int .i64 k)::T/\I=I'/\[]=loc'/\k<=n/\VI 0 ds=VI a (ds.drop k)) ?_ (h:=⟨0,0,U,U,U,U,jf _,U⟩);rintro mz E I' loc' ⟨k,a,rfl,rfl,rfl,rfl,hk,hpk⟩;refine zR (zC (zN (Ql ?_)));refine zI ?_ ?_<;>intro hc9
 ·have hlt_k:k<n:=(by have h:=hc9;simp at h;omega);obtain ⟨d,hd⟩:=hS.at hlt_k;have hbd:=hb d (jd hd);refine Qo (Qa (Ql (Qp (zR ?_))));refine zV (zX zmM hS) ?_;refine zV (Qk U zyz (fun hg=>by exact zGO hS hd) U) ?_;refine Qs zC8 U U (fun b_5=>?_);refine zh zxR ?_;refine zN (Ql (zR ?_));refine zF zb3 ?_;refine zL Qq ?_;refine zF zlx ?_;refine zL Qq ?_;refine zC ?_;refine zM ?_;refine Q8 5 U U U ?_;refine zJ (Qe U zb3) ?_;refine zJ (Qd U Qq (fun hg=>by exact QB.h0 U)) ?_;refine zJ (Qe U zlZ) ?_;refine zJ (Qd U Qq (fun hg=>by exact QB.h0 U)) ?_;refine zJ (QI U U U) ?_;refine ZO U U U U U ?_;refine zN ?_;refine zI ?_ ?_<;>intro hc23
  ·rw [zpC hd hc23] at hpk;refine zR (zA ?_);refine zA (zN (Qr (Qc (Qn (Qc (Qc (Qn ?_)))))));refine Qc ?_
   first
   | exact Q9 U U U (fun w hw=>⟨by rw [hpk];rfl,hw.drop⟩)
  refine Qo (Qa ?_);refine YE mixed kA ?_;refine zq (Qj U) ?_;refine zq (Qe U zng) ?_;refine zq (Qd U Qq (fun hg=>by exact QB.h0 U)) ?_;refine zq (zaA U U (fun hg=>by exact hbd)) ?_;refine zq (Qe U zb3) ?_;refine zq (Qd U Qq (fun hg=>by exact QB.h0 U)) ?_;refine zq (zEF U U) ?_;refine zq (QU U) ?_;refine YC ?_;refine Qg (Qa (Qf (zB ?_)));refine zM (Qb ?_);exact zm (h:=⟨n-(k+1),kB,k+1,zpr a d,U,U,U,U,kB,by rw [hpk,zmR hd hc23]⟩)
 have hge_k:n<=k:=(by have h:=hc9;simp at h;omega);rw [zpd (by rw [hS.len];exact hge_k)] at hpk;refine QF (Qh (Qh (Qm (Qa (zR (zM ?_))))));refine zA ?_;refine zA (zN (Qr ?_))
 first
 | exact Q9 U U U (fun w hw=>⟨by rw [hpk];rfl,hw.drop⟩)
structure Sg where
 id:Int
 role:Int
 bar:Int
 mark:Int
 kind:Int
 side:Int
 dir:Int
 level:Int
 size:Int
 wth:Int
 fn:Int
 fd:Int
 tn:Int
 td:Int
def Zk (x:Sg):List Value:=[.int .i64 x.id,.int .i64 x.role,.int .i64 x.bar,.int .i64 x.mark,.int .i64 x.kind,.int .i64 x.side,.int .i64 x.dir,.int .i64 x.level,.int .i64 x.size,.int .i64 x.wth,.int .i64 x.fn,.int .i64 x.fd,.int .i64 x.tn,.int .i64 x.td]
def Yp (x:Sg):Value:=.agg (Zk x).toArray
theorem Z8 (x:Sg):(Zk x).length=14:=rfl
def dgs (x:Sg):List Dg:=[⟨x.role,0,63,6⟩,⟨x.kind,1,9,4⟩,⟨x.side,0,2,2⟩,⟨x.dir,0,8,4⟩,⟨x.level,0,3,2⟩,⟨x.size,0,255,8⟩,⟨x.wth,0,64,7⟩]
theorem zFu (x:Sg):∀ d∈dgs x,0<=d.b:=fun d h=>by
 unfold dgs at h;simp only [jp,List.not_mem_nil,or_false] at h;rcases h with rfl | rfl | rfl | rfl | rfl | rfl | rfl<;>simp
def KZ (x:Sg):Int:=(VI 0 (dgs x)).getD 0
def Kg (x:Sg):Int:=if (VI 0 (dgs x)).isSome=true then 0 else 410
variable{x:Sg}
theorem zwT (h:(VI 0 (dgs x)).isSome=false):KZ x=0/\Kg x=410:=by
 have:VI 0 (dgs x)=none:=by cases hp:VI 0 (dgs x) with
  | none=>rfl
  | some c=>rw [hp] at h;cases h
 unfold KZ Kg;rw [this];exact ⟨U,U⟩
theorem zrs (h:(VI 0 (dgs x)).isSome=true):Kg x=0:=by unfold Kg;rw [jb h]
theorem zyQ:ElT Tryz.prog 236 204 4 32:=.of kA
theorem Vq:QP Tryz.prog 28 1 1:=.of kA
theorem Kw:QP Tryz.prog 28 4 4:=.of kA
theorem VE:QP Tryz.prog 28 5 5:=.of kA
theorem Yx:QP Tryz.prog 28 6 6:=.of kA
theorem Jk:QP Tryz.prog 28 7 7:=.of kA
theorem Yy:QP Tryz.prog 28 8 8:=.of kA
theorem VT:QP Tryz.prog 28 9 9:=.of kA
theorem zuM:Fun Tryz.prog 140:=.of Tryz.func140 kA kA
theorem WL:PlT Tryz.prog 204 #[(0,1),(1,1),(2,1),(3,1)] (.agg #[(.int .i64 0),(.int .i64 0),(.int .i64 0),(.int .i64 0)]):=⟨.of kA,kA,fun w=>kA⟩
theorem zrW (I:Qt)(x:Sg):Zt Tryz.prog 58 [Yp x] I (.tuple #[.int .i64 (KZ x),.int .i64 (Kg x)]):=by
 intro g H w hw;refine qe Tryz.func58 Tryz.ntmps58 hw ?_;have hIc:=zGN I;refine zR ?_;refine QG U U U (fun b_1=>?_);refine zA ?_;refine zA ?_;refine zN (zR ?_);refine zF Vq ?_;refine zL Qq ?_;refine zV (QC (ps:=[(0,_),(1,_),(2,_),(3,_)]) [_,_,_,_] WL U U) ?_;refine zF Kw ?_;refine zL Qq ?_;refine zV (QC (ps:=[(0,_),(1,_),(2,_),(3,_)]) [_,_,_,_] WL U U) ?_;refine zF VE ?_;refine zL Qq ?_;refine zV (QC (ps:=[(0,_),(1,_),(2,_),(3,_)]) [_,_,_,_] WL U U) ?_;refine zF Yx ?_;refine zL Qq ?_;refine zV (QC (ps:=[(0,_),(1,_),(2,_),(3,_)]) [_,_,_,_] WL U U) ?_;refine zF Jk ?_;refine zL Qq ?_;refine zV (QC (ps:=[(0,_),(1,_),(2,_),(3,_)]) [_,_,_,_] WL U U) ?_;refine zF Yy ?_;refine zL Qq ?_;refine zV (QC (ps:=[(0,_),(1,_),(2,_),(3,_)]) [_,_,_,_] WL U U) ?_;refine zF VT ?_;refine zL Qq ?_;refine zV (QC (ps:=[(0,_),(1,_),(2,_),(3,_)]) [_,_,_,_] WL U U) ?_;refine zpb [(0,_),(1,_),(2,_),(3,_),(4,_),(5,_),(6,_)] [zot ⟨x.role,0,63,6⟩,zot ⟨x.kind,1,9,4⟩,zot ⟨x.side,0,2,2⟩,zot ⟨x.dir,0,8,4⟩,zot ⟨x.level,0,3,2⟩,zot ⟨x.size,0,255,8⟩,zot ⟨x.wth,0,64,7⟩] zyQ (fun b_27=>?_);refine Ju (b:=b_27) (by repeat (first | exact Zf.here | apply Zf.there)) (fun I1 hI1 hb1=>?_);have hIc:=hIc.trans hI1;have hDg:Sl I1 4 zot (some ⟨b_27,0,none⟩) 7 7 (dgs x):=Sl.lit (dgs x) U zpt (show _=some (Obj.cells ((dgs x).flatMap zot).toArray 204 (0,0)) from hb1);refine qcV (vs:=[_]) U zuM (zAZ hDg kE (zFu x)) ?_;refine zM ?_;refine zE ?_;refine zE ?_;refine zA ?_;refine zA (zN (Ql (zR ?_)));refine zM ?_;refine zO (zN ?_);refine zI ?_ ?_<;>intro hc32
 ·have hp0:(VI 0 (dgs x)).isSome=false:=(by simpa using hc32);obtain ⟨k1,k2⟩:=zwT hp0;refine zR (zA ?_);refine zA (zN (Qr (Qc ?_)));exact Q9 U U U (fun w hw=>⟨by rw [k1,k2],(hw.mono hIc).drop⟩)
 have hp0:(VI 0 (dgs x)).isSome=true:=(by simpa using hc32);have k2:=zrs hp0;refine Qo (Qa (zR (zM ?_)));refine zA ?_;refine zA (zN (Qr ?_))
 first
 | exact Q9 U U U (fun w hw=>⟨by rw [k2];rfl,(hw.mono hIc).drop⟩)
theorem zqe:((List.range 9).all fun b=>decide (0<=IntKind.i64.wrap (1*2^(min ((b:Nat):Int).toNat IntKind.i64.bits))/\IntKind.i64.wrap (1*2^(min ((b:Nat):Int).toNat IntKind.i64.bits))<=256))=true:=kA
variable{b:Nat}
theorem zwn (h:b<=8):0<=IntKind.i64.wrap (1*2^(min ((b:Nat):Int).toNat IntKind.i64.bits))/\IntKind.i64.wrap (1*2^(min ((b:Nat):Int).toNat IntKind.i64.bits))<=256:=Oi (ji.1 zqe b (jm.2 kB))
theorem ztS (I:Qt)(r:Nat)(c:Int)(b:Nat)(hb:b<=8):ZQ Tryz.prog 82 [.int .i64 b,QZ r] I [(r,.cells #[.int .i64 c] 3 (0,0))] (fun v I' L'=>v= .int .i64 (JK c (IntKind.i64.wrap (1*2^(min (b:Int).toNat IntKind.i64.bits))-1))/\I'=I/\L'=[(r,.cells #[.int .i64 (c.fdiv (2^(min (b:Int).toNat IntKind.i64.bits)))] 3 (0,0))]):=by intro g H w hw;refine qe Tryz.func82 Tryz.ntmps82 hw ?_;have hmb:=zwn hb;refine zR (zA (zN (Ql ?_)));refine YE mixed kA ?_;refine zq (Qd U Qq (fun hg=>by exact QB.h0 U)) ?_;refine zq (Qj U) ?_;refine zq (zaA U U (fun hg=>kB)) ?_;refine zq (ZL U U U (fun _=>kB)) ?_;refine zq (Uu U U) ?_;refine zq (QU U) ?_;refine YC ?_;refine Qa (zR ?_);refine zL Qq ?_;refine zM ?_;refine zV (zi9 U U kB U) ?_;refine zS ZD ?_;refine zN (zR ?_);refine zM ?_;refine zA (zN (Qr ?_));exact QR U U (fun w hw=>⟨_,I,_,U,zGN _,hw,U,U,U⟩)
def lbN (b:Nat)(c:Int):Int:=JK c (IntKind.i64.wrap (1*2^(min (b:Int).toNat IntKind.i64.bits))-1)
def shN (b:Nat)(c:Int):Int:=c.fdiv (2^(min (b:Int).toNat IntKind.i64.bits))
def zlS (c:Int):Sg:=⟨0,shN 4 (shN 2 (shN 4 (shN 2 (shN 8 (shN 7 c))))),0,0,lbN 4 (shN 2 (shN 4 (shN 2 (shN 8 (shN 7 c))))),lbN 2 (shN 4 (shN 2 (shN 8 (shN 7 c)))),lbN 4 (shN 2 (shN 8 (shN 7 c))),lbN 2 (shN 8 (shN 7 c)),lbN 8 (shN 7 c),lbN 7 c,0,0,0,0⟩
def zpy:Sg:=⟨0,0,0,0,0,0,0,0,0,0,0,0,0,0⟩
def Kh (c:Int):Int:=Kg (zlS c)
def Xy (c:Int):Sg:=if Kh c≠0 then zpy else zlS c
theorem QY:AgT Tryz.prog 28 14:=.of kA
theorem zrL:Fun Tryz.prog 58:=.of Tryz.func58 kA kA
theorem zcJ:Fun Tryz.prog 82:=.of Tryz.func82 kA kA
theorem W9:PlT Tryz.prog 28 #[(0,1),(1,1),(2,1),(3,1),(4,1),(5,1),(6,1),(7,1),(8,1),(9,1),(10,2),(12,2)] (.agg #[(.int .i64 0),(.int .i64 0),(.int .i64 0),(.int .i64 0),(.int .i64 0),(.int .i64 0),(.int .i64 0),(.int .i64 0),(.int .i64 0),(.int .i64 0),(.int .i64 0),(.int .i64 0),(.int .i64 0),(.int .i64 0)]):=⟨.of kA,kA,fun w=>kA⟩
theorem Yk:SzT Tryz.prog 28 14:=.of kA
theorem UV:Yw Tryz.prog 28 (.agg #[(.int .i64 0),(.int .i64 0),(.int .i64 0),(.int .i64 0),(.int .i64 0),(.int .i64 0),(.int .i64 0),(.int .i64 0),(.int .i64 0),(.int .i64 0),(.int .i64 0),(.int .i64 0),(.int .i64 0),(.int .i64 0)]):=.of kA
theorem X8 (I:Qt)(r:Nat)(c:Int)(b:Nat)(hb:b<=8):ZQ Tryz.prog 82 [.int .i64 b,QZ r] I [(r,.cells #[.int .i64 c] 3 (0,0))] (fun v I' L'=>v= .int .i64 (lbN b c)/\I'=I/\L'=[(r,.cells #[.int .i64 (shN b c)] 3 (0,0))]):=ztS I r c b hb
set_option maxHeartbeats 1600000 in
theorem zok (I:Qt) (c:Int):Zt Tryz.prog 36 [.int .i64 c] I (.tuple #[Yp (Xy c),.int .i64 (Kh c)]):=by
 intro g H w hw;refine qe Tryz.func36 Tryz.ntmps36 hw ?_;have hIc:=zGN I;refine zR ?_;refine Qs UV U U (fun b_2=>?_);refine zA ?_;refine zN (zR ?_);refine zM ?_;refine Qs zsW U U (fun b_4=>?_);refine zS ZD ?_;refine zN (zR ?_);refine zV (QN (us:=[]) (vs:=[_]) U U) ?_;refine zA ?_;refine zN (zR ?_);refine zM ?_;refine Z1 (cap:=[QZ b_4]) (vs:=[_]) U U zcJ (by repeat (first | exact .cons .here .nil | exact QT | exact QO | apply Zi | apply Zd)) (X8 _ b_4 c 7 kE) U U ?_;rintro vv1 I1 L1 hI1 ⟨rfl,rfl,rfl⟩;have hIc:=hIc.trans hI1;refine zF VT ?_;refine zS ZD ?_;refine zN (zR ?_);refine zM ?_;refine Z1 (cap:=[QZ b_4]) (vs:=[_]) U U zcJ (by repeat (first | exact .cons .here .nil | exact QT | exact QO | apply Zi | apply Zd)) (X8 _ b_4 (shN 7 c) 8 kE) U U ?_;rintro vv2 I2 L2 hI2 ⟨rfl,rfl,rfl⟩;have hIc:=hIc.trans hI2;refine zF Yy ?_;refine zS ZD ?_;refine zN (zR ?_);refine zM ?_;refine Z1 (cap:=[QZ b_4]) (vs:=[_]) U U zcJ (by repeat (first | exact .cons .here .nil | exact QT | exact QO | apply Zi | apply Zd)) (X8 _ b_4 (shN 8 (shN 7 c)) 2 kE) U U ?_;rintro vv3 I3 L3 hI3 ⟨rfl,rfl,rfl⟩;have hIc:=hIc.trans hI3;refine zF Jk ?_;refine zS ZD ?_;refine zN (zR ?_);refine zM ?_;refine Z1 (cap:=[QZ b_4]) (vs:=[_]) U U zcJ (by repeat (first | exact .cons .here .nil | exact QT | exact QO | apply Zi | apply Zd)) (X8 _ b_4 (shN 2 (shN 8 (shN 7 c))) 4 kE) U U ?_;rintro vv4 I4 L4 hI4 ⟨rfl,rfl,rfl⟩;have hIc:=hIc.trans hI4;refine zF Yx ?_;refine zS ZD ?_;refine zN (zR ?_);refine zM ?_;refine Z1 (cap:=[QZ b_4]) (vs:=[_]) U U zcJ (by repeat (first | exact .cons .here .nil | exact QT | exact QO | apply Zi | apply Zd)) (X8 _ b_4 (shN 4 (shN 2 (shN 8 (shN 7 c)))) 2 kE) U U ?_;rintro vv5 I5 L5 hI5 ⟨rfl,rfl,rfl⟩;have hIc:=hIc.trans hI5;refine zF VE ?_;refine zS ZD ?_;refine zN (zR ?_);refine zM ?_;refine Z1 (cap:=[QZ b_4]) (vs:=[_]) U U zcJ (by repeat (first | exact .cons .here .nil | exact QT | exact QO | apply Zi | apply Zd)) (X8 _ b_4 (shN 2 (shN 4 (shN 2 (shN 8 (shN 7 c))))) 4 kE) U U ?_;rintro vv6 I6 L6 hI6 ⟨rfl,rfl,rfl⟩;have hIc:=hIc.trans hI6;refine zF Kw ?_;refine zS ZD ?_;refine zN (zR ?_);refine zL Qq ?_;refine zF Vq ?_;refine zS ZD ?_;refine zN (Ql (zR ?_));refine zV (Qk U QY (fun hg=>by exact Cells.g1) U) ?_;refine qcV (vs:=[_]) U zrL (zrW _ (zlS c)) ?_;refine zM ?_;refine zE ?_;refine zE ?_;refine zA ?_;refine zN (zR ?_);refine zM ?_;refine zC (zN ?_);refine zI ?_ ?_<;>intro hc34
 focus
  have he:Kh c≠0:=(by unfold Kh;simpa using hc34);have k1:Xy c=zpy:=jb he;have he9:Kh c=Kg (zlS c):=rfl;refine zR ?_;refine zV (QC (ps:=[]) [_,_,_,_,_,_,_,_,_,_,_,_,_,_] W9 U U) ?_;refine zM ?_;refine zh Yk ?_;refine zA (zN (Qr (Qc ?_)))
 rotate_left
 have he:Kh c=0:=(by unfold Kh;simpa using hc34);have k1:Xy c=zlS c:=ja kB;have he9:=he;refine Qo (Qa (zR ?_));refine zV (Qk U QY (fun hg=>by exact Cells.g1) U) ?_;refine zh Yk ?_;refine zA (zN (Qr ?_))
 all_goals
  exact Zl U U U QY kJ U (fun w hw=>⟨by rw [k1,he9];rfl,(hw.mono hIc).drop⟩)
def zin (x y:Int):Int:=if (x != y&&x != 8589934592&&y != 8589934592)=true then 3 else 0
theorem zhL (I:Qt)(x y:Int):Zt Tryz.prog 60 [.int .i64 x,.int .i64 y] I (.int .i64 (zin x y)):=by
 intro g H w hw;refine qe Tryz.func60 Tryz.ntmps60 hw ?_;refine zR (zA (zN (Ql (zR ?_))));refine zM ?_;refine zM ?_;refine zC ?_;refine zM ?_;refine QA 3 U U U ?_;refine zK (Qj U) ?_;refine zK (QI U U U) ?_;refine QE U U U U U ?_;refine zM ?_;refine QA 7 U U U ?_;refine zK (Qj U) ?_;refine zK (QI U U U) ?_;refine QE U U U U U ?_;refine zN ?_;refine zI ?_ ?_<;>intro hc15
 ·refine zR (zA (zN (Qr (Qc ?_))))
  first
  | exact zr U U (by unfold zin;rw [jb kI])
 refine Qo (Qa (zR (zA (zN (Qr ?_)))))
 first
 | exact zr U U (by unfold zin;rw [ja (by simp_all)])
structure Rd where
 lost:Bool
 sg:Sg
def Wq (r:Rd):List Value:=.bool r.lost::Zk r.sg
theorem ze7 (r:Rd):(Wq r).length=15:=rfl
def Vm (r:Rd):Int:=if r.lost=true then 8589934592 else KZ r.sg
theorem znC:AgT Tryz.prog 69 15:=.of kA
theorem JG:QP Tryz.prog 69 0 0:=.of kA
theorem Kl:QP Tryz.prog 69 1 1:=.of kA
theorem Xb:QP Tryz.prog 72 2 2:=.of kA
theorem zdw:ScT Tryz.prog 4:=.of kA
theorem zfX:ScT Tryz.prog 70:=.of kA
theorem zce:SlT Tryz.prog 70 69 15:=.of kA
theorem zlv:SzT Tryz.prog 69 15:=.of kA
theorem zuI:Yw Tryz.prog 69 (.agg #[(.bool false),(.int .i64 0),(.int .i64 0),(.int .i64 0),(.int .i64 0),(.int .i64 0),(.int .i64 0),(.int .i64 0),(.int .i64 0),(.int .i64 0),(.int .i64 0),(.int .i64 0),(.int .i64 0),(.int .i64 0),(.int .i64 0)]):=.of kA
variable{rs:List Rd}
theorem YS {n c:Nat}(hR:Sl I 15 Wq av n c rs)(hn:n<=100000)(no yr:Int):ZQ Tryz.prog 20 [.agg #[.int .i64 no,.int .i64 yr,.slice av n c]] I [] (zec 1 Q3 (rs.map Vm)):=by
 intro g H w hw;refine qe Tryz.func20 Tryz.ntmps20 hw ?_;have hIc:=zGN I;refine zR ?_;refine QG U U U (fun b_1=>?_);refine zA (zN (Ql (Ql ?_)));refine Jg (fun I1 hI1 hall=>?_);have hR:=hR.mono hI1;have hIc:=hIc.trans hI1;have hCw:QB I1 [] b_1 2 (.slice av n c):=.imm (hall _ _ kF) U;refine Qf ?_;refine zF Xb ?_;refine zV (Qd U zfX (fun hg=>by exact hCw.any)) ?_;refine zQ zce ?_;refine zM (zN (Qp ?_));refine zU [(7,_),(8,_)] (fun T L0 mz E I' loc'=>∃ (k:Nat) (v2:Value) (L:Go.Kn.Loc),mz=n-k/\E=(2,v2)::(9,.int .i64 k)::T/\I1=I'/\L=loc'/\k<=n/\OwnS 3 1 v2 k (((rs.take k).map Vm).flatMap Q3) L) ?_ (h:=⟨0,_,[],U,U,U,U,jf _,OwnS.nil⟩);rintro mz E I' loc' ⟨k,v2,L,rfl,rfl,rfl,rfl,hk,hO⟩;refine zR (zC (zN (Ql ?_)));refine zI ?_ ?_<;>intro hc10
 ·have hlt_k:k<n:=(by have h:=hc10;simp at h;omega);obtain ⟨r,hr⟩:=hR.at hlt_k;refine Qo (Qa (Ql (Qp (zR ?_))));refine zV (zX zce hR) ?_;refine zV (Qk U znC (fun hg=>by exact zGO hR hr) U) ?_;refine Qs zuI U U (fun b_4=>?_);refine zh zlv ?_;refine zN (zR ?_);refine zA (zN (Ql (zR ?_)));refine zF JG ?_;refine zV (Qd U zdw (fun hg=>by exact zGI U)) ?_;refine zO (zN ?_);refine zI ?_ ?_<;>intro hc15
  focus
   have hlo:Vm r=KZ r.sg:=(by unfold Vm;rw [ja (by simpa using hc15)]);refine Qf ?_;refine zF Kl ?_;refine zV (Qk U QY (fun hg=>by exact Cells.s0 (vs:=[_,_,_,_,_,_,_,_,_,_,_,_,_,_]) U) U) ?_;refine qcV (vs:=[_]) U zrL (zrW _ r.sg) ?_;refine zM ?_;refine zE ?_;refine zE ?_;refine zA (Qb ?_);rw [<-hlo];refine Qa (Qf (zM ?_))
  rotate_left
  have hlo:Vm r=8589934592:=(by unfold Vm;rw [jb (by simpa using hc15)]);rw [<-hlo];refine Qo (Qa (Qf (zM ?_)))
  all_goals
   refine zM ?_;refine zpb [(0,_)] [Q3 (Vm r)] Zw (fun b_24=>?_);refine zpa (_) ([Vm r].flatMap Q3) (L) U U Zw hO ⟨U,fun _=>U,by repeat (first | exact zGL | apply zGK | apply zGM)⟩ (JH [Vm r]) ?_;intro v9 L9 hO9 _;rw [<-jo] at hO9;refine zA (Qb (Qg (Qa (Qf ?_))));refine zB ?_;refine zM (Qb ?_);exact zm (h:=⟨n-(k+1),kB,k+1,_,_,U,U,U,U,kB,by rw [zbi hr];exact hO9⟩)
 have hge_k:n<=k:=(by have h:=hc10;simp at h;omega);rw [ZJ hR.len hge_k,show k=n by omega] at hO;refine QF (Qh (Qh (Qm (Qa (zR (zM ?_))))));refine zA (zN (Qr ?_));exact QR U U (fun w hw=>by obtain ⟨I9,h91,h92,h93⟩:=OwnS.res hO Zh kE hw;exact ⟨_,I9,[],U,hIc.trans h91,h92,h93⟩)
structure Wt where
 no:Int
 yr:Int
 a:Option Addr
 n:Nat
 c:Nat
def zo7 (w:Wt):List Value:=[.int .i64 w.no,.int .i64 w.yr,.slice w.a w.n w.c]
theorem zjp (w:Wt):(zo7 w).length=3:=rfl
def zDY (ws:List Wt):Bool:=decide (ws.length<=5)&&ws.all fun w=>decide (w.n<=8)
theorem VK:SlT Tryz.prog 22 72 3:=.of kA
variable{ws:List Wt}
theorem zAF {n c:Nat}(hW:Sl I 3 zo7 av n c ws)(hn:n<=9223372036854775807):Zt Tryz.prog 5 [.slice av n c] I (.bool (zDY ws)):=by
 intro g H w hw;refine qe Tryz.func5 Tryz.ntmps5 hw ?_;have hWl:=hW.len;refine zR (zA (zN (Ql (zR ?_))));refine zM ?_;refine zQ VK ?_;refine zC (zN ?_);refine zI ?_ ?_<;>intro hc6
 ·have h5:¬ws.length<=5:=(by have h:=hc6;simp at h;omega);refine zR (zA (zN (Qr (Qc ?_))))
  first
  | exact zr U U (by unfold zDY;rw [j1 h5];rfl)
 have h5:ws.length<=5:=(by have h:=hc6;simp at h;omega);refine Qo (Qa (Ql (zR (zA (zN (Qp ?_))))));refine zU [(0,_)] (fun T L0 mz E I' loc'=>∃ (k:Nat),mz=n-k/\E=(3,.int .i64 k)::T/\I=I'/\L0=loc'/\k<=n/\(ws.take k).all (fun w=>decide (w.n<=8))=true) ?_ (h:=⟨0,U,U,U,U,jf _,U⟩);rintro mz E I' loc' ⟨k,rfl,rfl,rfl,rfl,hk,hall⟩;refine Ql (zR (zM ?_));refine zM ?_;refine zQ VK ?_;refine zC (zN ?_);refine zI ?_ ?_<;>intro hc10
 ·have hlt_k:k<n:=(by have h:=hc10;simp at h;omega);obtain ⟨x,hx⟩:=hW.at hlt_k;refine Qo (Qa (Ql (Qp (zR (zM ?_)))));refine zM ?_;refine zV (zX VK hW) ?_;refine zF Xb ?_;refine zV (Qd U zfX (fun hg=>by exact zGP hW hx U)) ?_;refine zQ zce ?_;refine zC (zN ?_);refine zI ?_ ?_<;>intro hc19
  ·have h8:decide (x.n<=8)=false:=(by have h:=hc19;simp at h;simp;omega);refine zR (zA (zN (Qr (Qn (Qc (Qc (Qn ?_)))))));refine Qc ?_
   first
   | exact zr U U (by unfold zDY;rw [BU.2 ⟨x,jd hx,by rw [h8];decide⟩,Aa])
  have h8:decide (x.n<=8)=true:=(by have h:=hc19;simp at h;simp;omega);refine Qo (Qg (Qa (Qf (zM ?_))));refine zB ?_;refine zA (Qb ?_);exact zm (h:=⟨n-(k+1),kB,k+1,U,U,U,U,kB,by rw [ZI hx,Au,hall];simpa using h8⟩)
 have hge_k:n<=k:=(by have h:=hc10;simp at h;omega);rw [jD kB] at hall;refine QF (Qh (Qh (Qm (Qa (zR (zA (zN ?_)))))));refine Qr ?_
 first
 | exact zr U U (by unfold zDY;rw [hall,jX h5];rfl)
def ZU:Sg:=zpy
def Zu (n lo hi:Int):Bool:=decide (n>=lo)&&decide (n<=hi)
def WB (n:Int):Int:=if n<0 then 0-n else n
def zDW (a b:Int):Int:=(Int.gcd a b:Int)
def Ux (n d:Int):Bool:= !(((((decide (d<1)||decide (d>1073741824))||decide (n< -1073741824))||decide (n>1073741824))||(zDW n d != 1)))
def zeA (fn fd tn td:Int):Bool:=(Ux fn fd&&Ux tn td)&&(decide (fn*td<tn*fd)&&(decide (fn>=0)&&decide (tn<=td)))
def zy6 (k:Sg):Bool:=Zu k.id 0 1048576&&Zu k.role 0 63&&Zu k.bar 0 4095&&Zu k.kind 1 9&&Zu k.mark 1 3&&Zu k.side 0 2&&Zu k.dir 0 8&&Zu k.level 0 3&&Zu k.size 0 255&&Zu k.wth 0 64
def frm (k:Sg):Bool:=zy6 k&&zeA k.fn k.fd k.tn k.td
def skP (xs:List Sg)(i:Nat):Bool:= !(!frm (xs.getD i ZU)||(decide ((i:Int)>0)&&decide ((xs.getD ((i:Int)-1).toNat ZU).id>=(xs.getD i ZU).id)))
def skB (xs:List Sg):Bool:=(List.range xs.length).all (skP xs)
def chkG (xs:List Sg):Int:=if xs.length>4096 then 2 else if skB xs then 0 else 360
def zEd (n d:Int):List Value:=[.int .i64 n,.int .i64 d]
def Uw (n d:Int):Value:=.agg (zEd n d).toArray
variable{n:Int}
theorem zju (h:0<=n/\n<=9223372036854775807):IntKind.u64.wrap n=n:=by unfold IntKind.wrap IntKind.signed IntKind.bits;simp;omega
theorem zv4 (hn: -1073741824<=n/\n<=1073741824)(h:¬n<0):IntKind.u64.wrap n=WB n:=by rw [zju kB];unfold WB;rw [ja h]
theorem zyn (hn: -1073741824<=n/\n<=1073741824)(h:n<0):IntKind.u64.wrap (0-IntKind.u64.wrap n)=WB n:=by unfold WB;rw [jb h];unfold IntKind.wrap IntKind.signed IntKind.bits;simp;omega
def zzH (t b1 b2:Nat)(a b:Int):Go.Kn.Loc:=[(b2,.cells #[.int .u64 b] t (0,0)),(b1,.cells #[.int .u64 a] t (0,0))]
def zeI (a b:Nat):List Nat:=if a=0 then [] else if b=0 then [a,0] else if a % b=0 then [a,b] else a::zeI b (a % b)
termination_by b
decreasing_by exact Be _ kB
theorem zfS (b:Nat):zeI 0 b=[]:=by rw [zeI];rfl
variable{a:Nat}
theorem zcZ (ha:a≠0)(hb:b≠0)(h:a % b=0):zeI a b=[a,b]:=by rw [zeI,ja ha,ja hb,jb h]
theorem zfV (ha:a≠0)(hb:b≠0)(h:a % b≠0):zeI a b=a::zeI b (a % b):=by rw [zeI,ja ha,ja hb,ja h]
theorem zp4:∀ (m:Nat) {a b d:Nat},b<=m->b≠0->(a=0->d=b)->(zeI a b).getLastD d=Nat.gcd a b:=by
 intro m
 induction m with
 | zero=>intro a b d h1 h2;omega
 | succ m ih=>
  intro a b d h1 h2 hd;by_cases ha:a=0
  ·subst ha;rw [zfS,Nat.gcd_zero_left,hd rfl];rfl
  ·by_cases h:a % b=0
   ·rw [zcZ ha h2 h];show b=_;rw [Nat.gcd_comm,Nat.gcd_rec,h,Nat.gcd_zero_left]
   ·rw [zfV ha h2 h,List.getLastD_cons,ih (by have:=Be a (show 0<b by omega);omega) h (fun e=>absurd e h2)];rw [Nat.gcd_comm b,<-Nat.gcd_rec,Nat.gcd_comm]
theorem zpU (a b:Nat):((a:Int)).tmod (b:Int)=((a % b:Nat):Int):=by rw [Int.tmod_eq_emod_of_nonneg kB];rfl
theorem zqT {a b:Int}(ha: -1073741824<=a/\a<=1073741824)(hb: -1073741824<=b/\b<=1073741824): -9223372036854775808<=a*b/\a*b<=9223372036854775807:=by
 have h1:(a*b).natAbs<=1073741824*1073741824:=by
  rw [Int.natAbs_mul];exact Nat.mul_le_mul kB kB
 omega
def zsh (n d:Int):Int:=if Ux n d then 0 else 120
variable{d:Int}
theorem JE (h:Ux n d=true):(1<=d/\d<=1073741824)/\ -1073741824<=n/\n<=1073741824:=by unfold Ux at h;simp at h;omega
theorem zyS (n d:Int):Nat.gcd (WB n).toNat d.toNat=Int.gcd n d.toNat:=by unfold Int.gcd WB;congr 1;split<;>omega
theorem Zg (h:0<b):zui (b:Int) 1=(b:Int):=by unfold zui;split<;>omega
variable{pre:List Nat}
theorem znQ {a0 b0:Nat}(h:zeI a0 b0=pre++zeI a b)(ha:a≠0):pre++[a]<+:zeI a0 b0:=by
 rw [h,zeI,ja ha];have key:∀ l:List Nat,pre++[a]<+:pre++a::l:=fun l=>⟨l,by simp⟩;split
 ·exact key _
 ·split<;>exact key _
variable{l:List Nat}
theorem zlJ {x d:Nat}:(l++[x]).getLastD d=x:=by simp [List.getLastD_eq_getLast?]
theorem zyT (h:((((decide (d<1)||decide (d>1073741824))||decide (n< -1073741824))||decide (n>1073741824))||(zDW n d != 1))=true):Ux n d=false:=by unfold Ux;rw [h];rfl
theorem zrC (h:((((decide (d<1)||decide (d>1073741824))||decide (n< -1073741824))||decide (n>1073741824))||(zDW n d != 1))=false):Ux n d=true:=by unfold Ux;rw [h];rfl
variable{fn fd tn td:Int}
theorem zeo :(zsh fn fd != 0||zsh tn td != 0)= !(Ux fn fd&&Ux tn td):=by unfold zsh;cases Ux fn fd<;>cases Ux tn td<;>rfl
def zoK (an ad bn bd:Int):Int:=if Ux an ad&&Ux bn bd then 0 else 120
def zkU (an ad bn bd:Int):Int:=if Ux an ad&&Ux bn bd then zbh (an*bd) (bn*ad) else 0
theorem zgE :(((zoK fn fd tn td==0)&&decide (zkU fn fd tn td<0))&&decide (fn>=0)&&decide (tn<=td))=zeA fn fd tn td:=by
 unfold zoK zkU zeA zbh
 cases h:(Ux fn fd&&Ux tn td) with
 | false=>rfl
 | true=>
  simp only [Oj,OM];by_cases h2:fn*td<tn*fd
  ·simp [h2]
  ·by_cases h3:fn*td>tn*fd<;>simp [h2,h3]
theorem zcy {xs:List Sg}(hx:xs[k]? =some x):skP xs k= !(!frm x||(decide ((k:Int)>0)&&decide ((xs.getD ((k:Int)-1).toNat ZU).id>=x.id))):=by unfold skP;rw [Q1 hx]
end
end Go.Proofs.YtmbjmjbjdgjonaaGreatDoor
namespace Go.Kn
section
open Go
structure Kp (p:Prop):Prop where
 out:p
theorem zGd {p q:Prop}(h1:Kp p->q)(h2:p):q:=h1 ⟨h2⟩
theorem Z9 {C:Cx}{Q:Exit->Act->World->Prop}{e:Exit}{E E':Env}{I:Qt}{loc:Loc}(h:Kp (At C Q e E' I loc))(hE:Sub E' E:=by repeat (first | exact Sub.nil | refine Sub.cons U ?_)):At C Q e E I loc:=
 fun a w ha hw=>h.out a w (ha.sub hE) hw
end
end Go.Kn
namespace Go.Proofs.YtmbjmjbjdgjonaaGreatDoor
section
open Go Go.Kn Go.Proofs
theorem Zs:AgT Tryz.prog 26 2:=.of kA
theorem Yt:QP Tryz.prog 26 0 0:=.of kA
theorem Vp:QP Tryz.prog 26 1 1:=.of kA
theorem Zb:QP Tryz.prog 28 0 0:=.of kA
theorem Ym:QP Tryz.prog 28 10 10:=.of kA
theorem Yl:QP Tryz.prog 28 11 12:=.of kA
theorem Yq:QP Tryz.prog 28 2 2:=.of kA
theorem VJ:QP Tryz.prog 28 3 3:=.of kA
theorem WH:Fun Tryz.prog 112:=.of Tryz.func112 kA kA
theorem zm8:Fun Tryz.prog 155:=.of Tryz.func155 kA kA
theorem zm1:Fun Tryz.prog 157:=.of Tryz.func157 kA kA
theorem zha:Fun Tryz.prog 158:=.of Tryz.func158 kA kA
theorem zxj:Fun Tryz.prog 206:=.of Tryz.func206 kA kA
theorem zuh:Fun Tryz.prog 234:=.of Tryz.func234 kA kA
theorem zlV:Fun Tryz.prog 37:=.of Tryz.func37 kA kA
theorem Yg:Fun Tryz.prog 38:=.of Tryz.func38 kA kA
theorem zsd:Fun Tryz.prog 83:=.of Tryz.func83 kA kA
theorem ZC:ScT Tryz.prog 178:=.of kA
theorem Q4:SlT Tryz.prog 44 28 14:=.of kA
theorem QM:SzT Tryz.prog 178 1:=.of kA
theorem zAj:Yw Tryz.prog 178 (.int .u64 0):=.of kA
theorem zE7 (I:Qt)(n:Int)(hn: -1073741824<=n/\n<=1073741824):Zt Tryz.prog 158 [.int .i64 n] I (.int .u64 (WB n)):=by
 intro g H w hw;refine qe Tryz.func158 Tryz.ntmps158 hw ?_;refine zR (zA (zN (Ql (zR ?_))));refine zM ?_;refine zC (zN ?_);refine zI ?_ ?_<;>intro hc4
 ·refine zR (zM ?_);refine zV (YK U Jp) ?_;refine zV (zgL U) ?_;refine zA (zN (Qr (Qc ?_)));exact zr U U (by rw [zyn hn (by simpa using hc4)])
 refine Qo (Qa (zR (zM ?_)));refine zV (YK U Jp) ?_;refine zA (zN (Qr ?_));exact zr U U (by rw [zv4 hn (by simpa using hc4)])
theorem zD9 (I:Qt)(a b:Int):ZQ Tryz.prog 206 [.int .u64 a,.int .u64 b] I [] (fun v I' L=>I'=I/\∃ b1 b2,v= .func (.func 234) #[] [QZ b1,QZ b2].toArray/\L=zzH 178 b1 b2 a b):=by intro g H w hw;refine qe Tryz.func206 Tryz.ntmps206 hw ?_;refine zR ?_;refine QG U U U (fun b_2=>?_);refine QG U U U (fun b_3=>?_);refine zA ?_;refine zN (zR ?_);refine zV (QN (us:=[]) (vs:=[_,_]) U U) ?_;refine zA (zN (Qr ?_));exact QR U U (fun w hw=>⟨_,I,_,U,zGN _,hw,U,_,_,U,U⟩)
theorem zq9 (I:Qt)(a0 b0:Nat)(b1 b2:Nat)(hb0:0<b0)(ha1:a0<=9223372036854775807)(hb1:b0<=9223372036854775807):zEc Tryz.prog 234 [QZ b1,QZ b2] I (zzH 178 b1 b2 (a0) (b0)) (fun n:Nat=>.int .u64 n) (zeI a0 b0):=by
 intro g l J Jx hY I0 H w h0 hJ hw;refine qe Tryz.func234 Tryz.ntmps234 hw ?_;refine Qp ?_;refine zdg (fun m E I' H' loc'=>∃ (a b:Nat) (pre:List Nat),m=b/\E=[(0,.func (.yield l) #[] #[]),(1,QZ b1),(2,QZ b2)]/\loc'=zzH 178 b1 b2 (a) (b)/\HLe I0 I'/\J pre I' H'/\zeI a0 b0=pre++zeI a b/\0<b/\a<=9223372036854775807/\b<=9223372036854775807) _ _ _ ⟨a0,b0,[],U,U,U,zGN _,hJ,U,hb0,ha1,hb1⟩ (.cons U (.cons U (.cons U .nil))) U ?_;rintro m E I' H' loc' ⟨a,b,pre,hmb,rfl,rfl,hI1,hJk,hrem,hbp,hal,hbl⟩;subst m;have hI0:=h0.trans hI1;refine Ql (zR ?_);refine zL ZC ?_;refine zC ?_;refine zM ?_;refine QA 2 U U U ?_;refine zK (Qj U) ?_;refine zK (Qd U ZC (fun hg=>by exact QB.h1 U)) ?_;refine ze0 (vs:=[_]) (Post:=fun t I2 H2=>if t then J (pre++[a]) I2 H2 else Jx (pre++[a]) I2 H2) U U (.some U U U U gbt) U U (fun hcj=>hY pre a _ _ (znQ hrem (by simpa [ZS] using hcj)) hI0 hJk) ?_;rintro t I2 H2 hI2 hyes hno;refine QE U U U U U ?_;refine zN ?_;refine zI ?_ ?_<;>intro hc10
 ·have ha0:a≠0:=(by simp at hc10;exact hc10.1);have ht:t=true:=(by simp at hc10;exact hc10.2);subst ht;have hJ1:J (pre++[a]) I2 H2:=hyes (by simp [ZS];exact ha0);refine Qo (Qa (Qp (Ql ?_)));apply zGd
  ·intro key;have hD:=zGN I2;refine YZ ?_;refine ZA I2 [] mixed ?_;refine Wn 0 1 2 U U U kA ?_ ?_ ?_
   ·refine zL ZC ?_;refine Qb ?_;refine zD hD ?_;refine Zo 1 2 U U kA ?_ ?_
    ·refine zL ZC ?_;refine Qb ?_;refine zD hD ?_;refine Zo 2 5 U U kA ?_ ?_
     focus
      refine zL ZC ?_;refine Qb ?_;refine zD hD ?_;refine Zo 3 5 U U kA ?_ ?_
      ·refine zV (Vl U U) ?_;refine Qb ?_;refine zD hD ?_;refine Zo 4 5 U U kA ?_ ?_
       focus
        refine zV (Z4 U U (fun hg=>by rw [Zg hbp];omega)) ?_;refine Qb ?_;refine zD hD ?_;refine qd 5 U ?_;refine zS QM ?_
       rotate_left
       refine zS QM ?_;refine Qb ?_;refine zD hD ?_;refine qd 4 U ?_;refine zV (Z4 U U (fun hg=>by rw [Zg hbp];omega)) ?_
       all_goals
        refine Qb ?_;refine zD hD ?_;refine qd 6 U ?_;refine zS QM ?_;refine Qb ?_;refine zD hD ?_;refine Qz kA ?_;refine QD ?_
        first | exact key.out | exact Z9 key
      refine zS QM ?_
     rotate_left
     refine zS QM ?_;refine Qb ?_;refine zD hD ?_;refine qd 2 U ?_;refine zL ZC ?_
     all_goals
      refine Qb ?_;refine zD hD ?_;refine qd 3 U ?_;refine zV (Vl U U) ?_;refine Qb ?_;refine zD hD ?_;refine qd 4 U ?_;refine zV (Z4 U U (fun hg=>by rw [Zg hbp];omega)) ?_;refine Qb ?_;refine zD hD ?_;refine qd 6 U ?_;refine zS QM ?_;refine Qb ?_;refine zD hD ?_;refine Qz kA ?_;refine QD ?_
      first | exact key.out | exact Z9 key
    refine zL ZC ?_;refine Qb ?_;refine zD hD ?_;refine Zo 1 3 U U kA ?_ ?_
    focus
     refine zL ZC ?_;refine Qb ?_;refine zD hD ?_;refine Zo 3 5 U U kA ?_ ?_
     ·refine zV (Vl U U) ?_;refine Qb ?_;refine zD hD ?_;refine Zo 4 5 U U kA ?_ ?_
      focus
       refine zV (Z4 U U (fun hg=>by rw [Zg hbp];omega)) ?_;refine Qb ?_;refine zD hD ?_;refine qd 5 U ?_;refine zS QM ?_
      rotate_left
      refine zS QM ?_;refine Qb ?_;refine zD hD ?_;refine qd 4 U ?_;refine zV (Z4 U U (fun hg=>by rw [Zg hbp];omega)) ?_
      all_goals
       refine Qb ?_;refine zD hD ?_;refine qd 6 U ?_;refine zS QM ?_;refine Qb ?_;refine zD hD ?_;refine Qz kA ?_;refine QD ?_
       first | exact key.out | exact Z9 key
     refine zS QM ?_;refine Qb ?_;refine zD hD ?_;refine qd 3 U ?_;refine zV (Vl U U) ?_;refine Qb ?_;refine zD hD ?_;refine qd 4 U ?_;refine zV (Z4 U U (fun hg=>by rw [Zg hbp];omega)) ?_
    rotate_left
    refine zV (Vl U U) ?_;refine Qb ?_;refine zD hD ?_;refine qd 1 U ?_;refine zL ZC ?_;refine Qb ?_;refine zD hD ?_;refine Zo 4 5 U U kA ?_ ?_
    focus
     refine zV (Z4 U U (fun hg=>by rw [Zg hbp];omega)) ?_;refine Qb ?_;refine zD hD ?_;refine qd 5 U ?_;refine zS QM ?_
    rotate_left
    refine zS QM ?_;refine Qb ?_;refine zD hD ?_;refine qd 4 U ?_;refine zV (Z4 U U (fun hg=>by rw [Zg hbp];omega)) ?_
    all_goals
     refine Qb ?_;refine zD hD ?_;refine qd 6 U ?_;refine zS QM ?_;refine Qb ?_;refine zD hD ?_;refine Qz kA ?_;refine QD ?_
     first | exact key.out | exact Z9 key
   ·refine zL ZC ?_;refine Qb ?_;refine zD hD ?_;refine Zo 0 2 U U kA ?_ ?_
    ·refine zL ZC ?_;refine Qb ?_;refine zD hD ?_;refine Zo 2 5 U U kA ?_ ?_
     focus
      refine zL ZC ?_;refine Qb ?_;refine zD hD ?_;refine Zo 3 5 U U kA ?_ ?_
      ·refine zV (Vl U U) ?_;refine Qb ?_;refine zD hD ?_;refine Zo 4 5 U U kA ?_ ?_
       focus
        refine zV (Z4 U U (fun hg=>by rw [Zg hbp];omega)) ?_;refine Qb ?_;refine zD hD ?_;refine qd 5 U ?_;refine zS QM ?_
       rotate_left
       refine zS QM ?_;refine Qb ?_;refine zD hD ?_;refine qd 4 U ?_;refine zV (Z4 U U (fun hg=>by rw [Zg hbp];omega)) ?_
       all_goals
        refine Qb ?_;refine zD hD ?_;refine qd 6 U ?_;refine zS QM ?_;refine Qb ?_;refine zD hD ?_;refine Qz kA ?_;refine QD ?_
        first | exact key.out | exact Z9 key
      refine zS QM ?_
     rotate_left
     refine zS QM ?_;refine Qb ?_;refine zD hD ?_;refine qd 2 U ?_;refine zL ZC ?_
     all_goals
      refine Qb ?_;refine zD hD ?_;refine qd 3 U ?_;refine zV (Vl U U) ?_;refine Qb ?_;refine zD hD ?_;refine qd 4 U ?_;refine zV (Z4 U U (fun hg=>by rw [Zg hbp];omega)) ?_;refine Qb ?_;refine zD hD ?_;refine qd 6 U ?_;refine zS QM ?_;refine Qb ?_;refine zD hD ?_;refine Qz kA ?_;refine QD ?_
      first | exact key.out | exact Z9 key
    refine zL ZC ?_;refine Qb ?_;refine zD hD ?_;refine Zo 0 3 U U kA ?_ ?_
    focus
     refine zL ZC ?_;refine Qb ?_;refine zD hD ?_;refine Zo 3 5 U U kA ?_ ?_
     ·refine zV (Vl U U) ?_;refine Qb ?_;refine zD hD ?_;refine Zo 4 5 U U kA ?_ ?_
      focus
       refine zV (Z4 U U (fun hg=>by rw [Zg hbp];omega)) ?_;refine Qb ?_;refine zD hD ?_;refine qd 5 U ?_;refine zS QM ?_
      rotate_left
      refine zS QM ?_;refine Qb ?_;refine zD hD ?_;refine qd 4 U ?_;refine zV (Z4 U U (fun hg=>by rw [Zg hbp];omega)) ?_
      all_goals
       refine Qb ?_;refine zD hD ?_;refine qd 6 U ?_;refine zS QM ?_;refine Qb ?_;refine zD hD ?_;refine Qz kA ?_;refine QD ?_
       first | exact key.out | exact Z9 key
     refine zS QM ?_;refine Qb ?_;refine zD hD ?_;refine qd 3 U ?_;refine zV (Vl U U) ?_;refine Qb ?_;refine zD hD ?_;refine qd 4 U ?_;refine zV (Z4 U U (fun hg=>by rw [Zg hbp];omega)) ?_
    rotate_left
    refine zV (Vl U U) ?_;refine Qb ?_;refine zD hD ?_;refine Zo 0 4 U U kA ?_ ?_
    ·refine zL ZC ?_;refine Qb ?_;refine zD hD ?_;refine Zo 4 5 U U kA ?_ ?_
     focus
      refine zV (Z4 U U (fun hg=>by rw [Zg hbp];omega)) ?_;refine Qb ?_;refine zD hD ?_;refine qd 5 U ?_;refine zS QM ?_
     rotate_left
     refine zS QM ?_;refine Qb ?_;refine zD hD ?_;refine qd 4 U ?_;refine zV (Z4 U U (fun hg=>by rw [Zg hbp];omega)) ?_
     all_goals
      refine Qb ?_;refine zD hD ?_;refine qd 6 U ?_;refine zS QM ?_;refine Qb ?_;refine zD hD ?_;refine Qz kA ?_;refine QD ?_
      first | exact key.out | exact Z9 key
    refine zV (Z4 U U (fun hg=>by rw [Zg hbp];omega)) ?_;refine Qb ?_;refine zD hD ?_;refine qd 0 U ?_;refine zL ZC ?_;refine Qb ?_;refine zD hD ?_;refine qd 5 U ?_;refine zS QM ?_
    all_goals
     refine Qb ?_;refine zD hD ?_;refine qd 6 U ?_;refine zS QM ?_;refine Qb ?_;refine zD hD ?_;refine Qz kA ?_;refine QD ?_
     first | exact key.out | exact Z9 key
   refine zL ZC ?_;refine Qb ?_;refine zD hD ?_;refine Wn 0 1 3 U U U kA ?_ ?_ ?_
   ·refine zL ZC ?_;refine Qb ?_;refine zD hD ?_;refine Zo 1 3 U U kA ?_ ?_
    focus
     refine zL ZC ?_;refine Qb ?_;refine zD hD ?_;refine Zo 3 5 U U kA ?_ ?_
     ·refine zV (Vl U U) ?_;refine Qb ?_;refine zD hD ?_;refine Zo 4 5 U U kA ?_ ?_
      focus
       refine zV (Z4 U U (fun hg=>by rw [Zg hbp];omega)) ?_;refine Qb ?_;refine zD hD ?_;refine qd 5 U ?_;refine zS QM ?_
      rotate_left
      refine zS QM ?_;refine Qb ?_;refine zD hD ?_;refine qd 4 U ?_;refine zV (Z4 U U (fun hg=>by rw [Zg hbp];omega)) ?_
      all_goals
       refine Qb ?_;refine zD hD ?_;refine qd 6 U ?_;refine zS QM ?_;refine Qb ?_;refine zD hD ?_;refine Qz kA ?_;refine QD ?_
       first | exact key.out | exact Z9 key
     refine zS QM ?_;refine Qb ?_;refine zD hD ?_;refine qd 3 U ?_;refine zV (Vl U U) ?_;refine Qb ?_;refine zD hD ?_;refine qd 4 U ?_;refine zV (Z4 U U (fun hg=>by rw [Zg hbp];omega)) ?_
    rotate_left
    refine zV (Vl U U) ?_;refine Qb ?_;refine zD hD ?_;refine qd 1 U ?_;refine zL ZC ?_;refine Qb ?_;refine zD hD ?_;refine Zo 4 5 U U kA ?_ ?_
    focus
     refine zV (Z4 U U (fun hg=>by rw [Zg hbp];omega)) ?_;refine Qb ?_;refine zD hD ?_;refine qd 5 U ?_;refine zS QM ?_
    rotate_left
    refine zS QM ?_;refine Qb ?_;refine zD hD ?_;refine qd 4 U ?_;refine zV (Z4 U U (fun hg=>by rw [Zg hbp];omega)) ?_
    all_goals
     refine Qb ?_;refine zD hD ?_;refine qd 6 U ?_;refine zS QM ?_;refine Qb ?_;refine zD hD ?_;refine Qz kA ?_;refine QD ?_
     first | exact key.out | exact Z9 key
   ·refine zL ZC ?_;refine Qb ?_;refine zD hD ?_;refine Zo 0 3 U U kA ?_ ?_
    focus
     refine zL ZC ?_;refine Qb ?_;refine zD hD ?_;refine Zo 3 5 U U kA ?_ ?_
     ·refine zV (Vl U U) ?_;refine Qb ?_;refine zD hD ?_;refine Zo 4 5 U U kA ?_ ?_
      focus
       refine zV (Z4 U U (fun hg=>by rw [Zg hbp];omega)) ?_;refine Qb ?_;refine zD hD ?_;refine qd 5 U ?_;refine zS QM ?_
      rotate_left
      refine zS QM ?_;refine Qb ?_;refine zD hD ?_;refine qd 4 U ?_;refine zV (Z4 U U (fun hg=>by rw [Zg hbp];omega)) ?_
      all_goals
       refine Qb ?_;refine zD hD ?_;refine qd 6 U ?_;refine zS QM ?_;refine Qb ?_;refine zD hD ?_;refine Qz kA ?_;refine QD ?_
       first | exact key.out | exact Z9 key
     refine zS QM ?_;refine Qb ?_;refine zD hD ?_;refine qd 3 U ?_;refine zV (Vl U U) ?_;refine Qb ?_;refine zD hD ?_;refine qd 4 U ?_;refine zV (Z4 U U (fun hg=>by rw [Zg hbp];omega)) ?_
    rotate_left
    refine zV (Vl U U) ?_;refine Qb ?_;refine zD hD ?_;refine Zo 0 4 U U kA ?_ ?_
    ·refine zL ZC ?_;refine Qb ?_;refine zD hD ?_;refine Zo 4 5 U U kA ?_ ?_
     focus
      refine zV (Z4 U U (fun hg=>by rw [Zg hbp];omega)) ?_;refine Qb ?_;refine zD hD ?_;refine qd 5 U ?_;refine zS QM ?_
     rotate_left
     refine zS QM ?_;refine Qb ?_;refine zD hD ?_;refine qd 4 U ?_;refine zV (Z4 U U (fun hg=>by rw [Zg hbp];omega)) ?_
     all_goals
      refine Qb ?_;refine zD hD ?_;refine qd 6 U ?_;refine zS QM ?_;refine Qb ?_;refine zD hD ?_;refine Qz kA ?_;refine QD ?_
      first | exact key.out | exact Z9 key
    refine zV (Z4 U U (fun hg=>by rw [Zg hbp];omega)) ?_;refine Qb ?_;refine zD hD ?_;refine qd 0 U ?_;refine zL ZC ?_;refine Qb ?_;refine zD hD ?_;refine qd 5 U ?_;refine zS QM ?_
    all_goals
     refine Qb ?_;refine zD hD ?_;refine qd 6 U ?_;refine zS QM ?_;refine Qb ?_;refine zD hD ?_;refine Qz kA ?_;refine QD ?_
     first | exact key.out | exact Z9 key
   refine zV (Vl U U) ?_;refine Qb ?_;refine zD hD ?_;refine Zo 0 1 U U kA ?_ ?_
   ·refine zL ZC ?_;refine Qb ?_;refine zD hD ?_;refine qd 1 U ?_;refine zL ZC ?_;refine Qb ?_;refine zD hD ?_;refine Zo 4 5 U U kA ?_ ?_
    focus
     refine zV (Z4 U U (fun hg=>by rw [Zg hbp];omega)) ?_;refine Qb ?_;refine zD hD ?_;refine qd 5 U ?_;refine zS QM ?_
    rotate_left
    refine zS QM ?_;refine Qb ?_;refine zD hD ?_;refine qd 4 U ?_;refine zV (Z4 U U (fun hg=>by rw [Zg hbp];omega)) ?_
    all_goals
     refine Qb ?_;refine zD hD ?_;refine qd 6 U ?_;refine zS QM ?_;refine Qb ?_;refine zD hD ?_;refine Qz kA ?_;refine QD ?_
     first | exact key.out | exact Z9 key
   refine zL ZC ?_;refine Qb ?_;refine zD hD ?_;refine Zo 0 4 U U kA ?_ ?_
   ·refine zL ZC ?_;refine Qb ?_;refine zD hD ?_;refine Zo 4 5 U U kA ?_ ?_
    focus
     refine zV (Z4 U U (fun hg=>by rw [Zg hbp];omega)) ?_;refine Qb ?_;refine zD hD ?_;refine qd 5 U ?_;refine zS QM ?_
    rotate_left
    refine zS QM ?_;refine Qb ?_;refine zD hD ?_;refine qd 4 U ?_;refine zV (Z4 U U (fun hg=>by rw [Zg hbp];omega)) ?_
    all_goals
     refine Qb ?_;refine zD hD ?_;refine qd 6 U ?_;refine zS QM ?_;refine Qb ?_;refine zD hD ?_;refine Qz kA ?_;refine QD ?_
     first | exact key.out | exact Z9 key
   refine zV (Z4 U U (fun hg=>by rw [Zg hbp];omega)) ?_;refine Qb ?_;refine zD hD ?_;refine qd 0 U ?_;refine zL ZC ?_;refine Qb ?_;refine zD hD ?_;refine qd 5 U ?_;refine zS QM ?_;refine Qb ?_;refine zD hD ?_;refine qd 6 U ?_;refine zS QM ?_;refine Qb ?_;refine zD hD ?_;refine Qz kA ?_;refine QD ?_
   first | exact key.out | exact Z9 key
  rw [show ((a:Int)).tmod (zui (b:Int) 1)=((a % b:Nat):Int) by rw [Zg hbp,zpU]];refine Qa (zR ?_);refine zL ZC ?_;refine zC (zN ?_);refine zI ?_ ?_<;>intro hc17
  ·have hab:a % b=0:=(by have h:=hc17;simp only [j0] at h;omega);have hpre2:(pre++[a])++[b]<+:zeI a0 b0:=(by rw [hrem,zcZ ha0 kB hab,jn];exact A4);refine zR (zM ?_);refine zL ZC ?_;refine JA (vs:=[_]) (Post:=fun t I3 H3=>if t then J ((pre++[a])++[b]) I3 H3 else Jx ((pre++[a])++[b]) I3 H3) U U U U (hY (pre++[a]) b _ _ hpre2 (hI0.trans hI2) hJ1) ?_;rintro t3 I3 H3 hI3 hP3;refine zN (Qr (Qn (Qc (Qn ?_))))
   first
   | (refine Ys rfl (fun w hw=>⟨_,I3,H3,U,hI1.trans (hI2.trans hI3),hw.drop,?_⟩);cases t3 with | true=>exact .inl (by rw [hrem,zcZ ha0 kB hab];simpa using hP3) | false=>exact .inr ⟨_,hpre2,hP3⟩)
  have hab:a % b≠0:=(by have h:=hc17;simp only [Am,Bn] at h;omega);refine Qo (Qg ?_);exact Wh U U U _ (zzH 178 b1 b2 (b) (((a % b:Nat):Int))) ⟨a % b,Be _ hbp,b,a % b,pre++[a],U,U,U,hI1.trans hI2,hJ1,by rw [hrem,zfV ha0 kB hab,jn];rfl,kB,kB,by have:=Be a hbp;omega⟩ (.cons U (.cons U (.cons U .nil))) .refl
 refine QF (Qh (Qh (Qm ?_)))
 first
 | (refine YV (Ys rfl (fun w hw=>⟨_,I2,H2,U,hI1.trans hI2,hw.drop,?_⟩));by_cases ha0:a=0;(obtain ⟨e1,e2⟩:=hno (by simp [ZS,ha0]);subst e1;subst e2;subst ha0;exact .inl (by rw [hrem,zfS,jz];exact hJk));(have ht:t=false:=(by simp [ha0] at hc10;exact hc10);subst ht;exact .inr ⟨_,znQ hrem ha0,hyes (by simp [ZS];exact ha0)⟩))
theorem zB2 (I:Qt)(a b:Nat)(hb:0<b)(ha:a<=9223372036854775807)(hb2:b<=9223372036854775807):Zt Tryz.prog 157 [.int .u64 a,.int .u64 b] I (.int .u64 (Nat.gcd a b:Nat)):=by
 intro g H w hw;refine zay Tryz.func157 U Tryz.ntmps157 U hw ?_;have hIc:=zGN I;refine zR ?_;refine Qs zAj U U (fun b_4=>?_);refine zN (Ql (zR (zM ?_)));refine zC (zN ?_);refine zI ?_ ?_<;>intro hc7
 ·simp at hc7;omega
 refine Qo (Qa (zR (zM ?_)));refine zS QM ?_;refine zN (Ql (zR (zM ?_)));refine zM ?_;refine zpc [_,_] U zxj .nil (zD9 I _ _) ?_;rintro vv1 I1 L1 hI1 ⟨rfl,b1,b2,rfl,rfl⟩;have hIc:=hIc.trans hI1;refine zN (Qp ?_);refine UA (ms:=[]) (K:=zzH 178 b1 b2 (a) (b)) (L:=[(b_4,.cells #[.int .u64 b] 178 (0,0))]) (enc:=fun n:Nat=>.int .u64 n) (xs:=zeI a b) (fun pre I' loc'=>loc'=[(b_4,.cells #[.int .u64 ((pre.getLastD b:Nat):Int)] 178 (0,0))]) (fun _ _ _ _=>False) (fun pre x E2 I2 loc2=>E2=[(4,QZ b_4),(5,.int .u64 x)]/\loc2=[(b_4,.cells #[.int .u64 ((pre.getLastD b:Nat):Int)] 178 (0,0))]) U zuh (zq9 _ a b b1 b2 hb ha hb2) U U ?_ ?_ ?_ ?_
 ·rintro l pre x I1 loc1 H1 hpre hI1 rfl;refine Qf (zA (Qb ?_));exact K9 _ ⟨zGN _,U,U⟩ (.cons U (.cons U .nil))
 ·rintro l pre x E2 I2 loc2 H2 hpre hI2 ⟨rfl,rfl⟩;refine Qp (Qf (zM ?_));refine zS QM ?_;refine Qb (Qg ?_);exact KH ⟨zGN _,by rw [zlJ];rfl⟩ .refl
 ·rintro bd I1 loc1 hI1 rfl;have hIc:=hIc.trans hI1;refine Qg (Qa (zR ?_));refine zL ZC ?_;refine zS QM ?_;refine zN (Qr ?_);exact Ye (L:=[(b_4,_)]) (fun a ha w hw=>zFg U U ZC (QB.h0 U) a ha w hw) (fun w hw=>⟨by rw [zp4 b (js _) kB (fun _=>U)],(hw.mono hIc).drop⟩)
 rintro c bd pre I1 loc1 hI1 hpre hF;exact hF.elim
theorem zzb (I:Qt)(n d:Int)(hn: -1073741824<=n/\n<=1073741824)(hd:1<=d/\d<=1073741824):Zt Tryz.prog 157 [.int .u64 (WB n),.int .u64 (IntKind.u64.wrap d)] I (.int .u64 (zDW n d)):=by have h0:0<=WB n/\WB n<=1073741824:=(by unfold WB;split<;>omega);have h:=zB2 I (WB n).toNat d.toNat kB kB kB;rw [zju kB];rw [AE h0.1,AE kB,zyS,AE kB] at h;exact h
theorem KW (I:Qt)(n d:Int):Zt Tryz.prog 112 [Uw (n) (d)] I (.int .i64 (zsh n d)):=by
 intro g H w hw;refine qe Tryz.func112 Tryz.ntmps112 hw ?_;refine zR ?_;refine QG U U U (fun b_1=>?_);refine zA (zN (Ql (Ql ?_)));refine YE mixed kA ?_;refine zq (Qe U Vp) ?_;refine zq (Qd U Qq (fun hg=>by exact QB.h0 U)) ?_;refine zq (QI U U U) ?_;refine zq (Qj U) ?_;refine JL 3 U U U ?_;refine zj (Qe U Vp) ?_;refine zj (Qd U Qq (fun hg=>by exact QB.h0 U)) ?_;refine zj (QI U U U) ?_;refine W5 U U U U U ?_;refine zq (Qj U) ?_;refine JL 8 U U U ?_;refine zj (Qe U Yt) ?_;refine zj (Qd U Qq (fun hg=>by exact QB.h0 U)) ?_;refine zj (QI U U U) ?_;refine W5 U U U U U ?_;refine zq (Qj U) ?_;refine JL 13 U U U ?_;refine zj (Qe U Yt) ?_;refine zj (Qd U Qq (fun hg=>by exact QB.h0 U)) ?_;refine zj (QI U U U) ?_;refine W5 U U U U U ?_;refine zq (Qj U) ?_;refine JL 18 U U U ?_;refine zj (Qe U Yt) ?_;refine zj (Qd U Qq (fun hg=>by exact QB.h0 U)) ?_;refine UT (cap:=[]) (vs:=[_]) U U zha (fun hg=>zE7 I n (by simp [ZS] at hg;omega)) (.some U U U U gbf) U U ?_;refine zj (Qe U Vp) ?_;refine zj (Qd U Qq (fun hg=>by exact QB.h0 U)) ?_;refine zj (YK U Jp) ?_;refine UT (cap:=[]) (vs:=[_,_]) U U zm1 (fun hg=>zzb I n d (by simp [ZS] at hg;omega) (by simp [ZS] at hg;omega)) (.some U U U U gbf) U U ?_;refine zj (QI U U U) ?_;refine W5 U U U U U ?_;refine YC ?_;refine Qa ?_;refine zI ?_ ?_<;>intro hc30
 ·refine zR (zA (zN (Qr (Qc ?_))))
  first
  | exact zr U U (by unfold zsh;rw [zyT hc30];rfl)
 refine Qo (Qa (zR (zA (zN (Qr ?_)))))
 first
 | exact zr U U (by unfold zsh;rw [zrC hc30];rfl)
theorem zk0 (I:Qt)(an ad bn bd:Int):Zt Tryz.prog 155 [Uw (an) (ad),Uw (bn) (bd)] I (.tuple #[.int .i64 (zkU an ad bn bd),.int .i64 (zoK an ad bn bd)]):=by
 intro g H w hw;refine qe Tryz.func155 Tryz.ntmps155 hw ?_;refine zR ?_;refine QG U U U (fun b_2=>?_);refine QG U U U (fun b_3=>?_);refine zA ?_;refine zA (zN (Ql (zR ?_)));refine zV (Qk U Zs (fun hg=>by exact Cells.g1) U) ?_;refine qcV (vs:=[_]) U WH (KW I _ _) ?_;refine zC ?_;refine zM ?_;refine Q8 3 U U U ?_;refine zJ (Qk U Zs (fun hg=>by exact Cells.g0) U) ?_;refine qf (vs:=[_]) U WH (fun hg=>KW I _ _) ?_;refine zJ (QI U U U) ?_;refine ZO U U U U U ?_;refine zN ?_;refine zI ?_ ?_<;>intro hc13
 focus
  have hb:(Ux an ad&&Ux bn bd)=false:=(by have h:=hc13;rw [zeo,jS] at h;exact h);refine zR (zA ?_);refine zA (zN (Qr (Qc ?_)))
 rotate_left
 have hb:(Ux an ad&&Ux bn bd)=true:=(by have h:=hc13;rw [zeo,Ox] at h;exact h);have ⟨ha1,ha2⟩:=JE (jj .. ▸ hb).1;have ⟨hb1,hb2⟩:=JE (jj .. ▸ hb).2;refine Qo (Qa (zR ?_));refine zF Yt ?_;refine zL Qq ?_;refine zF Vp ?_;refine zL Qq ?_;refine zV (ZL U U U (fun _=>by exact zqT kB kB)) ?_;refine zF Yt ?_;refine zL Qq ?_;refine zF Vp ?_;refine zL Qq ?_;refine zV (ZL U U U (fun _=>by exact zqT kB kB)) ?_;refine qcV (vs:=[_,_]) U zfe (zjC I _ _) ?_;refine zA ?_;refine zA (zN (Qr ?_))
 all_goals
  exact Q9 U U U (fun w hw=>⟨by unfold zkU zoK;rw [hb];rfl,hw.drop⟩)
theorem zk8 (I:Qt)(an ad bn bd:Int):Zt Tryz.prog 83 [Uw (an) (ad),Uw (bn) (bd)] I (.bool (zeA an ad bn bd)):=by intro g H w hw;refine qe Tryz.func83 Tryz.ntmps83 hw ?_;refine zR ?_;refine QG U U U (fun b_2=>?_);refine QG U U U (fun b_3=>?_);refine zA ?_;refine zN (zR ?_);refine zV (Qk U Zs (fun hg=>by exact Cells.g1) U) ?_;refine zV (Qk U Zs (fun hg=>by exact Cells.g0) U) ?_;refine qcV (vs:=[_,_]) U zm8 (zk0 I _ _ _ _) ?_;refine zM ?_;refine zE ?_;refine zE ?_;refine zA ?_;refine zA ?_;refine zN (zR ?_);refine zM ?_;refine zC ?_;refine zM ?_;refine QA 2 U U U ?_;refine zK (Qj U) ?_;refine zK (QI U U U) ?_;refine QE U U U U U ?_;refine zM ?_;refine QA 6 U U U ?_;refine zK (Qe U Yt) ?_;refine zK (Qd U Qq (fun hg=>by exact QB.h1 U)) ?_;refine zK (QI U U U) ?_;refine QE U U U U U ?_;refine zM ?_;refine QA 11 U U U ?_;refine zK (Qe U Yt) ?_;refine zK (Qd U Qq (fun hg=>by exact QB.h0 U)) ?_;refine zK (Qe U Vp) ?_;refine zK (Qd U Qq (fun hg=>by exact QB.h0 U)) ?_;refine zK (QI U U U) ?_;refine QE U U U U U ?_;refine zA (zN (Qr ?_));exact zr U U (by rw [<-zgE])
theorem Zq (I:Qt)(n lo hi:Int):Zt Tryz.prog 38 [.int .i64 n,.int .i64 lo,.int .i64 hi] I (.bool (Zu n lo hi)):=by intro g H w hw;refine qe Tryz.func38 Tryz.ntmps38 hw ?_;refine zR (zA ?_);refine zN (zR ?_);refine zM ?_;refine zM ?_;refine zC ?_;refine zM ?_;refine QA 3 U U U ?_;refine zK (Qj U) ?_;refine zK (Qj U) ?_;refine zK (QI U U U) ?_;refine QE U U U U U ?_;refine zA (zN (Qr ?_));exact zr U U kL
theorem zpl (I:Qt)(x:Sg):Zt Tryz.prog 37 [Yp x] I (.bool (frm x)):=by intro g H w hw;refine qe Tryz.func37 Tryz.ntmps37 hw ?_;refine zR ?_;refine QG U U U (fun b_1=>?_);refine zA ?_;refine zN (zR ?_);refine zF Zb ?_;refine zL Qq ?_;refine qcV (vs:=[_,_,_]) U Yg (Zq I _ _ _) ?_;refine zM ?_;refine QA 3 U U U ?_;refine zK (Qe U Vq) ?_;refine zK (Qd U Qq (fun hg=>by exact QB.h0 U)) ?_;refine qg (vs:=[_,_,_]) U Yg (fun hg=>Zq I _ _ _) ?_;refine QE U U U U U ?_;refine zM ?_;refine QA 8 U U U ?_;refine zK (Qe U Yq) ?_;refine zK (Qd U Qq (fun hg=>by exact QB.h0 U)) ?_;refine qg (vs:=[_,_,_]) U Yg (fun hg=>Zq I _ _ _) ?_;refine QE U U U U U ?_;refine zM ?_;refine QA 13 U U U ?_;refine zK (Qe U Kw) ?_;refine zK (Qd U Qq (fun hg=>by exact QB.h0 U)) ?_;refine qg (vs:=[_,_,_]) U Yg (fun hg=>Zq I _ _ _) ?_;refine QE U U U U U ?_;refine zM ?_;refine QA 18 U U U ?_;refine zK (Qe U VJ) ?_;refine zK (Qd U Qq (fun hg=>by exact QB.h0 U)) ?_;refine qg (vs:=[_,_,_]) U Yg (fun hg=>Zq I _ _ _) ?_;refine QE U U U U U ?_;refine zM ?_;refine QA 23 U U U ?_;refine zK (Qe U VE) ?_;refine zK (Qd U Qq (fun hg=>by exact QB.h0 U)) ?_;refine qg (vs:=[_,_,_]) U Yg (fun hg=>Zq I _ _ _) ?_;refine QE U U U U U ?_;refine zM ?_;refine QA 28 U U U ?_;refine zK (Qe U Yx) ?_;refine zK (Qd U Qq (fun hg=>by exact QB.h0 U)) ?_;refine qg (vs:=[_,_,_]) U Yg (fun hg=>Zq I _ _ _) ?_;refine QE U U U U U ?_;refine zM ?_;refine QA 33 U U U ?_;refine zK (Qe U Jk) ?_;refine zK (Qd U Qq (fun hg=>by exact QB.h0 U)) ?_;refine qg (vs:=[_,_,_]) U Yg (fun hg=>Zq I _ _ _) ?_;refine QE U U U U U ?_;refine zM ?_;refine QA 38 U U U ?_;refine zK (Qe U Yy) ?_;refine zK (Qd U Qq (fun hg=>by exact QB.h0 U)) ?_;refine qg (vs:=[_,_,_]) U Yg (fun hg=>Zq I _ _ _) ?_;refine QE U U U U U ?_;refine zM ?_;refine QA 43 U U U ?_;refine zK (Qe U VT) ?_;refine zK (Qd U Qq (fun hg=>by exact QB.h0 U)) ?_;refine qg (vs:=[_,_,_]) U Yg (fun hg=>Zq I _ _ _) ?_;refine QE U U U U U ?_;refine zM ?_;refine QA 48 U U U ?_;refine zK (Qe U Ym) ?_;refine zK (Qk U Zs (fun hg=>by exact Cells.s0 (vs:=[_,_]) U) U) ?_;refine zK (Qe U Yl) ?_;refine zK (Qk U Zs (fun hg=>by exact Cells.s0 (vs:=[_,_]) U) U) ?_;refine qg (vs:=[_,_]) U zsd (fun hg=>zk8 I _ _ _ _) ?_;refine QE U U U U U ?_;refine zA (zN (Qr ?_));exact zr U U kL
variable{I:Qt}{av:Option Addr}{n c:Nat}
theorem Xx {xs:List Sg}(hS:Sl I 14 Zk av n c xs)(hn:n<=100000):Zt Tryz.prog 10 [.slice av n c] I (.int .i64 (chkG xs)):=by
 intro g H w hw;refine qe Tryz.func10 Tryz.ntmps10 hw ?_;refine zR (zA (zN (Ql (zR ?_))));refine zM ?_;refine zQ Q4 ?_;refine zC (zN ?_);refine zI ?_ ?_<;>intro hc7
 ·have h6:xs.length>4096:=(by rw [hS.len];simp at hc7;omega);refine zR (zA (zN (Qr (Qc ?_))))
  first
  | exact zr U U (by unfold chkG;rw [jb h6])
 have h6:¬xs.length>4096:=(by rw [hS.len];simp at hc7;omega);refine Qo (Qa (Ql (zR (zM ?_))));refine zQ Q4 ?_;refine zM (zN (Qp ?_));refine zU [(0,_),(8,_),(9,_)] (fun T L0 mz E I' loc'=>∃ (k:Nat),mz=n-k/\E=(10,.int .i64 k)::T/\I=I'/\L0=loc'/\k<=n/\(List.range k).all (skP xs)=true) ?_ (h:=⟨0,U,U,U,U,jf _,U⟩);rintro mz E I' loc' ⟨k,rfl,rfl,rfl,rfl,hk,hall⟩;refine zR (zC (zN (Ql ?_)));refine zI ?_ ?_<;>intro hc11
 ·have hlt_k:k<n:=(by have h:=hc11;simp at h;omega);obtain ⟨x,hx⟩:=hS.at hlt_k;refine Qo (Qa (Ql (Qp (zR (zM ?_)))));refine zV (Qy U U Q4 kI (fun hg=>kB)) ?_;refine zV (Qk U QY (fun hg=>by exact zGO hS hx) U) ?_;refine Qs UV U U (fun b_4=>?_);refine zA ?_;refine zh Yk ?_;refine zN (Ql ?_);refine YE mixed kA ?_;refine zq (Qk U QY (fun hg=>by exact Cells.g0) U) ?_;refine Jq (cap:=[]) (vs:=[_]) U U zlV (zpl I _) U U ?_;refine zq (Vv U) ?_;refine zq (Qj U) ?_;refine JL 3 U U U ?_;refine zj (Qj U) ?_;refine zj (QI U U U) ?_;refine zj (Qj U) ?_;refine za9 6 U U U ?_;refine zk (Qj U) ?_;refine zk (Qj U) ?_;refine zk (ZL U U U (fun hg=>kB)) ?_;refine zk (Qy U U Q4 kI (fun hg=>by (simp [ZS] at hg;omega))) ?_;refine zk (Qe U Zb) ?_;refine zk (Qd U Qq (fun hg=>by exact zGG (k:=((k:Int)-1).toNat) hS (Zc (d:=ZU) hS.len (by simp [ZS] at hg;omega)) U)) ?_;refine zk (Qe U Zb) ?_;refine zk (Qd U Qq (fun hg=>by exact QB.h0 U)) ?_;refine zk (QI U U U) ?_;refine zgy U U U (.some U U U U gbf) U U ?_;refine W5 U U U U U ?_;refine YC ?_;refine Qa ?_;refine zI ?_ ?_<;>intro hc32
  ·refine zR (zA (zN (Qr (Qn (Qc (Qc (Qn ?_)))))));refine Qc ?_
   first
   | exact zr U U (by unfold chkG skB;rw [ja h6,JW (k:=k) (by rw [hS.len];exact hlt_k) (by rw [zcy hx,hc32];rfl)];rfl)
  refine Qo (Qg (Qa (Qf (zB ?_))));refine zM (Qb ?_);exact zm (h:=⟨n-(k+1),kB,k+1,U,U,U,U,kB,V7 hall (by rw [zcy hx,hc32];rfl)⟩)
 have hge_k:n<=k:=(by have h:=hc11;simp at h;omega);refine QF (Qh (Qh (Qm (Qa (zR (zA (zN ?_)))))));refine Qr ?_
 first
 | exact zr U U (by unfold chkG skB;rw [ja h6,hS.len,show n=k by omega,hall];rfl)
structure Wr where
 no:Int
 yr:Int
 rs:List Rd
def zs7 (I:Qt)(av:Option Addr)(n c:Nat)(ws:List Wt)(xs:List Wr):Prop:=Sl I 3 zo7 av n c ws/\ws.length=xs.length/\∀ (k:Nat) (w:Wt) (x:Wr),ws[k]? =some w->xs[k]? =some x->w.no=x.no/\w.yr=x.yr/\Sl I 15 Wq w.a w.n w.c x.rs
def SlW (I:Qt)(av:Option Addr)(n c:Nat)(xs:List Wr):Prop:=∃ ws:List Wt,zs7 I av n c ws xs
variable{I':Qt}{ws:List Wt}{xs:List Wr}
theorem zs7.mono (h:zs7 I av n c ws xs)(hI:HLe I I'):zs7 I' av n c ws xs:=
 ⟨h.1.mono hI,h.2.1,fun k w x h1 h2=>⟨(h.2.2 k w x h1 h2).1,(h.2.2 k w x h1 h2).2.1,(h.2.2 k w x h1 h2).2.2.mono hI⟩⟩
theorem SlW.mono (h:SlW I av n c xs)(hI:HLe I I'):SlW I' av n c xs:=by obtain ⟨ws,h⟩:=h;exact ⟨ws,h.mono hI⟩
theorem zs7.len (h:zs7 I av n c ws xs):xs.length=n:=by rw [<-h.2.1];exact h.1.len
variable{k:Nat}
theorem zs7.at (h:zs7 I av n c ws xs)(hk:k<n):∃ w x,ws[k]? =some w/\xs[k]? =some x/\w.no=x.no/\w.yr=x.yr/\Sl I 15 Wq w.a w.n w.c x.rs:=by obtain ⟨w,hw⟩:=h.1.at hk;have hl:=h.len;obtain ⟨x,hx⟩:∃ x,xs[k]? =some x:=⟨_,je kB⟩;exact ⟨w,x,hw,hx,h.2.2 k w x hw hx⟩
def WW (x y:Sg):Bool:=x.id==y.id&&(x.role==y.role&&(x.bar==y.bar&&(x.mark==y.mark&&(x.kind==y.kind&&(x.side==y.side&&(x.dir==y.dir&&(x.level==y.level&&(x.size==y.size&&(x.wth==y.wth&&(x.fn==y.fn&&(x.fd==y.fd&&(x.tn==y.tn&&(x.td==y.td&&true)))))))))))))
theorem VF {x y:Sg}:WW x y=true↔x=y:=by obtain ⟨a1,a2,a3,a4,a5,a6,a7,a8,a9,a10,a11,a12,a13,a14⟩:=x;obtain ⟨b1,b2,b3,b4,b5,b6,b7,b8,b9,b10,b11,b12,b13,b14⟩:=y;simp [WW]
instance : DecidableEq Sg := fun a b => decidable_of_iff (WW a b = true) VF
def zfH (r:Rd):Bool:=(r.lost&& !WW r.sg ZU)||(!r.lost&&((r.sg.id != 0)||(chkG [r.sg] != 0)))
variable{r:Rd}
theorem zrU (h:r.lost=true)(b:Bool)(h2:(!WW r.sg ZU)=b):zfH r=b:=by unfold zfH;rw [h,h2];cases b<;>rfl
theorem zBW (h:r.lost=false)(h2:(r.sg.id != 0)=true):zfH r=true:=by unfold zfH;rw [h,h2];rfl
theorem zAE (h:r.lost=false)(h2:(r.sg.id != 0)=false):zfH r=(chkG [r.sg] != 0):=by unfold zfH;rw [h,h2];simp
theorem zpn (r:Rd):(r.lost=true/\(!WW r.sg ZU)=true)\/(r.lost=true/\(!WW r.sg ZU)=false)\/(r.lost=false/\(r.sg.id != 0)=true)\/(r.lost=false/\(r.sg.id != 0)=false):=by cases r.lost<;>cases (!WW r.sg ZU)<;>cases (r.sg.id != 0)<;>simp
def zpX (l:Int)(x:Wr):Bool:=((decide (x.no<=l)||decide (x.no>1048576))||decide (x.yr<0))||decide (x.yr>3000)
def U1:Int->List Wr->Bool
 | _,[]=>true
 | l,x::xs=> !zpX l x&&(!x.rs.any zfH&&U1 x.no xs)
def Ws (xs:List Wr):Int:=if xs.length>24 then 2 else if xs.any (fun x=>decide (x.rs.length>64))=true then 2 else if U1 0 xs=true then 0 else 410
theorem zza (h:xs.length>24):Ws xs=2:=by unfold Ws;rw [jb h]
theorem zzt (h:¬xs.length>24)(h2:xs.any (fun x=>decide (x.rs.length>64))=true):Ws xs=2:=by unfold Ws;rw [ja h,jb h2]
theorem zi4 (h:¬xs.length>24)(h2:xs.any (fun x=>decide (x.rs.length>64))=false)(h3:U1 0 xs=false):Ws xs=410:=by unfold Ws;rw [ja h,h2,h3];rfl
theorem zCw (h:¬xs.length>24)(h2:xs.any (fun x=>decide (x.rs.length>64))=false)(h3:U1 0 xs=true):Ws xs=0:=by unfold Ws;rw [ja h,h2,h3];rfl
variable{l:Int}{x:Wr}
theorem zoq (hx:xs[k]? =some x)(hb:zpX l x=true):U1 l (xs.drop k)=false:=by rw [Zz hx];unfold U1;rw [hb];rfl
variable{j:Nat}
theorem zdH (hx:xs[k]? =some x)(hr:x.rs[j]? =some r)(hb:zfH r=true):U1 l (xs.drop k)=false:=by rw [Zz hx];unfold U1;rw [show x.rs.any zfH=true from ju.2 ⟨r,jd hr,hb⟩];simp
theorem zjV (hx:xs[k]? =some x)(hb:zpX l x=false)(hr:x.rs.any zfH=false):U1 l (xs.drop k)=U1 x.no (xs.drop (k+1)):=by rw [Zz hx];show (!zpX l x&&(!x.rs.any zfH&&U1 x.no (xs.drop (k+1))))=_;rw [hb,hr];rfl
theorem zne (h:xs.length<=k):U1 l (xs.drop k)=true:=by rw [Oa h];rfl
end
end Go.Proofs.YtmbjmjbjdgjonaaGreatDoor
namespace Go.Kn
section
open Go
section
variable {C:Cx} {Q:Exit->Act->World->Prop} {E G:Env} {I I' I0:Qt} {loc loc' loc0 L R:Loc} {ops:Array Oper} {rest:List Oper} {S:GS}
variable {dst:Option Nat} {d:Nat} {ty:TypeId} {pos:String} {af:Array Edge} {gd:Option (Nat×Bool)} {x y z:Operand} {a b c:Int}
theorem ztT {k:IntKind}{ats:Array TypeId}(hx:Qv S E x=some (.int k a))(hy:Qv S E y=some (.int k b))(hz:Qv S E z=some (.int k c)):QV C S E I loc ⟨dst,.call ⟨.builtin .min, #[x,y,z],ats⟩,ty,pos,af,gd⟩ (.int k (K2 (K2 a b) c)):=
 .of kC fun ac w ha hg hc hw=>by
  simp only [execOp,resolve,j6,jx,Oo,Qi ha hg hc hx,Qi ha hg hc hy,Qi ha hg hc hz,jg,jl,Result.andThen,invoke,builtin];rfl
def zqp (u:Value)(want:Bool):Bool:=match u with | .bool b=>b != want | _=>true
theorem zfo {j dj:Nat}{want:Bool}{oj o:Oper}{u:Value}{N:Nat}{D:List Deferred}{a:Act}(hg:o.guard=some (j,want))(hj:ops[j]? =some oj)(hd:oj.dst=some dj)(ha:Kf N D E a)(hl:Jl E dj=some u)(hu:zqp u want=true):Region.wanted o (yielded ops a.tmps)=false:=by
 have h:=ha.env _ _ hl;simp only [Region.wanted,hg]
 cases u with
 | bool b0=>
  rw [UG hj hd h];cases b0<;>cases want<;>first | rfl | cases hu
 | _=>
  have hy:yielded ops a.tmps j=none:=by
   unfold yielded;simp only [hj,Option.bind_some,hd]
   cases e:a.tmps[dj]? with
   | none=>rfl
   | some v=>
    simp [e] at h;rw [h]
  rw [hy];rfl
theorem Q0 {op:Op}{j dj:Nat}{want:Bool}{oj:Oper}{u:Value}(hj:ops[j]? =some oj)(hd:oj.dst=some dj)(hl:Jl E dj=some u)(hu:zqp u want=true)(hN:Nat.blt d C.N=true)
  (h:XO C Q ops rest [] ((d,undef)::E) I loc):XO C Q ops (⟨some d,op,ty,pos,af,some (j,want)⟩::rest) [] E I loc:=by
 intro a w ha hg hw;simp only [wpListIn];rw [zfo (o:=⟨some d,op,ty,pos,af,some (j,want)⟩) rfl hj hd ha hl hu];simp only [jB,j2];exact ⟨fun _ _=>trivial,h _ _ (ha.put hN undef) trivial hw⟩
theorem zql (i:Nat){j dj fuel:Nat}{want:Bool}{oj:Oper}{listed:Array Bool}{op:Op}{u:Value}(hi:ops[i]? =some ⟨some d,op,ty,pos,af,some (j,want)⟩)(hj:ops[j]? =some oj)(hd:oj.dst=some dj)(hlk:Jl E dj=some u)(hu:zqp u want=true)
  (hdf:∀ c,op≠ .defer c)(hN:Nat.blt d C.N=true)
  (hs:Region.noSelect ops=true)(hfr:Region.free .any ops listed i=true)(hr:(Region.ready .any ops listed).contains i=true)(hQ:WS Q)(hI:HLe I0 I)(hl:KE loc0 loc)
  (h:XD C Q ops I0 loc0 fuel (listed.setIfInBounds i true) [] ((d,undef)::E) I loc):XD C Q ops I0 loc0 (fuel+1) listed [] E I loc:=by
 intro a w ha hg hw;have hp:=ha.put hN undef;refine UZ (v:=undef) hi hdf (BG hs) (fun c a w=>hQ c a d _ w) fuel listed a w (B4 hi hfr) (by simpa using hr) ?_ ((hw.mono hI).subL hl) (h _ _ hp trivial hw);exact .inr ⟨by rw [zfo (o:=⟨some d,op,ty,pos,af,some (j,want)⟩) rfl hj hd ha hlk hu],U⟩
theorem zW (i dj:Nat){j fuel:Nat}{want:Bool}{oj:Oper}{listed:Array Bool}{op:Op}{u:Value}(hI:HLe I0 I)(h:XD C Q ops I0 loc0 fuel (listed.setIfInBounds i true) [] ((d,undef)::E) I loc)(hi:ops[i]? =some ⟨some d,op,ty,pos,af,some (j,want)⟩:=by exact U)(hj:ops[j]? =some oj:=by exact U)(hd:oj.dst=some dj:=by exact U)(hlk:Jl E dj=some u:=by exact U)(hu:zqp u want=true:=by exact U)
  (hdf:∀ c,op≠ .defer c:=by (intro c e;cases e))(hN:Nat.blt d C.N=true:=by exact U)(hs:Region.noSelect ops=true:=by kernel_rfl)(hfr:Region.free .any ops listed i=true:=by kernel_rfl)(hr:(Region.ready .any ops listed).contains i=true:=by kernel_rfl)(hQ:WS Q:=by first | exact zmh | (repeat (first | exact np_body | with_reducible refine np_then ?_ | with_reducible refine np_block ?_)))(hl:KE loc0 loc:=by repeat (first | exact .refl | exact Yb | refine .keep ?_ | refine .drop ?_ | refine Zp ?_)):XD C Q ops I0 loc0 (fuel+1) listed [] E I loc:=zql i hi hj hd hlk hu hdf hN hs hfr hr hQ hI hl h
end
end
end Go.Kn
namespace Go.Proofs.YtmbjmjbjdgjonaaGreatDoor
section
open Go Go.Kn Go.Proofs
theorem zcA:AgT Tryz.prog 72 3:=.of kA
theorem VG:ElT Tryz.prog 44 28 14 112:=.of kA
theorem U2:zDV Tryz.prog 28 [.int,.int,.int,.int,.int,.int,.int,.int,.int,.int,.int,.int,.int,.int]:=⟨kA,kA,kA,kA⟩
theorem zef:QP Tryz.prog 72 0 0:=.of kA
theorem ziK:QP Tryz.prog 72 1 1:=.of kA
theorem zaQ:Fun Tryz.prog 10:=.of Tryz.func10 kA kA
theorem zlC:SzT Tryz.prog 72 3:=.of kA
theorem zyw:Yw Tryz.prog 72 (.agg #[(.int .i64 0),(.int .i64 0),(.slice none 0 0)]):=.of kA
variable{I:Qt}{av:Option Addr}{n c:Nat}
theorem zBI {xs:List Wr}(hW:SlW I av n c xs)(hn:n<=100000):Zt Tryz.prog 19 [.slice av n c] I (.int .i64 (Ws xs)):=by
 intro g H w hw;refine qe Tryz.func19 Tryz.ntmps19 hw ?_;have hIc:=zGN I;obtain ⟨ws,hW⟩:=hW;have hH:=hW.1;have hlW:=hW.len;refine zR (zA (zN (Ql (zR ?_))));refine zM ?_;refine zQ VK ?_;refine zC (zN ?_);refine zI ?_ ?_<;>intro hc12
 ·have h1:xs.length>24:=(by rw [hlW];simp at hc12;omega);refine zR (zA (zN (Qr (Qc ?_))));exact zp hIc U U (by rw [zza h1])
 have h1:¬xs.length>24:=(by rw [hlW];simp at hc12;omega);refine Qo (Qa (Ql (zR (zM ?_))));refine zQ VK ?_;refine zM (zN (Qp ?_));refine zU [(0,_),(13,_),(14,_)] (fun T L0 mz E I' loc'=>∃ (k:Nat),mz=n-k/\E=(15,.int .i64 k)::T/\I=I'/\L0=loc'/\k<=n/\(xs.take k).any (fun x=>decide (x.rs.length>64))=false) ?_ (h:=⟨0,U,U,U,U,jf _,U⟩);rintro mz E I' loc' ⟨k,rfl,rfl,rfl,rfl,hk,hno⟩;refine zR (zC (zN (Ql ?_)));refine zI ?_ ?_<;>intro hc16
 ·have hlt_k:k<n:=(by have h:=hc16;simp at h;omega);obtain ⟨w,x,hx,hv,e1,e2,hR⟩:=hW.at hlt_k;refine Qo (Qa (Ql (Qp (zR ?_))));refine zV (zX VK hH) ?_;refine zV (Qk U zcA (fun hg=>by exact zGO hH hx) U) ?_;refine Qs zyw U U (fun b_4=>?_);refine zh zlC ?_;refine zN (zR ?_);refine zF Xb ?_;refine zL zfX ?_;refine zQ zce ?_;refine zC (zN ?_);refine zI ?_ ?_<;>intro hc22
  ·have h2:xs.any (fun x=>decide (x.rs.length>64))=true:=UO hv (by rw [hR.len];have h:=hc22;simp at h ⊢;omega);refine zR (zA (zN (Qr (Qn (Qc (Qc (Qn ?_)))))));refine Qc ?_;exact zp hIc U U (by rw [zzt h1 h2])
  refine Qo (Qg (Qa (Qf (zB ?_))));refine zM (Qb ?_);exact zm (h:=⟨n-(k+1),kB,k+1,U,U,U,U,kB,VP hv hno (by rw [hR.len];have h:=hc22;simp at h ⊢;omega)⟩)
 have hge_k:n<=k:=(by have h:=hc16;simp at h;omega);rw [ZJ hlW hge_k] at hno;refine QF (Qh (Qh (Qm (Qa (zR (zA (zN ?_)))))));refine Ql (zR (zM ?_));refine zQ VK ?_;refine zM (zN (Qp ?_));refine zU [(24,_),(25,_)] (fun T L0 mz E I' loc'=>∃ (k:Nat) (l:Int),mz=n-k/\E=(5,.int .i64 l)::(26,.int .i64 k)::T/\HLe I I'/\L0=loc'/\k<=n/\U1 0 xs=U1 l (xs.drop k)) ?_ (h:=⟨0,0,U,U,zGN _,U,jf _,U⟩);rintro mz E J2 loc' ⟨k,l,rfl,rfl,hJ,rfl,hk,hgo⟩;have hW:=hW.mono hJ;have hH:=hH.mono hJ;have hIc:=hIc.trans hJ;have hB2:=hJ;refine zR (zC (zN (Ql ?_)));refine zI ?_ ?_<;>intro hc27
 ·have hlt_k:k<n:=(by have h:=hc27;simp at h;omega);obtain ⟨w,x,hx,hv,e1,e2,hR⟩:=hW.at hlt_k;have hrn:=hR.len;have hR64:w.n<=64:=(by have:=jJ.1 hno x (jd hv);simp at this;omega);refine Qo (Qa (Ql (Qp (zR ?_))));refine zV (zX VK hH) ?_;refine zV (Qk U zcA (fun hg=>by exact zGO hH hx) U) ?_;refine Qs zyw U U (fun b_7=>?_);refine zh zlC ?_;refine zN (Ql (zR ?_));refine zF zef ?_;refine zL Qq ?_;refine zM ?_;refine zC ?_;refine zM ?_;refine Q8 4 U U U ?_;refine zJ (Qe U zef) ?_;refine zJ (Qd U Qq (fun hg=>by exact QB.h0 U)) ?_;refine zJ (QI U U U) ?_;refine ZO U U U U U ?_;refine zM ?_;refine Q8 9 U U U ?_;refine zJ (Qe U ziK) ?_;refine zJ (Qd U Qq (fun hg=>by exact QB.h0 U)) ?_;refine zJ (QI U U U) ?_;refine ZO U U U U U ?_;refine zM ?_;refine Q8 14 U U U ?_;refine zJ (Qe U ziK) ?_;refine zJ (Qd U Qq (fun hg=>by exact QB.h0 U)) ?_;refine zJ (QI U U U) ?_;refine ZO U U U U U ?_;refine zN ?_;refine zI ?_ ?_<;>intro hc48
  ·have hbw:zpX l x=true:=(by unfold zpX;rw [<-e1,<-e2];exact hc48);refine zR (zA (zN (Qr (Qc (Qn (Qc (Qc ?_)))))));refine Qn (Qc ?_);exact zp hIc U U (by rw [zi4 h1 hno (hgo.trans (zoq hv hbw))])
  have hbw:zpX l x=false:=(by unfold zpX;rw [<-e1,<-e2];exact hc48);refine Qo (Qa (zR ?_));refine zF zef ?_;refine zL Qq ?_;refine zA ?_;refine zN (zR ?_);refine zF Xb ?_;refine zL zfX ?_;refine zQ zce ?_;refine zM (zN (Qp ?_));refine zU [(5,_),(24,_),(25,_),(26,_),(52,_),(53,_)] (fun T L0 mz E I' loc'=>∃ (j:Nat),mz=w.n-j/\E=(54,.int .i64 j)::T/\HLe J2 I'/\[(b_7,.cells (zo7 w).toArray 72 (0,0))]=loc'/\j<=w.n/\(x.rs.take j).any zfH=false) ?_ (h:=⟨0,U,U,zGN _,U,jf _,U⟩);rintro mz E J3 loc' ⟨j,rfl,rfl,hJ,rfl,hj,hnr⟩;have hR:=hR.mono hJ;have hIc:=hIc.trans hJ;have hB2:=hB2.trans hJ;have hB4:=hJ;refine zR (zC (zN (Ql ?_)));refine zI ?_ ?_<;>intro hc55
  ·have hlt_j:j<w.n:=(by have h:=hc55;simp at h;omega);obtain ⟨r,hr⟩:=hR.at hlt_j;refine Qo (Qa (Ql (Qp (zR ?_))));refine zV (zX zce hR) ?_;refine zV (Qk U znC (fun hg=>by exact zGO hR hr) U) ?_;refine Qs zuI U U (fun b_9=>?_);refine zh zlv ?_;refine zN (Ql ?_);obtain ⟨hlo,hz⟩ | ⟨hlo,hz⟩ | ⟨hlo,hz⟩ | ⟨hlo,hz⟩:=zpn r
   ·have hbr:=zrU hlo true hz;refine Qf ?_;refine zF JG ?_;refine zL zdw ?_;rw [hlo];refine zM ?_;refine QJ (dj:=60) U U U ?_;refine zF Kl ?_;refine QJ (dj:=60) U U U ?_;refine zV (Qk U QY (fun hg=>by exact Cells.s0 (vs:=[_,_,_,_,_,_,_,_,_,_,_,_,_,_]) U) U) ?_;refine QJ (dj:=60) U U U ?_;refine zV (QC (ps:=[]) [_,_,_,_,_,_,_,_,_,_,_,_,_,_] W9 U U) ?_;refine QJ (dj:=60) U U U ?_;refine zV (v:=.bool (!WW r.sg ZU)) (zdt U U U2 U) ?_;rw [hz];refine zV (ZN U U U) ?_;refine zM ?_;refine Q0 (dj:=66) U U U U U ?_;refine Q0 (dj:=66) U U U U U ?_;refine Q0 (dj:=66) U U U U U ?_;refine Q0 (dj:=66) U U U U U ?_;refine Q0 (dj:=70) U U U U U ?_;refine Q0 (dj:=70) U U U U U ?_;refine Q0 (dj:=70) U U U U U ?_;refine Q0 (dj:=70) U U U U U ?_;refine Q0 (dj:=70) U U U U U ?_;refine Q0 (dj:=75) U U U U U ?_;refine Q0 (dj:=75) U U U U U ?_;refine Q0 (dj:=75) U U U U U ?_;refine Q0 (dj:=75) U U U U U ?_;refine Q0 (dj:=75) U U U U U ?_;refine Q0 (dj:=70) U U U U U ?_;refine Q0 (dj:=66) U U U U U ?_;refine zV (Vs U U U) ?_;refine zN ?_;refine zI ?_ ?_<;>intro hc83
    ·refine zR (zA (zN (Qr (Qn (Qc (Qc (Qn ?_)))))));refine Qn (Qc (Qc (Qn (Qc ?_))));exact zp hIc U U (by rw [zi4 h1 hno (hgo.trans (zdH hv hr hbr))])
    cases hc83
   focus
    have hbr:=zrU hlo false hz;refine Qf ?_;refine zF JG ?_;refine zL zdw ?_;rw [hlo];refine zM ?_;refine QJ (dj:=60) U U U ?_;refine zF Kl ?_;refine QJ (dj:=60) U U U ?_;refine zV (Qk U QY (fun hg=>by exact Cells.s0 (vs:=[_,_,_,_,_,_,_,_,_,_,_,_,_,_]) U) U) ?_;refine QJ (dj:=60) U U U ?_;refine zV (QC (ps:=[]) [_,_,_,_,_,_,_,_,_,_,_,_,_,_] W9 U U) ?_;refine QJ (dj:=60) U U U ?_;refine zV (v:=.bool (!WW r.sg ZU)) (zdt U U U2 U) ?_;rw [hz];refine zV (ZN U U U) ?_;refine zM ?_;refine QJ (dj:=66) U U U ?_;refine zF JG ?_;refine QJ (dj:=66) U U U ?_;refine zL zdw ?_;rw [hlo];refine QJ (dj:=66) U U U ?_;refine zO ?_;refine QJ (dj:=66) U U U ?_;refine zM ?_;refine Q0 (dj:=70) U U U U U ?_;refine Q0 (dj:=70) U U U U U ?_;refine Q0 (dj:=70) U U U U U ?_;refine Q0 (dj:=70) U U U U U ?_;refine Q0 (dj:=70) U U U U U ?_;refine Q0 (dj:=75) U U U U U ?_;refine Q0 (dj:=75) U U U U U ?_;refine Q0 (dj:=75) U U U U U ?_;refine Q0 (dj:=75) U U U U U ?_;refine Q0 (dj:=75) U U U U U ?_;refine Q0 (dj:=70) U U U U U ?_;refine QJ (dj:=66) U U U ?_;refine zV (Vs U U U) ?_;refine zV (ZN U U U) ?_;refine zN ?_;refine zI ?_ ?_<;>intro hc83
    ·cases hc83
   rotate_left
   ·have hbr:=zBW hlo hz;refine Qf ?_;refine zF JG ?_;refine zL zdw ?_;rw [hlo];refine zM ?_;refine Q0 (dj:=60) U U U U U ?_;refine Q0 (dj:=60) U U U U U ?_;refine Q0 (dj:=60) U U U U U ?_;refine Q0 (dj:=60) U U U U U ?_;refine zV (Vs U U U) ?_;refine zM ?_;refine QJ (dj:=66) U U U ?_;refine zF JG ?_;refine QJ (dj:=66) U U U ?_;refine zL zdw ?_;rw [hlo];refine QJ (dj:=66) U U U ?_;refine zO ?_;refine QJ (dj:=66) U U U ?_;refine zM ?_;refine QJ (dj:=70) U U U ?_;refine zF Kl ?_;refine QJ (dj:=70) U U U ?_;refine zF Zb ?_;refine QJ (dj:=70) U U U ?_;refine zL Qq ?_;refine QJ (dj:=70) U U U ?_;refine zC ?_;rw [hz];refine QJ (dj:=70) U U U ?_;refine zM ?_;refine Q0 (dj:=75) U U U U U ?_;refine Q0 (dj:=75) U U U U U ?_;refine Q0 (dj:=75) U U U U U ?_;refine Q0 (dj:=75) U U U U U ?_;refine Q0 (dj:=75) U U U U U ?_;refine QJ (dj:=70) U U U ?_;refine zV (Vs U U U) ?_;refine QJ (dj:=66) U U U ?_;refine zV (ZN U U U) ?_;refine zV (ZN U U U) ?_;refine zN ?_;refine zI ?_ ?_<;>intro hc83
    ·refine zR (zA (zN (Qr (Qn (Qc (Qc (Qn ?_)))))));refine Qn (Qc (Qc (Qn (Qc ?_))));exact zp hIc U U (by rw [zi4 h1 hno (hgo.trans (zdH hv hr hbr))])
    cases hc83
   have hbr:=zAE hlo hz;refine Qf ?_;refine zF JG ?_;refine zL zdw ?_;rw [hlo];refine zM ?_;refine Q0 (dj:=60) U U U U U ?_;refine Q0 (dj:=60) U U U U U ?_;refine Q0 (dj:=60) U U U U U ?_;refine Q0 (dj:=60) U U U U U ?_;refine zV (Vs U U U) ?_;refine zM ?_;refine QJ (dj:=66) U U U ?_;refine zF JG ?_;refine QJ (dj:=66) U U U ?_;refine zL zdw ?_;rw [hlo];refine QJ (dj:=66) U U U ?_;refine zO ?_;refine QJ (dj:=66) U U U ?_;refine zM ?_;refine QJ (dj:=70) U U U ?_;refine zF Kl ?_;refine QJ (dj:=70) U U U ?_;refine zF Zb ?_;refine QJ (dj:=70) U U U ?_;refine zL Qq ?_;refine QJ (dj:=70) U U U ?_;refine zC ?_;rw [hz];refine QJ (dj:=70) U U U ?_;refine zM ?_;refine QJ (dj:=75) U U U ?_;refine zF Kl ?_;refine QJ (dj:=75) U U U ?_;refine zV (Qk U QY (fun hg=>by exact Cells.s0 (vs:=[_,_,_,_,_,_,_,_,_,_,_,_,_,_]) U) U) ?_;refine QJ (dj:=75) U U U ?_;refine zpb [(0,_)] [Zk r.sg] VG (fun b_78=>?_);refine Ju (b:=b_78) (by repeat (first | exact Zf.here | apply Zf.there)) (fun I4 hI4 hb4=>?_);have hIc:=hIc.trans hI4;have hB4:=hB4.trans hI4;have hSg:Sl I4 14 Zk (some ⟨b_78,0,none⟩) 1 1 [r.sg]:=Sl.lit [r.sg] U Z8 (show _=some (Obj.cells ([r.sg].flatMap Zk).toArray 28 (0,0)) from hb4);refine QJ (dj:=75) U U U ?_;refine qcV (vs:=[_]) U zaQ (Xx hSg kE) ?_;refine QJ (dj:=75) U U U ?_;refine zC ?_;refine QJ (dj:=70) U U U ?_;refine zV (ZN U U U) ?_;refine QJ (dj:=66) U U U ?_;refine zV (ZN U U U) ?_;refine zV (ZN U U U) ?_;refine zN ?_;refine zI ?_ ?_<;>intro hc83
   ·have hbr:=hbr.trans hc83;refine zR (zA (zN (Qr (Qn (Qc (Qc (Qn ?_)))))));refine Qn (Qc (Qc (Qn (Qc ?_))));exact zp hIc U U (by rw [zi4 h1 hno (hgo.trans (zdH hv hr hbr))])
   have hbr:=hbr.trans hc83
   all_goals
    refine Qo (Qg (Qa (Qf (zB ?_))));refine zM (Qb ?_);exact zm (h:=⟨w.n-(j+1),kB,j+1,U,U,hB4,U,kB,VP hr hnr hbr⟩)
  have hge_j:w.n<=j:=(by have h:=hc55;simp at h;omega);rw [ZJ hrn hge_j] at hnr;refine QF (Qh (Qh (Qm (Qg (Qa (Qf (zB ?_)))))));refine zM (Qb ?_);exact zm (h:=⟨n-(k+1),kB,k+1,_,U,U,hB2,U,kB,by rw [hgo,zjV hv hbw hnr,e1]⟩)
 have hge_k:n<=k:=(by have h:=hc27;simp at h;omega);rw [zne kB] at hgo;refine QF (Qh (Qh (Qm (Qa (zR (zA (zN ?_)))))));refine Qr ?_;exact zp hIc U U (by rw [zCw h1 hno hgo])
def lcG:Nat->List Int->List Int->Int
 | _,[],ys=>2*(ys.length:Int)
 | _,x::xs,[]=>2*((x::xs).length:Int)
 | 0,_::_,_::_=>0
 | f+1,x::xs,y::ys=>K2 (K2 (zin x y+lcG f xs ys) (2+lcG f xs (y::ys))) (2+lcG f (x::xs) ys)
theorem JI:∀ (f:Nat) (xs ys:List Int),xs.length+ys.length<=f->lcG f xs ys=lcG (xs.length+ys.length) xs ys
 | _,[],ys,_=>by simp [lcG]
 | _,x::xs,[],_=>by simp [lcG]
 | 0,_::_,_::_,h=>by simp at h
 | f+1,x::xs,y::ys,h=>by
  simp only [jw] at h;have e:(x::xs).length+(y::ys).length=(xs.length+ys.length+1)+1:=(by simp only [jw];omega);rw [e];simp only [lcG];rw [JI f xs ys kB,JI f xs (y::ys) kN,JI f (x::xs) ys kN];rw [JI (xs.length+ys.length+1) xs ys kB,JI (xs.length+ys.length+1) xs (y::ys) kN,JI (xs.length+ys.length+1) (x::xs) ys kN]
theorem zgA (x y:Int):0<=zin x y/\zin x y<=3:=by unfold zin;split<;>omega
theorem zlf {a b:Int}:K2 a b<=a/\K2 a b<=b/\(K2 a b=a\/K2 a b=b):=by unfold K2;split<;>omega
theorem zhQ:∀ (f:Nat) (xs ys:List Int),0<=lcG f xs ys/\lcG f xs ys<=2*((xs.length:Int)+ys.length)
 | _,[],ys=>by simp only [lcG,O4];omega
 | _,x::xs,[]=>by simp only [lcG,O4];omega
 | 0,_::_,_::_=>by simp only [lcG];omega
 | f+1,x::xs,y::ys=>by
  have h1:=zhQ f xs ys;have h2:=zhQ f xs (y::ys);have h3:=zhQ f (x::xs) ys;have hb:=zgA x y;simp only [lcG];have m1:=@zlf (zin x y+lcG f xs ys) (2+lcG f xs (y::ys));have m2:=@zlf (K2 (zin x y+lcG f xs ys) (2+lcG f xs (y::ys))) (2+lcG f (x::xs) ys);simp only [jw] at*;omega
def LC (a b:List Int)(i k:Nat):Int:=lcG ((a.drop i).length+(b.drop k).length) (a.drop i) (b.drop k)
variable{a b:List Int}{i k:Nat}
theorem zmV (hi:i<=a.length)(hk:k<=b.length)(h:i=a.length\/k=b.length):LC a b i k=2*((a.length:Int)-i+b.length-k):=by
 unfold LC;rcases h with rfl | rfl
 ·rw [List.drop_length];simp only [lcG,j7];omega
 ·rw [List.drop_length]
  cases h:a.drop i with
  | nil=>have:=jr List.length h;simp at this;simp only [lcG,O4];omega
  | cons x xs=>have:=jr List.length h;simp only [j7] at this;simp only [lcG];omega
variable{x y:Int}
theorem zvH (hx:a[i]? =some x)(hy:b[k]? =some y):LC a b i k=K2 (K2 (zin x y+LC a b (i+1) (k+1)) (2+LC a b (i+1) k)) (2+LC a b i (k+1)):=by unfold LC;rw [Zz hx,Zz hy];have e:(x::a.drop (i+1)).length+(y::b.drop (k+1)).length=((a.drop (i+1)).length+(b.drop (k+1)).length+1)+1:=(by simp only [jw];omega);rw [e];simp only [lcG];rw [JI (_+1) (a.drop (i+1)) (b.drop (k+1)) kB,JI (_+1) (a.drop (i+1)) (y::b.drop (k+1)) kN,JI (_+1) (x::a.drop (i+1)) (b.drop (k+1)) kN]
theorem zEr (a b:List Int)(i k:Nat):0<=LC a b i k/\LC a b i k<=2*((a.length:Int)+b.length):=by have h:=zhQ ((a.drop i).length+(b.drop k).length) (a.drop i) (b.drop k);unfold LC;simp only [j7] at*;omega
def Xo (a b:List Int)(i k:Nat)(v:Int):Prop:=v=LC a b i k
variable{v:Int}
theorem Xo.inn (h:Xo a b i k v):0<=v/\v<=2*((a.length:Int)+b.length):=by unfold Xo at h;rw [h];exact zEr a b i k
theorem Xo.fin (hi:i<=a.length)(hk:k<=b.length)(h:i=a.length\/k=b.length):Xo a b i k (2*((a.length:Int)-i+b.length-k)):=(zmV hi hk h).symm
variable{B:Int}
theorem Xo.step {A C:Int}(hx:a[i]? =some x)(hy:b[k]? =some y)(hA:Xo a b (i+1) (k+1) A)(hB:Xo a b (i+1) k B)(hC:Xo a b i (k+1) C):Xo a b i k (K2 (K2 (zin x y+A) (2+B)) (2+C)):=by unfold Xo at*;rw [zvH hx hy,hA,hB,hC]
def MOK (a b:List Int)(m:List ((Int×Int)×Int)):Prop:=∀ (i k:Nat) (v:Int),ZP m ((i:Int),(k:Int))=some v->Xo a b i k v
theorem MOK.nil :MOK a b []:=fun _ _ _ h=>by cases h
variable{m:List ((Int×Int)×Int)}
theorem MOK.set (h:MOK a b m)(hv:Xo a b i k v):MOK a b (YM m ((i:Int),(k:Int)) v):=fun i' k' v' e=>by
 rw [Y4] at e;split at e
 ·rename_i h2;simp only [AX] at h2;obtain ⟨rfl,rfl⟩:i=i'/\k=k':=kB;cases e;exact hv
 ·exact h i' k' v' e
structure LsE (I:Qt)(fid ba bb bk bs r:Nat)(av bv:Option Addr)(n c n2 c2:Nat)(xs ys:List Int):Prop where
 a:QB I [] ba 0 (.slice av n c)
 b:QB I [] bb 0 (.slice bv n2 c2)
 kn:QB I [] bk 0 (.map (some r))
 se:QB I [] bs 0 (.func (.func fid) #[] #[QZ ba,QZ bb,QZ bk,QZ bs])
 hA:Sl I 1 Q3 av n c xs
 hB:Sl I 1 Q3 bv n2 c2 ys
variable{ba bb bk bs r n2 c2:Nat}{bv:Option Addr}{xs ys:List Int}
theorem LsE.mono {I':Qt}{fid:Nat}(h:LsE I fid ba bb bk bs r av bv n c n2 c2 xs ys)(hI:HLe I I'):LsE I' fid ba bb bk bs r av bv n c n2 c2 xs ys:=
 ⟨h.a.mono hI,h.b.mono hI,h.kn.mono hI,h.se.mono hI,h.hA.mono hI,h.hB.mono hI⟩
def zeH:Int->Value:=Value.int .i64
def zdJ (p:Int×Int):List Value:=[.int .i64 p.1,.int .i64 p.2]
theorem zoZ (p:Int×Int):(zdJ p).length=2:=rfl
theorem znZ (xs:List (Int×Int)):YP (xs.flatMap zdJ)=true:=Vb (fun _=>U) xs
def zao (a b:List Int)(i k:Nat):Bool:=decide (i<a.length)&&decide (k<b.length)&&(LC a b i k==zin (a.getD i 0) (b.getD k 0)+LC a b (i+1) (k+1))
def zjO (a b:List Int)(i k:Nat):Bool:=decide (i<a.length)&&(LC a b i k==2+LC a b (i+1) k)
def paF (a b:List Int):Nat->Nat->Nat->List (Int×Int)
 | 0,_,_=>[]
 | f+1,i,k=>
  if (decide (i<a.length)||decide (k<b.length))=true then
   if zao a b i k=true then (((i+1:Nat):Int),((k+1:Nat):Int))::paF a b f (i+1) (k+1)
   else if zjO a b i k=true then (((i+1:Nat):Int),0)::paF a b f (i+1) k
   else (0,((k+1:Nat):Int))::paF a b f i (k+1)
  else []
def PaQ (a b:List Int)(pre:List (Int×Int))(i k:Nat):Prop:=∃ f,a.length-i+(b.length-k)<=f/\paF a b (a.length+b.length) 0 0=pre++paF a b f i k
theorem PaQ.start :PaQ a b [] 0 0:=⟨a.length+b.length,kB,U⟩
variable{pre:List (Int×Int)}
theorem PaQ.fin (h:PaQ a b pre i k)(hi:a.length<=i)(hk:b.length<=k):paF a b (a.length+b.length) 0 0=pre:=by
 obtain ⟨f,_,e⟩:=h;rw [e]
 cases f with
 | zero=>simp [paF]
 | succ f=>unfold paF;rw [ja kM,jz]
theorem PaQ.fuel (h:PaQ a b pre i k)(hg:i<a.length\/k<b.length):∃ f,a.length-i+(b.length-k)<=f+1/\paF a b (a.length+b.length) 0 0=pre++paF a b (f+1) i k:=by
 obtain ⟨f,hf,e⟩:=h
 cases f with
 | zero=>omega
 | succ f=>exact ⟨f,hf,e⟩
theorem PaQ.both (h:PaQ a b pre i k)(hb:zao a b i k=true):PaQ a b (pre++[(((i+1:Nat):Int),((k+1:Nat):Int))]) (i+1) (k+1):=by have h1:i<a.length/\k<b.length:=(by unfold zao at hb;simp at hb;omega);obtain ⟨f,hf,e⟩:=h.fuel (.inl h1.1);refine ⟨f,kB,?_⟩;rw [e];show pre++(if (decide (i<a.length)||decide (k<b.length))=true then _ else _)=_;rw [jb kM,jb hb,jn];rfl
theorem PaQ.one (h:PaQ a b pre i k)(hb:zao a b i k=false)(ho:zjO a b i k=true):PaQ a b (pre++[(((i+1:Nat):Int),0)]) (i+1) k:=by have h1:i<a.length:=(by unfold zjO at ho;simp at ho;omega);obtain ⟨f,hf,e⟩:=h.fuel (.inl h1);refine ⟨f,kB,?_⟩;rw [e];show pre++(if (decide (i<a.length)||decide (k<b.length))=true then _ else _)=_;rw [jb kM,ja (by rw [hb];decide),jb ho,jn];rfl
theorem zjv (hi:i<=a.length)(hk:k<=b.length)(hg:i<a.length\/k<b.length)(_hb:zao a b i k=false)(ho:zjO a b i k=false):k<b.length:=by
 by_cases h:k<b.length
 ·exact h
 ·have hia:i<a.length:=kB;have e1:=zmV (a:=a) (b:=b) hi hk (.inr kB);have e2:=zmV (a:=a) (b:=b) (i:=i+1) kB hk (.inr kB);unfold zjO at ho;simp only [Bu,AF,Am] at ho;rcases ho with ho | ho
  ·omega
  ·omega
theorem PaQ.two (h:PaQ a b pre i k)(hg:k<b.length)(hb:zao a b i k=false)(ho:zjO a b i k=false):PaQ a b (pre++[(0,((k+1:Nat):Int))]) i (k+1):=by obtain ⟨f,hf,e⟩:=h.fuel (.inr hg);refine ⟨f,kB,?_⟩;rw [e];show pre++(if (decide (i<a.length)||decide (k<b.length))=true then _ else _)=_;rw [jb kM,ja (by rw [hb];decide),ja (by rw [ho];decide),jn];rfl
def zrr (a b:List Int):List (Int×Int):=paF a b (a.length+b.length) 0 0
def zf1 (c:Int):Bool:=(Kh c != 0)&&(c != 8589934592)
def zaR (a b:List Int):Int:=if a.length>64\/b.length>64 then 2 else if (a.any zf1||b.any zf1)=true then 410 else 0
theorem zqG {m:Nat}(h:i<n\/k<m):(decide ((i:Int)<(n:Int))=true/\decide ((k:Int)<(m:Int))=true/\i<n/\k<m)\/(decide ((i:Int)<(n:Int))=true/\decide ((k:Int)<(m:Int))=false/\i<n/\m<=k)\/(decide ((i:Int)<(n:Int))=false/\decide ((k:Int)<(m:Int))=true/\n<=i/\k<m):=by
 by_cases h1:i<n
 ·by_cases h2:k<m
  ·exact .inl ⟨jX kB,jX kB,h1,h2⟩
  ·exact .inr (.inl ⟨jX kB,j1 kB,h1,kB⟩)
 ·exact .inr (.inr ⟨j1 kB,jX kB,kB,kB⟩)
variable{V:Int}{t:Bool}
theorem zhB {A:Int}(hx:a[i]? =some x)(hy:b[k]? =some y)(hV:Xo a b i k V)(hA:Xo a b (i+1) (k+1) A)(h:(V==zin x y+A)=t):zao a b i k=t:=by have h1:=(jc.1 hx).1;have h2:=(jc.1 hy).1;unfold Xo at hV hA;unfold zao;rw [Q1 hx,Q1 hy,<-hV,<-hA,h,jX h1,jX h2];rfl
theorem zij (h:a.length<=i\/b.length<=k):zao a b i k=false:=by
 unfold zao;rcases h with h | h
 ·rw [j1 (show ¬i<a.length by omega)];rfl
 ·rw [j1 (show ¬k<b.length by omega),Aa];rfl
theorem zcW (hi:i<a.length)(hV:Xo a b i k V)(hB:Xo a b (i+1) k B)(h:(V==2+B)=t):zjO a b i k=t:=by unfold Xo at hV hB;unfold zjO;rw [<-hV,<-hB,h,jX hi];rfl
theorem zwq (h:a.length<=i):zjO a b i k=false:=by unfold zjO;rw [j1 (show ¬i<a.length by omega)];rfl
theorem zhf (h:a.length>64\/b.length>64):zaR a b=2:=by unfold zaR;rw [jb h]
theorem zgk (h:¬(a.length>64\/b.length>64))(h2:(a.any zf1||b.any zf1)=true):zaR a b=410:=by unfold zaR;rw [ja h,jb h2]
theorem znv (h:¬(a.length>64\/b.length>64))(h2:(a.any zf1||b.any zf1)=false):zaR a b=0:=by unfold zaR;rw [ja h,h2];rfl
def JF (a b:List Int):List (Int×Int):=if zaR a b≠0 then [] else zrr a b
def zE8 (a b:List Int):Value->Qt->Go.Kn.Loc->Prop:=fun v I' L=>L=[]/\∃ z av c,v= .tuple #[.int .i64 z,.slice av (JF a b).length c,.int .i64 (zaR a b)]/\Sl I' 2 zdJ av (JF a b).length c (JF a b)
theorem XL (h:zaR a b≠0):JF a b=[]:=by unfold JF;rw [jb h]
theorem zhy (h:zaR a b=0):JF a b=zrr a b:=by unfold JF;rw [ja kB]
variable{q:Nat}
theorem zoA (hA:Sl I 1 Q3 av n c xs)(hB:Sl I 1 Q3 bv n2 c2 ys)(hq:q<2):∃ hd zs,([⟨av,n,c⟩,⟨bv,n2,c2⟩]:List Hd)[q]? =some hd/\([xs,ys]:List (List Int))[q]? =some zs/\Sl I 1 Q3 hd.a hd.n hd.c zs/\(hd.n=n\/hd.n=n2):=by
 rcases (show q=0\/q=1 by omega) with rfl | rfl
 ·exact ⟨_,xs,U,U,hA,.inl U⟩
 ·exact ⟨_,ys,U,U,hB,.inr U⟩
theorem zaz:Fun Tryz.prog 59:=.of Tryz.func59 kA kA
theorem ztM:Fun Tryz.prog 60:=.of Tryz.func60 kA kA
theorem zft:VR (α:=Int×Int) Tryz.prog 82 Vg:=zpe zli
theorem zod:MpT Tryz.prog 153 82 3 (.int .i64 0):=⟨kA,.of kA⟩
theorem UY:ScT Tryz.prog 120:=.of kA
theorem zkf:ScT Tryz.prog 153:=.of kA
set_option maxHeartbeats 1600000 in
theorem zcB      (hE:(LsE I 59 ba bb bk bs r av bv n c n2 c2 xs ys)) (hn:n<=100000) (hn2:n2<=100000) (i k:Nat) (hi:i<=xs.length) (hk:k<=ys.length) (m1:List ((Int×Int)×Int)) (hm1:MOK xs ys m1) (ihA:∀ (m':List ((Int×Int)×Int)),i<xs.length/\k<ys.length->MOK xs ys m'->ZQ Tryz.prog 59 ([.int .i64 ((i:Int)+1),.int .i64 ((k:Int)+1)]++[QZ ba,QZ bb,QZ bk,QZ bs]) I [(r,Z7 Vg zeH m')] (fun v I' L'=>∃ A,Xo xs ys (i+1) (k+1) A/\v= .int .i64 A/\I'=I/\∃ m',MOK xs ys m'/\L'=[(r,Z7 Vg zeH m')])) (ihB:∀ (m':List ((Int×Int)×Int)),i<xs.length/\k<ys.length->MOK xs ys m'->ZQ Tryz.prog 59 ([.int .i64 ((i:Int)+1),.int .i64 ((k:Int))]++[QZ ba,QZ bb,QZ bk,QZ bs]) I [(r,Z7 Vg zeH m')] (fun v I' L'=>∃ A,Xo xs ys (i+1) (k) A/\v= .int .i64 A/\I'=I/\∃ m',MOK xs ys m'/\L'=[(r,Z7 Vg zeH m')])) (ihC:∀ (m':List ((Int×Int)×Int)),i<xs.length/\k<ys.length->MOK xs ys m'->ZQ Tryz.prog 59 ([.int .i64 ((i:Int)),.int .i64 ((k:Int)+1)]++[QZ ba,QZ bb,QZ bk,QZ bs]) I [(r,Z7 Vg zeH m')] (fun v I' L'=>∃ A,Xo xs ys (i) (k+1) A/\v= .int .i64 A/\I'=I/\∃ m',MOK xs ys m'/\L'=[(r,Z7 Vg zeH m')])):ZQ Tryz.prog 59 [.int .i64 i,.int .i64 k,QZ ba,QZ bb,QZ bk,QZ bs] I [(r,Z7 Vg zeH m1)] (fun v I' L'=>∃ A,Xo xs ys (i) (k) A/\v= .int .i64 A/\I'=I/\∃ m',MOK xs ys m'/\L'=[(r,Z7 Vg zeH m')]):=by
 intro g H w hw;refine qe Tryz.func59 Tryz.ntmps59 hw ?_;have hAl:=hE.hA.len;subst hAl;have hBl:=hE.hB.len;subst hBl;refine zR (zA (zN (Ql (zR ?_))));refine zM ?_;refine zV (Qd U QK (fun hg=>by exact hE.a.any)) ?_;refine zQ Qx ?_;refine zC ?_;refine zM ?_;refine Q8 4 U U U ?_;refine zJ (Qj U) ?_;refine zJ (Qd U QK (fun hg=>by exact hE.b.any)) ?_;refine zJ (ZX U Qx) ?_;refine zJ (QI U U U) ?_;refine ZO U U U U U ?_;refine zN ?_;refine zI ?_ ?_<;>intro hc20
 ·have hend:i=xs.length\/k=ys.length:=(by have h:=hc20;simp at h;omega);refine zR ?_;refine zV (Qd U QK (fun hg=>by exact hE.a.any)) ?_;refine zQ Qx ?_;refine zM ?_;refine zB ?_;refine zV (Qd U QK (fun hg=>by exact hE.b.any)) ?_;refine zQ Qx ?_;refine zB ?_;refine zM ?_;refine zB ?_;refine zB ?_;refine zA (zN (Qr (Qc ?_)));exact QR U U (fun w hw=>⟨_,_,_,U,zGN _,hw,_,Xo.fin hi hk hend,U,U,m1,hm1,U⟩)
 have hlt:i<xs.length/\k<ys.length:=(by have h:=hc20;simp at h;omega);obtain ⟨x,hx⟩:=hE.hA.at hlt.1;obtain ⟨y,hy⟩:=hE.hB.at hlt.2;have hbn:=zgA x y;refine Qo (Qa (zR ?_));refine zV (Qd U zkf (fun hg=>by exact hE.kn.any)) ?_;refine zM ?_;refine zM ?_;refine zV (ZT (ps:=[(0,_),(1,_)]) [_,_] VM WY U U) ?_;refine zV (UU (m:=m1) (ek:=Vg) (a:=((i:Int),(k:Int))) zod zft U U (fun _=>(by exact Mem.m0))) ?_;refine zM ?_;refine zE ?_;refine zE ?_;refine zA ?_;refine zA (zN (Ql (zR ?_)));refine zM ?_;refine zO (zN ?_);refine zI ?_ ?_<;>intro hc40
 ·refine Ql ?_;have hD:=zGN I;refine YZ ?_;refine ZA I [] mixed ?_;refine zT 0 U (Qd U QK (fun hg=>by exact hE.a.any)) hD ?_;refine zT 1 U (Qj U) hD ?_;refine zT 2 U (Qy U U Qx hE.hA (fun hg=>kB)) hD ?_;refine zT 3 U (Qd U Qq (fun hg=>by exact zGG hE.hA hx U)) hD ?_;refine zT 4 U (Qd U QK (fun hg=>by exact hE.b.any)) hD ?_;refine zT 5 U (Qj U) hD ?_;refine zT 6 U (Qy U U Qx hE.hB (fun hg=>kB)) hD ?_;refine zT 7 U (Qd U Qq (fun hg=>by exact zGG hE.hB hy U)) hD ?_;refine zT 9 U (Qd U UY (fun hg=>by exact hE.se.any)) hD ?_;refine zT 10 U (Qj U) hD ?_;refine zT 11 U (ZL U U U (fun hg=>kB)) hD ?_;refine zT 12 U (Qj U) hD ?_;refine zT 13 U (ZL U U U (fun hg=>kB)) hD ?_;refine zT 16 U (Qd U UY (fun hg=>by exact hE.se.any)) hD ?_;refine zT 17 U (Qj U) hD ?_;refine zT 18 U (ZL U U U (fun hg=>kB)) hD ?_;refine zT 19 U (Qj U) hD ?_;refine zT 22 U (Qd U UY (fun hg=>by exact hE.se.any)) hD ?_;refine zT 23 U (Qj U) hD ?_;refine zT 24 U (Qj U) hD ?_;refine zT 25 U (ZL U U U (fun hg=>kB)) hD ?_;refine qd 8 U ?_;refine qcV (vs:=[_,_]) U ztM (zhL I _ _) ?_;refine Qb ?_;refine zD hD ?_;refine qd 14 U ?_;refine Z1 (cap:=[QZ ba,QZ bb,QZ bk,QZ bs]) (vs:=[_,_]) U U zaz QT (ihA m1 hlt hm1) U U ?_;rintro vv1 I1 L1 hI1 ⟨VA,hLA,rfl,rfl,m2,hm2,rfl⟩;have hE:=hE.mono hI1;have hD:=hD.trans hI1;have hbA:=hLA.inn;refine Qb ?_;refine zD hD ?_;refine zT 15 U (ZL U U U (fun hg=>kB)) hD ?_;refine qd 20 U ?_;refine Z1 (cap:=[QZ ba,QZ bb,QZ bk,QZ bs]) (vs:=[_,_]) U U zaz QT (ihB m2 hlt hm2) U U ?_;rintro vv2 I2 L2 hI2 ⟨VB,hLB,rfl,rfl,m3,hm3,rfl⟩;have hE:=hE.mono hI2;have hD:=hD.trans hI2;have hbB:=hLB.inn;refine Qb ?_;refine zD hD ?_;refine zT 21 U (ZL U U U (fun hg=>kB)) hD ?_;refine qd 26 U ?_;refine Z1 (cap:=[QZ ba,QZ bb,QZ bk,QZ bs]) (vs:=[_,_]) U U zaz QT (ihC m3 hlt hm3) U U ?_;rintro vv3 I3 L3 hI3 ⟨VC,hLC,rfl,rfl,m4,hm4,rfl⟩;have hE:=hE.mono hI3;have hD:=hD.trans hI3;have hbC:=hLC.inn;refine Qb ?_;refine zD hD ?_;refine zT 27 U (ZL U U U (fun hg=>kB)) hD ?_;refine zT 28 U (ztT U U U) hD ?_;refine zT 29 U (QU U) hD ?_;refine Qz kA ?_;refine QD ?_;have hst:=Xo.step hx hy hLA hLB hLC;refine Qa (Qf ?_);refine zV (Qd U zkf (fun hg=>by exact hE.kn.any)) ?_;refine zM ?_;refine zM ?_;refine zV (ZT (ps:=[(0,_),(1,_)]) [_,_] VM WY U U) ?_;refine zM ?_;refine Q6 (m:=m4) (ev:=zeH) (ek:=Vg) (a:=((i:Int),(k:Int))) (K2 (K2 (zin x y+VA) (2+VB)) (2+VC)) zod zft U U U U (by repeat (first | exact Upd.here | apply Upd.there | apply QH)) ?_;refine zN (zR ?_);refine zM ?_;refine zA (zN (Qr ?_));exact QR U U (fun w hw=>⟨_,_,_,U,zGN _,hw,_,hst,U,U,_,hm4.set hst,U⟩)
 obtain ⟨v,hv⟩:=jW.1 (by simpa using hc40);have hv2:=hm1 i k v hv;rw [hv];refine Qo (Qa (zR (zM ?_)));refine zA (zN (Qr ?_));exact QR U U (fun w hw=>⟨_,_,_,U,zGN _,hw,_,hv2,U,U,m1,hm1,U⟩)
theorem zgQ {I:Qt}{ba bb bk bs r:Nat}{av bv:Option Addr}{n c n2 c2:Nat}{xs ys:List Int}(hE:(LsE I 59 ba bb bk bs r av bv n c n2 c2 xs ys))(hn:n<=100000)(hn2:n2<=100000):∀ (q i k:Nat) (m1:List ((Int×Int)×Int)),xs.length+ys.length<=q+(i+k)->i<=xs.length->k<=ys.length->MOK xs ys m1->ZQ Tryz.prog 59 ([.int .i64 i,.int .i64 k]++[QZ ba,QZ bb,QZ bk,QZ bs]) I [(r,Z7 Vg zeH m1)] (fun v I' L'=>∃ A,Xo xs ys (i) (k) A/\v= .int .i64 A/\I'=I/\∃ m',MOK xs ys m'/\L'=[(r,Z7 Vg zeH m')])
 | 0,i,k,m1,hq,hi,hk,hm=>zcB hE hn hn2 i k hi hk m1 hm (fun m' h=>kB) (fun m' h=>kB) (fun m' h=>kB)
 | q+1,i,k,m1,hq,hi,hk,hm=>zcB hE hn hn2 i k hi hk m1 hm (fun m' h hm'=>zgQ hE hn hn2 q (i+1) (k+1) m' kB kB kB hm') (fun m' h hm'=>zgQ hE hn hn2 q (i+1) k m' kB kB kB hm') (fun m' h hm'=>zgQ hE hn hn2 q i (k+1) m' kB kB kB hm')
theorem Wz:ElT Tryz.prog 76 82 2 16:=.of kA
theorem zk1:Fun Tryz.prog 36:=.of Tryz.func36 kA kA
theorem zvo:SzT Tryz.prog 120 1:=.of kA
theorem zwv:SzT Tryz.prog 153 1:=.of kA
theorem zAW:Yw Tryz.prog 120 .nilFunc:=.of kA
theorem zBG:Yw Tryz.prog 153 (.map none):=.of kA
theorem zzZ (hE:(LsE I 59 ba bb bk bs r av bv n c n2 c2 xs ys))(hn:n<=100000)(hn2:n2<=100000)(i k:Nat)(m1:List ((Int×Int)×Int))(h:i<xs.length/\k<ys.length)(hm:MOK xs ys m1):ZQ Tryz.prog 59 ([.int .i64 ((i:Int)+1),.int .i64 ((k:Int)+1)]++[QZ ba,QZ bb,QZ bk,QZ bs]) I [(r,Z7 Vg zeH m1)] (fun v I' L'=>∃ A,Xo xs ys (i+1) (k+1) A/\v= .int .i64 A/\I'=I/\∃ m',MOK xs ys m'/\L'=[(r,Z7 Vg zeH m')]):=zgQ hE hn hn2 (xs.length+ys.length) (i+1) (k+1) m1 kB kB kB hm
theorem zsz (hE:(LsE I 59 ba bb bk bs r av bv n c n2 c2 xs ys))(hn:n<=100000)(hn2:n2<=100000)(i k:Nat)(m1:List ((Int×Int)×Int))(h:i<xs.length/\k<=ys.length)(hm:MOK xs ys m1):ZQ Tryz.prog 59 ([.int .i64 ((i:Int)+1),.int .i64 ((k:Int))]++[QZ ba,QZ bb,QZ bk,QZ bs]) I [(r,Z7 Vg zeH m1)] (fun v I' L'=>∃ A,Xo xs ys (i+1) (k) A/\v= .int .i64 A/\I'=I/\∃ m',MOK xs ys m'/\L'=[(r,Z7 Vg zeH m')]):=zgQ hE hn hn2 (xs.length+ys.length) (i+1) (k) m1 kB kB kB hm
theorem zCZ (hE:(LsE I 59 ba bb bk bs r av bv n c n2 c2 xs ys))(hn:n<=100000)(hn2:n2<=100000)(_i _k:Nat)(m1:List ((Int×Int)×Int))(_h:True)(hm:MOK xs ys m1):ZQ Tryz.prog 59 ([.int .i64 (0),.int .i64 (0)]++[QZ ba,QZ bb,QZ bk,QZ bs]) I [(r,Z7 Vg zeH m1)] (fun v I' L'=>∃ A,Xo xs ys (0) (0) A/\v= .int .i64 A/\I'=I/\∃ m',MOK xs ys m'/\L'=[(r,Z7 Vg zeH m')]):=zgQ hE hn hn2 (xs.length+ys.length) (0) (0) m1 kB kB kB hm
set_option maxHeartbeats 1600000 in
theorem zCi     (hA:Sl I 1 Q3 av n c xs)    (hB:Sl I 1 Q3 bv n2 c2 ys) (hnn:n<=1000000) (hnn2:n2<=1000000):ZQ Tryz.prog 21 [.slice av n c,.slice bv n2 c2] I [] (zE8 xs ys):=by
 intro g H w hw;refine qe Tryz.func21 Tryz.ntmps21 hw ?_;have hIc:=zGN I;have hlA:=hA.len;subst hlA;have hlB:=hB.len;subst hlB;refine zR ?_;refine QG U U U (fun b_2=>?_);refine QG U U U (fun b_3=>?_);refine zA ?_;refine zA ?_;refine zA (zN (Ql (Ql ?_)));refine Jg (fun I1 hI1 hall=>?_);have hA:=hA.mono hI1;have hB:=hB.mono hI1;have hIc:=hIc.trans hI1;have hB2:QB I1 [] b_2 0 (.slice av xs.length c):=.imm (hall _ _ kF) U;have hB3:QB I1 [] b_3 0 (.slice bv ys.length c2):=.imm (hall _ _ kF) U;refine Qf ?_;refine zV (Qd U QK (fun hg=>by exact hB2.any)) ?_;refine zQ Qx ?_;refine zC ?_;refine zM ?_;refine Q8 3 U U U ?_;refine zJ (Qd U QK (fun hg=>by exact hB3.any)) ?_;refine zJ (ZX U Qx) ?_;refine zJ (QI U U U) ?_;refine ZO U U U U U ?_;refine zN ?_;refine zI ?_ ?_<;>intro hc25
 ·have hlong:xs.length>64\/ys.length>64:=(by have h:=hc25;simp at h;omega);refine zR (zA ?_);refine zA ?_;refine zA (zN (Qr (Qc ?_)))
  first
  | exact KD U U U U (fun w hw=>⟨_,_,[],U,hIc,hw.drop,U,_,none,0,by rw [zhf hlong,XL (by rw [zhf hlong];decide)];rfl,by rw [XL (by rw [zhf hlong];decide)];exact .nil⟩)
 have hlong:¬(xs.length>64\/ys.length>64):=(by have h:=hc25;simp at h;omega);refine Qo (Qa (Ql (zR ?_)));refine zV (Qd U QK (fun hg=>by exact hB2.any)) ?_;refine zV (Qd U QK (fun hg=>by exact hB3.any)) ?_;refine zpb [(0,_),(1,_)] [KU ⟨av,xs.length,c⟩,KU ⟨bv,ys.length,c2⟩] UP (fun b_28=>?_);refine zQ Zn ?_;refine zM (Qb ?_);refine Jg (fun I2 hI2 hall=>?_);have hA:=hA.mono hI2;have hB:=hB.mono hI2;have hB2:=hB2.mono hI2;have hB3:=hB3.mono hI2;have hIc:=hIc.trans hI2;have hAB:Sl I2 1 KU (some ⟨b_28,0,none⟩) 2 2 ([⟨av,xs.length,c⟩,⟨bv,ys.length,c2⟩]:List Hd):=Sl.lit _ U K5 (show _=some (Obj.cells (([⟨av,xs.length,c⟩,⟨bv,ys.length,c2⟩]:List Hd).flatMap KU).toArray 37 (0,0)) from (hall _ _ kF));refine Qa (Qp ?_);refine zU [(2,_),(3,_),(28,_),(29,_)] (fun T L0 mz E I' loc'=>∃ (z:Nat),mz=2-z/\E=(5,.slice none 0 0)::(30,.int .i64 z)::T/\I2=I'/\[]=loc'/\z<=2/\([xs,ys].take z).any (fun l=>l.any zf1)=false) ?_ (h:=⟨0,U,U,U,U,jf _,U⟩);rintro mz E I' loc' ⟨z,rfl,rfl,rfl,rfl,hz,hno⟩;refine zR (zC (zN (Ql ?_)));refine zI ?_ ?_<;>intro hc31
 ·have hlt_z:z<2:=(by have h:=hc31;simp at h;omega);obtain ⟨hd,zs,hhd,hzs,hZ,hz2⟩:=zoA hA hB hlt_z;refine Qo (Qa (Ql (Qp (zR ?_))));refine zV (zX Zn hAB) ?_;refine zV (Qd U QK (fun hg=>by exact zGG hAB hhd U)) ?_;refine zA ?_;refine zN (zR ?_);refine zM ?_;refine zQ Qx ?_;refine zM (zN (Qp ?_));refine zU [(2,_),(3,_),(28,_),(29,_),(30,_),(34,_),(35,_)] (fun T L0 mz E I' loc'=>∃ (j:Nat),mz=hd.n-j/\E=(5,.slice none 0 0)::(36,.int .i64 j)::T/\I2=I'/\[]=loc'/\j<=hd.n/\(zs.take j).any zf1=false) ?_ (h:=⟨0,U,U,U,U,jf _,U⟩);rintro mz E I' loc' ⟨j,rfl,rfl,rfl,rfl,hj,hzb⟩;refine zR (zC (zN (Ql ?_)));refine zI ?_ ?_<;>intro hc37
  ·have hlt_j:j<hd.n:=(by have h:=hc37;simp at h;omega);obtain ⟨cc,hz⟩:=hZ.at hlt_j;refine Qo (Qa (Ql (Qp (zR ?_))));refine zV (zX Qx hZ) ?_;refine zV (Qd U Qq (fun hg=>by exact zGG hZ hz U)) ?_;refine zA ?_;refine zN (zR ?_);refine zM ?_;refine qcV (vs:=[_]) U zk1 (zok _ _) ?_;refine zM ?_;refine zE ?_;refine zE ?_;refine Qs UV U U (fun b_11=>?_);refine zh Yk ?_;refine zA ?_;refine zN (zR ?_);refine zM ?_;refine zC ?_;refine zM ?_;refine QA 2 U U U ?_;refine zK (Qj U) ?_;refine zK (QI U U U) ?_;refine QE U U U U U ?_;refine zN ?_;refine zI ?_ ?_<;>intro hc50
   ·have hbc:zf1 cc=true:=hc50;have hyes:(xs.any zf1||ys.any zf1)=true:=(by have h:=UO (p:=fun l:List Int=>l.any zf1) hzs (UO hz hbc);simpa using h);refine zR (zA ?_);refine zA ?_;refine zA (zN (Qr (Qn (Qc (Qc (Qn (Qn ?_)))))));refine Qc (Qc (Qn (Qc ?_)))
    first
    | exact KD U U U U (fun w hw=>⟨_,_,[],U,hIc,hw.drop,U,_,none,0,by rw [zgk hlong hyes,XL (by rw [zgk hlong hyes];decide)];rfl,by rw [XL (by rw [zgk hlong hyes];decide)];exact .nil⟩)
   have hbc:zf1 cc=false:=hc50;refine Qo (Qg (Qa (Qf (zB ?_))));refine zM (Qb ?_);exact zm (h:=⟨hd.n-(j+1),kB,j+1,U,U,U,U,kB,VP hz hzb hbc⟩)
  have hge_j:hd.n<=j:=(by have h:=hc37;simp at h;omega);rw [ZJ hZ.len hge_j] at hzb;refine QF (Qh (Qh (Qm (Qg (Qa (Qf (zB ?_)))))));refine zM (Qb ?_);exact zm (h:=⟨2-(z+1),kB,z+1,U,U,U,U,kB,VP hzs hno hzb⟩)
 have hge_z:2<=z:=(by have h:=hc31;simp at h;omega);rw [jD (by simpa using hge_z)] at hno;have hno2:(xs.any zf1||ys.any zf1)=false:=(by simpa using hno);refine QF (Qh (Qh (Qm (Qa (zR ?_)))));refine ZV U U (fun r_53=>?_);refine Qs zBG U U (fun b_13=>?_);refine zS zwv ?_;refine zN (zR ?_);refine Qs zAW U U (fun b_14=>?_);refine zN (zR ?_);refine zV (QN (us:=[]) (vs:=[_,_,_,_]) U U) ?_;refine zS zvo ?_;refine zN (Ql (Ql ?_));refine QQ (b:=b_14) (by repeat (first | exact Zf.here | apply Zf.there)) (fun I5 hI5 hb5=>?_);have hA:=hA.mono hI5;have hB:=hB.mono hI5;have hB2:=hB2.mono hI5;have hB3:=hB3.mono hI5;have hIc:=hIc.trans hI5;have hC14:QB I5 [] b_14 0 (.func (.func 59) #[] #[QZ b_2,QZ b_3,QZ b_13,QZ b_14]):=.imm hb5 U;refine QQ (b:=b_13) (by repeat (first | exact Zf.here | apply Zf.there)) (fun I6 hI6 hb6=>?_);have hA:=hA.mono hI6;have hB:=hB.mono hI6;have hB2:=hB2.mono hI6;have hB3:=hB3.mono hI6;have hC14:=hC14.mono hI6;have hIc:=hIc.trans hI6;have hC13:QB I6 [] b_13 0 (.map (some r_53)):=.imm hb6 U;have hLE:LsE I6 59 b_2 b_3 b_13 b_14 r_53 av bv xs.length c ys.length c2 xs ys:=⟨hB2,hB3,hC13,hC14,hA,hB⟩;refine Qf (zA ?_);refine zA (zN (Qp ?_));refine zU [(2,_),(3,_),(14,_)] (fun T L0 mz E I' loc'=>∃ (i k:Nat) (m:List ((Int×Int)×Int)) (pre:List (Int×Int)) (v5:Value) (q:Nat) (L:Go.Kn.Loc),mz=xs.length-i+(ys.length-k)/\E=(5,v5)::(15,.int .i64 i)::(16,.int .i64 k)::T/\HLe I6 I'/\L++[(r_53,Z7 Vg zeH m)]=loc'/\i<=xs.length/\k<=ys.length/\MOK xs ys m/\PaQ xs ys pre i k/\OwnS 82 2 v5 q (pre.flatMap zdJ) L/\q<=i+k) ?_ (h:=⟨0,0,[],[],_,0,[],U,U,zGN _,U,jf _,jf _,.nil,.start,OwnS.nil,js _⟩);rintro mz E J7 loc' ⟨i,k,m,pre,v5,q,L,rfl,rfl,hJ,rfl,hi,hk,hm,hpq,hO,hq⟩;have hB2:=hB2.mono hJ;have hB3:=hB3.mono hJ;have hLE:=hLE.mono hJ;have hIc:=hIc.trans hJ;have hB4:=hJ;refine Ql (zR (zM ?_));refine zV (Qd U QK (fun hg=>by exact hB2.any)) ?_;refine zQ Qx ?_;refine zC ?_;refine zM ?_;refine Q8 4 U U U ?_;refine zJ (Qj U) ?_;refine zJ (Qd U QK (fun hg=>by exact hB3.any)) ?_;refine zJ (ZX U Qx) ?_;refine zJ (QI U U U) ?_;refine ZO U U U U U ?_;refine zN ?_;refine zI ?_ ?_<;>intro hc64
 ·have hor:i<xs.length\/k<ys.length:=(by have h:=hc64;simp at h;omega);refine Qo (Qa (Qp (zR ?_)));refine zV (Qd U UY (fun hg=>by exact hLE.se.any)) ?_;refine zM ?_;refine zM ?_;refine Z1 (cap:=[QZ b_2,QZ b_3,QZ b_13,QZ b_14]) (vs:=[_,_]) U U zaz (by repeat (first | exact .cons .here .nil | exact QT | exact QO | apply Zi | apply Zd)) (zgQ hLE kB kB (xs.length+ys.length) i k m kB hi hk hm) U U ?_;rintro vv8 I8 L8 hI8 ⟨VV,hLV,rfl,rfl,m1,hm1,rfl⟩;have hB2:=hB2.mono hI8;have hB3:=hB3.mono hI8;have hLE:=hLE.mono hI8;have hLE:=hLE.mono hI8;have hB4:=hB4.trans hI8;have hbV:=hLV.inn;refine zA (zN (Qp (Ql ?_)));obtain ⟨hd1,hd2,h5,h6⟩ | ⟨hd1,hd2,h5,h6⟩ | ⟨hd1,hd2,h5,h6⟩:=zqG hor
  ·obtain ⟨x,hx⟩:=hLE.hA.at h5;obtain ⟨y,hy⟩:=hLE.hB.at h6;have hbn:=zgA x y;have hD:=zGN I8;refine YZ ?_;refine ZA I8 [] mixed ?_;refine zT 0 U (Qj U) hD ?_;refine zT 1 U (Qd U QK (fun hg=>by exact hB2.any)) hD ?_;refine zT 2 U (ZX U Qx) hD ?_;refine zT 3 U (QI U U U) hD ?_;rw [hd1];refine zT 4 U (Qj U) hD ?_;refine zw 5 81 U (Qj U) hD ?_;refine zw 6 81 U (Qd U QK (fun hg=>by exact hB3.any)) hD ?_;refine zw 7 81 U (ZX U Qx) hD ?_;refine zw 8 81 U (QI U U U) hD ?_;rw [hd2];refine zT 9 U (ZN U U U) hD ?_;refine zT 10 U (Qj U) hD ?_;refine zw 11 87 U (Qj U) hD ?_;refine zw 12 87 U (Qd U QK (fun hg=>by exact hB2.any)) hD ?_;refine zw 13 87 U (Qj U) hD ?_;refine zw 14 87 U (Qy U U Qx hLE.hA (fun hg=>kB)) hD ?_;refine zw 15 87 U (Qd U Qq (fun hg=>by exact zGG hLE.hA hx U)) hD ?_;refine zw 16 87 U (Qd U QK (fun hg=>by exact hB3.any)) hD ?_;refine zw 17 87 U (Qj U) hD ?_;refine zw 18 87 U (Qy U U Qx hLE.hB (fun hg=>kB)) hD ?_;refine zw 19 87 U (Qd U Qq (fun hg=>by exact zGG hLE.hB hy U)) hD ?_;refine zw 21 87 U (Qd U UY (fun hg=>by exact hLE.se.any)) hD ?_;refine zw 22 87 U (Qj U) hD ?_;refine zw 23 87 U (ZL U U U (fun hg=>kB)) hD ?_;refine zw 24 87 U (Qj U) hD ?_;refine zw 25 87 U (ZL U U U (fun hg=>kB)) hD ?_;refine qd 20 U ?_;refine QJ (dj:=87) U U U ?_;refine qcV (vs:=[_,_]) U ztM (zhL _ _ _) ?_;refine Qb ?_;refine zD hD ?_;refine qd 26 U ?_;refine QJ (dj:=87) U U U ?_;refine Z1 (cap:=[QZ b_2,QZ b_3,QZ b_13,QZ b_14]) (vs:=[_,_]) U U zaz (by repeat (first | exact .cons .here .nil | exact QT | exact QO | apply Zi | apply Zd)) (zzZ hLE kB kB i k m1 kB hm1) U U ?_;rintro vv9 I9 L9 hI9 ⟨VA,hLA,rfl,rfl,m2,hm2,rfl⟩;have hB2:=hB2.mono hI9;have hLE:=hLE.mono hI9;have hLE:=hLE.mono hI9;have hB4:=hB4.trans hI9;have hD:=hD.trans hI9;have hbA:=hLA.inn;refine Qb ?_;refine zD hD ?_;refine zw 27 87 U (ZL U U U (fun hg=>kB)) hD ?_;refine zw 28 87 U (QI U U U) hD ?_;refine zT 29 U (ZN U U U) hD ?_;refine zT 30 U (QU U) hD ?_;refine Qz kA ?_;refine QD ?_;refine Qa ?_;refine zI ?_ ?_<;>intro hc76
   ·have hbo:=zhB (t:=true) hx hy hLV hLA (by simpa using hc76);refine zR (zM ?_);refine zB ?_;refine zM ?_;refine zB ?_;refine zA ?_;refine zA (zN (Qf ?_));refine zM ?_;refine zM ?_;refine zM ?_;refine zV (ZT (ps:=[(0,_),(1,_)]) [_,_] VM WY U U) ?_;refine zpb [(0,_)] [zdJ ((i:Int)+1,(k:Int)+1)] Wz (fun b_115=>?_);refine zpa (_) ([((i:Int)+1,(k:Int)+1)].flatMap zdJ) (L) U U Wz hO ⟨U,fun _=>U,by repeat (first | exact zGL | apply zGK | apply zGM)⟩ (znZ [((i:Int)+1,(k:Int)+1)]) ?_;intro v9 L9 hO9 _;rw [<-jo] at hO9;refine zA (Qb (Qg (Qg ?_)));exact zm (h:=⟨xs.length-(i+1)+(ys.length-(k+1)),kB,i+1,k+1,_,_,_,_,_,U,U,hB4,U,kB,kB,hm2,hpq.both hbo,hO9,kB⟩)
   have hbo:=zhB (t:=false) hx hy hLV hLA (by simpa using hc76);refine zR (zM ?_);refine zV (Qd U QK (fun hg=>by exact hB2.any)) ?_;refine zQ Qx ?_;refine zC ?_;rw [hd1];refine zM ?_;refine QJ (dj:=122) U U U ?_;refine zM ?_;refine QJ (dj:=122) U U U ?_;refine zV (Qd U UY (fun hg=>by exact hLE.se.any)) ?_;refine QJ (dj:=122) U U U ?_;refine zM ?_;refine QJ (dj:=122) U U U ?_;refine zB ?_;refine QJ (dj:=122) U U U ?_;refine zM ?_;refine QJ (dj:=122) U U U ?_;refine Z1 (cap:=[QZ b_2,QZ b_3,QZ b_13,QZ b_14]) (vs:=[_,_]) U U zaz (by repeat (first | exact .cons .here .nil | exact QT | exact QO | apply Zi | apply Zd)) (zsz hLE kB kB i k m2 kB hm2) U U ?_;rintro vv10 I10 L10 hI10 ⟨VB,hLB,rfl,rfl,m3,hm3,rfl⟩;have hB4:=hB4.trans hI10;have hbB:=hLB.inn;refine QJ (dj:=122) U U U ?_;refine zB ?_;refine QJ (dj:=122) U U U ?_;refine zC ?_;refine zV (ZN U U U) ?_;refine zA (zN ?_);refine zI ?_ ?_<;>intro hc117
   ·have hon:=zcW (t:=true) h5 hLV hLB (by simpa using hc117);refine zR (zM ?_);refine zB ?_;refine zA (zN (Qf ?_));refine zM ?_;refine zM ?_;refine zV (ZT (ps:=[(0,_),(1,_)]) [_,_] VM WY U U) ?_;refine zpb [(0,_)] [zdJ ((i:Int)+1,(0:Int))] Wz (fun b_137=>?_);refine zpa (_) ([((i:Int)+1,(0:Int))].flatMap zdJ) (L) U U Wz hO ⟨U,fun _=>U,by repeat (first | exact zGL | apply zGK | apply zGM)⟩ (znZ [((i:Int)+1,(0:Int))]) ?_;intro v9 L9 hO9 _;rw [<-jo] at hO9;refine zA (Qb (Qg (Qg ?_)));exact zm (h:=⟨xs.length-(i+1)+(ys.length-(k)),kB,i+1,k,_,_,_,_,_,U,U,hB4,U,kB,kB,hm3,hpq.one hbo hon,hO9,kB⟩)
   have hon:=zcW (t:=false) h5 hLV hLB (by simpa using hc117);refine zR (zM ?_);refine zB ?_;refine zA (zN (Qf ?_));refine zM ?_;refine zM ?_;refine zV (ZT (ps:=[(0,_),(1,_)]) [_,_] VM WY U U) ?_;refine zpb [(0,_)] [zdJ ((0:Int),(k:Int)+1)] Wz (fun b_74=>?_);refine zpa (_) ([((0:Int),(k:Int)+1)].flatMap zdJ) (L) U U Wz hO ⟨U,fun _=>U,by repeat (first | exact zGL | apply zGK | apply zGM)⟩ (znZ [((0:Int),(k:Int)+1)]) ?_;intro v9 L9 hO9 _;rw [<-jo] at hO9;refine zA (Qb (Qg (Qg ?_)));exact zm (h:=⟨xs.length-(i)+(ys.length-(k+1)),kB,i,k+1,_,_,_,_,_,U,U,hB4,U,kB,kB,hm3,hpq.two h6 hbo hon,hO9,kB⟩)
  ·have hD:=zGN I8;refine YZ ?_;refine ZA I8 [] mixed ?_;refine zT 0 U (Qj U) hD ?_;refine zT 1 U (Qd U QK (fun hg=>by exact hB2.any)) hD ?_;refine zT 2 U (ZX U Qx) hD ?_;refine zT 3 U (QI U U U) hD ?_;rw [hd1];refine zT 4 U (Qj U) hD ?_;refine zw 5 81 U (Qj U) hD ?_;refine zw 6 81 U (Qd U QK (fun hg=>by exact hB3.any)) hD ?_;refine zw 7 81 U (ZX U Qx) hD ?_;refine zw 8 81 U (QI U U U) hD ?_;rw [hd2];refine zT 9 U (ZN U U U) hD ?_;refine zT 10 U (Qj U) hD ?_;refine zW 11 87 hD ?_;refine zW 12 87 hD ?_;refine zW 13 87 hD ?_;refine zW 14 87 hD ?_;refine zW 15 87 hD ?_;refine zW 16 87 hD ?_;refine zW 17 87 hD ?_;refine zW 18 87 hD ?_;refine zW 19 87 hD ?_;refine zW 20 87 hD ?_;refine zW 21 87 hD ?_;refine zW 22 87 hD ?_;refine zW 23 87 hD ?_;refine zW 24 87 hD ?_;refine zW 25 87 hD ?_;refine zW 26 87 hD ?_;refine zW 27 87 hD ?_;refine zW 28 87 hD ?_;refine zT 29 U (Vs U U U) hD ?_;refine zT 30 U (QU U) hD ?_;refine Qz kA ?_;refine QD ?_;refine Qa ?_;refine zI ?_ ?_<;>intro hc76
   ·cases hc76
   have hbo:=zij (a:=xs) (b:=ys) (i:=i) (k:=k) (.inr h6);refine zR (zM ?_);refine zV (Qd U QK (fun hg=>by exact hB2.any)) ?_;refine zQ Qx ?_;refine zC ?_;rw [hd1];refine zM ?_;refine QJ (dj:=122) U U U ?_;refine zM ?_;refine QJ (dj:=122) U U U ?_;refine zV (Qd U UY (fun hg=>by exact hLE.se.any)) ?_;refine QJ (dj:=122) U U U ?_;refine zM ?_;refine QJ (dj:=122) U U U ?_;refine zB ?_;refine QJ (dj:=122) U U U ?_;refine zM ?_;refine QJ (dj:=122) U U U ?_;refine Z1 (cap:=[QZ b_2,QZ b_3,QZ b_13,QZ b_14]) (vs:=[_,_]) U U zaz (by repeat (first | exact .cons .here .nil | exact QT | exact QO | apply Zi | apply Zd)) (zsz hLE kB kB i k m1 kB hm1) U U ?_;rintro vv11 I11 L11 hI11 ⟨VB,hLB,rfl,rfl,m3,hm3,rfl⟩;have hB4:=hB4.trans hI11;have hbB:=hLB.inn;refine QJ (dj:=122) U U U ?_;refine zB ?_;refine QJ (dj:=122) U U U ?_;refine zC ?_;refine zV (ZN U U U) ?_;refine zA (zN ?_);refine zI ?_ ?_<;>intro hc117
   ·have hon:=zcW (t:=true) h5 hLV hLB (by simpa using hc117);refine zR (zM ?_);refine zB ?_;refine zA (zN (Qf ?_));refine zM ?_;refine zM ?_;refine zV (ZT (ps:=[(0,_),(1,_)]) [_,_] VM WY U U) ?_;refine zpb [(0,_)] [zdJ ((i:Int)+1,(0:Int))] Wz (fun b_137=>?_);refine zpa (_) ([((i:Int)+1,(0:Int))].flatMap zdJ) (L) U U Wz hO ⟨U,fun _=>U,by repeat (first | exact zGL | apply zGK | apply zGM)⟩ (znZ [((i:Int)+1,(0:Int))]) ?_;intro v9 L9 hO9 _;rw [<-jo] at hO9;refine zA (Qb (Qg (Qg ?_)));exact zm (h:=⟨xs.length-(i+1)+(ys.length-(k)),kB,i+1,k,_,_,_,_,_,U,U,hB4,U,kB,kB,hm3,hpq.one hbo hon,hO9,kB⟩)
   have hon:=zcW (t:=false) h5 hLV hLB (by simpa using hc117);exact absurd (zjv hi hk (.inl h5) hbo hon) kB
  have hD:=zGN I8;refine YZ ?_;refine ZA I8 [] mixed ?_;refine zT 0 U (Qj U) hD ?_;refine zT 1 U (Qd U QK (fun hg=>by exact hB2.any)) hD ?_;refine zT 2 U (ZX U Qx) hD ?_;refine zT 3 U (QI U U U) hD ?_;rw [hd1];refine zT 4 U (Qj U) hD ?_;refine zW 5 81 hD ?_;refine zW 6 81 hD ?_;refine zW 7 81 hD ?_;refine zW 8 81 hD ?_;refine zT 9 U (Vs U U U) hD ?_;refine zT 10 U (Qj U) hD ?_;refine zW 11 87 hD ?_;refine zW 12 87 hD ?_;refine zW 13 87 hD ?_;refine zW 14 87 hD ?_;refine zW 15 87 hD ?_;refine zW 16 87 hD ?_;refine zW 17 87 hD ?_;refine zW 18 87 hD ?_;refine zW 19 87 hD ?_;refine zW 20 87 hD ?_;refine zW 21 87 hD ?_;refine zW 22 87 hD ?_;refine zW 23 87 hD ?_;refine zW 24 87 hD ?_;refine zW 25 87 hD ?_;refine zW 26 87 hD ?_;refine zW 27 87 hD ?_;refine zW 28 87 hD ?_;refine zT 29 U (Vs U U U) hD ?_;refine zT 30 U (QU U) hD ?_;refine Qz kA ?_;refine QD ?_;refine Qa ?_;refine zI ?_ ?_<;>intro hc76
  ·cases hc76
  have hbo:=zij (a:=xs) (b:=ys) (i:=i) (k:=k) (.inl h5);refine zR (zM ?_);refine zV (Qd U QK (fun hg=>by exact hB2.any)) ?_;refine zQ Qx ?_;refine zC ?_;rw [hd1];refine zM ?_;refine Q0 (dj:=122) U U U U U ?_;refine Q0 (dj:=122) U U U U U ?_;refine Q0 (dj:=122) U U U U U ?_;refine Q0 (dj:=122) U U U U U ?_;refine Q0 (dj:=122) U U U U U ?_;refine Q0 (dj:=122) U U U U U ?_;refine Q0 (dj:=122) U U U U U ?_;refine Q0 (dj:=122) U U U U U ?_;refine zV (Vs U U U) ?_;refine zA (zN ?_);refine zI ?_ ?_<;>intro hc117
  ·cases hc117
  have hon:=zwq (a:=xs) (b:=ys) (i:=i) (k:=k) h5;refine zR (zM ?_);refine zB ?_;refine zA (zN (Qf ?_));refine zM ?_;refine zM ?_;refine zV (ZT (ps:=[(0,_),(1,_)]) [_,_] VM WY U U) ?_;refine zpb [(0,_)] [zdJ ((0:Int),(k:Int)+1)] Wz (fun b_74=>?_);refine zpa (_) ([((0:Int),(k:Int)+1)].flatMap zdJ) (L) U U Wz hO ⟨U,fun _=>U,by repeat (first | exact zGL | apply zGK | apply zGM)⟩ (znZ [((0:Int),(k:Int)+1)]) ?_;intro v9 L9 hO9 _;rw [<-jo] at hO9;refine zA (Qb (Qg (Qg ?_)));exact zm (h:=⟨xs.length-(i)+(ys.length-(k+1)),kB,i,k+1,_,_,_,_,_,U,U,hB4,U,kB,kB,hm1,hpq.two h6 hbo hon,hO9,kB⟩)
 have hnor:xs.length<=i/\ys.length<=k:=(by have h:=hc64;simp at h;omega);have hfin:zrr xs ys=pre:=hpq.fin hnor.1 hnor.2;have hE0:=znv hlong hno2;have hR0:=(zhy hE0).trans hfin;refine QF (Qh (Qh (Qm (Qa (zR ?_)))));refine zV (Qd U UY (fun hg=>by exact hLE.se.any)) ?_;refine Z1 (cap:=[QZ b_2,QZ b_3,QZ b_13,QZ b_14]) (vs:=[_,_]) U U zaz (by repeat (first | exact .cons .here .nil | exact QT | exact QO | apply Zi | apply Zd)) (zCZ hLE kB kB i k m trivial hm) U U ?_;rintro vv12 I12 L12 hI12 ⟨VZ,hLZ,rfl,rfl,m5,hm5,rfl⟩;have hIc:=hIc.trans hI12;refine zM ?_;refine zA ?_;refine zA ?_;refine zA (zN (Qr ?_))
 first
 | exact KD U U U U (fun w hw=>by obtain ⟨I9,av9,c9,h1',h2',e9,h4'⟩:=OwnS.freeze (R:=[]) hO zoZ kE (by rw [jz];exact hw.subL (by repeat (first | exact .refl | exact QS | exact QS (L:=L) (R:=[]) | refine .drop ?_)));have hq9:=h4'.len;subst hq9;exact ⟨_,I9,[],U,hIc.trans h1',h2',U,_,av9,c9,by rw [hE0,hR0,e9],by rw [hR0];exact h4'⟩)
def KT (a:Int):List (Int×Int)->List (Int×Int)
 | []=>[]
 | p::ps=>if p.1>0 then KT p.1 ps else (a,p.2-1)::KT a ps
def zjJ (ps:List (Int×Int)):List (Int×Int):=KT 0 ps
variable{ps:List (Int×Int)}{p:Int×Int}
theorem zuu {a:Int}(hp:ps[k]? =some p)(h:decide (p.1>0)=true):KT a (ps.drop k)=KT p.1 (ps.drop (k+1)):=by rw [Zz hp];show (if p.1>0 then KT p.1 (ps.drop (k+1)) else (a,p.2-1)::KT a (ps.drop (k+1)))=_;rw [jb (by simpa using h)]
theorem zsV {a:Int}(hp:ps[k]? =some p)(h:decide (p.1>0)=false):KT a (ps.drop k)=(a,p.2-1)::KT a (ps.drop (k+1)):=by rw [Zz hp];show (if p.1>0 then KT p.1 (ps.drop (k+1)) else (a,p.2-1)::KT a (ps.drop (k+1)))=_;rw [ja (by simpa using h)]
theorem zt7 {a:Int}(h:zjJ ps=pre++KT a (ps.drop k))(hk:ps.length<=k):zjJ ps=pre:=by rw [h,Oa hk];simp [KT]
theorem zwI {a:Int}(h:zjJ ps=pre++KT a (ps.drop k))(hp:ps[k]? =some p)(hn:decide (p.1>0)=false):pre++[(a,p.2-1)]<+:zjJ ps:=by rw [h,zsV hp hn];exact ⟨KT a (ps.drop (k+1)),by simp⟩
def zE5 (q:Int×Int):Value:=.int .i64 q.1
def zFf (q:Int×Int):Value:=.int .i64 q.2
end
end Go.Proofs.YtmbjmjbjdgjonaaGreatDoor
section
namespace Go.Kn
open Go
def zwz {α:Type}(P:Program)(f:FuncId)(cap:List Value)(I:Qt)(K:Loc)(en1 en2:α->Value)(xs:List α):Prop:=
 ∀ g l (J Jx:List α->Qt->Qt->Prop),
  (∀ pre x I' H',pre++[x]<+:xs->HLe I I'->J pre I' H'->WQ P g l [en1 x,en2 x] I' H' fun b I2 H2=>if b then J (pre++[x]) I2 H2 else Jx (pre++[x]) I2 H2)->
  ∀ I0 H w,HLe I I0->J [] I0 H->St g I0 H K w->Calls P f ((.func (.yield l) #[] #[]:Value)::cap).toArray w fun e w'=>∃ v I' H',e= .returned v/\HLe I0 I'/\St g I' H' [] w'/\(J xs I' H'\/∃ pre,pre<+:xs/\Jx pre I' H')
section
variable {α:Type} {C:Cx} {Q:Exit->Act->World->Prop} {E E':Env} {I I':Qt} {loc loc' L R:Loc} {ops:Array Oper} {rest:List Oper} {S:GS}
variable {Jc:List α->Qt->Loc->Prop} {Jx:Code->List α->Qt->Loc->Prop} {pre:List α}
theorem zd3 {P:Program}{N:Nat}{D:List Deferred}{K:Loc}{g:World}{H:Qt}{gop:Operand}{p q:Nat}{assign body:Code}{f:FuncId}{cap:List Value}{en1 en2:α->Value}{xs:List α}
  (Jc:List α->Qt->Loc->Prop)(Jx:Code->List α->Qt->Loc->Prop)(Ja:List α->α->Env->Qt->Loc->Prop)
  (hg:Qv [] E gop=some (.func (.func f) #[] cap.toArray))(hF:Fun P f)(hseq:zwz P f cap I K en1 en2 xs)(hp:Nat.blt p N=true)(hq9:Nat.blt q N=true)(h0:Jc [] I loc)
  (hass:∀ l pre x I' loc' H1,pre++[x]<+:xs->HLe I I'->Jc pre I' loc'->X ⟨P,some l,N,[],g,H1⟩ (Exit.then (Met ⟨P,some l,N,[],g,H1⟩ fun E2 I2 loc2=>HLe I' I2/\Ja pre x E2 I2 loc2) (fun _ _ _=>False)) assign ((q,en2 x)::(p,en1 x)::E) I' loc')
  (hbody:∀ l pre x E2 I2 loc2 H2,pre++[x]<+:xs->HLe I I2->Ja pre x E2 I2 loc2->X ⟨P,some l,N,[],g,H2⟩ (zb9 g H2 (fun q0 I3 loc3=>HLe I2 I3/\Jc q0 I3 loc3) (fun c q0 I3 loc3=>HLe I2 I3/\Jx c q0 I3 loc3) (pre++[x])) body E2 I2 loc2)
  (hdone:∀ bd I' loc',HLe I I'->Jc xs I' loc'->At ⟨P,none,N,{target:=.collected bd,args:= #[]}::D,g,H⟩ Q .normal E I' (loc'++[(bd,.deferred (some []))]))
  (hstop:∀ c bd pre I' loc',HLe I I'->pre<+:xs->Jx c pre I' loc'->X ⟨P,none,N,{target:=.collected bd,args:= #[]}::D,g,H⟩ Q c E I' (loc'++[(bd,.deferred (some []))])):
  X ⟨P,none,N,D,g,H⟩ Q (.rangeFunc gop #[p,q] assign body) E I (K++loc):=by
 intro a w ha hw;refine BM fun fn _=>?_;have hen:=BK (P:=P) (w:=w) fn a.tmps #[p,q] assign body;generalize hbd:w.heap.size=bd at hen;let rec_:LoopState->Option Code->Obj:=fun st pd=>.loop {state:=st,pending:=pd,fn,tmps:=a.tmps,params:= #[p,q],assign,body,defers:=bd}
 have hw1:St g I H ((bd+1,rec_ .ready none)::(bd,.deferred (some []))::(K++loc)) ((w.alloc (.deferred (some []))).alloc (rec_ .ready none)):=by
  have h1:=hw.alloc (.deferred (some []));have h2:=h1.alloc (rec_ .ready none);rw [B5,hbd] at h2;exact h2
 have hev:=Qi (S:=[]) ha trivial rfl hg;refine ⟨bd+1,[{target:=.collected bd,args:= #[]}],_,{target:=.fn (.func f) cap.toArray,args:= #[.func (.yield (bd+1)) #[] #[]]},(w.alloc (.deferred (some []))).alloc (rec_ .ready none),f,((.func (.yield (bd+1)) #[] #[]:Value)::cap).toArray,(w.alloc (.deferred (some []))).alloc (rec_ .ready none),hen,?_,fun _ _=>trivial,?_,by simp [FR],U6.2 ?_⟩
 ·have e2:a.eval (.const (.func (.yield (bd+1)) #[] #[]))= .func (.yield (bd+1)) #[] #[]:=rfl;simp only [resolve,j6,jx,Oo,e2,hev,Deferred.ofValue];rfl
 ·simp only [invoke,YF hF];simp
 let Lr:LoopState->Option Code->Loc->Loc:=fun st pd l'=>l'++[(bd+1,rec_ st pd),(bd,.deferred (some []))];have okL:∀ {I' H1 l' W st pd},St g I' H1 (Lr st pd l') W->((Lr st pd l').map (·.1)).Nodup:=fun h=>h.nodup;let J:List α->Qt->Qt->Prop:=fun pre I' H'=>∃ l',Jc pre I' l'/\HLe I I'/\H'=Vz H (Lr .ready none l')/\((Lr .ready none l').map (·.1)).Nodup/\∀ b o,(b,o)∈Lr .ready none l'->H b=none;let Jy:List α->Qt->Qt->Prop:=fun pre I' H'=>∃ c l',Jx c pre I' l'/\HLe I I'/\H'=Vz H (Lr .done (some c) l')/\((Lr .done (some c) l').map (·.1)).Nodup/\∀ b o,(b,o)∈Lr .done (some c) l'->H b=none
 have hw2:St g I H (K++Lr .ready none loc) ((w.alloc (.deferred (some []))).alloc (rec_ .ready none)):=by
  have hp:(K++Lr .ready none loc).Perm ((bd+1,rec_ .ready none)::(bd,.deferred (some []))::(K++loc)):=by
   show (K++(loc++[(bd+1,rec_ .ready none),(bd,.deferred (some []))])).Perm _;rw [<-jn];exact OP
  exact hw1.perm (fun q=>hp.mem_iff) ((hp.map (·.1)).nodup_iff.2 hw1.nodup)
 have hw2r:=hw2.rest QO;have hJ0:J [] I (Vz H (Lr .ready none loc)):=⟨loc,h0,zGN I,U,hw2r.nodup,fun b o hm=>(hw2r.sepIL b o hm).2⟩;refine (hseq g (bd+1) J Jy ?_ I _ _ (zGN I) hJ0 hw2.hideR).mono ?_
 ·intro pre x I' H' hpre hI ⟨l',hJc,_,hH,hnd,hdj⟩ lit W hW;subst hH;have hS1:=hW.swap hnd hdj;have hrec:W.heap[bd+1]? =some (rec_ .ready none):=hS1.own _ _ (by simp [Lr]);refine ⟨fn,_,assign,body,run_yield (P:=P) hrec kK,?_⟩
  have hfit:Kf N [] ((q,en2 x)::(p,en1 x)::E) {tmps:=(a.tmps.setIfInBounds p (en1 x)).setIfInBounds q (en2 x),defers:=[]}:=by
   have h1:=(ha.put hp (en1 x)).put hq9 (en2 x);exact ⟨h1.size,U,h1.env⟩
  have hdjK:∀ b o,(b,o)∈lit->H b=none:=fun b o hm=>(J0 (hW.sepIL b o hm).2).1;refine roundIn_of_wpIn (F:=Fence.wide) trivial ?_;have htm:((#[p,q]:Array Tmp).zip #[en1 x,en2 x]).foldl (fun tmps (t,v)=>tmps.setIfInBounds t v) a.tmps=(a.tmps.setIfInBounds p (en1 x)).setIfInBounds q (en2 x):=(by simp);show Code.wpIn _ _ _ _ _ {tmps:=((#[p,q]:Array Tmp).zip #[en1 x,en2 x]).foldl (fun tmps (t,v)=>tmps.setIfInBounds t v) a.tmps,defers:=[]} _;rw [htm];have hA:=hass (bd+1) pre x I' l' (Vz (Vz H lit) [(bd+1,rec_ .ready none),(bd,.deferred (some []))]) hpre hI hJc _ W hfit hS1.hideR;refine Aj (F:=Fence.wide.inRound (bd+1)) (n:=0) (P:=P) (show assign.wpIn (Fence.wide.inRound (bd+1)) 0 P _ _ _ from hA) ?_;intro e a1 W1 hq
  cases e with
  | normal=>
   obtain ⟨E2,I2,loc2,⟨hI2,hJa⟩,hf2,hs2⟩:=hq;have hs3:St g I2 (Vz H lit) (loc2++[(bd+1,rec_ .ready none),(bd,.deferred (some []))]) W1:=St.unhide (hS1.rest QO) hs2;have hrec1:W1.heap[bd+1]? =some (rec_ .ready none):=hs3.own _ _ kK;have hs4:=hs3.putObj (o':=rec_ .busy none) (b:=bd+1) (QH .here);refine ⟨_,run_beginRound (P:=P) hrec1 U,?_⟩;have hB:=hbody (bd+1) pre x E2 I2 loc2 (Vz (Vz H lit) [(bd+1,rec_ .busy none),(bd,.deferred (some []))]) hpre (hI.trans hI2) hJa a1 _ hf2 hs4.hideR;refine Aj (F:=Fence.wide.inRound (bd+1)) (n:=0) (P:=P) (show body.wpIn (Fence.wide.inRound (bd+1)) 0 P _ _ _ from hB) ?_
   have fin:∀ (W3:World) (I3:Qt) (loc3:Loc) (jump:Option Code) (st:LoopState),St g I3 (Vz (Vz H lit) [(bd+1,rec_ .busy none),(bd,.deferred (some []))]) loc3 W3->
     (st=if jump.isNone then .ready else .done)->
     ∃ W4,(Instr.endRound (bd+1) jump).run P W3= .ok (.bool jump.isNone) W4/\St g I3 (Vz H (Lr st jump loc3)) lit W4/\((Lr st jump loc3).map (·.1)).Nodup/\∀ b o,(b,o)∈Lr st jump loc3->H b=none:=by
    intro W3 I3 loc3 jump st hs hst;have hs5:St g I3 (Vz H lit) (loc3++[(bd+1,rec_ .busy none),(bd,.deferred (some []))]) W3:=St.unhide (hs4.rest QO) hs;have hrec3:W3.heap[bd+1]? =some (rec_ .busy none):=hs5.own _ _ kK;have hs6:=hs5.putObj (o':=rec_ st jump) (b:=bd+1) (QH .here);refine ⟨_,run_endRound (P:=P) jump hrec3,?_,hs6.nodup,fun b o hm=>(J0 (hs6.sepIL b o hm).2).1⟩;rw [<-hst];exact hs6.swap hW.nodup hdjK
   intro e a3 W3 hq
   cases e with
   | normal=>
    obtain ⟨I3,loc3,⟨hI3,hJ3⟩,hs⟩:=hq;obtain ⟨W4,h1,h2,h3,h4⟩:=fin W3 I3 loc3 none .ready hs U;exact ⟨_,W4,h1,true,I3,_,U,hI2.trans hI3,h2,loc3,hJ3,(hI.trans hI2).trans hI3,U,h3,h4⟩
   | ret=>
    obtain ⟨I3,loc3,⟨hI3,hJ3⟩,hs⟩:=hq;obtain ⟨W4,h1,h2,h3,h4⟩:=fin W3 I3 loc3 (some .ret) .done hs U;exact ⟨_,W4,h1,false,I3,_,U,hI2.trans hI3,h2,.ret,loc3,hJ3,(hI.trans hI2).trans hI3,U,h3,h4⟩
   | exit id=>
    obtain ⟨I3,loc3,⟨hI3,hJ3⟩,hs⟩:=hq;obtain ⟨W4,h1,h2,h3,h4⟩:=fin W3 I3 loc3 (some (.exit id)) .done hs U;exact ⟨_,W4,h1,false,I3,_,U,hI2.trans hI3,h2,.exit id,loc3,hJ3,(hI.trans hI2).trans hI3,U,h3,h4⟩
   | goto t=>exact hq.elim
   | panic c=>exact hq.elim
   | outgrown=>exact hq.elim
  | _=>exact hq.elim
 ·rintro e w' ⟨v,I',H',rfl,hI,hs,hJ | ⟨pre,hpre,hJ⟩⟩
  ·obtain ⟨l',hJc,hI1,rfl,hnd,hdj⟩:=hJ;have hs1:=hs.swap hnd hdj;have hrec:w'.heap[bd+1]? =some (rec_ .ready none):=hs1.own _ _ (by simp [Lr]);have hs2:=hs1.putObj (o':=rec_ .exhausted none) (b:=bd+1) (QH .here);refine ⟨none,_,AN (P:=P) hrec kK,?_⟩;refine hdone bd I' l' hI1 hJc _ _ ⟨ha.size,by simp [ha.defers],ha.env⟩ ?_;refine hs2.rest (L:=[(bd+1,rec_ .exhausted none)]) ?_
   have:Yu (l'++[(bd+1,rec_ .exhausted none),(bd,.deferred (some []))]) [(bd+1,rec_ .exhausted none)] (l'++[(bd,.deferred (some []))]):=by
    refine .cons ?_ .nil;clear hdj hnd hs2 hs1 hs hJc hrec
    induction l' with
    | nil=>exact .here
    | cons q l ih=>exact .there ih
   exact this
  ·obtain ⟨c,l',hJc,hI1,rfl,hnd,hdj⟩:=hJ;have hs1:=hs.swap hnd hdj;have hrec:w'.heap[bd+1]? =some (rec_ .done (some c)):=hs1.own _ _ (by simp [Lr]);have hs2:=hs1.putObj (o':=rec_ .exhausted (some c)) (b:=bd+1) (QH .here);refine ⟨some c,_,AN (P:=P) hrec kK,?_⟩;refine hstop c bd pre I' l' hI1 hpre hJc _ _ ⟨ha.size,by simp [ha.defers],ha.env⟩ ?_;refine hs2.rest (L:=[(bd+1,rec_ .exhausted (some c))]) ?_
   have:Yu (l'++[(bd+1,rec_ .exhausted (some c)),(bd,.deferred (some []))]) [(bd+1,rec_ .exhausted (some c))] (l'++[(bd,.deferred (some []))]):=by
    refine .cons ?_ .nil;clear hdj hnd hs2 hs1 hs hJc hrec
    induction l' with
    | nil=>exact .here
    | cons q l ih=>exact .there ih
   exact this
end
section
variable {P:Program} {r:Option Nat} {N:Nat} {g:World} {H:Qt} {Q:Exit->Act->World->Prop} {E E':Env} {I I':Qt} {loc loc' L R:Loc} {ms:List Nat}
theorem XS {α:Type}{gop:Operand}{p q:Nat}{assign body:Code}{f:FuncId}{cap:List Value}{K:Loc}{en1 en2:α->Value}{xs:List α}
  (Jc:List α->Qt->Loc->Prop)(Jx:Code->List α->Qt->Loc->Prop)(Ja:List α->α->Env->Qt->Loc->Prop)
  (hg:Qv [] E gop=some (.func (.func f) #[] cap.toArray))(hF:Fun P f)(hseq:zwz P f cap I K en1 en2 xs)(hp:Nat.blt p N=true)(hq9:Nat.blt q N=true)(h0:Jc [] I L)
  (hass:∀ l pre x I' loc' H1,pre++[x]<+:xs->HLe I I'->Jc pre I' loc'->X ⟨P,some l,N,[],g,H1⟩ (Exit.then (Met ⟨P,some l,N,[],g,H1⟩ fun E2 I2 loc2=>HLe I' I2/\Ja pre x E2 I2 loc2) (fun _ _ _=>False)) assign ((q,en2 x)::(p,en1 x)::E) I' loc')
  (hbody:∀ l pre x E2 I2 loc2 H2,pre++[x]<+:xs->HLe I I2->Ja pre x E2 I2 loc2->X ⟨P,some l,N,[],g,H2⟩ (zb9 g H2 (fun q0 I3 loc3=>HLe I2 I3/\Jc q0 I3 loc3) (fun c q0 I3 loc3=>HLe I2 I3/\Jx c q0 I3 loc3) (pre++[x])) body E2 I2 loc2)
  (hdone:∀ bd I' loc',HLe I I'->Jc xs I' loc'->At ⟨P,none,N,mk (bd::ms),g,H⟩ Q .normal E I' (loc'++MB (bd::ms)))
  (hstop:∀ c bd pre I' loc',HLe I I'->pre<+:xs->Jx c pre I' loc'->X ⟨P,none,N,mk (bd::ms),g,H⟩ Q c E I' (loc'++MB (bd::ms))):
  X ⟨P,none,N,mk ms,g,H⟩ Q (.rangeFunc gop #[p,q] assign body) E I (K++(L++MB ms)):=by
 intro a w ha hw
 have back:∀ {I':Qt} {loc':Loc} {bd:Nat} {w':World},St g I' (Vz H (MB ms)) (loc'++[(bd,.deferred (some []))]) w'->St g I' H (loc'++MB (bd::ms)) w':=fun {I' loc' bd w'} h=>by
  have h1:=St.unhide ((hw.rest QO).rest QO) h;refine h1.perm (fun p=>?_) ?_
  ·simp only [MB,jv];constructor
   ·rintro (h | h | h)
    ·exact .inl (.inl h)
    ·exact .inr h
    ·exact .inl (.inr h)
   ·rintro ((h | h) | h)
    ·exact .inl h
    ·exact .inr (.inr h)
    ·exact .inr (.inl h)
  ·have hn:=h1.nodup
   have hpm:(loc'++MB (bd::ms)).Perm (loc'++[(bd,.deferred (some []))]++MB ms):=by
    rw [jn];exact (List.Perm.refl loc').append OP
   exact (hpm.map (·.1)).nodup_iff.2 hn
 refine zd3 (K:=K) (P:=P) (N:=N) (D:=mk ms) (g:=g) (H:=Vz H (MB ms)) (Q:=Q) Jc Jx Ja hg hF hseq hp hq9 h0 hass hbody ?_ ?_ a w ha (show St g I (Vz H (MB ms)) (K++L) w from (show St g I H ((K++L)++MB ms) w by rw [jn];exact hw).hideR)
 ·intro bd I' loc' hI hJ a' w' ha' hw';exact hdone bd I' loc' hI hJ a' w' ha' (back hw')
 ·intro c bd pre I' loc' hI hpre hJ a' w' ha' hw';exact hstop c bd pre I' loc' hI hpre hJ a' w' ha' (back hw')
end
end Go.Kn
namespace Go.Kn
open Go
section
variable {C:Cx} {Q:Exit->Act->World->Prop} {E E':Env} {I I' I0:Qt} {loc loc' loc0 L R:Loc} {ops:Array Oper} {rest:List Oper} {S:GS}
theorem QL {e:Exit}{b:Nat}{o:Obj}(ht:Zf loc b o loc')(h:∀ I',HLe I I'->I' b=some o->At C Q e E I' loc'):At C Q e E I loc:=fun a w ha hw=>
 let ⟨h1,h2,h3⟩:=hw.freeze ht;h _ h2 h3 a w ha h1
theorem KA {c:Code}(h:loc=loc')(hx:X C Q c E I loc'):X C Q c E I loc:=h ▸ hx
theorem zvO (i j k m:Nat){oi oj ok om:Oper}{fuel:Nat}{listed:Array Bool}(hi:ops[i]? =some oi)(hj:ops[j]? =some oj)(hk:ops[k]? =some ok)(hm:ops[m]? =some om)(hr:Region.ready .any ops listed=[i,j,k,m])
  (h1:XO C (fun e a w=>match e with | .normal=>St C.g I0 C.H loc0 w/\Vj C.r C.P .any ops Q (fun w=>St C.g I0 C.H loc0 w) fuel (listed.setIfInBounds i true) a w | e=>Q e a w) ops [oi] S E I loc)
  (h2:XO C (fun e a w=>match e with | .normal=>St C.g I0 C.H loc0 w/\Vj C.r C.P .any ops Q (fun w=>St C.g I0 C.H loc0 w) fuel (listed.setIfInBounds j true) a w | e=>Q e a w) ops [oj] S E I loc)
  (h3:XO C (fun e a w=>match e with | .normal=>St C.g I0 C.H loc0 w/\Vj C.r C.P .any ops Q (fun w=>St C.g I0 C.H loc0 w) fuel (listed.setIfInBounds k true) a w | e=>Q e a w) ops [ok] S E I loc)
  (h4:XO C (fun e a w=>match e with | .normal=>St C.g I0 C.H loc0 w/\Vj C.r C.P .any ops Q (fun w=>St C.g I0 C.H loc0 w) fuel (listed.setIfInBounds m true) a w | e=>Q e a w) ops [om] S E I loc):XD C Q ops I0 loc0 (fuel+1) listed S E I loc:=by
 intro a w ha hg hw;refine ⟨(fun h0=>by rw [hr] at h0;cases h0),fun q hq=>?_⟩;rw [hr] at hq;rcases jp.1 hq with e | hq
 ·subst e;exact zb1 hi ha hg hw h1
 ·rcases jp.1 hq with e | hq
  ·subst e;exact zb1 hj ha hg hw h2
  ·rcases jp.1 hq with e | hq
   ·subst e;exact zb1 hk ha hg hw h3
   ·obtain rfl:=jA.1 hq;exact zb1 hm ha hg hw h4
end
end Go.Kn
end
namespace Go.Proofs.YtmbjmjbjdgjonaaGreatDoor
section
open Go Go.Kn Go.Proofs
theorem ztj:Fun Tryz.prog 61:=.of Tryz.func61 kA kA
theorem ziU:ScT Tryz.prog 76:=.of kA
theorem ziW:SlT Tryz.prog 76 82 2:=.of kA
theorem zn1:SzT Tryz.prog 82 2:=.of kA
theorem znu (I:Qt)(av:Option Addr)(n c:Nat):ZQ Tryz.prog 22 [.slice av n c] I [] (fun v I' L=>L=[]/\∃ b1,v= .func (.func 61) #[] [QZ b1].toArray/\I' b1=some (.cells #[.slice av n c] 76 (0,0))):=by intro g H w hw;refine qe Tryz.func22 Tryz.ntmps22 hw ?_;have hIc:=zGN I;refine zR ?_;refine QG U U U (fun b_1=>?_);refine zA (zN (Ql ?_));refine QQ .here (fun I1 hI1 hb1=>?_);have hIc:=hIc.trans hI1;have h1:=hb1;refine Qf ?_;refine zV (QN (us:=[]) (vs:=[_]) U U) ?_;refine zA (zN (Qr ?_));exact QR U U (fun w hw=>⟨_,I1,[],U,hIc,hw.drop,U,b_1,U,h1⟩)
variable{I:Qt}{av:Option Addr}{n c b1:Nat}{ps:List (Int×Int)}
theorem zni (hS:Sl I 2 zdJ av n c ps)(hn9:n<=1000000)(hps:∀ p∈ps, -1000000<=p.2/\p.2<=1000000)(h1:I b1=some (.cells #[.slice av n c] 76 (0,0))):zwz Tryz.prog 61 [QZ b1] I [] zE5 zFf (zjJ ps):=by
 intro g y J Jx hY I0 H w h0 hJ hw;have hS:=hS.mono h0;have h1:=h0 _ _ h1;refine qe Tryz.func61 Tryz.ntmps61 hw ?_;have hSl:=hS.len;subst hSl;refine zR (zA ?_);refine zN (zR ?_);refine zV (Qd U ziU (fun hg=>by exact QB.imm h1 U)) ?_;refine zQ ziW ?_;refine zM (zN (Qp ?_));refine zdg (fun m E I' H' loc'=>∃ (k:Nat) (a:Int) (pre:List (Int×Int)),m=ps.length-k/\E=[(0,.func (.yield y) #[] #[]),(1,QZ b1),(3,.int .i64 a),(6,.slice av ps.length c),(7,.int .i64 ps.length),(8,.int .i64 k)]/\loc'=[]/\HLe I0 I'/\k<=ps.length/\J pre I' H'/\zjJ ps=pre++KT a (ps.drop k)) _ _ _ ⟨0,0,[],U,U,U,zGN _,jf _,hJ,U⟩ (.cons U (.cons U (.cons U (.cons U (.cons U (.cons U .nil)))))) U ?_;rintro m E I' H' loc' ⟨k,a,pre,rfl,rfl,rfl,hI1,hk,hJk,hal⟩;have hS:=hS.mono hI1;have h1:=hI1 _ _ h1;have hI0:=h0.trans hI1;refine zR (zC (zN (Ql ?_)));refine zI ?_ ?_<;>intro hc9
 ·have hlt:k<ps.length:=(by have h:=hc9;simp at h;omega);obtain ⟨p,hp⟩:=hS.at hlt;refine Qo (Qa (Ql (Qp (zR ?_))));refine zV (zX ziW hS) ?_;refine zV (Qk U zhG (fun hg=>by exact zGO hS hp) U) ?_;refine Qs WY U U (fun b_5=>?_);refine zh zn1 ?_;refine zN (zR ?_);refine zV (Zx U U VM (fun hg=>by decide)) ?_;refine zL Qq ?_;refine zC (zN ?_);refine zI ?_ ?_<;>intro hc14
  ·refine Qf ?_;refine zV (Zx U U VM (fun hg=>by decide)) ?_;refine zL Qq ?_;refine zA (Qb (Qg (Qa (Qf ?_))));refine zB ?_;refine zM (Qb ?_);exact Wh U U U _ [] ⟨ps.length-(k+1),kB,k+1,p.1,pre,U,U,U,hI1,kB,hJk,by rw [hal,zuu hp hc14]⟩ (.cons U (.cons U (.cons U (.cons U (.cons U (.cons U .nil)))))) (.drop .refl)
  have hpre2:=zwI hal hp hc14;refine zR (zM ?_);refine zM ?_;refine zV (Zx U U VM (fun hg=>by decide)) ?_;refine zL Qq ?_;refine zV (ZL U U U (fun _=>by (have hp9:=hps p (jd hp);omega))) ?_;refine JA (vs:=[_,_]) (Post:=fun b I2 H2=>if b then J (pre++[(a,p.2-1)]) I2 H2 else Jx (pre++[(a,p.2-1)]) I2 H2) U U U U (hY pre (a,p.2-1) _ _ hpre2 hI0 hJk) ?_;rintro t I2 H2 hI2 hP2;refine zO (zN ?_);refine zI ?_ ?_<;>intro hc23
  ·have ht:t=false:=(by simpa using hc23);subst ht;have hJ2:Jx (pre++[(a,p.2-1)]) I2 H2:=hP2;refine Qr (Qn (Qc (Qc (Qn ?_))));exact Ys U (fun w hw=>⟨_,I2,H2,U,hI1.trans hI2,hw.drop,.inr ⟨_,hpre2,hJ2⟩⟩)
  have ht:t=true:=(by simpa using hc23);subst ht;have hJ2:J (pre++[(a,p.2-1)]) I2 H2:=hP2;refine Qo (Qg (Qa (Qf (zB ?_))));refine zM (Qb ?_)
  first
  | exact Wh U U U _ [] ⟨ps.length-(k+1),kB,k+1,a,pre++[(a,p.2-1)],U,U,U,hI1.trans hI2,kB,hJ2,by rw [hal,zsV hp hc14,jn];rfl⟩ (.cons U (.cons U (.cons U (.cons U (.cons U (.cons U .nil)))))) (.drop .refl)
 have hge:ps.length<=k:=(by have h:=hc9;simp at h;omega);refine QF (Qh (Qh (Qm ?_)))
 first
 | exact YV (Ys U (fun w hw=>⟨_,I',H',U,hI1,hw,.inl (by rw [zt7 hal hge];exact hJk)⟩))
def Vx (n:Nat)(f:Nat->Int):List Int:=(List.range n).map f
def UW {β:Type}(f:Nat->β)(a:Nat)(v:β):Nat->β:=fun j=>if j=a then v else f j
def Y7 (f:Nat->Nat):Nat->Int:=fun j=>((f j:Nat):Int)
variable{f:Nat->Int}
theorem Yr :(Vx n f).length=n:=by unfold Vx;simp
variable{a:Nat}
theorem Va (h:a<n):(Vx n f)[a]? =some (f a):=by unfold Vx;simp [h]
variable{β:Type}{v:β}
theorem Jt {f:Nat->β}:UW f a v a=v:=jb U
theorem Kb {f:Nat->β}{j:Nat}(h:j≠a):UW f a v j=f j:=ja h
theorem Kv {v:Int}:(Vx n f).set a v=Vx n (UW f a v):=by
 apply Ai;intro j;rw [List.getElem?_set];by_cases hj:j<n
 ·rw [Va hj,Va hj,Yr];by_cases h:a=j
  ·subst h;rw [Jt];simp [hj]
  ·rw [ja h,Kb (By h)]
 ·rw [Oy (l:=Vx n (UW f a v)) kO,Yr];by_cases h:a=j
  ·subst h;simp [hj]
  ·rw [ja h,Oy kO]
theorem Zj :List.replicate n (0:Int)=Vx n (fun _=>0):=by apply Ai;intro j;unfold Vx;by_cases h:j<n<;>simp [h]
theorem zbC {f:Nat->Nat}{v:Nat}:UW (Y7 f) a (v:Int)=Y7 (UW f a v):=by
 funext j;by_cases h:j=a
 ·subst h;rw [Jt];unfold Y7;rw [Jt]
 ·rw [Kb h];unfold Y7;rw [Kb h]
theorem Xp:(fun _=>0:Nat->Int)=Y7 (fun _=>0):=by funext j;rfl
variable{b:Nat}
theorem zpY :zui (a:Int) (b:Int)=((max a b:Nat):Int):=by unfold zui;split<;>omega
def cnt (pre:List (Int×Int)):Nat->Nat:=pre.foldl (fun c q=>UW c q.1.toNat (c q.1.toNat+1)) (fun _=>0)
variable{pre:List (Int×Int)}{q:Int×Int}
theorem Wm :cnt (pre++[q])=UW (cnt pre) q.1.toNat (cnt pre q.1.toNat+1):=by unfold cnt;rw [Od];rfl
theorem zd7 (h:q.1.toNat=a):cnt (pre++[q]) a=cnt pre a+1:=by rw [Wm,h];unfold UW;rw [jb rfl]
theorem zBH :cnt pre a<=cnt (pre++[q]) a:=by
 rw [Wm];unfold UW;split
 ·rename_i h;subst h;omega
 ·exact js _
theorem zop (pre:List (Int×Int))(a:Nat):∀ (r:Nat) (qs:List (Int×Int)),qs.length<=r->cnt pre a<=cnt (pre++qs) a:=by
 intro r qs _
 induction qs generalizing pre with
 | nil=>simp
 | cons q qs ih=>
  have h1:=ih (pre++[q]) (by simp at*;omega);rw [jn] at h1;exact jT zBH h1
theorem zyi {xs:List (Int×Int)}(h:pre<+:xs):cnt pre a<=cnt xs a:=by obtain ⟨qs,rfl⟩:=h;exact zop pre a qs.length qs (js _)
theorem zmn (qs:List (Int×Int)):∀ (c:Nat->Nat) (a:Nat),(qs.foldl (fun c q=>UW c q.1.toNat (c q.1.toNat+1)) c) a<=c a+qs.length:=by
 induction qs with
 | nil=>intro c a;simp
 | cons q qs ih=>
  intro c a;rw [Of];have h:=ih (UW c q.1.toNat (c q.1.toNat+1)) a;have h2:UW c q.1.toNat (c q.1.toNat+1) a<=c a+1:=(by unfold UW;split<;>(try (rename_i e;subst e))<;>omega);rw [jw];omega
theorem zg4 {pre:List (Int×Int)}{a:Nat}:cnt pre a<=pre.length:=by have h:=zmn pre (fun _=>0) a;unfold cnt;omega
def wmx (w:Nat->Nat)(pre:List (Int×Int)):Nat->Nat:=fun a=>max (w a) (cnt pre a)
def wdF (al:Nat->List (Int×Int)):Nat->Nat->Nat
 | 0=>fun _=>0
 | i+1=>wmx (wdF al i) (al i)
variable{w:Nat->Nat}
theorem zkt :wmx w []=w:=by funext a;unfold wmx;show max (w a) 0=w a;omega
theorem zqA (h:q.1.toNat=a):UW (wmx w pre) a (max (wmx w pre a) (cnt (pre++[q]) a))=wmx w (pre++[q]):=by
 funext j;unfold UW;split
 ·rename_i e;subst e;rw [zd7 h];show max (max (w j) (cnt pre j)) (cnt pre j+1)=max (w j) (cnt (pre++[q]) j);rw [zd7 h];omega
 ·rename_i e;show max (w j) (cnt pre j)=max (w j) (cnt (pre++[q]) j);rw [Wm,h];unfold UW;rw [ja e]
variable{al:Nat->List (Int×Int)}
theorem zwr (h:al 0=[]):wdF al 1=fun _=>0:=by show wmx (wdF al 0) (al 0)=_;rw [h,zkt];rfl
theorem zh7 {al:Nat->List (Int×Int)}{B:Nat}(h:∀ j,(al j).length<=B):∀ (i a:Nat),wdF al i a<=B
 | 0,a=>jf _
 | i+1,a=>by
  show max (wdF al i a) (cnt (al i) a)<=B;have h1:=zh7 h i a;have h2:=@zg4 (al i) a;have h3:=h i;omega
theorem zjd {al:Nat->List (Int×Int)}{j:Nat}:∀ {i a:Nat},j<i->cnt (al j) a<=wdF al i a
 | 0,_,h=>kB
 | i+1,a,h=>by
  show _<=max (wdF al i a) (cnt (al i) a);by_cases e:j=i
  ·subst e;omega
  ·have:=zjd (al:=al) (a:=a) (show j<i by omega);omega
def YN (w:Nat->Nat):Nat->Nat
 | 0=>0
 | k+1=>YN w k+(w k+1)
theorem zgH {w:Nat->Nat}{B:Nat}(h:∀ a,w a<=B):∀ k,YN w k<=k*(B+1)
 | 0=>jf _
 | k+1=>by
  have h1:=zgH h k;have h2:=h k;show YN w k+(w k+1)<=_;rw [OJ];omega
theorem zam {w:Nat->Nat}{k:Nat}:∀ {j:Nat},k<j->YN w k+w k+1<=YN w j
 | 0,h=>kB
 | j+1,h=>by
  show _<=YN w j+(w j+1);by_cases e:k=j
  ·subst e;omega
  ·have:=zam (w:=w) (show k<j by omega);omega
theorem zmY {w:Nat->Nat}:∀ k,k<=YN w k
 | 0=>js _
 | k+1=>by have:=zmY (w:=w) k;show k+1<=YN w k+(w k+1);omega
def atK (w:Nat->Nat)(k:Nat):Nat->Nat:=fun j=>if j<k then YN w j else 0
theorem zrb :atK w 0=fun _=>0:=by funext j;unfold atK;simp
variable{k:Nat}
theorem zp8 :UW (atK w k) k (YN w k)=atK w (k+1):=by
 funext j;unfold UW atK;by_cases e:j=k
 ·subst e;rw [jb rfl,jb kB]
 ·rw [ja e];by_cases h:j<k
  ·rw [jb h,jb kB]
  ·rw [ja h,ja kB]
theorem zt9 :Vx n (Y7 (atK w n))=Vx n (Y7 (YN w)):=by unfold Vx;refine O6 fun j hj=>?_;unfold Y7 atK;rw [jb (jm.1 hj)]
def txF (w:Nat->Nat)(T:List Int):Nat->Nat->Int
 | 0=>fun _=>0
 | k+1=>UW (txF w T k) (YN w k+w k) (T.getD k 0)
def prF (w:Nat->Nat)(l:List Int)(f:Nat->Int)(y:Int×Int):Nat->Int:=
 if (decide (y.1>0)&&decide (y.2>0))=true then UW f (YN w (y.1-1).toNat+w (y.1-1).toNat) (l.getD (y.2-1).toNat 0) else f
def alS (w:Nat->Nat)(l:List Int)(s:(Nat->Int)×(Nat->Nat))(q:Int×Int):(Nat->Int)×(Nat->Nat):=
 (UW s.1 (YN w q.1.toNat+s.2 q.1.toNat) (l.getD q.2.toNat 0),UW s.2 q.1.toNat (s.2 q.1.toNat+1))
def alP (w:Nat->Nat)(l:List Int)(f:Nat->Int)(pre:List (Int×Int)):(Nat->Int)×(Nat->Nat):=pre.foldl (alS w l) (f,fun _=>0)
variable{l:List Int}
theorem zux :(alP w l f pre).2=cnt pre:=by
 have key:∀ (f:Nat->Int) (c:Nat->Nat),(pre.foldl (alS w l) (f,c)).2=pre.foldl (fun c q=>UW c q.1.toNat (c q.1.toNat+1)) c:=by
  induction pre with
  | nil=>intro f c;rfl
  | cons q pre ih=>intro f c;rw [Of,Of];exact ih _ _
 exact key f _
theorem zd0 :(alP w l f (pre++[q])).1=UW (alP w l f pre).1 (YN w q.1.toNat+cnt pre q.1.toNat) (l.getD q.2.toNat 0):=by rw [<-zux (w:=w) (l:=l) (f:=f)];unfold alP;rw [Od];rfl
def zjY (w:Nat->Nat)(T l:List Int)(i:Nat)(ps:List (Int×Int)):Nat->Int:=
 (alP w l (ps.foldl (prF w l) (if i=0 then txF w T T.length else fun _=>0)) (zjJ ps)).1
variable{y:Int×Int}
theorem ziw (hy:ps[k]? =some y):(ps.take (k+1)).foldl (prF w l) f=prF w l ((ps.take k).foldl (prF w l) f) y:=by rw [jP,hy,Od];rfl
def zBR (x:Wr):List Int:=x.rs.map Vm
def csW (xs:List Wr)(i:Nat):List Int:=((xs[i]?).map zBR).getD []
def pfW (xs:List Wr)(i:Nat):List (Int×Int):=if i=0 then [] else JF (csW xs 0) (csW xs i)
def alW (xs:List Wr)(i:Nat):List (Int×Int):=zjJ (pfW xs i)
def wdW (xs:List Wr):Nat->Nat:=wdF (alW xs) xs.length
def loW (xs:List Wr):Nat:=YN (wdW xs) ((csW xs 0).length+1)-1
def zhF (xs:List Wr)(i:Nat):List Int:=Vx (loW xs) (zjY (wdW xs) (csW xs 0) (csW xs i) i (pfW xs i))
def zaM (xs:List Wr):Int:=if (Ws xs != 0||xs.length==0)=true then Ws xs else if loW xs>256 then 2 else 0
def Yj (xs:List Wr):List (List Int):=if (Ws xs != 0||xs.length==0)=true\/loW xs>256 then [] else (List.range xs.length).map (zhF xs)
variable{xs:List Wr}
theorem zwu (h:(Ws xs != 0||xs.length==0)=true):zaM xs=Ws xs/\Yj xs=[]:=by unfold zaM Yj;rw [jb h,jb (.inl h)];exact ⟨U,U⟩
theorem zFy (h:(Ws xs != 0||xs.length==0)=false)(h2:loW xs>256):zaM xs=2/\Yj xs=[]:=by unfold zaM Yj;rw [ja (by rw [h];decide),jb h2,jb (.inr h2)];exact ⟨U,U⟩
theorem zFa (h:(Ws xs != 0||xs.length==0)=false)(h2:¬loW xs>256):zaM xs=0/\Yj xs=(List.range xs.length).map (zhF xs):=by unfold zaM Yj;rw [ja (by rw [h];decide),ja h2,ja (by rw [h];simp;omega)];exact ⟨U,U⟩
variable{i:Nat}{x:Wr}
theorem zcH (h:xs[i]? =some x):csW xs i=x.rs.map Vm:=by unfold csW;rw [h];rfl
theorem zdD :alW xs 0=[]:=rfl
def QOK (m n:Nat)(p:Int×Int):Prop:=∃ i k:Nat,p=((i:Int),(k:Int))/\i<=m/\k<=n/\(0<i\/0<k)
theorem zrd {a b:List Int}:∀ (f i k:Nat),i<=a.length->k<=b.length->(∀ p∈paF a b f i k,QOK a.length b.length p)/\(paF a b f i k).length<=f
 | 0,_,_,_,_=>⟨(fun p hp=>by cases hp),js _⟩
 | f+1,i,k,hi,hk=>by
  unfold paF;split
  ·rename_i hg;split
   ·rename_i hb;have h1:i<a.length/\k<b.length:=(by unfold zao at hb;simp at hb;omega);have ih:=zrd f (i+1) (k+1) h1.1 h1.2;refine ⟨fun p hp=>?_,by rw [jw];omega⟩;rcases jp.1 hp with rfl | hp
    ·exact ⟨i+1,k+1,U,h1.1,h1.2,kB⟩
    ·exact ih.1 p hp
   ·rename_i hb;split
    ·rename_i ho;have h1:i<a.length:=(by unfold zjO at ho;simp at ho;omega);have ih:=zrd f (i+1) k h1 hk;refine ⟨fun p hp=>?_,by rw [jw];omega⟩;rcases jp.1 hp with rfl | hp
     ·exact ⟨i+1,0,U,h1,jf _,kB⟩
     ·exact ih.1 p hp
    ·rename_i ho;have h1:k<b.length:=zjv hi hk (by simp at hg;omega) (by simpa using hb) (by simpa using ho);have ih:=zrd f i (k+1) hi h1;refine ⟨fun p hp=>?_,by rw [jw];omega⟩;rcases jp.1 hp with rfl | hp
     ·exact ⟨0,k+1,U,jf _,h1,kB⟩
     ·exact ih.1 p hp
  ·exact ⟨(fun p hp=>by cases hp),jf _⟩
theorem zfy {a b:List Int}:(∀ p∈JF a b,QOK a.length b.length p)/\(JF a b).length<=a.length+b.length:=by
 unfold JF;split
 ·exact ⟨(fun p hp=>by cases hp),jf _⟩
 ·exact zrd _ 0 0 (jf _) (jf _)
theorem zlq {m n:Nat}:∀ (ps:List (Int×Int)) (a:Nat),a<=m->(∀ p∈ps,QOK m n p)->(∀ q∈KT (a:Int) ps,∃ c r:Nat,q=((c:Int),(r:Int))/\c<=m/\r<n)/\(KT (a:Int) ps).length<=ps.length
 | [],_,_,_=>⟨(fun q hq=>by cases hq),js _⟩
 | p::ps,a,ha,h=>by
  obtain ⟨i,k,rfl,hi,hk,h0⟩:=h p (jk ..);unfold KT;split
  ·have ih:=zlq ps i hi fun p hp=>h p (jq _ hp);exact ⟨ih.1,Nat.le_succ_of_le ih.2⟩
  ·rename_i hn;have hi0:i=0:=(by simp at hn;omega);have ih:=zlq ps a ha fun p hp=>h p (jq _ hp);refine ⟨fun q hq=>?_,by rw [jw,jw];omega⟩;rcases jp.1 hq with rfl | hq
   ·exact ⟨a,k-1,by simp;omega,ha,kB⟩
   ·exact ih.1 q hq
theorem zaC :(∀ p∈pfW xs i,QOK (csW xs 0).length (csW xs i).length p)/\(pfW xs i).length<=(csW xs 0).length+(csW xs i).length:=by
 unfold pfW;split
 ·exact ⟨(fun p hp=>by cases hp),jf _⟩
 ·exact zfy
theorem zsv :(∀ q∈alW xs i,∃ c r:Nat,q=((c:Int),(r:Int))/\c<=(csW xs 0).length/\r<(csW xs i).length)/\(alW xs i).length<=(csW xs 0).length+(csW xs i).length:=by have h:=zlq (pfW xs i) 0 (jf _) (zaC (xs:=xs) (i:=i)).1;exact ⟨h.1,jT h.2 zaC.2⟩
variable{B:Nat}
theorem XX (h:∀ x∈xs,x.rs.length<=B):(csW xs i).length<=B:=by
 unfold csW
 cases hx:xs[i]? with
 | none=>exact jf _
 | some x=>
  have:=h x (jd hx);show (x.rs.map Vm).length<=B;rw [jE];exact this
def PrQ (I:Qt)(xs:List Wr)(hs:List Hd)(i:Nat):Prop:=∀ j,j<i->∃ h,hs[j]? =some h/\h.n=(pfW xs j).length/\Sl I 2 zdJ h.a h.n h.c (pfW xs j)
variable{hs:List Hd}
theorem PrQ.mono {I':Qt}(h:PrQ I xs hs i)(hI:HLe I I'):PrQ I' xs hs i:=fun j hj=>by
 obtain ⟨x,h1,h2,h3⟩:=h j hj;exact ⟨x,h1,h2,h3.mono hI⟩
theorem PrQ.start (hn:0<n):PrQ I xs (List.replicate n ⟨none,0,0⟩) 1:=fun j hj=>by
 obtain rfl:j=0:=kB;exact ⟨_,by simp [hn];rfl,U,.nil⟩
theorem PrQ.put {a:Option Addr}(h:PrQ I xs hs i)(hi:0<i)(hil:i<hs.length)(hS:Sl I 2 zdJ a n c (JF (csW xs 0) (csW xs i))):PrQ I xs (hs.set i ⟨a,n,c⟩) (i+1):=fun j hj=>by
 have hp:pfW xs i=JF (csW xs 0) (csW xs i):=(by unfold pfW;rw [ja kB]);by_cases e:j=i
 ·subst e;exact ⟨⟨a,n,c⟩,by rw [Bk hil],by rw [hp];exact hS.len.symm,by rw [hp];exact hS⟩
 ·obtain ⟨x,h1,h2,h3⟩:=h j kB;exact ⟨x,by rw [List.getElem?_set_ne (By e)];exact h1,h2,h3⟩
theorem WV (row:List Int)(m:Nat)(b:Int):(Zm row).setIfInBounds (m*1) (.int .i64 b)=Zm (row.set m b):=by unfold Zm;rw [Kd,Kd,OB,Ax,List.map_set]
variable{row:List Int}{m:Nat}
theorem zCK (h:m<row.length):Nat.blt (m*1) (Zm row).size=true:=by unfold Zm;rw [Kd,OB];simpa [AV] using h
variable{t:Nat}{h:Hd}
theorem zpo {l:Go.Kn.Loc}(e:hs[k]? =some h):QB I ((b,.cells (Jo hs) t (0,0))::l) b (k*1) (.slice h.a h.n h.c):=by refine .here ?_;rw [YU];unfold Jo;rw [zb2,OB];simp [e]
variable{vs:List Value}{fz:Nat×Nat}
theorem Cells.imm {l:Go.Kn.Loc}(h:I b=some (.cells vs.toArray t fz)):Cells I l b 0 vs:=fun j v hj=>.imm h (by rw [YU,Oc];simpa using hj)
theorem zmW (h:(Ws xs != 0||xs.length==0)=false):Ws xs=0/\0<xs.length/\xs.length<=24/\∀ x∈xs,x.rs.length<=64:=by
 have h1:Ws xs=0/\¬xs.length=0:=(by simpa using h);obtain ⟨h1,h2⟩:=h1;unfold Ws at h1;split at h1
 ·cases h1
 ·rename_i h3;split at h1
  ·cases h1
  ·rename_i h4;refine ⟨by unfold Ws;rw [ja h3,ja h4];exact h1,kB,kB,fun x hx=>?_⟩;have h5:xs.any (fun x=>decide (x.rs.length>64))=false:=(by simpa using h4);have:=jJ.1 h5 x hx;simp at this;omega
theorem zsM (h:pre++[q]<+:alW xs i):0<=q.1/\q.1.toNat<(csW xs 0).length+1/\0<=q.2/\q.2.toNat<(csW xs i).length/\cnt pre q.1.toNat<cnt (alW xs i) q.1.toNat:=by obtain ⟨c,r,rfl,h1,h2⟩:=zsv.1 q (h.subset kK);have h3:=zyi (a:=((c:Int),(r:Int)).1.toNat) h;rw [zd7 rfl] at h3;exact ⟨by simp,by simp;omega,by simp,by simpa using h2,h3⟩
theorem znD (h:∀ x∈xs,x.rs.length<=64)(i:Nat):(alW xs i).length<=128:=by have h1:=(zsv (xs:=xs) (i:=i)).2;have h2:=XX (i:=0) h;have h3:=XX (i:=i) h;omega
theorem zBS (h:(pfW xs i)[k]? =some y):0<=y.1/\y.1<=(csW xs 0).length/\0<=y.2/\y.2<=(csW xs i).length:=by obtain ⟨a,b,rfl,h1,h2,_⟩:=zaC.1 y (jd h);simp;omega
theorem zAr (hb:∀ x∈xs,x.rs.length<=64)(i:Nat):∀ p∈pfW xs i, -1000000<=p.2/\p.2<=1000000:=fun p hp=>by
 obtain ⟨a,b,rfl,h1,h2,_⟩:=zaC.1 p hp;have:=XX (i:=i) hb;simp;omega
theorem ztD (h:k<(csW xs 0).length):YN (wdW xs) k+wdW xs k<loW xs:=by have h1:=zam (w:=wdW xs) (show k<k+1 by omega);have h2:=zam (w:=wdW xs) (show k+1<(csW xs 0).length+1 by omega);have h3:YN (wdW xs) (k+1)=YN (wdW xs) k+(wdW xs k+1):=rfl;unfold loW;omega
theorem zxx (ha:a<(csW xs 0).length+1)(hi:i<xs.length)(hc:c<cnt (alW xs i) a):YN (wdW xs) a+c<loW xs:=by have h1:=zam (w:=wdW xs) ha;have h2:cnt (alW xs i) a<=wdW xs a:=zjd hi;unfold loW;omega
theorem zET :((YN (wdW xs) ((csW xs 0).length+1):Nat):Int)-1=((loW xs:Nat):Int):=by have:=zmY (w:=wdW xs) ((csW xs 0).length+1);unfold loW;omega
theorem zoo (h:(decide (y.1>0)&&decide (y.2>0))=true):prF w l f y=UW f (YN w (y.1-1).toNat+w (y.1-1).toNat) (l.getD (y.2-1).toNat 0):=by unfold prF;rw [jb h]
theorem zto (h:(decide (y.1>0)&&decide (y.2>0))=false):prF w l f y=f:=by unfold prF;rw [ja (by rw [h];decide)]
theorem zrc {f g:Nat->Nat}:zui (Y7 f a) (Y7 g a)=((max (f a) (g a):Nat):Int):=zpY
theorem zd2 {f:Nat->Nat}(h:f a<=B):0<=Y7 f a/\Y7 f a<=(B:Int):=by unfold Y7;omega
theorem ziq :((n:Int)==0)=(n==0):=by rw [jL];simp
end
end Go.Proofs.YtmbjmjbjdgjonaaGreatDoor
