/- topOrigins_holds, part C of the proof: what its theorems say holds without further conditions. -/
import Derived.Shelf.SlSortCmp.WholeK
import Derived.Shelf.SlSortCmp.Whole1
import Derived.Shelf.Small.Bits
import Derived.Shelf.Small.Wraps
import Derived.Shelf.Strconv.Itoa0
import Derived.Shelf.Sort.Plain
import Derived.Shelf.Slices.Turned
import Derived.Shelf.Slices.Equal
import Derived.Ground.Names2Prog
import Derived.Shelf.Slices.Clone
import Derived.Shelf.Slices.CompactI
import Derived.Shelf.Slices.SearchI
import Derived.Shelf.Slices.Cells
import Derived.Shelf.Slices.In.SortNone
import Derived.Shelf.Slices.Empties
import Derived.Shelf.Slices.Empties2
import Derived.Ground.SlgnProg
import Derived.Shelf.SlicesE.Clone
import Derived.Ground.SlsfProg
import Derived.Shelf.SlSortCmp.Insertion
import Derived.Shelf.SlicesQ.Reverse
import Derived.Shelf.SlSortCmp.InsertionK
import Derived.Shelf.SlSortCmp.SiftDownK
import Derived.Shelf.SlSortCmp.HeapSortK
import Derived.Shelf.SlSortCmp.MedianK
import Derived.Shelf.SlSortCmp.PivotK
import Derived.Shelf.SlSortCmp.ReverseRangeK
import Derived.Shelf.SlSortCmp.PartialInsertionK
import Derived.Shelf.SlSortCmp.PartitionEqualK
import Derived.Shelf.SlSortCmp.PartitionK
import Derived.Shelf.SlSortCmp.PdqK
import Derived.Shelf.SlSortCmp.SiftDown1
import Derived.Shelf.SlSortCmp.HeapSort1
import Derived.Shelf.SlSortCmp.Insertion1
import Derived.Shelf.SlSortCmp.Median1
import Derived.Shelf.SlSortCmp.Pivot1
import Derived.Shelf.SlSortCmp.ReverseRange1
import Derived.Shelf.SlSortCmp.PartialInsertion1
import Derived.Shelf.SlSortCmp.PartitionEqual1
import Derived.Shelf.SlSortCmp.Partition1
import Derived.Shelf.SlSortCmp.Pdq1
import Derived.Shelf.SlSortCmp.NoneTotal
import Derived.Test.YtmbjmjbjdgjonaaGreatDoorProg
import Derived.Lib.SlicesCompact
import Derived.Lib.RowBridge
import Derived.Test.YtmbjmjbjdgjonaaGreatDoorTOB
namespace Go.Proofs.YtmbjmjbjdgjonaaGreatDoor
section
open Go Go.Kn Go.Proofs
theorem zwt:ArT Tryz.prog 272 64 5 1:=.of kA
theorem zms:CvT Tryz.prog 5 3 .i64:=⟨kA,kA⟩
theorem zx6:Fun Tryz.prog 192:=.of Tryz.func192 kA kA
theorem zEp:ScT Tryz.prog 5:=.of kA
variable{I:Qt}{s:Int}
theorem zzF (hD:KR I)(hs:1<=s/\s<=63)(h1:Z5 s=true):Zt Tryz.prog 192 [.int .u64 s] I (.int .i64 (UD s)):=by
 intro g H w hw;refine qe Tryz.func192 Tryz.ntmps192 hw ?_;obtain ⟨hd1,hd2⟩:=zAN hs h1;have hcell:∀ loc,QB I loc 1 (0+(zoE s).toNat*1) (.int .u8 (zua.getD (zoE s).toNat 0)):=fun loc=>(by rw [show 0+(zoE s).toNat*1=(zoE s).toNat by omega];exact (hD _ kB).any);refine zR (zA (zN (Ql (zR ?_))));refine zM ?_;refine zC (zN ?_);refine zI ?_ ?_<;>intro hc4
 ·have h:=hc4;simp at h;omega
 refine Qo (Qa (zR (zM ?_)));refine zM ?_;refine zV (zgL U) ?_;refine zV (zyC U U) ?_;refine zV (KB U U U) ?_;refine zV (zi9 U U kE (rfl:min _ _=58)) ?_;refine zV (Zx U U zwt (fun hg=>by exact hd1)) ?_;refine zV (Qd U zEp (fun hg=>by exact (hcell _))) ?_;refine zV (YK U zms) ?_;refine zA (zN (Qr ?_))
 first
 | exact zr U U (by rw [hd2])
theorem zGy (hD:KR I)(hs:1<=s/\s<=63)(h1:Z5 s=true):Zt Tryz.prog 148 [.int .u64 s] I (.int .i64 (UD s)):=by
 intro g H w hw;refine qe Tryz.func148 Tryz.ntmps148 hw ?_;refine zR (zA (zN (Ql ?_)));refine zI ?_ ?_<;>intro hcK
 ·cases hcK
 refine Qo (Qa (zR (zM ?_)));refine qcV (vs:=[_]) U zx6 (zzF hD hs h1) ?_;refine zA (zN (Qr ?_));exact zr U U kL
theorem Jp:CvT Tryz.prog 3 178 .u64:=⟨kA,kA⟩
theorem zwN:ElT Tryz.prog 214 209 1 8:=.of kA
theorem Zw:ElT Tryz.prog 37 3 1 8:=.of kA
theorem zg0:Fun Tryz.prog 147:=.of Tryz.func147 kA kA
theorem zuC:Fun Tryz.prog 148:=.of Tryz.func148 kA kA
theorem zxr:Fun Tryz.prog 150:=.of Tryz.func150 kA kA
theorem zg7:Fun Tryz.prog 151:=.of Tryz.func151 kA kA
theorem Z3:VR (α:=Int) Tryz.prog 3 (.int .i64):=zwF kA
theorem VU:MpT Tryz.prog 209 3 3 (.int .i64 0):=⟨kA,.of kA⟩
theorem zdb:ScT Tryz.prog 209:=.of kA
theorem zgO:ScT Tryz.prog 210:=.of kA
theorem Ki:ScT Tryz.prog 33:=.of kA
theorem zls:SlT Tryz.prog 214 209 1:=.of kA
theorem zEM (hD:KR I)(hs:1<=s/\s<=63)(h1:Z5 s=true):Zt Tryz.prog 148 [.int .u64 (IntKind.u64.wrap s)] I (.int .i64 (UD s)):=by rw [zBK kB];exact zGy hD hs h1
variable{av:Option Addr}{n c:Nat}{xs:List Int}
theorem zro {m:Nat}(hS:Sl I 1 Q3 av n c xs)(hn:n<=100000)(hc:V4 m xs=0)(hin:s∈xs)(h1:Z5 s=false):Zt Tryz.prog 149 [.slice av n c,.int .i64 s] I (.tuple #[.int .i64 (Qw xs s),.int .i64 (s-Qw xs s),.bool true]):=by have h:=zhb hS hn s ((ZZ hc).2.2.2 s hin);obtain ⟨e1,e2,e3⟩:=zix hc hin h1;rw [e1,e2,e3] at h;exact h
variable{v:Int}
theorem zdL (e:YR xs=v)(hS:Sl I 1 Q3 av n c xs)(hn:n<=100000)(h0:0<n):Zt Tryz.prog 151 [.slice av n c] I (.int .i64 v):=by rw [<-e];exact zt5 hS hn h0
variable{brow bloc bcst bcla bbel rm n2 c2 l:Nat}{bv:Option Addr}{rows:List (List Int)}
theorem zq6 (hE:PrE I 147 brow bloc bcst bcla bbel rm av bv n c n2 c2 xs rows l)(hn:n<=100000)(hn2:n2<=100000)(hl:∀ r∈rows,l<r.length)(hc:V4 rows.length xs=0)(f:Nat)(s:Int)(hok:OkS rows.length xs s)(ih:∀ (I':Qt),HLe I I'->∀ (s':Int),OkS rows.length xs s'->s'<s->ZQ Tryz.prog 147 ([.int .i64 s']++[QZ brow,QZ bloc,QZ bcst,QZ bcla,QZ bbel]) I' [] (zDP (Za rows l) (ZB rows xs l f s') (8*(s'-1)))):ZQ Tryz.prog 147 [.int .i64 s,QZ brow,QZ bloc,QZ bcst,QZ bcla,QZ bbel] I [] (zDP (Za rows l) (ZB rows xs l (f+1) s) (8*(s-1))):=by
 intro g H w hw;refine qe Tryz.func147 Tryz.ntmps147 hw ?_;have hIc:=zGN I;obtain ⟨hs,hV⟩:=hE.hV;have hH:=hV.1;have hlV:=hV.len;have hal:=(ZZ hc).1;have hal6:=(ZZ hc).2.1;have hs63:=zcm hc hok;have hsl:=zsI (rows:=rows) (l:=l);refine zR (zA ?_);refine zN (zR ?_);refine ZV U U (fun r_20=>?_);refine zA (zN (Ql (zR ?_)));refine zM ?_;refine qcV (vs:=[_]) U zg3 (zde _ _) ?_;refine zN ?_;refine zI ?_ ?_<;>intro hc22
 ·have hsing:Z5 s=true:=hc22;have hwn:=zAC (n:=rows.length) kB hs63 hsing hok.2.1;obtain ⟨x,v,hx,hv,hQ⟩:=hV.at (show UD s<n2 by omega);have hlv:=hl v (jd hv);have hu:=Zc (d:=0) U hlv;have hvn:=hQ.len;have hz:(JK s (IntKind.i64.wrap (s-1))==0)=true:=(by unfold Z5 at hsing;rw [jj] at hsing;exact hsing.2);refine Ql ?_;refine YE mixed kA ?_;refine zq (Qd U Ki (fun hg=>by exact hE.row.any)) ?_;refine zq (Qj U) ?_;refine zq (YK U Jp) ?_;refine Jq (cap:=[]) (vs:=[_]) U U zuC (zEM hE.deb hs63 hsing) U U ?_;refine zq (zX Zn hH) ?_;refine zq (Qd U QK (fun hg=>by exact zGG hH hx U)) ?_;refine zq (Qd U Qq (fun hg=>by exact hE.loc.any)) ?_;refine zq (zX Qx hQ) ?_;refine zq (Qd U Qq (fun hg=>by exact zGG hQ hu U)) ?_;refine zq (QU U) ?_;refine YC ?_;refine Qa (Ql (zR ?_));refine zV (Qd U zdb (fun hg=>by exact hE.cst.any)) ?_;refine Uj (ek:=eiv) (ev:=eiv) (m:=(stM rows l)) U VU U U (.inl hE.mp) (fun b_33=>?_);refine zN (Qp ?_);refine zU [(8,_),(9,_),(33,_)] (fun T L0 mz E I' loc'=>∃ (seen:List Nat) (m:List (Int×Int)),mz=(stM rows l).length-seen.length/\E=T/\I=I'/\[(b_33,Vt rm (stM rows l).length seen),(r_20,Z7 eiv eiv m)]=loc'/\W2 m (zaU rows l (v.getD l 0) seen)/\seen.Nodup/\∀ i∈seen,i<(stM rows l).length) ?_ (h:=⟨[],[],U,U,U,U,zln,.nil,fun i h=>by cases h⟩);rintro mz E I' loc' ⟨seen,m,rfl,rfl,rfl,rfl,hm,hnd,hlt⟩;refine zR ?_;refine Ul (ek:=eiv) (ev:=eiv) (m:=(stM rows l)) (fun s'=>[(b_33,Vt rm (stM rows l).length s'),(r_20,Z7 eiv eiv m)]) U (fun s'=>.here) U U U U U (.inl hE.mp) kK ?_;intro t tv s' hno hyes;refine zN (Ql ?_);refine zI ?_ ?_<;>intro hc35
  ·obtain ⟨i,q,hq,hns,rfl⟩:=hyes hc35;refine Qo (Qa (Qp (zR ?_)));refine zV (KX (ek:=eiv) (ev:=eiv) (m:=(stM rows l)) (p:=q) (seen:=seen) (i:=i) U (.inl hE.mp) (.inr kK) hq) ?_;refine zE ?_;refine zA ?_;refine zN (zR ?_);refine zM ?_;refine zM ?_;refine zC ?_;refine zM ?_;refine Q8 3 U U U ?_;refine zJ (Qj U) ?_;refine zJ (QI U U U) ?_;refine ZO U U U U U ?_;refine zN ?_;refine zI ?_ ?_<;>intro hc44
   ·refine Qf (zM ?_);refine zM ?_;refine Q6 (m:=m) (ek:=eiv) (ev:=eiv) (a:=q.1) 0 VU Z3 U U U U (by repeat (first | exact Upd.here | apply Upd.there | apply QH)) ?_;refine Qb (Qg ?_);have hs9:=KG hnd hlt hns (jc.1 hq).1
    first
    | exact zm (h:=⟨(stM rows l).length-(seen++[i]).length,by rw [jh,jG];have:=hs9.2.2;rw [jh,jG] at this;omega,seen++[i],YM m q.1 0,U,U,U,U,zlB hm hq (zel hc44),hs9.1,hs9.2.1⟩)
   refine Qo (Qg ?_);have hs9:=KG hnd hlt hns (jc.1 hq).1
   first
   | exact zm (h:=⟨(stM rows l).length-(seen++[i]).length,by rw [jh,jG];have:=hs9.2.2;rw [jh,jG] at this;omega,seen++[i],m,U,U,U,U,zqZ hm hq (zkB hc44).2,hs9.1,hs9.2.1⟩)
  obtain ⟨rfl,hall⟩:=hno hc35;refine QF (Qh (Qh (Qm (Qa (zR (zM ?_))))));refine zA (zN (Qr (Qc ?_)))
  first
  | exact QR U U (fun w hw=>by obtain ⟨I9,h91,h92,h93⟩:=hw.freezeAll;exact ⟨_,I9,[],U,hIc.trans h91,h92,U,r_20,m,U,h93 _ _ kK,by rw [zan hz];exact zqW kB hv hm hnd hlt hall⟩)
 have hns0:Z5 s=false:=hc22;obtain ⟨hin,ok1,ok2,hp1,hp2,_,_⟩:=V5 hc hok hns0;have hz:(JK s (IntKind.i64.wrap (s-1))==0)=false:=(by unfold Z5 at hns0;rw [jX (show s>0 by omega),OM] at hns0;exact hns0);refine Qo (Qa (zR ?_));refine zV (Qd U QK (fun hg=>by exact hE.cla.any)) ?_;refine zM ?_;refine qcV (vs:=[_,_]) U zhi (zro hE.hS hn hc hin hns0) ?_;refine zM ?_;refine zE ?_;refine zE ?_;refine zE ?_;refine zA ?_;refine zA ?_;refine zA (zN (Ql (Ql ?_)));have hD:=zGN I;refine KF mixed ?_;refine zT 0 U (Qd U zgO (fun hg=>by exact hE.bel.any)) hD ?_;refine zT 1 U (Qj U) hD ?_;refine zT 3 U (Qd U zgO (fun hg=>by exact hE.bel.any)) hD ?_;refine zT 4 U (Qj U) hD ?_;refine zT 8 U (Qj U) hD ?_;refine qd 2 U ?_;refine Z1 (cap:=[QZ brow,QZ bloc,QZ bcst,QZ bcla,QZ bbel]) (vs:=[_]) U U zg0 (by exact .nil) (ih _ hIc _ ok1 hp2) U U ?_;rintro vv2 I2 L2 hI2 ⟨rfl,ra,ma,rfl,hMa,hRa⟩;have hE:=hE.mono hI2;have hIc:=hIc.trans hI2;have hD:=hD.trans hI2;refine Qb ?_;refine zD hD ?_;refine qd 5 U ?_;refine Z1 (cap:=[QZ brow,QZ bloc,QZ bcst,QZ bcla,QZ bbel]) (vs:=[_]) U U zg0 (by exact .nil) (ih _ hIc _ ok2 kB) U U ?_;rintro vv3 I3 L3 hI3 ⟨rfl,rb,mb,rfl,hMb,hRb⟩;have hE:=hE.mono hI3;have hMa:=hMa.mono hI3;have hIc:=hIc.trans hI3;have hD:=hD.trans hI3;refine Qb ?_;refine zD hD ?_;refine qd 6 U ?_;refine zpb [(0,_),(1,_)] [[.map (some ra)],[.map (some rb)]] zwN (fun b_61=>?_);refine Qb ?_;refine zD hD ?_;refine zT 7 U (ZX U zls) hD ?_;refine Qz kA ?_;refine QD ?_;refine Qa (Qp ?_);refine zU [(3,_),(8,_),(61,_),(62,_)] (fun T L0 mz E I' loc'=>∃ (j:Nat) (m:List (Int×Int)),mz=2-j/\E=(63,.int .i64 j)::T/\HLe I3 I'/\[(b_61,.cells (([[Value.map (some ra)],[Value.map (some rb)]]:List (List Value)).flatten).toArray 209 (0,0)),(r_20,Z7 eiv eiv m)]=loc'/\j<=2/\W2 m (gF (Za rows l) (ZB rows xs l f (Qw xs s)) (ZB rows xs l f (s-Qw xs s)) j)) ?_ (h:=⟨0,[],U,U,zGN _,U,jf _,zF6⟩);rintro mz E J4 loc' ⟨j,m,rfl,rfl,hJ,rfl,hj,hm⟩;have hE:=hE.mono hJ;have hMa:=hMa.mono hJ;have hMb:=hMb.mono hJ;have hIc:=hIc.trans hJ;have hB2:=hJ;refine zR (zC (zN (Ql ?_)));refine zI ?_ ?_<;>intro hc64
 ·have hlt_j:j<2:=by have h:=hc64;simp at h;omega
  obtain ⟨rj,mj,bj,hrj,hMj,hRj,hbj⟩:∃ rj mj bj,(if j=0 then ra else rb)=rj/\ImO J4 rj (Z7 eiv eiv mj)/\zf8 (Za rows l) (if j=0 then (ZB rows xs l f (Qw xs s)) else (ZB rows xs l f (s-Qw xs s))) bj mj/\bj<=1000:=by
   rcases (show j=0\/j=1 by omega) with e | e
   ·subst e;exact ⟨ra,ma,8*(Qw xs s-1),U,hMa,hRa,kB⟩
   subst e;exact ⟨rb,mb,8*(s-Qw xs s-1),U,hMb,hRb,kB⟩
  have hmjl:=hRj.small;refine Qo (Qa (Ql (Qp (zR ?_))));refine zV (Q2 U U zls (fun hg=>kB)) ?_;refine zV (Qd U zdb (fun hg=>by exact zre hrj hlt_j)) ?_;refine zA ?_;refine zN (zR ?_);refine zV (Qd U zdb (fun hg=>by exact hE.cst.any)) ?_;refine Uj (ek:=eiv) (ev:=eiv) (m:=(stM rows l)) U VU U U (.inl hE.mp) (fun b_68=>?_);refine zN (Qp ?_);refine zU [(3,_),(8,_),(15,_),(61,_),(62,_),(63,_),(68,_)] (fun T L0 mz E I' loc'=>∃ (seen:List Nat) (m2:List (Int×Int)),mz=(stM rows l).length-seen.length/\E=T/\HLe J4 I'/\[(b_68,Vt rm (stM rows l).length seen),(b_61,.cells (([[Value.map (some ra)],[Value.map (some rb)]]:List (List Value)).flatten).toArray 209 (0,0)),(r_20,Z7 eiv eiv m2)]=loc'/\W2 m2 (hF rows l (ZB rows xs l f (Qw xs s)) (ZB rows xs l f (s-Qw xs s)) j seen)/\seen.Nodup/\∀ i∈seen,i<(stM rows l).length) ?_ (h:=⟨[],m,U,U,zGN _,U,zGj hm,.nil,fun i h=>by cases h⟩);rintro mz E J5 loc' ⟨seen,m2,rfl,rfl,hJ,rfl,hm2,hnd4,hlt4⟩;have hE:=hE.mono hJ;have hMj:=hMj.mono hJ;have hB2:=hB2.trans hJ;have hB4:=hJ;refine zR ?_;refine Ul (ek:=eiv) (ev:=eiv) (m:=(stM rows l)) (fun s'=>[(b_68,Vt rm (stM rows l).length s'),(b_61,.cells (([[Value.map (some ra)],[Value.map (some rb)]]:List (List Value)).flatten).toArray 209 (0,0)),(r_20,Z7 eiv eiv m2)]) U (fun s'=>.here) U U U U U (.inl hE.mp) kK ?_;intro t tv s' hno hyes;refine zN (Ql ?_);refine zI ?_ ?_<;>intro hc70
  ·obtain ⟨i,q,hq,hns,rfl⟩:=hyes hc70;have hlk:=zEC hm2 hq hns;have htot:=zzw hRa hRb kB kB j q.1;refine Qo (Qa (Qp (zR ?_)));refine zV (KX (ek:=eiv) (ev:=eiv) (m:=(stM rows l)) (p:=q) (seen:=seen) (i:=i) U (.inl hE.mp) (.inr kK) hq) ?_;refine zE ?_;refine zA ?_;refine zN (zR ?_);refine zA (zN (Ql (zR ?_)));refine zM ?_;refine Uj (ek:=eiv) (ev:=eiv) (m:=mj) U VU U U (.inl hMj) (fun b_74=>?_);refine zN (Qp ?_);refine zU [(3,_),(8,_),(15,_),(16,_),(61,_),(62,_),(63,_),(68,_),(74,_)] (fun T L0 mz E I' loc'=>∃ (seen6:List Nat) (v6:Value) (q6:Nat) (L:Go.Kn.Loc),mz=mj.length-seen6.length/\E=(17,v6)::T/\J5=I'/\L++[(b_74,Vt rj mj.length seen6),(b_68,Vt rm (stM rows l).length (seen++[i])),(b_61,.cells (([[Value.map (some ra)],[Value.map (some rb)]]:List (List Value)).flatten).toArray 209 (0,0)),(r_20,Z7 eiv eiv m2)]=loc'/\OwnS 3 1 v6 q6 (((zn9 mj seen6).map fun p=>p.2+V0 q.1 p.1).flatMap Q3) L/\q6=seen6.length/\seen6.Nodup/\∀ i∈seen6,i<mj.length) ?_ (h:=⟨[],_,0,[],U,U,U,U,OwnS.nil,U,.nil,fun i h=>by cases h⟩);rintro mz E I' loc' ⟨seen6,v6,q6,L,rfl,rfl,rfl,rfl,hO6,hq6,hnd6,hlt6⟩;have hsl6:=Ue hnd6 hlt6;refine zR ?_;refine Ul (ek:=eiv) (ev:=eiv) (m:=mj) (fun s'=>L++[(b_74,Vt rj mj.length s'),(b_68,Vt rm (stM rows l).length (seen++[i])),(b_61,.cells (([[Value.map (some ra)],[Value.map (some rb)]]:List (List Value)).flatten).toArray 209 (0,0)),(r_20,Z7 eiv eiv m2)]) U (fun s'=>QH .here) U U U U U (.inl hMj) kK ?_;intro t tv s' hno hyes;refine zN (Ql ?_);refine zI ?_ ?_<;>intro hc76
   ·obtain ⟨i6,p6,hp6,hns6,rfl⟩:=hyes hc76;have hb6:=(Wk hRj hbj (.refl _) q.1).2.2.2 p6 (jd hp6);have hst6:=WR q.1 p6.1;refine Qo (Qa (Qp (zR ?_)));refine zV (KX (ek:=eiv) (ev:=eiv) (m:=mj) (p:=p6) (seen:=seen6) (i:=i6) U (.inl hMj) (.inr kK) hp6) ?_;refine zE ?_;refine zE ?_;refine zA ?_;refine zA (zN (Qf ?_));refine zM ?_;refine zM ?_;refine zM ?_;refine zM ?_;refine qcV (vs:=[_,_]) U zxr (zCb _ _ _) ?_;refine zB ?_;refine zpb [(0,_)] [Q3 (p6.2+V0 q.1 p6.1)] Zw (fun b_86=>?_);refine zpa (_) ([(p6.2+V0 q.1 p6.1)].flatMap Q3) (L) U U Zw hO6 ⟨U,fun _=>U,zGL⟩ (JH _) ?_;intro v9 L9 hO9 _;rw [<-jo] at hO9;refine zA (Qb (Qg ?_));have hs9:=KG hnd6 hlt6 hns6 (jc.1 hp6).1;exact zm (h:=⟨mj.length-(seen6++[i6]).length,by rw [jh,jG];have:=hs9.2.2;rw [jh,jG] at this;omega,seen6++[i6],v9,q6+1,L9,U,U,U,U,by rw [zeg hp6,jZ];exact hO9,by rw [jh,jG];omega,hs9.1,hs9.2.1⟩)
   obtain ⟨rfl,hall6⟩:=hno hc76;have hlen6:=(zbW hnd6 hlt6 hall6).length_eq;rw [OU] at hlen6;have hne6:=hRj.ne;have hbe:=Wk hRj hbj (zgn hnd6 hlt6 hall6) q.1;refine QF (Qh (Qh (Qm (Qa ?_))));refine KO hO6 Zh kE QO (fun I7 hI7 af7 cf7 ef7 hLst=>?_);subst ef7;have hB4:=hB4.trans hI7;have hD:=zGN I7;refine YZ ?_;refine ZA I7 [] mixed ?_;refine zT 0 U (Qj U) hD ?_;refine zT 1 U (Qj U) hD ?_;refine zT 3 U (Qj U) hD ?_;refine Zo 2 4 U U kA ?_ ?_
   focus
    refine zV (zcN (m:=m2) (a:=q.1) VU Z3 U U (fun _=>(by exact Mem.m3))) ?_;refine Qb ?_;refine zD hD ?_;refine qd 4 U ?_;refine qcV (vs:=[_]) U zg7 (zdL hbe.1 hLst kB kB) ?_
   rotate_left
   refine qcV (vs:=[_]) U zg7 (zdL hbe.1 hLst kB kB) ?_;refine Qb ?_;refine zD hD ?_;refine qd 2 U ?_;refine zV (zcN (m:=m2) (a:=q.1) VU Z3 U U (fun _=>(by exact Mem.m3))) ?_
   all_goals
    refine Qb ?_;refine zD hD ?_;refine zT 5 U (ZL U U U (fun hg=>kB)) hD ?_;refine qd 6 U ?_;refine Q6 (m:=m2) (ek:=eiv) (ev:=eiv) (a:=q.1) ((ZP m2 q.1).getD 0+YX (Za rows l) (if j=0 then (ZB rows xs l f (Qw xs s)) else (ZB rows xs l f (s-Qw xs s))) q.1) VU Z3 U U U U (by repeat (first | exact Upd.here | apply Upd.there | apply QH)) ?_;refine Qb ?_;refine zD hD ?_;refine Qz kA ?_;refine QD ?_;refine Qg ?_;have hs9:=KG hnd4 hlt4 hns (jc.1 hq).1;rw [hlk,zh1 hlt_j];exact zm (h:=⟨(stM rows l).length-(seen++[i]).length,by rw [jh,jG];have:=hs9.2.2;rw [jh,jG] at this;omega,seen++[i],YM m2 q.1 (zhz (Za rows l) (ZB rows xs l f (Qw xs s)) (ZB rows xs l f (s-Qw xs s)) (j+1) q.1),U,U,hB4,U,zrJ hm2 hq,hs9.1,hs9.2.1⟩)
  obtain ⟨rfl,hall⟩:=hno hc70;refine QF (Qh (Qh (Qm (Qg (Qa (Qf (zB ?_)))))));refine zM (Qb ?_);exact zm (h:=⟨2-(j+1),kB,j+1,m2,U,U,hB2,U,kB,zCo hm2 hnd4 hlt4 hall⟩)
 have hge_j:2<=j:=(by have h:=hc64;simp at h;omega);have hj2:j=2:=kB;subst hj2;refine QF (Qh (Qh (Qm (Qa (zR (zM ?_))))));refine zA (zN (Qr ?_))
 first
 | exact QR U U (fun w hw=>by obtain ⟨I9,h91,h92,h93⟩:=hw.freezeAll;exact ⟨_,I9,[],U,hIc.trans h91,h92,U,r_20,m,U,h93 _ _ kK,by rw [zbz hz];exact zwj (List.ne_nil_of_length_pos zf5) hRa hRb kB kB kB hm⟩)
theorem zBV:Fun Tryz.prog 68:=.of Tryz.func68 kA kA
theorem zxS:SzT Tryz.prog 209 1:=.of kA
theorem zxk:SzT Tryz.prog 210 1:=.of kA
theorem zBM:Yw Tryz.prog 209 (.map none):=.of kA
theorem zBr:Yw Tryz.prog 210 .nilFunc:=.of kA
theorem zfM {brow bloc bcst bcla bbel rm:Nat}{av bv:Option Addr}{n c n2 c2:Nat}{xs:List Int}{rows:List (List Int)}{l:Nat}(hn:n<=100000)(hn2:n2<=100000)(hl:∀ r∈rows,l<r.length)(hc:V4 rows.length xs=0):∀ (f:Nat) (I:Qt),PrE I 147 brow bloc bcst bcla bbel rm av bv n c n2 c2 xs rows l->∀ (s:Int),OkS rows.length xs s->s.toNat<=f->ZQ Tryz.prog 147 ([.int .i64 s]++[QZ brow,QZ bloc,QZ bcst,QZ bcla,QZ bbel]) I [] (zDP (Za rows l) (ZB rows xs l f s) (8*(s-1)))
 | 0,_,_,s,hok,hf=>by have:=hok.1;omega
 | f+1,I,hE,s,hok,hf=>zq6 hE hn hn2 hl hc f s hok fun I' hI s' hok' hlt=>zfM hn hn2 hl hc f I' (hE.mono hI) s' hok' (by have:=hok'.1;have:=hok.1;omega)
theorem znb (hE:PrE I 147 brow bloc bcst bcla bbel rm av bv n c n2 c2 xs rows l)(hn:n<=100000)(hn2:n2<=100000)(hl:∀ r∈rows,l<r.length)(hc:V4 rows.length xs=0):ZQ Tryz.prog 147 ([.int .i64 (IntKind.i64.wrap (1*2^(min (n2:Int).toNat IntKind.i64.bits))-1)]++[QZ brow,QZ bloc,QZ bcst,QZ bcla,QZ bbel]) I [] (zDP (Za rows l) (ZB rows xs l 64 (YY rows.length)) (8*(YY rows.length-1))):=by have hlV:=hE.hV.len;subst hlV;exact zfM hn hn2 hl hc 64 I hE (YY rows.length) (zov hc) (by have:=(WA (n:=(rows.length:Int)) ⟨(ZZ hc).1,(ZZ hc).2.1⟩).2;omega)
theorem zyP (hS:Sl I 1 Q3 av n c xs)(hn:n<=100000)(hV:SlN I bv n2 c2 rows)(hn2:n2<=100000)(hDb:KR I)(hl:∀ r∈rows,l<r.length)(hl64:l<=64)(hc:V4 rows.length xs=0):Zt Tryz.prog 68 [.slice bv n2 c2,.slice av n c,.int .i64 l] I (.int .i64 (YR (ZB rows xs l 64 (YY rows.length)))):=by
 intro g H w hw;refine qe Tryz.func68 Tryz.ntmps68 hw ?_;have hIc:=zGN I;obtain ⟨hs,hV⟩:=hV;have hH:=hV.1;have hlV:=hV.len;have hal:=(ZZ hc).1;have hal6:=(ZZ hc).2.1;have hsl:=zsI (rows:=rows) (l:=l);have hsh:=zfj (n:=(n2:Int)) ⟨kB,kB⟩;refine zR ?_;refine QG U U U (fun b_3=>?_);refine QG U U U (fun b_4=>?_);refine QG U U U (fun b_5=>?_);refine zA ?_;refine zN (zR ?_);refine ZV U U (fun r_14=>?_);refine UJ (m:=[]) (ek:=eiv) (ev:=eiv) (a:=0) 0 VU Z3 U U U U (by repeat (first | exact Upd.here | apply Upd.there | apply QH)) ?_;refine zM ?_;refine Qs zBM U U (fun b_7=>?_);refine zS zxS ?_;refine zN (Ql (zR ?_));refine zL Ki ?_;refine zQ Zn ?_;refine zM (zN (Qp ?_));refine zU [(3,_),(4,_),(5,_),(7,_),(16,_),(17,_)] (fun T L0 mz E I' loc'=>∃ (k:Nat),mz=n2-k/\E=(18,.int .i64 k)::T/\I=I'/\[(b_7,.cells #[.map (some r_14)] 209 (0,0)),(r_14,Z7 eiv eiv (stM (rows.take k) l)),(b_5,.cells #[.int .i64 l] 3 (0,0)),(b_4,.cells #[.slice av n c] 37 (0,0)),(b_3,.cells #[.slice bv n2 c2] 33 (0,0))]=loc'/\k<=n2) ?_ (h:=⟨0,U,U,U,U,jf _⟩);rintro mz E I' loc' ⟨k,rfl,rfl,rfl,rfl,hk⟩;refine zR (zC (zN (Ql ?_)));refine zI ?_ ?_<;>intro hc19
 ·have hlt_k:k<n2:=(by have h:=hc19;simp at h;omega);obtain ⟨x,v,hx,hv,hQ⟩:=hV.at hlt_k;have hlv:=hl v (jd hv);have hu:=Zc (d:=0) U hlv;have hvn:=hQ.len;refine Qo (Qa (Ql (Qp (zR ?_))));refine zV (zX Zn hH) ?_;refine zV (Qd U QK (fun hg=>by exact zGG hH hx U)) ?_;refine zA ?_;refine zN (zR ?_);refine zM ?_;refine zL Qq ?_;refine zV (zX Qx hQ) ?_;refine zV (Qd U Qq (fun hg=>by exact zGG hQ hu U)) ?_;refine zC (zN ?_);refine zI ?_ ?_<;>intro hc26
  focus
   have hne:v.getD l 0≠8589934592:=(by simpa using hc26);have hD:=zGN I;refine YZ ?_;refine ZA I [(b_7,.cells #[.map (some r_14)] 209 (0,0)),(b_5,.cells #[.int .i64 l] 3 (0,0)),(b_4,.cells #[.slice av n c] 37 (0,0)),(b_3,.cells #[.slice bv n2 c2] 33 (0,0))] mixed ?_;refine zT 0 U (Qd U zdb (fun hg=>by exact QB.h0 U)) hD ?_;refine zT 1 U (Qj U) hD ?_;refine zT 2 U (Qd U Qq (fun hg=>by exact QB.h1 U)) hD ?_;refine zT 3 U (zX Qx hQ) hD ?_;refine zT 4 U (Qd U Qq (fun hg=>by exact zGG hQ hu U)) hD ?_;refine qd 5 U ?_;refine Q6 (m:=stM (rows.take k) l) (ek:=eiv) (ev:=eiv) (a:=v.getD l 0) 0 VU Z3 U U U U (by repeat (first | exact Upd.here | apply Upd.there | apply QH)) ?_;refine Qb ?_;refine zD hD ?_;refine Qz kA ?_;refine QD ?_;rw [zu2 hv hne];refine Qg (Qa (Qf (zB ?_)))
  rotate_left
  have heq:v.getD l 0=8589934592:=(by simpa using hc26);rw [zqf hv heq];refine Qo (Qg (Qa (Qf (zB ?_))))
  all_goals
   refine zM (Qb ?_);exact zm (h:=⟨n2-(k+1),kB,k+1,U,U,U,U,kB⟩)
 have hge_k:n2<=k:=(by have h:=hc19;simp at h;omega);rw [jD (show rows.length<=k by omega)];refine QF (Qh (Qh (Qm (Qa (zR ?_)))));refine Qs zBr U U (fun b_10=>?_);refine zN (zR ?_);refine zV (QN (us:=[]) (vs:=[_,_,_,_,_]) U U) ?_;refine zS zxk ?_;refine zN (zR ?_);refine zA (zN (Ql (Ql ?_)));refine Jg (fun I2 hI2 hall=>?_);have hS:=hS.mono hI2;have hV:=hV.mono hI2;have hDb:=hDb.mono hI2;have hIc:=hIc.trans hI2;have hE:PrE I2 147 b_3 b_5 b_7 b_4 b_10 r_14 av bv n c n2 c2 xs rows l:=⟨.imm (hall _ _ kF) U,.imm (hall _ _ kF) U,.imm (hall _ _ kF) U,.imm (hall _ _ kF) U,.imm (hall _ _ kF) U,hall _ _ kF,hDb,hS,⟨hs,hV⟩⟩;have hD:=zGN I2;refine KF mixed ?_;refine zT 0 U (Qd U zgO (fun hg=>by exact hE.bel.any)) hD ?_;refine zT 1 U (Qd U Ki (fun hg=>by exact hE.row.any)) hD ?_;refine zT 2 U (ZX U Zn) hD ?_;refine zT 3 U (zaA U U (fun hg=>kB)) hD ?_;refine zT 4 U (ZL U U U (fun hg=>kB)) hD ?_;refine qd 5 U ?_;refine Z1 (cap:=[QZ b_3,QZ b_5,QZ b_7,QZ b_4,QZ b_10]) (vs:=[_]) U U zg0 (by exact .nil) (znb hE hn hn2 hl hc) U U ?_;rintro vv3 I3 L3 hI3 ⟨rfl,rm2,m,rfl,hM2,hR2⟩;have hIc:=hIc.trans hI3;have hD:=hD.trans hI3;have hml:=hR2.small;have hmp:=hR2.ne;refine Qb ?_;refine zD hD ?_;refine qd 6 U ?_;refine Uj (ek:=eiv) (ev:=eiv) (m:=m) U VU U U (.inl hM2) (fun b_40=>?_);refine Qb ?_;refine zD hD ?_;refine Qz kA ?_;refine QD ?_;refine Qa (Qp ?_);refine zU [(40,_)] (fun T L0 mz E I' loc'=>∃ (seen:List Nat) (v6:Value) (q6:Nat) (L:Go.Kn.Loc),mz=m.length-seen.length/\E=(11,v6)::T/\I3=I'/\L++[(b_40,Vt rm2 m.length seen)]=loc'/\OwnS 3 1 v6 q6 (((zn9 m seen).map (·.2)).flatMap Q3) L/\q6=seen.length/\seen.Nodup/\∀ i∈seen,i<m.length) ?_ (h:=⟨[],_,0,[],U,U,U,U,OwnS.nil,U,.nil,fun i h=>by cases h⟩);rintro mz E I' loc' ⟨seen,v6,q6,L,rfl,rfl,rfl,rfl,hO6,hq6,hnd,hlt⟩;have hsl6:=Ue hnd hlt;refine zR ?_;refine Ul (ek:=eiv) (ev:=eiv) (m:=m) (fun s'=>L++[(b_40,Vt rm2 m.length s')]) U (fun s'=>QH .here) U U U U U (.inl hM2) kK ?_;intro t tv s' hno hyes;refine zN (Ql ?_);refine zI ?_ ?_<;>intro hc42
 ·obtain ⟨i,q,hq,hns,rfl⟩:=hyes hc42;refine Qo (Qa (Qp (zR ?_)));refine zV (KX (ek:=eiv) (ev:=eiv) (m:=m) (p:=q) (seen:=seen) (i:=i) U (.inl hM2) (.inr kK) hq) ?_;refine zE ?_;refine zA (zN (Qf ?_));refine zM ?_;refine zM ?_;refine zpb [(0,_)] [Q3 q.2] Zw (fun b_47=>?_);refine zpa (_) ([q.2].flatMap Q3) (L) U U Zw hO6 ⟨U,fun _=>U,zGL⟩ (JH _) ?_;intro v9 L9 hO9 _;rw [<-jo] at hO9;refine zA (Qb (Qg ?_));have hs9:=KG hnd hlt hns (jc.1 hq).1;exact zm (h:=⟨m.length-(seen++[i]).length,by rw [jh,jG];have:=hs9.2.2;rw [jh,jG] at this;omega,seen++[i],v9,q6+1,L9,U,U,U,U,by rw [zeg hq,jZ];exact hO9,by rw [jh,jG];omega,hs9.1,hs9.2.1⟩)
 obtain ⟨rfl,hall2⟩:=hno hc42;have hlen6:=(zbW hnd hlt hall2).length_eq;rw [OU] at hlen6;refine QF (Qh (Qh (Qm (Qa (Ql ?_)))));refine KO hO6 Zh kE QO (fun I5 hI5 af5 cf5 ef5 hLst=>?_);subst ef5;have hIc:=hIc.trans hI5;refine Qf (zM ?_);refine qcV (vs:=[_]) U zg7 (zdL (zkq hR2 (zgn hnd hlt hall2)) hLst kB kB) ?_;refine zA (zN (Qr ?_));exact zp hIc U U kL
theorem zsH (hS:Sl I 1 Q3 av n c xs)(hn:n<=100000)(hV:SlN I bv n2 c2 rows)(hn2:n2<=100000)(hDb:KR I)(hr:YL rows=0)(hc:V4 rows.length xs=0):Zt Tryz.prog 25 [.slice bv n2 c2,.slice av n c] I (.int .i64 (Yv rows xs)):=by
 intro g H w hw;refine qe Tryz.func25 Tryz.ntmps25 hw ?_;obtain ⟨hs,hV⟩:=hV;have hH:=hV.1;have hlV:=hV.len;obtain ⟨hr1,hr6,hr64,hrr⟩:=Uh hr;obtain ⟨x0,v0,hx0,hv0,hQ0⟩:=hV.at (show 0<n2 by omega);have hw0:=hQ0.len;have hg0:=Q1 (d:=([]:List Int)) hv0;have hv64:v0.length<=64:=(by rw [<-hg0];exact hr64);refine zR (zA (zN (Ql (zR ?_))));refine zM ?_;refine zV (zX Zn hH) ?_;refine zV (Qd U QK (fun hg=>by exact zGG (k:=0) hH hx0 U)) ?_;refine zQ Qx ?_;refine zM (zN (Qp ?_));refine zU [(0,_),(1,_),(9,_)] (fun T L0 mz E I' loc'=>∃ (k:Nat) (sm:Int),mz=v0.length-k/\E=(4,.int .i64 sm)::(10,.int .i64 k)::T/\I=I'/\[]=loc'/\k<=v0.length/\sm=zcP rows xs k/\0<=sm/\sm<=k*1099511627776) ?_ (h:=⟨0,_,U,U,U,U,jf _,U,Aq _,(show (0:Int)<=((0:Nat):Int)*1099511627776 by decide)⟩);rintro mz E I' loc' ⟨k,sm,rfl,rfl,rfl,rfl,hk,hsm,hs1,hs2⟩;refine zR (zC (zN (Ql ?_)));refine zI ?_ ?_<;>intro hc11
 ·have hlt_k:k<v0.length:=(by have h:=hc11;simp at h;omega);refine Qo (Qa (Ql (Qp (zR (zM ?_)))));refine zA (zN (Qf ?_));refine zM ?_;refine zM ?_;refine zM ?_;refine zM ?_;refine qcV (vs:=[_,_,_]) U zBV (zyP (l:=k) hS hn ⟨hs,hV⟩ hn2 hDb (fun r hm=>by rw [(hrr r hm).1,hg0];omega) kB hc) ?_;refine zV (ZL U U U (fun _=>by (have hmi:0<=YR (ZB rows xs k 64 (YY rows.length))/\YR (ZB rows xs k 64 (YY rows.length))<=1099511627776:=zcX (cs:=(ZB rows xs k 64 (YY rows.length))) (Wl _ _) (by rw [XM];exact zf5) (ZB rows xs k 64 (YY rows.length)).length;omega))) ?_;refine zA (Qb (Qg (Qa (Qf ?_))));refine zB ?_;refine zM (Qb ?_);exact zm (h:=⟨v0.length-(k+1),kB,k+1,_,U,U,U,U,kB,by rw [zcK,hsm],by have hmi:0<=YR (ZB rows xs k 64 (YY rows.length))/\YR (ZB rows xs k 64 (YY rows.length))<=1099511627776:=zcX (cs:=(ZB rows xs k 64 (YY rows.length))) (Wl _ _) (by rw [XM];exact zf5) (ZB rows xs k 64 (YY rows.length)).length;omega,by have hmi:0<=YR (ZB rows xs k 64 (YY rows.length))/\YR (ZB rows xs k 64 (YY rows.length))<=1099511627776:=zcX (cs:=(ZB rows xs k 64 (YY rows.length))) (Wl _ _) (by rw [XM];exact zf5) (ZB rows xs k 64 (YY rows.length)).length;omega⟩)
 have hge_k:k=v0.length:=(by have h:=hc11;simp at h;omega);refine QF (Qh (Qh (Qm (Qa (zR (zM ?_))))));refine zA (zN (Qr ?_))
 first
 | exact zr U U (by rw [hsm,hge_k,<-hg0];rfl)
end
end Go.Proofs.YtmbjmjbjdgjonaaGreatDoor
namespace Go.Kn
section
open Go
def zpM {α:Type}(P:Program)(f:FuncId)(cap:List Value)(I:Qt)(rel:Value->α->Qt->Prop)(xs:List α):Prop:=
 ∀ g l (J Jx:List α->Qt->Qt->Prop),(∀ pre I1 I2 H',HLe I1 I2->J pre I1 H'->J pre I2 H')->
  (∀ pre x v I' H',pre++[x]<+:xs->HLe I I'->rel v x I'->J pre I' H'->WQ P g l [v] I' H' fun b I2 H2=>if b then J (pre++[x]) I2 H2 else Jx (pre++[x]) I2 H2)->
  ∀ I0 H w,HLe I I0->J [] I0 H->St g I0 H [] w->Calls P f ((.func (.yield l) #[] #[]:Value)::cap).toArray w fun e w'=>∃ v I' H',e= .returned v/\HLe I0 I'/\St g I' H' [] w'/\(J xs I' H'\/∃ pre,pre<+:xs/\Jx pre I' H')
section
variable {g:World} {I I' H:Qt} {loc loc' L K A B:Loc} {w w':World}
theorem St.join2 (h:St g I (Vz H L) K w)(hn:(L.map (·.1)).Nodup)(hd:∀ b o,(b,o)∈L->H b=none):St g I H (K++L) w:=by
 have h':=h.swap hn hd;have hK:∀ b o,(b,o)∈K->H b=none:=fun b o hm=>(J0 (h.sepIL b o hm).2).1;refine ⟨h.os,h.tape,h.out,h.size,h.imm,fun b o e=>?_,fun b o hm=>?_,fun b=>?_,fun b o hm=>?_,?_⟩
 ·refine h.frm b o ?_;rw [Xv (fun p hp=>by rw [hd b p hp] at e;cases e)];exact e
 ·rcases jv.1 hm with hm | hm
  ·exact h.own b o hm
  ·exact h'.own b o hm
 ·rcases h.sepIH b with e | e
  ·exact .inl e
  ·exact .inr (J0 e).1
 ·rcases jv.1 hm with hm | hm
  ·exact ⟨(h.sepIL b o hm).1,hK b o hm⟩
  ·exact ⟨(h'.sepIL b o hm).1,hd b o hm⟩
 ·rw [jZ,Oz];refine ⟨h.nodup,hn,fun x hx y hy e=>?_⟩;subst e;obtain ⟨⟨b,o⟩,hm,rfl⟩:=jt.1 hx;obtain ⟨⟨c,p⟩,hm',e⟩:=jt.1 hy;simp only at e;subst e;exact (J0 (h.sepIL _ _ hm).2).2 p hm'
theorem St.permL (h:St g I H loc w)(hp:loc'.Perm loc):St g I H loc' w:=h.perm (fun _p=>hp.mem_iff) ((hp.map (·.1)).nodup_iff.2 h.nodup)
end
theorem KK {A B C:Loc}(h:KE B C):KE (A++B) (A++C):=by
 induction A with
 | nil=>exact h
 | cons x l ih=>exact .keep ih
def zeZ {α:Type}(g:World)(Z:Loc)(Jc:List α->Qt->Qt->Loc->Prop)(Jx:Code->List α->Qt->Qt->Loc->Prop)(pre:List α):Exit->Act->World->Prop
 | .normal,_,w=>∃ I H L,Jc pre I H L/\St g I H (L++Z) w
 | .ret,_,w=>∃ I H L,Jx .ret pre I H L/\St g I H (L++Z) w
 | .exit id,_,w=>∃ I H L,Jx (.exit id) pre I H L/\St g I H (L++Z) w
 | _,_,_=>False
section
variable {α:Type} {C:Cx} {Q:Exit->Act->World->Prop} {E E':Env} {I I':Qt} {loc loc' L Z R:Loc}
variable {Jc:List α->Qt->Qt->Loc->Prop} {Jx:Code->List α->Qt->Qt->Loc->Prop} {pre:List α}
theorem UR (h:Jc pre I C.H L)(hs:KE (L++Z) loc):At C (zeZ C.g Z Jc Jx pre) .normal E I loc:=fun _ _ _ hw=>⟨I,C.H,L,h,hw.subL hs⟩
theorem JO (h:Jx .ret pre I C.H L)(hs:KE (L++Z) loc):At C (zeZ C.g Z Jc Jx pre) .ret E I loc:=fun _ _ _ hw=>⟨I,C.H,L,h,hw.subL hs⟩
end
section
variable {α:Type} {P:Program} {N:Nat} {g:World} {p:Nat} {assign body:Code} {f:FuncId} {cap:List Value} {rel:Value->α->Qt->Prop} {xs:List α} {E:Env} {I H:Qt} {L B:Loc}
def zy1 (fn:FuncId)(tmps:Array Value)(p:Nat)(assign body:Code)(df:Nat)(st:LoopState)(pd:Option Code):Obj:=.loop {state:=st,pending:=pd,fn,tmps,params:= #[p],assign,body,defers:=df}
theorem zhA {fn:FuncId}{tmps:Array Value}{l df:Nat}{w2:World}(Jc:List α->Qt->Qt->Loc->Prop)(Jx:Code->List α->Qt->Qt->Loc->Prop)(Ja:List α->α->Env->Qt->Qt->Loc->Prop)
    (hm:∀ pre I1 I2 H' L',HLe I1 I2->Jc pre I1 H' L'->Jc pre I2 H' L')(hseq:zpM P f cap I rel xs)(hfit0:∀ v,Kf N [] ((p,v)::E) {tmps:=tmps.setIfInBounds p v,defers:=[]})(h0:Jc [] I H L)
    (hass:∀ l Z pre x v I' H' L',pre++[x]<+:xs->HLe I I'->rel v x I'->Jc pre I' H' L'->X ⟨P,some l,N,[],g,H'⟩ (Exit.then (Met ⟨P,some l,N,[],g,H'⟩ fun E2 I2 loc2=>HLe I' I2/\∃ L2,loc2=L2++Z/\Ja pre x E2 I2 H' L2) (fun _ _ _=>False)) assign ((p,v)::E) I' (L'++Z))
    (hbody:∀ l Z pre x E2 I2 H2 L2,(∃ r0,(l,Obj.loop r0)∈Z)->pre++[x]<+:xs->HLe I I2->Ja pre x E2 I2 H2 L2->X ⟨P,some l,N,[],g,H2⟩ (zeZ g Z (fun q I3 H3 L3=>HLe I2 I3/\Jc q I3 H3 L3) (fun c q I3 H3 L3=>HLe I2 I3/\Jx c q I3 H3 L3) (pre++[x])) body E2 I2 (L2++Z))
    (hw2:St g I H (L++((l,zy1 fn tmps p assign body df .ready none)::B)) w2):
    Calls P f ((.func (.yield l) #[] #[]:Value)::cap).toArray w2 fun e w'=>∃ v,e= .returned v/\
      ((∃ I' H' L',HLe I I'/\Jc xs I' H' L'/\St g I' H' (L'++((l,zy1 fn tmps p assign body df .ready none)::B)) w')\/
       (∃ c pre I' H' L',HLe I I'/\pre<+:xs/\Jx c pre I' H' L'/\St g I' H' (L'++((l,zy1 fn tmps p assign body df .done (some c))::B)) w')):=by
  let rc:=zy1 fn tmps p assign body df;let Lr:LoopState->Option Code->Loc->Loc:=fun st pd L'=>L'++((l,rc st pd)::B);let J:List α->Qt->Qt->Prop:=fun pre I' H'=>∃ H0 L',Jc pre I' H0 L'/\HLe I I'/\H'=Vz H0 (Lr .ready none L')/\((Lr .ready none L').map (·.1)).Nodup/\∀ b o,(b,o)∈Lr .ready none L'->H0 b=none;let Jy:List α->Qt->Qt->Prop:=fun pre I' H'=>∃ c H0 L',Jx c pre I' H0 L'/\HLe I I'/\H'=Vz H0 (Lr .done (some c) L')/\((Lr .done (some c) L').map (·.1)).Nodup/\∀ b o,(b,o)∈Lr .done (some c) L'->H0 b=none;have hJ0:J [] I (Vz H (Lr .ready none L)):=⟨H,L,h0,zGN I,U,hw2.nodup,fun b o hm=>(hw2.sepIL b o hm).2⟩;refine (hseq g l J Jy (fun pre I1 I2 H' h12 ⟨H0,L',h1,h2,h3,h4,h5⟩=>⟨H0,L',hm pre I1 I2 H0 L' h12 h1,h2.trans h12,h3,h4,h5⟩) ?_ I _ _ (zGN I) hJ0 hw2.hide).mono ?_
  · intro pre x v I' H' hpre hI hrel ⟨H0,L',hJc,_,hH,hnd,hdj⟩ lit W hW
    subst hH;have hS0:=hW.join2 hnd hdj
    have hS1:St g I' H0 (L'++((l,rc .ready none)::(B++lit))) W:=hS0.permL (by
      have:(L'++((l,rc .ready none)::(B++lit)))=(L'++((l,rc .ready none)::B))++lit:=by simp
      rw [this];exact OP)
    have hrec:W.heap[l]? =some (rc .ready none):=hS1.own _ _ kK;refine ⟨fn,_,assign,body,run_yield (P:=P) hrec kK,?_⟩;refine roundIn_of_wpIn (F:=Fence.wide) trivial ?_;have htm:((#[p]:Array Tmp).zip #[v]).foldl (fun tmps (t,v)=>tmps.setIfInBounds t v) tmps=tmps.setIfInBounds p v:=(by simp);show Code.wpIn _ _ _ _ _ {tmps:=((#[p]:Array Tmp).zip #[v]).foldl (fun tmps (t,v)=>tmps.setIfInBounds t v) tmps,defers:=[]} _;rw [htm];have hA:=hass l ((l,rc .ready none)::(B++lit)) pre x v I' H0 L' hpre hI hrel hJc _ W (hfit0 v) hS1;refine Aj (F:=Fence.wide.inRound l) (n:=0) (P:=P) (show assign.wpIn (Fence.wide.inRound l) 0 P _ _ _ from hA) ?_;intro e a1 W1 hq
    cases e with
    | normal=>
      obtain ⟨E2,I2,loc2,⟨hI2,L2,rfl,hJa⟩,hf2,hs2⟩:=hq;have hrec1:W1.heap[l]? =some (rc .ready none):=hs2.own _ _ kK;have hs4:=hs2.putObj (o':=rc .busy none) (b:=l) (QH .here);refine ⟨_,run_beginRound (P:=P) hrec1 U,?_⟩;have hB:=hbody l ((l,rc .busy none)::(B++lit)) pre x E2 I2 H0 L2 ⟨_,jk ..⟩ hpre (hI.trans hI2) hJa a1 _ hf2 hs4;refine Aj (F:=Fence.wide.inRound l) (n:=0) (P:=P) (show body.wpIn (Fence.wide.inRound l) 0 P _ _ _ from hB) ?_
      have fin:∀ (W3:World) (I3 H3:Qt) (L3:Loc) (jump:Option Code) (st:LoopState),St g I3 H3 (L3++((l,rc .busy none)::(B++lit))) W3->(st=if jump.isNone then .ready else .done)->
          ∃ W4,(Instr.endRound l jump).run P W3= .ok (.bool jump.isNone) W4/\St g I3 (Vz H3 (Lr st jump L3)) lit W4/\((Lr st jump L3).map (·.1)).Nodup/\∀ b o,(b,o)∈Lr st jump L3->H3 b=none:=by
        intro W3 I3 H3 L3 jump st hs hst;have hrec3:W3.heap[l]? =some (rc .busy none):=hs.own _ _ kK;have hs6:=hs.putObj (o':=rc st jump) (b:=l) (QH .here)
        have hs7:St g I3 H3 (lit++Lr st jump L3) (W3.putObj l (rc st jump)):=hs6.permL (by
          have:(L3++((l,rc st jump)::(B++lit)))=Lr st jump L3++lit:=by simp [Lr]
          rw [this];exact OP)
        have hs8:=hs7.rest QO;refine ⟨_,run_endRound (P:=P) jump hrec3,?_,hs8.nodup,fun b o hm=>(hs8.sepIL b o hm).2⟩;rw [<-hst];exact hs7.hideR
      intro e a3 W3 hq
      cases e with
      | normal=>
        obtain ⟨I3,H3,L3,⟨hI3,hJ3⟩,hs⟩:=hq;obtain ⟨W4,h1,h2,h3,h4⟩:=fin W3 I3 H3 L3 none .ready hs U;exact ⟨_,W4,h1,true,I3,_,U,hI2.trans hI3,h2,H3,L3,hJ3,(hI.trans hI2).trans hI3,U,h3,h4⟩
      | ret=>
        obtain ⟨I3,H3,L3,⟨hI3,hJ3⟩,hs⟩:=hq;obtain ⟨W4,h1,h2,h3,h4⟩:=fin W3 I3 H3 L3 (some .ret) .done hs U;exact ⟨_,W4,h1,false,I3,_,U,hI2.trans hI3,h2,.ret,H3,L3,hJ3,(hI.trans hI2).trans hI3,U,h3,h4⟩
      | exit id=>
        obtain ⟨I3,H3,L3,⟨hI3,hJ3⟩,hs⟩:=hq;obtain ⟨W4,h1,h2,h3,h4⟩:=fin W3 I3 H3 L3 (some (.exit id)) .done hs U;exact ⟨_,W4,h1,false,I3,_,U,hI2.trans hI3,h2,.exit id,H3,L3,hJ3,(hI.trans hI2).trans hI3,U,h3,h4⟩
      | goto t=>exact hq.elim
      | panic c=>exact hq.elim
      | outgrown=>exact hq.elim
    | _=>exact hq.elim
  · rintro e w' ⟨v,I',H',rfl,hI,hs,hJ | ⟨pre,hpre,hJ⟩⟩
    · obtain ⟨H0,L',hJc,hI1,rfl,hnd,hdj⟩:=hJ
      have hs1:=hs.join2 hnd hdj;exact ⟨v,U,.inl ⟨I',H0,L',hI1,hJc,by simpa using hs1⟩⟩
    · obtain ⟨c,H0,L',hJc,hI1,rfl,hnd,hdj⟩:=hJ
      have hs1:=hs.join2 hnd hdj;exact ⟨v,U,.inr ⟨c,pre,I',H0,L',hI1,hpre,hJc,by simpa using hs1⟩⟩
end
section
variable {α:Type} {P:Program} {N:Nat} {g:World} {H:Qt} {Q:Exit->Act->World->Prop} {gop:Operand} {p:Nat} {assign body:Code} {f:FuncId} {cap:List Value} {rel:Value->α->Qt->Prop} {xs:List α} {E:Env} {I:Qt} {L:Loc}
theorem zaD {ms:List Nat}(Jc:List α->Qt->Qt->Loc->Prop)(Jx:Code->List α->Qt->Qt->Loc->Prop)(Ja:List α->α->Env->Qt->Qt->Loc->Prop)
  (hm:∀ pre I1 I2 H' L',HLe I1 I2->Jc pre I1 H' L'->Jc pre I2 H' L')(hg:Qv [] E gop=some (.func (.func f) #[] cap.toArray))(hF:Fun P f)(hseq:zpM P f cap I rel xs)(hp:Nat.blt p N=true)(h0:Jc [] I H L)
  (hass:∀ l Z pre x v I' H' L',pre++[x]<+:xs->HLe I I'->rel v x I'->Jc pre I' H' L'->X ⟨P,some l,N,[],g,H'⟩ (Exit.then (Met ⟨P,some l,N,[],g,H'⟩ fun E2 I2 loc2=>HLe I' I2/\∃ L2,loc2=L2++Z/\Ja pre x E2 I2 H' L2) (fun _ _ _=>False)) assign ((p,v)::E) I' (L'++Z))
  (hbody:∀ l Z pre x E2 I2 H2 L2,(∃ r0,(l,Obj.loop r0)∈Z)->pre++[x]<+:xs->HLe I I2->Ja pre x E2 I2 H2 L2->X ⟨P,some l,N,[],g,H2⟩ (zeZ g Z (fun q I3 H3 L3=>HLe I2 I3/\Jc q I3 H3 L3) (fun c q I3 H3 L3=>HLe I2 I3/\Jx c q I3 H3 L3) (pre++[x])) body E2 I2 (L2++Z))
  (hdone:∀ bd I' H' L',HLe I I'->Jc xs I' H' L'->At ⟨P,none,N,mk (bd::ms),g,H'⟩ Q .normal E I' (L'++MB (bd::ms)))
  (hstop:∀ c bd pre I' H' L',HLe I I'->pre<+:xs->Jx c pre I' H' L'->X ⟨P,none,N,mk (bd::ms),g,H'⟩ Q c E I' (L'++MB (bd::ms))):
  X ⟨P,none,N,mk ms,g,H⟩ Q (.rangeFunc gop #[p] assign body) E I (L++MB ms):=by
 intro a w ha hw;refine BM fun fn _=>?_;have hen:=BK (P:=P) (w:=w) fn a.tmps #[p] assign body;generalize hbd:w.heap.size=bd at hen;let rc:=zy1 fn a.tmps p assign body bd
 have hw1:St g I H ((bd+1,rc .ready none)::(bd,.deferred (some []))::(L++MB ms)) ((w.alloc (.deferred (some []))).alloc (rc .ready none)):=by
  have h1:=hw.alloc (.deferred (some []));have h2:=h1.alloc (rc .ready none);rw [B5,hbd] at h2;exact h2
 have hw2:St g I H (L++((bd+1,rc .ready none)::MB (bd::ms))) ((w.alloc (.deferred (some []))).alloc (rc .ready none)):=hw1.permL (by
  have e:L++((bd+1,rc .ready none)::MB (bd::ms))=(L++(bd+1,rc .ready none)::MB ms)++[(bd,.deferred (some []))]:=(by simp [MB]);rw [e];refine OP.trans ?_;have h1:(L++(bd+1,rc .ready none)::MB ms).Perm ((bd+1,rc .ready none)::(L++MB ms)):=O0
  exact (h1.cons _).trans (List.Perm.swap ..))
 have hev:=Qi (S:=[]) ha trivial rfl hg;refine ⟨bd+1,[{target:=.collected bd,args:= #[]}],_,{target:=.fn (.func f) cap.toArray,args:= #[.func (.yield (bd+1)) #[] #[]]},(w.alloc (.deferred (some []))).alloc (rc .ready none),f,((.func (.yield (bd+1)) #[] #[]:Value)::cap).toArray,(w.alloc (.deferred (some []))).alloc (rc .ready none),hen,?_,fun _ _=>trivial,?_,by simp [FR],U6.2 ?_⟩
 ·have e2:a.eval (.const (.func (.yield (bd+1)) #[] #[]))= .func (.yield (bd+1)) #[] #[]:=rfl;simp only [resolve,j6,jx,Oo,e2,hev,Deferred.ofValue];rfl
 ·simp only [invoke,YF hF];simp
 have hfit:∀ v,Kf N [] ((p,v)::E) {tmps:=a.tmps.setIfInBounds p v,defers:=[]}:=fun v=>by
  have h1:=ha.put hp v;exact ⟨h1.size,U,h1.env⟩
 refine (zhA (l:=bd+1) (df:=bd) Jc Jx Ja hm hseq hfit h0 hass hbody hw2).mono ?_;rintro e w' ⟨v,rfl,⟨I',H',L',hI,hJ,hs⟩ | ⟨c,pre,I',H',L',hI,hpre,hJ,hs⟩⟩
 ·have hrec:w'.heap[bd+1]? =some (rc .ready none):=hs.own _ _ (by simp [rc]);have hs2:=hs.putObj (o':=rc .exhausted none) (b:=bd+1) (QH .here);refine ⟨none,_,AN (P:=P) hrec kK,?_⟩;refine hdone bd I' H' L' hI hJ _ _ ⟨ha.size,by simp [ha.defers,mk],ha.env⟩ ?_;exact hs2.subL (KK (.drop .refl))
 ·have hrec:w'.heap[bd+1]? =some (rc .done (some c)):=hs.own _ _ (by simp [rc]);have hs2:=hs.putObj (o':=rc .exhausted (some c)) (b:=bd+1) (QH .here);refine ⟨some c,_,AN (P:=P) hrec kK,?_⟩;refine hstop c bd pre I' H' L' hI hpre hJ _ _ ⟨ha.size,by simp [ha.defers,mk],ha.env⟩ ?_;exact hs2.subL (KK (.drop .refl))
theorem zdv {l0:Nat}{D:List Deferred}{Z:Loc}(hl0:∃ r0,(l0,Obj.loop r0)∈Z)(Jc:List α->Qt->Qt->Loc->Prop)(Jx:Code->List α->Qt->Qt->Loc->Prop)(Ja:List α->α->Env->Qt->Qt->Loc->Prop)
  (hm:∀ pre I1 I2 H' L',HLe I1 I2->Jc pre I1 H' L'->Jc pre I2 H' L')(hg:Qv [] E gop=some (.func (.func f) #[] cap.toArray))(hF:Fun P f)(hseq:zpM P f cap I rel xs)(hp:Nat.blt p N=true)(h0:Jc [] I H L)
  (hass:∀ l Z pre x v I' H' L',pre++[x]<+:xs->HLe I I'->rel v x I'->Jc pre I' H' L'->X ⟨P,some l,N,[],g,H'⟩ (Exit.then (Met ⟨P,some l,N,[],g,H'⟩ fun E2 I2 loc2=>HLe I' I2/\∃ L2,loc2=L2++Z/\Ja pre x E2 I2 H' L2) (fun _ _ _=>False)) assign ((p,v)::E) I' (L'++Z))
  (hbody:∀ l Z pre x E2 I2 H2 L2,(∃ r0,(l,Obj.loop r0)∈Z)->pre++[x]<+:xs->HLe I I2->Ja pre x E2 I2 H2 L2->X ⟨P,some l,N,[],g,H2⟩ (zeZ g Z (fun q I3 H3 L3=>HLe I2 I3/\Jc q I3 H3 L3) (fun c q I3 H3 L3=>HLe I2 I3/\Jx c q I3 H3 L3) (pre++[x])) body E2 I2 (L2++Z))
  (hdone:∀ I' H' L',HLe I I'->Jc xs I' H' L'->At ⟨P,some l0,N,D,g,H'⟩ Q .normal E I' (L'++Z))
  (hstop:∀ c pre I' H' L',HLe I I'->pre<+:xs->Jx c pre I' H' L'->X ⟨P,some l0,N,D,g,H'⟩ Q c E I' (L'++Z)):
  X ⟨P,some l0,N,D,g,H⟩ Q (.rangeFunc gop #[p] assign body) E I (L++Z):=by
 intro a w ha hw;obtain ⟨r0,hr0⟩:=hl0;refine BM fun fn _=>?_;have hrec0:w.heap[l0]? =some (.loop r0):=hw.own _ _ (Bw _ hr0);have hen:=run_enterLoop_inner (P:=P) hrec0 fn a.tmps #[p] assign body;generalize hbd:w.heap.size=bd at hen;let rc:=zy1 fn a.tmps p assign body r0.defers
 have hw1:St g I H ((bd,rc .ready none)::(L++Z)) (w.alloc (rc .ready none)):=by
  have h1:=hw.alloc (rc .ready none);rw [hbd] at h1;exact h1
 have hw2:St g I H (L++((bd,rc .ready none)::Z)) (w.alloc (rc .ready none)):=hw1.permL O0;have hev:=Qi (S:=[]) ha trivial rfl hg;refine ⟨bd,[],_,{target:=.fn (.func f) cap.toArray,args:= #[.func (.yield bd) #[] #[]]},w.alloc (rc .ready none),f,((.func (.yield bd) #[] #[]:Value)::cap).toArray,w.alloc (rc .ready none),hen,?_,fun _ _=>trivial,?_,by simp [FR],U6.2 ?_⟩
 ·have e2:a.eval (.const (.func (.yield bd) #[] #[]))= .func (.yield bd) #[] #[]:=rfl;simp only [resolve,j6,jx,Oo,e2,hev,Deferred.ofValue];rfl
 ·simp only [invoke,YF hF];simp
 have hfit:∀ v,Kf N [] ((p,v)::E) {tmps:=a.tmps.setIfInBounds p v,defers:=[]}:=fun v=>by
  have h1:=ha.put hp v;exact ⟨h1.size,U,h1.env⟩
 refine (zhA (l:=bd) (df:=r0.defers) Jc Jx Ja hm hseq hfit h0 hass hbody hw2).mono ?_;rintro e w' ⟨v,rfl,⟨I',H',L',hI,hJ,hs⟩ | ⟨c,pre,I',H',L',hI,hpre,hJ,hs⟩⟩
 ·have hrec:w'.heap[bd]? =some (rc .ready none):=hs.own _ _ (by simp [rc]);have hs2:=hs.putObj (o':=rc .exhausted none) (b:=bd) (QH .here);refine ⟨none,_,AN (P:=P) hrec kK,?_⟩;refine hdone I' H' L' hI hJ _ _ ⟨ha.size,by simp [ha.defers],ha.env⟩ ?_;exact hs2.subL (KK (.drop .refl))
 ·have hrec:w'.heap[bd]? =some (rc .done (some c)):=hs.own _ _ (by simp [rc]);have hs2:=hs.putObj (o':=rc .exhausted (some c)) (b:=bd) (QH .here);refine ⟨some c,_,AN (P:=P) hrec kK,?_⟩;refine hstop c pre I' H' L' hI hpre hJ _ _ ⟨ha.size,by simp [ha.defers],ha.env⟩ ?_;exact hs2.subL (KK (.drop .refl))
end
def zzA (C:Cx)(M:List Nat->Env->Qt->Qt->Loc->Prop):Act->World->Prop:=fun a w=>∃ ms E I H loc,M ms E I H loc/\Kf C.N (mk ms) E a/\St C.g I H loc w
section
variable {P:Program} {r:Option Nat} {N:Nat} {g:World} {H:Qt} {Q:Exit->Act->World->Prop} {E E':Env} {I I':Qt} {loc loc' L R:Loc} {ms:List Nat}
theorem za0 {M:List Nat->Env->Qt->Qt->Loc->Prop}{C':Cx}(hN:C'.N=N)(hg:C'.g=g)(E':Env)(loc':Loc)(hM:M ms E' I H loc')(hE:Sub E' E)(hs:KE loc' loc):At ⟨P,r,N,mk ms,g,H⟩ (Exit.then (zzA C' M) Q) .normal E I loc:=
 fun _ _ ha hw=>⟨ms,E',I,H,loc',hM,by rw [hN];exact ha.sub hE,by rw [hg];exact hw.subL hs⟩
theorem zq5 {c:Code}(J:Nat->List Nat->Env->Qt->Qt->Loc->Prop)(m0:Nat)(E0:Env)(loc0:Loc)(h0:J m0 ms E0 I H loc0)(hE:Sub E0 E)(hl:KE loc0 loc)
  (round:∀ m ms E I H loc,J m ms E I H loc->X ⟨P,r,N,mk ms,g,H⟩ (Exit.then (zzA ⟨P,r,N,[],g,H⟩ fun ms E I H loc=>∃ m',m'<m/\J m' ms E I H loc) Q) c E I loc):X ⟨P,r,N,mk ms,g,H⟩ Q (.loop c) E I loc:=by
 classical
 intro a w ha hw;let R:Nat->Act->World->Prop:=fun m a w=>∃ ms E I H loc,J m ms E I H loc/\Kf N (mk ms) E a/\St g I H loc w
 have least:∀ a w,(∃ m,R m a w)->∃ m,R m a w/\∀ m',R m' a w->m<=m':=fun a w ⟨m,h⟩=>by
  induction m using Nat.strongRecOn with
  | _ m ih=>
   by_cases h':∃ m',m'<m/\R m' a w
   ·obtain ⟨m',hlt,hm⟩:=h';exact ih m' hlt hm
   ·exact ⟨m,h,fun m' hm=>Br fun hlt=>h' ⟨m',hlt,hm⟩⟩
 let μ:Act->World->Nat:=fun a w=>if h:∃ m,R m a w then Classical.choose (least a w h) else 0
 have hμ:∀ a w,(∃ m,R m a w)->R (μ a w) a w:=fun a w h=>by simp only [μ,BL h];exact (ON (least a w h)).1
 have hle:∀ m a w,R m a w->μ a w<=m:=fun m a w h=>by
  have h':∃ m,R m a w:=⟨m,h⟩;simp only [μ,BL h'];exact (ON (least a w h')).2 m h
 refine wpIn_loop (fun a w=>∃ m,R m a w) μ ⟨m0,ms,E0,I,H,loc0,h0,ha.sub hE,hw.subL hl⟩ fun a w h=>?_;obtain ⟨ms1,E1,I1,H1,loc1,hJ,hf,hs⟩:=hμ a w h;refine Aj (round _ _ _ _ _ _ hJ a w hf hs) fun e a' w' hq=>?_
 cases e with
 | normal=>
  obtain ⟨ms2,E2,I2,H2,loc2,⟨m',hlt,hJ'⟩,hf',hs'⟩:=hq;exact ⟨⟨m',ms2,E2,I2,H2,loc2,hJ',hf',hs'⟩,AK (hle m' a' w' ⟨ms2,E2,I2,H2,loc2,hJ',hf',hs'⟩) hlt⟩
 | _=>exact hq
end
end
end Go.Kn
namespace Go.Proofs.YtmbjmjbjdgjonaaGreatDoor
section
open Go Go.Kn Go.Proofs
def YB (zs:List Int):List Int:=zs.mergeSort fun x y=>decide (x<=y)
def zch (s:Int)(x y:List Int):List Int:=YB ((x++y)++[s])
def WU (X Y:List (List Int))(s:Int):List (List Int):=X.flatMap fun x=>Y.map (zch s x)
def ZE:Nat->Int->List (List Int)
 | 0,_=>[]
 | f+1,s=>if Z5 s=true then [[]] else (zct s 64 (YT s s)).flatMap fun a=>if zey a s then WU (ZE f a) (ZE f (s-a)) s else []
def brI (f:Nat)(s a:Int):List (List Int):=if zey a s then WU (ZE f a) (ZE f (s-a)) s else []
variable{f:Nat}{s:Int}
theorem Wa (h:Z5 s=true):ZE (f+1) s=[[]]:=by simp only [ZE];rw [jb h]
theorem zdc (h:Z5 s=false):ZE (f+1) s=(zct s 64 (YT s s)).flatMap (brI f s):=by simp only [ZE];rw [ja (by rw [h];decide)];rfl
theorem zyA (s:Int)(x y:List Int):(zch s x y).length=x.length+y.length+1:=by unfold zch YB;rw [Bv];simp;omega
theorem U7:∀ (f:Nat) (s:Int),∀ r∈ZE f s,r.length+1<=2^f
 | 0,_=>fun r hr=>by cases hr
 | f+1,s=>fun r hr=>by
  cases h:Z5 s with
  | true=>
   rw [Wa h] at hr;simp at hr;subst hr;exact Nat.one_le_two_pow
  | false=>
   rw [zdc h,Ap] at hr;obtain ⟨a,_,hr⟩:=hr;unfold brI at hr;split at hr
   ·unfold WU at hr;rw [Ap] at hr;obtain ⟨x,hx,hr⟩:=hr;rw [jt] at hr;obtain ⟨y,hy,rfl⟩:=hr;have h1:=U7 f _ x hx;have h2:=U7 f _ y hy;rw [zyA,Nat.pow_succ];omega
   ·cases hr
variable{pre:List (List Int)}{x:List Int}
theorem zlF (hf:f<=7)(h:pre++[x]<+:ZE f s):x.length<=127:=by have:=U7 f s x (h.subset kK);have h2:2^f<=2^7:=AC kE hf;omega
variable{Y:List (List Int)}
theorem zuY :WU [] Y s=[]:=rfl
variable{X:List (List Int)}
theorem zrp :WU X Y s++Y.map (zch s x)=WU (X++[x]) Y s:=by unfold WU;rw [jo];simp
variable{y:List Int}
theorem zwH {X0 Y0:List (List Int)}(hx:X0++[x]<+:X)(hy:Y0++[y]<+:Y):(WU X0 Y s++Y0.map (zch s x))++[zch s x y]<+:WU X Y s:=by
 obtain ⟨u,rfl⟩:=hx;obtain ⟨v,hv⟩:=hy
 have:WU (X0++[x]++u) Y s=(WU X0 Y s++Y0.map (zch s x))++[zch s x y]++(v.map (zch s x)++WU u Y s):=by
  have e:Y.map (zch s x)=Y0.map (zch s x)++[zch s x y]++v.map (zch s x):=(by rw [<-hv];simp);have:WU (X0++[x]++u) Y s=WU X0 Y s++(Y.map (zch s x)++WU u Y s):=by unfold WU;simp
  rw [this,e];simp
 rw [this];exact List.prefix_append _ _
variable{a:Int}{q:Nat}
theorem zc7 (ha:a>0):zct s (q+1) a=a::zct s q (YT s a):=by show (if decide (a>0) then a::zct s q (YT s a) else [])=_;rw [jb (by simpa using ha)]
theorem zwb (ha:¬a>0):zct s q a=[]:=by
 cases q with
 | zero=>rfl
 | succ q=>show (if decide (a>0) then a::zct s q (YT s a) else [])=_;rw [ja (by simpa using ha)]
theorem zfL:((List.range 64).all fun s=>(List.range 64).all fun a=>a==0||(JK (YT (s:Int) (a:Int)) (s:Int)==YT (s:Int) (a:Int)))=true:=kA
theorem XE (hs:1<=s/\s<=63)(ha:1<=a/\a<=63):JK (YT s a) s=YT s a:=by have h0:=ji.1 zfL s.toNat (jm.2 kB);have h0:=ji.1 h0 a.toNat (jm.2 kB);rw [show ((s.toNat:Nat):Int)=s by omega,show ((a.toNat:Nat):Int)=a by omega,show (a.toNat==0)=false by simp;omega] at h0;simpa using h0
theorem zqt:((List.range 64).all fun s=>(List.range 64).all fun a=> !(JK (a:Int) (s:Int)==(a:Int))||(zdS (s:Int) (a:Int)==(s:Int)-(a:Int)))=true:=kA
theorem zt0 (hs:1<=s/\s<=63)(ha:0<=a/\a<=63)(h:JK a s=a):zdS s a=s-a:=by have h0:=ji.1 zqt s.toNat (jm.2 kB);have h0:=ji.1 h0 a.toNat (jm.2 kB);rw [show ((s.toNat:Nat):Int)=s by omega,show ((a.toNat:Nat):Int)=a by omega,h] at h0;simpa using h0
theorem zym (hs:1<=s/\s<=63)(ha:1<=a/\a<s)(h:JK a s=a)(hl:zey a s=true):Wp a<Wp s/\Wp (s-a)<Wp s:=by
 have:=zCg (s:=s) (a:=a.toNat) hs kB kB (by
  rw [show ((a.toNat:Nat):Int)=a by omega]
  unfold zb7;rw [h,hl];simp)
 rw [show ((a.toNat:Nat):Int)=a by omega] at this;exact this
variable{dn B:List (List Int)}{z:List Int}
theorem zw1 {p:List (List Int)}(ha:a>0)(h:dn++(zct s (q+1) a).flatMap (brI f s)=B)(hl:zey a s=true)(hp:p++[z]<+:WU (ZE f a) (ZE f (s-a)) s):(dn++p)++[z]<+:B:=by obtain ⟨u,hu⟩:=hp;rw [<-h,zc7 ha,jO,show brI f s a=WU (ZE f a) (ZE f (s-a)) s from by unfold brI;rw [jb hl],<-hu];exact ⟨u++(zct s q (YT s a)).flatMap (brI f s),by simp⟩
theorem zoD (ha:a>0)(h:dn++(zct s (q+1) a).flatMap (brI f s)=B)(hl:zey a s=true):(dn++WU (ZE f a) (ZE f (s-a)) s)++(zct s q (YT s a)).flatMap (brI f s)=B:=by rw [zc7 ha,jO] at h;rw [<-h,show brI f s a=WU (ZE f a) (ZE f (s-a)) s from by unfold brI;rw [jb hl],jn]
theorem zrV (ha:a>0)(h:dn++(zct s (q+1) a).flatMap (brI f s)=B)(hl:zey a s=false):dn++(zct s q (YT s a)).flatMap (brI f s)=B:=by rw [zc7 ha,jO] at h;rw [<-h,show brI f s a=[] from by unfold brI;rw [ja (by rw [hl];decide)],j8]
def zrv (v:Value)(x:List Int)(I:Qt):Prop:=∃ a n c,v= .slice a n c/\Sl I 1 Q3 a n c x
variable{C:Cx}{P:Program}{fn:Func}{R:Ending->World->Prop}{E:Env}{I:Qt}{loc:Go.Kn.Loc}
theorem zdC (h:At C (bodyPostM Fence.wide 0 P fn R) .ret E I loc):At C (bodyPostM Fence.wide 0 P fn R) .normal E I loc:=h
variable{t:TypeId}
theorem zdk {b n1 c1 n2 c2:Nat}{a1 a2:Option Addr}(h:I b=some (.cells (([KU ⟨a1,n1,c1⟩,KU ⟨a2,n2,c2⟩]:List (List Value)).flatten).toArray t (0,0)))(hx:Sl I 1 Q3 a1 n1 c1 x)(hy:Sl I 1 Q3 a2 n2 c2 y):SlN I (some ⟨b,0,none⟩) 2 2 [x,y]:=by
 refine ⟨[⟨a1,n1,c1⟩,⟨a2,n2,c2⟩],⟨U,js _,fun _=>U,fun k z hz j u hu=>.imm h ?_⟩,U,fun k z v hz hv=>?_⟩
 ·rw [YU]
  match k,hz with
  | 0,hz=>cases hz;match j,hu with | 0,hu=>exact hu
  | 1,hz=>cases hz;match j,hu with | 0,hu=>exact hu
 ·match k,hz,hv with
  | 0,hz,hv=>cases hz;cases hv;exact hx
  | 1,hz,hv=>cases hz;cases hv;exact hy
variable{vss:List (List Int)}{k:Nat}{v:List Int}
theorem zbV (h:vss[k]? =some v):(vss.take (k+1)).flatten=(vss.take k).flatten++v:=by rw [ZI h,List.flatten_append];simp
theorem zg5 (k:Nat):(vss.take k).flatten.length<=vss.flatten.length:=by have h:=jr (fun l:List (List Int)=>l.flatten.length) (jy k vss);simp only [List.flatten_append,jh] at h;omega
end
end Go.Proofs.YtmbjmjbjdgjonaaGreatDoor
namespace Go.Kn
section
open Go Go.Sort Go.Shelf Go.Lib Go.Proofs
theorem zh9 {w w':World}{L:Loc}(h:St w (fun b=>w.heap[b]?) (fun _=>none) L w'):∃ q os',w'=grow (w.drewN q) os':=by
 refine ⟨w'.drawn-w.drawn,w'.heap.extract w.heap.size w'.heap.size,?_⟩;have h1:=h.size
 have hh:w.heap++w'.heap.extract w.heap.size w'.heap.size=w'.heap:=by
  apply AS;apply Ai;intro i;by_cases hi:i<w.heap.size
  ·have:=h.imm i _ (OX hi);rw [O9,O9,this,Array.getElem?_append_left hi,OX hi]
  ·rw [O9,O9,Array.getElem?_append_right kB,Array.getElem?_extract];by_cases h2:i<w'.heap.size
   ·rw [jb kB,show w.heap.size+(i-w.heap.size)=i by omega]
   ·rw [ja kB,Array.getElem?_eq_none kB]
 have e1:=h.os;have e2:=h.tape;have e3:=h.out;cases w;cases w';simp only [grow,World.drewN] at*;subst e1;subst e2;subst e3;simp only [World.mk.injEq,true_and,and_true];exact ⟨hh.symm,kB⟩
variable{α:Type}{k:Nat}{enc:α->List Value}
theorem zn0 [Inhabited α](hk:∀ x,(enc x).length=k)(hpos:0<k)(xs:List α):flatK enc k xs.toArray=(xs.flatMap enc).toArray:=by
 have hl:(xs.flatMap enc).length=xs.length*k:=ZF hk xs;apply Array.ext
 ·rw [size_flatK];simp [hl]
 ·intro t h1 h2;have ht:t<xs.length*k:=(by rw [size_flatK] at h1;simpa using h1);have hq:t / k<xs.length:=(by rw [Nat.div_lt_iff_lt_mul hpos];exact ht);have hr:t % k<k:=Be _ hpos;have hx:xs[t / k]? =some xs[t / k]:=je hq;have hu:(enc xs[t / k])[t % k]? =some ((enc xs[t / k])[t % k]'(by rw [hk];exact hr)):=je _;have h3:=zak hk xs (t / k) _ hx (t % k) _ hu;rw [Nat.mul_comm,Nat.div_add_mod] at h3;have h4:=get_flatK enc k xs.toArray t (by simpa using ht);rw [Bb (flatK enc k xs.toArray) t h1] at h4;rw [h4];have e1:xs.toArray[t / k]! =xs[t / k]'hq:=(by simp [hq]);rw [e1];have e2:(enc (xs[t / k]'hq))[t % k]! =(enc (xs[t / k]'hq))[t % k]'(by rw [hk];exact hr):=Bb (enc (xs[t / k]'hq)) (t % k) (by rw [hk];exact hr);rw [e2];have e3:(xs.flatMap enc).toArray[t]? =some ((enc xs[t / k])[t % k]'(by rw [hk];exact hr)):=(by simpa using h3);rw [OX h2] at e3;exact (Ob e3).symm
variable{P:Program}{f g0:FuncId}{e:TypeId}{cf:α->α->Int}{v:Value}{n:Nat}
theorem zo1 [Inhabited α](hk:∀ x,(enc x).length=k)(hpos:0<k)
  (hs:∀ (blk off cap:Nat) (d:Array α) (w:World),CmpLays P g0 #[] enc k cf blk off d.size w->HoldsK enc k w blk off d->blk<w.heap.size->d.size<4611686018427387904->
   Calls P f #[.slice (some ⟨blk,off,none⟩) d.size cap,.func (.func g0) #[] #[]] w fun e w'=>e= .returned (.tuple #[])/\∃ d' n os,PermIn 0 d.size d d'/\SortedIn (ltOf cf) 0 d.size d'/\w'=sortWorldK enc k w blk off n d' os)
  (h0:∀ (p:Option Addr) (cap:Nat) (fv:Value) (w:World),Calls P f #[.slice p 0 cap,fv] w fun e w'=>e= .returned (.tuple #[])/\w'=w)
  (hcmp:∀ (I:Qt) (x y:α),Zt P g0 [.agg (enc x).toArray,.agg (enc y).toArray] I (.int .i64 (cf x y)))
  (zs:List α){L:Loc}(hO:OwnS e k v n (zs.flatMap enc) L)(hn:n<=1000000)(I:Qt):
  ZQ P f [v,.func (.func g0) #[] #[]] I L (fun u I' L'=>u= .tuple #[]/\I'=I/\∃ zs':List α,zs'.Perm zs/\zs'.Pairwise (fun x y=>ltOf cf y x=false)/\OwnS e k v n (zs'.flatMap enc) L'):=by
 intro g H w hw
 have hl:zs.length=n:=by
  have:=hO.1;rw [ZF hk] at this;exact Ay hpos this
 subst hl;rcases hO.2 with ⟨rfl,h00,rfl⟩ | ⟨b,c,cur,rfl,rfl,hc,hc2,hsz,htk⟩
 ·have:zs=[]:=jR.1 h00;subst this;refine (h0 none 0 _ w).mono ?_;rintro e w' ⟨rfl,rfl⟩;exact ⟨_,I,[],U,zGN _,hw,U,U,[],.nil,.nil,by simp,.inl ⟨U,U,U⟩⟩
 ·have hb:=hw.own b _ (jA.2 U);have hbs:b<w.heap.size:=(OH.1 hb).1;have hfl:(zs.flatMap enc).length=zs.length*k:=ZF hk zs
  have hH:HoldsK enc k w b 0 zs.toArray:=by
   unfold HoldsK;rw [zn0 hk hpos];exact Xf (enc:=id) hw (jA.2 U) (zs.flatMap enc) (by rw [hfl,htk];simp)
  have hC:CmpLays P g0 #[] enc k cf b 0 zs.toArray.size w:=by
   intro m os dk _ x y
   have h1:=hcmp (fun q=>(sortWorldK enc k w b 0 m dk os).heap[q]?) x y (sortWorldK enc k w b 0 m dk os) (fun _=>none) (sortWorldK enc k w b 0 m dk os)
    ⟨U,U,U,⟨js _,js _⟩,fun _ _ h=>h,(fun _ _ h=>by cases h),(fun _ _ h=>by cases h),fun _=>.inr U,(fun _ _ h=>by cases h),by simp⟩
   refine Calls.mono h1 ?_;rintro e w' ⟨rfl,hs⟩;exact ⟨U,zh9 hs⟩
  have hcall:=hs b 0 c zs.toArray w hC hH hbs kM;rw [Oh] at hcall;refine hcall.mono ?_;rintro e w' ⟨rfl,d',m,os,hp,hsd,rfl⟩;have hps:d'.size=zs.length:=by simpa using hp.1
  have hperm:d'.toList.Perm zs:=by
   have:=hp.2.2;simpa [Array.extract_eq_self_of_le,hps] using this
  have hdl:d'=d'.toList.toArray:=(by simp);have hfd:(d'.toList.flatMap enc).length=zs.length*k:=(by rw [ZF hk,O5,hps]);refine ⟨_,I,[(b,.cells (putCells id 0 (d'.toList.flatMap enc).toArray cur) e (0,0))],U,zGN _,?_,U,U,d'.toList,hperm,?_,?_⟩
  ·unfold sortWorldK putRowK;rw [hdl,zn0 hk hpos];simp only;exact (((hw.aheadN m).rowPut (enc:=id) _ .here).grown os)
  ·rw [jM];intro i j hi hj hij;have:=hsd i j (jf _) hij (by rw [<-hps];simpa using hj);rw [Bb d' i (by simpa using hi),Bb d' j (by simpa using hj)] at this;simpa using this
  ·refine ⟨by rw [hfd],.inr ⟨b,c,_,U,U,hc,hc2,by simp [putCells,hsz],?_⟩⟩;have:=za4 (enc:=id) (cs:=cur) (n:=zs.length*k) (d'.toList.flatMap enc) hfd (by rw [hsz];exact O2 k hc);simpa using this
theorem zra [Inhabited α]{enc:α->Value}
  (hs:∀ (blk off cap:Nat) (d:Array α) (w:World),CmpLays1 P g0 #[] enc cf blk off d.size w->Holds enc w blk off d->blk<w.heap.size->d.size<4611686018427387904->
   Calls P f #[.slice (some ⟨blk,off,none⟩) d.size cap,.func (.func g0) #[] #[]] w fun e w'=>e= .returned (.tuple #[])/\∃ d' n os,PermIn 0 d.size d d'/\SortedIn (ltOf cf) 0 d.size d'/\w'=sortWorld enc w blk off n d' os)
  (h0:∀ (p:Option Addr) (cap:Nat) (fv:Value) (w:World),Calls P f #[.slice p 0 cap,fv] w fun e w'=>e= .returned (.tuple #[])/\w'=w)
  (I:Qt)(hcmp:∀ I',HLe I I'->∀ (x y:α),Zt P g0 [enc x,enc y] I' (.int .i64 (cf x y)))
  (zs:List α){L:Loc}(hO:OwnS e 1 v n (zs.map enc) L)(hn:n<=1000000):
  ZQ P f [v,.func (.func g0) #[] #[]] I L (fun u I' L'=>u= .tuple #[]/\I'=I/\∃ zs':List α,zs'.Perm zs/\zs'.Pairwise (fun x y=>ltOf cf y x=false)/\OwnS e 1 v n (zs'.map enc) L'):=by
 intro g H w hw;have hl:zs.length=n:=(by have:=hO.1;simpa using this);subst hl;rcases hO.2 with ⟨rfl,h00,rfl⟩ | ⟨b,c,cur,rfl,rfl,hc,hc2,hsz,htk⟩
 ·have:zs=[]:=jR.1 h00;subst this;refine (h0 none 0 _ w).mono ?_;rintro e w' ⟨rfl,rfl⟩;exact ⟨_,I,[],U,zGN _,hw,U,U,[],.nil,.nil,by simp,.inl ⟨U,U,U⟩⟩
 ·rw [OB] at hsz htk;have hb:=hw.own b _ (jA.2 U);have hbs:b<w.heap.size:=(OH.1 hb).1;have hH:Holds enc w b 0 zs.toArray:=Xf hw (jA.2 U) zs htk
  have hC:CmpLays1 P g0 #[] enc cf b 0 zs.toArray.size w:=by
   intro m os dk _ x y;have hsw:St g I H _ (sortWorld enc w b 0 m dk os):=((hw.aheadN m).rowPut dk .here).grown os
   have h1:=hcmp (fun q=>(sortWorld enc w b 0 m dk os).heap[q]?) (fun b o h=>hsw.imm b o h) x y (sortWorld enc w b 0 m dk os) (fun _=>none) (sortWorld enc w b 0 m dk os)
    ⟨U,U,U,⟨js _,js _⟩,fun _ _ h=>h,(fun _ _ h=>by cases h),(fun _ _ h=>by cases h),fun _=>.inr U,(fun _ _ h=>by cases h),by simp⟩
   refine Calls.mono h1 ?_;rintro e w' ⟨rfl,hs⟩;exact ⟨U,zh9 hs⟩
  have hcall:=hs b 0 c zs.toArray w hC hH hbs kM;rw [Oh] at hcall;refine hcall.mono ?_;rintro _ w' ⟨rfl,d',m,os,hp,hsd,rfl⟩;have hps:d'.size=zs.length:=by simpa using hp.1
  have hperm:d'.toList.Perm zs:=by
   have:=hp.2.2;simpa [Array.extract_eq_self_of_le,hps] using this
  have hdl:d'=d'.toList.toArray:=(by simp);refine ⟨_,I,[(b,.cells (putCells enc 0 d' cur) e (0,0))],U,zGN _,?_,U,U,d'.toList,hperm,?_,?_⟩
  ·exact (((hw.aheadN m).rowPut d' .here).grown os)
  ·rw [jM];intro i j hi hj hij;have:=hsd i j (jf _) hij (by rw [<-hps];simpa using hj);rw [Bb d' i (by simpa using hi),Bb d' j (by simpa using hj)] at this;simpa using this
  ·refine ⟨by simp [hps],.inr ⟨b,c,_,U,U,hc,hc2,by simp [putCells,hsz],?_⟩⟩;rw [OB,hdl];have:=za4 (enc:=enc) (cs:=cur) (n:=zs.length) d'.toList (by simp [hps]) kB;exact this
section
variable {C:Cx} {Q:Exit->Act->World->Prop} {E:Env} {I:Qt} {loc:Loc} {ops:Array Oper} {rest:List Oper} {d:Nat} {ty:TypeId} {pos:String} {af:Array Edge} {gd:Option (Nat×Bool)} {x y:Operand}
theorem zgD {t tn e size bytes:Nat}{k:Int}(hx:Qv [] E x=some (.slice none 0 0))(hy:Qv [] E y=some (.int .i64 k))(hT:ElT C.P t e size bytes)(htn:C.P.underlying tn=some (.int .i64))
  (hk:0<k)(hsz:0<size)(hB:k.toNat*(bytes+1)<=70368744177664)(hG:gd=none)(hN:Nat.blt d C.N=true)
  (h:∀ b' c' zs,k.toNat<=c'->c'<=maxLen->(zs:List Value).length=c'*size->XO C Q ops rest [] ((d,.slice (some ⟨b',0,none⟩) k.toNat c')::E) I ((b',.cells zs.toArray e (0,0))::loc)):
  XO C Q ops (⟨some d,.call ⟨.builtin .append, #[x,y], #[t,tn]⟩,ty,pos,af,gd⟩::rest) [] E I loc:=
 Ya hG kC fun a w ha hw=>by
  obtain ⟨ht,inf,zz,hi,hz,hss,hb,hzs⟩:=hT;obtain ⟨q,rfl⟩:∃ q:Nat,k=q:=⟨k.toNat,kB⟩;rw [BT] at hB h
  have hnm:q<=70368744177664:=by
   have:q*1<=q*(bytes+1):=O7 _ kB;omega
  have hbytes:q*bytes<=140737488355328:=by
   have:q*bytes<=q*(bytes+1):=O7 _ kB;omega
  have hold:(Builtin.firstCells inf.size 0 (.slice none 0 0)).run C.P w.drew= .ok (([]:List Value).toArray) w.drew:=rfl;have hrun:=Lib.run_append_grow_zeros (P:=C.P) w t tn ty e inf zz .i64 .i64 ht htn hi hz none 0 0 _ hold q kB kB kB kB (by rw [hb];omega) (by rw [hb];exact growslice_fits kB (by rw [Oc];exact hbytes));have hge:=grownCap_ge w (0+q) 0 e;have hcm:grownCap w (0+q) 0 e<=maxLen:=BP w (0+q) 0 e (by simp only [maxLen];omega);simp only [execOp,resolve,j6,jx,Oo,Qi (S:=[]) ha trivial rfl hx,Qi (S:=[]) ha trivial rfl hy,jg,jl,Result.andThen,invoke,builtin,hrun,Oq]
  have e1:([]:List Value).toArray++Builtin.zeroCells zz.cells q++Builtin.zeroCells zz.cells (grownCap w (0+q) 0 e-(0+q))=(((Builtin.zeroCells zz.cells q).toList++(Builtin.zeroCells zz.cells (grownCap w (0+q) 0 e-(0+q))).toList)).toArray:=by
   apply AS;simp
  rw [e1];simp only [Oc] at hge hcm ⊢;refine h _ _ _ hge hcm ?_ _ _ (ha.put hN _) trivial (hw.drew'.alloc _);simp only [jh,O5,VX,hzs];rw [<-OJ];congr 1;omega
end
end
end Go.Kn
namespace Go.Proofs
section
open Go.Shelf
def Tryz.lays189_ren:Go.Shelf.Ren:=⟨fun | 189=>70 | 125=>154 | 257=>153 | 128=>204 | 129=>205 | 294=>196 | 295=>197 | 296=>198 | 297=>199 | 298=>200 | 299=>201 | 216=>173 | 300=>202 | 301=>203 | 328=>229 | 329=>230 | 330=>231 | 331=>232 | 332=>233 | 215=>116 | 343=>242 | n=>n,fun | 28=>37 | 3=>3 | 46=>178 | 0=>0 | 51=>241 | 53=>243 | 4=>4 | 183=>248 | 182=>247 | 131=>118 | 5=>5 | 9=>9 | 218=>273 | 222=>173 | 228=>284 | 229=>257 | n=>n,fun | n=>n⟩
theorem Tryz.lays189:Go.Proofs.Lays.n189 Tryz.prog Tryz.lays189_ren:={
 mixed:=kA
 f125:=Tryz.func154.trans (jr some kA)
 f128:=Tryz.func204.trans (jr some kA)
 f129:=Tryz.func205.trans (jr some kA)
 f189:=Tryz.func70.trans (jr some kA)
 f215:=Tryz.func116.trans (jr some kA)
 f216:=Tryz.func173.trans (jr some kA)
 f257:=Tryz.func153.trans (jr some kA)
 f294:=Tryz.func196.trans (jr some kA)
 f295:=Tryz.func197.trans (jr some kA)
 f296:=Tryz.func198.trans (jr some kA)
 f297:=Tryz.func199.trans (jr some kA)
 f298:=Tryz.func200.trans (jr some kA)
 f299:=Tryz.func201.trans (jr some kA)
 f300:=Tryz.func202.trans (jr some kA)
 f301:=Tryz.func203.trans (jr some kA)
 f328:=Tryz.func229.trans (jr some kA)
 f329:=Tryz.func230.trans (jr some kA)
 f330:=Tryz.func231.trans (jr some kA)
 f331:=Tryz.func232.trans (jr some kA)
 f332:=Tryz.func233.trans (jr some kA)
 f343:=Tryz.func242.trans (jr some kA)
 t0:=Tryz.underlying0
 a0:=Tryz.isAgg0
 z0:=Tryz.sizeOf0
 v0:=Tryz.zeroValue0
 t3:=Tryz.underlying3
 a3:=Tryz.isAgg3
 z3:=Tryz.sizeOf3
 v3:=Tryz.zeroValue3
 t4:=Tryz.underlying4
 a4:=Tryz.isAgg4
 z4:=Tryz.sizeOf4
 v4:=Tryz.zeroValue4
 t5:=Tryz.underlying5
 a5:=Tryz.isAgg5
 z5:=Tryz.sizeOf5
 v5:=Tryz.zeroValue5
 t9:=Tryz.underlying9
 a9:=Tryz.isAgg9
 z9:=Tryz.sizeOf9
 v9:=Tryz.zeroValue9
 t28:=Tryz.underlying37
 a28:=Tryz.isAgg37
 z28:=Tryz.sizeOf37
 v28:=Tryz.zeroValue37
 t46:=Tryz.underlying178
 a46:=Tryz.isAgg178
 z46:=Tryz.sizeOf178
 v46:=Tryz.zeroValue178
 t51:=Tryz.underlying241
 a51:=Tryz.isAgg241
 z51:=Tryz.sizeOf241
 v51:=Tryz.zeroValue241
 t53:=Tryz.underlying243
 a53:=Tryz.isAgg243
 z53:=Tryz.sizeOf243
 v53:=Tryz.zeroValue243
 t131:=Tryz.underlying118
 a131:=Tryz.isAgg118
 z131:=Tryz.sizeOf118
 v131:=Tryz.zeroValue118
 t182:=Tryz.underlying247
 a182:=Tryz.isAgg247
 z182:=Tryz.sizeOf247
 v182:=Tryz.zeroValue247
 t183:=Tryz.underlying248
 a183:=Tryz.isAgg248
 z183:=Tryz.sizeOf248
 v183:=Tryz.zeroValue248
 t218:=Tryz.underlying273
 a218:=Tryz.isAgg273
 z218:=Tryz.sizeOf273
 v218:=Tryz.zeroValue273
 t222:=Tryz.underlying173
 a222:=Tryz.isAgg173
 z222:=Tryz.sizeOf173
 v222:=Tryz.zeroValue173
 t228:=Tryz.underlying284
 a228:=Tryz.isAgg284
 z228:=Tryz.sizeOf284
 v228:=Tryz.zeroValue284
 t229:=Tryz.underlying257
 a229:=Tryz.isAgg257
 z229:=Tryz.sizeOf257
 v229:=Tryz.zeroValue257}
open Go.Sort Go.RowKit in
theorem Tryz.slices_Sort_int (blk off cap:Nat) (zs:List Int) (w:World) (hH:Holds (Value.int .i64) w blk off zs.toArray) (hblk:blk<w.heap.size) (hsz:zs.length<4611686018427387904):
  Calls Tryz.prog 70 #[.slice (some ⟨blk,off,none⟩) zs.length cap] w fun e w'=>
   e= .returned (.tuple #[])/\∃ n os,w'=grow (putRow (Value.int .i64) (Sort.ahead w n) blk off (zs.mergeSort fun x y=>decide (x<=y)).toArray) os:=Any.slices_Sort_int Tryz.lays189 blk off cap zs w hH hblk hsz
def Tryz.laysNm220_ren:Go.Shelf.Ren:=⟨fun | 20=>71 | n=>n,fun | 22=>37 | 3=>3 | 4=>4 | 0=>0 | n=>n,fun | n=>n⟩
theorem Tryz.laysNm220:Go.Proofs.Lays2.n20 Tryz.prog Tryz.laysNm220_ren:={
 mixed:=kA
 f20:=Tryz.func71.trans (jr some kA)
 t0:=Tryz.underlying0
 a0:=Tryz.isAgg0
 z0:=Tryz.sizeOf0
 v0:=Tryz.zeroValue0
 t3:=Tryz.underlying3
 a3:=Tryz.isAgg3
 z3:=Tryz.sizeOf3
 v3:=Tryz.zeroValue3
 t4:=Tryz.underlying4
 a4:=Tryz.isAgg4
 z4:=Tryz.sizeOf4
 v4:=Tryz.zeroValue4
 t22:=Tryz.underlying37
 a22:=Tryz.isAgg37
 z22:=Tryz.sizeOf37
 v22:=Tryz.zeroValue37
 i3:=by kernel_rfl}
open Go.RowKit Go.Lib Go.Sort in
theorem Tryz.slices_Compact_int (blk off cap:Nat) (zs:List Int) (w:World) (hH:Holds (Value.int .i64) w blk off zs.toArray) (hsz:zs.length<=9223372036854775807) (hcap:zs.length<=cap):
  Calls Tryz.prog 71 #[.slice (some ⟨blk,off,none⟩) zs.length cap] w fun e w'=>e= .returned (.slice (some ⟨blk,off,none⟩) (Lib.compact zs).length cap)/\∃ q,w'=putRow (Value.int .i64) (Sort.ahead w q) blk off (Lib.compact zs++List.replicate (zs.length-(Lib.compact zs).length) 0).toArray:=Any.slices_Compact_int Tryz.laysNm220 blk off cap zs w hH hsz hcap
open Go.RowKit Go.Lib Go.Sort in
theorem Tryz.slices_Compact_int_empty (a:Option Addr) (cap:Nat) (w:World):
  Calls Tryz.prog 71 #[.slice a 0 cap] w fun e w'=>e= .returned (.slice a 0 cap)/\w'=w:=Any.slices_Compact_int_empty Tryz.laysNm220 a cap w
open Go.RowKit Go.Sort in
theorem Tryz.slices_Sort_int_none (p:Option Addr) (cap:Nat) (w:World):
  Calls Tryz.prog 70 #[.slice p 0 cap] w fun e w'=>e= .returned (.tuple #[])/\w'=w:=Any.slices_Sort_int_none Tryz.lays189 p cap w
def Tryz.laysSlF06_f126_ren:Go.Shelf.Ren:=⟨fun | 6=>126 | 15=>154 | 14=>175 | 28=>204 | 29=>205 | 20=>212 | 21=>213 | 22=>214 | 23=>215 | 24=>216 | 25=>217 | 26=>218 | 27=>219 | 46=>236 | 47=>230 | 48=>231 | 49=>237 | 50=>238 | 57=>243 | n=>n,fun | 22=>44 | 24=>28 | 25=>121 | 3=>3 | 39=>178 | 0=>0 | 53=>241 | 55=>243 | 4=>4 | 46=>248 | 45=>247 | 50=>118 | 5=>5 | 9=>9 | 66=>273 | 70=>173 | 76=>284 | 77=>257 | n=>n,fun | n=>n⟩
theorem Tryz.laysSlF06_f126:Go.Proofs.SlLaysF0.n6 Tryz.prog Tryz.laysSlF06_f126_ren:={
 mixed:=kA
 f6:=⟨Tryz.f126.name,by decide,Tryz.func126.trans (jr some kA)⟩
 f14:=⟨Tryz.f175.name,by decide,Tryz.func175.trans (jr some kA)⟩
 f15:=Tryz.func154.trans (jr some kA)
 f20:=⟨Tryz.f212.name,by decide,Tryz.func212.trans (jr some kA)⟩
 f21:=⟨Tryz.f213.name,by decide,Tryz.func213.trans (jr some kA)⟩
 f22:=⟨Tryz.f214.name,by decide,Tryz.func214.trans (jr some kA)⟩
 f23:=⟨Tryz.f215.name,by decide,Tryz.func215.trans (jr some kA)⟩
 f24:=⟨Tryz.f216.name,by decide,Tryz.func216.trans (jr some kA)⟩
 f25:=⟨Tryz.f217.name,by decide,Tryz.func217.trans (jr some kA)⟩
 f26:=⟨Tryz.f218.name,by decide,Tryz.func218.trans (jr some kA)⟩
 f27:=⟨Tryz.f219.name,by decide,Tryz.func219.trans (jr some kA)⟩
 f28:=Tryz.func204.trans (jr some kA)
 f29:=Tryz.func205.trans (jr some kA)
 f46:=⟨Tryz.f236.name,by decide,Tryz.func236.trans (jr some kA)⟩
 f47:=Tryz.func230.trans (jr some kA)
 f48:=Tryz.func231.trans (jr some kA)
 f49:=⟨Tryz.f237.name,by decide,Tryz.func237.trans (jr some kA)⟩
 f50:=⟨Tryz.f238.name,by decide,Tryz.func238.trans (jr some kA)⟩
 f57:=⟨Tryz.f243.name,by decide,Tryz.func243.trans (jr some kA)⟩
 t0:=Tryz.underlying0
 a0:=Tryz.isAgg0
 z0:=Tryz.sizeOf0
 v0:=Tryz.zeroValue0
 t3:=Tryz.underlying3
 a3:=Tryz.isAgg3
 z3:=Tryz.sizeOf3
 v3:=Tryz.zeroValue3
 t4:=Tryz.underlying4
 a4:=Tryz.isAgg4
 z4:=Tryz.sizeOf4
 v4:=Tryz.zeroValue4
 t5:=Tryz.underlying5
 a5:=Tryz.isAgg5
 z5:=Tryz.sizeOf5
 v5:=Tryz.zeroValue5
 t9:=Tryz.underlying9
 a9:=Tryz.isAgg9
 z9:=Tryz.sizeOf9
 v9:=Tryz.zeroValue9
 t22:=Tryz.underlying44
 a22:=Tryz.isAgg44
 z22:=Tryz.sizeOf44
 v22:=Tryz.zeroValue44
 t25:=Tryz.underlying121
 a25:=Tryz.isAgg121
 z25:=Tryz.sizeOf121
 v25:=Tryz.zeroValue121
 t39:=Tryz.underlying178
 a39:=Tryz.isAgg178
 z39:=Tryz.sizeOf178
 v39:=Tryz.zeroValue178
 t45:=Tryz.underlying247
 a45:=Tryz.isAgg247
 z45:=Tryz.sizeOf247
 v45:=Tryz.zeroValue247
 t46:=Tryz.underlying248
 a46:=Tryz.isAgg248
 z46:=Tryz.sizeOf248
 v46:=Tryz.zeroValue248
 t50:=Tryz.underlying118
 a50:=Tryz.isAgg118
 z50:=Tryz.sizeOf118
 v50:=Tryz.zeroValue118
 t53:=Tryz.underlying241
 a53:=Tryz.isAgg241
 z53:=Tryz.sizeOf241
 v53:=Tryz.zeroValue241
 t55:=Tryz.underlying243
 a55:=Tryz.isAgg243
 z55:=Tryz.sizeOf243
 v55:=Tryz.zeroValue243
 t66:=Tryz.underlying273
 a66:=Tryz.isAgg273
 z66:=Tryz.sizeOf273
 v66:=Tryz.zeroValue273
 t70:=Tryz.underlying173
 a70:=Tryz.isAgg173
 z70:=Tryz.sizeOf173
 v70:=Tryz.zeroValue173
 t76:=Tryz.underlying284
 a76:=Tryz.isAgg284
 z76:=Tryz.sizeOf284
 v76:=Tryz.zeroValue284
 t77:=Tryz.underlying257
 a77:=Tryz.isAgg257
 z77:=Tryz.sizeOf257
 v77:=Tryz.zeroValue257}
open Go.RowKit Go.Lib Go.Sort in
theorem Tryz.slices_SortFunc {α:Type} [Inhabited α] (k:Nat) (aE:∀ w,(isAgg (Tryz.laysSlF06_f126_ren.t 24)).run Tryz.prog w= .ok true w) (zE:∀ w,(Go.sizeOf (Tryz.laysSlF06_f126_ren.t 24)).run Tryz.prog w= .ok k w) (enc:α->List Value) (hk:∀ x,(enc x).length=k) (h1:∀ x,∀ v∈enc x,v.oneCell'=true) (cf:α->α->Int) (hO:SWO (ltOf cf)) (g:Nat) (cb:Array Value) (blk off cap:Nat) (d:Array α) (w:World) (eg:∀ args w,(callFunc g args).run Tryz.prog w= .ok (.enter g args) w) (hcmp:CmpLays Tryz.prog g cb enc k cf blk off d.size w) (hH:HoldsK enc k w blk off d) (hblk:blk<w.heap.size) (hsz:d.size<4611686018427387904):
  Calls Tryz.prog 126 #[.slice (some ⟨blk,off,none⟩) d.size cap,.func (.func g) #[] cb] w fun e w'=>
   e= .returned (.tuple #[])/\∃ d' n os,PermIn 0 d.size d d'/\SortedIn (ltOf cf) 0 d.size d'/\w'=sortWorldK enc k w blk off n d' os:=AnyQ.slices_SortFunc Tryz.laysSlF06_f126 k aE zE enc hk h1 cf hO g cb blk off cap d w eg hcmp hH hblk hsz
def Tryz.laysSlF6_f143_ren:Go.Shelf.Ren:=⟨fun | 6=>143 | 15=>154 | 14=>189 | 28=>204 | 29=>205 | 20=>221 | 21=>222 | 22=>223 | 23=>224 | 24=>225 | 25=>226 | 26=>227 | 27=>228 | 46=>239 | 47=>230 | 48=>231 | 49=>240 | 50=>241 | 57=>244 | n=>n,fun | 22=>33 | 24=>37 | 25=>160 | 3=>3 | 39=>178 | 0=>0 | 53=>241 | 55=>243 | 4=>4 | 46=>248 | 45=>247 | 50=>118 | 5=>5 | 9=>9 | 66=>273 | 70=>173 | 76=>284 | 77=>257 | n=>n,fun | n=>n⟩
theorem Tryz.laysSlF6_f143:Go.Proofs.SlLaysF.n6 Tryz.prog Tryz.laysSlF6_f143_ren:={
 mixed:=kA
 f6:=⟨Tryz.f143.name,by decide,Tryz.func143.trans (jr some kA)⟩
 f14:=⟨Tryz.f189.name,by decide,Tryz.func189.trans (jr some kA)⟩
 f15:=Tryz.func154.trans (jr some kA)
 f20:=⟨Tryz.f221.name,by decide,Tryz.func221.trans (jr some kA)⟩
 f21:=⟨Tryz.f222.name,by decide,Tryz.func222.trans (jr some kA)⟩
 f22:=⟨Tryz.f223.name,by decide,Tryz.func223.trans (jr some kA)⟩
 f23:=⟨Tryz.f224.name,by decide,Tryz.func224.trans (jr some kA)⟩
 f24:=⟨Tryz.f225.name,by decide,Tryz.func225.trans (jr some kA)⟩
 f25:=⟨Tryz.f226.name,by decide,Tryz.func226.trans (jr some kA)⟩
 f26:=⟨Tryz.f227.name,by decide,Tryz.func227.trans (jr some kA)⟩
 f27:=⟨Tryz.f228.name,by decide,Tryz.func228.trans (jr some kA)⟩
 f28:=Tryz.func204.trans (jr some kA)
 f29:=Tryz.func205.trans (jr some kA)
 f46:=⟨Tryz.f239.name,by decide,Tryz.func239.trans (jr some kA)⟩
 f47:=Tryz.func230.trans (jr some kA)
 f48:=Tryz.func231.trans (jr some kA)
 f49:=⟨Tryz.f240.name,by decide,Tryz.func240.trans (jr some kA)⟩
 f50:=⟨Tryz.f241.name,by decide,Tryz.func241.trans (jr some kA)⟩
 f57:=⟨Tryz.f244.name,by decide,Tryz.func244.trans (jr some kA)⟩
 t0:=Tryz.underlying0
 a0:=Tryz.isAgg0
 z0:=Tryz.sizeOf0
 v0:=Tryz.zeroValue0
 t3:=Tryz.underlying3
 a3:=Tryz.isAgg3
 z3:=Tryz.sizeOf3
 v3:=Tryz.zeroValue3
 t4:=Tryz.underlying4
 a4:=Tryz.isAgg4
 z4:=Tryz.sizeOf4
 v4:=Tryz.zeroValue4
 t5:=Tryz.underlying5
 a5:=Tryz.isAgg5
 z5:=Tryz.sizeOf5
 v5:=Tryz.zeroValue5
 t9:=Tryz.underlying9
 a9:=Tryz.isAgg9
 z9:=Tryz.sizeOf9
 v9:=Tryz.zeroValue9
 t22:=Tryz.underlying33
 a22:=Tryz.isAgg33
 z22:=Tryz.sizeOf33
 v22:=Tryz.zeroValue33
 a24:=Tryz.isAgg37
 z24:=Tryz.sizeOf37
 t25:=Tryz.underlying160
 a25:=Tryz.isAgg160
 z25:=Tryz.sizeOf160
 v25:=Tryz.zeroValue160
 t39:=Tryz.underlying178
 a39:=Tryz.isAgg178
 z39:=Tryz.sizeOf178
 v39:=Tryz.zeroValue178
 t45:=Tryz.underlying247
 a45:=Tryz.isAgg247
 z45:=Tryz.sizeOf247
 v45:=Tryz.zeroValue247
 t46:=Tryz.underlying248
 a46:=Tryz.isAgg248
 z46:=Tryz.sizeOf248
 v46:=Tryz.zeroValue248
 t50:=Tryz.underlying118
 a50:=Tryz.isAgg118
 z50:=Tryz.sizeOf118
 v50:=Tryz.zeroValue118
 t53:=Tryz.underlying241
 a53:=Tryz.isAgg241
 z53:=Tryz.sizeOf241
 v53:=Tryz.zeroValue241
 t55:=Tryz.underlying243
 a55:=Tryz.isAgg243
 z55:=Tryz.sizeOf243
 v55:=Tryz.zeroValue243
 t66:=Tryz.underlying273
 a66:=Tryz.isAgg273
 z66:=Tryz.sizeOf273
 v66:=Tryz.zeroValue273
 t70:=Tryz.underlying173
 a70:=Tryz.isAgg173
 z70:=Tryz.sizeOf173
 v70:=Tryz.zeroValue173
 t76:=Tryz.underlying284
 a76:=Tryz.isAgg284
 z76:=Tryz.sizeOf284
 v76:=Tryz.zeroValue284
 t77:=Tryz.underlying257
 a77:=Tryz.isAgg257
 z77:=Tryz.sizeOf257
 v77:=Tryz.zeroValue257}
open Go.RowKit Go.Lib Go.Sort in
theorem Tryz.slices_SortFunc_f143 {α:Type} [Inhabited α] (enc:α->Value) (h1:OneCell enc) (cf:α->α->Int) (hO:SWO (ltOf cf)) (g:Nat) (cb:Array Value) (blk off cap:Nat) (d:Array α) (w:World) (eg:∀ args w,(callFunc g args).run Tryz.prog w= .ok (.enter g args) w) (hcmp:CmpLays1 Tryz.prog g cb enc cf blk off d.size w) (hH:Holds enc w blk off d) (hblk:blk<w.heap.size) (hsz:d.size<4611686018427387904):
  Calls Tryz.prog 143 #[.slice (some ⟨blk,off,none⟩) d.size cap,.func (.func g) #[] cb] w fun e w'=>
   e= .returned (.tuple #[])/\∃ d' n os,PermIn 0 d.size d d'/\SortedIn (ltOf cf) 0 d.size d'/\w'=sortWorld enc w blk off n d' os:=Any.slices_SortFunc Tryz.laysSlF6_f143 enc h1 cf hO g cb blk off cap d w eg hcmp hH hblk hsz
open Go.RowKit Go.Lib Go.Sort in
theorem Tryz.slices_SortFunc_none_f126 {α:Type} [Inhabited α] (p:Option Addr) (cap:Nat) (fv:Value) (w:World):
  Calls Tryz.prog 126 #[.slice p 0 cap,fv] w fun e w'=>e= .returned (.tuple #[])/\w'=w:=AnyF.slices_SortFunc_none Tryz.laysSlF06_f126 p cap fv w
def Tryz.laysSlF06_f143_ren:Go.Shelf.Ren:=⟨fun | 6=>143 | 15=>154 | 14=>189 | 28=>204 | 29=>205 | 20=>221 | 21=>222 | 22=>223 | 23=>224 | 24=>225 | 25=>226 | 26=>227 | 27=>228 | 46=>239 | 47=>230 | 48=>231 | 49=>240 | 50=>241 | 57=>244 | n=>n,fun | 22=>33 | 24=>37 | 25=>160 | 3=>3 | 39=>178 | 0=>0 | 53=>241 | 55=>243 | 4=>4 | 46=>248 | 45=>247 | 50=>118 | 5=>5 | 9=>9 | 66=>273 | 70=>173 | 76=>284 | 77=>257 | n=>n,fun | n=>n⟩
theorem Tryz.laysSlF06_f143:Go.Proofs.SlLaysF0.n6 Tryz.prog Tryz.laysSlF06_f143_ren:={
 mixed:=kA
 f6:=⟨Tryz.f143.name,by decide,Tryz.func143.trans (jr some kA)⟩
 f14:=⟨Tryz.f189.name,by decide,Tryz.func189.trans (jr some kA)⟩
 f15:=Tryz.func154.trans (jr some kA)
 f20:=⟨Tryz.f221.name,by decide,Tryz.func221.trans (jr some kA)⟩
 f21:=⟨Tryz.f222.name,by decide,Tryz.func222.trans (jr some kA)⟩
 f22:=⟨Tryz.f223.name,by decide,Tryz.func223.trans (jr some kA)⟩
 f23:=⟨Tryz.f224.name,by decide,Tryz.func224.trans (jr some kA)⟩
 f24:=⟨Tryz.f225.name,by decide,Tryz.func225.trans (jr some kA)⟩
 f25:=⟨Tryz.f226.name,by decide,Tryz.func226.trans (jr some kA)⟩
 f26:=⟨Tryz.f227.name,by decide,Tryz.func227.trans (jr some kA)⟩
 f27:=⟨Tryz.f228.name,by decide,Tryz.func228.trans (jr some kA)⟩
 f28:=Tryz.func204.trans (jr some kA)
 f29:=Tryz.func205.trans (jr some kA)
 f46:=⟨Tryz.f239.name,by decide,Tryz.func239.trans (jr some kA)⟩
 f47:=Tryz.func230.trans (jr some kA)
 f48:=Tryz.func231.trans (jr some kA)
 f49:=⟨Tryz.f240.name,by decide,Tryz.func240.trans (jr some kA)⟩
 f50:=⟨Tryz.f241.name,by decide,Tryz.func241.trans (jr some kA)⟩
 f57:=⟨Tryz.f244.name,by decide,Tryz.func244.trans (jr some kA)⟩
 t0:=Tryz.underlying0
 a0:=Tryz.isAgg0
 z0:=Tryz.sizeOf0
 v0:=Tryz.zeroValue0
 t3:=Tryz.underlying3
 a3:=Tryz.isAgg3
 z3:=Tryz.sizeOf3
 v3:=Tryz.zeroValue3
 t4:=Tryz.underlying4
 a4:=Tryz.isAgg4
 z4:=Tryz.sizeOf4
 v4:=Tryz.zeroValue4
 t5:=Tryz.underlying5
 a5:=Tryz.isAgg5
 z5:=Tryz.sizeOf5
 v5:=Tryz.zeroValue5
 t9:=Tryz.underlying9
 a9:=Tryz.isAgg9
 z9:=Tryz.sizeOf9
 v9:=Tryz.zeroValue9
 t22:=Tryz.underlying33
 a22:=Tryz.isAgg33
 z22:=Tryz.sizeOf33
 v22:=Tryz.zeroValue33
 t25:=Tryz.underlying160
 a25:=Tryz.isAgg160
 z25:=Tryz.sizeOf160
 v25:=Tryz.zeroValue160
 t39:=Tryz.underlying178
 a39:=Tryz.isAgg178
 z39:=Tryz.sizeOf178
 v39:=Tryz.zeroValue178
 t45:=Tryz.underlying247
 a45:=Tryz.isAgg247
 z45:=Tryz.sizeOf247
 v45:=Tryz.zeroValue247
 t46:=Tryz.underlying248
 a46:=Tryz.isAgg248
 z46:=Tryz.sizeOf248
 v46:=Tryz.zeroValue248
 t50:=Tryz.underlying118
 a50:=Tryz.isAgg118
 z50:=Tryz.sizeOf118
 v50:=Tryz.zeroValue118
 t53:=Tryz.underlying241
 a53:=Tryz.isAgg241
 z53:=Tryz.sizeOf241
 v53:=Tryz.zeroValue241
 t55:=Tryz.underlying243
 a55:=Tryz.isAgg243
 z55:=Tryz.sizeOf243
 v55:=Tryz.zeroValue243
 t66:=Tryz.underlying273
 a66:=Tryz.isAgg273
 z66:=Tryz.sizeOf273
 v66:=Tryz.zeroValue273
 t70:=Tryz.underlying173
 a70:=Tryz.isAgg173
 z70:=Tryz.sizeOf173
 v70:=Tryz.zeroValue173
 t76:=Tryz.underlying284
 a76:=Tryz.isAgg284
 z76:=Tryz.sizeOf284
 v76:=Tryz.zeroValue284
 t77:=Tryz.underlying257
 a77:=Tryz.isAgg257
 z77:=Tryz.sizeOf257
 v77:=Tryz.zeroValue257}
open Go.RowKit Go.Lib Go.Sort in
theorem Tryz.slices_SortFunc_none_f143 {α:Type} [Inhabited α] (p:Option Addr) (cap:Nat) (fv:Value) (w:World):
  Calls Tryz.prog 143 #[.slice p 0 cap,fv] w fun e w'=>e= .returned (.tuple #[])/\w'=w:=AnyF.slices_SortFunc_none Tryz.laysSlF06_f143 p cap fv w
end
end Go.Proofs
namespace Go.Proofs.YtmbjmjbjdgjonaaGreatDoor
section
open Go Go.Kn Go.Proofs
theorem zw2:Fun Tryz.prog 190:=.of Tryz.func190 kA kA
theorem zzN:Tryz.prog.underlying 3=some (.int .i64):=kA
theorem XG (zs:List Int):zs.flatMap Q3=zs.map (Value.int .i64):=by
 induction zs with
 | nil=>rfl
 | cons z zs ih=>rw [jO,ih];rfl
variable{zs:List Int}{v:Value}{n:Nat}
theorem zdh {L:Go.Kn.Loc}(hO:OwnS 3 1 v n (zs.flatMap Q3) L)(hn:n<=1000000)(I:Qt):ZQ Tryz.prog 70 [v] I L (fun u I' L'=>u= .tuple #[]/\I'=I/\OwnS 3 1 v n ((YB zs).flatMap Q3) L'):=by rw [XG] at hO;rw [XG];exact zlX Tryz.slices_Sort_int Tryz.slices_Sort_int_none zs hO hn I
theorem zzR (I:Qt)(k:Nat)(hk:k<=100000):ZQ Tryz.prog 190 [.slice none 0 0,.int .i64 k] I [] (fun v I' L=>I'=I/\OwnS 3 1 v 0 [] L):=by
 intro g H w hw;refine qe Tryz.func190 Tryz.ntmps190 hw ?_;refine zR (zA (zN (Ql (zR ?_))));refine zM ?_;refine zC (zN ?_);refine zI ?_ ?_<;>intro hc6
 ·have h:=hc6;simp at h;omega
 refine Qo (Qa (Ql (zR (zM ?_))));refine zM ?_;refine zV (zmD U Qx) ?_;refine zM ?_;refine zQ Qx ?_;refine zB ?_;refine zB ?_;refine zA ?_;refine zN (zR ?_);refine zM ?_;refine zC (zN ?_);refine zI ?_ ?_<;>intro hc16
 ·have hk1:0<k:=(by have h:=hc16;simp at h;omega);refine Qf (zM ?_);refine zM ?_;refine zV (zmD U Qx) ?_;refine zV (KM U U Qx (fun hg=>kB)) ?_;refine zM ?_;refine zgD U U Zw zzN kB kE kB U U (fun b9 c9 zs9 hz1 hz2 hz3=>?_);refine zM ?_;refine zQ Qx ?_;refine zV (KM U U Qx (fun hg=>kB)) ?_;refine zA ?_;refine zN (zR ?_);refine zM ?_;refine zA (zN (Qr ?_));exact QR U U (fun w hw=>⟨_,I,_,U,zGN _,hw,U,U,.inr ⟨b9,c9,zs9.toArray,U,U,jf _,hz2,by simpa using hz3,by simp⟩⟩)
 have hk0:k=0:=(by have h:=hc16;simp at h;omega);refine Qo (Qa (zR (zM ?_)));refine zA (zN (Qr ?_));exact QR U U (fun w hw=>⟨_,I,[],U,zGN _,hw,U,OwnS.nil⟩)
variable{I:Qt}{av:Option Addr}{c:Nat}{vss:List (List Int)}
theorem zpp (hV:SlN I av n c vss)(hn:n<=100000)(hf:vss.flatten.length<=100000):ZQ Tryz.prog 146 [.slice av n c] I [] (fun v I' L=>I'=I/\OwnS 3 1 v vss.flatten.length (vss.flatten.flatMap Q3) L):=by
 intro g H w hw;refine qe Tryz.func146 Tryz.ntmps146 hw ?_;obtain ⟨hs,hV⟩:=hV;have hH:=hV.1;have hlV:=hV.len;refine zR (zA ?_);refine zN (zR ?_);refine zA (zN (Ql (zR ?_)));refine zM ?_;refine zQ Zn ?_;refine zM (zN (Qp ?_));refine zU [(0,_),(9,_),(10,_)] (fun T L0 mz E I' loc'=>∃ (k:Nat),mz=n-k/\E=(3,.int .i64 ((vss.take k).flatten.length:Nat))::(11,.int .i64 k)::T/\I=I'/\[]=loc'/\k<=n) ?_ (h:=⟨0,U,U,U,U,jf _⟩);rintro mz E I' loc' ⟨k,rfl,rfl,rfl,rfl,hk⟩;refine zR (zC (zN (Ql ?_)));refine zI ?_ ?_<;>intro hc12
 ·have hlt_k:k<n:=(by have h:=hc12;simp at h;omega);obtain ⟨x,v,hx,hv,hQ⟩:=hV.at hlt_k;have hfs:=zbV hv;have hfs2:(vss.take (k+1)).flatten.length=(vss.take k).flatten.length+x.n:=(by rw [hfs,jh,hQ.len]);refine Qo (Qa (Ql (Qp (zR ?_))));refine zV (zX Zn hH) ?_;refine zV (Qd U QK (fun hg=>by exact zGG hH hx U)) ?_;refine zA ?_;refine zN (zR ?_);refine zM ?_;refine zM ?_;refine zQ Qx ?_;refine zV (ZL U U U (fun _=>by (have hfl:=zg5 (vss:=vss) k;have hfl2:=zg5 (vss:=vss) (k+1);omega))) ?_;refine zA ?_;refine zN (zR ?_);refine zM ?_;refine zC (zN ?_);refine zI ?_ ?_<;>intro hc20
  ·have h:=hc20;simp at h;omega
  rw [show (((vss.take k).flatten.length:Nat):Int)+(x.n:Int)=(((vss.take (k+1)).flatten.length:Nat):Int) from by omega];refine Qo (Qg (Qa (Qf (zB ?_))));refine zM (Qb ?_);exact zm (h:=⟨n-(k+1),kB,k+1,U,U,U,U,kB⟩)
 have hge_k:n<=k:=(by have h:=hc12;simp at h;omega);rw [jD (show vss.length<=k by omega)];refine QF (Qh (Qh (Qm (Qa (zR (zM ?_))))));refine zpc [_,_] U zw2 .nil (zzR _ vss.flatten.length kB) ?_;rintro vv2 I2 L2 hI2 ⟨rfl,hG⟩;rw [jz];refine zA (zN (Ql (zR ?_)));refine zM ?_;refine zQ Zn ?_;refine zM (zN (Qp ?_));refine zU [(25,_),(26,_)] (fun T L0 mz E I' loc'=>∃ (k:Nat) (v6:Value) (L:Go.Kn.Loc),mz=n-k/\E=(6,v6)::(27,.int .i64 k)::T/\I2=I'/\L=loc'/\k<=n/\OwnS 3 1 v6 (vss.take k).flatten.length ((vss.take k).flatten.flatMap Q3) L) ?_ (h:=⟨0,_,_,U,U,U,U,jf _,hG⟩);rintro mz E I' loc' ⟨k,v6,L,rfl,rfl,rfl,rfl,hk,hO⟩;refine zR (zC (zN (Ql ?_)));refine zI ?_ ?_<;>intro hc28
 ·have hlt_k:k<n:=(by have h:=hc28;simp at h;omega);obtain ⟨x,v,hx,hv,hQ⟩:=hV.at hlt_k;have hxl:=hQ.len;have hfl:=zg5 (vss:=vss) (k+1);rw [zbV hv,jh] at hfl;refine Qo (Qa (Ql (Qp (zR ?_))));refine zV (zX Zn hH) ?_;refine zV (Qd U QK (fun hg=>by exact zGG hH hx U)) ?_;refine zA (zN (Qf ?_));refine zM ?_;refine zM ?_;refine zpa (_) (v.flatMap Q3) (L) U U Zw hO (hQ.src Zh) (JH _) ?_;intro v9 L9 hO9 _;rw [<-jo] at hO9;refine zA (Qb (Qg (Qa (Qf ?_))));refine zB ?_;refine zM (Qb ?_);exact zm (h:=⟨n-(k+1),kB,k+1,_,_,U,U,U,U,kB,by rw [zbV hv,jh,hQ.len];exact hO9⟩)
 have hge_k:n<=k:=(by have h:=hc28;simp at h;omega);rw [jD (show vss.length<=k by omega)] at hO;refine QF (Qh (Qh (Qm (Qa (zR (zM ?_))))));refine zA (zN (Qr ?_));exact QR U U (fun w hw=>⟨_,_,L,U,zGN _,hw,U,hO⟩)
variable{x:List Int}
theorem zbJ {b:Nat}{y:List Int}(hV:SlN I (some ⟨b,0,none⟩) 2 2 [x,y])(hx:x.length<=1000)(hy:y.length<=1000):ZQ Tryz.prog 146 [.slice (some ⟨b,0,none⟩) 2 2] I [] (fun v I' L=>I'=I/\OwnS 3 1 v (x++y).length ((x++y).flatMap Q3) L):=by have h:=zpp hV kB kM;have e:[x,y].flatten=x++y:=(by simp);rw [e] at h;exact h
theorem zdu (I:Qt)(s:Int):ZQ Tryz.prog 66 [.int .i64 s] I [] (fun v I' L=>L=[]/\∃ b,v= .func (.func 144) #[] #[QZ b]/\QB I' [] b 0 (.int .i64 s)):=by intro g H w hw;refine qe Tryz.func66 Tryz.ntmps66 hw ?_;refine zR ?_;refine QG U U U (fun b_1=>?_);refine zA ?_;refine zN (zR ?_);refine zV (QN (us:=[]) (vs:=[_]) U U) ?_;refine zA (zN (Qr ?_));exact QR U U (fun w hw=>by obtain ⟨I9,h91,h92,h93⟩:=hw.freezeAll;exact ⟨_,I9,[],U,h91,h92,U,b_1,U,(.imm (h93 _ _ (jA.2 U)) U)⟩)
theorem UP:ElT Tryz.prog 33 37 1 24:=.of kA
theorem zgM:Fun Tryz.prog 144:=.of Tryz.func144 kA kA
theorem zhd:Fun Tryz.prog 146:=.of Tryz.func146 kA kA
theorem znP:Fun Tryz.prog 66:=.of Tryz.func66 kA kA
theorem zfq:Fun Tryz.prog 70:=.of Tryz.func70 kA kA
theorem zje:ScT Tryz.prog 96:=.of kA
theorem ZD:SzT Tryz.prog 3 1:=.of kA
theorem Ze:SzT Tryz.prog 37 1:=.of kA
theorem zsW:Yw Tryz.prog 3 (.int .i64 0):=.of kA
theorem YI:Yw Tryz.prog 37 (.slice none 0 0):=.of kA
theorem zgP {b:Nat}(f:Nat)(hf7:f<=7)(s:Int)(hs:1<=s/\s<=63)(hb:QB I [] b 0 (.int .i64 s))(ih:∀ I',HLe I I'->∀ (s':Int) (b':Nat),(1<=s'/\s'<=63)->Wp s'<Wp s->QB I' [] b' 0 (.int .i64 s')->zpM Tryz.prog 144 [QZ b'] I' zrv (ZE f s')):zpM Tryz.prog 144 [QZ b] I zrv (ZE (f+1) s):=by
 intro g l J Jx hJm hY I0 H w h0 hJ hw;have hb:=hb.mono h0;refine zay Tryz.func144 U Tryz.ntmps144 U hw ?_;have hI0:=zGN I0;refine zR ?_;refine QG U U U (fun b_2=>?_);refine zN (Ql (Ql ?_));refine QQ .here (fun I1 hI1 hb1=>?_);have hb:=hb.mono hI1;have hI0:=hI0.trans hI1;have hy2:QB I1 [] b_2 0 (.func (.yield l) #[] #[]):=.imm hb1 U;refine Qf ?_;refine zV (Qd U Qq (fun hg=>by first | exact hb.any | exact hy2.any | exact hc3.any | exact hc4.any | (repeat (first | exact zGI U | apply zGH | apply zGJ)))) ?_;refine qcV (vs:=[_]) U zg3 (zde _ _) ?_;refine zN ?_;refine zI ?_ ?_<;>intro hc8
 ·have hsing:Z5 s=true:=hc8;refine zR ?_;refine zV (Qd U zje (fun hg=>by first | exact hb.any | exact hy2.any | exact hc3.any | exact hc4.any | (repeat (first | exact zGI U | apply zGH | apply zGJ)))) ?_;refine JA (vs:=[.slice none 0 0]) U U U U (hY _ ([]:List Int) _ _ _ (by rw [Wa hsing];exact A4) (h0.trans hI0) ⟨_,_,_,U,Sl.nil⟩ (hJm _ _ _ _ hI0 hJ)) ?_;rintro t9 I2 H2 hI2 hpost;have hI0:=hI0.trans hI2;refine zN (Qr (Qc ?_))
  first
  | exact Ye (L:=[]) (ms:=[]) (fun a ha w hw=>zpx U a w) (fun w hw=>⟨_,_,_,U,hI0,hw,by rw [Wa hsing];cases t9 with
   | true=>exact .inl hpost
   | false=>exact .inr ⟨_,A4,hpost⟩⟩)
  | exact zdC (Ye (L:=[(_,_)]) (fun a ha w hw=>zpx U a w) (fun w hw=>⟨_,_,_,U,hI0,hw.drop,.inl hJd⟩))
  | exact Ye (L:=[]) (fun a ha w hw=>zpx U a w) (fun w hw=>⟨_,_,_,U,hI0,hw,.inr hJx⟩)
 have hns:Z5 s=false:=hc8;refine Qo (Qa (zR ?_));refine zV (Qd U Qq (fun hg=>by first | exact hb.any | exact hy2.any | exact hc3.any | exact hc4.any | (repeat (first | exact zGI U | apply zGH | apply zGJ)))) ?_;refine zV (KB U U U) ?_;refine zV (Qd U Qq (fun hg=>by first | exact hb.any | exact hy2.any | exact hc3.any | exact hc4.any | (repeat (first | exact zGI U | apply zGH | apply zGJ)))) ?_;refine zV (Uu U U) ?_;refine Qs zsW U U (fun b_3=>?_);refine zS ZD ?_;refine Qb ?_;have hn0:=zdo (a:=s) (s:=s) kB kB;refine Qa (Qp ?_);refine zq5 (fun m ms E I' H' loc'=>∃ (a:Int) (q:Nat) (dn:List (List Int)) (b3:Nat),m=a.toNat/\E=[(1,QZ b),(2,QZ b_2),(3,QZ b3)]/\loc'=[(b3,.cells #[.int .i64 a] 3 (0,0))]++MB ms/\HLe I0 I'/\HLe I1 I'/\(0<=a/\a<s/\JK a s=a/\a.toNat<q/\dn++(zct s q a).flatMap (brI f s)=(ZE (f+1) s))/\J dn I' H') _ _ _ ⟨YT s s,64,[],b_3,U,U,U,hI0,zGN _,⟨hn0.1,kB,XE hs kB,kB,by rw [zdc hns];rfl⟩,hJm _ _ _ _ hI0 hJ⟩ (.cons U (.cons U (.cons U .nil))) kD ?_;rintro m ms E J1 H1 loc' ⟨a,q,dn,b3,rfl,rfl,rfl,hI9,hIl,⟨ha0,ha1,ha2,haq,hdn⟩,hJd⟩;have hb:=hb.mono hIl;have hy2:=hy2.mono hIl;have hI0:=hI0.trans hIl;have hC:=zGN J1;refine Ql (zR ?_);refine zV (Qd U Qq (fun hg=>by first | exact hb.any | exact hy2.any | exact hc3.any | exact hc4.any | (repeat (first | exact zGI U | apply zGH | apply zGJ)))) ?_;refine zC (zN ?_);refine zI ?_ ?_<;>intro hc16
 ·have ha:a>0:=(by simpa using hc16);obtain ⟨q,rfl⟩:∃ q0,q=q0+1:=⟨q-1,kB⟩;have hna:=zdo (a:=a) (s:=s) kB kB;refine Qo (Qa (Ql (Qp (Ql (Ql ?_)))));refine QQ .here (fun I3 hI3 hb3=>?_);have hb:=hb.mono hI3;have hy2:=hy2.mono hI3;have hI0:=hI0.trans hI3;have hIl:=hIl.trans hI3;have hC:=hC.trans hI3;have hc3:QB I3 [] b3 0 (.int .i64 a):=.imm hb3 U;refine Qf ?_;refine zV (Qd U Qq (fun hg=>by first | exact hb.any | exact hy2.any | exact hc3.any | exact hc4.any | (repeat (first | exact zGI U | apply zGH | apply zGJ)))) ?_;refine zV (Qd U Qq (fun hg=>by first | exact hb.any | exact hy2.any | exact hc3.any | exact hc4.any | (repeat (first | exact zGI U | apply zGH | apply zGJ)))) ?_;refine zV (zfg U) ?_;refine zV (Uu U U) ?_;refine zV (Qd U Qq (fun hg=>by first | exact hb.any | exact hy2.any | exact hc3.any | exact hc4.any | (repeat (first | exact zGI U | apply zGH | apply zGJ)))) ?_;refine zV (Qd U Qq (fun hg=>by first | exact hb.any | exact hy2.any | exact hc3.any | exact hc4.any | (repeat (first | exact zGI U | apply zGH | apply zGJ)))) ?_;refine zV (zfg U) ?_;refine zV (Uu U U) ?_;refine zC (zN ?_);refine zI ?_ ?_<;>intro hc29
  ·have hlow:zey a s=false:=(by unfold zey;simpa using hc29);refine QF (Qh (Qm (Qa (Ql (zR ?_)))));refine zV (Qd U Qq (fun hg=>by first | exact hb.any | exact hy2.any | exact hc3.any | exact hc4.any | (repeat (first | exact zGI U | apply zGH | apply zGJ)))) ?_;refine zN (Qf ?_);refine Qs zsW U U (fun b_3=>?_);refine zS ZD ?_;refine zN (Qf ?_);refine zV (Qd U Qq (fun hg=>by first | exact hb.any | exact hy2.any | exact hc3.any | exact hc4.any | (repeat (first | exact zGI U | apply zGH | apply zGJ)))) ?_;refine zV (KB U U U) ?_;refine zV (Qd U Qq (fun hg=>by first | exact hb.any | exact hy2.any | exact hc3.any | exact hc4.any | (repeat (first | exact zGI U | apply zGH | apply zGJ)))) ?_;refine zV (Uu U U) ?_;refine zS ZD ?_;refine Qb ?_
   first
   | exact za0 U U _ _ ⟨(YT s a).toNat,kB,YT s a,q,dn++WU (ZE f a) (ZE f (s-a)) s,b_3,U,U,U,hI0,hIl,⟨hna.1,kB,XE hs kB,kB,zoD ha hdn hlow⟩,hJ1⟩ (.cons U (.cons U (.cons U .nil))) kD
   | exact za0 U U _ _ ⟨(YT s a).toNat,kB,YT s a,q,dn,b_3,U,U,U,hI0,hIl,⟨hna.1,kB,XE hs kB,kB,zrV ha hdn hlow⟩,hJm _ _ _ _ hC hJd⟩ (.cons U (.cons U (.cons U .nil))) kD
  ·have hlow:zey a s=true:=(by unfold zey;simpa using hc29);have hpop:=zym hs kB ha2 hlow;refine Qo (Qa (zR ?_));refine zV (Qd U Qq (fun hg=>by first | exact hb.any | exact hy2.any | exact hc3.any | exact hc4.any | (repeat (first | exact zGI U | apply zGH | apply zGJ)))) ?_;refine zpc [_] U znP .nil (zdu _ a) ?_;rintro vv4 I4 L4 hI4 ⟨rfl,b5,rfl,hc5⟩;have hb:=hb.mono hI4;have hy2:=hy2.mono hI4;have hc3:=hc3.mono hI4;have hI0:=hI0.trans hI4;have hIl:=hIl.trans hI4;have hC:=hC.trans hI4;refine zN (Qp ?_);refine zaD (rel:=zrv) (xs:=ZE f a) (L:=[]) (fun pre I' H' L'=>L'=[]/\HLe I0 I'/\J (dn++WU pre (ZE f (s-a)) s) I' H') (fun cd pre I' H' L'=>cd= .ret/\L'=[]/\HLe I0 I'/\∃ p,p<+:(ZE (f+1) s)/\Jx p I' H') (fun pre x E2 I2 H2 L2=>∃ b4 n4 c4 a4,E2=[(1,QZ b),(2,QZ b_2),(3,QZ b3),(4,QZ b4)]/\L2=[(b4,.cells #[.slice a4 n4 c4] 37 (0,0))]/\Sl I2 1 Q3 a4 n4 c4 x/\HLe I0 I2/\J (dn++WU pre (ZE f (s-a)) s) I2 H2) (fun pre I1 I2 H' L' h12 ⟨e1,e2,e3⟩=>⟨e1,e2.trans h12,hJm _ _ _ _ h12 e3⟩) U zgM (ih _ (h0.trans hI0) a b5 ⟨kB,kB⟩ hpop.1 hc5) U ⟨U,hI0,by rw [zuY,jz];exact hJm _ _ _ _ hC hJd⟩ ?_ ?_ ?_ ?_
   ·rintro l9 Z pre x v I1 H1 L1 hpre hI1 ⟨a4,n4,c4,rfl,hx4⟩ ⟨rfl,hI01,hJ1⟩;refine Qf ?_;refine Qs YI U U (fun b_4=>?_);refine zS Ze ?_;refine Qb ?_;exact K9 _ ⟨zGN _,[(b_4,_)],U,b_4,n4,c4,a4,U,U,hx4,hI01,hJ1⟩ (.cons U (.cons U (.cons U (.cons U .nil))))
   ·rintro l9 Z pre x E2 I2 H2 L2 hl9 hpre hI2 ⟨b4,n4,c4,a4,rfl,rfl,hx4,hI02,hJ1⟩;have hb:=hb.mono hI2;have hy2:=hy2.mono hI2;have hc3:=hc3.mono hI2;have hI0:=hI0.trans hI2;have hR:=zGN I2;refine QQ .here (fun I5 hI5 hb5=>?_);have hb:=hb.mono hI5;have hy2:=hy2.mono hI5;have hc3:=hc3.mono hI5;have hx4:=hx4.mono hI5;have hI0:=hI0.trans hI5;have hR:=hR.trans hI5;have hc4:QB I5 [] b4 0 (.slice a4 n4 c4):=.imm hb5 U;have hxl:=zlF hf7 hpre;have hx4l:=hx4.len;refine Qp (zR ?_);refine zV (Qd U Qq (fun hg=>by first | exact hb.any | exact hy2.any | exact hc3.any | exact hc4.any | (repeat (first | exact zGI U | apply zGH | apply zGJ)))) ?_;refine zV (Qd U Qq (fun hg=>by first | exact hb.any | exact hy2.any | exact hc3.any | exact hc4.any | (repeat (first | exact zGI U | apply zGH | apply zGJ)))) ?_;refine zV (zbj U U) ?_;refine zpc [_] U znP .nil (zdu _ _) ?_;rintro vv6 I6 L6 hI6 ⟨rfl,b6,rfl,hc6⟩;have hb:=hb.mono hI6;have hy2:=hy2.mono hI6;have hc3:=hc3.mono hI6;have hx4:=hx4.mono hI6;have hc4:=hc4.mono hI6;have hI0:=hI0.trans hI6;have hR:=hR.trans hI6;rw [zt0 hs kB ha2] at hc6;refine zN (Qp ?_);refine zdv (Z:=Z) hl9 (rel:=zrv) (xs:=ZE f (s-a)) (L:=[]) (fun pre2 I' H' L'=>L'=[]/\HLe I0 I'/\J (dn++(WU pre (ZE f (s-a)) s++pre2.map (zch s x))) I' H') (fun cd pre2 I' H' L'=>cd= .ret/\L'=[]/\HLe I0 I'/\∃ p,p<+:(ZE (f+1) s)/\Jx p I' H') (fun pre2 y E2 I2 H2 L2=>∃ n5 c5 a5,E2=[(1,QZ b),(2,QZ b_2),(3,QZ b3),(4,QZ b4),(5,.slice a5 n5 c5)]/\L2=[]/\Sl I2 1 Q3 a5 n5 c5 y/\HLe I0 I2/\J (dn++(WU pre (ZE f (s-a)) s++pre2.map (zch s x))) I2 H2) (fun pre I1 I2 H' L' h12 ⟨e1,e2,e3⟩=>⟨e1,e2.trans h12,hJm _ _ _ _ h12 e3⟩) U zgM (ih _ (h0.trans hI0) (s-a) b6 ⟨kB,kB⟩ hpop.2 hc6) U ⟨U,hI0,by rw [Oo,jz];exact hJm _ _ _ _ hR hJ1⟩ ?_ ?_ ?_ ?_
    ·rintro l8 Z2 pre2 y v I1 H1 L1 hpre2 hI1 ⟨a5,n5,c5,rfl,hx5⟩ ⟨rfl,hI01,hJ2⟩;refine Qf (zA (Qb ?_));exact K9 _ ⟨zGN _,[],U,n5,c5,a5,U,U,hx5,hI01,hJ2⟩ (.cons U (.cons U (.cons U (.cons U (.cons U .nil)))))
    ·rintro l8 Z2 pre2 y E2 I2 H2 L2 hl8 hpre2 hI2 ⟨n5,c5,a5,rfl,rfl,hx5,hI02,hJ2⟩;have hb:=hb.mono hI2;have hy2:=hy2.mono hI2;have hc3:=hc3.mono hI2;have hx4:=hx4.mono hI2;have hc4:=hc4.mono hI2;have hI0:=hI0.trans hI2;have hR2:=zGN I2;have hyl:=zlF hf7 hpre2;have hx5l:=hx5.len;have hxyl:(x++y).length<=254:=(by rw [jh];omega);have hpx:(dn++(WU pre (ZE f (s-a)) s++pre2.map (zch s x)))++[zch s x y]<+:(ZE (f+1) s):=zw1 ha hdn hlow (zwH hpre hpre2);refine Qp (Ql ?_);have hD:=zGN I2;refine YZ ?_;refine ZA I2 [] mixed ?_;refine zT 0 U (Qd U QK (fun hg=>by first | exact hb.any | exact hy2.any | exact hc3.any | exact hc4.any | (repeat (first | exact zGI U | apply zGH | apply zGJ)))) hD ?_;refine zT 1 U (Qj U) hD ?_;refine zT 4 U (Qd U Qq (fun hg=>by first | exact hb.any | exact hy2.any | exact hc3.any | exact hc4.any | (repeat (first | exact zGI U | apply zGH | apply zGJ)))) hD ?_;refine Zo 2 5 U U kA ?_ ?_
     ·refine zpb [(0,_),(1,_)] [KU ⟨a4,n4,c4⟩,KU ⟨a5,n5,c5⟩] UP (fun b_40=>?_);refine Qb ?_;refine zD hD ?_;refine Zo 3 5 U U kA ?_ ?_
      ·refine Ju (b:=b_40) (by repeat (first | exact Zf.here | apply Zf.there)) (fun I7 hI7 hb7=>?_);have hb:=hb.mono hI7;have hy2:=hy2.mono hI7;have hc3:=hc3.mono hI7;have hx4:=hx4.mono hI7;have hc4:=hc4.mono hI7;have hx5:=hx5.mono hI7;have hI0:=hI0.trans hI7;have hR2:=hR2.trans hI7;have hD:=hD.trans hI7;have hVV:=zdk hb7 hx4 hx5;refine zpc [_] U zhd .nil (zbJ hVV kB kB) ?_;rintro vv8 I8 L8 hI8 ⟨rfl,hO6⟩;have hb:=hb.mono hI8;have hy2:=hy2.mono hI8;have hc3:=hc3.mono hI8;have hc4:=hc4.mono hI8;have hI0:=hI0.trans hI8;have hR2:=hR2.trans hI8;have hD:=hD.trans hI8;refine Qb ?_;refine zD hD ?_;refine qd 5 U ?_;refine zpb [(0,_)] [Q3 s] Zw (fun b_43=>?_);refine Qb ?_;refine zD hD ?_;refine qd 6 U ?_;refine zpa (_) ([s].flatMap Q3) (_) U U Zw hO6 ⟨U,fun _=>U,by repeat (first | exact zGL | apply zGK | apply zGM)⟩ (JH [s]) ?_;intro v9 L9 hO9 _;rw [<-jo] at hO9;refine Qb ?_;refine zD hD ?_;refine zT 7 U (QU U) hD ?_;refine Qz kA ?_;refine QD ?_;refine Qa (zR (zM ?_));refine zpc [_] U zfq (by repeat (first | exact .cons .here .nil | exact QT | exact QO | apply Zi | apply Zd)) (zdh hO9 kB _) ?_;rintro vv9 I9 L9 hI9 ⟨rfl,rfl,hO10⟩;have hb:=hb.mono hI9;have hy2:=hy2.mono hI9;have hc3:=hc3.mono hI9;have hc4:=hc4.mono hI9;have hI0:=hI0.trans hI9;have hR2:=hR2.trans hI9;refine zN (Ql ?_);refine KO hO10 Zh kE (by repeat (first | exact QO | exact QT)) (fun I10 hI10 af10 cf10 ef10 hl6=>?_);subst ef10;have hb:=hb.mono hI10;have hy2:=hy2.mono hI10;have hc3:=hc3.mono hI10;have hc4:=hc4.mono hI10;have hI0:=hI0.trans hI10;have hR2:=hR2.trans hI10;refine Qf ?_;refine zV (Qd U zje (fun hg=>by first | exact hb.any | exact hy2.any | exact hc3.any | exact hc4.any | (repeat (first | exact zGI U | apply zGH | apply zGJ)))) ?_;refine zM ?_;refine JA (vs:=[_]) U U U U (hY _ (zch s x y) _ _ _ hpx (h0.trans hI0) ⟨_,_,_,U,hl6⟩ (hJm _ _ _ _ hR2 hJ2)) ?_;rintro t9 I11 H11 hI11 hpost;have hI0:=hI0.trans hI11;have hR2:=hR2.trans hI11;refine zO (zN ?_);refine zI ?_ ?_<;>intro hc50
       ·have ht:t9=false:=(by simpa using hc50);refine Qr (Qn ?_);exact JO (L:=[]) ⟨hR2,U,U,hI0,_,hpx,by have h9:=hpost;rw [ht] at h9;simpa using h9⟩ kD
       have ht:t9=true:=(by simpa using hc50);refine Qo (Qg ?_);exact UR (L:=[]) ⟨hR2,U,hI0,by have h9:=hpost;rw [ht] at h9;simpa [jn] using h9⟩ kD
      refine zpb [(0,_)] [Q3 s] Zw (fun b_43=>?_);refine Qb ?_;refine zD hD ?_;refine qd 3 U ?_;refine Ju (b:=b_40) (by repeat (first | exact Zf.here | apply Zf.there)) (fun I12 hI12 hb12=>?_);have hb:=hb.mono hI12;have hy2:=hy2.mono hI12;have hc3:=hc3.mono hI12;have hx4:=hx4.mono hI12;have hc4:=hc4.mono hI12;have hx5:=hx5.mono hI12;have hI0:=hI0.trans hI12;have hR2:=hR2.trans hI12;have hD:=hD.trans hI12;have hVV:=zdk hb12 hx4 hx5;refine zpc [_] U zhd .nil (zbJ hVV kB kB) ?_;rintro vv13 I13 L13 hI13 ⟨rfl,hO6⟩;have hb:=hb.mono hI13;have hy2:=hy2.mono hI13;have hc3:=hc3.mono hI13;have hc4:=hc4.mono hI13;have hI0:=hI0.trans hI13;have hR2:=hR2.trans hI13;have hD:=hD.trans hI13;refine Qb ?_;refine zD hD ?_;refine qd 6 U ?_;refine zpa (_) ([s].flatMap Q3) (_) U U Zw hO6 ⟨U,fun _=>U,by repeat (first | exact zGL | apply zGK | apply zGM)⟩ (JH [s]) ?_;intro v9 L9 hO9 _;rw [<-jo] at hO9;refine Qb ?_;refine zD hD ?_;refine zT 7 U (QU U) hD ?_;refine Qz kA ?_;refine QD ?_;refine Qa (zR (zM ?_));refine zpc [_] U zfq (by repeat (first | exact .cons .here .nil | exact QT | exact QO | apply Zi | apply Zd)) (zdh hO9 kB _) ?_;rintro vv14 I14 L14 hI14 ⟨rfl,rfl,hO10⟩;have hb:=hb.mono hI14;have hy2:=hy2.mono hI14;have hc3:=hc3.mono hI14;have hc4:=hc4.mono hI14;have hI0:=hI0.trans hI14;have hR2:=hR2.trans hI14;refine zN (Ql ?_);refine KO hO10 Zh kE (by repeat (first | exact QO | exact QT)) (fun I15 hI15 af15 cf15 ef15 hl6=>?_);subst ef15;have hb:=hb.mono hI15;have hy2:=hy2.mono hI15;have hc3:=hc3.mono hI15;have hc4:=hc4.mono hI15;have hI0:=hI0.trans hI15;have hR2:=hR2.trans hI15;refine Qf ?_;refine zV (Qd U zje (fun hg=>by first | exact hb.any | exact hy2.any | exact hc3.any | exact hc4.any | (repeat (first | exact zGI U | apply zGH | apply zGJ)))) ?_;refine zM ?_;refine JA (vs:=[_]) U U U U (hY _ (zch s x y) _ _ _ hpx (h0.trans hI0) ⟨_,_,_,U,hl6⟩ (hJm _ _ _ _ hR2 hJ2)) ?_;rintro t9 I16 H16 hI16 hpost;have hI0:=hI0.trans hI16;have hR2:=hR2.trans hI16;refine zO (zN ?_);refine zI ?_ ?_<;>intro hc50
      ·have ht:t9=false:=(by simpa using hc50);refine Qr (Qn ?_);exact JO (L:=[]) ⟨hR2,U,U,hI0,_,hpx,by have h9:=hpost;rw [ht] at h9;simpa using h9⟩ kD
      have ht:t9=true:=(by simpa using hc50);refine Qo (Qg ?_);exact UR (L:=[]) ⟨hR2,U,hI0,by have h9:=hpost;rw [ht] at h9;simpa [jn] using h9⟩ kD
     refine zpb [(0,_)] [Q3 s] Zw (fun b_43=>?_);refine Qb ?_;refine zD hD ?_;refine qd 2 U ?_;refine zpb [(0,_),(1,_)] [KU ⟨a4,n4,c4⟩,KU ⟨a5,n5,c5⟩] UP (fun b_40=>?_);refine Qb ?_;refine zD hD ?_;refine qd 3 U ?_;refine Ju (b:=b_40) (by repeat (first | exact Zf.here | apply Zf.there)) (fun I17 hI17 hb17=>?_);have hb:=hb.mono hI17;have hy2:=hy2.mono hI17;have hc3:=hc3.mono hI17;have hx4:=hx4.mono hI17;have hc4:=hc4.mono hI17;have hx5:=hx5.mono hI17;have hI0:=hI0.trans hI17;have hR2:=hR2.trans hI17;have hD:=hD.trans hI17;have hVV:=zdk hb17 hx4 hx5;refine zpc [_] U zhd .nil (zbJ hVV kB kB) ?_;rintro vv18 I18 L18 hI18 ⟨rfl,hO6⟩;have hb:=hb.mono hI18;have hy2:=hy2.mono hI18;have hc3:=hc3.mono hI18;have hc4:=hc4.mono hI18;have hI0:=hI0.trans hI18;have hR2:=hR2.trans hI18;have hD:=hD.trans hI18;refine Qb ?_;refine zD hD ?_;refine qd 6 U ?_;refine zpa (_) ([s].flatMap Q3) (_) U U Zw hO6 ⟨U,fun _=>U,by repeat (first | exact zGL | apply zGK | apply zGM)⟩ (JH [s]) ?_;intro v9 L9 hO9 _;rw [<-jo] at hO9;refine Qb ?_;refine zD hD ?_;refine zT 7 U (QU U) hD ?_;refine Qz kA ?_;refine QD ?_;refine Qa (zR (zM ?_));refine zpc [_] U zfq (by repeat (first | exact .cons .here .nil | exact QT | exact QO | apply Zi | apply Zd)) (zdh hO9 kB _) ?_;rintro vv19 I19 L19 hI19 ⟨rfl,rfl,hO10⟩;have hb:=hb.mono hI19;have hy2:=hy2.mono hI19;have hc3:=hc3.mono hI19;have hc4:=hc4.mono hI19;have hI0:=hI0.trans hI19;have hR2:=hR2.trans hI19;refine zN (Ql ?_);refine KO hO10 Zh kE (by repeat (first | exact QO | exact QT)) (fun I20 hI20 af20 cf20 ef20 hl6=>?_);subst ef20;have hb:=hb.mono hI20;have hy2:=hy2.mono hI20;have hc3:=hc3.mono hI20;have hc4:=hc4.mono hI20;have hI0:=hI0.trans hI20;have hR2:=hR2.trans hI20;refine Qf ?_;refine zV (Qd U zje (fun hg=>by first | exact hb.any | exact hy2.any | exact hc3.any | exact hc4.any | (repeat (first | exact zGI U | apply zGH | apply zGJ)))) ?_;refine zM ?_;refine JA (vs:=[_]) U U U U (hY _ (zch s x y) _ _ _ hpx (h0.trans hI0) ⟨_,_,_,U,hl6⟩ (hJm _ _ _ _ hR2 hJ2)) ?_;rintro t9 I21 H21 hI21 hpost;have hI0:=hI0.trans hI21;have hR2:=hR2.trans hI21;refine zO (zN ?_);refine zI ?_ ?_<;>intro hc50
     ·have ht:t9=false:=(by simpa using hc50);refine Qr (Qn ?_);exact JO (L:=[]) ⟨hR2,U,U,hI0,_,hpx,by have h9:=hpost;rw [ht] at h9;simpa using h9⟩ kD
     have ht:t9=true:=(by simpa using hc50);refine Qo (Qg ?_);exact UR (L:=[]) ⟨hR2,U,hI0,by have h9:=hpost;rw [ht] at h9;simpa [jn] using h9⟩ kD
    ·rintro I1 H1 L1 hI1 ⟨rfl,hI01,hJ2⟩;have hI0:=hI0.trans hI1;have hR:=hR.trans hI1;refine Qg (Qg ?_);exact UR (L:=[]) ⟨hR,U,hI0,by rw [<-zrp];exact hJ2⟩ kD
    rintro cd pre2 I1 H1 L1 hI1 hpre2 ⟨rfl,rfl,hI01,hJx⟩;have hI0:=hI0.trans hI1;have hR:=hR.trans hI1;refine Qr (Qn (Qn ?_));exact JO (L:=[]) ⟨hR,U,U,hI0,hJx⟩ kD
   ·rintro bd I1 H1 L1 hI1 ⟨rfl,hI01,hJ1⟩;have hb:=hb.mono hI1;have hy2:=hy2.mono hI1;have hc3:=hc3.mono hI1;have hI0:=hI0.trans hI1;have hIl:=hIl.trans hI1;have hC:=hC.trans hI1;refine Qg (Qg (Qa (Ql (zR ?_))));refine zV (Qd U Qq (fun hg=>by first | exact hb.any | exact hy2.any | exact hc3.any | exact hc4.any | (repeat (first | exact zGI U | apply zGH | apply zGJ)))) ?_;refine zN (Qf ?_);refine Qs zsW U U (fun b_3=>?_);refine zS ZD ?_;refine zN (Qf ?_);refine zV (Qd U Qq (fun hg=>by first | exact hb.any | exact hy2.any | exact hc3.any | exact hc4.any | (repeat (first | exact zGI U | apply zGH | apply zGJ)))) ?_;refine zV (KB U U U) ?_;refine zV (Qd U Qq (fun hg=>by first | exact hb.any | exact hy2.any | exact hc3.any | exact hc4.any | (repeat (first | exact zGI U | apply zGH | apply zGJ)))) ?_;refine zV (Uu U U) ?_;refine zS ZD ?_;refine Qb ?_
    first
    | exact za0 U U _ _ ⟨(YT s a).toNat,kB,YT s a,q,dn++WU (ZE f a) (ZE f (s-a)) s,b_3,U,U,U,hI0,hIl,⟨hna.1,kB,XE hs kB,kB,zoD ha hdn hlow⟩,hJ1⟩ (.cons U (.cons U (.cons U .nil))) kD
    | exact za0 U U _ _ ⟨(YT s a).toNat,kB,YT s a,q,dn,b_3,U,U,U,hI0,hIl,⟨hna.1,kB,XE hs kB,kB,zrV ha hdn hlow⟩,hJm _ _ _ _ hC hJd⟩ (.cons U (.cons U (.cons U .nil))) kD
   rintro cd bd pre I1 H1 L1 hI1 hpre ⟨rfl,rfl,hI01,hJx⟩;have hI0:=hI0.trans hI1;refine Qr (Qn (Qn (Qc (Qc (Qn ?_)))))
   first
   | exact Ye (L:=[]) (ms:=[]) (fun a ha w hw=>zpx U a w) (fun w hw=>⟨_,_,_,U,hI0,hw,by rw [Wa hsing];cases t9 with
  | true=>exact .inl hpost
  | false=>exact .inr ⟨_,A4,hpost⟩⟩)
    | exact zdC (Ye (L:=[(_,_)]) (fun a ha w hw=>zpx U a w) (fun w hw=>⟨_,_,_,U,hI0,hw.drop,.inl hJd⟩))
    | exact Ye (L:=[]) (fun a ha w hw=>zpx U a w) (fun w hw=>⟨_,_,_,U,hI0,hw,.inr hJx⟩)
 have ha:¬a>0:=(by simpa using hc16);have hdn2:dn=(ZE (f+1) s):=(by rw [<-hdn,zwb ha];simp);rw [hdn2] at hJd;refine QF (Qh (Qh (Qm ?_)))
 first
 | exact Ye (L:=[]) (ms:=[]) (fun a ha w hw=>zpx U a w) (fun w hw=>⟨_,_,_,U,hI0,hw,by rw [Wa hsing];cases t9 with
 | true=>exact .inl hpost
 | false=>exact .inr ⟨_,A4,hpost⟩⟩)
 | exact zdC (Ye (L:=[(_,_)]) (fun a ha w hw=>zpx U a w) (fun w hw=>⟨_,_,_,U,hI0,hw.drop,.inl hJd⟩))
 | exact Ye (L:=[]) (fun a ha w hw=>zpx U a w) (fun w hw=>⟨_,_,_,U,hI0,hw,.inr hJx⟩)
def zbh (x y:Int):Int:=if x<y then -1 else if x>y then 1 else 0
def V2:List Int->List Int->Int
 | [],[]=>0
 | [],_::_=> -1
 | _::_,[]=>1
 | x::a,y::b=>if zbh x y≠0 then zbh x y else V2 a b
variable{a b:List Int}{k:Nat}{y:Int}
theorem zCW {x:Int}(hx:a[k]? =some x)(hy:b[k]? =some y)(h:zbh x y≠0):V2 (a.drop k) (b.drop k)=zbh x y:=by rw [Zz hx,Zz hy,V2,jb h]
theorem zBD {x:Int}(hx:a[k]? =some x)(hy:b[k]? =some y)(h:zbh x y=0):V2 (a.drop k) (b.drop k)=V2 (a.drop (k+1)) (b.drop (k+1)):=by rw [Zz hx,Zz hy,V2,ja (fun e=>e h)]
theorem zFo {x:Int}(hx:a[k]? =some x)(h:b.length<=k):V2 (a.drop k) (b.drop k)=1:=by rw [Zz hx,Oa h];rfl
theorem zEl (h:a.length<=k)(h2:k<b.length):V2 (a.drop k) (b.drop k)= -1:=by rw [Oa h,A2 h2];rfl
theorem zE0 (h:a.length<=k)(h2:b.length<=k):V2 (a.drop k) (b.drop k)=0:=by rw [Oa h,Oa h2];rfl
theorem zow (x y:Int):zbh y x= - zbh x y:=by unfold zbh;split<;>split<;>(try split)<;>omega
theorem ziA {x:Int}:zbh x y=0↔x=y:=by
 unfold zbh;split
 ·constructor<;>intro h<;>omega
 ·split
  ·constructor<;>intro h<;>omega
  ·constructor<;>intro h<;>omega
theorem zeq {x:Int}:zbh x y<0↔x<y:=by
 unfold zbh;split
 ·constructor<;>intro h<;>omega
 ·split
  ·constructor<;>intro h<;>omega
  ·constructor<;>intro h<;>omega
theorem XH:∀ (a b:List Int),V2 b a= - V2 a b
 | [],[]=>rfl
 | [],_::_=>rfl
 | _::_,[]=>rfl
 | x::a,y::b=>by
  simp only [V2];have h:=zow x y;by_cases e:zbh x y=0
  ·rw [ja kB,ja kB,XH a b]
  ·rw [jb kB,jb e,h]
theorem zdd:∀ {a b:List Int},V2 a b=0->a=b
 | [],[],_=>rfl
 | x::a,y::b,h=>by
  simp only [V2] at h;by_cases e:zbh x y=0
  ·rw [ja kB] at h;rw [ziA.1 e,zdd h]
  ·rw [jb e] at h;exact absurd h e
theorem zhP:∀ (a:List Int),V2 a a=0
 | []=>rfl
 | x::a=>by
  simp only [V2];rw [ja (fun h=>h (ziA.2 U)),zhP a]
theorem XI:∀ {a b c:List Int},V2 a b<0->V2 b c<0->V2 a c<0
 | [],[],_,h,_=>by simp [V2] at h
 | [],_::_,[],_,h=>by simp [V2] at h
 | [],_::_,_::_,_,_=>by simp [V2]
 | _::_,[],_,h,_=>by simp [V2] at h
 | _::_,_::_,[],_,h=>by simp [V2] at h
 | x::a,y::b,z::c,h1,h2=>by
  simp only [V2] at h1 h2 ⊢;by_cases e1:zbh x y=0
  ·rw [ja kB] at h1;have:=ziA.1 e1;subst this;by_cases e2:zbh x z=0
   ·rw [ja kB] at h2 ⊢;exact XI h1 h2
   ·rw [jb e2] at h2 ⊢;exact h2
  ·rw [jb e1] at h1;by_cases e2:zbh y z=0
   ·have:=ziA.1 e2;subst this;rw [jb e1];exact h1
   ·rw [jb e2] at h2;have h3:=zeq.1 h1;have h4:=zeq.1 h2;have h5:zbh x z<0:=zeq.2 kB;rw [jb kB];exact h5
def leF (x y:List Int):Prop:=¬V2 y x<0
theorem zqK {y:List Int}(h:leF x y)(g:leF y x):x=y:=by unfold leF at h g;have:=XH x y;exact zdd kB
theorem znI {y:List Int}(h:V2 x y<0):leF x y:=by unfold leF;have:=XH x y;omega
theorem zqC {a b:List (List Int)}(ha:a.Pairwise leF)(hb:b.Pairwise leF)(h:a.Perm b):a=b:=
 A7 (le:=leF) (fun _ _ _ _ h1 h2=>zqK h1 h2) ha hb h
def zBd (n:Int)(vss:List (List Int)):Prop:=vss.Perm (ZE 7 (YY n))/\vss.Pairwise leF
def zxP (x:Int):List Int->List Int
 | []=>[x]
 | y::l=>if x<=y then x::y::l else y::zxP x l
def zzG:List Int->List Int
 | []=>[]
 | x::l=>zxP x (zzG l)
theorem zd4 (x:Int):∀ (l:List Int),(zxP x l).Perm (x::l)
 | []=>.refl _
 | y::l=>by
  unfold zxP;split
  ·exact .refl _
  ·exact ((zd4 x l).cons y).trans (.swap ..)
theorem zhN:∀ (l:List Int),(zzG l).Perm l
 | []=>.refl _
 | x::l=>(zd4 x _).trans ((zhN l).cons x)
theorem ziy {x:Int}:∀ {l:List Int},l.Pairwise (· <= ·)->(zxP x l).Pairwise (· <= ·)
 | [],_=>by simp [zxP]
 | y::l,h=>by
  unfold zxP;rw [jV] at h;split
  ·rename_i hxy;refine jV.2 ⟨fun z hz=>?_,jV.2 h⟩;rcases jp.1 hz with rfl | hz
   ·exact hxy
   ·have:=h.1 z hz;omega
  ·rename_i hxy;refine jV.2 ⟨fun z hz=>?_,ziy h.2⟩;rcases jp.1 ((zd4 x l).mem_iff.1 hz) with rfl | hz
   ·omega
   ·exact h.1 z hz
theorem zjm:∀ (l:List Int),(zzG l).Pairwise (· <= ·)
 | []=>.nil
 | _::l=>ziy (zjm l)
theorem zlp (l:List Int):YB l=zzG l:=by unfold YB;refine A7 (le:=(· <= ·)) (fun a b _ _ h1 h2=>kB) ?_ (zjm l) ((A0 _ _).trans (zhN l).symm);have:=Bg (le:=fun x y:Int=>decide (x<=y)) (fun a b c=>by simp;omega) (fun a b=>by simp;omega) l;exact this.imp fun h=>by simpa using h
def zfs:Nat->Int->List (List Int)
 | 0,_=>[]
 | f+1,s=>if Z5 s=true then [[]] else (zct s 64 (YT s s)).flatMap fun a=>if zey a s then (zfs f a).flatMap fun x=>(zfs f (s-a)).map fun y=>zzG ((x++y)++[s]) else []
theorem zdn:∀ (f:Nat) (s:Int),ZE f s=zfs f s
 | 0,_=>rfl
 | f+1,s=>by
  simp only [ZE,zfs];split
  ·rfl
  ·congr 1;funext a;split
   ·unfold WU;rw [zdn f a,zdn f (s-a)];congr 1;funext x;congr 1;funext y;exact zlp _
   ·rfl
theorem zf0 {lt:List Int->List Int->Bool}:∀ (a b:List (List Int)),(zai lt a b).Perm (a++b)
 | a,[]=>by simp [zai]
 | a,y::b=>by
  simp only [zai];have h:=zf0 (lt:=lt) (a.dropWhile fun x=>lt x y) b;have e:(a.takeWhile fun x=>lt x y)++(a.dropWhile fun x=>lt x y)=a:=Ow
  calc (a.takeWhile (fun x=>lt x y)++y::zai lt (a.dropWhile fun x=>lt x y) b).Perm (a.takeWhile (fun x=>lt x y)++y::((a.dropWhile fun x=>lt x y)++b)):=(h.cons y).append_left _
   _ |>.Perm (y::(a.takeWhile (fun x=>lt x y)++((a.dropWhile fun x=>lt x y)++b))):=O0
   _=y::(a++b):=by rw [<-jn,e]
   _ |>.Perm (a++y::b):=O0.symm
theorem X4:∀ (f:Nat) (l:List (List Int)),(zco f l).Perm l
 | 0,_=>.refl _
 | f+1,l=>by
  simp only [zco];split
  ·exact .refl _
  ·refine (zf0 _ _).trans ?_;have h:=(X4 f (l.take (l.length / 2))).append (X4 f (l.drop (l.length / 2)));rw [jy] at h;exact h
def zev:List (List Int)->Bool
 | []=>true
 | x::l=>(match l with | []=>true | y::_=>decide (V2 x y<0))&&zev l
theorem zbO:∀ {l:List (List Int)},zev l=true->l.Pairwise (fun x y=>V2 x y<0)
 | [],_=>.nil
 | x::l,h=>by
  simp only [zev,jj] at h;have ih:=zbO h.2;refine jV.2 ⟨fun z hz=>?_,ih⟩
  cases l with
  | nil=>cases hz
  | cons y l=>
   have h1:V2 x y<0:=(by simpa using h.1);rcases jp.1 hz with rfl | hz
   ·exact h1
   ·exact XI h1 ((jV.1 ih).1 z hz)
theorem zo2:((List.range 6).all fun n=>n==0||(zev (Js (n:Int))&&decide (zco 946 (zfs 7 (YY (n:Int)))=Js (n:Int))))=true:=kA
theorem zv8 (h1:1<=n)(h5:n<=5):(Js (n:Int)).Pairwise (fun x y=>V2 x y<0)/\(ZE 7 (YY (n:Int))).Perm (Js (n:Int)):=by have h:=ji.1 zo2 n (jm.2 kB);have hne:(n==0)=false:=(by simp;omega);rw [hne,OC,jj,jQ] at h;refine ⟨zbO h.1,?_⟩;rw [zdn,<-h.2];exact (X4 _ _).symm
theorem zw3 (h1:1<=n)(h5:n<=5)(h:zBd (n:Int) vss):vss=Js (n:Int):=by obtain ⟨g1,g2⟩:=zv8 h1 h5;exact zqC h.2 (g1.imp znI) (h.1.trans g2)
def zBO:Nat->Int->Nat
 | 0,_=>0
 | f+1,s=>if Z5 s=true then 1 else ((zct s 64 (YT s s)).map fun a=>if zey a s then zBO f a*zBO f (s-a) else 0).sum
variable{s:Int}
theorem zt6 {X Y:List (List Int)}:(WU X Y s).length=X.length*Y.length:=by
 unfold WU
 induction X with
 | nil=>simp
 | cons x X ih=>rw [jO,jh,ih,jE,jw,Nat.succ_mul,Nat.add_comm]
theorem zaw:∀ (f:Nat) (s:Int),(ZE f s).length=zBO f s
 | 0,_=>rfl
 | f+1,s=>by
  simp only [ZE,zBO];split
  ·rfl
  ·rw [List.length_flatMap];congr 1;refine O6 fun a _=>?_;split
   ·rw [zt6,zaw f a,zaw f (s-a)]
   ·rfl
theorem zqr:((List.range 7).all fun n=>n==0||decide (zBO 7 (YY (n:Int))<=945))=true:=kA
theorem zgp (h1:1<=n)(h6:n<=6):(ZE 7 (YY (n:Int))).length<=945:=by have h:=ji.1 zqr n (jm.2 kB);have hne:(n==0)=false:=(by simp;omega);rw [hne,OC,jQ] at h;rw [zaw];exact h
theorem zhq:((List.range 64).all fun s=>s==0||decide (1<=Wp (s:Int)))=true:=kA
theorem zdy (hs:1<=s/\s<=63):1<=Wp s:=by have h:=ji.1 zhq s.toNat (jm.2 kB);rw [show ((s.toNat:Nat):Int)=s by omega,show (s.toNat==0)=false by simp;omega,OC,jQ] at h;exact h
structure HdP (I:Qt) where
 h:Hd
 v:List Int
 ok:Sl I 1 Q3 h.a h.n h.c v
 len:v.length<=1000
instance (I : Qt) : Inhabited (HdP I) := ⟨⟨⟨none, 0, 0⟩, [], Sl.nil, by simp⟩⟩
def Yh {I:Qt}(p:HdP I):Value:=.slice p.h.a p.h.n p.h.c
def zy8 {I:Qt}(p q:HdP I):Int:=V2 p.v q.v
theorem ziB {I:Qt}:∀ {hs:List Hd} {vss:List (List Int)},zaq I hs vss->(∀ r∈vss,r.length<=1000)->∃ zs:List (HdP I),zs.map (fun p=>p.h)=hs/\zs.map (fun p=>p.v)=vss
 | [],[],_,_=>⟨[],U,U⟩
 | [],_::_,h,_=>by have:=h.1;simp at this
 | _::_,[],h,_=>by have:=h.1;simp at this
 | hd::hs,v::vss,h,hl=>by
  obtain ⟨zs,h1,h2⟩:=ziB (I:=I) (hs:=hs) (vss:=vss) ⟨by have:=h.1;simpa using this,fun k x y a b=>h.2 (k+1) x y (by simpa using a) (by simpa using b)⟩ (fun r hr=>hl r (jq _ hr));exact ⟨⟨hd,v,h.2 0 hd v U U,hl v (jk ..)⟩::zs,by rw [jx,h1],by rw [jx,h2]⟩
theorem zpB (zs:List (HdP I)):zaq I (zs.map fun p=>p.h) (zs.map fun p=>p.v):=by refine ⟨by rw [jE,jE],fun k h v a b=>?_⟩;rw [j5] at a b;obtain ⟨p,hp,rfl⟩:=jY.1 a;rw [hp] at b;cases b;exact p.ok
theorem ztB (hs:List Hd):hs.flatMap KU=hs.map fun h=>Value.slice h.a h.n h.c:=by
 induction hs with
 | nil=>rfl
 | cons h hs ih=>rw [jO,ih];rfl
theorem XV:Fun Tryz.prog 116:=.of Tryz.func116 kA kA
theorem ztR:Fun Tryz.prog 188:=.of Tryz.func188 kA kA
theorem zfe:Fun Tryz.prog 42:=.of Tryz.func42 kA kA
theorem zBn:SzT Tryz.prog 33 1:=.of kA
theorem ztu:∀ (f:Nat),f<=8->∀ (I:Qt) (s:Int) (b:Nat),(1<=s/\s<=63)->Wp s<=f->QB I [] b 0 (.int .i64 s)->zpM Tryz.prog 144 [QZ b] I zrv (ZE f s)
 | 0,_,_,s,_,hs,hp,_=>by have:=zdy hs;omega
 | f+1,hf,I,s,b,hs,hp,hb=>zgP f kB s hs hb fun I' _ s' b' hs' hlt hb'=>ztu f kB I' s' b' hs' kB hb'
variable{f:Nat}{cap:List Value}{ys:List (List Int)}
theorem zgY (hF:Fun Tryz.prog f)(hseq:zpM Tryz.prog f cap I zrv ys)(hy:ys.length<=100000):ZQ Tryz.prog 188 [.slice none 0 0,.func (.func f) #[] cap.toArray] I [] ((fun v I' L=>∃ hs,OwnS 37 1 v (ys).length (hs.flatMap KU) L/\zaq I' hs ys)):=by
 intro g H w hw;refine zay Tryz.func188 U Tryz.ntmps188 U hw ?_;refine zR ?_;refine QG U U U (fun b_2=>?_);refine zA (zN (Ql (zR ?_)));refine zM (zN (Qp ?_));refine zaD (ms:=[]) (rel:=zrv) (L:=[(b_2,.cells #[.slice none 0 0] 33 (0,0))]) (fun pre I' H' L'=>∃ (v:Value) (q:Nat) (L:Go.Kn.Loc) (hs:List Hd),L'=L++[(b_2,.cells #[v] 33 (0,0))]/\H'=H/\HLe I I'/\OwnS 37 1 v q (hs.flatMap KU) L/\q=pre.length/\zaq I' hs pre) (fun _ _ _ _ _=>False) (fun pre x E2 I2 H2 L2=>∃ (v:Value) (q:Nat) (L:Go.Kn.Loc) (hs:List Hd) (a5:Option Addr) (n5 c5:Nat),E2=[(2,QZ b_2),(5,.slice a5 n5 c5)]/\L2=L++[(b_2,.cells #[v] 33 (0,0))]/\H2=H/\HLe I I2/\OwnS 37 1 v q (hs.flatMap KU) L/\q=pre.length/\zaq I2 hs pre/\Sl I2 1 Q3 a5 n5 c5 x) (fun pre I1 I2 H' L' h12 ⟨v,q,L,hs,e1,e2,e3,e4,e5,e6⟩=>⟨v,q,L,hs,e1,e2,e3.trans h12,e4,e5,e6.mono h12⟩) U hF hseq U ⟨_,0,[],[],U,U,zGN _,OwnS.nil,U,zaq.nil⟩ ?_ ?_ ?_ ?_
 ·rintro l9 Z pre x v0 I1 H1 L1 hpre hI1 ⟨a5,n5,c5,rfl,hx5⟩ ⟨v,q,L,hs,rfl,rfl,hI01,hO,hq,hre⟩;refine Qf (zA (Qb ?_));exact K9 _ ⟨zGN _,_,U,v,q,L,hs,a5,n5,c5,U,U,U,hI01,hO,hq,hre,hx5⟩ (.cons U (.cons U .nil))
 ·rintro l9 Z pre x E2 I2 H2 L2 hl9 hpre hI2 ⟨v,q,L,hs,a5,n5,c5,rfl,rfl,rfl,hI02,hO,hq,hre,hx5⟩;have hlen:=hpre.length_le;rw [jh,jG] at hlen;rw [jn];refine Qp (Qf ?_);refine zV (Qd U Ki (fun hg=>by exact zGJ (zGI U))) ?_;refine zM ?_;refine zpb [(0,_)] [KU ⟨a5,n5,c5⟩] UP (fun b_10=>?_);refine zbF (v:=_) (ys:=[(⟨a5,n5,c5⟩:Hd)].flatMap KU) (L:=L) U U UP hO (zfl (A:=[_]) (B:=_::Z)) ⟨U,fun _=>U,by repeat (first | exact zGL | apply zGK | apply zGM)⟩ (zrh _) kB U U ?_;intro v9 L9 hO9 _;rw [<-jo] at hO9;refine Z0 U U zBn hO9.one U (by exact QH (.there .here)) U ?_;refine Qb (Qg ?_);exact UR (L:=L9++[(b_2,_)]) ⟨zGN _,v9,q+1,L9,hs++[⟨a5,n5,c5⟩],U,U,hI02,hO9,by rw [jh,jG];omega,hre.snoc (hd:=⟨a5,n5,c5⟩) hx5⟩ (by rw [jn];exact KK (by repeat (first | exact .refl | refine .keep ?_ | refine .drop ?_)))
 ·rintro bd I1 H1 L1 hI1 ⟨v,q,L,hs,rfl,rfl,hI01,hO,hq,hre⟩;refine Qg (Qa (zR ?_));refine zV (Qd U Ki (fun hg=>by exact QB.lft (zGJ (zGI U)))) ?_;refine zA (zN (Qr ?_));exact Ye (L:=L++[(b_2,_)]) (ms:=[bd]) (fun a ha w hw=>zFN U U a ha w) (fun w hw=>⟨_,I1,L,U,hI01,hw.subL QS,hs,by rw [<-hq];exact hO,hre⟩)
 rintro cd bd pre I1 H1 L1 hI1 hpre hF;exact hF.elim
theorem zlr (hF:Fun Tryz.prog f)(hseq:zpM Tryz.prog f cap I zrv ys)(hy:ys.length<=100000):ZQ Tryz.prog 142 [.func (.func f) #[] cap.toArray] I [] ((fun v I' L=>∃ hs,OwnS 37 1 v (ys).length (hs.flatMap KU) L/\zaq I' hs ys)):=by intro g H w hw;refine qe Tryz.func142 Tryz.ntmps142 hw ?_;have hIc:=zGN I;refine zR (zA ?_);refine zN (zR ?_);refine zM ?_;refine zpc [_,_] U ztR .nil (zgY hF hseq hy) ?_;rintro vv1 I1 L1 hI1 ⟨hs,hO,hre⟩;have hIc:=hIc.trans hI1;rw [jz];refine zA (zN (Qr ?_));exact QR U U (fun w hw=>⟨_,_,_,U,hIc,hw,hs,hO,hre⟩)
theorem zgU (I:Qt)(x:Int):Zt Tryz.prog 116 [.int .i64 x] I (.bool false):=by intro g H w hw;refine qe Tryz.func116 Tryz.ntmps116 hw ?_;refine zR (zA ?_);refine zN (zR ?_);refine zM ?_;refine zM ?_;refine zC ?_;refine zA (zN (Qr ?_));exact zr U U kK
theorem zjC (I:Qt)(x y:Int):Zt Tryz.prog 42 [.int .i64 x,.int .i64 y] I (.int .i64 (zbh x y)):=by
 intro g H w hw;refine qe Tryz.func42 Tryz.ntmps42 hw ?_;refine zR (zA ?_);refine zN (zR ?_);refine zM ?_;refine qcV (vs:=[_]) U XV (zgU _ _) ?_;refine zA ?_;refine zN (zR ?_);refine zM ?_;refine qcV (vs:=[_]) U XV (zgU _ _) ?_;refine zA (zN (Ql (zR ?_)));refine zM (zN ?_);refine zI ?_ ?_<;>intro hc11
 ·cases hc11
 refine Qo (Qa (Ql (zR (zM (zN ?_)))));refine zI ?_ ?_<;>intro hc13
 ·cases hc13
 refine Qo (Qa (Ql (zR (zM ?_))));refine zM ?_;refine zC (zN ?_);refine zI ?_ ?_<;>intro hc16
 ·have h1:x<y:=(by simpa using hc16);refine zR (zA (zN (Qr (Qc ?_))))
  first
  | exact zr U U (by unfold zbh;rw [jb h1])
 have h1:¬x<y:=(by simpa using hc16);refine Qo (Qa (Ql (zR (zM ?_))));refine zM ?_;refine zC (zN ?_);refine zI ?_ ?_<;>intro hc19
 ·have h2:x>y:=(by simpa using hc19);refine zR (zA (zN (Qr (Qc ?_))))
  first
  | exact zr U U (by unfold zbh;rw [ja h1,jb h2])
 have h2:¬x>y:=(by simpa using hc19);refine Qo (Qa (zR (zA (zN (Qr ?_)))))
 first
 | exact zr U U (by unfold zbh;rw [ja h1,ja h2])
variable{xs:List Int}{bv:Option Addr}{n2 c2:Nat}
theorem zno (hS:Sl I 1 Q3 av n c xs)(hn:n<=100000){ys:List Int}(hT:Sl I 1 Q3 bv n2 c2 ys)(_hn2:n2<=100000):Zt Tryz.prog 67 [.slice av n c,.slice bv n2 c2] I (.int .i64 (V2 xs ys)):=by
 intro g H w hw;refine qe Tryz.func67 Tryz.ntmps67 hw ?_;have hl1:=hS.len;have hl2:=hT.len;refine zR (zA (zN (Ql (zR ?_))));refine zM ?_;refine zQ Qx ?_;refine zM (zN (Qp ?_));refine zU [(0,_),(1,_),(9,_),(10,_)] (fun T L0 mz E I' loc'=>∃ (k:Nat),mz=n-k/\E=(11,.int .i64 k)::T/\I=I'/\L0=loc'/\k<=n/\V2 xs ys=V2 (xs.drop k) (ys.drop k)) ?_ (h:=⟨0,U,U,U,U,jf _,U⟩);rintro mz E I' loc' ⟨k,rfl,rfl,rfl,rfl,hk,hcm⟩;refine zR (zC (zN (Ql ?_)));refine zI ?_ ?_<;>intro hc12
 ·have hlt_k:k<n:=(by have h:=hc12;simp at h;omega);obtain ⟨x,hx⟩:=hS.at hlt_k;refine Qo (Qa (Ql (Qp (zR (zM ?_)))));refine zV (zX Qx hS) ?_;refine zV (Qd U Qq (fun hg=>by exact zGG hS hx U)) ?_;refine zA ?_;refine zA (zN (Ql (zR ?_)));refine zM ?_;refine zM ?_;refine zQ Qx ?_;refine zC (zN ?_);refine zI ?_ ?_<;>intro hc19
  ·have hk2:n2<=k:=(by have h:=hc19;simp at h;omega);refine zR (zA (zN (Qr (Qc (Qn (Qc (Qc ?_)))))));refine Qn (Qc ?_);exact zr U U (by rw [hcm,zFo hx kB])
  have hk2:k<n2:=(by have h:=hc19;simp at h;omega);obtain ⟨y,hy⟩:=hT.at hk2;refine Qo (Qa (zR (zM ?_)));refine zM ?_;refine zV (zX Qx hT) ?_;refine zV (Qd U Qq (fun hg=>by exact zGG hT hy U)) ?_;refine zA ?_;refine zN (zR ?_);refine zM ?_;refine zM ?_;refine qcV (vs:=[_,_]) U zfe (zjC _ _ _) ?_;refine zA ?_;refine zN (zR ?_);refine zM ?_;refine zC (zN ?_);refine zI ?_ ?_<;>intro hc28
  ·refine zR (zM ?_);refine zA (zN (Qr (Qn (Qc (Qc (Qn (Qc ?_)))))));exact zr U U (by rw [hcm,zCW hx hy (by simpa using hc28)])
  refine Qo (Qg (Qa (Qf (zB ?_))));refine zM (Qb ?_);exact zm (h:=⟨n-(k+1),kB,k+1,U,U,U,U,kB,by rw [hcm,zBD hx hy (by simpa using hc28)]⟩)
 have hge_k:n<=k:=(by have h:=hc12;simp at h;omega);refine QF (Qh (Qh (Qm (Qa (Ql (zR (zM ?_)))))));refine zQ Qx ?_;refine zM ?_;refine zQ Qx ?_;refine zC (zN ?_);refine zI ?_ ?_<;>intro hc35
 ·have hlt:n<n2:=(by have h:=hc35;simp at h;omega);refine zR (zA (zN (Qr (Qc ?_))))
  first
  | exact zr U U (by rw [hcm];rw [zEl kB kB])
 have hlt:¬n<n2:=(by have h:=hc35;simp at h;omega);refine Qo (Qa (zR (zA (zN (Qr ?_)))));exact zr U U (by rw [hcm,zE0 kB kB])
theorem zwO:Fun Tryz.prog 142:=.of Tryz.func142 kA kA
theorem zyK:Fun Tryz.prog 143:=.of Tryz.func143 kA kA
theorem zzu:Fun Tryz.prog 65:=.of Tryz.func65 kA kA
theorem zzs:Fun Tryz.prog 67:=.of Tryz.func67 kA kA
theorem zGh (I:Qt):Go.Sort.SWO (Go.Proofs.ltOf (zy8 (I:=I))):=by
 have key:∀ a b c:List Int,¬V2 a b<0->¬V2 b c<0->¬V2 a c<0:=fun a b c h1 h2 h3=>by
  have a1:=XH a b;have a2:=XH b c;by_cases e:V2 c b=0
  ·have:=zdd e;subst this;exact h1 h3
  exact h1 (XI h3 kB)
 refine ⟨fun x=>?_,fun x y z h1 h2=>?_,fun x y z h1 h2=>?_⟩
 ·unfold Go.Proofs.ltOf zy8;rw [zhP];rfl
 ·unfold Go.Proofs.ltOf zy8 at*;exact jX (XI (Oi h1) (Oi h2))
 unfold Go.Proofs.ltOf zy8 at*;exact j1 (key _ _ _ (O1 h1) (O1 h2))
variable{hs:List Hd}
theorem zuV {L:Go.Kn.Loc}(hO:OwnS 37 1 v n (hs.flatMap KU) L)(hn:n<=1000000)(hre:zaq I hs vss)(hl:∀ r∈vss,r.length<=1000):
  ZQ Tryz.prog 143 [v,.func (.func 67) #[] #[]] I L (fun u I' L'=>u= .tuple #[]/\I'=I/\∃ hs' vss',vss'.Perm vss/\vss'.Pairwise leF/\zaq I hs' vss'/\OwnS 37 1 v n (hs'.flatMap KU) L'):=by
 obtain ⟨zs,h1,h2⟩:=ziB hre hl;have e:hs.flatMap KU=zs.map Yh:=(by rw [ztB,<-h1,BC];rfl);rw [e] at hO;intro g H w hw
 refine (zra (α:=HdP I) (enc:=Yh) (cf:=zy8 (I:=I)) (fun blk off cap d w hC hH hb hs=>Tryz.slices_SortFunc_f143 (α:=HdP I) Yh (fun _=>U) zy8 (zGh I) 67 #[] blk off cap d w (fun args w=>YF zzs args w) hC hH hb hs) (Tryz.slices_SortFunc_none_f143 (α:=HdP I)) I
  (fun I' hI x y=>zno (x.ok.mono hI) (by have:=x.ok.len;have:=x.len;omega) (y.ok.mono hI) (by have:=y.ok.len;have:=y.len;omega)) zs hO hn g H w hw).mono ?_
 rintro ed w' ⟨u,I',L',he,hI,hs',rfl,rfl,zs',hp,hpw,hO'⟩;refine ⟨_,I',L',he,hI,hs',U,U,zs'.map (·.h),zs'.map (·.v),?_,?_,zpB zs',?_⟩
 ·rw [<-h2];exact hp.map _
 ·rw [OV];refine hpw.imp fun h=>?_;unfold leF;exact O1 h
 have e:(zs'.map (·.h)).flatMap KU=zs'.map Yh:=(by rw [ztB,BC];rfl);rw [e];exact hO'
theorem zn3 (hF:Fun Tryz.prog f)(hseq:zpM Tryz.prog f cap I zrv ys)(hy:ys.length<=100000)(hl:∀ r∈ys,r.length<=1000):ZQ Tryz.prog 65 [.func (.func f) #[] cap.toArray,.func (.func 67) #[] #[]] I [] (fun v I' L=>∃ hs vss,vss.Perm ys/\vss.Pairwise leF/\OwnS 37 1 v ys.length (hs.flatMap KU) L/\zaq I' hs vss):=by intro g H w hw;refine qe Tryz.func65 Tryz.ntmps65 hw ?_;have hIc:=zGN I;refine zR (zA ?_);refine zN (zR ?_);refine zM ?_;refine zpc [_] U zwO .nil (zlr hF hseq hy) ?_;rintro vv1 I1 L1 hI1 ⟨hs,hO,hre⟩;have hIc:=hIc.trans hI1;rw [jz];refine zA ?_;refine zN (zR ?_);refine zM ?_;refine zM ?_;refine zpc [_,_] U zyK QT (zuV hO kB hre hl) ?_;rintro vv2 I2 L2 hI2 ⟨rfl,rfl,hs2,vss,hp,hpw,hre2,hO2⟩;have hIc:=hIc.trans hI2;rw [jz];refine zN (zR ?_);refine zM ?_;refine zA (zN (Qr ?_));exact QR U U (fun w hw=>⟨_,_,_,U,hIc,hw,hs2,vss,hp,hpw,hO2,hre2⟩)
theorem zFx (I:Qt)(m:Int):ZQ Tryz.prog 24 [.int .i64 m] I [] (fun v I' L=>L=[]/\∃ vss,(zoM m=0->zBd m vss)/\(zoM m≠0->vss=[])/\zcE (zoM m) vss v I' []):=by
 intro g H w hw;refine qe Tryz.func24 Tryz.ntmps24 hw ?_;have hIc:=zGN I;refine zR (zA ?_);refine zA (zN (Ql (Qp (zR ?_))));refine zM ?_;refine zC ?_;refine zA (zN ?_);refine zI ?_ ?_<;>intro hc4
 ·have h6:m>6:=(by simpa using hc4);refine zR (zA ?_);refine zA (zN (Qr (Qn (Qc ?_))))
  first
  | exact Q9 U U U (fun w hw=>⟨_,I,[],U,hIc,hw.drop,U,[],fun h=>by rw [zrR h6] at h;omega,fun _=>U,by rw [zrR h6];exact .empty U⟩)
 have h6:¬m>6:=(by simpa using hc4);refine zR (zM ?_);refine zC ?_;refine zA (zN ?_);refine zI ?_ ?_<;>intro hc7
 ·have h1:m<1:=(by simpa using hc7);refine zR (zA ?_);refine zA (zN (Qr (Qn (Qc ?_))))
  first
  | exact Q9 U U U (fun w hw=>⟨_,I,[],U,hIc,hw.drop,U,[],fun h=>by rw [ztP h6 h1] at h;omega,fun _=>U,by rw [ztP h6 h1];exact .empty U⟩)
 have h1:¬m<1:=(by simpa using hc7);have hal:=WA (n:=m) kB;have hsh:=zfj (n:=m) kB;have hln:=zgp (n:=m.toNat) kB kB;rw [show ((m.toNat:Nat):Int)=m by omega] at hln;refine Qo (Qg (Qa (zR (zM ?_))));refine zV (zaA U U (fun hg=>kB)) ?_;refine zB ?_;refine zpc [_] U znP .nil (zdu _ (YY m)) ?_;rintro vv1 I1 L1 hI1 ⟨rfl,b5,rfl,hc5⟩;have hIc:=hIc.trans hI1;refine zpc [_,_] U zzu .nil (zn3 zgM (ztu 7 kB _ (YY m) b5 hal (by have:=zzn hal;omega) hc5) kB (fun r hr=>by have:=U7 7 _ r hr;omega)) ?_;rintro vv2 I2 L2 hI2 ⟨hs,vss,hp,hpw,hO,hre⟩;have hIc:=hIc.trans hI2;simp only [jz];refine zA ?_;refine zA (zN (Qr ?_))
 first
 | exact Q9 U U U (fun w hw=>by obtain ⟨I9,av9,c9,h1',h2',rfl,h4'⟩:=OwnS.freeze (R:=[]) hO K5 kE (by rw [jz];exact hw);exact ⟨_,I9,[],U,hIc.trans h1',h2',U,vss,fun _=>⟨hp,hpw⟩,fun h=>absurd (zkw h6 h1) h,by rw [zkw h6 h1];exact ⟨U,av9,c9,by rw [hp.length_eq],by rw [hp.length_eq];exact ⟨hs,h4',hre.mono h1'⟩⟩⟩)
def zDI (rows:List (List Int))(p:Int×List (List Int))(x:List Int):Int×List (List Int):=
 let c:=Yv rows x;let t:=decide ((p.2.length:Int)=0)||decide (c<p.1)
 (if t then c else p.1,if c==(if t then c else p.1) then (if t then [] else p.2)++[x] else if t then [] else p.2)
def zf4 (rows:List (List Int))(l:List (List Int))(k:Nat):Int×List (List Int):=(l.take k).foldl (zDI rows) (0,[])
variable{rows l:List (List Int)}
theorem ziG (hx:l[k]? =some x):zf4 rows l (k+1)=zDI rows (zf4 rows l k) x:=by unfold zf4;rw [ZI hx,Od];rfl
def tkB (rows l:List (List Int))(k:Nat)(x:List Int):Bool:=decide (((zf4 rows l k).2.length:Int)=0)||decide (Yv rows x<(zf4 rows l k).1)
def mdB (rows l:List (List Int))(k:Nat)(x:List Int):Int:=if tkB rows l k x then Yv rows x else (zf4 rows l k).1
def mdO (rows l:List (List Int))(k:Nat)(x:List Int):List (List Int):=if tkB rows l k x then [] else (zf4 rows l k).2
theorem zs0 (hx:l[k]? =some x):zf4 rows l (k+1)=(mdB rows l k x,if Yv rows x==mdB rows l k x then mdO rows l k x++[x] else mdO rows l k x):=by rw [ziG hx];rfl
theorem zkP (hx:l[k]? =some x)(h:(Yv rows x==mdB rows l k x)=true):zf4 rows l (k+1)=(mdB rows l k x,mdO rows l k x++[x]):=by rw [zs0 hx,jb h]
theorem zsG (hx:l[k]? =some x)(h:(Yv rows x==mdB rows l k x)=false):zf4 rows l (k+1)=(mdB rows l k x,mdO rows l k x):=by rw [zs0 hx,ja (by rw [h];decide)]
theorem zs8 (h:tkB rows l k x=true):mdB rows l k x=Yv rows x/\mdO rows l k x=[]:=by unfold mdB mdO;rw [jb h,jb h];exact ⟨U,U⟩
theorem zDy (h:tkB rows l k x=false):mdB rows l k x=(zf4 rows l k).1/\mdO rows l k x=(zf4 rows l k).2:=by unfold mdB mdO;rw [ja (by rw [h];decide),ja (by rw [h];decide)];exact ⟨U,U⟩
variable{cl:List Int}
theorem Xl (_h:0<(rows.getD 0 []).length->True):0<=Yv rows cl:=by
 unfold Yv
 have:∀ k,0<=zcP rows cl k:=by
  intro k
  induction k with
  | zero=>exact Aq _
  | succ k ih=>
   rw [zcK];have:=(zcX (cs:=ZB rows cl k 64 (YY rows.length)) (Wl _ _) (by rw [XM];exact zf5) (ZB rows cl k 64 (YY rows.length)).length).1;have e:YR (ZB rows cl k 64 (YY rows.length))=zgg (ZB rows cl k 64 (YY rows.length)) (ZB rows cl k 64 (YY rows.length)).length:=rfl;omega
 exact this _
theorem zuH (hl:l=Js rows.length):∀ k,k<=l.length->(k=0/\zf4 rows l k=(0,[])/\Xm rows k=(-1,[]))\/(1<=k/\zf4 rows l k=Xm rows k/\(Xm rows k).2≠[]/\0<=(Xm rows k).1):=by
 subst hl;intro k
 induction k with
 | zero=>intro _;left;exact ⟨U,U,U⟩
 | succ k ih=>
  intro hk;right;have hx:(Js (rows.length:Int))[k]? =some ((Js (rows.length:Int))[k]' kB):=je _;generalize (Js (rows.length:Int))[k]' kB=x at hx;have hp:=Xl (rows:=rows) (cl:=x) fun _=>trivial;rw [ziG hx,zez hx];rcases ih kB with ⟨rfl,h1,h2⟩ | ⟨h0,h1,h2,h3⟩
  ·rw [h1,h2];unfold zDI zvL zg1;simp;omega
  ·rw [h1];generalize Xm rows k=p at h1 h2 h3;obtain ⟨b,o⟩:=p;simp only at h2 h3
   have ho:decide ((o.length:Int)=0)=false:=j1 (by
    intro e
    exact h2 (j4 kB))
   have hb:decide (b<0)=false:=j1 kB;unfold zDI zvL zg1;simp only [ho,hb,OC];refine ⟨kB,trivial,?_,?_⟩
   ·by_cases hc:Yv rows x<b
    ·simp [hc]
    ·simp only [hc,B7,jB,j2];split
     ·simp
     ·exact h2
   ·by_cases hc:Yv rows x<b
    ·simp [hc];omega
    ·simp [hc];omega
theorem zrQ (h1:1<=n)(h5:n<=5):0<(Js (n:Int)).length:=by have ht:((List.range 6).all fun n=>n==0||decide (0<(Js (n:Int)).length))=true:=kA;have h:=ji.1 ht n (jm.2 kB);rw [show (n==0)=false by simp;omega,OC,jQ] at h;exact h
theorem zkV (h1:1<=rows.length)(h5:rows.length<=5)(hl:l=Js rows.length):zf4 rows l l.length=Xm rows (Js rows.length).length:=by
 have h0:=zrQ h1 h5;rcases zuH hl l.length (js _) with ⟨e,_⟩ | ⟨_,e,_⟩
 ·rw [hl] at e;omega
 ·rw [e,hl]
theorem zsa:Fun Tryz.prog 23:=.of Tryz.func23 kA kA
theorem zCV:Fun Tryz.prog 24:=.of Tryz.func24 kA kA
theorem ztv:Fun Tryz.prog 25:=.of Tryz.func25 kA kA
theorem zsl (hV:SlN I bv n2 c2 rows)(hn2:n2<=100000)(hDb:KR I)(h5:rows.length≠6):ZQ Tryz.prog 7 [.slice bv n2 c2] I [] (zoW rows):=by
 intro g H w hw;refine qe Tryz.func7 Tryz.ntmps7 hw ?_;have hIc:=zGN I;have hlV:=hV.len;subst hlV;refine zR (zA ?_);refine zA ?_;refine zA (zN (Ql (zR ?_)));refine zM ?_;refine qcV (vs:=[_]) U zsa (zkl hV hn2) ?_;refine zA ?_;refine zN (zR ?_);refine zM ?_;refine zC (zN ?_);refine zI ?_ ?_<;>intro hc13
 ·have hr0:YL rows≠0:=(by simpa using hc13);refine zR (zM ?_);refine zA ?_;refine zA ?_;refine zA (zN (Qr (Qc ?_)));exact KD U U U U (fun w hw=>⟨_,I,[],U,hIc,hw.drop,zoW.bad hr0⟩)
 have hr0:YL rows=0:=(by simpa using hc13);obtain ⟨hr1,hr6,_⟩:=Uh hr0;have h5:rows.length<=5:=kB;refine Qo (Qa (zR (zM ?_)));refine zQ Zn ?_;refine zpc [_] U zCV .nil (zFx _ (rows.length:Int)) ?_;rintro vv1 I1 L1 hI1 ⟨rfl,vss,hok,_,hAl⟩;have hV:=hV.mono hI1;have hDb:=hDb.mono hI1;have hIc:=hIc.trans hI1;have hae:zoM (rows.length:Int)=0:=zkw kB kB;obtain ⟨_,aA,cA,rfl,hA⟩:=hAl;have hvs:=zw3 hr1 h5 (hok hae);subst hvs;rw [hae];obtain ⟨gs,hA⟩:=hA;have hln:(Js rows.length).length<=945:=(by unfold Js;rw [za5];exact zfA kB (WA (n:=(rows.length:Int)) ⟨kB,kB⟩));refine zM ?_;refine zE ?_;refine zE ?_;refine zA ?_;refine zA (zN (Ql (zR ?_)));refine zM ?_;refine zQ Zn ?_;refine zM (zN (Qp ?_));refine zU [(0,_),(21,_),(22,_)] (fun T L0 mz E I' loc'=>∃ (i:Nat) (b:Int) (v:Value) (q:Nat) (os:List Hd) (L:Go.Kn.Loc),mz=(Js rows.length).length-i/\E=(2,v)::(3,.int .i64 b)::(23,.int .i64 i)::T/\HLe I1 I'/\L=loc'/\i<=(Js rows.length).length/\OwnS 37 1 v q (os.flatMap KU) L/\zaq I' os (zf4 rows (Js rows.length) i).2/\b=(zf4 rows (Js rows.length) i).1/\q<=i) ?_ (h:=⟨0,_,_,0,[],[],U,U,zGN _,U,jf _,OwnS.nil,zaq.nil,U,js _⟩);rintro mz E J2 loc' ⟨i,b,v,q,os,L,rfl,rfl,hJ,rfl,hi,hO,hre,hb,hq⟩;have hV:=hV.mono hJ;have hDb:=hDb.mono hJ;have hA:=hA.mono hJ;have hIc:=hIc.trans hJ;have hB0:=hJ;refine zR (zC (zN (Ql ?_)));refine zI ?_ ?_<;>intro hc24
 ·have hlt_i:i<(Js rows.length).length:=(by have h:=hc24;simp at h;omega);obtain ⟨y,yv,hgy,hyy,hQy⟩:=hA.at hlt_i;have hys:yv.length<=100000:=zcs _ (W6 _ _ (jd hyy));refine Qo (Qa (Ql (Qp (zR ?_))));refine zV (Qy U U Zn hA.1 (fun hg=>kB)) ?_;refine zV (Qd U QK (fun hg=>by exact zGG hA.1 hgy U)) ?_;refine zA ?_;refine zN (zR ?_);refine zM ?_;refine zM ?_;refine qcV (vs:=[_,_]) U ztv (zsH hQy (by rw [<-hQy.len];exact hys) hV hn2 hDb hr0 (zlz hr1 h5 (jd hyy))) ?_;refine zA (zN ?_);refine zY [(0,_),(8,_),(9,_),(21,_),(22,_),(23,_)] (fun T L0 E I' loc'=>∃ (b:Int) (v:Value) (q:Nat) (os:List Hd) (L:Go.Kn.Loc),E=(2,v)::(3,.int .i64 b)::T/\HLe J2 I'/\L=loc'/\OwnS 37 1 v q (os.flatMap KU) L/\zaq I' os (mdO rows (Js rows.length) i yv)/\b=mdB rows (Js rows.length) i yv/\q<=i) ?_ ?_
  ·have hKc9:=zGN J2;refine Ql ?_;obtain ⟨va,vc,rfl⟩:=zfu hO;have hql:((os.length:Nat):Int)=(q:Int):=(by have h1:=hO.1;rw [ZF K5] at h1;omega);refine Qf (zM ?_);refine zQ Zn ?_;refine zC ?_;refine zM ?_;refine Q8 3 U U U ?_;refine zJ (Qj U) ?_;refine zJ (Qj U) ?_;refine zJ (QI U U U) ?_;refine ZO U U U U U ?_;refine zN ?_;refine zI ?_ ?_<;>intro hc37
   ·have hlb:tkB rows (Js rows.length) i yv=true:=(by unfold tkB;rw [<-hb,<-hre.1,hql];simpa using hc37);refine Qf (zM ?_);refine zA ?_;refine zA (Qb ?_)
    first
    | exact zm (h:=⟨_,_,0,[],[],U,hKc9,U,OwnS.nil,by rw [(zs8 hlb).2];exact zaq.nil,by rw [(zs8 hlb).1],jf _⟩)
   have hlb:tkB rows (Js rows.length) i yv=false:=(by unfold tkB;rw [<-hb,<-hre.1,hql];simpa using hc37);refine Qo ?_
   first
   | exact zm (h:=⟨_,_,_,_,_,U,hKc9,U,hO,by rw [(zDy hlb).2];exact hre,by rw [(zDy hlb).1];exact hb,hq⟩)
  rintro E J3 loc' ⟨b,v,q,os,L,rfl,hJc,rfl,hO,hre2,hb2,hq⟩;have hQy:=hQy.mono hJc;have hB0:=hB0.trans hJc;refine zR (zM ?_);refine zM ?_;refine zC (zN ?_);refine zI ?_ ?_<;>intro hc41
  ·refine Qf (zM ?_);refine zM ?_;refine zpb [(0,_)] [KU y] UP (fun b_44=>?_);refine zpa (_) ([y].flatMap KU) (L) U U UP hO ⟨U,fun _=>U,zGL⟩ (zrh [y]) ?_;intro v9 L9 hO9 _;rw [<-jo] at hO9;refine zA (Qb (Qg (Qa (Qf ?_))));refine zB ?_;refine zM (Qb ?_)
   first
   | exact zm (h:=⟨(Js rows.length).length-(i+1),kB,i+1,_,_,_,_,_,U,U,hB0,U,kB,hO9,by rw [zkP hyy (by rw [<-hb2];exact hc41)];exact hre2.snoc hQy,by rw [zkP hyy (by rw [<-hb2];exact hc41)];exact hb2,kB⟩)
  refine Qo (Qg (Qa (Qf (zB ?_))));refine zM (Qb ?_)
  first
  | exact zm (h:=⟨(Js rows.length).length-(i+1),kB,i+1,_,_,_,_,_,U,U,hB0,U,kB,hO,by rw [zsG hyy (by rw [<-hb2];exact hc41)];exact hre2,by rw [zsG hyy (by rw [<-hb2];exact hc41)];exact hb2,kB⟩)
 have hge_i:(Js rows.length).length<=i:=(by have h:=hc24;simp at h;omega);have hie:i=(Js rows.length).length:=kB;subst hie;refine QF (Qh (Qh (Qm (Qa (zR (zM ?_))))));refine zM ?_;refine zA ?_;refine zA ?_;refine zA (zN (Qr ?_))
 first
 | exact KD U U U U (fun w hw=>by rw [zkV hr1 h5 rfl] at hre hb;obtain ⟨I9,h91,h92,h93⟩:=OwnS.res hO K5 kE hw;obtain ⟨_,a9,c9,e9,h94⟩:=h93;have hrel:=hre.mono h91;rw [hrel.1] at e9 h94;obtain ⟨u1,u2⟩:=zgt hr0;rw [<-u1] at e9 h94 hrel;rw [<-u2] at hb;subst e9;exact ⟨_,I9,[],U,hIc.trans h91,h92,U,a9,c9,by rw [hb,hr0],_,h94,hrel⟩)
theorem zn2 (hc:V4 n cl=0)(hs:s∈cl):Z5 s=false:=by
 have hle:=(ZZ hc).2.2.2 s hs;obtain ⟨a1,a2,a3⟩:=X2 (Wj hc s hs) (js 1);have a3:JZ cl s (Us cl s 1)=true:=a3;unfold JZ at a3;simp only [jj] at a3;generalize Us cl s 1=a at a1 a2 a3
 cases h:Z5 s with
 | false=>rfl
 | true=>
  exfalso;have k1:=a3.1.1.1;rw [zqN kB kB] at k1;have ht:((List.range 64).all fun s=>(List.range 64).all fun a=>a==0|| !(Z5 (s:Int))|| !(Ke a s)||(a==s))=true:=kA;have h0:=ji.1 ht s.toNat (jm.2 kB);have h0:=ji.1 h0 a.toNat (jm.2 kB);rw [show ((s.toNat:Nat):Int)=s by omega,h,k1,show (a.toNat==0)=false by simp;omega] at h0;have:a.toNat=s.toNat:=by simpa using h0
  omega
theorem zjF {m:Int}:iA m cl s=zcS m cl s/\iB m cl s=zcQ m cl s:=by
 by_cases h:Vo m cl s=0
 ·obtain ⟨e1,e2⟩:=zCH h;obtain ⟨e3,e4⟩:=zkp h
  have hc:V4 m cl=0:=by
   unfold Vo at h;by_cases e:V4 m cl=0
   ·exact e
   ·rw [jb e] at h;exact absurd h e
  have hin:s∈cl:=by
   unfold Vo at h;rw [ja (fun e=>e hc)] at h
   cases e:cl.any (fun c=>c==s) with
   | true=>simpa using e
   | false=>rw [e] at h;simp at h
  obtain ⟨n,rfl⟩:∃ n:Nat,m=n:=⟨m.toNat,by have:=ZZ hc;omega⟩;obtain ⟨g1,g2,_⟩:=zix hc hin (zn2 hc hin);rw [e1,e2,e3,e4,g1,g2];exact ⟨U,U⟩
 ·obtain ⟨e1,e2⟩:=zmg h;obtain ⟨e3,e4⟩:=zjL h;rw [e1,e2,e3,e4];exact ⟨U,U⟩
theorem zh0 {rows:List (List Int)}:∀ k,((Xm rows k).2.length<=k)/\∀ r∈(Xm rows k).2,r∈Js (rows.length:Int)
 | 0=>⟨js _,fun r hr=>by simp [Xm] at hr⟩
 | k+1=>by
  obtain ⟨h1,h2⟩:=zh0 k
  cases hx:(Js (rows.length:Int))[k]? with
  | none=>
   have:Xm rows (k+1)=Xm rows k:=by
    unfold Xm;rw [jP,hx];simp
   rw [this];exact ⟨kB,h2⟩
  | some x=>
   rw [zez hx];have hxm:=jd hx
   have key:∀ (t u:Bool) (o:List (List Int)),o.length<=k->(∀ r∈o,r∈Js (rows.length:Int))->(if u=true then (if t=true then [] else o)++[x] else (if t=true then [] else o)).length<=k+1/\∀ r∈(if u=true then (if t=true then [] else o)++[x] else (if t=true then [] else o)),r∈Js (rows.length:Int):=by
    intro t u o ho hm;cases t<;>cases u
    ·exact ⟨by simp;omega,fun r hr=>hm r hr⟩
    ·refine ⟨by simp;omega,fun r hr=>?_⟩;rcases jv.1 hr with hr | hr
     ·exact hm r hr
     ·rw [jA.1 hr];exact hxm
    ·exact ⟨jf _,fun r hr=>by cases hr⟩
    ·refine ⟨by simp,fun r hr=>?_⟩;rcases jv.1 hr with hr | hr
     ·cases hr
     ·rw [jA.1 hr];exact hxm
   exact key _ _ _ h1 h2
theorem zpG (_h5:rows.length≠6):(UF rows).length<=945/\∀ r∈UF rows,r.length<=100000:=by
 by_cases h:YL rows=0
 ·obtain ⟨h1,h6,_⟩:=Uh h;rw [(zgt h).1];obtain ⟨g1,g2⟩:=zh0 (rows:=rows) (Js rows.length).length;refine ⟨?_,fun r hr=>zcs _ (W6 _ _ (g2 r hr))⟩;have:(Js (rows.length:Int)).length<=945:=by unfold Js;rw [za5];exact zfA kB (WA (n:=(rows.length:Int)) kB)
  omega
 ·have:UF rows=[]:=by unfold UF;rw [jb h]
  rw [this];exact ⟨jf _,fun r hr=>by cases hr⟩
section
variable {n:Nat} {cl:List Int} (hc:V4 n cl=0)
include hc
theorem zcr:cl.Pairwise (· < ·):=by
 have h:=hc;unfold V4 at h
 repeat (split at h; · cases h)
 rename_i h3 _ _;have h3:(List.range cl.length).all (Ko (YY n) cl)=true:=(by simpa using h3);refine Ky (fun a b c h1 h2=>kB) fun k hk=>?_;have h4:=ji.1 h3 (k+1) (jm.2 hk);unfold Ko at h4;have e1:cl.getD (k+1) 0=cl[k+1]:=Q1 (je hk)
 have e2:cl.getD (((k+1:Nat):Int)-1).toNat 0=cl[k]:=by
  rw [show (((k+1:Nat):Int)-1).toNat=k by omega];exact Q1 (je kB)
 rw [e1,e2] at h4;simp at h4;have:=h4.2;omega
theorem zqn {s:Int}{l:List Int}(h:(cl.filter (inS s)).Perm l):YB l=cl.filter (inS s):=by have hr:=(zcr hc).filter (inS s);unfold YB;refine A7 (le:=(· <= ·)) (fun a b _ _ h1 h2=>kB) ?_ (hr.imp fun h=>kB) ((A0 _ _).trans h.symm);have:=Bg (le:=fun x y:Int=>decide (x<=y)) (fun a b c=>by simp;omega) (fun a b=>by simp;omega) l;exact this.imp fun h=>by simpa using h
theorem zdI:∀ (f:Nat) (s:Int),Wp s<=f->zr9 n cl s->cl.filter (inS s)∈ZE f s
 | 0,s,hp,h=>by have:=zdy (zcm hc h.1);omega
 | f+1,s,hp,h=>by
  have hle:=zcm hc h.1
  cases h1:Z5 s with
  | true=>
   have hl:=(zaN (s:=s.toNat) kB kB).2.2.2;rw [show ((s.toNat:Nat):Int)=s by omega] at hl;have hp1:=(hl h1).2;have hf:=h.2
   have hz:∀ l:List Int,wN (inS s) l=0->l.filter (inS s)=[]:=by
    intro l
    induction l with
    | nil=>intro _;rfl
    | cons x l ih=>
     intro hx;unfold wN at*;simp only [jx,AG] at hx
     have hx1:inS s x=false:=by
      cases e:inS s x with
      | false=>rfl
      | true=>rw [e] at hx;simp at hx
     rw [Oe,hx1];exact ih (by rw [hx1] at hx;simpa using hx)
   rw [Wa h1,hz cl kB];exact jA.2 U
  | false=>
   obtain ⟨f1,f2,f3⟩:=zcc hc h h1;obtain ⟨hin,o1,o2,o3,o4,o5,o6⟩:=V5 hc h.1 h1;obtain ⟨q1,q2,q3⟩:=zbx kB kB o5;rw [show (((Qw cl s).toNat:Nat):Int)=Qw cl s by omega,show ((s.toNat -(Qw cl s).toNat:Nat):Int)=s-Qw cl s by omega,show ((s.toNat:Nat):Int)=s by omega] at q3;have hpa:=zdy (zcm hc o1);have hpb:=zdy (zcm hc o2);have ih1:=zdI f _ kB f1;have ih2:=zdI f _ kB f2;have esb:(s-Qw cl s).toNat=s.toNat -(Qw cl s).toNat:=kB;generalize Qw cl s=a at*;rw [zdc h1,Ap];refine ⟨a,?_,?_⟩
   ·have ht:=ji.1 zg9 s.toNat (jm.2 kB);rw [jj,jQ,show ((s.toNat:Nat):Int)=s by omega] at ht;rw [ht.1,List.mem_reverse];unfold zsF;rw [jF];refine ⟨jt.2 ⟨a.toNat,Az.2 kB,kB⟩,?_⟩;rw [show ((s.toNat:Nat):Int)=s by omega,zqN kB kB];exact o5
   ·unfold brI;rw [jb o6];unfold WU;rw [Ap];refine ⟨_,ih1,jt.2 ⟨_,ih2,?_⟩⟩;unfold zch;refine zqn hc ?_;have hnd:cl.Nodup:=(zcr hc).imp fun h=>kB;refine (List.perm_ext_iff_of_nodup (hnd.filter _) ?_).2 fun c=>?_
    ·rw [Oz,Oz];refine ⟨⟨hnd.filter _,hnd.filter _,fun x hx y hy e=>?_⟩,by simp,fun x hx y hy e=>?_⟩
     ·subst e;obtain ⟨m1,m2⟩:=jF.1 hx;obtain ⟨_,m3⟩:=jF.1 hy;unfold inS at m2 m3;rw [esb] at m3;have:=Xj m2 m3 q1;have:=(ZZ hc).2.2.2 x m1;omega
     ·have:y=s:=by simpa using hy
      subst this;subst e;rcases jv.1 hx with hx | hx
      ·have:=zaH (jF.1 hx).2;omega
      ·have:=zaH (jF.1 hx).2;omega
    ·rw [jF,jv,jv,jF,jF,jA];constructor
     ·rintro ⟨m1,m2⟩;rcases f3 c m1 m2 with e | g | g
      ·exact .inr e
      ·exact .inl (.inl ⟨m1,g⟩)
      ·exact .inl (.inr ⟨m1,g⟩)
     ·rintro ((⟨m1,m2⟩ | ⟨m1,m2⟩) | rfl)
      ·exact ⟨m1,Jr m2 o5⟩
      ·refine ⟨m1,Jr m2 ?_⟩;rw [esb];exact q2
      ·exact ⟨hin,Xu _⟩
theorem zcL (h5:n<=5):cl∈Js (n:Int):=by
 obtain ⟨h1,h6,hlen,hin⟩:=ZZ hc;have hf:=zdI hc 7 (YY n) (by have:=zzn (WA (n:=(n:Int)) ⟨h1,h6⟩);omega) (ziV hc)
 have e:cl.filter (inS (YY n))=cl:=by
  rw [OK];intro c hcm;have hle:=hin c hcm;exact (zgd (n:=n) kB kB).1 c.toNat kB (by have:=(zqu hc hcm).2.1;omega)
 rw [e] at hf;exact (zv8 kB h5).2.mem_iff.1 hf
end
theorem zwi (h1:1<=n)(h5:n<=5):cl∈Js (n:Int)↔V4 n cl=0:=⟨zlz h1 h5,fun h=>zcL h h5⟩
theorem ziN {rows:List (List Int)}:∀ k,1<=k->k<=(Js (rows.length:Int)).length->0<=(Xm rows k).1/\(∀ x∈(Js (rows.length:Int)).take k,(Xm rows k).1<=Yv rows x)/\(∃ x∈(Js (rows.length:Int)).take k,Yv rows x=(Xm rows k).1)/\
  (Xm rows k).2=((Js (rows.length:Int)).take k).filter (fun x=>Yv rows x==(Xm rows k).1)
 | 0,h,_=>kB
 | k+1,_,hk=>by
  have hx:(Js (rows.length:Int))[k]? =some ((Js (rows.length:Int))[k]' kB):=je _;generalize (Js (rows.length:Int))[k]' kB=x at hx;have hp:=Xl (rows:=rows) (cl:=x) fun _=>trivial;rw [ZI hx,zez hx];generalize Yv rows x=c at hp ⊢;by_cases h0:k=0
  ·subst h0;have e1:Xm rows 0=(-1,[]):=rfl;have e2:zvL rows (Xm rows 0) x=(Yv rows x,[x]):=(by rw [e1];unfold zvL zg1;simp);rw [e2];have hp2:=Xl (rows:=rows) (cl:=x) fun _=>trivial;refine ⟨hp2,fun y hy=>?_,⟨x,by simp,U⟩,by simp⟩;have:y=x:=by simpa using hy
   rw [this];exact Aq _
  ·obtain ⟨i0,i1,i2,i3⟩:=ziN (rows:=rows) k kB kB;have hp2:=Xl (rows:=rows) (cl:=x) fun _=>trivial;have hlb:zg1 (Xm rows k).1 (Yv rows x)=decide (Yv rows x<(Xm rows k).1):=(by unfold zg1;rw [j1 kB,OC]);generalize Xm rows k=p at i0 i1 i2 i3 hlb;obtain ⟨b,o⟩:=p;simp only at i0 i1 i2 i3 hlb;subst i3;unfold zvL;simp only [hlb];by_cases hc:Yv rows x<b
   ·simp only [hc,decide_true,Oj,B6,j8];refine ⟨hp2,fun y hy=>?_,⟨x,by simp,U⟩,?_⟩
    ·rcases jv.1 hy with hy | hy
     ·have:=i1 y hy;omega
     ·have:y=x:=by simpa using hy
      rw [this];exact Aq _
    ·rw [jN]
     have:((Js (rows.length:Int)).take k).filter (fun y=>Yv rows y==Yv rows x)=[]:=by
      rw [Om];intro y hy;have:=i1 y hy;simp;omega
     rw [this];simp
   ·simp only [hc,B7,jB,j2];refine ⟨i0,fun y hy=>?_,?_,?_⟩
    ·rcases jv.1 hy with hy | hy
     ·exact i1 y hy
     ·have:y=x:=by simpa using hy
      rw [this];omega
    ·obtain ⟨y,hy,e⟩:=i2;exact ⟨y,Ag _ hy,e⟩
    ·rw [jN];by_cases e:(Yv rows x==b)=true
     ·rw [jb e,Oe,jb e];rfl
     ·rw [ja e,Oe,ja e];simp
structure zrO (rows:List (List Int)):Prop where
 le:∀ x,V4 rows.length x=0->zc2 rows<=Yv rows x
 mem:∀ x,x∈UF rows↔V4 rows.length x=0/\Yv rows x=zc2 rows
 ne:UF rows≠[]
 up:(UF rows).Pairwise (fun x y=>V2 x y<0)
theorem zxa (h:YL rows=0)(h5:rows.length<=5):zrO rows:=by
 obtain ⟨h1,h6,_⟩:=Uh h;obtain ⟨e1,e2⟩:=zgt h;have h0:=zrQ h1 h5;obtain ⟨i0,i1,i2,i3⟩:=ziN (rows:=rows) (Js (rows.length:Int)).length kB (js _);rw [AU] at i1 i2 i3;rw [<-e1,<-e2] at i3;rw [<-e2] at i1 i2;refine ⟨fun x hx=>i1 x (zcL hx h5),fun x=>?_,?_,?_⟩
 ·rw [i3,jF,zwi h1 h5,j0]
 ·obtain ⟨x,hx,e⟩:=i2;refine BO (a:=x) ?_;rw [i3,jF,j0];exact ⟨hx,e⟩
 ·rw [i3];exact (zv8 h1 h5).1.filter _
theorem zwD (h:zrO rows)(hr:YL rows=0)(hx:x∈UF rows):ze4 rows x=zc2 rows/\Y2 rows x=0/\(x.length:Int)=(rows.length:Int)-1:=by obtain ⟨h1,h2⟩:=(h.mem x).1 hx;obtain ⟨e1,e2⟩:=zse hr h1;exact ⟨by rw [e2,h2],e1,(ZZ h1).2.2.1⟩
theorem zgz:((List.range 64).all fun s=> !Z5 (s:Int)||(2^UD (s:Int)==s))=true:=kA
theorem zmH (hs:1<=s/\s<=63)(h:Z5 s=true):2^UD s=s.toNat:=by have h0:=ji.1 zgz s.toNat (jm.2 kB);rw [show ((s.toNat:Nat):Int)=s by omega,h] at h0;simpa using h0
section
variable {n:Nat} {cl:List Int} (hc:V4 n cl=0)
include hc
end
def uF (rows:List (List Int))(l:Nat)(w:Nat):Int:=(rows.getD w []).getD l 0
variable{i:Nat}
theorem zbi {α β:Type}{f:α->β}{xs:List α}{x:α}(h:xs[i]? =some x):(xs.take (i+1)).map f=(xs.take i).map f++[f x]:=by rw [jP,h,jZ];rfl
variable{nm:List Int}
theorem JJ {b t:Nat}{x:Int}{l:Go.Kn.Loc}(h:nm[k]? =some x):QB I ((b,.cells (Zm nm) t (0,0))::l) b (k*1) (.int .i64 x):=by refine .here ?_;rw [YU];unfold Zm;rw [Kd,OB];simp [h]
def Jo (hs:List Hd):Array Value:=(hs.flatMap KU).toArray
theorem zb2 (hs:List Hd):hs.flatMap KU=hs.map fun h=>Value.slice h.a h.n h.c:=by
 induction hs with
 | nil=>rfl
 | cons b hs ih=>rw [jO,ih];rfl
variable{m:Nat}
theorem zjT {a:Option Addr}:(Jo hs).setIfInBounds (m*1) (.slice a n c)=Jo (hs.set m ⟨a,n,c⟩):=by unfold Jo;rw [zb2,zb2,OB];simp
theorem zGD (h:m<hs.length):Nat.blt (m*1) (Jo hs).size=true:=by unfold Jo;rw [zb2,OB];simpa [AV] using h
theorem zj6 (n:Nat):(List.replicate n (Value.slice none 0 0)).toArray=Jo (List.replicate n ⟨none,0,0⟩):=by unfold Jo;rw [zb2];simp
section
variable {S:List Int} {u:Nat->Int} {n:Nat} {cl:List Int}
end
theorem zhn:((List.range 6).all fun v=>(List.range 6).all fun w=>v==w|| !(2^v==2^w))=true:=kA
variable{w:Nat}
theorem zuA {v:Nat}(hv:v<6)(hw:w<6)(h:2^v=2^w):v=w:=by have h0:=ji.1 zhn v (jm.2 hv);have h0:=ji.1 h0 w (jm.2 hw);rw [h] at h0;simpa using h0
def stL (rows:List (List Int))(l k:Nat):List Int:=0::(((List.range k).map fun w=>uF rows l w).filter fun x=>x != 8589934592)
theorem zCR {l:Nat}(h:uF rows l k≠8589934592):stL rows l (k+1)=stL rows l k++[uF rows l k]:=by unfold stL;rw [Ou,jZ,jN];simp [h]
theorem zEQ {l:Nat}(h:uF rows l k=8589934592):stL rows l (k+1)=stL rows l k:=by unfold stL;rw [Ou,jZ,jN];simp [h]
theorem zzU {l:Nat}:y∈stL rows l rows.length↔y∈Za rows l:=by
 unfold stL;rw [ziI,jp,jF,jt,bne_iff_ne];constructor
 ·rintro (h | ⟨⟨w,hw,rfl⟩,h⟩)
  ·exact .inl h
  ·have hw:=jm.1 hw;refine .inr ⟨⟨rows.getD w [],?_,U⟩,h⟩;unfold List.getD;rw [je hw];exact OS hw
 ·rintro (h | ⟨⟨r,hr,rfl⟩,h⟩)
  ·exact .inl h
  ·obtain ⟨w,hw,rfl⟩:=BJ hr;refine .inr ⟨⟨w,jm.2 hw,?_⟩,h⟩;unfold uF;rw [Q1 (je hw)]
theorem zuQ:((List.range 6).all fun w=>IntKind.i64.wrap (1*2^(min ((w:Nat):Int).toNat IntKind.i64.bits))==((2^w:Nat):Int))=true:=kA
theorem zCF (h:w<6):IntKind.i64.wrap (1*2^(min ((w:Nat):Int).toNat IntKind.i64.bits))=((2^w:Nat):Int):=eq_of_beq (ji.1 zuQ w (jm.2 h))
theorem zvx (hS:Sl I 1 Q3 av n c xs)(hV:SlN I bv n2 c2 rows)(hn2:n2<=100000)(hDb:KR I):Zt Tryz.prog 69 [.slice bv n2 c2,.slice av n c] I (.tuple #[.int .i64 (ze4 rows xs),.int .i64 (Y2 rows xs)]):=by
 intro g H w hw;refine qe Tryz.func69 Tryz.ntmps69 hw ?_;have hlV:=hV.len;subst hlV;refine zR (zA ?_);refine zA (zN (Ql (zR ?_)));refine zM ?_;refine qcV (vs:=[_]) U zsa (zkl hV hn2) ?_;refine zA ?_;refine zN (zR ?_);refine zM ?_;refine zC (zN ?_);refine zI ?_ ?_<;>intro hc9
 ·have hr0:YL rows≠0:=(by simpa using hc9);obtain ⟨e1,e2⟩:=ziY (cl:=xs) hr0;refine zR (zM ?_);refine zA ?_;refine zA (zN (Qr (Qc ?_)))
  first
  | exact Q9 U U U (fun w hw=>⟨by rw [e1,e2],hw.drop⟩)
 have hr0:YL rows=0:=(by simpa using hc9);refine Qo (Qa (Ql (zR (zM ?_))));refine zQ Zn ?_;refine zM ?_;refine qcV (vs:=[_,_]) U zlL (zlO hS _) ?_;refine zA ?_;refine zN (zR ?_);refine zM ?_;refine zC (zN ?_);refine zI ?_ ?_<;>intro hc16
 ·have hc0:V4 rows.length xs≠0:=(by simpa using hc16);obtain ⟨e1,e2⟩:=zC9 hr0 hc0;refine zR (zM ?_);refine zA ?_;refine zA (zN (Qr (Qc ?_)))
  first
  | exact Q9 U U U (fun w hw=>⟨by rw [e1,e2],hw.drop⟩)
 have hc0:V4 rows.length xs=0:=(by simpa using hc16);obtain ⟨e1,e2⟩:=zse hr0 hc0;have hn:n<=100000:=(by have h1:=(ZZ hc0).2.2.1;have h2:=hS.len;omega);refine Qo (Qa (zR (zM ?_)));refine zM ?_;refine qcV (vs:=[_,_]) U ztv (zsH hS hn hV hn2 hDb hr0 hc0) ?_;refine zA ?_;refine zA (zN (Qr ?_))
 first
 | exact Q9 U U U (fun w hw=>⟨by rw [e1,e2],hw.drop⟩)
def zaT (u x:Int):Int:=if (u != 8589934592&&u != x)=true then 1073741824 else 0
def zka (S cs:List Int)(x:Int)(k:Nat):Int:=(List.range k).foldl (fun b j=>K2 b (V0 x (S.getD j 0)+cs.getD j 0)) 1073741824
def zbY (S cs:List Int)(x:Int):Int:=zka S cs x S.length
theorem znE {S cs:List Int}{x c:Int}(hy:S[k]? =some y)(hc:cs[k]? =some c):zka S cs x (k+1)=K2 (zka S cs x k) (V0 x y+c):=by unfold zka;rw [Ou,Od,Of,List.foldl_nil,Q1 hy,Q1 hc]
theorem zdx {S cs:List Int}{x:Int}(h:∀ c∈cs,0<=c):∀ k,0<=zka S cs x k/\zka S cs x k<=1073741824
 | 0=>by unfold zka;simp
 | k+1=>by
  have ih:=zdx (S:=S) (x:=x) h k;have e:zka S cs x (k+1)=K2 (zka S cs x k) (V0 x (S.getD k 0)+cs.getD k 0):=by unfold zka;rw [Ou,Od];rfl
  have h1:0<=cs.getD k 0:=by
   unfold List.getD
   cases hc:cs[k]? with
   | none=>exact Aq _
   | some c=>exact h c (jd hc)
  have h2:=(WR x (S.getD k 0)).1;rw [e];unfold K2;split<;>omega
def WM (S A B:List Int)(j:Nat)(x:Int):Int:=(if 0<j then zbY S A x else 0)+(if 1<j then zbY S B x else 0)
variable{j:Nat}
theorem zmq {S A B:List Int}{x:Int}(hj:j<2):WM S A B j x+zbY S (if j=0 then A else B) x=WM S A B (j+1) x:=by unfold WM;rcases (show j=0\/j=1 by omega) with rfl | rfl<;>simp
theorem zm3 {S A B:List Int}{x:Int}(hA:∀ c∈A,0<=c)(hB:∀ c∈B,0<=c)(j:Nat):0<=WM S A B j x/\WM S A B j x<=2147483648:=by have a:0<=zbY S A x/\zbY S A x<=1073741824:=zdx hA S.length;have b:0<=zbY S B x/\zbY S B x<=1073741824:=zdx hB S.length;unfold WM;split<;>split<;>omega
def rcF (S:List Int)(u:Nat->Int)(cl:List Int):Nat->Int->List Int
 | 0,_=>[]
 | f+1,s=>if Z5 s=true then S.map (zaT (u (UD s))) else S.map (WM S (rcF S u cl f (Qw cl s)) (rcF S u cl f (s-Qw cl s)) 2)
variable{u:Nat->Int}
theorem zDS {S:List Int}(h:Z5 s=true):rcF S u cl (f+1) s=S.map (zaT (u (UD s))):=by simp only [rcF];rw [jb h]
theorem zDK {S:List Int}(h:Z5 s=false):rcF S u cl (f+1) s=S.map (WM S (rcF S u cl f (Qw cl s)) (rcF S u cl f (s-Qw cl s)) 2):=by simp only [rcF];rw [ja (by rw [h];decide)]
theorem zkK {S:List Int}{u:Nat->Int}{cl:List Int}:∀ (f:Nat) (s:Int),∀ c∈rcF S u cl f s,0<=c/\c<=2147483648
 | 0,_,c,h=>by cases h
 | f+1,s,c,h=>by
  cases h1:Z5 s with
  | true=>
   rw [zDS h1] at h;obtain ⟨x,_,rfl⟩:=jt.1 h;unfold zaT;split<;>omega
  | false=>
   rw [zDK h1] at h;obtain ⟨x,_,rfl⟩:=jt.1 h;exact zm3 (fun c hc=>(zkK f _ c hc).1) (fun c hc=>(zkK f _ c hc).1) 2
theorem zz9 {S:List Int}:(rcF S u cl (f+1) s).length=S.length:=by
 cases h1:Z5 s with
 | true=>rw [zDS h1,jE]
 | false=>rw [zDK h1,jE]
def zau (S:List Int)(g h:Int->Int)(i:Nat):List Int:=(S.take i).map g++(S.drop i).map h
variable{g h:Int->Int}
theorem zk4 {S:List Int}:zau S g h 0=S.map h:=by unfold zau;simp
theorem znH {S:List Int}(hi:S.length<=i):zau S g h i=S.map g:=by unfold zau;rw [jD hi,Oa hi];simp
theorem zn5 {S:List Int}:(zau S g h i).length=S.length:=by unfold zau;rw [jh,jE,jE,<-jh,jy]
theorem zDE {S:List Int}{x:Int}(hx:S[i]? =some x):(zau S g h i)[i]? =some (h x):=by have hi:=(jc.1 hx).1;have hl:((S.take i).map g).length=i:=(by rw [jE,jH];omega);unfold zau;rw [OI kB,hl,BF,Zz hx];rfl
theorem zlT {S:List Int}{x:Int}(hx:S[i]? =some x):(zau S g h i).set i (g x)=zau S g h (i+1):=by have hi:=(jc.1 hx).1;have hl:((S.take i).map g).length=i:=(by rw [jE,jH];omega);unfold zau;rw [Bx _ _ kB,hl,BF,Zz hx,jx,List.set_cons_zero,zbi hx,jn];rfl
theorem zqO {S:List Int}{x:Int}(hx:S[i]? =some x)(e:g x=h x):zau S g h i=zau S g h (i+1):=by unfold zau;rw [Zz hx,zbi hx,jn,jx,e];rfl
theorem zol {S:List Int}(e:∀ x,h x=0):List.replicate S.length (0:Int)=zau S g h 0:=by
 rw [zk4]
 induction S with
 | nil=>rfl
 | cons x S ih=>rw [jx,e,jw,List.replicate_succ,ih]
theorem zAD (hs:1<=s/\s<=63)(h:Z5 s=true):UD s<6:=by
 have e:=zmH hs h;by_cases h6:UD s<6
 ·exact h6
 ·have:2^6<=2^UD s:=AC kE kB;omega
theorem zsu (hs:1<=s/\s<=63)(h:Z5 s=true)(hw:w<=UD s):(IntKind.i64.wrap (1*2^(min ((w:Nat):Int).toNat IntKind.i64.bits)) != s)=decide (w<UD s):=by
 have h6:=zAD hs h;have e:=zmH hs h;rw [zCF kB];by_cases hl:w<UD s
 ·rw [jX hl,bne_iff_ne];intro e2;have:w=UD s:=zuA kB h6 kB;omega
 ·rw [j1 hl,bne_eq_false_iff_eq];have:w=UD s:=kB;rw [this];omega
structure RtE (I:Qt)(fid bst brow bloc bcla bse:Nat)(sv bv av:Option Addr)(ns cs n2 c2 n c:Nat)(St xs:List Int)(rows:List (List Int))(l:Nat):Prop where
 st:QB I [] bst 0 (.slice sv ns cs)
 row:QB I [] brow 0 (.slice bv n2 c2)
 loc:QB I [] bloc 0 (.int .i64 l)
 cla:QB I [] bcla 0 (.slice av n c)
 se:QB I [] bse 0 (.func (.func fid) #[] #[QZ bst,QZ brow,QZ bloc,QZ bcla,QZ bse])
 hT:Sl I 1 Q3 sv ns cs St
 hS:Sl I 1 Q3 av n c xs
 hV:SlN I bv n2 c2 rows
variable{bst brow bloc bcla bse:Nat}{sv:Option Addr}{St:List Int}
theorem RtE.mono {I':Qt}{fid:Nat}{ns cs:Nat}{l:Nat}(h:RtE I fid bst brow bloc bcla bse sv bv av ns cs n2 c2 n c St xs rows l)(hI:HLe I I'):RtE I' fid bst brow bloc bcla bse sv bv av ns cs n2 c2 n c St xs rows l:=
 ⟨h.st.mono hI,h.row.mono hI,h.loc.mono hI,h.cla.mono hI,h.se.mono hI,h.hT.mono hI,h.hS.mono hI,h.hV.mono hI⟩
theorem zsK:Fun Tryz.prog 72:=.of Tryz.func72 kA kA
theorem zC0:Fun Tryz.prog 73:=.of Tryz.func73 kA kA
theorem zz0:Fun Tryz.prog 74:=.of Tryz.func74 kA kA
theorem Vi:MkT Tryz.prog 37 3 8 (.int .i64 0):=⟨kA,kA,U⟩
theorem zob:ScT Tryz.prog 136:=.of kA
theorem zpD (I:Qt)(x y:Int):Zt Tryz.prog 74 [.int .i64 x,.int .i64 y] I (.int .i64 (V0 x y)):=by
 intro g H w hw;refine qe Tryz.func74 Tryz.ntmps74 hw ?_;refine zR (zA (zN (Ql (Qp (zR ?_)))));refine zM ?_;refine zM ?_;refine zC ?_;refine zA (zN ?_);refine zI ?_ ?_<;>intro hc5
 ·refine zR (zA (zN (Qr (Qn (Qc ?_)))))
  first
  | exact zr U U (by unfold V0;rw [jb (by simpa using hc5)])
 refine zR (zM ?_);refine zC ?_;refine zA (zN ?_);refine zI ?_ ?_<;>intro hc9
 ·refine zR (zA (zN (Qr (Qn (Qc ?_)))))
  first
  | exact zr U U (by unfold V0;rw [ja (by simpa using hc5),jb (by simpa using hc9)])
 refine zR (zM ?_);refine zC ?_;refine zA (zN ?_);refine zI ?_ ?_<;>intro hc12
 ·refine zR (zA (zN (Qr (Qn (Qc ?_)))))
  first
  | exact zr U U (by unfold V0;rw [ja (by simpa using hc5),ja (by simpa using hc9),jb (by simpa using hc12)])
 refine Qo (Qg (Qa (zR (zA (zN (Qr ?_))))))
 first
 | exact zr U U (by unfold V0;rw [ja (by simpa using hc5),ja (by simpa using hc9),ja (by simpa using hc12)])
theorem zq8 (hS:Sl I 1 Q3 av n c xs)(hn:n<=100000)(hc:V4 m xs=0)(hin:s∈xs):Zt Tryz.prog 73 [.int .i64 m,.slice av n c,.int .i64 s] I (.tuple #[.int .i64 (Qw xs s),.int .i64 (s-Qw xs s),.int .i64 0]):=by have h:=zyv hS hn (m:Int) s;have e:Vo (m:Int) xs s=0:=zf2 hc (ju.2 ⟨s,hin,by simp⟩);obtain ⟨e1,e2⟩:=zjF (m:=(m:Int)) (cl:=xs) (s:=s);rw [e1,e2,e] at h;unfold zcS zcQ at h;rw [ja kB,ja kB] at h;exact h
theorem zpR {ns cs:Nat}{l:Nat}(hE:RtE I 72 bst brow bloc bcla bse sv bv av ns cs n2 c2 n c St xs rows l)(hn:n<=100000)(hn2:n2<=100000)(hns:ns<=1000)(hl:∀ r∈rows,l<r.length)(hc:V4 rows.length xs=0)(f:Nat)(s:Int)(hok:OkS rows.length xs s)(hf:1<s->1<=f)(ih:∀ (I':Qt),HLe I I'->∀ (s':Int),OkS rows.length xs s'->s'<s->ZQ Tryz.prog 72 ([.int .i64 s']++[QZ bst,QZ brow,QZ bloc,QZ bcla,QZ bse]) I' [] (zec 1 Q3 (rcF St (uF rows l) xs f s'))):ZQ Tryz.prog 72 [.int .i64 s,QZ bst,QZ brow,QZ bloc,QZ bcla,QZ bse] I [] (zec 1 Q3 (rcF St (uF rows l) xs (f+1) s)):=by
 intro g H w hw;refine qe Tryz.func72 Tryz.ntmps72 hw ?_;have hIc:=zGN I;have hVl:=hE.hV.len;subst hVl;have hTl:=hE.hT.len;subst hTl;obtain ⟨hs,hV⟩:=hE.hV;have hH:=hV.1;have hal:=(ZZ hc).1;have hal6:=(ZZ hc).2.1;have hs63:=zcm hc hok;refine zR (zA ?_);refine zN (zR ?_);refine zV (Qd U QK (fun hg=>by exact hE.st.any)) ?_;refine zQ Qx ?_;refine Q7 Vi U U kB kE U U (fun b_26=>?_);refine zA (Qb ?_);have e0:((St.length:Nat):Int).toNat=St.length:=rfl;rw [e0,Q5];refine Qa (Ql (zR (zM ?_)));refine zM ?_;refine zB ?_;refine zV (Uu U U) ?_;refine zC (zN ?_);refine zI ?_ ?_<;>intro hc31
 ·have hsing:Z5 s=true:=(by unfold Z5;rw [jX (show s>0 by omega),OM,zAq hs63];exact hc31);have hwn:=zAC (n:=rows.length) kB hs63 hsing hok.2.1;have hw6:=zAD hs63 hsing;refine zR (zA (zN (Ql (Qp ?_))));refine zU [(0,_),(1,_),(2,_),(3,_),(8,_)] (fun T L0 mz E I' loc'=>∃ (k:Nat),mz=(UD s)-k/\E=(9,.int .i64 k)::T/\I=I'/\[(b_26,.cells (Zm (List.replicate St.length 0)) 3 (0,0))]=loc'/\k<=(UD s)) ?_ (h:=⟨0,U,U,U,U,jf _⟩);rintro mz E I' loc' ⟨k,rfl,rfl,rfl,rfl,hk⟩;refine Ql (zR (zM ?_));refine zV (zaA U U (fun hg=>kB)) ?_;refine zM ?_;refine zC (zN ?_);refine zI ?_ ?_<;>intro hc35
  ·have hlt_k:k<UD s:=(by rw [zsu hs63 hsing hk] at hc35;simpa using hc35);refine Qo (Qa (Qp (Qf (zM ?_))));refine zB ?_;refine zA (Qb (Qg ?_));exact zm (h:=⟨(UD s)-(k+1),kB,k+1,U,U,U,U,kB⟩)
  have hge_k:k=UD s:=(by rw [zsu hs63 hsing hk] at hc35;simp at hc35;omega);subst hge_k;obtain ⟨x,v,hx,hv,hQ⟩:=hV.at hwn;have hlv:=hl v (jd hv);have hu:=Zc (d:=0) U hlv;have hvn:=hQ.len;have hUF:uF rows l (UD s)=v.getD l 0:=(by unfold uF;rw [Q1 hv]);rw [zol (g:=(zaT (uF rows l (UD s)))) (h:=(fun _=>0)) (fun _=>U)];refine QF (Qh (Qh (Qm (Qa (Ql (zR ?_))))));refine zV (Qd U QK (fun hg=>by exact hE.st.any)) ?_;refine zQ Qx ?_;refine zM (zN (Qp ?_));refine zU [(2,_),(3,_),(8,_),(9,_),(38,_),(39,_)] (fun T L0 mz E I' loc'=>∃ (i:Nat),mz=St.length-i/\E=(40,.int .i64 i)::T/\I=I'/\[(b_26,.cells (Zm (zau St (zaT (uF rows l (UD s))) (fun _=>0) i)) 3 (0,0))]=loc'/\i<=St.length) ?_ (h:=⟨0,U,U,U,U,jf _⟩);rintro mz E I' loc' ⟨i,rfl,rfl,rfl,rfl,hi⟩;refine zR (zC (zN (Ql ?_)));refine zI ?_ ?_<;>intro hc41
  ·have hlt_i:i<St.length:=(by have h:=hc41;simp at h;omega);obtain ⟨y,hst⟩:=hE.hT.at hlt_i;refine Qo (Qa (Ql (Qp (zR (zM ?_)))));refine zV (Qy U U Qx hE.hT (fun hg=>kB)) ?_;refine zV (Qd U Qq (fun hg=>by exact zGG (hE.hT) hst U)) ?_;refine zA ?_;refine zA (zN (Ql ?_));refine YE mixed kA ?_;refine zq (Qd U Ki (fun hg=>by exact hE.row.any)) ?_;refine zq (Qj U) ?_;refine zq (zX Zn hH) ?_;refine zq (Qd U QK (fun hg=>by exact zGG hH hx U)) ?_;refine zq (Qd U Qq (fun hg=>by exact hE.loc.any)) ?_;refine zq (zX Qx hQ) ?_;refine zq (Qd U Qq (fun hg=>by exact zGG hQ hu U)) ?_;refine zq (QU U) ?_;refine YC ?_;refine Qa (zR (zM ?_));refine zC ?_;refine zM ?_;refine QA 2 U U U ?_;refine zK (Qj U) ?_;refine zK (Qj U) ?_;refine zK (QI U U U) ?_;refine QE U U U U U ?_;refine zN ?_;refine zI ?_ ?_<;>intro hc58
   focus
    have hgy:(zaT (uF rows l (UD s))) y=1073741824:=(by unfold zaT;rw [hUF,jb (by simpa using hc58)]);refine Qf (zM ?_);refine zM ?_;refine zV (Q2 U U Qx (fun hg=>kB)) ?_;refine Z0 U U ZD U U (by repeat (first | exact Upd.here | apply Upd.there | apply QH)) (zAl (by rw [zn5];omega)) ?_;refine Qb ?_;rw [V9,show (zau St (zaT (uF rows l (UD s))) (fun _=>0) i).set i 1073741824=zau St (zaT (uF rows l (UD s))) (fun _=>0) (i+1) from by rw [<-zlT hst,hgy]];refine Qg (Qa (Qf (zB ?_)))
   rotate_left
   have hgy:(zaT (uF rows l (UD s))) y=0:=(by unfold zaT;rw [hUF,ja (by rw [hc58];decide)]);rw [zqO hst hgy];refine Qo (Qg (Qa (Qf (zB ?_))))
   all_goals
    refine zM (Qb ?_);exact zm (h:=⟨St.length-(i+1),kB,i+1,U,U,U,U,kB⟩)
  have hge_i:St.length<=i:=(by have h:=hc41;simp at h;omega);rw [znH hge_i];refine QF (Qh (Qh (Qm (Qa (zR (zM ?_))))));refine zA (zN (Qr (Qc ?_)))
  first
  | exact QR U U (fun w hw=>by obtain ⟨I9,h91,h92,h93⟩:=OwnS.res (zhx (by rw [jE]) kB) Zh kE hw;rw [<-zDS (f:=f) (cl:=xs) hsing] at h93;exact ⟨_,I9,[],U,hIc.trans h91,h92,h93⟩)
 have hns0:Z5 s=false:=(by unfold Z5;rw [jX (show s>0 by omega),OM,zAq hs63];exact hc31);obtain ⟨hin,ok1,ok2,hp1,hp2,_,_⟩:=V5 hc hok hns0;obtain ⟨f0,rfl⟩:∃ f0,f=f0+1:=⟨f-1,by have:=hf kB;omega⟩;rw [zol (g:=(WM St (rcF St (uF rows l) xs (f0+1) (Qw xs s)) (rcF St (uF rows l) xs (f0+1) (s-Qw xs s)) 0)) (h:=(WM St (rcF St (uF rows l) xs (f0+1) (Qw xs s)) (rcF St (uF rows l) xs (f0+1) (s-Qw xs s)) 0)) (fun _=>by unfold WM;simp)];refine Qo (Qa (zR ?_));refine zV (Qd U Ki (fun hg=>by exact hE.row.any)) ?_;refine zQ Zn ?_;refine zV (Qd U QK (fun hg=>by exact hE.cla.any)) ?_;refine zM ?_;refine qcV (vs:=[_,_,_]) U zC0 (zq8 hE.hS hn hc hin) ?_;refine zM ?_;refine zE ?_;refine zE ?_;refine zE ?_;refine zA ?_;refine zA ?_;refine zA (zN (Ql (zR ?_)));refine zM ?_;refine zM ?_;refine zpb [(0,_),(1,_)] [Q3 (Qw xs s),Q3 (s-Qw xs s)] Zw (fun b_75=>?_);refine Ju (b:=b_75) (by repeat (first | exact Zf.here | apply Zf.there)) (fun I3 hI3 hb3=>?_);have hE:=hE.mono hI3;have hIc:=hIc.trans hI3;have hAB:Sl I3 1 Q3 (some ⟨b_75,0,none⟩) 2 2 ([Qw xs s,s-Qw xs s]:List Int):=Sl.lit ([Qw xs s,s-Qw xs s]:List Int) U Zh (show _=some (Obj.cells (([Qw xs s,s-Qw xs s]:List Int).flatMap Q3).toArray 3 (0,0)) from hb3);refine zQ Qx ?_;refine zM (zN (Qp ?_));refine zU [(1,_),(5,_),(8,_),(75,_),(76,_)] (fun T L0 mz E I' loc'=>∃ (j:Nat),mz=2-j/\E=(77,.int .i64 j)::T/\HLe I3 I'/\[(b_26,.cells (Zm (zau St (WM St (rcF St (uF rows l) xs (f0+1) (Qw xs s)) (rcF St (uF rows l) xs (f0+1) (s-Qw xs s)) j) (WM St (rcF St (uF rows l) xs (f0+1) (Qw xs s)) (rcF St (uF rows l) xs (f0+1) (s-Qw xs s)) j) 0)) 3 (0,0))]=loc'/\j<=2) ?_ (h:=⟨0,U,U,zGN _,U,jf _⟩);rintro mz E J4 loc' ⟨j,rfl,rfl,hJ,rfl,hj⟩;have hE:=hE.mono hJ;have hAB:=hAB.mono hJ;have hIc:=hIc.trans hJ;have hB4:=hJ;refine zR (zC (zN (Ql ?_)));refine zI ?_ ?_<;>intro hc78
 ·have hlt_j:j<2:=by have h:=hc78;simp at h;omega
  obtain ⟨q,hpj,hpe,okp,hpl⟩:∃ q,([Qw xs s,s-Qw xs s]:List Int)[j]? =some q/\(rcF St (uF rows l) xs (f0+1) (q))=(if j=0 then (rcF St (uF rows l) xs (f0+1) (Qw xs s)) else (rcF St (uF rows l) xs (f0+1) (s-Qw xs s)))/\OkS rows.length xs q/\q<s:=by
   rcases (show j=0\/j=1 by omega) with rfl | rfl
   ·exact ⟨_,U,U,ok1,kB⟩
   exact ⟨_,U,U,ok2,kB⟩
  have hcl:(if j=0 then (rcF St (uF rows l) xs (f0+1) (Qw xs s)) else (rcF St (uF rows l) xs (f0+1) (s-Qw xs s))).length=St.length:=(by split<;>exact zz9);have hci:∀ c∈(if j=0 then (rcF St (uF rows l) xs (f0+1) (Qw xs s)) else (rcF St (uF rows l) xs (f0+1) (s-Qw xs s))),0<=c/\c<=2147483648:=(by split<;>exact zkK _ _);rw [show zau St (WM St (rcF St (uF rows l) xs (f0+1) (Qw xs s)) (rcF St (uF rows l) xs (f0+1) (s-Qw xs s)) j) (WM St (rcF St (uF rows l) xs (f0+1) (Qw xs s)) (rcF St (uF rows l) xs (f0+1) (s-Qw xs s)) j) 0=zau St (WM St (rcF St (uF rows l) xs (f0+1) (Qw xs s)) (rcF St (uF rows l) xs (f0+1) (s-Qw xs s)) (j+1)) (WM St (rcF St (uF rows l) xs (f0+1) (Qw xs s)) (rcF St (uF rows l) xs (f0+1) (s-Qw xs s)) j) 0 by rw [zk4,zk4]];refine Qo (Qa (Ql (Qp (zR ?_))));refine zV (zX Qx hAB) ?_;refine zV (Qd U Qq (fun hg=>by exact zGG hAB hpj U)) ?_;refine zA ?_;refine zN (zR ?_);refine zV (Qd U zob (fun hg=>by exact hE.se.any)) ?_;refine zM ?_;refine Z1 (cap:=[QZ bst,QZ brow,QZ bloc,QZ bcla,QZ bse]) (vs:=[_]) U U zsK (by exact .nil) (ih _ hIc _ okp hpl) U U ?_;rintro vv5 I5 L5 hI5 ⟨rfl,aC,cC,rfl,hBl⟩;have hE:=hE.mono hI5;have hB4:=hB4.trans hI5;rw [hpe] at hBl ⊢;refine zA ?_;refine zN (zR ?_);refine zV (Qd U QK (fun hg=>by exact hE.st.any)) ?_;refine zQ Qx ?_;refine zM (zN (Qp ?_));refine zU [(1,_),(5,_),(8,_),(18,_),(75,_),(76,_),(77,_),(84,_),(85,_)] (fun T L0 mz E I' loc'=>∃ (i:Nat),mz=St.length-i/\E=(86,.int .i64 i)::T/\I5=I'/\[(b_26,.cells (Zm (zau St (WM St (rcF St (uF rows l) xs (f0+1) (Qw xs s)) (rcF St (uF rows l) xs (f0+1) (s-Qw xs s)) (j+1)) (WM St (rcF St (uF rows l) xs (f0+1) (Qw xs s)) (rcF St (uF rows l) xs (f0+1) (s-Qw xs s)) j) i)) 3 (0,0))]=loc'/\i<=St.length) ?_ (h:=⟨0,U,U,U,U,jf _⟩);rintro mz E I' loc' ⟨i,rfl,rfl,rfl,rfl,hi⟩;refine zR (zC (zN (Ql ?_)));refine zI ?_ ?_<;>intro hc87
  ·have hlt_i:i<St.length:=(by have h:=hc87;simp at h;omega);obtain ⟨y,hst⟩:=hE.hT.at hlt_i;have hti:=zm3 (S:=St) (A:=(rcF St (uF rows l) xs (f0+1) (Qw xs s))) (B:=(rcF St (uF rows l) xs (f0+1) (s-Qw xs s))) (x:=y) (fun c h=>(zkK _ _ c h).1) (fun c h=>(zkK _ _ c h).1) j;refine Qo (Qa (Ql (Qp (zR (zM ?_)))));refine zV (Qy U U Qx hE.hT (fun hg=>kB)) ?_;refine zV (Qd U Qq (fun hg=>by exact zGG (hE.hT) hst U)) ?_;refine zA ?_;refine zA ?_;refine zN (zR ?_);refine zA (zN (Ql (zR ?_)));refine zV (Qd U QK (fun hg=>by exact hE.st.any)) ?_;refine zQ Qx ?_;refine zM (zN (Qp ?_));refine zU [(1,_),(5,_),(8,_),(18,_),(19,_),(20,_),(75,_),(76,_),(77,_),(84,_),(85,_),(86,_),(91,_),(92,_)] (fun T L0 mz E I' loc'=>∃ (k:Nat),mz=St.length-k/\E=(21,.int .i64 (zka St (if j=0 then (rcF St (uF rows l) xs (f0+1) (Qw xs s)) else (rcF St (uF rows l) xs (f0+1) (s-Qw xs s))) y k))::(93,.int .i64 k)::T/\I5=I'/\[(b_26,.cells (Zm (zau St (WM St (rcF St (uF rows l) xs (f0+1) (Qw xs s)) (rcF St (uF rows l) xs (f0+1) (s-Qw xs s)) (j+1)) (WM St (rcF St (uF rows l) xs (f0+1) (Qw xs s)) (rcF St (uF rows l) xs (f0+1) (s-Qw xs s)) j) i)) 3 (0,0))]=loc'/\k<=St.length) ?_ (h:=⟨0,U,U,U,U,jf _⟩);rintro mz E I' loc' ⟨k,rfl,rfl,rfl,rfl,hk⟩;refine zR (zC (zN (Ql ?_)));refine zI ?_ ?_<;>intro hc94
   ·have hlt_k:k<St.length:=(by have h:=hc94;simp at h;omega);obtain ⟨yk,hsk⟩:=hE.hT.at hlt_k;obtain ⟨ck,hck⟩:=hBl.at (show k<_ by omega);have hcki:=hci ck (jd hck);have hsti:=WR y yk;refine Qo (Qa (Ql (Qp (zR (zM ?_)))));refine zV (Qy U U Qx hE.hT (fun hg=>kB)) ?_;refine zV (Qd U Qq (fun hg=>by exact zGG (hE.hT) hsk U)) ?_;refine zA ?_;refine zA (zN ?_);refine YE mixed kA ?_;refine zq (Qj U) ?_;refine zq (Qj U) ?_;refine zq (Qj U) ?_;refine Jq (cap:=[]) (vs:=[_,_]) U U zz0 (zpD _ _ _) U U ?_;refine zq (Qj U) ?_;refine zq (Qj U) ?_;refine zq (zX Qx hBl) ?_;refine zq (Qd U Qq (fun hg=>by exact zGG hBl hck U)) ?_;refine zq (ZL U U U (fun hg=>kB)) ?_;refine zq (zr5 U U) ?_;refine zq (QU U) ?_;refine YC ?_;rw [<-znE hsk hck];refine Qg (Qa (Qf (zB ?_)));refine zM (Qb ?_);exact zm (h:=⟨St.length-(k+1),kB,k+1,U,U,U,U,kB⟩)
   have hge_k:St.length<=k:=(by have h:=hc94;simp at h;omega);rw [show k=St.length by omega];have hmni:=zdx (S:=St) (x:=y) (fun c h=>(hci c h).1) St.length;refine QF (Qh (Qh (Qm (Qa (Qf (zM ?_))))));refine zM ?_;refine zV (Q2 U U Qx (fun hg=>kB)) ?_;refine zV (Qd U Qq (fun hg=>by exact JJ (zDE hst))) ?_;refine zM ?_;refine zB ?_;refine zV (Q2 U U Qx (fun hg=>kB)) ?_;refine Z0 U U ZD U U (by repeat (first | exact Upd.here | apply Upd.there | apply QH)) (zAl (by rw [zn5];omega)) ?_;refine Qb ?_;rw [V9,show (zau St (WM St (rcF St (uF rows l) xs (f0+1) (Qw xs s)) (rcF St (uF rows l) xs (f0+1) (s-Qw xs s)) (j+1)) (WM St (rcF St (uF rows l) xs (f0+1) (Qw xs s)) (rcF St (uF rows l) xs (f0+1) (s-Qw xs s)) j) i).set i ((WM St (rcF St (uF rows l) xs (f0+1) (Qw xs s)) (rcF St (uF rows l) xs (f0+1) (s-Qw xs s)) j) y+zka St (if j=0 then (rcF St (uF rows l) xs (f0+1) (Qw xs s)) else (rcF St (uF rows l) xs (f0+1) (s-Qw xs s))) y St.length)=zau St (WM St (rcF St (uF rows l) xs (f0+1) (Qw xs s)) (rcF St (uF rows l) xs (f0+1) (s-Qw xs s)) (j+1)) (WM St (rcF St (uF rows l) xs (f0+1) (Qw xs s)) (rcF St (uF rows l) xs (f0+1) (s-Qw xs s)) j) (i+1) from by rw [<-zlT hst,<-zmq hlt_j];rfl];refine Qg (Qa (Qf (zB ?_)));refine zM (Qb ?_);exact zm (h:=⟨St.length-(i+1),kB,i+1,U,U,U,U,kB⟩)
  have hge_i:St.length<=i:=(by have h:=hc87;simp at h;omega);rw [show zau St (WM St (rcF St (uF rows l) xs (f0+1) (Qw xs s)) (rcF St (uF rows l) xs (f0+1) (s-Qw xs s)) (j+1)) (WM St (rcF St (uF rows l) xs (f0+1) (Qw xs s)) (rcF St (uF rows l) xs (f0+1) (s-Qw xs s)) j) i=zau St (WM St (rcF St (uF rows l) xs (f0+1) (Qw xs s)) (rcF St (uF rows l) xs (f0+1) (s-Qw xs s)) (j+1)) (WM St (rcF St (uF rows l) xs (f0+1) (Qw xs s)) (rcF St (uF rows l) xs (f0+1) (s-Qw xs s)) (j+1)) 0 by rw [znH hge_i,zk4]];refine QF (Qh (Qh (Qm (Qg (Qa (Qf (zB ?_)))))));refine zM (Qb ?_);exact zm (h:=⟨2-(j+1),kB,j+1,U,U,hB4,U,kB⟩)
 have hge_j:2<=j:=(by have h:=hc78;simp at h;omega);rw [show j=2 by omega,zk4];refine QF (Qh (Qh (Qm (Qa (zR (zM ?_))))));refine zA (zN (Qr ?_))
 first
 | exact QR U U (fun w hw=>by obtain ⟨I9,h91,h92,h93⟩:=OwnS.res (zhx (by rw [jE]) kB) Zh kE hw;rw [<-zDK (f:=f0+1) hns0] at h93;exact ⟨_,I9,[],U,hIc.trans h91,h92,h93⟩)
end
section
open Go Go.Kn
theorem zjo (d:Array Int)(hs:∀ j,0<j->j<d.size->d[j-1]! <=d[j]!):∀ m,m<=d.size->(Lib.compactUpTo d m).Pairwise (· < ·)/\(∀ x∈Lib.compactUpTo d m,0<m/\x<=d[m-1]!)/\∀ x,x∈Lib.compactUpTo d m↔ ∃ j,j<m/\d[j]! =x
 | 0,_=>⟨.nil,(fun x h=>by cases h),fun x=>⟨(fun h=>by cases h),fun ⟨j,h,_⟩=>kB⟩⟩
 | m+1,hm=>by
  obtain ⟨h1,h2,h3⟩:=zjo d hs m kB;rw [Lib.compactUpTo_succ];by_cases hk:Lib.keeps d m=true
  ·rw [jb hk]
   have hlt:∀ x∈Lib.compactUpTo d m,x<d[m]! :=fun x hx=>by
    obtain ⟨a,b⟩:=h2 x hx;have h4:=hs m a kB;unfold Lib.keeps at hk;have h5:=Oi hk;omega
   refine ⟨?_,?_,?_⟩
   ·rw [Ov];exact ⟨h1,List.pairwise_singleton ..,fun y hy z hz=>by rw [jA] at hz;rw [hz];exact hlt y hy⟩
   ·intro x hx;refine ⟨kB,?_⟩;rw [show m+1-1=m from by omega];rcases jv.1 hx with hx | hx
    ·have:=hlt x hx;omega
    ·rw [jA] at hx;rw [hx];exact Aq _
   ·intro x;rw [jv,h3,jA];constructor
    ·rintro (⟨j,a,b⟩ | e)
     ·exact ⟨j,kB,b⟩
     ·exact ⟨m,kB,e.symm⟩
    ·rintro ⟨j,a,b⟩;by_cases e:j=m
     ·subst e;exact .inr b.symm
     ·exact .inl ⟨j,kB,b⟩
  ·rw [ja hk,jz];unfold Lib.keeps at hk;have h5:¬(m=0\/d[m]! ≠d[m-1]!):=fun h=>hk (jX h);have h6:0<m/\d[m]! =d[m-1]! :=kB;refine ⟨h1,?_,?_⟩
   ·intro x hx;have:=h2 x hx;rw [show m+1-1=m from by omega];omega
   ·intro x;rw [h3];constructor
    ·rintro ⟨j,a,b⟩;exact ⟨j,kB,b⟩
    ·rintro ⟨j,a,b⟩;by_cases e:j=m
     ·subst e;exact ⟨j-1,kB,by rw [<-h6.2];exact b⟩
     ·exact ⟨j,kB,b⟩
theorem zbH (zs:List Int):(Lib.compact (YB zs)).Pairwise (· < ·)/\∀ x,x∈Lib.compact (YB zs)↔x∈zs:=by
 have hp:(YB zs).Pairwise (fun a b=>decide (a<=b)=true):=Bg (by intro a b c;simp;omega) (by intro a b;simp;omega) zs;have hget:∀ j,j<(YB zs).length->(YB zs).toArray[j]! =(YB zs)[j]! :=fun j hj=>by simp
 have hs:∀ j,0<j->j<(YB zs).toArray.size->(YB zs).toArray[j-1]! <=(YB zs).toArray[j]! :=by
  intro j h0 hj;have hj':j<(YB zs).length:=(by simpa using hj);have h1:=jM.1 hp (j-1) j kB hj' kB;have h2:=Oi h1;simpa [hj',show j-1<(YB zs).length from by omega] using h2
 obtain ⟨h1,_,h3⟩:=zjo (YB zs).toArray hs (YB zs).length kK;refine ⟨h1,fun x=>?_⟩;unfold Lib.compact;rw [h3];have hmem:x∈YB zs↔x∈zs:=(A0 zs _).mem_iff;rw [<-hmem];constructor
 ·rintro ⟨j,hj,e⟩;have:(YB zs)[j]=x:=by simpa [hj] using e
  rw [<-this];exact OS hj
 ·intro h;obtain ⟨j,hj,e⟩:=BJ h;exact ⟨j,hj,by simpa [hj] using e⟩
end
section
open Go Go.Kn Go.Proofs
def rcV (S:List Int)(u:Nat->Int)(cl:List Int)(f:Nat)(s x:Int):Int:=if Z5 s=true then zaT (u (UD s)) x else WM S (rcF S u cl f (Qw cl s)) (rcF S u cl f (s-Qw cl s)) 2 x
variable{u:Nat->Int}{cl:List Int}{s:Int}
theorem zAR {S:List Int}{f:Nat}:rcF S u cl (f+1) s=S.map (rcV S u cl f s):=by
 cases h:Z5 s with
 | true=>rw [zDS h];exact O6 fun x _=>by unfold rcV;rw [jb h]
 | false=>rw [zDK h];exact O6 fun x _=>by unfold rcV;rw [ja (by rw [h];decide)]
def stE (rows:List (List Int))(l:Nat):List Int:=Lib.compact (YB (stL rows l rows.length))
def zoH (rows:List (List Int))(cl:List Int)(l:Nat):List Int:=rcF (stE rows l) (uF rows l) cl 64 (YY rows.length)
def zxh (rows:List (List Int))(cl:List Int)(l:Nat)(x:Int):Int:=rcV (stE rows l) (uF rows l) cl 63 (YY rows.length) x
variable{rows:List (List Int)}{l:Nat}
theorem zer :zoH rows cl l=(stE rows l).map (zxh rows cl l):=zAR (f:=63)
def Ug (rows:List (List Int))(cl:List Int)(l:Nat):List Int:=(stE rows l).filter fun x=>zxh rows cl l x==YR (zoH rows cl l)
def Xn (rows:List (List Int))(cl:List Int):List (List Int):=if Y2 rows cl≠0 then [] else (List.range (rows.getD 0 []).length).map (Ug rows cl)
theorem zeK (h:Y2 rows cl≠0):Xn rows cl=[]:=by unfold Xn;rw [jb h]
theorem zaX (h:Y2 rows cl=0):Xn rows cl=(List.range (rows.getD 0 []).length).map (Ug rows cl):=by unfold Xn;rw [ja kB]
variable{α:Type}{k:Nat}{f:Nat->α}
theorem zbX :(List.range (k+1)).map f=(List.range k).map f++[f k]:=by rw [Ou,jZ];rfl
variable{p:α->Bool}{xs:List α}{x:α}
theorem zpI (hx:xs[k]? =some x)(h:p x=true):(xs.take (k+1)).filter p=(xs.take k).filter p++[x]:=by rw [jP,hx,jN];simp [h]
theorem zya (hx:xs[k]? =some x)(h:p x=false):(xs.take (k+1)).filter p=(xs.take k).filter p:=by rw [jP,hx,jN];simp [h]
theorem znq :(stE rows l).length<=rows.length+1:=by
 have h1:(stL rows l rows.length).length<=rows.length+1:=by
  unfold stL;have:=j3 (fun x=>x != 8589934592) ((List.range rows.length).map fun w=>uF rows l w);rw [jE,OU] at this;rw [jw];omega
 have h2:(YB (stL rows l rows.length)).length=(stL rows l rows.length).length:=(by unfold YB;exact (A0 _ _).length_eq);have h3:=Lib.compact_length_le (YB (stL rows l rows.length));unfold stE;omega
variable{y:Int}
theorem zxl :y∈stE rows l↔y∈Za rows l:=by unfold stE;rw [(zbH _).2,zzU]
theorem znz :0<(stE rows l).length:=AL (zxl.2 (ziI.2 (.inl U)))
theorem zlw :(zoH rows cl l).length=(stE rows l).length:=by rw [zer,jE]
def zBq (rows:List (List Int))(cl:List Int):Value->Qt->Go.Kn.Loc->Prop:=fun v I' L=>L=[]/\∃ av c,v= .tuple #[.slice av (Xn rows cl).length c,.int .i64 (Y2 rows cl)]/\SlN I' av (Xn rows cl).length c (Xn rows cl)
end
end Go.Proofs.YtmbjmjbjdgjonaaGreatDoor
