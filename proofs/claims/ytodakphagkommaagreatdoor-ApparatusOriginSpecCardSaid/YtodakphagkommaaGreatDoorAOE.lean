/- apparatusOriginSpec_holds, part E of the proof: what its theorems say holds without further conditions. -/
import Derived.Test.YtodakphagkommaaGreatDoorAOD
namespace Go.Proofs.YtodakphagkommaaGreatDoor
section
open Go Go.Kn Go.Proofs
structure Em where
 locus:Int
 code:Int
 reason:Int
def Yv (e:Em):List Value:=[.int .i64 e.locus,.int .i64 e.code,.int .i64 e.reason]
theorem zcP (e:Em):(Yv e).length=3:=rfl
theorem zDa (o:List Em):YY (o.flatMap Yv)=true:=YM (fun _=>U) o
def r1F (code:Int)(b:Bool):Bool:=(b&&code != 0)&&code != 8589934592
def r2F (code:Int)(b:Bool):Bool:=(Vb code==0)&& !b
def r3F (code:Int)(_:Bool):Bool:=code==0
def rsF (r code:Int)(b:Bool):Bool:=if r=1 then r1F code b else if r=2 then r2F code b else if r=3 then r3F code b else false
def zaY (rows:List (List Int))(e:Em):Bool:=rows.any fun r=>r.getD e.locus.toNat 0==e.code
def zed (rows:List (List Int))(m:Nat)(l:Int)(e:Em):Bool:=decide (e.locus<=l)||(decide (e.locus>=(m:Int))|| !rsF e.reason e.code (zaY rows e))
def Ku (rows:List (List Int))(m:Nat):Int->List Em->Bool
 | _,[]=>true
 | l,e::i=> !zed rows m l e&&Ku rows m e.locus i
variable{rows:List (List Int)}{m k:Nat}{l:Int}{i:List Em}{e:Em}
theorem VU (h:i[k]? =some e)(a:zed rows m l e=true):Ku rows m l (i.drop k)=false:=by rw [ZA h];unfold Ku;rw [a];rfl
theorem zdh (h:i[k]? =some e)(a:zed rows m l e=false):Ku rows m l (i.drop k)=Ku rows m e.locus (i.drop (k+1)):=by rw [ZA h];show (!zed rows m l e&&Ku rows m e.locus (i.drop (k+1)))=_;rw [a];rfl
theorem zgi (h:i.length<=k):Ku rows m l (i.drop k)=true:=by rw [Or h];rfl
theorem zDf (h1:e.reason≠1)(h2:e.reason≠2)(h3:e.reason≠3):zed rows m l e=true:=by unfold zed rsF;rw [ja h1,ja h2,ja h3];simp
theorem zDL (h:decide (e.locus<=l)=true):zed rows m l e=true:=by unfold zed;rw [h];rfl
theorem zC6 (h:decide (e.locus>=(m:Int))=true):zed rows m l e=true:=by unfold zed;rw [h];simp
variable{t:Bool}
theorem zux (h1:decide (e.locus<=l)=false)(h2:decide (e.locus>=(m:Int))=false)(h3:(!rsF e.reason e.code (zaY rows e))=t):zed rows m l e=t:=by unfold zed;rw [h1,h2,h3];rfl
theorem zra (_rows:List (List Int))(m:Nat)(l:Int)(e:Em):decide (e.locus<=l)=true\/(decide (e.locus<=l)=false/\decide (e.locus>=(m:Int))=true)\/(decide (e.locus<=l)=false/\decide (e.locus>=(m:Int))=false):=by cases decide (e.locus<=l)<;>cases decide (e.locus>=(m:Int))<;>simp
def lfK (i:List Em):Nat->List Em
 | 0=>i
 | k+1=>match lfK i k with
  | []=>[]
  | e::r=>if e.locus=(k:Int) then r else e::r
def JN (rows:List (List Int))(cl:List Int)(k:Nat):Int:=if (VP rows cl k).any (fun y=>(rows.getD 0 []).getD k 0==y)=true then (rows.getD 0 []).getD k 0 else (VP rows cl k).getD 0 0
def W8 (rows:List (List Int))(cl:List Int)(i:List Em)(k:Nat):Int:=match lfK i k with
 | []=>JN rows cl k
 | e::_=>if e.locus=(k:Int) then e.code else JN rows cl k
def Je (rows:List (List Int))(cl:List Int)(i:List Em):List Int:=(List.range (rows.getD 0 []).length).map (W8 rows cl i)
theorem zv5 (h:lfK i k=[]):lfK i (k+1)=[]:=by show (match lfK i k with | []=>[] | e::r=>if e.locus=(k:Int) then r else e::r)=_;rw [h]
variable{r:List Em}
theorem zvv (h:lfK i k=e::r)(a:e.locus=(k:Int)):lfK i (k+1)=r:=by show (match lfK i k with | []=>[] | e::r=>if e.locus=(k:Int) then r else e::r)=_;rw [h];exact jb a
theorem zEd (h:lfK i k=e::r)(a:¬e.locus=(k:Int)):lfK i (k+1)=e::r:=by show (match lfK i k with | []=>[] | e::r=>if e.locus=(k:Int) then r else e::r)=_;rw [h];exact ja a
variable{cl:List Int}
theorem zt2 (h:lfK i k=[]):W8 rows cl i k=JN rows cl k:=by unfold W8;rw [h]
theorem zu5 (h:lfK i k=e::r)(a:e.locus=(k:Int)):W8 rows cl i k=e.code:=by unfold W8;rw [h];exact jb a
theorem zD7 (h:lfK i k=e::r)(a:¬e.locus=(k:Int)):W8 rows cl i k=JN rows cl k:=by unfold W8;rw [h];exact ja a
def WK (rows:List (List Int))(p:Int)(cl:List Int)(i:List Em):Int:=
 if YZ rows cl≠0 then YZ rows cl else if (decide (p<0)||decide (p>1048576))=true then 430 else if Ku rows (rows.getD 0 []).length (-1) i=true then 0 else 430
variable{p:Int}
theorem zgC (h:YZ rows cl≠0):WK rows p cl i=YZ rows cl:=by unfold WK;rw [jb h]
theorem zm4 (h:YZ rows cl=0)(h2:(decide (p<0)||decide (p>1048576))=true):WK rows p cl i=430:=by unfold WK;rw [ja kB,jb h2]
theorem Xy (h:YZ rows cl=0)(h2:(decide (p<0)||decide (p>1048576))=false)(h3:Ku rows (rows.getD 0 []).length (-1) i=false):WK rows p cl i=430:=by unfold WK;rw [ja kB,ja (by rw [h2];decide),ja (by rw [h3];decide)]
theorem zjU (h:YZ rows cl=0)(h2:(decide (p<0)||decide (p>1048576))=false)(h3:Ku rows (rows.getD 0 []).length (-1) i=true):WK rows p cl i=0:=by unfold WK;rw [ja kB,ja (by rw [h2];decide),jb h3]
def ZI (p:Int)(a1:Option Addr)(n1 c1:Nat)(a2:Option Addr)(j q:Nat)(a3:Option Addr)(n3 c3:Nat):List Value:=[.int .i64 p,.slice a1 n1 c1,.slice a2 j q,.slice a3 n3 c3]
def zFC (I:Qu)(z:List Value)(p:Int)(cl:List Int)(i:List Em)(D:List Int):Prop:=∃ a1 n1 c1 a2 j q a3 n3 c3,z=ZI p a1 n1 c1 a2 j q a3 n3 c3/\Sl I 1 QF a1 n1 c1 cl/\Sl I 3 Yv a2 j q i/\Sl I 1 QF a3 n3 c3 D
variable{I:Qu}{z:List Value}{D:List Int}
theorem zFC.mono {b:Qu}(h:zFC I z p cl i D)(a:HLe I b):zFC b z p cl i D:=by obtain ⟨d,s,n,f,j,q,g,u,o,h1,h2,h3,h4⟩:=h;exact ⟨d,s,n,f,j,q,g,u,o,h1,h2.mono a,h3.mono a,h4.mono a⟩
def zGm (rows:List (List Int))(p:Int)(cl:List Int)(i:List Em):Value->Qu->Go.Kn.Loc->Prop:=fun v I' L=>L=[]/\∃ z,v= .tuple #[.agg z.toArray,.int .i64 (WK rows p cl i)]/\
 ((WK rows p cl i=0/\zFC I' z p cl i (Je rows cl i))\/(WK rows p cl i≠0/\zFC I' z 0 [] [] []))
theorem zkB (h:YZ rows cl=0)(a:k<(rows.getD 0 []).length):(Xk rows cl)[k]? =some (VP rows cl k):=by rw [Wl h,jB,OD a];rfl
theorem zf3 (h:YZ rows cl=0):(Xk rows cl).length=(rows.getD 0 []).length:=by rw [Wl h,ju,OG]
theorem zwt:kp 24 67 3 24:=.of kA
theorem YQ:kh 67 0 0:=.of kA
theorem Kw:kh 67 1 1:=.of kA
theorem zz5:ke 106:=.of Tryz.func106 kA kA
theorem zB1:ke 54:=.of Tryz.func54 kA kA
theorem zvr:ke 63:=.of Tryz.func63 kA kA
theorem zbT:kr 120 3 124 (.agg #[.nilFunc]):=⟨kA,.of kA⟩
theorem zho:kq 124 #[(0,1)] (.agg #[.nilFunc]):=⟨.of kA,kA,fun w=>kA⟩
theorem zHc (I:Qu)(a:Int)(b:Bool):kf 97 [.int .i64 a,.bool b] I (.bool (r1F a b)):=by
 intro g H w d;refine qe Tryz.func97 Tryz.ntmps97 d ?_;refine zR (zA<|zN (zR ?_));refine zM ?_;refine zM ?_;refine Qw 1 U U U ?_;refine zK (Qd U) ?_;refine zK (Qx U U U) ?_;refine QC U U U U U ?_;refine zM ?_;refine Qw 5 U U U ?_;refine zK (Qd U) ?_;refine zK (Qx U U U) ?_;refine QC U U U U U<|zA (zN (Qq ?_))
 exact zr U U kL
theorem zG6 (I:Qu)(a:Int)(b:Bool):kf 98 [.int .i64 a,.bool b] I (.bool (r2F a b)):=by
 intro g H w h;refine qe Tryz.func98 Tryz.ntmps98 h ?_;have d:=zJH I;refine zR (zA<|zN (zR ?_));refine zM ?_;refine qcV (vs:=[_]) U znq (zo9 _ _)<|zM ?_
 refine zE ?_;refine zE<|Qv Kc U U (fun f=>zh Zy ?_)
 refine zA<|zN (zR ?_)
 refine zM<|zC ?_
 refine zM ?_;refine Qw 2 U U U ?_;exact zK (Qd U)<|zK (ZT U)<|QC U U U U U<|zA (zN (Qq<|zp d U U kL))
theorem zGT (I:Qu)(a:Int)(b:Bool):kf 99 [.int .i64 a,.bool b] I (.bool (r3F a b)):=by
 intro g H w d;refine qe Tryz.func99 Tryz.ntmps99 d ?_;refine zR (zA<|zN (zR ?_));refine zM<|zC<|zA (zN (Qq ?_))
 exact zr U U kL
def rsV (f:Nat):Value:=.agg #[.func (.func f) #[] #[]]
def rsM:List (Int×Nat):=[(1,97),(2,98),(3,99)]
theorem zpo (I:Qu):kg 52 [] I [] (fun v f L=>L=[]/\∃ r,v= .map (some r)/\f r=some (Yg (Value.int .i64) rsV rsM)):=by intro g H w b;refine qe Tryz.func52 Tryz.ntmps52 b ?_;have a:=zJH I;refine zR (zA<|zN (zR<|Yb U U (fun d=>zV (QK (ps:=[(0,_)]) [_] zho U U)<|Wa (m:=[]) (ek:=Value.int .i64) (ev:=rsV) 97 zbT ZZ U U U U (by repeat (first | exact Upd.here | apply Upd.there | apply QN))<|zV (QK (ps:=[(0,_)]) [_] zho U U)<|Wa (m:=[(1,97)]) (ek:=Value.int .i64) (ev:=rsV) 98 zbT ZZ U U U U (by repeat (first | exact Upd.here | apply Upd.there | apply QN))<|zV (QK (ps:=[(0,_)]) [_] zho U U)<|Wa (m:=[(1,97),(2,98)]) (ek:=Value.int .i64) (ev:=rsV) 99 zbT ZZ U U U U (by repeat (first | exact Upd.here | apply Upd.there | apply QN))<|zM<|zA (zN (Qq<|QW .here (fun h h9 j=>?_))))));exact Zc U U (fun w b=>⟨_,h,[],U,a.trans h9,b,U,d,U,j⟩)
variable{A:Option Addr}{n c b:Nat}{v:List Int}
theorem zIB (a:Sl I 1 QF A n c v)(f:I b=some (.cells (Yv e).toArray 67 (0,0)))(h0:0<=e.locus)(h:e.locus.toNat<n):kf 54 [.slice A n c,Zm b] I (.bool (v.getD e.locus.toNat 0==e.code)):=by intro g H w j;refine qe Tryz.func54 Tryz.ntmps54 j ?_;refine zR (zA (zN (Qk<|ZW mixed kA<|zq (Qd U)<|zq (Qi U YQ)<|zq (Qc U Qr (fun hg=>by exact .imm f U))<|zq (zX Qt a) ?_)));exact zq (Qc U Qr (fun hg=>by exact zJA (k:=e.locus.toNat) a (QE (d:=0) a.len h) U))<|zq (Qi U Kw)<|zq (Qc U Qr (fun hg=>by exact .imm f U))<|zq (Qx U U U)<|zq (ZE U)<|ZX<|Qa (Qq<|zr U U kL)
variable{C:Option Addr}{j q:Nat}
theorem zrT (u:SlN I C j q rows)(Y:j<=100000)(O:I b=some (.cells (Yv e).toArray 67 (0,0)))(h0:0<=e.locus)(P:∀ r∈rows,e.locus.toNat<r.length):kf 100 [.slice C j q,.func (.func 54) #[] [Zm b].toArray] I (.int .i64 (KA (fun r:List Int=>r.getD e.locus.toNat 0==e.code) rows)):=by
 intro g H w Q;refine qe Tryz.func100 Tryz.ntmps100 Q ?_;have B:=u.len;obtain ⟨Z,u⟩:=u;have J:=u.1;refine zR<|zA<|zN<|Qk<|zR ?_;refine zM ?_;refine zQ QM ?_;refine zM<|zN<|Ql ?_;refine zU [(0,_),(1,_),(7,_)] (fun T N M E G d=>∃ (k:Nat),M=j-k/\E=(8,.int .i64 k)::T/\I=G/\N=d/\k<=j/\(rows.take k).any (fun r:List Int=>r.getD e.locus.toNat 0==e.code)=false) ?_ (h:=⟨0,U,U,U,U,jd _,U⟩);rintro M E G d ⟨k,rfl,rfl,rfl,rfl,W,s⟩;refine zR<|zC<|zN<|Qk ?_;refine zI ?_ ?_<;>intro y
 ·have o:k<j:=kd y;obtain ⟨x,v,V,F,K⟩:=u.at o;refine Qm (Qa (Qk (Ql (zR (zM<|zA<|zN (zR ?_))))));refine zM ?_;refine zM ?_;refine zM ?_;refine zV (zX QM J)<|zV (Qc U QA (fun hg=>by exact zJA J V U))<|YE (cap:=[Zm b]) (vs:=[_]) U U zB1 (zIB K O h0 (by rw [<-K.len];exact P _ (je F))) U U<|zN ?_
  refine zI ?_ ?_<;>intro a
  ·refine zR (zM<|zA (zN (Qq (Qn (Qb (Qb (Qn (Qb ?_))))))));exact zr U U (by rw [V5 s F a])
  exact Qm (Qg (Qa (Qh (zB<|zM (Qe<|zm (h:=⟨j-(k+1),kB,k+1,U,U,U,U,kB,Z3 F s a⟩))))))
 have f:j<=k:=kd y;exact Qy (Qf (Qf (Qj (Qa (zR (zA (zN<|Qq<|zr U U (by rw [VG B f s]))))))))
theorem zhZ (a:SlN I C j q rows)(h:j<=100000)(d:I b=some (.cells (Yv e).toArray 67 (0,0)))(h0:0<=e.locus)(f:∀ r∈rows,e.locus.toNat<r.length):kf 53 [.slice C j q,.func (.func 54) #[] [Zm b].toArray] I (.bool (zaY rows e)):=by
 intro g H w o;refine qe Tryz.func53 Tryz.ntmps53 o ?_;refine zR (zA<|zN (zR ?_));refine zM ?_;refine zM ?_;refine qcV (vs:=[_,_]) U zft (zrT a h d h0 f)<|zC<|zA (zN (Qq ?_))
 exact zr U U (by unfold zaY;rw [<-Ut])
variable{o:List Int}
theorem zdU (u:Sl I 1 QF A n c o)(G:n<=400000):kg 55 [.slice A n c] I [] (fun v B L=>B=I/\OwnS 3 1 v n (o.flatMap QF) L):=by
 intro g H w f;refine qe Tryz.func55 Tryz.ntmps55 f ?_;refine zR<|zA<|zN<|Qk<|zR ?_;refine zM ?_;refine zV (zbm U U Qt)<|zN ?_
 refine zI ?_ ?_<;>intro d
 ·have x:n=0:=OT fun h=>(by have:=u.base h;rw [this] at d;cases d);have E:=u.len;subst x;have y:=OI E;subst y;exact zR (zA (zN (Qq (Qb<|Zc U U (fun w f=>⟨_,I,_,U,zJH _,f,U,OwnS.nil⟩)))))
 refine Qm (Qa (zR<|zpb [] [] QS (fun s=>zM<|zpa (_) (o.flatMap QF) ([(s,_)]) U U QS OwnS.new (u.src QL) (YJ _) ?_)));intro J F a _;rw [Oi,Oj] at a;exact zA (zN (Qq<|Zc U U (fun w f=>⟨_,I,_,U,zJH _,f.subL Q3,U,a⟩)))
theorem zrQ {o:List Em}(u:Sl I 3 Yv A n c o)(G:n<=400000):kg 56 [.slice A n c] I [] (fun v B L=>B=I/\OwnS 67 3 v n (o.flatMap Yv) L):=by
 intro g H w f;refine qe Tryz.func56 Tryz.ntmps56 f ?_;refine zR<|zA<|zN<|Qk<|zR ?_;refine zM ?_;refine zV (zbm U U VN)<|zN ?_
 refine zI ?_ ?_<;>intro d
 ·have x:n=0:=OT fun h=>(by have:=u.base h;rw [this] at d;cases d);have E:=u.len;subst x;have y:=OI E;subst y;exact zR (zA (zN (Qq (Qb<|Zc U U (fun w f=>⟨_,I,_,U,zJH _,f,U,OwnS.nil⟩)))))
 refine Qm (Qa (zR<|zpb [] [] zwt (fun s=>zM<|zpa (_) (o.flatMap Yv) ([(s,_)]) U U zwt OwnS.new (u.src zcP) (zDa _) ?_)));intro J F a _;rw [Oi,Oj] at a;exact zA (zN (Qq<|Zc U U (fun w f=>⟨_,I,_,U,zJH _,f.subL Q3,U,a⟩)))
variable{s:List Int}
theorem ztk (J:Sl I 1 QF A n c o)(K:Sl I 1 QF C j q s)(hn:n<=100000):kf 106 [.slice A n c,.slice C j q] I (.bool (decide (o=s))):=by
 intro g H w hw;refine qe Tryz.func106 Tryz.ntmps106 hw ?_;have Z:=J.len;have a0:=K.len;refine zR<|zA<|zN<|Qk<|zR ?_;refine zM ?_;refine zQ Qt ?_;refine zM ?_;refine zQ Qt<|zC (zN ?_)
 refine zI ?_ ?_<;>intro d
 ·have G:o≠s:=fun e=>(by have h:=d;subst e;simp at h;omega);exact zR (zA (zN (Qq (Qb<|zr U U (by rw [jX G])))))
 have a1:n=j:=kd d;refine Qm (Qa (Qk (zR (zM<|zQ Qt ?_))));refine zM<|zN<|Ql ?_;refine zU [(0,_),(1,_),(12,_)] (fun T Y W E V B=>∃ (k:Nat),W=n-k/\E=(13,.int .i64 k)::T/\I=V/\Y=B/\k<=n/\o.take k=s.take k) ?_ (h:=⟨0,U,U,U,U,jd _,U⟩);rintro W E V B ⟨k,rfl,rfl,rfl,rfl,hk,a⟩;refine zR<|zC<|zN<|Qk ?_;refine zI ?_ ?_<;>intro f
 ·have F:k<n:=kd f;obtain ⟨x,P⟩:=J.at F;obtain ⟨y,M⟩:=K.at (show k<j by omega);refine Qm (Qa (Qk (Ql (zR (zM<|zA (zN (Qk<|ZW mixed kA<|zq (Qd U)<|zq (Qd U) ?_)))))));refine zq (zX Qt J) ?_;refine zq (Qc U Qr (fun hg=>by exact zJA J P U))<|zq (Qd U)<|zq (Qd U) ?_
  refine zq (zX Qt K) ?_;refine zq (Qc U Qr (fun hg=>by exact zJA K M U))<|zq (Qx U U U)<|ZX<|Qa ?_
  refine zI ?_ ?_<;>intro u
  ·have G:o≠s:=fun e=>(by subst e;rw [P] at M;cases M;simp at u);exact zR (zA (zN (Qq (Qn (Qb (Qb (Qn<|Qb<|zr U U (by rw [jX G]))))))))
  have Q:x=y:=(by simpa using u);exact Qm (Qg (Qa (Qh (zB<|zM (Qe<|zm (h:=⟨n-(k+1),kB,k+1,U,U,U,U,kB,by rw [jz,jz,a,P,M,Q]⟩))))))
 have O:n<=k:=kd f;have N:o=s:=(by rw [jr kB,jr kB] at a;exact a);exact Qy (Qf (Qf (Qj (Qa (zR (zA (zN<|Qq<|zr U U (by rw [jN N]))))))))
theorem zof (a:Sl I 1 QF A n c o)(d:Sl I 1 QF C j q s)(f:n<=100000):kf 63 [.slice A n c,.slice C j q] I (.bool (decide (o=s))):=by intro g H w h;refine qe Tryz.func63 Tryz.ntmps63 h ?_;refine zR (zA<|zN (zR ?_));refine zM ?_;refine zM ?_;refine qcV (vs:=[_,_]) U zz5 (ztk a d f) ?_;refine zA (zN (Qq ?_));exact zr U U kL
theorem zr4 {o:List (List Int)}(K:SlN I A n c o){s:List (List Int)}(M:SlN I C j q s)(hn:n<=100000)(P:∀ x∈o,x.length<=100000):kf 82 [.slice A n c,.slice C j q,.func (.func 63) #[] #[]] I (.bool (decide (o=s))):=by
 intro g H w hw;refine qe Tryz.func82 Tryz.ntmps82 hw ?_;have a0:=K.len;have a1:=M.len;obtain ⟨hs,K⟩:=K;have hH:=K.1;obtain ⟨gs,M⟩:=M;have Z:=M.1;refine zR<|zA<|zN<|Qk<|zR ?_;refine zM ?_;refine zQ QM ?_;refine zM ?_;refine zQ QM<|zC (zN ?_)
 refine zI ?_ ?_<;>intro d
 ·have J:o≠s:=fun e=>(by have h:=d;subst e;simp at h;omega);exact zR (zA (zN (Qq (Qb<|zr U U (by rw [jX J])))))
 have a2:n=j:=kd d;refine Qm (Qa (Qk (zR (zM<|zQ QM ?_))));refine zM<|zN<|Ql ?_;refine zU [(1,_),(2,_),(15,_),(16,_)] (fun T L0 mz E Y F=>∃ (k:Nat),mz=n-k/\E=(17,.int .i64 k)::T/\I=Y/\L0=F/\k<=n/\o.take k=s.take k) ?_ (h:=⟨0,U,U,U,U,jd _,U⟩);rintro mz E Y F ⟨k,rfl,rfl,rfl,rfl,hk,a⟩;refine zR<|zC<|zN<|Qk ?_;refine zI ?_ ?_<;>intro f
 ·have G:k<n:=kd f;obtain ⟨x,u,hx,Q,hP⟩:=K.at G;obtain ⟨y,v,hy,W,hQ⟩:=M.at (show k<j by omega);refine Qm (Qa (Qk (Ql (zR (zM<|zV (zX QM hH)<|zV (Qc U QA (fun hg=>by exact zJA hH hx U))<|zA<|zA<|zN (zR ?_))))));refine zM ?_;refine zM ?_;refine zV (zX QM Z)<|zV (Qc U QA (fun hg=>by exact zJA Z hy U))<|zA<|zN (zR ?_)
  refine zM ?_;refine zM ?_;refine zM ?_;refine qcV (vs:=[_,_]) U zvr (zof hP hQ (by rw [<-hP.len];exact P _ (je Q)))<|zO (zN ?_)
  refine zI ?_ ?_<;>intro B
  ·have J:o≠s:=fun e=>(by subst e;rw [Q] at W;cases W;simp at B);exact zR (zA (zN (Qq (Qn (Qb (Qb (Qn<|Qb<|zr U U (by rw [jX J]))))))))
  have V:u=v:=(by simpa using B);exact Qm (Qg (Qa (Qh (zB<|zM (Qe<|zm (h:=⟨n-(k+1),kB,k+1,U,U,U,U,kB,by rw [jz,jz,a,Q,W,V]⟩))))))
 have O:n<=k:=kd f;have N:o=s:=(by rw [jr kB,jr kB] at a;exact a);exact Qy (Qf (Qf (Qj (Qa (zR (zA (zN<|Qq<|zr U U (by rw [jN N]))))))))
theorem zdX {l:Nat}:0<(VP rows cl l).length:=by
 have d:zka rows cl l≠[]:=fun e=>by
  have h1:=zp6 (rows:=rows) (cl:=cl) (l:=l);have h2:=znu (rows:=rows) (l:=l);rw [e] at h1;simp at h1;omega
 obtain ⟨h1,_⟩:=XA d;rw [zca] at h1;obtain ⟨x,f,e⟩:=jt.1 h1;refine AZ (a:=x) ?_;unfold VP;rw [jP];exact ⟨f,by rw [e,zca];simp⟩
theorem zqY (h:(VP rows cl k).any (fun y=>(rows.getD 0 []).getD k 0==y)=true):(rows.getD 0 []).getD k 0=JN rows cl k:=by unfold JN;rw [jb h]
theorem zxN (h:(VP rows cl k).any (fun y=>(rows.getD 0 []).getD k 0==y)=false):(VP rows cl k).getD 0 0=JN rows cl k:=by unfold JN;rw [ja (by rw [h];decide)]
def zhY:Em:=⟨0,0,0⟩
variable{B:List Em}
theorem zet (d:B=lfK i k)(h:(decide ((B.length:Int)>0)&&((B.getD 0 zhY).locus==(k:Int)))=true):(B.getD 0 zhY).code=W8 rows cl i k/\B.drop 1=lfK i (k+1)/\0<B.length:=by
 cases B with
 | nil=>simp at h
 | cons e r=>
  have a:e.locus=(k:Int):=(by simpa using h);exact ⟨(zu5 d.symm a).symm,(zvv d.symm a).symm,by simp⟩
theorem zoA (d:B=lfK i k)(h:(decide ((B.length:Int)>0)&&((B.getD 0 zhY).locus==(k:Int)))=false):JN rows cl k=W8 rows cl i k/\B=lfK i (k+1):=by
 cases B with
 | nil=>exact ⟨(zt2 d.symm).symm,(zv5 d.symm).symm⟩
 | cons e r=>
  have a:¬e.locus=(k:Int):=by
   intro a;have h3:(e.locus==(k:Int))=false:=(by simpa using h);rw [a] at h3;simp at h3
  exact ⟨(zD7 d.symm a).symm,(zEd d.symm a).symm⟩
theorem XP :(Je rows cl i).length=(rows.getD 0 []).length:=by unfold Je;simp
end
end Go.Proofs.YtodakphagkommaaGreatDoor
section
namespace Go
def Exit.straight (Q:Exit->Act->World->Prop):Exit->Act->World->Prop
 | .goto _,_,_=>False
 | .normal,a,w=>Q .normal a w
 | .exit i,a,w=>Q (.exit i) a w
 | .ret,a,w=>Q .ret a w
 | .panic c,a,w=>Q (.panic c) a w
 | .outgrown,a,w=>Q .outgrown a w
section
variable {P:Program} {F:Fence} {n:Nat} {b:Frame} {a:Act} {k:List Item} {d:List Frame} {w:World} {Q:Exit->Act->World->Prop}
theorem JR {c:Code}:step P (lone (b.atR a (.code (.scope c)::k)) d w)= .next (lone (b.atR a (.code c:: .inScope c::k)) d w):=
 step_lone_go (by simp [stepG,stepG.exec,Frame.atR])
theorem zdV {c:Code}:step P (lone (b.atR a (.inScope c::k)) d w)= .next (lone (b.atR a k) d w):=
 step_lone_go (by simp [stepG,stepG.exec,Frame.atR])
theorem W2 {c:Code}(h:c.wpIn F n P (Exit.straight Q) a w):(Code.scope c).wpIn F n P Q a w:=by
 intro b k d s o q;have h0:(lone (b.atR a (.code (.scope c)::k)) d w).fenced P F:=fenced_calm o q U;obtain ⟨e,g,i,j,f⟩:=h b (.inScope c::k) d s o q
 cases e with
 | normal=>exact ⟨.normal,g,i,j,.head h0 JR (StepsIn.trans f (.one (fenced_calm o q U) zdV))⟩
 | exit u=>
  have t:exitTo u (.inScope c::k)=exitTo u k:=by simp [exitTo]
  exact ⟨_,g,i,j,fun x p=>.head h0 JR (f.1 x (by rw [t];exact p)),
   fun r p=>let ⟨k₁,h1,h2⟩:=f.2 r (by rw [t];exact p);⟨k₁,h1,.head h0 JR h2⟩⟩
 | goto l=>exact j.elim
 | ret=>exact ⟨_,g,i,j,.of_steps (.one h0 JR) f⟩
 | panic y=>exact ⟨_,g,i,j,.of_steps (.one h0 JR) f⟩
 | outgrown=>exact ⟨_,g,i,j,.of_steps (.one h0 JR) f⟩
end
end Go
namespace Go.Kn
open Go
section
variable {C:Cx} {Q:Exit->Act->World->Prop} {E:Env} {I:Qu} {b:Loc}
theorem zy9 {c:Code}(h:X C (Exit.straight Q) c E I b):X C Q (.scope c) E I b:=fun a w d f=>W2 (h a w d f)
theorem zxW {l:Nat}(h:At C Q .normal E I b):X C Q (.label l) E I b:=fun a w d f=>wpIn_label (h a w d f)
theorem KB (h:At C Q .ret E I b):At C (Exit.straight Q) .ret E I b:=h
theorem zfp {e:Exit}{loc':Loc}(h:b=loc')(a:At C Q e E I loc'):At C Q e E I b:=h ▸ a
variable {S:GS} {f:Option Nat} {i:TypeId} {g:String} {j:Array Edge} {n:Option (Nat×Bool)} {x y:Operand}
theorem XM {P:Program}{w:World}{t e d:Nat}{q:Option Addr}(a:P.underlying t=some (.pointer e)):(Op.equalIn (d+1) t (.pointer q) (.pointer none)).run P w= .ok q.isNone w:=by unfold Op.equalIn;rw [jg,jQ a];cases q<;>rfl
theorem XK {t A e:Nat}{q:Option Addr}(u:QB S E x=some (.pointer q))(z:QB S E y=some (.pointer none))(s:C.P.underlying t=some (.pointer e)):Q2 C S E I b ⟨f,.binOp .eql t x y A,i,g,j,n⟩ (.bool q.isNone):=
 .of kF fun a w l hg o _=>by
  have p:∀ h x y t,(eqGuard h t x y (.pointer q) (.pointer none)).run C.P w= .ok () w:=(by intros;unfold eqGuard;rename_i h _ _ _;cases h<;>rfl);have r:(Op.equal t (.pointer q) (.pointer none)).run C.P w= .ok q.isNone w:=XM (d:=9999) s;simp only [execOp,Qp l hg o u,Qp l hg o z,jg,p,Result.andThen,binOp,r,jp]
end
end Go.Kn
end
namespace Go.Proofs.YtodakphagkommaaGreatDoor
section
open Go Go.Kn Go.Proofs
theorem ZG:km 26 4:=.of kA
theorem zqF:km 67 3:=.of kA
theorem zno:kh 124 0 0:=.of kA
theorem Ye:kh 26 3 3:=.of kA
theorem Xo:kh 67 2 2:=.of kA
theorem zCQ:ke 51:=.of Tryz.func51 kA kA
theorem zFa:ke 52:=.of Tryz.func52 kA kA
theorem zn5:ke 55:=.of Tryz.func55 kA kA
theorem zCT:ke 56:=.of Tryz.func56 kA kA
theorem zCV:ke 97:=.of Tryz.func97 kA kA
theorem zFx:ke 98:=.of Tryz.func98 kA kA
theorem zD0:ke 99:=.of Tryz.func99 kA kA
theorem zfL:kq 26 #[(0,1),(1,1),(2,1),(3,1)] (.agg #[(.int .i64 0),(.slice none 0 0),(.slice none 0 0),(.slice none 0 0)]):=⟨.of kA,kA,fun w=>kA⟩
theorem zx0:kl 122:=.of kA
theorem zmt:ki 124 1:=.of kA
theorem Ko:ki 26 4:=.of kA
theorem zFQ:ki 67 3:=.of kA
theorem zui:kj 124 (.agg #[.nilFunc]):=.of kA
theorem zhF:kj 26 (.agg #[(.int .i64 0),(.slice none 0 0),(.slice none 0 0),(.slice none 0 0)]):=.of kA
theorem zHi:kj 67 (.agg #[(.int .i64 0),(.int .i64 0),(.int .i64 0)]):=.of kA
def zGx (I:Qu)(r:Nat):Prop:=I r=some (Yg (Value.int .i64) rsV rsM)
variable{I o:Qu}
theorem zGx.mono {r:Nat}(h:zGx I r)(a:HLe I o):zGx o r:=a _ _ h
theorem zsU (r:Int):(r≠1/\r≠2/\r≠3/\ZR rsM r=none)\/∃ f,ZR rsM r=some f/\ke f/\∀ (I:Qu) (a:Int) (b:Bool),kf f [.int .i64 a,.bool b] I (.bool (rsF r a b)):=by
 by_cases h1:r=1
 ·subst h1;exact .inr ⟨_,U,zCV,zHc⟩
 by_cases h2:r=2
 ·subst h2;exact .inr ⟨_,U,zFx,zG6⟩
 by_cases h3:r=3
 ·subst h3;exact .inr ⟨_,U,zD0,zGT⟩
 exact .inl ⟨h1,h2,h3,by unfold rsM;simp [ZR,Bu h1,Bu h2,Bu h3]⟩
variable{C J dv:Option Addr}{n c B D:Nat}{rows:List (List Int)}{es:List Em}
set_option maxHeartbeats 40000000 in
theorem zup    {xs:List Int} (hS:Sl I 1 QF C n c xs)    (z:SlN I J B D rows) (f4:B<=100000)  {n3 c3:Nat}  (p:Sl I 3 Yv dv n3 c3 es) (n7:n3<=100000) (n8:n<=100000) (i5:JZ I) (no:Int):kg 25 [.slice J B D,.int .i64 no,.slice C n c,.slice dv n3 c3] I [] (zGm rows no xs es):=by
 intro g H w hw;refine qe Tryz.func25 Tryz.ntmps25 hw ?_;have j:=zJH I;have j5:=z.len;subst j5;have i6:=p.len;subst i6;have e8:=z;obtain ⟨hs,hV⟩:=e8;have O:=hV.1;refine zR<|Qv zhF U U (fun a5=>zA<|zN (zR ?_))
 refine zM ?_;refine zM<|zpc [_,_] U zCQ .nil (zBv hS z f4 i5) ?_
 rintro o5 I1 L1 a6 ⟨rfl,n1,c4,rfl,y⟩;have hS:=hS.mono a6;have z:=z.mono a6;have hV:=hV.mono a6;have O:=O.mono a6;have p:=p.mono a6;have j:=j.trans a6;refine zM ?_;refine zE ?_;refine zE ?_;refine zA<|zA (zN (Qk (zR ?_)))
 refine zM<|zC (zN ?_)
 refine zI ?_ ?_<;>intro c7
 ·have t:YZ rows xs≠0:=(by simpa using c7);refine zR<|zV (Qo U ZG (fun hg=>by exact Cells.g0) U)<|zM<|zh Ko ?_
  refine zA<|zN<|Qq<|Qb ?_
  first
  | exact Zg U U U ZG (vs:=ZI 0 none 0 0 none 0 0 none 0 0) kI U (fun w hw=>⟨_,_,[],U,j,hw.drop,U,_,by rw [zgC t]<;>rfl,.inr ⟨by rw [zgC t];exact t,_,_,_,_,_,_,_,_,_,U,.nil,.nil,.nil⟩⟩)
 have t:YZ rows xs=0:=by simpa using c7
 have j8:Vc rows=0:=by cases Bn (Vc rows=0) with
  | inl h=>exact h
  | inr h=>exact absurd ((zdI h).1.symm.trans t) h
 obtain ⟨n9,o0,l5,k6⟩:=Js j8;obtain ⟨x0,v0,f7,k8,s⟩:=hV.at (k:=0) kB;have b7:rows.getD 0 []=v0:=QJ k8;have l4:=s.len;have n5:(rows.getD 0 []).length=v0.length:=(by rw [b7]);rw [zf3 t] at y ⊢;refine Qm (Qa (Qk (zR (zM<|zC ?_))));refine zM ?_;refine QI 2 U U U ?_;refine zJ (Qd U)<|zJ (Qx U U U) ?_
 refine Q5 U U U U U<|zN ?_
 refine zI ?_ ?_<;>intro u
 ·refine zR<|zV (Qo U ZG (fun hg=>by exact Cells.g0) U)<|zh Ko ?_
  refine zA<|zN<|Qq<|Qb ?_
  first
  | exact Zg U U U ZG (vs:=ZI 0 none 0 0 none 0 0 none 0 0) kI U (fun w hw=>⟨_,_,[],U,j,hw.drop,U,_,by rw [zm4 t u]<;>rfl,.inr ⟨by rw [zm4 t u];decide,_,_,_,_,_,_,_,_,_,U,.nil,.nil,.nil⟩⟩)
 refine Qm (Qa (zR<|zpc [] U zFa .nil (zpo _) ?_));rintro o6 I2 L2 a1 ⟨rfl,rm,rfl,a7⟩;have hS:=hS.mono a1;have z:=z.mono a1;have O:=O.mono a1;have p:=p.mono a1;have y:=y.mono a1;have s:=s.mono a1;have j:=j.trans a1;have a7:zGx I2 rm:=a7;refine zA<|zA (zN (Qk (Qk<|JB (loc':=(a5,.cells (ZI 0 none 0 0 none 0 0 none 0 0).toArray 26 (0,0))::[]) U<|Qh (zM<|zQ VN ?_))))
 refine zM<|zN<|Ql ?_;refine zU [(0,_),(1,_),(2,_),(3,_),(8,_),(10,_),(11,_),(39,_),(40,_)] (fun T L0 mz E o q=>∃ (k:Nat) (l:Int),mz=es.length-k/\E=(12,.int .i64 l)::(41,.int .i64 k)::T/\HLe I2 o/\(a5,.cells (ZI 0 none 0 0 none 0 0 none 0 0).toArray 26 (0,0))::[]=q/\k<=es.length/\ -1<=l/\Ku rows (rows.getD 0 []).length (-1) es=Ku rows (rows.getD 0 []).length l (es.drop k)) ?_ (h:=⟨0,(-1),U,U,zJH _,U,jd _,AC _,U⟩);rintro mz E J3 q ⟨k,l,rfl,rfl,hJ,rfl,hk,n6,G⟩;have hS:=hS.mono hJ;have z:=z.mono hJ;have O:=O.mono hJ;have p:=p.mono hJ;have y:=y.mono hJ;have s:=s.mono hJ;have a7:=a7.mono hJ;have j:=j.trans hJ;have b1:=hJ;refine zR<|zC<|zN<|Qk ?_;refine zI ?_ ?_<;>intro c8
 ·have N:k<es.length:=kd c8;obtain ⟨e,he⟩:=p.at N;refine Qm (Qa (Qk (Ql (zR<|zV (zX VN p)<|zV (Qo U zqF (fun hg=>by exact zJI p he) U)<|Qv zHi U U (fun a3=>zh zFQ<|zN (Qk ?_))))));obtain ⟨h1,h2,h3,c0⟩ | ⟨f,c0,i7,i4⟩:=zsU e.reason
  ·refine Qh (zM<|zF Xo ?_);refine zL Qr<|zV (zgT c0 (m:=rsM) (ek:=Value.int .i64) (ev:=rsV) (a:=e.reason) zbT ZZ U U (fun _=>.inl a7))<|zM ?_
   refine zE ?_;refine zE<|Qv zui U U (fun K=>zh zmt ?_)
   refine zA (zN (Qk (Qk<|Zk (b:=a3) (by repeat (first | exact Zb.here | apply Zb.there)) (fun I4 i8 x=>?_))));have j:=j.trans i8;have i:=zJH I4;refine U3 mixed<|zT 0 U (Qd U) i<|zT 1 U (ZT U) i<|zT 2 U (Qd U) i ?_
   refine zW 3 54 i ?_;refine zW 4 54 i ?_;refine zW 5 54 i ?_;refine zW 6 54 i<|zT 7 U (V6 U U U) i<|zT 8 U (Qd U) i ?_
   refine zW 9 60 i ?_;refine zW 10 60 i ?_;refine zW 11 60 i ?_;refine zW 12 60 i ?_;refine zW 13 60 i<|zT 14 U (V6 U U U) i<|zT 15 U (Qd U) i ?_
   refine zW 16 67 i ?_;refine zW 17 67 i ?_;refine zW 18 67 i ?_;refine zW 19 67 i ?_;refine zW 20 67 i ?_;refine zW 21 67 i ?_;refine zW 22 67 i ?_;refine zW 23 67 i ?_;refine zW 24 67 i<|zT 25 U (V6 U U U) i<|QH kA<|QP<|Qa ?_
   refine zI ?_ ?_<;>intro F
   ·have A:=zDf (rows:=rows) (m:=(rows.getD 0 []).length) (l:=l) h1 h2 h3;refine zR<|zV (Qo U ZG (fun hg=>by exact Cells.g1) U)<|zh Ko ?_
    refine zA (zN (Qq (Qb (Qn (Qb (Qb (Qn<|Qb ?_)))))))
    first
    | exact Zg U U U ZG (vs:=ZI 0 none 0 0 none 0 0 none 0 0) kI U (fun w hw=>⟨_,_,[],U,j,hw.drop,U,_,by rw [Xy t u (G.trans (VU he A))]<;>rfl,.inr ⟨by rw [Xy t u (G.trans (VU he A))];decide,_,_,_,_,_,_,_,_,_,U,.nil,.nil,.nil⟩⟩)
   cases F
  refine Qh (zM<|zF Xo ?_);refine zL Qr<|zV (zfH c0 (m:=rsM) (ek:=Value.int .i64) (ev:=rsV) (a:=e.reason) zbT ZZ U U (fun _=>.inl a7))<|zM ?_
  refine zE ?_;refine zE<|Qv zui U U (fun K=>zh zmt ?_)
  refine zA<|zN<|Qk<|Qk ?_;obtain q1 | ⟨q1,q2⟩ | ⟨q1,q2⟩:=zra rows ((rows.getD 0 []).length) l e
  ·refine Zk (b:=K) (by repeat (first | exact Zb.here | apply Zb.there)) (fun I5 i9 j3=>?_);have j:=j.trans i9;have V:QO I5 [] K 0 (.func (.func f) #[] #[]):=.imm j3 U;refine Zk (b:=a3) (by repeat (first | exact Zb.here | apply Zb.there)) (fun I6 j0 x=>?_);have j:=j.trans j0;have i:=zJH I6;refine U3 mixed<|zT 0 U (Qd U) i<|zT 1 U (ZT U) i<|zT 2 U (Qd U) i<|zw 3 54 U (Qi U YQ) i<|zw 4 54 U (Qc U Qr (fun hg=>by exact .imm x U)) i<|zw 5 54 U (Qd U) i<|zw 6 54 U (Qx U U U) i ?_
   rw [q1];refine zT 7 U (Z2 U U U) i<|zT 8 U (Qd U) i ?_
   refine zW 9 60 i ?_;refine zW 10 60 i ?_;refine zW 11 60 i ?_;refine zW 12 60 i ?_;refine zW 13 60 i<|zT 14 U (V6 U U U) i<|zT 15 U (Qd U) i ?_
   refine zW 16 67 i ?_;refine zW 17 67 i ?_;refine zW 18 67 i ?_;refine zW 19 67 i ?_;refine zW 20 67 i ?_;refine zW 21 67 i ?_;refine zW 22 67 i ?_;refine zW 23 67 i ?_;refine zW 24 67 i<|zT 25 U (V6 U U U) i<|QH kA<|QP<|Qa ?_
   refine zI ?_ ?_<;>intro F
   ·have A:=zDL (rows:=rows) (m:=(rows.getD 0 []).length) q1;refine zR<|zV (Qo U ZG (fun hg=>by exact Cells.g0) U)<|zh Ko ?_
    refine zA (zN (Qq (Qb (Qn (Qb (Qb (Qn<|Qb ?_)))))))
    first
    | exact Zg U U U ZG (vs:=ZI 0 none 0 0 none 0 0 none 0 0) kI U (fun w hw=>⟨_,_,[],U,j,hw.drop,U,_,by rw [Xy t u (G.trans (VU he A))]<;>rfl,.inr ⟨by rw [Xy t u (G.trans (VU he A))];decide,_,_,_,_,_,_,_,_,_,U,.nil,.nil,.nil⟩⟩)
   cases F
  ·refine Zk (b:=K) (by repeat (first | exact Zb.here | apply Zb.there)) (fun I7 j1 j4=>?_);have j:=j.trans j1;have V:QO I7 [] K 0 (.func (.func f) #[] #[]):=.imm j4 U;refine Zk (b:=a3) (by repeat (first | exact Zb.here | apply Zb.there)) (fun I8 j2 x=>?_);have j:=j.trans j2;have i:=zJH I8;refine U3 mixed<|zT 0 U (Qd U) i<|zT 1 U (ZT U) i<|zT 2 U (Qd U) i<|zw 3 54 U (Qi U YQ) i<|zw 4 54 U (Qc U Qr (fun hg=>by exact .imm x U)) i<|zw 5 54 U (Qd U) i<|zw 6 54 U (Qx U U U) i ?_
   rw [q1];refine zT 7 U (Z2 U U U) i<|zT 8 U (Qd U) i<|zw 9 60 U (Qi U YQ) i<|zw 10 60 U (Qc U Qr (fun hg=>by exact .imm x U)) i<|zw 11 60 U (Qd U) i<|zw 12 60 U (Zs U QM) i<|zw 13 60 U (Qx U U U) i ?_
   rw [q2];refine zT 14 U (Z2 U U U) i<|zT 15 U (Qd U) i ?_
   refine zW 16 67 i ?_;refine zW 17 67 i ?_;refine zW 18 67 i ?_;refine zW 19 67 i ?_;refine zW 20 67 i ?_;refine zW 21 67 i ?_;refine zW 22 67 i ?_;refine zW 23 67 i ?_;refine zW 24 67 i<|zT 25 U (V6 U U U) i<|QH kA<|QP<|Qa ?_
   refine zI ?_ ?_<;>intro F
   ·have A:=zC6 (rows:=rows) (l:=l) q2;refine zR<|zV (Qo U ZG (fun hg=>by exact Cells.g0) U)<|zh Ko ?_
    refine zA (zN (Qq (Qb (Qn (Qb (Qb (Qn<|Qb ?_)))))))
    first
    | exact Zg U U U ZG (vs:=ZI 0 none 0 0 none 0 0 none 0 0) kI U (fun w hw=>⟨_,_,[],U,j,hw.drop,U,_,by rw [Xy t u (G.trans (VU he A))]<;>rfl,.inr ⟨by rw [Xy t u (G.trans (VU he A))];decide,_,_,_,_,_,_,_,_,_,U,.nil,.nil,.nil⟩⟩)
   cases F
  have i1:0<=e.locus:=(by have h:=AI q1;omega);have j6:e.locus.toNat<(rows.getD 0 []).length:=(by have h:=AI q2;omega);have f1:∀ r∈rows,e.locus.toNat<r.length:=fun r hr=>(by rw [(k6 r hr).1];exact j6);refine Zk (b:=K) (by repeat (first | exact Zb.here | apply Zb.there)) (fun I9 d4 d7=>?_);have z:=z.mono d4;have j:=j.trans d4;have b1:=b1.trans d4;have V:QO I9 [] K 0 (.func (.func f) #[] #[]):=.imm d7 U;refine Zk (b:=a3) (by repeat (first | exact Zb.here | apply Zb.there)) (fun f8 a4 x=>?_);have z:=z.mono a4;have V:=V.mono a4;have j:=j.trans a4;have b1:=b1.trans a4;have i:=zJH f8;refine U3 mixed<|zT 0 U (Qd U) i<|zT 1 U (ZT U) i<|zT 2 U (Qd U) i<|zw 3 54 U (Qi U YQ) i<|zw 4 54 U (Qc U Qr (fun hg=>by exact .imm x U)) i<|zw 5 54 U (Qd U) i<|zw 6 54 U (Qx U U U) i ?_
  rw [q1];refine zT 7 U (Z2 U U U) i<|zT 8 U (Qd U) i<|zw 9 60 U (Qi U YQ) i<|zw 10 60 U (Qc U Qr (fun hg=>by exact .imm x U)) i<|zw 11 60 U (Qd U) i<|zw 12 60 U (Zs U QM) i<|zw 13 60 U (Qx U U U) i ?_
  rw [q2];refine zT 14 U (Z2 U U U) i<|zT 15 U (Qd U) i<|zw 16 67 U (Qi U zno) i<|zw 17 67 U (Qc U zx0 (fun hg=>by exact V.any)) i<|zw 18 67 U (Qi U Kw) i<|zw 19 67 U (Qc U Qr (fun hg=>by exact .imm x U)) i<|zw 20 67 U (Qd U) i<|zw 21 67 U (Zn (us:=[]) (vs:=[_]) U U) i<|qd 22 U<|QR (dj:=67) U U U<|qcV (vs:=[_,_]) U zwr (zhZ z f4 x i1 f1)<|Qe ?_
  refine zD i<|qd 23 U<|QR (dj:=67) U U U<|YE (cap:=[]) (vs:=[_,_]) U U i7 (i4 _ _ _) U U<|Qe<|zD i<|zw 24 67 U (ZT U) i<|zT 25 U (Z2 U U U) i<|QH kA<|QP<|Qa ?_
  refine zI ?_ ?_<;>intro F
  ·have A:=zux q1 q2 F;refine zR<|zV (Qo U ZG (fun hg=>by exact Cells.g0) U)<|zh Ko ?_
   refine zA (zN (Qq (Qb (Qn (Qb (Qb (Qn<|Qb ?_)))))))
   first
   | exact Zg U U U ZG (vs:=ZI 0 none 0 0 none 0 0 none 0 0) kI U (fun w hw=>⟨_,_,[],U,j,hw.drop,U,_,by rw [Xy t u (G.trans (VU he A))]<;>rfl,.inr ⟨by rw [Xy t u (G.trans (VU he A))];decide,_,_,_,_,_,_,_,_,_,U,.nil,.nil,.nil⟩⟩)
  have A:=zux q1 q2 F;refine Qm (Qa (Qh<|zF YQ ?_));refine zV (Qc U Qr (fun hg=>by exact .imm x U))<|zA (Qe (Qg (Qa (Qh<|zB<|zM (Qe ?_)))))
  exact zm (h:=⟨es.length-(k+1),kB,k+1,_,U,U,b1,U,kB,kB,by rw [G,zdh he A]⟩)
 have b8:es.length<=k:=kd c8;rw [zgi b8] at G;refine Qy (Qf (Qf (Qj (Qa (zR (zM<|zM<|zpc [_] U zn5 .nil (zdU hS kB) ?_))))));rintro l7 l9 m9 Y ⟨rfl,e5⟩;have O:=O.mono Y;have p:=p.mono Y;have y:=y.mono Y;have s:=s.mono Y;have j:=j.trans Y;obtain ⟨a8,c2,rfl⟩:=zaV e5;refine zM<|zpc [_] U zCT .nil (zrQ p kB) ?_
 rintro l8 m6 n0 Z ⟨rfl,e6⟩;have O:=O.mono Z;have p:=p.mono Z;have y:=y.mono Z;have s:=s.mono Z;have j:=j.trans Z;obtain ⟨a9,c5,rfl⟩:=zaV e6;refine zV (QK (ps:=[(0,_),(1,_),(2,_)]) [_,_,_,_] zfL U U) ?_;refine zh Ko ?_;refine zN (Qk<|zx4 e6 zcP (fun m7 a0 l0 l2 e1 W=>?_));cases e1;have O:=O.mono a0;have p:=p.mono a0;have y:=y.mono a0;have s:=s.mono a0;have j:=j.trans a0;refine zx4 e5 QL (fun f9 P l1 l3 e2 d3=>?_);cases e2;have O:=O.mono P;have p:=p.mono P;have y:=y.mono P;have s:=s.mono P;have W:=W.mono P;have j:=j.trans P;refine JB (loc':=[]++[(a5,.cells (ZI no a8 n c2 a9 es.length c5 none 0 0).toArray 26 (0,0))]) U<|Qh (zM<|zA (zN (Qk (zR ?_))))
 refine zM ?_;refine zQ QM ?_;refine zM<|zN<|Ql ?_;refine zU [(0,_),(8,_),(89,_),(90,_)] (fun T L0 mz E o q=>∃ (k:Nat) (lf:List Em) (d1:Option Addr) (dn:Nat) (dc:Nat) (a2:Option Addr) (b0:Nat) (L:Go.Kn.Loc),mz=(rows.getD 0 []).length-k/\E=(17,.slice d1 dn dc)::(91,.int .i64 k)::T/\HLe f9 o/\L++[(a5,.cells (ZI no a8 n c2 a9 es.length c5 a2 k b0).toArray 26 (0,0))]=q/\k<=(rows.getD 0 []).length/\lf=lfK es k/\Sl o 3 Yv d1 dn dc lf/\OwnS 3 1 (.slice a2 k b0) k (((List.range k).map (W8 rows xs es)).flatMap QF) L) ?_ (h:=⟨0,es,_,_,_,none,0,[],U,U,zJH _,U,jd _,U,p,OwnS.nil⟩);rintro mz E d9 q ⟨k,lf,d1,dn,dc,a2,b0,L,rfl,rfl,hJ,rfl,hk,c1,Q,hO⟩;have O:=O.mono hJ;have y:=y.mono hJ;have s:=s.mono hJ;have W:=W.mono hJ;have d3:=d3.mono hJ;have j:=j.trans hJ;have b2:=hJ;have e4:=Q.len;subst e4;refine zR<|zC<|zN<|Qk ?_;refine zI ?_ ?_<;>intro d0
 ·have N:k<(rows.getD 0 []).length:=(by have h:=Oq d0;omega);obtain ⟨o2,c6⟩:=id y;have e7:=c6.1;obtain ⟨rx,rv,k7,f5,hQ⟩:=c6.at N;have f6:=zkB t N;rw [f6] at f5;cases f5;have k0:=zdX (rows:=rows) (cl:=xs) (l:=k);have n4:=hQ.len;have j7:(VP rows xs k)[0]? =some ((VP rows xs k).getD 0 0):=QE U k0;have f0:v0[k]? =some (v0.getD k 0):=QE U (by rw [<-b7];exact N);have l6:=zh7 (rows:=rows) (l:=k);have o1:(VP rows xs k).length<=(stE rows k).length:=jE _ _;refine Qm (Qa (Qk (Ql (zR (zM<|zV (zX QM e7)<|zV (Qc U QA (fun hg=>by exact zJA e7 k7 U))<|zA<|zA<|zN (zR ?_))))));refine zM ?_;refine zV (zX Qt hQ)<|zV (Qc U Qr (fun hg=>by exact zJA hQ j7 U))<|zA (zN ?_)
  refine zY [(0,_),(8,_),(17,_),(18,_),(89,_),(90,_),(91,_)] (fun T L0 E o q=>∃ (b9:Int),E=(20,.int .i64 b9)::T/\HLe d9 o/\L++[(a5,.cells (ZI no a8 n c2 a9 es.length c5 a2 k b0).toArray 26 (0,0))]=q/\b9=JN rows xs k) ?_ ?_
  ·have b4:=zJH d9;refine zR<|zM ?_;refine zM ?_;refine zV (zX QM O)<|zV (Qc U QA (fun hg=>by exact zJA O f7 U))<|zM ?_
   refine zV (zX Qt s)<|zV (Qc U Qr (fun hg=>by exact zJA s f0 U))<|qcV (vs:=[_,_]) U zge (Ue hQ kB _)<|zN ?_
   refine zI ?_ ?_<;>intro b6
   ·refine Qh (zM<|zV (zX QM O)<|zV (Qc U QA (fun hg=>by exact zJA O f7 U))<|zM ?_);refine zV (zX Qt s)<|zV (Qc U Qr (fun hg=>by exact zJA s f0 U))<|zA (Qe ?_)
    first
    | exact Ya _ _ ⟨_,U,b4,U,by rw [<-zqY (rows:=rows) (cl:=xs) (k:=k) (by rw [b7];exact b6),b7]⟩ kc .refl
   refine Qm ?_
   first
   | exact Ya _ _ ⟨_,U,b4,U,zxN (by rw [b7];exact b6)⟩ kc .refl
  rintro E e0 q ⟨b9,rfl,b3,rfl,d7⟩;have Q:=Q.mono b3;have b2:=b2.trans b3;refine zY [(0,_),(8,_),(89,_),(90,_),(91,_)] (fun T L0 E o q=>∃ (r9:Int) (d8:List Em) (ea:Option Addr) (en ec:Nat),E=(17,.slice ea en ec)::(20,.int .i64 r9)::T/\HLe e0 o/\L++[(a5,.cells (ZI no a8 n c2 a9 es.length c5 a2 k b0).toArray 26 (0,0))]=q/\r9=W8 rows xs es k/\d8=lfK es (k+1)/\Sl o 3 Yv ea en ec d8) ?_ ?_
  ·have b5:=zJH e0;refine zR (zM<|zQ VN<|zC ?_);refine zM ?_;refine Qw 3 U U U ?_;refine zK (Qd U) ?_;refine zK (zX VN Q)<|zK (Qi U YQ) ?_
   refine zK (Qc U Qr (fun hg=>by exact zJJ (k:=0) Q (QE (d:=zhY) U (by first | omega | (simp [ZH] at hg;omega))) U))<|zK (Qd U) ?_
   refine zK (Qx U U U) ?_;refine QC U U U U U<|zN ?_
   refine zI ?_ ?_<;>intro M
   ·have f2:=(zet (rows:=rows) (cl:=xs) c1 M).2.2;refine ZW mixed kA<|zq (Qd U) ?_
    exact zq (zX VN Q)<|zq (Qi U Kw)<|zq (Qc U Qr (fun hg=>by exact zJJ (k:=0) Q (QE (d:=zhY) U (by first | omega | (simp [ZH] at hg;omega))) U))<|zq (Qd U)<|zq (Wu U U VN (fun hg=>kB))<|zq (ZE U)<|zq (ZE U)<|ZX<|Ya _ _ ⟨_,lf.drop 1,_,_,_,U,b5,U,(zet (rows:=rows) (cl:=xs) c1 M).1,(zet (rows:=rows) (cl:=xs) c1 M).2.1,Q.drop f2⟩ kc .refl
   exact Qm<|Ya _ _ ⟨_,lf,_,_,_,U,b5,U,d7.trans (zoA (rows:=rows) (cl:=xs) c1 M).1,(zoA (rows:=rows) (cl:=xs) c1 M).2,Q⟩ kc .refl
  rintro E m8 q ⟨r9,d8,ea,en,ec,rfl,d5,rfl,j9,f3,e3⟩;have b2:=b2.trans d5;refine Qh<|zF Ye ?_
  refine zV (Qc U QA (fun hg=>by (repeat (first | exact zJC U | apply zJB | apply zJD))))<|zM ?_
  refine zpb [(0,_)] [QF r9] QS (fun i0=>?_);refine zpa (_) ([r9].flatMap QF) (L) U U QS hO ⟨U,fun _=>U,by repeat (first | exact zJF | apply zJE | apply zJG)⟩ (YJ [r9]) ?_;intro v9 L9 d6 _;rw [<-jh] at d6;obtain ⟨o3,o4,rfl⟩:=zaV d6;refine zF Ye ?_;refine zS Ze<|Qe (Qg (Qa (Qh (zB<|zM (Qe ?_)))))
  exact zm (h:=⟨(rows.getD 0 []).length-(k+1),kB,k+1,_,_,_,_,_,_,_,U,U,b2,U,kB,f3,e3,by rw [KE,<-j9];exact d6⟩)
 have b8:(rows.getD 0 []).length<=k:=(by have h:=AI d0;omega);obtain rfl:k=(rows.getD 0 []).length:=kB;refine Qy (Qf (Qf (Qj (Qa (zR<|zV (Qo U ZG (fun hg=>by (repeat (first | exact zJF | apply zJE | apply zJG))) U)<|zh Ko ?_)))));refine zA<|zN<|Qq ?_
 first
 | exact Zg U U U ZG (vs:=ZI no a8 n c2 a9 es.length c5 a2 (rows.getD 0 []).length b0) kG U (fun w hw=>by obtain ⟨I9,n2,c9,d2,i2,e9,i3⟩:=OwnS.freeze (R:=[_]) hO QL kC hw;cases e9;exact ⟨_,I9,[],U,j.trans d2,i2.drop,U,_,by rw [zjU t u G]<;>rfl,.inl ⟨zjU t u G,a8,_,_,a9,_,_,a2,_,_,U,d3.mono d2,W.mono d2,i3⟩⟩)
def K8 (rows:List (List Int))(no:Int)(cl:List Int)(es:List Em)(rd:List Int):Int:=if WK rows no cl es≠0 then WK rows no cl es else if rd=Je rows cl es then 0 else 430
variable{no:Int}{cl rd:List Int}
theorem zAF (h:WK rows no cl es≠0):K8 rows no cl es rd=WK rows no cl es:=by unfold K8;rw [jb h]
theorem zDI (h:WK rows no cl es=0)(h2:rd≠Je rows cl es):K8 rows no cl es rd=430:=by unfold K8;rw [ja kB,ja h2]
theorem ztu (h:WK rows no cl es=0)(h2:rd=Je rows cl es):K8 rows no cl es rd=0:=by unfold K8;rw [ja kB,jb h2]
theorem zgb (h:K8 rows no cl es rd=0):WK rows no cl es=0/\rd=Je rows cl es:=by
 unfold K8 at h;split at h
 ·rename_i h1;exact absurd h h1
 ·rename_i h1;split at h
  ·rename_i h2;exact ⟨kB,h2⟩
  ·cases h
theorem zmC (h:WK rows no cl es=0):YZ rows cl=0:=by
 unfold WK at h;split at h
 ·rename_i h1;exact absurd h h1
 ·rename_i h1;omega
theorem Kb (h:YZ rows cl=0):Vc rows=0:=by
 cases Bn (Vc rows=0) with
 | inl e=>exact e
 | inr e=>exact absurd ((zdI e).1.symm.trans h) e
variable{v:Value}
theorem zGm.opn {L:Go.Kn.Loc}(h:zGm rows no cl es v o L):L=[]/\∃ (d:Int) (a:List Int) (b:List Em) (f:List Int) (g:Option Addr) (q l:Nat) (i:Option Addr) (B D:Nat) (j:Option Addr) (r p:Nat),
  v= .tuple #[.agg (ZI d g q l i B D j r p).toArray,.int .i64 (WK rows no cl es)]/\Sl o 1 QF g q l a/\Sl o 3 Yv i B D b/\Sl o 1 QF j r p f/\
  (WK rows no cl es=0->d=no/\a=cl/\b=es/\f=Je rows cl es)/\(WK rows no cl es≠0->d=0/\a=[]/\b=[]/\f=[]):=by
 obtain ⟨rfl,s,rfl,h⟩:=h;rcases h with ⟨h0,g,q,l,i,B,D,j,r,p,rfl,h1,h2,h3⟩ | ⟨h0,g,q,l,i,B,D,j,r,p,rfl,h1,h2,h3⟩
 ·exact ⟨U,no,cl,es,Je rows cl es,g,q,l,i,B,D,j,r,p,U,h1,h2,h3,fun _=>⟨U,U,U,U⟩,fun h=>absurd h0 h⟩
 ·exact ⟨U,0,[],[],[],g,q,l,i,B,D,j,r,p,U,h1,h2,h3,fun h=>absurd h h0,fun _=>⟨U,U,U,U⟩⟩
def nzF (row:List Int)(k:Nat):Nat:=((row.take k).filter fun c=>c != 0).length
variable{row:List Int}{k:Nat}
theorem zeY {c:Int}(h:row[k]? =some c)(a:(c==0)=false):nzF row (k+1)=nzF row k+1:=by unfold nzF;rw [jz,h,jH,jj];have h2:(c != 0)=true:=(by simpa [bne] using a);simp [h2]
theorem ziQ {c:Int}(h:row[k]? =some c)(a:(c==0)=true):nzF row (k+1)=nzF row k:=by unfold nzF;rw [jz,h,jH,jj];have h2:(c != 0)=false:=(by simpa [bne] using a);simp [h2]
def zGz (ws:List Wr)(rows:List (List Int)):Prop:=∀ (i:Nat) (x:Wr) (row:List Int),ws[i]? =some x->rows[i]? =some row->∀ k,k<row.length->row.getD k 0≠0->nzF row k<x.rs.length
structure SgS where
 ex:Option Sg
 so:Option Sg
 many:Nat
 lost:Bool
def orS (a:Option Sg)(b:Sg):Option Sg:=match a with | none=>some b | some x=>some x
def zhd (code:Int)(s:SgS)(c:Int)(y:Rd):SgS:=
 if (c==0)=true then s else if y.lost=true then {s with lost:=true} else
 ⟨if (s.ex.isNone&&c==code)=true then some y.sg else s.ex,orS s.so y.sg,s.many+1,s.lost⟩
def zcw:Rd:=⟨false,za5⟩
def ydF (ws:List Wr)(rows:List (List Int))(i k:Nat):Rd:=((ws[i]?).map (·.rs)).getD [] |>.getD (nzF (rows.getD i []) k) zcw
def sgK (ws:List Wr)(rows:List (List Int))(k:Nat)(code:Int):Nat->SgS
 | 0=>⟨none,none,0,false⟩
 | i+1=>zhd code (sgK ws rows k code i) ((rows.getD i []).getD k 0) (ydF ws rows i k)
inductive Out | err | skip | sg (x:Sg)
def XY (k:Nat)(code:Int)(y:Sg)(m:Bool):Sg:={UU code with id:=(k:Int),bar:=y.bar,mark:=if m=true then 3 else y.mark,fn:=y.fn,fd:=y.fd,tn:=y.tn,td:=y.td}
def zaB (ws:List Wr)(rows:List (List Int))(k:Nat)(code:Int):Out:=
 if (code==0)=true then .skip else
 match (sgK ws rows k code rows.length).ex.or (sgK ws rows k code rows.length).so with
 | none=>.err
 | some y=>if (Vb code != 0)=true then .err else .sg (XY k code y ((decide ((ws.length:Int)>1)&&((sgK ws rows k code rows.length).many:Int)==1)&& !(sgK ws rows k code rows.length).lost))
def Ww (ws:List Wr)(rows:List (List Int))(rd:List Int):Nat->Option (List Sg)
 | 0=>some []
 | k+1=>match Ww ws rows rd k with
  | none=>none
  | some l=>match zaB ws rows k (rd.getD k 0) with
   | .err=>none
   | .skip=>some l
   | .sg x=>some (l++[x])
theorem zdM {a : List Wr} {rows : List (List Int)} {rd : List Int} {k : Nat} (h : Ww a rows rd k = none) : ∀ j, k <= j -> Ww a rows rd j = none
  | 0, hj => by obtain rfl : k = 0 := by omega
                cases h
  | j + 1, hj => by
    by_cases e : k = j + 1
    · subst e; exact h
    · show (match Ww a rows rd j with | none => none | some l => match zaB a rows j (rd.getD j 0) with | .err => none | .skip => some l | .sg x => some (l ++ [x])) = none
      rw [zdM h j kB]
variable{ws:List Wr}
theorem znb {l:List Sg}(h:Ww ws rows rd k=some l)(b:zaB ws rows k (rd.getD k 0)= .err)(a:k<rd.length):Ww ws rows rd rd.length=none:=by refine zdM (k:=k+1) ?_ _ a;show (match Ww ws rows rd k with | none=>none | some l=>match zaB ws rows k (rd.getD k 0) with | .err=>none | .skip=>some l | .sg x=>some (l++[x]))=none;rw [h];simp only;rw [b]
theorem zj0 {l:List Sg}(h:Ww ws rows rd k=some l)(a:zaB ws rows k (rd.getD k 0)= .skip):Ww ws rows rd (k+1)=some l:=by show (match Ww ws rows rd k with | none=>none | some l=>match zaB ws rows k (rd.getD k 0) with | .err=>none | .skip=>some l | .sg x=>some (l++[x]))=_;rw [h];simp only;rw [a]
variable{x:Sg}
theorem zu1 {l:List Sg}(h:Ww ws rows rd k=some l)(a:zaB ws rows k (rd.getD k 0)= .sg x):Ww ws rows rd (k+1)=some (l++[x]):=by show (match Ww ws rows rd k with | none=>none | some l=>match zaB ws rows k (rd.getD k 0) with | .err=>none | .skip=>some l | .sg x=>some (l++[x]))=_;rw [h];simp only;rw [a]
def JD (ws:List Wr)(rows:List (List Int))(no:Int)(cl:List Int)(es:List Em)(rd:List Int):Int:=
 if UV ws≠0 then UV ws else if K9 ws≠rows then 430 else if K8 rows no cl es rd≠0 then K8 rows no cl es rd else if (Ww ws rows rd rd.length).isNone=true then 430 else 0
def Yl (ws:List Wr)(rows:List (List Int))(no:Int)(cl:List Int)(es:List Em)(rd:List Int):List Sg:=
 if JD ws rows no cl es rd≠0 then [] else (Ww ws rows rd rd.length).getD []
theorem zb3 (h:JD ws rows no cl es rd≠0):Yl ws rows no cl es rd=[]:=by unfold Yl;rw [jb h]
theorem zCv (h:UV ws≠0):JD ws rows no cl es rd=UV ws:=by unfold JD;rw [jb h]
theorem zF2 (h:UV ws=0)(h2:K9 ws≠rows):JD ws rows no cl es rd=430:=by unfold JD;rw [ja kB,jb h2]
theorem zDO (h:UV ws=0)(h2:K9 ws=rows)(h3:K8 rows no cl es rd≠0):JD ws rows no cl es rd=K8 rows no cl es rd:=by unfold JD;rw [ja kB,ja (fun e=>e h2),jb h3]
theorem zFF (h:UV ws=0)(h2:K9 ws=rows)(h3:K8 rows no cl es rd=0)(h4:Ww ws rows rd rd.length=none):JD ws rows no cl es rd=430:=by unfold JD;rw [ja kB,ja (fun e=>e h2),ja kB,h4];rfl
theorem zDb {l:List Sg}(h:UV ws=0)(h2:K9 ws=rows)(h3:K8 rows no cl es rd=0)(h4:Ww ws rows rd rd.length=some l):JD ws rows no cl es rd=0/\Yl ws rows no cl es rd=l:=by have e:JD ws rows no cl es rd=0:=(by unfold JD;rw [ja kB,ja (fun e=>e h2),ja kB,h4];rfl);exact ⟨e,by unfold Yl;rw [ja kB,h4];rfl⟩
theorem zA8 (_h:UV ws=0):(WF ws != 0||ws.length==0)=false\/K9 ws=[]:=by
 cases e:(WF ws != 0||ws.length==0) with
 | false=>exact .inl U
 | true=>exact .inr (znA e).2
theorem zjo:kh 26 0 0:=.of kA
theorem zeI:kh 26 1 1:=.of kA
theorem UB:kh 26 2 2:=.of kA
theorem zpG:ke 25:=.of Tryz.func25 kA kA
theorem zcn:kl 24:=.of kA
variable{V W P:Option Addr}{M Y N Z O Q:Nat}
theorem zme (u:SlN I J B D rows)(G:B<=100000){l:List Int}(y:Sl I 1 QF V M Y l)(z:Sl I 3 Yv W N Z es)(i:Sl I 1 QF P O Q rd)(A:M<=100000)(E:N<=100000)(F:O<=100000)(no:Int)(q:JZ I):kf 30 [.slice J B D,.agg (ZI no V M Y W N Z P O Q).toArray] I (.int .i64 (K8 rows no l es rd)):=by
 intro g H w hw;refine qe Tryz.func30 Tryz.ntmps30 hw ?_;have b:=zJH I;refine zR<|QU U U U (fun K=>zA<|zN (zR ?_))
 refine zM<|zF zjo ?_
 refine zL Qr<|zF zeI ?_
 refine zL QA<|zF UB ?_
 refine zL zcn<|zpc [_,_,_,_] U zpG .nil (zup y u G z E A q no) ?_
 rintro b0 I1 L1 p s;have i:=i.mono p;have b:=b.trans p;obtain ⟨rfl,a8,a0,a4,a9,a1,q1,c1,a2,q2,c9,a3,q3,c3,rfl,a5,a6,r,t,a7⟩:=s.opn;refine zM ?_;refine zE ?_;refine zE<|Qv zhF U U (fun T=>zh Ko ?_)
 refine zA<|zN<|Qk<|zR ?_;refine zM<|zC (zN ?_)
 refine zI ?_ ?_<;>intro d
 ·have a:WK rows no l es≠0:=(by have h:=d;simpa using h);refine zR (zM<|zA (zN (Qq (Qb ?_))))
  first
  | exact zp b U U (by rw [zAF a]<;>rfl)
 have a:WK rows no l es=0:=(by have h:=d;simpa using h);obtain ⟨-, -, -,rfl⟩:=t a;refine Qm (Qa (Qk (zR<|zF Ye ?_)));refine zL QA<|zF Ye ?_
 refine zL QA<|qcV (vs:=[_,_]) U zvr (zof i r F)<|zO (zN ?_)
 refine zI ?_ ?_<;>intro f
 ·have j:rd≠Je rows l es:=fun e=>(by have h:=f;rw [jN e] at h;cases h);refine zR<|zA<|zN<|Qq<|Qb ?_
  first
  | exact zp b U U (by rw [zDI a j]<;>rfl)
 have j:rd=Je rows l es:=OT fun e=>(by have h:=f;rw [jX e] at h;cases h);refine Qm<|Qa<|zR<|zA<|zN<|Qq ?_
 first
 | exact zp b U U (by rw [ztu a j]<;>rfl)
theorem zcv :(K9 ws).length<=ws.length/\∀ x∈K9 ws,x.length<=256:=by
 unfold K9;split
 ·exact ⟨jd _,fun x a=>by cases a⟩
 ·rename_i h;refine ⟨by simp,fun x a=>?_⟩;obtain ⟨i,_,rfl⟩:=jt.1 a;unfold zc0;rw [Z1];exact Nat.le_of_not_gt fun h2=>h (.inr h2)
theorem zkg (h:K9 ws=rows)(h0:0<rows.length):rows.length=ws.length:=by
 subst h;unfold K9 at h0 ⊢;split
 ·rename_i h;rw [jb h] at h0;simp at h0
 ·simp
theorem zHH :nzF row k<=k:=by unfold nzF;have h1:=jE (fun c:Int=>c != 0) (row.take k);have h2:=Bh k row;omega
theorem zcW (a:List Sg):YY (a.flatMap YA)=true:=YM (fun _=>U) a
def atN (rows:List (List Int))(k i:Nat):Nat->Nat:=fun j=>if j<i then nzF (rows.getD j []) (k+1) else nzF (rows.getD j []) k
variable{i:Nat}
theorem zjp :Vw (atN rows k i) i=((nzF (rows.getD i []) k:Nat):Int):=by unfold Vw atN;rw [ja kB]
theorem ztn :(fun _=>0)=atN rows 0 0:=by funext j;unfold atN;rw [ja kB];rfl
theorem zxe {v:Nat}(h:nzF (rows.getD i []) (k+1)=v):Ky (atN rows k i) i v=atN rows k (i+1):=by
 funext j;by_cases e:j=i
 ·subst e;rw [V0];unfold atN;rw [jb kB,h]
 ·rw [KF e];unfold atN;by_cases h2:j<i
  ·rw [jb h2,jb kB]
  ·rw [ja h2,ja kB]
theorem zCu (h:nzF (rows.getD i []) (k+1)=nzF (rows.getD i []) k):atN rows k i=atN rows k (i+1):=by
 funext j;unfold atN;by_cases e:j=i
 ·subst e;rw [ja kB,jb kB,h]
 ·by_cases h2:j<i
  ·rw [jb h2,jb kB]
  ·rw [ja h2,ja kB]
theorem zsp :Vk n (Vw (atN rows k n))=Vk n (Vw (atN rows (k+1) 0)):=by unfold Vk;refine OK fun j a=>?_;unfold Vw atN;rw [jb (jq.1 a),ja kB]
variable{code:Int}
theorem zyF (h:((rows.getD i []).getD k 0==0)=true):sgK ws rows k code i=sgK ws rows k code (i+1):=by show _=zhd code (sgK ws rows k code i) ((rows.getD i []).getD k 0) (ydF ws rows i k);unfold zhd;rw [jb h]
theorem zxc {s:SgS}(b:s=sgK ws rows k code i)(h:((rows.getD i []).getD k 0==0)=false)(a:(ydF ws rows i k).lost=true):{s with lost:=true}=sgK ws rows k code (i+1):=by show _=zhd code (sgK ws rows k code i) ((rows.getD i []).getD k 0) (ydF ws rows i k);unfold zhd;rw [ja (by rw [h];decide),jb a,b]
theorem zB7 {s:SgS}{y:Rd}(d:s=sgK ws rows k code i)(h:((rows.getD i []).getD k 0==0)=false)(f:ydF ws rows i k=y)(b:y.lost=false)(a:(s.ex.isNone&&(rows.getD i []).getD k 0==code)=true):
  (⟨some y.sg,orS s.so y.sg,s.many+1,s.lost⟩:SgS)=sgK ws rows k code (i+1):=by
 show _=zhd code (sgK ws rows k code i) ((rows.getD i []).getD k 0) (ydF ws rows i k);unfold zhd;rw [ja (by rw [h];decide),f,ja (by rw [b];decide),<-d,jb a]
theorem zHe {s:SgS}{y:Rd}(d:s=sgK ws rows k code i)(h:((rows.getD i []).getD k 0==0)=false)(f:ydF ws rows i k=y)(b:y.lost=false)(a:(s.ex.isNone&&(rows.getD i []).getD k 0==code)=false):
  (⟨s.ex,orS s.so y.sg,s.many+1,s.lost⟩:SgS)=sgK ws rows k code (i+1):=by
 show _=zhd code (sgK ws rows k code i) ((rows.getD i []).getD k 0) (ydF ws rows i k);unfold zhd;rw [ja (by rw [h];decide),f,ja (by rw [b];decide),<-d,ja (by rw [a];decide)]
theorem zph {ws:List Wr}{rows:List (List Int)}{k:Nat}{code:Int}:∀ i,(sgK ws rows k code i).many<=i
 | 0=>jn _
 | i+1=>by
  have ih:=zph (ws:=ws) (rows:=rows) (k:=k) (code:=code) i;show (zhd code (sgK ws rows k code i) ((rows.getD i []).getD k 0) (ydF ws rows i k)).many<=i+1;unfold zhd;split
  ·omega
  ·split
   ·show (sgK ws rows k code i).many<=i+1;omega
   ·show (sgK ws rows k code i).many+1<=i+1;omega
theorem zta (h:(code==0)=true):zaB ws rows k code= .skip:=by unfold zaB;rw [jb h]
theorem zsK {s:SgS}(h:(code==0)=false)(b:s=sgK ws rows k code rows.length)(a:s.ex.or s.so=none):zaB ws rows k code= .err:=by subst b;unfold zaB;rw [ja (by rw [h];decide),a]
variable{y:Sg}
theorem zBl {s:SgS}(h:(code==0)=false)(d:s=sgK ws rows k code rows.length)(b:s.ex.or s.so=some y)(a:(Vb code != 0)=true):zaB ws rows k code= .err:=by subst d;unfold zaB;rw [ja (by rw [h];decide),b];simp only;rw [jb a]
theorem zEI {s:SgS}(h:(code==0)=false)(d:s=sgK ws rows k code rows.length)(b:s.ex.or s.so=some y)(a:(Vb code != 0)=false):
  zaB ws rows k code= .sg (XY k code y ((decide ((ws.length:Int)>1)&&(s.many:Int)==1)&& !s.lost)):=by
 subst d;unfold zaB;rw [ja (by rw [h];decide),b];simp only;rw [ja (by rw [a];decide)]
theorem zCi {x:Wr}{y:Rd}(a:ws[i]? =some x)(b:x.rs[nzF (rows.getD i []) k]? =some y):ydF ws rows i k=y:=by unfold ydF;rw [a];exact QJ b
variable{b t K:Nat}{vs:List Value}{fz:Nat×Nat}
theorem Cells.two {u d:Value}{l:Go.Kn.Loc}(h:I b=some (.cells vs.toArray t fz))(h0:vs[K]? =some u)(h1:vs[K+1]? =some d):Cells I l b K [u,d]:=fun j v a=>by
 rcases j with _ | _ | j
 ·cases a;exact .imm h (by rw [Ve];simpa using h0)
 ·cases a;exact .imm h (by rw [Ve];simpa using h1)
 ·simp at a
def Jj (t:Nat)(I:Qu)(p:Option Addr)(s:Option Sg):Prop:=match s with
 | none=>p=none
 | some x=>∃ b l,p=some ⟨b,1,none⟩/\I b=some (.cells (Kf ⟨l,x⟩).toArray t (0,0))
variable{p:Option Addr}{s:Option Sg}
theorem Jj.mono (h:Jj t I p s)(a:HLe I o):Jj t o p s:=by
 cases s with
 | none=>exact h
 | some x=>obtain ⟨b,l,h1,h2⟩:=h;exact ⟨b,l,h1,a _ _ h2⟩
theorem Jj.isNone (h:Jj t I p s):p.isNone=s.isNone:=by
 cases s with
 | none=>have h:p=none:=h;subst h;rfl
 | some x=>obtain ⟨b,l,rfl,h2⟩:=h;rfl
theorem Jj.new {y:Rd}(h:I b=some (.cells (Kf y).toArray t (0,0))):Jj t I (some ⟨b,0+1,none⟩) (some y.sg):=⟨b,y.lost,U,h⟩
variable{q:Option Addr}
theorem Jj.orN (h:Jj t I p s)(a:p.isNone=true)(d:Jj t I q (some y)):Jj t I q (orS s y):=by
 have:=h.isNone;rw [a] at this
 cases s with
 | none=>exact d
 | some x=>cases this
theorem Jj.orS (h:Jj t I p s)(a:p.isNone=false):Jj t I p (orS s y):=by
 have:=h.isNone;rw [a] at this
 cases s with
 | none=>cases this
 | some x=>exact h
variable{u:Option Sg}
theorem Jj.orY (h:Jj t I p s)(a:p.isNone=true)(d:Jj t I q u):Jj t I q (s.or u):=by
 have:=h.isNone;rw [a] at this
 cases s with
 | none=>exact d
 | some x=>cases this
theorem Jj.orX (h:Jj t I p s)(a:p.isNone=false):Jj t I p (s.or u):=by
 have:=h.isNone;rw [a] at this
 cases s with
 | none=>cases this
 | some x=>exact h
theorem Jj.at (h:Jj t I p s)(a:p.isNone=false):∃ x b l,s=some x/\p=some ⟨b,1,none⟩/\I b=some (.cells (Kf ⟨l,x⟩).toArray t (0,0)):=by
 have:=h.isNone;rw [a] at this
 cases s with
 | none=>cases this
 | some x=>obtain ⟨b,l,h1,h2⟩:=h;exact ⟨x,b,l,U,h1,h2⟩
theorem Jj.none (h:Jj t I p s)(a:p.isNone=true):s=Option.none:=by
 have:=h.isNone;rw [a] at this
 cases s with
 | none=>rfl
 | some x=>cases this
theorem zu8:ke 27:=.of Tryz.func27 kA kA
theorem zuh:ke 30:=.of Tryz.func30 kA kA
theorem zCa:ke 82:=.of Tryz.func82 kA kA
theorem UP:ki 52 2:=.of kA
theorem zek:Tryz.prog.underlying 155=some (.pointer 54):=kA
def zt5 (ws:List Wr)(rows:List (List Int))(no:Int)(cl:List Int)(es:List Em)(rd:List Int):Value->Qu->Go.Kn.Loc->Prop:=fun v o L=>L=[]/\∃ C c,v= .tuple #[.slice C (Yl ws rows no cl es rd).length c,.int .i64 (JD ws rows no cl es rd)]/\Sl o 14 YA C (Yl ws rows no cl es rd).length c (Yl ws rows no cl es rd)
variable{e:Int}
theorem zt5.bad (h:JD ws rows no cl es rd=e)(a:e≠0):zt5 ws rows no cl es rd (.tuple #[.slice none 0 0,.int .i64 e]) o []:=by have h0:=zb3 (show JD ws rows no cl es rd≠0 by rw [h];exact a);exact ⟨U,none,0,by rw [h0,h];rfl,by rw [h0];exact .nil⟩
set_option maxHeartbeats 40000000 in
theorem w_Signs     (i1:SlW I C n c ws) (hn:n<=100000)    (b2:SlN I J B D rows) (l1:B<=100000)       {xs:List Int}   (f0:Sl I 1 QF V M Y xs) (f1:Sl I 3 Yv W N Z es) (A:Sl I 1 QF P O Q rd) (k6:M<=100000) (k7:N<=100000) (k8:O<=100000) (no:Int) (e6:JZ I) (f3:K9 ws=rows->zGz ws rows):kg 44 [.slice C n c,.slice J B D,.agg (ZI no V M Y W N Z P O Q).toArray] I [] (zt5 ws rows no xs es rd):=by
 intro g H w hw;refine qe Tryz.func44 Tryz.ntmps44 hw ?_;have z:=zJH I;obtain ⟨n0,hW⟩:=id i1;have hH:=hW.1;have j9:=hW.len;subst j9;have j8:=b2.len;subst j8;have i2:=A.len;subst i2;refine zR<|QU U U U (fun f9=>zA<|zA (zN<|zy9<|zR (zM<|zpc [_] U zu8 .nil (zmB i1 hn) ?_)))
 rintro n8 I1 L1 a2 ⟨rfl,m7,c8,rfl,j1⟩;have hW:=hW.mono a2;have hH:=hH.mono a2;have b2:=b2.mono a2;have f0:=f0.mono a2;have f1:=f1.mono a2;have A:=A.mono a2;have e6:=e6.mono a2;have z:=z.trans a2;refine zM ?_;refine zE ?_;refine zE ?_;refine zA<|zA (zN (Qk (zR ?_)))
 refine zM<|zC (zN ?_)
 refine zI ?_ ?_<;>intro d3
 ·have a4:UV ws≠0:=(by have h:=d3;simpa using h);exact zR (zM<|zA<|zA (zN (Qq (Qb<|KB<|QY U U U (fun w hw=>⟨_,_,[],U,z,hw.drop,zt5.bad (zCv a4) a4⟩)))))
 have a4:UV ws=0:=(by have h:=d3;simpa using h);refine Qm<|Qa<|Qk<|zR<|zM ?_;refine zM ?_;refine qcV (vs:=[_,_,_]) U zCa (zr4 j1 b2 (by have:=(zcv (ws:=ws)).1;omega) (fun x hx=>jO (zcv.2 x hx) kC))<|zO (zN ?_)
 refine zI ?_ ?_<;>intro d4
 ·have l2:K9 ws≠rows:=fun e=>(by have h:=d4;rw [jN e] at h;cases h);exact zR (zA<|zA (zN (Qq (Qb<|KB<|QY U U U (fun w hw=>⟨_,_,[],U,z,hw.drop,zt5.bad (zF2 a4 l2) kC⟩)))))
 have b3:K9 ws=rows:=OT fun e=>(by have h:=d4;rw [jX e] at h;cases h);refine Qm (Qa (Qk (zR (zM<|zV (Qo U ZG (fun hg=>by exact Cells.g0) U)<|qcV (vs:=[_,_]) U zuh (zme b2 l1 f0 f1 A k6 k7 k8 no e6) ?_))));refine zA<|zN (zR ?_)
 refine zM<|zC (zN ?_)
 refine zI ?_ ?_<;>intro d5
 ·have a6:K8 rows no xs es rd≠0:=(by have h:=d5;simpa using h);exact zR (zM<|zA<|zA (zN (Qq (Qb<|KB<|QY U U U (fun w hw=>⟨_,_,[],U,z,hw.drop,zt5.bad (zDO a4 b3 a6) a6⟩)))))
 have a6:K8 rows no xs es rd=0:=(by have h:=d5;simpa using h);obtain ⟨k0,l4⟩:=zgb a6;have j3:=zmC k0;obtain ⟨n2,n3,l9,l5⟩:=Js (Kb j3);have i3:=zkg b3 kB;have m6:rd.length=(rows.getD 0 []).length:=(by rw [l4];exact XP);have f3:=f3 b3;obtain ⟨n7,hV⟩:=id b2;have a3:=hV.1;refine Qm (Qa (Qk<|Zk (b:=f9) (by repeat (first | exact Zb.here | apply Zb.there)) (fun I2 b1 j2=>?_)));have hW:=hW.mono b1;have hH:=hH.mono b1;have A:=A.mono b1;have hV:=hV.mono b1;have a3:=a3.mono b1;have z:=z.trans b1;have j0:QO I2 [] f9 3 (.slice P rd.length Q):=.imm j2 U;refine Qh (zM<|zQ Z9 ?_);refine Q1 Y7 U U kB kC U U (fun f=>zA (Qe ?_));rw [show ((ws.length:Nat):Int).toNat=ws.length from U,Q8,Zo,Xw,ztn (rows:=rows)];refine Qa (Qk<|zxW<|Qa (Qk (Qk<|JB (loc':=[]++[(f,.cells (Zl (Vk ws.length (Vw (atN rows 0 0)))) 3 (0,0))]) U<|Qh<|zF Ye<|zV (Qc U QA (fun hg=>by exact j0.any))<|zQ Qt ?_)));refine zM<|zN<|Ql ?_;refine zU [(0,_),(1,_),(10,_),(44,_),(45,_)] (fun T L0 mz E o a=>∃ (k:Nat) (l:List Sg) (v6:Value) (L:Go.Kn.Loc),mz=rd.length-k/\E=(6,v6)::(46,.int .i64 k)::T/\HLe I2 o/\L++[(f,.cells (Zl (Vk ws.length (Vw (atN rows k 0)))) 3 (0,0))]=a/\k<=rd.length/\Ww ws rows rd k=some l/\OwnS 54 14 v6 l.length (l.flatMap YA) L/\l.length<=k) ?_ (h:=⟨0,[],_,[],U,U,zJH _,U,jd _,U,OwnS.nil,jn _⟩);rintro mz E J3 a ⟨k,l,v6,L,rfl,rfl,hJ,rfl,hk,c4,hO,n1⟩;have hW:=hW.mono hJ;have hH:=hH.mono hJ;have A:=A.mono hJ;have hV:=hV.mono hJ;have a3:=a3.mono hJ;have z:=z.trans hJ;have a0:=hJ;refine zR<|zC<|zN<|Qk ?_;refine zI ?_ ?_<;>intro d6
 ·have a7:k<rd.length:=kd d6;obtain ⟨code,hk⟩:=A.at a7;refine Qm (Qa (Qk (Ql (zR (zM<|zV (zX Qt A)<|zV (Qc U Qr (fun hg=>by exact zJA A hk U))<|zA<|zA<|zN (zR<|zA<|zA<|zN (zR<|zA<|zA (zN (Qk (zR ?_))))))))));refine zM ?_;refine zQ QM ?_;refine zM<|zN<|Ql ?_;refine zU [(0,_),(1,_),(6,_),(10,_),(11,_),(12,_),(44,_),(45,_),(46,_),(51,_),(52,_)] (fun T L0 mz E o a=>∃ (i:Nat) (s:SgS) (b5:Option Addr) (c5:Option Addr),mz=rows.length-i/\E=(13,.pointer b5)::(14,.pointer c5)::(15,.int .i64 ((s.many:Nat):Int))::(16,.bool s.lost)::(53,.int .i64 i)::T/\HLe J3 o/\L++[(f,.cells (Zl (Vk ws.length (Vw (atN rows k i)))) 3 (0,0))]=a/\i<=rows.length/\s=sgK ws rows k code i/\Jj 60 o b5 s.ex/\Jj 60 o c5 s.so) ?_ (h:=⟨0,⟨none,none,0,false⟩,none,none,U,U,zJH _,U,jd _,U,U,U⟩);rintro mz E J4 a ⟨i,s,b5,c5,rfl,rfl,hJ,rfl,hi,hs,r,F⟩;have hW:=hW.mono hJ;have hH:=hH.mono hJ;have hV:=hV.mono hJ;have a3:=a3.mono hJ;have z:=z.trans hJ;have a0:=a0.trans hJ;have a1:=hJ;refine zR<|zC<|zN<|Qk ?_;refine zI ?_ ?_<;>intro d7
  ·have f2:i<rows.length:=kd d7;obtain ⟨vx,row,l6,f5,hQ⟩:=hV.at f2;obtain ⟨wx,xw,l7,i4,e1,e2,hR⟩:=hW.at (show i<ws.length by omega);have n4:=(l5 row (je f5)).1;have m8:=hQ.len;have m9:=hR.len;have f4:row[k]? =some (row.getD k 0):=QE U kB;have e5:=f4;have a5:rows.getD i []=row:=QJ f5;have b4:(rows.getD i []).getD k 0=row.getD k 0:=(by rw [a5]);have l8:=zHH (row:=rows.getD i []) (k:=k);have l0:=zph (ws:=ws) (rows:=rows) (k:=k) (code:=code) i;rw [<-hs] at l0;refine Qm (Qa (Qk (Ql (zR (zM<|zV (zX QM a3)<|zV (Qc U QA (fun hg=>by exact zJA a3 l6 U))<|zA<|zA (zN (Qk (zR ?_))))))));refine zM ?_;refine zM ?_;refine zV (zX Qt hQ)<|zV (Qc U Qr (fun hg=>by exact zJA hQ e5 U))<|zC (zN ?_)
   refine zI ?_ ?_<;>intro j
   ·have j:(row.getD k 0==0)=true:=j;refine JB (loc':=L++[(f,.cells (Zl (Vk ws.length (Vw (atN rows k (i+1))))) 3 (0,0))]) (by rw [zCu (by rw [a5];exact ziQ f4 j)])<|Qy (Qf (Qj (Qa (Qh (zB<|zM (Qe ?_))))))
    first
    | exact zm (h:=⟨rows.length-(i+1),kB,i+1,s,b5,c5,U,U,a1,U,kB,by rw [hs];exact zyF (by rw [b4];exact j),r,F⟩)
   have j:(row.getD k 0==0)=false:=j;have e0:=f3 i xw row i4 f5 k kB (by have h:=j;simpa using h);obtain ⟨y,hy⟩:∃ y,xw.rs[nzF (rows.getD i []) k]? =some y:=⟨_,jf (by rw [a5];exact e0)⟩;have f6:ydF ws rows i k=y:=zCi i4 hy;have l3:nzF (rows.getD i []) k<xw.rs.length:=(by rw [a5];exact e0);refine Qm<|Qa<|Qk ?_;have d:=zJH J4;refine U3 mixed<|zT 0 U (Qd U) d<|zT 1 U (Qd U) d<|zT 2 U (zX Z9 hH) d<|zT 3 U (Qi U V4) d<|zT 4 U (Qc U UL (fun hg=>by exact zJJ hH l7 U)) d<|zT 5 U (Qd U) d<|zT 6 U (Qd U) d<|zT 7 U (QD U U Qt (fun hg=>kB)) d<|zT 8 U (Qc U Qr (fun hg=>by exact zJD (Jw (k:=i) (YC (show i<_ by omega))))) d ?_
   rw [zjp];refine zT 9 U (zX KW hR) d<|zT 10 U (Qo U zb4 (fun hg=>by exact zJI hR hy) U) d<|qd 11 U<|Qv zoG U U (fun f8=>Qe<|zD d<|qd 12 U ?_)
   refine zh zfE<|Qe ?_
   refine zD d<|QH kA<|QP ?_
   refine Qa<|zR<|zM ?_;refine zM ?_;refine zV (QD U U Qt (fun hg=>kB))<|zV (Qc U Qr (fun hg=>by exact zJB (zJD (Jw (k:=i) (YC (show i<_ by omega)))))) ?_
   rw [zjp];refine zB<|zV (QD U U Qt (fun hg=>kB))<|Zx U U ZO U U (by repeat (first | exact Upd.here | apply Upd.there | apply QN)) (zEO kN)<|Qe ?_
   rw [Y0,JX,show ((nzF (rows.getD i []) k:Nat):Int)+1=((nzF (rows.getD i []) k+1:Nat):Int) from U,zcg,zxe (by rw [a5];exact zeY f4 j)];refine Qa (Qk (Qk<|Zk (b:=f8) (by repeat (first | exact Zb.here | apply Zb.there)) (fun I5 c7 d2=>?_)));have r:=r.mono c7;have F:=F.mono c7;have hQ:=hQ.mono c7;have a1:=a1.trans c7;have b0:=Jj.new d2;refine Qh<|zF JA ?_
   refine zV (Qc U K1 (fun hg=>by exact .imm d2 U))<|zN ?_
   refine zI ?_ ?_<;>intro c3
   ·refine zR<|zA<|zN<|Qy<|Qf<|Qj<|Qa<|Qh ?_;refine zB<|zM (Qe ?_)
    first
    | exact zm (h:=⟨rows.length-(i+1),kB,i+1,{s with lost:=true},b5,c5,U,U,a1,U,kB,zxc hs (by rw [b4];exact j) (by rw [f6];exact c3),r,F⟩)
   refine Qm<|Qa<|zR<|zM ?_;refine zB<|zA (zN ?_)
   refine zY [(0,_),(1,_),(6,_),(10,_),(11,_),(12,_),(13,_),(15,_),(16,_),(18,_),(19,_),(44,_),(45,_),(46,_),(51,_),(52,_),(53,_)] (fun T L0 E o a=>∃ (c6:Option Addr),E=(14,.pointer c6)::T/\HLe I5 o/\L++[(f,.cells (Zl (Vk ws.length (Vw (atN rows k (i+1))))) 3 (0,0))]=a/\Jj 60 o c6 (orS s.so y.sg)) ?_ ?_
   ·have b7:=zJH I5;refine zR (zM<|zV (XK U U zek)<|zN ?_);refine zI ?_ ?_<;>intro d8
    ·exact Qh<|zF V1<|zA (Qe<|Ya _ _ ⟨_,U,b7,U,F.orN d8 b0⟩ kc .refl)
    exact Qm<|Ya _ _ ⟨_,U,b7,U,F.orS d8⟩ kc .refl
   rintro E J6 a ⟨c6,rfl,a9,rfl,e4⟩;have r:=r.mono a9;have hQ:=hQ.mono a9;have b0:=b0.mono a9;have a1:=a1.trans a9;refine zR (zM<|zV (XK U U zek)<|zM ?_);refine Qw 2 U U U ?_;refine zK (Qd U) ?_;refine zK (Qd U) ?_;refine zK (zX Qt hQ)<|zK (Qc U Qr (fun hg=>by exact zJA hQ e5 U))<|zK (Qd U) ?_
   refine zK (Qx U U U) ?_;refine QC U U U U U<|zN ?_
   refine zI ?_ ?_<;>intro d9
   ·refine Qh<|zF V1<|zA (Qe (Qg (Qa (Qh<|zB<|zM (Qe ?_)))))
    first
    | exact zm (h:=⟨rows.length-(i+1),kB,i+1,⟨some y.sg,orS s.so y.sg,s.many+1,s.lost⟩,_,c6,U,U,a1,U,kB,zB7 hs (by rw [b4];exact j) f6 c3 (by rw [b4,<-r.isNone];exact d9),b0,e4⟩)
   refine Qm (Qg (Qa (Qh (zB<|zM (Qe ?_)))))
   first
   | exact zm (h:=⟨rows.length-(i+1),kB,i+1,⟨s.ex,orS s.so y.sg,s.many+1,s.lost⟩,b5,c6,U,U,a1,U,kB,zHe hs (by rw [b4];exact j) f6 c3 (by rw [b4,<-r.isNone];exact d9),r,e4⟩)
  have j6:rows.length<=i:=kd d7;obtain rfl:i=rows.length:=kB;refine Qy (Qf (Qf (Qj (Qa (Qk (Qk<|JB (loc':=L++[(f,.cells (Zl (Vk ws.length (Vw (atN rows (k+1) 0)))) 3 (0,0))]) (by rw [i3,zsp])<|Qh (zM<|zC (zN ?_))))))));refine zI ?_ ?_<;>intro G
  ·refine Qy (Qf (Qj (Qa (Qh (zB<|zM (Qe ?_))))))
   first
   | exact zm (h:=⟨rd.length-(k+1),kB,k+1,_,_,_,U,U,a0,U,kB,zj0 c4 (by rw [QJ hk];exact zta G),hO,kB⟩)
  refine Qm<|Qa ?_;refine zY [(0,_),(1,_),(6,_),(10,_),(11,_),(12,_),(15,_),(16,_),(44,_),(45,_),(46,_)] (fun T L0 E o a=>∃ (f7:Option Addr),E=(13,.pointer f7)::T/\HLe J4 o/\L++[(f,.cells (Zl (Vk ws.length (Vw (atN rows (k+1) 0)))) 3 (0,0))]=a/\Jj 60 o f7 (s.ex.or s.so)) ?_ ?_
  ·have b8:=zJH J4;refine zR (zM<|zV (XK U U zek)<|zN ?_);refine zI ?_ ?_<;>intro b9
   ·exact Qh (zM<|zA (Qe<|Ya _ _ ⟨_,U,b8,U,r.orY b9 F⟩ kc .refl))
   exact Qm<|Ya _ _ ⟨_,U,b8,U,r.orX b9⟩ kc .refl
  rintro E J7 a ⟨f7,rfl,b6,rfl,e3⟩;have z:=z.trans b6;have a0:=a0.trans b6;refine Qk (zR (zM<|zV (XK U U zek)<|zN ?_));refine zI ?_ ?_<;>intro c0
  ·have d0:=e3.none c0;refine zR (zA<|zA (zN (Qq (Qb (Qn (Qb (Qb (Qn<|Qb<|KB ?_))))))))
   first
   | exact QY U U U (fun w hw=>⟨_,_,[],U,z,hw.drop,zt5.bad (zFF a4 b3 a6 (znb c4 (by rw [QJ hk];exact zsK G hs d0) a7)) kC⟩)
  obtain ⟨sy,n5,n6,d0,rfl,d1⟩:=e3.at c0;refine Qm (Qa (zR (zM<|qcV (vs:=[_]) U znq (zo9 _ _)<|zM ?_)));refine zE ?_;refine zE<|Qv Kc U U (fun a8=>zh Zy ?_)
  refine zA<|zN<|Qk<|zR ?_;refine zM<|zC (zN ?_)
  refine zI ?_ ?_<;>intro c1
  ·have j5:(Vb code != 0)=true:=c1;refine zR (zA<|zA (zN (Qq (Qb (Qn (Qb (Qb (Qn<|Qb<|KB ?_))))))))
   first
   | exact QY U U U (fun w hw=>⟨_,_,[],U,z,hw.drop,zt5.bad (zFF a4 b3 a6 (znb c4 (by rw [QJ hk];exact zBl G hs d0 j5) a7)) kC⟩)
  have j4:(Vb code != 0)=false:=c1;refine Qm<|Qa<|Qk ?_;have d:=zJH J7;refine VR<|ZM J7 [] mixed<|zT 0 U (Qd U) d<|zT 1 U (Qd U) d<|zT 2 U (Q9 U) d<|zT 3 U (Qi U Vn) d<|zT 4 U (Qc U Qr (fun hg=>by exact .imm d1 U)) d<|zT 5 U (Qd U) d<|zT 6 U (Q9 U) d<|zT 7 U (Qi U YP) d<|zT 8 U (Qc U Qr (fun hg=>by exact .imm d1 U)) d<|zT 9 U (Qd U) d ?_
  refine zT 10 U (Q9 U) d<|zT 11 U (Qi U Yy) d<|zT 12 U (Qo U Ys (fun hg=>by exact Cells.two d1 U U) U) d<|zT 13 U (Qd U) d<|zT 14 U (Q9 U) d<|zT 15 U (Qi U Yz) d<|zT 16 U (Qo U Ys (fun hg=>by exact Cells.two d1 U U) U) d<|zT 17 U (Qi U Zu) d<|qd 18 U ?_
  refine zS ZO ?_;refine Qe<|zD d<|zT 19 U (Qi U Vn) d<|qd 20 U ?_
  refine zS ZO ?_;refine Qe<|zD d<|zT 21 U (Qi U YP) d<|qd 22 U ?_
  refine zS ZO ?_;refine Qe<|zD d<|zT 23 U (Qi U Yy) d<|qd 24 U<|YW U U UP U U U U (by repeat (first | exact Upd.here | apply Upd.there | apply QN))<|Qe<|zD d<|zT 25 U (Qi U Yz) d<|qd 26 U<|YW U U UP U U U U (by repeat (first | exact Upd.here | apply Upd.there | apply QN))<|Qe<|zD d ?_
  refine QH kA<|QP<|zfp (loc':=(a8,.cells (YA ({UU code with id:=(k:Int),bar:=sy.bar,mark:=sy.mark,fn:=sy.fn,fd:=sy.fd,tn:=sy.tn,td:=sy.td}:Sg)).toArray 54 (0,0))::(L++[(f,.cells (Zl (Vk ws.length (Vw (atN rows (k+1) 0)))) 3 (0,0))])) U<|Qa ?_
  refine zY [(0,_),(1,_),(6,_),(10,_),(20,_),(44,_),(45,_),(46,_)] (fun T L0 E o a=>E=T/\HLe J7 o/\(a8,.cells (YA (XY k code sy ((decide ((ws.length:Int)>1)&&(s.many:Int)==1)&& !s.lost))).toArray 54 (0,0))::(L++[(f,.cells (Zl (Vk ws.length (Vw (atN rows (k+1) 0)))) 3 (0,0))])=a) ?_ ?_
  ·have e8:=zJH J7;refine zR (zM<|zQ Z9<|zC ?_);refine zM ?_;refine Qw 3 U U U ?_;refine zK (Qd U) ?_;refine zK (Qx U U U) ?_;refine QC U U U U U ?_;refine zM ?_;refine Qw 7 U U U ?_;refine zK (Qd U)<|zK (ZT U)<|QC U U U U U<|zN ?_
   refine zI ?_ ?_<;>intro c2
   focus
    refine Qh<|zF YP ?_
    refine zS ZO ?_;refine Qe<|zfp (loc':=(a8,.cells (YA (XY k code sy ((decide ((ws.length:Int)>1)&&(s.many:Int)==1)&& !s.lost))).toArray 54 (0,0))::(L++[(f,.cells (Zl (Vk ws.length (Vw (atN rows (k+1) 0)))) 3 (0,0))])) (by rw [c2];rfl) ?_
   rotate_left
   refine JB (loc':=(a8,.cells (YA (XY k code sy ((decide ((ws.length:Int)>1)&&(s.many:Int)==1)&& !s.lost))).toArray 54 (0,0))::(L++[(f,.cells (Zl (Vk ws.length (Vw (atN rows (k+1) 0)))) 3 (0,0))])) (by rw [c2];rfl)<|Qm ?_
   all_goals
    exact Ya _ _ ⟨U,e8,U⟩ kc .refl
  rintro E J8 a ⟨rfl,e7,rfl⟩;have a0:=a0.trans e7;refine Qh (zM<|zV (Qo U QQ (fun hg=>by exact Cells.g0) U)<|zpb [(0,_)] [YA (XY k code sy ((decide ((ws.length:Int)>1)&&(s.many:Int)==1)&& !s.lost))] Vy (fun i6=>?_));refine zpa (_) ([XY k code sy ((decide ((ws.length:Int)>1)&&(s.many:Int)==1)&& !s.lost)].flatMap YA) (L) U U Vy hO ⟨U,fun _=>U,by repeat (first | exact zJF | apply zJE | apply zJG)⟩ (zcW [XY k code sy ((decide ((ws.length:Int)>1)&&(s.many:Int)==1)&& !s.lost)]) ?_;intro v9 L9 i0 _;rw [<-jh] at i0;refine zA (Qe (Qg (Qa (Qh<|zB<|zM (Qe ?_)))))
  first
  | exact zm (h:=⟨rd.length-(k+1),kB,k+1,_,_,_,U,U,a0,U,kB,zu1 c4 (by rw [QJ hk];exact zEI G hs d0 j4),by rw [jj];exact i0,by rw [jj,jv];omega⟩)
 have j7:rd.length<=k:=kd d6;obtain rfl:k=rd.length:=kB;obtain ⟨t1,t2⟩:=zDb a4 b3 a6 c4;refine Qy (Qf (Qf (Qj (Qa (zR (zM<|zA<|zA (zN (Qq<|KB ?_))))))))
 first
 | exact QY U U U (fun w hw=>by obtain ⟨I9,i5,c9,i7,i8,e9,i9⟩:=OwnS.freeze (R:=[_]) hO Yp kC hw;subst e9;exact ⟨_,I9,[],U,z.trans i7,i8.drop,U,i5,c9,by rw [t1,t2],by rw [t2];exact i9⟩)
def zqN (x:Int):List Int->List Int
 | []=>[x]
 | y::F=>if x<y then x::y::F else if x=y then y::F else y::zqN x F
theorem zev {x z:Int}:∀ {l:List Int},z∈zqN x l↔z=x\/z∈l
 | []=>by simp [zqN]
 | y::F=>by
  unfold zqN;split
  ·simp
  ·split
   ·rename_i h;subst h;simp
   ·rw [jo,zev,jo];constructor
    ·rintro (h | h | h)
     ·exact .inr (.inl h)
     ·exact .inl h
     ·exact .inr (.inr h)
    ·rintro (h | h | h)
     ·exact .inr (.inl h)
     ·exact .inl h
     ·exact .inr (.inr h)
theorem zmT {x:Int}:∀ {l:List Int},l.Pairwise (· < ·)->(zqN x l).Pairwise (· < ·)
 | [],_=>by simp [zqN]
 | y::F,h=>by
  rw [Jb] at h;unfold zqN;split
  ·rename_i d;rw [Jb,Jb];refine ⟨fun z a=>?_,h⟩;rcases jo.1 a with e | a
   ·rw [e];exact d
   ·exact B3 d (h.1 z a)
  ·split
   ·rw [Jb];exact h
   ·rw [Jb];refine ⟨fun z a=>?_,zmT h.2⟩;rcases zev.1 a with rfl | a
    ·omega
    ·exact h.1 z a
def stU (rows:List (List Int))(l:Nat):List Int:=(stL rows l rows.length).foldr zqN []
theorem zEi (a:List Int):(a.foldr zqN []).Pairwise (· < ·)/\∀ z,z∈a.foldr zqN []↔z∈a:=by
 induction a with
 | nil=>simp
 | cons x a ih=>
  rw [List.foldr_cons];exact ⟨zmT ih.1,fun z=>by rw [zev,ih.2,jo]⟩
theorem zF6 {a b:List Int}(d:a.Pairwise (· < ·))(f:b.Pairwise (· < ·))(h:∀ z,z∈a↔z∈b):a=b:=by have g:a.Perm b:=(Bd (d.imp (by intro x y h e;omega)) (f.imp (by intro x y h e;omega))).2 h;exact g.eq_of_pairwise (le:=(· < ·)) (by intro x y _ _ h1 h2;omega) d f
theorem zG3 {l:Nat}:stE rows l=stU rows l:=by refine zF6 zuz (zEi _).1 fun z=>?_;unfold stU;rw [(zEi _).2];unfold stE;rw [(U4 _).2]
def zsV (rows:List (List Int))(cl:List Int)(l:Nat):List Int:=(stU rows l).filter fun x=>rcV (stU rows l) (uF rows l) cl 63 (ZS rows.length) x==ZY (rcF (stU rows l) (uF rows l) cl 64 (ZS rows.length))
theorem zsl:VP=zsV:=by funext rows cl l;unfold VP zsV zka zrG;rw [zG3]
def ztp (rows:List (List Int))(cl:List Int)(k:Nat):Int:=if (zsV rows cl k).any (fun y=>(rows.getD 0 []).getD k 0==y)=true then (rows.getD 0 []).getD k 0 else (zsV rows cl k).getD 0 0
def zwI (rows:List (List Int))(cl:List Int)(es:List Em)(k:Nat):Int:=match lfK es k with
 | []=>ztp rows cl k
 | e::_=>if e.locus=(k:Int) then e.code else ztp rows cl k
theorem zse:W8=zwI:=by funext rows cl es k;have a:JN rows cl k=ztp rows cl k:=(by unfold JN ztp;rw [zsl]);unfold W8 zwI;rw [a]<;>(cases lfK es k<;>rfl)
theorem zju :Je rows cl es=(List.range (rows.getD 0 []).length).map (zwI rows cl es):=by unfold Je;rw [zse]
def zBN (m:Nat):Int->List Em->Prop
 | _,[]=>True
 | l,e::es=>l<e.locus/\e.locus<(m:Int)/\zBN m e.locus es
theorem zjV {rows:List (List Int)}{m:Nat}:∀ {l:Int} {es:List Em},Ku rows m l es=true->zBN m l es
 | _,[],_=>trivial
 | l,e::es,h=>by
  have h:(!zed rows m l e&&Ku rows m e.locus es)=true:=h;rw [ji] at h;obtain ⟨h1,h2⟩:=h;unfold zed at h1;simp only [Bool.not_or,ji,jZ,jR] at h1;exact ⟨kB,kB,zjV h2⟩
theorem zeE {m:Nat}:∀ {l:Int} {es:List Em},zBN m l es->∀ e∈es,l<e.locus/\e.locus<(m:Int)
 | _,[],_,e,h=>by cases h
 | l,x::es,hi,e,h=>by
  rcases jo.1 h with rfl | h
  ·exact ⟨hi.1,hi.2.1⟩
  ·have:=zeE hi.2.2 e h;have:=hi.1;exact ⟨kB,kB⟩
theorem znx {m:Nat}:∀ (k:Nat) {es:List Em},zBN m (-1) es->∃ d,es=d++lfK es k/\(∀ e∈d,e.locus<(k:Int))/\(∀ e∈lfK es k,(k:Int)<=e.locus)/\zBN m ((k:Int)-1) (lfK es k)
 | 0,es,h=>⟨[],U,(fun e a=>by cases a),(fun e a=>by have:=(zeE h e a).1;omega),by simpa [lfK] using h⟩
 | k+1,es,h=>by
  obtain ⟨d,h1,h2,h3,h4⟩:=znx k h
  cases f:lfK es k with
  | nil=>
   rw [zv5 f];rw [f] at h1;exact ⟨d,h1,(fun e a=>by have:=h2 e a;omega),(fun e a=>by cases a),trivial⟩
  | cons x r=>
   rw [f] at h1 h3 h4;obtain ⟨z,w,g⟩:=h4;by_cases j:x.locus=(k:Int)
   ·rw [zvv f j];refine ⟨d++[x],by rw [js];exact h1,fun e a=>?_,fun e a=>?_,?_⟩
    ·rcases jC.1 a with a | a
     ·have:=h2 e a;omega
     ·rw [jM.1 a,j];omega
    ·have:=(zeE g e a).1;omega
    ·rw [j] at g;rw [show ((k+1:Nat):Int)-1=(k:Int) by omega];exact g
   ·rw [zEd f j];have l:=h3 x (jl ..);refine ⟨d,h1,(fun e a=>by have:=h2 e a;omega),fun e a=>?_,⟨kB,w,g⟩⟩;rcases jo.1 a with rfl | a
    ·omega
    ·have:=(zeE g e a).1;omega
theorem zts (h:WK rows no cl es=0):Ku rows (rows.getD 0 []).length (-1) es=true:=by
 unfold WK at h;split at h
 ·rename_i h1;exact absurd h h1
 ·split at h
  ·cases h
  ·split at h
   ·rename_i h3;exact h3
   ·cases h
theorem zcO {n:Int}(h:0<=n/\n<=9223372036854775807):IntKind.i64.wrap n=n:=by unfold IntKind.wrap IntKind.signed IntKind.bits;simp;omega
variable{a:Nat}
theorem zjM (h:a<18446744073709551616):(BitVec.ofInt 64 (a:Int)).toNat=a:=by rw [BitVec.toNat_ofInt];omega
theorem zAP (d:a<9223372036854775808)(f:b<9223372036854775808):orI (a:Int) (b:Int)=((a||| b:Nat):Int):=by
 unfold orI;rw [BitVec.toNat_or,zjM kB,zjM kB];have:a||| b<2^63:=Nat.or_lt_two_pow kB kB
 exact zcO kB
theorem ztt (d:a<9223372036854775808)(f:b<9223372036854775808):KI (a:Int) (b:Int)=((a&&& b:Nat):Int):=by unfold KI;rw [BitVec.toNat_and,zjM kB,zjM kB];have:a&&& b<=a:=Nat.and_le_left;exact zcO kB
theorem zJk (g:b<=8)(j:n<2^b)(h:c<2^40):orI (IntKind.i64.wrap ((c:Int)*2^(min (b:Int).toNat IntKind.i64.bits))) (n:Int)=((c*2^b+n:Nat):Int):=by
 have d:min (b:Int).toNat IntKind.i64.bits=b:=by
  show min b 64=b;omega
 have h2:2^b<=2^8:=A9 kC g;have h3:c*2^b<2^40*2^8:=Nat.mul_lt_mul_of_lt_of_le h h2 kC;have f:(c:Int)*2^b=((c*2^b:Nat):Int):=(by simp);rw [d,f,zcO kB,zAP kB kB];have:=Nat.two_pow_add_eq_or_of_lt j c;rw [Nat.mul_comm c];rw [this]
theorem zIk (g:b<=8):IntKind.i64.wrap (1*2^(min (b:Int).toNat IntKind.i64.bits))-1=((2^b-1:Nat):Int):=by
 have d:min (b:Int).toNat IntKind.i64.bits=b:=by
  show min b 64=b;omega
 have h1:0<2^b:=Nat.pow_pos kC;have h2:2^b<=2^8:=A9 kC g;have f:(1:Int)*2^b=((2^b:Nat):Int):=(by simp);rw [d,f,zcO kB];omega
theorem zak (d:b<=8)(f:c<2^62):lbN b (c:Int)=((c % 2^b:Nat):Int):=by unfold lbN;have h2:2^b<=2^8:=A9 kC d;rw [zIk d,ztt kB kB,Nat.and_two_pow_sub_one_eq_mod]
theorem zax (g:b<=8):shN b (c:Int)=((c / 2^b:Nat):Int):=by
 unfold shN
 have d:min (b:Int).toNat IntKind.i64.bits=b:=by
  show min b 64=b;omega
 rw [d];have f:(2:Int)^b=((2^b:Nat):Int):=(by simp);rw [f];rw [Bc _ (Int.natCast_nonneg _)]
 first | exact (Int.natCast_ediv _ _).symm | exact (Int.ofNat_ediv _ _).symm | rfl
structure zqZ (r k s d l z w:Nat):Prop where
 r:r<=63
 k1:1<=k
 k:k<=9
 s:s<=2
 d:d<=8
 l:l<=3
 z:z<=255
 w:w<=64
def za7 (r k s d l z w:Nat):Nat:=(((((r*16+k)*4+s)*16+d)*4+l)*256+z)*128+w
variable{d:Nat}
theorem zHq {r s l z w:Nat}(h:zqZ r k s d l z w):VT 0 [⟨r,0,63,6⟩,⟨k,1,9,4⟩,⟨s,0,2,2⟩,⟨d,0,8,4⟩,⟨l,0,3,2⟩,⟨z,0,255,8⟩,⟨w,0,64,7⟩]=some ((za7 r k s d l z w:Nat):Int):=by
 obtain ⟨h1,h2,h3,h4,h5,h6,h7,h8⟩:=h
 have g:∀ {c:Int} {x:Dg} {j:List Dg},zfw x=false->VT c (x::j)=VT (zqS c x) j:=fun {c x j} F=>by
  show (if zfw x=true then none else VT (zqS c x) j)=_;rw [ja (by rw [F];decide)]
 have q:∀ {c n b:Nat} {E A:Int},b<=8->n<2^b->c<2^40->zqS (c:Int) ⟨(n:Int),E,A,(b:Int)⟩=((c*2^b+n:Nat):Int):=fun F H G=>zJk F H G;have f:∀ {n E A b:Int},E<=n->n<=A->zfw ⟨n,E,A,b⟩=false:=fun a b=>(by unfold zfw;simp;omega);rw [g (f kB kB),show (0:Int)=((0:Nat):Int) from U,show (6:Int)=((6:Nat):Int) from U,q kC kB kC];rw [g (f kB kB),show (4:Int)=((4:Nat):Int) from U,q (b:=4) kC kB kB];rw [g (f kB kB),show (2:Int)=((2:Nat):Int) from U,q (b:=2) kC kB kB];rw [g (f kB kB),q (b:=4) kC kB kB];rw [g (f kB kB),q (b:=2) kC kB kB];rw [g (f kB kB),show (8:Int)=((8:Nat):Int) from U,q (b:=8) kC kB kB];rw [g (f kB kB),show (7:Int)=((7:Nat):Int) from U,q (b:=7) kC kB kB];show some _=some _;unfold za7;simp
theorem zd5 (c:Nat)(l:c<2^33):zlB (c:Int)=⟨0,((c / 128 / 256 / 4 / 16 / 4 / 16:Nat):Int),0,0,((c / 128 / 256 / 4 / 16 / 4 % 16:Nat):Int),((c / 128 / 256 / 4 / 16 % 4:Nat):Int),((c / 128 / 256 / 4 % 16:Nat):Int),((c / 128 / 256 % 4:Nat):Int),((c / 128 % 256:Nat):Int),((c % 128:Nat):Int),0,0,0,0⟩:=by have f:shN 7 (c:Int)=((c / 128:Nat):Int):=zax kC;have g:shN 8 ((c / 128:Nat):Int)=((c / 128 / 256:Nat):Int):=zax kC;have s2:shN 2 ((c / 128 / 256:Nat):Int)=((c / 128 / 256 / 4:Nat):Int):=zax kC;have s4:shN 4 ((c / 128 / 256 / 4:Nat):Int)=((c / 128 / 256 / 4 / 16:Nat):Int):=zax kC;have h:shN 2 ((c / 128 / 256 / 4 / 16:Nat):Int)=((c / 128 / 256 / 4 / 16 / 4:Nat):Int):=zax kC;have j:shN 4 ((c / 128 / 256 / 4 / 16 / 4:Nat):Int)=((c / 128 / 256 / 4 / 16 / 4 / 16:Nat):Int):=zax kC;unfold zlB;rw [f,g,s2,s4,h,j];rw [zak (b:=4) (c:=c / 128 / 256 / 4 / 16 / 4) kC kB,zak (b:=2) (c:=c / 128 / 256 / 4 / 16) kC kB,zak (b:=4) (c:=c / 128 / 256 / 4) kC kB,zak (b:=2) (c:=c / 128 / 256) kC kB,zak (b:=8) (c:=c / 128) kC kB,zak (b:=7) (c:=c) kC kB]
theorem zou {r s l z w:Nat}(h:zqZ r k s d l z w):zlB ((za7 r k s d l z w:Nat):Int)=⟨0,r,0,0,k,s,d,l,z,w,0,0,0,0⟩:=by obtain ⟨h1,h2,h3,h4,h5,h6,h7,h8⟩:=h;rw [zd5 _ (by unfold za7;omega)];unfold za7;congr 1<;>(congr 1;omega)
theorem zqt (h:(VT 0 (dgs x)).isSome=true):∃ r k s d l z w:Nat,zqZ r k s d l z w/\x.role=r/\x.kind=k/\x.side=s/\x.dir=d/\x.level=l/\x.size=z/\x.wth=w:=by
 have g:∀ {c:Int} {y:Dg} {A:List Dg},(VT c (y::A)).isSome=true->zfw y=false/\(VT (zqS c y) A).isSome=true:=fun {c y A} f=>by
  have f:(if zfw y=true then none else VT (zqS c y) A).isSome=true:=f
  cases j:zfw y with
  | true=>rw [j] at f;cases f
  | false=>rw [j] at f;exact ⟨U,f⟩
 have u:∀ {n lo hi b:Int},zfw ⟨n,lo,hi,b⟩=false->lo<=n/\n<=hi:=fun j=>(by unfold zfw at j;simp at j;omega);unfold dgs at h;obtain ⟨E,h⟩:=g h;obtain ⟨F,h⟩:=g h;obtain ⟨G,h⟩:=g h;obtain ⟨H,h⟩:=g h;obtain ⟨T,h⟩:=g h;obtain ⟨b6,h⟩:=g h;obtain ⟨b7,_⟩:=g h;have E:=u E;have F:=u F;have G:=u G;have H:=u H;have T:=u T;have b6:=u b6;have b7:=u b7;exact ⟨x.role.toNat,x.kind.toNat,x.side.toNat,x.dir.toNat,x.level.toNat,x.size.toNat,x.wth.toNat,⟨kB,kB,kB,kB,kB,kB,kB,kB⟩,kB,kB,kB,kB,kB,kB,kB⟩
theorem Xu {r s l z w:Nat}(h:zqZ r k s d l z w)(e:x.role=r/\x.kind=k/\x.side=s/\x.dir=d/\x.level=l/\x.size=z/\x.wth=w):U8 x=((za7 r k s d l z w:Nat):Int)/\Ki x=0:=by
 obtain ⟨f,g,j,A,E,F,G⟩:=e
 have H:VT 0 (dgs x)=some ((za7 r k s d l z w:Nat):Int):=by
  unfold dgs;rw [f,g,j,A,E,F,G];exact zHq h
 unfold U8 Ki;rw [H];exact ⟨U,U⟩
theorem zkb (h:Ki x=0):(VT 0 (dgs x)).isSome=true:=by
 unfold Ki at h;split at h
 ·assumption
 ·cases h
theorem zgO (h:Ki x=0):Vb (U8 x)=0/\UU (U8 x)=⟨0,x.role,0,0,x.kind,x.side,x.dir,x.level,x.size,x.wth,0,0,0,0⟩/\0<U8 x/\U8 x<8589934592:=by
 obtain ⟨r,k,s,d,l,z,w,f,e⟩:=zqt (zkb h);obtain ⟨j,_⟩:=Xu f e;have g:=zou f
 have he:Vb ((za7 r k s d l z w:Nat):Int)=0:=by
  unfold Vb;rw [g];exact (Xu f ⟨U,U,U,U,U,U,U⟩).2
 rw [j];obtain ⟨A,E,F,G,H,T,e7⟩:=e;obtain ⟨h1,h2,h3,h4,h5,h6,h7,h8⟩:=f;refine ⟨he,?_,by unfold za7;omega,by unfold za7;omega⟩;unfold UU;rw [ja kB,g,A,E,F,G,H,T,e7]
theorem zgr {c:Int}(h:Vb c=0):U8 (UU c)=c/\Ki (UU c)=0/\0<c/\c<8589934592:=by
 have hs:UU c=zlB c:=(by unfold UU;rw [ja kB]);have j:Ki (zlB c)=0:=h;obtain ⟨r,k,s,d,l,z,w,A,e⟩:=zqt (zkb j);have g:(zlB c).role=shN 4 (shN 2 (shN 4 (shN 2 (shN 8 (shN 7 c))))):=rfl
 have hc:0<=c/\c<2^33:=by
  have f:=e.1;rw [g] at f;have hr:=A.r
  have u:∀ (b:Nat) (x:Int),b<=8->shN b x=x.fdiv (2^b):=fun b x hb=>by
   unfold shN
   have:min (b:Int).toNat IntKind.i64.bits=b:=by
    show min b 64=b;omega
   rw [this]
  rw [u 4 _ kC,u 2 _ kC,u 4 _ kC,u 2 _ kC,u 8 _ kC,u 7 _ kC] at f;have v:∀ (x:Int) (m:Int),0<m->x.fdiv m=x / m:=fun x m hm=>Bc _ kB;rw [v _ _ kC,v _ _ kC,v _ _ kC,v _ _ kC,v _ _ kC,v _ _ kC] at f;have f:c / 128 / 256 / 4 / 16 / 4 / 16=(r:Int):=f;omega
 obtain ⟨n,rfl⟩:∃ n:Nat,c=(n:Int):=⟨c.toNat,kB⟩;have F:=zd5 n kB;obtain ⟨G,D⟩:=Xu A e;rw [hs];refine ⟨?_,D,?_,kB⟩
 ·rw [G];rw [F] at e;obtain ⟨f,E,H,T,e5,e6,e7⟩:=e;simp only at f E H T e5 e6 e7;unfold za7;omega
 ·rw [F] at e;have E:((n / 128 / 256 / 4 / 16 / 4 % 16:Nat):Int)=(k:Int):=e.2.1;have:=A.k1;omega
def cz:Nat->(Nat->Int)->Nat
 | 0,_=>0
 | n+1,f=>cz n f+(if f n=0 then 0 else 1)
theorem zh0:∀ n,cz n (fun _=>0)=0
 | 0=>rfl
 | n+1=>by unfold cz;rw [zh0 n];rfl
theorem zvF {f:Nat->Int}{a:Nat}{v:Int}:∀ n,cz n (Ky f a v)<=cz n f+(if a<n then 1 else 0)
 | 0=>jd _
 | n+1=>by
  have ih:=zvF (f:=f) (a:=a) (v:=v) n;unfold cz;by_cases e:n=a
  ·subst e;rw [V0,jb (show n<n+1 by omega)];rw [ja (show ¬n<n by omega)] at ih;split<;>split<;>omega
  ·rw [KF e];by_cases h:a<n
   ·rw [jb h] at ih;rw [jb (show a<n+1 by omega)];split<;>omega
   ·rw [ja h] at ih;rw [ja (show ¬a<n+1 by omega)];split<;>omega
variable{f:Nat->Int}
theorem znX {v:Int}:cz n (Ky f a v)<=cz n f+1:=by have:=zvF (f:=f) (a:=a) (v:=v) n;split at this<;>omega
theorem zE2 {w:Nat->Nat}{T:List Int}{n:Nat}:∀ k,cz n (txF w T k)<=k
 | 0=>by show cz n (fun _=>0)<=0;rw [zh0];exact jn _
 | k+1=>by
  have ih:=zE2 (w:=w) (T:=T) (n:=n) k;have:=znX (f:=txF w T k) (a:=Y6 w k+w k) (n:=n) (v:=T.getD k 0);show cz n (Ky (txF w T k) (Y6 w k+w k) (T.getD k 0))<=k+1;omega
def both (y:Int×Int):Bool:=decide (y.1>0)&&decide (y.2>0)
variable{w:Nat->Nat}{l:List Int}
theorem zIH (A:List (Int×Int)):∀ (f:Nat->Int),cz n (A.foldl (prF w l) f)<=cz n f+(A.filter both).length:=by
 induction A with
 | nil=>intro f;exact jn _
 | cons y A ih=>
  intro f;rw [Of];have h:=ih (prF w l f y)
  cases g:(decide (y.1>0)&&decide (y.2>0)) with
  | true=>
   rw [zoL g] at h ⊢;have h2:=znX (f:=f) (a:=Y6 w (y.1-1).toNat+w (y.1-1).toNat) (n:=n) (v:=l.getD (y.2-1).toNat 0);rw [OO (show both y=true from g),jx];omega
  | false=>
   rw [zu9 g] at h ⊢;rw [OY (show ¬both y=true by unfold both;rw [g];decide)];exact h
theorem zHp (g:List (Int×Int)):∀ (s:(Nat->Int)×(Nat->Nat)),cz n (g.foldl (alS w l) s).1<=cz n s.1+g.length:=by
 induction g with
 | nil=>intro s;exact jn _
 | cons q g ih=>
  intro s;rw [Of];have h:=ih (alS w l s q);have h2:=znX (f:=s.1) (a:=Y6 w q.1.toNat+s.2 q.1.toNat) (n:=n) (v:=l.getD q.2.toNat 0);have h3:cz n (alS w l s q).1<=cz n s.1+1:=h2;rw [jx];omega
def sec (y:Int×Int):Bool:=decide (y.2>0)
theorem zhi {m n:Nat}:∀ (A:List (Int×Int)) (a:Int),(∀ p∈A,QOK m n p)->(A.filter both).length+(KN a A).length<=(A.filter sec).length
 | [],_,_=>jn _
 | p::A,a,h=>by
  obtain ⟨i,k,rfl,_,_,h0⟩:=h p (jl ..);have j:=fun q z=>h q (jm _ z);unfold KN;split
  ·rename_i g;have ih:=zhi A (i:Int) j;by_cases E:0<k
   ·rw [OO (show both ((i:Int),(k:Int))=true by unfold both;simp at g ⊢;omega),OO (show sec ((i:Int),(k:Int))=true by unfold sec;simp;omega),jx,jx];have ih:(A.filter both).length+(KN ((i:Int),(k:Int)).1 A).length<=(A.filter sec).length:=ih;omega
   ·rw [OY (show ¬both ((i:Int),(k:Int))=true by unfold both;simp;omega),OY (show ¬sec ((i:Int),(k:Int))=true by unfold sec;simp;omega)];exact ih
  ·rename_i g;have ih:=zhi A a j;have r:i=0:=(by simp at g;omega);rw [OY (show ¬both ((i:Int),(k:Int))=true by unfold both;simp;omega),OO (show sec ((i:Int),(k:Int))=true by unfold sec;simp;omega),jx,jx];omega
theorem zjn {a b:List Int}:∀ (f i k:Nat),i<=a.length->k<=b.length->((paF a b f i k).filter sec).length+k<=b.length
 | 0,_,k,_,hk=>by show 0+k<=_;omega
 | f+1,i,k,hi,hk=>by
  unfold paF;split
  ·rename_i hg;split
   ·rename_i g;have h1:i<a.length/\k<b.length:=(by unfold UT at g;simp at g;omega);have ih:=zjn f (i+1) (k+1) h1.1 h1.2;rw [OO (show sec (((i+1:Nat):Int),((k+1:Nat):Int))=true by unfold sec;simp<;>omega),jx];omega
   ·rename_i g;split
    ·rename_i h;have h1:i<a.length:=(by unfold zfB at h;simp at h;omega);have ih:=zjn f (i+1) k h1 hk;rw [OY (show ¬sec (((i+1:Nat):Int),(0:Int))=true by unfold sec;simp)];exact ih
    ·rename_i h;have h1:k<b.length:=zg2 hi hk (by simp at hg;omega) (by simpa using g) (by simpa using h);have ih:=zjn f i (k+1) hi h1;rw [OO (show sec ((0:Int),((k+1:Nat):Int))=true by unfold sec;simp<;>omega),jx];omega
  ·show 0+k<=_;omega
variable{xs:List Wr}
theorem zyn :((pfW xs i).filter both).length+(alW xs i).length<=(csW xs i).length:=by
 have h1:=zhi (pfW xs i) 0 (X3 (xs:=xs) (i:=i)).1
 have h2:((pfW xs i).filter sec).length<=(csW xs i).length:=by
  unfold pfW;split
  ·exact jd _
  ·unfold JS;split
   ·exact jd _
   ·have:=zjn (a:=csW xs 0) (b:=csW xs i) ((csW xs 0).length+(csW xs i).length) 0 0 (jd _) (jd _);unfold zpJ;omega
 exact jO h1 h2
theorem zDi :cz n (KZ (wdW xs) (csW xs 0) (csW xs i) i (pfW xs i))<=(csW xs i).length:=by
 unfold KZ alP;have h1:=zHp (w:=wdW xs) (l:=csW xs i) (n:=n) (zjr (pfW xs i)) ((pfW xs i).foldl (prF (wdW xs) (csW xs i)) (if i=0 then txF (wdW xs) (csW xs 0) (csW xs 0).length else fun _=>0),fun _=>0);have h2:=zIH (w:=wdW xs) (l:=csW xs i) (n:=n) (pfW xs i) (if i=0 then txF (wdW xs) (csW xs 0) (csW xs 0).length else fun _=>0);have h3:=zyn (xs:=xs) (i:=i);by_cases h0:i=0
 ·subst h0;have h4:=zE2 (w:=wdW xs) (T:=csW xs 0) (n:=n) (csW xs 0).length;have g:pfW xs 0=[]:=rfl;rw [g] at h1 h2 ⊢;simp only [OB] at h1 h2 ⊢;have h:zjr []=[]:=rfl;rw [h] at h1 ⊢;simp only [List.filter_nil,Ag,Nat.add_zero] at h1 h2;omega
 ·rw [ja h0] at h1 h2 ⊢;rw [zh0] at h2;have j:(alW xs i).length=(zjr (pfW xs i)).length:=rfl;simp only at h1;omega
theorem zwc {n:Nat}{f:Nat->Int}:∀ k,k<=n->nzF (Vk n f) k=cz k f
 | 0,_=>rfl
 | k+1,hk=>by
  have ih:=zwc (n:=n) (f:=f) k kB;have g:(Vk n f)[k]? =some (f k):=YC kB;unfold cz;by_cases h:f k=0
  ·rw [ziQ g (by simp [h]),ih,jb h];rfl
  ·rw [zeY g (by simp [h]),ih,ja h]
theorem zvH :zGz xs (K9 xs):=by
 intro i x row j g k h h0;have z:(K9 xs).length<=xs.length:=zcv.1;unfold K9 at g;split at g
 ·simp at g
 ·rw [jB] at g;have r:=(jc.1 j).1;rw [OD r,Ow] at g;have g:=(Ob g).symm;subst g;unfold zc0 at h h0 ⊢;rw [Z1] at h;have hg:=QJ (d:=0) (YC (f:=KZ (wdW xs) (csW xs 0) (csW xs i) i (pfW xs i)) h);rw [hg] at h0;rw [zwc k kB];have h1:=zDi (xs:=xs) (i:=i) (n:=k+1)
  have h2:cz (k+1) (KZ (wdW xs) (csW xs 0) (csW xs i) i (pfW xs i))=cz k (KZ (wdW xs) (csW xs 0) (csW xs i) i (pfW xs i))+1:=by
   show _+(if _ then 0 else 1)=_;rw [ja h0]
  have h3:(csW xs i).length=x.rs.length:=(by rw [zaP j,ju]);omega
theorem zBK (h:Kg [y]=0):frm y=true:=by
 unfold Kg at h;rw [ja (show ¬ [y].length>4096 from by simp)] at h;split at h
 ·rename_i h2;unfold skB at h2;have h3:=jk.1 h2 0 kJ;unfold skP at h3;simp at h3;exact h3
 ·cases h
theorem zyr :∀ {l:Int},Uw l xs=true->∀ x∈xs,∀ r∈x.rs,zcR r=false:=by
 induction xs with
 | nil=>intro l _ x g;cases g
 | cons z xs ih=>
  intro l h x g r j;have h:(!ziJ l z&&(!z.rs.any zcR&&Uw z.no xs))=true:=h;simp only [ji,jZ] at h;rcases jo.1 g with rfl | g
  ·have:=jL.1 h.2.1 r j;simpa using this
  ·exact ih h.2.2 x g r j
variable{r:Rd}
theorem zzh (h:WF xs=0){x:Wr}(A:x∈xs)(z:r∈x.rs):zcR r=false/\(r.lost=false->frm r.sg=true/\r.sg.id=0)/\(r.lost=true->r.sg=Yc):=by
 have hg:Uw 0 xs=true:=by
  unfold WF at h;split at h
  ·cases h
  ·split at h
   ·cases h
   ·split at h
    ·assumption
    ·cases h
 have g:=zyr hg x A r z;refine ⟨g,fun j=>?_,fun j=>?_⟩
 ·unfold zcR at g;rw [j] at g;simp only [Az,Bool.not_false,Ou,Ai,jS,BQ] at g;exact ⟨zBK g.2,g.1⟩
 ·unfold zcR at g;rw [j] at g;simp only [Ou,BW,Az,OQ,OC] at g;exact Un.1 g
theorem zd7 (h:UV ws=0)(h0:0<(K9 ws).length):WF ws=0/\(K9 ws).length=ws.length:=by
 rcases zA8 h with h1 | h1
 ·exact ⟨(ziD h1).1,zkg U h0⟩
 ·rw [h1] at h0;simp at h0
theorem zsQ (h:frm x=true):Ki x=0:=by unfold frm zGv at h;simp only [ji] at h;obtain ⟨⟨⟨⟨⟨⟨⟨⟨⟨⟨_,E⟩,_⟩,F⟩,_⟩,G⟩,H⟩,T⟩,y9⟩,g⟩,_⟩:=h;have u:∀ {n A j:Int},Za n A j=true->A<=n/\n<=j:=fun h=>(by unfold Za at h;simp at h;omega);have E:=u E;have F:=u F;have G:=u G;have H:=u H;have T:=u T;have y9:=u y9;have g:=u g;exact (Xu (r:=x.role.toNat) (k:=x.kind.toNat) (s:=x.side.toNat) (d:=x.dir.toNat) (l:=x.level.toNat) (z:=x.size.toNat) (w:=x.wth.toNat) ⟨kB,kB,kB,kB,kB,kB,kB,kB⟩ ⟨kB,kB,kB,kB,kB,kB,kB⟩).2
def zlL (G:List Rd):Prop:=∀ r∈G,(r.lost=true/\Yu r=8589934592)\/(r.lost=false/\Yu r=U8 r.sg/\Ki r.sg=0)
variable{G:List Rd}
theorem zAK (h:zlL G)(j:r∈G):0<Yu r/\Yu r<=8589934592:=by
 rcases h r j with ⟨_,e⟩ | ⟨_,e,g⟩
 ·omega
 ·have:=zgO g;omega
theorem zih:VX 1 []=0:=by decide
def zaA (l:List Int)(n:Int):Nat->Nat
 | 0=>0
 | k+1=>if n<l.getD k 0 then zaA l n k else k+1
theorem zrl {n:Int}(h:(decide ((k:Int)>0)&&decide (l.getD ((k:Int)-1).toNat 0>n))=true):∃ j,k=j+1/\zaA l n k=zaA l n j:=by
 simp only [ji,jG] at h
 cases k with
 | zero=>omega
 | succ j=>
  refine ⟨j,U,?_⟩;have e:(((j+1:Nat):Int)-1).toNat=j:=kB;rw [e] at h;show (if n<l.getD j 0 then zaA l n j else j+1)=_;rw [jb h.2]
theorem zx5 {n:Int}(h:(decide ((k:Int)>0)&&decide (l.getD ((k:Int)-1).toNat 0>n))=false):zaA l n k=k:=by
 cases k with
 | zero=>rfl
 | succ j=>
  have e:(((j+1:Nat):Int)-1).toNat=j:=kB;rw [e] at h;simp only [AJ,jR] at h;show (if n<l.getD j 0 then zaA l n j else j+1)=_;rw [ja kB]
def zhb (l:List Int)(n:Int):List Int:=l.take (zaA l n l.length)++[n]++l.drop (zaA l n l.length)
theorem ziB {l:List Int}{n:Int}:∀ k,zaA l n k<=k
 | 0=>jn _
 | k+1=>by
  show (if n<l.getD k 0 then zaA l n k else k+1)<=_;have:=ziB (l:=l) (n:=n) k;split<;>omega
theorem zqn {l:List Int}{n:Int}:∀ k,∀ j,zaA l n k<=j->j<k->n<l.getD j 0
 | 0,j,_,h=>kB
 | k+1,j,h1,h2=>by
  have h1:(if n<l.getD k 0 then zaA l n k else k+1)<=j:=h1;split at h1
  ·rename_i h;by_cases e:j=k
   ·subst e;exact h
   ·exact zqn k j h1 kB
  ·omega
theorem znL {l:List Int}{n:Int}:∀ k,0<zaA l n k->¬n<l.getD (zaA l n k-1) 0
 | 0,h=>by cases h
 | k+1,h=>by
  have e:zaA l n (k+1)=if n<l.getD k 0 then zaA l n k else k+1:=rfl
  rw [e] at h ⊢;by_cases g:n<l.getD k 0
  ·rw [jb g] at h ⊢;exact znL k h
  ·rw [ja g];exact g
theorem ztl {n:Int}:(zhb l n).length=l.length+1:=by unfold zhb;have:=ziB (l:=l) (n:=n) l.length;simp;omega
theorem zsu {n z:Int}:z∈zhb l n↔z=n\/z∈l:=by
 unfold zhb;rw [jC,jC,jM];have h:=jT (zaA l n l.length) l;constructor
 ·rintro ((h1 | h1) | h1)
  ·exact .inr (Au h1)
  ·exact .inl h1
  ·exact .inr (List.mem_of_mem_drop h1)
 ·rintro (h1 | h1)
  ·exact .inl (.inr h1)
  ·rw [<-h] at h1;rcases jC.1 h1 with h1 | h1
   ·exact .inl (.inl h1)
   ·exact .inr h1
theorem zzU {n:Int}(h:l.Pairwise (· < ·))(hn:n∉l):(zhb l n).Pairwise (· < ·):=by
 have hp:=ziB (l:=l) (n:=n) l.length;have F:=znL (l:=l) (n:=n) l.length;have E:=zqn (l:=l) (n:=n) l.length
 have T:∀ y∈l.take (zaA l n l.length),y<n:=fun y H=>by
  obtain ⟨i,g⟩:=jU H;rw [OA] at g;split at g
  ·rename_i a0;have hl:=F kB;have j:i<l.length:=kB;have a3:y≠n:=fun e=>hn (by rw [<-e];exact je g);have A:l.getD (zaA l n l.length-1) 0<=n:=kB;by_cases e:i=zaA l n l.length-1
   ·rw [<-e,QJ g] at A;omega
   ·have hx:l[zaA l n l.length-1]? =some (l.getD (zaA l n l.length-1) 0):=QE U kB;have h1:=jY.1 h i (zaA l n l.length-1) j kB kB;have e1:=(jc.1 g).2;have e2:=(jc.1 hx).2;rw [e1,e2] at h1;omega
  ·cases g
 have a2:∀ y∈l.drop (zaA l n l.length),n<y:=fun y H=>by
  obtain ⟨i,g⟩:=jU H;rw [AF] at g;have j:=(jc.1 g).1;have:=E (zaA l n l.length+i) kB j;rw [QJ g] at this;exact this
 unfold zhb;rw [js,OJ];refine ⟨h.sublist (List.take_sublist _ _),?_,fun a ha b z=>?_⟩
 ·rw [List.singleton_append,Jb];exact ⟨a2,h.sublist (List.drop_sublist _ _)⟩
 ·rw [List.singleton_append] at z;rcases jo.1 z with rfl | z
  ·exact T a ha
  ·have:=T a ha;have:=a2 b z;omega
def zcF (st cs:List Int)(b:Int):Nat->List Int
 | 0=>[]
 | k+1=>if cs.getD k 0=b then zhb (zcF st cs b k) (st.getD k 0) else zcF st cs b k
variable{st cs:List Int}
theorem ztC {b x y:Int}(g:st[k]? =some x)(j:cs[k]? =some y)(h:y=b):zcF st cs b (k+1)=zhb (zcF st cs b k) x:=by show (if cs.getD k 0=b then zhb (zcF st cs b k) (st.getD k 0) else zcF st cs b k)=_;rw [QJ j,jb h,QJ g]
theorem zwS {b y:Int}(g:cs[k]? =some y)(h:y≠b):zcF st cs b (k+1)=zcF st cs b k:=by show (if cs.getD k 0=b then zhb (zcF st cs b k) (st.getD k 0) else zcF st cs b k)=_;rw [QJ g,ja h]
theorem zjZ {st cs:List Int}{b:Int}:∀ k,(zcF st cs b k).length<=k
 | 0=>jn _
 | k+1=>by
  show (if cs.getD k 0=b then zhb (zcF st cs b k) (st.getD k 0) else zcF st cs b k).length<=_;have:=zjZ (st:=st) (cs:=cs) (b:=b) k;split
  ·rw [ztl];omega
  ·omega
theorem zfc {st cs:List Int}{b z:Int}:∀ k,z∈zcF st cs b k↔ ∃ i,i<k/\st.getD i 0=z/\cs.getD i 0=b
 | 0=>by
  constructor
  ·intro h;cases h
  ·rintro ⟨i,h,_⟩;omega
 | k+1=>by
  have ih:=zfc (st:=st) (cs:=cs) (b:=b) (z:=z) k;have e:zcF st cs b (k+1)=if cs.getD k 0=b then zhb (zcF st cs b k) (st.getD k 0) else zcF st cs b k:=rfl
  rw [e];split
  ·rename_i g;rw [zsu,ih];constructor
   ·rintro (rfl | ⟨i,h1,h2⟩)
    ·exact ⟨k,kB,U,g⟩
    ·exact ⟨i,kB,h2⟩
   ·rintro ⟨i,h1,h2,h3⟩;by_cases e:i=k
    ·subst e;exact .inl h2.symm
    ·exact .inr ⟨i,kB,h2,h3⟩
  ·rename_i g;rw [ih];constructor
   ·rintro ⟨i,h1,h2⟩;exact ⟨i,kB,h2⟩
   ·rintro ⟨i,h1,h2,h3⟩;by_cases e:i=k
    ·subst e;exact absurd h3 g
    ·exact ⟨i,kB,h2,h3⟩
theorem zl3 {st cs:List Int}{b:Int}(g:st.Nodup):∀ k,k<=st.length->(zcF st cs b k).Pairwise (· < ·)
 | 0,_=>List.Pairwise.nil
 | k+1,hk=>by
  have ih:=zl3 (cs:=cs) (b:=b) g k kB;have e:zcF st cs b (k+1)=if cs.getD k 0=b then zhb (zcF st cs b k) (st.getD k 0) else zcF st cs b k:=rfl
  rw [e];split
  ·refine zzU ih fun h=>?_;obtain ⟨i,h1,h2,_⟩:=(zfc k).1 h;have A:st[i]? =some (st.getD i 0):=QE U kB;have E:st[k]? =some (st.getD k 0):=QE U kB;have j:=(jc.1 A).2;have z:=(jc.1 E).2;exact jY.1 g i k kB kB h1 (by rw [j,z,h2])
  ·exact ih
def zBI (rows:List (List Int))(cl:List Int)(l:Nat):List Int:=zcF (QG rows l) (QT rows cl l 64 (ZS rows.length)) (ZY (QT rows cl l 64 (ZS rows.length))) (QT rows cl l 64 (ZS rows.length)).length
theorem zrI {l:Nat}(hr:Vc rows=0)(j:VX rows.length cl=0):zBI rows cl l=VP rows cl l:=by
 have T:=ZJ j;have a0:=KQ (n:=(rows.length:Int)) ⟨T.1,T.2.1⟩;have A:=zaI (l:=l) (rows:=rows) j 64 (ZS rows.length) kB (zaU j);have H:(QT rows cl l 64 (ZS rows.length)).length=(QG rows l).length:=YU;unfold zBI;refine zF6 (zl3 (zBD rows l) _ kB) zye fun z=>?_;rw [zfc,zsG hr j,A,ju]
 have hg:∀ i,i<(QG rows l).length->((QG rows l).map (cT (QG rows l) (uF rows l) (Uh cl 64 (ZS rows.length)))).getD i 0=cT (QG rows l) (uF rows l) (Uh cl 64 (ZS rows.length)) ((QG rows l).getD i 0):=fun i g=>
  QJ (by rw [jB,QE (d:=(0:Int)) rfl g];rfl)
 constructor
 ·rintro ⟨i,g,E,F⟩;rw [hg i g,E] at F;exact ⟨by rw [<-E];exact je (QE (d:=(0:Int)) U g),F⟩
 ·rintro ⟨hz,e⟩;obtain ⟨i,g⟩:=jU hz;have h:=(jc.1 g).1;refine ⟨i,h,QJ g,?_⟩;rw [hg i h,QJ g];exact e
theorem zBy:ke 214:=.of Tryz.func214 kA kA
theorem zyJ {xs:List Int}(hS:Sl I 1 QF C n c xs)(hn:n<=100000)(x:Int):kg 214 [.slice C n c,.int .i64 x] I [] (Jv 1 QF (zhb xs x)):=by
 intro g H w hw;refine qe Tryz.func214 Tryz.ntmps214 hw ?_;have a6:=zJH I;have a7:=hS.len;subst a7;have b0:=hS.cap;refine zR (zA<|zN (zR ?_));refine zM ?_;refine zQ Qt<|zA (zN (Qk (Ql ?_)))
 refine zU [(0,_),(1,_)] (fun T L0 mz E o A=>∃ (k:Nat),mz=0+k/\E=(5,.int .i64 k)::T/\I=o/\L0=A/\k<=xs.length/\zaA xs x xs.length=zaA xs x k) ?_ (h:=⟨xs.length,U,U,U,U,jn _,U⟩);rintro mz E o A ⟨k,rfl,rfl,rfl,rfl,hk,hp⟩;refine Qk (zR (zM<|zC ?_));refine zM ?_;refine Qw 2 U U U ?_;refine zK (Qd U) ?_;refine zK (Qd U)<|zK (Zf U U U (fun hg=>kB))<|zK (Qs U U Qt kE (fun hg=>by (simp [ZH] at hg;omega)))<|zK (Qc U Qr (fun hg=>by exact zJA (k:=((k:Int)-1).toNat) hS (QE (d:=0) U (by simp [ZH] at hg;omega)) U))<|zK (Qd U) ?_
 refine zK (Qx U U U) ?_;refine QC U U U U U<|zN ?_
 refine zI ?_ ?_<;>intro z
 ·obtain ⟨j,rfl,a8⟩:=zrl z;refine Qm<|Qa<|Ql<|Qh<|zM ?_;refine zB<|zA (Qe ?_)
  rw [show (((j+1:Nat):Int)-1)=((j:Nat):Int) by omega];refine Qg ?_;exact zm (h:=⟨0+j,kB,j,U,U,U,U,kB,by rw [hp,a8]⟩)
 rw [zx5 z] at hp;refine Qy (Qf (Qf (Qj (Qa (zR<|zpb [] [] QS (fun F=>zM ?_))))));refine zM ?_;refine zV (zaF U U Qt (fun hg=>kB))<|zpa (_) ((xs.take k).flatMap QF) ([(F,_)]) U U QS OwnS.new ((hS.take hk).src QL) (YJ _) ?_
 intro v7 L7 a1 _;rw [Oi,Oj] at a1;refine zA<|zN (zR ?_)
 refine zM ?_;refine zM ?_;refine zpb [(0,_)] [QF x] QS (fun a9=>?_);refine zpa (_) ([x].flatMap QF) (L7) U U QS a1 ⟨U,fun _=>U,by repeat (first | exact zJF | apply zJE | apply zJG)⟩ (YJ [x]) ?_;intro v8 L8 a2 _;rw [<-jh] at a2;refine zA<|zN (zR ?_)
 refine zM ?_;refine zM ?_;refine zM ?_;refine zV (Wu U U Qt (fun hg=>kB))<|zpa (_) ((xs.drop k).flatMap QF) (L8) U U QS a2 ((hS.drop hk).src QL) (YJ _) ?_
 intro v9 L9 a3 _;rw [<-jh] at a3;refine zA<|zN<|Qq ?_;exact Zc U U (fun w hw=>by obtain ⟨I9,a4,a5,a0⟩:=OwnS.res a3 QL kC (hw.subL (by repeat (first | exact .refl | exact Q3)));rw [show xs.take k++[x]++xs.drop k=zhb xs x by unfold zhb;rw [hp]] at a0;exact ⟨_,I9,[],U,a6.trans a4,a5,a0⟩)
theorem zs9 {xs:List Int}(hS:Sl I 1 QF C n c xs)(hn:n<=100000)(hV:SlN I J B D rows)(b2:B<=100000)(l:Nat)(hl:∀ r∈rows,l<r.length)(hc:VX rows.length xs=0):kg 167 [.slice J B D,.slice C n c,.int .i64 l] I [] (Jv 1 QF (zBI rows xs l)):=by
 intro g H w hw;refine qe Tryz.func167 Tryz.ntmps167 hw ?_;have z:=zJH I;have b6:=hV.len;subst b6;have c0:=ZJ hc;have c3:=zbX (n:=(rows.length:Int)) ⟨kB,kB⟩;have b9:=KQ (n:=(rows.length:Int)) ⟨kB,kB⟩;have c1:(QT rows xs l 64 (ZS rows.length)).length=(QG rows l).length:=YU;have c4:=zdu (rows:=rows) (l:=l);have c5:=WS (rows:=rows) (l:=l);refine zR (zA<|zN (zR ?_));refine zM ?_;refine zM<|zpc [_,_] U zio .nil (zes hV b2 l hl) ?_
 rintro c6 I1 L1 a8 ⟨rfl,a9,c9,rfl,F⟩;have hS:=hS.mono a8;have hV:=hV.mono a8;have z:=z.trans a8;refine zA<|zN (zR ?_)
 refine zM ?_;refine zM ?_;refine zM ?_;refine zM ?_;refine zQ QM<|zV (U7 U U (fun hg=>kB))<|zB<|zpc [_,_,_,_] U ze4 .nil (zj6 hS hn hV b2 l hl hc) ?_
 rintro c7 I2 L2 a3 ⟨rfl,aC,cC,rfl,hC⟩;have hS:=hS.mono a3;have hV:=hV.mono a3;have F:=F.mono a3;have z:=z.trans a3;refine zA<|zN (zR ?_)
 refine zM ?_;refine zV (Qs U U Qt kE (fun hg=>kB)) ?_;refine zV (Qc U Qr (fun hg=>by exact zJA (k:=0) hC (QE (d:=0) U kB) U))<|zA (zN (Qk (zR<|zA (zN (Ql ?_)))))
 refine zU [(7,_),(8,_)] (fun T L0 mz E o j=>∃ (i:Nat) (b:Int),mz=(QT rows xs l 64 (ZS rows.length)).length-i/\E=(9,.int .i64 b)::(10,.int .i64 i)::T/\I2=o/\L0=j/\i<=(QT rows xs l 64 (ZS rows.length)).length/\b=zfv (QT rows xs l 64 (ZS rows.length)) i) ?_ (h:=⟨0,_,U,U,U,U,jd _,by simp [zfv]⟩);rintro mz E o j ⟨i,b,rfl,rfl,rfl,rfl,hi,hb⟩;refine Qk (zR (zM<|zM ?_));refine zQ Qt<|zC (zN ?_)
 refine zI ?_ ?_<;>intro a5
 ·have A:i<(QT rows xs l 64 (ZS rows.length)).length:=kd a5;obtain ⟨y,hy⟩:=hC.at A;refine Qm<|Qa<|Qk<|Ql<|Qh<|zM ?_;refine zM ?_;refine zM ?_;refine zV (Qs U U Qt kE (fun hg=>kB)) ?_;refine zV (Qc U Qr (fun hg=>by exact zJA hC hy U))<|zV (zgM U U)<|zA (Qe (Qg (Qa (Qh<|zM ?_))))
  exact zB<|zA (Qe<|zm (h:=⟨(QT rows xs l 64 (ZS rows.length)).length-(i+1),kB,i+1,_,U,U,U,U,kB,by rw [XV hy,hb]⟩))
 have b0:(QT rows xs l 64 (ZS rows.length)).length<=i:=kd a5;have b5:i=(QT rows xs l 64 (ZS rows.length)).length:=kB;rw [b5] at hb;have hb:b=ZY (QT rows xs l 64 (ZS rows.length)):=hb;subst hb;refine Qy (Qf (Qf (Qj (Qa (zR<|zpb [] [] QS (fun b8=>zA (Qe<|Xh [] Wq<|Qa (Qk (zR (zA (zN (Ql<|zU [(7,_),(8,_),(9,_)] (fun T L0 mz E o j=>∃ (i:Nat) (a0:Option Addr) (b1:Nat) (a1:Nat),mz=(QT rows xs l 64 (ZS rows.length)).length-i/\E=(11,.slice a0 b1 a1)::(12,.int .i64 i)::T/\HLe I2 o/\L0=j/\i<=(QT rows xs l 64 (ZS rows.length)).length/\Sl o 1 QF a0 b1 a1 (zcF (QG rows l) (QT rows xs l 64 (ZS rows.length)) (ZY (QT rows xs l 64 (ZS rows.length))) i)) ?_ (h:=⟨0,_,0,_,U,U,zJH _,U,jd _,Sl.nil⟩)))))))))))));rintro mz E J4 j ⟨i,a0,b1,a1,rfl,rfl,hJ,rfl,hi,h11⟩;have hS:=hS.mono hJ;have hV:=hV.mono hJ;have F:=F.mono hJ;have hC:=hC.mono hJ;have z:=z.trans hJ;have a2:=hJ;refine Qk (zR (zM<|zM ?_));refine zQ Qt<|zC (zN ?_)
 refine zI ?_ ?_<;>intro a6
 ·have A:i<(QT rows xs l 64 (ZS rows.length)).length:=kd a6;obtain ⟨y,hy⟩:=hC.at A;obtain ⟨x,hx⟩:=F.at (show i<_ by omega);have a4:=h11.len;have c2:=zjZ (st:=(QG rows l)) (cs:=(QT rows xs l 64 (ZS rows.length))) (b:=ZY (QT rows xs l 64 (ZS rows.length))) i;refine Qm<|Qa<|Qk<|Ql<|zR<|zM ?_;refine zM ?_;refine zV (Qs U U Qt kE (fun hg=>kB)) ?_;refine zV (Qc U Qr (fun hg=>by exact zJA hC hy U))<|zM<|zC (zN ?_)
  refine zI ?_ ?_<;>intro a7
  ·have b4:y=ZY (QT rows xs l 64 (ZS rows.length)):=(by simpa using a7);refine Qh (zM<|zM ?_);refine zM ?_;refine zV (Qs U U Qt kE (fun hg=>kB)) ?_;refine zV (Qc U Qr (fun hg=>by exact zJA F hx U))<|zpc [_,_] U zBy .nil (zyJ h11 kB x) ?_
   rintro c8 I5 L5 b3 ⟨rfl,aN,cN,rfl,hN⟩;have a2:=a2.trans b3;refine zA (Qe (Qg (Qa (Qh<|zM ?_))));refine zB<|zA (Qe ?_)
   first
   | exact zm (h:=⟨(QT rows xs l 64 (ZS rows.length)).length-(i+1),kB,i+1,_,_,_,U,U,a2,U,kB,by rw [ztC hx hy b4];exact hN⟩)
  have b7:y≠ZY (QT rows xs l 64 (ZS rows.length)):=(by simpa using a7);refine Qm<|Qg<|Qa<|Qh<|zM ?_;refine zB<|zA (Qe ?_)
  first
  | exact zm (h:=⟨(QT rows xs l 64 (ZS rows.length)).length-(i+1),kB,i+1,_,_,_,U,U,a2,U,kB,by rw [zwS hy b7];exact h11⟩)
 have b0:(QT rows xs l 64 (ZS rows.length)).length<=i:=kd a6;obtain rfl:i=(QT rows xs l 64 (ZS rows.length)).length:=kB;have a4:=h11.len;subst a4;exact Qy (Qf (Qf (Qj (Qa (zR (zM<|zA (zN (Qq<|Zc U U (fun w hw=>⟨_,_,[],U,z,hw.drop,U,a0,a1,U,h11⟩)))))))))
theorem zAy:ke 166:=.of Tryz.func166 kA kA
theorem zAG:ke 167:=.of Tryz.func167 kA kA
theorem zrh {xs:List Int}(hS:Sl I 1 QF C n c xs)(hn:n<=100000)(z:SlN I J B D rows)(b2:B<=100000):kg 109 [.slice J B D,.slice C n c] I [] (zuS rows xs):=by
 intro g H w hw;refine qe Tryz.func109 Tryz.ntmps109 hw ?_;have A:=zJH I;have c0:=z.len;subst c0;obtain ⟨hs,hV⟩:=id z;have hH:=hV.1;refine zR (zA<|zA<|zN (zR ?_));refine zM ?_;refine zM ?_;refine qcV (vs:=[_,_]) U zAy (zBe hS hn z b2)<|zM ?_
 refine zE ?_;refine zE ?_;refine zA<|zA (zN (Qk (zR ?_)))
 refine zM<|zC (zN ?_)
 refine zI ?_ ?_<;>intro a0
 ·have j:YZ rows xs≠0:=(by simpa using a0);refine zR (zM<|zA<|zA (zN (Qq (Qb ?_))))
  first
  | exact QY U U U (fun w hw=>⟨_,_,[],U,A,hw.drop,U,none,0,by rw [XN j];rfl,by rw [XN j];exact .none⟩)
 have j:YZ rows xs=0:=(by simpa using a0);have b3:=Kb j;have b1:VX rows.length xs=0:=(by have h:=j;unfold YZ at h;rw [ja kB] at h;exact h);obtain ⟨c8,d0,b4,b5⟩:=Js b3;obtain ⟨x0,v0,c3,c2,b8⟩:=hV.at (k:=0) kB;have a2:=b8.len;have a6:rows.getD 0 []=v0:=QJ c2;rw [a6] at b4 b5;refine Qm (Qa (zR<|zpb [] [] UK (fun a7=>zA (zN (Qk (zR<|zA (zN (Ql ?_))))))));refine zU [(0,_),(1,_)] (fun T L0 mz E o a3=>∃ (k:Nat) (v8:Value) (os:List Hd) (L:Go.Kn.Loc),mz=x0.n-k/\E=(8,v8)::(9,.int .i64 k)::T/\HLe I o/\L=a3/\k<=x0.n/\OwnS 23 1 v8 k (os.flatMap Kv) L/\WM o os ((List.range k).map (VP rows xs))) ?_ (h:=⟨0,_,[],[(a7,_)],U,U,zJH _,U,jd _,OwnS.new,WM.nil⟩);rintro mz E J1 a3 ⟨k,v8,os,L,rfl,rfl,hJ,rfl,hk,a5,F⟩;have hS:=hS.mono hJ;have z:=z.mono hJ;have hH:=hH.mono hJ;have A:=A.trans hJ;have a4:=hJ;obtain ⟨c4,c5,rfl⟩:=zaV a5;refine Qk (zR (zM<|zM ?_));refine zV (zX QM hH)<|zV (Qc U QA (fun hg=>by exact zJA (k:=0) hH c3 U))<|zQ Qt<|zC (zN ?_)
 refine zI ?_ ?_<;>intro a1
 ·have c1:k<x0.n:=kd a1;refine Qm<|Qa<|Qk<|Ql<|Qh<|zM ?_;refine zM ?_;refine zM ?_;refine zM<|zpc [_,_,_] U zAG .nil (zs9 hS hn z b2 k (fun r hr=>by rw [(b5 r hr).1];omega) b1) ?_
  rintro d1 I2 L2 a9 ⟨rfl,aR,cR,rfl,hR⟩;have F:=F.mono a9;have a4:=a4.trans a9;rw [zrI b3 b1] at hR ⊢;refine zpb [(0,_)] [Kv ⟨aR,(VP rows xs k).length,cR⟩] UK (fun c6=>?_);refine zpa (_) ([(⟨aR,(VP rows xs k).length,cR⟩:Hd)].flatMap Kv) (L) U U UK a5 ⟨U,fun _=>U,by repeat (first | exact zJF | apply zJE | apply zJG)⟩ (zlN _) ?_;intro v9 L9 b0 _;rw [<-jh] at b0;refine zA (Qe (Qg (Qa (Qh<|zM ?_))));refine zB<|zA (Qe ?_)
  exact zm (h:=⟨x0.n-(k+1),kB,k+1,_,_,_,U,U,a4,U,kB,b0,by rw [KE];exact F.snoc (hd:=⟨aR,(VP rows xs k).length,cR⟩) hR⟩)
 have b9:x0.n<=k:=kd a1;obtain rfl:k=x0.n:=kB;refine Qy (Qf (Qf (Qj (Qa (zR (zM<|zA<|zA (zN (Qq ?_))))))))
 first
 | exact QY U U U (fun w hw=>by obtain ⟨I9,c7,c9,a8,b6,e9,b7⟩:=OwnS.freeze (R:=[]) a5 VH kC (by rw [jw];exact hw);cases e9;exact ⟨_,I9,[],U,A.trans a8,b6,U,c4,c5,by rw [Wl j,ju,OG,a6,a2,j],by rw [Wl j,ju,OG,a6,a2];exact ⟨os,b7,F.mono a8⟩⟩)
theorem zjm:∀ (g:List Dg) (c:Int),(VT c g).isSome=g.all fun d=> !zfw d
 | [],_=>rfl
 | d::g,c=>by
  rw [BX];show (if zfw d=true then none else VT (zqS c d) g).isSome=_;cases h:zfw d
  ·rw [ja kJ,zjm g];rfl
  ·rw [jb rfl];rfl
def inR (x:Sg):Bool:= !((((((!Za x.role 0 63|| !Za x.kind 1 9)|| !Za x.side 0 2)|| !Za x.dir 0 8)|| !Za x.level 0 3)|| !Za x.size 0 255)|| !Za x.wth 0 64)
theorem zll (n h g b:Int):(!zfw ⟨n,h,g,b⟩)=Za n h g:=by unfold zfw Za;rw [jI];simp
theorem ziY (x:Sg):(VT 0 (dgs x)).isSome=inR x:=by rw [zjm];unfold dgs inR;simp only [BX,List.all_nil,zll];cases Za x.role 0 63<;>cases Za x.kind 1 9<;>cases Za x.side 0 2<;>cases Za x.dir 0 8<;>cases Za x.level 0 3<;>cases Za x.size 0 255<;>cases Za x.wth 0 64<;>rfl
def zvs (x:Sg):Int:=(((((x.role*16+x.kind)*4+x.side)*16+x.dir)*4+x.level)*256+x.size)*128+x.wth
theorem zgs (h:inR x=true):U8 x=zvs x/\Ki x=0:=by obtain ⟨r,k,s,d,l,z,w,hd,e⟩:=zqt (by rw [ziY];exact h);obtain ⟨h1,h2⟩:=Xu hd e;refine ⟨?_,h2⟩;obtain ⟨g,j,A,E,F,H,T⟩:=e;rw [h1];unfold zvs za7;rw [g,j,A,E,F,H,T];omega
theorem zkn (h:inR x=false):U8 x=0/\Ki x=410:=zol (by rw [ziY];exact h)
theorem zCp (h:inR x=true):(0<=x.role/\x.role<=63)/\(1<=x.kind/\x.kind<=9)/\(0<=x.side/\x.side<=2)/\(0<=x.dir/\x.dir<=8)/\(0<=x.level/\x.level<=3)/\(0<=x.size/\x.size<=255)/\(0<=x.wth/\x.wth<=64):=by unfold inR Za at h;simp only [jZ,jS,OC,ji,jG] at h;omega
def zr9 (c:Int):Sg:=⟨0,IntKind.i64.wrap (c.tdiv 134217728),0,0,(IntKind.i64.wrap (c.tdiv 8388608)).tmod 16,(IntKind.i64.wrap (c.tdiv 2097152)).tmod 4,(IntKind.i64.wrap (c.tdiv 131072)).tmod 16,(IntKind.i64.wrap (c.tdiv 32768)).tmod 4,(IntKind.i64.wrap (c.tdiv 128)).tmod 256,c.tmod 128,0,0,0,0⟩
theorem zyd (g:c<8589934592):IntKind.i64.wrap ((c:Int).tdiv (d:Int))=((c / d:Nat):Int):=by have h:(c:Int).tdiv (d:Int)=((c / d:Nat):Int):=(by rw [Int.tdiv_eq_ediv_of_nonneg kB];rfl);rw [h,zcO];have:=Nat.div_le_self c d;generalize c / d=q at*;omega
theorem zmI :((c:Int).tmod (d:Int))=((c % d:Nat):Int):=by rw [Int.tmod_eq_emod_of_nonneg kB];rfl
theorem zmL {c:Int}(h0:0<=c)(h:c<8589934592):zr9 c=zlB c:=by
 obtain ⟨n,rfl⟩:∃ n:Nat,c=n:=⟨c.toNat,kB⟩;have j:n<8589934592:=kB;rw [zd5 n kB];unfold zr9;have q:=fun d:Nat=>zyd (d:=d) j;have g:=fun d m:Nat=>show (IntKind.i64.wrap ((n:Int).tdiv (d:Int))).tmod (m:Int)=((n / d % m:Nat):Int) by rw [q d,zmI]
 rw [show IntKind.i64.wrap ((n:Int).tdiv 134217728)=_ from q 134217728,show (IntKind.i64.wrap ((n:Int).tdiv 8388608)).tmod 16=_ from g 8388608 16,show (IntKind.i64.wrap ((n:Int).tdiv 2097152)).tmod 4=_ from g 2097152 4,
  show (IntKind.i64.wrap ((n:Int).tdiv 131072)).tmod 16=_ from g 131072 16,show (IntKind.i64.wrap ((n:Int).tdiv 32768)).tmod 4=_ from g 32768 4,show (IntKind.i64.wrap ((n:Int).tdiv 128)).tmod 256=_ from g 128 256,show (n:Int).tmod 128=_ from zmI (c:=n) (d:=128)]
 simp only [Nat.div_div_eq_div_mul]
theorem zfZ {c:Int}(h:c<0\/8589934592<=c):Vb c=410/\UU c=za5:=by
 have g:Vb c≠0:=fun e=>(by have:=zgr e;omega);refine ⟨?_,by unfold UU;rw [jb g]⟩;unfold Vb Ki at*;split
 ·rename_i h2;rw [jb h2] at g;exact absurd U g
 ·rfl
theorem zgN {c:Int}(h0:0<=c)(h:c<8589934592)(g:Ki (zr9 c)≠0):Vb c=Ki (zr9 c)/\UU c=za5:=by rw [zmL h0 h] at g ⊢;exact ⟨U,by unfold UU;rw [jb (show Vb c≠0 from g)]⟩
theorem zj5 {c:Int}(h0:0<=c)(h:c<8589934592)(g:Ki (zr9 c)=0):Vb c=0/\UU c=zr9 c:=by rw [zmL h0 h] at g ⊢;exact ⟨g,by unfold UU;rw [ja (by rw [show Vb c=0 from g];decide)]⟩
variable{a4:Go.Kn.Loc}
theorem Cells.tl {u:Value}(h:Cells I a4 b K (u::vs)):Cells I a4 b (K+1) vs:=fun j v g=>by
 have:=h (j+1) v g;rwa [show K+(j+1)=K+1+j by omega] at this
theorem zIW {g l j:Int}(h:k=0/\l=0\/0<k/\1<=l/\j=l):((!Za no 1 1048576||(decide ((k:Int)>0)&&decide (no<=j)))|| !Za g 0 3000)=(((decide (no<=l)||decide (no>1048576))||decide (g<0))||decide (g>3000)):=by unfold Za;rw [jI];simp only [On,jZ,ji,AJ,jG,jR];omega
theorem zsf (x:Sg):(Kg [x] != 0)= !frm x:=by unfold Kg skB skP;cases h:frm x<;>simp [h]
theorem zHT (h:r.lost=true):Wb r.sg Yc= !zcR r:=by rw [zn6 h _ rfl];simp
theorem zG0 (h:r.lost=false):(frm r.sg&&(r.sg.id==0))= !zcR r:=by
 cases g:(r.sg.id != 0)
 ·rw [zva h g,zsf];have:(r.sg.id==0)=true:=by simpa using g
  rw [this];cases frm r.sg<;>rfl
 ·rw [zu3 h g];have:(r.sg.id==0)=false:=by simpa using g
  rw [this];cases frm r.sg<;>rfl
theorem zzW {l:Int}{x:Wr}(h:ziJ l x=false):l<x.no:=by unfold ziJ at h;simp only [jS,jR] at h;omega
def zWt:Wt:=⟨0,0,none,0,0⟩
theorem zsB {g j:Nat}(h:Nat.gcd a b=Nat.gcd g j):Nat.gcd b (a % b)=Nat.gcd g j:=
 (BH b (a % b)).trans ((Nat.gcd_rec b a).symm.trans ((BH b a).trans h))
theorem ztP {a b:Int}(g:0<=a)(h:0<=b):((Nat.gcd a.toNat b.toNat:Nat):Int)=zlK a b:=by unfold zlK Int.gcd;congr 2<;>omega
theorem zrD (n d:Int):zlK (zcV n) d=zlK n d:=by
 unfold zlK Int.gcd;have:(zcV n).natAbs=n.natAbs:=by unfold zcV;split<;>omega
 rw [this]
theorem zx3 {n:Int}(h: -1073741824<=n/\n<=1073741824):0<=zcV n/\zcV n<=1073741824:=by unfold zcV;split<;>omega
theorem ztS (n d:Int):(((((decide (d>=1)&&decide (d<=1073741824))&&decide (n>= -1073741824))&&decide (n<=1073741824))&&(zlK (zcV n) d==1)))=K7 n d:=by unfold K7;rw [zrD,jI];simp only [ji,jG,jW,jZ,jS,jR,BQ];omega
theorem zrN (g z j h:Int):((((K7 g z&&K7 j h)&&decide (g>=0))&&decide (g*h<j*z))&&decide (j<=h))=XJ g z j h:=by unfold XJ;generalize (K7 g z&&K7 j h)=a;generalize decide (g>=0)=b;generalize decide (g*h<j*z)=c;generalize decide (j<=h)=d;cases a<;>cases b<;>cases c<;>cases d<;>rfl
def frA (x:Sg):Bool:=(((!Za x.id 0 1048576|| !Za x.role 0 63)|| !Za x.bar 0 4095)|| !Za x.kind 1 9)|| !Za x.mark 1 3
def frB (x:Sg):Bool:=(((!Za x.side 0 2|| !Za x.dir 0 8)|| !Za x.level 0 3)|| !Za x.size 0 255)|| !Za x.wth 0 64
theorem zoB (x:Sg):frm x=((!frA x&& !frB x)&&XJ x.fn x.fd x.tn x.td):=by unfold frm zGv frA frB;generalize Za x.id 0 1048576=b1;generalize Za x.role 0 63=b2;generalize Za x.bar 0 4095=b3;generalize Za x.kind 1 9=b4;generalize Za x.mark 1 3=b5;generalize Za x.side 0 2=b6;generalize Za x.dir 0 8=b7;generalize Za x.level 0 3=b8;generalize Za x.size 0 255=b9;generalize Za x.wth 0 64=b10;cases b1<;>cases b2<;>cases b3<;>cases b4<;>cases b5<;>first | rfl | (cases b6<;>cases b7<;>cases b8<;>cases b9<;>cases b10<;>rfl)
theorem zIb (h:frA x=true):frm x=false:=by rw [zoB,h];rfl
theorem zGA (h:frB x=true):frm x=false:=by rw [zoB,h];simp
theorem zIu (h:frA x=false)(h2:frB x=false):frm x=XJ x.fn x.fd x.tn x.td:=by rw [zoB,h,h2];rfl
theorem zuH {xs:List Sg}(h:xs.length>4096):Kg xs=2:=by unfold Kg;rw [jb h]
theorem zvR {xs:List Sg}(h:¬xs.length>4096)(h2:skB xs=false):Kg xs=360:=by unfold Kg;rw [ja h,h2];rfl
theorem zuk {xs:List Sg}(h:¬xs.length>4096)(h2:skB xs=true):Kg xs=0:=by unfold Kg;rw [ja h,h2];rfl
theorem zhX:ke 178:=.of Tryz.func178 kA kA
theorem UF:ke 216:=.of Tryz.func216 kA kA
theorem zob:ke 218:=.of Tryz.func218 kA kA
theorem znV:ke 223:=.of Tryz.func223 kA kA
theorem zzy:ke 241:=.of Tryz.func241 kA kA
theorem K2:ke 244:=.of Tryz.func244 kA kA
theorem zzD:ke 245:=.of Tryz.func245 kA kA
theorem zzv:ke 256:=.of Tryz.func256 kA kA
theorem zwL:ke 257:=.of Tryz.func257 kA kA
theorem zn0:ke 261:=.of Tryz.func261 kA kA
theorem zya:ke 263:=.of Tryz.func263 kA kA
theorem zA1:ke 264:=.of Tryz.func264 kA kA
theorem zHF (I:Qu)(z A:Nat)(_ha:z<=1073741824)(_hb:A<=1073741824):kf 263 [.int .i64 z,.int .i64 A] I (.int .i64 (Nat.gcd z A:Nat)):=by
 intro g H w hw;refine qe Tryz.func263 Tryz.ntmps263 hw ?_;refine zR (zA (zN (Qk (Ql<|zo7 [] .nil (fun T L0 mz E o j=>∃ (a b:Nat),mz=(b+1)/\E=(0,.int .i64 a)::(1,.int .i64 b)::T/\I=o/\L0=j/\Nat.gcd a b=Nat.gcd z A) _ _ _ _ ⟨z,A,U,U,U,U,U⟩ kc (zJH _) U ?_))));rintro mz E o j ⟨a,b,rfl,rfl,rfl,rfl,a1⟩;refine Qk (zR (zM<|zC (zN ?_)));refine zI ?_ ?_<;>intro F
 ·have a3:0<b:=kd F;refine Qm<|Qa<|Ql<|zR<|zM ?_;refine zM ?_;refine zV (ZU U U (fun hg=>kB)) ?_;rw [zjy];refine zA<|zN (zR ?_)
  refine zM<|zA (zN (Qh ?_))
  exact zM<|zA (Qe (Qg<|zm (h:=⟨a % b+1,Nat.succ_lt_succ (A8 _ a3),b,a % b,U,U,U,U,zsB a1⟩)))
 have a2:b=0:=kd F;refine Qy (Qf (Qf (Qj (Qa (zR (zM<|zA (zN (Qq ?_))))))));exact zr U U (by rw [<-a1,a2,Nat.gcd_zero_right])
theorem zD1 (I:Qu)(a b:Int)(g:0<=a/\a<=1073741824)(j:0<=b/\b<=1073741824):kf 263 [.int .i64 a,.int .i64 b] I (.int .i64 (zlK a b)):=by have h:=zHF I a.toNat b.toNat kB kB;rw [AT g.1,AT j.1,ztP g.1 j.1] at h;exact h
theorem zDY (I:Qu)(n:Int)(z: -1073741824<=n/\n<=1073741824):kf 264 [.int .i64 n] I (.int .i64 (zcV n)):=by
 intro g H w j;refine qe Tryz.func264 Tryz.ntmps264 j ?_;refine zR<|zA<|zN<|Qk<|zR ?_;refine zM<|zC (zN ?_)
 refine zI ?_ ?_<;>intro h
 ·refine zR (zM<|zV (zgG U)<|zA (zN (Qq (Qb ?_))))
  first
  | exact zr U U (by unfold zcV;rw [jb (by simpa using h),zct kB])
 refine Qm (Qa (zR (zM<|zA (zN (Qq ?_)))))
 first
 | exact zr U U (by unfold zcV;rw [ja (by simpa using h)])
theorem zqy (I:Qu)(n d:Int):kf 261 [WN (n) (d)] I (.bool (K7 n d)):=by
 intro g H w j;refine qe Tryz.func261 Tryz.ntmps261 j ?_;refine zR<|QU U U U (fun h=>zA (zN (Qk<|ZW mixed kA<|zq (Qi U Y4)<|zq (Qc U Qr (fun hg=>by exact QO.h0 U))<|zq (Qx U U U)<|zq (Qd U)<|Yd 3 U U U<|zk (Qi U Y4)<|zk (Qc U Qr (fun hg=>by exact QO.h0 U))<|zk (Qx U U U) ?_)))
 refine JM U U U U U<|zq (Qd U)<|Yd 8 U U U<|zk (Qi U YB)<|zk (Qc U Qr (fun hg=>by exact QO.h0 U))<|zk (Qx U U U)<|JM U U U U U<|zq (Qd U)<|Yd 13 U U U<|zk (Qi U YB)<|zk (Qc U Qr (fun hg=>by exact QO.h0 U))<|zk (Qx U U U) ?_
 refine JM U U U U U<|zq (Qd U)<|Yd 18 U U U<|zk (Qi U YB)<|zk (Qc U Qr (fun hg=>by exact QO.h0 U))<|Va (cap:=[]) (vs:=[_]) U U zA1 (fun hg=>zDY I n (by simp [ZH] at hg;omega)) (.some U U U U gbt) U U<|zk (Qi U Y4)<|zk (Qc U Qr (fun hg=>by exact QO.h0 U))<|Va (cap:=[]) (vs:=[_,_]) U U zya (fun hg=>zD1 I _ d (zx3 (by simp [ZH] at hg;omega)) (by simp [ZH] at hg;omega)) (.some U U U U gbt) U U<|zk (Qx U U U)<|JM U U U U U<|zq (ZE U) ?_
 exact ZX<|Qa (Qq<|zr U U (by rw [<-ztS]))
theorem zDG (I:Qu)(j h A z:Int):kf 256 [WN (j) (h),WN (A) (z)] I (.bool (K7 j h&&K7 A z)):=by
 intro g H w T;refine qe Tryz.func256 Tryz.ntmps256 T ?_;refine zR<|QU U U U (fun E=>QU U U U (fun F=>zA<|zN (zR<|zV (Qo U Ys (fun hg=>by exact Cells.g1) U)<|qcV (vs:=[_]) U zn0 (zqy I _ _)<|zM ?_)))
 refine Qw 2 U U U<|zK (Qo U Ys (fun hg=>by exact Cells.g0) U)<|qg (vs:=[_]) U zn0 (fun hg=>zqy I _ _)<|QC U U U U U<|zA (zN (Qq ?_))
 exact zr U U kL
theorem zCU (I:Qu)(j h A z:Int)(T:K7 j h=true)(hb:K7 A z=true):kf 257 [WN (j) (h),WN (A) (z)] I (.bool (decide (j*z<A*h))):=by
 intro g H w hw;refine qe Tryz.func257 Tryz.ntmps257 hw ?_;have ⟨a0,a1⟩:=zag T;have ⟨a2,a3⟩:=zag hb;refine zR<|QU U U U (fun E=>QU U U U (fun F=>zA<|zN (zR<|zF YB ?_)))
 refine zL Qr<|zF Y4 ?_
 refine zL Qr ?_;refine zV (Zf U U U (fun _=>by exact zlq kB kB))<|zF YB ?_
 refine zL Qr<|zF Y4 ?_
 refine zL Qr ?_;refine zV (Zf U U U (fun _=>by exact zlq kB kB))<|zC<|zA (zN (Qq ?_))
 exact zr U U kL
theorem JU (I:Qu)(n j h:Int):kf 244 [.int .i64 n,.int .i64 j,.int .i64 h] I (.bool (Za n j h)):=by
 intro g H w z;refine qe Tryz.func244 Tryz.ntmps244 z ?_;refine zR (zA<|zN (zR ?_));refine zM ?_;refine zM<|zC ?_
 refine zM ?_;refine Qw 3 U U U ?_;refine zK (Qd U) ?_;refine zK (Qd U) ?_;refine zK (Qx U U U) ?_;refine QC U U U U U<|zA (zN (Qq ?_))
 exact zr U U kL
theorem zCz (I:Qu)(j h A z:Int):kf 245 [WN (j) (h),WN (A) (z)] I (.bool (XJ j h A z)):=by
 intro g H w T;refine qe Tryz.func245 Tryz.ntmps245 T ?_;refine zR<|QU U U U (fun E=>QU U U U (fun F=>zA<|zN (zR<|zV (Qo U Ys (fun hg=>by exact Cells.g1) U)<|zV (Qo U Ys (fun hg=>by exact Cells.g0) U)<|qcV (vs:=[_,_]) U zzv (zDG I _ _ _ _) ?_)))
 refine zA<|zN (zR ?_)
 refine zM ?_;refine zM ?_;refine Qw 1 U U U ?_;refine zK (Qi U YB) ?_;refine zK (Qc U Qr (fun hg=>by exact QO.h1 U))<|zK (Qx U U U) ?_
 refine QC U U U U U ?_;refine zM ?_;refine Qw 6 U U U<|zK (Qo U Ys (fun hg=>by exact Cells.g1) U)<|zK (Qo U Ys (fun hg=>by exact Cells.g0) U)<|qg (vs:=[_,_]) U zwL (fun hg=>zCU I _ _ _ _ (by simp [ZH] at hg;exact hg.1.1) (by simp [ZH] at hg;exact hg.1.2))<|QC U U U U U ?_
 refine zM ?_;refine Qw 11 U U U ?_;refine zK (Qi U YB) ?_;refine zK (Qc U Qr (fun hg=>by exact QO.h0 U))<|zK (Qi U Y4) ?_
 refine zK (Qc U Qr (fun hg=>by exact QO.h0 U))<|zK (Qx U U U) ?_
 refine QC U U U U U<|zA (zN (Qq ?_))
 exact zr U U (by rw [<-zrN])
theorem zCW (I:Qu)(x:Sg):kf 223 [VD x] I (.bool (frm x)):=by
 intro g H w A;refine qe Tryz.func223 Tryz.ntmps223 A ?_;refine zR<|QU U U U (fun z=>zA (zN (Qk (zR<|zF Zu ?_))))
 refine zL Qr<|qcV (vs:=[_,_,_]) U K2 (JU I _ _ _)<|zO<|zM ?_
 refine QI 4 U U U ?_;refine zJ (Qi U Vm) ?_;refine zJ (Qc U Qr (fun hg=>by exact QO.h0 U))<|qf (vs:=[_,_,_]) U K2 (fun hg=>JU I _ _ _)<|zJ (ZT U)<|Q5 U U U U U<|zM ?_
 refine QI 10 U U U ?_;refine zJ (Qi U Vn) ?_;refine zJ (Qc U Qr (fun hg=>by exact QO.h0 U))<|qf (vs:=[_,_,_]) U K2 (fun hg=>JU I _ _ _)<|zJ (ZT U)<|Q5 U U U U U<|zM ?_
 refine QI 16 U U U ?_;refine zJ (Qi U Ur) ?_;refine zJ (Qc U Qr (fun hg=>by exact QO.h0 U))<|qf (vs:=[_,_,_]) U K2 (fun hg=>JU I _ _ _)<|zJ (ZT U)<|Q5 U U U U U<|zM ?_
 refine QI 22 U U U ?_;refine zJ (Qi U YP) ?_;refine zJ (Qc U Qr (fun hg=>by exact QO.h0 U))<|qf (vs:=[_,_,_]) U K2 (fun hg=>JU I _ _ _)<|zJ (ZT U)<|Q5 U U U U U<|zN ?_
 refine zI ?_ ?_<;>intro h
 ·exact zR (zA (zN (Qq (Qb<|zr U U (by exact jA (fun b=>Ending.returned (Value.bool b)) (zIb h).symm)))))
 refine Qm (Qa (Qk (zR<|zF Vr ?_)));refine zL Qr<|qcV (vs:=[_,_,_]) U K2 (JU I _ _ _)<|zO<|zM ?_
 refine QI 4 U U U ?_;refine zJ (Qi U Vq) ?_;refine zJ (Qc U Qr (fun hg=>by exact QO.h0 U))<|qf (vs:=[_,_,_]) U K2 (fun hg=>JU I _ _ _)<|zJ (ZT U)<|Q5 U U U U U<|zM ?_
 refine QI 10 U U U ?_;refine zJ (Qi U Vj) ?_;refine zJ (Qc U Qr (fun hg=>by exact QO.h0 U))<|qf (vs:=[_,_,_]) U K2 (fun hg=>JU I _ _ _)<|zJ (ZT U)<|Q5 U U U U U<|zM ?_
 refine QI 16 U U U ?_;refine zJ (Qi U Vo) ?_;refine zJ (Qc U Qr (fun hg=>by exact QO.h0 U))<|qf (vs:=[_,_,_]) U K2 (fun hg=>JU I _ _ _)<|zJ (ZT U)<|Q5 U U U U U<|zM ?_
 refine QI 22 U U U ?_;refine zJ (Qi U Vl) ?_;refine zJ (Qc U Qr (fun hg=>by exact QO.h0 U))<|qf (vs:=[_,_,_]) U K2 (fun hg=>JU I _ _ _)<|zJ (ZT U)<|Q5 U U U U U<|zN ?_
 refine zI ?_ ?_<;>intro j
 ·exact zR (zA (zN (Qq (Qb<|zr U U (by exact jA (fun b=>Ending.returned (Value.bool b)) (zGA j).symm)))))
 refine Qm (Qa (zR<|zF Yy ?_));refine zV (Qo U Ys (fun hg=>by exact Cells.s0 (vs:=[_,_]) U) U)<|zF Yz ?_
 refine zV (Qo U Ys (fun hg=>by exact Cells.s0 (vs:=[_,_]) U) U)<|qcV (vs:=[_,_]) U zzD (zCz I _ _ _ _) ?_
 refine zA<|zN<|Qq ?_;exact zr U U (by exact jA (fun b=>Ending.returned (Value.bool b)) (zIu h j).symm)
theorem Kq (I:Qu)(n j h:Int):kf 216 [.int .i64 n,.int .i64 j,.int .i64 h] I (.bool (Za n j h)):=by
 intro g H w z;refine qe Tryz.func216 Tryz.ntmps216 z ?_;refine zR (zA<|zN (zR ?_));refine zM ?_;refine zM<|zC ?_
 refine zM ?_;refine Qw 3 U U U ?_;refine zK (Qd U) ?_;refine zK (Qd U) ?_;refine zK (Qx U U U) ?_;refine QC U U U U U<|zA (zN (Qq ?_))
 exact zr U U kL
theorem zt9 (I:Qu)(x:Sg):kf 218 [VD x] I (.tuple #[.int .i64 (U8 x),.int .i64 (Ki x)]):=by
 intro g H w z;refine qe Tryz.func218 Tryz.ntmps218 z ?_;refine zR<|QU U U U (fun A=>zA<|zA (zN (Qk (zR<|zF Vm ?_))))
 refine zL Qr<|qcV (vs:=[_,_,_]) U UF (Kq I _ _ _)<|zO<|zM ?_
 refine QI 4 U U U ?_;refine zJ (Qi U Ur) ?_;refine zJ (Qc U Qr (fun hg=>by exact QO.h0 U))<|qf (vs:=[_,_,_]) U UF (fun hg=>Kq I _ _ _)<|zJ (ZT U)<|Q5 U U U U U<|zM ?_
 refine QI 10 U U U ?_;refine zJ (Qi U Vr) ?_;refine zJ (Qc U Qr (fun hg=>by exact QO.h0 U))<|qf (vs:=[_,_,_]) U UF (fun hg=>Kq I _ _ _)<|zJ (ZT U)<|Q5 U U U U U<|zM ?_
 refine QI 16 U U U ?_;refine zJ (Qi U Vq) ?_;refine zJ (Qc U Qr (fun hg=>by exact QO.h0 U))<|qf (vs:=[_,_,_]) U UF (fun hg=>Kq I _ _ _)<|zJ (ZT U)<|Q5 U U U U U<|zM ?_
 refine QI 22 U U U ?_;refine zJ (Qi U Vj) ?_;refine zJ (Qc U Qr (fun hg=>by exact QO.h0 U))<|qf (vs:=[_,_,_]) U UF (fun hg=>Kq I _ _ _)<|zJ (ZT U)<|Q5 U U U U U<|zM ?_
 refine QI 28 U U U ?_;refine zJ (Qi U Vo) ?_;refine zJ (Qc U Qr (fun hg=>by exact QO.h0 U))<|qf (vs:=[_,_,_]) U UF (fun hg=>Kq I _ _ _)<|zJ (ZT U)<|Q5 U U U U U<|zM ?_
 refine QI 34 U U U ?_;refine zJ (Qi U Vl) ?_;refine zJ (Qc U Qr (fun hg=>by exact QO.h0 U))<|qf (vs:=[_,_,_]) U UF (fun hg=>Kq I _ _ _)<|zJ (ZT U)<|Q5 U U U U U<|zN ?_
 refine zI ?_ ?_<;>intro h
 ·have j:inR x=false:=(by unfold inR;exact jA (! ·) h);exact zR (zA<|zA (zN (Qq (Qb<|QY U U U (fun w z=>⟨by rw [(zkn j).1,(zkn j).2],z.drop⟩)))))
 have j:inR x=true:=(by unfold inR;exact jA (! ·) h);obtain ⟨E,F,T,a0,a1,a2,a3⟩:=zCp j;refine Qm (Qa (zR<|zF Vm ?_));refine zL Qr ?_;refine zB<|zF Ur ?_
 refine zL Qr ?_;refine zB ?_;refine zB<|zF Vr ?_
 refine zL Qr ?_;refine zB ?_;refine zB<|zF Vq ?_
 refine zL Qr ?_;refine zB ?_;refine zB<|zF Vj ?_
 refine zL Qr ?_;refine zB ?_;refine zB<|zF Vo ?_
 refine zL Qr ?_;refine zB ?_;refine zB<|zF Vl ?_
 refine zL Qr ?_;refine zB<|zA<|zA (zN (Qq ?_))
 first
 | exact QY U U U (fun w z=>⟨by rw [(zgs j).1,(zgs j).2];rfl,z.drop⟩)
theorem znn (I:Qu)(c:Int):kf 178 [.int .i64 c] I (.tuple #[VD (UU c),.int .i64 (Vb c)]):=by
 intro g H w F;refine qe Tryz.func178 Tryz.ntmps178 F ?_;refine zR<|Qv Kc U U (fun a0=>zA (zN (Qk (zR ?_))))
 refine zM<|zC ?_
 refine zM ?_;refine QI 2 U U U ?_;refine zJ (Qd U)<|zJ (Qx U U U) ?_
 refine Q5 U U U U U<|zN ?_
 refine zI ?_ ?_<;>intro j
 focus
  have T:c<0\/8589934592<=c:=(by simpa using j);have k1:=(zfZ T).2;have A:=(zfZ T).1;refine zR<|zV (QK (ps:=[]) [_,_,_,_,_,_,_,_,_,_,_,_,_,_] JI U U)<|zh Zy ?_
  refine zA<|zN<|Qq<|Qb ?_
 rotate_left
 have h:0<=c/\c<8589934592:=kd j;refine Qm (Qa (zR (zM<|zV (ZU U U (fun hg=>by decide))<|zM ?_)));refine zV (zdn U U (fun hg=>by decide))<|zV (ZU U U (fun hg=>by decide))<|zM ?_
 refine zV (zdn U U (fun hg=>by decide))<|zV (ZU U U (fun hg=>by decide))<|zM ?_
 refine zV (zdn U U (fun hg=>by decide))<|zV (ZU U U (fun hg=>by decide))<|zM ?_
 refine zV (zdn U U (fun hg=>by decide))<|zV (ZU U U (fun hg=>by decide))<|zM ?_
 refine zV (zdn U U (fun hg=>by decide))<|zV (ZU U U (fun hg=>by decide))<|zM ?_
 refine zV (zdn U U (fun hg=>by decide))<|zV (QK (ps:=[(9,_),(8,_),(7,_),(6,_),(5,_),(4,_),(1,_)]) [_,_,_,_,_,_,_,_,_,_,_,_,_,_] JI U U)<|Qv Kc U U (fun a1=>?_)
 refine zh Zy ?_;refine zN<|zR ?_;refine zV (Qo U QQ (fun hg=>by exact Cells.g0) U) ?_;refine qcV (vs:=[_]) U zob (zt9 I (zr9 c)) ?_;refine zM ?_;refine zE ?_;refine zE ?_;refine zA<|zA (zN (Qk (zR ?_)))
 refine zM<|zC (zN ?_)
 refine zI ?_ ?_<;>intro z
 focus
  have E:Ki (zr9 c)≠0:=(by simpa using z);have k1:=(zgN h.1 h.2 E).2;have A:=(zgN h.1 h.2 E).1;refine zR<|zV (QK (ps:=[]) [_,_,_,_,_,_,_,_,_,_,_,_,_,_] JI U U)<|zM<|zh Zy ?_
  refine zA<|zN<|Qq<|Qb ?_
 rotate_left
 have E:Ki (zr9 c)=0:=(by simpa using z);have k1:=(zj5 h.1 h.2 E).2;have A:=(zj5 h.1 h.2 E).1;refine Qm (Qa (zR<|zV (Qo U QQ (fun hg=>by exact Cells.g0) U)<|zh Zy ?_));refine zA<|zN<|Qq ?_
 all_goals
  exact Zg U U U QQ kI U (fun w F=>⟨by rw [k1,A];rfl,F.drop⟩)
theorem zr3 (I:Qu)(c:Int):kf 241 [.int .i64 c] I (.bool (!za0 c)):=by
 intro g H w j;refine qe Tryz.func241 Tryz.ntmps241 j ?_;refine zR (zA<|zN (zR ?_));refine zM ?_;refine qcV (vs:=[_]) U zhX (znn I _)<|zM ?_
 refine zE ?_;refine zE<|Qv Kc U U (fun h=>zh Zy ?_)
 refine zA<|zN (zR ?_)
 refine zM<|zC ?_
 refine zM ?_;refine QI 2 U U U ?_;refine zJ (Qd U)<|zJ (Qx U U U) ?_
 refine Q5 U U U U U ?_;refine zA<|zN<|Qq ?_;exact zr U U (by unfold za0;rw [show (!((Vb c != 0)&&(c != 8589934592)))=((Vb c==0)||(c==8589934592)) by cases h1:(Vb c==0)<;>cases h2:(c==8589934592)<;>simp [bne,h1,h2]])
theorem zCs {xs:List Int}(hS:Sl I 1 QF C n c xs)(hn:n<=100000):kf 219 [.slice C n c] I (.bool (!xs.any za0)):=by
 intro g H w hw;refine qe Tryz.func219 Tryz.ntmps219 hw ?_;refine zR (zA (zN (Qk (zR<|zA (zN (Ql ?_))))));refine zU [(0,_)] (fun T L0 mz E o z=>∃ (k:Nat),mz=n-k/\E=(3,.int .i64 k)::T/\I=o/\L0=z/\k<=n/\(xs.take k).any za0=false) ?_ (h:=⟨0,U,U,U,U,jd _,U⟩);rintro mz E o z ⟨k,rfl,rfl,rfl,rfl,hk,a0⟩;refine Qk (zR (zM<|zM ?_));refine zQ Qt<|zC (zN ?_)
 refine zI ?_ ?_<;>intro a1
 ·have F:k<n:=kd a1;obtain ⟨x,hx⟩:=hS.at F;refine Qm<|Qa<|Qk<|Ql<|zR<|zM ?_;refine zM ?_;refine zV (Qs U U Qt kE (fun hg=>kB)) ?_;refine zV (Qc U Qr (fun hg=>by exact zJA hS hx U))<|qcV (vs:=[_]) U zzy (zr3 I _) ?_
  refine zA<|zN (zR ?_)
  refine zM<|zO (zN ?_)
  refine zI ?_ ?_<;>intro j
  ·have a2:za0 x=true:=(by simpa using j);refine zR (zA (zN (Qq (Qn (Qb (Qb (Qn<|Qb ?_)))))))
   first
   | exact zr U U (by rw [YN hx a2];rfl)
  refine Qm<|Qg<|Qa<|Qh<|zM ?_;exact zB<|zA (Qe<|zm (h:=⟨n-(k+1),kB,k+1,U,U,U,U,kB,Z3 hx a0 (by simpa using j)⟩))
 have A:n<=k:=kd a1;rw [QZ hS.len A] at a0;refine Qy (Qf (Qf (Qj (Qa (zR (zA (zN<|Qq ?_)))))))
 first
 | exact zr U U (by rw [a0];rfl)
theorem ze3 (I:Qu)(x y:Int):kf 221 [.int .i64 x,.int .i64 y] I (.int .i64 (zdB x y)):=by
 intro g H w z;refine qe Tryz.func221 Tryz.ntmps221 z ?_;refine zR<|zA<|zN<|Qk<|zR ?_;refine zM ?_;refine zM<|zC ?_
 refine zM ?_;refine QI 3 U U U ?_;refine zJ (Qd U)<|zJ (Qx U U U) ?_
 refine Q5 U U U U U<|zM ?_
 refine QI 7 U U U ?_;refine zJ (Qd U)<|zJ (Qx U U U) ?_
 refine Q5 U U U U U<|zN ?_
 refine zI ?_ ?_<;>intro j
 ·refine zR<|zA<|zN<|Qq<|Qb ?_
  first
  | exact zr U U (by unfold zdB;rw [ja (by have h:=j;simp only [On,jW] at h;simp only [ji,Ba,Bb];omega)])
 refine Qm<|Qa<|zR<|zA<|zN<|Qq ?_
 first
 | exact zr U U (by unfold zdB;rw [jb (by have h:=j;simp only [jS,OL,Bb] at h;simp only [ji,Ba,Bb];omega)])
theorem zpO (I:Qu)(r:Rd):kf 217 [.agg (Kf r).toArray] I (.bool (!zcR r)):=by
 intro g H w A;refine qe Tryz.func217 Tryz.ntmps217 A ?_;refine zR<|QU U U U (fun z=>zA (zN (Qk (zR<|zF JA ?_))))
 refine zL K1<|zN ?_
 refine zI ?_ ?_<;>intro j
 ·have h:r.lost=true:=(by simpa using j);refine zR<|zF V1 ?_
  refine zV (Qo U QQ (fun hg=>by exact Cells.s0 (vs:=[_,_,_,_,_,_,_,_,_,_,_,_,_,_]) U) U)<|zV (QK (ps:=[]) [_,_,_,_,_,_,_,_,_,_,_,_,_,_] JI U U)<|zV (Xa U U Um U)<|zA (zN (Qq (Qb ?_)))
  first
  | exact zr U U (by rw [<-zHT h];rfl)
 have h:r.lost=false:=(by simpa using j);refine Qm (Qa (zR<|zF V1 ?_));refine zV (Qo U QQ (fun hg=>by exact Cells.s0 (vs:=[_,_,_,_,_,_,_,_,_,_,_,_,_,_]) U) U)<|qcV (vs:=[_]) U znV (zCW I r.sg) ?_
 refine zA<|zN (zR ?_)
 refine zM ?_;refine zM ?_;refine Qw 1 U U U ?_;refine zK (Qi U V1)<|zK (Qi U Zu) ?_
 refine zK (Qc U Qr (fun hg=>by exact QO.h0 U))<|zK (Qx U U U) ?_
 refine QC U U U U U<|zA (zN (Qq ?_))
 exact zr U U (by rw [<-zG0 h])
theorem zAC:ke 217:=.of Tryz.func217 kA kA
theorem zCg (hW:SlW I C n c xs)(hn:n<=100000):kf 171 [.slice C n c] I (.int .i64 (WF xs)):=by
 intro g H w hw;refine qe Tryz.func171 Tryz.ntmps171 hw ?_;obtain ⟨ws,hW⟩:=hW;have A:=hW.1;have b2:=hW.len;refine zR<|zA<|zN<|Qk<|zR ?_;refine zM ?_;refine zQ Z9<|zC (zN ?_)
 refine zI ?_ ?_<;>intro b5
 ·have h1:xs.length>24:=(by rw [b2];simp at b5;omega);exact zR (zA (zN (Qq (Qb<|zr U U (by rw [zvS h1])))))
 have h1:¬xs.length>24:=(by rw [b2];simp at b5;omega);refine Qm (Qa (Qk (zR (zA (zN (Ql<|zU [(0,_)] (fun T L0 mz E o z=>∃ (k:Nat),mz=n-k/\E=(3,.int .i64 k)::T/\I=o/\L0=z/\k<=n/\(xs.take k).any (fun x=>decide (x.rs.length>64))=false) ?_ (h:=⟨0,U,U,U,U,jd _,U⟩)))))));rintro mz E o z ⟨k,rfl,rfl,rfl,rfl,hk,a1⟩;refine Qk (zR (zM<|zM ?_));refine zQ Z9<|zC (zN ?_)
 refine zI ?_ ?_<;>intro a6
 ·have F:k<n:=kd a6;obtain ⟨w,x,hx,hv,e1,e2,hR⟩:=hW.at F;refine Qm<|Qa<|Qk<|Ql<|zR<|zM ?_;refine zM ?_;refine zV (zX Z9 A)<|zF V4<|zV (Qc U UL (fun hg=>by exact zJJ (j:=2) A hx U))<|zQ KW<|zC (zN ?_)
  refine zI ?_ ?_<;>intro a7
  ·have h2:xs.any (fun x=>decide (x.rs.length>64))=true:=YN hv (by rw [hR.len];have h:=a7;simp at h ⊢;omega);exact zR (zA (zN (Qq (Qn (Qb (Qb (Qn<|Qb<|zr U U (by rw [zuU h1 h2]))))))))
  refine Qm<|Qg<|Qa<|Qh<|zM ?_;refine zB<|zA (Qe ?_)
  exact zm (h:=⟨n-(k+1),kB,k+1,U,U,U,U,kB,Z3 hv a1 (by rw [hR.len];have h:=a7;simp at h ⊢;omega)⟩)
 have a2:n<=k:=kd a6;rw [QZ b2 a2] at a1;refine Qy (Qf (Qf (Qj (Qa (Qk (zR (zA<|zN (Ql<|zU [(0,_)] (fun T L0 mz E o z=>∃ (k:Nat) (l:Int),mz=n-k/\E=(4,.int .i64 k)::T/\I=o/\L0=z/\k<=n/\Uw 0 xs=Uw l (xs.drop k)/\(k=0/\l=0\/0<k/\1<=l/\(ws.getD (k-1) zWt).no=l)) ?_ (h:=⟨0,0,U,U,U,U,jd _,U,.inl ⟨U,U⟩⟩)))))))));rintro mz E o z ⟨k,l,rfl,rfl,rfl,rfl,hk,a3,b6⟩;refine Qk (zR (zM<|zM ?_));refine zQ Z9<|zC (zN ?_)
 refine zI ?_ ?_<;>intro a8
 ·have F:k<n:=kd a8;obtain ⟨w,x,hx,hv,e1,e2,hR⟩:=hW.at F;have b8:=hR.len;have b9:w.n<=64:=(by have:=jL.1 a1 x (je hv);simp at this;omega);have ek:((k:Int)-1).toNat=k-1:=kB;refine Qm (Qa (Qk (Ql (Qk (Qk<|ZW mixed kA<|zq (Qd U)<|zq (Qd U) ?_)))));refine zq (zX Z9 A)<|zq (Qi U Wp)<|zq (Qc U Qr (fun hg=>by exact zJA A hx U))<|YG (cap:=[]) (vs:=[_,_,_]) U U UF (Kq I _ _ _) U U<|zq (ZT U)<|zq (Qd U)<|Ym 7 U U U<|zj (Qd U)<|zj (Qx U U U)<|zj (Qd U)<|Yd 10 U U U<|zk (Qd U) ?_
  refine zk (Qd U)<|zk (zX Z9 A)<|zk (Qi U Wp)<|zk (Qc U Qr (fun hg=>by exact zJA A hx U))<|zk (Qd U)<|zk (Qd U)<|zk (Zf U U U (fun hg=>kB))<|zk (zX Z9 A)<|zk (Qi U Wp)<|zk (Qc U Qr (fun hg=>by exact zJA (k:=((k:Int)-1).toNat) A (QE (d:=zWt) A.len (by simp [ZH] at hg;omega)) U))<|zk (Qx U U U)<|UX U U U (.some U U U U gbf) U U ?_
  refine Jm U U U U U<|zq (Qd U)<|Ym 25 U U U<|zj (Qd U)<|zj (Qd U)<|zj (zX Z9 A)<|zj (Qi U zfk)<|zj (Qc U Qr (fun hg=>by exact zJJ (j:=1) A hx U))<|Va (cap:=[]) (vs:=[_,_,_]) U U UF (fun hg=>Kq I _ _ _) (.some U U U U gbf) U U<|zj (ZT U)<|Jm U U U U U<|ZX ?_
  refine Qa ?_;refine zI ?_ ?_<;>intro a0
  ·rw [ek] at a0;have a5:ziJ l x=true:=(by unfold ziJ;rw [<-e1,<-e2,<-zIW b6];exact a0);exact zR (zA (zN (Qq (Qb (Qn (Qb (Qb<|Qn (Qb<|zr U U (by rw [zds h1 a1 (a3.trans (zgF hv a5))])))))))))
  rw [ek] at a0;have a5:ziJ l x=false:=(by unfold ziJ;rw [<-e1,<-e2,<-zIW b6];exact a0);refine Qm (Qa (zR (zA (zN (Ql<|zU [(0,_),(4,_)] (fun T L0 mz E o z=>∃ (j:Nat),mz=w.n-j/\E=(5,.int .i64 j)::T/\I=o/\L0=z/\j<=w.n/\(x.rs.take j).any zcR=false) ?_ (h:=⟨0,U,U,U,U,jd _,U⟩))))));rintro mz E o z ⟨j,rfl,rfl,rfl,rfl,hj,b4⟩;refine Qk (zR (zM<|zM ?_));refine zM ?_;refine zV (zX Z9 A)<|zF V4<|zV (Qc U UL (fun hg=>by exact zJJ (j:=2) A hx U))<|zQ KW<|zC (zN ?_)
  refine zI ?_ ?_<;>intro a9
  ·have b3:j<w.n:=kd a9;obtain ⟨r,hr⟩:=hR.at b3;refine Qm<|Qa<|Qk<|Ql<|zR<|zM ?_;refine zM ?_;refine zV (zX Z9 A)<|zF V4<|zV (Qc U UL (fun hg=>by exact zJJ (j:=2) A hx U))<|zM ?_
   refine zV (zX KW hR)<|zV (Qo U zb4 (fun hg=>by exact zJI hR hr) U)<|qcV (vs:=[_]) U zAC (zpO I r)<|zO (zN ?_)
   refine zI ?_ ?_<;>intro b0
   ·have b7:zcR r=true:=(by simpa using b0);exact zR (zA (zN (Qq (Qn (Qb (Qb (Qn<|Qn (Qb (Qb (Qn (Qb<|zr U U (by rw [zds h1 a1 (a3.trans (zbs hv hr b7))]))))))))))))
   refine Qm<|Qg<|Qa<|Qh<|zM ?_;exact zB<|zA (Qe<|zm (h:=⟨w.n-(j+1),kB,j+1,U,U,U,U,kB,Z3 hr b4 (by simpa using b0)⟩))
  have b1:w.n<=j:=kd a9;rw [QZ b8 b1] at b4;refine Qy<|Qf<|Qf<|Qj<|Qg<|Qa<|Qh<|zM ?_;refine zB<|zA (Qe ?_)
  exact zm (h:=⟨n-(k+1),kB,k+1,w.no,U,U,U,U,kB,by rw [a3,zc5 hv a5 b4,e1],.inr ⟨kB,by have:=zzW a5;rw [<-e1] at this;omega,by rw [AH,Oz,hx];rfl⟩⟩)
 have a2:n<=k:=kd a8;rw [zfX kB] at a3;exact Qy (Qf (Qf (Qj (Qa (zR (zA (zN<|Qq<|zr U U (by rw [zu2 h1 a1 a3]))))))))
theorem zop (hR:Sl I 15 Kf C n c G)(hn:n<=100000)(no yr:Int):kg 172 [.agg #[.int .i64 no,.int .i64 yr,.slice C n c]] I [] (Jv 1 QF (G.map Yu)):=by
 intro g H w hw;refine qe Tryz.func172 Tryz.ntmps172 hw ?_;have a0:=zJH I;refine zR<|QU U U U (fun a8=>zA (zN (Qk<|Vz (fun I1 a3 a6=>?_))))
 have hR:=hR.mono a3;have a0:=a0.trans a3;have F:QO I1 [] a8 2 (.slice C n c):=.imm (a6 _ _ kD) U;refine Qh (zA (zN (Qk (zR<|zA (zN (Ql ?_))))));refine zU [(1,_)] (fun T L0 mz E o A=>∃ (k:Nat) (v3:Value) (L:Go.Kn.Loc),mz=n-k/\E=(3,v3)::(4,.int .i64 k)::T/\I1=o/\L=A/\k<=n/\OwnS 3 1 v3 k (((G.take k).map Yu).flatMap QF) L) ?_ (h:=⟨0,_,[],U,U,U,U,jd _,OwnS.nil⟩);rintro mz E o A ⟨k,v3,L,rfl,rfl,rfl,rfl,hk,hO⟩;refine Qk (zR (zM<|zF V4<|zV (Qc U UL (fun hg=>by exact F.any))<|zQ KW<|zC (zN ?_)));refine zI ?_ ?_<;>intro j
 ·have a2:k<n:=kd j;obtain ⟨r,hr⟩:=hR.at a2;refine Qm (Qa (Qk (Ql (zR (zA (zN (Qk<|zR<|zF V4<|zV (Qc U UL (fun hg=>by exact F.any))<|zM ?_)))))));refine zV (zX KW hR)<|zF JA<|zV (Qc U K1 (fun hg=>by exact zJA hR hr U))<|zO (zN ?_)
  refine zI ?_ ?_<;>intro z
  focus
   have a7:Yu r=U8 r.sg:=(by unfold Yu;rw [ja (by simpa using z)]);refine Qh<|zF V4<|zV (Qc U UL (fun hg=>by exact F.any))<|zM ?_
   refine zV (zX KW hR)<|zF V1 ?_
   refine zV (Qo U QQ (fun hg=>by exact Cells.tl (u:=.bool r.lost) (vs:=YA r.sg) (zJI hR hr)) U)<|qcV (vs:=[_]) U zob (zt9 _ r.sg)<|zM ?_
   refine zE ?_;refine zE ?_;refine zA<|zN ?_
  rotate_left
  have a7:Yu r=8589934592:=(by unfold Yu;rw [jb (by simpa using z)]);refine Qm<|Qa ?_
  all_goals
   rw [<-a7];refine Qh (zM<|zM ?_);refine zpb [(0,_)] [QF (Yu r)] QS (fun b2=>?_);refine zpa (_) ([Yu r].flatMap QF) (L) U U QS hO ⟨U,fun _=>U,by repeat (first | exact zJF | apply zJE | apply zJG)⟩ (YJ [Yu r]) ?_;intro v9 L9 a5 _;rw [<-jh] at a5;refine zA (Qe (Qg (Qa (Qh<|zM ?_))));refine zB<|zA (Qe ?_)
   exact zm (h:=⟨n-(k+1),kB,k+1,_,_,U,U,U,U,kB,by rw [UE hr];exact a5⟩)
 have a1:n<=k:=kd j;rw [QZ hR.len a1,show k=n by omega] at hO;refine Qy (Qf (Qf (Qj (Qa (zR (zM<|zA (zN (Qq ?_))))))));exact Zc U U (fun w hw=>by obtain ⟨I9,a9,b0,b1⟩:=OwnS.res hO QL kC hw;exact ⟨_,I9,[],U,a0.trans a9,b0,b1⟩)
def Up (A:List (Int×Int)):Prop:=A.Pairwise fun p q=>0<q.1->p.1<q.1
theorem zpv {a b:List Int}:∀ (f i k:Nat),(∀ p∈paF a b f i k,p.1=0\/(i:Int)<p.1)/\Up (paF a b f i k)
 | 0,_,_=>⟨(fun p g=>by cases g),.nil⟩
 | f+1,i,k=>by
  unfold paF;split
  ·split
   ·have ih:=zpv (a:=a) (b:=b) f (i+1) (k+1);refine ⟨fun p g=>?_,Jb.2 ⟨fun q z j=>?_,ih.2⟩⟩
    ·rcases jo.1 g with rfl | g
     ·exact .inr (by simp only;omega)
     ·rcases ih.1 p g with h | h
      ·exact .inl h
      ·exact .inr kB
    ·rcases ih.1 q z with h | h
     ·omega
     ·simpa using h
   ·split
    ·have ih:=zpv (a:=a) (b:=b) f (i+1) k;refine ⟨fun p g=>?_,Jb.2 ⟨fun q z j=>?_,ih.2⟩⟩
     ·rcases jo.1 g with rfl | g
      ·exact .inr (by simp only;omega)
      ·rcases ih.1 p g with h | h
       ·exact .inl h
       ·exact .inr kB
     ·rcases ih.1 q z with h | h
      ·omega
      ·simpa using h
    ·have ih:=zpv (a:=a) (b:=b) f i (k+1);refine ⟨fun p g=>?_,Jb.2 ⟨fun q z j=>by simpa using j,ih.2⟩⟩;rcases jo.1 g with rfl | g
     ·exact .inl U
     ·exact ih.1 p g
  ·exact ⟨(fun p g=>by cases g),.nil⟩
theorem zFJ :Up (pfW xs i):=by
 unfold pfW;split
 ·exact .nil
 ·unfold JS;split
  ·exact .nil
  ·exact (zpv _ 0 0).2
def zcS (A:List (Int×Int))(l:List Int)(k:Nat):Int:=match A.find? (fun y=>y.1==(k:Int)+1&&decide (y.2>0)) with
 | none=>0
 | some y=>l.getD (y.2-1).toNat 0
theorem zac (j:c<=w a)(z:d<=w b)(h:Y6 w a+c=Y6 w b+d):a=b/\c=d:=by
 rcases Nat.lt_trichotomy a b with g | g | g
 ·have:=zaK (w:=w) g;omega
 ·subst g;omega
 ·have:=zaK (w:=w) g;omega
theorem zCc {w:Nat->Nat}{l:List Int}{m n:Nat}:∀ (z g:List (Int×Int)) (f:Nat->Int),Up (g++z)->(∀ p∈g++z,QOK m n p)->(∀ k,f (Y6 w k+w k)=zcS g l k)->(∀ k c,c<w k->f (Y6 w k+c)=0)->
  (∀ k,(z.foldl (prF w l) f) (Y6 w k+w k)=zcS (g++z) l k)/\∀ k c,c<w k->(z.foldl (prF w l) f) (Y6 w k+c)=0
 | [],g,f,_,_,h1,h2=>by rw [jw];exact ⟨h1,h2⟩
 | y::z,g,f,hu,hq,h1,h2=>by
  have e:g++y::z=(g++[y])++z:=(by simp);rw [e] at hu hq ⊢;rw [Of];obtain ⟨i,j,rfl,hi,hj,h0⟩:=hq y kJ
  have a2:∀ p∈g,0<(i:Int)->p.1<(i:Int):=fun p H a1=>by
   have:=(OJ.1 (OJ.1 hu).1).2.2 p H ((i:Int),(j:Int)) kJ;exact this a1
  have E:∀ k:Nat,zcS (g++[((i:Int),(j:Int))]) l k=if (0<i/\0<j)/\i=k+1 then l.getD ((j:Int)-1).toNat 0 else zcS g l k:=fun k=>by
   unfold zcS;rw [A2];by_cases hm:(0<i/\0<j)/\i=k+1
   ·rw [jb hm]
    have F:g.find? (fun y=>y.1==(k:Int)+1&&decide (y.2>0))=none:=by
     rw [OR];intro p H A;have h3:=a2 p H kB;simp only [ji,jW] at A;omega
    rw [F,Option.none_or];rw [List.find?_cons_of_pos kK]
   ·rw [ja hm]
    have:([((i:Int),(j:Int))]:List (Int×Int)).find? (fun y=>y.1==(k:Int)+1&&decide (y.2>0))=none:=by
     rw [OR];intro p H A;simp only [jM] at H;subst H;simp only [ji,jW,jG] at A;exact hm kB
    rw [this,Option.or_none]
  refine zCc z (g++[((i:Int),(j:Int))]) (prF w l f ((i:Int),(j:Int))) hu hq (fun k=>?_) (fun k c A=>?_)
  ·rw [E k];unfold prF;by_cases T:(decide ((i:Int)>0)&&decide ((j:Int)>0))=true
   ·rw [jb T];have a0:0<i/\0<j:=(by simp at T;omega);have e1:((i:Int)-1).toNat=i-1:=kB;show Ky f (Y6 w ((i:Int)-1).toNat+w ((i:Int)-1).toNat) _ _=_;rw [e1];by_cases hk:i=k+1
    ·rw [jb ⟨a0,hk⟩,show i-1=k by omega,V0]
    ·rw [ja kB,KF,h1 k];intro h;have:=(zac (w:=w) (jn _) (jn _) h).1;omega
   ·rw [ja T,h1 k,ja];intro h;apply T;simp;omega
  ·unfold prF;split
   ·show Ky f _ _ _=0;rw [KF,h2 k c A];intro h;have h3:=zac (w:=w) (BI A) (jn _) h;obtain ⟨h4,h5⟩:=h3;subst h4;omega
   ·exact h2 k c A
def zfM (al:List (Int×Int))(l:List Int)(k:Nat):List Int:=(al.filter fun q=>q.1.toNat==k).map fun q=>l.getD q.2.toNat 0
theorem XG (A:List (Int×Int))(l:List Int)(k:Nat):(zfM A l k).length=cnt A k:=by
 unfold zfM;rw [ju]
 have key:∀ (j g:List (Int×Int)),(g.filter fun q=>q.1.toNat==k).length=cnt g k->((g++j).filter fun q=>q.1.toNat==k).length=cnt (g++j) k:=by
  intro j
  induction j with
  | nil=>intro g h;rw [jw];exact h
  | cons q j ih=>
   intro g h;have e:g++q::j=(g++[q])++j:=(by simp);rw [e];refine ih (g++[q]) ?_;rw [jH,jj,Wx,h];unfold Ky;by_cases z:q.1.toNat=k
   ·rw [jb z.symm,OO (by simpa using z),z];simp
   ·rw [ja (Bu z),OY (by simpa using z)];simp
 have:=key A [] U;simpa using this
theorem zog (g:List (Int×Int))(l:List Int)(q:Int×Int)(k:Nat):zfM (g++[q]) l k=zfM g l k++(if q.1.toNat=k then [l.getD q.2.toNat 0] else []):=by
 unfold zfM;rw [jH,Od];congr 1;by_cases h:q.1.toNat=k
 ·rw [jb h,OO (by simpa using h)];rfl
 ·rw [ja h,OY (by simpa using h)];rfl
theorem zCJ {w:Nat->Nat}{l:List Int}{f0:Nat->Int}(H:∀ k c,c<w k->f0 (Y6 w k+c)=0):∀ (j g:List (Int×Int)),(∀ k,cnt (g++j) k<=w k)->
  (∀ k,(alP w l f0 g).1 (Y6 w k+w k)=f0 (Y6 w k+w k))->(∀ k c,c<w k->(alP w l f0 g).1 (Y6 w k+c)=(zfM g l k).getD c 0)->
  (∀ k,(alP w l f0 (g++j)).1 (Y6 w k+w k)=f0 (Y6 w k+w k))/\∀ k c,c<w k->(alP w l f0 (g++j)).1 (Y6 w k+c)=(zfM (g++j) l k).getD c 0
 | [],g,_,h1,h2=>by rw [jw];exact ⟨h1,h2⟩
 | q::j,g,hw,h1,h2=>by
  have e:g++q::j=(g++[q])++j:=(by simp);rw [e] at hw ⊢
  have z:cnt g q.1.toNat<w q.1.toNat:=by
   have h3:=hw q.1.toNat;have h4:=zl2 (g++[q]) q.1.toNat j.length j (jn _);rw [zfb rfl] at h4;omega
  refine zCJ H j (g++[q]) hw (fun k=>?_) (fun k c A=>?_)
  ·rw [zdP,KF,h1 k];intro h;obtain ⟨h3,h4⟩:=zac (w:=w) (jn _) (BI z) h;subst h3;omega
  ·rw [zdP,zog];by_cases h:Y6 w k+c=Y6 w q.1.toNat+cnt g q.1.toNat
   ·obtain ⟨h3,h4⟩:=zac (w:=w) (BI A) (BI z) h;rw [h,V0,jb h3.symm,h4,<-XG g l,<-h3];simp
   ·rw [KF h,h2 k c A];by_cases E:q.1.toNat=k
    ·subst E;rw [jb rfl,Oz,Oz,Ac];split
     ·rfl
     ·rename_i F;have T:c≠(zfM g l q.1.toNat).length:=(by rw [XG];intro h5;exact h (by rw [h5]));rw [Ol kB,Ol kK]
    ·rw [ja E,jw]
def zBt (w:Nat->Nat)(T l:List Int)(i:Nat)(A:List (Int×Int))(k:Nat):List Int:=
 (zfM (zjr A) l k++List.replicate (w k-(zfM (zjr A) l k).length) 0)++(if k<T.length then [if i=0 then T.getD k 0 else zcS A l k] else [])
def zhh (xs:List Wr)(i k:Nat):List Int:=zBt (wdW xs) (csW xs 0) (csW xs i) i (pfW xs i) k
def zcQ (xs:List Wr)(i k:Nat):List Int:=(List.range k).flatMap (zhh xs i)
theorem XS (xs:List Wr)(i k:Nat):zcQ xs i (k+1)=zcQ xs i k++zhh xs i k:=by unfold zcQ;rw [Ok,jh];simp
variable{m:Nat}
theorem zzw {L:List Int}(h:L.length<=m):(List.range m).map (fun c=>L.getD c 0)=L++List.replicate (m-L.length) 0:=by
 apply Ad;intro c;rw [jB,Ac];by_cases g:c<m
 ·rw [OD g];split
  ·rename_i h1;rw [Ow,Oz,jf h1];rfl
  ·rename_i h1;rw [Ow,Oz,Ol kB,Ay,jb kB];rfl
 ·rw [Ol kK,ja kB,Ay,ja kB];rfl
theorem zj3 (f:Nat->Int)(a b:Nat):Vk (a+b) f=Vk a f++(List.range b).map fun c=>f (a+c):=by unfold Vk;rw [List.range_add,Od,List.map_map];rfl
theorem zCB {w:Nat->Nat}{T:List Int}:∀ m,(∀ k,txF w T m (Y6 w k+w k)=if k<m then T.getD k 0 else 0)/\∀ k c,c<w k->txF w T m (Y6 w k+c)=0
 | 0=>⟨fun k=>U,fun k c _=>U⟩
 | m+1=>by
  have ih:=zCB (w:=w) (T:=T) m;refine ⟨fun k=>?_,fun k c g=>?_⟩
  ·show Ky (txF w T m) (Y6 w m+w m) (T.getD m 0) _=_;by_cases e:k=m
   ·subst e;rw [V0,jb kB]
   ·rw [KF (fun h=>e (zac (w:=w) (jn _) (jn _) h).1),ih.1 k];by_cases h:k<m
    ·rw [jb h,jb kB]
    ·rw [ja h,ja kB]
  ·show Ky (txF w T m) (Y6 w m+w m) (T.getD m 0) _=_;rw [KF,ih.2 k c g];intro h;obtain ⟨h1,h2⟩:=zac (w:=w) (BI g) (jn _) h;subst h1;omega
theorem zD9 (E:i<xs.length):(∀ k,k<(csW xs 0).length->KZ (wdW xs) (csW xs 0) (csW xs i) i (pfW xs i) (Y6 (wdW xs) k+wdW xs k)=if i=0 then (csW xs 0).getD k 0 else zcS (pfW xs i) (csW xs i) k)/\
  ∀ k c,c<wdW xs k->KZ (wdW xs) (csW xs 0) (csW xs i) i (pfW xs i) (Y6 (wdW xs) k+c)=(zfM (alW xs i) (csW xs i) k).getD c 0:=by
 have H:∀ k,cnt ([]++alW xs i) k<=wdW xs k:=fun k=>zfF (al:=alW xs) E;by_cases h0:i=0
 ·subst h0;have h:KZ (wdW xs) (csW xs 0) (csW xs 0) 0 (pfW xs 0)=txF (wdW xs) (csW xs 0) (csW xs 0).length:=rfl;have A:=zCB (w:=wdW xs) (T:=csW xs 0) (csW xs 0).length;rw [h];refine ⟨fun k F=>by rw [A.1 k,jb F,jb rfl],fun k c z=>by rw [A.2 k c z];rfl⟩
 ·have g:=zCc (w:=wdW xs) (l:=csW xs i) (pfW xs i) [] (fun _=>0) (by rw [Oi];exact zFJ) (by rw [Oi];exact (X3 (xs:=xs) (i:=i)).1) (fun k=>U) (fun k c _=>U);rw [Oi] at g
  have j:=zCJ (l:=csW xs i) (f0:=(pfW xs i).foldl (prF (wdW xs) (csW xs i)) (fun _=>0)) g.2 (alW xs i) [] H (fun k=>U) (fun k c z=>by
   show (pfW xs i).foldl (prF (wdW xs) (csW xs i)) (fun _=>0) (Y6 (wdW xs) k+c)=_
   rw [g.2 k c z];rfl)
  rw [Oi] at j;have h:KZ (wdW xs) (csW xs 0) (csW xs i) i (pfW xs i)=(alP (wdW xs) (csW xs i) ((pfW xs i).foldl (prF (wdW xs) (csW xs i)) (fun _=>0)) (alW xs i)).1:=(by unfold KZ;rw [ja h0];rfl);rw [h];exact ⟨fun k _=>by rw [j.1 k,g.1 k,ja h0],j.2⟩
theorem zhL (z:i<xs.length):zc0 xs i=zcQ xs i ((csW xs 0).length+1):=by
 obtain ⟨h1,h2⟩:=zD9 z;have h:∀ k,(zfM (alW xs i) (csW xs i) k).length<=wdW xs k:=fun k=>by rw [XG];exact zfF (al:=alW xs) z
 have g:∀ k,(List.range (wdW xs k)).map (fun c=>KZ (wdW xs) (csW xs 0) (csW xs i) i (pfW xs i) (Y6 (wdW xs) k+c))=zfM (alW xs i) (csW xs i) k++List.replicate (wdW xs k-(zfM (alW xs i) (csW xs i) k).length) 0:=fun k=>by
  rw [<-zzw (h k)];exact OK fun c A=>h2 k c (jq.1 A)
 have key:∀ k,k<=(csW xs 0).length->Vk (Y6 (wdW xs) k) (KZ (wdW xs) (csW xs 0) (csW xs i) i (pfW xs i))=zcQ xs i k:=by
  intro k
  induction k with
  | zero=>intro _;rfl
  | succ k ih=>
   intro E;rw [XS,<-ih kB];show Vk (Y6 (wdW xs) k+(wdW xs k+1)) _=_;rw [zj3];congr 1;rw [Ok,Od,g k];unfold zhh zBt;rw [jb kB];congr 1;simp only [jF,Ah];rw [h1 k kB]
 have j:loW xs=Y6 (wdW xs) (csW xs 0).length+wdW xs (csW xs 0).length:=(by unfold loW;show Y6 _ _+(_+1)-1=_;omega);unfold zc0;rw [j,zj3,key _ (jn _),g,XS];congr 1;unfold zhh zBt;rw [ja kB,jw];rfl
def alR (l:List Int)(m:Nat):Nat->List (Int×Int)->List Int
 | _,[]=>[]
 | n,p::A=>(if (p.1==0&&(((if p.1>0 then n+1 else n:Nat):Int)==(m:Int)))=true then [l.getD (p.2-1).toNat 0] else [])++alR l m (if p.1>0 then n+1 else n) A
variable{A:List (Int×Int)}
theorem zkC {p:Int×Int}(g:A[k]? =some p):alR l m n (A.drop k)=(if (p.1==0&&(((if p.1>0 then n+1 else n:Nat):Int)==(m:Int)))=true then [l.getD (p.2-1).toNat 0] else [])++alR l m (if p.1>0 then n+1 else n) (A.drop (k+1)):=by rw [ZA g];rfl
theorem zy6 (h:A.length<=k):alR l m n (A.drop k)=[]:=by rw [Or h];rfl
theorem ziL {a b l:List Int}{m:Nat}:∀ (f i k:Nat),alR l m i (paF a b f i k)=((KN (i:Int) (paF a b f i k)).filter fun q=>q.1.toNat==m).map fun q=>l.getD q.2.toNat 0
 | 0,_,_=>rfl
 | f+1,i,k=>by
  unfold paF;split
  ·split
   ·unfold alR KN;have h1:((i+1:Nat):Int)>0:=kB;rw [jb h1,jb h1,show ((((i+1:Nat):Int),((k+1:Nat):Int)).1==0)=false by simp;omega,Az,ja kC,Oi];exact ziL f (i+1) (k+1)
   ·split
    ·unfold alR KN;have h1:((i+1:Nat):Int)>0:=kB;rw [jb h1,jb h1,show ((((i+1:Nat):Int),(0:Int)).1==0)=false by simp;omega,Az,ja kC,Oi];exact ziL f (i+1) k
    ·unfold alR KN;simp only [gt_iff_lt,Int.lt_irrefl,Oa,Oc];have ih:=ziL (a:=a) (b:=b) (l:=l) (m:=m) f i (k+1);by_cases g:i=m
     ·subst g;rw [jb kJ,jb kJ,ih];rfl
     ·rw [ja kK,ja kK,ih];rfl
  ·rfl
theorem zE3 :alR l m 0 (pfW xs i)=zfM (alW xs i) l m:=by
 unfold zfM alW zjr pfW;split
 ·rfl
 ·unfold JS;split
  ·rfl
  ·exact ziL _ 0 0
theorem zzT {p:Int×Int}(h:(A.take k).any (fun y=>y.1==(m:Int)+1&&decide (y.2>0))=false)(j:A[k]? =some p)(z:(p.1==(m:Int)+1&&decide (p.2>0))=true):zcS A l m=l.getD (p.2-1).toNat 0:=by
 unfold zcS
 have e:A.find? (fun y=>y.1==(m:Int)+1&&decide (y.2>0))=some p:=by
  have E:=(jc.1 j);rw [<-jT k A,A2,ZA j]
  have:(A.take k).find? (fun y=>y.1==(m:Int)+1&&decide (y.2>0))=none:=by
   rw [OR];intro y g h3;have:=jL.1 h y g;exact this h3
  rw [this,OX,z];rfl
 rw [e]
theorem zvy (h:A.any (fun y=>y.1==(m:Int)+1&&decide (y.2>0))=false):zcS A l m=0:=by
 unfold zcS
 have:A.find? (fun y=>y.1==(m:Int)+1&&decide (y.2>0))=none:=by
  rw [OR];intro y g h3;exact jL.1 h y g h3
 rw [this]
theorem zuM:ke 66:=.of Tryz.func66 kA kA
variable{F:List Int}{q0:Nat}
theorem zyT (hP:Sl I 2 K6 C n c A)(hT:Sl I 1 QF J B D F)(hn:n<=100000)(b5:B<=100000)(hq:∀ p∈A,QOK q0 B p)(m:Nat):kg 174 [.slice C n c,.slice J B D,.int .i64 m] I [] (Jv 1 QF (alR F m 0 A)):=by
 intro g H w hw;refine qe Tryz.func174 Tryz.ntmps174 hw ?_;have b3:=zJH I;have b8:=hP.len;have b9:=hT.len;refine zR (zA<|zN (zR<|zA<|zN (zR<|zA (zN (Qk (zR<|zA (zN (Ql ?_))))))));refine zU [(0,_),(1,_),(2,_)] (fun T L0 mz E o z=>∃ (k:Nat) (v7:Value) (q:Nat) (nn:Nat) (dl:List Int) (L:Go.Kn.Loc),mz=n-k/\E=(7,v7)::(8,.int .i64 nn)::(9,.int .i64 k)::T/\I=o/\L=z/\k<=n/\OwnS 3 1 v7 q (dl.flatMap QF) L/\alR F m 0 A=dl++alR F m nn (A.drop k)/\nn<=k/\q<=k) ?_ (h:=⟨0,_,0,0,[],[],U,U,U,U,jd _,OwnS.nil,U,jn _,jn _⟩);rintro mz E o z ⟨k,v7,q,nn,dl,L,rfl,rfl,rfl,rfl,hk,hO,a2,c0,c5⟩;refine Qk (zR (zM<|zM ?_));refine zQ JG<|zC (zN ?_)
 refine zI ?_ ?_<;>intro a5
 ·have a7:k<n:=kd a5;obtain ⟨p,hp⟩:=hP.at a7;obtain ⟨qi,qk,a9,c4,b7,c3⟩:=hq p (je hp);have c1:p.1=qi:=(by rw [a9]);have c2:p.2=qk:=(by rw [a9]);refine Qm<|Qa<|Qk<|Ql ?_;refine zY [(0,_),(1,_),(2,_),(7,_),(9,_)] (fun T L0 E o z=>∃ (n1:Nat),E=(8,.int .i64 n1)::T/\I=o/\L=z/\n1=(if p.1>0 then nn+1 else nn)/\n1<=nn+1) ?_ ?_
  ·refine zR<|zM ?_;refine zM ?_;refine zV (zX JG hP)<|zV (Zh U U Yx (fun hg=>by decide))<|zV (Qc U Qr (fun hg=>by exact zJJ (j:=0) hP hp U))<|zC (zN ?_)
   refine zI ?_ ?_<;>intro a6
   ·refine Qh<|zM ?_;exact zB<|zA (Qe<|Ya _ _ ⟨nn+1,U,U,U,by rw [jb (by simpa using a6)],kB⟩ kc .refl)
   exact Qm<|Ya _ _ ⟨nn,U,U,U,by rw [ja (by simpa using a6)],kB⟩ kc .refl
  rintro E o z ⟨n1,rfl,rfl,rfl,a3,b5⟩;refine zR<|zM ?_;refine zM ?_;refine zV (zX JG hP)<|zV (Zh U U Yx (fun hg=>by decide))<|zV (Qc U Qr (fun hg=>by exact zJJ (j:=0) hP hp U))<|zC ?_
  refine zM ?_;refine Qw 6 U U U ?_;refine zK (Qd U) ?_;refine zK (Qd U) ?_;refine zK (Qx U U U) ?_;refine QC U U U U U<|zN ?_
  refine zI ?_ ?_<;>intro a0
  ·have a1:(p.1==0&&(((if p.1>0 then nn+1 else nn:Nat):Int)==(m:Int)))=true:=(by rw [<-a3];exact a0);have hz:p.1=0:=(by have h:=a0;simp at h;exact h.1);refine Qh (zM<|zM ?_);refine zM ?_;refine zM ?_;refine zV (zX JG hP)<|zV (Zh U U Yx (fun hg=>by decide))<|zV (Qc U Qr (fun hg=>by exact zJJ (j:=1) hP hp U))<|zB ?_
   refine zV (zX Qt hT)<|zV (Qc U Qr (fun hg=>by exact zJA (k:=(p.2-1).toNat) hT (QE (d:=0) hT.len kB) U))<|zpb [(0,_)] [QF (F.getD (p.2-1).toNat 0)] QS (fun b6=>?_)
   refine zpa (_) ([F.getD (p.2-1).toNat 0].flatMap QF) (L) U U QS hO ⟨U,fun _=>U,by repeat (first | exact zJF | apply zJE | apply zJG)⟩ (YJ _) ?_;intro v9 L9 a8 _;rw [<-jh] at a8;refine zA (Qe (Qg (Qa (Qh<|zM ?_))));exact zB<|zA (Qe<|zm (h:=⟨n-(k+1),kB,k+1,_,_,_,_,_,U,U,U,U,kB,a8,by rw [a2,zkC hp,jb a1,<-a3,js],kB,kB⟩))
  have a1:¬(p.1==0&&(((if p.1>0 then nn+1 else nn:Nat):Int)==(m:Int)))=true:=(by rw [<-a3,a0];decide);refine Qm<|Qg<|Qa<|Qh<|zM ?_;exact zB<|zA (Qe<|zm (h:=⟨n-(k+1),kB,k+1,_,_,_,_,_,U,U,U,U,kB,hO,by rw [a2,zkC hp,ja a1,<-a3,Oi],kB,kB⟩))
 have b4:n<=k:=kd a5;rw [zy6 kB,jw] at a2;refine Qy (Qf (Qf (Qj (Qa (zR (zM<|zA (zN (Qq ?_))))))));exact Zc U U (fun w hw=>by obtain ⟨I9,b0,b1,b2⟩:=OwnS.res hO QL kC hw;exact ⟨_,I9,[],U,b3.trans b0,b1,by rw [a2];exact b2⟩)
theorem zqj (hP:Sl I 2 K6 C n c A)(hT:Sl I 1 QF J B D F)(hn:n<=100000)(b1:B<=100000)(hq:∀ p∈A,QOK q0 B p)(m:Nat)(hm:m<=100000):kf 175 [.slice C n c,.slice J B D,.int .i64 m] I (.int .i64 (zcS A F m)):=by
 intro g H w hw;refine qe Tryz.func175 Tryz.ntmps175 hw ?_;have a7:=hP.len;have b0:=hT.len;refine zR (zA (zN (Qk (zR<|zA (zN (Ql ?_))))));refine zU [(0,_),(1,_),(2,_)] (fun T L0 mz E o a2=>∃ (k:Nat),mz=n-k/\E=(7,.int .i64 k)::T/\I=o/\L0=a2/\k<=n/\(A.take k).any (fun y=>y.1==(m:Int)+1&&decide (y.2>0))=false) ?_ (h:=⟨0,U,U,U,U,jd _,U⟩);rintro mz E o a2 ⟨k,rfl,rfl,rfl,rfl,hk,a0⟩;refine Qk (zR (zM<|zM ?_));refine zQ JG<|zC (zN ?_)
 refine zI ?_ ?_<;>intro a1
 ·have a5:k<n:=kd a1;obtain ⟨p,hp⟩:=hP.at a5;obtain ⟨qi,qk,a6,b5,a9,b4⟩:=hq p (je hp);have b2:p.1=qi:=(by rw [a6]);have b3:p.2=qk:=(by rw [a6]);refine Qm<|Qa<|Qk<|Ql<|zR<|zM ?_;refine zM ?_;refine zV (zX JG hP)<|zV (Zh U U Yx (fun hg=>by decide))<|zV (Qc U Qr (fun hg=>by exact zJJ (j:=0) hP hp U))<|zM ?_
  refine zB<|zC ?_
  refine zM ?_;refine Qw 8 U U U ?_;refine zK (Qd U) ?_;refine zK (Qd U) ?_;refine zK (zX JG hP)<|zK (Zh U U Yx (fun hg=>by decide))<|zK (Qc U Qr (fun hg=>by exact zJJ (j:=1) hP hp U))<|zK (Qx U U U) ?_
  refine QC U U U U U<|zN ?_
  refine zI ?_ ?_<;>intro z
  ·have a8:p.2>0:=(by have h:=z;simp at h;exact h.2);refine zR<|zM ?_;refine zM ?_;refine zM ?_;refine zV (zX JG hP)<|zV (Zh U U Yx (fun hg=>by decide))<|zV (Qc U Qr (fun hg=>by exact zJJ (j:=1) hP hp U))<|zB ?_
   refine zV (zX Qt hT)<|zV (Qc U Qr (fun hg=>by exact zJA (k:=(p.2-1).toNat) hT (QE (d:=0) hT.len kB) U))<|zA (zN (Qq (Qn (Qb (Qb (Qn (Qb ?_)))))))
   exact zr U U (by rw [zzT a0 hp z])
  refine Qm<|Qg<|Qa<|Qh<|zM ?_;exact zB<|zA (Qe<|zm (h:=⟨n-(k+1),kB,k+1,U,U,U,U,kB,Z3 hp a0 z⟩))
 have a3:n<=k:=kd a1;rw [QZ a7 a3] at a0;exact Qy (Qf (Qf (Qj (Qa (zR (zA (zN<|Qq<|zr U U (by rw [zvy a0]))))))))
theorem zjC {xs:List Int}(hS:Sl I 1 QF C n c xs)(hn:n<=100000)(m:Nat)(hm:m<=100000):kg 176 [.slice C n c,.int .i64 m] I [] (Jv 1 QF (xs++List.replicate (m-xs.length) 0)):=by
 intro g H w hw;refine qe Tryz.func176 Tryz.ntmps176 hw ?_;have b1:=zJH I;have b2:=hS.len;subst b2;refine zR (zA<|zN (zR<|zpb [] [] QS (fun a6=>zM<|zpa (_) (xs.flatMap QF) ([(a6,_)]) U U QS OwnS.new (hS.src QL) (YJ _) ?_)));intro v5 L5 a3 _;rw [Oi,Oj] at a3;refine zA<|Qe ?_;obtain ⟨a5,k5,e5⟩:=a3.shape;subst e5;refine Qa (Qk (Ql<|zU [(1,_)] (fun T L0 mz E o a1=>∃ (j:Nat) (a2:Option Addr) (c5:Nat) (L:Go.Kn.Loc),mz=(m-xs.length-j)/\E=(5,.slice a2 (xs.length+j) c5)::T/\I=o/\L=a1/\OwnS 3 1 (.slice a2 (xs.length+j) c5) (xs.length+j) ((xs++List.replicate j 0).flatMap QF) L/\j<=m-xs.length) ?_ (h:=⟨0,a5,k5,_,U,U,U,U,by rw [jw];simpa using a3,kB⟩)));rintro mz E o a1 ⟨j,a2,c5,L,rfl,rfl,rfl,rfl,hO,hj⟩;refine Qk (zR (zM<|zQ Qt ?_));refine zM<|zC (zN ?_)
 refine zI ?_ ?_<;>intro a0
 ·have b4:xs.length+j<m:=kd a0;refine Qm (Qa (Ql (Qh (zM<|zpb [(0,_)] [QF 0] QS (fun b3=>?_)))));refine zpa (_) ([(0:Int)].flatMap QF) (L) U U QS hO ⟨U,fun _=>U,by repeat (first | exact zJF | apply zJE | apply zJG)⟩ (YJ _) ?_;intro v9 L9 z _;rw [<-jh] at z;refine zA<|Qe<|Qg ?_;obtain ⟨a9,k9,e9⟩:=z.shape;subst e9;exact zm (h:=⟨m-xs.length-(j+1),kB,j+1,a9,k9,L9,U,U,U,U,by rw [js,<-List.replicate_succ'] at z;exact z,kB⟩)
 obtain rfl:j=m-xs.length:=kd a0;refine Qy (Qf (Qf (Qj (Qa (zR (zM<|zA (zN (Qq ?_))))))));exact Zc U U (fun w hw=>by obtain ⟨I9,a7,a8,b0⟩:=OwnS.res hO QL kC hw;exact ⟨_,I9,[],U,b1.trans a7,a8,b0⟩)
theorem zqB {xs:List Int}(hS:Sl I 1 QF C n c xs)(hT:Sl I 1 QF J B D F)(hn:n<=100000):kf 66 [.slice C n c,.slice J B D] I (.bool (decide (xs=F))):=by
 intro g H w hw;refine qe Tryz.func66 Tryz.ntmps66 hw ?_;have a9:=hS.len;have b0:=hT.len;refine zR<|zA<|zN<|Qk<|zR ?_;refine zM ?_;refine zQ Qt ?_;refine zM ?_;refine zQ Qt<|zC (zN ?_)
 refine zI ?_ ?_<;>intro z
 ·have a5:xs≠F:=fun e=>(by have h:=z;subst e;simp at h;omega);exact zR (zA (zN (Qq (Qb<|zr U U (by rw [jX a5])))))
 have b1:n=B:=kd z;refine Qm (Qa (Qk (zR (zA (zN (Ql<|zU [(0,_),(1,_)] (fun T L0 mz E o a2=>∃ (k:Nat),mz=n-k/\E=(5,.int .i64 k)::T/\I=o/\L0=a2/\k<=n/\xs.take k=F.take k) ?_ (h:=⟨0,U,U,U,U,jd _,U⟩)))))));rintro mz E o a2 ⟨k,rfl,rfl,rfl,rfl,hk,j⟩;refine Qk (zR (zM<|zM ?_));refine zQ Qt<|zC (zN ?_)
 refine zI ?_ ?_<;>intro a0
 ·have a3:k<n:=kd a0;obtain ⟨x,hx⟩:=hS.at a3;obtain ⟨y,hy⟩:=hT.at (show k<B by omega);refine Qm (Qa (Qk (Ql (Qk<|ZW mixed kA<|zq (Qd U)<|zq (Qd U) ?_))));refine zq (zX Qt hS) ?_;refine zq (Qc U Qr (fun hg=>by exact zJA hS hx U))<|zq (Qd U)<|zq (Qd U) ?_
  refine zq (zX Qt hT) ?_;refine zq (Qc U Qr (fun hg=>by exact zJA hT hy U))<|zq (Qx U U U)<|ZX<|Qa ?_
  refine zI ?_ ?_<;>intro a1
  ·have a5:xs≠F:=fun e=>(by subst e;rw [hx] at hy;cases hy;simp at a1);exact zR (zA (zN (Qq (Qn (Qb (Qb (Qn<|Qb<|zr U U (by rw [jX a5]))))))))
  have a8:x=y:=(by simpa using a1);refine Qm<|Qg<|Qa<|Qh<|zM ?_;exact zB<|zA (Qe<|zm (h:=⟨n-(k+1),kB,k+1,U,U,U,U,kB,by rw [jz,jz,j,hx,hy,a8]⟩))
 have a7:n<=k:=kd a0;have a6:xs=F:=(by rw [jr kB,jr kB] at j;exact j);exact Qy (Qf (Qf (Qj (Qa (zR (zA (zN<|Qq<|zr U U (by rw [jN a6]))))))))
theorem zyp {xs:List (List Int)}(hS:SlN I C n c xs){F:List (List Int)}(hT:SlN I J B D F)(hn:n<=100000)(hb:∀ v∈xs,v.length<=100000):kf 125 [.slice C n c,.slice J B D] I (.bool (decide (xs=F))):=by
 intro g H w hw;refine qe Tryz.func125 Tryz.ntmps125 hw ?_;have b2:=hS.len;have b3:=hT.len;obtain ⟨hs,hS⟩:=hS;obtain ⟨ks,hT⟩:=hT;have a7:=hS.1;have a8:=hT.1;refine zR<|zA<|zN<|Qk<|zR ?_;refine zM ?_;refine zQ QM ?_;refine zM ?_;refine zQ QM<|zC (zN ?_)
 refine zI ?_ ?_<;>intro z
 ·have a5:xs≠F:=fun e=>(by have h:=z;subst e;simp at h;omega);exact zR (zA (zN (Qq (Qb<|zr U U (by rw [jX a5])))))
 have b4:n=B:=kd z;refine Qm (Qa (Qk (zR (zA (zN (Ql<|zU [(0,_),(1,_)] (fun T L0 mz E o a2=>∃ (k:Nat),mz=n-k/\E=(5,.int .i64 k)::T/\I=o/\L0=a2/\k<=n/\xs.take k=F.take k) ?_ (h:=⟨0,U,U,U,U,jd _,U⟩)))))));rintro mz E o a2 ⟨k,rfl,rfl,rfl,rfl,hk,j⟩;refine Qk (zR (zM<|zM ?_));refine zQ QM<|zC (zN ?_)
 refine zI ?_ ?_<;>intro a0
 ·have a3:k<n:=kd a0;obtain ⟨x,v,hx,hv,hQ⟩:=hS.at a3;obtain ⟨y,v2,hy,a6,hR⟩:=hT.at (show k<B by omega);refine Qm (Qa (Qk (Ql (Qk<|ZW mixed kA<|zq (Qd U)<|zq (Qd U) ?_))));refine zq (zX QM a7) ?_;refine zq (Qc U QA (fun hg=>by exact zJA a7 hx U))<|zq (Qd U)<|zq (Qd U) ?_
  refine zq (zX QM a8) ?_;refine zq (Qc U QA (fun hg=>by exact zJA a8 hy U))<|YG (cap:=[]) (vs:=[_,_]) U U zuM (zqB hQ hR (by rw [<-hQ.len];exact hb v (je hv))) U U<|zq (ZT U)<|ZX<|Qa ?_
  refine zI ?_ ?_<;>intro a1
  ·have a5:xs≠F:=fun e=>(by subst e;rw [hv] at a6;cases a6;simp at a1);exact zR (zA (zN (Qq (Qn (Qb (Qb (Qn<|Qb<|zr U U (by rw [jX a5]))))))))
  have b1:v=v2:=(by simpa using a1);refine Qm<|Qg<|Qa<|Qh<|zM ?_;exact zB<|zA (Qe<|zm (h:=⟨n-(k+1),kB,k+1,U,U,U,U,kB,by rw [jz,jz,j,hv,a6,b1]⟩))
 have b0:n<=k:=kd a0;have a9:xs=F:=(by rw [jr kB,jr kB] at j;exact j);exact Qy (Qf (Qf (Qj (Qa (zR (zA (zN<|Qq<|zr U U (by rw [jN a9]))))))))
end
end Go.Proofs.YtodakphagkommaaGreatDoor
