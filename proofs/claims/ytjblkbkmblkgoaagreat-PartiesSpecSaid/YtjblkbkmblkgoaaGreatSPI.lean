/- partiesSpec_holds, part I of the proof: what its theorems say holds without further conditions. -/
import Derived.ProofKit
import Derived.Deep.Slices
import Derived.OpenShut
import Derived.Test.YtjblkbkmblkgoaaGreatRows
import Derived.Test.YtjblkbkmblkgoaaGreatSPH
namespace Go.Proofs.YtjblkbkmblkgoaaGreat
section
open Go Go.Kn Go.Proofs
variable{xs:List Nt}{t:Nt}
theorem ziZ (h:zeM xs t):WS xs t=XR xs t:=
 zlK (zhl xs t) (fun _ _ hk hx=>zg9 hk hx) fun k x hk hx hl=>by
  have h1:=(List.getElem?_eq_some_iff.1 hx).1;have h2:xs[XR xs t]? =some xs[XR xs t]:=List.getElem?_eq_getElem kB;exact zgJ h2 (h _ _ _ _ hk h2 hx hl)
variable{I:Qu}
theorem zps (h:zeM xs t)(hM:∀ x∈xs,NtM I x)(hT:NtM I t):zfg xs t=zd0 xs t:=by
 unfold zfg zd0;rw [ziZ h]
 cases hx:xs[XR xs t]? with
 | none=>rfl
 | some x=>
  have hm:=hM x (List.mem_of_getElem? hx);show smN x t=(Vm x t==0);rw [Bool.eq_iff_iff,zlC hm.nd hT.nd,beq_iff_eq];exact ⟨fun e=>by rw [←zbb x t,e,Ws],zk0 hm.ok hT.ok⟩
variable{ps:List Pe}{pe:Pe}
theorem zfz {i:Nat}(hx:ps[i]? =some pe)(hv:ZT pe.notes=true)(hM:∀ x∈pe.notes,NtM I x)(hT:NtM I t)(hl:pe.notes.length<4096)(a:Option Addr)(n c:Nat):
  zbz (dtP ps) i (YF t)=some (dtP (ps.set i ⟨a,n,c,zo8 pe.notes t⟩)):=by
 have hmo:zeM pe.notes t:=zqW hv;have hh:=zps hmo hM hT
 cases hq:zfg pe.notes t with
 | true=>
  rw [hq] at hh;rw [zh4 hx hh.symm,zeA hq];congr 1;unfold dtP;rw [List.map_set];exact (ziH (zaA hx)).symm
 | false=>
  rw [hq] at hh;rw [ziP hx hh.symm hl a n c,zev hq];unfold zgs;rw [ziZ hmo]
variable{I':Qu}{pa qa aa a:Option Addr}{pn pc qn qc an ac c:Nat}{qs:List Pk}{ks:List (Int×Int)}{y:Pe}
theorem zyM (h:RmP I pa pn pc qa qn qc aa an ac ps qs ks)(hI:HLe I I'){i:Nat}(hS:Sl I' 1 U4 a pn c (ps.set i y))(hZ:WB I' y.a y.n y.c y.notes):
  RmP I' a pn c qa qn qc aa an ac (ps.set i y) qs ks:=
 ⟨hS,fun x hx=>(List.mem_or_eq_of_mem_set hx).elim (fun h1=>(h.nt x h1).mono hI) (fun h1=>by rw [h1];exact hZ),h.q.mono hI,fun q hq=>(h.pk q hq).mono hI,h.k.mono hI⟩
structure zkm (I:Qu)(pa:Option Addr)(pn pc:Nat)(qa:Option Addr)(qn qc:Nat)(aa:Option Addr)(an ac:Nat)(ps:List Pe)(qs:List Pk)(ks:List (Int×Int)):Prop where
 r:RmP I pa pn pc qa qn qc aa an ac ps qs ks
 m:1≤pn∧pn≤24
 v:∀ pe∈ps,ZT pe.notes=true
 net:Ud qs ks=0
 bad:∀ q∈qs,KJ pn q=false
 an:an≤100000
 dl:∀ q∈qs,q.n≤100000
 q:qn≤40
 n:∀ pe∈ps,pe.n≤100
theorem zkm.mono (h:zkm I pa pn pc qa qn qc aa an ac ps qs ks)(hI:HLe I I'):zkm I' pa pn pc qa qn qc aa an ac ps qs ks:=
 ⟨h.r.mono hI,h.m,h.v,h.net,h.bad,h.an,h.dl,h.q,h.n⟩
theorem zkm.msg (h:zkm I pa pn pc qa qn qc aa an ac ps qs ks)(hp:pe∈ps):∀ y∈pe.notes,NtM I y:=fun y hy=>(h.r.nt pe hp).m y hy ((V2 (h.v pe hp)).2.1 y hy)
variable{R:Int×Rd}{P:List (List Nt)}{D:List Pk}
theorem zfu (h:R=(0,⟨P,D,ks⟩))(hR:RmP I pa pn pc qa qn qc aa an ac ps qs ks)(e1:dtP ps=P)(e2:qs.map Vi=D):
  DoQ R (.tuple #[.agg #[.slice pa pn pc,.slice qa qn qc,.slice aa an ac],.int .i64 0]) I []:=zlv (by rw [h]) hR (by rw [h];unfold YD;rw [e1,e2])
variable{e:Int}
theorem Xq (h:R=(e,zeroR)):DoQ R (.tuple #[.agg #[.slice none 0 0,.slice none 0 0,.slice none 0 0],.int .i64 e]) I []:=XN zf7 h
variable{m:Nat}
theorem zav.add {a':Option Addr}{m' c':Nat}{y p:Pk}(h:zav I a m c qs D)(hS:Sl I 3 Q6 a' m' c' (qs++[y]))(hy:PkM I y)(e:Vi y=p):zav I a' m' c' (qs++[y]) (D++[p]):=
 ⟨hS,fun q hq=>(List.mem_append.1 hq).elim (h.pk q) fun h1=>by rw [List.mem_singleton.1 h1];exact hy,by rw [List.map_append,h.dat,←e];rfl⟩
theorem zuV {x:Pk}(h:zav I a m c qs D)(hn:Ud D ks=0)(hv:pkV x=true)(hl:m<4096):KH qs ks x=0:=by
 have h1:Ud qs ks=0:=(by rw [←UR h.pk,h.dat];exact hn);have h2:=h.sl.len;refine ziJ (by rw [h1,hv];rfl) ?_;have:¬((qs.length:Int)=4096):=kB;simpa using this
variable{a2:Option Addr}{m2 c2 n:Nat}
theorem zmZ (h:zdC I e a m c a2 m2 c2 qs aa an ac)(he:e=0)(hm:e=0→m=n):aa=a2∧an=m2∧ac=c2∧n=m∧Sl I 3 Q6 a n c qs:=by
 rcases h with ⟨h1,_⟩ | ⟨_,rfl,rfl,rfl,hS⟩
 ·
  exact absurd he h1
 ·
  exact ⟨rfl,rfl,rfl,(hm he).symm,by rw [←hm he];exact hS⟩
variable{i:Int}
theorem zgT {k:Int}(hok:Va.ok (KQ t))(hS:Sl I 1 VY a (V1 t).length c (V1 t)):PkM I ⟨i,k,a,(V1 t).length,c,V1 t⟩:=⟨hS,KX _ hok⟩
theorem zyJ {k:Int}:(((!(decide (i≥0)&&decide (i<(n:Int))))||(!(decide (k≥0)&&decide (k<(n:Int)))))||(i==k))=false↔(0≤i∧i<(n:Int))∧(0≤k∧k<(n:Int))∧i≠k:=by
 simp only [Bool.or_eq_false_iff,Bool.not_eq_false',Bool.and_eq_true,decide_eq_true_eq,beq_eq_false_iff_ne,ne_eq,and_assoc,ge_iff_le]
theorem zw6 {k:Int}(h:(((!(decide (i≥0)&&decide (i<(n:Int))))||(!(decide (k≥0)&&decide (k<(n:Int)))))||(i==k))=true):¬((0≤i∧i<(n:Int))∧(0≤k∧k<(n:Int))∧i≠k):=fun h1=>by
 rw [zyJ.2 h1] at h;cases h
theorem zAR (h:(!(decide (i≥0)&&decide (i<(n:Int))))=true):¬(0≤i∧i<(n:Int)):=fun h1=>by
 simp only [Bool.not_eq_true',Bool.and_eq_false_iff,decide_eq_false_iff_not] at h;omega
theorem zzs (h:(!(decide (i≥0)&&decide (i<(n:Int))))=false):0≤i∧i<(n:Int):=by
 simp only [Bool.not_eq_false',Bool.and_eq_true,decide_eq_true_eq] at h;omega
variable{k:Nat}
theorem zni {α β:Type}(f:α→β){l:List α}{y:α}(h:l[k]? =some y):(l.take (k+1)).map f=(l.take k).map f++[f y]:=by rw [Zs h,List.map_append];rfl
theorem zqU (h:(k:Int)≠i):Jh (k+1) i t=Jh k i t++[pkN i k t]:=by
 unfold Jh;rw [List.range_succ,List.filter_append,List.map_append];have e:(((k:Int) != i)=true):=(by simpa using h);simp [List.filter,e]
theorem zvm (h:(k:Int)=i):Jh (k+1) i t=Jh k i t:=by
 unfold Jh;rw [List.range_succ,List.filter_append,List.map_append];have e:(((k:Int) != i)=false):=(by simpa using h);simp [List.filter,e]
theorem zxq {l:List Pk}(hpk:∀ q∈qs,PkM I q)(h:Ud qs ks=0)(hv:∀ p∈l,pkV p=true)(hl:qs.length+l.length≤4096):Ud (qs.map Vi++l) ks=0:=
 ziB (by rw [UR hpk];exact h) hv (by rw [List.length_map];exact hl)
variable{r:Rd}
theorem zup (h:WQ r≠0):WQ r=570:=by
 unfold WQ at h ⊢
 repeat' split
 all_goals first | rfl | (rename_i h1 h2 h3;rw [if_neg h1,if_neg h2,if_neg h3] at h;exact absurd rfl h)
def DnR (I:Qu)(e:Int)(pa:Option Addr)(pn pc:Nat)(a:Option Addr)(m c:Nat)(a2:Option Addr)(m2 c2:Nat)(ps:List Pe)(ks:List (Int×Int))(R:Int×Rd):Prop:=
 (e≠0∧R=(e,zeroR))∨(e=0∧∃ qs',RmP I pa pn pc a m c a2 m2 c2 ps qs' ks∧R=(0,YD ps qs' ks))
theorem zyb (h:DnR I e pa pn pc a m c a2 m2 c2 ps ks R)(he:e≠0):R=(e,zeroR):=h.elim (fun h=>h.2) fun h=>absurd h.1 he
theorem zAe (h:DnR I e pa pn pc a m c a2 m2 c2 ps ks R)(he:e=0):∃ qs',RmP I pa pn pc a m c a2 m2 c2 ps qs' ks∧R=(0,YD ps qs' ks):=h.elim (fun h=>absurd he h.1) fun h=>h.2
section
variable {I I':Qu} {pa qa aa a a2:Option Addr} {pn pc qn qc an ac m c m2 c2:Nat} {ps:List Pe} {qs:List Pk} {ks:List (Int×Int)} {x:Ev}
theorem zvp (hX:zkm I pa pn pc qa qn qc aa an ac ps qs ks)(hk:x.kind=4)(hZ:zdC I (atE qs ks x.at_) a m c a2 m2 c2 (qs.eraseIdx x.at_.toNat) aa an ac):DnR I (atE qs ks x.at_) pa pn pc a m c a2 m2 c2 ps ks (zab (YD ps qs ks) (Yz x)):=by
 rw [zxK hk];by_cases he:atE qs ks x.at_=0
 ·
  obtain ⟨rfl,rfl,rfl,hS⟩:=hZ.ok he;exact .inr ⟨he,_,⟨hX.r.pe,hX.r.nt,hS,fun q hq=>hX.r.pk q (UC q hq),hX.r.k⟩,zlq hX.r.pk he⟩
 ·
  exact .inl ⟨he,zsu hX.r.pk he⟩
theorem zwf (hX:zkm I pa pn pc qa qn qc aa an ac ps qs ks)(hk:x.kind=5)(hZ:zdC I (UE qs ks x.at_) a m c a2 m2 c2 (qs++[atP qs ks x.at_]) aa an ac):DnR I (UE qs ks x.at_) pa pn pc a m c a2 m2 c2 ps ks (zab (YD ps qs ks) (Yz x)):=by
 rw [zwY hk];by_cases he:UE qs ks x.at_=0
 ·
  obtain ⟨rfl,rfl,rfl,hS⟩:=hZ.ok he;exact .inr ⟨he,_,⟨hX.r.pe,hX.r.nt,hS,fun q hq=>(List.mem_append.1 hq).elim (hX.r.pk q) (fun h=>by rw [List.mem_singleton.1 h];exact zoK hX.r.pk ks x.at_),hX.r.k⟩,zlE hX.r.pk he⟩
 ·
  exact .inl ⟨he,zso hX.r.pk he⟩
theorem zvQ (_:zkm I pa pn pc qa qn qc aa an ac ps qs ks)(h1:x.kind≠1)(h2:x.kind≠2)(h3:x.kind≠3)(h4:x.kind≠4)(h5:x.kind≠5):DnR I 1 pa pn pc qa qn qc aa an ac ps ks (zab (YD ps qs ks) (Yz x)):=by
 refine .inl ⟨by decide,?_⟩;have k1:¬(Yz x).kind=1:=h1;have k2:¬(Yz x).kind=2:=h2;have k3:¬(Yz x).kind=3:=h3;have k4:¬(Yz x).kind=4:=h4;have k5:¬(Yz x).kind=5:=h5;unfold zab;rw [if_neg k1,if_neg k2,if_neg k3,if_neg k4,if_neg k5]
theorem zxr (hR:RmP I pa pn pc qa qn qc aa an ac ps qs ks)(hF:zrz pn qn an ps qs)(h5:pn≤5)(hck:WQ (YD ps qs ks)=0):zkm I pa pn pc qa qn qc aa an ac ps qs ks:=by
 rw [KI hR] at hck;obtain ⟨h1,h2,h3,h4⟩:=zg0 hck;have hq:=hF.q;have hk:=hF.k;exact ⟨hR,h1,h3,h2,h4,kB,fun q hq=>by have:=hF.d q hq;omega,hq,fun pe hp=>by have:=hF.n h5 pe hp;omega⟩
end
variable{j:Int}
theorem zm9 (hR:RmP I pa pn pc qa qn qc aa an ac ps qs ks){i:Nat}(hj:j=(i:Int))(hpe:ps[i]? =some pe)(hT:NtM I t)(hM:∀ y∈pe.notes,NtM I y)(hn:pe.n<4096)(hpn:pn≤100000):YE Tryz.prog 117 [.agg #[.slice pa pn pc,.slice qa qn qc,.slice aa an ac],.int .i64 j,J0 t] I [] (fun v I' L'=>L'=[]∧∃ a c la ln lc,v= .tuple #[.agg #[.slice a pn c,.slice qa qn qc,.slice aa an ac],.int .i64 0]∧WB I' la ln lc (zo8 pe.notes t)∧RmP I' a pn c qa qn qc aa an ac (ps.set i ⟨la,ln,lc,zo8 pe.notes t⟩) qs ks):=by
 intro g H w hw;refine qe Tryz.func117 Tryz.ntmps117 hw ?_;have hIc:=zB6 I;subst hj;have hlp:=hR.pe.len;have hcp:=hR.pe.cap;have hi:i<pn:=(by have h:=(List.getElem?_eq_some_iff.1 hpe).1;omega);have hpm:=List.mem_of_getElem? hpe;refine zR ?_;refine QK rfl rfl rfl (fun b_3=>?_);refine QK rfl rfl rfl (fun b_5=>?_);refine Qp JY rfl rfl (fun b_6=>?_);refine zA (Qb ?_);refine QF (.there .here) (fun I1 hI1 hb1=>?_);have hR:=hR.mono hI1;have hT:=hT.mono hI1;have hIc:=hIc.trans hI1;have h5:=BxI.of hb1;refine Qd (Qm ?_);have hD:=zB6 I1;refine Zn ?_;refine QJ I1 [(b_6,.cells #[.slice none 0 0,.slice none 0 0,.slice none 0 0] 28 (0,0)),(b_3,.cells #[.slice pa pn pc,.slice qa qn qc,.slice aa an ac] 28 (0,0))] mixed ?_;refine zT 0 rfl (Qa rfl Zp) hD ?_;refine zT 1 rfl (Qc rfl Z6 (fun hg=>by exact Qy.h1 rfl)) hD ?_;refine zT 2 rfl (Qe rfl) hD ?_;refine zT 3 rfl (QG rfl rfl Z4 hR.pe (fun hg=>kB)) hD ?_;refine zT 4 rfl (Qa rfl ZK) hD ?_;refine zT 5 rfl (Qc rfl Y1 (fun hg=>by exact zBZ hR.pe hpe rfl)) hD ?_;refine zT 6 rfl (Qg rfl Zc (fun hg=>by exact BxI.cells (vs:=Zf t) h5) rfl) hD ?_;refine qd 7 rfl ?_;refine zpc [_,_] rfl zzA .nil (zqT (hR.nt pe hpm) (fun y hy=>(hM y hy).mono hIc) hT hn) ?_;rintro vv2 I2 L2 hI2 ⟨rfl,la,ln,lc,rfl,hZ3⟩;have hR:=hR.mono hI2;have hIc:=hIc.trans hI2;have hD:=hD.trans hI2;refine Qb ?_;refine zD hD ?_;refine zT 8 rfl (Qe rfl) hD ?_;refine zT 9 rfl (QS rfl rfl) hD ?_;refine zT 10 rfl (QS rfl rfl) hD ?_;refine zT 11 rfl (QB rfl) hD ?_;refine zT 12 rfl (QB rfl) hD ?_;refine Qn kA ?_;refine Qv ?_;refine Qd (Qm (zR (zM ?_)));refine zC (zN ?_);refine zI ?_ ?_<;>intro hc22
 ·
  exact absurd hc22 kC
 refine Qr (Qd (zR ?_));refine zpb [] [] zh6 (fun b_25=>?_);refine zF Zp ?_;refine zL Z6 ?_;refine zpa (_) (ps.flatMap U4) ([(b_25,_)]) rfl rfl zh6 ZU.new (hR.pe.src Uz) (zrD _) ?_;intro v1 L1 hO1 _;rw [List.nil_append,Nat.zero_add] at hO1;obtain ⟨hk9,b9,c9,cur9,rfl,rfl,hcl9,hle9,hst9⟩:=hO1.spot Uz kC hpe;refine zF Zp ?_;refine zS zsj ?_;refine zN (zR ?_);refine zF Zp ?_;refine zL Z6 ?_;refine zM ?_;refine zM ?_;refine zV (QD (ps:=[(0,_)]) [_] zsx rfl rfl) ?_;refine zV (KE rfl rfl Z4 (fun hg=>kB)) ?_;refine Z0 (A:=cur9) (vs:=[.slice la ln lc]) rfl rfl zb2 rfl (Nat.ble_eq_true_of_le hle9) rfl rfl (by repeat (first | exact Upd.here | apply Upd.there | apply ZD)) ?_;refine zN (Qm ?_);refine Wb (hst9 ⟨la,ln,lc,zo8 pe.notes t⟩) Uz kC (by repeat (first | exact .cons .here .nil | exact ZL | exact Zi | apply ZF | apply ZC)) (fun I3 hI3 af3 cf3 ef3 hS9=>?_);obtain ⟨rfl,_,rfl⟩:=Value.slice.inj ef3;have hR:=hR.mono hI3;have hZ3:=hZ3.mono hI3;have hIc:=hIc.trans hI3;refine Qh ?_;refine zV (Qg rfl Zu (fun hg=>by exact Cells.g1) rfl) ?_;refine zh ZX ?_;refine zA (zN (Qs ?_));exact Q2 rfl rfl rfl Zu kF rfl (fun w hw=>⟨_,I3,[],rfl,hIc,hw.subL Qq,rfl,_,_,_,_,_,rfl,hZ3,zyM hR (zB6 _) hS9 hZ3⟩)
theorem zsH (hQ:zav I qa qn qc qs D)(hA:Sl I 2 VI aa an ac ks)(han:an≤100000)(pa:Option Addr)(pn pc:Nat){frm to_:Int}(hT:NtM I t)(hqn:qn<4096)(hnet:Ud D ks=0)(hv:pkV (pkN frm to_ t)=true):YE Tryz.prog 118 [.agg #[.slice pa pn pc,.slice qa qn qc,.slice aa an ac],.int .i64 frm,.int .i64 to_,J0 t] I [] (fun v I' L'=>L'=[]∧∃ a c qs',v= .tuple #[.agg #[.slice pa pn pc,.slice a (qn+1) c,.slice aa an ac],.int .i64 0]∧zav I' a (qn+1) c qs' (D++[pkN frm to_ t])):=by
 intro g H w hw;refine qe Tryz.func118 Tryz.ntmps118 hw ?_;have hIc:=zB6 I;refine zR ?_;refine QK rfl rfl rfl (fun b_4=>?_);refine QK rfl rfl rfl (fun b_7=>?_);refine Qp JY rfl rfl (fun b_8=>?_);refine zA (Qb ?_);refine QF (.there .here) (fun I1 hI1 hb1=>?_);have hQ:=hQ.mono hI1;have hA:=hA.mono hI1;have hT:=hT.mono hI1;have hIc:=hIc.trans hI1;have h7:=BxI.of hb1;refine Qd ?_;refine zY [(4,_),(8,_)] (fun T L0 E I' loc'=>∃ (p10:Nat) (e11:Int) (a4:Option Addr) (m4 c4:Nat) (a5:Option Addr) (m5 c5:Nat) (qs9:List Pk),E=(10,ZI p10)::(11,.int .i64 e11)::T∧HLe I1 I'∧[(b_8,.cells #[.slice none 0 0,.slice none 0 0,.slice none 0 0] 28 (0,0)),(b_4,.cells #[.slice pa pn pc,.slice qa qn qc,.slice aa an ac] 28 (0,0))]=loc'∧BxI I' p10 (.cells #[.slice a4 m4 c4,.slice a5 m5 c5] 26 (0,0))∧e11=0∧(aa=a5∧an=m5∧ac=c5∧qn+1=m4)∧zav I' a4 (qn+1) c4 qs9 (D++[pkN frm to_ t])) ?_ ?_
 ·
  have hKc1:=zB6 I1;have hD:=zB6 I1;refine Zn ?_;refine QJ I1 [(b_8,.cells #[.slice none 0 0,.slice none 0 0,.slice none 0 0] 28 (0,0)),(b_4,.cells #[.slice pa pn pc,.slice qa qn qc,.slice aa an ac] 28 (0,0))] mixed ?_;refine zT 0 rfl (Qa rfl ZH) hD ?_;refine zT 1 rfl (Qg rfl Zl (fun hg=>by exact Cells.s1 (vs:=[_,_]) rfl) rfl) hD ?_;refine zT 2 rfl (Qe rfl) hD ?_;refine zT 3 rfl (Qe rfl) hD ?_;refine zT 4 rfl (Qg rfl Zc (fun hg=>by exact BxI.cells (vs:=Zf t) h7) rfl) hD ?_;refine QU 5 11 rfl rfl kA ?_ ?_
  ·
   refine zpc [_] rfl WV .nil (WX t hT.nd hT.nn hT.ok hT.len) ?_;rintro vv2 I2 L2 hI2 ⟨rfl,a1,c1,rfl,hS1⟩;have hQ:=hQ.mono hI2;have hA:=hA.mono hI2;have hT:=hT.mono hI2;have hKc1:=hKc1.trans hI2;have hD:=hD.trans hI2;refine Qb ?_;refine zD hD ?_;refine zT 6 rfl (QD (ps:=[(0,_),(1,_),(2,_)]) [_,_,_] zbP rfl rfl) hD ?_;refine QU 7 11 rfl rfl kA ?_ ?_
   focus
    refine zpc [_,_] rfl zd9 .nil (zix hQ.sl kB hA han ⟨frm,to_,a1,(V1 t).length,c1,V1 t⟩) ?_;rintro vv3 I3 L3 hI3 ⟨a4,m4,c4,a5,m5,c5,rfl,rfl,hZ,hmZ⟩;have hQ:=hQ.mono hI3;have hT:=hT.mono hI3;have hS1:=hS1.mono hI3;have hKc1:=hKc1.trans hI3;have hD:=hD.trans hI3;have he0:=zuV (x:=⟨frm,to_,a1,(V1 t).length,c1,V1 t⟩) hQ hnet hv hqn;obtain ⟨e5,e6,e7,e8,hZ5⟩:=zmZ hZ he0 hmZ;have hS9:=hQ.add hZ5 (zgT hT.ok hS1) rfl;refine Qb ?_;refine zD hD ?_;refine zT 8 rfl (Qe rfl) hD ?_;refine zT 9 rfl (QS rfl rfl) hD ?_;refine zT 10 rfl (QS rfl rfl) hD ?_;refine qd 11 rfl ?_;refine Qp JC rfl rfl (fun b_10=>?_);refine Qb ?_;refine zD hD ?_
   rotate_left
   refine Qp JC rfl rfl (fun b_10=>?_);refine Qb ?_;refine zD hD ?_;refine qd 7 rfl ?_;refine zpc [_,_] rfl zd9 .nil (zix hQ.sl kB hA han ⟨frm,to_,a1,(V1 t).length,c1,V1 t⟩) ?_;rintro vv5 I5 L5 hI5 ⟨a4,m4,c4,a5,m5,c5,rfl,rfl,hZ,hmZ⟩;have hQ:=hQ.mono hI5;have hT:=hT.mono hI5;have hS1:=hS1.mono hI5;have hKc1:=hKc1.trans hI5;have hD:=hD.trans hI5;have he0:=zuV (x:=⟨frm,to_,a1,(V1 t).length,c1,V1 t⟩) hQ hnet hv hqn;obtain ⟨e5,e6,e7,e8,hZ5⟩:=zmZ hZ he0 hmZ;have hS9:=hQ.add hZ5 (zgT hT.ok hS1) rfl;refine Qb ?_;refine zD hD ?_;refine zT 8 rfl (Qe rfl) hD ?_;refine zT 9 rfl (QS rfl rfl) hD ?_;refine zT 10 rfl (QS rfl rfl) hD ?_
   all_goals
    refine qd 12 rfl ?_;refine zh ZO ?_;refine QV (b:=b_10) (by repeat (first | exact Z1.here | apply Z1.there)) (fun I6 hI6 hb6=>?_);have hS9:=hS9.mono hI6;have hKc1:=hKc1.trans hI6;have hD:=hD.trans hI6;have h10:=BxI.of hb6;refine Qb ?_;refine zD hD ?_;refine zT 13 rfl (QB rfl) hD ?_;refine Qn kA ?_;refine Qv ?_;exact zm (h:=⟨_,_,_,_,_,_,_,_,_,rfl,hKc1,rfl,h10,he0,⟨e5,e6,e7,e8⟩,hS9⟩)
  refine Qp JC rfl rfl (fun b_10=>?_);refine Qb ?_;refine zD hD ?_;refine qd 5 rfl ?_;refine zpc [_] rfl WV .nil (WX t hT.nd hT.nn hT.ok hT.len) ?_;rintro vv7 I7 L7 hI7 ⟨rfl,a1,c1,rfl,hS1⟩;have hQ:=hQ.mono hI7;have hA:=hA.mono hI7;have hT:=hT.mono hI7;have hKc1:=hKc1.trans hI7;have hD:=hD.trans hI7;refine Qb ?_;refine zD hD ?_;refine zT 6 rfl (QD (ps:=[(0,_),(1,_),(2,_)]) [_,_,_] zbP rfl rfl) hD ?_;refine qd 7 rfl ?_;refine zpc [_,_] rfl zd9 .nil (zix hQ.sl kB hA han ⟨frm,to_,a1,(V1 t).length,c1,V1 t⟩) ?_;rintro vv8 I8 L8 hI8 ⟨a4,m4,c4,a5,m5,c5,rfl,rfl,hZ,hmZ⟩;have hQ:=hQ.mono hI8;have hT:=hT.mono hI8;have hS1:=hS1.mono hI8;have hKc1:=hKc1.trans hI8;have hD:=hD.trans hI8;have he0:=zuV (x:=⟨frm,to_,a1,(V1 t).length,c1,V1 t⟩) hQ hnet hv hqn;obtain ⟨e5,e6,e7,e8,hZ5⟩:=zmZ hZ he0 hmZ;have hS9:=hQ.add hZ5 (zgT hT.ok hS1) rfl;refine Qb ?_;refine zD hD ?_;refine zT 8 rfl (Qe rfl) hD ?_;refine zT 9 rfl (QS rfl rfl) hD ?_;refine zT 10 rfl (QS rfl rfl) hD ?_;refine qd 12 rfl ?_;refine zh ZO ?_;refine QV (b:=b_10) (by repeat (first | exact Z1.here | apply Z1.there)) (fun I9 hI9 hb9=>?_);have hS9:=hS9.mono hI9;have hKc1:=hKc1.trans hI9;have hD:=hD.trans hI9;have h10:=BxI.of hb9;refine Qb ?_;refine zD hD ?_;refine zT 13 rfl (QB rfl) hD ?_;refine Qn kA ?_;refine Qv ?_;exact zm (h:=⟨_,_,_,_,_,_,_,_,_,rfl,hKc1,rfl,h10,he0,⟨e5,e6,e7,e8⟩,hS9⟩)
 rintro E J10 loc' ⟨p10,e11,a4,m4,c4,a5,m5,c5,qs9,rfl,hJ,rfl,h10,rfl,⟨rfl,rfl,rfl,rfl⟩,hS9⟩;have hIc:=hIc.trans hJ;refine Qm (zR (zM ?_));refine zC (zN ?_);refine zI ?_ ?_<;>intro hc24
 ·
  exact absurd hc24 kC
 refine Qr (Qd (zR ?_));refine zV (Qg rfl Zl (fun hg=>by exact BxI.cells (vs:=[_,_]) h10) rfl) ?_;refine zF ZH ?_;refine Z0 rfl rfl ZO rfl rfl rfl rfl (by repeat (first | exact Upd.here | apply Upd.there | apply ZD)) ?_;refine zN (zR ?_);refine zV (Qg rfl Zu (fun hg=>by exact Cells.g1) rfl) ?_;refine zh ZX ?_;refine zA (zN (Qs ?_));exact Q2 rfl rfl rfl Zu kF rfl (fun w hw=>⟨_,J10,[],rfl,hIc,hw.subL Qq,rfl,_,_,_,rfl,hS9⟩)
theorem zhj:Fun Tryz.prog 116:=.of Tryz.func116 kA kA
theorem zoL:Fun Tryz.prog 117:=.of Tryz.func117 kA kA
theorem zlY:Fun Tryz.prog 118:=.of Tryz.func118 kA kA
theorem zwM (hX:zkm I pa pn pc qa qn qc aa an ac ps qs ks)(x:Ev)(hE:EvM I x):YE Tryz.prog 53 [.agg #[.slice pa pn pc,.slice qa qn qc,.slice aa an ac],.agg (U3 x).toArray] I [] (DoQ (Ua (YD ps qs ks) (Yz x))):=by
 intro g H w hw;refine qe Tryz.func53 Tryz.ntmps53 hw ?_;have hIc:=zB6 I;have hpl:=hX.r.pe.len;have hlq:=hX.r.q.len;have hm24:=hX.m;have hq40:=hX.q;refine zR ?_;refine QK rfl rfl rfl (fun b_2=>?_);refine QK rfl rfl rfl (fun b_3=>?_);refine Qp JY rfl rfl (fun b_4=>?_);refine zA (Qb ?_);refine QF (.there .here) (fun I1 hI1 hb1=>?_);have hX:=hX.mono hI1;have hE:=hE.mono hI1;have hIc:=hIc.trans hI1;have h3:=BxI.of hb1;refine QF (.there .here) (fun I2 hI2 hb2=>?_);have hX:=hX.mono hI2;have hE:=hE.mono hI2;have h3:=h3.mono hI2;have hIc:=hIc.trans hI2;have h2:=BxI.of hb2;refine Qd (Qm (zR ?_));refine zV (Qg rfl Zu (fun hg=>by exact BxI.cells (vs:=[_,_,_]) h2) rfl) ?_;refine zF Y5 ?_;refine zV (Qc rfl Ql (fun hg=>by exact Qy.imm h3.out rfl)) ?_;refine qcV (vs:=[_,_]) rfl zhj (zhK hX.r x.peer) ?_;refine zO (zN ?_);refine zI ?_ ?_<;>intro hc13
 ·
  refine zR ?_;refine zV (QD (ps:=[]) [_,_,_] KT rfl rfl) ?_;refine zh ZX ?_;refine zA (zN (Qs (Qf ?_)));exact Q2 rfl rfl rfl Zu kF rfl (fun w hw=>⟨_,I2,[],rfl,hIc,hw.subL Qq,Xq (zsO (by rw [hpl];exact zAR hc13))⟩)
 have hpr:=zzs hc13;refine Qr (Qd (Qm (zR ?_)));refine zF WA ?_;refine zV (Qg rfl Zc (fun hg=>by exact Cells.part (pre:=[_,_,_,_]) (vs:=Zf x.note) (post:=[]) (BxI.cells (vs:=U3 x) h3) rfl) rfl) ?_;refine qcV (vs:=[_]) rfl zfx (Wg x.note hE.nd hE.w) ?_;refine zO (zN ?_);refine zI ?_ ?_<;>intro hc18
 ·
  refine zR ?_;refine zV (QD (ps:=[]) [_,_,_] KT rfl rfl) ?_;refine zh ZX ?_;refine zA (zN (Qs (Qf ?_)));exact Q2 rfl rfl rfl Zu kF rfl (fun w hw=>⟨_,I2,[],rfl,hIc,hw.subL Qq,Xq (zr3 hE (by rw [hpl];exact hpr) (by simpa using hc18))⟩)
 have hf:QN x.note=true:=(by simpa using hc18);have hTM:=hE.msg hf;obtain ⟨pe,hpe⟩:∃ y,ps[x.peer.toNat]? =some y:=⟨_,List.getElem?_eq_getElem kB⟩;have hpm:=List.mem_of_getElem? hpe;have hpn100:=hX.n pe hpm;have hlr:=fun a n c=>zfz hpe (hX.v pe hpm) (hX.msg hpm) hTM (by have h:=(hX.r.nt pe hpm).sl.len;omega) a n c;refine Qr (Qd (zR ?_));refine zV (Qg rfl Zu (fun hg=>by exact BxI.cells (vs:=[_,_,_]) h2) rfl) ?_;refine zF Y5 ?_;refine zV (Qc rfl Ql (fun hg=>by exact Qy.imm h3.out rfl)) ?_;refine zF WA ?_;refine zV (Qg rfl Zc (fun hg=>by exact Cells.part (pre:=[_,_,_,_]) (vs:=Zf x.note) (post:=[]) (BxI.cells (vs:=U3 x) h3) rfl) rfl) ?_;refine zpc [_,_,_] rfl zoL .nil (zm9 hX.r (i:=x.peer.toNat) (Int.toNat_of_nonneg hpr.1).symm hpe hTM (hX.msg hpm) kB kB) ?_;rintro vv3 I3 L3 hI3 ⟨rfl,a1,c1,la,ln,lc,rfl,hZ1,hR1⟩;have hX:=hX.mono hI3;have hE:=hE.mono hI3;have h3:=h3.mono hI3;have h2:=h2.mono hI3;have hTM:=hTM.mono hI3;have hIc:=hIc.trans hI3;refine zM ?_;refine zE ?_;refine zE ?_;refine Qp JY rfl rfl (fun b_6=>?_);refine zh ZX ?_;refine zA (zN (Qm (zR ?_)));refine zA (zN (Qw ?_));refine zU [(2,_),(3,_),(4,_),(6,_)] (fun T L0 mz E I' loc'=>∃ (k:Nat) (qa2:Option Addr) (qn2:Nat) (qc2:Nat) (qs2:List Pk),mz=pn-k∧E=(7,.int .i64 0)::(8,.int .i64 k)::T∧HLe I3 I'∧[(b_6,.cells #[.slice a1 pn c1,.slice qa2 qn2 qc2,.slice aa an ac] 28 (0,0)),(b_4,.cells #[.slice none 0 0,.slice none 0 0,.slice none 0 0] 28 (0,0))]=loc'∧k≤pn∧zav I' qa2 qn2 qc2 qs2 (qs.map Vi++Jh k x.peer x.note)∧qn2≤qn+k∧k≤pn) ?_ (h:=⟨0,qa,qn,qc,qs,rfl,rfl,zB6 _,rfl,Nat.zero_le _,⟨hX.r.q,hX.r.pk,by simp [Jh]⟩,kB,kB⟩);rintro mz E J4 loc' ⟨k,qa2,qn2,qc2,qs2,rfl,rfl,hJ,rfl,hk,hS,hql,hkn⟩;have hX:=hX.mono hJ;have hE:=hE.mono hJ;have h3:=h3.mono hJ;have h2:=h2.mono hJ;have hTM:=hTM.mono hJ;have hR1:=hR1.mono hJ;have hIc:=hIc.trans hJ;have hB0:=hJ;refine Qm (zR (zM ?_));refine zC ?_;refine zM ?_;refine Qt 2 rfl rfl rfl ?_;refine zK (Qe rfl) ?_;refine zK (Qa rfl Zp) ?_;refine zK (Qc rfl Z6 (fun hg=>by exact Qy.imm h2.out rfl)) ?_;refine zK (QT rfl Z4) ?_;refine zK (QA rfl rfl rfl) ?_;refine QE rfl rfl rfl rfl rfl ?_;refine zN ?_;refine zI ?_ ?_<;>intro hc37
 ·
  have hlt_k:k<pn:=(by have h:=hc37;simp at h;omega);refine Qr (Qd (Qm (Qw (zR (zM ?_)))));refine zF Y5 ?_;refine zV (Qc rfl Ql (fun hg=>by exact Qy.imm h3.out rfl)) ?_;refine zC (zN ?_);refine zI ?_ ?_<;>intro hc43
  focus
   have hne:(k:Int)≠x.peer:=(by simpa using hc43);refine Qh ?_;refine zV (Qg rfl Zu (fun hg=>by exact Cells.g0) rfl) ?_;refine zF Y5 ?_;refine zV (Qc rfl Ql (fun hg=>by exact Qy.imm h3.out rfl)) ?_;refine zM ?_;refine zF WA ?_;refine zV (Qg rfl Zc (fun hg=>by exact Cells.part (pre:=[_,_,_,_]) (vs:=Zf x.note) (post:=[]) (BxI.cells (vs:=U3 x) h3) rfl) rfl) ?_;refine zpc [_,_,_,_] rfl zlY .nil (zsH hS hX.r.k hX.an a1 pn c1 hTM kB (zxq hX.r.pk hX.net (fun p hp=>by obtain ⟨j,hj,hne,rfl⟩:=zbf hp;exact zdo hX.m.2 hpr ⟨kB,kB⟩ (fun e=>hne e.symm) hTM.len) (by have h:=zbv k x.peer x.note;omega)) (zdo hX.m.2 hpr ⟨kB,kB⟩ (fun e=>hne e.symm) hTM.len)) ?_;rintro vv5 I5 L5 hI5 ⟨rfl,a6,c6,qs6,rfl,hS5⟩;have hB0:=hB0.trans hI5;have hS7:=hS5;rw [List.append_assoc,←zqU hne] at hS7;refine zM ?_;refine zE ?_;refine zE ?_;refine zh ZX ?_;refine zA (Qb (Qk (Qd (Qh ?_))));refine zM ?_
  rotate_left
  have heq:(k:Int)=x.peer:=(by simpa using hc43);have hS7:=hS;rw [←zvm heq] at hS7;refine Qr (Qk (Qd (Qh (zM ?_))))
  all_goals
   refine zB ?_;refine zA (Qb ?_);exact zm (h:=⟨pn-(k+1),kB,k+1,_,_,_,_,rfl,rfl,hB0,rfl,kB,hS7,kB,kB⟩)
 have hkp:k=ps.length:=(by have h:=hc37;simp at h;omega);rw [hkp] at hS;refine Zk (Qo (Qo (Qz (Qd (zR ?_)))));refine zV (Qg rfl Zu (fun hg=>by exact Cells.g0) rfl) ?_;refine zM ?_;refine zh ZX ?_;refine zA (zN (Qs ?_));exact Q2 rfl rfl rfl Zu kF rfl (fun w hw=>⟨_,J4,[],rfl,hIc,hw.subL Qq,zfu (zrU hE (by rw [hpl];exact hpr) hf (hlr _ _ _)) ⟨hR1.pe,hR1.nt,hS.sl,hS.pk,hR1.k⟩ rfl hS.dat⟩)
theorem zzD (hX:zkm I pa pn pc qa qn qc aa an ac ps qs ks)(x:Ev)(_hE:EvM I x):YE Tryz.prog 54 [.agg #[.slice pa pn pc,.slice qa qn qc,.slice aa an ac],.agg (U3 x).toArray] I [] (DoQ (Xk (YD ps qs ks) (Yz x))):=by
 intro g H w hw;refine qe Tryz.func54 Tryz.ntmps54 hw ?_;have hIc:=zB6 I;have hpl:=hX.r.pe.len;have hlq:=hX.r.q.len;have hm24:=hX.m;have hq40:=hX.q;refine zR ?_;refine QK rfl rfl rfl (fun b_2=>?_);refine QK rfl rfl rfl (fun b_3=>?_);refine Qp JY rfl rfl (fun b_4=>?_);refine zA (Qb ?_);refine QF (.there .here) (fun I1 hI1 hb1=>?_);have hX:=hX.mono hI1;have hIc:=hIc.trans hI1;have h3:=BxI.of hb1;refine QF (.there .here) (fun I2 hI2 hb2=>?_);have hX:=hX.mono hI2;have h3:=h3.mono hI2;have hIc:=hIc.trans hI2;have h2:=BxI.of hb2;refine Qd (Qm (zR ?_));refine zV (Qg rfl Zu (fun hg=>by exact BxI.cells (vs:=[_,_,_]) h2) rfl) ?_;refine zF Y5 ?_;refine zV (Qc rfl Ql (fun hg=>by exact Qy.imm h3.out rfl)) ?_;refine qcV (vs:=[_,_]) rfl zhj (zhK hX.r x.peer) ?_;refine zO ?_;refine zM ?_;refine QI 5 rfl rfl rfl ?_;refine zJ (Qg rfl Zu (fun hg=>by exact BxI.cells (vs:=[_,_,_]) h2) rfl) ?_;refine zJ (Qa rfl Wz) ?_;refine zJ (Qc rfl Ql (fun hg=>by exact Qy.imm h3.out rfl)) ?_;refine qf (vs:=[_,_]) rfl zhj (fun hg=>zhK hX.r x.to_) ?_;refine zJ (ZB rfl) ?_;refine Q9 rfl rfl rfl rfl rfl ?_;refine zM ?_;refine QI 12 rfl rfl rfl ?_;refine zJ (Qa rfl Y5) ?_;refine zJ (Qc rfl Ql (fun hg=>by exact Qy.imm h3.out rfl)) ?_;refine zJ (Qa rfl Wz) ?_;refine zJ (Qc rfl Ql (fun hg=>by exact Qy.imm h3.out rfl)) ?_;refine zJ (QA rfl rfl rfl) ?_;refine Q9 rfl rfl rfl rfl rfl ?_;refine zN ?_;refine zI ?_ ?_<;>intro hc28
 ·
  refine zR ?_;refine zV (QD (ps:=[]) [_,_,_] KT rfl rfl) ?_;refine zh ZX ?_;refine zA (zN (Qs (Qf ?_)));exact Q2 rfl rfl rfl Zu kF rfl (fun w hw=>⟨_,I2,[],rfl,hIc,hw.subL Qq,Xq (ziM (fun h9=>zw6 hc28 (by rw [←hpl];exact ⟨W5.1 h9.1,W5.1 h9.2.1,h9.2.2⟩)))⟩)
 obtain ⟨hpr,hpt,hne⟩:=zyJ.1 hc28;obtain ⟨pe,hpe⟩:∃ y,ps[x.peer.toNat]? =some y:=⟨_,List.getElem?_eq_getElem kB⟩;have hpm:=List.mem_of_getElem? hpe;have hpn100:=hX.n pe hpm;have hN:=hX.r.nt pe hpm;have hNl:=hN.sl.len;refine Qr (Qd (zR ?_));refine zV (Qg rfl Zu (fun hg=>by exact BxI.cells (vs:=[_,_,_]) h2) rfl) ?_;refine Qp JY rfl rfl (fun b_6=>?_);refine zh ZX ?_;refine zN (zR ?_);refine zA ?_;refine zN (zR ?_);refine zF Zp ?_;refine zV (Qc rfl Z6 (fun hg=>by exact Qy.imm h2.out rfl)) ?_;refine zF Y5 ?_;refine zV (Qc rfl Ql (fun hg=>by exact Qy.imm h3.out rfl)) ?_;refine zV (QG rfl rfl Z4 hX.r.pe (fun hg=>kB)) ?_;refine zF ZK ?_;refine zV (Qc rfl Y1 (fun hg=>by exact zBZ hX.r.pe hpe rfl)) ?_;refine zA (zN (Qm (zR ?_)));refine zA (zN (Qw ?_));refine zU [(3,_),(4,_),(6,_),(8,_)] (fun T L0 mz E I' loc'=>∃ (k:Nat) (qa2:Option Addr) (qn2:Nat) (qc2:Nat) (qs2:List Pk),mz=pe.n-k∧E=(7,.int .i64 0)::(9,.int .i64 k)::T∧HLe I2 I'∧[(b_6,.cells #[.slice pa pn pc,.slice qa2 qn2 qc2,.slice aa an ac] 28 (0,0)),(b_4,.cells #[.slice none 0 0,.slice none 0 0,.slice none 0 0] 28 (0,0))]=loc'∧k≤pe.n∧zav I' qa2 qn2 qc2 qs2 (qs.map Vi++(pe.notes.take k).map (pkN x.peer x.to_))∧qn2≤qn+k) ?_ (h:=⟨0,qa,qn,qc,qs,rfl,rfl,zB6 _,rfl,Nat.zero_le _,⟨hX.r.q,hX.r.pk,by simp⟩,kB⟩);rintro mz E J3 loc' ⟨k,qa2,qn2,qc2,qs2,rfl,rfl,hJ,rfl,hk,hS,hql⟩;have hX:=hX.mono hJ;have h3:=h3.mono hJ;have hN:=hN.mono hJ;have hIc:=hIc.trans hJ;have hB0:=hJ;refine Qm (zR (zM ?_));refine zC ?_;refine zM ?_;refine Qt 2 rfl rfl rfl ?_;refine zK (Qe rfl) ?_;refine zK (Qe rfl) ?_;refine zK (QT rfl Zj) ?_;refine zK (QA rfl rfl rfl) ?_;refine QE rfl rfl rfl rfl rfl ?_;refine zN ?_;refine zI ?_ ?_<;>intro hc45
 ·
  have hlt_k:k<pe.n:=(by have h:=hc45;simp at h;omega);obtain ⟨y,hy⟩:∃ y,pe.notes[k]? =some y:=⟨_,List.getElem?_eq_getElem kB⟩;have hym:=List.mem_of_getElem? hy;have hTM:=hX.msg hpm y hym;refine Qr (Qd (Qm (Qw ?_)));have hD:=zB6 J3;refine Zn ?_;refine QJ J3 [] mixed ?_;refine zT 1 rfl (Qa rfl Y5) hD ?_;refine zT 2 rfl (Qc rfl Ql (fun hg=>by exact Qy.imm h3.out rfl)) hD ?_;refine zT 3 rfl (Qa rfl Wz) hD ?_;refine zT 4 rfl (Qc rfl Ql (fun hg=>by exact Qy.imm h3.out rfl)) hD ?_;refine zT 5 rfl (Qe rfl) hD ?_;refine zT 6 rfl (Qe rfl) hD ?_;refine zT 7 rfl (QG rfl rfl Zj hN.sl (fun hg=>kB)) hD ?_;refine zT 8 rfl (Qg rfl Zc (fun hg=>by exact zB7 hN.sl hy) rfl) hD ?_;refine qd 0 rfl ?_;refine zV (Qg rfl Zu (fun hg=>by exact Cells.g0) rfl) ?_;refine Qb ?_;refine zD hD ?_;refine qd 9 rfl ?_;refine zpc [_,_,_,_] rfl zlY .nil (zsH hS hX.r.k hX.an pa pn pc hTM kB (zxq hX.r.pk hX.net (fun p hp=>by obtain ⟨z,hz,rfl⟩:=List.mem_map.1 hp;exact zdo hX.m.2 hpr hpt hne (hX.msg hpm z (List.mem_of_mem_take hz)).len) (by rw [List.length_map,List.length_take];omega)) (zdo hX.m.2 hpr hpt hne hTM.len)) ?_;rintro vv4 I4 L4 hI4 ⟨rfl,a6,c6,qs6,rfl,hS5⟩;have hB0:=hB0.trans hI4;have hD:=hD.trans hI4;have hS6:=hS5;rw [List.append_assoc,←zni (pkN x.peer x.to_) hy] at hS6;refine Qb ?_;refine zD hD ?_;refine zT 10 rfl (Qe rfl) hD ?_;refine zT 11 rfl (QS rfl rfl) hD ?_;refine zT 12 rfl (QS rfl rfl) hD ?_;refine qd 13 rfl ?_;refine zh ZX ?_;refine Qb ?_;refine zD hD ?_;refine zT 14 rfl (QB rfl) hD ?_;refine Qn kA ?_;refine Qv ?_;refine Qk (Qd (Qh (zM ?_)));refine zB ?_;refine zA (Qb ?_);exact zm (h:=⟨pe.n-(k+1),kB,k+1,_,_,_,_,rfl,rfl,hB0,rfl,kB,hS6,kB⟩)
 have hge_k:pe.n≤k:=(by have h:=hc45;simp at h;omega);rw [ZR hNl hge_k] at hS;refine Zk (Qo (Qo (Qz (Qd (zR ?_)))));refine zV (Qg rfl Zu (fun hg=>by exact Cells.g0) rfl) ?_;refine zM ?_;refine zh ZX ?_;refine zA (zN (Qs ?_));exact Q2 rfl rfl rfl Zu kF rfl (fun w hw=>⟨_,J3,[],rfl,hIc,hw.subL Qq,zfu (zrN (by rw [hpl];exact hpr) (by rw [hpl];exact hpt) hne hpe) ⟨hX.r.pe,hX.r.nt,hS.sl,hS.pk,hX.r.k⟩ rfl hS.dat⟩)
theorem zvF:Fun Tryz.prog 119:=.of Tryz.func119 kA kA
theorem zmQ (hX:zkm I pa pn pc qa qn qc aa an ac ps qs ks)(x:Ev)(_hE:EvM I x):YE Tryz.prog 55 [.agg #[.slice pa pn pc,.slice qa qn qc,.slice aa an ac],.agg (U3 x).toArray] I [] (DoQ (za1 (YD ps qs ks) (Yz x))):=by
 intro g H w hw;refine qe Tryz.func55 Tryz.ntmps55 hw ?_;have hIc:=zB6 I;have hpl:=hX.r.pe.len;have hlq:=hX.r.q.len;have hm24:=hX.m;have hq40:=hX.q;refine zR ?_;refine QK rfl rfl rfl (fun b_2=>?_);refine QK rfl rfl rfl (fun b_3=>?_);refine Qp JY rfl rfl (fun b_4=>?_);refine zA (Qb ?_);refine QF (.there .here) (fun I1 hI1 hb1=>?_);have hX:=hX.mono hI1;have hIc:=hIc.trans hI1;have h3:=BxI.of hb1;refine Qd (zR ?_);refine zF ZH ?_;refine zV (Qg rfl Zl (fun hg=>by exact Cells.s1 (vs:=[_,_]) rfl) rfl) ?_;refine zF WK ?_;refine zV (Qc rfl Ql (fun hg=>by exact Qy.imm h3.out rfl)) ?_;refine zpc [_,_] rfl zvF .nil (zow hX.r.q kB hX.r.k hX.an x.at_) ?_;rintro vv2 I2 L2 hI2 ⟨pk,a4,m4,c4,a5,m5,c5,rfl,rfl,hpe9,hZ⟩;have hX:=hX.mono hI2;have hIc:=hIc.trans hI2;refine zM ?_;refine zE ?_;refine zE ?_;refine zE ?_;refine Qp XM rfl rfl (fun b_6=>?_);refine Qp JC rfl rfl (fun b_7=>?_);refine zh VE ?_;refine zh ZO ?_;refine zA (zN (Qm (zR ?_)));refine zM ?_;refine zC (zN ?_);refine zI ?_ ?_<;>intro hc21
 ·
  have hn9:atE qs ks x.at_≠0:=(by simpa using hc21);refine zR ?_;refine zV (QD (ps:=[]) [_,_,_] KT rfl rfl) ?_;refine zM ?_;refine zh ZX ?_;refine zA (zN (Qs (Qf ?_)));exact Q2 rfl rfl rfl Zu kF rfl (fun w hw=>⟨_,I2,[],rfl,hIc,hw.subL Qq,Xq (zkA hX.r.pk hn9)⟩)
 have he:atE qs ks x.at_=0:=(by simpa using hc21);obtain ⟨rfl,rfl,rfl,hS9⟩:=hZ.ok he;obtain rfl:=hpe9 he;have hRd:RmP _ pa pn pc a4 m4 c4 a5 m5 c5 ps (qs.eraseIdx x.at_.toNat) ks:=⟨hX.r.pe,hX.r.nt,hS9,fun q hq=>hX.r.pk q (UC q hq),hX.r.k⟩;refine Qr (Qd (zR ?_));refine zV (Qg rfl Zl (fun hg=>by exact Cells.g0) rfl) ?_;refine zF ZH ?_;refine Z0 rfl rfl ZO rfl rfl rfl rfl (by repeat (first | exact Upd.here | apply Upd.there | apply ZD)) ?_;refine zN (Qm (zR ?_));refine zF Jw ?_;refine zL Ql ?_;refine zF VO ?_;refine zL Ql ?_;refine zC (zN ?_);refine zI ?_ ?_<;>intro hc30
 ·
  have heq:(VN qs ks x.at_).frm=(VN qs ks x.at_).to_:=(by simpa using hc30);refine zR ?_;refine zV (Qg rfl Zu (fun hg=>by exact Cells.g3) rfl) ?_;refine zh ZX ?_;refine zA (zN (Qs (Qf ?_)));exact Q2 rfl rfl rfl Zu kF rfl (fun w hw=>⟨_,I2,[],rfl,hIc,hw.subL Qq,zfu (zlB hX.r.pk he heq) hRd rfl rfl⟩)
 have hne:(VN qs ks x.at_).frm≠(VN qs ks x.at_).to_:=(by simpa using hc30);have hin:=zhw he hne;have hPk:=hX.r.pk _ hin;obtain ⟨hsm,_,hto9⟩:=zhN (hX.bad _ hin);have hz9:=(zn7 hX.net _ hin).2;have hto:(VN qs ks x.at_).to_.toNat<pn:=kB;obtain ⟨pe,hpe⟩:∃ y,ps[(VN qs ks x.at_).to_.toNat]? =some y:=⟨_,List.getElem?_eq_getElem kB⟩;have hpm:=List.mem_of_getElem? hpe;have hpn100:=hX.n pe hpm;refine Qr (Qd (zR ?_));refine zF JR ?_;refine zL V5 ?_;refine zpc [_] rfl zsX .nil (zkB hPk.sl hPk.byte (hX.dl _ hin)) ?_;rintro vv3 I3 L3 hI3 ⟨rfl,cs,bb,rfl,hrd⟩;have hX:=hX.mono hI3;have hRd:=hRd.mono hI3;have hIc:=hIc.trans hI3;obtain ⟨t9,rfl,rfl,hNd9,hok9⟩:=zez hrd hsm;have hTM:=zdZ hPk.byte (by have h:=hPk.sl.len;have h2:=hX.dl _ hin;omega) hok9 hNd9;have hlr:=fun a n c=>zfz hpe (hX.v pe hpm) (hX.msg hpm) hTM (by have h:=(hX.r.nt pe hpm).sl.len;omega) a n c;refine zM ?_;refine zE ?_;refine zE ?_;refine Qp U2 rfl rfl (fun b_9=>?_);refine zh Vk ?_;refine zA ?_;refine zN (zR ?_);refine zV (Qg rfl Zu (fun hg=>by exact Cells.g4) rfl) ?_;refine zF VO ?_;refine zL Ql ?_;refine zV (Qg rfl Zc (fun hg=>by exact Cells.g0) rfl) ?_;refine zpc [_,_,_] rfl zoL .nil (zm9 hRd (i:=(VN qs ks x.at_).to_.toNat) (Int.toNat_of_nonneg hz9).symm hpe hTM (hX.msg hpm) kB kB) ?_;rintro vv4 I4 L4 hI4 ⟨rfl,a1,c1,la,ln,lc,rfl,hZ1,hR1⟩;have hX:=hX.mono hI4;have hIc:=hIc.trans hI4;refine zE ?_;refine zE ?_;refine zh ZX ?_;refine zA (zN (Qs ?_));exact Q2 rfl rfl rfl Zu kF rfl (fun w hw=>⟨_,I4,[],rfl,hIc,hw.subL Qq,zfu (zhE hX.r.pk he hne hok9 (hlr _ _ _)) hR1 rfl rfl⟩)
theorem zn5:Fun Tryz.prog 17:=.of Tryz.func17 kA kA
theorem zy3:Fun Tryz.prog 53:=.of Tryz.func53 kA kA
theorem zxs:Fun Tryz.prog 54:=.of Tryz.func54 kA kA
theorem zw9:Fun Tryz.prog 55:=.of Tryz.func55 kA kA
theorem zxX:Fun Tryz.prog 56:=.of Tryz.func56 kA kA
theorem zzp:Fun Tryz.prog 57:=.of Tryz.func57 kA kA
theorem zBE (hR:RmP I pa pn pc qa qn qc aa an ac ps qs ks)(hF:zrz pn qn an ps qs)(h5:pn≤5)(hnw:∀ x∈ps,∀ y∈x.notes,NtW y)(x:Ev)(hE:EvM I x):YE Tryz.prog 13 [.agg #[.slice pa pn pc,.slice qa qn qc,.slice aa an ac],.agg (U3 x).toArray] I [] (DoQ (doF (YD ps qs ks) (Yz x))):=by
 intro g H w hw;refine qe Tryz.func13 Tryz.ntmps13 hw ?_;have hIc:=zB6 I;have hq40:=hF.q;have ha40:=hF.k;have hn30:=hF.n h5;have hd2:=hF.d;refine zR ?_;refine QK rfl rfl rfl (fun b_2=>?_);refine QK rfl rfl rfl (fun b_3=>?_);refine Qp JY rfl rfl (fun b_4=>?_);refine zA (Qb ?_);refine QF (.there .here) (fun I1 hI1 hb1=>?_);have hR:=hR.mono hI1;have hE:=hE.mono hI1;have hIc:=hIc.trans hI1;have h3:=BxI.of hb1;refine QF (.there .here) (fun I2 hI2 hb2=>?_);have hR:=hR.mono hI2;have hE:=hE.mono hI2;have h3:=h3.mono hI2;have hIc:=hIc.trans hI2;have h2:=BxI.of hb2;refine Qd (Qm (zR ?_));refine zV (Qg rfl Zu (fun hg=>by exact BxI.cells (vs:=[_,_,_]) h2) rfl) ?_;refine zpc [_] rfl zn5 .nil (znT hR kB kB kB (fun z hz=>by have h:=hn30 z hz;omega) (fun z hz=>by have h:=hd2 z hz;omega) hnw) ?_;rintro vv3 I3 L3 hI3 ⟨rfl,rfl⟩;have hR:=hR.mono hI3;have hE:=hE.mono hI3;have h3:=h3.mono hI3;have h2:=h2.mono hI3;have hIc:=hIc.trans hI3;refine zC (zN ?_);refine zI ?_ ?_<;>intro hc10
 ·
  have hck:WQ (YD ps qs ks)≠0:=(by simpa using hc10);refine zR ?_;refine zV (QD (ps:=[]) [_,_,_] KT rfl rfl) ?_;refine zh ZX ?_;refine zA (zN (Qs (Qf ?_)));exact Q2 rfl rfl rfl Zu kF rfl (fun w hw=>⟨_,I3,[],rfl,hIc,hw.subL Qq,Xq (by rw [zgk hck,zup hck])⟩)
 have hck:WQ (YD ps qs ks)=0:=(by simpa using hc10);have hX:=zxr hR hF h5 hck;refine Qr (Qd (zR ?_));refine zV (Qg rfl Zu (fun hg=>by exact BxI.cells (vs:=[_,_,_]) h2) rfl) ?_;refine Qp JY rfl rfl (fun b_6=>?_);refine zh ZX ?_;refine zN (zR ?_);refine zA (zN ?_);refine zY [(4,_),(6,_)] (fun T L0 E I' loc'=>∃ (e7:Int) (a7:Option Addr) (m7 c7:Nat) (b7:Option Addr) (l7 d7:Nat),E=(7,.int .i64 e7)::T∧HLe I3 I'∧[(b_6,.cells #[.slice pa pn pc,.slice a7 m7 c7,.slice b7 l7 d7] 28 (0,0)),(b_4,.cells #[.slice none 0 0,.slice none 0 0,.slice none 0 0] 28 (0,0))]=loc'∧DnR I' e7 pa pn pc a7 m7 c7 b7 l7 d7 ps ks (zab (YD ps qs ks) (Yz x))) ?_ ?_
 ·
  have hKb0:=zB6 I3;refine zR ?_;refine zF zem ?_;refine zV (Qc rfl Ql (fun hg=>by exact Qy.imm h3.out rfl)) ?_;refine zN (Qw (zR (zC ?_)));refine zA (zN ?_);refine zI ?_ ?_<;>intro hc15
  ·
   have hk1:x.kind=1:=(by simpa using hc15);refine zR ?_;refine zV (Qg rfl Zu (fun hg=>by exact BxI.cells (vs:=[_,_,_]) h2) rfl) ?_;refine zV (Qg rfl zdy (fun hg=>by exact BxI.cells (vs:=U3 x) h3) rfl) ?_;refine zpc [_,_] rfl zy3 .nil (zwM hX x hE) ?_;rintro vv4 I4 L4 hI4 ⟨rfl,vr1,rfl,hV1⟩;have hIc:=hIc.trans hI4;obtain ⟨pa1,pn1,pc1,qa1,qn1,qc1,aa1,an1,ac1,ps1,qs1,rfl,hR1,he1⟩:=hV1;refine zE ?_;refine zE ?_;refine zh ZX ?_;refine zA (zN (Qs (Qi (Qf ?_))));exact Q2 rfl rfl rfl Zu kF rfl (fun w hw=>⟨_,I4,[],rfl,hIc,hw.subL Qq,XN ⟨rfl,_,rfl,_,_,_,_,_,_,_,_,_,_,_,rfl,hR1,he1⟩ (by rw [Un hck,zqJ hk1])⟩)
  have hn1:x.kind≠1:=(by simpa using hc15);refine zR (zC ?_);refine zA (zN ?_);refine zI ?_ ?_<;>intro hc22
  ·
   have hk2:x.kind=2:=(by simpa using hc22);refine zR ?_;refine zV (Qg rfl Zu (fun hg=>by exact BxI.cells (vs:=[_,_,_]) h2) rfl) ?_;refine zV (Qg rfl zdy (fun hg=>by exact BxI.cells (vs:=U3 x) h3) rfl) ?_;refine zpc [_,_] rfl zxs .nil (zzD hX x hE) ?_;rintro vv5 I5 L5 hI5 ⟨rfl,vr2,rfl,hV2⟩;have hIc:=hIc.trans hI5;obtain ⟨pa2,pn2,pc2,qa2,qn2,qc2,aa2,an2,ac2,ps2,qs2,rfl,hR2,he2⟩:=hV2;refine zE ?_;refine zE ?_;refine zh ZX ?_;refine zA (zN (Qs (Qi (Qf ?_))));exact Q2 rfl rfl rfl Zu kF rfl (fun w hw=>⟨_,I5,[],rfl,hIc,hw.subL Qq,XN ⟨rfl,_,rfl,_,_,_,_,_,_,_,_,_,_,_,rfl,hR2,he2⟩ (by rw [Un hck,zxC hk2])⟩)
  have hn2:x.kind≠2:=(by simpa using hc22);refine zR (zC ?_);refine zA (zN ?_);refine zI ?_ ?_<;>intro hc29
  ·
   have hk3:x.kind=3:=(by simpa using hc29);refine zR ?_;refine zV (Qg rfl Zu (fun hg=>by exact BxI.cells (vs:=[_,_,_]) h2) rfl) ?_;refine zV (Qg rfl zdy (fun hg=>by exact BxI.cells (vs:=U3 x) h3) rfl) ?_;refine zpc [_,_] rfl zw9 .nil (zmQ hX x hE) ?_;rintro vv6 I6 L6 hI6 ⟨rfl,vr3,rfl,hV3⟩;have hIc:=hIc.trans hI6;obtain ⟨pa3,pn3,pc3,qa3,qn3,qc3,aa3,an3,ac3,ps3,qs3,rfl,hR3,he3⟩:=hV3;refine zE ?_;refine zE ?_;refine zh ZX ?_;refine zA (zN (Qs (Qi (Qf ?_))));exact Q2 rfl rfl rfl Zu kF rfl (fun w hw=>⟨_,I6,[],rfl,hIc,hw.subL Qq,XN ⟨rfl,_,rfl,_,_,_,_,_,_,_,_,_,_,_,rfl,hR3,he3⟩ (by rw [Un hck,zry hk3])⟩)
  have hn3:x.kind≠3:=(by simpa using hc29);refine zR (zC ?_);refine zA (zN ?_);refine zI ?_ ?_<;>intro hc36
  ·
   have hk4:x.kind=4:=(by simpa using hc36);refine Qh ?_;refine zF ZH ?_;refine zV (Qg rfl Zl (fun hg=>by exact Cells.part (pre:=[.slice pa pn pc]) (vs:=[.slice qa qn qc,.slice aa an ac]) (post:=[]) (BxI.cells (vs:=[_,_,_]) h2) rfl) rfl) ?_;refine zF WK ?_;refine zV (Qc rfl Ql (fun hg=>by exact Qy.imm h3.out rfl)) ?_;refine zpc [_,_] rfl zxX .nil (zzc hX.r.q kB hX.r.k hX.an x.at_) ?_;rintro vv7 I7 L7 hI7 ⟨a4,m4,c4,a5,m5,c5,rfl,rfl,hZ⟩;have hX:=hX.mono hI7;have hKb0:=hKb0.trans hI7;have hDn:=zvp hX hk4 hZ;refine zM ?_;refine zE ?_;refine zE ?_;refine zF ZH ?_;refine Z0 rfl rfl ZO rfl rfl rfl rfl (by repeat (first | exact Upd.here | apply Upd.there | apply ZD)) ?_;refine zA (Qb (Qk ?_));exact zm (h:=⟨_,_,_,_,_,_,_,rfl,hKb0,rfl,hDn⟩)
  have hn4:x.kind≠4:=(by simpa using hc36);refine zR (zC ?_);refine zA (zN ?_);refine zI ?_ ?_<;>intro hc47
  ·
   have hk5:x.kind=5:=(by simpa using hc47);refine Qh ?_;refine zF ZH ?_;refine zV (Qg rfl Zl (fun hg=>by exact Cells.part (pre:=[.slice pa pn pc]) (vs:=[.slice qa qn qc,.slice aa an ac]) (post:=[]) (BxI.cells (vs:=[_,_,_]) h2) rfl) rfl) ?_;refine zF WK ?_;refine zV (Qc rfl Ql (fun hg=>by exact Qy.imm h3.out rfl)) ?_;refine zpc [_,_] rfl zzp .nil (zqy hX.r.q kB hX.r.k hX.an x.at_) ?_;rintro vv8 I8 L8 hI8 ⟨a4,m4,c4,a5,m5,c5,rfl,rfl,hZ⟩;have hX:=hX.mono hI8;have hKb0:=hKb0.trans hI8;have hDn:=zwf hX hk5 hZ;refine zM ?_;refine zE ?_;refine zE ?_;refine zF ZH ?_;refine Z0 rfl rfl ZO rfl rfl rfl rfl (by repeat (first | exact Upd.here | apply Upd.there | apply ZD)) ?_;refine zA (Qb (Qk ?_));exact zm (h:=⟨_,_,_,_,_,_,_,rfl,hKb0,rfl,hDn⟩)
  have hn5:x.kind≠5:=(by simpa using hc47);have hDn:=zvQ hX hn1 hn2 hn3 hn4 hn5;refine Qr (Qk ?_);exact zm (h:=⟨_,_,_,_,_,_,_,rfl,hKb0,rfl,hDn⟩)
 rintro E J9 loc' ⟨e7,a7,m7,c7,b7,l7,d7,rfl,hJ7,rfl,hDn⟩;have hIc:=hIc.trans hJ7;refine Qm (zR (zM ?_));refine zC (zN ?_);refine zI ?_ ?_<;>intro hc59
 ·
  have hne7:e7≠0:=(by simpa using hc59);refine zR ?_;refine zV (QD (ps:=[]) [_,_,_] KT rfl rfl) ?_;refine zM ?_;refine zh ZX ?_;refine zA (zN (Qs (Qf ?_)));exact Q2 rfl rfl rfl Zu kF rfl (fun w hw=>⟨_,J9,[],rfl,hIc,hw.subL Qq,Xq (by rw [Un hck];exact zyb hDn hne7)⟩)
 have he7:e7=0:=(by simpa using hc59);obtain ⟨qs9,hR9,ha9⟩:=zAe hDn he7;refine Qr (Qd (zR ?_));refine zV (Qg rfl Zu (fun hg=>by exact Cells.g0) rfl) ?_;refine zh ZX ?_;refine zA (zN (Qs ?_));exact Q2 rfl rfl rfl Zu kF rfl (fun w hw=>⟨_,J9,[],rfl,hIc,hw.subL Qq,zfu (by rw [Un hck];exact ha9) hR9 rfl rfl⟩)
theorem zwC (hR:RmP I pa pn pc qa qn qc aa an ac ps qs ks)(hb:24<pn)(hqn:qn≤100000)(han:an≤100000)(x:Ev):YE Tryz.prog 13 [.agg #[.slice pa pn pc,.slice qa qn qc,.slice aa an ac],.agg (U3 x).toArray] I [] (DoQ (doF (YD ps qs ks) (Yz x))):=by
 intro g H w hw;refine qe Tryz.func13 Tryz.ntmps13 hw ?_;have hIc:=zB6 I;have h24:=zbc (ps:=ps) (qs:=qs) (ks:=ks) hb;have hck:WQ (YD ps qs ks)=570:=(by rw [KI hR,h24]);refine zR ?_;refine QK rfl rfl rfl (fun b_2=>?_);refine QK rfl rfl rfl (fun b_3=>?_);refine Qp JY rfl rfl (fun b_4=>?_);refine zA (Qb ?_);refine QF (.there .here) (fun I1 hI1 hb1=>?_);have hR:=hR.mono hI1;have hIc:=hIc.trans hI1;have h3:=BxI.of hb1;refine QF (.there .here) (fun I2 hI2 hb2=>?_);have hR:=hR.mono hI2;have hIc:=hIc.trans hI2;have h2:=BxI.of hb2;refine Qd (Qm (zR ?_));refine zV (Qg rfl Zu (fun hg=>by exact BxI.cells (vs:=[_,_,_]) h2) rfl) ?_;refine zpc [_] rfl zn5 .nil (zeU hR hb hqn han) ?_;rintro vv3 I3 L3 hI3 ⟨rfl,rfl⟩;have hIc:=hIc.trans hI3;refine zC (zN ?_);refine zI ?_ ?_<;>intro hc10
 ·
  refine zR ?_;refine zV (QD (ps:=[]) [_,_,_] KT rfl rfl) ?_;refine zh ZX ?_;refine zA (zN (Qs (Qf ?_)));exact Q2 rfl rfl rfl Zu kF rfl (fun w hw=>⟨_,I3,[],rfl,hIc,hw.subL Qq,Xq (by rw [zgk (by rw [hck];decide),hck])⟩)
 rw [hck] at hc10;exact absurd hc10 kC
theorem zw2 (hR:RmP I pa pn pc qa qn qc aa an ac ps qs ks)(hb:24<pn)(hqn:qn≤100000)(han:an≤100000)(x:Ev):YE Tryz.prog 12 [.agg #[.slice pa pn pc,.slice qa qn qc,.slice aa an ac],.agg (U3 x).toArray] I [] (DoQ (doF (YD ps qs ks) (Yz x))):=by
 intro g H w hw;refine zlP Tryz.func12 rfl Tryz.ntmps12 rfl hw ?_;have hIc:=zB6 I;have h24:=zbc (ps:=ps) (qs:=qs) (ks:=ks) hb;have hck:WQ (YD ps qs ks)=570:=(by rw [KI hR,h24]);refine zR ?_;refine QK rfl rfl rfl (fun b_2=>?_);refine QK rfl rfl rfl (fun b_3=>?_);refine Qp JY rfl rfl (fun b_4=>?_);refine Qp zvS rfl rfl (fun b_5=>?_);refine Qb ?_;refine QF (.there (.there .here)) (fun I1 hI1 hb1=>?_);have hR:=hR.mono hI1;have hIc:=hIc.trans hI1;have h3:=BxI.of hb1;refine QF (.there (.there .here)) (fun I2 hI2 hb2=>?_);have hR:=hR.mono hI2;have hIc:=hIc.trans hI2;have h2:=BxI.of hb2;refine Qd (Qm (zR ?_));refine zV (Qg rfl Zu (fun hg=>by exact BxI.cells (vs:=[_,_,_]) h2) rfl) ?_;refine zpc [_] rfl zeZ .nil (zfI hR hb hqn han) ?_;rintro vv3 I3 L3 hI3 ⟨rfl,rfl⟩;have hIc:=hIc.trans hI3;refine zA ?_;refine zN (zR ?_);refine zM ?_;refine zC (zN ?_);refine zI ?_ ?_<;>intro hc13
 ·
  refine zR ?_;refine zV (Qg rfl Zu (fun hg=>by exact Cells.g1) rfl) ?_;refine zM ?_;refine zh ZX ?_;refine zS zaI ?_;refine zN (Qs (Qf ?_));exact zdW (fun a w ha hw=>⟨_,zfb rfl rfl rfl Zu zaL kI rfl kM a ha w hw,_,I3,[],rfl,hIc,hw.subL Qq,XN zf7 (zgk (by rw [hck];decide))⟩)
 rw [hck] at hc13;exact absurd hc13 kC
structure GdR (r:Rd):Prop where
 v:∀ xs∈r.ps,ZT xs=true
 p:r.ps.length≤5
 n:∀ xs∈r.ps,xs.length≤30
 m:∀ xs∈r.ps,∀ y∈xs,(V1 y).length≤2000
 q:r.qs.length≤40
 d:∀ p∈r.qs,p.data.length≤2000
 b:∀ p∈r.qs,∀ c∈p.data,c<256
 k:r.ks.length≤40
def OkR (r:Rd):Prop:=(∀ xs∈r.ps,ZT xs=true)∧SmR r
theorem Jm:OkR zeroR:=⟨fun xs h=>(by cases h),zok⟩
theorem GdR.ok (h:GdR r)(hl:P.length=r.ps.length)(hv:∀ xs∈P,ZT xs=true)(hn:∀ xs∈P,xs.length≤31)(hq:D.length≤100)(hd:∀ p∈D,p.data.length≤2000):OkR ⟨P,D,r.ks⟩:=by
 have h1:=h.p;have h2:=h.k;exact ⟨hv,by show P.length≤24;omega,fun xs hx=>by have:=hn xs hx;omega,by show D.length≤3000;omega,hd,by show r.ks.length≤100;omega⟩
theorem GdR.lrn (h:GdR r){i:Nat}(hP:zbz r.ps i t=some P)(hf:QN t=true):P.length=r.ps.length∧(∀ xs∈P,ZT xs=true)∧∀ xs∈P,xs.length≤31:=by
 obtain ⟨xs,ys,h1,h2,rfl⟩:=ze9 hP;have hx:=List.mem_of_getElem? h1;obtain ⟨_,_,m3⟩:=zh1 h2;refine ⟨by simp,fun zs hz=>?_,fun zs hz=>?_⟩
 ·
  rcases List.mem_or_eq_of_mem_set hz with hz | rfl
  ·
   exact h.v zs hz
  ·
   exact zdz h2 (h.v xs hx) hf
 ·
  rcases List.mem_or_eq_of_mem_set hz with hz | rfl
  ·
   have:=h.n zs hz;omega
  ·
   have:=h.n xs hx;omega
variable{x:Ev}
theorem GdR.tell (h:GdR r)(hx:QN x.note=true→(V1 x.note).length≤2000):OkR (Ua r x).2:=by
 unfold Ua;split
 ·
  split
  ·
   rename_i hf;split
   ·
    exact Jm
   ·
    rename_i P hP;obtain ⟨l1,l2,l3⟩:=h.lrn hP hf;have h5:=h.p;have h6:=h.q;refine h.ok l1 l2 l3 ?_ fun p hp=>?_
    ·
     have:=zbv r.ps.length x.peer x.note;rw [List.length_append];omega
    ·
     rcases List.mem_append.1 hp with hp | hp
     ·
      exact h.d p hp
     ·
      obtain ⟨k,hk,hne,rfl⟩:=zbf hp;exact hx hf
  ·
   exact Jm
 ·
  exact Jm
theorem GdR.sync (h:GdR r):OkR (Xk r x).2:=by
 unfold Xk;split
 ·
  have hm:r.ps.getD x.peer.toNat []=[]∨r.ps.getD x.peer.toNat []∈r.ps:=by
   rw [List.getD_eq_getElem?_getD]
   cases hx:r.ps[x.peer.toNat]? with
   | none=>exact .inl rfl
   | some xs=>exact .inr (List.mem_of_getElem? hx)
  have hl:(r.ps.getD x.peer.toNat []).length≤30:=hm.elim (fun e=>by rw [e];exact Nat.zero_le _) (h.n _);have h6:=h.q;refine h.ok rfl h.v (fun xs hx=>by have:=h.n xs hx;omega) (by rw [List.length_append,List.length_map];omega) fun p hp=>?_;rcases List.mem_append.1 hp with hp | hp
  ·
   exact h.d p hp
  ·
   obtain ⟨y,hy,rfl⟩:=List.mem_map.1 hp;rcases hm with e | hm
   ·
    rw [e] at hy;cases hy
   ·
    exact h.m _ hm y hy
 ·
  exact Jm
theorem GdR.erase  (h : GdR r) (j : Nat)  (hl : P.length = r.ps.length) (hv : ∀ xs ∈ P, ZT xs = true) (hn : ∀ xs ∈ P, xs.length ≤ 31) : OkR ⟨P, r.qs.eraseIdx j, r.ks⟩ := by
  have h6 := h.q
  exact h.ok hl hv hn (by have : (r.qs.eraseIdx j).length ≤ r.qs.length := (List.eraseIdx_sublist ..).length_le
                          omega) fun p hp => h.d p (UC p hp)
theorem GdR.dlv (h:GdR r):OkR (za1 r x).2:=by
 unfold za1;split
 ·
  exact Jm
 ·
  rename_i he;have he:atE r.qs r.ks x.at_=0:=Decidable.not_not.1 he;split
  ·
   exact h.erase _ rfl h.v fun xs hx=>by have:=h.n xs hx;omega
  ·
   rename_i hne;split
   ·
    exact Jm
   ·
    rename_i P hP;have hin:=zhw he hne
    cases ho:okN (VN r.qs r.ks x.at_).data with
    | none=>rw [ho] at hP;cases hP
    | some t=>
     rw [ho,Option.bind_some] at hP;obtain ⟨_,_,hf⟩:=zei (h.b _ hin) (by have:=h.d _ hin;omega) ho;obtain ⟨l1,l2,l3⟩:=h.lrn hP hf;exact h.erase _ l1 l2 l3
theorem GdR.lose (h:GdR r):OkR (zaZ r x).2:=by
 unfold zaZ;split
 ·
  exact Jm
 ·
  exact h.erase _ rfl h.v fun xs hx=>by have:=h.n xs hx;omega
theorem GdR.rept (h:GdR r):OkR (za8 r x).2:=by
 unfold za8;split
 ·
  exact Jm
 ·
  rename_i he;have h6:=h.q;refine h.ok rfl h.v (fun xs hx=>by have:=h.n xs hx;omega) kY fun p hp=>?_;rcases List.mem_append.1 hp with hp | hp
  ·
   exact h.d p hp
  ·
   rw [List.mem_singleton.1 hp];by_cases ha:atE r.qs r.ks x.at_=0
   ·
    exact h.d _ (zdI ha)
   ·
    have e:atP r.qs r.ks x.at_=Wf:=if_neg ha;rw [e];exact Nat.zero_le _
theorem GdR.act (h:GdR r)(hx:QN x.note=true→(V1 x.note).length≤2000):OkR (zab r x).2:=by
 unfold zab;split
 ·
  exact h.tell hx
 ·
  split
  ·
   exact h.sync
  ·
   split
   ·
    exact h.dlv
   ·
    split
    ·
     exact h.lose
    ·
     split
     ·
      exact h.rept
     ·
      exact Jm
theorem zAD (hR:RmP I pa pn pc qa qn qc aa an ac ps qs ks)(hF:zrz pn qn an ps qs)(hnw:∀ x∈ps,∀ y∈x.notes,NtW y)(hE:EvM I x):OkR (doF (YD ps qs ks) (Yz x)).2:=by
 by_cases hc:WQ (YD ps qs ks)=0
 ·
  rw [Un hc];have hM:=hc;rw [KI hR] at hM;obtain ⟨h1,_,h3,_⟩:=zg0 hM;have hpl:=hR.pe.len;have h5:pn≤5:=(by have:=hF.p;omega);obtain ⟨e1,e2,_⟩:=Wn hR rfl
  have hmem:∀ xs∈(YD ps qs ks).ps,∃ pe∈ps,xs=pe.notes.map YF:=fun xs hx=>by
   obtain ⟨pe,hp,e⟩:=List.mem_map.1 (show xs∈ps.map fun pe=>pe.notes.map YF from hx);exact ⟨pe,hp,e.symm⟩
  have hsz:∀ y:Nt,NtW y→Nd I y.pt→QN y=true→(V1 y).length≤2000:=fun y hw hN hf=>(zdJ hw (show Sl I 1 Z5 y.pt.a y.pt.n y.pt.c y.pt.needs from hN).len hf).2
  have hG:GdR (YD ps qs ks):=by
   refine ⟨fun xs hx=>?_,by rw [←e1];exact h5,fun xs hx=>?_,fun xs hx y hy=>?_,by rw [←e2];exact hF.q,fun p hp=>?_,fun p hp=>?_,?_⟩
   ·
    obtain ⟨pe,hp,rfl⟩:=hmem xs hx;rw [ze1 (hR.nt pe hp)];exact h3 pe hp
   ·
    obtain ⟨pe,hp,rfl⟩:=hmem xs hx;rw [List.length_map,(hR.nt pe hp).sl.len];exact hF.n h5 pe hp
   ·
    obtain ⟨pe,hp,rfl⟩:=hmem xs hx;obtain ⟨z,hz,rfl⟩:=List.mem_map.1 hy;exact hsz z (hnw pe hp z hz) ((hR.nt pe hp).nd z hz) ((V2 (h3 pe hp)).2.1 z hz)
   ·
    obtain ⟨q,hq,rfl⟩:=List.mem_map.1 (show p∈qs.map Vi from hp);have:=(hR.pk q hq).sl.len;have h2:=hF.d q hq;show q.data.length≤2000;omega
   ·
    obtain ⟨q,hq,rfl⟩:=List.mem_map.1 (show p∈qs.map Vi from hp);exact (hR.pk q hq).byte
   ·
    show ks.length≤40;rw [hR.k.len];exact hF.k
  refine hG.act fun hf=>?_;have hf:QN (YF x.note)=true:=hf;rw [hE.form] at hf;exact hsz x.note hE.w hE.nd hf
 ·
  rw [zgk hc];exact Jm
theorem zwx:Fun Tryz.prog 11:=.of Tryz.func11 kA kA
theorem zye:Fun Tryz.prog 13:=.of Tryz.func13 kA kA
theorem zyp:Fun Tryz.prog 15:=.of Tryz.func15 kA kA
theorem zAw (hR:RmP I pa pn pc qa qn qc aa an ac ps qs ks)(hF:zrz pn qn an ps qs)(x:Ev)(hE:EvM I x):YE Tryz.prog 12 [.agg #[.slice pa pn pc,.slice qa qn qc,.slice aa an ac],.agg (U3 x).toArray] I [] (DoQ (doF (YD ps qs ks) (Yz x))):=by
 rcases hF.p with h5 | hb
 ·
  exact zA8 hR kB (by have:=hF.q;omega) (by have:=hF.k;omega) (fun z hz=>by have:=hF.n h5 z hz;omega) (fun z hz=>by have:=hF.d z hz;omega) (fun _=>⟨by have:=hF.q;omega,fun pe hp=>by have:=hF.q;have:=hF.n h5 pe hp;omega⟩) x hE
 exact zw2 hR hb (by have:=hF.q;omega) (by have:=hF.k;omega) x
theorem zAA (hR:RmP I pa pn pc qa qn qc aa an ac ps qs ks)(hF:zrz pn qn an ps qs)(hnw:∀ x∈ps,∀ y∈x.notes,NtW y)(x:Ev)(hE:EvM I x):YE Tryz.prog 13 [.agg #[.slice pa pn pc,.slice qa qn qc,.slice aa an ac],.agg (U3 x).toArray] I [] (DoQ (doF (YD ps qs ks) (Yz x))):=by
 rcases hF.p with h5 | hb
 ·
  exact zBE hR hF h5 hnw x hE
 exact zwC hR hb (by have:=hF.q;omega) (by have:=hF.k;omega) x
theorem zq4 (hR:RmP I pa pn pc qa qn qc aa an ac ps qs ks)(hF:zrz pn qn an ps qs):YE Tryz.prog 16 [.agg #[.slice pa pn pc,.slice qa qn qc,.slice aa an ac]] I [] (fun v _I' L'=>L'=[]∧v= .int .i64 (WQ (YD ps qs ks))):=by
 rcases hF.p with h5 | hb
 ·
  exact zhL hR kB (by have:=hF.q;omega) (by have:=hF.k;omega) (fun z hz=>by have:=hF.n h5 z hz;omega) (fun z hz=>by have:=hF.d z hz;omega)
 exact zfI hR hb (by have:=hF.q;omega) (by have:=hF.k;omega)
theorem zqg (hR:RmP I pa pn pc qa qn qc aa an ac ps qs ks)(hF:zrz pn qn an ps qs)(hnw:∀ x∈ps,∀ y∈x.notes,NtW y):YE Tryz.prog 17 [.agg #[.slice pa pn pc,.slice qa qn qc,.slice aa an ac]] I [] (fun v _I' L'=>L'=[]∧v= .int .i64 (WQ (YD ps qs ks))):=by
 rcases hF.p with h5 | hb
 ·
  exact znT hR kB (by have:=hF.q;omega) (by have:=hF.k;omega) (fun z hz=>by have:=hF.n h5 z hz;omega) (fun z hz=>by have:=hF.d z hz;omega) hnw
 exact zeU hR hb (by have:=hF.q;omega) (by have:=hF.k;omega)
theorem zws (I:Qu)(n:Int):YE Tryz.prog 15 [.int .i64 n] I [] (zA7 n):=by
 have h:=zAY I n;by_cases hb:(decide (n<1)||decide (n>24))=true
 ·
  intro g H w hw;refine (h g H w hw).mono ?_;rintro e w' ⟨v,I',L',h1,h2,h3,rfl,⟨_,rfl,rfl⟩ | ⟨h4,_⟩⟩
  ·
   exact ⟨_,_,_,h1,h2,h3,rfl,_,by rw [if_pos hb],by rw [if_pos hb];exact zdH⟩
  rw [hb] at h4;cases h4
 have hb2:(decide (n<1)||decide (n>24))=false:=(by simpa using hb);refine Ui.m (Bad:=fun _=>False) (Ui.frz (h.p (Bad:=fun _=>False)) fun v I' L' hI hq=>?_) (fun v hv=>hv);obtain ⟨rfl,⟨h4,_⟩ | ⟨_,b,rfl,rfl⟩⟩:=hq
 ·
  rw [hb2] at h4;cases h4
 refine ⟨[],b,_,.here,fun I2 h2 hb3=>⟨rfl,_,by rw [if_neg hb],?_⟩⟩;rw [if_neg hb];have hn:1≤n∧n≤24:=(by simpa using hb2);exact zkL (Nat.le_trans (show n.toNat≤24 by omega) kC) hb3
theorem zsa (n:Int):OkR (if (decide (n<1)||decide (n>24))=true then zeroR else zfk n.toNat):=by
 split
 ·
  exact Jm
 rename_i h
 have hn:n.toNat≤24:=by
  have h:(decide (n<1)||decide (n>24))=false:=(by simpa using h);simp at h;omega
 exact ⟨fun xs hx=>(by rw [List.eq_of_mem_replicate hx];rfl),zaB hn⟩
set_option maxRecDepth 100000 in
set_option maxHeartbeats 4000000 in
theorem zu4       (hR:RmP I pa pn pc qa qn qc aa an ac ps qs ks) (hnw:∀ x∈ps,∀ y∈x.notes,NtW y) (n:Int) (x:Ev) (hE:EvM I x):ZJ Tryz.prog 3 [.int .i64 n,.agg #[.slice pa pn pc,.slice qa qn qc,.slice aa an ac],.agg (U3 x).toArray] I (.bool true):=by
 intro g H w hw;refine qe Tryz.func3 Tryz.ntmps3 hw ?_;have hIc:=zB6 I;have hpl:=hR.pe.len;refine zR ?_;refine QK rfl rfl rfl (fun b_4=>?_);refine QK rfl rfl rfl (fun b_5=>?_);refine zA (Qb ?_);refine QF .here (fun I1 hI1 hb1=>?_);have hR:=hR.mono hI1;have hE:=hE.mono hI1;have hIc:=hIc.trans hI1;have h5:=BxI.of hb1;refine QF .here (fun I2 hI2 hb2=>?_);have hR:=hR.mono hI2;have hE:=hE.mono hI2;have h5:=h5.mono hI2;have hIc:=hIc.trans hI2;have h4:=BxI.of hb2;refine Qd (Qm (zR ?_));refine qcV (vs:=[]) rfl zxd (zxt I2) ?_;refine zO (zN ?_);refine zI ?_ ?_<;>intro hc16
 ·
  cases hc16
 refine Qr (Qd (Qm (zR ?_)));refine zV (Qg rfl Zu (fun hg=>by exact BxI.cells (vs:=[_,_,_]) h4) rfl) ?_;refine qcV (vs:=[_]) rfl zwx (zAK hR) ?_;refine zO (zN ?_);refine zI ?_ ?_<;>intro hc19
 ·
  refine zR (zA (zN (Qs (Qf ?_))));exact Qx rfl rfl (fun w hw=>⟨by rfl,(hw.mono hIc).subL Qq⟩)
 have hF:=zAQ hpl (by simpa using hc19);have hok:=zAD hR hF hnw hE;refine Qr (Qd (zR ?_));refine zV (Qg rfl Zu (fun hg=>by exact BxI.cells (vs:=[_,_,_]) h4) rfl) ?_;refine zV (Qg rfl zdy (fun hg=>by exact BxI.cells (vs:=U3 x) h5) rfl) ?_;refine zpc [_,_] rfl zcu .nil (zAw hR hF x hE) ?_;rintro vv3 I3 L3 hI3 ⟨rfl,vr1,rfl,hV1⟩;have hR:=hR.mono hI3;have hE:=hE.mono hI3;have h5:=h5.mono hI3;have h4:=h4.mono hI3;have hIc:=hIc.trans hI3;obtain ⟨pa1,pn1,pc1,qa1,qn1,qc1,aa1,an1,ac1,ps1,qs1,rfl,hR1,he1⟩:=hV1;refine zM ?_;refine zE ?_;refine zE ?_;refine Qp JY rfl rfl (fun b_7=>?_);refine zh ZX ?_;refine zA (Qb ?_);refine QF .here (fun I4 hI4 hb4=>?_);have hR:=hR.mono hI4;have hE:=hE.mono hI4;have h5:=h5.mono hI4;have h4:=h4.mono hI4;have hR1:=hR1.mono hI4;have hIc:=hIc.trans hI4;have h7:=BxI.of hb4;refine Qd (zR ?_);refine zV (Qg rfl Zu (fun hg=>by exact BxI.cells (vs:=[_,_,_]) h4) rfl) ?_;refine zV (Qg rfl zdy (fun hg=>by exact BxI.cells (vs:=U3 x) h5) rfl) ?_;refine zpc [_,_] rfl zye .nil (zAA hR hF hnw x hE) ?_;rintro vv5 I5 L5 hI5 ⟨rfl,vr2,rfl,hV2⟩;have hR:=hR.mono hI5;have h4:=h4.mono hI5;have hR1:=hR1.mono hI5;have h7:=h7.mono hI5;have hIc:=hIc.trans hI5;obtain ⟨pa2,pn2,pc2,qa2,qn2,qc2,aa2,an2,ac2,ps2,qs2,rfl,hR2,he2⟩:=hV2;refine zM ?_;refine zE ?_;refine zE ?_;refine Qp JY rfl rfl (fun b_9=>?_);refine zh ZX ?_;refine zA (Qb ?_);refine QF .here (fun I6 hI6 hb6=>?_);have hR:=hR.mono hI6;have h4:=h4.mono hI6;have hR1:=hR1.mono hI6;have h7:=h7.mono hI6;have hR2:=hR2.mono hI6;have hIc:=hIc.trans hI6;have h9:=BxI.of hb6;refine Qd (zR (zM ?_));refine zpc [_] rfl zlM .nil (zlA _ n) ?_;rintro vv7 I7 L7 hI7 ⟨rfl,vr3,rfl,hV3⟩;have hR:=hR.mono hI7;have h4:=h4.mono hI7;have hR1:=hR1.mono hI7;have h7:=h7.mono hI7;have hR2:=hR2.mono hI7;have h9:=h9.mono hI7;have hIc:=hIc.trans hI7;obtain ⟨pa3,pn3,pc3,qa3,qn3,qc3,aa3,an3,ac3,ps3,qs3,rfl,hR3,he3⟩:=hV3;refine zM ?_;refine zE ?_;refine zE ?_;refine Qp JY rfl rfl (fun b_11=>?_);refine zh ZX ?_;refine zA (Qb ?_);refine QF .here (fun I8 hI8 hb8=>?_);have hR:=hR.mono hI8;have h4:=h4.mono hI8;have hR1:=hR1.mono hI8;have h7:=h7.mono hI8;have hR2:=hR2.mono hI8;have h9:=h9.mono hI8;have hR3:=hR3.mono hI8;have hIc:=hIc.trans hI8;have h11:=BxI.of hb8;refine Qd (zR (zM ?_));refine zpc [_] rfl zyp .nil (zws _ n) ?_;rintro vv9 I9 L9 hI9 ⟨rfl,vr4,rfl,hV4⟩;have hR:=hR.mono hI9;have h4:=h4.mono hI9;have hR1:=hR1.mono hI9;have h7:=h7.mono hI9;have hR2:=hR2.mono hI9;have h9:=h9.mono hI9;have hR3:=hR3.mono hI9;have h11:=h11.mono hI9;have hIc:=hIc.trans hI9;obtain ⟨pa4,pn4,pc4,qa4,qn4,qc4,aa4,an4,ac4,ps4,qs4,rfl,hR4,he4⟩:=hV4;refine zM ?_;refine zE ?_;refine zE ?_;refine Qp JY rfl rfl (fun b_13=>?_);refine zh ZX ?_;refine zA (Qb ?_);refine QF .here (fun I10 hI10 hb10=>?_);have hR:=hR.mono hI10;have h4:=h4.mono hI10;have hR1:=hR1.mono hI10;have h7:=h7.mono hI10;have hR2:=hR2.mono hI10;have h9:=h9.mono hI10;have hR3:=hR3.mono hI10;have h11:=h11.mono hI10;have hR4:=hR4.mono hI10;have hIc:=hIc.trans hI10;have h13:=BxI.of hb10;refine Qd (Qm ?_);have g7:=h7;have g9:=h9;have g11:=h11;have g13:=h13;have hD:=zB6 I10;refine Zn ?_;refine QJ I10 [] mixed ?_;refine zT 0 rfl (Qg rfl Zu (fun hg=>by exact BxI.cells (vs:=[_,_,_]) h4) rfl) hD ?_;refine zT 2 rfl (Qg rfl Zu (fun hg=>by exact BxI.cells (vs:=[_,_,_]) h4) rfl) hD ?_;refine qd 1 rfl ?_;refine zpc [_] rfl zeZ .nil (zq4 hR hF) ?_;rintro vv11 I11 L11 hI11 ⟨rfl,rfl⟩;have hR:=hR.mono hI11;have hR1:=hR1.mono hI11;have hR2:=hR2.mono hI11;have hR3:=hR3.mono hI11;have hR4:=hR4.mono hI11;have hIc:=hIc.trans hI11;have hD:=hD.trans hI11;refine Qb ?_;refine zD hD ?_;refine qd 3 rfl ?_;refine zpc [_] rfl zn5 .nil (zqg hR hF hnw) ?_;rintro vv12 I12 L12 hI12 ⟨rfl,rfl⟩;have hR1:=hR1.mono hI12;have hR2:=hR2.mono hI12;have hR3:=hR3.mono hI12;have hR4:=hR4.mono hI12;have hIc:=hIc.trans hI12;have hD:=hD.trans hI12;refine Qb ?_;refine zD hD ?_;refine zT 4 rfl (QA rfl rfl rfl) hD ?_;rw [show (WQ (YD ps qs ks)==WQ (YD ps qs ks))=true by simp];refine zT 5 rfl (Qe rfl) hD ?_;refine zw 6 47 rfl (Qe rfl) hD ?_;refine zw 7 47 rfl (Qe rfl) hD ?_;refine zw 8 47 rfl (QA rfl rfl rfl) hD ?_;rw [show ((doF (YD ps qs ks) (Yz x)).1==(doF (YD ps qs ks) (Yz x)).1)=true by simp];refine zT 9 rfl (QY rfl rfl rfl) hD ?_;refine zT 10 rfl (Qe rfl) hD ?_;refine zw 11 52 rfl (Qg rfl Zu (fun hg=>by exact BxI.cells (vs:=[_,_,_]) g7) rfl) hD ?_;refine zw 12 52 rfl (Qg rfl Zu (fun hg=>by exact BxI.cells (vs:=[_,_,_]) g9) rfl) hD ?_;refine qd 13 rfl ?_;refine QQ (dj:=52) rfl rfl rfl ?_;refine qcV (vs:=[_,_]) rfl zsK (zyG hR1 he1 hR2 he2 hok.1 hok.2) ?_;refine Qb ?_;refine zD hD ?_;refine zT 14 rfl (QY rfl rfl rfl) hD ?_;refine zT 15 rfl (Qe rfl) hD ?_;refine zw 16 57 rfl (Qe rfl) hD ?_;refine zw 17 57 rfl (Qe rfl) hD ?_;refine zw 18 57 rfl (QA rfl rfl rfl) hD ?_;rw [show ((if (decide (n<1)||decide (n>24))=true then (1:Int) else 0)==(if (decide (n<1)||decide (n>24))=true then (1:Int) else 0))=true by simp];refine zT 19 rfl (QY rfl rfl rfl) hD ?_;refine zT 20 rfl (Qe rfl) hD ?_;refine zw 21 62 rfl (Qg rfl Zu (fun hg=>by exact BxI.cells (vs:=[_,_,_]) g11) rfl) hD ?_;refine zw 22 62 rfl (Qg rfl Zu (fun hg=>by exact BxI.cells (vs:=[_,_,_]) g13) rfl) hD ?_;refine qd 23 rfl ?_;refine QQ (dj:=62) rfl rfl rfl ?_;refine qcV (vs:=[_,_]) rfl zsK (zyG hR3 he3 hR4 he4 (zsa n).1 (zsa n).2) ?_;refine Qb ?_;refine zD hD ?_;refine zT 24 rfl (QY rfl rfl rfl) hD ?_;refine zT 25 rfl (QB rfl) hD ?_;refine Qn kA ?_;refine Qv ?_;refine Qd (Qs ?_);exact Qx rfl rfl (fun w hw=>⟨by rfl,(hw.mono hIc).subL Qq⟩)
end
end Go.Proofs.YtjblkbkmblkgoaaGreat
namespace Go.Kn
section
open Go Go.ChangeShapes Go.WideShapes Go.ChangeAt Go.RowKit
def X0 (W:World):Qu:=fun b=>W.heap[b]?
theorem St.start (W:World):St W (X0 W) (fun _=>none) [] W:=
 ⟨rfl,rfl,rfl,⟨Nat.le_refl _,Nat.le_refl _⟩,fun _ _ h=>h,(fun _ _ h=>by cases h),(fun _ _ h=>by cases h),fun _=>.inr rfl,(fun _ _ h=>by cases h),by simp⟩
variable{W w:World}{loc:Loc}
theorem St.below {H:Qu}(h:St W (X0 W) H loc w):Below W.heap.size W w:=
 ⟨h.os,h.tape,h.out,h.size.1,fun k hk=>by
  have e:W.heap[k]? =some W.heap[k]:=Array.getElem?_eq_getElem hk
  rw [h.imm k _ e,e]⟩
variable{P:Program}{f:FuncId}{v:Value}
theorem ZJ.law {args:List Value}(h:ZJ P f args (X0 W) v):Calls P f args.toArray W fun e w'=>e= .returned v∧Below W.heap.size W w':=
 (h W _ W (St.start W)).mono fun _ _ ⟨he,hs⟩=>⟨he,hs.below⟩
variable{may:MemPlace→Prop}
theorem zdS (h:Below W.heap.size W w):W.keptBut w may:=by
 refine ⟨h.os,h.output,fun i hi=>?_⟩;rw [h.block i hi];rw [Array.getElem?_eq_getElem hi];cases W.heap[i]<;>simp
variable{H:Type}{W':World}{enc:TypeId×Value→H}
theorem XT (hl:laidOutB P=true)(hB:Below W.heap.size W W')(sp:Nat→Bool):∀ (ts:List TypeId) (vs:List Value) (ds:List (DataW H)) (ps:List MemPlace),(∀ t∈ts,P.readableRec t=true∧t<P.types.size)→
  DataW.TrodAll enc P W 0 (fun _=>true) true ts vs ds ps→(∀ x∈ps,x.block<W.heap.size∧sp x.block=true)→DataW.TrodAll enc P W' 0 sp true ts vs ds ps
 | [],[],[],ps,_,h,_=>h
 | t::ts,v::vs,d::ds,ps,hr,⟨p,q,h1,h2,e⟩,hlt=>by
  subst e
  exact ⟨p,q,WideElems.Trod_stays hl (hr t (List.mem_cons_self ..)).1 (hr t (List.mem_cons_self ..)).2 h1 (fun x hx=>hB.same (hlt x (List.mem_append_left _ hx)).1) (fun x hx=>(hlt x (List.mem_append_left _ hx)).2),
   XT hl hB sp ts vs ds q (fun t ht=>hr t (List.mem_cons_of_mem _ ht)) h2 (fun x hx=>hlt x (List.mem_append_right _ hx)),rfl⟩
variable{s:ChangeSpec}{again:Bool}{args:Array Value}{ds:List (DataW H)}{before:List MemPlace}{tb:TypeId}
theorem zrt {f:Func}
  (hl:laidOutB P=true)(hr:f.resultTypes= #[tb])(hb:P.underlying tb=some .bool)(hv:s.vars=[])(hs:(s.fn H (ds++[]))= {results:=[.lit (.bool true)],args:=ds})(hrd:∀ t∈f.params.toList,P.readableRec t=true∧t<P.types.size)
  (hW:DataW.Whole enc P f.params.toList s.vars false W args.toList ds [] before)(hB:Below W.heap.size W W'):s.post enc P f false true false again W args (.bool true) W':=by
 have hlt:∀ x∈before,x.block<W.heap.size:=fun x hx=>(by simpa using hW.lt x hx);have hW0:=hW;obtain ⟨p,q,hA,hV,rfl,hfz,_⟩:=hW;rw [hv] at hV;obtain ⟨_,rfl⟩:=trodVars_none hV;rw [List.append_nil] at hlt hfz hW0
 have hres:∀ (b:Nat) (sp:Nat→Bool) (hd:Bool),DataW.TrodAll enc P W' b sp hd f.resultTypes.toList ((Value.bool true).resultList f.resultTypes.size) [.lit (.bool true)] []:=fun b sp hd=>by
  rw [hr];exact trodAll_mk1 (shut_bool hb true)
 have hargs:∀ sp:Nat→Bool,(∀ x∈p,sp x.block=true)→DataW.TrodAll enc P W' 0 sp true f.params.toList args.toList ds p:=fun sp h=>XT hl hB sp _ _ _ _ hrd hA (fun x hx=>⟨hlt x hx,h x hx⟩);have hnil:∀ sp:Nat→Bool,DataW.TrodVars enc P W' sp s.vars [] []:=fun sp=>(by rw [hv];rfl);refine ⟨ds,[],p,[],p,[],hW0,?_,?_,?_,zdS hB,fun _=>?_⟩
 ·
  rw [hs];exact hres _ _ _
 ·
  rw [hs];exact hargs _ (fun x hx=>by simpa using hlt x hx)
 ·
  rw [hs];exact hnil _
 ·
  refine ⟨fun j t r ht hr'=>?_,[.lit (.bool true)]++ds,[],[]++p,⟨[]++p,[],trodAll_append (hargs _ (fun _ _=>rfl)) (hres _ _ _),hnil _,by simp,?_,fun h=>by cases h⟩,fun x hx _=>by simpa using hx⟩
  ·
   rw [hr] at ht hr'
   cases j with
   | zero=>simp [Value.resultList] at ht hr';subst ht;subst hr';exact okWide_bool_mk hb _
   | succ j=>simp at ht
  ·
   intro b off hx;rw [hB.frozen (hlt _ (by simpa using hx))];exact hfz b off (by simpa using hx)
variable{u:Value}
theorem znY {b o:Nat}(h:W.cell? ⟨b,o,none⟩=some u):Qy (X0 W) [] b o u:=by
 unfold World.cell? at h;split at h
 ·
  rename_i c t fz hb;simp only [Option.isSome_none,Bool.false_eq_true,if_false] at h;exact ⟨c,t,fz,.inl hb,h⟩
 ·
  cases h
variable{e:TypeId}{cs:List Value}{x0:DataW H×List MemPlace}{α:Type}
theorem UM {t:TypeId}{size fuel0:Nat}(enc':α→List Value)(ok:α→Prop)
  (ht:P.underlying t=some (.slice e))(hc:P.cellsOf e=size)(hpos:0<size)(hlen:∀ y,(enc' y).length=size)
  (hel:∀ fuel cs x,DataW.trod enc P W 0 (fun _=>true) true fuel e cs=some x→∃ y,ok y∧enc' y=cs)
  (hf':DataW.trod enc P W 0 (fun _=>true) true fuel0 t cs=some x0):∃ av n c xs,cs=[.slice av n c]∧Sl (X0 W) size enc' av n c xs∧(∀ x∈xs,ok x)∧c≤maxLen:=by
 rcases Go.Deep.open_slice ht hf' with ⟨e1,_⟩ | ⟨a,len0,cap0,m,n,D,Pl,e1,hb,hl,hm,hmm,_,hx⟩
 ·
  subst e1;exact ⟨none,0,0,[],rfl,.nil,(fun x hx=>by cases hx),Nat.zero_le _⟩
 ·
  subst e1;have hlm:len0≤m:=by rw [hmm];simp;exact hl
  have each:∀ i,i<len0→∃ y,ok y∧W.cells? 0 (a.add (i*size)) size=some (enc' y):=fun i hi=>by
   obtain ⟨cs',h1,h2⟩:=hx i kB;obtain ⟨y,hy,e⟩:=hel _ _ _ h2;rw [hc] at h1;exact ⟨y,hy,by rw [h1,e]⟩
  have all:∀ k,k≤len0→∃ xs:List α,xs.length=k∧∀ i x,xs[i]? =some x→ok x∧W.cells? 0 (a.add (i*size)) size=some (enc' x):=by
   intro k
   induction k with
   | zero=>intro _;exact ⟨[],rfl,fun i x h=>by simp at h⟩
   | succ k ih=>
    intro hk;obtain ⟨xs,hl',hxs⟩:=ih kB;obtain ⟨y,hy,hcy⟩:=each k kB;refine ⟨xs++[y],by simp [hl'],fun i x h=>?_⟩;by_cases hi:i<xs.length
    ·
     rw [List.getElem?_append_left hi] at h;exact hxs i x h
    ·
     rw [List.getElem?_append_right kB] at h;have:i=k:=by have:=(List.getElem?_eq_some_iff.1 h).1;simp at this;omega
     subst this;rw [hl'] at h;simp at h;subst h;exact ⟨hy,hcy⟩
  obtain ⟨xs,hl',hxs⟩:=all len0 (Nat.le_refl _)
  have add0:∀ (b o n:Nat),(⟨b,o,none⟩:Addr).add n=⟨b,o+n,none⟩:=fun b o n=>by
   unfold Addr.add;split
   ·
    rename_i e;subst e;rfl
   ·
    rfl
  have hspot:0<xs.length→a.spot=none:=fun hx=>by
   have hx0:xs[0]? =some xs[0]:=List.getElem?_eq_getElem hx;have hp0:0<(enc' xs[0]).length:=(by rw [hlen];exact hpos);obtain ⟨_,h1,h2⟩:=World.cells?_some (hxs 0 _ hx0).2;have h3:=h2 0 hpos;rw [List.getElem?_eq_getElem hp0] at h3;simpa [Addr.add] using World.cell?_spot h3
  have cellat:∀ i x,xs[i]? =some x→∀ j u,(enc' x)[j]? =some u→W.cell? ⟨a.block,a.off+i*size+j,none⟩=some u:=fun i x hx j u hu=>by
   obtain ⟨_,h1,h2⟩:=World.cells?_some (hxs i x hx).2;have hj:j<size:=(by rw [←hlen x];exact (List.getElem?_eq_some_iff.1 hu).1);have h3:=h2 j hj;rw [hu] at h3;have hsp:=hspot (by have:=(List.getElem?_eq_some_iff.1 hx).1;omega);obtain ⟨b,o,sp⟩:=a;simp only at hsp;subst hsp;rw [add0,add0] at h3;exact h3
  refine ⟨some a,len0,cap0,xs,rfl,⟨hl',hl,fun hn=>?_,fun k x hx j u hu=>?_⟩,fun x hx=>?_,hm⟩
  ·
   have:=hspot kB;obtain ⟨b,o,sp⟩:=a;simp only at this;subst this;rfl
  ·
   exact znY (cellat k x hx j u hu)
  ·
   obtain ⟨i,hi⟩:=List.getElem?_of_mem hx;exact (hxs i x hi).1
variable{k:IntKind}
theorem zrP (he:P.underlying e=some (.int k))(hk:k= .i64)(fuel:Nat)(cs:List Value)(x:DataW H×List MemPlace)(h:DataW.trod enc P W 0 (fun _=>true) true fuel e cs=some x):
  ∃ y:Int,(-9223372036854775808≤y∧y≤9223372036854775807)∧[Value.int .i64 y]=cs:=by
 subst hk
 obtain ⟨v,hv⟩:∃ v,cs=[v]:=by
  have:=h
  cases fuel with
  | zero=>simp [DataW.trod] at this
  | succ m=>unfold DataW.trod at this;rw [he] at this;split at this<;>simp_all
 subst hv;obtain ⟨n,e,_,w⟩:=DataW.trod_int he h;cases e;simp only [Lit.wf,Bool.and_eq_true,decide_eq_true_eq] at w;exact ⟨n,w,rfl⟩
variable{n:Int}
theorem Ze (h:(Lit.int .i64 n).wf=true): -9223372036854775808≤n∧n≤9223372036854775807:=by
 simp only [Lit.wf,Bool.and_eq_true,decide_eq_true_eq] at h;exact h
end
section
open Go
theorem Yf {H:Type}{enc:TypeId×Value→H}{P:Program}{W:World}{base:Nat}{spare:Nat→Bool}{held:Bool}{t C:Nat}{fs:Array Field}{fuel:Nat}{cs:List Value}{x:DataW H×List MemPlace}(hs:P.underlying t=some (.struct fs))
  (hC:P.cellsOf t=C)(h:DataW.trod enc P W base spare held fuel t cs=some x):
  cs.length=C∧∃ n,∀ (i ty off k:Nat),((fs[i]?).map fun f=>(f.type,f.offset))=some (ty,off)→P.cellsOf ty=k→∃ y,DataW.trod enc P W base spare held n ty ((cs.drop off).take k)=some y:=by
 obtain ⟨xs,n,_,_,hl,hxl,hf⟩:=DataW.trod_struct hs h;refine ⟨hl.trans hC,n,fun i ty off k hi hk=>?_⟩;obtain ⟨f,hfi,e⟩:=Option.map_eq_some_iff.1 hi;cases e;have g:=hf i f hfi;have hix:i<xs.length:=(by rw [hxl];exact (Array.getElem?_eq_some_iff.1 hfi).1);rw [hk,List.getElem?_eq_getElem hix] at g;exact ⟨_,g⟩
end
end Go.Kn
namespace Go.Proofs.YtjblkbkmblkgoaaGreat
section
open Go Go.Kn Go.Proofs
open Go.ChangeShapes Go.WideShapes Go.ChangeAt Go.RowKit
set_option maxRecDepth 100000
theorem zjs:Tryz.prog.underlying 3=some (.int .i64):=kA
theorem zln:Tryz.prog.underlying 45=some (.struct (Tryz.prog.fieldsOf 45)):=kA
theorem zmy:Tryz.prog.underlying 32=some (.struct (Tryz.prog.fieldsOf 32)):=kA
theorem zkO:Tryz.prog.underlying 30=some (.struct (Tryz.prog.fieldsOf 30)):=kA
theorem znJ:Tryz.prog.underlying 39=some (.struct (Tryz.prog.fieldsOf 39)):=kA
theorem zlc:Tryz.prog.underlying 36=some (.struct (Tryz.prog.fieldsOf 36)):=kA
theorem zeK:Tryz.prog.underlying 34=some (.struct (Tryz.prog.fieldsOf 34)):=kA
theorem zn1:Tryz.prog.underlying 37=some (.slice 3):=kA
theorem zm2:Tryz.prog.underlying 41=some (.struct (Tryz.prog.fieldsOf 41)):=kA
theorem zoI:Tryz.prog.underlying 43=some (.struct (Tryz.prog.fieldsOf 43)):=kA
theorem ziY:Tryz.prog.underlying 9=some .string:=kA
theorem zne:Tryz.prog.underlying 47=some (.struct (Tryz.prog.fieldsOf 47)):=kA
theorem zrX:Tryz.prog.underlying 5=some (.int .u8):=kA
theorem ztF:Tryz.prog.underlying 80=some (.slice 5):=kA
theorem ztf:Tryz.prog.underlying 57=some (.slice 45):=kA
theorem ztR:Tryz.prog.underlying 59=some (.struct (Tryz.prog.fieldsOf 59)):=kA
variable{n:Int}
theorem zAy (h:(Lit.int .u8 n).wf=true):0≤n∧n≤255:=by
 simp only [Lit.wf,Bool.and_eq_true,decide_eq_true_eq] at h;exact h
variable{H:Type}{W:World}{c:Value}{enc:TypeId×Value→H}{x:DataW H×List MemPlace}
theorem YW {n:Nat}(h:DataW.trod enc Tryz.prog W 0 (fun _=>true) true n 3 [c]=some x):∃ k:Int,c= .int .i64 k∧(Lit.int .i64 k).wf=true:=let ⟨k,e,_,w⟩:=DataW.trod_int zjs h;⟨k,(List.cons.inj e).1,w⟩
theorem zAF (fuel:Nat)(cs:List Value)(x:DataW H×List MemPlace)(h:DataW.trod enc Tryz.prog W 0 (fun _=>true) true fuel 47 cs=some x):∃ y:Ev,(EvM (X0 W)) y∧U3 y=cs:=by
 obtain ⟨hl,n0_,f0⟩:=Yf (C:=49) zne kA h
 match cs,hl with
 | (c0::c1::c2::c3::c4::c5::c6::c7::c8::c9::c10::c11::c12::c13::c14::c15::c16::c17::c18::c19::c20::c21::c22::c23::c24::c25::c26::c27::c28::c29::c30::c31::c32::c33::c34::c35::c36::c37::c38::c39::c40::c41::c42::c43::c44::c45::c46::c47::c48::[]),_=>
  obtain ⟨_,g0_0⟩:=f0 0 3 0 1 kA kA;obtain ⟨n0,e0,w0⟩:=YW (c:=c0) g0_0;obtain ⟨_,g0_1⟩:=f0 1 3 1 1 kA kA;obtain ⟨n1,e1,w1⟩:=YW (c:=c1) g0_1;obtain ⟨_,g0_2⟩:=f0 2 3 2 1 kA kA;obtain ⟨n2,e2,w2⟩:=YW (c:=c2) g0_2;obtain ⟨_,g0_3⟩:=f0 3 3 3 1 kA kA;obtain ⟨n3,e3,w3⟩:=YW (c:=c3) g0_3;obtain ⟨_,g0_4⟩:=f0 4 45 4 45 kA kA;obtain ⟨_,n1_,f1⟩:=Yf (C:=45) zln kA (show DataW.trod enc Tryz.prog W 0 (fun _=>true) true n0_ 45 (c4::c5::c6::c7::c8::c9::c10::c11::c12::c13::c14::c15::c16::c17::c18::c19::c20::c21::c22::c23::c24::c25::c26::c27::c28::c29::c30::c31::c32::c33::c34::c35::c36::c37::c38::c39::c40::c41::c42::c43::c44::c45::c46::c47::c48::[])=some _ from g0_4);obtain ⟨_,g1_0⟩:=f1 0 3 0 1 kA kA;obtain ⟨n4,e4,w4⟩:=YW (c:=c4) g1_0;obtain ⟨_,g1_1⟩:=f1 1 32 1 9 kA kA;obtain ⟨_,n2_,f2⟩:=Yf (C:=9) zmy kA (show DataW.trod enc Tryz.prog W 0 (fun _=>true) true n1_ 32 [c5,c6,c7,c8,c9,c10,c11,c12,c13]=some _ from g1_1);obtain ⟨_,g2_0⟩:=f2 0 3 0 1 kA kA;obtain ⟨n5,e5,w5⟩:=YW (c:=c5) g2_0;obtain ⟨_,g2_1⟩:=f2 1 3 1 1 kA kA;obtain ⟨n6,e6,w6⟩:=YW (c:=c6) g2_1;obtain ⟨_,g2_2⟩:=f2 2 3 2 1 kA kA;obtain ⟨n7,e7,w7⟩:=YW (c:=c7) g2_2;obtain ⟨_,g2_3⟩:=f2 3 3 3 1 kA kA;obtain ⟨n8,e8,w8⟩:=YW (c:=c8) g2_3;obtain ⟨_,g2_4⟩:=f2 4 3 4 1 kA kA;obtain ⟨n9,e9,w9⟩:=YW (c:=c9) g2_4;obtain ⟨_,g2_5⟩:=f2 5 3 5 1 kA kA;obtain ⟨n10,e10,w10⟩:=YW (c:=c10) g2_5;obtain ⟨_,g2_6⟩:=f2 6 30 6 3 kA kA;obtain ⟨_,n3_,f3⟩:=Yf (C:=3) zkO kA (show DataW.trod enc Tryz.prog W 0 (fun _=>true) true n2_ 30 [c11,c12,c13]=some _ from g2_6);obtain ⟨_,g3_0⟩:=f3 0 3 0 1 kA kA;obtain ⟨n11,e11,w11⟩:=YW (c:=c11) g3_0;obtain ⟨_,g3_1⟩:=f3 1 3 1 1 kA kA;obtain ⟨n12,e12,w12⟩:=YW (c:=c12) g3_1;obtain ⟨_,g3_2⟩:=f3 2 3 2 1 kA kA;obtain ⟨n13,e13,w13⟩:=YW (c:=c13) g3_2;obtain ⟨_,g1_2⟩:=f1 2 39 10 19 kA kA;obtain ⟨_,n4_,f4⟩:=Yf (C:=19) znJ kA (show DataW.trod enc Tryz.prog W 0 (fun _=>true) true n1_ 39 [c14,c15,c16,c17,c18,c19,c20,c21,c22,c23,c24,c25,c26,c27,c28,c29,c30,c31,c32]=some _ from g1_2);obtain ⟨_,g4_0⟩:=f4 0 3 0 1 kA kA;obtain ⟨n14,e14,w14⟩:=YW (c:=c14) g4_0;obtain ⟨_,g4_1⟩:=f4 1 3 1 1 kA kA;obtain ⟨n15,e15,w15⟩:=YW (c:=c15) g4_1;obtain ⟨_,g4_2⟩:=f4 2 3 2 1 kA kA;obtain ⟨n16,e16,w16⟩:=YW (c:=c16) g4_2;obtain ⟨_,g4_3⟩:=f4 3 3 3 1 kA kA;obtain ⟨n17,e17,w17⟩:=YW (c:=c17) g4_3;obtain ⟨_,g4_4⟩:=f4 4 36 4 14 kA kA;obtain ⟨_,n5_,f5⟩:=Yf (C:=14) zlc kA (show DataW.trod enc Tryz.prog W 0 (fun _=>true) true n4_ 36 [c18,c19,c20,c21,c22,c23,c24,c25,c26,c27,c28,c29,c30,c31]=some _ from g4_4);obtain ⟨_,g5_0⟩:=f5 0 3 0 1 kA kA;obtain ⟨n18,e18,w18⟩:=YW (c:=c18) g5_0;obtain ⟨_,g5_1⟩:=f5 1 3 1 1 kA kA;obtain ⟨n19,e19,w19⟩:=YW (c:=c19) g5_1;obtain ⟨_,g5_2⟩:=f5 2 3 2 1 kA kA;obtain ⟨n20,e20,w20⟩:=YW (c:=c20) g5_2;obtain ⟨_,g5_3⟩:=f5 3 3 3 1 kA kA;obtain ⟨n21,e21,w21⟩:=YW (c:=c21) g5_3;obtain ⟨_,g5_4⟩:=f5 4 3 4 1 kA kA;obtain ⟨n22,e22,w22⟩:=YW (c:=c22) g5_4;obtain ⟨_,g5_5⟩:=f5 5 3 5 1 kA kA;obtain ⟨n23,e23,w23⟩:=YW (c:=c23) g5_5;obtain ⟨_,g5_6⟩:=f5 6 3 6 1 kA kA;obtain ⟨n24,e24,w24⟩:=YW (c:=c24) g5_6;obtain ⟨_,g5_7⟩:=f5 7 3 7 1 kA kA;obtain ⟨n25,e25,w25⟩:=YW (c:=c25) g5_7;obtain ⟨_,g5_8⟩:=f5 8 3 8 1 kA kA;obtain ⟨n26,e26,w26⟩:=YW (c:=c26) g5_8;obtain ⟨_,g5_9⟩:=f5 9 3 9 1 kA kA;obtain ⟨n27,e27,w27⟩:=YW (c:=c27) g5_9;obtain ⟨_,g5_10⟩:=f5 10 34 10 2 kA kA;obtain ⟨_,n6_,f6⟩:=Yf (C:=2) zeK kA (show DataW.trod enc Tryz.prog W 0 (fun _=>true) true n5_ 34 [c28,c29]=some _ from g5_10);obtain ⟨_,g6_0⟩:=f6 0 3 0 1 kA kA;obtain ⟨n28,e28,w28⟩:=YW (c:=c28) g6_0;obtain ⟨_,g6_1⟩:=f6 1 3 1 1 kA kA;obtain ⟨n29,e29,w29⟩:=YW (c:=c29) g6_1;obtain ⟨_,g5_11⟩:=f5 11 34 12 2 kA kA;obtain ⟨_,n7_,f7⟩:=Yf (C:=2) zeK kA (show DataW.trod enc Tryz.prog W 0 (fun _=>true) true n5_ 34 [c30,c31]=some _ from g5_11);obtain ⟨_,g7_0⟩:=f7 0 3 0 1 kA kA;obtain ⟨n30,e30,w30⟩:=YW (c:=c30) g7_0;obtain ⟨_,g7_1⟩:=f7 1 3 1 1 kA kA;obtain ⟨n31,e31,w31⟩:=YW (c:=c31) g7_1;obtain ⟨_,g4_5⟩:=f4 5 37 18 1 kA kA;obtain ⟨a32,m32,q32,n32,e32,s32,o32,_⟩:=UM (t:=37) (e:=3) Z5 (fun n:Int=> -9223372036854775808≤n∧n≤9223372036854775807) zn1 kA kC YL (fun fuel cs x h=>zrP zjs rfl fuel cs x h) (show DataW.trod enc Tryz.prog W 0 (fun _=>true) true n4_ 37 [c32]=some _ from g4_5);obtain ⟨_,g1_3⟩:=f1 3 41 29 5 kA kA;obtain ⟨_,n8_,f8⟩:=Yf (C:=5) zm2 kA (show DataW.trod enc Tryz.prog W 0 (fun _=>true) true n1_ 41 [c33,c34,c35,c36,c37]=some _ from g1_3);obtain ⟨_,g8_0⟩:=f8 0 3 0 1 kA kA;obtain ⟨n33,e33,w33⟩:=YW (c:=c33) g8_0;obtain ⟨_,g8_1⟩:=f8 1 3 1 1 kA kA;obtain ⟨n34,e34,w34⟩:=YW (c:=c34) g8_1;obtain ⟨_,g8_2⟩:=f8 2 3 2 1 kA kA;obtain ⟨n35,e35,w35⟩:=YW (c:=c35) g8_2;obtain ⟨_,g8_3⟩:=f8 3 3 3 1 kA kA;obtain ⟨n36,e36,w36⟩:=YW (c:=c36) g8_3;obtain ⟨_,g8_4⟩:=f8 4 3 4 1 kA kA;obtain ⟨n37,e37,w37⟩:=YW (c:=c37) g8_4;obtain ⟨_,g1_4⟩:=f1 4 43 34 11 kA kA;obtain ⟨_,n9_,f9⟩:=Yf (C:=11) zoI kA (show DataW.trod enc Tryz.prog W 0 (fun _=>true) true n1_ 43 [c38,c39,c40,c41,c42,c43,c44,c45,c46,c47,c48]=some _ from g1_4);obtain ⟨_,g9_0⟩:=f9 0 3 0 1 kA kA;obtain ⟨n38,e38,w38⟩:=YW (c:=c38) g9_0;obtain ⟨_,g9_1⟩:=f9 1 3 1 1 kA kA;obtain ⟨n39,e39,w39⟩:=YW (c:=c39) g9_1;obtain ⟨_,g9_2⟩:=f9 2 3 2 1 kA kA;obtain ⟨n40,e40,w40⟩:=YW (c:=c40) g9_2;obtain ⟨_,g9_3⟩:=f9 3 3 3 1 kA kA;obtain ⟨n41,e41,w41⟩:=YW (c:=c41) g9_3;obtain ⟨_,g9_4⟩:=f9 4 3 4 1 kA kA;obtain ⟨n42,e42,w42⟩:=YW (c:=c42) g9_4;obtain ⟨_,g9_5⟩:=f9 5 3 5 1 kA kA;obtain ⟨n43,e43,w43⟩:=YW (c:=c43) g9_5;obtain ⟨_,g9_6⟩:=f9 6 9 6 1 kA kA;obtain ⟨n44,e44,_⟩:=DataW.trod_string ziY (show DataW.trod enc Tryz.prog W 0 (fun _=>true) true n9_ 9 [c44]=some _ from g9_6);obtain ⟨_,g9_7⟩:=f9 7 9 7 1 kA kA;obtain ⟨n45,e45,_⟩:=DataW.trod_string ziY (show DataW.trod enc Tryz.prog W 0 (fun _=>true) true n9_ 9 [c45]=some _ from g9_7);obtain ⟨_,g9_8⟩:=f9 8 3 8 1 kA kA;obtain ⟨n46,e46,w46⟩:=YW (c:=c46) g9_8;obtain ⟨_,g9_9⟩:=f9 9 3 9 1 kA kA;obtain ⟨n47,e47,w47⟩:=YW (c:=c47) g9_9;obtain ⟨_,g9_10⟩:=f9 10 3 10 1 kA kA;obtain ⟨n48,e48,w48⟩:=YW (c:=c48) g9_10;cases e0;cases e1;cases e2;cases e3;cases e4;cases e5;cases e6;cases e7;cases e8;cases e9;cases e10;cases e11;cases e12;cases e13;cases e14;cases e15;cases e16;cases e17;cases e18;cases e19;cases e20;cases e21;cases e22;cases e23;cases e24;cases e25;cases e26;cases e27;cases e28;cases e29;cases e30;cases e31;cases e32;cases e33;cases e34;cases e35;cases e36;cases e37;cases e38;cases e39;cases e40;cases e41;cases e42;cases e43;cases e44;cases e45;cases e46;cases e47;cases e48;exact ⟨⟨n0,n1,n2,n3,⟨n4,⟨n5,n6,n7,n8,n9,n10,n11,n12,n13⟩,⟨n14,n15,n16,n17,⟨n18,n19,n20,n21,n22,n23,n24,n25,n26,n27,n28,n29,n30,n31⟩,a32,m32,q32,n32⟩,⟨n33,n34,n35,n36,n37⟩,⟨n38,n39,n40,n41,n42,n43,n44,n45,n46,n47,n48⟩⟩⟩,⟨s32,⟨List.forall_mem_cons.2 ⟨Ze w4,List.forall_mem_cons.2 ⟨Ze w5,List.forall_mem_cons.2 ⟨Ze w6,List.forall_mem_cons.2 ⟨Ze w7,List.forall_mem_cons.2 ⟨Ze w8,List.forall_mem_cons.2 ⟨Ze w9,List.forall_mem_cons.2 ⟨Ze w10,List.forall_mem_cons.2 ⟨Ze w11,List.forall_mem_cons.2 ⟨Ze w12,List.forall_mem_cons.2 ⟨Ze w13,List.forall_mem_cons.2 ⟨Ze w14,List.forall_mem_cons.2 ⟨Ze w15,List.forall_mem_cons.2 ⟨Ze w16,List.forall_mem_cons.2 ⟨Ze w17,List.forall_mem_cons.2 ⟨Ze w18,List.forall_mem_cons.2 ⟨Ze w19,List.forall_mem_cons.2 ⟨Ze w20,List.forall_mem_cons.2 ⟨Ze w21,List.forall_mem_cons.2 ⟨Ze w22,List.forall_mem_cons.2 ⟨Ze w23,List.forall_mem_cons.2 ⟨Ze w24,List.forall_mem_cons.2 ⟨Ze w25,List.forall_mem_cons.2 ⟨Ze w26,List.forall_mem_cons.2 ⟨Ze w27,List.forall_mem_cons.2 ⟨Ze w28,List.forall_mem_cons.2 ⟨Ze w29,List.forall_mem_cons.2 ⟨Ze w30,List.forall_mem_cons.2 ⟨Ze w31,List.forall_mem_cons.2 ⟨Ze w33,List.forall_mem_cons.2 ⟨Ze w34,List.forall_mem_cons.2 ⟨Ze w35,List.forall_mem_cons.2 ⟨Ze w36,List.forall_mem_cons.2 ⟨Ze w37,List.forall_mem_cons.2 ⟨Ze w38,List.forall_mem_cons.2 ⟨Ze w39,List.forall_mem_cons.2 ⟨Ze w40,List.forall_mem_cons.2 ⟨Ze w41,List.forall_mem_cons.2 ⟨Ze w42,List.forall_mem_cons.2 ⟨Ze w43,List.forall_mem_cons.2 ⟨Ze w46,List.forall_mem_cons.2 ⟨Ze w47,List.forall_mem_cons.2 ⟨Ze w48,fun y hy=>(by cases hy)⟩⟩⟩⟩⟩⟩⟩⟩⟩⟩⟩⟩⟩⟩⟩⟩⟩⟩⟩⟩⟩⟩⟩⟩⟩⟩⟩⟩⟩⟩⟩⟩⟩⟩⟩⟩⟩⟩⟩⟩⟩⟩,o32⟩⟩,rfl⟩
theorem zzY (fuel:Nat)(cs:List Value)(x:DataW H×List MemPlace)(h:DataW.trod enc Tryz.prog W 0 (fun _=>true) true fuel 5 cs=some x):∃ y:Nat,y≤255∧VY y=cs:=by
 obtain ⟨v,hv⟩:∃ v,cs=[v]:=by
  have:=h
  cases fuel with
  | zero=>simp [DataW.trod] at this
  | succ m=>unfold DataW.trod at this;rw [zrX] at this;split at this<;>simp_all
 subst hv;obtain ⟨n,e,_,w⟩:=DataW.trod_int zrX h;cases e;have h2:=zAy w;refine ⟨n.toNat,kB,?_⟩;show [Value.int .u8 (n.toNat:Int)]=_;rw [Int.toNat_of_nonneg h2.1]
theorem zAf (fuel:Nat)(cs:List Value)(x:DataW H×List MemPlace)(h:DataW.trod enc Tryz.prog W 0 (fun _=>true) true fuel 45 cs=some x):∃ y:Nt,(fun x=>Nd (X0 W) x.pt∧NtW x) y∧Zf y=cs:=by
 obtain ⟨hl,n0_,f0⟩:=Yf (C:=45) zln kA h
 match cs,hl with
 | (c0::c1::c2::c3::c4::c5::c6::c7::c8::c9::c10::c11::c12::c13::c14::c15::c16::c17::c18::c19::c20::c21::c22::c23::c24::c25::c26::c27::c28::c29::c30::c31::c32::c33::c34::c35::c36::c37::c38::c39::c40::c41::c42::c43::c44::[]),_=>
  obtain ⟨_,g0_0⟩:=f0 0 3 0 1 kA kA;obtain ⟨n0,e0,w0⟩:=YW (c:=c0) g0_0;obtain ⟨_,g0_1⟩:=f0 1 32 1 9 kA kA;obtain ⟨_,n1_,f1⟩:=Yf (C:=9) zmy kA (show DataW.trod enc Tryz.prog W 0 (fun _=>true) true n0_ 32 [c1,c2,c3,c4,c5,c6,c7,c8,c9]=some _ from g0_1);obtain ⟨_,g1_0⟩:=f1 0 3 0 1 kA kA;obtain ⟨n1,e1,w1⟩:=YW (c:=c1) g1_0;obtain ⟨_,g1_1⟩:=f1 1 3 1 1 kA kA;obtain ⟨n2,e2,w2⟩:=YW (c:=c2) g1_1;obtain ⟨_,g1_2⟩:=f1 2 3 2 1 kA kA;obtain ⟨n3,e3,w3⟩:=YW (c:=c3) g1_2;obtain ⟨_,g1_3⟩:=f1 3 3 3 1 kA kA;obtain ⟨n4,e4,w4⟩:=YW (c:=c4) g1_3;obtain ⟨_,g1_4⟩:=f1 4 3 4 1 kA kA;obtain ⟨n5,e5,w5⟩:=YW (c:=c5) g1_4;obtain ⟨_,g1_5⟩:=f1 5 3 5 1 kA kA;obtain ⟨n6,e6,w6⟩:=YW (c:=c6) g1_5;obtain ⟨_,g1_6⟩:=f1 6 30 6 3 kA kA;obtain ⟨_,n2_,f2⟩:=Yf (C:=3) zkO kA (show DataW.trod enc Tryz.prog W 0 (fun _=>true) true n1_ 30 [c7,c8,c9]=some _ from g1_6);obtain ⟨_,g2_0⟩:=f2 0 3 0 1 kA kA;obtain ⟨n7,e7,w7⟩:=YW (c:=c7) g2_0;obtain ⟨_,g2_1⟩:=f2 1 3 1 1 kA kA;obtain ⟨n8,e8,w8⟩:=YW (c:=c8) g2_1;obtain ⟨_,g2_2⟩:=f2 2 3 2 1 kA kA;obtain ⟨n9,e9,w9⟩:=YW (c:=c9) g2_2;obtain ⟨_,g0_2⟩:=f0 2 39 10 19 kA kA;obtain ⟨_,n3_,f3⟩:=Yf (C:=19) znJ kA (show DataW.trod enc Tryz.prog W 0 (fun _=>true) true n0_ 39 [c10,c11,c12,c13,c14,c15,c16,c17,c18,c19,c20,c21,c22,c23,c24,c25,c26,c27,c28]=some _ from g0_2);obtain ⟨_,g3_0⟩:=f3 0 3 0 1 kA kA;obtain ⟨n10,e10,w10⟩:=YW (c:=c10) g3_0;obtain ⟨_,g3_1⟩:=f3 1 3 1 1 kA kA;obtain ⟨n11,e11,w11⟩:=YW (c:=c11) g3_1;obtain ⟨_,g3_2⟩:=f3 2 3 2 1 kA kA;obtain ⟨n12,e12,w12⟩:=YW (c:=c12) g3_2;obtain ⟨_,g3_3⟩:=f3 3 3 3 1 kA kA;obtain ⟨n13,e13,w13⟩:=YW (c:=c13) g3_3;obtain ⟨_,g3_4⟩:=f3 4 36 4 14 kA kA;obtain ⟨_,n4_,f4⟩:=Yf (C:=14) zlc kA (show DataW.trod enc Tryz.prog W 0 (fun _=>true) true n3_ 36 [c14,c15,c16,c17,c18,c19,c20,c21,c22,c23,c24,c25,c26,c27]=some _ from g3_4);obtain ⟨_,g4_0⟩:=f4 0 3 0 1 kA kA;obtain ⟨n14,e14,w14⟩:=YW (c:=c14) g4_0;obtain ⟨_,g4_1⟩:=f4 1 3 1 1 kA kA;obtain ⟨n15,e15,w15⟩:=YW (c:=c15) g4_1;obtain ⟨_,g4_2⟩:=f4 2 3 2 1 kA kA;obtain ⟨n16,e16,w16⟩:=YW (c:=c16) g4_2;obtain ⟨_,g4_3⟩:=f4 3 3 3 1 kA kA;obtain ⟨n17,e17,w17⟩:=YW (c:=c17) g4_3;obtain ⟨_,g4_4⟩:=f4 4 3 4 1 kA kA;obtain ⟨n18,e18,w18⟩:=YW (c:=c18) g4_4;obtain ⟨_,g4_5⟩:=f4 5 3 5 1 kA kA;obtain ⟨n19,e19,w19⟩:=YW (c:=c19) g4_5;obtain ⟨_,g4_6⟩:=f4 6 3 6 1 kA kA;obtain ⟨n20,e20,w20⟩:=YW (c:=c20) g4_6;obtain ⟨_,g4_7⟩:=f4 7 3 7 1 kA kA;obtain ⟨n21,e21,w21⟩:=YW (c:=c21) g4_7;obtain ⟨_,g4_8⟩:=f4 8 3 8 1 kA kA;obtain ⟨n22,e22,w22⟩:=YW (c:=c22) g4_8;obtain ⟨_,g4_9⟩:=f4 9 3 9 1 kA kA;obtain ⟨n23,e23,w23⟩:=YW (c:=c23) g4_9;obtain ⟨_,g4_10⟩:=f4 10 34 10 2 kA kA;obtain ⟨_,n5_,f5⟩:=Yf (C:=2) zeK kA (show DataW.trod enc Tryz.prog W 0 (fun _=>true) true n4_ 34 [c24,c25]=some _ from g4_10);obtain ⟨_,g5_0⟩:=f5 0 3 0 1 kA kA;obtain ⟨n24,e24,w24⟩:=YW (c:=c24) g5_0;obtain ⟨_,g5_1⟩:=f5 1 3 1 1 kA kA;obtain ⟨n25,e25,w25⟩:=YW (c:=c25) g5_1;obtain ⟨_,g4_11⟩:=f4 11 34 12 2 kA kA;obtain ⟨_,n6_,f6⟩:=Yf (C:=2) zeK kA (show DataW.trod enc Tryz.prog W 0 (fun _=>true) true n4_ 34 [c26,c27]=some _ from g4_11);obtain ⟨_,g6_0⟩:=f6 0 3 0 1 kA kA;obtain ⟨n26,e26,w26⟩:=YW (c:=c26) g6_0;obtain ⟨_,g6_1⟩:=f6 1 3 1 1 kA kA;obtain ⟨n27,e27,w27⟩:=YW (c:=c27) g6_1;obtain ⟨_,g3_5⟩:=f3 5 37 18 1 kA kA;obtain ⟨a28,m28,q28,n28,e28,s28,o28,_⟩:=UM (t:=37) (e:=3) Z5 (fun n:Int=> -9223372036854775808≤n∧n≤9223372036854775807) zn1 kA kC YL (fun fuel cs x h=>zrP zjs rfl fuel cs x h) (show DataW.trod enc Tryz.prog W 0 (fun _=>true) true n3_ 37 [c28]=some _ from g3_5);obtain ⟨_,g0_3⟩:=f0 3 41 29 5 kA kA;obtain ⟨_,n7_,f7⟩:=Yf (C:=5) zm2 kA (show DataW.trod enc Tryz.prog W 0 (fun _=>true) true n0_ 41 [c29,c30,c31,c32,c33]=some _ from g0_3);obtain ⟨_,g7_0⟩:=f7 0 3 0 1 kA kA;obtain ⟨n29,e29,w29⟩:=YW (c:=c29) g7_0;obtain ⟨_,g7_1⟩:=f7 1 3 1 1 kA kA;obtain ⟨n30,e30,w30⟩:=YW (c:=c30) g7_1;obtain ⟨_,g7_2⟩:=f7 2 3 2 1 kA kA;obtain ⟨n31,e31,w31⟩:=YW (c:=c31) g7_2;obtain ⟨_,g7_3⟩:=f7 3 3 3 1 kA kA;obtain ⟨n32,e32,w32⟩:=YW (c:=c32) g7_3;obtain ⟨_,g7_4⟩:=f7 4 3 4 1 kA kA;obtain ⟨n33,e33,w33⟩:=YW (c:=c33) g7_4;obtain ⟨_,g0_4⟩:=f0 4 43 34 11 kA kA;obtain ⟨_,n8_,f8⟩:=Yf (C:=11) zoI kA (show DataW.trod enc Tryz.prog W 0 (fun _=>true) true n0_ 43 [c34,c35,c36,c37,c38,c39,c40,c41,c42,c43,c44]=some _ from g0_4);obtain ⟨_,g8_0⟩:=f8 0 3 0 1 kA kA;obtain ⟨n34,e34,w34⟩:=YW (c:=c34) g8_0;obtain ⟨_,g8_1⟩:=f8 1 3 1 1 kA kA;obtain ⟨n35,e35,w35⟩:=YW (c:=c35) g8_1;obtain ⟨_,g8_2⟩:=f8 2 3 2 1 kA kA;obtain ⟨n36,e36,w36⟩:=YW (c:=c36) g8_2;obtain ⟨_,g8_3⟩:=f8 3 3 3 1 kA kA;obtain ⟨n37,e37,w37⟩:=YW (c:=c37) g8_3;obtain ⟨_,g8_4⟩:=f8 4 3 4 1 kA kA;obtain ⟨n38,e38,w38⟩:=YW (c:=c38) g8_4;obtain ⟨_,g8_5⟩:=f8 5 3 5 1 kA kA;obtain ⟨n39,e39,w39⟩:=YW (c:=c39) g8_5;obtain ⟨_,g8_6⟩:=f8 6 9 6 1 kA kA;obtain ⟨n40,e40,_⟩:=DataW.trod_string ziY (show DataW.trod enc Tryz.prog W 0 (fun _=>true) true n8_ 9 [c40]=some _ from g8_6);obtain ⟨_,g8_7⟩:=f8 7 9 7 1 kA kA;obtain ⟨n41,e41,_⟩:=DataW.trod_string ziY (show DataW.trod enc Tryz.prog W 0 (fun _=>true) true n8_ 9 [c41]=some _ from g8_7);obtain ⟨_,g8_8⟩:=f8 8 3 8 1 kA kA;obtain ⟨n42,e42,w42⟩:=YW (c:=c42) g8_8;obtain ⟨_,g8_9⟩:=f8 9 3 9 1 kA kA;obtain ⟨n43,e43,w43⟩:=YW (c:=c43) g8_9;obtain ⟨_,g8_10⟩:=f8 10 3 10 1 kA kA;obtain ⟨n44,e44,w44⟩:=YW (c:=c44) g8_10;cases e0;cases e1;cases e2;cases e3;cases e4;cases e5;cases e6;cases e7;cases e8;cases e9;cases e10;cases e11;cases e12;cases e13;cases e14;cases e15;cases e16;cases e17;cases e18;cases e19;cases e20;cases e21;cases e22;cases e23;cases e24;cases e25;cases e26;cases e27;cases e28;cases e29;cases e30;cases e31;cases e32;cases e33;cases e34;cases e35;cases e36;cases e37;cases e38;cases e39;cases e40;cases e41;cases e42;cases e43;cases e44;exact ⟨⟨n0,⟨n1,n2,n3,n4,n5,n6,n7,n8,n9⟩,⟨n10,n11,n12,n13,⟨n14,n15,n16,n17,n18,n19,n20,n21,n22,n23,n24,n25,n26,n27⟩,a28,m28,q28,n28⟩,⟨n29,n30,n31,n32,n33⟩,⟨n34,n35,n36,n37,n38,n39,n40,n41,n42,n43,n44⟩⟩,⟨s28,⟨List.forall_mem_cons.2 ⟨Ze w0,List.forall_mem_cons.2 ⟨Ze w1,List.forall_mem_cons.2 ⟨Ze w2,List.forall_mem_cons.2 ⟨Ze w3,List.forall_mem_cons.2 ⟨Ze w4,List.forall_mem_cons.2 ⟨Ze w5,List.forall_mem_cons.2 ⟨Ze w6,List.forall_mem_cons.2 ⟨Ze w7,List.forall_mem_cons.2 ⟨Ze w8,List.forall_mem_cons.2 ⟨Ze w9,List.forall_mem_cons.2 ⟨Ze w10,List.forall_mem_cons.2 ⟨Ze w11,List.forall_mem_cons.2 ⟨Ze w12,List.forall_mem_cons.2 ⟨Ze w13,List.forall_mem_cons.2 ⟨Ze w14,List.forall_mem_cons.2 ⟨Ze w15,List.forall_mem_cons.2 ⟨Ze w16,List.forall_mem_cons.2 ⟨Ze w17,List.forall_mem_cons.2 ⟨Ze w18,List.forall_mem_cons.2 ⟨Ze w19,List.forall_mem_cons.2 ⟨Ze w20,List.forall_mem_cons.2 ⟨Ze w21,List.forall_mem_cons.2 ⟨Ze w22,List.forall_mem_cons.2 ⟨Ze w23,List.forall_mem_cons.2 ⟨Ze w24,List.forall_mem_cons.2 ⟨Ze w25,List.forall_mem_cons.2 ⟨Ze w26,List.forall_mem_cons.2 ⟨Ze w27,List.forall_mem_cons.2 ⟨Ze w29,List.forall_mem_cons.2 ⟨Ze w30,List.forall_mem_cons.2 ⟨Ze w31,List.forall_mem_cons.2 ⟨Ze w32,List.forall_mem_cons.2 ⟨Ze w33,List.forall_mem_cons.2 ⟨Ze w34,List.forall_mem_cons.2 ⟨Ze w35,List.forall_mem_cons.2 ⟨Ze w36,List.forall_mem_cons.2 ⟨Ze w37,List.forall_mem_cons.2 ⟨Ze w38,List.forall_mem_cons.2 ⟨Ze w39,List.forall_mem_cons.2 ⟨Ze w42,List.forall_mem_cons.2 ⟨Ze w43,List.forall_mem_cons.2 ⟨Ze w44,fun y hy=>(by cases hy)⟩⟩⟩⟩⟩⟩⟩⟩⟩⟩⟩⟩⟩⟩⟩⟩⟩⟩⟩⟩⟩⟩⟩⟩⟩⟩⟩⟩⟩⟩⟩⟩⟩⟩⟩⟩⟩⟩⟩⟩⟩⟩,o28⟩⟩,rfl⟩
end
section
open Go Go.Kn Go.Proofs
open Go.ChangeShapes Go.WideShapes Go.ChangeAt Go.RowKit
set_option maxRecDepth 100000
theorem zmS:Tryz.prog.underlying 28=some (.struct (Tryz.prog.fieldsOf 28)):=kA
theorem zvK:Tryz.prog.underlying 26=some (.struct (Tryz.prog.fieldsOf 26)):=kA
theorem zug:Tryz.prog.underlying 99=some (.struct (Tryz.prog.fieldsOf 99)):=kA
theorem zwe:Tryz.prog.underlying 22=some (.slice 59):=kA
theorem zuA:Tryz.prog.underlying 23=some (.slice 99):=kA
theorem zvZ:Tryz.prog.underlying 24=some (.slice 179):=kA
theorem zpL:Tryz.prog.underlying 179=some (.array 2 3):=kA
variable{H:Type}{W:World}{enc:TypeId×Value→H}
theorem zA0 (fuel:Nat)(cs:List Value)(x:DataW H×List MemPlace)(h:DataW.trod enc Tryz.prog W 0 (fun _=>true) true fuel 179 cs=some x):∃ y:Int×Int,True∧VI y=cs:=by
 obtain ⟨xs,m,_,_,hl,hxl,hel⟩:=DataW.trod_array zpL h;have hl:cs.length=2:=hl.trans kA;have hc:Tryz.prog.cellsOf 3=1:=kA
 match cs,hl with
 | [c0,c1],_=>
  have g0:=hel 0 kC;have g1:=hel 1 kC;rw [hc] at g0 g1;obtain ⟨k0,e0,_⟩:=YW (c:=c0) (g0.trans (List.getElem?_eq_getElem kB));obtain ⟨k1,e1,_⟩:=YW (c:=c1) (g1.trans (List.getElem?_eq_getElem kB));cases e0;cases e1;exact ⟨(k0,k1),trivial,rfl⟩
theorem zAi (fuel:Nat)(cs:List Value)(x:DataW H×List MemPlace)(h:DataW.trod enc Tryz.prog W 0 (fun _=>true) true fuel 99 cs=some x):∃ y:Pk,PkM (X0 W) y∧Q6 y=cs:=by
 obtain ⟨hl,n_,f⟩:=Yf (C:=3) zug kA h
 match cs,hl with
 | [c0,c1,c2],_=>
  obtain ⟨_,g0⟩:=f 0 3 0 1 kA kA;obtain ⟨k0,e0,_⟩:=YW (c:=c0) g0;obtain ⟨_,g1⟩:=f 1 3 1 1 kA kA;obtain ⟨k1,e1,_⟩:=YW (c:=c1) g1;obtain ⟨_,g2⟩:=f 2 80 2 1 kA kA;obtain ⟨a,m,q,l,e2,s,o,_⟩:=UM (t:=80) (e:=5) VY (fun y:Nat=>y≤255) ztF kA kC Vd (fun fuel cs x h=>zzY fuel cs x h) (show DataW.trod enc Tryz.prog W 0 (fun _=>true) true n_ 80 [c2]=some _ from g2);cases e0;cases e1;cases e2;exact ⟨⟨k0,k1,a,m,q,l⟩,⟨s,fun b hb=>Nat.lt_succ_of_le (o b hb)⟩,rfl⟩
theorem zz3 (fuel:Nat)(cs:List Value)(x:DataW H×List MemPlace)(h:DataW.trod enc Tryz.prog W 0 (fun _=>true) true fuel 59 cs=some x):∃ y:Pe,(WB (X0 W) y.a y.n y.c y.notes∧∀ z∈y.notes,NtW z)∧U4 y=cs:=by
 obtain ⟨hl,n_,f⟩:=Yf (C:=1) ztR kA h
 match cs,hl with
 | [c0],_=>
  obtain ⟨_,g0⟩:=f 0 57 0 1 kA kA;obtain ⟨a,m,q,l,e0,s,o,_⟩:=UM (t:=57) (e:=45) Zf (fun x:Nt=>Nd (X0 W) x.pt∧NtW x) ztf kA kC Z2 (fun fuel cs x h=>zAf fuel cs x h) (show DataW.trod enc Tryz.prog W 0 (fun _=>true) true n_ 57 [c0]=some _ from g0);cases e0;exact ⟨⟨a,m,q,l⟩,⟨⟨s,fun x hx=>(o x hx).1,fun x hx hf=>zf5 (o x hx).2 (o x hx).1 hf⟩,fun x hx=>(o x hx).2⟩,rfl⟩
variable{base:Nat}{v:Value}{d:DataW H}{p:List MemPlace}
theorem zuN (hv:Value.okWide Tryz.prog W .any base 28 v)(h:DataW.Trod enc Tryz.prog W 0 (fun _=>true) true 28 v d p):
  ∃ pa pn pc qa qn qc aa an ac ps qs ks,v= .agg #[.slice pa pn pc,.slice qa qn qc,.slice aa an ac]∧RmP (X0 W) pa pn pc qa qn qc aa an ac ps qs ks∧∀ x∈ps,∀ y∈x.notes,NtW y:=by
 obtain ⟨cs,rfl,_⟩:=okWide_struct zmS hv;obtain ⟨fuel,hf⟩:=h;obtain ⟨l⟩:=cs;obtain ⟨hl,n_,f⟩:=Yf (C:=3) zmS kA hf
 match l,hl with
 | [c0,c1,c2],_=>
  obtain ⟨_,g0⟩:=f 0 22 0 1 kA kA;obtain ⟨pa,pn,pc,ps,e0,s0,o0,_⟩:=UM (t:=22) (e:=59) U4 (fun y:Pe=>WB (X0 W) y.a y.n y.c y.notes∧∀ z∈y.notes,NtW z) zwe kA kC Uz (fun fuel cs x h=>zz3 fuel cs x h) (show DataW.trod enc Tryz.prog W 0 (fun _=>true) true n_ 22 [c0]=some _ from g0);obtain ⟨_,g1⟩:=f 1 26 1 2 kA kA;obtain ⟨_,m_,f1⟩:=Yf (C:=2) zvK kA (show DataW.trod enc Tryz.prog W 0 (fun _=>true) true n_ 26 [c1,c2]=some _ from g1);obtain ⟨_,g2⟩:=f1 0 23 0 1 kA kA;obtain ⟨qa,qn,qc,qs,e1,s1,o1,_⟩:=UM (t:=23) (e:=99) (size:=3) Q6 (PkM (X0 W)) zuA kA kC (fun _=>rfl) (fun fuel cs x h=>zAi fuel cs x h) (show DataW.trod enc Tryz.prog W 0 (fun _=>true) true m_ 23 [c1]=some _ from g2);obtain ⟨_,g3⟩:=f1 1 24 1 1 kA kA;obtain ⟨aa,an,ac,ks,e2,s2,o2,_⟩:=UM (t:=24) (e:=179) VI (fun _:Int×Int=>True) zvZ kA kC zlN (fun fuel cs x h=>zA0 fuel cs x h) (show DataW.trod enc Tryz.prog W 0 (fun _=>true) true m_ 24 [c2]=some _ from g3);cases e0;cases e1;cases e2;exact ⟨pa,pn,pc,qa,qn,qc,aa,an,ac,ps,qs,ks,rfl,⟨s0,fun x hx=>(o0 x hx).1,s1,o1,s2⟩,fun x hx=>(o0 x hx).2⟩
theorem zpU (hv:Value.okWide Tryz.prog W .any base 47 v)(h:DataW.Trod enc Tryz.prog W 0 (fun _=>true) true 47 v d p):
  ∃ y:Ev,v= .agg (U3 y).toArray∧EvM (X0 W) y:=by
 obtain ⟨cs,rfl,_⟩:=okWide_struct zne hv;obtain ⟨fuel,hf⟩:=h;obtain ⟨l⟩:=cs;obtain ⟨y,hy,e⟩:=zAF fuel l _ hf;exact ⟨y,by rw [e],hy⟩
end
section
open Go Go.Kn Go.Proofs
open Go.ChangeShapes Go.WideShapes Go.ChangeAt Go.RowKit
theorem own:ownKnob Tryz.prog.godebug=none:=kA
theorem zt5:laidOutB Tryz.prog=true:=kA
set_option maxRecDepth 100000 in
theorem Xz (os:Os) (started:os.Started) (H:Type) (enc:TypeId×Value→H):
  ReturnsInHanded {} Tryz.checked os 3 .any (Rows.partiesSpecSpec.pre6 enc Tryz.prog Tryz.f3 Rows.partiesSpecRow.domain false) (Rows.partiesSpecSpec.post enc Tryz.prog Tryz.f3 false true false false):=by
 refine returnsInHanded_of_change (C:=Tryz.checked) own started kA Tryz.func3
  (ChangeSpec.witness6 (enc:=enc) (C:=Tryz.checked) false ⟨#[], #[.int .i64 0,.agg #[.slice none 0 0,.slice none 0 0,.slice none 0 0],.agg (U3 ⟨0,0,0,0,zcy⟩).toArray],[]⟩ 8 kA kA kA kA) ?_
 intro W base args ds gs before hval0 hW hcnd _;have hval:∀ (j:Nat) t v,Tryz.f3.params[j]? =some t→args[j]? =some v→Value.okWide Tryz.prog W .any base t v:=hval0;have hW':=hW;obtain ⟨p,q,hA0,hV,rfl,hfz,hnd⟩:=hW;have hA:DataW.TrodAll enc Tryz.prog W 0 (fun _=>true) true Tryz.f3.params.toList args.toList ds p:=hA0;rw [Tryz.params3] at hA hval;obtain ⟨v0,vs1,d0,ds1,p0,q1,ea,rfl,rfl,h0,hA⟩:=trodAll_cons hA;obtain ⟨v1,vs2,d1,ds2,p1,q2,rfl,rfl,rfl,h1,hA⟩:=trodAll_cons hA;obtain ⟨v2,vs3,d2,ds3,p2,q3,rfl,rfl,rfl,h2,hA⟩:=trodAll_cons hA;obtain ⟨rfl,rfl,rfl⟩:=trodAll_nil hA;have ea':args= #[v0,v1,v2]:=(by rw [←Array.toArray_toList (xs:=args),ea]);subst ea';obtain ⟨rfl,rfl⟩:=trodVars_none hV;obtain ⟨kn,rfl,_,_,_⟩:=open_int zjs (hval 0 3 v0 rfl rfl) h0;obtain ⟨pa,pn,pc,qa,qn,qc,aa,an,ac,ps,qs,ks,rfl,hR,hnw⟩:=zuN (hval 1 28 v1 rfl rfl) h1;obtain ⟨x,rfl,hE⟩:=zpU (hval 2 47 v2 rfl rfl) h2;refine (ZJ.law (zu4 hR hnw kn x hE)).mono fun e W' ⟨he,hB⟩=>?_;subst he;exact ⟨_,rfl,zrt zt5 kA zAs rfl rfl (by rw [Tryz.params3];simp only [List.mem_cons,List.not_mem_nil,or_false,forall_eq_or_imp,forall_eq];exact ⟨⟨kA,of_decide_eq_true kA⟩,⟨kA,of_decide_eq_true kA⟩,⟨kA,of_decide_eq_true kA⟩⟩) hW' hB⟩
end
section
open Go Go.Kn Go.Proofs
open Go.ChangeShapes Go.WideShapes Go.ChangeAt Go.RowKit
theorem Jg {a b:Bool}(h1:a=true)(h2:b=true):(a&&b)=true:=by rw [h1,h2];rfl
theorem jf0:(Rows.partiesSpecRow.wf (OpenSpec.ofChange Rows.partiesSpecSpec))=true:=kA
theorem jf1:(laidOutB Tryz.checked.prog)=true:=kA
theorem jf2:(mapsRowed Tryz.checked.prog)=true:=kA
theorem jf3:(Tryz.f3.params.all (Tryz.checked.prog.readableRec ·))=true:=kA
theorem jf4:(namedTie Tryz.checked.prog Rows.partiesSpecRow.named Rows.partiesSpecSpec.vars)=true:=kA
theorem jf5:(Rows.partiesSpecRow.stops== [])=true:=kA
theorem jf6:(Tryz.checked.prog.stops== [])=true:=kA
theorem jf7:(Rows.partiesSpecRow.knobs== [])=true:=kA
theorem jf8:(Tryz.checked.prog.stopKnobs== [])=true:=kA
theorem jf9:(Rows.partiesSpecRow.inPlace==(Tryz.checked.prog.inPlace 3))=true:=kA
theorem zBX:(Rows.partiesSpecRow.unfollowed==(Tryz.checked.prog.unfollowed 3))=true:=kA
theorem zBK:(Rows.partiesSpecRow.recurses==(Tryz.checked.prog.recurses 3))=true:=kA
theorem zBV:(Rows.partiesSpecRow.named==(Tryz.checked.prog.varsNamed 3))=true:=kA
theorem zBR:(Rows.partiesSpecRow.maps==(Tryz.f3.params.toList++Rows.partiesSpecSpec.plain.varTypes Tryz.checked.prog).any (Tryz.checked.prog.mapsRec ·))=true:=kA
theorem zBO:(Rows.partiesSpecRow.ifaces==(Tryz.f3.params.toList++Rows.partiesSpecSpec.plain.varTypes Tryz.checked.prog).any (Tryz.checked.prog.ifacesRec ·))=true:=kA
theorem zBs:(Rows.partiesSpecRow.mapsOut==Tryz.checked.prog.mapsAmong Tryz.f3.resultTypes.toList)=true:=kA
theorem zBQ:(Rows.partiesSpecRow.loops==(Tryz.f3.params.toList++Rows.partiesSpecSpec.plain.varTypes Tryz.checked.prog).any (Tryz.checked.prog.loopsFrom ·))=true:=kA
theorem zBy:(Rows.partiesSpecRow.wideKeys==(Tryz.f3.params.toList++Rows.partiesSpecSpec.plain.varTypes Tryz.checked.prog++Tryz.f3.resultTypes.toList).any (Tryz.checked.prog.wideKeysFrom ·))=true:=kA
theorem zBN:(Rows.partiesSpecSpec.vars.all (Tryz.checked.prog.varReadable ·))=true:=kA
theorem zBG:(Tryz.f3.resultTypes.all (fun t=>Tryz.checked.prog.readableRec t&&decide (t<Tryz.checked.prog.types.size)))=true:=kA
theorem zBC:(Rows.partiesSpecRow.ifacesOut==Tryz.f3.resultTypes.toList.any (Tryz.checked.prog.ifacesRec ·))=true:=kA
theorem zBo:(Rows.partiesSpecRow.loopsOut==Tryz.f3.resultTypes.toList.any (Tryz.checked.prog.loopsFrom ·))=true:=kA
theorem zBq:(Rows.partiesSpecRow.plainKeys==Tryz.checked.prog.plainKeys)=true:=kA
theorem zBr:(Rows.partiesSpecRow.shortTexts.isNone)=true:=kA
theorem zBp:(Tryz.checked.prog.stopsHeard)=true:=kA
theorem zBU:(Tryz.checked.prog.mayEnter)=true:=kA
theorem zBu:(Rows.partiesSpecRow.lifted==Tryz.checked.prog.liftsFinal)=true:=kA
theorem zBL:(Tryz.checked.prog.make==some Rows.partiesSpecRow.make)=true:=kA
theorem zBv:(Rows.partiesSpecRow.pinned==Rows.partiesSpecRow.pinnedBy)=true:=kA
theorem zBS:(Rows.partiesSpecRow.veiled==(Tryz.f3.params.toList++Rows.partiesSpecSpec.plain.varTypes Tryz.checked.prog++Tryz.f3.resultTypes.toList).any (Tryz.checked.prog.veiledRec ·))=true:=kA
theorem zBI:(Rows.partiesSpecRow.veiledFits Tryz.checked.prog Tryz.f3.params.toList (Tryz.f3.params.toList++Rows.partiesSpecSpec.plain.varTypes Tryz.checked.prog++Tryz.f3.resultTypes.toList))=true:=kA
theorem zxp:joinedFacts Tryz.checked.prog 3 Tryz.f3 Rows.partiesSpecSpec Rows.partiesSpecRow=true:=by
 unfold joinedFacts;exact (Jg (Jg (Jg (Jg (Jg (Jg (Jg (Jg (Jg (Jg (Jg (Jg (Jg (Jg (Jg (Jg (Jg (Jg (Jg (Jg (Jg (Jg (Jg (Jg (Jg (Jg (Jg (Jg (Jg (Jg (Jg jf0 jf1) jf2) jf3) jf4) jf5) jf6) jf7) jf8) jf9) zBX) zBK) zBV) zBR) zBO) zBs) zBQ) zBy) zBN) zBG) zBC) zBo) zBq) zBr) zBp) zBU) zBu) zBL) kA) zBv) zBS) zBI)
theorem partiesSpec_holds:Rows.PartiesSpecSaid:=
 OpenClaim.holds_of_wide 3 Tryz.f3 rfl rfl rfl rfl rfl rfl rfl ⟨rfl,rfl,rfl,rfl,rfl⟩ rfl rfl rfl rfl rfl kA Tryz.func3 zxp
  (of_decide_eq_true kA) (by unfold Func.isWrapper;first | (rw [if_pos (by decide+kernel)];kernel_rfl) | (rw [if_neg (by decide+kernel)];exact ⟨rfl,rfl⟩))
  (fun os started H enc _=>Xz os started H enc)
#print axioms partiesSpec_holds
end
end Go.Proofs.YtjblkbkmblkgoaaGreat
