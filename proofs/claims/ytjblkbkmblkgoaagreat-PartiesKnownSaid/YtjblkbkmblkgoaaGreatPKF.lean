/- partiesKnown_holds, part F of the proof: what its theorems say holds without further conditions. -/
import Derived.Test.YtjblkbkmblkgoaaGreatPKE
namespace Go.Proofs.YtjblkbkmblkgoaaGreat
section
open Go Go.Kn Go.Proofs
theorem zeS:Fun Tryz.prog 106:=.of Tryz.func106 (by kernel_rfl) (by kernel_rfl)
theorem zi6:Fun Tryz.prog 110:=.of Tryz.func110 (by kernel_rfl) (by kernel_rfl)
theorem zoI {I:Qu}{bc bp:Nat}{qa aa:Option Addr}{pn pc qn qc an ac:Nat}{cur:List Value}{ps:List Pe}{qs:List Pk}{ks:List (Int×Int)}(hX:zlb I pn pc qa qn qc aa an ac cur ps qs ks)(x:Ev)(hE:EvM I x):KA Tryz.prog 46 [ZJ bc,.agg (zav x).toArray] I [(bc,.cells #[.slice (some ⟨bp,0,none⟩) pn pc,.slice qa qn qc,.slice aa an ac] 108 (0,0)),(bp,.cells (cur).toArray 59 (0,0))] (zpT bc bp pn pc aa an ac ks (KI (Vi ps qs ks) (YK x))) (zpn (KI (Vi ps qs ks) (YK x))):=by
 intro g H w hw
 refine qe Tryz.func46 Tryz.ntmps46 hw ?_
 have hIc:=zvV I
 refine zR ?_
 refine Zf rfl rfl rfl (fun b_2=>?_)
 refine Zf rfl rfl rfl (fun b_3=>?_)
 refine Qb ?_
 refine QQ .here (fun I1 hI1 hb1=>?_)
 have hX:=hX.mono hI1;have hE:=hE.mono hI1;have hIc:=hIc.trans hI1
 have h3:=BxI.of hb1
 refine QQ .here (fun I2 hI2 hb2=>?_)
 have hX:=hX.mono hI2;have hE:=hE.mono hI2;have h3:=h3.mono hI2;have hIc:=hIc.trans hI2
 have h2:=BxI.of hb2
 refine Qc (zR ?_)
 refine zV (Qd rfl JJ (fun hg=>by exact QH.imm h2.out rfl)) ?_
 refine zF Js ?_
 refine zV (Qd rfl Qy (fun hg=>by exact QH.imm h3.out rfl)) ?_
 refine ZK (cap:=[]) (vs:=[_,_]) rfl rfl zeS (by repeat (first | exact .cons .here .nil | exact Qv | exact Qq | apply Qp | apply Qo)) (zeo x.peer) rfl rfl ?_ (fun pv hpv=>by (repeat (first | with_reducible refine Zv ?_ | with_reducible refine Zj ?_ | refine VV ?_));refine ZC hIc ?_;exact (K3 (ztw (by rw [hX.pl];exact hpv.2)) hpv.1 (by decide)))
 rintro vv3 I3 L3 hI3 ⟨rfl,rfl,rfl,hp1peer,hp2peer⟩
 have hX:=hX.mono hI3;have hE:=hE.mono hI3;have h3:=h3.mono hI3;have h2:=h2.mono hI3;have hIc:=hIc.trans hI3
 have hprpeer:0≤x.peer∧x.peer<(ps.length:Int):=by rw [hX.pl];exact ⟨hp1peer,hp2peer⟩
 have hplx:=hX.pl
 have hto:x.peer.toNat<pn:=by omega
 have hti:x.peer=((x.peer.toNat:Nat):Int):=(Int.toNat_of_nonneg hprpeer.1).symm
 refine zN (zR ?_)
 refine zF Xt ?_
 refine zV (Qg rfl Zr (fun hg=>by exact Cells.part (pre:=[_,_,_,_]) (vs:=Zm x.note) (post:=[]) (BxI.cells (vs:=zav x) h3) rfl) rfl) ?_
 refine qcV (vs:=[_]) rfl XY (Kh x.note hE.nd) ?_
 refine ZK (cap:=[]) (vs:=[_,_]) rfl rfl JK .nil (K1 I3 (Q2 x.note) 570) rfl rfl ?_ (fun pv hpv=>by (repeat (first | with_reducible refine Zv ?_ | with_reducible refine Zj ?_ | refine VV ?_));refine ZC hIc ?_;exact (K3 (ztX hE hprpeer hpv.2) hpv.1 (by decide)))
 rintro vv4 I4 L4 hI4 ⟨rfl,rfl,rfl,hf⟩
 have hX:=hX.mono hI4;have hE:=hE.mono hI4;have h3:=h3.mono hI4;have h2:=h2.mono hI4;have hIc:=hIc.trans hI4
 refine zN (zR ?_)
 refine zV (Qd rfl JJ (fun hg=>by exact QH.imm h2.out rfl)) ?_
 refine zF Js ?_
 refine zV (Qd rfl Qy (fun hg=>by exact QH.imm h3.out rfl)) ?_
 refine zF Xt ?_
 refine zV (Qg rfl Zr (fun hg=>by exact Cells.part (pre:=[_,_,_,_]) (vs:=Zm x.note) (post:=[]) (BxI.cells (vs:=zav x) h3) rfl) rfl) ?_
 refine ZK (cap:=[]) (vs:=[_,_,_]) rfl rfl ziP (by repeat (first | exact .cons .here .nil | exact Qv | exact Qq | apply Qp | apply Qo)) (zf9 hti hX.p hX.pl hto (by have h:=hX.m;omega) (hE.msg hf) hf) rfl rfl ?_ (fun pv hpv=>by (repeat (first | with_reducible refine Zv ?_ | with_reducible refine Zj ?_ | refine VV ?_));refine ZC hIc ?_;exact (K3 (zsN hE hprpeer hf hpv.2) hpv.1 (by decide)))
 rintro vv5 I5 L5 hI5 ⟨rfl,cur2,ps2,rfl,hP2,hpl2,hlr⟩
 have hX:=hX.mono hI5;have hE:=hE.mono hI5;have h3:=h3.mono hI5;have h2:=h2.mono hI5;have hIc:=hIc.trans hI5
 refine zN (Qk ?_)
 refine zV (Qd rfl JJ (fun hg=>by exact QH.imm h2.out rfl)) ?_
 refine zV (Yx (us:=[]) (vs:=[_,_]) rfl rfl) ?_
 refine Q8 (b:=bp) (by repeat (first | exact Yj.here | apply Yj.there)) (fun I6 hI6 hb6=>?_)
 have hX:=hX.mono hI6;have hE:=hE.mono hI6;have h3:=h3.mono hI6;have h2:=h2.mono hI6;have hP2:=hP2.mono hI6;have hIc:=hIc.trans hI6
 have hPs:=zc3 hP2 hpl2 hX.pc hb6
 refine QF (cap:=[]) (vs:=[_,_]) rfl rfl zi6 (by exact .cons .here .nil) (zn6 (zcJ.mk hX.q hX.pk rfl) hX.k hX.an (f:=111) (cap:=[ZJ b_2,ZJ b_3]) zpQ (zpo x h2 h3 (hE.msg hf) (hE.msg hf).ok (by have h:=hX.m;omega)) (by rw [Wl hX.pk];exact hX.net) (fun p hp=>by obtain ⟨k,hk,hne,rfl⟩:=zgx hp;exact znH hX.m.2 (by omega) ⟨by omega,by omega⟩ (fun e=>hne e.symm) (hE.msg hf).len) (by rw [List.length_map,hX.q.len];have h8:=zfO pn x.peer x.note;have h9:=hX.sm.1;have h7:=hX.m;omega)) rfl rfl ?_
 rintro vv7 I7 L7 hI7 ⟨rfl,a6,m6,c6,qs6,rfl,hS6⟩
 have hX:=hX.mono hI7;have hE:=hE.mono hI7;have hP2:=hP2.mono hI7;have hPs:=hPs.mono hI7;have hIc:=hIc.trans hI7
 refine Qb ?_
 exact YD (Yn rfl (fun w hw=>.inl ⟨_,I7,_,rfl,hIc,by exact hw,zk7 (zsY hE hprpeer hf hlr) hPs hP2.nt hS6 hX.k (by rw [hX.pl])⟩))
theorem zph {I:Qu}{bc bp:Nat}{qa aa:Option Addr}{pn pc qn qc an ac:Nat}{cur:List Value}{ps:List Pe}{qs:List Pk}{ks:List (Int×Int)}(hX:zlb I pn pc qa qn qc aa an ac cur ps qs ks)(x:Ev)(_hE:EvM I x):KA Tryz.prog 47 [ZJ bc,.agg (zav x).toArray] I [(bc,.cells #[.slice (some ⟨bp,0,none⟩) pn pc,.slice qa qn qc,.slice aa an ac] 108 (0,0)),(bp,.cells (cur).toArray 59 (0,0))] (zpT bc bp pn pc aa an ac ks (Xh (Vi ps qs ks) (YK x))) (zpn (Xh (Vi ps qs ks) (YK x))):=by
 intro g H w hw
 refine qe Tryz.func47 Tryz.ntmps47 hw ?_
 have hIc:=zvV I
 refine zR ?_
 refine Zf rfl rfl rfl (fun b_2=>?_)
 refine Zf rfl rfl rfl (fun b_3=>?_)
 refine Qb ?_
 refine QQ .here (fun I1 hI1 hb1=>?_)
 have hX:=hX.mono hI1;have hIc:=hIc.trans hI1
 have h3:=BxI.of hb1
 refine QQ .here (fun I2 hI2 hb2=>?_)
 have hX:=hX.mono hI2;have h3:=h3.mono hI2;have hIc:=hIc.trans hI2
 have h2:=BxI.of hb2
 refine Qc (zR ?_)
 refine zV (Qd rfl JJ (fun hg=>by exact QH.imm h2.out rfl)) ?_
 refine zF Js ?_
 refine zV (Qd rfl Qy (fun hg=>by exact QH.imm h3.out rfl)) ?_
 refine ZK (cap:=[]) (vs:=[_,_]) rfl rfl zeS (by repeat (first | exact .cons .here .nil | exact Qv | exact Qq | apply Qp | apply Qo)) (zeo x.peer) rfl rfl ?_ (fun pv hpv=>by (repeat (first | with_reducible refine Zv ?_ | with_reducible refine Zj ?_ | refine VV ?_));refine ZC hIc ?_;exact (K3 (zjc (fun h9=>by have h8:=WZ.1 h9.1;rw [hX.pl] at h8;exact hpv.2 h8)) hpv.1 (by decide)))
 rintro vv3 I3 L3 hI3 ⟨rfl,rfl,rfl,hp1peer,hp2peer⟩
 have hX:=hX.mono hI3;have h3:=h3.mono hI3;have h2:=h2.mono hI3;have hIc:=hIc.trans hI3
 have hprpeer:0≤x.peer∧x.peer<(ps.length:Int):=by rw [hX.pl];exact ⟨hp1peer,hp2peer⟩
 refine zN (zR ?_)
 refine zV (Qd rfl JJ (fun hg=>by exact QH.imm h2.out rfl)) ?_
 refine zF zcl ?_
 refine zV (Qd rfl Qy (fun hg=>by exact QH.imm h3.out rfl)) ?_
 refine ZK (cap:=[]) (vs:=[_,_]) rfl rfl zeS (by repeat (first | exact .cons .here .nil | exact Qv | exact Qq | apply Qp | apply Qo)) (zeo x.to_) rfl rfl ?_ (fun pv hpv=>by (repeat (first | with_reducible refine Zv ?_ | with_reducible refine Zj ?_ | refine VV ?_));refine ZC hIc ?_;exact (K3 (zjc (fun h9=>by have h8:=WZ.1 h9.2.1;rw [hX.pl] at h8;exact hpv.2 h8)) hpv.1 (by decide)))
 rintro vv4 I4 L4 hI4 ⟨rfl,rfl,rfl,hp1to_,hp2to_⟩
 have hX:=hX.mono hI4;have h3:=h3.mono hI4;have h2:=h2.mono hI4;have hIc:=hIc.trans hI4
 have hprto_:0≤x.to_∧x.to_<(ps.length:Int):=by rw [hX.pl];exact ⟨hp1to_,hp2to_⟩
 refine zN (zR ?_)
 refine zF Js ?_
 refine zV (Qd rfl Qy (fun hg=>by exact QH.imm h3.out rfl)) ?_
 refine zF zcl ?_
 refine zV (Qd rfl Qy (fun hg=>by exact QH.imm h3.out rfl)) ?_
 refine zC ?_
 refine ZK (cap:=[]) (vs:=[_,_]) rfl rfl JK .nil (K1 I4 (x.peer != x.to_) 1) rfl rfl ?_ (fun pv hpv=>by (repeat (first | with_reducible refine Zv ?_ | with_reducible refine Zj ?_ | refine VV ?_));refine ZC hIc ?_;exact (K3 (zjc (fun h9=>h9.2.2 (by simpa using hpv.2))) hpv.1 (by decide)))
 rintro vv5 I5 L5 hI5 ⟨rfl,rfl,rfl,hne0⟩
 have hX:=hX.mono hI5;have h3:=h3.mono hI5;have h2:=h2.mono hI5;have hIc:=hIc.trans hI5
 have hne:x.peer≠x.to_:=by simpa using hne0
 have hplx:=hX.pl
 obtain ⟨pe,hpe⟩:∃ y,ps[x.peer.toNat]? =some y:=⟨_,List.getElem?_eq_getElem (by omega)⟩
 have hpm:=List.mem_of_getElem? hpe
 have hvv:=Jl (hX.p.ok pe hpm)
 refine zN (Qk ?_)
 refine zV (Qd rfl JJ (fun hg=>by exact QH.imm h2.out rfl)) ?_
 refine zV (Yx (us:=[]) (vs:=[_,_]) rfl rfl) ?_
 refine Q8 (b:=bp) (by repeat (first | exact Yj.here | apply Yj.there)) (fun I6 hI6 hb6=>?_)
 have hX:=hX.mono hI6;have h3:=h3.mono hI6;have h2:=h2.mono hI6;have hIc:=hIc.trans hI6
 have hPs:=zc3 hX.p hX.pl hX.pc hb6
 refine QF (cap:=[]) (vs:=[_,_]) rfl rfl zi6 (by exact .cons .here .nil) (zn6 (zcJ.mk hX.q hX.pk rfl) hX.k hX.an (f:=112) (cap:=[ZJ b_2,ZJ b_3]) zoW (zo3 x h2 h3 hPs (by omega) hpe (hX.p.nt pe hpm) hvv.2.1 (by have h:=hX.m;omega) (by have h:=hX.sm.2 pe hpm;omega)) (by rw [Wl hX.pk];exact hX.net) (fun p hp=>by obtain ⟨y,hy,rfl⟩:=List.mem_map.1 hp;exact znH hX.m.2 (by omega) (by omega) hne ((hX.p.nt pe hpm).m y hy (hvv.2.1 y hy)).len) (by rw [List.length_map,List.length_map,hX.q.len,(hX.p.nt pe hpm).sl.len];exact hX.sm.2 pe hpm)) rfl rfl ?_
 rintro vv7 I7 L7 hI7 ⟨rfl,a6,m6,c6,qs6,rfl,hS6⟩
 have hX:=hX.mono hI7;have hPs:=hPs.mono hI7;have hIc:=hIc.trans hI7
 refine Qb ?_
 exact YD (Yn rfl (fun w hw=>.inl ⟨_,I7,_,rfl,hIc,by exact hw,zk7 (zrI hprpeer hprto_ hne hpe) hPs hX.p.nt hS6 hX.k rfl⟩))
theorem zg8 {I:Qu}{bc bp:Nat}{qa aa:Option Addr}{pn pc qn qc an ac:Nat}{cur:List Value}{ps:List Pe}{qs:List Pk}{ks:List (Int×Int)}(hX:zlb I pn pc qa qn qc aa an ac cur ps qs ks)(x:Ev):KA Tryz.prog 48 [ZJ bc,.agg (zav x).toArray] I [(bc,.cells #[.slice (some ⟨bp,0,none⟩) pn pc,.slice qa qn qc,.slice aa an ac] 108 (0,0)),(bp,.cells (cur).toArray 59 (0,0))] (zpT bc bp pn pc aa an ac ks (zbc (Vi ps qs ks) (YK x))) (zpn (zbc (Vi ps qs ks) (YK x))):=by
 have hm:=hX.m;have hs:=hX.sm.1
 refine KA.frz (ziA hX.p hX.pl (by omega) hX.q (by omega) hX.pk hX.k hX.an x hX.bad hX.dl (zpb hX.net)) fun v I' L' hI h=>?_
 obtain ⟨rfl,h0,cur',ps',a,m,c,qs',rfl,hP',hpl',hS',hsub,e⟩:=h
 exact ⟨_,bp,_,.there .here,fun I2 h2 hb=>⟨rfl,h0,a,m,c,ps',qs',rfl,⟨zc3 (hP'.mono h2) hpl' hX.pc hb,(hP'.mono h2).nt,hS'.mono h2,fun q hq=>(hX.pk q (hsub q hq)).mono (hI.trans h2),hX.k.mono (hI.trans h2)⟩,e.symm⟩⟩
theorem zqt {I:Qu}{bc bp:Nat}{qa aa:Option Addr}{pn pc qn qc an ac:Nat}{cur:List Value}{ps:List Pe}{qs:List Pk}{ks:List (Int×Int)}(hX:zlb I pn pc qa qn qc aa an ac cur ps qs ks)(x:Ev):KA Tryz.prog 49 [ZJ bc,.agg (zav x).toArray] I [(bc,.cells #[.slice (some ⟨bp,0,none⟩) pn pc,.slice qa qn qc,.slice aa an ac] 108 (0,0)),(bp,.cells (cur).toArray 59 (0,0))] (zpT bc bp pn pc aa an ac ks (zbl (Vi ps qs ks) (YK x))) (zpn (zbl (Vi ps qs ks) (YK x))):=by
 have hm:=hX.m;have hs:=hX.sm.1
 refine KA.frz (((ztL hX.q (by omega) hX.k hX.an x).wide [(bp,.cells (cur).toArray 59 (0,0))]).mono (fun _ _ _ _ h=>h) fun v hv=>K3 (zr2 hX.pk hv.2) hv.1 hv.2) fun v I' L' hI h=>?_
 obtain ⟨L1,rfl,rfl,h0,a,m,c,rfl,hS'⟩:=h
 exact ⟨_,bp,_,.there .here,fun I2 h2 hb=>⟨rfl,by rw [zoa hX.pk h0],a,m,c,ps,qs.eraseIdx x.at_.toNat,rfl,⟨zc3 (hX.p.mono (hI.trans h2)) hX.pl hX.pc hb,(hX.p.mono (hI.trans h2)).nt,hS'.mono h2,fun q hq=>(hX.pk q (zan q hq)).mono (hI.trans h2),hX.k.mono (hI.trans h2)⟩,by rw [zoa hX.pk h0];rfl⟩⟩
theorem zkd {I:Qu}{bc bp:Nat}{qa aa:Option Addr}{pn pc qn qc an ac:Nat}{cur:List Value}{ps:List Pe}{qs:List Pk}{ks:List (Int×Int)}(hX:zlb I pn pc qa qn qc aa an ac cur ps qs ks)(x:Ev):KA Tryz.prog 50 [ZJ bc,.agg (zav x).toArray] I [(bc,.cells #[.slice (some ⟨bp,0,none⟩) pn pc,.slice qa qn qc,.slice aa an ac] 108 (0,0)),(bp,.cells (cur).toArray 59 (0,0))] (zpT bc bp pn pc aa an ac ks (zbg (Vi ps qs ks) (YK x))) (zpn (zbg (Vi ps qs ks) (YK x))):=by
 have hm:=hX.m;have hs:=hX.sm.1
 refine KA.frz (((zma hX.q (by omega) hX.k hX.an x).wide [(bp,.cells (cur).toArray 59 (0,0))]).mono (fun _ _ _ _ h=>h) fun v hv=>K3 (zr4 hX.pk hv.2) hv.1 hv.2) fun v I' L' hI h=>?_
 obtain ⟨L1,rfl,rfl,h0,a,m,c,rfl,hS'⟩:=h
 exact ⟨_,bp,_,.there .here,fun I2 h2 hb=>⟨rfl,by rw [zoc hX.pk h0],a,m,c,ps,qs++[atP qs ks x.at_],rfl,⟨zc3 (hX.p.mono (hI.trans h2)) hX.pl hX.pc hb,(hX.p.mono (hI.trans h2)).nt,hS'.mono h2,fun q hq=>(List.mem_append.1 hq).elim (fun h=>(hX.pk q h).mono (hI.trans h2)) (fun h=>by rw [List.mem_singleton.1 h];exact (znU hX.pk ks x.at_).mono (hI.trans h2)),hX.k.mono (hI.trans h2)⟩,by rw [zoc hX.pk h0];rfl⟩⟩
end
end Go.Proofs.YtjblkbkmblkgoaaGreat
section
namespace Go.Kn
open Go
section
variable {P:Program} {fn:Func} {R:Ending→World→Prop} {N:Nat} {g:World} {I H:Qu} {loc:Loc} {E:Env}
theorem zgm (h:∀ a w,Ke N [] E a→St g I H loc w→∃ v,(results fn a.tmps).run P w= .ok v w∧R (.returned v) w):At ⟨P,none,N,[],g,H⟩ (bodyPostDIn (FR none) 0 P fn R) .ret E I loc:=fun a w ha hw=>by
 show LeavesIn _ _ _ _ _ _ a.defers .returning w
 rw [ha.defers]
 exact h a w ha hw
end
end Go.Kn
namespace Go.Proofs.YtjblkbkmblkgoaaGreat
open Go Go.Kn Go.Proofs
def evK (f:Nat):Value:=.func (.func f) #[] #[]
def zeN (a b c d e:Nat):List (Int×Nat):=[(1,a),(2,b),(3,c),(4,d),(5,e)]
theorem zpF {a b c d e f:Nat}{k:Int}(h:ZT (zeN a b c d e) k=some f):(k=1∧f=a)∨(k=2∧f=b)∨(k=3∧f=c)∨(k=4∧f=d)∨(k=5∧f=e):=by
 unfold zeN ZT at h
 split at h
 ·
  rename_i e1;cases h;exact .inl ⟨e1.symm,rfl⟩
 ·
  unfold ZT at h
  split at h
  ·
   rename_i e1;cases h;exact .inr (.inl ⟨e1.symm,rfl⟩)
  ·
   unfold ZT at h
   split at h
   ·
    rename_i e1;cases h;exact .inr (.inr (.inl ⟨e1.symm,rfl⟩))
   ·
    unfold ZT at h
    split at h
    ·
     rename_i e1;cases h;exact .inr (.inr (.inr (.inl ⟨e1.symm,rfl⟩)))
    ·
     unfold ZT at h
     split at h
     ·
      rename_i e1;cases h;exact .inr (.inr (.inr (.inr ⟨e1.symm,rfl⟩)))
     ·
      cases h
theorem znc {a b c d e:Nat}{r:Rd}{x:Ev}(h:ZT (zeN a b c d e) x.kind=none):zbk r (YK x)=(1,zeroR):=by
 have h1:∀ k f,(k,f)∈zeN a b c d e→x.kind≠k:=by
  intro k f hm e1
  subst e1
  simp only [zeN,List.mem_cons,Prod.mk.injEq,List.not_mem_nil,or_false] at hm
  unfold zeN at h
  rcases hm with ⟨e1,_⟩ | ⟨e1,_⟩ | ⟨e1,_⟩ | ⟨e1,_⟩ | ⟨e1,_⟩<;>rw [e1] at h<;>simp [ZT] at h
 have k1:¬(YK x).kind=1:=h1 1 a (by simp [zeN])
 have k2:¬(YK x).kind=2:=h1 2 b (by simp [zeN])
 have k3:¬(YK x).kind=3:=h1 3 c (by simp [zeN])
 have k4:¬(YK x).kind=4:=h1 4 d (by simp [zeN])
 have k5:¬(YK x).kind=5:=h1 5 e (by simp [zeN])
 unfold zbk
 rw [if_neg k1,if_neg k2,if_neg k3,if_neg k4,if_neg k5]
theorem zok {r:Rd}{x:Ev}(h:x.kind=1):zbk r (YK x)=KI r (YK x):=if_pos h
theorem zuu {r:Rd}{x:Ev}(h:x.kind=2):zbk r (YK x)=Xh r (YK x):=by
 have e:(YK x).kind=2:=h
 unfold zbk;rw [e];rfl
theorem zpv {r:Rd}{x:Ev}(h:x.kind=3):zbk r (YK x)=zbc r (YK x):=by
 have e:(YK x).kind=3:=h
 unfold zbk;rw [e];rfl
theorem zui {r:Rd}{x:Ev}(h:x.kind=4):zbk r (YK x)=zbl r (YK x):=by
 have e:(YK x).kind=4:=h
 unfold zbk;rw [e];rfl
theorem zuK {r:Rd}{x:Ev}(h:x.kind=5):zbk r (YK x)=zbg r (YK x):=by
 have e:(YK x).kind=5:=h
 unfold zbk;rw [e];rfl
theorem zlH {r:Rd}{x:Ev}(h:(KI r x).1≠0):(KI r x).2=zeroR:=by
 unfold KI at h ⊢
 split
 ·
  rename_i h1
  rw [if_pos h1] at h
  split
  ·
   rename_i h2
   rw [if_pos h2] at h
   split
   ·
    rfl
   ·
    rename_i h3;rw [h3] at h;exact absurd rfl h
  ·
   rfl
 ·
  rfl
theorem zmo {r:Rd}{x:Ev}(h:(Xh r x).1≠0):(Xh r x).2=zeroR:=by
 unfold Xh at h ⊢
 split
 ·
  rename_i h1;rw [if_pos h1] at h;exact absurd rfl h
 ·
  rfl
theorem zoO {r:Rd}{x:Ev}(h:(zbc r x).1≠0):(zbc r x).2=zeroR:=by
 unfold zbc at h ⊢
 split
 ·
  rfl
 ·
  rename_i h1
  rw [if_neg h1] at h
  split
  ·
   rename_i h2;rw [if_pos h2] at h;exact absurd rfl h
  ·
   rename_i h2
   rw [if_neg h2] at h
   split
   ·
    rfl
   ·
    rename_i h3;rw [h3] at h;exact absurd rfl h
theorem zlU {r:Rd}{x:Ev}(h:(zbl r x).1≠0):(zbl r x).2=zeroR:=by
 unfold zbl at h ⊢
 split
 ·
  rfl
 ·
  rename_i h1;rw [if_neg h1] at h;exact absurd rfl h
theorem zmK {r:Rd}{x:Ev}(h:(zbg r x).1≠0):(zbg r x).2=zeroR:=by
 unfold zbg at h ⊢
 split
 ·
  rfl
 ·
  rename_i h1;rw [if_neg h1] at h;exact absurd rfl h
theorem zpc {r:Rd}{x:Ev}(h:(zbk r x).1≠0):zbk r x=((zbk r x).1,zeroR):=by
 have key:(zbk r x).2=zeroR:=by
  unfold zbk at h ⊢
  split
  ·
   rename_i h1;rw [if_pos h1] at h;exact zlH h
  ·
   rename_i h1;rw [if_neg h1] at h
   split
   ·
    rename_i h1;rw [if_pos h1] at h;exact zmo h
   ·
    rename_i h1;rw [if_neg h1] at h
    split
    ·
     rename_i h1;rw [if_pos h1] at h;exact zoO h
    ·
     rename_i h1;rw [if_neg h1] at h
     split
     ·
      rename_i h1;rw [if_pos h1] at h;exact zlU h
     ·
      rename_i h1;rw [if_neg h1] at h
      split
      ·
       rename_i h1;rw [if_pos h1] at h;exact zmK h
      ·
       rfl
 exact Prod.ext rfl key
theorem zqH {v:Value}{n:Nat}{ps:List Pe}{L:Go.Kn.Loc}{e:Nat}(h:Yk e 1 v n (ps.flatMap Wo) L)(hn:ps.length=n)(h0:1≤n):∃ (b c:Nat) (cur:List Value),v= .slice (some ⟨b,0,none⟩) n c∧L=[(b,.cells cur.toArray e (0,0))]∧n≤c∧∀ (i:Nat) (pe:Pe),ps[i]? =some pe→cur[i]? =some (.slice pe.a pe.n pe.c):=by
 rcases h.2 with ⟨_,h1,_⟩ | ⟨b,c,cur,rfl,rfl,h1,_,h3,h4⟩
 ·
  omega
 ·
  refine ⟨b,c,cur.toList,rfl,by simp,h1,fun i pe hi=>?_⟩
  have hlt:=(List.getElem?_eq_some_iff.1 hi).1
  have h5:=zam zdr ps i pe hi 0 _ rfl
  rw [Nat.mul_one,Nat.add_zero,←h4,List.getElem?_take,if_pos (by omega)] at h5
  exact h5
theorem zfB {I:Qu}:RmV I (.agg #[.slice none 0 0,.slice none 0 0,.slice none 0 0]) zeroR:=
 ⟨none,0,0,none,0,0,none,0,0,[],[],rfl,⟨.nil,fun _ h=>(by cases h),.nil,fun _ h=>(by cases h),.nil⟩,rfl⟩
def DoQ (R:Int×Rd)(v:Value)(I':Qu)(L':Go.Kn.Loc):Prop:=L'=[]∧∃ vr,v= .tuple #[vr,.int .i64 R.1]∧RmV I' vr R.2
theorem zkI {I:Qu}{e:Int}:DoQ (e,zeroR) (.tuple #[.agg #[.slice none 0 0,.slice none 0 0,.slice none 0 0],.int .i64 e]) I []:=⟨rfl,_,rfl,zfB⟩
theorem zgC {R R':Int×Rd}{v:Value}{I:Qu}{L:Go.Kn.Loc}(h:DoQ R v I L)(e:R'=R):DoQ R' v I L:=e ▸ h
theorem zrd {r:Rd}{x:Ev}(h:zcL r≠0):doF r x=(zcL r,zeroR):=if_pos h
theorem zaS {r:Rd}{x:Ev}(h:zcL r=0):doF r x=zbk r x:=if_neg (by rw [h];simp)
theorem zpl {I:Qu}{R:Int×Rd}{pa qa aa:Option Addr}{pn pc qn qc an ac:Nat}{ps:List Pe}{qs:List Pk}{ks:List (Int×Int)}(h0:R.1=0)(hR:RmP I pa pn pc qa qn qc aa an ac ps qs ks)(e:Vi ps qs ks=R.2):DoQ R (.tuple #[.agg #[.slice pa pn pc,.slice qa qn qc,.slice aa an ac],.int .i64 0]) I []:=by
 have hk:R.2.ks=ks:=by rw [←e];rfl
 exact ⟨rfl,_,by rw [h0],pa,pn,pc,qa,qn,qc,aa,an,ac,ps,qs,rfl,by rw [hk];exact hR,by rw [hk];exact e⟩
end Go.Proofs.YtjblkbkmblkgoaaGreat
end
namespace Go.Proofs.YtjblkbkmblkgoaaGreat
section
open Go Go.Kn Go.Proofs
theorem zjQ (I:Qu)(bv be:Nat)(v1 v2 v3:Option Addr)(n1 n2 n3 c1 c2 c3:Nat)(e0:Int):zlc Tryz.prog 51 [ZJ bv,ZJ be] I [(be,.cells #[.int .i64 e0] 50 (0,0)),(bv,.cells #[.slice v1 n1 c1,.slice v2 n2 c2,.slice v3 n3 c3] 28 (0,0))] .returning (fun u' I' L'=>settle u'= .returning∧I'=I∧L'=[(be,.cells #[.int .i64 e0] 50 (0,0)),(bv,.cells #[.slice v1 n1 c1,.slice v2 n2 c2,.slice v3 n3 c3] 28 (0,0))]):=by
 refine U5 Tryz.func51 rfl Tryz.ntmps51 rfl rfl (⟨(fun o ho=>by cases ho),fun o ho=>by cases ho⟩) (fun g H=>?_)
 have hIc:=zvV I
 refine zN (QB (zR ?_))
 refine zV (zm3 rfl zge) ?_
 refine zN ?_
 refine zI ?_ ?_<;>intro hc7
 ·
  refine Qk (zA (Qb (Qm ?_)))
  exact YD (Yn rfl (fun w hw=>⟨_,I,_,rfl,zvV _,hw,rfl,rfl,rfl⟩))
 cases hc7
theorem zjL (I:Qu)(bv be:Nat)(e9:Int):zlc Tryz.prog 51 [ZJ bv,ZJ be] I [(be,.cells #[.int .i64 0] 50 (0,0)),(bv,.cells #[.slice none 0 0,.slice none 0 0,.slice none 0 0] 28 (0,0))] (.panicking (pan (.iface 50 (.int .i64 e9)))) (fun u' I' L'=>settle u'= .returning∧I'=I∧L'=[(be,.cells #[.int .i64 e9] 50 (0,0)),(bv,.cells #[.slice none 0 0,.slice none 0 0,.slice none 0 0] 28 (0,0))]):=by
 refine U5 Tryz.func51 rfl Tryz.ntmps51 rfl rfl (⟨(fun o ho=>by cases ho),fun o ho=>by cases ho⟩) (fun g H=>?_)
 have hIc:=zvV I
 refine zN (QB (zR ?_))
 refine zV (zpR rfl zge) ?_
 refine zN ?_
 refine zI ?_ ?_<;>intro hc7
 ·
  cases hc7
 refine zR ?_
 refine zV (zeC rfl zh6) ?_
 refine zE ?_
 refine zE (zN ?_)
 refine zI ?_ ?_<;>intro hc9
 ·
  refine zR (zA (zN (Qk ?_)))
  refine zV (QY (ps:=[]) [_,_,_] zgs rfl rfl) ?_
  refine zM ?_
  refine zh VX ?_
  refine zS X5 ?_
  refine Qb (Qm ?_)
  exact YD (Yn rfl (fun w hw=>⟨_,I,_,rfl,zvV _,hw,rfl,rfl,rfl⟩))
 cases hc9
end
section
open Go Go.Kn Go.Proofs
theorem zj3:AgT Tryz.prog 47 49:=.of (by kernel_rfl)
theorem zcy:QP Tryz.prog 47 0 0:=.of (by kernel_rfl)
theorem zfr:Fun Tryz.prog 16:=.of Tryz.func16 (by kernel_rfl) (by kernel_rfl)
theorem zs3:Fun Tryz.prog 46:=.of Tryz.func46 (by kernel_rfl) (by kernel_rfl)
theorem zsc:Fun Tryz.prog 47:=.of Tryz.func47 (by kernel_rfl) (by kernel_rfl)
theorem zrx:Fun Tryz.prog 48:=.of Tryz.func48 (by kernel_rfl) (by kernel_rfl)
theorem zrw:Fun Tryz.prog 49:=.of Tryz.func49 (by kernel_rfl) (by kernel_rfl)
theorem ztV:Fun Tryz.prog 50:=.of Tryz.func50 (by kernel_rfl) (by kernel_rfl)
theorem zn2:Fun Tryz.prog 51:=.of Tryz.func51 (by kernel_rfl) (by kernel_rfl)
theorem zrH:Fun Tryz.prog 52:=.of Tryz.func52 (by kernel_rfl) (by kernel_rfl)
theorem Jo:MpT Tryz.prog 106 3 102 .nilFunc:=⟨by kernel_rfl,.of (by kernel_rfl)⟩
theorem zqE:PlT Tryz.prog 108 #[(0,3)] (.agg #[(.slice none 0 0),(.slice none 0 0),(.slice none 0 0)]):=⟨.of (by kernel_rfl),by kernel_rfl,fun w=>by kernel_rfl⟩
theorem zqe:SzT Tryz.prog 108 3:=.of (by kernel_rfl)
theorem zrl:SzT Tryz.prog 22 1:=.of (by kernel_rfl)
theorem zsK:Y6 Tryz.prog 108 (.agg #[(.slice none 0 0),(.slice none 0 0),(.slice none 0 0)]):=.of (by kernel_rfl)
theorem zuq {I:Qu}{bc bp:Nat}{qa aa:Option Addr}{pn pc qn qc an ac:Nat}{cur:List Value}{ps:List Pe}{qs:List Pk}{ks:List (Int×Int)}(hX:zlb I pn pc qa qn qc aa an ac cur ps qs ks)(x:Ev)(hE:EvM I x){f:Nat}(h:ZT (zeN 46 47 48 49 50) x.kind=some f):Fun Tryz.prog f∧KA Tryz.prog f [ZJ bc,.agg (zav x).toArray] I [(bc,.cells #[.slice (some ⟨bp,0,none⟩) pn pc,.slice qa qn qc,.slice aa an ac] 108 (0,0)),(bp,.cells (cur).toArray 59 (0,0))] (zpT bc bp pn pc aa an ac ks (zbk (Vi ps qs ks) (YK x))) (zpn (zbk (Vi ps qs ks) (YK x))):=by
 rcases zpF h with ⟨hk,rfl⟩ | ⟨hk,rfl⟩ | ⟨hk,rfl⟩ | ⟨hk,rfl⟩ | ⟨hk,rfl⟩
 ·
  rw [zok hk];exact ⟨zs3,zoI hX x hE⟩
 ·
  rw [zuu hk];exact ⟨zsc,zph hX x hE⟩
 ·
  rw [zpv hk];exact ⟨zrx,zg8 hX x⟩
 ·
  rw [zui hk];exact ⟨zrw,zqt hX x⟩
 rw [zuK hk];exact ⟨ztV,zkd hX x⟩
set_option maxHeartbeats 400000 in
theorem zvr {I:Qu} {pa qa aa:Option Addr} {pn pc qn qc an ac:Nat} {ps:List Pe} {qs:List Pk} {ks:List (Int×Int)} (hR:RmP I pa pn pc qa qn qc aa an ac ps qs ks) (hpn:pn≤100000) (hqn:qn≤100000) (han:an≤100000) (hnn:∀ x∈ps,x.n≤100000) (hdl:∀ q∈qs,q.n≤100000) (hsm:zcL (Vi ps qs ks)=0→qn+24≤4096∧∀ pe∈ps,qn+pe.n≤4096) (x:Ev) (hE:EvM I x):Vh Tryz.prog 12 [.agg #[.slice pa pn pc,.slice qa qn qc,.slice aa an ac],.agg (zav x).toArray] I [] (DoQ (doF (Vi ps qs ks) (YK x))):=by
 intro g H w hw
 refine znC Tryz.func12 rfl Tryz.ntmps12 rfl hw ?_
 have hIc:=zvV I
 have hlp:=hR.pe.len
 have hlq:=hR.q.len
 refine zR ?_
 refine Zf rfl rfl rfl (fun b_2=>?_)
 refine Zf rfl rfl rfl (fun b_3=>?_)
 refine Qs Xi rfl rfl (fun b_4=>?_)
 refine Qs zrr rfl rfl (fun b_5=>?_)
 refine Qb ?_
 refine QQ (.there (.there .here)) (fun I1 hI1 hb1=>?_)
 have hR:=hR.mono hI1;have hE:=hE.mono hI1;have hIc:=hIc.trans hI1
 have h3:=BxI.of hb1
 refine QQ (.there (.there .here)) (fun I2 hI2 hb2=>?_)
 have hR:=hR.mono hI2;have hE:=hE.mono hI2;have h3:=h3.mono hI2;have hIc:=hIc.trans hI2
 have h2:=BxI.of hb2
 refine Qc (Qr (zR ?_))
 refine zV (Qg rfl Vu (fun hg=>by exact BxI.cells (vs:=[_,_,_]) h2) rfl) ?_
 refine QF (cap:=[]) (vs:=[_]) rfl rfl zfr .nil (zkk hR hpn hqn han hnn hdl) rfl rfl ?_
 rintro vv3 I3 L3 hI3 ⟨rfl,rfl⟩
 have hR:=hR.mono hI3;have hE:=hE.mono hI3;have h3:=h3.mono hI3;have h2:=h2.mono hI3;have hIc:=hIc.trans hI3
 refine zA ?_
 refine zN (zR ?_)
 refine zM ?_
 refine zC (zN ?_)
 refine zI ?_ ?_<;>intro hc13
 ·
  have hck:zcL (Vi ps qs ks)≠0:=by simpa using hc13
  refine zR ?_
  refine zV (Qg rfl Vu (fun hg=>by exact Cells.g1) rfl) ?_
  refine zM ?_
  refine zh VX ?_
  refine zS X5 ?_
  refine zN (QE (Qh ?_))
  exact zgm (fun a w ha hw=>⟨_,zeP rfl rfl rfl Vu zaA (by repeat (first | exact zvT | exact Cells.g0 | exact Cells.g1 | exact Cells.g2 | apply zvS)) rfl (by repeat (first | exact zvQ rfl | apply zvP)) a ha w hw,_,I3,[],rfl,hIc,hw.subL Qf,zgC zkI (zrd hck)⟩)
 have hck:zcL (Vi ps qs ks)=0:=by simpa using hc13
 have hck2:=zq5 (by rw [←zdk hR];exact hck)
 refine Qz (Qc (Qr ?_))
 rcases hfd:ZT (zeN 46 47 48 49 50) x.kind with _ | fid
 ·
  refine Qk ?_
  refine Yb rfl rfl (fun r_17=>?_)
  refine (show XO _ _ _ _ _ _ _ ((r_17,Yu (.int .i64) evK ([]:List (Int×Nat)))::_) from ?_)
  refine QI (ek:=Value.int .i64) (ev:=evK) 46 Jo Zh rfl rfl rfl rfl (by repeat (first | exact Upd.here | apply Upd.there | apply Qw)) ?_
  refine QI (ek:=Value.int .i64) (ev:=evK) 47 Jo Zh rfl rfl rfl rfl (by repeat (first | exact Upd.here | apply Upd.there | apply Qw)) ?_
  refine QI (ek:=Value.int .i64) (ev:=evK) 48 Jo Zh rfl rfl rfl rfl (by repeat (first | exact Upd.here | apply Upd.there | apply Qw)) ?_
  refine QI (ek:=Value.int .i64) (ev:=evK) 49 Jo Zh rfl rfl rfl rfl (by repeat (first | exact Upd.here | apply Upd.there | apply Qw)) ?_
  refine QI (ek:=Value.int .i64) (ev:=evK) 50 Jo Zh rfl rfl rfl rfl (by repeat (first | exact Upd.here | apply Upd.there | apply Qw)) ?_
  refine zM ?_
  refine zF zcy ?_
  refine zV (Qd rfl Qy (fun hg=>by exact QH.imm h3.out rfl)) ?_
  refine zV (Z2 (ek:=Value.int .i64) (ev:=evK) (m:=(zeN 46 47 48 49 50)) Jo Zh rfl rfl (fun _=>(by exact Mem.m0))) ?_
  rw [hfd]
  refine zM ?_
  refine zE ?_
  refine zE ?_
  refine zA ?_
  refine zA (zN (Qr (zR ?_)))
  refine zM ?_
  refine zO (zN ?_)
  refine zI ?_ ?_<;>intro hc25
  ·
   refine zR ?_
   refine zV (Qg rfl Vu (fun hg=>by exact Cells.g2) rfl) ?_
   refine zh VX ?_
   refine zS X5 ?_
   refine zN (QE (Qh ?_))
   exact zgm (fun a w ha hw=>⟨_,zeP rfl rfl rfl Vu zaA (by repeat (first | exact zvT | exact Cells.g0 | exact Cells.g1 | exact Cells.g2 | apply zvS)) rfl (by repeat (first | exact zvQ rfl | apply zvP)) a ha w hw,_,I3,[],rfl,hIc,hw.subL Qf,zgC zkI (by rw [zaS hck,znc hfd])⟩)
  cases hc25
 refine Qk ?_
 refine Yb rfl rfl (fun r_17=>?_)
 refine (show XO _ _ _ _ _ _ _ ((r_17,Yu (.int .i64) evK ([]:List (Int×Nat)))::_) from ?_)
 refine QI (ek:=Value.int .i64) (ev:=evK) 46 Jo Zh rfl rfl rfl rfl (by repeat (first | exact Upd.here | apply Upd.there | apply Qw)) ?_
 refine QI (ek:=Value.int .i64) (ev:=evK) 47 Jo Zh rfl rfl rfl rfl (by repeat (first | exact Upd.here | apply Upd.there | apply Qw)) ?_
 refine QI (ek:=Value.int .i64) (ev:=evK) 48 Jo Zh rfl rfl rfl rfl (by repeat (first | exact Upd.here | apply Upd.there | apply Qw)) ?_
 refine QI (ek:=Value.int .i64) (ev:=evK) 49 Jo Zh rfl rfl rfl rfl (by repeat (first | exact Upd.here | apply Upd.there | apply Qw)) ?_
 refine QI (ek:=Value.int .i64) (ev:=evK) 50 Jo Zh rfl rfl rfl rfl (by repeat (first | exact Upd.here | apply Upd.there | apply Qw)) ?_
 refine zM ?_
 refine zF zcy ?_
 refine zV (Qd rfl Qy (fun hg=>by exact QH.imm h3.out rfl)) ?_
 refine zV (Z2 (ek:=Value.int .i64) (ev:=evK) (m:=(zeN 46 47 48 49 50)) Jo Zh rfl rfl (fun _=>(by exact Mem.m0))) ?_
 rw [hfd]
 refine zM ?_
 refine zE ?_
 refine zE ?_
 refine zA ?_
 refine zA (zN (Qr (zR ?_)))
 refine zM ?_
 refine zO (zN ?_)
 refine zI ?_ ?_<;>intro hc25
 ·
  cases hc25
 refine Qz (Qc (zR ?_))
 refine zV (Yx (us:=[]) (vs:=[_,_]) rfl rfl) ?_
 refine zfC (cap:=[ZJ b_4,ZJ b_5]) (vs:=[]) rfl rfl ?_
 refine zN (zR ?_)
 refine zV (Qg rfl Vu (fun hg=>by exact BxI.cells (vs:=[_,_,_]) h2) rfl) ?_
 refine zV (QY (ps:=[(0,_)]) [_,_,_] zqE rfl rfl) ?_
 refine Qs zsK rfl rfl (fun b_9=>?_)
 refine zh zqe ?_
 refine zN (zR ?_)
 refine zF Yg ?_
 refine zV (Qd rfl Vs (fun hg=>by exact QH.imm h2.out rfl)) ?_
 refine QF (cap:=[]) (vs:=[_]) rfl rfl zrH .nil (zjj hR.pe (by omega)) rfl rfl ?_
 rintro vv4 I4 L4 hI4 ⟨rfl,hOc⟩
 have hR:=hR.mono hI4;have hE:=hE.mono hI4;have h3:=h3.mono hI4;have hIc:=hIc.trans hI4
 obtain ⟨bp,pc9,cur,rfl,rfl,hnc9,hat9⟩:=zqH hOc hlp hck2.1.1
 refine zF Yo ?_
 refine zF Yg ?_
 refine zS zrl ?_
 refine zN (Qr ?_)
 have hX:zlb I4 pn pc9 qa qn qc aa an ac cur ps qs ks:=⟨⟨hat9,hR.nt,hck2.2.2.1⟩,hlp,hnc9,hck2.1,hR.q,hR.pk,hR.k,hck2.2.1,hck2.2.2.2,han,hdl,hsm hck⟩
 obtain ⟨hFn,hFc⟩:=zuq (bc:=b_9) (bp:=bp) hX x hE hfd
 refine Qk (zM ?_)
 refine zV (Qg rfl zj3 (fun hg=>by exact BxI.cells (vs:=zav x) h3) rfl) ?_
 refine ZK (cap:=[]) (vs:=[_,_]) rfl rfl hFn (L:=[(b_9,_),(bp,_)]) (by exact .cons (.there .here) (.cons .here .nil)) hFc rfl rfl ?_ (fun pv hpv=>by (repeat (first | with_reducible refine Zv ?_ | with_reducible refine Zj ?_));obtain ⟨rfl,hne9⟩:=hpv;exact zeq (args:=[]) (cap:=[ZJ b_4,ZJ b_5]) zn2 (by exact .cons (.there .here) (.cons (.there .here) .nil)) (zjL I4 b_4 b_5 _) (fun a I' L' w' ha hI hk hs=>by obtain ⟨rfl,rfl⟩:=hk;exact ⟨_,zeP rfl rfl rfl Vu zaA (by repeat (first | exact zvT | exact Cells.g0 | exact Cells.g1 | exact Cells.g2 | apply zvS)) rfl (by repeat (first | exact zvQ rfl | apply zvP)) a ha w' hs,_,_,[],rfl,hIc,hs.subL Qf,zgC zkI (by rw [zaS hck];exact zpc hne9)⟩))
 rintro vv5 I5 L5 hI5 ⟨rfl,hA0,a9,m9,c9,ps9,qs9,rfl,hR9,he9⟩
 have hIc:=hIc.trans hI5
 refine zN (zR ?_)
 refine zF Yo ?_
 refine zV (Qg rfl Vu (fun hg=>by exact Cells.g0) rfl) ?_
 refine zh VX ?_
 refine zS X5 ?_
 refine zN (QE ?_)
 exact zks (args:=[]) (cap:=[ZJ b_4,ZJ b_5]) zn2 (by exact .cons (.there (.there .here)) (.cons (.there (.there .here)) .nil)) (zjQ I5 b_4 b_5 _ _ _ _ _ _ _ _ _ _) (fun a I' L' w' ha hI hk hs=>by obtain ⟨rfl,rfl⟩:=hk;exact ⟨_,zeP rfl rfl rfl Vu zaA (by repeat (first | exact zvT | exact Cells.g0 | exact Cells.g1 | exact Cells.g2 | apply zvS)) rfl (by repeat (first | exact zvQ rfl | apply zvP)) a ha w' hs,_,_,[],rfl,hIc,hs.subL Qf,zgC (zpl hA0 hR9 he9) (zaS hck)⟩)
end
end Go.Proofs.YtjblkbkmblkgoaaGreat
namespace Go.Kn
section
open Go
section
variable {α β:Type} {ek:α→Value} {ev:β→Value}
end
section
variable {C:Cx} {Q:Exit→Act→World→Prop} {E E':Env} {I I':Qu} {loc loc' L R:Loc} {ops:Array Oper} {rest:List Oper} {S:GS}
variable {dst:Option Tmp} {d:Nat} {ty:TypeId} {pos:String} {af:Array Edge} {gd:Option (Nat×Bool)} {x y z:Operand}
variable {α β:Type} [DecidableEq α] {ek:α→Value} {ev:β→Value} {m:List (α×β)} {a:α} {q q':Nat}
theorem zhV {m:List (α×β)}{a:α}:∀ k,ZT m a=none→zd9 m a k=none:=by
 intro k h
 have:=zab m a k
 rw [h] at this
 cases hi:zd9 m a k with
 | none=>rfl
 | some p=>rw [hi] at this;cases this
end
end
end Go.Kn
section
namespace Go.Kn
open Go
section
variable {C:Cx} {S:GS} {E:Env} {I:Qu} {loc:Loc} {dst:Option Tmp} {ty:TypeId} {pos:String} {af:Array Edge} {gd:Option (Nat×Bool)} {x y:Operand} {α β:Type} [DecidableEq α] {ek:α→Value} {ev:β→Value} {m:List (α×β)} {a:α}
theorem Ui {t k e r:Nat}(d:β)(hT:MpT C.P t k e (ev d))(hK:J5 C.P k ek)(hx:QG S E x=some (.map (some r)))(hy:QG S E y=some (ek a))(hm:Yv S=true→Mem I loc r (Yu ek ev m)):
  Q5 C S E I loc ⟨dst,.lookup t x y false,ty,pos,af,gd⟩ (ev ((ZT m a).getD d)):=by
 have h:=Wz (C:=C) (S:=S) (dst:=dst) (ty:=ty) (pos:=pos) (af:=af) (gd:=gd) hT hK hx hy hm
 have e:((ZT m a).map ev).getD (ev d)=ev ((ZT m a).getD d):=by cases ZT m a<;>rfl
 rwa [e] at h
end
end Go.Kn
namespace Go.Proofs.YtjblkbkmblkgoaaGreat
open Go Go.Kn Go.Proofs
section
variable {α:Type} (num:Nt→Int) (prt:Nt→α) (kind:Int) (chk:List α→Int) (d:α)
def za8 (m:List (Int×α))(x:Nt):List (Int×α):=if (x.kind==kind&& !(ZT m (num x)).isSome)=true then m++[(num x,prt x)] else m
def Ys (xs:List Nt):List (Int×α):=xs.foldl (za8 num prt kind) []
def zhi (m:List (Int×α))(l:List α)(k:Int):List α:=if (chk (l++[(ZT m k).getD d])==0)=true then l++[(ZT m k).getD d] else l
def zgu (m:List (Int×α))(ns:List Int):List α:=ns.foldl (zhi chk d m) []
def zdP (xs:List Nt):List α:=zgu chk d (Ys num prt kind xs) (zbj ((Ys num prt kind xs).map (·.1)))
variable {num prt kind chk d}
theorem Zk {xs:List Nt}{k:Nat}{x:Nt}(hx:xs[k]? =some x):Ys num prt kind (xs.take (k+1))=za8 num prt kind (Ys num prt kind (xs.take k)) x:=by
 unfold Ys
 rw [ZA hx,List.foldl_append];rfl
theorem Xq {m:List (Int×α)}{x:Nt}(hg:ZT m (num x)=none)(hk:(x.kind==kind)=true):za8 num prt kind m x=JC m (num x) (prt x):=by
 unfold za8
 rw [hg,hk,if_pos (by rfl),zbQ _ _ _ 0 (zhV 0 hg)]
theorem Jh {m:List (Int×α)}{x:Nt}(hg:ZT m (num x)=none)(hk:(x.kind==kind)=true):(za8 num prt kind m x).map (·.1)=m.map (·.1)++[num x]:=by
 unfold za8
 rw [hg,hk,if_pos (by rfl),List.map_append];rfl
theorem zco {m:List (Int×α)}{x:Nt}(hk:(x.kind==kind)=false):za8 num prt kind m x=m:=by
 unfold za8
 rw [hk];rfl
theorem Xm {m:List (Int×α)}{x:Nt}{y:α}(hg:ZT m (num x)=some y):za8 num prt kind m x=m:=by
 unfold za8
 rw [hg,if_neg (by simp)]
theorem Jg {m:List (Int×α)}{ns:List Int}{j:Nat}{n:Int}(hn:ns[j]? =some n):zgu chk d m (ns.take (j+1))=zhi chk d m (zgu chk d m (ns.take j)) n:=by
 unfold zgu
 rw [ZA hn,List.foldl_append];rfl
theorem zmp {xs:List Nt}:∀ p∈Ys num prt kind xs,∃ x∈xs,p=(num x,prt x):=by
 have key:∀ (ys:List Nt) (m:List (Int×α)),(∀ y∈ys,y∈xs)→(∀ p∈m,∃ x∈xs,p=(num x,prt x))→∀ p∈ys.foldl (za8 num prt kind) m,∃ x∈xs,p=(num x,prt x):=by
  intro ys
  induction ys with
  | nil=>intro m _ h;exact h
  | cons y ys ih=>
   intro m hy h
   rw [List.foldl_cons]
   refine ih _ (fun z hz=>hy z (List.mem_cons_of_mem _ hz)) fun p hp=>?_
   unfold za8 at hp
   split at hp
   ·
    rcases List.mem_append.1 hp with hp | hp
    ·
     exact h p hp
    ·
     rw [List.mem_singleton] at hp;exact ⟨y,hy y (List.mem_cons_self ..),hp⟩
   ·
    exact h p hp
 exact key xs [] (fun _ h=>h) (fun _ h=>by cases h)
theorem zpi {m:List (Int×α)}{k:Int}{v:α}(h:ZT m k=some v):(k,v)∈m:=by
 induction m with
 | nil=>cases h
 | cons p m ih=>
  unfold ZT at h
  split at h
  ·
   rename_i e;cases h;subst e;exact List.mem_cons_self ..
  ·
   exact List.mem_cons_of_mem _ (ih h)
theorem zjO {xs:List Nt}{k:Int}:(ZT (Ys num prt kind xs) k).getD d=d∨∃ x∈xs,(ZT (Ys num prt kind xs) k).getD d=prt x:=by
 cases h:ZT (Ys num prt kind xs) k with
 | none=>exact .inl rfl
 | some v=>
  obtain ⟨x,hx,e⟩:=zmp _ (zpi h)
  exact .inr ⟨x,hx,congrArg Prod.snd e⟩
theorem zfR {xs:List Nt}{ns:List Int}:∀ p∈zgu chk d (Ys num prt kind xs) ns,p=d∨∃ x∈xs,p=prt x:=by
 have key:∀ (ms:List Int) (l:List α),(∀ p∈l,p=d∨∃ x∈xs,p=prt x)→∀ p∈ms.foldl (zhi chk d (Ys num prt kind xs)) l,p=d∨∃ x∈xs,p=prt x:=by
  intro ms
  induction ms with
  | nil=>intro l h;exact h
  | cons k ms ih=>
   intro l h
   rw [List.foldl_cons]
   refine ih _ fun p hp=>?_
   unfold zhi at hp
   split at hp
   ·
    rcases List.mem_append.1 hp with hp | hp
    ·
     exact h p hp
    ·
     rw [List.mem_singleton] at hp;subst hp;exact zjO
   ·
    exact h p hp
 exact key ns [] (fun _ h=>by cases h)
theorem VD {xs:List Nt}:(Ys num prt kind xs).length≤xs.length:=by
 have key:∀ (ys:List Nt) (m:List (Int×α)),(ys.foldl (za8 num prt kind) m).length≤m.length+ys.length:=by
  intro ys
  induction ys with
  | nil=>intro m;simp
  | cons y ys ih=>
   intro m
   rw [List.foldl_cons]
   refine Nat.le_trans (ih _) ?_
   unfold za8
   split
   ·
    simp;omega
   ·
    simp
 have h:=key xs []
 rw [List.length_nil,Nat.zero_add] at h
 exact h
end
end Go.Proofs.YtjblkbkmblkgoaaGreat
end
namespace Go.Proofs.YtjblkbkmblkgoaaGreat
section
open Go Go.Kn Go.Proofs
theorem WA:SlT Tryz.prog 63 41 5:=.of (by kernel_rfl)
theorem zaQ:SzT Tryz.prog 41 5:=.of (by kernel_rfl)
theorem KR:SzT Tryz.prog 43 11:=.of (by kernel_rfl)
theorem zem:Y6 Tryz.prog 41 (.agg #[(.int .i64 0),(.int .i64 0),(.int .i64 0),(.int .i64 0),(.int .i64 0)]):=.of (by kernel_rfl)
theorem zau:Y6 Tryz.prog 43 (.agg #[(.int .i64 0),(.int .i64 0),(.int .i64 0),(.int .i64 0),(.int .i64 0),(.int .i64 0),(.string ⟨#[]⟩),(.string ⟨#[]⟩),(.int .i64 0),(.int .i64 0),(.int .i64 0)]):=.of (by kernel_rfl)
theorem zov (I:Qu)(x:Nt):Ya Tryz.prog 67 [JH x] I (.tuple #[Ji (x.lm),.int .i64 x.lm.no]):=by
 intro g H w hw
 refine qe Tryz.func67 Tryz.ntmps67 hw ?_
 have hIc:=zvV I
 refine zR ?_
 refine Zf rfl rfl rfl (fun b_1=>?_)
 refine Qs zel rfl rfl (fun b_2=>?_)
 refine zA (Qb ?_)
 refine QQ (.there .here) (fun I1 hI1 hb1=>?_)
 have hIc:=hIc.trans hI1
 have h1:=BxI.of hb1
 refine Qc (Qr ?_)
 have hD:=zvV I1
 refine ZO ?_
 refine Q3 I1 [] mixed ?_
 refine zT 0 rfl (Qa rfl VB) hD ?_
 refine zT 1 rfl (Qg rfl K2 (fun hg=>by exact zee (BxI.cells (vs:=Zm x) h1)) rfl) hD ?_
 refine zT 2 rfl (Qa rfl VB) hD ?_
 refine zT 3 rfl (Qa rfl Jz) hD ?_
 refine zT 4 rfl (Qd rfl Qy (fun hg=>by exact QH.imm h1.out rfl)) hD ?_
 refine qd 5 rfl ?_
 refine zh zaX ?_
 refine Qb ?_
 refine zD hD ?_
 refine zT 6 rfl (QD rfl) hD ?_
 refine Qn (by kernel_rfl) ?_
 refine QA ?_
 refine Qc (QE ?_)
 exact ZZ rfl rfl rfl K2 zvT rfl (fun w hw=>⟨by rfl,(hw.mono hIc).subL Qf⟩)
theorem zh3 (I:Qu)(av:Option Addr)(n c:Nat)(hc:n≤c):Ya Tryz.prog 136 [.slice av n c] I (.slice av n n):=by
 intro g H w hw
 refine qe Tryz.func136 Tryz.ntmps136 hw ?_
 refine zR (zA ?_)
 refine zN (zR ?_)
 refine zM ?_
 refine zM ?_
 refine zQ YC ?_
 refine zM ?_
 refine zQ YC ?_
 refine zV (Zz rfl rfl rfl YC (fun hg=>by omega)) ?_
 refine zA (zN (QE ?_))
 exact QS rfl rfl (fun w hw=>⟨by rfl,hw⟩)
theorem zqi (I:Qu)(x:Nt):Ya Tryz.prog 69 [JH x] I (.tuple #[L.encA (x.ls),.int .i64 x.ls.no]):=by
 intro g H w hw
 refine qe Tryz.func69 Tryz.ntmps69 hw ?_
 have hIc:=zvV I
 refine zR ?_
 refine Zf rfl rfl rfl (fun b_1=>?_)
 refine Qs zem rfl rfl (fun b_2=>?_)
 refine zA (Qb ?_)
 refine QQ (.there .here) (fun I1 hI1 hb1=>?_)
 have hIc:=hIc.trans hI1
 have h1:=BxI.of hb1
 refine Qc (Qr ?_)
 have hD:=zvV I1
 refine ZO ?_
 refine Q3 I1 [] mixed ?_
 refine zT 0 rfl (Qa rfl JY) hD ?_
 refine zT 1 rfl (Qg rfl KE (fun hg=>by exact zg2 (BxI.cells (vs:=Zm x) h1)) rfl) hD ?_
 refine zT 2 rfl (Qa rfl JY) hD ?_
 refine zT 3 rfl (Qa rfl Um) hD ?_
 refine zT 4 rfl (Qd rfl Qy (fun hg=>by exact QH.imm h1.out rfl)) hD ?_
 refine qd 5 rfl ?_
 refine zh zaQ ?_
 refine Qb ?_
 refine zD hD ?_
 refine zT 6 rfl (QD rfl) hD ?_
 refine Qn (by kernel_rfl) ?_
 refine QA ?_
 refine Qc (QE ?_)
 exact ZZ rfl rfl rfl KE zvT rfl (fun w hw=>⟨by rfl,(hw.mono hIc).subL Qf⟩)
theorem zhs (I:Qu)(av:Option Addr)(n c:Nat)(hc:n≤c):Ya Tryz.prog 137 [.slice av n c] I (.slice av n n):=by
 intro g H w hw
 refine qe Tryz.func137 Tryz.ntmps137 hw ?_
 refine zR (zA ?_)
 refine zN (zR ?_)
 refine zM ?_
 refine zM ?_
 refine zQ WA ?_
 refine zM ?_
 refine zQ WA ?_
 refine zV (Zz rfl rfl rfl WA (fun hg=>by omega)) ?_
 refine zA (zN (QE ?_))
 exact QS rfl rfl (fun w hw=>⟨by rfl,hw⟩)
theorem zo9 (I:Qu)(x:Nt):Ya Tryz.prog 71 [JH x] I (.tuple #[Uo (x.pt),.int .i64 x.pt.id]):=by
 intro g H w hw
 refine qe Tryz.func71 Tryz.ntmps71 hw ?_
 have hIc:=zvV I
 refine zR ?_
 refine Zf rfl rfl rfl (fun b_1=>?_)
 refine Qs za9 rfl rfl (fun b_2=>?_)
 refine zA (Qb ?_)
 refine QQ (.there .here) (fun I1 hI1 hb1=>?_)
 have hIc:=hIc.trans hI1
 have h1:=BxI.of hb1
 refine Qc (Qr ?_)
 have hD:=zvV I1
 refine ZO ?_
 refine Q3 I1 [] mixed ?_
 refine zT 0 rfl (Qa rfl Vk) hD ?_
 refine zT 1 rfl (Qg rfl JS (fun hg=>by exact zgP (BxI.cells (vs:=Zm x) h1)) rfl) hD ?_
 refine zT 2 rfl (Qa rfl Vk) hD ?_
 refine zT 3 rfl (Qa rfl Yz) hD ?_
 refine zT 4 rfl (Qd rfl Qy (fun hg=>by exact QH.imm h1.out rfl)) hD ?_
 refine qd 5 rfl ?_
 refine zh K5 ?_
 refine Qb ?_
 refine zD hD ?_
 refine zT 6 rfl (QD rfl) hD ?_
 refine Qn (by kernel_rfl) ?_
 refine QA ?_
 refine Qc (QE ?_)
 exact ZZ rfl rfl rfl JS zvT rfl (fun w hw=>⟨by rfl,(hw.mono hIc).subL Qf⟩)
theorem zkX (I:Qu)(av:Option Addr)(n c:Nat)(hc:n≤c):Ya Tryz.prog 138 [.slice av n c] I (.slice av n n):=by
 intro g H w hw
 refine qe Tryz.func138 Tryz.ntmps138 hw ?_
 refine zR (zA ?_)
 refine zN (zR ?_)
 refine zM ?_
 refine zM ?_
 refine zQ J0 ?_
 refine zM ?_
 refine zQ J0 ?_
 refine zV (Zz rfl rfl rfl J0 (fun hg=>by omega)) ?_
 refine zA (zN (QE ?_))
 exact QS rfl rfl (fun w hw=>⟨by rfl,hw⟩)
theorem zqV (I:Qu)(x:Nt):Ya Tryz.prog 73 [JH x] I (.tuple #[S.encA (x.rt),.int .i64 x.rt.no]):=by
 intro g H w hw
 refine qe Tryz.func73 Tryz.ntmps73 hw ?_
 have hIc:=zvV I
 refine zR ?_
 refine Zf rfl rfl rfl (fun b_1=>?_)
 refine Qs zau rfl rfl (fun b_2=>?_)
 refine zA (Qb ?_)
 refine QQ (.there .here) (fun I1 hI1 hb1=>?_)
 have hIc:=hIc.trans hI1
 have h1:=BxI.of hb1
 refine Qc (Qr ?_)
 have hD:=zvV I1
 refine ZO ?_
 refine Q3 I1 [] mixed ?_
 refine zT 0 rfl (Qa rfl YI) hD ?_
 refine zT 1 rfl (Qg rfl Vz (fun hg=>by exact zeW (BxI.cells (vs:=Zm x) h1)) rfl) hD ?_
 refine zT 2 rfl (Qa rfl YI) hD ?_
 refine zT 3 rfl (Qa rfl VE) hD ?_
 refine zT 4 rfl (Qd rfl Qy (fun hg=>by exact QH.imm h1.out rfl)) hD ?_
 refine qd 5 rfl ?_
 refine zh KR ?_
 refine Qb ?_
 refine zD hD ?_
 refine zT 6 rfl (QD rfl) hD ?_
 refine Qn (by kernel_rfl) ?_
 refine QA ?_
 refine Qc (QE ?_)
 exact ZZ rfl rfl rfl Vz zvT rfl (fun w hw=>⟨by rfl,(hw.mono hIc).subL Qf⟩)
theorem ziv (I:Qu)(av:Option Addr)(n c:Nat)(hc:n≤c):Ya Tryz.prog 139 [.slice av n c] I (.slice av n n):=by
 intro g H w hw
 refine qe Tryz.func139 Tryz.ntmps139 hw ?_
 refine zR (zA ?_)
 refine zN (zR ?_)
 refine zM ?_
 refine zM ?_
 refine zQ YO ?_
 refine zM ?_
 refine zQ YO ?_
 refine zV (Zz rfl rfl rfl YO (fun hg=>by omega)) ?_
 refine zA (zN (QE ?_))
 exact QS rfl rfl (fun w hw=>⟨by rfl,hw⟩)
end
section
open Go Go.Kn Go.Proofs
def zrf (ps:List Pt):List Int:=ps.map (·.id)
def lsQ (ps:List Pt)(i:Nat):Bool:= !((decide ((i:Int)>0)&&decide ((ps.getD i JF).id≤(ps.getD ((i:Int)-1).toNat JF).id))||(ps.getD i JF).needs.any (fun n=> !zhm (ps.take i) n))
theorem zn7 {ps:List Pt}{k:Nat}{p:Pt}{l:Int}{s:List (Int×Bool)}(hp:ps[k]? =some p)(h1:1≤p.id)(hl:zha (zrf ps) k l)(hs:∀ x,zlY s x=zhm (ps.take k) x):lsQ ps k= !(decide (p.id≤l)||p.needs.any fun x=> !zlY s x):=by
 unfold lsQ
 rw [VL hp]
 simp only [hs]
 congr 2
 cases k with
 | zero=>
  rw [hl.1 rfl,Bool.eq_iff_iff];simp;omega
 | succ k=>
  have hk:=(List.getElem?_eq_some_iff.1 hp).1
  have hy:ps[k]? =some (ps[k]'(by omega)):=List.getElem?_eq_getElem _
  have e:=hl.2 (ps[k]'(by omega)).id (by rw [Nat.add_sub_cancel];simp [zrf,hy]) (by omega)
  rw [show (((k+1:Nat):Int)-1).toNat=k by omega,VL hy,←e,Bool.eq_iff_iff];simp
theorem zgQ {ps:List Pt}{k:Nat}{p:Pt}(hp:ps[k]? =some p):zha (zrf ps) (k+1) p.id:=zbz (by simp [zrf,hp])
theorem zm5 {ps:List Pt}{k:Nat}{p:Pt}(hp:ps[k]? =some p)(x:Int):zhm (ps.take (k+1)) x=(decide (p.id=x)||zhm (ps.take k) x):=by
 unfold zhm
 rw [Wm hp,List.any_append,Bool.eq_iff_iff]
 simp [or_comm]
theorem zlt {ps:List Pt}{k:Nat}{n:Int}(h:zhm (ps.take k) n=true):zhm ps n=true:=by
 obtain ⟨q,hq,e⟩:=XC.1 h
 exact XC.2 ⟨q,List.mem_of_mem_take hq,e⟩
theorem zif {ps:List Pt}(h0:orF (ps.map KG)=0):(List.range ps.length).all (lsQ ps)=lsB ps:=by
 rw [Bool.eq_iff_iff]
 constructor
 ·
  intro h
  unfold lsB
  rw [List.all_eq_true] at h ⊢
  intro i hi
  have:=h i hi
  unfold lsQ at this
  unfold lsP
  simp only [Bool.not_eq_true',Bool.or_eq_false_iff] at this ⊢
  refine ⟨this.1,?_⟩
  have h2:=this.2
  rw [List.any_eq_false] at h2 ⊢
  intro n hn hc
  refine h2 n hn ?_
  rw [Bool.not_eq_true'] at hc ⊢
  cases hh:zhm (ps.take i) n with
  | false=>rfl
  | true=>rw [zlt hh] at hc;cases hc
 ·
  intro h
  have hL:=znO h0 h
  unfold lsB at h
  rw [List.all_eq_true] at h ⊢
  intro i hi
  have:=h i hi
  unfold lsP at this
  unfold lsQ
  simp only [Bool.not_eq_true',Bool.or_eq_false_iff] at this ⊢
  refine ⟨this.1,?_⟩
  rw [List.any_eq_false]
  intro n hn hc
  have hk:ps[i]? =some (ps.getD i JF):=zae rfl (List.mem_range.1 hi)
  obtain ⟨q,hq,e⟩:=hL.before hk hn
  rw [XC.2 ⟨q,hq,e⟩] at hc
  cases hc
/-! ### Inserts and removes of a sign -/
def Jw (k:Int)(ps:List Pt)(s:Int):List Int:=(ps.filter fun q=>q.kind==k&&q.sign==s).map (·.id)
theorem Ue {c:Int}{ps:List Pt}{k:Nat}{p:Pt}(hp:ps[k]? =some p)(s:Int):Jw c (ps.take (k+1)) s=Jw c (ps.take k) s++(if p.kind=c∧p.sign=s then [p.id] else []):=by
 unfold Jw
 rw [Wm hp,List.filter_append,List.map_append]
 congr 1
 by_cases h:p.kind=c∧p.sign=s
 ·
  rw [if_pos h];simp [h.1,h.2]
 ·
  rw [if_neg h]
  have:(p.kind==c&&p.sign==s)=false:=by
   rw [Bool.eq_false_iff];intro hc;simp at hc;exact h hc
  simp [this]
theorem Wf {c:Int}{ps:List Pt}{s x:Int}:x∈Jw c ps s↔ ∃ q∈ps,q.kind=c∧q.sign=s∧q.id=x:=by
 unfold Jw
 rw [zpg]
 simp [and_assoc]
def zhd (mi:List (Int×Int))(ps:List Pt):Prop:=∀ s,Jw 2 ps s=(ZT mi s).toList
theorem zhd.nil {ps:List Pt}:zhd [] (ps.take 0):=fun s=>by simp [Jw,ZT]
theorem zhd.put {mi:List (Int×Int)}{ps:List Pt}{k:Nat}{p:Pt}(h:zhd mi (ps.take k))(hp:ps[k]? =some p)(hk:p.kind=2)(hn:ZT mi p.sign=none):zhd (JC mi p.sign p.id) (ps.take (k+1)):=fun s=>by
 rw [Ue hp,h s,KP]
 by_cases e:p.sign=s
 ·
  subst e;rw [if_pos ⟨hk,rfl⟩,if_pos rfl,hn];rfl
 ·
  rw [if_neg (fun q=>e q.2),if_neg e,List.append_nil]
theorem zhd.skip {mi:List (Int×Int)}{ps:List Pt}{k:Nat}{p:Pt}(h:zhd mi (ps.take k))(hp:ps[k]? =some p)(hk:p.kind≠2):zhd mi (ps.take (k+1)):=fun s=>by
 rw [Ue hp,h s,if_neg (fun q=>hk q.1),List.append_nil]
def zhl (mr:List (Int×(Value×Nat×List Value)))(ps:List Pt):Prop:=∀ s,((ZT mr s).getD zdV).2.2=(Jw 3 ps s).flatMap Yd
theorem zhl.nil {ps:List Pt}:zhl [] (ps.take 0):=fun s=>by simp [Jw,ZT,zdV]
theorem zhl.put {mr:List (Int×(Value×Nat×List Value))}{ps:List Pt}{k n:Nat}{p:Pt}{v:Value}(h:zhl mr (ps.take k))(hp:ps[k]? =some p)(hk:p.kind=3):zhl (JC mr p.sign (v,n,((ZT mr p.sign).getD zdV).2.2++[p.id].flatMap Yd)) (ps.take (k+1)):=fun s=>by
 rw [Ue hp,KP]
 by_cases e:p.sign=s
 ·
  subst e;rw [if_pos rfl,if_pos ⟨hk,rfl⟩,List.flatMap_append,←h];rfl
 ·
  rw [if_neg e,if_neg (fun q=>e q.2),List.append_nil,h s]
theorem zhl.skip {mr:List (Int×(Value×Nat×List Value))}{ps:List Pt}{k:Nat}{p:Pt}(h:zhl mr (ps.take k))(hp:ps[k]? =some p)(hk:p.kind≠3):zhl mr (ps.take (k+1)):=fun s=>by
 rw [Ue hp,h s,if_neg (fun q=>hk q.1),List.append_nil]
theorem zdo {c:Int}{ps:List Pt}{s:Int}:(Jw c ps s).length≤ps.length:=by
 unfold Jw
 rw [List.length_map]
 exact List.length_filter_le _ _
theorem zr0 {I:Qu}{e:Nat}{mr:List (Int×(Value×Nat×List Value))}{ps:List Pt}{L:Go.Kn.Loc}(h:zhl mr ps)(hA:Uu e 1 (mr.map (·.2)) L)(hI:∀ b o,(b,o)∈L→I b=some o)(s:Int):
  ∃ av c,((ZT mr s).getD zdV).1= .slice av (Jw 3 ps s).length c∧Sl I 1 Yd av (Jw 3 ps s).length c (Jw 3 ps s):=by
 obtain ⟨A,Lt,B,rfl,hO,_⟩:=hA.at s
 rw [h s] at hO
 obtain ⟨av,c,e1,e2⟩:=hO.sl Zu (by decide) (fun b o hb=>hI b o (by simp [hb]))
 have hn:=e2.len
 rw [←hn] at e1 e2
 exact ⟨av,c,e1,e2⟩
theorem zth {e:Nat}{mr:List (Int×(Value×Nat×List Value))}{ps:List Pt}{s:Int}{L:Go.Kn.Loc}(h:zhl mr ps)(hO:Yk e 1 ((ZT mr s).getD zdV).1 ((ZT mr s).getD zdV).2.1 ((ZT mr s).getD zdV).2.2 L):((ZT mr s).getD zdV).2.1≤ps.length:=by
 have h1:=hO.1
 rw [h s,zvG] at h1
 have h2:=zdo (c:=3) (ps:=ps) (s:=s)
 omega
theorem ziU {x y:Nat×Obj}{A L B:Go.Kn.Loc}:(x::y::(A++(L++B))).Perm (L++(x::y::(A++B))):=List.perm_append_comm_assoc (x::y::A) L B
def tgP (ps:List Pt)(p:Pt):Bool:= !(((Jw 2 ps p.sign).any fun i=>p.id != i&& !onF ps p.id i)||(Jw 3 ps p.sign).any (onF ps p.id))
theorem zj6 {ps:List Pt}(hL:Lst ps){mi:List (Int×Int)}(hi:zhd mi ps):znT ps=ps.all (tgP ps):=by
 unfold znT
 rw [Bool.eq_iff_iff,List.all_eq_true,List.all_eq_true]
 refine forall_congr' fun p=>forall_congr' fun hp=>?_
 unfold tgP
 rw [List.all_eq_true]
 simp only [Bool.not_eq_true',Bool.or_eq_false_iff,List.any_eq_false,Wf]
 constructor
 ·
  intro h
  constructor
  ·
   rintro x ⟨q,hq,h2,hs,rfl⟩ hc
   have:=h q hq
   unfold zra at this
   rw [if_neg (by simpa using hs.symm),if_pos h2] at this
   simp at this hc
   rcases this with e | e
   ·
    exact hc.1 e
   ·
    rw [hc.2] at e;cases e.2
  ·
   rintro x ⟨q,hq,h3,hs,rfl⟩ hc
   have:=h q hq
   unfold zra at this
   rw [if_neg (by simpa using hs.symm),if_neg (by omega),if_pos h3] at this
   simp at this
   rcases this with e | e
   ·
    rw [e,hL.on_irr] at hc;cases hc
   ·
    rw [e] at hc;cases hc
 ·
  rintro ⟨h1,h2⟩ q hq
  unfold zra
  by_cases hs:p.sign=q.sign
  ·
   rw [if_neg (by simpa using hs)]
   by_cases e:p.id=q.id
   ·
    simp [e]
   ·
    by_cases k2:q.kind=2
    ·
     rw [if_pos k2]
     have:=h1 q.id ⟨q,hq,k2,hs.symm,rfl⟩
     have hk:p.kind≠2:=fun k=>e (by
      have hm1:=Wf.2 ⟨p,hp,k,rfl,rfl⟩
      have hm2:=Wf.2 ⟨q,hq,k2,hs.symm,rfl⟩
      rw [hi p.sign] at hm1 hm2
      cases hg:ZT mi p.sign with
      | none=>rw [hg] at hm1;cases hm1
      | some z=>rw [hg] at hm1 hm2;simp at hm1 hm2;rw [hm1,hm2])
     simp [e] at this
     simp [this,hk]
    ·
     rw [if_neg k2]
     by_cases k3:q.kind=3
     ·
      rw [if_pos k3]
      have:=h2 q.id ⟨q,hq,k3,hs.symm,rfl⟩
      simp at this
      simp [this]
     ·
      rw [if_neg k3];simp
  ·
   rw [if_pos hs];simp
theorem zqv {ps:List Pt}(hL:Lst ps){mi:List (Int×Int)}{k:Nat}{p:Pt}{id:Int}(h:zhd mi (ps.take k))(hp:ps[k]? =some p)(hk:p.kind=2)(hn:ZT mi p.sign=some id):znT ps=false:=by
 have hm:id∈Jw 2 (ps.take k) p.sign:=by rw [h,hn];simp
 obtain ⟨q,hq,k2,hs,rfl⟩:=Wf.1 hm
 have hlt:=hL.fresh hp q hq
 unfold znT
 rw [Bool.eq_false_iff]
 intro hc
 rw [List.all_eq_true] at hc
 have h1:=hc p (List.mem_of_getElem? hp)
 rw [List.all_eq_true] at h1
 have h2:=h1 q (List.mem_of_mem_take hq)
 unfold zra at h2
 rw [if_neg (by simpa using hs.symm),if_pos k2] at h2
 simp [hk] at h2
 omega
theorem zno {ps:List Pt}{p:Pt}{mi:List (Int×Int)}(hi:zhd mi ps):((ZT mi p.sign).isSome&&(p.id != (ZT mi p.sign).getD 0)&& !onF ps p.id ((ZT mi p.sign).getD 0))=((Jw 2 ps p.sign).any fun i=>p.id != i&& !onF ps p.id i):=by
 rw [hi p.sign]
 cases ZT mi p.sign with
 | none=>rfl
 | some x=>simp
theorem zsw {ps:List Pt}(h:ps.length>512):zbi ps=2:=by unfold zbi;rw [if_pos h]
theorem ztI {ps:List Pt}(h:¬ps.length>512){k:Nat}{p:Pt}(hp:ps[k]? =some p)(h0:orF ((ps.take k).map KG)=0)(h1:KG p≠0):zbi ps=KG p:=by
 have:orF (ps.map KG)=KG p:=zl6 (k:=k) (by simp [hp]) (by rw [←List.map_take];exact h0) h1
 unfold zbi;rw [if_neg h,this,if_pos h1]
theorem zt1 {ps:List Pt}(h:¬ps.length>512)(h0:orF (ps.map KG)=0)(h1:lsB ps=false):zbi ps=380:=by unfold zbi;rw [if_neg h,if_neg (by omega),h1];rfl
theorem zis {ps:List Pt}(h:¬ps.length>512)(h0:orF (ps.map KG)=0)(h1:lsB ps=true)(h2:znT ps=false):zbi ps=380:=by unfold zbi;rw [if_neg h,if_neg (by omega),h1,h2];rfl
theorem ztT {ps:List Pt}(h:¬ps.length>512)(h0:orF (ps.map KG)=0)(h1:lsB ps=true)(h2:znT ps=true):zbi ps=0:=by unfold zbi;rw [if_neg h,if_neg (by omega),h1,h2];rfl
theorem zp7 {ps:List Pt}{k:Nat}{p:Pt}(hp:ps[k]? =some p)(h0:orF ((ps.take k).map KG)=0)(h1:KG p=0):orF ((ps.take (k+1)).map KG)=0:=by
 rw [Xl] at h0 ⊢
 intro x hx
 rw [Wm hp,List.map_append,List.mem_append] at hx
 rcases hx with hx | hx
 ·
  exact h0 x hx
 ·
  simp at hx;rw [hx,h1]
theorem zms {p:Pt}(h:KG p=0):1≤p.id∧p.id≤1048576∧0≤p.sign∧p.sign≤1048576∧p.needs.length≤32:=by
 unfold KG at h
 split at h
 ·
  cases h
 ·
  split at h
  ·
   rename_i h1 h2
   simp only [Bool.and_eq_true] at h2
   have h3:=h2.2.1
   unfold idB at h3
   simp at h3
   omega
  ·
   cases h
theorem zuF {I:Qu}{av:Option Addr}{n c:Nat}{ps:List Pt}(hP:SlP I av n c ps)(hz:∀ p∈ps,KG p=0):∀ p∈ps,p.n≤100000:=fun p hp=>by
 have h1:Sl I 1 Yd p.a p.n p.c p.needs:=hP.2 p hp
 have h2:=hz p hp
 have h3:=h1.len
 unfold KG at h2
 split at h2
 ·
  cases h2
 ·
  omega
end
section
open Go Go.Kn Go.Proofs
theorem zti {I:Qu}{av:Option Addr}{n c:Nat}{ps:List Pt}(hP:SlP I av n c ps)(hn:n≤100000):Ya Tryz.prog 39 [.slice av n c] I (.int .i64 (zbi ps)):=by
 intro g H w hw
 refine qe Tryz.func39 Tryz.ntmps39 hw ?_
 have hIc:=zvV I
 refine zR (zA (zN (Qr (zR ?_))))
 refine zM ?_
 refine zQ J0 ?_
 refine zC (zN ?_)
 refine zI ?_ ?_<;>intro hc24
 ·
  have hlen:ps.length>512:=by rw [hP.len];simp at hc24;omega
  refine zR (zA (zN (QE (Qh ?_))))
  exact zp hIc rfl rfl (by rw [zsw hlen])
 have hlen:¬ps.length>512:=by rw [hP.len];simp at hc24;omega
 refine Qz (Qc (Qr (zR (zM ?_))))
 refine zQ J0 ?_
 refine zM (zN (QB ?_))
 refine zU [(0,_),(25,_),(26,_)] (fun T L0 mz E I' loc'=>∃ (k:Nat) (e:Int),mz=n-k∧E=(27,.int .i64 k)::T∧I=I'∧L0=loc'∧k≤n∧e=0∧orF ((ps.take k).map KG)=0) ?_ (h:=⟨0,0,rfl,rfl,rfl,rfl,Nat.zero_le _,rfl,rfl⟩)
 rintro mz E I' loc' ⟨k,e,rfl,rfl,rfl,rfl,hk,he,h0⟩
 refine zR (zC (zN (Qr ?_)))
 refine zI ?_ ?_<;>intro hc28
 ·
  have hlt_k:k<n:=by have h:=hc28;simp at h;omega
  have hP1:=hP.1
  obtain ⟨p,hp,hN⟩:=hP.at hlt_k
  have hpm:=List.mem_of_getElem? hp
  have hN:Sl I 1 Yd p.a p.n p.c p.needs:=hN
  refine Qz (Qc (Qr (QB (zR ?_))))
  refine zV (QV rfl rfl J0 (by assumption) (fun hg=>by omega)) ?_
  refine zV (Qg rfl JS (fun hg=>by exact zvW hP1 hp) rfl) ?_
  refine Qs za9 rfl rfl (fun b_4=>?_)
  refine zh K5 ?_
  refine zN (zR ?_)
  refine zV (Qg rfl JS (fun hg=>by exact Cells.g0) rfl) ?_
  refine qcV (vs:=[_]) rfl znm (zn4 p hN) ?_
  refine zA ?_
  refine zN (zR ?_)
  refine zM ?_
  refine zC (zN ?_)
  refine zI ?_ ?_<;>intro hc34
  ·
   have hbad:zbi ps=KG p:=ztI hlen hp h0 (by simpa using hc34)
   refine zR (zM ?_)
   refine zA (zN (QE (Qx (Qh (Qh (Qx (Qh ?_)))))))
   exact zp hIc rfl rfl (by rw [hbad])
  have hpk:KG p=0:=by simpa using hc34
  refine Qz (Qm (Qc (Qk (zB ?_))))
  refine zM (Qb ?_)
  exact zm (h:=⟨n-(k+1),by omega,k+1,_,rfl,rfl,rfl,rfl,by omega,hpk,zp7 hp h0 hpk⟩)
 have hge_k:n≤k:=by have h:=hc28;simp at h;omega
 have h0:orF (ps.map KG)=0:=by rw [Z8 hP.len hge_k] at h0;exact h0
 have hz:∀ p∈ps,KG p=0:=fun p hp=>Xl.1 h0 _ (List.mem_map.2 ⟨p,hp,rfl⟩)
 have hnd:=zuF hP hz
 refine ZF (Qt (Qt (QC (Qc (zR ?_)))))
 refine Yb rfl rfl (fun r_37=>?_)
 refine Qs zrO rfl rfl (fun b_5=>?_)
 refine zS zqh ?_
 refine zA (zN (Qr (zR ?_)))
 refine zM ?_
 refine zQ J0 ?_
 refine zM (zN (QB ?_))
 refine zU [(0,_),(5,_),(38,_),(39,_)] (fun T L0 mz E I' loc'=>∃ (k:Nat) (l:Int) (s:List (Int×Bool)),mz=n-k∧E=(6,.int .i64 l)::(40,.int .i64 k)::T∧I=I'∧[(b_5,.cells #[.map (some r_37)] 143 (0,0)),(r_37,Yu (Value.int .i64) Value.bool s)]=loc'∧k≤n∧(List.range k).all (lsQ ps)=true∧zha (zrf ps) k l∧∀ x,zlY s x=zhm (ps.take k) x) ?_ (h:=⟨0,0,[],rfl,rfl,rfl,rfl,Nat.zero_le _,rfl,⟨fun _=>rfl,fun y hy h=>absurd rfl h⟩,fun x=>rfl⟩)
 rintro mz E I' loc' ⟨k,l,s,rfl,rfl,rfl,rfl,hk,hall,hl,hs⟩
 refine zR (zC (zN (Qr ?_)))
 refine zI ?_ ?_<;>intro hc41
 ·
  have hlt_k:k<n:=by have h:=hc41;simp at h;omega
  have hP1:=hP.1
  obtain ⟨p,hp,hN⟩:=hP.at hlt_k
  have hpm:=List.mem_of_getElem? hp
  have hN:Sl I 1 Yd p.a p.n p.c p.needs:=hN
  have hpn:=hnd p hpm
  have hp1:=(zms (hz p hpm)).1
  refine Qz (Qc (Qr (QB (zR ?_))))
  refine zV (QV rfl rfl J0 (by assumption) (fun hg=>by omega)) ?_
  refine zV (Qg rfl JS (fun hg=>by exact zvW hP1 hp) rfl) ?_
  refine Qs za9 rfl rfl (fun b_8=>?_)
  refine zh K5 ?_
  refine zN (Qr (zR ?_))
  refine zF Yz ?_
  refine zL Qy ?_
  refine zM ?_
  refine zC ?_
  refine zM ?_
  refine Zg 4 rfl rfl rfl ?_
  refine zJ (Qa rfl YY) ?_
  refine zJ (Qd rfl JW (fun hg=>by exact QH.h0 rfl)) ?_
  refine zJ (Yx (us:=[]) (vs:=[_]) rfl rfl) ?_
  refine zdQ (cap:=[]) (vs:=[_,_]) rfl rfl zrp Qv (fun hg=>zfX.ofV fun I' hI' hL'=>zur (cap:=[.pointer (some ⟨b_5,0,none⟩)]) (hN.mono hI') hpn zta (fun x _=>zuB (b:=b_5) (r:=r_37) (s:=s) (hL' b_5 _ (by simp)) (hL' r_37 _ (by simp)) x)) (.some rfl rfl rfl rfl gbf) rfl rfl ?_
  refine ZS rfl rfl rfl rfl rfl ?_
  refine zN ?_
  refine zI ?_ ?_<;>intro hc53
  ·
   have hbad:zbi ps=380:=zt1 hlen h0 (by rw [←zif h0];exact KZ (k:=k) (by rw [hP.len];exact hlt_k) (by rw [zn7 hp hp1 hl hs];exact congrArg (! ·) hc53))
   refine zR (zA (zN (QE (Qh (Qx (Qh (Qh ?_)))))))
   refine Qx (Qh ?_)
   exact zp hIc rfl rfl (by rw [hbad])
  refine Qz (Qc ?_)
  have hD:=zvV I
  refine ZO ?_
  refine Q3 I [(b_8,.cells (WV p).toArray 39 (0,0)),(b_5,.cells #[.map (some r_37)] 143 (0,0))] mixed ?_
  refine zT 0 rfl (Qd rfl zkr (fun hg=>by exact QH.h1 rfl)) hD ?_
  refine zT 1 rfl (Qa rfl Yz) hD ?_
  refine zT 2 rfl (Qd rfl Qy (fun hg=>by exact QH.h0 rfl)) hD ?_
  refine zT 3 rfl (Qa rfl Yz) hD ?_
  refine zT 4 rfl (Qd rfl Qy (fun hg=>by exact QH.h0 rfl)) hD ?_
  refine qd 5 rfl ?_
  refine ZR (m:=s) (ek:=Value.int .i64) (ev:=Value.bool) (a:=p.id) true UJ Zh rfl rfl rfl rfl (by repeat (first | exact Upd.here | apply Upd.there | apply Qw)) ?_
  refine Qb ?_
  refine zD hD ?_
  refine zT 6 rfl (QD rfl) hD ?_
  refine Qn (by kernel_rfl) ?_
  refine QA ?_
  refine Qm (Qc (Qk (zB ?_)))
  refine zM (Qb ?_)
  exact zm (h:=⟨n-(k+1),by omega,k+1,_,_,rfl,rfl,rfl,rfl,by omega,Km hall (by rw [zn7 hp hp1 hl hs];exact congrArg (! ·) hc53),zgQ hp,fun x=>by rw [zfk,hs,zm5 hp]⟩)
 have hge_k:n≤k:=by have h:=hc41;simp at h;omega
 have hls:lsB ps=true:=by rw [←zif h0,hP.len,show n=k by omega];exact hall
 have hL:Lst ps:=znO h0 hls
 refine ZF (Qt (Qt (QC (Qc (zR (zM ?_))))))
 refine QF (cap:=[]) (vs:=[_]) rfl rfl zs0 .nil (zmv hP hn hL hnd) rfl rfl ?_
 rintro vv3 I3 L3 hI3 ⟨rfl,r9,rfl,hOn⟩
 have hP:=hP.mono hI3;have hIc:=hIc.trans hI3
 refine zA ?_
 refine zN (zR ?_)
 refine Yb rfl rfl (fun r_62=>?_)
 refine Yb rfl rfl (fun r_63=>?_)
 refine zA ?_
 refine zA (zN (Qr (Qr ?_)))
 refine zlz [(r_63,Yu (Value.int .i64) zoz []),(r_62,Yu (Value.int .i64) (Value.int .i64) [])] (by repeat (first | exact Qf | exact .refl | refine .keep ?_ | refine .drop ?_)) ?_
 refine Qk (zM ?_)
 refine zQ J0 ?_
 refine zM (zN (QB ?_))
 refine zU [(0,_),(9,_),(10,_),(11,_),(64,_),(65,_)] (fun T L0 mz E I' loc'=>∃ (k:Nat) (mi:List (Int×Int)) (mr:List (Int×(Value×Nat×List Value))) (L:Go.Kn.Loc),mz=n-k∧E=(66,.int .i64 k)::T∧I3=I'∧(r_63,Yu (Value.int .i64) zoz mr)::(r_62,Yu (Value.int .i64) (Value.int .i64) mi)::L=loc'∧k≤n∧zhd mi (ps.take k)∧zhl mr (ps.take k)∧Uu 3 1 (mr.map (·.2)) L) ?_ (h:=⟨0,[],[],[],rfl,rfl,rfl,rfl,Nat.zero_le _,zhd.nil,zhl.nil,Uu.nil⟩)
 rintro mz E I' loc' ⟨k,mi,mr,L,rfl,rfl,rfl,rfl,hk,hmi,hmr,hAll⟩
 refine zR (zC (zN (Qr ?_)))
 refine zI ?_ ?_<;>intro hc67
 ·
  have hlt_k:k<n:=by have h:=hc67;simp at h;omega
  have hP1:=hP.1
  obtain ⟨p,hp,hN⟩:=hP.at hlt_k
  have hpm:=List.mem_of_getElem? hp
  have hN:Sl I3 1 Yd p.a p.n p.c p.needs:=hN
  have hpn:=hnd p hpm
  refine Qz (Qc (Qr (QB (zR ?_))))
  refine zV (QV rfl rfl J0 (by assumption) (fun hg=>by omega)) ?_
  refine zV (Qg rfl JS (fun hg=>by exact zvW hP1 hp) rfl) ?_
  refine Qs za9 rfl rfl (fun b_13=>?_)
  refine zh K5 ?_
  refine zN (zR ?_)
  refine zF Ku ?_
  refine zL Qy ?_
  refine zN (QB (zR (zC ?_)))
  refine zA (zN ?_)
  refine zI ?_ ?_<;>intro hc72
  ·
   have hk2:p.kind=2:=by simpa using hc72
   refine Qr (zR (zM ?_))
   refine zF Y9 ?_
   refine zL Qy ?_
   refine zV (W8 (m:=mi) (ek:=Value.int .i64) (a:=p.sign) zew Zh rfl rfl (fun _=>.inr (by simp))) ?_
   refine zM ?_
   refine zE ?_
   refine zE ?_
   refine zA ?_
   refine zA ?_
   refine zN (zR ?_)
   refine zM (zN ?_)
   refine zI ?_ ?_<;>intro hc81
   ·
    obtain ⟨id,hid⟩:=Option.isSome_iff_exists.1 hc81
    have hbad:zbi ps=380:=zis hlen h0 hls (zqv hL hmi hp hk2 hid)
    refine zR (zA (zN (QE (Qh (Qx (Qx (Qh ?_)))))))
    refine Qh (Qx (Qh ?_))
    exact zp hIc rfl rfl (by rw [hbad])
   have hnone:ZT mi p.sign=none:=by simpa using hc81
   refine Qz (Qc (Qk (zM ?_)))
   refine zF Y9 ?_
   refine zL Qy ?_
   refine zF Yz ?_
   refine zL Qy ?_
   refine ZR (m:=mi) (ek:=Value.int .i64) (ev:=Value.int .i64) (a:=p.sign) p.id zew Zh rfl rfl rfl rfl (by repeat (first | exact Upd.here | apply Upd.there | apply Qw)) ?_
   refine Qb (Qm (Qm (Qc (Qk (zB ?_)))))
   refine zM (Qb ?_)
   exact zm (h:=⟨n-(k+1),by omega,k+1,_,_,_,rfl,rfl,rfl,rfl,by omega,hmi.put hp hk2 hnone,hmr.skip hp (by omega),hAll⟩)
  have hk2n:p.kind≠2:=by simpa using hc72
  refine zR (zC ?_)
  refine zA (zN ?_)
  refine zI ?_ ?_<;>intro hc87
  ·
   have hk3:p.kind=3:=by simpa using hc87
   obtain ⟨A,Lt,B,rfl,hOt,hset⟩:=hAll.at p.sign
   have hq:=zth hmr hOt
   have hq2:=List.length_take_le k ps
   have hD:=zvV I3
   refine ZO ?_
   refine Q3 I3 [(b_13,.cells (WV p).toArray 39 (0,0))] mixed ?_
   refine zT 0 rfl (Qj rfl) hD ?_
   refine zT 1 rfl (Qa rfl Y9) hD ?_
   refine zT 2 rfl (Qd rfl Qy (fun hg=>by exact QH.h0 rfl)) hD ?_
   refine zT 3 rfl (Qj rfl) hD ?_
   refine zT 4 rfl (Qa rfl Y9) hD ?_
   refine zT 5 rfl (Qd rfl Qy (fun hg=>by exact QH.h0 rfl)) hD ?_
   refine zT 7 rfl (Qa rfl Yz) hD ?_
   refine zT 8 rfl (Qd rfl Qy (fun hg=>by exact QH.h0 rfl)) hD ?_
   refine Zb 6 9 rfl rfl (by kernel_rfl) ?_ ?_
   ·
    refine zV (WX (m:=mr) (ek:=Value.int .i64) (a:=p.sign) zaw Zh rfl rfl (fun _=>.inr (by simp))) ?_
    refine Qb ?_
    refine zD hD ?_
    refine qd 9 rfl ?_
    refine Ql (ps:=[(0,_)]) (m:=[Yd p.id]) Y1 rfl (.cons rfl (.nil)) rfl (by simp [Zu]) (by decide) (by decide) rfl rfl (fun b_98=>?_)
    refine Qb ?_
    refine zD hD ?_
    refine qd 10 rfl ?_
    refine Q4 (v:=_) (ys:=[p.id].flatMap Yd) (L:=Lt) rfl rfl Y1 hOt (by repeat (first | exact .cons .here .nil | exact Qv | exact Qq | apply Qp | apply Qo)) ⟨rfl,fun _=>rfl,zvT⟩ (X3 [p.id]) (by omega) rfl rfl ?_
    intro v9 L9 hO9 _
    refine Qb ?_
    refine zD hD ?_
    refine qd 11 rfl ?_
    refine ZR (m:=mr) (ek:=Value.int .i64) (ev:=zoz) (a:=p.sign) (v9,((ZT mr p.sign).getD zdV).2.1+1,((ZT mr p.sign).getD zdV).2.2++[p.id].flatMap Yd) zaw Zh rfl rfl rfl rfl (by (repeat (first | exact Upd.here | apply Upd.there | apply Qw))) ?_
    refine Qb ?_
    refine zD hD ?_
    refine Qn (by kernel_rfl) ?_
    refine QA ?_
    refine Qm (Qm (Qc (Qk (zB ?_))))
    refine zM (Qb ?_)
    exact zhE _ _ (L9++((r_63,_)::(r_62,_)::(A++B))) ⟨n-(k+1),by omega,k+1,_,_,A++(L9++B),rfl,rfl,rfl,rfl,by omega,hmi.skip hp hk2n,hmr.put hp hk3,hset (v9,_,_) L9 hO9⟩ (.cons rfl (.cons rfl (.cons rfl (.cons rfl (.cons rfl (.cons rfl (.cons rfl .nil))))))) ziU (by repeat (first | exact .refl | exact QN | refine Za ?_ | refine .drop ?_ | refine Qe ?_))
   refine Ql (ps:=[(0,_)]) (m:=[Yd p.id]) Y1 rfl (.cons rfl (.nil)) rfl (by simp [Zu]) (by decide) (by decide) rfl rfl (fun b_98=>?_)
   refine Qb ?_
   refine zD hD ?_
   refine qd 6 rfl ?_
   refine zV (WX (m:=mr) (ek:=Value.int .i64) (a:=p.sign) zaw Zh rfl rfl (fun _=>.inr (by simp))) ?_
   refine Qb ?_
   refine zD hD ?_
   refine qd 10 rfl ?_
   refine Q4 (v:=_) (ys:=[p.id].flatMap Yd) (L:=Lt) rfl rfl Y1 hOt (by repeat (first | exact .cons .here .nil | exact Qv | exact Qq | apply Qp | apply Qo)) ⟨rfl,fun _=>rfl,zvT⟩ (X3 [p.id]) (by omega) rfl rfl ?_
   intro v9 L9 hO9 _
   refine Qb ?_
   refine zD hD ?_
   refine qd 11 rfl ?_
   refine ZR (m:=mr) (ek:=Value.int .i64) (ev:=zoz) (a:=p.sign) (v9,((ZT mr p.sign).getD zdV).2.1+1,((ZT mr p.sign).getD zdV).2.2++[p.id].flatMap Yd) zaw Zh rfl rfl rfl rfl (by (repeat (first | exact Upd.here | apply Upd.there | apply Qw))) ?_
   refine Qb ?_
   refine zD hD ?_
   refine Qn (by kernel_rfl) ?_
   refine QA ?_
   refine Qm (Qm (Qc (Qk (zB ?_))))
   refine zM (Qb ?_)
   exact zhE _ _ (L9++((r_63,_)::(r_62,_)::(A++B))) ⟨n-(k+1),by omega,k+1,_,_,A++(L9++B),rfl,rfl,rfl,rfl,by omega,hmi.skip hp hk2n,hmr.put hp hk3,hset (v9,_,_) L9 hO9⟩ (.cons rfl (.cons rfl (.cons rfl (.cons rfl (.cons rfl (.cons rfl (.cons rfl .nil))))))) ziU (by repeat (first | exact .refl | exact QN | refine Za ?_ | refine .drop ?_ | refine Qe ?_))
  have hk3n:p.kind≠3:=by simpa using hc87
  refine Qz (Qm (Qm (Qc (Qk (zB ?_)))))
  refine zM (Qb ?_)
  exact zm (h:=⟨n-(k+1),by omega,k+1,_,_,_,rfl,rfl,rfl,rfl,by omega,hmi.skip hp hk2n,hmr.skip hp hk3n,hAll⟩)
 have hge_k:n≤k:=by have h:=hc67;simp at h;omega
 rw [Z8 hP.len hge_k] at hmi hmr
 refine ZF (Qt (Qt (QC (Qc (Qr (Qr ?_))))))
 refine ze8 (fun I5 hI5 hb5=>?_)
 have hP:=hP.mono hI5;have hOn:=hOn.mono hI5;have hIc:=hIc.trans hI5
 have hmiI:I5 r_62=some (Yu (Value.int .i64) (Value.int .i64) mi):=hb5 _ _ (by simp)
 have hmrI:I5 r_63=some (Yu (Value.int .i64) zoz mr):=hb5 _ _ (by simp)
 have hrem:=zr0 hmr hAll (fun b o h=>hb5 b o (by simp [h]))
 obtain ⟨m,hm1,hm2⟩:=hOn
 refine Qk (zM ?_)
 refine zQ J0 ?_
 refine zM (zN (QB ?_))
 refine zU [(9,_),(10,_),(11,_),(101,_),(102,_)] (fun T L0 mz E I' loc'=>∃ (k:Nat),mz=n-k∧E=(103,.int .i64 k)::T∧I5=I'∧[]=loc'∧k≤n∧(ps.take k).all (tgP ps)=true) ?_ (h:=⟨0,rfl,rfl,rfl,rfl,Nat.zero_le _,rfl⟩)
 rintro mz E I' loc' ⟨k,rfl,rfl,rfl,rfl,hk,htg⟩
 refine zR (zC (zN (Qr ?_)))
 refine zI ?_ ?_<;>intro hc104
 ·
  have hlt_k:k<n:=by have h:=hc104;simp at h;omega
  have hP1:=hP.1
  obtain ⟨p,hp,hN⟩:=hP.at hlt_k
  have hpm:=List.mem_of_getElem? hp
  have hN:Sl I5 1 Yd p.a p.n p.c p.needs:=hN
  have hpn:=hnd p hpm
  obtain ⟨ref,hget,sn,hsn,hsq⟩:=hm2.get ⟨p,hpm,rfl⟩
  refine Qz (Qc (Qr (QB (zR ?_))))
  refine zV (QV rfl rfl J0 (by assumption) (fun hg=>by omega)) ?_
  refine zV (Qg rfl JS (fun hg=>by exact zvW hP1 hp) rfl) ?_
  refine Qs za9 rfl rfl (fun b_17=>?_)
  refine zh K5 ?_
  refine zN (Qr (zR (zM ?_)))
  refine zF Y9 ?_
  refine zL Qy ?_
  refine zV (W8 (m:=mi) (ek:=Value.int .i64) (a:=p.sign) zew Zh rfl rfl (fun _=>.inl hmiI)) ?_
  refine zM ?_
  refine zE ?_
  refine zE ?_
  refine zA ?_
  refine zA ?_
  refine zN (zR ?_)
  refine zM ?_
  refine zM ?_
  refine QL 1 rfl rfl rfl ?_
  refine zK (Qa rfl Yz) ?_
  refine zK (Qd rfl Qy (fun hg=>by exact QH.h0 rfl)) ?_
  refine zK (Qj rfl) ?_
  refine zK (QX rfl rfl rfl) ?_
  refine QU rfl rfl rfl rfl rfl ?_
  refine zM ?_
  refine QL 7 rfl rfl rfl ?_
  refine zK (Qj rfl) ?_
  refine zK (Qa rfl Yz) ?_
  refine zK (Qd rfl Qy (fun hg=>by exact QH.h0 rfl)) ?_
  refine zK (WD (m:=m) (ek:=Value.int .i64) (ev:=zlN) (a:=p.id) hget zcs Zh rfl rfl (fun _=>.inl hm1)) ?_
  refine zK (Qj rfl) ?_
  refine zK (YF (m:=sn) UJ Zh rfl rfl (fun _=>.inl hsn)) ?_
  refine zK (YB rfl) ?_
  refine QU rfl rfl rfl rfl rfl ?_
  refine zN ?_
  refine zI ?_ ?_<;>intro hc129
  ·
   have hA:=hc129
   simp only [show ∀ x,(ZT sn x).getD false=onF ps p.id x from fun x=>hsq.mem x] at hA
   have hbad:zbi ps=380:=zis hlen h0 hls (by rw [zj6 hL hmi];exact zof hp (by unfold tgP;rw [←zno hmi,hA];rfl))
   refine zR (zA (zN (QE (Qh (Qx (Qh (Qh ?_)))))))
   refine Qx (Qh ?_)
   exact zp hIc rfl rfl (by rw [hbad])
  have hA:=hc129
  simp only [show ∀ x,(ZT sn x).getD false=onF ps p.id x from fun x=>hsq.mem x] at hA
  refine Qz (Qc (Qr ?_))
  obtain ⟨av2,c2,hv2,hS2⟩:=hrem p.sign
  have hk3l:=zdo (c:=3) (ps:=ps) (s:=p.sign)
  have hpl:=hP.len
  refine Qk (zM ?_)
  refine zF Y9 ?_
  refine zL Qy ?_
  refine zV (zeD (m:=mr) (ek:=Value.int .i64) (a:=p.sign) hv2 zaw Zh rfl rfl (fun _=>.inl hmrI)) ?_
  refine zQ Yh ?_
  refine zM (zN (QB ?_))
  refine zU [(9,_),(10,_),(11,_),(17,_),(101,_),(102,_),(103,_),(133,_),(134,_)] (fun T L0 mz E I' loc'=>∃ (j:Nat),mz=(Jw 3 ps p.sign).length-j∧E=(135,.int .i64 j)::T∧I5=I'∧[(b_17,.cells (WV p).toArray 39 (0,0))]=loc'∧j≤(Jw 3 ps p.sign).length∧((Jw 3 ps p.sign).take j).any (onF ps p.id)=false) ?_ (h:=⟨0,rfl,rfl,rfl,rfl,Nat.zero_le _,rfl⟩)
  rintro mz E I' loc' ⟨j,rfl,rfl,rfl,rfl,hj,hno⟩
  refine zR (zC (zN (Qr ?_)))
  refine zI ?_ ?_<;>intro hc136
  ·
   have hlt_j:j<(Jw 3 ps p.sign).length:=by have h:=hc136;simp at h;omega
   obtain ⟨y,hy⟩:=hS2.at hlt_j
   refine Qz (Qc (Qr (QB (zR ?_))))
   refine zV (QV rfl rfl Yh (by assumption) (fun hg=>by omega)) ?_
   refine zV (Qd rfl Qy (fun hg=>by exact zvO hS2 hy rfl)) ?_
   refine zA ?_
   refine zN (zR ?_)
   refine zM ?_
   refine zF Yz ?_
   refine zL Qy ?_
   refine zV (WD (m:=m) (ek:=Value.int .i64) (ev:=zlN) (a:=p.id) hget zcs Zh rfl rfl (fun _=>.inl hm1)) ?_
   refine zM ?_
   refine zV (YF (m:=sn) UJ Zh rfl rfl (fun _=>.inl hsn)) ?_
   refine zN ?_
   refine zI ?_ ?_<;>intro hc144
   ·
    have hon:=hc144
    simp only [show ∀ x,(ZT sn x).getD false=onF ps p.id x from fun x=>hsq.mem x] at hon
    have hbad:zbi ps=380:=zis hlen h0 hls (by rw [zj6 hL hmi];exact zof hp (by unfold tgP;rw [ziW hy hon,Bool.or_true];rfl))
    refine zR (zA (zN (QE (Qx (Qh (Qh (Qx ?_)))))))
    refine Qx (Qh (Qh (Qx (Qh ?_))))
    exact zp hIc rfl rfl (by rw [hbad])
   have hon:=hc144
   simp only [show ∀ x,(ZT sn x).getD false=onF ps p.id x from fun x=>hsq.mem x] at hon
   refine Qz (Qm (Qc (Qk (zB ?_))))
   refine zM (Qb ?_)
   exact zm (h:=⟨(Jw 3 ps p.sign).length-(j+1),by omega,j+1,rfl,rfl,rfl,rfl,by omega,X7 hy hno hon⟩)
  have hge_j:(Jw 3 ps p.sign).length≤j:=by have h:=hc136;simp at h;omega
  rw [Z8 rfl hge_j] at hno
  have htp:tgP ps p=true:=by unfold tgP;rw [←zno hmi,hA,hno];rfl
  refine ZF (Qt (Qt (QC (Qm (Qc (Qk (zB ?_)))))))
  refine zM (Qb ?_)
  exact zm (h:=⟨n-(k+1),by omega,k+1,rfl,rfl,rfl,rfl,by omega,zoE hp htg htp⟩)
 have hge_k:n≤k:=by have h:=hc104;simp at h;omega
 have htog:znT ps=true:=by rw [zj6 hL hmi];rw [Z8 hP.len hge_k] at htg;exact htg
 refine ZF (Qt (Qt (QC (Qc (zR (zA (zN ?_)))))))
 refine QE ?_
 exact zp hIc rfl rfl (by rw [ztT hlen h0 hls htog])
end
section
open Go Go.Kn Go.Proofs
theorem zfy:ElT Tryz.prog 64 39 19 168:=.of (by kernel_rfl)
theorem zaH:Fun Tryz.prog 135:=.of Tryz.func135 (by kernel_rfl) (by kernel_rfl)
theorem zkP:Fun Tryz.prog 136:=.of Tryz.func136 (by kernel_rfl) (by kernel_rfl)
theorem zjP:Fun Tryz.prog 137:=.of Tryz.func137 (by kernel_rfl) (by kernel_rfl)
theorem zio:Fun Tryz.prog 138:=.of Tryz.func138 (by kernel_rfl) (by kernel_rfl)
theorem zi1:Fun Tryz.prog 139:=.of Tryz.func139 (by kernel_rfl) (by kernel_rfl)
theorem ztj:Fun Tryz.prog 39:=.of Tryz.func39 (by kernel_rfl) (by kernel_rfl)
theorem zrz:Fun Tryz.prog 67:=.of Tryz.func67 (by kernel_rfl) (by kernel_rfl)
theorem zrj:Fun Tryz.prog 69:=.of Tryz.func69 (by kernel_rfl) (by kernel_rfl)
theorem ztN:Fun Tryz.prog 71:=.of Tryz.func71 (by kernel_rfl) (by kernel_rfl)
theorem zsS:Fun Tryz.prog 73:=.of Tryz.func73 (by kernel_rfl) (by kernel_rfl)
theorem KU:MpT Tryz.prog 151 3 43 (.agg #[(.int .i64 0),(.int .i64 0),(.int .i64 0),(.int .i64 0),(.int .i64 0),(.int .i64 0),(.string ⟨#[]⟩),(.string ⟨#[]⟩),(.int .i64 0),(.int .i64 0),(.int .i64 0)]):=⟨by kernel_rfl,.of (by kernel_rfl)⟩
theorem zb2:MpT Tryz.prog 194 3 41 (.agg #[(.int .i64 0),(.int .i64 0),(.int .i64 0),(.int .i64 0),(.int .i64 0)]):=⟨by kernel_rfl,.of (by kernel_rfl)⟩
theorem zcD:MpT Tryz.prog 198 3 39 (.agg #[(.int .i64 0),(.int .i64 0),(.int .i64 0),(.int .i64 0),(.int .i64 0),(.int .i64 0),(.int .i64 0),(.int .i64 0),(.int .i64 0),(.int .i64 0),(.int .i64 0),(.int .i64 0),(.int .i64 0),(.int .i64 0),(.int .i64 0),(.int .i64 0),(.int .i64 0),(.int .i64 0),(.slice none 0 0)]):=⟨by kernel_rfl,.of (by kernel_rfl)⟩
theorem zmy {I:Qu}{av:Option Addr}{n c:Nat}{xs:List Nt}(hP:zbh I av n c xs)(hn0:n≤4096):Vh Tryz.prog 66 [.slice av n c,.int .i64 1,.func (.func 67) #[] #[],.func (.func 37) #[] #[]] I [] (fun v I' L'=>L'=[]∧∃ a n c,v= .slice a n c∧Sl I' 9 ZI a n c (zdP (fun x=>x.lm.no) (fun x=>x.lm) 1 zhn VK xs)):=by
 intro g H w hw
 refine qe Tryz.func66 Tryz.ntmps66 hw ?_
 have hIc:=zvV I
 have hln:=hP.sl.len
 refine zR (zA ?_)
 refine zN (zR ?_)
 refine Yb rfl rfl (fun r_20=>?_)
 refine (show XO _ _ _ _ _ _ _ ((r_20,Yu (.int .i64) Ji ([]:List (Int×Lm)))::_) from ?_)
 refine zA ?_
 refine zN (zR ?_)
 refine zA (zN (Qr (zR ?_)))
 refine zM ?_
 refine zQ Zs ?_
 refine zM (zN (QB ?_))
 refine zU [(1,_),(2,_),(3,_),(8,_),(9,_),(21,_),(22,_)] (fun T L0 mz E I' loc'=>∃ (k:Nat) (v:Value) (q:Nat) (Lw:Go.Kn.Loc),mz=n-k∧E=(10,v)::(23,.int .i64 k)::T∧I=I'∧Lw++[(r_20,Yu (.int .i64) Ji (Ys (fun x=>x.lm.no) (fun x=>x.lm) 1 (xs.take k)))]=loc'∧k≤n∧Yk 3 1 v q (((Ys (fun x=>x.lm.no) (fun x=>x.lm) 1 (xs.take k)).map (·.1)).flatMap Yd) Lw∧q=(Ys (fun x=>x.lm.no) (fun x=>x.lm) 1 (xs.take k)).length) ?_ (h:=⟨0,_,0,[],rfl,rfl,rfl,rfl,Nat.zero_le _,Yk.nil,rfl⟩)
 rintro mz E I' loc' ⟨k,v,q,Lw,rfl,rfl,rfl,rfl,hk,hO,hq⟩
 refine zR (zC (zN (Qr ?_)))
 refine zI ?_ ?_<;>intro hc24
 ·
  have hlt_k:k<n:=by have h:=hc24;simp at h;omega
  obtain ⟨x,hx⟩:∃ y,xs[k]? =some y:=⟨_,List.getElem?_eq_getElem (by omega)⟩
  have hml:(Ys (fun x=>x.lm.no) (fun x=>x.lm) 1 (xs.take k)).length≤k:=Nat.le_trans VD (List.length_take_le ..)
  refine Qz (Qc (Qr (QB (zR ?_))))
  refine zV (QV rfl rfl Zs hP.sl (fun hg=>by omega)) ?_
  refine zV (Qg rfl Zr (fun hg=>by exact zvW hP.sl hx) rfl) ?_
  refine Qs KM rfl rfl (fun b_12=>?_)
  refine zh Vp ?_
  refine zN (zR ?_)
  refine zM ?_
  refine zV (Qg rfl Zr (fun hg=>by exact Cells.g0) rfl) ?_
  refine qcV (vs:=[_]) rfl zrz (zov _ x) ?_
  refine zM ?_
  refine zE ?_
  refine zE ?_
  refine Qs zel rfl rfl (fun b_13=>?_)
  refine zh zaX ?_
  refine zA (zN (Qr ?_))
  rcases hget:ZT (Ys (fun x=>x.lm.no) (fun x=>x.lm) 1 (xs.take k)) (x.lm.no) with _ | y0
  ·
   refine Qk (zM ?_)
   refine zM ?_
   refine zV (Z2 (ek:=Value.int .i64) (ev:=Ji) WG Zh rfl rfl (fun _=>(by (repeat (first | exact Mem.m0 | apply Mem.there | apply Mem.app))))) ?_
   rw [hget]
   refine zM ?_
   refine zE ?_
   refine zE ?_
   refine Qs zel rfl rfl (fun b_15=>?_)
   refine zh zaX ?_
   refine zA ?_
   refine zN (zR ?_)
   refine zF Y8 ?_
   refine zL Qy ?_
   refine zM ?_
   refine zC ?_
   refine zM ?_
   refine QL 4 rfl rfl rfl ?_
   refine zK (Qj rfl) ?_
   refine zK (YB rfl) ?_
   refine QU rfl rfl rfl rfl rfl ?_
   refine zN ?_
   refine zI ?_ ?_<;>intro hc46
   ·
    have hkd:(x.kind==1)=true:=by simpa using hc46
    refine zR (zM ?_)
    refine zM ?_
    refine zV (Qg rfl K2 (fun hg=>by exact Cells.g1) rfl) ?_
    refine ZR (ek:=Value.int .i64) (ev:=Ji) (x.lm) WG Zh rfl rfl rfl rfl (by (repeat (first | exact Upd.here | apply Upd.there | apply Qw))) ?_
    refine zN (Qk (zM ?_))
    refine zM ?_
    refine Ql (ps:=[(0,_)]) (m:=[Yd (x.lm.no)]) Y1 rfl (.cons rfl (.nil)) rfl (by simp [Zu]) (by decide) (by decide) rfl rfl (fun b_52=>?_)
    refine Q4 (v:=_) (ys:=[x.lm.no].flatMap Yd) (L:=Lw) rfl rfl Y1 hO (by repeat (first | exact .cons .here .nil | exact Qv | exact Qq | apply Qp | apply Qo)) ⟨rfl,fun _=>rfl,by repeat (first | exact zvT | apply zvS | apply zvU)⟩ (X3 [x.lm.no]) (by omega) rfl rfl ?_
    intro v9 L9 hO9 _;rw [←List.flatMap_append] at hO9
    refine zA (Qb (Qm (Qc (Qk ?_))))
    refine zB ?_
    refine zM (Qb ?_)
    exact Zq _ (L9++[(r_20,Yu (.int .i64) Ji (JC (Ys (fun x=>x.lm.no) (fun x=>x.lm) 1 (xs.take k)) (x.lm.no) (x.lm)))]) ⟨n-(k+1),by omega,k+1,_,_,_,rfl,rfl,rfl,by rw [Zk hx,Xq hget hkd],by omega,by rw [Zk hx,Jh hget hkd];exact hO9,by rw [Zk hx,←List.length_map (f:=fun p=>p.1),Jh hget hkd,List.length_append,List.length_map];simp;omega⟩ (.cons rfl (.cons rfl (.cons rfl (.cons rfl (.cons rfl (.cons rfl (.cons rfl (.cons rfl (.cons rfl .nil))))))))) (by repeat (first | exact .refl | exact QN | refine Za ?_ | refine .drop ?_ | refine Qe ?_))
   have hkd:(x.kind==1)=false:=by simpa using hc46
   have hsame:za8 (fun x=>x.lm.no) (fun x=>x.lm) 1 (Ys (fun x=>x.lm.no) (fun x=>x.lm) 1 (xs.take k)) x=(Ys (fun x=>x.lm.no) (fun x=>x.lm) 1 (xs.take k)):=zco hkd
   refine Qz (Qm (Qc (Qk (zB ?_))))
   refine zM (Qb ?_)
   exact Zq _ (Lw++[(r_20,Yu (.int .i64) Ji (Ys (fun x=>x.lm.no) (fun x=>x.lm) 1 (xs.take k)))]) ⟨n-(k+1),by omega,k+1,_,_,_,rfl,rfl,rfl,by rw [Zk hx,hsame],by omega,by rw [Zk hx,hsame];exact hO,by rw [Zk hx,hsame];exact hq⟩ (.cons rfl (.cons rfl (.cons rfl (.cons rfl (.cons rfl (.cons rfl (.cons rfl (.cons rfl (.cons rfl .nil))))))))) (by repeat (first | exact .refl | exact QN | refine Za ?_ | refine .drop ?_ | refine Qe ?_))
  refine Qk (zM ?_)
  refine zM ?_
  refine zV (Z2 (ek:=Value.int .i64) (ev:=Ji) WG Zh rfl rfl (fun _=>(by (repeat (first | exact Mem.m0 | apply Mem.there | apply Mem.app))))) ?_
  rw [hget]
  refine zM ?_
  refine zE ?_
  refine zE ?_
  refine Qs zel rfl rfl (fun b_15=>?_)
  refine zh zaX ?_
  refine zA ?_
  refine zN (zR ?_)
  refine zF Y8 ?_
  refine zL Qy ?_
  refine zM ?_
  refine zC ?_
  refine zM ?_
  refine QL 4 rfl rfl rfl ?_
  refine zK (Qj rfl) ?_
  refine zK (YB rfl) ?_
  refine QU rfl rfl rfl rfl rfl ?_
  refine zN ?_
  refine zI ?_ ?_<;>intro hc46
  ·
   simp at hc46
  have hsame:za8 (fun x=>x.lm.no) (fun x=>x.lm) 1 (Ys (fun x=>x.lm.no) (fun x=>x.lm) 1 (xs.take k)) x=(Ys (fun x=>x.lm.no) (fun x=>x.lm) 1 (xs.take k)):=Xm hget
  refine Qz (Qm (Qc (Qk (zB ?_))))
  refine zM (Qb ?_)
  exact Zq _ (Lw++[(r_20,Yu (.int .i64) Ji (Ys (fun x=>x.lm.no) (fun x=>x.lm) 1 (xs.take k)))]) ⟨n-(k+1),by omega,k+1,_,_,_,rfl,rfl,rfl,by rw [Zk hx,hsame],by omega,by rw [Zk hx,hsame];exact hO,by rw [Zk hx,hsame];exact hq⟩ (.cons rfl (.cons rfl (.cons rfl (.cons rfl (.cons rfl (.cons rfl (.cons rfl (.cons rfl (.cons rfl .nil))))))))) (by repeat (first | exact .refl | exact QN | refine Za ?_ | refine .drop ?_ | refine Qe ?_))
 have hge_k:n≤k:=by have h:=hc24;simp at h;omega
 have hml:=VD (num:=(fun x=>x.lm.no)) (prt:=(fun x=>x.lm)) (kind:=1) (xs:=xs)
 have hke:xs.take k=xs:=Z8 hln hge_k
 rw [hke] at hO hq ⊢
 refine ZF (Qt (Qt (QC (Qc (zR (zM ?_))))))
 refine QF (cap:=[]) (vs:=[_]) rfl rfl zaH Qq (zfS 3 ((Ys (fun x=>x.lm.no) (fun x=>x.lm) 1 xs).map (·.1)) (by rw [←JO];exact hO) (by omega) _) rfl rfl ?_
 rintro vv2 I2 L2 hI2 ⟨rfl,rfl,hO2⟩
 have hIc:=hIc.trans hI2
 rw [←JO] at hO2
 refine zN (Qr (Qr ?_))
 refine Zy hO2 Zu (by decide) (by repeat (first | exact .cons .here .nil | exact Qv | exact Qq | apply Qp | apply Qo)) (fun I3 hI3 af3 cf3 ef3 hNs=>?_)
 subst ef3
 have hIc:=hIc.trans hI3
 obtain ⟨ns,hnsd⟩:∃ y,y=zbj ((Ys (fun x=>x.lm.no) (fun x=>x.lm) 1 xs).map (·.1)):=⟨_,rfl⟩
 rw [←hnsd] at hNs
 have hnl:=hNs.len
 have hml:=VD (num:=(fun x=>x.lm.no)) (prt:=(fun x=>x.lm)) (kind:=1) (xs:=xs)
 refine Qk (zM ?_)
 refine zQ Yh ?_
 refine zM (zN (QB ?_))
 refine zU [(3,_),(9,_),(57,_),(58,_)] (fun T L0 mz E I' loc'=>∃ (j:Nat) (a9:Option Addr) (n9:Nat) (c9:Nat),mz=q-j∧E=(8,.slice a9 n9 c9)::(59,.int .i64 j)::T∧HLe I3 I'∧[(r_20,Yu (.int .i64) Ji (Ys (fun x=>x.lm.no) (fun x=>x.lm) 1 xs))]=loc'∧j≤q∧Sl I' 9 ZI a9 n9 c9 (zgu zhn VK (Ys (fun x=>x.lm.no) (fun x=>x.lm) 1 xs) (ns.take j))∧n9≤j) ?_ (h:=⟨0,none,0,0,rfl,rfl,zvV _,rfl,Nat.zero_le _,Sl.nil,Nat.le_refl _⟩)
 rintro mz E J4 loc' ⟨j,a9,n9,c9,rfl,rfl,hJ,rfl,hj,hY,hn9⟩
 have hNs:=hNs.mono hJ;have hIc:=hIc.trans hJ
 have hB2:=hJ
 refine zR (zC (zN (Qr ?_)))
 refine zI ?_ ?_<;>intro hc60
 ·
  have hlt_j:j<q:=by have h:=hc60;simp at h;omega
  obtain ⟨m9,hn⟩:∃ y,ns[j]? =some y:=⟨_,List.getElem?_eq_getElem (by omega)⟩
  refine Qz (Qc (Qr (QB (zR ?_))))
  refine zV (zX Yh hNs) ?_
  refine zV (Qd rfl Qy (fun hg=>by exact zvO hNs hn rfl)) ?_
  refine zA (zN ?_)
  refine zY [(3,_),(8,_),(9,_),(57,_),(58,_),(59,_)] (fun T L0 E I' loc'=>∃ (a2:Option Addr) (c2:Nat),E=(19,.slice a2 (n9+1) c2)::T∧HLe J4 I'∧[(r_20,Yu (.int .i64) Ji (Ys (fun x=>x.lm.no) (fun x=>x.lm) 1 xs))]=loc'∧Sl I' 9 ZI a2 (n9+1) c2 ((zgu zhn VK (Ys (fun x=>x.lm.no) (fun x=>x.lm) 1 xs) (ns.take j))++[(ZT (Ys (fun x=>x.lm.no) (fun x=>x.lm) 1 xs) m9).getD VK])) ?_ ?_
  ·
   have hKc16:=zvV J4
   have hD:=zvV J4
   refine ZO ?_
   refine Q3 J4 [(r_20,Yu (.int .i64) Ji (Ys (fun x=>x.lm.no) (fun x=>x.lm) 1 xs))] mixed ?_
   refine zT 0 rfl (Qj rfl) hD ?_
   refine zT 2 rfl (Qj rfl) hD ?_
   refine zT 3 rfl (Qj rfl) hD ?_
   refine zT 4 rfl (Ui (ek:=Value.int .i64) (ev:=Ji) VK WG Zh rfl rfl (fun _=>(by exact Mem.m0))) hD ?_
   obtain ⟨y,hydef⟩:∃ y,y=(ZT (Ys (fun x=>x.lm.no) (fun x=>x.lm) 1 xs) m9).getD VK:=⟨_,rfl⟩
   rw [←hydef]
   refine Zb 1 5 rfl rfl (by kernel_rfl) ?_ ?_
   ·
    refine qcV (vs:=[_]) rfl zkP (zh3 _ _ _ _ hY.cap) ?_
    refine Qb ?_
    refine zD hD ?_
    refine qd 5 rfl ?_
    refine Ql (ps:=[(0,_)]) (m:=[ZI y]) Wj rfl (.cons rfl (.nil)) rfl (by simp [Yq]) (by decide) (by decide) rfl rfl (fun b_68=>?_)
    refine Qb ?_
    refine zD hD ?_
    refine qd 6 rfl ?_
    refine QZ (ys:=[y].flatMap ZI) Yq rfl rfl Wj hY.cut ⟨rfl,fun _=>rfl,by repeat (first | exact zvT | apply zvS)⟩ (by decide) (by omega) rfl rfl ?_
    intro v1 L1 hO1
    rw [←List.flatMap_append] at hO1
    refine YE hO1 Yq (by decide) (by repeat (first | exact .cons .here .nil | exact Qv | exact Qq | apply Qp | apply Qo)) (fun I5 hI5 af5 cf5 ef5 hZ=>?_)
    subst ef5
    have hKc16:=hKc16.trans hI5;have hD:=hD.trans hI5
    refine Qb ?_
    refine zD hD ?_
    refine zT 7 rfl (QD rfl) hD ?_
    refine Qn (by kernel_rfl) ?_
    refine QA ?_
    exact zm (h:=⟨_,_,rfl,hKc16,rfl,by exact hZ⟩)
   refine Ql (ps:=[(0,_)]) (m:=[ZI y]) Wj rfl (.cons rfl (.nil)) rfl (by simp [Yq]) (by decide) (by decide) rfl rfl (fun b_68=>?_)
   refine Qb ?_
   refine zD hD ?_
   refine qd 1 rfl ?_
   refine qcV (vs:=[_]) rfl zkP (zh3 _ _ _ _ hY.cap) ?_
   refine Qb ?_
   refine zD hD ?_
   refine qd 6 rfl ?_
   refine QZ (ys:=[y].flatMap ZI) Yq rfl rfl Wj hY.cut ⟨rfl,fun _=>rfl,by repeat (first | exact zvT | apply zvS)⟩ (by decide) (by omega) rfl rfl ?_
   intro v1 L1 hO1
   rw [←List.flatMap_append] at hO1
   refine YE hO1 Yq (by decide) (by repeat (first | exact .cons .here .nil | exact Qv | exact Qq | apply Qp | apply Qo)) (fun I6 hI6 af6 cf6 ef6 hZ=>?_)
   subst ef6
   have hKc16:=hKc16.trans hI6;have hD:=hD.trans hI6
   refine Qb ?_
   refine zD hD ?_
   refine zT 7 rfl (QD rfl) hD ?_
   refine Qn (by kernel_rfl) ?_
   refine QA ?_
   exact zm (h:=⟨_,_,rfl,hKc16,rfl,by exact hZ⟩)
  rintro E J7 loc' ⟨a2,c2,rfl,hJ16,rfl,hZ⟩
  have hY:=hY.mono hJ16;have hB2:=hB2.trans hJ16
  refine zR (zM ?_)
  refine zM ?_
  refine qcV (vs:=[_]) rfl ziY (zkc hZ (by omega)) ?_
  refine zC (zN ?_)
  refine zI ?_ ?_<;>intro hc73
  ·
   refine Qk (zM ?_)
   refine zA (Qb (Qm (Qc (Qk ?_))))
   refine zB ?_
   refine zM (Qb ?_)
   first
   | exact zm (h:=⟨q-(j+1),by omega,j+1,_,_,_,rfl,rfl,hB2,rfl,by omega,by rw [Jg hn,zhi,if_pos hc73];exact hZ,by omega⟩)
  refine Qz (Qm (Qc (Qk (zB ?_))))
  refine zM (Qb ?_)
  first
  | exact zm (h:=⟨q-(j+1),by omega,j+1,_,_,_,rfl,rfl,hB2,rfl,by omega,by rw [Jg hn,zhi,if_neg (by rw [hc73];simp)];exact hY,by omega⟩)
 have hge_j:q≤j:=by have h:=hc60;simp at h;omega
 have hke2:ns.take j=ns:=Z8 hnl hge_j
 rw [hke2] at hY
 refine ZF (Qt (Qt (QC (Qc (zR (zM ?_))))))
 refine zA (zN (QE ?_))
 exact QS rfl rfl (fun w hw=>⟨_,J4,[],rfl,hIc,by exact hw.drop,rfl,_,_,_,rfl,by rw [zdP,←hnsd];exact hY⟩)
theorem zlm {I:Qu}{av:Option Addr}{n c:Nat}{xs:List Nt}(hP:zbh I av n c xs)(hn0:n≤4096):Vh Tryz.prog 68 [.slice av n c,.int .i64 3,.func (.func 69) #[] #[],.func (.func 38) #[] #[]] I [] (fun v I' L'=>L'=[]∧∃ a n c,v= .slice a n c∧Sl I' 5 L.encL a n c (zdP (fun x=>x.ls.no) (fun x=>x.ls) 3 L.chk L.zeroL xs)):=by
 intro g H w hw
 refine qe Tryz.func68 Tryz.ntmps68 hw ?_
 have hIc:=zvV I
 have hln:=hP.sl.len
 refine zR (zA ?_)
 refine zN (zR ?_)
 refine Yb rfl rfl (fun r_20=>?_)
 refine (show XO _ _ _ _ _ _ _ ((r_20,Yu (.int .i64) L.encA ([]:List (Int×L.Ls)))::_) from ?_)
 refine zA ?_
 refine zN (zR ?_)
 refine zA (zN (Qr (zR ?_)))
 refine zM ?_
 refine zQ Zs ?_
 refine zM (zN (QB ?_))
 refine zU [(1,_),(2,_),(3,_),(8,_),(9,_),(21,_),(22,_)] (fun T L0 mz E I' loc'=>∃ (k:Nat) (v:Value) (q:Nat) (Lw:Go.Kn.Loc),mz=n-k∧E=(10,v)::(23,.int .i64 k)::T∧I=I'∧Lw++[(r_20,Yu (.int .i64) L.encA (Ys (fun x=>x.ls.no) (fun x=>x.ls) 3 (xs.take k)))]=loc'∧k≤n∧Yk 3 1 v q (((Ys (fun x=>x.ls.no) (fun x=>x.ls) 3 (xs.take k)).map (·.1)).flatMap Yd) Lw∧q=(Ys (fun x=>x.ls.no) (fun x=>x.ls) 3 (xs.take k)).length) ?_ (h:=⟨0,_,0,[],rfl,rfl,rfl,rfl,Nat.zero_le _,Yk.nil,rfl⟩)
 rintro mz E I' loc' ⟨k,v,q,Lw,rfl,rfl,rfl,rfl,hk,hO,hq⟩
 refine zR (zC (zN (Qr ?_)))
 refine zI ?_ ?_<;>intro hc24
 ·
  have hlt_k:k<n:=by have h:=hc24;simp at h;omega
  obtain ⟨x,hx⟩:∃ y,xs[k]? =some y:=⟨_,List.getElem?_eq_getElem (by omega)⟩
  have hml:(Ys (fun x=>x.ls.no) (fun x=>x.ls) 3 (xs.take k)).length≤k:=Nat.le_trans VD (List.length_take_le ..)
  refine Qz (Qc (Qr (QB (zR ?_))))
  refine zV (QV rfl rfl Zs hP.sl (fun hg=>by omega)) ?_
  refine zV (Qg rfl Zr (fun hg=>by exact zvW hP.sl hx) rfl) ?_
  refine Qs KM rfl rfl (fun b_12=>?_)
  refine zh Vp ?_
  refine zN (zR ?_)
  refine zM ?_
  refine zV (Qg rfl Zr (fun hg=>by exact Cells.g0) rfl) ?_
  refine qcV (vs:=[_]) rfl zrj (zqi _ x) ?_
  refine zM ?_
  refine zE ?_
  refine zE ?_
  refine Qs zem rfl rfl (fun b_13=>?_)
  refine zh zaQ ?_
  refine zA (zN (Qr ?_))
  rcases hget:ZT (Ys (fun x=>x.ls.no) (fun x=>x.ls) 3 (xs.take k)) (x.ls.no) with _ | y0
  ·
   refine Qk (zM ?_)
   refine zM ?_
   refine zV (Z2 (ek:=Value.int .i64) (ev:=L.encA) zb2 Zh rfl rfl (fun _=>(by (repeat (first | exact Mem.m0 | apply Mem.there | apply Mem.app))))) ?_
   rw [hget]
   refine zM ?_
   refine zE ?_
   refine zE ?_
   refine Qs zem rfl rfl (fun b_15=>?_)
   refine zh zaQ ?_
   refine zA ?_
   refine zN (zR ?_)
   refine zF Y8 ?_
   refine zL Qy ?_
   refine zM ?_
   refine zC ?_
   refine zM ?_
   refine QL 4 rfl rfl rfl ?_
   refine zK (Qj rfl) ?_
   refine zK (YB rfl) ?_
   refine QU rfl rfl rfl rfl rfl ?_
   refine zN ?_
   refine zI ?_ ?_<;>intro hc46
   ·
    have hkd:(x.kind==3)=true:=by simpa using hc46
    refine zR (zM ?_)
    refine zM ?_
    refine zV (Qg rfl KE (fun hg=>by exact Cells.g1) rfl) ?_
    refine ZR (ek:=Value.int .i64) (ev:=L.encA) (x.ls) zb2 Zh rfl rfl rfl rfl (by (repeat (first | exact Upd.here | apply Upd.there | apply Qw))) ?_
    refine zN (Qk (zM ?_))
    refine zM ?_
    refine Ql (ps:=[(0,_)]) (m:=[Yd (x.ls.no)]) Y1 rfl (.cons rfl (.nil)) rfl (by simp [Zu]) (by decide) (by decide) rfl rfl (fun b_52=>?_)
    refine Q4 (v:=_) (ys:=[x.ls.no].flatMap Yd) (L:=Lw) rfl rfl Y1 hO (by repeat (first | exact .cons .here .nil | exact Qv | exact Qq | apply Qp | apply Qo)) ⟨rfl,fun _=>rfl,by repeat (first | exact zvT | apply zvS | apply zvU)⟩ (X3 [x.ls.no]) (by omega) rfl rfl ?_
    intro v9 L9 hO9 _;rw [←List.flatMap_append] at hO9
    refine zA (Qb (Qm (Qc (Qk ?_))))
    refine zB ?_
    refine zM (Qb ?_)
    exact Zq _ (L9++[(r_20,Yu (.int .i64) L.encA (JC (Ys (fun x=>x.ls.no) (fun x=>x.ls) 3 (xs.take k)) (x.ls.no) (x.ls)))]) ⟨n-(k+1),by omega,k+1,_,_,_,rfl,rfl,rfl,by rw [Zk hx,Xq hget hkd],by omega,by rw [Zk hx,Jh hget hkd];exact hO9,by rw [Zk hx,←List.length_map (f:=fun p=>p.1),Jh hget hkd,List.length_append,List.length_map];simp;omega⟩ (.cons rfl (.cons rfl (.cons rfl (.cons rfl (.cons rfl (.cons rfl (.cons rfl (.cons rfl (.cons rfl .nil))))))))) (by repeat (first | exact .refl | exact QN | refine Za ?_ | refine .drop ?_ | refine Qe ?_))
   have hkd:(x.kind==3)=false:=by simpa using hc46
   have hsame:za8 (fun x=>x.ls.no) (fun x=>x.ls) 3 (Ys (fun x=>x.ls.no) (fun x=>x.ls) 3 (xs.take k)) x=(Ys (fun x=>x.ls.no) (fun x=>x.ls) 3 (xs.take k)):=zco hkd
   refine Qz (Qm (Qc (Qk (zB ?_))))
   refine zM (Qb ?_)
   exact Zq _ (Lw++[(r_20,Yu (.int .i64) L.encA (Ys (fun x=>x.ls.no) (fun x=>x.ls) 3 (xs.take k)))]) ⟨n-(k+1),by omega,k+1,_,_,_,rfl,rfl,rfl,by rw [Zk hx,hsame],by omega,by rw [Zk hx,hsame];exact hO,by rw [Zk hx,hsame];exact hq⟩ (.cons rfl (.cons rfl (.cons rfl (.cons rfl (.cons rfl (.cons rfl (.cons rfl (.cons rfl (.cons rfl .nil))))))))) (by repeat (first | exact .refl | exact QN | refine Za ?_ | refine .drop ?_ | refine Qe ?_))
  refine Qk (zM ?_)
  refine zM ?_
  refine zV (Z2 (ek:=Value.int .i64) (ev:=L.encA) zb2 Zh rfl rfl (fun _=>(by (repeat (first | exact Mem.m0 | apply Mem.there | apply Mem.app))))) ?_
  rw [hget]
  refine zM ?_
  refine zE ?_
  refine zE ?_
  refine Qs zem rfl rfl (fun b_15=>?_)
  refine zh zaQ ?_
  refine zA ?_
  refine zN (zR ?_)
  refine zF Y8 ?_
  refine zL Qy ?_
  refine zM ?_
  refine zC ?_
  refine zM ?_
  refine QL 4 rfl rfl rfl ?_
  refine zK (Qj rfl) ?_
  refine zK (YB rfl) ?_
  refine QU rfl rfl rfl rfl rfl ?_
  refine zN ?_
  refine zI ?_ ?_<;>intro hc46
  ·
   simp at hc46
  have hsame:za8 (fun x=>x.ls.no) (fun x=>x.ls) 3 (Ys (fun x=>x.ls.no) (fun x=>x.ls) 3 (xs.take k)) x=(Ys (fun x=>x.ls.no) (fun x=>x.ls) 3 (xs.take k)):=Xm hget
  refine Qz (Qm (Qc (Qk (zB ?_))))
  refine zM (Qb ?_)
  exact Zq _ (Lw++[(r_20,Yu (.int .i64) L.encA (Ys (fun x=>x.ls.no) (fun x=>x.ls) 3 (xs.take k)))]) ⟨n-(k+1),by omega,k+1,_,_,_,rfl,rfl,rfl,by rw [Zk hx,hsame],by omega,by rw [Zk hx,hsame];exact hO,by rw [Zk hx,hsame];exact hq⟩ (.cons rfl (.cons rfl (.cons rfl (.cons rfl (.cons rfl (.cons rfl (.cons rfl (.cons rfl (.cons rfl .nil))))))))) (by repeat (first | exact .refl | exact QN | refine Za ?_ | refine .drop ?_ | refine Qe ?_))
 have hge_k:n≤k:=by have h:=hc24;simp at h;omega
 have hml:=VD (num:=(fun x=>x.ls.no)) (prt:=(fun x=>x.ls)) (kind:=3) (xs:=xs)
 have hke:xs.take k=xs:=Z8 hln hge_k
 rw [hke] at hO hq ⊢
 refine ZF (Qt (Qt (QC (Qc (zR (zM ?_))))))
 refine QF (cap:=[]) (vs:=[_]) rfl rfl zaH Qq (zfS 3 ((Ys (fun x=>x.ls.no) (fun x=>x.ls) 3 xs).map (·.1)) (by rw [←JO];exact hO) (by omega) _) rfl rfl ?_
 rintro vv2 I2 L2 hI2 ⟨rfl,rfl,hO2⟩
 have hIc:=hIc.trans hI2
 rw [←JO] at hO2
 refine zN (Qr (Qr ?_))
 refine Zy hO2 Zu (by decide) (by repeat (first | exact .cons .here .nil | exact Qv | exact Qq | apply Qp | apply Qo)) (fun I3 hI3 af3 cf3 ef3 hNs=>?_)
 subst ef3
 have hIc:=hIc.trans hI3
 obtain ⟨ns,hnsd⟩:∃ y,y=zbj ((Ys (fun x=>x.ls.no) (fun x=>x.ls) 3 xs).map (·.1)):=⟨_,rfl⟩
 rw [←hnsd] at hNs
 have hnl:=hNs.len
 have hml:=VD (num:=(fun x=>x.ls.no)) (prt:=(fun x=>x.ls)) (kind:=3) (xs:=xs)
 refine Qk (zM ?_)
 refine zQ Yh ?_
 refine zM (zN (QB ?_))
 refine zU [(3,_),(9,_),(57,_),(58,_)] (fun T L0 mz E I' loc'=>∃ (j:Nat) (a9:Option Addr) (n9:Nat) (c9:Nat),mz=q-j∧E=(8,.slice a9 n9 c9)::(59,.int .i64 j)::T∧HLe I3 I'∧[(r_20,Yu (.int .i64) L.encA (Ys (fun x=>x.ls.no) (fun x=>x.ls) 3 xs))]=loc'∧j≤q∧Sl I' 5 L.encL a9 n9 c9 (zgu L.chk L.zeroL (Ys (fun x=>x.ls.no) (fun x=>x.ls) 3 xs) (ns.take j))∧n9≤j) ?_ (h:=⟨0,none,0,0,rfl,rfl,zvV _,rfl,Nat.zero_le _,Sl.nil,Nat.le_refl _⟩)
 rintro mz E J4 loc' ⟨j,a9,n9,c9,rfl,rfl,hJ,rfl,hj,hY,hn9⟩
 have hNs:=hNs.mono hJ;have hIc:=hIc.trans hJ
 have hB2:=hJ
 refine zR (zC (zN (Qr ?_)))
 refine zI ?_ ?_<;>intro hc60
 ·
  have hlt_j:j<q:=by have h:=hc60;simp at h;omega
  obtain ⟨m9,hn⟩:∃ y,ns[j]? =some y:=⟨_,List.getElem?_eq_getElem (by omega)⟩
  refine Qz (Qc (Qr (QB (zR ?_))))
  refine zV (zX Yh hNs) ?_
  refine zV (Qd rfl Qy (fun hg=>by exact zvO hNs hn rfl)) ?_
  refine zA (zN ?_)
  refine zY [(3,_),(8,_),(9,_),(57,_),(58,_),(59,_)] (fun T L0 E I' loc'=>∃ (a2:Option Addr) (c2:Nat),E=(19,.slice a2 (n9+1) c2)::T∧HLe J4 I'∧[(r_20,Yu (.int .i64) L.encA (Ys (fun x=>x.ls.no) (fun x=>x.ls) 3 xs))]=loc'∧Sl I' 5 L.encL a2 (n9+1) c2 ((zgu L.chk L.zeroL (Ys (fun x=>x.ls.no) (fun x=>x.ls) 3 xs) (ns.take j))++[(ZT (Ys (fun x=>x.ls.no) (fun x=>x.ls) 3 xs) m9).getD L.zeroL])) ?_ ?_
  ·
   have hKc16:=zvV J4
   have hD:=zvV J4
   refine ZO ?_
   refine Q3 J4 [(r_20,Yu (.int .i64) L.encA (Ys (fun x=>x.ls.no) (fun x=>x.ls) 3 xs))] mixed ?_
   refine zT 0 rfl (Qj rfl) hD ?_
   refine zT 2 rfl (Qj rfl) hD ?_
   refine zT 3 rfl (Qj rfl) hD ?_
   refine zT 4 rfl (Ui (ek:=Value.int .i64) (ev:=L.encA) L.zeroL zb2 Zh rfl rfl (fun _=>(by exact Mem.m0))) hD ?_
   obtain ⟨y,hydef⟩:∃ y,y=(ZT (Ys (fun x=>x.ls.no) (fun x=>x.ls) 3 xs) m9).getD L.zeroL:=⟨_,rfl⟩
   rw [←hydef]
   refine Zb 1 5 rfl rfl (by kernel_rfl) ?_ ?_
   ·
    refine qcV (vs:=[_]) rfl zjP (zhs _ _ _ _ hY.cap) ?_
    refine Qb ?_
    refine zD hD ?_
    refine qd 5 rfl ?_
    refine Ql (ps:=[(0,_)]) (m:=[L.encL y]) zcY rfl (.cons rfl (.nil)) rfl (by simp [L.encL_len]) (by decide) (by decide) rfl rfl (fun b_68=>?_)
    refine Qb ?_
    refine zD hD ?_
    refine qd 6 rfl ?_
    refine QZ (ys:=[y].flatMap L.encL) L.encL_len rfl rfl zcY hY.cut ⟨rfl,fun _=>rfl,by repeat (first | exact zvT | apply zvS)⟩ (by decide) (by omega) rfl rfl ?_
    intro v1 L1 hO1
    rw [←List.flatMap_append] at hO1
    refine YE hO1 L.encL_len (by decide) (by repeat (first | exact .cons .here .nil | exact Qv | exact Qq | apply Qp | apply Qo)) (fun I5 hI5 af5 cf5 ef5 hZ=>?_)
    subst ef5
    have hKc16:=hKc16.trans hI5;have hD:=hD.trans hI5
    refine Qb ?_
    refine zD hD ?_
    refine zT 7 rfl (QD rfl) hD ?_
    refine Qn (by kernel_rfl) ?_
    refine QA ?_
    exact zm (h:=⟨_,_,rfl,hKc16,rfl,by exact hZ⟩)
   refine Ql (ps:=[(0,_)]) (m:=[L.encL y]) zcY rfl (.cons rfl (.nil)) rfl (by simp [L.encL_len]) (by decide) (by decide) rfl rfl (fun b_68=>?_)
   refine Qb ?_
   refine zD hD ?_
   refine qd 1 rfl ?_
   refine qcV (vs:=[_]) rfl zjP (zhs _ _ _ _ hY.cap) ?_
   refine Qb ?_
   refine zD hD ?_
   refine qd 6 rfl ?_
   refine QZ (ys:=[y].flatMap L.encL) L.encL_len rfl rfl zcY hY.cut ⟨rfl,fun _=>rfl,by repeat (first | exact zvT | apply zvS)⟩ (by decide) (by omega) rfl rfl ?_
   intro v1 L1 hO1
   rw [←List.flatMap_append] at hO1
   refine YE hO1 L.encL_len (by decide) (by repeat (first | exact .cons .here .nil | exact Qv | exact Qq | apply Qp | apply Qo)) (fun I6 hI6 af6 cf6 ef6 hZ=>?_)
   subst ef6
   have hKc16:=hKc16.trans hI6;have hD:=hD.trans hI6
   refine Qb ?_
   refine zD hD ?_
   refine zT 7 rfl (QD rfl) hD ?_
   refine Qn (by kernel_rfl) ?_
   refine QA ?_
   exact zm (h:=⟨_,_,rfl,hKc16,rfl,by exact hZ⟩)
  rintro E J7 loc' ⟨a2,c2,rfl,hJ16,rfl,hZ⟩
  have hY:=hY.mono hJ16;have hB2:=hB2.trans hJ16
  refine zR (zM ?_)
  refine zM ?_
  refine qcV (vs:=[_]) rfl zoe (L.w_check hZ (by omega)) ?_
  refine zC (zN ?_)
  refine zI ?_ ?_<;>intro hc73
  ·
   refine Qk (zM ?_)
   refine zA (Qb (Qm (Qc (Qk ?_))))
   refine zB ?_
   refine zM (Qb ?_)
   first
   | exact zm (h:=⟨q-(j+1),by omega,j+1,_,_,_,rfl,rfl,hB2,rfl,by omega,by rw [Jg hn,zhi,if_pos hc73];exact hZ,by omega⟩)
  refine Qz (Qm (Qc (Qk (zB ?_))))
  refine zM (Qb ?_)
  first
  | exact zm (h:=⟨q-(j+1),by omega,j+1,_,_,_,rfl,rfl,hB2,rfl,by omega,by rw [Jg hn,zhi,if_neg (by rw [hc73];simp)];exact hY,by omega⟩)
 have hge_j:q≤j:=by have h:=hc60;simp at h;omega
 have hke2:ns.take j=ns:=Z8 hnl hge_j
 rw [hke2] at hY
 refine ZF (Qt (Qt (QC (Qc (zR (zM ?_))))))
 refine zA (zN (QE ?_))
 exact QS rfl rfl (fun w hw=>⟨_,J4,[],rfl,hIc,by exact hw.drop,rfl,_,_,_,rfl,by rw [zdP,←hnsd];exact hY⟩)
theorem zmP {I:Qu}{av:Option Addr}{n c:Nat}{xs:List Nt}(hP:zbh I av n c xs)(hn0:n≤4096):Vh Tryz.prog 70 [.slice av n c,.int .i64 2,.func (.func 71) #[] #[],.func (.func 39) #[] #[]] I [] (fun v I' L'=>L'=[]∧∃ a n c,v= .slice a n c∧Sl I' 19 WV a n c (zdP (fun x=>x.pt.id) (fun x=>x.pt) 2 zbi JF xs)):=by
 intro g H w hw
 refine qe Tryz.func70 Tryz.ntmps70 hw ?_
 have hIc:=zvV I
 have hln:=hP.sl.len
 refine zR (zA ?_)
 refine zN (zR ?_)
 refine Yb rfl rfl (fun r_20=>?_)
 refine (show XO _ _ _ _ _ _ _ ((r_20,Yu (.int .i64) Uo ([]:List (Int×Pt)))::_) from ?_)
 refine zA ?_
 refine zN (zR ?_)
 refine zA (zN (Qr (zR ?_)))
 refine zM ?_
 refine zQ Zs ?_
 refine zM (zN (QB ?_))
 refine zU [(1,_),(2,_),(3,_),(8,_),(9,_),(21,_),(22,_)] (fun T L0 mz E I' loc'=>∃ (k:Nat) (v:Value) (q:Nat) (Lw:Go.Kn.Loc),mz=n-k∧E=(10,v)::(23,.int .i64 k)::T∧I=I'∧Lw++[(r_20,Yu (.int .i64) Uo (Ys (fun x=>x.pt.id) (fun x=>x.pt) 2 (xs.take k)))]=loc'∧k≤n∧Yk 3 1 v q (((Ys (fun x=>x.pt.id) (fun x=>x.pt) 2 (xs.take k)).map (·.1)).flatMap Yd) Lw∧q=(Ys (fun x=>x.pt.id) (fun x=>x.pt) 2 (xs.take k)).length) ?_ (h:=⟨0,_,0,[],rfl,rfl,rfl,rfl,Nat.zero_le _,Yk.nil,rfl⟩)
 rintro mz E I' loc' ⟨k,v,q,Lw,rfl,rfl,rfl,rfl,hk,hO,hq⟩
 refine zR (zC (zN (Qr ?_)))
 refine zI ?_ ?_<;>intro hc24
 ·
  have hlt_k:k<n:=by have h:=hc24;simp at h;omega
  obtain ⟨x,hx⟩:∃ y,xs[k]? =some y:=⟨_,List.getElem?_eq_getElem (by omega)⟩
  have hml:(Ys (fun x=>x.pt.id) (fun x=>x.pt) 2 (xs.take k)).length≤k:=Nat.le_trans VD (List.length_take_le ..)
  refine Qz (Qc (Qr (QB (zR ?_))))
  refine zV (QV rfl rfl Zs hP.sl (fun hg=>by omega)) ?_
  refine zV (Qg rfl Zr (fun hg=>by exact zvW hP.sl hx) rfl) ?_
  refine Qs KM rfl rfl (fun b_12=>?_)
  refine zh Vp ?_
  refine zN (zR ?_)
  refine zM ?_
  refine zV (Qg rfl Zr (fun hg=>by exact Cells.g0) rfl) ?_
  refine qcV (vs:=[_]) rfl ztN (zo9 _ x) ?_
  refine zM ?_
  refine zE ?_
  refine zE ?_
  refine Qs za9 rfl rfl (fun b_13=>?_)
  refine zh K5 ?_
  refine zA (zN (Qr ?_))
  rcases hget:ZT (Ys (fun x=>x.pt.id) (fun x=>x.pt) 2 (xs.take k)) (x.pt.id) with _ | y0
  ·
   refine Qk (zM ?_)
   refine zM ?_
   refine zV (Z2 (ek:=Value.int .i64) (ev:=Uo) zcD Zh rfl rfl (fun _=>(by (repeat (first | exact Mem.m0 | apply Mem.there | apply Mem.app))))) ?_
   rw [hget]
   refine zM ?_
   refine zE ?_
   refine zE ?_
   refine Qs za9 rfl rfl (fun b_15=>?_)
   refine zh K5 ?_
   refine zA ?_
   refine zN (zR ?_)
   refine zF Y8 ?_
   refine zL Qy ?_
   refine zM ?_
   refine zC ?_
   refine zM ?_
   refine QL 4 rfl rfl rfl ?_
   refine zK (Qj rfl) ?_
   refine zK (YB rfl) ?_
   refine QU rfl rfl rfl rfl rfl ?_
   refine zN ?_
   refine zI ?_ ?_<;>intro hc46
   ·
    have hkd:(x.kind==2)=true:=by simpa using hc46
    refine zR (zM ?_)
    refine zM ?_
    refine zV (Qg rfl JS (fun hg=>by exact Cells.g1) rfl) ?_
    refine ZR (ek:=Value.int .i64) (ev:=Uo) (x.pt) zcD Zh rfl rfl rfl rfl (by (repeat (first | exact Upd.here | apply Upd.there | apply Qw))) ?_
    refine zN (Qk (zM ?_))
    refine zM ?_
    refine Ql (ps:=[(0,_)]) (m:=[Yd (x.pt.id)]) Y1 rfl (.cons rfl (.nil)) rfl (by simp [Zu]) (by decide) (by decide) rfl rfl (fun b_52=>?_)
    refine Q4 (v:=_) (ys:=[x.pt.id].flatMap Yd) (L:=Lw) rfl rfl Y1 hO (by repeat (first | exact .cons .here .nil | exact Qv | exact Qq | apply Qp | apply Qo)) ⟨rfl,fun _=>rfl,by repeat (first | exact zvT | apply zvS | apply zvU)⟩ (X3 [x.pt.id]) (by omega) rfl rfl ?_
    intro v9 L9 hO9 _;rw [←List.flatMap_append] at hO9
    refine zA (Qb (Qm (Qc (Qk ?_))))
    refine zB ?_
    refine zM (Qb ?_)
    exact Zq _ (L9++[(r_20,Yu (.int .i64) Uo (JC (Ys (fun x=>x.pt.id) (fun x=>x.pt) 2 (xs.take k)) (x.pt.id) (x.pt)))]) ⟨n-(k+1),by omega,k+1,_,_,_,rfl,rfl,rfl,by rw [Zk hx,Xq hget hkd],by omega,by rw [Zk hx,Jh hget hkd];exact hO9,by rw [Zk hx,←List.length_map (f:=fun p=>p.1),Jh hget hkd,List.length_append,List.length_map];simp;omega⟩ (.cons rfl (.cons rfl (.cons rfl (.cons rfl (.cons rfl (.cons rfl (.cons rfl (.cons rfl (.cons rfl .nil))))))))) (by repeat (first | exact .refl | exact QN | refine Za ?_ | refine .drop ?_ | refine Qe ?_))
   have hkd:(x.kind==2)=false:=by simpa using hc46
   have hsame:za8 (fun x=>x.pt.id) (fun x=>x.pt) 2 (Ys (fun x=>x.pt.id) (fun x=>x.pt) 2 (xs.take k)) x=(Ys (fun x=>x.pt.id) (fun x=>x.pt) 2 (xs.take k)):=zco hkd
   refine Qz (Qm (Qc (Qk (zB ?_))))
   refine zM (Qb ?_)
   exact Zq _ (Lw++[(r_20,Yu (.int .i64) Uo (Ys (fun x=>x.pt.id) (fun x=>x.pt) 2 (xs.take k)))]) ⟨n-(k+1),by omega,k+1,_,_,_,rfl,rfl,rfl,by rw [Zk hx,hsame],by omega,by rw [Zk hx,hsame];exact hO,by rw [Zk hx,hsame];exact hq⟩ (.cons rfl (.cons rfl (.cons rfl (.cons rfl (.cons rfl (.cons rfl (.cons rfl (.cons rfl (.cons rfl .nil))))))))) (by repeat (first | exact .refl | exact QN | refine Za ?_ | refine .drop ?_ | refine Qe ?_))
  refine Qk (zM ?_)
  refine zM ?_
  refine zV (Z2 (ek:=Value.int .i64) (ev:=Uo) zcD Zh rfl rfl (fun _=>(by (repeat (first | exact Mem.m0 | apply Mem.there | apply Mem.app))))) ?_
  rw [hget]
  refine zM ?_
  refine zE ?_
  refine zE ?_
  refine Qs za9 rfl rfl (fun b_15=>?_)
  refine zh K5 ?_
  refine zA ?_
  refine zN (zR ?_)
  refine zF Y8 ?_
  refine zL Qy ?_
  refine zM ?_
  refine zC ?_
  refine zM ?_
  refine QL 4 rfl rfl rfl ?_
  refine zK (Qj rfl) ?_
  refine zK (YB rfl) ?_
  refine QU rfl rfl rfl rfl rfl ?_
  refine zN ?_
  refine zI ?_ ?_<;>intro hc46
  ·
   simp at hc46
  have hsame:za8 (fun x=>x.pt.id) (fun x=>x.pt) 2 (Ys (fun x=>x.pt.id) (fun x=>x.pt) 2 (xs.take k)) x=(Ys (fun x=>x.pt.id) (fun x=>x.pt) 2 (xs.take k)):=Xm hget
  refine Qz (Qm (Qc (Qk (zB ?_))))
  refine zM (Qb ?_)
  exact Zq _ (Lw++[(r_20,Yu (.int .i64) Uo (Ys (fun x=>x.pt.id) (fun x=>x.pt) 2 (xs.take k)))]) ⟨n-(k+1),by omega,k+1,_,_,_,rfl,rfl,rfl,by rw [Zk hx,hsame],by omega,by rw [Zk hx,hsame];exact hO,by rw [Zk hx,hsame];exact hq⟩ (.cons rfl (.cons rfl (.cons rfl (.cons rfl (.cons rfl (.cons rfl (.cons rfl (.cons rfl (.cons rfl .nil))))))))) (by repeat (first | exact .refl | exact QN | refine Za ?_ | refine .drop ?_ | refine Qe ?_))
 have hge_k:n≤k:=by have h:=hc24;simp at h;omega
 have hml:=VD (num:=(fun x=>x.pt.id)) (prt:=(fun x=>x.pt)) (kind:=2) (xs:=xs)
 have hke:xs.take k=xs:=Z8 hln hge_k
 rw [hke] at hO hq ⊢
 refine ZF (Qt (Qt (QC (Qc (zR (zM ?_))))))
 refine QF (cap:=[]) (vs:=[_]) rfl rfl zaH Qq (zfS 3 ((Ys (fun x=>x.pt.id) (fun x=>x.pt) 2 xs).map (·.1)) (by rw [←JO];exact hO) (by omega) _) rfl rfl ?_
 rintro vv2 I2 L2 hI2 ⟨rfl,rfl,hO2⟩
 have hP:=hP.mono hI2;have hIc:=hIc.trans hI2
 rw [←JO] at hO2
 refine zN (Qr (Qr ?_))
 refine Zy hO2 Zu (by decide) (by repeat (first | exact .cons .here .nil | exact Qv | exact Qq | apply Qp | apply Qo)) (fun I3 hI3 af3 cf3 ef3 hNs=>?_)
 subst ef3
 have hP:=hP.mono hI3;have hIc:=hIc.trans hI3
 obtain ⟨ns,hnsd⟩:∃ y,y=zbj ((Ys (fun x=>x.pt.id) (fun x=>x.pt) 2 xs).map (·.1)):=⟨_,rfl⟩
 rw [←hnsd] at hNs
 have hnl:=hNs.len
 have hml:=VD (num:=(fun x=>x.pt.id)) (prt:=(fun x=>x.pt)) (kind:=2) (xs:=xs)
 refine Qk (zM ?_)
 refine zQ Yh ?_
 refine zM (zN (QB ?_))
 refine zU [(3,_),(9,_),(57,_),(58,_)] (fun T L0 mz E I' loc'=>∃ (j:Nat) (a9:Option Addr) (n9:Nat) (c9:Nat),mz=q-j∧E=(8,.slice a9 n9 c9)::(59,.int .i64 j)::T∧HLe I3 I'∧[(r_20,Yu (.int .i64) Uo (Ys (fun x=>x.pt.id) (fun x=>x.pt) 2 xs))]=loc'∧j≤q∧Sl I' 19 WV a9 n9 c9 (zgu zbi JF (Ys (fun x=>x.pt.id) (fun x=>x.pt) 2 xs) (ns.take j))∧n9≤j) ?_ (h:=⟨0,none,0,0,rfl,rfl,zvV _,rfl,Nat.zero_le _,Sl.nil,Nat.le_refl _⟩)
 rintro mz E J4 loc' ⟨j,a9,n9,c9,rfl,rfl,hJ,rfl,hj,hY,hn9⟩
 have hP:=hP.mono hJ;have hNs:=hNs.mono hJ;have hIc:=hIc.trans hJ
 have hB2:=hJ
 refine zR (zC (zN (Qr ?_)))
 refine zI ?_ ?_<;>intro hc60
 ·
  have hlt_j:j<q:=by have h:=hc60;simp at h;omega
  obtain ⟨m9,hn⟩:∃ y,ns[j]? =some y:=⟨_,List.getElem?_eq_getElem (by omega)⟩
  refine Qz (Qc (Qr (QB (zR ?_))))
  refine zV (zX Yh hNs) ?_
  refine zV (Qd rfl Qy (fun hg=>by exact zvO hNs hn rfl)) ?_
  refine zA (zN ?_)
  refine zY [(3,_),(8,_),(9,_),(57,_),(58,_),(59,_)] (fun T L0 E I' loc'=>∃ (a2:Option Addr) (c2:Nat),E=(19,.slice a2 (n9+1) c2)::T∧HLe J4 I'∧[(r_20,Yu (.int .i64) Uo (Ys (fun x=>x.pt.id) (fun x=>x.pt) 2 xs))]=loc'∧Sl I' 19 WV a2 (n9+1) c2 ((zgu zbi JF (Ys (fun x=>x.pt.id) (fun x=>x.pt) 2 xs) (ns.take j))++[(ZT (Ys (fun x=>x.pt.id) (fun x=>x.pt) 2 xs) m9).getD JF])) ?_ ?_
  ·
   have hKc16:=zvV J4
   have hD:=zvV J4
   refine ZO ?_
   refine Q3 J4 [(r_20,Yu (.int .i64) Uo (Ys (fun x=>x.pt.id) (fun x=>x.pt) 2 xs))] mixed ?_
   refine zT 0 rfl (Qj rfl) hD ?_
   refine zT 2 rfl (Qj rfl) hD ?_
   refine zT 3 rfl (Qj rfl) hD ?_
   refine zT 4 rfl (Ui (ek:=Value.int .i64) (ev:=Uo) JF zcD Zh rfl rfl (fun _=>(by exact Mem.m0))) hD ?_
   obtain ⟨y,hydef⟩:∃ y,y=(ZT (Ys (fun x=>x.pt.id) (fun x=>x.pt) 2 xs) m9).getD JF:=⟨_,rfl⟩
   rw [←hydef]
   refine Zb 1 5 rfl rfl (by kernel_rfl) ?_ ?_
   ·
    refine qcV (vs:=[_]) rfl zio (zkX _ _ _ _ hY.cap) ?_
    refine Qb ?_
    refine zD hD ?_
    refine qd 5 rfl ?_
    refine Ql (ps:=[(0,_)]) (m:=[WV y]) zfy rfl (.cons rfl (.nil)) rfl (by simp [JN]) (by decide) (by decide) rfl rfl (fun b_68=>?_)
    refine Qb ?_
    refine zD hD ?_
    refine qd 6 rfl ?_
    refine QZ (ys:=[y].flatMap WV) JN rfl rfl zfy hY.cut ⟨rfl,fun _=>rfl,by repeat (first | exact zvT | apply zvS)⟩ (by decide) (by omega) rfl rfl ?_
    intro v1 L1 hO1
    rw [←List.flatMap_append] at hO1
    refine YE hO1 JN (by decide) (by repeat (first | exact .cons .here .nil | exact Qv | exact Qq | apply Qp | apply Qo)) (fun I5 hI5 af5 cf5 ef5 hZ=>?_)
    subst ef5
    have hKc16:=hKc16.trans hI5;have hD:=hD.trans hI5
    refine Qb ?_
    refine zD hD ?_
    refine zT 7 rfl (QD rfl) hD ?_
    refine Qn (by kernel_rfl) ?_
    refine QA ?_
    exact zm (h:=⟨_,_,rfl,hKc16,rfl,by exact hZ⟩)
   refine Ql (ps:=[(0,_)]) (m:=[WV y]) zfy rfl (.cons rfl (.nil)) rfl (by simp [JN]) (by decide) (by decide) rfl rfl (fun b_68=>?_)
   refine Qb ?_
   refine zD hD ?_
   refine qd 1 rfl ?_
   refine qcV (vs:=[_]) rfl zio (zkX _ _ _ _ hY.cap) ?_
   refine Qb ?_
   refine zD hD ?_
   refine qd 6 rfl ?_
   refine QZ (ys:=[y].flatMap WV) JN rfl rfl zfy hY.cut ⟨rfl,fun _=>rfl,by repeat (first | exact zvT | apply zvS)⟩ (by decide) (by omega) rfl rfl ?_
   intro v1 L1 hO1
   rw [←List.flatMap_append] at hO1
   refine YE hO1 JN (by decide) (by repeat (first | exact .cons .here .nil | exact Qv | exact Qq | apply Qp | apply Qo)) (fun I6 hI6 af6 cf6 ef6 hZ=>?_)
   subst ef6
   have hKc16:=hKc16.trans hI6;have hD:=hD.trans hI6
   refine Qb ?_
   refine zD hD ?_
   refine zT 7 rfl (QD rfl) hD ?_
   refine Qn (by kernel_rfl) ?_
   refine QA ?_
   exact zm (h:=⟨_,_,rfl,hKc16,rfl,by exact hZ⟩)
  rintro E J7 loc' ⟨a2,c2,rfl,hJ16,rfl,hZ⟩
  have hP:=hP.mono hJ16;have hY:=hY.mono hJ16;have hB2:=hB2.trans hJ16
  refine Qr ?_
  have hNd9:∀ u∈(zgu zbi JF (Ys (fun x=>x.pt.id) (fun x=>x.pt) 2 xs) (ns.take j))++[(ZT (Ys (fun x=>x.pt.id) (fun x=>x.pt) 2 xs) m9).getD JF],Nd J7 u:=fun u hu=>(show u=JF∨∃ w∈xs,u=w.pt from (List.mem_append.1 hu).elim (fun h=>zfR u h) (fun h=>by rw [List.mem_singleton.1 h];exact zjO)).elim (fun h=>by rw [h];exact Sl.nil) (fun ⟨w,hw2,h⟩=>by rw [h];exact hP.nd w hw2)
  refine Qk (zM ?_)
  refine zM ?_
  refine qcV (vs:=[_]) rfl ztj (zti ⟨hZ,hNd9⟩ (by omega)) ?_
  refine zC (zN ?_)
  refine zI ?_ ?_<;>intro hc73
  ·
   refine Qk (zM ?_)
   refine zA (Qb (Qm (Qc (Qk ?_))))
   refine zB ?_
   refine zM (Qb ?_)
   first
   | exact zm (h:=⟨q-(j+1),by omega,j+1,_,_,_,rfl,rfl,hB2,rfl,by omega,by rw [Jg hn,zhi,if_pos hc73];exact hZ,by omega⟩)
  refine Qz (Qm (Qc (Qk (zB ?_))))
  refine zM (Qb ?_)
  first
  | exact zm (h:=⟨q-(j+1),by omega,j+1,_,_,_,rfl,rfl,hB2,rfl,by omega,by rw [Jg hn,zhi,if_neg (by rw [hc73];simp)];exact hY,by omega⟩)
 have hge_j:q≤j:=by have h:=hc60;simp at h;omega
 have hke2:ns.take j=ns:=Z8 hnl hge_j
 rw [hke2] at hY
 refine ZF (Qt (Qt (QC (Qc (zR (zM ?_))))))
 refine zA (zN (QE ?_))
 exact QS rfl rfl (fun w hw=>⟨_,J4,[],rfl,hIc,by exact hw.drop,rfl,_,_,_,rfl,by rw [zdP,←hnsd];exact hY⟩)
theorem zmQ {I:Qu}{av:Option Addr}{n c:Nat}{xs:List Nt}(hP:zbh I av n c xs)(hn0:n≤4096):Vh Tryz.prog 72 [.slice av n c,.int .i64 4,.func (.func 73) #[] #[],.func (.func 40) #[] #[]] I [] (fun v I' L'=>L'=[]∧∃ a n c,v= .slice a n c∧Sl I' 11 S.encR a n c (zdP (fun x=>x.rt.no) (fun x=>x.rt) 4 S.rCheck S.zeroR xs)):=by
 intro g H w hw
 refine qe Tryz.func72 Tryz.ntmps72 hw ?_
 have hIc:=zvV I
 have hln:=hP.sl.len
 refine zR (zA ?_)
 refine zN (zR ?_)
 refine Yb rfl rfl (fun r_20=>?_)
 refine (show XO _ _ _ _ _ _ _ ((r_20,Yu (.int .i64) S.encA ([]:List (Int×S.Rt)))::_) from ?_)
 refine zA ?_
 refine zN (zR ?_)
 refine zA (zN (Qr (zR ?_)))
 refine zM ?_
 refine zQ Zs ?_
 refine zM (zN (QB ?_))
 refine zU [(1,_),(2,_),(3,_),(8,_),(9,_),(21,_),(22,_)] (fun T L0 mz E I' loc'=>∃ (k:Nat) (v:Value) (q:Nat) (Lw:Go.Kn.Loc),mz=n-k∧E=(10,v)::(23,.int .i64 k)::T∧I=I'∧Lw++[(r_20,Yu (.int .i64) S.encA (Ys (fun x=>x.rt.no) (fun x=>x.rt) 4 (xs.take k)))]=loc'∧k≤n∧Yk 3 1 v q (((Ys (fun x=>x.rt.no) (fun x=>x.rt) 4 (xs.take k)).map (·.1)).flatMap Yd) Lw∧q=(Ys (fun x=>x.rt.no) (fun x=>x.rt) 4 (xs.take k)).length) ?_ (h:=⟨0,_,0,[],rfl,rfl,rfl,rfl,Nat.zero_le _,Yk.nil,rfl⟩)
 rintro mz E I' loc' ⟨k,v,q,Lw,rfl,rfl,rfl,rfl,hk,hO,hq⟩
 refine zR (zC (zN (Qr ?_)))
 refine zI ?_ ?_<;>intro hc24
 ·
  have hlt_k:k<n:=by have h:=hc24;simp at h;omega
  obtain ⟨x,hx⟩:∃ y,xs[k]? =some y:=⟨_,List.getElem?_eq_getElem (by omega)⟩
  have hml:(Ys (fun x=>x.rt.no) (fun x=>x.rt) 4 (xs.take k)).length≤k:=Nat.le_trans VD (List.length_take_le ..)
  refine Qz (Qc (Qr (QB (zR ?_))))
  refine zV (QV rfl rfl Zs hP.sl (fun hg=>by omega)) ?_
  refine zV (Qg rfl Zr (fun hg=>by exact zvW hP.sl hx) rfl) ?_
  refine Qs KM rfl rfl (fun b_12=>?_)
  refine zh Vp ?_
  refine zN (zR ?_)
  refine zM ?_
  refine zV (Qg rfl Zr (fun hg=>by exact Cells.g0) rfl) ?_
  refine qcV (vs:=[_]) rfl zsS (zqV _ x) ?_
  refine zM ?_
  refine zE ?_
  refine zE ?_
  refine Qs zau rfl rfl (fun b_13=>?_)
  refine zh KR ?_
  refine zA (zN (Qr ?_))
  rcases hget:ZT (Ys (fun x=>x.rt.no) (fun x=>x.rt) 4 (xs.take k)) (x.rt.no) with _ | y0
  ·
   refine Qk (zM ?_)
   refine zM ?_
   refine zV (Z2 (ek:=Value.int .i64) (ev:=S.encA) KU Zh rfl rfl (fun _=>(by (repeat (first | exact Mem.m0 | apply Mem.there | apply Mem.app))))) ?_
   rw [hget]
   refine zM ?_
   refine zE ?_
   refine zE ?_
   refine Qs zau rfl rfl (fun b_15=>?_)
   refine zh KR ?_
   refine zA ?_
   refine zN (zR ?_)
   refine zF Y8 ?_
   refine zL Qy ?_
   refine zM ?_
   refine zC ?_
   refine zM ?_
   refine QL 4 rfl rfl rfl ?_
   refine zK (Qj rfl) ?_
   refine zK (YB rfl) ?_
   refine QU rfl rfl rfl rfl rfl ?_
   refine zN ?_
   refine zI ?_ ?_<;>intro hc46
   ·
    have hkd:(x.kind==4)=true:=by simpa using hc46
    refine zR (zM ?_)
    refine zM ?_
    refine zV (Qg rfl Vz (fun hg=>by exact Cells.g1) rfl) ?_
    refine ZR (ek:=Value.int .i64) (ev:=S.encA) (x.rt) KU Zh rfl rfl rfl rfl (by (repeat (first | exact Upd.here | apply Upd.there | apply Qw))) ?_
    refine zN (Qk (zM ?_))
    refine zM ?_
    refine Ql (ps:=[(0,_)]) (m:=[Yd (x.rt.no)]) Y1 rfl (.cons rfl (.nil)) rfl (by simp [Zu]) (by decide) (by decide) rfl rfl (fun b_52=>?_)
    refine Q4 (v:=_) (ys:=[x.rt.no].flatMap Yd) (L:=Lw) rfl rfl Y1 hO (by repeat (first | exact .cons .here .nil | exact Qv | exact Qq | apply Qp | apply Qo)) ⟨rfl,fun _=>rfl,by repeat (first | exact zvT | apply zvS | apply zvU)⟩ (X3 [x.rt.no]) (by omega) rfl rfl ?_
    intro v9 L9 hO9 _;rw [←List.flatMap_append] at hO9
    refine zA (Qb (Qm (Qc (Qk ?_))))
    refine zB ?_
    refine zM (Qb ?_)
    exact Zq _ (L9++[(r_20,Yu (.int .i64) S.encA (JC (Ys (fun x=>x.rt.no) (fun x=>x.rt) 4 (xs.take k)) (x.rt.no) (x.rt)))]) ⟨n-(k+1),by omega,k+1,_,_,_,rfl,rfl,rfl,by rw [Zk hx,Xq hget hkd],by omega,by rw [Zk hx,Jh hget hkd];exact hO9,by rw [Zk hx,←List.length_map (f:=fun p=>p.1),Jh hget hkd,List.length_append,List.length_map];simp;omega⟩ (.cons rfl (.cons rfl (.cons rfl (.cons rfl (.cons rfl (.cons rfl (.cons rfl (.cons rfl (.cons rfl .nil))))))))) (by repeat (first | exact .refl | exact QN | refine Za ?_ | refine .drop ?_ | refine Qe ?_))
   have hkd:(x.kind==4)=false:=by simpa using hc46
   have hsame:za8 (fun x=>x.rt.no) (fun x=>x.rt) 4 (Ys (fun x=>x.rt.no) (fun x=>x.rt) 4 (xs.take k)) x=(Ys (fun x=>x.rt.no) (fun x=>x.rt) 4 (xs.take k)):=zco hkd
   refine Qz (Qm (Qc (Qk (zB ?_))))
   refine zM (Qb ?_)
   exact Zq _ (Lw++[(r_20,Yu (.int .i64) S.encA (Ys (fun x=>x.rt.no) (fun x=>x.rt) 4 (xs.take k)))]) ⟨n-(k+1),by omega,k+1,_,_,_,rfl,rfl,rfl,by rw [Zk hx,hsame],by omega,by rw [Zk hx,hsame];exact hO,by rw [Zk hx,hsame];exact hq⟩ (.cons rfl (.cons rfl (.cons rfl (.cons rfl (.cons rfl (.cons rfl (.cons rfl (.cons rfl (.cons rfl .nil))))))))) (by repeat (first | exact .refl | exact QN | refine Za ?_ | refine .drop ?_ | refine Qe ?_))
  refine Qk (zM ?_)
  refine zM ?_
  refine zV (Z2 (ek:=Value.int .i64) (ev:=S.encA) KU Zh rfl rfl (fun _=>(by (repeat (first | exact Mem.m0 | apply Mem.there | apply Mem.app))))) ?_
  rw [hget]
  refine zM ?_
  refine zE ?_
  refine zE ?_
  refine Qs zau rfl rfl (fun b_15=>?_)
  refine zh KR ?_
  refine zA ?_
  refine zN (zR ?_)
  refine zF Y8 ?_
  refine zL Qy ?_
  refine zM ?_
  refine zC ?_
  refine zM ?_
  refine QL 4 rfl rfl rfl ?_
  refine zK (Qj rfl) ?_
  refine zK (YB rfl) ?_
  refine QU rfl rfl rfl rfl rfl ?_
  refine zN ?_
  refine zI ?_ ?_<;>intro hc46
  ·
   simp at hc46
  have hsame:za8 (fun x=>x.rt.no) (fun x=>x.rt) 4 (Ys (fun x=>x.rt.no) (fun x=>x.rt) 4 (xs.take k)) x=(Ys (fun x=>x.rt.no) (fun x=>x.rt) 4 (xs.take k)):=Xm hget
  refine Qz (Qm (Qc (Qk (zB ?_))))
  refine zM (Qb ?_)
  exact Zq _ (Lw++[(r_20,Yu (.int .i64) S.encA (Ys (fun x=>x.rt.no) (fun x=>x.rt) 4 (xs.take k)))]) ⟨n-(k+1),by omega,k+1,_,_,_,rfl,rfl,rfl,by rw [Zk hx,hsame],by omega,by rw [Zk hx,hsame];exact hO,by rw [Zk hx,hsame];exact hq⟩ (.cons rfl (.cons rfl (.cons rfl (.cons rfl (.cons rfl (.cons rfl (.cons rfl (.cons rfl (.cons rfl .nil))))))))) (by repeat (first | exact .refl | exact QN | refine Za ?_ | refine .drop ?_ | refine Qe ?_))
 have hge_k:n≤k:=by have h:=hc24;simp at h;omega
 have hml:=VD (num:=(fun x=>x.rt.no)) (prt:=(fun x=>x.rt)) (kind:=4) (xs:=xs)
 have hke:xs.take k=xs:=Z8 hln hge_k
 rw [hke] at hO hq ⊢
 refine ZF (Qt (Qt (QC (Qc (zR (zM ?_))))))
 refine QF (cap:=[]) (vs:=[_]) rfl rfl zaH Qq (zfS 3 ((Ys (fun x=>x.rt.no) (fun x=>x.rt) 4 xs).map (·.1)) (by rw [←JO];exact hO) (by omega) _) rfl rfl ?_
 rintro vv2 I2 L2 hI2 ⟨rfl,rfl,hO2⟩
 have hIc:=hIc.trans hI2
 rw [←JO] at hO2
 refine zN (Qr (Qr ?_))
 refine Zy hO2 Zu (by decide) (by repeat (first | exact .cons .here .nil | exact Qv | exact Qq | apply Qp | apply Qo)) (fun I3 hI3 af3 cf3 ef3 hNs=>?_)
 subst ef3
 have hIc:=hIc.trans hI3
 obtain ⟨ns,hnsd⟩:∃ y,y=zbj ((Ys (fun x=>x.rt.no) (fun x=>x.rt) 4 xs).map (·.1)):=⟨_,rfl⟩
 rw [←hnsd] at hNs
 have hnl:=hNs.len
 have hml:=VD (num:=(fun x=>x.rt.no)) (prt:=(fun x=>x.rt)) (kind:=4) (xs:=xs)
 refine Qk (zM ?_)
 refine zQ Yh ?_
 refine zM (zN (QB ?_))
 refine zU [(3,_),(9,_),(57,_),(58,_)] (fun T L0 mz E I' loc'=>∃ (j:Nat) (a9:Option Addr) (n9:Nat) (c9:Nat),mz=q-j∧E=(8,.slice a9 n9 c9)::(59,.int .i64 j)::T∧HLe I3 I'∧[(r_20,Yu (.int .i64) S.encA (Ys (fun x=>x.rt.no) (fun x=>x.rt) 4 xs))]=loc'∧j≤q∧Sl I' 11 S.encR a9 n9 c9 (zgu S.rCheck S.zeroR (Ys (fun x=>x.rt.no) (fun x=>x.rt) 4 xs) (ns.take j))∧n9≤j) ?_ (h:=⟨0,none,0,0,rfl,rfl,zvV _,rfl,Nat.zero_le _,Sl.nil,Nat.le_refl _⟩)
 rintro mz E J4 loc' ⟨j,a9,n9,c9,rfl,rfl,hJ,rfl,hj,hY,hn9⟩
 have hNs:=hNs.mono hJ;have hIc:=hIc.trans hJ
 have hB2:=hJ
 refine zR (zC (zN (Qr ?_)))
 refine zI ?_ ?_<;>intro hc60
 ·
  have hlt_j:j<q:=by have h:=hc60;simp at h;omega
  obtain ⟨m9,hn⟩:∃ y,ns[j]? =some y:=⟨_,List.getElem?_eq_getElem (by omega)⟩
  refine Qz (Qc (Qr (QB (zR ?_))))
  refine zV (zX Yh hNs) ?_
  refine zV (Qd rfl Qy (fun hg=>by exact zvO hNs hn rfl)) ?_
  refine zA (zN ?_)
  refine zY [(3,_),(8,_),(9,_),(57,_),(58,_),(59,_)] (fun T L0 E I' loc'=>∃ (a2:Option Addr) (c2:Nat),E=(19,.slice a2 (n9+1) c2)::T∧HLe J4 I'∧[(r_20,Yu (.int .i64) S.encA (Ys (fun x=>x.rt.no) (fun x=>x.rt) 4 xs))]=loc'∧Sl I' 11 S.encR a2 (n9+1) c2 ((zgu S.rCheck S.zeroR (Ys (fun x=>x.rt.no) (fun x=>x.rt) 4 xs) (ns.take j))++[(ZT (Ys (fun x=>x.rt.no) (fun x=>x.rt) 4 xs) m9).getD S.zeroR])) ?_ ?_
  ·
   have hKc16:=zvV J4
   have hD:=zvV J4
   refine ZO ?_
   refine Q3 J4 [(r_20,Yu (.int .i64) S.encA (Ys (fun x=>x.rt.no) (fun x=>x.rt) 4 xs))] mixed ?_
   refine zT 0 rfl (Qj rfl) hD ?_
   refine zT 2 rfl (Qj rfl) hD ?_
   refine zT 3 rfl (Qj rfl) hD ?_
   refine zT 4 rfl (Ui (ek:=Value.int .i64) (ev:=S.encA) S.zeroR KU Zh rfl rfl (fun _=>(by exact Mem.m0))) hD ?_
   obtain ⟨y,hydef⟩:∃ y,y=(ZT (Ys (fun x=>x.rt.no) (fun x=>x.rt) 4 xs) m9).getD S.zeroR:=⟨_,rfl⟩
   rw [←hydef]
   refine Zb 1 5 rfl rfl (by kernel_rfl) ?_ ?_
   ·
    refine qcV (vs:=[_]) rfl zi1 (ziv _ _ _ _ hY.cap) ?_
    refine Qb ?_
    refine zD hD ?_
    refine qd 5 rfl ?_
    refine Ql (ps:=[(0,_)]) (m:=[S.encR y]) U7 rfl (.cons rfl (.nil)) rfl (by simp [S.encR_len]) (by decide) (by decide) rfl rfl (fun b_68=>?_)
    refine Qb ?_
    refine zD hD ?_
    refine qd 6 rfl ?_
    refine QZ (ys:=[y].flatMap S.encR) S.encR_len rfl rfl U7 hY.cut ⟨rfl,fun _=>rfl,by repeat (first | exact zvT | apply zvS)⟩ (by decide) (by omega) rfl rfl ?_
    intro v1 L1 hO1
    rw [←List.flatMap_append] at hO1
    refine YE hO1 S.encR_len (by decide) (by repeat (first | exact .cons .here .nil | exact Qv | exact Qq | apply Qp | apply Qo)) (fun I5 hI5 af5 cf5 ef5 hZ=>?_)
    subst ef5
    have hKc16:=hKc16.trans hI5;have hD:=hD.trans hI5
    refine Qb ?_
    refine zD hD ?_
    refine zT 7 rfl (QD rfl) hD ?_
    refine Qn (by kernel_rfl) ?_
    refine QA ?_
    exact zm (h:=⟨_,_,rfl,hKc16,rfl,by exact hZ⟩)
   refine Ql (ps:=[(0,_)]) (m:=[S.encR y]) U7 rfl (.cons rfl (.nil)) rfl (by simp [S.encR_len]) (by decide) (by decide) rfl rfl (fun b_68=>?_)
   refine Qb ?_
   refine zD hD ?_
   refine qd 1 rfl ?_
   refine qcV (vs:=[_]) rfl zi1 (ziv _ _ _ _ hY.cap) ?_
   refine Qb ?_
   refine zD hD ?_
   refine qd 6 rfl ?_
   refine QZ (ys:=[y].flatMap S.encR) S.encR_len rfl rfl U7 hY.cut ⟨rfl,fun _=>rfl,by repeat (first | exact zvT | apply zvS)⟩ (by decide) (by omega) rfl rfl ?_
   intro v1 L1 hO1
   rw [←List.flatMap_append] at hO1
   refine YE hO1 S.encR_len (by decide) (by repeat (first | exact .cons .here .nil | exact Qv | exact Qq | apply Qp | apply Qo)) (fun I6 hI6 af6 cf6 ef6 hZ=>?_)
   subst ef6
   have hKc16:=hKc16.trans hI6;have hD:=hD.trans hI6
   refine Qb ?_
   refine zD hD ?_
   refine zT 7 rfl (QD rfl) hD ?_
   refine Qn (by kernel_rfl) ?_
   refine QA ?_
   exact zm (h:=⟨_,_,rfl,hKc16,rfl,by exact hZ⟩)
  rintro E J7 loc' ⟨a2,c2,rfl,hJ16,rfl,hZ⟩
  have hY:=hY.mono hJ16;have hB2:=hB2.trans hJ16
  refine zR (zM ?_)
  refine zM ?_
  refine qcV (vs:=[_]) rfl zhI (S.w_check hZ (by omega)) ?_
  refine zC (zN ?_)
  refine zI ?_ ?_<;>intro hc73
  ·
   refine Qk (zM ?_)
   refine zA (Qb (Qm (Qc (Qk ?_))))
   refine zB ?_
   refine zM (Qb ?_)
   first
   | exact zm (h:=⟨q-(j+1),by omega,j+1,_,_,_,rfl,rfl,hB2,rfl,by omega,by rw [Jg hn,zhi,if_pos hc73];exact hZ,by omega⟩)
  refine Qz (Qm (Qc (Qk (zB ?_))))
  refine zM (Qb ?_)
  first
  | exact zm (h:=⟨q-(j+1),by omega,j+1,_,_,_,rfl,rfl,hB2,rfl,by omega,by rw [Jg hn,zhi,if_neg (by rw [hc73];simp)];exact hY,by omega⟩)
 have hge_j:q≤j:=by have h:=hc60;simp at h;omega
 have hke2:ns.take j=ns:=Z8 hnl hge_j
 rw [hke2] at hY
 refine ZF (Qt (Qt (QC (Qc (zR (zM ?_))))))
 refine zA (zN (QE ?_))
 exact QS rfl rfl (fun w hw=>⟨_,J4,[],rfl,hIc,by exact hw.drop,rfl,_,_,_,rfl,by rw [zdP,←hnsd];exact hY⟩)
end
end Go.Proofs.YtjblkbkmblkgoaaGreat
section
namespace Go.Kn
open Go
section
variable {P:Program} {fn:Func} {R:Ending→World→Prop} {N:Nat} {g:World} {I H:Qu} {loc:Loc} {E:Env} {r:Option Nat}
theorem zjN {t1 t2 t3 t4 t5:Nat}{v1 v2 v3 v4 v5:Value}(hr:fn.results= #[.tmp t1,.tmp t2,.tmp t3,.tmp t4,.tmp t5])(h1:VH E t1=some v1)(h2:VH E t2=some v2)(h3:VH E t3=some v3)(h4:VH E t4=some v4)(h5:VH E t5=some v5)
  (h:∀ w,St g I H loc w→R (.returned (.tuple #[v1,v2,v3,v4,v5])) w):At ⟨P,r,N,[],g,H⟩ (bodyPost P fn R) .ret E I loc:=fun a w ha hw=>by
 have e1:=ha.env _ _ h1;have e2:=ha.env _ _ h2;have e3:=ha.env _ _ h3;have e4:=ha.env _ _ h4;have e5:=ha.env _ _ h5
 rw [Array.getD_eq_getD_getElem?] at e1 e2 e3 e4 e5
 exact ⟨ha.defers,.tuple #[v1,v2,v3,v4,v5],by simp only [results,hr];simp [List.mapM_cons,e1,e2,e3,e4,e5],h w hw⟩
end
end Go.Kn
namespace Go.Proofs.YtjblkbkmblkgoaaGreat
open Go Go.Kn Go.Proofs
def wLm (xs:List Nt):List Lm:=zdP (fun x=>x.lm.no) (fun x=>x.lm) 1 zhn VK xs
def wLs (xs:List Nt):List L.Ls:=zdP (fun x=>x.ls.no) (fun x=>x.ls) 3 L.chk L.zeroL xs
def wPt (xs:List Nt):List Pt:=zdP (fun x=>x.pt.id) (fun x=>x.pt) 2 zbi JF xs
def wRt (xs:List Nt):List S.Rt:=zdP (fun x=>x.rt.no) (fun x=>x.rt) 4 S.rCheck S.zeroR xs
theorem ztz {I:Qu}{xs:List Nt}(h:∀ x∈xs,Nd I x.pt):∀ p∈wPt xs,Nd I p:=fun p hp=>by
 rcases zfR p hp with rfl | ⟨x,hx,rfl⟩
 ·
  exact Sl.nil
 ·
  exact h x hx
def zu8 (xs:List Nt)(v:Value)(I':Qu)(L':Go.Kn.Loc):Prop:=L'=[]∧
  ((Yc xs=true∧∃ a1 n1 c1 a2 n2 c2 a3 n3 c3 a4 n4 c4,v= .tuple #[.slice a1 n1 c1,.slice a2 n2 c2,.slice a3 n3 c3,.slice a4 n4 c4,.int .i64 0]∧Sl I' 9 ZI a1 n1 c1 (wLm xs)∧Sl I' 5 L.encL a2 n2 c2 (wLs xs)∧SlP I' a3 n3 c3 (wPt xs)∧Sl I' 11 S.encR a4 n4 c4 (wRt xs))∨
   (Yc xs=false∧v= .tuple #[.slice none 0 0,.slice none 0 0,.slice none 0 0,.slice none 0 0,.int .i64 570]))
structure Hy where
 a:Option Addr
 n:Nat
 c:Nat
 bytes:List Nat
def zbf (x:Hy):List Value:=[.slice x.a x.n x.c]
theorem Vt (x:Hy):(zbf x).length=1:=rfl
theorem zk8 (xs:List Hy):YT (xs.flatMap zbf)=true:=YL (fun _=>rfl) xs
structure HyM (I:Qu)(x:Hy):Prop where
 sl:Sl I 1 VU x.a x.n x.c x.bytes
 byte:∀ b∈x.bytes,b<256
theorem HyM.mono {I I':Qu}{x:Hy}(h:HyM I x)(hI:HLe I I'):HyM I' x:=⟨h.sl.mono hI,h.byte⟩
structure zq3 (I:Qu)(av:Option Addr)(n c:Nat)(rs:List Hy):Prop where
 sl:Sl I 1 zbf av n c rs
 m:∀ r∈rs,HyM I r
theorem zq3.mono {I I':Qu}{av:Option Addr}{n c:Nat}{rs:List Hy}(h:zq3 I av n c rs)(hI:HLe I I'):zq3 I' av n c rs:=⟨h.sl.mono hI,fun r hr=>(h.m r hr).mono hI⟩
structure zle (I:Qu)(rs:List Hy)(B:List (List Nat)):Prop where
 m:∀ r∈rs,HyM I r
 b:rs.map (·.bytes)=B
theorem zle.mono {I I':Qu}{rs:List Hy}{B:List (List Nat)}(h:zle I rs B)(hI:HLe I I'):zle I' rs B:=⟨fun r hr=>(h.m r hr).mono hI,h.b⟩
theorem zle.nil {I:Qu}:zle I [] []:=⟨fun _ h=>(by cases h),rfl⟩
theorem zle.snoc {I:Qu}{rs:List Hy}{B:List (List Nat)}(h:zle I rs B){x:Hy}(hx:HyM I x):zle I (rs++[x]) (B++[x.bytes]):=
 ⟨fun r hr=>(List.mem_append.1 hr).elim (h.m r) (fun e=>by rw [List.mem_singleton.1 e];exact hx),by rw [List.map_append,h.b];rfl⟩
theorem ztM {I:Qu}{t:Nt}{b c:Nat}(hok:Va.ok (JZ t))(hS:Sl I 1 VU (some ⟨b,0,none⟩) (Xj t).size c (Kj (Xj t))):HyM I ⟨some ⟨b,0,none⟩,(Xj t).size,c,JM t⟩:=by
 have e:Kj (Xj t)=JM t:=VS (Kt _ hok)
 rw [e] at hS
 exact ⟨hS,Kt _ hok⟩
def zu2 (xs:List Nt)(v:Value)(I':Qu)(L':Go.Kn.Loc):Prop:=L'=[]∧
 ((Yc xs=true∧∃ a n c rs,v= .tuple #[.slice a n c,.int .i64 0]∧zq3 I' a n c rs∧rs.map (·.bytes)=xs.map JM)∨(Yc xs=false∧v= .tuple #[.slice none 0 0,.int .i64 570]))
end Go.Proofs.YtjblkbkmblkgoaaGreat
end
namespace Go.Proofs.YtjblkbkmblkgoaaGreat
section
open Go Go.Kn Go.Proofs
theorem zbI:ElT Tryz.prog 60 80 1 24:=.of (by kernel_rfl)
theorem zri:Fun Tryz.prog 66:=.of Tryz.func66 (by kernel_rfl) (by kernel_rfl)
theorem zrt:Fun Tryz.prog 68:=.of Tryz.func68 (by kernel_rfl) (by kernel_rfl)
theorem zs7:Fun Tryz.prog 70:=.of Tryz.func70 (by kernel_rfl) (by kernel_rfl)
theorem zs8:Fun Tryz.prog 72:=.of Tryz.func72 (by kernel_rfl) (by kernel_rfl)
theorem zh2 {I:Qu}{av:Option Addr}{n c:Nat}{xs:List Nt}(hP:zbh I av n c xs)(hn:n≤100000):Vh Tryz.prog 20 [.agg #[.slice av n c]] I [] (zu8 xs):=by
 intro g H w hw
 refine qe Tryz.func20 Tryz.ntmps20 hw ?_
 have hIc:=zvV I
 have hln:=hP.sl.len
 refine zR ?_
 refine Zf rfl rfl rfl (fun b_1=>?_)
 refine zA ?_
 refine zA ?_
 refine zA ?_
 refine zA ?_
 refine zA (Qb ?_)
 refine QQ .here (fun I1 hI1 hb1=>?_)
 have hP:=hP.mono hI1;have hIc:=hIc.trans hI1
 have h1:=BxI.of hb1
 refine Qc (Qr (zR ?_))
 refine zV (Qg rfl Kq (fun hg=>by exact BxI.cells (vs:=[_]) h1) rfl) ?_
 refine qcV (vs:=[_]) rfl zhx (zen hP hn) ?_
 refine zO (zN ?_)
 refine zI ?_ ?_<;>intro hc9
 ·
  have hvf:Yc xs=false:=by simpa using hc9
  refine zR (zA ?_)
  refine zA ?_
  refine zA ?_
  refine zA ?_
  refine zA (zN (QE (Qh ?_)))
  exact zjN rfl rfl rfl rfl rfl rfl (fun w hw=>⟨_,I1,[],rfl,hIc,hw.subL Qf,rfl,.inr ⟨hvf,rfl⟩⟩)
 have hvf:Yc xs=true:=by simpa using hc9
 have hn4:n≤4096:=by have h:=(Jl hvf).2.2;omega
 refine Qz (Qc (zR ?_))
 refine zF Z6 ?_
 refine zV (Qd rfl Vw (fun hg=>by exact QH.imm h1.out rfl)) ?_
 refine QF (cap:=[]) (vs:=[_,_,_,_]) rfl rfl zri .nil (zmy hP hn4) rfl rfl ?_
 rintro vv2 I2 L2 hI2 ⟨rfl,a1,n1,c1,rfl,hS1⟩
 have hP:=hP.mono hI2;have h1:=h1.mono hI2;have hIc:=hIc.trans hI2
 refine zA ?_
 refine zN (zR ?_)
 refine zF Z6 ?_
 refine zV (Qd rfl Vw (fun hg=>by exact QH.imm h1.out rfl)) ?_
 refine QF (cap:=[]) (vs:=[_,_,_,_]) rfl rfl zrt .nil (zlm hP hn4) rfl rfl ?_
 rintro vv3 I3 L3 hI3 ⟨rfl,a2,n2,c2,rfl,hS2⟩
 have hP:=hP.mono hI3;have h1:=h1.mono hI3;have hS1:=hS1.mono hI3;have hIc:=hIc.trans hI3
 refine zA ?_
 refine zN (zR ?_)
 refine zF Z6 ?_
 refine zV (Qd rfl Vw (fun hg=>by exact QH.imm h1.out rfl)) ?_
 refine QF (cap:=[]) (vs:=[_,_,_,_]) rfl rfl zs7 .nil (zmP hP hn4) rfl rfl ?_
 rintro vv4 I4 L4 hI4 ⟨rfl,a3,n3,c3,rfl,hS3⟩
 have hP:=hP.mono hI4;have h1:=h1.mono hI4;have hS1:=hS1.mono hI4;have hS2:=hS2.mono hI4;have hIc:=hIc.trans hI4
 refine zA ?_
 refine zN (zR ?_)
 refine zF Z6 ?_
 refine zV (Qd rfl Vw (fun hg=>by exact QH.imm h1.out rfl)) ?_
 refine QF (cap:=[]) (vs:=[_,_,_,_]) rfl rfl zs8 .nil (zmQ hP hn4) rfl rfl ?_
 rintro vv5 I5 L5 hI5 ⟨rfl,a4,n4,c4,rfl,hS4⟩
 have hP:=hP.mono hI5;have hS1:=hS1.mono hI5;have hS2:=hS2.mono hI5;have hS3:=hS3.mono hI5;have hIc:=hIc.trans hI5
 refine zA ?_
 refine zN (zR ?_)
 refine zM ?_
 refine zM ?_
 refine zM ?_
 refine zM ?_
 refine zA ?_
 refine zA ?_
 refine zA ?_
 refine zA ?_
 refine zA (zN (QE ?_))
 exact zjN rfl rfl rfl rfl rfl rfl (fun w hw=>⟨_,I5,[],rfl,hIc,hw.subL Qf,rfl,.inl ⟨hvf,_,_,_,_,_,_,_,_,_,_,_,_,rfl,hS1,hS2,⟨hS3,ztz hP.nd⟩,hS4⟩⟩)
theorem zju {I:Qu}{av:Option Addr}{n c:Nat}{xs:List Nt}(hP:zbh I av n c xs)(hn:n≤100000):Vh Tryz.prog 22 [.agg #[.slice av n c]] I [] (zu2 xs):=by
 intro g H w hw
 refine qe Tryz.func22 Tryz.ntmps22 hw ?_
 have hIc:=zvV I
 have hln:=hP.sl.len
 refine zR ?_
 refine Zf rfl rfl rfl (fun b_1=>?_)
 refine zA ?_
 refine zA (Qb ?_)
 refine QQ .here (fun I1 hI1 hb1=>?_)
 have hP:=hP.mono hI1;have hIc:=hIc.trans hI1
 have h1:=BxI.of hb1
 refine Qc (Qr (zR ?_))
 refine zV (Qg rfl Kq (fun hg=>by exact BxI.cells (vs:=[_]) h1) rfl) ?_
 refine qcV (vs:=[_]) rfl zhx (zen hP hn) ?_
 refine zO (zN ?_)
 refine zI ?_ ?_<;>intro hc8
 ·
  have hvf:Yc xs=false:=by simpa using hc8
  refine zR (zA ?_)
  refine zA (zN (QE (Qh ?_)))
  exact V2 rfl rfl rfl (fun w hw=>⟨_,I1,[],rfl,hIc,hw.subL Qf,rfl,.inr ⟨hvf,rfl⟩⟩)
 have hvf:Yc xs=true:=by simpa using hc8
 have hvs:=Jl hvf
 refine Qz (Qc (Qr (zR ?_)))
 refine zF Z6 ?_
 refine zV (Qd rfl Vw (fun hg=>by exact QH.imm h1.out rfl)) ?_
 refine zQ Zs ?_
 refine zM (zN (QB ?_))
 refine zU [(10,_),(11,_)] (fun T L0 mz E I' loc'=>∃ (k:Nat) (v:Value) (L:Go.Kn.Loc) (rs:List Hy),mz=n-k∧E=(2,v)::(12,.int .i64 k)::T∧HLe I1 I'∧L=loc'∧k≤n∧Yk 80 1 v k (rs.flatMap zbf) L∧zle I' rs ((xs.take k).map JM)) ?_ (h:=⟨0,_,[],[],rfl,rfl,zvV _,rfl,Nat.zero_le _,Yk.nil,zle.nil⟩)
 rintro mz E J2 loc' ⟨k,v,L,rs,rfl,rfl,hJ,rfl,hk,hO,hRK⟩
 have hP:=hP.mono hJ;have hIc:=hIc.trans hJ
 have hB0:=hJ
 refine zR (zC (zN (Qr ?_)))
 refine zI ?_ ?_<;>intro hc13
 ·
  have hlt_k:k<n:=by have h:=hc13;simp at h;omega
  obtain ⟨x,hx⟩:∃ y,xs[k]? =some y:=⟨_,List.getElem?_eq_getElem (by omega)⟩
  have hxm:=List.mem_of_getElem? hx
  have hM:=hP.m x hxm (hvs.2.1 x hxm)
  refine Qz (Qc (Qr (QB (zR ?_))))
  refine zV (QV rfl rfl Zs hP.sl (fun hg=>by omega)) ?_
  refine zV (Qg rfl Zr (fun hg=>by exact zvW hP.sl hx) rfl) ?_
  refine Qs KM rfl rfl (fun b_5=>?_)
  refine zh Vp ?_
  refine zN (Qk (zM ?_))
  refine zV (Qg rfl Zr (fun hg=>by exact Cells.g0) rfl) ?_
  refine qcV (vs:=[_]) rfl zcX (zkq x hM.nd hM.nn hM.ok hM.len) ?_
  refine UN (s:=Xj x) rfl zjB rfl rfl (fun b9 c9 I3 hI3 hB=>?_)
  have hRK:=hRK.mono hI3;have hB0:=hB0.trans hI3
  refine Ql (ps:=[(0,_)]) (m:=[zbf ⟨some ⟨b9,0,none⟩,(Xj x).size,c9,JM x⟩]) zbI rfl (.cons rfl (.nil)) rfl (by simp [Vt]) (by decide) (by decide) rfl rfl (fun b_20=>?_)
  refine Q4 (v:=_) (ys:=[(⟨some ⟨b9,0,none⟩,(Xj x).size,c9,JM x⟩:Hy)].flatMap zbf) (L:=L) rfl rfl zbI hO (by repeat (first | exact .cons .here .nil | exact Qv | exact Qq | apply Qp | apply Qo)) ⟨rfl,fun _=>rfl,by repeat (first | exact zvT | apply zvS | apply zvU)⟩ (zk8 _) (by omega) rfl rfl ?_
  intro v9 L9 hO9 _;rw [←List.flatMap_append] at hO9
  refine zA (Qb (Qm (Qc (Qk ?_))))
  refine zB ?_
  refine zM (Qb ?_)
  exact zm (h:=⟨n-(k+1),by omega,k+1,_,_,_,rfl,rfl,hB0,rfl,by omega,hO9,by rw [ZA hx,List.map_append];exact hRK.snoc (ztM hM.ok hB)⟩)
 have hge_k:n≤k:=by have h:=hc13;simp at h;omega
 rw [Z8 hln hge_k] at hRK
 refine ZF (Qt (Qt (QC (Qc (Qr ?_)))))
 refine Zy hO Vt (by decide) (by repeat (first | exact .cons .here .nil | exact Qv | exact Qq | apply Qp | apply Qo)) (fun I4 hI4 af4 cf4 ef4 hR9=>?_)
 subst ef4
 have hRK:=hRK.mono hI4;have hIc:=hIc.trans hI4
 refine Qk (zM ?_)
 refine zA ?_
 refine zA (zN (QE ?_))
 exact V2 rfl rfl rfl (fun w hw=>⟨_,I4,[],rfl,hIc,hw.subL Qf,rfl,.inl ⟨hvf,_,_,_,rs,rfl,⟨hR9,hRK.m⟩,hRK.b⟩⟩)
end
section
open Go Go.Kn Go.Proofs
def kpN (ws:List Nt)(i:Nat)(x:Nt):Bool:=match i with
 | 0=>true
 | j+1=>match ws[j]? with | none=>true | some y=> !(Vn x y==0)
def Vo (ws:List Nt):Nat→List Nt
 | 0=>[]
 | i+1=>match ws[i]? with
  | none=>Vo ws i
  | some x=>if kpN ws i x=true then Vo ws i++[x] else Vo ws i
def Ug (ws:List Nt)(m:Nat):List Nt:=Vo ws m++ws.drop (Vo ws m).length
theorem zay {ws:List Nt}{i:Nat}{x:Nt}(hx:ws[i]? =some x)(hk:kpN ws i x=true):Vo ws (i+1)=Vo ws i++[x]:=by simp only [Vo,hx,if_pos hk]
theorem zbu {ws:List Nt}{i:Nat}{x:Nt}(hx:ws[i]? =some x)(hk:kpN ws i x=false):Vo ws (i+1)=Vo ws i:=by simp only [Vo,hx,hk];rfl
theorem zgV {ws:List Nt}{i:Nat}{x y:Nt}(hi:1≤i)(hy:ws[i-1]? =some y):kpN ws i x= !(Vn x y==0):=by
 obtain ⟨j,rfl⟩:∃ j,i=j+1:=⟨i-1,by omega⟩
 rw [Nat.add_sub_cancel] at hy
 simp only [kpN,hy]
theorem UE (ws:List Nt):∀ m,(Vo ws m).length≤m
 | 0=>Nat.le_refl _
 | m+1=>by
  have:=UE ws m
  unfold Vo
  split
  ·
   omega
  ·
   split
   ·
    rw [List.length_append,List.length_singleton];omega
   ·
    omega
theorem zgj (ws:List Nt):∀ m,(Vo ws m).length≤ws.length
 | 0=>Nat.zero_le _
 | m+1=>by
  have h1:=UE ws m
  have h2:=zgj ws m
  unfold Vo
  split
  ·
   exact h2
  ·
   rename_i x hx
   have:=(List.getElem?_eq_some_iff.1 hx).1
   split
   ·
    rw [List.length_append,List.length_singleton];omega
   ·
    exact h2
theorem zqk (ws:List Nt):Vo ws 1=ws.take 1:=by
 cases ws with
 | nil=>simp [Vo]
 | cons x l=>simp [Vo,kpN]
theorem zcW {ws:List Nt}{i:Nat}{x:Nt}(h:Vo ws i=ws.take i)(hx:ws[i]? =some x)(hk:kpN ws i x=true):Vo ws (i+1)=ws.take (i+1):=by rw [zay hx hk,h,ZA hx]
theorem X4 {ws:List Nt}(h:ws.length<2):Vo ws ws.length=ws:=by
 cases ws with
 | nil=>simp [Vo]
 | cons x l=>
  cases l with
  | nil=>simp [Vo,kpN]
  | cons y l=>simp only [List.length_cons] at h;omega
theorem zjG {ws:List Nt}(m:Nat):(Ug ws m).length=ws.length:=by
 have:=zgj ws m
 unfold Ug
 rw [List.length_append,List.length_drop];omega
theorem ziz {ws:List Nt}{m i:Nat}(h:(Vo ws m).length≤i):(Ug ws m)[i]? =ws[i]? :=by
 unfold Ug
 rw [List.getElem?_append_right h,List.getElem?_drop]
 congr 1;omega
theorem znz {ws:List Nt}{i:Nat}{x:Nt}(hx:ws[i]? =some x)(hk:kpN ws i x=false):Ug ws (i+1)=Ug ws i:=by unfold Ug;rw [zbu hx hk]
theorem zqw {ws:List Nt}{i:Nat}{x:Nt}(hx:ws[i]? =some x)(hk:kpN ws i x=true):Ug ws (i+1)=(Ug ws i).set (Vo ws i).length x:=by
 have h1:=UE ws i
 have h2:=(List.getElem?_eq_some_iff.1 hx).1
 have h3:ws.drop (Vo ws i).length=ws[(Vo ws i).length]::ws.drop ((Vo ws i).length+1):=List.drop_eq_getElem_cons (by omega)
 unfold Ug
 rw [zay hx hk,List.length_append,List.length_singleton,List.set_append_right _ _ (Nat.le_refl _),Nat.sub_self,h3,List.set_cons_zero,List.append_assoc,List.singleton_append]
theorem zl5 {ws:List Nt}{i:Nat}(h:Vo ws i=ws.take i)(hi:i≤ws.length):Ug ws i=ws:=by
 unfold Ug
 rw [h,List.length_take,Nat.min_eq_left hi,List.take_append_drop]
/-! ### Cells -/
theorem WF {bl:List Nt}{i:Nat}{x:Nt}(hx:bl[i]? =some x):bl.flatMap Zm=(bl.take i).flatMap Zm++Zm x++(bl.drop (i+1)).flatMap Zm:=by
 have h2:=(List.getElem?_eq_some_iff.1 hx).1
 have h3:bl.drop i=x::bl.drop (i+1):=by
  rw [List.drop_eq_getElem_cons h2,(List.getElem?_eq_some_iff.1 hx).2]
 conv=>lhs;rw [←List.take_append_drop i bl,h3]
 rw [List.flatMap_append,List.flatMap_cons,List.append_assoc]
theorem W7 {bl:List Nt}{i:Nat}(h:i≤bl.length):((bl.take i).flatMap Zm).length=i*45:=by
 rw [YJ Zd,List.length_take,Nat.min_eq_left h]
theorem US {I:Qu}{b t off:Nat}{fz:Nat×Nat}{l:Go.Kn.Loc}{bl:List Nt}{tl:List Value}{i:Nat}{x:Nt}(hx:bl[i]? =some x)(e:off=i*45):Cells I ((b,.cells (bl.flatMap Zm++tl).toArray t fz)::l) b off (Zm x):=by
 have h2:=(List.getElem?_eq_some_iff.1 hx).1
 refine Cells.part (pre:=(bl.take i).flatMap Zm) (vs:=Zm x) (post:=(bl.drop (i+1)).flatMap Zm++tl) ?_ (by rw [e,W7 (by omega)])
 have h:=zvT (I:=I) (b:=b) (vs:=bl.flatMap Zm++tl) (t:=t) (fz:=fz) (l:=l)
 rw [WF hx] at h ⊢
 simpa only [List.append_assoc] using h
theorem ziq {bl:List Nt}{tl:List Value}{i:Nat}{x:Nt}(hi:i<bl.length):JE (bl.flatMap Zm++tl) (i*45) (Zm x)=(bl.set i x).flatMap Zm++tl:=by
 obtain ⟨y,hy⟩:∃ y,bl[i]? =some y:=⟨_,List.getElem?_eq_getElem hi⟩
 have hs:(bl.set i x)[i]? =some x:=List.getElem?_set_self hi
 have e1:(bl.set i x).take i=bl.take i:=by rw [List.take_set_of_le (Nat.le_refl _)]
 have e2:(bl.set i x).drop (i+1)=bl.drop (i+1):=by rw [List.drop_set_of_lt (Nat.lt_succ_self _)]
 rw [WF hy,WF hs,e1,e2]
 have h:=JD ((bl.take i).flatMap Zm) (Zm y) (Zm x) ((bl.drop (i+1)).flatMap Zm++tl) rfl
 rw [W7 (Nat.le_of_lt hi)] at h
 simpa only [List.append_assoc] using h
theorem zki {bl:List Nt}{tl:List Value}{n c:Nat}(h:bl.length=n)(ht:tl.length=(c-n)*45)(hc:n≤c):(bl.flatMap Zm++tl).length=c*45:=by
 rw [List.length_append,YJ Zd,h,ht,←Nat.add_mul]
 congr 1;omega
theorem zsg {e:Nat}{v:Value}{n:Nat}{ws:List Nt}{L:Go.Kn.Loc}(h:Yk e 45 v n (ws.flatMap Zm) L)(_hl:ws.length=n):(v= .slice none 0 0∧n=0∧L=[])∨∃ b c tl,v= .slice (some ⟨b,0,none⟩) n c∧L=[(b,.cells (ws.flatMap Zm++tl).toArray e (0,0))]∧n≤c∧c≤maxLen∧tl.length=(c-n)*45:=by
 rcases h.2 with h1 | ⟨b,c,cur,h1,h2,h3,h4,h5,h6⟩
 ·
  exact .inl h1
 ·
  refine .inr ⟨b,c,cur.toList.drop (n*45),h1,?_,h3,h4,?_⟩
  ·
   rw [h2,←h6,List.take_append_drop]
  ·
   rw [List.length_drop,Array.length_toList,h5,←Nat.sub_mul]
theorem zr7 {e b n c:Nat}{ws:List Nt}{tl:List Value}(hl:ws.length=n)(hc:n≤c)(hm:c≤maxLen)(ht:tl.length=(c-n)*45):Yk e 45 (.slice (some ⟨b,0,none⟩) n c) n (ws.flatMap Zm) [(b,.cells (ws.flatMap Zm++tl).toArray e (0,0))]:=by
 have hf:(ws.flatMap Zm).length=n*45:=by rw [YJ Zd,hl]
 refine ⟨hf,.inr ⟨b,c,_,rfl,rfl,hc,hm,?_,?_⟩⟩
 ·
  rw [List.size_toArray];exact zki hl ht hc
 ·
  show (ws.flatMap Zm++tl).take (n*45)=_
  rw [←hf,List.take_left']
  rfl
theorem zln {ws:List Nt}{tl zs:List Value}{n c m:Nat}(hn:ws.length=n)(hm:m≤n)(hc:n≤c)(ht:tl.length=(c-n)*45)(hz:zs.length=(n-m)*45)(hk:(Vo ws n).length=m):
  ∃ tl',tl'.length=(c-m)*45∧((Ug ws n).flatMap Zm++tl).take (m*45)++(zs++((Ug ws n).flatMap Zm++tl).drop (m*45+(n-m)*45))=(Vo ws n).flatMap Zm++tl':=by
 have e0:(Vo ws n).flatMap Zm=((Ug ws n).take m).flatMap Zm:=by
  unfold Ug
  rw [hk,←hk,List.take_left']
  rfl
 have hb:=zjG (ws:=ws) n
 have hfl:((Ug ws n).flatMap Zm).length=n*45:=by rw [YJ Zd,hb,hn]
 refine ⟨zs++tl,by rw [List.length_append,hz,ht,←Nat.add_mul];congr 1;omega,?_⟩
 have e1:((Ug ws n).flatMap Zm++tl).take (m*45)=(Vo ws n).flatMap Zm:=by
  unfold Ug
  rw [List.flatMap_append,List.append_assoc]
  have:((Vo ws n).flatMap Zm).length=m*45:=by rw [YJ Zd,hk]
  rw [←this,List.take_left']
  rfl
 have e2:((Ug ws n).flatMap Zm++tl).drop (m*45+(n-m)*45)=tl:=by
  have:m*45+(n-m)*45=((Ug ws n).flatMap Zm).length:=by rw [hfl,←Nat.add_mul];congr 1;omega
  rw [this,List.drop_left']
  rfl
 rw [e1,e2]
theorem zhL {ws:List Nt}{tl zs:List Value}{n c M:Nat}(hM:M=n)(hn:ws.length=n)(hc:n≤c)(ht:tl.length=(c-n)*45)(hz:zs.length=(n-(Vo ws M).length)*45):
  ∃ tl',tl'.length=(c-(Vo ws n).length)*45∧((Ug ws M).flatMap Zm++tl).take (0+(Vo ws M).length*45)++(zs++((Ug ws M).flatMap Zm++tl).drop (0+(Vo ws M).length*45+(n-(Vo ws M).length)*45))=(Vo ws n).flatMap Zm++tl':=by
 subst hM
 rw [Nat.zero_add]
 exact zln hn (UE ws _) hc ht hz rfl
end
end Go.Proofs.YtjblkbkmblkgoaaGreat
namespace Go.Kn
section
open Go
section
variable {C:Cx} {Q:Exit→Act→World→Prop} {E:Env} {I:Qu} {loc:Loc} {ops:Array Oper} {rest:List Oper} {dst:Option Tmp} {ty:TypeId} {pos:String} {af:Array Edge} {gd:Option (Nat×Bool)} {x:Operand}
theorem zmU {t e n c b off t':Nat}{z:Value}{zc A:List Value}(F:List Value→Loc)(hx:QG [] E x=some (.slice (some ⟨b,off,none⟩) n c))(hT:C.P.underlying t=some (.slice e))(hz:Y6 C.P e z)(hzc:z.cells=zc.toArray)(h1:YT zc=true)
  (hle:off+n*zc.length≤A.length)(hG:gd=none)(hdst:dst=none)(hu:∀ zs:List Value,Upd loc b (.cells A.toArray t' (0,0)) (.cells (A.take off++(zs++A.drop (off+n*zc.length))).toArray t' (0,0)) (F zs))
  (h:∀ zs:List Value,zs.length=n*zc.length→XO C Q ops rest [] E I (F zs)):
  XO C Q ops (⟨dst,.call ⟨.builtin .clear, #[x], #[t]⟩,ty,pos,af,gd⟩::rest) [] E I loc:=
 Yf hG (by intro c e;cases e) fun a w ha hw=>by
  subst hdst
  have hsz:(Builtin.zeroCells z.cells n).toList.length=n*zc.length:=by rw [Array.length_toList,Vb,hzc];simp
  have hz1:∀ v∈(Builtin.zeroCells z.cells n).toList,v.oneCell'=true:=by
   intro v hv
   rw [Array.mem_toList_iff] at hv
   unfold Builtin.zeroCells at hv
   rw [hzc] at hv
   simp at hv
   obtain ⟨q,hq,h2⟩:=hv
   have hp:0<zc.length:=Nat.pos_of_ne_zero fun e=>by rw [e] at hq;simp at hq
   rw [List.getElem?_eq_getElem (Nat.mod_lt _ hp)] at h2
   exact V4 h1 v (by rw [←h2];exact List.getElem_mem _)
  have e:A=A.take off++((A.drop off).take (n*zc.length)++A.drop (off+n*zc.length)):=by
   have:(A.drop off).take (n*zc.length)++A.drop (off+n*zc.length)=A.drop off:=by rw [←List.drop_drop];exact List.take_append_drop _ _
   rw [this,List.take_append_drop]
  have hu2:=hu (Builtin.zeroCells z.cells n).toList
  have hu3:Upd loc b (.cells (A.take off++((A.drop off).take (n*zc.length)++A.drop (off+n*zc.length))).toArray t' (0,0)) (.cells (A.take off++((Builtin.zeroCells z.cells n).toList++A.drop (off+n*zc.length))).toArray t' (0,0)) (F (Builtin.zeroCells z.cells n).toList):=by rw [←e];exact hu2
  obtain ⟨w',hr,hs'⟩:=VM (P:=C.P) (off:=off) (Builtin.zeroCells z.cells n).toList (A.take off) w loc _ b t' ((A.drop off).take (n*zc.length)) 0 (by rw [List.length_take];omega) (by rw [hsz,List.length_take,List.length_drop];omega) hz1 hw hu3
  have hrun:(Builtin.clear_ #[t] ty #[.slice (some ⟨b,off,none⟩) n c]).run C.P w= .ok (.tuple #[]) w':=by
   have h0:n=0→w'=w:=by
    intro hn;subst hn
    have:(Builtin.zeroCells z.cells 0).toList=[]:=List.length_eq_zero_iff.1 (by rw [hsz];omega)
    rw [this] at hr
    simp [storeCells] at hr
    exact hr.symm
   cases n with
   | zero=>rw [h0 rfl];simp [Builtin.clear_,run_underlying hT,Result.andThen]
   | succ k=>simp [Builtin.clear_,Sem.run_bind,run_underlying hT,Result.andThen,Vm hz,hr]
  simp only [execOp,resolve,List.map_toArray,List.map_cons,List.map_nil,Qi (S:=[]) ha trivial rfl hx,Sem.run_bind,Sem.run_pure,Result.andThen,invoke,builtin,hrun,Oper.uponIn_value]
  exact h _ hsz _ _ ha trivial hs'
end
end
end Go.Kn
namespace Go.Proofs.YtjblkbkmblkgoaaGreat
section
open Go Go.Kn Go.Proofs
theorem znt:Fun Tryz.prog 83:=.of Tryz.func83 (by kernel_rfl) (by kernel_rfl)
theorem zr8:Tryz.prog.underlying 57=some (.slice 45):=by kernel_rfl
theorem zrm {I:Qu}{x y:Nt}(hX:NtM I x)(hY:NtM I y):Ya Tryz.prog 83 [JH x,JH y] I (.bool (Vn x y==0)):=by
 intro g H w hw
 refine qe Tryz.func83 Tryz.ntmps83 hw ?_
 have hIc:=zvV I
 refine zR ?_
 refine Zf rfl rfl rfl (fun b_2=>?_)
 refine Zf rfl rfl rfl (fun b_3=>?_)
 refine zA (Qb ?_)
 refine QQ .here (fun I1 hI1 hb1=>?_)
 have hX:=hX.mono hI1;have hY:=hY.mono hI1;have hIc:=hIc.trans hI1
 have h3:=BxI.of hb1
 refine QQ .here (fun I2 hI2 hb2=>?_)
 have hX:=hX.mono hI2;have hY:=hY.mono hI2;have h3:=h3.mono hI2;have hIc:=hIc.trans hI2
 have h2:=BxI.of hb2
 refine Qc (zR ?_)
 refine zV (Qg rfl Zr (fun hg=>by exact BxI.cells (vs:=Zm x) h2) rfl) ?_
 refine zV (Qg rfl Zr (fun hg=>by exact BxI.cells (vs:=Zm y) h3) rfl) ?_
 refine qcV (vs:=[_,_]) rfl zc8 (zdA hX hY) ?_
 refine zC ?_
 refine zA (zN (QE ?_))
 exact QS rfl rfl (fun w hw=>⟨by rfl,(hw.mono hIc).subL Qf⟩)
theorem zsU {I:Qu}{b c n:Nat}{ws:List Nt}{tl:List Value}(hws:ws.length=n)(hM:∀ x∈ws,NtM I x)(hn:n≤100000)(hc:n≤c)(_hcm:c≤maxLen)(htl:tl.length=(c-n)*45):Vh Tryz.prog 82 [.slice (some ⟨b,0,none⟩) n c,.func (.func 83) #[] #[]] I [(b,.cells (ws.flatMap Zm++tl).toArray 45 (0,0))] (fun v I' L'=>I'=I∧v= .slice (some ⟨b,0,none⟩) (Vo ws n).length c∧∃ tl',tl'.length=(c-(Vo ws n).length)*45∧L'=[(b,.cells ((Vo ws n).flatMap Zm++tl').toArray 45 (0,0))]):=by
 intro g H w hw
 refine qe Tryz.func82 Tryz.ntmps82 hw ?_
 refine zR (zA (zN (Qr (zR ?_))))
 refine zM ?_
 refine zQ Zs ?_
 refine zC (zN ?_)
 refine zI ?_ ?_<;>intro hc10
 ·
  have h10:ws.length<2:=by have h:=hc10;simp at h;omega
  refine zR (zM ?_)
  refine zA (zN (QE (Qh ?_)))
  exact QS rfl rfl (fun w hw=>⟨_,I,_,rfl,zvV _,hw,rfl,by rw [←hws,X4 h10],tl,by rw [←hws,X4 h10,hws];exact htl,by rw [←hws,X4 h10]⟩)
 have h10:2≤n:=by have h:=hc10;simp at h;omega
 refine Qz (Qc (Qr (zR (zA (zN (QB ?_))))))
 refine zU [(0,_),(1,_)] (fun T L0 mz E I' loc'=>∃ (k:Nat),mz=n-k∧E=(5,.int .i64 k)::T∧I=I'∧L0=loc'∧1≤k∧k≤n∧Vo ws k=ws.take k) ?_ (h:=⟨1,rfl,rfl,rfl,rfl,Nat.le_refl _,by omega,zqk ws⟩)
 rintro mz E I' loc' ⟨k,rfl,rfl,rfl,rfl,hk1,hkn,hct⟩
 refine Qr (zR (zM ?_))
 refine zM ?_
 refine zQ Zs ?_
 refine zC (zN ?_)
 refine zI ?_ ?_<;>intro hc15
 ·
  have hlt:k<n:=by have h:=hc15;simp at h;omega
  obtain ⟨x,hx⟩:∃ y,ws[k]? =some y:=⟨_,List.getElem?_eq_getElem (by omega)⟩
  obtain ⟨y,hy⟩:∃ y,ws[k-1]? =some y:=⟨_,List.getElem?_eq_getElem (by omega)⟩
  have hxm:=List.mem_of_getElem? hx
  have hym:=List.mem_of_getElem? hy
  have ex1:((k:Int)).toNat*45=k*45:=by rw [Int.toNat_natCast]
  have ey1:((k:Int)-1).toNat*45=(k-1)*45:=by rw [show ((k:Int)-1).toNat=k-1 by omega]
  refine Qz (Qc (Qr (QB (Qr ?_))))
  have hD:=zvV I
  refine ZO ?_
  refine Q3 I [(b,.cells (ws.flatMap Zm++tl).toArray 45 (0,0))] mixed ?_
  refine zT 0 rfl (Qj rfl) hD ?_
  refine zT 1 rfl (Qj rfl) hD ?_
  refine zT 2 rfl (Qj rfl) hD ?_
  refine zT 3 rfl (KC rfl rfl Zs (fun hg=>by omega)) hD ?_
  refine zT 4 rfl (Qg rfl Zr (fun hg=>by exact US hx ex1) rfl) hD ?_
  refine zT 5 rfl (Qj rfl) hD ?_
  refine zT 6 rfl (Qj rfl) hD ?_
  refine zT 7 rfl (Jf rfl rfl rfl (fun hg=>by omega)) hD ?_
  refine zT 8 rfl (KC rfl rfl Zs (fun hg=>by omega)) hD ?_
  refine zT 9 rfl (Qg rfl Zr (fun hg=>by exact US hy ey1) rfl) hD ?_
  refine qd 10 rfl ?_
  refine qcV (vs:=[_,_]) rfl znt (zrm (hM x hxm) (hM y hym)) ?_
  refine Qb ?_
  refine zD hD ?_
  refine Qn (by kernel_rfl) ?_
  refine QA ?_
  refine Qc ?_
  refine zI ?_ ?_<;>intro hc28
  ·
   have hkp:kpN ws k x=false:=by rw [zgV hk1 hy,hc28];rfl
   refine zR (zM ?_)
   refine zM ?_
   refine zV (Vl rfl rfl Zs (fun hg=>by omega)) ?_
   rw [U0 (by omega)]
   refine zA (zN (Qr (zR ?_)))
   refine zA (zN (QB ?_))
   refine ze4 [(0,_),(1,_),(6,_)] (.cons rfl (.cons rfl (.cons rfl .nil))) (fun T L0 mz E I' loc'=>∃ (j:Nat),mz=n-j∧E=(5,.int .i64 ((Vo ws (k+j)).length:Nat))::(7,.int .i64 j)::T∧I=I'∧[(b,.cells ((Ug ws (k+j)).flatMap Zm++tl).toArray 45 (0,0))]=loc'∧1≤j∧k+j≤n∧(Vo ws (k+j)).length≤k+j-1) _ _ _ _ ⟨1,rfl,by rw [zbu hx hkp,hct,List.length_take,Nat.min_eq_left (by omega)],rfl,by rw [znz hx hkp,zl5 hct (by omega)],Nat.le_refl _,by omega,by rw [zbu hx hkp];have:=UE ws k;omega⟩ (.cons rfl (.cons rfl (.cons rfl (.cons rfl (.cons rfl .nil))))) (zvV _) rfl ?_
   rintro mz E I' loc' ⟨j,rfl,rfl,rfl,rfl,hj1,hjn,hml⟩
   have hbl:(Ug ws (k+j)).length=n:=by rw [zjG];exact hws
   refine Qr (zR (zM ?_))
   refine zM ?_
   refine zQ Zs ?_
   refine zC (zN ?_)
   refine zI ?_ ?_<;>intro hc35
   ·
    have hlt2:k+j<n:=by have h:=hc35;simp at h;omega
    obtain ⟨x,hx0⟩:∃ y,ws[k+j]? =some y:=⟨_,List.getElem?_eq_getElem (by omega)⟩
    obtain ⟨y,hy0⟩:∃ y,ws[k+j-1]? =some y:=⟨_,List.getElem?_eq_getElem (by omega)⟩
    have hxm:=List.mem_of_getElem? hx0
    have hym:=List.mem_of_getElem? hy0
    have hx2:(Ug ws (k+j))[k+j]? =some x:=by rw [ziz (by omega)];exact hx0
    have hy2:(Ug ws (k+j))[k+j-1]? =some y:=by rw [ziz (by omega)];exact hy0
    have ex2:0+((k:Int)).toNat*45+((j:Int)).toNat*45=(k+j)*45:=by rw [Int.toNat_natCast,Int.toNat_natCast,Nat.zero_add,←Nat.add_mul]
    have ey2:0+((k:Int)).toNat*45+((j:Int)-1).toNat*45=(k+j-1)*45:=by rw [show ((j:Int)-1).toNat=j-1 by omega,Int.toNat_natCast,Nat.zero_add,←Nat.add_mul];congr 1;omega
    refine Qz (Qc (Qr (QB (Qr ?_))))
    have hD:=zvV I
    refine ZO ?_
    refine Q3 I [(b,.cells ((Ug ws (k+j)).flatMap Zm++tl).toArray 45 (0,0))] mixed ?_
    refine zT 0 rfl (Qj rfl) hD ?_
    refine zT 1 rfl (Qj rfl) hD ?_
    refine zT 2 rfl (Qj rfl) hD ?_
    refine zT 3 rfl (Je rfl rfl Zs (fun hg=>by omega)) hD ?_
    refine zT 4 rfl (Qg rfl Zr (fun hg=>by exact US hx2 ex2) rfl) hD ?_
    refine zT 5 rfl (Qj rfl) hD ?_
    refine zT 6 rfl (Qj rfl) hD ?_
    refine zT 7 rfl (Jf rfl rfl rfl (fun hg=>by omega)) hD ?_
    refine zT 8 rfl (Je rfl rfl Zs (fun hg=>by omega)) hD ?_
    refine zT 9 rfl (Qg rfl Zr (fun hg=>by exact US hy2 ey2) rfl) hD ?_
    refine qd 10 rfl ?_
    refine qcV (vs:=[_,_]) rfl znt (zrm (hM x hxm) (hM y hym)) ?_
    refine Qb ?_
    refine zD hD ?_
    refine zT 11 rfl (YB rfl) hD ?_
    refine Qn (by kernel_rfl) ?_
    refine QA ?_
    refine Qc ?_
    refine zI ?_ ?_<;>intro hc49
    ·
     have hkp2:kpN ws (k+j) x=true:=by rw [zgV (by omega) hy0];exact hc49
     refine zR (zM ?_)
     refine zM ?_
     refine zM ?_
     refine zM ?_
     refine zV (Je rfl rfl Zs (fun hg=>by omega)) ?_
     refine zV (Qg rfl Zr (fun hg=>by exact US hx2 ex2) rfl) ?_
     refine zV (KC rfl rfl Zs (fun hg=>by omega)) ?_
     refine Vv (A:=(Ug ws (k+j)).flatMap Zm++tl) rfl rfl Vp rfl (by rw [zki hbl htl hc];exact Nat.ble_eq_true_of_le (by simp;omega)) rfl rfl (by exact .here) ?_
     rw [show (((Vo ws (k+j)).length:Nat):Int).toNat*45=(Vo ws (k+j)).length*45 from by rw [Int.toNat_natCast],ziq (by rw [hbl];omega)]
     refine zN (Qk (zM ?_))
     refine zB ?_
     refine zA (Qb (Qm (Qc (Qk ?_))))
     refine zM ?_
     refine zB ?_
     refine zA (Qb ?_)
     first
     | exact Zq _ [(b,.cells (((Ug ws (k+j)).set (Vo ws (k+j)).length x).flatMap Zm++tl).toArray 45 (0,0))] ⟨n-(j+1),by omega,j+1,rfl,by rw [←Nat.add_assoc,zay hx0 hkp2,List.length_append,List.length_singleton],rfl,by rw [←Nat.add_assoc,zqw hx0 hkp2],by omega,by omega,by rw [←Nat.add_assoc,zay hx0 hkp2,List.length_append,List.length_singleton];omega⟩ (.cons rfl (.cons rfl (.cons rfl (.cons rfl (.cons rfl .nil))))) (by repeat (first | exact .refl | exact QN | refine Za ?_ | refine .drop ?_ | refine Qe ?_))
    have hkp2:kpN ws (k+j) x=false:=by rw [zgV (by omega) hy0];exact hc49
    refine Qz (Qm (Qc (Qk (zM ?_))))
    refine zB ?_
    refine zA (Qb ?_)
    first
    | exact Zq _ [(b,.cells ((Ug ws (k+j)).flatMap Zm++tl).toArray 45 (0,0))] ⟨n-(j+1),by omega,j+1,rfl,by rw [←Nat.add_assoc,zbu hx0 hkp2],rfl,by rw [←Nat.add_assoc,znz hx0 hkp2],by omega,by omega,by rw [←Nat.add_assoc,zbu hx0 hkp2];omega⟩ (.cons rfl (.cons rfl (.cons rfl (.cons rfl (.cons rfl .nil))))) (by repeat (first | exact .refl | exact QN | refine Za ?_ | refine .drop ?_ | refine Qe ?_))
   have hge2:k+j=n:=by have h:=hc35;simp at h;omega
   refine ZF (Qt (Qt (QC (Qc (zR (zM ?_))))))
   refine zM ?_
   refine zV (Vl rfl rfl Zs (fun hg=>by omega)) ?_
   rw [U0 (by omega)]
   refine zmU (A:=(Ug ws (k+j)).flatMap Zm++tl) (fun zs=>[(b,.cells (((Ug ws (k+j)).flatMap Zm++tl).take (0+(Vo ws (k+j)).length*45)++(zs++((Ug ws (k+j)).flatMap Zm++tl).drop (0+(Vo ws (k+j)).length*45+(n-(Vo ws (k+j)).length)*45))).toArray 45 (0,0))]) rfl zr8 KM rfl rfl (by rw [zki hbl htl hc];simp;omega) rfl rfl (fun zs=>by simpa using Upd.here) (fun zc hzc=>?_)
   refine Qb ?_
   obtain ⟨tl2,ht2,e2⟩:=zhL hge2 hws hc htl (by simpa using hzc)
   rw [e2]
   refine Qc (zR (zM ?_))
   refine zM ?_
   refine zV (V3 rfl rfl Zs (fun hg=>by omega)) ?_
   refine zA (zN (QE (Qx (Qh (Qh (Qx (Qh ?_)))))))
   exact QS rfl rfl (fun w hw=>⟨_,I,_,rfl,zvV _,hw,rfl,by rw [Int.toNat_natCast,hge2],tl2,ht2,rfl⟩)
  refine Qz (Qm (Qc (Qk (zM ?_))))
  refine zB ?_
  refine zA (Qb ?_)
  exact zm (h:=⟨n-(k+1),by omega,k+1,rfl,rfl,rfl,rfl,by omega,by omega,zcW hct hx (by rw [zgV hk1 hy,hc28];rfl)⟩)
 have hge:n≤k:=by have h:=hc15;simp at h;omega
 obtain rfl:k=n:=by omega
 rw [List.take_of_length_le (by omega)] at hct
 refine ZF (Qt (Qt (QC (Qc (zR (zM ?_))))))
 refine zA (zN (QE ?_))
 exact QS rfl rfl (fun w hw=>⟨_,I,_,rfl,zvV _,hw,rfl,by rw [hct,hws],tl,by rw [hct,hws];exact htl,by rw [hct]⟩)
end
end Go.Proofs.YtjblkbkmblkgoaaGreat
namespace Go.Kn
section
open Go Go.Sort Go.Shelf Go.Lib Go.Proofs
theorem zhS {α:Type}[Inhabited α]{P:Program}{f g0:FuncId}{e:TypeId}{k:Nat}{enc:α→List Value}{cf:α→α→Int}(hk:∀ x,(enc x).length=k)(hpos:0<k)
  (hs:∀ (blk off cap:Nat) (d:Array α) (w:World),CmpLays P g0 #[] enc k cf blk off d.size w→HoldsK enc k w blk off d→blk<w.heap.size→d.size<4611686018427387904→
   Calls P f #[.slice (some ⟨blk,off,none⟩) d.size cap,.func (.func g0) #[] #[]] w fun e w'=>e= .returned (.tuple #[])∧∃ d' n os,PermIn 0 d.size d d'∧SortedIn (ltOf cf) 0 d.size d'∧w'=sortWorldK enc k w blk off n d' os)
  (h0:∀ (p:Option Addr) (cap:Nat) (fv:Value) (w:World),Calls P f #[.slice p 0 cap,fv] w fun e w'=>e= .returned (.tuple #[])∧w'=w)
  (I:Qu)(hcmp:∀ I',HLe I I'→∀ (x y:α),Ya P g0 [.agg (enc x).toArray,.agg (enc y).toArray] I' (.int .i64 (cf x y)))
  (zs:List α){v:Value}{n:Nat}{L:Loc}(hO:Yk e k v n (zs.flatMap enc) L)(hn:n≤1000000):
  Vh P f [v,.func (.func g0) #[] #[]] I L (fun u I' L'=>u= .tuple #[]∧I'=I∧∃ zs':List α,zs'.Perm zs∧zs'.Pairwise (fun x y=>ltOf cf y x=false)∧Yk e k v n (zs'.flatMap enc) L'):=by
 intro g H w hw
 have hl:zs.length=n:=by
  have:=hO.1
  rw [YJ hk] at this
  exact Nat.eq_of_mul_eq_mul_right hpos this
 subst hl
 rcases hO.2 with ⟨rfl,h00,rfl⟩ | ⟨b,c,cur,rfl,rfl,hc,hc2,hsz,htk⟩
 ·
  have:zs=[]:=List.length_eq_zero_iff.1 h00
  subst this
  refine (h0 none 0 _ w).mono ?_
  rintro e w' ⟨rfl,rfl⟩
  exact ⟨_,I,[],rfl,zvV _,hw,rfl,rfl,[],.nil,.nil,by simp,.inl ⟨rfl,rfl,rfl⟩⟩
 ·
  have hb:=hw.own b _ (List.mem_singleton.2 rfl)
  have hbs:b<w.heap.size:=(Array.getElem?_eq_some_iff.1 hb).1
  have hfl:(zs.flatMap enc).length=zs.length*k:=YJ hk zs
  have hH:HoldsK enc k w b 0 zs.toArray:=by
   unfold HoldsK
   rw [zkV hk hpos]
   exact zcQ (enc:=id) hw (List.mem_singleton.2 rfl) (zs.flatMap enc) (by rw [hfl,htk];simp)
  have hC:CmpLays P g0 #[] enc k cf b 0 zs.toArray.size w:=by
   intro m os dk _ x y
   have hsw:∃ L',St g I H L' (sortWorldK enc k w b 0 m dk os):=by
    unfold sortWorldK putRowK
    exact ⟨_,((hw.aheadN m).rowPut (enc:=id) _ .here).grown os⟩
   obtain ⟨L',hsw⟩:=hsw
   have h1:=hcmp (fun q=>(sortWorldK enc k w b 0 m dk os).heap[q]?) (fun b o h=>hsw.imm b o h) x y (sortWorldK enc k w b 0 m dk os) (fun _=>none) (sortWorldK enc k w b 0 m dk os)
    ⟨rfl,rfl,rfl,⟨Nat.le_refl _,Nat.le_refl _⟩,fun _ _ h=>h,(fun _ _ h=>by cases h),(fun _ _ h=>by cases h),fun _=>.inr rfl,(fun _ _ h=>by cases h),by simp⟩
   refine Calls.mono h1 ?_
   rintro e w' ⟨rfl,hs⟩
   exact ⟨rfl,zl3 hs⟩
  have hcall:=hs b 0 c zs.toArray w hC hH hbs (by simp;omega)
  rw [List.size_toArray] at hcall
  refine hcall.mono ?_
  rintro e w' ⟨rfl,d',m,os,hp,hsd,rfl⟩
  have hps:d'.size=zs.length:=by simpa using hp.1
  have hperm:d'.toList.Perm zs:=by
   have:=hp.2.2
   simpa [Array.extract_eq_self_of_le,hps] using this
  have hdl:d'=d'.toList.toArray:=by simp
  have hfd:(d'.toList.flatMap enc).length=zs.length*k:=by rw [YJ hk,Array.length_toList,hps]
  refine ⟨_,I,[(b,.cells (putCells id 0 (d'.toList.flatMap enc).toArray cur) e (0,0))],rfl,zvV _,?_,rfl,rfl,d'.toList,hperm,?_,?_⟩
  ·
   unfold sortWorldK putRowK
   rw [hdl,zkV hk hpos]
   simp only
   exact (((hw.aheadN m).rowPut (enc:=id) _ .here).grown os)
  ·
   rw [List.pairwise_iff_getElem]
   intro i j hi hj hij
   have:=hsd i j (Nat.zero_le _) hij (by rw [←hps];simpa using hj)
   rw [getElem!_pos d' i (by simpa using hi),getElem!_pos d' j (by simpa using hj)] at this
   simpa using this
  ·
   refine ⟨by rw [hfd],.inr ⟨b,c,_,rfl,rfl,hc,hc2,by simp [putCells,hsz],?_⟩⟩
   have:=zfv (enc:=id) (cs:=cur) (n:=zs.length*k) (d'.toList.flatMap enc) hfd (by rw [hsz];exact Nat.mul_le_mul_right k hc)
   simpa using this
end
end Go.Kn
namespace Go.Proofs.YtjblkbkmblkgoaaGreat
section
open Go Go.Kn Go.Proofs
/-! ### The order -/
theorem zja {x y z:Nt}(h:Vn x y=0):Vn x z=Vn y z:=by
 have e:(Xj x).data.toList=(Xj y).data.toList:=zqU h
 unfold Vn zub;rw [e]
theorem XF:NtW zds:=⟨fun y hy=>by
  have:y=0:=by
   simp only [Vr,zds,VK,JF,L.zeroL,S.zeroR,KH,List.mem_cons,List.not_mem_nil,or_false,or_self] at hy
   exact hy
  subst this;decide,fun y hy=>by cases hy⟩
theorem zh8 {x:Nt}(hw:NtW x)(s1:x.pt.needs.length≤32)(s2:x.rt.name.size≤32)(s3:x.rt.town.size≤32):Va.ok (JZ x)∧(JM x).length≤2000:=by
 have hok:∀ v∈(Vr x).map Va.int,Va.ok v:=fun v hv=>by
  obtain ⟨y,hy,rfl⟩:=List.mem_map.1 hv
  exact hw.ints y hy
 have hon:∀ v∈x.pt.needs.map Va.int,Va.ok v:=fun v hv=>by
  obtain ⟨y,hy,rfl⟩:=List.mem_map.1 hv
  exact hw.needs y hy
 have hb:(Va.encL ((Vr x).map Va.int)).length≤462:=by
  have:=Ks (b:=11) (l:=(Vr x).map Va.int) fun v hv=>by
   obtain ⟨y,hy,rfl⟩:=List.mem_map.1 hv
   exact Kz (hw.ints y hy)
  rw [List.length_map,YG] at this;omega
 have hn:(Va.encL (x.pt.needs.map Va.int)).length≤352:=by
  have:=Ks (b:=11) (l:=x.pt.needs.map Va.int) fun v hv=>by
   obtain ⟨y,hy,rfl⟩:=List.mem_map.1 hv
   exact Kz (hw.needs y hy)
  rw [List.length_map] at this
  have h2:=Nat.mul_le_mul_right 11 s1
  omega
 constructor
 ·
  refine ⟨by simp [YG],zcR fun v hv=>?_⟩
  rw [List.mem_append] at hv
  rcases hv with hv | hv
  ·
   exact hok v hv
  ·
   simp only [List.mem_cons,List.not_mem_nil,or_false] at hv
   rcases hv with rfl | rfl | rfl
   ·
    exact ⟨by rw [List.length_map];omega,zcR hon⟩
   ·
    exact ⟨zbY _,by rw [V7];omega⟩
   ·
    exact ⟨zbY _,by rw [V7];omega⟩
 ·
  have e1:=JQ (s:=Kj x.rt.name) (by rw [V7];exact s2)
  have e2:=JQ (s:=Kj x.rt.town) (by rw [V7];exact s3)
  have e3:(Va.enc (.list (x.pt.needs.map Va.int))).length≤354:=by
   rw [Va.enc,List.length_map,Y7 (by omega)]
   simp only [List.length_cons,List.length_append,List.length_nil];omega
  unfold JM JZ
  rw [Va.enc,Y7 (by simp [YG])]
  simp only [List.length_cons,List.length_append,List.length_nil,Va.encL_append,Va.encL];omega
theorem zme (I:Qu):NtM I zds:=by
 obtain ⟨h1,h2⟩:=zh8 XF (by decide) (by decide) (by decide)
 exact ⟨Sl.nil,by decide,h1,by omega⟩
def NtP (I:Qu):={x:Nt // NtM I x}
instance (I : Qu) : Inhabited (NtP I) := ⟨⟨zds, zme I⟩⟩
def zoy {I:Qu}(x:NtP I):List Value:=Zm x.1
def zg4 {I:Qu}(x y:NtP I):Int:=Vn x.1 y.1
theorem zvj (I:Qu):Go.Sort.SWO (Go.Proofs.ltOf (zg4 (I:=I))):=by
 have key:∀ a b c:Nt,¬Vn a b<0→¬Vn b c<0→¬Vn a c<0:=fun a b c h1 h2 h3=>by
  by_cases e:Vn b a=0
  ·
   rw [zja e] at h2;exact h2 h3
  ·
   have hf:Vn a b= - Vn b a:=by rw [We]
   have h4:Vn b a<0:=by omega
   exact h2 (V1 h4 h3)
 refine ⟨fun x=>?_,fun x y z h1 h2=>?_,fun x y z h1 h2=>?_⟩
 ·
  unfold Go.Proofs.ltOf zg4;rw [KX];rfl
 ·
  unfold Go.Proofs.ltOf zg4 at*
  exact decide_eq_true (V1 (of_decide_eq_true h1) (of_decide_eq_true h2))
 ·
  unfold Go.Proofs.ltOf zg4 at*
  exact decide_eq_false (key _ _ _ (of_decide_eq_false h1) (of_decide_eq_false h2))
def NtP.v {I:Qu}(x:NtP I):Nt:=x.1
theorem znJ {I:Qu}:∀ (xs:List Nt),(∀ x∈xs,NtM I x)→∃ zs:List (NtP I),zs.map NtP.v=xs
 | [],_=>⟨[],rfl⟩
 | x::l,h=>by
  obtain ⟨zs,hz⟩:=znJ l fun y hy=>h y (List.mem_cons_of_mem _ hy)
  exact ⟨(show NtP I from ⟨x,h x (List.mem_cons_self ..)⟩)::zs,congrArg (x:: ·) hz⟩
/-! ### Struck -/
theorem zcf {ws:List Nt}:∀ m,∀ x∈Vo ws m,x∈ws
 | 0,x,h=>by cases h
 | m+1,x,h=>by
  unfold Vo at h
  split at h
  ·
   exact zcf m x h
  ·
   rename_i y hy
   split at h
   ·
    rcases List.mem_append.1 h with h | h
    ·
     exact zcf m x h
    ·
     rw [List.mem_singleton] at h;subst h;exact List.mem_of_getElem? hy
   ·
    exact zcf m x h
theorem zfM {ws:List Nt}(hs:ws.Pairwise fun x y=>¬Vn y x<0):∀ m,m≤ws.length→zhf (Vo ws m)∧(∀ y,1≤m→ws[m-1]? =some y→∃ z,(Vo ws m).getLast?=some z∧Vn z y=0)∧∀ (i:Nat) (x:Nt),i<m→ws[i]? =some x→∃ z∈Vo ws m,Vn z x=0
 | 0,_=>⟨fun k l x y _ hx=>by simp [Vo] at hx,fun y h=>by omega,fun i x h=>by omega⟩
 | m+1,hm=>by
  obtain ⟨h1,h2,h3⟩:=zfM hs m (by omega)
  obtain ⟨x,hx⟩:∃ x,ws[m]? =some x:=⟨_,List.getElem?_eq_getElem (by omega)⟩
  cases hk:kpN ws m x with
  | true=>
   rw [zay hx hk]
   refine ⟨?_,fun y _ hy=>⟨x,by simp,?_⟩,fun i u hi hu=>?_⟩
   ·
    -- all before are less
    have hlt:∀ z∈Vo ws m,Vn z x<0:=by
     intro z hz
     rcases Nat.eq_zero_or_pos m with hm0 | hm0
     ·
      subst hm0;cases hz
     ·
      obtain ⟨y,hy⟩:∃ y,ws[m-1]? =some y:=⟨_,List.getElem?_eq_getElem (by omega)⟩
      rw [zgV hm0 hy] at hk
      have hne:Vn x y≠0:=by simpa using hk
      have hnl:¬Vn x y<0:=by
       obtain ⟨ha,ea⟩:=List.getElem?_eq_some_iff.1 hy
       obtain ⟨hb,eb⟩:=List.getElem?_eq_some_iff.1 hx
       have:=List.pairwise_iff_getElem.1 hs (m-1) m ha hb (by omega)
       rw [ea,eb] at this;exact this
      have hyx:Vn y x<0:=by rw [We];omega
      obtain ⟨l,hl,hly⟩:=h2 y hm0 hy
      have hlx:Vn l x<0:=by rw [zja hly];exact hyx
      obtain ⟨i,hi⟩:=List.mem_iff_getElem?.1 hz
      have hil:=(List.getElem?_eq_some_iff.1 hi).1
      rw [List.getLast?_eq_getElem?] at hl
      rcases Nat.lt_or_ge i ((Vo ws m).length-1) with h4 | h4
      ·
       exact V1 (h1 i _ z l h4 hi hl) hlx
      ·
       have:i=(Vo ws m).length-1:=by omega
       rw [this,hl] at hi;cases hi;exact hlx
    intro k l u v hkl hu hv
    rcases Nat.lt_or_ge l (Vo ws m).length with h4 | h4
    ·
     rw [List.getElem?_append_left h4] at hv
     rw [List.getElem?_append_left (by omega)] at hu
     exact h1 k l u v hkl hu hv
    ·
     rw [List.getElem?_append_right h4] at hv
     have hvl:v=x:=by
      have:=(List.getElem?_eq_some_iff.1 hv).1
      simp only [List.length_singleton] at this
      have e:l-(Vo ws m).length=0:=by omega
      rw [e] at hv;cases hv;rfl
     subst hvl
     rw [List.getElem?_append_left (by
      have:=(List.getElem?_eq_some_iff.1 hv).1
      simp only [List.length_singleton] at this
      omega)] at hu
     exact hlt u (List.mem_of_getElem? hu)
   ·
    rw [Nat.add_sub_cancel,hx] at hy;cases hy;exact KX _
   ·
    rcases Nat.lt_or_ge i m with h4 | h4
    ·
     obtain ⟨z,hz,e⟩:=h3 i u h4 hu;exact ⟨z,List.mem_append_left _ hz,e⟩
    ·
     have:i=m:=by omega
     subst this;rw [hx] at hu;cases hu
     exact ⟨_,List.mem_append_right _ (List.mem_singleton.2 rfl),KX _⟩
  | false=>
   rw [zbu hx hk]
   have hm0:1≤m:=by
    rcases Nat.eq_zero_or_pos m with h | h
    ·
     subst h;simp [kpN] at hk
    ·
     exact h
   obtain ⟨y,hy⟩:∃ y,ws[m-1]? =some y:=⟨_,List.getElem?_eq_getElem (by omega)⟩
   rw [zgV hm0 hy] at hk
   have he:Vn x y=0:=by simpa using hk
   have he2:Vn y x=0:=by rw [We,he];rfl
   obtain ⟨l,hl,hly⟩:=h2 y hm0 hy
   have hlx:Vn l x=0:=by rw [zja hly];exact he2
   refine ⟨h1,fun u _ hu=>⟨l,hl,?_⟩,fun i u hi hu=>?_⟩
   ·
    rw [Nat.add_sub_cancel,hx] at hu;cases hu;exact hlx
   ·
    rcases Nat.lt_or_ge i m with h4 | h4
    ·
     exact h3 i u h4 hu
    ·
     have:i=m:=by omega
     subst this;rw [hx] at hu;cases hu
     exact ⟨l,List.mem_of_getLast? hl,hlx⟩
/-! ### Loaded -/
structure LdK (I:Qu)(rs:List Hy)(xs:List Nt):Prop where
 len:xs.length=rs.length
 ok:∀ (i:Nat) (r:Hy) (x:Nt),rs[i]? =some r→xs[i]? =some x→okN r.bytes=some (YA x)∧NtM I x∧Q2 x=true
theorem LdK.mono {I I':Qu}{rs:List Hy}{xs:List Nt}(h:LdK I rs xs)(hI:HLe I I'):LdK I' rs xs:=⟨h.len,fun i r x hr hx=>let ⟨h1,h2,h3⟩:=h.ok i r x hr hx;⟨h1,h2.mono hI,h3⟩⟩
theorem LdK.nil {I:Qu}:LdK I [] []:=⟨rfl,fun i r x hr=>by simp at hr⟩
theorem LdK.snoc {I:Qu}{rs:List Hy}{xs:List Nt}{r:Hy}{x:Nt}(h:LdK I rs xs)(h1:okN r.bytes=some (YA x))(h2:NtM I x)(h3:Q2 x=true):LdK I (rs++[r]) (xs++[x]):=by
 have hl:=h.len
 refine ⟨by simp [hl],fun i r' x' hr hx=>?_⟩
 rcases Nat.lt_or_ge i rs.length with h4 | h4
 ·
  rw [List.getElem?_append_left h4] at hr
  rw [List.getElem?_append_left (by omega)] at hx
  exact h.ok i r' x' hr hx
 ·
  rw [List.getElem?_append_right h4] at hr
  rw [List.getElem?_append_right (by omega)] at hx
  have e:i-rs.length=0:=by
   have:=(List.getElem?_eq_some_iff.1 hr).1
   simp only [List.length_singleton] at this;omega
  rw [hl,e] at hx;rw [e] at hr
  cases hr;cases hx;exact ⟨h1,h2,h3⟩
theorem LdK.all {I:Qu}{rs:List Hy}{xs:List Nt}(h:LdK I rs xs):∀ x∈xs,NtM I x∧Q2 x=true∧∃ r∈rs,okN r.bytes=some (YA x):=fun x hx=>by
 obtain ⟨i,hi⟩:=List.mem_iff_getElem?.1 hx
 obtain ⟨r,hr⟩:∃ r,rs[i]? =some r:=⟨_,List.getElem?_eq_getElem (by rw [←h.len];exact (List.getElem?_eq_some_iff.1 hi).1)⟩
 obtain ⟨h1,h2,h3⟩:=h.ok i r x hr hi
 exact ⟨h2,h3,r,List.mem_of_getElem? hr,h1⟩
structure LdZ (I:Qu)(rs:List Hy)(a:Option Addr)(m c:Nat)(zs:List Nt):Prop where
 nt:zbh I a m c zs
 srt:zhf zs
 len:zs.length≤rs.length
 mem:∀ r∈rs,∃ x∈zs,okN r.bytes=some (YA x)
 frm:∀ x∈zs,Q2 x=true∧∃ r∈rs,okN r.bytes=some (YA x)
def LdQ (rs:List Hy)(v:Value)(I':Qu)(L':Go.Kn.Loc):Prop:=L'=[]∧
  ((4096<rs.length∧v= .tuple #[.agg #[.slice none 0 0],.int .i64 2])∨
   (rs.length≤4096∧(∃ r∈rs,okN r.bytes=none)∧v= .tuple #[.agg #[.slice none 0 0],.int .i64 570])∨
   (rs.length≤4096∧∃ a m c zs,v= .tuple #[.agg #[.slice a m c],.int .i64 0]∧LdZ I' rs a m c zs))
theorem ztA {I:Qu}{rs:List Hy}{xs ys:List Nt}{a:Option Addr}{m c:Nat}(h:LdK I rs xs)(hp:ys.Perm xs)(hs:ys.Pairwise fun x y=>¬Vn y x<0)(hS:Sl I 45 Zm a m c (Vo ys ys.length)):LdZ I rs a m c (Vo ys ys.length):=by
 obtain ⟨h1,_,h3⟩:=zfM hs ys.length (Nat.le_refl _)
 have hall:=h.all
 have hsub:∀ x∈Vo ys ys.length,x∈xs:=fun x hx=>hp.mem_iff.1 (zcf _ x hx)
 refine ⟨⟨hS,fun x hx=>(hall x (hsub x hx)).1.nd,fun x hx _=>(hall x (hsub x hx)).1⟩,h1,?_,fun r hr=>?_,fun x hx=>⟨(hall x (hsub x hx)).2.1,(hall x (hsub x hx)).2.2⟩⟩
 ·
  have:=UE ys ys.length
  have h5:=hp.length_eq;have h6:=h.len;omega
 ·
  obtain ⟨i,hi⟩:=List.mem_iff_getElem?.1 hr
  obtain ⟨x,hx⟩:∃ x,xs[i]? =some x:=⟨_,List.getElem?_eq_getElem (by rw [h.len];exact (List.getElem?_eq_some_iff.1 hi).1)⟩
  obtain ⟨e1,e2,_⟩:=h.ok i r x hi hx
  obtain ⟨j,hj⟩:=List.mem_iff_getElem?.1 (hp.mem_iff.2 (List.mem_of_getElem? hx))
  obtain ⟨z,hz,ez⟩:=h3 j x (List.getElem?_eq_some_iff.1 hj).1 hj
  refine ⟨z,hz,?_⟩
  rw [e1,zpE (hall z (hsub z hz)).1.ok e2.ok ez]
end
section
open Go Go.Kn Go.Proofs
theorem zqg (I:Qu):Ya Tryz.prog 82 [.slice none 0 0,.func (.func 83) #[] #[]] I (.slice none 0 0):=by
 intro g H w hw
 refine qe Tryz.func82 Tryz.ntmps82 hw ?_
 refine zR (zA (zN (Qr (zR ?_))))
 refine zM ?_
 refine zQ Zs ?_
 refine zC (zN ?_)
 refine zI ?_ ?_<;>intro hc10
 ·
  refine zR (zM ?_)
  refine zA (zN (QE (Qh ?_)))
  exact QS rfl rfl (fun w hw=>⟨by rfl,hw⟩)
 cases hc10
theorem ztG {I:Qu}{v:Value}{n:Nat}{ws:List Nt}{L:Go.Kn.Loc}(hO:Yk 45 45 v n (ws.flatMap Zm) L)(hl:ws.length=n)(hM:∀ x∈ws,NtM I x)(hn:n≤100000):Vh Tryz.prog 82 [v,.func (.func 83) #[] #[]] I L (fun u I' L'=>I'=I∧Yk 45 45 u (Vo ws n).length ((Vo ws n).flatMap Zm) L'):=by
 rcases zsg hO hl with ⟨rfl,rfl,rfl⟩ | ⟨b,c,tl,rfl,rfl,hc,hcm,htl⟩
 ·
  have:ws=[]:=List.eq_nil_of_length_eq_zero hl
  subst this
  intro g H w hw
  exact (zqg I g H w hw).mono fun e w' ⟨h1,h2⟩=>⟨_,I,[],h1,zvV _,h2,rfl,Yk.nil⟩
 intro g H w hw
 refine (zsU hl hM hn hc hcm htl g H w hw).mono ?_
 rintro e w' ⟨u,I',L',h1,h2,h3,rfl,rfl,tl',h5,rfl⟩
 exact ⟨_,_,_,h1,h2,h3,rfl,zr7 rfl (Nat.le_trans (UE ws n) hc) hcm h5⟩
theorem zo8 {I:Qu}{xs:List Nt}(hX:∀ x∈xs,NtM I x){v:Value}{n:Nat}{L:Go.Kn.Loc}(hO:Yk 45 45 v n (xs.flatMap Zm) L)(hn:n≤1000000):
  Vh Tryz.prog 80 [v,.func (.func 81) #[] #[]] I L (fun u I' L'=>u= .tuple #[]∧I'=I∧∃ ys:List Nt,ys.Perm xs∧ys.Pairwise (fun x y=>¬Vn y x<0)∧Yk 45 45 v n (ys.flatMap Zm) L'):=by
 obtain ⟨zs,hz⟩:=znJ xs hX
 subst hz
 have e0:∀ l:List (NtP I),l.flatMap zoy=(l.map NtP.v).flatMap Zm:=fun l=>by rw [List.flatMap_map];rfl
 rw [←e0] at hO
 intro g H w hw
 refine (zhS (α:=NtP I) (enc:=zoy) (cf:=zg4) (fun x=>Zd x.1) (by decide) (fun blk off cap d w hC hH hb hs=>Tryz.slices_SortFunc (α:=NtP I) 45 (fun w=>YW Zr) (fun w=>by obtain ⟨i,hi,hz⟩:=Vp;rw [←hz];exact Go.Kn.run_sizeOf hi) zoy (fun x=>Zd x.1) (fun x=>V4 (by rfl)) zg4 (zvj I) 81 #[] blk off cap d w (fun args w=>Jd zc8 args w) hC hH hb hs) (Tryz.slices_SortFunc_none (α:=NtP I)) I (fun I' hI x y=>zdA (x.2.mono hI) (y.2.mono hI)) zs hO hn g H w hw).mono ?_
 rintro e w' ⟨u,I',L',h1,h2,h3,rfl,rfl,zs',hp,hpw,hO'⟩
 rw [e0] at hO'
 refine ⟨_,_,_,h1,h2,h3,rfl,rfl,zs'.map NtP.v,hp.map _,?_,hO'⟩
 rw [List.pairwise_map]
 exact hpw.imp fun {a b} h=>of_decide_eq_false h
end
section
open Go Go.Kn Go.Proofs
theorem zrK:Fun Tryz.prog 80:=.of Tryz.func80 (by kernel_rfl) (by kernel_rfl)
theorem zsA:Fun Tryz.prog 82:=.of Tryz.func82 (by kernel_rfl) (by kernel_rfl)
theorem zfK:SlT Tryz.prog 60 80 1:=.of (by kernel_rfl)
theorem znq {I:Qu}{av:Option Addr}{n c:Nat}{rs:List Hy}(hR:zq3 I av n c rs)(hn:n≤100000)(hb:∀ r∈rs,r.n≤100000):Vh Tryz.prog 24 [.slice av n c] I [] (LdQ rs):=by
 intro g H w hw
 refine qe Tryz.func24 Tryz.ntmps24 hw ?_
 have hIc:=zvV I
 have hln:=hR.sl.len
 refine zR ?_
 refine Qs zk1 rfl rfl (fun b_2=>?_)
 refine zA (zN (Qr (zR ?_)))
 refine zM ?_
 refine zQ zfK ?_
 refine zC (zN ?_)
 refine zI ?_ ?_<;>intro hc11
 ·
  have h11:4096<n:=by have h:=hc11;simp at h;omega
  refine zR ?_
  refine zV (Qg rfl Kq (fun hg=>by exact Cells.g0) rfl) ?_
  refine zh zag ?_
  refine zA (zN (QE (Qh ?_)))
  exact ZZ rfl rfl rfl Kq (by exact zvT) rfl (fun w hw=>⟨_,I,[],rfl,hIc,hw.subL Qf,rfl,.inl ⟨by omega,rfl⟩⟩)
 have h11:n≤4096:=by have h:=hc11;simp at h;omega
 refine Qz (Qc (zR (zA (zN (Qr (zR ?_))))))
 refine zM ?_
 refine zQ zfK ?_
 refine zM (zN (QB ?_))
 refine zU [(2,_),(13,_),(14,_)] (fun T L0 mz E I' loc'=>∃ (k:Nat) (v:Value) (Lw:Go.Kn.Loc) (xs:List Nt),mz=n-k∧E=(4,v)::(15,.int .i64 k)::T∧HLe I I'∧Lw++[(b_2,.cells #[.slice none 0 0] 59 (0,0))]=loc'∧k≤n∧Yk 45 45 v k (xs.flatMap Zm) Lw∧LdK I' (rs.take k) xs) ?_ (h:=⟨0,_,[],[],rfl,rfl,zvV _,rfl,Nat.zero_le _,Yk.nil,LdK.nil⟩)
 rintro mz E J1 loc' ⟨k,v,Lw,xs,rfl,rfl,hJ,rfl,hk,hO,hLK⟩
 have hR:=hR.mono hJ;have hIc:=hIc.trans hJ
 have hB0:=hJ
 refine zR (zC (zN (Qr ?_)))
 refine zI ?_ ?_<;>intro hc16
 ·
  have hlt_k:k<n:=by have h:=hc16;simp at h;omega
  obtain ⟨r,hr⟩:∃ y,rs[k]? =some y:=⟨_,List.getElem?_eq_getElem (by omega)⟩
  have hrm:=List.mem_of_getElem? hr
  have hy:=hR.m r hrm
  refine Qz (Qc (Qr (QB (zR ?_))))
  refine zV (QV rfl rfl zfK hR.sl (fun hg=>by omega)) ?_
  refine zV (Qd rfl Ur (fun hg=>by exact zvO hR.sl hr rfl)) ?_
  refine zA ?_
  refine zN (zR ?_)
  refine zM ?_
  refine QF (cap:=[]) (vs:=[_]) rfl rfl zhu .nil (zhT hy.sl hy.byte (hb r hrm)) rfl rfl ?_
  rintro vv2 I2 L2 hI2 ⟨rfl,cs,bb,rfl,hrd⟩
  have hLK:=hLK.mono hI2;have hIc:=hIc.trans hI2;have hB0:=hB0.trans hI2
  refine zM ?_
  refine zE ?_
  refine zE ?_
  refine Qs KM rfl rfl (fun b_7=>?_)
  refine Y2 (old:=Zm zds) rfl rfl Vp hrd.1.1 rfl hrd.1.2 rfl (by repeat (first | exact Upd.here | apply Upd.there | apply Qw)) ?_
  refine zA (zN (Qr (zR ?_)))
  refine zM ?_
  refine zO (zN ?_)
  refine zI ?_ ?_<;>intro hc25
  ·
   have hno:okN r.bytes=none:=by have h:=zf4 hrd;have h2:bb=false:=(by simpa using hc25);rw [h2] at h;simpa using h
   refine zR ?_
   refine zV (Qg rfl Kq (fun hg=>by (repeat (first | exact zvT | apply zvS | apply zvU))) rfl) ?_
   refine Y2 rfl rfl zag rfl rfl rfl rfl (by (repeat (first | exact Upd.here | apply Upd.there | apply Qw))) ?_
   refine zA (zN (QE (Qh (Qx (Qh (Qh (Qx ?_)))))))
   refine Qh ?_
   exact ZZ rfl rfl rfl Kq (by (repeat (first | exact zvT | apply zvS | apply zvU))) rfl (fun w hw=>⟨_,I2,[],rfl,hIc,hw.subL Qf,rfl,.inr (.inl ⟨by omega,⟨r,hrm,hno⟩,rfl⟩)⟩)
  obtain ⟨t9,_,rfl,hNd9,hok9⟩:=zfi hrd (by rw [zf4 hrd];simpa using hc25)
  have hbl9:r.bytes.length≤100000:=by have h:=hy.sl.len;have h2:=hb r hrm;omega
  have hTM:=zgB hy.byte hbl9 hok9 hNd9
  have hTf:=zdg hy.byte hbl9 hok9 hNd9
  refine Qz (Qc (Qk (zM ?_)))
  refine zV (Qg rfl Zr (fun hg=>by exact Cells.g0) rfl) ?_
  refine Ql (ps:=[(0,_)]) (m:=[Zm t9]) Ko rfl (.cons rfl (.nil)) rfl (by simp [Zd]) (by decide) (by decide) rfl rfl (fun b_29=>?_)
  refine Q4 (v:=_) (ys:=[t9].flatMap Zm) (L:=Lw) rfl rfl Ko hO (by repeat (first | exact .cons .here .nil | exact Qv | exact Qq | apply Qp | apply Qo)) ⟨rfl,fun _=>rfl,by repeat (first | exact zvT | apply zvS | apply zvU)⟩ (zin [t9]) (by omega) rfl rfl ?_
  intro v9 L9 hO9 _;rw [←List.flatMap_append] at hO9
  refine zA (Qb (Qm (Qc (Qk ?_))))
  refine zB ?_
  refine zM (Qb ?_)
  exact zm (h:=⟨n-(k+1),by omega,k+1,_,_,_,rfl,rfl,hB0,rfl,by omega,hO9,by rw [ZA hr];exact hLK.snoc hok9 hTM hTf⟩)
 have hge_k:n≤k:=by have h:=hc16;simp at h;omega
 obtain rfl:k=n:=by omega
 rw [Z8 hln (Nat.le_refl _)] at hLK
 refine ZF (Qt (Qt (QC (Qc (zR (zM ?_))))))
 refine QF (cap:=[]) (vs:=[_,_]) rfl rfl zrK Qq (zo8 (fun x hx=>(hLK.all x hx).1) hO (by omega)) rfl rfl ?_
 rintro vv3 I3 L3 hI3 ⟨rfl,rfl,ys,hperm,hpw,hO2⟩
 have hLK:=hLK.mono hI3;have hIc:=hIc.trans hI3
 refine zN (zR ?_)
 refine zM ?_
 refine QF (cap:=[]) (vs:=[_,_]) rfl rfl zsA Qq (ztG hO2 (by rw [hperm.length_eq,hLK.len];exact hln) (fun x hx=>(hLK.all x (hperm.mem_iff.1 hx)).1) (by omega)) rfl rfl ?_
 rintro vv4 I4 L4 hI4 ⟨rfl,hO3⟩
 have hLK:=hLK.mono hI4;have hIc:=hIc.trans hI4
 refine zF Z6 ?_
 refine Q9 rfl rfl zfQ hO3.one rfl (by (repeat (first | exact Upd.here | apply Upd.there | apply Qw))) rfl ?_
 refine zN (Qr ?_)
 refine Zy hO3 Zd (by decide) (by repeat (first | exact .cons .here .nil | exact Qv | exact Qq | apply Qp | apply Qo)) (fun I5 hI5 af5 cf5 ef5 hZ=>?_)
 subst ef5
 have hLK:=hLK.mono hI5;have hIc:=hIc.trans hI5
 refine Qk ?_
 refine zV (Qg rfl Kq (fun hg=>by exact Cells.g0) rfl) ?_
 refine zh zag ?_
 refine zA (zN (QE ?_))
 exact ZZ rfl rfl rfl Kq (by exact zvT) rfl (fun w hw=>⟨_,I5,[],rfl,hIc,hw.subL Qf,rfl,.inr (.inr ⟨by omega,_,_,_,_,rfl,ztA hLK hperm hpw (by rw [hperm.length_eq,hLK.len,hln];exact hZ)⟩)⟩)
end
section
open Go Go.Kn Go.Proofs
def smC (p q:Pt):Bool:=(((((p.id != q.id||p.kind != q.kind)||p.sign != q.sign)||p.field != q.field)|| !zl0 p.nw q.nw)||(p.n:Int) != (q.n:Int))
def smP (p q:Pt):Bool:= !smC p q&&decide (p.needs=q.needs)
theorem zuN {p q:Pt}(h:smC p q=true):smP p q=false:=by simp [smP,h]
theorem zrh {p q:Pt}(h:smC p q=false):smP p q=decide (p.needs=q.needs):=by simp [smP,h]
theorem zuM {p q:Pt}(h:smC p q=false):p.n=q.n:=by
 unfold smC at h
 rw [Bool.or_eq_false_iff] at h
 have:=h.2
 simp only [bne_eq_false_iff_eq] at this
 omega
theorem zd7 {xs ys:List Int}{k:Nat}{x y:Int}(h:xs.take k=ys.take k)(hx:xs[k]? =some x)(hy:ys[k]? =some y)(e:x=y):xs.take (k+1)=ys.take (k+1):=by rw [ZA hx,ZA hy,h,e]
theorem zul {xs ys:List Int}{k:Nat}{x y:Int}(hx:xs[k]? =some x)(hy:ys[k]? =some y)(e:x≠y):xs≠ys:=fun h=>by rw [h,hy] at hx;exact e (Option.some.inj hx).symm
def smN (x y:Nt):Bool:=((((x.kind==y.kind)&&zmG x.lm y.lm)&&smP x.pt y.pt)&&L.lsEq x.ls y.ls)&&S.rtEq x.rt y.rt
def smL:List Nt→List Nt→Bool
 | [],[]=>true
 | x::xs,y::ys=>smN x y&&smL xs ys
 | _,_=>false
theorem zk2:∀ {xs ys:List Nt},xs.length≠ys.length→smL xs ys=false
 | [],[],h=>absurd rfl h
 | [],_::_,_=>rfl
 | _::_,[],_=>rfl
 | x::xs,y::ys,h=>by simp only [smL,zk2 (xs:=xs) (ys:=ys) (by simpa using h),Bool.and_false]
theorem znS:∀ {xs ys:List Nt} {k:Nat} {x y:Nt},xs[k]? =some x→ys[k]? =some y→smN x y=false→smL xs ys=false
 | [],_,_,_,_,h,_,_=>by simp at h
 | _::_,[],_,_,_,_,h,_=>by simp at h
 | a::xs,b::ys,0,x,y,hx,hy,h=>by cases hx;cases hy;simp [smL,h]
 | a::xs,b::ys,k+1,x,y,hx,hy,h=>by
  have:=znS (xs:=xs) (ys:=ys) (k:=k) (by simpa using hx) (by simpa using hy) h
  simp [smL,this]
theorem zjE:∀ {xs ys:List Nt},xs.length=ys.length→(∀ (j:Nat) (x y:Nt),j<xs.length→xs[j]? =some x→ys[j]? =some y→smN x y=true)→smL xs ys=true
 | [],[],_,_=>rfl
 | [],_::_,h,_=>by simp at h
 | _::_,[],h,_=>by simp at h
 | x::xs,y::ys,hl,h=>by
  rw [smL,h 0 x y (by simp) rfl rfl,zjE (by simpa using hl) (fun j u v hj hu hv=>h (j+1) u v (by simpa using hj) (by simpa using hu) (by simpa using hv))];rfl
theorem zh0 {xs ys:List Nt}{k:Nat}{x y:Nt}(hx:xs[k]? =some x)(hy:ys[k]? =some y)(h:∀ (j:Nat) (u v:Nt),j<k→xs[j]? =some u→ys[j]? =some v→smN u v=true)(e:smN x y=true):∀ (j:Nat) (u v:Nt),j<k+1→xs[j]? =some u→ys[j]? =some v→smN u v=true:=fun j u v hj hu hv=>by
 rcases Nat.lt_or_ge j k with h1 | h1
 ·
  exact h j u v h1 hu hv
 ·
  have:j=k:=by omega
  subst this;rw [hx] at hu;rw [hy] at hv;cases hu;cases hv;exact e
end
section
open Go Go.Kn Go.Proofs
theorem zrv:Fun Tryz.prog 85:=.of Tryz.func85 (by kernel_rfl) (by kernel_rfl)
theorem znR:Fun Tryz.prog 86:=.of Tryz.func86 (by kernel_rfl) (by kernel_rfl)
theorem zuH {I:Qu}{p q:Pt}(hP:Nd I p)(hQ:Nd I q)(hn:p.n≤100000):Ya Tryz.prog 85 [Uo p,Uo q] I (.bool (smP p q)):=by
 intro g H w hw
 refine qe Tryz.func85 Tryz.ntmps85 hw ?_
 have hIc:=zvV I
 have hl1:p.needs.length=p.n:=hP.len
 have hl2:q.needs.length=q.n:=hQ.len
 refine zR ?_
 refine Zf rfl rfl rfl (fun b_2=>?_)
 refine Zf rfl rfl rfl (fun b_3=>?_)
 refine zA (Qb ?_)
 refine QQ .here (fun I1 hI1 hb1=>?_)
 have hP:=hP.mono hI1;have hQ:=hQ.mono hI1;have hIc:=hIc.trans hI1
 have h3:=BxI.of hb1
 refine QQ .here (fun I2 hI2 hb2=>?_)
 have hP:=hP.mono hI2;have hQ:=hQ.mono hI2;have h3:=h3.mono hI2;have hIc:=hIc.trans hI2
 have h2:=BxI.of hb2
 refine Qc (Qr (zR ?_))
 refine zF Yz ?_
 refine zV (Qd rfl Qy (fun hg=>by exact QH.imm h2.out rfl)) ?_
 refine zF Yz ?_
 refine zV (Qd rfl Qy (fun hg=>by exact QH.imm h3.out rfl)) ?_
 refine zC ?_
 refine zM ?_
 refine Zg 5 rfl rfl rfl ?_
 refine zJ (Qa rfl Ku) ?_
 refine zJ (Qd rfl Qy (fun hg=>by exact QH.imm h2.out rfl)) ?_
 refine zJ (Qa rfl Ku) ?_
 refine zJ (Qd rfl Qy (fun hg=>by exact QH.imm h3.out rfl)) ?_
 refine zJ (QX rfl rfl rfl) ?_
 refine ZS rfl rfl rfl rfl rfl ?_
 refine zM ?_
 refine Zg 12 rfl rfl rfl ?_
 refine zJ (Qa rfl Y9) ?_
 refine zJ (Qd rfl Qy (fun hg=>by exact QH.imm h2.out rfl)) ?_
 refine zJ (Qa rfl Y9) ?_
 refine zJ (Qd rfl Qy (fun hg=>by exact QH.imm h3.out rfl)) ?_
 refine zJ (QX rfl rfl rfl) ?_
 refine ZS rfl rfl rfl rfl rfl ?_
 refine zM ?_
 refine Zg 19 rfl rfl rfl ?_
 refine zJ (Qa rfl VP) ?_
 refine zJ (Qd rfl Qy (fun hg=>by exact QH.imm h2.out rfl)) ?_
 refine zJ (Qa rfl VP) ?_
 refine zJ (Qd rfl Qy (fun hg=>by exact QH.imm h3.out rfl)) ?_
 refine zJ (QX rfl rfl rfl) ?_
 refine ZS rfl rfl rfl rfl rfl ?_
 refine zM ?_
 refine Zg 26 rfl rfl rfl ?_
 refine zJ (Qa rfl V6) ?_
 refine zJ (Qg rfl VI (fun hg=>by exact zlQ (BxI.cells (vs:=WV p) h2)) rfl) ?_
 refine zJ (Qa rfl V6) ?_
 refine zJ (Qg rfl VI (fun hg=>by exact zlQ (BxI.cells (vs:=WV q) h3)) rfl) ?_
 refine zJ (zpH rfl rfl zcu rfl) ?_
 refine ZS rfl rfl rfl rfl rfl ?_
 refine zM ?_
 refine Zg 33 rfl rfl rfl ?_
 refine zJ (Qa rfl YY) ?_
 refine zJ (Qd rfl JW (fun hg=>by exact QH.imm h2.out rfl)) ?_
 refine zJ (Zi rfl Yh) ?_
 refine zJ (Qa rfl YY) ?_
 refine zJ (Qd rfl JW (fun hg=>by exact QH.imm h3.out rfl)) ?_
 refine zJ (Zi rfl Yh) ?_
 refine zJ (QX rfl rfl rfl) ?_
 refine ZS rfl rfl rfl rfl rfl ?_
 refine zN ?_
 refine zI ?_ ?_<;>intro hc47
 ·
  have hcc:smC p q=true:=hc47
  refine zR (zA (zN (QE (Qh ?_))))
  exact QS rfl rfl (fun w hw=>⟨by rw [zuN hcc],(hw.mono hIc).subL Qf⟩)
 have hcc:smC p q=false:=hc47
 have hnn:=zuM hcc
 refine Qz (Qc (Qr (zR (zA (zN (QB ?_))))))
 refine zU [(2,_),(3,_)] (fun T L0 mz E I' loc'=>∃ (k:Nat),mz=p.n-k∧E=(5,.int .i64 k)::T∧I2=I'∧L0=loc'∧k≤p.n∧p.needs.take k=q.needs.take k) ?_ (h:=⟨0,rfl,rfl,rfl,rfl,Nat.zero_le _,rfl⟩)
 rintro mz E I' loc' ⟨k,rfl,rfl,rfl,rfl,hk,htk⟩
 refine Qr (zR (zM ?_))
 refine zF YY ?_
 refine zV (Qd rfl JW (fun hg=>by exact QH.imm h2.out rfl)) ?_
 refine zQ Yh ?_
 refine zC (zN ?_)
 refine zI ?_ ?_<;>intro hc52
 ·
  have hlt_k:k<p.n:=by have h:=hc52;simp at h;omega
  obtain ⟨x,hx⟩:∃ y,p.needs[k]? =some y:=⟨_,List.getElem?_eq_getElem (by omega)⟩
  obtain ⟨y,hy⟩:∃ y,q.needs[k]? =some y:=⟨_,List.getElem?_eq_getElem (by omega)⟩
  refine Qz (Qc (Qr (QB (Qr ?_))))
  have hD:=zvV I2
  refine ZO ?_
  refine Q3 I2 [] mixed ?_
  refine zT 0 rfl (Qa rfl YY) hD ?_
  refine zT 1 rfl (Qd rfl JW (fun hg=>by exact QH.imm h2.out rfl)) hD ?_
  refine zT 2 rfl (Qj rfl) hD ?_
  refine zT 3 rfl (zX Yh hP) hD ?_
  refine zT 4 rfl (Qd rfl Qy (fun hg=>by exact zvO hP hx rfl)) hD ?_
  refine zT 5 rfl (Qa rfl YY) hD ?_
  refine zT 6 rfl (Qd rfl JW (fun hg=>by exact QH.imm h3.out rfl)) hD ?_
  refine zT 7 rfl (Qj rfl) hD ?_
  refine zT 8 rfl (zX Yh hQ) hD ?_
  refine zT 9 rfl (Qd rfl Qy (fun hg=>by exact zvO hQ hy rfl)) hD ?_
  refine zT 10 rfl (QX rfl rfl rfl) hD ?_
  refine Qn (by kernel_rfl) ?_
  refine QA ?_
  refine Qc ?_
  refine zI ?_ ?_<;>intro hc65
  ·
   have hxy:x≠y:=by simpa using hc65
   refine zR (zA (zN (QE (Qx (Qh (Qh (Qx ?_)))))))
   refine Qh ?_
   exact QS rfl rfl (fun w hw=>⟨by rw [zrh hcc,decide_eq_false (zul hx hy hxy)],(hw.mono hIc).subL Qf⟩)
  have hxy:x=y:=by simpa using hc65
  refine Qz (Qm (Qc (Qk (zM ?_))))
  refine zB ?_
  refine zA (Qb ?_)
  exact zm (h:=⟨p.n-(k+1),by omega,k+1,rfl,rfl,rfl,rfl,by omega,zd7 htk hx hy hxy⟩)
 have hge_k:p.n≤k:=by have h:=hc52;simp at h;omega
 rw [Z8 hl1 hge_k,Z8 hl2 (by omega)] at htk
 refine ZF (Qt (Qt (QC (Qc (zR (zA (zN ?_)))))))
 refine QE ?_
 exact QS rfl rfl (fun w hw=>⟨by rw [zrh hcc,htk];simp,(hw.mono hIc).subL Qf⟩)
theorem ztC {I:Qu}{x y:Nt}(hX:Nd I x.pt)(hY:Nd I y.pt)(hn:x.pt.n≤100000):Ya Tryz.prog 86 [JH x,JH y] I (.bool (smN x y)):=by
 intro g H w hw
 refine qe Tryz.func86 Tryz.ntmps86 hw ?_
 have hIc:=zvV I
 refine zR ?_
 refine Zf rfl rfl rfl (fun b_2=>?_)
 refine Zf rfl rfl rfl (fun b_3=>?_)
 refine zA (Qb ?_)
 refine QQ .here (fun I1 hI1 hb1=>?_)
 have hX:=hX.mono hI1;have hY:=hY.mono hI1;have hIc:=hIc.trans hI1
 have h3:=BxI.of hb1
 refine QQ .here (fun I2 hI2 hb2=>?_)
 have hX:=hX.mono hI2;have hY:=hY.mono hI2;have h3:=h3.mono hI2;have hIc:=hIc.trans hI2
 have h2:=BxI.of hb2
 refine Qc (zR ?_)
 refine zF Y8 ?_
 refine zV (Qd rfl Qy (fun hg=>by exact QH.imm h2.out rfl)) ?_
 refine zF Y8 ?_
 refine zV (Qd rfl Qy (fun hg=>by exact QH.imm h3.out rfl)) ?_
 refine zC ?_
 refine zM ?_
 refine QL 5 rfl rfl rfl ?_
 refine zK (Qa rfl VB) ?_
 refine zK (Qg rfl K2 (fun hg=>by exact zee (BxI.cells (vs:=Zm x) h2)) rfl) ?_
 refine zK (Qa rfl VB) ?_
 refine zK (Qg rfl K2 (fun hg=>by exact zee (BxI.cells (vs:=Zm y) h3)) rfl) ?_
 refine zK (za2 rfl rfl zia rfl) ?_
 refine QU rfl rfl rfl rfl rfl ?_
 refine zM ?_
 refine QL 12 rfl rfl rfl ?_
 refine zK (Qa rfl Vk) ?_
 refine zK (Qg rfl JS (fun hg=>by exact zgP (BxI.cells (vs:=Zm x) h2)) rfl) ?_
 refine zK (Qa rfl Vk) ?_
 refine zK (Qg rfl JS (fun hg=>by exact zgP (BxI.cells (vs:=Zm y) h3)) rfl) ?_
 refine qg (vs:=[_,_]) rfl zrv (fun hg=>zuH hX hY hn) ?_
 refine QU rfl rfl rfl rfl rfl ?_
 refine zM ?_
 refine QL 19 rfl rfl rfl ?_
 refine zK (Qa rfl JY) ?_
 refine zK (Qg rfl KE (fun hg=>by exact zg2 (BxI.cells (vs:=Zm x) h2)) rfl) ?_
 refine zK (Qa rfl JY) ?_
 refine zK (Qg rfl KE (fun hg=>by exact zg2 (BxI.cells (vs:=Zm y) h3)) rfl) ?_
 refine zK (Wy rfl rfl zkp rfl) ?_
 refine QU rfl rfl rfl rfl rfl ?_
 refine zM ?_
 refine QL 26 rfl rfl rfl ?_
 refine zK (Qa rfl YI) ?_
 refine zK (Qg rfl Vz (fun hg=>by exact zeW (BxI.cells (vs:=Zm x) h2)) rfl) ?_
 refine zK (Qa rfl YI) ?_
 refine zK (Qg rfl Vz (fun hg=>by exact zeW (BxI.cells (vs:=Zm y) h3)) rfl) ?_
 refine zK (Wy rfl rfl zao rfl) ?_
 refine QU rfl rfl rfl rfl rfl ?_
 refine zA (zN (QE ?_))
 exact QS rfl rfl (fun w hw=>⟨by rfl,(hw.mono hIc).subL Qf⟩)
theorem zuA {I:Qu}{av bv:Option Addr}{n c n2 c2:Nat}{xs ys:List Nt}(hS:Sl I 45 Zm av n c xs)(hT:Sl I 45 Zm bv n2 c2 ys)(hNd:∀ x∈xs,Nd I x.pt)(hNe:∀ y∈ys,Nd I y.pt)(hsm:∀ x∈xs,x.pt.n≤100000)(hn:n≤100000):Ya Tryz.prog 31 [.slice av n c,.slice bv n2 c2] I (.bool (smL xs ys)):=by
 intro g H w hw
 refine qe Tryz.func31 Tryz.ntmps31 hw ?_
 have hl1:=hS.len
 have hl2:=hT.len
 refine zR (zA (zN (Qr (zR ?_))))
 refine zM ?_
 refine zQ Zs ?_
 refine zM ?_
 refine zQ Zs ?_
 refine zC (zN ?_)
 refine zI ?_ ?_<;>intro hc10
 ·
  refine zR (zA (zN (QE (Qh ?_))))
  exact QS rfl rfl (fun w hw=>⟨by rw [zk2 (by simp at hc10;omega)],hw⟩)
 have h10:n=n2:=by have h:=hc10;simp at h;omega
 refine Qz (Qc (Qr (zR (zA (zN (QB ?_))))))
 refine zU [(0,_),(1,_)] (fun T L0 mz E I' loc'=>∃ (k:Nat),mz=n-k∧E=(5,.int .i64 k)::T∧I=I'∧L0=loc'∧k≤n∧(∀ (j:Nat) (u v:Nt),j<k→xs[j]? =some u→ys[j]? =some v→smN u v=true)) ?_ (h:=⟨0,rfl,rfl,rfl,rfl,Nat.zero_le _,fun j u v h=>absurd h (Nat.not_lt_zero _)⟩)
 rintro mz E I' loc' ⟨k,rfl,rfl,rfl,rfl,hk,hall⟩
 refine Qr (zR (zM ?_))
 refine zM ?_
 refine zQ Zs ?_
 refine zC (zN ?_)
 refine zI ?_ ?_<;>intro hc14
 ·
  have hlt_k:k<n:=by have h:=hc14;simp at h;omega
  obtain ⟨x,hx⟩:∃ y,xs[k]? =some y:=⟨_,List.getElem?_eq_getElem (by omega)⟩
  obtain ⟨y,hy⟩:∃ y,ys[k]? =some y:=⟨_,List.getElem?_eq_getElem (by omega)⟩
  have hxm:=List.mem_of_getElem? hx
  have hym:=List.mem_of_getElem? hy
  refine Qz (Qc (Qr (QB (Qr ?_))))
  have hD:=zvV I
  refine ZO ?_
  refine Q3 I [] mixed ?_
  refine zT 0 rfl (Qj rfl) hD ?_
  refine zT 1 rfl (Qj rfl) hD ?_
  refine zT 2 rfl (zX Zs hS) hD ?_
  refine zT 3 rfl (Qg rfl Zr (fun hg=>by exact zvW hS hx) rfl) hD ?_
  refine zT 4 rfl (Qj rfl) hD ?_
  refine zT 5 rfl (Qj rfl) hD ?_
  refine zT 6 rfl (zX Zs hT) hD ?_
  refine zT 7 rfl (Qg rfl Zr (fun hg=>by exact zvW hT hy) rfl) hD ?_
  refine qd 8 rfl ?_
  refine qcV (vs:=[_,_]) rfl znR (ztC (hNd x hxm) (hNe y hym) (hsm x hxm)) ?_
  refine Qb ?_
  refine zD hD ?_
  refine zT 9 rfl (YB rfl) hD ?_
  refine Qn (by kernel_rfl) ?_
  refine QA ?_
  refine Qc ?_
  refine zI ?_ ?_<;>intro hc26
  ·
   refine zR (zA (zN (QE (Qx (Qh (Qh (Qx ?_)))))))
   refine Qh ?_
   exact QS rfl rfl (fun w hw=>⟨by rw [znS hx hy (by simpa using hc26)],hw⟩)
  have hxy:smN x y=true:=by simpa using hc26
  refine Qz (Qm (Qc (Qk (zM ?_))))
  refine zB ?_
  refine zA (Qb ?_)
  exact zm (h:=⟨n-(k+1),by omega,k+1,rfl,rfl,rfl,rfl,by omega,zh0 hx hy hall hxy⟩)
 have hge_k:n≤k:=by have h:=hc14;simp at h;omega
 refine ZF (Qt (Qt (QC (Qc (zR (zA (zN ?_)))))))
 refine QE ?_
 exact QS rfl rfl (fun w hw=>⟨by rw [zjE (by omega) (fun j u v hj hu hv=>hall j u v (by omega) hu hv)],hw⟩)
theorem zsh {I:Qu}{av:Option Addr}{n c:Nat}{xs:List Nt}{t:Nt}(hS:Sl I 45 Zm av n c xs)(hNd:∀ x∈xs,Nd I x.pt)(hsm:∀ x∈xs,x.pt.n≤100000)(hn:n≤100000)(hT:Nd I t.pt):Ya Tryz.prog 35 [.slice av n c,JH t] I (.bool (xs.any fun x=>smN x t)):=by
 intro g H w hw
 refine qe Tryz.func35 Tryz.ntmps35 hw ?_
 have hIc:=zvV I
 have hl1:=hS.len
 refine zR ?_
 refine Zf rfl rfl rfl (fun b_3=>?_)
 refine zA (Qb ?_)
 refine QQ .here (fun I1 hI1 hb1=>?_)
 have hS:=hS.mono hI1;have hT:=hT.mono hI1;have hIc:=hIc.trans hI1
 have h3:=BxI.of hb1
 refine Qc (Qr (zR (zM ?_)))
 refine zQ Zs ?_
 refine zM (zN (QB ?_))
 refine zU [(3,_),(7,_),(8,_)] (fun T L0 mz E I' loc'=>∃ (k:Nat),mz=n-k∧E=(9,.int .i64 k)::T∧I1=I'∧L0=loc'∧k≤n∧(xs.take k).any (fun x=>smN x t)=false) ?_ (h:=⟨0,rfl,rfl,rfl,rfl,Nat.zero_le _,rfl⟩)
 rintro mz E I' loc' ⟨k,rfl,rfl,rfl,rfl,hk,hno⟩
 refine zR (zC (zN (Qr ?_)))
 refine zI ?_ ?_<;>intro hc10
 ·
  have hlt_k:k<n:=by have h:=hc10;simp at h;omega
  obtain ⟨x,hx⟩:∃ y,xs[k]? =some y:=⟨_,List.getElem?_eq_getElem (by omega)⟩
  have hxm:=List.mem_of_getElem? hx
  refine Qz (Qc (Qr (QB (zR ?_))))
  refine zV (zX Zs hS) ?_
  refine zV (Qg rfl Zr (fun hg=>by exact zvW hS hx) rfl) ?_
  refine Qs KM rfl rfl (fun b_6=>?_)
  refine zh Vp ?_
  refine zN (zR ?_)
  refine zV (Qg rfl Zr (fun hg=>by exact Cells.g0) rfl) ?_
  refine zV (Qg rfl Zr (fun hg=>by exact BxI.cells (vs:=Zm t) h3) rfl) ?_
  refine qcV (vs:=[_,_]) rfl znR (ztC ((hNd x hxm).mono hIc) hT (hsm x hxm)) ?_
  refine zN ?_
  refine zI ?_ ?_<;>intro hc15
  ·
   refine zR (zA (zN (QE (Qx (Qh (Qh (Qx ?_)))))))
   refine Qh ?_
   exact QS rfl rfl (fun w hw=>⟨by rw [List.any_eq_true.2 ⟨x,hxm,hc15⟩],(hw.mono hIc).subL Qf⟩)
  refine Qz (Qm (Qc (Qk (zB ?_))))
  refine zM (Qb ?_)
  exact zm (h:=⟨n-(k+1),by omega,k+1,rfl,rfl,rfl,rfl,by omega,X7 hx hno hc15⟩)
 have hge_k:n≤k:=by have h:=hc10;simp at h;omega
 rw [Z8 hl1 hge_k] at hno
 refine ZF (Qt (Qt (QC (Qc (zR (zA (zN ?_)))))))
 refine QE ?_
 exact QS rfl rfl (fun w hw=>⟨by rw [hno],(hw.mono hIc).subL Qf⟩)
end
section
open Go Go.Kn Go.Proofs
theorem zr5 {n:Int}(hn: -9223372036854775808≤n∧n≤9223372036854775807)(h:n≥0):IntKind.u64.wrap (2*IntKind.u64.wrap n)=((zz n:Nat):Int):=by
 rw [Ym (n:=n) ⟨by omega,by omega⟩,Ym ⟨by omega,by omega⟩]
 unfold zz
 rw [if_pos h];omega
theorem zsl {n:Int}(hn: -9223372036854775808≤n∧n≤9223372036854775807)(h:¬n≥0):IntKind.u64.wrap (IntKind.u64.wrap (2*IntKind.u64.wrap (IntKind.i64.wrap (-(IntKind.i64.wrap (n+1)))))+1)=((zz n:Nat):Int):=by
 rw [Vj (n:=n+1) ⟨by omega,by omega⟩,Vj ⟨by omega,by omega⟩,Ym (n:= -(n+1)) ⟨by omega,by omega⟩,Ym (n:=2* -(n+1)) ⟨by omega,by omega⟩,Ym ⟨by omega,by omega⟩]
 unfold zz
 rw [if_neg h];omega
theorem zvN (u:Nat):(u:Int).tmod 128=((u % 128:Nat):Int):=rfl
theorem zvH (u:Nat):(u:Int).tdiv 128=((u / 128:Nat):Int):=rfl
theorem zrJ (u:Nat):IntKind.u8.wrap (IntKind.u64.wrap ((u:Int).tmod 128+128))=((u % 128+128:Nat):Int):=by
 rw [zvN,Ym ⟨by omega,by omega⟩,zaa ⟨by omega,by omega⟩]
 omega
theorem ztW {u:Nat}(hu:u<2^64):IntKind.u64.wrap ((u:Int).tdiv 128)=((u / 128:Nat):Int):=by
 rw [zvH,Ym ⟨by omega,by omega⟩]
def YQ (bs:List Nat)(v:Value)(I':Qu)(L':Go.Kn.Loc):Prop:=L'=[]∧∃ a c,v= .slice a bs.length c∧Sl I' 1 VU a bs.length c bs
theorem zbn {I:Qu}{a:Option Addr}{n c:Nat}{bs bs':List Nat}(h:Sl I 1 VU a n c bs')(e:bs=bs'):YQ bs (.slice a n c) I []:=by
 subst e
 have:=h.len
 subst this
 exact ⟨rfl,a,c,rfl,h⟩
theorem zib {e b:Nat}(x:Nat):Yk e 1 (.slice (some ⟨b,0,none⟩) 1 1) 1 (([x]:List Nat).flatMap VU) [(b,.cells (VU x).toArray e (0,0))]:=
 ⟨rfl,.inr ⟨b,1,_,rfl,rfl,Nat.le_refl _,by decide,rfl,rfl⟩⟩
theorem zgN (l:List Va)(k:Nat):Va.depthL (l.take k)≤Va.depthL l:=by
 conv=>rhs;rw [←List.take_append_drop k l]
 rw [WW];omega
theorem Xv {l:List Va}{k:Nat}{x:Va}(hx:l[k]? =some x):Va.encL (l.take (k+1))=Va.encL (l.take k)++Va.enc x:=by
 have h:l.take (k+1)=l.take k++[x]:=by
  obtain ⟨h1,h2⟩:=List.getElem?_eq_some_iff.1 hx
  rw [List.take_add_one,List.getElem?_eq_getElem h1,h2];rfl
 rw [h,Va.encL_append]
 simp [Va.encL]
theorem zjp (xs:List Int):(xs.flatMap Yd).length=xs.length:=by rw [YJ Zu,Nat.mul_one]
theorem zva {e b:Nat}(xs:List Int){n:Nat}{cs:List Value}(hn:xs.length=n)(hc:cs=xs.flatMap Yd)(hm:n≤maxLen):Yk e 1 (.slice (some ⟨b,0,none⟩) n n) n (xs.flatMap Yd) [(b,.cells cs.toArray e (0,0))]:=by
 subst hn;subst hc
 have h:=zjp xs
 exact ⟨by rw [h,Nat.mul_one],.inr ⟨b,_,_,rfl,rfl,Nat.le_refl _,hm,by rw [List.size_toArray,h,Nat.mul_one],by
  show (xs.flatMap Yd).take _=_
  rw [Nat.mul_one,←h,List.take_length]⟩⟩
end
section
open Go Go.Kn Go.Proofs
theorem zaD:Fun Tryz.prog 220:=.of Tryz.func220 (by kernel_rfl) (by kernel_rfl)
theorem zrN (I:Qu){n:Int}(hn: -9223372036854775808≤n∧n≤9223372036854775807):Ya Tryz.prog 221 [.int .i64 n] I (.int .u64 (zz n)):=by
 intro g H w hw
 refine qe Tryz.func221 Tryz.ntmps221 hw ?_
 refine zR (zA (zN (Qr (zR ?_))))
 refine zM ?_
 refine zC (zN ?_)
 refine zI ?_ ?_<;>intro hc4
 ·
  have h4:n≥0:=by simpa using hc4
  refine zR (zM ?_)
  refine zV (Z5 rfl VN) ?_
  refine zV (za6 rfl rfl rfl) ?_
  refine zA (zN (QE (Qh ?_)))
  exact QS rfl rfl (fun w hw=>⟨by rw [←zr5 hn h4],hw⟩)
 have h4:¬n≥0:=by simpa using hc4
 refine Qz (Qc (zR (zM ?_)))
 refine zV (za6 rfl rfl rfl) ?_
 refine zV (zob rfl) ?_
 refine zV (Z5 rfl VN) ?_
 refine zV (za6 rfl rfl rfl) ?_
 refine zV (za6 rfl rfl rfl) ?_
 refine zA (zN (QE ?_))
 exact QS rfl rfl (fun w hw=>⟨by rw [←zsl hn h4,Int.zero_sub],hw⟩)
theorem zfa {I:Qu}{u:Nat}(hu:u<2^64)(ih:(∀ u',u'<u→∀ I,Vh Tryz.prog 220 [.int .u64 (u':Nat)] I [] (YQ (Jn u')))):Vh Tryz.prog 220 [.int .u64 (u:Nat)] I [] (YQ (Jn u)):=by
 intro g H w hw
 refine qe Tryz.func220 Tryz.ntmps220 hw ?_
 have hIc:=zvV I
 have h10:=Kw hu
 have h10b:=Kw (u:=u / 128) (by omega)
 refine zR (zA (zN (Qr (zR ?_))))
 refine zM ?_
 refine zC (zN ?_)
 refine zI ?_ ?_<;>intro hc4
 ·
  have hlt:u<128:=by have h:=hc4;simp at h;omega
  refine zR (zM ?_)
  refine zV (JA (Z5 rfl UU) (congrArg (Value.int .u8) (zaa (n:=(u:Int)) ⟨by omega,by omega⟩))) ?_
  refine Ql (ps:=[(0,_)]) (m:=[VU u]) Y3 rfl (.cons rfl (.nil)) rfl (by simp [ZW]) (by decide) (by decide) rfl rfl (fun b_7=>?_)
  refine zA (Qb ?_)
  refine QQ .here (fun I1 hI1 hb1=>?_)
  have hIc:=hIc.trans hI1
  have hZ:=Sl.lit (enc:=VU) [u] rfl ZW hb1
  refine Qc (QE (Qh ?_))
  exact QS rfl rfl (fun w hw=>⟨_,I1,[],rfl,hIc,by exact hw,zbn hZ (by rw [Y7 hlt])⟩)
 have hge:¬u<128:=by have h:=hc4;simp at h;omega
 refine Qz (Qc (zR (zM ?_)))
 refine zV (Yi rfl rfl (fun hg=>by decide)) ?_
 refine zV (za6 rfl rfl rfl) ?_
 refine zV (JA (Z5 rfl UU) (congrArg (Value.int .u8) (zrJ u))) ?_
 refine Ql (ps:=[(0,_)]) (m:=[VU (u % 128+128)]) Y3 rfl (.cons rfl (.nil)) rfl (by simp [ZW]) (by decide) (by decide) rfl rfl (fun b_12=>?_)
 refine zM ?_
 refine zV (JA (zrF rfl rfl (fun hg=>by decide)) (congrArg (Value.int .u64) (ztW hu))) ?_
 refine QF (cap:=[]) (vs:=[_]) rfl rfl zaD .nil (ih (u / 128) (by omega) _) rfl rfl ?_
 rintro vv2 I2 L2 hI2 ⟨rfl,a9,c9,rfl,hS9⟩
 have hIc:=hIc.trans hI2
 refine Q4 (v:=_) (ys:=(Jn (u / 128):List Nat).flatMap VU) (L:=[(b_12,_)]) rfl rfl Y3 (zib (u % 128+128)) (by repeat (first | exact .cons .here .nil | exact Qv | exact Qq | apply Qp | apply Qo)) (hS9.src ZW) (zaR _) (by omega) rfl rfl ?_
 intro v9 L9 hO9 _;rw [←List.flatMap_append] at hO9
 refine zA (Qb ?_)
 refine Zy hO9 ZW (by decide) (by repeat (first | exact .cons .here .nil | exact Qv | exact Qq | apply Qp | apply Qo)) (fun I3 hI3 af3 cf3 ef3 hZ=>?_)
 subst ef3
 have hIc:=hIc.trans hI3
 refine Qc (QE ?_)
 exact QS rfl rfl (fun w hw=>⟨_,I3,[],rfl,hIc,by exact hw,zbn hZ (by rw [WP hge];rfl)⟩)
end
section
open Go Go.Kn Go.Proofs
theorem ziu:Fun Tryz.prog 218:=.of Tryz.func218 (by kernel_rfl) (by kernel_rfl)
theorem zjm:Fun Tryz.prog 219:=.of Tryz.func219 (by kernel_rfl) (by kernel_rfl)
theorem zfw (u:Nat):u<2^64→∀ I,Vh Tryz.prog 220 [.int .u64 (u:Nat)] I [] (YQ (Jn u)):=by
 induction u using Nat.strongRecOn with
 | _ u ih=>intro hu I;exact zfa hu fun u' h=>ih u' h (by omega)
theorem zgp (I:Qu)(n:Int):Ya Tryz.prog 103 [.int .i64 n] I (.agg (Zl (vcI n)).toArray):=by
 intro g H w hw
 refine qe Tryz.func103 Tryz.ntmps103 hw ?_
 refine zR ?_
 refine Qs YN rfl rfl (fun b_2=>?_)
 refine zN (zR ?_)
 refine zM ?_
 refine zV (QY (ps:=[(0,_),(1,_)]) [_,_,_,_] J6 rfl rfl) ?_
 refine zh ZP ?_
 refine zN (QE ?_)
 exact YZ rfl rfl ZH zvT rfl (fun w hw=>⟨by rfl,hw.drop⟩)
theorem zaB (I:Qu)(s:ByteArray):Ya Tryz.prog 104 [.string s] I (.agg (Zl (vcT s)).toArray):=by
 intro g H w hw
 refine qe Tryz.func104 Tryz.ntmps104 hw ?_
 refine zR ?_
 refine Qs YN rfl rfl (fun b_2=>?_)
 refine zN (zR ?_)
 refine zM ?_
 refine zV (QY (ps:=[(0,_),(2,_)]) [_,_,_,_] J6 rfl rfl) ?_
 refine zh ZP ?_
 refine zN (QE ?_)
 exact YZ rfl rfl ZH zvT rfl (fun w hw=>⟨by rfl,hw.drop⟩)
def ztt (x:Va):Prop:=∀ {I:Qu} {cv:Vc} (_hx:VaR I x cv) (_hb:(Va.enc x).length≤900000),Ya Tryz.prog 218 [.agg (Zl cv).toArray] I (.bool true)
def zsM (x:Va):Prop:=∀ {I:Qu} {cv:Vc} (_hx:VaR I x cv) (_hd:Va.depth x≤1000) (_hb:(Va.enc x).length≤900000),Ya Tryz.prog 219 [.agg (Zl cv).toArray] I (.int .i64 (Va.depth x:Nat))
theorem zdm (I:Qu)(n:Int):Ya Tryz.prog 218 [.agg #[.int .i64 1,.int .i64 n,.string ⟨#[]⟩,.slice none 0 0]] I (.bool true):=by
 intro g H w hw
 refine qe Tryz.func218 Tryz.ntmps218 hw ?_
 have hIc:=zvV I
 refine zR ?_
 refine Zf rfl rfl rfl (fun b_1=>?_)
 refine zA (Qb ?_)
 refine QQ .here (fun I1 hI1 hb1=>?_)
 have hIc:=hIc.trans hI1
 have h1:=BxI.of hb1
 refine Qc (Qr (zR ?_))
 refine zF Zn ?_
 refine zV (Qd rfl Qy (fun hg=>by exact QH.imm h1.out rfl)) ?_
 refine zN (QB (zR (zC ?_)))
 refine zA (zN ?_)
 refine zI ?_ ?_<;>intro hc6
 ·
  refine zR ?_
  refine zF Yw ?_
  refine zV (Qd rfl JL (fun hg=>by exact QH.imm h1.out rfl)) ?_
  refine zV (Ws rfl rfl rfl) ?_
  refine zM ?_
  refine QL 3 rfl rfl rfl ?_
  refine zK (Qa rfl Q0) ?_
  refine zK (Qd rfl ZG (fun hg=>by exact QH.imm h1.out rfl)) ?_
  refine zK (Zi rfl Ye) ?_
  refine zK (QX rfl rfl rfl) ?_
  refine QU rfl rfl rfl rfl rfl ?_
  refine zA (zN (QE (Qx (Qh ?_))))
  exact QS rfl rfl (fun w hw=>⟨by simp [WU],(hw.mono hIc).subL Qf⟩)
 simp at hc6
theorem zbB (I:Qu)(s:ByteArray):Ya Tryz.prog 218 [.agg #[.int .i64 2,.int .i64 0,.string s,.slice none 0 0]] I (.bool true):=by
 intro g H w hw
 refine qe Tryz.func218 Tryz.ntmps218 hw ?_
 have hIc:=zvV I
 refine zR ?_
 refine Zf rfl rfl rfl (fun b_1=>?_)
 refine zA (Qb ?_)
 refine QQ .here (fun I1 hI1 hb1=>?_)
 have hIc:=hIc.trans hI1
 have h1:=BxI.of hb1
 refine Qc (Qr (zR ?_))
 refine zF Zn ?_
 refine zV (Qd rfl Qy (fun hg=>by exact QH.imm h1.out rfl)) ?_
 refine zN (QB (zR (zC ?_)))
 refine zA (zN ?_)
 refine zI ?_ ?_<;>intro hc6
 ·
  simp at hc6
 refine zR (zC ?_)
 refine zA (zN ?_)
 refine zI ?_ ?_<;>intro hc17
 ·
  refine zR ?_
  refine zF YR ?_
  refine zV (Qd rfl Qy (fun hg=>by exact QH.imm h1.out rfl)) ?_
  refine zC ?_
  refine zM ?_
  refine QL 3 rfl rfl rfl ?_
  refine zK (Qa rfl Q0) ?_
  refine zK (Qd rfl ZG (fun hg=>by exact QH.imm h1.out rfl)) ?_
  refine zK (Zi rfl Ye) ?_
  refine zK (QX rfl rfl rfl) ?_
  refine QU rfl rfl rfl rfl rfl ?_
  refine zA (zN (QE (Qx (Qh ?_))))
  exact QS rfl rfl (fun w hw=>⟨by rfl,(hw.mono hIc).subL Qf⟩)
 simp at hc17
theorem zgU {I:Qu}{l:List Va}{hs:List Vc}{a:Option Addr}{m c:Nat}(hS:Sl I 4 Zl a m c hs)(hl:l.length=hs.length)(hr:∀ (k:Nat) (x:Va) (y:Vc),l[k]? =some x→hs[k]? =some y→VaR I x y)(hm:m≤1000000)(ih:∀ (k:Nat) (x:Va),l[k]? =some x→ztt x)(hb:(Va.encL l).length≤900000):Ya Tryz.prog 218 [.agg #[.int .i64 3,.int .i64 0,.string ⟨#[]⟩,.slice a m c]] I (.bool true):=by
 intro g H w hw
 refine qe Tryz.func218 Tryz.ntmps218 hw ?_
 have hIc:=zvV I
 have hml:=hS.len
 refine zR ?_
 refine Zf rfl rfl rfl (fun b_1=>?_)
 refine zA (Qb ?_)
 refine QQ .here (fun I1 hI1 hb1=>?_)
 have hS:=hS.mono hI1;have hIc:=hIc.trans hI1
 have h1:=BxI.of hb1
 refine Qc (Qr (zR ?_))
 refine zF Zn ?_
 refine zV (Qd rfl Qy (fun hg=>by exact QH.imm h1.out rfl)) ?_
 refine zN (QB (zR (zC ?_)))
 refine zA (zN ?_)
 refine zI ?_ ?_<;>intro hc6
 ·
  simp at hc6
 refine zR (zC ?_)
 refine zA (zN ?_)
 refine zI ?_ ?_<;>intro hc17
 ·
  simp at hc17
 refine zR (zC ?_)
 refine zA (zN ?_)
 refine zI ?_ ?_<;>intro hc28
 ·
  refine Qr (zR (zA (zN (QB ?_))))
  refine zU [(1,_)] (fun T L0 mz E I' loc'=>∃ (k:Nat),mz=m-k∧E=(3,.int .i64 k)::T∧I1=I'∧L0=loc'∧k≤m) ?_ (h:=⟨0,rfl,rfl,rfl,rfl,Nat.zero_le _⟩)
  rintro mz E I' loc' ⟨k,rfl,rfl,rfl,rfl,hk⟩
  refine Qr (zR (zM ?_))
  refine zF Q0 ?_
  refine zV (Qd rfl ZG (fun hg=>by exact QH.imm h1.out rfl)) ?_
  refine zQ Ye ?_
  refine zC (zN ?_)
  refine zI ?_ ?_<;>intro hc34
  ·
   have hlt_k:k<m:=by have h:=hc34;simp at h;omega
   obtain ⟨cv,hy⟩:∃ y,hs[k]? =some y:=⟨_,List.getElem?_eq_getElem (by omega)⟩
   obtain ⟨x,hlx⟩:∃ y,l[k]? =some y:=⟨_,List.getElem?_eq_getElem (by omega)⟩
   have hxy:=(hr k x cv hlx hy).mono hIc
   have hle:=zcg (l:=l) (k+1)
   rw [Xv hlx,List.length_append] at hle
   refine Qz (Qc (Qr (QB (zR ?_))))
   refine zF Q0 ?_
   refine zV (Qd rfl ZG (fun hg=>by exact QH.imm h1.out rfl)) ?_
   refine zM ?_
   refine zV (zX Ye hS) ?_
   refine zV (Qg rfl ZH (fun hg=>by exact zvW hS hy) rfl) ?_
   refine qcV (vs:=[_]) rfl ziu (ih k x hlx hxy (by omega)) ?_
   refine zO (zN ?_)
   refine zI ?_ ?_<;>intro hc43
   ·
    cases hc43
   refine Qz (Qm (Qc (Qk (zM ?_))))
   refine zB ?_
   refine zA (Qb ?_)
   exact zm (h:=⟨m-(k+1),by omega,k+1,rfl,rfl,rfl,rfl,by omega⟩)
  have hge_k:m≤k:=by have h:=hc34;simp at h;omega
  refine ZF (Qt (Qt (QC (Qc (zR ?_)))))
  refine zF YR ?_
  refine zV (Qd rfl Qy (fun hg=>by exact QH.imm h1.out rfl)) ?_
  refine zC ?_
  refine zM ?_
  refine QL 3 rfl rfl rfl ?_
  refine zK (Qa rfl Yw) ?_
  refine zK (Qd rfl JL (fun hg=>by exact QH.imm h1.out rfl)) ?_
  refine zK (Ws rfl rfl rfl) ?_
  refine QU rfl rfl rfl rfl rfl ?_
  refine zA (zN (QE (Qx (Qh ?_))))
  exact QS rfl rfl (fun w hw=>⟨by simp [WU],(hw.mono hIc).subL Qf⟩)
 simp at hc28
theorem zdU (I:Qu)(n:Int):Ya Tryz.prog 219 [.agg #[.int .i64 1,.int .i64 n,.string ⟨#[]⟩,.slice none 0 0]] I (.int .i64 0):=by
 intro g H w hw
 refine qe Tryz.func219 Tryz.ntmps219 hw ?_
 have hIc:=zvV I
 refine zR ?_
 refine Zf rfl rfl rfl (fun b_1=>?_)
 refine zA (Qb ?_)
 refine QQ .here (fun I1 hI1 hb1=>?_)
 have hIc:=hIc.trans hI1
 have h1:=BxI.of hb1
 refine Qc (Qr (zR ?_))
 refine zF Zn ?_
 refine zV (Qd rfl Qy (fun hg=>by exact QH.imm h1.out rfl)) ?_
 refine zC (zN ?_)
 refine zI ?_ ?_<;>intro hc7
 ·
  refine zR (zA (zN (QE (Qh ?_))))
  exact QS rfl rfl (fun w hw=>⟨by rfl,(hw.mono hIc).subL Qf⟩)
 simp at hc7
theorem zby (I:Qu)(s:ByteArray):Ya Tryz.prog 219 [.agg #[.int .i64 2,.int .i64 0,.string s,.slice none 0 0]] I (.int .i64 0):=by
 intro g H w hw
 refine qe Tryz.func219 Tryz.ntmps219 hw ?_
 have hIc:=zvV I
 refine zR ?_
 refine Zf rfl rfl rfl (fun b_1=>?_)
 refine zA (Qb ?_)
 refine QQ .here (fun I1 hI1 hb1=>?_)
 have hIc:=hIc.trans hI1
 have h1:=BxI.of hb1
 refine Qc (Qr (zR ?_))
 refine zF Zn ?_
 refine zV (Qd rfl Qy (fun hg=>by exact QH.imm h1.out rfl)) ?_
 refine zC (zN ?_)
 refine zI ?_ ?_<;>intro hc7
 ·
  refine zR (zA (zN (QE (Qh ?_))))
  exact QS rfl rfl (fun w hw=>⟨by rfl,(hw.mono hIc).subL Qf⟩)
 simp at hc7
theorem zgM {I:Qu}{l:List Va}{hs:List Vc}{a:Option Addr}{m c:Nat}(hS:Sl I 4 Zl a m c hs)(hl:l.length=hs.length)(hr:∀ (k:Nat) (x:Va) (y:Vc),l[k]? =some x→hs[k]? =some y→VaR I x y)(hm:m≤1000000)(ih:∀ (k:Nat) (x:Va),l[k]? =some x→zsM x)(hd:Va.depthL l≤999)(hb:(Va.encL l).length≤900000):Ya Tryz.prog 219 [.agg #[.int .i64 3,.int .i64 0,.string ⟨#[]⟩,.slice a m c]] I (.int .i64 (Va.depthL l+1:Nat)):=by
 intro g H w hw
 refine qe Tryz.func219 Tryz.ntmps219 hw ?_
 have hIc:=zvV I
 have hml:=hS.len
 refine zR ?_
 refine Zf rfl rfl rfl (fun b_1=>?_)
 refine zA (Qb ?_)
 refine QQ .here (fun I1 hI1 hb1=>?_)
 have hS:=hS.mono hI1;have hIc:=hIc.trans hI1
 have h1:=BxI.of hb1
 refine Qc (Qr (zR ?_))
 refine zF Zn ?_
 refine zV (Qd rfl Qy (fun hg=>by exact QH.imm h1.out rfl)) ?_
 refine zC (zN ?_)
 refine zI ?_ ?_<;>intro hc7
 ·
  simp at hc7
 refine Qz (Qc (zR (zA (zN (Qr (zR ?_))))))
 refine zA (zN (QB ?_))
 refine zU [(1,_)] (fun T L0 mz E I' loc'=>∃ (k:Nat) (dd:Int),mz=m-k∧E=(3,.int .i64 dd)::(4,.int .i64 k)::T∧I1=I'∧L0=loc'∧k≤m∧dd=((Va.depthL (l.take k):Nat):Int)) ?_ (h:=⟨0,0,rfl,rfl,rfl,rfl,Nat.zero_le _,rfl⟩)
 rintro mz E I' loc' ⟨k,dd,rfl,rfl,rfl,rfl,hk,hdd⟩
 refine Qr (zR (zM ?_))
 refine zF Q0 ?_
 refine zV (Qd rfl ZG (fun hg=>by exact QH.imm h1.out rfl)) ?_
 refine zQ Ye ?_
 refine zC (zN ?_)
 refine zI ?_ ?_<;>intro hc12
 ·
  have hlt_k:k<m:=by have h:=hc12;simp at h;omega
  obtain ⟨cv,hy⟩:∃ y,hs[k]? =some y:=⟨_,List.getElem?_eq_getElem (by omega)⟩
  obtain ⟨x,hlx⟩:∃ y,l[k]? =some y:=⟨_,List.getElem?_eq_getElem (by omega)⟩
  have hxy:=(hr k x cv hlx hy).mono hIc
  have hle:=zcg (l:=l) (k+1)
  rw [Xv hlx,List.length_append] at hle
  have hdx:=Jm hd hlx
  have hdt:Va.depthL (l.take k)≤999:=Nat.le_trans (zgN l k) hd
  refine Qz (Qc (Qr (QB (Qk (zM ?_)))))
  refine zF Q0 ?_
  refine zV (Qd rfl ZG (fun hg=>by exact QH.imm h1.out rfl)) ?_
  refine zM ?_
  refine zV (zX Ye hS) ?_
  refine zV (Qg rfl ZH (fun hg=>by exact zvW hS hy) rfl) ?_
  refine qcV (vs:=[_]) rfl zjm (ih k x hlx hxy (by omega) (by omega)) ?_
  refine zV (Vf rfl rfl) ?_
  refine zA (Qb (Qm (Qc (Qk ?_))))
  refine zM ?_
  refine zB ?_
  refine zA (Qb ?_)
  exact zm (h:=⟨m-(k+1),by omega,k+1,_,rfl,rfl,rfl,rfl,by omega,by rw [za1 hlx,hdd];unfold zc7;split<;>omega⟩)
 have hge_k:m≤k:=by have h:=hc12;simp at h;omega
 have hke:l.take k=l:=List.take_of_length_le (by omega)
 rw [hke] at hdd
 refine ZF (Qt (Qt (QC (Qc (zR (zM ?_))))))
 refine zB ?_
 refine zA (zN (QE ?_))
 exact QS rfl rfl (fun w hw=>⟨by rw [hdd];rfl,(hw.mono hIc).subL Qf⟩)
end
end Go.Proofs.YtjblkbkmblkgoaaGreat
