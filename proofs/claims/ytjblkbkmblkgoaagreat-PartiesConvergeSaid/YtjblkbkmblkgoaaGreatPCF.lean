/- partiesConverge_holds, part F of the proof: what its theorems say holds without further conditions. -/
import Derived.Test.YtjblkbkmblkgoaaGreatPCE
namespace Go.Proofs.YtjblkbkmblkgoaaGreat
section
open Go Go.Kn Go.Proofs
theorem zfF:Fun Tryz.prog 106:=.of Tryz.func106 (by kernel_rfl) (by kernel_rfl)
theorem zjV:Fun Tryz.prog 110:=.of Tryz.func110 (by kernel_rfl) (by kernel_rfl)
theorem zpY {I:Qv}{bc bp:Nat}{qa aa:Option Addr}{pn pc qn qc an ac:Nat}{cur:List Value}{ps:List Pe}{qs:List Pk}{ks:List (Int×Int)}(hX:zl1 I pn pc qa qn qc aa an ac cur ps qs ks)(x:Ev)(hE:EvM I x):KN Tryz.prog 46 [ZK bc,.agg (zav x).toArray] I [(bc,.cells #[.slice (some ⟨bp,0,none⟩) pn pc,.slice qa qn qc,.slice aa an ac] 108 (0,0)),(bp,.cells (cur).toArray 59 (0,0))] (zp2 bc bp pn pc aa an ac ks (KR (Vr ps qs ks) (Yx x))) (zp1 (KR (Vr ps qs ks) (Yx x))):=by
 intro g H w hw
 refine qe Tryz.func46 Tryz.ntmps46 hw ?_
 have hIc:=zxd I
 refine zR ?_
 refine Zh rfl rfl rfl (fun b_2=>?_)
 refine Zh rfl rfl rfl (fun b_3=>?_)
 refine Qb ?_
 refine QO .here (fun I1 hI1 hb1=>?_)
 have hX:=hX.mono hI1;have hE:=hE.mono hI1;have hIc:=hIc.trans hI1
 have h3:=BxI.of hb1
 refine QO .here (fun I2 hI2 hb2=>?_)
 have hX:=hX.mono hI2;have hE:=hE.mono hI2;have h3:=h3.mono hI2;have hIc:=hIc.trans hI2
 have h2:=BxI.of hb2
 refine Qc (zR ?_)
 refine zV (Qd rfl JN (fun hg=>by exact QG.imm h2.out rfl)) ?_
 refine zF JC ?_
 refine zV (Qd rfl QA (fun hg=>by exact QG.imm h3.out rfl)) ?_
 refine ZN (cap:=[]) (vs:=[_,_]) rfl rfl zfF (by repeat (first | exact .cons .here .nil | exact Qu | exact Qr | apply Qp | apply Qo)) (zeS x.peer) rfl rfl ?_ (fun pv hpv=>by (repeat (first | with_reducible refine Zz ?_ | with_reducible refine Zm ?_ | refine V6 ?_));refine ZE hIc ?_;exact (Uf (zt0 (by rw [hX.pl];exact hpv.2)) hpv.1 (by decide)))
 rintro vv3 I3 L3 hI3 ⟨rfl,rfl,rfl,hp1peer,hp2peer⟩
 have hX:=hX.mono hI3;have hE:=hE.mono hI3;have h3:=h3.mono hI3;have h2:=h2.mono hI3;have hIc:=hIc.trans hI3
 have hprpeer:0≤x.peer∧x.peer<(ps.length:Int):=by rw [hX.pl];exact ⟨hp1peer,hp2peer⟩
 have hplx:=hX.pl
 have hto:x.peer.toNat<pn:=by omega
 have hti:x.peer=((x.peer.toNat:Nat):Int):=(Int.toNat_of_nonneg hprpeer.1).symm
 refine zN (zR ?_)
 refine zF XN ?_
 refine zV (Qg rfl Zr (fun hg=>by exact Cells.part (pre:=[_,_,_,_]) (vs:=Zn x.note) (post:=[]) (BxI.cells (vs:=zav x) h3) rfl) rfl) ?_
 refine qcV (vs:=[_]) rfl zaF (KD x.note hE.nd) ?_
 refine ZN (cap:=[]) (vs:=[_,_]) rfl rfl JO .nil (K6 I3 (Q7 x.note) 570) rfl rfl ?_ (fun pv hpv=>by (repeat (first | with_reducible refine Zz ?_ | with_reducible refine Zm ?_ | refine V6 ?_));refine ZE hIc ?_;exact (Uf (zso hE hprpeer hpv.2) hpv.1 (by decide)))
 rintro vv4 I4 L4 hI4 ⟨rfl,rfl,rfl,hf⟩
 have hX:=hX.mono hI4;have hE:=hE.mono hI4;have h3:=h3.mono hI4;have h2:=h2.mono hI4;have hIc:=hIc.trans hI4
 refine zN (zR ?_)
 refine zV (Qd rfl JN (fun hg=>by exact QG.imm h2.out rfl)) ?_
 refine zF JC ?_
 refine zV (Qd rfl QA (fun hg=>by exact QG.imm h3.out rfl)) ?_
 refine zF XN ?_
 refine zV (Qg rfl Zr (fun hg=>by exact Cells.part (pre:=[_,_,_,_]) (vs:=Zn x.note) (post:=[]) (BxI.cells (vs:=zav x) h3) rfl) rfl) ?_
 refine ZN (cap:=[]) (vs:=[_,_,_]) rfl rfl zk5 (by repeat (first | exact .cons .here .nil | exact Qu | exact Qr | apply Qp | apply Qo)) (zg6 hti hX.p hX.pl hto (by have h:=hX.m;omega) (hE.msg hf) hf) rfl rfl ?_ (fun pv hpv=>by (repeat (first | with_reducible refine Zz ?_ | with_reducible refine Zm ?_ | refine V6 ?_));refine ZE hIc ?_;exact (Uf (zu6 hE hprpeer hf hpv.2) hpv.1 (by decide)))
 rintro vv5 I5 L5 hI5 ⟨rfl,cur2,ps2,rfl,hP2,hpl2,hlr⟩
 have hX:=hX.mono hI5;have hE:=hE.mono hI5;have h3:=h3.mono hI5;have h2:=h2.mono hI5;have hIc:=hIc.trans hI5
 refine zN (Qk ?_)
 refine zV (Qd rfl JN (fun hg=>by exact QG.imm h2.out rfl)) ?_
 refine zV (YG (us:=[]) (vs:=[_,_]) rfl rfl) ?_
 refine Za (b:=bp) (by repeat (first | exact Yd.here | apply Yd.there)) (fun I6 hI6 hb6=>?_)
 have hX:=hX.mono hI6;have hE:=hE.mono hI6;have h3:=h3.mono hI6;have h2:=h2.mono hI6;have hP2:=hP2.mono hI6;have hIc:=hIc.trans hI6
 have hPs:=zd8 hP2 hpl2 hX.pc hb6
 refine QE (cap:=[]) (vs:=[_,_]) rfl rfl zjV (by exact .cons .here .nil) (zoc (zdm.mk hX.q hX.pk rfl) hX.k hX.an (f:=111) (cap:=[ZK b_2,ZK b_3]) zra (zpM x h2 h3 (hE.msg hf) (hE.msg hf).ok (by have h:=hX.m;omega)) (by rw [WO hX.pk];exact hX.net) (fun p hp=>by obtain ⟨k,hk,hne,rfl⟩:=zgX hp;exact zoy hX.m.2 (by omega) ⟨by omega,by omega⟩ (fun e=>hne e.symm) (hE.msg hf).len) (by rw [List.length_map,hX.q.len];have h8:=zga pn x.peer x.note;have h9:=hX.sm.1;have h7:=hX.m;omega)) rfl rfl ?_
 rintro vv7 I7 L7 hI7 ⟨rfl,a6,m6,c6,qs6,rfl,hS6⟩
 have hX:=hX.mono hI7;have hE:=hE.mono hI7;have hP2:=hP2.mono hI7;have hPs:=hPs.mono hI7;have hIc:=hIc.trans hI7
 refine Qb ?_
 exact YL (Yv rfl (fun w hw=>.inl ⟨_,I7,_,rfl,hIc,by exact hw,zlp (zs6 hE hprpeer hf hlr) hPs hP2.nt hS6 hX.k (by rw [hX.pl])⟩))
theorem zqm {I:Qv}{bc bp:Nat}{qa aa:Option Addr}{pn pc qn qc an ac:Nat}{cur:List Value}{ps:List Pe}{qs:List Pk}{ks:List (Int×Int)}(hX:zl1 I pn pc qa qn qc aa an ac cur ps qs ks)(x:Ev)(hE:EvM I x):KN Tryz.prog 47 [ZK bc,.agg (zav x).toArray] I [(bc,.cells #[.slice (some ⟨bp,0,none⟩) pn pc,.slice qa qn qc,.slice aa an ac] 108 (0,0)),(bp,.cells (cur).toArray 59 (0,0))] (zp2 bc bp pn pc aa an ac ks (WT (Vr ps qs ks) (Yx x))) (zp1 (WT (Vr ps qs ks) (Yx x))):=by
 intro g H w hw
 refine qe Tryz.func47 Tryz.ntmps47 hw ?_
 have hIc:=zxd I
 refine zR ?_
 refine Zh rfl rfl rfl (fun b_2=>?_)
 refine Zh rfl rfl rfl (fun b_3=>?_)
 refine Qb ?_
 refine QO .here (fun I1 hI1 hb1=>?_)
 have hX:=hX.mono hI1;have hIc:=hIc.trans hI1
 have h3:=BxI.of hb1
 refine QO .here (fun I2 hI2 hb2=>?_)
 have hX:=hX.mono hI2;have h3:=h3.mono hI2;have hIc:=hIc.trans hI2
 have h2:=BxI.of hb2
 refine Qc (zR ?_)
 refine zV (Qd rfl JN (fun hg=>by exact QG.imm h2.out rfl)) ?_
 refine zF JC ?_
 refine zV (Qd rfl QA (fun hg=>by exact QG.imm h3.out rfl)) ?_
 refine ZN (cap:=[]) (vs:=[_,_]) rfl rfl zfF (by repeat (first | exact .cons .here .nil | exact Qu | exact Qr | apply Qp | apply Qo)) (zeS x.peer) rfl rfl ?_ (fun pv hpv=>by (repeat (first | with_reducible refine Zz ?_ | with_reducible refine Zm ?_ | refine V6 ?_));refine ZE hIc ?_;exact (Uf (ziy (fun h9=>by have h8:=Xu.1 h9.1;rw [hX.pl] at h8;exact hpv.2 h8)) hpv.1 (by decide)))
 rintro vv3 I3 L3 hI3 ⟨rfl,rfl,rfl,hp1peer,hp2peer⟩
 have hX:=hX.mono hI3;have h3:=h3.mono hI3;have h2:=h2.mono hI3;have hIc:=hIc.trans hI3
 have hprpeer:0≤x.peer∧x.peer<(ps.length:Int):=by rw [hX.pl];exact ⟨hp1peer,hp2peer⟩
 refine zN (zR ?_)
 refine zV (Qd rfl JN (fun hg=>by exact QG.imm h2.out rfl)) ?_
 refine zF zdf ?_
 refine zV (Qd rfl QA (fun hg=>by exact QG.imm h3.out rfl)) ?_
 refine ZN (cap:=[]) (vs:=[_,_]) rfl rfl zfF (by repeat (first | exact .cons .here .nil | exact Qu | exact Qr | apply Qp | apply Qo)) (zeS x.to_) rfl rfl ?_ (fun pv hpv=>by (repeat (first | with_reducible refine Zz ?_ | with_reducible refine Zm ?_ | refine V6 ?_));refine ZE hIc ?_;exact (Uf (ziy (fun h9=>by have h8:=Xu.1 h9.2.1;rw [hX.pl] at h8;exact hpv.2 h8)) hpv.1 (by decide)))
 rintro vv4 I4 L4 hI4 ⟨rfl,rfl,rfl,hp1to_,hp2to_⟩
 have hX:=hX.mono hI4;have h3:=h3.mono hI4;have h2:=h2.mono hI4;have hIc:=hIc.trans hI4
 have hprto_:0≤x.to_∧x.to_<(ps.length:Int):=by rw [hX.pl];exact ⟨hp1to_,hp2to_⟩
 refine zN (zR ?_)
 refine zF JC ?_
 refine zV (Qd rfl QA (fun hg=>by exact QG.imm h3.out rfl)) ?_
 refine zF zdf ?_
 refine zV (Qd rfl QA (fun hg=>by exact QG.imm h3.out rfl)) ?_
 refine zC ?_
 refine ZN (cap:=[]) (vs:=[_,_]) rfl rfl JO .nil (K6 I4 (x.peer != x.to_) 1) rfl rfl ?_ (fun pv hpv=>by (repeat (first | with_reducible refine Zz ?_ | with_reducible refine Zm ?_ | refine V6 ?_));refine ZE hIc ?_;exact (Uf (ziy (fun h9=>h9.2.2 (by simpa using hpv.2))) hpv.1 (by decide)))
 rintro vv5 I5 L5 hI5 ⟨rfl,rfl,rfl,hne0⟩
 have hX:=hX.mono hI5;have h3:=h3.mono hI5;have h2:=h2.mono hI5;have hIc:=hIc.trans hI5
 have hne:x.peer≠x.to_:=by simpa using hne0
 have hplx:=hX.pl
 obtain ⟨pe,hpe⟩:∃ y,ps[x.peer.toNat]? =some y:=⟨_,List.getElem?_eq_getElem (by omega)⟩
 have hpm:=List.mem_of_getElem? hpe
 have hvv:=V5 (hX.p.ok pe hpm)
 refine zN (Qk ?_)
 refine zV (Qd rfl JN (fun hg=>by exact QG.imm h2.out rfl)) ?_
 refine zV (YG (us:=[]) (vs:=[_,_]) rfl rfl) ?_
 refine Za (b:=bp) (by repeat (first | exact Yd.here | apply Yd.there)) (fun I6 hI6 hb6=>?_)
 have hX:=hX.mono hI6;have h3:=h3.mono hI6;have h2:=h2.mono hI6;have hIc:=hIc.trans hI6
 have hPs:=zd8 hX.p hX.pl hX.pc hb6
 refine QE (cap:=[]) (vs:=[_,_]) rfl rfl zjV (by exact .cons .here .nil) (zoc (zdm.mk hX.q hX.pk rfl) hX.k hX.an (f:=112) (cap:=[ZK b_2,ZK b_3]) zrC (zr5 x h2 h3 hPs (by omega) hpe (hX.p.nt pe hpm) hvv.2.1 (by have h:=hX.m;omega) (by have h:=hX.sm.2 pe hpm;omega)) (by rw [WO hX.pk];exact hX.net) (fun p hp=>by obtain ⟨y,hy,rfl⟩:=List.mem_map.1 hp;exact zoy hX.m.2 (by omega) (by omega) hne ((hX.p.nt pe hpm).m y hy (hvv.2.1 y hy)).len) (by rw [List.length_map,List.length_map,hX.q.len,(hX.p.nt pe hpm).sl.len];exact hX.sm.2 pe hpm)) rfl rfl ?_
 rintro vv7 I7 L7 hI7 ⟨rfl,a6,m6,c6,qs6,rfl,hS6⟩
 have hX:=hX.mono hI7;have hPs:=hPs.mono hI7;have hIc:=hIc.trans hI7
 refine Qb ?_
 exact YL (Yv rfl (fun w hw=>.inl ⟨_,I7,_,rfl,hIc,by exact hw,zlp (zvd hprpeer hprto_ hne hpe) hPs hX.p.nt hS6 hX.k rfl⟩))
theorem zhk {I:Qv}{bc bp:Nat}{qa aa:Option Addr}{pn pc qn qc an ac:Nat}{cur:List Value}{ps:List Pe}{qs:List Pk}{ks:List (Int×Int)}(hX:zl1 I pn pc qa qn qc aa an ac cur ps qs ks)(x:Ev):KN Tryz.prog 48 [ZK bc,.agg (zav x).toArray] I [(bc,.cells #[.slice (some ⟨bp,0,none⟩) pn pc,.slice qa qn qc,.slice aa an ac] 108 (0,0)),(bp,.cells (cur).toArray 59 (0,0))] (zp2 bc bp pn pc aa an ac ks (zaM (Vr ps qs ks) (Yx x))) (zp1 (zaM (Vr ps qs ks) (Yx x))):=by
 have hm:=hX.m;have hs:=hX.sm.1
 refine KN.frz (zjK hX.p hX.pl (by omega) hX.q (by omega) hX.pk hX.k hX.an x hX.bad hX.dl (zp3 hX.net)) fun v I' L' hI h=>?_
 obtain ⟨rfl,h0,cur',ps',a,m,c,qs',rfl,hP',hpl',hS',hsub,e⟩:=h
 exact ⟨_,bp,_,.there .here,fun I2 h2 hb=>⟨rfl,h0,a,m,c,ps',qs',rfl,⟨zd8 (hP'.mono h2) hpl' hX.pc hb,(hP'.mono h2).nt,hS'.mono h2,fun q hq=>(hX.pk q (hsub q hq)).mono (hI.trans h2),hX.k.mono (hI.trans h2)⟩,e.symm⟩⟩
theorem zpw {I:Qv}{bc bp:Nat}{qa aa:Option Addr}{pn pc qn qc an ac:Nat}{cur:List Value}{ps:List Pe}{qs:List Pk}{ks:List (Int×Int)}(hX:zl1 I pn pc qa qn qc aa an ac cur ps qs ks)(x:Ev):KN Tryz.prog 49 [ZK bc,.agg (zav x).toArray] I [(bc,.cells #[.slice (some ⟨bp,0,none⟩) pn pc,.slice qa qn qc,.slice aa an ac] 108 (0,0)),(bp,.cells (cur).toArray 59 (0,0))] (zp2 bc bp pn pc aa an ac ks (zbG (Vr ps qs ks) (Yx x))) (zp1 (zbG (Vr ps qs ks) (Yx x))):=by
 have hm:=hX.m;have hs:=hX.sm.1
 refine KN.frz (((ztG hX.q (by omega) hX.k hX.an x).wide [(bp,.cells (cur).toArray 59 (0,0))]).mono (fun _ _ _ _ h=>h) fun v hv=>Uf (zs9 hX.pk hv.2) hv.1 hv.2) fun v I' L' hI h=>?_
 obtain ⟨L1,rfl,rfl,h0,a,m,c,rfl,hS'⟩:=h
 exact ⟨_,bp,_,.there .here,fun I2 h2 hb=>⟨rfl,by rw [zo2 hX.pk h0],a,m,c,ps,qs.eraseIdx x.at_.toNat,rfl,⟨zd8 (hX.p.mono (hI.trans h2)) hX.pl hX.pc hb,(hX.p.mono (hI.trans h2)).nt,hS'.mono h2,fun q hq=>(hX.pk q (zby q hq)).mono (hI.trans h2),hX.k.mono (hI.trans h2)⟩,by rw [zo2 hX.pk h0];rfl⟩⟩
theorem zkx {I:Qv}{bc bp:Nat}{qa aa:Option Addr}{pn pc qn qc an ac:Nat}{cur:List Value}{ps:List Pe}{qs:List Pk}{ks:List (Int×Int)}(hX:zl1 I pn pc qa qn qc aa an ac cur ps qs ks)(x:Ev):KN Tryz.prog 50 [ZK bc,.agg (zav x).toArray] I [(bc,.cells #[.slice (some ⟨bp,0,none⟩) pn pc,.slice qa qn qc,.slice aa an ac] 108 (0,0)),(bp,.cells (cur).toArray 59 (0,0))] (zp2 bc bp pn pc aa an ac ks (zaI (Vr ps qs ks) (Yx x))) (zp1 (zaI (Vr ps qs ks) (Yx x))):=by
 have hm:=hX.m;have hs:=hX.sm.1
 refine KN.frz (((znJ hX.q (by omega) hX.k hX.an x).wide [(bp,.cells (cur).toArray 59 (0,0))]).mono (fun _ _ _ _ h=>h) fun v hv=>Uf (zvh hX.pk hv.2) hv.1 hv.2) fun v I' L' hI h=>?_
 obtain ⟨L1,rfl,rfl,h0,a,m,c,rfl,hS'⟩:=h
 exact ⟨_,bp,_,.there .here,fun I2 h2 hb=>⟨rfl,by rw [zoC hX.pk h0],a,m,c,ps,qs++[atP qs ks x.at_],rfl,⟨zd8 (hX.p.mono (hI.trans h2)) hX.pl hX.pc hb,(hX.p.mono (hI.trans h2)).nt,hS'.mono h2,fun q hq=>(List.mem_append.1 hq).elim (fun h=>(hX.pk q h).mono (hI.trans h2)) (fun h=>by rw [List.mem_singleton.1 h];exact (zo0 hX.pk ks x.at_).mono (hI.trans h2)),hX.k.mono (hI.trans h2)⟩,by rw [zoC hX.pk h0];rfl⟩⟩
end
end Go.Proofs.YtjblkbkmblkgoaaGreat
section
namespace Go.Kn
open Go
section
variable {P:Program} {fn:Func} {R:Ending→World→Prop} {N:Nat} {g:World} {I H:Qv} {loc:Loc} {E:Env}
theorem zg2 (h:∀ a w,Ko N [] E a→St g I H loc w→∃ v,(results fn a.tmps).run P w= .ok v w∧R (.returned v) w):At ⟨P,none,N,[],g,H⟩ (bodyPostDIn (FR none) 0 P fn R) .ret E I loc:=fun a w ha hw=>by
 show LeavesIn _ _ _ _ _ _ a.defers .returning w
 rw [ha.defers]
 exact h a w ha hw
end
end Go.Kn
namespace Go.Proofs.YtjblkbkmblkgoaaGreat
open Go Go.Kn Go.Proofs
def evK (f:Nat):Value:=.func (.func f) #[] #[]
def zeY (a b c d e:Nat):List (Int×Nat):=[(1,a),(2,b),(3,c),(4,d),(5,e)]
theorem zqM {a b c d e f:Nat}{k:Int}(h:ZS (zeY a b c d e) k=some f):(k=1∧f=a)∨(k=2∧f=b)∨(k=3∧f=c)∨(k=4∧f=d)∨(k=5∧f=e):=by
 unfold zeY ZS at h
 split at h
 ·
  rename_i e1;cases h;exact .inl ⟨e1.symm,rfl⟩
 ·
  unfold ZS at h
  split at h
  ·
   rename_i e1;cases h;exact .inr (.inl ⟨e1.symm,rfl⟩)
  ·
   unfold ZS at h
   split at h
   ·
    rename_i e1;cases h;exact .inr (.inr (.inl ⟨e1.symm,rfl⟩))
   ·
    unfold ZS at h
    split at h
    ·
     rename_i e1;cases h;exact .inr (.inr (.inr (.inl ⟨e1.symm,rfl⟩)))
    ·
     unfold ZS at h
     split at h
     ·
      rename_i e1;cases h;exact .inr (.inr (.inr (.inr ⟨e1.symm,rfl⟩)))
     ·
      cases h
theorem znz {a b c d e:Nat}{r:Rd}{x:Ev}(h:ZS (zeY a b c d e) x.kind=none):XJ r (Yx x)=(1,zeroR):=by
 have h1:∀ k f,(k,f)∈zeY a b c d e→x.kind≠k:=by
  intro k f hm e1
  subst e1
  simp only [zeY,List.mem_cons,Prod.mk.injEq,List.not_mem_nil,or_false] at hm
  unfold zeY at h
  rcases hm with ⟨e1,_⟩ | ⟨e1,_⟩ | ⟨e1,_⟩ | ⟨e1,_⟩ | ⟨e1,_⟩<;>rw [e1] at h<;>simp [ZS] at h
 have k1:¬(Yx x).kind=1:=h1 1 a (by simp [zeY])
 have k2:¬(Yx x).kind=2:=h1 2 b (by simp [zeY])
 have k3:¬(Yx x).kind=3:=h1 3 c (by simp [zeY])
 have k4:¬(Yx x).kind=4:=h1 4 d (by simp [zeY])
 have k5:¬(Yx x).kind=5:=h1 5 e (by simp [zeY])
 unfold XJ
 rw [if_neg k1,if_neg k2,if_neg k3,if_neg k4,if_neg k5]
theorem zq9 {r:Rd}{x:Ev}(h:x.kind=1):XJ r (Yx x)=KR r (Yx x):=if_pos h
theorem zv3 {r:Rd}{x:Ev}(h:x.kind=2):XJ r (Yx x)=WT r (Yx x):=by
 have e:(Yx x).kind=2:=h
 unfold XJ;rw [e];rfl
theorem zrr {r:Rd}{x:Ev}(h:x.kind=3):XJ r (Yx x)=zaM r (Yx x):=by
 have e:(Yx x).kind=3:=h
 unfold XJ;rw [e];rfl
theorem zvy {r:Rd}{x:Ev}(h:x.kind=4):XJ r (Yx x)=zbG r (Yx x):=by
 have e:(Yx x).kind=4:=h
 unfold XJ;rw [e];rfl
theorem zvw {r:Rd}{x:Ev}(h:x.kind=5):XJ r (Yx x)=zaI r (Yx x):=by
 have e:(Yx x).kind=5:=h
 unfold XJ;rw [e];rfl
theorem zmW {r:Rd}{x:Ev}(h:(KR r x).1≠0):(KR r x).2=zeroR:=by
 unfold KR at h ⊢
 split
 ·
  rename_i h1
  rw [if_pos h1] at h
  split
  ·
   rename_i h2
   rw [if_pos h2] at h
   split
   ·
    rfl
   ·
    rename_i h3;rw [h3] at h;exact absurd rfl h
  ·
   rfl
 ·
  rfl
theorem znO {r:Rd}{x:Ev}(h:(WT r x).1≠0):(WT r x).2=zeroR:=by
 unfold WT at h ⊢
 split
 ·
  rename_i h1;rw [if_pos h1] at h;exact absurd rfl h
 ·
  rfl
theorem zpR {r:Rd}{x:Ev}(h:(zaM r x).1≠0):(zaM r x).2=zeroR:=by
 unfold zaM at h ⊢
 split
 ·
  rfl
 ·
  rename_i h1
  rw [if_neg h1] at h
  split
  ·
   rename_i h2;rw [if_pos h2] at h;exact absurd rfl h
  ·
   rename_i h2
   rw [if_neg h2] at h
   split
   ·
    rfl
   ·
    rename_i h3;rw [h3] at h;exact absurd rfl h
theorem zm4 {r:Rd}{x:Ev}(h:(zbG r x).1≠0):(zbG r x).2=zeroR:=by
 unfold zbG at h ⊢
 split
 ·
  rfl
 ·
  rename_i h1;rw [if_neg h1] at h;exact absurd rfl h
theorem zmg {r:Rd}{x:Ev}(h:(zaI r x).1≠0):(zaI r x).2=zeroR:=by
 unfold zaI at h ⊢
 split
 ·
  rfl
 ·
  rename_i h1;rw [if_neg h1] at h;exact absurd rfl h
theorem zk6 {r:Rd}{x:Ev}(h:(XJ r x).1≠0):XJ r x=((XJ r x).1,zeroR):=by
 have key:(XJ r x).2=zeroR:=by
  unfold XJ at h ⊢
  split
  ·
   rename_i h1;rw [if_pos h1] at h;exact zmW h
  ·
   rename_i h1;rw [if_neg h1] at h
   split
   ·
    rename_i h1;rw [if_pos h1] at h;exact znO h
   ·
    rename_i h1;rw [if_neg h1] at h
    split
    ·
     rename_i h1;rw [if_pos h1] at h;exact zpR h
    ·
     rename_i h1;rw [if_neg h1] at h
     split
     ·
      rename_i h1;rw [if_pos h1] at h;exact zm4 h
     ·
      rename_i h1;rw [if_neg h1] at h
      split
      ·
       rename_i h1;rw [if_pos h1] at h;exact zmg h
      ·
       rfl
 exact Prod.ext rfl key
theorem zrI {v:Value}{n:Nat}{ps:List Pe}{L:Go.Kn.Loc}{e:Nat}(h:Yp e 1 v n (ps.flatMap UO) L)(hn:ps.length=n)(h0:1≤n):∃ (b c:Nat) (cur:List Value),v= .slice (some ⟨b,0,none⟩) n c∧L=[(b,.cells cur.toArray e (0,0))]∧n≤c∧∀ (i:Nat) (pe:Pe),ps[i]? =some pe→cur[i]? =some (.slice pe.a pe.n pe.c):=by
 rcases h.2 with ⟨_,h1,_⟩ | ⟨b,c,cur,rfl,rfl,h1,_,h3,h4⟩
 ·
  omega
 ·
  refine ⟨b,c,cur.toList,rfl,by simp,h1,fun i pe hi=>?_⟩
  have hlt:=(List.getElem?_eq_some_iff.1 hi).1
  have h5:=zbr zdN ps i pe hi 0 _ rfl
  rw [Nat.mul_one,Nat.add_zero,←h4,List.getElem?_take,if_pos (by omega)] at h5
  exact h5
theorem zg1 {I:Qv}:RmV I (.agg #[.slice none 0 0,.slice none 0 0,.slice none 0 0]) zeroR:=
 ⟨none,0,0,none,0,0,none,0,0,[],[],rfl,⟨.nil,fun _ h=>(by cases h),.nil,fun _ h=>(by cases h),.nil⟩,rfl⟩
def DoQ (R:Int×Rd)(v:Value)(I':Qv)(L':Go.Kn.Loc):Prop:=L'=[]∧∃ vr,v= .tuple #[vr,.int .i64 R.1]∧RmV I' vr R.2
theorem zlE {I:Qv}{e:Int}:DoQ (e,zeroR) (.tuple #[.agg #[.slice none 0 0,.slice none 0 0,.slice none 0 0],.int .i64 e]) I []:=⟨rfl,_,rfl,zg1⟩
theorem zgp {R R':Int×Rd}{v:Value}{I:Qv}{L:Go.Kn.Loc}(h:DoQ R v I L)(e:R'=R):DoQ R' v I L:=e ▸ h
theorem ztj {r:Rd}{x:Ev}(h:zdz r≠0):doF r x=(zdz r,zeroR):=if_pos h
theorem K2 {r:Rd}{x:Ev}(h:zdz r=0):doF r x=XJ r x:=if_neg (by rw [h];simp)
theorem zpK {I:Qv}{R:Int×Rd}{pa qa aa:Option Addr}{pn pc qn qc an ac:Nat}{ps:List Pe}{qs:List Pk}{ks:List (Int×Int)}(h0:R.1=0)(hR:RmP I pa pn pc qa qn qc aa an ac ps qs ks)(e:Vr ps qs ks=R.2):DoQ R (.tuple #[.agg #[.slice pa pn pc,.slice qa qn qc,.slice aa an ac],.int .i64 0]) I []:=by
 have hk:R.2.ks=ks:=by rw [←e];rfl
 exact ⟨rfl,_,by rw [h0],pa,pn,pc,qa,qn,qc,aa,an,ac,ps,qs,rfl,by rw [hk];exact hR,by rw [hk];exact e⟩
end Go.Proofs.YtjblkbkmblkgoaaGreat
end
namespace Go.Proofs.YtjblkbkmblkgoaaGreat
section
open Go Go.Kn Go.Proofs
theorem zlv (I:Qv)(bv be:Nat)(v1 v2 v3:Option Addr)(n1 n2 n3 c1 c2 c3:Nat)(e0:Int):zlV Tryz.prog 51 [ZK bv,ZK be] I [(be,.cells #[.int .i64 e0] 50 (0,0)),(bv,.cells #[.slice v1 n1 c1,.slice v2 n2 c2,.slice v3 n3 c3] 28 (0,0))] .returning (fun u' I' L'=>settle u'= .returning∧I'=I∧L'=[(be,.cells #[.int .i64 e0] 50 (0,0)),(bv,.cells #[.slice v1 n1 c1,.slice v2 n2 c2,.slice v3 n3 c3] 28 (0,0))]):=by
 refine Wp Tryz.func51 rfl Tryz.ntmps51 rfl rfl (⟨(fun o ho=>by cases ho),fun o ho=>by cases ho⟩) (fun g H=>?_)
 have hIc:=zxd I
 refine zN (QD (zR ?_))
 refine zV (zm9 rfl zhc) ?_
 refine zN ?_
 refine zI ?_ ?_<;>intro hc7
 ·
  refine Qk (zA (Qb (Qn ?_)))
  exact YL (Yv rfl (fun w hw=>⟨_,I,_,rfl,zxd _,hw,rfl,rfl,rfl⟩))
 cases hc7
theorem zjQ (I:Qv)(bv be:Nat)(e9:Int):zlV Tryz.prog 51 [ZK bv,ZK be] I [(be,.cells #[.int .i64 0] 50 (0,0)),(bv,.cells #[.slice none 0 0,.slice none 0 0,.slice none 0 0] 28 (0,0))] (.panicking (pan (.iface 50 (.int .i64 e9)))) (fun u' I' L'=>settle u'= .returning∧I'=I∧L'=[(be,.cells #[.int .i64 e9] 50 (0,0)),(bv,.cells #[.slice none 0 0,.slice none 0 0,.slice none 0 0] 28 (0,0))]):=by
 refine Wp Tryz.func51 rfl Tryz.ntmps51 rfl rfl (⟨(fun o ho=>by cases ho),fun o ho=>by cases ho⟩) (fun g H=>?_)
 have hIc:=zxd I
 refine zN (QD (zR ?_))
 refine zV (zrE rfl zhc) ?_
 refine zN ?_
 refine zI ?_ ?_<;>intro hc7
 ·
  cases hc7
 refine zR ?_
 refine zV (zfp rfl zio) ?_
 refine zE ?_
 refine zE (zN ?_)
 refine zI ?_ ?_<;>intro hc9
 ·
  refine zR (zA (zN (Qk ?_)))
  refine zV (QZ (ps:=[]) [_,_,_] zgA rfl rfl) ?_
  refine zM ?_
  refine zh YK ?_
  refine zS zaT ?_
  refine Qb (Qn ?_)
  exact YL (Yv rfl (fun w hw=>⟨_,I,_,rfl,zxd _,hw,rfl,rfl,rfl⟩))
 cases hc9
end
section
open Go Go.Kn Go.Proofs
theorem zlP:AgT Tryz.prog 47 49:=.of (by kernel_rfl)
theorem zdc:QQ Tryz.prog 47 0 0:=.of (by kernel_rfl)
theorem ziZ:Fun Tryz.prog 16:=.of Tryz.func16 (by kernel_rfl) (by kernel_rfl)
theorem zse:Fun Tryz.prog 46:=.of Tryz.func46 (by kernel_rfl) (by kernel_rfl)
theorem zsV:Fun Tryz.prog 47:=.of Tryz.func47 (by kernel_rfl) (by kernel_rfl)
theorem zu3:Fun Tryz.prog 48:=.of Tryz.func48 (by kernel_rfl) (by kernel_rfl)
theorem zuT:Fun Tryz.prog 49:=.of Tryz.func49 (by kernel_rfl) (by kernel_rfl)
theorem zsl:Fun Tryz.prog 50:=.of Tryz.func50 (by kernel_rfl) (by kernel_rfl)
theorem zo6:Fun Tryz.prog 51:=.of Tryz.func51 (by kernel_rfl) (by kernel_rfl)
theorem ztM:Fun Tryz.prog 52:=.of Tryz.func52 (by kernel_rfl) (by kernel_rfl)
theorem Jz:MpT Tryz.prog 106 3 102 .nilFunc:=⟨by kernel_rfl,.of (by kernel_rfl)⟩
theorem zqK:PlT Tryz.prog 108 #[(0,3)] (.agg #[(.slice none 0 0),(.slice none 0 0),(.slice none 0 0)]):=⟨.of (by kernel_rfl),by kernel_rfl,fun w=>by kernel_rfl⟩
theorem zrn:SzT Tryz.prog 108 3:=.of (by kernel_rfl)
theorem zup:SzT Tryz.prog 22 1:=.of (by kernel_rfl)
theorem zta:Vf Tryz.prog 108 (.agg #[(.slice none 0 0),(.slice none 0 0),(.slice none 0 0)]):=.of (by kernel_rfl)
theorem zvU {I:Qv}{bc bp:Nat}{qa aa:Option Addr}{pn pc qn qc an ac:Nat}{cur:List Value}{ps:List Pe}{qs:List Pk}{ks:List (Int×Int)}(hX:zl1 I pn pc qa qn qc aa an ac cur ps qs ks)(x:Ev)(hE:EvM I x){f:Nat}(h:ZS (zeY 46 47 48 49 50) x.kind=some f):Fun Tryz.prog f∧KN Tryz.prog f [ZK bc,.agg (zav x).toArray] I [(bc,.cells #[.slice (some ⟨bp,0,none⟩) pn pc,.slice qa qn qc,.slice aa an ac] 108 (0,0)),(bp,.cells (cur).toArray 59 (0,0))] (zp2 bc bp pn pc aa an ac ks (XJ (Vr ps qs ks) (Yx x))) (zp1 (XJ (Vr ps qs ks) (Yx x))):=by
 rcases zqM h with ⟨hk,rfl⟩ | ⟨hk,rfl⟩ | ⟨hk,rfl⟩ | ⟨hk,rfl⟩ | ⟨hk,rfl⟩
 ·
  rw [zq9 hk];exact ⟨zse,zpY hX x hE⟩
 ·
  rw [zv3 hk];exact ⟨zsV,zqm hX x hE⟩
 ·
  rw [zrr hk];exact ⟨zu3,zhk hX x⟩
 ·
  rw [zvy hk];exact ⟨zuT,zpw hX x⟩
 rw [zvw hk];exact ⟨zsl,zkx hX x⟩
set_option maxHeartbeats 400000 in
theorem zwM {I:Qv} {pa qa aa:Option Addr} {pn pc qn qc an ac:Nat} {ps:List Pe} {qs:List Pk} {ks:List (Int×Int)} (hR:RmP I pa pn pc qa qn qc aa an ac ps qs ks) (hpn:pn≤100000) (hqn:qn≤100000) (han:an≤100000) (hnn:∀ x∈ps,x.n≤100000) (hdl:∀ q∈qs,q.n≤100000) (hsm:zdz (Vr ps qs ks)=0→qn+24≤4096∧∀ pe∈ps,qn+pe.n≤4096) (x:Ev) (hE:EvM I x):Vi Tryz.prog 12 [.agg #[.slice pa pn pc,.slice qa qn qc,.slice aa an ac],.agg (zav x).toArray] I [] (DoQ (doF (Vr ps qs ks) (Yx x))):=by
 intro g H w hw
 refine zoh Tryz.func12 rfl Tryz.ntmps12 rfl hw ?_
 have hIc:=zxd I
 have hlp:=hR.pe.len
 have hlq:=hR.q.len
 refine zR ?_
 refine Zh rfl rfl rfl (fun b_2=>?_)
 refine Zh rfl rfl rfl (fun b_3=>?_)
 refine Qt Kx rfl rfl (fun b_4=>?_)
 refine Qt zsj rfl rfl (fun b_5=>?_)
 refine Qb ?_
 refine QO (.there (.there .here)) (fun I1 hI1 hb1=>?_)
 have hR:=hR.mono hI1;have hE:=hE.mono hI1;have hIc:=hIc.trans hI1
 have h3:=BxI.of hb1
 refine QO (.there (.there .here)) (fun I2 hI2 hb2=>?_)
 have hR:=hR.mono hI2;have hE:=hE.mono hI2;have h3:=h3.mono hI2;have hIc:=hIc.trans hI2
 have h2:=BxI.of hb2
 refine Qc (Qq (zR ?_))
 refine zV (Qg rfl YE (fun hg=>by exact BxI.cells (vs:=[_,_,_]) h2) rfl) ?_
 refine QE (cap:=[]) (vs:=[_]) rfl rfl ziZ .nil (zjc hR hpn hqn han hnn hdl) rfl rfl ?_
 rintro vv3 I3 L3 hI3 ⟨rfl,rfl⟩
 have hR:=hR.mono hI3;have hE:=hE.mono hI3;have h3:=h3.mono hI3;have h2:=h2.mono hI3;have hIc:=hIc.trans hI3
 refine zA ?_
 refine zN (zR ?_)
 refine zM ?_
 refine zC (zN ?_)
 refine zI ?_ ?_<;>intro hc13
 ·
  have hck:zdz (Vr ps qs ks)≠0:=by simpa using hc13
  refine zR ?_
  refine zV (Qg rfl YE (fun hg=>by exact Cells.g1) rfl) ?_
  refine zM ?_
  refine zh YK ?_
  refine zS zaT ?_
  refine zN (QF (Qi ?_))
  exact zg2 (fun a w ha hw=>⟨_,zfg rfl rfl rfl YE zbj (by repeat (first | exact zxb | exact Cells.g0 | exact Cells.g1 | exact Cells.g2 | apply zxa)) rfl (by repeat (first | exact zw8 rfl | apply zw7)) a ha w hw,_,I3,[],rfl,hIc,hw.subL Qe,zgp zlE (ztj hck)⟩)
 have hck:zdz (Vr ps qs ks)=0:=by simpa using hc13
 have hck2:=zrR (by rw [←zeD hR];exact hck)
 refine Qw (Qc (Qq ?_))
 rcases hfd:ZS (zeY 46 47 48 49 50) x.kind with _ | fid
 ·
  refine Qk ?_
  refine Yh rfl rfl (fun r_17=>?_)
  refine (show XO _ _ _ _ _ _ _ ((r_17,YD (.int .i64) evK ([]:List (Int×Nat)))::_) from ?_)
  refine QI (ek:=Value.int .i64) (ev:=evK) 46 Jz Zj rfl rfl rfl rfl (by repeat (first | exact Upd.here | apply Upd.there | apply Qx)) ?_
  refine QI (ek:=Value.int .i64) (ev:=evK) 47 Jz Zj rfl rfl rfl rfl (by repeat (first | exact Upd.here | apply Upd.there | apply Qx)) ?_
  refine QI (ek:=Value.int .i64) (ev:=evK) 48 Jz Zj rfl rfl rfl rfl (by repeat (first | exact Upd.here | apply Upd.there | apply Qx)) ?_
  refine QI (ek:=Value.int .i64) (ev:=evK) 49 Jz Zj rfl rfl rfl rfl (by repeat (first | exact Upd.here | apply Upd.there | apply Qx)) ?_
  refine QI (ek:=Value.int .i64) (ev:=evK) 50 Jz Zj rfl rfl rfl rfl (by repeat (first | exact Upd.here | apply Upd.there | apply Qx)) ?_
  refine zM ?_
  refine zF zdc ?_
  refine zV (Qd rfl QA (fun hg=>by exact QG.imm h3.out rfl)) ?_
  refine zV (Z9 (ek:=Value.int .i64) (ev:=evK) (m:=(zeY 46 47 48 49 50)) Jz Zj rfl rfl (fun _=>(by exact Mem.m0))) ?_
  rw [hfd]
  refine zM ?_
  refine zE ?_
  refine zE ?_
  refine zA ?_
  refine zA (zN (Qq (zR ?_)))
  refine zM ?_
  refine zO (zN ?_)
  refine zI ?_ ?_<;>intro hc25
  ·
   refine zR ?_
   refine zV (Qg rfl YE (fun hg=>by exact Cells.g2) rfl) ?_
   refine zh YK ?_
   refine zS zaT ?_
   refine zN (QF (Qi ?_))
   exact zg2 (fun a w ha hw=>⟨_,zfg rfl rfl rfl YE zbj (by repeat (first | exact zxb | exact Cells.g0 | exact Cells.g1 | exact Cells.g2 | apply zxa)) rfl (by repeat (first | exact zw8 rfl | apply zw7)) a ha w hw,_,I3,[],rfl,hIc,hw.subL Qe,zgp zlE (by rw [K2 hck,znz hfd])⟩)
  cases hc25
 refine Qk ?_
 refine Yh rfl rfl (fun r_17=>?_)
 refine (show XO _ _ _ _ _ _ _ ((r_17,YD (.int .i64) evK ([]:List (Int×Nat)))::_) from ?_)
 refine QI (ek:=Value.int .i64) (ev:=evK) 46 Jz Zj rfl rfl rfl rfl (by repeat (first | exact Upd.here | apply Upd.there | apply Qx)) ?_
 refine QI (ek:=Value.int .i64) (ev:=evK) 47 Jz Zj rfl rfl rfl rfl (by repeat (first | exact Upd.here | apply Upd.there | apply Qx)) ?_
 refine QI (ek:=Value.int .i64) (ev:=evK) 48 Jz Zj rfl rfl rfl rfl (by repeat (first | exact Upd.here | apply Upd.there | apply Qx)) ?_
 refine QI (ek:=Value.int .i64) (ev:=evK) 49 Jz Zj rfl rfl rfl rfl (by repeat (first | exact Upd.here | apply Upd.there | apply Qx)) ?_
 refine QI (ek:=Value.int .i64) (ev:=evK) 50 Jz Zj rfl rfl rfl rfl (by repeat (first | exact Upd.here | apply Upd.there | apply Qx)) ?_
 refine zM ?_
 refine zF zdc ?_
 refine zV (Qd rfl QA (fun hg=>by exact QG.imm h3.out rfl)) ?_
 refine zV (Z9 (ek:=Value.int .i64) (ev:=evK) (m:=(zeY 46 47 48 49 50)) Jz Zj rfl rfl (fun _=>(by exact Mem.m0))) ?_
 rw [hfd]
 refine zM ?_
 refine zE ?_
 refine zE ?_
 refine zA ?_
 refine zA (zN (Qq (zR ?_)))
 refine zM ?_
 refine zO (zN ?_)
 refine zI ?_ ?_<;>intro hc25
 ·
  cases hc25
 refine Qw (Qc (zR ?_))
 refine zV (YG (us:=[]) (vs:=[_,_]) rfl rfl) ?_
 refine zfX (cap:=[ZK b_4,ZK b_5]) (vs:=[]) rfl rfl ?_
 refine zN (zR ?_)
 refine zV (Qg rfl YE (fun hg=>by exact BxI.cells (vs:=[_,_,_]) h2) rfl) ?_
 refine zV (QZ (ps:=[(0,_)]) [_,_,_] zqK rfl rfl) ?_
 refine Qt zta rfl rfl (fun b_9=>?_)
 refine zh zrn ?_
 refine zN (zR ?_)
 refine zF ZR ?_
 refine zV (Qd rfl YW (fun hg=>by exact QG.imm h2.out rfl)) ?_
 refine QE (cap:=[]) (vs:=[_]) rfl rfl ztM .nil (zj2 hR.pe (by omega)) rfl rfl ?_
 rintro vv4 I4 L4 hI4 ⟨rfl,hOc⟩
 have hR:=hR.mono hI4;have hE:=hE.mono hI4;have h3:=h3.mono hI4;have hIc:=hIc.trans hI4
 obtain ⟨bp,pc9,cur,rfl,rfl,hnc9,hat9⟩:=zrI hOc hlp hck2.1.1
 refine zF Ys ?_
 refine zF ZR ?_
 refine zS zup ?_
 refine zN (Qq ?_)
 have hX:zl1 I4 pn pc9 qa qn qc aa an ac cur ps qs ks:=⟨⟨hat9,hR.nt,hck2.2.2.1⟩,hlp,hnc9,hck2.1,hR.q,hR.pk,hR.k,hck2.2.1,hck2.2.2.2,han,hdl,hsm hck⟩
 obtain ⟨hFn,hFc⟩:=zvU (bc:=b_9) (bp:=bp) hX x hE hfd
 refine Qk (zM ?_)
 refine zV (Qg rfl zlP (fun hg=>by exact BxI.cells (vs:=zav x) h3) rfl) ?_
 refine ZN (cap:=[]) (vs:=[_,_]) rfl rfl hFn (L:=[(b_9,_),(bp,_)]) (by exact .cons (.there .here) (.cons .here .nil)) hFc rfl rfl ?_ (fun pv hpv=>by (repeat (first | with_reducible refine Zz ?_ | with_reducible refine Zm ?_));obtain ⟨rfl,hne9⟩:=hpv;exact zfy (args:=[]) (cap:=[ZK b_4,ZK b_5]) zo6 (by exact .cons (.there .here) (.cons (.there .here) .nil)) (zjQ I4 b_4 b_5 _) (fun a I' L' w' ha hI hk hs=>by obtain ⟨rfl,rfl⟩:=hk;exact ⟨_,zfg rfl rfl rfl YE zbj (by repeat (first | exact zxb | exact Cells.g0 | exact Cells.g1 | exact Cells.g2 | apply zxa)) rfl (by repeat (first | exact zw8 rfl | apply zw7)) a ha w' hs,_,_,[],rfl,hIc,hs.subL Qe,zgp zlE (by rw [K2 hck];exact zk6 hne9)⟩))
 rintro vv5 I5 L5 hI5 ⟨rfl,hA0,a9,m9,c9,ps9,qs9,rfl,hR9,he9⟩
 have hIc:=hIc.trans hI5
 refine zN (zR ?_)
 refine zF Ys ?_
 refine zV (Qg rfl YE (fun hg=>by exact Cells.g0) rfl) ?_
 refine zh YK ?_
 refine zS zaT ?_
 refine zN (QF ?_)
 exact ziE (args:=[]) (cap:=[ZK b_4,ZK b_5]) zo6 (by exact .cons (.there (.there .here)) (.cons (.there (.there .here)) .nil)) (zlv I5 b_4 b_5 _ _ _ _ _ _ _ _ _ _) (fun a I' L' w' ha hI hk hs=>by obtain ⟨rfl,rfl⟩:=hk;exact ⟨_,zfg rfl rfl rfl YE zbj (by repeat (first | exact zxb | exact Cells.g0 | exact Cells.g1 | exact Cells.g2 | apply zxa)) rfl (by repeat (first | exact zw8 rfl | apply zw7)) a ha w' hs,_,_,[],rfl,hIc,hs.subL Qe,zgp (zpK hA0 hR9 he9) (K2 hck)⟩)
end
end Go.Proofs.YtjblkbkmblkgoaaGreat
namespace Go.Kn
section
open Go
section
variable {α β:Type} {ek:α→Value} {ev:β→Value}
end
section
variable {C:Cx} {Q:Exit→Act→World→Prop} {E E':Env} {I I':Qv} {loc loc' L R:Loc} {ops:Array Oper} {rest:List Oper} {S:GS}
variable {dst:Option Tmp} {d:Nat} {ty:TypeId} {pos:String} {af:Array Edge} {gd:Option (Nat×Bool)} {x y z:Operand}
variable {α β:Type} [DecidableEq α] {ek:α→Value} {ev:β→Value} {m:List (α×β)} {a:α} {q q':Nat}
theorem zkb {m:List (α×β)}{a:α}:∀ k,ZS m a=none→zeJ m a k=none:=by
 intro k h
 have:=zbc m a k
 rw [h] at this
 cases hi:zeJ m a k with
 | none=>rfl
 | some p=>rw [hi] at this;cases this
end
end
end Go.Kn
section
namespace Go.Kn
open Go
section
variable {C:Cx} {S:GS} {E:Env} {I:Qv} {loc:Loc} {dst:Option Tmp} {ty:TypeId} {pos:String} {af:Array Edge} {gd:Option (Nat×Bool)} {x y:Operand} {α β:Type} [DecidableEq α] {ek:α→Value} {ev:β→Value} {m:List (α×β)} {a:α}
theorem Uo {t k e r:Nat}(d:β)(hT:MpT C.P t k e (ev d))(hK:Kk C.P k ek)(hx:QH S E x=some (.map (some r)))(hy:QH S E y=some (ek a))(hm:YC S=true→Mem I loc r (YD ek ev m)):
  Zb C S E I loc ⟨dst,.lookup t x y false,ty,pos,af,gd⟩ (ev ((ZS m a).getD d)):=by
 have h:=Wm (C:=C) (S:=S) (dst:=dst) (ty:=ty) (pos:=pos) (af:=af) (gd:=gd) hT hK hx hy hm
 have e:((ZS m a).map ev).getD (ev d)=ev ((ZS m a).getD d):=by cases ZS m a<;>rfl
 rwa [e] at h
end
end Go.Kn
namespace Go.Proofs.YtjblkbkmblkgoaaGreat
open Go Go.Kn Go.Proofs
section
variable {α:Type} (num:Nt→Int) (prt:Nt→α) (kind:Int) (chk:List α→Int) (d:α)
def U5 (m:List (Int×α))(x:Nt):List (Int×α):=if (x.kind==kind&& !(ZS m (num x)).isSome)=true then m++[(num x,prt x)] else m
def Yi (xs:List Nt):List (Int×α):=xs.foldl (U5 num prt kind) []
def zcH (m:List (Int×α))(l:List α)(k:Int):List α:=if (chk (l++[(ZS m k).getD d])==0)=true then l++[(ZS m k).getD d] else l
def zfK (m:List (Int×α))(ns:List Int):List α:=ns.foldl (zcH chk d m) []
def zaq (xs:List Nt):List α:=zfK chk d (Yi num prt kind xs) (Xd ((Yi num prt kind xs).map (·.1)))
variable {num prt kind chk d}
theorem Zp {xs:List Nt}{k:Nat}{x:Nt}(hx:xs[k]? =some x):Yi num prt kind (xs.take (k+1))=U5 num prt kind (Yi num prt kind (xs.take k)) x:=by
 unfold Yi
 rw [ZD hx,List.foldl_append];rfl
theorem zag {m:List (Int×α)}{x:Nt}(hg:ZS m (num x)=none)(hk:(x.kind==kind)=true):U5 num prt kind m x=JJ m (num x) (prt x):=by
 unfold U5
 rw [hg,hk,if_pos (by rfl),zct _ _ _ 0 (zkb 0 hg)]
theorem Jk {m:List (Int×α)}{x:Nt}(hg:ZS m (num x)=none)(hk:(x.kind==kind)=true):(U5 num prt kind m x).map (·.1)=m.map (·.1)++[num x]:=by
 unfold U5
 rw [hg,hk,if_pos (by rfl),List.map_append];rfl
theorem zcO {m:List (Int×α)}{x:Nt}(hk:(x.kind==kind)=false):U5 num prt kind m x=m:=by
 unfold U5
 rw [hk];rfl
theorem X6 {m:List (Int×α)}{x:Nt}{y:α}(hg:ZS m (num x)=some y):U5 num prt kind m x=m:=by
 unfold U5
 rw [hg,if_neg (by simp)]
theorem Js {m:List (Int×α)}{ns:List Int}{j:Nat}{n:Int}(hn:ns[j]? =some n):zfK chk d m (ns.take (j+1))=zcH chk d m (zfK chk d m (ns.take j)) n:=by
 unfold zfK
 rw [ZD hn,List.foldl_append];rfl
theorem znj {xs:List Nt}:∀ p∈Yi num prt kind xs,∃ x∈xs,p=(num x,prt x):=by
 have key:∀ (ys:List Nt) (m:List (Int×α)),(∀ y∈ys,y∈xs)→(∀ p∈m,∃ x∈xs,p=(num x,prt x))→∀ p∈ys.foldl (U5 num prt kind) m,∃ x∈xs,p=(num x,prt x):=by
  intro ys
  induction ys with
  | nil=>intro m _ h;exact h
  | cons y ys ih=>
   intro m hy h
   rw [List.foldl_cons]
   refine ih _ (fun z hz=>hy z (List.mem_cons_of_mem _ hz)) fun p hp=>?_
   unfold U5 at hp
   split at hp
   ·
    rcases List.mem_append.1 hp with hp | hp
    ·
     exact h p hp
    ·
     rw [List.mem_singleton] at hp;exact ⟨y,hy y (List.mem_cons_self ..),hp⟩
   ·
    exact h p hp
 exact key xs [] (fun _ h=>h) (fun _ h=>by cases h)
theorem zp8 {m:List (Int×α)}{k:Int}{v:α}(h:ZS m k=some v):(k,v)∈m:=by
 induction m with
 | nil=>cases h
 | cons p m ih=>
  unfold ZS at h
  split at h
  ·
   rename_i e;cases h;subst e;exact List.mem_cons_self ..
  ·
   exact List.mem_cons_of_mem _ (ih h)
theorem zia {xs:List Nt}{k:Int}:(ZS (Yi num prt kind xs) k).getD d=d∨∃ x∈xs,(ZS (Yi num prt kind xs) k).getD d=prt x:=by
 cases h:ZS (Yi num prt kind xs) k with
 | none=>exact .inl rfl
 | some v=>
  obtain ⟨x,hx,e⟩:=znj _ (zp8 h)
  exact .inr ⟨x,hx,congrArg Prod.snd e⟩
theorem zc7 {xs:List Nt}{ns:List Int}:∀ p∈zfK chk d (Yi num prt kind xs) ns,p=d∨∃ x∈xs,p=prt x:=by
 have key:∀ (ms:List Int) (l:List α),(∀ p∈l,p=d∨∃ x∈xs,p=prt x)→∀ p∈ms.foldl (zcH chk d (Yi num prt kind xs)) l,p=d∨∃ x∈xs,p=prt x:=by
  intro ms
  induction ms with
  | nil=>intro l h;exact h
  | cons k ms ih=>
   intro l h
   rw [List.foldl_cons]
   refine ih _ fun p hp=>?_
   unfold zcH at hp
   split at hp
   ·
    rcases List.mem_append.1 hp with hp | hp
    ·
     exact h p hp
    ·
     rw [List.mem_singleton] at hp;subst hp;exact zia
   ·
    exact h p hp
 exact key ns [] (fun _ h=>by cases h)
theorem VK {xs:List Nt}:(Yi num prt kind xs).length≤xs.length:=by
 have key:∀ (ys:List Nt) (m:List (Int×α)),(ys.foldl (U5 num prt kind) m).length≤m.length+ys.length:=by
  intro ys
  induction ys with
  | nil=>intro m;simp
  | cons y ys ih=>
   intro m
   rw [List.foldl_cons]
   refine Nat.le_trans (ih _) ?_
   unfold U5
   split
   ·
    simp;omega
   ·
    simp
 have h:=key xs []
 rw [List.length_nil,Nat.zero_add] at h
 exact h
theorem zlM (xs:List Int):(Xd xs).length=xs.length:=by simp [Xd]
end
end Go.Proofs.YtjblkbkmblkgoaaGreat
end
namespace Go.Proofs.YtjblkbkmblkgoaaGreat
section
open Go Go.Kn Go.Proofs
theorem JY:SlT Tryz.prog 63 41 5:=.of (by kernel_rfl)
theorem zan:SzT Tryz.prog 41 5:=.of (by kernel_rfl)
theorem K8:SzT Tryz.prog 43 11:=.of (by kernel_rfl)
theorem zeM:Vf Tryz.prog 41 (.agg #[(.int .i64 0),(.int .i64 0),(.int .i64 0),(.int .i64 0),(.int .i64 0)]):=.of (by kernel_rfl)
theorem zbq:Vf Tryz.prog 43 (.agg #[(.int .i64 0),(.int .i64 0),(.int .i64 0),(.int .i64 0),(.int .i64 0),(.int .i64 0),(.string ⟨#[]⟩),(.string ⟨#[]⟩),(.int .i64 0),(.int .i64 0),(.int .i64 0)]):=.of (by kernel_rfl)
theorem zpG (I:Qv)(x:Nt):Yc Tryz.prog 67 [JK x] I (.tuple #[Jq (x.lm),.int .i64 x.lm.no]):=by
 intro g H w hw
 refine qe Tryz.func67 Tryz.ntmps67 hw ?_
 have hIc:=zxd I
 refine zR ?_
 refine Zh rfl rfl rfl (fun b_1=>?_)
 refine Qt zfn rfl rfl (fun b_2=>?_)
 refine zA (Qb ?_)
 refine QO (.there .here) (fun I1 hI1 hb1=>?_)
 have hIc:=hIc.trans hI1
 have h1:=BxI.of hb1
 refine Qc (Qq ?_)
 have hD:=zxd I1
 refine ZL ?_
 refine Q0 I1 [] mixed ?_
 refine zT 0 rfl (Qa rfl VI) hD ?_
 refine zT 1 rfl (Qg rfl Kt (fun hg=>by exact zfO (BxI.cells (vs:=Zn x) h1)) rfl) hD ?_
 refine zT 2 rfl (Qa rfl VI) hD ?_
 refine zT 3 rfl (Qa rfl JE) hD ?_
 refine zT 4 rfl (Qd rfl QA (fun hg=>by exact QG.imm h1.out rfl)) hD ?_
 refine qd 5 rfl ?_
 refine zh zaH ?_
 refine Qb ?_
 refine zD hD ?_
 refine zT 6 rfl (QC rfl) hD ?_
 refine Qm (by kernel_rfl) ?_
 refine Qy ?_
 refine Qc (QF ?_)
 exact Z1 rfl rfl rfl Kt zxb rfl (fun w hw=>⟨by rfl,(hw.mono hIc).subL Qe⟩)
theorem ziL (I:Qv)(av:Option Addr)(n c:Nat)(hc:n≤c):Yc Tryz.prog 136 [.slice av n c] I (.slice av n n):=by
 intro g H w hw
 refine qe Tryz.func136 Tryz.ntmps136 hw ?_
 refine zR (zA ?_)
 refine zN (zR ?_)
 refine zM ?_
 refine zM ?_
 refine zQ Yu ?_
 refine zM ?_
 refine zQ Yu ?_
 refine zV (ZC rfl rfl rfl Yu (fun hg=>by omega)) ?_
 refine zA (zN (QF ?_))
 exact QP rfl rfl (fun w hw=>⟨by rfl,hw⟩)
theorem zrK (I:Qv)(x:Nt):Yc Tryz.prog 69 [JK x] I (.tuple #[L.encA (x.ls),.int .i64 x.ls.no]):=by
 intro g H w hw
 refine qe Tryz.func69 Tryz.ntmps69 hw ?_
 have hIc:=zxd I
 refine zR ?_
 refine Zh rfl rfl rfl (fun b_1=>?_)
 refine Qt zeM rfl rfl (fun b_2=>?_)
 refine zA (Qb ?_)
 refine QO (.there .here) (fun I1 hI1 hb1=>?_)
 have hIc:=hIc.trans hI1
 have h1:=BxI.of hb1
 refine Qc (Qq ?_)
 have hD:=zxd I1
 refine ZL ?_
 refine Q0 I1 [] mixed ?_
 refine zT 0 rfl (Qa rfl JX) hD ?_
 refine zT 1 rfl (Qg rfl JZ (fun hg=>by exact zhO (BxI.cells (vs:=Zn x) h1)) rfl) hD ?_
 refine zT 2 rfl (Qa rfl JX) hD ?_
 refine zT 3 rfl (Qa rfl Ut) hD ?_
 refine zT 4 rfl (Qd rfl QA (fun hg=>by exact QG.imm h1.out rfl)) hD ?_
 refine qd 5 rfl ?_
 refine zh zan ?_
 refine Qb ?_
 refine zD hD ?_
 refine zT 6 rfl (QC rfl) hD ?_
 refine Qm (by kernel_rfl) ?_
 refine Qy ?_
 refine Qc (QF ?_)
 exact Z1 rfl rfl rfl JZ zxb rfl (fun w hw=>⟨by rfl,(hw.mono hIc).subL Qe⟩)
theorem zlt (I:Qv)(av:Option Addr)(n c:Nat)(hc:n≤c):Yc Tryz.prog 137 [.slice av n c] I (.slice av n n):=by
 intro g H w hw
 refine qe Tryz.func137 Tryz.ntmps137 hw ?_
 refine zR (zA ?_)
 refine zN (zR ?_)
 refine zM ?_
 refine zM ?_
 refine zQ JY ?_
 refine zM ?_
 refine zQ JY ?_
 refine zV (ZC rfl rfl rfl JY (fun hg=>by omega)) ?_
 refine zA (zN (QF ?_))
 exact QP rfl rfl (fun w hw=>⟨by rfl,hw⟩)
theorem zpm (I:Qv)(x:Nt):Yc Tryz.prog 71 [JK x] I (.tuple #[KW (x.pt),.int .i64 x.pt.id]):=by
 intro g H w hw
 refine qe Tryz.func71 Tryz.ntmps71 hw ?_
 have hIc:=zxd I
 refine zR ?_
 refine Zh rfl rfl rfl (fun b_1=>?_)
 refine Qt zaL rfl rfl (fun b_2=>?_)
 refine zA (Qb ?_)
 refine QO (.there .here) (fun I1 hI1 hb1=>?_)
 have hIc:=hIc.trans hI1
 have h1:=BxI.of hb1
 refine Qc (Qq ?_)
 have hD:=zxd I1
 refine ZL ?_
 refine Q0 I1 [] mixed ?_
 refine zT 0 rfl (Qa rfl Vv) hD ?_
 refine zT 1 rfl (Qg rfl JA (fun hg=>by exact zhz (BxI.cells (vs:=Zn x) h1)) rfl) hD ?_
 refine zT 2 rfl (Qa rfl Vv) hD ?_
 refine zT 3 rfl (Qa rfl YI) hD ?_
 refine zT 4 rfl (Qd rfl QA (fun hg=>by exact QG.imm h1.out rfl)) hD ?_
 refine qd 5 rfl ?_
 refine zh Uk ?_
 refine Qb ?_
 refine zD hD ?_
 refine zT 6 rfl (QC rfl) hD ?_
 refine Qm (by kernel_rfl) ?_
 refine Qy ?_
 refine Qc (QF ?_)
 exact Z1 rfl rfl rfl JA zxb rfl (fun w hw=>⟨by rfl,(hw.mono hIc).subL Qe⟩)
theorem zlk (I:Qv)(av:Option Addr)(n c:Nat)(hc:n≤c):Yc Tryz.prog 138 [.slice av n c] I (.slice av n n):=by
 intro g H w hw
 refine qe Tryz.func138 Tryz.ntmps138 hw ?_
 refine zR (zA ?_)
 refine zN (zR ?_)
 refine zM ?_
 refine zM ?_
 refine zQ V4 ?_
 refine zM ?_
 refine zQ V4 ?_
 refine zV (ZC rfl rfl rfl V4 (fun hg=>by omega)) ?_
 refine zA (zN (QF ?_))
 exact QP rfl rfl (fun w hw=>⟨by rfl,hw⟩)
theorem zqw (I:Qv)(x:Nt):Yc Tryz.prog 73 [JK x] I (.tuple #[S.encA (x.rt),.int .i64 x.rt.no]):=by
 intro g H w hw
 refine qe Tryz.func73 Tryz.ntmps73 hw ?_
 have hIc:=zxd I
 refine zR ?_
 refine Zh rfl rfl rfl (fun b_1=>?_)
 refine Qt zbq rfl rfl (fun b_2=>?_)
 refine zA (Qb ?_)
 refine QO (.there .here) (fun I1 hI1 hb1=>?_)
 have hIc:=hIc.trans hI1
 have h1:=BxI.of hb1
 refine Qc (Qq ?_)
 have hD:=zxd I1
 refine ZL ?_
 refine Q0 I1 [] mixed ?_
 refine zT 0 rfl (Qa rfl YR) hD ?_
 refine zT 1 rfl (Qg rfl Vn (fun hg=>by exact ze2 (BxI.cells (vs:=Zn x) h1)) rfl) hD ?_
 refine zT 2 rfl (Qa rfl YR) hD ?_
 refine zT 3 rfl (Qa rfl VJ) hD ?_
 refine zT 4 rfl (Qd rfl QA (fun hg=>by exact QG.imm h1.out rfl)) hD ?_
 refine qd 5 rfl ?_
 refine zh K8 ?_
 refine Qb ?_
 refine zD hD ?_
 refine zT 6 rfl (QC rfl) hD ?_
 refine Qm (by kernel_rfl) ?_
 refine Qy ?_
 refine Qc (QF ?_)
 exact Z1 rfl rfl rfl Vn zxb rfl (fun w hw=>⟨by rfl,(hw.mono hIc).subL Qe⟩)
theorem zlz (I:Qv)(av:Option Addr)(n c:Nat)(hc:n≤c):Yc Tryz.prog 139 [.slice av n c] I (.slice av n n):=by
 intro g H w hw
 refine qe Tryz.func139 Tryz.ntmps139 hw ?_
 refine zR (zA ?_)
 refine zN (zR ?_)
 refine zM ?_
 refine zM ?_
 refine zQ YA ?_
 refine zM ?_
 refine zQ YA ?_
 refine zV (ZC rfl rfl rfl YA (fun hg=>by omega)) ?_
 refine zA (zN (QF ?_))
 exact QP rfl rfl (fun w hw=>⟨by rfl,hw⟩)
end
section
open Go Go.Kn Go.Proofs
def ztP (ps:List Pt):List Int:=ps.map (·.id)
def lsQ (ps:List Pt)(i:Nat):Bool:= !((decide ((i:Int)>0)&&decide ((ps.getD i Jv).id≤(ps.getD ((i:Int)-1).toNat Jv).id))||(ps.getD i Jv).needs.any (fun n=> !zfJ (ps.take i) n))
theorem zou {ps:List Pt}{k:Nat}{p:Pt}{l:Int}{s:List (Int×Bool)}(hp:ps[k]? =some p)(h1:1≤p.id)(hl:zhy (ztP ps) k l)(hs:∀ x,zng s x=zfJ (ps.take k) x):lsQ ps k= !(decide (p.id≤l)||p.needs.any fun x=> !zng s x):=by
 unfold lsQ
 rw [VZ hp]
 simp only [hs]
 congr 2
 cases k with
 | zero=>
  rw [hl.1 rfl,Bool.eq_iff_iff];simp;omega
 | succ k=>
  have hk:=(List.getElem?_eq_some_iff.1 hp).1
  have hy:ps[k]? =some (ps[k]'(by omega)):=List.getElem?_eq_getElem _
  have e:=hl.2 (ps[k]'(by omega)).id (by rw [Nat.add_sub_cancel];simp [ztP,hy]) (by omega)
  rw [show (((k+1:Nat):Int)-1).toNat=k by omega,VZ hy,←e,Bool.eq_iff_iff];simp
theorem zhQ {ps:List Pt}{k:Nat}{p:Pt}(hp:ps[k]? =some p):zhy (ztP ps) (k+1) p.id:=zb2 (by simp [ztP,hp])
theorem zmX {ps:List Pt}{k:Nat}{p:Pt}(hp:ps[k]? =some p)(x:Int):zfJ (ps.take (k+1)) x=(decide (p.id=x)||zfJ (ps.take k) x):=by
 unfold zfJ
 rw [Wb hp,List.any_append,Bool.eq_iff_iff]
 simp [or_comm]
theorem znZ {ps:List Pt}{k:Nat}{n:Int}(h:zfJ (ps.take k) n=true):zfJ ps n=true:=by
 obtain ⟨q,hq,e⟩:=zaf.1 h
 exact zaf.2 ⟨q,List.mem_of_mem_take hq,e⟩
theorem zkP {ps:List Pt}(h0:orF (ps.map KL)=0):(List.range ps.length).all (lsQ ps)=lsB ps:=by
 rw [Bool.eq_iff_iff]
 constructor
 ·
  intro h
  unfold lsB
  rw [List.all_eq_true] at h ⊢
  intro i hi
  have:=h i hi
  unfold lsQ at this
  unfold lsP
  simp only [Bool.not_eq_true',Bool.or_eq_false_iff] at this ⊢
  refine ⟨this.1,?_⟩
  have h2:=this.2
  rw [List.any_eq_false] at h2 ⊢
  intro n hn hc
  refine h2 n hn ?_
  rw [Bool.not_eq_true'] at hc ⊢
  cases hh:zfJ (ps.take i) n with
  | false=>rfl
  | true=>rw [znZ hh] at hc;cases hc
 ·
  intro h
  have hL:=zpb h0 h
  unfold lsB at h
  rw [List.all_eq_true] at h ⊢
  intro i hi
  have:=h i hi
  unfold lsP at this
  unfold lsQ
  simp only [Bool.not_eq_true',Bool.or_eq_false_iff] at this ⊢
  refine ⟨this.1,?_⟩
  rw [List.any_eq_false]
  intro n hn hc
  have hk:ps[i]? =some (ps.getD i Jv):=zaZ rfl (List.mem_range.1 hi)
  obtain ⟨q,hq,e⟩:=hL.before hk hn
  rw [zaf.2 ⟨q,hq,e⟩] at hc
  cases hc
/-! ### Inserts and removes of a sign -/
def JB (k:Int)(ps:List Pt)(s:Int):List Int:=(ps.filter fun q=>q.kind==k&&q.sign==s).map (·.id)
theorem Uw {c:Int}{ps:List Pt}{k:Nat}{p:Pt}(hp:ps[k]? =some p)(s:Int):JB c (ps.take (k+1)) s=JB c (ps.take k) s++(if p.kind=c∧p.sign=s then [p.id] else []):=by
 unfold JB
 rw [Wb hp,List.filter_append,List.map_append]
 congr 1
 by_cases h:p.kind=c∧p.sign=s
 ·
  rw [if_pos h];simp [h.1,h.2]
 ·
  rw [if_neg h]
  have:(p.kind==c&&p.sign==s)=false:=by
   rw [Bool.eq_false_iff];intro hc;simp at hc;exact h hc
  simp [this]
theorem WE {c:Int}{ps:List Pt}{s x:Int}:x∈JB c ps s↔ ∃ q∈ps,q.kind=c∧q.sign=s∧q.id=x:=by
 unfold JB
 rw [zqh]
 simp [and_assoc]
def zhE (mi:List (Int×Int))(ps:List Pt):Prop:=∀ s,JB 2 ps s=(ZS mi s).toList
theorem zhE.nil {ps:List Pt}:zhE [] (ps.take 0):=fun s=>by simp [JB,ZS]
theorem zhE.put {mi:List (Int×Int)}{ps:List Pt}{k:Nat}{p:Pt}(h:zhE mi (ps.take k))(hp:ps[k]? =some p)(hk:p.kind=2)(hn:ZS mi p.sign=none):zhE (JJ mi p.sign p.id) (ps.take (k+1)):=fun s=>by
 rw [Uw hp,h s,Ua]
 by_cases e:p.sign=s
 ·
  subst e;rw [if_pos ⟨hk,rfl⟩,if_pos rfl,hn];rfl
 ·
  rw [if_neg (fun q=>e q.2),if_neg e,List.append_nil]
theorem zhE.skip {mi:List (Int×Int)}{ps:List Pt}{k:Nat}{p:Pt}(h:zhE mi (ps.take k))(hp:ps[k]? =some p)(hk:p.kind≠2):zhE mi (ps.take (k+1)):=fun s=>by
 rw [Uw hp,h s,if_neg (fun q=>hk q.1),List.append_nil]
def zhU (mr:List (Int×(Value×Nat×List Value)))(ps:List Pt):Prop:=∀ s,((ZS mr s).getD zd2).2.2=(JB 3 ps s).flatMap Yk
theorem zhU.nil {ps:List Pt}:zhU [] (ps.take 0):=fun s=>by simp [JB,ZS,zd2]
theorem zhU.put {mr:List (Int×(Value×Nat×List Value))}{ps:List Pt}{k n:Nat}{p:Pt}{v:Value}(h:zhU mr (ps.take k))(hp:ps[k]? =some p)(hk:p.kind=3):zhU (JJ mr p.sign (v,n,((ZS mr p.sign).getD zd2).2.2++[p.id].flatMap Yk)) (ps.take (k+1)):=fun s=>by
 rw [Uw hp,Ua]
 by_cases e:p.sign=s
 ·
  subst e;rw [if_pos rfl,if_pos ⟨hk,rfl⟩,List.flatMap_append,←h];rfl
 ·
  rw [if_neg e,if_neg (fun q=>e q.2),List.append_nil,h s]
theorem zhU.skip {mr:List (Int×(Value×Nat×List Value))}{ps:List Pt}{k:Nat}{p:Pt}(h:zhU mr (ps.take k))(hp:ps[k]? =some p)(hk:p.kind≠3):zhU mr (ps.take (k+1)):=fun s=>by
 rw [Uw hp,h s,if_neg (fun q=>hk q.1),List.append_nil]
theorem zdA {c:Int}{ps:List Pt}{s:Int}:(JB c ps s).length≤ps.length:=by
 unfold JB
 rw [List.length_map]
 exact List.length_filter_le _ _
theorem zuE {I:Qv}{e:Nat}{mr:List (Int×(Value×Nat×List Value))}{ps:List Pt}{L:Go.Kn.Loc}(h:zhU mr ps)(hA:UJ e 1 (mr.map (·.2)) L)(hI:∀ b o,(b,o)∈L→I b=some o)(s:Int):
  ∃ av c,((ZS mr s).getD zd2).1= .slice av (JB 3 ps s).length c∧Sl I 1 Yk av (JB 3 ps s).length c (JB 3 ps s):=by
 obtain ⟨A,Lt,B,rfl,hO,_⟩:=hA.at s
 rw [h s] at hO
 obtain ⟨av,c,e1,e2⟩:=hO.sl Zx (by decide) (fun b o hb=>hI b o (by simp [hb]))
 have hn:=e2.len
 rw [←hn] at e1 e2
 exact ⟨av,c,e1,e2⟩
theorem ztW {e:Nat}{mr:List (Int×(Value×Nat×List Value))}{ps:List Pt}{s:Int}{L:Go.Kn.Loc}(h:zhU mr ps)(hO:Yp e 1 ((ZS mr s).getD zd2).1 ((ZS mr s).getD zd2).2.1 ((ZS mr s).getD zd2).2.2 L):((ZS mr s).getD zd2).2.1≤ps.length:=by
 have h1:=hO.1
 rw [h s,zwR] at h1
 have h2:=zdA (c:=3) (ps:=ps) (s:=s)
 omega
theorem zjr {x y:Nat×Obj}{A L B:Go.Kn.Loc}:(x::y::(A++(L++B))).Perm (L++(x::y::(A++B))):=List.perm_append_comm_assoc (x::y::A) L B
def tgP (ps:List Pt)(p:Pt):Bool:= !(((JB 2 ps p.sign).any fun i=>p.id != i&& !onF ps p.id i)||(JB 3 ps p.sign).any (onF ps p.id))
theorem zk0 {ps:List Pt}(hL:Lst ps){mi:List (Int×Int)}(hi:zhE mi ps):zjp ps=ps.all (tgP ps):=by
 unfold zjp
 rw [Bool.eq_iff_iff,List.all_eq_true,List.all_eq_true]
 refine forall_congr' fun p=>forall_congr' fun hp=>?_
 unfold tgP
 rw [List.all_eq_true]
 simp only [Bool.not_eq_true',Bool.or_eq_false_iff,List.any_eq_false,WE]
 constructor
 ·
  intro h
  constructor
  ·
   rintro x ⟨q,hq,h2,hs,rfl⟩ hc
   have:=h q hq
   unfold zug at this
   rw [if_neg (by simpa using hs.symm),if_pos h2] at this
   simp at this hc
   rcases this with e | e
   ·
    exact hc.1 e
   ·
    rw [hc.2] at e;cases e.2
  ·
   rintro x ⟨q,hq,h3,hs,rfl⟩ hc
   have:=h q hq
   unfold zug at this
   rw [if_neg (by simpa using hs.symm),if_neg (by omega),if_pos h3] at this
   simp at this
   rcases this with e | e
   ·
    rw [e,hL.on_irr] at hc;cases hc
   ·
    rw [e] at hc;cases hc
 ·
  rintro ⟨h1,h2⟩ q hq
  unfold zug
  by_cases hs:p.sign=q.sign
  ·
   rw [if_neg (by simpa using hs)]
   by_cases e:p.id=q.id
   ·
    simp [e]
   ·
    by_cases k2:q.kind=2
    ·
     rw [if_pos k2]
     have:=h1 q.id ⟨q,hq,k2,hs.symm,rfl⟩
     have hk:p.kind≠2:=fun k=>e (by
      have hm1:=WE.2 ⟨p,hp,k,rfl,rfl⟩
      have hm2:=WE.2 ⟨q,hq,k2,hs.symm,rfl⟩
      rw [hi p.sign] at hm1 hm2
      cases hg:ZS mi p.sign with
      | none=>rw [hg] at hm1;cases hm1
      | some z=>rw [hg] at hm1 hm2;simp at hm1 hm2;rw [hm1,hm2])
     simp [e] at this
     simp [this,hk]
    ·
     rw [if_neg k2]
     by_cases k3:q.kind=3
     ·
      rw [if_pos k3]
      have:=h2 q.id ⟨q,hq,k3,hs.symm,rfl⟩
      simp at this
      simp [this]
     ·
      rw [if_neg k3];simp
  ·
   rw [if_pos hs];simp
theorem zqv {ps:List Pt}(hL:Lst ps){mi:List (Int×Int)}{k:Nat}{p:Pt}{id:Int}(h:zhE mi (ps.take k))(hp:ps[k]? =some p)(hk:p.kind=2)(hn:ZS mi p.sign=some id):zjp ps=false:=by
 have hm:id∈JB 2 (ps.take k) p.sign:=by rw [h,hn];simp
 obtain ⟨q,hq,k2,hs,rfl⟩:=WE.1 hm
 have hlt:=hL.fresh hp q hq
 unfold zjp
 rw [Bool.eq_false_iff]
 intro hc
 rw [List.all_eq_true] at hc
 have h1:=hc p (List.mem_of_getElem? hp)
 rw [List.all_eq_true] at h1
 have h2:=h1 q (List.mem_of_mem_take hq)
 unfold zug at h2
 rw [if_neg (by simpa using hs.symm),if_pos k2] at h2
 simp [hk] at h2
 omega
theorem zol {ps:List Pt}{p:Pt}{mi:List (Int×Int)}(hi:zhE mi ps):((ZS mi p.sign).isSome&&(p.id != (ZS mi p.sign).getD 0)&& !onF ps p.id ((ZS mi p.sign).getD 0))=((JB 2 ps p.sign).any fun i=>p.id != i&& !onF ps p.id i):=by
 rw [hi p.sign]
 cases ZS mi p.sign with
 | none=>rfl
 | some x=>simp
theorem zsy {ps:List Pt}(h:ps.length>512):X4 ps=2:=by unfold X4;rw [if_pos h]
theorem zsI {ps:List Pt}(h:¬ps.length>512){k:Nat}{p:Pt}(hp:ps[k]? =some p)(h0:orF ((ps.take k).map KL)=0)(h1:KL p≠0):X4 ps=KL p:=by
 have:orF (ps.map KL)=KL p:=znv (k:=k) (by simp [hp]) (by rw [←List.map_take];exact h0) h1
 unfold X4;rw [if_neg h,this,if_pos h1]
theorem zt9 {ps:List Pt}(h:¬ps.length>512)(h0:orF (ps.map KL)=0)(h1:lsB ps=false):X4 ps=380:=by unfold X4;rw [if_neg h,if_neg (by omega),h1];rfl
theorem zln {ps:List Pt}(h:¬ps.length>512)(h0:orF (ps.map KL)=0)(h1:lsB ps=true)(h2:zjp ps=false):X4 ps=380:=by unfold X4;rw [if_neg h,if_neg (by omega),h1,h2];rfl
theorem zsQ {ps:List Pt}(h:¬ps.length>512)(h0:orF (ps.map KL)=0)(h1:lsB ps=true)(h2:zjp ps=true):X4 ps=0:=by unfold X4;rw [if_neg h,if_neg (by omega),h1,h2];rfl
theorem zqZ {ps:List Pt}{k:Nat}{p:Pt}(hp:ps[k]? =some p)(h0:orF ((ps.take k).map KL)=0)(h1:KL p=0):orF ((ps.take (k+1)).map KL)=0:=by
 rw [XS] at h0 ⊢
 intro x hx
 rw [Wb hp,List.map_append,List.mem_append] at hx
 rcases hx with hx | hx
 ·
  exact h0 x hx
 ·
  simp at hx;rw [hx,h1]
theorem zmw {p:Pt}(h:KL p=0):1≤p.id∧p.id≤1048576∧0≤p.sign∧p.sign≤1048576∧p.needs.length≤32:=by
 unfold KL at h
 split at h
 ·
  cases h
 ·
  split at h
  ·
   rename_i h1 h2
   simp only [Bool.and_eq_true] at h2
   have h3:=h2.2.1
   unfold idB at h3
   simp at h3
   omega
  ·
   cases h
theorem zv8 {I:Qv}{av:Option Addr}{n c:Nat}{ps:List Pt}(hP:SlP I av n c ps)(hz:∀ p∈ps,KL p=0):∀ p∈ps,p.n≤100000:=fun p hp=>by
 have h1:Sl I 1 Yk p.a p.n p.c p.needs:=hP.2 p hp
 have h2:=hz p hp
 have h3:=h1.len
 unfold KL at h2
 split at h2
 ·
  cases h2
 ·
  omega
end
section
open Go Go.Kn Go.Proofs
theorem ztA {I:Qv}{av:Option Addr}{n c:Nat}{ps:List Pt}(hP:SlP I av n c ps)(hn:n≤100000):Yc Tryz.prog 39 [.slice av n c] I (.int .i64 (X4 ps)):=by
 intro g H w hw
 refine qe Tryz.func39 Tryz.ntmps39 hw ?_
 have hIc:=zxd I
 refine zR (zA (zN (Qq (zR ?_))))
 refine zM ?_
 refine zQ V4 ?_
 refine zC (zN ?_)
 refine zI ?_ ?_<;>intro hc24
 ·
  have hlen:ps.length>512:=by rw [hP.len];simp at hc24;omega
  refine zR (zA (zN (QF (Qi ?_))))
  exact zp hIc rfl rfl (by rw [zsy hlen])
 have hlen:¬ps.length>512:=by rw [hP.len];simp at hc24;omega
 refine Qw (Qc (Qq (zR (zM ?_))))
 refine zQ V4 ?_
 refine zM (zN (QD ?_))
 refine zU [(0,_),(25,_),(26,_)] (fun T L0 mz E I' loc'=>∃ (k:Nat) (e:Int),mz=n-k∧E=(27,.int .i64 k)::T∧I=I'∧L0=loc'∧k≤n∧e=0∧orF ((ps.take k).map KL)=0) ?_ (h:=⟨0,0,rfl,rfl,rfl,rfl,Nat.zero_le _,rfl,rfl⟩)
 rintro mz E I' loc' ⟨k,e,rfl,rfl,rfl,rfl,hk,he,h0⟩
 refine zR (zC (zN (Qq ?_)))
 refine zI ?_ ?_<;>intro hc28
 ·
  have hlt_k:k<n:=by have h:=hc28;simp at h;omega
  have hP1:=hP.1
  obtain ⟨p,hp,hN⟩:=hP.at hlt_k
  have hpm:=List.mem_of_getElem? hp
  have hN:Sl I 1 Yk p.a p.n p.c p.needs:=hN
  refine Qw (Qc (Qq (QD (zR ?_))))
  refine zV (QV rfl rfl V4 (by assumption) (fun hg=>by omega)) ?_
  refine zV (Qg rfl JA (fun hg=>by exact zxe hP1 hp) rfl) ?_
  refine Qt zaL rfl rfl (fun b_4=>?_)
  refine zh Uk ?_
  refine zN (zR ?_)
  refine zV (Qg rfl JA (fun hg=>by exact Cells.g0) rfl) ?_
  refine qcV (vs:=[_]) rfl zoW (zos p hN) ?_
  refine zA ?_
  refine zN (zR ?_)
  refine zM ?_
  refine zC (zN ?_)
  refine zI ?_ ?_<;>intro hc34
  ·
   have hbad:X4 ps=KL p:=zsI hlen hp h0 (by simpa using hc34)
   refine zR (zM ?_)
   refine zA (zN (QF (Qz (Qi (Qi (Qz (Qi ?_)))))))
   exact zp hIc rfl rfl (by rw [hbad])
  have hpk:KL p=0:=by simpa using hc34
  refine Qw (Qn (Qc (Qk (zB ?_))))
  refine zM (Qb ?_)
  exact zm (h:=⟨n-(k+1),by omega,k+1,_,rfl,rfl,rfl,rfl,by omega,hpk,zqZ hp h0 hpk⟩)
 have hge_k:n≤k:=by have h:=hc28;simp at h;omega
 have h0:orF (ps.map KL)=0:=by rw [Yl hP.len hge_k] at h0;exact h0
 have hz:∀ p∈ps,KL p=0:=fun p hp=>XS.1 h0 _ (List.mem_map.2 ⟨p,hp,rfl⟩)
 have hnd:=zv8 hP hz
 refine Zy (Qs (Qs (QB (Qc (zR ?_)))))
 refine Yh rfl rfl (fun r_37=>?_)
 refine Qt ztc rfl rfl (fun b_5=>?_)
 refine zS zpZ ?_
 refine zA (zN (Qq (zR ?_)))
 refine zM ?_
 refine zQ V4 ?_
 refine zM (zN (QD ?_))
 refine zU [(0,_),(5,_),(38,_),(39,_)] (fun T L0 mz E I' loc'=>∃ (k:Nat) (l:Int) (s:List (Int×Bool)),mz=n-k∧E=(6,.int .i64 l)::(40,.int .i64 k)::T∧I=I'∧[(b_5,.cells #[.map (some r_37)] 143 (0,0)),(r_37,YD (Value.int .i64) Value.bool s)]=loc'∧k≤n∧(List.range k).all (lsQ ps)=true∧zhy (ztP ps) k l∧∀ x,zng s x=zfJ (ps.take k) x) ?_ (h:=⟨0,0,[],rfl,rfl,rfl,rfl,Nat.zero_le _,rfl,⟨fun _=>rfl,fun y hy h=>absurd rfl h⟩,fun x=>rfl⟩)
 rintro mz E I' loc' ⟨k,l,s,rfl,rfl,rfl,rfl,hk,hall,hl,hs⟩
 refine zR (zC (zN (Qq ?_)))
 refine zI ?_ ?_<;>intro hc41
 ·
  have hlt_k:k<n:=by have h:=hc41;simp at h;omega
  have hP1:=hP.1
  obtain ⟨p,hp,hN⟩:=hP.at hlt_k
  have hpm:=List.mem_of_getElem? hp
  have hN:Sl I 1 Yk p.a p.n p.c p.needs:=hN
  have hpn:=hnd p hpm
  have hp1:=(zmw (hz p hpm)).1
  refine Qw (Qc (Qq (QD (zR ?_))))
  refine zV (QV rfl rfl V4 (by assumption) (fun hg=>by omega)) ?_
  refine zV (Qg rfl JA (fun hg=>by exact zxe hP1 hp) rfl) ?_
  refine Qt zaL rfl rfl (fun b_8=>?_)
  refine zh Uk ?_
  refine zN (Qq (zR ?_))
  refine zF YI ?_
  refine zL QA ?_
  refine zM ?_
  refine zC ?_
  refine zM ?_
  refine Ze 4 rfl rfl rfl ?_
  refine zJ (Qa rfl Y6) ?_
  refine zJ (Qd rfl Kb (fun hg=>by exact QG.h0 rfl)) ?_
  refine zJ (YG (us:=[]) (vs:=[_]) rfl rfl) ?_
  refine zeC (cap:=[]) (vs:=[_,_]) rfl rfl zuM Qu (fun hg=>zlT.ofV fun I' hI' hL'=>zv7 (cap:=[.pointer (some ⟨b_5,0,none⟩)]) (hN.mono hI') hpn zs7 (fun x _=>zwd (b:=b_5) (r:=r_37) (s:=s) (hL' b_5 _ (by simp)) (hL' r_37 _ (by simp)) x)) (.some rfl rfl rfl rfl gbf) rfl rfl ?_
  refine ZP rfl rfl rfl rfl rfl ?_
  refine zN ?_
  refine zI ?_ ?_<;>intro hc53
  ·
   have hbad:X4 ps=380:=zt9 hlen h0 (by rw [←zkP h0];exact K3 (k:=k) (by rw [hP.len];exact hlt_k) (by rw [zou hp hp1 hl hs];exact congrArg (! ·) hc53))
   refine zR (zA (zN (QF (Qi (Qz (Qi (Qi ?_)))))))
   refine Qz (Qi ?_)
   exact zp hIc rfl rfl (by rw [hbad])
  refine Qw (Qc ?_)
  have hD:=zxd I
  refine ZL ?_
  refine Q0 I [(b_8,.cells (W5 p).toArray 39 (0,0)),(b_5,.cells #[.map (some r_37)] 143 (0,0))] mixed ?_
  refine zT 0 rfl (Qd rfl ziP (fun hg=>by exact QG.h1 rfl)) hD ?_
  refine zT 1 rfl (Qa rfl YI) hD ?_
  refine zT 2 rfl (Qd rfl QA (fun hg=>by exact QG.h0 rfl)) hD ?_
  refine zT 3 rfl (Qa rfl YI) hD ?_
  refine zT 4 rfl (Qd rfl QA (fun hg=>by exact QG.h0 rfl)) hD ?_
  refine qd 5 rfl ?_
  refine ZU (m:=s) (ek:=Value.int .i64) (ev:=Value.bool) (a:=p.id) true U0 Zj rfl rfl rfl rfl (by repeat (first | exact Upd.here | apply Upd.there | apply Qx)) ?_
  refine Qb ?_
  refine zD hD ?_
  refine zT 6 rfl (QC rfl) hD ?_
  refine Qm (by kernel_rfl) ?_
  refine Qy ?_
  refine Qn (Qc (Qk (zB ?_)))
  refine zM (Qb ?_)
  exact zm (h:=⟨n-(k+1),by omega,k+1,_,_,rfl,rfl,rfl,rfl,by omega,KA hall (by rw [zou hp hp1 hl hs];exact congrArg (! ·) hc53),zhQ hp,fun x=>by rw [zhe,hs,zmX hp]⟩)
 have hge_k:n≤k:=by have h:=hc41;simp at h;omega
 have hls:lsB ps=true:=by rw [←zkP h0,hP.len,show n=k by omega];exact hall
 have hL:Lst ps:=zpb h0 hls
 refine Zy (Qs (Qs (QB (Qc (zR (zM ?_))))))
 refine QE (cap:=[]) (vs:=[_]) rfl rfl zsO .nil (znd hP hn hL hnd) rfl rfl ?_
 rintro vv3 I3 L3 hI3 ⟨rfl,r9,rfl,hOn⟩
 have hP:=hP.mono hI3;have hIc:=hIc.trans hI3
 refine zA ?_
 refine zN (zR ?_)
 refine Yh rfl rfl (fun r_62=>?_)
 refine Yh rfl rfl (fun r_63=>?_)
 refine zA ?_
 refine zA (zN (Qq (Qq ?_)))
 refine zl5 [(r_63,YD (Value.int .i64) zri []),(r_62,YD (Value.int .i64) (Value.int .i64) [])] (by repeat (first | exact Qe | exact .refl | refine .keep ?_ | refine .drop ?_)) ?_
 refine Qk (zM ?_)
 refine zQ V4 ?_
 refine zM (zN (QD ?_))
 refine zU [(0,_),(9,_),(10,_),(11,_),(64,_),(65,_)] (fun T L0 mz E I' loc'=>∃ (k:Nat) (mi:List (Int×Int)) (mr:List (Int×(Value×Nat×List Value))) (L:Go.Kn.Loc),mz=n-k∧E=(66,.int .i64 k)::T∧I3=I'∧(r_63,YD (Value.int .i64) zri mr)::(r_62,YD (Value.int .i64) (Value.int .i64) mi)::L=loc'∧k≤n∧zhE mi (ps.take k)∧zhU mr (ps.take k)∧UJ 3 1 (mr.map (·.2)) L) ?_ (h:=⟨0,[],[],[],rfl,rfl,rfl,rfl,Nat.zero_le _,zhE.nil,zhU.nil,UJ.nil⟩)
 rintro mz E I' loc' ⟨k,mi,mr,L,rfl,rfl,rfl,rfl,hk,hmi,hmr,hAll⟩
 refine zR (zC (zN (Qq ?_)))
 refine zI ?_ ?_<;>intro hc67
 ·
  have hlt_k:k<n:=by have h:=hc67;simp at h;omega
  have hP1:=hP.1
  obtain ⟨p,hp,hN⟩:=hP.at hlt_k
  have hpm:=List.mem_of_getElem? hp
  have hN:Sl I3 1 Yk p.a p.n p.c p.needs:=hN
  have hpn:=hnd p hpm
  refine Qw (Qc (Qq (QD (zR ?_))))
  refine zV (QV rfl rfl V4 (by assumption) (fun hg=>by omega)) ?_
  refine zV (Qg rfl JA (fun hg=>by exact zxe hP1 hp) rfl) ?_
  refine Qt zaL rfl rfl (fun b_13=>?_)
  refine zh Uk ?_
  refine zN (zR ?_)
  refine zF KM ?_
  refine zL QA ?_
  refine zN (QD (zR (zC ?_)))
  refine zA (zN ?_)
  refine zI ?_ ?_<;>intro hc72
  ·
   have hk2:p.kind=2:=by simpa using hc72
   refine Qq (zR (zM ?_))
   refine zF Vj ?_
   refine zL QA ?_
   refine zV (Xm (m:=mi) (ek:=Value.int .i64) (a:=p.sign) zfi Zj rfl rfl (fun _=>.inr (by simp))) ?_
   refine zM ?_
   refine zE ?_
   refine zE ?_
   refine zA ?_
   refine zA ?_
   refine zN (zR ?_)
   refine zM (zN ?_)
   refine zI ?_ ?_<;>intro hc81
   ·
    obtain ⟨id,hid⟩:=Option.isSome_iff_exists.1 hc81
    have hbad:X4 ps=380:=zln hlen h0 hls (zqv hL hmi hp hk2 hid)
    refine zR (zA (zN (QF (Qi (Qz (Qz (Qi ?_)))))))
    refine Qi (Qz (Qi ?_))
    exact zp hIc rfl rfl (by rw [hbad])
   have hnone:ZS mi p.sign=none:=by simpa using hc81
   refine Qw (Qc (Qk (zM ?_)))
   refine zF Vj ?_
   refine zL QA ?_
   refine zF YI ?_
   refine zL QA ?_
   refine ZU (m:=mi) (ek:=Value.int .i64) (ev:=Value.int .i64) (a:=p.sign) p.id zfi Zj rfl rfl rfl rfl (by repeat (first | exact Upd.here | apply Upd.there | apply Qx)) ?_
   refine Qb (Qn (Qn (Qc (Qk (zB ?_)))))
   refine zM (Qb ?_)
   exact zm (h:=⟨n-(k+1),by omega,k+1,_,_,_,rfl,rfl,rfl,rfl,by omega,hmi.put hp hk2 hnone,hmr.skip hp (by omega),hAll⟩)
  have hk2n:p.kind≠2:=by simpa using hc72
  refine zR (zC ?_)
  refine zA (zN ?_)
  refine zI ?_ ?_<;>intro hc87
  ·
   have hk3:p.kind=3:=by simpa using hc87
   obtain ⟨A,Lt,B,rfl,hOt,hset⟩:=hAll.at p.sign
   have hq:=ztW hmr hOt
   have hq2:=List.length_take_le k ps
   have hD:=zxd I3
   refine ZL ?_
   refine Q0 I3 [(b_13,.cells (W5 p).toArray 39 (0,0))] mixed ?_
   refine zT 0 rfl (Qh rfl) hD ?_
   refine zT 1 rfl (Qa rfl Vj) hD ?_
   refine zT 2 rfl (Qd rfl QA (fun hg=>by exact QG.h0 rfl)) hD ?_
   refine zT 3 rfl (Qh rfl) hD ?_
   refine zT 4 rfl (Qa rfl Vj) hD ?_
   refine zT 5 rfl (Qd rfl QA (fun hg=>by exact QG.h0 rfl)) hD ?_
   refine zT 7 rfl (Qa rfl YI) hD ?_
   refine zT 8 rfl (Qd rfl QA (fun hg=>by exact QG.h0 rfl)) hD ?_
   refine Q8 6 9 rfl rfl (by kernel_rfl) ?_ ?_
   ·
    refine zV (Xa (m:=mr) (ek:=Value.int .i64) (a:=p.sign) zam Zj rfl rfl (fun _=>.inr (by simp))) ?_
    refine Qb ?_
    refine zD hD ?_
    refine qd 9 rfl ?_
    refine Ql (ps:=[(0,_)]) (m:=[Yk p.id]) Y9 rfl (.cons rfl (.nil)) rfl (by simp [Zx]) (by decide) (by decide) rfl rfl (fun b_98=>?_)
    refine Qb ?_
    refine zD hD ?_
    refine qd 10 rfl ?_
    refine QX (v:=_) (ys:=[p.id].flatMap Yk) (L:=Lt) rfl rfl Y9 hOt (by repeat (first | exact .cons .here .nil | exact Qu | exact Qr | apply Qp | apply Qo)) ⟨rfl,fun _=>rfl,zxb⟩ (zbh [p.id]) (by omega) rfl rfl ?_
    intro v9 L9 hO9 _
    refine Qb ?_
    refine zD hD ?_
    refine qd 11 rfl ?_
    refine ZU (m:=mr) (ek:=Value.int .i64) (ev:=zri) (a:=p.sign) (v9,((ZS mr p.sign).getD zd2).2.1+1,((ZS mr p.sign).getD zd2).2.2++[p.id].flatMap Yk) zam Zj rfl rfl rfl rfl (by (repeat (first | exact Upd.here | apply Upd.there | apply Qx))) ?_
    refine Qb ?_
    refine zD hD ?_
    refine Qm (by kernel_rfl) ?_
    refine Qy ?_
    refine Qn (Qn (Qc (Qk (zB ?_))))
    refine zM (Qb ?_)
    exact zjP _ _ (L9++((r_63,_)::(r_62,_)::(A++B))) ⟨n-(k+1),by omega,k+1,_,_,A++(L9++B),rfl,rfl,rfl,rfl,by omega,hmi.skip hp hk2n,hmr.put hp hk3,hset (v9,_,_) L9 hO9⟩ (.cons rfl (.cons rfl (.cons rfl (.cons rfl (.cons rfl (.cons rfl (.cons rfl .nil))))))) zjr (by repeat (first | exact .refl | exact QN | refine Zf ?_ | refine .drop ?_ | refine Qf ?_))
   refine Ql (ps:=[(0,_)]) (m:=[Yk p.id]) Y9 rfl (.cons rfl (.nil)) rfl (by simp [Zx]) (by decide) (by decide) rfl rfl (fun b_98=>?_)
   refine Qb ?_
   refine zD hD ?_
   refine qd 6 rfl ?_
   refine zV (Xa (m:=mr) (ek:=Value.int .i64) (a:=p.sign) zam Zj rfl rfl (fun _=>.inr (by simp))) ?_
   refine Qb ?_
   refine zD hD ?_
   refine qd 10 rfl ?_
   refine QX (v:=_) (ys:=[p.id].flatMap Yk) (L:=Lt) rfl rfl Y9 hOt (by repeat (first | exact .cons .here .nil | exact Qu | exact Qr | apply Qp | apply Qo)) ⟨rfl,fun _=>rfl,zxb⟩ (zbh [p.id]) (by omega) rfl rfl ?_
   intro v9 L9 hO9 _
   refine Qb ?_
   refine zD hD ?_
   refine qd 11 rfl ?_
   refine ZU (m:=mr) (ek:=Value.int .i64) (ev:=zri) (a:=p.sign) (v9,((ZS mr p.sign).getD zd2).2.1+1,((ZS mr p.sign).getD zd2).2.2++[p.id].flatMap Yk) zam Zj rfl rfl rfl rfl (by (repeat (first | exact Upd.here | apply Upd.there | apply Qx))) ?_
   refine Qb ?_
   refine zD hD ?_
   refine Qm (by kernel_rfl) ?_
   refine Qy ?_
   refine Qn (Qn (Qc (Qk (zB ?_))))
   refine zM (Qb ?_)
   exact zjP _ _ (L9++((r_63,_)::(r_62,_)::(A++B))) ⟨n-(k+1),by omega,k+1,_,_,A++(L9++B),rfl,rfl,rfl,rfl,by omega,hmi.skip hp hk2n,hmr.put hp hk3,hset (v9,_,_) L9 hO9⟩ (.cons rfl (.cons rfl (.cons rfl (.cons rfl (.cons rfl (.cons rfl (.cons rfl .nil))))))) zjr (by repeat (first | exact .refl | exact QN | refine Zf ?_ | refine .drop ?_ | refine Qf ?_))
  have hk3n:p.kind≠3:=by simpa using hc87
  refine Qw (Qn (Qn (Qc (Qk (zB ?_)))))
  refine zM (Qb ?_)
  exact zm (h:=⟨n-(k+1),by omega,k+1,_,_,_,rfl,rfl,rfl,rfl,by omega,hmi.skip hp hk2n,hmr.skip hp hk3n,hAll⟩)
 have hge_k:n≤k:=by have h:=hc67;simp at h;omega
 rw [Yl hP.len hge_k] at hmi hmr
 refine Zy (Qs (Qs (QB (Qc (Qq (Qq ?_))))))
 refine zfq (fun I5 hI5 hb5=>?_)
 have hP:=hP.mono hI5;have hOn:=hOn.mono hI5;have hIc:=hIc.trans hI5
 have hmiI:I5 r_62=some (YD (Value.int .i64) (Value.int .i64) mi):=hb5 _ _ (by simp)
 have hmrI:I5 r_63=some (YD (Value.int .i64) zri mr):=hb5 _ _ (by simp)
 have hrem:=zuE hmr hAll (fun b o h=>hb5 b o (by simp [h]))
 obtain ⟨m,hm1,hm2⟩:=hOn
 refine Qk (zM ?_)
 refine zQ V4 ?_
 refine zM (zN (QD ?_))
 refine zU [(9,_),(10,_),(11,_),(101,_),(102,_)] (fun T L0 mz E I' loc'=>∃ (k:Nat),mz=n-k∧E=(103,.int .i64 k)::T∧I5=I'∧[]=loc'∧k≤n∧(ps.take k).all (tgP ps)=true) ?_ (h:=⟨0,rfl,rfl,rfl,rfl,Nat.zero_le _,rfl⟩)
 rintro mz E I' loc' ⟨k,rfl,rfl,rfl,rfl,hk,htg⟩
 refine zR (zC (zN (Qq ?_)))
 refine zI ?_ ?_<;>intro hc104
 ·
  have hlt_k:k<n:=by have h:=hc104;simp at h;omega
  have hP1:=hP.1
  obtain ⟨p,hp,hN⟩:=hP.at hlt_k
  have hpm:=List.mem_of_getElem? hp
  have hN:Sl I5 1 Yk p.a p.n p.c p.needs:=hN
  have hpn:=hnd p hpm
  obtain ⟨ref,hget,sn,hsn,hsq⟩:=hm2.get ⟨p,hpm,rfl⟩
  refine Qw (Qc (Qq (QD (zR ?_))))
  refine zV (QV rfl rfl V4 (by assumption) (fun hg=>by omega)) ?_
  refine zV (Qg rfl JA (fun hg=>by exact zxe hP1 hp) rfl) ?_
  refine Qt zaL rfl rfl (fun b_17=>?_)
  refine zh Uk ?_
  refine zN (Qq (zR (zM ?_)))
  refine zF Vj ?_
  refine zL QA ?_
  refine zV (Xm (m:=mi) (ek:=Value.int .i64) (a:=p.sign) zfi Zj rfl rfl (fun _=>.inl hmiI)) ?_
  refine zM ?_
  refine zE ?_
  refine zE ?_
  refine zA ?_
  refine zA ?_
  refine zN (zR ?_)
  refine zM ?_
  refine zM ?_
  refine QL 1 rfl rfl rfl ?_
  refine zK (Qa rfl YI) ?_
  refine zK (Qd rfl QA (fun hg=>by exact QG.h0 rfl)) ?_
  refine zK (Qh rfl) ?_
  refine zK (QT rfl rfl rfl) ?_
  refine QW rfl rfl rfl rfl rfl ?_
  refine zM ?_
  refine QL 7 rfl rfl rfl ?_
  refine zK (Qh rfl) ?_
  refine zK (Qa rfl YI) ?_
  refine zK (Qd rfl QA (fun hg=>by exact QG.h0 rfl)) ?_
  refine zK (Xb (m:=m) (ek:=Value.int .i64) (ev:=zmv) (a:=p.id) hget zcN Zj rfl rfl (fun _=>.inl hm1)) ?_
  refine zK (Qh rfl) ?_
  refine zK (YP (m:=sn) U0 Zj rfl rfl (fun _=>.inl hsn)) ?_
  refine zK (Yz rfl) ?_
  refine QW rfl rfl rfl rfl rfl ?_
  refine zN ?_
  refine zI ?_ ?_<;>intro hc129
  ·
   have hA:=hc129
   simp only [show ∀ x,(ZS sn x).getD false=onF ps p.id x from fun x=>hsq.mem x] at hA
   have hbad:X4 ps=380:=zln hlen h0 hls (by rw [zk0 hL hmi];exact zo9 hp (by unfold tgP;rw [←zol hmi,hA];rfl))
   refine zR (zA (zN (QF (Qi (Qz (Qi (Qi ?_)))))))
   refine Qz (Qi ?_)
   exact zp hIc rfl rfl (by rw [hbad])
  have hA:=hc129
  simp only [show ∀ x,(ZS sn x).getD false=onF ps p.id x from fun x=>hsq.mem x] at hA
  refine Qw (Qc (Qq ?_))
  obtain ⟨av2,c2,hv2,hS2⟩:=hrem p.sign
  have hk3l:=zdA (c:=3) (ps:=ps) (s:=p.sign)
  have hpl:=hP.len
  refine Qk (zM ?_)
  refine zF Vj ?_
  refine zL QA ?_
  refine zV (ze0 (m:=mr) (ek:=Value.int .i64) (a:=p.sign) hv2 zam Zj rfl rfl (fun _=>.inl hmrI)) ?_
  refine zQ Yo ?_
  refine zM (zN (QD ?_))
  refine zU [(9,_),(10,_),(11,_),(17,_),(101,_),(102,_),(103,_),(133,_),(134,_)] (fun T L0 mz E I' loc'=>∃ (j:Nat),mz=(JB 3 ps p.sign).length-j∧E=(135,.int .i64 j)::T∧I5=I'∧[(b_17,.cells (W5 p).toArray 39 (0,0))]=loc'∧j≤(JB 3 ps p.sign).length∧((JB 3 ps p.sign).take j).any (onF ps p.id)=false) ?_ (h:=⟨0,rfl,rfl,rfl,rfl,Nat.zero_le _,rfl⟩)
  rintro mz E I' loc' ⟨j,rfl,rfl,rfl,rfl,hj,hno⟩
  refine zR (zC (zN (Qq ?_)))
  refine zI ?_ ?_<;>intro hc136
  ·
   have hlt_j:j<(JB 3 ps p.sign).length:=by have h:=hc136;simp at h;omega
   obtain ⟨y,hy⟩:=hS2.at hlt_j
   refine Qw (Qc (Qq (QD (zR ?_))))
   refine zV (QV rfl rfl Yo (by assumption) (fun hg=>by omega)) ?_
   refine zV (Qd rfl QA (fun hg=>by exact zw6 hS2 hy rfl)) ?_
   refine zA ?_
   refine zN (zR ?_)
   refine zM ?_
   refine zF YI ?_
   refine zL QA ?_
   refine zV (Xb (m:=m) (ek:=Value.int .i64) (ev:=zmv) (a:=p.id) hget zcN Zj rfl rfl (fun _=>.inl hm1)) ?_
   refine zM ?_
   refine zV (YP (m:=sn) U0 Zj rfl rfl (fun _=>.inl hsn)) ?_
   refine zN ?_
   refine zI ?_ ?_<;>intro hc144
   ·
    have hon:=hc144
    simp only [show ∀ x,(ZS sn x).getD false=onF ps p.id x from fun x=>hsq.mem x] at hon
    have hbad:X4 ps=380:=zln hlen h0 hls (by rw [zk0 hL hmi];exact zo9 hp (by unfold tgP;rw [zh4 hy hon,Bool.or_true];rfl))
    refine zR (zA (zN (QF (Qz (Qi (Qi (Qz ?_)))))))
    refine Qz (Qi (Qi (Qz (Qi ?_))))
    exact zp hIc rfl rfl (by rw [hbad])
   have hon:=hc144
   simp only [show ∀ x,(ZS sn x).getD false=onF ps p.id x from fun x=>hsq.mem x] at hon
   refine Qw (Qn (Qc (Qk (zB ?_))))
   refine zM (Qb ?_)
   exact zm (h:=⟨(JB 3 ps p.sign).length-(j+1),by omega,j+1,rfl,rfl,rfl,rfl,by omega,zbW hy hno hon⟩)
  have hge_j:(JB 3 ps p.sign).length≤j:=by have h:=hc136;simp at h;omega
  rw [Yl rfl hge_j] at hno
  have htp:tgP ps p=true:=by unfold tgP;rw [←zol hmi,hA,hno];rfl
  refine Zy (Qs (Qs (QB (Qn (Qc (Qk (zB ?_)))))))
  refine zM (Qb ?_)
  exact zm (h:=⟨n-(k+1),by omega,k+1,rfl,rfl,rfl,rfl,by omega,zrN hp htg htp⟩)
 have hge_k:n≤k:=by have h:=hc104;simp at h;omega
 have htog:zjp ps=true:=by rw [zk0 hL hmi];rw [Yl hP.len hge_k] at htg;exact htg
 refine Zy (Qs (Qs (QB (Qc (zR (zA (zN ?_)))))))
 refine QF ?_
 exact zp hIc rfl rfl (by rw [zsQ hlen h0 hls htog])
end
section
open Go Go.Kn Go.Proofs
theorem zfV:ElT Tryz.prog 64 39 19 168:=.of (by kernel_rfl)
theorem zaQ:Fun Tryz.prog 135:=.of Tryz.func135 (by kernel_rfl) (by kernel_rfl)
theorem zlS:Fun Tryz.prog 136:=.of Tryz.func136 (by kernel_rfl) (by kernel_rfl)
theorem ziN:Fun Tryz.prog 137:=.of Tryz.func137 (by kernel_rfl) (by kernel_rfl)
theorem zlH:Fun Tryz.prog 138:=.of Tryz.func138 (by kernel_rfl) (by kernel_rfl)
theorem zk4:Fun Tryz.prog 139:=.of Tryz.func139 (by kernel_rfl) (by kernel_rfl)
theorem ztk:Fun Tryz.prog 39:=.of Tryz.func39 (by kernel_rfl) (by kernel_rfl)
theorem zsJ:Fun Tryz.prog 67:=.of Tryz.func67 (by kernel_rfl) (by kernel_rfl)
theorem zuw:Fun Tryz.prog 69:=.of Tryz.func69 (by kernel_rfl) (by kernel_rfl)
theorem zvc:Fun Tryz.prog 71:=.of Tryz.func71 (by kernel_rfl) (by kernel_rfl)
theorem zuq:Fun Tryz.prog 73:=.of Tryz.func73 (by kernel_rfl) (by kernel_rfl)
theorem Ud:MpT Tryz.prog 151 3 43 (.agg #[(.int .i64 0),(.int .i64 0),(.int .i64 0),(.int .i64 0),(.int .i64 0),(.int .i64 0),(.string ⟨#[]⟩),(.string ⟨#[]⟩),(.int .i64 0),(.int .i64 0),(.int .i64 0)]):=⟨by kernel_rfl,.of (by kernel_rfl)⟩
theorem zcP:MpT Tryz.prog 194 3 41 (.agg #[(.int .i64 0),(.int .i64 0),(.int .i64 0),(.int .i64 0),(.int .i64 0)]):=⟨by kernel_rfl,.of (by kernel_rfl)⟩
theorem zca:MpT Tryz.prog 198 3 39 (.agg #[(.int .i64 0),(.int .i64 0),(.int .i64 0),(.int .i64 0),(.int .i64 0),(.int .i64 0),(.int .i64 0),(.int .i64 0),(.int .i64 0),(.int .i64 0),(.int .i64 0),(.int .i64 0),(.int .i64 0),(.int .i64 0),(.int .i64 0),(.int .i64 0),(.int .i64 0),(.int .i64 0),(.slice none 0 0)]):=⟨by kernel_rfl,.of (by kernel_rfl)⟩
theorem zno {I:Qv}{av:Option Addr}{n c:Nat}{xs:List Nt}(hP:K9 I av n c xs)(hn0:n≤4096):Vi Tryz.prog 66 [.slice av n c,.int .i64 1,.func (.func 67) #[] #[],.func (.func 37) #[] #[]] I [] (fun v I' L'=>L'=[]∧∃ a n c,v= .slice a n c∧Sl I' 9 ZJ a n c (zaq (fun x=>x.lm.no) (fun x=>x.lm) 1 zh0 V3 xs)):=by
 intro g H w hw
 refine qe Tryz.func66 Tryz.ntmps66 hw ?_
 have hIc:=zxd I
 have hln:=hP.sl.len
 refine zR (zA ?_)
 refine zN (zR ?_)
 refine Yh rfl rfl (fun r_20=>?_)
 refine (show XO _ _ _ _ _ _ _ ((r_20,YD (.int .i64) Jq ([]:List (Int×Lm)))::_) from ?_)
 refine zA ?_
 refine zN (zR ?_)
 refine zA (zN (Qq (zR ?_)))
 refine zM ?_
 refine zQ Zu ?_
 refine zM (zN (QD ?_))
 refine zU [(1,_),(2,_),(3,_),(8,_),(9,_),(21,_),(22,_)] (fun T L0 mz E I' loc'=>∃ (k:Nat) (v:Value) (q:Nat) (Lw:Go.Kn.Loc),mz=n-k∧E=(10,v)::(23,.int .i64 k)::T∧I=I'∧Lw++[(r_20,YD (.int .i64) Jq (Yi (fun x=>x.lm.no) (fun x=>x.lm) 1 (xs.take k)))]=loc'∧k≤n∧Yp 3 1 v q (((Yi (fun x=>x.lm.no) (fun x=>x.lm) 1 (xs.take k)).map (·.1)).flatMap Yk) Lw∧q=(Yi (fun x=>x.lm.no) (fun x=>x.lm) 1 (xs.take k)).length) ?_ (h:=⟨0,_,0,[],rfl,rfl,rfl,rfl,Nat.zero_le _,Yp.nil,rfl⟩)
 rintro mz E I' loc' ⟨k,v,q,Lw,rfl,rfl,rfl,rfl,hk,hO,hq⟩
 refine zR (zC (zN (Qq ?_)))
 refine zI ?_ ?_<;>intro hc24
 ·
  have hlt_k:k<n:=by have h:=hc24;simp at h;omega
  obtain ⟨x,hx⟩:∃ y,xs[k]? =some y:=⟨_,List.getElem?_eq_getElem (by omega)⟩
  have hml:(Yi (fun x=>x.lm.no) (fun x=>x.lm) 1 (xs.take k)).length≤k:=Nat.le_trans VK (List.length_take_le ..)
  refine Qw (Qc (Qq (QD (zR ?_))))
  refine zV (QV rfl rfl Zu hP.sl (fun hg=>by omega)) ?_
  refine zV (Qg rfl Zr (fun hg=>by exact zxe hP.sl hx) rfl) ?_
  refine Qt Wj rfl rfl (fun b_12=>?_)
  refine zh VX ?_
  refine zN (zR ?_)
  refine zM ?_
  refine zV (Qg rfl Zr (fun hg=>by exact Cells.g0) rfl) ?_
  refine qcV (vs:=[_]) rfl zsJ (zpG _ x) ?_
  refine zM ?_
  refine zE ?_
  refine zE ?_
  refine Qt zfn rfl rfl (fun b_13=>?_)
  refine zh zaH ?_
  refine zA (zN (Qq ?_))
  rcases hget:ZS (Yi (fun x=>x.lm.no) (fun x=>x.lm) 1 (xs.take k)) (x.lm.no) with _ | y0
  ·
   refine Qk (zM ?_)
   refine zM ?_
   refine zV (Z9 (ek:=Value.int .i64) (ev:=Jq) W2 Zj rfl rfl (fun _=>(by (repeat (first | exact Mem.m0 | apply Mem.there | apply Mem.app))))) ?_
   rw [hget]
   refine zM ?_
   refine zE ?_
   refine zE ?_
   refine Qt zfn rfl rfl (fun b_15=>?_)
   refine zh zaH ?_
   refine zA ?_
   refine zN (zR ?_)
   refine zF Vl ?_
   refine zL QA ?_
   refine zM ?_
   refine zC ?_
   refine zM ?_
   refine QL 4 rfl rfl rfl ?_
   refine zK (Qh rfl) ?_
   refine zK (Yz rfl) ?_
   refine QW rfl rfl rfl rfl rfl ?_
   refine zN ?_
   refine zI ?_ ?_<;>intro hc46
   ·
    have hkd:(x.kind==1)=true:=by simpa using hc46
    refine zR (zM ?_)
    refine zM ?_
    refine zV (Qg rfl Kt (fun hg=>by exact Cells.g1) rfl) ?_
    refine ZU (ek:=Value.int .i64) (ev:=Jq) (x.lm) W2 Zj rfl rfl rfl rfl (by (repeat (first | exact Upd.here | apply Upd.there | apply Qx))) ?_
    refine zN (Qk (zM ?_))
    refine zM ?_
    refine Ql (ps:=[(0,_)]) (m:=[Yk (x.lm.no)]) Y9 rfl (.cons rfl (.nil)) rfl (by simp [Q4,Yt,Zx]) (by decide) (by decide) rfl rfl (fun b_52=>?_)
    refine QX (v:=_) (ys:=[x.lm.no].flatMap Yk) (L:=Lw) rfl rfl Y9 hO (by repeat (first | exact .cons .here .nil | exact Qu | exact Qr | apply Qp | apply Qo)) ⟨rfl,fun _=>rfl,by repeat (first | exact zxb | apply zxa | apply zxc)⟩ (zbh [x.lm.no]) (by omega) rfl rfl ?_
    intro v9 L9 hO9 _;rw [←List.flatMap_append] at hO9
    refine zA (Qb (Qn (Qc (Qk ?_))))
    refine zB ?_
    refine zM (Qb ?_)
    exact Zt _ (L9++[(r_20,YD (.int .i64) Jq (JJ (Yi (fun x=>x.lm.no) (fun x=>x.lm) 1 (xs.take k)) (x.lm.no) (x.lm)))]) ⟨n-(k+1),by omega,k+1,_,_,_,rfl,rfl,rfl,by rw [Zp hx,zag hget hkd],by omega,by rw [Zp hx,Jk hget hkd];exact hO9,by rw [Zp hx,←List.length_map (f:=fun p=>p.1),Jk hget hkd,List.length_append,List.length_map];simp;omega⟩ (.cons rfl (.cons rfl (.cons rfl (.cons rfl (.cons rfl (.cons rfl (.cons rfl (.cons rfl (.cons rfl .nil))))))))) (by repeat (first | exact .refl | exact QN | refine Zf ?_ | refine .drop ?_ | refine Qf ?_))
   have hkd:(x.kind==1)=false:=by simpa using hc46
   have hsame:U5 (fun x=>x.lm.no) (fun x=>x.lm) 1 (Yi (fun x=>x.lm.no) (fun x=>x.lm) 1 (xs.take k)) x=(Yi (fun x=>x.lm.no) (fun x=>x.lm) 1 (xs.take k)):=zcO hkd
   refine Qw (Qn (Qc (Qk (zB ?_))))
   refine zM (Qb ?_)
   exact Zt _ (Lw++[(r_20,YD (.int .i64) Jq (Yi (fun x=>x.lm.no) (fun x=>x.lm) 1 (xs.take k)))]) ⟨n-(k+1),by omega,k+1,_,_,_,rfl,rfl,rfl,by rw [Zp hx,hsame],by omega,by rw [Zp hx,hsame];exact hO,by rw [Zp hx,hsame];exact hq⟩ (.cons rfl (.cons rfl (.cons rfl (.cons rfl (.cons rfl (.cons rfl (.cons rfl (.cons rfl (.cons rfl .nil))))))))) (by repeat (first | exact .refl | exact QN | refine Zf ?_ | refine .drop ?_ | refine Qf ?_))
  refine Qk (zM ?_)
  refine zM ?_
  refine zV (Z9 (ek:=Value.int .i64) (ev:=Jq) W2 Zj rfl rfl (fun _=>(by (repeat (first | exact Mem.m0 | apply Mem.there | apply Mem.app))))) ?_
  rw [hget]
  refine zM ?_
  refine zE ?_
  refine zE ?_
  refine Qt zfn rfl rfl (fun b_15=>?_)
  refine zh zaH ?_
  refine zA ?_
  refine zN (zR ?_)
  refine zF Vl ?_
  refine zL QA ?_
  refine zM ?_
  refine zC ?_
  refine zM ?_
  refine QL 4 rfl rfl rfl ?_
  refine zK (Qh rfl) ?_
  refine zK (Yz rfl) ?_
  refine QW rfl rfl rfl rfl rfl ?_
  refine zN ?_
  refine zI ?_ ?_<;>intro hc46
  ·
   simp at hc46
  have hsame:U5 (fun x=>x.lm.no) (fun x=>x.lm) 1 (Yi (fun x=>x.lm.no) (fun x=>x.lm) 1 (xs.take k)) x=(Yi (fun x=>x.lm.no) (fun x=>x.lm) 1 (xs.take k)):=X6 hget
  refine Qw (Qn (Qc (Qk (zB ?_))))
  refine zM (Qb ?_)
  exact Zt _ (Lw++[(r_20,YD (.int .i64) Jq (Yi (fun x=>x.lm.no) (fun x=>x.lm) 1 (xs.take k)))]) ⟨n-(k+1),by omega,k+1,_,_,_,rfl,rfl,rfl,by rw [Zp hx,hsame],by omega,by rw [Zp hx,hsame];exact hO,by rw [Zp hx,hsame];exact hq⟩ (.cons rfl (.cons rfl (.cons rfl (.cons rfl (.cons rfl (.cons rfl (.cons rfl (.cons rfl (.cons rfl .nil))))))))) (by repeat (first | exact .refl | exact QN | refine Zf ?_ | refine .drop ?_ | refine Qf ?_))
 have hge_k:n≤k:=by have h:=hc24;simp at h;omega
 have hml:=VK (num:=(fun x=>x.lm.no)) (prt:=(fun x=>x.lm)) (kind:=1) (xs:=xs)
 have hke:xs.take k=xs:=Yl hln hge_k
 rw [hke] at hO hq ⊢
 refine Zy (Qs (Qs (QB (Qc (zR (zM ?_))))))
 refine QE (cap:=[]) (vs:=[_]) rfl rfl zaQ Qr (zgi 3 ((Yi (fun x=>x.lm.no) (fun x=>x.lm) 1 xs).map (·.1)) (by rw [←Ka];exact hO) (by omega) _) rfl rfl ?_
 rintro vv2 I2 L2 hI2 ⟨rfl,rfl,hO2⟩
 have hIc:=hIc.trans hI2
 rw [←Ka] at hO2
 refine zN (Qq (Qq ?_))
 refine Zw hO2 Zx (by decide) (by repeat (first | exact .cons .here .nil | exact Qu | exact Qr | apply Qp | apply Qo)) (fun I3 hI3 af3 cf3 ef3 hNs=>?_)
 subst ef3
 have hIc:=hIc.trans hI3
 obtain ⟨ns,hnsd⟩:∃ y,y=Xd ((Yi (fun x=>x.lm.no) (fun x=>x.lm) 1 xs).map (·.1)):=⟨_,rfl⟩
 rw [←hnsd] at hNs
 have hnl:=hNs.len
 have hml:=VK (num:=(fun x=>x.lm.no)) (prt:=(fun x=>x.lm)) (kind:=1) (xs:=xs)
 refine Qk (zM ?_)
 refine zQ Yo ?_
 refine zM (zN (QD ?_))
 refine zU [(3,_),(9,_),(57,_),(58,_)] (fun T L0 mz E I' loc'=>∃ (j:Nat) (a9:Option Addr) (n9:Nat) (c9:Nat),mz=q-j∧E=(8,.slice a9 n9 c9)::(59,.int .i64 j)::T∧HLe I3 I'∧[(r_20,YD (.int .i64) Jq (Yi (fun x=>x.lm.no) (fun x=>x.lm) 1 xs))]=loc'∧j≤q∧Sl I' 9 ZJ a9 n9 c9 (zfK zh0 V3 (Yi (fun x=>x.lm.no) (fun x=>x.lm) 1 xs) (ns.take j))∧n9≤j) ?_ (h:=⟨0,none,0,0,rfl,rfl,zxd _,rfl,Nat.zero_le _,Sl.nil,Nat.le_refl _⟩)
 rintro mz E J4 loc' ⟨j,a9,n9,c9,rfl,rfl,hJ,rfl,hj,hY,hn9⟩
 have hNs:=hNs.mono hJ;have hIc:=hIc.trans hJ
 have hB2:=hJ
 refine zR (zC (zN (Qq ?_)))
 refine zI ?_ ?_<;>intro hc60
 ·
  have hlt_j:j<q:=by have h:=hc60;simp at h;omega
  obtain ⟨m9,hn⟩:∃ y,ns[j]? =some y:=⟨_,List.getElem?_eq_getElem (by omega)⟩
  refine Qw (Qc (Qq (QD (zR ?_))))
  refine zV (zX Yo hNs) ?_
  refine zV (Qd rfl QA (fun hg=>by exact zw6 hNs hn rfl)) ?_
  refine zA (zN ?_)
  refine zY [(3,_),(8,_),(9,_),(57,_),(58,_),(59,_)] (fun T L0 E I' loc'=>∃ (a2:Option Addr) (c2:Nat),E=(19,.slice a2 (n9+1) c2)::T∧HLe J4 I'∧[(r_20,YD (.int .i64) Jq (Yi (fun x=>x.lm.no) (fun x=>x.lm) 1 xs))]=loc'∧Sl I' 9 ZJ a2 (n9+1) c2 ((zfK zh0 V3 (Yi (fun x=>x.lm.no) (fun x=>x.lm) 1 xs) (ns.take j))++[(ZS (Yi (fun x=>x.lm.no) (fun x=>x.lm) 1 xs) m9).getD V3])) ?_ ?_
  ·
   have hKc16:=zxd J4
   have hD:=zxd J4
   refine ZL ?_
   refine Q0 J4 [(r_20,YD (.int .i64) Jq (Yi (fun x=>x.lm.no) (fun x=>x.lm) 1 xs))] mixed ?_
   refine zT 0 rfl (Qh rfl) hD ?_
   refine zT 2 rfl (Qh rfl) hD ?_
   refine zT 3 rfl (Qh rfl) hD ?_
   refine zT 4 rfl (Uo (ek:=Value.int .i64) (ev:=Jq) V3 W2 Zj rfl rfl (fun _=>(by exact Mem.m0))) hD ?_
   obtain ⟨y,hydef⟩:∃ y,y=(ZS (Yi (fun x=>x.lm.no) (fun x=>x.lm) 1 xs) m9).getD V3:=⟨_,rfl⟩
   rw [←hydef]
   refine Q8 1 5 rfl rfl (by kernel_rfl) ?_ ?_
   ·
    refine qcV (vs:=[_]) rfl zlS (ziL _ _ _ _ hY.cap) ?_
    refine Qb ?_
    refine zD hD ?_
    refine qd 5 rfl ?_
    refine Ql (ps:=[(0,_)]) (m:=[ZJ y]) Wh rfl (.cons rfl (.nil)) rfl (by simp [Q4,Yt,Zx]) (by decide) (by decide) rfl rfl (fun b_68=>?_)
    refine Qb ?_
    refine zD hD ?_
    refine qd 6 rfl ?_
    refine Q2 (ys:=[y].flatMap ZJ) Yt rfl rfl Wh hY.cut ⟨rfl,fun _=>rfl,by repeat (first | exact zxb | apply zxa)⟩ (by decide) (by omega) rfl rfl ?_
    intro v1 L1 hO1
    rw [←List.flatMap_append] at hO1
    refine YM hO1 Yt (by decide) (by repeat (first | exact .cons .here .nil | exact Qu | exact Qr | apply Qp | apply Qo)) (fun I5 hI5 af5 cf5 ef5 hZ=>?_)
    subst ef5
    have hKc16:=hKc16.trans hI5;have hD:=hD.trans hI5
    refine Qb ?_
    refine zD hD ?_
    refine zT 7 rfl (QC rfl) hD ?_
    refine Qm (by kernel_rfl) ?_
    refine Qy ?_
    exact zm (h:=⟨_,_,rfl,hKc16,rfl,by exact hZ⟩)
   refine Ql (ps:=[(0,_)]) (m:=[ZJ y]) Wh rfl (.cons rfl (.nil)) rfl (by simp [Q4,Yt,Zx]) (by decide) (by decide) rfl rfl (fun b_68=>?_)
   refine Qb ?_
   refine zD hD ?_
   refine qd 1 rfl ?_
   refine qcV (vs:=[_]) rfl zlS (ziL _ _ _ _ hY.cap) ?_
   refine Qb ?_
   refine zD hD ?_
   refine qd 6 rfl ?_
   refine Q2 (ys:=[y].flatMap ZJ) Yt rfl rfl Wh hY.cut ⟨rfl,fun _=>rfl,by repeat (first | exact zxb | apply zxa)⟩ (by decide) (by omega) rfl rfl ?_
   intro v1 L1 hO1
   rw [←List.flatMap_append] at hO1
   refine YM hO1 Yt (by decide) (by repeat (first | exact .cons .here .nil | exact Qu | exact Qr | apply Qp | apply Qo)) (fun I6 hI6 af6 cf6 ef6 hZ=>?_)
   subst ef6
   have hKc16:=hKc16.trans hI6;have hD:=hD.trans hI6
   refine Qb ?_
   refine zD hD ?_
   refine zT 7 rfl (QC rfl) hD ?_
   refine Qm (by kernel_rfl) ?_
   refine Qy ?_
   exact zm (h:=⟨_,_,rfl,hKc16,rfl,by exact hZ⟩)
  rintro E J7 loc' ⟨a2,c2,rfl,hJ16,rfl,hZ⟩
  have hY:=hY.mono hJ16;have hB2:=hB2.trans hJ16
  refine zR (zM ?_)
  refine zM ?_
  refine qcV (vs:=[_]) rfl zjT (zlj hZ (by omega)) ?_
  refine zC (zN ?_)
  refine zI ?_ ?_<;>intro hc73
  ·
   refine Qk (zM ?_)
   refine zA (Qb (Qn (Qc (Qk ?_))))
   refine zB ?_
   refine zM (Qb ?_)
   first
   | exact zm (h:=⟨q-(j+1),by omega,j+1,_,_,_,rfl,rfl,hB2,rfl,by omega,by rw [Js hn,zcH,if_pos hc73];exact hZ,by omega⟩)
  refine Qw (Qn (Qc (Qk (zB ?_))))
  refine zM (Qb ?_)
  first
  | exact zm (h:=⟨q-(j+1),by omega,j+1,_,_,_,rfl,rfl,hB2,rfl,by omega,by rw [Js hn,zcH,if_neg (by rw [hc73];simp)];exact hY,by omega⟩)
 have hge_j:q≤j:=by have h:=hc60;simp at h;omega
 have hke2:ns.take j=ns:=Yl hnl hge_j
 rw [hke2] at hY
 refine Zy (Qs (Qs (QB (Qc (zR (zM ?_))))))
 refine zA (zN (QF ?_))
 exact QP rfl rfl (fun w hw=>⟨_,J4,[],rfl,hIc,by exact hw.drop,rfl,_,_,_,rfl,by rw [zaq,←hnsd];exact hY⟩)
theorem znf {I:Qv}{av:Option Addr}{n c:Nat}{xs:List Nt}(hP:K9 I av n c xs)(hn0:n≤4096):Vi Tryz.prog 68 [.slice av n c,.int .i64 3,.func (.func 69) #[] #[],.func (.func 38) #[] #[]] I [] (fun v I' L'=>L'=[]∧∃ a n c,v= .slice a n c∧Sl I' 5 L.encL a n c (zaq (fun x=>x.ls.no) (fun x=>x.ls) 3 L.chk L.zeroL xs)):=by
 intro g H w hw
 refine qe Tryz.func68 Tryz.ntmps68 hw ?_
 have hIc:=zxd I
 have hln:=hP.sl.len
 refine zR (zA ?_)
 refine zN (zR ?_)
 refine Yh rfl rfl (fun r_20=>?_)
 refine (show XO _ _ _ _ _ _ _ ((r_20,YD (.int .i64) L.encA ([]:List (Int×L.Ls)))::_) from ?_)
 refine zA ?_
 refine zN (zR ?_)
 refine zA (zN (Qq (zR ?_)))
 refine zM ?_
 refine zQ Zu ?_
 refine zM (zN (QD ?_))
 refine zU [(1,_),(2,_),(3,_),(8,_),(9,_),(21,_),(22,_)] (fun T L0 mz E I' loc'=>∃ (k:Nat) (v:Value) (q:Nat) (Lw:Go.Kn.Loc),mz=n-k∧E=(10,v)::(23,.int .i64 k)::T∧I=I'∧Lw++[(r_20,YD (.int .i64) L.encA (Yi (fun x=>x.ls.no) (fun x=>x.ls) 3 (xs.take k)))]=loc'∧k≤n∧Yp 3 1 v q (((Yi (fun x=>x.ls.no) (fun x=>x.ls) 3 (xs.take k)).map (·.1)).flatMap Yk) Lw∧q=(Yi (fun x=>x.ls.no) (fun x=>x.ls) 3 (xs.take k)).length) ?_ (h:=⟨0,_,0,[],rfl,rfl,rfl,rfl,Nat.zero_le _,Yp.nil,rfl⟩)
 rintro mz E I' loc' ⟨k,v,q,Lw,rfl,rfl,rfl,rfl,hk,hO,hq⟩
 refine zR (zC (zN (Qq ?_)))
 refine zI ?_ ?_<;>intro hc24
 ·
  have hlt_k:k<n:=by have h:=hc24;simp at h;omega
  obtain ⟨x,hx⟩:∃ y,xs[k]? =some y:=⟨_,List.getElem?_eq_getElem (by omega)⟩
  have hml:(Yi (fun x=>x.ls.no) (fun x=>x.ls) 3 (xs.take k)).length≤k:=Nat.le_trans VK (List.length_take_le ..)
  refine Qw (Qc (Qq (QD (zR ?_))))
  refine zV (QV rfl rfl Zu hP.sl (fun hg=>by omega)) ?_
  refine zV (Qg rfl Zr (fun hg=>by exact zxe hP.sl hx) rfl) ?_
  refine Qt Wj rfl rfl (fun b_12=>?_)
  refine zh VX ?_
  refine zN (zR ?_)
  refine zM ?_
  refine zV (Qg rfl Zr (fun hg=>by exact Cells.g0) rfl) ?_
  refine qcV (vs:=[_]) rfl zuw (zrK _ x) ?_
  refine zM ?_
  refine zE ?_
  refine zE ?_
  refine Qt zeM rfl rfl (fun b_13=>?_)
  refine zh zan ?_
  refine zA (zN (Qq ?_))
  rcases hget:ZS (Yi (fun x=>x.ls.no) (fun x=>x.ls) 3 (xs.take k)) (x.ls.no) with _ | y0
  ·
   refine Qk (zM ?_)
   refine zM ?_
   refine zV (Z9 (ek:=Value.int .i64) (ev:=L.encA) zcP Zj rfl rfl (fun _=>(by (repeat (first | exact Mem.m0 | apply Mem.there | apply Mem.app))))) ?_
   rw [hget]
   refine zM ?_
   refine zE ?_
   refine zE ?_
   refine Qt zeM rfl rfl (fun b_15=>?_)
   refine zh zan ?_
   refine zA ?_
   refine zN (zR ?_)
   refine zF Vl ?_
   refine zL QA ?_
   refine zM ?_
   refine zC ?_
   refine zM ?_
   refine QL 4 rfl rfl rfl ?_
   refine zK (Qh rfl) ?_
   refine zK (Yz rfl) ?_
   refine QW rfl rfl rfl rfl rfl ?_
   refine zN ?_
   refine zI ?_ ?_<;>intro hc46
   ·
    have hkd:(x.kind==3)=true:=by simpa using hc46
    refine zR (zM ?_)
    refine zM ?_
    refine zV (Qg rfl JZ (fun hg=>by exact Cells.g1) rfl) ?_
    refine ZU (ek:=Value.int .i64) (ev:=L.encA) (x.ls) zcP Zj rfl rfl rfl rfl (by (repeat (first | exact Upd.here | apply Upd.there | apply Qx))) ?_
    refine zN (Qk (zM ?_))
    refine zM ?_
    refine Ql (ps:=[(0,_)]) (m:=[Yk (x.ls.no)]) Y9 rfl (.cons rfl (.nil)) rfl (by simp [Q4,L.encL_len,Zx]) (by decide) (by decide) rfl rfl (fun b_52=>?_)
    refine QX (v:=_) (ys:=[x.ls.no].flatMap Yk) (L:=Lw) rfl rfl Y9 hO (by repeat (first | exact .cons .here .nil | exact Qu | exact Qr | apply Qp | apply Qo)) ⟨rfl,fun _=>rfl,by repeat (first | exact zxb | apply zxa | apply zxc)⟩ (zbh [x.ls.no]) (by omega) rfl rfl ?_
    intro v9 L9 hO9 _;rw [←List.flatMap_append] at hO9
    refine zA (Qb (Qn (Qc (Qk ?_))))
    refine zB ?_
    refine zM (Qb ?_)
    exact Zt _ (L9++[(r_20,YD (.int .i64) L.encA (JJ (Yi (fun x=>x.ls.no) (fun x=>x.ls) 3 (xs.take k)) (x.ls.no) (x.ls)))]) ⟨n-(k+1),by omega,k+1,_,_,_,rfl,rfl,rfl,by rw [Zp hx,zag hget hkd],by omega,by rw [Zp hx,Jk hget hkd];exact hO9,by rw [Zp hx,←List.length_map (f:=fun p=>p.1),Jk hget hkd,List.length_append,List.length_map];simp;omega⟩ (.cons rfl (.cons rfl (.cons rfl (.cons rfl (.cons rfl (.cons rfl (.cons rfl (.cons rfl (.cons rfl .nil))))))))) (by repeat (first | exact .refl | exact QN | refine Zf ?_ | refine .drop ?_ | refine Qf ?_))
   have hkd:(x.kind==3)=false:=by simpa using hc46
   have hsame:U5 (fun x=>x.ls.no) (fun x=>x.ls) 3 (Yi (fun x=>x.ls.no) (fun x=>x.ls) 3 (xs.take k)) x=(Yi (fun x=>x.ls.no) (fun x=>x.ls) 3 (xs.take k)):=zcO hkd
   refine Qw (Qn (Qc (Qk (zB ?_))))
   refine zM (Qb ?_)
   exact Zt _ (Lw++[(r_20,YD (.int .i64) L.encA (Yi (fun x=>x.ls.no) (fun x=>x.ls) 3 (xs.take k)))]) ⟨n-(k+1),by omega,k+1,_,_,_,rfl,rfl,rfl,by rw [Zp hx,hsame],by omega,by rw [Zp hx,hsame];exact hO,by rw [Zp hx,hsame];exact hq⟩ (.cons rfl (.cons rfl (.cons rfl (.cons rfl (.cons rfl (.cons rfl (.cons rfl (.cons rfl (.cons rfl .nil))))))))) (by repeat (first | exact .refl | exact QN | refine Zf ?_ | refine .drop ?_ | refine Qf ?_))
  refine Qk (zM ?_)
  refine zM ?_
  refine zV (Z9 (ek:=Value.int .i64) (ev:=L.encA) zcP Zj rfl rfl (fun _=>(by (repeat (first | exact Mem.m0 | apply Mem.there | apply Mem.app))))) ?_
  rw [hget]
  refine zM ?_
  refine zE ?_
  refine zE ?_
  refine Qt zeM rfl rfl (fun b_15=>?_)
  refine zh zan ?_
  refine zA ?_
  refine zN (zR ?_)
  refine zF Vl ?_
  refine zL QA ?_
  refine zM ?_
  refine zC ?_
  refine zM ?_
  refine QL 4 rfl rfl rfl ?_
  refine zK (Qh rfl) ?_
  refine zK (Yz rfl) ?_
  refine QW rfl rfl rfl rfl rfl ?_
  refine zN ?_
  refine zI ?_ ?_<;>intro hc46
  ·
   simp at hc46
  have hsame:U5 (fun x=>x.ls.no) (fun x=>x.ls) 3 (Yi (fun x=>x.ls.no) (fun x=>x.ls) 3 (xs.take k)) x=(Yi (fun x=>x.ls.no) (fun x=>x.ls) 3 (xs.take k)):=X6 hget
  refine Qw (Qn (Qc (Qk (zB ?_))))
  refine zM (Qb ?_)
  exact Zt _ (Lw++[(r_20,YD (.int .i64) L.encA (Yi (fun x=>x.ls.no) (fun x=>x.ls) 3 (xs.take k)))]) ⟨n-(k+1),by omega,k+1,_,_,_,rfl,rfl,rfl,by rw [Zp hx,hsame],by omega,by rw [Zp hx,hsame];exact hO,by rw [Zp hx,hsame];exact hq⟩ (.cons rfl (.cons rfl (.cons rfl (.cons rfl (.cons rfl (.cons rfl (.cons rfl (.cons rfl (.cons rfl .nil))))))))) (by repeat (first | exact .refl | exact QN | refine Zf ?_ | refine .drop ?_ | refine Qf ?_))
 have hge_k:n≤k:=by have h:=hc24;simp at h;omega
 have hml:=VK (num:=(fun x=>x.ls.no)) (prt:=(fun x=>x.ls)) (kind:=3) (xs:=xs)
 have hke:xs.take k=xs:=Yl hln hge_k
 rw [hke] at hO hq ⊢
 refine Zy (Qs (Qs (QB (Qc (zR (zM ?_))))))
 refine QE (cap:=[]) (vs:=[_]) rfl rfl zaQ Qr (zgi 3 ((Yi (fun x=>x.ls.no) (fun x=>x.ls) 3 xs).map (·.1)) (by rw [←Ka];exact hO) (by omega) _) rfl rfl ?_
 rintro vv2 I2 L2 hI2 ⟨rfl,rfl,hO2⟩
 have hIc:=hIc.trans hI2
 rw [←Ka] at hO2
 refine zN (Qq (Qq ?_))
 refine Zw hO2 Zx (by decide) (by repeat (first | exact .cons .here .nil | exact Qu | exact Qr | apply Qp | apply Qo)) (fun I3 hI3 af3 cf3 ef3 hNs=>?_)
 subst ef3
 have hIc:=hIc.trans hI3
 obtain ⟨ns,hnsd⟩:∃ y,y=Xd ((Yi (fun x=>x.ls.no) (fun x=>x.ls) 3 xs).map (·.1)):=⟨_,rfl⟩
 rw [←hnsd] at hNs
 have hnl:=hNs.len
 have hml:=VK (num:=(fun x=>x.ls.no)) (prt:=(fun x=>x.ls)) (kind:=3) (xs:=xs)
 refine Qk (zM ?_)
 refine zQ Yo ?_
 refine zM (zN (QD ?_))
 refine zU [(3,_),(9,_),(57,_),(58,_)] (fun T L0 mz E I' loc'=>∃ (j:Nat) (a9:Option Addr) (n9:Nat) (c9:Nat),mz=q-j∧E=(8,.slice a9 n9 c9)::(59,.int .i64 j)::T∧HLe I3 I'∧[(r_20,YD (.int .i64) L.encA (Yi (fun x=>x.ls.no) (fun x=>x.ls) 3 xs))]=loc'∧j≤q∧Sl I' 5 L.encL a9 n9 c9 (zfK L.chk L.zeroL (Yi (fun x=>x.ls.no) (fun x=>x.ls) 3 xs) (ns.take j))∧n9≤j) ?_ (h:=⟨0,none,0,0,rfl,rfl,zxd _,rfl,Nat.zero_le _,Sl.nil,Nat.le_refl _⟩)
 rintro mz E J4 loc' ⟨j,a9,n9,c9,rfl,rfl,hJ,rfl,hj,hY,hn9⟩
 have hNs:=hNs.mono hJ;have hIc:=hIc.trans hJ
 have hB2:=hJ
 refine zR (zC (zN (Qq ?_)))
 refine zI ?_ ?_<;>intro hc60
 ·
  have hlt_j:j<q:=by have h:=hc60;simp at h;omega
  obtain ⟨m9,hn⟩:∃ y,ns[j]? =some y:=⟨_,List.getElem?_eq_getElem (by omega)⟩
  refine Qw (Qc (Qq (QD (zR ?_))))
  refine zV (zX Yo hNs) ?_
  refine zV (Qd rfl QA (fun hg=>by exact zw6 hNs hn rfl)) ?_
  refine zA (zN ?_)
  refine zY [(3,_),(8,_),(9,_),(57,_),(58,_),(59,_)] (fun T L0 E I' loc'=>∃ (a2:Option Addr) (c2:Nat),E=(19,.slice a2 (n9+1) c2)::T∧HLe J4 I'∧[(r_20,YD (.int .i64) L.encA (Yi (fun x=>x.ls.no) (fun x=>x.ls) 3 xs))]=loc'∧Sl I' 5 L.encL a2 (n9+1) c2 ((zfK L.chk L.zeroL (Yi (fun x=>x.ls.no) (fun x=>x.ls) 3 xs) (ns.take j))++[(ZS (Yi (fun x=>x.ls.no) (fun x=>x.ls) 3 xs) m9).getD L.zeroL])) ?_ ?_
  ·
   have hKc16:=zxd J4
   have hD:=zxd J4
   refine ZL ?_
   refine Q0 J4 [(r_20,YD (.int .i64) L.encA (Yi (fun x=>x.ls.no) (fun x=>x.ls) 3 xs))] mixed ?_
   refine zT 0 rfl (Qh rfl) hD ?_
   refine zT 2 rfl (Qh rfl) hD ?_
   refine zT 3 rfl (Qh rfl) hD ?_
   refine zT 4 rfl (Uo (ek:=Value.int .i64) (ev:=L.encA) L.zeroL zcP Zj rfl rfl (fun _=>(by exact Mem.m0))) hD ?_
   obtain ⟨y,hydef⟩:∃ y,y=(ZS (Yi (fun x=>x.ls.no) (fun x=>x.ls) 3 xs) m9).getD L.zeroL:=⟨_,rfl⟩
   rw [←hydef]
   refine Q8 1 5 rfl rfl (by kernel_rfl) ?_ ?_
   ·
    refine qcV (vs:=[_]) rfl ziN (zlt _ _ _ _ hY.cap) ?_
    refine Qb ?_
    refine zD hD ?_
    refine qd 5 rfl ?_
    refine Ql (ps:=[(0,_)]) (m:=[L.encL y]) zdV rfl (.cons rfl (.nil)) rfl (by simp [Q4,L.encL_len,Zx]) (by decide) (by decide) rfl rfl (fun b_68=>?_)
    refine Qb ?_
    refine zD hD ?_
    refine qd 6 rfl ?_
    refine Q2 (ys:=[y].flatMap L.encL) L.encL_len rfl rfl zdV hY.cut ⟨rfl,fun _=>rfl,by repeat (first | exact zxb | apply zxa)⟩ (by decide) (by omega) rfl rfl ?_
    intro v1 L1 hO1
    rw [←List.flatMap_append] at hO1
    refine YM hO1 L.encL_len (by decide) (by repeat (first | exact .cons .here .nil | exact Qu | exact Qr | apply Qp | apply Qo)) (fun I5 hI5 af5 cf5 ef5 hZ=>?_)
    subst ef5
    have hKc16:=hKc16.trans hI5;have hD:=hD.trans hI5
    refine Qb ?_
    refine zD hD ?_
    refine zT 7 rfl (QC rfl) hD ?_
    refine Qm (by kernel_rfl) ?_
    refine Qy ?_
    exact zm (h:=⟨_,_,rfl,hKc16,rfl,by exact hZ⟩)
   refine Ql (ps:=[(0,_)]) (m:=[L.encL y]) zdV rfl (.cons rfl (.nil)) rfl (by simp [Q4,L.encL_len,Zx]) (by decide) (by decide) rfl rfl (fun b_68=>?_)
   refine Qb ?_
   refine zD hD ?_
   refine qd 1 rfl ?_
   refine qcV (vs:=[_]) rfl ziN (zlt _ _ _ _ hY.cap) ?_
   refine Qb ?_
   refine zD hD ?_
   refine qd 6 rfl ?_
   refine Q2 (ys:=[y].flatMap L.encL) L.encL_len rfl rfl zdV hY.cut ⟨rfl,fun _=>rfl,by repeat (first | exact zxb | apply zxa)⟩ (by decide) (by omega) rfl rfl ?_
   intro v1 L1 hO1
   rw [←List.flatMap_append] at hO1
   refine YM hO1 L.encL_len (by decide) (by repeat (first | exact .cons .here .nil | exact Qu | exact Qr | apply Qp | apply Qo)) (fun I6 hI6 af6 cf6 ef6 hZ=>?_)
   subst ef6
   have hKc16:=hKc16.trans hI6;have hD:=hD.trans hI6
   refine Qb ?_
   refine zD hD ?_
   refine zT 7 rfl (QC rfl) hD ?_
   refine Qm (by kernel_rfl) ?_
   refine Qy ?_
   exact zm (h:=⟨_,_,rfl,hKc16,rfl,by exact hZ⟩)
  rintro E J7 loc' ⟨a2,c2,rfl,hJ16,rfl,hZ⟩
  have hY:=hY.mono hJ16;have hB2:=hB2.trans hJ16
  refine zR (zM ?_)
  refine zM ?_
  refine qcV (vs:=[_]) rfl zoQ (L.w_check hZ (by omega)) ?_
  refine zC (zN ?_)
  refine zI ?_ ?_<;>intro hc73
  ·
   refine Qk (zM ?_)
   refine zA (Qb (Qn (Qc (Qk ?_))))
   refine zB ?_
   refine zM (Qb ?_)
   first
   | exact zm (h:=⟨q-(j+1),by omega,j+1,_,_,_,rfl,rfl,hB2,rfl,by omega,by rw [Js hn,zcH,if_pos hc73];exact hZ,by omega⟩)
  refine Qw (Qn (Qc (Qk (zB ?_))))
  refine zM (Qb ?_)
  first
  | exact zm (h:=⟨q-(j+1),by omega,j+1,_,_,_,rfl,rfl,hB2,rfl,by omega,by rw [Js hn,zcH,if_neg (by rw [hc73];simp)];exact hY,by omega⟩)
 have hge_j:q≤j:=by have h:=hc60;simp at h;omega
 have hke2:ns.take j=ns:=Yl hnl hge_j
 rw [hke2] at hY
 refine Zy (Qs (Qs (QB (Qc (zR (zM ?_))))))
 refine zA (zN (QF ?_))
 exact QP rfl rfl (fun w hw=>⟨_,J4,[],rfl,hIc,by exact hw.drop,rfl,_,_,_,rfl,by rw [zaq,←hnsd];exact hY⟩)
theorem znk {I:Qv}{av:Option Addr}{n c:Nat}{xs:List Nt}(hP:K9 I av n c xs)(hn0:n≤4096):Vi Tryz.prog 70 [.slice av n c,.int .i64 2,.func (.func 71) #[] #[],.func (.func 39) #[] #[]] I [] (fun v I' L'=>L'=[]∧∃ a n c,v= .slice a n c∧Sl I' 19 W5 a n c (zaq (fun x=>x.pt.id) (fun x=>x.pt) 2 X4 Jv xs)):=by
 intro g H w hw
 refine qe Tryz.func70 Tryz.ntmps70 hw ?_
 have hIc:=zxd I
 have hln:=hP.sl.len
 refine zR (zA ?_)
 refine zN (zR ?_)
 refine Yh rfl rfl (fun r_20=>?_)
 refine (show XO _ _ _ _ _ _ _ ((r_20,YD (.int .i64) KW ([]:List (Int×Pt)))::_) from ?_)
 refine zA ?_
 refine zN (zR ?_)
 refine zA (zN (Qq (zR ?_)))
 refine zM ?_
 refine zQ Zu ?_
 refine zM (zN (QD ?_))
 refine zU [(1,_),(2,_),(3,_),(8,_),(9,_),(21,_),(22,_)] (fun T L0 mz E I' loc'=>∃ (k:Nat) (v:Value) (q:Nat) (Lw:Go.Kn.Loc),mz=n-k∧E=(10,v)::(23,.int .i64 k)::T∧I=I'∧Lw++[(r_20,YD (.int .i64) KW (Yi (fun x=>x.pt.id) (fun x=>x.pt) 2 (xs.take k)))]=loc'∧k≤n∧Yp 3 1 v q (((Yi (fun x=>x.pt.id) (fun x=>x.pt) 2 (xs.take k)).map (·.1)).flatMap Yk) Lw∧q=(Yi (fun x=>x.pt.id) (fun x=>x.pt) 2 (xs.take k)).length) ?_ (h:=⟨0,_,0,[],rfl,rfl,rfl,rfl,Nat.zero_le _,Yp.nil,rfl⟩)
 rintro mz E I' loc' ⟨k,v,q,Lw,rfl,rfl,rfl,rfl,hk,hO,hq⟩
 refine zR (zC (zN (Qq ?_)))
 refine zI ?_ ?_<;>intro hc24
 ·
  have hlt_k:k<n:=by have h:=hc24;simp at h;omega
  obtain ⟨x,hx⟩:∃ y,xs[k]? =some y:=⟨_,List.getElem?_eq_getElem (by omega)⟩
  have hml:(Yi (fun x=>x.pt.id) (fun x=>x.pt) 2 (xs.take k)).length≤k:=Nat.le_trans VK (List.length_take_le ..)
  refine Qw (Qc (Qq (QD (zR ?_))))
  refine zV (QV rfl rfl Zu hP.sl (fun hg=>by omega)) ?_
  refine zV (Qg rfl Zr (fun hg=>by exact zxe hP.sl hx) rfl) ?_
  refine Qt Wj rfl rfl (fun b_12=>?_)
  refine zh VX ?_
  refine zN (zR ?_)
  refine zM ?_
  refine zV (Qg rfl Zr (fun hg=>by exact Cells.g0) rfl) ?_
  refine qcV (vs:=[_]) rfl zvc (zpm _ x) ?_
  refine zM ?_
  refine zE ?_
  refine zE ?_
  refine Qt zaL rfl rfl (fun b_13=>?_)
  refine zh Uk ?_
  refine zA (zN (Qq ?_))
  rcases hget:ZS (Yi (fun x=>x.pt.id) (fun x=>x.pt) 2 (xs.take k)) (x.pt.id) with _ | y0
  ·
   refine Qk (zM ?_)
   refine zM ?_
   refine zV (Z9 (ek:=Value.int .i64) (ev:=KW) zca Zj rfl rfl (fun _=>(by (repeat (first | exact Mem.m0 | apply Mem.there | apply Mem.app))))) ?_
   rw [hget]
   refine zM ?_
   refine zE ?_
   refine zE ?_
   refine Qt zaL rfl rfl (fun b_15=>?_)
   refine zh Uk ?_
   refine zA ?_
   refine zN (zR ?_)
   refine zF Vl ?_
   refine zL QA ?_
   refine zM ?_
   refine zC ?_
   refine zM ?_
   refine QL 4 rfl rfl rfl ?_
   refine zK (Qh rfl) ?_
   refine zK (Yz rfl) ?_
   refine QW rfl rfl rfl rfl rfl ?_
   refine zN ?_
   refine zI ?_ ?_<;>intro hc46
   ·
    have hkd:(x.kind==2)=true:=by simpa using hc46
    refine zR (zM ?_)
    refine zM ?_
    refine zV (Qg rfl JA (fun hg=>by exact Cells.g1) rfl) ?_
    refine ZU (ek:=Value.int .i64) (ev:=KW) (x.pt) zca Zj rfl rfl rfl rfl (by (repeat (first | exact Upd.here | apply Upd.there | apply Qx))) ?_
    refine zN (Qk (zM ?_))
    refine zM ?_
    refine Ql (ps:=[(0,_)]) (m:=[Yk (x.pt.id)]) Y9 rfl (.cons rfl (.nil)) rfl (by simp [Q4,Kf,Zx]) (by decide) (by decide) rfl rfl (fun b_52=>?_)
    refine QX (v:=_) (ys:=[x.pt.id].flatMap Yk) (L:=Lw) rfl rfl Y9 hO (by repeat (first | exact .cons .here .nil | exact Qu | exact Qr | apply Qp | apply Qo)) ⟨rfl,fun _=>rfl,by repeat (first | exact zxb | apply zxa | apply zxc)⟩ (zbh [x.pt.id]) (by omega) rfl rfl ?_
    intro v9 L9 hO9 _;rw [←List.flatMap_append] at hO9
    refine zA (Qb (Qn (Qc (Qk ?_))))
    refine zB ?_
    refine zM (Qb ?_)
    exact Zt _ (L9++[(r_20,YD (.int .i64) KW (JJ (Yi (fun x=>x.pt.id) (fun x=>x.pt) 2 (xs.take k)) (x.pt.id) (x.pt)))]) ⟨n-(k+1),by omega,k+1,_,_,_,rfl,rfl,rfl,by rw [Zp hx,zag hget hkd],by omega,by rw [Zp hx,Jk hget hkd];exact hO9,by rw [Zp hx,←List.length_map (f:=fun p=>p.1),Jk hget hkd,List.length_append,List.length_map];simp;omega⟩ (.cons rfl (.cons rfl (.cons rfl (.cons rfl (.cons rfl (.cons rfl (.cons rfl (.cons rfl (.cons rfl .nil))))))))) (by repeat (first | exact .refl | exact QN | refine Zf ?_ | refine .drop ?_ | refine Qf ?_))
   have hkd:(x.kind==2)=false:=by simpa using hc46
   have hsame:U5 (fun x=>x.pt.id) (fun x=>x.pt) 2 (Yi (fun x=>x.pt.id) (fun x=>x.pt) 2 (xs.take k)) x=(Yi (fun x=>x.pt.id) (fun x=>x.pt) 2 (xs.take k)):=zcO hkd
   refine Qw (Qn (Qc (Qk (zB ?_))))
   refine zM (Qb ?_)
   exact Zt _ (Lw++[(r_20,YD (.int .i64) KW (Yi (fun x=>x.pt.id) (fun x=>x.pt) 2 (xs.take k)))]) ⟨n-(k+1),by omega,k+1,_,_,_,rfl,rfl,rfl,by rw [Zp hx,hsame],by omega,by rw [Zp hx,hsame];exact hO,by rw [Zp hx,hsame];exact hq⟩ (.cons rfl (.cons rfl (.cons rfl (.cons rfl (.cons rfl (.cons rfl (.cons rfl (.cons rfl (.cons rfl .nil))))))))) (by repeat (first | exact .refl | exact QN | refine Zf ?_ | refine .drop ?_ | refine Qf ?_))
  refine Qk (zM ?_)
  refine zM ?_
  refine zV (Z9 (ek:=Value.int .i64) (ev:=KW) zca Zj rfl rfl (fun _=>(by (repeat (first | exact Mem.m0 | apply Mem.there | apply Mem.app))))) ?_
  rw [hget]
  refine zM ?_
  refine zE ?_
  refine zE ?_
  refine Qt zaL rfl rfl (fun b_15=>?_)
  refine zh Uk ?_
  refine zA ?_
  refine zN (zR ?_)
  refine zF Vl ?_
  refine zL QA ?_
  refine zM ?_
  refine zC ?_
  refine zM ?_
  refine QL 4 rfl rfl rfl ?_
  refine zK (Qh rfl) ?_
  refine zK (Yz rfl) ?_
  refine QW rfl rfl rfl rfl rfl ?_
  refine zN ?_
  refine zI ?_ ?_<;>intro hc46
  ·
   simp at hc46
  have hsame:U5 (fun x=>x.pt.id) (fun x=>x.pt) 2 (Yi (fun x=>x.pt.id) (fun x=>x.pt) 2 (xs.take k)) x=(Yi (fun x=>x.pt.id) (fun x=>x.pt) 2 (xs.take k)):=X6 hget
  refine Qw (Qn (Qc (Qk (zB ?_))))
  refine zM (Qb ?_)
  exact Zt _ (Lw++[(r_20,YD (.int .i64) KW (Yi (fun x=>x.pt.id) (fun x=>x.pt) 2 (xs.take k)))]) ⟨n-(k+1),by omega,k+1,_,_,_,rfl,rfl,rfl,by rw [Zp hx,hsame],by omega,by rw [Zp hx,hsame];exact hO,by rw [Zp hx,hsame];exact hq⟩ (.cons rfl (.cons rfl (.cons rfl (.cons rfl (.cons rfl (.cons rfl (.cons rfl (.cons rfl (.cons rfl .nil))))))))) (by repeat (first | exact .refl | exact QN | refine Zf ?_ | refine .drop ?_ | refine Qf ?_))
 have hge_k:n≤k:=by have h:=hc24;simp at h;omega
 have hml:=VK (num:=(fun x=>x.pt.id)) (prt:=(fun x=>x.pt)) (kind:=2) (xs:=xs)
 have hke:xs.take k=xs:=Yl hln hge_k
 rw [hke] at hO hq ⊢
 refine Zy (Qs (Qs (QB (Qc (zR (zM ?_))))))
 refine QE (cap:=[]) (vs:=[_]) rfl rfl zaQ Qr (zgi 3 ((Yi (fun x=>x.pt.id) (fun x=>x.pt) 2 xs).map (·.1)) (by rw [←Ka];exact hO) (by omega) _) rfl rfl ?_
 rintro vv2 I2 L2 hI2 ⟨rfl,rfl,hO2⟩
 have hP:=hP.mono hI2;have hIc:=hIc.trans hI2
 rw [←Ka] at hO2
 refine zN (Qq (Qq ?_))
 refine Zw hO2 Zx (by decide) (by repeat (first | exact .cons .here .nil | exact Qu | exact Qr | apply Qp | apply Qo)) (fun I3 hI3 af3 cf3 ef3 hNs=>?_)
 subst ef3
 have hP:=hP.mono hI3;have hIc:=hIc.trans hI3
 obtain ⟨ns,hnsd⟩:∃ y,y=Xd ((Yi (fun x=>x.pt.id) (fun x=>x.pt) 2 xs).map (·.1)):=⟨_,rfl⟩
 rw [←hnsd] at hNs
 have hnl:=hNs.len
 have hml:=VK (num:=(fun x=>x.pt.id)) (prt:=(fun x=>x.pt)) (kind:=2) (xs:=xs)
 refine Qk (zM ?_)
 refine zQ Yo ?_
 refine zM (zN (QD ?_))
 refine zU [(3,_),(9,_),(57,_),(58,_)] (fun T L0 mz E I' loc'=>∃ (j:Nat) (a9:Option Addr) (n9:Nat) (c9:Nat),mz=q-j∧E=(8,.slice a9 n9 c9)::(59,.int .i64 j)::T∧HLe I3 I'∧[(r_20,YD (.int .i64) KW (Yi (fun x=>x.pt.id) (fun x=>x.pt) 2 xs))]=loc'∧j≤q∧Sl I' 19 W5 a9 n9 c9 (zfK X4 Jv (Yi (fun x=>x.pt.id) (fun x=>x.pt) 2 xs) (ns.take j))∧n9≤j) ?_ (h:=⟨0,none,0,0,rfl,rfl,zxd _,rfl,Nat.zero_le _,Sl.nil,Nat.le_refl _⟩)
 rintro mz E J4 loc' ⟨j,a9,n9,c9,rfl,rfl,hJ,rfl,hj,hY,hn9⟩
 have hP:=hP.mono hJ;have hNs:=hNs.mono hJ;have hIc:=hIc.trans hJ
 have hB2:=hJ
 refine zR (zC (zN (Qq ?_)))
 refine zI ?_ ?_<;>intro hc60
 ·
  have hlt_j:j<q:=by have h:=hc60;simp at h;omega
  obtain ⟨m9,hn⟩:∃ y,ns[j]? =some y:=⟨_,List.getElem?_eq_getElem (by omega)⟩
  refine Qw (Qc (Qq (QD (zR ?_))))
  refine zV (zX Yo hNs) ?_
  refine zV (Qd rfl QA (fun hg=>by exact zw6 hNs hn rfl)) ?_
  refine zA (zN ?_)
  refine zY [(3,_),(8,_),(9,_),(57,_),(58,_),(59,_)] (fun T L0 E I' loc'=>∃ (a2:Option Addr) (c2:Nat),E=(19,.slice a2 (n9+1) c2)::T∧HLe J4 I'∧[(r_20,YD (.int .i64) KW (Yi (fun x=>x.pt.id) (fun x=>x.pt) 2 xs))]=loc'∧Sl I' 19 W5 a2 (n9+1) c2 ((zfK X4 Jv (Yi (fun x=>x.pt.id) (fun x=>x.pt) 2 xs) (ns.take j))++[(ZS (Yi (fun x=>x.pt.id) (fun x=>x.pt) 2 xs) m9).getD Jv])) ?_ ?_
  ·
   have hKc16:=zxd J4
   have hD:=zxd J4
   refine ZL ?_
   refine Q0 J4 [(r_20,YD (.int .i64) KW (Yi (fun x=>x.pt.id) (fun x=>x.pt) 2 xs))] mixed ?_
   refine zT 0 rfl (Qh rfl) hD ?_
   refine zT 2 rfl (Qh rfl) hD ?_
   refine zT 3 rfl (Qh rfl) hD ?_
   refine zT 4 rfl (Uo (ek:=Value.int .i64) (ev:=KW) Jv zca Zj rfl rfl (fun _=>(by exact Mem.m0))) hD ?_
   obtain ⟨y,hydef⟩:∃ y,y=(ZS (Yi (fun x=>x.pt.id) (fun x=>x.pt) 2 xs) m9).getD Jv:=⟨_,rfl⟩
   rw [←hydef]
   refine Q8 1 5 rfl rfl (by kernel_rfl) ?_ ?_
   ·
    refine qcV (vs:=[_]) rfl zlH (zlk _ _ _ _ hY.cap) ?_
    refine Qb ?_
    refine zD hD ?_
    refine qd 5 rfl ?_
    refine Ql (ps:=[(0,_)]) (m:=[W5 y]) zfV rfl (.cons rfl (.nil)) rfl (by simp [Q4,Kf,Zx]) (by decide) (by decide) rfl rfl (fun b_68=>?_)
    refine Qb ?_
    refine zD hD ?_
    refine qd 6 rfl ?_
    refine Q2 (ys:=[y].flatMap W5) Kf rfl rfl zfV hY.cut ⟨rfl,fun _=>rfl,by repeat (first | exact zxb | apply zxa)⟩ (by decide) (by omega) rfl rfl ?_
    intro v1 L1 hO1
    rw [←List.flatMap_append] at hO1
    refine YM hO1 Kf (by decide) (by repeat (first | exact .cons .here .nil | exact Qu | exact Qr | apply Qp | apply Qo)) (fun I5 hI5 af5 cf5 ef5 hZ=>?_)
    subst ef5
    have hKc16:=hKc16.trans hI5;have hD:=hD.trans hI5
    refine Qb ?_
    refine zD hD ?_
    refine zT 7 rfl (QC rfl) hD ?_
    refine Qm (by kernel_rfl) ?_
    refine Qy ?_
    exact zm (h:=⟨_,_,rfl,hKc16,rfl,by exact hZ⟩)
   refine Ql (ps:=[(0,_)]) (m:=[W5 y]) zfV rfl (.cons rfl (.nil)) rfl (by simp [Q4,Kf,Zx]) (by decide) (by decide) rfl rfl (fun b_68=>?_)
   refine Qb ?_
   refine zD hD ?_
   refine qd 1 rfl ?_
   refine qcV (vs:=[_]) rfl zlH (zlk _ _ _ _ hY.cap) ?_
   refine Qb ?_
   refine zD hD ?_
   refine qd 6 rfl ?_
   refine Q2 (ys:=[y].flatMap W5) Kf rfl rfl zfV hY.cut ⟨rfl,fun _=>rfl,by repeat (first | exact zxb | apply zxa)⟩ (by decide) (by omega) rfl rfl ?_
   intro v1 L1 hO1
   rw [←List.flatMap_append] at hO1
   refine YM hO1 Kf (by decide) (by repeat (first | exact .cons .here .nil | exact Qu | exact Qr | apply Qp | apply Qo)) (fun I6 hI6 af6 cf6 ef6 hZ=>?_)
   subst ef6
   have hKc16:=hKc16.trans hI6;have hD:=hD.trans hI6
   refine Qb ?_
   refine zD hD ?_
   refine zT 7 rfl (QC rfl) hD ?_
   refine Qm (by kernel_rfl) ?_
   refine Qy ?_
   exact zm (h:=⟨_,_,rfl,hKc16,rfl,by exact hZ⟩)
  rintro E J7 loc' ⟨a2,c2,rfl,hJ16,rfl,hZ⟩
  have hP:=hP.mono hJ16;have hY:=hY.mono hJ16;have hB2:=hB2.trans hJ16
  refine Qq ?_
  have hNd9:∀ u∈(zfK X4 Jv (Yi (fun x=>x.pt.id) (fun x=>x.pt) 2 xs) (ns.take j))++[(ZS (Yi (fun x=>x.pt.id) (fun x=>x.pt) 2 xs) m9).getD Jv],Nd J7 u:=fun u hu=>(show u=Jv∨∃ w∈xs,u=w.pt from (List.mem_append.1 hu).elim (fun h=>zc7 u h) (fun h=>by rw [List.mem_singleton.1 h];exact zia)).elim (fun h=>by rw [h];exact Sl.nil) (fun ⟨w,hw2,h⟩=>by rw [h];exact hP.nd w hw2)
  refine Qk (zM ?_)
  refine zM ?_
  refine qcV (vs:=[_]) rfl ztk (ztA ⟨hZ,hNd9⟩ (by omega)) ?_
  refine zC (zN ?_)
  refine zI ?_ ?_<;>intro hc73
  ·
   refine Qk (zM ?_)
   refine zA (Qb (Qn (Qc (Qk ?_))))
   refine zB ?_
   refine zM (Qb ?_)
   first
   | exact zm (h:=⟨q-(j+1),by omega,j+1,_,_,_,rfl,rfl,hB2,rfl,by omega,by rw [Js hn,zcH,if_pos hc73];exact hZ,by omega⟩)
  refine Qw (Qn (Qc (Qk (zB ?_))))
  refine zM (Qb ?_)
  first
  | exact zm (h:=⟨q-(j+1),by omega,j+1,_,_,_,rfl,rfl,hB2,rfl,by omega,by rw [Js hn,zcH,if_neg (by rw [hc73];simp)];exact hY,by omega⟩)
 have hge_j:q≤j:=by have h:=hc60;simp at h;omega
 have hke2:ns.take j=ns:=Yl hnl hge_j
 rw [hke2] at hY
 refine Zy (Qs (Qs (QB (Qc (zR (zM ?_))))))
 refine zA (zN (QF ?_))
 exact QP rfl rfl (fun w hw=>⟨_,J4,[],rfl,hIc,by exact hw.drop,rfl,_,_,_,rfl,by rw [zaq,←hnsd];exact hY⟩)
theorem zmk {I:Qv}{av:Option Addr}{n c:Nat}{xs:List Nt}(hP:K9 I av n c xs)(hn0:n≤4096):Vi Tryz.prog 72 [.slice av n c,.int .i64 4,.func (.func 73) #[] #[],.func (.func 40) #[] #[]] I [] (fun v I' L'=>L'=[]∧∃ a n c,v= .slice a n c∧Sl I' 11 S.encR a n c (zaq (fun x=>x.rt.no) (fun x=>x.rt) 4 S.rCheck S.zeroR xs)):=by
 intro g H w hw
 refine qe Tryz.func72 Tryz.ntmps72 hw ?_
 have hIc:=zxd I
 have hln:=hP.sl.len
 refine zR (zA ?_)
 refine zN (zR ?_)
 refine Yh rfl rfl (fun r_20=>?_)
 refine (show XO _ _ _ _ _ _ _ ((r_20,YD (.int .i64) S.encA ([]:List (Int×S.Rt)))::_) from ?_)
 refine zA ?_
 refine zN (zR ?_)
 refine zA (zN (Qq (zR ?_)))
 refine zM ?_
 refine zQ Zu ?_
 refine zM (zN (QD ?_))
 refine zU [(1,_),(2,_),(3,_),(8,_),(9,_),(21,_),(22,_)] (fun T L0 mz E I' loc'=>∃ (k:Nat) (v:Value) (q:Nat) (Lw:Go.Kn.Loc),mz=n-k∧E=(10,v)::(23,.int .i64 k)::T∧I=I'∧Lw++[(r_20,YD (.int .i64) S.encA (Yi (fun x=>x.rt.no) (fun x=>x.rt) 4 (xs.take k)))]=loc'∧k≤n∧Yp 3 1 v q (((Yi (fun x=>x.rt.no) (fun x=>x.rt) 4 (xs.take k)).map (·.1)).flatMap Yk) Lw∧q=(Yi (fun x=>x.rt.no) (fun x=>x.rt) 4 (xs.take k)).length) ?_ (h:=⟨0,_,0,[],rfl,rfl,rfl,rfl,Nat.zero_le _,Yp.nil,rfl⟩)
 rintro mz E I' loc' ⟨k,v,q,Lw,rfl,rfl,rfl,rfl,hk,hO,hq⟩
 refine zR (zC (zN (Qq ?_)))
 refine zI ?_ ?_<;>intro hc24
 ·
  have hlt_k:k<n:=by have h:=hc24;simp at h;omega
  obtain ⟨x,hx⟩:∃ y,xs[k]? =some y:=⟨_,List.getElem?_eq_getElem (by omega)⟩
  have hml:(Yi (fun x=>x.rt.no) (fun x=>x.rt) 4 (xs.take k)).length≤k:=Nat.le_trans VK (List.length_take_le ..)
  refine Qw (Qc (Qq (QD (zR ?_))))
  refine zV (QV rfl rfl Zu hP.sl (fun hg=>by omega)) ?_
  refine zV (Qg rfl Zr (fun hg=>by exact zxe hP.sl hx) rfl) ?_
  refine Qt Wj rfl rfl (fun b_12=>?_)
  refine zh VX ?_
  refine zN (zR ?_)
  refine zM ?_
  refine zV (Qg rfl Zr (fun hg=>by exact Cells.g0) rfl) ?_
  refine qcV (vs:=[_]) rfl zuq (zqw _ x) ?_
  refine zM ?_
  refine zE ?_
  refine zE ?_
  refine Qt zbq rfl rfl (fun b_13=>?_)
  refine zh K8 ?_
  refine zA (zN (Qq ?_))
  rcases hget:ZS (Yi (fun x=>x.rt.no) (fun x=>x.rt) 4 (xs.take k)) (x.rt.no) with _ | y0
  ·
   refine Qk (zM ?_)
   refine zM ?_
   refine zV (Z9 (ek:=Value.int .i64) (ev:=S.encA) Ud Zj rfl rfl (fun _=>(by (repeat (first | exact Mem.m0 | apply Mem.there | apply Mem.app))))) ?_
   rw [hget]
   refine zM ?_
   refine zE ?_
   refine zE ?_
   refine Qt zbq rfl rfl (fun b_15=>?_)
   refine zh K8 ?_
   refine zA ?_
   refine zN (zR ?_)
   refine zF Vl ?_
   refine zL QA ?_
   refine zM ?_
   refine zC ?_
   refine zM ?_
   refine QL 4 rfl rfl rfl ?_
   refine zK (Qh rfl) ?_
   refine zK (Yz rfl) ?_
   refine QW rfl rfl rfl rfl rfl ?_
   refine zN ?_
   refine zI ?_ ?_<;>intro hc46
   ·
    have hkd:(x.kind==4)=true:=by simpa using hc46
    refine zR (zM ?_)
    refine zM ?_
    refine zV (Qg rfl Vn (fun hg=>by exact Cells.g1) rfl) ?_
    refine ZU (ek:=Value.int .i64) (ev:=S.encA) (x.rt) Ud Zj rfl rfl rfl rfl (by (repeat (first | exact Upd.here | apply Upd.there | apply Qx))) ?_
    refine zN (Qk (zM ?_))
    refine zM ?_
    refine Ql (ps:=[(0,_)]) (m:=[Yk (x.rt.no)]) Y9 rfl (.cons rfl (.nil)) rfl (by simp [Q4,S.encR_len,Zx]) (by decide) (by decide) rfl rfl (fun b_52=>?_)
    refine QX (v:=_) (ys:=[x.rt.no].flatMap Yk) (L:=Lw) rfl rfl Y9 hO (by repeat (first | exact .cons .here .nil | exact Qu | exact Qr | apply Qp | apply Qo)) ⟨rfl,fun _=>rfl,by repeat (first | exact zxb | apply zxa | apply zxc)⟩ (zbh [x.rt.no]) (by omega) rfl rfl ?_
    intro v9 L9 hO9 _;rw [←List.flatMap_append] at hO9
    refine zA (Qb (Qn (Qc (Qk ?_))))
    refine zB ?_
    refine zM (Qb ?_)
    exact Zt _ (L9++[(r_20,YD (.int .i64) S.encA (JJ (Yi (fun x=>x.rt.no) (fun x=>x.rt) 4 (xs.take k)) (x.rt.no) (x.rt)))]) ⟨n-(k+1),by omega,k+1,_,_,_,rfl,rfl,rfl,by rw [Zp hx,zag hget hkd],by omega,by rw [Zp hx,Jk hget hkd];exact hO9,by rw [Zp hx,←List.length_map (f:=fun p=>p.1),Jk hget hkd,List.length_append,List.length_map];simp;omega⟩ (.cons rfl (.cons rfl (.cons rfl (.cons rfl (.cons rfl (.cons rfl (.cons rfl (.cons rfl (.cons rfl .nil))))))))) (by repeat (first | exact .refl | exact QN | refine Zf ?_ | refine .drop ?_ | refine Qf ?_))
   have hkd:(x.kind==4)=false:=by simpa using hc46
   have hsame:U5 (fun x=>x.rt.no) (fun x=>x.rt) 4 (Yi (fun x=>x.rt.no) (fun x=>x.rt) 4 (xs.take k)) x=(Yi (fun x=>x.rt.no) (fun x=>x.rt) 4 (xs.take k)):=zcO hkd
   refine Qw (Qn (Qc (Qk (zB ?_))))
   refine zM (Qb ?_)
   exact Zt _ (Lw++[(r_20,YD (.int .i64) S.encA (Yi (fun x=>x.rt.no) (fun x=>x.rt) 4 (xs.take k)))]) ⟨n-(k+1),by omega,k+1,_,_,_,rfl,rfl,rfl,by rw [Zp hx,hsame],by omega,by rw [Zp hx,hsame];exact hO,by rw [Zp hx,hsame];exact hq⟩ (.cons rfl (.cons rfl (.cons rfl (.cons rfl (.cons rfl (.cons rfl (.cons rfl (.cons rfl (.cons rfl .nil))))))))) (by repeat (first | exact .refl | exact QN | refine Zf ?_ | refine .drop ?_ | refine Qf ?_))
  refine Qk (zM ?_)
  refine zM ?_
  refine zV (Z9 (ek:=Value.int .i64) (ev:=S.encA) Ud Zj rfl rfl (fun _=>(by (repeat (first | exact Mem.m0 | apply Mem.there | apply Mem.app))))) ?_
  rw [hget]
  refine zM ?_
  refine zE ?_
  refine zE ?_
  refine Qt zbq rfl rfl (fun b_15=>?_)
  refine zh K8 ?_
  refine zA ?_
  refine zN (zR ?_)
  refine zF Vl ?_
  refine zL QA ?_
  refine zM ?_
  refine zC ?_
  refine zM ?_
  refine QL 4 rfl rfl rfl ?_
  refine zK (Qh rfl) ?_
  refine zK (Yz rfl) ?_
  refine QW rfl rfl rfl rfl rfl ?_
  refine zN ?_
  refine zI ?_ ?_<;>intro hc46
  ·
   simp at hc46
  have hsame:U5 (fun x=>x.rt.no) (fun x=>x.rt) 4 (Yi (fun x=>x.rt.no) (fun x=>x.rt) 4 (xs.take k)) x=(Yi (fun x=>x.rt.no) (fun x=>x.rt) 4 (xs.take k)):=X6 hget
  refine Qw (Qn (Qc (Qk (zB ?_))))
  refine zM (Qb ?_)
  exact Zt _ (Lw++[(r_20,YD (.int .i64) S.encA (Yi (fun x=>x.rt.no) (fun x=>x.rt) 4 (xs.take k)))]) ⟨n-(k+1),by omega,k+1,_,_,_,rfl,rfl,rfl,by rw [Zp hx,hsame],by omega,by rw [Zp hx,hsame];exact hO,by rw [Zp hx,hsame];exact hq⟩ (.cons rfl (.cons rfl (.cons rfl (.cons rfl (.cons rfl (.cons rfl (.cons rfl (.cons rfl (.cons rfl .nil))))))))) (by repeat (first | exact .refl | exact QN | refine Zf ?_ | refine .drop ?_ | refine Qf ?_))
 have hge_k:n≤k:=by have h:=hc24;simp at h;omega
 have hml:=VK (num:=(fun x=>x.rt.no)) (prt:=(fun x=>x.rt)) (kind:=4) (xs:=xs)
 have hke:xs.take k=xs:=Yl hln hge_k
 rw [hke] at hO hq ⊢
 refine Zy (Qs (Qs (QB (Qc (zR (zM ?_))))))
 refine QE (cap:=[]) (vs:=[_]) rfl rfl zaQ Qr (zgi 3 ((Yi (fun x=>x.rt.no) (fun x=>x.rt) 4 xs).map (·.1)) (by rw [←Ka];exact hO) (by omega) _) rfl rfl ?_
 rintro vv2 I2 L2 hI2 ⟨rfl,rfl,hO2⟩
 have hIc:=hIc.trans hI2
 rw [←Ka] at hO2
 refine zN (Qq (Qq ?_))
 refine Zw hO2 Zx (by decide) (by repeat (first | exact .cons .here .nil | exact Qu | exact Qr | apply Qp | apply Qo)) (fun I3 hI3 af3 cf3 ef3 hNs=>?_)
 subst ef3
 have hIc:=hIc.trans hI3
 obtain ⟨ns,hnsd⟩:∃ y,y=Xd ((Yi (fun x=>x.rt.no) (fun x=>x.rt) 4 xs).map (·.1)):=⟨_,rfl⟩
 rw [←hnsd] at hNs
 have hnl:=hNs.len
 have hml:=VK (num:=(fun x=>x.rt.no)) (prt:=(fun x=>x.rt)) (kind:=4) (xs:=xs)
 refine Qk (zM ?_)
 refine zQ Yo ?_
 refine zM (zN (QD ?_))
 refine zU [(3,_),(9,_),(57,_),(58,_)] (fun T L0 mz E I' loc'=>∃ (j:Nat) (a9:Option Addr) (n9:Nat) (c9:Nat),mz=q-j∧E=(8,.slice a9 n9 c9)::(59,.int .i64 j)::T∧HLe I3 I'∧[(r_20,YD (.int .i64) S.encA (Yi (fun x=>x.rt.no) (fun x=>x.rt) 4 xs))]=loc'∧j≤q∧Sl I' 11 S.encR a9 n9 c9 (zfK S.rCheck S.zeroR (Yi (fun x=>x.rt.no) (fun x=>x.rt) 4 xs) (ns.take j))∧n9≤j) ?_ (h:=⟨0,none,0,0,rfl,rfl,zxd _,rfl,Nat.zero_le _,Sl.nil,Nat.le_refl _⟩)
 rintro mz E J4 loc' ⟨j,a9,n9,c9,rfl,rfl,hJ,rfl,hj,hY,hn9⟩
 have hNs:=hNs.mono hJ;have hIc:=hIc.trans hJ
 have hB2:=hJ
 refine zR (zC (zN (Qq ?_)))
 refine zI ?_ ?_<;>intro hc60
 ·
  have hlt_j:j<q:=by have h:=hc60;simp at h;omega
  obtain ⟨m9,hn⟩:∃ y,ns[j]? =some y:=⟨_,List.getElem?_eq_getElem (by omega)⟩
  refine Qw (Qc (Qq (QD (zR ?_))))
  refine zV (zX Yo hNs) ?_
  refine zV (Qd rfl QA (fun hg=>by exact zw6 hNs hn rfl)) ?_
  refine zA (zN ?_)
  refine zY [(3,_),(8,_),(9,_),(57,_),(58,_),(59,_)] (fun T L0 E I' loc'=>∃ (a2:Option Addr) (c2:Nat),E=(19,.slice a2 (n9+1) c2)::T∧HLe J4 I'∧[(r_20,YD (.int .i64) S.encA (Yi (fun x=>x.rt.no) (fun x=>x.rt) 4 xs))]=loc'∧Sl I' 11 S.encR a2 (n9+1) c2 ((zfK S.rCheck S.zeroR (Yi (fun x=>x.rt.no) (fun x=>x.rt) 4 xs) (ns.take j))++[(ZS (Yi (fun x=>x.rt.no) (fun x=>x.rt) 4 xs) m9).getD S.zeroR])) ?_ ?_
  ·
   have hKc16:=zxd J4
   have hD:=zxd J4
   refine ZL ?_
   refine Q0 J4 [(r_20,YD (.int .i64) S.encA (Yi (fun x=>x.rt.no) (fun x=>x.rt) 4 xs))] mixed ?_
   refine zT 0 rfl (Qh rfl) hD ?_
   refine zT 2 rfl (Qh rfl) hD ?_
   refine zT 3 rfl (Qh rfl) hD ?_
   refine zT 4 rfl (Uo (ek:=Value.int .i64) (ev:=S.encA) S.zeroR Ud Zj rfl rfl (fun _=>(by exact Mem.m0))) hD ?_
   obtain ⟨y,hydef⟩:∃ y,y=(ZS (Yi (fun x=>x.rt.no) (fun x=>x.rt) 4 xs) m9).getD S.zeroR:=⟨_,rfl⟩
   rw [←hydef]
   refine Q8 1 5 rfl rfl (by kernel_rfl) ?_ ?_
   ·
    refine qcV (vs:=[_]) rfl zk4 (zlz _ _ _ _ hY.cap) ?_
    refine Qb ?_
    refine zD hD ?_
    refine qd 5 rfl ?_
    refine Ql (ps:=[(0,_)]) (m:=[S.encR y]) Wq rfl (.cons rfl (.nil)) rfl (by simp [Q4,S.encR_len,Zx]) (by decide) (by decide) rfl rfl (fun b_68=>?_)
    refine Qb ?_
    refine zD hD ?_
    refine qd 6 rfl ?_
    refine Q2 (ys:=[y].flatMap S.encR) S.encR_len rfl rfl Wq hY.cut ⟨rfl,fun _=>rfl,by repeat (first | exact zxb | apply zxa)⟩ (by decide) (by omega) rfl rfl ?_
    intro v1 L1 hO1
    rw [←List.flatMap_append] at hO1
    refine YM hO1 S.encR_len (by decide) (by repeat (first | exact .cons .here .nil | exact Qu | exact Qr | apply Qp | apply Qo)) (fun I5 hI5 af5 cf5 ef5 hZ=>?_)
    subst ef5
    have hKc16:=hKc16.trans hI5;have hD:=hD.trans hI5
    refine Qb ?_
    refine zD hD ?_
    refine zT 7 rfl (QC rfl) hD ?_
    refine Qm (by kernel_rfl) ?_
    refine Qy ?_
    exact zm (h:=⟨_,_,rfl,hKc16,rfl,by exact hZ⟩)
   refine Ql (ps:=[(0,_)]) (m:=[S.encR y]) Wq rfl (.cons rfl (.nil)) rfl (by simp [Q4,S.encR_len,Zx]) (by decide) (by decide) rfl rfl (fun b_68=>?_)
   refine Qb ?_
   refine zD hD ?_
   refine qd 1 rfl ?_
   refine qcV (vs:=[_]) rfl zk4 (zlz _ _ _ _ hY.cap) ?_
   refine Qb ?_
   refine zD hD ?_
   refine qd 6 rfl ?_
   refine Q2 (ys:=[y].flatMap S.encR) S.encR_len rfl rfl Wq hY.cut ⟨rfl,fun _=>rfl,by repeat (first | exact zxb | apply zxa)⟩ (by decide) (by omega) rfl rfl ?_
   intro v1 L1 hO1
   rw [←List.flatMap_append] at hO1
   refine YM hO1 S.encR_len (by decide) (by repeat (first | exact .cons .here .nil | exact Qu | exact Qr | apply Qp | apply Qo)) (fun I6 hI6 af6 cf6 ef6 hZ=>?_)
   subst ef6
   have hKc16:=hKc16.trans hI6;have hD:=hD.trans hI6
   refine Qb ?_
   refine zD hD ?_
   refine zT 7 rfl (QC rfl) hD ?_
   refine Qm (by kernel_rfl) ?_
   refine Qy ?_
   exact zm (h:=⟨_,_,rfl,hKc16,rfl,by exact hZ⟩)
  rintro E J7 loc' ⟨a2,c2,rfl,hJ16,rfl,hZ⟩
  have hY:=hY.mono hJ16;have hB2:=hB2.trans hJ16
  refine zR (zM ?_)
  refine zM ?_
  refine qcV (vs:=[_]) rfl zky (S.w_check hZ (by omega)) ?_
  refine zC (zN ?_)
  refine zI ?_ ?_<;>intro hc73
  ·
   refine Qk (zM ?_)
   refine zA (Qb (Qn (Qc (Qk ?_))))
   refine zB ?_
   refine zM (Qb ?_)
   first
   | exact zm (h:=⟨q-(j+1),by omega,j+1,_,_,_,rfl,rfl,hB2,rfl,by omega,by rw [Js hn,zcH,if_pos hc73];exact hZ,by omega⟩)
  refine Qw (Qn (Qc (Qk (zB ?_))))
  refine zM (Qb ?_)
  first
  | exact zm (h:=⟨q-(j+1),by omega,j+1,_,_,_,rfl,rfl,hB2,rfl,by omega,by rw [Js hn,zcH,if_neg (by rw [hc73];simp)];exact hY,by omega⟩)
 have hge_j:q≤j:=by have h:=hc60;simp at h;omega
 have hke2:ns.take j=ns:=Yl hnl hge_j
 rw [hke2] at hY
 refine Zy (Qs (Qs (QB (Qc (zR (zM ?_))))))
 refine zA (zN (QF ?_))
 exact QP rfl rfl (fun w hw=>⟨_,J4,[],rfl,hIc,by exact hw.drop,rfl,_,_,_,rfl,by rw [zaq,←hnsd];exact hY⟩)
end
end Go.Proofs.YtjblkbkmblkgoaaGreat
section
namespace Go.Kn
open Go
section
variable {P:Program} {fn:Func} {R:Ending→World→Prop} {N:Nat} {g:World} {I H:Qv} {loc:Loc} {E:Env} {r:Option Nat}
theorem zjC {t1 t2 t3 t4 t5:Nat}{v1 v2 v3 v4 v5:Value}(hr:fn.results= #[.tmp t1,.tmp t2,.tmp t3,.tmp t4,.tmp t5])(h1:VA E t1=some v1)(h2:VA E t2=some v2)(h3:VA E t3=some v3)(h4:VA E t4=some v4)(h5:VA E t5=some v5)
  (h:∀ w,St g I H loc w→R (.returned (.tuple #[v1,v2,v3,v4,v5])) w):At ⟨P,r,N,[],g,H⟩ (bodyPost P fn R) .ret E I loc:=fun a w ha hw=>by
 have e1:=ha.env _ _ h1;have e2:=ha.env _ _ h2;have e3:=ha.env _ _ h3;have e4:=ha.env _ _ h4;have e5:=ha.env _ _ h5
 rw [Array.getD_eq_getD_getElem?] at e1 e2 e3 e4 e5
 exact ⟨ha.defers,.tuple #[v1,v2,v3,v4,v5],by simp only [results,hr];simp [List.mapM_cons,e1,e2,e3,e4,e5],h w hw⟩
end
end Go.Kn
namespace Go.Proofs.YtjblkbkmblkgoaaGreat
open Go Go.Kn Go.Proofs
def wLm (xs:List Nt):List Lm:=zaq (fun x=>x.lm.no) (fun x=>x.lm) 1 zh0 V3 xs
def wLs (xs:List Nt):List L.Ls:=zaq (fun x=>x.ls.no) (fun x=>x.ls) 3 L.chk L.zeroL xs
def wPt (xs:List Nt):List Pt:=zaq (fun x=>x.pt.id) (fun x=>x.pt) 2 X4 Jv xs
def wRt (xs:List Nt):List S.Rt:=zaq (fun x=>x.rt.no) (fun x=>x.rt) 4 S.rCheck S.zeroR xs
theorem zsZ {I:Qv}{xs:List Nt}(h:∀ x∈xs,Nd I x.pt):∀ p∈wPt xs,Nd I p:=fun p hp=>by
 rcases zc7 p hp with rfl | ⟨x,hx,rfl⟩
 ·
  exact Sl.nil
 ·
  exact h x hx
def zwp (xs:List Nt)(v:Value)(I':Qv)(L':Go.Kn.Loc):Prop:=L'=[]∧
  ((Z3 xs=true∧∃ a1 n1 c1 a2 n2 c2 a3 n3 c3 a4 n4 c4,v= .tuple #[.slice a1 n1 c1,.slice a2 n2 c2,.slice a3 n3 c3,.slice a4 n4 c4,.int .i64 0]∧Sl I' 9 ZJ a1 n1 c1 (wLm xs)∧Sl I' 5 L.encL a2 n2 c2 (wLs xs)∧SlP I' a3 n3 c3 (wPt xs)∧Sl I' 11 S.encR a4 n4 c4 (wRt xs))∨
   (Z3 xs=false∧v= .tuple #[.slice none 0 0,.slice none 0 0,.slice none 0 0,.slice none 0 0,.int .i64 570]))
structure Hy where
 a:Option Addr
 n:Nat
 c:Nat
 bytes:List Nat
def zbC (x:Hy):List Value:=[.slice x.a x.n x.c]
theorem VD (x:Hy):(zbC x).length=1:=rfl
theorem zjy (xs:List Hy):YZ (xs.flatMap zbC)=true:=YV (fun _=>rfl) xs
structure HyM (I:Qv)(x:Hy):Prop where
 sl:Sl I 1 VL x.a x.n x.c x.bytes
 byte:∀ b∈x.bytes,b<256
theorem HyM.mono {I I':Qv}{x:Hy}(h:HyM I x)(hI:HLe I I'):HyM I' x:=⟨h.sl.mono hI,h.byte⟩
structure zrH (I:Qv)(av:Option Addr)(n c:Nat)(rs:List Hy):Prop where
 sl:Sl I 1 zbC av n c rs
 m:∀ r∈rs,HyM I r
theorem zrH.mono {I I':Qv}{av:Option Addr}{n c:Nat}{rs:List Hy}(h:zrH I av n c rs)(hI:HLe I I'):zrH I' av n c rs:=⟨h.sl.mono hI,fun r hr=>(h.m r hr).mono hI⟩
structure zl0 (I:Qv)(rs:List Hy)(B:List (List Nat)):Prop where
 m:∀ r∈rs,HyM I r
 b:rs.map (·.bytes)=B
theorem zl0.mono {I I':Qv}{rs:List Hy}{B:List (List Nat)}(h:zl0 I rs B)(hI:HLe I I'):zl0 I' rs B:=⟨fun r hr=>(h.m r hr).mono hI,h.b⟩
theorem zl0.nil {I:Qv}:zl0 I [] []:=⟨fun _ h=>(by cases h),rfl⟩
theorem zl0.snoc {I:Qv}{rs:List Hy}{B:List (List Nat)}(h:zl0 I rs B){x:Hy}(hx:HyM I x):zl0 I (rs++[x]) (B++[x.bytes]):=
 ⟨fun r hr=>(List.mem_append.1 hr).elim (h.m r) (fun e=>by rw [List.mem_singleton.1 e];exact hx),by rw [List.map_append,h.b];rfl⟩
theorem zuB {I:Qv}{t:Nt}{b c:Nat}(hok:Va.ok (JW t))(hS:Sl I 1 VL (some ⟨b,0,none⟩) (XG t).size c (Kv (XG t))):HyM I ⟨some ⟨b,0,none⟩,(XG t).size,c,JU t⟩:=by
 have e:Kv (XG t)=JU t:=VV (KK _ hok)
 rw [e] at hS
 exact ⟨hS,KK _ hok⟩
def zwq (xs:List Nt)(v:Value)(I':Qv)(L':Go.Kn.Loc):Prop:=L'=[]∧
 ((Z3 xs=true∧∃ a n c rs,v= .tuple #[.slice a n c,.int .i64 0]∧zrH I' a n c rs∧rs.map (·.bytes)=xs.map JU)∨(Z3 xs=false∧v= .tuple #[.slice none 0 0,.int .i64 570]))
end Go.Proofs.YtjblkbkmblkgoaaGreat
end
namespace Go.Proofs.YtjblkbkmblkgoaaGreat
section
open Go Go.Kn Go.Proofs
theorem zbJ:ElT Tryz.prog 60 80 1 24:=.of (by kernel_rfl)
theorem ztt:Fun Tryz.prog 66:=.of Tryz.func66 (by kernel_rfl) (by kernel_rfl)
theorem zs5:Fun Tryz.prog 68:=.of Tryz.func68 (by kernel_rfl) (by kernel_rfl)
theorem zue:Fun Tryz.prog 70:=.of Tryz.func70 (by kernel_rfl) (by kernel_rfl)
theorem zt5:Fun Tryz.prog 72:=.of Tryz.func72 (by kernel_rfl) (by kernel_rfl)
theorem zdg {I:Qv}{av:Option Addr}{n c:Nat}{xs:List Nt}(hP:K9 I av n c xs)(hn:n≤100000):Vi Tryz.prog 20 [.agg #[.slice av n c]] I [] (zwp xs):=by
 intro g H w hw
 refine qe Tryz.func20 Tryz.ntmps20 hw ?_
 have hIc:=zxd I
 have hln:=hP.sl.len
 refine zR ?_
 refine Zh rfl rfl rfl (fun b_1=>?_)
 refine zA ?_
 refine zA ?_
 refine zA ?_
 refine zA ?_
 refine zA (Qb ?_)
 refine QO .here (fun I1 hI1 hb1=>?_)
 have hP:=hP.mono hI1;have hIc:=hIc.trans hI1
 have h1:=BxI.of hb1
 refine Qc (Qq (zR ?_))
 refine zV (Qg rfl Jm (fun hg=>by exact BxI.cells (vs:=[_]) h1) rfl) ?_
 refine qcV (vs:=[_]) rfl zii (zfM hP hn) ?_
 refine zO (zN ?_)
 refine zI ?_ ?_<;>intro hc9
 ·
  have hvf:Z3 xs=false:=by simpa using hc9
  refine zR (zA ?_)
  refine zA ?_
  refine zA ?_
  refine zA ?_
  refine zA (zN (QF (Qi ?_)))
  exact zjC rfl rfl rfl rfl rfl rfl (fun w hw=>⟨_,I1,[],rfl,hIc,hw.subL Qe,rfl,.inr ⟨hvf,rfl⟩⟩)
 have hvf:Z3 xs=true:=by simpa using hc9
 have hn4:n≤4096:=by have h:=(V5 hvf).2.2;omega
 refine Qw (Qc (zR ?_))
 refine zF Ym ?_
 refine zV (Qd rfl VW (fun hg=>by exact QG.imm h1.out rfl)) ?_
 refine QE (cap:=[]) (vs:=[_,_,_,_]) rfl rfl ztt .nil (zno hP hn4) rfl rfl ?_
 rintro vv2 I2 L2 hI2 ⟨rfl,a1,n1,c1,rfl,hS1⟩
 have hP:=hP.mono hI2;have h1:=h1.mono hI2;have hIc:=hIc.trans hI2
 refine zA ?_
 refine zN (zR ?_)
 refine zF Ym ?_
 refine zV (Qd rfl VW (fun hg=>by exact QG.imm h1.out rfl)) ?_
 refine QE (cap:=[]) (vs:=[_,_,_,_]) rfl rfl zs5 .nil (znf hP hn4) rfl rfl ?_
 rintro vv3 I3 L3 hI3 ⟨rfl,a2,n2,c2,rfl,hS2⟩
 have hP:=hP.mono hI3;have h1:=h1.mono hI3;have hS1:=hS1.mono hI3;have hIc:=hIc.trans hI3
 refine zA ?_
 refine zN (zR ?_)
 refine zF Ym ?_
 refine zV (Qd rfl VW (fun hg=>by exact QG.imm h1.out rfl)) ?_
 refine QE (cap:=[]) (vs:=[_,_,_,_]) rfl rfl zue .nil (znk hP hn4) rfl rfl ?_
 rintro vv4 I4 L4 hI4 ⟨rfl,a3,n3,c3,rfl,hS3⟩
 have hP:=hP.mono hI4;have h1:=h1.mono hI4;have hS1:=hS1.mono hI4;have hS2:=hS2.mono hI4;have hIc:=hIc.trans hI4
 refine zA ?_
 refine zN (zR ?_)
 refine zF Ym ?_
 refine zV (Qd rfl VW (fun hg=>by exact QG.imm h1.out rfl)) ?_
 refine QE (cap:=[]) (vs:=[_,_,_,_]) rfl rfl zt5 .nil (zmk hP hn4) rfl rfl ?_
 rintro vv5 I5 L5 hI5 ⟨rfl,a4,n4,c4,rfl,hS4⟩
 have hP:=hP.mono hI5;have hS1:=hS1.mono hI5;have hS2:=hS2.mono hI5;have hS3:=hS3.mono hI5;have hIc:=hIc.trans hI5
 refine zA ?_
 refine zN (zR ?_)
 refine zM ?_
 refine zM ?_
 refine zM ?_
 refine zM ?_
 refine zA ?_
 refine zA ?_
 refine zA ?_
 refine zA ?_
 refine zA (zN (QF ?_))
 exact zjC rfl rfl rfl rfl rfl rfl (fun w hw=>⟨_,I5,[],rfl,hIc,hw.subL Qe,rfl,.inl ⟨hvf,_,_,_,_,_,_,_,_,_,_,_,_,rfl,hS1,hS2,⟨hS3,zsZ hP.nd⟩,hS4⟩⟩)
theorem ziY {I:Qv}{av:Option Addr}{n c:Nat}{xs:List Nt}(hP:K9 I av n c xs)(hn:n≤100000):Vi Tryz.prog 22 [.agg #[.slice av n c]] I [] (zwq xs):=by
 intro g H w hw
 refine qe Tryz.func22 Tryz.ntmps22 hw ?_
 have hIc:=zxd I
 have hln:=hP.sl.len
 refine zR ?_
 refine Zh rfl rfl rfl (fun b_1=>?_)
 refine zA ?_
 refine zA (Qb ?_)
 refine QO .here (fun I1 hI1 hb1=>?_)
 have hP:=hP.mono hI1;have hIc:=hIc.trans hI1
 have h1:=BxI.of hb1
 refine Qc (Qq (zR ?_))
 refine zV (Qg rfl Jm (fun hg=>by exact BxI.cells (vs:=[_]) h1) rfl) ?_
 refine qcV (vs:=[_]) rfl zii (zfM hP hn) ?_
 refine zO (zN ?_)
 refine zI ?_ ?_<;>intro hc8
 ·
  have hvf:Z3 xs=false:=by simpa using hc8
  refine zR (zA ?_)
  refine zA (zN (QF (Qi ?_)))
  exact Vs rfl rfl rfl (fun w hw=>⟨_,I1,[],rfl,hIc,hw.subL Qe,rfl,.inr ⟨hvf,rfl⟩⟩)
 have hvf:Z3 xs=true:=by simpa using hc8
 have hvs:=V5 hvf
 refine Qw (Qc (Qq (zR ?_)))
 refine zF Ym ?_
 refine zV (Qd rfl VW (fun hg=>by exact QG.imm h1.out rfl)) ?_
 refine zQ Zu ?_
 refine zM (zN (QD ?_))
 refine zU [(10,_),(11,_)] (fun T L0 mz E I' loc'=>∃ (k:Nat) (v:Value) (L:Go.Kn.Loc) (rs:List Hy),mz=n-k∧E=(2,v)::(12,.int .i64 k)::T∧HLe I1 I'∧L=loc'∧k≤n∧Yp 80 1 v k (rs.flatMap zbC) L∧zl0 I' rs ((xs.take k).map JU)) ?_ (h:=⟨0,_,[],[],rfl,rfl,zxd _,rfl,Nat.zero_le _,Yp.nil,zl0.nil⟩)
 rintro mz E J2 loc' ⟨k,v,L,rs,rfl,rfl,hJ,rfl,hk,hO,hRK⟩
 have hP:=hP.mono hJ;have hIc:=hIc.trans hJ
 have hB0:=hJ
 refine zR (zC (zN (Qq ?_)))
 refine zI ?_ ?_<;>intro hc13
 ·
  have hlt_k:k<n:=by have h:=hc13;simp at h;omega
  obtain ⟨x,hx⟩:∃ y,xs[k]? =some y:=⟨_,List.getElem?_eq_getElem (by omega)⟩
  have hxm:=List.mem_of_getElem? hx
  have hM:=hP.m x hxm (hvs.2.1 x hxm)
  refine Qw (Qc (Qq (QD (zR ?_))))
  refine zV (QV rfl rfl Zu hP.sl (fun hg=>by omega)) ?_
  refine zV (Qg rfl Zr (fun hg=>by exact zxe hP.sl hx) rfl) ?_
  refine Qt Wj rfl rfl (fun b_5=>?_)
  refine zh VX ?_
  refine zN (Qk (zM ?_))
  refine zV (Qg rfl Zr (fun hg=>by exact Cells.g0) rfl) ?_
  refine qcV (vs:=[_]) rfl zdC (zjv x hM.nd hM.nn hM.ok hM.len) ?_
  refine UQ (s:=XG x) rfl zkd rfl rfl (fun b9 c9 I3 hI3 hB=>?_)
  have hRK:=hRK.mono hI3;have hB0:=hB0.trans hI3
  refine Ql (ps:=[(0,_)]) (m:=[zbC ⟨some ⟨b9,0,none⟩,(XG x).size,c9,JU x⟩]) zbJ rfl (.cons rfl (.nil)) rfl (by simp [Q4,VD]) (by decide) (by decide) rfl rfl (fun b_20=>?_)
  refine QX (v:=_) (ys:=[(⟨some ⟨b9,0,none⟩,(XG x).size,c9,JU x⟩:Hy)].flatMap zbC) (L:=L) rfl rfl zbJ hO (by repeat (first | exact .cons .here .nil | exact Qu | exact Qr | apply Qp | apply Qo)) ⟨rfl,fun _=>rfl,by repeat (first | exact zxb | apply zxa | apply zxc)⟩ (zjy _) (by omega) rfl rfl ?_
  intro v9 L9 hO9 _;rw [←List.flatMap_append] at hO9
  refine zA (Qb (Qn (Qc (Qk ?_))))
  refine zB ?_
  refine zM (Qb ?_)
  exact zm (h:=⟨n-(k+1),by omega,k+1,_,_,_,rfl,rfl,hB0,rfl,by omega,hO9,by rw [ZD hx,List.map_append];exact hRK.snoc (zuB hM.ok hB)⟩)
 have hge_k:n≤k:=by have h:=hc13;simp at h;omega
 rw [Yl hln hge_k] at hRK
 refine Zy (Qs (Qs (QB (Qc (Qq ?_)))))
 refine Zw hO VD (by decide) (by repeat (first | exact .cons .here .nil | exact Qu | exact Qr | apply Qp | apply Qo)) (fun I4 hI4 af4 cf4 ef4 hR9=>?_)
 subst ef4
 have hRK:=hRK.mono hI4;have hIc:=hIc.trans hI4
 refine Qk (zM ?_)
 refine zA ?_
 refine zA (zN (QF ?_))
 exact Vs rfl rfl rfl (fun w hw=>⟨_,I4,[],rfl,hIc,hw.subL Qe,rfl,.inl ⟨hvf,_,_,_,rs,rfl,⟨hR9,hRK.m⟩,hRK.b⟩⟩)
end
section
open Go Go.Kn Go.Proofs
def kpN (ws:List Nt)(i:Nat)(x:Nt):Bool:=match i with
 | 0=>true
 | j+1=>match ws[j]? with | none=>true | some y=> !(YN x y==0)
def Vy (ws:List Nt):Nat→List Nt
 | 0=>[]
 | i+1=>match ws[i]? with
  | none=>Vy ws i
  | some x=>if kpN ws i x=true then Vy ws i++[x] else Vy ws i
def Un (ws:List Nt)(m:Nat):List Nt:=Vy ws m++ws.drop (Vy ws m).length
theorem za4 {ws:List Nt}{i:Nat}{x:Nt}(hx:ws[i]? =some x)(hk:kpN ws i x=true):Vy ws (i+1)=Vy ws i++[x]:=by simp only [Vy,hx,if_pos hk]
theorem zbK {ws:List Nt}{i:Nat}{x:Nt}(hx:ws[i]? =some x)(hk:kpN ws i x=false):Vy ws (i+1)=Vy ws i:=by simp only [Vy,hx,hk];rfl
theorem zhK {ws:List Nt}{i:Nat}{x y:Nt}(hi:1≤i)(hy:ws[i-1]? =some y):kpN ws i x= !(YN x y==0):=by
 obtain ⟨j,rfl⟩:∃ j,i=j+1:=⟨i-1,by omega⟩
 rw [Nat.add_sub_cancel] at hy
 simp only [kpN,hy]
theorem UX (ws:List Nt):∀ m,(Vy ws m).length≤m
 | 0=>Nat.le_refl _
 | m+1=>by
  have:=UX ws m
  unfold Vy
  split
  ·
   omega
  ·
   split
   ·
    rw [List.length_append,List.length_singleton];omega
   ·
    omega
theorem zg4 (ws:List Nt):∀ m,(Vy ws m).length≤ws.length
 | 0=>Nat.zero_le _
 | m+1=>by
  have h1:=UX ws m
  have h2:=zg4 ws m
  unfold Vy
  split
  ·
   exact h2
  ·
   rename_i x hx
   have:=(List.getElem?_eq_some_iff.1 hx).1
   split
   ·
    rw [List.length_append,List.length_singleton];omega
   ·
    exact h2
theorem zrX (ws:List Nt):Vy ws 1=ws.take 1:=by
 cases ws with
 | nil=>simp [Vy]
 | cons x l=>simp [Vy,kpN]
theorem zdr {ws:List Nt}{i:Nat}{x:Nt}(h:Vy ws i=ws.take i)(hx:ws[i]? =some x)(hk:kpN ws i x=true):Vy ws (i+1)=ws.take (i+1):=by rw [za4 hx hk,h,ZD hx]
theorem zbx {ws:List Nt}(h:ws.length<2):Vy ws ws.length=ws:=by
 cases ws with
 | nil=>simp [Vy]
 | cons x l=>
  cases l with
  | nil=>simp [Vy,kpN]
  | cons y l=>simp only [List.length_cons] at h;omega
theorem zjh {ws:List Nt}(m:Nat):(Un ws m).length=ws.length:=by
 have:=zg4 ws m
 unfold Un
 rw [List.length_append,List.length_drop];omega
theorem zkj {ws:List Nt}{m i:Nat}(h:(Vy ws m).length≤i):(Un ws m)[i]? =ws[i]? :=by
 unfold Un
 rw [List.getElem?_append_right h,List.getElem?_drop]
 congr 1;omega
theorem zop {ws:List Nt}{i:Nat}{x:Nt}(hx:ws[i]? =some x)(hk:kpN ws i x=false):Un ws (i+1)=Un ws i:=by unfold Un;rw [zbK hx hk]
theorem zrP {ws:List Nt}{i:Nat}{x:Nt}(hx:ws[i]? =some x)(hk:kpN ws i x=true):Un ws (i+1)=(Un ws i).set (Vy ws i).length x:=by
 have h1:=UX ws i
 have h2:=(List.getElem?_eq_some_iff.1 hx).1
 have h3:ws.drop (Vy ws i).length=ws[(Vy ws i).length]::ws.drop ((Vy ws i).length+1):=List.drop_eq_getElem_cons (by omega)
 unfold Un
 rw [za4 hx hk,List.length_append,List.length_singleton,List.set_append_right _ _ (Nat.le_refl _),Nat.sub_self,h3,List.set_cons_zero,List.append_assoc,List.singleton_append]
theorem znH {ws:List Nt}{i:Nat}(h:Vy ws i=ws.take i)(hi:i≤ws.length):Un ws i=ws:=by
 unfold Un
 rw [h,List.length_take,Nat.min_eq_left hi,List.take_append_drop]
/-! ### Cells -/
theorem Xj {bl:List Nt}{i:Nat}{x:Nt}(hx:bl[i]? =some x):bl.flatMap Zn=(bl.take i).flatMap Zn++Zn x++(bl.drop (i+1)).flatMap Zn:=by
 have h2:=(List.getElem?_eq_some_iff.1 hx).1
 have h3:bl.drop i=x::bl.drop (i+1):=by
  rw [List.drop_eq_getElem_cons h2,(List.getElem?_eq_some_iff.1 hx).2]
 conv=>lhs;rw [←List.take_append_drop i bl,h3]
 rw [List.flatMap_append,List.flatMap_cons,List.append_assoc]
theorem Xt {bl:List Nt}{i:Nat}(h:i≤bl.length):((bl.take i).flatMap Zn).length=i*45:=by
 rw [YS Q4,List.length_take,Nat.min_eq_left h]
theorem WQ {I:Qv}{b t off:Nat}{fz:Nat×Nat}{l:Go.Kn.Loc}{bl:List Nt}{tl:List Value}{i:Nat}{x:Nt}(hx:bl[i]? =some x)(e:off=i*45):Cells I ((b,.cells (bl.flatMap Zn++tl).toArray t fz)::l) b off (Zn x):=by
 have h2:=(List.getElem?_eq_some_iff.1 hx).1
 refine Cells.part (pre:=(bl.take i).flatMap Zn) (vs:=Zn x) (post:=(bl.drop (i+1)).flatMap Zn++tl) ?_ (by rw [e,Xt (by omega)])
 have h:=zxb (I:=I) (b:=b) (vs:=bl.flatMap Zn++tl) (t:=t) (fz:=fz) (l:=l)
 rw [Xj hx] at h ⊢
 simpa only [List.append_assoc] using h
theorem zi7 {bl:List Nt}{tl:List Value}{i:Nat}{x:Nt}(hi:i<bl.length):JM (bl.flatMap Zn++tl) (i*45) (Zn x)=(bl.set i x).flatMap Zn++tl:=by
 obtain ⟨y,hy⟩:∃ y,bl[i]? =some y:=⟨_,List.getElem?_eq_getElem hi⟩
 have hs:(bl.set i x)[i]? =some x:=List.getElem?_set_self hi
 have e1:(bl.set i x).take i=bl.take i:=by rw [List.take_set_of_le (Nat.le_refl _)]
 have e2:(bl.set i x).drop (i+1)=bl.drop (i+1):=by rw [List.drop_set_of_lt (Nat.lt_succ_self _)]
 rw [Xj hy,Xj hs,e1,e2]
 have h:=JR ((bl.take i).flatMap Zn) (Zn y) (Zn x) ((bl.drop (i+1)).flatMap Zn++tl) rfl
 rw [Xt (Nat.le_of_lt hi)] at h
 simpa only [List.append_assoc] using h
theorem zkg {bl:List Nt}{tl:List Value}{n c:Nat}(h:bl.length=n)(ht:tl.length=(c-n)*45)(hc:n≤c):(bl.flatMap Zn++tl).length=c*45:=by
 rw [List.length_append,YS Q4,h,ht,←Nat.add_mul]
 congr 1;omega
theorem ztI {e:Nat}{v:Value}{n:Nat}{ws:List Nt}{L:Go.Kn.Loc}(h:Yp e 45 v n (ws.flatMap Zn) L)(hl:ws.length=n):(v= .slice none 0 0∧n=0∧L=[])∨∃ b c tl,v= .slice (some ⟨b,0,none⟩) n c∧L=[(b,.cells (ws.flatMap Zn++tl).toArray e (0,0))]∧n≤c∧c≤maxLen∧tl.length=(c-n)*45:=by
 rcases h.2 with h1 | ⟨b,c,cur,h1,h2,h3,h4,h5,h6⟩
 ·
  exact .inl h1
 ·
  refine .inr ⟨b,c,cur.toList.drop (n*45),h1,?_,h3,h4,?_⟩
  ·
   rw [h2,←h6,List.take_append_drop]
  ·
   rw [List.length_drop,Array.length_toList,h5,←Nat.sub_mul]
theorem zsG {e b n c:Nat}{ws:List Nt}{tl:List Value}(hl:ws.length=n)(hc:n≤c)(hm:c≤maxLen)(ht:tl.length=(c-n)*45):Yp e 45 (.slice (some ⟨b,0,none⟩) n c) n (ws.flatMap Zn) [(b,.cells (ws.flatMap Zn++tl).toArray e (0,0))]:=by
 have hf:(ws.flatMap Zn).length=n*45:=by rw [YS Q4,hl]
 refine ⟨hf,.inr ⟨b,c,_,rfl,rfl,hc,hm,?_,?_⟩⟩
 ·
  rw [List.size_toArray];exact zkg hl ht hc
 ·
  show (ws.flatMap Zn++tl).take (n*45)=_
  rw [←hf,List.take_left']
  rfl
theorem zmD {ws:List Nt}{tl zs:List Value}{n c m:Nat}(hn:ws.length=n)(hm:m≤n)(hc:n≤c)(ht:tl.length=(c-n)*45)(hz:zs.length=(n-m)*45)(hk:(Vy ws n).length=m):
  ∃ tl',tl'.length=(c-m)*45∧((Un ws n).flatMap Zn++tl).take (m*45)++(zs++((Un ws n).flatMap Zn++tl).drop (m*45+(n-m)*45))=(Vy ws n).flatMap Zn++tl':=by
 have e0:(Vy ws n).flatMap Zn=((Un ws n).take m).flatMap Zn:=by
  unfold Un
  rw [hk,←hk,List.take_left']
  rfl
 have hb:=zjh (ws:=ws) n
 have hfl:((Un ws n).flatMap Zn).length=n*45:=by rw [YS Q4,hb,hn]
 refine ⟨zs++tl,by rw [List.length_append,hz,ht,←Nat.add_mul];congr 1;omega,?_⟩
 have e1:((Un ws n).flatMap Zn++tl).take (m*45)=(Vy ws n).flatMap Zn:=by
  unfold Un
  rw [List.flatMap_append,List.append_assoc]
  have:((Vy ws n).flatMap Zn).length=m*45:=by rw [YS Q4,hk]
  rw [←this,List.take_left']
  rfl
 have e2:((Un ws n).flatMap Zn++tl).drop (m*45+(n-m)*45)=tl:=by
  have:m*45+(n-m)*45=((Un ws n).flatMap Zn).length:=by rw [hfl,←Nat.add_mul];congr 1;omega
  rw [this,List.drop_left']
  rfl
 rw [e1,e2]
theorem zjw {ws:List Nt}{tl zs:List Value}{n c M:Nat}(hM:M=n)(hn:ws.length=n)(hc:n≤c)(ht:tl.length=(c-n)*45)(hz:zs.length=(n-(Vy ws M).length)*45):
  ∃ tl',tl'.length=(c-(Vy ws n).length)*45∧((Un ws M).flatMap Zn++tl).take (0+(Vy ws M).length*45)++(zs++((Un ws M).flatMap Zn++tl).drop (0+(Vy ws M).length*45+(n-(Vy ws M).length)*45))=(Vy ws n).flatMap Zn++tl':=by
 subst hM
 rw [Nat.zero_add]
 exact zmD hn (UX ws _) hc ht hz rfl
end
end Go.Proofs.YtjblkbkmblkgoaaGreat
namespace Go.Kn
section
open Go
section
variable {C:Cx} {Q:Exit→Act→World→Prop} {E:Env} {I:Qv} {loc:Loc} {ops:Array Oper} {rest:List Oper} {dst:Option Tmp} {ty:TypeId} {pos:String} {af:Array Edge} {gd:Option (Nat×Bool)} {x:Operand}
theorem zmo {t e n c b off t':Nat}{z:Value}{zc A:List Value}(F:List Value→Loc)(hx:QH [] E x=some (.slice (some ⟨b,off,none⟩) n c))(hT:C.P.underlying t=some (.slice e))(hz:Vf C.P e z)(hzc:z.cells=zc.toArray)(h1:YZ zc=true)
  (hle:off+n*zc.length≤A.length)(hG:gd=none)(hdst:dst=none)(hu:∀ zs:List Value,Upd loc b (.cells A.toArray t' (0,0)) (.cells (A.take off++(zs++A.drop (off+n*zc.length))).toArray t' (0,0)) (F zs))
  (h:∀ zs:List Value,zs.length=n*zc.length→XO C Q ops rest [] E I (F zs)):
  XO C Q ops (⟨dst,.call ⟨.builtin .clear, #[x], #[t]⟩,ty,pos,af,gd⟩::rest) [] E I loc:=
 Yn hG (by intro c e;cases e) fun a w ha hw=>by
  subst hdst
  have hsz:(Builtin.zeroCells z.cells n).toList.length=n*zc.length:=by rw [Array.length_toList,Vt,hzc];simp
  have hz1:∀ v∈(Builtin.zeroCells z.cells n).toList,v.oneCell'=true:=by
   intro v hv
   rw [Array.mem_toList_iff] at hv
   unfold Builtin.zeroCells at hv
   rw [hzc] at hv
   simp at hv
   obtain ⟨q,hq,h2⟩:=hv
   have hp:0<zc.length:=Nat.pos_of_ne_zero fun e=>by rw [e] at hq;simp at hq
   rw [List.getElem?_eq_getElem (Nat.mod_lt _ hp)] at h2
   exact V9 h1 v (by rw [←h2];exact List.getElem_mem _)
  have e:A=A.take off++((A.drop off).take (n*zc.length)++A.drop (off+n*zc.length)):=by
   have:(A.drop off).take (n*zc.length)++A.drop (off+n*zc.length)=A.drop off:=by rw [←List.drop_drop];exact List.take_append_drop _ _
   rw [this,List.take_append_drop]
  have hu2:=hu (Builtin.zeroCells z.cells n).toList
  have hu3:Upd loc b (.cells (A.take off++((A.drop off).take (n*zc.length)++A.drop (off+n*zc.length))).toArray t' (0,0)) (.cells (A.take off++((Builtin.zeroCells z.cells n).toList++A.drop (off+n*zc.length))).toArray t' (0,0)) (F (Builtin.zeroCells z.cells n).toList):=by rw [←e];exact hu2
  obtain ⟨w',hr,hs'⟩:=V0 (P:=C.P) (off:=off) (Builtin.zeroCells z.cells n).toList (A.take off) w loc _ b t' ((A.drop off).take (n*zc.length)) 0 (by rw [List.length_take];omega) (by rw [hsz,List.length_take,List.length_drop];omega) hz1 hw hu3
  have hrun:(Builtin.clear_ #[t] ty #[.slice (some ⟨b,off,none⟩) n c]).run C.P w= .ok (.tuple #[]) w':=by
   have h0:n=0→w'=w:=by
    intro hn;subst hn
    have:(Builtin.zeroCells z.cells 0).toList=[]:=List.length_eq_zero_iff.1 (by rw [hsz];omega)
    rw [this] at hr
    simp [storeCells] at hr
    exact hr.symm
   cases n with
   | zero=>rw [h0 rfl];simp [Builtin.clear_,Sem.run_bind,run_underlying hT,Result.andThen]
   | succ k=>simp [Builtin.clear_,Sem.run_bind,run_underlying hT,Result.andThen,Vw hz,hr]
  simp only [execOp,resolve,List.map_toArray,List.map_cons,List.map_nil,Qj (S:=[]) ha trivial rfl hx,Sem.run_bind,Sem.run_pure,Result.andThen,invoke,builtin,hrun,Oper.uponIn_value]
  exact h _ hsz _ _ ha trivial hs'
end
end
end Go.Kn
namespace Go.Proofs.YtjblkbkmblkgoaaGreat
section
open Go Go.Kn Go.Proofs
theorem zoY:Fun Tryz.prog 83:=.of Tryz.func83 (by kernel_rfl) (by kernel_rfl)
theorem ztJ:Tryz.prog.underlying 57=some (.slice 45):=by kernel_rfl
theorem zuZ {I:Qv}{x y:Nt}(hX:NtM I x)(hY:NtM I y):Yc Tryz.prog 83 [JK x,JK y] I (.bool (YN x y==0)):=by
 intro g H w hw
 refine qe Tryz.func83 Tryz.ntmps83 hw ?_
 have hIc:=zxd I
 refine zR ?_
 refine Zh rfl rfl rfl (fun b_2=>?_)
 refine Zh rfl rfl rfl (fun b_3=>?_)
 refine zA (Qb ?_)
 refine QO .here (fun I1 hI1 hb1=>?_)
 have hX:=hX.mono hI1;have hY:=hY.mono hI1;have hIc:=hIc.trans hI1
 have h3:=BxI.of hb1
 refine QO .here (fun I2 hI2 hb2=>?_)
 have hX:=hX.mono hI2;have hY:=hY.mono hI2;have h3:=h3.mono hI2;have hIc:=hIc.trans hI2
 have h2:=BxI.of hb2
 refine Qc (zR ?_)
 refine zV (Qg rfl Zr (fun hg=>by exact BxI.cells (vs:=Zn x) h2) rfl) ?_
 refine zV (Qg rfl Zr (fun hg=>by exact BxI.cells (vs:=Zn y) h3) rfl) ?_
 refine qcV (vs:=[_,_]) rfl zer (zeu hX hY) ?_
 refine zC ?_
 refine zA (zN (QF ?_))
 exact QP rfl rfl (fun w hw=>⟨by rfl,(hw.mono hIc).subL Qe⟩)
theorem ztb {I:Qv}{b c n:Nat}{ws:List Nt}{tl:List Value}(hws:ws.length=n)(hM:∀ x∈ws,NtM I x)(hn:n≤100000)(hc:n≤c)(hcm:c≤maxLen)(htl:tl.length=(c-n)*45):Vi Tryz.prog 82 [.slice (some ⟨b,0,none⟩) n c,.func (.func 83) #[] #[]] I [(b,.cells (ws.flatMap Zn++tl).toArray 45 (0,0))] (fun v I' L'=>I'=I∧v= .slice (some ⟨b,0,none⟩) (Vy ws n).length c∧∃ tl',tl'.length=(c-(Vy ws n).length)*45∧L'=[(b,.cells ((Vy ws n).flatMap Zn++tl').toArray 45 (0,0))]):=by
 intro g H w hw
 refine qe Tryz.func82 Tryz.ntmps82 hw ?_
 refine zR (zA (zN (Qq (zR ?_))))
 refine zM ?_
 refine zQ Zu ?_
 refine zC (zN ?_)
 refine zI ?_ ?_<;>intro hc10
 ·
  have h10:ws.length<2:=by have h:=hc10;simp at h;omega
  refine zR (zM ?_)
  refine zA (zN (QF (Qi ?_)))
  exact QP rfl rfl (fun w hw=>⟨_,I,_,rfl,zxd _,hw,rfl,by rw [←hws,zbx h10],tl,by rw [←hws,zbx h10,hws];exact htl,by rw [←hws,zbx h10]⟩)
 have h10:2≤n:=by have h:=hc10;simp at h;omega
 refine Qw (Qc (Qq (zR (zA (zN (QD ?_))))))
 refine zU [(0,_),(1,_)] (fun T L0 mz E I' loc'=>∃ (k:Nat),mz=n-k∧E=(5,.int .i64 k)::T∧I=I'∧L0=loc'∧1≤k∧k≤n∧Vy ws k=ws.take k) ?_ (h:=⟨1,rfl,rfl,rfl,rfl,Nat.le_refl _,by omega,zrX ws⟩)
 rintro mz E I' loc' ⟨k,rfl,rfl,rfl,rfl,hk1,hkn,hct⟩
 refine Qq (zR (zM ?_))
 refine zM ?_
 refine zQ Zu ?_
 refine zC (zN ?_)
 refine zI ?_ ?_<;>intro hc15
 ·
  have hlt:k<n:=by have h:=hc15;simp at h;omega
  obtain ⟨x,hx⟩:∃ y,ws[k]? =some y:=⟨_,List.getElem?_eq_getElem (by omega)⟩
  obtain ⟨y,hy⟩:∃ y,ws[k-1]? =some y:=⟨_,List.getElem?_eq_getElem (by omega)⟩
  have hxm:=List.mem_of_getElem? hx
  have hym:=List.mem_of_getElem? hy
  have ex1:((k:Int)).toNat*45=k*45:=by rw [Int.toNat_natCast]
  have ey1:((k:Int)-1).toNat*45=(k-1)*45:=by rw [show ((k:Int)-1).toNat=k-1 by omega]
  refine Qw (Qc (Qq (QD (Qq ?_))))
  have hD:=zxd I
  refine ZL ?_
  refine Q0 I [(b,.cells (ws.flatMap Zn++tl).toArray 45 (0,0))] mixed ?_
  refine zT 0 rfl (Qh rfl) hD ?_
  refine zT 1 rfl (Qh rfl) hD ?_
  refine zT 2 rfl (Qh rfl) hD ?_
  refine zT 3 rfl (KT rfl rfl Zu (fun hg=>by omega)) hD ?_
  refine zT 4 rfl (Qg rfl Zr (fun hg=>by exact WQ hx ex1) rfl) hD ?_
  refine zT 5 rfl (Qh rfl) hD ?_
  refine zT 6 rfl (Qh rfl) hD ?_
  refine zT 7 rfl (VO rfl rfl rfl (fun hg=>by omega)) hD ?_
  refine zT 8 rfl (KT rfl rfl Zu (fun hg=>by omega)) hD ?_
  refine zT 9 rfl (Qg rfl Zr (fun hg=>by exact WQ hy ey1) rfl) hD ?_
  refine qd 10 rfl ?_
  refine qcV (vs:=[_,_]) rfl zoY (zuZ (hM x hxm) (hM y hym)) ?_
  refine Qb ?_
  refine zD hD ?_
  refine Qm (by kernel_rfl) ?_
  refine Qy ?_
  refine Qc ?_
  refine zI ?_ ?_<;>intro hc28
  ·
   have hkp:kpN ws k x=false:=by rw [zhK hk1 hy,hc28];rfl
   refine zR (zM ?_)
   refine zM ?_
   refine zV (Vg rfl rfl Zu (fun hg=>by omega)) ?_
   rw [U6 (by omega)]
   refine zA (zN (Qq (zR ?_)))
   refine zA (zN (QD ?_))
   refine zeZ [(0,_),(1,_),(6,_)] (.cons rfl (.cons rfl (.cons rfl .nil))) (fun T L0 mz E I' loc'=>∃ (j:Nat),mz=n-j∧E=(5,.int .i64 ((Vy ws (k+j)).length:Nat))::(7,.int .i64 j)::T∧I=I'∧[(b,.cells ((Un ws (k+j)).flatMap Zn++tl).toArray 45 (0,0))]=loc'∧1≤j∧k+j≤n∧(Vy ws (k+j)).length≤k+j-1) _ _ _ _ ⟨1,rfl,by rw [zbK hx hkp,hct,List.length_take,Nat.min_eq_left (by omega)],rfl,by rw [zop hx hkp,znH hct (by omega)],Nat.le_refl _,by omega,by rw [zbK hx hkp];have:=UX ws k;omega⟩ (.cons rfl (.cons rfl (.cons rfl (.cons rfl (.cons rfl .nil))))) (zxd _) rfl ?_
   rintro mz E I' loc' ⟨j,rfl,rfl,rfl,rfl,hj1,hjn,hml⟩
   have hbl:(Un ws (k+j)).length=n:=by rw [zjh];exact hws
   refine Qq (zR (zM ?_))
   refine zM ?_
   refine zQ Zu ?_
   refine zC (zN ?_)
   refine zI ?_ ?_<;>intro hc35
   ·
    have hlt2:k+j<n:=by have h:=hc35;simp at h;omega
    obtain ⟨x,hx0⟩:∃ y,ws[k+j]? =some y:=⟨_,List.getElem?_eq_getElem (by omega)⟩
    obtain ⟨y,hy0⟩:∃ y,ws[k+j-1]? =some y:=⟨_,List.getElem?_eq_getElem (by omega)⟩
    have hxm:=List.mem_of_getElem? hx0
    have hym:=List.mem_of_getElem? hy0
    have hx2:(Un ws (k+j))[k+j]? =some x:=by rw [zkj (by omega)];exact hx0
    have hy2:(Un ws (k+j))[k+j-1]? =some y:=by rw [zkj (by omega)];exact hy0
    have ex2:0+((k:Int)).toNat*45+((j:Int)).toNat*45=(k+j)*45:=by rw [Int.toNat_natCast,Int.toNat_natCast,Nat.zero_add,←Nat.add_mul]
    have ey2:0+((k:Int)).toNat*45+((j:Int)-1).toNat*45=(k+j-1)*45:=by rw [show ((j:Int)-1).toNat=j-1 by omega,Int.toNat_natCast,Nat.zero_add,←Nat.add_mul];congr 1;omega
    refine Qw (Qc (Qq (QD (Qq ?_))))
    have hD:=zxd I
    refine ZL ?_
    refine Q0 I [(b,.cells ((Un ws (k+j)).flatMap Zn++tl).toArray 45 (0,0))] mixed ?_
    refine zT 0 rfl (Qh rfl) hD ?_
    refine zT 1 rfl (Qh rfl) hD ?_
    refine zT 2 rfl (Qh rfl) hD ?_
    refine zT 3 rfl (Jr rfl rfl Zu (fun hg=>by omega)) hD ?_
    refine zT 4 rfl (Qg rfl Zr (fun hg=>by exact WQ hx2 ex2) rfl) hD ?_
    refine zT 5 rfl (Qh rfl) hD ?_
    refine zT 6 rfl (Qh rfl) hD ?_
    refine zT 7 rfl (VO rfl rfl rfl (fun hg=>by omega)) hD ?_
    refine zT 8 rfl (Jr rfl rfl Zu (fun hg=>by omega)) hD ?_
    refine zT 9 rfl (Qg rfl Zr (fun hg=>by exact WQ hy2 ey2) rfl) hD ?_
    refine qd 10 rfl ?_
    refine qcV (vs:=[_,_]) rfl zoY (zuZ (hM x hxm) (hM y hym)) ?_
    refine Qb ?_
    refine zD hD ?_
    refine zT 11 rfl (Yz rfl) hD ?_
    refine Qm (by kernel_rfl) ?_
    refine Qy ?_
    refine Qc ?_
    refine zI ?_ ?_<;>intro hc49
    ·
     have hkp2:kpN ws (k+j) x=true:=by rw [zhK (by omega) hy0];exact hc49
     refine zR (zM ?_)
     refine zM ?_
     refine zM ?_
     refine zM ?_
     refine zV (Jr rfl rfl Zu (fun hg=>by omega)) ?_
     refine zV (Qg rfl Zr (fun hg=>by exact WQ hx2 ex2) rfl) ?_
     refine zV (KT rfl rfl Zu (fun hg=>by omega)) ?_
     refine VC (A:=(Un ws (k+j)).flatMap Zn++tl) rfl rfl VX rfl (by rw [zkg hbl htl hc];exact Nat.ble_eq_true_of_le (by simp;omega)) rfl rfl (by exact .here) ?_
     rw [show (((Vy ws (k+j)).length:Nat):Int).toNat*45=(Vy ws (k+j)).length*45 from by rw [Int.toNat_natCast],zi7 (by rw [hbl];omega)]
     refine zN (Qk (zM ?_))
     refine zB ?_
     refine zA (Qb (Qn (Qc (Qk ?_))))
     refine zM ?_
     refine zB ?_
     refine zA (Qb ?_)
     first
     | exact Zt _ [(b,.cells (((Un ws (k+j)).set (Vy ws (k+j)).length x).flatMap Zn++tl).toArray 45 (0,0))] ⟨n-(j+1),by omega,j+1,rfl,by rw [←Nat.add_assoc,za4 hx0 hkp2,List.length_append,List.length_singleton],rfl,by rw [←Nat.add_assoc,zrP hx0 hkp2],by omega,by omega,by rw [←Nat.add_assoc,za4 hx0 hkp2,List.length_append,List.length_singleton];omega⟩ (.cons rfl (.cons rfl (.cons rfl (.cons rfl (.cons rfl .nil))))) (by repeat (first | exact .refl | exact QN | refine Zf ?_ | refine .drop ?_ | refine Qf ?_))
    have hkp2:kpN ws (k+j) x=false:=by rw [zhK (by omega) hy0];exact hc49
    refine Qw (Qn (Qc (Qk (zM ?_))))
    refine zB ?_
    refine zA (Qb ?_)
    first
    | exact Zt _ [(b,.cells ((Un ws (k+j)).flatMap Zn++tl).toArray 45 (0,0))] ⟨n-(j+1),by omega,j+1,rfl,by rw [←Nat.add_assoc,zbK hx0 hkp2],rfl,by rw [←Nat.add_assoc,zop hx0 hkp2],by omega,by omega,by rw [←Nat.add_assoc,zbK hx0 hkp2];omega⟩ (.cons rfl (.cons rfl (.cons rfl (.cons rfl (.cons rfl .nil))))) (by repeat (first | exact .refl | exact QN | refine Zf ?_ | refine .drop ?_ | refine Qf ?_))
   have hge2:k+j=n:=by have h:=hc35;simp at h;omega
   refine Zy (Qs (Qs (QB (Qc (zR (zM ?_))))))
   refine zM ?_
   refine zV (Vg rfl rfl Zu (fun hg=>by omega)) ?_
   rw [U6 (by omega)]
   refine zmo (A:=(Un ws (k+j)).flatMap Zn++tl) (fun zs=>[(b,.cells (((Un ws (k+j)).flatMap Zn++tl).take (0+(Vy ws (k+j)).length*45)++(zs++((Un ws (k+j)).flatMap Zn++tl).drop (0+(Vy ws (k+j)).length*45+(n-(Vy ws (k+j)).length)*45))).toArray 45 (0,0))]) rfl ztJ Wj rfl rfl (by rw [zkg hbl htl hc];simp;omega) rfl rfl (fun zs=>by simpa using Upd.here) (fun zc hzc=>?_)
   refine Qb ?_
   obtain ⟨tl2,ht2,e2⟩:=zjw hge2 hws hc htl (by simpa using hzc)
   rw [e2]
   refine Qc (zR (zM ?_))
   refine zM ?_
   refine zV (VQ rfl rfl Zu (fun hg=>by omega)) ?_
   refine zA (zN (QF (Qz (Qi (Qi (Qz (Qi ?_)))))))
   exact QP rfl rfl (fun w hw=>⟨_,I,_,rfl,zxd _,hw,rfl,by rw [Int.toNat_natCast,hge2],tl2,ht2,rfl⟩)
  refine Qw (Qn (Qc (Qk (zM ?_))))
  refine zB ?_
  refine zA (Qb ?_)
  exact zm (h:=⟨n-(k+1),by omega,k+1,rfl,rfl,rfl,rfl,by omega,by omega,zdr hct hx (by rw [zhK hk1 hy,hc28];rfl)⟩)
 have hge:n≤k:=by have h:=hc15;simp at h;omega
 obtain rfl:k=n:=by omega
 rw [List.take_of_length_le (by omega)] at hct
 refine Zy (Qs (Qs (QB (Qc (zR (zM ?_))))))
 refine zA (zN (QF ?_))
 exact QP rfl rfl (fun w hw=>⟨_,I,_,rfl,zxd _,hw,rfl,by rw [hct,hws],tl,by rw [hct,hws];exact htl,by rw [hct]⟩)
end
end Go.Proofs.YtjblkbkmblkgoaaGreat
namespace Go.Kn
section
open Go Go.Sort Go.Shelf Go.Lib Go.Proofs
theorem zjS {α:Type}[Inhabited α]{P:Program}{f g0:FuncId}{e:TypeId}{k:Nat}{enc:α→List Value}{cf:α→α→Int}(hk:∀ x,(enc x).length=k)(hpos:0<k)
  (hs:∀ (blk off cap:Nat) (d:Array α) (w:World),CmpLays P g0 #[] enc k cf blk off d.size w→HoldsK enc k w blk off d→blk<w.heap.size→d.size<4611686018427387904→
   Calls P f #[.slice (some ⟨blk,off,none⟩) d.size cap,.func (.func g0) #[] #[]] w fun e w'=>e= .returned (.tuple #[])∧∃ d' n os,PermIn 0 d.size d d'∧SortedIn (ltOf cf) 0 d.size d'∧w'=sortWorldK enc k w blk off n d' os)
  (h0:∀ (p:Option Addr) (cap:Nat) (fv:Value) (w:World),Calls P f #[.slice p 0 cap,fv] w fun e w'=>e= .returned (.tuple #[])∧w'=w)
  (I:Qv)(hcmp:∀ I',HLe I I'→∀ (x y:α),Yc P g0 [.agg (enc x).toArray,.agg (enc y).toArray] I' (.int .i64 (cf x y)))
  (zs:List α){v:Value}{n:Nat}{L:Loc}(hO:Yp e k v n (zs.flatMap enc) L)(hn:n≤1000000):
  Vi P f [v,.func (.func g0) #[] #[]] I L (fun u I' L'=>u= .tuple #[]∧I'=I∧∃ zs':List α,zs'.Perm zs∧zs'.Pairwise (fun x y=>ltOf cf y x=false)∧Yp e k v n (zs'.flatMap enc) L'):=by
 intro g H w hw
 have hl:zs.length=n:=by
  have:=hO.1
  rw [YS hk] at this
  exact Nat.eq_of_mul_eq_mul_right hpos this
 subst hl
 rcases hO.2 with ⟨rfl,h00,rfl⟩ | ⟨b,c,cur,rfl,rfl,hc,hc2,hsz,htk⟩
 ·
  have:zs=[]:=List.length_eq_zero_iff.1 h00
  subst this
  refine (h0 none 0 _ w).mono ?_
  rintro e w' ⟨rfl,rfl⟩
  exact ⟨_,I,[],rfl,zxd _,hw,rfl,rfl,[],.nil,.nil,by simp,.inl ⟨rfl,rfl,rfl⟩⟩
 ·
  have hb:=hw.own b _ (List.mem_singleton.2 rfl)
  have hbs:b<w.heap.size:=(Array.getElem?_eq_some_iff.1 hb).1
  have hfl:(zs.flatMap enc).length=zs.length*k:=YS hk zs
  have hH:HoldsK enc k w b 0 zs.toArray:=by
   unfold HoldsK
   rw [zja hk hpos]
   exact zdH (enc:=id) hw (List.mem_singleton.2 rfl) (zs.flatMap enc) (by rw [hfl,htk];simp)
  have hC:CmpLays P g0 #[] enc k cf b 0 zs.toArray.size w:=by
   intro m os dk _ x y
   have hsw:∃ L',St g I H L' (sortWorldK enc k w b 0 m dk os):=by
    unfold sortWorldK putRowK
    exact ⟨_,((hw.aheadN m).rowPut (enc:=id) _ .here).grown os⟩
   obtain ⟨L',hsw⟩:=hsw
   have h1:=hcmp (fun q=>(sortWorldK enc k w b 0 m dk os).heap[q]?) (fun b o h=>hsw.imm b o h) x y (sortWorldK enc k w b 0 m dk os) (fun _=>none) (sortWorldK enc k w b 0 m dk os)
    ⟨rfl,rfl,rfl,⟨Nat.le_refl _,Nat.le_refl _⟩,fun _ _ h=>h,(fun _ _ h=>by cases h),(fun _ _ h=>by cases h),fun _=>.inr rfl,(fun _ _ h=>by cases h),by simp⟩
   refine Calls.mono h1 ?_
   rintro e w' ⟨rfl,hs⟩
   exact ⟨rfl,zmP hs⟩
  have hcall:=hs b 0 c zs.toArray w hC hH hbs (by simp;omega)
  rw [List.size_toArray] at hcall
  refine hcall.mono ?_
  rintro e w' ⟨rfl,d',m,os,hp,hsd,rfl⟩
  have hps:d'.size=zs.length:=by simpa using hp.1
  have hperm:d'.toList.Perm zs:=by
   have:=hp.2.2
   simpa [Array.extract_eq_self_of_le,hps] using this
  have hdl:d'=d'.toList.toArray:=by simp
  have hfd:(d'.toList.flatMap enc).length=zs.length*k:=by rw [YS hk,Array.length_toList,hps]
  refine ⟨_,I,[(b,.cells (putCells id 0 (d'.toList.flatMap enc).toArray cur) e (0,0))],rfl,zxd _,?_,rfl,rfl,d'.toList,hperm,?_,?_⟩
  ·
   unfold sortWorldK putRowK
   rw [hdl,zja hk hpos]
   simp only [List.toList_toArray]
   exact (((hw.aheadN m).rowPut (enc:=id) _ .here).grown os)
  ·
   rw [List.pairwise_iff_getElem]
   intro i j hi hj hij
   have:=hsd i j (Nat.zero_le _) hij (by rw [←hps];simpa using hj)
   rw [getElem!_pos d' i (by simpa using hi),getElem!_pos d' j (by simpa using hj)] at this
   simpa using this
  ·
   refine ⟨by rw [hfd],.inr ⟨b,c,_,rfl,rfl,hc,hc2,by simp [putCells,hsz],?_⟩⟩
   have:=zgT (enc:=id) (cs:=cur) (n:=zs.length*k) (d'.toList.flatMap enc) hfd (by rw [hsz];exact Nat.mul_le_mul_right k hc)
   simpa using this
end
end Go.Kn
namespace Go.Proofs.YtjblkbkmblkgoaaGreat
section
open Go Go.Kn Go.Proofs
/-! ### The order -/
theorem zjL {x y z:Nt}(h:YN x y=0):YN x z=YN y z:=by
 have e:(XG x).data.toList=(XG y).data.toList:=zpJ h
 unfold YN zvn;rw [e]
theorem Um:NtW zbD:=⟨fun y hy=>by
  have:y=0:=by
   simp only [VE,zbD,V3,Jv,L.zeroL,S.zeroR,KY,List.mem_cons,List.not_mem_nil,or_false,or_self] at hy
   exact hy
  subst this;decide,fun y hy=>by cases hy⟩
theorem zkK {x:Nt}(hw:NtW x)(s1:x.pt.needs.length≤32)(s2:x.rt.name.size≤32)(s3:x.rt.town.size≤32):Va.ok (JW x)∧(JU x).length≤2000:=by
 have hok:∀ v∈(VE x).map Va.int,Va.ok v:=fun v hv=>by
  obtain ⟨y,hy,rfl⟩:=List.mem_map.1 hv
  exact hw.ints y hy
 have hon:∀ v∈x.pt.needs.map Va.int,Va.ok v:=fun v hv=>by
  obtain ⟨y,hy,rfl⟩:=List.mem_map.1 hv
  exact hw.needs y hy
 have hb:(Va.encL ((VE x).map Va.int)).length≤462:=by
  have:=KC (b:=11) (l:=(VE x).map Va.int) fun v hv=>by
   obtain ⟨y,hy,rfl⟩:=List.mem_map.1 hv
   exact KF (hw.ints y hy)
  rw [List.length_map,YT] at this;omega
 have hn:(Va.encL (x.pt.needs.map Va.int)).length≤352:=by
  have:=KC (b:=11) (l:=x.pt.needs.map Va.int) fun v hv=>by
   obtain ⟨y,hy,rfl⟩:=List.mem_map.1 hv
   exact KF (hw.needs y hy)
  rw [List.length_map] at this
  have h2:=Nat.mul_le_mul_right 11 s1
  omega
 constructor
 ·
  refine ⟨by simp [YT],zef fun v hv=>?_⟩
  rw [List.mem_append] at hv
  rcases hv with hv | hv
  ·
   exact hok v hv
  ·
   simp only [List.mem_cons,List.not_mem_nil,or_false] at hv
   rcases hv with rfl | rfl | rfl
   ·
    exact ⟨by rw [List.length_map];omega,zef hon⟩
   ·
    exact ⟨zcB _,by rw [Jf];omega⟩
   ·
    exact ⟨zcB _,by rw [Jf];omega⟩
 ·
  have e1:=Kg (s:=Kv x.rt.name) (by rw [Jf];exact s2)
  have e2:=Kg (s:=Kv x.rt.town) (by rw [Jf];exact s3)
  have e3:(Va.enc (.list (x.pt.needs.map Va.int))).length≤354:=by
   rw [Va.enc,List.length_map,Vh (by omega)]
   simp only [List.length_cons,List.length_append,List.length_nil];omega
  unfold JU JW
  rw [Va.enc,Vh (by simp [YT])]
  simp only [List.length_cons,List.length_append,List.length_nil,Va.encL_append,Va.encL];omega
theorem zn6 (I:Qv):NtM I zbD:=by
 obtain ⟨h1,h2⟩:=zkK Um (by decide) (by decide) (by decide)
 exact ⟨Sl.nil,by decide,h1,by omega⟩
def NtP (I:Qv):={x:Nt // NtM I x}
instance (I : Qv) : Inhabited (NtP I) := ⟨⟨zbD, zn6 I⟩⟩
def zpy {I:Qv}(x:NtP I):List Value:=Zn x.1
def zhl {I:Qv}(x y:NtP I):Int:=YN x.1 y.1
theorem zwy (I:Qv):Go.Sort.SWO (Go.Proofs.ltOf (zhl (I:=I))):=by
 have key:∀ a b c:Nt,¬YN a b<0→¬YN b c<0→¬YN a c<0:=fun a b c h1 h2 h3=>by
  by_cases e:YN b a=0
  ·
   rw [zjL e] at h2;exact h2 h3
  ·
   have hf:YN a b= - YN b a:=by rw [Ku]
   have h4:YN b a<0:=by omega
   exact h2 (Vx h4 h3)
 refine ⟨fun x=>?_,fun x y z h1 h2=>?_,fun x y z h1 h2=>?_⟩
 ·
  unfold Go.Proofs.ltOf zhl;rw [JV];rfl
 ·
  unfold Go.Proofs.ltOf zhl at*
  exact decide_eq_true (Vx (of_decide_eq_true h1) (of_decide_eq_true h2))
 ·
  unfold Go.Proofs.ltOf zhl at*
  exact decide_eq_false (key _ _ _ (of_decide_eq_false h1) (of_decide_eq_false h2))
def NtP.v {I:Qv}(x:NtP I):Nt:=x.1
theorem zo8 {I:Qv}:∀ (xs:List Nt),(∀ x∈xs,NtM I x)→∃ zs:List (NtP I),zs.map NtP.v=xs
 | [],_=>⟨[],rfl⟩
 | x::l,h=>by
  obtain ⟨zs,hz⟩:=zo8 l fun y hy=>h y (List.mem_cons_of_mem _ hy)
  exact ⟨(show NtP I from ⟨x,h x (List.mem_cons_self ..)⟩)::zs,congrArg (x:: ·) hz⟩
/-! ### Struck -/
theorem zcY {ws:List Nt}:∀ m,∀ x∈Vy ws m,x∈ws
 | 0,x,h=>by cases h
 | m+1,x,h=>by
  unfold Vy at h
  split at h
  ·
   exact zcY m x h
  ·
   rename_i y hy
   split at h
   ·
    rcases List.mem_append.1 h with h | h
    ·
     exact zcY m x h
    ·
     rw [List.mem_singleton] at h;subst h;exact List.mem_of_getElem? hy
   ·
    exact zcY m x h
theorem zg7 {ws:List Nt}(hs:ws.Pairwise fun x y=>¬YN y x<0):∀ m,m≤ws.length→zb6 (Vy ws m)∧(∀ y,1≤m→ws[m-1]? =some y→∃ z,(Vy ws m).getLast?=some z∧YN z y=0)∧∀ (i:Nat) (x:Nt),i<m→ws[i]? =some x→∃ z∈Vy ws m,YN z x=0
 | 0,_=>⟨fun k l x y _ hx=>by simp [Vy] at hx,fun y h=>by omega,fun i x h=>by omega⟩
 | m+1,hm=>by
  obtain ⟨h1,h2,h3⟩:=zg7 hs m (by omega)
  obtain ⟨x,hx⟩:∃ x,ws[m]? =some x:=⟨_,List.getElem?_eq_getElem (by omega)⟩
  cases hk:kpN ws m x with
  | true=>
   rw [za4 hx hk]
   refine ⟨?_,fun y _ hy=>⟨x,by simp,?_⟩,fun i u hi hu=>?_⟩
   ·
    -- all before are less
    have hlt:∀ z∈Vy ws m,YN z x<0:=by
     intro z hz
     rcases Nat.eq_zero_or_pos m with hm0 | hm0
     ·
      subst hm0;cases hz
     ·
      obtain ⟨y,hy⟩:∃ y,ws[m-1]? =some y:=⟨_,List.getElem?_eq_getElem (by omega)⟩
      rw [zhK hm0 hy] at hk
      have hne:YN x y≠0:=by simpa using hk
      have hnl:¬YN x y<0:=by
       obtain ⟨ha,ea⟩:=List.getElem?_eq_some_iff.1 hy
       obtain ⟨hb,eb⟩:=List.getElem?_eq_some_iff.1 hx
       have:=List.pairwise_iff_getElem.1 hs (m-1) m ha hb (by omega)
       rw [ea,eb] at this;exact this
      have hyx:YN y x<0:=by rw [Ku];omega
      obtain ⟨l,hl,hly⟩:=h2 y hm0 hy
      have hlx:YN l x<0:=by rw [zjL hly];exact hyx
      obtain ⟨i,hi⟩:=List.mem_iff_getElem?.1 hz
      have hil:=(List.getElem?_eq_some_iff.1 hi).1
      rw [List.getLast?_eq_getElem?] at hl
      rcases Nat.lt_or_ge i ((Vy ws m).length-1) with h4 | h4
      ·
       exact Vx (h1 i _ z l h4 hi hl) hlx
      ·
       have:i=(Vy ws m).length-1:=by omega
       rw [this,hl] at hi;cases hi;exact hlx
    intro k l u v hkl hu hv
    rcases Nat.lt_or_ge l (Vy ws m).length with h4 | h4
    ·
     rw [List.getElem?_append_left h4] at hv
     rw [List.getElem?_append_left (by omega)] at hu
     exact h1 k l u v hkl hu hv
    ·
     rw [List.getElem?_append_right h4] at hv
     have hvl:v=x:=by
      have:=(List.getElem?_eq_some_iff.1 hv).1
      simp only [List.length_singleton] at this
      have e:l-(Vy ws m).length=0:=by omega
      rw [e] at hv;cases hv;rfl
     subst hvl
     rw [List.getElem?_append_left (by
      have:=(List.getElem?_eq_some_iff.1 hv).1
      simp only [List.length_singleton] at this
      omega)] at hu
     exact hlt u (List.mem_of_getElem? hu)
   ·
    rw [Nat.add_sub_cancel,hx] at hy;cases hy;exact JV _
   ·
    rcases Nat.lt_or_ge i m with h4 | h4
    ·
     obtain ⟨z,hz,e⟩:=h3 i u h4 hu;exact ⟨z,List.mem_append_left _ hz,e⟩
    ·
     have:i=m:=by omega
     subst this;rw [hx] at hu;cases hu
     exact ⟨_,List.mem_append_right _ (List.mem_singleton.2 rfl),JV _⟩
  | false=>
   rw [zbK hx hk]
   have hm0:1≤m:=by
    rcases Nat.eq_zero_or_pos m with h | h
    ·
     subst h;simp [kpN] at hk
    ·
     exact h
   obtain ⟨y,hy⟩:∃ y,ws[m-1]? =some y:=⟨_,List.getElem?_eq_getElem (by omega)⟩
   rw [zhK hm0 hy] at hk
   have he:YN x y=0:=by simpa using hk
   have he2:YN y x=0:=by rw [Ku,he];rfl
   obtain ⟨l,hl,hly⟩:=h2 y hm0 hy
   have hlx:YN l x=0:=by rw [zjL hly];exact he2
   refine ⟨h1,fun u _ hu=>⟨l,hl,?_⟩,fun i u hi hu=>?_⟩
   ·
    rw [Nat.add_sub_cancel,hx] at hu;cases hu;exact hlx
   ·
    rcases Nat.lt_or_ge i m with h4 | h4
    ·
     exact h3 i u h4 hu
    ·
     have:i=m:=by omega
     subst this;rw [hx] at hu;cases hu
     exact ⟨l,List.mem_of_getLast? hl,hlx⟩
/-! ### Loaded -/
structure LdK (I:Qv)(rs:List Hy)(xs:List Nt):Prop where
 len:xs.length=rs.length
 ok:∀ (i:Nat) (r:Hy) (x:Nt),rs[i]? =some r→xs[i]? =some x→okN r.bytes=some (Z2 x)∧NtM I x∧Q7 x=true
theorem LdK.mono {I I':Qv}{rs:List Hy}{xs:List Nt}(h:LdK I rs xs)(hI:HLe I I'):LdK I' rs xs:=⟨h.len,fun i r x hr hx=>let ⟨h1,h2,h3⟩:=h.ok i r x hr hx;⟨h1,h2.mono hI,h3⟩⟩
theorem LdK.nil {I:Qv}:LdK I [] []:=⟨rfl,fun i r x hr=>by simp at hr⟩
theorem LdK.snoc {I:Qv}{rs:List Hy}{xs:List Nt}{r:Hy}{x:Nt}(h:LdK I rs xs)(h1:okN r.bytes=some (Z2 x))(h2:NtM I x)(h3:Q7 x=true):LdK I (rs++[r]) (xs++[x]):=by
 have hl:=h.len
 refine ⟨by simp [hl],fun i r' x' hr hx=>?_⟩
 rcases Nat.lt_or_ge i rs.length with h4 | h4
 ·
  rw [List.getElem?_append_left h4] at hr
  rw [List.getElem?_append_left (by omega)] at hx
  exact h.ok i r' x' hr hx
 ·
  rw [List.getElem?_append_right h4] at hr
  rw [List.getElem?_append_right (by omega)] at hx
  have e:i-rs.length=0:=by
   have:=(List.getElem?_eq_some_iff.1 hr).1
   simp only [List.length_singleton] at this;omega
  rw [hl,e] at hx;rw [e] at hr
  cases hr;cases hx;exact ⟨h1,h2,h3⟩
theorem LdK.all {I:Qv}{rs:List Hy}{xs:List Nt}(h:LdK I rs xs):∀ x∈xs,NtM I x∧Q7 x=true∧∃ r∈rs,okN r.bytes=some (Z2 x):=fun x hx=>by
 obtain ⟨i,hi⟩:=List.mem_iff_getElem?.1 hx
 obtain ⟨r,hr⟩:∃ r,rs[i]? =some r:=⟨_,List.getElem?_eq_getElem (by rw [←h.len];exact (List.getElem?_eq_some_iff.1 hi).1)⟩
 obtain ⟨h1,h2,h3⟩:=h.ok i r x hr hi
 exact ⟨h2,h3,r,List.mem_of_getElem? hr,h1⟩
structure LdZ (I:Qv)(rs:List Hy)(a:Option Addr)(m c:Nat)(zs:List Nt):Prop where
 nt:K9 I a m c zs
 srt:zb6 zs
 len:zs.length≤rs.length
 mem:∀ r∈rs,∃ x∈zs,okN r.bytes=some (Z2 x)
 frm:∀ x∈zs,Q7 x=true∧∃ r∈rs,okN r.bytes=some (Z2 x)
def LdQ (rs:List Hy)(v:Value)(I':Qv)(L':Go.Kn.Loc):Prop:=L'=[]∧
  ((4096<rs.length∧v= .tuple #[.agg #[.slice none 0 0],.int .i64 2])∨
   (rs.length≤4096∧(∃ r∈rs,okN r.bytes=none)∧v= .tuple #[.agg #[.slice none 0 0],.int .i64 570])∨
   (rs.length≤4096∧∃ a m c zs,v= .tuple #[.agg #[.slice a m c],.int .i64 0]∧LdZ I' rs a m c zs))
theorem zuj {I:Qv}{rs:List Hy}{xs ys:List Nt}{a:Option Addr}{m c:Nat}(h:LdK I rs xs)(hp:ys.Perm xs)(hs:ys.Pairwise fun x y=>¬YN y x<0)(hS:Sl I 45 Zn a m c (Vy ys ys.length)):LdZ I rs a m c (Vy ys ys.length):=by
 obtain ⟨h1,_,h3⟩:=zg7 hs ys.length (Nat.le_refl _)
 have hall:=h.all
 have hsub:∀ x∈Vy ys ys.length,x∈xs:=fun x hx=>hp.mem_iff.1 (zcY _ x hx)
 refine ⟨⟨hS,fun x hx=>(hall x (hsub x hx)).1.nd,fun x hx _=>(hall x (hsub x hx)).1⟩,h1,?_,fun r hr=>?_,fun x hx=>⟨(hall x (hsub x hx)).2.1,(hall x (hsub x hx)).2.2⟩⟩
 ·
  have:=UX ys ys.length
  have h5:=hp.length_eq;have h6:=h.len;omega
 ·
  obtain ⟨i,hi⟩:=List.mem_iff_getElem?.1 hr
  obtain ⟨x,hx⟩:∃ x,xs[i]? =some x:=⟨_,List.getElem?_eq_getElem (by rw [h.len];exact (List.getElem?_eq_some_iff.1 hi).1)⟩
  obtain ⟨e1,e2,_⟩:=h.ok i r x hi hx
  obtain ⟨j,hj⟩:=List.mem_iff_getElem?.1 (hp.mem_iff.2 (List.mem_of_getElem? hx))
  obtain ⟨z,hz,ez⟩:=h3 j x (List.getElem?_eq_some_iff.1 hj).1 hj
  refine ⟨z,hz,?_⟩
  rw [e1,zeR (hall z (hsub z hz)).1.ok e2.ok ez]
end
section
open Go Go.Kn Go.Proofs
theorem zqA (I:Qv):Yc Tryz.prog 82 [.slice none 0 0,.func (.func 83) #[] #[]] I (.slice none 0 0):=by
 intro g H w hw
 refine qe Tryz.func82 Tryz.ntmps82 hw ?_
 refine zR (zA (zN (Qq (zR ?_))))
 refine zM ?_
 refine zQ Zu ?_
 refine zC (zN ?_)
 refine zI ?_ ?_<;>intro hc10
 ·
  refine zR (zM ?_)
  refine zA (zN (QF (Qi ?_)))
  exact QP rfl rfl (fun w hw=>⟨by rfl,hw⟩)
 cases hc10
theorem zuF {I:Qv}{v:Value}{n:Nat}{ws:List Nt}{L:Go.Kn.Loc}(hO:Yp 45 45 v n (ws.flatMap Zn) L)(hl:ws.length=n)(hM:∀ x∈ws,NtM I x)(hn:n≤100000):Vi Tryz.prog 82 [v,.func (.func 83) #[] #[]] I L (fun u I' L'=>I'=I∧Yp 45 45 u (Vy ws n).length ((Vy ws n).flatMap Zn) L'):=by
 rcases ztI hO hl with ⟨rfl,rfl,rfl⟩ | ⟨b,c,tl,rfl,rfl,hc,hcm,htl⟩
 ·
  have:ws=[]:=List.eq_nil_of_length_eq_zero hl
  subst this
  intro g H w hw
  exact (zqA I g H w hw).mono fun e w' ⟨h1,h2⟩=>⟨_,I,[],h1,zxd _,h2,rfl,Yp.nil⟩
 intro g H w hw
 refine (ztb hl hM hn hc hcm htl g H w hw).mono ?_
 rintro e w' ⟨u,I',L',h1,h2,h3,rfl,rfl,tl',h5,rfl⟩
 exact ⟨_,_,_,h1,h2,h3,rfl,zsG rfl (Nat.le_trans (UX ws n) hc) hcm h5⟩
theorem zqT {I:Qv}{xs:List Nt}(hX:∀ x∈xs,NtM I x){v:Value}{n:Nat}{L:Go.Kn.Loc}(hO:Yp 45 45 v n (xs.flatMap Zn) L)(hn:n≤1000000):
  Vi Tryz.prog 80 [v,.func (.func 81) #[] #[]] I L (fun u I' L'=>u= .tuple #[]∧I'=I∧∃ ys:List Nt,ys.Perm xs∧ys.Pairwise (fun x y=>¬YN y x<0)∧Yp 45 45 v n (ys.flatMap Zn) L'):=by
 obtain ⟨zs,hz⟩:=zo8 xs hX
 subst hz
 have e0:∀ l:List (NtP I),l.flatMap zpy=(l.map NtP.v).flatMap Zn:=fun l=>by rw [List.flatMap_map];rfl
 rw [←e0] at hO
 intro g H w hw
 refine (zjS (α:=NtP I) (enc:=zpy) (cf:=zhl) (fun x=>Q4 x.1) (by decide) (fun blk off cap d w hC hH hb hs=>Tryz.slices_SortFunc (α:=NtP I) 45 (fun w=>Y2 Zr) (fun w=>by obtain ⟨i,hi,hz⟩:=VX;rw [←hz];exact Go.Kn.run_sizeOf hi) zpy (fun x=>Q4 x.1) (fun x=>V9 (by rfl)) zhl (zwy I) 81 #[] blk off cap d w (fun args w=>Jp zer args w) hC hH hb hs) (Tryz.slices_SortFunc_none (α:=NtP I)) I (fun I' hI x y=>zeu (x.2.mono hI) (y.2.mono hI)) zs hO hn g H w hw).mono ?_
 rintro e w' ⟨u,I',L',h1,h2,h3,rfl,rfl,zs',hp,hpw,hO'⟩
 rw [e0] at hO'
 refine ⟨_,_,_,h1,h2,h3,rfl,rfl,zs'.map NtP.v,hp.map _,?_,hO'⟩
 rw [List.pairwise_map]
 exact hpw.imp fun {a b} h=>of_decide_eq_false h
end
section
open Go Go.Kn Go.Proofs
theorem zui:Fun Tryz.prog 80:=.of Tryz.func80 (by kernel_rfl) (by kernel_rfl)
theorem zvg:Fun Tryz.prog 82:=.of Tryz.func82 (by kernel_rfl) (by kernel_rfl)
theorem zhd:SlT Tryz.prog 60 80 1:=.of (by kernel_rfl)
theorem zoq {I:Qv}{av:Option Addr}{n c:Nat}{rs:List Hy}(hR:zrH I av n c rs)(hn:n≤100000)(hb:∀ r∈rs,r.n≤100000):Vi Tryz.prog 24 [.slice av n c] I [] (LdQ rs):=by
 intro g H w hw
 refine qe Tryz.func24 Tryz.ntmps24 hw ?_
 have hIc:=zxd I
 have hln:=hR.sl.len
 refine zR ?_
 refine Qt zig rfl rfl (fun b_2=>?_)
 refine zA (zN (Qq (zR ?_)))
 refine zM ?_
 refine zQ zhd ?_
 refine zC (zN ?_)
 refine zI ?_ ?_<;>intro hc11
 ·
  have h11:4096<n:=by have h:=hc11;simp at h;omega
  refine zR ?_
  refine zV (Qg rfl Jm (fun hg=>by exact Cells.g0) rfl) ?_
  refine zh zaO ?_
  refine zA (zN (QF (Qi ?_)))
  exact Z1 rfl rfl rfl Jm (by exact zxb) rfl (fun w hw=>⟨_,I,[],rfl,hIc,hw.subL Qe,rfl,.inl ⟨by omega,rfl⟩⟩)
 have h11:n≤4096:=by have h:=hc11;simp at h;omega
 refine Qw (Qc (zR (zA (zN (Qq (zR ?_))))))
 refine zM ?_
 refine zQ zhd ?_
 refine zM (zN (QD ?_))
 refine zU [(2,_),(13,_),(14,_)] (fun T L0 mz E I' loc'=>∃ (k:Nat) (v:Value) (Lw:Go.Kn.Loc) (xs:List Nt),mz=n-k∧E=(4,v)::(15,.int .i64 k)::T∧HLe I I'∧Lw++[(b_2,.cells #[.slice none 0 0] 59 (0,0))]=loc'∧k≤n∧Yp 45 45 v k (xs.flatMap Zn) Lw∧LdK I' (rs.take k) xs) ?_ (h:=⟨0,_,[],[],rfl,rfl,zxd _,rfl,Nat.zero_le _,Yp.nil,LdK.nil⟩)
 rintro mz E J1 loc' ⟨k,v,Lw,xs,rfl,rfl,hJ,rfl,hk,hO,hLK⟩
 have hR:=hR.mono hJ;have hIc:=hIc.trans hJ
 have hB0:=hJ
 refine zR (zC (zN (Qq ?_)))
 refine zI ?_ ?_<;>intro hc16
 ·
  have hlt_k:k<n:=by have h:=hc16;simp at h;omega
  obtain ⟨r,hr⟩:∃ y,rs[k]? =some y:=⟨_,List.getElem?_eq_getElem (by omega)⟩
  have hrm:=List.mem_of_getElem? hr
  have hy:=hR.m r hrm
  refine Qw (Qc (Qq (QD (zR ?_))))
  refine zV (QV rfl rfl zhd hR.sl (fun hg=>by omega)) ?_
  refine zV (Qd rfl UH (fun hg=>by exact zw6 hR.sl hr rfl)) ?_
  refine zA ?_
  refine zN (zR ?_)
  refine zM ?_
  refine QE (cap:=[]) (vs:=[_]) rfl rfl zlK .nil (zkh hy.sl hy.byte (hb r hrm)) rfl rfl ?_
  rintro vv2 I2 L2 hI2 ⟨rfl,cs,bb,rfl,hrd⟩
  have hLK:=hLK.mono hI2;have hIc:=hIc.trans hI2;have hB0:=hB0.trans hI2
  refine zM ?_
  refine zE ?_
  refine zE ?_
  refine Qt Wj rfl rfl (fun b_7=>?_)
  refine Vm (old:=Zn zbD) rfl rfl VX hrd.1.1 rfl hrd.1.2 rfl (by repeat (first | exact Upd.here | apply Upd.there | apply Qx)) ?_
  refine zA (zN (Qq (zR ?_)))
  refine zM ?_
  refine zO (zN ?_)
  refine zI ?_ ?_<;>intro hc25
  ·
   have hno:okN r.bytes=none:=by have h:=zhi hrd;have h2:bb=false:=(by simpa using hc25);rw [h2] at h;simpa using h
   refine zR ?_
   refine zV (Qg rfl Jm (fun hg=>by (repeat (first | exact zxb | apply zxa | apply zxc))) rfl) ?_
   refine Vm rfl rfl zaO rfl rfl rfl rfl (by (repeat (first | exact Upd.here | apply Upd.there | apply Qx))) ?_
   refine zA (zN (QF (Qi (Qz (Qi (Qi (Qz ?_)))))))
   refine Qi ?_
   exact Z1 rfl rfl rfl Jm (by (repeat (first | exact zxb | apply zxa | apply zxc))) rfl (fun w hw=>⟨_,I2,[],rfl,hIc,hw.subL Qe,rfl,.inr (.inl ⟨by omega,⟨r,hrm,hno⟩,rfl⟩)⟩)
  obtain ⟨t9,_,rfl,hNd9,hok9⟩:=zgl hrd (by rw [zhi hrd];simpa using hc25)
  have hbl9:r.bytes.length≤100000:=by have h:=hy.sl.len;have h2:=hb r hrm;omega
  have hTM:=zgz hy.byte hbl9 hok9 hNd9
  have hTf:=zeF hy.byte hbl9 hok9 hNd9
  refine Qw (Qc (Qk (zM ?_)))
  refine zV (Qg rfl Zr (fun hg=>by exact Cells.g0) rfl) ?_
  refine Ql (ps:=[(0,_)]) (m:=[Zn t9]) Ve rfl (.cons rfl (.nil)) rfl (by simp [Q4]) (by decide) (by decide) rfl rfl (fun b_29=>?_)
  refine QX (v:=_) (ys:=[t9].flatMap Zn) (L:=Lw) rfl rfl Ve hO (by repeat (first | exact .cons .here .nil | exact Qu | exact Qr | apply Qp | apply Qo)) ⟨rfl,fun _=>rfl,by repeat (first | exact zxb | apply zxa | apply zxc)⟩ (Xf [t9]) (by omega) rfl rfl ?_
  intro v9 L9 hO9 _;rw [←List.flatMap_append] at hO9
  refine zA (Qb (Qn (Qc (Qk ?_))))
  refine zB ?_
  refine zM (Qb ?_)
  exact zm (h:=⟨n-(k+1),by omega,k+1,_,_,_,rfl,rfl,hB0,rfl,by omega,hO9,by rw [ZD hr];exact hLK.snoc hok9 hTM hTf⟩)
 have hge_k:n≤k:=by have h:=hc16;simp at h;omega
 obtain rfl:k=n:=by omega
 rw [Yl hln (Nat.le_refl _)] at hLK
 refine Zy (Qs (Qs (QB (Qc (zR (zM ?_))))))
 refine QE (cap:=[]) (vs:=[_,_]) rfl rfl zui Qr (zqT (fun x hx=>(hLK.all x hx).1) hO (by omega)) rfl rfl ?_
 rintro vv3 I3 L3 hI3 ⟨rfl,rfl,ys,hperm,hpw,hO2⟩
 have hLK:=hLK.mono hI3;have hIc:=hIc.trans hI3
 refine zN (zR ?_)
 refine zM ?_
 refine QE (cap:=[]) (vs:=[_,_]) rfl rfl zvg Qr (zuF hO2 (by rw [hperm.length_eq,hLK.len];exact hln) (fun x hx=>(hLK.all x (hperm.mem_iff.1 hx)).1) (by omega)) rfl rfl ?_
 rintro vv4 I4 L4 hI4 ⟨rfl,hO3⟩
 have hLK:=hLK.mono hI4;have hIc:=hIc.trans hI4
 refine zF Ym ?_
 refine Zg rfl rfl zfT hO3.one rfl (by (repeat (first | exact Upd.here | apply Upd.there | apply Qx))) rfl ?_
 refine zN (Qq ?_)
 refine Zw hO3 Q4 (by decide) (by repeat (first | exact .cons .here .nil | exact Qu | exact Qr | apply Qp | apply Qo)) (fun I5 hI5 af5 cf5 ef5 hZ=>?_)
 subst ef5
 have hLK:=hLK.mono hI5;have hIc:=hIc.trans hI5
 refine Qk ?_
 refine zV (Qg rfl Jm (fun hg=>by exact Cells.g0) rfl) ?_
 refine zh zaO ?_
 refine zA (zN (QF ?_))
 exact Z1 rfl rfl rfl Jm (by exact zxb) rfl (fun w hw=>⟨_,I5,[],rfl,hIc,hw.subL Qe,rfl,.inr (.inr ⟨by omega,_,_,_,_,rfl,zuj hLK hperm hpw (by rw [hperm.length_eq,hLK.len,hln];exact hZ)⟩)⟩)
end
section
open Go Go.Kn Go.Proofs
def smC (p q:Pt):Bool:=(((((p.id != q.id||p.kind != q.kind)||p.sign != q.sign)||p.field != q.field)|| !zlZ p.nw q.nw)||(p.n:Int) != (q.n:Int))
def smP (p q:Pt):Bool:= !smC p q&&decide (p.needs=q.needs)
theorem zvK {p q:Pt}(h:smC p q=true):smP p q=false:=by simp [smP,h]
theorem zr9 {p q:Pt}(h:smC p q=false):smP p q=decide (p.needs=q.needs):=by simp [smP,h]
theorem zvL {p q:Pt}(h:smC p q=false):p.n=q.n:=by
 unfold smC at h
 rw [Bool.or_eq_false_iff] at h
 have:=h.2
 simp only [bne_eq_false_iff_eq] at this
 omega
theorem zdQ {xs ys:List Int}{k:Nat}{x y:Int}(h:xs.take k=ys.take k)(hx:xs[k]? =some x)(hy:ys[k]? =some y)(e:x=y):xs.take (k+1)=ys.take (k+1):=by rw [ZD hx,ZD hy,h,e]
theorem zv6 {xs ys:List Int}{k:Nat}{x y:Int}(hx:xs[k]? =some x)(hy:ys[k]? =some y)(e:x≠y):xs≠ys:=fun h=>by rw [h,hy] at hx;exact e (Option.some.inj hx).symm
def smN (x y:Nt):Bool:=((((x.kind==y.kind)&&zmp x.lm y.lm)&&smP x.pt y.pt)&&L.lsEq x.ls y.ls)&&S.rtEq x.rt y.rt
def smL:List Nt→List Nt→Bool
 | [],[]=>true
 | x::xs,y::ys=>smN x y&&smL xs ys
 | _,_=>false
theorem zjW:∀ {xs ys:List Nt},xs.length≠ys.length→smL xs ys=false
 | [],[],h=>absurd rfl h
 | [],_::_,_=>rfl
 | _::_,[],_=>rfl
 | x::xs,y::ys,h=>by simp only [smL,zjW (xs:=xs) (ys:=ys) (by simpa using h),Bool.and_false]
theorem zox:∀ {xs ys:List Nt} {k:Nat} {x y:Nt},xs[k]? =some x→ys[k]? =some y→smN x y=false→smL xs ys=false
 | [],_,_,_,_,h,_,_=>by simp at h
 | _::_,[],_,_,_,_,h,_=>by simp at h
 | a::xs,b::ys,0,x,y,hx,hy,h=>by cases hx;cases hy;simp [smL,h]
 | a::xs,b::ys,k+1,x,y,hx,hy,h=>by
  have:=zox (xs:=xs) (ys:=ys) (k:=k) (by simpa using hx) (by simpa using hy) h
  simp [smL,this]
theorem zij:∀ {xs ys:List Nt},xs.length=ys.length→(∀ (j:Nat) (x y:Nt),j<xs.length→xs[j]? =some x→ys[j]? =some y→smN x y=true)→smL xs ys=true
 | [],[],_,_=>rfl
 | [],_::_,h,_=>by simp at h
 | _::_,[],h,_=>by simp at h
 | x::xs,y::ys,hl,h=>by
  rw [smL,h 0 x y (by simp) rfl rfl,zij (by simpa using hl) (fun j u v hj hu hv=>h (j+1) u v (by simpa using hj) (by simpa using hu) (by simpa using hv))];rfl
theorem zh6 {xs ys:List Nt}{k:Nat}{x y:Nt}(hx:xs[k]? =some x)(hy:ys[k]? =some y)(h:∀ (j:Nat) (u v:Nt),j<k→xs[j]? =some u→ys[j]? =some v→smN u v=true)(e:smN x y=true):∀ (j:Nat) (u v:Nt),j<k+1→xs[j]? =some u→ys[j]? =some v→smN u v=true:=fun j u v hj hu hv=>by
 rcases Nat.lt_or_ge j k with h1 | h1
 ·
  exact h j u v h1 hu hv
 ·
  have:j=k:=by omega
  subst this;rw [hx] at hu;rw [hy] at hv;cases hu;cases hv;exact e
end
section
open Go Go.Kn Go.Proofs
theorem zoK:Fun Tryz.prog 85:=.of Tryz.func85 (by kernel_rfl) (by kernel_rfl)
theorem zoP:Fun Tryz.prog 86:=.of Tryz.func86 (by kernel_rfl) (by kernel_rfl)
theorem zsP {I:Qv}{p q:Pt}(hP:Nd I p)(hQ:Nd I q)(hn:p.n≤100000):Yc Tryz.prog 85 [KW p,KW q] I (.bool (smP p q)):=by
 intro g H w hw
 refine qe Tryz.func85 Tryz.ntmps85 hw ?_
 have hIc:=zxd I
 have hl1:p.needs.length=p.n:=hP.len
 have hl2:q.needs.length=q.n:=hQ.len
 refine zR ?_
 refine Zh rfl rfl rfl (fun b_2=>?_)
 refine Zh rfl rfl rfl (fun b_3=>?_)
 refine zA (Qb ?_)
 refine QO .here (fun I1 hI1 hb1=>?_)
 have hP:=hP.mono hI1;have hQ:=hQ.mono hI1;have hIc:=hIc.trans hI1
 have h3:=BxI.of hb1
 refine QO .here (fun I2 hI2 hb2=>?_)
 have hP:=hP.mono hI2;have hQ:=hQ.mono hI2;have h3:=h3.mono hI2;have hIc:=hIc.trans hI2
 have h2:=BxI.of hb2
 refine Qc (Qq (zR ?_))
 refine zF YI ?_
 refine zV (Qd rfl QA (fun hg=>by exact QG.imm h2.out rfl)) ?_
 refine zF YI ?_
 refine zV (Qd rfl QA (fun hg=>by exact QG.imm h3.out rfl)) ?_
 refine zC ?_
 refine zM ?_
 refine Ze 5 rfl rfl rfl ?_
 refine zJ (Qa rfl KM) ?_
 refine zJ (Qd rfl QA (fun hg=>by exact QG.imm h2.out rfl)) ?_
 refine zJ (Qa rfl KM) ?_
 refine zJ (Qd rfl QA (fun hg=>by exact QG.imm h3.out rfl)) ?_
 refine zJ (QT rfl rfl rfl) ?_
 refine ZP rfl rfl rfl rfl rfl ?_
 refine zM ?_
 refine Ze 12 rfl rfl rfl ?_
 refine zJ (Qa rfl Vj) ?_
 refine zJ (Qd rfl QA (fun hg=>by exact QG.imm h2.out rfl)) ?_
 refine zJ (Qa rfl Vj) ?_
 refine zJ (Qd rfl QA (fun hg=>by exact QG.imm h3.out rfl)) ?_
 refine zJ (QT rfl rfl rfl) ?_
 refine ZP rfl rfl rfl rfl rfl ?_
 refine zM ?_
 refine Ze 19 rfl rfl rfl ?_
 refine zJ (Qa rfl V2) ?_
 refine zJ (Qd rfl QA (fun hg=>by exact QG.imm h2.out rfl)) ?_
 refine zJ (Qa rfl V2) ?_
 refine zJ (Qd rfl QA (fun hg=>by exact QG.imm h3.out rfl)) ?_
 refine zJ (QT rfl rfl rfl) ?_
 refine ZP rfl rfl rfl rfl rfl ?_
 refine zM ?_
 refine Ze 26 rfl rfl rfl ?_
 refine zJ (Qa rfl Jh) ?_
 refine zJ (Qg rfl VR (fun hg=>by exact zmL (BxI.cells (vs:=W5 p) h2)) rfl) ?_
 refine zJ (Qa rfl Jh) ?_
 refine zJ (Qg rfl VR (fun hg=>by exact zmL (BxI.cells (vs:=W5 q) h3)) rfl) ?_
 refine zJ (ziK rfl rfl zci rfl) ?_
 refine ZP rfl rfl rfl rfl rfl ?_
 refine zM ?_
 refine Ze 33 rfl rfl rfl ?_
 refine zJ (Qa rfl Y6) ?_
 refine zJ (Qd rfl Kb (fun hg=>by exact QG.imm h2.out rfl)) ?_
 refine zJ (Q9 rfl Yo) ?_
 refine zJ (Qa rfl Y6) ?_
 refine zJ (Qd rfl Kb (fun hg=>by exact QG.imm h3.out rfl)) ?_
 refine zJ (Q9 rfl Yo) ?_
 refine zJ (QT rfl rfl rfl) ?_
 refine ZP rfl rfl rfl rfl rfl ?_
 refine zN ?_
 refine zI ?_ ?_<;>intro hc47
 ·
  have hcc:smC p q=true:=hc47
  refine zR (zA (zN (QF (Qi ?_))))
  exact QP rfl rfl (fun w hw=>⟨by rw [zvK hcc],(hw.mono hIc).subL Qe⟩)
 have hcc:smC p q=false:=hc47
 have hnn:=zvL hcc
 refine Qw (Qc (Qq (zR (zA (zN (QD ?_))))))
 refine zU [(2,_),(3,_)] (fun T L0 mz E I' loc'=>∃ (k:Nat),mz=p.n-k∧E=(5,.int .i64 k)::T∧I2=I'∧L0=loc'∧k≤p.n∧p.needs.take k=q.needs.take k) ?_ (h:=⟨0,rfl,rfl,rfl,rfl,Nat.zero_le _,rfl⟩)
 rintro mz E I' loc' ⟨k,rfl,rfl,rfl,rfl,hk,htk⟩
 refine Qq (zR (zM ?_))
 refine zF Y6 ?_
 refine zV (Qd rfl Kb (fun hg=>by exact QG.imm h2.out rfl)) ?_
 refine zQ Yo ?_
 refine zC (zN ?_)
 refine zI ?_ ?_<;>intro hc52
 ·
  have hlt_k:k<p.n:=by have h:=hc52;simp at h;omega
  obtain ⟨x,hx⟩:∃ y,p.needs[k]? =some y:=⟨_,List.getElem?_eq_getElem (by omega)⟩
  obtain ⟨y,hy⟩:∃ y,q.needs[k]? =some y:=⟨_,List.getElem?_eq_getElem (by omega)⟩
  refine Qw (Qc (Qq (QD (Qq ?_))))
  have hD:=zxd I2
  refine ZL ?_
  refine Q0 I2 [] mixed ?_
  refine zT 0 rfl (Qa rfl Y6) hD ?_
  refine zT 1 rfl (Qd rfl Kb (fun hg=>by exact QG.imm h2.out rfl)) hD ?_
  refine zT 2 rfl (Qh rfl) hD ?_
  refine zT 3 rfl (zX Yo hP) hD ?_
  refine zT 4 rfl (Qd rfl QA (fun hg=>by exact zw6 hP hx rfl)) hD ?_
  refine zT 5 rfl (Qa rfl Y6) hD ?_
  refine zT 6 rfl (Qd rfl Kb (fun hg=>by exact QG.imm h3.out rfl)) hD ?_
  refine zT 7 rfl (Qh rfl) hD ?_
  refine zT 8 rfl (zX Yo hQ) hD ?_
  refine zT 9 rfl (Qd rfl QA (fun hg=>by exact zw6 hQ hy rfl)) hD ?_
  refine zT 10 rfl (QT rfl rfl rfl) hD ?_
  refine Qm (by kernel_rfl) ?_
  refine Qy ?_
  refine Qc ?_
  refine zI ?_ ?_<;>intro hc65
  ·
   have hxy:x≠y:=by simpa using hc65
   refine zR (zA (zN (QF (Qz (Qi (Qi (Qz ?_)))))))
   refine Qi ?_
   exact QP rfl rfl (fun w hw=>⟨by rw [zr9 hcc,decide_eq_false (zv6 hx hy hxy)],(hw.mono hIc).subL Qe⟩)
  have hxy:x=y:=by simpa using hc65
  refine Qw (Qn (Qc (Qk (zM ?_))))
  refine zB ?_
  refine zA (Qb ?_)
  exact zm (h:=⟨p.n-(k+1),by omega,k+1,rfl,rfl,rfl,rfl,by omega,zdQ htk hx hy hxy⟩)
 have hge_k:p.n≤k:=by have h:=hc52;simp at h;omega
 rw [Yl hl1 hge_k,Yl hl2 (by omega)] at htk
 refine Zy (Qs (Qs (QB (Qc (zR (zA (zN ?_)))))))
 refine QF ?_
 exact QP rfl rfl (fun w hw=>⟨by rw [zr9 hcc,htk];simp,(hw.mono hIc).subL Qe⟩)
theorem zud {I:Qv}{x y:Nt}(hX:Nd I x.pt)(hY:Nd I y.pt)(hn:x.pt.n≤100000):Yc Tryz.prog 86 [JK x,JK y] I (.bool (smN x y)):=by
 intro g H w hw
 refine qe Tryz.func86 Tryz.ntmps86 hw ?_
 have hIc:=zxd I
 refine zR ?_
 refine Zh rfl rfl rfl (fun b_2=>?_)
 refine Zh rfl rfl rfl (fun b_3=>?_)
 refine zA (Qb ?_)
 refine QO .here (fun I1 hI1 hb1=>?_)
 have hX:=hX.mono hI1;have hY:=hY.mono hI1;have hIc:=hIc.trans hI1
 have h3:=BxI.of hb1
 refine QO .here (fun I2 hI2 hb2=>?_)
 have hX:=hX.mono hI2;have hY:=hY.mono hI2;have h3:=h3.mono hI2;have hIc:=hIc.trans hI2
 have h2:=BxI.of hb2
 refine Qc (zR ?_)
 refine zF Vl ?_
 refine zV (Qd rfl QA (fun hg=>by exact QG.imm h2.out rfl)) ?_
 refine zF Vl ?_
 refine zV (Qd rfl QA (fun hg=>by exact QG.imm h3.out rfl)) ?_
 refine zC ?_
 refine zM ?_
 refine QL 5 rfl rfl rfl ?_
 refine zK (Qa rfl VI) ?_
 refine zK (Qg rfl Kt (fun hg=>by exact zfO (BxI.cells (vs:=Zn x) h2)) rfl) ?_
 refine zK (Qa rfl VI) ?_
 refine zK (Qg rfl Kt (fun hg=>by exact zfO (BxI.cells (vs:=Zn y) h3)) rfl) ?_
 refine zK (za7 rfl rfl ze7 rfl) ?_
 refine QW rfl rfl rfl rfl rfl ?_
 refine zM ?_
 refine QL 12 rfl rfl rfl ?_
 refine zK (Qa rfl Vv) ?_
 refine zK (Qg rfl JA (fun hg=>by exact zhz (BxI.cells (vs:=Zn x) h2)) rfl) ?_
 refine zK (Qa rfl Vv) ?_
 refine zK (Qg rfl JA (fun hg=>by exact zhz (BxI.cells (vs:=Zn y) h3)) rfl) ?_
 refine qg (vs:=[_,_]) rfl zoK (fun hg=>zsP hX hY hn) ?_
 refine QW rfl rfl rfl rfl rfl ?_
 refine zM ?_
 refine QL 19 rfl rfl rfl ?_
 refine zK (Qa rfl JX) ?_
 refine zK (Qg rfl JZ (fun hg=>by exact zhO (BxI.cells (vs:=Zn x) h2)) rfl) ?_
 refine zK (Qa rfl JX) ?_
 refine zK (Qg rfl JZ (fun hg=>by exact zhO (BxI.cells (vs:=Zn y) h3)) rfl) ?_
 refine zK (Wz rfl rfl zgs rfl) ?_
 refine QW rfl rfl rfl rfl rfl ?_
 refine zM ?_
 refine QL 26 rfl rfl rfl ?_
 refine zK (Qa rfl YR) ?_
 refine zK (Qg rfl Vn (fun hg=>by exact ze2 (BxI.cells (vs:=Zn x) h2)) rfl) ?_
 refine zK (Qa rfl YR) ?_
 refine zK (Qg rfl Vn (fun hg=>by exact ze2 (BxI.cells (vs:=Zn y) h3)) rfl) ?_
 refine zK (Wz rfl rfl Xo rfl) ?_
 refine QW rfl rfl rfl rfl rfl ?_
 refine zA (zN (QF ?_))
 exact QP rfl rfl (fun w hw=>⟨by rfl,(hw.mono hIc).subL Qe⟩)
theorem zuN {I:Qv}{av bv:Option Addr}{n c n2 c2:Nat}{xs ys:List Nt}(hS:Sl I 45 Zn av n c xs)(hT:Sl I 45 Zn bv n2 c2 ys)(hNd:∀ x∈xs,Nd I x.pt)(hNe:∀ y∈ys,Nd I y.pt)(hsm:∀ x∈xs,x.pt.n≤100000)(hn:n≤100000):Yc Tryz.prog 31 [.slice av n c,.slice bv n2 c2] I (.bool (smL xs ys)):=by
 intro g H w hw
 refine qe Tryz.func31 Tryz.ntmps31 hw ?_
 have hl1:=hS.len
 have hl2:=hT.len
 refine zR (zA (zN (Qq (zR ?_))))
 refine zM ?_
 refine zQ Zu ?_
 refine zM ?_
 refine zQ Zu ?_
 refine zC (zN ?_)
 refine zI ?_ ?_<;>intro hc10
 ·
  refine zR (zA (zN (QF (Qi ?_))))
  exact QP rfl rfl (fun w hw=>⟨by rw [zjW (by simp at hc10;omega)],hw⟩)
 have h10:n=n2:=by have h:=hc10;simp at h;omega
 refine Qw (Qc (Qq (zR (zA (zN (QD ?_))))))
 refine zU [(0,_),(1,_)] (fun T L0 mz E I' loc'=>∃ (k:Nat),mz=n-k∧E=(5,.int .i64 k)::T∧I=I'∧L0=loc'∧k≤n∧(∀ (j:Nat) (u v:Nt),j<k→xs[j]? =some u→ys[j]? =some v→smN u v=true)) ?_ (h:=⟨0,rfl,rfl,rfl,rfl,Nat.zero_le _,fun j u v h=>absurd h (Nat.not_lt_zero _)⟩)
 rintro mz E I' loc' ⟨k,rfl,rfl,rfl,rfl,hk,hall⟩
 refine Qq (zR (zM ?_))
 refine zM ?_
 refine zQ Zu ?_
 refine zC (zN ?_)
 refine zI ?_ ?_<;>intro hc14
 ·
  have hlt_k:k<n:=by have h:=hc14;simp at h;omega
  obtain ⟨x,hx⟩:∃ y,xs[k]? =some y:=⟨_,List.getElem?_eq_getElem (by omega)⟩
  obtain ⟨y,hy⟩:∃ y,ys[k]? =some y:=⟨_,List.getElem?_eq_getElem (by omega)⟩
  have hxm:=List.mem_of_getElem? hx
  have hym:=List.mem_of_getElem? hy
  refine Qw (Qc (Qq (QD (Qq ?_))))
  have hD:=zxd I
  refine ZL ?_
  refine Q0 I [] mixed ?_
  refine zT 0 rfl (Qh rfl) hD ?_
  refine zT 1 rfl (Qh rfl) hD ?_
  refine zT 2 rfl (zX Zu hS) hD ?_
  refine zT 3 rfl (Qg rfl Zr (fun hg=>by exact zxe hS hx) rfl) hD ?_
  refine zT 4 rfl (Qh rfl) hD ?_
  refine zT 5 rfl (Qh rfl) hD ?_
  refine zT 6 rfl (zX Zu hT) hD ?_
  refine zT 7 rfl (Qg rfl Zr (fun hg=>by exact zxe hT hy) rfl) hD ?_
  refine qd 8 rfl ?_
  refine qcV (vs:=[_,_]) rfl zoP (zud (hNd x hxm) (hNe y hym) (hsm x hxm)) ?_
  refine Qb ?_
  refine zD hD ?_
  refine zT 9 rfl (Yz rfl) hD ?_
  refine Qm (by kernel_rfl) ?_
  refine Qy ?_
  refine Qc ?_
  refine zI ?_ ?_<;>intro hc26
  ·
   refine zR (zA (zN (QF (Qz (Qi (Qi (Qz ?_)))))))
   refine Qi ?_
   exact QP rfl rfl (fun w hw=>⟨by rw [zox hx hy (by simpa using hc26)],hw⟩)
  have hxy:smN x y=true:=by simpa using hc26
  refine Qw (Qn (Qc (Qk (zM ?_))))
  refine zB ?_
  refine zA (Qb ?_)
  exact zm (h:=⟨n-(k+1),by omega,k+1,rfl,rfl,rfl,rfl,by omega,zh6 hx hy hall hxy⟩)
 have hge_k:n≤k:=by have h:=hc14;simp at h;omega
 refine Zy (Qs (Qs (QB (Qc (zR (zA (zN ?_)))))))
 refine QF ?_
 exact QP rfl rfl (fun w hw=>⟨by rw [zij (by omega) (fun j u v hj hu hv=>hall j u v (by omega) hu hv)],hw⟩)
end
section
open Go Go.Kn Go.Proofs
theorem zss {n:Int}(hn: -9223372036854775808≤n∧n≤9223372036854775807)(h:n≥0):IntKind.u64.wrap (2*IntKind.u64.wrap n)=((zz n:Nat):Int):=by
 rw [Yr (n:=n) ⟨by omega,by omega⟩,Yr ⟨by omega,by omega⟩]
 unfold zz
 rw [if_pos h];omega
theorem zuQ {n:Int}(hn: -9223372036854775808≤n∧n≤9223372036854775807)(h:¬n≥0):IntKind.u64.wrap (IntKind.u64.wrap (2*IntKind.u64.wrap (IntKind.i64.wrap (-(IntKind.i64.wrap (n+1)))))+1)=((zz n:Nat):Int):=by
 rw [Vk (n:=n+1) ⟨by omega,by omega⟩,Vk ⟨by omega,by omega⟩,Yr (n:= -(n+1)) ⟨by omega,by omega⟩,Yr (n:=2* -(n+1)) ⟨by omega,by omega⟩,Yr ⟨by omega,by omega⟩]
 unfold zz
 rw [if_neg h];omega
theorem zw5 (u:Nat):(u:Int).tmod 128=((u % 128:Nat):Int):=rfl
theorem zwC (u:Nat):(u:Int).tdiv 128=((u / 128:Nat):Int):=rfl
theorem zu1 (u:Nat):IntKind.u8.wrap (IntKind.u64.wrap ((u:Int).tmod 128+128))=((u % 128+128:Nat):Int):=by
 rw [zw5,Yr ⟨by omega,by omega⟩,zbb ⟨by omega,by omega⟩]
 omega
theorem ztq {u:Nat}(hu:u<2^64):IntKind.u64.wrap ((u:Int).tdiv 128)=((u / 128:Nat):Int):=by
 rw [zwC,Yr ⟨by omega,by omega⟩]
def YQ (bs:List Nat)(v:Value)(I':Qv)(L':Go.Kn.Loc):Prop:=L'=[]∧∃ a c,v= .slice a bs.length c∧Sl I' 1 VL a bs.length c bs
theorem zbB {I:Qv}{a:Option Addr}{n c:Nat}{bs bs':List Nat}(h:Sl I 1 VL a n c bs')(e:bs=bs'):YQ bs (.slice a n c) I []:=by
 subst e
 have:=h.len
 subst this
 exact ⟨rfl,a,c,rfl,h⟩
theorem zlm {e b:Nat}(x:Nat):Yp e 1 (.slice (some ⟨b,0,none⟩) 1 1) 1 (([x]:List Nat).flatMap VL) [(b,.cells (VL x).toArray e (0,0))]:=
 ⟨rfl,.inr ⟨b,1,_,rfl,rfl,Nat.le_refl _,by decide,rfl,rfl⟩⟩
theorem zhv (l:List Va)(k:Nat):Va.depthL (l.take k)≤Va.depthL l:=by
 conv=>rhs;rw [←List.take_append_drop k l]
 rw [Xk];omega
theorem zah {l:List Va}{k:Nat}{x:Va}(hx:l[k]? =some x):Va.encL (l.take (k+1))=Va.encL (l.take k)++Va.enc x:=by
 have h:l.take (k+1)=l.take k++[x]:=by
  obtain ⟨h1,h2⟩:=List.getElem?_eq_some_iff.1 hx
  rw [List.take_add_one,List.getElem?_eq_getElem h1,h2];rfl
 rw [h,Va.encL_append]
 simp [Va.encL]
theorem zlg (xs:List Int):(xs.flatMap Yk).length=xs.length:=by rw [YS Zx,Nat.mul_one]
theorem zwK {e b:Nat}(xs:List Int){n:Nat}{cs:List Value}(hn:xs.length=n)(hc:cs=xs.flatMap Yk)(hm:n≤maxLen):Yp e 1 (.slice (some ⟨b,0,none⟩) n n) n (xs.flatMap Yk) [(b,.cells cs.toArray e (0,0))]:=by
 subst hn;subst hc
 have h:=zlg xs
 exact ⟨by rw [h,Nat.mul_one],.inr ⟨b,_,_,rfl,rfl,Nat.le_refl _,hm,by rw [List.size_toArray,h,Nat.mul_one],by
  show (xs.flatMap Yk).take _=_
  rw [Nat.mul_one,←h,List.take_length]⟩⟩
end
section
open Go Go.Kn Go.Proofs
theorem zbt:Fun Tryz.prog 220:=.of Tryz.func220 (by kernel_rfl) (by kernel_rfl)
theorem zt6 (I:Qv){n:Int}(hn: -9223372036854775808≤n∧n≤9223372036854775807):Yc Tryz.prog 221 [.int .i64 n] I (.int .u64 (zz n)):=by
 intro g H w hw
 refine qe Tryz.func221 Tryz.ntmps221 hw ?_
 refine zR (zA (zN (Qq (zR ?_))))
 refine zM ?_
 refine zC (zN ?_)
 refine zI ?_ ?_<;>intro hc4
 ·
  have h4:n≥0:=by simpa using hc4
  refine zR (zM ?_)
  refine zV (Z6 rfl VS) ?_
  refine zV (za9 rfl rfl rfl) ?_
  refine zA (zN (QF (Qi ?_)))
  exact QP rfl rfl (fun w hw=>⟨by rw [←zss hn h4],hw⟩)
 have h4:¬n≥0:=by simpa using hc4
 refine Qw (Qc (zR (zM ?_)))
 refine zV (za9 rfl rfl rfl) ?_
 refine zV (zoZ rfl) ?_
 refine zV (Z6 rfl VS) ?_
 refine zV (za9 rfl rfl rfl) ?_
 refine zV (za9 rfl rfl rfl) ?_
 refine zA (zN (QF ?_))
 exact QP rfl rfl (fun w hw=>⟨by rw [←zuQ hn h4,Int.zero_sub],hw⟩)
theorem zfL {I:Qv}{u:Nat}(hu:u<2^64)(ih:(∀ u',u'<u→∀ I,Vi Tryz.prog 220 [.int .u64 (u':Nat)] I [] (YQ (Jt u')))):Vi Tryz.prog 220 [.int .u64 (u:Nat)] I [] (YQ (Jt u)):=by
 intro g H w hw
 refine qe Tryz.func220 Tryz.ntmps220 hw ?_
 have hIc:=zxd I
 have h10:=KJ hu
 have h10b:=KJ (u:=u / 128) (by omega)
 refine zR (zA (zN (Qq (zR ?_))))
 refine zM ?_
 refine zC (zN ?_)
 refine zI ?_ ?_<;>intro hc4
 ·
  have hlt:u<128:=by have h:=hc4;simp at h;omega
  refine zR (zM ?_)
  refine zV (JG (Z6 rfl We) (congrArg (Value.int .u8) (zbb (n:=(u:Int)) ⟨by omega,by omega⟩))) ?_
  refine Ql (ps:=[(0,_)]) (m:=[VL u]) Y8 rfl (.cons rfl (.nil)) rfl (by simp [ZW]) (by decide) (by decide) rfl rfl (fun b_7=>?_)
  refine zA (Qb ?_)
  refine QO .here (fun I1 hI1 hb1=>?_)
  have hIc:=hIc.trans hI1
  have hZ:=Sl.lit (enc:=VL) [u] rfl ZW hb1
  refine Qc (QF (Qi ?_))
  exact QP rfl rfl (fun w hw=>⟨_,I1,[],rfl,hIc,by exact hw,zbB hZ (by rw [Vh hlt])⟩)
 have hge:¬u<128:=by have h:=hc4;simp at h;omega
 refine Qw (Qc (zR (zM ?_)))
 refine zV (Yg rfl rfl (fun hg=>by decide)) ?_
 refine zV (za9 rfl rfl rfl) ?_
 refine zV (JG (Z6 rfl We) (congrArg (Value.int .u8) (zu1 u))) ?_
 refine Ql (ps:=[(0,_)]) (m:=[VL (u % 128+128)]) Y8 rfl (.cons rfl (.nil)) rfl (by simp [ZW]) (by decide) (by decide) rfl rfl (fun b_12=>?_)
 refine zM ?_
 refine zV (JG (zuC rfl rfl (fun hg=>by decide)) (congrArg (Value.int .u64) (ztq hu))) ?_
 refine QE (cap:=[]) (vs:=[_]) rfl rfl zbt .nil (ih (u / 128) (by omega) _) rfl rfl ?_
 rintro vv2 I2 L2 hI2 ⟨rfl,a9,c9,rfl,hS9⟩
 have hIc:=hIc.trans hI2
 refine QX (v:=_) (ys:=(Jt (u / 128):List Nat).flatMap VL) (L:=[(b_12,_)]) rfl rfl Y8 (zlm (u % 128+128)) (by repeat (first | exact .cons .here .nil | exact Qu | exact Qr | apply Qp | apply Qo)) (hS9.src ZW) (zaP _) (by omega) rfl rfl ?_
 intro v9 L9 hO9 _;rw [←List.flatMap_append] at hO9
 refine zA (Qb ?_)
 refine Zw hO9 ZW (by decide) (by repeat (first | exact .cons .here .nil | exact Qu | exact Qr | apply Qp | apply Qo)) (fun I3 hI3 af3 cf3 ef3 hZ=>?_)
 subst ef3
 have hIc:=hIc.trans hI3
 refine Qc (QF ?_)
 exact QP rfl rfl (fun w hw=>⟨_,I3,[],rfl,hIc,by exact hw,zbB hZ (by rw [WU hge];rfl)⟩)
end
section
open Go Go.Kn Go.Proofs
theorem zji:Fun Tryz.prog 218:=.of Tryz.func218 (by kernel_rfl) (by kernel_rfl)
theorem zjY:Fun Tryz.prog 219:=.of Tryz.func219 (by kernel_rfl) (by kernel_rfl)
theorem zge (u:Nat):u<2^64→∀ I,Vi Tryz.prog 220 [.int .u64 (u:Nat)] I [] (YQ (Jt u)):=by
 induction u using Nat.strongRecOn with
 | _ u ih=>intro hu I;exact zfL hu fun u' h=>ih u' h (by omega)
theorem zgV (I:Qv)(n:Int):Yc Tryz.prog 103 [.int .i64 n] I (.agg (Zo (vcI n)).toArray):=by
 intro g H w hw
 refine qe Tryz.func103 Tryz.ntmps103 hw ?_
 refine zR ?_
 refine Qt YX rfl rfl (fun b_2=>?_)
 refine zN (zR ?_)
 refine zM ?_
 refine zV (QZ (ps:=[(0,_),(1,_)]) [_,_,_,_] Km rfl rfl) ?_
 refine zh ZT ?_
 refine zN (QF ?_)
 exact Y7 rfl rfl ZH zxb rfl (fun w hw=>⟨by rfl,hw.drop⟩)
theorem zaK (I:Qv)(s:ByteArray):Yc Tryz.prog 104 [.string s] I (.agg (Zo (vcT s)).toArray):=by
 intro g H w hw
 refine qe Tryz.func104 Tryz.ntmps104 hw ?_
 refine zR ?_
 refine Qt YX rfl rfl (fun b_2=>?_)
 refine zN (zR ?_)
 refine zM ?_
 refine zV (QZ (ps:=[(0,_),(2,_)]) [_,_,_,_] Km rfl rfl) ?_
 refine zh ZT ?_
 refine zN (QF ?_)
 exact Y7 rfl rfl ZH zxb rfl (fun w hw=>⟨by rfl,hw.drop⟩)
def ztg (x:Va):Prop:=∀ {I:Qv} {cv:Vc} (_hx:VaR I x cv) (_hb:(Va.enc x).length≤900000),Yc Tryz.prog 218 [.agg (Zo cv).toArray] I (.bool true)
def zts (x:Va):Prop:=∀ {I:Qv} {cv:Vc} (_hx:VaR I x cv) (_hd:Va.depth x≤1000) (_hb:(Va.enc x).length≤900000),Yc Tryz.prog 219 [.agg (Zo cv).toArray] I (.int .i64 (Va.depth x:Nat))
theorem zel (I:Qv)(n:Int):Yc Tryz.prog 218 [.agg #[.int .i64 1,.int .i64 n,.string ⟨#[]⟩,.slice none 0 0]] I (.bool true):=by
 intro g H w hw
 refine qe Tryz.func218 Tryz.ntmps218 hw ?_
 have hIc:=zxd I
 refine zR ?_
 refine Zh rfl rfl rfl (fun b_1=>?_)
 refine zA (Qb ?_)
 refine QO .here (fun I1 hI1 hb1=>?_)
 have hIc:=hIc.trans hI1
 have h1:=BxI.of hb1
 refine Qc (Qq (zR ?_))
 refine zF Zs ?_
 refine zV (Qd rfl QA (fun hg=>by exact QG.imm h1.out rfl)) ?_
 refine zN (QD (zR (zC ?_)))
 refine zA (zN ?_)
 refine zI ?_ ?_<;>intro hc6
 ·
  refine zR ?_
  refine zF YH ?_
  refine zV (Qd rfl JP (fun hg=>by exact QG.imm h1.out rfl)) ?_
  refine zV (Wa rfl rfl rfl) ?_
  refine zM ?_
  refine QL 3 rfl rfl rfl ?_
  refine zK (Qa rfl Q5) ?_
  refine zK (Qd rfl ZI (fun hg=>by exact QG.imm h1.out rfl)) ?_
  refine zK (Q9 rfl Yj) ?_
  refine zK (QT rfl rfl rfl) ?_
  refine QW rfl rfl rfl rfl rfl ?_
  refine zA (zN (QF (Qz (Qi ?_))))
  exact QP rfl rfl (fun w hw=>⟨by simp [UC],(hw.mono hIc).subL Qe⟩)
 simp at hc6
theorem zb3 (I:Qv)(s:ByteArray):Yc Tryz.prog 218 [.agg #[.int .i64 2,.int .i64 0,.string s,.slice none 0 0]] I (.bool true):=by
 intro g H w hw
 refine qe Tryz.func218 Tryz.ntmps218 hw ?_
 have hIc:=zxd I
 refine zR ?_
 refine Zh rfl rfl rfl (fun b_1=>?_)
 refine zA (Qb ?_)
 refine QO .here (fun I1 hI1 hb1=>?_)
 have hIc:=hIc.trans hI1
 have h1:=BxI.of hb1
 refine Qc (Qq (zR ?_))
 refine zF Zs ?_
 refine zV (Qd rfl QA (fun hg=>by exact QG.imm h1.out rfl)) ?_
 refine zN (QD (zR (zC ?_)))
 refine zA (zN ?_)
 refine zI ?_ ?_<;>intro hc6
 ·
  simp at hc6
 refine zR (zC ?_)
 refine zA (zN ?_)
 refine zI ?_ ?_<;>intro hc17
 ·
  refine zR ?_
  refine zF YY ?_
  refine zV (Qd rfl QA (fun hg=>by exact QG.imm h1.out rfl)) ?_
  refine zC ?_
  refine zM ?_
  refine QL 3 rfl rfl rfl ?_
  refine zK (Qa rfl Q5) ?_
  refine zK (Qd rfl ZI (fun hg=>by exact QG.imm h1.out rfl)) ?_
  refine zK (Q9 rfl Yj) ?_
  refine zK (QT rfl rfl rfl) ?_
  refine QW rfl rfl rfl rfl rfl ?_
  refine zA (zN (QF (Qz (Qi ?_))))
  exact QP rfl rfl (fun w hw=>⟨by rfl,(hw.mono hIc).subL Qe⟩)
 simp at hc17
theorem zhs {I:Qv}{l:List Va}{hs:List Vc}{a:Option Addr}{m c:Nat}(hS:Sl I 4 Zo a m c hs)(hl:l.length=hs.length)(hr:∀ (k:Nat) (x:Va) (y:Vc),l[k]? =some x→hs[k]? =some y→VaR I x y)(hm:m≤1000000)(ih:∀ (k:Nat) (x:Va),l[k]? =some x→ztg x)(hb:(Va.encL l).length≤900000):Yc Tryz.prog 218 [.agg #[.int .i64 3,.int .i64 0,.string ⟨#[]⟩,.slice a m c]] I (.bool true):=by
 intro g H w hw
 refine qe Tryz.func218 Tryz.ntmps218 hw ?_
 have hIc:=zxd I
 have hml:=hS.len
 refine zR ?_
 refine Zh rfl rfl rfl (fun b_1=>?_)
 refine zA (Qb ?_)
 refine QO .here (fun I1 hI1 hb1=>?_)
 have hS:=hS.mono hI1;have hIc:=hIc.trans hI1
 have h1:=BxI.of hb1
 refine Qc (Qq (zR ?_))
 refine zF Zs ?_
 refine zV (Qd rfl QA (fun hg=>by exact QG.imm h1.out rfl)) ?_
 refine zN (QD (zR (zC ?_)))
 refine zA (zN ?_)
 refine zI ?_ ?_<;>intro hc6
 ·
  simp at hc6
 refine zR (zC ?_)
 refine zA (zN ?_)
 refine zI ?_ ?_<;>intro hc17
 ·
  simp at hc17
 refine zR (zC ?_)
 refine zA (zN ?_)
 refine zI ?_ ?_<;>intro hc28
 ·
  refine Qq (zR (zA (zN (QD ?_))))
  refine zU [(1,_)] (fun T L0 mz E I' loc'=>∃ (k:Nat),mz=m-k∧E=(3,.int .i64 k)::T∧I1=I'∧L0=loc'∧k≤m) ?_ (h:=⟨0,rfl,rfl,rfl,rfl,Nat.zero_le _⟩)
  rintro mz E I' loc' ⟨k,rfl,rfl,rfl,rfl,hk⟩
  refine Qq (zR (zM ?_))
  refine zF Q5 ?_
  refine zV (Qd rfl ZI (fun hg=>by exact QG.imm h1.out rfl)) ?_
  refine zQ Yj ?_
  refine zC (zN ?_)
  refine zI ?_ ?_<;>intro hc34
  ·
   have hlt_k:k<m:=by have h:=hc34;simp at h;omega
   obtain ⟨cv,hy⟩:∃ y,hs[k]? =some y:=⟨_,List.getElem?_eq_getElem (by omega)⟩
   obtain ⟨x,hlx⟩:∃ y,l[k]? =some y:=⟨_,List.getElem?_eq_getElem (by omega)⟩
   have hxy:=(hr k x cv hlx hy).mono hIc
   have hle:=zc4 (l:=l) (k+1)
   rw [zah hlx,List.length_append] at hle
   refine Qw (Qc (Qq (QD (zR ?_))))
   refine zF Q5 ?_
   refine zV (Qd rfl ZI (fun hg=>by exact QG.imm h1.out rfl)) ?_
   refine zM ?_
   refine zV (zX Yj hS) ?_
   refine zV (Qg rfl ZH (fun hg=>by exact zxe hS hy) rfl) ?_
   refine qcV (vs:=[_]) rfl zji (ih k x hlx hxy (by omega)) ?_
   refine zO (zN ?_)
   refine zI ?_ ?_<;>intro hc43
   ·
    cases hc43
   refine Qw (Qn (Qc (Qk (zM ?_))))
   refine zB ?_
   refine zA (Qb ?_)
   exact zm (h:=⟨m-(k+1),by omega,k+1,rfl,rfl,rfl,rfl,by omega⟩)
  have hge_k:m≤k:=by have h:=hc34;simp at h;omega
  refine Zy (Qs (Qs (QB (Qc (zR ?_)))))
  refine zF YY ?_
  refine zV (Qd rfl QA (fun hg=>by exact QG.imm h1.out rfl)) ?_
  refine zC ?_
  refine zM ?_
  refine QL 3 rfl rfl rfl ?_
  refine zK (Qa rfl YH) ?_
  refine zK (Qd rfl JP (fun hg=>by exact QG.imm h1.out rfl)) ?_
  refine zK (Wa rfl rfl rfl) ?_
  refine QW rfl rfl rfl rfl rfl ?_
  refine zA (zN (QF (Qz (Qi ?_))))
  exact QP rfl rfl (fun w hw=>⟨by simp [UC],(hw.mono hIc).subL Qe⟩)
 simp at hc28
theorem zeq (I:Qv)(n:Int):Yc Tryz.prog 219 [.agg #[.int .i64 1,.int .i64 n,.string ⟨#[]⟩,.slice none 0 0]] I (.int .i64 0):=by
 intro g H w hw
 refine qe Tryz.func219 Tryz.ntmps219 hw ?_
 have hIc:=zxd I
 refine zR ?_
 refine Zh rfl rfl rfl (fun b_1=>?_)
 refine zA (Qb ?_)
 refine QO .here (fun I1 hI1 hb1=>?_)
 have hIc:=hIc.trans hI1
 have h1:=BxI.of hb1
 refine Qc (Qq (zR ?_))
 refine zF Zs ?_
 refine zV (Qd rfl QA (fun hg=>by exact QG.imm h1.out rfl)) ?_
 refine zC (zN ?_)
 refine zI ?_ ?_<;>intro hc7
 ·
  refine zR (zA (zN (QF (Qi ?_))))
  exact QP rfl rfl (fun w hw=>⟨by rfl,(hw.mono hIc).subL Qe⟩)
 simp at hc7
theorem zbS (I:Qv)(s:ByteArray):Yc Tryz.prog 219 [.agg #[.int .i64 2,.int .i64 0,.string s,.slice none 0 0]] I (.int .i64 0):=by
 intro g H w hw
 refine qe Tryz.func219 Tryz.ntmps219 hw ?_
 have hIc:=zxd I
 refine zR ?_
 refine Zh rfl rfl rfl (fun b_1=>?_)
 refine zA (Qb ?_)
 refine QO .here (fun I1 hI1 hb1=>?_)
 have hIc:=hIc.trans hI1
 have h1:=BxI.of hb1
 refine Qc (Qq (zR ?_))
 refine zF Zs ?_
 refine zV (Qd rfl QA (fun hg=>by exact QG.imm h1.out rfl)) ?_
 refine zC (zN ?_)
 refine zI ?_ ?_<;>intro hc7
 ·
  refine zR (zA (zN (QF (Qi ?_))))
  exact QP rfl rfl (fun w hw=>⟨by rfl,(hw.mono hIc).subL Qe⟩)
 simp at hc7
theorem zhu {I:Qv}{l:List Va}{hs:List Vc}{a:Option Addr}{m c:Nat}(hS:Sl I 4 Zo a m c hs)(hl:l.length=hs.length)(hr:∀ (k:Nat) (x:Va) (y:Vc),l[k]? =some x→hs[k]? =some y→VaR I x y)(hm:m≤1000000)(ih:∀ (k:Nat) (x:Va),l[k]? =some x→zts x)(hd:Va.depthL l≤999)(hb:(Va.encL l).length≤900000):Yc Tryz.prog 219 [.agg #[.int .i64 3,.int .i64 0,.string ⟨#[]⟩,.slice a m c]] I (.int .i64 (Va.depthL l+1:Nat)):=by
 intro g H w hw
 refine qe Tryz.func219 Tryz.ntmps219 hw ?_
 have hIc:=zxd I
 have hml:=hS.len
 refine zR ?_
 refine Zh rfl rfl rfl (fun b_1=>?_)
 refine zA (Qb ?_)
 refine QO .here (fun I1 hI1 hb1=>?_)
 have hS:=hS.mono hI1;have hIc:=hIc.trans hI1
 have h1:=BxI.of hb1
 refine Qc (Qq (zR ?_))
 refine zF Zs ?_
 refine zV (Qd rfl QA (fun hg=>by exact QG.imm h1.out rfl)) ?_
 refine zC (zN ?_)
 refine zI ?_ ?_<;>intro hc7
 ·
  simp at hc7
 refine Qw (Qc (zR (zA (zN (Qq (zR ?_))))))
 refine zA (zN (QD ?_))
 refine zU [(1,_)] (fun T L0 mz E I' loc'=>∃ (k:Nat) (dd:Int),mz=m-k∧E=(3,.int .i64 dd)::(4,.int .i64 k)::T∧I1=I'∧L0=loc'∧k≤m∧dd=((Va.depthL (l.take k):Nat):Int)) ?_ (h:=⟨0,0,rfl,rfl,rfl,rfl,Nat.zero_le _,rfl⟩)
 rintro mz E I' loc' ⟨k,dd,rfl,rfl,rfl,rfl,hk,hdd⟩
 refine Qq (zR (zM ?_))
 refine zF Q5 ?_
 refine zV (Qd rfl ZI (fun hg=>by exact QG.imm h1.out rfl)) ?_
 refine zQ Yj ?_
 refine zC (zN ?_)
 refine zI ?_ ?_<;>intro hc12
 ·
  have hlt_k:k<m:=by have h:=hc12;simp at h;omega
  obtain ⟨cv,hy⟩:∃ y,hs[k]? =some y:=⟨_,List.getElem?_eq_getElem (by omega)⟩
  obtain ⟨x,hlx⟩:∃ y,l[k]? =some y:=⟨_,List.getElem?_eq_getElem (by omega)⟩
  have hxy:=(hr k x cv hlx hy).mono hIc
  have hle:=zc4 (l:=l) (k+1)
  rw [zah hlx,List.length_append] at hle
  have hdx:=Jl hd hlx
  have hdt:Va.depthL (l.take k)≤999:=Nat.le_trans (zhv l k) hd
  refine Qw (Qc (Qq (QD (Qk (zM ?_)))))
  refine zF Q5 ?_
  refine zV (Qd rfl ZI (fun hg=>by exact QG.imm h1.out rfl)) ?_
  refine zM ?_
  refine zV (zX Yj hS) ?_
  refine zV (Qg rfl ZH (fun hg=>by exact zxe hS hy) rfl) ?_
  refine qcV (vs:=[_]) rfl zjY (ih k x hlx hxy (by omega) (by omega)) ?_
  refine zV (Vo rfl rfl) ?_
  refine zA (Qb (Qn (Qc (Qk ?_))))
  refine zM ?_
  refine zB ?_
  refine zA (Qb ?_)
  exact zm (h:=⟨m-(k+1),by omega,k+1,_,rfl,rfl,rfl,rfl,by omega,by rw [zau hlx,hdd];unfold zd4;split<;>omega⟩)
 have hge_k:m≤k:=by have h:=hc12;simp at h;omega
 have hke:l.take k=l:=List.take_of_length_le (by omega)
 rw [hke] at hdd
 refine Zy (Qs (Qs (QB (Qc (zR (zM ?_))))))
 refine zB ?_
 refine zA (zN (QF ?_))
 exact QP rfl rfl (fun w hw=>⟨by rw [hdd];rfl,(hw.mono hIc).subL Qe⟩)
end
end Go.Proofs.YtjblkbkmblkgoaaGreat
