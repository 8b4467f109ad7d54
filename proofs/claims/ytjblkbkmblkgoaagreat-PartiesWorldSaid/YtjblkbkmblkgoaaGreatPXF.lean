/- partiesWorld_holds, part F of the proof: what its theorems say holds without further conditions. -/
import Derived.Test.YtjblkbkmblkgoaaGreatPXE
section
namespace Go.Kn
open Go
section
variable {P:Program} {fn:Func} {R:Ending→World→Prop} {N:Nat} {g:World} {I H:Qu} {loc:Loc} {E:Env}
theorem zhZ (h:∀ a w,K2 N [] E a→St g I H loc w→∃ v,(results fn a.tmps).run P w= .ok v w∧R (.returned v) w):At ⟨P,none,N,[],g,H⟩ (bodyPostDIn (FR none) 0 P fn R) .ret E I loc:=fun a w ha hw=>by
 show LeavesIn _ _ _ _ _ _ a.defers .returning w
 rw [ha.defers]
 exact h a w ha hw
end
end Go.Kn
namespace Go.Proofs.YtjblkbkmblkgoaaGreat
open Go Go.Kn Go.Proofs
def evK (f:Nat):Value:=.func (.func f) #[] #[]
def zga (a b c d e:Nat):List (Int×Nat):=[(1,a),(2,b),(3,c),(4,d),(5,e)]
theorem ztI {a b c d e f:Nat}{k:Int}(h:Zt (zga a b c d e) k=some f):(k=1∧f=a)∨(k=2∧f=b)∨(k=3∧f=c)∨(k=4∧f=d)∨(k=5∧f=e):=by
 unfold zga Zt at h
 split at h
 ·
  rename_i e1;cases h;exact .inl ⟨e1.symm,rfl⟩
 ·
  unfold Zt at h
  split at h
  ·
   rename_i e1;cases h;exact .inr (.inl ⟨e1.symm,rfl⟩)
  ·
   unfold Zt at h
   split at h
   ·
    rename_i e1;cases h;exact .inr (.inr (.inl ⟨e1.symm,rfl⟩))
   ·
    unfold Zt at h
    split at h
    ·
     rename_i e1;cases h;exact .inr (.inr (.inr (.inl ⟨e1.symm,rfl⟩)))
    ·
     unfold Zt at h
     split at h
     ·
      rename_i e1;cases h;exact .inr (.inr (.inr (.inr ⟨e1.symm,rfl⟩)))
     ·
      cases h
theorem zot {a b c d e:Nat}{r:Rd}{x:Ev}(h:Zt (zga a b c d e) x.kind=none):zcz r (YU x)=(1,zeroR):=by
 have h1:∀ k f,(k,f)∈zga a b c d e→x.kind≠k:=by
  intro k f hm e1
  subst e1
  simp only [zga,List.mem_cons,Prod.mk.injEq,List.not_mem_nil,or_false] at hm
  unfold zga at h
  rcases hm with ⟨e1,_⟩ | ⟨e1,_⟩ | ⟨e1,_⟩ | ⟨e1,_⟩ | ⟨e1,_⟩<;>rw [e1] at h<;>simp [Zt] at h
 have k1:¬(YU x).kind=1:=h1 1 a (by simp [zga])
 have k2:¬(YU x).kind=2:=h1 2 b (by simp [zga])
 have k3:¬(YU x).kind=3:=h1 3 c (by simp [zga])
 have k4:¬(YU x).kind=4:=h1 4 d (by simp [zga])
 have k5:¬(YU x).kind=5:=h1 5 e (by simp [zga])
 unfold zcz
 rw [if_neg k1,if_neg k2,if_neg k3,if_neg k4,if_neg k5]
theorem zs0 {r:Rd}{x:Ev}(h:x.kind=1):zcz r (YU x)=UD r (YU x):=if_pos h
theorem zym {r:Rd}{x:Ev}(h:x.kind=2):zcz r (YU x)=zay r (YU x):=by
 have e:(YU x).kind=2:=h
 unfold zcz;rw [e];rfl
theorem zrZ {r:Rd}{x:Ev}(h:x.kind=3):zcz r (YU x)=zco r (YU x):=by
 have e:(YU x).kind=3:=h
 unfold zcz;rw [e];rfl
theorem zyR {r:Rd}{x:Ev}(h:x.kind=4):zcz r (YU x)=zcC r (YU x):=by
 have e:(YU x).kind=4:=h
 unfold zcz;rw [e];rfl
theorem zyt {r:Rd}{x:Ev}(h:x.kind=5):zcz r (YU x)=zcD r (YU x):=by
 have e:(YU x).kind=5:=h
 unfold zcz;rw [e];rfl
theorem zo4 {r:Rd}{x:Ev}(h:(UD r x).1≠0):(UD r x).2=zeroR:=by
 unfold UD at h ⊢
 split
 ·
  rename_i h1
  rw [if_pos h1] at h
  split
  ·
   rename_i h2
   rw [if_pos h2] at h
   split
   ·
    rfl
   ·
    rename_i h3;rw [h3] at h;exact absurd rfl h
  ·
   rfl
 ·
  rfl
theorem zpW {r:Rd}{x:Ev}(h:(zay r x).1≠0):(zay r x).2=zeroR:=by
 unfold zay at h ⊢
 split
 ·
  rename_i h1;rw [if_pos h1] at h;exact absurd rfl h
 ·
  rfl
theorem zt4 {r:Rd}{x:Ev}(h:(zco r x).1≠0):(zco r x).2=zeroR:=by
 unfold zco at h ⊢
 split
 ·
  rfl
 ·
  rename_i h1
  rw [if_neg h1] at h
  split
  ·
   rename_i h2;rw [if_pos h2] at h;exact absurd rfl h
  ·
   rename_i h2
   rw [if_neg h2] at h
   split
   ·
    rfl
   ·
    rename_i h3;rw [h3] at h;exact absurd rfl h
theorem zpk {r:Rd}{x:Ev}(h:(zcC r x).1≠0):(zcC r x).2=zeroR:=by
 unfold zcC at h ⊢
 split
 ·
  rfl
 ·
  rename_i h1;rw [if_neg h1] at h;exact absurd rfl h
theorem zoc {r:Rd}{x:Ev}(h:(zcD r x).1≠0):(zcD r x).2=zeroR:=by
 unfold zcD at h ⊢
 split
 ·
  rfl
 ·
  rename_i h1;rw [if_neg h1] at h;exact absurd rfl h
theorem zrF {r:Rd}{x:Ev}(h:(zcz r x).1≠0):zcz r x=((zcz r x).1,zeroR):=by
 have key:(zcz r x).2=zeroR:=by
  unfold zcz at h ⊢
  split
  ·
   rename_i h1;rw [if_pos h1] at h;exact zo4 h
  ·
   rename_i h1;rw [if_neg h1] at h
   split
   ·
    rename_i h1;rw [if_pos h1] at h;exact zpW h
   ·
    rename_i h1;rw [if_neg h1] at h
    split
    ·
     rename_i h1;rw [if_pos h1] at h;exact zt4 h
    ·
     rename_i h1;rw [if_neg h1] at h
     split
     ·
      rename_i h1;rw [if_pos h1] at h;exact zpk h
     ·
      rename_i h1;rw [if_neg h1] at h
      split
      ·
       rename_i h1;rw [if_pos h1] at h;exact zoc h
      ·
       rfl
 exact Prod.ext rfl key
theorem ztj {v:Value}{n:Nat}{ps:List Pe}{L:Go.Kn.Loc}{e:Nat}(h:ZW e 1 v n (ps.flatMap Xd) L)(hn:ps.length=n)(h0:1≤n):∃ (b c:Nat) (cur:List Value),v= .slice (some ⟨b,0,none⟩) n c∧L=[(b,.cells cur.toArray e (0,0))]∧n≤c∧∀ (i:Nat) (pe:Pe),ps[i]? =some pe→cur[i]? =some (.slice pe.a pe.n pe.c):=by
 rcases h.2 with ⟨_,h1,_⟩ | ⟨b,c,cur,rfl,rfl,h1,_,h3,h4⟩
 ·
  omega
 ·
  refine ⟨b,c,cur.toList,rfl,by simp,h1,fun i pe hi=>?_⟩
  have hlt:=(List.getElem?_eq_some_iff.1 hi).1
  have h5:=zbl zfm ps i pe hi 0 _ rfl
  rw [Nat.mul_one,Nat.add_zero,←h4,List.getElem?_take,if_pos kB] at h5
  exact h5
theorem zhs {I:Qu}:RmV I (.agg #[.slice none 0 0,.slice none 0 0,.slice none 0 0]) zeroR:=
 ⟨none,0,0,none,0,0,none,0,0,[],[],rfl,⟨.nil,fun _ h=>(by cases h),.nil,fun _ h=>(by cases h),.nil⟩,rfl⟩
def DoQ (R:Int×Rd)(v:Value)(I':Qu)(L':Go.Kn.Loc):Prop:=L'=[]∧∃ vr,v= .tuple #[vr,.int .i64 R.1]∧RmV I' vr R.2
theorem zkN {I:Qu}{e:Int}:DoQ (e,zeroR) (.tuple #[.agg #[.slice none 0 0,.slice none 0 0,.slice none 0 0],.int .i64 e]) I []:=⟨rfl,_,rfl,zhs⟩
theorem zgI {R R':Int×Rd}{v:Value}{I:Qu}{L:Go.Kn.Loc}(h:DoQ R v I L)(e:R'=R):DoQ R' v I L:=e ▸ h
theorem zu7 {r:Rd}{x:Ev}(h:zeL r≠0):doF r x=(zeL r,zeroR):=if_pos h
theorem zcj {r:Rd}{x:Ev}(h:zeL r=0):doF r x=zcz r x:=if_neg (by rw [h];simp)
theorem ztA {I:Qu}{R:Int×Rd}{pa qa aa:Option Addr}{pn pc qn qc an ac:Nat}{ps:List Pe}{qs:List Pk}{ks:List (Int×Int)}(h0:R.1=0)(hR:RmP I pa pn pc qa qn qc aa an ac ps qs ks)(e:VV ps qs ks=R.2):DoQ R (.tuple #[.agg #[.slice pa pn pc,.slice qa qn qc,.slice aa an ac],.int .i64 0]) I []:=by
 have hk:R.2.ks=ks:=by rw [←e];rfl
 exact ⟨rfl,_,by rw [h0],pa,pn,pc,qa,qn,qc,aa,an,ac,ps,qs,rfl,by rw [hk];exact hR,by rw [hk];exact e⟩
end Go.Proofs.YtjblkbkmblkgoaaGreat
end
namespace Go.Proofs.YtjblkbkmblkgoaaGreat
section
open Go Go.Kn Go.Proofs
theorem zl5 (I:Qu)(bv be:Nat)(v1 v2 v3:Option Addr)(n1 n2 n3 c1 c2 c3:Nat)(e0:Int):znm Tryz.prog 51 [Zw bv,Zw be] I [(be,.cells #[.int .i64 e0] 50 (0,0)),(bv,.cells #[.slice v1 n1 c1,.slice v2 n2 c2,.slice v3 n3 c3] 28 (0,0))] .returning (fun u' I' L'=>settle u'= .returning∧I'=I∧L'=[(be,.cells #[.int .i64 e0] 50 (0,0)),(bv,.cells #[.slice v1 n1 c1,.slice v2 n2 c2,.slice v3 n3 c3] 28 (0,0))]):=by
 refine XF Tryz.func51 rfl Tryz.ntmps51 rfl rfl (⟨(fun o ho=>by cases ho),fun o ho=>by cases ho⟩) (fun g H=>?_)
 have hIc:=zz4 I
 refine zN (Qx (zR ?_))
 refine zV (zoL rfl zhK) ?_
 refine zN ?_
 refine zI ?_ ?_<;>intro hc7
 ·
  refine Qi (zA (Qb (Qj ?_)))
  exact YG (Yi rfl (fun w hw=>⟨_,I,_,rfl,zz4 _,hw,rfl,rfl,rfl⟩))
 cases hc7
theorem zj6 (I:Qu)(bv be:Nat)(e9:Int):znm Tryz.prog 51 [Zw bv,Zw be] I [(be,.cells #[.int .i64 0] 50 (0,0)),(bv,.cells #[.slice none 0 0,.slice none 0 0,.slice none 0 0] 28 (0,0))] (.panicking (pan (.iface 50 (.int .i64 e9)))) (fun u' I' L'=>settle u'= .returning∧I'=I∧L'=[(be,.cells #[.int .i64 e9] 50 (0,0)),(bv,.cells #[.slice none 0 0,.slice none 0 0,.slice none 0 0] 28 (0,0))]):=by
 refine XF Tryz.func51 rfl Tryz.ntmps51 rfl rfl (⟨(fun o ho=>by cases ho),fun o ho=>by cases ho⟩) (fun g H=>?_)
 have hIc:=zz4 I
 refine zN (Qx (zR ?_))
 refine zV (zug rfl zhK) ?_
 refine zN ?_
 refine zI ?_ ?_<;>intro hc7
 ·
  cases hc7
 refine zR ?_
 refine zV (zfJ rfl zlh) ?_
 refine zE ?_
 refine zE (zN ?_)
 refine zI ?_ ?_<;>intro hc9
 ·
  refine zR (zA (zN (Qi ?_)))
  refine zV (QI (ps:=[]) [_,_,_] zhr rfl rfl) ?_
  refine zM ?_
  refine zh Ku ?_
  refine zS zbG ?_
  refine Qb (Qj ?_)
  exact YG (Yi rfl (fun w hw=>⟨_,I,_,rfl,zz4 _,hw,rfl,rfl,rfl⟩))
 cases hc9
end
section
open Go Go.Kn Go.Proofs
theorem zuL:AgT Tryz.prog 47 49:=.of kA
theorem zhi:QJ Tryz.prog 47 0 0:=.of kA
theorem zl8:Fun Tryz.prog 16:=.of Tryz.func16 kA kA
theorem zvb:Fun Tryz.prog 46:=.of Tryz.func46 kA kA
theorem zxp:Fun Tryz.prog 47:=.of Tryz.func47 kA kA
theorem zvw:Fun Tryz.prog 48:=.of Tryz.func48 kA kA
theorem zxk:Fun Tryz.prog 49:=.of Tryz.func49 kA kA
theorem zxM:Fun Tryz.prog 50:=.of Tryz.func50 kA kA
theorem zqt:Fun Tryz.prog 51:=.of Tryz.func51 kA kA
theorem zxL:Fun Tryz.prog 52:=.of Tryz.func52 kA kA
theorem JW:MpT Tryz.prog 106 3 102 .nilFunc:=⟨kA,.of kA⟩
theorem zsr:PlT Tryz.prog 108 #[(0,3)] (.agg #[(.slice none 0 0),(.slice none 0 0),(.slice none 0 0)]):=⟨.of kA,kA,fun w=>kA⟩
theorem ztP:SzT Tryz.prog 108 3:=.of kA
theorem zxh:SzT Tryz.prog 22 1:=.of kA
theorem zvg:Y9 Tryz.prog 108 (.agg #[(.slice none 0 0),(.slice none 0 0),(.slice none 0 0)]):=.of kA
theorem zyF {I:Qu}{bc bp:Nat}{qa aa:Option Addr}{pn pc qn qc an ac:Nat}{cur:List Value}{ps:List Pe}{qs:List Pk}{ks:List (Int×Int)}(hX:znn I pn pc qa qn qc aa an ac cur ps qs ks)(x:Ev)(hE:EvM I x){f:Nat}(h:Zt (zga 46 47 48 49 50) x.kind=some f):Fun Tryz.prog f∧Ug Tryz.prog f [Zw bc,.agg (zeV x).toArray] I [(bc,.cells #[.slice (some ⟨bp,0,none⟩) pn pc,.slice qa qn qc,.slice aa an ac] 108 (0,0)),(bp,.cells (cur).toArray 59 (0,0))] (zr3 bc bp pn pc aa an ac ks (zcz (VV ps qs ks) (YU x))) (zr7 (zcz (VV ps qs ks) (YU x))):=by
 rcases ztI h with ⟨hk,rfl⟩ | ⟨hk,rfl⟩ | ⟨hk,rfl⟩ | ⟨hk,rfl⟩ | ⟨hk,rfl⟩
 ·
  rw [zs0 hk];exact ⟨zvb,zuD hX x hE⟩
 ·
  rw [zym hk];exact ⟨zxp,zt6 hX x hE⟩
 ·
  rw [zrZ hk];exact ⟨zvw,ziS hX x⟩
 ·
  rw [zyR hk];exact ⟨zxk,zrx hX x⟩
 rw [zyt hk];exact ⟨zxM,zlI hX x⟩
set_option maxHeartbeats 400000 in
theorem zzn {I:Qu} {pa qa aa:Option Addr} {pn pc qn qc an ac:Nat} {ps:List Pe} {qs:List Pk} {ks:List (Int×Int)} (hR:RmP I pa pn pc qa qn qc aa an ac ps qs ks) (hpn:pn≤100000) (hqn:qn≤100000) (han:an≤100000) (hnn:∀ x∈ps,x.n≤100000) (hdl:∀ q∈qs,q.n≤100000) (hsm:zeL (VV ps qs ks)=0→qn+24≤4096∧∀ pe∈ps,qn+pe.n≤4096) (x:Ev) (hE:EvM I x):Vs Tryz.prog 12 [.agg #[.slice pa pn pc,.slice qa qn qc,.slice aa an ac],.agg (zeV x).toArray] I [] (DoQ (doF (VV ps qs ks) (YU x))):=by
 intro g H w hw
 refine zqT Tryz.func12 rfl Tryz.ntmps12 rfl hw ?_
 have hIc:=zz4 I
 have hlp:=hR.pe.len
 have hlq:=hR.q.len
 refine zR ?_
 refine QO rfl rfl rfl (fun b_2=>?_)
 refine QO rfl rfl rfl (fun b_3=>?_)
 refine Qr zct rfl rfl (fun b_4=>?_)
 refine Qr zxn rfl rfl (fun b_5=>?_)
 refine Qb ?_
 refine QF (.there (.there .here)) (fun I1 hI1 hb1=>?_)
 have hR:=hR.mono hI1;have hE:=hE.mono hI1;have hIc:=hIc.trans hI1
 have h3:=BxI.of hb1
 refine QF (.there (.there .here)) (fun I2 hI2 hb2=>?_)
 have hR:=hR.mono hI2;have hE:=hE.mono hI2;have h3:=h3.mono hI2;have hIc:=hIc.trans hI2
 have h2:=BxI.of hb2
 refine Qd (Qo (zR ?_))
 refine zV (Qg rfl Jm (fun hg=>by exact BxI.cells (vs:=[_,_,_]) h2) rfl) ?_
 refine zpc [_] rfl zl8 .nil (zlw hR hpn hqn han hnn hdl) ?_
 rintro vv3 I3 L3 hI3 ⟨rfl,rfl⟩
 have hR:=hR.mono hI3;have hE:=hE.mono hI3;have h3:=h3.mono hI3;have h2:=h2.mono hI3;have hIc:=hIc.trans hI3
 refine zA ?_
 refine zN (zR ?_)
 refine zM ?_
 refine zC (zN ?_)
 refine zI ?_ ?_<;>intro hc13
 ·
  have hck:zeL (VV ps qs ks)≠0:=by simpa using hc13
  refine zR ?_
  refine zV (Qg rfl Jm (fun hg=>by exact Cells.g1) rfl) ?_
  refine zM ?_
  refine zh Ku ?_
  refine zS zbG ?_
  refine zN (Qs (Qf ?_))
  exact zhZ (fun a w ha hw=>⟨_,zgB rfl rfl rfl Jm zbL kG rfl kM a ha w hw,_,I3,[],rfl,hIc,hw.subL QC,zgI zkN (zu7 hck)⟩)
 have hck:zeL (VV ps qs ks)=0:=by simpa using hc13
 have hck2:=zrI (by rw [←zeF hR];exact hck)
 refine Qp (Qd (Qo ?_))
 rcases hfd:Zt (zga 46 47 48 49 50) x.kind with _ | fid
 ·
  refine Qi ?_
  refine Z7 rfl rfl (fun r_17=>?_)
  refine (show XO _ _ _ _ _ _ _ ((r_17,Yo (.int .i64) evK ([]:List (Int×Nat)))::_) from ?_)
  refine zpi (ek:=Value.int .i64) (ev:=evK) 46 JW Q3 ?_
  refine zpi (ek:=Value.int .i64) (ev:=evK) 47 JW Q3 ?_
  refine zpi (ek:=Value.int .i64) (ev:=evK) 48 JW Q3 ?_
  refine zpi (ek:=Value.int .i64) (ev:=evK) 49 JW Q3 ?_
  refine zpi (ek:=Value.int .i64) (ev:=evK) 50 JW Q3 ?_
  refine zM ?_
  refine zF zhi ?_
  refine zV (Qc rfl Qm (fun hg=>by exact QA.imm h3.out rfl)) ?_
  refine zV (ZR (ek:=Value.int .i64) (ev:=evK) (m:=(zga 46 47 48 49 50)) JW Q3 rfl rfl (fun _=>kQ)) ?_
  rw [hfd]
  refine zM ?_
  refine zE ?_
  refine zE ?_
  refine zA ?_
  refine zA (zN (Qo (zR ?_)))
  refine zM ?_
  refine zO (zN ?_)
  refine zI ?_ ?_<;>intro hc25
  ·
   refine zR ?_
   refine zV (Qg rfl Jm (fun hg=>by exact Cells.g2) rfl) ?_
   refine zh Ku ?_
   refine zS zbG ?_
   refine zN (Qs (Qf ?_))
   exact zhZ (fun a w ha hw=>⟨_,zgB rfl rfl rfl Jm zbL kG rfl kM a ha w hw,_,I3,[],rfl,hIc,hw.subL QC,zgI zkN (by rw [zcj hck,zot hfd])⟩)
  cases hc25
 refine Qi ?_
 refine Z7 rfl rfl (fun r_17=>?_)
 refine (show XO _ _ _ _ _ _ _ ((r_17,Yo (.int .i64) evK ([]:List (Int×Nat)))::_) from ?_)
 refine zpi (ek:=Value.int .i64) (ev:=evK) 46 JW Q3 ?_
 refine zpi (ek:=Value.int .i64) (ev:=evK) 47 JW Q3 ?_
 refine zpi (ek:=Value.int .i64) (ev:=evK) 48 JW Q3 ?_
 refine zpi (ek:=Value.int .i64) (ev:=evK) 49 JW Q3 ?_
 refine zpi (ek:=Value.int .i64) (ev:=evK) 50 JW Q3 ?_
 refine zM ?_
 refine zF zhi ?_
 refine zV (Qc rfl Qm (fun hg=>by exact QA.imm h3.out rfl)) ?_
 refine zV (ZR (ek:=Value.int .i64) (ev:=evK) (m:=(zga 46 47 48 49 50)) JW Q3 rfl rfl (fun _=>kQ)) ?_
 rw [hfd]
 refine zM ?_
 refine zE ?_
 refine zE ?_
 refine zA ?_
 refine zA (zN (Qo (zR ?_)))
 refine zM ?_
 refine zO (zN ?_)
 refine zI ?_ ?_<;>intro hc25
 ·
  cases hc25
 refine Qp (Qd (zR ?_))
 refine zV (Yz (us:=[]) (vs:=[_,_]) rfl rfl) ?_
 refine zhe (cap:=[Zw b_4,Zw b_5]) (vs:=[]) rfl rfl ?_
 refine zN (zR ?_)
 refine zV (Qg rfl Jm (fun hg=>by exact BxI.cells (vs:=[_,_,_]) h2) rfl) ?_
 refine zV (QI (ps:=[(0,_)]) [_,_,_] zsr rfl rfl) ?_
 refine Qr zvg rfl rfl (fun b_9=>?_)
 refine zh ztP ?_
 refine zN (zR ?_)
 refine zF YB ?_
 refine zV (Qc rfl JM (fun hg=>by exact QA.imm h2.out rfl)) ?_
 refine zpc [_] rfl zxL .nil (zmd hR.pe kB) ?_
 rintro vv4 I4 L4 hI4 ⟨rfl,hOc⟩
 have hR:=hR.mono hI4;have hE:=hE.mono hI4;have h3:=h3.mono hI4;have hIc:=hIc.trans hI4
 obtain ⟨bp,pc9,cur,rfl,rfl,hnc9,hat9⟩:=ztj hOc hlp hck2.1.1
 refine zF Yk ?_
 refine zF YB ?_
 refine zS zxh ?_
 refine zN (Qo ?_)
 have hX:znn I4 pn pc9 qa qn qc aa an ac cur ps qs ks:=⟨⟨hat9,hR.nt,hck2.2.2.1⟩,hlp,hnc9,hck2.1,hR.q,hR.pk,hR.k,hck2.2.1,hck2.2.2.2,han,hdl,hsm hck⟩
 obtain ⟨hFn,hFc⟩:=zyF (bc:=b_9) (bp:=bp) hX x hE hfd
 refine Qi (zM ?_)
 refine zV (Qg rfl zuL (fun hg=>by exact BxI.cells (vs:=zeV x) h3) rfl) ?_
 refine zaW (cap:=[]) (vs:=[_,_]) rfl rfl hFn (L:=[(b_9,_),(bp,_)]) (by exact .cons (.there .here) (.cons .here .nil)) hFc rfl rfl ?_ (fun pv hpv=>by (repeat (first | with_reducible refine Ud ?_ | with_reducible refine Kl ?_));obtain ⟨rfl,hne9⟩:=hpv;exact zfS (args:=[]) (cap:=[Zw b_4,Zw b_5]) zqt (by exact .cons (.there .here) (.cons (.there .here) .nil)) (zj6 I4 b_4 b_5 _) (fun a I' L' w' ha hI hk hs=>by obtain ⟨rfl,rfl⟩:=hk;exact ⟨_,zgB rfl rfl rfl Jm zbL kG rfl kM a ha w' hs,_,_,[],rfl,hIc,hs.subL QC,zgI zkN (by rw [zcj hck];exact zrF hne9)⟩))
 rintro vv5 I5 L5 hI5 ⟨rfl,hA0,a9,m9,c9,ps9,qs9,rfl,hR9,he9⟩
 have hIc:=hIc.trans hI5
 refine zN (zR ?_)
 refine zF Yk ?_
 refine zV (Qg rfl Jm (fun hg=>by exact Cells.g0) rfl) ?_
 refine zh Ku ?_
 refine zS zbG ?_
 refine zN (Qs ?_)
 exact zkp (args:=[]) (cap:=[Zw b_4,Zw b_5]) zqt (by exact .cons (.there (.there .here)) (.cons (.there (.there .here)) .nil)) (zl5 I5 b_4 b_5 _ _ _ _ _ _ _ _ _ _) (fun a I' L' w' ha hI hk hs=>by obtain ⟨rfl,rfl⟩:=hk;exact ⟨_,zgB rfl rfl rfl Jm zbL kG rfl kM a ha w' hs,_,_,[],rfl,hIc,hs.subL QC,zgI (ztA hA0 hR9 he9) (zcj hck)⟩)
end
end Go.Proofs.YtjblkbkmblkgoaaGreat
namespace Go.Kn
section
open Go
section
variable {α β:Type} {ek:α→Value} {ev:β→Value}
end
section
variable {C:Cx} {Q:Exit→Act→World→Prop} {E E':Env} {I I':Qu} {loc loc' L R:Loc} {ops:Array Oper} {rest:List Oper} {S:GS}
variable {dst:Option Tmp} {d:Nat} {ty:TypeId} {pos:String} {af:Array Edge} {gd:Option (Nat×Bool)} {x y z:Operand}
variable {α β:Type} [DecidableEq α] {ek:α→Value} {ev:β→Value} {m:List (α×β)} {a:α} {q q':Nat}
theorem zlp {m:List (α×β)}{a:α}:∀ k,Zt m a=none→zfD m a k=none:=by
 intro k h
 have:=zbc m a k
 rw [h] at this
 cases hi:zfD m a k with
 | none=>rfl
 | some p=>rw [hi] at this;cases this
end
end
end Go.Kn
section
namespace Go.Kn
open Go
section
variable {C:Cx} {S:GS} {E:Env} {I:Qu} {loc:Loc} {dst:Option Tmp} {ty:TypeId} {pos:String} {af:Array Edge} {gd:Option (Nat×Bool)} {x y:Operand} {α β:Type} [DecidableEq α] {ek:α→Value} {ev:β→Value} {m:List (α×β)} {a:α}
theorem Wg {t k e r:Nat}(d:β)(hT:MpT C.P t k e (ev d))(hK:Kz C.P k ek)(hx:QD S E x=some (.map (some r)))(hy:QD S E y=some (ek a))(hm:Yf S=true→Mem I loc r (Yo ek ev m)):
  QT C S E I loc ⟨dst,.lookup t x y false,ty,pos,af,gd⟩ (ev ((Zt m a).getD d)):=by
 have h:=Xb (C:=C) (S:=S) (dst:=dst) (ty:=ty) (pos:=pos) (af:=af) (gd:=gd) hT hK hx hy hm
 have e:((Zt m a).map ev).getD (ev d)=ev ((Zt m a).getD d):=by cases Zt m a<;>rfl
 rwa [e] at h
end
end Go.Kn
namespace Go.Proofs.YtjblkbkmblkgoaaGreat
open Go Go.Kn Go.Proofs
section
variable {α:Type} (num:Nt→Int) (prt:Nt→α) (kind:Int) (chk:List α→Int) (d:α)
def WR (m:List (Int×α))(x:Nt):List (Int×α):=if (x.kind==kind&& !(Zt m (num x)).isSome)=true then m++[(num x,prt x)] else m
def ZY (xs:List Nt):List (Int×α):=xs.foldl (WR num prt kind) []
def zbW (m:List (Int×α))(l:List α)(k:Int):List α:=if (chk (l++[(Zt m k).getD d])==0)=true then l++[(Zt m k).getD d] else l
def zfB (m:List (Int×α))(ns:List Int):List α:=ns.foldl (zbW chk d m) []
def Wo (xs:List Nt):List α:=zfB chk d (ZY num prt kind xs) (KU ((ZY num prt kind xs).map (·.1)))
variable {num prt kind chk d}
theorem Zb {xs:List Nt}{k:Nat}{x:Nt}(hx:xs[k]? =some x):ZY num prt kind (xs.take (k+1))=WR num prt kind (ZY num prt kind (xs.take k)) x:=by
 unfold ZY
 rw [Zd hx,List.foldl_append];rfl
theorem zaY {m:List (Int×α)}{x:Nt}(hg:Zt m (num x)=none)(hk:(x.kind==kind)=true):WR num prt kind m x=Jr m (num x) (prt x):=by
 unfold WR
 rw [hg,hk,if_pos kU,zc9 _ _ _ 0 (zlp 0 hg)]
theorem JO {m:List (Int×α)}{x:Nt}(hg:Zt m (num x)=none)(hk:(x.kind==kind)=true):(WR num prt kind m x).map (·.1)=m.map (·.1)++[num x]:=by
 unfold WR
 rw [hg,hk,if_pos kU,List.map_append];rfl
theorem zdU {m:List (Int×α)}{x:Nt}(hk:(x.kind==kind)=false):WR num prt kind m x=m:=by
 unfold WR
 rw [hk];rfl
theorem zaN {m:List (Int×α)}{x:Nt}{y:α}(hg:Zt m (num x)=some y):WR num prt kind m x=m:=by
 unfold WR
 rw [hg,if_neg kH]
theorem JS {m:List (Int×α)}{ns:List Int}{j:Nat}{n:Int}(hn:ns[j]? =some n):zfB chk d m (ns.take (j+1))=zbW chk d m (zfB chk d m (ns.take j)) n:=by
 unfold zfB
 rw [Zd hn,List.foldl_append];rfl
theorem znM {xs:List Nt}:∀ p∈ZY num prt kind xs,∃ x∈xs,p=(num x,prt x):=by
 have key:∀ (ys:List Nt) (m:List (Int×α)),(∀ y∈ys,y∈xs)→(∀ p∈m,∃ x∈xs,p=(num x,prt x))→∀ p∈ys.foldl (WR num prt kind) m,∃ x∈xs,p=(num x,prt x):=by
  intro ys
  induction ys with
  | nil=>intro m _ h;exact h
  | cons y ys ih=>
   intro m hy h
   rw [List.foldl_cons]
   refine ih _ (fun z hz=>hy z (List.mem_cons_of_mem _ hz)) fun p hp=>?_
   unfold WR at hp
   split at hp
   ·
    rcases List.mem_append.1 hp with hp | hp
    ·
     exact h p hp
    ·
     rw [List.mem_singleton] at hp;exact ⟨y,hy y (List.mem_cons_self ..),hp⟩
   ·
    exact h p hp
 exact key xs [] (fun _ h=>h) (fun _ h=>by cases h)
theorem zsR {m:List (Int×α)}{k:Int}{v:α}(h:Zt m k=some v):(k,v)∈m:=by
 induction m with
 | nil=>cases h
 | cons p m ih=>
  unfold Zt at h
  split at h
  ·
   rename_i e;cases h;subst e;exact List.mem_cons_self ..
  ·
   exact List.mem_cons_of_mem _ (ih h)
theorem zni {xs:List Nt}{k:Int}:(Zt (ZY num prt kind xs) k).getD d=d∨∃ x∈xs,(Zt (ZY num prt kind xs) k).getD d=prt x:=by
 cases h:Zt (ZY num prt kind xs) k with
 | none=>exact .inl rfl
 | some v=>
  obtain ⟨x,hx,e⟩:=znM _ (zsR h)
  exact .inr ⟨x,hx,congrArg Prod.snd e⟩
theorem zd2 {xs:List Nt}{ns:List Int}:∀ p∈zfB chk d (ZY num prt kind xs) ns,p=d∨∃ x∈xs,p=prt x:=by
 have key:∀ (ms:List Int) (l:List α),(∀ p∈l,p=d∨∃ x∈xs,p=prt x)→∀ p∈ms.foldl (zbW chk d (ZY num prt kind xs)) l,p=d∨∃ x∈xs,p=prt x:=by
  intro ms
  induction ms with
  | nil=>intro l h;exact h
  | cons k ms ih=>
   intro l h
   rw [List.foldl_cons]
   refine ih _ fun p hp=>?_
   unfold zbW at hp
   split at hp
   ·
    rcases List.mem_append.1 hp with hp | hp
    ·
     exact h p hp
    ·
     rw [List.mem_singleton] at hp;subst hp;exact zni
   ·
    exact h p hp
 exact key ns [] (fun _ h=>by cases h)
theorem VL {xs:List Nt}:(ZY num prt kind xs).length≤xs.length:=by
 have key:∀ (ys:List Nt) (m:List (Int×α)),(ys.foldl (WR num prt kind) m).length≤m.length+ys.length:=by
  intro ys
  induction ys with
  | nil=>intro m;simp
  | cons y ys ih=>
   intro m
   rw [List.foldl_cons]
   refine Nat.le_trans (ih _) ?_
   unfold WR
   split
   ·
    simp;omega
   ·
    simp
 have h:=key xs []
 rw [List.length_nil,Nat.zero_add] at h
 exact h
theorem zkw (xs:List Int):(KU xs).length=xs.length:=by simp [KU]
end
end Go.Proofs.YtjblkbkmblkgoaaGreat
end
namespace Go.Proofs.YtjblkbkmblkgoaaGreat
section
open Go Go.Kn Go.Proofs
theorem Vz:SlT Tryz.prog 63 41 5:=.of kA
theorem zbP:SzT Tryz.prog 41 5:=.of kA
theorem UC:SzT Tryz.prog 43 11:=.of kA
theorem zgs:Y9 Tryz.prog 41 (.agg #[(.int .i64 0),(.int .i64 0),(.int .i64 0),(.int .i64 0),(.int .i64 0)]):=.of kA
theorem zaw:Y9 Tryz.prog 43 (.agg #[(.int .i64 0),(.int .i64 0),(.int .i64 0),(.int .i64 0),(.int .i64 0),(.int .i64 0),(.string ⟨#[]⟩),(.string ⟨#[]⟩),(.int .i64 0),(.int .i64 0),(.int .i64 0)]):=.of kA
theorem zsZ (I:Qu)(x:Nt):ZA Tryz.prog 67 [Ke x] I (.tuple #[Ji (x.lm),.int .i64 x.lm.no]):=by
 intro g H w hw
 refine qe Tryz.func67 Tryz.ntmps67 hw ?_
 have hIc:=zz4 I
 refine zR ?_
 refine QO rfl rfl rfl (fun b_1=>?_)
 refine Qr ze2 rfl rfl (fun b_2=>?_)
 refine zA (Qb ?_)
 refine QF (.there .here) (fun I1 hI1 hb1=>?_)
 have hIc:=hIc.trans hI1
 have h1:=BxI.of hb1
 refine Qd (Qo ?_)
 have hD:=zz4 I1
 refine Zn ?_
 refine QL I1 [] mixed ?_
 refine zT 0 rfl (Qa rfl YD) hD ?_
 refine zT 1 rfl (Qg rfl V7 (fun hg=>by exact zbw (BxI.cells (vs:=Q4 x) h1)) rfl) hD ?_
 refine zT 2 rfl (Qa rfl YD) hD ?_
 refine zT 3 rfl (Qa rfl Ye) hD ?_
 refine zT 4 rfl (Qc rfl Qm (fun hg=>by exact QA.imm h1.out rfl)) hD ?_
 refine qd 5 rfl ?_
 refine zh zad ?_
 refine Qb ?_
 refine zD hD ?_
 refine zT 6 rfl (Qv rfl) hD ?_
 refine Ql kA ?_
 refine Qt ?_
 refine Qd (Qs ?_)
 exact ZN rfl rfl rfl V7 zz2 rfl (fun w hw=>⟨by rfl,(hw.mono hIc).subL QC⟩)
theorem zlm (I:Qu)(av:Option Addr)(n c:Nat)(hc:n≤c):ZA Tryz.prog 136 [.slice av n c] I (.slice av n n):=by
 intro g H w hw
 refine qe Tryz.func136 Tryz.ntmps136 hw ?_
 refine zR (zA ?_)
 refine zN (zR ?_)
 refine zM ?_
 refine zM ?_
 refine zQ Zx ?_
 refine zM ?_
 refine zQ Zx ?_
 refine zV (Zm rfl rfl rfl Zx (fun hg=>kB)) ?_
 refine zA (zN (Qs ?_))
 exact Qy rfl rfl (fun w hw=>⟨by rfl,hw⟩)
theorem ztO (I:Qu)(x:Nt):ZA Tryz.prog 69 [Ke x] I (.tuple #[L.encA (x.ls),.int .i64 x.ls.no]):=by
 intro g H w hw
 refine qe Tryz.func69 Tryz.ntmps69 hw ?_
 have hIc:=zz4 I
 refine zR ?_
 refine QO rfl rfl rfl (fun b_1=>?_)
 refine Qr zgs rfl rfl (fun b_2=>?_)
 refine zA (Qb ?_)
 refine QF (.there .here) (fun I1 hI1 hb1=>?_)
 have hIc:=hIc.trans hI1
 have h1:=BxI.of hb1
 refine Qd (Qo ?_)
 have hD:=zz4 I1
 refine Zn ?_
 refine QL I1 [] mixed ?_
 refine zT 0 rfl (Qa rfl Y7) hD ?_
 refine zT 1 rfl (Qg rfl VX (fun hg=>by exact zcc (BxI.cells (vs:=Q4 x) h1)) rfl) hD ?_
 refine zT 2 rfl (Qa rfl Y7) hD ?_
 refine zT 3 rfl (Qa rfl VP) hD ?_
 refine zT 4 rfl (Qc rfl Qm (fun hg=>by exact QA.imm h1.out rfl)) hD ?_
 refine qd 5 rfl ?_
 refine zh zbP ?_
 refine Qb ?_
 refine zD hD ?_
 refine zT 6 rfl (Qv rfl) hD ?_
 refine Ql kA ?_
 refine Qt ?_
 refine Qd (Qs ?_)
 exact ZN rfl rfl rfl VX zz2 rfl (fun w hw=>⟨by rfl,(hw.mono hIc).subL QC⟩)
theorem zkS (I:Qu)(av:Option Addr)(n c:Nat)(hc:n≤c):ZA Tryz.prog 137 [.slice av n c] I (.slice av n n):=by
 intro g H w hw
 refine qe Tryz.func137 Tryz.ntmps137 hw ?_
 refine zR (zA ?_)
 refine zN (zR ?_)
 refine zM ?_
 refine zM ?_
 refine zQ Vz ?_
 refine zM ?_
 refine zQ Vz ?_
 refine zV (Zm rfl rfl rfl Vz (fun hg=>kB)) ?_
 refine zA (zN (Qs ?_))
 exact Qy rfl rfl (fun w hw=>⟨by rfl,hw⟩)
theorem zrU (I:Qu)(x:Nt):ZA Tryz.prog 71 [Ke x] I (.tuple #[KR (x.pt),.int .i64 x.pt.id]):=by
 intro g H w hw
 refine qe Tryz.func71 Tryz.ntmps71 hw ?_
 have hIc:=zz4 I
 refine zR ?_
 refine QO rfl rfl rfl (fun b_1=>?_)
 refine Qr zcb rfl rfl (fun b_2=>?_)
 refine zA (Qb ?_)
 refine QF (.there .here) (fun I1 hI1 hb1=>?_)
 have hIc:=hIc.trans hI1
 have h1:=BxI.of hb1
 refine Qd (Qo ?_)
 have hD:=zz4 I1
 refine Zn ?_
 refine QL I1 [] mixed ?_
 refine zT 0 rfl (Qa rfl ZZ) hD ?_
 refine zT 1 rfl (Qg rfl Y3 (fun hg=>by exact XG (BxI.cells (vs:=Q4 x) h1)) rfl) hD ?_
 refine zT 2 rfl (Qa rfl ZZ) hD ?_
 refine zT 3 rfl (Qa rfl ZJ) hD ?_
 refine zT 4 rfl (Qc rfl Qm (fun hg=>by exact QA.imm h1.out rfl)) hD ?_
 refine qd 5 rfl ?_
 refine zh UI ?_
 refine Qb ?_
 refine zD hD ?_
 refine zT 6 rfl (Qv rfl) hD ?_
 refine Ql kA ?_
 refine Qt ?_
 refine Qd (Qs ?_)
 exact ZN rfl rfl rfl Y3 zz2 rfl (fun w hw=>⟨by rfl,(hw.mono hIc).subL QC⟩)
theorem zmU (I:Qu)(av:Option Addr)(n c:Nat)(hc:n≤c):ZA Tryz.prog 138 [.slice av n c] I (.slice av n n):=by
 intro g H w hw
 refine qe Tryz.func138 Tryz.ntmps138 hw ?_
 refine zR (zA ?_)
 refine zN (zR ?_)
 refine zM ?_
 refine zM ?_
 refine zQ YW ?_
 refine zM ?_
 refine zQ YW ?_
 refine zV (Zm rfl rfl rfl YW (fun hg=>kB)) ?_
 refine zA (zN (Qs ?_))
 exact Qy rfl rfl (fun w hw=>⟨by rfl,hw⟩)
theorem ztC (I:Qu)(x:Nt):ZA Tryz.prog 73 [Ke x] I (.tuple #[S.encA (x.rt),.int .i64 x.rt.no]):=by
 intro g H w hw
 refine qe Tryz.func73 Tryz.ntmps73 hw ?_
 have hIc:=zz4 I
 refine zR ?_
 refine QO rfl rfl rfl (fun b_1=>?_)
 refine Qr zaw rfl rfl (fun b_2=>?_)
 refine zA (Qb ?_)
 refine QF (.there .here) (fun I1 hI1 hb1=>?_)
 have hIc:=hIc.trans hI1
 have h1:=BxI.of hb1
 refine Qd (Qo ?_)
 have hD:=zz4 I1
 refine Zn ?_
 refine QL I1 [] mixed ?_
 refine zT 0 rfl (Qa rfl Z0) hD ?_
 refine zT 1 rfl (Qg rfl Ys (fun hg=>by exact zbs (BxI.cells (vs:=Q4 x) h1)) rfl) hD ?_
 refine zT 2 rfl (Qa rfl Z0) hD ?_
 refine zT 3 rfl (Qa rfl Yp) hD ?_
 refine zT 4 rfl (Qc rfl Qm (fun hg=>by exact QA.imm h1.out rfl)) hD ?_
 refine qd 5 rfl ?_
 refine zh UC ?_
 refine Qb ?_
 refine zD hD ?_
 refine zT 6 rfl (Qv rfl) hD ?_
 refine Ql kA ?_
 refine Qt ?_
 refine Qd (Qs ?_)
 exact ZN rfl rfl rfl Ys zz2 rfl (fun w hw=>⟨by rfl,(hw.mono hIc).subL QC⟩)
theorem zkF (I:Qu)(av:Option Addr)(n c:Nat)(hc:n≤c):ZA Tryz.prog 139 [.slice av n c] I (.slice av n n):=by
 intro g H w hw
 refine qe Tryz.func139 Tryz.ntmps139 hw ?_
 refine zR (zA ?_)
 refine zN (zR ?_)
 refine zM ?_
 refine zM ?_
 refine zQ ZH ?_
 refine zM ?_
 refine zQ ZH ?_
 refine zV (Zm rfl rfl rfl ZH (fun hg=>kB)) ?_
 refine zA (zN (Qs ?_))
 exact Qy rfl rfl (fun w hw=>⟨by rfl,hw⟩)
end
section
open Go Go.Kn Go.Proofs
def zv8 (ps:List Pt):List Int:=ps.map (·.id)
def lsQ (ps:List Pt)(i:Nat):Bool:= !((decide ((i:Int)>0)&&decide ((ps.getD i V5).id≤(ps.getD ((i:Int)-1).toNat V5).id))||(ps.getD i V5).needs.any (fun n=> !zi6 (ps.take i) n))
theorem zqN {ps:List Pt}{k:Nat}{p:Pt}{l:Int}{s:List (Int×Bool)}(hp:ps[k]? =some p)(h1:1≤p.id)(hl:zif (zv8 ps) k l)(hs:∀ x,znB s x=zi6 (ps.take k) x):lsQ ps k= !(decide (p.id≤l)||p.needs.any fun x=> !znB s x):=by
 unfold lsQ
 rw [Vo hp]
 simp only [hs]
 congr 2
 cases k with
 | zero=>
  rw [hl.1 rfl,Bool.eq_iff_iff];simp;omega
 | succ k=>
  have hk:=(List.getElem?_eq_some_iff.1 hp).1
  have hy:ps[k]? =some (ps[k]' kB):=List.getElem?_eq_getElem _
  have e:=hl.2 (ps[k]' kB).id (by rw [Nat.add_sub_cancel];simp [zv8,hy]) kB
  rw [show (((k+1:Nat):Int)-1).toNat=k by omega,Vo hy,←e,Bool.eq_iff_iff];simp
theorem zin {ps:List Pt}{k:Nat}{p:Pt}(hp:ps[k]? =some p):zif (zv8 ps) (k+1) p.id:=zcW (by simp [zv8,hp])
theorem zoJ {ps:List Pt}{k:Nat}{p:Pt}(hp:ps[k]? =some p)(x:Int):zi6 (ps.take (k+1)) x=(decide (p.id=x)||zi6 (ps.take k) x):=by
 unfold zi6
 rw [XI hp,List.any_append,Bool.eq_iff_iff]
 simp [or_comm]
theorem zpS {ps:List Pt}{k:Nat}{n:Int}(h:zi6 (ps.take k) n=true):zi6 ps n=true:=by
 obtain ⟨q,hq,e⟩:=za6.1 h
 exact za6.2 ⟨q,List.mem_of_mem_take hq,e⟩
theorem zkd {ps:List Pt}(h0:orF (ps.map K1)=0):(List.range ps.length).all (lsQ ps)=lsB ps:=by
 rw [Bool.eq_iff_iff]
 constructor
 ·
  intro h
  unfold lsB
  rw [List.all_eq_true] at h ⊢
  intro i hi
  have:=h i hi
  unfold lsQ at this
  unfold lsP
  simp only [Bool.not_eq_true',Bool.or_eq_false_iff] at this ⊢
  refine ⟨this.1,?_⟩
  have h2:=this.2
  rw [List.any_eq_false] at h2 ⊢
  intro n hn hc
  refine h2 n hn ?_
  rw [Bool.not_eq_true'] at hc ⊢
  cases hh:zi6 (ps.take i) n with
  | false=>rfl
  | true=>rw [zpS hh] at hc;cases hc
 ·
  intro h
  have hL:=zqV h0 h
  unfold lsB at h
  rw [List.all_eq_true] at h ⊢
  intro i hi
  have:=h i hi
  unfold lsP at this
  unfold lsQ
  simp only [Bool.not_eq_true',Bool.or_eq_false_iff] at this ⊢
  refine ⟨this.1,?_⟩
  rw [List.any_eq_false]
  intro n hn hc
  have hk:ps[i]? =some (ps.getD i V5):=K7 rfl (List.mem_range.1 hi)
  obtain ⟨q,hq,e⟩:=hL.before hk hn
  rw [za6.2 ⟨q,hq,e⟩] at hc
  cases hc
/-! ### Inserts and removes of a sign -/
def Kf (k:Int)(ps:List Pt)(s:Int):List Int:=(ps.filter fun q=>q.kind==k&&q.sign==s).map (·.id)
theorem Wf {c:Int}{ps:List Pt}{k:Nat}{p:Pt}(hp:ps[k]? =some p)(s:Int):Kf c (ps.take (k+1)) s=Kf c (ps.take k) s++(if p.kind=c∧p.sign=s then [p.id] else []):=by
 unfold Kf
 rw [XI hp,List.filter_append,List.map_append]
 congr 1
 by_cases h:p.kind=c∧p.sign=s
 ·
  rw [if_pos h];simp [h.1,h.2]
 ·
  rw [if_neg h]
  have:(p.kind==c&&p.sign==s)=false:=by
   rw [Bool.eq_false_iff];intro hc;simp at hc;exact h hc
  simp [this]
theorem Xq {c:Int}{ps:List Pt}{s x:Int}:x∈Kf c ps s↔ ∃ q∈ps,q.kind=c∧q.sign=s∧q.id=x:=by
 unfold Kf
 rw [zrq]
 simp [and_assoc]
def ziq (mi:List (Int×Int))(ps:List Pt):Prop:=∀ s,Kf 2 ps s=(Zt mi s).toList
theorem ziq.nil {ps:List Pt}:ziq [] (ps.take 0):=fun s=>by simp [Kf,Zt]
theorem ziq.put {mi:List (Int×Int)}{ps:List Pt}{k:Nat}{p:Pt}(h:ziq mi (ps.take k))(hp:ps[k]? =some p)(hk:p.kind=2)(hn:Zt mi p.sign=none):ziq (Jr mi p.sign p.id) (ps.take (k+1)):=fun s=>by
 rw [Wf hp,h s,VZ]
 by_cases e:p.sign=s
 ·
  subst e;rw [if_pos ⟨hk,rfl⟩,if_pos rfl,hn];rfl
 ·
  rw [if_neg (fun q=>e q.2),if_neg e,List.append_nil]
theorem ziq.skip {mi:List (Int×Int)}{ps:List Pt}{k:Nat}{p:Pt}(h:ziq mi (ps.take k))(hp:ps[k]? =some p)(hk:p.kind≠2):ziq mi (ps.take (k+1)):=fun s=>by
 rw [Wf hp,h s,if_neg (fun q=>hk q.1),List.append_nil]
def zi9 (mr:List (Int×(Value×Nat×List Value)))(ps:List Pt):Prop:=∀ s,((Zt mr s).getD zeW).2.2=(Kf 3 ps s).flatMap Z5
theorem zi9.nil {ps:List Pt}:zi9 [] (ps.take 0):=fun s=>by simp [Kf,Zt,zeW]
theorem zi9.put {mr:List (Int×(Value×Nat×List Value))}{ps:List Pt}{k n:Nat}{p:Pt}{v:Value}(h:zi9 mr (ps.take k))(hp:ps[k]? =some p)(hk:p.kind=3):zi9 (Jr mr p.sign (v,n,((Zt mr p.sign).getD zeW).2.2++[p.id].flatMap Z5)) (ps.take (k+1)):=fun s=>by
 rw [Wf hp,VZ]
 by_cases e:p.sign=s
 ·
  subst e;rw [if_pos rfl,if_pos ⟨hk,rfl⟩,List.flatMap_append,←h];rfl
 ·
  rw [if_neg e,if_neg (fun q=>e q.2),List.append_nil,h s]
theorem zi9.skip {mr:List (Int×(Value×Nat×List Value))}{ps:List Pt}{k:Nat}{p:Pt}(h:zi9 mr (ps.take k))(hp:ps[k]? =some p)(hk:p.kind≠3):zi9 mr (ps.take (k+1)):=fun s=>by
 rw [Wf hp,h s,if_neg (fun q=>hk q.1),List.append_nil]
theorem zfn {c:Int}{ps:List Pt}{s:Int}:(Kf c ps s).length≤ps.length:=by
 unfold Kf
 rw [List.length_map]
 exact List.length_filter_le _ _
theorem zuK {I:Qu}{e:Nat}{mr:List (Int×(Value×Nat×List Value))}{ps:List Pt}{L:Go.Kn.Loc}(h:zi9 mr ps)(hA:Ws e 1 (mr.map (·.2)) L)(hI:∀ b o,(b,o)∈L→I b=some o)(s:Int):
  ∃ av c,((Zt mr s).getD zeW).1= .slice av (Kf 3 ps s).length c∧Sl I 1 Z5 av (Kf 3 ps s).length c (Kf 3 ps s):=by
 obtain ⟨A,Lt,B,rfl,hO,_⟩:=hA.at s
 rw [h s] at hO
 obtain ⟨av,c,e1,e2⟩:=hO.sl YJ kD (fun b o hb=>hI b o (by simp [hb]))
 have hn:=e2.len
 rw [←hn] at e1 e2
 exact ⟨av,c,e1,e2⟩
theorem zwm {e:Nat}{mr:List (Int×(Value×Nat×List Value))}{ps:List Pt}{s:Int}{L:Go.Kn.Loc}(h:zi9 mr ps)(hO:ZW e 1 ((Zt mr s).getD zeW).1 ((Zt mr s).getD zeW).2.1 ((Zt mr s).getD zeW).2.2 L):((Zt mr s).getD zeW).2.1≤ps.length:=by
 have h1:=hO.1
 rw [h s,zzW] at h1
 have h2:=zfn (c:=3) (ps:=ps) (s:=s)
 omega
theorem zlO {x y:Nat×Obj}{A L B:Go.Kn.Loc}:(x::y::(A++(L++B))).Perm (L++(x::y::(A++B))):=List.perm_append_comm_assoc (x::y::A) L B
def tgP (ps:List Pt)(p:Pt):Bool:= !(((Kf 2 ps p.sign).any fun i=>p.id != i&& !onF ps p.id i)||(Kf 3 ps p.sign).any (onF ps p.id))
theorem zk6 {ps:List Pt}(hL:Lst ps){mi:List (Int×Int)}(hi:ziq mi ps):zqR ps=ps.all (tgP ps):=by
 unfold zqR
 rw [Bool.eq_iff_iff,List.all_eq_true,List.all_eq_true]
 refine forall_congr' fun p=>forall_congr' fun hp=>?_
 unfold tgP
 rw [List.all_eq_true]
 simp only [Bool.not_eq_true',Bool.or_eq_false_iff,List.any_eq_false,Xq]
 constructor
 ·
  intro h
  constructor
  ·
   rintro x ⟨q,hq,h2,hs,rfl⟩ hc
   have:=h q hq
   unfold zxa at this
   rw [if_neg (by simpa using hs.symm),if_pos h2] at this
   simp at this hc
   rcases this with e | e
   ·
    exact hc.1 e
   ·
    rw [hc.2] at e;cases e.2
  ·
   rintro x ⟨q,hq,h3,hs,rfl⟩ hc
   have:=h q hq
   unfold zxa at this
   rw [if_neg (by simpa using hs.symm),if_neg kB,if_pos h3] at this
   simp at this
   rcases this with e | e
   ·
    rw [e,hL.on_irr] at hc;cases hc
   ·
    rw [e] at hc;cases hc
 ·
  rintro ⟨h1,h2⟩ q hq
  unfold zxa
  by_cases hs:p.sign=q.sign
  ·
   rw [if_neg (by simpa using hs)]
   by_cases e:p.id=q.id
   ·
    simp [e]
   ·
    by_cases k2:q.kind=2
    ·
     rw [if_pos k2]
     have:=h1 q.id ⟨q,hq,k2,hs.symm,rfl⟩
     have hk:p.kind≠2:=fun k=>e (by
      have hm1:=Xq.2 ⟨p,hp,k,rfl,rfl⟩
      have hm2:=Xq.2 ⟨q,hq,k2,hs.symm,rfl⟩
      rw [hi p.sign] at hm1 hm2
      cases hg:Zt mi p.sign with
      | none=>rw [hg] at hm1;cases hm1
      | some z=>rw [hg] at hm1 hm2;simp at hm1 hm2;rw [hm1,hm2])
     simp [e] at this
     simp [this,hk]
    ·
     rw [if_neg k2]
     by_cases k3:q.kind=3
     ·
      rw [if_pos k3]
      have:=h2 q.id ⟨q,hq,k3,hs.symm,rfl⟩
      simp at this
      simp [this]
     ·
      rw [if_neg k3];simp
  ·
   rw [if_pos hs];simp
theorem zt2 {ps:List Pt}(hL:Lst ps){mi:List (Int×Int)}{k:Nat}{p:Pt}{id:Int}(h:ziq mi (ps.take k))(hp:ps[k]? =some p)(hk:p.kind=2)(hn:Zt mi p.sign=some id):zqR ps=false:=by
 have hm:id∈Kf 2 (ps.take k) p.sign:=by rw [h,hn];simp
 obtain ⟨q,hq,k2,hs,rfl⟩:=Xq.1 hm
 have hlt:=hL.fresh hp q hq
 unfold zqR
 rw [Bool.eq_false_iff]
 intro hc
 rw [List.all_eq_true] at hc
 have h1:=hc p (List.mem_of_getElem? hp)
 rw [List.all_eq_true] at h1
 have h2:=h1 q (List.mem_of_mem_take hq)
 unfold zxa at h2
 rw [if_neg (by simpa using hs.symm),if_pos k2] at h2
 simp [hk] at h2
 omega
theorem zqX {ps:List Pt}{p:Pt}{mi:List (Int×Int)}(hi:ziq mi ps):((Zt mi p.sign).isSome&&(p.id != (Zt mi p.sign).getD 0)&& !onF ps p.id ((Zt mi p.sign).getD 0))=((Kf 2 ps p.sign).any fun i=>p.id != i&& !onF ps p.id i):=by
 rw [hi p.sign]
 cases Zt mi p.sign with
 | none=>rfl
 | some x=>simp
theorem zvA {ps:List Pt}(h:ps.length>512):zam ps=2:=by unfold zam;rw [if_pos h]
theorem zvJ {ps:List Pt}(h:¬ps.length>512){k:Nat}{p:Pt}(hp:ps[k]? =some p)(h0:orF ((ps.take k).map K1)=0)(h1:K1 p≠0):zam ps=K1 p:=by
 have:orF (ps.map K1)=K1 p:=zpF (k:=k) (by simp [hp]) (by rw [←List.map_take];exact h0) h1
 unfold zam;rw [if_neg h,this,if_pos h1]
theorem zv5 {ps:List Pt}(h:¬ps.length>512)(h0:orF (ps.map K1)=0)(h1:lsB ps=false):zam ps=380:=by unfold zam;rw [if_neg h,if_neg kB,h1];rfl
theorem zlC {ps:List Pt}(h:¬ps.length>512)(h0:orF (ps.map K1)=0)(h1:lsB ps=true)(h2:zqR ps=false):zam ps=380:=by unfold zam;rw [if_neg h,if_neg kB,h1,h2];rfl
theorem zxd {ps:List Pt}(h:¬ps.length>512)(h0:orF (ps.map K1)=0)(h1:lsB ps=true)(h2:zqR ps=true):zam ps=0:=by unfold zam;rw [if_neg h,if_neg kB,h1,h2];rfl
theorem ztd {ps:List Pt}{k:Nat}{p:Pt}(hp:ps[k]? =some p)(h0:orF ((ps.take k).map K1)=0)(h1:K1 p=0):orF ((ps.take (k+1)).map K1)=0:=by
 rw [za1] at h0 ⊢
 intro x hx
 rw [XI hp,List.map_append,List.mem_append] at hx
 rcases hx with hx | hx
 ·
  exact h0 x hx
 ·
  simp at hx;rw [hx,h1]
theorem znL {p:Pt}(h:K1 p=0):1≤p.id∧p.id≤1048576∧0≤p.sign∧p.sign≤1048576∧p.needs.length≤32:=by
 unfold K1 at h
 split at h
 ·
  cases h
 ·
  split at h
  ·
   rename_i h1 h2
   simp only [Bool.and_eq_true] at h2
   have h3:=h2.2.1
   unfold idB at h3
   simp at h3
   omega
  ·
   cases h
theorem zyA {I:Qu}{av:Option Addr}{n c:Nat}{ps:List Pt}(hP:SlP I av n c ps)(hz:∀ p∈ps,K1 p=0):∀ p∈ps,p.n≤100000:=fun p hp=>by
 have h1:Sl I 1 Z5 p.a p.n p.c p.needs:=hP.2 p hp
 have h2:=hz p hp
 have h3:=h1.len
 unfold K1 at h2
 split at h2
 ·
  cases h2
 ·
  omega
end
section
open Go Go.Kn Go.Proofs
theorem zfs {I:Qu}{av:Option Addr}{n c:Nat}{ps:List Pt}(hP:SlP I av n c ps)(hn:n≤100000):ZA Tryz.prog 39 [.slice av n c] I (.int .i64 (zam ps)):=by
 intro g H w hw
 refine qe Tryz.func39 Tryz.ntmps39 hw ?_
 have hIc:=zz4 I
 refine zR (zA (zN (Qo (zR ?_))))
 refine zM ?_
 refine zQ YW ?_
 refine zC (zN ?_)
 refine zI ?_ ?_<;>intro hc24
 ·
  have hlen:ps.length>512:=by rw [hP.len];simp at hc24;omega
  refine zR (zA (zN (Qs (Qf ?_))))
  exact zp hIc rfl rfl (by rw [zvA hlen])
 have hlen:¬ps.length>512:=by rw [hP.len];simp at hc24;omega
 refine Qp (Qd (Qo (zR (zM ?_))))
 refine zQ YW ?_
 refine zM (zN (Qx ?_))
 refine zU [(0,_),(25,_),(26,_)] (fun T L0 mz E I' loc'=>∃ (k:Nat) (e:Int),mz=n-k∧E=(27,.int .i64 k)::T∧I=I'∧L0=loc'∧k≤n∧e=0∧orF ((ps.take k).map K1)=0) ?_ (h:=⟨0,0,rfl,rfl,rfl,rfl,Nat.zero_le _,rfl,rfl⟩)
 rintro mz E I' loc' ⟨k,e,rfl,rfl,rfl,rfl,hk,he,h0⟩
 refine zR (zC (zN (Qo ?_)))
 refine zI ?_ ?_<;>intro hc28
 ·
  have hlt_k:k<n:=by have h:=hc28;simp at h;omega
  have hP1:=hP.1
  obtain ⟨p,hp,hN⟩:=hP.at hlt_k
  have hpm:=List.mem_of_getElem? hp
  have hN:Sl I 1 Z5 p.a p.n p.c p.needs:=hN
  refine Qp (Qd (Qo (Qx (zR ?_))))
  refine zV (QE rfl rfl YW kJ (fun hg=>kB)) ?_
  refine zV (Qg rfl Y3 (fun hg=>by exact zz5 hP1 hp) rfl) ?_
  refine Qr zcb rfl rfl (fun b_4=>?_)
  refine zh UI ?_
  refine zN (zR ?_)
  refine zV (Qg rfl Y3 (fun hg=>by exact Cells.g0) rfl) ?_
  refine qcV (vs:=[_]) rfl zqK (zqu p hN) ?_
  refine zA ?_
  refine zN (zR ?_)
  refine zM ?_
  refine zC (zN ?_)
  refine zI ?_ ?_<;>intro hc34
  ·
   have hbad:zam ps=K1 p:=zvJ hlen hp h0 (by simpa using hc34)
   refine zR (zM ?_)
   refine zA (zN (Qs (Qk (Qf (Qf (Qk (Qf ?_)))))))
   exact zp hIc rfl rfl (by rw [hbad])
  have hpk:K1 p=0:=by simpa using hc34
  refine Qp (Qj (Qd (Qi (zB ?_))))
  refine zM (Qb ?_)
  exact zm (h:=⟨n-(k+1),kB,k+1,_,rfl,rfl,rfl,rfl,kB,hpk,ztd hp h0 hpk⟩)
 have hge_k:n≤k:=by have h:=hc28;simp at h;omega
 have h0:orF (ps.map K1)=0:=by rw [ZV hP.len hge_k] at h0;exact h0
 have hz:∀ p∈ps,K1 p=0:=fun p hp=>za1.1 h0 _ (List.mem_map.2 ⟨p,hp,rfl⟩)
 have hnd:=zyA hP hz
 refine Q6 (Qn (Qn (Qw (Qd (zR ?_)))))
 refine Z7 rfl rfl (fun r_37=>?_)
 refine Qr zv0 rfl rfl (fun b_5=>?_)
 refine zS zsU ?_
 refine zA (zN (Qo (zR ?_)))
 refine zM ?_
 refine zQ YW ?_
 refine zM (zN (Qx ?_))
 refine zU [(0,_),(5,_),(38,_),(39,_)] (fun T L0 mz E I' loc'=>∃ (k:Nat) (l:Int) (s:List (Int×Bool)),mz=n-k∧E=(6,.int .i64 l)::(40,.int .i64 k)::T∧I=I'∧[(b_5,.cells #[.map (some r_37)] 143 (0,0)),(r_37,Yo (Value.int .i64) Value.bool s)]=loc'∧k≤n∧(List.range k).all (lsQ ps)=true∧zif (zv8 ps) k l∧∀ x,znB s x=zi6 (ps.take k) x) ?_ (h:=⟨0,0,[],rfl,rfl,rfl,rfl,Nat.zero_le _,rfl,⟨fun _=>rfl,fun y hy h=>absurd rfl h⟩,fun x=>rfl⟩)
 rintro mz E I' loc' ⟨k,l,s,rfl,rfl,rfl,rfl,hk,hall,hl,hs⟩
 refine zR (zC (zN (Qo ?_)))
 refine zI ?_ ?_<;>intro hc41
 ·
  have hlt_k:k<n:=by have h:=hc41;simp at h;omega
  have hP1:=hP.1
  obtain ⟨p,hp,hN⟩:=hP.at hlt_k
  have hpm:=List.mem_of_getElem? hp
  have hN:Sl I 1 Z5 p.a p.n p.c p.needs:=hN
  have hpn:=hnd p hpm
  have hp1:=(znL (hz p hpm)).1
  refine Qp (Qd (Qo (Qx (zR ?_))))
  refine zV (QE rfl rfl YW kJ (fun hg=>kB)) ?_
  refine zV (Qg rfl Y3 (fun hg=>by exact zz5 hP1 hp) rfl) ?_
  refine Qr zcb rfl rfl (fun b_8=>?_)
  refine zh UI ?_
  refine zN (Qo (zR ?_))
  refine zF ZJ ?_
  refine zL Qm ?_
  refine zM ?_
  refine zC ?_
  refine zM ?_
  refine QK 4 rfl rfl rfl ?_
  refine zJ (Qa rfl ZK) ?_
  refine zJ (Qc rfl Vi (fun hg=>by exact QA.h0 rfl)) ?_
  refine zJ (Yz (us:=[]) (vs:=[_]) rfl rfl) ?_
  refine zej (cap:=[]) (vs:=[_,_]) rfl rfl zxu Zk (fun hg=>zmw.ofV fun I' hI' hL'=>zyX (cap:=[.pointer (some ⟨b_5,0,none⟩)]) (hN.mono hI') hpn zxs (fun x _=>zyo (b:=b_5) (r:=r_37) (s:=s) (hL' b_5 _ kH) (hL' r_37 _ kH) x)) (.some rfl rfl rfl rfl gbf) rfl rfl ?_
  refine Zg rfl rfl rfl rfl rfl ?_
  refine zN ?_
  refine zI ?_ ?_<;>intro hc53
  ·
   have hbad:zam ps=380:=zv5 hlen h0 (by rw [←zkd h0];exact JN (k:=k) (by rw [hP.len];exact hlt_k) (by rw [zqN hp hp1 hl hs];exact congrArg (! ·) hc53))
   refine zR (zA (zN (Qs (Qf (Qk (Qf (Qf ?_)))))))
   refine Qk (Qf ?_)
   exact zp hIc rfl rfl (by rw [hbad])
  refine Qp (Qd ?_)
  have hD:=zz4 I
  refine Zn ?_
  refine QL I [(b_8,.cells (KY p).toArray 39 (0,0)),(b_5,.cells #[.map (some r_37)] 143 (0,0))] mixed ?_
  refine zT 0 rfl (Qc rfl zmW (fun hg=>by exact QA.h1 rfl)) hD ?_
  refine zT 1 rfl (Qa rfl ZJ) hD ?_
  refine zT 2 rfl (Qc rfl Qm (fun hg=>by exact QA.h0 rfl)) hD ?_
  refine zT 3 rfl (Qa rfl ZJ) hD ?_
  refine zT 4 rfl (Qc rfl Qm (fun hg=>by exact QA.h0 rfl)) hD ?_
  refine qd 5 rfl ?_
  refine Yu (m:=s) (ek:=Value.int .i64) (ev:=Value.bool) (a:=p.id) true WC Q3 rfl rfl rfl rfl (by repeat (first | exact Upd.here | apply Upd.there | apply ZE)) ?_
  refine Qb ?_
  refine zD hD ?_
  refine zT 6 rfl (Qv rfl) hD ?_
  refine Ql kA ?_
  refine Qt ?_
  refine Qj (Qd (Qi (zB ?_)))
  refine zM (Qb ?_)
  exact zm (h:=⟨n-(k+1),kB,k+1,_,_,rfl,rfl,rfl,rfl,kB,VU hall (by rw [zqN hp hp1 hl hs];exact congrArg (! ·) hc53),zin hp,fun x=>by rw [zg2,hs,zoJ hp]⟩)
 have hge_k:n≤k:=by have h:=hc41;simp at h;omega
 have hls:lsB ps=true:=by rw [←zkd h0,hP.len,show n=k by omega];exact hall
 have hL:Lst ps:=zqV h0 hls
 refine Q6 (Qn (Qn (Qw (Qd (zR (zM ?_))))))
 refine zpc [_] rfl zwj .nil (zo7 hP hn hL hnd) ?_
 rintro vv3 I3 L3 hI3 ⟨rfl,r9,rfl,hOn⟩
 have hP:=hP.mono hI3;have hIc:=hIc.trans hI3
 refine zA ?_
 refine zN (zR ?_)
 refine Z7 rfl rfl (fun r_62=>?_)
 refine Z7 rfl rfl (fun r_63=>?_)
 refine zA ?_
 refine zA (zN (Qo (Qo ?_)))
 refine zn0 [(r_63,Yo (Value.int .i64) ztz []),(r_62,Yo (Value.int .i64) (Value.int .i64) [])] (by repeat (first | exact QC | exact .refl | refine .keep ?_ | refine .drop ?_)) ?_
 refine Qi (zM ?_)
 refine zQ YW ?_
 refine zM (zN (Qx ?_))
 refine zU [(0,_),(9,_),(10,_),(11,_),(64,_),(65,_)] (fun T L0 mz E I' loc'=>∃ (k:Nat) (mi:List (Int×Int)) (mr:List (Int×(Value×Nat×List Value))) (L:Go.Kn.Loc),mz=n-k∧E=(66,.int .i64 k)::T∧I3=I'∧(r_63,Yo (Value.int .i64) ztz mr)::(r_62,Yo (Value.int .i64) (Value.int .i64) mi)::L=loc'∧k≤n∧ziq mi (ps.take k)∧zi9 mr (ps.take k)∧Ws 3 1 (mr.map (·.2)) L) ?_ (h:=⟨0,[],[],[],rfl,rfl,rfl,rfl,Nat.zero_le _,ziq.nil,zi9.nil,Ws.nil⟩)
 rintro mz E I' loc' ⟨k,mi,mr,L,rfl,rfl,rfl,rfl,hk,hmi,hmr,hAll⟩
 refine zR (zC (zN (Qo ?_)))
 refine zI ?_ ?_<;>intro hc67
 ·
  have hlt_k:k<n:=by have h:=hc67;simp at h;omega
  have hP1:=hP.1
  obtain ⟨p,hp,hN⟩:=hP.at hlt_k
  have hpm:=List.mem_of_getElem? hp
  have hN:Sl I3 1 Z5 p.a p.n p.c p.needs:=hN
  have hpn:=hnd p hpm
  refine Qp (Qd (Qo (Qx (zR ?_))))
  refine zV (QE rfl rfl YW kJ (fun hg=>kB)) ?_
  refine zV (Qg rfl Y3 (fun hg=>by exact zz5 hP1 hp) rfl) ?_
  refine Qr zcb rfl rfl (fun b_13=>?_)
  refine zh UI ?_
  refine zN (zR ?_)
  refine zF JH ?_
  refine zL Qm ?_
  refine zN (Qx (zR (zC ?_)))
  refine zA (zN ?_)
  refine zI ?_ ?_<;>intro hc72
  ·
   have hk2:p.kind=2:=by simpa using hc72
   refine Qo (zR (zM ?_))
   refine zF Yq ?_
   refine zL Qm ?_
   refine zV (X9 (m:=mi) (ek:=Value.int .i64) (a:=p.sign) zfP Q3 rfl rfl (fun _=>.inr kH)) ?_
   refine zM ?_
   refine zE ?_
   refine zE ?_
   refine zA ?_
   refine zA ?_
   refine zN (zR ?_)
   refine zM (zN ?_)
   refine zI ?_ ?_<;>intro hc81
   ·
    obtain ⟨id,hid⟩:=Option.isSome_iff_exists.1 hc81
    have hbad:zam ps=380:=zlC hlen h0 hls (zt2 hL hmi hp hk2 hid)
    refine zR (zA (zN (Qs (Qf (Qk (Qk (Qf ?_)))))))
    refine Qf (Qk (Qf ?_))
    exact zp hIc rfl rfl (by rw [hbad])
   have hnone:Zt mi p.sign=none:=by simpa using hc81
   refine Qp (Qd (Qi (zM ?_)))
   refine zF Yq ?_
   refine zL Qm ?_
   refine zF ZJ ?_
   refine zL Qm ?_
   refine Yu (m:=mi) (ek:=Value.int .i64) (ev:=Value.int .i64) (a:=p.sign) p.id zfP Q3 rfl rfl rfl rfl (by repeat (first | exact Upd.here | apply Upd.there | apply ZE)) ?_
   refine Qb (Qj (Qj (Qd (Qi (zB ?_)))))
   refine zM (Qb ?_)
   exact zm (h:=⟨n-(k+1),kB,k+1,_,_,_,rfl,rfl,rfl,rfl,kB,hmi.put hp hk2 hnone,hmr.skip hp kB,hAll⟩)
  have hk2n:p.kind≠2:=by simpa using hc72
  refine zR (zC ?_)
  refine zA (zN ?_)
  refine zI ?_ ?_<;>intro hc87
  ·
   have hk3:p.kind=3:=by simpa using hc87
   obtain ⟨A,Lt,B,rfl,hOt,hset⟩:=hAll.at p.sign
   have hq:=zwm hmr hOt
   have hq2:=List.length_take_le k ps
   have hD:=zz4 I3
   refine Zn ?_
   refine QL I3 [(b_13,.cells (KY p).toArray 39 (0,0))] mixed ?_
   refine zT 0 rfl (Qe rfl) hD ?_
   refine zT 1 rfl (Qa rfl Yq) hD ?_
   refine zT 2 rfl (Qc rfl Qm (fun hg=>by exact QA.h0 rfl)) hD ?_
   refine zT 3 rfl (Qe rfl) hD ?_
   refine zT 4 rfl (Qa rfl Yq) hD ?_
   refine zT 5 rfl (Qc rfl Qm (fun hg=>by exact QA.h0 rfl)) hD ?_
   refine zT 7 rfl (Qa rfl ZJ) hD ?_
   refine zT 8 rfl (Qc rfl Qm (fun hg=>by exact QA.h0 rfl)) hD ?_
   refine QS 6 9 rfl rfl kA ?_ ?_
   ·
    refine zV (XT (m:=mr) (ek:=Value.int .i64) (a:=p.sign) zba Q3 rfl rfl (fun _=>.inr kH)) ?_
    refine Qb ?_
    refine zD hD ?_
    refine qd 9 rfl ?_
    refine zpb [(0,_)] [Z5 p.id] Vb (fun b_98=>?_)
    refine Qb ?_
    refine zD hD ?_
    refine qd 10 rfl ?_
    refine zpa (_) ([p.id].flatMap Z5) (Lt) rfl rfl Vb hOt ⟨rfl,fun _=>rfl,zz2⟩ (zbn [p.id]) ?_
    intro v9 L9 hO9 _
    refine Qb ?_
    refine zD hD ?_
    refine qd 11 rfl ?_
    refine Yu (m:=mr) (ek:=Value.int .i64) (ev:=ztz) (a:=p.sign) (v9,((Zt mr p.sign).getD zeW).2.1+1,((Zt mr p.sign).getD zeW).2.2++[p.id].flatMap Z5) zba Q3 rfl rfl rfl rfl (by repeat (first | exact Upd.here | apply Upd.there | apply ZE)) ?_
    refine Qb ?_
    refine zD hD ?_
    refine Ql kA ?_
    refine Qt ?_
    refine Qj (Qj (Qd (Qi (zB ?_))))
    refine zM (Qb ?_)
    exact zmX _ _ (L9++((r_63,_)::(r_62,_)::(A++B))) ⟨n-(k+1),kB,k+1,_,_,A++(L9++B),rfl,rfl,rfl,rfl,kB,hmi.skip hp hk2n,hmr.put hp hk3,hset (v9,_,_) L9 hO9⟩ (.cons rfl (.cons rfl (.cons rfl (.cons rfl (.cons rfl (.cons rfl (.cons rfl .nil))))))) zlO kC
   refine zpb [(0,_)] [Z5 p.id] Vb (fun b_98=>?_)
   refine Qb ?_
   refine zD hD ?_
   refine qd 6 rfl ?_
   refine zV (XT (m:=mr) (ek:=Value.int .i64) (a:=p.sign) zba Q3 rfl rfl (fun _=>.inr kH)) ?_
   refine Qb ?_
   refine zD hD ?_
   refine qd 10 rfl ?_
   refine zpa (_) ([p.id].flatMap Z5) (Lt) rfl rfl Vb hOt ⟨rfl,fun _=>rfl,zz2⟩ (zbn [p.id]) ?_
   intro v9 L9 hO9 _
   refine Qb ?_
   refine zD hD ?_
   refine qd 11 rfl ?_
   refine Yu (m:=mr) (ek:=Value.int .i64) (ev:=ztz) (a:=p.sign) (v9,((Zt mr p.sign).getD zeW).2.1+1,((Zt mr p.sign).getD zeW).2.2++[p.id].flatMap Z5) zba Q3 rfl rfl rfl rfl (by repeat (first | exact Upd.here | apply Upd.there | apply ZE)) ?_
   refine Qb ?_
   refine zD hD ?_
   refine Ql kA ?_
   refine Qt ?_
   refine Qj (Qj (Qd (Qi (zB ?_))))
   refine zM (Qb ?_)
   exact zmX _ _ (L9++((r_63,_)::(r_62,_)::(A++B))) ⟨n-(k+1),kB,k+1,_,_,A++(L9++B),rfl,rfl,rfl,rfl,kB,hmi.skip hp hk2n,hmr.put hp hk3,hset (v9,_,_) L9 hO9⟩ (.cons rfl (.cons rfl (.cons rfl (.cons rfl (.cons rfl (.cons rfl (.cons rfl .nil))))))) zlO kC
  have hk3n:p.kind≠3:=by simpa using hc87
  refine Qp (Qj (Qj (Qd (Qi (zB ?_)))))
  refine zM (Qb ?_)
  exact zm (h:=⟨n-(k+1),kB,k+1,_,_,_,rfl,rfl,rfl,rfl,kB,hmi.skip hp hk2n,hmr.skip hp hk3n,hAll⟩)
 have hge_k:n≤k:=by have h:=hc67;simp at h;omega
 rw [ZV hP.len hge_k] at hmi hmr
 refine Q6 (Qn (Qn (Qw (Qd (Qo (Qo ?_))))))
 refine zgw (fun I5 hI5 hb5=>?_)
 have hP:=hP.mono hI5;have hOn:=hOn.mono hI5;have hIc:=hIc.trans hI5
 have hmiI:I5 r_62=some (Yo (Value.int .i64) (Value.int .i64) mi):=hb5 _ _ kH
 have hmrI:I5 r_63=some (Yo (Value.int .i64) ztz mr):=hb5 _ _ kH
 have hrem:=zuK hmr hAll (fun b o h=>hb5 b o (by simp [h]))
 obtain ⟨m,hm1,hm2⟩:=hOn
 refine Qi (zM ?_)
 refine zQ YW ?_
 refine zM (zN (Qx ?_))
 refine zU [(9,_),(10,_),(11,_),(101,_),(102,_)] (fun T L0 mz E I' loc'=>∃ (k:Nat),mz=n-k∧E=(103,.int .i64 k)::T∧I5=I'∧[]=loc'∧k≤n∧(ps.take k).all (tgP ps)=true) ?_ (h:=⟨0,rfl,rfl,rfl,rfl,Nat.zero_le _,rfl⟩)
 rintro mz E I' loc' ⟨k,rfl,rfl,rfl,rfl,hk,htg⟩
 refine zR (zC (zN (Qo ?_)))
 refine zI ?_ ?_<;>intro hc104
 ·
  have hlt_k:k<n:=by have h:=hc104;simp at h;omega
  have hP1:=hP.1
  obtain ⟨p,hp,hN⟩:=hP.at hlt_k
  have hpm:=List.mem_of_getElem? hp
  have hN:Sl I5 1 Z5 p.a p.n p.c p.needs:=hN
  have hpn:=hnd p hpm
  obtain ⟨ref,hget,sn,hsn,hsq⟩:=hm2.get ⟨p,hpm,rfl⟩
  refine Qp (Qd (Qo (Qx (zR ?_))))
  refine zV (QE rfl rfl YW kJ (fun hg=>kB)) ?_
  refine zV (Qg rfl Y3 (fun hg=>by exact zz5 hP1 hp) rfl) ?_
  refine Qr zcb rfl rfl (fun b_17=>?_)
  refine zh UI ?_
  refine zN (Qo (zR (zM ?_)))
  refine zF Yq ?_
  refine zL Qm ?_
  refine zV (X9 (m:=mi) (ek:=Value.int .i64) (a:=p.sign) zfP Q3 rfl rfl (fun _=>.inl hmiI)) ?_
  refine zM ?_
  refine zE ?_
  refine zE ?_
  refine zA ?_
  refine zA ?_
  refine zN (zR ?_)
  refine zM ?_
  refine zM ?_
  refine Qq 1 rfl rfl rfl ?_
  refine zK (Qa rfl ZJ) ?_
  refine zK (Qc rfl Qm (fun hg=>by exact QA.h0 rfl)) ?_
  refine zK (Qe rfl) ?_
  refine zK (Qz rfl rfl rfl) ?_
  refine QB rfl rfl rfl rfl rfl ?_
  refine zM ?_
  refine Qq 7 rfl rfl rfl ?_
  refine zK (Qe rfl) ?_
  refine zK (Qa rfl ZJ) ?_
  refine zK (Qc rfl Qm (fun hg=>by exact QA.h0 rfl)) ?_
  refine zK (XX (m:=m) (ek:=Value.int .i64) (ev:=zpG) (a:=p.id) hget zdn Q3 rfl rfl (fun _=>.inl hm1)) ?_
  refine zK (Qe rfl) ?_
  refine zK (YL (m:=sn) WC Q3 rfl rfl (fun _=>.inl hsn)) ?_
  refine zK (Zs rfl) ?_
  refine QB rfl rfl rfl rfl rfl ?_
  refine zN ?_
  refine zI ?_ ?_<;>intro hc129
  ·
   have hA:=hc129
   simp only [show ∀ x,(Zt sn x).getD false=onF ps p.id x from fun x=>hsq.mem x] at hA
   have hbad:zam ps=380:=zlC hlen h0 hls (by rw [zk6 hL hmi];exact zq5 hp (by unfold tgP;rw [←zqX hmi,hA];rfl))
   refine zR (zA (zN (Qs (Qf (Qk (Qf (Qf ?_)))))))
   refine Qk (Qf ?_)
   exact zp hIc rfl rfl (by rw [hbad])
  have hA:=hc129
  simp only [show ∀ x,(Zt sn x).getD false=onF ps p.id x from fun x=>hsq.mem x] at hA
  refine Qp (Qd (Qo ?_))
  obtain ⟨av2,c2,hv2,hS2⟩:=hrem p.sign
  have hk3l:=zfn (c:=3) (ps:=ps) (s:=p.sign)
  have hpl:=hP.len
  refine Qi (zM ?_)
  refine zF Yq ?_
  refine zL Qm ?_
  refine zV (zgv (m:=mr) (ek:=Value.int .i64) (a:=p.sign) hv2 zba Q3 rfl rfl (fun _=>.inl hmrI)) ?_
  refine zQ ZF ?_
  refine zM (zN (Qx ?_))
  refine zU [(9,_),(10,_),(11,_),(17,_),(101,_),(102,_),(103,_),(133,_),(134,_)] (fun T L0 mz E I' loc'=>∃ (j:Nat),mz=(Kf 3 ps p.sign).length-j∧E=(135,.int .i64 j)::T∧I5=I'∧[(b_17,.cells (KY p).toArray 39 (0,0))]=loc'∧j≤(Kf 3 ps p.sign).length∧((Kf 3 ps p.sign).take j).any (onF ps p.id)=false) ?_ (h:=⟨0,rfl,rfl,rfl,rfl,Nat.zero_le _,rfl⟩)
  rintro mz E I' loc' ⟨j,rfl,rfl,rfl,rfl,hj,hno⟩
  refine zR (zC (zN (Qo ?_)))
  refine zI ?_ ?_<;>intro hc136
  ·
   have hlt_j:j<(Kf 3 ps p.sign).length:=by have h:=hc136;simp at h;omega
   obtain ⟨y,hy⟩:=hS2.at hlt_j
   refine Qp (Qd (Qo (Qx (zR ?_))))
   refine zV (QE rfl rfl ZF kJ (fun hg=>kB)) ?_
   refine zV (Qc rfl Qm (fun hg=>by exact zzX hS2 hy rfl)) ?_
   refine zA ?_
   refine zN (zR ?_)
   refine zM ?_
   refine zF ZJ ?_
   refine zL Qm ?_
   refine zV (XX (m:=m) (ek:=Value.int .i64) (ev:=zpG) (a:=p.id) hget zdn Q3 rfl rfl (fun _=>.inl hm1)) ?_
   refine zM ?_
   refine zV (YL (m:=sn) WC Q3 rfl rfl (fun _=>.inl hsn)) ?_
   refine zN ?_
   refine zI ?_ ?_<;>intro hc144
   ·
    have hon:=hc144
    simp only [show ∀ x,(Zt sn x).getD false=onF ps p.id x from fun x=>hsq.mem x] at hon
    have hbad:zam ps=380:=zlC hlen h0 hls (by rw [zk6 hL hmi];exact zq5 hp (by unfold tgP;rw [zlf hy hon,Bool.or_true];rfl))
    refine zR (zA (zN (Qs (Qk (Qf (Qf (Qk ?_)))))))
    refine Qk (Qf (Qf (Qk (Qf ?_))))
    exact zp hIc rfl rfl (by rw [hbad])
   have hon:=hc144
   simp only [show ∀ x,(Zt sn x).getD false=onF ps p.id x from fun x=>hsq.mem x] at hon
   refine Qp (Qj (Qd (Qi (zB ?_))))
   refine zM (Qb ?_)
   exact zm (h:=⟨(Kf 3 ps p.sign).length-(j+1),kB,j+1,rfl,rfl,rfl,rfl,kB,zc1 hy hno hon⟩)
  have hge_j:(Kf 3 ps p.sign).length≤j:=by have h:=hc136;simp at h;omega
  rw [ZV rfl hge_j] at hno
  have htp:tgP ps p=true:=by unfold tgP;rw [←zqX hmi,hA,hno];rfl
  refine Q6 (Qn (Qn (Qw (Qj (Qd (Qi (zB ?_)))))))
  refine zM (Qb ?_)
  exact zm (h:=⟨n-(k+1),kB,k+1,rfl,rfl,rfl,rfl,kB,ztp hp htg htp⟩)
 have hge_k:n≤k:=by have h:=hc104;simp at h;omega
 have htog:zqR ps=true:=by rw [zk6 hL hmi];rw [ZV hP.len hge_k] at htg;exact htg
 refine Q6 (Qn (Qn (Qw (Qd (zR (zA (zN ?_)))))))
 refine Qs ?_
 exact zp hIc rfl rfl (by rw [zxd hlen h0 hls htog])
end
section
open Go Go.Kn Go.Proofs
theorem JZ:ElT Tryz.prog 64 39 19 168:=.of kA
theorem za9:Fun Tryz.prog 135:=.of Tryz.func135 kA kA
theorem zmQ:Fun Tryz.prog 136:=.of Tryz.func136 kA kA
theorem zkG:Fun Tryz.prog 137:=.of Tryz.func137 kA kA
theorem zjV:Fun Tryz.prog 138:=.of Tryz.func138 kA kA
theorem zmg:Fun Tryz.prog 139:=.of Tryz.func139 kA kA
theorem zeU:Fun Tryz.prog 39:=.of Tryz.func39 kA kA
theorem zxr:Fun Tryz.prog 67:=.of Tryz.func67 kA kA
theorem zwz:Fun Tryz.prog 69:=.of Tryz.func69 kA kA
theorem zvK:Fun Tryz.prog 71:=.of Tryz.func71 kA kA
theorem zuN:Fun Tryz.prog 73:=.of Tryz.func73 kA kA
theorem UM:MpT Tryz.prog 151 3 43 (.agg #[(.int .i64 0),(.int .i64 0),(.int .i64 0),(.int .i64 0),(.int .i64 0),(.int .i64 0),(.string ⟨#[]⟩),(.string ⟨#[]⟩),(.int .i64 0),(.int .i64 0),(.int .i64 0)]):=⟨kA,.of kA⟩
theorem zdG:MpT Tryz.prog 194 3 41 (.agg #[(.int .i64 0),(.int .i64 0),(.int .i64 0),(.int .i64 0),(.int .i64 0)]):=⟨kA,.of kA⟩
theorem zda:MpT Tryz.prog 198 3 39 (.agg #[(.int .i64 0),(.int .i64 0),(.int .i64 0),(.int .i64 0),(.int .i64 0),(.int .i64 0),(.int .i64 0),(.int .i64 0),(.int .i64 0),(.int .i64 0),(.int .i64 0),(.int .i64 0),(.int .i64 0),(.int .i64 0),(.int .i64 0),(.int .i64 0),(.int .i64 0),(.int .i64 0),(.slice none 0 0)]):=⟨kA,.of kA⟩
theorem znI {I:Qu}{av:Option Addr}{n c:Nat}{xs:List Nt}(hP:zbd I av n c xs)(hn0:n≤4096):Vs Tryz.prog 66 [.slice av n c,.int .i64 1,.func (.func 67) #[] #[],.func (.func 37) #[] #[]] I [] (fun v I' L'=>L'=[]∧∃ a n c,v= .slice a n c∧Sl I' 9 Zh a n c (Wo (fun x=>x.lm.no) (fun x=>x.lm) 1 zcX Vk xs)):=by
 intro g H w hw
 refine qe Tryz.func66 Tryz.ntmps66 hw ?_
 have hIc:=zz4 I
 have hln:=hP.sl.len
 refine zR (zA ?_)
 refine zN (zR ?_)
 refine Z7 rfl rfl (fun r_20=>?_)
 refine (show XO _ _ _ _ _ _ _ ((r_20,Yo (.int .i64) Ji ([]:List (Int×Lm)))::_) from ?_)
 refine zA ?_
 refine zN (zR ?_)
 refine zA (zN (Qo (zR ?_)))
 refine zM ?_
 refine zQ Q8 ?_
 refine zM (zN (Qx ?_))
 refine zU [(1,_),(2,_),(3,_),(8,_),(9,_),(21,_),(22,_)] (fun T L0 mz E I' loc'=>∃ (k:Nat) (v:Value) (q:Nat) (Lw:Go.Kn.Loc),mz=n-k∧E=(10,v)::(23,.int .i64 k)::T∧I=I'∧Lw++[(r_20,Yo (.int .i64) Ji (ZY (fun x=>x.lm.no) (fun x=>x.lm) 1 (xs.take k)))]=loc'∧k≤n∧ZW 3 1 v q (((ZY (fun x=>x.lm.no) (fun x=>x.lm) 1 (xs.take k)).map (·.1)).flatMap Z5) Lw∧q=(ZY (fun x=>x.lm.no) (fun x=>x.lm) 1 (xs.take k)).length) ?_ (h:=⟨0,_,0,[],rfl,rfl,rfl,rfl,Nat.zero_le _,ZW.nil,rfl⟩)
 rintro mz E I' loc' ⟨k,v,q,Lw,rfl,rfl,rfl,rfl,hk,hO,hq⟩
 refine zR (zC (zN (Qo ?_)))
 refine zI ?_ ?_<;>intro hc24
 ·
  have hlt_k:k<n:=by have h:=hc24;simp at h;omega
  obtain ⟨x,hx⟩:∃ y,xs[k]? =some y:=⟨_,List.getElem?_eq_getElem kB⟩
  have hml:(ZY (fun x=>x.lm.no) (fun x=>x.lm) 1 (xs.take k)).length≤k:=Nat.le_trans VL (List.length_take_le ..)
  refine Qp (Qd (Qo (Qx (zR ?_))))
  refine zV (QE rfl rfl Q8 hP.sl (fun hg=>kB)) ?_
  refine zV (Qg rfl Q7 (fun hg=>by exact zz5 hP.sl hx) rfl) ?_
  refine Qr Wn rfl rfl (fun b_12=>?_)
  refine zh VG ?_
  refine zN (zR ?_)
  refine zM ?_
  refine zV (Qg rfl Q7 (fun hg=>by exact Cells.g0) rfl) ?_
  refine qcV (vs:=[_]) rfl zxr (zsZ _ x) ?_
  refine zM ?_
  refine zE ?_
  refine zE ?_
  refine Qr ze2 rfl rfl (fun b_13=>?_)
  refine zh zad ?_
  refine zA (zN (Qo ?_))
  rcases hget:Zt (ZY (fun x=>x.lm.no) (fun x=>x.lm) 1 (xs.take k)) (x.lm.no) with _ | y0
  ·
   refine Qi (zM ?_)
   refine zM ?_
   refine zV (ZR (ek:=Value.int .i64) (ev:=Ji) XP Q3 rfl rfl (fun _=>kI)) ?_
   rw [hget]
   refine zM ?_
   refine zE ?_
   refine zE ?_
   refine Qr ze2 rfl rfl (fun b_15=>?_)
   refine zh zad ?_
   refine zA ?_
   refine zN (zR ?_)
   refine zF Yg ?_
   refine zL Qm ?_
   refine zM ?_
   refine zC ?_
   refine zM ?_
   refine Qq 4 rfl rfl rfl ?_
   refine zK (Qe rfl) ?_
   refine zK (Zs rfl) ?_
   refine QB rfl rfl rfl rfl rfl ?_
   refine zN ?_
   refine zI ?_ ?_<;>intro hc46
   ·
    have hkd:(x.kind==1)=true:=by simpa using hc46
    refine zR (zM ?_)
    refine zM ?_
    refine zV (Qg rfl V7 (fun hg=>by exact Cells.g1) rfl) ?_
    refine zx9 (ek:=Value.int .i64) (ev:=Ji) (x.lm) XP Q3 ?_
    refine zN (Qi (zM ?_))
    refine zM ?_
    refine zpb [(0,_)] [Z5 (x.lm.no)] Vb (fun b_52=>?_)
    refine zpa (_) ([x.lm.no].flatMap Z5) (Lw) rfl rfl Vb hO ⟨rfl,fun _=>rfl,by repeat (first | exact zz2 | apply zz1 | apply zz3)⟩ (zbn [x.lm.no]) ?_
    intro v9 L9 hO9 _;rw [←List.flatMap_append] at hO9
    refine zA (Qb (Qj (Qd (Qi ?_))))
    refine zB ?_
    refine zM (Qb ?_)
    exact Zc _ (L9++[(r_20,Yo (.int .i64) Ji (Jr (ZY (fun x=>x.lm.no) (fun x=>x.lm) 1 (xs.take k)) (x.lm.no) (x.lm)))]) ⟨n-(k+1),kB,k+1,_,_,_,rfl,rfl,rfl,by rw [Zb hx,zaY hget hkd],kB,by rw [Zb hx,JO hget hkd];exact hO9,by rw [Zb hx,←List.length_map (f:=fun p=>p.1),JO hget hkd,List.length_append,List.length_map];simp;omega⟩ (.cons rfl (.cons rfl (.cons rfl (.cons rfl (.cons rfl (.cons rfl (.cons rfl (.cons rfl (.cons rfl .nil))))))))) kC
   have hkd:(x.kind==1)=false:=by simpa using hc46
   have hsame:WR (fun x=>x.lm.no) (fun x=>x.lm) 1 (ZY (fun x=>x.lm.no) (fun x=>x.lm) 1 (xs.take k)) x=(ZY (fun x=>x.lm.no) (fun x=>x.lm) 1 (xs.take k)):=zdU hkd
   refine Qp (Qj (Qd (Qi (zB ?_))))
   refine zM (Qb ?_)
   exact Zc _ (Lw++[(r_20,Yo (.int .i64) Ji (ZY (fun x=>x.lm.no) (fun x=>x.lm) 1 (xs.take k)))]) ⟨n-(k+1),kB,k+1,_,_,_,rfl,rfl,rfl,by rw [Zb hx,hsame],kB,by rw [Zb hx,hsame];exact hO,by rw [Zb hx,hsame];exact hq⟩ (.cons rfl (.cons rfl (.cons rfl (.cons rfl (.cons rfl (.cons rfl (.cons rfl (.cons rfl (.cons rfl .nil))))))))) kC
  refine Qi (zM ?_)
  refine zM ?_
  refine zV (ZR (ek:=Value.int .i64) (ev:=Ji) XP Q3 rfl rfl (fun _=>kI)) ?_
  rw [hget]
  refine zM ?_
  refine zE ?_
  refine zE ?_
  refine Qr ze2 rfl rfl (fun b_15=>?_)
  refine zh zad ?_
  refine zA ?_
  refine zN (zR ?_)
  refine zF Yg ?_
  refine zL Qm ?_
  refine zM ?_
  refine zC ?_
  refine zM ?_
  refine Qq 4 rfl rfl rfl ?_
  refine zK (Qe rfl) ?_
  refine zK (Zs rfl) ?_
  refine QB rfl rfl rfl rfl rfl ?_
  refine zN ?_
  refine zI ?_ ?_<;>intro hc46
  ·
   simp at hc46
  have hsame:WR (fun x=>x.lm.no) (fun x=>x.lm) 1 (ZY (fun x=>x.lm.no) (fun x=>x.lm) 1 (xs.take k)) x=(ZY (fun x=>x.lm.no) (fun x=>x.lm) 1 (xs.take k)):=zaN hget
  refine Qp (Qj (Qd (Qi (zB ?_))))
  refine zM (Qb ?_)
  exact Zc _ (Lw++[(r_20,Yo (.int .i64) Ji (ZY (fun x=>x.lm.no) (fun x=>x.lm) 1 (xs.take k)))]) ⟨n-(k+1),kB,k+1,_,_,_,rfl,rfl,rfl,by rw [Zb hx,hsame],kB,by rw [Zb hx,hsame];exact hO,by rw [Zb hx,hsame];exact hq⟩ (.cons rfl (.cons rfl (.cons rfl (.cons rfl (.cons rfl (.cons rfl (.cons rfl (.cons rfl (.cons rfl .nil))))))))) kC
 have hge_k:n≤k:=by have h:=hc24;simp at h;omega
 have hml:=VL (num:=(fun x=>x.lm.no)) (prt:=(fun x=>x.lm)) (kind:=1) (xs:=xs)
 have hke:xs.take k=xs:=ZV hln hge_k
 rw [hke] at hO hq ⊢
 refine Q6 (Qn (Qn (Qw (Qd (zR (zM ?_))))))
 refine zpc [_] rfl za9 Q0 (zgO 3 ((ZY (fun x=>x.lm.no) (fun x=>x.lm) 1 xs).map (·.1)) (by rw [←KM];exact hO) kB _) ?_
 rintro vv2 I2 L2 hI2 ⟨rfl,rfl,hO2⟩
 have hIc:=hIc.trans hI2
 rw [←KM] at hO2
 refine zN (Qo (Qo ?_))
 refine zx4 hO2 YJ (fun I3 hI3 af3 cf3 ef3 hNs=>?_)
 subst ef3
 have hIc:=hIc.trans hI3
 obtain ⟨ns,hnsd⟩:∃ y,y=KU ((ZY (fun x=>x.lm.no) (fun x=>x.lm) 1 xs).map (·.1)):=⟨_,rfl⟩
 rw [←hnsd] at hNs
 have hnl:=hNs.len
 have hml:=VL (num:=(fun x=>x.lm.no)) (prt:=(fun x=>x.lm)) (kind:=1) (xs:=xs)
 refine Qi (zM ?_)
 refine zQ ZF ?_
 refine zM (zN (Qx ?_))
 refine zU [(3,_),(9,_),(57,_),(58,_)] (fun T L0 mz E I' loc'=>∃ (j:Nat) (a9:Option Addr) (n9:Nat) (c9:Nat),mz=q-j∧E=(8,.slice a9 n9 c9)::(59,.int .i64 j)::T∧HLe I3 I'∧[(r_20,Yo (.int .i64) Ji (ZY (fun x=>x.lm.no) (fun x=>x.lm) 1 xs))]=loc'∧j≤q∧Sl I' 9 Zh a9 n9 c9 (zfB zcX Vk (ZY (fun x=>x.lm.no) (fun x=>x.lm) 1 xs) (ns.take j))∧n9≤j) ?_ (h:=⟨0,none,0,0,rfl,rfl,zz4 _,rfl,Nat.zero_le _,Sl.nil,Nat.le_refl _⟩)
 rintro mz E J4 loc' ⟨j,a9,n9,c9,rfl,rfl,hJ,rfl,hj,hY,hn9⟩
 have hNs:=hNs.mono hJ;have hIc:=hIc.trans hJ
 have hB2:=hJ
 refine zR (zC (zN (Qo ?_)))
 refine zI ?_ ?_<;>intro hc60
 ·
  have hlt_j:j<q:=by have h:=hc60;simp at h;omega
  obtain ⟨m9,hn⟩:∃ y,ns[j]? =some y:=⟨_,List.getElem?_eq_getElem kB⟩
  refine Qp (Qd (Qo (Qx (zR ?_))))
  refine zV (zX ZF hNs) ?_
  refine zV (Qc rfl Qm (fun hg=>by exact zzX hNs hn rfl)) ?_
  refine zA (zN ?_)
  refine zY [(3,_),(8,_),(9,_),(57,_),(58,_),(59,_)] (fun T L0 E I' loc'=>∃ (a2:Option Addr) (c2:Nat),E=(19,.slice a2 (n9+1) c2)::T∧HLe J4 I'∧[(r_20,Yo (.int .i64) Ji (ZY (fun x=>x.lm.no) (fun x=>x.lm) 1 xs))]=loc'∧Sl I' 9 Zh a2 (n9+1) c2 ((zfB zcX Vk (ZY (fun x=>x.lm.no) (fun x=>x.lm) 1 xs) (ns.take j))++[(Zt (ZY (fun x=>x.lm.no) (fun x=>x.lm) 1 xs) m9).getD Vk])) ?_ ?_
  ·
   have hKc16:=zz4 J4
   have hD:=zz4 J4
   refine Zn ?_
   refine QL J4 [(r_20,Yo (.int .i64) Ji (ZY (fun x=>x.lm.no) (fun x=>x.lm) 1 xs))] mixed ?_
   refine zT 0 rfl (Qe rfl) hD ?_
   refine zT 2 rfl (Qe rfl) hD ?_
   refine zT 3 rfl (Qe rfl) hD ?_
   refine zT 4 rfl (Wg (ek:=Value.int .i64) (ev:=Ji) Vk XP Q3 rfl rfl (fun _=>kQ)) hD ?_
   obtain ⟨y,hydef⟩:∃ y,y=(Zt (ZY (fun x=>x.lm.no) (fun x=>x.lm) 1 xs) m9).getD Vk:=⟨_,rfl⟩
   rw [←hydef]
   refine QS 1 5 rfl rfl kA ?_ ?_
   ·
    refine qcV (vs:=[_]) rfl zmQ (zlm _ _ _ _ hY.cap) ?_
    refine Qb ?_
    refine zD hD ?_
    refine qd 5 rfl ?_
    refine zpb [(0,_)] [Zh y] VB (fun b_68=>?_)
    refine Qb ?_
    refine zD hD ?_
    refine qd 6 rfl ?_
    refine QR (ys:=[y].flatMap Zh) Yx rfl rfl VB hY.cut ⟨rfl,fun _=>rfl,by repeat (first | exact zz2 | apply zz1)⟩ kD kB rfl rfl ?_
    intro v1 L1 hO1
    rw [←List.flatMap_append] at hO1
    refine zx7 hO1 Yx (fun I5 hI5 af5 cf5 ef5 hZ=>?_)
    subst ef5
    have hKc16:=hKc16.trans hI5;have hD:=hD.trans hI5
    refine Qb ?_
    refine zD hD ?_
    refine zT 7 rfl (Qv rfl) hD ?_
    refine Ql kA ?_
    refine Qt ?_
    exact zm (h:=⟨_,_,rfl,hKc16,rfl,by exact hZ⟩)
   refine zpb [(0,_)] [Zh y] VB (fun b_68=>?_)
   refine Qb ?_
   refine zD hD ?_
   refine qd 1 rfl ?_
   refine qcV (vs:=[_]) rfl zmQ (zlm _ _ _ _ hY.cap) ?_
   refine Qb ?_
   refine zD hD ?_
   refine qd 6 rfl ?_
   refine QR (ys:=[y].flatMap Zh) Yx rfl rfl VB hY.cut ⟨rfl,fun _=>rfl,by repeat (first | exact zz2 | apply zz1)⟩ kD kB rfl rfl ?_
   intro v1 L1 hO1
   rw [←List.flatMap_append] at hO1
   refine zx7 hO1 Yx (fun I6 hI6 af6 cf6 ef6 hZ=>?_)
   subst ef6
   have hKc16:=hKc16.trans hI6;have hD:=hD.trans hI6
   refine Qb ?_
   refine zD hD ?_
   refine zT 7 rfl (Qv rfl) hD ?_
   refine Ql kA ?_
   refine Qt ?_
   exact zm (h:=⟨_,_,rfl,hKc16,rfl,by exact hZ⟩)
  rintro E J7 loc' ⟨a2,c2,rfl,hJ16,rfl,hZ⟩
  have hY:=hY.mono hJ16;have hB2:=hB2.trans hJ16
  refine zR (zM ?_)
  refine zM ?_
  refine qcV (vs:=[_]) rfl zbz (zb2 hZ kB) ?_
  refine zC (zN ?_)
  refine zI ?_ ?_<;>intro hc73
  ·
   refine Qi (zM ?_)
   refine zA (Qb (Qj (Qd (Qi ?_))))
   refine zB ?_
   refine zM (Qb ?_)
   first
   | exact zm (h:=⟨q-(j+1),kB,j+1,_,_,_,rfl,rfl,hB2,rfl,kB,by rw [JS hn,zbW,if_pos hc73];exact hZ,kB⟩)
  refine Qp (Qj (Qd (Qi (zB ?_))))
  refine zM (Qb ?_)
  first
  | exact zm (h:=⟨q-(j+1),kB,j+1,_,_,_,rfl,rfl,hB2,rfl,kB,by rw [JS hn,zbW,if_neg (by rw [hc73];simp)];exact hY,kB⟩)
 have hge_j:q≤j:=by have h:=hc60;simp at h;omega
 have hke2:ns.take j=ns:=ZV hnl hge_j
 rw [hke2] at hY
 refine Q6 (Qn (Qn (Qw (Qd (zR (zM ?_))))))
 refine zA (zN (Qs ?_))
 exact Qy rfl rfl (fun w hw=>⟨_,J4,[],rfl,hIc,by exact hw.drop,rfl,_,_,_,rfl,by rw [Wo,←hnsd];exact hY⟩)
theorem zoo {I:Qu}{av:Option Addr}{n c:Nat}{xs:List Nt}(hP:zbd I av n c xs)(hn0:n≤4096):Vs Tryz.prog 68 [.slice av n c,.int .i64 3,.func (.func 69) #[] #[],.func (.func 38) #[] #[]] I [] (fun v I' L'=>L'=[]∧∃ a n c,v= .slice a n c∧Sl I' 5 L.encL a n c (Wo (fun x=>x.ls.no) (fun x=>x.ls) 3 L.chk L.zeroL xs)):=by
 intro g H w hw
 refine qe Tryz.func68 Tryz.ntmps68 hw ?_
 have hIc:=zz4 I
 have hln:=hP.sl.len
 refine zR (zA ?_)
 refine zN (zR ?_)
 refine Z7 rfl rfl (fun r_20=>?_)
 refine (show XO _ _ _ _ _ _ _ ((r_20,Yo (.int .i64) L.encA ([]:List (Int×L.Ls)))::_) from ?_)
 refine zA ?_
 refine zN (zR ?_)
 refine zA (zN (Qo (zR ?_)))
 refine zM ?_
 refine zQ Q8 ?_
 refine zM (zN (Qx ?_))
 refine zU [(1,_),(2,_),(3,_),(8,_),(9,_),(21,_),(22,_)] (fun T L0 mz E I' loc'=>∃ (k:Nat) (v:Value) (q:Nat) (Lw:Go.Kn.Loc),mz=n-k∧E=(10,v)::(23,.int .i64 k)::T∧I=I'∧Lw++[(r_20,Yo (.int .i64) L.encA (ZY (fun x=>x.ls.no) (fun x=>x.ls) 3 (xs.take k)))]=loc'∧k≤n∧ZW 3 1 v q (((ZY (fun x=>x.ls.no) (fun x=>x.ls) 3 (xs.take k)).map (·.1)).flatMap Z5) Lw∧q=(ZY (fun x=>x.ls.no) (fun x=>x.ls) 3 (xs.take k)).length) ?_ (h:=⟨0,_,0,[],rfl,rfl,rfl,rfl,Nat.zero_le _,ZW.nil,rfl⟩)
 rintro mz E I' loc' ⟨k,v,q,Lw,rfl,rfl,rfl,rfl,hk,hO,hq⟩
 refine zR (zC (zN (Qo ?_)))
 refine zI ?_ ?_<;>intro hc24
 ·
  have hlt_k:k<n:=by have h:=hc24;simp at h;omega
  obtain ⟨x,hx⟩:∃ y,xs[k]? =some y:=⟨_,List.getElem?_eq_getElem kB⟩
  have hml:(ZY (fun x=>x.ls.no) (fun x=>x.ls) 3 (xs.take k)).length≤k:=Nat.le_trans VL (List.length_take_le ..)
  refine Qp (Qd (Qo (Qx (zR ?_))))
  refine zV (QE rfl rfl Q8 hP.sl (fun hg=>kB)) ?_
  refine zV (Qg rfl Q7 (fun hg=>by exact zz5 hP.sl hx) rfl) ?_
  refine Qr Wn rfl rfl (fun b_12=>?_)
  refine zh VG ?_
  refine zN (zR ?_)
  refine zM ?_
  refine zV (Qg rfl Q7 (fun hg=>by exact Cells.g0) rfl) ?_
  refine qcV (vs:=[_]) rfl zwz (ztO _ x) ?_
  refine zM ?_
  refine zE ?_
  refine zE ?_
  refine Qr zgs rfl rfl (fun b_13=>?_)
  refine zh zbP ?_
  refine zA (zN (Qo ?_))
  rcases hget:Zt (ZY (fun x=>x.ls.no) (fun x=>x.ls) 3 (xs.take k)) (x.ls.no) with _ | y0
  ·
   refine Qi (zM ?_)
   refine zM ?_
   refine zV (ZR (ek:=Value.int .i64) (ev:=L.encA) zdG Q3 rfl rfl (fun _=>kI)) ?_
   rw [hget]
   refine zM ?_
   refine zE ?_
   refine zE ?_
   refine Qr zgs rfl rfl (fun b_15=>?_)
   refine zh zbP ?_
   refine zA ?_
   refine zN (zR ?_)
   refine zF Yg ?_
   refine zL Qm ?_
   refine zM ?_
   refine zC ?_
   refine zM ?_
   refine Qq 4 rfl rfl rfl ?_
   refine zK (Qe rfl) ?_
   refine zK (Zs rfl) ?_
   refine QB rfl rfl rfl rfl rfl ?_
   refine zN ?_
   refine zI ?_ ?_<;>intro hc46
   ·
    have hkd:(x.kind==3)=true:=by simpa using hc46
    refine zR (zM ?_)
    refine zM ?_
    refine zV (Qg rfl VX (fun hg=>by exact Cells.g1) rfl) ?_
    refine zx9 (ek:=Value.int .i64) (ev:=L.encA) (x.ls) zdG Q3 ?_
    refine zN (Qi (zM ?_))
    refine zM ?_
    refine zpb [(0,_)] [Z5 (x.ls.no)] Vb (fun b_52=>?_)
    refine zpa (_) ([x.ls.no].flatMap Z5) (Lw) rfl rfl Vb hO ⟨rfl,fun _=>rfl,by repeat (first | exact zz2 | apply zz1 | apply zz3)⟩ (zbn [x.ls.no]) ?_
    intro v9 L9 hO9 _;rw [←List.flatMap_append] at hO9
    refine zA (Qb (Qj (Qd (Qi ?_))))
    refine zB ?_
    refine zM (Qb ?_)
    exact Zc _ (L9++[(r_20,Yo (.int .i64) L.encA (Jr (ZY (fun x=>x.ls.no) (fun x=>x.ls) 3 (xs.take k)) (x.ls.no) (x.ls)))]) ⟨n-(k+1),kB,k+1,_,_,_,rfl,rfl,rfl,by rw [Zb hx,zaY hget hkd],kB,by rw [Zb hx,JO hget hkd];exact hO9,by rw [Zb hx,←List.length_map (f:=fun p=>p.1),JO hget hkd,List.length_append,List.length_map];simp;omega⟩ (.cons rfl (.cons rfl (.cons rfl (.cons rfl (.cons rfl (.cons rfl (.cons rfl (.cons rfl (.cons rfl .nil))))))))) kC
   have hkd:(x.kind==3)=false:=by simpa using hc46
   have hsame:WR (fun x=>x.ls.no) (fun x=>x.ls) 3 (ZY (fun x=>x.ls.no) (fun x=>x.ls) 3 (xs.take k)) x=(ZY (fun x=>x.ls.no) (fun x=>x.ls) 3 (xs.take k)):=zdU hkd
   refine Qp (Qj (Qd (Qi (zB ?_))))
   refine zM (Qb ?_)
   exact Zc _ (Lw++[(r_20,Yo (.int .i64) L.encA (ZY (fun x=>x.ls.no) (fun x=>x.ls) 3 (xs.take k)))]) ⟨n-(k+1),kB,k+1,_,_,_,rfl,rfl,rfl,by rw [Zb hx,hsame],kB,by rw [Zb hx,hsame];exact hO,by rw [Zb hx,hsame];exact hq⟩ (.cons rfl (.cons rfl (.cons rfl (.cons rfl (.cons rfl (.cons rfl (.cons rfl (.cons rfl (.cons rfl .nil))))))))) kC
  refine Qi (zM ?_)
  refine zM ?_
  refine zV (ZR (ek:=Value.int .i64) (ev:=L.encA) zdG Q3 rfl rfl (fun _=>kI)) ?_
  rw [hget]
  refine zM ?_
  refine zE ?_
  refine zE ?_
  refine Qr zgs rfl rfl (fun b_15=>?_)
  refine zh zbP ?_
  refine zA ?_
  refine zN (zR ?_)
  refine zF Yg ?_
  refine zL Qm ?_
  refine zM ?_
  refine zC ?_
  refine zM ?_
  refine Qq 4 rfl rfl rfl ?_
  refine zK (Qe rfl) ?_
  refine zK (Zs rfl) ?_
  refine QB rfl rfl rfl rfl rfl ?_
  refine zN ?_
  refine zI ?_ ?_<;>intro hc46
  ·
   simp at hc46
  have hsame:WR (fun x=>x.ls.no) (fun x=>x.ls) 3 (ZY (fun x=>x.ls.no) (fun x=>x.ls) 3 (xs.take k)) x=(ZY (fun x=>x.ls.no) (fun x=>x.ls) 3 (xs.take k)):=zaN hget
  refine Qp (Qj (Qd (Qi (zB ?_))))
  refine zM (Qb ?_)
  exact Zc _ (Lw++[(r_20,Yo (.int .i64) L.encA (ZY (fun x=>x.ls.no) (fun x=>x.ls) 3 (xs.take k)))]) ⟨n-(k+1),kB,k+1,_,_,_,rfl,rfl,rfl,by rw [Zb hx,hsame],kB,by rw [Zb hx,hsame];exact hO,by rw [Zb hx,hsame];exact hq⟩ (.cons rfl (.cons rfl (.cons rfl (.cons rfl (.cons rfl (.cons rfl (.cons rfl (.cons rfl (.cons rfl .nil))))))))) kC
 have hge_k:n≤k:=by have h:=hc24;simp at h;omega
 have hml:=VL (num:=(fun x=>x.ls.no)) (prt:=(fun x=>x.ls)) (kind:=3) (xs:=xs)
 have hke:xs.take k=xs:=ZV hln hge_k
 rw [hke] at hO hq ⊢
 refine Q6 (Qn (Qn (Qw (Qd (zR (zM ?_))))))
 refine zpc [_] rfl za9 Q0 (zgO 3 ((ZY (fun x=>x.ls.no) (fun x=>x.ls) 3 xs).map (·.1)) (by rw [←KM];exact hO) kB _) ?_
 rintro vv2 I2 L2 hI2 ⟨rfl,rfl,hO2⟩
 have hIc:=hIc.trans hI2
 rw [←KM] at hO2
 refine zN (Qo (Qo ?_))
 refine zx4 hO2 YJ (fun I3 hI3 af3 cf3 ef3 hNs=>?_)
 subst ef3
 have hIc:=hIc.trans hI3
 obtain ⟨ns,hnsd⟩:∃ y,y=KU ((ZY (fun x=>x.ls.no) (fun x=>x.ls) 3 xs).map (·.1)):=⟨_,rfl⟩
 rw [←hnsd] at hNs
 have hnl:=hNs.len
 have hml:=VL (num:=(fun x=>x.ls.no)) (prt:=(fun x=>x.ls)) (kind:=3) (xs:=xs)
 refine Qi (zM ?_)
 refine zQ ZF ?_
 refine zM (zN (Qx ?_))
 refine zU [(3,_),(9,_),(57,_),(58,_)] (fun T L0 mz E I' loc'=>∃ (j:Nat) (a9:Option Addr) (n9:Nat) (c9:Nat),mz=q-j∧E=(8,.slice a9 n9 c9)::(59,.int .i64 j)::T∧HLe I3 I'∧[(r_20,Yo (.int .i64) L.encA (ZY (fun x=>x.ls.no) (fun x=>x.ls) 3 xs))]=loc'∧j≤q∧Sl I' 5 L.encL a9 n9 c9 (zfB L.chk L.zeroL (ZY (fun x=>x.ls.no) (fun x=>x.ls) 3 xs) (ns.take j))∧n9≤j) ?_ (h:=⟨0,none,0,0,rfl,rfl,zz4 _,rfl,Nat.zero_le _,Sl.nil,Nat.le_refl _⟩)
 rintro mz E J4 loc' ⟨j,a9,n9,c9,rfl,rfl,hJ,rfl,hj,hY,hn9⟩
 have hNs:=hNs.mono hJ;have hIc:=hIc.trans hJ
 have hB2:=hJ
 refine zR (zC (zN (Qo ?_)))
 refine zI ?_ ?_<;>intro hc60
 ·
  have hlt_j:j<q:=by have h:=hc60;simp at h;omega
  obtain ⟨m9,hn⟩:∃ y,ns[j]? =some y:=⟨_,List.getElem?_eq_getElem kB⟩
  refine Qp (Qd (Qo (Qx (zR ?_))))
  refine zV (zX ZF hNs) ?_
  refine zV (Qc rfl Qm (fun hg=>by exact zzX hNs hn rfl)) ?_
  refine zA (zN ?_)
  refine zY [(3,_),(8,_),(9,_),(57,_),(58,_),(59,_)] (fun T L0 E I' loc'=>∃ (a2:Option Addr) (c2:Nat),E=(19,.slice a2 (n9+1) c2)::T∧HLe J4 I'∧[(r_20,Yo (.int .i64) L.encA (ZY (fun x=>x.ls.no) (fun x=>x.ls) 3 xs))]=loc'∧Sl I' 5 L.encL a2 (n9+1) c2 ((zfB L.chk L.zeroL (ZY (fun x=>x.ls.no) (fun x=>x.ls) 3 xs) (ns.take j))++[(Zt (ZY (fun x=>x.ls.no) (fun x=>x.ls) 3 xs) m9).getD L.zeroL])) ?_ ?_
  ·
   have hKc16:=zz4 J4
   have hD:=zz4 J4
   refine Zn ?_
   refine QL J4 [(r_20,Yo (.int .i64) L.encA (ZY (fun x=>x.ls.no) (fun x=>x.ls) 3 xs))] mixed ?_
   refine zT 0 rfl (Qe rfl) hD ?_
   refine zT 2 rfl (Qe rfl) hD ?_
   refine zT 3 rfl (Qe rfl) hD ?_
   refine zT 4 rfl (Wg (ek:=Value.int .i64) (ev:=L.encA) L.zeroL zdG Q3 rfl rfl (fun _=>kQ)) hD ?_
   obtain ⟨y,hydef⟩:∃ y,y=(Zt (ZY (fun x=>x.ls.no) (fun x=>x.ls) 3 xs) m9).getD L.zeroL:=⟨_,rfl⟩
   rw [←hydef]
   refine QS 1 5 rfl rfl kA ?_ ?_
   ·
    refine qcV (vs:=[_]) rfl zkG (zkS _ _ _ _ hY.cap) ?_
    refine Qb ?_
    refine zD hD ?_
    refine qd 5 rfl ?_
    refine zpb [(0,_)] [L.encL y] Jl (fun b_68=>?_)
    refine Qb ?_
    refine zD hD ?_
    refine qd 6 rfl ?_
    refine QR (ys:=[y].flatMap L.encL) L.encL_len rfl rfl Jl hY.cut ⟨rfl,fun _=>rfl,by repeat (first | exact zz2 | apply zz1)⟩ kD kB rfl rfl ?_
    intro v1 L1 hO1
    rw [←List.flatMap_append] at hO1
    refine zx7 hO1 L.encL_len (fun I5 hI5 af5 cf5 ef5 hZ=>?_)
    subst ef5
    have hKc16:=hKc16.trans hI5;have hD:=hD.trans hI5
    refine Qb ?_
    refine zD hD ?_
    refine zT 7 rfl (Qv rfl) hD ?_
    refine Ql kA ?_
    refine Qt ?_
    exact zm (h:=⟨_,_,rfl,hKc16,rfl,by exact hZ⟩)
   refine zpb [(0,_)] [L.encL y] Jl (fun b_68=>?_)
   refine Qb ?_
   refine zD hD ?_
   refine qd 1 rfl ?_
   refine qcV (vs:=[_]) rfl zkG (zkS _ _ _ _ hY.cap) ?_
   refine Qb ?_
   refine zD hD ?_
   refine qd 6 rfl ?_
   refine QR (ys:=[y].flatMap L.encL) L.encL_len rfl rfl Jl hY.cut ⟨rfl,fun _=>rfl,by repeat (first | exact zz2 | apply zz1)⟩ kD kB rfl rfl ?_
   intro v1 L1 hO1
   rw [←List.flatMap_append] at hO1
   refine zx7 hO1 L.encL_len (fun I6 hI6 af6 cf6 ef6 hZ=>?_)
   subst ef6
   have hKc16:=hKc16.trans hI6;have hD:=hD.trans hI6
   refine Qb ?_
   refine zD hD ?_
   refine zT 7 rfl (Qv rfl) hD ?_
   refine Ql kA ?_
   refine Qt ?_
   exact zm (h:=⟨_,_,rfl,hKc16,rfl,by exact hZ⟩)
  rintro E J7 loc' ⟨a2,c2,rfl,hJ16,rfl,hZ⟩
  have hY:=hY.mono hJ16;have hB2:=hB2.trans hJ16
  refine zR (zM ?_)
  refine zM ?_
  refine qcV (vs:=[_]) rfl zcT (L.w_check hZ kB) ?_
  refine zC (zN ?_)
  refine zI ?_ ?_<;>intro hc73
  ·
   refine Qi (zM ?_)
   refine zA (Qb (Qj (Qd (Qi ?_))))
   refine zB ?_
   refine zM (Qb ?_)
   first
   | exact zm (h:=⟨q-(j+1),kB,j+1,_,_,_,rfl,rfl,hB2,rfl,kB,by rw [JS hn,zbW,if_pos hc73];exact hZ,kB⟩)
  refine Qp (Qj (Qd (Qi (zB ?_))))
  refine zM (Qb ?_)
  first
  | exact zm (h:=⟨q-(j+1),kB,j+1,_,_,_,rfl,rfl,hB2,rfl,kB,by rw [JS hn,zbW,if_neg (by rw [hc73];simp)];exact hY,kB⟩)
 have hge_j:q≤j:=by have h:=hc60;simp at h;omega
 have hke2:ns.take j=ns:=ZV hnl hge_j
 rw [hke2] at hY
 refine Q6 (Qn (Qn (Qw (Qd (zR (zM ?_))))))
 refine zA (zN (Qs ?_))
 exact Qy rfl rfl (fun w hw=>⟨_,J4,[],rfl,hIc,by exact hw.drop,rfl,_,_,_,rfl,by rw [Wo,←hnsd];exact hY⟩)
theorem zoB {I:Qu}{av:Option Addr}{n c:Nat}{xs:List Nt}(hP:zbd I av n c xs)(hn0:n≤4096):Vs Tryz.prog 70 [.slice av n c,.int .i64 2,.func (.func 71) #[] #[],.func (.func 39) #[] #[]] I [] (fun v I' L'=>L'=[]∧∃ a n c,v= .slice a n c∧Sl I' 19 KY a n c (Wo (fun x=>x.pt.id) (fun x=>x.pt) 2 zam V5 xs)):=by
 intro g H w hw
 refine qe Tryz.func70 Tryz.ntmps70 hw ?_
 have hIc:=zz4 I
 have hln:=hP.sl.len
 refine zR (zA ?_)
 refine zN (zR ?_)
 refine Z7 rfl rfl (fun r_20=>?_)
 refine (show XO _ _ _ _ _ _ _ ((r_20,Yo (.int .i64) KR ([]:List (Int×Pt)))::_) from ?_)
 refine zA ?_
 refine zN (zR ?_)
 refine zA (zN (Qo (zR ?_)))
 refine zM ?_
 refine zQ Q8 ?_
 refine zM (zN (Qx ?_))
 refine zU [(1,_),(2,_),(3,_),(8,_),(9,_),(21,_),(22,_)] (fun T L0 mz E I' loc'=>∃ (k:Nat) (v:Value) (q:Nat) (Lw:Go.Kn.Loc),mz=n-k∧E=(10,v)::(23,.int .i64 k)::T∧I=I'∧Lw++[(r_20,Yo (.int .i64) KR (ZY (fun x=>x.pt.id) (fun x=>x.pt) 2 (xs.take k)))]=loc'∧k≤n∧ZW 3 1 v q (((ZY (fun x=>x.pt.id) (fun x=>x.pt) 2 (xs.take k)).map (·.1)).flatMap Z5) Lw∧q=(ZY (fun x=>x.pt.id) (fun x=>x.pt) 2 (xs.take k)).length) ?_ (h:=⟨0,_,0,[],rfl,rfl,rfl,rfl,Nat.zero_le _,ZW.nil,rfl⟩)
 rintro mz E I' loc' ⟨k,v,q,Lw,rfl,rfl,rfl,rfl,hk,hO,hq⟩
 refine zR (zC (zN (Qo ?_)))
 refine zI ?_ ?_<;>intro hc24
 ·
  have hlt_k:k<n:=by have h:=hc24;simp at h;omega
  obtain ⟨x,hx⟩:∃ y,xs[k]? =some y:=⟨_,List.getElem?_eq_getElem kB⟩
  have hml:(ZY (fun x=>x.pt.id) (fun x=>x.pt) 2 (xs.take k)).length≤k:=Nat.le_trans VL (List.length_take_le ..)
  refine Qp (Qd (Qo (Qx (zR ?_))))
  refine zV (QE rfl rfl Q8 hP.sl (fun hg=>kB)) ?_
  refine zV (Qg rfl Q7 (fun hg=>by exact zz5 hP.sl hx) rfl) ?_
  refine Qr Wn rfl rfl (fun b_12=>?_)
  refine zh VG ?_
  refine zN (zR ?_)
  refine zM ?_
  refine zV (Qg rfl Q7 (fun hg=>by exact Cells.g0) rfl) ?_
  refine qcV (vs:=[_]) rfl zvK (zrU _ x) ?_
  refine zM ?_
  refine zE ?_
  refine zE ?_
  refine Qr zcb rfl rfl (fun b_13=>?_)
  refine zh UI ?_
  refine zA (zN (Qo ?_))
  rcases hget:Zt (ZY (fun x=>x.pt.id) (fun x=>x.pt) 2 (xs.take k)) (x.pt.id) with _ | y0
  ·
   refine Qi (zM ?_)
   refine zM ?_
   refine zV (ZR (ek:=Value.int .i64) (ev:=KR) zda Q3 rfl rfl (fun _=>kI)) ?_
   rw [hget]
   refine zM ?_
   refine zE ?_
   refine zE ?_
   refine Qr zcb rfl rfl (fun b_15=>?_)
   refine zh UI ?_
   refine zA ?_
   refine zN (zR ?_)
   refine zF Yg ?_
   refine zL Qm ?_
   refine zM ?_
   refine zC ?_
   refine zM ?_
   refine Qq 4 rfl rfl rfl ?_
   refine zK (Qe rfl) ?_
   refine zK (Zs rfl) ?_
   refine QB rfl rfl rfl rfl rfl ?_
   refine zN ?_
   refine zI ?_ ?_<;>intro hc46
   ·
    have hkd:(x.kind==2)=true:=by simpa using hc46
    refine zR (zM ?_)
    refine zM ?_
    refine zV (Qg rfl Y3 (fun hg=>by exact Cells.g1) rfl) ?_
    refine zx9 (ek:=Value.int .i64) (ev:=KR) (x.pt) zda Q3 ?_
    refine zN (Qi (zM ?_))
    refine zM ?_
    refine zpb [(0,_)] [Z5 (x.pt.id)] Vb (fun b_52=>?_)
    refine zpa (_) ([x.pt.id].flatMap Z5) (Lw) rfl rfl Vb hO ⟨rfl,fun _=>rfl,by repeat (first | exact zz2 | apply zz1 | apply zz3)⟩ (zbn [x.pt.id]) ?_
    intro v9 L9 hO9 _;rw [←List.flatMap_append] at hO9
    refine zA (Qb (Qj (Qd (Qi ?_))))
    refine zB ?_
    refine zM (Qb ?_)
    exact Zc _ (L9++[(r_20,Yo (.int .i64) KR (Jr (ZY (fun x=>x.pt.id) (fun x=>x.pt) 2 (xs.take k)) (x.pt.id) (x.pt)))]) ⟨n-(k+1),kB,k+1,_,_,_,rfl,rfl,rfl,by rw [Zb hx,zaY hget hkd],kB,by rw [Zb hx,JO hget hkd];exact hO9,by rw [Zb hx,←List.length_map (f:=fun p=>p.1),JO hget hkd,List.length_append,List.length_map];simp;omega⟩ (.cons rfl (.cons rfl (.cons rfl (.cons rfl (.cons rfl (.cons rfl (.cons rfl (.cons rfl (.cons rfl .nil))))))))) kC
   have hkd:(x.kind==2)=false:=by simpa using hc46
   have hsame:WR (fun x=>x.pt.id) (fun x=>x.pt) 2 (ZY (fun x=>x.pt.id) (fun x=>x.pt) 2 (xs.take k)) x=(ZY (fun x=>x.pt.id) (fun x=>x.pt) 2 (xs.take k)):=zdU hkd
   refine Qp (Qj (Qd (Qi (zB ?_))))
   refine zM (Qb ?_)
   exact Zc _ (Lw++[(r_20,Yo (.int .i64) KR (ZY (fun x=>x.pt.id) (fun x=>x.pt) 2 (xs.take k)))]) ⟨n-(k+1),kB,k+1,_,_,_,rfl,rfl,rfl,by rw [Zb hx,hsame],kB,by rw [Zb hx,hsame];exact hO,by rw [Zb hx,hsame];exact hq⟩ (.cons rfl (.cons rfl (.cons rfl (.cons rfl (.cons rfl (.cons rfl (.cons rfl (.cons rfl (.cons rfl .nil))))))))) kC
  refine Qi (zM ?_)
  refine zM ?_
  refine zV (ZR (ek:=Value.int .i64) (ev:=KR) zda Q3 rfl rfl (fun _=>kI)) ?_
  rw [hget]
  refine zM ?_
  refine zE ?_
  refine zE ?_
  refine Qr zcb rfl rfl (fun b_15=>?_)
  refine zh UI ?_
  refine zA ?_
  refine zN (zR ?_)
  refine zF Yg ?_
  refine zL Qm ?_
  refine zM ?_
  refine zC ?_
  refine zM ?_
  refine Qq 4 rfl rfl rfl ?_
  refine zK (Qe rfl) ?_
  refine zK (Zs rfl) ?_
  refine QB rfl rfl rfl rfl rfl ?_
  refine zN ?_
  refine zI ?_ ?_<;>intro hc46
  ·
   simp at hc46
  have hsame:WR (fun x=>x.pt.id) (fun x=>x.pt) 2 (ZY (fun x=>x.pt.id) (fun x=>x.pt) 2 (xs.take k)) x=(ZY (fun x=>x.pt.id) (fun x=>x.pt) 2 (xs.take k)):=zaN hget
  refine Qp (Qj (Qd (Qi (zB ?_))))
  refine zM (Qb ?_)
  exact Zc _ (Lw++[(r_20,Yo (.int .i64) KR (ZY (fun x=>x.pt.id) (fun x=>x.pt) 2 (xs.take k)))]) ⟨n-(k+1),kB,k+1,_,_,_,rfl,rfl,rfl,by rw [Zb hx,hsame],kB,by rw [Zb hx,hsame];exact hO,by rw [Zb hx,hsame];exact hq⟩ (.cons rfl (.cons rfl (.cons rfl (.cons rfl (.cons rfl (.cons rfl (.cons rfl (.cons rfl (.cons rfl .nil))))))))) kC
 have hge_k:n≤k:=by have h:=hc24;simp at h;omega
 have hml:=VL (num:=(fun x=>x.pt.id)) (prt:=(fun x=>x.pt)) (kind:=2) (xs:=xs)
 have hke:xs.take k=xs:=ZV hln hge_k
 rw [hke] at hO hq ⊢
 refine Q6 (Qn (Qn (Qw (Qd (zR (zM ?_))))))
 refine zpc [_] rfl za9 Q0 (zgO 3 ((ZY (fun x=>x.pt.id) (fun x=>x.pt) 2 xs).map (·.1)) (by rw [←KM];exact hO) kB _) ?_
 rintro vv2 I2 L2 hI2 ⟨rfl,rfl,hO2⟩
 have hP:=hP.mono hI2;have hIc:=hIc.trans hI2
 rw [←KM] at hO2
 refine zN (Qo (Qo ?_))
 refine zx4 hO2 YJ (fun I3 hI3 af3 cf3 ef3 hNs=>?_)
 subst ef3
 have hP:=hP.mono hI3;have hIc:=hIc.trans hI3
 obtain ⟨ns,hnsd⟩:∃ y,y=KU ((ZY (fun x=>x.pt.id) (fun x=>x.pt) 2 xs).map (·.1)):=⟨_,rfl⟩
 rw [←hnsd] at hNs
 have hnl:=hNs.len
 have hml:=VL (num:=(fun x=>x.pt.id)) (prt:=(fun x=>x.pt)) (kind:=2) (xs:=xs)
 refine Qi (zM ?_)
 refine zQ ZF ?_
 refine zM (zN (Qx ?_))
 refine zU [(3,_),(9,_),(57,_),(58,_)] (fun T L0 mz E I' loc'=>∃ (j:Nat) (a9:Option Addr) (n9:Nat) (c9:Nat),mz=q-j∧E=(8,.slice a9 n9 c9)::(59,.int .i64 j)::T∧HLe I3 I'∧[(r_20,Yo (.int .i64) KR (ZY (fun x=>x.pt.id) (fun x=>x.pt) 2 xs))]=loc'∧j≤q∧Sl I' 19 KY a9 n9 c9 (zfB zam V5 (ZY (fun x=>x.pt.id) (fun x=>x.pt) 2 xs) (ns.take j))∧n9≤j) ?_ (h:=⟨0,none,0,0,rfl,rfl,zz4 _,rfl,Nat.zero_le _,Sl.nil,Nat.le_refl _⟩)
 rintro mz E J4 loc' ⟨j,a9,n9,c9,rfl,rfl,hJ,rfl,hj,hY,hn9⟩
 have hP:=hP.mono hJ;have hNs:=hNs.mono hJ;have hIc:=hIc.trans hJ
 have hB2:=hJ
 refine zR (zC (zN (Qo ?_)))
 refine zI ?_ ?_<;>intro hc60
 ·
  have hlt_j:j<q:=by have h:=hc60;simp at h;omega
  obtain ⟨m9,hn⟩:∃ y,ns[j]? =some y:=⟨_,List.getElem?_eq_getElem kB⟩
  refine Qp (Qd (Qo (Qx (zR ?_))))
  refine zV (zX ZF hNs) ?_
  refine zV (Qc rfl Qm (fun hg=>by exact zzX hNs hn rfl)) ?_
  refine zA (zN ?_)
  refine zY [(3,_),(8,_),(9,_),(57,_),(58,_),(59,_)] (fun T L0 E I' loc'=>∃ (a2:Option Addr) (c2:Nat),E=(19,.slice a2 (n9+1) c2)::T∧HLe J4 I'∧[(r_20,Yo (.int .i64) KR (ZY (fun x=>x.pt.id) (fun x=>x.pt) 2 xs))]=loc'∧Sl I' 19 KY a2 (n9+1) c2 ((zfB zam V5 (ZY (fun x=>x.pt.id) (fun x=>x.pt) 2 xs) (ns.take j))++[(Zt (ZY (fun x=>x.pt.id) (fun x=>x.pt) 2 xs) m9).getD V5])) ?_ ?_
  ·
   have hKc16:=zz4 J4
   have hD:=zz4 J4
   refine Zn ?_
   refine QL J4 [(r_20,Yo (.int .i64) KR (ZY (fun x=>x.pt.id) (fun x=>x.pt) 2 xs))] mixed ?_
   refine zT 0 rfl (Qe rfl) hD ?_
   refine zT 2 rfl (Qe rfl) hD ?_
   refine zT 3 rfl (Qe rfl) hD ?_
   refine zT 4 rfl (Wg (ek:=Value.int .i64) (ev:=KR) V5 zda Q3 rfl rfl (fun _=>kQ)) hD ?_
   obtain ⟨y,hydef⟩:∃ y,y=(Zt (ZY (fun x=>x.pt.id) (fun x=>x.pt) 2 xs) m9).getD V5:=⟨_,rfl⟩
   rw [←hydef]
   refine QS 1 5 rfl rfl kA ?_ ?_
   ·
    refine qcV (vs:=[_]) rfl zjV (zmU _ _ _ _ hY.cap) ?_
    refine Qb ?_
    refine zD hD ?_
    refine qd 5 rfl ?_
    refine zpb [(0,_)] [KY y] JZ (fun b_68=>?_)
    refine Qb ?_
    refine zD hD ?_
    refine qd 6 rfl ?_
    refine QR (ys:=[y].flatMap KY) VN rfl rfl JZ hY.cut ⟨rfl,fun _=>rfl,by repeat (first | exact zz2 | apply zz1)⟩ kD kB rfl rfl ?_
    intro v1 L1 hO1
    rw [←List.flatMap_append] at hO1
    refine zx7 hO1 VN (fun I5 hI5 af5 cf5 ef5 hZ=>?_)
    subst ef5
    have hKc16:=hKc16.trans hI5;have hD:=hD.trans hI5
    refine Qb ?_
    refine zD hD ?_
    refine zT 7 rfl (Qv rfl) hD ?_
    refine Ql kA ?_
    refine Qt ?_
    exact zm (h:=⟨_,_,rfl,hKc16,rfl,by exact hZ⟩)
   refine zpb [(0,_)] [KY y] JZ (fun b_68=>?_)
   refine Qb ?_
   refine zD hD ?_
   refine qd 1 rfl ?_
   refine qcV (vs:=[_]) rfl zjV (zmU _ _ _ _ hY.cap) ?_
   refine Qb ?_
   refine zD hD ?_
   refine qd 6 rfl ?_
   refine QR (ys:=[y].flatMap KY) VN rfl rfl JZ hY.cut ⟨rfl,fun _=>rfl,by repeat (first | exact zz2 | apply zz1)⟩ kD kB rfl rfl ?_
   intro v1 L1 hO1
   rw [←List.flatMap_append] at hO1
   refine zx7 hO1 VN (fun I6 hI6 af6 cf6 ef6 hZ=>?_)
   subst ef6
   have hKc16:=hKc16.trans hI6;have hD:=hD.trans hI6
   refine Qb ?_
   refine zD hD ?_
   refine zT 7 rfl (Qv rfl) hD ?_
   refine Ql kA ?_
   refine Qt ?_
   exact zm (h:=⟨_,_,rfl,hKc16,rfl,by exact hZ⟩)
  rintro E J7 loc' ⟨a2,c2,rfl,hJ16,rfl,hZ⟩
  have hP:=hP.mono hJ16;have hY:=hY.mono hJ16;have hB2:=hB2.trans hJ16
  refine Qo ?_
  have hNd9:∀ u∈(zfB zam V5 (ZY (fun x=>x.pt.id) (fun x=>x.pt) 2 xs) (ns.take j))++[(Zt (ZY (fun x=>x.pt.id) (fun x=>x.pt) 2 xs) m9).getD V5],Nd J7 u:=fun u hu=>(show u=V5∨∃ w∈xs,u=w.pt from (List.mem_append.1 hu).elim (fun h=>zd2 u h) (fun h=>by rw [List.mem_singleton.1 h];exact zni)).elim (fun h=>by rw [h];exact Sl.nil) (fun ⟨w,hw2,h⟩=>by rw [h];exact hP.nd w hw2)
  refine Qi (zM ?_)
  refine zM ?_
  refine qcV (vs:=[_]) rfl zeU (zfs ⟨hZ,hNd9⟩ kB) ?_
  refine zC (zN ?_)
  refine zI ?_ ?_<;>intro hc73
  ·
   refine Qi (zM ?_)
   refine zA (Qb (Qj (Qd (Qi ?_))))
   refine zB ?_
   refine zM (Qb ?_)
   first
   | exact zm (h:=⟨q-(j+1),kB,j+1,_,_,_,rfl,rfl,hB2,rfl,kB,by rw [JS hn,zbW,if_pos hc73];exact hZ,kB⟩)
  refine Qp (Qj (Qd (Qi (zB ?_))))
  refine zM (Qb ?_)
  first
  | exact zm (h:=⟨q-(j+1),kB,j+1,_,_,_,rfl,rfl,hB2,rfl,kB,by rw [JS hn,zbW,if_neg (by rw [hc73];simp)];exact hY,kB⟩)
 have hge_j:q≤j:=by have h:=hc60;simp at h;omega
 have hke2:ns.take j=ns:=ZV hnl hge_j
 rw [hke2] at hY
 refine Q6 (Qn (Qn (Qw (Qd (zR (zM ?_))))))
 refine zA (zN (Qs ?_))
 exact Qy rfl rfl (fun w hw=>⟨_,J4,[],rfl,hIc,by exact hw.drop,rfl,_,_,_,rfl,by rw [Wo,←hnsd];exact hY⟩)
theorem zoX {I:Qu}{av:Option Addr}{n c:Nat}{xs:List Nt}(hP:zbd I av n c xs)(hn0:n≤4096):Vs Tryz.prog 72 [.slice av n c,.int .i64 4,.func (.func 73) #[] #[],.func (.func 40) #[] #[]] I [] (fun v I' L'=>L'=[]∧∃ a n c,v= .slice a n c∧Sl I' 11 S.encR a n c (Wo (fun x=>x.rt.no) (fun x=>x.rt) 4 S.rCheck S.zeroR xs)):=by
 intro g H w hw
 refine qe Tryz.func72 Tryz.ntmps72 hw ?_
 have hIc:=zz4 I
 have hln:=hP.sl.len
 refine zR (zA ?_)
 refine zN (zR ?_)
 refine Z7 rfl rfl (fun r_20=>?_)
 refine (show XO _ _ _ _ _ _ _ ((r_20,Yo (.int .i64) S.encA ([]:List (Int×S.Rt)))::_) from ?_)
 refine zA ?_
 refine zN (zR ?_)
 refine zA (zN (Qo (zR ?_)))
 refine zM ?_
 refine zQ Q8 ?_
 refine zM (zN (Qx ?_))
 refine zU [(1,_),(2,_),(3,_),(8,_),(9,_),(21,_),(22,_)] (fun T L0 mz E I' loc'=>∃ (k:Nat) (v:Value) (q:Nat) (Lw:Go.Kn.Loc),mz=n-k∧E=(10,v)::(23,.int .i64 k)::T∧I=I'∧Lw++[(r_20,Yo (.int .i64) S.encA (ZY (fun x=>x.rt.no) (fun x=>x.rt) 4 (xs.take k)))]=loc'∧k≤n∧ZW 3 1 v q (((ZY (fun x=>x.rt.no) (fun x=>x.rt) 4 (xs.take k)).map (·.1)).flatMap Z5) Lw∧q=(ZY (fun x=>x.rt.no) (fun x=>x.rt) 4 (xs.take k)).length) ?_ (h:=⟨0,_,0,[],rfl,rfl,rfl,rfl,Nat.zero_le _,ZW.nil,rfl⟩)
 rintro mz E I' loc' ⟨k,v,q,Lw,rfl,rfl,rfl,rfl,hk,hO,hq⟩
 refine zR (zC (zN (Qo ?_)))
 refine zI ?_ ?_<;>intro hc24
 ·
  have hlt_k:k<n:=by have h:=hc24;simp at h;omega
  obtain ⟨x,hx⟩:∃ y,xs[k]? =some y:=⟨_,List.getElem?_eq_getElem kB⟩
  have hml:(ZY (fun x=>x.rt.no) (fun x=>x.rt) 4 (xs.take k)).length≤k:=Nat.le_trans VL (List.length_take_le ..)
  refine Qp (Qd (Qo (Qx (zR ?_))))
  refine zV (QE rfl rfl Q8 hP.sl (fun hg=>kB)) ?_
  refine zV (Qg rfl Q7 (fun hg=>by exact zz5 hP.sl hx) rfl) ?_
  refine Qr Wn rfl rfl (fun b_12=>?_)
  refine zh VG ?_
  refine zN (zR ?_)
  refine zM ?_
  refine zV (Qg rfl Q7 (fun hg=>by exact Cells.g0) rfl) ?_
  refine qcV (vs:=[_]) rfl zuN (ztC _ x) ?_
  refine zM ?_
  refine zE ?_
  refine zE ?_
  refine Qr zaw rfl rfl (fun b_13=>?_)
  refine zh UC ?_
  refine zA (zN (Qo ?_))
  rcases hget:Zt (ZY (fun x=>x.rt.no) (fun x=>x.rt) 4 (xs.take k)) (x.rt.no) with _ | y0
  ·
   refine Qi (zM ?_)
   refine zM ?_
   refine zV (ZR (ek:=Value.int .i64) (ev:=S.encA) UM Q3 rfl rfl (fun _=>kI)) ?_
   rw [hget]
   refine zM ?_
   refine zE ?_
   refine zE ?_
   refine Qr zaw rfl rfl (fun b_15=>?_)
   refine zh UC ?_
   refine zA ?_
   refine zN (zR ?_)
   refine zF Yg ?_
   refine zL Qm ?_
   refine zM ?_
   refine zC ?_
   refine zM ?_
   refine Qq 4 rfl rfl rfl ?_
   refine zK (Qe rfl) ?_
   refine zK (Zs rfl) ?_
   refine QB rfl rfl rfl rfl rfl ?_
   refine zN ?_
   refine zI ?_ ?_<;>intro hc46
   ·
    have hkd:(x.kind==4)=true:=by simpa using hc46
    refine zR (zM ?_)
    refine zM ?_
    refine zV (Qg rfl Ys (fun hg=>by exact Cells.g1) rfl) ?_
    refine zx9 (ek:=Value.int .i64) (ev:=S.encA) (x.rt) UM Q3 ?_
    refine zN (Qi (zM ?_))
    refine zM ?_
    refine zpb [(0,_)] [Z5 (x.rt.no)] Vb (fun b_52=>?_)
    refine zpa (_) ([x.rt.no].flatMap Z5) (Lw) rfl rfl Vb hO ⟨rfl,fun _=>rfl,by repeat (first | exact zz2 | apply zz1 | apply zz3)⟩ (zbn [x.rt.no]) ?_
    intro v9 L9 hO9 _;rw [←List.flatMap_append] at hO9
    refine zA (Qb (Qj (Qd (Qi ?_))))
    refine zB ?_
    refine zM (Qb ?_)
    exact Zc _ (L9++[(r_20,Yo (.int .i64) S.encA (Jr (ZY (fun x=>x.rt.no) (fun x=>x.rt) 4 (xs.take k)) (x.rt.no) (x.rt)))]) ⟨n-(k+1),kB,k+1,_,_,_,rfl,rfl,rfl,by rw [Zb hx,zaY hget hkd],kB,by rw [Zb hx,JO hget hkd];exact hO9,by rw [Zb hx,←List.length_map (f:=fun p=>p.1),JO hget hkd,List.length_append,List.length_map];simp;omega⟩ (.cons rfl (.cons rfl (.cons rfl (.cons rfl (.cons rfl (.cons rfl (.cons rfl (.cons rfl (.cons rfl .nil))))))))) kC
   have hkd:(x.kind==4)=false:=by simpa using hc46
   have hsame:WR (fun x=>x.rt.no) (fun x=>x.rt) 4 (ZY (fun x=>x.rt.no) (fun x=>x.rt) 4 (xs.take k)) x=(ZY (fun x=>x.rt.no) (fun x=>x.rt) 4 (xs.take k)):=zdU hkd
   refine Qp (Qj (Qd (Qi (zB ?_))))
   refine zM (Qb ?_)
   exact Zc _ (Lw++[(r_20,Yo (.int .i64) S.encA (ZY (fun x=>x.rt.no) (fun x=>x.rt) 4 (xs.take k)))]) ⟨n-(k+1),kB,k+1,_,_,_,rfl,rfl,rfl,by rw [Zb hx,hsame],kB,by rw [Zb hx,hsame];exact hO,by rw [Zb hx,hsame];exact hq⟩ (.cons rfl (.cons rfl (.cons rfl (.cons rfl (.cons rfl (.cons rfl (.cons rfl (.cons rfl (.cons rfl .nil))))))))) kC
  refine Qi (zM ?_)
  refine zM ?_
  refine zV (ZR (ek:=Value.int .i64) (ev:=S.encA) UM Q3 rfl rfl (fun _=>kI)) ?_
  rw [hget]
  refine zM ?_
  refine zE ?_
  refine zE ?_
  refine Qr zaw rfl rfl (fun b_15=>?_)
  refine zh UC ?_
  refine zA ?_
  refine zN (zR ?_)
  refine zF Yg ?_
  refine zL Qm ?_
  refine zM ?_
  refine zC ?_
  refine zM ?_
  refine Qq 4 rfl rfl rfl ?_
  refine zK (Qe rfl) ?_
  refine zK (Zs rfl) ?_
  refine QB rfl rfl rfl rfl rfl ?_
  refine zN ?_
  refine zI ?_ ?_<;>intro hc46
  ·
   simp at hc46
  have hsame:WR (fun x=>x.rt.no) (fun x=>x.rt) 4 (ZY (fun x=>x.rt.no) (fun x=>x.rt) 4 (xs.take k)) x=(ZY (fun x=>x.rt.no) (fun x=>x.rt) 4 (xs.take k)):=zaN hget
  refine Qp (Qj (Qd (Qi (zB ?_))))
  refine zM (Qb ?_)
  exact Zc _ (Lw++[(r_20,Yo (.int .i64) S.encA (ZY (fun x=>x.rt.no) (fun x=>x.rt) 4 (xs.take k)))]) ⟨n-(k+1),kB,k+1,_,_,_,rfl,rfl,rfl,by rw [Zb hx,hsame],kB,by rw [Zb hx,hsame];exact hO,by rw [Zb hx,hsame];exact hq⟩ (.cons rfl (.cons rfl (.cons rfl (.cons rfl (.cons rfl (.cons rfl (.cons rfl (.cons rfl (.cons rfl .nil))))))))) kC
 have hge_k:n≤k:=by have h:=hc24;simp at h;omega
 have hml:=VL (num:=(fun x=>x.rt.no)) (prt:=(fun x=>x.rt)) (kind:=4) (xs:=xs)
 have hke:xs.take k=xs:=ZV hln hge_k
 rw [hke] at hO hq ⊢
 refine Q6 (Qn (Qn (Qw (Qd (zR (zM ?_))))))
 refine zpc [_] rfl za9 Q0 (zgO 3 ((ZY (fun x=>x.rt.no) (fun x=>x.rt) 4 xs).map (·.1)) (by rw [←KM];exact hO) kB _) ?_
 rintro vv2 I2 L2 hI2 ⟨rfl,rfl,hO2⟩
 have hIc:=hIc.trans hI2
 rw [←KM] at hO2
 refine zN (Qo (Qo ?_))
 refine zx4 hO2 YJ (fun I3 hI3 af3 cf3 ef3 hNs=>?_)
 subst ef3
 have hIc:=hIc.trans hI3
 obtain ⟨ns,hnsd⟩:∃ y,y=KU ((ZY (fun x=>x.rt.no) (fun x=>x.rt) 4 xs).map (·.1)):=⟨_,rfl⟩
 rw [←hnsd] at hNs
 have hnl:=hNs.len
 have hml:=VL (num:=(fun x=>x.rt.no)) (prt:=(fun x=>x.rt)) (kind:=4) (xs:=xs)
 refine Qi (zM ?_)
 refine zQ ZF ?_
 refine zM (zN (Qx ?_))
 refine zU [(3,_),(9,_),(57,_),(58,_)] (fun T L0 mz E I' loc'=>∃ (j:Nat) (a9:Option Addr) (n9:Nat) (c9:Nat),mz=q-j∧E=(8,.slice a9 n9 c9)::(59,.int .i64 j)::T∧HLe I3 I'∧[(r_20,Yo (.int .i64) S.encA (ZY (fun x=>x.rt.no) (fun x=>x.rt) 4 xs))]=loc'∧j≤q∧Sl I' 11 S.encR a9 n9 c9 (zfB S.rCheck S.zeroR (ZY (fun x=>x.rt.no) (fun x=>x.rt) 4 xs) (ns.take j))∧n9≤j) ?_ (h:=⟨0,none,0,0,rfl,rfl,zz4 _,rfl,Nat.zero_le _,Sl.nil,Nat.le_refl _⟩)
 rintro mz E J4 loc' ⟨j,a9,n9,c9,rfl,rfl,hJ,rfl,hj,hY,hn9⟩
 have hNs:=hNs.mono hJ;have hIc:=hIc.trans hJ
 have hB2:=hJ
 refine zR (zC (zN (Qo ?_)))
 refine zI ?_ ?_<;>intro hc60
 ·
  have hlt_j:j<q:=by have h:=hc60;simp at h;omega
  obtain ⟨m9,hn⟩:∃ y,ns[j]? =some y:=⟨_,List.getElem?_eq_getElem kB⟩
  refine Qp (Qd (Qo (Qx (zR ?_))))
  refine zV (zX ZF hNs) ?_
  refine zV (Qc rfl Qm (fun hg=>by exact zzX hNs hn rfl)) ?_
  refine zA (zN ?_)
  refine zY [(3,_),(8,_),(9,_),(57,_),(58,_),(59,_)] (fun T L0 E I' loc'=>∃ (a2:Option Addr) (c2:Nat),E=(19,.slice a2 (n9+1) c2)::T∧HLe J4 I'∧[(r_20,Yo (.int .i64) S.encA (ZY (fun x=>x.rt.no) (fun x=>x.rt) 4 xs))]=loc'∧Sl I' 11 S.encR a2 (n9+1) c2 ((zfB S.rCheck S.zeroR (ZY (fun x=>x.rt.no) (fun x=>x.rt) 4 xs) (ns.take j))++[(Zt (ZY (fun x=>x.rt.no) (fun x=>x.rt) 4 xs) m9).getD S.zeroR])) ?_ ?_
  ·
   have hKc16:=zz4 J4
   have hD:=zz4 J4
   refine Zn ?_
   refine QL J4 [(r_20,Yo (.int .i64) S.encA (ZY (fun x=>x.rt.no) (fun x=>x.rt) 4 xs))] mixed ?_
   refine zT 0 rfl (Qe rfl) hD ?_
   refine zT 2 rfl (Qe rfl) hD ?_
   refine zT 3 rfl (Qe rfl) hD ?_
   refine zT 4 rfl (Wg (ek:=Value.int .i64) (ev:=S.encA) S.zeroR UM Q3 rfl rfl (fun _=>kQ)) hD ?_
   obtain ⟨y,hydef⟩:∃ y,y=(Zt (ZY (fun x=>x.rt.no) (fun x=>x.rt) 4 xs) m9).getD S.zeroR:=⟨_,rfl⟩
   rw [←hydef]
   refine QS 1 5 rfl rfl kA ?_ ?_
   ·
    refine qcV (vs:=[_]) rfl zmg (zkF _ _ _ _ hY.cap) ?_
    refine Qb ?_
    refine zD hD ?_
    refine qd 5 rfl ?_
    refine zpb [(0,_)] [S.encR y] VA (fun b_68=>?_)
    refine Qb ?_
    refine zD hD ?_
    refine qd 6 rfl ?_
    refine QR (ys:=[y].flatMap S.encR) S.encR_len rfl rfl VA hY.cut ⟨rfl,fun _=>rfl,by repeat (first | exact zz2 | apply zz1)⟩ kD kB rfl rfl ?_
    intro v1 L1 hO1
    rw [←List.flatMap_append] at hO1
    refine zx7 hO1 S.encR_len (fun I5 hI5 af5 cf5 ef5 hZ=>?_)
    subst ef5
    have hKc16:=hKc16.trans hI5;have hD:=hD.trans hI5
    refine Qb ?_
    refine zD hD ?_
    refine zT 7 rfl (Qv rfl) hD ?_
    refine Ql kA ?_
    refine Qt ?_
    exact zm (h:=⟨_,_,rfl,hKc16,rfl,by exact hZ⟩)
   refine zpb [(0,_)] [S.encR y] VA (fun b_68=>?_)
   refine Qb ?_
   refine zD hD ?_
   refine qd 1 rfl ?_
   refine qcV (vs:=[_]) rfl zmg (zkF _ _ _ _ hY.cap) ?_
   refine Qb ?_
   refine zD hD ?_
   refine qd 6 rfl ?_
   refine QR (ys:=[y].flatMap S.encR) S.encR_len rfl rfl VA hY.cut ⟨rfl,fun _=>rfl,by repeat (first | exact zz2 | apply zz1)⟩ kD kB rfl rfl ?_
   intro v1 L1 hO1
   rw [←List.flatMap_append] at hO1
   refine zx7 hO1 S.encR_len (fun I6 hI6 af6 cf6 ef6 hZ=>?_)
   subst ef6
   have hKc16:=hKc16.trans hI6;have hD:=hD.trans hI6
   refine Qb ?_
   refine zD hD ?_
   refine zT 7 rfl (Qv rfl) hD ?_
   refine Ql kA ?_
   refine Qt ?_
   exact zm (h:=⟨_,_,rfl,hKc16,rfl,by exact hZ⟩)
  rintro E J7 loc' ⟨a2,c2,rfl,hJ16,rfl,hZ⟩
  have hY:=hY.mono hJ16;have hB2:=hB2.trans hJ16
  refine zR (zM ?_)
  refine zM ?_
  refine qcV (vs:=[_]) rfl zb0 (S.w_check hZ kB) ?_
  refine zC (zN ?_)
  refine zI ?_ ?_<;>intro hc73
  ·
   refine Qi (zM ?_)
   refine zA (Qb (Qj (Qd (Qi ?_))))
   refine zB ?_
   refine zM (Qb ?_)
   first
   | exact zm (h:=⟨q-(j+1),kB,j+1,_,_,_,rfl,rfl,hB2,rfl,kB,by rw [JS hn,zbW,if_pos hc73];exact hZ,kB⟩)
  refine Qp (Qj (Qd (Qi (zB ?_))))
  refine zM (Qb ?_)
  first
  | exact zm (h:=⟨q-(j+1),kB,j+1,_,_,_,rfl,rfl,hB2,rfl,kB,by rw [JS hn,zbW,if_neg (by rw [hc73];simp)];exact hY,kB⟩)
 have hge_j:q≤j:=by have h:=hc60;simp at h;omega
 have hke2:ns.take j=ns:=ZV hnl hge_j
 rw [hke2] at hY
 refine Q6 (Qn (Qn (Qw (Qd (zR (zM ?_))))))
 refine zA (zN (Qs ?_))
 exact Qy rfl rfl (fun w hw=>⟨_,J4,[],rfl,hIc,by exact hw.drop,rfl,_,_,_,rfl,by rw [Wo,←hnsd];exact hY⟩)
end
end Go.Proofs.YtjblkbkmblkgoaaGreat
section
namespace Go.Kn
open Go
section
variable {P:Program} {fn:Func} {R:Ending→World→Prop} {N:Nat} {g:World} {I H:Qu} {loc:Loc} {E:Env} {r:Option Nat}
theorem zkM {t1 t2 t3 t4 t5:Nat}{v1 v2 v3 v4 v5:Value}(hr:fn.results= #[.tmp t1,.tmp t2,.tmp t3,.tmp t4,.tmp t5])(h1:VC E t1=some v1)(h2:VC E t2=some v2)(h3:VC E t3=some v3)(h4:VC E t4=some v4)(h5:VC E t5=some v5)
  (h:∀ w,St g I H loc w→R (.returned (.tuple #[v1,v2,v3,v4,v5])) w):At ⟨P,r,N,[],g,H⟩ (bodyPost P fn R) .ret E I loc:=fun a w ha hw=>by
 have e1:=ha.env _ _ h1;have e2:=ha.env _ _ h2;have e3:=ha.env _ _ h3;have e4:=ha.env _ _ h4;have e5:=ha.env _ _ h5
 rw [Array.getD_eq_getD_getElem?] at e1 e2 e3 e4 e5
 exact ⟨ha.defers,.tuple #[v1,v2,v3,v4,v5],by simp only [results,hr];simp [List.mapM_cons,e1,e2,e3,e4,e5],h w hw⟩
end
end Go.Kn
namespace Go.Proofs.YtjblkbkmblkgoaaGreat
open Go Go.Kn Go.Proofs
def wLm (xs:List Nt):List Lm:=Wo (fun x=>x.lm.no) (fun x=>x.lm) 1 zcX Vk xs
def wLs (xs:List Nt):List L.Ls:=Wo (fun x=>x.ls.no) (fun x=>x.ls) 3 L.chk L.zeroL xs
def wPt (xs:List Nt):List Pt:=Wo (fun x=>x.pt.id) (fun x=>x.pt) 2 zam V5 xs
def wRt (xs:List Nt):List S.Rt:=Wo (fun x=>x.rt.no) (fun x=>x.rt) 4 S.rCheck S.zeroR xs
theorem zw2 {I:Qu}{xs:List Nt}(h:∀ x∈xs,Nd I x.pt):∀ p∈wPt xs,Nd I p:=fun p hp=>by
 rcases zd2 p hp with rfl | ⟨x,hx,rfl⟩
 ·
  exact Sl.nil
 ·
  exact h x hx
def zzc (xs:List Nt)(v:Value)(I':Qu)(L':Go.Kn.Loc):Prop:=L'=[]∧
  ((ZL xs=true∧∃ a1 n1 c1 a2 n2 c2 a3 n3 c3 a4 n4 c4,v= .tuple #[.slice a1 n1 c1,.slice a2 n2 c2,.slice a3 n3 c3,.slice a4 n4 c4,.int .i64 0]∧Sl I' 9 Zh a1 n1 c1 (wLm xs)∧Sl I' 5 L.encL a2 n2 c2 (wLs xs)∧SlP I' a3 n3 c3 (wPt xs)∧Sl I' 11 S.encR a4 n4 c4 (wRt xs))∨
   (ZL xs=false∧v= .tuple #[.slice none 0 0,.slice none 0 0,.slice none 0 0,.slice none 0 0,.int .i64 570]))
structure Hy where
 a:Option Addr
 n:Nat
 c:Nat
 bytes:List Nat
def zcx (x:Hy):List Value:=[.slice x.a x.n x.c]
theorem UU (x:Hy):(zcx x).length=1:=rfl
theorem zll (xs:List Hy):YF (xs.flatMap zcx)=true:=Yn (fun _=>rfl) xs
structure HyM (I:Qu)(x:Hy):Prop where
 sl:Sl I 1 Jf x.a x.n x.c x.bytes
 byte:∀ b∈x.bytes,b<256
theorem HyM.mono {I I':Qu}{x:Hy}(h:HyM I x)(hI:HLe I I'):HyM I' x:=⟨h.sl.mono hI,h.byte⟩
structure zsY (I:Qu)(av:Option Addr)(n c:Nat)(rs:List Hy):Prop where
 sl:Sl I 1 zcx av n c rs
 m:∀ r∈rs,HyM I r
theorem zsY.mono {I I':Qu}{av:Option Addr}{n c:Nat}{rs:List Hy}(h:zsY I av n c rs)(hI:HLe I I'):zsY I' av n c rs:=⟨h.sl.mono hI,fun r hr=>(h.m r hr).mono hI⟩
structure znr (I:Qu)(rs:List Hy)(B:List (List Nat)):Prop where
 m:∀ r∈rs,HyM I r
 b:rs.map (·.bytes)=B
theorem znr.mono {I I':Qu}{rs:List Hy}{B:List (List Nat)}(h:znr I rs B)(hI:HLe I I'):znr I' rs B:=⟨fun r hr=>(h.m r hr).mono hI,h.b⟩
theorem znr.nil {I:Qu}:znr I [] []:=⟨fun _ h=>(by cases h),rfl⟩
theorem znr.snoc {I:Qu}{rs:List Hy}{B:List (List Nat)}(h:znr I rs B){x:Hy}(hx:HyM I x):znr I (rs++[x]) (B++[x.bytes]):=
 ⟨fun r hr=>(List.mem_append.1 hr).elim (h.m r) (fun e=>by rw [List.mem_singleton.1 e];exact hx),by rw [List.map_append,h.b];rfl⟩
theorem zwk {I:Qu}{t:Nt}{b c:Nat}(hok:Va.ok (KF t))(hS:Sl I 1 Jf (some ⟨b,0,none⟩) (zaB t).size c (K9 (zaB t))):HyM I ⟨some ⟨b,0,none⟩,(zaB t).size,c,KA t⟩:=by
 have e:K9 (zaB t)=KA t:=V9 (Uv _ hok)
 rw [e] at hS
 exact ⟨hS,Uv _ hok⟩
def zza (xs:List Nt)(v:Value)(I':Qu)(L':Go.Kn.Loc):Prop:=L'=[]∧
 ((ZL xs=true∧∃ a n c rs,v= .tuple #[.slice a n c,.int .i64 0]∧zsY I' a n c rs∧rs.map (·.bytes)=xs.map KA)∨(ZL xs=false∧v= .tuple #[.slice none 0 0,.int .i64 570]))
end Go.Proofs.YtjblkbkmblkgoaaGreat
end
namespace Go.Proofs.YtjblkbkmblkgoaaGreat
section
open Go Go.Kn Go.Proofs
theorem zc5:ElT Tryz.prog 60 80 1 24:=.of kA
theorem zxS:Fun Tryz.prog 66:=.of Tryz.func66 kA kA
theorem zvc:Fun Tryz.prog 68:=.of Tryz.func68 kA kA
theorem zva:Fun Tryz.prog 70:=.of Tryz.func70 kA kA
theorem zxR:Fun Tryz.prog 72:=.of Tryz.func72 kA kA
theorem zfM {I:Qu}{av:Option Addr}{n c:Nat}{xs:List Nt}(hP:zbd I av n c xs)(hn:n≤100000):Vs Tryz.prog 20 [.agg #[.slice av n c]] I [] (zzc xs):=by
 intro g H w hw
 refine qe Tryz.func20 Tryz.ntmps20 hw ?_
 have hIc:=zz4 I
 have hln:=hP.sl.len
 refine zR ?_
 refine QO rfl rfl rfl (fun b_1=>?_)
 refine zA ?_
 refine zA ?_
 refine zA ?_
 refine zA ?_
 refine zA (Qb ?_)
 refine QF .here (fun I1 hI1 hb1=>?_)
 have hP:=hP.mono hI1;have hIc:=hIc.trans hI1
 have h1:=BxI.of hb1
 refine Qd (Qo (zR ?_))
 refine zV (Qg rfl KH (fun hg=>by exact BxI.cells (vs:=[_]) h1) rfl) ?_
 refine qcV (vs:=[_]) rfl zlV (zgn hP hn) ?_
 refine zO (zN ?_)
 refine zI ?_ ?_<;>intro hc9
 ·
  have hvf:ZL xs=false:=by simpa using hc9
  refine zR (zA ?_)
  refine zA ?_
  refine zA ?_
  refine zA ?_
  refine zA (zN (Qs (Qf ?_)))
  exact zkM rfl rfl rfl rfl rfl rfl (fun w hw=>⟨_,I1,[],rfl,hIc,hw.subL QC,rfl,.inr ⟨hvf,rfl⟩⟩)
 have hvf:ZL xs=true:=by simpa using hc9
 have hn4:n≤4096:=by have h:=(Yc hvf).2.2;omega
 refine Qp (Qd (zR ?_))
 refine zF ZB ?_
 refine zV (Qc rfl YY (fun hg=>by exact QA.imm h1.out rfl)) ?_
 refine zpc [_,_,_,_] rfl zxS .nil (znI hP hn4) ?_
 rintro vv2 I2 L2 hI2 ⟨rfl,a1,n1,c1,rfl,hS1⟩
 have hP:=hP.mono hI2;have h1:=h1.mono hI2;have hIc:=hIc.trans hI2
 refine zA ?_
 refine zN (zR ?_)
 refine zF ZB ?_
 refine zV (Qc rfl YY (fun hg=>by exact QA.imm h1.out rfl)) ?_
 refine zpc [_,_,_,_] rfl zvc .nil (zoo hP hn4) ?_
 rintro vv3 I3 L3 hI3 ⟨rfl,a2,n2,c2,rfl,hS2⟩
 have hP:=hP.mono hI3;have h1:=h1.mono hI3;have hS1:=hS1.mono hI3;have hIc:=hIc.trans hI3
 refine zA ?_
 refine zN (zR ?_)
 refine zF ZB ?_
 refine zV (Qc rfl YY (fun hg=>by exact QA.imm h1.out rfl)) ?_
 refine zpc [_,_,_,_] rfl zva .nil (zoB hP hn4) ?_
 rintro vv4 I4 L4 hI4 ⟨rfl,a3,n3,c3,rfl,hS3⟩
 have hP:=hP.mono hI4;have h1:=h1.mono hI4;have hS1:=hS1.mono hI4;have hS2:=hS2.mono hI4;have hIc:=hIc.trans hI4
 refine zA ?_
 refine zN (zR ?_)
 refine zF ZB ?_
 refine zV (Qc rfl YY (fun hg=>by exact QA.imm h1.out rfl)) ?_
 refine zpc [_,_,_,_] rfl zxR .nil (zoX hP hn4) ?_
 rintro vv5 I5 L5 hI5 ⟨rfl,a4,n4,c4,rfl,hS4⟩
 have hP:=hP.mono hI5;have hS1:=hS1.mono hI5;have hS2:=hS2.mono hI5;have hS3:=hS3.mono hI5;have hIc:=hIc.trans hI5
 refine zA ?_
 refine zN (zR ?_)
 refine zM ?_
 refine zM ?_
 refine zM ?_
 refine zM ?_
 refine zA ?_
 refine zA ?_
 refine zA ?_
 refine zA ?_
 refine zA (zN (Qs ?_))
 exact zkM rfl rfl rfl rfl rfl rfl (fun w hw=>⟨_,I5,[],rfl,hIc,hw.subL QC,rfl,.inl ⟨hvf,_,_,_,_,_,_,_,_,_,_,_,_,rfl,hS1,hS2,⟨hS3,zw2 hP.nd⟩,hS4⟩⟩)
theorem zkH {I:Qu}{av:Option Addr}{n c:Nat}{xs:List Nt}(hP:zbd I av n c xs)(hn:n≤100000):Vs Tryz.prog 22 [.agg #[.slice av n c]] I [] (zza xs):=by
 intro g H w hw
 refine qe Tryz.func22 Tryz.ntmps22 hw ?_
 have hIc:=zz4 I
 have hln:=hP.sl.len
 refine zR ?_
 refine QO rfl rfl rfl (fun b_1=>?_)
 refine zA ?_
 refine zA (Qb ?_)
 refine QF .here (fun I1 hI1 hb1=>?_)
 have hP:=hP.mono hI1;have hIc:=hIc.trans hI1
 have h1:=BxI.of hb1
 refine Qd (Qo (zR ?_))
 refine zV (Qg rfl KH (fun hg=>by exact BxI.cells (vs:=[_]) h1) rfl) ?_
 refine qcV (vs:=[_]) rfl zlV (zgn hP hn) ?_
 refine zO (zN ?_)
 refine zI ?_ ?_<;>intro hc8
 ·
  have hvf:ZL xs=false:=by simpa using hc8
  refine zR (zA ?_)
  refine zA (zN (Qs (Qf ?_)))
  exact Js rfl rfl rfl (fun w hw=>⟨_,I1,[],rfl,hIc,hw.subL QC,rfl,.inr ⟨hvf,rfl⟩⟩)
 have hvf:ZL xs=true:=by simpa using hc8
 have hvs:=Yc hvf
 refine Qp (Qd (Qo (zR ?_)))
 refine zF ZB ?_
 refine zV (Qc rfl YY (fun hg=>by exact QA.imm h1.out rfl)) ?_
 refine zQ Q8 ?_
 refine zM (zN (Qx ?_))
 refine zU [(10,_),(11,_)] (fun T L0 mz E I' loc'=>∃ (k:Nat) (v:Value) (L:Go.Kn.Loc) (rs:List Hy),mz=n-k∧E=(2,v)::(12,.int .i64 k)::T∧HLe I1 I'∧L=loc'∧k≤n∧ZW 80 1 v k (rs.flatMap zcx) L∧znr I' rs ((xs.take k).map KA)) ?_ (h:=⟨0,_,[],[],rfl,rfl,zz4 _,rfl,Nat.zero_le _,ZW.nil,znr.nil⟩)
 rintro mz E J2 loc' ⟨k,v,L,rs,rfl,rfl,hJ,rfl,hk,hO,hRK⟩
 have hP:=hP.mono hJ;have hIc:=hIc.trans hJ
 have hB0:=hJ
 refine zR (zC (zN (Qo ?_)))
 refine zI ?_ ?_<;>intro hc13
 ·
  have hlt_k:k<n:=by have h:=hc13;simp at h;omega
  obtain ⟨x,hx⟩:∃ y,xs[k]? =some y:=⟨_,List.getElem?_eq_getElem kB⟩
  have hxm:=List.mem_of_getElem? hx
  have hM:=hP.m x hxm (hvs.2.1 x hxm)
  refine Qp (Qd (Qo (Qx (zR ?_))))
  refine zV (QE rfl rfl Q8 hP.sl (fun hg=>kB)) ?_
  refine zV (Qg rfl Q7 (fun hg=>by exact zz5 hP.sl hx) rfl) ?_
  refine Qr Wn rfl rfl (fun b_5=>?_)
  refine zh VG ?_
  refine zN (Qi (zM ?_))
  refine zV (Qg rfl Q7 (fun hg=>by exact Cells.g0) rfl) ?_
  refine qcV (vs:=[_]) rfl zfv (zmz x hM.nd hM.nn hM.ok hM.len) ?_
  refine WV (s:=zaB x) rfl zk5 rfl rfl (fun b9 c9 I3 hI3 hB=>?_)
  have hRK:=hRK.mono hI3;have hB0:=hB0.trans hI3
  refine zpb [(0,_)] [zcx ⟨some ⟨b9,0,none⟩,(zaB x).size,c9,KA x⟩] zc5 (fun b_20=>?_)
  refine zpa (_) ([(⟨some ⟨b9,0,none⟩,(zaB x).size,c9,KA x⟩:Hy)].flatMap zcx) (L) rfl rfl zc5 hO ⟨rfl,fun _=>rfl,by repeat (first | exact zz2 | apply zz1 | apply zz3)⟩ (zll _) ?_
  intro v9 L9 hO9 _;rw [←List.flatMap_append] at hO9
  refine zA (Qb (Qj (Qd (Qi ?_))))
  refine zB ?_
  refine zM (Qb ?_)
  exact zm (h:=⟨n-(k+1),kB,k+1,_,_,_,rfl,rfl,hB0,rfl,kB,hO9,by rw [Zd hx,List.map_append];exact hRK.snoc (zwk hM.ok hB)⟩)
 have hge_k:n≤k:=by have h:=hc13;simp at h;omega
 rw [ZV hln hge_k] at hRK
 refine Q6 (Qn (Qn (Qw (Qd (Qo ?_)))))
 refine zx4 hO UU (fun I4 hI4 af4 cf4 ef4 hR9=>?_)
 subst ef4
 have hRK:=hRK.mono hI4;have hIc:=hIc.trans hI4
 refine Qi (zM ?_)
 refine zA ?_
 refine zA (zN (Qs ?_))
 exact Js rfl rfl rfl (fun w hw=>⟨_,I4,[],rfl,hIc,hw.subL QC,rfl,.inl ⟨hvf,_,_,_,rs,rfl,⟨hR9,hRK.m⟩,hRK.b⟩⟩)
end
section
open Go Go.Kn Go.Proofs
def kpN (ws:List Nt)(i:Nat)(x:Nt):Bool:=match i with
 | 0=>true
 | j+1=>match ws[j]? with | none=>true | some y=> !(Vv x y==0)
def Vy (ws:List Nt):Nat→List Nt
 | 0=>[]
 | i+1=>match ws[i]? with
  | none=>Vy ws i
  | some x=>if kpN ws i x=true then Vy ws i++[x] else Vy ws i
def U9 (ws:List Nt)(m:Nat):List Nt:=Vy ws m++ws.drop (Vy ws m).length
theorem zb8 {ws:List Nt}{i:Nat}{x:Nt}(hx:ws[i]? =some x)(hk:kpN ws i x=true):Vy ws (i+1)=Vy ws i++[x]:=by simp only [Vy,hx,if_pos hk]
theorem zc3 {ws:List Nt}{i:Nat}{x:Nt}(hx:ws[i]? =some x)(hk:kpN ws i x=false):Vy ws (i+1)=Vy ws i:=by simp only [Vy,hx,hk];rfl
theorem zii {ws:List Nt}{i:Nat}{x y:Nt}(hi:1≤i)(hy:ws[i-1]? =some y):kpN ws i x= !(Vv x y==0):=by
 obtain ⟨j,rfl⟩:∃ j,i=j+1:=⟨i-1,kB⟩
 rw [Nat.add_sub_cancel] at hy
 simp only [kpN,hy]
theorem WT (ws:List Nt):∀ m,(Vy ws m).length≤m
 | 0=>Nat.le_refl _
 | m+1=>by
  have:=WT ws m
  unfold Vy
  split
  ·
   omega
  ·
   split
   ·
    rw [List.length_append,List.length_singleton];omega
   ·
    omega
theorem zhc (ws:List Nt):∀ m,(Vy ws m).length≤ws.length
 | 0=>Nat.zero_le _
 | m+1=>by
  have h1:=WT ws m
  have h2:=zhc ws m
  unfold Vy
  split
  ·
   exact h2
  ·
   rename_i x hx
   have:=(List.getElem?_eq_some_iff.1 hx).1
   split
   ·
    rw [List.length_append,List.length_singleton];omega
   ·
    exact h2
theorem zsw (ws:List Nt):Vy ws 1=ws.take 1:=by
 cases ws with
 | nil=>simp [Vy]
 | cons x l=>simp [Vy,kpN]
theorem ze0 {ws:List Nt}{i:Nat}{x:Nt}(h:Vy ws i=ws.take i)(hx:ws[i]? =some x)(hk:kpN ws i x=true):Vy ws (i+1)=ws.take (i+1):=by rw [zb8 hx hk,h,Zd hx]
theorem zb9 {ws:List Nt}(h:ws.length<2):Vy ws ws.length=ws:=by
 cases ws with
 | nil=>simp [Vy]
 | cons x l=>
  cases l with
  | nil=>simp [Vy,kpN]
  | cons y l=>simp only [List.length_cons] at h;omega
theorem zjd {ws:List Nt}(m:Nat):(U9 ws m).length=ws.length:=by
 have:=zhc ws m
 unfold U9
 rw [List.length_append,List.length_drop];omega
theorem zlL {ws:List Nt}{m i:Nat}(h:(Vy ws m).length≤i):(U9 ws m)[i]? =ws[i]? :=by
 unfold U9
 rw [List.getElem?_append_right h,List.getElem?_drop]
 congr 1;omega
theorem zrb {ws:List Nt}{i:Nat}{x:Nt}(hx:ws[i]? =some x)(hk:kpN ws i x=false):U9 ws (i+1)=U9 ws i:=by unfold U9;rw [zc3 hx hk]
theorem zs4 {ws:List Nt}{i:Nat}{x:Nt}(hx:ws[i]? =some x)(hk:kpN ws i x=true):U9 ws (i+1)=(U9 ws i).set (Vy ws i).length x:=by
 have h1:=WT ws i
 have h2:=(List.getElem?_eq_some_iff.1 hx).1
 have h3:ws.drop (Vy ws i).length=ws[(Vy ws i).length]::ws.drop ((Vy ws i).length+1):=List.drop_eq_getElem_cons kB
 unfold U9
 rw [zb8 hx hk,List.length_append,List.length_singleton,List.set_append_right _ _ (Nat.le_refl _),Nat.sub_self,h3,List.set_cons_zero,List.append_assoc,List.singleton_append]
theorem zor {ws:List Nt}{i:Nat}(h:Vy ws i=ws.take i)(hi:i≤ws.length):U9 ws i=ws:=by
 unfold U9
 rw [h,List.length_take,Nat.min_eq_left hi,List.take_append_drop]
/-! ### Cells -/
theorem XU {bl:List Nt}{i:Nat}{x:Nt}(hx:bl[i]? =some x):bl.flatMap Q4=(bl.take i).flatMap Q4++Q4 x++(bl.drop (i+1)).flatMap Q4:=by
 have h2:=(List.getElem?_eq_some_iff.1 hx).1
 have h3:bl.drop i=x::bl.drop (i+1):=by
  rw [List.drop_eq_getElem_cons h2,(List.getElem?_eq_some_iff.1 hx).2]
 conv=>lhs;rw [←List.take_append_drop i bl,h3]
 rw [List.flatMap_append,List.flatMap_cons,List.append_assoc]
theorem zan {bl:List Nt}{i:Nat}(h:i≤bl.length):((bl.take i).flatMap Q4).length=i*45:=by
 rw [YO YV,List.length_take,Nat.min_eq_left h]
theorem Xs {I:Qu}{b t off:Nat}{fz:Nat×Nat}{l:Go.Kn.Loc}{bl:List Nt}{tl:List Value}{i:Nat}{x:Nt}(hx:bl[i]? =some x)(e:off=i*45):Cells I ((b,.cells (bl.flatMap Q4++tl).toArray t fz)::l) b off (Q4 x):=by
 have h2:=(List.getElem?_eq_some_iff.1 hx).1
 refine Cells.part (pre:=(bl.take i).flatMap Q4) (vs:=Q4 x) (post:=(bl.drop (i+1)).flatMap Q4++tl) ?_ (by rw [e,zan kB])
 have h:=zz2 (I:=I) (b:=b) (vs:=bl.flatMap Q4++tl) (t:=t) (fz:=fz) (l:=l)
 rw [XU hx] at h ⊢
 simpa only [List.append_assoc] using h
theorem zjU {bl:List Nt}{tl:List Value}{i:Nat}{x:Nt}(hi:i<bl.length):Kx (bl.flatMap Q4++tl) (i*45) (Q4 x)=(bl.set i x).flatMap Q4++tl:=by
 obtain ⟨y,hy⟩:∃ y,bl[i]? =some y:=⟨_,List.getElem?_eq_getElem hi⟩
 have hs:(bl.set i x)[i]? =some x:=List.getElem?_set_self hi
 have e1:(bl.set i x).take i=bl.take i:=by rw [List.take_set_of_le (Nat.le_refl _)]
 have e2:(bl.set i x).drop (i+1)=bl.drop (i+1):=by rw [List.drop_set_of_lt (Nat.lt_succ_self _)]
 rw [XU hy,XU hs,e1,e2]
 have h:=Ks ((bl.take i).flatMap Q4) (Q4 y) (Q4 x) ((bl.drop (i+1)).flatMap Q4++tl) rfl
 rw [zan (Nat.le_of_lt hi)] at h
 simpa only [List.append_assoc] using h
theorem zj7 {bl:List Nt}{tl:List Value}{n c:Nat}(h:bl.length=n)(ht:tl.length=(c-n)*45)(hc:n≤c):(bl.flatMap Q4++tl).length=c*45:=by
 rw [List.length_append,YO YV,h,ht,←Nat.add_mul]
 congr 1;omega
theorem zuW {e:Nat}{v:Value}{n:Nat}{ws:List Nt}{L:Go.Kn.Loc}(h:ZW e 45 v n (ws.flatMap Q4) L)(hl:ws.length=n):(v= .slice none 0 0∧n=0∧L=[])∨∃ b c tl,v= .slice (some ⟨b,0,none⟩) n c∧L=[(b,.cells (ws.flatMap Q4++tl).toArray e (0,0))]∧n≤c∧c≤maxLen∧tl.length=(c-n)*45:=by
 rcases h.2 with h1 | ⟨b,c,cur,h1,h2,h3,h4,h5,h6⟩
 ·
  exact .inl h1
 ·
  refine .inr ⟨b,c,cur.toList.drop (n*45),h1,?_,h3,h4,?_⟩
  ·
   rw [h2,←h6,List.take_append_drop]
  ·
   rw [List.length_drop,Array.length_toList,h5,←Nat.sub_mul]
theorem zuX {e b n c:Nat}{ws:List Nt}{tl:List Value}(hl:ws.length=n)(hc:n≤c)(hm:c≤maxLen)(ht:tl.length=(c-n)*45):ZW e 45 (.slice (some ⟨b,0,none⟩) n c) n (ws.flatMap Q4) [(b,.cells (ws.flatMap Q4++tl).toArray e (0,0))]:=by
 have hf:(ws.flatMap Q4).length=n*45:=by rw [YO YV,hl]
 refine ⟨hf,.inr ⟨b,c,_,rfl,rfl,hc,hm,?_,?_⟩⟩
 ·
  rw [List.size_toArray];exact zj7 hl ht hc
 ·
  show (ws.flatMap Q4++tl).take (n*45)=_
  rw [←hf,List.take_left']
  rfl
theorem zop {ws:List Nt}{tl zs:List Value}{n c m:Nat}(hn:ws.length=n)(hm:m≤n)(hc:n≤c)(ht:tl.length=(c-n)*45)(hz:zs.length=(n-m)*45)(hk:(Vy ws n).length=m):
  ∃ tl',tl'.length=(c-m)*45∧((U9 ws n).flatMap Q4++tl).take (m*45)++(zs++((U9 ws n).flatMap Q4++tl).drop (m*45+(n-m)*45))=(Vy ws n).flatMap Q4++tl':=by
 have e0:(Vy ws n).flatMap Q4=((U9 ws n).take m).flatMap Q4:=by
  unfold U9
  rw [hk,←hk,List.take_left']
  rfl
 have hb:=zjd (ws:=ws) n
 have hfl:((U9 ws n).flatMap Q4).length=n*45:=by rw [YO YV,hb,hn]
 refine ⟨zs++tl,by rw [List.length_append,hz,ht,←Nat.add_mul];congr 1;omega,?_⟩
 have e1:((U9 ws n).flatMap Q4++tl).take (m*45)=(Vy ws n).flatMap Q4:=by
  unfold U9
  rw [List.flatMap_append,List.append_assoc]
  have:((Vy ws n).flatMap Q4).length=m*45:=by rw [YO YV,hk]
  rw [←this,List.take_left']
  rfl
 have e2:((U9 ws n).flatMap Q4++tl).drop (m*45+(n-m)*45)=tl:=by
  have:m*45+(n-m)*45=((U9 ws n).flatMap Q4).length:=by rw [hfl,←Nat.add_mul];congr 1;omega
  rw [this,List.drop_left']
  rfl
 rw [e1,e2]
theorem zlb {ws:List Nt}{tl zs:List Value}{n c M:Nat}(hM:M=n)(hn:ws.length=n)(hc:n≤c)(ht:tl.length=(c-n)*45)(hz:zs.length=(n-(Vy ws M).length)*45):
  ∃ tl',tl'.length=(c-(Vy ws n).length)*45∧((U9 ws M).flatMap Q4++tl).take (0+(Vy ws M).length*45)++(zs++((U9 ws M).flatMap Q4++tl).drop (0+(Vy ws M).length*45+(n-(Vy ws M).length)*45))=(Vy ws n).flatMap Q4++tl':=by
 subst hM
 rw [Nat.zero_add]
 exact zop hn (WT ws _) hc ht hz rfl
end
end Go.Proofs.YtjblkbkmblkgoaaGreat
namespace Go.Kn
section
open Go
section
variable {C:Cx} {Q:Exit→Act→World→Prop} {E:Env} {I:Qu} {loc:Loc} {ops:Array Oper} {rest:List Oper} {dst:Option Tmp} {ty:TypeId} {pos:String} {af:Array Edge} {gd:Option (Nat×Bool)} {x:Operand}
theorem znC {t e n c b off t':Nat}{z:Value}{zc A:List Value}(F:List Value→Loc)(hx:QD [] E x=some (.slice (some ⟨b,off,none⟩) n c))(hT:C.P.underlying t=some (.slice e))(hz:Y9 C.P e z)(hzc:z.cells=zc.toArray)(h1:YF zc=true)
  (hle:off+n*zc.length≤A.length)(hG:gd=none)(hdst:dst=none)(hu:∀ zs:List Value,Upd loc b (.cells A.toArray t' (0,0)) (.cells (A.take off++(zs++A.drop (off+n*zc.length))).toArray t' (0,0)) (F zs))
  (h:∀ zs:List Value,zs.length=n*zc.length→XO C Q ops rest [] E I (F zs)):
  XO C Q ops (⟨dst,.call ⟨.builtin .clear, #[x], #[t]⟩,ty,pos,af,gd⟩::rest) [] E I loc:=
 Ya hG kE fun a w ha hw=>by
  subst hdst
  have hsz:(Builtin.zeroCells z.cells n).toList.length=n*zc.length:=by rw [Array.length_toList,Vm,hzc];simp
  have hz1:∀ v∈(Builtin.zeroCells z.cells n).toList,v.oneCell'=true:=by
   intro v hv
   rw [Array.mem_toList_iff] at hv
   unfold Builtin.zeroCells at hv
   rw [hzc] at hv
   simp at hv
   obtain ⟨q,hq,h2⟩:=hv
   have hp:0<zc.length:=Nat.pos_of_ne_zero fun e=>by rw [e] at hq;simp at hq
   rw [List.getElem?_eq_getElem (Nat.mod_lt _ hp)] at h2
   exact Jo h1 v (by rw [←h2];exact List.getElem_mem _)
  have e:A=A.take off++((A.drop off).take (n*zc.length)++A.drop (off+n*zc.length)):=by
   have:(A.drop off).take (n*zc.length)++A.drop (off+n*zc.length)=A.drop off:=by rw [←List.drop_drop];exact List.take_append_drop _ _
   rw [this,List.take_append_drop]
  have hu2:=hu (Builtin.zeroCells z.cells n).toList
  have hu3:Upd loc b (.cells (A.take off++((A.drop off).take (n*zc.length)++A.drop (off+n*zc.length))).toArray t' (0,0)) (.cells (A.take off++((Builtin.zeroCells z.cells n).toList++A.drop (off+n*zc.length))).toArray t' (0,0)) (F (Builtin.zeroCells z.cells n).toList):=by rw [←e];exact hu2
  obtain ⟨w',hr,hs'⟩:=V3 (P:=C.P) (off:=off) (Builtin.zeroCells z.cells n).toList (A.take off) w loc _ b t' ((A.drop off).take (n*zc.length)) 0 kO (by rw [hsz,List.length_take,List.length_drop];omega) hz1 hw hu3
  have hrun:(Builtin.clear_ #[t] ty #[.slice (some ⟨b,off,none⟩) n c]).run C.P w= .ok (.tuple #[]) w':=by
   have h0:n=0→w'=w:=by
    intro hn;subst hn
    have:(Builtin.zeroCells z.cells 0).toList=[]:=List.length_eq_zero_iff.1 (by rw [hsz];omega)
    rw [this] at hr
    simp [storeCells] at hr
    exact hr.symm
   cases n with
   | zero=>rw [h0 rfl];simp [Builtin.clear_,Sem.run_bind,run_underlying hT,Result.andThen]
   | succ k=>simp [Builtin.clear_,Sem.run_bind,run_underlying hT,Result.andThen,Vu hz,hr]
  simp only [execOp,resolve,List.map_toArray,List.map_cons,List.map_nil,Qh (S:=[]) ha trivial rfl hx,Sem.run_bind,Sem.run_pure,Result.andThen,invoke,builtin,hrun,Oper.uponIn_value]
  exact h _ hsz _ _ ha trivial hs'
end
end
end Go.Kn
namespace Go.Proofs.YtjblkbkmblkgoaaGreat
section
open Go Go.Kn Go.Proofs
theorem zre:Fun Tryz.prog 83:=.of Tryz.func83 kA kA
theorem zuQ:Tryz.prog.underlying 57=some (.slice 45):=kA
theorem zwY {I:Qu}{x y:Nt}(hX:NtM I x)(hY:NtM I y):ZA Tryz.prog 83 [Ke x,Ke y] I (.bool (Vv x y==0)):=by
 intro g H w hw
 refine qe Tryz.func83 Tryz.ntmps83 hw ?_
 have hIc:=zz4 I
 refine zR ?_
 refine QO rfl rfl rfl (fun b_2=>?_)
 refine QO rfl rfl rfl (fun b_3=>?_)
 refine zA (Qb ?_)
 refine QF .here (fun I1 hI1 hb1=>?_)
 have hX:=hX.mono hI1;have hY:=hY.mono hI1;have hIc:=hIc.trans hI1
 have h3:=BxI.of hb1
 refine QF .here (fun I2 hI2 hb2=>?_)
 have hX:=hX.mono hI2;have hY:=hY.mono hI2;have h3:=h3.mono hI2;have hIc:=hIc.trans hI2
 have h2:=BxI.of hb2
 refine Qd (zR ?_)
 refine zV (Qg rfl Q7 (fun hg=>by exact BxI.cells (vs:=Q4 x) h2) rfl) ?_
 refine zV (Qg rfl Q7 (fun hg=>by exact BxI.cells (vs:=Q4 y) h3) rfl) ?_
 refine qcV (vs:=[_,_]) rfl zed (zfk hX hY) ?_
 refine zC ?_
 refine zA (zN (Qs ?_))
 exact Qy rfl rfl (fun w hw=>⟨by rfl,(hw.mono hIc).subL QC⟩)
theorem zwH {I:Qu}{b c n:Nat}{ws:List Nt}{tl:List Value}(hws:ws.length=n)(hM:∀ x∈ws,NtM I x)(hn:n≤100000)(hc:n≤c)(hcm:c≤maxLen)(htl:tl.length=(c-n)*45):Vs Tryz.prog 82 [.slice (some ⟨b,0,none⟩) n c,.func (.func 83) #[] #[]] I [(b,.cells (ws.flatMap Q4++tl).toArray 45 (0,0))] (fun v I' L'=>I'=I∧v= .slice (some ⟨b,0,none⟩) (Vy ws n).length c∧∃ tl',tl'.length=(c-(Vy ws n).length)*45∧L'=[(b,.cells ((Vy ws n).flatMap Q4++tl').toArray 45 (0,0))]):=by
 intro g H w hw
 refine qe Tryz.func82 Tryz.ntmps82 hw ?_
 refine zR (zA (zN (Qo (zR ?_))))
 refine zM ?_
 refine zQ Q8 ?_
 refine zC (zN ?_)
 refine zI ?_ ?_<;>intro hc10
 ·
  have h10:ws.length<2:=by have h:=hc10;simp at h;omega
  refine zR (zM ?_)
  refine zA (zN (Qs (Qf ?_)))
  exact Qy rfl rfl (fun w hw=>⟨_,I,_,rfl,zz4 _,hw,rfl,by rw [←hws,zb9 h10],tl,by rw [←hws,zb9 h10,hws];exact htl,by rw [←hws,zb9 h10]⟩)
 have h10:2≤n:=by have h:=hc10;simp at h;omega
 refine Qp (Qd (Qo (zR (zA (zN (Qx ?_))))))
 refine zU [(0,_),(1,_)] (fun T L0 mz E I' loc'=>∃ (k:Nat),mz=n-k∧E=(5,.int .i64 k)::T∧I=I'∧L0=loc'∧1≤k∧k≤n∧Vy ws k=ws.take k) ?_ (h:=⟨1,rfl,rfl,rfl,rfl,Nat.le_refl _,kB,zsw ws⟩)
 rintro mz E I' loc' ⟨k,rfl,rfl,rfl,rfl,hk1,hkn,hct⟩
 refine Qo (zR (zM ?_))
 refine zM ?_
 refine zQ Q8 ?_
 refine zC (zN ?_)
 refine zI ?_ ?_<;>intro hc15
 ·
  have hlt:k<n:=by have h:=hc15;simp at h;omega
  obtain ⟨x,hx⟩:∃ y,ws[k]? =some y:=⟨_,List.getElem?_eq_getElem kB⟩
  obtain ⟨y,hy⟩:∃ y,ws[k-1]? =some y:=⟨_,List.getElem?_eq_getElem kB⟩
  have hxm:=List.mem_of_getElem? hx
  have hym:=List.mem_of_getElem? hy
  have ex1:((k:Int)).toNat*45=k*45:=by rw [Int.toNat_natCast]
  have ey1:((k:Int)-1).toNat*45=(k-1)*45:=by rw [show ((k:Int)-1).toNat=k-1 by omega]
  refine Qp (Qd (Qo (Qx (Qo ?_))))
  have hD:=zz4 I
  refine Zn ?_
  refine QL I [(b,.cells (ws.flatMap Q4++tl).toArray 45 (0,0))] mixed ?_
  refine zT 0 rfl (Qe rfl) hD ?_
  refine zT 1 rfl (Qe rfl) hD ?_
  refine zT 2 rfl (Qe rfl) hD ?_
  refine zT 3 rfl (Uu rfl rfl Q8 (fun hg=>kB)) hD ?_
  refine zT 4 rfl (Qg rfl Q7 (fun hg=>by exact Xs hx ex1) rfl) hD ?_
  refine zT 5 rfl (Qe rfl) hD ?_
  refine zT 6 rfl (Qe rfl) hD ?_
  refine zT 7 rfl (YE rfl rfl rfl (fun hg=>kB)) hD ?_
  refine zT 8 rfl (Uu rfl rfl Q8 (fun hg=>kB)) hD ?_
  refine zT 9 rfl (Qg rfl Q7 (fun hg=>by exact Xs hy ey1) rfl) hD ?_
  refine qd 10 rfl ?_
  refine qcV (vs:=[_,_]) rfl zre (zwY (hM x hxm) (hM y hym)) ?_
  refine Qb ?_
  refine zD hD ?_
  refine Ql kA ?_
  refine Qt ?_
  refine Qd ?_
  refine zI ?_ ?_<;>intro hc28
  ·
   have hkp:kpN ws k x=false:=by rw [zii hk1 hy,hc28];rfl
   refine zR (zM ?_)
   refine zM ?_
   refine zV (Vx rfl rfl Q8 (fun hg=>kB)) ?_
   rw [WX kB]
   refine zA (zN (Qo (zR ?_)))
   refine zA (zN (Qx ?_))
   refine zc8 [(0,_),(1,_),(6,_)] (.cons rfl (.cons rfl (.cons rfl .nil))) (fun T L0 mz E I' loc'=>∃ (j:Nat),mz=n-j∧E=(5,.int .i64 ((Vy ws (k+j)).length:Nat))::(7,.int .i64 j)::T∧I=I'∧[(b,.cells ((U9 ws (k+j)).flatMap Q4++tl).toArray 45 (0,0))]=loc'∧1≤j∧k+j≤n∧(Vy ws (k+j)).length≤k+j-1) _ _ _ _ ⟨1,rfl,by rw [zc3 hx hkp,hct,List.length_take,Nat.min_eq_left kB],rfl,by rw [zrb hx hkp,zor hct kB],Nat.le_refl _,kB,by rw [zc3 hx hkp];have:=WT ws k;omega⟩ (.cons rfl (.cons rfl (.cons rfl (.cons rfl (.cons rfl .nil))))) (zz4 _) rfl ?_
   rintro mz E I' loc' ⟨j,rfl,rfl,rfl,rfl,hj1,hjn,hml⟩
   have hbl:(U9 ws (k+j)).length=n:=by rw [zjd];exact hws
   refine Qo (zR (zM ?_))
   refine zM ?_
   refine zQ Q8 ?_
   refine zC (zN ?_)
   refine zI ?_ ?_<;>intro hc35
   ·
    have hlt2:k+j<n:=by have h:=hc35;simp at h;omega
    obtain ⟨x,hx0⟩:∃ y,ws[k+j]? =some y:=⟨_,List.getElem?_eq_getElem kB⟩
    obtain ⟨y,hy0⟩:∃ y,ws[k+j-1]? =some y:=⟨_,List.getElem?_eq_getElem kB⟩
    have hxm:=List.mem_of_getElem? hx0
    have hym:=List.mem_of_getElem? hy0
    have hx2:(U9 ws (k+j))[k+j]? =some x:=by rw [zlL kB];exact hx0
    have hy2:(U9 ws (k+j))[k+j-1]? =some y:=by rw [zlL kB];exact hy0
    have ex2:0+((k:Int)).toNat*45+((j:Int)).toNat*45=(k+j)*45:=by rw [Int.toNat_natCast,Int.toNat_natCast,Nat.zero_add,←Nat.add_mul]
    have ey2:0+((k:Int)).toNat*45+((j:Int)-1).toNat*45=(k+j-1)*45:=by rw [show ((j:Int)-1).toNat=j-1 by omega,Int.toNat_natCast,Nat.zero_add,←Nat.add_mul];congr 1;omega
    refine Qp (Qd (Qo (Qx (Qo ?_))))
    have hD:=zz4 I
    refine Zn ?_
    refine QL I [(b,.cells ((U9 ws (k+j)).flatMap Q4++tl).toArray 45 (0,0))] mixed ?_
    refine zT 0 rfl (Qe rfl) hD ?_
    refine zT 1 rfl (Qe rfl) hD ?_
    refine zT 2 rfl (Qe rfl) hD ?_
    refine zT 3 rfl (JR rfl rfl Q8 (fun hg=>kB)) hD ?_
    refine zT 4 rfl (Qg rfl Q7 (fun hg=>by exact Xs hx2 ex2) rfl) hD ?_
    refine zT 5 rfl (Qe rfl) hD ?_
    refine zT 6 rfl (Qe rfl) hD ?_
    refine zT 7 rfl (YE rfl rfl rfl (fun hg=>kB)) hD ?_
    refine zT 8 rfl (JR rfl rfl Q8 (fun hg=>kB)) hD ?_
    refine zT 9 rfl (Qg rfl Q7 (fun hg=>by exact Xs hy2 ey2) rfl) hD ?_
    refine qd 10 rfl ?_
    refine qcV (vs:=[_,_]) rfl zre (zwY (hM x hxm) (hM y hym)) ?_
    refine Qb ?_
    refine zD hD ?_
    refine zT 11 rfl (Zs rfl) hD ?_
    refine Ql kA ?_
    refine Qt ?_
    refine Qd ?_
    refine zI ?_ ?_<;>intro hc49
    ·
     have hkp2:kpN ws (k+j) x=true:=by rw [zii kB hy0];exact hc49
     refine zR (zM ?_)
     refine zM ?_
     refine zM ?_
     refine zM ?_
     refine zV (JR rfl rfl Q8 (fun hg=>kB)) ?_
     refine zV (Qg rfl Q7 (fun hg=>by exact Xs hx2 ex2) rfl) ?_
     refine zV (Uu rfl rfl Q8 (fun hg=>kB)) ?_
     refine Vd (A:=(U9 ws (k+j)).flatMap Q4++tl) rfl rfl VG rfl (by rw [zj7 hbl htl hc];exact Nat.ble_eq_true_of_le kS) rfl rfl (by exact .here) ?_
     rw [show (((Vy ws (k+j)).length:Nat):Int).toNat*45=(Vy ws (k+j)).length*45 from by rw [Int.toNat_natCast],zjU (by rw [hbl];omega)]
     refine zN (Qi (zM ?_))
     refine zB ?_
     refine zA (Qb (Qj (Qd (Qi ?_))))
     refine zM ?_
     refine zB ?_
     refine zA (Qb ?_)
     first
     | exact Zc _ [(b,.cells (((U9 ws (k+j)).set (Vy ws (k+j)).length x).flatMap Q4++tl).toArray 45 (0,0))] ⟨n-(j+1),kB,j+1,rfl,by rw [←Nat.add_assoc,zb8 hx0 hkp2,List.length_append,List.length_singleton],rfl,by rw [←Nat.add_assoc,zs4 hx0 hkp2],kB,kB,by rw [←Nat.add_assoc,zb8 hx0 hkp2,List.length_append,List.length_singleton];omega⟩ (.cons rfl (.cons rfl (.cons rfl (.cons rfl (.cons rfl .nil))))) kC
    have hkp2:kpN ws (k+j) x=false:=by rw [zii kB hy0];exact hc49
    refine Qp (Qj (Qd (Qi (zM ?_))))
    refine zB ?_
    refine zA (Qb ?_)
    first
    | exact Zc _ [(b,.cells ((U9 ws (k+j)).flatMap Q4++tl).toArray 45 (0,0))] ⟨n-(j+1),kB,j+1,rfl,by rw [←Nat.add_assoc,zc3 hx0 hkp2],rfl,by rw [←Nat.add_assoc,zrb hx0 hkp2],kB,kB,by rw [←Nat.add_assoc,zc3 hx0 hkp2];omega⟩ (.cons rfl (.cons rfl (.cons rfl (.cons rfl (.cons rfl .nil))))) kC
   have hge2:k+j=n:=by have h:=hc35;simp at h;omega
   refine Q6 (Qn (Qn (Qw (Qd (zR (zM ?_))))))
   refine zM ?_
   refine zV (Vx rfl rfl Q8 (fun hg=>kB)) ?_
   rw [WX kB]
   refine znC (A:=(U9 ws (k+j)).flatMap Q4++tl) (fun zs=>[(b,.cells (((U9 ws (k+j)).flatMap Q4++tl).take (0+(Vy ws (k+j)).length*45)++(zs++((U9 ws (k+j)).flatMap Q4++tl).drop (0+(Vy ws (k+j)).length*45+(n-(Vy ws (k+j)).length)*45))).toArray 45 (0,0))]) rfl zuQ Wn rfl rfl (by rw [zj7 hbl htl hc];simp;omega) rfl rfl (fun zs=>by simpa using Upd.here) (fun zc hzc=>?_)
   refine Qb ?_
   obtain ⟨tl2,ht2,e2⟩:=zlb hge2 hws hc htl (by simpa using hzc)
   rw [e2]
   refine Qd (zR (zM ?_))
   refine zM ?_
   refine zV (YI rfl rfl Q8 (fun hg=>kB)) ?_
   refine zA (zN (Qs (Qk (Qf (Qf (Qk (Qf ?_)))))))
   exact Qy rfl rfl (fun w hw=>⟨_,I,_,rfl,zz4 _,hw,rfl,by rw [Int.toNat_natCast,hge2],tl2,ht2,rfl⟩)
  refine Qp (Qj (Qd (Qi (zM ?_))))
  refine zB ?_
  refine zA (Qb ?_)
  exact zm (h:=⟨n-(k+1),kB,k+1,rfl,rfl,rfl,rfl,kB,kB,ze0 hct hx (by rw [zii hk1 hy,hc28];rfl)⟩)
 have hge:n≤k:=by have h:=hc15;simp at h;omega
 obtain rfl:k=n:=kB
 rw [List.take_of_length_le kB] at hct
 refine Q6 (Qn (Qn (Qw (Qd (zR (zM ?_))))))
 refine zA (zN (Qs ?_))
 exact Qy rfl rfl (fun w hw=>⟨_,I,_,rfl,zz4 _,hw,rfl,by rw [hct,hws],tl,by rw [hct,hws];exact htl,by rw [hct]⟩)
end
end Go.Proofs.YtjblkbkmblkgoaaGreat
namespace Go.Kn
section
open Go Go.Sort Go.Shelf Go.Lib Go.Proofs
theorem zj0 {α:Type}[Inhabited α]{P:Program}{f g0:FuncId}{e:TypeId}{k:Nat}{enc:α→List Value}{cf:α→α→Int}(hk:∀ x,(enc x).length=k)(hpos:0<k)
  (hs:∀ (blk off cap:Nat) (d:Array α) (w:World),CmpLays P g0 #[] enc k cf blk off d.size w→HoldsK enc k w blk off d→blk<w.heap.size→d.size<4611686018427387904→
   Calls P f #[.slice (some ⟨blk,off,none⟩) d.size cap,.func (.func g0) #[] #[]] w fun e w'=>e= .returned (.tuple #[])∧∃ d' n os,PermIn 0 d.size d d'∧SortedIn (ltOf cf) 0 d.size d'∧w'=sortWorldK enc k w blk off n d' os)
  (h0:∀ (p:Option Addr) (cap:Nat) (fv:Value) (w:World),Calls P f #[.slice p 0 cap,fv] w fun e w'=>e= .returned (.tuple #[])∧w'=w)
  (I:Qu)(hcmp:∀ I',HLe I I'→∀ (x y:α),ZA P g0 [.agg (enc x).toArray,.agg (enc y).toArray] I' (.int .i64 (cf x y)))
  (zs:List α){v:Value}{n:Nat}{L:Loc}(hO:ZW e k v n (zs.flatMap enc) L)(hn:n≤1000000):
  Vs P f [v,.func (.func g0) #[] #[]] I L (fun u I' L'=>u= .tuple #[]∧I'=I∧∃ zs':List α,zs'.Perm zs∧zs'.Pairwise (fun x y=>ltOf cf y x=false)∧ZW e k v n (zs'.flatMap enc) L'):=by
 intro g H w hw
 have hl:zs.length=n:=by
  have:=hO.1
  rw [YO hk] at this
  exact Nat.eq_of_mul_eq_mul_right hpos this
 subst hl
 rcases hO.2 with ⟨rfl,h00,rfl⟩ | ⟨b,c,cur,rfl,rfl,hc,hc2,hsz,htk⟩
 ·
  have:zs=[]:=List.length_eq_zero_iff.1 h00
  subst this
  refine (h0 none 0 _ w).mono ?_
  rintro e w' ⟨rfl,rfl⟩
  exact ⟨_,I,[],rfl,zz4 _,hw,rfl,rfl,[],.nil,.nil,by simp,.inl ⟨rfl,rfl,rfl⟩⟩
 ·
  have hb:=hw.own b _ (List.mem_singleton.2 rfl)
  have hbs:b<w.heap.size:=(Array.getElem?_eq_some_iff.1 hb).1
  have hfl:(zs.flatMap enc).length=zs.length*k:=YO hk zs
  have hH:HoldsK enc k w b 0 zs.toArray:=by
   unfold HoldsK
   rw [zjt hk hpos]
   exact zfq (enc:=id) hw (List.mem_singleton.2 rfl) (zs.flatMap enc) (by rw [hfl,htk];simp)
  have hC:CmpLays P g0 #[] enc k cf b 0 zs.toArray.size w:=by
   intro m os dk _ x y
   have hsw:∃ L',St g I H L' (sortWorldK enc k w b 0 m dk os):=by
    unfold sortWorldK putRowK
    exact ⟨_,((hw.aheadN m).rowPut (enc:=id) _ .here).grown os⟩
   obtain ⟨L',hsw⟩:=hsw
   have h1:=hcmp (fun q=>(sortWorldK enc k w b 0 m dk os).heap[q]?) (fun b o h=>hsw.imm b o h) x y (sortWorldK enc k w b 0 m dk os) (fun _=>none) (sortWorldK enc k w b 0 m dk os)
    ⟨rfl,rfl,rfl,⟨Nat.le_refl _,Nat.le_refl _⟩,fun _ _ h=>h,(fun _ _ h=>by cases h),(fun _ _ h=>by cases h),fun _=>.inr rfl,(fun _ _ h=>by cases h),by simp⟩
   refine Calls.mono h1 ?_
   rintro e w' ⟨rfl,hs⟩
   exact ⟨rfl,zoN hs⟩
  have hcall:=hs b 0 c zs.toArray w hC hH hbs kS
  rw [List.size_toArray] at hcall
  refine hcall.mono ?_
  rintro e w' ⟨rfl,d',m,os,hp,hsd,rfl⟩
  have hps:d'.size=zs.length:=by simpa using hp.1
  have hperm:d'.toList.Perm zs:=by
   have:=hp.2.2
   simpa [Array.extract_eq_self_of_le,hps] using this
  have hdl:d'=d'.toList.toArray:=by simp
  have hfd:(d'.toList.flatMap enc).length=zs.length*k:=by rw [YO hk,Array.length_toList,hps]
  refine ⟨_,I,[(b,.cells (putCells id 0 (d'.toList.flatMap enc).toArray cur) e (0,0))],rfl,zz4 _,?_,rfl,rfl,d'.toList,hperm,?_,?_⟩
  ·
   unfold sortWorldK putRowK
   rw [hdl,zjt hk hpos]
   simp only [List.toList_toArray]
   exact (((hw.aheadN m).rowPut (enc:=id) _ .here).grown os)
  ·
   rw [List.pairwise_iff_getElem]
   intro i j hi hj hij
   have:=hsd i j (Nat.zero_le _) hij (by rw [←hps];simpa using hj)
   rw [getElem!_pos d' i (by simpa using hi),getElem!_pos d' j (by simpa using hj)] at this
   simpa using this
  ·
   refine ⟨by rw [hfd],.inr ⟨b,c,_,rfl,rfl,hc,hc2,by simp [putCells,hsz],?_⟩⟩
   have:=zhf (enc:=id) (cs:=cur) (n:=zs.length*k) (d'.toList.flatMap enc) hfd (by rw [hsz];exact Nat.mul_le_mul_right k hc)
   simpa using this
end
end Go.Kn
namespace Go.Proofs.YtjblkbkmblkgoaaGreat
section
open Go Go.Kn Go.Proofs
/-! ### The order -/
theorem zjL {x y z:Nt}(h:Vv x y=0):Vv x z=Vv y z:=by
 have e:(zaB x).data.toList=(zaB y).data.toList:=ztS h
 unfold Vv zxW;rw [e]
theorem zaJ:NtW zcA:=⟨fun y hy=>by
  have:y=0:=by
   simp only [YS,zcA,Vk,V5,L.zeroL,S.zeroR,JP,List.mem_cons,List.not_mem_nil,or_false,or_self] at hy
   exact hy
  subst this;decide,fun y hy=>by cases hy⟩
theorem zl3 {x:Nt}(hw:NtW x)(s1:x.pt.needs.length≤32)(s2:x.rt.name.size≤32)(s3:x.rt.town.size≤32):Va.ok (KF x)∧(KA x).length≤2000:=by
 have hok:∀ v∈(YS x).map Va.int,Va.ok v:=fun v hv=>by
  obtain ⟨y,hy,rfl⟩:=List.mem_map.1 hv
  exact hw.ints y hy
 have hon:∀ v∈x.pt.needs.map Va.int,Va.ok v:=fun v hv=>by
  obtain ⟨y,hy,rfl⟩:=List.mem_map.1 hv
  exact hw.needs y hy
 have hb:(Va.encL ((YS x).map Va.int)).length≤462:=by
  have:=K8 (b:=11) (l:=(YS x).map Va.int) fun v hv=>by
   obtain ⟨y,hy,rfl⟩:=List.mem_map.1 hv
   exact Uq (hw.ints y hy)
  rw [List.length_map,YK] at this;omega
 have hn:(Va.encL (x.pt.needs.map Va.int)).length≤352:=by
  have:=K8 (b:=11) (l:=x.pt.needs.map Va.int) fun v hv=>by
   obtain ⟨y,hy,rfl⟩:=List.mem_map.1 hv
   exact Uq (hw.needs y hy)
  rw [List.length_map] at this
  have h2:=Nat.mul_le_mul_right 11 s1
  omega
 constructor
 ·
  refine ⟨by simp [YK],zfa fun v hv=>?_⟩
  rw [List.mem_append] at hv
  rcases hv with hv | hv
  ·
   exact hok v hv
  ·
   simp only [List.mem_cons,List.not_mem_nil,or_false] at hv
   rcases hv with rfl | rfl | rfl
   ·
    exact ⟨by rw [List.length_map];omega,zfa hon⟩
   ·
    exact ⟨zdf _,by rw [JA];omega⟩
   ·
    exact ⟨zdf _,by rw [JA];omega⟩
 ·
  have e1:=KC (s:=K9 x.rt.name) (by rw [JA];exact s2)
  have e2:=KC (s:=K9 x.rt.town) (by rw [JA];exact s3)
  have e3:(Va.enc (.list (x.pt.needs.map Va.int))).length≤354:=by
   rw [Va.enc,List.length_map,Vj kB]
   simp only [List.length_cons,List.length_append,List.length_nil];omega
  unfold KA KF
  rw [Va.enc,Vj (by simp [YK])]
  simp only [List.length_cons,List.length_append,List.length_nil,Va.encL_append,Va.encL];omega
theorem znS (I:Qu):NtM I zcA:=by
 obtain ⟨h1,h2⟩:=zl3 zaJ kD kD kD
 exact ⟨Sl.nil,by decide,h1,kB⟩
def NtP (I:Qu):={x:Nt // NtM I x}
instance (I : Qu) : Inhabited (NtP I) := ⟨⟨zcA, znS I⟩⟩
def zrk {I:Qu}(x:NtP I):List Value:=Q4 x.1
def zih {I:Qu}(x y:NtP I):Int:=Vv x.1 y.1
theorem zzt (I:Qu):Go.Sort.SWO (Go.Proofs.ltOf (zih (I:=I))):=by
 have key:∀ a b c:Nt,¬Vv a b<0→¬Vv b c<0→¬Vv a c<0:=fun a b c h1 h2 h3=>by
  by_cases e:Vv b a=0
  ·
   rw [zjL e] at h2;exact h2 h3
  ·
   have hf:Vv a b= - Vv b a:=by rw [Xx]
   have h4:Vv b a<0:=kB
   exact h2 (Jq h4 h3)
 refine ⟨fun x=>?_,fun x y z h1 h2=>?_,fun x y z h1 h2=>?_⟩
 ·
  unfold Go.Proofs.ltOf zih;rw [UN];rfl
 ·
  unfold Go.Proofs.ltOf zih at*
  exact decide_eq_true (Jq (of_decide_eq_true h1) (of_decide_eq_true h2))
 ·
  unfold Go.Proofs.ltOf zih at*
  exact decide_eq_false (key _ _ _ (of_decide_eq_false h1) (of_decide_eq_false h2))
def NtP.v {I:Qu}(x:NtP I):Nt:=x.1
theorem zqQ {I:Qu}:∀ (xs:List Nt),(∀ x∈xs,NtM I x)→∃ zs:List (NtP I),zs.map NtP.v=xs
 | [],_=>⟨[],rfl⟩
 | x::l,h=>by
  obtain ⟨zs,hz⟩:=zqQ l fun y hy=>h y (List.mem_cons_of_mem _ hy)
  exact ⟨(show NtP I from ⟨x,h x (List.mem_cons_self ..)⟩)::zs,congrArg (x:: ·) hz⟩
/-! ### Struck -/
theorem zdA {ws:List Nt}:∀ m,∀ x∈Vy ws m,x∈ws
 | 0,x,h=>by cases h
 | m+1,x,h=>by
  unfold Vy at h
  split at h
  ·
   exact zdA m x h
  ·
   rename_i y hy
   split at h
   ·
    rcases List.mem_append.1 h with h | h
    ·
     exact zdA m x h
    ·
     rw [List.mem_singleton] at h;subst h;exact List.mem_of_getElem? hy
   ·
    exact zdA m x h
theorem zhM {ws:List Nt}(hs:ws.Pairwise fun x y=>¬Vv y x<0):∀ m,m≤ws.length→zi3 (Vy ws m)∧(∀ y,1≤m→ws[m-1]? =some y→∃ z,(Vy ws m).getLast?=some z∧Vv z y=0)∧∀ (i:Nat) (x:Nt),i<m→ws[i]? =some x→∃ z∈Vy ws m,Vv z x=0
 | 0,_=>⟨fun k l x y _ hx=>by simp [Vy] at hx,fun y h=>kB,fun i x h=>kB⟩
 | m+1,hm=>by
  obtain ⟨h1,h2,h3⟩:=zhM hs m kB
  obtain ⟨x,hx⟩:∃ x,ws[m]? =some x:=⟨_,List.getElem?_eq_getElem kB⟩
  cases hk:kpN ws m x with
  | true=>
   rw [zb8 hx hk]
   refine ⟨?_,fun y _ hy=>⟨x,by simp,?_⟩,fun i u hi hu=>?_⟩
   ·
    -- all before are less
    have hlt:∀ z∈Vy ws m,Vv z x<0:=by
     intro z hz
     rcases Nat.eq_zero_or_pos m with hm0 | hm0
     ·
      subst hm0;cases hz
     ·
      obtain ⟨y,hy⟩:∃ y,ws[m-1]? =some y:=⟨_,List.getElem?_eq_getElem kB⟩
      rw [zii hm0 hy] at hk
      have hne:Vv x y≠0:=by simpa using hk
      have hnl:¬Vv x y<0:=by
       obtain ⟨ha,ea⟩:=List.getElem?_eq_some_iff.1 hy
       obtain ⟨hb,eb⟩:=List.getElem?_eq_some_iff.1 hx
       have:=List.pairwise_iff_getElem.1 hs (m-1) m ha hb kB
       rw [ea,eb] at this;exact this
      have hyx:Vv y x<0:=by rw [Xx];omega
      obtain ⟨l,hl,hly⟩:=h2 y hm0 hy
      have hlx:Vv l x<0:=by rw [zjL hly];exact hyx
      obtain ⟨i,hi⟩:=List.mem_iff_getElem?.1 hz
      have hil:=(List.getElem?_eq_some_iff.1 hi).1
      rw [List.getLast?_eq_getElem?] at hl
      rcases Nat.lt_or_ge i ((Vy ws m).length-1) with h4 | h4
      ·
       exact Jq (h1 i _ z l h4 hi hl) hlx
      ·
       have:i=(Vy ws m).length-1:=kB
       rw [this,hl] at hi;cases hi;exact hlx
    intro k l u v hkl hu hv
    rcases Nat.lt_or_ge l (Vy ws m).length with h4 | h4
    ·
     rw [List.getElem?_append_left h4] at hv
     rw [List.getElem?_append_left kB] at hu
     exact h1 k l u v hkl hu hv
    ·
     rw [List.getElem?_append_right h4] at hv
     have hvl:v=x:=by
      have:=(List.getElem?_eq_some_iff.1 hv).1
      simp only [List.length_singleton] at this
      have e:l-(Vy ws m).length=0:=kB
      rw [e] at hv;cases hv;rfl
     subst hvl
     rw [List.getElem?_append_left (by
      have:=(List.getElem?_eq_some_iff.1 hv).1
      simp only [List.length_singleton] at this
      omega)] at hu
     exact hlt u (List.mem_of_getElem? hu)
   ·
    rw [Nat.add_sub_cancel,hx] at hy;cases hy;exact UN _
   ·
    rcases Nat.lt_or_ge i m with h4 | h4
    ·
     obtain ⟨z,hz,e⟩:=h3 i u h4 hu;exact ⟨z,List.mem_append_left _ hz,e⟩
    ·
     have:i=m:=kB
     subst this;rw [hx] at hu;cases hu
     exact ⟨_,List.mem_append_right _ (List.mem_singleton.2 rfl),UN _⟩
  | false=>
   rw [zc3 hx hk]
   have hm0:1≤m:=by
    rcases Nat.eq_zero_or_pos m with h | h
    ·
     subst h;simp [kpN] at hk
    ·
     exact h
   obtain ⟨y,hy⟩:∃ y,ws[m-1]? =some y:=⟨_,List.getElem?_eq_getElem kB⟩
   rw [zii hm0 hy] at hk
   have he:Vv x y=0:=by simpa using hk
   have he2:Vv y x=0:=by rw [Xx,he];rfl
   obtain ⟨l,hl,hly⟩:=h2 y hm0 hy
   have hlx:Vv l x=0:=by rw [zjL hly];exact he2
   refine ⟨h1,fun u _ hu=>⟨l,hl,?_⟩,fun i u hi hu=>?_⟩
   ·
    rw [Nat.add_sub_cancel,hx] at hu;cases hu;exact hlx
   ·
    rcases Nat.lt_or_ge i m with h4 | h4
    ·
     exact h3 i u h4 hu
    ·
     have:i=m:=kB
     subst this;rw [hx] at hu;cases hu
     exact ⟨l,List.mem_of_getLast? hl,hlx⟩
/-! ### Loaded -/
structure LdK (I:Qu)(rs:List Hy)(xs:List Nt):Prop where
 len:xs.length=rs.length
 ok:∀ (i:Nat) (r:Hy) (x:Nt),rs[i]? =some r→xs[i]? =some x→okN r.bytes=some (YN x)∧NtM I x∧QM x=true
theorem LdK.mono {I I':Qu}{rs:List Hy}{xs:List Nt}(h:LdK I rs xs)(hI:HLe I I'):LdK I' rs xs:=⟨h.len,fun i r x hr hx=>let ⟨h1,h2,h3⟩:=h.ok i r x hr hx;⟨h1,h2.mono hI,h3⟩⟩
theorem LdK.nil {I:Qu}:LdK I [] []:=⟨rfl,fun i r x hr=>by simp at hr⟩
theorem LdK.snoc {I:Qu}{rs:List Hy}{xs:List Nt}{r:Hy}{x:Nt}(h:LdK I rs xs)(h1:okN r.bytes=some (YN x))(h2:NtM I x)(h3:QM x=true):LdK I (rs++[r]) (xs++[x]):=by
 have hl:=h.len
 refine ⟨by simp [hl],fun i r' x' hr hx=>?_⟩
 rcases Nat.lt_or_ge i rs.length with h4 | h4
 ·
  rw [List.getElem?_append_left h4] at hr
  rw [List.getElem?_append_left kB] at hx
  exact h.ok i r' x' hr hx
 ·
  rw [List.getElem?_append_right h4] at hr
  rw [List.getElem?_append_right kB] at hx
  have e:i-rs.length=0:=by
   have:=(List.getElem?_eq_some_iff.1 hr).1
   simp only [List.length_singleton] at this;omega
  rw [hl,e] at hx;rw [e] at hr
  cases hr;cases hx;exact ⟨h1,h2,h3⟩
theorem LdK.all {I:Qu}{rs:List Hy}{xs:List Nt}(h:LdK I rs xs):∀ x∈xs,NtM I x∧QM x=true∧∃ r∈rs,okN r.bytes=some (YN x):=fun x hx=>by
 obtain ⟨i,hi⟩:=List.mem_iff_getElem?.1 hx
 obtain ⟨r,hr⟩:∃ r,rs[i]? =some r:=⟨_,List.getElem?_eq_getElem (by rw [←h.len];exact (List.getElem?_eq_some_iff.1 hi).1)⟩
 obtain ⟨h1,h2,h3⟩:=h.ok i r x hr hi
 exact ⟨h2,h3,r,List.mem_of_getElem? hr,h1⟩
structure LdZ (I:Qu)(rs:List Hy)(a:Option Addr)(m c:Nat)(zs:List Nt):Prop where
 nt:zbd I a m c zs
 srt:zi3 zs
 len:zs.length≤rs.length
 mem:∀ r∈rs,∃ x∈zs,okN r.bytes=some (YN x)
 frm:∀ x∈zs,QM x=true∧∃ r∈rs,okN r.bytes=some (YN x)
def LdQ (rs:List Hy)(v:Value)(I':Qu)(L':Go.Kn.Loc):Prop:=L'=[]∧
  ((4096<rs.length∧v= .tuple #[.agg #[.slice none 0 0],.int .i64 2])∨
   (rs.length≤4096∧(∃ r∈rs,okN r.bytes=none)∧v= .tuple #[.agg #[.slice none 0 0],.int .i64 570])∨
   (rs.length≤4096∧∃ a m c zs,v= .tuple #[.agg #[.slice a m c],.int .i64 0]∧LdZ I' rs a m c zs))
theorem zu1 {I:Qu}{rs:List Hy}{xs ys:List Nt}{a:Option Addr}{m c:Nat}(h:LdK I rs xs)(hp:ys.Perm xs)(hs:ys.Pairwise fun x y=>¬Vv y x<0)(hS:Sl I 45 Q4 a m c (Vy ys ys.length)):LdZ I rs a m c (Vy ys ys.length):=by
 obtain ⟨h1,_,h3⟩:=zhM hs ys.length (Nat.le_refl _)
 have hall:=h.all
 have hsub:∀ x∈Vy ys ys.length,x∈xs:=fun x hx=>hp.mem_iff.1 (zdA _ x hx)
 refine ⟨⟨hS,fun x hx=>(hall x (hsub x hx)).1.nd,fun x hx _=>(hall x (hsub x hx)).1⟩,h1,?_,fun r hr=>?_,fun x hx=>⟨(hall x (hsub x hx)).2.1,(hall x (hsub x hx)).2.2⟩⟩
 ·
  have:=WT ys ys.length
  have h5:=hp.length_eq;have h6:=h.len;omega
 ·
  obtain ⟨i,hi⟩:=List.mem_iff_getElem?.1 hr
  obtain ⟨x,hx⟩:∃ x,xs[i]? =some x:=⟨_,List.getElem?_eq_getElem (by rw [h.len];exact (List.getElem?_eq_some_iff.1 hi).1)⟩
  obtain ⟨e1,e2,_⟩:=h.ok i r x hi hx
  obtain ⟨j,hj⟩:=List.mem_iff_getElem?.1 (hp.mem_iff.2 (List.mem_of_getElem? hx))
  obtain ⟨z,hz,ez⟩:=h3 j x (List.getElem?_eq_some_iff.1 hj).1 hj
  refine ⟨z,hz,?_⟩
  rw [e1,zuu (hall z (hsub z hz)).1.ok e2.ok ez]
end
section
open Go Go.Kn Go.Proofs
theorem zsb (I:Qu):ZA Tryz.prog 82 [.slice none 0 0,.func (.func 83) #[] #[]] I (.slice none 0 0):=by
 intro g H w hw
 refine qe Tryz.func82 Tryz.ntmps82 hw ?_
 refine zR (zA (zN (Qo (zR ?_))))
 refine zM ?_
 refine zQ Q8 ?_
 refine zC (zN ?_)
 refine zI ?_ ?_<;>intro hc10
 ·
  refine zR (zM ?_)
  refine zA (zN (Qs (Qf ?_)))
  exact Qy rfl rfl (fun w hw=>⟨by rfl,hw⟩)
 cases hc10
theorem zxJ {I:Qu}{v:Value}{n:Nat}{ws:List Nt}{L:Go.Kn.Loc}(hO:ZW 45 45 v n (ws.flatMap Q4) L)(hl:ws.length=n)(hM:∀ x∈ws,NtM I x)(hn:n≤100000):Vs Tryz.prog 82 [v,.func (.func 83) #[] #[]] I L (fun u I' L'=>I'=I∧ZW 45 45 u (Vy ws n).length ((Vy ws n).flatMap Q4) L'):=by
 rcases zuW hO hl with ⟨rfl,rfl,rfl⟩ | ⟨b,c,tl,rfl,rfl,hc,hcm,htl⟩
 ·
  have:ws=[]:=List.eq_nil_of_length_eq_zero hl
  subst this
  intro g H w hw
  exact (zsb I g H w hw).mono fun e w' ⟨h1,h2⟩=>⟨_,I,[],h1,zz4 _,h2,rfl,ZW.nil⟩
 intro g H w hw
 refine (zwH hl hM hn hc hcm htl g H w hw).mono ?_
 rintro e w' ⟨u,I',L',h1,h2,h3,rfl,rfl,tl',h5,rfl⟩
 exact ⟨_,_,_,h1,h2,h3,rfl,zuX rfl (Nat.le_trans (WT ws n) hc) hcm h5⟩
theorem zry {I:Qu}{xs:List Nt}(hX:∀ x∈xs,NtM I x){v:Value}{n:Nat}{L:Go.Kn.Loc}(hO:ZW 45 45 v n (xs.flatMap Q4) L)(hn:n≤1000000):
  Vs Tryz.prog 80 [v,.func (.func 81) #[] #[]] I L (fun u I' L'=>u= .tuple #[]∧I'=I∧∃ ys:List Nt,ys.Perm xs∧ys.Pairwise (fun x y=>¬Vv y x<0)∧ZW 45 45 v n (ys.flatMap Q4) L'):=by
 obtain ⟨zs,hz⟩:=zqQ xs hX
 subst hz
 have e0:∀ l:List (NtP I),l.flatMap zrk=(l.map NtP.v).flatMap Q4:=fun l=>by rw [List.flatMap_map];rfl
 rw [←e0] at hO
 intro g H w hw
 refine (zj0 (α:=NtP I) (enc:=zrk) (cf:=zih) (fun x=>YV x.1) kD (fun blk off cap d w hC hH hb hs=>Tryz.slices_SortFunc (α:=NtP I) 45 (fun w=>YZ Q7) (fun w=>by obtain ⟨i,hi,hz⟩:=VG;rw [←hz];exact Go.Kn.run_sizeOf hi) zrk (fun x=>YV x.1) (fun x=>Jo kU) zih (zzt I) 81 #[] blk off cap d w (fun args w=>JI zed args w) hC hH hb hs) (Tryz.slices_SortFunc_none (α:=NtP I)) I (fun I' hI x y=>zfk (x.2.mono hI) (y.2.mono hI)) zs hO hn g H w hw).mono ?_
 rintro e w' ⟨u,I',L',h1,h2,h3,rfl,rfl,zs',hp,hpw,hO'⟩
 rw [e0] at hO'
 refine ⟨_,_,_,h1,h2,h3,rfl,rfl,zs'.map NtP.v,hp.map _,?_,hO'⟩
 rw [List.pairwise_map]
 exact hpw.imp fun {a b} h=>of_decide_eq_false h
end
section
open Go Go.Kn Go.Proofs
theorem zvR:Fun Tryz.prog 80:=.of Tryz.func80 kA kA
theorem zxl:Fun Tryz.prog 82:=.of Tryz.func82 kA kA
theorem zg7:SlT Tryz.prog 60 80 1:=.of kA
theorem zqz {I:Qu}{av:Option Addr}{n c:Nat}{rs:List Hy}(hR:zsY I av n c rs)(hn:n≤100000)(hb:∀ r∈rs,r.n≤100000):Vs Tryz.prog 24 [.slice av n c] I [] (LdQ rs):=by
 intro g H w hw
 refine qe Tryz.func24 Tryz.ntmps24 hw ?_
 have hIc:=zz4 I
 have hln:=hR.sl.len
 refine zR ?_
 refine Qr zoa rfl rfl (fun b_2=>?_)
 refine zA (zN (Qo (zR ?_)))
 refine zM ?_
 refine zQ zg7 ?_
 refine zC (zN ?_)
 refine zI ?_ ?_<;>intro hc11
 ·
  have h11:4096<n:=by have h:=hc11;simp at h;omega
  refine zR ?_
  refine zV (Qg rfl KH (fun hg=>by exact Cells.g0) rfl) ?_
  refine zh zc2 ?_
  refine zA (zN (Qs (Qf ?_)))
  exact ZN rfl rfl rfl KH (by exact zz2) rfl (fun w hw=>⟨_,I,[],rfl,hIc,hw.subL QC,rfl,.inl ⟨kB,rfl⟩⟩)
 have h11:n≤4096:=by have h:=hc11;simp at h;omega
 refine Qp (Qd (zR (zA (zN (Qo (zR ?_))))))
 refine zM ?_
 refine zQ zg7 ?_
 refine zM (zN (Qx ?_))
 refine zU [(2,_),(13,_),(14,_)] (fun T L0 mz E I' loc'=>∃ (k:Nat) (v:Value) (Lw:Go.Kn.Loc) (xs:List Nt),mz=n-k∧E=(4,v)::(15,.int .i64 k)::T∧HLe I I'∧Lw++[(b_2,.cells #[.slice none 0 0] 59 (0,0))]=loc'∧k≤n∧ZW 45 45 v k (xs.flatMap Q4) Lw∧LdK I' (rs.take k) xs) ?_ (h:=⟨0,_,[],[],rfl,rfl,zz4 _,rfl,Nat.zero_le _,ZW.nil,LdK.nil⟩)
 rintro mz E J1 loc' ⟨k,v,Lw,xs,rfl,rfl,hJ,rfl,hk,hO,hLK⟩
 have hR:=hR.mono hJ;have hIc:=hIc.trans hJ
 have hB0:=hJ
 refine zR (zC (zN (Qo ?_)))
 refine zI ?_ ?_<;>intro hc16
 ·
  have hlt_k:k<n:=by have h:=hc16;simp at h;omega
  obtain ⟨r,hr⟩:∃ y,rs[k]? =some y:=⟨_,List.getElem?_eq_getElem kB⟩
  have hrm:=List.mem_of_getElem? hr
  have hy:=hR.m r hrm
  refine Qp (Qd (Qo (Qx (zR ?_))))
  refine zV (QE rfl rfl zg7 hR.sl (fun hg=>kB)) ?_
  refine zV (Qc rfl Ww (fun hg=>by exact zzX hR.sl hr rfl)) ?_
  refine zA ?_
  refine zN (zR ?_)
  refine zM ?_
  refine zpc [_] rfl zmc .nil (zjv hy.sl hy.byte (hb r hrm)) ?_
  rintro vv2 I2 L2 hI2 ⟨rfl,cs,bb,rfl,hrd⟩
  have hLK:=hLK.mono hI2;have hIc:=hIc.trans hI2;have hB0:=hB0.trans hI2
  refine zM ?_
  refine zE ?_
  refine zE ?_
  refine Qr Wn rfl rfl (fun b_7=>?_)
  refine Jd (old:=Q4 zcA) rfl rfl VG hrd.1.1 rfl hrd.1.2 rfl (by repeat (first | exact Upd.here | apply Upd.there | apply ZE)) ?_
  refine zA (zN (Qo (zR ?_)))
  refine zM ?_
  refine zO (zN ?_)
  refine zI ?_ ?_<;>intro hc25
  ·
   have hno:okN r.bytes=none:=by have h:=zhO hrd;have h2:bb=false:=(by simpa using hc25);rw [h2] at h;simpa using h
   refine zR ?_
   refine zV (Qg rfl KH (fun hg=>by (repeat (first | exact zz2 | apply zz1 | apply zz3))) rfl) ?_
   refine zh zc2 ?_
   refine zA (zN (Qs (Qf (Qk (Qf (Qf (Qk ?_)))))))
   refine Qf ?_
   exact ZN rfl rfl rfl KH (by (repeat (first | exact zz2 | apply zz1 | apply zz3))) rfl (fun w hw=>⟨_,I2,[],rfl,hIc,hw.subL QC,rfl,.inr (.inl ⟨kB,⟨r,hrm,hno⟩,rfl⟩)⟩)
  obtain ⟨t9,_,rfl,hNd9,hok9⟩:=zg4 hrd (by rw [zhO hrd];simpa using hc25)
  have hbl9:r.bytes.length≤100000:=by have h:=hy.sl.len;have h2:=hb r hrm;omega
  have hTM:=zh2 hy.byte hbl9 hok9 hNd9
  have hTf:=zfp hy.byte hbl9 hok9 hNd9
  refine Qp (Qd (Qi (zM ?_)))
  refine zV (Qg rfl Q7 (fun hg=>by exact Cells.g0) rfl) ?_
  refine zpb [(0,_)] [Q4 t9] U1 (fun b_29=>?_)
  refine zpa (_) ([t9].flatMap Q4) (Lw) rfl rfl U1 hO ⟨rfl,fun _=>rfl,by repeat (first | exact zz2 | apply zz1 | apply zz3)⟩ (zp2 [t9]) ?_
  intro v9 L9 hO9 _;rw [←List.flatMap_append] at hO9
  refine zA (Qb (Qj (Qd (Qi ?_))))
  refine zB ?_
  refine zM (Qb ?_)
  exact zm (h:=⟨n-(k+1),kB,k+1,_,_,_,rfl,rfl,hB0,rfl,kB,hO9,by rw [Zd hr];exact hLK.snoc hok9 hTM hTf⟩)
 have hge_k:n≤k:=by have h:=hc16;simp at h;omega
 obtain rfl:k=n:=kB
 rw [ZV hln (Nat.le_refl _)] at hLK
 refine Q6 (Qn (Qn (Qw (Qd (zR (zM ?_))))))
 refine zpc [_,_] rfl zvR Q0 (zry (fun x hx=>(hLK.all x hx).1) hO kB) ?_
 rintro vv3 I3 L3 hI3 ⟨rfl,rfl,ys,hperm,hpw,hO2⟩
 have hLK:=hLK.mono hI3;have hIc:=hIc.trans hI3
 refine zN (zR ?_)
 refine zM ?_
 refine zpc [_,_] rfl zxl Q0 (zxJ hO2 (by rw [hperm.length_eq,hLK.len];exact hln) (fun x hx=>(hLK.all x (hperm.mem_iff.1 hx)).1) kB) ?_
 rintro vv4 I4 L4 hI4 ⟨rfl,hO3⟩
 have hLK:=hLK.mono hI4;have hIc:=hIc.trans hI4
 refine zF ZB ?_
 refine zx8 zgS hO3.one ?_
 refine zN (Qo ?_)
 refine zx4 hO3 YV (fun I5 hI5 af5 cf5 ef5 hZ=>?_)
 subst ef5
 have hLK:=hLK.mono hI5;have hIc:=hIc.trans hI5
 refine Qi ?_
 refine zV (Qg rfl KH (fun hg=>by exact Cells.g0) rfl) ?_
 refine zh zc2 ?_
 refine zA (zN (Qs ?_))
 exact ZN rfl rfl rfl KH (by exact zz2) rfl (fun w hw=>⟨_,I5,[],rfl,hIc,hw.subL QC,rfl,.inr (.inr ⟨kB,_,_,_,_,rfl,zu1 hLK hperm hpw (by rw [hperm.length_eq,hLK.len,hln];exact hZ)⟩)⟩)
end
section
open Go Go.Kn Go.Proofs
def smC (p q:Pt):Bool:=(((((p.id != q.id||p.kind != q.kind)||p.sign != q.sign)||p.field != q.field)|| !ziB p.nw q.nw)||(p.n:Int) != (q.n:Int))
def smP (p q:Pt):Bool:= !smC p q&&decide (p.needs=q.needs)
theorem zxz {p q:Pt}(h:smC p q=true):smP p q=false:=by simp [smP,h]
theorem ziM {p q:Pt}(h:smC p q=false):smP p q=decide (p.needs=q.needs):=by simp [smP,h]
theorem zxH {p q:Pt}(h:smC p q=false):p.n=q.n:=by
 unfold smC at h
 rw [Bool.or_eq_false_iff] at h
 have:=h.2
 simp only [bne_eq_false_iff_eq] at this
 omega
theorem zae {xs ys:List Int}{k:Nat}{x y:Int}(h:xs.take k=ys.take k)(hx:xs[k]? =some x)(hy:ys[k]? =some y)(e:x=y):xs.take (k+1)=ys.take (k+1):=by rw [Zd hx,Zd hy,h,e]
theorem zxy {xs ys:List Int}{k:Nat}{x y:Int}(hx:xs[k]? =some x)(hy:ys[k]? =some y)(e:x≠y):xs≠ys:=fun h=>by rw [h,hy] at hx;exact e (Option.some.inj hx).symm
def smN (x y:Nt):Bool:=((((x.kind==y.kind)&&zdN x.lm y.lm)&&smP x.pt y.pt)&&L.lsEq x.ls y.ls)&&S.rtEq x.rt y.rt
def smL:List Nt→List Nt→Bool
 | [],[]=>true
 | x::xs,y::ys=>smN x y&&smL xs ys
 | _,_=>false
theorem zmL:∀ {xs ys:List Nt},xs.length≠ys.length→smL xs ys=false
 | [],[],h=>absurd rfl h
 | [],_::_,_=>rfl
 | _::_,[],_=>rfl
 | x::xs,y::ys,h=>by simp only [smL,zmL (xs:=xs) (ys:=ys) (by simpa using h),Bool.and_false]
theorem zqi:∀ {xs ys:List Nt} {k:Nat} {x y:Nt},xs[k]? =some x→ys[k]? =some y→smN x y=false→smL xs ys=false
 | [],_,_,_,_,h,_,_=>by simp at h
 | _::_,[],_,_,_,_,h,_=>by simp at h
 | a::xs,b::ys,0,x,y,hx,hy,h=>by cases hx;cases hy;simp [smL,h]
 | a::xs,b::ys,k+1,x,y,hx,hy,h=>by
  have:=zqi (xs:=xs) (ys:=ys) (k:=k) (by simpa using hx) (by simpa using hy) h
  simp [smL,this]
theorem zjQ:∀ {xs ys:List Nt},xs.length=ys.length→(∀ (j:Nat) (x y:Nt),j<xs.length→xs[j]? =some x→ys[j]? =some y→smN x y=true)→smL xs ys=true
 | [],[],_,_=>rfl
 | [],_::_,h,_=>by simp at h
 | _::_,[],h,_=>by simp at h
 | x::xs,y::ys,hl,h=>by
  rw [smL,h 0 x y kH rfl rfl,zjQ (by simpa using hl) (fun j u v hj hu hv=>h (j+1) u v (by simpa using hj) (by simpa using hu) (by simpa using hv))];rfl
theorem znf {xs ys:List Nt}{k:Nat}{x y:Nt}(hx:xs[k]? =some x)(hy:ys[k]? =some y)(h:∀ (j:Nat) (u v:Nt),j<k→xs[j]? =some u→ys[j]? =some v→smN u v=true)(e:smN x y=true):∀ (j:Nat) (u v:Nt),j<k+1→xs[j]? =some u→ys[j]? =some v→smN u v=true:=fun j u v hj hu hv=>by
 rcases Nat.lt_or_ge j k with h1 | h1
 ·
  exact h j u v h1 hu hv
 ·
  have:j=k:=kB
  subst this;rw [hx] at hu;rw [hy] at hv;cases hu;cases hv;exact e
end
section
open Go Go.Kn Go.Proofs
theorem zjZ:Fun Tryz.prog 85:=.of Tryz.func85 kA kA
theorem zvN:Fun Tryz.prog 86:=.of Tryz.func86 kA kA
theorem zxE {I:Qu}{p q:Pt}(hP:Nd I p)(hQ:Nd I q)(hn:p.n≤100000):ZA Tryz.prog 85 [KR p,KR q] I (.bool (smP p q)):=by
 intro g H w hw
 refine qe Tryz.func85 Tryz.ntmps85 hw ?_
 have hIc:=zz4 I
 have hl1:p.needs.length=p.n:=hP.len
 have hl2:q.needs.length=q.n:=hQ.len
 refine zR ?_
 refine QO rfl rfl rfl (fun b_2=>?_)
 refine QO rfl rfl rfl (fun b_3=>?_)
 refine zA (Qb ?_)
 refine QF .here (fun I1 hI1 hb1=>?_)
 have hP:=hP.mono hI1;have hQ:=hQ.mono hI1;have hIc:=hIc.trans hI1
 have h3:=BxI.of hb1
 refine QF .here (fun I2 hI2 hb2=>?_)
 have hP:=hP.mono hI2;have hQ:=hQ.mono hI2;have h3:=h3.mono hI2;have hIc:=hIc.trans hI2
 have h2:=BxI.of hb2
 refine Qd (Qo (zR ?_))
 refine zF ZJ ?_
 refine zV (Qc rfl Qm (fun hg=>by exact QA.imm h2.out rfl)) ?_
 refine zF ZJ ?_
 refine zV (Qc rfl Qm (fun hg=>by exact QA.imm h3.out rfl)) ?_
 refine zC ?_
 refine zM ?_
 refine QK 5 rfl rfl rfl ?_
 refine zJ (Qa rfl JH) ?_
 refine zJ (Qc rfl Qm (fun hg=>by exact QA.imm h2.out rfl)) ?_
 refine zJ (Qa rfl JH) ?_
 refine zJ (Qc rfl Qm (fun hg=>by exact QA.imm h3.out rfl)) ?_
 refine zJ (Qz rfl rfl rfl) ?_
 refine Zg rfl rfl rfl rfl rfl ?_
 refine zM ?_
 refine QK 12 rfl rfl rfl ?_
 refine zJ (Qa rfl Yq) ?_
 refine zJ (Qc rfl Qm (fun hg=>by exact QA.imm h2.out rfl)) ?_
 refine zJ (Qa rfl Yq) ?_
 refine zJ (Qc rfl Qm (fun hg=>by exact QA.imm h3.out rfl)) ?_
 refine zJ (Qz rfl rfl rfl) ?_
 refine Zg rfl rfl rfl rfl rfl ?_
 refine zM ?_
 refine QK 19 rfl rfl rfl ?_
 refine zJ (Qa rfl Yr) ?_
 refine zJ (Qc rfl Qm (fun hg=>by exact QA.imm h2.out rfl)) ?_
 refine zJ (Qa rfl Yr) ?_
 refine zJ (Qc rfl Qm (fun hg=>by exact QA.imm h3.out rfl)) ?_
 refine zJ (Qz rfl rfl rfl) ?_
 refine Zg rfl rfl rfl rfl rfl ?_
 refine zM ?_
 refine QK 26 rfl rfl rfl ?_
 refine zJ (Qa rfl YC) ?_
 refine zJ (Qg rfl ZC (fun hg=>by exact ziY (BxI.cells (vs:=KY p) h2)) rfl) ?_
 refine zJ (Qa rfl YC) ?_
 refine zJ (Qg rfl ZC (fun hg=>by exact ziY (BxI.cells (vs:=KY q) h3)) rfl) ?_
 refine zJ (zj5 rfl rfl WO rfl) ?_
 refine Zg rfl rfl rfl rfl rfl ?_
 refine zM ?_
 refine QK 33 rfl rfl rfl ?_
 refine zJ (Qa rfl ZK) ?_
 refine zJ (Qc rfl Vi (fun hg=>by exact QA.imm h2.out rfl)) ?_
 refine zJ (QU rfl ZF) ?_
 refine zJ (Qa rfl ZK) ?_
 refine zJ (Qc rfl Vi (fun hg=>by exact QA.imm h3.out rfl)) ?_
 refine zJ (QU rfl ZF) ?_
 refine zJ (Qz rfl rfl rfl) ?_
 refine Zg rfl rfl rfl rfl rfl ?_
 refine zN ?_
 refine zI ?_ ?_<;>intro hc47
 ·
  have hcc:smC p q=true:=hc47
  refine zR (zA (zN (Qs (Qf ?_))))
  exact Qy rfl rfl (fun w hw=>⟨by rw [zxz hcc],(hw.mono hIc).subL QC⟩)
 have hcc:smC p q=false:=hc47
 have hnn:=zxH hcc
 refine Qp (Qd (Qo (zR (zA (zN (Qx ?_))))))
 refine zU [(2,_),(3,_)] (fun T L0 mz E I' loc'=>∃ (k:Nat),mz=p.n-k∧E=(5,.int .i64 k)::T∧I2=I'∧L0=loc'∧k≤p.n∧p.needs.take k=q.needs.take k) ?_ (h:=⟨0,rfl,rfl,rfl,rfl,Nat.zero_le _,rfl⟩)
 rintro mz E I' loc' ⟨k,rfl,rfl,rfl,rfl,hk,htk⟩
 refine Qo (zR (zM ?_))
 refine zF ZK ?_
 refine zV (Qc rfl Vi (fun hg=>by exact QA.imm h2.out rfl)) ?_
 refine zQ ZF ?_
 refine zC (zN ?_)
 refine zI ?_ ?_<;>intro hc52
 ·
  have hlt_k:k<p.n:=by have h:=hc52;simp at h;omega
  obtain ⟨x,hx⟩:∃ y,p.needs[k]? =some y:=⟨_,List.getElem?_eq_getElem kB⟩
  obtain ⟨y,hy⟩:∃ y,q.needs[k]? =some y:=⟨_,List.getElem?_eq_getElem kB⟩
  refine Qp (Qd (Qo (Qx (Qo ?_))))
  have hD:=zz4 I2
  refine Zn ?_
  refine QL I2 [] mixed ?_
  refine zT 0 rfl (Qa rfl ZK) hD ?_
  refine zT 1 rfl (Qc rfl Vi (fun hg=>by exact QA.imm h2.out rfl)) hD ?_
  refine zT 2 rfl (Qe rfl) hD ?_
  refine zT 3 rfl (zX ZF hP) hD ?_
  refine zT 4 rfl (Qc rfl Qm (fun hg=>by exact zzX hP hx rfl)) hD ?_
  refine zT 5 rfl (Qa rfl ZK) hD ?_
  refine zT 6 rfl (Qc rfl Vi (fun hg=>by exact QA.imm h3.out rfl)) hD ?_
  refine zT 7 rfl (Qe rfl) hD ?_
  refine zT 8 rfl (zX ZF hQ) hD ?_
  refine zT 9 rfl (Qc rfl Qm (fun hg=>by exact zzX hQ hy rfl)) hD ?_
  refine zT 10 rfl (Qz rfl rfl rfl) hD ?_
  refine Ql kA ?_
  refine Qt ?_
  refine Qd ?_
  refine zI ?_ ?_<;>intro hc65
  ·
   have hxy:x≠y:=by simpa using hc65
   refine zR (zA (zN (Qs (Qk (Qf (Qf (Qk ?_)))))))
   refine Qf ?_
   exact Qy rfl rfl (fun w hw=>⟨by rw [ziM hcc,decide_eq_false (zxy hx hy hxy)],(hw.mono hIc).subL QC⟩)
  have hxy:x=y:=by simpa using hc65
  refine Qp (Qj (Qd (Qi (zM ?_))))
  refine zB ?_
  refine zA (Qb ?_)
  exact zm (h:=⟨p.n-(k+1),kB,k+1,rfl,rfl,rfl,rfl,kB,zae htk hx hy hxy⟩)
 have hge_k:p.n≤k:=by have h:=hc52;simp at h;omega
 rw [ZV hl1 hge_k,ZV hl2 kB] at htk
 refine Q6 (Qn (Qn (Qw (Qd (zR (zA (zN ?_)))))))
 refine Qs ?_
 exact Qy rfl rfl (fun w hw=>⟨by rw [ziM hcc,htk];simp,(hw.mono hIc).subL QC⟩)
theorem zyM {I:Qu}{x y:Nt}(hX:Nd I x.pt)(hY:Nd I y.pt)(hn:x.pt.n≤100000):ZA Tryz.prog 86 [Ke x,Ke y] I (.bool (smN x y)):=by
 intro g H w hw
 refine qe Tryz.func86 Tryz.ntmps86 hw ?_
 have hIc:=zz4 I
 refine zR ?_
 refine QO rfl rfl rfl (fun b_2=>?_)
 refine QO rfl rfl rfl (fun b_3=>?_)
 refine zA (Qb ?_)
 refine QF .here (fun I1 hI1 hb1=>?_)
 have hX:=hX.mono hI1;have hY:=hY.mono hI1;have hIc:=hIc.trans hI1
 have h3:=BxI.of hb1
 refine QF .here (fun I2 hI2 hb2=>?_)
 have hX:=hX.mono hI2;have hY:=hY.mono hI2;have h3:=h3.mono hI2;have hIc:=hIc.trans hI2
 have h2:=BxI.of hb2
 refine Qd (zR ?_)
 refine zF Yg ?_
 refine zV (Qc rfl Qm (fun hg=>by exact QA.imm h2.out rfl)) ?_
 refine zF Yg ?_
 refine zV (Qc rfl Qm (fun hg=>by exact QA.imm h3.out rfl)) ?_
 refine zC ?_
 refine zM ?_
 refine Qq 5 rfl rfl rfl ?_
 refine zK (Qa rfl YD) ?_
 refine zK (Qg rfl V7 (fun hg=>by exact zbw (BxI.cells (vs:=Q4 x) h2)) rfl) ?_
 refine zK (Qa rfl YD) ?_
 refine zK (Qg rfl V7 (fun hg=>by exact zbw (BxI.cells (vs:=Q4 y) h3)) rfl) ?_
 refine zK (Ut rfl rfl zdh rfl) ?_
 refine QB rfl rfl rfl rfl rfl ?_
 refine zM ?_
 refine Qq 12 rfl rfl rfl ?_
 refine zK (Qa rfl ZZ) ?_
 refine zK (Qg rfl Y3 (fun hg=>by exact XG (BxI.cells (vs:=Q4 x) h2)) rfl) ?_
 refine zK (Qa rfl ZZ) ?_
 refine zK (Qg rfl Y3 (fun hg=>by exact XG (BxI.cells (vs:=Q4 y) h3)) rfl) ?_
 refine qg (vs:=[_,_]) rfl zjZ (fun hg=>zxE hX hY hn) ?_
 refine QB rfl rfl rfl rfl rfl ?_
 refine zM ?_
 refine Qq 19 rfl rfl rfl ?_
 refine zK (Qa rfl Y7) ?_
 refine zK (Qg rfl VX (fun hg=>by exact zcc (BxI.cells (vs:=Q4 x) h2)) rfl) ?_
 refine zK (Qa rfl Y7) ?_
 refine zK (Qg rfl VX (fun hg=>by exact zcc (BxI.cells (vs:=Q4 y) h3)) rfl) ?_
 refine zK (Ue rfl rfl ze7 rfl) ?_
 refine QB rfl rfl rfl rfl rfl ?_
 refine zM ?_
 refine Qq 26 rfl rfl rfl ?_
 refine zK (Qa rfl Z0) ?_
 refine zK (Qg rfl Ys (fun hg=>by exact zbs (BxI.cells (vs:=Q4 x) h2)) rfl) ?_
 refine zK (Qa rfl Z0) ?_
 refine zK (Qg rfl Ys (fun hg=>by exact zbs (BxI.cells (vs:=Q4 y) h3)) rfl) ?_
 refine zK (Ue rfl rfl XA rfl) ?_
 refine QB rfl rfl rfl rfl rfl ?_
 refine zA (zN (Qs ?_))
 exact Qy rfl rfl (fun w hw=>⟨by rfl,(hw.mono hIc).subL QC⟩)
theorem zyz {I:Qu}{av bv:Option Addr}{n c n2 c2:Nat}{xs ys:List Nt}(hS:Sl I 45 Q4 av n c xs)(hT:Sl I 45 Q4 bv n2 c2 ys)(hNd:∀ x∈xs,Nd I x.pt)(hNe:∀ y∈ys,Nd I y.pt)(hsm:∀ x∈xs,x.pt.n≤100000)(hn:n≤100000):ZA Tryz.prog 31 [.slice av n c,.slice bv n2 c2] I (.bool (smL xs ys)):=by
 intro g H w hw
 refine qe Tryz.func31 Tryz.ntmps31 hw ?_
 have hl1:=hS.len
 have hl2:=hT.len
 refine zR (zA (zN (Qo (zR ?_))))
 refine zM ?_
 refine zQ Q8 ?_
 refine zM ?_
 refine zQ Q8 ?_
 refine zC (zN ?_)
 refine zI ?_ ?_<;>intro hc10
 ·
  refine zR (zA (zN (Qs (Qf ?_))))
  exact Qy rfl rfl (fun w hw=>⟨by rw [zmL (by simp at hc10;omega)],hw⟩)
 have h10:n=n2:=by have h:=hc10;simp at h;omega
 refine Qp (Qd (Qo (zR (zA (zN (Qx ?_))))))
 refine zU [(0,_),(1,_)] (fun T L0 mz E I' loc'=>∃ (k:Nat),mz=n-k∧E=(5,.int .i64 k)::T∧I=I'∧L0=loc'∧k≤n∧(∀ (j:Nat) (u v:Nt),j<k→xs[j]? =some u→ys[j]? =some v→smN u v=true)) ?_ (h:=⟨0,rfl,rfl,rfl,rfl,Nat.zero_le _,fun j u v h=>absurd h (Nat.not_lt_zero _)⟩)
 rintro mz E I' loc' ⟨k,rfl,rfl,rfl,rfl,hk,hall⟩
 refine Qo (zR (zM ?_))
 refine zM ?_
 refine zQ Q8 ?_
 refine zC (zN ?_)
 refine zI ?_ ?_<;>intro hc14
 ·
  have hlt_k:k<n:=by have h:=hc14;simp at h;omega
  obtain ⟨x,hx⟩:∃ y,xs[k]? =some y:=⟨_,List.getElem?_eq_getElem kB⟩
  obtain ⟨y,hy⟩:∃ y,ys[k]? =some y:=⟨_,List.getElem?_eq_getElem kB⟩
  have hxm:=List.mem_of_getElem? hx
  have hym:=List.mem_of_getElem? hy
  refine Qp (Qd (Qo (Qx (Qo ?_))))
  have hD:=zz4 I
  refine Zn ?_
  refine QL I [] mixed ?_
  refine zT 0 rfl (Qe rfl) hD ?_
  refine zT 1 rfl (Qe rfl) hD ?_
  refine zT 2 rfl (zX Q8 hS) hD ?_
  refine zT 3 rfl (Qg rfl Q7 (fun hg=>by exact zz5 hS hx) rfl) hD ?_
  refine zT 4 rfl (Qe rfl) hD ?_
  refine zT 5 rfl (Qe rfl) hD ?_
  refine zT 6 rfl (zX Q8 hT) hD ?_
  refine zT 7 rfl (Qg rfl Q7 (fun hg=>by exact zz5 hT hy) rfl) hD ?_
  refine qd 8 rfl ?_
  refine qcV (vs:=[_,_]) rfl zvN (zyM (hNd x hxm) (hNe y hym) (hsm x hxm)) ?_
  refine Qb ?_
  refine zD hD ?_
  refine zT 9 rfl (Zs rfl) hD ?_
  refine Ql kA ?_
  refine Qt ?_
  refine Qd ?_
  refine zI ?_ ?_<;>intro hc26
  ·
   refine zR (zA (zN (Qs (Qk (Qf (Qf (Qk ?_)))))))
   refine Qf ?_
   exact Qy rfl rfl (fun w hw=>⟨by rw [zqi hx hy (by simpa using hc26)],hw⟩)
  have hxy:smN x y=true:=by simpa using hc26
  refine Qp (Qj (Qd (Qi (zM ?_))))
  refine zB ?_
  refine zA (Qb ?_)
  exact zm (h:=⟨n-(k+1),kB,k+1,rfl,rfl,rfl,rfl,kB,znf hx hy hall hxy⟩)
 have hge_k:n≤k:=by have h:=hc14;simp at h;omega
 refine Q6 (Qn (Qn (Qw (Qd (zR (zA (zN ?_)))))))
 refine Qs ?_
 exact Qy rfl rfl (fun w hw=>⟨by rw [zjQ kB (fun j u v hj hu hv=>hall j u v kB hu hv)],hw⟩)
end
section
open Go Go.Kn Go.Proofs
theorem zvs {n:Int}(hn: -9223372036854775808≤n∧n≤9223372036854775807)(h:n≥0):IntKind.u64.wrap (2*IntKind.u64.wrap n)=((zz n:Nat):Int):=by
 rw [Yh (n:=n) ⟨kB,kB⟩,Yh ⟨kB,kB⟩]
 unfold zz
 rw [if_pos h];omega
theorem zwi {n:Int}(hn: -9223372036854775808≤n∧n≤9223372036854775807)(h:¬n≥0):IntKind.u64.wrap (IntKind.u64.wrap (2*IntKind.u64.wrap (IntKind.i64.wrap (-(IntKind.i64.wrap (n+1)))))+1)=((zz n:Nat):Int):=by
 rw [Vl (n:=n+1) ⟨kB,kB⟩,Vl ⟨kB,kB⟩,Yh (n:= -(n+1)) ⟨kB,kB⟩,Yh (n:=2* -(n+1)) ⟨kB,kB⟩,Yh ⟨kB,kB⟩]
 unfold zz
 rw [if_neg h];omega
theorem zzw (u:Nat):(u:Int).tmod 128=((u % 128:Nat):Int):=rfl
theorem zzm (u:Nat):(u:Int).tdiv 128=((u / 128:Nat):Int):=rfl
theorem zwP (u:Nat):IntKind.u8.wrap (IntKind.u64.wrap ((u:Int).tmod 128+128))=((u % 128+128:Nat):Int):=by
 rw [zzw,Yh ⟨kB,kB⟩,zbg ⟨kB,kB⟩]
 omega
theorem zwg {u:Nat}(hu:u<2^64):IntKind.u64.wrap ((u:Int).tdiv 128)=((u / 128:Nat):Int):=by
 rw [zzm,Yh ⟨kB,kB⟩]
def YQ (bs:List Nat)(v:Value)(I':Qu)(L':Go.Kn.Loc):Prop:=L'=[]∧∃ a c,v= .slice a bs.length c∧Sl I' 1 Jf a bs.length c bs
theorem zcy {I:Qu}{a:Option Addr}{n c:Nat}{bs bs':List Nat}(h:Sl I 1 Jf a n c bs')(e:bs=bs'):YQ bs (.slice a n c) I []:=by
 subst e
 have:=h.len
 subst this
 exact ⟨rfl,a,c,rfl,h⟩
theorem zjl {e b:Nat}(x:Nat):ZW e 1 (.slice (some ⟨b,0,none⟩) 1 1) 1 (([x]:List Nat).flatMap Jf) [(b,.cells (Jf x).toArray e (0,0))]:=
 ⟨rfl,.inr ⟨b,1,_,rfl,rfl,Nat.le_refl _,by decide,rfl,rfl⟩⟩
theorem zij (l:List Va)(k:Nat):Va.depthL (l.take k)≤Va.depthL l:=by
 conv=>rhs;rw [←List.take_append_drop k l]
 rw [X6];omega
theorem za4 {l:List Va}{k:Nat}{x:Va}(hx:l[k]? =some x):Va.encL (l.take (k+1))=Va.encL (l.take k)++Va.enc x:=by
 have h:l.take (k+1)=l.take k++[x]:=by
  obtain ⟨h1,h2⟩:=List.getElem?_eq_some_iff.1 hx
  rw [List.take_add_one,List.getElem?_eq_getElem h1,h2];rfl
 rw [h,Va.encL_append]
 simp [Va.encL]
theorem zjw (xs:List Int):(xs.flatMap Z5).length=xs.length:=by rw [YO YJ,Nat.mul_one]
theorem zzv {e b:Nat}(xs:List Int){n:Nat}{cs:List Value}(hn:xs.length=n)(hc:cs=xs.flatMap Z5)(hm:n≤maxLen):ZW e 1 (.slice (some ⟨b,0,none⟩) n n) n (xs.flatMap Z5) [(b,.cells cs.toArray e (0,0))]:=by
 subst hn;subst hc
 have h:=zjw xs
 exact ⟨by rw [h,Nat.mul_one],.inr ⟨b,_,_,rfl,rfl,Nat.le_refl _,hm,by rw [List.size_toArray,h,Nat.mul_one],by
  show (xs.flatMap Z5).take _=_
  rw [Nat.mul_one,←h,List.take_length]⟩⟩
end
section
open Go Go.Kn Go.Proofs
theorem zbO:Fun Tryz.prog 220:=.of Tryz.func220 kA kA
theorem zwF (I:Qu){n:Int}(hn: -9223372036854775808≤n∧n≤9223372036854775807):ZA Tryz.prog 221 [.int .i64 n] I (.int .u64 (zz n)):=by
 intro g H w hw
 refine qe Tryz.func221 Tryz.ntmps221 hw ?_
 refine zR (zA (zN (Qo (zR ?_))))
 refine zM ?_
 refine zC (zN ?_)
 refine zI ?_ ?_<;>intro hc4
 ·
  have h4:n≥0:=by simpa using hc4
  refine zR (zM ?_)
  refine zV (Z4 rfl V6) ?_
  refine zV (WZ rfl rfl rfl) ?_
  refine zA (zN (Qs (Qf ?_)))
  exact Qy rfl rfl (fun w hw=>⟨by rw [←zvs hn h4],hw⟩)
 have h4:¬n≥0:=by simpa using hc4
 refine Qp (Qd (zR (zM ?_)))
 refine zV (WZ rfl rfl rfl) ?_
 refine zV (zky rfl) ?_
 refine zV (Z4 rfl V6) ?_
 refine zV (WZ rfl rfl rfl) ?_
 refine zV (WZ rfl rfl rfl) ?_
 refine zA (zN (Qs ?_))
 exact Qy rfl rfl (fun w hw=>⟨by rw [←zwi hn h4,Int.zero_sub],hw⟩)
theorem zfF {I:Qu}{u:Nat}(hu:u<2^64)(ih:(∀ u',u'<u→∀ I,Vs Tryz.prog 220 [.int .u64 (u':Nat)] I [] (YQ (JU u')))):Vs Tryz.prog 220 [.int .u64 (u:Nat)] I [] (YQ (JU u)):=by
 intro g H w hw
 refine qe Tryz.func220 Tryz.ntmps220 hw ?_
 have hIc:=zz4 I
 have h10:=Uw hu
 have h10b:=Uw (u:=u / 128) kB
 refine zR (zA (zN (Qo (zR ?_))))
 refine zM ?_
 refine zC (zN ?_)
 refine zI ?_ ?_<;>intro hc4
 ·
  have hlt:u<128:=by have h:=hc4;simp at h;omega
  refine zR (zM ?_)
  refine zV (Kg (Z4 rfl Xp) (congrArg (Value.int .u8) (zbg (n:=(u:Int)) ⟨kB,kB⟩))) ?_
  refine zpb [(0,_)] [Jf u] Ve (fun b_7=>?_)
  refine zA (Qb ?_)
  refine QF .here (fun I1 hI1 hb1=>?_)
  have hIc:=hIc.trans hI1
  have hZ:=Sl.lit (enc:=Jf) [u] rfl Y4 hb1
  refine Qd (Qs (Qf ?_))
  exact Qy rfl rfl (fun w hw=>⟨_,I1,[],rfl,hIc,by exact hw,zcy hZ (by rw [Vj hlt])⟩)
 have hge:¬u<128:=by have h:=hc4;simp at h;omega
 refine Qp (Qd (zR (zM ?_)))
 refine zV (Yb rfl rfl (fun hg=>by decide)) ?_
 refine zV (WZ rfl rfl rfl) ?_
 refine zV (Kg (Z4 rfl Xp) (congrArg (Value.int .u8) (zwP u))) ?_
 refine zpb [(0,_)] [Jf (u % 128+128)] Ve (fun b_12=>?_)
 refine zM ?_
 refine zV (Kg (zwD rfl rfl (fun hg=>by decide)) (congrArg (Value.int .u64) (zwg hu))) ?_
 refine zpc [_] rfl zbO .nil (ih (u / 128) kB _) ?_
 rintro vv2 I2 L2 hI2 ⟨rfl,a9,c9,rfl,hS9⟩
 have hIc:=hIc.trans hI2
 refine zpa (_) ((JU (u / 128):List Nat).flatMap Jf) ([(b_12,_)]) rfl rfl Ve (zjl (u % 128+128)) (hS9.src Y4) (zcm _) ?_
 intro v9 L9 hO9 _;rw [←List.flatMap_append] at hO9
 refine zA (Qb ?_)
 refine zx4 hO9 Y4 (fun I3 hI3 af3 cf3 ef3 hZ=>?_)
 subst ef3
 have hIc:=hIc.trans hI3
 refine Qd (Qs ?_)
 exact Qy rfl rfl (fun w hw=>⟨_,I3,[],rfl,hIc,by exact hw,zcy hZ (by rw [XK hge];rfl)⟩)
end
section
open Go Go.Kn Go.Proofs
theorem zmh:Fun Tryz.prog 218:=.of Tryz.func218 kA kA
theorem zmM:Fun Tryz.prog 219:=.of Tryz.func219 kA kA
theorem zia (u:Nat):u<2^64→∀ I,Vs Tryz.prog 220 [.int .u64 (u:Nat)] I [] (YQ (JU u)):=by
 induction u using Nat.strongRecOn with
 | _ u ih=>intro hu I;exact zfF hu fun u' h=>ih u' h kB
theorem zgN (I:Qu)(n:Int):ZA Tryz.prog 103 [.int .i64 n] I (.agg (Za (vcI n)).toArray):=by
 intro g H w hw
 refine qe Tryz.func103 Tryz.ntmps103 hw ?_
 refine zR ?_
 refine Qr YR rfl rfl (fun b_2=>?_)
 refine zN (zR ?_)
 refine zM ?_
 refine zV (QI (ps:=[(0,_),(1,_)]) [_,_,_,_] KV rfl rfl) ?_
 refine zh ZD ?_
 refine zN (Qs ?_)
 exact ZX rfl rfl Zq zz2 rfl (fun w hw=>⟨by rfl,hw.drop⟩)
theorem zbA (I:Qu)(s:ByteArray):ZA Tryz.prog 104 [.string s] I (.agg (Za (vcT s)).toArray):=by
 intro g H w hw
 refine qe Tryz.func104 Tryz.ntmps104 hw ?_
 refine zR ?_
 refine Qr YR rfl rfl (fun b_2=>?_)
 refine zN (zR ?_)
 refine zM ?_
 refine zV (QI (ps:=[(0,_),(2,_)]) [_,_,_,_] KV rfl rfl) ?_
 refine zh ZD ?_
 refine zN (Qs ?_)
 exact ZX rfl rfl Zq zz2 rfl (fun w hw=>⟨by rfl,hw.drop⟩)
def zuM (x:Va):Prop:=∀ {I:Qu} {cv:Vc} (_hx:VaR I x cv) (_hb:(Va.enc x).length≤900000),ZA Tryz.prog 218 [.agg (Za cv).toArray] I (.bool true)
def zxN (x:Va):Prop:=∀ {I:Qu} {cv:Vc} (_hx:VaR I x cv) (_hd:Va.depth x≤1000) (_hb:(Va.enc x).length≤900000),ZA Tryz.prog 219 [.agg (Za cv).toArray] I (.int .i64 (Va.depth x:Nat))
theorem zep (I:Qu)(n:Int):ZA Tryz.prog 218 [.agg #[.int .i64 1,.int .i64 n,.string ⟨#[]⟩,.slice none 0 0]] I (.bool true):=by
 intro g H w hw
 refine qe Tryz.func218 Tryz.ntmps218 hw ?_
 have hIc:=zz4 I
 refine zR ?_
 refine QO rfl rfl rfl (fun b_1=>?_)
 refine zA (Qb ?_)
 refine QF .here (fun I1 hI1 hb1=>?_)
 have hIc:=hIc.trans hI1
 have h1:=BxI.of hb1
 refine Qd (Qo (zR ?_))
 refine zF Ze ?_
 refine zV (Qc rfl Qm (fun hg=>by exact QA.imm h1.out rfl)) ?_
 refine zN (Qx (zR (zC ?_)))
 refine zA (zN ?_)
 refine zI ?_ ?_<;>intro hc6
 ·
  refine zR ?_
  refine zF Yy ?_
  refine zV (Qc rfl VS (fun hg=>by exact QA.imm h1.out rfl)) ?_
  refine zV (Ky rfl rfl rfl) ?_
  refine zM ?_
  refine Qq 3 rfl rfl rfl ?_
  refine zK (Qa rfl QV) ?_
  refine zK (Qc rfl Zr (fun hg=>by exact QA.imm h1.out rfl)) ?_
  refine zK (QU rfl Z9) ?_
  refine zK (Qz rfl rfl rfl) ?_
  refine QB rfl rfl rfl rfl rfl ?_
  refine zA (zN (Qs (Qk (Qf ?_))))
  exact Qy rfl rfl (fun w hw=>⟨by simp [KB],(hw.mono hIc).subL QC⟩)
 simp at hc6
theorem zcO (I:Qu)(s:ByteArray):ZA Tryz.prog 218 [.agg #[.int .i64 2,.int .i64 0,.string s,.slice none 0 0]] I (.bool true):=by
 intro g H w hw
 refine qe Tryz.func218 Tryz.ntmps218 hw ?_
 have hIc:=zz4 I
 refine zR ?_
 refine QO rfl rfl rfl (fun b_1=>?_)
 refine zA (Qb ?_)
 refine QF .here (fun I1 hI1 hb1=>?_)
 have hIc:=hIc.trans hI1
 have h1:=BxI.of hb1
 refine Qd (Qo (zR ?_))
 refine zF Ze ?_
 refine zV (Qc rfl Qm (fun hg=>by exact QA.imm h1.out rfl)) ?_
 refine zN (Qx (zR (zC ?_)))
 refine zA (zN ?_)
 refine zI ?_ ?_<;>intro hc6
 ·
  simp at hc6
 refine zR (zC ?_)
 refine zA (zN ?_)
 refine zI ?_ ?_<;>intro hc17
 ·
  refine zR ?_
  refine zF YX ?_
  refine zV (Qc rfl Qm (fun hg=>by exact QA.imm h1.out rfl)) ?_
  refine zC ?_
  refine zM ?_
  refine Qq 3 rfl rfl rfl ?_
  refine zK (Qa rfl QV) ?_
  refine zK (Qc rfl Zr (fun hg=>by exact QA.imm h1.out rfl)) ?_
  refine zK (QU rfl Z9) ?_
  refine zK (Qz rfl rfl rfl) ?_
  refine QB rfl rfl rfl rfl rfl ?_
  refine zA (zN (Qs (Qk (Qf ?_))))
  exact Qy rfl rfl (fun w hw=>⟨by rfl,(hw.mono hIc).subL QC⟩)
 simp at hc17
theorem ziy {I:Qu}{l:List Va}{hs:List Vc}{a:Option Addr}{m c:Nat}(hS:Sl I 4 Za a m c hs)(hl:l.length=hs.length)(hr:∀ (k:Nat) (x:Va) (y:Vc),l[k]? =some x→hs[k]? =some y→VaR I x y)(hm:m≤1000000)(ih:∀ (k:Nat) (x:Va),l[k]? =some x→zuM x)(hb:(Va.encL l).length≤900000):ZA Tryz.prog 218 [.agg #[.int .i64 3,.int .i64 0,.string ⟨#[]⟩,.slice a m c]] I (.bool true):=by
 intro g H w hw
 refine qe Tryz.func218 Tryz.ntmps218 hw ?_
 have hIc:=zz4 I
 have hml:=hS.len
 refine zR ?_
 refine QO rfl rfl rfl (fun b_1=>?_)
 refine zA (Qb ?_)
 refine QF .here (fun I1 hI1 hb1=>?_)
 have hS:=hS.mono hI1;have hIc:=hIc.trans hI1
 have h1:=BxI.of hb1
 refine Qd (Qo (zR ?_))
 refine zF Ze ?_
 refine zV (Qc rfl Qm (fun hg=>by exact QA.imm h1.out rfl)) ?_
 refine zN (Qx (zR (zC ?_)))
 refine zA (zN ?_)
 refine zI ?_ ?_<;>intro hc6
 ·
  simp at hc6
 refine zR (zC ?_)
 refine zA (zN ?_)
 refine zI ?_ ?_<;>intro hc17
 ·
  simp at hc17
 refine zR (zC ?_)
 refine zA (zN ?_)
 refine zI ?_ ?_<;>intro hc28
 ·
  refine Qo (zR (zA (zN (Qx ?_))))
  refine zU [(1,_)] (fun T L0 mz E I' loc'=>∃ (k:Nat),mz=m-k∧E=(3,.int .i64 k)::T∧I1=I'∧L0=loc'∧k≤m) ?_ (h:=⟨0,rfl,rfl,rfl,rfl,Nat.zero_le _⟩)
  rintro mz E I' loc' ⟨k,rfl,rfl,rfl,rfl,hk⟩
  refine Qo (zR (zM ?_))
  refine zF QV ?_
  refine zV (Qc rfl Zr (fun hg=>by exact QA.imm h1.out rfl)) ?_
  refine zQ Z9 ?_
  refine zC (zN ?_)
  refine zI ?_ ?_<;>intro hc34
  ·
   have hlt_k:k<m:=by have h:=hc34;simp at h;omega
   obtain ⟨cv,hy⟩:∃ y,hs[k]? =some y:=⟨_,List.getElem?_eq_getElem kB⟩
   obtain ⟨x,hlx⟩:∃ y,l[k]? =some y:=⟨_,List.getElem?_eq_getElem kB⟩
   have hxy:=(hr k x cv hlx hy).mono hIc
   have hle:=zdi (l:=l) (k+1)
   rw [za4 hlx,List.length_append] at hle
   refine Qp (Qd (Qo (Qx (zR ?_))))
   refine zF QV ?_
   refine zV (Qc rfl Zr (fun hg=>by exact QA.imm h1.out rfl)) ?_
   refine zM ?_
   refine zV (zX Z9 hS) ?_
   refine zV (Qg rfl Zq (fun hg=>by exact zz5 hS hy) rfl) ?_
   refine qcV (vs:=[_]) rfl zmh (ih k x hlx hxy kB) ?_
   refine zO (zN ?_)
   refine zI ?_ ?_<;>intro hc43
   ·
    cases hc43
   refine Qp (Qj (Qd (Qi (zM ?_))))
   refine zB ?_
   refine zA (Qb ?_)
   exact zm (h:=⟨m-(k+1),kB,k+1,rfl,rfl,rfl,rfl,kB⟩)
  have hge_k:m≤k:=by have h:=hc34;simp at h;omega
  refine Q6 (Qn (Qn (Qw (Qd (zR ?_)))))
  refine zF YX ?_
  refine zV (Qc rfl Qm (fun hg=>by exact QA.imm h1.out rfl)) ?_
  refine zC ?_
  refine zM ?_
  refine Qq 3 rfl rfl rfl ?_
  refine zK (Qa rfl Yy) ?_
  refine zK (Qc rfl VS (fun hg=>by exact QA.imm h1.out rfl)) ?_
  refine zK (Ky rfl rfl rfl) ?_
  refine QB rfl rfl rfl rfl rfl ?_
  refine zA (zN (Qs (Qk (Qf ?_))))
  exact Qy rfl rfl (fun w hw=>⟨by simp [KB],(hw.mono hIc).subL QC⟩)
 simp at hc28
theorem zfl (I:Qu)(n:Int):ZA Tryz.prog 219 [.agg #[.int .i64 1,.int .i64 n,.string ⟨#[]⟩,.slice none 0 0]] I (.int .i64 0):=by
 intro g H w hw
 refine qe Tryz.func219 Tryz.ntmps219 hw ?_
 have hIc:=zz4 I
 refine zR ?_
 refine QO rfl rfl rfl (fun b_1=>?_)
 refine zA (Qb ?_)
 refine QF .here (fun I1 hI1 hb1=>?_)
 have hIc:=hIc.trans hI1
 have h1:=BxI.of hb1
 refine Qd (Qo (zR ?_))
 refine zF Ze ?_
 refine zV (Qc rfl Qm (fun hg=>by exact QA.imm h1.out rfl)) ?_
 refine zC (zN ?_)
 refine zI ?_ ?_<;>intro hc7
 ·
  refine zR (zA (zN (Qs (Qf ?_))))
  exact Qy rfl rfl (fun w hw=>⟨by rfl,(hw.mono hIc).subL QC⟩)
 simp at hc7
theorem zc4 (I:Qu)(s:ByteArray):ZA Tryz.prog 219 [.agg #[.int .i64 2,.int .i64 0,.string s,.slice none 0 0]] I (.int .i64 0):=by
 intro g H w hw
 refine qe Tryz.func219 Tryz.ntmps219 hw ?_
 have hIc:=zz4 I
 refine zR ?_
 refine QO rfl rfl rfl (fun b_1=>?_)
 refine zA (Qb ?_)
 refine QF .here (fun I1 hI1 hb1=>?_)
 have hIc:=hIc.trans hI1
 have h1:=BxI.of hb1
 refine Qd (Qo (zR ?_))
 refine zF Ze ?_
 refine zV (Qc rfl Qm (fun hg=>by exact QA.imm h1.out rfl)) ?_
 refine zC (zN ?_)
 refine zI ?_ ?_<;>intro hc7
 ·
  refine zR (zA (zN (Qs (Qf ?_))))
  exact Qy rfl rfl (fun w hw=>⟨by rfl,(hw.mono hIc).subL QC⟩)
 simp at hc7
theorem ziT {I:Qu}{l:List Va}{hs:List Vc}{a:Option Addr}{m c:Nat}(hS:Sl I 4 Za a m c hs)(hl:l.length=hs.length)(hr:∀ (k:Nat) (x:Va) (y:Vc),l[k]? =some x→hs[k]? =some y→VaR I x y)(hm:m≤1000000)(ih:∀ (k:Nat) (x:Va),l[k]? =some x→zxN x)(hd:Va.depthL l≤999)(hb:(Va.encL l).length≤900000):ZA Tryz.prog 219 [.agg #[.int .i64 3,.int .i64 0,.string ⟨#[]⟩,.slice a m c]] I (.int .i64 (Va.depthL l+1:Nat)):=by
 intro g H w hw
 refine qe Tryz.func219 Tryz.ntmps219 hw ?_
 have hIc:=zz4 I
 have hml:=hS.len
 refine zR ?_
 refine QO rfl rfl rfl (fun b_1=>?_)
 refine zA (Qb ?_)
 refine QF .here (fun I1 hI1 hb1=>?_)
 have hS:=hS.mono hI1;have hIc:=hIc.trans hI1
 have h1:=BxI.of hb1
 refine Qd (Qo (zR ?_))
 refine zF Ze ?_
 refine zV (Qc rfl Qm (fun hg=>by exact QA.imm h1.out rfl)) ?_
 refine zC (zN ?_)
 refine zI ?_ ?_<;>intro hc7
 ·
  simp at hc7
 refine Qp (Qd (zR (zA (zN (Qo (zR ?_))))))
 refine zA (zN (Qx ?_))
 refine zU [(1,_)] (fun T L0 mz E I' loc'=>∃ (k:Nat) (dd:Int),mz=m-k∧E=(3,.int .i64 dd)::(4,.int .i64 k)::T∧I1=I'∧L0=loc'∧k≤m∧dd=((Va.depthL (l.take k):Nat):Int)) ?_ (h:=⟨0,0,rfl,rfl,rfl,rfl,Nat.zero_le _,rfl⟩)
 rintro mz E I' loc' ⟨k,dd,rfl,rfl,rfl,rfl,hk,hdd⟩
 refine Qo (zR (zM ?_))
 refine zF QV ?_
 refine zV (Qc rfl Zr (fun hg=>by exact QA.imm h1.out rfl)) ?_
 refine zQ Z9 ?_
 refine zC (zN ?_)
 refine zI ?_ ?_<;>intro hc12
 ·
  have hlt_k:k<m:=by have h:=hc12;simp at h;omega
  obtain ⟨cv,hy⟩:∃ y,hs[k]? =some y:=⟨_,List.getElem?_eq_getElem kB⟩
  obtain ⟨x,hlx⟩:∃ y,l[k]? =some y:=⟨_,List.getElem?_eq_getElem kB⟩
  have hxy:=(hr k x cv hlx hy).mono hIc
  have hle:=zdi (l:=l) (k+1)
  rw [za4 hlx,List.length_append] at hle
  have hdx:=JJ hd hlx
  have hdt:Va.depthL (l.take k)≤999:=Nat.le_trans (zij l k) hd
  refine Qp (Qd (Qo (Qx (Qi (zM ?_)))))
  refine zF QV ?_
  refine zV (Qc rfl Zr (fun hg=>by exact QA.imm h1.out rfl)) ?_
  refine zM ?_
  refine zV (zX Z9 hS) ?_
  refine zV (Qg rfl Zq (fun hg=>by exact zz5 hS hy) rfl) ?_
  refine qcV (vs:=[_]) rfl zmM (ih k x hlx hxy kB kB) ?_
  refine zV (Vp rfl rfl) ?_
  refine zA (Qb (Qj (Qd (Qi ?_))))
  refine zM ?_
  refine zB ?_
  refine zA (Qb ?_)
  exact zm (h:=⟨m-(k+1),kB,k+1,_,rfl,rfl,rfl,rfl,kB,by rw [zbX hlx,hdd];unfold zfg;split<;>omega⟩)
 have hge_k:m≤k:=by have h:=hc12;simp at h;omega
 have hke:l.take k=l:=List.take_of_length_le kB
 rw [hke] at hdd
 refine Q6 (Qn (Qn (Qw (Qd (zR (zM ?_))))))
 refine zB ?_
 refine zA (zN (Qs ?_))
 exact Qy rfl rfl (fun w hw=>⟨by rw [hdd];rfl,(hw.mono hIc).subL QC⟩)
end
section
open Go Go.Kn Go.Proofs
theorem zmx:Fun Tryz.prog 169:=.of Tryz.func169 kA kA
theorem zuc:Fun Tryz.prog 221:=.of Tryz.func221 kA kA
def zvt (x:Va):Prop:=∀ {I:Qu} {cv:Vc} (_hx:VaR I x cv) (_hok:Va.ok x) (_hb:(Va.enc x).length≤900000),Vs Tryz.prog 169 [.agg (Za cv).toArray] I [] (YQ (Va.enc x))
theorem zeb (I:Qu){n:Int}(hn: -9223372036854775808≤n∧n≤9223372036854775807):Vs Tryz.prog 169 [.agg #[.int .i64 1,.int .i64 n,.string ⟨#[]⟩,.slice none 0 0]] I [] (YQ (Va.enc (.int n))):=by
 intro g H w hw
 refine qe Tryz.func169 Tryz.ntmps169 hw ?_
 have hIc:=zz4 I
 have h10:=Uw (zl0 hn)
 refine zR ?_
 refine QO rfl rfl rfl (fun b_1=>?_)
 refine zA (Qb ?_)
 refine QF .here (fun I1 hI1 hb1=>?_)
 have hIc:=hIc.trans hI1
 have h1:=BxI.of hb1
 refine Qd (Qo (zR ?_))
 refine zF Ze ?_
 refine zV (Qc rfl Qm (fun hg=>by exact QA.imm h1.out rfl)) ?_
 refine zN (Qx (zR (zC ?_)))
 refine zA (zN ?_)
 refine zI ?_ ?_<;>intro hc7
 ·
  refine zR ?_
  refine zpb [(0,_)] [Jf 1] Ve (fun b_9=>?_)
  refine zF YX ?_
  refine zV (Qc rfl Qm (fun hg=>by exact QA.imm h1.out rfl)) ?_
  refine qcV (vs:=[_]) rfl zuc (zwF _ hn) ?_
  refine zpc [_] rfl zbO .nil (zia (zz n) (zl0 hn) _) ?_
  rintro vv2 I2 L2 hI2 ⟨rfl,a9,c9,rfl,hS9⟩
  have hIc:=hIc.trans hI2
  refine zpa (_) ((JU (zz n):List Nat).flatMap Jf) ([(b_9,_)]) rfl rfl Ve (zjl 1) (hS9.src Y4) (zcm _) ?_
  intro v9 L9 hO9 _;rw [←List.flatMap_append] at hO9
  refine zA (Qb ?_)
  refine zx4 hO9 Y4 (fun I3 hI3 af3 cf3 ef3 hZ=>?_)
  subst ef3
  have hIc:=hIc.trans hI3
  refine Qd (Qs (Qk (Qf ?_)))
  exact Qy rfl rfl (fun w hw=>⟨_,I3,[],rfl,hIc,by exact hw,zcy hZ (by simp [Va.enc])⟩)
 simp at hc7
theorem zcU (I:Qu)(s:ByteArray)(hs:s.size≤900000):Vs Tryz.prog 169 [.agg #[.int .i64 2,.int .i64 0,.string s,.slice none 0 0]] I [] (YQ (Va.enc (.text (K9 s)))):=by
 intro g H w hw
 refine qe Tryz.func169 Tryz.ntmps169 hw ?_
 have hIc:=zz4 I
 have h10:=Uw (u:=s.size) kB
 refine zR ?_
 refine QO rfl rfl rfl (fun b_1=>?_)
 refine zA (Qb ?_)
 refine QF .here (fun I1 hI1 hb1=>?_)
 have hIc:=hIc.trans hI1
 have h1:=BxI.of hb1
 refine Qd (Qo (zR ?_))
 refine zF Ze ?_
 refine zV (Qc rfl Qm (fun hg=>by exact QA.imm h1.out rfl)) ?_
 refine zN (Qx (zR (zC ?_)))
 refine zA (zN ?_)
 refine zI ?_ ?_<;>intro hc7
 ·
  simp at hc7
 refine zR (zC ?_)
 refine zA (zN ?_)
 refine zI ?_ ?_<;>intro hc15
 ·
  refine Qo ?_
  have hD:=zz4 I1
  refine Zn ?_
  refine QL I1 [] mixed ?_
  refine zT 1 rfl (Qa rfl Yy) hD ?_
  refine zT 2 rfl (Qc rfl VS (fun hg=>by exact QA.imm h1.out rfl)) hD ?_
  refine zT 3 rfl (UQ rfl zwu) hD ?_
  refine zT 4 rfl (Kg (Z4 rfl V6) (congrArg (Value.int .u64) (Yh (n:=(s.size:Int)) ⟨kB,kB⟩))) hD ?_
  refine zT 7 rfl (Qa rfl Yy) hD ?_
  refine zT 8 rfl (Qc rfl VS (fun hg=>by exact QA.imm h1.out rfl)) hD ?_
  refine QS 0 5 rfl rfl kA ?_ ?_
  ·
   refine zpb [(0,_)] [Jf 2] Ve (fun b_17=>?_)
   refine Qb ?_
   refine zD hD ?_
   refine qd 5 rfl ?_
   refine zpc [_] rfl zbO .nil (zia s.size kB _) ?_
   rintro vv2 I2 L2 hI2 ⟨rfl,a9,c9,rfl,hS9⟩
   have hIc:=hIc.trans hI2;have hD:=hD.trans hI2
   refine Qb ?_
   refine zD hD ?_
   refine qd 6 rfl ?_
   refine zpa (_) ((JU s.size:List Nat).flatMap Jf) ([(b_17,_)]) rfl rfl Ve (zjl 2) (hS9.src Y4) (zcm _) ?_
   intro v9 L9 hO9 _;rw [←List.flatMap_append] at hO9
   refine Qb ?_
   refine zD hD ?_
   refine qd 9 rfl ?_
   refine XR rfl rfl Ve zwu hO9 (by repeat (first | exact .cons .here .nil | exact Zk | exact Q0 | apply Q9 | apply Q5)) kB rfl rfl ?_
   intro v11 L11 hO11
   have hO12:ZW 5 1 v11 (1+(JU s.size).length+s.size) ((([2]++JU s.size)++K9 s).flatMap Jf) L11:=by rw [List.flatMap_append];exact hO11
   refine Qb ?_
   refine zD hD ?_
   refine zT 10 rfl (Qv rfl) hD ?_
   refine Ql kA ?_
   refine Qt ?_
   refine zx4 hO12 Y4 (fun I3 hI3 af3 cf3 ef3 hZ=>?_)
   subst ef3
   have hIc:=hIc.trans hI3
   refine Qd (Qs (Qk (Qf ?_)))
   exact Qy rfl rfl (fun w hw=>⟨_,I3,[],rfl,hIc,by exact hw,zcy hZ (by rw [Va.enc,JA];simp)⟩)
  refine zpc [_] rfl zbO .nil (zia s.size kB _) ?_
  rintro vv4 I4 L4 hI4 ⟨rfl,a9,c9,rfl,hS9⟩
  have hIc:=hIc.trans hI4;have hD:=hD.trans hI4
  refine Qb ?_
  refine zD hD ?_
  refine qd 0 rfl ?_
  refine zpb [(0,_)] [Jf 2] Ve (fun b_17=>?_)
  refine Qb ?_
  refine zD hD ?_
  refine qd 6 rfl ?_
  refine zpa (_) ((JU s.size:List Nat).flatMap Jf) ([(b_17,_)]) rfl rfl Ve (zjl 2) (hS9.src Y4) (zcm _) ?_
  intro v9 L9 hO9 _;rw [←List.flatMap_append] at hO9
  refine Qb ?_
  refine zD hD ?_
  refine qd 9 rfl ?_
  refine XR rfl rfl Ve zwu hO9 (by repeat (first | exact .cons .here .nil | exact Zk | exact Q0 | apply Q9 | apply Q5)) kB rfl rfl ?_
  intro v11 L11 hO11
  have hO12:ZW 5 1 v11 (1+(JU s.size).length+s.size) ((([2]++JU s.size)++K9 s).flatMap Jf) L11:=by rw [List.flatMap_append];exact hO11
  refine Qb ?_
  refine zD hD ?_
  refine zT 10 rfl (Qv rfl) hD ?_
  refine Ql kA ?_
  refine Qt ?_
  refine zx4 hO12 Y4 (fun I5 hI5 af5 cf5 ef5 hZ=>?_)
  subst ef5
  have hIc:=hIc.trans hI5
  refine Qd (Qs (Qk (Qf ?_)))
  exact Qy rfl rfl (fun w hw=>⟨_,I5,[],rfl,hIc,by exact hw,zcy hZ (by rw [Va.enc,JA];simp)⟩)
 simp at hc15
theorem zio {I:Qu}{l:List Va}{hs:List Vc}{a:Option Addr}{m c:Nat}(hS:Sl I 4 Za a m c hs)(hl:l.length=hs.length)(hr:∀ (k:Nat) (x:Va) (y:Vc),l[k]? =some x→hs[k]? =some y→VaR I x y)(hm:m≤1000000)(ih:∀ (k:Nat) (x:Va),l[k]? =some x→zvt x)(hok:Va.okL l)(hb:(Va.enc (.list l)).length≤900000):Vs Tryz.prog 169 [.agg #[.int .i64 3,.int .i64 0,.string ⟨#[]⟩,.slice a m c]] I [] (YQ (Va.enc (.list l))):=by
 intro g H w hw
 refine qe Tryz.func169 Tryz.ntmps169 hw ?_
 have hIc:=zz4 I
 have hml:=hS.len
 have hel:(Va.enc (.list l)).length=(JU l.length).length+(Va.encL l).length+1:=by simp [Va.enc]
 have h10:=Uw (u:=l.length) kB
 refine zR ?_
 refine QO rfl rfl rfl (fun b_1=>?_)
 refine zA (Qb ?_)
 refine QF .here (fun I1 hI1 hb1=>?_)
 have hS:=hS.mono hI1;have hIc:=hIc.trans hI1
 have h1:=BxI.of hb1
 refine Qd (Qo (zR ?_))
 refine zF Ze ?_
 refine zV (Qc rfl Qm (fun hg=>by exact QA.imm h1.out rfl)) ?_
 refine zN (Qx (zR (zC ?_)))
 refine zA (zN ?_)
 refine zI ?_ ?_<;>intro hc7
 ·
  simp at hc7
 refine zR (zC ?_)
 refine zA (zN ?_)
 refine zI ?_ ?_<;>intro hc15
 ·
  simp at hc15
 refine Qp (Qj (Qd (zR ?_)))
 refine zpb [(0,_)] [Jf 3] Ve (fun b_27=>?_)
 refine zF QV ?_
 refine zV (Qc rfl Zr (fun hg=>by exact QA.imm h1.out rfl)) ?_
 refine zQ Z9 ?_
 refine zV (Kg (Z4 rfl V6) (congrArg (Value.int .u64) ((Yh (n:=(m:Int)) ⟨kB,kB⟩).trans (show (m:Int)=(l.length:Int) by omega)))) ?_
 refine zpc [_] rfl zbO .nil (zia l.length kB _) ?_
 rintro vv2 I2 L2 hI2 ⟨rfl,a9,c9,rfl,hS9⟩
 have hS:=hS.mono hI2;have h1:=h1.mono hI2;have hIc:=hIc.trans hI2
 refine zpa (_) ((JU l.length:List Nat).flatMap Jf) ([(b_27,_)]) rfl rfl Ve (zjl 3) (hS9.src Y4) (zcm _) ?_
 intro v9 L9 hO9 _;rw [←List.flatMap_append] at hO9
 refine zA (zN (Qo (zR ?_)))
 refine zA (zN (Qx ?_))
 refine zU [(1,_)] (fun T L0 mz E I' loc'=>∃ (k:Nat) (v:Value) (Lw:Go.Kn.Loc),mz=m-k∧E=(3,v)::(4,.int .i64 k)::T∧HLe I2 I'∧Lw=loc'∧k≤m∧Xc 5 v (3::(JU l.length++Va.encL (l.take k))) Lw) ?_ (h:=⟨0,_,_,rfl,rfl,zz4 _,rfl,Nat.zero_le _,by rw [List.append_nil,List.take_zero,show (3::(JU l.length++Va.encL []):List Nat)=[3]++JU l.length by simp [Va.encL]];exact Xc.app (xs:=[3]) (by rw [List.length_singleton];exact hO9)⟩)
 rintro mz E J3 loc' ⟨k,v,Lw,rfl,rfl,hJ,rfl,hk,hO⟩
 have hS:=hS.mono hJ;have h1:=h1.mono hJ;have hIc:=hIc.trans hJ
 have hB1:=hJ
 refine Qo (zR (zM ?_))
 refine zF QV ?_
 refine zV (Qc rfl Zr (fun hg=>by exact QA.imm h1.out rfl)) ?_
 refine zQ Z9 ?_
 refine zC (zN ?_)
 refine zI ?_ ?_<;>intro hc38
 ·
  have hlt_k:k<m:=by have h:=hc38;simp at h;omega
  obtain ⟨cv,hy⟩:∃ y,hs[k]? =some y:=⟨_,List.getElem?_eq_getElem kB⟩
  obtain ⟨x,hlx⟩:∃ y,l[k]? =some y:=⟨_,List.getElem?_eq_getElem kB⟩
  have hxy:=(hr k x cv hlx hy).mono hIc
  have hokx:=zeB hok hlx
  have hle:=zdi (l:=l) (k+1)
  rw [za4 hlx,List.length_append] at hle
  have hxl:((3::(JU l.length++Va.encL (l.take k))):List Nat).length=(JU l.length).length+(Va.encL (l.take k)).length+1:=by simp
  refine Qp (Qd (Qo (Qx (Qi (zM ?_)))))
  refine zF QV ?_
  refine zV (Qc rfl Zr (fun hg=>by exact QA.imm h1.out rfl)) ?_
  refine zM ?_
  refine zV (zX Z9 hS) ?_
  refine zV (Qg rfl Zq (fun hg=>by exact zz5 hS hy) rfl) ?_
  refine zpc [_] rfl zmx .nil (ih k x hlx hxy hokx kB) ?_
  rintro vv4 I4 L4 hI4 ⟨rfl,a8,c8,rfl,hS8⟩
  have hB1:=hB1.trans hI4
  refine zpa (_) ((Va.enc x).flatMap Jf) (Lw) rfl rfl Ve hO (hS8.src Y4) (zcm _) ?_
  intro v9 L9 hO9 _;rw [←List.flatMap_append] at hO9
  refine zA (Qb (Qj (Qd (Qi ?_))))
  refine zM ?_
  refine zB ?_
  refine zA (Qb ?_)
  exact zm (h:=⟨m-(k+1),kB,k+1,_,_,rfl,rfl,hB1,rfl,kB,by rw [za4 hlx,←List.append_assoc,←List.cons_append];exact Xc.app hO9⟩)
 have hge_k:m≤k:=by have h:=hc38;simp at h;omega
 have hke:l.take k=l:=List.take_of_length_le kB
 rw [hke] at hO
 refine Q6 (Qn (Qn (Qw (Qd (Qo ?_)))))
 refine zx4 hO Y4 (fun I5 hI5 af5 cf5 ef5 hZ=>?_)
 subst ef5
 have hIc:=hIc.trans hI5
 refine Qi (zM ?_)
 refine zA (zN (Qs ?_))
 exact Qy rfl rfl (fun w hw=>⟨_,I5,[],rfl,hIc,by exact hw,zcy hZ (by simp [Va.enc])⟩)
theorem zka (d:Nat):∀ x,Va.depth x≤d→(∀ {I:Qu} {cv:Vc},VaR I x cv→(Va.enc x).length≤900000→True)→zvt x:=by
 induction d with
 | zero=>
  intro x hd _ I cv hx hok hb
  cases x with
  | int n=>cases hx;exact zeb I hok
  | text s=>cases hx;have h:=zcU I (Wl s) (by rw [UY];simp only [Va.enc,List.length_cons,List.length_append] at hb;omega);rw [V9 hok.1] at h;exact h
  | list l=>simp [Va.depth] at hd
 | succ d ih=>
  intro x hd _ I cv hx hok hb
  cases x with
  | int n=>cases hx;exact zeb I hok
  | text s=>cases hx;have h:=zcU I (Wl s) (by rw [UY];simp only [Va.enc,List.length_cons,List.length_append] at hb;omega);rw [V9 hok.1] at h;exact h
  | list l=>
   cases hx with
   | list hS hl hr=>
    have hle:=Va.encL_len l
    have hml:=hS.len
    exact zio hS hl hr (by simp only [Va.enc,List.length_cons,List.length_append] at hb;dsimp only;omega) (fun k y hy=>ih y (JJ (l:=l) (by simp only [Va.depth] at hd;omega) hy) (fun _ _=>trivial)) hok.2 hb
end
section
open Go Go.Kn Go.Proofs
theorem zrp:Fun Tryz.prog 168:=.of Tryz.func168 kA kA
theorem zmn (d:Nat):∀ x,Va.depth x≤d→zuM x:=by
 induction d with
 | zero=>
  intro x hd I cv hx hb
  cases x with
  | int n=>cases hx;exact zep _ n
  | text s=>cases hx;exact zcO _ _
  | list l=>simp [Va.depth] at hd
 | succ d ih=>
  intro x hd I cv hx hb
  cases x with
  | int n=>cases hx;exact zep _ n
  | text s=>cases hx;exact zcO _ _
  | list l=>
   cases hx with
   | list hS hl hr=>
    have hle:=Va.encL_len l
    have hml:=hS.len
    have hb2:(Va.encL l).length≤900000:=by simp only [Va.enc,List.length_cons,List.length_append] at hb;omega
    exact ziy hS hl hr (by dsimp only;omega) (fun k y hy=>ih y (JJ (l:=l) (by simp only [Va.depth] at hd;omega) hy)) hb2
theorem zm0 (d:Nat):∀ x,Va.depth x≤d→zxN x:=by
 induction d with
 | zero=>
  intro x hd I cv hx h1 hb
  cases x with
  | int n=>cases hx;exact zfl _ n
  | text s=>cases hx;exact zc4 _ _
  | list l=>simp [Va.depth] at hd
 | succ d ih=>
  intro x hd I cv hx h1 hb
  cases x with
  | int n=>cases hx;exact zfl _ n
  | text s=>cases hx;exact zc4 _ _
  | list l=>
   cases hx with
   | list hS hl hr=>
    have hle:=Va.encL_len l
    have hml:=hS.len
    have hb2:(Va.encL l).length≤900000:=by simp only [Va.enc,List.length_cons,List.length_append] at hb;omega
    exact ziT hS hl hr (by dsimp only;omega) (fun k y hy=>ih y (JJ (l:=l) (by simp only [Va.depth] at hd;omega) hy)) (by simp only [Va.depth] at h1;omega) hb2
theorem zo0 {I:Qu}{x:Va}{cv:Vc}(hx:VaR I x cv)(hd:Va.depth x≤16)(hok:Va.ok x)(hb:(Va.enc x).length≤900000):ZA Tryz.prog 168 [.agg (Za cv).toArray] I (.int .i64 0):=by
 intro g H w hw
 refine qe Tryz.func168 Tryz.ntmps168 hw ?_
 have hIc:=zz4 I
 refine zR ?_
 refine QO rfl rfl rfl (fun b_1=>?_)
 refine zA (Qb ?_)
 refine QF .here (fun I1 hI1 hb1=>?_)
 have hx:=hx.mono hI1;have hIc:=hIc.trans hI1
 have h1:=BxI.of hb1
 refine Qd (Qo (zR ?_))
 refine zV (Qg rfl Zq (fun hg=>by exact BxI.cells (vs:=Za cv) h1) rfl) ?_
 refine qcV (vs:=[_]) rfl zmh (zmn _ x (Nat.le_refl _) hx hb) ?_
 refine zO (zN ?_)
 refine zI ?_ ?_<;>intro hc5
 ·
  simp at hc5
 refine Qp (Qd (Qo (zR ?_)))
 refine zV (Qg rfl Zq (fun hg=>by exact BxI.cells (vs:=Za cv) h1) rfl) ?_
 refine qcV (vs:=[_]) rfl zmM (zm0 _ x (Nat.le_refl _) hx kB hb) ?_
 refine zC (zN ?_)
 refine zI ?_ ?_<;>intro hc8
 ·
  simp at hc8;omega
 refine Qp (Qd (zR (zA (zN (Qs ?_)))))
 exact Qy rfl rfl (fun w hw=>⟨by rfl,(hw.mono hIc).subL QC⟩)
theorem XJ {I:Qu}{x:Va}{cv:Vc}(hx:VaR I x cv)(hd:Va.depth x≤16)(hok:Va.ok x)(hb:(Va.enc x).length≤900000):Vs Tryz.prog 105 [.agg (Za cv).toArray] I [] (fun v I' L'=>L'=[]∧∃ a c,v= .tuple #[.slice a (Va.enc x).length c,.int .i64 0]∧Sl I' 1 Jf a (Va.enc x).length c (Va.enc x)):=by
 intro g H w hw
 refine qe Tryz.func105 Tryz.ntmps105 hw ?_
 have hIc:=zz4 I
 refine zR ?_
 refine QO rfl rfl rfl (fun b_1=>?_)
 refine zA ?_
 refine zA (Qb ?_)
 refine QF .here (fun I1 hI1 hb1=>?_)
 have hx:=hx.mono hI1;have hIc:=hIc.trans hI1
 have h1:=BxI.of hb1
 refine Qd (zR ?_)
 refine zV (Qg rfl Zq (fun hg=>by exact BxI.cells (vs:=Za cv) h1) rfl) ?_
 refine qcV (vs:=[_]) rfl zrp (zo0 hx hd hok hb) ?_
 refine zA (zN (Qo (zR ?_)))
 refine zM ?_
 refine zC (zN ?_)
 refine zI ?_ ?_<;>intro hc8
 ·
  simp at hc8
 refine Qp (Qd (zR ?_))
 refine zV (Qg rfl Zq (fun hg=>by exact BxI.cells (vs:=Za cv) h1) rfl) ?_
 refine zpc [_] rfl zmx .nil (zka _ x (Nat.le_refl _) (fun _ _=>trivial) hx hok hb) ?_
 rintro vv2 I2 L2 hI2 ⟨rfl,a9,c9,rfl,hS9⟩
 have hIc:=hIc.trans hI2
 refine zA ?_
 refine zA (zN (Qs ?_))
 exact Js rfl rfl rfl (fun w hw=>⟨_,I2,[],rfl,hIc,hw.subL QC,rfl,_,_,rfl,hS9⟩)
end
end Go.Proofs.YtjblkbkmblkgoaaGreat
