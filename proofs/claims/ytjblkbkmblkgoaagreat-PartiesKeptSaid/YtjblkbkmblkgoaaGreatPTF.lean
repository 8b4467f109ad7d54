/- partiesKept_holds, part F of the proof: what its theorems say holds without further conditions. -/
import Derived.Test.YtjblkbkmblkgoaaGreatPTE
namespace Go.Proofs.YtjblkbkmblkgoaaGreat
section
open Go Go.Kn Go.Proofs
theorem zjJ:BsT Tryz.prog 80 5 9:=⟨by kernel_rfl,by kernel_rfl,by kernel_rfl⟩
theorem J5:QL Tryz.prog 47 1 1:=.of (by kernel_rfl)
theorem zc6:QL Tryz.prog 47 4 4:=.of (by kernel_rfl)
theorem zq3:Fun Tryz.prog 111:=.of Tryz.func111 (by kernel_rfl) (by kernel_rfl)
theorem zqD {I:Qt}{bc b2 b3:Nat}{pa qa aa:Option Addr}{pn pc qn qc an ac:Nat}(x:Ev)(h2:BxI I b2 (.cells #[Zw bc] 105 (0,0)))(h3:BxI I b3 (.cells (zel x).toArray 47 (0,0)))(hT:NtM I x.note)(hok9:Va.ok (Kw x.note))(hpn:pn≤100000):zem Tryz.prog 111 [Zw b2,Zw b3] I [(bc,.cells #[.slice pa pn pc,.slice qa qn qc,.slice aa an ac] 108 (0,0))] zwi (Kd pn x.peer x.note):=by
 intro g l J Jx hJm hY I0 H w h0 hJ hb hw
 have hbc:=hb _ (List.mem_singleton.2 rfl)
 have hw:=hw.peek hbc
 have hI0:=zzm I0
 have hCI:=zzm I0
 have h2:=h2.mono h0;have h3:=h3.mono h0;have hT:=hT.mono h0
 refine qe Tryz.func111 Tryz.ntmps111 hw ?_
 refine zR ?_
 refine zV (Qc rfl Kg (fun hg=>by exact QA.imm h2.out rfl)) ?_
 refine zV (QI rfl) ?_
 refine zF Yd ?_
 refine zF Yx ?_
 refine zL JG ?_
 refine zQ V7 ?_
 refine zM (Qb ?_)
 refine zeG hbc ?_
 refine Qd (Qw ?_)
 refine zfl (fun m E I' H' loc'=>∃ k:Nat,m=pn-k∧E=[(0,.func (.yield l) #[] #[]),(1,Zw b2),(2,Zw b3),(10,.int .i64 pn),(11,.int .i64 k)]∧loc'=[]∧HLe I0 I'∧k≤pn∧J (Kd k x.peer x.note) I' H') _ _ _ ⟨0,rfl,rfl,rfl,zzm _,Nat.zero_le _,hJ⟩ (.cons rfl (.cons rfl (.cons rfl (.cons rfl (.cons rfl .nil))))) rfl ?_
 rintro m E J9 H' loc' ⟨k,rfl,rfl,rfl,hI1,hk,hJk⟩
 have h3:=h3.mono hI1;have hT:=hT.mono hI1
 have hI0:=hI1
 have hCI:=zzm J9
 refine zR (zC (zN (Qm ?_)))
 refine zI ?_ ?_<;>intro hc12
 ·
  have hlt:k<pn:=by have h:=hc12;simp at h;omega
  refine Qr (Qd (Qm (Qw (zR (zM ?_)))))
  refine zA (zN (Qm ?_))
  by_cases hne:(k:Int)=x.peer
  ·
   have hk0:((k:Int) != x.peer)=false:=by simp [hne]
   have hD:=zzm J9
   refine Zt ?_
   refine zaq J9 [] mixed ?_
   refine zx1 0 rfl (fun _=>Qf rfl) hD ?_
   refine zx1 1 rfl (fun _=>Qa rfl J5) hD ?_
   refine zx1 2 rfl (fun _=>Qc rfl Ql (fun hg=>by exact QA.imm h3.out rfl)) hD ?_
   refine zx1 3 rfl (fun _=>QD rfl rfl rfl) hD ?_
   rw [hk0]
   refine zx1 4 rfl (fun _=>Qf rfl) hD ?_
   refine zx3 5 18 hD ?_
   refine zx3 6 18 hD ?_
   refine zx3 7 18 hD ?_
   refine zx3 8 18 hD ?_
   refine zx3 9 18 hD ?_
   refine zx3 10 18 hD ?_
   refine zx3 11 18 hD ?_
   refine zx3 12 18 hD ?_
   refine zx3 13 18 hD ?_
   refine zx3 14 18 hD ?_
   refine zx3 15 18 hD ?_
   refine zx1 16 rfl (fun _=>Y0 rfl rfl rfl) hD ?_
   refine zcW (by kernel_rfl) ?_
   refine Qx ?_
   refine Qd ?_
   refine zI ?_ ?_<;>intro hc30
   ·
    cases hc30
   refine Qr (Qk (Qd (Qi (zB ?_))))
   refine zM (Qb ?_)
   first
   | exact zaF rfl rfl rfl _ [] ⟨pn-(k+1),by omega,k+1,rfl,rfl,rfl,hI0,by omega,by rw [zeL hne];exact hJm _ _ _ _ hCI hJk⟩ (.cons rfl (.cons rfl (.cons rfl (.cons rfl (.cons rfl .nil))))) (by repeat (first | exact .refl | refine .drop ?_))
  have hk0:((k:Int) != x.peer)=true:=by simp [hne]
  have hD:=zzm J9
  refine Zt ?_
  refine zaq J9 [] mixed ?_
  refine zx1 0 rfl (fun _=>Qf rfl) hD ?_
  refine zx1 1 rfl (fun _=>Qa rfl J5) hD ?_
  refine zx1 2 rfl (fun _=>Qc rfl Ql (fun hg=>by exact QA.imm h3.out rfl)) hD ?_
  refine zx1 3 rfl (fun _=>QD rfl rfl rfl) hD ?_
  rw [hk0]
  refine zx1 4 rfl (fun _=>Qf rfl) hD ?_
  refine zx2 5 18 rfl (fun _=>Qf rfl) hD ?_
  refine zx2 6 18 rfl (fun _=>Qa rfl J5) hD ?_
  refine zx2 7 18 rfl (fun _=>Qc rfl Ql (fun hg=>by exact QA.imm h3.out rfl)) hD ?_
  refine zx2 8 18 rfl (fun _=>Qf rfl) hD ?_
  refine zx2 9 18 rfl (fun _=>Qa rfl zc6) hD ?_
  refine zx2 10 18 rfl (fun _=>Qg rfl Zf (fun hg=>by exact Cells.part (pre:=[_,_,_,_]) (vs:=Q6 x.note) (post:=[]) (BxI.cells (vs:=zel x) h3) rfl) rfl) hD ?_
  refine zcr 11 rfl (by kernel_rfl) ?_
  refine QN (dj:=18) rfl rfl rfl ?_
  refine qcV (vs:=[_]) rfl zeK (zlL x.note hT.nd hT.nn hT.ok hT.len) ?_
  refine Qb ?_
  refine zil hD (by repeat (first | exact .refl | exact QB | refine .keep ?_ | refine .drop ?_ | refine QO ?_)) ?_
  refine zcr 12 rfl (by kernel_rfl) ?_
  refine QN (dj:=18) rfl rfl rfl ?_
  refine Wi (s:=zal x.note) rfl zjJ rfl rfl (fun b9 c9 I1 hI1 hB=>?_)
  have hI0:=hI0.trans hI1;have hCI:=hCI.trans hI1;have hD:=hD.trans hI1
  refine Qb ?_
  refine zil hD (by repeat (first | exact .refl | exact QB | refine .keep ?_ | refine .drop ?_ | refine QO ?_)) ?_
  refine zx2 13 18 rfl (fun _=>QK (ps:=[(0,_),(1,_),(2,_)]) [_,_,_] zla rfl rfl) hD ?_
  refine zcr 14 rfl (by kernel_rfl) ?_
  refine QN (dj:=18) rfl rfl rfl ?_
  refine zbF (vs:=[_]) (Post:=fun b I2 H2=>if b then J ((Kd k x.peer x.note)++[pkN x.peer k x.note]) I2 H2 else Jx ((Kd k x.peer x.note)++[pkN x.peer k x.note]) I2 H2) rfl rfl rfl rfl (hY _ _ _ _ _ (zep hne hlt) (h0.trans hI0) (zkI hok9 hB) (hJm _ _ _ _ hCI hJk)) ?_
  rintro t9 I2 H9 hI2 hP9
  have hI0:=hI0.trans hI2;have hD:=hD.trans hI2
  refine Qb ?_
  refine zil hD (by repeat (first | exact .refl | exact QB | refine .keep ?_ | refine .drop ?_ | refine QO ?_)) ?_
  refine zx2 15 18 rfl (fun _=>Zs rfl) hD ?_
  refine zx1 16 rfl (fun _=>Q5 rfl rfl rfl) hD ?_
  refine zcW (by kernel_rfl) ?_
  refine Qx ?_
  refine Qd ?_
  refine zI ?_ ?_<;>intro hc30
  ·
   have ht:t9=false:=by simpa using hc30
   subst ht
   have hJ2:Jx ((Kd k x.peer x.note)++[pkN x.peer k x.note]) _ H9:=hP9
   refine Qs (Qj (Qe (Qe (Qj ?_))))
   exact Yh rfl (fun w hw=>⟨_,_,H9,rfl,hI0,by exact hw,.inr ⟨_,zep hne hlt,hJ2⟩⟩)
  have ht:t9=true:=by simpa using hc30
  subst ht
  have hJ2:J ((Kd k x.peer x.note)++[pkN x.peer k x.note]) _ H9:=hP9
  refine Qr (Qk (Qd (Qi (zB ?_))))
  refine zM (Qb ?_)
  first
  | exact zaF rfl rfl rfl _ [] ⟨pn-(k+1),by omega,k+1,rfl,rfl,rfl,hI0,by omega,by rw [zbH hne];exact hJ2⟩ (.cons rfl (.cons rfl (.cons rfl (.cons rfl (.cons rfl .nil))))) (by repeat (first | exact .refl | refine .drop ?_))
 have hge:pn≤k:=by have h:=hc12;simp at h;omega
 obtain rfl:k=pn:=by omega
 refine Zi (Qo (Qo (Qz ?_)))
 exact YB (Yh rfl (fun w hw=>⟨_,_,_,rfl,hI1,hw,.inl hJk⟩))
end
section
open Go Go.Kn Go.Proofs
theorem zcM:QL Tryz.prog 47 2 2:=.of (by kernel_rfl)
theorem zrN:Fun Tryz.prog 112:=.of Tryz.func112 (by kernel_rfl) (by kernel_rfl)
theorem zsh {I:Qt}{bc b2 b3:Nat}{pa qa aa:Option Addr}{pn pc qn qc an ac:Nat}{ps:List Pe}{pe:Pe}(x:Ev)(h2:BxI I b2 (.cells #[Zw bc] 105 (0,0)))(h3:BxI I b3 (.cells (zel x).toArray 47 (0,0)))(hPs:Sl I 1 Xq pa pn pc ps)(hpr:0≤x.peer∧x.peer<(pn:Int))(hpe:ps[x.peer.toNat]? =some pe)(hN:U7 I pe.a pe.n pe.c pe.notes)(hf:∀ y∈pe.notes,QP y=true)(hpn:pn≤100000)(hnn:pe.n≤100000):zem Tryz.prog 112 [Zw b2,Zw b3] I [(bc,.cells #[.slice pa pn pc,.slice qa qn qc,.slice aa an ac] 108 (0,0))] zwi (pe.notes.map (pkN x.peer x.to_)):=by
 intro g l J Jx hJm hY I0 H w h0 hJ hb hw
 have hbc:=hb _ (List.mem_singleton.2 rfl)
 have hw:=hw.peek hbc
 have hI0:=zzm I0
 have hCI:=zzm I0
 have h2:=h2.mono h0;have h3:=h3.mono h0;have hPs:=hPs.mono h0;have hN:=hN.mono h0
 have hNl:=hN.sl.len
 refine qe Tryz.func112 Tryz.ntmps112 hw ?_
 refine Qm ?_
 have hD:=zzm I0
 refine Zt ?_
 refine zaq I0 [(bc,.cells #[.slice pa pn pc,.slice qa qn qc,.slice aa an ac] 108 (0,0))] mixed ?_
 refine zx1 0 rfl (fun _=>Qc rfl Kg (fun hg=>by exact QA.imm h2.out rfl)) hD ?_
 refine zx1 1 rfl (fun _=>QI rfl) hD ?_
 refine zx1 2 rfl (fun _=>Qa rfl Yd) hD ?_
 refine zx1 3 rfl (fun _=>Qa rfl Yx) hD ?_
 refine zx1 4 rfl (fun _=>Qc rfl JG (fun hg=>by exact QA.h0 rfl)) hD ?_
 refine zx1 5 rfl (fun _=>Qa rfl J5) hD ?_
 refine zx1 6 rfl (fun _=>Qc rfl Ql (fun hg=>by exact QA.imm h3.out rfl)) hD ?_
 refine zx1 7 rfl (fun _=>zX V7 hPs) hD ?_
 refine zx1 8 rfl (fun _=>Qa rfl Zr) hD ?_
 refine zx1 9 rfl (fun _=>Qc rfl Yq (fun hg=>by exact zzf hPs hpe rfl)) hD ?_
 refine zx1 10 rfl (fun _=>Q4 rfl Za) hD ?_
 refine zx1 11 rfl (fun _=>Qf rfl) hD ?_
 refine zcW (by kernel_rfl) ?_
 refine Qx ?_
 refine zeG hbc ?_
 refine Qd (Qw ?_)
 refine zfl (fun m E I' H' loc'=>∃ k:Nat,m=pe.n-k∧E=[(0,.func (.yield l) #[] #[]),(1,Zw b2),(2,Zw b3),(15,.slice pe.a pe.n pe.c),(16,.int .i64 pe.n),(17,.int .i64 k)]∧loc'=[]∧HLe I0 I'∧k≤pe.n∧J ((pe.notes.take k).map (pkN x.peer x.to_)) I' H') _ _ _ ⟨0,rfl,rfl,rfl,zzm _,Nat.zero_le _,hJ⟩ (.cons rfl (.cons rfl (.cons rfl (.cons rfl (.cons rfl (.cons rfl .nil)))))) rfl ?_
 rintro m E J9 H' loc' ⟨k,rfl,rfl,rfl,hI1,hk,hJk⟩
 have h3:=h3.mono hI1;have hN:=hN.mono hI1
 have hI0:=hI1
 have hCI:=zzm J9
 refine zR (zC (zN (Qm ?_)))
 refine zI ?_ ?_<;>intro hc18
 ·
  have hlt:k<pe.n:=by have h:=hc18;simp at h;omega
  obtain ⟨y,hy⟩:∃ y,pe.notes[k]? =some y:=⟨_,List.getElem?_eq_getElem (by omega)⟩
  have hym:=List.mem_of_getElem? hy
  have hM:=hN.m y hym (hf y hym)
  refine Qr (Qd (Qm (Qw (zR ?_))))
  refine zV (QG rfl rfl Za hN.sl (fun hg=>by omega)) ?_
  refine zV (Qg rfl Zf (fun hg=>by exact zzn hN.sl hy) rfl) ?_
  refine Qq W8 rfl rfl (fun b_5=>?_)
  refine zh VW ?_
  refine zN (Qm ?_)
  have hD:=zzm J9
  refine Zt ?_
  refine zaq J9 [(b_5,.cells (Q6 y).toArray 45 (0,0))] mixed ?_
  refine zx1 0 rfl (fun _=>Qf rfl) hD ?_
  refine zx1 1 rfl (fun _=>Qa rfl J5) hD ?_
  refine zx1 2 rfl (fun _=>Qc rfl Ql (fun hg=>by exact QA.imm h3.out rfl)) hD ?_
  refine zx1 3 rfl (fun _=>Qa rfl zcM) hD ?_
  refine zx1 4 rfl (fun _=>Qc rfl Ql (fun hg=>by exact QA.imm h3.out rfl)) hD ?_
  refine zx1 5 rfl (fun _=>Qg rfl Zf (fun hg=>by exact Cells.g0) rfl) hD ?_
  refine zcr 6 rfl (by kernel_rfl) ?_
  refine qcV (vs:=[_]) rfl zeK (zlL y hM.nd hM.nn hM.ok hM.len) ?_
  refine Qb ?_
  refine zil hD (by repeat (first | exact .refl | exact QB | refine .keep ?_ | refine .drop ?_ | refine QO ?_)) ?_
  refine zcr 7 rfl (by kernel_rfl) ?_
  refine Wi (s:=zal y) rfl zjJ rfl rfl (fun b9 c9 I1 hI1 hB=>?_)
  have hI0:=hI0.trans hI1;have hCI:=hCI.trans hI1;have hD:=hD.trans hI1
  refine Qb ?_
  refine zil hD (by repeat (first | exact .refl | exact QB | refine .keep ?_ | refine .drop ?_ | refine QO ?_)) ?_
  refine zx1 8 rfl (fun _=>QK (ps:=[(0,_),(1,_),(2,_)]) [_,_,_] zla rfl rfl) hD ?_
  refine zcr 9 rfl (by kernel_rfl) ?_
  refine zbF (vs:=[_]) (Post:=fun b I2 H2=>if b then J (((pe.notes.take k).map (pkN x.peer x.to_))++[pkN x.peer x.to_ y]) I2 H2 else Jx (((pe.notes.take k).map (pkN x.peer x.to_))++[pkN x.peer x.to_ y]) I2 H2) rfl rfl rfl rfl (hY _ _ _ _ _ (zgq _ hy) (h0.trans hI0) (zkI hM.ok hB) (hJm _ _ _ _ hCI hJk)) ?_
  rintro t9 I2 H9 hI2 hP9
  have hI0:=hI0.trans hI2;have hD:=hD.trans hI2
  refine Qb ?_
  refine zil hD (by repeat (first | exact .refl | exact QB | refine .keep ?_ | refine .drop ?_ | refine QO ?_)) ?_
  refine zx1 10 rfl (fun _=>Zs rfl) hD ?_
  refine zcW (by kernel_rfl) ?_
  refine Qx ?_
  refine Qd ?_
  refine zI ?_ ?_<;>intro hc31
  ·
   have ht:t9=false:=by simpa using hc31
   subst ht
   have hJ2:Jx (((pe.notes.take k).map (pkN x.peer x.to_))++[pkN x.peer x.to_ y]) _ H9:=hP9
   refine Qs (Qj (Qe (Qe (Qj ?_))))
   exact Yh rfl (fun w hw=>⟨_,_,H9,rfl,hI0,by exact hw.drop,.inr ⟨_,zgq _ hy,hJ2⟩⟩)
  have ht:t9=true:=by simpa using hc31
  subst ht
  have hJ2:J (((pe.notes.take k).map (pkN x.peer x.to_))++[pkN x.peer x.to_ y]) _ H9:=hP9
  refine Qr (Qk (Qd (Qi (zB ?_))))
  refine zM (Qb ?_)
  exact zaF rfl rfl rfl _ [] ⟨pe.n-(k+1),by omega,k+1,rfl,rfl,rfl,hI0,by omega,by rw [Zh hy,List.map_append];exact hJ2⟩ (.cons rfl (.cons rfl (.cons rfl (.cons rfl (.cons rfl (.cons rfl .nil)))))) (by repeat (first | exact .refl | refine .drop ?_))
 have hge:pe.n≤k:=by have h:=hc18;simp at h;omega
 rw [ZW hNl hge] at hJk
 refine Zi (Qo (Qo (Qz ?_)))
 exact YB (Yh rfl (fun w hw=>⟨_,_,_,rfl,hI1,hw,.inl hJk⟩))
end
end Go.Proofs.YtjblkbkmblkgoaaGreat
section
namespace Go.Kn
open Go
theorem K2.frz {P:Program}{f:FuncId}{args:List Value}{I:Qt}{L:Loc}{Post Post':Value→Qt→Loc→Prop}{Bad:Value→Prop}(h:K2 P f args I L Post Bad)
  (hp:∀ v I' L',HLe I I'→Post v I' L'→∃ L1 b o,ZR L' b o L1∧∀ I2,HLe I' I2→I2 b=some o→Post' v I2 L1):K2 P f args I L Post' Bad:=fun g H w hw=>
 (h g H w hw).mono fun _ _ x=>x.elim (fun ⟨v,I',L',he,hI,hs,p⟩=>by
  obtain ⟨L1,b,o,ht,k⟩:=hp v I' L' hI p
  obtain ⟨h1,h2,h3⟩:=hs.freeze ht
  exact .inl ⟨v,_,L1,he,hI.trans h2,h1,k _ h2 h3⟩) .inr
theorem K2.wide {P:Program}{f:FuncId}{args:List Value}{I:Qt}{L:Loc}{Post:Value→Qt→Loc→Prop}{Bad:Value→Prop}(h:K2 P f args I L Post Bad)(R:Loc):K2 P f args I (L++R) (fun v I' L'=>∃ L1,L'=L1++R∧Post v I' L1) Bad:=fun g H w hw=>
 (h.frame Zd hw).mono fun _ _ x=>x.elim (fun ⟨v,I',L',he,hI,hs,p⟩=>.inl ⟨v,I',_,he,hI,hs,_,rfl,p⟩) fun ⟨v,he,hv,hs⟩=>.inr ⟨v,he,hv,hs.drop⟩
end Go.Kn
namespace Go.Proofs.YtjblkbkmblkgoaaGreat
open Go Go.Kn Go.Proofs
structure zmQ (I:Qt)(pn pc:Nat)(qa:Option Addr)(qn qc:Nat)(aa:Option Addr)(an ac:Nat)(cur:List Value)(ps:List Pe)(qs:List Pk)(ks:List (Int×Int)):Prop where
 p:ziv I cur ps
 pl:ps.length=pn
 pc:pn≤pc
 m:1≤pn∧pn≤24
 q:Sl I 3 Zz qa qn qc qs
 pk:∀ q∈qs,PkM I q
 k:Sl I 2 KY aa an ac ks
 net:Uq qs ks=0
 bad:∀ q∈qs,UP pn q=false
 an:an≤100000
 dl:∀ q∈qs,q.n≤100000
 sm:qn+24≤4096∧∀ pe∈ps,qn+pe.n≤4096
theorem zmQ.mono {I I':Qt}{pn pc:Nat}{qa:Option Addr}{qn qc:Nat}{aa:Option Addr}{an ac:Nat}{cur:List Value}{ps:List Pe}{qs:List Pk}{ks:List (Int×Int)}(h:zmQ I pn pc qa qn qc aa an ac cur ps qs ks)(hI:HLe I I'):zmQ I' pn pc qa qn qc aa an ac cur ps qs ks:=
 ⟨h.p.mono hI,h.pl,h.pc,h.m,h.q.mono hI,fun q hq=>(h.pk q hq).mono hI,h.k.mono hI,h.net,h.bad,h.an,h.dl,h.sm⟩
structure EvM (I:Qt)(x:Ev):Prop where
 nd:Nd I x.note.pt
 w:NtW x.note
theorem EvM.mono {I I':Qt}{x:Ev}(h:EvM I x)(hI:HLe I I'):EvM I' x:=⟨h.nd.mono hI,h.w⟩
theorem EvM.msg {I:Qt}{x:Ev}(h:EvM I x)(hf:QP x.note=true):NtM I x.note:=zdV h.w h.nd hf
theorem EvM.form {I:Qt}{x:Ev}(h:EvM I x):QP (Yr x.note)=QP x.note:=VL (by
 have h1:Sl I 1 Z1 x.note.pt.a x.note.pt.n x.note.pt.c x.note.pt.needs:=h.nd
 exact h1.len.symm)
theorem zmC {a b:Int}(h:lkV (zpK a b) (zfa a b)=true):0≤a∧0≤b∧a<24∧b<24:=by
 unfold lkV zpK zfa at h
 simp only [Bool.and_eq_true,decide_eq_true_eq] at h
 split at h<;>split at h<;>omega
theorem zrx {qs:List Pk}{ks:List (Int×Int)}(h:Uq qs ks=0):∀ q∈qs,0≤q.frm∧0≤q.to_:=fun q hq=>by
 have h1:=(ze0 h).2.1 q hq
 unfold pkV at h1
 rw [Bool.and_eq_true] at h1
 exact ⟨(zmC h1.1).1,(zmC h1.1).2.1⟩
theorem zd9 {I:Qt}{bp pn pc t:Nat}{cur:List Value}{ps:List Pe}(hP:ziv I cur ps)(hpl:ps.length=pn)(hpc:pn≤pc)(hb:I bp=some (.cells cur.toArray t (0,0))):Sl I 1 Xq (some ⟨bp,0,none⟩) pn pc ps:=
 ⟨hpl,hpc,fun _=>rfl,fun k x hx j u hu=>by
  have hj:j=0:=by have:=(List.getElem?_eq_some_iff.1 hu).1;simp [Xq] at this;omega
  subst hj
  have hu:u= .slice x.a x.n x.c:=by simpa [Xq] using hu.symm
  subst hu
  refine QA.imm hb ?_
  show ziB _ (0+k*1+0)=_
  rw [Nat.zero_add,Nat.mul_one,Nat.add_zero,Jg]
  exact hP.at_ k x hx⟩
def zr2 (bc bp pn pc:Nat)(aa:Option Addr)(an ac:Nat)(ks:List (Int×Int))(R:Int×Rd)(v:Value)(I':Qt)(L':Go.Kn.Loc):Prop:=
 v= .tuple #[]∧R.1=0∧∃ a m c ps' qs',L'=[(bc,.cells #[.slice (some ⟨bp,0,none⟩) pn pc,.slice a m c,.slice aa an ac] 108 (0,0))]∧RmP I' (some ⟨bp,0,none⟩) pn pc a m c aa an ac ps' qs' ks∧VN ps' qs' ks=R.2
def zqY (R:Int×Rd)(v:Value):Prop:=v= .iface 50 (.int .i64 R.1)∧R.1≠0
theorem UE {R:Int×Rd}{v:Value}{e:Int}{r:Rd}(h:R=(e,r))(hv:v= .iface 50 (.int .i64 e))(he:e≠0):zqY R v:=by subst h;exact ⟨hv,he⟩
theorem zmu {bc bp pn pc:Nat}{aa:Option Addr}{an ac:Nat}{ks:List (Int×Int)}{R:Int×Rd}{I':Qt}{a:Option Addr}{m c:Nat}{ps:List Pe}{qs D:List Pk}{r:Rd}(h:R=(0,r))(hpe:Sl I' 1 Xq (some ⟨bp,0,none⟩) pn pc ps)(hnt:∀ x∈ps,U7 I' x.a x.n x.c x.notes)
  (hS:zdG I' a m c qs D)(hk:Sl I' 2 KY aa an ac ks)(e:r=⟨dtP ps,D,ks⟩):zr2 bc bp pn pc aa an ac ks R (.tuple #[]) I' [(bc,.cells #[.slice (some ⟨bp,0,none⟩) pn pc,.slice a m c,.slice aa an ac] 108 (0,0))]:=by
 subst h;subst e
 exact ⟨rfl,rfl,a,m,c,ps,qs,rfl,⟨hpe,hnt,hS.sl,hS.pk,hk⟩,by unfold VN;rw [hS.dat]⟩
/-! ### Telling -/
section
variable {ps:List Pe} {qs:List Pk} {ks:List (Int×Int)} {x:Ev} {I:Qt}
theorem XU {i:Int}:isP (VN ps qs ks) i=true↔0≤i∧i<(ps.length:Int):=by rw [zfk];simp [VN,zcP]
theorem zue (h:¬(0≤x.peer∧x.peer<(ps.length:Int))):Uo (VN ps qs ks) (YR x)=(1,zeroR):=by
 unfold Uo
 rw [if_neg]
 intro h2
 exact h (XU.1 h2)
theorem zvB (hE:EvM I x)(h:0≤x.peer∧x.peer<(ps.length:Int))(h2:QP x.note=false):Uo (VN ps qs ks) (YR x)=(570,zeroR):=by
 have e:QP (YR x).note=false:=by show QP (Yr x.note)=false;rw [hE.form,h2]
 have ei:isP (VN ps qs ks) (YR x).peer=true:=XU.2 h
 unfold Uo
 rw [if_pos ei,e];rfl
theorem zvT (hE:EvM I x)(h:0≤x.peer∧x.peer<(ps.length:Int))(h2:QP x.note=true)(h3:zb1 (dtP ps) x.peer.toNat (Yr x.note)=none):Uo (VN ps qs ks) (YR x)=(2,zeroR):=by
 have e:QP (YR x).note=true:=by show QP (Yr x.note)=true;rw [hE.form,h2]
 have e2:zb1 (VN ps qs ks).ps (YR x).peer.toNat (YR x).note=none:=h3
 have ei:isP (VN ps qs ks) (YR x).peer=true:=XU.2 h
 unfold Uo
 rw [if_pos ei,if_pos e,e2]
theorem zuH (hE:EvM I x)(h:0≤x.peer∧x.peer<(ps.length:Int))(h2:QP x.note=true){P:List (List Nt)}(h3:zb1 (dtP ps) x.peer.toNat (Yr x.note)=some P):Uo (VN ps qs ks) (YR x)=(0,⟨P,qs.map Vv++Kd ps.length x.peer x.note,ks⟩):=by
 have e:QP (YR x).note=true:=by show QP (Yr x.note)=true;rw [hE.form,h2]
 have e2:zb1 (VN ps qs ks).ps (YR x).peer.toNat (YR x).note=some P:=h3
 have ei:isP (VN ps qs ks) (YR x).peer=true:=XU.2 h
 unfold Uo
 rw [if_pos ei,if_pos e,e2]
 simp only [VN,zcP];rfl
theorem zjm (h:¬(isP (VN ps qs ks) x.peer=true∧isP (VN ps qs ks) x.to_=true∧x.peer≠x.to_)):zah (VN ps qs ks) (YR x)=(1,zeroR):=by
 unfold zah
 rw [if_neg]
 intro h2
 simp only [Bool.and_eq_true] at h2
 exact h ⟨h2.1.1,h2.1.2,bne_iff_ne.1 h2.2⟩
theorem zv6 (h1:0≤x.peer∧x.peer<(ps.length:Int))(h2:0≤x.to_∧x.to_<(ps.length:Int))(h3:x.peer≠x.to_){pe:Pe}(hpe:ps[x.peer.toNat]? =some pe):zah (VN ps qs ks) (YR x)=(0,⟨dtP ps,qs.map Vv++pe.notes.map (pkN x.peer x.to_),ks⟩):=by
 have e3:(x.peer != x.to_)=true:=by simp [h3]
 have e1:(isP (VN ps qs ks) (YR x).peer&&isP (VN ps qs ks) (YR x).to_&&(YR x).peer != (YR x).to_)=true:=by
  show (isP (VN ps qs ks) x.peer&&isP (VN ps qs ks) x.to_&&x.peer != x.to_)=true
  rw [XU.2 h1,XU.2 h2,e3];rfl
 have e2:(VN ps qs ks).ps.getD (YR x).peer.toNat []=pe.notes.map Yr:=by
  show (dtP ps).getD x.peer.toNat []=_
  rw [List.getD_eq_getElem?_getD,zaT hpe];rfl
 unfold zah
 rw [if_pos e1,e2,List.map_map];rfl
theorem zuc (hpk:∀ q∈qs,PkM I q)(h:atE qs ks x.at_≠0):zb4 (VN ps qs ks) (YR x)=(atE qs ks x.at_,zeroR):=by
 have e:atE (qs.map Vv) ks x.at_=atE qs ks x.at_:=Wt hpk ks x.at_
 show (if atE (qs.map Vv) ks x.at_≠0 then (atE (qs.map Vv) ks x.at_,zeroR) else _)=_
 rw [e,if_pos h]
theorem zpV (hpk:∀ q∈qs,PkM I q)(h:atE qs ks x.at_=0):zb4 (VN ps qs ks) (YR x)=(0,⟨dtP ps,(qs.eraseIdx x.at_.toNat).map Vv,ks⟩):=by
 have e:atE (qs.map Vv) ks x.at_=atE qs ks x.at_:=Wt hpk ks x.at_
 show (if atE (qs.map Vv) ks x.at_≠0 then (atE (qs.map Vv) ks x.at_,zeroR) else (0,⟨dtP ps,(qs.map Vv).eraseIdx x.at_.toNat,ks⟩))=_
 rw [e,if_neg (by simpa using h),WS]
theorem zwV (hpk:∀ q∈qs,PkM I q)(h:Wh qs ks x.at_≠0):zb9 (VN ps qs ks) (YR x)=(Wh qs ks x.at_,zeroR):=by
 have e:Wh (qs.map Vv) ks x.at_=Wh qs ks x.at_:=zhv hpk ks x.at_
 show (if Wh (qs.map Vv) ks x.at_≠0 then (Wh (qs.map Vv) ks x.at_,zeroR) else _)=_
 rw [e,if_pos h]
theorem zp8 (hpk:∀ q∈qs,PkM I q)(h:Wh qs ks x.at_=0):zb9 (VN ps qs ks) (YR x)=(0,⟨dtP ps,(qs++[atP qs ks x.at_]).map Vv,ks⟩):=by
 have e:Wh (qs.map Vv) ks x.at_=Wh qs ks x.at_:=zhv hpk ks x.at_
 show (if Wh (qs.map Vv) ks x.at_≠0 then (Wh (qs.map Vv) ks x.at_,zeroR) else (0,⟨dtP ps,qs.map Vv++[atP (qs.map Vv) ks x.at_],ks⟩))=_
 rw [e,if_neg (by simpa using h),zfu hpk,List.map_append];rfl
end
theorem zqq {m:Nat}(hm:m≤24){i k:Int}{t:Nt}(hi:0≤i∧i<(m:Int))(hk:0≤k∧k<(m:Int))(hne:i≠k)(hl:(V5 t).length≤900000):pkV (pkN i k t)=true:=by
 unfold pkV pkN lkV zpK zfa
 simp only [Bool.and_eq_true,decide_eq_true_eq]
 split<;>split<;>omega
end Go.Proofs.YtjblkbkmblkgoaaGreat
end
namespace Go.Proofs.YtjblkbkmblkgoaaGreat
section
open Go Go.Kn Go.Proofs
theorem zf4:Fun Tryz.prog 106:=.of Tryz.func106 (by kernel_rfl) (by kernel_rfl)
theorem zkl:Fun Tryz.prog 110:=.of Tryz.func110 (by kernel_rfl) (by kernel_rfl)
theorem zrP {I:Qt}{bc bp:Nat}{qa aa:Option Addr}{pn pc qn qc an ac:Nat}{cur:List Value}{ps:List Pe}{qs:List Pk}{ks:List (Int×Int)}(hX:zmQ I pn pc qa qn qc aa an ac cur ps qs ks)(x:Ev)(hE:EvM I x):K2 Tryz.prog 46 [Zw bc,.agg (zel x).toArray] I [(bc,.cells #[.slice (some ⟨bp,0,none⟩) pn pc,.slice qa qn qc,.slice aa an ac] 108 (0,0)),(bp,.cells (cur).toArray 59 (0,0))] (zr2 bc bp pn pc aa an ac ks (Uo (VN ps qs ks) (YR x))) (zqY (Uo (VN ps qs ks) (YR x))):=by
 intro g H w hw
 refine qe Tryz.func46 Tryz.ntmps46 hw ?_
 have hIc:=zzm I
 refine zR ?_
 refine QR rfl rfl rfl (fun b_2=>?_)
 refine QR rfl rfl rfl (fun b_3=>?_)
 refine Qb ?_
 refine QH .here (fun I1 hI1 hb1=>?_)
 have hX:=hX.mono hI1;have hE:=hE.mono hI1;have hIc:=hIc.trans hI1
 have h3:=BxI.of hb1
 refine QH .here (fun I2 hI2 hb2=>?_)
 have hX:=hX.mono hI2;have hE:=hE.mono hI2;have h3:=h3.mono hI2;have hIc:=hIc.trans hI2
 have h2:=BxI.of hb2
 refine Qd (zR ?_)
 refine zV (Qc rfl Kg (fun hg=>by exact QA.imm h2.out rfl)) ?_
 refine zF J5 ?_
 refine zV (Qc rfl Ql (fun hg=>by exact QA.imm h3.out rfl)) ?_
 refine zx5 [_,_] rfl zf4 (by repeat (first | exact .cons .here .nil | exact ZL | exact Zd | apply ZF | apply ZB)) (zgd x.peer) ?_ (fun pv hpv=>by refine zx6 ?_;exact (UE (zue (by rw [hX.pl];exact hpv.2)) hpv.1 (by decide)))
 rintro vv3 I3 L3 hI3 ⟨rfl,rfl,rfl,hp1peer,hp2peer⟩
 have hX:=hX.mono hI3;have hE:=hE.mono hI3;have h3:=h3.mono hI3;have h2:=h2.mono hI3;have hIc:=hIc.trans hI3
 have hprpeer:0≤x.peer∧x.peer<(ps.length:Int):=by rw [hX.pl];exact ⟨hp1peer,hp2peer⟩
 have hplx:=hX.pl
 have hto:x.peer.toNat<pn:=by omega
 have hti:x.peer=((x.peer.toNat:Nat):Int):=(Int.toNat_of_nonneg hprpeer.1).symm
 refine zN (zR ?_)
 refine zF zc6 ?_
 refine zV (Qg rfl Zf (fun hg=>by exact Cells.part (pre:=[_,_,_,_]) (vs:=Q6 x.note) (post:=[]) (BxI.cells (vs:=zel x) h3) rfl) rfl) ?_
 refine qcV (vs:=[_]) rfl za5 (KV x.note hE.nd) ?_
 refine zx5 [_,_] rfl Kc .nil (UR I3 (QP x.note) 570) ?_ (fun pv hpv=>by refine zx6 ?_;exact (UE (zvB hE hprpeer hpv.2) hpv.1 (by decide)))
 rintro vv4 I4 L4 hI4 ⟨rfl,rfl,rfl,hf⟩
 have hX:=hX.mono hI4;have hE:=hE.mono hI4;have h3:=h3.mono hI4;have h2:=h2.mono hI4;have hIc:=hIc.trans hI4
 refine zN (zR ?_)
 refine zV (Qc rfl Kg (fun hg=>by exact QA.imm h2.out rfl)) ?_
 refine zF J5 ?_
 refine zV (Qc rfl Ql (fun hg=>by exact QA.imm h3.out rfl)) ?_
 refine zF zc6 ?_
 refine zV (Qg rfl Zf (fun hg=>by exact Cells.part (pre:=[_,_,_,_]) (vs:=Q6 x.note) (post:=[]) (BxI.cells (vs:=zel x) h3) rfl) rfl) ?_
 refine zx5 [_,_,_] rfl zka (by repeat (first | exact .cons .here .nil | exact ZL | exact Zd | apply ZF | apply ZB)) (zgJ hti hX.p hX.pl hto (by have h:=hX.m;omega) (hE.msg hf) hf) ?_ (fun pv hpv=>by refine zx6 ?_;exact (UE (zvT hE hprpeer hf hpv.2) hpv.1 (by decide)))
 rintro vv5 I5 L5 hI5 ⟨rfl,cur2,ps2,rfl,hP2,hpl2,hlr⟩
 have hX:=hX.mono hI5;have hE:=hE.mono hI5;have h3:=h3.mono hI5;have h2:=h2.mono hI5;have hIc:=hIc.trans hI5
 refine zN (Qi ?_)
 refine zV (Qc rfl Kg (fun hg=>by exact QA.imm h2.out rfl)) ?_
 refine zV (Yu (us:=[]) (vs:=[_,_]) rfl rfl) ?_
 refine QT (b:=bp) (by repeat (first | exact ZR.here | apply ZR.there)) (fun I6 hI6 hb6=>?_)
 have hX:=hX.mono hI6;have hE:=hE.mono hI6;have h3:=h3.mono hI6;have h2:=h2.mono hI6;have hP2:=hP2.mono hI6;have hIc:=hIc.trans hI6
 have hPs:=zd9 hP2 hpl2 hX.pc hb6
 refine zpc [_,_] rfl zkl (by exact .cons .here .nil) (zpT (zdG.mk hX.q hX.pk rfl) hX.k hX.an (f:=111) (cap:=[Zw b_2,Zw b_3]) zq3 (zqD x h2 h3 (hE.msg hf) (hE.msg hf).ok (by have h:=hX.m;omega)) (by rw [WN hX.pk];exact hX.net) (fun p hp=>by obtain ⟨k,hk,hne,rfl⟩:=zgm hp;exact zqq hX.m.2 (by omega) ⟨by omega,by omega⟩ (fun e=>hne e.symm) (hE.msg hf).len) (by rw [List.length_map,hX.q.len];have h8:=zhc pn x.peer x.note;have h9:=hX.sm.1;have h7:=hX.m;omega)) ?_
 rintro vv7 I7 L7 hI7 ⟨rfl,a6,m6,c6,qs6,rfl,hS6⟩
 have hX:=hX.mono hI7;have hE:=hE.mono hI7;have hP2:=hP2.mono hI7;have hPs:=hPs.mono hI7;have hIc:=hIc.trans hI7
 refine Qb ?_
 exact YB (Yh rfl (fun w hw=>.inl ⟨_,I7,_,rfl,hIc,by exact hw,zmu (zuH hE hprpeer hf hlr) hPs hP2.nt hS6 hX.k (by rw [hX.pl])⟩))
theorem zsL {I:Qt}{bc bp:Nat}{qa aa:Option Addr}{pn pc qn qc an ac:Nat}{cur:List Value}{ps:List Pe}{qs:List Pk}{ks:List (Int×Int)}(hX:zmQ I pn pc qa qn qc aa an ac cur ps qs ks)(x:Ev)(hE:EvM I x):K2 Tryz.prog 47 [Zw bc,.agg (zel x).toArray] I [(bc,.cells #[.slice (some ⟨bp,0,none⟩) pn pc,.slice qa qn qc,.slice aa an ac] 108 (0,0)),(bp,.cells (cur).toArray 59 (0,0))] (zr2 bc bp pn pc aa an ac ks (zah (VN ps qs ks) (YR x))) (zqY (zah (VN ps qs ks) (YR x))):=by
 intro g H w hw
 refine qe Tryz.func47 Tryz.ntmps47 hw ?_
 have hIc:=zzm I
 refine zR ?_
 refine QR rfl rfl rfl (fun b_2=>?_)
 refine QR rfl rfl rfl (fun b_3=>?_)
 refine Qb ?_
 refine QH .here (fun I1 hI1 hb1=>?_)
 have hX:=hX.mono hI1;have hIc:=hIc.trans hI1
 have h3:=BxI.of hb1
 refine QH .here (fun I2 hI2 hb2=>?_)
 have hX:=hX.mono hI2;have h3:=h3.mono hI2;have hIc:=hIc.trans hI2
 have h2:=BxI.of hb2
 refine Qd (zR ?_)
 refine zV (Qc rfl Kg (fun hg=>by exact QA.imm h2.out rfl)) ?_
 refine zF J5 ?_
 refine zV (Qc rfl Ql (fun hg=>by exact QA.imm h3.out rfl)) ?_
 refine zx5 [_,_] rfl zf4 (by repeat (first | exact .cons .here .nil | exact ZL | exact Zd | apply ZF | apply ZB)) (zgd x.peer) ?_ (fun pv hpv=>by refine zx6 ?_;exact (UE (zjm (fun h9=>by have h8:=XU.1 h9.1;rw [hX.pl] at h8;exact hpv.2 h8)) hpv.1 (by decide)))
 rintro vv3 I3 L3 hI3 ⟨rfl,rfl,rfl,hp1peer,hp2peer⟩
 have hX:=hX.mono hI3;have h3:=h3.mono hI3;have h2:=h2.mono hI3;have hIc:=hIc.trans hI3
 have hprpeer:0≤x.peer∧x.peer<(ps.length:Int):=by rw [hX.pl];exact ⟨hp1peer,hp2peer⟩
 refine zN (zR ?_)
 refine zV (Qc rfl Kg (fun hg=>by exact QA.imm h2.out rfl)) ?_
 refine zF zcM ?_
 refine zV (Qc rfl Ql (fun hg=>by exact QA.imm h3.out rfl)) ?_
 refine zx5 [_,_] rfl zf4 (by repeat (first | exact .cons .here .nil | exact ZL | exact Zd | apply ZF | apply ZB)) (zgd x.to_) ?_ (fun pv hpv=>by refine zx6 ?_;exact (UE (zjm (fun h9=>by have h8:=XU.1 h9.2.1;rw [hX.pl] at h8;exact hpv.2 h8)) hpv.1 (by decide)))
 rintro vv4 I4 L4 hI4 ⟨rfl,rfl,rfl,hp1to_,hp2to_⟩
 have hX:=hX.mono hI4;have h3:=h3.mono hI4;have h2:=h2.mono hI4;have hIc:=hIc.trans hI4
 have hprto_:0≤x.to_∧x.to_<(ps.length:Int):=by rw [hX.pl];exact ⟨hp1to_,hp2to_⟩
 refine zN (zR ?_)
 refine zF J5 ?_
 refine zV (Qc rfl Ql (fun hg=>by exact QA.imm h3.out rfl)) ?_
 refine zF zcM ?_
 refine zV (Qc rfl Ql (fun hg=>by exact QA.imm h3.out rfl)) ?_
 refine zC ?_
 refine zx5 [_,_] rfl Kc .nil (UR I4 (x.peer != x.to_) 1) ?_ (fun pv hpv=>by refine zx6 ?_;exact (UE (zjm (fun h9=>h9.2.2 (by simpa using hpv.2))) hpv.1 (by decide)))
 rintro vv5 I5 L5 hI5 ⟨rfl,rfl,rfl,hne0⟩
 have hX:=hX.mono hI5;have h3:=h3.mono hI5;have h2:=h2.mono hI5;have hIc:=hIc.trans hI5
 have hne:x.peer≠x.to_:=by simpa using hne0
 have hplx:=hX.pl
 obtain ⟨pe,hpe⟩:∃ y,ps[x.peer.toNat]? =some y:=⟨_,List.getElem?_eq_getElem (by omega)⟩
 have hpm:=List.mem_of_getElem? hpe
 have hvv:=Vz (hX.p.ok pe hpm)
 refine zN (Qi ?_)
 refine zV (Qc rfl Kg (fun hg=>by exact QA.imm h2.out rfl)) ?_
 refine zV (Yu (us:=[]) (vs:=[_,_]) rfl rfl) ?_
 refine QT (b:=bp) (by repeat (first | exact ZR.here | apply ZR.there)) (fun I6 hI6 hb6=>?_)
 have hX:=hX.mono hI6;have h3:=h3.mono hI6;have h2:=h2.mono hI6;have hIc:=hIc.trans hI6
 have hPs:=zd9 hX.p hX.pl hX.pc hb6
 refine zpc [_,_] rfl zkl (by exact .cons .here .nil) (zpT (zdG.mk hX.q hX.pk rfl) hX.k hX.an (f:=112) (cap:=[Zw b_2,Zw b_3]) zrN (zsh x h2 h3 hPs (by omega) hpe (hX.p.nt pe hpm) hvv.2.1 (by have h:=hX.m;omega) (by have h:=hX.sm.2 pe hpm;omega)) (by rw [WN hX.pk];exact hX.net) (fun p hp=>by obtain ⟨y,hy,rfl⟩:=List.mem_map.1 hp;exact zqq hX.m.2 (by omega) (by omega) hne ((hX.p.nt pe hpm).m y hy (hvv.2.1 y hy)).len) (by rw [List.length_map,List.length_map,hX.q.len,(hX.p.nt pe hpm).sl.len];exact hX.sm.2 pe hpm)) ?_
 rintro vv7 I7 L7 hI7 ⟨rfl,a6,m6,c6,qs6,rfl,hS6⟩
 have hX:=hX.mono hI7;have hPs:=hPs.mono hI7;have hIc:=hIc.trans hI7
 refine Qb ?_
 exact YB (Yh rfl (fun w hw=>.inl ⟨_,I7,_,rfl,hIc,by exact hw,zmu (zv6 hprpeer hprto_ hne hpe) hPs hX.p.nt hS6 hX.k rfl⟩))
theorem zhV {I:Qt}{bc bp:Nat}{qa aa:Option Addr}{pn pc qn qc an ac:Nat}{cur:List Value}{ps:List Pe}{qs:List Pk}{ks:List (Int×Int)}(hX:zmQ I pn pc qa qn qc aa an ac cur ps qs ks)(x:Ev):K2 Tryz.prog 48 [Zw bc,.agg (zel x).toArray] I [(bc,.cells #[.slice (some ⟨bp,0,none⟩) pn pc,.slice qa qn qc,.slice aa an ac] 108 (0,0)),(bp,.cells (cur).toArray 59 (0,0))] (zr2 bc bp pn pc aa an ac ks (zb3 (VN ps qs ks) (YR x))) (zqY (zb3 (VN ps qs ks) (YR x))):=by
 have hm:=hX.m;have hs:=hX.sm.1
 refine K2.frz (zli hX.p hX.pl (by omega) hX.q (by omega) hX.pk hX.k hX.an x hX.bad hX.dl (zrx hX.net)) fun v I' L' hI h=>?_
 obtain ⟨rfl,h0,cur',ps',a,m,c,qs',rfl,hP',hpl',hS',hsub,e⟩:=h
 exact ⟨_,bp,_,.there .here,fun I2 h2 hb=>⟨rfl,h0,a,m,c,ps',qs',rfl,⟨zd9 (hP'.mono h2) hpl' hX.pc hb,(hP'.mono h2).nt,hS'.mono h2,fun q hq=>(hX.pk q (hsub q hq)).mono (hI.trans h2),hX.k.mono (hI.trans h2)⟩,e.symm⟩⟩
theorem zsU {I:Qt}{bc bp:Nat}{qa aa:Option Addr}{pn pc qn qc an ac:Nat}{cur:List Value}{ps:List Pe}{qs:List Pk}{ks:List (Int×Int)}(hX:zmQ I pn pc qa qn qc aa an ac cur ps qs ks)(x:Ev):K2 Tryz.prog 49 [Zw bc,.agg (zel x).toArray] I [(bc,.cells #[.slice (some ⟨bp,0,none⟩) pn pc,.slice qa qn qc,.slice aa an ac] 108 (0,0)),(bp,.cells (cur).toArray 59 (0,0))] (zr2 bc bp pn pc aa an ac ks (zb4 (VN ps qs ks) (YR x))) (zqY (zb4 (VN ps qs ks) (YR x))):=by
 have hm:=hX.m;have hs:=hX.sm.1
 refine K2.frz (((zu8 hX.q (by omega) hX.k hX.an x).wide [(bp,.cells (cur).toArray 59 (0,0))]).mono (fun _ _ _ _ h=>h) fun v hv=>UE (zuc hX.pk hv.2) hv.1 hv.2) fun v I' L' hI h=>?_
 obtain ⟨L1,rfl,rfl,h0,a,m,c,rfl,hS'⟩:=h
 exact ⟨_,bp,_,.there .here,fun I2 h2 hb=>⟨rfl,by rw [zpV hX.pk h0],a,m,c,ps,qs.eraseIdx x.at_.toNat,rfl,⟨zd9 (hX.p.mono (hI.trans h2)) hX.pl hX.pc hb,(hX.p.mono (hI.trans h2)).nt,hS'.mono h2,fun q hq=>(hX.pk q (zbP q hq)).mono (hI.trans h2),hX.k.mono (hI.trans h2)⟩,by rw [zpV hX.pk h0];rfl⟩⟩
theorem zmN {I:Qt}{bc bp:Nat}{qa aa:Option Addr}{pn pc qn qc an ac:Nat}{cur:List Value}{ps:List Pe}{qs:List Pk}{ks:List (Int×Int)}(hX:zmQ I pn pc qa qn qc aa an ac cur ps qs ks)(x:Ev):K2 Tryz.prog 50 [Zw bc,.agg (zel x).toArray] I [(bc,.cells #[.slice (some ⟨bp,0,none⟩) pn pc,.slice qa qn qc,.slice aa an ac] 108 (0,0)),(bp,.cells (cur).toArray 59 (0,0))] (zr2 bc bp pn pc aa an ac ks (zb9 (VN ps qs ks) (YR x))) (zqY (zb9 (VN ps qs ks) (YR x))):=by
 have hm:=hX.m;have hs:=hX.sm.1
 refine K2.frz (((zm7 hX.q (by omega) hX.k hX.an x).wide [(bp,.cells (cur).toArray 59 (0,0))]).mono (fun _ _ _ _ h=>h) fun v hv=>UE (zwV hX.pk hv.2) hv.1 hv.2) fun v I' L' hI h=>?_
 obtain ⟨L1,rfl,rfl,h0,a,m,c,rfl,hS'⟩:=h
 exact ⟨_,bp,_,.there .here,fun I2 h2 hb=>⟨rfl,by rw [zp8 hX.pk h0],a,m,c,ps,qs++[atP qs ks x.at_],rfl,⟨zd9 (hX.p.mono (hI.trans h2)) hX.pl hX.pc hb,(hX.p.mono (hI.trans h2)).nt,hS'.mono h2,fun q hq=>(List.mem_append.1 hq).elim (fun h=>(hX.pk q h).mono (hI.trans h2)) (fun h=>by rw [List.mem_singleton.1 h];exact (zp3 hX.pk ks x.at_).mono (hI.trans h2)),hX.k.mono (hI.trans h2)⟩,by rw [zp8 hX.pk h0];rfl⟩⟩
end
end Go.Proofs.YtjblkbkmblkgoaaGreat
section
namespace Go.Kn
open Go
section
variable {P:Program} {fn:Func} {R:Ending→World→Prop} {N:Nat} {g:World} {I H:Qt} {loc:Loc} {E:Env}
theorem zg3 (h:∀ a w,KP N [] E a→St g I H loc w→∃ v,(results fn a.tmps).run P w= .ok v w∧R (.returned v) w):At ⟨P,none,N,[],g,H⟩ (bodyPostDIn (FR none) 0 P fn R) .ret E I loc:=fun a w ha hw=>by
 show LeavesIn _ _ _ _ _ _ a.defers .returning w
 rw [ha.defers]
 exact h a w ha hw
end
end Go.Kn
namespace Go.Proofs.YtjblkbkmblkgoaaGreat
open Go Go.Kn Go.Proofs
def evK (f:Nat):Value:=.func (.func f) #[] #[]
def zf6 (a b c d e:Nat):List (Int×Nat):=[(1,a),(2,b),(3,c),(4,d),(5,e)]
theorem zsC {a b c d e f:Nat}{k:Int}(h:Zx (zf6 a b c d e) k=some f):(k=1∧f=a)∨(k=2∧f=b)∨(k=3∧f=c)∨(k=4∧f=d)∨(k=5∧f=e):=by
 unfold zf6 Zx at h
 split at h
 ·
  rename_i e1;cases h;exact .inl ⟨e1.symm,rfl⟩
 ·
  unfold Zx at h
  split at h
  ·
   rename_i e1;cases h;exact .inr (.inl ⟨e1.symm,rfl⟩)
  ·
   unfold Zx at h
   split at h
   ·
    rename_i e1;cases h;exact .inr (.inr (.inl ⟨e1.symm,rfl⟩))
   ·
    unfold Zx at h
    split at h
    ·
     rename_i e1;cases h;exact .inr (.inr (.inr (.inl ⟨e1.symm,rfl⟩)))
    ·
     unfold Zx at h
     split at h
     ·
      rename_i e1;cases h;exact .inr (.inr (.inr (.inr ⟨e1.symm,rfl⟩)))
     ·
      cases h
theorem zn4 {a b c d e:Nat}{r:Rd}{x:Ev}(h:Zx (zf6 a b c d e) x.kind=none):zb8 r (YR x)=(1,zeroR):=by
 have h1:∀ k f,(k,f)∈zf6 a b c d e→x.kind≠k:=by
  intro k f hm e1
  subst e1
  simp only [zf6,List.mem_cons,Prod.mk.injEq,List.not_mem_nil,or_false] at hm
  unfold zf6 at h
  rcases hm with ⟨e1,_⟩ | ⟨e1,_⟩ | ⟨e1,_⟩ | ⟨e1,_⟩ | ⟨e1,_⟩<;>rw [e1] at h<;>simp [Zx] at h
 have k1:¬(YR x).kind=1:=h1 1 a (by simp [zf6])
 have k2:¬(YR x).kind=2:=h1 2 b (by simp [zf6])
 have k3:¬(YR x).kind=3:=h1 3 c (by simp [zf6])
 have k4:¬(YR x).kind=4:=h1 4 d (by simp [zf6])
 have k5:¬(YR x).kind=5:=h1 5 e (by simp [zf6])
 unfold zb8
 rw [if_neg k1,if_neg k2,if_neg k3,if_neg k4,if_neg k5]
theorem zry {r:Rd}{x:Ev}(h:x.kind=1):zb8 r (YR x)=Uo r (YR x):=if_pos h
theorem zxX {r:Rd}{x:Ev}(h:x.kind=2):zb8 r (YR x)=zah r (YR x):=by
 have e:(YR x).kind=2:=h
 unfold zb8;rw [e];rfl
theorem ztt {r:Rd}{x:Ev}(h:x.kind=3):zb8 r (YR x)=zb3 r (YR x):=by
 have e:(YR x).kind=3:=h
 unfold zb8;rw [e];rfl
theorem zxw {r:Rd}{x:Ev}(h:x.kind=4):zb8 r (YR x)=zb4 r (YR x):=by
 have e:(YR x).kind=4:=h
 unfold zb8;rw [e];rfl
theorem zxB {r:Rd}{x:Ev}(h:x.kind=5):zb8 r (YR x)=zb9 r (YR x):=by
 have e:(YR x).kind=5:=h
 unfold zb8;rw [e];rfl
theorem znA {r:Rd}{x:Ev}(h:(Uo r x).1≠0):(Uo r x).2=zeroR:=by
 unfold Uo at h ⊢
 split
 ·
  rename_i h1
  rw [if_pos h1] at h
  split
  ·
   rename_i h2
   rw [if_pos h2] at h
   split
   ·
    rfl
   ·
    rename_i h3;rw [h3] at h;exact absurd rfl h
  ·
   rfl
 ·
  rfl
theorem zos {r:Rd}{x:Ev}(h:(zah r x).1≠0):(zah r x).2=zeroR:=by
 unfold zah at h ⊢
 split
 ·
  rename_i h1;rw [if_pos h1] at h;exact absurd rfl h
 ·
  rfl
theorem zsJ {r:Rd}{x:Ev}(h:(zb3 r x).1≠0):(zb3 r x).2=zeroR:=by
 unfold zb3 at h ⊢
 split
 ·
  rfl
 ·
  rename_i h1
  rw [if_neg h1] at h
  split
  ·
   rename_i h2;rw [if_pos h2] at h;exact absurd rfl h
  ·
   rename_i h2
   rw [if_neg h2] at h
   split
   ·
    rfl
   ·
    rename_i h3;rw [h3] at h;exact absurd rfl h
theorem znF {r:Rd}{x:Ev}(h:(zb4 r x).1≠0):(zb4 r x).2=zeroR:=by
 unfold zb4 at h ⊢
 split
 ·
  rfl
 ·
  rename_i h1;rw [if_neg h1] at h;exact absurd rfl h
theorem zon {r:Rd}{x:Ev}(h:(zb9 r x).1≠0):(zb9 r x).2=zeroR:=by
 unfold zb9 at h ⊢
 split
 ·
  rfl
 ·
  rename_i h1;rw [if_neg h1] at h;exact absurd rfl h
theorem zqK {r:Rd}{x:Ev}(h:(zb8 r x).1≠0):zb8 r x=((zb8 r x).1,zeroR):=by
 have key:(zb8 r x).2=zeroR:=by
  unfold zb8 at h ⊢
  split
  ·
   rename_i h1;rw [if_pos h1] at h;exact znA h
  ·
   rename_i h1;rw [if_neg h1] at h
   split
   ·
    rename_i h1;rw [if_pos h1] at h;exact zos h
   ·
    rename_i h1;rw [if_neg h1] at h
    split
    ·
     rename_i h1;rw [if_pos h1] at h;exact zsJ h
    ·
     rename_i h1;rw [if_neg h1] at h
     split
     ·
      rename_i h1;rw [if_pos h1] at h;exact znF h
     ·
      rename_i h1;rw [if_neg h1] at h
      split
      ·
       rename_i h1;rw [if_pos h1] at h;exact zon h
      ·
       rfl
 exact Prod.ext rfl key
theorem zrK {v:Value}{n:Nat}{ps:List Pe}{L:Go.Kn.Loc}{e:Nat}(h:Ya e 1 v n (ps.flatMap Xq) L)(hn:ps.length=n)(h0:1≤n):∃ (b c:Nat) (cur:List Value),v= .slice (some ⟨b,0,none⟩) n c∧L=[(b,.cells cur.toArray e (0,0))]∧n≤c∧∀ (i:Nat) (pe:Pe),ps[i]? =some pe→cur[i]? =some (.slice pe.a pe.n pe.c):=by
 rcases h.2 with ⟨_,h1,_⟩ | ⟨b,c,cur,rfl,rfl,h1,_,h3,h4⟩
 ·
  omega
 ·
  refine ⟨b,c,cur.toList,rfl,by simp,h1,fun i pe hi=>?_⟩
  have hlt:=(List.getElem?_eq_some_iff.1 hi).1
  have h5:=zbX zdQ ps i pe hi 0 _ rfl
  rw [Nat.mul_one,Nat.add_zero,←h4,List.getElem?_take,if_pos (by omega)] at h5
  exact h5
theorem zg9 {I:Qt}:RmV I (.agg #[.slice none 0 0,.slice none 0 0,.slice none 0 0]) zeroR:=
 ⟨none,0,0,none,0,0,none,0,0,[],[],rfl,⟨.nil,fun _ h=>(by cases h),.nil,fun _ h=>(by cases h),.nil⟩,rfl⟩
def DoQ (R:Int×Rd)(v:Value)(I':Qt)(L':Go.Kn.Loc):Prop:=L'=[]∧∃ vr,v= .tuple #[vr,.int .i64 R.1]∧RmV I' vr R.2
theorem zlK {I:Qt}{e:Int}:DoQ (e,zeroR) (.tuple #[.agg #[.slice none 0 0,.slice none 0 0,.slice none 0 0],.int .i64 e]) I []:=⟨rfl,_,rfl,zg9⟩
theorem zgn {R R':Int×Rd}{v:Value}{I:Qt}{L:Go.Kn.Loc}(h:DoQ R v I L)(e:R'=R):DoQ R' v I L:=e ▸ h
theorem zvK {r:Rd}{x:Ev}(h:zeY r≠0):doF r x=(zeY r,zeroR):=if_pos h
theorem zbR {r:Rd}{x:Ev}(h:zeY r=0):doF r x=zb8 r x:=if_neg (by rw [h];simp)
theorem zqZ {I:Qt}{R:Int×Rd}{pa qa aa:Option Addr}{pn pc qn qc an ac:Nat}{ps:List Pe}{qs:List Pk}{ks:List (Int×Int)}(h0:R.1=0)(hR:RmP I pa pn pc qa qn qc aa an ac ps qs ks)(e:VN ps qs ks=R.2):DoQ R (.tuple #[.agg #[.slice pa pn pc,.slice qa qn qc,.slice aa an ac],.int .i64 0]) I []:=by
 have hk:R.2.ks=ks:=by rw [←e];rfl
 exact ⟨rfl,_,by rw [h0],pa,pn,pc,qa,qn,qc,aa,an,ac,ps,qs,rfl,by rw [hk];exact hR,by rw [hk];exact e⟩
end Go.Proofs.YtjblkbkmblkgoaaGreat
end
namespace Go.Proofs.YtjblkbkmblkgoaaGreat
section
open Go Go.Kn Go.Proofs
theorem zjv (I:Qt)(bv be:Nat)(v1 v2 v3:Option Addr)(n1 n2 n3 c1 c2 c3:Nat)(e0:Int):zmW Tryz.prog 51 [Zw bv,Zw be] I [(be,.cells #[.int .i64 e0] 50 (0,0)),(bv,.cells #[.slice v1 n1 c1,.slice v2 n2 c2,.slice v3 n3 c3] 28 (0,0))] .returning (fun u' I' L'=>settle u'= .returning∧I'=I∧L'=[(be,.cells #[.int .i64 e0] 50 (0,0)),(bv,.cells #[.slice v1 n1 c1,.slice v2 n2 c2,.slice v3 n3 c3] 28 (0,0))]):=by
 refine Xl Tryz.func51 rfl Tryz.ntmps51 rfl rfl (⟨(fun o ho=>by cases ho),fun o ho=>by cases ho⟩) (fun g H=>?_)
 have hIc:=zzm I
 refine zN (Qw (zR ?_))
 refine zV (zoj rfl zhN) ?_
 refine zN ?_
 refine zI ?_ ?_<;>intro hc7
 ·
  refine Qi (zA (Qb (Qk ?_)))
  exact YB (Yh rfl (fun w hw=>⟨_,I,_,rfl,zzm _,hw,rfl,rfl,rfl⟩))
 cases hc7
theorem zly (I:Qt)(bv be:Nat)(e9:Int):zmW Tryz.prog 51 [Zw bv,Zw be] I [(be,.cells #[.int .i64 0] 50 (0,0)),(bv,.cells #[.slice none 0 0,.slice none 0 0,.slice none 0 0] 28 (0,0))] (.panicking (pan (.iface 50 (.int .i64 e9)))) (fun u' I' L'=>settle u'= .returning∧I'=I∧L'=[(be,.cells #[.int .i64 e9] 50 (0,0)),(bv,.cells #[.slice none 0 0,.slice none 0 0,.slice none 0 0] 28 (0,0))]):=by
 refine Xl Tryz.func51 rfl Tryz.ntmps51 rfl rfl (⟨(fun o ho=>by cases ho),fun o ho=>by cases ho⟩) (fun g H=>?_)
 have hIc:=zzm I
 refine zN (Qw (zR ?_))
 refine zV (zqO rfl zhN) ?_
 refine zN ?_
 refine zI ?_ ?_<;>intro hc7
 ·
  cases hc7
 refine zR ?_
 refine zV (zfL rfl zlh) ?_
 refine zE ?_
 refine zE (zN ?_)
 refine zI ?_ ?_<;>intro hc9
 ·
  refine zR (zA (zN (Qi ?_)))
  refine zV (QK (ps:=[]) [_,_,_] zgZ rfl rfl) ?_
  refine zM ?_
  refine zh Kk ?_
  refine zS zbx ?_
  refine Qb (Qk ?_)
  exact YB (Yh rfl (fun w hw=>⟨_,I,_,rfl,zzm _,hw,rfl,rfl,rfl⟩))
 cases hc9
end
section
open Go Go.Kn Go.Proofs
theorem zvk:AgT Tryz.prog 47 49:=.of (by kernel_rfl)
theorem zgF:QL Tryz.prog 47 0 0:=.of (by kernel_rfl)
theorem zjE:Fun Tryz.prog 16:=.of Tryz.func16 (by kernel_rfl) (by kernel_rfl)
theorem ztU:Fun Tryz.prog 46:=.of Tryz.func46 (by kernel_rfl) (by kernel_rfl)
theorem zvY:Fun Tryz.prog 47:=.of Tryz.func47 (by kernel_rfl) (by kernel_rfl)
theorem zua:Fun Tryz.prog 48:=.of Tryz.func48 (by kernel_rfl) (by kernel_rfl)
theorem zvX:Fun Tryz.prog 49:=.of Tryz.func49 (by kernel_rfl) (by kernel_rfl)
theorem zvV:Fun Tryz.prog 50:=.of Tryz.func50 (by kernel_rfl) (by kernel_rfl)
theorem zpF:Fun Tryz.prog 51:=.of Tryz.func51 (by kernel_rfl) (by kernel_rfl)
theorem zwa:Fun Tryz.prog 52:=.of Tryz.func52 (by kernel_rfl) (by kernel_rfl)
theorem JO:MpT Tryz.prog 106 3 102 .nilFunc:=⟨by kernel_rfl,.of (by kernel_rfl)⟩
theorem zq7:PlT Tryz.prog 108 #[(0,3)] (.agg #[(.slice none 0 0),(.slice none 0 0),(.slice none 0 0)]):=⟨.of (by kernel_rfl),by kernel_rfl,fun w=>by kernel_rfl⟩
theorem zrk:SzT Tryz.prog 108 3:=.of (by kernel_rfl)
theorem zuB:SzT Tryz.prog 22 1:=.of (by kernel_rfl)
theorem zwK:Y7 Tryz.prog 108 (.agg #[(.slice none 0 0),(.slice none 0 0),(.slice none 0 0)]):=.of (by kernel_rfl)
theorem zxx {I:Qt}{bc bp:Nat}{qa aa:Option Addr}{pn pc qn qc an ac:Nat}{cur:List Value}{ps:List Pe}{qs:List Pk}{ks:List (Int×Int)}(hX:zmQ I pn pc qa qn qc aa an ac cur ps qs ks)(x:Ev)(hE:EvM I x){f:Nat}(h:Zx (zf6 46 47 48 49 50) x.kind=some f):Fun Tryz.prog f∧K2 Tryz.prog f [Zw bc,.agg (zel x).toArray] I [(bc,.cells #[.slice (some ⟨bp,0,none⟩) pn pc,.slice qa qn qc,.slice aa an ac] 108 (0,0)),(bp,.cells (cur).toArray 59 (0,0))] (zr2 bc bp pn pc aa an ac ks (zb8 (VN ps qs ks) (YR x))) (zqY (zb8 (VN ps qs ks) (YR x))):=by
 rcases zsC h with ⟨hk,rfl⟩ | ⟨hk,rfl⟩ | ⟨hk,rfl⟩ | ⟨hk,rfl⟩ | ⟨hk,rfl⟩
 ·
  rw [zry hk];exact ⟨ztU,zrP hX x hE⟩
 ·
  rw [zxX hk];exact ⟨zvY,zsL hX x hE⟩
 ·
  rw [ztt hk];exact ⟨zua,zhV hX x⟩
 ·
  rw [zxw hk];exact ⟨zvX,zsU hX x⟩
 rw [zxB hk];exact ⟨zvV,zmN hX x⟩
set_option maxHeartbeats 400000 in
theorem zyB {I:Qt} {pa qa aa:Option Addr} {pn pc qn qc an ac:Nat} {ps:List Pe} {qs:List Pk} {ks:List (Int×Int)} (hR:RmP I pa pn pc qa qn qc aa an ac ps qs ks) (hpn:pn≤100000) (hqn:qn≤100000) (han:an≤100000) (hnn:∀ x∈ps,x.n≤100000) (hdl:∀ q∈qs,q.n≤100000) (hsm:zeY (VN ps qs ks)=0→qn+24≤4096∧∀ pe∈ps,qn+pe.n≤4096) (x:Ev) (hE:EvM I x):Vl Tryz.prog 12 [.agg #[.slice pa pn pc,.slice qa qn qc,.slice aa an ac],.agg (zel x).toArray] I [] (DoQ (doF (VN ps qs ks) (YR x))):=by
 intro g H w hw
 refine zpR Tryz.func12 rfl Tryz.ntmps12 rfl hw ?_
 have hIc:=zzm I
 have hlp:=hR.pe.len
 have hlq:=hR.q.len
 refine zR ?_
 refine QR rfl rfl rfl (fun b_2=>?_)
 refine QR rfl rfl rfl (fun b_3=>?_)
 refine Qq zca rfl rfl (fun b_4=>?_)
 refine Qq zv3 rfl rfl (fun b_5=>?_)
 refine Qb ?_
 refine QH (.there (.there .here)) (fun I1 hI1 hb1=>?_)
 have hR:=hR.mono hI1;have hE:=hE.mono hI1;have hIc:=hIc.trans hI1
 have h3:=BxI.of hb1
 refine QH (.there (.there .here)) (fun I2 hI2 hb2=>?_)
 have hR:=hR.mono hI2;have hE:=hE.mono hI2;have h3:=h3.mono hI2;have hIc:=hIc.trans hI2
 have h2:=BxI.of hb2
 refine Qd (Qm (zR ?_))
 refine zV (Qg rfl Jd (fun hg=>by exact BxI.cells (vs:=[_,_,_]) h2) rfl) ?_
 refine zpc [_] rfl zjE .nil (zkO hR hpn hqn han hnn hdl) ?_
 rintro vv3 I3 L3 hI3 ⟨rfl,rfl⟩
 have hR:=hR.mono hI3;have hE:=hE.mono hI3;have h3:=h3.mono hI3;have h2:=h2.mono hI3;have hIc:=hIc.trans hI3
 refine zA ?_
 refine zN (zR ?_)
 refine zM ?_
 refine zC (zN ?_)
 refine zI ?_ ?_<;>intro hc13
 ·
  have hck:zeY (VN ps qs ks)≠0:=by simpa using hc13
  refine zR ?_
  refine zV (Qg rfl Jd (fun hg=>by exact Cells.g1) rfl) ?_
  refine zM ?_
  refine zh Kk ?_
  refine zS zbx ?_
  refine zN (Qs (Qe ?_))
  exact zg3 (fun a w ha hw=>⟨_,zfs rfl rfl rfl Jd zbM (by repeat (first | exact zzk | exact Cells.g0 | exact Cells.g1 | exact Cells.g2 | apply zzj)) rfl (by repeat (first | exact zzh rfl | apply zzg)) a ha w hw,_,I3,[],rfl,hIc,hw.subL QB,zgn zlK (zvK hck)⟩)
 have hck:zeY (VN ps qs ks)=0:=by simpa using hc13
 have hck2:=ztJ (by rw [←zd5 hR];exact hck)
 refine Qr (Qd (Qm ?_))
 rcases hfd:Zx (zf6 46 47 48 49 50) x.kind with _ | fid
 ·
  refine Qi ?_
  refine Z3 rfl rfl (fun r_17=>?_)
  refine (show XO _ _ _ _ _ _ _ ((r_17,Yk (.int .i64) evK ([]:List (Int×Nat)))::_) from ?_)
  refine QF (ek:=Value.int .i64) (ev:=evK) 46 JO Q3 rfl rfl rfl rfl (by repeat (first | exact Upd.here | apply Upd.there | apply Qu)) ?_
  refine QF (ek:=Value.int .i64) (ev:=evK) 47 JO Q3 rfl rfl rfl rfl (by repeat (first | exact Upd.here | apply Upd.there | apply Qu)) ?_
  refine QF (ek:=Value.int .i64) (ev:=evK) 48 JO Q3 rfl rfl rfl rfl (by repeat (first | exact Upd.here | apply Upd.there | apply Qu)) ?_
  refine QF (ek:=Value.int .i64) (ev:=evK) 49 JO Q3 rfl rfl rfl rfl (by repeat (first | exact Upd.here | apply Upd.there | apply Qu)) ?_
  refine QF (ek:=Value.int .i64) (ev:=evK) 50 JO Q3 rfl rfl rfl rfl (by repeat (first | exact Upd.here | apply Upd.there | apply Qu)) ?_
  refine zM ?_
  refine zF zgF ?_
  refine zV (Qc rfl Ql (fun hg=>by exact QA.imm h3.out rfl)) ?_
  refine zV (ZQ (ek:=Value.int .i64) (ev:=evK) (m:=(zf6 46 47 48 49 50)) JO Q3 rfl rfl (fun _=>(by exact Mem.m0))) ?_
  rw [hfd]
  refine zM ?_
  refine zE ?_
  refine zE ?_
  refine zA ?_
  refine zA (zN (Qm (zR ?_)))
  refine zM ?_
  refine zO (zN ?_)
  refine zI ?_ ?_<;>intro hc25
  ·
   refine zR ?_
   refine zV (Qg rfl Jd (fun hg=>by exact Cells.g2) rfl) ?_
   refine zh Kk ?_
   refine zS zbx ?_
   refine zN (Qs (Qe ?_))
   exact zg3 (fun a w ha hw=>⟨_,zfs rfl rfl rfl Jd zbM (by repeat (first | exact zzk | exact Cells.g0 | exact Cells.g1 | exact Cells.g2 | apply zzj)) rfl (by repeat (first | exact zzh rfl | apply zzg)) a ha w hw,_,I3,[],rfl,hIc,hw.subL QB,zgn zlK (by rw [zbR hck,zn4 hfd])⟩)
  cases hc25
 refine Qi ?_
 refine Z3 rfl rfl (fun r_17=>?_)
 refine (show XO _ _ _ _ _ _ _ ((r_17,Yk (.int .i64) evK ([]:List (Int×Nat)))::_) from ?_)
 refine QF (ek:=Value.int .i64) (ev:=evK) 46 JO Q3 rfl rfl rfl rfl (by repeat (first | exact Upd.here | apply Upd.there | apply Qu)) ?_
 refine QF (ek:=Value.int .i64) (ev:=evK) 47 JO Q3 rfl rfl rfl rfl (by repeat (first | exact Upd.here | apply Upd.there | apply Qu)) ?_
 refine QF (ek:=Value.int .i64) (ev:=evK) 48 JO Q3 rfl rfl rfl rfl (by repeat (first | exact Upd.here | apply Upd.there | apply Qu)) ?_
 refine QF (ek:=Value.int .i64) (ev:=evK) 49 JO Q3 rfl rfl rfl rfl (by repeat (first | exact Upd.here | apply Upd.there | apply Qu)) ?_
 refine QF (ek:=Value.int .i64) (ev:=evK) 50 JO Q3 rfl rfl rfl rfl (by repeat (first | exact Upd.here | apply Upd.there | apply Qu)) ?_
 refine zM ?_
 refine zF zgF ?_
 refine zV (Qc rfl Ql (fun hg=>by exact QA.imm h3.out rfl)) ?_
 refine zV (ZQ (ek:=Value.int .i64) (ev:=evK) (m:=(zf6 46 47 48 49 50)) JO Q3 rfl rfl (fun _=>(by exact Mem.m0))) ?_
 rw [hfd]
 refine zM ?_
 refine zE ?_
 refine zE ?_
 refine zA ?_
 refine zA (zN (Qm (zR ?_)))
 refine zM ?_
 refine zO (zN ?_)
 refine zI ?_ ?_<;>intro hc25
 ·
  cases hc25
 refine Qr (Qd (zR ?_))
 refine zV (Yu (us:=[]) (vs:=[_,_]) rfl rfl) ?_
 refine zhj (cap:=[Zw b_4,Zw b_5]) (vs:=[]) rfl rfl ?_
 refine zN (zR ?_)
 refine zV (Qg rfl Jd (fun hg=>by exact BxI.cells (vs:=[_,_,_]) h2) rfl) ?_
 refine zV (QK (ps:=[(0,_)]) [_,_,_] zq7 rfl rfl) ?_
 refine Qq zwK rfl rfl (fun b_9=>?_)
 refine zh zrk ?_
 refine zN (zR ?_)
 refine zF Yx ?_
 refine zV (Qc rfl JG (fun hg=>by exact QA.imm h2.out rfl)) ?_
 refine zpc [_] rfl zwa .nil (zlT hR.pe (by omega)) ?_
 rintro vv4 I4 L4 hI4 ⟨rfl,hOc⟩
 have hR:=hR.mono hI4;have hE:=hE.mono hI4;have h3:=h3.mono hI4;have hIc:=hIc.trans hI4
 obtain ⟨bp,pc9,cur,rfl,rfl,hnc9,hat9⟩:=zrK hOc hlp hck2.1.1
 refine zF Yd ?_
 refine zF Yx ?_
 refine zS zuB ?_
 refine zN (Qm ?_)
 have hX:zmQ I4 pn pc9 qa qn qc aa an ac cur ps qs ks:=⟨⟨hat9,hR.nt,hck2.2.2.1⟩,hlp,hnc9,hck2.1,hR.q,hR.pk,hR.k,hck2.2.1,hck2.2.2.2,han,hdl,hsm hck⟩
 obtain ⟨hFn,hFc⟩:=zxx (bc:=b_9) (bp:=bp) hX x hE hfd
 refine Qi (zM ?_)
 refine zV (Qg rfl zvk (fun hg=>by exact BxI.cells (vs:=zel x) h3) rfl) ?_
 refine zar (cap:=[]) (vs:=[_,_]) rfl rfl hFn (L:=[(b_9,_),(bp,_)]) (by exact .cons (.there .here) (.cons .here .nil)) hFc rfl rfl ?_ (fun pv hpv=>by (repeat (first | with_reducible refine KZ ?_ | with_reducible refine Kb ?_));obtain ⟨rfl,hne9⟩:=hpv;exact zfi (args:=[]) (cap:=[Zw b_4,Zw b_5]) zpF (by exact .cons (.there .here) (.cons (.there .here) .nil)) (zly I4 b_4 b_5 _) (fun a I' L' w' ha hI hk hs=>by obtain ⟨rfl,rfl⟩:=hk;exact ⟨_,zfs rfl rfl rfl Jd zbM (by repeat (first | exact zzk | exact Cells.g0 | exact Cells.g1 | exact Cells.g2 | apply zzj)) rfl (by repeat (first | exact zzh rfl | apply zzg)) a ha w' hs,_,_,[],rfl,hIc,hs.subL QB,zgn zlK (by rw [zbR hck];exact zqK hne9)⟩))
 rintro vv5 I5 L5 hI5 ⟨rfl,hA0,a9,m9,c9,ps9,qs9,rfl,hR9,he9⟩
 have hIc:=hIc.trans hI5
 refine zN (zR ?_)
 refine zF Yd ?_
 refine zV (Qg rfl Jd (fun hg=>by exact Cells.g0) rfl) ?_
 refine zh Kk ?_
 refine zS zbx ?_
 refine zN (Qs ?_)
 exact ziT (args:=[]) (cap:=[Zw b_4,Zw b_5]) zpF (by exact .cons (.there (.there .here)) (.cons (.there (.there .here)) .nil)) (zjv I5 b_4 b_5 _ _ _ _ _ _ _ _ _ _) (fun a I' L' w' ha hI hk hs=>by obtain ⟨rfl,rfl⟩:=hk;exact ⟨_,zfs rfl rfl rfl Jd zbM (by repeat (first | exact zzk | exact Cells.g0 | exact Cells.g1 | exact Cells.g2 | apply zzj)) rfl (by repeat (first | exact zzh rfl | apply zzg)) a ha w' hs,_,_,[],rfl,hIc,hs.subL QB,zgn (zqZ hA0 hR9 he9) (zbR hck)⟩)
end
end Go.Proofs.YtjblkbkmblkgoaaGreat
namespace Go.Kn
section
open Go
section
variable {α β:Type} {ek:α→Value} {ev:β→Value}
end
section
variable {C:Cx} {Q:Exit→Act→World→Prop} {E E':Env} {I I':Qt} {loc loc' L R:Loc} {ops:Array Oper} {rest:List Oper} {S:GS}
variable {dst:Option Tmp} {d:Nat} {ty:TypeId} {pos:String} {af:Array Edge} {gd:Option (Nat×Bool)} {x y z:Operand}
variable {α β:Type} [DecidableEq α] {ek:α→Value} {ev:β→Value} {m:List (α×β)} {a:α} {q q':Nat}
theorem zmd {m:List (α×β)}{a:α}:∀ k,Zx m a=none→zfe m a k=none:=by
 intro k h
 have:=zbt m a k
 rw [h] at this
 cases hi:zfe m a k with
 | none=>rfl
 | some p=>rw [hi] at this;cases this
end
end
end Go.Kn
section
namespace Go.Kn
open Go
section
variable {C:Cx} {S:GS} {E:Env} {I:Qt} {loc:Loc} {dst:Option Tmp} {ty:TypeId} {pos:String} {af:Array Edge} {gd:Option (Nat×Bool)} {x y:Operand} {α β:Type} [DecidableEq α] {ek:α→Value} {ev:β→Value} {m:List (α×β)} {a:α}
theorem UV {t k e r:Nat}(d:β)(hT:MpT C.P t k e (ev d))(hK:Kf C.P k ek)(hx:QE S E x=some (.map (some r)))(hy:QE S E y=some (ek a))(hm:Yf S=true→Mem I loc r (Yk ek ev m)):
  QV C S E I loc ⟨dst,.lookup t x y false,ty,pos,af,gd⟩ (ev ((Zx m a).getD d)):=by
 have h:=Xo (C:=C) (S:=S) (dst:=dst) (ty:=ty) (pos:=pos) (af:=af) (gd:=gd) hT hK hx hy hm
 have e:((Zx m a).map ev).getD (ev d)=ev ((Zx m a).getD d):=by cases Zx m a<;>rfl
 rwa [e] at h
end
end Go.Kn
namespace Go.Proofs.YtjblkbkmblkgoaaGreat
open Go Go.Kn Go.Proofs
section
variable {α:Type} (num:Nt→Int) (prt:Nt→α) (kind:Int) (chk:List α→Int) (d:α)
def zbq (m:List (Int×α))(x:Nt):List (Int×α):=if (x.kind==kind&& !(Zx m (num x)).isSome)=true then m++[(num x,prt x)] else m
def Yj (xs:List Nt):List (Int×α):=xs.foldl (zbq num prt kind) []
def ziC (m:List (Int×α))(l:List α)(k:Int):List α:=if (chk (l++[(Zx m k).getD d])==0)=true then l++[(Zx m k).getD d] else l
def zhL (m:List (Int×α))(ns:List Int):List α:=ns.foldl (ziC chk d m) []
def zeR (xs:List Nt):List α:=zhL chk d (Yj num prt kind xs) (zb7 ((Yj num prt kind xs).map (·.1)))
variable {num prt kind chk d}
theorem Q8 {xs:List Nt}{k:Nat}{x:Nt}(hx:xs[k]? =some x):Yj num prt kind (xs.take (k+1))=zbq num prt kind (Yj num prt kind (xs.take k)) x:=by
 unfold Yj
 rw [Zh hx,List.foldl_append];rfl
theorem zaz {m:List (Int×α)}{x:Nt}(hg:Zx m (num x)=none)(hk:(x.kind==kind)=true):zbq num prt kind m x=Ji m (num x) (prt x):=by
 unfold zbq
 rw [hg,hk,if_pos (by rfl),zcG _ _ _ 0 (zmd 0 hg)]
theorem JA {m:List (Int×α)}{x:Nt}(hg:Zx m (num x)=none)(hk:(x.kind==kind)=true):(zbq num prt kind m x).map (·.1)=m.map (·.1)++[num x]:=by
 unfold zbq
 rw [hg,hk,if_pos (by rfl),List.map_append];rfl
theorem zdu {m:List (Int×α)}{x:Nt}(hk:(x.kind==kind)=false):zbq num prt kind m x=m:=by
 unfold zbq
 rw [hk];rfl
theorem zaB {m:List (Int×α)}{x:Nt}{y:α}(hg:Zx m (num x)=some y):zbq num prt kind m x=m:=by
 unfold zbq
 rw [hg,if_neg (by simp)]
theorem JK {m:List (Int×α)}{ns:List Int}{j:Nat}{n:Int}(hn:ns[j]? =some n):zhL chk d m (ns.take (j+1))=ziC chk d m (zhL chk d m (ns.take j)) n:=by
 unfold zhL
 rw [Zh hn,List.foldl_append];rfl
theorem zm5 {xs:List Nt}:∀ p∈Yj num prt kind xs,∃ x∈xs,p=(num x,prt x):=by
 have key:∀ (ys:List Nt) (m:List (Int×α)),(∀ y∈ys,y∈xs)→(∀ p∈m,∃ x∈xs,p=(num x,prt x))→∀ p∈ys.foldl (zbq num prt kind) m,∃ x∈xs,p=(num x,prt x):=by
  intro ys
  induction ys with
  | nil=>intro m _ h;exact h
  | cons y ys ih=>
   intro m hy h
   rw [List.foldl_cons]
   refine ih _ (fun z hz=>hy z (List.mem_cons_of_mem _ hz)) fun p hp=>?_
   unfold zbq at hp
   split at hp
   ·
    rcases List.mem_append.1 hp with hp | hp
    ·
     exact h p hp
    ·
     rw [List.mem_singleton] at hp;exact ⟨y,hy y (List.mem_cons_self ..),hp⟩
   ·
    exact h p hp
 exact key xs [] (fun _ h=>h) (fun _ h=>by cases h)
theorem zs1 {m:List (Int×α)}{k:Int}{v:α}(h:Zx m k=some v):(k,v)∈m:=by
 induction m with
 | nil=>cases h
 | cons p m ih=>
  unfold Zx at h
  split at h
  ·
   rename_i e;cases h;subst e;exact List.mem_cons_self ..
  ·
   exact List.mem_cons_of_mem _ (ih h)
theorem zjO {xs:List Nt}{k:Int}:(Zx (Yj num prt kind xs) k).getD d=d∨∃ x∈xs,(Zx (Yj num prt kind xs) k).getD d=prt x:=by
 cases h:Zx (Yj num prt kind xs) k with
 | none=>exact .inl rfl
 | some v=>
  obtain ⟨x,hx,e⟩:=zm5 _ (zs1 h)
  exact .inr ⟨x,hx,congrArg Prod.snd e⟩
theorem zgN {xs:List Nt}{ns:List Int}:∀ p∈zhL chk d (Yj num prt kind xs) ns,p=d∨∃ x∈xs,p=prt x:=by
 have key:∀ (ms:List Int) (l:List α),(∀ p∈l,p=d∨∃ x∈xs,p=prt x)→∀ p∈ms.foldl (ziC chk d (Yj num prt kind xs)) l,p=d∨∃ x∈xs,p=prt x:=by
  intro ms
  induction ms with
  | nil=>intro l h;exact h
  | cons k ms ih=>
   intro l h
   rw [List.foldl_cons]
   refine ih _ fun p hp=>?_
   unfold ziC at hp
   split at hp
   ·
    rcases List.mem_append.1 hp with hp | hp
    ·
     exact h p hp
    ·
     rw [List.mem_singleton] at hp;subst hp;exact zjO
   ·
    exact h p hp
 exact key ns [] (fun _ h=>by cases h)
theorem VF {xs:List Nt}:(Yj num prt kind xs).length≤xs.length:=by
 have key:∀ (ys:List Nt) (m:List (Int×α)),(ys.foldl (zbq num prt kind) m).length≤m.length+ys.length:=by
  intro ys
  induction ys with
  | nil=>intro m;simp
  | cons y ys ih=>
   intro m
   rw [List.foldl_cons]
   refine Nat.le_trans (ih _) ?_
   unfold zbq
   split
   ·
    simp;omega
   ·
    simp
 have h:=key xs []
 rw [List.length_nil,Nat.zero_add] at h
 exact h
end
end Go.Proofs.YtjblkbkmblkgoaaGreat
end
namespace Go.Proofs.YtjblkbkmblkgoaaGreat
section
open Go Go.Kn Go.Proofs
theorem Kz:SlT Tryz.prog 63 41 5:=.of (by kernel_rfl)
theorem zbI:SzT Tryz.prog 41 5:=.of (by kernel_rfl)
theorem Um:SzT Tryz.prog 43 11:=.of (by kernel_rfl)
theorem zfU:Y7 Tryz.prog 41 (.agg #[(.int .i64 0),(.int .i64 0),(.int .i64 0),(.int .i64 0),(.int .i64 0)]):=.of (by kernel_rfl)
theorem zaj:Y7 Tryz.prog 43 (.agg #[(.int .i64 0),(.int .i64 0),(.int .i64 0),(.int .i64 0),(.int .i64 0),(.int .i64 0),(.string ⟨#[]⟩),(.string ⟨#[]⟩),(.int .i64 0),(.int .i64 0),(.int .i64 0)]):=.of (by kernel_rfl)
theorem zsv (I:Qt)(x:Nt):ZA Tryz.prog 67 [Kj x] I (.tuple #[V8 (x.lm),.int .i64 x.lm.no]):=by
 intro g H w hw
 refine qe Tryz.func67 Tryz.ntmps67 hw ?_
 have hIc:=zzm I
 refine zR ?_
 refine QR rfl rfl rfl (fun b_1=>?_)
 refine Qq zeS rfl rfl (fun b_2=>?_)
 refine zA (Qb ?_)
 refine QH (.there .here) (fun I1 hI1 hb1=>?_)
 have hIc:=hIc.trans hI1
 have h1:=BxI.of hb1
 refine Qd (Qm ?_)
 have hD:=zzm I1
 refine Zt ?_
 refine QQ I1 [] mixed ?_
 refine zT 0 rfl (Qa rfl Vg) hD ?_
 refine zT 1 rfl (Qg rfl JP (fun hg=>by exact zc2 (BxI.cells (vs:=Q6 x) h1)) rfl) hD ?_
 refine zT 2 rfl (Qa rfl Vg) hD ?_
 refine zT 3 rfl (Qa rfl Yw) hD ?_
 refine zT 4 rfl (Qc rfl Ql (fun hg=>by exact QA.imm h1.out rfl)) hD ?_
 refine qd 5 rfl ?_
 refine zh X4 ?_
 refine Qb ?_
 refine zD hD ?_
 refine zT 6 rfl (QC rfl) hD ?_
 refine Qn (by kernel_rfl) ?_
 refine Qx ?_
 refine Qd (Qs ?_)
 exact ZN rfl rfl rfl JP zzk rfl (fun w hw=>⟨by rfl,(hw.mono hIc).subL QB⟩)
theorem zjp (I:Qt)(av:Option Addr)(n c:Nat)(hc:n≤c):ZA Tryz.prog 136 [.slice av n c] I (.slice av n n):=by
 intro g H w hw
 refine qe Tryz.func136 Tryz.ntmps136 hw ?_
 refine zR (zA ?_)
 refine zN (zR ?_)
 refine zM ?_
 refine zM ?_
 refine zQ ZJ ?_
 refine zM ?_
 refine zQ ZJ ?_
 refine zV (Zm rfl rfl rfl ZJ (fun hg=>by omega)) ?_
 refine zA (zN (Qs ?_))
 exact Qv rfl rfl (fun w hw=>⟨by rfl,hw⟩)
theorem zqW (I:Qt)(x:Nt):ZA Tryz.prog 69 [Kj x] I (.tuple #[L.encA (x.ls),.int .i64 x.ls.no]):=by
 intro g H w hw
 refine qe Tryz.func69 Tryz.ntmps69 hw ?_
 have hIc:=zzm I
 refine zR ?_
 refine QR rfl rfl rfl (fun b_1=>?_)
 refine Qq zfU rfl rfl (fun b_2=>?_)
 refine zA (Qb ?_)
 refine QH (.there .here) (fun I1 hI1 hb1=>?_)
 have hIc:=hIc.trans hI1
 have h1:=BxI.of hb1
 refine Qd (Qm ?_)
 have hD:=zzm I1
 refine Zt ?_
 refine QQ I1 [] mixed ?_
 refine zT 0 rfl (Qa rfl VX) hD ?_
 refine zT 1 rfl (Qg rfl JR (fun hg=>by exact zdx (BxI.cells (vs:=Q6 x) h1)) rfl) hD ?_
 refine zT 2 rfl (Qa rfl VX) hD ?_
 refine zT 3 rfl (Qa rfl JT) hD ?_
 refine zT 4 rfl (Qc rfl Ql (fun hg=>by exact QA.imm h1.out rfl)) hD ?_
 refine qd 5 rfl ?_
 refine zh zbI ?_
 refine Qb ?_
 refine zD hD ?_
 refine zT 6 rfl (QC rfl) hD ?_
 refine Qn (by kernel_rfl) ?_
 refine Qx ?_
 refine Qd (Qs ?_)
 exact ZN rfl rfl rfl JR zzk rfl (fun w hw=>⟨by rfl,(hw.mono hIc).subL QB⟩)
theorem zkp (I:Qt)(av:Option Addr)(n c:Nat)(hc:n≤c):ZA Tryz.prog 137 [.slice av n c] I (.slice av n n):=by
 intro g H w hw
 refine qe Tryz.func137 Tryz.ntmps137 hw ?_
 refine zR (zA ?_)
 refine zN (zR ?_)
 refine zM ?_
 refine zM ?_
 refine zQ Kz ?_
 refine zM ?_
 refine zQ Kz ?_
 refine zV (Zm rfl rfl rfl Kz (fun hg=>by omega)) ?_
 refine zA (zN (Qs ?_))
 exact Qv rfl rfl (fun w hw=>⟨by rfl,hw⟩)
theorem zsx (I:Qt)(x:Nt):ZA Tryz.prog 71 [Kj x] I (.tuple #[KD (x.pt),.int .i64 x.pt.id]):=by
 intro g H w hw
 refine qe Tryz.func71 Tryz.ntmps71 hw ?_
 have hIc:=zzm I
 refine zR ?_
 refine QR rfl rfl rfl (fun b_1=>?_)
 refine Qq za9 rfl rfl (fun b_2=>?_)
 refine zA (Qb ?_)
 refine QH (.there .here) (fun I1 hI1 hb1=>?_)
 have hIc:=hIc.trans hI1
 have h1:=BxI.of hb1
 refine Qd (Qm ?_)
 have hD:=zzm I1
 refine Zt ?_
 refine QQ I1 [] mixed ?_
 refine zT 0 rfl (Qa rfl Yo) hD ?_
 refine zT 1 rfl (Qg rfl Vs (fun hg=>by exact zai (BxI.cells (vs:=Q6 x) h1)) rfl) hD ?_
 refine zT 2 rfl (Qa rfl Yo) hD ?_
 refine zT 3 rfl (Qa rfl Z2) hD ?_
 refine zT 4 rfl (Qc rfl Ql (fun hg=>by exact QA.imm h1.out rfl)) hD ?_
 refine qd 5 rfl ?_
 refine zh UH ?_
 refine Qb ?_
 refine zD hD ?_
 refine zT 6 rfl (QC rfl) hD ?_
 refine Qn (by kernel_rfl) ?_
 refine Qx ?_
 refine Qd (Qs ?_)
 exact ZN rfl rfl rfl Vs zzk rfl (fun w hw=>⟨by rfl,(hw.mono hIc).subL QB⟩)
theorem zmt (I:Qt)(av:Option Addr)(n c:Nat)(hc:n≤c):ZA Tryz.prog 138 [.slice av n c] I (.slice av n n):=by
 intro g H w hw
 refine qe Tryz.func138 Tryz.ntmps138 hw ?_
 refine zR (zA ?_)
 refine zN (zR ?_)
 refine zM ?_
 refine zM ?_
 refine zQ Kv ?_
 refine zM ?_
 refine zQ Kv ?_
 refine zV (Zm rfl rfl rfl Kv (fun hg=>by omega)) ?_
 refine zA (zN (Qs ?_))
 exact Qv rfl rfl (fun w hw=>⟨by rfl,hw⟩)
theorem ztA (I:Qt)(x:Nt):ZA Tryz.prog 73 [Kj x] I (.tuple #[S.encA (x.rt),.int .i64 x.rt.no]):=by
 intro g H w hw
 refine qe Tryz.func73 Tryz.ntmps73 hw ?_
 have hIc:=zzm I
 refine zR ?_
 refine QR rfl rfl rfl (fun b_1=>?_)
 refine Qq zaj rfl rfl (fun b_2=>?_)
 refine zA (Qb ?_)
 refine QH (.there .here) (fun I1 hI1 hb1=>?_)
 have hIc:=hIc.trans hI1
 have h1:=BxI.of hb1
 refine Qd (Qm ?_)
 have hD:=zzm I1
 refine Zt ?_
 refine QQ I1 [] mixed ?_
 refine zT 0 rfl (Qa rfl Yl) hD ?_
 refine zT 1 rfl (Qg rfl YC (fun hg=>by exact zdf (BxI.cells (vs:=Q6 x) h1)) rfl) hD ?_
 refine zT 2 rfl (Qa rfl Yl) hD ?_
 refine zT 3 rfl (Qa rfl YP) hD ?_
 refine zT 4 rfl (Qc rfl Ql (fun hg=>by exact QA.imm h1.out rfl)) hD ?_
 refine qd 5 rfl ?_
 refine zh Um ?_
 refine Qb ?_
 refine zD hD ?_
 refine zT 6 rfl (QC rfl) hD ?_
 refine Qn (by kernel_rfl) ?_
 refine Qx ?_
 refine Qd (Qs ?_)
 exact ZN rfl rfl rfl YC zzk rfl (fun w hw=>⟨by rfl,(hw.mono hIc).subL QB⟩)
theorem zjZ (I:Qt)(av:Option Addr)(n c:Nat)(hc:n≤c):ZA Tryz.prog 139 [.slice av n c] I (.slice av n n):=by
 intro g H w hw
 refine qe Tryz.func139 Tryz.ntmps139 hw ?_
 refine zR (zA ?_)
 refine zN (zR ?_)
 refine zM ?_
 refine zM ?_
 refine zQ Z9 ?_
 refine zM ?_
 refine zQ Z9 ?_
 refine zV (Zm rfl rfl rfl Z9 (fun hg=>by omega)) ?_
 refine zA (zN (Qs ?_))
 exact Qv rfl rfl (fun w hw=>⟨by rfl,hw⟩)
end
section
open Go Go.Kn Go.Proofs
def zvE (ps:List Pt):List Int:=ps.map (·.id)
def lsQ (ps:List Pt)(i:Nat):Bool:= !((decide ((i:Int)>0)&&decide ((ps.getD i Jh).id≤(ps.getD ((i:Int)-1).toNat Jh).id))||(ps.getD i Jh).needs.any (fun n=> !ziF (ps.take i) n))
theorem zpE {ps:List Pt}{k:Nat}{p:Pt}{l:Int}{s:List (Int×Bool)}(hp:ps[k]? =some p)(h1:1≤p.id)(hl:zh7 (zvE ps) k l)(hs:∀ x,znR s x=ziF (ps.take k) x):lsQ ps k= !(decide (p.id≤l)||p.needs.any fun x=> !znR s x):=by
 unfold lsQ
 rw [Vk hp]
 simp only [hs]
 congr 2
 cases k with
 | zero=>
  rw [hl.1 rfl,Bool.eq_iff_iff];simp;omega
 | succ k=>
  have hk:=(List.getElem?_eq_some_iff.1 hp).1
  have hy:ps[k]? =some (ps[k]'(by omega)):=List.getElem?_eq_getElem _
  have e:=hl.2 (ps[k]'(by omega)).id (by rw [Nat.add_sub_cancel];simp [zvE,hy]) (by omega)
  rw [show (((k+1:Nat):Int)-1).toNat=k by omega,Vk hy,←e,Bool.eq_iff_iff];simp
theorem zhP {ps:List Pt}{k:Nat}{p:Pt}(hp:ps[k]? =some p):zh7 (zvE ps) (k+1) p.id:=zcj (by simp [zvE,hp])
theorem zpm {ps:List Pt}{k:Nat}{p:Pt}(hp:ps[k]? =some p)(x:Int):ziF (ps.take (k+1)) x=(decide (p.id=x)||ziF (ps.take k) x):=by
 unfold ziF
 rw [Xj hp,List.any_append,Bool.eq_iff_iff]
 simp [or_comm]
theorem znp {ps:List Pt}{k:Nat}{n:Int}(h:ziF (ps.take k) n=true):ziF ps n=true:=by
 obtain ⟨q,hq,e⟩:=zaG.1 h
 exact zaG.2 ⟨q,List.mem_of_mem_take hq,e⟩
theorem zlO {ps:List Pt}(h0:orF (ps.map KO)=0):(List.range ps.length).all (lsQ ps)=lsB ps:=by
 rw [Bool.eq_iff_iff]
 constructor
 ·
  intro h
  unfold lsB
  rw [List.all_eq_true] at h ⊢
  intro i hi
  have:=h i hi
  unfold lsQ at this
  unfold lsP
  simp only [Bool.not_eq_true',Bool.or_eq_false_iff] at this ⊢
  refine ⟨this.1,?_⟩
  have h2:=this.2
  rw [List.any_eq_false] at h2 ⊢
  intro n hn hc
  refine h2 n hn ?_
  rw [Bool.not_eq_true'] at hc ⊢
  cases hh:ziF (ps.take i) n with
  | false=>rfl
  | true=>rw [znp hh] at hc;cases hc
 ·
  intro h
  have hL:=zpL h0 h
  unfold lsB at h
  rw [List.all_eq_true] at h ⊢
  intro i hi
  have:=h i hi
  unfold lsP at this
  unfold lsQ
  simp only [Bool.not_eq_true',Bool.or_eq_false_iff] at this ⊢
  refine ⟨this.1,?_⟩
  rw [List.any_eq_false]
  intro n hn hc
  have hk:ps[i]? =some (ps.getD i Jh):=KQ rfl (List.mem_range.1 hi)
  obtain ⟨q,hq,e⟩:=hL.before hk hn
  rw [zaG.2 ⟨q,hq,e⟩] at hc
  cases hc
/-! ### Inserts and removes of a sign -/
def JZ (k:Int)(ps:List Pt)(s:Int):List Int:=(ps.filter fun q=>q.kind==k&&q.sign==s).map (·.id)
theorem U1 {c:Int}{ps:List Pt}{k:Nat}{p:Pt}(hp:ps[k]? =some p)(s:Int):JZ c (ps.take (k+1)) s=JZ c (ps.take k) s++(if p.kind=c∧p.sign=s then [p.id] else []):=by
 unfold JZ
 rw [Xj hp,List.filter_append,List.map_append]
 congr 1
 by_cases h:p.kind=c∧p.sign=s
 ·
  rw [if_pos h];simp [h.1,h.2]
 ·
  rw [if_neg h]
  have:(p.kind==c&&p.sign==s)=false:=by
   rw [Bool.eq_false_iff];intro hc;simp at hc;exact h hc
  simp [this]
theorem Xe {c:Int}{ps:List Pt}{s x:Int}:x∈JZ c ps s↔ ∃ q∈ps,q.kind=c∧q.sign=s∧q.id=x:=by
 unfold JZ
 rw [zsN]
 simp [and_assoc]
def zhW (mi:List (Int×Int))(ps:List Pt):Prop:=∀ s,JZ 2 ps s=(Zx mi s).toList
theorem zhW.nil {ps:List Pt}:zhW [] (ps.take 0):=fun s=>by simp [JZ,Zx]
theorem zhW.put {mi:List (Int×Int)}{ps:List Pt}{k:Nat}{p:Pt}(h:zhW mi (ps.take k))(hp:ps[k]? =some p)(hk:p.kind=2)(hn:Zx mi p.sign=none):zhW (Ji mi p.sign p.id) (ps.take (k+1)):=fun s=>by
 rw [U1 hp,h s,V2]
 by_cases e:p.sign=s
 ·
  subst e;rw [if_pos ⟨hk,rfl⟩,if_pos rfl,hn];rfl
 ·
  rw [if_neg (fun q=>e q.2),if_neg e,List.append_nil]
theorem zhW.skip {mi:List (Int×Int)}{ps:List Pt}{k:Nat}{p:Pt}(h:zhW mi (ps.take k))(hp:ps[k]? =some p)(hk:p.kind≠2):zhW mi (ps.take (k+1)):=fun s=>by
 rw [U1 hp,h s,if_neg (fun q=>hk q.1),List.append_nil]
def ziD (mr:List (Int×(Value×Nat×List Value)))(ps:List Pt):Prop:=∀ s,((Zx mr s).getD zev).2.2=(JZ 3 ps s).flatMap Z1
theorem ziD.nil {ps:List Pt}:ziD [] (ps.take 0):=fun s=>by simp [JZ,Zx,zev]
theorem ziD.put {mr:List (Int×(Value×Nat×List Value))}{ps:List Pt}{k n:Nat}{p:Pt}{v:Value}(h:ziD mr (ps.take k))(hp:ps[k]? =some p)(hk:p.kind=3):ziD (Ji mr p.sign (v,n,((Zx mr p.sign).getD zev).2.2++[p.id].flatMap Z1)) (ps.take (k+1)):=fun s=>by
 rw [U1 hp,V2]
 by_cases e:p.sign=s
 ·
  subst e;rw [if_pos rfl,if_pos ⟨hk,rfl⟩,List.flatMap_append,←h];rfl
 ·
  rw [if_neg e,if_neg (fun q=>e q.2),List.append_nil,h s]
theorem ziD.skip {mr:List (Int×(Value×Nat×List Value))}{ps:List Pt}{k:Nat}{p:Pt}(h:ziD mr (ps.take k))(hp:ps[k]? =some p)(hk:p.kind≠3):ziD mr (ps.take (k+1)):=fun s=>by
 rw [U1 hp,h s,if_neg (fun q=>hk q.1),List.append_nil]
theorem ze6 {c:Int}{ps:List Pt}{s:Int}:(JZ c ps s).length≤ps.length:=by
 unfold JZ
 rw [List.length_map]
 exact List.length_filter_le _ _
theorem zuK {I:Qt}{e:Nat}{mr:List (Int×(Value×Nat×List Value))}{ps:List Pt}{L:Go.Kn.Loc}(h:ziD mr ps)(hA:Wf e 1 (mr.map (·.2)) L)(hI:∀ b o,(b,o)∈L→I b=some o)(s:Int):
  ∃ av c,((Zx mr s).getD zev).1= .slice av (JZ 3 ps s).length c∧Sl I 1 Z1 av (JZ 3 ps s).length c (JZ 3 ps s):=by
 obtain ⟨A,Lt,B,rfl,hO,_⟩:=hA.at s
 rw [h s] at hO
 obtain ⟨av,c,e1,e2⟩:=hO.sl YF (by decide) (fun b o hb=>hI b o (by simp [hb]))
 have hn:=e2.len
 rw [←hn] at e1 e2
 exact ⟨av,c,e1,e2⟩
theorem zub {e:Nat}{mr:List (Int×(Value×Nat×List Value))}{ps:List Pt}{s:Int}{L:Go.Kn.Loc}(h:ziD mr ps)(hO:Ya e 1 ((Zx mr s).getD zev).1 ((Zx mr s).getD zev).2.1 ((Zx mr s).getD zev).2.2 L):((Zx mr s).getD zev).2.1≤ps.length:=by
 have h1:=hO.1
 rw [h s,zy9] at h1
 have h2:=ze6 (c:=3) (ps:=ps) (s:=s)
 omega
theorem zko {x y:Nat×Obj}{A L B:Go.Kn.Loc}:(x::y::(A++(L++B))).Perm (L++(x::y::(A++B))):=List.perm_append_comm_assoc (x::y::A) L B
def tgP (ps:List Pt)(p:Pt):Bool:= !(((JZ 2 ps p.sign).any fun i=>p.id != i&& !onF ps p.id i)||(JZ 3 ps p.sign).any (onF ps p.id))
theorem zmx {ps:List Pt}(hL:Lst ps){mi:List (Int×Int)}(hi:zhW mi ps):zpo ps=ps.all (tgP ps):=by
 unfold zpo
 rw [Bool.eq_iff_iff,List.all_eq_true,List.all_eq_true]
 refine forall_congr' fun p=>forall_congr' fun hp=>?_
 unfold tgP
 rw [List.all_eq_true]
 simp only [Bool.not_eq_true',Bool.or_eq_false_iff,List.any_eq_false,Xe]
 constructor
 ·
  intro h
  constructor
  ·
   rintro x ⟨q,hq,h2,hs,rfl⟩ hc
   have:=h q hq
   unfold zvb at this
   rw [if_neg (by simpa using hs.symm),if_pos h2] at this
   simp at this hc
   rcases this with e | e
   ·
    exact hc.1 e
   ·
    rw [hc.2] at e;cases e.2
  ·
   rintro x ⟨q,hq,h3,hs,rfl⟩ hc
   have:=h q hq
   unfold zvb at this
   rw [if_neg (by simpa using hs.symm),if_neg (by omega),if_pos h3] at this
   simp at this
   rcases this with e | e
   ·
    rw [e,hL.on_irr] at hc;cases hc
   ·
    rw [e] at hc;cases hc
 ·
  rintro ⟨h1,h2⟩ q hq
  unfold zvb
  by_cases hs:p.sign=q.sign
  ·
   rw [if_neg (by simpa using hs)]
   by_cases e:p.id=q.id
   ·
    simp [e]
   ·
    by_cases k2:q.kind=2
    ·
     rw [if_pos k2]
     have:=h1 q.id ⟨q,hq,k2,hs.symm,rfl⟩
     have hk:p.kind≠2:=fun k=>e (by
      have hm1:=Xe.2 ⟨p,hp,k,rfl,rfl⟩
      have hm2:=Xe.2 ⟨q,hq,k2,hs.symm,rfl⟩
      rw [hi p.sign] at hm1 hm2
      cases hg:Zx mi p.sign with
      | none=>rw [hg] at hm1;cases hm1
      | some z=>rw [hg] at hm1 hm2;simp at hm1 hm2;rw [hm1,hm2])
     simp [e] at this
     simp [this,hk]
    ·
     rw [if_neg k2]
     by_cases k3:q.kind=3
     ·
      rw [if_pos k3]
      have:=h2 q.id ⟨q,hq,k3,hs.symm,rfl⟩
      simp at this
      simp [this]
     ·
      rw [if_neg k3];simp
  ·
   rw [if_pos hs];simp
theorem ztb {ps:List Pt}(hL:Lst ps){mi:List (Int×Int)}{k:Nat}{p:Pt}{id:Int}(h:zhW mi (ps.take k))(hp:ps[k]? =some p)(hk:p.kind=2)(hn:Zx mi p.sign=some id):zpo ps=false:=by
 have hm:id∈JZ 2 (ps.take k) p.sign:=by rw [h,hn];simp
 obtain ⟨q,hq,k2,hs,rfl⟩:=Xe.1 hm
 have hlt:=hL.fresh hp q hq
 unfold zpo
 rw [Bool.eq_false_iff]
 intro hc
 rw [List.all_eq_true] at hc
 have h1:=hc p (List.mem_of_getElem? hp)
 rw [List.all_eq_true] at h1
 have h2:=h1 q (List.mem_of_mem_take hq)
 unfold zvb at h2
 rw [if_neg (by simpa using hs.symm),if_pos k2] at h2
 simp [hk] at h2
 omega
theorem zp2 {ps:List Pt}{p:Pt}{mi:List (Int×Int)}(hi:zhW mi ps):((Zx mi p.sign).isSome&&(p.id != (Zx mi p.sign).getD 0)&& !onF ps p.id ((Zx mi p.sign).getD 0))=((JZ 2 ps p.sign).any fun i=>p.id != i&& !onF ps p.id i):=by
 rw [hi p.sign]
 cases Zx mi p.sign with
 | none=>rfl
 | some x=>simp
theorem zwf {ps:List Pt}(h:ps.length>512):zb5 ps=2:=by unfold zb5;rw [if_pos h]
theorem zt3 {ps:List Pt}(h:¬ps.length>512){k:Nat}{p:Pt}(hp:ps[k]? =some p)(h0:orF ((ps.take k).map KO)=0)(h1:KO p≠0):zb5 ps=KO p:=by
 have:orF (ps.map KO)=KO p:=zm4 (k:=k) (by simp [hp]) (by rw [←List.map_take];exact h0) h1
 unfold zb5;rw [if_neg h,this,if_pos h1]
theorem zwQ {ps:List Pt}(h:¬ps.length>512)(h0:orF (ps.map KO)=0)(h1:lsB ps=false):zb5 ps=380:=by unfold zb5;rw [if_neg h,if_neg (by omega),h1];rfl
theorem zlm {ps:List Pt}(h:¬ps.length>512)(h0:orF (ps.map KO)=0)(h1:lsB ps=true)(h2:zpo ps=false):zb5 ps=380:=by unfold zb5;rw [if_neg h,if_neg (by omega),h1,h2];rfl
theorem zvc {ps:List Pt}(h:¬ps.length>512)(h0:orF (ps.map KO)=0)(h1:lsB ps=true)(h2:zpo ps=true):zb5 ps=0:=by unfold zb5;rw [if_neg h,if_neg (by omega),h1,h2];rfl
theorem zrX {ps:List Pt}{k:Nat}{p:Pt}(hp:ps[k]? =some p)(h0:orF ((ps.take k).map KO)=0)(h1:KO p=0):orF ((ps.take (k+1)).map KO)=0:=by
 rw [zas] at h0 ⊢
 intro x hx
 rw [Xj hp,List.map_append,List.mem_append] at hx
 rcases hx with hx | hx
 ·
  exact h0 x hx
 ·
  simp at hx;rw [hx,h1]
theorem znB {p:Pt}(h:KO p=0):1≤p.id∧p.id≤1048576∧0≤p.sign∧p.sign≤1048576∧p.needs.length≤32:=by
 unfold KO at h
 split at h
 ·
  cases h
 ·
  split at h
  ·
   rename_i h1 h2
   simp only [Bool.and_eq_true] at h2
   have h3:=h2.2.1
   unfold idB at h3
   simp at h3
   omega
  ·
   cases h
theorem zxD {I:Qt}{av:Option Addr}{n c:Nat}{ps:List Pt}(hP:SlP I av n c ps)(hz:∀ p∈ps,KO p=0):∀ p∈ps,p.n≤100000:=fun p hp=>by
 have h1:Sl I 1 Z1 p.a p.n p.c p.needs:=hP.2 p hp
 have h2:=hz p hp
 have h3:=h1.len
 unfold KO at h2
 split at h2
 ·
  cases h2
 ·
  omega
end
section
open Go Go.Kn Go.Proofs
theorem zud {I:Qt}{av:Option Addr}{n c:Nat}{ps:List Pt}(hP:SlP I av n c ps)(hn:n≤100000):ZA Tryz.prog 39 [.slice av n c] I (.int .i64 (zb5 ps)):=by
 intro g H w hw
 refine qe Tryz.func39 Tryz.ntmps39 hw ?_
 have hIc:=zzm I
 refine zR (zA (zN (Qm (zR ?_))))
 refine zM ?_
 refine zQ Kv ?_
 refine zC (zN ?_)
 refine zI ?_ ?_<;>intro hc24
 ·
  have hlen:ps.length>512:=by rw [hP.len];simp at hc24;omega
  refine zR (zA (zN (Qs (Qe ?_))))
  exact zp hIc rfl rfl (by rw [zwf hlen])
 have hlen:¬ps.length>512:=by rw [hP.len];simp at hc24;omega
 refine Qr (Qd (Qm (zR (zM ?_))))
 refine zQ Kv ?_
 refine zM (zN (Qw ?_))
 refine zU [(0,_),(25,_),(26,_)] (fun T L0 mz E I' loc'=>∃ (k:Nat) (e:Int),mz=n-k∧E=(27,.int .i64 k)::T∧I=I'∧L0=loc'∧k≤n∧e=0∧orF ((ps.take k).map KO)=0) ?_ (h:=⟨0,0,rfl,rfl,rfl,rfl,Nat.zero_le _,rfl,rfl⟩)
 rintro mz E I' loc' ⟨k,e,rfl,rfl,rfl,rfl,hk,he,h0⟩
 refine zR (zC (zN (Qm ?_)))
 refine zI ?_ ?_<;>intro hc28
 ·
  have hlt_k:k<n:=by have h:=hc28;simp at h;omega
  have hP1:=hP.1
  obtain ⟨p,hp,hN⟩:=hP.at hlt_k
  have hpm:=List.mem_of_getElem? hp
  have hN:Sl I 1 Z1 p.a p.n p.c p.needs:=hN
  refine Qr (Qd (Qm (Qw (zR ?_))))
  refine zV (QG rfl rfl Kv (by assumption) (fun hg=>by omega)) ?_
  refine zV (Qg rfl Vs (fun hg=>by exact zzn hP1 hp) rfl) ?_
  refine Qq za9 rfl rfl (fun b_4=>?_)
  refine zh UH ?_
  refine zN (zR ?_)
  refine zV (Qg rfl Vs (fun hg=>by exact Cells.g0) rfl) ?_
  refine qcV (vs:=[_]) rfl zpx (zqf p hN) ?_
  refine zA ?_
  refine zN (zR ?_)
  refine zM ?_
  refine zC (zN ?_)
  refine zI ?_ ?_<;>intro hc34
  ·
   have hbad:zb5 ps=KO p:=zt3 hlen hp h0 (by simpa using hc34)
   refine zR (zM ?_)
   refine zA (zN (Qs (Qj (Qe (Qe (Qj (Qe ?_)))))))
   exact zp hIc rfl rfl (by rw [hbad])
  have hpk:KO p=0:=by simpa using hc34
  refine Qr (Qk (Qd (Qi (zB ?_))))
  refine zM (Qb ?_)
  exact zm (h:=⟨n-(k+1),by omega,k+1,_,rfl,rfl,rfl,rfl,by omega,hpk,zrX hp h0 hpk⟩)
 have hge_k:n≤k:=by have h:=hc28;simp at h;omega
 have h0:orF (ps.map KO)=0:=by rw [ZW hP.len hge_k] at h0;exact h0
 have hz:∀ p∈ps,KO p=0:=fun p hp=>zas.1 h0 _ (List.mem_map.2 ⟨p,hp,rfl⟩)
 have hnd:=zxD hP hz
 refine Zi (Qo (Qo (Qz (Qd (zR ?_)))))
 refine Z3 rfl rfl (fun r_37=>?_)
 refine Qq zw3 rfl rfl (fun b_5=>?_)
 refine zS ztK ?_
 refine zA (zN (Qm (zR ?_)))
 refine zM ?_
 refine zQ Kv ?_
 refine zM (zN (Qw ?_))
 refine zU [(0,_),(5,_),(38,_),(39,_)] (fun T L0 mz E I' loc'=>∃ (k:Nat) (l:Int) (s:List (Int×Bool)),mz=n-k∧E=(6,.int .i64 l)::(40,.int .i64 k)::T∧I=I'∧[(b_5,.cells #[.map (some r_37)] 143 (0,0)),(r_37,Yk (Value.int .i64) Value.bool s)]=loc'∧k≤n∧(List.range k).all (lsQ ps)=true∧zh7 (zvE ps) k l∧∀ x,znR s x=ziF (ps.take k) x) ?_ (h:=⟨0,0,[],rfl,rfl,rfl,rfl,Nat.zero_le _,rfl,⟨fun _=>rfl,fun y hy h=>absurd rfl h⟩,fun x=>rfl⟩)
 rintro mz E I' loc' ⟨k,l,s,rfl,rfl,rfl,rfl,hk,hall,hl,hs⟩
 refine zR (zC (zN (Qm ?_)))
 refine zI ?_ ?_<;>intro hc41
 ·
  have hlt_k:k<n:=by have h:=hc41;simp at h;omega
  have hP1:=hP.1
  obtain ⟨p,hp,hN⟩:=hP.at hlt_k
  have hpm:=List.mem_of_getElem? hp
  have hN:Sl I 1 Z1 p.a p.n p.c p.needs:=hN
  have hpn:=hnd p hpm
  have hp1:=(znB (hz p hpm)).1
  refine Qr (Qd (Qm (Qw (zR ?_))))
  refine zV (QG rfl rfl Kv (by assumption) (fun hg=>by omega)) ?_
  refine zV (Qg rfl Vs (fun hg=>by exact zzn hP1 hp) rfl) ?_
  refine Qq za9 rfl rfl (fun b_8=>?_)
  refine zh UH ?_
  refine zN (Qm (zR ?_))
  refine zF Z2 ?_
  refine zL Ql ?_
  refine zM ?_
  refine zC ?_
  refine zM ?_
  refine QM 4 rfl rfl rfl ?_
  refine zJ (Qa rfl ZK) ?_
  refine zJ (Qc rfl Y5 (fun hg=>by exact QA.h0 rfl)) ?_
  refine zJ (Yu (us:=[]) (vs:=[_]) rfl rfl) ?_
  refine zeU (cap:=[]) (vs:=[_,_]) rfl rfl zvn ZL (fun hg=>zje.ofV fun I' hI' hL'=>zxR (cap:=[.pointer (some ⟨b_5,0,none⟩)]) (hN.mono hI') hpn zu7 (fun x _=>zxu (b:=b_5) (r:=r_37) (s:=s) (hL' b_5 _ (by simp)) (hL' r_37 _ (by simp)) x)) (.some rfl rfl rfl rfl gbf) rfl rfl ?_
  refine Zb rfl rfl rfl rfl rfl ?_
  refine zN ?_
  refine zI ?_ ?_<;>intro hc53
  ·
   have hbad:zb5 ps=380:=zwQ hlen h0 (by rw [←zlO h0];exact JI (k:=k) (by rw [hP.len];exact hlt_k) (by rw [zpE hp hp1 hl hs];exact congrArg (! ·) hc53))
   refine zR (zA (zN (Qs (Qe (Qj (Qe (Qe ?_)))))))
   refine Qj (Qe ?_)
   exact zp hIc rfl rfl (by rw [hbad])
  refine Qr (Qd ?_)
  have hD:=zzm I
  refine Zt ?_
  refine QQ I [(b_8,.cells (WG p).toArray 39 (0,0)),(b_5,.cells #[.map (some r_37)] 143 (0,0))] mixed ?_
  refine zT 0 rfl (Qc rfl zmv (fun hg=>by exact QA.h1 rfl)) hD ?_
  refine zT 1 rfl (Qa rfl Z2) hD ?_
  refine zT 2 rfl (Qc rfl Ql (fun hg=>by exact QA.h0 rfl)) hD ?_
  refine zT 3 rfl (Qa rfl Z2) hD ?_
  refine zT 4 rfl (Qc rfl Ql (fun hg=>by exact QA.h0 rfl)) hD ?_
  refine qd 5 rfl ?_
  refine Z6 (m:=s) (ek:=Value.int .i64) (ev:=Value.bool) (a:=p.id) true Ws Q3 rfl rfl rfl rfl (by repeat (first | exact Upd.here | apply Upd.there | apply Qu)) ?_
  refine Qb ?_
  refine zD hD ?_
  refine zT 6 rfl (QC rfl) hD ?_
  refine Qn (by kernel_rfl) ?_
  refine Qx ?_
  refine Qk (Qd (Qi (zB ?_)))
  refine zM (Qb ?_)
  exact zm (h:=⟨n-(k+1),by omega,k+1,_,_,rfl,rfl,rfl,rfl,by omega,VJ hall (by rw [zpE hp hp1 hl hs];exact congrArg (! ·) hc53),zhP hp,fun x=>by rw [zgK,hs,zpm hp]⟩)
 have hge_k:n≤k:=by have h:=hc41;simp at h;omega
 have hls:lsB ps=true:=by rw [←zlO h0,hP.len,show n=k by omega];exact hall
 have hL:Lst ps:=zpL h0 hls
 refine Zi (Qo (Qo (Qz (Qd (zR (zM ?_))))))
 refine zpc [_] rfl zvH .nil (zov hP hn hL hnd) ?_
 rintro vv3 I3 L3 hI3 ⟨rfl,r9,rfl,hOn⟩
 have hP:=hP.mono hI3;have hIc:=hIc.trans hI3
 refine zA ?_
 refine zN (zR ?_)
 refine Z3 rfl rfl (fun r_62=>?_)
 refine Z3 rfl rfl (fun r_63=>?_)
 refine zA ?_
 refine zA (zN (Qm (Qm ?_)))
 refine zoC [(r_63,Yk (Value.int .i64) zsI []),(r_62,Yk (Value.int .i64) (Value.int .i64) [])] (by repeat (first | exact QB | exact .refl | refine .keep ?_ | refine .drop ?_)) ?_
 refine Qi (zM ?_)
 refine zQ Kv ?_
 refine zM (zN (Qw ?_))
 refine zU [(0,_),(9,_),(10,_),(11,_),(64,_),(65,_)] (fun T L0 mz E I' loc'=>∃ (k:Nat) (mi:List (Int×Int)) (mr:List (Int×(Value×Nat×List Value))) (L:Go.Kn.Loc),mz=n-k∧E=(66,.int .i64 k)::T∧I3=I'∧(r_63,Yk (Value.int .i64) zsI mr)::(r_62,Yk (Value.int .i64) (Value.int .i64) mi)::L=loc'∧k≤n∧zhW mi (ps.take k)∧ziD mr (ps.take k)∧Wf 3 1 (mr.map (·.2)) L) ?_ (h:=⟨0,[],[],[],rfl,rfl,rfl,rfl,Nat.zero_le _,zhW.nil,ziD.nil,Wf.nil⟩)
 rintro mz E I' loc' ⟨k,mi,mr,L,rfl,rfl,rfl,rfl,hk,hmi,hmr,hAll⟩
 refine zR (zC (zN (Qm ?_)))
 refine zI ?_ ?_<;>intro hc67
 ·
  have hlt_k:k<n:=by have h:=hc67;simp at h;omega
  have hP1:=hP.1
  obtain ⟨p,hp,hN⟩:=hP.at hlt_k
  have hpm:=List.mem_of_getElem? hp
  have hN:Sl I3 1 Z1 p.a p.n p.c p.needs:=hN
  have hpn:=hnd p hpm
  refine Qr (Qd (Qm (Qw (zR ?_))))
  refine zV (QG rfl rfl Kv (by assumption) (fun hg=>by omega)) ?_
  refine zV (Qg rfl Vs (fun hg=>by exact zzn hP1 hp) rfl) ?_
  refine Qq za9 rfl rfl (fun b_13=>?_)
  refine zh UH ?_
  refine zN (zR ?_)
  refine zF Jv ?_
  refine zL Ql ?_
  refine zN (Qw (zR (zC ?_)))
  refine zA (zN ?_)
  refine zI ?_ ?_<;>intro hc72
  ·
   have hk2:p.kind=2:=by simpa using hc72
   refine Qm (zR (zM ?_))
   refine zF Yn ?_
   refine zL Ql ?_
   refine zV (zad (m:=mi) (ek:=Value.int .i64) (a:=p.sign) zgg Q3 rfl rfl (fun _=>.inr (by simp))) ?_
   refine zM ?_
   refine zE ?_
   refine zE ?_
   refine zA ?_
   refine zA ?_
   refine zN (zR ?_)
   refine zM (zN ?_)
   refine zI ?_ ?_<;>intro hc81
   ·
    obtain ⟨id,hid⟩:=Option.isSome_iff_exists.1 hc81
    have hbad:zb5 ps=380:=zlm hlen h0 hls (ztb hL hmi hp hk2 hid)
    refine zR (zA (zN (Qs (Qe (Qj (Qj (Qe ?_)))))))
    refine Qe (Qj (Qe ?_))
    exact zp hIc rfl rfl (by rw [hbad])
   have hnone:Zx mi p.sign=none:=by simpa using hc81
   refine Qr (Qd (Qi (zM ?_)))
   refine zF Yn ?_
   refine zL Ql ?_
   refine zF Z2 ?_
   refine zL Ql ?_
   refine Z6 (m:=mi) (ek:=Value.int .i64) (ev:=Value.int .i64) (a:=p.sign) p.id zgg Q3 rfl rfl rfl rfl (by repeat (first | exact Upd.here | apply Upd.there | apply Qu)) ?_
   refine Qb (Qk (Qk (Qd (Qi (zB ?_)))))
   refine zM (Qb ?_)
   exact zm (h:=⟨n-(k+1),by omega,k+1,_,_,_,rfl,rfl,rfl,rfl,by omega,hmi.put hp hk2 hnone,hmr.skip hp (by omega),hAll⟩)
  have hk2n:p.kind≠2:=by simpa using hc72
  refine zR (zC ?_)
  refine zA (zN ?_)
  refine zI ?_ ?_<;>intro hc87
  ·
   have hk3:p.kind=3:=by simpa using hc87
   obtain ⟨A,Lt,B,rfl,hOt,hset⟩:=hAll.at p.sign
   have hq:=zub hmr hOt
   have hq2:=List.length_take_le k ps
   have hD:=zzm I3
   refine Zt ?_
   refine QQ I3 [(b_13,.cells (WG p).toArray 39 (0,0))] mixed ?_
   refine zT 0 rfl (Qf rfl) hD ?_
   refine zT 1 rfl (Qa rfl Yn) hD ?_
   refine zT 2 rfl (Qc rfl Ql (fun hg=>by exact QA.h0 rfl)) hD ?_
   refine zT 3 rfl (Qf rfl) hD ?_
   refine zT 4 rfl (Qa rfl Yn) hD ?_
   refine zT 5 rfl (Qc rfl Ql (fun hg=>by exact QA.h0 rfl)) hD ?_
   refine zT 7 rfl (Qa rfl Z2) hD ?_
   refine zT 8 rfl (Qc rfl Ql (fun hg=>by exact QA.h0 rfl)) hD ?_
   refine QW 6 9 rfl rfl (by kernel_rfl) ?_ ?_
   ·
    refine zV (XI (m:=mr) (ek:=Value.int .i64) (a:=p.sign) zbv Q3 rfl rfl (fun _=>.inr (by simp))) ?_
    refine Qb ?_
    refine zD hD ?_
    refine qd 9 rfl ?_
    refine zpb [(0,_)] [Z1 p.id] Y9 (fun b_98=>?_)
    refine Qb ?_
    refine zD hD ?_
    refine qd 10 rfl ?_
    refine zpa (_) ([p.id].flatMap Z1) (Lt) rfl rfl Y9 hOt ⟨rfl,fun _=>rfl,zzk⟩ (zba [p.id]) ?_
    intro v9 L9 hO9 _
    refine Qb ?_
    refine zD hD ?_
    refine qd 11 rfl ?_
    refine Z6 (m:=mr) (ek:=Value.int .i64) (ev:=zsI) (a:=p.sign) (v9,((Zx mr p.sign).getD zev).2.1+1,((Zx mr p.sign).getD zev).2.2++[p.id].flatMap Z1) zbv Q3 rfl rfl rfl rfl (by (repeat (first | exact Upd.here | apply Upd.there | apply Qu))) ?_
    refine Qb ?_
    refine zD hD ?_
    refine Qn (by kernel_rfl) ?_
    refine Qx ?_
    refine Qk (Qk (Qd (Qi (zB ?_))))
    refine zM (Qb ?_)
    exact zkj _ _ (L9++((r_63,_)::(r_62,_)::(A++B))) ⟨n-(k+1),by omega,k+1,_,_,A++(L9++B),rfl,rfl,rfl,rfl,by omega,hmi.skip hp hk2n,hmr.put hp hk3,hset (v9,_,_) L9 hO9⟩ (.cons rfl (.cons rfl (.cons rfl (.cons rfl (.cons rfl (.cons rfl (.cons rfl .nil))))))) zko (by repeat (first | exact .refl | exact QJ | refine QZ ?_ | refine .drop ?_ | refine QO ?_))
   refine zpb [(0,_)] [Z1 p.id] Y9 (fun b_98=>?_)
   refine Qb ?_
   refine zD hD ?_
   refine qd 6 rfl ?_
   refine zV (XI (m:=mr) (ek:=Value.int .i64) (a:=p.sign) zbv Q3 rfl rfl (fun _=>.inr (by simp))) ?_
   refine Qb ?_
   refine zD hD ?_
   refine qd 10 rfl ?_
   refine zpa (_) ([p.id].flatMap Z1) (Lt) rfl rfl Y9 hOt ⟨rfl,fun _=>rfl,zzk⟩ (zba [p.id]) ?_
   intro v9 L9 hO9 _
   refine Qb ?_
   refine zD hD ?_
   refine qd 11 rfl ?_
   refine Z6 (m:=mr) (ek:=Value.int .i64) (ev:=zsI) (a:=p.sign) (v9,((Zx mr p.sign).getD zev).2.1+1,((Zx mr p.sign).getD zev).2.2++[p.id].flatMap Z1) zbv Q3 rfl rfl rfl rfl (by (repeat (first | exact Upd.here | apply Upd.there | apply Qu))) ?_
   refine Qb ?_
   refine zD hD ?_
   refine Qn (by kernel_rfl) ?_
   refine Qx ?_
   refine Qk (Qk (Qd (Qi (zB ?_))))
   refine zM (Qb ?_)
   exact zkj _ _ (L9++((r_63,_)::(r_62,_)::(A++B))) ⟨n-(k+1),by omega,k+1,_,_,A++(L9++B),rfl,rfl,rfl,rfl,by omega,hmi.skip hp hk2n,hmr.put hp hk3,hset (v9,_,_) L9 hO9⟩ (.cons rfl (.cons rfl (.cons rfl (.cons rfl (.cons rfl (.cons rfl (.cons rfl .nil))))))) zko (by repeat (first | exact .refl | exact QJ | refine QZ ?_ | refine .drop ?_ | refine QO ?_))
  have hk3n:p.kind≠3:=by simpa using hc87
  refine Qr (Qk (Qk (Qd (Qi (zB ?_)))))
  refine zM (Qb ?_)
  exact zm (h:=⟨n-(k+1),by omega,k+1,_,_,_,rfl,rfl,rfl,rfl,by omega,hmi.skip hp hk2n,hmr.skip hp hk3n,hAll⟩)
 have hge_k:n≤k:=by have h:=hc67;simp at h;omega
 rw [ZW hP.len hge_k] at hmi hmr
 refine Zi (Qo (Qo (Qz (Qd (Qm (Qm ?_))))))
 refine zfG (fun I5 hI5 hb5=>?_)
 have hP:=hP.mono hI5;have hOn:=hOn.mono hI5;have hIc:=hIc.trans hI5
 have hmiI:I5 r_62=some (Yk (Value.int .i64) (Value.int .i64) mi):=hb5 _ _ (by simp)
 have hmrI:I5 r_63=some (Yk (Value.int .i64) zsI mr):=hb5 _ _ (by simp)
 have hrem:=zuK hmr hAll (fun b o h=>hb5 b o (by simp [h]))
 obtain ⟨m,hm1,hm2⟩:=hOn
 refine Qi (zM ?_)
 refine zQ Kv ?_
 refine zM (zN (Qw ?_))
 refine zU [(9,_),(10,_),(11,_),(101,_),(102,_)] (fun T L0 mz E I' loc'=>∃ (k:Nat),mz=n-k∧E=(103,.int .i64 k)::T∧I5=I'∧[]=loc'∧k≤n∧(ps.take k).all (tgP ps)=true) ?_ (h:=⟨0,rfl,rfl,rfl,rfl,Nat.zero_le _,rfl⟩)
 rintro mz E I' loc' ⟨k,rfl,rfl,rfl,rfl,hk,htg⟩
 refine zR (zC (zN (Qm ?_)))
 refine zI ?_ ?_<;>intro hc104
 ·
  have hlt_k:k<n:=by have h:=hc104;simp at h;omega
  have hP1:=hP.1
  obtain ⟨p,hp,hN⟩:=hP.at hlt_k
  have hpm:=List.mem_of_getElem? hp
  have hN:Sl I5 1 Z1 p.a p.n p.c p.needs:=hN
  have hpn:=hnd p hpm
  obtain ⟨ref,hget,sn,hsn,hsq⟩:=hm2.get ⟨p,hpm,rfl⟩
  refine Qr (Qd (Qm (Qw (zR ?_))))
  refine zV (QG rfl rfl Kv (by assumption) (fun hg=>by omega)) ?_
  refine zV (Qg rfl Vs (fun hg=>by exact zzn hP1 hp) rfl) ?_
  refine Qq za9 rfl rfl (fun b_17=>?_)
  refine zh UH ?_
  refine zN (Qm (zR (zM ?_)))
  refine zF Yn ?_
  refine zL Ql ?_
  refine zV (zad (m:=mi) (ek:=Value.int .i64) (a:=p.sign) zgg Q3 rfl rfl (fun _=>.inl hmiI)) ?_
  refine zM ?_
  refine zE ?_
  refine zE ?_
  refine zA ?_
  refine zA ?_
  refine zN (zR ?_)
  refine zM ?_
  refine zM ?_
  refine Qp 1 rfl rfl rfl ?_
  refine zK (Qa rfl Z2) ?_
  refine zK (Qc rfl Ql (fun hg=>by exact QA.h0 rfl)) ?_
  refine zK (Qf rfl) ?_
  refine zK (QD rfl rfl rfl) ?_
  refine Qy rfl rfl rfl rfl rfl ?_
  refine zM ?_
  refine Qp 7 rfl rfl rfl ?_
  refine zK (Qf rfl) ?_
  refine zK (Qa rfl Z2) ?_
  refine zK (Qc rfl Ql (fun hg=>by exact QA.h0 rfl)) ?_
  refine zK (Xu (m:=m) (ek:=Value.int .i64) (ev:=zoa) (a:=p.id) hget zc0 Q3 rfl rfl (fun _=>.inl hm1)) ?_
  refine zK (Qf rfl) ?_
  refine zK (YI (m:=sn) Ws Q3 rfl rfl (fun _=>.inl hsn)) ?_
  refine zK (Zs rfl) ?_
  refine Qy rfl rfl rfl rfl rfl ?_
  refine zN ?_
  refine zI ?_ ?_<;>intro hc129
  ·
   have hA:=hc129
   simp only [show ∀ x,(Zx sn x).getD false=onF ps p.id x from fun x=>hsq.mem x] at hA
   have hbad:zb5 ps=380:=zlm hlen h0 hls (by rw [zmx hL hmi];exact zpy hp (by unfold tgP;rw [←zp2 hmi,hA];rfl))
   refine zR (zA (zN (Qs (Qe (Qj (Qe (Qe ?_)))))))
   refine Qj (Qe ?_)
   exact zp hIc rfl rfl (by rw [hbad])
  have hA:=hc129
  simp only [show ∀ x,(Zx sn x).getD false=onF ps p.id x from fun x=>hsq.mem x] at hA
  refine Qr (Qd (Qm ?_))
  obtain ⟨av2,c2,hv2,hS2⟩:=hrem p.sign
  have hk3l:=ze6 (c:=3) (ps:=ps) (s:=p.sign)
  have hpl:=hP.len
  refine Qi (zM ?_)
  refine zF Yn ?_
  refine zL Ql ?_
  refine zV (zfN (m:=mr) (ek:=Value.int .i64) (a:=p.sign) hv2 zbv Q3 rfl rfl (fun _=>.inl hmrI)) ?_
  refine zQ ZE ?_
  refine zM (zN (Qw ?_))
  refine zU [(9,_),(10,_),(11,_),(17,_),(101,_),(102,_),(103,_),(133,_),(134,_)] (fun T L0 mz E I' loc'=>∃ (j:Nat),mz=(JZ 3 ps p.sign).length-j∧E=(135,.int .i64 j)::T∧I5=I'∧[(b_17,.cells (WG p).toArray 39 (0,0))]=loc'∧j≤(JZ 3 ps p.sign).length∧((JZ 3 ps p.sign).take j).any (onF ps p.id)=false) ?_ (h:=⟨0,rfl,rfl,rfl,rfl,Nat.zero_le _,rfl⟩)
  rintro mz E I' loc' ⟨j,rfl,rfl,rfl,rfl,hj,hno⟩
  refine zR (zC (zN (Qm ?_)))
  refine zI ?_ ?_<;>intro hc136
  ·
   have hlt_j:j<(JZ 3 ps p.sign).length:=by have h:=hc136;simp at h;omega
   obtain ⟨y,hy⟩:=hS2.at hlt_j
   refine Qr (Qd (Qm (Qw (zR ?_))))
   refine zV (QG rfl rfl ZE (by assumption) (fun hg=>by omega)) ?_
   refine zV (Qc rfl Ql (fun hg=>by exact zzf hS2 hy rfl)) ?_
   refine zA ?_
   refine zN (zR ?_)
   refine zM ?_
   refine zF Z2 ?_
   refine zL Ql ?_
   refine zV (Xu (m:=m) (ek:=Value.int .i64) (ev:=zoa) (a:=p.id) hget zc0 Q3 rfl rfl (fun _=>.inl hm1)) ?_
   refine zM ?_
   refine zV (YI (m:=sn) Ws Q3 rfl rfl (fun _=>.inl hsn)) ?_
   refine zN ?_
   refine zI ?_ ?_<;>intro hc144
   ·
    have hon:=hc144
    simp only [show ∀ x,(Zx sn x).getD false=onF ps p.id x from fun x=>hsq.mem x] at hon
    have hbad:zb5 ps=380:=zlm hlen h0 hls (by rw [zmx hL hmi];exact zpy hp (by unfold tgP;rw [zk4 hy hon,Bool.or_true];rfl))
    refine zR (zA (zN (Qs (Qj (Qe (Qe (Qj ?_)))))))
    refine Qj (Qe (Qe (Qj (Qe ?_))))
    exact zp hIc rfl rfl (by rw [hbad])
   have hon:=hc144
   simp only [show ∀ x,(Zx sn x).getD false=onF ps p.id x from fun x=>hsq.mem x] at hon
   refine Qr (Qk (Qd (Qi (zB ?_))))
   refine zM (Qb ?_)
   exact zm (h:=⟨(JZ 3 ps p.sign).length-(j+1),by omega,j+1,rfl,rfl,rfl,rfl,by omega,zcz hy hno hon⟩)
  have hge_j:(JZ 3 ps p.sign).length≤j:=by have h:=hc136;simp at h;omega
  rw [ZW rfl hge_j] at hno
  have htp:tgP ps p=true:=by unfold tgP;rw [←zp2 hmi,hA,hno];rfl
  refine Zi (Qo (Qo (Qz (Qk (Qd (Qi (zB ?_)))))))
  refine zM (Qb ?_)
  exact zm (h:=⟨n-(k+1),by omega,k+1,rfl,rfl,rfl,rfl,by omega,zs3 hp htg htp⟩)
 have hge_k:n≤k:=by have h:=hc104;simp at h;omega
 have htog:zpo ps=true:=by rw [zmx hL hmi];rw [ZW hP.len hge_k] at htg;exact htg
 refine Zi (Qo (Qo (Qz (Qd (zR (zA (zN ?_)))))))
 refine Qs ?_
 exact zp hIc rfl rfl (by rw [zvc hlen h0 hls htog])
end
section
open Go Go.Kn Go.Proofs
theorem zhe:ElT Tryz.prog 64 39 19 168:=.of (by kernel_rfl)
theorem zbb:Fun Tryz.prog 135:=.of Tryz.func135 (by kernel_rfl) (by kernel_rfl)
theorem zml:Fun Tryz.prog 136:=.of Tryz.func136 (by kernel_rfl) (by kernel_rfl)
theorem zjA:Fun Tryz.prog 137:=.of Tryz.func137 (by kernel_rfl) (by kernel_rfl)
theorem zjU:Fun Tryz.prog 138:=.of Tryz.func138 (by kernel_rfl) (by kernel_rfl)
theorem zi9:Fun Tryz.prog 139:=.of Tryz.func139 (by kernel_rfl) (by kernel_rfl)
theorem zu4:Fun Tryz.prog 39:=.of Tryz.func39 (by kernel_rfl) (by kernel_rfl)
theorem zw7:Fun Tryz.prog 67:=.of Tryz.func67 (by kernel_rfl) (by kernel_rfl)
theorem zwv:Fun Tryz.prog 69:=.of Tryz.func69 (by kernel_rfl) (by kernel_rfl)
theorem zwG:Fun Tryz.prog 71:=.of Tryz.func71 (by kernel_rfl) (by kernel_rfl)
theorem zvx:Fun Tryz.prog 73:=.of Tryz.func73 (by kernel_rfl) (by kernel_rfl)
theorem UA:MpT Tryz.prog 151 3 43 (.agg #[(.int .i64 0),(.int .i64 0),(.int .i64 0),(.int .i64 0),(.int .i64 0),(.int .i64 0),(.string ⟨#[]⟩),(.string ⟨#[]⟩),(.int .i64 0),(.int .i64 0),(.int .i64 0)]):=⟨by kernel_rfl,.of (by kernel_rfl)⟩
theorem zdi:MpT Tryz.prog 194 3 41 (.agg #[(.int .i64 0),(.int .i64 0),(.int .i64 0),(.int .i64 0),(.int .i64 0)]):=⟨by kernel_rfl,.of (by kernel_rfl)⟩
theorem zcN:MpT Tryz.prog 198 3 39 (.agg #[(.int .i64 0),(.int .i64 0),(.int .i64 0),(.int .i64 0),(.int .i64 0),(.int .i64 0),(.int .i64 0),(.int .i64 0),(.int .i64 0),(.int .i64 0),(.int .i64 0),(.int .i64 0),(.int .i64 0),(.int .i64 0),(.int .i64 0),(.int .i64 0),(.int .i64 0),(.int .i64 0),(.slice none 0 0)]):=⟨by kernel_rfl,.of (by kernel_rfl)⟩
theorem znQ {I:Qt}{av:Option Addr}{n c:Nat}{xs:List Nt}(hP:U7 I av n c xs)(hn0:n≤4096):Vl Tryz.prog 66 [.slice av n c,.int .i64 1,.func (.func 67) #[] #[],.func (.func 37) #[] #[]] I [] (fun v I' L'=>L'=[]∧∃ a n c,v= .slice a n c∧Sl I' 9 Zl a n c (zeR (fun x=>x.lm.no) (fun x=>x.lm) 1 zfI Vt xs)):=by
 intro g H w hw
 refine qe Tryz.func66 Tryz.ntmps66 hw ?_
 have hIc:=zzm I
 have hln:=hP.sl.len
 refine zR (zA ?_)
 refine zN (zR ?_)
 refine Z3 rfl rfl (fun r_20=>?_)
 refine (show XO _ _ _ _ _ _ _ ((r_20,Yk (.int .i64) V8 ([]:List (Int×Lm)))::_) from ?_)
 refine zA ?_
 refine zN (zR ?_)
 refine zA (zN (Qm (zR ?_)))
 refine zM ?_
 refine zQ Za ?_
 refine zM (zN (Qw ?_))
 refine zU [(1,_),(2,_),(3,_),(8,_),(9,_),(21,_),(22,_)] (fun T L0 mz E I' loc'=>∃ (k:Nat) (v:Value) (q:Nat) (Lw:Go.Kn.Loc),mz=n-k∧E=(10,v)::(23,.int .i64 k)::T∧I=I'∧Lw++[(r_20,Yk (.int .i64) V8 (Yj (fun x=>x.lm.no) (fun x=>x.lm) 1 (xs.take k)))]=loc'∧k≤n∧Ya 3 1 v q (((Yj (fun x=>x.lm.no) (fun x=>x.lm) 1 (xs.take k)).map (·.1)).flatMap Z1) Lw∧q=(Yj (fun x=>x.lm.no) (fun x=>x.lm) 1 (xs.take k)).length) ?_ (h:=⟨0,_,0,[],rfl,rfl,rfl,rfl,Nat.zero_le _,Ya.nil,rfl⟩)
 rintro mz E I' loc' ⟨k,v,q,Lw,rfl,rfl,rfl,rfl,hk,hO,hq⟩
 refine zR (zC (zN (Qm ?_)))
 refine zI ?_ ?_<;>intro hc24
 ·
  have hlt_k:k<n:=by have h:=hc24;simp at h;omega
  obtain ⟨x,hx⟩:∃ y,xs[k]? =some y:=⟨_,List.getElem?_eq_getElem (by omega)⟩
  have hml:(Yj (fun x=>x.lm.no) (fun x=>x.lm) 1 (xs.take k)).length≤k:=Nat.le_trans VF (List.length_take_le ..)
  refine Qr (Qd (Qm (Qw (zR ?_))))
  refine zV (QG rfl rfl Za hP.sl (fun hg=>by omega)) ?_
  refine zV (Qg rfl Zf (fun hg=>by exact zzn hP.sl hx) rfl) ?_
  refine Qq W8 rfl rfl (fun b_12=>?_)
  refine zh VW ?_
  refine zN (zR ?_)
  refine zM ?_
  refine zV (Qg rfl Zf (fun hg=>by exact Cells.g0) rfl) ?_
  refine qcV (vs:=[_]) rfl zw7 (zsv _ x) ?_
  refine zM ?_
  refine zE ?_
  refine zE ?_
  refine Qq zeS rfl rfl (fun b_13=>?_)
  refine zh X4 ?_
  refine zA (zN (Qm ?_))
  rcases hget:Zx (Yj (fun x=>x.lm.no) (fun x=>x.lm) 1 (xs.take k)) (x.lm.no) with _ | y0
  ·
   refine Qi (zM ?_)
   refine zM ?_
   refine zV (ZQ (ek:=Value.int .i64) (ev:=V8) Xx Q3 rfl rfl (fun _=>(by (repeat (first | exact Mem.m0 | apply Mem.there | apply Mem.app))))) ?_
   rw [hget]
   refine zM ?_
   refine zE ?_
   refine zE ?_
   refine Qq zeS rfl rfl (fun b_15=>?_)
   refine zh X4 ?_
   refine zA ?_
   refine zN (zR ?_)
   refine zF Y3 ?_
   refine zL Ql ?_
   refine zM ?_
   refine zC ?_
   refine zM ?_
   refine Qp 4 rfl rfl rfl ?_
   refine zK (Qf rfl) ?_
   refine zK (Zs rfl) ?_
   refine Qy rfl rfl rfl rfl rfl ?_
   refine zN ?_
   refine zI ?_ ?_<;>intro hc46
   ·
    have hkd:(x.kind==1)=true:=by simpa using hc46
    refine zR (zM ?_)
    refine zM ?_
    refine zV (Qg rfl JP (fun hg=>by exact Cells.g1) rfl) ?_
    refine zx9 (ek:=Value.int .i64) (ev:=V8) (x.lm) Xx Q3 ?_
    refine zN (Qi (zM ?_))
    refine zM ?_
    refine zpb [(0,_)] [Z1 (x.lm.no)] Y9 (fun b_52=>?_)
    refine zpa (_) ([x.lm.no].flatMap Z1) (Lw) rfl rfl Y9 hO ⟨rfl,fun _=>rfl,by repeat (first | exact zzk | apply zzj | apply zzl)⟩ (zba [x.lm.no]) ?_
    intro v9 L9 hO9 _;rw [←List.flatMap_append] at hO9
    refine zA (Qb (Qk (Qd (Qi ?_))))
    refine zB ?_
    refine zM (Qb ?_)
    exact Q9 _ (L9++[(r_20,Yk (.int .i64) V8 (Ji (Yj (fun x=>x.lm.no) (fun x=>x.lm) 1 (xs.take k)) (x.lm.no) (x.lm)))]) ⟨n-(k+1),by omega,k+1,_,_,_,rfl,rfl,rfl,by rw [Q8 hx,zaz hget hkd],by omega,by rw [Q8 hx,JA hget hkd];exact hO9,by rw [Q8 hx,←List.length_map (f:=fun p=>p.1),JA hget hkd,List.length_append,List.length_map];simp;omega⟩ (.cons rfl (.cons rfl (.cons rfl (.cons rfl (.cons rfl (.cons rfl (.cons rfl (.cons rfl (.cons rfl .nil))))))))) (by repeat (first | exact .refl | exact QJ | refine QZ ?_ | refine .drop ?_ | refine QO ?_))
   have hkd:(x.kind==1)=false:=by simpa using hc46
   have hsame:zbq (fun x=>x.lm.no) (fun x=>x.lm) 1 (Yj (fun x=>x.lm.no) (fun x=>x.lm) 1 (xs.take k)) x=(Yj (fun x=>x.lm.no) (fun x=>x.lm) 1 (xs.take k)):=zdu hkd
   refine Qr (Qk (Qd (Qi (zB ?_))))
   refine zM (Qb ?_)
   exact Q9 _ (Lw++[(r_20,Yk (.int .i64) V8 (Yj (fun x=>x.lm.no) (fun x=>x.lm) 1 (xs.take k)))]) ⟨n-(k+1),by omega,k+1,_,_,_,rfl,rfl,rfl,by rw [Q8 hx,hsame],by omega,by rw [Q8 hx,hsame];exact hO,by rw [Q8 hx,hsame];exact hq⟩ (.cons rfl (.cons rfl (.cons rfl (.cons rfl (.cons rfl (.cons rfl (.cons rfl (.cons rfl (.cons rfl .nil))))))))) (by repeat (first | exact .refl | exact QJ | refine QZ ?_ | refine .drop ?_ | refine QO ?_))
  refine Qi (zM ?_)
  refine zM ?_
  refine zV (ZQ (ek:=Value.int .i64) (ev:=V8) Xx Q3 rfl rfl (fun _=>(by (repeat (first | exact Mem.m0 | apply Mem.there | apply Mem.app))))) ?_
  rw [hget]
  refine zM ?_
  refine zE ?_
  refine zE ?_
  refine Qq zeS rfl rfl (fun b_15=>?_)
  refine zh X4 ?_
  refine zA ?_
  refine zN (zR ?_)
  refine zF Y3 ?_
  refine zL Ql ?_
  refine zM ?_
  refine zC ?_
  refine zM ?_
  refine Qp 4 rfl rfl rfl ?_
  refine zK (Qf rfl) ?_
  refine zK (Zs rfl) ?_
  refine Qy rfl rfl rfl rfl rfl ?_
  refine zN ?_
  refine zI ?_ ?_<;>intro hc46
  ·
   simp at hc46
  have hsame:zbq (fun x=>x.lm.no) (fun x=>x.lm) 1 (Yj (fun x=>x.lm.no) (fun x=>x.lm) 1 (xs.take k)) x=(Yj (fun x=>x.lm.no) (fun x=>x.lm) 1 (xs.take k)):=zaB hget
  refine Qr (Qk (Qd (Qi (zB ?_))))
  refine zM (Qb ?_)
  exact Q9 _ (Lw++[(r_20,Yk (.int .i64) V8 (Yj (fun x=>x.lm.no) (fun x=>x.lm) 1 (xs.take k)))]) ⟨n-(k+1),by omega,k+1,_,_,_,rfl,rfl,rfl,by rw [Q8 hx,hsame],by omega,by rw [Q8 hx,hsame];exact hO,by rw [Q8 hx,hsame];exact hq⟩ (.cons rfl (.cons rfl (.cons rfl (.cons rfl (.cons rfl (.cons rfl (.cons rfl (.cons rfl (.cons rfl .nil))))))))) (by repeat (first | exact .refl | exact QJ | refine QZ ?_ | refine .drop ?_ | refine QO ?_))
 have hge_k:n≤k:=by have h:=hc24;simp at h;omega
 have hml:=VF (num:=(fun x=>x.lm.no)) (prt:=(fun x=>x.lm)) (kind:=1) (xs:=xs)
 have hke:xs.take k=xs:=ZW hln hge_k
 rw [hke] at hO hq ⊢
 refine Zi (Qo (Qo (Qz (Qd (zR (zM ?_))))))
 refine zpc [_] rfl zbb Zd (zg4 3 ((Yj (fun x=>x.lm.no) (fun x=>x.lm) 1 xs).map (·.1)) (by rw [←KB];exact hO) (by omega) _) ?_
 rintro vv2 I2 L2 hI2 ⟨rfl,rfl,hO2⟩
 have hIc:=hIc.trans hI2
 rw [←KB] at hO2
 refine zN (Qm (Qm ?_))
 refine zx4 hO2 YF (fun I3 hI3 af3 cf3 ef3 hNs=>?_)
 subst ef3
 have hIc:=hIc.trans hI3
 obtain ⟨ns,hnsd⟩:∃ y,y=zb7 ((Yj (fun x=>x.lm.no) (fun x=>x.lm) 1 xs).map (·.1)):=⟨_,rfl⟩
 rw [←hnsd] at hNs
 have hnl:=hNs.len
 have hml:=VF (num:=(fun x=>x.lm.no)) (prt:=(fun x=>x.lm)) (kind:=1) (xs:=xs)
 refine Qi (zM ?_)
 refine zQ ZE ?_
 refine zM (zN (Qw ?_))
 refine zU [(3,_),(9,_),(57,_),(58,_)] (fun T L0 mz E I' loc'=>∃ (j:Nat) (a9:Option Addr) (n9:Nat) (c9:Nat),mz=q-j∧E=(8,.slice a9 n9 c9)::(59,.int .i64 j)::T∧HLe I3 I'∧[(r_20,Yk (.int .i64) V8 (Yj (fun x=>x.lm.no) (fun x=>x.lm) 1 xs))]=loc'∧j≤q∧Sl I' 9 Zl a9 n9 c9 (zhL zfI Vt (Yj (fun x=>x.lm.no) (fun x=>x.lm) 1 xs) (ns.take j))∧n9≤j) ?_ (h:=⟨0,none,0,0,rfl,rfl,zzm _,rfl,Nat.zero_le _,Sl.nil,Nat.le_refl _⟩)
 rintro mz E J4 loc' ⟨j,a9,n9,c9,rfl,rfl,hJ,rfl,hj,hY,hn9⟩
 have hNs:=hNs.mono hJ;have hIc:=hIc.trans hJ
 have hB2:=hJ
 refine zR (zC (zN (Qm ?_)))
 refine zI ?_ ?_<;>intro hc60
 ·
  have hlt_j:j<q:=by have h:=hc60;simp at h;omega
  obtain ⟨m9,hn⟩:∃ y,ns[j]? =some y:=⟨_,List.getElem?_eq_getElem (by omega)⟩
  refine Qr (Qd (Qm (Qw (zR ?_))))
  refine zV (zX ZE hNs) ?_
  refine zV (Qc rfl Ql (fun hg=>by exact zzf hNs hn rfl)) ?_
  refine zA (zN ?_)
  refine zY [(3,_),(8,_),(9,_),(57,_),(58,_),(59,_)] (fun T L0 E I' loc'=>∃ (a2:Option Addr) (c2:Nat),E=(19,.slice a2 (n9+1) c2)::T∧HLe J4 I'∧[(r_20,Yk (.int .i64) V8 (Yj (fun x=>x.lm.no) (fun x=>x.lm) 1 xs))]=loc'∧Sl I' 9 Zl a2 (n9+1) c2 ((zhL zfI Vt (Yj (fun x=>x.lm.no) (fun x=>x.lm) 1 xs) (ns.take j))++[(Zx (Yj (fun x=>x.lm.no) (fun x=>x.lm) 1 xs) m9).getD Vt])) ?_ ?_
  ·
   have hKc16:=zzm J4
   have hD:=zzm J4
   refine Zt ?_
   refine QQ J4 [(r_20,Yk (.int .i64) V8 (Yj (fun x=>x.lm.no) (fun x=>x.lm) 1 xs))] mixed ?_
   refine zT 0 rfl (Qf rfl) hD ?_
   refine zT 2 rfl (Qf rfl) hD ?_
   refine zT 3 rfl (Qf rfl) hD ?_
   refine zT 4 rfl (UV (ek:=Value.int .i64) (ev:=V8) Vt Xx Q3 rfl rfl (fun _=>(by exact Mem.m0))) hD ?_
   obtain ⟨y,hydef⟩:∃ y,y=(Zx (Yj (fun x=>x.lm.no) (fun x=>x.lm) 1 xs) m9).getD Vt:=⟨_,rfl⟩
   rw [←hydef]
   refine QW 1 5 rfl rfl (by kernel_rfl) ?_ ?_
   ·
    refine qcV (vs:=[_]) rfl zml (zjp _ _ _ _ hY.cap) ?_
    refine Qb ?_
    refine zD hD ?_
    refine qd 5 rfl ?_
    refine zpb [(0,_)] [Zl y] UB (fun b_68=>?_)
    refine Qb ?_
    refine zD hD ?_
    refine qd 6 rfl ?_
    refine QS (ys:=[y].flatMap Zl) V3 rfl rfl UB hY.cut ⟨rfl,fun _=>rfl,by repeat (first | exact zzk | apply zzj)⟩ (by decide) (by omega) rfl rfl ?_
    intro v1 L1 hO1
    rw [←List.flatMap_append] at hO1
    refine zx7 hO1 V3 (fun I5 hI5 af5 cf5 ef5 hZ=>?_)
    subst ef5
    have hKc16:=hKc16.trans hI5;have hD:=hD.trans hI5
    refine Qb ?_
    refine zD hD ?_
    refine zT 7 rfl (QC rfl) hD ?_
    refine Qn (by kernel_rfl) ?_
    refine Qx ?_
    exact zm (h:=⟨_,_,rfl,hKc16,rfl,by exact hZ⟩)
   refine zpb [(0,_)] [Zl y] UB (fun b_68=>?_)
   refine Qb ?_
   refine zD hD ?_
   refine qd 1 rfl ?_
   refine qcV (vs:=[_]) rfl zml (zjp _ _ _ _ hY.cap) ?_
   refine Qb ?_
   refine zD hD ?_
   refine qd 6 rfl ?_
   refine QS (ys:=[y].flatMap Zl) V3 rfl rfl UB hY.cut ⟨rfl,fun _=>rfl,by repeat (first | exact zzk | apply zzj)⟩ (by decide) (by omega) rfl rfl ?_
   intro v1 L1 hO1
   rw [←List.flatMap_append] at hO1
   refine zx7 hO1 V3 (fun I6 hI6 af6 cf6 ef6 hZ=>?_)
   subst ef6
   have hKc16:=hKc16.trans hI6;have hD:=hD.trans hI6
   refine Qb ?_
   refine zD hD ?_
   refine zT 7 rfl (QC rfl) hD ?_
   refine Qn (by kernel_rfl) ?_
   refine Qx ?_
   exact zm (h:=⟨_,_,rfl,hKc16,rfl,by exact hZ⟩)
  rintro E J7 loc' ⟨a2,c2,rfl,hJ16,rfl,hZ⟩
  have hY:=hY.mono hJ16;have hB2:=hB2.trans hJ16
  refine zR (zM ?_)
  refine zM ?_
  refine qcV (vs:=[_]) rfl zj7 (zlC hZ (by omega)) ?_
  refine zC (zN ?_)
  refine zI ?_ ?_<;>intro hc73
  ·
   refine Qi (zM ?_)
   refine zA (Qb (Qk (Qd (Qi ?_))))
   refine zB ?_
   refine zM (Qb ?_)
   first
   | exact zm (h:=⟨q-(j+1),by omega,j+1,_,_,_,rfl,rfl,hB2,rfl,by omega,by rw [JK hn,ziC,if_pos hc73];exact hZ,by omega⟩)
  refine Qr (Qk (Qd (Qi (zB ?_))))
  refine zM (Qb ?_)
  first
  | exact zm (h:=⟨q-(j+1),by omega,j+1,_,_,_,rfl,rfl,hB2,rfl,by omega,by rw [JK hn,ziC,if_neg (by rw [hc73];simp)];exact hY,by omega⟩)
 have hge_j:q≤j:=by have h:=hc60;simp at h;omega
 have hke2:ns.take j=ns:=ZW hnl hge_j
 rw [hke2] at hY
 refine Zi (Qo (Qo (Qz (Qd (zR (zM ?_))))))
 refine zA (zN (Qs ?_))
 exact Qv rfl rfl (fun w hw=>⟨_,J4,[],rfl,hIc,by exact hw.drop,rfl,_,_,_,rfl,by rw [zeR,←hnsd];exact hY⟩)
theorem znz {I:Qt}{av:Option Addr}{n c:Nat}{xs:List Nt}(hP:U7 I av n c xs)(hn0:n≤4096):Vl Tryz.prog 68 [.slice av n c,.int .i64 3,.func (.func 69) #[] #[],.func (.func 38) #[] #[]] I [] (fun v I' L'=>L'=[]∧∃ a n c,v= .slice a n c∧Sl I' 5 L.encL a n c (zeR (fun x=>x.ls.no) (fun x=>x.ls) 3 L.chk L.zeroL xs)):=by
 intro g H w hw
 refine qe Tryz.func68 Tryz.ntmps68 hw ?_
 have hIc:=zzm I
 have hln:=hP.sl.len
 refine zR (zA ?_)
 refine zN (zR ?_)
 refine Z3 rfl rfl (fun r_20=>?_)
 refine (show XO _ _ _ _ _ _ _ ((r_20,Yk (.int .i64) L.encA ([]:List (Int×L.Ls)))::_) from ?_)
 refine zA ?_
 refine zN (zR ?_)
 refine zA (zN (Qm (zR ?_)))
 refine zM ?_
 refine zQ Za ?_
 refine zM (zN (Qw ?_))
 refine zU [(1,_),(2,_),(3,_),(8,_),(9,_),(21,_),(22,_)] (fun T L0 mz E I' loc'=>∃ (k:Nat) (v:Value) (q:Nat) (Lw:Go.Kn.Loc),mz=n-k∧E=(10,v)::(23,.int .i64 k)::T∧I=I'∧Lw++[(r_20,Yk (.int .i64) L.encA (Yj (fun x=>x.ls.no) (fun x=>x.ls) 3 (xs.take k)))]=loc'∧k≤n∧Ya 3 1 v q (((Yj (fun x=>x.ls.no) (fun x=>x.ls) 3 (xs.take k)).map (·.1)).flatMap Z1) Lw∧q=(Yj (fun x=>x.ls.no) (fun x=>x.ls) 3 (xs.take k)).length) ?_ (h:=⟨0,_,0,[],rfl,rfl,rfl,rfl,Nat.zero_le _,Ya.nil,rfl⟩)
 rintro mz E I' loc' ⟨k,v,q,Lw,rfl,rfl,rfl,rfl,hk,hO,hq⟩
 refine zR (zC (zN (Qm ?_)))
 refine zI ?_ ?_<;>intro hc24
 ·
  have hlt_k:k<n:=by have h:=hc24;simp at h;omega
  obtain ⟨x,hx⟩:∃ y,xs[k]? =some y:=⟨_,List.getElem?_eq_getElem (by omega)⟩
  have hml:(Yj (fun x=>x.ls.no) (fun x=>x.ls) 3 (xs.take k)).length≤k:=Nat.le_trans VF (List.length_take_le ..)
  refine Qr (Qd (Qm (Qw (zR ?_))))
  refine zV (QG rfl rfl Za hP.sl (fun hg=>by omega)) ?_
  refine zV (Qg rfl Zf (fun hg=>by exact zzn hP.sl hx) rfl) ?_
  refine Qq W8 rfl rfl (fun b_12=>?_)
  refine zh VW ?_
  refine zN (zR ?_)
  refine zM ?_
  refine zV (Qg rfl Zf (fun hg=>by exact Cells.g0) rfl) ?_
  refine qcV (vs:=[_]) rfl zwv (zqW _ x) ?_
  refine zM ?_
  refine zE ?_
  refine zE ?_
  refine Qq zfU rfl rfl (fun b_13=>?_)
  refine zh zbI ?_
  refine zA (zN (Qm ?_))
  rcases hget:Zx (Yj (fun x=>x.ls.no) (fun x=>x.ls) 3 (xs.take k)) (x.ls.no) with _ | y0
  ·
   refine Qi (zM ?_)
   refine zM ?_
   refine zV (ZQ (ek:=Value.int .i64) (ev:=L.encA) zdi Q3 rfl rfl (fun _=>(by (repeat (first | exact Mem.m0 | apply Mem.there | apply Mem.app))))) ?_
   rw [hget]
   refine zM ?_
   refine zE ?_
   refine zE ?_
   refine Qq zfU rfl rfl (fun b_15=>?_)
   refine zh zbI ?_
   refine zA ?_
   refine zN (zR ?_)
   refine zF Y3 ?_
   refine zL Ql ?_
   refine zM ?_
   refine zC ?_
   refine zM ?_
   refine Qp 4 rfl rfl rfl ?_
   refine zK (Qf rfl) ?_
   refine zK (Zs rfl) ?_
   refine Qy rfl rfl rfl rfl rfl ?_
   refine zN ?_
   refine zI ?_ ?_<;>intro hc46
   ·
    have hkd:(x.kind==3)=true:=by simpa using hc46
    refine zR (zM ?_)
    refine zM ?_
    refine zV (Qg rfl JR (fun hg=>by exact Cells.g1) rfl) ?_
    refine zx9 (ek:=Value.int .i64) (ev:=L.encA) (x.ls) zdi Q3 ?_
    refine zN (Qi (zM ?_))
    refine zM ?_
    refine zpb [(0,_)] [Z1 (x.ls.no)] Y9 (fun b_52=>?_)
    refine zpa (_) ([x.ls.no].flatMap Z1) (Lw) rfl rfl Y9 hO ⟨rfl,fun _=>rfl,by repeat (first | exact zzk | apply zzj | apply zzl)⟩ (zba [x.ls.no]) ?_
    intro v9 L9 hO9 _;rw [←List.flatMap_append] at hO9
    refine zA (Qb (Qk (Qd (Qi ?_))))
    refine zB ?_
    refine zM (Qb ?_)
    exact Q9 _ (L9++[(r_20,Yk (.int .i64) L.encA (Ji (Yj (fun x=>x.ls.no) (fun x=>x.ls) 3 (xs.take k)) (x.ls.no) (x.ls)))]) ⟨n-(k+1),by omega,k+1,_,_,_,rfl,rfl,rfl,by rw [Q8 hx,zaz hget hkd],by omega,by rw [Q8 hx,JA hget hkd];exact hO9,by rw [Q8 hx,←List.length_map (f:=fun p=>p.1),JA hget hkd,List.length_append,List.length_map];simp;omega⟩ (.cons rfl (.cons rfl (.cons rfl (.cons rfl (.cons rfl (.cons rfl (.cons rfl (.cons rfl (.cons rfl .nil))))))))) (by repeat (first | exact .refl | exact QJ | refine QZ ?_ | refine .drop ?_ | refine QO ?_))
   have hkd:(x.kind==3)=false:=by simpa using hc46
   have hsame:zbq (fun x=>x.ls.no) (fun x=>x.ls) 3 (Yj (fun x=>x.ls.no) (fun x=>x.ls) 3 (xs.take k)) x=(Yj (fun x=>x.ls.no) (fun x=>x.ls) 3 (xs.take k)):=zdu hkd
   refine Qr (Qk (Qd (Qi (zB ?_))))
   refine zM (Qb ?_)
   exact Q9 _ (Lw++[(r_20,Yk (.int .i64) L.encA (Yj (fun x=>x.ls.no) (fun x=>x.ls) 3 (xs.take k)))]) ⟨n-(k+1),by omega,k+1,_,_,_,rfl,rfl,rfl,by rw [Q8 hx,hsame],by omega,by rw [Q8 hx,hsame];exact hO,by rw [Q8 hx,hsame];exact hq⟩ (.cons rfl (.cons rfl (.cons rfl (.cons rfl (.cons rfl (.cons rfl (.cons rfl (.cons rfl (.cons rfl .nil))))))))) (by repeat (first | exact .refl | exact QJ | refine QZ ?_ | refine .drop ?_ | refine QO ?_))
  refine Qi (zM ?_)
  refine zM ?_
  refine zV (ZQ (ek:=Value.int .i64) (ev:=L.encA) zdi Q3 rfl rfl (fun _=>(by (repeat (first | exact Mem.m0 | apply Mem.there | apply Mem.app))))) ?_
  rw [hget]
  refine zM ?_
  refine zE ?_
  refine zE ?_
  refine Qq zfU rfl rfl (fun b_15=>?_)
  refine zh zbI ?_
  refine zA ?_
  refine zN (zR ?_)
  refine zF Y3 ?_
  refine zL Ql ?_
  refine zM ?_
  refine zC ?_
  refine zM ?_
  refine Qp 4 rfl rfl rfl ?_
  refine zK (Qf rfl) ?_
  refine zK (Zs rfl) ?_
  refine Qy rfl rfl rfl rfl rfl ?_
  refine zN ?_
  refine zI ?_ ?_<;>intro hc46
  ·
   simp at hc46
  have hsame:zbq (fun x=>x.ls.no) (fun x=>x.ls) 3 (Yj (fun x=>x.ls.no) (fun x=>x.ls) 3 (xs.take k)) x=(Yj (fun x=>x.ls.no) (fun x=>x.ls) 3 (xs.take k)):=zaB hget
  refine Qr (Qk (Qd (Qi (zB ?_))))
  refine zM (Qb ?_)
  exact Q9 _ (Lw++[(r_20,Yk (.int .i64) L.encA (Yj (fun x=>x.ls.no) (fun x=>x.ls) 3 (xs.take k)))]) ⟨n-(k+1),by omega,k+1,_,_,_,rfl,rfl,rfl,by rw [Q8 hx,hsame],by omega,by rw [Q8 hx,hsame];exact hO,by rw [Q8 hx,hsame];exact hq⟩ (.cons rfl (.cons rfl (.cons rfl (.cons rfl (.cons rfl (.cons rfl (.cons rfl (.cons rfl (.cons rfl .nil))))))))) (by repeat (first | exact .refl | exact QJ | refine QZ ?_ | refine .drop ?_ | refine QO ?_))
 have hge_k:n≤k:=by have h:=hc24;simp at h;omega
 have hml:=VF (num:=(fun x=>x.ls.no)) (prt:=(fun x=>x.ls)) (kind:=3) (xs:=xs)
 have hke:xs.take k=xs:=ZW hln hge_k
 rw [hke] at hO hq ⊢
 refine Zi (Qo (Qo (Qz (Qd (zR (zM ?_))))))
 refine zpc [_] rfl zbb Zd (zg4 3 ((Yj (fun x=>x.ls.no) (fun x=>x.ls) 3 xs).map (·.1)) (by rw [←KB];exact hO) (by omega) _) ?_
 rintro vv2 I2 L2 hI2 ⟨rfl,rfl,hO2⟩
 have hIc:=hIc.trans hI2
 rw [←KB] at hO2
 refine zN (Qm (Qm ?_))
 refine zx4 hO2 YF (fun I3 hI3 af3 cf3 ef3 hNs=>?_)
 subst ef3
 have hIc:=hIc.trans hI3
 obtain ⟨ns,hnsd⟩:∃ y,y=zb7 ((Yj (fun x=>x.ls.no) (fun x=>x.ls) 3 xs).map (·.1)):=⟨_,rfl⟩
 rw [←hnsd] at hNs
 have hnl:=hNs.len
 have hml:=VF (num:=(fun x=>x.ls.no)) (prt:=(fun x=>x.ls)) (kind:=3) (xs:=xs)
 refine Qi (zM ?_)
 refine zQ ZE ?_
 refine zM (zN (Qw ?_))
 refine zU [(3,_),(9,_),(57,_),(58,_)] (fun T L0 mz E I' loc'=>∃ (j:Nat) (a9:Option Addr) (n9:Nat) (c9:Nat),mz=q-j∧E=(8,.slice a9 n9 c9)::(59,.int .i64 j)::T∧HLe I3 I'∧[(r_20,Yk (.int .i64) L.encA (Yj (fun x=>x.ls.no) (fun x=>x.ls) 3 xs))]=loc'∧j≤q∧Sl I' 5 L.encL a9 n9 c9 (zhL L.chk L.zeroL (Yj (fun x=>x.ls.no) (fun x=>x.ls) 3 xs) (ns.take j))∧n9≤j) ?_ (h:=⟨0,none,0,0,rfl,rfl,zzm _,rfl,Nat.zero_le _,Sl.nil,Nat.le_refl _⟩)
 rintro mz E J4 loc' ⟨j,a9,n9,c9,rfl,rfl,hJ,rfl,hj,hY,hn9⟩
 have hNs:=hNs.mono hJ;have hIc:=hIc.trans hJ
 have hB2:=hJ
 refine zR (zC (zN (Qm ?_)))
 refine zI ?_ ?_<;>intro hc60
 ·
  have hlt_j:j<q:=by have h:=hc60;simp at h;omega
  obtain ⟨m9,hn⟩:∃ y,ns[j]? =some y:=⟨_,List.getElem?_eq_getElem (by omega)⟩
  refine Qr (Qd (Qm (Qw (zR ?_))))
  refine zV (zX ZE hNs) ?_
  refine zV (Qc rfl Ql (fun hg=>by exact zzf hNs hn rfl)) ?_
  refine zA (zN ?_)
  refine zY [(3,_),(8,_),(9,_),(57,_),(58,_),(59,_)] (fun T L0 E I' loc'=>∃ (a2:Option Addr) (c2:Nat),E=(19,.slice a2 (n9+1) c2)::T∧HLe J4 I'∧[(r_20,Yk (.int .i64) L.encA (Yj (fun x=>x.ls.no) (fun x=>x.ls) 3 xs))]=loc'∧Sl I' 5 L.encL a2 (n9+1) c2 ((zhL L.chk L.zeroL (Yj (fun x=>x.ls.no) (fun x=>x.ls) 3 xs) (ns.take j))++[(Zx (Yj (fun x=>x.ls.no) (fun x=>x.ls) 3 xs) m9).getD L.zeroL])) ?_ ?_
  ·
   have hKc16:=zzm J4
   have hD:=zzm J4
   refine Zt ?_
   refine QQ J4 [(r_20,Yk (.int .i64) L.encA (Yj (fun x=>x.ls.no) (fun x=>x.ls) 3 xs))] mixed ?_
   refine zT 0 rfl (Qf rfl) hD ?_
   refine zT 2 rfl (Qf rfl) hD ?_
   refine zT 3 rfl (Qf rfl) hD ?_
   refine zT 4 rfl (UV (ek:=Value.int .i64) (ev:=L.encA) L.zeroL zdi Q3 rfl rfl (fun _=>(by exact Mem.m0))) hD ?_
   obtain ⟨y,hydef⟩:∃ y,y=(Zx (Yj (fun x=>x.ls.no) (fun x=>x.ls) 3 xs) m9).getD L.zeroL:=⟨_,rfl⟩
   rw [←hydef]
   refine QW 1 5 rfl rfl (by kernel_rfl) ?_ ?_
   ·
    refine qcV (vs:=[_]) rfl zjA (zkp _ _ _ _ hY.cap) ?_
    refine Qb ?_
    refine zD hD ?_
    refine qd 5 rfl ?_
    refine zpb [(0,_)] [L.encL y] zbQ (fun b_68=>?_)
    refine Qb ?_
    refine zD hD ?_
    refine qd 6 rfl ?_
    refine QS (ys:=[y].flatMap L.encL) L.encL_len rfl rfl zbQ hY.cut ⟨rfl,fun _=>rfl,by repeat (first | exact zzk | apply zzj)⟩ (by decide) (by omega) rfl rfl ?_
    intro v1 L1 hO1
    rw [←List.flatMap_append] at hO1
    refine zx7 hO1 L.encL_len (fun I5 hI5 af5 cf5 ef5 hZ=>?_)
    subst ef5
    have hKc16:=hKc16.trans hI5;have hD:=hD.trans hI5
    refine Qb ?_
    refine zD hD ?_
    refine zT 7 rfl (QC rfl) hD ?_
    refine Qn (by kernel_rfl) ?_
    refine Qx ?_
    exact zm (h:=⟨_,_,rfl,hKc16,rfl,by exact hZ⟩)
   refine zpb [(0,_)] [L.encL y] zbQ (fun b_68=>?_)
   refine Qb ?_
   refine zD hD ?_
   refine qd 1 rfl ?_
   refine qcV (vs:=[_]) rfl zjA (zkp _ _ _ _ hY.cap) ?_
   refine Qb ?_
   refine zD hD ?_
   refine qd 6 rfl ?_
   refine QS (ys:=[y].flatMap L.encL) L.encL_len rfl rfl zbQ hY.cut ⟨rfl,fun _=>rfl,by repeat (first | exact zzk | apply zzj)⟩ (by decide) (by omega) rfl rfl ?_
   intro v1 L1 hO1
   rw [←List.flatMap_append] at hO1
   refine zx7 hO1 L.encL_len (fun I6 hI6 af6 cf6 ef6 hZ=>?_)
   subst ef6
   have hKc16:=hKc16.trans hI6;have hD:=hD.trans hI6
   refine Qb ?_
   refine zD hD ?_
   refine zT 7 rfl (QC rfl) hD ?_
   refine Qn (by kernel_rfl) ?_
   refine Qx ?_
   exact zm (h:=⟨_,_,rfl,hKc16,rfl,by exact hZ⟩)
  rintro E J7 loc' ⟨a2,c2,rfl,hJ16,rfl,hZ⟩
  have hY:=hY.mono hJ16;have hB2:=hB2.trans hJ16
  refine zR (zM ?_)
  refine zM ?_
  refine qcV (vs:=[_]) rfl zqb (L.w_check hZ (by omega)) ?_
  refine zC (zN ?_)
  refine zI ?_ ?_<;>intro hc73
  ·
   refine Qi (zM ?_)
   refine zA (Qb (Qk (Qd (Qi ?_))))
   refine zB ?_
   refine zM (Qb ?_)
   first
   | exact zm (h:=⟨q-(j+1),by omega,j+1,_,_,_,rfl,rfl,hB2,rfl,by omega,by rw [JK hn,ziC,if_pos hc73];exact hZ,by omega⟩)
  refine Qr (Qk (Qd (Qi (zB ?_))))
  refine zM (Qb ?_)
  first
  | exact zm (h:=⟨q-(j+1),by omega,j+1,_,_,_,rfl,rfl,hB2,rfl,by omega,by rw [JK hn,ziC,if_neg (by rw [hc73];simp)];exact hY,by omega⟩)
 have hge_j:q≤j:=by have h:=hc60;simp at h;omega
 have hke2:ns.take j=ns:=ZW hnl hge_j
 rw [hke2] at hY
 refine Zi (Qo (Qo (Qz (Qd (zR (zM ?_))))))
 refine zA (zN (Qs ?_))
 exact Qv rfl rfl (fun w hw=>⟨_,J4,[],rfl,hIc,by exact hw.drop,rfl,_,_,_,rfl,by rw [zeR,←hnsd];exact hY⟩)
theorem znO {I:Qt}{av:Option Addr}{n c:Nat}{xs:List Nt}(hP:U7 I av n c xs)(hn0:n≤4096):Vl Tryz.prog 70 [.slice av n c,.int .i64 2,.func (.func 71) #[] #[],.func (.func 39) #[] #[]] I [] (fun v I' L'=>L'=[]∧∃ a n c,v= .slice a n c∧Sl I' 19 WG a n c (zeR (fun x=>x.pt.id) (fun x=>x.pt) 2 zb5 Jh xs)):=by
 intro g H w hw
 refine qe Tryz.func70 Tryz.ntmps70 hw ?_
 have hIc:=zzm I
 have hln:=hP.sl.len
 refine zR (zA ?_)
 refine zN (zR ?_)
 refine Z3 rfl rfl (fun r_20=>?_)
 refine (show XO _ _ _ _ _ _ _ ((r_20,Yk (.int .i64) KD ([]:List (Int×Pt)))::_) from ?_)
 refine zA ?_
 refine zN (zR ?_)
 refine zA (zN (Qm (zR ?_)))
 refine zM ?_
 refine zQ Za ?_
 refine zM (zN (Qw ?_))
 refine zU [(1,_),(2,_),(3,_),(8,_),(9,_),(21,_),(22,_)] (fun T L0 mz E I' loc'=>∃ (k:Nat) (v:Value) (q:Nat) (Lw:Go.Kn.Loc),mz=n-k∧E=(10,v)::(23,.int .i64 k)::T∧I=I'∧Lw++[(r_20,Yk (.int .i64) KD (Yj (fun x=>x.pt.id) (fun x=>x.pt) 2 (xs.take k)))]=loc'∧k≤n∧Ya 3 1 v q (((Yj (fun x=>x.pt.id) (fun x=>x.pt) 2 (xs.take k)).map (·.1)).flatMap Z1) Lw∧q=(Yj (fun x=>x.pt.id) (fun x=>x.pt) 2 (xs.take k)).length) ?_ (h:=⟨0,_,0,[],rfl,rfl,rfl,rfl,Nat.zero_le _,Ya.nil,rfl⟩)
 rintro mz E I' loc' ⟨k,v,q,Lw,rfl,rfl,rfl,rfl,hk,hO,hq⟩
 refine zR (zC (zN (Qm ?_)))
 refine zI ?_ ?_<;>intro hc24
 ·
  have hlt_k:k<n:=by have h:=hc24;simp at h;omega
  obtain ⟨x,hx⟩:∃ y,xs[k]? =some y:=⟨_,List.getElem?_eq_getElem (by omega)⟩
  have hml:(Yj (fun x=>x.pt.id) (fun x=>x.pt) 2 (xs.take k)).length≤k:=Nat.le_trans VF (List.length_take_le ..)
  refine Qr (Qd (Qm (Qw (zR ?_))))
  refine zV (QG rfl rfl Za hP.sl (fun hg=>by omega)) ?_
  refine zV (Qg rfl Zf (fun hg=>by exact zzn hP.sl hx) rfl) ?_
  refine Qq W8 rfl rfl (fun b_12=>?_)
  refine zh VW ?_
  refine zN (zR ?_)
  refine zM ?_
  refine zV (Qg rfl Zf (fun hg=>by exact Cells.g0) rfl) ?_
  refine qcV (vs:=[_]) rfl zwG (zsx _ x) ?_
  refine zM ?_
  refine zE ?_
  refine zE ?_
  refine Qq za9 rfl rfl (fun b_13=>?_)
  refine zh UH ?_
  refine zA (zN (Qm ?_))
  rcases hget:Zx (Yj (fun x=>x.pt.id) (fun x=>x.pt) 2 (xs.take k)) (x.pt.id) with _ | y0
  ·
   refine Qi (zM ?_)
   refine zM ?_
   refine zV (ZQ (ek:=Value.int .i64) (ev:=KD) zcN Q3 rfl rfl (fun _=>(by (repeat (first | exact Mem.m0 | apply Mem.there | apply Mem.app))))) ?_
   rw [hget]
   refine zM ?_
   refine zE ?_
   refine zE ?_
   refine Qq za9 rfl rfl (fun b_15=>?_)
   refine zh UH ?_
   refine zA ?_
   refine zN (zR ?_)
   refine zF Y3 ?_
   refine zL Ql ?_
   refine zM ?_
   refine zC ?_
   refine zM ?_
   refine Qp 4 rfl rfl rfl ?_
   refine zK (Qf rfl) ?_
   refine zK (Zs rfl) ?_
   refine Qy rfl rfl rfl rfl rfl ?_
   refine zN ?_
   refine zI ?_ ?_<;>intro hc46
   ·
    have hkd:(x.kind==2)=true:=by simpa using hc46
    refine zR (zM ?_)
    refine zM ?_
    refine zV (Qg rfl Vs (fun hg=>by exact Cells.g1) rfl) ?_
    refine zx9 (ek:=Value.int .i64) (ev:=KD) (x.pt) zcN Q3 ?_
    refine zN (Qi (zM ?_))
    refine zM ?_
    refine zpb [(0,_)] [Z1 (x.pt.id)] Y9 (fun b_52=>?_)
    refine zpa (_) ([x.pt.id].flatMap Z1) (Lw) rfl rfl Y9 hO ⟨rfl,fun _=>rfl,by repeat (first | exact zzk | apply zzj | apply zzl)⟩ (zba [x.pt.id]) ?_
    intro v9 L9 hO9 _;rw [←List.flatMap_append] at hO9
    refine zA (Qb (Qk (Qd (Qi ?_))))
    refine zB ?_
    refine zM (Qb ?_)
    exact Q9 _ (L9++[(r_20,Yk (.int .i64) KD (Ji (Yj (fun x=>x.pt.id) (fun x=>x.pt) 2 (xs.take k)) (x.pt.id) (x.pt)))]) ⟨n-(k+1),by omega,k+1,_,_,_,rfl,rfl,rfl,by rw [Q8 hx,zaz hget hkd],by omega,by rw [Q8 hx,JA hget hkd];exact hO9,by rw [Q8 hx,←List.length_map (f:=fun p=>p.1),JA hget hkd,List.length_append,List.length_map];simp;omega⟩ (.cons rfl (.cons rfl (.cons rfl (.cons rfl (.cons rfl (.cons rfl (.cons rfl (.cons rfl (.cons rfl .nil))))))))) (by repeat (first | exact .refl | exact QJ | refine QZ ?_ | refine .drop ?_ | refine QO ?_))
   have hkd:(x.kind==2)=false:=by simpa using hc46
   have hsame:zbq (fun x=>x.pt.id) (fun x=>x.pt) 2 (Yj (fun x=>x.pt.id) (fun x=>x.pt) 2 (xs.take k)) x=(Yj (fun x=>x.pt.id) (fun x=>x.pt) 2 (xs.take k)):=zdu hkd
   refine Qr (Qk (Qd (Qi (zB ?_))))
   refine zM (Qb ?_)
   exact Q9 _ (Lw++[(r_20,Yk (.int .i64) KD (Yj (fun x=>x.pt.id) (fun x=>x.pt) 2 (xs.take k)))]) ⟨n-(k+1),by omega,k+1,_,_,_,rfl,rfl,rfl,by rw [Q8 hx,hsame],by omega,by rw [Q8 hx,hsame];exact hO,by rw [Q8 hx,hsame];exact hq⟩ (.cons rfl (.cons rfl (.cons rfl (.cons rfl (.cons rfl (.cons rfl (.cons rfl (.cons rfl (.cons rfl .nil))))))))) (by repeat (first | exact .refl | exact QJ | refine QZ ?_ | refine .drop ?_ | refine QO ?_))
  refine Qi (zM ?_)
  refine zM ?_
  refine zV (ZQ (ek:=Value.int .i64) (ev:=KD) zcN Q3 rfl rfl (fun _=>(by (repeat (first | exact Mem.m0 | apply Mem.there | apply Mem.app))))) ?_
  rw [hget]
  refine zM ?_
  refine zE ?_
  refine zE ?_
  refine Qq za9 rfl rfl (fun b_15=>?_)
  refine zh UH ?_
  refine zA ?_
  refine zN (zR ?_)
  refine zF Y3 ?_
  refine zL Ql ?_
  refine zM ?_
  refine zC ?_
  refine zM ?_
  refine Qp 4 rfl rfl rfl ?_
  refine zK (Qf rfl) ?_
  refine zK (Zs rfl) ?_
  refine Qy rfl rfl rfl rfl rfl ?_
  refine zN ?_
  refine zI ?_ ?_<;>intro hc46
  ·
   simp at hc46
  have hsame:zbq (fun x=>x.pt.id) (fun x=>x.pt) 2 (Yj (fun x=>x.pt.id) (fun x=>x.pt) 2 (xs.take k)) x=(Yj (fun x=>x.pt.id) (fun x=>x.pt) 2 (xs.take k)):=zaB hget
  refine Qr (Qk (Qd (Qi (zB ?_))))
  refine zM (Qb ?_)
  exact Q9 _ (Lw++[(r_20,Yk (.int .i64) KD (Yj (fun x=>x.pt.id) (fun x=>x.pt) 2 (xs.take k)))]) ⟨n-(k+1),by omega,k+1,_,_,_,rfl,rfl,rfl,by rw [Q8 hx,hsame],by omega,by rw [Q8 hx,hsame];exact hO,by rw [Q8 hx,hsame];exact hq⟩ (.cons rfl (.cons rfl (.cons rfl (.cons rfl (.cons rfl (.cons rfl (.cons rfl (.cons rfl (.cons rfl .nil))))))))) (by repeat (first | exact .refl | exact QJ | refine QZ ?_ | refine .drop ?_ | refine QO ?_))
 have hge_k:n≤k:=by have h:=hc24;simp at h;omega
 have hml:=VF (num:=(fun x=>x.pt.id)) (prt:=(fun x=>x.pt)) (kind:=2) (xs:=xs)
 have hke:xs.take k=xs:=ZW hln hge_k
 rw [hke] at hO hq ⊢
 refine Zi (Qo (Qo (Qz (Qd (zR (zM ?_))))))
 refine zpc [_] rfl zbb Zd (zg4 3 ((Yj (fun x=>x.pt.id) (fun x=>x.pt) 2 xs).map (·.1)) (by rw [←KB];exact hO) (by omega) _) ?_
 rintro vv2 I2 L2 hI2 ⟨rfl,rfl,hO2⟩
 have hP:=hP.mono hI2;have hIc:=hIc.trans hI2
 rw [←KB] at hO2
 refine zN (Qm (Qm ?_))
 refine zx4 hO2 YF (fun I3 hI3 af3 cf3 ef3 hNs=>?_)
 subst ef3
 have hP:=hP.mono hI3;have hIc:=hIc.trans hI3
 obtain ⟨ns,hnsd⟩:∃ y,y=zb7 ((Yj (fun x=>x.pt.id) (fun x=>x.pt) 2 xs).map (·.1)):=⟨_,rfl⟩
 rw [←hnsd] at hNs
 have hnl:=hNs.len
 have hml:=VF (num:=(fun x=>x.pt.id)) (prt:=(fun x=>x.pt)) (kind:=2) (xs:=xs)
 refine Qi (zM ?_)
 refine zQ ZE ?_
 refine zM (zN (Qw ?_))
 refine zU [(3,_),(9,_),(57,_),(58,_)] (fun T L0 mz E I' loc'=>∃ (j:Nat) (a9:Option Addr) (n9:Nat) (c9:Nat),mz=q-j∧E=(8,.slice a9 n9 c9)::(59,.int .i64 j)::T∧HLe I3 I'∧[(r_20,Yk (.int .i64) KD (Yj (fun x=>x.pt.id) (fun x=>x.pt) 2 xs))]=loc'∧j≤q∧Sl I' 19 WG a9 n9 c9 (zhL zb5 Jh (Yj (fun x=>x.pt.id) (fun x=>x.pt) 2 xs) (ns.take j))∧n9≤j) ?_ (h:=⟨0,none,0,0,rfl,rfl,zzm _,rfl,Nat.zero_le _,Sl.nil,Nat.le_refl _⟩)
 rintro mz E J4 loc' ⟨j,a9,n9,c9,rfl,rfl,hJ,rfl,hj,hY,hn9⟩
 have hP:=hP.mono hJ;have hNs:=hNs.mono hJ;have hIc:=hIc.trans hJ
 have hB2:=hJ
 refine zR (zC (zN (Qm ?_)))
 refine zI ?_ ?_<;>intro hc60
 ·
  have hlt_j:j<q:=by have h:=hc60;simp at h;omega
  obtain ⟨m9,hn⟩:∃ y,ns[j]? =some y:=⟨_,List.getElem?_eq_getElem (by omega)⟩
  refine Qr (Qd (Qm (Qw (zR ?_))))
  refine zV (zX ZE hNs) ?_
  refine zV (Qc rfl Ql (fun hg=>by exact zzf hNs hn rfl)) ?_
  refine zA (zN ?_)
  refine zY [(3,_),(8,_),(9,_),(57,_),(58,_),(59,_)] (fun T L0 E I' loc'=>∃ (a2:Option Addr) (c2:Nat),E=(19,.slice a2 (n9+1) c2)::T∧HLe J4 I'∧[(r_20,Yk (.int .i64) KD (Yj (fun x=>x.pt.id) (fun x=>x.pt) 2 xs))]=loc'∧Sl I' 19 WG a2 (n9+1) c2 ((zhL zb5 Jh (Yj (fun x=>x.pt.id) (fun x=>x.pt) 2 xs) (ns.take j))++[(Zx (Yj (fun x=>x.pt.id) (fun x=>x.pt) 2 xs) m9).getD Jh])) ?_ ?_
  ·
   have hKc16:=zzm J4
   have hD:=zzm J4
   refine Zt ?_
   refine QQ J4 [(r_20,Yk (.int .i64) KD (Yj (fun x=>x.pt.id) (fun x=>x.pt) 2 xs))] mixed ?_
   refine zT 0 rfl (Qf rfl) hD ?_
   refine zT 2 rfl (Qf rfl) hD ?_
   refine zT 3 rfl (Qf rfl) hD ?_
   refine zT 4 rfl (UV (ek:=Value.int .i64) (ev:=KD) Jh zcN Q3 rfl rfl (fun _=>(by exact Mem.m0))) hD ?_
   obtain ⟨y,hydef⟩:∃ y,y=(Zx (Yj (fun x=>x.pt.id) (fun x=>x.pt) 2 xs) m9).getD Jh:=⟨_,rfl⟩
   rw [←hydef]
   refine QW 1 5 rfl rfl (by kernel_rfl) ?_ ?_
   ·
    refine qcV (vs:=[_]) rfl zjU (zmt _ _ _ _ hY.cap) ?_
    refine Qb ?_
    refine zD hD ?_
    refine qd 5 rfl ?_
    refine zpb [(0,_)] [WG y] zhe (fun b_68=>?_)
    refine Qb ?_
    refine zD hD ?_
    refine qd 6 rfl ?_
    refine QS (ys:=[y].flatMap WG) Xf rfl rfl zhe hY.cut ⟨rfl,fun _=>rfl,by repeat (first | exact zzk | apply zzj)⟩ (by decide) (by omega) rfl rfl ?_
    intro v1 L1 hO1
    rw [←List.flatMap_append] at hO1
    refine zx7 hO1 Xf (fun I5 hI5 af5 cf5 ef5 hZ=>?_)
    subst ef5
    have hKc16:=hKc16.trans hI5;have hD:=hD.trans hI5
    refine Qb ?_
    refine zD hD ?_
    refine zT 7 rfl (QC rfl) hD ?_
    refine Qn (by kernel_rfl) ?_
    refine Qx ?_
    exact zm (h:=⟨_,_,rfl,hKc16,rfl,by exact hZ⟩)
   refine zpb [(0,_)] [WG y] zhe (fun b_68=>?_)
   refine Qb ?_
   refine zD hD ?_
   refine qd 1 rfl ?_
   refine qcV (vs:=[_]) rfl zjU (zmt _ _ _ _ hY.cap) ?_
   refine Qb ?_
   refine zD hD ?_
   refine qd 6 rfl ?_
   refine QS (ys:=[y].flatMap WG) Xf rfl rfl zhe hY.cut ⟨rfl,fun _=>rfl,by repeat (first | exact zzk | apply zzj)⟩ (by decide) (by omega) rfl rfl ?_
   intro v1 L1 hO1
   rw [←List.flatMap_append] at hO1
   refine zx7 hO1 Xf (fun I6 hI6 af6 cf6 ef6 hZ=>?_)
   subst ef6
   have hKc16:=hKc16.trans hI6;have hD:=hD.trans hI6
   refine Qb ?_
   refine zD hD ?_
   refine zT 7 rfl (QC rfl) hD ?_
   refine Qn (by kernel_rfl) ?_
   refine Qx ?_
   exact zm (h:=⟨_,_,rfl,hKc16,rfl,by exact hZ⟩)
  rintro E J7 loc' ⟨a2,c2,rfl,hJ16,rfl,hZ⟩
  have hP:=hP.mono hJ16;have hY:=hY.mono hJ16;have hB2:=hB2.trans hJ16
  refine Qm ?_
  have hNd9:∀ u∈(zhL zb5 Jh (Yj (fun x=>x.pt.id) (fun x=>x.pt) 2 xs) (ns.take j))++[(Zx (Yj (fun x=>x.pt.id) (fun x=>x.pt) 2 xs) m9).getD Jh],Nd J7 u:=fun u hu=>(show u=Jh∨∃ w∈xs,u=w.pt from (List.mem_append.1 hu).elim (fun h=>zgN u h) (fun h=>by rw [List.mem_singleton.1 h];exact zjO)).elim (fun h=>by rw [h];exact Sl.nil) (fun ⟨w,hw2,h⟩=>by rw [h];exact hP.nd w hw2)
  refine Qi (zM ?_)
  refine zM ?_
  refine qcV (vs:=[_]) rfl zu4 (zud ⟨hZ,hNd9⟩ (by omega)) ?_
  refine zC (zN ?_)
  refine zI ?_ ?_<;>intro hc73
  ·
   refine Qi (zM ?_)
   refine zA (Qb (Qk (Qd (Qi ?_))))
   refine zB ?_
   refine zM (Qb ?_)
   first
   | exact zm (h:=⟨q-(j+1),by omega,j+1,_,_,_,rfl,rfl,hB2,rfl,by omega,by rw [JK hn,ziC,if_pos hc73];exact hZ,by omega⟩)
  refine Qr (Qk (Qd (Qi (zB ?_))))
  refine zM (Qb ?_)
  first
  | exact zm (h:=⟨q-(j+1),by omega,j+1,_,_,_,rfl,rfl,hB2,rfl,by omega,by rw [JK hn,ziC,if_neg (by rw [hc73];simp)];exact hY,by omega⟩)
 have hge_j:q≤j:=by have h:=hc60;simp at h;omega
 have hke2:ns.take j=ns:=ZW hnl hge_j
 rw [hke2] at hY
 refine Zi (Qo (Qo (Qz (Qd (zR (zM ?_))))))
 refine zA (zN (Qs ?_))
 exact Qv rfl rfl (fun w hw=>⟨_,J4,[],rfl,hIc,by exact hw.drop,rfl,_,_,_,rfl,by rw [zeR,←hnsd];exact hY⟩)
theorem znt {I:Qt}{av:Option Addr}{n c:Nat}{xs:List Nt}(hP:U7 I av n c xs)(hn0:n≤4096):Vl Tryz.prog 72 [.slice av n c,.int .i64 4,.func (.func 73) #[] #[],.func (.func 40) #[] #[]] I [] (fun v I' L'=>L'=[]∧∃ a n c,v= .slice a n c∧Sl I' 11 S.encR a n c (zeR (fun x=>x.rt.no) (fun x=>x.rt) 4 S.rCheck S.zeroR xs)):=by
 intro g H w hw
 refine qe Tryz.func72 Tryz.ntmps72 hw ?_
 have hIc:=zzm I
 have hln:=hP.sl.len
 refine zR (zA ?_)
 refine zN (zR ?_)
 refine Z3 rfl rfl (fun r_20=>?_)
 refine (show XO _ _ _ _ _ _ _ ((r_20,Yk (.int .i64) S.encA ([]:List (Int×S.Rt)))::_) from ?_)
 refine zA ?_
 refine zN (zR ?_)
 refine zA (zN (Qm (zR ?_)))
 refine zM ?_
 refine zQ Za ?_
 refine zM (zN (Qw ?_))
 refine zU [(1,_),(2,_),(3,_),(8,_),(9,_),(21,_),(22,_)] (fun T L0 mz E I' loc'=>∃ (k:Nat) (v:Value) (q:Nat) (Lw:Go.Kn.Loc),mz=n-k∧E=(10,v)::(23,.int .i64 k)::T∧I=I'∧Lw++[(r_20,Yk (.int .i64) S.encA (Yj (fun x=>x.rt.no) (fun x=>x.rt) 4 (xs.take k)))]=loc'∧k≤n∧Ya 3 1 v q (((Yj (fun x=>x.rt.no) (fun x=>x.rt) 4 (xs.take k)).map (·.1)).flatMap Z1) Lw∧q=(Yj (fun x=>x.rt.no) (fun x=>x.rt) 4 (xs.take k)).length) ?_ (h:=⟨0,_,0,[],rfl,rfl,rfl,rfl,Nat.zero_le _,Ya.nil,rfl⟩)
 rintro mz E I' loc' ⟨k,v,q,Lw,rfl,rfl,rfl,rfl,hk,hO,hq⟩
 refine zR (zC (zN (Qm ?_)))
 refine zI ?_ ?_<;>intro hc24
 ·
  have hlt_k:k<n:=by have h:=hc24;simp at h;omega
  obtain ⟨x,hx⟩:∃ y,xs[k]? =some y:=⟨_,List.getElem?_eq_getElem (by omega)⟩
  have hml:(Yj (fun x=>x.rt.no) (fun x=>x.rt) 4 (xs.take k)).length≤k:=Nat.le_trans VF (List.length_take_le ..)
  refine Qr (Qd (Qm (Qw (zR ?_))))
  refine zV (QG rfl rfl Za hP.sl (fun hg=>by omega)) ?_
  refine zV (Qg rfl Zf (fun hg=>by exact zzn hP.sl hx) rfl) ?_
  refine Qq W8 rfl rfl (fun b_12=>?_)
  refine zh VW ?_
  refine zN (zR ?_)
  refine zM ?_
  refine zV (Qg rfl Zf (fun hg=>by exact Cells.g0) rfl) ?_
  refine qcV (vs:=[_]) rfl zvx (ztA _ x) ?_
  refine zM ?_
  refine zE ?_
  refine zE ?_
  refine Qq zaj rfl rfl (fun b_13=>?_)
  refine zh Um ?_
  refine zA (zN (Qm ?_))
  rcases hget:Zx (Yj (fun x=>x.rt.no) (fun x=>x.rt) 4 (xs.take k)) (x.rt.no) with _ | y0
  ·
   refine Qi (zM ?_)
   refine zM ?_
   refine zV (ZQ (ek:=Value.int .i64) (ev:=S.encA) UA Q3 rfl rfl (fun _=>(by (repeat (first | exact Mem.m0 | apply Mem.there | apply Mem.app))))) ?_
   rw [hget]
   refine zM ?_
   refine zE ?_
   refine zE ?_
   refine Qq zaj rfl rfl (fun b_15=>?_)
   refine zh Um ?_
   refine zA ?_
   refine zN (zR ?_)
   refine zF Y3 ?_
   refine zL Ql ?_
   refine zM ?_
   refine zC ?_
   refine zM ?_
   refine Qp 4 rfl rfl rfl ?_
   refine zK (Qf rfl) ?_
   refine zK (Zs rfl) ?_
   refine Qy rfl rfl rfl rfl rfl ?_
   refine zN ?_
   refine zI ?_ ?_<;>intro hc46
   ·
    have hkd:(x.kind==4)=true:=by simpa using hc46
    refine zR (zM ?_)
    refine zM ?_
    refine zV (Qg rfl YC (fun hg=>by exact Cells.g1) rfl) ?_
    refine zx9 (ek:=Value.int .i64) (ev:=S.encA) (x.rt) UA Q3 ?_
    refine zN (Qi (zM ?_))
    refine zM ?_
    refine zpb [(0,_)] [Z1 (x.rt.no)] Y9 (fun b_52=>?_)
    refine zpa (_) ([x.rt.no].flatMap Z1) (Lw) rfl rfl Y9 hO ⟨rfl,fun _=>rfl,by repeat (first | exact zzk | apply zzj | apply zzl)⟩ (zba [x.rt.no]) ?_
    intro v9 L9 hO9 _;rw [←List.flatMap_append] at hO9
    refine zA (Qb (Qk (Qd (Qi ?_))))
    refine zB ?_
    refine zM (Qb ?_)
    exact Q9 _ (L9++[(r_20,Yk (.int .i64) S.encA (Ji (Yj (fun x=>x.rt.no) (fun x=>x.rt) 4 (xs.take k)) (x.rt.no) (x.rt)))]) ⟨n-(k+1),by omega,k+1,_,_,_,rfl,rfl,rfl,by rw [Q8 hx,zaz hget hkd],by omega,by rw [Q8 hx,JA hget hkd];exact hO9,by rw [Q8 hx,←List.length_map (f:=fun p=>p.1),JA hget hkd,List.length_append,List.length_map];simp;omega⟩ (.cons rfl (.cons rfl (.cons rfl (.cons rfl (.cons rfl (.cons rfl (.cons rfl (.cons rfl (.cons rfl .nil))))))))) (by repeat (first | exact .refl | exact QJ | refine QZ ?_ | refine .drop ?_ | refine QO ?_))
   have hkd:(x.kind==4)=false:=by simpa using hc46
   have hsame:zbq (fun x=>x.rt.no) (fun x=>x.rt) 4 (Yj (fun x=>x.rt.no) (fun x=>x.rt) 4 (xs.take k)) x=(Yj (fun x=>x.rt.no) (fun x=>x.rt) 4 (xs.take k)):=zdu hkd
   refine Qr (Qk (Qd (Qi (zB ?_))))
   refine zM (Qb ?_)
   exact Q9 _ (Lw++[(r_20,Yk (.int .i64) S.encA (Yj (fun x=>x.rt.no) (fun x=>x.rt) 4 (xs.take k)))]) ⟨n-(k+1),by omega,k+1,_,_,_,rfl,rfl,rfl,by rw [Q8 hx,hsame],by omega,by rw [Q8 hx,hsame];exact hO,by rw [Q8 hx,hsame];exact hq⟩ (.cons rfl (.cons rfl (.cons rfl (.cons rfl (.cons rfl (.cons rfl (.cons rfl (.cons rfl (.cons rfl .nil))))))))) (by repeat (first | exact .refl | exact QJ | refine QZ ?_ | refine .drop ?_ | refine QO ?_))
  refine Qi (zM ?_)
  refine zM ?_
  refine zV (ZQ (ek:=Value.int .i64) (ev:=S.encA) UA Q3 rfl rfl (fun _=>(by (repeat (first | exact Mem.m0 | apply Mem.there | apply Mem.app))))) ?_
  rw [hget]
  refine zM ?_
  refine zE ?_
  refine zE ?_
  refine Qq zaj rfl rfl (fun b_15=>?_)
  refine zh Um ?_
  refine zA ?_
  refine zN (zR ?_)
  refine zF Y3 ?_
  refine zL Ql ?_
  refine zM ?_
  refine zC ?_
  refine zM ?_
  refine Qp 4 rfl rfl rfl ?_
  refine zK (Qf rfl) ?_
  refine zK (Zs rfl) ?_
  refine Qy rfl rfl rfl rfl rfl ?_
  refine zN ?_
  refine zI ?_ ?_<;>intro hc46
  ·
   simp at hc46
  have hsame:zbq (fun x=>x.rt.no) (fun x=>x.rt) 4 (Yj (fun x=>x.rt.no) (fun x=>x.rt) 4 (xs.take k)) x=(Yj (fun x=>x.rt.no) (fun x=>x.rt) 4 (xs.take k)):=zaB hget
  refine Qr (Qk (Qd (Qi (zB ?_))))
  refine zM (Qb ?_)
  exact Q9 _ (Lw++[(r_20,Yk (.int .i64) S.encA (Yj (fun x=>x.rt.no) (fun x=>x.rt) 4 (xs.take k)))]) ⟨n-(k+1),by omega,k+1,_,_,_,rfl,rfl,rfl,by rw [Q8 hx,hsame],by omega,by rw [Q8 hx,hsame];exact hO,by rw [Q8 hx,hsame];exact hq⟩ (.cons rfl (.cons rfl (.cons rfl (.cons rfl (.cons rfl (.cons rfl (.cons rfl (.cons rfl (.cons rfl .nil))))))))) (by repeat (first | exact .refl | exact QJ | refine QZ ?_ | refine .drop ?_ | refine QO ?_))
 have hge_k:n≤k:=by have h:=hc24;simp at h;omega
 have hml:=VF (num:=(fun x=>x.rt.no)) (prt:=(fun x=>x.rt)) (kind:=4) (xs:=xs)
 have hke:xs.take k=xs:=ZW hln hge_k
 rw [hke] at hO hq ⊢
 refine Zi (Qo (Qo (Qz (Qd (zR (zM ?_))))))
 refine zpc [_] rfl zbb Zd (zg4 3 ((Yj (fun x=>x.rt.no) (fun x=>x.rt) 4 xs).map (·.1)) (by rw [←KB];exact hO) (by omega) _) ?_
 rintro vv2 I2 L2 hI2 ⟨rfl,rfl,hO2⟩
 have hIc:=hIc.trans hI2
 rw [←KB] at hO2
 refine zN (Qm (Qm ?_))
 refine zx4 hO2 YF (fun I3 hI3 af3 cf3 ef3 hNs=>?_)
 subst ef3
 have hIc:=hIc.trans hI3
 obtain ⟨ns,hnsd⟩:∃ y,y=zb7 ((Yj (fun x=>x.rt.no) (fun x=>x.rt) 4 xs).map (·.1)):=⟨_,rfl⟩
 rw [←hnsd] at hNs
 have hnl:=hNs.len
 have hml:=VF (num:=(fun x=>x.rt.no)) (prt:=(fun x=>x.rt)) (kind:=4) (xs:=xs)
 refine Qi (zM ?_)
 refine zQ ZE ?_
 refine zM (zN (Qw ?_))
 refine zU [(3,_),(9,_),(57,_),(58,_)] (fun T L0 mz E I' loc'=>∃ (j:Nat) (a9:Option Addr) (n9:Nat) (c9:Nat),mz=q-j∧E=(8,.slice a9 n9 c9)::(59,.int .i64 j)::T∧HLe I3 I'∧[(r_20,Yk (.int .i64) S.encA (Yj (fun x=>x.rt.no) (fun x=>x.rt) 4 xs))]=loc'∧j≤q∧Sl I' 11 S.encR a9 n9 c9 (zhL S.rCheck S.zeroR (Yj (fun x=>x.rt.no) (fun x=>x.rt) 4 xs) (ns.take j))∧n9≤j) ?_ (h:=⟨0,none,0,0,rfl,rfl,zzm _,rfl,Nat.zero_le _,Sl.nil,Nat.le_refl _⟩)
 rintro mz E J4 loc' ⟨j,a9,n9,c9,rfl,rfl,hJ,rfl,hj,hY,hn9⟩
 have hNs:=hNs.mono hJ;have hIc:=hIc.trans hJ
 have hB2:=hJ
 refine zR (zC (zN (Qm ?_)))
 refine zI ?_ ?_<;>intro hc60
 ·
  have hlt_j:j<q:=by have h:=hc60;simp at h;omega
  obtain ⟨m9,hn⟩:∃ y,ns[j]? =some y:=⟨_,List.getElem?_eq_getElem (by omega)⟩
  refine Qr (Qd (Qm (Qw (zR ?_))))
  refine zV (zX ZE hNs) ?_
  refine zV (Qc rfl Ql (fun hg=>by exact zzf hNs hn rfl)) ?_
  refine zA (zN ?_)
  refine zY [(3,_),(8,_),(9,_),(57,_),(58,_),(59,_)] (fun T L0 E I' loc'=>∃ (a2:Option Addr) (c2:Nat),E=(19,.slice a2 (n9+1) c2)::T∧HLe J4 I'∧[(r_20,Yk (.int .i64) S.encA (Yj (fun x=>x.rt.no) (fun x=>x.rt) 4 xs))]=loc'∧Sl I' 11 S.encR a2 (n9+1) c2 ((zhL S.rCheck S.zeroR (Yj (fun x=>x.rt.no) (fun x=>x.rt) 4 xs) (ns.take j))++[(Zx (Yj (fun x=>x.rt.no) (fun x=>x.rt) 4 xs) m9).getD S.zeroR])) ?_ ?_
  ·
   have hKc16:=zzm J4
   have hD:=zzm J4
   refine Zt ?_
   refine QQ J4 [(r_20,Yk (.int .i64) S.encA (Yj (fun x=>x.rt.no) (fun x=>x.rt) 4 xs))] mixed ?_
   refine zT 0 rfl (Qf rfl) hD ?_
   refine zT 2 rfl (Qf rfl) hD ?_
   refine zT 3 rfl (Qf rfl) hD ?_
   refine zT 4 rfl (UV (ek:=Value.int .i64) (ev:=S.encA) S.zeroR UA Q3 rfl rfl (fun _=>(by exact Mem.m0))) hD ?_
   obtain ⟨y,hydef⟩:∃ y,y=(Zx (Yj (fun x=>x.rt.no) (fun x=>x.rt) 4 xs) m9).getD S.zeroR:=⟨_,rfl⟩
   rw [←hydef]
   refine QW 1 5 rfl rfl (by kernel_rfl) ?_ ?_
   ·
    refine qcV (vs:=[_]) rfl zi9 (zjZ _ _ _ _ hY.cap) ?_
    refine Qb ?_
    refine zD hD ?_
    refine qd 5 rfl ?_
    refine zpb [(0,_)] [S.encR y] Uz (fun b_68=>?_)
    refine Qb ?_
    refine zD hD ?_
    refine qd 6 rfl ?_
    refine QS (ys:=[y].flatMap S.encR) S.encR_len rfl rfl Uz hY.cut ⟨rfl,fun _=>rfl,by repeat (first | exact zzk | apply zzj)⟩ (by decide) (by omega) rfl rfl ?_
    intro v1 L1 hO1
    rw [←List.flatMap_append] at hO1
    refine zx7 hO1 S.encR_len (fun I5 hI5 af5 cf5 ef5 hZ=>?_)
    subst ef5
    have hKc16:=hKc16.trans hI5;have hD:=hD.trans hI5
    refine Qb ?_
    refine zD hD ?_
    refine zT 7 rfl (QC rfl) hD ?_
    refine Qn (by kernel_rfl) ?_
    refine Qx ?_
    exact zm (h:=⟨_,_,rfl,hKc16,rfl,by exact hZ⟩)
   refine zpb [(0,_)] [S.encR y] Uz (fun b_68=>?_)
   refine Qb ?_
   refine zD hD ?_
   refine qd 1 rfl ?_
   refine qcV (vs:=[_]) rfl zi9 (zjZ _ _ _ _ hY.cap) ?_
   refine Qb ?_
   refine zD hD ?_
   refine qd 6 rfl ?_
   refine QS (ys:=[y].flatMap S.encR) S.encR_len rfl rfl Uz hY.cut ⟨rfl,fun _=>rfl,by repeat (first | exact zzk | apply zzj)⟩ (by decide) (by omega) rfl rfl ?_
   intro v1 L1 hO1
   rw [←List.flatMap_append] at hO1
   refine zx7 hO1 S.encR_len (fun I6 hI6 af6 cf6 ef6 hZ=>?_)
   subst ef6
   have hKc16:=hKc16.trans hI6;have hD:=hD.trans hI6
   refine Qb ?_
   refine zD hD ?_
   refine zT 7 rfl (QC rfl) hD ?_
   refine Qn (by kernel_rfl) ?_
   refine Qx ?_
   exact zm (h:=⟨_,_,rfl,hKc16,rfl,by exact hZ⟩)
  rintro E J7 loc' ⟨a2,c2,rfl,hJ16,rfl,hZ⟩
  have hY:=hY.mono hJ16;have hB2:=hB2.trans hJ16
  refine zR (zM ?_)
  refine zM ?_
  refine qcV (vs:=[_]) rfl zks (S.w_check hZ (by omega)) ?_
  refine zC (zN ?_)
  refine zI ?_ ?_<;>intro hc73
  ·
   refine Qi (zM ?_)
   refine zA (Qb (Qk (Qd (Qi ?_))))
   refine zB ?_
   refine zM (Qb ?_)
   first
   | exact zm (h:=⟨q-(j+1),by omega,j+1,_,_,_,rfl,rfl,hB2,rfl,by omega,by rw [JK hn,ziC,if_pos hc73];exact hZ,by omega⟩)
  refine Qr (Qk (Qd (Qi (zB ?_))))
  refine zM (Qb ?_)
  first
  | exact zm (h:=⟨q-(j+1),by omega,j+1,_,_,_,rfl,rfl,hB2,rfl,by omega,by rw [JK hn,ziC,if_neg (by rw [hc73];simp)];exact hY,by omega⟩)
 have hge_j:q≤j:=by have h:=hc60;simp at h;omega
 have hke2:ns.take j=ns:=ZW hnl hge_j
 rw [hke2] at hY
 refine Zi (Qo (Qo (Qz (Qd (zR (zM ?_))))))
 refine zA (zN (Qs ?_))
 exact Qv rfl rfl (fun w hw=>⟨_,J4,[],rfl,hIc,by exact hw.drop,rfl,_,_,_,rfl,by rw [zeR,←hnsd];exact hY⟩)
end
end Go.Proofs.YtjblkbkmblkgoaaGreat
section
namespace Go.Kn
open Go
section
variable {P:Program} {fn:Func} {R:Ending→World→Prop} {N:Nat} {g:World} {I H:Qt} {loc:Loc} {E:Env} {r:Option Nat}
theorem zma {t1 t2 t3 t4 t5:Nat}{v1 v2 v3 v4 v5:Value}(hr:fn.results= #[.tmp t1,.tmp t2,.tmp t3,.tmp t4,.tmp t5])(h1:Vu E t1=some v1)(h2:Vu E t2=some v2)(h3:Vu E t3=some v3)(h4:Vu E t4=some v4)(h5:Vu E t5=some v5)
  (h:∀ w,St g I H loc w→R (.returned (.tuple #[v1,v2,v3,v4,v5])) w):At ⟨P,r,N,[],g,H⟩ (bodyPost P fn R) .ret E I loc:=fun a w ha hw=>by
 have e1:=ha.env _ _ h1;have e2:=ha.env _ _ h2;have e3:=ha.env _ _ h3;have e4:=ha.env _ _ h4;have e5:=ha.env _ _ h5
 rw [Array.getD_eq_getD_getElem?] at e1 e2 e3 e4 e5
 exact ⟨ha.defers,.tuple #[v1,v2,v3,v4,v5],by simp only [results,hr];simp [List.mapM_cons,e1,e2,e3,e4,e5],h w hw⟩
end
end Go.Kn
namespace Go.Proofs.YtjblkbkmblkgoaaGreat
open Go Go.Kn Go.Proofs
def wLm (xs:List Nt):List Lm:=zeR (fun x=>x.lm.no) (fun x=>x.lm) 1 zfI Vt xs
def wLs (xs:List Nt):List L.Ls:=zeR (fun x=>x.ls.no) (fun x=>x.ls) 3 L.chk L.zeroL xs
def wPt (xs:List Nt):List Pt:=zeR (fun x=>x.pt.id) (fun x=>x.pt) 2 zb5 Jh xs
def wRt (xs:List Nt):List S.Rt:=zeR (fun x=>x.rt.no) (fun x=>x.rt) 4 S.rCheck S.zeroR xs
theorem zwO {I:Qt}{xs:List Nt}(h:∀ x∈xs,Nd I x.pt):∀ p∈wPt xs,Nd I p:=fun p hp=>by
 rcases zgN p hp with rfl | ⟨x,hx,rfl⟩
 ·
  exact Sl.nil
 ·
  exact h x hx
def zym (xs:List Nt)(v:Value)(I':Qt)(L':Go.Kn.Loc):Prop:=L'=[]∧
  ((ZG xs=true∧∃ a1 n1 c1 a2 n2 c2 a3 n3 c3 a4 n4 c4,v= .tuple #[.slice a1 n1 c1,.slice a2 n2 c2,.slice a3 n3 c3,.slice a4 n4 c4,.int .i64 0]∧Sl I' 9 Zl a1 n1 c1 (wLm xs)∧Sl I' 5 L.encL a2 n2 c2 (wLs xs)∧SlP I' a3 n3 c3 (wPt xs)∧Sl I' 11 S.encR a4 n4 c4 (wRt xs))∨
   (ZG xs=false∧v= .tuple #[.slice none 0 0,.slice none 0 0,.slice none 0 0,.slice none 0 0,.int .i64 570]))
structure Hy where
 a:Option Addr
 n:Nat
 c:Nat
 bytes:List Nat
def Wk (x:Hy):List Value:=[.slice x.a x.n x.c]
theorem VV (x:Hy):(Wk x).length=1:=rfl
theorem ze1 (xs:List Hy):YL (xs.flatMap Wk)=true:=YJ (fun _=>rfl) xs
structure HyM (I:Qt)(x:Hy):Prop where
 sl:Sl I 1 VO x.a x.n x.c x.bytes
 byte:∀ b∈x.bytes,b<256
theorem HyM.mono {I I':Qt}{x:Hy}(h:HyM I x)(hI:HLe I I'):HyM I' x:=⟨h.sl.mono hI,h.byte⟩
structure zkZ (I:Qt)(av:Option Addr)(n c:Nat)(rs:List Hy):Prop where
 sl:Sl I 1 Wk av n c rs
 m:∀ r∈rs,HyM I r
theorem zkZ.mono {I I':Qt}{av:Option Addr}{n c:Nat}{rs:List Hy}(h:zkZ I av n c rs)(hI:HLe I I'):zkZ I' av n c rs:=⟨h.sl.mono hI,fun r hr=>(h.m r hr).mono hI⟩
structure zmS (I:Qt)(rs:List Hy)(B:List (List Nat)):Prop where
 m:∀ r∈rs,HyM I r
 b:rs.map (·.bytes)=B
theorem zmS.mono {I I':Qt}{rs:List Hy}{B:List (List Nat)}(h:zmS I rs B)(hI:HLe I I'):zmS I' rs B:=⟨fun r hr=>(h.m r hr).mono hI,h.b⟩
theorem zmS.nil {I:Qt}:zmS I [] []:=⟨fun _ h=>(by cases h),rfl⟩
theorem zmS.snoc {I:Qt}{rs:List Hy}{B:List (List Nat)}(h:zmS I rs B){x:Hy}(hx:HyM I x):zmS I (rs++[x]) (B++[x.bytes]):=
 ⟨fun r hr=>(List.mem_append.1 hr).elim (h.m r) (fun e=>by rw [List.mem_singleton.1 e];exact hx),by rw [List.map_append,h.b];rfl⟩
theorem zwC {I:Qt}{t:Nt}{b c:Nat}(hok:Va.ok (Kw t))(hS:Sl I 1 VO (some ⟨b,0,none⟩) (zal t).size c (K1 (zal t))):HyM I ⟨some ⟨b,0,none⟩,(zal t).size,c,V5 t⟩:=by
 have e:K1 (zal t)=V5 t:=VS (Uh _ hok)
 rw [e] at hS
 exact ⟨hS,Uh _ hok⟩
def zyr (xs:List Nt)(v:Value)(I':Qt)(L':Go.Kn.Loc):Prop:=L'=[]∧
 ((ZG xs=true∧∃ a n c rs,v= .tuple #[.slice a n c,.int .i64 0]∧zkZ I' a n c rs∧rs.map (·.bytes)=xs.map V5)∨(ZG xs=false∧v= .tuple #[.slice none 0 0,.int .i64 570]))
end Go.Proofs.YtjblkbkmblkgoaaGreat
end
namespace Go.Proofs.YtjblkbkmblkgoaaGreat
section
open Go Go.Kn Go.Proofs
theorem Xm:ElT Tryz.prog 60 80 1 24:=.of (by kernel_rfl)
theorem zux:Fun Tryz.prog 66:=.of Tryz.func66 (by kernel_rfl) (by kernel_rfl)
theorem zwy:Fun Tryz.prog 68:=.of Tryz.func68 (by kernel_rfl) (by kernel_rfl)
theorem zwb:Fun Tryz.prog 70:=.of Tryz.func70 (by kernel_rfl) (by kernel_rfl)
theorem zvv:Fun Tryz.prog 72:=.of Tryz.func72 (by kernel_rfl) (by kernel_rfl)
theorem zj9 {I:Qt}{av:Option Addr}{n c:Nat}{xs:List Nt}(hP:U7 I av n c xs)(hn:n≤100000):Vl Tryz.prog 20 [.agg #[.slice av n c]] I [] (zym xs):=by
 intro g H w hw
 refine qe Tryz.func20 Tryz.ntmps20 hw ?_
 have hIc:=zzm I
 have hln:=hP.sl.len
 refine zR ?_
 refine QR rfl rfl rfl (fun b_1=>?_)
 refine zA ?_
 refine zA ?_
 refine zA ?_
 refine zA ?_
 refine zA (Qb ?_)
 refine QH .here (fun I1 hI1 hb1=>?_)
 have hP:=hP.mono hI1;have hIc:=hIc.trans hI1
 have h1:=BxI.of hb1
 refine Qd (Qm (zR ?_))
 refine zV (Qg rfl Kh (fun hg=>by exact BxI.cells (vs:=[_]) h1) rfl) ?_
 refine qcV (vs:=[_]) rfl zmO (zfT hP hn) ?_
 refine zO (zN ?_)
 refine zI ?_ ?_<;>intro hc9
 ·
  have hvf:ZG xs=false:=by simpa using hc9
  refine zR (zA ?_)
  refine zA ?_
  refine zA ?_
  refine zA ?_
  refine zA (zN (Qs (Qe ?_)))
  exact zma rfl rfl rfl rfl rfl rfl (fun w hw=>⟨_,I1,[],rfl,hIc,hw.subL QB,rfl,.inr ⟨hvf,rfl⟩⟩)
 have hvf:ZG xs=true:=by simpa using hc9
 have hn4:n≤4096:=by have h:=(Vz hvf).2.2;omega
 refine Qr (Qd (zR ?_))
 refine zF Zr ?_
 refine zV (Qc rfl Yq (fun hg=>by exact QA.imm h1.out rfl)) ?_
 refine zpc [_,_,_,_] rfl zux .nil (znQ hP hn4) ?_
 rintro vv2 I2 L2 hI2 ⟨rfl,a1,n1,c1,rfl,hS1⟩
 have hP:=hP.mono hI2;have h1:=h1.mono hI2;have hIc:=hIc.trans hI2
 refine zA ?_
 refine zN (zR ?_)
 refine zF Zr ?_
 refine zV (Qc rfl Yq (fun hg=>by exact QA.imm h1.out rfl)) ?_
 refine zpc [_,_,_,_] rfl zwy .nil (znz hP hn4) ?_
 rintro vv3 I3 L3 hI3 ⟨rfl,a2,n2,c2,rfl,hS2⟩
 have hP:=hP.mono hI3;have h1:=h1.mono hI3;have hS1:=hS1.mono hI3;have hIc:=hIc.trans hI3
 refine zA ?_
 refine zN (zR ?_)
 refine zF Zr ?_
 refine zV (Qc rfl Yq (fun hg=>by exact QA.imm h1.out rfl)) ?_
 refine zpc [_,_,_,_] rfl zwb .nil (znO hP hn4) ?_
 rintro vv4 I4 L4 hI4 ⟨rfl,a3,n3,c3,rfl,hS3⟩
 have hP:=hP.mono hI4;have h1:=h1.mono hI4;have hS1:=hS1.mono hI4;have hS2:=hS2.mono hI4;have hIc:=hIc.trans hI4
 refine zA ?_
 refine zN (zR ?_)
 refine zF Zr ?_
 refine zV (Qc rfl Yq (fun hg=>by exact QA.imm h1.out rfl)) ?_
 refine zpc [_,_,_,_] rfl zvv .nil (znt hP hn4) ?_
 rintro vv5 I5 L5 hI5 ⟨rfl,a4,n4,c4,rfl,hS4⟩
 have hP:=hP.mono hI5;have hS1:=hS1.mono hI5;have hS2:=hS2.mono hI5;have hS3:=hS3.mono hI5;have hIc:=hIc.trans hI5
 refine zA ?_
 refine zN (zR ?_)
 refine zM ?_
 refine zM ?_
 refine zM ?_
 refine zM ?_
 refine zA ?_
 refine zA ?_
 refine zA ?_
 refine zA ?_
 refine zA (zN (Qs ?_))
 exact zma rfl rfl rfl rfl rfl rfl (fun w hw=>⟨_,I5,[],rfl,hIc,hw.subL QB,rfl,.inl ⟨hvf,_,_,_,_,_,_,_,_,_,_,_,_,rfl,hS1,hS2,⟨hS3,zwO hP.nd⟩,hS4⟩⟩)
theorem zeV {I:Qt}{av:Option Addr}{n c:Nat}{xs:List Nt}(hP:U7 I av n c xs)(hn:n≤100000):Vl Tryz.prog 22 [.agg #[.slice av n c]] I [] (zyr xs):=by
 intro g H w hw
 refine qe Tryz.func22 Tryz.ntmps22 hw ?_
 have hIc:=zzm I
 have hln:=hP.sl.len
 refine zR ?_
 refine QR rfl rfl rfl (fun b_1=>?_)
 refine zA ?_
 refine zA (Qb ?_)
 refine QH .here (fun I1 hI1 hb1=>?_)
 have hP:=hP.mono hI1;have hIc:=hIc.trans hI1
 have h1:=BxI.of hb1
 refine Qd (Qm (zR ?_))
 refine zV (Qg rfl Kh (fun hg=>by exact BxI.cells (vs:=[_]) h1) rfl) ?_
 refine qcV (vs:=[_]) rfl zmO (zfT hP hn) ?_
 refine zO (zN ?_)
 refine zI ?_ ?_<;>intro hc8
 ·
  have hvf:ZG xs=false:=by simpa using hc8
  refine zR (zA ?_)
  refine zA (zN (Qs (Qe ?_)))
  exact Jj rfl rfl rfl (fun w hw=>⟨_,I1,[],rfl,hIc,hw.subL QB,rfl,.inr ⟨hvf,rfl⟩⟩)
 have hvf:ZG xs=true:=by simpa using hc8
 have hvs:=Vz hvf
 refine Qr (Qd (Qm (zR ?_)))
 refine zF Zr ?_
 refine zV (Qc rfl Yq (fun hg=>by exact QA.imm h1.out rfl)) ?_
 refine zQ Za ?_
 refine zM (zN (Qw ?_))
 refine zU [(10,_),(11,_)] (fun T L0 mz E I' loc'=>∃ (k:Nat) (v:Value) (L:Go.Kn.Loc) (rs:List Hy),mz=n-k∧E=(2,v)::(12,.int .i64 k)::T∧HLe I1 I'∧L=loc'∧k≤n∧Ya 80 1 v k (rs.flatMap Wk) L∧zmS I' rs ((xs.take k).map V5)) ?_ (h:=⟨0,_,[],[],rfl,rfl,zzm _,rfl,Nat.zero_le _,Ya.nil,zmS.nil⟩)
 rintro mz E J2 loc' ⟨k,v,L,rs,rfl,rfl,hJ,rfl,hk,hO,hRK⟩
 have hP:=hP.mono hJ;have hIc:=hIc.trans hJ
 have hB0:=hJ
 refine zR (zC (zN (Qm ?_)))
 refine zI ?_ ?_<;>intro hc13
 ·
  have hlt_k:k<n:=by have h:=hc13;simp at h;omega
  obtain ⟨x,hx⟩:∃ y,xs[k]? =some y:=⟨_,List.getElem?_eq_getElem (by omega)⟩
  have hxm:=List.mem_of_getElem? hx
  have hM:=hP.m x hxm (hvs.2.1 x hxm)
  refine Qr (Qd (Qm (Qw (zR ?_))))
  refine zV (QG rfl rfl Za hP.sl (fun hg=>by omega)) ?_
  refine zV (Qg rfl Zf (fun hg=>by exact zzn hP.sl hx) rfl) ?_
  refine Qq W8 rfl rfl (fun b_5=>?_)
  refine zh VW ?_
  refine zN (Qi (zM ?_))
  refine zV (Qg rfl Zf (fun hg=>by exact Cells.g0) rfl) ?_
  refine qcV (vs:=[_]) rfl zeK (zlL x hM.nd hM.nn hM.ok hM.len) ?_
  refine Wi (s:=zal x) rfl zjJ rfl rfl (fun b9 c9 I3 hI3 hB=>?_)
  have hRK:=hRK.mono hI3;have hB0:=hB0.trans hI3
  refine zpb [(0,_)] [Wk ⟨some ⟨b9,0,none⟩,(zal x).size,c9,V5 x⟩] Xm (fun b_20=>?_)
  refine zpa (_) ([(⟨some ⟨b9,0,none⟩,(zal x).size,c9,V5 x⟩:Hy)].flatMap Wk) (L) rfl rfl Xm hO ⟨rfl,fun _=>rfl,by repeat (first | exact zzk | apply zzj | apply zzl)⟩ (ze1 _) ?_
  intro v9 L9 hO9 _;rw [←List.flatMap_append] at hO9
  refine zA (Qb (Qk (Qd (Qi ?_))))
  refine zB ?_
  refine zM (Qb ?_)
  exact zm (h:=⟨n-(k+1),by omega,k+1,_,_,_,rfl,rfl,hB0,rfl,by omega,hO9,by rw [Zh hx,List.map_append];exact hRK.snoc (zwC hM.ok hB)⟩)
 have hge_k:n≤k:=by have h:=hc13;simp at h;omega
 rw [ZW hln hge_k] at hRK
 refine Zi (Qo (Qo (Qz (Qd (Qm ?_)))))
 refine zx4 hO VV (fun I4 hI4 af4 cf4 ef4 hR9=>?_)
 subst ef4
 have hRK:=hRK.mono hI4;have hIc:=hIc.trans hI4
 refine Qi (zM ?_)
 refine zA ?_
 refine zA (zN (Qs ?_))
 exact Jj rfl rfl rfl (fun w hw=>⟨_,I4,[],rfl,hIc,hw.subL QB,rfl,.inl ⟨hvf,_,_,_,rs,rfl,⟨hR9,hRK.m⟩,hRK.b⟩⟩)
end
section
open Go Go.Kn Go.Proofs
def kpN (ws:List Nt)(i:Nat)(x:Nt):Bool:=match i with
 | 0=>true
 | j+1=>match ws[j]? with | none=>true | some y=> !(Vh x y==0)
def Vr (ws:List Nt):Nat→List Nt
 | 0=>[]
 | i+1=>match ws[i]? with
  | none=>Vr ws i
  | some x=>if kpN ws i x=true then Vr ws i++[x] else Vr ws i
def U3 (ws:List Nt)(m:Nat):List Nt:=Vr ws m++ws.drop (Vr ws m).length
theorem zbK {ws:List Nt}{i:Nat}{x:Nt}(hx:ws[i]? =some x)(hk:kpN ws i x=true):Vr ws (i+1)=Vr ws i++[x]:=by simp only [Vr,hx,if_pos hk]
theorem zcC {ws:List Nt}{i:Nat}{x:Nt}(hx:ws[i]? =some x)(hk:kpN ws i x=false):Vr ws (i+1)=Vr ws i:=by simp only [Vr,hx,hk];rfl
theorem zh6 {ws:List Nt}{i:Nat}{x y:Nt}(hi:1≤i)(hy:ws[i-1]? =some y):kpN ws i x= !(Vh x y==0):=by
 obtain ⟨j,rfl⟩:∃ j,i=j+1:=⟨i-1,by omega⟩
 rw [Nat.add_sub_cancel] at hy
 simp only [kpN,hy]
theorem Wy (ws:List Nt):∀ m,(Vr ws m).length≤m
 | 0=>Nat.le_refl _
 | m+1=>by
  have:=Wy ws m
  unfold Vr
  split
  ·
   omega
  ·
   split
   ·
    rw [List.length_append,List.length_singleton];omega
   ·
    omega
theorem zgP (ws:List Nt):∀ m,(Vr ws m).length≤ws.length
 | 0=>Nat.zero_le _
 | m+1=>by
  have h1:=Wy ws m
  have h2:=zgP ws m
  unfold Vr
  split
  ·
   exact h2
  ·
   rename_i x hx
   have:=(List.getElem?_eq_some_iff.1 hx).1
   split
   ·
    rw [List.length_append,List.length_singleton];omega
   ·
    exact h2
theorem zrU (ws:List Nt):Vr ws 1=ws.take 1:=by
 cases ws with
 | nil=>simp [Vr]
 | cons x l=>simp [Vr,kpN]
theorem zeB {ws:List Nt}{i:Nat}{x:Nt}(h:Vr ws i=ws.take i)(hx:ws[i]? =some x)(hk:kpN ws i x=true):Vr ws (i+1)=ws.take (i+1):=by rw [zbK hx hk,h,Zh hx]
theorem zbB {ws:List Nt}(h:ws.length<2):Vr ws ws.length=ws:=by
 cases ws with
 | nil=>simp [Vr]
 | cons x l=>
  cases l with
  | nil=>simp [Vr,kpN]
  | cons y l=>simp only [List.length_cons] at h;omega
theorem zk5 {ws:List Nt}(m:Nat):(U3 ws m).length=ws.length:=by
 have:=zgP ws m
 unfold U3
 rw [List.length_append,List.length_drop];omega
theorem zja {ws:List Nt}{m i:Nat}(h:(Vr ws m).length≤i):(U3 ws m)[i]? =ws[i]? :=by
 unfold U3
 rw [List.getElem?_append_right h,List.getElem?_drop]
 congr 1;omega
theorem zpB {ws:List Nt}{i:Nat}{x:Nt}(hx:ws[i]? =some x)(hk:kpN ws i x=false):U3 ws (i+1)=U3 ws i:=by unfold U3;rw [zcC hx hk]
theorem zsc {ws:List Nt}{i:Nat}{x:Nt}(hx:ws[i]? =some x)(hk:kpN ws i x=true):U3 ws (i+1)=(U3 ws i).set (Vr ws i).length x:=by
 have h1:=Wy ws i
 have h2:=(List.getElem?_eq_some_iff.1 hx).1
 have h3:ws.drop (Vr ws i).length=ws[(Vr ws i).length]::ws.drop ((Vr ws i).length+1):=List.drop_eq_getElem_cons (by omega)
 unfold U3
 rw [zbK hx hk,List.length_append,List.length_singleton,List.set_append_right _ _ (Nat.le_refl _),Nat.sub_self,h3,List.set_cons_zero,List.append_assoc,List.singleton_append]
theorem znk {ws:List Nt}{i:Nat}(h:Vr ws i=ws.take i)(hi:i≤ws.length):U3 ws i=ws:=by
 unfold U3
 rw [h,List.length_take,Nat.min_eq_left hi,List.take_append_drop]
/-! ### Cells -/
theorem XA {bl:List Nt}{i:Nat}{x:Nt}(hx:bl[i]? =some x):bl.flatMap Q6=(bl.take i).flatMap Q6++Q6 x++(bl.drop (i+1)).flatMap Q6:=by
 have h2:=(List.getElem?_eq_some_iff.1 hx).1
 have h3:bl.drop i=x::bl.drop (i+1):=by
  rw [List.drop_eq_getElem_cons h2,(List.getElem?_eq_some_iff.1 hx).2]
 conv=>lhs;rw [←List.take_append_drop i bl,h3]
 rw [List.flatMap_append,List.flatMap_cons,List.append_assoc]
theorem XW {bl:List Nt}{i:Nat}(h:i≤bl.length):((bl.take i).flatMap Q6).length=i*45:=by
 rw [YE YN,List.length_take,Nat.min_eq_left h]
theorem WZ {I:Qt}{b t off:Nat}{fz:Nat×Nat}{l:Go.Kn.Loc}{bl:List Nt}{tl:List Value}{i:Nat}{x:Nt}(hx:bl[i]? =some x)(e:off=i*45):Cells I ((b,.cells (bl.flatMap Q6++tl).toArray t fz)::l) b off (Q6 x):=by
 have h2:=(List.getElem?_eq_some_iff.1 hx).1
 refine Cells.part (pre:=(bl.take i).flatMap Q6) (vs:=Q6 x) (post:=(bl.drop (i+1)).flatMap Q6++tl) ?_ (by rw [e,XW (by omega)])
 have h:=zzk (I:=I) (b:=b) (vs:=bl.flatMap Q6++tl) (t:=t) (fz:=fz) (l:=l)
 rw [XA hx] at h ⊢
 simpa only [List.append_assoc] using h
theorem zlZ {bl:List Nt}{tl:List Value}{i:Nat}{x:Nt}(hi:i<bl.length):Km (bl.flatMap Q6++tl) (i*45) (Q6 x)=(bl.set i x).flatMap Q6++tl:=by
 obtain ⟨y,hy⟩:∃ y,bl[i]? =some y:=⟨_,List.getElem?_eq_getElem hi⟩
 have hs:(bl.set i x)[i]? =some x:=List.getElem?_set_self hi
 have e1:(bl.set i x).take i=bl.take i:=by rw [List.take_set_of_le (Nat.le_refl _)]
 have e2:(bl.set i x).drop (i+1)=bl.drop (i+1):=by rw [List.drop_set_of_lt (Nat.lt_succ_self _)]
 rw [XA hy,XA hs,e1,e2]
 have h:=Kl ((bl.take i).flatMap Q6) (Q6 y) (Q6 x) ((bl.drop (i+1)).flatMap Q6++tl) rfl
 rw [XW (Nat.le_of_lt hi)] at h
 simpa only [List.append_assoc] using h
theorem zjk {bl:List Nt}{tl:List Value}{n c:Nat}(h:bl.length=n)(ht:tl.length=(c-n)*45)(hc:n≤c):(bl.flatMap Q6++tl).length=c*45:=by
 rw [List.length_append,YE YN,h,ht,←Nat.add_mul]
 congr 1;omega
theorem zvA {e:Nat}{v:Value}{n:Nat}{ws:List Nt}{L:Go.Kn.Loc}(h:Ya e 45 v n (ws.flatMap Q6) L)(hl:ws.length=n):(v= .slice none 0 0∧n=0∧L=[])∨∃ b c tl,v= .slice (some ⟨b,0,none⟩) n c∧L=[(b,.cells (ws.flatMap Q6++tl).toArray e (0,0))]∧n≤c∧c≤maxLen∧tl.length=(c-n)*45:=by
 rcases h.2 with h1 | ⟨b,c,cur,h1,h2,h3,h4,h5,h6⟩
 ·
  exact .inl h1
 ·
  refine .inr ⟨b,c,cur.toList.drop (n*45),h1,?_,h3,h4,?_⟩
  ·
   rw [h2,←h6,List.take_append_drop]
  ·
   rw [List.length_drop,Array.length_toList,h5,←Nat.sub_mul]
theorem zvS {e b n c:Nat}{ws:List Nt}{tl:List Value}(hl:ws.length=n)(hc:n≤c)(hm:c≤maxLen)(ht:tl.length=(c-n)*45):Ya e 45 (.slice (some ⟨b,0,none⟩) n c) n (ws.flatMap Q6) [(b,.cells (ws.flatMap Q6++tl).toArray e (0,0))]:=by
 have hf:(ws.flatMap Q6).length=n*45:=by rw [YE YN,hl]
 refine ⟨hf,.inr ⟨b,c,_,rfl,rfl,hc,hm,?_,?_⟩⟩
 ·
  rw [List.size_toArray];exact zjk hl ht hc
 ·
  show (ws.flatMap Q6++tl).take (n*45)=_
  rw [←hf,List.take_left']
  rfl
theorem zm6 {ws:List Nt}{tl zs:List Value}{n c m:Nat}(hn:ws.length=n)(hm:m≤n)(hc:n≤c)(ht:tl.length=(c-n)*45)(hz:zs.length=(n-m)*45)(hk:(Vr ws n).length=m):
  ∃ tl',tl'.length=(c-m)*45∧((U3 ws n).flatMap Q6++tl).take (m*45)++(zs++((U3 ws n).flatMap Q6++tl).drop (m*45+(n-m)*45))=(Vr ws n).flatMap Q6++tl':=by
 have e0:(Vr ws n).flatMap Q6=((U3 ws n).take m).flatMap Q6:=by
  unfold U3
  rw [hk,←hk,List.take_left']
  rfl
 have hb:=zk5 (ws:=ws) n
 have hfl:((U3 ws n).flatMap Q6).length=n*45:=by rw [YE YN,hb,hn]
 refine ⟨zs++tl,by rw [List.length_append,hz,ht,←Nat.add_mul];congr 1;omega,?_⟩
 have e1:((U3 ws n).flatMap Q6++tl).take (m*45)=(Vr ws n).flatMap Q6:=by
  unfold U3
  rw [List.flatMap_append,List.append_assoc]
  have:((Vr ws n).flatMap Q6).length=m*45:=by rw [YE YN,hk]
  rw [←this,List.take_left']
  rfl
 have e2:((U3 ws n).flatMap Q6++tl).drop (m*45+(n-m)*45)=tl:=by
  have:m*45+(n-m)*45=((U3 ws n).flatMap Q6).length:=by rw [hfl,←Nat.add_mul];congr 1;omega
  rw [this,List.drop_left']
  rfl
 rw [e1,e2]
theorem zjy {ws:List Nt}{tl zs:List Value}{n c M:Nat}(hM:M=n)(hn:ws.length=n)(hc:n≤c)(ht:tl.length=(c-n)*45)(hz:zs.length=(n-(Vr ws M).length)*45):
  ∃ tl',tl'.length=(c-(Vr ws n).length)*45∧((U3 ws M).flatMap Q6++tl).take (0+(Vr ws M).length*45)++(zs++((U3 ws M).flatMap Q6++tl).drop (0+(Vr ws M).length*45+(n-(Vr ws M).length)*45))=(Vr ws n).flatMap Q6++tl':=by
 subst hM
 rw [Nat.zero_add]
 exact zm6 hn (Wy ws _) hc ht hz rfl
end
end Go.Proofs.YtjblkbkmblkgoaaGreat
namespace Go.Kn
section
open Go
section
variable {C:Cx} {Q:Exit→Act→World→Prop} {E:Env} {I:Qt} {loc:Loc} {ops:Array Oper} {rest:List Oper} {dst:Option Tmp} {ty:TypeId} {pos:String} {af:Array Edge} {gd:Option (Nat×Bool)} {x:Operand}
theorem znm {t e n c b off t':Nat}{z:Value}{zc A:List Value}(F:List Value→Loc)(hx:QE [] E x=some (.slice (some ⟨b,off,none⟩) n c))(hT:C.P.underlying t=some (.slice e))(hz:Y7 C.P e z)(hzc:z.cells=zc.toArray)(h1:YL zc=true)
  (hle:off+n*zc.length≤A.length)(hG:gd=none)(hdst:dst=none)(hu:∀ zs:List Value,Upd loc b (.cells A.toArray t' (0,0)) (.cells (A.take off++(zs++A.drop (off+n*zc.length))).toArray t' (0,0)) (F zs))
  (h:∀ zs:List Value,zs.length=n*zc.length→XO C Q ops rest [] E I (F zs)):
  XO C Q ops (⟨dst,.call ⟨.builtin .clear, #[x], #[t]⟩,ty,pos,af,gd⟩::rest) [] E I loc:=
 Z8 hG (by intro c e;cases e) fun a w ha hw=>by
  subst hdst
  have hsz:(Builtin.zeroCells z.cells n).toList.length=n*zc.length:=by rw [Array.length_toList,Vi,hzc];simp
  have hz1:∀ v∈(Builtin.zeroCells z.cells n).toList,v.oneCell'=true:=by
   intro v hv
   rw [Array.mem_toList_iff] at hv
   unfold Builtin.zeroCells at hv
   rw [hzc] at hv
   simp at hv
   obtain ⟨q,hq,h2⟩:=hv
   have hp:0<zc.length:=Nat.pos_of_ne_zero fun e=>by rw [e] at hq;simp at hq
   rw [List.getElem?_eq_getElem (Nat.mod_lt _ hp)] at h2
   exact Jk h1 v (by rw [←h2];exact List.getElem_mem _)
  have e:A=A.take off++((A.drop off).take (n*zc.length)++A.drop (off+n*zc.length)):=by
   have:(A.drop off).take (n*zc.length)++A.drop (off+n*zc.length)=A.drop off:=by rw [←List.drop_drop];exact List.take_append_drop _ _
   rw [this,List.take_append_drop]
  have hu2:=hu (Builtin.zeroCells z.cells n).toList
  have hu3:Upd loc b (.cells (A.take off++((A.drop off).take (n*zc.length)++A.drop (off+n*zc.length))).toArray t' (0,0)) (.cells (A.take off++((Builtin.zeroCells z.cells n).toList++A.drop (off+n*zc.length))).toArray t' (0,0)) (F (Builtin.zeroCells z.cells n).toList):=by rw [←e];exact hu2
  obtain ⟨w',hr,hs'⟩:=V1 (P:=C.P) (off:=off) (Builtin.zeroCells z.cells n).toList (A.take off) w loc _ b t' ((A.drop off).take (n*zc.length)) 0 (by rw [List.length_take];omega) (by rw [hsz,List.length_take,List.length_drop];omega) hz1 hw hu3
  have hrun:(Builtin.clear_ #[t] ty #[.slice (some ⟨b,off,none⟩) n c]).run C.P w= .ok (.tuple #[]) w':=by
   have h0:n=0→w'=w:=by
    intro hn;subst hn
    have:(Builtin.zeroCells z.cells 0).toList=[]:=List.length_eq_zero_iff.1 (by rw [hsz];omega)
    rw [this] at hr
    simp [storeCells] at hr
    exact hr.symm
   cases n with
   | zero=>rw [h0 rfl];simp [Builtin.clear_,Sem.run_bind,run_underlying hT,Result.andThen]
   | succ k=>simp [Builtin.clear_,Sem.run_bind,run_underlying hT,Result.andThen,Vo hz,hr]
  simp only [execOp,resolve,List.map_toArray,List.map_cons,List.map_nil,Qh (S:=[]) ha trivial rfl hx,Sem.run_bind,Sem.run_pure,Result.andThen,invoke,builtin,hrun,Oper.uponIn_value]
  exact h _ hsz _ _ ha trivial hs'
end
end
end Go.Kn
namespace Go.Proofs.YtjblkbkmblkgoaaGreat
section
open Go Go.Kn Go.Proofs
theorem zpw:Fun Tryz.prog 83:=.of Tryz.func83 (by kernel_rfl) (by kernel_rfl)
theorem zuF:Tryz.prog.underlying 57=some (.slice 45):=by kernel_rfl
theorem zv0 {I:Qt}{x y:Nt}(hX:NtM I x)(hY:NtM I y):ZA Tryz.prog 83 [Kj x,Kj y] I (.bool (Vh x y==0)):=by
 intro g H w hw
 refine qe Tryz.func83 Tryz.ntmps83 hw ?_
 have hIc:=zzm I
 refine zR ?_
 refine QR rfl rfl rfl (fun b_2=>?_)
 refine QR rfl rfl rfl (fun b_3=>?_)
 refine zA (Qb ?_)
 refine QH .here (fun I1 hI1 hb1=>?_)
 have hX:=hX.mono hI1;have hY:=hY.mono hI1;have hIc:=hIc.trans hI1
 have h3:=BxI.of hb1
 refine QH .here (fun I2 hI2 hb2=>?_)
 have hX:=hX.mono hI2;have hY:=hY.mono hI2;have h3:=h3.mono hI2;have hIc:=hIc.trans hI2
 have h2:=BxI.of hb2
 refine Qd (zR ?_)
 refine zV (Qg rfl Zf (fun hg=>by exact BxI.cells (vs:=Q6 x) h2) rfl) ?_
 refine zV (Qg rfl Zf (fun hg=>by exact BxI.cells (vs:=Q6 y) h3) rfl) ?_
 refine qcV (vs:=[_,_]) rfl zeC (zew hX hY) ?_
 refine zC ?_
 refine zA (zN (Qs ?_))
 exact Qv rfl rfl (fun w hw=>⟨by rfl,(hw.mono hIc).subL QB⟩)
theorem zvJ {I:Qt}{b c n:Nat}{ws:List Nt}{tl:List Value}(hws:ws.length=n)(hM:∀ x∈ws,NtM I x)(hn:n≤100000)(hc:n≤c)(hcm:c≤maxLen)(htl:tl.length=(c-n)*45):Vl Tryz.prog 82 [.slice (some ⟨b,0,none⟩) n c,.func (.func 83) #[] #[]] I [(b,.cells (ws.flatMap Q6++tl).toArray 45 (0,0))] (fun v I' L'=>I'=I∧v= .slice (some ⟨b,0,none⟩) (Vr ws n).length c∧∃ tl',tl'.length=(c-(Vr ws n).length)*45∧L'=[(b,.cells ((Vr ws n).flatMap Q6++tl').toArray 45 (0,0))]):=by
 intro g H w hw
 refine qe Tryz.func82 Tryz.ntmps82 hw ?_
 refine zR (zA (zN (Qm (zR ?_))))
 refine zM ?_
 refine zQ Za ?_
 refine zC (zN ?_)
 refine zI ?_ ?_<;>intro hc10
 ·
  have h10:ws.length<2:=by have h:=hc10;simp at h;omega
  refine zR (zM ?_)
  refine zA (zN (Qs (Qe ?_)))
  exact Qv rfl rfl (fun w hw=>⟨_,I,_,rfl,zzm _,hw,rfl,by rw [←hws,zbB h10],tl,by rw [←hws,zbB h10,hws];exact htl,by rw [←hws,zbB h10]⟩)
 have h10:2≤n:=by have h:=hc10;simp at h;omega
 refine Qr (Qd (Qm (zR (zA (zN (Qw ?_))))))
 refine zU [(0,_),(1,_)] (fun T L0 mz E I' loc'=>∃ (k:Nat),mz=n-k∧E=(5,.int .i64 k)::T∧I=I'∧L0=loc'∧1≤k∧k≤n∧Vr ws k=ws.take k) ?_ (h:=⟨1,rfl,rfl,rfl,rfl,Nat.le_refl _,by omega,zrU ws⟩)
 rintro mz E I' loc' ⟨k,rfl,rfl,rfl,rfl,hk1,hkn,hct⟩
 refine Qm (zR (zM ?_))
 refine zM ?_
 refine zQ Za ?_
 refine zC (zN ?_)
 refine zI ?_ ?_<;>intro hc15
 ·
  have hlt:k<n:=by have h:=hc15;simp at h;omega
  obtain ⟨x,hx⟩:∃ y,ws[k]? =some y:=⟨_,List.getElem?_eq_getElem (by omega)⟩
  obtain ⟨y,hy⟩:∃ y,ws[k-1]? =some y:=⟨_,List.getElem?_eq_getElem (by omega)⟩
  have hxm:=List.mem_of_getElem? hx
  have hym:=List.mem_of_getElem? hy
  have ex1:((k:Int)).toNat*45=k*45:=by rw [Int.toNat_natCast]
  have ey1:((k:Int)-1).toNat*45=(k-1)*45:=by rw [show ((k:Int)-1).toNat=k-1 by omega]
  refine Qr (Qd (Qm (Qw (Qm ?_))))
  have hD:=zzm I
  refine Zt ?_
  refine QQ I [(b,.cells (ws.flatMap Q6++tl).toArray 45 (0,0))] mixed ?_
  refine zT 0 rfl (Qf rfl) hD ?_
  refine zT 1 rfl (Qf rfl) hD ?_
  refine zT 2 rfl (Qf rfl) hD ?_
  refine zT 3 rfl (Ud rfl rfl Za (fun hg=>by omega)) hD ?_
  refine zT 4 rfl (Qg rfl Zf (fun hg=>by exact WZ hx ex1) rfl) hD ?_
  refine zT 5 rfl (Qf rfl) hD ?_
  refine zT 6 rfl (Qf rfl) hD ?_
  refine zT 7 rfl (Yz rfl rfl rfl (fun hg=>by omega)) hD ?_
  refine zT 8 rfl (Ud rfl rfl Za (fun hg=>by omega)) hD ?_
  refine zT 9 rfl (Qg rfl Zf (fun hg=>by exact WZ hy ey1) rfl) hD ?_
  refine qd 10 rfl ?_
  refine qcV (vs:=[_,_]) rfl zpw (zv0 (hM x hxm) (hM y hym)) ?_
  refine Qb ?_
  refine zD hD ?_
  refine Qn (by kernel_rfl) ?_
  refine Qx ?_
  refine Qd ?_
  refine zI ?_ ?_<;>intro hc28
  ·
   have hkp:kpN ws k x=false:=by rw [zh6 hk1 hy,hc28];rfl
   refine zR (zM ?_)
   refine zM ?_
   refine zV (Ve rfl rfl Za (fun hg=>by omega)) ?_
   rw [Xd (by omega)]
   refine zA (zN (Qm (zR ?_)))
   refine zA (zN (Qw ?_))
   refine zdd [(0,_),(1,_),(6,_)] (.cons rfl (.cons rfl (.cons rfl .nil))) (fun T L0 mz E I' loc'=>∃ (j:Nat),mz=n-j∧E=(5,.int .i64 ((Vr ws (k+j)).length:Nat))::(7,.int .i64 j)::T∧I=I'∧[(b,.cells ((U3 ws (k+j)).flatMap Q6++tl).toArray 45 (0,0))]=loc'∧1≤j∧k+j≤n∧(Vr ws (k+j)).length≤k+j-1) _ _ _ _ ⟨1,rfl,by rw [zcC hx hkp,hct,List.length_take,Nat.min_eq_left (by omega)],rfl,by rw [zpB hx hkp,znk hct (by omega)],Nat.le_refl _,by omega,by rw [zcC hx hkp];have:=Wy ws k;omega⟩ (.cons rfl (.cons rfl (.cons rfl (.cons rfl (.cons rfl .nil))))) (zzm _) rfl ?_
   rintro mz E I' loc' ⟨j,rfl,rfl,rfl,rfl,hj1,hjn,hml⟩
   have hbl:(U3 ws (k+j)).length=n:=by rw [zk5];exact hws
   refine Qm (zR (zM ?_))
   refine zM ?_
   refine zQ Za ?_
   refine zC (zN ?_)
   refine zI ?_ ?_<;>intro hc35
   ·
    have hlt2:k+j<n:=by have h:=hc35;simp at h;omega
    obtain ⟨x,hx0⟩:∃ y,ws[k+j]? =some y:=⟨_,List.getElem?_eq_getElem (by omega)⟩
    obtain ⟨y,hy0⟩:∃ y,ws[k+j-1]? =some y:=⟨_,List.getElem?_eq_getElem (by omega)⟩
    have hxm:=List.mem_of_getElem? hx0
    have hym:=List.mem_of_getElem? hy0
    have hx2:(U3 ws (k+j))[k+j]? =some x:=by rw [zja (by omega)];exact hx0
    have hy2:(U3 ws (k+j))[k+j-1]? =some y:=by rw [zja (by omega)];exact hy0
    have ex2:0+((k:Int)).toNat*45+((j:Int)).toNat*45=(k+j)*45:=by rw [Int.toNat_natCast,Int.toNat_natCast,Nat.zero_add,←Nat.add_mul]
    have ey2:0+((k:Int)).toNat*45+((j:Int)-1).toNat*45=(k+j-1)*45:=by rw [show ((j:Int)-1).toNat=j-1 by omega,Int.toNat_natCast,Nat.zero_add,←Nat.add_mul];congr 1;omega
    refine Qr (Qd (Qm (Qw (Qm ?_))))
    have hD:=zzm I
    refine Zt ?_
    refine QQ I [(b,.cells ((U3 ws (k+j)).flatMap Q6++tl).toArray 45 (0,0))] mixed ?_
    refine zT 0 rfl (Qf rfl) hD ?_
    refine zT 1 rfl (Qf rfl) hD ?_
    refine zT 2 rfl (Qf rfl) hD ?_
    refine zT 3 rfl (JH rfl rfl Za (fun hg=>by omega)) hD ?_
    refine zT 4 rfl (Qg rfl Zf (fun hg=>by exact WZ hx2 ex2) rfl) hD ?_
    refine zT 5 rfl (Qf rfl) hD ?_
    refine zT 6 rfl (Qf rfl) hD ?_
    refine zT 7 rfl (Yz rfl rfl rfl (fun hg=>by omega)) hD ?_
    refine zT 8 rfl (JH rfl rfl Za (fun hg=>by omega)) hD ?_
    refine zT 9 rfl (Qg rfl Zf (fun hg=>by exact WZ hy2 ey2) rfl) hD ?_
    refine qd 10 rfl ?_
    refine qcV (vs:=[_,_]) rfl zpw (zv0 (hM x hxm) (hM y hym)) ?_
    refine Qb ?_
    refine zD hD ?_
    refine zT 11 rfl (Zs rfl) hD ?_
    refine Qn (by kernel_rfl) ?_
    refine Qx ?_
    refine Qd ?_
    refine zI ?_ ?_<;>intro hc49
    ·
     have hkp2:kpN ws (k+j) x=true:=by rw [zh6 (by omega) hy0];exact hc49
     refine zR (zM ?_)
     refine zM ?_
     refine zM ?_
     refine zM ?_
     refine zV (JH rfl rfl Za (fun hg=>by omega)) ?_
     refine zV (Qg rfl Zf (fun hg=>by exact WZ hx2 ex2) rfl) ?_
     refine zV (Ud rfl rfl Za (fun hg=>by omega)) ?_
     refine Y4 (A:=(U3 ws (k+j)).flatMap Q6++tl) rfl rfl VW rfl (by rw [zjk hbl htl hc];exact Nat.ble_eq_true_of_le (by simp;omega)) rfl rfl (by exact .here) ?_
     rw [show (((Vr ws (k+j)).length:Nat):Int).toNat*45=(Vr ws (k+j)).length*45 from by rw [Int.toNat_natCast],zlZ (by rw [hbl];omega)]
     refine zN (Qi (zM ?_))
     refine zB ?_
     refine zA (Qb (Qk (Qd (Qi ?_))))
     refine zM ?_
     refine zB ?_
     refine zA (Qb ?_)
     first
     | exact Q9 _ [(b,.cells (((U3 ws (k+j)).set (Vr ws (k+j)).length x).flatMap Q6++tl).toArray 45 (0,0))] ⟨n-(j+1),by omega,j+1,rfl,by rw [←Nat.add_assoc,zbK hx0 hkp2,List.length_append,List.length_singleton],rfl,by rw [←Nat.add_assoc,zsc hx0 hkp2],by omega,by omega,by rw [←Nat.add_assoc,zbK hx0 hkp2,List.length_append,List.length_singleton];omega⟩ (.cons rfl (.cons rfl (.cons rfl (.cons rfl (.cons rfl .nil))))) (by repeat (first | exact .refl | exact QJ | refine QZ ?_ | refine .drop ?_ | refine QO ?_))
    have hkp2:kpN ws (k+j) x=false:=by rw [zh6 (by omega) hy0];exact hc49
    refine Qr (Qk (Qd (Qi (zM ?_))))
    refine zB ?_
    refine zA (Qb ?_)
    first
    | exact Q9 _ [(b,.cells ((U3 ws (k+j)).flatMap Q6++tl).toArray 45 (0,0))] ⟨n-(j+1),by omega,j+1,rfl,by rw [←Nat.add_assoc,zcC hx0 hkp2],rfl,by rw [←Nat.add_assoc,zpB hx0 hkp2],by omega,by omega,by rw [←Nat.add_assoc,zcC hx0 hkp2];omega⟩ (.cons rfl (.cons rfl (.cons rfl (.cons rfl (.cons rfl .nil))))) (by repeat (first | exact .refl | exact QJ | refine QZ ?_ | refine .drop ?_ | refine QO ?_))
   have hge2:k+j=n:=by have h:=hc35;simp at h;omega
   refine Zi (Qo (Qo (Qz (Qd (zR (zM ?_))))))
   refine zM ?_
   refine zV (Ve rfl rfl Za (fun hg=>by omega)) ?_
   rw [Xd (by omega)]
   refine znm (A:=(U3 ws (k+j)).flatMap Q6++tl) (fun zs=>[(b,.cells (((U3 ws (k+j)).flatMap Q6++tl).take (0+(Vr ws (k+j)).length*45)++(zs++((U3 ws (k+j)).flatMap Q6++tl).drop (0+(Vr ws (k+j)).length*45+(n-(Vr ws (k+j)).length)*45))).toArray 45 (0,0))]) rfl zuF W8 rfl rfl (by rw [zjk hbl htl hc];simp;omega) rfl rfl (fun zs=>by simpa using Upd.here) (fun zc hzc=>?_)
   refine Qb ?_
   obtain ⟨tl2,ht2,e2⟩:=zjy hge2 hws hc htl (by simpa using hzc)
   rw [e2]
   refine Qd (zR (zM ?_))
   refine zM ?_
   refine zV (VM rfl rfl Za (fun hg=>by omega)) ?_
   refine zA (zN (Qs (Qj (Qe (Qe (Qj (Qe ?_)))))))
   exact Qv rfl rfl (fun w hw=>⟨_,I,_,rfl,zzm _,hw,rfl,by rw [Int.toNat_natCast,hge2],tl2,ht2,rfl⟩)
  refine Qr (Qk (Qd (Qi (zM ?_))))
  refine zB ?_
  refine zA (Qb ?_)
  exact zm (h:=⟨n-(k+1),by omega,k+1,rfl,rfl,rfl,rfl,by omega,by omega,zeB hct hx (by rw [zh6 hk1 hy,hc28];rfl)⟩)
 have hge:n≤k:=by have h:=hc15;simp at h;omega
 obtain rfl:k=n:=by omega
 rw [List.take_of_length_le (by omega)] at hct
 refine Zi (Qo (Qo (Qz (Qd (zR (zM ?_))))))
 refine zA (zN (Qs ?_))
 exact Qv rfl rfl (fun w hw=>⟨_,I,_,rfl,zzm _,hw,rfl,by rw [hct,hws],tl,by rw [hct,hws];exact htl,by rw [hct]⟩)
end
end Go.Proofs.YtjblkbkmblkgoaaGreat
namespace Go.Kn
section
open Go Go.Sort Go.Shelf Go.Lib Go.Proofs
theorem zjG {α:Type}[Inhabited α]{P:Program}{f g0:FuncId}{e:TypeId}{k:Nat}{enc:α→List Value}{cf:α→α→Int}(hk:∀ x,(enc x).length=k)(hpos:0<k)
  (hs:∀ (blk off cap:Nat) (d:Array α) (w:World),CmpLays P g0 #[] enc k cf blk off d.size w→HoldsK enc k w blk off d→blk<w.heap.size→d.size<4611686018427387904→
   Calls P f #[.slice (some ⟨blk,off,none⟩) d.size cap,.func (.func g0) #[] #[]] w fun e w'=>e= .returned (.tuple #[])∧∃ d' n os,PermIn 0 d.size d d'∧SortedIn (ltOf cf) 0 d.size d'∧w'=sortWorldK enc k w blk off n d' os)
  (h0:∀ (p:Option Addr) (cap:Nat) (fv:Value) (w:World),Calls P f #[.slice p 0 cap,fv] w fun e w'=>e= .returned (.tuple #[])∧w'=w)
  (I:Qt)(hcmp:∀ I',HLe I I'→∀ (x y:α),ZA P g0 [.agg (enc x).toArray,.agg (enc y).toArray] I' (.int .i64 (cf x y)))
  (zs:List α){v:Value}{n:Nat}{L:Loc}(hO:Ya e k v n (zs.flatMap enc) L)(hn:n≤1000000):
  Vl P f [v,.func (.func g0) #[] #[]] I L (fun u I' L'=>u= .tuple #[]∧I'=I∧∃ zs':List α,zs'.Perm zs∧zs'.Pairwise (fun x y=>ltOf cf y x=false)∧Ya e k v n (zs'.flatMap enc) L'):=by
 intro g H w hw
 have hl:zs.length=n:=by
  have:=hO.1
  rw [YE hk] at this
  exact Nat.eq_of_mul_eq_mul_right hpos this
 subst hl
 rcases hO.2 with ⟨rfl,h00,rfl⟩ | ⟨b,c,cur,rfl,rfl,hc,hc2,hsz,htk⟩
 ·
  have:zs=[]:=List.length_eq_zero_iff.1 h00
  subst this
  refine (h0 none 0 _ w).mono ?_
  rintro e w' ⟨rfl,rfl⟩
  exact ⟨_,I,[],rfl,zzm _,hw,rfl,rfl,[],.nil,.nil,by simp,.inl ⟨rfl,rfl,rfl⟩⟩
 ·
  have hb:=hw.own b _ (List.mem_singleton.2 rfl)
  have hbs:b<w.heap.size:=(Array.getElem?_eq_some_iff.1 hb).1
  have hfl:(zs.flatMap enc).length=zs.length*k:=YE hk zs
  have hH:HoldsK enc k w b 0 zs.toArray:=by
   unfold HoldsK
   rw [zkF hk hpos]
   exact ze4 (enc:=id) hw (List.mem_singleton.2 rfl) (zs.flatMap enc) (by rw [hfl,htk];simp)
  have hC:CmpLays P g0 #[] enc k cf b 0 zs.toArray.size w:=by
   intro m os dk _ x y
   have hsw:∃ L',St g I H L' (sortWorldK enc k w b 0 m dk os):=by
    unfold sortWorldK putRowK
    exact ⟨_,((hw.aheadN m).rowPut (enc:=id) _ .here).grown os⟩
   obtain ⟨L',hsw⟩:=hsw
   have h1:=hcmp (fun q=>(sortWorldK enc k w b 0 m dk os).heap[q]?) (fun b o h=>hsw.imm b o h) x y (sortWorldK enc k w b 0 m dk os) (fun _=>none) (sortWorldK enc k w b 0 m dk os)
    ⟨rfl,rfl,rfl,⟨Nat.le_refl _,Nat.le_refl _⟩,fun _ _ h=>h,(fun _ _ h=>by cases h),(fun _ _ h=>by cases h),fun _=>.inr rfl,(fun _ _ h=>by cases h),by simp⟩
   refine Calls.mono h1 ?_
   rintro e w' ⟨rfl,hs⟩
   exact ⟨rfl,zo1 hs⟩
  have hcall:=hs b 0 c zs.toArray w hC hH hbs (by simp;omega)
  rw [List.size_toArray] at hcall
  refine hcall.mono ?_
  rintro e w' ⟨rfl,d',m,os,hp,hsd,rfl⟩
  have hps:d'.size=zs.length:=by simpa using hp.1
  have hperm:d'.toList.Perm zs:=by
   have:=hp.2.2
   simpa [Array.extract_eq_self_of_le,hps] using this
  have hdl:d'=d'.toList.toArray:=by simp
  have hfd:(d'.toList.flatMap enc).length=zs.length*k:=by rw [YE hk,Array.length_toList,hps]
  refine ⟨_,I,[(b,.cells (putCells id 0 (d'.toList.flatMap enc).toArray cur) e (0,0))],rfl,zzm _,?_,rfl,rfl,d'.toList,hperm,?_,?_⟩
  ·
   unfold sortWorldK putRowK
   rw [hdl,zkF hk hpos]
   simp only [List.toList_toArray]
   exact (((hw.aheadN m).rowPut (enc:=id) _ .here).grown os)
  ·
   rw [List.pairwise_iff_getElem]
   intro i j hi hj hij
   have:=hsd i j (Nat.zero_le _) hij (by rw [←hps];simpa using hj)
   rw [getElem!_pos d' i (by simpa using hi),getElem!_pos d' j (by simpa using hj)] at this
   simpa using this
  ·
   refine ⟨by rw [hfd],.inr ⟨b,c,_,rfl,rfl,hc,hc2,by simp [putCells,hsz],?_⟩⟩
   have:=zhH (enc:=id) (cs:=cur) (n:=zs.length*k) (d'.toList.flatMap enc) hfd (by rw [hsz];exact Nat.mul_le_mul_right k hc)
   simpa using this
end
end Go.Kn
namespace Go.Proofs.YtjblkbkmblkgoaaGreat
section
open Go Go.Kn Go.Proofs
/-! ### The order -/
theorem zjg {x y z:Nt}(h:Vh x y=0):Vh x z=Vh y z:=by
 have e:(zal x).data.toList=(zal y).data.toList:=zsq h
 unfold Vh zxi;rw [e]
theorem zaI:NtW zet:=⟨fun y hy=>by
  have:y=0:=by
   simp only [YM,zet,Vt,Jh,L.zeroL,S.zeroR,Jz,List.mem_cons,List.not_mem_nil,or_false,or_self] at hy
   exact hy
  subst this;decide,fun y hy=>by cases hy⟩
theorem zlE {x:Nt}(hw:NtW x)(s1:x.pt.needs.length≤32)(s2:x.rt.name.size≤32)(s3:x.rt.town.size≤32):Va.ok (Kw x)∧(V5 x).length≤2000:=by
 have hok:∀ v∈(YM x).map Va.int,Va.ok v:=fun v hv=>by
  obtain ⟨y,hy,rfl⟩:=List.mem_map.1 hv
  exact hw.ints y hy
 have hon:∀ v∈x.pt.needs.map Va.int,Va.ok v:=fun v hv=>by
  obtain ⟨y,hy,rfl⟩:=List.mem_map.1 hv
  exact hw.needs y hy
 have hb:(Va.encL ((YM x).map Va.int)).length≤462:=by
  have:=KR (b:=11) (l:=(YM x).map Va.int) fun v hv=>by
   obtain ⟨y,hy,rfl⟩:=List.mem_map.1 hv
   exact Uj (hw.ints y hy)
  rw [List.length_map,YG] at this;omega
 have hn:(Va.encL (x.pt.needs.map Va.int)).length≤352:=by
  have:=KR (b:=11) (l:=x.pt.needs.map Va.int) fun v hv=>by
   obtain ⟨y,hy,rfl⟩:=List.mem_map.1 hv
   exact Uj (hw.needs y hy)
  rw [List.length_map] at this
  have h2:=Nat.mul_le_mul_right 11 s1
  omega
 constructor
 ·
  refine ⟨by simp [YG],zeF fun v hv=>?_⟩
  rw [List.mem_append] at hv
  rcases hv with hv | hv
  ·
   exact hok v hv
  ·
   simp only [List.mem_cons,List.not_mem_nil,or_false] at hv
   rcases hv with rfl | rfl | rfl
   ·
    exact ⟨by rw [List.length_map];omega,zeF hon⟩
   ·
    exact ⟨zdh _,by rw [Jt];omega⟩
   ·
    exact ⟨zdh _,by rw [Jt];omega⟩
 ·
  have e1:=Kx (s:=K1 x.rt.name) (by rw [Jt];exact s2)
  have e2:=Kx (s:=K1 x.rt.town) (by rw [Jt];exact s3)
  have e3:(Va.enc (.list (x.pt.needs.map Va.int))).length≤354:=by
   rw [Va.enc,List.length_map,Vf (by omega)]
   simp only [List.length_cons,List.length_append,List.length_nil];omega
  unfold V5 Kw
  rw [Va.enc,Vf (by simp [YG])]
  simp only [List.length_cons,List.length_append,List.length_nil,Va.encL_append,Va.encL];omega
theorem zo6 (I:Qt):NtM I zet:=by
 obtain ⟨h1,h2⟩:=zlE zaI (by decide) (by decide) (by decide)
 exact ⟨Sl.nil,by decide,h1,by omega⟩
def NtP (I:Qt):={x:Nt // NtM I x}
instance (I : Qt) : Inhabited (NtP I) := ⟨⟨zet, zo6 I⟩⟩
def zrR {I:Qt}(x:NtP I):List Value:=Q6 x.1
def zif {I:Qt}(x y:NtP I):Int:=Vh x.1 y.1
theorem zyX (I:Qt):Go.Sort.SWO (Go.Proofs.ltOf (zif (I:=I))):=by
 have key:∀ a b c:Nt,¬Vh a b<0→¬Vh b c<0→¬Vh a c<0:=fun a b c h1 h2 h3=>by
  by_cases e:Vh b a=0
  ·
   rw [zjg e] at h2;exact h2 h3
  ·
   have hf:Vh a b= - Vh b a:=by rw [UC]
   have h4:Vh b a<0:=by omega
   exact h2 (Jf h4 h3)
 refine ⟨fun x=>?_,fun x y z h1 h2=>?_,fun x y z h1 h2=>?_⟩
 ·
  unfold Go.Proofs.ltOf zif;rw [KW];rfl
 ·
  unfold Go.Proofs.ltOf zif at*
  exact decide_eq_true (Jf (of_decide_eq_true h1) (of_decide_eq_true h2))
 ·
  unfold Go.Proofs.ltOf zif at*
  exact decide_eq_false (key _ _ _ (of_decide_eq_false h1) (of_decide_eq_false h2))
def NtP.v {I:Qt}(x:NtP I):Nt:=x.1
theorem zqr {I:Qt}:∀ (xs:List Nt),(∀ x∈xs,NtM I x)→∃ zs:List (NtP I),zs.map NtP.v=xs
 | [],_=>⟨[],rfl⟩
 | x::l,h=>by
  obtain ⟨zs,hz⟩:=zqr l fun y hy=>h y (List.mem_cons_of_mem _ hy)
  exact ⟨(show NtP I from ⟨x,h x (List.mem_cons_self ..)⟩)::zs,congrArg (x:: ·) hz⟩
/-! ### Struck -/
theorem zcO {ws:List Nt}:∀ m,∀ x∈Vr ws m,x∈ws
 | 0,x,h=>by cases h
 | m+1,x,h=>by
  unfold Vr at h
  split at h
  ·
   exact zcO m x h
  ·
   rename_i y hy
   split at h
   ·
    rcases List.mem_append.1 h with h | h
    ·
     exact zcO m x h
    ·
     rw [List.mem_singleton] at h;subst h;exact List.mem_of_getElem? hy
   ·
    exact zcO m x h
theorem zgk {ws:List Nt}(hs:ws.Pairwise fun x y=>¬Vh y x<0):∀ m,m≤ws.length→zdI (Vr ws m)∧(∀ y,1≤m→ws[m-1]? =some y→∃ z,(Vr ws m).getLast?=some z∧Vh z y=0)∧∀ (i:Nat) (x:Nt),i<m→ws[i]? =some x→∃ z∈Vr ws m,Vh z x=0
 | 0,_=>⟨fun k l x y _ hx=>by simp [Vr] at hx,fun y h=>by omega,fun i x h=>by omega⟩
 | m+1,hm=>by
  obtain ⟨h1,h2,h3⟩:=zgk hs m (by omega)
  obtain ⟨x,hx⟩:∃ x,ws[m]? =some x:=⟨_,List.getElem?_eq_getElem (by omega)⟩
  cases hk:kpN ws m x with
  | true=>
   rw [zbK hx hk]
   refine ⟨?_,fun y _ hy=>⟨x,by simp,?_⟩,fun i u hi hu=>?_⟩
   ·
    -- all before are less
    have hlt:∀ z∈Vr ws m,Vh z x<0:=by
     intro z hz
     rcases Nat.eq_zero_or_pos m with hm0 | hm0
     ·
      subst hm0;cases hz
     ·
      obtain ⟨y,hy⟩:∃ y,ws[m-1]? =some y:=⟨_,List.getElem?_eq_getElem (by omega)⟩
      rw [zh6 hm0 hy] at hk
      have hne:Vh x y≠0:=by simpa using hk
      have hnl:¬Vh x y<0:=by
       obtain ⟨ha,ea⟩:=List.getElem?_eq_some_iff.1 hy
       obtain ⟨hb,eb⟩:=List.getElem?_eq_some_iff.1 hx
       have:=List.pairwise_iff_getElem.1 hs (m-1) m ha hb (by omega)
       rw [ea,eb] at this;exact this
      have hyx:Vh y x<0:=by rw [UC];omega
      obtain ⟨l,hl,hly⟩:=h2 y hm0 hy
      have hlx:Vh l x<0:=by rw [zjg hly];exact hyx
      obtain ⟨i,hi⟩:=List.mem_iff_getElem?.1 hz
      have hil:=(List.getElem?_eq_some_iff.1 hi).1
      rw [List.getLast?_eq_getElem?] at hl
      rcases Nat.lt_or_ge i ((Vr ws m).length-1) with h4 | h4
      ·
       exact Jf (h1 i _ z l h4 hi hl) hlx
      ·
       have:i=(Vr ws m).length-1:=by omega
       rw [this,hl] at hi;cases hi;exact hlx
    intro k l u v hkl hu hv
    rcases Nat.lt_or_ge l (Vr ws m).length with h4 | h4
    ·
     rw [List.getElem?_append_left h4] at hv
     rw [List.getElem?_append_left (by omega)] at hu
     exact h1 k l u v hkl hu hv
    ·
     rw [List.getElem?_append_right h4] at hv
     have hvl:v=x:=by
      have:=(List.getElem?_eq_some_iff.1 hv).1
      simp only [List.length_singleton] at this
      have e:l-(Vr ws m).length=0:=by omega
      rw [e] at hv;cases hv;rfl
     subst hvl
     rw [List.getElem?_append_left (by
      have:=(List.getElem?_eq_some_iff.1 hv).1
      simp only [List.length_singleton] at this
      omega)] at hu
     exact hlt u (List.mem_of_getElem? hu)
   ·
    rw [Nat.add_sub_cancel,hx] at hy;cases hy;exact KW _
   ·
    rcases Nat.lt_or_ge i m with h4 | h4
    ·
     obtain ⟨z,hz,e⟩:=h3 i u h4 hu;exact ⟨z,List.mem_append_left _ hz,e⟩
    ·
     have:i=m:=by omega
     subst this;rw [hx] at hu;cases hu
     exact ⟨_,List.mem_append_right _ (List.mem_singleton.2 rfl),KW _⟩
  | false=>
   rw [zcC hx hk]
   have hm0:1≤m:=by
    rcases Nat.eq_zero_or_pos m with h | h
    ·
     subst h;simp [kpN] at hk
    ·
     exact h
   obtain ⟨y,hy⟩:∃ y,ws[m-1]? =some y:=⟨_,List.getElem?_eq_getElem (by omega)⟩
   rw [zh6 hm0 hy] at hk
   have he:Vh x y=0:=by simpa using hk
   have he2:Vh y x=0:=by rw [UC,he];rfl
   obtain ⟨l,hl,hly⟩:=h2 y hm0 hy
   have hlx:Vh l x=0:=by rw [zjg hly];exact he2
   refine ⟨h1,fun u _ hu=>⟨l,hl,?_⟩,fun i u hi hu=>?_⟩
   ·
    rw [Nat.add_sub_cancel,hx] at hu;cases hu;exact hlx
   ·
    rcases Nat.lt_or_ge i m with h4 | h4
    ·
     exact h3 i u h4 hu
    ·
     have:i=m:=by omega
     subst this;rw [hx] at hu;cases hu
     exact ⟨l,List.mem_of_getLast? hl,hlx⟩
/-! ### Loaded -/
structure LdK (I:Qt)(rs:List Hy)(xs:List Nt):Prop where
 len:xs.length=rs.length
 ok:∀ (i:Nat) (r:Hy) (x:Nt),rs[i]? =some r→xs[i]? =some x→okN r.bytes=some (Yr x)∧NtM I x∧QP x=true
theorem LdK.mono {I I':Qt}{rs:List Hy}{xs:List Nt}(h:LdK I rs xs)(hI:HLe I I'):LdK I' rs xs:=⟨h.len,fun i r x hr hx=>let ⟨h1,h2,h3⟩:=h.ok i r x hr hx;⟨h1,h2.mono hI,h3⟩⟩
theorem LdK.nil {I:Qt}:LdK I [] []:=⟨rfl,fun i r x hr=>by simp at hr⟩
theorem LdK.snoc {I:Qt}{rs:List Hy}{xs:List Nt}{r:Hy}{x:Nt}(h:LdK I rs xs)(h1:okN r.bytes=some (Yr x))(h2:NtM I x)(h3:QP x=true):LdK I (rs++[r]) (xs++[x]):=by
 have hl:=h.len
 refine ⟨by simp [hl],fun i r' x' hr hx=>?_⟩
 rcases Nat.lt_or_ge i rs.length with h4 | h4
 ·
  rw [List.getElem?_append_left h4] at hr
  rw [List.getElem?_append_left (by omega)] at hx
  exact h.ok i r' x' hr hx
 ·
  rw [List.getElem?_append_right h4] at hr
  rw [List.getElem?_append_right (by omega)] at hx
  have e:i-rs.length=0:=by
   have:=(List.getElem?_eq_some_iff.1 hr).1
   simp only [List.length_singleton] at this;omega
  rw [hl,e] at hx;rw [e] at hr
  cases hr;cases hx;exact ⟨h1,h2,h3⟩
theorem LdK.all {I:Qt}{rs:List Hy}{xs:List Nt}(h:LdK I rs xs):∀ x∈xs,NtM I x∧QP x=true∧∃ r∈rs,okN r.bytes=some (Yr x):=fun x hx=>by
 obtain ⟨i,hi⟩:=List.mem_iff_getElem?.1 hx
 obtain ⟨r,hr⟩:∃ r,rs[i]? =some r:=⟨_,List.getElem?_eq_getElem (by rw [←h.len];exact (List.getElem?_eq_some_iff.1 hi).1)⟩
 obtain ⟨h1,h2,h3⟩:=h.ok i r x hr hi
 exact ⟨h2,h3,r,List.mem_of_getElem? hr,h1⟩
structure LdZ (I:Qt)(rs:List Hy)(a:Option Addr)(m c:Nat)(zs:List Nt):Prop where
 nt:U7 I a m c zs
 srt:zdI zs
 len:zs.length≤rs.length
 mem:∀ r∈rs,∃ x∈zs,okN r.bytes=some (Yr x)
 frm:∀ x∈zs,QP x=true∧∃ r∈rs,okN r.bytes=some (Yr x)
def LdQ (rs:List Hy)(v:Value)(I':Qt)(L':Go.Kn.Loc):Prop:=L'=[]∧
  ((4096<rs.length∧v= .tuple #[.agg #[.slice none 0 0],.int .i64 2])∨
   (rs.length≤4096∧(∃ r∈rs,okN r.bytes=none)∧v= .tuple #[.agg #[.slice none 0 0],.int .i64 570])∨
   (rs.length≤4096∧∃ a m c zs,v= .tuple #[.agg #[.slice a m c],.int .i64 0]∧LdZ I' rs a m c zs))
theorem zvC {I:Qt}{rs:List Hy}{xs ys:List Nt}{a:Option Addr}{m c:Nat}(h:LdK I rs xs)(hp:ys.Perm xs)(hs:ys.Pairwise fun x y=>¬Vh y x<0)(hS:Sl I 45 Q6 a m c (Vr ys ys.length)):LdZ I rs a m c (Vr ys ys.length):=by
 obtain ⟨h1,_,h3⟩:=zgk hs ys.length (Nat.le_refl _)
 have hall:=h.all
 have hsub:∀ x∈Vr ys ys.length,x∈xs:=fun x hx=>hp.mem_iff.1 (zcO _ x hx)
 refine ⟨⟨hS,fun x hx=>(hall x (hsub x hx)).1.nd,fun x hx _=>(hall x (hsub x hx)).1⟩,h1,?_,fun r hr=>?_,fun x hx=>⟨(hall x (hsub x hx)).2.1,(hall x (hsub x hx)).2.2⟩⟩
 ·
  have:=Wy ys ys.length
  have h5:=hp.length_eq;have h6:=h.len;omega
 ·
  obtain ⟨i,hi⟩:=List.mem_iff_getElem?.1 hr
  obtain ⟨x,hx⟩:∃ x,xs[i]? =some x:=⟨_,List.getElem?_eq_getElem (by rw [h.len];exact (List.getElem?_eq_some_iff.1 hi).1)⟩
  obtain ⟨e1,e2,_⟩:=h.ok i r x hi hx
  obtain ⟨j,hj⟩:=List.mem_iff_getElem?.1 (hp.mem_iff.2 (List.mem_of_getElem? hx))
  obtain ⟨z,hz,ez⟩:=h3 j x (List.getElem?_eq_some_iff.1 hj).1 hj
  refine ⟨z,hz,?_⟩
  rw [e1,ztj (hall z (hsub z hz)).1.ok e2.ok ez]
end
section
open Go Go.Kn Go.Proofs
theorem zsp (I:Qt):ZA Tryz.prog 82 [.slice none 0 0,.func (.func 83) #[] #[]] I (.slice none 0 0):=by
 intro g H w hw
 refine qe Tryz.func82 Tryz.ntmps82 hw ?_
 refine zR (zA (zN (Qm (zR ?_))))
 refine zM ?_
 refine zQ Za ?_
 refine zC (zN ?_)
 refine zI ?_ ?_<;>intro hc10
 ·
  refine zR (zM ?_)
  refine zA (zN (Qs (Qe ?_)))
  exact Qv rfl rfl (fun w hw=>⟨by rfl,hw⟩)
 cases hc10
theorem zt5 {I:Qt}{v:Value}{n:Nat}{ws:List Nt}{L:Go.Kn.Loc}(hO:Ya 45 45 v n (ws.flatMap Q6) L)(hl:ws.length=n)(hM:∀ x∈ws,NtM I x)(hn:n≤100000):Vl Tryz.prog 82 [v,.func (.func 83) #[] #[]] I L (fun u I' L'=>I'=I∧Ya 45 45 u (Vr ws n).length ((Vr ws n).flatMap Q6) L'):=by
 rcases zvA hO hl with ⟨rfl,rfl,rfl⟩ | ⟨b,c,tl,rfl,rfl,hc,hcm,htl⟩
 ·
  have:ws=[]:=List.eq_nil_of_length_eq_zero hl
  subst this
  intro g H w hw
  exact (zsp I g H w hw).mono fun e w' ⟨h1,h2⟩=>⟨_,I,[],h1,zzm _,h2,rfl,Ya.nil⟩
 intro g H w hw
 refine (zvJ hl hM hn hc hcm htl g H w hw).mono ?_
 rintro e w' ⟨u,I',L',h1,h2,h3,rfl,rfl,tl',h5,rfl⟩
 exact ⟨_,_,_,h1,h2,h3,rfl,zvS rfl (Nat.le_trans (Wy ws n) hc) hcm h5⟩
theorem zsP {I:Qt}{xs:List Nt}(hX:∀ x∈xs,NtM I x){v:Value}{n:Nat}{L:Go.Kn.Loc}(hO:Ya 45 45 v n (xs.flatMap Q6) L)(hn:n≤1000000):
  Vl Tryz.prog 80 [v,.func (.func 81) #[] #[]] I L (fun u I' L'=>u= .tuple #[]∧I'=I∧∃ ys:List Nt,ys.Perm xs∧ys.Pairwise (fun x y=>¬Vh y x<0)∧Ya 45 45 v n (ys.flatMap Q6) L'):=by
 obtain ⟨zs,hz⟩:=zqr xs hX
 subst hz
 have e0:∀ l:List (NtP I),l.flatMap zrR=(l.map NtP.v).flatMap Q6:=fun l=>by rw [List.flatMap_map];rfl
 rw [←e0] at hO
 intro g H w hw
 refine (zjG (α:=NtP I) (enc:=zrR) (cf:=zif) (fun x=>YN x.1) (by decide) (fun blk off cap d w hC hH hb hs=>Tryz.slices_SortFunc (α:=NtP I) 45 (fun w=>YU Zf) (fun w=>by obtain ⟨i,hi,hz⟩:=VW;rw [←hz];exact Go.Kn.run_sizeOf hi) zrR (fun x=>YN x.1) (fun x=>Jk (by rfl)) zif (zyX I) 81 #[] blk off cap d w (fun args w=>JJ zeC args w) hC hH hb hs) (Tryz.slices_SortFunc_none (α:=NtP I)) I (fun I' hI x y=>zew (x.2.mono hI) (y.2.mono hI)) zs hO hn g H w hw).mono ?_
 rintro e w' ⟨u,I',L',h1,h2,h3,rfl,rfl,zs',hp,hpw,hO'⟩
 rw [e0] at hO'
 refine ⟨_,_,_,h1,h2,h3,rfl,rfl,zs'.map NtP.v,hp.map _,?_,hO'⟩
 rw [List.pairwise_map]
 exact hpw.imp fun {a b} h=>of_decide_eq_false h
end
section
open Go Go.Kn Go.Proofs
theorem zuo:Fun Tryz.prog 80:=.of Tryz.func80 (by kernel_rfl) (by kernel_rfl)
theorem zvD:Fun Tryz.prog 82:=.of Tryz.func82 (by kernel_rfl) (by kernel_rfl)
theorem Kq:SlT Tryz.prog 60 80 1:=.of (by kernel_rfl)
theorem zer {I:Qt}{av:Option Addr}{n c:Nat}{rs:List Hy}(hR:zkZ I av n c rs)(hn:n≤100000)(hb:∀ r∈rs,r.n≤100000):Vl Tryz.prog 24 [.slice av n c] I [] (LdQ rs):=by
 intro g H w hw
 refine qe Tryz.func24 Tryz.ntmps24 hw ?_
 have hIc:=zzm I
 have hln:=hR.sl.len
 refine zR ?_
 refine Qq zfo rfl rfl (fun b_2=>?_)
 refine zA (zN (Qm (zR ?_)))
 refine zM ?_
 refine zQ Kq ?_
 refine zC (zN ?_)
 refine zI ?_ ?_<;>intro hc11
 ·
  have h11:4096<n:=by have h:=hc11;simp at h;omega
  refine zR ?_
  refine zV (Qg rfl Kh (fun hg=>by exact Cells.g0) rfl) ?_
  refine zh W0 ?_
  refine zA (zN (Qs (Qe ?_)))
  exact ZN rfl rfl rfl Kh (by exact zzk) rfl (fun w hw=>⟨_,I,[],rfl,hIc,hw.subL QB,rfl,.inl ⟨by omega,rfl⟩⟩)
 have h11:n≤4096:=by have h:=hc11;simp at h;omega
 refine Qr (Qd (zR (zA (zN (Qm (zR ?_))))))
 refine zM ?_
 refine zQ Kq ?_
 refine zM (zN (Qw ?_))
 refine zU [(2,_),(13,_),(14,_)] (fun T L0 mz E I' loc'=>∃ (k:Nat) (v:Value) (Lw:Go.Kn.Loc) (xs:List Nt),mz=n-k∧E=(4,v)::(15,.int .i64 k)::T∧HLe I I'∧Lw++[(b_2,.cells #[.slice none 0 0] 59 (0,0))]=loc'∧k≤n∧Ya 45 45 v k (xs.flatMap Q6) Lw∧LdK I' (rs.take k) xs) ?_ (h:=⟨0,_,[],[],rfl,rfl,zzm _,rfl,Nat.zero_le _,Ya.nil,LdK.nil⟩)
 rintro mz E J1 loc' ⟨k,v,Lw,xs,rfl,rfl,hJ,rfl,hk,hO,hLK⟩
 have hR:=hR.mono hJ;have hIc:=hIc.trans hJ
 have hB0:=hJ
 refine zR (zC (zN (Qm ?_)))
 refine zI ?_ ?_<;>intro hc16
 ·
  have hlt_k:k<n:=by have h:=hc16;simp at h;omega
  obtain ⟨r,hr⟩:∃ y,rs[k]? =some y:=⟨_,List.getElem?_eq_getElem (by omega)⟩
  have hrm:=List.mem_of_getElem? hr
  have hy:=hR.m r hrm
  refine Qr (Qd (Qm (Qw (zR ?_))))
  refine zV (QG rfl rfl Kq hR.sl (fun hg=>by omega)) ?_
  refine zV (Qc rfl Ux (fun hg=>by exact zzf hR.sl hr rfl)) ?_
  refine zA ?_
  refine zN (zR ?_)
  refine zM ?_
  refine zpc [_] rfl zj8 .nil (zjV hy.sl hy.byte (hb r hrm)) ?_
  rintro vv2 I2 L2 hI2 ⟨rfl,cs,bb,rfl,hrd⟩
  have hLK:=hLK.mono hI2;have hIc:=hIc.trans hI2;have hB0:=hB0.trans hI2
  refine zM ?_
  refine zE ?_
  refine zE ?_
  refine Qq W8 rfl rfl (fun b_7=>?_)
  refine Y8 (old:=Q6 zet) rfl rfl VW hrd.1.1 rfl hrd.1.2 rfl (by repeat (first | exact Upd.here | apply Upd.there | apply Qu)) ?_
  refine zA (zN (Qm (zR ?_)))
  refine zM ?_
  refine zO (zN ?_)
  refine zI ?_ ?_<;>intro hc25
  ·
   have hno:okN r.bytes=none:=by have h:=zgW hrd;have h2:bb=false:=(by simpa using hc25);rw [h2] at h;simpa using h
   refine zR ?_
   refine zV (Qg rfl Kh (fun hg=>by (repeat (first | exact zzk | apply zzj | apply zzl))) rfl) ?_
   refine Y8 rfl rfl W0 rfl rfl rfl rfl (by (repeat (first | exact Upd.here | apply Upd.there | apply Qu))) ?_
   refine zA (zN (Qs (Qe (Qj (Qe (Qe (Qj ?_)))))))
   refine Qe ?_
   exact ZN rfl rfl rfl Kh (by (repeat (first | exact zzk | apply zzj | apply zzl))) rfl (fun w hw=>⟨_,I2,[],rfl,hIc,hw.subL QB,rfl,.inr (.inl ⟨by omega,⟨r,hrm,hno⟩,rfl⟩)⟩)
  obtain ⟨t9,_,rfl,hNd9,hok9⟩:=zg6 hrd (by rw [zgW hrd];simpa using hc25)
  have hbl9:r.bytes.length≤100000:=by have h:=hy.sl.len;have h2:=hb r hrm;omega
  have hTM:=zgE hy.byte hbl9 hok9 hNd9
  have hTf:=zdJ hy.byte hbl9 hok9 hNd9
  refine Qr (Qd (Qi (zM ?_)))
  refine zV (Qg rfl Zf (fun hg=>by exact Cells.g0) rfl) ?_
  refine zpb [(0,_)] [Q6 t9] Ut (fun b_29=>?_)
  refine zpa (_) ([t9].flatMap Q6) (Lw) rfl rfl Ut hO ⟨rfl,fun _=>rfl,by repeat (first | exact zzk | apply zzj | apply zzl)⟩ (znh [t9]) ?_
  intro v9 L9 hO9 _;rw [←List.flatMap_append] at hO9
  refine zA (Qb (Qk (Qd (Qi ?_))))
  refine zB ?_
  refine zM (Qb ?_)
  exact zm (h:=⟨n-(k+1),by omega,k+1,_,_,_,rfl,rfl,hB0,rfl,by omega,hO9,by rw [Zh hr];exact hLK.snoc hok9 hTM hTf⟩)
 have hge_k:n≤k:=by have h:=hc16;simp at h;omega
 obtain rfl:k=n:=by omega
 rw [ZW hln (Nat.le_refl _)] at hLK
 refine Zi (Qo (Qo (Qz (Qd (zR (zM ?_))))))
 refine zpc [_,_] rfl zuo Zd (zsP (fun x hx=>(hLK.all x hx).1) hO (by omega)) ?_
 rintro vv3 I3 L3 hI3 ⟨rfl,rfl,ys,hperm,hpw,hO2⟩
 have hLK:=hLK.mono hI3;have hIc:=hIc.trans hI3
 refine zN (zR ?_)
 refine zM ?_
 refine zpc [_,_] rfl zvD Zd (zt5 hO2 (by rw [hperm.length_eq,hLK.len];exact hln) (fun x hx=>(hLK.all x (hperm.mem_iff.1 hx)).1) (by omega)) ?_
 rintro vv4 I4 L4 hI4 ⟨rfl,hO3⟩
 have hLK:=hLK.mono hI4;have hIc:=hIc.trans hI4
 refine zF Zr ?_
 refine zx8 zhn hO3.one ?_
 refine zN (Qm ?_)
 refine zx4 hO3 YN (fun I5 hI5 af5 cf5 ef5 hZ=>?_)
 subst ef5
 have hLK:=hLK.mono hI5;have hIc:=hIc.trans hI5
 refine Qi ?_
 refine zV (Qg rfl Kh (fun hg=>by exact Cells.g0) rfl) ?_
 refine zh W0 ?_
 refine zA (zN (Qs ?_))
 exact ZN rfl rfl rfl Kh (by exact zzk) rfl (fun w hw=>⟨_,I5,[],rfl,hIc,hw.subL QB,rfl,.inr (.inr ⟨by omega,_,_,_,_,rfl,zvC hLK hperm hpw (by rw [hperm.length_eq,hLK.len,hln];exact hZ)⟩)⟩)
end
section
open Go Go.Kn Go.Proofs
def smC (p q:Pt):Bool:=(((((p.id != q.id||p.kind != q.kind)||p.sign != q.sign)||p.field != q.field)|| !ziA p.nw q.nw)||(p.n:Int) != (q.n:Int))
def smP (p q:Pt):Bool:= !smC p q&&decide (p.needs=q.needs)
theorem zvZ {p q:Pt}(h:smC p q=true):smP p q=false:=by simp [smP,h]
theorem zo0 {p q:Pt}(h:smC p q=false):smP p q=decide (p.needs=q.needs):=by simp [smP,h]
theorem zuT {p q:Pt}(h:smC p q=false):p.n=q.n:=by
 unfold smC at h
 rw [Bool.or_eq_false_iff] at h
 have:=h.2
 simp only [bne_eq_false_iff_eq] at this
 omega
theorem X5 {xs ys:List Int}{k:Nat}{x y:Int}(h:xs.take k=ys.take k)(hx:xs[k]? =some x)(hy:ys[k]? =some y)(e:x=y):xs.take (k+1)=ys.take (k+1):=by rw [Zh hx,Zh hy,h,e]
theorem zt6 {xs ys:List Int}{k:Nat}{x y:Int}(hx:xs[k]? =some x)(hy:ys[k]? =some y)(e:x≠y):xs≠ys:=fun h=>by rw [h,hy] at hx;exact e (Option.some.inj hx).symm
def smN (x y:Nt):Bool:=((((x.kind==y.kind)&&znv x.lm y.lm)&&smP x.pt y.pt)&&L.lsEq x.ls y.ls)&&S.rtEq x.rt y.rt
def smL:List Nt→List Nt→Bool
 | [],[]=>true
 | x::xs,y::ys=>smN x y&&smL xs ys
 | _,_=>false
theorem zk1:∀ {xs ys:List Nt},xs.length≠ys.length→smL xs ys=false
 | [],[],h=>absurd rfl h
 | [],_::_,_=>rfl
 | _::_,[],_=>rfl
 | x::xs,y::ys,h=>by simp only [smL,zk1 (xs:=xs) (ys:=ys) (by simpa using h),Bool.and_false]
theorem zp7:∀ {xs ys:List Nt} {k:Nat} {x y:Nt},xs[k]? =some x→ys[k]? =some y→smN x y=false→smL xs ys=false
 | [],_,_,_,_,h,_,_=>by simp at h
 | _::_,[],_,_,_,_,h,_=>by simp at h
 | a::xs,b::ys,0,x,y,hx,hy,h=>by cases hx;cases hy;simp [smL,h]
 | a::xs,b::ys,k+1,x,y,hx,hy,h=>by
  have:=zp7 (xs:=xs) (ys:=ys) (k:=k) (by simpa using hx) (by simpa using hy) h
  simp [smL,this]
theorem zjz:∀ {xs ys:List Nt},xs.length=ys.length→(∀ (j:Nat) (x y:Nt),j<xs.length→xs[j]? =some x→ys[j]? =some y→smN x y=true)→smL xs ys=true
 | [],[],_,_=>rfl
 | [],_::_,h,_=>by simp at h
 | _::_,[],h,_=>by simp at h
 | x::xs,y::ys,hl,h=>by
  rw [smL,h 0 x y (by simp) rfl rfl,zjz (by simpa using hl) (fun j u v hj hu hv=>h (j+1) u v (by simpa using hj) (by simpa using hu) (by simpa using hv))];rfl
theorem zjD {xs ys:List Nt}{k:Nat}{x y:Nt}(hx:xs[k]? =some x)(hy:ys[k]? =some y)(h:∀ (j:Nat) (u v:Nt),j<k→xs[j]? =some u→ys[j]? =some v→smN u v=true)(e:smN x y=true):∀ (j:Nat) (u v:Nt),j<k+1→xs[j]? =some u→ys[j]? =some v→smN u v=true:=fun j u v hj hu hv=>by
 rcases Nat.lt_or_ge j k with h1 | h1
 ·
  exact h j u v h1 hu hv
 ·
  have:j=k:=by omega
  subst this;rw [hx] at hu;rw [hy] at hv;cases hu;cases hv;exact e
end
section
open Go Go.Kn Go.Proofs
theorem zqk:Fun Tryz.prog 85:=.of Tryz.func85 (by kernel_rfl) (by kernel_rfl)
theorem zvz:Fun Tryz.prog 86:=.of Tryz.func86 (by kernel_rfl) (by kernel_rfl)
theorem zxU {I:Qt}{p q:Pt}(hP:Nd I p)(hQ:Nd I q)(hn:p.n≤100000):ZA Tryz.prog 85 [KD p,KD q] I (.bool (smP p q)):=by
 intro g H w hw
 refine qe Tryz.func85 Tryz.ntmps85 hw ?_
 have hIc:=zzm I
 have hl1:p.needs.length=p.n:=hP.len
 have hl2:q.needs.length=q.n:=hQ.len
 refine zR ?_
 refine QR rfl rfl rfl (fun b_2=>?_)
 refine QR rfl rfl rfl (fun b_3=>?_)
 refine zA (Qb ?_)
 refine QH .here (fun I1 hI1 hb1=>?_)
 have hP:=hP.mono hI1;have hQ:=hQ.mono hI1;have hIc:=hIc.trans hI1
 have h3:=BxI.of hb1
 refine QH .here (fun I2 hI2 hb2=>?_)
 have hP:=hP.mono hI2;have hQ:=hQ.mono hI2;have h3:=h3.mono hI2;have hIc:=hIc.trans hI2
 have h2:=BxI.of hb2
 refine Qd (Qm (zR ?_))
 refine zF Z2 ?_
 refine zV (Qc rfl Ql (fun hg=>by exact QA.imm h2.out rfl)) ?_
 refine zF Z2 ?_
 refine zV (Qc rfl Ql (fun hg=>by exact QA.imm h3.out rfl)) ?_
 refine zC ?_
 refine zM ?_
 refine QM 5 rfl rfl rfl ?_
 refine zJ (Qa rfl Jv) ?_
 refine zJ (Qc rfl Ql (fun hg=>by exact QA.imm h2.out rfl)) ?_
 refine zJ (Qa rfl Jv) ?_
 refine zJ (Qc rfl Ql (fun hg=>by exact QA.imm h3.out rfl)) ?_
 refine zJ (QD rfl rfl rfl) ?_
 refine Zb rfl rfl rfl rfl rfl ?_
 refine zM ?_
 refine QM 12 rfl rfl rfl ?_
 refine zJ (Qa rfl Yn) ?_
 refine zJ (Qc rfl Ql (fun hg=>by exact QA.imm h2.out rfl)) ?_
 refine zJ (Qa rfl Yn) ?_
 refine zJ (Qc rfl Ql (fun hg=>by exact QA.imm h3.out rfl)) ?_
 refine zJ (QD rfl rfl rfl) ?_
 refine Zb rfl rfl rfl rfl rfl ?_
 refine zM ?_
 refine QM 19 rfl rfl rfl ?_
 refine zJ (Qa rfl Ym) ?_
 refine zJ (Qc rfl Ql (fun hg=>by exact QA.imm h2.out rfl)) ?_
 refine zJ (Qa rfl Ym) ?_
 refine zJ (Qc rfl Ql (fun hg=>by exact QA.imm h3.out rfl)) ?_
 refine zJ (QD rfl rfl rfl) ?_
 refine Zb rfl rfl rfl rfl rfl ?_
 refine zM ?_
 refine QM 26 rfl rfl rfl ?_
 refine zJ (Qa rfl Yy) ?_
 refine zJ (Qg rfl ZC (fun hg=>by exact zir (BxI.cells (vs:=WG p) h2)) rfl) ?_
 refine zJ (Qa rfl Yy) ?_
 refine zJ (Qg rfl ZC (fun hg=>by exact zir (BxI.cells (vs:=WG q) h3)) rfl) ?_
 refine zJ (zl6 rfl rfl Wr rfl) ?_
 refine Zb rfl rfl rfl rfl rfl ?_
 refine zM ?_
 refine QM 33 rfl rfl rfl ?_
 refine zJ (Qa rfl ZK) ?_
 refine zJ (Qc rfl Y5 (fun hg=>by exact QA.imm h2.out rfl)) ?_
 refine zJ (Q4 rfl ZE) ?_
 refine zJ (Qa rfl ZK) ?_
 refine zJ (Qc rfl Y5 (fun hg=>by exact QA.imm h3.out rfl)) ?_
 refine zJ (Q4 rfl ZE) ?_
 refine zJ (QD rfl rfl rfl) ?_
 refine Zb rfl rfl rfl rfl rfl ?_
 refine zN ?_
 refine zI ?_ ?_<;>intro hc47
 ·
  have hcc:smC p q=true:=hc47
  refine zR (zA (zN (Qs (Qe ?_))))
  exact Qv rfl rfl (fun w hw=>⟨by rw [zvZ hcc],(hw.mono hIc).subL QB⟩)
 have hcc:smC p q=false:=hc47
 have hnn:=zuT hcc
 refine Qr (Qd (Qm (zR (zA (zN (Qw ?_))))))
 refine zU [(2,_),(3,_)] (fun T L0 mz E I' loc'=>∃ (k:Nat),mz=p.n-k∧E=(5,.int .i64 k)::T∧I2=I'∧L0=loc'∧k≤p.n∧p.needs.take k=q.needs.take k) ?_ (h:=⟨0,rfl,rfl,rfl,rfl,Nat.zero_le _,rfl⟩)
 rintro mz E I' loc' ⟨k,rfl,rfl,rfl,rfl,hk,htk⟩
 refine Qm (zR (zM ?_))
 refine zF ZK ?_
 refine zV (Qc rfl Y5 (fun hg=>by exact QA.imm h2.out rfl)) ?_
 refine zQ ZE ?_
 refine zC (zN ?_)
 refine zI ?_ ?_<;>intro hc52
 ·
  have hlt_k:k<p.n:=by have h:=hc52;simp at h;omega
  obtain ⟨x,hx⟩:∃ y,p.needs[k]? =some y:=⟨_,List.getElem?_eq_getElem (by omega)⟩
  obtain ⟨y,hy⟩:∃ y,q.needs[k]? =some y:=⟨_,List.getElem?_eq_getElem (by omega)⟩
  refine Qr (Qd (Qm (Qw (Qm ?_))))
  have hD:=zzm I2
  refine Zt ?_
  refine QQ I2 [] mixed ?_
  refine zT 0 rfl (Qa rfl ZK) hD ?_
  refine zT 1 rfl (Qc rfl Y5 (fun hg=>by exact QA.imm h2.out rfl)) hD ?_
  refine zT 2 rfl (Qf rfl) hD ?_
  refine zT 3 rfl (zX ZE hP) hD ?_
  refine zT 4 rfl (Qc rfl Ql (fun hg=>by exact zzf hP hx rfl)) hD ?_
  refine zT 5 rfl (Qa rfl ZK) hD ?_
  refine zT 6 rfl (Qc rfl Y5 (fun hg=>by exact QA.imm h3.out rfl)) hD ?_
  refine zT 7 rfl (Qf rfl) hD ?_
  refine zT 8 rfl (zX ZE hQ) hD ?_
  refine zT 9 rfl (Qc rfl Ql (fun hg=>by exact zzf hQ hy rfl)) hD ?_
  refine zT 10 rfl (QD rfl rfl rfl) hD ?_
  refine Qn (by kernel_rfl) ?_
  refine Qx ?_
  refine Qd ?_
  refine zI ?_ ?_<;>intro hc65
  ·
   have hxy:x≠y:=by simpa using hc65
   refine zR (zA (zN (Qs (Qj (Qe (Qe (Qj ?_)))))))
   refine Qe ?_
   exact Qv rfl rfl (fun w hw=>⟨by rw [zo0 hcc,decide_eq_false (zt6 hx hy hxy)],(hw.mono hIc).subL QB⟩)
  have hxy:x=y:=by simpa using hc65
  refine Qr (Qk (Qd (Qi (zM ?_))))
  refine zB ?_
  refine zA (Qb ?_)
  exact zm (h:=⟨p.n-(k+1),by omega,k+1,rfl,rfl,rfl,rfl,by omega,X5 htk hx hy hxy⟩)
 have hge_k:p.n≤k:=by have h:=hc52;simp at h;omega
 rw [ZW hl1 hge_k,ZW hl2 (by omega)] at htk
 refine Zi (Qo (Qo (Qz (Qd (zR (zA (zN ?_)))))))
 refine Qs ?_
 exact Qv rfl rfl (fun w hw=>⟨by rw [zo0 hcc,htk];simp,(hw.mono hIc).subL QB⟩)
theorem zyf {I:Qt}{x y:Nt}(hX:Nd I x.pt)(hY:Nd I y.pt)(hn:x.pt.n≤100000):ZA Tryz.prog 86 [Kj x,Kj y] I (.bool (smN x y)):=by
 intro g H w hw
 refine qe Tryz.func86 Tryz.ntmps86 hw ?_
 have hIc:=zzm I
 refine zR ?_
 refine QR rfl rfl rfl (fun b_2=>?_)
 refine QR rfl rfl rfl (fun b_3=>?_)
 refine zA (Qb ?_)
 refine QH .here (fun I1 hI1 hb1=>?_)
 have hX:=hX.mono hI1;have hY:=hY.mono hI1;have hIc:=hIc.trans hI1
 have h3:=BxI.of hb1
 refine QH .here (fun I2 hI2 hb2=>?_)
 have hX:=hX.mono hI2;have hY:=hY.mono hI2;have h3:=h3.mono hI2;have hIc:=hIc.trans hI2
 have h2:=BxI.of hb2
 refine Qd (zR ?_)
 refine zF Y3 ?_
 refine zV (Qc rfl Ql (fun hg=>by exact QA.imm h2.out rfl)) ?_
 refine zF Y3 ?_
 refine zV (Qc rfl Ql (fun hg=>by exact QA.imm h3.out rfl)) ?_
 refine zC ?_
 refine zM ?_
 refine Qp 5 rfl rfl rfl ?_
 refine zK (Qa rfl Vg) ?_
 refine zK (Qg rfl JP (fun hg=>by exact zc2 (BxI.cells (vs:=Q6 x) h2)) rfl) ?_
 refine zK (Qa rfl Vg) ?_
 refine zK (Qg rfl JP (fun hg=>by exact zc2 (BxI.cells (vs:=Q6 y) h3)) rfl) ?_
 refine zK (UO rfl rfl zfR rfl) ?_
 refine Qy rfl rfl rfl rfl rfl ?_
 refine zM ?_
 refine Qp 12 rfl rfl rfl ?_
 refine zK (Qa rfl Yo) ?_
 refine zK (Qg rfl Vs (fun hg=>by exact zai (BxI.cells (vs:=Q6 x) h2)) rfl) ?_
 refine zK (Qa rfl Yo) ?_
 refine zK (Qg rfl Vs (fun hg=>by exact zai (BxI.cells (vs:=Q6 y) h3)) rfl) ?_
 refine qg (vs:=[_,_]) rfl zqk (fun hg=>zxU hX hY hn) ?_
 refine Qy rfl rfl rfl rfl rfl ?_
 refine zM ?_
 refine Qp 19 rfl rfl rfl ?_
 refine zK (Qa rfl VX) ?_
 refine zK (Qg rfl JR (fun hg=>by exact zdx (BxI.cells (vs:=Q6 x) h2)) rfl) ?_
 refine zK (Qa rfl VX) ?_
 refine zK (Qg rfl JR (fun hg=>by exact zdx (BxI.cells (vs:=Q6 y) h3)) rfl) ?_
 refine zK (UJ rfl rfl zhm rfl) ?_
 refine Qy rfl rfl rfl rfl rfl ?_
 refine zM ?_
 refine Qp 26 rfl rfl rfl ?_
 refine zK (Qa rfl Yl) ?_
 refine zK (Qg rfl YC (fun hg=>by exact zdf (BxI.cells (vs:=Q6 x) h2)) rfl) ?_
 refine zK (Qa rfl Yl) ?_
 refine zK (Qg rfl YC (fun hg=>by exact zdf (BxI.cells (vs:=Q6 y) h3)) rfl) ?_
 refine zK (UJ rfl rfl XZ rfl) ?_
 refine Qy rfl rfl rfl rfl rfl ?_
 refine zA (zN (Qs ?_))
 exact Qv rfl rfl (fun w hw=>⟨by rfl,(hw.mono hIc).subL QB⟩)
theorem zvG {I:Qt}{av bv:Option Addr}{n c n2 c2:Nat}{xs ys:List Nt}(hS:Sl I 45 Q6 av n c xs)(hT:Sl I 45 Q6 bv n2 c2 ys)(hNd:∀ x∈xs,Nd I x.pt)(hNe:∀ y∈ys,Nd I y.pt)(hsm:∀ x∈xs,x.pt.n≤100000)(hn:n≤100000):ZA Tryz.prog 31 [.slice av n c,.slice bv n2 c2] I (.bool (smL xs ys)):=by
 intro g H w hw
 refine qe Tryz.func31 Tryz.ntmps31 hw ?_
 have hl1:=hS.len
 have hl2:=hT.len
 refine zR (zA (zN (Qm (zR ?_))))
 refine zM ?_
 refine zQ Za ?_
 refine zM ?_
 refine zQ Za ?_
 refine zC (zN ?_)
 refine zI ?_ ?_<;>intro hc10
 ·
  refine zR (zA (zN (Qs (Qe ?_))))
  exact Qv rfl rfl (fun w hw=>⟨by rw [zk1 (by simp at hc10;omega)],hw⟩)
 have h10:n=n2:=by have h:=hc10;simp at h;omega
 refine Qr (Qd (Qm (zR (zA (zN (Qw ?_))))))
 refine zU [(0,_),(1,_)] (fun T L0 mz E I' loc'=>∃ (k:Nat),mz=n-k∧E=(5,.int .i64 k)::T∧I=I'∧L0=loc'∧k≤n∧(∀ (j:Nat) (u v:Nt),j<k→xs[j]? =some u→ys[j]? =some v→smN u v=true)) ?_ (h:=⟨0,rfl,rfl,rfl,rfl,Nat.zero_le _,fun j u v h=>absurd h (Nat.not_lt_zero _)⟩)
 rintro mz E I' loc' ⟨k,rfl,rfl,rfl,rfl,hk,hall⟩
 refine Qm (zR (zM ?_))
 refine zM ?_
 refine zQ Za ?_
 refine zC (zN ?_)
 refine zI ?_ ?_<;>intro hc14
 ·
  have hlt_k:k<n:=by have h:=hc14;simp at h;omega
  obtain ⟨x,hx⟩:∃ y,xs[k]? =some y:=⟨_,List.getElem?_eq_getElem (by omega)⟩
  obtain ⟨y,hy⟩:∃ y,ys[k]? =some y:=⟨_,List.getElem?_eq_getElem (by omega)⟩
  have hxm:=List.mem_of_getElem? hx
  have hym:=List.mem_of_getElem? hy
  refine Qr (Qd (Qm (Qw (Qm ?_))))
  have hD:=zzm I
  refine Zt ?_
  refine QQ I [] mixed ?_
  refine zT 0 rfl (Qf rfl) hD ?_
  refine zT 1 rfl (Qf rfl) hD ?_
  refine zT 2 rfl (zX Za hS) hD ?_
  refine zT 3 rfl (Qg rfl Zf (fun hg=>by exact zzn hS hx) rfl) hD ?_
  refine zT 4 rfl (Qf rfl) hD ?_
  refine zT 5 rfl (Qf rfl) hD ?_
  refine zT 6 rfl (zX Za hT) hD ?_
  refine zT 7 rfl (Qg rfl Zf (fun hg=>by exact zzn hT hy) rfl) hD ?_
  refine qd 8 rfl ?_
  refine qcV (vs:=[_,_]) rfl zvz (zyf (hNd x hxm) (hNe y hym) (hsm x hxm)) ?_
  refine Qb ?_
  refine zD hD ?_
  refine zT 9 rfl (Zs rfl) hD ?_
  refine Qn (by kernel_rfl) ?_
  refine Qx ?_
  refine Qd ?_
  refine zI ?_ ?_<;>intro hc26
  ·
   refine zR (zA (zN (Qs (Qj (Qe (Qe (Qj ?_)))))))
   refine Qe ?_
   exact Qv rfl rfl (fun w hw=>⟨by rw [zp7 hx hy (by simpa using hc26)],hw⟩)
  have hxy:smN x y=true:=by simpa using hc26
  refine Qr (Qk (Qd (Qi (zM ?_))))
  refine zB ?_
  refine zA (Qb ?_)
  exact zm (h:=⟨n-(k+1),by omega,k+1,rfl,rfl,rfl,rfl,by omega,zjD hx hy hall hxy⟩)
 have hge_k:n≤k:=by have h:=hc14;simp at h;omega
 refine Zi (Qo (Qo (Qz (Qd (zR (zA (zN ?_)))))))
 refine Qs ?_
 exact Qv rfl rfl (fun w hw=>⟨by rw [zjz (by omega) (fun j u v hj hu hv=>hall j u v (by omega) hu hv)],hw⟩)
end
section
open Go Go.Kn Go.Proofs
theorem zvP {n:Int}(hn: -9223372036854775808≤n∧n≤9223372036854775807)(h:n≥0):IntKind.u64.wrap (2*IntKind.u64.wrap n)=((zz n:Nat):Int):=by
 rw [Yc (n:=n) ⟨by omega,by omega⟩,Yc ⟨by omega,by omega⟩]
 unfold zz
 rw [if_pos h];omega
theorem zwW {n:Int}(hn: -9223372036854775808≤n∧n≤9223372036854775807)(h:¬n≥0):IntKind.u64.wrap (IntKind.u64.wrap (2*IntKind.u64.wrap (IntKind.i64.wrap (-(IntKind.i64.wrap (n+1)))))+1)=((zz n:Nat):Int):=by
 rw [YY (n:=n+1) ⟨by omega,by omega⟩,YY ⟨by omega,by omega⟩,Yc (n:= -(n+1)) ⟨by omega,by omega⟩,Yc (n:=2* -(n+1)) ⟨by omega,by omega⟩,Yc ⟨by omega,by omega⟩]
 unfold zz
 rw [if_neg h];omega
theorem zyU (u:Nat):(u:Int).tmod 128=((u % 128:Nat):Int):=rfl
theorem zyA (u:Nat):(u:Int).tdiv 128=((u / 128:Nat):Int):=rfl
theorem zwS (u:Nat):IntKind.u8.wrap (IntKind.u64.wrap ((u:Int).tmod 128+128))=((u % 128+128:Nat):Int):=by
 rw [zyU,Yc ⟨by omega,by omega⟩,zbU ⟨by omega,by omega⟩]
 omega
theorem zv8 {u:Nat}(hu:u<2^64):IntKind.u64.wrap ((u:Int).tdiv 128)=((u / 128:Nat):Int):=by
 rw [zyA,Yc ⟨by omega,by omega⟩]
def YQ (bs:List Nat)(v:Value)(I':Qt)(L':Go.Kn.Loc):Prop:=L'=[]∧∃ a c,v= .slice a bs.length c∧Sl I' 1 VO a bs.length c bs
theorem zce {I:Qt}{a:Option Addr}{n c:Nat}{bs bs':List Nat}(h:Sl I 1 VO a n c bs')(e:bs=bs'):YQ bs (.slice a n c) I []:=by
 subst e
 have:=h.len
 subst this
 exact ⟨rfl,a,c,rfl,h⟩
theorem zlU {e b:Nat}(x:Nat):Ya e 1 (.slice (some ⟨b,0,none⟩) 1 1) 1 (([x]:List Nat).flatMap VO) [(b,.cells (VO x).toArray e (0,0))]:=
 ⟨rfl,.inr ⟨b,1,_,rfl,rfl,Nat.le_refl _,by decide,rfl,rfl⟩⟩
theorem zij (l:List Va)(k:Nat):Va.depthL (l.take k)≤Va.depthL l:=by
 conv=>rhs;rw [←List.take_append_drop k l]
 rw [XN];omega
theorem zam {l:List Va}{k:Nat}{x:Va}(hx:l[k]? =some x):Va.encL (l.take (k+1))=Va.encL (l.take k)++Va.enc x:=by
 have h:l.take (k+1)=l.take k++[x]:=by
  obtain ⟨h1,h2⟩:=List.getElem?_eq_some_iff.1 hx
  rw [List.take_add_one,List.getElem?_eq_getElem h1,h2];rfl
 rw [h,Va.encL_append]
 simp [Va.encL]
theorem zk9 (xs:List Int):(xs.flatMap Z1).length=xs.length:=by rw [YE YF,Nat.mul_one]
theorem zyC {e b:Nat}(xs:List Int){n:Nat}{cs:List Value}(hn:xs.length=n)(hc:cs=xs.flatMap Z1)(hm:n≤maxLen):Ya e 1 (.slice (some ⟨b,0,none⟩) n n) n (xs.flatMap Z1) [(b,.cells cs.toArray e (0,0))]:=by
 subst hn;subst hc
 have h:=zk9 xs
 exact ⟨by rw [h,Nat.mul_one],.inr ⟨b,_,_,rfl,rfl,Nat.le_refl _,hm,by rw [List.size_toArray,h,Nat.mul_one],by
  show (xs.flatMap Z1).take _=_
  rw [Nat.mul_one,←h,List.take_length]⟩⟩
end
end Go.Proofs.YtjblkbkmblkgoaaGreat
