/- partiesKept_holds, part H of the proof: what its theorems say holds without further conditions. -/
import Derived.ProofKit
import Derived.Deep.Slices
import Derived.Test.YtjblkbkmblkgoaaGreatRows
import Derived.Test.YtjblkbkmblkgoaaGreatPTG
namespace Go.Proofs.YtjblkbkmblkgoaaGreat
section
open Go Go.Kn Go.Proofs
theorem zre:Fun Tryz.prog 155:=.of Tryz.func155 (by kernel_rfl) (by kernel_rfl)
theorem zbg:Fun Tryz.prog 156:=.of Tryz.func156 (by kernel_rfl) (by kernel_rfl)
theorem zrI:Fun Tryz.prog 157:=.of Tryz.func157 (by kernel_rfl) (by kernel_rfl)
theorem zqy:Fun Tryz.prog 75:=.of Tryz.func75 (by kernel_rfl) (by kernel_rfl)
theorem zqp:Fun Tryz.prog 76:=.of Tryz.func76 (by kernel_rfl) (by kernel_rfl)
theorem zqx:Fun Tryz.prog 78:=.of Tryz.func78 (by kernel_rfl) (by kernel_rfl)
theorem zvQ:PlT Tryz.prog 39 #[(0,1),(1,1),(2,1),(3,1),(4,14),(18,1)] (.agg #[(.int .i64 0),(.int .i64 0),(.int .i64 0),(.int .i64 0),(.int .i64 0),(.int .i64 0),(.int .i64 0),(.int .i64 0),(.int .i64 0),(.int .i64 0),(.int .i64 0),(.int .i64 0),(.int .i64 0),(.int .i64 0),(.int .i64 0),(.int .i64 0),(.int .i64 0),(.int .i64 0),(.slice none 0 0)]):=⟨.of (by kernel_rfl),by kernel_rfl,fun w=>by kernel_rfl⟩
theorem zvh {I:Qt}{p q:Pt}(hP:Nd I p)(hQ:Nd I q)(hn:q.n≤100000):ZA Tryz.prog 85 [KD p,KD q] I (.bool (smP p q)):=by
 intro g H w hw
 refine qe Tryz.func85 Tryz.ntmps85 hw ?_
 have hIc:=zzm I
 have hl1:p.needs.length=p.n:=hP.len
 have hl2:q.needs.length=q.n:=hQ.len
 refine zR ?_
 refine QR rfl rfl rfl (fun b_2=>?_)
 refine QR rfl rfl rfl (fun b_3=>?_)
 refine zA (Qb ?_)
 refine QH .here (fun I1 hI1 hb1=>?_)
 have hP:=hP.mono hI1;have hQ:=hQ.mono hI1;have hIc:=hIc.trans hI1
 have h3:=BxI.of hb1
 refine QH .here (fun I2 hI2 hb2=>?_)
 have hP:=hP.mono hI2;have hQ:=hQ.mono hI2;have h3:=h3.mono hI2;have hIc:=hIc.trans hI2
 have h2:=BxI.of hb2
 refine Qd (Qm (zR ?_))
 refine zF Z2 ?_
 refine zV (Qc rfl Ql (fun hg=>by exact QA.imm h2.out rfl)) ?_
 refine zF Z2 ?_
 refine zV (Qc rfl Ql (fun hg=>by exact QA.imm h3.out rfl)) ?_
 refine zC ?_
 refine zM ?_
 refine QM 5 rfl rfl rfl ?_
 refine zJ (Qa rfl Jv) ?_
 refine zJ (Qc rfl Ql (fun hg=>by exact QA.imm h2.out rfl)) ?_
 refine zJ (Qa rfl Jv) ?_
 refine zJ (Qc rfl Ql (fun hg=>by exact QA.imm h3.out rfl)) ?_
 refine zJ (QD rfl rfl rfl) ?_
 refine Zb rfl rfl rfl rfl rfl ?_
 refine zM ?_
 refine QM 12 rfl rfl rfl ?_
 refine zJ (Qa rfl Yn) ?_
 refine zJ (Qc rfl Ql (fun hg=>by exact QA.imm h2.out rfl)) ?_
 refine zJ (Qa rfl Yn) ?_
 refine zJ (Qc rfl Ql (fun hg=>by exact QA.imm h3.out rfl)) ?_
 refine zJ (QD rfl rfl rfl) ?_
 refine Zb rfl rfl rfl rfl rfl ?_
 refine zM ?_
 refine QM 19 rfl rfl rfl ?_
 refine zJ (Qa rfl Ym) ?_
 refine zJ (Qc rfl Ql (fun hg=>by exact QA.imm h2.out rfl)) ?_
 refine zJ (Qa rfl Ym) ?_
 refine zJ (Qc rfl Ql (fun hg=>by exact QA.imm h3.out rfl)) ?_
 refine zJ (QD rfl rfl rfl) ?_
 refine Zb rfl rfl rfl rfl rfl ?_
 refine zM ?_
 refine QM 26 rfl rfl rfl ?_
 refine zJ (Qa rfl Yy) ?_
 refine zJ (Qg rfl ZC (fun hg=>by exact zir (BxI.cells (vs:=WG p) h2)) rfl) ?_
 refine zJ (Qa rfl Yy) ?_
 refine zJ (Qg rfl ZC (fun hg=>by exact zir (BxI.cells (vs:=WG q) h3)) rfl) ?_
 refine zJ (zl6 rfl rfl Wr rfl) ?_
 refine Zb rfl rfl rfl rfl rfl ?_
 refine zM ?_
 refine QM 33 rfl rfl rfl ?_
 refine zJ (Qa rfl ZK) ?_
 refine zJ (Qc rfl Y5 (fun hg=>by exact QA.imm h2.out rfl)) ?_
 refine zJ (Q4 rfl ZE) ?_
 refine zJ (Qa rfl ZK) ?_
 refine zJ (Qc rfl Y5 (fun hg=>by exact QA.imm h3.out rfl)) ?_
 refine zJ (Q4 rfl ZE) ?_
 refine zJ (QD rfl rfl rfl) ?_
 refine Zb rfl rfl rfl rfl rfl ?_
 refine zN ?_
 refine zI ?_ ?_<;>intro hc47
 ·
  have hcc:smC p q=true:=hc47
  refine zR (zA (zN (Qs (Qe ?_))))
  exact Qv rfl rfl (fun w hw=>⟨by rw [zvZ hcc],(hw.mono hIc).subL QB⟩)
 have hcc:smC p q=false:=hc47
 have hnn:=zuT hcc
 refine Qr (Qd (Qm (zR (zA (zN (Qw ?_))))))
 refine zU [(2,_),(3,_)] (fun T L0 mz E I' loc'=>∃ (k:Nat),mz=p.n-k∧E=(5,.int .i64 k)::T∧I2=I'∧L0=loc'∧k≤p.n∧p.needs.take k=q.needs.take k) ?_ (h:=⟨0,rfl,rfl,rfl,rfl,Nat.zero_le _,rfl⟩)
 rintro mz E I' loc' ⟨k,rfl,rfl,rfl,rfl,hk,htk⟩
 refine Qm (zR (zM ?_))
 refine zF ZK ?_
 refine zV (Qc rfl Y5 (fun hg=>by exact QA.imm h2.out rfl)) ?_
 refine zQ ZE ?_
 refine zC (zN ?_)
 refine zI ?_ ?_<;>intro hc52
 ·
  have hlt_k:k<p.n:=by have h:=hc52;simp at h;omega
  obtain ⟨x,hx⟩:∃ y,p.needs[k]? =some y:=⟨_,List.getElem?_eq_getElem (by omega)⟩
  obtain ⟨y,hy⟩:∃ y,q.needs[k]? =some y:=⟨_,List.getElem?_eq_getElem (by omega)⟩
  refine Qr (Qd (Qm (Qw (Qm ?_))))
  have hD:=zzm I2
  refine Zt ?_
  refine QQ I2 [] mixed ?_
  refine zT 0 rfl (Qa rfl ZK) hD ?_
  refine zT 1 rfl (Qc rfl Y5 (fun hg=>by exact QA.imm h2.out rfl)) hD ?_
  refine zT 2 rfl (Qf rfl) hD ?_
  refine zT 3 rfl (zX ZE hP) hD ?_
  refine zT 4 rfl (Qc rfl Ql (fun hg=>by exact zzf hP hx rfl)) hD ?_
  refine zT 5 rfl (Qa rfl ZK) hD ?_
  refine zT 6 rfl (Qc rfl Y5 (fun hg=>by exact QA.imm h3.out rfl)) hD ?_
  refine zT 7 rfl (Qf rfl) hD ?_
  refine zT 8 rfl (zX ZE hQ) hD ?_
  refine zT 9 rfl (Qc rfl Ql (fun hg=>by exact zzf hQ hy rfl)) hD ?_
  refine zT 10 rfl (QD rfl rfl rfl) hD ?_
  refine Qn (by kernel_rfl) ?_
  refine Qx ?_
  refine Qd ?_
  refine zI ?_ ?_<;>intro hc65
  ·
   have hxy:x≠y:=by simpa using hc65
   refine zR (zA (zN (Qs (Qj (Qe (Qe (Qj ?_)))))))
   refine Qe ?_
   exact Qv rfl rfl (fun w hw=>⟨by rw [zo0 hcc,decide_eq_false (zt6 hx hy hxy)],(hw.mono hIc).subL QB⟩)
  have hxy:x=y:=by simpa using hc65
  refine Qr (Qk (Qd (Qi (zM ?_))))
  refine zB ?_
  refine zA (Qb ?_)
  exact zm (h:=⟨p.n-(k+1),by omega,k+1,rfl,rfl,rfl,rfl,by omega,X5 htk hx hy hxy⟩)
 have hge_k:p.n≤k:=by have h:=hc52;simp at h;omega
 rw [ZW hl1 hge_k,ZW hl2 (by omega)] at htk
 refine Zi (Qo (Qo (Qz (Qd (zR (zA (zN ?_)))))))
 refine Qs ?_
 exact Qv rfl rfl (fun w hw=>⟨by rw [zo0 hcc,htk];simp,(hw.mono hIc).subL QB⟩)
theorem zby {I:Qt}{x:Nt}(hN:Nd I x.pt):ZA Tryz.prog 156 [KD x.pt] I (.bool (z2 x)):=by
 intro g H w hw
 refine qe Tryz.func156 Tryz.ntmps156 hw ?_
 have hIc:=zzm I
 refine zR ?_
 refine QR rfl rfl rfl (fun b_1=>?_)
 refine zA (Qb ?_)
 refine QH .here (fun I1 hI1 hb1=>?_)
 have hN:=hN.mono hI1;have hIc:=hIc.trans hI1
 have h1:=BxI.of hb1
 refine Qd (zR ?_)
 refine zV (Qg rfl Vs (fun hg=>by exact BxI.cells (vs:=WG x.pt) h1) rfl) ?_
 refine zV (QK (ps:=[]) [_,_,_,_,_,_,_,_,_,_,_,_,_,_,_,_,_,_,_] zvQ rfl rfl) ?_
 refine qcV (vs:=[_,_]) rfl zqk (zvh (q:=Jh) hN (show Nd _ Jh from Sl.nil) (by decide)) ?_
 refine zA (zN (Qs ?_))
 exact Qv rfl rfl (fun w hw=>⟨by rw [zxZ hN],(hw.mono hIc).subL QB⟩)
theorem znU {I:Qt}(x:Lm)(hw8: -9223372036854775808≤x.ends∧x.ends≤9223372036854775807):ZA Tryz.prog 155 [V8 x] I (.bool (zfI (lmC x)==0)):=by
 intro g H w hw
 refine qe Tryz.func155 Tryz.ntmps155 hw ?_
 have hIc:=zzm I
 refine zR ?_
 refine QR rfl rfl rfl (fun b_1=>?_)
 refine zA (Qb ?_)
 refine QH .here (fun I1 hI1 hb1=>?_)
 have hIc:=hIc.trans hI1
 have h1:=BxI.of hb1
 refine Qd (zR ?_)
 refine zV (Qg rfl JP (fun hg=>by exact BxI.cells (vs:=Zl x) h1) rfl) ?_
 refine zpb [(0,_)] [Zl x] UB (fun b_6=>?_)
 refine QT (by repeat (first | exact ZR.here | apply ZR.there)) (fun I2 hI2 hb2=>?_)
 have h1:=h1.mono hI2;have hIc:=hIc.trans hI2
 have hF:=Sl.lit [x] rfl V3 (show I2 b_6=some (Obj.cells ([x].flatMap Zl).toArray 32 (0,0)) from hb2)
 refine zA (zN (Qm (zR ?_)))
 refine zF YH ?_
 refine zV (Qc rfl Ql (fun hg=>by exact QA.imm h1.out rfl)) ?_
 refine zC (zN ?_)
 refine zI ?_ ?_<;>intro hc9
 ·
  have hlC:=zxK (x:=x) (by simpa using hc9)
  refine Qi ?_
  refine zF YH ?_
  refine zV (Qc rfl Ql (fun hg=>by exact QA.imm h1.out rfl)) ?_
  refine zV (WV rfl rfl rfl) ?_
  refine zF V0 ?_
  refine zV (Qc rfl Ql (fun hg=>by exact QA.imm h1.out rfl)) ?_
  refine zV (QK (ps:=[(0,_),(2,_)]) [_,_,_] zck rfl rfl) ?_
  refine zV (QK (ps:=[(0,_),(1,_),(6,_)]) [_,_,_,_,_,_,_,_,_] zeQ rfl rfl) ?_
  refine zV (Qg rfl JP (fun hg=>by exact BxI.cells (vs:=Zl x) h1) rfl) ?_
  refine zpb [(0,_),(1,_)] [Zl (⟨IntKind.i64.wrap (x.ends-1),x.person,0,0,0,0,3,0,1⟩),Zl x] UB (fun b_18=>?_)
  refine QT (by repeat (first | exact ZR.here | apply ZR.there)) (fun I3 hI3 hb3=>?_)
  have hF:=hF.mono hI3;have hIc:=hIc.trans hI3
  have hF:=Sl.lit ([⟨IntKind.i64.wrap (x.ends-1),x.person,0,0,0,0,3,0,1⟩,x]:List Lm) rfl V3 (show I3 b_18=some (Obj.cells (([⟨IntKind.i64.wrap (x.ends-1),x.person,0,0,0,0,3,0,1⟩,x]:List Lm).flatMap Zl).toArray 32 (0,0)) from hb3)
  refine zA ?_
  refine zN (zR ?_)
  refine zM ?_
  refine qcV (vs:=[_]) rfl zqy (zpO hF (by decide) (by rw [←hlC];exact zut hw8)) ?_
  refine zA ?_
  refine zN (zR ?_)
  refine zM ?_
  refine zC ?_
  refine zA (zN (Qs ?_))
  exact Qv rfl rfl (fun w hw=>⟨by rw [hlC],(hw.mono hIc).subL QB⟩)
 have hlC:=zxS (x:=x) (by simpa using hc9)
 refine Qr (Qd (zR (zM ?_)))
 refine qcV (vs:=[_]) rfl zqy (zpO hF (by decide) (by rw [←hlC];exact zut hw8)) ?_
 refine zA ?_
 refine zN (zR ?_)
 refine zM ?_
 refine zC ?_
 refine zA (zN (Qs ?_))
 exact Qv rfl rfl (fun w hw=>⟨by rw [hlC],(hw.mono hIc).subL QB⟩)
theorem zdC {I:Qt}(x:S.Rt)(hw8:S.okR x):ZA Tryz.prog 157 [S.encA x] I (.bool (S.rCheck (rtC x)==0)):=by
 intro g H w hw
 refine qe Tryz.func157 Tryz.ntmps157 hw ?_
 have hIc:=zzm I
 refine zR ?_
 refine QR rfl rfl rfl (fun b_1=>?_)
 refine zA (Qb ?_)
 refine QH .here (fun I1 hI1 hb1=>?_)
 have hIc:=hIc.trans hI1
 have h1:=BxI.of hb1
 refine Qd (zR ?_)
 refine zV (Qg rfl YC (fun hg=>by exact BxI.cells (vs:=S.encR x) h1) rfl) ?_
 refine zpb [(0,_)] [S.encR x] Uz (fun b_6=>?_)
 refine QT (by repeat (first | exact ZR.here | apply ZR.there)) (fun I2 hI2 hb2=>?_)
 have h1:=h1.mono hI2;have hIc:=hIc.trans hI2
 have hF:=Sl.lit [x] rfl S.encR_len (show I2 b_6=some (Obj.cells ([x].flatMap S.encR).toArray 43 (0,0)) from hb2)
 refine zA (zN (Qm (zR ?_)))
 refine zF YZ ?_
 refine zV (Qc rfl Ql (fun hg=>by exact QA.imm h1.out rfl)) ?_
 refine zC (zN ?_)
 refine zI ?_ ?_<;>intro hc9
 ·
  have hlC:=zxL (x:=x) (by simpa using hc9)
  refine Qi ?_
  refine zF YZ ?_
  refine zV (Qc rfl Ql (fun hg=>by exact QA.imm h1.out rfl)) ?_
  refine zV (WV rfl rfl rfl) ?_
  refine zV (QK (ps:=[(0,_),(1,_),(6,_),(7,_)]) [_,_,_,_,_,_,_,_,_,_,_] Xg rfl rfl) ?_
  refine zV (Qg rfl YC (fun hg=>by exact BxI.cells (vs:=S.encR x) h1) rfl) ?_
  refine zpb [(0,_),(1,_)] [S.encR (⟨IntKind.i64.wrap (x.ends-1),1,0,0,0,0,⟨#[97]⟩,⟨#[97]⟩,0,0,0⟩),S.encR x] Uz (fun b_15=>?_)
  refine QT (by repeat (first | exact ZR.here | apply ZR.there)) (fun I3 hI3 hb3=>?_)
  have hF:=hF.mono hI3;have hIc:=hIc.trans hI3
  have hF:=Sl.lit ([⟨IntKind.i64.wrap (x.ends-1),1,0,0,0,0,⟨#[97]⟩,⟨#[97]⟩,0,0,0⟩,x]:List S.Rt) rfl S.encR_len (show I3 b_15=some (Obj.cells (([⟨IntKind.i64.wrap (x.ends-1),1,0,0,0,0,⟨#[97]⟩,⟨#[97]⟩,0,0,0⟩,x]:List S.Rt).flatMap S.encR).toArray 43 (0,0)) from hb3)
  refine zA ?_
  refine zN (zR ?_)
  refine zM ?_
  refine qcV (vs:=[_]) rfl zqx (S.w_rcheck hF (by decide)) ?_
  refine zA ?_
  refine zN (zR ?_)
  refine zM ?_
  refine zC ?_
  refine zA (zN (Qs ?_))
  exact Qv rfl rfl (fun w hw=>⟨by rw [←zi8 hw8,hlC],(hw.mono hIc).subL QB⟩)
 have hlC:=zye (x:=x) (by simpa using hc9)
 refine Qr (Qd (zR (zM ?_)))
 refine qcV (vs:=[_]) rfl zqx (S.w_rcheck hF (by decide)) ?_
 refine zA ?_
 refine zN (zR ?_)
 refine zM ?_
 refine zC ?_
 refine zA (zN (Qs ?_))
 exact Qv rfl rfl (fun w hw=>⟨by rw [←zi8 hw8,hlC],(hw.mono hIc).subL QB⟩)
theorem zaQ {I:Qt}(x:Nt)(hN:Nd I x.pt)(hW:NtW x):ZA Tryz.prog 87 [Kj x] I (.bool (QP x)):=by
 intro g H w hw
 refine qe Tryz.func87 Tryz.ntmps87 hw ?_
 have hIc:=zzm I
 refine zR ?_
 refine QR rfl rfl rfl (fun b_1=>?_)
 refine zA (Qb ?_)
 refine QH .here (fun I1 hI1 hb1=>?_)
 have hN:=hN.mono hI1;have hIc:=hIc.trans hI1
 have h1:=BxI.of hb1
 refine Qd (zR ?_)
 refine zF Vg ?_
 refine zV (Qg rfl JP (fun hg=>by exact zc2 (BxI.cells (vs:=Q6 x) h1)) rfl) ?_
 refine zV (QK (ps:=[]) [_,_,_,_,_,_,_,_,_] zeQ rfl rfl) ?_
 refine zV (UO rfl rfl zfR rfl) ?_
 rw [show (x.lm.no==0&&(x.lm.person==0&&(x.lm.ends==0&&(x.lm.lo==0&&(x.lm.hi==0&&(x.lm.known==0&&(x.lm.ck==0&&(x.lm.cl==0&&(x.lm.cn==0&&true)))))))))=z1 x from rfl]
 refine zA ?_
 refine zN (zR ?_)
 refine zF VX ?_
 refine zV (Qg rfl JR (fun hg=>by exact zdx (BxI.cells (vs:=Q6 x) h1)) rfl) ?_
 refine zV (QK (ps:=[]) [_,_,_,_,_] zj3 rfl rfl) ?_
 refine zV (UJ rfl rfl zhm rfl) ?_
 refine zA ?_
 refine zN (zR ?_)
 refine zF Yl ?_
 refine zV (Qg rfl YC (fun hg=>by exact zdf (BxI.cells (vs:=Q6 x) h1)) rfl) ?_
 refine zV (QK (ps:=[]) [_,_,_,_,_,_,_,_,_,_,_] Xg rfl rfl) ?_
 refine zV (UJ rfl rfl XZ rfl) ?_
 refine zA (zN (Qm (zR ?_)))
 refine zF Y3 ?_
 refine zV (Qc rfl Ql (fun hg=>by exact QA.imm h1.out rfl)) ?_
 refine zN (Qw (zR (zC ?_)))
 refine zA (zN ?_)
 refine zI ?_ ?_<;>intro hc20
 ·
  have k1:x.kind=1:=by simpa using hc20
  refine zR ?_
  refine zF Vg ?_
  refine zV (Qg rfl JP (fun hg=>by exact zc2 (BxI.cells (vs:=Q6 x) h1)) rfl) ?_
  refine qcV (vs:=[_]) rfl zre (znU x.lm hW.lm) ?_
  refine zM ?_
  refine Qp 3 rfl rfl rfl ?_
  refine zK (Qa rfl Yo) ?_
  refine zK (Qg rfl Vs (fun hg=>by exact zai (BxI.cells (vs:=Q6 x) h1)) rfl) ?_
  refine qg (vs:=[_]) rfl zbg (fun hg=>zby hN) ?_
  refine Qy rfl rfl rfl rfl rfl ?_
  refine zM ?_
  refine Qp 8 rfl rfl rfl ?_
  refine zK (Qf rfl) ?_
  refine Qy rfl rfl rfl rfl rfl ?_
  refine zM ?_
  refine Qp 11 rfl rfl rfl ?_
  refine zK (Qf rfl) ?_
  refine Qy rfl rfl rfl rfl rfl ?_
  refine zA (zN (Qs (Qj (Qe ?_))))
  exact Qv rfl rfl (fun w hw=>⟨by rw [zvU k1];rfl,(hw.mono hIc).subL QB⟩)
 have k1:¬x.kind=1:=by simpa using hc20
 refine zR (zC ?_)
 refine zA (zN ?_)
 refine zI ?_ ?_<;>intro hc36
 ·
  have k2:x.kind=2:=by simpa using hc36
  refine zR (zM ?_)
  refine zM ?_
  refine Qp 1 rfl rfl rfl ?_
  refine zK (Qa rfl Yo) ?_
  refine zK (Qg rfl Vs (fun hg=>by exact zai (BxI.cells (vs:=Q6 x) h1)) rfl) ?_
  refine qg (vs:=[_]) rfl ztC (fun hg=>zt9 x.pt hN) ?_
  refine zK (QD rfl rfl rfl) ?_
  refine Qy rfl rfl rfl rfl rfl ?_
  refine zM ?_
  refine Qp 7 rfl rfl rfl ?_
  refine zK (Qf rfl) ?_
  refine Qy rfl rfl rfl rfl rfl ?_
  refine zM ?_
  refine Qp 10 rfl rfl rfl ?_
  refine zK (Qf rfl) ?_
  refine Qy rfl rfl rfl rfl rfl ?_
  refine zA (zN (Qs (Qj (Qe ?_))))
  exact Qv rfl rfl (fun w hw=>⟨by rw [zwT k2];rfl,(hw.mono hIc).subL QB⟩)
 have k2:¬x.kind=2:=by simpa using hc36
 refine zR (zC ?_)
 refine zA (zN ?_)
 refine zI ?_ ?_<;>intro hc51
 ·
  have k3:x.kind=3:=by simpa using hc51
  refine Qm ?_
  rcases (show (z1 x=true∧z2 x=true∧(L.chk [x.ls]==0)=true)∨(z1 x=true∧z2 x=true∧(L.chk [x.ls]==0)=false)∨(z1 x=true∧z2 x=false)∨z1 x=false by cases z1 x<;>cases z2 x<;>cases (L.chk [x.ls]==0)<;>simp) with ⟨h1z,h2z,hlz⟩ | ⟨h1z,h2z,hlz⟩ | ⟨h1z,h2z⟩ | h1z
  ·
   refine Qi (zM ?_)
   refine zM ?_
   rw [h1z]
   refine QN (dj:=54) rfl rfl rfl ?_
   refine zF Yo ?_
   refine QN (dj:=54) rfl rfl rfl ?_
   refine zV (Qg rfl Vs (fun hg=>by exact zai (BxI.cells (vs:=Q6 x) h1)) rfl) ?_
   refine QN (dj:=54) rfl rfl rfl ?_
   refine qcV (vs:=[_]) rfl zbg (zby hN) ?_
   refine zV (Q5 rfl rfl rfl) ?_
   rw [h2z]
   refine zM ?_
   refine QN (dj:=59) rfl rfl rfl ?_
   refine zF VX ?_
   refine QN (dj:=59) rfl rfl rfl ?_
   refine zV (Qg rfl JR (fun hg=>by exact zdx (BxI.cells (vs:=Q6 x) h1)) rfl) ?_
   refine QN (dj:=59) rfl rfl rfl ?_
   refine zpb [(0,_)] [_] zbQ (fun b_62=>?_)
   refine QT (by repeat (first | exact ZR.here | apply ZR.there)) (fun I2 hI2 hb2=>?_)
   have hIc:=hIc.trans hI2
   have hF:=Sl.lit [x.ls] rfl L.encL_len (show I2 b_62=some (Obj.cells ([x.ls].flatMap L.encL).toArray 41 (0,0)) from hb2)
   refine QN (dj:=59) rfl rfl rfl ?_
   refine qcV (vs:=[_]) rfl zqp (L.w_rcheck hF (by decide)) ?_
   refine QN (dj:=59) rfl rfl rfl ?_
   refine zC ?_
   rw [hlz]
   refine zV (Q5 rfl rfl rfl) ?_
   refine zM ?_
   refine QN (dj:=66) rfl rfl rfl ?_
   refine zM ?_
   refine zV (Q5 rfl rfl rfl) ?_
   refine zA (zN (Qs (Qj (Qe ?_))))
   exact Qv rfl rfl (fun w hw=>⟨by rw [zhy k3,h1z,h2z,hlz];rfl,(hw.mono hIc).subL QB⟩)
  ·
   refine Qi (zM ?_)
   refine zM ?_
   rw [h1z]
   refine QN (dj:=54) rfl rfl rfl ?_
   refine zF Yo ?_
   refine QN (dj:=54) rfl rfl rfl ?_
   refine zV (Qg rfl Vs (fun hg=>by exact zai (BxI.cells (vs:=Q6 x) h1)) rfl) ?_
   refine QN (dj:=54) rfl rfl rfl ?_
   refine qcV (vs:=[_]) rfl zbg (zby hN) ?_
   refine zV (Q5 rfl rfl rfl) ?_
   rw [h2z]
   refine zM ?_
   refine QN (dj:=59) rfl rfl rfl ?_
   refine zF VX ?_
   refine QN (dj:=59) rfl rfl rfl ?_
   refine zV (Qg rfl JR (fun hg=>by exact zdx (BxI.cells (vs:=Q6 x) h1)) rfl) ?_
   refine QN (dj:=59) rfl rfl rfl ?_
   refine zpb [(0,_)] [_] zbQ (fun b_62=>?_)
   refine QT (by repeat (first | exact ZR.here | apply ZR.there)) (fun I3 hI3 hb3=>?_)
   have hIc:=hIc.trans hI3
   have hF:=Sl.lit [x.ls] rfl L.encL_len (show I3 b_62=some (Obj.cells ([x.ls].flatMap L.encL).toArray 41 (0,0)) from hb3)
   refine QN (dj:=59) rfl rfl rfl ?_
   refine qcV (vs:=[_]) rfl zqp (L.w_rcheck hF (by decide)) ?_
   refine QN (dj:=59) rfl rfl rfl ?_
   refine zC ?_
   rw [hlz]
   refine zV (Q5 rfl rfl rfl) ?_
   refine zM ?_
   refine ZV (dj:=66) rfl rfl rfl rfl rfl ?_
   refine zV (Y0 rfl rfl rfl) ?_
   refine zA (zN (Qs (Qj (Qe ?_))))
   exact Qv rfl rfl (fun w hw=>⟨by rw [zhy k3,h1z,h2z,hlz];rfl,(hw.mono hIc).subL QB⟩)
  ·
   refine Qi (zM ?_)
   refine zM ?_
   rw [h1z]
   refine QN (dj:=54) rfl rfl rfl ?_
   refine zF Yo ?_
   refine QN (dj:=54) rfl rfl rfl ?_
   refine zV (Qg rfl Vs (fun hg=>by exact zai (BxI.cells (vs:=Q6 x) h1)) rfl) ?_
   refine QN (dj:=54) rfl rfl rfl ?_
   refine qcV (vs:=[_]) rfl zbg (zby hN) ?_
   refine zV (Q5 rfl rfl rfl) ?_
   rw [h2z]
   refine zM ?_
   refine ZV (dj:=59) rfl rfl rfl rfl rfl ?_
   refine ZV (dj:=59) rfl rfl rfl rfl rfl ?_
   refine ZV (dj:=59) rfl rfl rfl rfl rfl ?_
   refine ZV (dj:=59) rfl rfl rfl rfl rfl ?_
   refine ZV (dj:=59) rfl rfl rfl rfl rfl ?_
   refine zV (Y0 rfl rfl rfl) ?_
   refine zM ?_
   refine ZV (dj:=66) rfl rfl rfl rfl rfl ?_
   refine zV (Y0 rfl rfl rfl) ?_
   refine zA (zN (Qs (Qj (Qe ?_))))
   exact Qv rfl rfl (fun w hw=>⟨by rw [zhy k3,h1z,h2z];rfl,(hw.mono hIc).subL QB⟩)
  refine Qi (zM ?_)
  refine zM ?_
  rw [h1z]
  refine ZV (dj:=54) rfl rfl rfl rfl rfl ?_
  refine ZV (dj:=54) rfl rfl rfl rfl rfl ?_
  refine ZV (dj:=54) rfl rfl rfl rfl rfl ?_
  refine zV (Y0 rfl rfl rfl) ?_
  refine zM ?_
  refine ZV (dj:=59) rfl rfl rfl rfl rfl ?_
  refine ZV (dj:=59) rfl rfl rfl rfl rfl ?_
  refine ZV (dj:=59) rfl rfl rfl rfl rfl ?_
  refine ZV (dj:=59) rfl rfl rfl rfl rfl ?_
  refine ZV (dj:=59) rfl rfl rfl rfl rfl ?_
  refine zV (Y0 rfl rfl rfl) ?_
  refine zM ?_
  refine ZV (dj:=66) rfl rfl rfl rfl rfl ?_
  refine zV (Y0 rfl rfl rfl) ?_
  refine zA (zN (Qs (Qj (Qe ?_))))
  exact Qv rfl rfl (fun w hw=>⟨by rw [zhy k3,h1z];rfl,(hw.mono hIc).subL QB⟩)
 have k3:¬x.kind=3:=by simpa using hc51
 refine zR (zC ?_)
 refine zA (zN ?_)
 refine zI ?_ ?_<;>intro hc69
 ·
  have k4:x.kind=4:=by simpa using hc69
  refine zR (zM ?_)
  refine zM ?_
  refine Qp 1 rfl rfl rfl ?_
  refine zK (Qa rfl Yo) ?_
  refine zK (Qg rfl Vs (fun hg=>by exact zai (BxI.cells (vs:=Q6 x) h1)) rfl) ?_
  refine qg (vs:=[_]) rfl zbg (fun hg=>zby hN) ?_
  refine Qy rfl rfl rfl rfl rfl ?_
  refine zM ?_
  refine Qp 6 rfl rfl rfl ?_
  refine zK (Qf rfl) ?_
  refine Qy rfl rfl rfl rfl rfl ?_
  refine zM ?_
  refine Qp 9 rfl rfl rfl ?_
  refine zK (Qa rfl Yl) ?_
  refine zK (Qg rfl YC (fun hg=>by exact zdf (BxI.cells (vs:=Q6 x) h1)) rfl) ?_
  refine qg (vs:=[_]) rfl zrI (fun hg=>zdC x.rt hW.rt) ?_
  refine Qy rfl rfl rfl rfl rfl ?_
  refine zA (zN (Qs (Qj (Qe ?_))))
  exact Qv rfl rfl (fun w hw=>⟨by rw [zuZ k4];rfl,(hw.mono hIc).subL QB⟩)
 have k4:¬x.kind=4:=by simpa using hc69
 refine Qr (Qk (Qd (zR (zA (zN (Qs ?_))))))
 exact Qv rfl rfl (fun w hw=>⟨by rw [zsT k1 k2 k3 k4],(hw.mono hIc).subL QB⟩)
end
section
open Go Go.Kn Go.Proofs
theorem zkU:Fun Tryz.prog 87:=.of Tryz.func87 (by kernel_rfl) (by kernel_rfl)
theorem zgs {I:Qt}{av:Option Addr}{n c:Nat}{xs:List Nt}(hP:U7 I av n c xs)(hW:∀ x∈xs,NtW x)(hn:n≤100000):ZA Tryz.prog 36 [.agg #[.slice av n c]] I (.bool (ZG xs)):=by
 intro g H w hw
 refine qe Tryz.func36 Tryz.ntmps36 hw ?_
 have hIc:=zzm I
 have hln:=hP.sl.len
 refine zR ?_
 refine QR rfl rfl rfl (fun b_1=>?_)
 refine zA (Qb ?_)
 refine QH .here (fun I1 hI1 hb1=>?_)
 have hP:=hP.mono hI1;have hIc:=hIc.trans hI1
 have h1:=BxI.of hb1
 refine Qd (Qm (zR (zA (zN (Qw ?_)))))
 refine zU [(1,_)] (fun T L0 mz E I' loc'=>∃ (k:Nat),mz=n-k∧E=(3,.int .i64 k)::T∧HLe I1 I'∧L0=loc'∧k≤n∧(∀ j y,j<k→xs[j]? =some y→zb0 (xs.take j) y=false)) ?_ (h:=⟨0,rfl,rfl,zzm _,rfl,Nat.zero_le _,fun j y h=>absurd h (Nat.not_lt_zero _)⟩)
 rintro mz E J2 loc' ⟨k,rfl,rfl,hJ,rfl,hk,hall⟩
 have hP:=hP.mono hJ;have h1:=h1.mono hJ;have hIc:=hIc.trans hJ
 have hB0:=hJ
 refine Qm (zR (zM ?_))
 refine zF Zr ?_
 refine zV (Qc rfl Yq (fun hg=>by exact QA.imm h1.out rfl)) ?_
 refine zQ Za ?_
 refine zC (zN ?_)
 refine zI ?_ ?_<;>intro hc8
 ·
  have hlt_k:k<n:=by have h:=hc8;simp at h;omega
  obtain ⟨x,hx⟩:∃ x,xs[k]? =some x:=⟨_,List.getElem?_eq_getElem (by omega)⟩
  have hxm:x∈xs:=List.mem_of_getElem? hx
  refine Qr (Qd (Qm (Qw (Qm ?_))))
  rcases (show QP x=false∨(QP x=true∧k=0)∨(QP x=true∧0<k) by cases QP x<;>simp<;>omega) with hf | ⟨hf,hk⟩ | ⟨hf,hk⟩
  ·
   have hD:=zzm J2
   refine Zt ?_
   refine QQ J2 [] mixed ?_
   refine zT 0 rfl (Qa rfl Zr) hD ?_
   refine zT 1 rfl (Qc rfl Yq (fun hg=>by exact QA.imm h1.out rfl)) hD ?_
   refine zT 2 rfl (Qf rfl) hD ?_
   refine zT 3 rfl (QG rfl rfl Za hP.sl (fun hg=>by omega)) hD ?_
   refine zT 4 rfl (Qg rfl Zf (fun hg=>by exact zzn hP.sl hx) rfl) hD ?_
   refine qd 5 rfl ?_
   refine qcV (vs:=[_]) rfl zkU (zaQ x (hP.nd x hxm) (hW x hxm)) ?_
   refine Qb ?_
   refine zD hD ?_
   refine zT 6 rfl (Zs rfl) hD ?_
   rw [hf]
   refine zT 7 rfl (Qf rfl) hD ?_
   refine zW 8 18 hD ?_
   refine zW 9 18 hD ?_
   refine zW 10 18 hD ?_
   refine zW 11 21 hD ?_
   refine zW 12 21 hD ?_
   refine zW 13 21 hD ?_
   refine zW 14 21 hD ?_
   refine zW 15 21 hD ?_
   refine zW 16 21 hD ?_
   refine zW 17 21 hD ?_
   refine zW 18 21 hD ?_
   refine zW 19 21 hD ?_
   refine zW 20 21 hD ?_
   refine zW 21 21 hD ?_
   refine zW 22 21 hD ?_
   refine zW 23 21 hD ?_
   refine zW 24 18 hD ?_
   refine zT 25 rfl (Y0 rfl rfl rfl) hD ?_
   refine Qn (by kernel_rfl) ?_
   refine Qx ?_
   refine Qd ?_
   refine zI ?_ ?_<;>intro hc36
   ·
    refine zR (zA (zN (Qs (Qj (Qe (Qe (Qj ?_)))))))
    refine Qe ?_
    exact Qv rfl rfl (fun w hw=>⟨by rw [Xb hx (zdT (pre:=xs.take k) hf)],(hw.mono hIc).subL QB⟩)
   cases hc36
  ·
   have hk0:decide ((k:Int)>0)=false:=by simp;omega
   have hD:=zzm J2
   refine Zt ?_
   refine QQ J2 [] mixed ?_
   refine zT 0 rfl (Qa rfl Zr) hD ?_
   refine zT 1 rfl (Qc rfl Yq (fun hg=>by exact QA.imm h1.out rfl)) hD ?_
   refine zT 2 rfl (Qf rfl) hD ?_
   refine zT 3 rfl (QG rfl rfl Za hP.sl (fun hg=>by omega)) hD ?_
   refine zT 4 rfl (Qg rfl Zf (fun hg=>by exact zzn hP.sl hx) rfl) hD ?_
   refine qd 5 rfl ?_
   refine qcV (vs:=[_]) rfl zkU (zaQ x (hP.nd x hxm) (hW x hxm)) ?_
   refine Qb ?_
   refine zD hD ?_
   refine zT 6 rfl (Zs rfl) hD ?_
   rw [hf]
   refine zT 7 rfl (Qf rfl) hD ?_
   refine zw 8 18 rfl (Qf rfl) hD ?_
   refine zw 9 18 rfl (QD rfl rfl rfl) hD ?_
   rw [hk0]
   refine zw 10 18 rfl (Qf rfl) hD ?_
   refine zW 11 21 hD ?_
   refine zW 12 21 hD ?_
   refine zW 13 21 hD ?_
   refine zW 14 21 hD ?_
   refine zW 15 21 hD ?_
   refine zW 16 21 hD ?_
   refine zW 17 21 hD ?_
   refine zW 18 21 hD ?_
   refine zW 19 21 hD ?_
   refine zW 20 21 hD ?_
   refine zW 21 21 hD ?_
   refine zW 22 21 hD ?_
   refine zW 23 21 hD ?_
   refine zw 24 18 rfl (Y0 rfl rfl rfl) hD ?_
   refine zT 25 rfl (Q5 rfl rfl rfl) hD ?_
   refine Qn (by kernel_rfl) ?_
   refine Qx ?_
   refine Qd ?_
   refine zI ?_ ?_<;>intro hc36
   ·
    cases hc36
   have hbad:zb0 (xs.take k) x=false:=by rw [hk];exact zdm hf
   refine Qr (Qk (Qd (Qi (zM ?_))))
   refine zB ?_
   refine zA (Qb ?_)
   exact zm (h:=⟨n-(k+1),by omega,k+1,rfl,rfl,hB0,rfl,by omega,VA hx hall hbad⟩)
  have hk0:decide ((k:Int)>0)=true:=by simp;omega
  obtain ⟨y,hy⟩:∃ y,xs[((k:Int)-1).toNat]? =some y:=⟨_,List.getElem?_eq_getElem (by omega)⟩
  have hym:y∈xs:=List.mem_of_getElem? hy
  have hfy:=zbL (hall _ y (by omega) hy)
  have hD:=zzm J2
  refine Zt ?_
  refine QQ J2 [] mixed ?_
  refine zT 0 rfl (Qa rfl Zr) hD ?_
  refine zT 1 rfl (Qc rfl Yq (fun hg=>by exact QA.imm h1.out rfl)) hD ?_
  refine zT 2 rfl (Qf rfl) hD ?_
  refine zT 3 rfl (QG rfl rfl Za hP.sl (fun hg=>by omega)) hD ?_
  refine zT 4 rfl (Qg rfl Zf (fun hg=>by exact zzn hP.sl hx) rfl) hD ?_
  refine qd 5 rfl ?_
  refine qcV (vs:=[_]) rfl zkU (zaQ x (hP.nd x hxm) (hW x hxm)) ?_
  refine Qb ?_
  refine zD hD ?_
  refine zT 6 rfl (Zs rfl) hD ?_
  rw [hf]
  refine zT 7 rfl (Qf rfl) hD ?_
  refine zw 8 18 rfl (Qf rfl) hD ?_
  refine zw 9 18 rfl (QD rfl rfl rfl) hD ?_
  rw [hk0]
  refine zw 10 18 rfl (Qf rfl) hD ?_
  refine zw 11 21 rfl (Qa rfl Zr) hD ?_
  refine zw 12 21 rfl (Qc rfl Yq (fun hg=>by exact QA.imm h1.out rfl)) hD ?_
  refine zw 13 21 rfl (Qf rfl) hD ?_
  refine zw 14 21 rfl (Yz rfl rfl rfl (fun hg=>by omega)) hD ?_
  refine zw 15 21 rfl (QG rfl rfl Za hP.sl (fun hg=>by omega)) hD ?_
  refine zw 16 21 rfl (Qg rfl Zf (fun hg=>by exact zzn hP.sl hy) rfl) hD ?_
  refine zw 17 21 rfl (Qa rfl Zr) hD ?_
  refine zw 18 21 rfl (Qc rfl Yq (fun hg=>by exact QA.imm h1.out rfl)) hD ?_
  refine zw 19 21 rfl (Qf rfl) hD ?_
  refine zw 20 21 rfl (QG rfl rfl Za hP.sl (fun hg=>by omega)) hD ?_
  refine zw 21 21 rfl (Qg rfl Zf (fun hg=>by exact zzn hP.sl hx) rfl) hD ?_
  refine qd 22 rfl ?_
  refine QN (dj:=21) rfl rfl rfl ?_
  refine zpc [_,_] rfl zwL .nil (zm9 y x (hP.m y hym hfy) (hP.m x hxm hf)) ?_
  rintro vv3 I3 L3 hI3 ⟨rfl,rfl⟩
  have hIc:=hIc.trans hI3;have hB0:=hB0.trans hI3;have hD:=hD.trans hI3
  refine Qb ?_
  refine zD hD ?_
  refine zw 23 21 rfl (Zs rfl) hD ?_
  refine zw 24 18 rfl (Q5 rfl rfl rfl) hD ?_
  refine zT 25 rfl (Q5 rfl rfl rfl) hD ?_
  refine Qn (by kernel_rfl) ?_
  refine Qx ?_
  refine Qd ?_
  refine zI ?_ ?_<;>intro hc36
  ·
   refine zR (zA (zN (Qs (Qj (Qe (Qe (Qj ?_)))))))
   refine Qe ?_
   exact Qv rfl rfl (fun w hw=>⟨by rw [Xb hx ((KU hf hk hy).trans (by rw [←zej];exact hc36))],(hw.mono hIc).subL QB⟩)
  have hbad:zb0 (xs.take k) x=false:=(KU hf hk hy).trans (by rw [←zej];exact hc36)
  refine Qr (Qk (Qd (Qi (zM ?_))))
  refine zB ?_
  refine zA (Qb ?_)
  exact zm (h:=⟨n-(k+1),by omega,k+1,rfl,rfl,hB0,rfl,by omega,VA hx hall hbad⟩)
 have hge_k:n≤k:=by have h:=hc8;simp at h;omega
 refine Zi (Qo (Qo (Qz (Qd (zR ?_)))))
 refine zF Zr ?_
 refine zV (Qc rfl Yq (fun hg=>by exact QA.imm h1.out rfl)) ?_
 refine zQ Za ?_
 refine zC ?_
 refine zA (zN (Qs ?_))
 exact Qv rfl rfl (fun w hw=>⟨by rw [zc9 (fun j y hj hy=>hall j y (by omega) hy),hln],(hw.mono hIc).subL QB⟩)
end
section
open Go Go.Kn Go.Proofs
def ziy (rs:List Hy):Bool:= !((decide ((rs.length:Int)>40)&&decide ((rs.length:Int)≤4096))||decide ((rs.length:Int)>4200))&&rs.all (fun r=>decide (r.n≤2000))
theorem zsj {rs:List Hy}(h:ziy rs=true):rs.length≤4200∧∀ r∈rs,r.n≤2000:=by
 unfold ziy at h
 simp only [Bool.and_eq_true,Bool.not_eq_true',Bool.or_eq_false_iff,decide_eq_false_iff_not,List.all_eq_true,decide_eq_true_eq] at h
 exact ⟨by omega,h.2⟩
theorem zus {rs:List Hy}(h:((decide ((rs.length:Int)>40)&&decide ((rs.length:Int)≤4096))||decide ((rs.length:Int)>4200))=true):ziy rs=false:=by unfold ziy;rw [h];rfl
theorem zrL {rs:List Hy}{r:Hy}(hr:r∈rs)(h:¬r.n≤2000):ziy rs=false:=by
 unfold ziy
 rw [Bool.and_eq_false_iff]
 exact .inr (List.all_eq_false.2 ⟨r,hr,by simpa using h⟩)
theorem zrW {rs:List Hy}(h:((decide ((rs.length:Int)>40)&&decide ((rs.length:Int)≤4096))||decide ((rs.length:Int)>4200))=false)(h2:∀ r∈rs,r.n≤2000):ziy rs=true:=by
 unfold ziy
 rw [h,Bool.not_false,Bool.true_and,List.all_eq_true]
 exact fun r hr=>by simpa using h2 r hr
theorem LdZ.mono {I I':Qt}{rs:List Hy}{a:Option Addr}{m c:Nat}{zs:List Nt}(h:LdZ I rs a m c zs)(hI:HLe I I'):LdZ I' rs a m c zs:=⟨h.nt.mono hI,h.srt,h.len,h.mem,h.frm⟩
theorem LdZ.valid {I:Qt}{rs:List Hy}{a:Option Addr}{m c:Nat}{zs:List Nt}(h:LdZ I rs a m c zs)(hl:rs.length≤4096):ZG zs=true:=
 Uu h.srt (fun x hx=>(h.frm x hx).1) (Nat.le_trans h.len hl)
theorem zt8 {rs:List Hy}{v:Value}{I':Qt}{L':Go.Kn.Loc}(h:LdQ rs v I' L'):L'=[]∧∃ code a m c zs,v= .tuple #[.agg #[.slice a m c],.int .i64 code]∧U7 I' a m c zs∧(code=0→ZG zs=true∧m≤rs.length∧m≤4096∧∀ x∈zs,NtM I' x)∧(code≠0→m=0):=by
 refine ⟨h.1,?_⟩
 rcases h.2 with ⟨_,rfl⟩ | ⟨_,_,rfl⟩ | ⟨hl,a,m,c,zs,rfl,hz⟩
 ·
  exact ⟨_,_,_,_,_,rfl,zgI I',⟨fun e=>absurd e (by decide),fun _=>rfl⟩⟩
 ·
  exact ⟨_,_,_,_,_,rfl,zgI I',⟨fun e=>absurd e (by decide),fun _=>rfl⟩⟩
 ·
  have h1:=hz.nt.sl.len
  have h2:=hz.len
  exact ⟨_,_,_,_,_,rfl,hz.nt,fun _=>⟨hz.valid hl,by omega,by omega,fun x hx=>hz.nt.m x hx (hz.frm x hx).1⟩,fun e=>absurd rfl e⟩
theorem zkk {xs:List Nt}(h:zdI xs):zdI (xs.map Yr):=zvt (List.pairwise_map.2 ((zkB h).imp fun {a b} h=>by rw [zaM];exact h))
theorem zmb {I:Qt}{rs:List Hy}{a b:Option Addr}{m c n d:Nat}{zs xs:List Nt}(h:LdZ I rs a m c zs)(hP:U7 I b n d xs)(hv:ZG xs=true)(h1:∀ r∈rs,∃ x∈xs,r.bytes=V5 x)(h2:∀ x∈xs,∃ r∈rs,r.bytes=V5 x):zs.map Yr=xs.map Yr:=by
 obtain ⟨v1,v2,v3⟩:=Vz hv
 have ok:∀ x∈xs,okN (V5 x)=some (Yr x):=fun x hx=>by
  have hM:=hP.m x hx (v2 x hx)
  have hl:x.pt.needs.length=x.pt.n:=hM.nd.len
  exact zlR hM.ok (by rw [VL hl.symm];exact v2 x hx)
 refine zoT (zkk h.srt) (zkk v1) fun y=>?_
 rw [List.mem_map,List.mem_map]
 constructor
 ·
  rintro ⟨z,hz,rfl⟩
  obtain ⟨_,r,hr,e⟩:=h.frm z hz
  obtain ⟨x,hx,e2⟩:=h1 r hr
  rw [e2,ok x hx] at e
  exact ⟨x,hx,Option.some.inj e⟩
 ·
  rintro ⟨x,hx,rfl⟩
  obtain ⟨r,hr,e⟩:=h2 x hx
  obtain ⟨z,hz,e2⟩:=h.mem r hr
  rw [e,ok x hx] at e2
  exact ⟨z,hz,(Option.some.inj e2).symm⟩
theorem zhq {I:Qt}{rs:List Hy}{b:Option Addr}{n d:Nat}{xs:List Nt}(hP:U7 I b n d xs)(hv:ZG xs=true)(h1:∀ r∈rs,∃ x∈xs,r.bytes=V5 x):∀ r∈rs,okN r.bytes≠none:=fun r hr=>by
 obtain ⟨x,hx,e⟩:=h1 r hr
 have v2:=(Vz hv).2.1 x hx
 have hM:=hP.m x hx v2
 have hl:x.pt.needs.length=x.pt.n:=hM.nd.len
 rw [e,zlR hM.ok (by rw [VL hl.symm];exact v2)]
 simp
theorem zvd {rs:List Hy}{xs:List Nt}(h:rs.map (·.bytes)=xs.map V5):(∀ r∈rs,∃ x∈xs,r.bytes=V5 x)∧∀ x∈xs,∃ r∈rs,r.bytes=V5 x:=by
 constructor
 ·
  intro r hr
  have:r.bytes∈xs.map V5:=by rw [←h];exact List.mem_map.2 ⟨r,hr,rfl⟩
  obtain ⟨x,hx,e⟩:=List.mem_map.1 this
  exact ⟨x,hx,e.symm⟩
 ·
  intro x hx
  have:V5 x∈rs.map (·.bytes):=by rw [h];exact List.mem_map.2 ⟨x,hx,rfl⟩
  obtain ⟨r,hr,e⟩:=List.mem_map.1 this
  exact ⟨r,hr,e⟩
theorem zjd {rs:List Hy}{j:Nat}(r:Hy):r∈rs.drop j++rs.take (j+1)↔r∈rs:=by
 rw [List.mem_append]
 constructor
 ·
  rintro (h | h)
  ·
   exact List.mem_of_mem_drop h
  ·
   exact List.mem_of_mem_take h
 ·
  intro h
  rw [←List.take_append_drop j rs] at h
  rcases List.mem_append.1 h with h | h
  ·
   exact .inr (List.take_subset_take_left rs (Nat.le_succ j) h)
  ·
   exact .inl h
theorem ze3 {I:Qt}{av b:Option Addr}{n c m d:Nat}{rs:List Hy}{xs:List Nt}(h:zkZ I av n c rs)(hP:U7 I b m d xs)(hv:ZG xs=true)(hW:∀ x∈xs,NtW x)(h1:∀ r∈rs,∃ x∈xs,r.bytes=V5 x):∀ r∈rs,r.n≤100000:=fun r hr=>by
 obtain ⟨x,hx,e⟩:=h1 r hr
 have hl:x.pt.needs.length=x.pt.n:=(hP.nd x hx).len
 have:=(zdA (hW x hx) hl ((Vz hv).2.1 x hx)).2
 have h2:=(h.m r hr).sl.len
 rw [e] at h2;omega
end
section
open Go Go.Kn Go.Proofs
theorem zxc:ElT Tryz.prog 95 60 1 24:=.of (by kernel_rfl)
theorem zva:Fun Tryz.prog 19:=.of Tryz.func19 (by kernel_rfl) (by kernel_rfl)
theorem zqt:Fun Tryz.prog 36:=.of Tryz.func36 (by kernel_rfl) (by kernel_rfl)
theorem zpp:ScT Tryz.prog 60:=.of (by kernel_rfl)
theorem zj0:SlT Tryz.prog 95 60 1:=.of (by kernel_rfl)
theorem zyi {I:Qt}{av:Option Addr}{n c:Nat}{rs:List Hy}(hS:Sl I 1 Wk av n c rs):ZA Tryz.prog 19 [.slice av n c] I (.bool (ziy rs)):=by
 intro g H w hw
 refine qe Tryz.func19 Tryz.ntmps19 hw ?_
 have hln:=hS.len
 subst hln
 refine zR (zA (zN (Qm (zR ?_))))
 refine zM ?_
 refine zQ Kq ?_
 refine zC ?_
 refine zM ?_
 refine Qp 3 rfl rfl rfl ?_
 refine zK (Qf rfl) ?_
 refine zK (Q4 rfl Kq) ?_
 refine zK (QD rfl rfl rfl) ?_
 refine Qy rfl rfl rfl rfl rfl ?_
 refine zM ?_
 refine QM 8 rfl rfl rfl ?_
 refine zJ (Qf rfl) ?_
 refine zJ (Q4 rfl Kq) ?_
 refine zJ (QD rfl rfl rfl) ?_
 refine Zb rfl rfl rfl rfl rfl ?_
 refine zN ?_
 refine zI ?_ ?_<;>intro hc16
 ·
  refine zR (zA (zN (Qs (Qe ?_))))
  exact Qv rfl rfl (fun w hw=>⟨by rw [zus hc16],hw⟩)
 have hlen:rs.length≤4200:=by have h:=hc16;simp at h;omega
 refine Qr (Qd (Qm (zR (zA (zN (Qw ?_))))))
 refine zU [(0,_)] (fun T L0 mz E I' loc'=>∃ (k:Nat),mz=rs.length-k∧E=(3,.int .i64 k)::T∧I=I'∧L0=loc'∧k≤rs.length∧(∀ j y,j<k→rs[j]? =some y→y.n≤2000)) ?_ (h:=⟨0,rfl,rfl,rfl,rfl,Nat.zero_le _,fun j y h=>absurd h (Nat.not_lt_zero _)⟩)
 rintro mz E I' loc' ⟨k,rfl,rfl,rfl,rfl,hk,hall⟩
 refine Qm (zR (zM ?_))
 refine zM ?_
 refine zQ Kq ?_
 refine zC (zN ?_)
 refine zI ?_ ?_<;>intro hc20
 ·
  have hlt_k:k<rs.length:=by have h:=hc20;simp at h;omega
  obtain ⟨x,hx⟩:∃ x,rs[k]? =some x:=⟨_,List.getElem?_eq_getElem (by omega)⟩
  refine Qr (Qd (Qm (Qw (zR (zM ?_)))))
  refine zM ?_
  refine zV (zX Kq hS) ?_
  refine zV (Qc rfl Ux (fun hg=>by exact zzf hS hx rfl)) ?_
  refine zQ W7 ?_
  refine zC (zN ?_)
  refine zI ?_ ?_<;>intro hc28
  ·
   refine zR (zA (zN (Qs (Qj (Qe (Qe (Qj ?_)))))))
   refine Qe ?_
   exact Qv rfl rfl (fun w hw=>⟨by rw [zrL (List.mem_of_getElem? hx) (by have h:=hc28;simp at h;omega)],hw⟩)
  have hok9:x.n≤2000:=by have h:=hc28;simp at h;omega
  refine Qr (Qk (Qd (Qi (zM ?_))))
  refine zB ?_
  refine zA (Qb ?_)
  exact zm (h:=⟨rs.length-(k+1),by omega,k+1,rfl,rfl,rfl,rfl,by omega,VA hx hall hok9⟩)
 have hge_k:rs.length≤k:=by have h:=hc20;simp at h;omega
 refine Zi (Qo (Qo (Qz (Qd (zR (zA (zN ?_)))))))
 refine Qs ?_
 exact Qv rfl rfl (fun w hw=>⟨by rw [zrW hc16 (fun r hr=>by obtain ⟨j,hj⟩:=List.mem_iff_getElem?.1 hr;exact hall j r (by have h:=(List.getElem?_eq_some_iff.1 hj).1;omega) hj)],hw⟩)
set_option maxRecDepth 100000 in
set_option maxHeartbeats 4000000 in
theorem zui {I:Qt} {av:Option Addr} {n c:Nat} {xs:List Nt} (hP:U7 I av n c xs) (hW:∀ x∈xs,NtW x) (od:Int) (ho:0≤od∧od≤255) {bv:Option Addr} {bn bc:Nat} {rs:List Hy} (hR:zkZ I bv bn bc rs):ZA Tryz.prog 9 [.agg #[.slice av n c],.int .u8 od,.slice bv bn bc] I (.bool true):=by
 intro g H w hw
 refine qe Tryz.func9 Tryz.ntmps9 hw ?_
 have hIc:=zzm I
 have hln:=hP.sl.len
 have hlr:=hR.sl.len
 refine zR ?_
 refine QR rfl rfl rfl (fun b_3=>?_)
 refine zA (Qb ?_)
 refine QH .here (fun I1 hI1 hb1=>?_)
 have hP:=hP.mono hI1;have hR:=hR.mono hI1;have hIc:=hIc.trans hI1
 have h3:=BxI.of hb1
 refine Qd (Qm (zR ?_))
 refine qcV (vs:=[]) rfl zwA (zuP I1) ?_
 refine zO (zN ?_)
 refine zI ?_ ?_<;>intro hc18
 ·
  cases hc18
 refine Qr (Qd (Qm (zR ?_)))
 refine zF Zr ?_
 refine zV (Qc rfl Yq (fun hg=>by exact QA.imm h3.out rfl)) ?_
 refine zQ Za ?_
 refine zC ?_
 refine zM ?_
 refine QM 4 rfl rfl rfl ?_
 refine zJ (Qf rfl) ?_
 refine qf (vs:=[_]) rfl zva (fun hg=>zyi hR.sl) ?_
 refine zJ (Zs rfl) ?_
 refine Zb rfl rfl rfl rfl rfl ?_
 refine zN ?_
 refine zI ?_ ?_<;>intro hc27
 ·
  refine zR (zA (zN (Qs (Qe ?_))))
  exact Qv rfl rfl (fun w hw=>⟨by rfl,(hw.mono hIc).subL QB⟩)
 have hfew:n≤30∧ziy rs=true:=by have h:=hc27;simp at h;exact ⟨by omega,h.2⟩
 have hfw:=zsj hfew.2
 have hn30:=hfew.1
 refine Qr (Qd ?_)
 refine zY [(1,_),(3,_)] (fun T L0 E I' loc'=>E=T∧HLe I1 I'∧L0=loc'∧True) ?_ ?_
 ·
  have hKc5:=zzm I1
  refine zR (zM ?_)
  refine zpc [_] rfl ze9 .nil (zer hR (by omega) (fun r hr=>Nat.le_trans (hfw.2 r hr) (by decide))) ?_
  rintro vv2 I2 L2 hI2 hLd7
  have hKc5:=hKc5.trans hI2
  obtain ⟨rfl,code,a7,m7,c7,zs7,rfl,hS7,hc70,hc71⟩:=zt8 hLd7
  refine zM ?_
  refine zE ?_
  refine zE ?_
  refine Qq zfo rfl rfl (fun b_7=>?_)
  refine zh W0 ?_
  refine zA (Qb ?_)
  refine QH .here (fun I3 hI3 hb3=>?_)
  have hS7:=hS7.mono hI3;have hKc5:=hKc5.trans hI3
  have h7:=BxI.of hb3
  refine Qd (zR (zM ?_))
  refine zC (zN ?_)
  refine zI ?_ ?_<;>intro hc34
  ·
   have h0:code=0:=by simpa using hc34
   obtain ⟨hvz,hm1,hm2,hM7⟩:=hc70 h0
   refine zR ?_
   refine zV (Qg rfl Kh (fun hg=>by exact BxI.cells (vs:=[_]) h7) rfl) ?_
   refine qcV (vs:=[_]) rfl zqt (zgs hS7 (fun x hx=>(hM7 x hx).w) (by omega)) ?_
   refine zO ?_
   rw [hvz]
   refine zM ?_
   refine QN (dj:=38) rfl rfl rfl ?_
   refine zF Zr ?_
   refine QN (dj:=38) rfl rfl rfl ?_
   refine zV (Qc rfl Yq (fun hg=>by exact QA.imm h7.out rfl)) ?_
   refine QN (dj:=38) rfl rfl rfl ?_
   refine zQ Za ?_
   refine QN (dj:=38) rfl rfl rfl ?_
   refine zM ?_
   refine QN (dj:=38) rfl rfl rfl ?_
   refine zQ Kq ?_
   refine QN (dj:=38) rfl rfl rfl ?_
   refine zC ?_
   refine zV (Q5 rfl rfl rfl) ?_
   refine zN ?_
   refine zI ?_ ?_<;>intro hc45
   ·
    have h:=hc45
    simp at h
    omega
   refine Qr ?_
   exact zm (h:=⟨rfl,hKc5,rfl,trivial⟩)
  have h0:¬code=0:=by simpa using hc34
  have hm0:=hc71 h0
  refine zR ?_
  refine zF Zr ?_
  refine zV (Qc rfl Yq (fun hg=>by exact QA.imm h7.out rfl)) ?_
  refine zQ Za ?_
  refine zC (zN ?_)
  refine zI ?_ ?_<;>intro hc49
  ·
   have h:=hc49
   simp at h
   omega
  refine Qr ?_
  exact zm (h:=⟨rfl,hKc5,rfl,trivial⟩)
 rintro E J4 loc' ⟨rfl,hJ7,rfl,_⟩
 have hP:=hP.mono hJ7;have h3:=h3.mono hJ7;have hIc:=hIc.trans hJ7
 refine Qm (zR ?_)
 refine zV (Qg rfl Kh (fun hg=>by exact BxI.cells (vs:=[_]) h3) rfl) ?_
 refine qcV (vs:=[_]) rfl zqt (zgs hP hW (by omega)) ?_
 refine zO (zN ?_)
 refine zI ?_ ?_<;>intro hc52
 ·
  refine zR (zA (zN (Qs (Qe ?_))))
  exact Qv rfl rfl (fun w hw=>⟨by rfl,(hw.mono hIc).subL QB⟩)
 have hv:ZG xs=true:=by simpa using hc52
 refine Qr (Qd (zR ?_))
 refine zV (Qg rfl Kh (fun hg=>by exact BxI.cells (vs:=[_]) h3) rfl) ?_
 refine zpc [_] rfl zpD .nil (zeV hP (by omega)) ?_
 rintro vv5 I5 L5 hI5 hRq
 have hP:=hP.mono hI5;have h3:=h3.mono hI5;have hIc:=hIc.trans hI5
 obtain ⟨rfl,a25,n25,c25,rs0,rfl,hRc,hrb⟩:=zkG hRq hv
 have hnn:n25=n:=by have h:=hRc.sl.len;have h2:=congrArg List.length hrb;rw [List.length_map,List.length_map] at h2;omega
 obtain ⟨hin1,hin2⟩:=zvd hrb
 refine zM ?_
 refine zE ?_
 refine zE ?_
 refine zA ?_
 refine zA (zN (Qm (zR ?_)))
 refine zM ?_
 refine zC ?_
 refine zM ?_
 refine QN (dj:=60) rfl rfl rfl ?_
 refine zM ?_
 refine QN (dj:=60) rfl rfl rfl ?_
 refine zQ Kq ?_
 refine QN (dj:=60) rfl rfl rfl ?_
 refine zF Zr ?_
 refine QN (dj:=60) rfl rfl rfl ?_
 refine zV (Qc rfl Yq (fun hg=>by exact QA.imm h3.out rfl)) ?_
 refine QN (dj:=60) rfl rfl rfl ?_
 refine zQ Za ?_
 refine QN (dj:=60) rfl rfl rfl ?_
 refine zC ?_
 skip
 refine zV (Q5 rfl rfl rfl) ?_
 refine zN ?_
 refine zI ?_ ?_<;>intro hc67
 ·
  have h:=hc67
  simp at h
  omega
 refine Qr (Qd (Qm (zR (zM ?_))))
 refine zQ Kq ?_
 refine zC (zN ?_)
 refine zI ?_ ?_<;>intro hc70
 ·
  refine zR (zA (zN (Qs (Qe ?_))))
  exact Qv rfl rfl (fun w hw=>⟨by rfl,(hw.mono hIc).subL QB⟩)
 have hn0:0<n25:=Nat.pos_of_ne_zero (fun h=>by apply absurd hc70;simp [h])
 have hcap:=hRc.sl.cap
 obtain ⟨hi1,hi2⟩:=zvw (w:=od) ho.1 hn0
 obtain ⟨j,hje⟩:∃ j:Nat,od.tmod n25=(j:Int):=⟨(od.tmod n25).toNat,by omega⟩
 have hj:j≤n25:=by omega
 have hj1:j+1≤n25:=by omega
 refine Qr (Qd (zR (zM ?_)))
 refine zV (ZU rfl zjf) ?_
 rw [YY (n:=od) (by omega)]
 refine zM ?_
 refine zQ Kq ?_
 refine zV (Z4 rfl rfl (fun hg=>by omega)) ?_
 rw [hje]
 refine zA (zN (Qm ?_))
 have hD:=zzm I5
 refine Zt ?_
 refine QQ I5 [] mixed ?_
 refine zT 1 rfl (Qf rfl) hD ?_
 refine zT 2 rfl (Qf rfl) hD ?_
 refine zT 3 rfl (Ve rfl rfl Kq (fun hg=>by omega)) hD ?_
 refine zT 5 rfl (Qf rfl) hD ?_
 refine zT 6 rfl (Qf rfl) hD ?_
 refine zT 7 rfl (Yz rfl rfl rfl (fun hg=>by omega)) hD ?_
 refine zT 8 rfl (VM rfl rfl Kq (fun hg=>by omega)) hD ?_
 refine qd 0 rfl ?_
 refine zpb [] [] Xm (fun b_76=>?_)
 refine Qb ?_
 refine zD hD ?_
 refine qd 4 rfl ?_
 refine zpa (_) ((rs0.drop j).flatMap Wk) ([(b_76,_)]) rfl rfl Xm Ya.new ((hRc.sl.drop hj).src VV) (ze1 _) ?_
 intro v8 L8 hO8 _;rw [List.nil_append,Nat.zero_add] at hO8
 refine Qb ?_
 refine zD hD ?_
 refine qd 9 rfl ?_
 refine zpa (v8) ((rs0.take (j+1)).flatMap Wk) (L8) rfl rfl Xm hO8 ((hRc.sl.take hj1).src VV) (ze1 _) ?_
 intro v9 L9 hO9 _
 refine Qb ?_
 refine zD hD ?_
 refine zT 10 rfl (QC rfl) hD ?_
 refine Qn (by kernel_rfl) ?_
 refine Qx ?_
 refine zdR (xs:=rs0.drop j++rs0.take (j+1)) (by simpa [List.flatMap_append] using hO9) VV (by decide) (by repeat (first | exact .cons .here .nil | exact ZL | exact Zd | apply ZF | apply ZB)) (fun I6 hI6 am cm ef6 hmS=>?_)
 subst ef6
 have hP:=hP.mono hI6;have h3:=h3.mono hI6;have hRc:=hRc.mono hI6;have hIc:=hIc.trans hI6
 have hRm:zkZ _ _ _ _ (rs0.drop j++rs0.take (j+1)):=⟨hmS,fun r hr=>hRc.m r ((zjd r).1 hr)⟩
 refine Qd (Qm (zR (zM ?_)))
 refine zM ?_
 refine zpb [(0,_),(1,_)] [zcU (.slice a25 n25 c25),zcU (.slice am (n25-j+(j+1)) cm)] zxc (fun b_88=>?_)
 refine QT (by repeat (first | exact ZR.here | apply ZR.there)) (fun I7 hI7 hb7=>?_)
 have hP:=hP.mono hI7;have h3:=h3.mono hI7;have hRc:=hRc.mono hI7;have hRm:=hRm.mono hI7;have hIc:=hIc.trans hI7
 have hV2:=Sl.lit ([.slice a25 n25 c25,.slice am (n25-j+(j+1)) cm]:List Value) rfl zdN (show I7 b_88=some (Obj.cells (([.slice a25 n25 c25,.slice am (n25-j+(j+1)) cm]:List Value).flatMap zcU).toArray 60 (0,0)) from hb7)
 refine zQ zj0 ?_
 refine zM (zN (Qw ?_))
 refine zU [(3,_),(88,_),(89,_)] (fun T L0 mz E I' loc'=>∃ (q:Nat),mz=2-q∧E=(90,.int .i64 q)::T∧HLe I7 I'∧L0=loc'∧q≤2) ?_ (h:=⟨0,rfl,rfl,zzm _,rfl,Nat.zero_le _⟩)
 rintro mz E J8 loc' ⟨q,rfl,rfl,hJ,rfl,hq⟩
 have hP:=hP.mono hJ;have h3:=h3.mono hJ;have hRc:=hRc.mono hJ;have hRm:=hRm.mono hJ;have hV2:=hV2.mono hJ;have hIc:=hIc.trans hJ
 have hB0:=hJ
 refine zR (zC (zN (Qm ?_)))
 refine zI ?_ ?_<;>intro hc91
 ·
  have hlt_q:q<2:=by have h:=hc91;simp at h;omega
  refine Qr (Qd (Qm (Qw (Qm ?_))))
  rcases (show q=0∨q=1 by omega) with hq | hq
  ·
   have hvq:([.slice a25 n25 c25,.slice am (n25-j+(j+1)) cm]:List Value)[q]? =some (.slice a25 n25 c25):=by rw [hq];rfl
   have hRk:=hRc
   have hk1:=hin1
   have hk2:=hin2
   have hnk:n25≤100000:=by omega
   have hnk4:rs0.length≤4096:=by have h:=hRc.sl.len;omega
   refine Qi ?_
   refine zV (zX zj0 hV2 (hb:=fun hg=>by simp only [List.length_cons,List.length_nil];omega)) ?_
   refine zV (Qc rfl zpp (fun hg=>by exact zzf hV2 hvq rfl)) ?_
   refine zA ?_
   refine zN (zR ?_)
   refine zM ?_
   refine zpc [_] rfl ze9 .nil (zer hRk hnk (ze3 hRk hP hv hW hk1)) ?_
   rintro vv9 I9 L9 hI9 hLdk
   have hP:=hP.mono hI9;have h3:=h3.mono hI9;have hB0:=hB0.trans hI9
   obtain ⟨rfl,a9,m9,c9,zs9,rfl,hz⟩:=zmG hLdk hnk4 (zhq hP hv hk1)
   have hzx:=zmb hz hP hv hk1 hk2
   have hzl:m9≤5000:=by have h:=hz.nt.sl.len;have h2:=congrArg List.length hzx;rw [List.length_map,List.length_map] at h2;omega
   refine zM ?_
   refine zE ?_
   refine zE ?_
   refine Qq zfo rfl rfl (fun b_15=>?_)
   refine zh W0 ?_
   refine zA (Qb ?_)
   refine QH .here (fun I10 hI10 hb10=>?_)
   have hP:=hP.mono hI10;have h3:=h3.mono hI10;have hz:=hz.mono hI10;have hB0:=hB0.trans hI10
   have h15:=BxI.of hb10
   refine Qd (zR (zM ?_))
   refine zC ?_
   refine zM ?_
   refine QN (dj:=101) rfl rfl rfl ?_
   refine zF Zr ?_
   refine QN (dj:=101) rfl rfl rfl ?_
   refine zV (Qc rfl Yq (fun hg=>by exact QA.imm h15.out rfl)) ?_
   refine QN (dj:=101) rfl rfl rfl ?_
   refine zF Zr ?_
   refine QN (dj:=101) rfl rfl rfl ?_
   refine zV (Qc rfl Yq (fun hg=>by exact QA.imm h3.out rfl)) ?_
   refine QN (dj:=101) rfl rfl rfl ?_
   refine qcV (vs:=[_,_]) rfl zeN (zvr hz.nt hP hzx (zeM hz.nt (by rw [hzx,zaZ hP];exact hv)) (by omega)) ?_
   refine QN (dj:=101) rfl rfl rfl ?_
   refine zO ?_
   refine zV (Q5 rfl rfl rfl) ?_
   refine zN ?_
   refine zI ?_ ?_<;>intro hc108
   ·
    exact absurd hc108 (by decide)
   refine Qr (Qk (Qd (Qi (zB ?_))))
   refine zM (Qb ?_)
   exact zm (h:=⟨2-(q+1),by omega,q+1,rfl,rfl,hB0,rfl,by omega⟩)
  have hvq:([.slice a25 n25 c25,.slice am (n25-j+(j+1)) cm]:List Value)[q]? =some (.slice am (n25-j+(j+1)) cm):=by rw [hq];rfl
  have hRk:=hRm
  have hk1:∀ r∈rs0.drop j++rs0.take (j+1),∃ x∈xs,r.bytes=V5 x:=fun r hr=>hin1 r ((zjd r).1 hr)
  have hk2:∀ x∈xs,∃ r∈rs0.drop j++rs0.take (j+1),r.bytes=V5 x:=fun x hx=>(hin2 x hx).elim fun r h=>⟨r,(zjd r).2 h.1,h.2⟩
  have hnk:n25-j+(j+1)≤100000:=by omega
  have hnk4:(rs0.drop j++rs0.take (j+1)).length≤4096:=by have h:=hRm.sl.len;omega
  refine Qi ?_
  refine zV (zX zj0 hV2 (hb:=fun hg=>by simp only [List.length_cons,List.length_nil];omega)) ?_
  refine zV (Qc rfl zpp (fun hg=>by exact zzf hV2 hvq rfl)) ?_
  refine zA ?_
  refine zN (zR ?_)
  refine zM ?_
  refine zpc [_] rfl ze9 .nil (zer hRk hnk (ze3 hRk hP hv hW hk1)) ?_
  rintro vv11 I11 L11 hI11 hLdk
  have hP:=hP.mono hI11;have h3:=h3.mono hI11;have hB0:=hB0.trans hI11
  obtain ⟨rfl,a9,m9,c9,zs9,rfl,hz⟩:=zmG hLdk hnk4 (zhq hP hv hk1)
  have hzx:=zmb hz hP hv hk1 hk2
  have hzl:m9≤5000:=by have h:=hz.nt.sl.len;have h2:=congrArg List.length hzx;rw [List.length_map,List.length_map] at h2;omega
  refine zM ?_
  refine zE ?_
  refine zE ?_
  refine Qq zfo rfl rfl (fun b_15=>?_)
  refine zh W0 ?_
  refine zA (Qb ?_)
  refine QH .here (fun I12 hI12 hb12=>?_)
  have hP:=hP.mono hI12;have h3:=h3.mono hI12;have hz:=hz.mono hI12;have hB0:=hB0.trans hI12
  have h15:=BxI.of hb12
  refine Qd (zR (zM ?_))
  refine zC ?_
  refine zM ?_
  refine QN (dj:=101) rfl rfl rfl ?_
  refine zF Zr ?_
  refine QN (dj:=101) rfl rfl rfl ?_
  refine zV (Qc rfl Yq (fun hg=>by exact QA.imm h15.out rfl)) ?_
  refine QN (dj:=101) rfl rfl rfl ?_
  refine zF Zr ?_
  refine QN (dj:=101) rfl rfl rfl ?_
  refine zV (Qc rfl Yq (fun hg=>by exact QA.imm h3.out rfl)) ?_
  refine QN (dj:=101) rfl rfl rfl ?_
  refine qcV (vs:=[_,_]) rfl zeN (zvr hz.nt hP hzx (zeM hz.nt (by rw [hzx,zaZ hP];exact hv)) (by omega)) ?_
  refine QN (dj:=101) rfl rfl rfl ?_
  refine zO ?_
  refine zV (Q5 rfl rfl rfl) ?_
  refine zN ?_
  refine zI ?_ ?_<;>intro hc108
  ·
   exact absurd hc108 (by decide)
  refine Qr (Qk (Qd (Qi (zB ?_))))
  refine zM (Qb ?_)
  exact zm (h:=⟨2-(q+1),by omega,q+1,rfl,rfl,hB0,rfl,by omega⟩)
 have hge_q:2≤q:=by have h:=hc91;simp at h;omega
 refine Zi (Qo (Qo (Qz (Qd (zR (zA (zN ?_)))))))
 refine Qs ?_
 exact Qv rfl rfl (fun w hw=>⟨by rfl,(hw.mono hIc).subL QB⟩)
end
end Go.Proofs.YtjblkbkmblkgoaaGreat
namespace Go.Kn
section
open Go Go.ChangeShapes Go.WideShapes Go.ChangeAt Go.RowKit
def zag (W:World):Qt:=fun b=>W.heap[b]?
theorem St.start (W:World):St W (zag W) (fun _=>none) [] W:=
 ⟨rfl,rfl,rfl,⟨Nat.le_refl _,Nat.le_refl _⟩,fun _ _ h=>h,(fun _ _ h=>by cases h),(fun _ _ h=>by cases h),fun _=>.inr rfl,(fun _ _ h=>by cases h),by simp⟩
theorem St.below {W w:World}{H:Qt}{loc:Loc}(h:St W (zag W) H loc w):Below W.heap.size W w:=
 ⟨h.os,h.tape,h.out,h.size.1,fun k hk=>by
  have e:W.heap[k]? =some W.heap[k]:=Array.getElem?_eq_getElem hk
  rw [h.imm k _ e,e]⟩
theorem ZA.law {P:Program}{f:FuncId}{args:List Value}{W:World}{v:Value}(h:ZA P f args (zag W) v):Calls P f args.toArray W fun e w'=>e= .returned v∧Below W.heap.size W w':=
 (h W _ W (St.start W)).mono fun _ _ ⟨he,hs⟩=>⟨he,hs.below⟩
theorem zdj {W w:World}{may:MemPlace→Prop}(h:Below W.heap.size W w):W.keptBut w may:=by
 refine ⟨h.os,h.output,fun i hi=>?_⟩
 rw [h.block i hi]
 rw [Array.getElem?_eq_getElem hi]
 cases W.heap[i]<;>simp
theorem Xp {H:Type}{enc:TypeId×Value→H}{P:Program}{W W':World}(hl:laidOutB P=true)(hB:Below W.heap.size W W')(sp:Nat→Bool):∀ (ts:List TypeId) (vs:List Value) (ds:List (DataW H)) (ps:List MemPlace),(∀ t∈ts,P.readableRec t=true∧t<P.types.size)→
  DataW.TrodAll enc P W 0 (fun _=>true) true ts vs ds ps→(∀ x∈ps,x.block<W.heap.size∧sp x.block=true)→DataW.TrodAll enc P W' 0 sp true ts vs ds ps
 | [],[],[],ps,_,h,_=>h
 | t::ts,v::vs,d::ds,ps,hr,⟨p,q,h1,h2,e⟩,hlt=>by
  subst e
  exact ⟨p,q,WideElems.Trod_stays hl (hr t (List.mem_cons_self ..)).1 (hr t (List.mem_cons_self ..)).2 h1 (fun x hx=>hB.same (hlt x (List.mem_append_left _ hx)).1) (fun x hx=>(hlt x (List.mem_append_left _ hx)).2),
   Xp hl hB sp ts vs ds q (fun t ht=>hr t (List.mem_cons_of_mem _ ht)) h2 (fun x hx=>hlt x (List.mem_append_right _ hx)),rfl⟩
theorem zpf {H:Type}{enc:TypeId×Value→H}{P:Program}{f:Func}{s:ChangeSpec}{again:Bool}{W W':World}{args:Array Value}{ds:List (DataW H)}{before:List MemPlace}{tb:TypeId}
  (hl:laidOutB P=true)(hr:f.resultTypes= #[tb])(hb:P.underlying tb=some .bool)(hv:s.vars=[])(hs:(s.fn H (ds++[]))= {results:=[.lit (.bool true)],args:=ds})(hrd:∀ t∈f.params.toList,P.readableRec t=true∧t<P.types.size)
  (hW:DataW.Whole enc P f.params.toList s.vars false W args.toList ds [] before)(hB:Below W.heap.size W W'):s.post enc P f false true false again W args (.bool true) W':=by
 have hlt:∀ x∈before,x.block<W.heap.size:=fun x hx=>by simpa using hW.lt x hx
 have hW0:=hW
 obtain ⟨p,q,hA,hV,rfl,hfz,_⟩:=hW
 rw [hv] at hV
 obtain ⟨_,rfl⟩:=trodVars_none hV
 rw [List.append_nil] at hlt hfz hW0
 have hres:∀ (b:Nat) (sp:Nat→Bool) (hd:Bool),DataW.TrodAll enc P W' b sp hd f.resultTypes.toList ((Value.bool true).resultList f.resultTypes.size) [.lit (.bool true)] []:=fun b sp hd=>by
  rw [hr];exact trodAll_mk1 (shut_bool hb true)
 have hargs:∀ sp:Nat→Bool,(∀ x∈p,sp x.block=true)→DataW.TrodAll enc P W' 0 sp true f.params.toList args.toList ds p:=fun sp h=>Xp hl hB sp _ _ _ _ hrd hA (fun x hx=>⟨hlt x hx,h x hx⟩)
 have hnil:∀ sp:Nat→Bool,DataW.TrodVars enc P W' sp s.vars [] []:=fun sp=>by rw [hv];rfl
 refine ⟨ds,[],p,[],p,[],hW0,?_,?_,?_,zdj hB,fun _=>?_⟩
 ·
  rw [hs];exact hres _ _ _
 ·
  rw [hs];exact hargs _ (fun x hx=>by simpa using hlt x hx)
 ·
  rw [hs];exact hnil _
 ·
  refine ⟨fun j t r ht hr'=>?_,[.lit (.bool true)]++ds,[],[]++p,⟨[]++p,[],trodAll_append (hargs _ (fun _ _=>rfl)) (hres _ _ _),hnil _,by simp,?_,fun h=>by cases h⟩,fun x hx _=>by simpa using hx⟩
  ·
   rw [hr] at ht hr'
   cases j with
   | zero=>simp [Value.resultList] at ht hr';subst ht;subst hr';exact okWide_bool_mk hb _
   | succ j=>simp at ht
  ·
   intro b off hx
   rw [hB.frozen (hlt _ (by simpa using hx))]
   exact hfz b off (by simpa using hx)
theorem zmq {W:World}{b o:Nat}{u:Value}(h:W.cell? ⟨b,o,none⟩=some u):QA (zag W) [] b o u:=by
 unfold World.cell? at h
 split at h
 ·
  rename_i c t fz hb
  simp only [Option.isSome_none,Bool.false_eq_true,if_false] at h
  exact ⟨c,t,fz,.inl hb,h⟩
 ·
  cases h
theorem zaK {H:Type}{enc:TypeId×Value→H}{P:Program}{W:World}{t e:TypeId}{size fuel0:Nat}{cs:List Value}{x0:DataW H×List MemPlace}{α:Type}(enc':α→List Value)(ok:α→Prop)
  (ht:P.underlying t=some (.slice e))(hc:P.cellsOf e=size)(hpos:0<size)(hlen:∀ y,(enc' y).length=size)
  (hel:∀ fuel cs x,DataW.trod enc P W 0 (fun _=>true) true fuel e cs=some x→∃ y,ok y∧enc' y=cs)
  (hf':DataW.trod enc P W 0 (fun _=>true) true fuel0 t cs=some x0):∃ av n c xs,cs=[.slice av n c]∧Sl (zag W) size enc' av n c xs∧(∀ x∈xs,ok x)∧c≤maxLen:=by
 rcases Go.Deep.open_slice ht hf' with ⟨e1,_⟩ | ⟨a,len0,cap0,m,n,D,Pl,e1,hb,hl,hm,hmm,_,hx⟩
 ·
  subst e1
  exact ⟨none,0,0,[],rfl,.nil,(fun x hx=>by cases hx),Nat.zero_le _⟩
 ·
  subst e1
  have hlm:len0≤m:=by rw [hmm];simp;exact hl
  have each:∀ i,i<len0→∃ y,ok y∧W.cells? 0 (a.add (i*size)) size=some (enc' y):=fun i hi=>by
   obtain ⟨cs',h1,h2⟩:=hx i (by omega)
   obtain ⟨y,hy,e⟩:=hel _ _ _ h2
   rw [hc] at h1
   exact ⟨y,hy,by rw [h1,e]⟩
  have all:∀ k,k≤len0→∃ xs:List α,xs.length=k∧∀ i x,xs[i]? =some x→ok x∧W.cells? 0 (a.add (i*size)) size=some (enc' x):=by
   intro k
   induction k with
   | zero=>intro _;exact ⟨[],rfl,fun i x h=>by simp at h⟩
   | succ k ih=>
    intro hk
    obtain ⟨xs,hl',hxs⟩:=ih (by omega)
    obtain ⟨y,hy,hcy⟩:=each k (by omega)
    refine ⟨xs++[y],by simp [hl'],fun i x h=>?_⟩
    by_cases hi:i<xs.length
    ·
     rw [List.getElem?_append_left hi] at h;exact hxs i x h
    ·
     rw [List.getElem?_append_right (by omega)] at h
     have:i=k:=by have:=(List.getElem?_eq_some_iff.1 h).1;simp at this;omega
     subst this
     rw [hl'] at h;simp at h;subst h
     exact ⟨hy,hcy⟩
  obtain ⟨xs,hl',hxs⟩:=all len0 (Nat.le_refl _)
  have add0:∀ (b o n:Nat),(⟨b,o,none⟩:Addr).add n=⟨b,o+n,none⟩:=fun b o n=>by
   unfold Addr.add
   split
   ·
    rename_i e;subst e;rfl
   ·
    rfl
  have hspot:0<xs.length→a.spot=none:=fun hx=>by
   have hx0:xs[0]? =some xs[0]:=List.getElem?_eq_getElem hx
   have hp0:0<(enc' xs[0]).length:=by rw [hlen];exact hpos
   obtain ⟨_,h1,h2⟩:=World.cells?_some (hxs 0 _ hx0).2
   have h3:=h2 0 hpos
   rw [List.getElem?_eq_getElem hp0] at h3
   simpa [Addr.add] using World.cell?_spot h3
  have cellat:∀ i x,xs[i]? =some x→∀ j u,(enc' x)[j]? =some u→W.cell? ⟨a.block,a.off+i*size+j,none⟩=some u:=fun i x hx j u hu=>by
   obtain ⟨_,h1,h2⟩:=World.cells?_some (hxs i x hx).2
   have hj:j<size:=by rw [←hlen x];exact (List.getElem?_eq_some_iff.1 hu).1
   have h3:=h2 j hj
   rw [hu] at h3
   have hsp:=hspot (by have:=(List.getElem?_eq_some_iff.1 hx).1;omega)
   obtain ⟨b,o,sp⟩:=a
   simp only at hsp
   subst hsp
   rw [add0,add0] at h3
   exact h3
  refine ⟨some a,len0,cap0,xs,rfl,⟨hl',hl,fun hn=>?_,fun k x hx j u hu=>?_⟩,fun x hx=>?_,hm⟩
  ·
   have:=hspot (by omega)
   obtain ⟨b,o,sp⟩:=a
   simp only at this
   subst this;rfl
  ·
   exact zmq (cellat k x hx j u hu)
  ·
   obtain ⟨i,hi⟩:=List.getElem?_of_mem hx
   exact (hxs i x hi).1
theorem zsi {H:Type}{enc:TypeId×Value→H}{P:Program}{W:World}{base:Nat}{t e:TypeId}{size:Nat}{v:Value}{d:DataW H}{p:List MemPlace}{α:Type}(enc':α→List Value)(ok:α→Prop)
  (ht:P.underlying t=some (.slice e))(hc:P.cellsOf e=size)(hpos:0<size)(hlen:∀ y,(enc' y).length=size)
  (hel:∀ fuel cs x,DataW.trod enc P W 0 (fun _=>true) true fuel e cs=some x→∃ y,ok y∧enc' y=cs)
  (hv:Value.okWide P W .any base t v)(h:DataW.Trod enc P W 0 (fun _=>true) true t v d p):∃ av n c xs,v= .slice av n c∧Sl (zag W) size enc' av n c xs∧(∀ x∈xs,ok x)∧c≤maxLen:=by
 obtain ⟨a0,len0,cap0,rfl⟩:=okWide_slice ht hv
 obtain ⟨fuel,hf⟩:=h
 obtain ⟨av,n,c,xs,e,h1,h2,h3⟩:=zaK enc' ok ht hc hpos hlen hel (cs:=[.slice a0 len0 cap0]) (by simpa [Value.cells] using hf)
 cases e
 exact ⟨_,_,_,xs,rfl,h1,h2,h3⟩
theorem zws {H:Type}{enc:TypeId×Value→H}{P:Program}{W:World}{e:TypeId}{k:IntKind}(he:P.underlying e=some (.int k))(hk:k= .i64)(fuel:Nat)(cs:List Value)(x:DataW H×List MemPlace)(h:DataW.trod enc P W 0 (fun _=>true) true fuel e cs=some x):
  ∃ y:Int,(-9223372036854775808≤y∧y≤9223372036854775807)∧[Value.int .i64 y]=cs:=by
 subst hk
 obtain ⟨v,hv⟩:∃ v,cs=[v]:=by
  have:=h
  cases fuel with
  | zero=>simp [DataW.trod] at this
  | succ m=>unfold DataW.trod at this;rw [he] at this;split at this<;>simp_all
 subst hv
 obtain ⟨n,e,_,w⟩:=DataW.trod_int he h
 cases e
 simp only [Lit.wf,Bool.and_eq_true,decide_eq_true_eq] at w
 exact ⟨n,w,rfl⟩
theorem ZP {n:Int}(h:(Lit.int .i64 n).wf=true): -9223372036854775808≤n∧n≤9223372036854775807:=by
 simp only [Lit.wf,Bool.and_eq_true,decide_eq_true_eq] at h
 exact h
end
section
open Go
theorem Jp {H:Type}{enc:TypeId×Value→H}{P:Program}{W:World}{base:Nat}{spare:Nat→Bool}{held:Bool}{t C:Nat}{fs:Array Field}{fuel:Nat}{cs:List Value}{x:DataW H×List MemPlace}(hs:P.underlying t=some (.struct fs))
  (hC:P.cellsOf t=C)(h:DataW.trod enc P W base spare held fuel t cs=some x):
  cs.length=C∧∃ n,∀ (i ty off k:Nat),((fs[i]?).map fun f=>(f.type,f.offset))=some (ty,off)→P.cellsOf ty=k→∃ y,DataW.trod enc P W base spare held n ty ((cs.drop off).take k)=some y:=by
 obtain ⟨xs,n,_,_,hl,hxl,hf⟩:=DataW.trod_struct hs h
 refine ⟨hl.trans hC,n,fun i ty off k hi hk=>?_⟩
 obtain ⟨f,hfi,e⟩:=Option.map_eq_some_iff.1 hi
 cases e
 have g:=hf i f hfi
 have hix:i<xs.length:=by rw [hxl];exact (Array.getElem?_eq_some_iff.1 hfi).1
 rw [hk,List.getElem?_eq_getElem hix] at g
 exact ⟨_,g⟩
end
end Go.Kn
namespace Go.Proofs.YtjblkbkmblkgoaaGreat
section
open Go Go.Kn Go.Proofs
open Go.ChangeShapes Go.WideShapes Go.ChangeAt Go.RowKit
set_option maxRecDepth 100000
theorem zqu:Tryz.prog.underlying 3=some (.int .i64):=by kernel_rfl
theorem zro:Tryz.prog.underlying 45=some (.struct (Tryz.prog.fieldsOf 45)):=by kernel_rfl
theorem zqT:Tryz.prog.underlying 32=some (.struct (Tryz.prog.fieldsOf 32)):=by kernel_rfl
theorem zr3:Tryz.prog.underlying 30=some (.struct (Tryz.prog.fieldsOf 30)):=by kernel_rfl
theorem zrp:Tryz.prog.underlying 39=some (.struct (Tryz.prog.fieldsOf 39)):=by kernel_rfl
theorem zsQ:Tryz.prog.underlying 36=some (.struct (Tryz.prog.fieldsOf 36)):=by kernel_rfl
theorem zlX:Tryz.prog.underlying 34=some (.struct (Tryz.prog.fieldsOf 34)):=by kernel_rfl
theorem ztH:Tryz.prog.underlying 37=some (.slice 3):=by kernel_rfl
theorem ztx:Tryz.prog.underlying 41=some (.struct (Tryz.prog.fieldsOf 41)):=by kernel_rfl
theorem zsa:Tryz.prog.underlying 43=some (.struct (Tryz.prog.fieldsOf 43)):=by kernel_rfl
theorem zpM:Tryz.prog.underlying 9=some .string:=by kernel_rfl
theorem zkm:Tryz.prog.underlying 5=some (.int .u8):=by kernel_rfl
theorem ziM:Tryz.prog.underlying 80=some (.slice 5):=by kernel_rfl
theorem zsS:Tryz.prog.underlying 57=some (.slice 45):=by kernel_rfl
theorem ziY:Tryz.prog.underlying 59=some (.struct (Tryz.prog.fieldsOf 59)):=by kernel_rfl
theorem zsX:Tryz.prog.underlying 60=some (.slice 80):=by kernel_rfl
theorem zyh:Tryz.prog.underlying 4=some .bool:=by kernel_rfl
theorem zwE {n:Int}(h:(Lit.int .u8 n).wf=true):0≤n∧n≤255:=by
 simp only [Lit.wf,Bool.and_eq_true,decide_eq_true_eq] at h
 exact h
theorem KM {H:Type}{enc:TypeId×Value→H}{W:World}{n:Nat}{c:Value}{x:DataW H×List MemPlace}(h:DataW.trod enc Tryz.prog W 0 (fun _=>true) true n 3 [c]=some x):∃ k:Int,c= .int .i64 k∧(Lit.int .i64 k).wf=true:=let ⟨k,e,_,w⟩:=DataW.trod_int zqu h;⟨k,(List.cons.inj e).1,w⟩
theorem zyj {H:Type}{enc:TypeId×Value→H}{W:World}(fuel:Nat)(cs:List Value)(x:DataW H×List MemPlace)(h:DataW.trod enc Tryz.prog W 0 (fun _=>true) true fuel 5 cs=some x):∃ y:Nat,y≤255∧VO y=cs:=by
 obtain ⟨v,hv⟩:∃ v,cs=[v]:=by
  have:=h
  cases fuel with
  | zero=>simp [DataW.trod] at this
  | succ m=>unfold DataW.trod at this;rw [zkm] at this;split at this<;>simp_all
 subst hv
 obtain ⟨n,e,_,w⟩:=DataW.trod_int zkm h
 cases e
 have h2:=zwE w
 refine ⟨n.toNat,by omega,?_⟩
 show [Value.int .u8 (n.toNat:Int)]=_
 rw [Int.toNat_of_nonneg h2.1]
theorem zxJ {H:Type}{enc:TypeId×Value→H}{W:World}(fuel:Nat)(cs:List Value)(x:DataW H×List MemPlace)(h:DataW.trod enc Tryz.prog W 0 (fun _=>true) true fuel 45 cs=some x):∃ y:Nt,(fun x=>Nd (zag W) x.pt∧NtW x) y∧Q6 y=cs:=by
 obtain ⟨hl,n0_,f0⟩:=Jp (C:=45) zro (by kernel_rfl) h
 match cs,hl with
 | (c0::c1::c2::c3::c4::c5::c6::c7::c8::c9::c10::c11::c12::c13::c14::c15::c16::c17::c18::c19::c20::c21::c22::c23::c24::c25::c26::c27::c28::c29::c30::c31::c32::c33::c34::c35::c36::c37::c38::c39::c40::c41::c42::c43::c44::[]),_=>
  obtain ⟨_,g0_0⟩:=f0 0 3 0 1 (by kernel_rfl) (by kernel_rfl)
  obtain ⟨n0,e0,w0⟩:=KM (c:=c0) g0_0
  obtain ⟨_,g0_1⟩:=f0 1 32 1 9 (by kernel_rfl) (by kernel_rfl)
  obtain ⟨_,n1_,f1⟩:=Jp (C:=9) zqT (by kernel_rfl) (show DataW.trod enc Tryz.prog W 0 (fun _=>true) true n0_ 32 [c1,c2,c3,c4,c5,c6,c7,c8,c9]=some _ from g0_1)
  obtain ⟨_,g1_0⟩:=f1 0 3 0 1 (by kernel_rfl) (by kernel_rfl)
  obtain ⟨n1,e1,w1⟩:=KM (c:=c1) g1_0
  obtain ⟨_,g1_1⟩:=f1 1 3 1 1 (by kernel_rfl) (by kernel_rfl)
  obtain ⟨n2,e2,w2⟩:=KM (c:=c2) g1_1
  obtain ⟨_,g1_2⟩:=f1 2 3 2 1 (by kernel_rfl) (by kernel_rfl)
  obtain ⟨n3,e3,w3⟩:=KM (c:=c3) g1_2
  obtain ⟨_,g1_3⟩:=f1 3 3 3 1 (by kernel_rfl) (by kernel_rfl)
  obtain ⟨n4,e4,w4⟩:=KM (c:=c4) g1_3
  obtain ⟨_,g1_4⟩:=f1 4 3 4 1 (by kernel_rfl) (by kernel_rfl)
  obtain ⟨n5,e5,w5⟩:=KM (c:=c5) g1_4
  obtain ⟨_,g1_5⟩:=f1 5 3 5 1 (by kernel_rfl) (by kernel_rfl)
  obtain ⟨n6,e6,w6⟩:=KM (c:=c6) g1_5
  obtain ⟨_,g1_6⟩:=f1 6 30 6 3 (by kernel_rfl) (by kernel_rfl)
  obtain ⟨_,n2_,f2⟩:=Jp (C:=3) zr3 (by kernel_rfl) (show DataW.trod enc Tryz.prog W 0 (fun _=>true) true n1_ 30 [c7,c8,c9]=some _ from g1_6)
  obtain ⟨_,g2_0⟩:=f2 0 3 0 1 (by kernel_rfl) (by kernel_rfl)
  obtain ⟨n7,e7,w7⟩:=KM (c:=c7) g2_0
  obtain ⟨_,g2_1⟩:=f2 1 3 1 1 (by kernel_rfl) (by kernel_rfl)
  obtain ⟨n8,e8,w8⟩:=KM (c:=c8) g2_1
  obtain ⟨_,g2_2⟩:=f2 2 3 2 1 (by kernel_rfl) (by kernel_rfl)
  obtain ⟨n9,e9,w9⟩:=KM (c:=c9) g2_2
  obtain ⟨_,g0_2⟩:=f0 2 39 10 19 (by kernel_rfl) (by kernel_rfl)
  obtain ⟨_,n3_,f3⟩:=Jp (C:=19) zrp (by kernel_rfl) (show DataW.trod enc Tryz.prog W 0 (fun _=>true) true n0_ 39 [c10,c11,c12,c13,c14,c15,c16,c17,c18,c19,c20,c21,c22,c23,c24,c25,c26,c27,c28]=some _ from g0_2)
  obtain ⟨_,g3_0⟩:=f3 0 3 0 1 (by kernel_rfl) (by kernel_rfl)
  obtain ⟨n10,e10,w10⟩:=KM (c:=c10) g3_0
  obtain ⟨_,g3_1⟩:=f3 1 3 1 1 (by kernel_rfl) (by kernel_rfl)
  obtain ⟨n11,e11,w11⟩:=KM (c:=c11) g3_1
  obtain ⟨_,g3_2⟩:=f3 2 3 2 1 (by kernel_rfl) (by kernel_rfl)
  obtain ⟨n12,e12,w12⟩:=KM (c:=c12) g3_2
  obtain ⟨_,g3_3⟩:=f3 3 3 3 1 (by kernel_rfl) (by kernel_rfl)
  obtain ⟨n13,e13,w13⟩:=KM (c:=c13) g3_3
  obtain ⟨_,g3_4⟩:=f3 4 36 4 14 (by kernel_rfl) (by kernel_rfl)
  obtain ⟨_,n4_,f4⟩:=Jp (C:=14) zsQ (by kernel_rfl) (show DataW.trod enc Tryz.prog W 0 (fun _=>true) true n3_ 36 [c14,c15,c16,c17,c18,c19,c20,c21,c22,c23,c24,c25,c26,c27]=some _ from g3_4)
  obtain ⟨_,g4_0⟩:=f4 0 3 0 1 (by kernel_rfl) (by kernel_rfl)
  obtain ⟨n14,e14,w14⟩:=KM (c:=c14) g4_0
  obtain ⟨_,g4_1⟩:=f4 1 3 1 1 (by kernel_rfl) (by kernel_rfl)
  obtain ⟨n15,e15,w15⟩:=KM (c:=c15) g4_1
  obtain ⟨_,g4_2⟩:=f4 2 3 2 1 (by kernel_rfl) (by kernel_rfl)
  obtain ⟨n16,e16,w16⟩:=KM (c:=c16) g4_2
  obtain ⟨_,g4_3⟩:=f4 3 3 3 1 (by kernel_rfl) (by kernel_rfl)
  obtain ⟨n17,e17,w17⟩:=KM (c:=c17) g4_3
  obtain ⟨_,g4_4⟩:=f4 4 3 4 1 (by kernel_rfl) (by kernel_rfl)
  obtain ⟨n18,e18,w18⟩:=KM (c:=c18) g4_4
  obtain ⟨_,g4_5⟩:=f4 5 3 5 1 (by kernel_rfl) (by kernel_rfl)
  obtain ⟨n19,e19,w19⟩:=KM (c:=c19) g4_5
  obtain ⟨_,g4_6⟩:=f4 6 3 6 1 (by kernel_rfl) (by kernel_rfl)
  obtain ⟨n20,e20,w20⟩:=KM (c:=c20) g4_6
  obtain ⟨_,g4_7⟩:=f4 7 3 7 1 (by kernel_rfl) (by kernel_rfl)
  obtain ⟨n21,e21,w21⟩:=KM (c:=c21) g4_7
  obtain ⟨_,g4_8⟩:=f4 8 3 8 1 (by kernel_rfl) (by kernel_rfl)
  obtain ⟨n22,e22,w22⟩:=KM (c:=c22) g4_8
  obtain ⟨_,g4_9⟩:=f4 9 3 9 1 (by kernel_rfl) (by kernel_rfl)
  obtain ⟨n23,e23,w23⟩:=KM (c:=c23) g4_9
  obtain ⟨_,g4_10⟩:=f4 10 34 10 2 (by kernel_rfl) (by kernel_rfl)
  obtain ⟨_,n5_,f5⟩:=Jp (C:=2) zlX (by kernel_rfl) (show DataW.trod enc Tryz.prog W 0 (fun _=>true) true n4_ 34 [c24,c25]=some _ from g4_10)
  obtain ⟨_,g5_0⟩:=f5 0 3 0 1 (by kernel_rfl) (by kernel_rfl)
  obtain ⟨n24,e24,w24⟩:=KM (c:=c24) g5_0
  obtain ⟨_,g5_1⟩:=f5 1 3 1 1 (by kernel_rfl) (by kernel_rfl)
  obtain ⟨n25,e25,w25⟩:=KM (c:=c25) g5_1
  obtain ⟨_,g4_11⟩:=f4 11 34 12 2 (by kernel_rfl) (by kernel_rfl)
  obtain ⟨_,n6_,f6⟩:=Jp (C:=2) zlX (by kernel_rfl) (show DataW.trod enc Tryz.prog W 0 (fun _=>true) true n4_ 34 [c26,c27]=some _ from g4_11)
  obtain ⟨_,g6_0⟩:=f6 0 3 0 1 (by kernel_rfl) (by kernel_rfl)
  obtain ⟨n26,e26,w26⟩:=KM (c:=c26) g6_0
  obtain ⟨_,g6_1⟩:=f6 1 3 1 1 (by kernel_rfl) (by kernel_rfl)
  obtain ⟨n27,e27,w27⟩:=KM (c:=c27) g6_1
  obtain ⟨_,g3_5⟩:=f3 5 37 18 1 (by kernel_rfl) (by kernel_rfl)
  obtain ⟨a28,m28,q28,n28,e28,s28,o28,_⟩:=zaK (t:=37) (e:=3) Z1 (fun n:Int=> -9223372036854775808≤n∧n≤9223372036854775807) ztH (by kernel_rfl) (by decide) YF (fun fuel cs x h=>zws zqu rfl fuel cs x h) (show DataW.trod enc Tryz.prog W 0 (fun _=>true) true n3_ 37 [c28]=some _ from g3_5)
  obtain ⟨_,g0_3⟩:=f0 3 41 29 5 (by kernel_rfl) (by kernel_rfl)
  obtain ⟨_,n7_,f7⟩:=Jp (C:=5) ztx (by kernel_rfl) (show DataW.trod enc Tryz.prog W 0 (fun _=>true) true n0_ 41 [c29,c30,c31,c32,c33]=some _ from g0_3)
  obtain ⟨_,g7_0⟩:=f7 0 3 0 1 (by kernel_rfl) (by kernel_rfl)
  obtain ⟨n29,e29,w29⟩:=KM (c:=c29) g7_0
  obtain ⟨_,g7_1⟩:=f7 1 3 1 1 (by kernel_rfl) (by kernel_rfl)
  obtain ⟨n30,e30,w30⟩:=KM (c:=c30) g7_1
  obtain ⟨_,g7_2⟩:=f7 2 3 2 1 (by kernel_rfl) (by kernel_rfl)
  obtain ⟨n31,e31,w31⟩:=KM (c:=c31) g7_2
  obtain ⟨_,g7_3⟩:=f7 3 3 3 1 (by kernel_rfl) (by kernel_rfl)
  obtain ⟨n32,e32,w32⟩:=KM (c:=c32) g7_3
  obtain ⟨_,g7_4⟩:=f7 4 3 4 1 (by kernel_rfl) (by kernel_rfl)
  obtain ⟨n33,e33,w33⟩:=KM (c:=c33) g7_4
  obtain ⟨_,g0_4⟩:=f0 4 43 34 11 (by kernel_rfl) (by kernel_rfl)
  obtain ⟨_,n8_,f8⟩:=Jp (C:=11) zsa (by kernel_rfl) (show DataW.trod enc Tryz.prog W 0 (fun _=>true) true n0_ 43 [c34,c35,c36,c37,c38,c39,c40,c41,c42,c43,c44]=some _ from g0_4)
  obtain ⟨_,g8_0⟩:=f8 0 3 0 1 (by kernel_rfl) (by kernel_rfl)
  obtain ⟨n34,e34,w34⟩:=KM (c:=c34) g8_0
  obtain ⟨_,g8_1⟩:=f8 1 3 1 1 (by kernel_rfl) (by kernel_rfl)
  obtain ⟨n35,e35,w35⟩:=KM (c:=c35) g8_1
  obtain ⟨_,g8_2⟩:=f8 2 3 2 1 (by kernel_rfl) (by kernel_rfl)
  obtain ⟨n36,e36,w36⟩:=KM (c:=c36) g8_2
  obtain ⟨_,g8_3⟩:=f8 3 3 3 1 (by kernel_rfl) (by kernel_rfl)
  obtain ⟨n37,e37,w37⟩:=KM (c:=c37) g8_3
  obtain ⟨_,g8_4⟩:=f8 4 3 4 1 (by kernel_rfl) (by kernel_rfl)
  obtain ⟨n38,e38,w38⟩:=KM (c:=c38) g8_4
  obtain ⟨_,g8_5⟩:=f8 5 3 5 1 (by kernel_rfl) (by kernel_rfl)
  obtain ⟨n39,e39,w39⟩:=KM (c:=c39) g8_5
  obtain ⟨_,g8_6⟩:=f8 6 9 6 1 (by kernel_rfl) (by kernel_rfl)
  obtain ⟨n40,e40,_⟩:=DataW.trod_string zpM (show DataW.trod enc Tryz.prog W 0 (fun _=>true) true n8_ 9 [c40]=some _ from g8_6)
  obtain ⟨_,g8_7⟩:=f8 7 9 7 1 (by kernel_rfl) (by kernel_rfl)
  obtain ⟨n41,e41,_⟩:=DataW.trod_string zpM (show DataW.trod enc Tryz.prog W 0 (fun _=>true) true n8_ 9 [c41]=some _ from g8_7)
  obtain ⟨_,g8_8⟩:=f8 8 3 8 1 (by kernel_rfl) (by kernel_rfl)
  obtain ⟨n42,e42,w42⟩:=KM (c:=c42) g8_8
  obtain ⟨_,g8_9⟩:=f8 9 3 9 1 (by kernel_rfl) (by kernel_rfl)
  obtain ⟨n43,e43,w43⟩:=KM (c:=c43) g8_9
  obtain ⟨_,g8_10⟩:=f8 10 3 10 1 (by kernel_rfl) (by kernel_rfl)
  obtain ⟨n44,e44,w44⟩:=KM (c:=c44) g8_10
  cases e0;cases e1;cases e2;cases e3;cases e4;cases e5;cases e6;cases e7;cases e8;cases e9;cases e10;cases e11;cases e12;cases e13;cases e14;cases e15;cases e16;cases e17;cases e18;cases e19;cases e20;cases e21;cases e22;cases e23;cases e24;cases e25;cases e26;cases e27;cases e28;cases e29;cases e30;cases e31;cases e32;cases e33;cases e34;cases e35;cases e36;cases e37;cases e38;cases e39;cases e40;cases e41;cases e42;cases e43;cases e44
  exact ⟨⟨n0,⟨n1,n2,n3,n4,n5,n6,n7,n8,n9⟩,⟨n10,n11,n12,n13,⟨n14,n15,n16,n17,n18,n19,n20,n21,n22,n23,n24,n25,n26,n27⟩,a28,m28,q28,n28⟩,⟨n29,n30,n31,n32,n33⟩,⟨n34,n35,n36,n37,n38,n39,n40,n41,n42,n43,n44⟩⟩,⟨s28,⟨List.forall_mem_cons.2 ⟨ZP w0,List.forall_mem_cons.2 ⟨ZP w1,List.forall_mem_cons.2 ⟨ZP w2,List.forall_mem_cons.2 ⟨ZP w3,List.forall_mem_cons.2 ⟨ZP w4,List.forall_mem_cons.2 ⟨ZP w5,List.forall_mem_cons.2 ⟨ZP w6,List.forall_mem_cons.2 ⟨ZP w7,List.forall_mem_cons.2 ⟨ZP w8,List.forall_mem_cons.2 ⟨ZP w9,List.forall_mem_cons.2 ⟨ZP w10,List.forall_mem_cons.2 ⟨ZP w11,List.forall_mem_cons.2 ⟨ZP w12,List.forall_mem_cons.2 ⟨ZP w13,List.forall_mem_cons.2 ⟨ZP w14,List.forall_mem_cons.2 ⟨ZP w15,List.forall_mem_cons.2 ⟨ZP w16,List.forall_mem_cons.2 ⟨ZP w17,List.forall_mem_cons.2 ⟨ZP w18,List.forall_mem_cons.2 ⟨ZP w19,List.forall_mem_cons.2 ⟨ZP w20,List.forall_mem_cons.2 ⟨ZP w21,List.forall_mem_cons.2 ⟨ZP w22,List.forall_mem_cons.2 ⟨ZP w23,List.forall_mem_cons.2 ⟨ZP w24,List.forall_mem_cons.2 ⟨ZP w25,List.forall_mem_cons.2 ⟨ZP w26,List.forall_mem_cons.2 ⟨ZP w27,List.forall_mem_cons.2 ⟨ZP w29,List.forall_mem_cons.2 ⟨ZP w30,List.forall_mem_cons.2 ⟨ZP w31,List.forall_mem_cons.2 ⟨ZP w32,List.forall_mem_cons.2 ⟨ZP w33,List.forall_mem_cons.2 ⟨ZP w34,List.forall_mem_cons.2 ⟨ZP w35,List.forall_mem_cons.2 ⟨ZP w36,List.forall_mem_cons.2 ⟨ZP w37,List.forall_mem_cons.2 ⟨ZP w38,List.forall_mem_cons.2 ⟨ZP w39,List.forall_mem_cons.2 ⟨ZP w42,List.forall_mem_cons.2 ⟨ZP w43,List.forall_mem_cons.2 ⟨ZP w44,fun y hy=>(by cases hy)⟩⟩⟩⟩⟩⟩⟩⟩⟩⟩⟩⟩⟩⟩⟩⟩⟩⟩⟩⟩⟩⟩⟩⟩⟩⟩⟩⟩⟩⟩⟩⟩⟩⟩⟩⟩⟩⟩⟩⟩⟩⟩,o28⟩⟩,rfl⟩
theorem zun {H:Type}{enc:TypeId×Value→H}{W:World}(fuel:Nat)(cs:List Value)(x:DataW H×List MemPlace)(h:DataW.trod enc Tryz.prog W 0 (fun _=>true) true fuel 80 cs=some x):∃ y:Hy,(HyM (zag W)) y∧Wk y=cs:=by
 obtain ⟨v,hv⟩:∃ v,cs=[v]:=by
  have:=h
  cases fuel with
  | zero=>simp [DataW.trod] at this
  | succ m=>unfold DataW.trod at this;rw [ziM] at this;split at this<;>simp_all
 subst hv
 obtain ⟨a0,m0,q0,n0,e0,s0,o0,_⟩:=zaK (t:=80) (e:=5) VO (fun y:Nat=>y≤255) ziM (by kernel_rfl) (by decide) YO (fun fuel cs x h=>zyj fuel cs x h) h
 cases e0
 exact ⟨⟨a0,m0,q0,n0⟩,⟨s0,fun b hb=>Nat.lt_succ_of_le (o0 b hb)⟩,rfl⟩
theorem zrn {H:Type}{enc:TypeId×Value→H}{W:World}{base:Nat}{v:Value}{d:DataW H}{p:List MemPlace}(hv:Value.okWide Tryz.prog W .any base 59 v)(h:DataW.Trod enc Tryz.prog W 0 (fun _=>true) true 59 v d p):
  ∃ av n c xs,v= .agg #[.slice av n c]∧U7 (zag W) av n c xs∧∀ x∈xs,NtW x:=by
 obtain ⟨cs,rfl,_⟩:=okWide_struct ziY hv
 obtain ⟨fuel,hf⟩:=h
 obtain ⟨l⟩:=cs
 obtain ⟨hl,n0_,f0⟩:=Jp (C:=1) ziY (by kernel_rfl) hf
 match l,hl with
 | [c0],_=>
  obtain ⟨_,g0_0⟩:=f0 0 57 0 1 (by kernel_rfl) (by kernel_rfl)
  obtain ⟨a0,m0,q0,n0,e0,s0,o0,_⟩:=zaK (t:=57) (e:=45) Q6 (fun x:Nt=>Nd (zag W) x.pt∧NtW x) zsS (by kernel_rfl) (by decide) YN (fun fuel cs x h=>zxJ fuel cs x h) (show DataW.trod enc Tryz.prog W 0 (fun _=>true) true n0_ 57 [c0]=some _ from g0_0)
  cases e0
  exact ⟨a0,m0,q0,n0,rfl,⟨s0,fun x hx=>(o0 x hx).1,fun x hx hf=>zdV (o0 x hx).2 (o0 x hx).1 hf⟩,fun x hx=>(o0 x hx).2⟩
theorem zkR {H:Type}{enc:TypeId×Value→H}{W:World}{base:Nat}{v:Value}{d:DataW H}{p:List MemPlace}(hv:Value.okWide Tryz.prog W .any base 60 v)(h:DataW.Trod enc Tryz.prog W 0 (fun _=>true) true 60 v d p):
  ∃ av n c xs,v= .slice av n c∧zkZ (zag W) av n c xs:=by
 obtain ⟨av,n,c,xs,e,hS,hok,_⟩:=zsi (e:=80) Wk (HyM (zag W)) zsX (by kernel_rfl) (by decide) VV (fun fuel cs x h=>zun fuel cs x h) hv h
 exact ⟨av,n,c,xs,e,⟨hS,hok⟩⟩
end
section
open Go Go.Kn Go.Proofs
open Go.ChangeShapes Go.WideShapes Go.ChangeAt Go.RowKit
theorem own:ownKnob Tryz.prog.godebug=none:=by kernel_rfl
theorem ztr:laidOutB Tryz.prog=true:=by kernel_rfl
set_option maxRecDepth 100000 in
theorem WL (os:Os) (started:os.Started) (H:Type) (enc:TypeId×Value→H):
  ReturnsInHanded {} Tryz.checked os 9 .any (Rows.partiesKeptSpec.pre6 enc Tryz.prog Tryz.f9 Rows.partiesKeptRow.domain false) (Rows.partiesKeptSpec.post enc Tryz.prog Tryz.f9 false true false false):=by
 refine returnsInHanded_of_change (C:=Tryz.checked) own started (by kernel_rfl) Tryz.func9
  (ChangeSpec.witness6 (enc:=enc) (C:=Tryz.checked) false ⟨#[], #[.agg #[.slice none 0 0],.int .u8 0,.slice none 0 0],[]⟩ 8 (by kernel_rfl) (by kernel_rfl) (by kernel_rfl) (by kernel_rfl)) ?_
 intro W base args ds gs before hval0 hW hcnd _
 have hval:∀ (j:Nat) t v,Tryz.f9.params[j]? =some t→args[j]? =some v→Value.okWide Tryz.prog W .any base t v:=hval0
 have hW':=hW
 obtain ⟨p,q,hA0,hV,rfl,hfz,hnd⟩:=hW
 have hA:DataW.TrodAll enc Tryz.prog W 0 (fun _=>true) true Tryz.f9.params.toList args.toList ds p:=hA0
 rw [Tryz.params9] at hA hval
 obtain ⟨v0,vs1,d0,ds1,p0,q1,ea,rfl,rfl,h0,hA⟩:=trodAll_cons hA
 obtain ⟨v1,vs2,d1,ds2,p1,q2,rfl,rfl,rfl,h1,hA⟩:=trodAll_cons hA
 obtain ⟨v2,vs3,d2,ds3,p2,q3,rfl,rfl,rfl,h2,hA⟩:=trodAll_cons hA
 obtain ⟨rfl,rfl,rfl⟩:=trodAll_nil hA
 have ea':args= #[v0,v1,v2]:=by rw [←Array.toArray_toList (xs:=args),ea]
 subst ea'
 obtain ⟨rfl,rfl⟩:=trodVars_none hV
 obtain ⟨av,n,c,xs,rfl,hP,hW⟩:=zrn (hval 0 59 v0 rfl rfl) h0
 obtain ⟨od,rfl,_,_,wfod⟩:=open_int zkm (hval 1 5 v1 rfl rfl) h1
 have ho:=zwE wfod
 obtain ⟨bv,bn,bc,rs,rfl,hR⟩:=zkR (hval 2 60 v2 rfl rfl) h2
 refine (ZA.law (zui hP hW od ho hR)).mono fun e W' ⟨he,hB⟩=>?_
 subst he
 exact ⟨_,rfl,zpf ztr (by kernel_rfl) zyh rfl rfl (by rw [Tryz.params9];simp only [List.mem_cons,List.not_mem_nil,or_false,forall_eq_or_imp,forall_eq];exact ⟨⟨by kernel_rfl,of_decide_eq_true (by kernel_rfl)⟩,⟨by kernel_rfl,of_decide_eq_true (by kernel_rfl)⟩,⟨by kernel_rfl,of_decide_eq_true (by kernel_rfl)⟩⟩) hW' hB⟩
end
section
open Go Go.Kn Go.Proofs
open Go.ChangeShapes Go.WideShapes Go.ChangeAt Go.RowKit
theorem VG {a b:Bool}(h1:a=true)(h2:b=true):(a&&b)=true:=by rw [h1,h2];rfl
theorem jf0:(Rows.partiesKeptRow.wf (OpenSpec.ofChange Rows.partiesKeptSpec))=true:=by kernel_rfl
theorem jf1:(laidOutB Tryz.checked.prog)=true:=by kernel_rfl
theorem jf2:(mapsRowed Tryz.checked.prog)=true:=by kernel_rfl
theorem jf3:(Tryz.f9.params.all (Tryz.checked.prog.readableRec ·))=true:=by kernel_rfl
theorem jf4:(namedTie Tryz.checked.prog Rows.partiesKeptRow.named Rows.partiesKeptSpec.vars)=true:=by kernel_rfl
theorem jf5:(Rows.partiesKeptRow.stops== [])=true:=by kernel_rfl
theorem jf6:(Tryz.checked.prog.stops== [])=true:=by kernel_rfl
theorem jf7:(Rows.partiesKeptRow.knobs== [])=true:=by kernel_rfl
theorem jf8:(Tryz.checked.prog.stopKnobs== [])=true:=by kernel_rfl
theorem jf9:(Rows.partiesKeptRow.inPlace==(Tryz.checked.prog.inPlace 9))=true:=by kernel_rfl
theorem zyZ:(Rows.partiesKeptRow.unfollowed==(Tryz.checked.prog.unfollowed 9))=true:=by kernel_rfl
theorem zyV:(Rows.partiesKeptRow.recurses==(Tryz.checked.prog.recurses 9))=true:=by kernel_rfl
theorem zyL:(Rows.partiesKeptRow.named==(Tryz.checked.prog.varsNamed 9))=true:=by kernel_rfl
theorem zyR:(Rows.partiesKeptRow.maps==(Tryz.f9.params.toList++Rows.partiesKeptSpec.plain.varTypes Tryz.checked.prog).any (Tryz.checked.prog.mapsRec ·))=true:=by kernel_rfl
theorem zzd:(Rows.partiesKeptRow.ifaces==(Tryz.f9.params.toList++Rows.partiesKeptSpec.plain.varTypes Tryz.checked.prog).any (Tryz.checked.prog.ifacesRec ·))=true:=by kernel_rfl
theorem zyI:(Rows.partiesKeptRow.mapsOut==Tryz.checked.prog.mapsAmong Tryz.f9.resultTypes.toList)=true:=by kernel_rfl
theorem zyK:(Rows.partiesKeptRow.loops==(Tryz.f9.params.toList++Rows.partiesKeptSpec.plain.varTypes Tryz.checked.prog).any (Tryz.checked.prog.loopsFrom ·))=true:=by kernel_rfl
theorem zy4:(Rows.partiesKeptRow.wideKeys==(Tryz.f9.params.toList++Rows.partiesKeptSpec.plain.varTypes Tryz.checked.prog++Tryz.f9.resultTypes.toList).any (Tryz.checked.prog.wideKeysFrom ·))=true:=by kernel_rfl
theorem zze:(Rows.partiesKeptSpec.vars.all (Tryz.checked.prog.varReadable ·))=true:=by kernel_rfl
theorem zy3:(Tryz.f9.resultTypes.all (fun t=>Tryz.checked.prog.readableRec t&&decide (t<Tryz.checked.prog.types.size)))=true:=by kernel_rfl
theorem zyY:(Rows.partiesKeptRow.ifacesOut==Tryz.f9.resultTypes.toList.any (Tryz.checked.prog.ifacesRec ·))=true:=by kernel_rfl
theorem zzc:(Rows.partiesKeptRow.loopsOut==Tryz.f9.resultTypes.toList.any (Tryz.checked.prog.loopsFrom ·))=true:=by kernel_rfl
theorem zy1:(Rows.partiesKeptRow.plainKeys==Tryz.checked.prog.plainKeys)=true:=by kernel_rfl
theorem zy0:(Rows.partiesKeptRow.shortTexts.isNone)=true:=by kernel_rfl
theorem zyW:(Tryz.checked.prog.stopsHeard)=true:=by kernel_rfl
theorem zyP:(Tryz.checked.prog.mayEnter)=true:=by kernel_rfl
theorem zyN:(Rows.partiesKeptRow.lifted==Tryz.checked.prog.liftsFinal)=true:=by kernel_rfl
theorem zyJ:(Tryz.checked.prog.make==some Rows.partiesKeptRow.make)=true:=by kernel_rfl
theorem zy8:(Rows.partiesKeptRow.pinned==Rows.partiesKeptRow.pinnedBy)=true:=by kernel_rfl
theorem zyE:(Rows.partiesKeptRow.veiled==(Tryz.f9.params.toList++Rows.partiesKeptSpec.plain.varTypes Tryz.checked.prog++Tryz.f9.resultTypes.toList).any (Tryz.checked.prog.veiledRec ·))=true:=by kernel_rfl
theorem zy7:(Rows.partiesKeptRow.veiledFits Tryz.checked.prog Tryz.f9.params.toList (Tryz.f9.params.toList++Rows.partiesKeptSpec.plain.varTypes Tryz.checked.prog++Tryz.f9.resultTypes.toList))=true:=by kernel_rfl
theorem zvq:joinedFacts Tryz.checked.prog 9 Tryz.f9 Rows.partiesKeptSpec Rows.partiesKeptRow=true:=by
 unfold joinedFacts
 exact (VG (VG (VG (VG (VG (VG (VG (VG (VG (VG (VG (VG (VG (VG (VG (VG (VG (VG (VG (VG (VG (VG (VG (VG (VG (VG (VG (VG (VG (VG (VG jf0 jf1) jf2) jf3) jf4) jf5) jf6) jf7) jf8) jf9) zyZ) zyV) zyL) zyR) zzd) zyI) zyK) zy4) zze) zy3) zyY) zzc) zy1) zy0) zyW) zyP) zyN) zyJ) (by kernel_rfl)) zy8) zyE) zy7)
theorem partiesKept_holds:Rows.PartiesKeptSaid:=
 OpenClaim.holds_of_wide 9 Tryz.f9 rfl rfl rfl rfl rfl rfl rfl ⟨rfl,rfl,rfl,rfl,rfl⟩ rfl rfl rfl rfl rfl (by kernel_rfl) Tryz.func9 zvq
  (of_decide_eq_true (by kernel_rfl)) (by unfold Func.isWrapper;first | (rw [if_pos (by decide+kernel)];kernel_rfl) | (rw [if_neg (by decide+kernel)];exact ⟨rfl,rfl⟩))
  (fun os started H enc _=>WL os started H enc)
#print axioms partiesKept_holds
end
end Go.Proofs.YtjblkbkmblkgoaaGreat
