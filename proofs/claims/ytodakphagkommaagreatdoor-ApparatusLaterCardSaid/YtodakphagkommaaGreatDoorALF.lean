/- apparatusLater_holds, part F of the proof: what its theorems say holds without further conditions. -/
import Derived.KernelRfl
import Derived.Test.YtodakphagkommaaGreatDoorALE
namespace Go.Proofs.YtodakphagkommaaGreatDoor.R
section
open Go Go.Kn Go.Proofs
theorem ztd {I:Qu}{av:Option Addr}{n c:Nat}{ps:List Pt}(hP:SlP I av n c ps)(hn:n≤100000){bv:Option Addr}{n2 c2:Nat}{bs:List Sg}(hB:Sl I 14 YZ bv n2 c2 bs)(hn2:n2≤100000){dv:Option Addr}{n3 c3:Nat}{ws:List Int}(hV:Sl I 1 QP dv n3 c3 ws)(hn3:n3≤100000):Yc Tryz.prog 83 [.slice av n c,.slice bv n2 c2,.slice dv n3 c3] I [] (RdQ (XA ps bs ws) ps (Yh ps ws) (Uj bs (Yh ps ws))):=by
 intro g H w hw
 refine qe Tryz.func83 Tryz.ntmps83 hw ?_
 have hIc:=zyv I
 refine zR ?_
 refine Qr znj rfl rfl (fun b_6=>?_)
 refine zA (zN (Ql (zR ?_)))
 refine zM ?_
 refine qc (vs:=[_]) rfl znq (zn1 hP hn) ?_
 refine zA ?_
 refine zN (zR ?_)
 refine zM ?_
 refine zC (zN ?_)
 refine zI ?_ ?_<;>intro hc19
 ·
  have hck:JB ps≠0:=by simpa using hc19
  refine zR ?_
  refine zV (Qp rfl Y8 (fun hg=>by exact Cells.g0) rfl) ?_
  refine zM ?_
  refine zh Uf ?_
  refine zA (zN (Qs (Qc ?_)))
  first
  | exact Zv rfl rfl rfl Y8 (by repeat (first | exact zyt | apply zys | apply zyu)) rfl (fun w hw=>⟨_,I,[],rfl,hIc,hw.drop,rfl,_,_,_,_,_,_,by rw [zqv hck],fun h0=>absurd h0 (by rw [zqv hck];exact hck)⟩)
 have hck:JB ps=0:=by simpa using hc19
 have hn5:n≤512:=by have:=(Ky hck).1;rw [hP.len] at this;omega
 have hL:=Xb hck
 have hnd:=zmO hP hck
 have hSto:=zbI hck
 refine Qo (Qa (Ql (zR (zM ?_))))
 refine qc (vs:=[_]) rfl zdr (zeB hB hn2) ?_
 refine zA ?_
 refine zN (zR ?_)
 refine zM ?_
 refine zC (zN ?_)
 refine zI ?_ ?_<;>intro hc25
 ·
  have hcg:Wz bs≠0:=by simpa using hc25
  refine zR ?_
  refine zV (Qp rfl Y8 (fun hg=>by exact Cells.g0) rfl) ?_
  refine zM ?_
  refine zh Uf ?_
  refine zA (zN (Qs (Qc ?_)))
  first
  | exact Zv rfl rfl rfl Y8 (by repeat (first | exact zyt | apply zys | apply zyu)) rfl (fun w hw=>⟨_,I,[],rfl,hIc,hw.drop,rfl,_,_,_,_,_,_,by rw [zqe hck hcg],fun h0=>absurd h0 (by rw [zqe hck hcg];exact hcg)⟩)
 have hcg:Wz bs=0:=by simpa using hc25
 refine Qo (Qa (Ql (zR (zM ?_))))
 refine zM ?_
 refine qc (vs:=[_,_]) rfl zod (zcs hP hn5 hL hnd hV hn3) ?_
 refine zA ?_
 refine zN (zR ?_)
 refine zM ?_
 refine zC (zN ?_)
 refine zI ?_ ?_<;>intro hc32
 ·
  have hcv:vrE ps ws≠0:=by simpa using hc32
  refine zR ?_
  refine zV (Qp rfl Y8 (fun hg=>by exact Cells.g0) rfl) ?_
  refine zM ?_
  refine zh Uf ?_
  refine zA (zN (Qs (Qc ?_)))
  first
  | exact Zv rfl rfl rfl Y8 (by repeat (first | exact zyt | apply zys | apply zyu)) rfl (fun w hw=>⟨_,I,[],rfl,hIc,hw.drop,rfl,_,_,_,_,_,_,by rw [zty hck hcg hcv],fun h0=>absurd h0 (by rw [zty hck hcg hcv];exact hcv)⟩)
 have hcv:vrE ps ws=0:=by simpa using hc32
 have hVer:=(Xo hL).1 (zaJ hcv)
 refine Qo (Qa (zR (zM ?_)))
 refine Qx (cap:=[]) (vs:=[_]) rfl rfl zjG .nil (zbg hP hn hL hnd) rfl rfl ?_
 rintro vv1 I1 L1 hI1 ⟨rfl,r9,rfl,hOn⟩
 have hP:=hP.mono hI1;have hB:=hB.mono hI1;have hV:=hV.mono hI1;have hIc:=hIc.trans hI1
 refine ZE rfl rfl (fun r_37=>?_)
 refine ZE rfl rfl (fun r_38=>?_)
 refine zM ?_
 refine Qx (cap:=[]) (vs:=[_]) rfl rfl zp7 .nil (zma hB (by omega)) rfl rfl ?_
 rintro vv2 I2 L2 hI2 ⟨rfl,hO⟩
 have hP:=hP.mono hI2;have hB:=hB.mono hI2;have hV:=hV.mono hI2;have hOn:=hOn.mono hI2;have hIc:=hIc.trans hI2
 obtain ⟨Lg,hLg⟩:∃ Lg,Lg=L2:=⟨_,rfl⟩
 subst hLg
 obtain ⟨vg,hvg⟩:∃ z,z=vv2:=⟨_,rfl⟩
 subst hvg
 obtain ⟨va,vn,vc,rfl⟩:=hO.val
 refine zV (QR (ps:=[(0,_),(1,_),(2,_),(3,_)]) [_,_,_,_] zpx rfl rfl) ?_
 refine YO rfl rfl Uf rfl rfl rfl rfl (by (repeat (first | exact Upd.here | apply Upd.there | apply QI))) ?_
 refine zN (zR ?_)
 refine ZE rfl rfl (fun r_42=>?_)
 refine zA (zN (Ql (zR ?_)))
 refine zM ?_
 refine zQ YW ?_
 refine zM (zN (Qm ?_))
 refine zU [(0,_),(2,_),(6,_),(8,_),(43,_),(44,_)] (fun T L0 mz E I' loc'=>∃ (k:Nat) (s:List (Int×Bool)),mz=n2-k∧E=(45,.int .i64 k)::T∧I2=I'∧(r_42,ZN (Value.int .i64) Value.bool s)::(Lg++[(r_38,ZN (Value.int .i64) WL []),(r_37,ZN YC WL []),(b_6,.cells #[.map (some r9),.map (some r_37),.map (some r_38),.slice va vn vc] 159 (0,0))])=loc'∧k≤n2∧∀ x,za4 s x=WU (bs.take k) x) ?_ (h:=⟨0,[],rfl,rfl,rfl,rfl,Nat.zero_le _,fun x=>rfl⟩)
 rintro mz E I' loc' ⟨k,s,rfl,rfl,rfl,rfl,hk,hs⟩
 refine zR (zC (zN (Ql ?_)))
 refine zI ?_ ?_<;>intro hc46
 ·
  have hlt_k:k<n2:=by have h:=hc46;simp at h;omega
  obtain ⟨b,hb⟩:=hB.at hlt_k
  refine Qo (Qa (Ql (Qm (zR ?_))))
  refine zV (QE rfl rfl YW (by assumption) (fun hg=>by omega)) ?_
  refine zV (Qp rfl ZK (fun hg=>by exact zyw hB hb) rfl) ?_
  refine Qr WW rfl rfl (fun b_10=>?_)
  refine zh VG ?_
  refine zN (Qg (zM ?_))
  refine zF ZO ?_
  refine zL Qt ?_
  refine Q4 (m:=s) (ek:=Value.int .i64) (ev:=Value.bool) (a:=b.id) true Vn ZD rfl rfl rfl rfl (by repeat (first | exact Upd.here | apply Upd.there | apply QI)) ?_
  refine Qb (Qh (Qa (Qg (zB ?_))))
  refine zM (Qb ?_)
  exact zm (h:=⟨n2-(k+1),by omega,k+1,_,rfl,rfl,rfl,rfl,by omega,fun x=>by rw [KS,hs,zjH hb]⟩)
 have hge_k:n2≤k:=by have h:=hc46;simp at h;omega
 have hkn:=zf9 hs (by rw [hB.len];exact hge_k)
 refine QH (Qe (Qe (Qk (Qa (Ql (zR (zM ?_)))))))
 refine zQ Zy ?_
 refine zM (zN (Qm ?_))
 refine zU [(2,_),(6,_),(8,_),(53,_),(54,_)] (fun T L0 mz E I' loc'=>∃ (k:Nat) (s:List (Int×Bool)) (vg:Value) (q:Nat) (Lg:Go.Kn.Loc) (ms:List ((Int×Int)×ziU)) (Ls:Go.Kn.Loc) (mr:List (Int×ziU)) (Lr:Go.Kn.Loc),mz=n-k∧E=(55,.int .i64 k)::T∧I2=I'∧(r_42,ZN (Value.int .i64) Value.bool s)::(Lg++((r_38,ZN (Value.int .i64) WL mr)::(r_37,ZN YC WL ms)::(b_6,.cells #[.map (some r9),.map (some r_37),.map (some r_38),vg] 159 (0,0))::(Ls++Lr)))=loc'∧k≤n∧zcT s bs (Yh (ps.take k) ws)∧OwnS 54 14 vg q ((bs++zbE (Yh (ps.take k) ws)).flatMap YZ) Lg∧q≤n2+k∧zgA ms (Yh (ps.take k) ws)∧Vm 57 19 (ms.map (·.2)) Ls∧WE mr (Yh (ps.take k) ws)∧Vm 3 1 (mr.map (·.2)) Lr∧(Yh (ps.take k) ws).all (zr0 bs (Yh ps ws))=true) ?_ (h:=⟨0,s,_,n2,Lg,[],[],[],[],rfl,rfl,rfl,rfl,Nat.zero_le _,hkn,by rw [show bs++zbE (Yh (ps.take 0) ws)=bs from List.append_nil _];exact hO,Nat.le_refl _,zgA.start,Vm.nil,WE.start,Vm.nil,rfl⟩)
 rintro mz E I' loc' ⟨k,s,vg,q,Lg,ms,Ls,mr,Lr,rfl,rfl,rfl,rfl,hk,hkn,hO,hq,hsm,hAllS,hrm,hAllR,hfit⟩
 obtain ⟨va,vn,vc,rfl⟩:=hO.val
 refine zR (zC (zN (Ql ?_)))
 refine zI ?_ ?_<;>intro hc56
 ·
  have hlt_k:k<n:=by have h:=hc56;simp at h;omega
  have hP1:=hP.1
  obtain ⟨p,hp,hN⟩:=hP.at hlt_k
  have hpm:=List.mem_of_getElem? hp
  have hN:Sl I2 1 QP p.a p.n p.c p.needs:=hN
  have hpn:=hnd p hpm
  refine Qo (Qa (Ql (Qm (zR ?_))))
  refine zV (QE rfl rfl Zy (by assumption) (fun hg=>by omega)) ?_
  refine zV (Qp rfl Yr (fun hg=>by exact zyw hP1 hp) rfl) ?_
  refine Qr K5 rfl rfl (fun b_12=>?_)
  refine zh VM ?_
  refine zN (Ql (zR (zM ?_)))
  refine zF Zu ?_
  refine zL Qt ?_
  refine qc (vs:=[_,_]) rfl zov (zxn hV hn3 hVer.inc _) ?_
  refine zM ?_
  refine zE ?_
  refine zE ?_
  refine zA ?_
  refine zA ?_
  refine zN (zR ?_)
  refine zM ?_
  refine zO (zN ?_)
  refine zI ?_ ?_<;>intro hc67
  ·
   have hin:(ws.any fun x=>x==p.id)=false:=(Bool.not_eq_true' _).mp hc67
   have hT:=zq2 hp hin
   refine QH (Qe (Qk (Qa (Qg (zB ?_)))))
   refine zM (Qb ?_)
   first
   | exact zm (h:=⟨n-(k+1),by omega,k+1,_,_,_,_,_,_,_,_,rfl,rfl,rfl,rfl,by omega,by rw [hT];exact hkn,by rw [hT];exact hO,by omega,by rw [hT];exact hsm,hAllS,by rw [hT];exact hrm,hAllR,by rw [hT];exact hfit⟩)
  have hin:(ws.any fun x=>x==p.id)=true:=(Bool.not_eq_false' _).mp hc67
  have hT:=zlp hp hin
  refine Qo (Qa (Ql (zR (zM ?_))))
  refine zF Ya ?_
  refine zL Qt ?_
  refine zV (ZY (m:=s) Vn ZD rfl rfl (fun _=>(by exact Mem.m1))) ?_
  refine zF KU ?_
  refine zL Qt ?_
  refine zC ?_
  refine zV (zlx rfl rfl zwr) ?_
  refine zN ?_
  refine zI ?_ ?_<;>intro hc75
  ·
   have h75:(za4 s p.sign==(p.kind==2))=true:=hc75
   rw [zfl hSto hp hin (hkn p.sign)] at h75
   have hfp:=(Bool.not_eq_true' _).mp h75
   have hfb:=zo2 hpm hin hfp
   refine zR ?_
   refine zV (Qp rfl Y8 (fun hg=>by (repeat (first | exact zyt | apply zys | apply zyu))) rfl) ?_
   refine YO rfl rfl Uf rfl rfl rfl rfl (by (repeat (first | exact Upd.here | apply Upd.there | apply QI))) ?_
   refine zA (zN (Qs (Qc (Qn (Qc (Qc (Qn ?_)))))))
   refine Qc ?_
   first
   | exact Zv rfl rfl rfl Y8 (by repeat (first | exact zyt | apply zys | apply zyu)) rfl (fun w hw=>⟨_,I2,[],rfl,hIc,hw.drop,rfl,_,_,_,_,_,_,by rw [ztz hck hcg hcv hfb],fun h0=>absurd h0 (by rw [ztz hck hcg hcv hfb];exact (by decide))⟩)
  have h75:(za4 s p.sign==(p.kind==2))=false:=hc75
  rw [zfl hSto hp hin (hkn p.sign)] at h75
  have hfp:=(Bool.not_eq_false' _).mp h75
  refine Qo (Qa (zR ?_))
  refine zF KU ?_
  refine zL Qt ?_
  refine zN (Qm (zR (zC ?_)))
  refine zA (zN ?_)
  refine zI ?_ ?_<;>intro hc79
  ·
   have hk2:p.kind=2:=by simpa using hc79
   refine zR (zM ?_)
   refine zF Ya ?_
   refine zL Qt ?_
   refine Q4 (m:=s) (ek:=Value.int .i64) (ev:=Value.bool) (a:=p.sign) true Vn ZD rfl rfl rfl rfl (by repeat (first | exact Upd.here | apply Upd.there | apply QI)) ?_
   refine zN (Qg ?_)
   refine zF UD ?_
   refine zV (Qd rfl zci (fun hg=>by (repeat (first | exact zyq rfl | apply zyp | apply zyr)))) ?_
   refine zF VX ?_
   refine zV (Qp rfl ZK (fun hg=>by exact Cells.s0 (vs:=[_,_,_,_,_,_,_,_,_,_,_,_,_,_]) rfl) rfl) ?_
   refine Qq (ps:=[(0,_)]) (m:=[YZ p.nw]) K8 rfl (.cons rfl (.nil)) rfl (by simp [Z5]) (by decide) (by decide) rfl rfl (fun b_88=>?_)
   refine QW (v:=_) (ys:=[p.nw].flatMap YZ) (L:=Lg) rfl rfl K8 hO (by repeat (first | exact .cons .here .nil | exact QD | exact Qw | apply QC | apply QA)) ⟨rfl,fun _=>rfl,zyt⟩ (zmF [p.nw]) (by omega) rfl rfl ?_
   intro v9 L9 hO9 _;rw [←List.flatMap_append] at hO9;obtain ⟨va9,vn9,vc9,rfl⟩:=hO9.val
   refine zF UD ?_
   refine ZG rfl rfl znw rfl rfl (by (repeat (first | exact Upd.here | apply Upd.there | apply QI))) rfl ?_
   refine Qb (Qh (Qh (Qa (Qg (zB ?_)))))
   refine zM (Qb ?_)
   first
   | exact Jj _ _ (L9++((r_42,_)::(r_38,_)::(r_37,_)::(b_6,_)::(Ls++Lr))) ⟨n-(k+1),by omega,k+1,_,_,_,L9,ms,Ls,mr,Lr,rfl,rfl,rfl,rfl,by omega,by rw [hT];exact hkn.put hk2,by rw [hT,zmm hk2,←List.append_assoc];exact hO9,by omega,by rw [hT];exact hsm.skip (by omega),hAllS,by rw [hT];exact hrm.skip' (by omega),hAllR,by rw [hT,List.all_append,hfit];simp [hfp]⟩ (.cons rfl (.cons rfl (.cons rfl (.cons rfl (.cons rfl (.cons rfl .nil)))))) zvq (by repeat (first | exact .refl | exact Zi | refine Yj ?_ | refine .drop ?_ | refine Z6 ?_))
  have hk2n:p.kind≠2:=by simpa using hc79
  refine zR (zC ?_)
  refine zA (zN ?_)
  refine zI ?_ ?_<;>intro hc91
  ·
   have hk1:p.kind=1:=by simpa using hc91
   refine zR ?_
   refine zF Ya ?_
   refine zL Qt ?_
   refine zF Jp ?_
   refine zL Qt ?_
   refine zV (Zw (ps:=[(0,_),(1,_)]) [_,_] YN KI rfl rfl) ?_
   refine Qr KI rfl rfl (fun b_15=>?_)
   refine zh ziJ ?_
   refine zN ?_
   obtain ⟨A,Lt,B,hLs,hOt,hset⟩:=hAllS.at (p.sign,p.field)
   subst hLs
   rw [List.append_assoc A,List.append_assoc Lt]
   have hq0:=zsq hsm hOt
   have hq2:(Yh (ps.take k) ws).length≤k:=Nat.le_trans (List.length_filter_le ..) (List.length_take_le k ps)
   refine Qg ?_
   refine zF Xx ?_
   refine zV (Qd rfl zen (fun hg=>by (repeat (first | exact zyq rfl | apply zyp | apply zyr)))) ?_
   refine zV (Qp rfl zaG (fun hg=>by exact Cells.g0) rfl) ?_
   refine zV (Qp rfl Yr (fun hg=>by exact Cells.g1) rfl) ?_
   refine Qq (ps:=[(0,_)]) (m:=[Yw p]) UK rfl (.cons rfl (.nil)) rfl (by simp [QY]) (by decide) (by decide) rfl rfl (fun b_103=>?_)
   refine zei (m:=ms) (ek:=YC) (ev:=WL) (a:=(p.sign,p.field)) V8 rfl zej zcd rfl rfl rfl rfl (by (repeat (first | exact Upd.here | apply Upd.there | apply QI))) ?_
   refine zE ?_
   refine QW (v:=_) (ys:=[p].flatMap Yw) (L:=Lt) rfl rfl UK hOt (by repeat (first | exact .cons .here .nil | exact QD | exact Qw | apply QC | apply QA)) ⟨rfl,fun _=>rfl,zyt⟩ (zlr [p]) (by omega) rfl rfl ?_
   intro v9 L9 hO9 _
   refine zE ?_
   refine zb4 (ek:=YC) (ev:=WL) (m:=Yv ms (p.sign,p.field) ((ZC ms (p.sign,p.field)).getD V8)) (a:=(p.sign,p.field)) (v9,((ZC ms (p.sign,p.field)).getD V8).2.1+1,((ZC ms (p.sign,p.field)).getD V8).2.2++[p].flatMap Yw) ((ZC ms (p.sign,p.field)).getD V8) (by rw [YA,if_pos rfl]) rfl (by rw [zjt];exact rfl) rfl rfl (by repeat (first | exact Upd.here | apply Upd.there | apply QI)) ?_
   rw [zc8]
   refine Qb (Qh (Qh (Qa (Qg (zB ?_)))))
   refine zM (Qb ?_)
   first
   | exact Jj _ _ (L9++((r_42,_)::(Lg++((r_38,_)::(r_37,_)::(b_6,_)::(A++(B++Lr)))))) ⟨n-(k+1),by omega,k+1,s,_,q,Lg,_,A++(L9++B),mr,Lr,rfl,rfl,rfl,rfl,by omega,by rw [hT];exact hkn.skip (by omega),by rw [hT,zbL (by omega)];exact hO,by omega,by rw [hT];exact hsm.put hk1,hset (v9,_,_) L9 hO9,by rw [hT];exact hrm.skip' (by omega),hAllR,by rw [hT,List.all_append,hfit];simp [hfp]⟩ (.cons rfl (.cons rfl (.cons rfl (.cons rfl (.cons rfl (.cons rfl .nil)))))) zuW (by repeat (first | exact .refl | exact Zi | refine Yj ?_ | refine .drop ?_ | refine Z6 ?_))
  have hk1n:p.kind≠1:=by simpa using hc91
  refine zR (zC ?_)
  refine zA (zN ?_)
  refine zI ?_ ?_<;>intro hc107
  ·
   have hk3:p.kind=3:=by simpa using hc107
   obtain ⟨A,Lt,B,hLr,hOt,hset⟩:=hAllR.at p.sign
   subst hLr
   have hq0:=zn9 hrm hOt
   have hq2:(Yh (ps.take k) ws).length≤k:=Nat.le_trans (List.length_filter_le ..) (List.length_take_le k ps)
   have hD:=zyv I2
   refine Jn ?_
   refine Z8 I2 [(b_12,.cells (Yw p).toArray 57 (0,0)),(b_6,.cells #[.map (some r9),.map (some r_37),.map (some r_38),.slice va vn vc] 159 (0,0))] mixed ?_
   refine zT 0 rfl (Qf rfl UE) hD ?_
   refine zT 1 rfl (Qd rfl zfc (fun hg=>by exact QV.h1 rfl)) hD ?_
   refine zT 2 rfl (Qf rfl Ya) hD ?_
   refine zT 3 rfl (Qd rfl Qt (fun hg=>by exact QV.h0 rfl)) hD ?_
   refine zT 4 rfl (Qf rfl UE) hD ?_
   refine zT 5 rfl (Qd rfl zfc (fun hg=>by exact QV.h1 rfl)) hD ?_
   refine zT 6 rfl (Qf rfl Ya) hD ?_
   refine zT 7 rfl (Qd rfl Qt (fun hg=>by exact QV.h0 rfl)) hD ?_
   refine zT 9 rfl (Qf rfl Zu) hD ?_
   refine zT 10 rfl (Qd rfl Qt (fun hg=>by exact QV.h0 rfl)) hD ?_
   refine Zr 8 11 rfl rfl (by kernel_rfl) ?_ ?_
   ·
    refine zV (Vo (m:=mr) (ek:=Value.int .i64) (a:=p.sign) YS ZD rfl rfl (fun _=>.inr (by simp))) ?_
    refine Qb ?_
    refine zD hD ?_
    refine qd 11 rfl ?_
    refine Qq (ps:=[(0,_)]) (m:=[QP p.id]) Zf rfl (.cons rfl (.nil)) rfl (by simp [Qv]) (by decide) (by decide) rfl rfl (fun b_120=>?_)
    refine Qb ?_
    refine zD hD ?_
    refine qd 12 rfl ?_
    refine QW (v:=_) (ys:=[p.id].flatMap QP) (L:=Lt) rfl rfl Zf hOt (by repeat (first | exact .cons .here .nil | exact QD | exact Qw | apply QC | apply QA)) ⟨rfl,fun _=>rfl,zyt⟩ (JG [p.id]) (by omega) rfl rfl ?_
    intro v9 L9 hO9 _
    refine Qb ?_
    refine zD hD ?_
    refine qd 13 rfl ?_
    refine Q4 (m:=mr) (ek:=Value.int .i64) (ev:=WL) (a:=p.sign) (v9,((ZC mr p.sign).getD V8).2.1+1,((ZC mr p.sign).getD V8).2.2++[p.id].flatMap QP) YS ZD rfl rfl rfl rfl (by (repeat (first | exact Upd.here | apply Upd.there | apply QI))) ?_
    refine Qb ?_
    refine zD hD ?_
    refine QF (by kernel_rfl) ?_
    refine QQ ?_
    refine Qh (Qh (Qa (Qg (zB ?_))))
    refine zM (Qb ?_)
    first
    | exact Jj _ _ (L9++((r_42,_)::(Lg++((r_38,_)::(r_37,_)::(b_6,_)::(Ls++(A++B)))))) ⟨n-(k+1),by omega,k+1,s,_,q,Lg,ms,Ls,_,A++(L9++B),rfl,rfl,rfl,rfl,by omega,by rw [hT];exact hkn.skip (by omega),by rw [hT,zbL (by omega)];exact hO,by omega,by rw [hT];exact hsm.skip (by omega),hAllS,by rw [hT];exact hrm.put' hk3,hset (v9,_,_) L9 hO9,by rw [hT,List.all_append,hfit];simp [hfp]⟩ (.cons rfl (.cons rfl (.cons rfl (.cons rfl (.cons rfl (.cons rfl .nil)))))) zmK (by repeat (first | exact .refl | exact Zi | refine Yj ?_ | refine .drop ?_ | refine Z6 ?_))
   refine Qq (ps:=[(0,_)]) (m:=[QP p.id]) Zf rfl (.cons rfl (.nil)) rfl (by simp [Qv]) (by decide) (by decide) rfl rfl (fun b_120=>?_)
   refine Qb ?_
   refine zD hD ?_
   refine qd 8 rfl ?_
   refine zV (Vo (m:=mr) (ek:=Value.int .i64) (a:=p.sign) YS ZD rfl rfl (fun _=>.inr (by simp))) ?_
   refine Qb ?_
   refine zD hD ?_
   refine qd 12 rfl ?_
   refine QW (v:=_) (ys:=[p.id].flatMap QP) (L:=Lt) rfl rfl Zf hOt (by repeat (first | exact .cons .here .nil | exact QD | exact Qw | apply QC | apply QA)) ⟨rfl,fun _=>rfl,zyt⟩ (JG [p.id]) (by omega) rfl rfl ?_
   intro v9 L9 hO9 _
   refine Qb ?_
   refine zD hD ?_
   refine qd 13 rfl ?_
   refine Q4 (m:=mr) (ek:=Value.int .i64) (ev:=WL) (a:=p.sign) (v9,((ZC mr p.sign).getD V8).2.1+1,((ZC mr p.sign).getD V8).2.2++[p.id].flatMap QP) YS ZD rfl rfl rfl rfl (by (repeat (first | exact Upd.here | apply Upd.there | apply QI))) ?_
   refine Qb ?_
   refine zD hD ?_
   refine QF (by kernel_rfl) ?_
   refine QQ ?_
   refine Qh (Qh (Qa (Qg (zB ?_))))
   refine zM (Qb ?_)
   first
   | exact Jj _ _ (L9++((r_42,_)::(Lg++((r_38,_)::(r_37,_)::(b_6,_)::(Ls++(A++B)))))) ⟨n-(k+1),by omega,k+1,s,_,q,Lg,ms,Ls,_,A++(L9++B),rfl,rfl,rfl,rfl,by omega,by rw [hT];exact hkn.skip (by omega),by rw [hT,zbL (by omega)];exact hO,by omega,by rw [hT];exact hsm.skip (by omega),hAllS,by rw [hT];exact hrm.put' hk3,hset (v9,_,_) L9 hO9,by rw [hT,List.all_append,hfit];simp [hfp]⟩ (.cons rfl (.cons rfl (.cons rfl (.cons rfl (.cons rfl (.cons rfl .nil)))))) zmK (by repeat (first | exact .refl | exact Zi | refine Yj ?_ | refine .drop ?_ | refine Z6 ?_))
  have hk3n:p.kind≠3:=by simpa using hc107
  refine Qo (Qh (Qh (Qa (Qg (zB ?_)))))
  refine zM (Qb ?_)
  first
  | exact zm (h:=⟨n-(k+1),by omega,k+1,_,_,_,_,_,_,_,_,rfl,rfl,rfl,rfl,by omega,by rw [hT];exact hkn.skip hk2n,by rw [hT,zbL hk2n];exact hO,by omega,by rw [hT];exact hsm.skip hk1n,hAllS,by rw [hT];exact hrm.skip' hk3n,hAllR,by rw [hT,List.all_append,hfit];simp [hfp]⟩)
 have hge_k:n≤k:=by have h:=hc56;simp at h;omega
 have hTn:Yh (ps.take k) ws=Yh ps ws:=by rw [ZF hP.len hge_k]
 rw [hTn] at hkn hO hsm hrm hfit
 have hfitB:zfH bs (Yh ps ws)=true:=hfit
 refine QH (Qe (Qe (Qk (Qa (zR ?_)))))
 refine zF UD ?_
 refine zV (Qd rfl zci (fun hg=>by (repeat (first | exact zyq rfl | apply zyp | apply zyr)))) ?_
 refine Qx (cap:=[]) (vs:=[_,_]) rfl rfl zrF (by repeat (first | exact .cons .here .nil | exact QD | exact Qw | apply QC | apply QA)) (zrl 54 _ hO (by omega) _) rfl rfl ?_
 rintro vv5 I5 L5 hI5 ⟨rfl,rfl,zs2,hperm,hsort,hO2⟩
 have hP:=hP.mono hI5;have hOn:=hOn.mono hI5;have hIc:=hIc.trans hI5
 refine Qb ?_
 have hz2:zs2=Uj bs (Yh ps ws):=zks (zhG (zek hcg).2) (Xi hSto hVer) hfitB hperm hsort
 rw [hz2] at hO2
 refine Qa (zR ?_)
 refine zV (Qp rfl Y8 (fun hg=>by (repeat (first | exact zyt | apply zys | apply zyu))) rfl) ?_
 refine YO rfl rfl Uf rfl rfl rfl rfl (by (repeat (first | exact Upd.here | apply Upd.there | apply QI))) ?_
 refine zA (zN (Qs ?_))
 first
 | exact Zv rfl rfl rfl Y8 (by repeat (first | exact zyt | apply zys | apply zyu)) rfl (fun w hw=>by obtain ⟨I9,h91,h92,h93⟩:=hw.freezeAll;obtain ⟨av9,c9,hv9,hS9⟩:=hO2.sl Z5 (by decide) (fun b o hb=>h93 b o (by simp [hb]));cases hv9;exact ⟨_,I9,[],rfl,hIc.trans h91,h92,rfl,_,_,_,_,_,_,by rw [zw5 hck hcg hcv hfitB],fun _=>⟨_,_,_,rfl,rfl,rfl,⟨hOn.mono h91,⟨ms,h93 r_37 _ (by simp),zuE hsm hAllS (fun b o hb=>h93 b o (by simp [hb]))⟩,⟨mr,h93 r_38 _ (by simp),znX hrm hAllR (fun b o hb=>h93 b o (by simp [hb]))⟩,hS9,fun p hp=>(Y2.1 hp).1,fun p hp=>(hP.2 p hp).mono h91,hL,by rw [hP.len];exact hn5,Nat.le_trans (List.length_filter_le ..) (by rw [hP.len];exact hn5)⟩⟩⟩)
end
section
open Go Go.Kn Go.Proofs
def zdE (P:Pt→Bool)(xs:List Pt):List Int:=(xs.filter P).map (·.id)
theorem zkd {P:Pt→Bool}{xs:List Pt}:zdE P (xs.take 0)=[]:=by unfold zdE;simp
theorem zlL {P:Pt→Bool}{xs:List Pt}{k:Nat}{p:Pt}(hp:xs[k]? =some p)(h:P p=true):zdE P (xs.take (k+1))=zdE P (xs.take k)++[p.id]:=by
 unfold zdE
 rw [Z2 hp,List.filter_append,List.filter_cons,if_pos h];simp
theorem zou {P:Pt→Bool}{xs:List Pt}{k:Nat}{p:Pt}(hp:xs[k]? =some p)(h:P p=false):zdE P (xs.take (k+1))=zdE P (xs.take k):=by
 unfold zdE
 rw [Z2 hp,List.filter_append,List.filter_cons,if_neg (by rw [h];exact Bool.false_ne_true)];simp
def zv0 (on:Int→Int→Bool)(l:List Pt)(s:Int)(p:Pt):Bool:=(rmF l s).any fun i=> !on i p.id
def unL (on:Int→Int→Bool)(l:List Pt)(s f:Int):List Int:=zdE (zv0 on l s) (stF l s f)
def unK (on:Int→Int→Bool)(l:List Pt)(s:Int)(k:Nat):List Int:=(List.range k).flatMap fun (j:Nat)=>unL on l s ((j:Int)+1)
theorem zeL (on:Int→Int→Bool)(l:List Pt)(s:Int)(k:Nat):unK on l s (k+1)=unK on l s k++unL on l s ((k:Int)+1):=by
 unfold unK
 rw [List.range_succ,List.flatMap_append];simp
theorem zoU {on:Int→Int→Bool}{l:List Pt}{s:Int}(k:Nat):(unK on l s k).length≤k*l.length:=by
 induction k with
 | zero=>simp [unK]
 | succ k ih=>
  rw [zeL,List.length_append,Nat.succ_mul]
  have h1:(unL on l s ((k:Int)+1)).length≤l.length:=by
   unfold unL zdE
   rw [List.length_map]
   exact Nat.le_trans (List.length_filter_le ..) Wo
  omega
theorem zmJ {on:Int→Int→Bool}{l xs:List Pt}{s:Int}{k j e q:Nat}{v:Value}{P:Pt→Bool}{L:Go.Kn.Loc}(hO:OwnS e 1 v q ((unK on l s k++zdE P (xs.take j)).flatMap QP) L)(hk:k≤9)(hl:l.length≤512)(hx:xs.length≤512):q≤10000:=by
 have h1:=hO.1
 rw [zxZ,List.length_append] at h1
 have h2:(unK on l s k).length≤9*512:=Nat.le_trans (zoU k) (Nat.mul_le_mul hk hl)
 have h3:(zdE P (xs.take j)).length≤xs.length:=by
  unfold zdE
  rw [List.length_map]
  refine Nat.le_trans (List.length_filter_le ..) ?_
  rw [List.length_take];omega
 omega
theorem zhs {on:Int→Int→Bool}{l:List Pt}{s:Int}(hok:∀ p∈l,zpE p){x:Int}:x∈unK on l s 9↔x∈(unF on l s).map (·.id):=by
 unfold unK unL zdE unF unB
 rw [List.mem_flatMap]
 simp only [List.mem_map,List.mem_filter,List.mem_range,zac,Bool.and_eq_true,beq_iff_eq]
 constructor
 ·
  rintro ⟨j,hj,p,⟨⟨hp,hk,hs,hf⟩,hu⟩,rfl⟩
  exact ⟨p,⟨hp,hs,hk,by rw [hs];exact hu⟩,rfl⟩
 ·
  rintro ⟨p,⟨hp,hs,hk,hu⟩,rfl⟩
  have hf:=((hok p hp).set hk).1
  unfold isF at hf
  refine ⟨(p.field-1).toNat,by omega,p,⟨⟨hp,hk,hs,by omega⟩,by rw [hs] at hu;exact hu⟩,rfl⟩
theorem zwJ {on:Int→Int→Bool}{l:List Pt}{s:Int}(hok:∀ p∈l,zpE p):((((rmF l s).length:Int)==0)||decide (((unK on l s 9).length:Int)>0))=exB on l s:=by
 unfold exB
 have h1:(unK on l s 9).length=0↔unF on l s=[]:=by
  constructor
  ·
   intro h
   have h2:=List.length_eq_zero_iff.1 h
   cases hu:unF on l s with
   | nil=>rfl
   | cons p us=>
    have:p.id∈unK on l s 9:=(zhs hok).2 (by rw [hu];simp)
    rw [h2] at this;cases this
  ·
   intro h
   cases hu:unK on l s 9 with
   | nil=>rfl
   | cons x us=>
    have:x∈(unF on l s).map (·.id):=(zhs hok).1 (by rw [hu];simp)
    rw [h] at this;cases this
 congr 1
 ·
  cases rmF l s with
  | nil=>rfl
  | cons x us=>simp;omega
 ·
  cases hu:unF on l s with
  | nil=>rw [h1.2 hu];rfl
  | cons p us=>
   have:(unK on l s 9).length≠0:=fun h=>by rw [h1.1 h] at hu;cases hu
   simp;omega
theorem zs0 {ps l:List Pt}(hsub:∀ p∈l,p∈ps){s i:Int}(h:i∈rmF l s):∃ q∈ps,q.id=i:=by
 obtain ⟨q,hq,_,_,e⟩:=zqs.1 h
 exact ⟨q,hsub q hq,e⟩
theorem ztx {l:List Pt}{s:Int}:(rmF l s).length≤l.length:=XK (c:=3)
def zcB (on:Int→Int→Bool)(xs:List Pt)(p:Pt):Bool:= !xs.any fun q=>on q.id p.id
theorem zuS (on:Int→Int→Bool)(l:List Pt)(s f:Int):XM on l s f=(stF l s f).filter (zcB on (stF l s f)):=rfl
theorem Wc {P:Pt→Bool}{xs:List Pt}{k:Nat}{p:Pt}(hp:xs[k]? =some p)(h:P p=true):(xs.take (k+1)).filter P=(xs.take k).filter P++[p]:=by
 rw [Z2 hp,List.filter_append,List.filter_cons,if_pos h];simp
theorem zaA {P:Pt→Bool}{xs:List Pt}{k:Nat}{p:Pt}(hp:xs[k]? =some p)(h:P p=false):(xs.take (k+1)).filter P=(xs.take k).filter P:=by
 rw [Z2 hp,List.filter_append,List.filter_cons,if_neg (by rw [h];exact Bool.false_ne_true)];simp
theorem zht {P:Pt→Bool}{xs:List Pt}{k:Nat}{p:Pt}(hp:xs[k]? =some p)(h:P p=true):(xs.take k).filter P++[p]<+:xs.filter P:=by
 rw [←Wc hp h]
 exact ⟨(xs.drop (k+1)).filter P,by rw [←List.filter_append,List.take_append_drop]⟩
end
section
open Go Go.Kn Go.Proofs
theorem zwZ {I:Qu}{b1 b2 r1 r2 r3:Nat}{av:Option Addr}{n c:Nat}{p:Pt}{ps:List Pt}(h1:I b1=some (.cells #[.map (some r1),.map (some r2),.map (some r3),.slice av n c] 159 (0,0)))(h2:I b2=some (.cells (Yw p).toArray 57 (0,0)))(hOn:OnM I r1 ps)(id:Int)(hid:∃ q∈ps,q.id=id):Zx Tryz.prog 232 [.int .i64 id,.pointer (some ⟨b1,0,none⟩),.pointer (some ⟨b2,0,none⟩)] I (.bool (!onF ps id p.id)):=by
 intro g H w hw
 refine qe Tryz.func232 Tryz.ntmps232 hw ?_
 obtain ⟨m,hm1,hm2⟩:=hOn
 obtain ⟨ref,hget,sn,hsn,hsq⟩:=hm2.get hid
 refine zR (zA ?_)
 refine zN (zR ?_)
 refine zF zct ?_
 refine zV (Qd rfl zh2 (fun hg=>by exact .imm h1 rfl)) ?_
 refine zM ?_
 refine zV (YD (m:=m) (ek:=Value.int .i64) (ev:=zca) (a:=id) hget KE ZD rfl rfl (fun _=>.inl hm1)) ?_
 refine zF Zu ?_
 refine zV (Qd rfl Qt (fun hg=>by exact .imm h2 rfl)) ?_
 refine zV (ZY (m:=sn) Vn ZD rfl rfl (fun _=>.inl hsn)) ?_
 refine zO ?_
 refine zA (zN (Qs ?_))
 exact zr rfl rfl (by rw [show (ZC sn p.id).getD false=onF ps id p.id from hsq.mem _])
theorem zlP {I:Qu}{ps l:List Pt}{xs:List Sg}{r1 r2 r3:Nat}{av:Option Addr}{n c:Nat}(hx:StQ I ps l xs r1 r2 r3 av n c)(s:Int):Yc Tryz.prog 193 [stA r1 r2 r3 av n c,.int .i64 s] I [] (zbG 1 QP (unK (onF ps) l s 9)):=by
 intro g H w hw
 refine qe Tryz.func193 Tryz.ntmps193 hw ?_
 have hIc:=zyv I
 obtain ⟨ms,hms,hset⟩:=hx.set
 obtain ⟨mr,hmr,hrem⟩:=hx.rem
 obtain ⟨av3,c3,hv3,hS3⟩:=hrem s
 have hfl:=hx.fewl
 have hrl:=ztx (l:=l) (s:=s)
 refine zR ?_
 refine Q5 rfl rfl rfl (fun b_2=>?_)
 refine zA (zN (Ql (Ql ?_)))
 refine Xk ((b_2,.cells #[.map (some r1),.map (some r2),.map (some r3),.slice av n c] 159 (0,0))::[]) .refl ?_
 refine Qg (zA (zN (Qm ?_)))
 refine zU [(1,_),(2,_)] (fun T L0 mz E I' loc'=>∃ (k:Nat) (v:Value) (q:Nat) (L:Go.Kn.Loc),mz=9-k∧E=(4,v)::(5,.int .i64 ((k:Int)+1))::T∧I=I'∧(b_2,.cells #[.map (some r1),.map (some r2),.map (some r3),.slice av n c] 159 (0,0))::L=loc'∧k≤9∧OwnS 3 1 v q ((unK (onF ps) l s k).flatMap QP) L∧True) ?_ (h:=⟨0,_,0,[],rfl,rfl,rfl,rfl,Nat.zero_le _,OwnS.nil,trivial⟩)
 rintro mz E I' loc' ⟨k,v,q,L,rfl,rfl,rfl,rfl,hk,hO,_⟩
 refine Ql (zR (zM ?_))
 refine zC (zN ?_)
 refine zI ?_ ?_<;>intro hc9
 ·
  have hlt_k:k<9:=by have h:=hc9;simp at h;omega
  refine Qo (Qa (Ql (Qm (Ql ?_))))
  obtain ⟨av2,c2,hv2,hS2⟩:=hset (s,(k:Int)+1)
  dsimp only at hv2 hS2
  have hstl:=Wo (l:=l) (s:=s) (f:=(k:Int)+1)
  refine Qg ?_
  refine zF Xx ?_
  refine zL zen ?_
  refine zM ?_
  refine zM ?_
  refine zV (Zw (ps:=[(0,_),(1,_)]) [_,_] YN KI rfl rfl) ?_
  refine zV (Yx (m:=ms) (ek:=YC) (a:=(s,(k:Int)+1)) hv2 zej zcd rfl rfl (fun _=>.inl hms)) ?_
  refine zQ Zy ?_
  refine zM (zN (Qm ?_))
  refine zU [(1,_),(2,_),(5,_),(17,_),(18,_)] (fun T L0 mz E I' loc'=>∃ (j:Nat) (v:Value) (q:Nat) (L:Go.Kn.Loc),mz=(stF l s ((k:Int)+1)).length-j∧E=(4,v)::(19,.int .i64 j)::T∧I=I'∧(b_2,.cells #[.map (some r1),.map (some r2),.map (some r3),.slice av n c] 159 (0,0))::L=loc'∧j≤(stF l s ((k:Int)+1)).length∧OwnS 3 1 v q ((unK (onF ps) l s k++zdE (zv0 (onF ps) l s) ((stF l s ((k:Int)+1)).take j)).flatMap QP) L∧True) ?_ (h:=⟨0,v,q,L,rfl,rfl,rfl,rfl,Nat.zero_le _,by rw [zkd,List.append_nil];exact hO,trivial⟩)
  rintro mz E I' loc' ⟨j,v,q,L,rfl,rfl,rfl,rfl,hj,hO,_⟩
  refine zR (zC (zN (Ql ?_)))
  refine zI ?_ ?_<;>intro hc20
  ·
   have hlt_j:j<(stF l s ((k:Int)+1)).length:=by have h:=hc20;simp at h;omega
   obtain ⟨p,hp⟩:=hS2.at hlt_j
   refine Qo (Qa (Ql (Qm (zR ?_))))
   refine zV (QE rfl rfl Zy (by assumption) (fun hg=>by omega)) ?_
   refine zV (Qp rfl Yr (fun hg=>by exact zyw hS2 hp) rfl) ?_
   refine Qr K5 rfl rfl (fun b_7=>?_)
   refine zh VM ?_
   refine zN (zR ?_)
   refine zF UE ?_
   refine zL zfc ?_
   refine zM ?_
   refine zV (Yx (m:=mr) (ek:=Value.int .i64) (a:=s) hv3 YS ZD rfl rfl (fun _=>.inl hmr)) ?_
   refine zV (Zb (us:=[]) (vs:=[_,_]) rfl rfl) ?_
   refine UH (cap:=[]) (vs:=[_,_]) rfl rfl zi1 QD (zkn.ofV fun I' hI' hL'=>zsW (cap:=[.pointer (some ⟨b_2,0,none⟩),.pointer (some ⟨b_7,0,none⟩)]) (hS3.mono hI') (by omega) zrz (fun i hi=>zwZ (b1:=b_2) (b2:=b_7) (r1:=r1) (r2:=r2) (r3:=r3) (av:=av) (n:=n) (c:=c) (p:=p) (hL' b_2 _ (by simp)) (hL' b_7 _ (by simp)) (hx.on.mono hI') i (zs0 hx.sub hi))) rfl rfl ?_
   refine zN ?_
   refine zI ?_ ?_<;>intro hc28
   ·
    have hq:=zmJ hO (by omega) hfl (by omega)
    refine Qg (zM ?_)
    refine zF Zu ?_
    refine zL Qt ?_
    refine Qq (ps:=[(0,_)]) (m:=[QP p.id]) Zf rfl (.cons rfl (.nil)) rfl (by simp [Qv]) (by decide) (by decide) rfl rfl (fun b_32=>?_)
    refine QW (v:=_) (ys:=[p.id].flatMap QP) (L:=L) rfl rfl Zf hO (by repeat (first | exact .cons .here .nil | exact QD | exact Qw | apply QC | apply QA)) ⟨rfl,fun _=>rfl,zyt⟩ (JG [p.id]) (by omega) rfl rfl ?_
    intro v9 L9 hO9 _;rw [←List.flatMap_append,List.append_assoc] at hO9
    refine zA (Qb (Qh (Qa (Qg ?_))))
    refine zB ?_
    refine zM (Qb ?_)
    first
    | exact Jj _ _ (L9++[(b_2,_)]) ⟨(stF l s ((k:Int)+1)).length-(j+1),by omega,j+1,_,_,L9,rfl,rfl,rfl,rfl,by omega,by rw [zlL (P:=zv0 (onF ps) l s) hp hc28];exact hO9,trivial⟩ (.cons rfl (.cons rfl (.cons rfl (.cons rfl (.cons rfl (.cons rfl (.cons rfl .nil))))))) (zcj _ _) (by repeat (first | exact .refl | exact Zi | refine Yj ?_ | refine .drop ?_ | refine Z6 ?_))
   refine Qo (Qh (Qa (Qg (zB ?_))))
   refine zM (Qb ?_)
   first
   | exact zm (h:=⟨(stF l s ((k:Int)+1)).length-(j+1),by omega,j+1,_,_,_,rfl,rfl,rfl,rfl,by omega,by rw [zou (P:=zv0 (onF ps) l s) hp hc28];exact hO,trivial⟩)
  have hge_j:(stF l s ((k:Int)+1)).length≤j:=by have h:=hc20;simp at h;omega
  rw [ZF rfl hge_j] at hO
  refine QH (Qe (Qe (Qk (Qh (Qa (Qg (zM ?_)))))))
  refine zB ?_
  refine zA (Qb ?_)
  exact zm (h:=⟨9-(k+1),by omega,k+1,_,_,_,rfl,rfl,rfl,rfl,by omega,by rw [zeL];exact hO,trivial⟩)
 have hge_k:9≤k:=by have h:=hc9;simp at h;omega
 have hk9:k=9:=by omega
 subst hk9
 refine QH (Qe (Qe (Qk (Qa (zR (zM ?_))))))
 refine zA (zN (Qs ?_))
 exact Zt rfl rfl (fun w hw=>by obtain ⟨I9,h91,h92,h93⟩:=OwnS.res hO Qv (by decide) (hw.subL (by repeat (first | exact .refl | refine .drop ?_)));exact ⟨_,I9,[],rfl,hIc.trans h91,h92,h93⟩)
theorem zi7 {I:Qu}{ps l:List Pt}{xs:List Sg}{r1 r2 r3:Nat}{av:Option Addr}{n c:Nat}(hx:StQ I ps l xs r1 r2 r3 av n c)(s:Int):Yc Tryz.prog 193 [stA r1 r2 r3 av n c,.int .i64 s] I [] (fun u _I9 L9=>L9=[]∧∃ a9 c9,u= .slice a9 (unK (onF ps) l s 9).length c9):=
 (zlP hx s).mono fun v I' L' _ h=>by
  obtain ⟨h1,a9,c9,h2,_⟩:=h
  exact ⟨h1,a9,c9,h2⟩
theorem zl8 {I:Qu}{ps l:List Pt}{xs:List Sg}{r1 r2 r3:Nat}{av:Option Addr}{n c:Nat}(hx:StQ I ps l xs r1 r2 r3 av n c)(hok:∀ p∈l,zpE p)(s:Int):Zx Tryz.prog 143 [stA r1 r2 r3 av n c,.int .i64 s] I (.bool (exB (onF ps) l s)):=by
 intro g H w hw
 refine qe Tryz.func143 Tryz.ntmps143 hw ?_
 have hIc:=zyv I
 obtain ⟨mr,hmr,hrem⟩:=hx.rem
 obtain ⟨av3,c3,hv3,hS3⟩:=hrem s
 refine zR ?_
 refine Q5 rfl rfl rfl (fun b_2=>?_)
 refine zA ?_
 refine zN (zR ?_)
 refine zF UE ?_
 refine zL zfc ?_
 refine zM ?_
 refine zV (Yx (m:=mr) (ek:=Value.int .i64) (a:=s) hv3 YS ZD rfl rfl (fun _=>.inl hmr)) ?_
 refine zQ Qy ?_
 refine zC ?_
 refine zM ?_
 refine Q0 6 rfl rfl rfl ?_
 refine zJ (Qp rfl Y8 (fun hg=>by exact Cells.g0) rfl) ?_
 refine zJ (Qi rfl) ?_
 refine zgX (cap:=[]) (vs:=[_,_]) rfl rfl zrM (fun hg=>zi7 hx s) ⟨_,rfl,none,0,rfl⟩ (.some rfl rfl rfl rfl gbf) rfl rfl ?_
 rintro vv I9 L9 hI9 ⟨rfl,a9,c9,rfl⟩
 have hIc:=hIc.trans hI9
 refine zJ (ZH rfl Qy) ?_
 refine zJ (QJ rfl rfl rfl) ?_
 refine ZA rfl rfl rfl rfl rfl ?_
 refine zA (zN (Qs ?_))
 exact zp hIc rfl rfl (by rw [←zwJ hok])
end
section
open Go Go.Kn Go.Proofs
theorem zrc {I:Qu}{b1 b2 r1 r2 r3:Nat}{av:Option Addr}{n c:Nat}{p:Pt}{ps:List Pt}(h1:I b1=some (.cells #[.map (some r1),.map (some r2),.map (some r3),.slice av n c] 159 (0,0)))(h2:I b2=some (.cells (Yw p).toArray 57 (0,0)))(hOn:OnM I r1 ps)(q:Pt)(hid:∃ z∈ps,z.id=q.id):Zx Tryz.prog 195 [Wy q,.pointer (some ⟨b1,0,none⟩),.pointer (some ⟨b2,0,none⟩)] I (.bool (onF ps q.id p.id)):=by
 intro g H w hw
 refine qe Tryz.func195 Tryz.ntmps195 hw ?_
 obtain ⟨m,hm1,hm2⟩:=hOn
 obtain ⟨ref,hget,sn,hsn,hsq⟩:=hm2.get hid
 refine zR ?_
 refine Q5 rfl rfl rfl (fun b_3=>?_)
 refine zA ?_
 refine zN (zR ?_)
 refine zF zct ?_
 refine zV (Qd rfl zh2 (fun hg=>by exact .imm h1 rfl)) ?_
 refine zF Zu ?_
 refine zL Qt ?_
 refine zV (YD (m:=m) (ek:=Value.int .i64) (ev:=zca) (a:=q.id) hget KE ZD rfl rfl (fun _=>.inl hm1)) ?_
 refine zF Zu ?_
 refine zV (Qd rfl Qt (fun hg=>by exact .imm h2 rfl)) ?_
 refine zV (ZY (m:=sn) Vn ZD rfl rfl (fun _=>.inl hsn)) ?_
 refine zA (zN (Qs ?_))
 exact zr rfl rfl (by rw [show (ZC sn p.id).getD false=onF ps q.id p.id from hsq.mem _])
def zx7 (I:Qu)(r1 r2 r3:Nat)(av:Option Addr)(n c:Nat)(s f:Int)(b1 b2 b3:Nat):Prop:=I b1=some (.cells #[.map (some r1),.map (some r2),.map (some r3),.slice av n c] 159 (0,0))∧I b2=some (.cells #[.int .i64 s] 3 (0,0))∧I b3=some (.cells #[.int .i64 f] 3 (0,0))
theorem zkp (I:Qu)(r1 r2 r3:Nat)(av:Option Addr)(n c:Nat)(s f:Int):Yc Tryz.prog 144 [stA r1 r2 r3 av n c,.int .i64 s,.int .i64 f] I [] (fun v I' L=>L=[]∧∃ b1 b2 b3,v= .func (.func 194) #[] [Za b1,Za b2,Za b3].toArray∧zx7 I' r1 r2 r3 av n c s f b1 b2 b3):=by
 intro g H w hw
 refine qe Tryz.func144 Tryz.ntmps144 hw ?_
 have hIc:=zyv I
 refine zR ?_
 refine Q5 rfl rfl rfl (fun b_3=>?_)
 refine Q5 rfl rfl rfl (fun b_4=>?_)
 refine Q5 rfl rfl rfl (fun b_5=>?_)
 refine zA (zN (Ql ?_))
 refine Ze .here (fun I1 hI1 hb1=>?_)
 have hIc:=hIc.trans hI1
 have h3:=hb1
 refine Ze .here (fun I2 hI2 hb2=>?_)
 have hIc:=hIc.trans hI2
 have h2:=hb2
 have h3:=hI2 _ _ h3
 refine Ze .here (fun I3 hI3 hb3=>?_)
 have hIc:=hIc.trans hI3
 have h1:=hb3
 have h3:=hI3 _ _ h3;have h2:=hI3 _ _ h2
 refine Qg ?_
 refine zV (Zb (us:=[]) (vs:=[_,_,_]) rfl rfl) ?_
 refine zA (zN (Qs ?_))
 exact Zt rfl rfl (fun w hw=>⟨_,I3,[],rfl,hIc,hw.drop,rfl,b_3,b_4,b_5,rfl,h1,h2,h3⟩)
theorem zqN {I : Qu} {ps l : List Pt} {xs : List Sg} {r1 r2 r3 : Nat} {av : Option Addr} {n c : Nat} (hx : StQ I ps l xs r1 r2 r3 av n c) {s f : Int} {b1 b2 b3 : Nat} (hcap : zx7 I r1 r2 r3 av n c s f b1 b2 b3) : zyg Tryz.prog 194 [Za b1, Za b2, Za b3] I Wy (XM (onF ps) l s f) := by
  rw [zuS]
  intro g y J Jx hY I0 H w h0 hJ hw
  obtain ⟨h1, h2, h3⟩ := hcap
  have hx := hx.mono h0
  have h1 := h0 _ _ h1; have h2 := h0 _ _ h2; have h3 := h0 _ _ h3
  refine qe Tryz.func194 Tryz.ntmps194 hw ?_
  obtain ⟨ms, hms, hset⟩ := hx.set
  obtain ⟨av2, c2, hv2, hS2⟩ := hset (s, f)
  dsimp only at hv2 hS2
  have hln := Nat.le_trans (Wo (l := l) (s := s) (f := f)) hx.fewl
  refine zR ?_
  refine zF Xx ?_
  refine zV (Qd rfl zen (fun hg => by exact QV.imm h1 rfl)) ?_
  refine zV (Qd rfl Qt (fun hg => by exact QV.imm h2 rfl)) ?_
  refine zV (Qd rfl Qt (fun hg => by exact QV.imm h3 rfl)) ?_
  refine zV (Zw (ps := [(0, _), (1, _)]) [_, _] YN KI rfl rfl) ?_
  refine zV (Yx (m := ms) (ek := YC) (a := (s, f)) hv2 zej zcd rfl rfl (fun _ => .inl hms)) ?_
  refine zA ?_
  refine zN (zR ?_)
  refine zM ?_
  refine zQ Zy ?_
  refine zM (zN (Qm ?_))
  refine zdw (fun m E I' H' loc' => ∃ (k : Nat), m = (stF l s f).length - k ∧ E = [(0, .func (.yield y) #[] #[]), (1, Za b1), (5, .slice av2 (stF l s f).length c2), (14, .slice av2 (stF l s f).length c2), (15, .int .i64 (stF l s f).length), (16, .int .i64 k)] ∧ loc' = [] ∧ HLe I0 I' ∧ k ≤ (stF l s f).length ∧ J (((stF l s f).take k).filter (zcB (onF ps) (stF l s f))) I' H') _ _ _ ⟨0, rfl, rfl, rfl, zyv _, Nat.zero_le _, hJ⟩ (.cons rfl (.cons rfl (.cons rfl (.cons rfl (.cons rfl (.cons rfl .nil)))))) rfl ?_
  rintro m E I' H' loc' ⟨k, rfl, rfl, rfl, hI1, hk, hJk⟩
  have hS2 := hS2.mono hI1
  have hx := hx.mono hI1
  have h1 := hI1 _ _ h1
  have hI0 := h0.trans hI1
  refine zR (zC (zN (Ql ?_)))
  refine zI ?_ ?_ <;> intro hc17
  · skip
    have hlt : k < (stF l s f).length := by simpa using hc17
    obtain ⟨p, hp⟩ := hS2.at hlt
    refine Qo (Qa (Ql (Qm (zR ?_))))
    refine zV (QE rfl rfl Zy (by assumption) (fun hg => by omega)) ?_
    refine zV (Qp rfl Yr (fun hg => by exact zyw hS2 hp) rfl) ?_
    refine Qr K5 rfl rfl (fun b_7 => ?_)
    refine zh VM ?_
    refine zN (Ql ?_)
    have hpc : ∀ {b : Bool} {G : Env}, ZX [(b, G)] = true → b = zcB (onF ps) (stF l s f) p → zcB (onF ps) (stF l s f) p = true := fun h e => by rw [← e]; simpa [ZX] using h
    refine Qg (zM ?_)
    refine zV (Zb (us := []) (vs := [_, _]) rfl rfl) ?_
    refine UH (cap := []) (vs := [_, _]) rfl rfl zia QD (zkn.ofV fun I' hI' hL' => zsy (cap := [.pointer (some ⟨b1, 0, none⟩), .pointer (some ⟨b_7, 0, none⟩)]) (SlP.mono ⟨hS2, fun p hp => hx.nd p (hx.sub p (zac.1 hp).1)⟩ hI') (by omega) zpz (fun q hq => zrc (b1 := b1) (b2 := b_7) (r1 := r1) (r2 := r2) (r3 := r3) (av := av) (n := n) (c := c) (p := p) (hI' _ _ h1) (hL' b_7 _ (by simp)) (hx.on.mono hI') q ⟨q, hx.sub q (zac.1 hq).1, rfl⟩)) rfl rfl ?_
    refine zO ?_
    refine zM ?_
    refine QG 4 rfl rfl rfl ?_
    refine zK (Qi rfl) ?_
    refine zK (Qp rfl Yr (fun hg => by exact Cells.g0) rfl) ?_
    refine zcz (vs := [_]) (Post := fun b I2 H2 => if b then J (((stF l s f).take k).filter (zcB (onF ps) (stF l s f)) ++ [p]) I2 H2 else Jx (((stF l s f).take k).filter (zcB (onF ps) (stF l s f)) ++ [p]) I2 H2) rfl rfl (.some rfl rfl rfl rfl gbt) rfl rfl (fun hcj => hY _ p _ _ (zht hp (hpc hcj rfl)) hI0 hJk) ?_
    rintro b I2 H2 hI2 hyes hno
    refine zK (Vd rfl) ?_
    refine QO rfl rfl rfl rfl rfl ?_
    refine zN ?_
    refine zI ?_ ?_ <;> intro hc29
    · skip
      refine Qs (Qn (Qc (Qc (Qn ?_))))
      first
      | (exact YJ rfl (fun w hw => ⟨_, I2, H2, rfl, hI1.trans hI2, hw.drop, .inr ⟨_, zht hp (show zcB (onF ps) (stF l s f) p = true from ((Bool.and_eq_true _ _).mp (show (zcB (onF ps) (stF l s f) p && !b) = true from hc29)).1), by have hc : (zcB (onF ps) (stF l s f) p && !b) = true := hc29; rw [Bool.and_eq_true, Bool.not_eq_true'] at hc; have h9 := hyes (show ZX [(zcB (onF ps) (stF l s f) p, _)] = true from by rw [hc.1]; rfl); rw [hc.2] at h9; exact h9⟩⟩))
    · skip
      refine Qo (Qh (Qa (Qg (zB ?_))))
      refine zM (Qb ?_)
      have hyes := fun (e : zcB (onF ps) (stF l s f) p = true) => hyes (show ZX [(zcB (onF ps) (stF l s f) p, _)] = true from by rw [e]; rfl)
      have hno := fun (e : zcB (onF ps) (stF l s f) p = false) => hno (show ZX [(zcB (onF ps) (stF l s f) p, _)] = false from by rw [e]; rfl)
      have hc : (zcB (onF ps) (stF l s f) p && !b) = false := hc29
      have hJ2 : J (((stF l s f).take (k + 1)).filter (zcB (onF ps) (stF l s f))) I2 H2 := by
        cases hA : zcB (onF ps) (stF l s f) p with
        | true => rw [Wc hp hA]; rw [hA] at hc; have hb : b = true := by simpa using hc
                  subst hb; exact hyes hA
        | false => rw [zaA hp hA]; obtain ⟨e1, e2⟩ := hno hA; rw [e1, e2]; exact hJk
      exact Xm rfl rfl rfl _ [] ⟨(stF l s f).length - (k + 1), by omega, k + 1, rfl, rfl, rfl, hI1.trans hI2, by omega, hJ2⟩ (.cons rfl (.cons rfl (.cons rfl (.cons rfl (.cons rfl (.cons rfl .nil)))))) (.drop .refl)
  · skip
    have hge : (stF l s f).length ≤ k := by simpa using hc17
    refine QH (Qe (Qe (Qk ?_)))
    first
    | (exact Vp (YJ rfl (fun w hw => ⟨_, I', H', rfl, hI1, hw, .inl (by rw [ZF rfl hge] at hJk; exact hJk)⟩)))
end
section
open Go Go.Kn Go.Proofs
theorem zao {α:Type}{C:Cx}{E:Env}{I:Qu}{loc loc':Go.Kn.Loc}{Jc:List α→Qu→Go.Kn.Loc→Prop}{Jx:Code→List α→Qu→Go.Kn.Loc→Prop}{pre:List α}{id:Nat}(h:Jx (.exit id) pre I loc')(hs:Kr loc' loc):At C (zaN C.g C.H Jc Jx pre) (.exit id) E I loc:=fun _ _ _ hw=>⟨I,loc',h,hw.subL hs⟩
theorem zxF (I:Qu)(b:Nat)(x:Sg)(f:Int)(y:Sg)(hf:isF f):Yc Tryz.prog 145 [Za b,.int .i64 f,JT y] I [(b,.cells (YZ x).toArray 54 (0,0))] (fun v I' L=>v= .tuple #[]∧I'=I∧L=[(b,.cells (YZ (JC x f y)).toArray 54 (0,0))]):=by
 intro g H w hw
 refine qe Tryz.func145 Tryz.ntmps145 hw ?_
 refine zR ?_
 refine Q5 rfl rfl rfl (fun b_5=>?_)
 refine zN (zR ?_)
 refine zM (zN (Qm (zR ?_)))
 refine zC ?_
 refine zA (zN ?_)
 refine zI ?_ ?_<;>intro hc7
 ·
  have hfk:f=1:=by simpa using hc7
  subst hfk
  refine Qg (zM ?_)
  refine zF JX ?_
  refine zL Qt ?_
  refine zV (QZ rfl) ?_
  refine zF JX ?_
  refine zS Yf ?_
  refine Qb (Qh ?_)
  exact Vp (YJ rfl (fun w hw=>⟨_,I,_,rfl,zyv _,hw.subL (.drop .refl),rfl,rfl,rfl⟩))
 have hg1:f≠1:=by simpa using hc7
 refine zR (zC ?_)
 refine zA (zN ?_)
 refine zI ?_ ?_<;>intro hc14
 ·
  have hfk:f=2:=by simpa using hc14
  subst hfk
  refine Qg (zM ?_)
  refine zF Kf ?_
  refine zL Qt ?_
  refine zV (QZ rfl) ?_
  refine zF Kf ?_
  refine zS Yf ?_
  refine Qb (Qh ?_)
  exact Vp (YJ rfl (fun w hw=>⟨_,I,_,rfl,zyv _,hw.subL (.drop .refl),rfl,rfl,rfl⟩))
 have hg2:f≠2:=by simpa using hc14
 refine zR (zC ?_)
 refine zA (zN ?_)
 refine zI ?_ ?_<;>intro hc21
 ·
  have hfk:f=3:=by simpa using hc21
  subst hfk
  refine Qg (zM ?_)
  refine zF Jw ?_
  refine zL Qt ?_
  refine zV (QZ rfl) ?_
  refine zF Jw ?_
  refine zS Yf ?_
  refine Qb (Qh ?_)
  exact Vp (YJ rfl (fun w hw=>⟨_,I,_,rfl,zyv _,hw.subL (.drop .refl),rfl,rfl,rfl⟩))
 have hg3:f≠3:=by simpa using hc21
 refine zR (zC ?_)
 refine zA (zN ?_)
 refine zI ?_ ?_<;>intro hc28
 ·
  have hfk:f=4:=by simpa using hc28
  subst hfk
  refine Qg (zM ?_)
  refine zF JZ ?_
  refine zL Qt ?_
  refine zV (QZ rfl) ?_
  refine zF JZ ?_
  refine zS Yf ?_
  refine Qb (Qh ?_)
  exact Vp (YJ rfl (fun w hw=>⟨_,I,_,rfl,zyv _,hw.subL (.drop .refl),rfl,rfl,rfl⟩))
 have hg4:f≠4:=by simpa using hc28
 refine zR (zC ?_)
 refine zA (zN ?_)
 refine zI ?_ ?_<;>intro hc35
 ·
  have hfk:f=5:=by simpa using hc35
  subst hfk
  refine Qg (zM ?_)
  refine zF JY ?_
  refine zL Qt ?_
  refine zV (QZ rfl) ?_
  refine zF JY ?_
  refine zS Yf ?_
  refine Qb (Qh ?_)
  exact Vp (YJ rfl (fun w hw=>⟨_,I,_,rfl,zyv _,hw.subL (.drop .refl),rfl,rfl,rfl⟩))
 have hg5:f≠5:=by simpa using hc35
 refine zR (zC ?_)
 refine zA (zN ?_)
 refine zI ?_ ?_<;>intro hc42
 ·
  have hfk:f=6:=by simpa using hc42
  subst hfk
  refine Qg (zM ?_)
  refine zF JV ?_
  refine zL Qt ?_
  refine zV (QZ rfl) ?_
  refine zF JV ?_
  refine zS Yf ?_
  refine Qb (Qh ?_)
  exact Vp (YJ rfl (fun w hw=>⟨_,I,_,rfl,zyv _,hw.subL (.drop .refl),rfl,rfl,rfl⟩))
 have hg6:f≠6:=by simpa using hc42
 refine zR (zC ?_)
 refine zA (zN ?_)
 refine zI ?_ ?_<;>intro hc49
 ·
  have hfk:f=7:=by simpa using hc49
  subst hfk
  refine Qg (zM ?_)
  refine zF JR ?_
  refine zL Qt ?_
  refine zV (QZ rfl) ?_
  refine zF JR ?_
  refine zS Yf ?_
  refine Qb (Qh ?_)
  exact Vp (YJ rfl (fun w hw=>⟨_,I,_,rfl,zyv _,hw.subL (.drop .refl),rfl,rfl,rfl⟩))
 have hg7:f≠7:=by simpa using hc49
 refine zR (zC ?_)
 refine zA (zN ?_)
 refine zI ?_ ?_<;>intro hc56
 ·
  have hfk:f=8:=by simpa using hc56
  subst hfk
  refine Qg (zM ?_)
  refine zF JP ?_
  refine zL Qt ?_
  refine zV (QZ rfl) ?_
  refine zF JP ?_
  refine zS Yf ?_
  refine Qb (Qh ?_)
  exact Vp (YJ rfl (fun w hw=>⟨_,I,_,rfl,zyv _,hw.subL (.drop .refl),rfl,rfl,rfl⟩))
 have hg8:f≠8:=by simpa using hc56
 refine zR (zC ?_)
 refine zA (zN ?_)
 refine zI ?_ ?_<;>intro hc63
 ·
  have hfk:f=9:=by simpa using hc63
  subst hfk
  have hD:=zyv I
  refine Jn ?_
  refine Z8 I [(b_5,.cells (JT y).cells 54 (0,0))] mixed ?_
  refine zT 0 rfl (Qi rfl) hD ?_
  refine zT 1 rfl (Qi rfl) hD ?_
  refine zT 2 rfl (Qf rfl Vy) hD ?_
  refine zT 3 rfl (Qp rfl Vl (fun hg=>by exact Cells.s0 (vs:=[_,_]) rfl) rfl) hD ?_
  refine zT 4 rfl (Qf rfl VD) hD ?_
  refine zT 5 rfl (Qp rfl Vl (fun hg=>by exact Cells.s0 (vs:=[_,_]) rfl) rfl) hD ?_
  refine zT 6 rfl (QZ rfl) hD ?_
  refine zT 7 rfl (Qf rfl Vy) hD ?_
  refine qd 8 rfl ?_
  refine Jh rfl rfl zaD rfl rfl rfl rfl (by repeat (first | exact Upd.here | apply Upd.there | apply QI)) ?_
  refine Qb ?_
  refine zD hD ?_
  refine zT 9 rfl (QZ rfl) hD ?_
  refine zT 10 rfl (Qf rfl VD) hD ?_
  refine qd 11 rfl ?_
  refine Jh rfl rfl zaD rfl rfl rfl rfl (by repeat (first | exact Upd.here | apply Upd.there | apply QI)) ?_
  refine Qb ?_
  refine zD hD ?_
  refine QF (by kernel_rfl) ?_
  refine QQ ?_
  refine Qh ?_
  exact Vp (YJ rfl (fun w hw=>⟨_,I,_,rfl,zyv _,hw.subL (.drop .refl),rfl,rfl,rfl⟩))
 have hg9:f≠9:=by simpa using hc63
 refine Qo (Qh ?_)
 first
 | (exfalso;unfold isF at hf;omega)
end
section
open Go Go.Kn Go.Proofs
def exL (on:Int→Int→Bool)(l:List Pt)(xs:List Sg):List Sg:=(xs.filter fun x=>exB on l x.id).map (zdf on l)
theorem ztm {on:Int→Int→Bool}{l:List Pt}{xs:List Sg}{k:Nat}{x:Sg}(hx:xs[k]? =some x)(h:exB on l x.id=true):exL on l (xs.take (k+1))=exL on l (xs.take k)++[zdf on l x]:=by
 unfold exL
 rw [Z2 hx,List.filter_append,List.filter_cons,if_pos h];simp
theorem zxR {on:Int→Int→Bool}{l:List Pt}{xs:List Sg}{k:Nat}{x:Sg}(hx:xs[k]? =some x)(h:exB on l x.id=false):exL on l (xs.take (k+1))=exL on l (xs.take k):=by
 unfold exL
 rw [Z2 hx,List.filter_append,List.filter_cons,if_neg (by rw [h];exact Bool.false_ne_true)];simp
theorem zqK {on:Int→Int→Bool}{l:List Pt}{xs:List Sg}:exL on l (xs.take 0)=[]:=by unfold exL;simp
def exE (on:Int→Int→Bool)(l:List Pt)(xs:List Sg):Int:=if (exL on l xs).length>4096 then 2 else 0
def zkm (e:Int)(xs:List Sg):Value→Qu→Go.Kn.Loc→Prop:=fun v I' L=>L=[]∧∃ av c,v= .tuple #[.slice av xs.length c,.int .i64 e]∧Sl I' 14 YZ av xs.length c xs
theorem zkm.empty {e:Int}{xs:List Sg}{I:Qu}(h:xs=[]):zkm e xs (.tuple #[.slice none 0 0,.int .i64 e]) I []:=by
 subst h
 exact ⟨rfl,none,0,rfl,.nil⟩
theorem zkm.good {e e':Int}{xs ys:List Sg}{I:Qu}{av:Option Addr}{n c:Nat}(h:e=e')(hx:ys=xs)(hS:Sl I 14 YZ av n c ys):zkm e' xs (.tuple #[.slice av n c,.int .i64 e]) I []:=by
 subst h;subst hx
 have hn:=hS.len
 subst hn
 exact ⟨rfl,av,c,rfl,hS⟩
theorem zlF {x:Sg}{f:Int}{l:List Pt}(h:l=[]):zoa x f l=x:=by subst h;rfl
theorem zku {x:Sg}{f:Int}{l:List Pt}{p:Pt}(h:[p]<+:l):zoa x f l=JC x f p.nw:=by
 obtain ⟨t,rfl⟩:=h;rfl
theorem zfV {on:Int→Int→Bool}{l:List Pt}{x y:Sg}{k:Nat}(hy:y=zdV on l x k):zoa y ((k:Int)+1) (XM on l y.id ((k:Int)+1))=zdV on l x (k+1):=by
 subst hy
 rw [XC,(za3 k).1]
theorem zwT {k:Nat}(h:k<9):isF ((k:Int)+1):=by unfold isF;omega
theorem zhH {on:Int→Int→Bool}{l:List Pt}{x:Sg}:x=zdV on l x 0:=rfl
theorem zrO {ps:List Pt}{bs:List Sg}{ws:List Int}(h:XA ps bs ws≠0):zc7 ps bs ws=XA ps bs ws:=by unfold zc7;rw [if_pos h]
theorem zn7 {ps:List Pt}{bs:List Sg}{ws:List Int}(h:XA ps bs ws=0):zc7 ps bs ws=exE (onF ps) (Yh ps ws) (Uj bs (Yh ps ws)):=by unfold zc7;rw [if_neg (by omega)];rfl
theorem zhB {ps:List Pt}{bs:List Sg}{ws:List Int}(h:XA ps bs ws=0):JB ps=0:=by
 by_cases h2:JB ps=0
 ·
  exact h2
 ·
  rw [zqv h2] at h;exact h
theorem zwU {ps:List Pt}{bs:List Sg}{ws:List Int}(h:XA ps bs ws=0):Wz bs=0:=by
 by_cases h2:Wz bs=0
 ·
  exact h2
 ·
  rw [zqe (zhB h) h2] at h;exact h
theorem zvu {ps:List Pt}{bs:List Sg}{ws:List Int}(h:XA ps bs ws=0):∀ p∈Yh ps ws,zpE p:=fun p hp=>(zbI (zhB h)).ok p (Y2.1 hp).1
theorem zlC (bs:List Sg)(l:List Pt):(Uj bs l).length≤bs.length+l.length:=by
 have h:=(za0 l bs).length_eq
 rw [h,List.length_append]
 unfold zbE
 rw [List.length_map]
 have:=List.length_filter_le (fun p:Pt=>p.kind==2) l
 omega
end
section
open Go Go.Kn Go.Proofs
theorem ziI {I:Qu}{ps l:List Pt}{xs:List Sg}{r1 r2 r3:Nat}{av:Option Addr}{n c:Nat}(hx:StQ I ps l xs r1 r2 r3 av n c)(hn:n≤100000)(hok:∀ p∈l,zpE p):Yc Tryz.prog 84 [stA r1 r2 r3 av n c] I [] (zkm (exE (onF ps) l xs) (zgD (exE (onF ps) l xs) (exL (onF ps) l xs))):=by
 intro g H w hw
 refine zeq Tryz.func84 rfl Tryz.ntmps84 rfl hw ?_
 have hIc:=zyv I
 refine zR ?_
 refine Q5 rfl rfl rfl (fun b_1=>?_)
 refine zA ?_
 refine zA (zN (Ql (Ql ?_)))
 refine Xk ((b_1,.cells #[.map (some r1),.map (some r2),.map (some r3),.slice av n c] 159 (0,0))::([]++MB _)) .refl ?_
 refine Qg ?_
 refine zF UD ?_
 refine zL zci ?_
 refine zQ YW ?_
 refine zM (zN (Qm ?_))
 refine Ug [(1,_),(9,_),(10,_)] (.cons rfl (.cons rfl (.cons rfl .nil))) (fun T L0 mz ms E I' loc'=>∃ (j:Nat) (v:Value) (q:Nat) (L:Go.Kn.Loc),mz=n-j∧E=(2,v)::(11,.int .i64 j)::T∧HLe I I'∧(b_1,.cells #[.map (some r1),.map (some r2),.map (some r3),.slice av n c] 159 (0,0))::(L++MB ms)=loc'∧j≤n∧OwnS 54 14 v q ((exL (onF ps) l (xs.take j)).flatMap YZ) L∧q≤j) _ _ _ _ ⟨0,_,0,[],rfl,rfl,zyv _,rfl,Nat.zero_le _,by rw [zqK];exact OwnS.nil,Nat.le_refl _⟩ (.cons rfl (.cons rfl (.cons rfl (.cons rfl (.cons rfl .nil))))) (zyv _) rfl ?_
 rintro mz ms E J1 loc' ⟨j,v,q,L,rfl,rfl,hJ,rfl,hj,hO,hq⟩
 have hx:=hx.mono hJ;have hIc:=hIc.trans hJ
 have hB0:=hJ
 refine zR (zC (zN (Ql ?_)))
 refine zI ?_ ?_<;>intro hc12
 ·
  have hlt_j:j<n:=by have h:=hc12;simp at h;omega
  have hS:=hx.sg
  obtain ⟨x,hxx⟩:=hS.at hlt_j
  refine Qo (Qa (Ql (Qm (zR ?_))))
  refine zV (QE rfl rfl YW (by assumption) (fun hg=>by omega)) ?_
  refine zV (Qp rfl ZK (fun hg=>by exact zyw hS hxx) rfl) ?_
  refine Qr WW rfl rfl (fun b_5=>?_)
  refine zh VG ?_
  refine zN (Ql (zR ?_))
  refine zV (Qp rfl Y8 (fun hg=>by exact Cells.g1) rfl) ?_
  refine zF ZO ?_
  refine zL Qt ?_
  refine qc (vs:=[_,_]) rfl zqn (zl8 hx hok _) ?_
  refine zO (zN ?_)
  refine zI ?_ ?_<;>intro hc19
  ·
   have hex:=(Bool.not_eq_true' _).mp hc19
   refine QH (Qe (Qk (Qa (Qg (zB ?_)))))
   refine zM (Qb ?_)
   first
   | exact zd (h:=⟨n-(j+1),by omega,j+1,_,_,_,rfl,rfl,hB0,rfl,by omega,by rw [zxR hxx hex];exact hO,by omega⟩)
  have hex:=(Bool.not_eq_false' _).mp hc19
  refine Qo (Qa (Ql (zR ?_)))
  refine Qr zuB rfl rfl (fun b_6=>?_)
  refine zS Yf ?_
  refine zN (Qm ?_)
  refine Ug [(1,_),(2,_),(5,_),(9,_),(10,_),(11,_)] (.cons rfl (.cons rfl (.cons rfl (.cons rfl (.cons rfl (.cons rfl .nil)))))) (fun T L0 mz ms E I' loc'=>∃ (k:Nat) (b6:Nat) (y:Sg),mz=9-k∧E=(6,Za b6)::T∧HLe J1 I'∧(b6,.cells #[.int .i64 ((k:Int)+1)] 3 (0,0))::(b_5,.cells (YZ y).toArray 54 (0,0))::(b_1,.cells #[.map (some r1),.map (some r2),.map (some r3),.slice av n c] 159 (0,0))::(L++MB ms)=loc'∧k≤9∧y=zdV (onF ps) l x k) _ _ _ _ ⟨0,b_6,x,rfl,rfl,zyv _,rfl,Nat.zero_le _,zhH⟩ (.cons rfl (.cons rfl (.cons rfl (.cons rfl (.cons rfl (.cons rfl (.cons rfl .nil))))))) (zyv _) rfl ?_
  rintro mz ms E J2 loc' ⟨k,b6,y,rfl,rfl,hJ,rfl,hk,hy⟩
  have hx:=hx.mono hJ;have hB0:=hB0.trans hJ
  have hB2:=hJ
  refine Ql (zR ?_)
  refine zL Qt ?_
  refine zC (zN ?_)
  refine zI ?_ ?_<;>intro hc21
  ·
   have hlt_k:k<9:=by have h:=hc21;simp at h;omega
   refine Qo (Qa (Ql (Qm (zR ?_))))
   refine zV (Qp rfl Y8 (fun hg=>by exact Cells.g2) rfl) ?_
   refine zF ZO ?_
   refine zL Qt ?_
   refine zL Qt ?_
   refine Qx (cap:=[]) (vs:=[_,_,_]) rfl rfl zqb .nil (zkp _ _ _ _ _ _ _ _ _) rfl rfl ?_
   rintro vv3 I3 L3 hI3 ⟨rfl,c1,c2,c3,rfl,hcap⟩
   have hx:=hx.mono hI3;have hB2:=hB2.trans hI3
   refine zN (Qm ?_)
   refine WG (K:=[]) (L:=(b6,.cells #[.int .i64 ((k:Int)+1)] 3 (0,0))::(b_5,.cells (YZ y).toArray 54 (0,0))::(b_1,.cells #[.map (some r1),.map (some r2),.map (some r3),.slice av n c] 159 (0,0))::L) (enc:=Wy) (xs:=XM (onF ps) l y.id ((k:Int)+1)) (fun pre I' loc'=>pre=[]∧loc'=(b6,.cells #[.int .i64 ((k:Int)+1)] 3 (0,0))::(b_5,.cells (YZ y).toArray 54 (0,0))::(b_1,.cells #[.map (some r1),.map (some r2),.map (some r3),.slice av n c] 159 (0,0))::L) (fun cd pre I' loc'=>cd= .exit 4∧∃ p,pre=[p]∧loc'=(b_5,.cells (YZ (JC y ((k:Int)+1) p.nw)).toArray 54 (0,0))::(b6,.cells #[.int .i64 ((k:Int)+1)] 3 (0,0))::(b_1,.cells #[.map (some r1),.map (some r2),.map (some r3),.slice av n c] 159 (0,0))::L) (fun pre p E2 I2 loc2=>∃ b7:Nat,E2=[(5,Za b_5),(6,Za b6),(7,Za b7)]∧pre=[]∧loc2=(b7,.cells (Yw p).toArray 57 (0,0))::(b6,.cells #[.int .i64 ((k:Int)+1)] 3 (0,0))::(b_5,.cells (YZ y).toArray 54 (0,0))::(b_1,.cells #[.map (some r1),.map (some r2),.map (some r3),.slice av n c] 159 (0,0))::L) rfl zpA (zqN hx hcap) rfl ⟨rfl,rfl⟩ ?_ ?_ ?_ ?_
   ·
    rintro l9 pre p I1 loc1 H1 hpre hI1 ⟨rfl,rfl⟩
    refine Qg ?_
    refine Qr K5 rfl rfl (fun b_7=>?_)
    refine zh VM ?_
    refine Qb ?_
    exact zbU _ ⟨zyv _,b_7,rfl,rfl,rfl⟩ (.cons rfl (.cons rfl (.cons rfl .nil)))
   ·
    rintro l9 pre p E2 I2 loc2 H2 hpre hI2 ⟨b7,rfl,rfl,rfl⟩
    refine Qm (zR ?_)
    refine zL Qt ?_
    refine zF VX ?_
    refine zV (Qp rfl ZK (fun hg=>by exact Cells.s0 (vs:=[_,_,_,_,_,_,_,_,_,_,_,_,_,_]) rfl) rfl) ?_
    refine Qx (cap:=[]) (vs:=[_,_,_]) rfl rfl zoA (by repeat (first | exact .cons .here .nil | exact QD | exact Qw | apply QC | apply QA)) (zxF _ b_5 y _ p.nw (zwT hlt_k)) rfl rfl ?_
    rintro vv4 I4 L4 hI4 ⟨rfl,rfl,rfl⟩
    refine zN (QH ?_)
    refine zbT rfl ?_
    exact zao ⟨zyv _,rfl,p,rfl,rfl⟩ (by repeat (first | exact .refl | refine .keep ?_ | refine .drop ?_))
   ·
    rintro bd I1 loc1 hI1 ⟨hnil,rfl⟩
    have hB2:=hB2.trans hI1
    have hy2:y=zdV (onF ps) l x (k+1):=by rw [←zfV hy,zlF hnil]
    refine Qh (Qh (Qa (Ql (zR ?_))))
    refine zL Qt ?_
    refine zN (Qg ?_)
    refine Qr zuB rfl rfl (fun b_6=>?_)
    refine zS Yf ?_
    refine zN (Qg ?_)
    refine zL Qt ?_
    refine zB ?_
    refine zS Yf ?_
    refine Qb ?_
    exact zn (h:=⟨9-(k+1),by omega,k+1,_,_,rfl,rfl,hB2,rfl,by omega,hy2⟩)
   rintro cd bd pre I1 loc1 hI1 hpre ⟨rfl,p,rfl,rfl⟩
   have hB2:=hB2.trans hI1
   have hy2:(JC y ((k:Int)+1) p.nw)=zdV (onF ps) l x (k+1):=by rw [←zfV hy,zku hpre]
   refine QH (Qk (Qh (Qa (Ql (zR ?_)))))
   refine zL Qt ?_
   refine zN (Qg ?_)
   refine Qr zuB rfl rfl (fun b_6=>?_)
   refine zS Yf ?_
   refine zN (Qg ?_)
   refine zL Qt ?_
   refine zB ?_
   refine zS Yf ?_
   refine Qb ?_
   exact zn (h:=⟨9-(k+1),by omega,k+1,_,_,rfl,rfl,hB2,rfl,by omega,hy2⟩)
  have hge_k:9≤k:=by have h:=hc21;simp at h;omega
  have hk9:k=9:=by omega
  subst hk9
  have hy:y=zdf (onF ps) l x:=hy
  subst hy
  refine QH (Qe (Qe (Qk (Qa (Qg (zM ?_))))))
  refine zV (Qp rfl ZK (fun hg=>by exact Cells.g1) rfl) ?_
  refine Qq (ps:=[(0,_)]) (m:=[YZ (zdf (onF ps) l x)]) K8 rfl (.cons rfl (.nil)) rfl (by simp [Z5]) (by decide) (by decide) rfl rfl (fun b_37=>?_)
  refine QW (v:=_) (ys:=[zdf (onF ps) l x].flatMap YZ) (L:=L) rfl rfl K8 hO (by repeat (first | exact .cons .here .nil | exact QD | exact Qw | apply QC | apply QA)) ⟨rfl,fun _=>rfl,zyt⟩ (zmF [zdf (onF ps) l x]) (by omega) rfl rfl ?_
  intro v9 L9 hO9 _;rw [←List.flatMap_append] at hO9
  refine zA (Qb (Qh (Qa (Qg ?_))))
  refine zB ?_
  refine zM (Qb ?_)
  first
  | exact zmg rfl rfl rfl _ _ (L9++((b_1,_)::MB _)) ⟨n-(j+1),by omega,j+1,v9,_,L9,rfl,rfl,hB0,rfl,by omega,by rw [ztm hxx hex];exact hO9,by omega⟩ (.cons rfl (.cons rfl (.cons rfl (.cons rfl (.cons rfl .nil))))) List.perm_middle.symm (by repeat (first | exact .refl | exact Zi | refine Yj ?_ | refine .drop ?_ | refine Z6 ?_))
 have hge_j:n≤j:=by have h:=hc12;simp at h;omega
 obtain ⟨va,vc,rfl⟩:=zdh hO
 rw [List.take_of_length_le (by rw [hx.sg.len];exact hge_j)] at hO
 refine QH (Qe (Qe (Qk (Qa (Ql (zR (zM ?_)))))))
 refine zQ YW ?_
 refine zC (zN ?_)
 refine zI ?_ ?_<;>intro hc42
 ·
  have hbig:exE (onF ps) l xs=2:=by unfold exE;rw [if_pos];have h1:=hO.1;rw [ZU Z5] at h1;simp at hc42;omega
  refine zR (zA ?_)
  refine zA (zN (Qs (Qc ?_)))
  first
  | exact K1 (L:=_::L) (fun a ha w hw=>zvg rfl rfl rfl a ha w) (fun w hw=>⟨_,J1,[],rfl,hIc,hw.drop,by rw [hbig];exact zkm.empty rfl⟩)
 have hbig:exE (onF ps) l xs=0:=by unfold exE;rw [if_neg];have h1:=hO.1;rw [ZU Z5] at h1;simp at hc42;omega
 refine Qo (Qa (zR (zM ?_)))
 refine zA ?_
 refine zA (zN (Qs ?_))
 first
 | exact K1 (L:=_::L) (fun a ha w hw=>zvg rfl rfl rfl a ha w) (fun w hw=>by obtain ⟨I9,h91,h92,h93⟩:=OwnS.res hO Z5 (by decide) (hw.subL (.drop .refl));obtain ⟨_,a9,c9,e9,h94⟩:=h93;cases e9;exact ⟨_,I9,[],rfl,hIc.trans h91,h92,by rw [hbig];exact zkm.good rfl rfl h94⟩)
end
section
open Go Go.Kn Go.Proofs
theorem w_Signs {I:Qu}{av:Option Addr}{n c:Nat}{ps:List Pt}(hP:SlP I av n c ps)(hn:n≤100000){bv:Option Addr}{n2 c2:Nat}{bs:List Sg}(hB:Sl I 14 YZ bv n2 c2 bs)(hn2:n2≤100000){dv:Option Addr}{n3 c3:Nat}{ws:List Int}(hV:Sl I 1 QP dv n3 c3 ws)(hn3:n3≤100000):Yc Tryz.prog 45 [.slice av n c,.slice bv n2 c2,.slice dv n3 c3] I [] (zkm (zc7 ps bs ws) (zfR ps bs ws)):=by
 intro g H w hw
 refine qe Tryz.func45 Tryz.ntmps45 hw ?_
 have hIc:=zyv I
 refine zR (zA ?_)
 refine zA ?_
 refine zN (zR ?_)
 refine zM ?_
 refine zM ?_
 refine zM ?_
 refine Qx (cap:=[]) (vs:=[_,_,_]) rfl rfl ztR .nil (ztd hP hn hB hn2 hV hn3) rfl rfl ?_
 rintro vv1 I1 L1 hI1 ⟨rfl,m1,m2,m3,a9,n9,c9,rfl,hst⟩
 have hIc:=hIc.trans hI1
 refine zM ?_
 refine zE ?_
 refine zE ?_
 refine Qr znj rfl rfl (fun b_8=>?_)
 refine zh Uf ?_
 refine zA (zN (Ql (zR ?_)))
 refine zM ?_
 refine zC (zN ?_)
 refine zI ?_ ?_<;>intro hc17
 ·
  have he:XA ps bs ws≠0:=by simpa using hc17
  refine zR (zM ?_)
  refine zA ?_
  refine zA (zN (Qs (Qc ?_)))
  first
  | exact Zo rfl rfl rfl (fun w hw=>⟨_,I1,[],rfl,hIc,hw.drop,by unfold zfR;rw [zrO he];exact zkm.empty (zbD he)⟩)
 have he:XA ps bs ws=0:=by simpa using hc17
 obtain ⟨r1,r2,r3,rfl,rfl,rfl,hx⟩:=hst he
 have hn9:n9≤5000:=by have h1:=hx.sg.len;have h2:=zlC bs (Yh ps ws);have h3:=hx.fewl;have h4:=(zek (zwU he)).1;omega
 refine Qo (Qa (zR ?_))
 refine zV (Qp rfl Y8 (fun hg=>by exact Cells.g0) rfl) ?_
 refine Qx (cap:=[]) (vs:=[_]) rfl rfl zsR .nil (ziI hx (by omega) (zvu he)) rfl rfl ?_
 rintro vv2 I2 L2 hI2 ⟨rfl,av8,c8,rfl,hR⟩
 have hIc:=hIc.trans hI2
 refine zE ?_
 refine zE ?_
 refine zA ?_
 refine zA (zN (Qs ?_))
 first
 | exact Zo rfl rfl rfl (fun w hw=>⟨_,I2,[],rfl,hIc,hw.drop,zkm.good (zn7 he).symm (by unfold zfR;rw [zn7 he];rfl) hR⟩)
end
section
open Go Go.Kn Go.Proofs
def zqp (ps:List Pt)(p:Pt):List Bool:=ps.map fun q=>onF ps p.id q.id
end
section
open Go Go.Kn Go.Proofs
end
end Go.Proofs.YtodakphagkommaaGreatDoor.R
namespace Go.Kn
section
open Go
section
variable {C:Cx} {Q:Exit→Act→World→Prop} {E:Env} {I:Qu} {loc:Loc} {ops:Array Oper} {rest:List Oper} {dst:Option Tmp} {ty:TypeId} {pos:String} {af:Array Edge} {gd:Option (Nat×Bool)} {x:Operand}
theorem zlI {t e n c b off t':Nat}{z:Value}{zc A:List Value}(F:List Value→Loc)(hx:QB [] E x=some (.slice (some ⟨b,off,none⟩) n c))(hT:C.P.underlying t=some (.slice e))(hz:Yn C.P e z)(hzc:z.cells=zc.toArray)(h1:Yq zc=true)
  (hle:off+n*zc.length≤A.length)(hG:gd=none)(hdst:dst=none)(hu:∀ zs:List Value,Upd loc b (.cells A.toArray t' (0,0)) (.cells (A.take off++(zs++A.drop (off+n*zc.length))).toArray t' (0,0)) (F zs))
  (h:∀ zs:List Value,zs.length=n*zc.length→XO C Q ops rest [] E I (F zs)):
  XO C Q ops (⟨dst,.call ⟨.builtin .clear, #[x], #[t]⟩,ty,pos,af,gd⟩::rest) [] E I loc:=
 Yd hG (by intro c e;cases e) fun a w ha hw=>by
  subst hdst
  have hsz:(Builtin.zeroCells z.cells n).toList.length=n*zc.length:=by rw [Array.length_toList,KB,hzc];simp
  have hz1:∀ v∈(Builtin.zeroCells z.cells n).toList,v.oneCell'=true:=by
   intro v hv
   rw [Array.mem_toList_iff] at hv
   unfold Builtin.zeroCells at hv
   rw [hzc] at hv
   simp at hv
   obtain ⟨q,hq,h2⟩:=hv
   have hp:0<zc.length:=Nat.pos_of_ne_zero fun e=>by rw [e] at hq;simp at hq
   rw [List.getElem?_eq_getElem (Nat.mod_lt _ hp)] at h2
   exact V7 h1 v (by rw [←h2];exact List.getElem_mem _)
  have e:A=A.take off++((A.drop off).take (n*zc.length)++A.drop (off+n*zc.length)):=by
   have:(A.drop off).take (n*zc.length)++A.drop (off+n*zc.length)=A.drop off:=by rw [←List.drop_drop];exact List.take_append_drop _ _
   rw [this,List.take_append_drop]
  have hu2:=hu (Builtin.zeroCells z.cells n).toList
  have hu3:Upd loc b (.cells (A.take off++((A.drop off).take (n*zc.length)++A.drop (off+n*zc.length))).toArray t' (0,0)) (.cells (A.take off++((Builtin.zeroCells z.cells n).toList++A.drop (off+n*zc.length))).toArray t' (0,0)) (F (Builtin.zeroCells z.cells n).toList):=by rw [←e];exact hu2
  obtain ⟨w',hr,hs'⟩:=Y1 (P:=C.P) (off:=off) (Builtin.zeroCells z.cells n).toList (A.take off) w loc _ b t' ((A.drop off).take (n*zc.length)) 0 (by rw [List.length_take];omega) (by rw [hsz,List.length_take,List.length_drop];omega) hz1 hw hu3
  have hrun:(Builtin.clear_ #[t] ty #[.slice (some ⟨b,off,none⟩) n c]).run C.P w= .ok (.tuple #[]) w':=by
   have h0:n=0→w'=w:=by
    intro hn;subst hn
    have:(Builtin.zeroCells z.cells 0).toList=[]:=List.length_eq_zero_iff.1 (by rw [hsz];omega)
    rw [this] at hr
    simp [storeCells] at hr
    exact hr.symm
   cases n with
   | zero=>rw [h0 rfl];simp [Builtin.clear_,run_underlying hT,Result.andThen]
   | succ k=>simp [Builtin.clear_,Sem.run_bind,run_underlying hT,Result.andThen,ZZ hz,hr]
  simp only [execOp,resolve,List.map_toArray,List.map_cons,List.map_nil,Qj (S:=[]) ha trivial rfl hx,Sem.run_bind,Sem.run_pure,Result.andThen,invoke,builtin,hrun,Oper.uponIn_value]
  exact h _ hsz _ _ ha trivial hs'
end
end
section
open Go
section
variable {C:Cx} {Q:Exit→Act→World→Prop} {E:Env} {I:Qu} {loc L R:Loc} {ops:Array Oper} {rest:List Oper} {dst:Option Tmp} {d:Nat} {ty:TypeId} {pos:String} {af:Array Edge} {gd:Option (Nat×Bool)}
theorem zgV {P:Program}{a:Act}{w:World}{f:FuncId}{pre cap:List Value}{l:List Operand}{vs:List Value}{tys:Array TypeId}{cal:Operand}
  (he:a.eval cal= .func (.func f) pre.toArray cap.toArray)(hl:l.map a.eval=vs)(hF:Fun P f):
  (execOp a.eval ⟨dst,.call ⟨.value cal,l.toArray,tys⟩,ty,pos,af,gd⟩).run P w= .ok (.enter f (pre++(vs++cap)).toArray) w:=by
 simp only [execOp,resolve,he,List.map_toArray,hl,Deferred.ofValue,Sem.run_bind,Sem.run_pure,Result.andThen,invoke,Vz hF]
 simp
theorem zhI {f:FuncId}{pre cap:List Value}{l:List Operand}{vs:List Value}{tys:Array TypeId}{cal:Operand}{K:Value→Qu→Loc→Prop}
  (he:QB [] E cal=some (.func (.func f) pre.toArray cap.toArray))(hl:l.map (QB [] E)=vs.map some)(hF:Fun C.P f)(hsp:YE loc L R)(hc:Yc C.P f (pre++(vs++cap)) I L K)
  (hG:gd=none)(hN:Nat.blt d C.N=true)(h:∀ v I' L',HLe I I'→K v I' L'→XO C Q ops rest [] ((d,v)::E) I' (L'++R)):
  XO C Q ops (⟨some d,.call ⟨.value cal,l.toArray,tys⟩,ty,pos,af,gd⟩::rest) [] E I loc:=by
 intro a w ha hg hw
 have hG':Zm ops [] E ⟨some d,.call ⟨.value cal,l.toArray,tys⟩,ty,pos,af,gd⟩:=.none hG
 simp only [wpListIn]
 rw [hG'.wanted ha hg]
 simp only [ZX,if_true,Oper.wpIn]
 refine ⟨fun _ _=>trivial,?_⟩
 rw [Oper.semAt_eq _ _ _ (by intro c e;cases e),zgV (Qj ha hg rfl he) (Vu ha hg rfl hl) hF,Oper.uponIn_enter]
 refine ⟨by simp [FR],WC.2 ((hc.frame hsp hw).mono ?_)⟩
 rintro e w' ⟨v,I',L',rfl,hI,hs,hk⟩
 have hp:=Ye ha hg hN rfl v
 exact h v I' L' hI hk _ _ hp.1 hp.2 hs
end
end
end Go.Kn
namespace Go.Proofs.YtodakphagkommaaGreatDoor.R
section
open Go Go.Kn Go.Proofs
structure Tx where
 bv:Option Addr
 n2:Nat
 c2:Nat
 no:Int
 a1:Option Addr
 n1:Nat
 d1:Nat
 a2:Option Addr
 n3:Nat
 d2:Nat
 a3:Option Addr
 n4:Nat
 d3:Nat
 r:Nat
 lv:Option Addr
 ln:Nat
 lc:Nat
 sv:Option Addr
 sn:Nat
 sc:Nat
def Ka (t:Tx):List Value:=[.slice t.bv t.n2 t.c2,.int .i64 t.no,.slice t.a1 t.n1 t.d1,.slice t.a2 t.n3 t.d2,.slice t.a3 t.n4 t.d3,.map (some t.r),.slice t.lv t.ln t.lc,.slice t.sv t.sn t.sc]
structure zgF (I:Qu)(t:Tx)(rows:List (List Int))(es:List Em)(rd:List Int)(ps l:List Pt)(s:List Sg):Prop where
 V:SlN I t.bv t.n2 t.c2 rows
 E:Sl I 3 Yt t.a2 t.n3 t.d2 es
 R:Sl I 1 QP t.a3 t.n4 t.d3 rd
 M:OnM I t.r ps
 L:SlP I t.lv t.ln t.lc l
 S:Sl I 14 YZ t.sv t.sn t.sc s
 b2:t.n2≤100000
 b3:t.n3≤100000
 b4:t.n4≤100000
 bl:t.ln≤100000
 bs:t.sn≤100000
 sub:∀ q∈l,∃ z∈ps,z.id=q.id
theorem zgF.mono {I I':Qu}{t:Tx}{rows:List (List Int)}{es:List Em}{rd:List Int}{ps l:List Pt}{s:List Sg}(h:zgF I t rows es rd ps l s)(hI:HLe I I'):zgF I' t rows es rd ps l s:=
 ⟨h.V.mono hI,h.E.mono hI,h.R.mono hI,h.M.mono hI,h.L.mono hI,h.S.mono hI,h.b2,h.b3,h.b4,h.bl,h.bs,h.sub⟩
def zrX:List Pt→List Int
 | []=>[]
 | p::r=>((p::r).filter fun q=>zak q.nw p.nw).map (·.id)
def zOg:Og:=⟨0,0,[],[]⟩
def zoP (rows:List (List Int))(q:Nat)(c:Int):Int:=if Ua (fun r:List Int=>r.getD q 0==c) rows<0 then Ua (zwe q) rows else Ua (fun r:List Int=>r.getD q 0==c) rows
def or1 (on:Int→Int→Bool)(l:List Pt)(s f:Int):Og×Bool:=(⟨3,0,[],zrX (XM on l s f)⟩,decide (0<(XM on l s f).length))
def inP (s:Int)(q:Pt):Bool:=q.kind==2&&q.sign==s
def or2 (l:List Pt)(s:Int):Og×Bool:=match l.find? (inP s) with
 | some q=>(⟨3,0,[],[q.id]⟩,true)
 | none=>(zOg,false)
def isT (f:Int):Bool:=f==2||f==3||f==9
def or3 (rows:List (List Int))(rd:List Int)(s f:Int):Og×Bool:=if isT f then (⟨1,0,[zoP rows s.toNat (rd.getD s.toNat 0)],[]⟩,true) else (zOg,false)
def or4 (es:List Em)(s:Int):Og×Bool:=(⟨2,2,[],[]⟩,es.any (zx1 s))
def or5 (rows:List (List Int))(rd:List Int)(s:Int):Og×Bool:=(⟨1,0,K3 rows s.toNat (rd.getD s.toNat 0),[]⟩,true)
def orK (on:Int→Int→Bool)(rows:List (List Int))(es:List Em)(rd:List Int)(l:List Pt)(s f:Int)(k:Nat):Og×Bool:=
 if k=0 then or1 on l s f else if k=1 then or2 l s else if k=2 then or3 rows rd s f else if k=3 then or4 es s else or5 rows rd s
def zaB (on:Int→Int→Bool)(rows:List (List Int))(es:List Em)(rd:List Int)(l:List Pt)(s f:Int):Og:=
 if (or1 on l s f).2 then (or1 on l s f).1 else if (or2 l s).2 then (or2 l s).1 else if (or3 rows rd s f).2 then (or3 rows rd s f).1 else if (or4 es s).2 then (or4 es s).1 else (or5 rows rd s).1
theorem zj4 {on:Int→Int→Bool}{rows:List (List Int)}{es:List Em}{rd:List Int}{l:List Pt}{s f:Int}{k:Nat}(hk:k<5)(h:∀ j,j<k→(orK on rows es rd l s f j).2=false)(hy:(orK on rows es rd l s f k).2=true):(orK on rows es rd l s f k).1=zaB on rows es rd l s f:=by
 have e0:0<k→(or1 on l s f).2=false:=h 0
 have e1:1<k→(or2 l s).2=false:=h 1
 have e2:2<k→(or3 rows rd s f).2=false:=h 2
 have e3:3<k→(or4 es s).2=false:=h 3
 unfold zaB
 match k,hk with
 | 0,_=>rw [if_pos (show (or1 on l s f).2=true from hy)];rfl
 | 1,_=>rw [if_neg (by rw [e0 (by decide)];decide),if_pos (show (or2 l s).2=true from hy)];rfl
 | 2,_=>rw [if_neg (by rw [e0 (by decide)];decide),if_neg (by rw [e1 (by decide)];decide),if_pos (show (or3 rows rd s f).2=true from hy)];rfl
 | 3,_=>rw [if_neg (by rw [e0 (by decide)];decide),if_neg (by rw [e1 (by decide)];decide),if_neg (by rw [e2 (by decide)];decide),if_pos (show (or4 es s).2=true from hy)];rfl
 | 4,_=>rw [if_neg (by rw [e0 (by decide)];decide),if_neg (by rw [e1 (by decide)];decide),if_neg (by rw [e2 (by decide)];decide),if_neg (by rw [e3 (by decide)];decide)];rfl
def OgV (I:Qu)(o:Og)(vs:List Value):Prop:=∃ a n c b m d,vs=[.int .i64 o.k,.int .i64 o.r,.slice a n c,.slice b m d]∧Sl I 1 QP a n c o.ws∧Sl I 1 QP b m d o.ps
def FrQ (q:Og×Bool)(v:Value)(I:Qu)(L:Go.Kn.Loc):Prop:=L=[]∧∃ vs,v= .tuple #[.agg vs.toArray,.bool q.2]∧OgV I q.1 vs
theorem zom {I:Qu}{b n t:Nat}{A:List Value}{zs:List Pt}(hA:A.take (n*19)=zs.flatMap Yw){k:Nat}{p:Pt}(hp:zs[k]? =some p){loc:Go.Kn.Loc}:Cells I ((b,.cells A.toArray t (0,0))::loc) b (k*19) (Yw p):=by
 intro j u hu
 have hl:=X7 QY zs k p hp j u hu
 have:A[k*19+j]? =some u:=by
  rw [←hA,List.getElem?_take] at hl
  split at hl
  ·
   exact hl
  ·
   cases hl
 exact .here (by rw [Y3];simpa using this)
theorem zqR {B:List Value}{i n c:Nat}{p:Pt}(hl:B.length=c*19)(hn:n≤c)(hi:i<n):(Vs B (i*19) (Yw p)).length=c*19:=by
 rw [XZ (n:=19) (by omega) (QY p)]
 simp only [List.length_append,List.length_take,List.length_drop,QY];omega
theorem zk5 {B:List Value}{zs:List Pt}{i n c:Nat}{p:Pt}(hB:B.take (n*19)=zs.flatMap Yw)(hl:B.length=c*19)(hn:n≤c)(hz:zs.length=n)(hi:i<n):(Vs B (i*19) (Yw p)).take (n*19)=(zs.set i p).flatMap Yw:=by
 rw [XZ (n:=19) (by omega) (QY p)]
 have hz2:zs.set i p=zs.take i++p::zs.drop (i+1):=by rw [List.set_eq_take_append_cons_drop,if_pos (by omega)]
 have hf:∀ k,k≤n→(zs.take k).flatMap Yw=B.take (k*19):=by
  intro k hk
  have h1:zs.flatMap Yw=(zs.take k).flatMap Yw++(zs.drop k).flatMap Yw:=by rw [←List.flatMap_append,List.take_append_drop]
  have h2:((zs.take k).flatMap Yw).length=k*19:=by rw [ZU QY,List.length_take];congr 1;omega
  have h3:=congrArg (List.take (k*19)) h1
  rw [←hB,List.take_take,Nat.min_eq_left (by omega),List.take_append_of_le_length (by omega),←h2,List.take_length] at h3
  rw [←h3,h2]
 have hd:(zs.drop (i+1)).flatMap Yw=(B.take (n*19)).drop ((i+1)*19):=by
  have h1:zs.flatMap Yw=(zs.take (i+1)).flatMap Yw++(zs.drop (i+1)).flatMap Yw:=by rw [←List.flatMap_append,List.take_append_drop]
  have h2:((zs.take (i+1)).flatMap Yw).length=(i+1)*19:=by rw [ZU QY,List.length_take];congr 1;omega
  rw [hB,h1,←h2,List.drop_left]
 rw [hz2,List.flatMap_append,List.flatMap_cons,hf i (by omega),hd]
 have e1:(B.take (i*19)).length=i*19:=by rw [List.length_take];omega
 have t1:(B.take (i*19)).take (n*19)=B.take (i*19):=List.take_of_length_le (by rw [e1];omega)
 have t2:(Yw p).take (n*19-i*19)=Yw p:=List.take_of_length_le (by rw [QY];omega)
 rw [List.take_append,e1,t1,List.take_append,t2,QY,List.drop_take]
 rw [show (i+1)*19=i*19+19 by omega,show n*19-i*19-19=n*19-(i*19+19) by omega]
structure DlQ (P:Pt→Bool)(ps:List Pt)(n c i j:Nat)(zs:List Pt)(B:List Value):Prop where
 hB:B.take (n*19)=zs.flatMap Yw
 hz:zs.length=n
 hl:B.length=c*19
 hk:zs.take i=(ps.take j).filter fun p=> !P p
 hd:zs.drop j=ps.drop j
 hij:i<j
 hjn:j≤n
theorem DlQ.at {P:Pt→Bool}{ps:List Pt}{n c i j:Nat}{zs:List Pt}{B:List Value}(h:DlQ P ps n c i j zs B){p:Pt}(hp:ps[j]? =some p):zs[j]? =some p:=by
 have h1:=congrArg (fun l=>l[0]?) h.hd
 simp only [List.getElem?_drop,Nat.add_zero] at h1
 rw [h1];exact hp
theorem DlQ.keep {P:Pt→Bool}{ps:List Pt}{n c i j:Nat}{zs:List Pt}{B:List Value}(h:DlQ P ps n c i j zs B){p:Pt}(hp:ps[j]? =some p)(hP:P p=false)(hn:n≤c)(hjn:j<n):DlQ P ps n c (i+1) (j+1) (zs.set i p) (Vs B (i*19) (Yw p)):=
  ⟨zk5 h.hB h.hl hn h.hz (by have:=h.hij;omega),by rw [List.length_set];exact h.hz,zqR h.hl hn (by have:=h.hij;omega),
   by rw [Wc (P:=fun p=> !P p) hp (by rw [hP];rfl),←h.hk,List.take_add_one,List.take_set_of_le (by omega),List.getElem?_set_self (by have:=h.hij;have:=h.hz;omega)];rfl,
   by rw [List.drop_set_of_lt (by have:=h.hij;omega)];have h1:=congrArg (List.drop 1) h.hd;rw [List.drop_drop,List.drop_drop] at h1;exact h1,by have:=h.hij;omega,by omega⟩
theorem DlQ.drop {P:Pt→Bool}{ps:List Pt}{n c i j:Nat}{zs:List Pt}{B:List Value}(h:DlQ P ps n c i j zs B){p:Pt}(hp:ps[j]? =some p)(hP:P p=true)(hjn:j<n):DlQ P ps n c i (j+1) zs B:=
 ⟨h.hB,h.hz,h.hl,by rw [zaA (P:=fun p=> !P p) hp (by rw [hP];rfl)];exact h.hk,by have h1:=congrArg (List.drop 1) h.hd;rw [List.drop_drop,List.drop_drop] at h1;exact h1,by have:=h.hij;omega,by omega⟩
theorem DlQ.new {P:Pt→Bool}{ps:List Pt}{n c i:Nat}{A:List Value}{p:Pt}(hA:A.take (n*19)=ps.flatMap Yw)(hz:ps.length=n)(hl:A.length=c*19)(hi:ps[i]? =some p)(hP:P p=true)(hno:(ps.take i).any P=false):DlQ P ps n c i (i+1) ps A:=
 ⟨hA,hz,hl,by
  rw [zaA (P:=fun p=> !P p) hi (by rw [hP];rfl),List.filter_eq_self.2]
  intro q hq;rw [List.any_eq_false] at hno;simpa using hno q hq,rfl,by omega,by have:=(List.getElem?_eq_some_iff.1 hi).1;omega⟩
theorem DlQ.own {P:Pt→Bool}{ps:List Pt}{n c i j:Nat}{zs:List Pt}{B zc:List Value}{b t:Nat}(h:DlQ P ps n c i j zs B)(hj:n≤j)(hps:ps.length=n)(hn:n≤c)(hc:c≤maxLen)(hzc:zc.length=(n-i)*19):
  OwnS t 19 (.slice (some ⟨b,0,none⟩) i c) i ((ps.filter fun p=> !P p).flatMap Yw) [(b,.cells (B.take (0+i*19)++(zc++B.drop (0+i*19+(n-i)*19))).toArray t (0,0))]:=by
 rw [Nat.zero_add]
 have hij:=h.hij
 have hjn:=h.hjn
 have hBl:=h.hl
 have e1:(B.take (i*19)).length=i*19:=by rw [List.length_take];omega
 have hf:ps.filter (fun p=> !P p)=zs.take i:=by rw [h.hk,List.take_of_length_le (by omega)]
 have hfl:(ps.filter fun p=> !P p).flatMap Yw=B.take (i*19):=by
  rw [hf]
  have h1:zs.flatMap Yw=(zs.take i).flatMap Yw++(zs.drop i).flatMap Yw:=by rw [←List.flatMap_append,List.take_append_drop]
  have h2:((zs.take i).flatMap Yw).length=i*19:=by rw [ZU QY,List.length_take];have:=h.hz;congr 1;omega
  have h3:=congrArg (List.take (i*19)) h1
  rw [←h.hB,List.take_take,Nat.min_eq_left (by omega),List.take_append_of_le_length (by omega),←h2,List.take_length] at h3
  rw [←h3,h2]
 refine ⟨by rw [hfl,e1],.inr ⟨b,c,_,rfl,rfl,by omega,hc,?_,?_⟩⟩
 ·
  simp only [List.size_toArray,List.length_append,e1,hzc,List.length_drop];omega
 ·
  rw [hfl]
  show ((B.take (i*19)++(zc++B.drop (i*19+(n-i)*19)))).take (i*19)=_
  rw [List.take_append_of_le_length (by omega),List.take_of_length_le (by omega)]
theorem zwk {P:Pt→Bool}{ps:List Pt}{n c i j:Nat}{zs:List Pt}{B:List Value}(h:DlQ P ps n c i j zs B)(hn:n≤c)(hj:j<n):Nat.ble (i*19+19) (c*19)=true:=Nat.ble_eq_true_of_le (by have:=h.hij;omega)
theorem zu2 {P:Pt→Bool}{ps:List Pt}{n c i j:Nat}{zs:List Pt}{B:List Value}(h:DlQ P ps n c i j zs B)(hn:n≤c):0+i*19+(n-i)*19≤c*19:=by have:=h.hij;have:=h.hjn;omega
theorem zwy {b n c t:Nat}{A:List Value}{ps:List Pt}(_hA:A.take (n*19)=ps.flatMap Yw)(hAl:A.length=c*19)(_hl:ps.length=n)(hnc:n≤c)(hc:c≤maxLen):OwnS t 19 (.slice (some ⟨b,0,none⟩) n c) n (A.take (n*19)) [(b,.cells A.toArray t (0,0))]:=
 ⟨by rw [List.length_take];omega,.inr ⟨b,c,_,rfl,rfl,hnc,hc,by simp [hAl],by simp⟩⟩
theorem zhQ {α:Type}{xs:List α}{P:α→Bool}(h:xs.any P=true):∃ (i:Nat) (x:α),Ua P xs=(i:Nat)∧xs[i]? =some x∧P x=true∧(xs.take i).any P=false:=by
 obtain ⟨x,hx,hp⟩:=List.any_eq_true.1 h
 have hl:=List.findIdx_lt_length_of_exists ⟨x,hx,hp⟩
 refine ⟨xs.findIdx P,xs[xs.findIdx P],by unfold Ua;rw [h];rfl,List.getElem?_eq_getElem hl,List.findIdx_getElem,?_⟩
 rw [List.any_eq_false]
 intro y hy
 obtain ⟨k,hk,rfl⟩:=List.getElem_of_mem hy
 rw [List.length_take] at hk
 rw [List.getElem_take]
 exact Bool.eq_false_iff.1 (List.not_of_lt_findIdx (Nat.lt_of_lt_of_le hk (Nat.min_le_left ..)))
def zg0 (ls:List Pt)(k:Nat):List Pt:=(ls.take k).filter fun q=>zak q.nw ((ls.getD 0 WT).nw)
theorem zxs {ls:List Pt}:((zg0 ls 0).map (·.id)).flatMap QP=[]:=by unfold zg0;rw [List.take_zero];rfl
theorem zp9 {ls:List Pt}{k:Nat}{p:Pt}(hp:ls[k]? =some p)(h:zak p.nw ((ls.getD 0 WT).nw)=true):(zg0 ls (k+1)).map (·.id)=(zg0 ls k).map (·.id)++[p.id]:=by
 unfold zg0;rw [Wc hp h,List.map_append];rfl
theorem zss {ls:List Pt}{k:Nat}{p:Pt}(hp:ls[k]? =some p)(h:zak p.nw ((ls.getD 0 WT).nw)=false):(zg0 ls (k+1)).map (·.id)=(zg0 ls k).map (·.id):=by
 unfold zg0;rw [zaA hp h]
theorem zq9 {ls:List Pt}{k m:Nat}(hm:ls.length=m)(hk:k=m):(zg0 ls k).map (·.id)=zrX ls:=by
 unfold zg0;rw [List.take_of_length_le (by omega)]
 cases ls with
 | nil=>rfl
 | cons p r=>rfl
theorem zul {on:Int→Int→Bool}{l:List Pt}{s f:Int}{m:Nat}(hm:(XM on l s f).length=m):(or1 on l s f).2=decide ((m:Int)>0):=by
 show decide (0<(XM on l s f).length)=_
 rw [hm];cases m<;>simp
theorem za1 {l:List Pt}{s:Int}{k:Nat}{p:Pt}(hno:(l.take k).any (inP s)=false)(hp:l[k]? =some p)(h:inP s p=true):or2 l s=(⟨3,0,[],[p.id]⟩,true):=by
 have:l.find? (inP s)=some p:=by
  have e:l=l.take k++p::l.drop (k+1):=by
   rw [←Z4 hp,List.take_append_drop]
  rw [e,List.find?_append,List.find?_eq_none.2 (by rw [List.any_eq_false] at hno;exact hno),List.find?_cons,h];rfl
 unfold or2;rw [this]
theorem zfI {l:List Pt}{s:Int}(hno:l.any (inP s)=false):or2 l s=(zOg,false):=by
 unfold or2;rw [List.find?_eq_none.2 (by rw [List.any_eq_false] at hno;exact hno)]
theorem zb5 {rows:List (List Int)}{rd:List Int}{q:Nat}{f:Int}(h:isT f=true):or3 rows rd (q:Int) f=(⟨1,0,[zoP rows q (rd.getD q 0)],[]⟩,true):=if_pos h
theorem zeQ {rows:List (List Int)}{rd:List Int}{s:Int}{f:Int}(h:isT f=false):or3 rows rd s f=(zOg,false):=if_neg (by rw [h];decide)
theorem zwW {rows:List (List Int)}{q:Nat}{c:Int}(h:decide (Ua (fun r:List Int=>r.getD q 0==c) rows<0)=true):Ua (zwe q) rows=zoP rows q c:=by unfold zoP;rw [if_pos (by simpa using h)]
theorem zwB {rows:List (List Int)}{q:Nat}{c:Int}(h:decide (Ua (fun r:List Int=>r.getD q 0==c) rows<0)=false):Ua (fun r:List Int=>r.getD q 0==c) rows=zoP rows q c:=by unfold zoP;rw [if_neg (by simpa using h)]
def zeg (f:Nat)(t:Tx)(k:Nat):List Value:=[.func (.func (f+k)) #[.agg (Ka t).toArray] #[]]
theorem zym {k:Nat}(h:k<5):([0,1,2,3,4]:List Nat)[k]? =some k:=by
 match k,h with
 | 0,_=>rfl
 | 1,_=>rfl
 | 2,_=>rfl
 | 3,_=>rfl
 | 4,_=>rfl
theorem zii {f:Int}:([2,3,9]:List Int).any (fun y=>f==y)=isT f:=by simp only [List.any_cons,List.any_nil,Bool.or_false,isT,Bool.or_assoc]
theorem zrq {b:Bool}(h:(!b)=true):b=false:=by cases b<;>simp_all
theorem zd7 {b:Bool}(h:(!b)=false):b=true:=by cases b<;>simp_all
end
section
open Go Go.Kn Go.Proofs
theorem zqQ:Fun Tryz.prog 170:=.of Tryz.func170 (by kernel_rfl) (by kernel_rfl)
theorem zsh:Fun Tryz.prog 69:=.of Tryz.func69 (by kernel_rfl) (by kernel_rfl)
theorem WK:MpT Tryz.prog 55 3 4 (.bool false):=⟨by kernel_rfl,.of (by kernel_rfl)⟩
theorem zce:MpT Tryz.prog 96 3 55 (.map none):=⟨by kernel_rfl,.of (by kernel_rfl)⟩
theorem zvr:Tryz.prog.underlying 36=some (.slice 57):=by kernel_rfl
theorem zws {I:Qu}{av:Option Addr}{n c:Nat}{xs:List Sg}(hS:Sl I 14 YZ av n c xs)(hn:n≤100000){fid:Nat}{cap:List Value}{P:Sg→Bool}(hF:Fun Tryz.prog fid)(hf:∀ x∈xs,Zx Tryz.prog fid ([JT x]++cap) I (.bool (P x))):Zx Tryz.prog 69 [.slice av n c,.func (.func fid) #[] cap.toArray] I (.int .i64 (Ua P xs)):=by
 intro g H w hw
 refine qe Tryz.func69 Tryz.ntmps69 hw ?_
 have hS:=hS
 refine zR (zA (zN (Ql (zR ?_))))
 refine zM ?_
 refine zQ YW ?_
 refine zM (zN (Qm ?_))
 refine zU [(0,_),(1,_),(7,_)] (fun T L0 mz E I' loc'=>∃ (k:Nat),mz=n-k∧E=(8,.int .i64 k)::T∧I=I'∧L0=loc'∧k≤n∧(xs.take k).any P=false) ?_ (h:=⟨0,rfl,rfl,rfl,rfl,Nat.zero_le _,rfl⟩)
 rintro mz E I' loc' ⟨k,rfl,rfl,rfl,rfl,hk,hno⟩
 refine zR (zC (zN (Ql ?_)))
 refine zI ?_ ?_<;>intro hc9
 ·
  have hlt_k:k<n:=by have h:=hc9;simp at h;omega
  obtain ⟨x,hx⟩:=hS.at hlt_k
  refine Qo (Qa (Ql (Qm (zR (zM ?_)))))
  refine zA ?_
  refine zN (zR ?_)
  refine zM ?_
  refine zM ?_
  refine zM ?_
  refine zV (QE rfl rfl YW (by assumption) (fun hg=>by omega)) ?_
  refine zV (Qp rfl ZK (fun hg=>by exact zyw hS hx) rfl) ?_
  refine YQ (cap:=cap) (vs:=[_]) rfl rfl hF (hf x (List.mem_of_getElem? hx)) rfl rfl ?_
  refine zN ?_
  refine zI ?_ ?_<;>intro hc16
  ·
   refine zR (zM ?_)
   refine zA (zN (Qs (Qn (Qc (Qc (Qn (Qc ?_)))))))
   exact zr rfl rfl (by rw [Ji hno hx hc16])
  refine Qo (Qh (Qa (Qg (zB ?_))))
  refine zM (Qb ?_)
  exact zm (h:=⟨n-(k+1),by omega,k+1,rfl,rfl,rfl,rfl,by omega,YX hx hno hc16⟩)
 have hge_k:n≤k:=by have h:=hc9;simp at h;omega
 refine QH (Qe (Qe (Qk (Qa (zR (zA (zN ?_)))))))
 refine Qs ?_
 exact zr rfl rfl (by rw [Vw hS.len hge_k hno])
theorem zw6 {I:Qu}{av:Option Addr}{n c:Nat}{xs:List Sg}(hS:Sl I 14 YZ av n c xs)(hn:n≤100000){fid:Nat}{cap:List Value}{P:Sg→Bool}(hF:Fun Tryz.prog fid)(hf:∀ x∈xs,Zx Tryz.prog fid ([JT x]++cap) I (.bool (P x))):Zx Tryz.prog 37 [.slice av n c,.func (.func fid) #[] cap.toArray] I (.bool (xs.any P)):=by
 intro g H w hw
 refine qe Tryz.func37 Tryz.ntmps37 hw ?_
 refine zR (zA ?_)
 refine zN (zR ?_)
 refine zM ?_
 refine zM ?_
 refine qc (vs:=[_,_]) rfl zsh (zws hS hn hF hf) ?_
 refine zC ?_
 refine zA (zN (Qs ?_))
 exact zr rfl rfl (by rw [←Ku])
theorem zwN {I:Qu}{av:Option Addr}{n c:Nat}{xs:List Em}(hS:Sl I 3 Yt av n c xs)(hn:n≤100000){fid:Nat}{cap:List Value}{P:Em→Bool}(hF:Fun Tryz.prog fid)(hf:∀ x∈xs,Zx Tryz.prog fid ([.agg (Yt x).toArray]++cap) I (.bool (P x))):Zx Tryz.prog 170 [.slice av n c,.func (.func fid) #[] cap.toArray] I (.int .i64 (Ua P xs)):=by
 intro g H w hw
 refine qe Tryz.func170 Tryz.ntmps170 hw ?_
 have hS:=hS
 refine zR (zA (zN (Ql (zR ?_))))
 refine zM ?_
 refine zQ K7 ?_
 refine zM (zN (Qm ?_))
 refine zU [(0,_),(1,_),(7,_)] (fun T L0 mz E I' loc'=>∃ (k:Nat),mz=n-k∧E=(8,.int .i64 k)::T∧I=I'∧L0=loc'∧k≤n∧(xs.take k).any P=false) ?_ (h:=⟨0,rfl,rfl,rfl,rfl,Nat.zero_le _,rfl⟩)
 rintro mz E I' loc' ⟨k,rfl,rfl,rfl,rfl,hk,hno⟩
 refine zR (zC (zN (Ql ?_)))
 refine zI ?_ ?_<;>intro hc9
 ·
  have hlt_k:k<n:=by have h:=hc9;simp at h;omega
  obtain ⟨x,hx⟩:=hS.at hlt_k
  refine Qo (Qa (Ql (Qm (zR (zM ?_)))))
  refine zA ?_
  refine zN (zR ?_)
  refine zM ?_
  refine zM ?_
  refine zM ?_
  refine zV (QE rfl rfl K7 (by assumption) (fun hg=>by omega)) ?_
  refine zV (Qp rfl zne (fun hg=>by exact zyw hS hx) rfl) ?_
  refine YQ (cap:=cap) (vs:=[_]) rfl rfl hF (hf x (List.mem_of_getElem? hx)) rfl rfl ?_
  refine zN ?_
  refine zI ?_ ?_<;>intro hc16
  ·
   refine zR (zM ?_)
   refine zA (zN (Qs (Qn (Qc (Qc (Qn (Qc ?_)))))))
   exact zr rfl rfl (by rw [Ji hno hx hc16])
  refine Qo (Qh (Qa (Qg (zB ?_))))
  refine zM (Qb ?_)
  exact zm (h:=⟨n-(k+1),by omega,k+1,rfl,rfl,rfl,rfl,by omega,YX hx hno hc16⟩)
 have hge_k:n≤k:=by have h:=hc9;simp at h;omega
 refine QH (Qe (Qe (Qk (Qa (zR (zA (zN ?_)))))))
 refine Qs ?_
 exact zr rfl rfl (by rw [Vw hS.len hge_k hno])
theorem zxm {I:Qu}{av:Option Addr}{n c:Nat}{xs:List Em}(hS:Sl I 3 Yt av n c xs)(hn:n≤100000){fid:Nat}{cap:List Value}{P:Em→Bool}(hF:Fun Tryz.prog fid)(hf:∀ x∈xs,Zx Tryz.prog fid ([.agg (Yt x).toArray]++cap) I (.bool (P x))):Zx Tryz.prog 121 [.slice av n c,.func (.func fid) #[] cap.toArray] I (.bool (xs.any P)):=by
 intro g H w hw
 refine qe Tryz.func121 Tryz.ntmps121 hw ?_
 refine zR (zA ?_)
 refine zN (zR ?_)
 refine zM ?_
 refine zM ?_
 refine qc (vs:=[_,_]) rfl zqQ (zwN hS hn hF hf) ?_
 refine zC ?_
 refine zA (zN (Qs ?_))
 exact zr rfl rfl (by rw [←Ku])
theorem zmE {I:Qu}{av:Option Addr}{n c:Nat}{xs:List Pt}(hS:Sl I 19 Yw av n c xs)(hn:n≤400000):Yc Tryz.prog 114 [.slice av n c] I [] (fun v I' L=>I'=I∧OwnS 57 19 v n (xs.flatMap Yw) L):=by
 intro g H w hw
 refine qe Tryz.func114 Tryz.ntmps114 hw ?_
 refine zR (zA (zN (Ql (zR ?_))))
 refine zM ?_
 refine zV (W5 rfl rfl Zy) ?_
 refine zN ?_
 refine zI ?_ ?_<;>intro hc4
 ·
  have hn0:n=0:=Decidable.byContradiction fun h=>by have:=hS.base h;rw [this] at hc4;cases hc4
  have hl:=hS.len
  subst hn0
  have hx0:=List.eq_nil_of_length_eq_zero hl
  subst hx0
  refine zR (zA (zN (Qs (Qc ?_))))
  exact Zt rfl rfl (fun w hw=>⟨_,I,_,rfl,zyv _,hw,rfl,OwnS.nil⟩)
 refine Qo (Qa (zR ?_))
 refine Qq (ps:=[]) (m:=[]) UK rfl (.nil) rfl (by simp) (by decide) (by decide) rfl rfl (fun b_5=>?_)
 refine zM ?_
 refine QW (v:=_) (ys:=xs.flatMap Yw) (L:=[(b_5,_)]) rfl rfl UK OwnS.new (by repeat (first | exact .cons .here .nil | exact QD | exact Qw | apply QC | apply QA)) (hS.src QY) (zlr _) (by omega) rfl rfl ?_
 intro v1 L1 hO1 _;rw [List.nil_append,Nat.zero_add] at hO1
 refine zA (zN (Qs ?_))
 exact Zt rfl rfl (fun w hw=>⟨_,I,_,rfl,zyv _,hw.subL Zi,rfl,hO1⟩)
theorem zsP {I:Qu}{av:Option Addr}{n c:Nat}{rows:List (List Int)}(hV:SlN I av n c rows)(hn:n≤100000){fid:Nat}{cap:List Value}{P:List Int→Bool}(hF:Fun Tryz.prog fid)(hf:∀ (h:Hd) (r:List Int),r∈rows→Sl I 1 QP h.a h.n h.c r→Zx Tryz.prog fid ([.slice h.a h.n h.c]++cap) I (.bool (P r))):Zx Tryz.prog 100 [.slice av n c,.func (.func fid) #[] cap.toArray] I (.int .i64 (Ua P rows)):=by
 intro g H w hw
 refine qe Tryz.func100 Tryz.ntmps100 hw ?_
 have hVl:=hV.len
 obtain ⟨hs,hVH⟩:=id hV
 have hS:=hVH.1
 refine zR (zA (zN (Ql (zR ?_))))
 refine zM ?_
 refine zQ Zn ?_
 refine zM (zN (Qm ?_))
 refine zU [(0,_),(1,_),(7,_)] (fun T L0 mz E I' loc'=>∃ (k:Nat),mz=n-k∧E=(8,.int .i64 k)::T∧I=I'∧L0=loc'∧k≤n∧(rows.take k).any P=false) ?_ (h:=⟨0,rfl,rfl,rfl,rfl,Nat.zero_le _,rfl⟩)
 rintro mz E I' loc' ⟨k,rfl,rfl,rfl,rfl,hk,hno⟩
 refine zR (zC (zN (Ql ?_)))
 refine zI ?_ ?_<;>intro hc9
 ·
  have hlt_k:k<n:=by have h:=hc9;simp at h;omega
  obtain ⟨hx1,rx,hx,hrx,hQ⟩:=hVH.at hlt_k
  refine Qo (Qa (Ql (Qm (zR (zM ?_)))))
  refine zA ?_
  refine zN (zR ?_)
  refine zM ?_
  refine zM ?_
  refine zM ?_
  refine zV (QE rfl rfl Zn (by assumption) (fun hg=>by omega)) ?_
  refine zV (Qd rfl QK (fun hg=>by exact zyo hS hx rfl)) ?_
  refine YQ (cap:=cap) (vs:=[_]) rfl rfl hF (hf hx1 rx (List.mem_of_getElem? hrx) hQ) rfl rfl ?_
  refine zN ?_
  refine zI ?_ ?_<;>intro hc16
  ·
   refine zR (zM ?_)
   refine zA (zN (Qs (Qn (Qc (Qc (Qn (Qc ?_)))))))
   exact zr rfl rfl (by rw [Ji hno hrx hc16])
  refine Qo (Qh (Qa (Qg (zB ?_))))
  refine zM (Qb ?_)
  exact zm (h:=⟨n-(k+1),by omega,k+1,rfl,rfl,rfl,rfl,by omega,YX hrx hno hc16⟩)
 have hge_k:n≤k:=by have h:=hc9;simp at h;omega
 refine QH (Qe (Qe (Qk (Qa (zR (zA (zN ?_)))))))
 refine Qs ?_
 exact zr rfl rfl (by rw [Vw hVl hge_k hno])
theorem zv8 {I:Qu}{b n c:Nat}{A:List Value}{ps:List Pt}(hA:A.take (n*19)=ps.flatMap Yw)(hl:ps.length=n)(hn:n≤100000){fid:Nat}{cap:List Value}{P:Pt→Bool}(hF:Fun Tryz.prog fid)(hf:∀ x∈ps,Zx Tryz.prog fid ([Wy x]++cap) I (.bool (P x))):Yc Tryz.prog 169 [.slice (some ⟨b,0,none⟩) n c,.func (.func fid) #[] cap.toArray] I [(b,.cells A.toArray 57 (0,0))] (fun u I' L=>u= .int .i64 (Ua P ps)∧I'=I∧L=[(b,.cells A.toArray 57 (0,0))]):=by
 intro g H w hw
 refine qe Tryz.func169 Tryz.ntmps169 hw ?_
 refine zR (zA (zN (Ql (zR ?_))))
 refine zM ?_
 refine zQ Zy ?_
 refine zM (zN (Qm ?_))
 refine zU [(0,_),(1,_),(7,_)] (fun T L0 mz E I' loc'=>∃ (k:Nat),mz=n-k∧E=(8,.int .i64 k)::T∧I=I'∧L0=loc'∧k≤n∧(ps.take k).any P=false) ?_ (h:=⟨0,rfl,rfl,rfl,rfl,Nat.zero_le _,rfl⟩)
 rintro mz E I' loc' ⟨k,rfl,rfl,rfl,rfl,hk,hno⟩
 refine zR (zC (zN (Ql ?_)))
 refine zI ?_ ?_<;>intro hc9
 ·
  have hlt_k:k<n:=by have h:=hc9;simp at h;omega
  obtain ⟨x,hx⟩:∃ x,ps[k]? =some x:=⟨_,List.getElem?_eq_getElem (by omega)⟩
  refine Qo (Qa (Ql (Qm (zR (zM ?_)))))
  refine zA ?_
  refine zN (zR ?_)
  refine zM ?_
  refine zM ?_
  refine zM ?_
  refine zV (Q6 rfl rfl Zy (fun hg=>by omega)) ?_
  refine zV (Qp rfl Yr (fun hg=>by exact zom hA hx) rfl) ?_
  refine YQ (cap:=cap) (vs:=[_]) rfl rfl hF (hf x (List.mem_of_getElem? hx)) rfl rfl ?_
  refine zN ?_
  refine zI ?_ ?_<;>intro hc16
  ·
   refine zR (zM ?_)
   refine zA (zN (Qs (Qn (Qc (Qc (Qn (Qc ?_)))))))
   exact Zt rfl rfl (fun w hw=>⟨_,I,_,rfl,zyv _,hw,by rw [Ji hno hx hc16],rfl,rfl⟩)
  refine Qo (Qh (Qa (Qg (zB ?_))))
  refine zM (Qb ?_)
  exact zm (h:=⟨n-(k+1),by omega,k+1,rfl,rfl,rfl,rfl,by omega,YX hx hno hc16⟩)
 have hge_k:n≤k:=by have h:=hc9;simp at h;omega
 refine QH (Qe (Qe (Qk (Qa (zR (zA (zN ?_)))))))
 refine Qs ?_
 exact Zt rfl rfl (fun w hw=>⟨_,I,_,rfl,zyv _,hw,by rw [Vw hl hge_k hno],rfl,rfl⟩)
theorem ztq {I:Qu}{b n c:Nat}{A:List Value}{ps:List Pt}(hA:A.take (n*19)=ps.flatMap Yw)(hAl:A.length=c*19)(hl:ps.length=n)(hnc:n≤c)(hc:c≤maxLen)(hn:n≤100000){fid:Nat}{cap:List Value}{P:Pt→Bool}(hF:Fun Tryz.prog fid)(hf:∀ x∈ps,Zx Tryz.prog fid ([Wy x]++cap) I (.bool (P x))):Yc Tryz.prog 113 [.slice (some ⟨b,0,none⟩) n c,.func (.func fid) #[] cap.toArray] I [(b,.cells A.toArray 57 (0,0))] (fun u I' L=>I'=I∧∃ m,OwnS 57 19 u m ((ps.filter fun p=> !P p).flatMap Yw) L):=by
 intro g H w hw
 refine qe Tryz.func113 Tryz.ntmps113 hw ?_
 refine zR (zA ?_)
 refine zN (zR ?_)
 refine zM ?_
 refine zM ?_
 refine Qx (cap:=[]) (vs:=[_,_]) rfl rfl zdp QD (zv8 hA hl hn hF hf) rfl rfl ?_
 rintro vv1 I1 L1 hI1 ⟨rfl,rfl,rfl⟩
 refine zA (zN (Ql (zR ?_)))
 refine zM ?_
 refine zC (zN ?_)
 refine zI ?_ ?_<;>intro hc12
 ·
  have hno:ps.any P=false:=by cases h:ps.any P with | false=>rfl | true=>(obtain ⟨i,x,h1,h2,h3,h4⟩:=zpl h;rw [h1] at hc12;simp at hc12)
  refine zR (zM ?_)
  refine zA (zN (Qs (Qc ?_)))
  first
  | exact Zt rfl rfl (fun w hw=>⟨_,I1,_,rfl,zyv _,hw,rfl,_,by rw [List.filter_eq_self.2 (fun q hq=>by rw [List.any_eq_false] at hno;simpa using hno q hq),←hA];exact zwy hA hAl hl hnc hc⟩)
 obtain ⟨i,x,hix,hi,hPi,hno⟩:∃ (i:Nat) (x:Pt),Ua P ps=(i:Nat)∧ps[i]? =some x∧P x=true∧(ps.take i).any P=false:=zhQ (by cases h:ps.any P with | true=>rfl | false=>(unfold Ua at hc12;rw [h] at hc12;simp at hc12))
 have hil:=(List.getElem?_eq_some_iff.1 hi).1
 rw [hix]
 refine Qo (Qa (Ql (zR (zM ?_))))
 refine zB ?_
 refine zA (zN (Qm ?_))
 refine zU [(0,_),(1,_)] (fun T L0 mz E I' loc'=>∃ (i j:Nat) (zs:List Pt) (B:List Value),mz=n-j∧E=(5,.int .i64 i)::(6,.int .i64 j)::T∧I1=I'∧[(b,.cells B.toArray 57 (0,0))]=loc'∧DlQ P ps n c i j zs B) ?_ (h:=⟨i,i+1,ps,A,rfl,rfl,rfl,rfl,DlQ.new hA hl hAl hi hPi hno⟩)
 rintro mz E I' loc' ⟨i,j,zs,B,rfl,rfl,rfl,rfl,hD⟩
 have hij:=hD.hij
 have hjn:=hD.hjn
 refine Ql (zR (zM ?_))
 refine zM ?_
 refine zQ Zy ?_
 refine zC (zN ?_)
 refine zI ?_ ?_<;>intro hc19
 ·
  have hlt:j<n:=by have h:=hc19;simp at h;omega
  obtain ⟨x,hx⟩:∃ x,ps[j]? =some x:=⟨_,List.getElem?_eq_getElem (by omega)⟩
  have hz:=hD.at hx
  refine Qo (Qa (Ql (Qm (zR (zM ?_)))))
  refine zM ?_
  refine zV (Q6 rfl rfl Zy (fun hg=>by omega)) ?_
  refine zV (Qp rfl Yr (fun hg=>by exact zom hD.hB hz) rfl) ?_
  refine Qr K5 rfl rfl (fun b_7=>?_)
  refine zh VM ?_
  refine zN (zR ?_)
  refine zM ?_
  refine zV (Qp rfl Yr (fun hg=>by exact Cells.g0) rfl) ?_
  refine YQ (cap:=cap) (vs:=[_]) rfl rfl hF (hf x (List.mem_of_getElem? hx)) rfl rfl ?_
  refine zO (zN ?_)
  refine zI ?_ ?_<;>intro hc29
  ·
   refine zR (zM ?_)
   refine zM ?_
   refine zV (Qp rfl Yr (fun hg=>by exact Cells.g0) rfl) ?_
   refine zV (Q6 rfl rfl Zy (fun hg=>by omega)) ?_
   refine Jh (A:=B) rfl rfl VM rfl (by rw [hD.hl];exact zwk hD hnc hlt) rfl rfl (by repeat (first | exact Upd.here | apply Upd.there | apply QI)) ?_
   refine zN (Qg (zM ?_))
   refine zB ?_
   refine zA (Qb (Qh (Qa (Qg ?_))))
   refine zM ?_
   refine zB ?_
   refine zA (Qb ?_)
   exact zm (h:=⟨n-(j+1),by omega,i+1,j+1,_,_,rfl,rfl,rfl,rfl,hD.keep hx (by simpa using hc29) hnc hlt⟩)
  refine Qo (Qh (Qa (Qg (zM ?_))))
  refine zB ?_
  refine zA (Qb ?_)
  exact zm (h:=⟨n-(j+1),by omega,i,j+1,_,_,rfl,rfl,rfl,rfl,hD.drop hx (by simpa using hc29) hlt⟩)
 have hge:n≤j:=by have h:=hc19;simp at h;omega
 refine QH (Qe (Qe (Qk (Qa (zR (zM ?_))))))
 refine zM ?_
 refine zV (zdl rfl rfl Zy (by omega)) ?_
 refine zlI (A:=B) (fun zs=>[(b,.cells (B.take (0+i*19)++(zs++B.drop (0+i*19+(n-i)*19))).toArray 57 (0,0))]) rfl zvr K5 rfl rfl (by rw [hD.hl];exact zu2 hD hnc) rfl rfl (fun zs=>.here) (fun zc hzc=>?_)
 refine zN (zR ?_)
 refine zM ?_
 refine zM ?_
 refine zV (zgk rfl rfl Zy (fun hg=>by omega)) ?_
 refine zA (zN (Qs ?_))
 exact Zt rfl rfl (fun w hw=>⟨_,I1,_,rfl,zyv _,hw,rfl,_,hD.own hge hl hnc hc hzc⟩)
end
section
open Go Go.Kn Go.Proofs
theorem zdO:AgT Tryz.prog 104 2:=.of (by kernel_rfl)
theorem Je:AgT Tryz.prog 98 8:=.of (by kernel_rfl)
theorem zot:Ar2 Tryz.prog 104 3 .i64:=⟨by kernel_rfl,by kernel_rfl,by kernel_rfl,by kernel_rfl,by kernel_rfl⟩
theorem VJ:ArT Tryz.prog 104 2 3 1:=.of (by kernel_rfl)
theorem UJ:QX Tryz.prog 98 2 5:=.of (by kernel_rfl)
theorem W6:QX Tryz.prog 98 3 6:=.of (by kernel_rfl)
theorem zqG:Fun Tryz.prog 112:=.of Tryz.func112 (by kernel_rfl) (by kernel_rfl)
theorem zqC:Fun Tryz.prog 113:=.of Tryz.func113 (by kernel_rfl) (by kernel_rfl)
theorem zoX:Fun Tryz.prog 114:=.of Tryz.func114 (by kernel_rfl) (by kernel_rfl)
theorem zqS:Fun Tryz.prog 115:=.of Tryz.func115 (by kernel_rfl) (by kernel_rfl)
theorem zrf:Fun Tryz.prog 117:=.of Tryz.func117 (by kernel_rfl) (by kernel_rfl)
theorem zoO:Fun Tryz.prog 118:=.of Tryz.func118 (by kernel_rfl) (by kernel_rfl)
theorem zc2:ScT Tryz.prog 36:=.of (by kernel_rfl)
theorem zcW:ScT Tryz.prog 96:=.of (by kernel_rfl)
theorem znu:SzT Tryz.prog 36 1:=.of (by kernel_rfl)
theorem zi6:Yn Tryz.prog 104 (.agg #[(.int .i64 0),(.int .i64 0)]):=.of (by kernel_rfl)
theorem zw3:Yn Tryz.prog 36 (.slice none 0 0):=.of (by kernel_rfl)
theorem zub {I:Qu}{fid:Nat}{cap:List Value}{P:Pt→Bool}(hF:Fun Tryz.prog fid)(hf:∀ x∈([]:List Pt),Zx Tryz.prog fid ([Wy x]++cap) I (.bool (P x))):Yc Tryz.prog 113 [.slice none 0 0,.func (.func fid) #[] cap.toArray] I [] (fun u I' L=>I'=I∧∃ m,OwnS 57 19 u m (([]:List Pt).flatMap Yw) L):=by
 intro g H w hw
 refine qe Tryz.func113 Tryz.ntmps113 hw ?_
 refine zR (zA ?_)
 refine zN (zR ?_)
 refine zM ?_
 refine zM ?_
 refine qc (vs:=[_,_]) rfl zdp (zr9 (ps:=[]) ⟨.nil,fun x hx=>by cases hx⟩ (by omega) hF hf) ?_
 refine zA (zN (Ql (zR ?_)))
 refine zM ?_
 refine zC (zN ?_)
 refine zI ?_ ?_<;>intro hc12
 ·
  refine zR (zM ?_)
  refine zA (zN (Qs (Qc ?_)))
  exact Zt rfl rfl (fun w hw=>⟨_,I,[],rfl,zyv _,hw.drop,rfl,0,OwnS.nil⟩)
 exact absurd hc12 (by simp [Ua])
theorem zvf {I:Qu}{v:Value}{n:Nat}{L0:Go.Kn.Loc}{ps:List Pt}(hO:OwnS 57 19 v n (ps.flatMap Yw) L0)(hn:n≤100000){fid:Nat}{cap:List Value}{P:Pt→Bool}(hF:Fun Tryz.prog fid)(hf:∀ x∈ps,Zx Tryz.prog fid ([Wy x]++cap) I (.bool (P x))):Yc Tryz.prog 113 [v,.func (.func fid) #[] cap.toArray] I L0 (fun u I' L=>I'=I∧∃ m,OwnS 57 19 u m ((ps.filter fun p=> !P p).flatMap Yw) L):=by
 obtain ⟨hlen,⟨rfl,rfl,rfl⟩ | ⟨b,c,cur,rfl,rfl,hnc,hcm,hsz,htk⟩⟩:=hO
 ·
  obtain rfl:ps=[]:=by
   rw [ZU QY] at hlen
   exact List.length_eq_zero_iff.1 (by omega)
  exact zub hF hf
 have hl:ps.length=n:=by rw [ZU QY] at hlen;omega
 have h:=ztq (b:=b) (A:=cur.toList) (c:=c) htk (by rw [Array.length_toList];exact hsz) hl hnc hcm hn hF hf
 rw [Array.toArray_toList] at h
 exact h
theorem zqr {I:Qu}{t:Tx}{ps:List Pt}(hOn:OnM I t.r ps)(p:Pt)(hid:∃ z∈ps,z.id=p.id)(i:Int):Zx Tryz.prog 118 [.agg (Ka t).toArray,Wy p,.int .i64 i] I (.bool (onF ps p.id i)):=by
 intro g H w hw
 refine qe Tryz.func118 Tryz.ntmps118 hw ?_
 obtain ⟨m,hm1,hm2⟩:=hOn
 obtain ⟨ref,hget,sn,hsn,hsq⟩:=hm2.get hid
 refine zR ?_
 refine Q5 rfl rfl rfl (fun b_3=>?_)
 refine Q5 rfl rfl rfl (fun b_4=>?_)
 refine zA ?_
 refine zN (zR ?_)
 refine zF UJ ?_
 refine zL zcW ?_
 refine zF Zu ?_
 refine zL Qt ?_
 refine zV (YD (m:=m) (ek:=Value.int .i64) (ev:=zca) (a:=p.id) hget zce ZD rfl rfl (fun _=>.inl hm1)) ?_
 refine zM ?_
 refine zV (ZY (m:=sn) WK ZD rfl rfl (fun _=>.inl hsn)) ?_
 refine zA (zN (Qs ?_))
 exact zr rfl rfl (by rw [show (ZC sn i).getD false=onF ps p.id i from hsq.mem _])
theorem zqg {I:Qu}{b1 b2:Nat}{t:Tx}{p:Pt}{ps:List Pt}(h1:I b1=some (.cells (Ka t).toArray 98 (0,0)))(h2:I b2=some (.cells (Yw p).toArray 57 (0,0)))(hOn:OnM I t.r ps)(q:Pt)(hid:∃ z∈ps,z.id=q.id):Zx Tryz.prog 117 [Wy q,.pointer (some ⟨b1,0,none⟩),.pointer (some ⟨b2,0,none⟩)] I (.bool (onF ps q.id p.id)):=by
 intro g H w hw
 refine qe Tryz.func117 Tryz.ntmps117 hw ?_
 refine zR ?_
 refine Q5 rfl rfl rfl (fun b_3=>?_)
 refine zA ?_
 refine zN (zR ?_)
 refine zV (Qp rfl Je (fun hg=>by exact Cells.imm h1) rfl) ?_
 refine zV (Qp rfl Yr (fun hg=>by exact Cells.g0) rfl) ?_
 refine zF Zu ?_
 refine zV (Qd rfl Qt (fun hg=>by exact .imm h2 rfl)) ?_
 refine qc (vs:=[_,_,_]) rfl zoO (zqr hOn q hid _) ?_
 refine zA (zN (Qs ?_))
 exact zr rfl rfl (by rfl)
theorem zuU {I:Qu}{b1 b2:Nat}{t:Tx}{ps:List Pt}{av:Option Addr}{n c:Nat}{xs:List Pt}(h1:I b1=some (.cells #[.slice av n c] 36 (0,0)))(h2:I b2=some (.cells (Ka t).toArray 98 (0,0)))(hOn:OnM I t.r ps)(hX:SlP I av n c xs)(hn:n≤100000)(hsub:∀ q∈xs,∃ z∈ps,z.id=q.id)(p:Pt):Zx Tryz.prog 115 [Wy p,.pointer (some ⟨b1,0,none⟩),.pointer (some ⟨b2,0,none⟩)] I (.bool (xs.any fun q=>onF ps q.id p.id)):=by
 intro g H w hw
 refine qe Tryz.func115 Tryz.ntmps115 hw ?_
 refine zR ?_
 refine Q5 rfl rfl rfl (fun b_3=>?_)
 refine zA ?_
 refine zN (zR ?_)
 refine zV (Qd rfl zc2 (fun hg=>by exact .imm h1 rfl)) ?_
 refine zV (Zb (us:=[]) (vs:=[_,_]) rfl rfl) ?_
 refine UH (cap:=[]) (vs:=[_,_]) rfl rfl zia QD (zkn.ofV fun I' hI' hL'=>zsy (cap:=[.pointer (some ⟨b2,0,none⟩),.pointer (some ⟨b_3,0,none⟩)]) (hX.mono hI') hn zrf (fun q hq=>zqg (b1:=b2) (b2:=b_3) (t:=t) (p:=p) (hI' _ _ h2) (hL' b_3 _ (.head _)) (hOn.mono hI') q (hsub q hq))) rfl rfl ?_
 refine zA (zN (Qs ?_))
 exact zr rfl rfl (by rfl)
theorem zoI {I:Qu}{t:Tx}{rows:List (List Int)}{es:List Em}{rd:List Int}{ps l:List Pt}{sg:List Sg}(hT:zgF I t rows es rd ps l sg)(s f:Int):Yc Tryz.prog 112 [.agg (Ka t).toArray,.agg #[.int .i64 s,.int .i64 f]] I [] (zbG 19 Yw (stF l s f)):=by
 intro g H w hw
 refine qe Tryz.func112 Tryz.ntmps112 hw ?_
 have hIc:=zyv I
 have hSl:=hT.L.1
 have hbl:=hT.bl
 refine zR ?_
 refine Q5 rfl rfl rfl (fun b_2=>?_)
 refine Q5 rfl rfl rfl (fun b_3=>?_)
 refine zA (zN (Ql (zR ?_)))
 refine zF W6 ?_
 refine zL zc2 ?_
 refine zQ Zy ?_
 refine zM (zN (Qm ?_))
 refine zU [(3,_),(8,_),(9,_)] (fun T L0 mz E I' loc'=>∃ (k:Nat) (v:Value) (q:Nat) (L:Go.Kn.Loc),mz=t.ln-k∧E=(4,v)::(10,.int .i64 k)::T∧I=I'∧L++[(b_3,.cells #[.int .i64 s,.int .i64 f] 104 (0,0)),(b_2,.cells (Ka t).toArray 98 (0,0))]=loc'∧k≤t.ln∧OwnS 57 19 v q ((stF (l.take k) s f).flatMap Yw) L∧q≤k) ?_ (h:=⟨0,_,0,[],rfl,rfl,rfl,rfl,Nat.zero_le _,by rw [List.take_zero];exact OwnS.nil,Nat.le_refl _⟩)
 rintro mz E I' loc' ⟨k,v,q,L,rfl,rfl,rfl,rfl,hk,hO,hq⟩
 refine zR (zC (zN (Ql ?_)))
 refine zI ?_ ?_<;>intro hc11
 ·
  have hlt_k:k<t.ln:=by have h:=hc11;simp at h;omega
  obtain ⟨p,hp⟩:=hSl.at hlt_k
  refine Qo (Qa (Ql (Qm (zR ?_))))
  refine zV (zX Zy hSl) ?_
  refine zV (Qp rfl Yr (fun hg=>by exact zyw hSl hp) rfl) ?_
  refine Qr K5 rfl rfl (fun b_6=>?_)
  refine zh VM ?_
  refine zN (zR ?_)
  refine zF KU ?_
  refine zL Qt ?_
  refine zC ?_
  refine zM ?_
  refine QG 3 rfl rfl rfl ?_
  refine zK (Qf rfl Ya) ?_
  refine zK (Qd rfl Qt (fun hg=>by exact QV.h0 rfl)) ?_
  refine zK (Qf rfl Jp) ?_
  refine zK (Qd rfl Qt (fun hg=>by exact QV.h0 rfl)) ?_
  refine zK (Zw (ps:=[(0,_),(1,_)]) [_,_] VJ zi6 rfl rfl) ?_
  refine zK (Qp rfl zdO (fun hg=>by (repeat (first | exact zyt | apply zys | apply zyu))) rfl) ?_
  refine zK (zqD rfl rfl zot) ?_
  refine QO rfl rfl rfl rfl rfl ?_
  refine zN ?_
  refine zI ?_ ?_<;>intro hc25
  ·
   have hst:(p.kind==1&&(p.sign==s&&p.field==f))=true:=by simpa using hc25
   refine Qg (zM ?_)
   refine zV (Qp rfl Yr (fun hg=>by exact Cells.g0) rfl) ?_
   refine Qq (ps:=[(0,_)]) (m:=[Yw p]) UK rfl (.cons rfl (.nil)) rfl (by simp [QY]) (by decide) (by decide) rfl rfl (fun b_28=>?_)
   refine QW (v:=_) (ys:=[p].flatMap Yw) (L:=L) rfl rfl UK hO (by repeat (first | exact .cons .here .nil | exact QD | exact Qw | apply QC | apply QA)) ⟨rfl,fun _=>rfl,by repeat (first | exact zyt | apply zys | apply zyu)⟩ (zlr _) (by omega) rfl rfl ?_
   intro v9 L9 hO9 _;rw [←List.flatMap_append] at hO9
   refine zA (Qb (Qh (Qa (Qg ?_))))
   refine zB ?_
   refine zM (Qb ?_)
   first
   | exact zm (h:=⟨t.ln-(k+1),by omega,k+1,_,_,_,rfl,rfl,rfl,rfl,by omega,by rw [show stF (l.take (k+1)) s f=stF (l.take k) s f++[p] from Wc hp hst];exact hO9,by omega⟩)
  have hst:(p.kind==1&&(p.sign==s&&p.field==f))=false:=by simpa using hc25
  refine Qo (Qh (Qa (Qg (zB ?_))))
  refine zM (Qb ?_)
  first
  | exact zm (h:=⟨t.ln-(k+1),by omega,k+1,_,_,_,rfl,rfl,rfl,rfl,by omega,by rw [show stF (l.take (k+1)) s f=stF (l.take k) s f from zaA hp hst];exact hO,by omega⟩)
 have hge_k:t.ln≤k:=by have h:=hc11;simp at h;omega
 rw [ZF hSl.len hge_k] at hO
 refine QH (Qe (Qe (Qk (Qa (zR (zM ?_))))))
 refine zA (zN (Qs ?_))
 exact Zt rfl rfl (fun w hw=>by obtain ⟨I9,h91,h92,h93⟩:=OwnS.res hO QY (by decide) (hw.subL (by exact Zi));exact ⟨_,I9,[],rfl,hIc.trans h91,h92,h93⟩)
theorem zsM {I:Qu}{t:Tx}{rows:List (List Int)}{es:List Em}{rd:List Int}{ps l:List Pt}{sg:List Sg}(hT:zgF I t rows es rd ps l sg)(s f:Int):Yc Tryz.prog 70 [.agg (Ka t).toArray,.agg #[.int .i64 s,.int .i64 f]] I [] (FrQ (or1 (onF ps) l s f)):=by
 intro g H w hw
 refine qe Tryz.func70 Tryz.ntmps70 hw ?_
 have hIc:=zyv I
 have hbl:=hT.bl
 refine zR ?_
 refine Q5 rfl rfl rfl (fun b_2=>?_)
 refine Q5 rfl rfl rfl (fun b_3=>?_)
 refine Qr UM rfl rfl (fun b_4=>?_)
 refine zA ?_
 refine zN (zR ?_)
 refine zV (Qp rfl Je (fun hg=>by exact Cells.g2) rfl) ?_
 refine zV (Qp rfl zdO (fun hg=>by exact Cells.g1) rfl) ?_
 refine Qx (cap:=[]) (vs:=[_,_]) rfl rfl zqG .nil (zoI hT s f) rfl rfl ?_
 rintro vv1 I1 L1 hI1 ⟨rfl,a9,c9,rfl,hSA⟩
 have hT:=hT.mono hI1;have hIc:=hIc.trans hI1
 have hSA:Sl I1 19 Yw a9 (stF l s f).length c9 (stF l s f):=hSA
 have hsl:(stF l s f).length≤100000:=Nat.le_trans Wo (by rw [hT.L.1.len];exact hbl)
 refine Qr zw3 rfl rfl (fun b_6=>?_)
 refine zS znu ?_
 refine zN (Ql ?_)
 refine Ze (b:=b_2) (by repeat (first | exact Q8.here | apply Q8.there)) (fun I2 hI2 hb2=>?_)
 have hT:=hT.mono hI2;have hSA:=hSA.mono hI2;have hIc:=hIc.trans hI2
 have h2:=hb2
 refine Ze (b:=b_6) (by repeat (first | exact Q8.here | apply Q8.there)) (fun I3 hI3 hb3=>?_)
 have hT:=hT.mono hI3;have hSA:=hSA.mono hI3;have hIc:=hIc.trans hI3
 have h2:=hI3 _ _ h2
 have h6:=hb3
 refine Qg ?_
 refine zV (Qd rfl zc2 (fun hg=>by exact .imm h6 rfl)) ?_
 refine Qx (cap:=[]) (vs:=[_]) rfl rfl zoX .nil (zmE hSA (by omega)) rfl rfl ?_
 rintro vv4 I4 L4 hI4 ⟨rfl,hO⟩
 have hT:=hT.mono hI4;have hSA:=hSA.mono hI4;have hIc:=hIc.trans hI4
 refine zV (Zb (us:=[]) (vs:=[_,_]) rfl rfl) ?_
 refine Qx (cap:=[]) (vs:=[_,_]) rfl rfl zqC (by repeat (first | exact .cons .here .nil | exact QD | exact Qw | apply QC | apply QA)) (zvf hO hsl zqS (cap:=[.pointer (some ⟨b_6,0,none⟩),.pointer (some ⟨b_2,0,none⟩)]) (fun x hx=>zuU h6 h2 hT.M ⟨hSA,fun q hq=>hT.L.2 q (zac.1 hq).1⟩ hsl (fun q hq=>hT.sub q (zac.1 hq).1) x)) rfl rfl ?_
 rintro vv5 I5 L5 hI5 ⟨rfl,m,hO2⟩
 have hIc:=hIc.trans hI5
 refine zA (zN (Ql (Ql ?_)))
 refine Y4 hO2 QY (by decide) (by repeat (first | exact .cons .here .nil | exact QD | exact Qw | apply QC | apply QA)) (fun I6 hI6 af6 cf6 ef6 hLt=>?_)
 subst ef6
 have hIc:=hIc.trans hI6
 have hLt:Sl I6 19 Yw _ m _ (XM (onF ps) l s f):=hLt
 have hm:=hLt.len
 have hml:m≤100000:=by rw [←hm];exact Nat.le_trans (List.length_filter_le ..) hsl
 refine Qg (zM ?_)
 refine zQ Zy ?_
 refine zM (zN (Qm ?_))
 refine zU [(4,_),(7,_),(17,_),(18,_)] (fun T L0 mz E I' loc'=>∃ (k:Nat) (v:Value) (q:Nat) (L:Go.Kn.Loc),mz=m-k∧E=(19,.int .i64 k)::T∧I6=I'∧L++[(b_4,.cells #[.int .i64 0,.int .i64 0,.slice none 0 0,v] 38 (0,0)),(b_3,.cells #[.int .i64 s,.int .i64 f] 104 (0,0))]=loc'∧k≤m∧OwnS 3 1 v q (((zg0 (XM (onF ps) l s f) k).map (·.id)).flatMap QP) L∧q≤k) ?_ (h:=⟨0,_,0,[],rfl,rfl,rfl,rfl,Nat.zero_le _,by rw [zxs];exact OwnS.nil,Nat.le_refl _⟩)
 rintro mz E I' loc' ⟨k,v,q,L,rfl,rfl,rfl,rfl,hk,hO,hq⟩
 obtain ⟨va4,vc4,rfl⟩:=zdh hO
 refine zR (zC (zN (Ql ?_)))
 refine zI ?_ ?_<;>intro hc20
 ·
  have hlt_k:k<m:=by have h:=hc20;simp at h;omega
  obtain ⟨p,hp⟩:=hLt.at hlt_k
  obtain ⟨p0,hp0⟩:=hLt.at (k:=0) (by omega)
  refine Qo (Qa (Ql (Qm (zR ?_))))
  refine zV (zX Zy hLt) ?_
  refine zV (Qp rfl Yr (fun hg=>by exact zyw hLt hp) rfl) ?_
  refine Qr K5 rfl rfl (fun b_9=>?_)
  refine zh VM ?_
  refine zN (Ql ?_)
  refine Va mixed (by kernel_rfl) ?_
  refine zq (Qf rfl VX) ?_
  refine zq (Qp rfl ZK (fun hg=>by exact Cells.s0 (vs:=[_,_,_,_,_,_,_,_,_,_,_,_,_,_]) rfl) rfl) ?_
  refine zq (Qi rfl) ?_
  refine zq (zX Zy hLt) ?_
  refine zq (Qf rfl VX) ?_
  refine zq (Qp rfl ZK (fun hg=>by exact Sl.seg (vs:=YZ p0.nw) (o:=4) hLt hp0 rfl) rfl) ?_
  refine zq (zds rfl rfl X6 rfl) ?_
  refine Vc ?_
  refine Qa ?_
  refine zI ?_ ?_<;>intro hc29
  ·
   have hq29:zak p.nw p0.nw=true:=hc29
   rw [←Q1 (d:=WT) hp0] at hq29
   refine Qg ?_
   refine zF Xn ?_
   refine zV (Qd rfl QK (fun hg=>by (repeat (first | exact zyq rfl | apply zyp | apply zyr)))) ?_
   refine zF Zu ?_
   refine zL Qt ?_
   refine Qq (ps:=[(0,_)]) (m:=[QP p.id]) Zf rfl (.cons rfl (.nil)) rfl (by simp [Qv]) (by decide) (by decide) rfl rfl (fun b_34=>?_)
   refine QW (v:=_) (ys:=[p.id].flatMap QP) (L:=L) rfl rfl Zf hO (by repeat (first | exact .cons .here .nil | exact QD | exact Qw | apply QC | apply QA)) ⟨rfl,fun _=>rfl,by repeat (first | exact zyt | apply zys | apply zyu)⟩ (JG _) (by omega) rfl rfl ?_
   intro v9 L9 hO9 _;obtain ⟨va9,vc9,rfl⟩:=zdh hO9;rw [←List.flatMap_append] at hO9
   refine zF Xn ?_
   refine ZG rfl rfl Zg rfl rfl (by (repeat (first | exact Upd.here | apply Upd.there | apply QI))) rfl ?_
   refine Qb (Qh (Qa (Qg (zB ?_))))
   refine zM (Qb ?_)
   first
   | exact zm (h:=⟨m-(k+1),by omega,k+1,_,_,_,rfl,rfl,rfl,rfl,by omega,by rw [zp9 hp hq29];exact hO9,by omega⟩)
  have hq29:zak p.nw p0.nw=false:=hc29
  rw [←Q1 (d:=WT) hp0] at hq29
  refine Qo (Qh (Qa (Qg (zB ?_))))
  refine zM (Qb ?_)
  first
  | exact zm (h:=⟨m-(k+1),by omega,k+1,_,_,_,rfl,rfl,rfl,rfl,by omega,by rw [zss hp hq29];exact hO,by omega⟩)
 have hge_k:m≤k:=by have h:=hc20;simp at h;omega
 have hke:k=m:=by omega
 refine QH (Qe (Qe (Qk (Qa (zR ?_)))))
 refine zF zbz ?_
 refine ZG rfl rfl Yf rfl rfl (by (repeat (first | exact Upd.here | apply Upd.there | apply QI))) rfl ?_
 refine zN (zR ?_)
 refine zV (Qp rfl YH (fun hg=>by (repeat (first | exact zyt | apply zys | apply zyu))) rfl) ?_
 refine zM ?_
 refine zQ Zy ?_
 refine zC ?_
 refine YO rfl rfl Vk rfl rfl rfl rfl (by (repeat (first | exact Upd.here | apply Upd.there | apply QI))) ?_
 refine zA (zN (Qs ?_))
 exact Zv rfl rfl rfl YH (vs:=[.int .i64 3,.int .i64 0,.slice none 0 0,.slice va4 _ vc4]) (by repeat (first | exact zyt | apply zys | apply zyu)) rfl (fun w hw=>by obtain ⟨I9,av9,c9,h1',h2',e9,h4'⟩:=OwnS.freeze (R:=[_,_]) hO Qv (by decide) hw;cases e9;exact ⟨_,I9,[],rfl,hIc.trans h1',h2'.drop,rfl,[.int .i64 3,.int .i64 0,.slice none 0 0,.slice va4 _ vc4],by rw [zul hm],_,_,_,_,_,_,rfl,.nil,by show Sl _ 1 QP _ _ _ (zrX _);rw [←zq9 hm hke];exact h4'⟩)
end
section
open Go Go.Kn Go.Proofs
theorem zqA:ElT Tryz.prog 146 145 1 8:=.of (by kernel_rfl)
theorem zaS:QX Tryz.prog 98 0 0:=.of (by kernel_rfl)
theorem zbe:QX Tryz.prog 98 1 1:=.of (by kernel_rfl)
theorem zoV:Fun Tryz.prog 119:=.of Tryz.func119 (by kernel_rfl) (by kernel_rfl)
theorem zoy:Fun Tryz.prog 120:=.of Tryz.func120 (by kernel_rfl) (by kernel_rfl)
theorem zrw:Fun Tryz.prog 121:=.of Tryz.func121 (by kernel_rfl) (by kernel_rfl)
theorem zo3:Fun Tryz.prog 122:=.of Tryz.func122 (by kernel_rfl) (by kernel_rfl)
theorem zoE:Fun Tryz.prog 123:=.of Tryz.func123 (by kernel_rfl) (by kernel_rfl)
theorem ztj:Fun Tryz.prog 70:=.of Tryz.func70 (by kernel_rfl) (by kernel_rfl)
theorem zr8:Fun Tryz.prog 71:=.of Tryz.func71 (by kernel_rfl) (by kernel_rfl)
theorem ztb:Fun Tryz.prog 72:=.of Tryz.func72 (by kernel_rfl) (by kernel_rfl)
theorem zt1:Fun Tryz.prog 73:=.of Tryz.func73 (by kernel_rfl) (by kernel_rfl)
theorem zsV:Fun Tryz.prog 74:=.of Tryz.func74 (by kernel_rfl) (by kernel_rfl)
theorem zq3:ScT Tryz.prog 145:=.of (by kernel_rfl)
theorem zhP:SlT Tryz.prog 146 145 1:=.of (by kernel_rfl)
theorem zwS {I:Qu}{t:Tx}{rows:List (List Int)}{es:List Em}{rd:List Int}{ps l:List Pt}{sg:List Sg}(hT:zgF I t rows es rd ps l sg)(s f:Int):Yc Tryz.prog 71 [.agg (Ka t).toArray,.agg #[.int .i64 s,.int .i64 f]] I [] (FrQ (or2 l s)):=by
 intro g H w hw
 refine qe Tryz.func71 Tryz.ntmps71 hw ?_
 have hIc:=zyv I
 have hSl:=hT.L.1
 have hbl:=hT.bl
 refine zR ?_
 refine Q5 rfl rfl rfl (fun b_2=>?_)
 refine Q5 rfl rfl rfl (fun b_3=>?_)
 refine Qr UM rfl rfl (fun b_4=>?_)
 refine zA (zN (Ql (zR ?_)))
 refine zF W6 ?_
 refine zL zc2 ?_
 refine zQ Zy ?_
 refine zM (zN (Qm ?_))
 refine zU [(3,_),(4,_),(9,_),(10,_)] (fun T L0 mz E I' loc'=>∃ (k:Nat),mz=t.ln-k∧E=(11,.int .i64 k)::T∧I=I'∧L0=loc'∧k≤t.ln∧(l.take k).any (inP s)=false) ?_ (h:=⟨0,rfl,rfl,rfl,rfl,Nat.zero_le _,rfl⟩)
 rintro mz E I' loc' ⟨k,rfl,rfl,rfl,rfl,hk,hno⟩
 refine zR (zC (zN (Ql ?_)))
 refine zI ?_ ?_<;>intro hc12
 ·
  have hlt_k:k<t.ln:=by have h:=hc12;simp at h;omega
  obtain ⟨p,hp⟩:=hSl.at hlt_k
  refine Qo (Qa (Ql (Qm (zR ?_))))
  refine zV (zX Zy hSl) ?_
  refine zV (Qp rfl Yr (fun hg=>by exact zyw hSl hp) rfl) ?_
  refine Qr K5 rfl rfl (fun b_7=>?_)
  refine zh VM ?_
  refine zN (zR ?_)
  refine zF KU ?_
  refine zL Qt ?_
  refine zC ?_
  refine zM ?_
  refine QG 3 rfl rfl rfl ?_
  refine zK (Qf rfl Ya) ?_
  refine zK (Qd rfl Qt (fun hg=>by exact QV.h0 rfl)) ?_
  refine zK (Zp rfl rfl VJ (fun hg=>by decide)) ?_
  refine zK (Qd rfl Qt (fun hg=>by exact QV.h2 rfl)) ?_
  refine zK (QJ rfl rfl rfl) ?_
  refine QO rfl rfl rfl rfl rfl ?_
  refine zN ?_
  refine zI ?_ ?_<;>intro hc24
  ·
   have hc24:inP s p=true:=hc24
   refine zR ?_
   refine zF Zu ?_
   refine zL Qt ?_
   refine Qq (ps:=[(0,_)]) (m:=[QP p.id]) Zf rfl (.cons rfl (.nil)) rfl (by simp [Qv]) (by decide) (by decide) rfl rfl (fun b_27=>?_)
   refine zV (QR (ps:=[(0,_),(3,_)]) [_,_,_,_] XX rfl rfl) ?_
   refine zh Vk ?_
   refine zA (zN (Qs (Qn (Qc (Qc (Qn (Qc ?_)))))))
   first
   | exact Zv rfl rfl rfl YH (vs:=[.int .i64 3,.int .i64 0,.slice none 0 0,.slice (some ⟨b_27,0,none⟩) 1 1]) (by repeat (first | exact zyt | apply zys | apply zyu)) rfl (fun w hw=>by obtain ⟨I9,h91,h92,h93⟩:=hw.freezeAll;exact ⟨_,I9,[],rfl,hIc.trans h91,h92,rfl,[.int .i64 3,.int .i64 0,.slice none 0 0,.slice (some ⟨b_27,0,none⟩) 1 1],by rw [za1 hno hp hc24],none,0,0,_,_,_,by rw [za1 hno hp hc24],by rw [za1 hno hp hc24];exact .nil,by rw [za1 hno hp hc24];exact Sl.lit (t:=3) [_] rfl Qv (h93 b_27 _ (by simp [QP]))⟩)
  have hc24:inP s p=false:=hc24
  refine Qo (Qh (Qa (Qg (zB ?_))))
  refine zM (Qb ?_)
  exact zm (h:=⟨t.ln-(k+1),by omega,k+1,rfl,rfl,rfl,rfl,by omega,YX hp hno hc24⟩)
 have hge_k:t.ln≤k:=by have h:=hc12;simp at h;omega
 rw [ZF hSl.len hge_k] at hno
 refine QH (Qe (Qe (Qk (Qa (zR ?_)))))
 refine zV (Qp rfl YH (fun hg=>by exact Cells.g0) rfl) ?_
 refine zh Vk ?_
 refine zA (zN (Qs ?_))
 first
 | exact Zv rfl rfl rfl YH (vs:=[.int .i64 0,.int .i64 0,.slice none 0 0,.slice none 0 0]) (by repeat (first | exact zyt | apply zys | apply zyu)) rfl (fun w hw=>⟨_,I,[],rfl,zyv _,hw.drop,rfl,[.int .i64 0,.int .i64 0,.slice none 0 0,.slice none 0 0],by rw [zfI hno],none,0,0,none,0,0,by rw [zfI hno];rfl,by rw [zfI hno];exact .nil,by rw [zfI hno];exact .nil⟩)
theorem zwd {I:Qu}{b1 b2:Nat}{t:Tx}{q:Nat}{f:Int}{h:Hd}{r rd:List Int}(h1:I b1=some (.cells #[.int .i64 (q:Nat),.int .i64 f] 104 (0,0)))(h2:I b2=some (.cells (Ka t).toArray 98 (0,0)))(hQ:Sl I 1 QP h.a h.n h.c r)(hR:Sl I 1 QP t.a3 t.n4 t.d3 rd)(hqr:q<r.length)(hqd:q<rd.length):Zx Tryz.prog 119 [.slice h.a h.n h.c,.pointer (some ⟨b1,0,none⟩),.pointer (some ⟨b2,0,none⟩)] I (.bool (r.getD q 0==rd.getD q 0)):=by
 intro g H w hw
 refine qe Tryz.func119 Tryz.ntmps119 hw ?_
 have hQl:=hQ.len
 have hRl:=hR.len
 refine zR (zA (zN (Ql ?_)))
 refine Va mixed (by kernel_rfl) ?_
 refine zq (Qi rfl) ?_
 refine zq (Zp rfl rfl VJ (fun hg=>by decide)) ?_
 refine zq (Qd rfl Qt (fun hg=>by exact QV.imm h1 rfl)) ?_
 refine zq (zX Qy hQ) ?_
 refine zq (Qd rfl Qt (fun hg=>by exact zyo (k:=q) hQ (Zj (d:=0) rfl (by omega)) rfl)) ?_
 refine zq (Qf rfl zbe) ?_
 refine zq (Qf rfl VQ) ?_
 refine zq (Qd rfl QK (fun hg=>by exact QV.imm h2 rfl)) ?_
 refine zq (Zp rfl rfl VJ (fun hg=>by decide)) ?_
 refine zq (Qd rfl Qt (fun hg=>by exact QV.imm h1 rfl)) ?_
 refine zq (zX Qy hR) ?_
 refine zq (Qd rfl Qt (fun hg=>by exact zyo (k:=q) hR (Zj (d:=0) rfl (by omega)) rfl)) ?_
 refine zq (QJ rfl rfl rfl) ?_
 refine zq (ZM rfl) ?_
 refine Vc ?_
 refine Qa (Qs ?_)
 exact zr rfl rfl (by rfl)
theorem zwt {I:Qu}{b1:Nat}{q:Nat}{f:Int}{h:Hd}{r:List Int}(h1:I b1=some (.cells #[.int .i64 (q:Nat),.int .i64 f] 104 (0,0)))(hQ:Sl I 1 QP h.a h.n h.c r)(hqr:q<r.length):Zx Tryz.prog 120 [.slice h.a h.n h.c,.pointer (some ⟨b1,0,none⟩)] I (.bool (zwe q r)):=by
 intro g H w hw
 refine qe Tryz.func120 Tryz.ntmps120 hw ?_
 have hQl:=hQ.len
 refine zR (zA ?_)
 refine zN (zR ?_)
 refine zM ?_
 refine zV (Zp rfl rfl VJ (fun hg=>by decide)) ?_
 refine zV (Qd rfl Qt (fun hg=>by exact QV.imm h1 rfl)) ?_
 refine zV (zX Qy hQ) ?_
 refine zV (Qd rfl Qt (fun hg=>by exact zyo (k:=q) hQ (Zj (d:=0) rfl (by omega)) rfl)) ?_
 refine zC ?_
 refine zM ?_
 refine QG 6 rfl rfl rfl ?_
 refine zK (Qi rfl) ?_
 refine zK (Zp rfl rfl VJ (fun hg=>by decide)) ?_
 refine zK (Qd rfl Qt (fun hg=>by exact QV.imm h1 rfl)) ?_
 refine zK (zX Qy hQ) ?_
 refine zK (Qd rfl Qt (fun hg=>by exact zyo (k:=q) hQ (Zj (d:=0) rfl (by omega)) rfl)) ?_
 refine zK (QJ rfl rfl rfl) ?_
 refine QO rfl rfl rfl rfl rfl ?_
 refine zA (zN (Qs ?_))
 exact zr rfl rfl (by rfl)
theorem zw8 {I:Qu}{b1:Nat}{q:Nat}{f:Int}(h1:I b1=some (.cells #[.int .i64 (q:Nat),.int .i64 f] 104 (0,0)))(e:Em):Zx Tryz.prog 122 [.agg (Yt e).toArray,.pointer (some ⟨b1,0,none⟩)] I (.bool (zx1 (q:Int) e)):=by
 intro g H w hw
 refine qe Tryz.func122 Tryz.ntmps122 hw ?_
 refine zR ?_
 refine Q5 rfl rfl rfl (fun b_2=>?_)
 refine zA ?_
 refine zN (zR ?_)
 refine zF VT ?_
 refine zL Qt ?_
 refine zV (Zp rfl rfl VJ (fun hg=>by decide)) ?_
 refine zV (Qd rfl Qt (fun hg=>by exact QV.imm h1 rfl)) ?_
 refine zC ?_
 refine zM ?_
 refine QG 5 rfl rfl rfl ?_
 refine zK (Qf rfl zb7) ?_
 refine zK (Qd rfl Qt (fun hg=>by exact QV.h0 rfl)) ?_
 refine zK (QJ rfl rfl rfl) ?_
 refine QO rfl rfl rfl rfl rfl ?_
 refine zA (zN (Qs ?_))
 exact zr rfl rfl (by rfl)
theorem zsg {I:Qu}{t:Tx}{rows:List (List Int)}{es:List Em}{rd:List Int}{ps l:List Pt}{sg:List Sg}(hT:zgF I t rows es rd ps l sg)(q:Nat)(f:Int)(hqd:q<rd.length)(hqr:∀ r∈rows,q<r.length):Yc Tryz.prog 72 [.agg (Ka t).toArray,.agg #[.int .i64 (q:Nat),.int .i64 f]] I [] (FrQ (or3 rows rd (q:Int) f)):=by
 intro g H w hw
 refine qe Tryz.func72 Tryz.ntmps72 hw ?_
 have hIc:=zyv I
 refine zR ?_
 refine Q5 rfl rfl rfl (fun b_2=>?_)
 refine Q5 rfl rfl rfl (fun b_3=>?_)
 refine Qr UM rfl rfl (fun b_4=>?_)
 refine zA (zN (Ql (zR ?_)))
 refine Qq (ps:=[(0,_),(1,_),(2,_)]) (m:=[QP (2:Int),QP (3:Int),QP (9:Int)]) Zf rfl (.cons rfl (.cons rfl (.cons rfl (.nil)))) rfl (by simp [Qv]) (by decide) (by decide) rfl rfl (fun b_7=>?_)
 refine zV (Zp rfl rfl VJ (fun hg=>by decide)) ?_
 refine zL Qt ?_
 refine UH (cap:=[]) (vs:=[_,_]) rfl rfl zcU QD (zkn.ofV fun I' hI' hL'=>JI (Sl.lit (t:=3) [2,3,9] rfl Qv (hL' b_7 _ (.head _))) (by decide) _) rfl rfl ?_
 refine zO (zN ?_)
 refine zI ?_ ?_<;>intro hc11
 ·
  have hf:isT f=false:=by rw [←zii];exact zrq hc11
  refine zR ?_
  refine zV (Qp rfl YH (fun hg=>by exact Cells.g1) rfl) ?_
  refine zh Vk ?_
  refine zA (zN (Qs (Qc ?_)))
  first
  | exact Zv rfl rfl rfl YH (vs:=[.int .i64 0,.int .i64 0,.slice none 0 0,.slice none 0 0]) (by repeat (first | exact zyt | apply zys | apply zyu)) rfl (fun w hw=>⟨_,I,[],rfl,hIc,hw.drop,rfl,[.int .i64 0,.int .i64 0,.slice none 0 0,.slice none 0 0],by rw [zeQ hf],none,0,0,none,0,0,by rw [zeQ hf];rfl,by rw [zeQ hf];exact .nil,by rw [zeQ hf];exact .nil⟩)
 have hf:isT f=true:=by rw [←zii];exact zd7 hc11
 refine Qo (Qa (Ql ?_))
 refine Ze (b:=b_2) (by repeat (first | exact Q8.here | apply Q8.there)) (fun I1 hI1 hb1=>?_)
 have hT:=hT.mono hI1;have hIc:=hIc.trans hI1
 have h2:=hb1
 refine Ze (b:=b_3) (by repeat (first | exact Q8.here | apply Q8.there)) (fun I2 hI2 hb2=>?_)
 have hT:=hT.mono hI2;have hIc:=hIc.trans hI2
 have h2:=hI2 _ _ h2
 have h3:=hb2
 refine Qg ?_
 refine zF zaS ?_
 refine zV (Qd rfl Ki (fun hg=>by exact .imm h2 rfl)) ?_
 refine zV (Zb (us:=[]) (vs:=[_,_]) rfl rfl) ?_
 refine qc (vs:=[_,_]) rfl zbo (zsP (cap:=[.pointer (some ⟨b_3,0,none⟩),.pointer (some ⟨b_2,0,none⟩)]) hT.V hT.b2 zoV (fun h r hr hQ=>zwd h3 h2 hQ hT.R (hqr r hr) hqd)) ?_
 refine zA (zN ?_)
 refine zY [(4,_)] (fun T L0 E I' loc'=>∃ (i:Int),E=(6,.int .i64 i)::T∧I2=I'∧L0=loc'∧i=zoP rows q (rd.getD q 0)) ?_ ?_
 ·
  refine zR (zM ?_)
  refine zC (zN ?_)
  refine zI ?_ ?_<;>intro hc18
  ·
   refine Qg ?_
   refine zF zaS ?_
   refine zV (Qd rfl Ki (fun hg=>by exact .imm h2 rfl)) ?_
   refine zV (Zb (us:=[]) (vs:=[_]) rfl rfl) ?_
   refine qc (vs:=[_,_]) rfl zbo (zsP (cap:=[.pointer (some ⟨b_3,0,none⟩)]) hT.V hT.b2 zoy (fun h r hr hQ=>zwt h3 hQ (hqr r hr))) ?_
   refine zA (Qb ?_)
   exact zm (h:=⟨_,rfl,rfl,rfl,zwW hc18⟩)
  refine Qo ?_
  exact zm (h:=⟨_,rfl,rfl,rfl,zwB hc18⟩)
 rintro E I' loc' ⟨i,rfl,rfl,rfl,hi⟩
 refine zR (zM ?_)
 refine Qq (ps:=[(0,_)]) (m:=[QP i]) Zf rfl (.cons rfl (.nil)) rfl (by simp [Qv]) (by decide) (by decide) rfl rfl (fun b_24=>?_)
 refine zV (QR (ps:=[(0,_),(2,_)]) [_,_,_,_] XX rfl rfl) ?_
 refine zh Vk ?_
 refine zA (zN (Qs ?_))
 first
 | exact Zv rfl rfl rfl YH (vs:=[.int .i64 1,.int .i64 0,.slice (some ⟨b_24,0,none⟩) 1 1,.slice none 0 0]) (by repeat (first | exact zyt | apply zys | apply zyu)) rfl (fun w hw=>by obtain ⟨I9,h91,h92,h93⟩:=hw.freezeAll;exact ⟨_,I9,[],rfl,hIc.trans h91,h92,rfl,[.int .i64 1,.int .i64 0,.slice (some ⟨b_24,0,none⟩) 1 1,.slice none 0 0],by rw [zb5 hf],_,_,_,none,0,0,by rw [zb5 hf],by rw [zb5 hf];exact Sl.lit (t:=3) [_] rfl Qv (by rw [←hi];exact h93 b_24 _ (by simp [QP])),by rw [zb5 hf];exact .nil⟩)
theorem ztY {I:Qu}{t:Tx}{rows:List (List Int)}{es:List Em}{rd:List Int}{ps l:List Pt}{sg:List Sg}(hT:zgF I t rows es rd ps l sg)(q:Nat)(f:Int):Yc Tryz.prog 73 [.agg (Ka t).toArray,.agg #[.int .i64 (q:Nat),.int .i64 f]] I [] (FrQ (or4 es (q:Int))):=by
 intro g H w hw
 refine qe Tryz.func73 Tryz.ntmps73 hw ?_
 have hIc:=zyv I
 refine zR ?_
 refine Q5 rfl rfl rfl (fun b_2=>?_)
 refine Q5 rfl rfl rfl (fun b_3=>?_)
 refine Qr UM rfl rfl (fun b_4=>?_)
 refine zA (zN (Ql ?_))
 refine Ze (b:=b_2) (by repeat (first | exact Q8.here | apply Q8.there)) (fun I1 hI1 hb1=>?_)
 have hT:=hT.mono hI1;have hIc:=hIc.trans hI1
 have h2:=hb1
 refine Ze (b:=b_3) (by repeat (first | exact Q8.here | apply Q8.there)) (fun I2 hI2 hb2=>?_)
 have hT:=hT.mono hI2;have hIc:=hIc.trans hI2
 have h2:=hI2 _ _ h2
 have h3:=hb2
 refine Qg ?_
 refine zF zbe ?_
 refine zF zbH ?_
 refine zV (Qd rfl zju (fun hg=>by exact .imm h2 rfl)) ?_
 refine zV (Zb (us:=[]) (vs:=[_]) rfl rfl) ?_
 refine qc (vs:=[_,_]) rfl zrw (zxm (cap:=[.pointer (some ⟨b_3,0,none⟩)]) hT.E hT.b3 zo3 (fun e he=>zw8 h3 e)) ?_
 refine zA ?_
 refine zN (zR ?_)
 refine zV (QR (ps:=[(0,_),(1,_)]) [_,_,_,_] XX rfl rfl) ?_
 refine zM ?_
 refine zh Vk ?_
 refine zA (zN (Qs ?_))
 exact Zv rfl rfl rfl YH (vs:=[.int .i64 2,.int .i64 2,.slice none 0 0,.slice none 0 0]) (by repeat (first | exact zyt | apply zys | apply zyu)) rfl (fun w hw=>⟨_,I2,[],rfl,hIc,hw.drop,rfl,[.int .i64 2,.int .i64 2,.slice none 0 0,.slice none 0 0],rfl,none,0,0,none,0,0,rfl,.nil,.nil⟩)
theorem zrb {I:Qu}{t:Tx}{rows:List (List Int)}{es:List Em}{rd:List Int}{ps l:List Pt}{sg:List Sg}(hT:zgF I t rows es rd ps l sg)(q:Nat)(f:Int)(hqd:q<rd.length)(hqr:∀ r∈rows,q<r.length):Yc Tryz.prog 74 [.agg (Ka t).toArray,.agg #[.int .i64 (q:Nat),.int .i64 f]] I [] (FrQ (or5 rows rd (q:Int))):=by
 intro g H w hw
 refine qe Tryz.func74 Tryz.ntmps74 hw ?_
 have hIc:=zyv I
 have hRl:=hT.R.len
 refine zR ?_
 refine Q5 rfl rfl rfl (fun b_2=>?_)
 refine Q5 rfl rfl rfl (fun b_3=>?_)
 refine Qr UM rfl rfl (fun b_4=>?_)
 refine zA (zN (Ql ?_))
 have hD:=zyv I
 refine Jn ?_
 refine Z8 I [(b_3,.cells #[.int .i64 (q:Nat),.int .i64 f] 104 (0,0)),(b_2,.cells (Ka t).toArray 98 (0,0))] mixed ?_
 refine zT 0 rfl (Qf rfl zaS) hD ?_
 refine zT 1 rfl (Qd rfl Ki (fun hg=>by exact QV.h1 rfl)) hD ?_
 refine zT 2 rfl (Zp rfl rfl VJ (fun hg=>by decide)) hD ?_
 refine zT 3 rfl (Qd rfl Qt (fun hg=>by exact QV.h0 rfl)) hD ?_
 refine zT 4 rfl (Qf rfl zbe) hD ?_
 refine zT 5 rfl (Qf rfl VQ) hD ?_
 refine zT 6 rfl (Qd rfl QK (fun hg=>by exact QV.h1 rfl)) hD ?_
 refine zT 7 rfl (Zp rfl rfl VJ (fun hg=>by decide)) hD ?_
 refine zT 8 rfl (Qd rfl Qt (fun hg=>by exact QV.h0 rfl)) hD ?_
 refine zT 9 rfl (QE rfl rfl Qy hT.R (fun hg=>by omega)) hD ?_
 refine zT 10 rfl (Qd rfl Qt (fun hg=>by exact zyo (k:=q) hT.R (Zj (d:=0) rfl (by omega)) rfl)) hD ?_
 refine qd 11 rfl ?_
 refine Qx (cap:=[]) (vs:=[_,_,_]) rfl rfl zoE .nil (zwE hT.V hT.b2 q hqr _) rfl rfl ?_
 rintro vv1 I1 L1 hI1 ⟨rfl,a9,c9,rfl,hH⟩
 have hIc:=hIc.trans hI1;have hD:=hD.trans hI1
 refine Qb ?_
 refine zD hD ?_
 refine zT 12 rfl (QR (ps:=[(0,_),(2,_)]) [_,_,_,_] XX rfl rfl) hD ?_
 refine qd 13 rfl ?_
 refine zh Vk ?_
 refine Qb ?_
 refine zD hD ?_
 refine zT 14 rfl (ZM rfl) hD ?_
 refine QF (by kernel_rfl) ?_
 refine QQ ?_
 refine Qa (Qs ?_)
 exact Zv rfl rfl rfl YH (vs:=[.int .i64 1,.int .i64 0,.slice a9 _ c9,.slice none 0 0]) (by repeat (first | exact zyt | apply zys | apply zyu)) rfl (fun w hw=>⟨_,I1,[],rfl,hIc,hw.drop,rfl,[.int .i64 1,.int .i64 0,.slice a9 _ c9,.slice none 0 0],rfl,_,_,_,none,0,0,rfl,hH,.nil⟩)
theorem zte {I:Qu}{t:Tx}{rows:List (List Int)}{es:List Em}{rd:List Int}{ps l:List Pt}{sg:List Sg}(hT:zgF I t rows es rd ps l sg)(s f:Int)(hrg:(or2 l s).2=false→∃ q:Nat,s=q∧q<rd.length∧∀ r∈rows,q<r.length){k:Nat}(hk:k<5)(hall:∀ j,j<k→(orK (onF ps) rows es rd l s f j).2=false):Yc Tryz.prog (70+k) [.agg (Ka t).toArray,.agg #[.int .i64 s,.int .i64 f]] I [] (FrQ (orK (onF ps) rows es rd l s f k)):=by
 match k,hk with
 | 0,_=>exact zsM hT s f
 | 1,_=>exact zwS hT s f
 | 2,_=>obtain ⟨q,rfl,h1,h2⟩:=hrg (hall 1 (by decide));exact zsg hT q f h1 h2
 | 3,_=>obtain ⟨q,rfl,h1,h2⟩:=hrg (hall 1 (by decide));exact ztY hT q f
 | 4,_=>obtain ⟨q,rfl,h1,h2⟩:=hrg (hall 1 (by decide));exact zrb hT q f h1 h2
theorem zvN {k:Nat}(hk:k<5):Fun Tryz.prog (70+k):=by
 match k,hk with
 | 0,_=>exact ztj
 | 1,_=>exact zr8
 | 2,_=>exact ztb
 | 3,_=>exact zt1
 | 4,_=>exact zsV
theorem zsj {I:Qu}{t:Tx}{rows:List (List Int)}{es:List Em}{rd:List Int}{ps l:List Pt}{sg:List Sg}(hT:zgF I t rows es rd ps l sg)(s f:Int)(hrg:(or2 l s).2=false→∃ q:Nat,s=q∧q<rd.length∧∀ r∈rows,q<r.length):Yc Tryz.prog 39 [.agg (Ka t).toArray,.agg #[.int .i64 s,.int .i64 f]] I [] (OgQ (zaB (onF ps) rows es rd l s f)):=by
 intro g H w hw
 refine qe Tryz.func39 Tryz.ntmps39 hw ?_
 have hIc:=zyv I
 refine zR ?_
 refine Q5 rfl rfl rfl (fun b_2=>?_)
 refine Q5 rfl rfl rfl (fun b_3=>?_)
 refine Qr UM rfl rfl (fun b_4=>?_)
 refine zN (Ql (zR ?_))
 refine zV (Qp rfl Je (fun hg=>by exact Cells.g2) rfl) ?_
 refine zV (Zb (us:=[_]) (vs:=[]) rfl rfl) ?_
 refine zV (Qp rfl Je (fun hg=>by exact Cells.g2) rfl) ?_
 refine zV (Zb (us:=[_]) (vs:=[]) rfl rfl) ?_
 refine zV (Qp rfl Je (fun hg=>by exact Cells.g2) rfl) ?_
 refine zV (Zb (us:=[_]) (vs:=[]) rfl rfl) ?_
 refine zV (Qp rfl Je (fun hg=>by exact Cells.g2) rfl) ?_
 refine zV (Zb (us:=[_]) (vs:=[]) rfl rfl) ?_
 refine zV (Qp rfl Je (fun hg=>by exact Cells.g2) rfl) ?_
 refine zV (Zb (us:=[_]) (vs:=[]) rfl rfl) ?_
 refine Qq (ps:=[(0,_),(1,_),(2,_),(3,_),(4,_)]) (m:=[zeg 70 t 0,zeg 70 t 1,zeg 70 t 2,zeg 70 t 3,zeg 70 t 4]) zqA rfl (.cons rfl (.cons rfl (.cons rfl (.cons rfl (.cons rfl (.nil)))))) rfl (by simp [zeg]) (by decide) (by decide) rfl rfl (fun b_19=>?_)
 refine zQ zhP ?_
 refine zM (Qb ?_)
 refine Ze (b:=b_19) (by repeat (first | exact Q8.here | apply Q8.there)) (fun I1 hI1 hb1=>?_)
 have hT:=hT.mono hI1;have hIc:=hIc.trans hI1
 have h9:=hb1
 have hFn:=Sl.lit (enc:=zeg 70 t) (size:=1) (t:=145) [0,1,2,3,4] rfl (fun _=>rfl) h9
 refine Qa (Qm ?_)
 refine zU [(3,_),(4,_),(19,_),(20,_)] (fun T L0 mz E I' loc'=>∃ (k:Nat),mz=5-k∧E=(21,.int .i64 k)::T∧HLe I1 I'∧L0=loc'∧k≤5∧∀ j,j<k→(orK (onF ps) rows es rd l s f j).2=false) ?_ (h:=⟨0,rfl,rfl,zyv _,rfl,Nat.zero_le _,fun j h=>absurd h (by omega)⟩)
 rintro mz E J2 loc' ⟨k,rfl,rfl,hJ,rfl,hk,hall⟩
 have hT:=hT.mono hJ;have hFn:=hFn.mono hJ;have hIc:=hIc.trans hJ
 have hB0:=hJ
 refine zR (zC (zN (Ql ?_)))
 refine zI ?_ ?_<;>intro hc22
 ·
  have hlt_k:k<5:=by have h:=hc22;simp at h;omega
  have hj:([0,1,2,3,4]:List Nat)[k]? =some k:=zym hlt_k
  refine Qo (Qa (Ql (Qm (zR ?_))))
  refine zV (zX zhP hFn (hb:=fun hg=>by simp only [List.length_cons,List.length_nil];omega)) ?_
  refine zV (Qd rfl zq3 (fun hg=>by exact zyo hFn hj rfl)) ?_
  refine zA ?_
  refine zN (zR ?_)
  refine zM ?_
  refine zV (Qp rfl zdO (fun hg=>by exact Cells.g1) rfl) ?_
  refine zhI (pre:=[_]) (cap:=[]) (vs:=[_]) rfl rfl (zvN hlt_k) .nil (zte hT s f hrg hlt_k hall) rfl rfl ?_
  rintro vv3 I3 L3 hI3 ⟨rfl,_,rfl,a1,n1,c1,a2,n2,c2,rfl,hw1,hw2⟩
  have hIc:=hIc.trans hI3;have hB0:=hB0.trans hI3
  refine zM ?_
  refine zE ?_
  refine zE ?_
  refine Qr UM rfl rfl (fun b_7=>?_)
  refine zh Vk ?_
  refine zA ?_
  refine zN (zR ?_)
  refine zM (zN ?_)
  refine zI ?_ ?_<;>intro hc31
  ·
   refine zR ?_
   refine zV (Qp rfl YH (fun hg=>by exact Cells.g0) rfl) ?_
   refine zh Vk ?_
   refine zN (Qs (Qn (Qc (Qc (Qn (Qc ?_))))))
   exact Kx rfl rfl YH (vs:=[.int .i64 _,.int .i64 _,.slice a1 n1 c1,.slice a2 n2 c2]) (by repeat (first | exact zyt | apply zys | apply zyu)) rfl (fun w hw=>⟨_,I3,[],rfl,hIc,hw.drop,rfl,_,_,_,_,_,_,by rw [←zj4 hlt_k hall hc31],by rw [←zj4 hlt_k hall hc31];exact hw1,by rw [←zj4 hlt_k hall hc31];exact hw2⟩)
  refine Qo (Qh (Qa (Qg (zB ?_))))
  refine zM (Qb ?_)
  exact zm (h:=⟨5-(k+1),by omega,k+1,rfl,rfl,hB0,rfl,by omega,fun j hj=>by rcases Nat.lt_succ_iff_lt_or_eq.1 hj with h | h;exact hall j h;rw [h];exact hc31⟩)
 exact absurd (hall 4 (by have h:=hc22;simp at h;omega)) (by simp [orK,or5])
end
section
open Go Go.Kn Go.Proofs
def zdg (e1:Int)(ps:List Pt)(bs:List Sg)(vs:List Int):Int:=if e1≠0 then e1 else zc7 ps bs vs
theorem znd {e1:Int}{ps:List Pt}{bs:List Sg}{vs:List Int}(h:e1≠0):zdg e1 ps bs vs=e1:=if_pos h
theorem zeY {e1:Int}{ps:List Pt}{bs:List Sg}{vs:List Int}(h:e1=0):zdg e1 ps bs vs=zc7 ps bs vs:=if_neg (by omega)
theorem Uc {ps:List Pt}{bs:List Sg}{vs:List Int}(h:zc7 ps bs vs=0):Sto ps∧ps.length≤512∧(∀ p∈ps,p.needs.length≤32)∧Wz bs=0∧vs.length≤512∧Ver ps vs∧zfH bs (Yh ps vs)=true∧zfR ps bs vs=U8 (onF ps) bs (Yh ps vs)∧(U8 (onF ps) bs (Yh ps vs)).length≤4096:=by
 have hs:=h
 unfold zc7 at h
 split at h
 ·
  exact absurd h (by assumption)
 ·
  split at h
  ·
   cases h
  ·
   rename_i hp hl
   have hp:XA ps bs vs=0:=by simpa using hp
   unfold XA at hp
   split at hp
   ·
    exact absurd hp (by assumption)
   ·
    rename_i hc
    have hc:JB ps=0:=by simpa using hc
    split at hp
    ·
     exact absurd hp (by assumption)
    ·
     rename_i hg
     split at hp
     ·
      cases hp
     ·
      rename_i hv
      split at hp
      ·
       rename_i hb
       rw [Bool.and_eq_true] at hb
       have hk:=Ky hc
       refine ⟨zbI hc,hk.1,fun p hm=>?_,by simpa using hg,by omega,(Xo (Xb hc)).1 hb.1,hb.2,?_,by omega⟩
       ·
        have h0:JO p=0:=J9.1 hk.2.1 _ (List.mem_map.2 ⟨p,hm,rfl⟩)
        unfold JO at h0
        split at h0
        ·
         cases h0
        ·
         omega
       ·
        unfold zfR zgD;rw [if_neg (by rw [hs];simp)]
      ·
       cases hp
def OpQ (e:Int)(rows:List (List Int))(es:List Em)(rd:List Int)(ps l:List Pt)(s:List Sg)(v:Value)(I:Qu)(L:Go.Kn.Loc):Prop:=
 L=[]∧∃ vs,v= .tuple #[.agg vs.toArray,.int .i64 e]∧vs.length=8∧Yq vs=true∧(e=0→∃ t,vs=Ka t∧zgF I t rows es rd ps l s)
theorem zeI {α β:Type}[DecidableEq α]{m:List (α×β)}{a:α}{b:β}:ZC (Yv m a b) a=some b:=by rw [YA,if_pos rfl]
theorem zkr {α β:Type}[DecidableEq α]{m:List (α×β)}{a a':α}{b:β}(h:a≠a'):ZC (Yv m a b) a'=ZC m a':=by rw [YA,if_neg h]
theorem zeJ {ws:List Wr}{rows:List (List Int)}{rd:List Int}:∀ {k:Nat} {l:List Sg},Ws ws rows rd k=some l→l.length≤k
 | 0,l,h=>by cases h;exact Nat.le_refl _
 | k+1,l,h=>by
  unfold Ws at h
  cases h1:Ws ws rows rd k with
  | none=>rw [h1] at h;cases h
  | some l1=>
   rw [h1] at h
   have h2:=zeJ h1
   dsimp only at h
   split at h
   ·
    cases h
   ·
    cases h;omega
   ·
    cases h;rw [List.length_append,List.length_singleton];omega
theorem za9 {ws:List Wr}{rows:List (List Int)}{no:Int}{cl:List Int}{es:List Em}{rd:List Int}:(Vf ws rows no cl es rd).length≤rd.length:=by
 by_cases h:Kl ws rows no cl es rd=0
 ·
  unfold Vf
  rw [if_neg (by omega)]
  cases h1:Ws ws rows rd rd.length with
  | none=>exact Nat.zero_le _
  | some l=>exact zeJ h1
 ·
  rw [zka h];exact Nat.zero_le _
theorem zi2 {vs:List Int}{a:Int}:vs.any (fun y=>a==y)=vs.any (· ==a):=by congr 1;funext y;rw [Bool.eq_iff_iff,beq_iff_eq,beq_iff_eq];exact eq_comm
theorem zqI {ps:List Pt}(hL:Lst ps){k:Nat}{p:Pt}(hp:ps[k]? =some p){n:Int}(hn:n∈p.needs):p.id≠n:=by
 have h1:=hL.on_lt (hL.on_need (List.mem_of_getElem? hp) hn)
 omega
end
section
open Go Go.Kn Go.Proofs
theorem zbs:QX Tryz.prog 98 4 7:=.of (by kernel_rfl)
theorem zmL:Fun Tryz.prog 44:=.of Tryz.func44 (by kernel_rfl) (by kernel_rfl)
theorem znv:Fun Tryz.prog 45:=.of Tryz.func45 (by kernel_rfl) (by kernel_rfl)
theorem zvn:Fun Tryz.prog 68:=.of Tryz.func68 (by kernel_rfl) (by kernel_rfl)
theorem zu8:PlT Tryz.prog 98 #[(0,1),(1,4),(5,1),(6,1),(7,1)] (.agg #[(.slice none 0 0),(.int .i64 0),(.slice none 0 0),(.slice none 0 0),(.slice none 0 0),(.map none),(.slice none 0 0),(.slice none 0 0)]):=⟨.of (by kernel_rfl),by kernel_rfl,fun w=>by kernel_rfl⟩
theorem zaC:SzT Tryz.prog 98 8:=.of (by kernel_rfl)
theorem zpB:Yn Tryz.prog 98 (.agg #[(.slice none 0 0),(.int .i64 0),(.slice none 0 0),(.slice none 0 0),(.slice none 0 0),(.map none),(.slice none 0 0),(.slice none 0 0)]):=.of (by kernel_rfl)
theorem zrS {I:Qu}{ref r:Nat}{sn s0:List (Int×Bool)}{A B:Int→Bool}(hsn:I ref=some (ZN (Value.int .i64) Value.bool sn))(hsq:XH sn A)(hs0:XH s0 B):Yc Tryz.prog 68 [.map (some r),.map (some ref)] I [(r,ZN (Value.int .i64) Value.bool s0)] (fun v I' L=>v= .tuple #[]∧I'=I∧∃ s,L=[(r,ZN (Value.int .i64) Value.bool s)]∧XH s (fun x=>A x||B x)):=by
 intro g H w hw
 refine qe Tryz.func68 Tryz.ntmps68 hw ?_
 refine zR (zM ?_)
 refine Js (ek:=Value.int .i64) (ev:=Value.bool) (m:=sn) rfl WK rfl rfl (.inl hsn) (fun b_7=>?_)
 refine zN (Qm ?_)
 refine zU [(0,_),(7,_)] (fun T L0 mz E I' loc'=>∃ (seen:List Nat) (s:List (Int×Bool)),mz=sn.length-seen.length∧E=T∧I=I'∧[(b_7,YK ref sn.length seen),(r,ZN (Value.int .i64) Value.bool s)]=loc'∧XH s (fun x=>zmc sn seen x||B x)∧seen.Nodup∧∀ i∈seen,i<sn.length) ?_ (h:=⟨[],_,rfl,rfl,rfl,rfl,hs0.congr (fun x=>by rw [zbJ,Bool.false_or]),.nil,fun i h=>by cases h⟩)
 rintro mz E I' loc' ⟨seen,s,rfl,rfl,rfl,rfl,hs,hnd2,hlt⟩
 have hsl:=Jg hnd2 hlt
 refine zR ?_
 refine Jt (ek:=Value.int .i64) (ev:=Value.bool) (m:=sn) (fun s'=>[(b_7,YK ref sn.length s'),(r,ZN (Value.int .i64) Value.bool s)]) rfl (fun s'=>.here) rfl rfl rfl rfl rfl (.inl hsn) (by simp) ?_
 intro t tv s' hno hyes
 refine zN (Ql ?_)
 refine zI ?_ ?_<;>intro hc9
 ·
  obtain ⟨i,q,hq,hns,rfl⟩:=hyes hc9
  refine Qo (Qa (Qm (zR ?_)))
  refine zV (Jq (ek:=Value.int .i64) (ev:=Value.bool) (m:=sn) (p:=q) (seen:=seen) (i:=i) rfl (.inl hsn) (.inr (by simp)) hq) ?_
  refine zE ?_
  refine zE ?_
  refine zA ?_
  refine zA (zN (Qg ?_))
  refine zM ?_
  refine zM ?_
  refine zM ?_
  refine Q4 (m:=s) (ek:=Value.int .i64) (ev:=Value.bool) (a:=q.1) q.2 WK ZD rfl rfl rfl rfl (by repeat (first | exact Upd.here | apply Upd.there | apply QI)) ?_
  refine Qb (Qh ?_)
  have hnd3:(seen++[i]).Nodup:=List.nodup_append.2 ⟨hnd2,by simp,fun a ha b hb e=>hns (by simp at hb;subst hb;subst e;exact ha)⟩
  have hlt3:∀ j∈seen++[i],j<sn.length:=fun j hj=>(List.mem_append.1 hj).elim (hlt j) (fun h=>by simp at h;subst h;exact (List.getElem?_eq_some_iff.1 hq).1)
  have hsl2:=Jg hnd3 hlt3
  rw [List.length_append,List.length_singleton] at hsl2
  exact zm (h:=⟨sn.length-(seen++[i]).length,by rw [List.length_append,List.length_singleton];omega,seen++[i],Yv s q.1 q.2,rfl,rfl,rfl,rfl,by rw [hsq.all q (List.mem_of_getElem? hq)];exact (hs.put q.1).congr (fun x=>by rw [zaa hq,Bool.or_assoc]),hnd3,hlt3⟩)
 obtain ⟨rfl,hall⟩:=hno hc9
 refine QH (Qe (Qe (Qk ?_)))
 exact Vp (YJ rfl (fun w hw=>⟨_,I,_,rfl,zyv _,hw.subL (.drop .refl),rfl,rfl,s,rfl,hs.congr (fun x=>by rw [zbM hsq hall x])⟩))
theorem znS {I:Qu}{av:Option Addr}{n c:Nat}{ws:List Wr}(hW0:SlW I av n c ws)(hn:n≤100000){bv:Option Addr}{n2 c2:Nat}{rows:List (List Int)}(hVn:SlN I bv n2 c2 rows)(hn2:n2≤100000){ea1:Option Addr}{en1 ec1:Nat}{ea2:Option Addr}{en2 ec2:Nat}{ea3:Option Addr}{en3 ec3:Nat}{xs:List Int}{es:List Em}{rd:List Int}(hX1:Sl I 1 QP ea1 en1 ec1 xs)(hX2:Sl I 3 Yt ea2 en2 ec2 es)(hX3:Sl I 1 QP ea3 en3 ec3 rd)(hm1:en1≤100000)(hm2:en2≤100000)(hm3:en3≤100000)(no:Int){pv:Option Addr}{pn pc:Nat}{ps:List Pt}(hP:SlP I pv pn pc ps)(hpn:pn≤100000){dv:Option Addr}{n3 c3:Nat}{vs:List Int}(hVs:Sl I 1 QP dv n3 c3 vs)(hn3:n3≤100000)(hDb:VF I):Yc Tryz.prog 36 [.slice av n c,.slice bv n2 c2,.agg (Z3 no ea1 en1 ec1 ea2 en2 ec2 ea3 en3 ec3).toArray,.slice pv pn pc,.slice dv n3 c3] I [] (OpQ (zdg (Kl ws rows no xs es rd) ps (Vf ws rows no xs es rd) vs) rows es rd ps (Yh ps vs) (U8 (onF ps) (Vf ws rows no xs es rd) (Yh ps vs))):=by
 intro g H w hw
 refine qe Tryz.func36 Tryz.ntmps36 hw ?_
 have hIc:=zyv I
 have hX3l:=hX3.len
 refine zR ?_
 refine Q5 rfl rfl rfl (fun b_7=>?_)
 refine Qr zpB rfl rfl (fun b_10=>?_)
 refine zA ?_
 refine zN (zR ?_)
 refine zM ?_
 refine zM ?_
 refine zV (Qp rfl ZW (fun hg=>by exact Cells.g1) rfl) ?_
 refine Qx (cap:=[]) (vs:=[_,_,_]) rfl rfl zmL .nil (Go.Proofs.YtodakphagkommaaGreatDoor.w_Signs hW0 hn hVn hn2 hX1 hX2 hX3 hm1 hm2 hm3 no hDb (fun e=>e ▸ zjk)) rfl rfl ?_
 rintro vv1 I1 L1 hI1 ⟨rfl,as9,cs9,rfl,hSg⟩
 have hVn:=hVn.mono hI1;have hX2:=hX2.mono hI1;have hX3:=hX3.mono hI1;have hP:=hP.mono hI1;have hVs:=hVs.mono hI1;have hIc:=hIc.trans hI1
 have hSg:Sl I1 14 YZ as9 (Vf ws rows no xs es rd).length cs9 (Vf ws rows no xs es rd):=hSg
 refine zM ?_
 refine zE ?_
 refine zE ?_
 refine zA ?_
 refine zA (zN (Ql (zR ?_)))
 refine zM ?_
 refine zC (zN ?_)
 refine zI ?_ ?_<;>intro hc25
 ·
  have he1:(Kl ws rows no xs es rd)≠0:=by simpa using hc25
  refine zR ?_
  refine zV (Qp rfl Je (fun hg=>by exact Cells.g0) rfl) ?_
  refine zM ?_
  refine zh zaC ?_
  refine zA (zN (Qs (Qc ?_)))
  first
  | exact Zv rfl rfl rfl Je (vs:=[.slice none 0 0,.int .i64 0,.slice none 0 0,.slice none 0 0,.slice none 0 0,.map none,.slice none 0 0,.slice none 0 0]) (by repeat (first | exact zyt | apply zys | apply zyu)) rfl (fun w hw=>⟨_,I1,[],rfl,hIc,hw.drop,rfl,[.slice none 0 0,.int .i64 0,.slice none 0 0,.slice none 0 0,.slice none 0 0,.map none,.slice none 0 0,.slice none 0 0],by rw [znd he1]<;>rfl,rfl,rfl,fun h=>absurd (znd he1 ▸ h) he1⟩)
 have he1:(Kl ws rows no xs es rd)=0:=by simpa using hc25
 refine Qo (Qa (zR (zM ?_)))
 refine zV (Qp rfl ZW (fun hg=>by exact Cells.g1) rfl) ?_
 refine ZE rfl rfl (fun r_30=>?_)
 refine zV (QR (ps:=[(0,_),(1,_),(2,_)]) [_,_,_,_,_,_,_,_] zu8 rfl rfl) ?_
 refine zh zaC ?_
 refine zN (Ql (zR (zM ?_)))
 refine zM ?_
 refine zM ?_
 refine Qx (cap:=[]) (vs:=[_,_,_]) rfl rfl znv .nil (w_Signs hP hpn hSg (by have:=za9 (ws:=ws) (rows:=rows) (no:=no) (cl:=xs) (es:=es) (rd:=rd);omega) hVs hn3) rfl rfl ?_
 rintro vv2 I2 L2 hI2 ⟨rfl,as8,cs8,rfl,hSs⟩
 have hVn:=hVn.mono hI2;have hX2:=hX2.mono hI2;have hX3:=hX3.mono hI2;have hP:=hP.mono hI2;have hVs:=hVs.mono hI2;have hIc:=hIc.trans hI2
 have hSs:Sl I2 14 YZ as8 (zfR ps (Vf ws rows no xs es rd) vs).length cs8 (zfR ps (Vf ws rows no xs es rd) vs):=hSs
 refine zM ?_
 refine zE ?_
 refine zE ?_
 refine zF zbs ?_
 refine zS znw ?_
 refine zA ?_
 refine zN (zR ?_)
 refine zM ?_
 refine zC (zN ?_)
 refine zI ?_ ?_<;>intro hc41
 ·
  have he2:zc7 ps (Vf ws rows no xs es rd) vs≠0:=by simpa using hc41
  have he3:(zdg (Kl ws rows no xs es rd) ps (Vf ws rows no xs es rd) vs)≠0:=by rw [zeY he1];exact he2
  refine zR ?_
  refine zV (Qp rfl Je (fun hg=>by exact Cells.g1) rfl) ?_
  refine zM ?_
  refine zh zaC ?_
  refine zA (zN (Qs (Qc ?_)))
  first
  | exact Zv rfl rfl rfl Je (vs:=[.slice bv n2 c2,.int .i64 no,.slice ea1 en1 ec1,.slice ea2 en2 ec2,.slice ea3 en3 ec3,.map (some r_30),.slice none 0 0,.slice as8 (zfR ps (Vf ws rows no xs es rd) vs).length cs8]) (by repeat (first | exact zyt | apply zys | apply zyu)) rfl (fun w hw=>⟨_,I2,[],rfl,hIc,hw.drop,rfl,[.slice bv n2 c2,.int .i64 no,.slice ea1 en1 ec1,.slice ea2 en2 ec2,.slice ea3 en3 ec3,.map (some r_30),.slice none 0 0,.slice as8 (zfR ps (Vf ws rows no xs es rd) vs).length cs8],by rw [zeY he1]<;>rfl,rfl,rfl,fun h=>absurd h he3⟩)
 have he2:zc7 ps (Vf ws rows no xs es rd) vs=0:=by simpa using hc41
 obtain ⟨hsto,hpl,hnd,hbg,hvl,hver,hfit,hsf,hsl⟩:=Uc he2
 have hL:=hsto.lst
 refine Qo (Qa (Ql (zR (zM ?_))))
 refine zQ Zy ?_
 refine zM (zN (Qm ?_))
 refine zU [(4,_),(10,_),(44,_),(45,_)] (fun T L0 mz E I' loc'=>∃ (k:Nat) (m:List (Int×Nat)) (v:Value) (q:Nat) (L:Go.Kn.Loc),mz=pn-k∧E=(46,.int .i64 k)::T∧HLe I2 I'∧L++[(r_30,ZN (Value.int .i64) zca m),(b_10,.cells #[.slice bv n2 c2,.int .i64 no,.slice ea1 en1 ec1,.slice ea2 en2 ec2,.slice ea3 en3 ec3,.map (some r_30),v,.slice as8 (zfR ps (Vf ws rows no xs es rd) vs).length cs8] 98 (0,0)),(b_7,.cells (Z3 no ea1 en1 ec1 ea2 en2 ec2 ea3 en3 ec3).toArray 26 (0,0))]=loc'∧k≤pn∧OnL I' m (ps.take k)∧OwnS 57 19 v q (((ps.take k).filter (fun p=>vs.any (· ==p.id))).flatMap Yw) L∧q≤k) ?_ (h:=⟨0,[],_,0,[],rfl,rfl,zyv _,rfl,Nat.zero_le _,OnL.nil,OwnS.nil,Nat.le_refl _⟩)
 rintro mz E J3 loc' ⟨k,m,v,q,L,rfl,rfl,hJ,rfl,hk,hm,hO,hq⟩
 have hVn:=hVn.mono hJ;have hX2:=hX2.mono hJ;have hX3:=hX3.mono hJ;have hP:=hP.mono hJ;have hVs:=hVs.mono hJ;have hSs:=hSs.mono hJ;have hIc:=hIc.trans hJ
 have hB0:=hJ
 obtain ⟨va6,vc6,rfl⟩:=zdh hO
 refine zR (zC (zN (Ql ?_)))
 refine zI ?_ ?_<;>intro hc47
 ·
  have hlt_k:k<pn:=by have h:=hc47;simp at h;omega
  obtain ⟨p,hp,hN⟩:=hP.at hlt_k
  have hpm:=List.mem_of_getElem? hp
  have hN:Sl J3 1 QP p.a p.n p.c p.needs:=hN
  have hpn2:=hnd p hpm
  have hNl:=hN.len
  refine Qo (Qa (Ql (Qm (zR ?_))))
  refine zV (QE rfl rfl Zy hP.1 (fun hg=>by omega)) ?_
  refine zV (Qp rfl Yr (fun hg=>by exact zyw hP.1 hp) rfl) ?_
  refine Qr K5 rfl rfl (fun b_14=>?_)
  refine zh VM ?_
  refine zN (zR ?_)
  refine zF UJ ?_
  refine zV (Qd rfl zcW (fun hg=>by (repeat (first | exact zyq rfl | apply zyp | apply zyr)))) ?_
  refine zF Zu ?_
  refine zL Qt ?_
  refine ZE rfl rfl (fun r_54=>?_)
  refine Q4 (m:=m) (ek:=Value.int .i64) (ev:=zca) (a:=p.id) r_54 zce ZD rfl rfl rfl rfl (by (repeat (first | exact Upd.here | apply Upd.there | apply QI))) ?_
  refine zN (Ql (zR ?_))
  refine zF KV ?_
  refine zL QK ?_
  refine zQ Qy ?_
  refine zM (zN (Qm ?_))
  refine zU [(4,_),(10,_),(14,_),(44,_),(45,_),(46,_),(56,_),(57,_)] (fun T L0 mz E I' loc'=>∃ (j:Nat) (s:List (Int×Bool)),mz=p.n-j∧E=(58,.int .i64 j)::T∧J3=I'∧(r_54,ZN (Value.int .i64) Value.bool s)::(b_14,.cells (Yw p).toArray 57 (0,0))::(L++[(r_30,ZN (Value.int .i64) zca (Yv m p.id r_54)),(b_10,.cells #[.slice bv n2 c2,.int .i64 no,.slice ea1 en1 ec1,.slice ea2 en2 ec2,.slice ea3 en3 ec3,.map (some r_30),.slice va6 q vc6,.slice as8 (zfR ps (Vf ws rows no xs es rd) vs).length cs8] 98 (0,0)),(b_7,.cells (Z3 no ea1 en1 ec1 ea2 en2 ec2 ea3 en3 ec3).toArray 26 (0,0))])=loc'∧j≤p.n∧XH s (fun x=>(p.needs.take j).any fun n=>n==x||onF (ps.take k) n x)) ?_ (h:=⟨0,[],rfl,rfl,rfl,rfl,Nat.zero_le _,XH.nil⟩)
  rintro mz E I' loc' ⟨j,s,rfl,rfl,rfl,rfl,hj,hs⟩
  refine zR (zC (zN (Ql ?_)))
  refine zI ?_ ?_<;>intro hc59
  ·
   have hlt_j:j<p.n:=by have h:=hc59;simp at h;omega
   obtain ⟨y,hy⟩:=hN.at hlt_j
   obtain ⟨ref,hget,sn,hsn,hsq⟩:=hm.get (hL.before hp (List.mem_of_getElem? hy))
   have hpy:p.id≠y:=zqI hL hp (List.mem_of_getElem? hy)
   refine Qo (Qa (Ql (Qm (zR ?_))))
   refine zV (zX Qy hN) ?_
   refine zV (Qd rfl Qt (fun hg=>by exact zyo hN hy rfl)) ?_
   refine zA ?_
   refine zN (zR ?_)
   refine zF UJ ?_
   refine zV (Qd rfl zcW (fun hg=>by (repeat (first | exact zyq rfl | apply zyp | apply zyr)))) ?_
   refine zF Zu ?_
   refine zL Qt ?_
   refine zV (YD (m:=(Yv m p.id r_54)) (ek:=Value.int .i64) (ev:=zca) (a:=p.id) zeI zce ZD rfl rfl (fun _=>.inr (by simp))) ?_
   refine zM ?_
   refine Q4 (m:=s) (ek:=Value.int .i64) (ev:=Value.bool) (a:=y) true WK ZD rfl rfl rfl rfl (by repeat (first | exact Upd.here | apply Upd.there | apply QI)) ?_
   refine zN (Qg ?_)
   refine zF UJ ?_
   refine zV (Qd rfl zcW (fun hg=>by (repeat (first | exact zyq rfl | apply zyp | apply zyr)))) ?_
   refine zF Zu ?_
   refine zL Qt ?_
   refine zV (YD (m:=(Yv m p.id r_54)) (ek:=Value.int .i64) (ev:=zca) (a:=p.id) zeI zce ZD rfl rfl (fun _=>.inr (by simp))) ?_
   refine zF UJ ?_
   refine zV (Qd rfl zcW (fun hg=>by (repeat (first | exact zyq rfl | apply zyp | apply zyr)))) ?_
   refine zM ?_
   refine zV (YD (m:=(Yv m p.id r_54)) (ek:=Value.int .i64) (ev:=zca) (a:=y) ((zkr hpy).trans hget) zce ZD rfl rfl (fun _=>.inr (by simp))) ?_
   refine Qx (cap:=[]) (vs:=[_,_]) rfl rfl zvn (.cons .here .nil) (zrS hsn hsq (hs.put y)) rfl rfl ?_
   rintro vv5 I5 L5 hI5 ⟨rfl,rfl,s2,rfl,hs2⟩
   refine Qb (Qh (Qa (Qg (zB ?_))))
   refine zM (Qb ?_)
   exact zm (h:=⟨p.n-(j+1),by omega,j+1,_,rfl,rfl,rfl,rfl,by omega,hs2.congr (fun x=>by rw [JS hy];rw [Bool.eq_iff_iff];simp;grind)⟩)
  have hge_j:p.n≤j:=by have h:=hc59;simp at h;omega
  refine QH (Qe (Qe (Qk (Qa (Ql ?_)))))
  refine Ze .here (fun I6 hI6 hb6=>?_)
  have hVs:=hVs.mono hI6;have hm:=hm.mono hI6;have hB0:=hB0.trans hI6
  have hbx:=hb6
  have hst6:OnL I6 (Yv m p.id r_54) (ps.take (k+1)):=OnL.step hL hp hm hbx (by rw [ZF hN.len hge_j] at hs;exact hs)
  refine Qg (zM ?_)
  refine zF Zu ?_
  refine zL Qt ?_
  refine qc (vs:=[_,_]) rfl zcU (JI hVs hn3 _) ?_
  refine zN ?_
  refine zI ?_ ?_<;>intro hc82
  ·
   have hin:vs.any (· ==p.id)=true:=by rw [←zi2];exact hc82
   refine Qg ?_
   refine zF W6 ?_
   refine zV (Qd rfl zc2 (fun hg=>by (repeat (first | exact zyq rfl | apply zyp | apply zyr)))) ?_
   refine zV (Qp rfl Yr (fun hg=>by exact Cells.g0) rfl) ?_
   refine Qq (ps:=[(0,_)]) (m:=[Yw p]) UK rfl (.cons rfl (.nil)) rfl (by simp [QY]) (by decide) (by decide) rfl rfl (fun b_86=>?_)
   refine QW (v:=_) (ys:=[p].flatMap Yw) (L:=L) rfl rfl UK hO (by repeat (first | exact .cons .here .nil | exact QD | exact Qw | apply QC | apply QA)) ⟨rfl,fun _=>rfl,by repeat (first | exact zyt | apply zys | apply zyu)⟩ (zlr _) (by omega) rfl rfl ?_
   intro v9 L9 hO9 _;obtain ⟨va9,vc9,rfl⟩:=zdh hO9;rw [←List.flatMap_append] at hO9
   refine zF W6 ?_
   refine ZG rfl rfl znu rfl rfl (by (repeat (first | exact Upd.here | apply Upd.there | apply QI))) rfl ?_
   refine Qb (Qh (Qa (Qg (zB ?_))))
   refine zM (Qb ?_)
   first
   | exact zm (h:=⟨pn-(k+1),by omega,k+1,_,_,_,_,rfl,rfl,hB0,rfl,by omega,hst6,by rw [Wc hp hin];exact hO9,by omega⟩)
  have hin:vs.any (· ==p.id)=false:=by rw [←zi2];exact hc82
  refine Qo (Qh (Qa (Qg (zB ?_))))
  refine zM (Qb ?_)
  first
  | exact zm (h:=⟨pn-(k+1),by omega,k+1,_,_,_,_,rfl,rfl,hB0,rfl,by omega,hst6,by rw [zaA hp hin];exact hO,by omega⟩)
 have hge_k:pn≤k:=by have h:=hc47;simp at h;omega
 rw [ZF hP.len hge_k] at hm hO
 refine QH (Qe (Qe (Qk (Qa (zR ?_)))))
 refine zV (Qp rfl Je (fun hg=>by (repeat (first | exact zyt | apply zys | apply zyu))) rfl) ?_
 refine YO rfl rfl zaC rfl rfl rfl rfl (by (repeat (first | exact Upd.here | apply Upd.there | apply QI))) ?_
 refine zA (zN (Qs ?_))
 first
 | exact Zv rfl rfl rfl Je (vs:=[.slice bv n2 c2,.int .i64 no,.slice ea1 en1 ec1,.slice ea2 en2 ec2,.slice ea3 en3 ec3,.map (some r_30),.slice va6 q vc6,.slice as8 (zfR ps (Vf ws rows no xs es rd) vs).length cs8]) (by repeat (first | exact zyt | apply zys | apply zyu)) rfl (fun w hw=>by obtain ⟨I9,av9,c9,h1',h2',e9,h4'⟩:=OwnS.freeze (R:=[_,_,_]) hO QY (by decide) hw;cases e9;obtain ⟨I8,h81,h82,h83⟩:=h2'.freezeAll;exact ⟨_,I8,[],rfl,(hIc.trans h1').trans h81,h82,rfl,[.slice bv n2 c2,.int .i64 no,.slice ea1 en1 ec1,.slice ea2 en2 ec2,.slice ea3 en3 ec3,.map (some r_30),.slice va6 q vc6,.slice as8 (zfR ps (Vf ws rows no xs es rd) vs).length cs8],by rw [zeY he1,he2],rfl,rfl,fun _=>⟨⟨bv,n2,c2,no,ea1,en1,ec1,ea2,en2,ec2,ea3,en3,ec3,r_30,va6,q,vc6,as8,_,cs8⟩,rfl,⟨(hVn.mono h1').mono h81,(hX2.mono h1').mono h81,(hX3.mono h1').mono h81,⟨m,h83 r_30 _ (by simp),(hm.mono h1').mono h81⟩,⟨h4'.mono h81,fun z hz=>((hP.2 z (List.mem_filter.1 hz).1).mono h1').mono h81⟩,by rw [←hsf];exact (hSs.mono h1').mono h81,hn2,hm2,hm3,by show q≤100000;omega,by show (zfR ps (Vf ws rows no xs es rd) vs).length≤100000;rw [hsf];omega,fun z hz=>⟨z,(List.mem_filter.1 hz).1,rfl⟩⟩⟩⟩)
end
section
open Go Go.Kn Go.Proofs
section
variable {ws:List Wr} {rows:List (List Int)} {no:Int} {cl:List Int} {es:List Em} {rd:List Int}
theorem zvQ (h:Kl ws rows no cl es rd=0):zai ws=0∧Uw ws=rows∧WS rows no cl es rd=0∧Ws ws rows rd rd.length=some (Vf ws rows no cl es rd):=by
 have h0:=h
 unfold Kl at h
 split at h
 ·
  exact absurd h (by assumption)
 ·
  split at h
  ·
   cases h
  ·
   split at h
   ·
    exact absurd h (by assumption)
   ·
    split at h
    ·
     cases h
    ·
     rename_i h1 h2 h3 h4
     refine ⟨by simpa using h1,by simpa using h2,by simpa using h3,?_⟩
     unfold Vf
     rw [if_neg (by rw [h0];simp)]
     cases hs:Ws ws rows rd rd.length with
     | none=>rw [hs] at h4;simp at h4
     | some l=>rfl
theorem zdP:∀ {k:Nat} {l:List Sg},Ws ws rows rd k=some l→∀ x∈l,∃ q:Nat,q<k∧x.id=(q:Int)∧zbV ws rows q (rd.getD q 0)= .sg x
 | 0,l,h,x,hx=>by cases h;cases hx
 | k+1,l,h,x,hx=>by
  unfold Ws at h
  cases h1:Ws ws rows rd k with
  | none=>rw [h1] at h;cases h
  | some l1=>
   rw [h1] at h
   dsimp only at h
   split at h
   ·
    cases h
   ·
    cases h
    obtain ⟨q,a,b,c⟩:=zdP h1 x hx
    exact ⟨q,by omega,b,c⟩
   ·
    rename_i y ho
    cases h
    rcases List.mem_append.1 hx with hx | hx
    ·
     obtain ⟨q,a,b,c⟩:=zdP h1 x hx
     exact ⟨q,by omega,b,c⟩
    ·
     rw [List.mem_singleton] at hx
     subst hx
     refine ⟨k,by omega,?_,ho⟩
     unfold zbV at ho
     split at ho
     ·
      cases ho
     ·
      split at ho
      ·
       cases ho
      ·
       split at ho
       ·
        cases ho
       ·
        cases ho;rfl
theorem zt4 (h:Kl ws rows no cl es rd=0){x:Sg}(hx:x∈Vf ws rows no cl es rd):∃ q:Nat,x.id=(q:Int)∧q<rd.length∧(∀ r∈rows,q<r.length)∧zbV ws rows q (rd.getD q 0)= .sg x:=by
 obtain ⟨h1,h2,h3,h4⟩:=zvQ h
 obtain ⟨q,a,b,c⟩:=zdP h4 x hx
 have hr:=(zpC h1 h2 h3).2.1
 exact ⟨q,b,a,fun r hm=>by rw [hr r hm];exact a,c⟩
end
theorem zkI {xs:List Sg}{k y:Sg}(h:y∈zdi xs k):y=k∨y∈xs:=by
 unfold zdi at h
 rcases List.mem_append.1 h with h | h
 ·
  exact .inr (List.takeWhile_sublist _ |>.subset h)
 ·
  rcases List.mem_cons.1 h with h | h
  ·
   exact .inl h
  ·
   exact .inr (List.dropWhile_sublist _ |>.subset h)
theorem zeK:∀ {l:List Pt} {base:List Sg} {y:Sg},y∈Uj base l→y∈base∨∃ p∈l,p.kind=2∧p.nw=y
 | [],base,y,h=>.inl h
 | p::l,base,y,h=>by
  have h':y∈Uj (if p.kind=2 then zdi base p.nw else base) l:=h
  rcases zeK h' with h1 | ⟨q,h1,h2,h3⟩
  ·
   split at h1
   ·
    rename_i hk
    rcases zkI h1 with h1 | h1
    ·
     exact .inr ⟨p,List.mem_cons_self ..,hk,h1.symm⟩
    ·
     exact .inl h1
   ·
    exact .inl h1
  ·
   exact .inr ⟨q,List.mem_cons_of_mem _ h1,h2,h3⟩
theorem zlA {on:Int→Int→Bool}{base:List Sg}{l:List Pt}{x:Sg}(h:x∈U8 on base l):∃ y,y∈Uj base l∧x=zdf on l y∧exB on l y.id=true:=by
 unfold U8 at h
 obtain ⟨y,h1,rfl⟩:=List.mem_map.1 h
 obtain ⟨h2,h3⟩:=List.mem_filter.1 h1
 exact ⟨y,h2,rfl,h3⟩
theorem zwo {l:List Pt}{s:Int}(h:(or2 l s).2=false):l.any (inP s)=false:=by
 unfold or2 at h
 cases hf:l.find? (inP s) with
 | none=>rw [List.find?_eq_none] at hf;rw [List.any_eq_false];exact hf
 | some p=>rw [hf] at h;cases h
theorem zkB {on:Int→Int→Bool}{base:List Sg}{l:List Pt}(hs:Sto l){x:Sg}(h:x∈U8 on base l)(hn:(or2 l x.id).2=false):∃ y∈base,x=zdf on l y∧exB on l y.id=true:=by
 obtain ⟨y,h1,h2,h3⟩:=zlA h
 rcases zeK h1 with h4 | ⟨p,hp,hk,hw⟩
 ·
  exact ⟨y,h4,h2,h3⟩
 ·
  have h5:=zwo hn
  rw [List.any_eq_false] at h5
  refine absurd ?_ (h5 p hp)
  unfold inP
  rw [h2,zaw,←hw,((hs.ok p hp).ins hk).1]
  simp [hk]
theorem znn {ws:List Wr}{rows:List (List Int)}{no:Int}{cl:List Int}{es:List Em}{rd:List Int}{ps:List Pt}{vs:List Int}(h1:Kl ws rows no cl es rd=0)(h2:zc7 ps (Vf ws rows no cl es rd) vs=0){x:Sg}(hx:x∈U8 (onF ps) (Vf ws rows no cl es rd) (Yh ps vs))
  (hn:(or2 (Yh ps vs) x.id).2=false):∃ q:Nat,x.id=q∧q<rd.length∧∀ r∈rows,q<r.length:=by
 obtain ⟨hsto,_,_,_,_,hver,_⟩:=Uc h2
 obtain ⟨y,hy,e,_⟩:=zkB (Xi hsto hver) hx hn
 obtain ⟨q,a,b,c,_⟩:=zt4 h1 hy
 exact ⟨q,by rw [e,zaw,a],b,c⟩
theorem zbb {e1:Int}{ps:List Pt}{bs:List Sg}{vs:List Int}(h:zdg e1 ps bs vs=0):e1=0∧zc7 ps bs vs=0:=by
 unfold zdg at h
 split at h
 ·
  exact absurd h (by assumption)
 ·
  rename_i h1;exact ⟨by simpa using h1,h⟩
def orE (e0:Int)(s:List Sg)(sign f:Int):Int:=if e0≠0 then e0 else if (decide (f<1)||decide (f>9))|| !(s.any fun x=>x.id==sign) then 440 else 0
def orO (e:Int)(o:Og):Og:=if e≠0 then zOg else o
def OrQ (e:Int)(o:Og)(v:Value)(I:Qu)(L:Go.Kn.Loc):Prop:=L=[]∧∃ vs,v= .tuple #[.agg vs.toArray,.int .i64 e]∧OgV I o vs
theorem zxL {e0:Int}{s:List Sg}{sign f:Int}(h:e0≠0):orE e0 s sign f=e0:=if_pos h
theorem zxN {e0:Int}{s:List Sg}{sign f:Int}(h:e0=0)(h2:((decide (f<1)||decide (f>9))|| !(s.any fun x=>x.id==sign))=true):orE e0 s sign f=440:=by unfold orE;rw [if_neg (by omega),if_pos h2]
theorem ztQ {e0:Int}{s:List Sg}{sign f:Int}(h:e0=0)(h2:((decide (f<1)||decide (f>9))|| !(s.any fun x=>x.id==sign))=false):orE e0 s sign f=0:=by unfold orE;rw [if_neg (by omega),if_neg (by rw [h2];decide)]
theorem OrQ.bad {I:Qu}{e:Int}{o:Og}(he:e≠0):OrQ e (orO e o) (.tuple #[.agg #[.int .i64 0,.int .i64 0,.slice none 0 0,.slice none 0 0],.int .i64 e]) I []:=by
 unfold orO;rw [if_pos he]
 exact ⟨rfl,[.int .i64 0,.int .i64 0,.slice none 0 0,.slice none 0 0],rfl,none,0,0,none,0,0,rfl,.nil,.nil⟩
def tcJ (og:Int→Int→Og)(s:Int)(j:Nat):List (Int×Int):=(List.range j).flatMap fun (i:Nat)=>if (og s ((i:Int)+1)).k==3 then [(s,(i:Int)+1)] else []
def tcK (og:Int→Int→Og)(s:List Sg)(k:Nat):List (Int×Int):=(s.take k).flatMap fun x=>tcJ og x.id 9
theorem zo9 {og:Int→Int→Og}{s:Int}{j:Nat}(h:((og s ((j:Int)+1)).k==3)=true):tcJ og s (j+1)=tcJ og s j++[(s,(j:Int)+1)]:=by
 unfold tcJ;rw [List.range_succ,List.flatMap_append];simp only [List.flatMap_cons,List.flatMap_nil,List.append_nil];rw [if_pos h]
theorem ztV {og:Int→Int→Og}{s:Int}{j:Nat}(h:((og s ((j:Int)+1)).k==3)=false):tcJ og s (j+1)=tcJ og s j:=by
 unfold tcJ;rw [List.range_succ,List.flatMap_append];simp only [List.flatMap_cons,List.flatMap_nil,List.append_nil];rw [if_neg (by rw [h];decide),List.append_nil]
theorem zmx {og:Int→Int→Og}{s:List Sg}{k:Nat}{x:Sg}(hx:s[k]? =some x):tcK og s (k+1)=tcK og s k++tcJ og x.id 9:=by
 unfold tcK;rw [List.take_add_one,hx,List.flatMap_append];simp
theorem zqH {og:Int→Int→Og}{s:List Sg}{k n:Nat}(hn:s.length=n)(hk:n≤k):tcK og s k=s.flatMap fun x=>tcJ og x.id 9:=by
 unfold tcK;rw [List.take_of_length_le (by omega)]
def tcF (e:Int)(og:Int→Int→Og)(s:List Sg):List (Int×Int):=if e≠0 then [] else s.flatMap fun x=>tcJ og x.id 9
def zx4 (e:Int)(xs:List (Int×Int))(v:Value)(I:Qu)(L:Go.Kn.Loc):Prop:=L=[]∧∃ a c,v= .tuple #[.slice a xs.length c,.int .i64 e]∧Sl I 2 VO a xs.length c xs
theorem zwb {s:List Sg}{sign f:Int}(h:((decide (f<1)||decide (f>9))|| !(s.any fun x=>x.id==sign))=false):∃ x∈s,x.id=sign:=by
 rw [Bool.or_eq_false_iff] at h
 have h2:=zd7 h.2
 rw [List.any_eq_true] at h2
 obtain ⟨x,hx,he⟩:=h2
 exact ⟨x,hx,by simpa using he⟩
theorem zso {C:Cx}{Q:Exit→Act→World→Prop}{E:Env}{I:Qu}{loc:Go.Kn.Loc}(loc':Go.Kn.Loc){c:Code}(hp:loc'.Perm loc)(h:X C Q c E I loc'):X C Q c E I loc:=fun a w ha hw=>h a w ha (hw.permL hp)
end
section
open Go Go.Kn Go.Proofs
theorem znY:Fun Tryz.prog 36:=.of Tryz.func36 (by kernel_rfl) (by kernel_rfl)
theorem zuH:Fun Tryz.prog 37:=.of Tryz.func37 (by kernel_rfl) (by kernel_rfl)
theorem zti:Fun Tryz.prog 38:=.of Tryz.func38 (by kernel_rfl) (by kernel_rfl)
theorem zni:Fun Tryz.prog 39:=.of Tryz.func39 (by kernel_rfl) (by kernel_rfl)
theorem zmo:zfK Tryz.prog 38 0 0:=.of (by kernel_rfl)
theorem zxh {I:Qu}{b1:Nat}{sign:Int}(h1:I b1=some (.cells #[.int .i64 sign] 3 (0,0)))(x:Sg):Zx Tryz.prog 38 [JT x,.pointer (some ⟨b1,0,none⟩)] I (.bool (x.id==sign)):=by
 intro g H w hw
 refine qe Tryz.func38 Tryz.ntmps38 hw ?_
 refine zR ?_
 refine Q5 rfl rfl rfl (fun b_2=>?_)
 refine zA ?_
 refine zN (zR ?_)
 refine zF ZO ?_
 refine zL Qt ?_
 refine zV (Qd rfl Qt (fun hg=>by exact .imm h1 rfl)) ?_
 refine zC ?_
 refine zA (zN (Qs ?_))
 exact zr rfl rfl (by rfl)
theorem zbw {I:Qu}{av:Option Addr}{n c:Nat}{ws:List Wr}(hW0:SlW I av n c ws)(hn:n≤100000){bv:Option Addr}{n2 c2:Nat}{rows:List (List Int)}(hVn:SlN I bv n2 c2 rows)(hn2:n2≤100000){ea1:Option Addr}{en1 ec1:Nat}{ea2:Option Addr}{en2 ec2:Nat}{ea3:Option Addr}{en3 ec3:Nat}{xs:List Int}{es:List Em}{rd:List Int}(hX1:Sl I 1 QP ea1 en1 ec1 xs)(hX2:Sl I 3 Yt ea2 en2 ec2 es)(hX3:Sl I 1 QP ea3 en3 ec3 rd)(hm1:en1≤100000)(hm2:en2≤100000)(hm3:en3≤100000)(no:Int){pv:Option Addr}{pn pc:Nat}{ps:List Pt}(hP:SlP I pv pn pc ps)(hpn:pn≤100000){dv:Option Addr}{n3 c3:Nat}{vs:List Int}(hVs:Sl I 1 QP dv n3 c3 vs)(hn3:n3≤100000)(hDb:VF I)(sign fld:Int):Yc Tryz.prog 14 [.slice av n c,.slice bv n2 c2,.agg (Z3 no ea1 en1 ec1 ea2 en2 ec2 ea3 en3 ec3).toArray,.slice pv pn pc,.slice dv n3 c3,.int .i64 sign,.int .i64 fld] I [] (OrQ (orE (zdg (Kl ws rows no xs es rd) ps (Vf ws rows no xs es rd) vs) (U8 (onF ps) (Vf ws rows no xs es rd) (Yh ps vs)) sign fld) (orO (orE (zdg (Kl ws rows no xs es rd) ps (Vf ws rows no xs es rd) vs) (U8 (onF ps) (Vf ws rows no xs es rd) (Yh ps vs)) sign fld) (zaB (onF ps) rows es rd (Yh ps vs) sign fld))):=by
 intro g H w hw
 refine qe Tryz.func14 Tryz.ntmps14 hw ?_
 have hIc:=zyv I
 refine zR ?_
 refine Q5 rfl rfl rfl (fun b_9=>?_)
 refine Q5 rfl rfl rfl (fun b_12=>?_)
 refine Qr UM rfl rfl (fun b_14=>?_)
 refine zA ?_
 refine zN (zR ?_)
 refine zM ?_
 refine zM ?_
 refine zV (Qp rfl ZW (fun hg=>by exact Cells.g2) rfl) ?_
 refine zM ?_
 refine zM ?_
 refine Qx (cap:=[]) (vs:=[_,_,_,_,_]) rfl rfl znY .nil (znS hW0 hn hVn hn2 hX1 hX2 hX3 hm1 hm2 hm3 no hP hpn hVs hn3 hDb) rfl rfl ?_
 rintro vv1 I1 L1 hI1 ⟨rfl,vx,rfl,hvl,hv1,hop⟩
 have hIc:=hIc.trans hI1
 refine zM ?_
 refine zE ?_
 refine zE ?_
 refine Qr zpB rfl rfl (fun b_16=>?_)
 refine YO rfl rfl zaC hvl rfl hv1 rfl (by repeat (first | exact Upd.here | apply Upd.there | apply QI)) ?_
 refine zA (zN (Ql (zR ?_)))
 refine zM ?_
 refine zC (zN ?_)
 refine zI ?_ ?_<;>intro hc27
 ·
  have he0:(zdg (Kl ws rows no xs es rd) ps (Vf ws rows no xs es rd) vs)≠0:=by simpa using hc27
  refine zR ?_
  refine zV (Qp rfl YH (fun hg=>by exact Cells.g1) rfl) ?_
  refine zM ?_
  refine zh Vk ?_
  refine zA (zN (Qs (Qc ?_)))
  first
  | exact Zv rfl rfl rfl YH (vs:=[.int .i64 0,.int .i64 0,.slice none 0 0,.slice none 0 0]) (by repeat (first | exact zyt | apply zys | apply zyu)) rfl (fun w hw=>⟨_,I1,[],rfl,hIc,hw.drop,by rw [zxL he0];exact OrQ.bad he0⟩)
 have he0:(zdg (Kl ws rows no xs es rd) ps (Vf ws rows no xs es rd) vs)=0:=by simpa using hc27
 obtain ⟨t,rfl,hT⟩:=hop he0
 obtain ⟨hs1,hs2⟩:=zbb he0
 refine Qo (Qa (Ql (Ql ?_)))
 refine Ze (b:=b_12) (by repeat (first | exact Q8.here | apply Q8.there)) (fun I2 hI2 hb2=>?_)
 have hT:=hT.mono hI2;have hIc:=hIc.trans hI2
 have h12:=hb2
 refine Qg (zM ?_)
 refine zC ?_
 refine zM ?_
 refine Q0 2 rfl rfl rfl ?_
 refine zJ (Qi rfl) ?_
 refine zJ (QJ rfl rfl rfl) ?_
 refine ZA rfl rfl rfl rfl rfl ?_
 refine zM ?_
 refine Q0 6 rfl rfl rfl ?_
 refine zJ (Qf rfl zbs) ?_
 refine zJ (Qd rfl zci (fun hg=>by exact QV.h0 rfl)) ?_
 refine zJ (Zb (us:=[]) (vs:=[_]) rfl rfl) ?_
 refine qf (vs:=[_,_]) rfl zuH (fun hg=>zw6 (cap:=[.pointer (some ⟨b_12,0,none⟩)]) hT.S hT.bs zti (fun x hx=>zxh h12 x)) ?_
 refine zJ (Vd rfl) ?_
 refine ZA rfl rfl rfl rfl rfl ?_
 refine zN ?_
 refine zI ?_ ?_<;>intro hc42
 ·
  refine zR ?_
  refine zV (Qp rfl YH (fun hg=>by exact Cells.g1) rfl) ?_
  refine zh Vk ?_
  refine zA (zN (Qs (Qc ?_)))
  first
  | exact Zv rfl rfl rfl YH (vs:=[.int .i64 0,.int .i64 0,.slice none 0 0,.slice none 0 0]) (by repeat (first | exact zyt | apply zys | apply zyu)) rfl (fun w hw=>⟨_,I2,[],rfl,hIc,hw.drop,by rw [zxN he0 hc42];exact OrQ.bad (by decide)⟩)
 obtain ⟨x,hx,hxi⟩:∃ x∈(U8 (onF ps) (Vf ws rows no xs es rd) (Yh ps vs)),x.id=sign:=zwb hc42
 have hin:∃ x∈(U8 (onF ps) (Vf ws rows no xs es rd) (Yh ps vs)),x.id=sign:=⟨x,hx,hxi⟩
 refine Qo (Qa (zR ?_))
 refine zV (Qp rfl Je (fun hg=>by exact Cells.g0) rfl) ?_
 refine zV (Qd rfl Qt (fun hg=>by exact .imm h12 rfl)) ?_
 refine zM ?_
 refine zV (Zw (ps:=[(0,_),(1,_)]) [_,_] VJ zi6 rfl rfl) ?_
 refine Qx (cap:=[]) (vs:=[_,_]) rfl rfl zni .nil (zsj hT sign fld (fun h=>by obtain ⟨x,hx,hxi⟩:=hin;have h9:=znn hs1 hs2 hx (by rw [hxi];exact h);rw [hxi] at h9;exact h9)) rfl rfl ?_
 rintro vv3 I3 L3 hI3 ⟨rfl,a1,n1,c1,a2,n2,c2,rfl,hw1,hw2⟩
 have hIc:=hIc.trans hI3
 refine zh Vk ?_
 refine zA (zN (Qs ?_))
 first
 | exact Zv rfl rfl rfl YH (vs:=[.int .i64 _,.int .i64 _,.slice a1 n1 c1,.slice a2 n2 c2]) (by repeat (first | exact zyt | apply zys | apply zyu)) rfl (fun w hw=>⟨_,I3,[],rfl,hIc,hw.drop,by rw [ztQ he0 hc42];exact ⟨rfl,_,rfl,_,_,_,_,_,_,rfl,hw1,hw2⟩⟩)
theorem zim {I:Qu}{av:Option Addr}{n c:Nat}{ws:List Wr}(hW0:SlW I av n c ws)(hn:n≤100000){bv:Option Addr}{n2 c2:Nat}{rows:List (List Int)}(hVn:SlN I bv n2 c2 rows)(hn2:n2≤100000){ea1:Option Addr}{en1 ec1:Nat}{ea2:Option Addr}{en2 ec2:Nat}{ea3:Option Addr}{en3 ec3:Nat}{xs:List Int}{es:List Em}{rd:List Int}(hX1:Sl I 1 QP ea1 en1 ec1 xs)(hX2:Sl I 3 Yt ea2 en2 ec2 es)(hX3:Sl I 1 QP ea3 en3 ec3 rd)(hm1:en1≤100000)(hm2:en2≤100000)(hm3:en3≤100000)(no:Int){pv:Option Addr}{pn pc:Nat}{ps:List Pt}(hP:SlP I pv pn pc ps)(hpn:pn≤100000){dv:Option Addr}{n3 c3:Nat}{vs:List Int}(hVs:Sl I 1 QP dv n3 c3 vs)(hn3:n3≤100000)(hDb:VF I):Yc Tryz.prog 16 [.slice av n c,.slice bv n2 c2,.agg (Z3 no ea1 en1 ec1 ea2 en2 ec2 ea3 en3 ec3).toArray,.slice pv pn pc,.slice dv n3 c3] I [] (zx4 (zdg (Kl ws rows no xs es rd) ps (Vf ws rows no xs es rd) vs) (tcF (zdg (Kl ws rows no xs es rd) ps (Vf ws rows no xs es rd) vs) (fun s f=>zaB (onF ps) rows es rd (Yh ps vs) s f) (U8 (onF ps) (Vf ws rows no xs es rd) (Yh ps vs)))):=by
 intro g H w hw
 refine qe Tryz.func16 Tryz.ntmps16 hw ?_
 have hIc:=zyv I
 refine zR ?_
 refine Q5 rfl rfl rfl (fun b_7=>?_)
 refine zA ?_
 refine zA ?_
 refine zN (zR ?_)
 refine zM ?_
 refine zM ?_
 refine zV (Qp rfl ZW (fun hg=>by exact Cells.g0) rfl) ?_
 refine zM ?_
 refine zM ?_
 refine Qx (cap:=[]) (vs:=[_,_,_,_,_]) rfl rfl znY .nil (znS hW0 hn hVn hn2 hX1 hX2 hX3 hm1 hm2 hm3 no hP hpn hVs hn3 hDb) rfl rfl ?_
 rintro vv1 I1 L1 hI1 ⟨rfl,vx,rfl,hvl,hv1,hop⟩
 have hVn:=hVn.mono hI1;have hX1:=hX1.mono hI1;have hX2:=hX2.mono hI1;have hX3:=hX3.mono hI1;have hP:=hP.mono hI1;have hVs:=hVs.mono hI1;have hIc:=hIc.trans hI1
 refine zM ?_
 refine zE ?_
 refine zE ?_
 refine Qr zpB rfl rfl (fun b_12=>?_)
 refine YO rfl rfl zaC hvl rfl hv1 rfl (by repeat (first | exact Upd.here | apply Upd.there | apply QI)) ?_
 refine zA (zN (Ql (zR ?_)))
 refine zM ?_
 refine zC (zN ?_)
 refine zI ?_ ?_<;>intro hc26
 ·
  have he0:(zdg (Kl ws rows no xs es rd) ps (Vf ws rows no xs es rd) vs)≠0:=by simpa using hc26
  refine zR (zM ?_)
  refine zA ?_
  refine zA (zN (Qs (Qc ?_)))
  first
  | exact Zo rfl rfl rfl (fun w hw=>⟨_,I1,[],rfl,hIc,hw.drop,by unfold tcF;rw [if_pos he0];exact ⟨rfl,none,0,rfl,.nil⟩⟩)
 have he0:(zdg (Kl ws rows no xs es rd) ps (Vf ws rows no xs es rd) vs)=0:=by simpa using hc26
 obtain ⟨t,rfl,hT⟩:=hop he0
 obtain ⟨hs1,hs2⟩:=zbb he0
 have htn:=hT.bs
 refine Qo (Qa (Ql (zR ?_)))
 refine zF zbs ?_
 refine zL zci ?_
 refine zQ YW ?_
 refine zM (zN (Qm ?_))
 refine zU [(12,_),(29,_),(30,_)] (fun T L0 mz E I' loc'=>∃ (k:Nat) (v:Value) (q:Nat) (L:Go.Kn.Loc),mz=t.sn-k∧E=(10,v)::(31,.int .i64 k)::T∧HLe I1 I'∧L++[(b_12,.cells (Ka t).toArray 98 (0,0)),(b_7,.cells (Z3 no ea1 en1 ec1 ea2 en2 ec2 ea3 en3 ec3).toArray 26 (0,0))]=loc'∧k≤t.sn∧OwnS 79 2 v q ((tcK (fun s f=>zaB (onF ps) rows es rd (Yh ps vs) s f) (U8 (onF ps) (Vf ws rows no xs es rd) (Yh ps vs)) k).flatMap VO) L∧q≤k*9) ?_ (h:=⟨0,_,0,[],rfl,rfl,zyv _,rfl,Nat.zero_le _,OwnS.nil,Nat.zero_le _⟩)
 rintro mz E J2 loc' ⟨k,v,q,L,rfl,rfl,hJ,rfl,hk,hO,hq⟩
 have hVn:=hVn.mono hJ;have hX1:=hX1.mono hJ;have hX2:=hX2.mono hJ;have hX3:=hX3.mono hJ;have hP:=hP.mono hJ;have hVs:=hVs.mono hJ;have hT:=hT.mono hJ;have hIc:=hIc.trans hJ
 have hB0:=hJ
 refine zR (zC (zN (Ql ?_)))
 refine zI ?_ ?_<;>intro hc32
 ·
  have hlt_k:k<t.sn:=by have h:=hc32;simp at h;omega
  obtain ⟨x,hx⟩:=hT.S.at hlt_k
  refine Qo (Qa (Ql (Qm (zR ?_))))
  refine zV (QE rfl rfl YW hT.S (fun hg=>by omega)) ?_
  refine zV (Qp rfl ZK (fun hg=>by exact zyw hT.S hx) rfl) ?_
  refine Qr WW rfl rfl (fun b_14=>?_)
  refine zh VG ?_
  refine zN (Ql ?_)
  refine zso (L++[(b_14,.cells (YZ x).toArray 54 (0,0)),(b_12,.cells (Ka t).toArray 98 (0,0)),(b_7,.cells (Z3 no ea1 en1 ec1 ea2 en2 ec2 ea3 en3 ec3).toArray 26 (0,0))]) List.perm_middle ?_
  refine Qg (zA (zN (Qm ?_)))
  refine zU [(12,_),(14,_),(29,_),(30,_),(31,_)] (fun T L0 mz E I' loc'=>∃ (j:Nat) (v:Value) (q:Nat) (L:Go.Kn.Loc),mz=9-j∧E=(10,v)::(15,.int .i64 ((j:Int)+1))::T∧HLe J2 I'∧L++[(b_14,.cells (YZ x).toArray 54 (0,0)),(b_12,.cells (Ka t).toArray 98 (0,0)),(b_7,.cells (Z3 no ea1 en1 ec1 ea2 en2 ec2 ea3 en3 ec3).toArray 26 (0,0))]=loc'∧j≤9∧OwnS 79 2 v q ((tcK (fun s f=>zaB (onF ps) rows es rd (Yh ps vs) s f) (U8 (onF ps) (Vf ws rows no xs es rd) (Yh ps vs)) k++tcJ (fun s f=>zaB (onF ps) rows es rd (Yh ps vs) s f) x.id j).flatMap VO) L∧q≤k*9+j) ?_ (h:=⟨0,v,q,L,rfl,rfl,zyv _,rfl,Nat.zero_le _,by rw [show tcJ (fun s f=>zaB (onF ps) rows es rd (Yh ps vs) s f) x.id 0=[] from rfl,List.append_nil];exact hO,by omega⟩)
  rintro mz E J3 loc' ⟨j,v,q,L,rfl,rfl,hJ,rfl,hj,hO,hq⟩
  have hT:=hT.mono hJ;have hB0:=hB0.trans hJ
  have hB2:=hJ
  refine Ql (zR (zM ?_))
  refine zC (zN ?_)
  refine zI ?_ ?_<;>intro hc36
  ·
   have hlt_j:j<9:=by have h:=hc36;simp only [decide_eq_true_eq] at h;omega
   refine Qo (Qa (Ql (Qm (zR ?_))))
   refine zV (Qp rfl Je (fun hg=>by (repeat (first | exact zyt | apply zys | apply zyu))) rfl) ?_
   refine zF ZO ?_
   refine zV (Qd rfl Qt (fun hg=>by (repeat (first | exact zyq rfl | apply zyp | apply zyr)))) ?_
   refine zM ?_
   refine zV (Zw (ps:=[(0,_),(1,_)]) [_,_] VJ zi6 rfl rfl) ?_
   refine Qx (cap:=[]) (vs:=[_,_]) rfl rfl zni .nil (zsj hT x.id ((j:Int)+1) (znn hs1 hs2 (List.mem_of_getElem? hx))) rfl rfl ?_
   rintro vv4 I4 L4 hI4 ⟨rfl,a1,n1,c1,a2,n2,c2,rfl,hw1,hw2⟩
   have hB2:=hB2.trans hI4
   refine zV (zk9 rfl zmo rfl) ?_
   refine zC (zN ?_)
   refine zI ?_ ?_<;>intro hc46
   ·
    refine Qg (zM ?_)
    refine zF ZO ?_
    refine zV (Qd rfl Qt (fun hg=>by (repeat (first | exact zyq rfl | apply zyp | apply zyr)))) ?_
    refine zM ?_
    refine zV (Zw (ps:=[(0,_),(1,_)]) [_,_] YN KI rfl rfl) ?_
    refine Qq (ps:=[(0,_)]) (m:=[VO (x.id,(j:Int)+1)]) JN rfl (.cons rfl (.nil)) rfl (by simp [VO]) (by decide) (by decide) rfl rfl (fun b_52=>?_)
    refine QW (v:=_) (ys:=[(x.id,(j:Int)+1)].flatMap VO) (L:=L) rfl rfl JN hO (by repeat (first | exact .cons .here .nil | exact QD | exact Qw | apply QC | apply QA)) ⟨rfl,fun _=>rfl,by repeat (first | exact zyt | apply zys | apply zyu)⟩ (zgn [(x.id,(j:Int)+1)]) (by omega) rfl rfl ?_
    intro v9 L9 hO9 _;rw [←List.flatMap_append] at hO9
    refine zA (Qb (Qh (Qa (Qg ?_))))
    refine zM ?_
    refine zB ?_
    refine zA (Qb ?_)
    first
    | exact zm (h:=⟨9-(j+1),by omega,j+1,_,_,_,rfl,rfl,hB2,rfl,by omega,by rw [zo9 hc46,←List.append_assoc];exact hO9,by omega⟩)
   refine Qo (Qh (Qa (Qg (zM ?_))))
   refine zB ?_
   refine zA (Qb ?_)
   first
   | exact zm (h:=⟨9-(j+1),by omega,j+1,_,_,_,rfl,rfl,hB2,rfl,by omega,by rw [ztV hc46];exact hO,by omega⟩)
  have hge_j:9≤j:=by have h:=hc36;simp only [decide_eq_false_iff_not] at h;omega
  refine QH (Qe (Qe (Qk (Qh (Qa (Qg (zB ?_)))))))
  refine zM (Qb ?_)
  exact zm (h:=⟨t.sn-(k+1),by omega,k+1,_,_,_,rfl,rfl,hB0,rfl,by omega,by rw [zmx hx];rw [show j=9 by omega] at hO;exact hO,by omega⟩)
 have hge_k:t.sn≤k:=by have h:=hc32;simp at h;omega
 rw [zqH hT.S.len hge_k] at hO
 refine QH (Qe (Qe (Qk (Qa (zR (zM ?_))))))
 refine zA ?_
 refine zA (zN (Qs ?_))
 first
 | exact Zo rfl rfl rfl (fun w hw=>by obtain ⟨I9,h91,h92,a,c,e9,h94⟩:=OwnS.freeze' hO (fun _=>rfl) (by decide) (hw.subL (by exact Zi));exact ⟨_,I9,[],rfl,hIc.trans h91,h92,by rw [he0];unfold tcF;rw [if_neg (by simp)];have hq9:=h94.len;subst hq9;exact ⟨rfl,a,c,by rw [e9],h94⟩⟩)
end
end Go.Proofs.YtodakphagkommaaGreatDoor.R
namespace Go.Proofs.YtodakphagkommaaGreatDoor
section
open Go Go.Kn Go.Proofs
abbrev Tri:=Value×Nat×List Value
structure zgh (rows:List (List Int))(k:Nat)(m:List (Int×Tri))(i:Nat):Prop where
 val:∀ c,((ZC m c).getD V8).2.2=(K3 (rows.take i) k c).flatMap QP
 nd:(m.map (·.1)).Nodup
 key:∀ c,c∈m.map (·.1)↔ ∃ r∈rows.take i,r.getD k 0=c
 len:(m.map (·.1)).length≤i
theorem zgh.start {rows:List (List Int)}{k:Nat}:zgh rows k [] 0:=⟨fun c=>by rw [List.take_zero];rfl,.nil,(fun c=>by simp),Nat.le_refl _⟩
theorem zgh.put {rows:List (List Int)}{k i n:Nat}{m:List (Int×Tri)}(h:zgh rows k m i){r:List Int}(hr:rows[i]? =some r){v:Value}:zgh rows k (Yv m (r.getD k 0) (v,n,((ZC m (r.getD k 0)).getD V8).2.2++[(i:Int)].flatMap QP)) (i+1) where
 val:=fun c=>by
  rw [YA]
  by_cases e:r.getD k 0=c
  ·
   rw [if_pos e,show K3 (rows.take (i+1)) k c=K3 (rows.take i) k c++[(i:Int)] from zif hr (by simpa using e),List.flatMap_append,←h.val c]
   subst e;rfl
  ·
   rw [if_neg e,show K3 (rows.take (i+1)) k c=K3 (rows.take i) k c from zqZ hr (by simpa using e)];exact h.val c
 nd:=Wn _ _ h.nd
 key:=fun c=>by
  rw [KF,List.take_add_one,hr]
  split
  ·
   rename_i hin
   rw [h.key c]
   constructor
   ·
    rintro ⟨r',h1,h2⟩;exact ⟨r',List.mem_append_left _ h1,h2⟩
   ·
    rintro ⟨r',h1,h2⟩
    rcases List.mem_append.1 h1 with h1 | h1
    ·
     exact ⟨r',h1,h2⟩
    ·
     simp at h1;subst h1;subst h2;exact (h.key _).1 hin
  ·
   rw [List.mem_append,h.key c]
   constructor
   ·
    rintro (⟨r',h1,h2⟩ | h1)
    ·
     exact ⟨r',List.mem_append_left _ h1,h2⟩
    ·
     rw [List.mem_singleton] at h1;exact ⟨r,List.mem_append_right _ (by simp),h1.symm⟩
   ·
    rintro ⟨r',h1,h2⟩
    rcases List.mem_append.1 h1 with h1 | h1
    ·
     exact .inl ⟨r',h1,h2⟩
    ·
     simp at h1;subst h1;exact .inr (by rw [List.mem_singleton];exact h2.symm)
 len:=by
  have:=h.len
  rw [KF]
  split
  ·
   omega
  ·
   rw [List.length_append,List.length_singleton];omega
theorem zea {rows:List (List Int)}{k:Nat}{c:Int}:(K3 rows k c).length≤rows.length:=by
 unfold K3 ixF;rw [List.length_map];exact Nat.le_trans (List.length_filter_le ..) (by rw [List.length_zipIdx];exact Nat.le_refl _)
theorem zgh.le {e:Nat}{rows:List (List Int)}{k i:Nat}{m:List (Int×Tri)}(h:zgh rows k m i){c:Int}{L:Go.Kn.Loc}(hO:OwnS e 1 ((ZC m c).getD V8).1 ((ZC m c).getD V8).2.1 ((ZC m c).getD V8).2.2 L):((ZC m c).getD V8).2.1≤i:=by
 have h1:=hO.1
 rw [h.val c,ZU Qv] at h1
 have h2:=zea (rows:=rows.take i) (k:=k) (c:=c)
 rw [List.length_take] at h2
 omega
theorem zgh.sl {I:Qu}{e:Nat}{rows:List (List Int)}{k:Nat}{m:List (Int×Tri)}{L:Go.Kn.Loc}(h:zgh rows k m rows.length)(hA:Vm e 1 (m.map (·.2)) L)(hI:∀ b o,(b,o)∈L→I b=some o)(c:Int):
  ∃ av cc,((ZC m c).getD V8).1= .slice av (K3 rows k c).length cc∧Sl I 1 QP av (K3 rows k c).length cc (K3 rows k c):=by
 obtain ⟨A,Lt,B,rfl,hO,_⟩:=hA.at c
 rw [h.val c,List.take_length] at hO
 obtain ⟨av,cc,e1,e2⟩:=hO.sl Qv (by decide) (fun b o hb=>hI b o (by simp [hb]))
 have hn:=e2.len
 rw [←hn] at e1 e2
 exact ⟨av,cc,e1,e2⟩
def kyS (ks:List Int)(seen:List Nat):List Int:=seen.map fun i=>ks.getD i 0
theorem zkt {ks:List Int}{seen:List Nat}{i:Nat}{a:Int}(h:ks[i]? =some a):kyS ks (seen++[i])=kyS ks seen++[a]:=by
 unfold kyS;rw [List.map_append,List.map_singleton,Q1 h]
theorem zan (ks:List Int):((List.range ks.length).map fun i=>ks.getD i 0)=ks:=by
 apply List.ext_getElem?
 intro j
 rw [List.getElem?_map]
 by_cases h:j<ks.length
 ·
  rw [List.getElem?_range h,Option.map_some,List.getElem?_eq_getElem h,Q1 (List.getElem?_eq_getElem h)]
 ·
  rw [List.getElem?_eq_none (by simpa using Nat.le_of_not_lt h),List.getElem?_eq_none (by omega)];rfl
theorem zpa {ks:List Int}{seen:List Nat}(hn:seen.Nodup)(hl:∀ i∈seen,i<ks.length)(ha:∀ i,i<ks.length→i∈seen):(kyS ks seen).Perm ks:=by
 have h1:seen.Perm (List.range ks.length):=(List.perm_ext_iff_of_nodup hn List.nodup_range).2 fun i=>by rw [List.mem_range];exact ⟨hl i,ha i⟩
 have h2:=h1.map fun i=>ks.getD i 0
 rw [zan] at h2
 exact h2
theorem zdG {q:Nat}{n:Int}:∀ {rows:List (List Int)} {o:Option Int},(∀ b,o=some b→n<b)→(∀ r∈rows,n<r.getD q 0→∃ c,rows.foldl (zgw q n) o=some c∧c≤r.getD q 0)∧(∀ b,o=some b→∃ c,rows.foldl (zgw q n) o=some c∧c≤b)
 | [],o,_=>⟨(fun r hr=>by cases hr),fun b hb=>⟨b,hb,Int.le_refl _⟩⟩
 | r::rows,o,ho=>by
  cases hb:(decide (r.getD q 0>n)&&(!o.isSome||decide (r.getD q 0<o.getD 0))) with
  | true=>
   have hs:=zij hb
   simp only [Bool.and_eq_true,Bool.or_eq_true,decide_eq_true_eq] at hb
   have ih:=zdG (q:=q) (n:=n) (rows:=rows) (o:=some (r.getD q 0)) (fun b e=>by cases e;exact hb.1)
   have e0:(r::rows).foldl (zgw q n) o=rows.foldl (zgw q n) (some (r.getD q 0)):=by rw [List.foldl_cons,hs]
   rw [e0]
   refine ⟨fun r' hr' hn=>?_,fun b e=>?_⟩
   ·
    rcases List.mem_cons.1 hr' with rfl | hr'
    ·
     exact ih.2 _ rfl
    ·
     exact ih.1 r' hr' hn
   ·
    obtain ⟨c,h1,h2⟩:=ih.2 _ rfl
    subst e
    rcases hb.2 with h3 | h3
    ·
     cases h3
    ·
     have h3:r.getD q 0<b:=h3
     exact ⟨c,h1,by omega⟩
  | false=>
   have hs:=zmX hb
   have ih:=zdG (q:=q) (n:=n) (rows:=rows) (o:=o) ho
   have e0:(r::rows).foldl (zgw q n) o=rows.foldl (zgw q n) o:=by rw [List.foldl_cons,hs]
   rw [e0]
   refine ⟨fun r' hr' hn=>?_,ih.2⟩
   rcases List.mem_cons.1 hr' with rfl | hr'
   ·
    cases o with
    | none=>
     cases h9:decide (r'.getD q 0>n) with
     | true=>rw [h9] at hb;cases hb
     | false=>simp only [decide_eq_false_iff_not] at h9;omega
    | some b=>
     cases h9:decide (r'.getD q 0>n) with
     | true=>
      rw [h9] at hb
      have h8:decide (r'.getD q 0<b)=false:=hb
      simp only [decide_eq_false_iff_not] at h8
      obtain ⟨c,h1,h2⟩:=ih.2 b rfl
      exact ⟨c,h1,by omega⟩
     | false=>simp only [decide_eq_false_iff_not] at h9;omega
   ·
    exact ih.1 r' hr' hn
theorem JK (ks:List Int):(Yu ks).Perm ks:=List.mergeSort_perm ..
theorem zls (ks:List Int):(Yu ks).Pairwise (· ≤ ·):=
 (List.pairwise_mergeSort (le:=fun x y:Int=>decide (x≤y)) (fun a b c h1 h2=>by simp at*;omega) (fun a b=>by simp;omega) ks).imp fun h=>by simpa using h
theorem zjX {rows:List (List Int)}{q:Nat}:∀ {ks:List Int} {n:Int} {m:Nat},ks.Pairwise (· < ·)→(∀ c,c∈ks↔n<c∧∃ r∈rows,r.getD q 0=c)→ks.length≤m→zr3 rows q m (znC rows q n)=ks.map fun c=>⟨c,K3 rows q c⟩
 | [],n,m,_,hk,_=>by
  have:znC rows q n=none:=by
   cases h:znC rows q n with
   | none=>rfl
   | some c=>have h1:=(hk c).2 (znB h);cases h1
  rw [this,zid];rfl
 | c::ks,n,0,_,_,hm=>by simp at hm
 | c::ks,n,m+1,hs,hk,hm=>by
  obtain ⟨hn,r,hr,he⟩:=(hk c).1 (List.mem_cons_self ..)
  obtain ⟨d,hd,hdc⟩:=(zdG (q:=q) (n:=n) (rows:=rows) (o:=none) (fun b e=>by cases e)).1 r hr (by omega)
  have hd':znC rows q n=some d:=hd
  have hdk:=(hk d).2 (znB hd')
  have hcd:d=c:=by
   rcases List.mem_cons.1 hdk with h | h
   ·
    exact h
   ·
    have:=(List.pairwise_cons.1 hs).1 d h;omega
  rw [hd',hcd,zhf,List.map_cons]
  congr 1
  refine zjX (List.pairwise_cons.1 hs).2 (fun x=>?_) (by simp at hm;omega)
  constructor
  ·
   intro hx
   exact ⟨(List.pairwise_cons.1 hs).1 x hx,((hk x).1 (List.mem_cons_of_mem _ hx)).2⟩
  ·
   rintro ⟨h1,h2⟩
   rcases List.mem_cons.1 ((hk x).2 ⟨by omega,h2⟩) with h3 | h3
   ·
    omega
   ·
    exact h3
theorem zlS {rows:List (List Int)}{k:Nat}{m:List (Int×Tri)}(h:zgh rows k m rows.length)(h0:∀ r∈rows,0≤r.getD k 0){ks:List Int}(hp:ks.Perm (m.map (·.1))):(Yu ks).map (fun c=>(⟨c,K3 rows k c⟩:Vt))=zoh rows k:=by
 have hnd:(Yu ks).Nodup:=((JK ks).trans hp).nodup_iff.2 h.nd
 have hs:(Yu ks).Pairwise (· < ·):=by
  exact ((zls ks).and hnd).imp fun {a b} ⟨h2,h3⟩=>by have:a≠b:=h3;omega
 have hmem:∀ c,c∈Yu ks↔(-1:Int)<c∧∃ r∈rows,r.getD k 0=c:=fun c=>by
  rw [((JK ks).trans hp).mem_iff,h.key c,List.take_length]
  constructor
  ·
   rintro ⟨r,hr,rfl⟩;exact ⟨by have:=h0 r hr;omega,r,hr,rfl⟩
  ·
   exact fun h=>h.2
 have hl:(Yu ks).length≤rows.length:=by rw [((JK ks).trans hp).length_eq];exact h.len
 unfold zoh
 rw [zjX hs hmem hl]
theorem zqj {rows:List (List Int)}{k:Nat}{c:Int}(h:∃ r∈rows,r.getD k 0=c):0<(K3 rows k c).length:=by
 obtain ⟨r,hr,he⟩:=h
 obtain ⟨i,hi⟩:=List.getElem?_of_mem hr
 unfold K3 ixF
 rw [List.length_map]
 refine List.length_pos_of_mem (a:=(r,i)) (List.mem_filter.2 ⟨?_,by simpa using he⟩)
 rw [List.mem_iff_getElem?]
 exact ⟨i,by simp [List.getElem?_zipIdx,hi]⟩
theorem zoq {x:Nat×Obj}{A L B R:Go.Kn.Loc}:(x::((A++(L++B))++R)).Perm (L++(x::(A++(B++R)))):=by
 have h:=List.perm_append_comm_assoc (x::A) L (B++R)
 simp only [List.cons_append,List.append_assoc] at h ⊢
 exact h
end
section
open Go Go.Kn Go.Proofs
theorem znf:AgT Tryz.prog 74 3:=.of (by kernel_rfl)
theorem zno:Fun Tryz.prog 31:=.of Tryz.func31 (by kernel_rfl) (by kernel_rfl)
theorem YS:MpT Tryz.prog 91 3 23 (.slice none 0 0):=⟨by kernel_rfl,.of (by kernel_rfl)⟩
theorem znE:SzT Tryz.prog 72 1:=.of (by kernel_rfl)
theorem zmZ:SzT Tryz.prog 74 3:=.of (by kernel_rfl)
theorem zuV:Yn Tryz.prog 74 (.agg #[(.int .i64 0),(.int .i64 0),(.slice none 0 0)]):=.of (by kernel_rfl)
theorem zgc {I:Qu}{r:Nat}{m:List (Int×Tri)}(hm:I r=some (ZN (Value.int .i64) WL m))(hml:m.length≤100000):Yc Tryz.prog 31 [.map (some r)] I [] (fun v I' L=>L=[]∧∃ av c ks,ks.Perm (m.map (·.1))∧v= .slice av (Yu ks).length c∧Sl I' 1 QP av (Yu ks).length c (Yu ks)):=by
 intro g H w hw
 refine qe Tryz.func31 Tryz.ntmps31 hw ?_
 have hIc:=zyv I
 refine zR (zA (zN (Ql (zR ?_))))
 refine zM ?_
 refine Js (ek:=Value.int .i64) (ev:=WL) (m:=m) rfl YS rfl rfl (.inl hm) (fun b_5=>?_)
 refine zN (Qm ?_)
 refine zU [(5,_)] (fun T L0 mz E I' loc'=>∃ (seen:List Nat) (v:Value) (L:Go.Kn.Loc),mz=m.length-seen.length∧E=(2,v)::T∧I=I'∧L++[(b_5,YK r m.length seen)]=loc'∧seen.Nodup∧(∀ i∈seen,i<m.length)∧OwnS 3 1 v seen.length ((kyS (m.map (·.1)) seen).flatMap QP) L) ?_ (h:=⟨[],_,[],rfl,rfl,rfl,rfl,.nil,(fun i h=>by cases h),OwnS.nil⟩)
 rintro mz E I' loc' ⟨seen,v,L,rfl,rfl,rfl,rfl,hnd2,hlt,hO⟩
 have hsl:=Jg hnd2 hlt
 refine zR ?_
 refine Jt (ek:=Value.int .i64) (ev:=WL) (m:=m) (fun s'=>L++[(b_5,YK r m.length s')]) rfl (fun s'=>QI .here) rfl rfl rfl rfl rfl (.inl hm) (by simp) ?_
 intro t tv s' hno hyes
 refine zN (Ql ?_)
 refine zI ?_ ?_<;>intro hc7
 ·
  obtain ⟨i,q,hq,hns,rfl⟩:=hyes hc7
  refine Qo (Qa (Qm (zR ?_)))
  refine zV (Jq (ek:=Value.int .i64) (ev:=WL) (m:=m) (p:=q) (seen:=seen) (i:=i) rfl (.inl hm) (.inr (by simp)) hq) ?_
  refine zE ?_
  refine zA (zN (Qg ?_))
  refine zM ?_
  refine zM ?_
  refine Qq (ps:=[(0,_)]) (m:=[QP q.1]) Zf rfl (.cons rfl (.nil)) rfl (by simp [Qv]) (by decide) (by decide) rfl rfl (fun b_12=>?_)
  refine QW (v:=_) (ys:=[q.1].flatMap QP) (L:=L) rfl rfl Zf hO (by repeat (first | exact .cons .here .nil | exact QD | exact Qw | apply QC | apply QA)) ⟨rfl,fun _=>rfl,by repeat (first | exact zyt | apply zys | apply zyu)⟩ (JG _) (by omega) rfl rfl ?_
  intro v9 L9 hO9 _;rw [←List.flatMap_append] at hO9
  refine zA (Qb (Qh ?_))
  have hnd3:(seen++[i]).Nodup:=List.nodup_append.2 ⟨hnd2,by simp,fun a ha b hb e=>hns (by simp at hb;subst hb;subst e;exact ha)⟩
  have hlt3:∀ j∈seen++[i],j<m.length:=fun j hj=>(List.mem_append.1 hj).elim (hlt j) (fun h=>by simp at h;subst h;exact (List.getElem?_eq_some_iff.1 hq).1)
  have hsl2:=Jg hnd3 hlt3
  rw [List.length_append,List.length_singleton] at hsl2
  rw [←zkt (by rw [List.getElem?_map,hq];rfl)] at hO9
  exact zm (h:=⟨m.length-(seen++[i]).length,by rw [List.length_append,List.length_singleton];omega,seen++[i],_,L9,rfl,rfl,rfl,rfl,hnd3,hlt3,by rw [List.length_append,List.length_singleton];exact hO9⟩)
 obtain ⟨hs9,hall⟩:=hno hc7
 have hs9:=hs9.symm
 subst hs9
 have hpe:(kyS (m.map (·.1)) seen).Perm (m.map (·.1)):=zpa hnd2 (fun i hi=>by rw [List.length_map];exact hlt i hi) (fun i hi=>by rw [List.length_map] at hi;exact hall i _ (List.getElem?_eq_getElem hi))
 refine QH (Qe (Qe (Qk (Qa (zR (zM ?_))))))
 refine Qx (cap:=[]) (vs:=[_]) rfl rfl ziA (by repeat (first | exact .cons .here .nil | exact QD | exact Qw | apply QC | apply QA)) (zg6 hO (by omega) _) rfl rfl ?_
 rintro vv2 I2 L2 hI2 ⟨rfl,rfl,hO2⟩
 have hIc:=hIc.trans hI2
 refine zN (zR ?_)
 refine zM ?_
 refine zA (zN (Qs ?_))
 exact Zt rfl rfl (fun w hw=>by obtain ⟨I9,h91,h92,a,c,e9,h94⟩:=OwnS.freeze' hO2 Qv (by decide) (hw.subL (by exact Zi));have hl9:=h94.len;rw [←hl9] at e9 h94;exact ⟨_,I9,[],rfl,hIc.trans h91,h92,rfl,a,c,_,hpe,e9,h94⟩)
theorem zcG {I:Qu}{bv:Option Addr}{n2 c2:Nat}{rows:List (List Int)}(hVn:SlN I bv n2 c2 rows)(hn2:n2≤100000){ea1:Option Addr}{en1 ec1:Nat}{ea2:Option Addr}{en2 ec2:Nat}{ea3:Option Addr}{en3 ec3:Nat}{xs:List Int}{es:List Em}{rd:List Int}(hX1:Sl I 1 QP ea1 en1 ec1 xs)(hX2:Sl I 3 Yt ea2 en2 ec2 es)(hX3:Sl I 1 QP ea3 en3 ec3 rd)(hm1:en1≤100000)(hm2:en2≤100000)(hm3:en3≤100000)(no:Int)(hDb:VF I):Yc Tryz.prog 11 [.slice bv n2 c2,.agg (Z3 no ea1 en1 ec1 ea2 en2 ec2 ea3 en3 ec3).toArray] I [] (fun v I' L=>zxd (WS rows no xs es rd) (zwI (WS rows no xs es rd) rows rd) v I' L):=by
 intro g H w hw
 refine qe Tryz.func11 Tryz.ntmps11 hw ?_
 have hIc:=zyv I
 have hVl:=hVn.len
 refine zR ?_
 refine Q5 rfl rfl rfl (fun b_3=>?_)
 refine zA ?_
 refine zA (zN (Ql (zR ?_)))
 refine zM ?_
 refine zV (Qp rfl ZW (fun hg=>by exact Cells.g0) rfl) ?_
 refine qc (vs:=[_,_]) rfl znL (zjD hVn hn2 hX1 hX2 hX3 hm1 hm2 hm3 no hDb) ?_
 refine zA ?_
 refine zN (zR ?_)
 refine zM ?_
 refine zC (zN ?_)
 refine zI ?_ ?_<;>intro hc18
 ·
  have he0:WS rows no xs es rd≠0:=by simpa using hc18
  refine zR (zM ?_)
  refine zA ?_
  refine zA (zN (Qs (Qc ?_)))
  first
  | exact Zo rfl rfl rfl (fun w hw=>⟨_,I,[],rfl,hIc,hw.drop,rfl,_,_,_,rfl,by rw [zq8 he0];exact zeS.nil⟩)
 have he0:WS rows no xs es rd=0:=by simpa using hc18
 obtain ⟨hmk,hrd⟩:=zjr he0
 obtain ⟨hr1,hr6,hr64,hrr⟩:=Ww (Xw (znN hmk))
 have hrdl:rd.length=(rows.getD 0 []).length:=by rw [hrd];exact XE
 have hX3l:=hX3.len
 have hc0:∀ k,k<rd.length→∀ r∈rows,0≤r.getD k 0:=fun k hk r hr=>by have h1:=hrr r hr;have h2:k<r.length:=(by omega);rw [Q1 (List.getElem?_eq_getElem h2)];exact (h1.2 _ (List.getElem_mem h2)).1
 refine Qo (Qa (Ql (zR ?_)))
 refine zF VQ ?_
 refine zL QK ?_
 refine zQ Qy ?_
 refine zM (zN (Qm ?_))
 refine zU [(0,_),(21,_),(22,_)] (fun T L0 mz E I' loc'=>∃ (k:Nat) (v4:Value) (os:List Eh) (us:List En) (Lo:Go.Kn.Loc),mz=en3-k∧E=(4,v4)::(23,.int .i64 k)::T∧HLe I I'∧Lo++[(b_3,.cells (Z3 no ea1 en1 ec1 ea2 en2 ec2 ea3 en3 ec3).toArray 26 (0,0))]=loc'∧k≤en3∧OwnS 74 3 v4 os.length (os.flatMap zcI) Lo∧zc3 I' os us∧us=ziv rows rd k∧os.length≤k) ?_ (h:=⟨0,_,[],[],[],rfl,rfl,zyv _,rfl,Nat.zero_le _,OwnS.nil,zal.nil,rfl,Nat.le_refl _⟩)
 rintro mz E J1 loc' ⟨k,v4,os,us,Lo,rfl,rfl,hJ,rfl,hk,hO,hre,hsu,hbd⟩
 have hVn:=hVn.mono hJ;have hX3:=hX3.mono hJ;have hIc:=hIc.trans hJ
 have hB0:=hJ
 refine zR (zC (zN (Ql ?_)))
 refine zI ?_ ?_<;>intro hc24
 ·
  have hlt_k:k<en3:=by have h:=hc24;simp at h;omega
  have hgr:rd[k]? =some (rd.getD k 0):=Zj rfl (by omega)
  have hc0:=hc0 k (by omega)
  refine Qo (Qa (Ql (Qm (zR (zM ?_)))))
  refine zV (zX Qy hX3) ?_
  refine zV (Qd rfl Qt (fun hg=>by exact zyo (k:=k) hX3 hgr rfl)) ?_
  refine zA ?_
  refine zA ?_
  refine zN (zR ?_)
  refine ZE rfl rfl (fun r_28=>?_)
  refine zA (zN (Ql (zR ?_)))
  refine zM ?_
  refine zQ Zn ?_
  refine zM (zN (Qm ?_))
  refine zU [(0,_),(4,_),(6,_),(7,_),(8,_),(21,_),(22,_),(23,_),(29,_),(30,_)] (fun T L0 mz E I' loc'=>∃ (i:Nat) (m:List (Int×Tri)) (Ls:Go.Kn.Loc),mz=n2-i∧E=(31,.int .i64 i)::T∧J1=I'∧(r_28,ZN (Value.int .i64) WL m)::(Ls++(Lo++[(b_3,.cells (Z3 no ea1 en1 ec1 ea2 en2 ec2 ea3 en3 ec3).toArray 26 (0,0))]))=loc'∧i≤n2∧zgh rows k m i∧Vm 3 1 (m.map (·.2)) Ls) ?_ (h:=⟨0,[],[],rfl,rfl,rfl,rfl,Nat.zero_le _,zgh.start,Vm.nil⟩)
  rintro mz E I' loc' ⟨i,m,Ls,rfl,rfl,rfl,rfl,hi,hcm,hAll⟩
  refine zR (zC (zN (Ql ?_)))
  refine zI ?_ ?_<;>intro hc32
  ·
   have hlt_i:i<n2:=by have h:=hc32;simp at h;omega
   obtain ⟨hs,hVH⟩:=id hVn
   have hHH:=hVH.1
   obtain ⟨hx,rx,hhx,hrx,hQ⟩:=hVH.at hlt_i
   have hqk:=(hrr rx (List.mem_of_getElem? hrx)).1
   have hQl:=hQ.len
   have hgx:rx[k]? =some (rx.getD k 0):=Zj rfl (by omega)
   refine Qo (Qa (Ql (Qm (zR (zM ?_)))))
   refine zV (zX Zn hHH) ?_
   refine zV (Qd rfl QK (fun hg=>by exact zyo hHH hhx rfl)) ?_
   refine zA ?_
   refine zA (zN ?_)
   obtain ⟨A,Lt,B,hLs,hOt,hset⟩:=hAll.at (rx.getD k 0)
   subst hLs
   rw [List.append_assoc A,List.append_assoc Lt]
   have hq0:=hcm.le hOt
   have hD:=zyv J1
   refine Jn ?_
   refine Z8 J1 [] mixed ?_
   refine zT 0 rfl (Qi rfl) hD ?_
   refine zT 1 rfl (Qi rfl) hD ?_
   refine zT 2 rfl (Qi rfl) hD ?_
   refine zT 3 rfl (zX Qy hQ) hD ?_
   refine zT 4 rfl (Qd rfl Qt (fun hg=>by exact zyo (k:=k) hQ hgx rfl)) hD ?_
   refine zT 5 rfl (Qi rfl) hD ?_
   refine zT 6 rfl (Qi rfl) hD ?_
   refine zT 7 rfl (Qi rfl) hD ?_
   refine zT 8 rfl (zX Qy hQ) hD ?_
   refine zT 9 rfl (Qd rfl Qt (fun hg=>by exact zyo (k:=k) hQ hgx rfl)) hD ?_
   refine zT 11 rfl (Qi rfl) hD ?_
   refine Zr 10 12 rfl rfl (by kernel_rfl) ?_ ?_
   ·
    refine zV (Vo (m:=m) (ek:=Value.int .i64) (a:=(rx.getD k 0)) YS ZD rfl rfl (fun _=>.inr (by simp))) ?_
    refine Qb ?_
    refine zD hD ?_
    refine qd 12 rfl ?_
    refine Qq (ps:=[(0,_)]) (m:=[QP (i:Int)]) Zf rfl (.cons rfl (.nil)) rfl (by simp [Qv]) (by decide) (by decide) rfl rfl (fun b_48=>?_)
    refine Qb ?_
    refine zD hD ?_
    refine qd 13 rfl ?_
    refine QW (v:=_) (ys:=[(i:Int)].flatMap QP) (L:=Lt) rfl rfl Zf hOt (by repeat (first | exact .cons .here .nil | exact QD | exact Qw | apply QC | apply QA)) ⟨rfl,fun _=>rfl,by repeat (first | exact zyt | apply zys | apply zyu)⟩ (JG _) (by omega) rfl rfl ?_
    intro v9 L9 hO9 _
    refine Qb ?_
    refine zD hD ?_
    refine qd 14 rfl ?_
    refine Q4 (m:=m) (ek:=Value.int .i64) (ev:=WL) (a:=(rx.getD k 0)) (v9,((ZC m (rx.getD k 0)).getD V8).2.1+1,((ZC m (rx.getD k 0)).getD V8).2.2++[(i:Int)].flatMap QP) YS ZD rfl rfl rfl rfl (by (repeat (first | exact Upd.here | apply Upd.there | apply QI))) ?_
    refine Qb ?_
    refine zD hD ?_
    refine QF (by kernel_rfl) ?_
    refine QQ ?_
    refine Qh (Qa (Qg (zB ?_)))
    refine zM (Qb ?_)
    exact Jj _ _ (L9++((r_28,_)::(A++(B++(Lo++[(b_3,.cells (Z3 no ea1 en1 ec1 ea2 en2 ec2 ea3 en3 ec3).toArray 26 (0,0))]))))) ⟨n2-(i+1),by omega,i+1,_,A++(L9++B),rfl,rfl,rfl,rfl,by omega,hcm.put hrx,hset (v9,_,_) L9 hO9⟩ (.cons rfl (.cons rfl (.cons rfl (.cons rfl (.cons rfl (.cons rfl (.cons rfl (.cons rfl (.cons rfl (.cons rfl (.cons rfl .nil))))))))))) zoq (by repeat (first | exact .refl | exact Zi | refine Yj ?_ | refine .drop ?_ | refine Z6 ?_))
   refine Qq (ps:=[(0,_)]) (m:=[QP (i:Int)]) Zf rfl (.cons rfl (.nil)) rfl (by simp [Qv]) (by decide) (by decide) rfl rfl (fun b_48=>?_)
   refine Qb ?_
   refine zD hD ?_
   refine qd 10 rfl ?_
   refine zV (Vo (m:=m) (ek:=Value.int .i64) (a:=(rx.getD k 0)) YS ZD rfl rfl (fun _=>.inr (by simp))) ?_
   refine Qb ?_
   refine zD hD ?_
   refine qd 13 rfl ?_
   refine QW (v:=_) (ys:=[(i:Int)].flatMap QP) (L:=Lt) rfl rfl Zf hOt (by repeat (first | exact .cons .here .nil | exact QD | exact Qw | apply QC | apply QA)) ⟨rfl,fun _=>rfl,by repeat (first | exact zyt | apply zys | apply zyu)⟩ (JG _) (by omega) rfl rfl ?_
   intro v9 L9 hO9 _
   refine Qb ?_
   refine zD hD ?_
   refine qd 14 rfl ?_
   refine Q4 (m:=m) (ek:=Value.int .i64) (ev:=WL) (a:=(rx.getD k 0)) (v9,((ZC m (rx.getD k 0)).getD V8).2.1+1,((ZC m (rx.getD k 0)).getD V8).2.2++[(i:Int)].flatMap QP) YS ZD rfl rfl rfl rfl (by (repeat (first | exact Upd.here | apply Upd.there | apply QI))) ?_
   refine Qb ?_
   refine zD hD ?_
   refine QF (by kernel_rfl) ?_
   refine QQ ?_
   refine Qh (Qa (Qg (zB ?_)))
   refine zM (Qb ?_)
   exact Jj _ _ (L9++((r_28,_)::(A++(B++(Lo++[(b_3,.cells (Z3 no ea1 en1 ec1 ea2 en2 ec2 ea3 en3 ec3).toArray 26 (0,0))]))))) ⟨n2-(i+1),by omega,i+1,_,A++(L9++B),rfl,rfl,rfl,rfl,by omega,hcm.put hrx,hset (v9,_,_) L9 hO9⟩ (.cons rfl (.cons rfl (.cons rfl (.cons rfl (.cons rfl (.cons rfl (.cons rfl (.cons rfl (.cons rfl (.cons rfl (.cons rfl .nil))))))))))) zoq (by repeat (first | exact .refl | exact Zi | refine Yj ?_ | refine .drop ?_ | refine Z6 ?_))
  have hge_i:n2≤i:=by have h:=hc32;simp at h;omega
  refine QH (Qe (Qe (Qk (Qa (Ql (Ql ?_))))))
  have hcm:zgh rows k m rows.length:=by rw [hVl,show n2=i by omega];exact hcm
  refine zch (L:=(r_28,ZN (Value.int .i64) WL m)::Ls) (R:=(Lo++[(b_3,.cells (Z3 no ea1 en1 ec1 ea2 en2 ec2 ea3 en3 ec3).toArray 26 (0,0))])) (Qw (A:=(r_28,ZN (Value.int .i64) WL m)::Ls) (B:=(Lo++[(b_3,.cells (Z3 no ea1 en1 ec1 ea2 en2 ec2 ea3 en3 ec3).toArray 26 (0,0))]))) (fun I3 hI3 h99=>?_)
  have hre:=hre.mono hI3;have hB0:=hB0.trans hI3
  have h28:=h99 r_28 _ (.head _)
  have hsl:=fun c=>hcm.sl hAll (fun b o hb=>h99 b o (.tail _ hb)) c
  obtain ⟨al,cl9,hvl,hSl⟩:=hsl (rd.getD k 0)
  have hhl:=zea (rows:=rows) (k:=k) (c:=(rd.getD k 0))
  refine Qg (zM ?_)
  refine zM ?_
  refine zV (Yx (m:=m) (ek:=Value.int .i64) (a:=(rd.getD k 0)) hvl YS ZD rfl rfl (fun _=>.inl h28)) ?_
  refine zQ Qy ?_
  refine zM ?_
  refine zQ Zn ?_
  refine zC (zN ?_)
  refine zI ?_ ?_<;>intro hc57
  ·
   have hno:¬(K3 rows k (rd.getD k 0)).length<rows.length:=by have h:=hc57;rw [beq_iff_eq] at h;omega
   refine QH (Qe (Qk (Qa (Qg (zB ?_)))))
   refine zM (Qb ?_)
   first
   | exact zm (h:=⟨en3-(k+1),by omega,k+1,_,_,_,_,rfl,rfl,hB0,rfl,by omega,hO,hre,by rw [zph hno];exact hsu,by omega⟩)
  have hyes:(K3 rows k (rd.getD k 0)).length<rows.length:=by have h:=hc57;rw [beq_eq_false_iff_ne] at h;omega
  refine Qo (Qa (zR (zM ?_)))
  refine zM ?_
  refine zV (QR (ps:=[(0,_),(1,_)]) [_,_,_] zn6 rfl rfl) ?_
  refine Qr zuV rfl rfl (fun b_11=>?_)
  refine zh zmZ ?_
  refine zN (Ql (zR (zM ?_)))
  refine Qx (cap:=[]) (vs:=[_]) rfl rfl zno .nil (zgc h28 (by have:=hcm.len;rw [List.length_map] at this;omega)) rfl rfl ?_
  rintro vv4 I4 L4 hI4 ⟨rfl,az,cz,ks,hpe,rfl,hSz⟩
  have hre:=hre.mono hI4;have hB0:=hB0.trans hI4
  obtain ⟨zs,hzs⟩:∃ zs,zs=Yu ks:=⟨_,rfl⟩
  have hvar:zs.map (fun c=>(⟨c,K3 rows k c⟩:Vt))=zoh rows k:=by rw [hzs];exact zlS hcm hc0 hpe
  have hzm:∀ c∈zs,∃ r∈rows,r.getD k 0=c:=fun c hc=>by rw [hzs,((JK ks).trans hpe).mem_iff,hcm.key c,List.take_length] at hc;exact hc
  have hzl:zs.length≤rows.length:=by rw [hzs,((JK ks).trans hpe).length_eq];exact hcm.len
  rw [←hzs]
  rw [←hzs] at hSz
  have h28:=hI4 _ _ h28
  have hsl:∀ c,∃ av cc,((ZC m c).getD V8).1= .slice av (K3 rows k c).length cc∧Sl I4 1 QP av (K3 rows k c).length cc (K3 rows k c):=fun c=>by obtain ⟨a,b,h1,h2⟩:=hsl c;exact ⟨a,b,h1,h2.mono hI4⟩
  refine zQ Qy ?_
  refine zM (zN (Qm ?_))
  refine zU [(0,_),(4,_),(8,_),(11,_),(21,_),(22,_),(23,_),(62,_),(63,_)] (fun T L0 mz E I' loc'=>∃ (j:Nat) (v5:Value) (o5:List Vh) (u5:List Vt) (L5:Go.Kn.Loc),mz=zs.length-j∧E=(64,.int .i64 j)::T∧I4=I'∧L5++((b_11,.cells #[.int .i64 k,.int .i64 (rd.getD k 0),v5] 74 (0,0))::(Lo++[(b_3,.cells (Z3 no ea1 en1 ec1 ea2 en2 ec2 ea3 en3 ec3).toArray 26 (0,0))]))=loc'∧j≤zs.length∧OwnS 77 2 v5 o5.length (o5.flatMap zba) L5∧zcX I' o5 u5∧u5=(zs.take j).map (fun c=>(⟨c,K3 rows k c⟩:Vt))∧o5.length≤j) ?_ (h:=⟨0,_,[],[],[],rfl,rfl,rfl,rfl,Nat.zero_le _,OwnS.nil,zal.nil,rfl,Nat.le_refl _⟩)
  rintro mz E I' loc' ⟨j,v5,o5,u5,L5,rfl,rfl,rfl,rfl,hj,hO5,hrv,hu5,hb5⟩
  obtain ⟨va5,vc5,rfl⟩:=zdh hO5
  refine zR (zC (zN (Ql ?_)))
  refine zI ?_ ?_<;>intro hc65
  ·
   have hlt_j:j<zs.length:=by have h:=hc65;simp at h;omega
   obtain ⟨c,hcz⟩:=hSz.at hlt_j
   refine Qo (Qa (Ql (Qm (zR ?_))))
   refine zV (zX Qy hSz) ?_
   refine zV (Qd rfl Qt (fun hg=>by exact zyo hSz hcz rfl)) ?_
   refine zA (zN (Ql ?_))
   obtain ⟨ac,cc,hvc,hSc⟩:=hsl c
   have hhp:=zqj (hzm c (List.mem_of_getElem? hcz))
   refine Qg (zM ?_)
   refine zM ?_
   refine zV (Yx (m:=m) (ek:=Value.int .i64) (a:=c) hvc YS ZD rfl rfl (fun _=>.inl h28)) ?_
   refine zQ Qy ?_
   refine zC (zN ?_)
   refine zI ?_ ?_<;>intro hc72
   ·
    refine Qg ?_
    refine zF W8 ?_
    refine zV (Qd rfl zhp (fun hg=>by (repeat (first | exact zyq rfl | apply zyp | apply zyr)))) ?_
    refine zM ?_
    refine zM ?_
    refine zM ?_
    refine zV (Yx (m:=m) (ek:=Value.int .i64) (a:=c) hvc YS ZD rfl rfl (fun _=>.inl h28)) ?_
    refine zV (QR (ps:=[(0,_),(1,_)]) [_,_] zjb rfl rfl) ?_
    refine Qq (ps:=[(0,_)]) (m:=[zba (⟨c,⟨ac,(K3 rows k c).length,cc⟩⟩:Vh)]) zjz rfl (.cons rfl (.nil)) rfl (by simp [Zl]) (by decide) (by decide) rfl rfl (fun b_80=>?_)
    refine QW (v:=_) (ys:=[(⟨c,⟨ac,(K3 rows k c).length,cc⟩⟩:Vh)].flatMap zba) (L:=L5) rfl rfl zjz hO5 (by repeat (first | exact .cons .here .nil | exact QD | exact Qw | apply QC | apply QA)) ⟨rfl,fun _=>rfl,by repeat (first | exact zyt | apply zys | apply zyu)⟩ (zxi _) (by omega) rfl rfl ?_
    intro v9 L9 hO9 _;obtain ⟨va9,vc9,rfl⟩:=zdh hO9;rw [←List.flatMap_append] at hO9
    refine zF W8 ?_
    refine ZG rfl rfl znE rfl rfl (by (repeat (first | exact Upd.here | apply Upd.there | apply QI))) rfl ?_
    refine Qb (Qh (Qa (Qg (zB ?_))))
    refine zM (Qb ?_)
    exact zm (h:=⟨zs.length-(j+1),by omega,j+1,_,o5++[(⟨c,⟨ac,(K3 rows k c).length,cc⟩⟩:Vh)],u5++[⟨c,K3 rows k c⟩],L9,rfl,rfl,rfl,rfl,by omega,by rw [List.length_append,List.length_singleton];exact hO9,hrv.snoc (v:=⟨c,K3 rows k c⟩) ⟨rfl,hSc⟩,by rw [List.take_add_one,hcz,List.map_append,←hu5];rfl,by rw [List.length_append,List.length_singleton];omega⟩)
   exfalso;have h:=hc72;simp only [decide_eq_false_iff_not] at h;omega
  have hge_j:zs.length≤j:=by have h:=hc65;simp at h;omega
  rw [List.take_of_length_le hge_j,hvar] at hu5
  refine QH (Qe (Qe (Qk (Qa ?_))))
  refine Y4 hO5 Zl (by decide) (by repeat (first | exact .cons .here .nil | exact QD | exact Qw | apply QC | apply QA)) (fun I6 hI6 af5 cf5 ef6 hF5=>?_)
  cases ef6
  have hre:=hre.mono hI6;have hB0:=hB0.trans hI6
  have hSV:SlV I6 va5 o5.length vc5 (zoh rows k):=⟨o5,hF5,by rw [←hu5];exact hrv.mono hI6⟩
  refine Qg (zM ?_)
  refine zV (Qp rfl znf (fun hg=>by exact Cells.g0) rfl) ?_
  refine Qq (ps:=[(0,_)]) (m:=[zcI (⟨(k:Int),(rd.getD k 0),⟨va5,o5.length,vc5⟩⟩:Eh)]) zhZ rfl (.cons rfl (.nil)) rfl (by simp [Zk]) (by decide) (by decide) rfl rfl (fun b_86=>?_)
  refine QW (v:=_) (ys:=[(⟨(k:Int),(rd.getD k 0),⟨va5,o5.length,vc5⟩⟩:Eh)].flatMap zcI) (L:=Lo) rfl rfl zhZ hO (by repeat (first | exact .cons .here .nil | exact QD | exact Qw | apply QC | apply QA)) ⟨rfl,fun _=>rfl,by repeat (first | exact zyt | apply zys | apply zyu)⟩ (ztf _) (by omega) rfl rfl ?_
  intro v9 L9 hO9 _;rw [←List.flatMap_append] at hO9
  refine zA (Qb (Qh (Qa (Qg ?_))))
  refine zB ?_
  refine zM (Qb ?_)
  first
  | exact zm (h:=⟨en3-(k+1),by omega,k+1,_,os++[(⟨(k:Int),(rd.getD k 0),⟨va5,o5.length,vc5⟩⟩:Eh)],us++[(⟨(k:Int),(rd.getD k 0),zoh rows k⟩:En)],L9,rfl,rfl,hB0,rfl,by omega,by rw [List.length_append,List.length_singleton];exact hO9,hre.snoc (v:=(⟨(k:Int),(rd.getD k 0),zoh rows k⟩:En)) ⟨rfl,rfl,hSV⟩,by rw [zmz hyes,hsu],by rw [List.length_append,List.length_singleton];omega⟩)
 have hge_k:en3≤k:=by have h:=hc24;simp at h;omega
 have hke:k=rd.length:=by omega
 subst hke
 refine QH (Qe (Qe (Qk (Qa (zR (zM ?_))))))
 refine zA ?_
 refine zA (zN (Qs ?_))
 first
 | exact Zo rfl rfl rfl (fun w hw=>by obtain ⟨I9,h91,h92,a,c,e9,h94⟩:=OwnS.freeze' hO Zk (by decide) (hw.subL (by exact Zi));exact ⟨_,I9,[],rfl,hIc.trans h91,h92,rfl,a,_,c,by rw [e9,he0],os,h94,by rw [zeW he0,←hsu];exact hre.mono h91⟩)
end
end Go.Proofs.YtodakphagkommaaGreatDoor
namespace Go.Proofs.YtodakphagkommaaGreatDoor.R
section
open Go Go.Kn Go.Proofs
theorem znf:AgT Tryz.prog 74 3:=.of (by kernel_rfl)
theorem zno:Fun Tryz.prog 31:=.of Tryz.func31 (by kernel_rfl) (by kernel_rfl)
theorem znE:SzT Tryz.prog 72 1:=.of (by kernel_rfl)
theorem zmZ:SzT Tryz.prog 74 3:=.of (by kernel_rfl)
theorem zuV:Yn Tryz.prog 74 (.agg #[(.int .i64 0),(.int .i64 0),(.slice none 0 0)]):=.of (by kernel_rfl)
end
section
open Go Go.Kn Go.Proofs
def znI (p:Pt):Bool:=decide (p.needs.length>80)
def zuJ (a b:Bool)(n1 n2 n3 pn vn:Nat):Bool:=(((((!a|| !((b&&decide ((n1:Int)≤40))&&decide ((n2:Int)≤40)))||decide ((n3:Int)>300))||(decide ((pn:Int)>40)&&decide ((pn:Int)≤512)))||decide ((pn:Int)>600))||decide ((vn:Int)>600))
def za7 (ws:List Wr)(rows:List (List Int))(xs:List Int)(es:List Em)(rd:List Int)(ps:List Pt)(vs:List Int):Bool:= !zuJ (zv3 ws) (zki rows) xs.length es.length rd.length ps.length vs.length&& !ps.any znI
section
variable {I:Qu} {av:Option Addr} {n c:Nat} {ws:List Wr} {wt:List Wt} {rows:List (List Int)} {xs:List Int} {es:List Em} {rd:List Int} {ps:List Pt} {vs:List Int} {n1 n2 n3 pn vn:Nat}
theorem zrk (hW:zis I av n c wt ws)(h1:xs.length=n1)(h2:es.length=n2)(h3:rd.length=n3)(h4:ps.length=pn)(h5:vs.length=vn)(h:zuJ (zm8 wt) (zki rows) n1 n2 n3 pn vn=true):za7 ws rows xs es rd ps vs=false:=by
 subst h1;subst h2;subst h3;subst h4;subst h5
 rw [zsI hW] at h
 unfold za7;rw [h];rfl
theorem zlc (hW:zis I av n c wt ws)(h1:xs.length=n1)(h2:es.length=n2)(h3:rd.length=n3)(h4:ps.length=pn)(h5:vs.length=vn)(h:zuJ (zm8 wt) (zki rows) n1 n2 n3 pn vn=false):za7 ws rows xs es rd ps vs=(!ps.any znI)∧pn≤600:=by
 subst h1;subst h2;subst h3;subst h4;subst h5
 have h6:=h
 rw [zsI hW] at h
 refine ⟨by unfold za7;rw [h];rfl,?_⟩
 unfold zuJ at h6
 simp only [Bool.or_eq_false_iff,decide_eq_false_iff_not] at h6
 omega
theorem zhE (h:za7 ws rows xs es rd ps vs=true):ws.length≤5∧(∀ x∈ws,x.rs.length≤8)∧rows.length≤20∧xs.length≤40∧es.length≤40∧rd.length≤300∧(ps.length≤40∨512<ps.length)∧ps.length≤600∧vs.length≤600∧∀ p∈ps,p.needs.length≤80:=by
 unfold za7 at h
 rw [Bool.and_eq_true] at h
 obtain ⟨h1,h2⟩:=h
 have h1:=zrq h1
 unfold zuJ at h1
 simp only [Bool.or_eq_false_iff,Bool.and_eq_false_iff,decide_eq_false_iff_not] at h1
 obtain ⟨⟨⟨⟨⟨ha,hb⟩,h3⟩,h4⟩,h5⟩,h6⟩:=h1
 have ha:=zd7 ha
 have hb:=zd7 hb
 simp only [Bool.and_eq_true,decide_eq_true_eq] at hb
 unfold zv3 at ha
 rw [Bool.and_eq_true,decide_eq_true_eq,List.all_eq_true] at ha
 have hr:rows.length≤20:=by
  have h9:=hb.1.1
  unfold zki at h9
  split at h9
  ·
   simp only [decide_eq_true_eq] at h9;omega
  ·
   omega
 refine ⟨ha.1,fun x hx=>by simpa using ha.2 x hx,hr,by omega,by omega,by omega,by omega,by omega,by omega,fun p hp=>?_⟩
 have h8:=zrq h2
 rw [List.any_eq_false] at h8
 have h7:=h8 p hp
 unfold znI at h7
 simpa using h7
end
end
section
open Go Go.Kn Go.Proofs
theorem zt3:Fun Tryz.prog 28:=.of Tryz.func28 (by kernel_rfl) (by kernel_rfl)
theorem zs3:Fun Tryz.prog 29:=.of Tryz.func29 (by kernel_rfl) (by kernel_rfl)
theorem zpQ {I:Qu}{av:Option Addr}{n c:Nat}{ws:List Wr}(hW0:SlW I av n c ws)(hn:n≤9223372036854775807){bv:Option Addr}{n2 c2:Nat}{rows:List (List Int)}(hVn:SlN I bv n2 c2 rows){ea1:Option Addr}{en1 ec1:Nat}{ea2:Option Addr}{en2 ec2:Nat}{ea3:Option Addr}{en3 ec3:Nat}{xs:List Int}{es:List Em}{rd:List Int}(hX1:Sl I 1 QP ea1 en1 ec1 xs)(hX2:Sl I 3 Yt ea2 en2 ec2 es)(hX3:Sl I 1 QP ea3 en3 ec3 rd)(no:Int){pv:Option Addr}{pn pc:Nat}{ps:List Pt}(hP:SlP I pv pn pc ps){dv:Option Addr}{n3 c3:Nat}{vs:List Int}(hVs:Sl I 1 QP dv n3 c3 vs):Zx Tryz.prog 10 [.slice av n c,.slice bv n2 c2,.agg (Z3 no ea1 en1 ec1 ea2 en2 ec2 ea3 en3 ec3).toArray,.slice pv pn pc,.slice dv n3 c3] I (.bool (za7 ws rows xs es rd ps vs)):=by
 intro g H w hw
 refine qe Tryz.func10 Tryz.ntmps10 hw ?_
 obtain ⟨wt,hWH⟩:=id hW0
 have hWl:=hWH.2.1
 have hX1l:=hX1.len
 have hX2l:=hX2.len
 have hX3l:=hX3.len
 have hPl:=hP.len
 have hVl:=hVs.len
 refine zR ?_
 refine Q5 rfl rfl rfl (fun b_7=>?_)
 refine zA ?_
 refine zN (zR ?_)
 refine zM ?_
 refine qc (vs:=[_]) rfl zt3 (zvx hWH.1 hn) ?_
 refine zA ?_
 refine zN (zR ?_)
 refine zM ?_
 refine zF ze3 ?_
 refine zL QK ?_
 refine zF zbH ?_
 refine zL zju ?_
 refine qc (vs:=[_,_,_]) rfl zs3 (zrh hVn _ _ _ _ _ _) ?_
 refine zA (zN (Ql (zR ?_)))
 refine zM ?_
 refine zO ?_
 refine zM ?_
 refine Q0 2 rfl rfl rfl ?_
 refine zJ (Qi rfl) ?_
 refine zJ (Vd rfl) ?_
 refine ZA rfl rfl rfl rfl rfl ?_
 refine zM ?_
 refine Q0 6 rfl rfl rfl ?_
 refine zJ (Qf rfl VQ) ?_
 refine zJ (Qd rfl QK (fun hg=>by exact QV.h0 rfl)) ?_
 refine zJ (ZH rfl Qy) ?_
 refine zJ (QJ rfl rfl rfl) ?_
 refine ZA rfl rfl rfl rfl rfl ?_
 refine zM ?_
 refine Q0 12 rfl rfl rfl ?_
 refine zJ (Qi rfl) ?_
 refine zJ (ZH rfl Zy) ?_
 refine zJ (QJ rfl rfl rfl) ?_
 refine zJ (Qi rfl) ?_
 refine QG 16 rfl rfl rfl ?_
 refine zK (Qi rfl) ?_
 refine zK (ZH rfl Zy) ?_
 refine zK (QJ rfl rfl rfl) ?_
 refine zke rfl rfl rfl (.some rfl rfl rfl rfl gbf) rfl rfl ?_
 refine ZA rfl rfl rfl rfl rfl ?_
 refine zM ?_
 refine Q0 22 rfl rfl rfl ?_
 refine zJ (Qi rfl) ?_
 refine zJ (ZH rfl Zy) ?_
 refine zJ (QJ rfl rfl rfl) ?_
 refine ZA rfl rfl rfl rfl rfl ?_
 refine zM ?_
 refine Q0 27 rfl rfl rfl ?_
 refine zJ (Qi rfl) ?_
 refine zJ (ZH rfl Qy) ?_
 refine zJ (QJ rfl rfl rfl) ?_
 refine ZA rfl rfl rfl rfl rfl ?_
 refine zN ?_
 refine zI ?_ ?_<;>intro hc53
 ·
  have h53:=zrk hWH hX1l hX2l hX3l hPl hVl hc53
  refine zR (zA (zN (Qs (Qc ?_))))
  exact zr rfl rfl (by rw [h53])
 have h53:=zlc hWH hX1l hX2l hX3l hPl hVl hc53
 have hpn6:pn≤600:=h53.2
 refine Qo (Qa (Ql (zR (zA (zN (Qm ?_))))))
 refine zU [(3,_)] (fun T L0 mz E I' loc'=>∃ (k:Nat),mz=pn-k∧E=(13,.int .i64 k)::T∧I=I'∧L0=loc'∧k≤pn∧(ps.take k).any znI=false) ?_ (h:=⟨0,rfl,rfl,rfl,rfl,Nat.zero_le _,rfl⟩)
 rintro mz E I' loc' ⟨k,rfl,rfl,rfl,rfl,hk,hno⟩
 refine Ql (zR (zM ?_))
 refine zM ?_
 refine zQ Zy ?_
 refine zC (zN ?_)
 refine zI ?_ ?_<;>intro hc57
 ·
  have hlt_k:k<pn:=by have h:=hc57;simp at h;omega
  obtain ⟨p,hp,hN⟩:=hP.at hlt_k
  have hNl:p.needs.length=p.n:=hN.len
  refine Qo (Qa (Ql (Qm (zR (zM ?_)))))
  refine zM ?_
  refine zV (QE rfl rfl Zy hP.1 (fun hg=>by omega)) ?_
  refine zF KV ?_
  refine zV (Qd rfl QK (fun hg=>by exact zyx (j:=18) hP.1 hp rfl)) ?_
  refine zQ Qy ?_
  refine zC (zN ?_)
  refine zI ?_ ?_<;>intro hc66
  ·
   have hbg:znI p=true:=by have h:=hc66;unfold znI;simp only [decide_eq_true_eq] at h ⊢;omega
   refine zR (zA (zN (Qs (Qn (Qc (Qc (Qn ?_)))))))
   refine Qc ?_
   first
   | exact zr rfl rfl (by rw [h53.1,JU hp hbg];rfl)
  have hbg:znI p=false:=by have h:=hc66;unfold znI;simp only [decide_eq_false_iff_not] at h ⊢;omega
  refine Qo (Qh (Qa (Qg (zM ?_))))
  refine zB ?_
  refine zA (Qb ?_)
  exact zm (h:=⟨pn-(k+1),by omega,k+1,rfl,rfl,rfl,rfl,by omega,YX hp hno hbg⟩)
 have hge_k:pn≤k:=by have h:=hc57;simp at h;omega
 rw [ZF hPl hge_k] at hno
 refine QH (Qe (Qe (Qk (Qa (zR (zA (zN ?_)))))))
 refine Qs ?_
 first
 | exact zr rfl rfl (by rw [h53.1,hno];rfl)
end
section
open Go Go.Kn Go.Proofs
def zgC (d:Int):Sg:=⟨0,0,0,1,4,1,d,2,0,0,0,1,1,1⟩
def wK:List Wr:=[⟨1,0,[⟨false,zgC 3⟩]⟩,⟨2,0,[⟨false,zgC 4⟩]⟩]
def ptK:Pt:=⟨2,1,0,5,⟨0,0,0,0,0,0,5,0,0,0,0,0,0,0⟩,none,0,0,[]⟩
theorem zx6:zai wK=0:=by kernel_rfl
theorem zx5:Uw wK=[[36110336],[36241408]]:=by kernel_rfl
theorem mK:Wa [[36110336],[36241408]] 1 [3] []=0:=by kernel_rfl
theorem rK:Vx [[36110336],[36241408]] [3] []=[36110336]:=by rw [zfU];kernel_rfl
theorem mK9:Wa [[7],[9],[7]] 1 [5,7] []=0:=by kernel_rfl
theorem rK9:Vx [[7],[9],[7]] [5,7] []=[7]:=by rw [zfU];kernel_rfl
theorem eK9:WS [[7],[9],[7]] 1 [5,7] [] [7]=0:=zoL mK9 rK9.symm
theorem nK9:ziv [[7],[9],[7]] [7] 1=[⟨0,7,[⟨7,[0,2]⟩,⟨9,[1]⟩]⟩]:=by kernel_rfl
theorem eK0:WS [] 0 [] [] []=420:=by rw [ztn (by decide)];kernel_rfl
theorem gK:Kl wK [[36110336],[36241408]] 1 [3] [] [36110336]=0∧Vf wK [[36110336],[36241408]] 1 [3] [] [36110336]=[zgC 3]:=ztS zx6 zx5 (zoL mK rK.symm) (by kernel_rfl)
section
variable (vs:List Int)
def opK:Int:=zdg (Kl wK [[36110336],[36241408]] 1 [3] [] [36110336]) [ptK] (Vf wK [[36110336],[36241408]] 1 [3] [] [36110336]) vs
def sgK:List Sg:=U8 (onF [ptK]) (Vf wK [[36110336],[36241408]] 1 [3] [] [36110336]) (Yh [ptK] vs)
end
theorem zvY:opK [2]=0:=by unfold opK;rw [gK.1,gK.2];kernel_rfl
theorem zvR:opK []=0:=by unfold opK;rw [gK.1,gK.2];kernel_rfl
theorem zxr:orE (opK [2]) (sgK [2]) 0 5=0:=by unfold sgK;rw [zvY,gK.2];kernel_rfl
theorem zxk:orE (opK [2]) (sgK [2]) 0 6=0:=by unfold sgK;rw [zvY,gK.2];kernel_rfl
theorem zwi:orE (opK []) (sgK []) 0 5=0:=by unfold sgK;rw [zvR,gK.2];kernel_rfl
theorem zw2:orE (opK []) (sgK []) 0 10=440:=by unfold sgK;rw [zvR,gK.2];kernel_rfl
def ogK (vs:List Int)(s f:Int):Og:=zaB (onF [ptK]) [[36110336],[36241408]] [] [36110336] (Yh [ptK] vs) s f
theorem zw4:orO 0 (ogK [2] 0 5)=⟨3,0,[],[2]⟩:=by kernel_rfl
theorem zxw:orO 0 (ogK [2] 0 6)=⟨1,0,[0],[]⟩:=by kernel_rfl
theorem zwK:orO 0 (ogK [] 0 5)=⟨1,0,[0],[]⟩:=by kernel_rfl
theorem zwP:orO 440 (ogK [] 0 10)=zOg:=by kernel_rfl
theorem zwR:tcF (opK [2]) (ogK [2]) (sgK [2])=[(0,5)]:=by unfold sgK;rw [zvY,gK.2];kernel_rfl
theorem zwF:tcF (opK []) (ogK []) (sgK [])=[]:=by unfold sgK;rw [zvR,gK.2];kernel_rfl
end
end Go.Proofs.YtodakphagkommaaGreatDoor.R
