/- apparatusRows_holds, part F of the proof: what its theorems say holds without further conditions. -/
import Derived.KernelRfl
import Derived.Test.YtodakphagkommaaGreatDoorARE
namespace Go.Proofs.YtodakphagkommaaGreatDoor.R
section
open Go Go.Kn Go.Proofs
theorem zu9 {I:Qu}{av:Option Addr}{n c:Nat}{ps:List Pt}(hP:SlP I av n c ps)(hn:n≤100000){bv:Option Addr}{n2 c2:Nat}{bs:List Sg}(hB:Sl I 14 Vc bv n2 c2 bs)(hn2:n2≤100000){dv:Option Addr}{n3 c3:Nat}{ws:List Int}(hV:Sl I 1 QQ dv n3 c3 ws)(hn3:n3≤100000):Yb Tryz.prog 83 [.slice av n c,.slice bv n2 c2,.slice dv n3 c3] I [] (RdQ (X3 ps bs ws) ps (YM ps ws) (WE bs (YM ps ws))):=by
 intro g H w hw
 refine qe Tryz.func83 Tryz.ntmps83 hw ?_
 have hIc:=zxQ I
 refine zR ?_
 refine Qs zmA rfl rfl (fun b_6=>?_)
 refine zA (zN (Ql (zR ?_)))
 refine zM ?_
 refine qc (vs:=[_]) rfl zuH (ztw hP hn) ?_
 refine zA ?_
 refine zN (zR ?_)
 refine zM ?_
 refine zC (zN ?_)
 refine zI ?_ ?_<;>intro hc19
 ·
  have hck:KX ps≠0:=by simpa using hc19
  refine zR ?_
  refine zV (Qp rfl Y9 (fun hg=>by exact Cells.g0) rfl) ?_
  refine zM ?_
  refine zh K9 ?_
  refine zA (zN (Qt (Qc ?_)))
  first
  | exact Zu rfl rfl rfl Y9 (by repeat (first | exact zxO | apply zxN | apply zxP)) rfl (fun w hw=>⟨_,I,[],rfl,hIc,hw.drop,rfl,_,_,_,_,_,_,by rw [zpO hck],fun h0=>absurd h0 (by rw [zpO hck];exact hck)⟩)
 have hck:KX ps=0:=by simpa using hc19
 have hn5:n≤512:=by have:=(Uk hck).1;rw [hP.len] at this;omega
 have hL:=za8 hck
 have hnd:=ztl hP hck
 have hSto:=zaV hck
 refine Qo (Qa (Ql (zR (zM ?_))))
 refine qc (vs:=[_]) rfl zc6 (zfo hB hn2) ?_
 refine zA ?_
 refine zN (zR ?_)
 refine zM ?_
 refine zC (zN ?_)
 refine zI ?_ ?_<;>intro hc25
 ·
  have hcg:Wm bs≠0:=by simpa using hc25
  refine zR ?_
  refine zV (Qp rfl Y9 (fun hg=>by exact Cells.g0) rfl) ?_
  refine zM ?_
  refine zh K9 ?_
  refine zA (zN (Qt (Qc ?_)))
  first
  | exact Zu rfl rfl rfl Y9 (by repeat (first | exact zxO | apply zxN | apply zxP)) rfl (fun w hw=>⟨_,I,[],rfl,hIc,hw.drop,rfl,_,_,_,_,_,_,by rw [zrg hck hcg],fun h0=>absurd h0 (by rw [zrg hck hcg];exact hcg)⟩)
 have hcg:Wm bs=0:=by simpa using hc25
 refine Qo (Qa (Ql (zR (zM ?_))))
 refine zM ?_
 refine qc (vs:=[_,_]) rfl zum (zgR hP hn5 hL hnd hV hn3) ?_
 refine zA ?_
 refine zN (zR ?_)
 refine zM ?_
 refine zC (zN ?_)
 refine zI ?_ ?_<;>intro hc32
 ·
  have hcv:vrE ps ws≠0:=by simpa using hc32
  refine zR ?_
  refine zV (Qp rfl Y9 (fun hg=>by exact Cells.g0) rfl) ?_
  refine zM ?_
  refine zh K9 ?_
  refine zA (zN (Qt (Qc ?_)))
  first
  | exact Zu rfl rfl rfl Y9 (by repeat (first | exact zxO | apply zxN | apply zxP)) rfl (fun w hw=>⟨_,I,[],rfl,hIc,hw.drop,rfl,_,_,_,_,_,_,by rw [ztP hck hcg hcv],fun h0=>absurd h0 (by rw [ztP hck hcg hcv];exact hcv)⟩)
 have hcv:vrE ps ws=0:=by simpa using hc32
 have hVer:=(zep hL).1 (znH hcv)
 refine Qo (Qa (zR (zM ?_)))
 refine Qz (cap:=[]) (vs:=[_]) rfl rfl ziz .nil (za9 hP hn hL hnd) rfl rfl ?_
 rintro vv1 I1 L1 hI1 ⟨rfl,r9,rfl,hOn⟩
 have hP:=hP.mono hI1;have hB:=hB.mono hI1;have hV:=hV.mono hI1;have hIc:=hIc.trans hI1
 refine ZH rfl rfl (fun r_37=>?_)
 refine ZH rfl rfl (fun r_38=>?_)
 refine zM ?_
 refine Qz (cap:=[]) (vs:=[_]) rfl rfl zow .nil (zkh hB (by omega)) rfl rfl ?_
 rintro vv2 I2 L2 hI2 ⟨rfl,hO⟩
 have hP:=hP.mono hI2;have hB:=hB.mono hI2;have hV:=hV.mono hI2;have hOn:=hOn.mono hI2;have hIc:=hIc.trans hI2
 obtain ⟨Lg,hLg⟩:∃ Lg,Lg=L2:=⟨_,rfl⟩
 subst hLg
 obtain ⟨vg,hvg⟩:∃ z,z=vv2:=⟨_,rfl⟩
 subst hvg
 obtain ⟨va,vn,vc,rfl⟩:=hO.val
 refine zV (QR (ps:=[(0,_),(1,_),(2,_),(3,_)]) [_,_,_,_] zpN rfl rfl) ?_
 refine YQ rfl rfl K9 rfl rfl rfl rfl (by (repeat (first | exact Upd.here | apply Upd.there | apply QJ))) ?_
 refine zN (zR ?_)
 refine ZH rfl rfl (fun r_42=>?_)
 refine zA (zN (Ql (zR ?_)))
 refine zM ?_
 refine zQ Vf ?_
 refine zM (zN (Qm ?_))
 refine zU [(0,_),(2,_),(6,_),(8,_),(43,_),(44,_)] (fun T L0 mz E I' loc'=>∃ (k:Nat) (s:List (Int×Bool)),mz=n2-k∧E=(45,.int .i64 k)::T∧I2=I'∧(r_42,ZM (Value.int .i64) Value.bool s)::(Lg++[(r_38,ZM (Value.int .i64) WC []),(r_37,ZM YA WC []),(b_6,.cells #[.map (some r9),.map (some r_37),.map (some r_38),.slice va vn vc] 159 (0,0))])=loc'∧k≤n2∧∀ x,ze3 s x=WR (bs.take k) x) ?_ (h:=⟨0,[],rfl,rfl,rfl,rfl,Nat.zero_le _,fun x=>rfl⟩)
 rintro mz E I' loc' ⟨k,s,rfl,rfl,rfl,rfl,hk,hs⟩
 refine zR (zC (zN (Ql ?_)))
 refine zI ?_ ?_<;>intro hc46
 ·
  have hlt_k:k<n2:=by have h:=hc46;simp at h;omega
  obtain ⟨b,hb⟩:=hB.at hlt_k
  refine Qo (Qa (Ql (Qm (zR ?_))))
  refine zV (QG rfl rfl Vf (by assumption) (fun hg=>by omega)) ?_
  refine zV (Qp rfl ZL (fun hg=>by exact zxR hB hb) rfl) ?_
  refine Qs XV rfl rfl (fun b_10=>?_)
  refine zh VK ?_
  refine zN (Qg (zM ?_))
  refine zF Z3 ?_
  refine zL Qr ?_
  refine Q6 (m:=s) (ek:=Value.int .i64) (ev:=Value.bool) (a:=b.id) true Vq ZD rfl rfl rfl rfl (by repeat (first | exact Upd.here | apply Upd.there | apply QJ)) ?_
  refine Qb (Qh (Qa (Qg (zB ?_))))
  refine zM (Qb ?_)
  exact zm (h:=⟨n2-(k+1),by omega,k+1,_,rfl,rfl,rfl,rfl,by omega,fun x=>by rw [Xd,hs,ziU hb]⟩)
 have hge_k:n2≤k:=by have h:=hc46;simp at h;omega
 have hkn:=zf8 hs (by rw [hB.len];exact hge_k)
 refine QI (Qf (Qf (Qk (Qa (Ql (zR (zM ?_)))))))
 refine zQ ZC ?_
 refine zM (zN (Qm ?_))
 refine zU [(2,_),(6,_),(8,_),(53,_),(54,_)] (fun T L0 mz E I' loc'=>∃ (k:Nat) (s:List (Int×Bool)) (vg:Value) (q:Nat) (Lg:Go.Kn.Loc) (ms:List ((Int×Int)×zjF)) (Ls:Go.Kn.Loc) (mr:List (Int×zjF)) (Lr:Go.Kn.Loc),mz=n-k∧E=(55,.int .i64 k)::T∧I2=I'∧(r_42,ZM (Value.int .i64) Value.bool s)::(Lg++((r_38,ZM (Value.int .i64) WC mr)::(r_37,ZM YA WC ms)::(b_6,.cells #[.map (some r9),.map (some r_37),.map (some r_38),vg] 159 (0,0))::(Ls++Lr)))=loc'∧k≤n∧zcl s bs (YM (ps.take k) ws)∧OwnS 54 14 vg q ((bs++zbp (YM (ps.take k) ws)).flatMap Vc) Lg∧q≤n2+k∧zgm ms (YM (ps.take k) ws)∧Vj 57 19 (ms.map (·.2)) Ls∧WH mr (YM (ps.take k) ws)∧Vj 3 1 (mr.map (·.2)) Lr∧(YM (ps.take k) ws).all (zrs bs (YM ps ws))=true) ?_ (h:=⟨0,s,_,n2,Lg,[],[],[],[],rfl,rfl,rfl,rfl,Nat.zero_le _,hkn,by rw [show bs++zbp (YM (ps.take 0) ws)=bs from List.append_nil _];exact hO,Nat.le_refl _,zgm.start,Vj.nil,WH.start,Vj.nil,rfl⟩)
 rintro mz E I' loc' ⟨k,s,vg,q,Lg,ms,Ls,mr,Lr,rfl,rfl,rfl,rfl,hk,hkn,hO,hq,hsm,hAllS,hrm,hAllR,hfit⟩
 obtain ⟨va,vn,vc,rfl⟩:=hO.val
 refine zR (zC (zN (Ql ?_)))
 refine zI ?_ ?_<;>intro hc56
 ·
  have hlt_k:k<n:=by have h:=hc56;simp at h;omega
  have hP1:=hP.1
  obtain ⟨p,hp,hN⟩:=hP.at hlt_k
  have hpm:=List.mem_of_getElem? hp
  have hN:Sl I2 1 QQ p.a p.n p.c p.needs:=hN
  have hpn:=hnd p hpm
  refine Qo (Qa (Ql (Qm (zR ?_))))
  refine zV (QG rfl rfl ZC (by assumption) (fun hg=>by omega)) ?_
  refine zV (Qp rfl Yw (fun hg=>by exact zxR hP1 hp) rfl) ?_
  refine Qs Ui rfl rfl (fun b_12=>?_)
  refine zh V8 ?_
  refine zN (Ql (zR (zM ?_)))
  refine zF Zy ?_
  refine zL Qr ?_
  refine qc (vs:=[_,_]) rfl zrc (zwZ hV hn3 hVer.inc _) ?_
  refine zM ?_
  refine zE ?_
  refine zE ?_
  refine zA ?_
  refine zA ?_
  refine zN (zR ?_)
  refine zM ?_
  refine zO (zN ?_)
  refine zI ?_ ?_<;>intro hc67
  ·
   have hin:(ws.any fun x=>x==p.id)=false:=(Bool.not_eq_true' _).mp hc67
   have hT:=zob hp hin
   refine QI (Qf (Qk (Qa (Qg (zB ?_)))))
   refine zM (Qb ?_)
   first
   | exact zm (h:=⟨n-(k+1),by omega,k+1,_,_,_,_,_,_,_,_,rfl,rfl,rfl,rfl,by omega,by rw [hT];exact hkn,by rw [hT];exact hO,by omega,by rw [hT];exact hsm,hAllS,by rw [hT];exact hrm,hAllR,by rw [hT];exact hfit⟩)
  have hin:(ws.any fun x=>x==p.id)=true:=(Bool.not_eq_false' _).mp hc67
  have hT:=zkZ hp hin
  refine Qo (Qa (Ql (zR (zM ?_))))
  refine zF Ya ?_
  refine zL Qr ?_
  refine zV (Yg (m:=s) Vq ZD rfl rfl (fun _=>(by exact Mem.m1))) ?_
  refine zF KY ?_
  refine zL Qr ?_
  refine zC ?_
  refine zV (zkq rfl rfl zws) ?_
  refine zN ?_
  refine zI ?_ ?_<;>intro hc75
  ·
   have h75:(ze3 s p.sign==(p.kind==2))=true:=hc75
   rw [zfs hSto hp hin (hkn p.sign)] at h75
   have hfp:=(Bool.not_eq_true' _).mp h75
   have hfb:=zp5 hpm hin hfp
   refine zR ?_
   refine zV (Qp rfl Y9 (fun hg=>by (repeat (first | exact zxO | apply zxN | apply zxP))) rfl) ?_
   refine YQ rfl rfl K9 rfl rfl rfl rfl (by (repeat (first | exact Upd.here | apply Upd.there | apply QJ))) ?_
   refine zA (zN (Qt (Qc (Qn (Qc (Qc (Qn ?_)))))))
   refine Qc ?_
   first
   | exact Zu rfl rfl rfl Y9 (by repeat (first | exact zxO | apply zxN | apply zxP)) rfl (fun w hw=>⟨_,I2,[],rfl,hIc,hw.drop,rfl,_,_,_,_,_,_,by rw [zti hck hcg hcv hfb],fun h0=>absurd h0 (by rw [zti hck hcg hcv hfb];exact (by decide))⟩)
  have h75:(ze3 s p.sign==(p.kind==2))=false:=hc75
  rw [zfs hSto hp hin (hkn p.sign)] at h75
  have hfp:=(Bool.not_eq_false' _).mp h75
  refine Qo (Qa (zR ?_))
  refine zF KY ?_
  refine zL Qr ?_
  refine zN (Qm (zR (zC ?_)))
  refine zA (zN ?_)
  refine zI ?_ ?_<;>intro hc79
  ·
   have hk2:p.kind=2:=by simpa using hc79
   refine zR (zM ?_)
   refine zF Ya ?_
   refine zL Qr ?_
   refine Q6 (m:=s) (ek:=Value.int .i64) (ev:=Value.bool) (a:=p.sign) true Vq ZD rfl rfl rfl rfl (by repeat (first | exact Upd.here | apply Upd.there | apply QJ)) ?_
   refine zN (Qg ?_)
   refine zF UC ?_
   refine zV (Qd rfl zb0 (fun hg=>by (repeat (first | exact zxL rfl | apply zxK | apply zxM)))) ?_
   refine zF VP ?_
   refine zV (Qp rfl ZL (fun hg=>by exact Cells.s0 (vs:=[_,_,_,_,_,_,_,_,_,_,_,_,_,_]) rfl) rfl) ?_
   refine Qq (ps:=[(0,_)]) (m:=[Vc p.nw]) K6 rfl (.cons rfl (.nil)) rfl (by simp [Z1]) (by decide) (by decide) rfl rfl (fun b_88=>?_)
   refine QW (v:=_) (ys:=[p.nw].flatMap Vc) (L:=Lg) rfl rfl K6 hO (by repeat (first | exact .cons .here .nil | exact QD | exact Qx | apply QC | apply QB)) ⟨rfl,fun _=>rfl,zxO⟩ (zlw [p.nw]) (by omega) rfl rfl ?_
   intro v9 L9 hO9 _;rw [←List.flatMap_append] at hO9;obtain ⟨va9,vn9,vc9,rfl⟩:=hO9.val
   refine zF UC ?_
   refine ZB rfl rfl zmE rfl rfl (by (repeat (first | exact Upd.here | apply Upd.there | apply QJ))) rfl ?_
   refine Qb (Qh (Qh (Qa (Qg (zB ?_)))))
   refine zM (Qb ?_)
   first
   | exact Jk _ _ (L9++((r_42,_)::(r_38,_)::(r_37,_)::(b_6,_)::(Ls++Lr))) ⟨n-(k+1),by omega,k+1,_,_,_,L9,ms,Ls,mr,Lr,rfl,rfl,rfl,rfl,by omega,by rw [hT];exact hkn.put hk2,by rw [hT,zk9 hk2,←List.append_assoc];exact hO9,by omega,by rw [hT];exact hsm.skip (by omega),hAllS,by rw [hT];exact hrm.skip' (by omega),hAllR,by rw [hT,List.all_append,hfit];simp [hfp]⟩ (.cons rfl (.cons rfl (.cons rfl (.cons rfl (.cons rfl (.cons rfl .nil)))))) zuU (by repeat (first | exact .refl | exact Zi | refine Yf ?_ | refine .drop ?_ | refine Z2 ?_))
  have hk2n:p.kind≠2:=by simpa using hc79
  refine zR (zC ?_)
  refine zA (zN ?_)
  refine zI ?_ ?_<;>intro hc91
  ·
   have hk1:p.kind=1:=by simpa using hc91
   refine zR ?_
   refine zF Ya ?_
   refine zL Qr ?_
   refine zF Js ?_
   refine zL Qr ?_
   refine zV (Zw (ps:=[(0,_),(1,_)]) [_,_] YP Ku rfl rfl) ?_
   refine Qs Ku rfl rfl (fun b_15=>?_)
   refine zh zhY ?_
   refine zN ?_
   obtain ⟨A,Lt,B,hLs,hOt,hset⟩:=hAllS.at (p.sign,p.field)
   subst hLs
   rw [List.append_assoc A,List.append_assoc Lt]
   have hq0:=zuP hsm hOt
   have hq2:(YM (ps.take k) ws).length≤k:=Nat.le_trans (List.length_filter_le ..) (List.length_take_le k ps)
   refine Qg ?_
   refine zF Xw ?_
   refine zV (Qd rfl zdQ (fun hg=>by (repeat (first | exact zxL rfl | apply zxK | apply zxM)))) ?_
   refine zV (Qp rfl zaA (fun hg=>by exact Cells.g0) rfl) ?_
   refine zV (Qp rfl Yw (fun hg=>by exact Cells.g1) rfl) ?_
   refine Qq (ps:=[(0,_)]) (m:=[Yt p]) Us rfl (.cons rfl (.nil)) rfl (by simp [Q1]) (by decide) (by decide) rfl rfl (fun b_103=>?_)
   refine zc7 (m:=ms) (ek:=YA) (ev:=WC) (a:=(p.sign,p.field)) V3 rfl zdE zay rfl rfl rfl rfl (by (repeat (first | exact Upd.here | apply Upd.there | apply QJ))) ?_
   refine zE ?_
   refine QW (v:=_) (ys:=[p].flatMap Yt) (L:=Lt) rfl rfl Us hOt (by repeat (first | exact .cons .here .nil | exact QD | exact Qx | apply QC | apply QB)) ⟨rfl,fun _=>rfl,zxO⟩ (zk7 [p]) (by omega) rfl rfl ?_
   intro v9 L9 hO9 _
   refine zE ?_
   refine zbP (ek:=YA) (ev:=WC) (m:=Yp ms (p.sign,p.field) ((Zs ms (p.sign,p.field)).getD V3)) (a:=(p.sign,p.field)) (v9,((Zs ms (p.sign,p.field)).getD V3).2.1+1,((Zs ms (p.sign,p.field)).getD V3).2.2++[p].flatMap Yt) ((Zs ms (p.sign,p.field)).getD V3) (by rw [Yx,if_pos rfl]) rfl (by rw [zgF];exact rfl) rfl rfl (by repeat (first | exact Upd.here | apply Upd.there | apply QJ)) ?_
   rw [zck]
   refine Qb (Qh (Qh (Qa (Qg (zB ?_)))))
   refine zM (Qb ?_)
   first
   | exact Jk _ _ (L9++((r_42,_)::(Lg++((r_38,_)::(r_37,_)::(b_6,_)::(A++(B++Lr)))))) ⟨n-(k+1),by omega,k+1,s,_,q,Lg,_,A++(L9++B),mr,Lr,rfl,rfl,rfl,rfl,by omega,by rw [hT];exact hkn.skip (by omega),by rw [hT,zbw (by omega)];exact hO,by omega,by rw [hT];exact hsm.put hk1,hset (v9,_,_) L9 hO9,by rw [hT];exact hrm.skip' (by omega),hAllR,by rw [hT,List.all_append,hfit];simp [hfp]⟩ (.cons rfl (.cons rfl (.cons rfl (.cons rfl (.cons rfl (.cons rfl .nil)))))) ztp (by repeat (first | exact .refl | exact Zi | refine Yf ?_ | refine .drop ?_ | refine Z2 ?_))
  have hk1n:p.kind≠1:=by simpa using hc91
  refine zR (zC ?_)
  refine zA (zN ?_)
  refine zI ?_ ?_<;>intro hc107
  ·
   have hk3:p.kind=3:=by simpa using hc107
   obtain ⟨A,Lt,B,hLr,hOt,hset⟩:=hAllR.at p.sign
   subst hLr
   have hq0:=zmz hrm hOt
   have hq2:(YM (ps.take k) ws).length≤k:=Nat.le_trans (List.length_filter_le ..) (List.length_take_le k ps)
   have hD:=zxQ I2
   refine Jn ?_
   refine Z5 I2 [(b_12,.cells (Yt p).toArray 57 (0,0)),(b_6,.cells #[.map (some r9),.map (some r_37),.map (some r_38),.slice va vn vc] 159 (0,0))] mixed ?_
   refine zT 0 rfl (Qe rfl UU) hD ?_
   refine zT 1 rfl (Qd rfl zeD (fun hg=>by exact QS.h1 rfl)) hD ?_
   refine zT 2 rfl (Qe rfl Ya) hD ?_
   refine zT 3 rfl (Qd rfl Qr (fun hg=>by exact QS.h0 rfl)) hD ?_
   refine zT 4 rfl (Qe rfl UU) hD ?_
   refine zT 5 rfl (Qd rfl zeD (fun hg=>by exact QS.h1 rfl)) hD ?_
   refine zT 6 rfl (Qe rfl Ya) hD ?_
   refine zT 7 rfl (Qd rfl Qr (fun hg=>by exact QS.h0 rfl)) hD ?_
   refine zT 9 rfl (Qe rfl Zy) hD ?_
   refine zT 10 rfl (Qd rfl Qr (fun hg=>by exact QS.h0 rfl)) hD ?_
   refine Zq 8 11 rfl rfl (by kernel_rfl) ?_ ?_
   ·
    refine zV (Vl (m:=mr) (ek:=Value.int .i64) (a:=p.sign) YU ZD rfl rfl (fun _=>.inr (by simp))) ?_
    refine Qb ?_
    refine zD hD ?_
    refine qd 11 rfl ?_
    refine Qq (ps:=[(0,_)]) (m:=[QQ p.id]) Zh rfl (.cons rfl (.nil)) rfl (by simp [Qv]) (by decide) (by decide) rfl rfl (fun b_120=>?_)
    refine Qb ?_
    refine zD hD ?_
    refine qd 12 rfl ?_
    refine QW (v:=_) (ys:=[p.id].flatMap QQ) (L:=Lt) rfl rfl Zh hOt (by repeat (first | exact .cons .here .nil | exact QD | exact Qx | apply QC | apply QB)) ⟨rfl,fun _=>rfl,zxO⟩ (JI [p.id]) (by omega) rfl rfl ?_
    intro v9 L9 hO9 _
    refine Qb ?_
    refine zD hD ?_
    refine qd 13 rfl ?_
    refine Q6 (m:=mr) (ek:=Value.int .i64) (ev:=WC) (a:=p.sign) (v9,((Zs mr p.sign).getD V3).2.1+1,((Zs mr p.sign).getD V3).2.2++[p.id].flatMap QQ) YU ZD rfl rfl rfl rfl (by (repeat (first | exact Upd.here | apply Upd.there | apply QJ))) ?_
    refine Qb ?_
    refine zD hD ?_
    refine QF (by kernel_rfl) ?_
    refine QP ?_
    refine Qh (Qh (Qa (Qg (zB ?_))))
    refine zM (Qb ?_)
    first
    | exact Jk _ _ (L9++((r_42,_)::(Lg++((r_38,_)::(r_37,_)::(b_6,_)::(Ls++(A++B)))))) ⟨n-(k+1),by omega,k+1,s,_,q,Lg,ms,Ls,_,A++(L9++B),rfl,rfl,rfl,rfl,by omega,by rw [hT];exact hkn.skip (by omega),by rw [hT,zbw (by omega)];exact hO,by omega,by rw [hT];exact hsm.skip (by omega),hAllS,by rw [hT];exact hrm.put' hk3,hset (v9,_,_) L9 hO9,by rw [hT,List.all_append,hfit];simp [hfp]⟩ (.cons rfl (.cons rfl (.cons rfl (.cons rfl (.cons rfl (.cons rfl .nil)))))) zm4 (by repeat (first | exact .refl | exact Zi | refine Yf ?_ | refine .drop ?_ | refine Z2 ?_))
   refine Qq (ps:=[(0,_)]) (m:=[QQ p.id]) Zh rfl (.cons rfl (.nil)) rfl (by simp [Qv]) (by decide) (by decide) rfl rfl (fun b_120=>?_)
   refine Qb ?_
   refine zD hD ?_
   refine qd 8 rfl ?_
   refine zV (Vl (m:=mr) (ek:=Value.int .i64) (a:=p.sign) YU ZD rfl rfl (fun _=>.inr (by simp))) ?_
   refine Qb ?_
   refine zD hD ?_
   refine qd 12 rfl ?_
   refine QW (v:=_) (ys:=[p.id].flatMap QQ) (L:=Lt) rfl rfl Zh hOt (by repeat (first | exact .cons .here .nil | exact QD | exact Qx | apply QC | apply QB)) ⟨rfl,fun _=>rfl,zxO⟩ (JI [p.id]) (by omega) rfl rfl ?_
   intro v9 L9 hO9 _
   refine Qb ?_
   refine zD hD ?_
   refine qd 13 rfl ?_
   refine Q6 (m:=mr) (ek:=Value.int .i64) (ev:=WC) (a:=p.sign) (v9,((Zs mr p.sign).getD V3).2.1+1,((Zs mr p.sign).getD V3).2.2++[p.id].flatMap QQ) YU ZD rfl rfl rfl rfl (by (repeat (first | exact Upd.here | apply Upd.there | apply QJ))) ?_
   refine Qb ?_
   refine zD hD ?_
   refine QF (by kernel_rfl) ?_
   refine QP ?_
   refine Qh (Qh (Qa (Qg (zB ?_))))
   refine zM (Qb ?_)
   first
   | exact Jk _ _ (L9++((r_42,_)::(Lg++((r_38,_)::(r_37,_)::(b_6,_)::(Ls++(A++B)))))) ⟨n-(k+1),by omega,k+1,s,_,q,Lg,ms,Ls,_,A++(L9++B),rfl,rfl,rfl,rfl,by omega,by rw [hT];exact hkn.skip (by omega),by rw [hT,zbw (by omega)];exact hO,by omega,by rw [hT];exact hsm.skip (by omega),hAllS,by rw [hT];exact hrm.put' hk3,hset (v9,_,_) L9 hO9,by rw [hT,List.all_append,hfit];simp [hfp]⟩ (.cons rfl (.cons rfl (.cons rfl (.cons rfl (.cons rfl (.cons rfl .nil)))))) zm4 (by repeat (first | exact .refl | exact Zi | refine Yf ?_ | refine .drop ?_ | refine Z2 ?_))
  have hk3n:p.kind≠3:=by simpa using hc107
  refine Qo (Qh (Qh (Qa (Qg (zB ?_)))))
  refine zM (Qb ?_)
  first
  | exact zm (h:=⟨n-(k+1),by omega,k+1,_,_,_,_,_,_,_,_,rfl,rfl,rfl,rfl,by omega,by rw [hT];exact hkn.skip hk2n,by rw [hT,zbw hk2n];exact hO,by omega,by rw [hT];exact hsm.skip hk1n,hAllS,by rw [hT];exact hrm.skip' hk3n,hAllR,by rw [hT,List.all_append,hfit];simp [hfp]⟩)
 have hge_k:n≤k:=by have h:=hc56;simp at h;omega
 have hTn:YM (ps.take k) ws=YM ps ws:=by rw [ZE hP.len hge_k]
 rw [hTn] at hkn hO hsm hrm hfit
 have hfitB:zgj bs (YM ps ws)=true:=hfit
 refine QI (Qf (Qf (Qk (Qa (zR ?_)))))
 refine zF UC ?_
 refine zV (Qd rfl zb0 (fun hg=>by (repeat (first | exact zxL rfl | apply zxK | apply zxM)))) ?_
 refine Qz (cap:=[]) (vs:=[_,_]) rfl rfl zo0 (by repeat (first | exact .cons .here .nil | exact QD | exact Qx | apply QC | apply QB)) (zok 54 _ hO (by omega) _) rfl rfl ?_
 rintro vv5 I5 L5 hI5 ⟨rfl,rfl,zs2,hperm,hsort,hO2⟩
 have hP:=hP.mono hI5;have hOn:=hOn.mono hI5;have hIc:=hIc.trans hI5
 refine Qb ?_
 have hz2:zs2=WE bs (YM ps ws):=zkw (zoJ (zj1 hcg).2) (ze5 hSto hVer) hfitB hperm hsort
 rw [hz2] at hO2
 refine Qa (zR ?_)
 refine zV (Qp rfl Y9 (fun hg=>by (repeat (first | exact zxO | apply zxN | apply zxP))) rfl) ?_
 refine YQ rfl rfl K9 rfl rfl rfl rfl (by (repeat (first | exact Upd.here | apply Upd.there | apply QJ))) ?_
 refine zA (zN (Qt ?_))
 first
 | exact Zu rfl rfl rfl Y9 (by repeat (first | exact zxO | apply zxN | apply zxP)) rfl (fun w hw=>by obtain ⟨I9,h91,h92,h93⟩:=hw.freezeAll;obtain ⟨av9,c9,hv9,hS9⟩:=hO2.sl Z1 (by decide) (fun b o hb=>h93 b o (by simp [hb]));cases hv9;exact ⟨_,I9,[],rfl,hIc.trans h91,h92,rfl,_,_,_,_,_,_,by rw [zwI hck hcg hcv hfitB],fun _=>⟨_,_,_,rfl,rfl,rfl,⟨hOn.mono h91,⟨ms,h93 r_37 _ (by simp),zss hsm hAllS (fun b o hb=>h93 b o (by simp [hb]))⟩,⟨mr,h93 r_38 _ (by simp),znc hrm hAllR (fun b o hb=>h93 b o (by simp [hb]))⟩,hS9,fun p hp=>(Y2.1 hp).1,fun p hp=>(hP.2 p hp).mono h91,hL,by rw [hP.len];exact hn5,Nat.le_trans (List.length_filter_le ..) (by rw [hP.len];exact hn5)⟩⟩⟩)
end
section
open Go Go.Kn Go.Proofs
def zd9 (P:Pt→Bool)(xs:List Pt):List Int:=(xs.filter P).map (·.id)
theorem zh5 {P:Pt→Bool}{xs:List Pt}:zd9 P (xs.take 0)=[]:=by unfold zd9;simp
theorem zl1 {P:Pt→Bool}{xs:List Pt}{k:Nat}{p:Pt}(hp:xs[k]? =some p)(h:P p=true):zd9 P (xs.take (k+1))=zd9 P (xs.take k)++[p.id]:=by
 unfold zd9
 rw [Z0 hp,List.filter_append,List.filter_cons,if_pos h];simp
theorem zpb {P:Pt→Bool}{xs:List Pt}{k:Nat}{p:Pt}(hp:xs[k]? =some p)(h:P p=false):zd9 P (xs.take (k+1))=zd9 P (xs.take k):=by
 unfold zd9
 rw [Z0 hp,List.filter_append,List.filter_cons,if_neg (by rw [h];exact Bool.false_ne_true)];simp
def zvm (on:Int→Int→Bool)(l:List Pt)(s:Int)(p:Pt):Bool:=(rmF l s).any fun i=> !on i p.id
def unL (on:Int→Int→Bool)(l:List Pt)(s f:Int):List Int:=zd9 (zvm on l s) (stF l s f)
def unK (on:Int→Int→Bool)(l:List Pt)(s:Int)(k:Nat):List Int:=(List.range k).flatMap fun (j:Nat)=>unL on l s ((j:Int)+1)
theorem zfd (on:Int→Int→Bool)(l:List Pt)(s:Int)(k:Nat):unK on l s (k+1)=unK on l s k++unL on l s ((k:Int)+1):=by
 unfold unK
 rw [List.range_succ,List.flatMap_append];simp
theorem zrb {on:Int→Int→Bool}{l:List Pt}{s:Int}(k:Nat):(unK on l s k).length≤k*l.length:=by
 induction k with
 | zero=>simp [unK]
 | succ k ih=>
  rw [zfd,List.length_append,Nat.succ_mul]
  have h1:(unL on l s ((k:Int)+1)).length≤l.length:=by
   unfold unL zd9
   rw [List.length_map]
   exact Nat.le_trans (List.length_filter_le ..) Xk
  omega
theorem zmg {on:Int→Int→Bool}{l xs:List Pt}{s:Int}{k j e q:Nat}{v:Value}{P:Pt→Bool}{L:Go.Kn.Loc}(hO:OwnS e 1 v q ((unK on l s k++zd9 P (xs.take j)).flatMap QQ) L)(hk:k≤9)(hl:l.length≤512)(hx:xs.length≤512):q≤10000:=by
 have h1:=hO.1
 rw [zxo,List.length_append] at h1
 have h2:(unK on l s k).length≤9*512:=Nat.le_trans (zrb k) (Nat.mul_le_mul hk hl)
 have h3:(zd9 P (xs.take j)).length≤xs.length:=by
  unfold zd9
  rw [List.length_map]
  refine Nat.le_trans (List.length_filter_le ..) ?_
  rw [List.length_take];omega
 omega
theorem zi7 {on:Int→Int→Bool}{l:List Pt}{s:Int}(hok:∀ p∈l,zqa p){x:Int}:x∈unK on l s 9↔x∈(unF on l s).map (·.id):=by
 unfold unK unL zd9 unF unB
 rw [List.mem_flatMap]
 simp only [List.mem_map,List.mem_filter,List.mem_range,X4,Bool.and_eq_true,beq_iff_eq]
 constructor
 ·
  rintro ⟨j,hj,p,⟨⟨hp,hk,hs,hf⟩,hu⟩,rfl⟩
  exact ⟨p,⟨hp,hs,hk,by rw [hs];exact hu⟩,rfl⟩
 ·
  rintro ⟨p,⟨hp,hs,hk,hu⟩,rfl⟩
  have hf:=((hok p hp).set hk).1
  unfold isF at hf
  refine ⟨(p.field-1).toNat,by omega,p,⟨⟨hp,hk,hs,by omega⟩,by rw [hs] at hu;exact hu⟩,rfl⟩
theorem zvS {on:Int→Int→Bool}{l:List Pt}{s:Int}(hok:∀ p∈l,zqa p):((((rmF l s).length:Int)==0)||decide (((unK on l s 9).length:Int)>0))=exB on l s:=by
 unfold exB
 have h1:(unK on l s 9).length=0↔unF on l s=[]:=by
  constructor
  ·
   intro h
   have h2:=List.length_eq_zero_iff.1 h
   cases hu:unF on l s with
   | nil=>rfl
   | cons p us=>
    have:p.id∈unK on l s 9:=(zi7 hok).2 (by rw [hu];simp)
    rw [h2] at this;cases this
  ·
   intro h
   cases hu:unK on l s 9 with
   | nil=>rfl
   | cons x us=>
    have:x∈(unF on l s).map (·.id):=(zi7 hok).1 (by rw [hu];simp)
    rw [h] at this;cases this
 congr 1
 ·
  cases rmF l s with
  | nil=>rfl
  | cons x us=>simp;omega
 ·
  cases hu:unF on l s with
  | nil=>rw [h1.2 hu];rfl
  | cons p us=>
   have:(unK on l s 9).length≠0:=fun h=>by rw [h1.1 h] at hu;cases hu
   simp;omega
theorem zs7 {ps l:List Pt}(hsub:∀ p∈l,p∈ps){s i:Int}(h:i∈rmF l s):∃ q∈ps,q.id=i:=by
 obtain ⟨q,hq,_,_,e⟩:=zo3.1 h
 exact ⟨q,hsub q hq,e⟩
theorem zt3 {l:List Pt}{s:Int}:(rmF l s).length≤l.length:=Xq (c:=3)
def zcZ (on:Int→Int→Bool)(xs:List Pt)(p:Pt):Bool:= !xs.any fun q=>on q.id p.id
theorem zu6 (on:Int→Int→Bool)(l:List Pt)(s f:Int):zgi on l s f=(stF l s f).filter (zcZ on (stF l s f)):=rfl
theorem Wo {P:Pt→Bool}{xs:List Pt}{k:Nat}{p:Pt}(hp:xs[k]? =some p)(h:P p=true):(xs.take (k+1)).filter P=(xs.take k).filter P++[p]:=by
 rw [Z0 hp,List.filter_append,List.filter_cons,if_pos h];simp
theorem zan {P:Pt→Bool}{xs:List Pt}{k:Nat}{p:Pt}(hp:xs[k]? =some p)(h:P p=false):(xs.take (k+1)).filter P=(xs.take k).filter P:=by
 rw [Z0 hp,List.filter_append,List.filter_cons,if_neg (by rw [h];exact Bool.false_ne_true)];simp
theorem zjv {P:Pt→Bool}{xs:List Pt}{k:Nat}{p:Pt}(hp:xs[k]? =some p)(h:P p=true):(xs.take k).filter P++[p]<+:xs.filter P:=by
 rw [←Wo hp h]
 exact ⟨(xs.drop (k+1)).filter P,by rw [←List.filter_append,List.take_append_drop]⟩
end
section
open Go Go.Kn Go.Proofs
theorem zw2 {I:Qu}{b1 b2 r1 r2 r3:Nat}{av:Option Addr}{n c:Nat}{p:Pt}{ps:List Pt}(h1:I b1=some (.cells #[.map (some r1),.map (some r2),.map (some r3),.slice av n c] 159 (0,0)))(h2:I b2=some (.cells (Yt p).toArray 57 (0,0)))(hOn:OnM I r1 ps)(id:Int)(hid:∃ q∈ps,q.id=id):Zx Tryz.prog 232 [.int .i64 id,.pointer (some ⟨b1,0,none⟩),.pointer (some ⟨b2,0,none⟩)] I (.bool (!onF ps id p.id)):=by
 intro g H w hw
 refine qe Tryz.func232 Tryz.ntmps232 hw ?_
 obtain ⟨m,hm1,hm2⟩:=hOn
 obtain ⟨ref,hget,sn,hsn,hsq⟩:=hm2.get hid
 refine zR (zA ?_)
 refine zN (zR ?_)
 refine zF zcJ ?_
 refine zV (Qd rfl zhb (fun hg=>by exact .imm h1 rfl)) ?_
 refine zM ?_
 refine zV (YC (m:=m) (ek:=Value.int .i64) (ev:=zbY) (a:=id) hget Kq ZD rfl rfl (fun _=>.inl hm1)) ?_
 refine zF Zy ?_
 refine zV (Qd rfl Qr (fun hg=>by exact .imm h2 rfl)) ?_
 refine zV (Yg (m:=sn) Vq ZD rfl rfl (fun _=>.inl hsn)) ?_
 refine zO ?_
 refine zA (zN (Qt ?_))
 exact zr rfl rfl (by rw [show (Zs sn p.id).getD false=onF ps id p.id from hsq.mem _])
theorem zkr {I:Qu}{ps l:List Pt}{xs:List Sg}{r1 r2 r3:Nat}{av:Option Addr}{n c:Nat}(hx:StQ I ps l xs r1 r2 r3 av n c)(s:Int):Yb Tryz.prog 193 [stA r1 r2 r3 av n c,.int .i64 s] I [] (zbf 1 QQ (unK (onF ps) l s 9)):=by
 intro g H w hw
 refine qe Tryz.func193 Tryz.ntmps193 hw ?_
 have hIc:=zxQ I
 obtain ⟨ms,hms,hset⟩:=hx.set
 obtain ⟨mr,hmr,hrem⟩:=hx.rem
 obtain ⟨av3,c3,hv3,hS3⟩:=hrem s
 have hfl:=hx.fewl
 have hrl:=zt3 (l:=l) (s:=s)
 refine zR ?_
 refine Q5 rfl rfl rfl (fun b_2=>?_)
 refine zA (zN (Ql (Ql ?_)))
 refine Xe ((b_2,.cells #[.map (some r1),.map (some r2),.map (some r3),.slice av n c] 159 (0,0))::[]) .refl ?_
 refine Qg (zA (zN (Qm ?_)))
 refine zU [(1,_),(2,_)] (fun T L0 mz E I' loc'=>∃ (k:Nat) (v:Value) (q:Nat) (L:Go.Kn.Loc),mz=9-k∧E=(4,v)::(5,.int .i64 ((k:Int)+1))::T∧I=I'∧(b_2,.cells #[.map (some r1),.map (some r2),.map (some r3),.slice av n c] 159 (0,0))::L=loc'∧k≤9∧OwnS 3 1 v q ((unK (onF ps) l s k).flatMap QQ) L∧True) ?_ (h:=⟨0,_,0,[],rfl,rfl,rfl,rfl,Nat.zero_le _,OwnS.nil,trivial⟩)
 rintro mz E I' loc' ⟨k,v,q,L,rfl,rfl,rfl,rfl,hk,hO,_⟩
 refine Ql (zR (zM ?_))
 refine zC (zN ?_)
 refine zI ?_ ?_<;>intro hc9
 ·
  have hlt_k:k<9:=by have h:=hc9;simp at h;omega
  refine Qo (Qa (Ql (Qm (Ql ?_))))
  obtain ⟨av2,c2,hv2,hS2⟩:=hset (s,(k:Int)+1)
  dsimp only at hv2 hS2
  have hstl:=Xk (l:=l) (s:=s) (f:=(k:Int)+1)
  refine Qg ?_
  refine zF Xw ?_
  refine zL zdQ ?_
  refine zM ?_
  refine zM ?_
  refine zV (Zw (ps:=[(0,_),(1,_)]) [_,_] YP Ku rfl rfl) ?_
  refine zV (Yz (m:=ms) (ek:=YA) (a:=(s,(k:Int)+1)) hv2 zdE zay rfl rfl (fun _=>.inl hms)) ?_
  refine zQ ZC ?_
  refine zM (zN (Qm ?_))
  refine zU [(1,_),(2,_),(5,_),(17,_),(18,_)] (fun T L0 mz E I' loc'=>∃ (j:Nat) (v:Value) (q:Nat) (L:Go.Kn.Loc),mz=(stF l s ((k:Int)+1)).length-j∧E=(4,v)::(19,.int .i64 j)::T∧I=I'∧(b_2,.cells #[.map (some r1),.map (some r2),.map (some r3),.slice av n c] 159 (0,0))::L=loc'∧j≤(stF l s ((k:Int)+1)).length∧OwnS 3 1 v q ((unK (onF ps) l s k++zd9 (zvm (onF ps) l s) ((stF l s ((k:Int)+1)).take j)).flatMap QQ) L∧True) ?_ (h:=⟨0,v,q,L,rfl,rfl,rfl,rfl,Nat.zero_le _,by rw [zh5,List.append_nil];exact hO,trivial⟩)
  rintro mz E I' loc' ⟨j,v,q,L,rfl,rfl,rfl,rfl,hj,hO,_⟩
  refine zR (zC (zN (Ql ?_)))
  refine zI ?_ ?_<;>intro hc20
  ·
   have hlt_j:j<(stF l s ((k:Int)+1)).length:=by have h:=hc20;simp at h;omega
   obtain ⟨p,hp⟩:=hS2.at hlt_j
   refine Qo (Qa (Ql (Qm (zR ?_))))
   refine zV (QG rfl rfl ZC (by assumption) (fun hg=>by omega)) ?_
   refine zV (Qp rfl Yw (fun hg=>by exact zxR hS2 hp) rfl) ?_
   refine Qs Ui rfl rfl (fun b_7=>?_)
   refine zh V8 ?_
   refine zN (zR ?_)
   refine zF UU ?_
   refine zL zeD ?_
   refine zM ?_
   refine zV (Yz (m:=mr) (ek:=Value.int .i64) (a:=s) hv3 YU ZD rfl rfl (fun _=>.inl hmr)) ?_
   refine zV (Zc (us:=[]) (vs:=[_,_]) rfl rfl) ?_
   refine Uu (cap:=[]) (vs:=[_,_]) rfl rfl zhr QD (zj4.ofV fun I' hI' hL'=>zr8 (cap:=[.pointer (some ⟨b_2,0,none⟩),.pointer (some ⟨b_7,0,none⟩)]) (hS3.mono hI') (by omega) znY (fun i hi=>zw2 (b1:=b_2) (b2:=b_7) (r1:=r1) (r2:=r2) (r3:=r3) (av:=av) (n:=n) (c:=c) (p:=p) (hL' b_2 _ (by simp)) (hL' b_7 _ (by simp)) (hx.on.mono hI') i (zs7 hx.sub hi))) rfl rfl ?_
   refine zN ?_
   refine zI ?_ ?_<;>intro hc28
   ·
    have hq:=zmg hO (by omega) hfl (by omega)
    refine Qg (zM ?_)
    refine zF Zy ?_
    refine zL Qr ?_
    refine Qq (ps:=[(0,_)]) (m:=[QQ p.id]) Zh rfl (.cons rfl (.nil)) rfl (by simp [Qv]) (by decide) (by decide) rfl rfl (fun b_32=>?_)
    refine QW (v:=_) (ys:=[p.id].flatMap QQ) (L:=L) rfl rfl Zh hO (by repeat (first | exact .cons .here .nil | exact QD | exact Qx | apply QC | apply QB)) ⟨rfl,fun _=>rfl,zxO⟩ (JI [p.id]) (by omega) rfl rfl ?_
    intro v9 L9 hO9 _;rw [←List.flatMap_append,List.append_assoc] at hO9
    refine zA (Qb (Qh (Qa (Qg ?_))))
    refine zB ?_
    refine zM (Qb ?_)
    first
    | exact Jk _ _ (L9++[(b_2,_)]) ⟨(stF l s ((k:Int)+1)).length-(j+1),by omega,j+1,_,_,L9,rfl,rfl,rfl,rfl,by omega,by rw [zl1 (P:=zvm (onF ps) l s) hp hc28];exact hO9,trivial⟩ (.cons rfl (.cons rfl (.cons rfl (.cons rfl (.cons rfl (.cons rfl (.cons rfl .nil))))))) (zcf _ _) (by repeat (first | exact .refl | exact Zi | refine Yf ?_ | refine .drop ?_ | refine Z2 ?_))
   refine Qo (Qh (Qa (Qg (zB ?_))))
   refine zM (Qb ?_)
   first
   | exact zm (h:=⟨(stF l s ((k:Int)+1)).length-(j+1),by omega,j+1,_,_,_,rfl,rfl,rfl,rfl,by omega,by rw [zpb (P:=zvm (onF ps) l s) hp hc28];exact hO,trivial⟩)
  have hge_j:(stF l s ((k:Int)+1)).length≤j:=by have h:=hc20;simp at h;omega
  rw [ZE rfl hge_j] at hO
  refine QI (Qf (Qf (Qk (Qh (Qa (Qg (zM ?_)))))))
  refine zB ?_
  refine zA (Qb ?_)
  exact zm (h:=⟨9-(k+1),by omega,k+1,_,_,_,rfl,rfl,rfl,rfl,by omega,by rw [zfd];exact hO,trivial⟩)
 have hge_k:9≤k:=by have h:=hc9;simp at h;omega
 have hk9:k=9:=by omega
 subst hk9
 refine QI (Qf (Qf (Qk (Qa (zR (zM ?_))))))
 refine zA (zN (Qt ?_))
 exact Zt rfl rfl (fun w hw=>by obtain ⟨I9,h91,h92,h93⟩:=OwnS.res hO Qv (by decide) (hw.subL (by repeat (first | exact .refl | refine .drop ?_)));exact ⟨_,I9,[],rfl,hIc.trans h91,h92,h93⟩)
theorem zhm {I:Qu}{ps l:List Pt}{xs:List Sg}{r1 r2 r3:Nat}{av:Option Addr}{n c:Nat}(hx:StQ I ps l xs r1 r2 r3 av n c)(s:Int):Yb Tryz.prog 193 [stA r1 r2 r3 av n c,.int .i64 s] I [] (fun u _I9 L9=>L9=[]∧∃ a9 c9,u= .slice a9 (unK (onF ps) l s 9).length c9):=
 (zkr hx s).mono fun v I' L' _ h=>by
  obtain ⟨h1,a9,c9,h2,_⟩:=h
  exact ⟨h1,a9,c9,h2⟩
theorem zlY {I:Qu}{ps l:List Pt}{xs:List Sg}{r1 r2 r3:Nat}{av:Option Addr}{n c:Nat}(hx:StQ I ps l xs r1 r2 r3 av n c)(hok:∀ p∈l,zqa p)(s:Int):Zx Tryz.prog 143 [stA r1 r2 r3 av n c,.int .i64 s] I (.bool (exB (onF ps) l s)):=by
 intro g H w hw
 refine qe Tryz.func143 Tryz.ntmps143 hw ?_
 have hIc:=zxQ I
 obtain ⟨mr,hmr,hrem⟩:=hx.rem
 obtain ⟨av3,c3,hv3,hS3⟩:=hrem s
 refine zR ?_
 refine Q5 rfl rfl rfl (fun b_2=>?_)
 refine zA ?_
 refine zN (zR ?_)
 refine zF UU ?_
 refine zL zeD ?_
 refine zM ?_
 refine zV (Yz (m:=mr) (ek:=Value.int .i64) (a:=s) hv3 YU ZD rfl rfl (fun _=>.inl hmr)) ?_
 refine zQ Qw ?_
 refine zC ?_
 refine zM ?_
 refine Q2 6 rfl rfl rfl ?_
 refine zJ (Qp rfl Y9 (fun hg=>by exact Cells.g0) rfl) ?_
 refine zJ (Qi rfl) ?_
 refine zjS (cap:=[]) (vs:=[_,_]) rfl rfl zn5 (fun hg=>zhm hx s) ⟨_,rfl,none,0,rfl⟩ (.some rfl rfl rfl rfl gbf) rfl rfl ?_
 rintro vv I9 L9 hI9 ⟨rfl,a9,c9,rfl⟩
 have hIc:=hIc.trans hI9
 refine zJ (Zp rfl Qw) ?_
 refine zJ (QH rfl rfl rfl) ?_
 refine Zz rfl rfl rfl rfl rfl ?_
 refine zA (zN (Qt ?_))
 exact zp hIc rfl rfl (by rw [←zvS hok])
end
section
open Go Go.Kn Go.Proofs
theorem zqL {I:Qu}{b1 b2 r1 r2 r3:Nat}{av:Option Addr}{n c:Nat}{p:Pt}{ps:List Pt}(h1:I b1=some (.cells #[.map (some r1),.map (some r2),.map (some r3),.slice av n c] 159 (0,0)))(h2:I b2=some (.cells (Yt p).toArray 57 (0,0)))(hOn:OnM I r1 ps)(q:Pt)(hid:∃ z∈ps,z.id=q.id):Zx Tryz.prog 195 [Wq q,.pointer (some ⟨b1,0,none⟩),.pointer (some ⟨b2,0,none⟩)] I (.bool (onF ps q.id p.id)):=by
 intro g H w hw
 refine qe Tryz.func195 Tryz.ntmps195 hw ?_
 obtain ⟨m,hm1,hm2⟩:=hOn
 obtain ⟨ref,hget,sn,hsn,hsq⟩:=hm2.get hid
 refine zR ?_
 refine Q5 rfl rfl rfl (fun b_3=>?_)
 refine zA ?_
 refine zN (zR ?_)
 refine zF zcJ ?_
 refine zV (Qd rfl zhb (fun hg=>by exact .imm h1 rfl)) ?_
 refine zF Zy ?_
 refine zL Qr ?_
 refine zV (YC (m:=m) (ek:=Value.int .i64) (ev:=zbY) (a:=q.id) hget Kq ZD rfl rfl (fun _=>.inl hm1)) ?_
 refine zF Zy ?_
 refine zV (Qd rfl Qr (fun hg=>by exact .imm h2 rfl)) ?_
 refine zV (Yg (m:=sn) Vq ZD rfl rfl (fun _=>.inl hsn)) ?_
 refine zA (zN (Qt ?_))
 exact zr rfl rfl (by rw [show (Zs sn p.id).getD false=onF ps q.id p.id from hsq.mem _])
def zxe (I:Qu)(r1 r2 r3:Nat)(av:Option Addr)(n c:Nat)(s f:Int)(b1 b2 b3:Nat):Prop:=I b1=some (.cells #[.map (some r1),.map (some r2),.map (some r3),.slice av n c] 159 (0,0))∧I b2=some (.cells #[.int .i64 s] 3 (0,0))∧I b3=some (.cells #[.int .i64 f] 3 (0,0))
theorem zkN (I:Qu)(r1 r2 r3:Nat)(av:Option Addr)(n c:Nat)(s f:Int):Yb Tryz.prog 144 [stA r1 r2 r3 av n c,.int .i64 s,.int .i64 f] I [] (fun v I' L=>L=[]∧∃ b1 b2 b3,v= .func (.func 194) #[] [Za b1,Za b2,Za b3].toArray∧zxe I' r1 r2 r3 av n c s f b1 b2 b3):=by
 intro g H w hw
 refine qe Tryz.func144 Tryz.ntmps144 hw ?_
 have hIc:=zxQ I
 refine zR ?_
 refine Q5 rfl rfl rfl (fun b_3=>?_)
 refine Q5 rfl rfl rfl (fun b_4=>?_)
 refine Q5 rfl rfl rfl (fun b_5=>?_)
 refine zA (zN (Ql ?_))
 refine Zg .here (fun I1 hI1 hb1=>?_)
 have hIc:=hIc.trans hI1
 have h3:=hb1
 refine Zg .here (fun I2 hI2 hb2=>?_)
 have hIc:=hIc.trans hI2
 have h2:=hb2
 have h3:=hI2 _ _ h3
 refine Zg .here (fun I3 hI3 hb3=>?_)
 have hIc:=hIc.trans hI3
 have h1:=hb3
 have h3:=hI3 _ _ h3;have h2:=hI3 _ _ h2
 refine Qg ?_
 refine zV (Zc (us:=[]) (vs:=[_,_,_]) rfl rfl) ?_
 refine zA (zN (Qt ?_))
 exact Zt rfl rfl (fun w hw=>⟨_,I3,[],rfl,hIc,hw.drop,rfl,b_3,b_4,b_5,rfl,h1,h2,h3⟩)
theorem zpL {I : Qu} {ps l : List Pt} {xs : List Sg} {r1 r2 r3 : Nat} {av : Option Addr} {n c : Nat} (hx : StQ I ps l xs r1 r2 r3 av n c) {s f : Int} {b1 b2 b3 : Nat} (hcap : zxe I r1 r2 r3 av n c s f b1 b2 b3) : zxv Tryz.prog 194 [Za b1, Za b2, Za b3] I Wq (zgi (onF ps) l s f) := by
  rw [zu6]
  intro g y J Jx hY I0 H w h0 hJ hw
  obtain ⟨h1, h2, h3⟩ := hcap
  have hx := hx.mono h0
  have h1 := h0 _ _ h1; have h2 := h0 _ _ h2; have h3 := h0 _ _ h3
  refine qe Tryz.func194 Tryz.ntmps194 hw ?_
  obtain ⟨ms, hms, hset⟩ := hx.set
  obtain ⟨av2, c2, hv2, hS2⟩ := hset (s, f)
  dsimp only at hv2 hS2
  have hln := Nat.le_trans (Xk (l := l) (s := s) (f := f)) hx.fewl
  refine zR ?_
  refine zF Xw ?_
  refine zV (Qd rfl zdQ (fun hg => by exact QS.imm h1 rfl)) ?_
  refine zV (Qd rfl Qr (fun hg => by exact QS.imm h2 rfl)) ?_
  refine zV (Qd rfl Qr (fun hg => by exact QS.imm h3 rfl)) ?_
  refine zV (Zw (ps := [(0, _), (1, _)]) [_, _] YP Ku rfl rfl) ?_
  refine zV (Yz (m := ms) (ek := YA) (a := (s, f)) hv2 zdE zay rfl rfl (fun _ => .inl hms)) ?_
  refine zA ?_
  refine zN (zR ?_)
  refine zM ?_
  refine zQ ZC ?_
  refine zM (zN (Qm ?_))
  refine zdT (fun m E I' H' loc' => ∃ (k : Nat), m = (stF l s f).length - k ∧ E = [(0, .func (.yield y) #[] #[]), (1, Za b1), (5, .slice av2 (stF l s f).length c2), (14, .slice av2 (stF l s f).length c2), (15, .int .i64 (stF l s f).length), (16, .int .i64 k)] ∧ loc' = [] ∧ HLe I0 I' ∧ k ≤ (stF l s f).length ∧ J (((stF l s f).take k).filter (zcZ (onF ps) (stF l s f))) I' H') _ _ _ ⟨0, rfl, rfl, rfl, zxQ _, Nat.zero_le _, hJ⟩ (.cons rfl (.cons rfl (.cons rfl (.cons rfl (.cons rfl (.cons rfl .nil)))))) rfl ?_
  rintro m E I' H' loc' ⟨k, rfl, rfl, rfl, hI1, hk, hJk⟩
  have hS2 := hS2.mono hI1
  have hx := hx.mono hI1
  have h1 := hI1 _ _ h1
  have hI0 := h0.trans hI1
  refine zR (zC (zN (Ql ?_)))
  refine zI ?_ ?_ <;> intro hc17
  · skip
    have hlt : k < (stF l s f).length := by simpa using hc17
    obtain ⟨p, hp⟩ := hS2.at hlt
    refine Qo (Qa (Ql (Qm (zR ?_))))
    refine zV (QG rfl rfl ZC (by assumption) (fun hg => by omega)) ?_
    refine zV (Qp rfl Yw (fun hg => by exact zxR hS2 hp) rfl) ?_
    refine Qs Ui rfl rfl (fun b_7 => ?_)
    refine zh V8 ?_
    refine zN (Ql ?_)
    have hpc : ∀ {b : Bool} {G : Env}, ZT [(b, G)] = true → b = zcZ (onF ps) (stF l s f) p → zcZ (onF ps) (stF l s f) p = true := fun h e => by rw [← e]; simpa [ZT] using h
    refine Qg (zM ?_)
    refine zV (Zc (us := []) (vs := [_, _]) rfl rfl) ?_
    refine Uu (cap := []) (vs := [_, _]) rfl rfl zgL QD (zj4.ofV fun I' hI' hL' => zuR (cap := [.pointer (some ⟨b1, 0, none⟩), .pointer (some ⟨b_7, 0, none⟩)]) (SlP.mono ⟨hS2, fun p hp => hx.nd p (hx.sub p (X4.1 hp).1)⟩ hI') (by omega) zoK (fun q hq => zqL (b1 := b1) (b2 := b_7) (r1 := r1) (r2 := r2) (r3 := r3) (av := av) (n := n) (c := c) (p := p) (hI' _ _ h1) (hL' b_7 _ (by simp)) (hx.on.mono hI') q ⟨q, hx.sub q (X4.1 hq).1, rfl⟩)) rfl rfl ?_
    refine zO ?_
    refine zM ?_
    refine QE 4 rfl rfl rfl ?_
    refine zK (Qi rfl) ?_
    refine zK (Qp rfl Yw (fun hg => by exact Cells.g0) rfl) ?_
    refine zb3 (vs := [_]) (Post := fun b I2 H2 => if b then J (((stF l s f).take k).filter (zcZ (onF ps) (stF l s f)) ++ [p]) I2 H2 else Jx (((stF l s f).take k).filter (zcZ (onF ps) (stF l s f)) ++ [p]) I2 H2) rfl rfl (.some rfl rfl rfl rfl gbt) rfl rfl (fun hcj => hY _ p _ _ (zjv hp (hpc hcj rfl)) hI0 hJk) ?_
    rintro b I2 H2 hI2 hyes hno
    refine zK (VF rfl) ?_
    refine QO rfl rfl rfl rfl rfl ?_
    refine zN ?_
    refine zI ?_ ?_ <;> intro hc29
    · skip
      refine Qt (Qn (Qc (Qc (Qn ?_))))
      first
      | (exact YK rfl (fun w hw => ⟨_, I2, H2, rfl, hI1.trans hI2, hw.drop, .inr ⟨_, zjv hp (show zcZ (onF ps) (stF l s f) p = true from ((Bool.and_eq_true _ _).mp (show (zcZ (onF ps) (stF l s f) p && !b) = true from hc29)).1), by have hc : (zcZ (onF ps) (stF l s f) p && !b) = true := hc29; rw [Bool.and_eq_true, Bool.not_eq_true'] at hc; have h9 := hyes (show ZT [(zcZ (onF ps) (stF l s f) p, _)] = true from by rw [hc.1]; rfl); rw [hc.2] at h9; exact h9⟩⟩))
    · skip
      refine Qo (Qh (Qa (Qg (zB ?_))))
      refine zM (Qb ?_)
      have hyes := fun (e : zcZ (onF ps) (stF l s f) p = true) => hyes (show ZT [(zcZ (onF ps) (stF l s f) p, _)] = true from by rw [e]; rfl)
      have hno := fun (e : zcZ (onF ps) (stF l s f) p = false) => hno (show ZT [(zcZ (onF ps) (stF l s f) p, _)] = false from by rw [e]; rfl)
      have hc : (zcZ (onF ps) (stF l s f) p && !b) = false := hc29
      have hJ2 : J (((stF l s f).take (k + 1)).filter (zcZ (onF ps) (stF l s f))) I2 H2 := by
        cases hA : zcZ (onF ps) (stF l s f) p with
        | true => rw [Wo hp hA]; rw [hA] at hc; have hb : b = true := by simpa using hc
                  subst hb; exact hyes hA
        | false => rw [zan hp hA]; obtain ⟨e1, e2⟩ := hno hA; rw [e1, e2]; exact hJk
      exact WX rfl rfl rfl _ [] ⟨(stF l s f).length - (k + 1), by omega, k + 1, rfl, rfl, rfl, hI1.trans hI2, by omega, hJ2⟩ (.cons rfl (.cons rfl (.cons rfl (.cons rfl (.cons rfl (.cons rfl .nil)))))) (.drop .refl)
  · skip
    have hge : (stF l s f).length ≤ k := by simpa using hc17
    refine QI (Qf (Qf (Qk ?_)))
    first
    | (exact Vm (YK rfl (fun w hw => ⟨_, I', H', rfl, hI1, hw, .inl (by rw [ZE rfl hge] at hJk; exact hJk)⟩)))
end
section
open Go Go.Kn Go.Proofs
theorem zag {α:Type}{C:Cx}{E:Env}{I:Qu}{loc loc':Go.Kn.Loc}{Jc:List α→Qu→Go.Kn.Loc→Prop}{Jx:Code→List α→Qu→Go.Kn.Loc→Prop}{pre:List α}{id:Nat}(h:Jx (.exit id) pre I loc')(hs:Kl loc' loc):At C (zaI C.g C.H Jc Jx pre) (.exit id) E I loc:=fun _ _ _ hw=>⟨I,loc',h,hw.subL hs⟩
theorem zv8 (I:Qu)(b:Nat)(x:Sg)(f:Int)(y:Sg)(hf:isF f):Yb Tryz.prog 145 [Za b,.int .i64 f,JQ y] I [(b,.cells (Vc x).toArray 54 (0,0))] (fun v I' L=>v= .tuple #[]∧I'=I∧L=[(b,.cells (Vc (zai x f y)).toArray 54 (0,0))]):=by
 intro g H w hw
 refine qe Tryz.func145 Tryz.ntmps145 hw ?_
 refine zR ?_
 refine Q5 rfl rfl rfl (fun b_5=>?_)
 refine zN (zR ?_)
 refine zM (zN (Qm (zR ?_)))
 refine zC ?_
 refine zA (zN ?_)
 refine zI ?_ ?_<;>intro hc7
 ·
  have hfk:f=1:=by simpa using hc7
  subst hfk
  refine Qg (zM ?_)
  refine zF J9 ?_
  refine zL Qr ?_
  refine zV (Q0 rfl) ?_
  refine zF J9 ?_
  refine zS Z7 ?_
  refine Qb (Qh ?_)
  exact Vm (YK rfl (fun w hw=>⟨_,I,_,rfl,zxQ _,hw.subL (.drop .refl),rfl,rfl,rfl⟩))
 have hg1:f≠1:=by simpa using hc7
 refine zR (zC ?_)
 refine zA (zN ?_)
 refine zI ?_ ?_<;>intro hc14
 ·
  have hfk:f=2:=by simpa using hc14
  subst hfk
  refine Qg (zM ?_)
  refine zF JT ?_
  refine zL Qr ?_
  refine zV (Q0 rfl) ?_
  refine zF JT ?_
  refine zS Z7 ?_
  refine Qb (Qh ?_)
  exact Vm (YK rfl (fun w hw=>⟨_,I,_,rfl,zxQ _,hw.subL (.drop .refl),rfl,rfl,rfl⟩))
 have hg2:f≠2:=by simpa using hc14
 refine zR (zC ?_)
 refine zA (zN ?_)
 refine zI ?_ ?_<;>intro hc21
 ·
  have hfk:f=3:=by simpa using hc21
  subst hfk
  refine Qg (zM ?_)
  refine zF Jr ?_
  refine zL Qr ?_
  refine zV (Q0 rfl) ?_
  refine zF Jr ?_
  refine zS Z7 ?_
  refine Qb (Qh ?_)
  exact Vm (YK rfl (fun w hw=>⟨_,I,_,rfl,zxQ _,hw.subL (.drop .refl),rfl,rfl,rfl⟩))
 have hg3:f≠3:=by simpa using hc21
 refine zR (zC ?_)
 refine zA (zN ?_)
 refine zI ?_ ?_<;>intro hc28
 ·
  have hfk:f=4:=by simpa using hc28
  subst hfk
  refine Qg (zM ?_)
  refine zF JW ?_
  refine zL Qr ?_
  refine zV (Q0 rfl) ?_
  refine zF JW ?_
  refine zS Z7 ?_
  refine Qb (Qh ?_)
  exact Vm (YK rfl (fun w hw=>⟨_,I,_,rfl,zxQ _,hw.subL (.drop .refl),rfl,rfl,rfl⟩))
 have hg4:f≠4:=by simpa using hc28
 refine zR (zC ?_)
 refine zA (zN ?_)
 refine zI ?_ ?_<;>intro hc35
 ·
  have hfk:f=5:=by simpa using hc35
  subst hfk
  refine Qg (zM ?_)
  refine zF Kc ?_
  refine zL Qr ?_
  refine zV (Q0 rfl) ?_
  refine zF Kc ?_
  refine zS Z7 ?_
  refine Qb (Qh ?_)
  exact Vm (YK rfl (fun w hw=>⟨_,I,_,rfl,zxQ _,hw.subL (.drop .refl),rfl,rfl,rfl⟩))
 have hg5:f≠5:=by simpa using hc35
 refine zR (zC ?_)
 refine zA (zN ?_)
 refine zI ?_ ?_<;>intro hc42
 ·
  have hfk:f=6:=by simpa using hc42
  subst hfk
  refine Qg (zM ?_)
  refine zF JP ?_
  refine zL Qr ?_
  refine zV (Q0 rfl) ?_
  refine zF JP ?_
  refine zS Z7 ?_
  refine Qb (Qh ?_)
  exact Vm (YK rfl (fun w hw=>⟨_,I,_,rfl,zxQ _,hw.subL (.drop .refl),rfl,rfl,rfl⟩))
 have hg6:f≠6:=by simpa using hc42
 refine zR (zC ?_)
 refine zA (zN ?_)
 refine zI ?_ ?_<;>intro hc49
 ·
  have hfk:f=7:=by simpa using hc49
  subst hfk
  refine Qg (zM ?_)
  refine zF JS ?_
  refine zL Qr ?_
  refine zV (Q0 rfl) ?_
  refine zF JS ?_
  refine zS Z7 ?_
  refine Qb (Qh ?_)
  exact Vm (YK rfl (fun w hw=>⟨_,I,_,rfl,zxQ _,hw.subL (.drop .refl),rfl,rfl,rfl⟩))
 have hg7:f≠7:=by simpa using hc49
 refine zR (zC ?_)
 refine zA (zN ?_)
 refine zI ?_ ?_<;>intro hc56
 ·
  have hfk:f=8:=by simpa using hc56
  subst hfk
  refine Qg (zM ?_)
  refine zF JY ?_
  refine zL Qr ?_
  refine zV (Q0 rfl) ?_
  refine zF JY ?_
  refine zS Z7 ?_
  refine Qb (Qh ?_)
  exact Vm (YK rfl (fun w hw=>⟨_,I,_,rfl,zxQ _,hw.subL (.drop .refl),rfl,rfl,rfl⟩))
 have hg8:f≠8:=by simpa using hc56
 refine zR (zC ?_)
 refine zA (zN ?_)
 refine zI ?_ ?_<;>intro hc63
 ·
  have hfk:f=9:=by simpa using hc63
  subst hfk
  have hD:=zxQ I
  refine Jn ?_
  refine Z5 I [(b_5,.cells (JQ y).cells 54 (0,0))] mixed ?_
  refine zT 0 rfl (Qi rfl) hD ?_
  refine zT 1 rfl (Qi rfl) hD ?_
  refine zT 2 rfl (Qe rfl VE) hD ?_
  refine zT 3 rfl (Qp rfl Ve (fun hg=>by exact Cells.s0 (vs:=[_,_]) rfl) rfl) hD ?_
  refine zT 4 rfl (Qe rfl Vy) hD ?_
  refine zT 5 rfl (Qp rfl Ve (fun hg=>by exact Cells.s0 (vs:=[_,_]) rfl) rfl) hD ?_
  refine zT 6 rfl (Q0 rfl) hD ?_
  refine zT 7 rfl (Qe rfl VE) hD ?_
  refine qd 8 rfl ?_
  refine Jf rfl rfl zaw rfl rfl rfl rfl (by repeat (first | exact Upd.here | apply Upd.there | apply QJ)) ?_
  refine Qb ?_
  refine zD hD ?_
  refine zT 9 rfl (Q0 rfl) hD ?_
  refine zT 10 rfl (Qe rfl Vy) hD ?_
  refine qd 11 rfl ?_
  refine Jf rfl rfl zaw rfl rfl rfl rfl (by repeat (first | exact Upd.here | apply Upd.there | apply QJ)) ?_
  refine Qb ?_
  refine zD hD ?_
  refine QF (by kernel_rfl) ?_
  refine QP ?_
  refine Qh ?_
  exact Vm (YK rfl (fun w hw=>⟨_,I,_,rfl,zxQ _,hw.subL (.drop .refl),rfl,rfl,rfl⟩))
 have hg9:f≠9:=by simpa using hc63
 refine Qo (Qh ?_)
 first
 | (exfalso;unfold isF at hf;omega)
end
section
open Go Go.Kn Go.Proofs
def exL (on:Int→Int→Bool)(l:List Pt)(xs:List Sg):List Sg:=(xs.filter fun x=>exB on l x.id).map (zj8 on l)
theorem zuu {on:Int→Int→Bool}{l:List Pt}{xs:List Sg}{k:Nat}{x:Sg}(hx:xs[k]? =some x)(h:exB on l x.id=true):exL on l (xs.take (k+1))=exL on l (xs.take k)++[zj8 on l x]:=by
 unfold exL
 rw [Z0 hx,List.filter_append,List.filter_cons,if_pos h];simp
theorem zvV {on:Int→Int→Bool}{l:List Pt}{xs:List Sg}{k:Nat}{x:Sg}(hx:xs[k]? =some x)(h:exB on l x.id=false):exL on l (xs.take (k+1))=exL on l (xs.take k):=by
 unfold exL
 rw [Z0 hx,List.filter_append,List.filter_cons,if_neg (by rw [h];exact Bool.false_ne_true)];simp
theorem zod {on:Int→Int→Bool}{l:List Pt}{xs:List Sg}:exL on l (xs.take 0)=[]:=by unfold exL;simp
def exE (on:Int→Int→Bool)(l:List Pt)(xs:List Sg):Int:=if (exL on l xs).length>4096 then 2 else 0
def zj3 (e:Int)(xs:List Sg):Value→Qu→Go.Kn.Loc→Prop:=fun v I' L=>L=[]∧∃ av c,v= .tuple #[.slice av xs.length c,.int .i64 e]∧Sl I' 14 Vc av xs.length c xs
theorem zj3.empty {e:Int}{xs:List Sg}{I:Qu}(h:xs=[]):zj3 e xs (.tuple #[.slice none 0 0,.int .i64 e]) I []:=by
 subst h
 exact ⟨rfl,none,0,rfl,.nil⟩
theorem zj3.good {e e':Int}{xs ys:List Sg}{I:Qu}{av:Option Addr}{n c:Nat}(h:e=e')(hx:ys=xs)(hS:Sl I 14 Vc av n c ys):zj3 e' xs (.tuple #[.slice av n c,.int .i64 e]) I []:=by
 subst h;subst hx
 have hn:=hS.len
 subst hn
 exact ⟨rfl,av,c,rfl,hS⟩
theorem zkP {x:Sg}{f:Int}{l:List Pt}(h:l=[]):zp7 x f l=x:=by subst h;rfl
theorem zki {x:Sg}{f:Int}{l:List Pt}{p:Pt}(h:[p]<+:l):zp7 x f l=zai x f p.nw:=by
 obtain ⟨t,rfl⟩:=h;rfl
theorem zfr {on:Int→Int→Bool}{l:List Pt}{x y:Sg}{k:Nat}(hy:y=zgh on l x k):zp7 y ((k:Int)+1) (zgi on l y.id ((k:Int)+1))=zgh on l x (k+1):=by
 subst hy
 rw [zcG,(zdh k).1]
theorem zvY {k:Nat}(h:k<9):isF ((k:Int)+1):=by unfold isF;omega
theorem zin {on:Int→Int→Bool}{l:List Pt}{x:Sg}:x=zgh on l x 0:=rfl
theorem zps {ps:List Pt}{bs:List Sg}{ws:List Int}(h:X3 ps bs ws≠0):zeh ps bs ws=X3 ps bs ws:=by unfold zeh;rw [if_pos h]
theorem znO {ps:List Pt}{bs:List Sg}{ws:List Int}(h:X3 ps bs ws=0):zeh ps bs ws=exE (onF ps) (YM ps ws) (WE bs (YM ps ws)):=by unfold zeh;rw [if_neg (by omega)];rfl
theorem zh7 {ps:List Pt}{bs:List Sg}{ws:List Int}(h:X3 ps bs ws=0):KX ps=0:=by
 by_cases h2:KX ps=0
 ·
  exact h2
 ·
  rw [zpO h2] at h;exact h
theorem zv0 {ps:List Pt}{bs:List Sg}{ws:List Int}(h:X3 ps bs ws=0):Wm bs=0:=by
 by_cases h2:Wm bs=0
 ·
  exact h2
 ·
  rw [zrg (zh7 h) h2] at h;exact h
theorem zrz {ps:List Pt}{bs:List Sg}{ws:List Int}(h:X3 ps bs ws=0):∀ p∈YM ps ws,zqa p:=fun p hp=>(zaV (zh7 h)).ok p (Y2.1 hp).1
theorem zmm (bs:List Sg)(l:List Pt):(WE bs l).length≤bs.length+l.length:=by
 have h:=(zaY l bs).length_eq
 rw [h,List.length_append]
 unfold zbp
 rw [List.length_map]
 have:=List.length_filter_le (fun p:Pt=>p.kind==2) l
 omega
end
section
open Go Go.Kn Go.Proofs
theorem zgB {I:Qu}{ps l:List Pt}{xs:List Sg}{r1 r2 r3:Nat}{av:Option Addr}{n c:Nat}(hx:StQ I ps l xs r1 r2 r3 av n c)(hn:n≤100000)(hok:∀ p∈l,zqa p):Yb Tryz.prog 84 [stA r1 r2 r3 av n c] I [] (zj3 (exE (onF ps) l xs) (zln (exE (onF ps) l xs) (exL (onF ps) l xs))):=by
 intro g H w hw
 refine zdb Tryz.func84 rfl Tryz.ntmps84 rfl hw ?_
 have hIc:=zxQ I
 refine zR ?_
 refine Q5 rfl rfl rfl (fun b_1=>?_)
 refine zA ?_
 refine zA (zN (Ql (Ql ?_)))
 refine Xe ((b_1,.cells #[.map (some r1),.map (some r2),.map (some r3),.slice av n c] 159 (0,0))::([]++MB _)) .refl ?_
 refine Qg ?_
 refine zF UC ?_
 refine zL zb0 ?_
 refine zQ Vf ?_
 refine zM (zN (Qm ?_))
 refine Uc [(1,_),(9,_),(10,_)] (.cons rfl (.cons rfl (.cons rfl .nil))) (fun T L0 mz ms E I' loc'=>∃ (j:Nat) (v:Value) (q:Nat) (L:Go.Kn.Loc),mz=n-j∧E=(2,v)::(11,.int .i64 j)::T∧HLe I I'∧(b_1,.cells #[.map (some r1),.map (some r2),.map (some r3),.slice av n c] 159 (0,0))::(L++MB ms)=loc'∧j≤n∧OwnS 54 14 v q ((exL (onF ps) l (xs.take j)).flatMap Vc) L∧q≤j) _ _ _ _ ⟨0,_,0,[],rfl,rfl,zxQ _,rfl,Nat.zero_le _,by rw [zod];exact OwnS.nil,Nat.le_refl _⟩ (.cons rfl (.cons rfl (.cons rfl (.cons rfl (.cons rfl .nil))))) (zxQ _) rfl ?_
 rintro mz ms E J1 loc' ⟨j,v,q,L,rfl,rfl,hJ,rfl,hj,hO,hq⟩
 have hx:=hx.mono hJ;have hIc:=hIc.trans hJ
 have hB0:=hJ
 refine zR (zC (zN (Ql ?_)))
 refine zI ?_ ?_<;>intro hc12
 ·
  have hlt_j:j<n:=by have h:=hc12;simp at h;omega
  have hS:=hx.sg
  obtain ⟨x,hxx⟩:=hS.at hlt_j
  refine Qo (Qa (Ql (Qm (zR ?_))))
  refine zV (QG rfl rfl Vf (by assumption) (fun hg=>by omega)) ?_
  refine zV (Qp rfl ZL (fun hg=>by exact zxR hS hxx) rfl) ?_
  refine Qs XV rfl rfl (fun b_5=>?_)
  refine zh VK ?_
  refine zN (Ql (zR ?_))
  refine zV (Qp rfl Y9 (fun hg=>by exact Cells.g1) rfl) ?_
  refine zF Z3 ?_
  refine zL Qr ?_
  refine qc (vs:=[_,_]) rfl zn8 (zlY hx hok _) ?_
  refine zO (zN ?_)
  refine zI ?_ ?_<;>intro hc19
  ·
   have hex:=(Bool.not_eq_true' _).mp hc19
   refine QI (Qf (Qk (Qa (Qg (zB ?_)))))
   refine zM (Qb ?_)
   first
   | exact zd (h:=⟨n-(j+1),by omega,j+1,_,_,_,rfl,rfl,hB0,rfl,by omega,by rw [zvV hxx hex];exact hO,by omega⟩)
  have hex:=(Bool.not_eq_false' _).mp hc19
  refine Qo (Qa (Ql (zR ?_)))
  refine Qs ztX rfl rfl (fun b_6=>?_)
  refine zS Z7 ?_
  refine zN (Qm ?_)
  refine Uc [(1,_),(2,_),(5,_),(9,_),(10,_),(11,_)] (.cons rfl (.cons rfl (.cons rfl (.cons rfl (.cons rfl (.cons rfl .nil)))))) (fun T L0 mz ms E I' loc'=>∃ (k:Nat) (b6:Nat) (y:Sg),mz=9-k∧E=(6,Za b6)::T∧HLe J1 I'∧(b6,.cells #[.int .i64 ((k:Int)+1)] 3 (0,0))::(b_5,.cells (Vc y).toArray 54 (0,0))::(b_1,.cells #[.map (some r1),.map (some r2),.map (some r3),.slice av n c] 159 (0,0))::(L++MB ms)=loc'∧k≤9∧y=zgh (onF ps) l x k) _ _ _ _ ⟨0,b_6,x,rfl,rfl,zxQ _,rfl,Nat.zero_le _,zin⟩ (.cons rfl (.cons rfl (.cons rfl (.cons rfl (.cons rfl (.cons rfl (.cons rfl .nil))))))) (zxQ _) rfl ?_
  rintro mz ms E J2 loc' ⟨k,b6,y,rfl,rfl,hJ,rfl,hk,hy⟩
  have hx:=hx.mono hJ;have hB0:=hB0.trans hJ
  have hB2:=hJ
  refine Ql (zR ?_)
  refine zL Qr ?_
  refine zC (zN ?_)
  refine zI ?_ ?_<;>intro hc21
  ·
   have hlt_k:k<9:=by have h:=hc21;simp at h;omega
   refine Qo (Qa (Ql (Qm (zR ?_))))
   refine zV (Qp rfl Y9 (fun hg=>by exact Cells.g2) rfl) ?_
   refine zF Z3 ?_
   refine zL Qr ?_
   refine zL Qr ?_
   refine Qz (cap:=[]) (vs:=[_,_,_]) rfl rfl zrd .nil (zkN _ _ _ _ _ _ _ _ _) rfl rfl ?_
   rintro vv3 I3 L3 hI3 ⟨rfl,c1,c2,c3,rfl,hcap⟩
   have hx:=hx.mono hI3;have hB2:=hB2.trans hI3
   refine zN (Qm ?_)
   refine WF (K:=[]) (L:=(b6,.cells #[.int .i64 ((k:Int)+1)] 3 (0,0))::(b_5,.cells (Vc y).toArray 54 (0,0))::(b_1,.cells #[.map (some r1),.map (some r2),.map (some r3),.slice av n c] 159 (0,0))::L) (enc:=Wq) (xs:=zgi (onF ps) l y.id ((k:Int)+1)) (fun pre I' loc'=>pre=[]∧loc'=(b6,.cells #[.int .i64 ((k:Int)+1)] 3 (0,0))::(b_5,.cells (Vc y).toArray 54 (0,0))::(b_1,.cells #[.map (some r1),.map (some r2),.map (some r3),.slice av n c] 159 (0,0))::L) (fun cd pre I' loc'=>cd= .exit 4∧∃ p,pre=[p]∧loc'=(b_5,.cells (Vc (zai y ((k:Int)+1) p.nw)).toArray 54 (0,0))::(b6,.cells #[.int .i64 ((k:Int)+1)] 3 (0,0))::(b_1,.cells #[.map (some r1),.map (some r2),.map (some r3),.slice av n c] 159 (0,0))::L) (fun pre p E2 I2 loc2=>∃ b7:Nat,E2=[(5,Za b_5),(6,Za b6),(7,Za b7)]∧pre=[]∧loc2=(b7,.cells (Yt p).toArray 57 (0,0))::(b6,.cells #[.int .i64 ((k:Int)+1)] 3 (0,0))::(b_5,.cells (Vc y).toArray 54 (0,0))::(b_1,.cells #[.map (some r1),.map (some r2),.map (some r3),.slice av n c] 159 (0,0))::L) rfl zpV (zpL hx hcap) rfl ⟨rfl,rfl⟩ ?_ ?_ ?_ ?_
   ·
    rintro l9 pre p I1 loc1 H1 hpre hI1 ⟨rfl,rfl⟩
    refine Qg ?_
    refine Qs Ui rfl rfl (fun b_7=>?_)
    refine zh V8 ?_
    refine Qb ?_
    exact zaX _ ⟨zxQ _,b_7,rfl,rfl,rfl⟩ (.cons rfl (.cons rfl (.cons rfl .nil)))
   ·
    rintro l9 pre p E2 I2 loc2 H2 hpre hI2 ⟨b7,rfl,rfl,rfl⟩
    refine Qm (zR ?_)
    refine zL Qr ?_
    refine zF VP ?_
    refine zV (Qp rfl ZL (fun hg=>by exact Cells.s0 (vs:=[_,_,_,_,_,_,_,_,_,_,_,_,_,_]) rfl) rfl) ?_
    refine Qz (cap:=[]) (vs:=[_,_,_]) rfl rfl zoI (by repeat (first | exact .cons .here .nil | exact QD | exact Qx | apply QC | apply QB)) (zv8 _ b_5 y _ p.nw (zvY hlt_k)) rfl rfl ?_
    rintro vv4 I4 L4 hI4 ⟨rfl,rfl,rfl⟩
    refine zN (QI ?_)
    refine za2 rfl ?_
    exact zag ⟨zxQ _,rfl,p,rfl,rfl⟩ (by repeat (first | exact .refl | refine .keep ?_ | refine .drop ?_))
   ·
    rintro bd I1 loc1 hI1 ⟨hnil,rfl⟩
    have hB2:=hB2.trans hI1
    have hy2:y=zgh (onF ps) l x (k+1):=by rw [←zfr hy,zkP hnil]
    refine Qh (Qh (Qa (Ql (zR ?_))))
    refine zL Qr ?_
    refine zN (Qg ?_)
    refine Qs ztX rfl rfl (fun b_6=>?_)
    refine zS Z7 ?_
    refine zN (Qg ?_)
    refine zL Qr ?_
    refine zB ?_
    refine zS Z7 ?_
    refine Qb ?_
    exact zn (h:=⟨9-(k+1),by omega,k+1,_,_,rfl,rfl,hB2,rfl,by omega,hy2⟩)
   rintro cd bd pre I1 loc1 hI1 hpre ⟨rfl,p,rfl,rfl⟩
   have hB2:=hB2.trans hI1
   have hy2:(zai y ((k:Int)+1) p.nw)=zgh (onF ps) l x (k+1):=by rw [←zfr hy,zki hpre]
   refine QI (Qk (Qh (Qa (Ql (zR ?_)))))
   refine zL Qr ?_
   refine zN (Qg ?_)
   refine Qs ztX rfl rfl (fun b_6=>?_)
   refine zS Z7 ?_
   refine zN (Qg ?_)
   refine zL Qr ?_
   refine zB ?_
   refine zS Z7 ?_
   refine Qb ?_
   exact zn (h:=⟨9-(k+1),by omega,k+1,_,_,rfl,rfl,hB2,rfl,by omega,hy2⟩)
  have hge_k:9≤k:=by have h:=hc21;simp at h;omega
  have hk9:k=9:=by omega
  subst hk9
  have hy:y=zj8 (onF ps) l x:=hy
  subst hy
  refine QI (Qf (Qf (Qk (Qa (Qg (zM ?_))))))
  refine zV (Qp rfl ZL (fun hg=>by exact Cells.g1) rfl) ?_
  refine Qq (ps:=[(0,_)]) (m:=[Vc (zj8 (onF ps) l x)]) K6 rfl (.cons rfl (.nil)) rfl (by simp [Z1]) (by decide) (by decide) rfl rfl (fun b_37=>?_)
  refine QW (v:=_) (ys:=[zj8 (onF ps) l x].flatMap Vc) (L:=L) rfl rfl K6 hO (by repeat (first | exact .cons .here .nil | exact QD | exact Qx | apply QC | apply QB)) ⟨rfl,fun _=>rfl,zxO⟩ (zlw [zj8 (onF ps) l x]) (by omega) rfl rfl ?_
  intro v9 L9 hO9 _;rw [←List.flatMap_append] at hO9
  refine zA (Qb (Qh (Qa (Qg ?_))))
  refine zB ?_
  refine zM (Qb ?_)
  first
  | exact zlq rfl rfl rfl _ _ (L9++((b_1,_)::MB _)) ⟨n-(j+1),by omega,j+1,v9,_,L9,rfl,rfl,hB0,rfl,by omega,by rw [zuu hxx hex];exact hO9,by omega⟩ (.cons rfl (.cons rfl (.cons rfl (.cons rfl (.cons rfl .nil))))) List.perm_middle.symm (by repeat (first | exact .refl | exact Zi | refine Yf ?_ | refine .drop ?_ | refine Z2 ?_))
 have hge_j:n≤j:=by have h:=hc12;simp at h;omega
 obtain ⟨va,vc,rfl⟩:=zc4 hO
 rw [List.take_of_length_le (by rw [hx.sg.len];exact hge_j)] at hO
 refine QI (Qf (Qf (Qk (Qa (Ql (zR (zM ?_)))))))
 refine zQ Vf ?_
 refine zC (zN ?_)
 refine zI ?_ ?_<;>intro hc42
 ·
  have hbig:exE (onF ps) l xs=2:=by unfold exE;rw [if_pos];have h1:=hO.1;rw [ZR Z1] at h1;simp at hc42;omega
  refine zR (zA ?_)
  refine zA (zN (Qt (Qc ?_)))
  first
  | exact KV (L:=_::L) (fun a ha w hw=>zsW rfl rfl rfl a ha w) (fun w hw=>⟨_,J1,[],rfl,hIc,hw.drop,by rw [hbig];exact zj3.empty rfl⟩)
 have hbig:exE (onF ps) l xs=0:=by unfold exE;rw [if_neg];have h1:=hO.1;rw [ZR Z1] at h1;simp at hc42;omega
 refine Qo (Qa (zR (zM ?_)))
 refine zA ?_
 refine zA (zN (Qt ?_))
 first
 | exact KV (L:=_::L) (fun a ha w hw=>zsW rfl rfl rfl a ha w) (fun w hw=>by obtain ⟨I9,h91,h92,h93⟩:=OwnS.res hO Z1 (by decide) (hw.subL (.drop .refl));obtain ⟨_,a9,c9,e9,h94⟩:=h93;cases e9;exact ⟨_,I9,[],rfl,hIc.trans h91,h92,by rw [hbig];exact zj3.good rfl rfl h94⟩)
end
section
open Go Go.Kn Go.Proofs
theorem w_Signs {I:Qu}{av:Option Addr}{n c:Nat}{ps:List Pt}(hP:SlP I av n c ps)(hn:n≤100000){bv:Option Addr}{n2 c2:Nat}{bs:List Sg}(hB:Sl I 14 Vc bv n2 c2 bs)(hn2:n2≤100000){dv:Option Addr}{n3 c3:Nat}{ws:List Int}(hV:Sl I 1 QQ dv n3 c3 ws)(hn3:n3≤100000):Yb Tryz.prog 45 [.slice av n c,.slice bv n2 c2,.slice dv n3 c3] I [] (zj3 (zeh ps bs ws) (zfA ps bs ws)):=by
 intro g H w hw
 refine qe Tryz.func45 Tryz.ntmps45 hw ?_
 have hIc:=zxQ I
 refine zR (zA ?_)
 refine zA ?_
 refine zN (zR ?_)
 refine zM ?_
 refine zM ?_
 refine zM ?_
 refine Qz (cap:=[]) (vs:=[_,_,_]) rfl rfl zsN .nil (zu9 hP hn hB hn2 hV hn3) rfl rfl ?_
 rintro vv1 I1 L1 hI1 ⟨rfl,m1,m2,m3,a9,n9,c9,rfl,hst⟩
 have hIc:=hIc.trans hI1
 refine zM ?_
 refine zE ?_
 refine zE ?_
 refine Qs zmA rfl rfl (fun b_8=>?_)
 refine zh K9 ?_
 refine zA (zN (Ql (zR ?_)))
 refine zM ?_
 refine zC (zN ?_)
 refine zI ?_ ?_<;>intro hc17
 ·
  have he:X3 ps bs ws≠0:=by simpa using hc17
  refine zR (zM ?_)
  refine zA ?_
  refine zA (zN (Qt (Qc ?_)))
  first
  | exact ZF rfl rfl rfl (fun w hw=>⟨_,I1,[],rfl,hIc,hw.drop,by unfold zfA;rw [zps he];exact zj3.empty (zmc he)⟩)
 have he:X3 ps bs ws=0:=by simpa using hc17
 obtain ⟨r1,r2,r3,rfl,rfl,rfl,hx⟩:=hst he
 have hn9:n9≤5000:=by have h1:=hx.sg.len;have h2:=zmm bs (YM ps ws);have h3:=hx.fewl;have h4:=(zj1 (zv0 he)).1;omega
 refine Qo (Qa (zR ?_))
 refine zV (Qp rfl Y9 (fun hg=>by exact Cells.g0) rfl) ?_
 refine Qz (cap:=[]) (vs:=[_]) rfl rfl zs8 .nil (zgB hx (by omega) (zrz he)) rfl rfl ?_
 rintro vv2 I2 L2 hI2 ⟨rfl,av8,c8,rfl,hR⟩
 have hIc:=hIc.trans hI2
 refine zE ?_
 refine zE ?_
 refine zA ?_
 refine zA (zN (Qt ?_))
 first
 | exact ZF rfl rfl rfl (fun w hw=>⟨_,I2,[],rfl,hIc,hw.drop,zj3.good (znO he).symm (by unfold zfA;rw [znO he];rfl) hR⟩)
end
section
open Go Go.Kn Go.Proofs
def zoV (ps:List Pt)(p:Pt):List Bool:=ps.map fun q=>onF ps p.id q.id
end
section
open Go Go.Kn Go.Proofs
end
end Go.Proofs.YtodakphagkommaaGreatDoor.R
namespace Go.Kn
section
open Go
section
variable {C:Cx} {Q:Exit→Act→World→Prop} {E:Env} {I:Qu} {loc:Loc} {ops:Array Oper} {rest:List Oper} {dst:Option Tmp} {ty:TypeId} {pos:String} {af:Array Edge} {gd:Option (Nat×Bool)} {x:Operand}
theorem zkF {t e n c b off t':Nat}{z:Value}{zc A:List Value}(F:List Value→Loc)(hx:QA [] E x=some (.slice (some ⟨b,off,none⟩) n c))(hT:C.P.underlying t=some (.slice e))(hz:Yi C.P e z)(hzc:z.cells=zc.toArray)(h1:Yr zc=true)
  (hle:off+n*zc.length≤A.length)(hG:gd=none)(hdst:dst=none)(hu:∀ zs:List Value,Upd loc b (.cells A.toArray t' (0,0)) (.cells (A.take off++(zs++A.drop (off+n*zc.length))).toArray t' (0,0)) (F zs))
  (h:∀ zs:List Value,zs.length=n*zc.length→XO C Q ops rest [] E I (F zs)):
  XO C Q ops (⟨dst,.call ⟨.builtin .clear, #[x], #[t]⟩,ty,pos,af,gd⟩::rest) [] E I loc:=
 Z9 hG (by intro c e;cases e) fun a w ha hw=>by
  subst hdst
  have hsz:(Builtin.zeroCells z.cells n).toList.length=n*zc.length:=by rw [Array.length_toList,KH,hzc];simp
  have hz1:∀ v∈(Builtin.zeroCells z.cells n).toList,v.oneCell'=true:=by
   intro v hv
   rw [Array.mem_toList_iff] at hv
   unfold Builtin.zeroCells at hv
   rw [hzc] at hv
   simp at hv
   obtain ⟨q,hq,h2⟩:=hv
   have hp:0<zc.length:=Nat.pos_of_ne_zero fun e=>by rw [e] at hq;simp at hq
   rw [List.getElem?_eq_getElem (Nat.mod_lt _ hp)] at h2
   exact V1 h1 v (by rw [←h2];exact List.getElem_mem _)
  have e:A=A.take off++((A.drop off).take (n*zc.length)++A.drop (off+n*zc.length)):=by
   have:(A.drop off).take (n*zc.length)++A.drop (off+n*zc.length)=A.drop off:=by rw [←List.drop_drop];exact List.take_append_drop _ _
   rw [this,List.take_append_drop]
  have hu2:=hu (Builtin.zeroCells z.cells n).toList
  have hu3:Upd loc b (.cells (A.take off++((A.drop off).take (n*zc.length)++A.drop (off+n*zc.length))).toArray t' (0,0)) (.cells (A.take off++((Builtin.zeroCells z.cells n).toList++A.drop (off+n*zc.length))).toArray t' (0,0)) (F (Builtin.zeroCells z.cells n).toList):=by rw [←e];exact hu2
  obtain ⟨w',hr,hs'⟩:=Vb (P:=C.P) (off:=off) (Builtin.zeroCells z.cells n).toList (A.take off) w loc _ b t' ((A.drop off).take (n*zc.length)) 0 (by rw [List.length_take];omega) (by rw [hsz,List.length_take,List.length_drop];omega) hz1 hw hu3
  have hrun:(Builtin.clear_ #[t] ty #[.slice (some ⟨b,off,none⟩) n c]).run C.P w= .ok (.tuple #[]) w':=by
   have h0:n=0→w'=w:=by
    intro hn;subst hn
    have:(Builtin.zeroCells z.cells 0).toList=[]:=List.length_eq_zero_iff.1 (by rw [hsz];omega)
    rw [this] at hr
    simp [storeCells] at hr
    exact hr.symm
   cases n with
   | zero=>rw [h0 rfl];simp [Builtin.clear_,run_underlying hT,Result.andThen]
   | succ k=>simp [Builtin.clear_,Sem.run_bind,run_underlying hT,Result.andThen,ZW hz,hr]
  simp only [execOp,resolve,List.map_toArray,List.map_cons,List.map_nil,Qj (S:=[]) ha trivial rfl hx,Sem.run_bind,Sem.run_pure,Result.andThen,invoke,builtin,hrun,Oper.uponIn_value]
  exact h _ hsz _ _ ha trivial hs'
end
end
section
open Go
section
variable {C:Cx} {Q:Exit→Act→World→Prop} {E:Env} {I:Qu} {loc L R:Loc} {ops:Array Oper} {rest:List Oper} {dst:Option Tmp} {d:Nat} {ty:TypeId} {pos:String} {af:Array Edge} {gd:Option (Nat×Bool)}
theorem zgW {P:Program}{a:Act}{w:World}{f:FuncId}{pre cap:List Value}{l:List Operand}{vs:List Value}{tys:Array TypeId}{cal:Operand}
  (he:a.eval cal= .func (.func f) pre.toArray cap.toArray)(hl:l.map a.eval=vs)(hF:Fun P f):
  (execOp a.eval ⟨dst,.call ⟨.value cal,l.toArray,tys⟩,ty,pos,af,gd⟩).run P w= .ok (.enter f (pre++(vs++cap)).toArray) w:=by
 simp only [execOp,resolve,he,List.map_toArray,hl,Deferred.ofValue,Sem.run_bind,Sem.run_pure,Result.andThen,invoke,Vv hF]
 simp
theorem zjn {f:FuncId}{pre cap:List Value}{l:List Operand}{vs:List Value}{tys:Array TypeId}{cal:Operand}{K:Value→Qu→Loc→Prop}
  (he:QA [] E cal=some (.func (.func f) pre.toArray cap.toArray))(hl:l.map (QA [] E)=vs.map some)(hF:Fun C.P f)(hsp:YD loc L R)(hc:Yb C.P f (pre++(vs++cap)) I L K)
  (hG:gd=none)(hN:Nat.blt d C.N=true)(h:∀ v I' L',HLe I I'→K v I' L'→XO C Q ops rest [] ((d,v)::E) I' (L'++R)):
  XO C Q ops (⟨some d,.call ⟨.value cal,l.toArray,tys⟩,ty,pos,af,gd⟩::rest) [] E I loc:=by
 intro a w ha hg hw
 have hG':Zn ops [] E ⟨some d,.call ⟨.value cal,l.toArray,tys⟩,ty,pos,af,gd⟩:=.none hG
 simp only [wpListIn]
 rw [hG'.wanted ha hg]
 simp only [ZT,if_true,Oper.wpIn]
 refine ⟨fun _ _=>trivial,?_⟩
 rw [Oper.semAt_eq _ _ _ (by intro c e;cases e),zgW (Qj ha hg rfl he) (Vp ha hg rfl hl) hF,Oper.uponIn_enter]
 refine ⟨by simp [FR],Wd.2 ((hc.frame hsp hw).mono ?_)⟩
 rintro e w' ⟨v,I',L',rfl,hI,hs,hk⟩
 have hp:=Yd ha hg hN rfl v
 exact h v I' L' hI hk _ _ hp.1 hp.2 hs
end
end
end Go.Kn
namespace Go.Proofs.YtodakphagkommaaGreatDoor.R
section
open Go Go.Kn Go.Proofs
structure Tx where
 bv:Option Addr
 n2:Nat
 c2:Nat
 no:Int
 a1:Option Addr
 n1:Nat
 d1:Nat
 a2:Option Addr
 n3:Nat
 d2:Nat
 a3:Option Addr
 n4:Nat
 d3:Nat
 r:Nat
 lv:Option Addr
 ln:Nat
 lc:Nat
 sv:Option Addr
 sn:Nat
 sc:Nat
def JN (t:Tx):List Value:=[.slice t.bv t.n2 t.c2,.int .i64 t.no,.slice t.a1 t.n1 t.d1,.slice t.a2 t.n3 t.d2,.slice t.a3 t.n4 t.d3,.map (some t.r),.slice t.lv t.ln t.lc,.slice t.sv t.sn t.sc]
structure zgf (I:Qu)(t:Tx)(rows:List (List Int))(es:List Em)(rd:List Int)(ps l:List Pt)(s:List Sg):Prop where
 V:SlN I t.bv t.n2 t.c2 rows
 E:Sl I 3 Yu t.a2 t.n3 t.d2 es
 R:Sl I 1 QQ t.a3 t.n4 t.d3 rd
 M:OnM I t.r ps
 L:SlP I t.lv t.ln t.lc l
 S:Sl I 14 Vc t.sv t.sn t.sc s
 b2:t.n2≤100000
 b3:t.n3≤100000
 b4:t.n4≤100000
 bl:t.ln≤100000
 bs:t.sn≤100000
 sub:∀ q∈l,∃ z∈ps,z.id=q.id
theorem zgf.mono {I I':Qu}{t:Tx}{rows:List (List Int)}{es:List Em}{rd:List Int}{ps l:List Pt}{s:List Sg}(h:zgf I t rows es rd ps l s)(hI:HLe I I'):zgf I' t rows es rd ps l s:=
 ⟨h.V.mono hI,h.E.mono hI,h.R.mono hI,h.M.mono hI,h.L.mono hI,h.S.mono hI,h.b2,h.b3,h.b4,h.bl,h.bs,h.sub⟩
def zwl:List Pt→List Int
 | []=>[]
 | p::r=>((p::r).filter fun q=>zah q.nw p.nw).map (·.id)
def zOg:Og:=⟨0,0,[],[]⟩
def zo5 (rows:List (List Int))(q:Nat)(c:Int):Int:=if K3 (fun r:List Int=>r.getD q 0==c) rows<0 then K3 (zvK q) rows else K3 (fun r:List Int=>r.getD q 0==c) rows
def or1 (on:Int→Int→Bool)(l:List Pt)(s f:Int):Og×Bool:=(⟨3,0,[],zwl (zgi on l s f)⟩,decide (0<(zgi on l s f).length))
def inP (s:Int)(q:Pt):Bool:=q.kind==2&&q.sign==s
def or2 (l:List Pt)(s:Int):Og×Bool:=match l.find? (inP s) with
 | some q=>(⟨3,0,[],[q.id]⟩,true)
 | none=>(zOg,false)
def isT (f:Int):Bool:=f==2||f==3||f==9
def or3 (rows:List (List Int))(rd:List Int)(s f:Int):Og×Bool:=if isT f then (⟨1,0,[zo5 rows s.toNat (rd.getD s.toNat 0)],[]⟩,true) else (zOg,false)
def or4 (es:List Em)(s:Int):Og×Bool:=(⟨2,2,[],[]⟩,es.any (zxk s))
def or5 (rows:List (List Int))(rd:List Int)(s:Int):Og×Bool:=(⟨1,0,Jl rows s.toNat (rd.getD s.toNat 0),[]⟩,true)
def orK (on:Int→Int→Bool)(rows:List (List Int))(es:List Em)(rd:List Int)(l:List Pt)(s f:Int)(k:Nat):Og×Bool:=
 if k=0 then or1 on l s f else if k=1 then or2 l s else if k=2 then or3 rows rd s f else if k=3 then or4 es s else or5 rows rd s
def zj6 (on:Int→Int→Bool)(rows:List (List Int))(es:List Em)(rd:List Int)(l:List Pt)(s f:Int):Og:=
 if (or1 on l s f).2 then (or1 on l s f).1 else if (or2 l s).2 then (or2 l s).1 else if (or3 rows rd s f).2 then (or3 rows rd s f).1 else if (or4 es s).2 then (or4 es s).1 else (or5 rows rd s).1
theorem zgJ {on:Int→Int→Bool}{rows:List (List Int)}{es:List Em}{rd:List Int}{l:List Pt}{s f:Int}{k:Nat}(hk:k<5)(h:∀ j,j<k→(orK on rows es rd l s f j).2=false)(hy:(orK on rows es rd l s f k).2=true):(orK on rows es rd l s f k).1=zj6 on rows es rd l s f:=by
 have e0:0<k→(or1 on l s f).2=false:=h 0
 have e1:1<k→(or2 l s).2=false:=h 1
 have e2:2<k→(or3 rows rd s f).2=false:=h 2
 have e3:3<k→(or4 es s).2=false:=h 3
 unfold zj6
 match k,hk with
 | 0,_=>rw [if_pos (show (or1 on l s f).2=true from hy)];rfl
 | 1,_=>rw [if_neg (by rw [e0 (by decide)];decide),if_pos (show (or2 l s).2=true from hy)];rfl
 | 2,_=>rw [if_neg (by rw [e0 (by decide)];decide),if_neg (by rw [e1 (by decide)];decide),if_pos (show (or3 rows rd s f).2=true from hy)];rfl
 | 3,_=>rw [if_neg (by rw [e0 (by decide)];decide),if_neg (by rw [e1 (by decide)];decide),if_neg (by rw [e2 (by decide)];decide),if_pos (show (or4 es s).2=true from hy)];rfl
 | 4,_=>rw [if_neg (by rw [e0 (by decide)];decide),if_neg (by rw [e1 (by decide)];decide),if_neg (by rw [e2 (by decide)];decide),if_neg (by rw [e3 (by decide)];decide)];rfl
def OgV (I:Qu)(o:Og)(vs:List Value):Prop:=∃ a n c b m d,vs=[.int .i64 o.k,.int .i64 o.r,.slice a n c,.slice b m d]∧Sl I 1 QQ a n c o.ws∧Sl I 1 QQ b m d o.ps
def FrQ (q:Og×Bool)(v:Value)(I:Qu)(L:Go.Kn.Loc):Prop:=L=[]∧∃ vs,v= .tuple #[.agg vs.toArray,.bool q.2]∧OgV I q.1 vs
theorem znG {I:Qu}{b n t:Nat}{A:List Value}{zs:List Pt}(hA:A.take (n*19)=zs.flatMap Yt){k:Nat}{p:Pt}(hp:zs[k]? =some p){loc:Go.Kn.Loc}:Cells I ((b,.cells A.toArray t (0,0))::loc) b (k*19) (Yt p):=by
 intro j u hu
 have hl:=Xt Q1 zs k p hp j u hu
 have:A[k*19+j]? =some u:=by
  rw [←hA,List.getElem?_take] at hl
  split at hl
  ·
   exact hl
  ·
   cases hl
 exact .here (by rw [Y4];simpa using this)
theorem zov {B:List Value}{i n c:Nat}{p:Pt}(hl:B.length=c*19)(hn:n≤c)(hi:i<n):(Vk B (i*19) (Yt p)).length=c*19:=by
 rw [X8 (n:=19) (by omega) (Q1 p)]
 simp only [List.length_append,List.length_take,List.length_drop,Q1];omega
theorem zkK {B:List Value}{zs:List Pt}{i n c:Nat}{p:Pt}(hB:B.take (n*19)=zs.flatMap Yt)(hl:B.length=c*19)(hn:n≤c)(hz:zs.length=n)(hi:i<n):(Vk B (i*19) (Yt p)).take (n*19)=(zs.set i p).flatMap Yt:=by
 rw [X8 (n:=19) (by omega) (Q1 p)]
 have hz2:zs.set i p=zs.take i++p::zs.drop (i+1):=by rw [List.set_eq_take_append_cons_drop,if_pos (by omega)]
 have hf:∀ k,k≤n→(zs.take k).flatMap Yt=B.take (k*19):=by
  intro k hk
  have h1:zs.flatMap Yt=(zs.take k).flatMap Yt++(zs.drop k).flatMap Yt:=by rw [←List.flatMap_append,List.take_append_drop]
  have h2:((zs.take k).flatMap Yt).length=k*19:=by rw [ZR Q1,List.length_take];congr 1;omega
  have h3:=congrArg (List.take (k*19)) h1
  rw [←hB,List.take_take,Nat.min_eq_left (by omega),List.take_append_of_le_length (by omega),←h2,List.take_length] at h3
  rw [←h3,h2]
 have hd:(zs.drop (i+1)).flatMap Yt=(B.take (n*19)).drop ((i+1)*19):=by
  have h1:zs.flatMap Yt=(zs.take (i+1)).flatMap Yt++(zs.drop (i+1)).flatMap Yt:=by rw [←List.flatMap_append,List.take_append_drop]
  have h2:((zs.take (i+1)).flatMap Yt).length=(i+1)*19:=by rw [ZR Q1,List.length_take];congr 1;omega
  rw [hB,h1,←h2,List.drop_left]
 rw [hz2,List.flatMap_append,List.flatMap_cons,hf i (by omega),hd]
 have e1:(B.take (i*19)).length=i*19:=by rw [List.length_take];omega
 have t1:(B.take (i*19)).take (n*19)=B.take (i*19):=List.take_of_length_le (by rw [e1];omega)
 have t2:(Yt p).take (n*19-i*19)=Yt p:=List.take_of_length_le (by rw [Q1];omega)
 rw [List.take_append,e1,t1,List.take_append,t2,Q1,List.drop_take]
 rw [show (i+1)*19=i*19+19 by omega,show n*19-i*19-19=n*19-(i*19+19) by omega]
structure DlQ (P:Pt→Bool)(ps:List Pt)(n c i j:Nat)(zs:List Pt)(B:List Value):Prop where
 hB:B.take (n*19)=zs.flatMap Yt
 hz:zs.length=n
 hl:B.length=c*19
 hk:zs.take i=(ps.take j).filter fun p=> !P p
 hd:zs.drop j=ps.drop j
 hij:i<j
 hjn:j≤n
theorem DlQ.at {P:Pt→Bool}{ps:List Pt}{n c i j:Nat}{zs:List Pt}{B:List Value}(h:DlQ P ps n c i j zs B){p:Pt}(hp:ps[j]? =some p):zs[j]? =some p:=by
 have h1:=congrArg (fun l=>l[0]?) h.hd
 simp only [List.getElem?_drop,Nat.add_zero] at h1
 rw [h1];exact hp
theorem DlQ.keep {P:Pt→Bool}{ps:List Pt}{n c i j:Nat}{zs:List Pt}{B:List Value}(h:DlQ P ps n c i j zs B){p:Pt}(hp:ps[j]? =some p)(hP:P p=false)(hn:n≤c)(hjn:j<n):DlQ P ps n c (i+1) (j+1) (zs.set i p) (Vk B (i*19) (Yt p)):=
  ⟨zkK h.hB h.hl hn h.hz (by have:=h.hij;omega),by rw [List.length_set];exact h.hz,zov h.hl hn (by have:=h.hij;omega),
   by rw [Wo (P:=fun p=> !P p) hp (by rw [hP];rfl),←h.hk,List.take_add_one,List.take_set_of_le (by omega),List.getElem?_set_self (by have:=h.hij;have:=h.hz;omega)];rfl,
   by rw [List.drop_set_of_lt (by have:=h.hij;omega)];have h1:=congrArg (List.drop 1) h.hd;rw [List.drop_drop,List.drop_drop] at h1;exact h1,by have:=h.hij;omega,by omega⟩
theorem DlQ.drop {P:Pt→Bool}{ps:List Pt}{n c i j:Nat}{zs:List Pt}{B:List Value}(h:DlQ P ps n c i j zs B){p:Pt}(hp:ps[j]? =some p)(hP:P p=true)(hjn:j<n):DlQ P ps n c i (j+1) zs B:=
 ⟨h.hB,h.hz,h.hl,by rw [zan (P:=fun p=> !P p) hp (by rw [hP];rfl)];exact h.hk,by have h1:=congrArg (List.drop 1) h.hd;rw [List.drop_drop,List.drop_drop] at h1;exact h1,by have:=h.hij;omega,by omega⟩
theorem DlQ.new {P:Pt→Bool}{ps:List Pt}{n c i:Nat}{A:List Value}{p:Pt}(hA:A.take (n*19)=ps.flatMap Yt)(hz:ps.length=n)(hl:A.length=c*19)(hi:ps[i]? =some p)(hP:P p=true)(hno:(ps.take i).any P=false):DlQ P ps n c i (i+1) ps A:=
 ⟨hA,hz,hl,by
  rw [zan (P:=fun p=> !P p) hi (by rw [hP];rfl),List.filter_eq_self.2]
  intro q hq;rw [List.any_eq_false] at hno;simpa using hno q hq,rfl,by omega,by have:=(List.getElem?_eq_some_iff.1 hi).1;omega⟩
theorem DlQ.own {P:Pt→Bool}{ps:List Pt}{n c i j:Nat}{zs:List Pt}{B zc:List Value}{b t:Nat}(h:DlQ P ps n c i j zs B)(hj:n≤j)(hps:ps.length=n)(hn:n≤c)(hc:c≤maxLen)(hzc:zc.length=(n-i)*19):
  OwnS t 19 (.slice (some ⟨b,0,none⟩) i c) i ((ps.filter fun p=> !P p).flatMap Yt) [(b,.cells (B.take (0+i*19)++(zc++B.drop (0+i*19+(n-i)*19))).toArray t (0,0))]:=by
 rw [Nat.zero_add]
 have hij:=h.hij
 have hjn:=h.hjn
 have hBl:=h.hl
 have e1:(B.take (i*19)).length=i*19:=by rw [List.length_take];omega
 have hf:ps.filter (fun p=> !P p)=zs.take i:=by rw [h.hk,List.take_of_length_le (by omega)]
 have hfl:(ps.filter fun p=> !P p).flatMap Yt=B.take (i*19):=by
  rw [hf]
  have h1:zs.flatMap Yt=(zs.take i).flatMap Yt++(zs.drop i).flatMap Yt:=by rw [←List.flatMap_append,List.take_append_drop]
  have h2:((zs.take i).flatMap Yt).length=i*19:=by rw [ZR Q1,List.length_take];have:=h.hz;congr 1;omega
  have h3:=congrArg (List.take (i*19)) h1
  rw [←h.hB,List.take_take,Nat.min_eq_left (by omega),List.take_append_of_le_length (by omega),←h2,List.take_length] at h3
  rw [←h3,h2]
 refine ⟨by rw [hfl,e1],.inr ⟨b,c,_,rfl,rfl,by omega,hc,?_,?_⟩⟩
 ·
  simp only [List.size_toArray,List.length_append,e1,hzc,List.length_drop];omega
 ·
  rw [hfl]
  show ((B.take (i*19)++(zc++B.drop (i*19+(n-i)*19)))).take (i*19)=_
  rw [List.take_append_of_le_length (by omega),List.take_of_length_le (by omega)]
theorem zvv {P:Pt→Bool}{ps:List Pt}{n c i j:Nat}{zs:List Pt}{B:List Value}(h:DlQ P ps n c i j zs B)(hn:n≤c)(hj:j<n):Nat.ble (i*19+19) (c*19)=true:=Nat.ble_eq_true_of_le (by have:=h.hij;omega)
theorem ztI {P:Pt→Bool}{ps:List Pt}{n c i j:Nat}{zs:List Pt}{B:List Value}(h:DlQ P ps n c i j zs B)(hn:n≤c):0+i*19+(n-i)*19≤c*19:=by have:=h.hij;have:=h.hjn;omega
theorem zwL {b n c t:Nat}{A:List Value}{ps:List Pt}(_hA:A.take (n*19)=ps.flatMap Yt)(hAl:A.length=c*19)(_hl:ps.length=n)(hnc:n≤c)(hc:c≤maxLen):OwnS t 19 (.slice (some ⟨b,0,none⟩) n c) n (A.take (n*19)) [(b,.cells A.toArray t (0,0))]:=
 ⟨by rw [List.length_take];omega,.inr ⟨b,c,_,rfl,rfl,hnc,hc,by simp [hAl],by simp⟩⟩
theorem zhi {α:Type}{xs:List α}{P:α→Bool}(h:xs.any P=true):∃ (i:Nat) (x:α),K3 P xs=(i:Nat)∧xs[i]? =some x∧P x=true∧(xs.take i).any P=false:=by
 obtain ⟨x,hx,hp⟩:=List.any_eq_true.1 h
 have hl:=List.findIdx_lt_length_of_exists ⟨x,hx,hp⟩
 refine ⟨xs.findIdx P,xs[xs.findIdx P],by unfold K3;rw [h];rfl,List.getElem?_eq_getElem hl,List.findIdx_getElem,?_⟩
 rw [List.any_eq_false]
 intro y hy
 obtain ⟨k,hk,rfl⟩:=List.getElem_of_mem hy
 rw [List.length_take] at hk
 rw [List.getElem_take]
 exact Bool.eq_false_iff.1 (List.not_of_lt_findIdx (Nat.lt_of_lt_of_le hk (Nat.min_le_left ..)))
def ziI (ls:List Pt)(k:Nat):List Pt:=(ls.take k).filter fun q=>zah q.nw ((ls.getD 0 WU).nw)
theorem zv9 {ls:List Pt}:((ziI ls 0).map (·.id)).flatMap QQ=[]:=by unfold ziI;rw [List.take_zero];rfl
theorem zqK {ls:List Pt}{k:Nat}{p:Pt}(hp:ls[k]? =some p)(h:zah p.nw ((ls.getD 0 WU).nw)=true):(ziI ls (k+1)).map (·.id)=(ziI ls k).map (·.id)++[p.id]:=by
 unfold ziI;rw [Wo hp h,List.map_append];rfl
theorem zsm {ls:List Pt}{k:Nat}{p:Pt}(hp:ls[k]? =some p)(h:zah p.nw ((ls.getD 0 WU).nw)=false):(ziI ls (k+1)).map (·.id)=(ziI ls k).map (·.id):=by
 unfold ziI;rw [zan hp h]
theorem znW {ls:List Pt}{k m:Nat}(hm:ls.length=m)(hk:k=m):(ziI ls k).map (·.id)=zwl ls:=by
 unfold ziI;rw [List.take_of_length_le (by omega)]
 cases ls with
 | nil=>rfl
 | cons p r=>rfl
theorem zsn {on:Int→Int→Bool}{l:List Pt}{s f:Int}{m:Nat}(hm:(zgi on l s f).length=m):(or1 on l s f).2=decide ((m:Int)>0):=by
 show decide (0<(zgi on l s f).length)=_
 rw [hm];cases m<;>simp
theorem zbz {l:List Pt}{s:Int}{k:Nat}{p:Pt}(hno:(l.take k).any (inP s)=false)(hp:l[k]? =some p)(h:inP s p=true):or2 l s=(⟨3,0,[],[p.id]⟩,true):=by
 have:l.find? (inP s)=some p:=by
  have e:l=l.take k++p::l.drop (k+1):=by
   rw [←ZY hp,List.take_append_drop]
  rw [e,List.find?_append,List.find?_eq_none.2 (by rw [List.any_eq_false] at hno;exact hno),List.find?_cons,h];rfl
 unfold or2;rw [this]
theorem zeG {l:List Pt}{s:Int}(hno:l.any (inP s)=false):or2 l s=(zOg,false):=by
 unfold or2;rw [List.find?_eq_none.2 (by rw [List.any_eq_false] at hno;exact hno)]
theorem zbT {rows:List (List Int)}{rd:List Int}{q:Nat}{f:Int}(h:isT f=true):or3 rows rd (q:Int) f=(⟨1,0,[zo5 rows q (rd.getD q 0)],[]⟩,true):=if_pos h
theorem zeq {rows:List (List Int)}{rd:List Int}{s:Int}{f:Int}(h:isT f=false):or3 rows rd s f=(zOg,false):=if_neg (by rw [h];decide)
theorem zw1 {rows:List (List Int)}{q:Nat}{c:Int}(h:decide (K3 (fun r:List Int=>r.getD q 0==c) rows<0)=true):K3 (zvK q) rows=zo5 rows q c:=by unfold zo5;rw [if_pos (by simpa using h)]
theorem zwc {rows:List (List Int)}{q:Nat}{c:Int}(h:decide (K3 (fun r:List Int=>r.getD q 0==c) rows<0)=false):K3 (fun r:List Int=>r.getD q 0==c) rows=zo5 rows q c:=by unfold zo5;rw [if_neg (by simpa using h)]
def zdj (f:Nat)(t:Tx)(k:Nat):List Value:=[.func (.func (f+k)) #[.agg (JN t).toArray] #[]]
theorem zxx {k:Nat}(h:k<5):([0,1,2,3,4]:List Nat)[k]? =some k:=by
 match k,h with
 | 0,_=>rfl
 | 1,_=>rfl
 | 2,_=>rfl
 | 3,_=>rfl
 | 4,_=>rfl
theorem zg6 {f:Int}:([2,3,9]:List Int).any (fun y=>f==y)=isT f:=by simp only [List.any_cons,List.any_nil,Bool.or_false,isT,Bool.or_assoc]
theorem zqQ {b:Bool}(h:(!b)=true):b=false:=by cases b<;>simp_all
theorem zhq {b:Bool}(h:(!b)=false):b=true:=by cases b<;>simp_all
end
section
open Go Go.Kn Go.Proofs
theorem zp0:Fun Tryz.prog 170:=.of Tryz.func170 (by kernel_rfl) (by kernel_rfl)
theorem zrt:Fun Tryz.prog 69:=.of Tryz.func69 (by kernel_rfl) (by kernel_rfl)
theorem zfe:MpT Tryz.prog 55 3 4 (.bool false):=⟨by kernel_rfl,.of (by kernel_rfl)⟩
theorem zcS:MpT Tryz.prog 96 3 55 (.map none):=⟨by kernel_rfl,.of (by kernel_rfl)⟩
theorem zuh:Tryz.prog.underlying 36=some (.slice 57):=by kernel_rfl
theorem zwk {I:Qu}{av:Option Addr}{n c:Nat}{xs:List Sg}(hS:Sl I 14 Vc av n c xs)(hn:n≤100000){fid:Nat}{cap:List Value}{P:Sg→Bool}(hF:Fun Tryz.prog fid)(hf:∀ x∈xs,Zx Tryz.prog fid ([JQ x]++cap) I (.bool (P x))):Zx Tryz.prog 69 [.slice av n c,.func (.func fid) #[] cap.toArray] I (.int .i64 (K3 P xs)):=by
 intro g H w hw
 refine qe Tryz.func69 Tryz.ntmps69 hw ?_
 have hS:=hS
 refine zR (zA (zN (Ql (zR ?_))))
 refine zM ?_
 refine zQ Vf ?_
 refine zM (zN (Qm ?_))
 refine zU [(0,_),(1,_),(7,_)] (fun T L0 mz E I' loc'=>∃ (k:Nat),mz=n-k∧E=(8,.int .i64 k)::T∧I=I'∧L0=loc'∧k≤n∧(xs.take k).any P=false) ?_ (h:=⟨0,rfl,rfl,rfl,rfl,Nat.zero_le _,rfl⟩)
 rintro mz E I' loc' ⟨k,rfl,rfl,rfl,rfl,hk,hno⟩
 refine zR (zC (zN (Ql ?_)))
 refine zI ?_ ?_<;>intro hc9
 ·
  have hlt_k:k<n:=by have h:=hc9;simp at h;omega
  obtain ⟨x,hx⟩:=hS.at hlt_k
  refine Qo (Qa (Ql (Qm (zR (zM ?_)))))
  refine zA ?_
  refine zN (zR ?_)
  refine zM ?_
  refine zM ?_
  refine zM ?_
  refine zV (QG rfl rfl Vf (by assumption) (fun hg=>by omega)) ?_
  refine zV (Qp rfl ZL (fun hg=>by exact zxR hS hx) rfl) ?_
  refine YO (cap:=cap) (vs:=[_]) rfl rfl hF (hf x (List.mem_of_getElem? hx)) rfl rfl ?_
  refine zN ?_
  refine zI ?_ ?_<;>intro hc16
  ·
   refine zR (zM ?_)
   refine zA (zN (Qt (Qn (Qc (Qc (Qn (Qc ?_)))))))
   exact zr rfl rfl (by rw [V7 hno hx hc16])
  refine Qo (Qh (Qa (Qg (zB ?_))))
  refine zM (Qb ?_)
  exact zm (h:=⟨n-(k+1),by omega,k+1,rfl,rfl,rfl,rfl,by omega,YW hx hno hc16⟩)
 have hge_k:n≤k:=by have h:=hc9;simp at h;omega
 refine QI (Qf (Qf (Qk (Qa (zR (zA (zN ?_)))))))
 refine Qt ?_
 exact zr rfl rfl (by rw [Vr hS.len hge_k hno])
theorem zw7 {I:Qu}{av:Option Addr}{n c:Nat}{xs:List Sg}(hS:Sl I 14 Vc av n c xs)(hn:n≤100000){fid:Nat}{cap:List Value}{P:Sg→Bool}(hF:Fun Tryz.prog fid)(hf:∀ x∈xs,Zx Tryz.prog fid ([JQ x]++cap) I (.bool (P x))):Zx Tryz.prog 37 [.slice av n c,.func (.func fid) #[] cap.toArray] I (.bool (xs.any P)):=by
 intro g H w hw
 refine qe Tryz.func37 Tryz.ntmps37 hw ?_
 refine zR (zA ?_)
 refine zN (zR ?_)
 refine zM ?_
 refine zM ?_
 refine qc (vs:=[_,_]) rfl zrt (zwk hS hn hF hf) ?_
 refine zC ?_
 refine zA (zN (Qt ?_))
 exact zr rfl rfl (by rw [←KK])
theorem zvA {I:Qu}{av:Option Addr}{n c:Nat}{xs:List Em}(hS:Sl I 3 Yu av n c xs)(hn:n≤100000){fid:Nat}{cap:List Value}{P:Em→Bool}(hF:Fun Tryz.prog fid)(hf:∀ x∈xs,Zx Tryz.prog fid ([.agg (Yu x).toArray]++cap) I (.bool (P x))):Zx Tryz.prog 170 [.slice av n c,.func (.func fid) #[] cap.toArray] I (.int .i64 (K3 P xs)):=by
 intro g H w hw
 refine qe Tryz.func170 Tryz.ntmps170 hw ?_
 have hS:=hS
 refine zR (zA (zN (Ql (zR ?_))))
 refine zM ?_
 refine zQ K2 ?_
 refine zM (zN (Qm ?_))
 refine zU [(0,_),(1,_),(7,_)] (fun T L0 mz E I' loc'=>∃ (k:Nat),mz=n-k∧E=(8,.int .i64 k)::T∧I=I'∧L0=loc'∧k≤n∧(xs.take k).any P=false) ?_ (h:=⟨0,rfl,rfl,rfl,rfl,Nat.zero_le _,rfl⟩)
 rintro mz E I' loc' ⟨k,rfl,rfl,rfl,rfl,hk,hno⟩
 refine zR (zC (zN (Ql ?_)))
 refine zI ?_ ?_<;>intro hc9
 ·
  have hlt_k:k<n:=by have h:=hc9;simp at h;omega
  obtain ⟨x,hx⟩:=hS.at hlt_k
  refine Qo (Qa (Ql (Qm (zR (zM ?_)))))
  refine zA ?_
  refine zN (zR ?_)
  refine zM ?_
  refine zM ?_
  refine zM ?_
  refine zV (QG rfl rfl K2 (by assumption) (fun hg=>by omega)) ?_
  refine zV (Qp rfl zni (fun hg=>by exact zxR hS hx) rfl) ?_
  refine YO (cap:=cap) (vs:=[_]) rfl rfl hF (hf x (List.mem_of_getElem? hx)) rfl rfl ?_
  refine zN ?_
  refine zI ?_ ?_<;>intro hc16
  ·
   refine zR (zM ?_)
   refine zA (zN (Qt (Qn (Qc (Qc (Qn (Qc ?_)))))))
   exact zr rfl rfl (by rw [V7 hno hx hc16])
  refine Qo (Qh (Qa (Qg (zB ?_))))
  refine zM (Qb ?_)
  exact zm (h:=⟨n-(k+1),by omega,k+1,rfl,rfl,rfl,rfl,by omega,YW hx hno hc16⟩)
 have hge_k:n≤k:=by have h:=hc9;simp at h;omega
 refine QI (Qf (Qf (Qk (Qa (zR (zA (zN ?_)))))))
 refine Qt ?_
 exact zr rfl rfl (by rw [Vr hS.len hge_k hno])
theorem zv3 {I:Qu}{av:Option Addr}{n c:Nat}{xs:List Em}(hS:Sl I 3 Yu av n c xs)(hn:n≤100000){fid:Nat}{cap:List Value}{P:Em→Bool}(hF:Fun Tryz.prog fid)(hf:∀ x∈xs,Zx Tryz.prog fid ([.agg (Yu x).toArray]++cap) I (.bool (P x))):Zx Tryz.prog 121 [.slice av n c,.func (.func fid) #[] cap.toArray] I (.bool (xs.any P)):=by
 intro g H w hw
 refine qe Tryz.func121 Tryz.ntmps121 hw ?_
 refine zR (zA ?_)
 refine zN (zR ?_)
 refine zM ?_
 refine zM ?_
 refine qc (vs:=[_,_]) rfl zp0 (zvA hS hn hF hf) ?_
 refine zC ?_
 refine zA (zN (Qt ?_))
 exact zr rfl rfl (by rw [←KK])
theorem zmd {I:Qu}{av:Option Addr}{n c:Nat}{xs:List Pt}(hS:Sl I 19 Yt av n c xs)(hn:n≤400000):Yb Tryz.prog 114 [.slice av n c] I [] (fun v I' L=>I'=I∧OwnS 57 19 v n (xs.flatMap Yt) L):=by
 intro g H w hw
 refine qe Tryz.func114 Tryz.ntmps114 hw ?_
 refine zR (zA (zN (Ql (zR ?_))))
 refine zM ?_
 refine zV (WW rfl rfl ZC) ?_
 refine zN ?_
 refine zI ?_ ?_<;>intro hc4
 ·
  have hn0:n=0:=Decidable.byContradiction fun h=>by have:=hS.base h;rw [this] at hc4;cases hc4
  have hl:=hS.len
  subst hn0
  have hx0:=List.eq_nil_of_length_eq_zero hl
  subst hx0
  refine zR (zA (zN (Qt (Qc ?_))))
  exact Zt rfl rfl (fun w hw=>⟨_,I,_,rfl,zxQ _,hw,rfl,OwnS.nil⟩)
 refine Qo (Qa (zR ?_))
 refine Qq (ps:=[]) (m:=[]) Us rfl (.nil) rfl (by simp) (by decide) (by decide) rfl rfl (fun b_5=>?_)
 refine zM ?_
 refine QW (v:=_) (ys:=xs.flatMap Yt) (L:=[(b_5,_)]) rfl rfl Us OwnS.new (by repeat (first | exact .cons .here .nil | exact QD | exact Qx | apply QC | apply QB)) (hS.src Q1) (zk7 _) (by omega) rfl rfl ?_
 intro v1 L1 hO1 _;rw [List.nil_append,Nat.zero_add] at hO1
 refine zA (zN (Qt ?_))
 exact Zt rfl rfl (fun w hw=>⟨_,I,_,rfl,zxQ _,hw.subL Zi,rfl,hO1⟩)
theorem zr7 {I:Qu}{av:Option Addr}{n c:Nat}{rows:List (List Int)}(hV:SlN I av n c rows)(hn:n≤100000){fid:Nat}{cap:List Value}{P:List Int→Bool}(hF:Fun Tryz.prog fid)(hf:∀ (h:Hd) (r:List Int),r∈rows→Sl I 1 QQ h.a h.n h.c r→Zx Tryz.prog fid ([.slice h.a h.n h.c]++cap) I (.bool (P r))):Zx Tryz.prog 100 [.slice av n c,.func (.func fid) #[] cap.toArray] I (.int .i64 (K3 P rows)):=by
 intro g H w hw
 refine qe Tryz.func100 Tryz.ntmps100 hw ?_
 have hVl:=hV.len
 obtain ⟨hs,hVH⟩:=id hV
 have hS:=hVH.1
 refine zR (zA (zN (Ql (zR ?_))))
 refine zM ?_
 refine zQ Zk ?_
 refine zM (zN (Qm ?_))
 refine zU [(0,_),(1,_),(7,_)] (fun T L0 mz E I' loc'=>∃ (k:Nat),mz=n-k∧E=(8,.int .i64 k)::T∧I=I'∧L0=loc'∧k≤n∧(rows.take k).any P=false) ?_ (h:=⟨0,rfl,rfl,rfl,rfl,Nat.zero_le _,rfl⟩)
 rintro mz E I' loc' ⟨k,rfl,rfl,rfl,rfl,hk,hno⟩
 refine zR (zC (zN (Ql ?_)))
 refine zI ?_ ?_<;>intro hc9
 ·
  have hlt_k:k<n:=by have h:=hc9;simp at h;omega
  obtain ⟨hx1,rx,hx,hrx,hQ⟩:=hVH.at hlt_k
  refine Qo (Qa (Ql (Qm (zR (zM ?_)))))
  refine zA ?_
  refine zN (zR ?_)
  refine zM ?_
  refine zM ?_
  refine zM ?_
  refine zV (QG rfl rfl Zk (by assumption) (fun hg=>by omega)) ?_
  refine zV (Qd rfl QK (fun hg=>by exact zxJ hS hx rfl)) ?_
  refine YO (cap:=cap) (vs:=[_]) rfl rfl hF (hf hx1 rx (List.mem_of_getElem? hrx) hQ) rfl rfl ?_
  refine zN ?_
  refine zI ?_ ?_<;>intro hc16
  ·
   refine zR (zM ?_)
   refine zA (zN (Qt (Qn (Qc (Qc (Qn (Qc ?_)))))))
   exact zr rfl rfl (by rw [V7 hno hrx hc16])
  refine Qo (Qh (Qa (Qg (zB ?_))))
  refine zM (Qb ?_)
  exact zm (h:=⟨n-(k+1),by omega,k+1,rfl,rfl,rfl,rfl,by omega,YW hrx hno hc16⟩)
 have hge_k:n≤k:=by have h:=hc9;simp at h;omega
 refine QI (Qf (Qf (Qk (Qa (zR (zA (zN ?_)))))))
 refine Qt ?_
 exact zr rfl rfl (by rw [Vr hVl hge_k hno])
theorem zwx {I:Qu}{b n c:Nat}{A:List Value}{ps:List Pt}(hA:A.take (n*19)=ps.flatMap Yt)(hl:ps.length=n)(hn:n≤100000){fid:Nat}{cap:List Value}{P:Pt→Bool}(hF:Fun Tryz.prog fid)(hf:∀ x∈ps,Zx Tryz.prog fid ([Wq x]++cap) I (.bool (P x))):Yb Tryz.prog 169 [.slice (some ⟨b,0,none⟩) n c,.func (.func fid) #[] cap.toArray] I [(b,.cells A.toArray 57 (0,0))] (fun u I' L=>u= .int .i64 (K3 P ps)∧I'=I∧L=[(b,.cells A.toArray 57 (0,0))]):=by
 intro g H w hw
 refine qe Tryz.func169 Tryz.ntmps169 hw ?_
 refine zR (zA (zN (Ql (zR ?_))))
 refine zM ?_
 refine zQ ZC ?_
 refine zM (zN (Qm ?_))
 refine zU [(0,_),(1,_),(7,_)] (fun T L0 mz E I' loc'=>∃ (k:Nat),mz=n-k∧E=(8,.int .i64 k)::T∧I=I'∧L0=loc'∧k≤n∧(ps.take k).any P=false) ?_ (h:=⟨0,rfl,rfl,rfl,rfl,Nat.zero_le _,rfl⟩)
 rintro mz E I' loc' ⟨k,rfl,rfl,rfl,rfl,hk,hno⟩
 refine zR (zC (zN (Ql ?_)))
 refine zI ?_ ?_<;>intro hc9
 ·
  have hlt_k:k<n:=by have h:=hc9;simp at h;omega
  obtain ⟨x,hx⟩:∃ x,ps[k]? =some x:=⟨_,List.getElem?_eq_getElem (by omega)⟩
  refine Qo (Qa (Ql (Qm (zR (zM ?_)))))
  refine zA ?_
  refine zN (zR ?_)
  refine zM ?_
  refine zM ?_
  refine zM ?_
  refine zV (QZ rfl rfl ZC (fun hg=>by omega)) ?_
  refine zV (Qp rfl Yw (fun hg=>by exact znG hA hx) rfl) ?_
  refine YO (cap:=cap) (vs:=[_]) rfl rfl hF (hf x (List.mem_of_getElem? hx)) rfl rfl ?_
  refine zN ?_
  refine zI ?_ ?_<;>intro hc16
  ·
   refine zR (zM ?_)
   refine zA (zN (Qt (Qn (Qc (Qc (Qn (Qc ?_)))))))
   exact Zt rfl rfl (fun w hw=>⟨_,I,_,rfl,zxQ _,hw,by rw [V7 hno hx hc16],rfl,rfl⟩)
  refine Qo (Qh (Qa (Qg (zB ?_))))
  refine zM (Qb ?_)
  exact zm (h:=⟨n-(k+1),by omega,k+1,rfl,rfl,rfl,rfl,by omega,YW hx hno hc16⟩)
 have hge_k:n≤k:=by have h:=hc9;simp at h;omega
 refine QI (Qf (Qf (Qk (Qa (zR (zA (zN ?_)))))))
 refine Qt ?_
 exact Zt rfl rfl (fun w hw=>⟨_,I,_,rfl,zxQ _,hw,by rw [Vr hl hge_k hno],rfl,rfl⟩)
theorem zth {I:Qu}{b n c:Nat}{A:List Value}{ps:List Pt}(hA:A.take (n*19)=ps.flatMap Yt)(hAl:A.length=c*19)(hl:ps.length=n)(hnc:n≤c)(hc:c≤maxLen)(hn:n≤100000){fid:Nat}{cap:List Value}{P:Pt→Bool}(hF:Fun Tryz.prog fid)(hf:∀ x∈ps,Zx Tryz.prog fid ([Wq x]++cap) I (.bool (P x))):Yb Tryz.prog 113 [.slice (some ⟨b,0,none⟩) n c,.func (.func fid) #[] cap.toArray] I [(b,.cells A.toArray 57 (0,0))] (fun u I' L=>I'=I∧∃ m,OwnS 57 19 u m ((ps.filter fun p=> !P p).flatMap Yt) L):=by
 intro g H w hw
 refine qe Tryz.func113 Tryz.ntmps113 hw ?_
 refine zR (zA ?_)
 refine zN (zR ?_)
 refine zM ?_
 refine zM ?_
 refine Qz (cap:=[]) (vs:=[_,_]) rfl rfl zdH QD (zwx hA hl hn hF hf) rfl rfl ?_
 rintro vv1 I1 L1 hI1 ⟨rfl,rfl,rfl⟩
 refine zA (zN (Ql (zR ?_)))
 refine zM ?_
 refine zC (zN ?_)
 refine zI ?_ ?_<;>intro hc12
 ·
  have hno:ps.any P=false:=by cases h:ps.any P with | false=>rfl | true=>(obtain ⟨i,x,h1,h2,h3,h4⟩:=zqJ h;rw [h1] at hc12;simp at hc12)
  refine zR (zM ?_)
  refine zA (zN (Qt (Qc ?_)))
  first
  | exact Zt rfl rfl (fun w hw=>⟨_,I1,_,rfl,zxQ _,hw,rfl,_,by rw [List.filter_eq_self.2 (fun q hq=>by rw [List.any_eq_false] at hno;simpa using hno q hq),←hA];exact zwL hA hAl hl hnc hc⟩)
 obtain ⟨i,x,hix,hi,hPi,hno⟩:∃ (i:Nat) (x:Pt),K3 P ps=(i:Nat)∧ps[i]? =some x∧P x=true∧(ps.take i).any P=false:=zhi (by cases h:ps.any P with | true=>rfl | false=>(unfold K3 at hc12;rw [h] at hc12;simp at hc12))
 have hil:=(List.getElem?_eq_some_iff.1 hi).1
 rw [hix]
 refine Qo (Qa (Ql (zR (zM ?_))))
 refine zB ?_
 refine zA (zN (Qm ?_))
 refine zU [(0,_),(1,_)] (fun T L0 mz E I' loc'=>∃ (i j:Nat) (zs:List Pt) (B:List Value),mz=n-j∧E=(5,.int .i64 i)::(6,.int .i64 j)::T∧I1=I'∧[(b,.cells B.toArray 57 (0,0))]=loc'∧DlQ P ps n c i j zs B) ?_ (h:=⟨i,i+1,ps,A,rfl,rfl,rfl,rfl,DlQ.new hA hl hAl hi hPi hno⟩)
 rintro mz E I' loc' ⟨i,j,zs,B,rfl,rfl,rfl,rfl,hD⟩
 have hij:=hD.hij
 have hjn:=hD.hjn
 refine Ql (zR (zM ?_))
 refine zM ?_
 refine zQ ZC ?_
 refine zC (zN ?_)
 refine zI ?_ ?_<;>intro hc19
 ·
  have hlt:j<n:=by have h:=hc19;simp at h;omega
  obtain ⟨x,hx⟩:∃ x,ps[j]? =some x:=⟨_,List.getElem?_eq_getElem (by omega)⟩
  have hz:=hD.at hx
  refine Qo (Qa (Ql (Qm (zR (zM ?_)))))
  refine zM ?_
  refine zV (QZ rfl rfl ZC (fun hg=>by omega)) ?_
  refine zV (Qp rfl Yw (fun hg=>by exact znG hD.hB hz) rfl) ?_
  refine Qs Ui rfl rfl (fun b_7=>?_)
  refine zh V8 ?_
  refine zN (zR ?_)
  refine zM ?_
  refine zV (Qp rfl Yw (fun hg=>by exact Cells.g0) rfl) ?_
  refine YO (cap:=cap) (vs:=[_]) rfl rfl hF (hf x (List.mem_of_getElem? hx)) rfl rfl ?_
  refine zO (zN ?_)
  refine zI ?_ ?_<;>intro hc29
  ·
   refine zR (zM ?_)
   refine zM ?_
   refine zV (Qp rfl Yw (fun hg=>by exact Cells.g0) rfl) ?_
   refine zV (QZ rfl rfl ZC (fun hg=>by omega)) ?_
   refine Jf (A:=B) rfl rfl V8 rfl (by rw [hD.hl];exact zvv hD hnc hlt) rfl rfl (by repeat (first | exact Upd.here | apply Upd.there | apply QJ)) ?_
   refine zN (Qg (zM ?_))
   refine zB ?_
   refine zA (Qb (Qh (Qa (Qg ?_))))
   refine zM ?_
   refine zB ?_
   refine zA (Qb ?_)
   exact zm (h:=⟨n-(j+1),by omega,i+1,j+1,_,_,rfl,rfl,rfl,rfl,hD.keep hx (by simpa using hc29) hnc hlt⟩)
  refine Qo (Qh (Qa (Qg (zM ?_))))
  refine zB ?_
  refine zA (Qb ?_)
  exact zm (h:=⟨n-(j+1),by omega,i,j+1,_,_,rfl,rfl,rfl,rfl,hD.drop hx (by simpa using hc29) hlt⟩)
 have hge:n≤j:=by have h:=hc19;simp at h;omega
 refine QI (Qf (Qf (Qk (Qa (zR (zM ?_))))))
 refine zM ?_
 refine zV (zdq rfl rfl ZC (by omega)) ?_
 refine zkF (A:=B) (fun zs=>[(b,.cells (B.take (0+i*19)++(zs++B.drop (0+i*19+(n-i)*19))).toArray 57 (0,0))]) rfl zuh Ui rfl rfl (by rw [hD.hl];exact ztI hD hnc) rfl rfl (fun zs=>.here) (fun zc hzc=>?_)
 refine zN (zR ?_)
 refine zM ?_
 refine zM ?_
 refine zV (zfJ rfl rfl ZC (fun hg=>by omega)) ?_
 refine zA (zN (Qt ?_))
 exact Zt rfl rfl (fun w hw=>⟨_,I1,_,rfl,zxQ _,hw,rfl,_,hD.own hge hl hnc hc hzc⟩)
end
section
open Go Go.Kn Go.Proofs
theorem zdW:AgT Tryz.prog 104 2:=.of (by kernel_rfl)
theorem Je:AgT Tryz.prog 98 8:=.of (by kernel_rfl)
theorem zqo:Ar2 Tryz.prog 104 3 .i64:=⟨by kernel_rfl,by kernel_rfl,by kernel_rfl,by kernel_rfl,by kernel_rfl⟩
theorem VH:ArT Tryz.prog 104 2 3 1:=.of (by kernel_rfl)
theorem UL:QX Tryz.prog 98 2 5:=.of (by kernel_rfl)
theorem W8:QX Tryz.prog 98 3 6:=.of (by kernel_rfl)
theorem zpP:Fun Tryz.prog 112:=.of Tryz.func112 (by kernel_rfl) (by kernel_rfl)
theorem zou:Fun Tryz.prog 113:=.of Tryz.func113 (by kernel_rfl) (by kernel_rfl)
theorem zpT:Fun Tryz.prog 114:=.of Tryz.func114 (by kernel_rfl) (by kernel_rfl)
theorem zqN:Fun Tryz.prog 115:=.of Tryz.func115 (by kernel_rfl) (by kernel_rfl)
theorem zpE:Fun Tryz.prog 117:=.of Tryz.func117 (by kernel_rfl) (by kernel_rfl)
theorem zqc:Fun Tryz.prog 118:=.of Tryz.func118 (by kernel_rfl) (by kernel_rfl)
theorem zcI:ScT Tryz.prog 36:=.of (by kernel_rfl)
theorem zcA:ScT Tryz.prog 96:=.of (by kernel_rfl)
theorem znh:SzT Tryz.prog 36 1:=.of (by kernel_rfl)
theorem ziv:Yi Tryz.prog 104 (.agg #[(.int .i64 0),(.int .i64 0)]):=.of (by kernel_rfl)
theorem zwv:Yi Tryz.prog 36 (.slice none 0 0):=.of (by kernel_rfl)
theorem zuc {I:Qu}{fid:Nat}{cap:List Value}{P:Pt→Bool}(hF:Fun Tryz.prog fid)(hf:∀ x∈([]:List Pt),Zx Tryz.prog fid ([Wq x]++cap) I (.bool (P x))):Yb Tryz.prog 113 [.slice none 0 0,.func (.func fid) #[] cap.toArray] I [] (fun u I' L=>I'=I∧∃ m,OwnS 57 19 u m (([]:List Pt).flatMap Yt) L):=by
 intro g H w hw
 refine qe Tryz.func113 Tryz.ntmps113 hw ?_
 refine zR (zA ?_)
 refine zN (zR ?_)
 refine zM ?_
 refine zM ?_
 refine qc (vs:=[_,_]) rfl zdH (zr9 (ps:=[]) ⟨.nil,fun x hx=>by cases hx⟩ (by omega) hF hf) ?_
 refine zA (zN (Ql (zR ?_)))
 refine zM ?_
 refine zC (zN ?_)
 refine zI ?_ ?_<;>intro hc12
 ·
  refine zR (zM ?_)
  refine zA (zN (Qt (Qc ?_)))
  exact Zt rfl rfl (fun w hw=>⟨_,I,[],rfl,zxQ _,hw.drop,rfl,0,OwnS.nil⟩)
 exact absurd hc12 (by simp [K3])
theorem zsF {I:Qu}{v:Value}{n:Nat}{L0:Go.Kn.Loc}{ps:List Pt}(hO:OwnS 57 19 v n (ps.flatMap Yt) L0)(hn:n≤100000){fid:Nat}{cap:List Value}{P:Pt→Bool}(hF:Fun Tryz.prog fid)(hf:∀ x∈ps,Zx Tryz.prog fid ([Wq x]++cap) I (.bool (P x))):Yb Tryz.prog 113 [v,.func (.func fid) #[] cap.toArray] I L0 (fun u I' L=>I'=I∧∃ m,OwnS 57 19 u m ((ps.filter fun p=> !P p).flatMap Yt) L):=by
 obtain ⟨hlen,⟨rfl,rfl,rfl⟩ | ⟨b,c,cur,rfl,rfl,hnc,hcm,hsz,htk⟩⟩:=hO
 ·
  obtain rfl:ps=[]:=by
   rw [ZR Q1] at hlen
   exact List.length_eq_zero_iff.1 (by omega)
  exact zuc hF hf
 have hl:ps.length=n:=by rw [ZR Q1] at hlen;omega
 have h:=zth (b:=b) (A:=cur.toList) (c:=c) htk (by rw [Array.length_toList];exact hsz) hl hnc hcm hn hF hf
 rw [Array.toArray_toList] at h
 exact h
theorem zp9 {I:Qu}{t:Tx}{ps:List Pt}(hOn:OnM I t.r ps)(p:Pt)(hid:∃ z∈ps,z.id=p.id)(i:Int):Zx Tryz.prog 118 [.agg (JN t).toArray,Wq p,.int .i64 i] I (.bool (onF ps p.id i)):=by
 intro g H w hw
 refine qe Tryz.func118 Tryz.ntmps118 hw ?_
 obtain ⟨m,hm1,hm2⟩:=hOn
 obtain ⟨ref,hget,sn,hsn,hsq⟩:=hm2.get hid
 refine zR ?_
 refine Q5 rfl rfl rfl (fun b_3=>?_)
 refine Q5 rfl rfl rfl (fun b_4=>?_)
 refine zA ?_
 refine zN (zR ?_)
 refine zF UL ?_
 refine zL zcA ?_
 refine zF Zy ?_
 refine zL Qr ?_
 refine zV (YC (m:=m) (ek:=Value.int .i64) (ev:=zbY) (a:=p.id) hget zcS ZD rfl rfl (fun _=>.inl hm1)) ?_
 refine zM ?_
 refine zV (Yg (m:=sn) zfe ZD rfl rfl (fun _=>.inl hsn)) ?_
 refine zA (zN (Qt ?_))
 exact zr rfl rfl (by rw [show (Zs sn i).getD false=onF ps p.id i from hsq.mem _])
theorem zoA {I:Qu}{b1 b2:Nat}{t:Tx}{p:Pt}{ps:List Pt}(h1:I b1=some (.cells (JN t).toArray 98 (0,0)))(h2:I b2=some (.cells (Yt p).toArray 57 (0,0)))(hOn:OnM I t.r ps)(q:Pt)(hid:∃ z∈ps,z.id=q.id):Zx Tryz.prog 117 [Wq q,.pointer (some ⟨b1,0,none⟩),.pointer (some ⟨b2,0,none⟩)] I (.bool (onF ps q.id p.id)):=by
 intro g H w hw
 refine qe Tryz.func117 Tryz.ntmps117 hw ?_
 refine zR ?_
 refine Q5 rfl rfl rfl (fun b_3=>?_)
 refine zA ?_
 refine zN (zR ?_)
 refine zV (Qp rfl Je (fun hg=>by exact Cells.imm h1) rfl) ?_
 refine zV (Qp rfl Yw (fun hg=>by exact Cells.g0) rfl) ?_
 refine zF Zy ?_
 refine zV (Qd rfl Qr (fun hg=>by exact .imm h2 rfl)) ?_
 refine qc (vs:=[_,_,_]) rfl zqc (zp9 hOn q hid _) ?_
 refine zA (zN (Qt ?_))
 exact zr rfl rfl (by rfl)
theorem zst {I:Qu}{b1 b2:Nat}{t:Tx}{ps:List Pt}{av:Option Addr}{n c:Nat}{xs:List Pt}(h1:I b1=some (.cells #[.slice av n c] 36 (0,0)))(h2:I b2=some (.cells (JN t).toArray 98 (0,0)))(hOn:OnM I t.r ps)(hX:SlP I av n c xs)(hn:n≤100000)(hsub:∀ q∈xs,∃ z∈ps,z.id=q.id)(p:Pt):Zx Tryz.prog 115 [Wq p,.pointer (some ⟨b1,0,none⟩),.pointer (some ⟨b2,0,none⟩)] I (.bool (xs.any fun q=>onF ps q.id p.id)):=by
 intro g H w hw
 refine qe Tryz.func115 Tryz.ntmps115 hw ?_
 refine zR ?_
 refine Q5 rfl rfl rfl (fun b_3=>?_)
 refine zA ?_
 refine zN (zR ?_)
 refine zV (Qd rfl zcI (fun hg=>by exact .imm h1 rfl)) ?_
 refine zV (Zc (us:=[]) (vs:=[_,_]) rfl rfl) ?_
 refine Uu (cap:=[]) (vs:=[_,_]) rfl rfl zgL QD (zj4.ofV fun I' hI' hL'=>zuR (cap:=[.pointer (some ⟨b2,0,none⟩),.pointer (some ⟨b_3,0,none⟩)]) (hX.mono hI') hn zpE (fun q hq=>zoA (b1:=b2) (b2:=b_3) (t:=t) (p:=p) (hI' _ _ h2) (hL' b_3 _ (.head _)) (hOn.mono hI') q (hsub q hq))) rfl rfl ?_
 refine zA (zN (Qt ?_))
 exact zr rfl rfl (by rfl)
theorem zpB {I:Qu}{t:Tx}{rows:List (List Int)}{es:List Em}{rd:List Int}{ps l:List Pt}{sg:List Sg}(hT:zgf I t rows es rd ps l sg)(s f:Int):Yb Tryz.prog 112 [.agg (JN t).toArray,.agg #[.int .i64 s,.int .i64 f]] I [] (zbf 19 Yt (stF l s f)):=by
 intro g H w hw
 refine qe Tryz.func112 Tryz.ntmps112 hw ?_
 have hIc:=zxQ I
 have hSl:=hT.L.1
 have hbl:=hT.bl
 refine zR ?_
 refine Q5 rfl rfl rfl (fun b_2=>?_)
 refine Q5 rfl rfl rfl (fun b_3=>?_)
 refine zA (zN (Ql (zR ?_)))
 refine zF W8 ?_
 refine zL zcI ?_
 refine zQ ZC ?_
 refine zM (zN (Qm ?_))
 refine zU [(3,_),(8,_),(9,_)] (fun T L0 mz E I' loc'=>∃ (k:Nat) (v:Value) (q:Nat) (L:Go.Kn.Loc),mz=t.ln-k∧E=(4,v)::(10,.int .i64 k)::T∧I=I'∧L++[(b_3,.cells #[.int .i64 s,.int .i64 f] 104 (0,0)),(b_2,.cells (JN t).toArray 98 (0,0))]=loc'∧k≤t.ln∧OwnS 57 19 v q ((stF (l.take k) s f).flatMap Yt) L∧q≤k) ?_ (h:=⟨0,_,0,[],rfl,rfl,rfl,rfl,Nat.zero_le _,by rw [List.take_zero];exact OwnS.nil,Nat.le_refl _⟩)
 rintro mz E I' loc' ⟨k,v,q,L,rfl,rfl,rfl,rfl,hk,hO,hq⟩
 refine zR (zC (zN (Ql ?_)))
 refine zI ?_ ?_<;>intro hc11
 ·
  have hlt_k:k<t.ln:=by have h:=hc11;simp at h;omega
  obtain ⟨p,hp⟩:=hSl.at hlt_k
  refine Qo (Qa (Ql (Qm (zR ?_))))
  refine zV (zX ZC hSl) ?_
  refine zV (Qp rfl Yw (fun hg=>by exact zxR hSl hp) rfl) ?_
  refine Qs Ui rfl rfl (fun b_6=>?_)
  refine zh V8 ?_
  refine zN (zR ?_)
  refine zF KY ?_
  refine zL Qr ?_
  refine zC ?_
  refine zM ?_
  refine QE 3 rfl rfl rfl ?_
  refine zK (Qe rfl Ya) ?_
  refine zK (Qd rfl Qr (fun hg=>by exact QS.h0 rfl)) ?_
  refine zK (Qe rfl Js) ?_
  refine zK (Qd rfl Qr (fun hg=>by exact QS.h0 rfl)) ?_
  refine zK (Zw (ps:=[(0,_),(1,_)]) [_,_] VH ziv rfl rfl) ?_
  refine zK (Qp rfl zdW (fun hg=>by (repeat (first | exact zxO | apply zxN | apply zxP))) rfl) ?_
  refine zK (zpn rfl rfl zqo) ?_
  refine QO rfl rfl rfl rfl rfl ?_
  refine zN ?_
  refine zI ?_ ?_<;>intro hc25
  ·
   have hst:(p.kind==1&&(p.sign==s&&p.field==f))=true:=by simpa using hc25
   refine Qg (zM ?_)
   refine zV (Qp rfl Yw (fun hg=>by exact Cells.g0) rfl) ?_
   refine Qq (ps:=[(0,_)]) (m:=[Yt p]) Us rfl (.cons rfl (.nil)) rfl (by simp [Q1]) (by decide) (by decide) rfl rfl (fun b_28=>?_)
   refine QW (v:=_) (ys:=[p].flatMap Yt) (L:=L) rfl rfl Us hO (by repeat (first | exact .cons .here .nil | exact QD | exact Qx | apply QC | apply QB)) ⟨rfl,fun _=>rfl,by repeat (first | exact zxO | apply zxN | apply zxP)⟩ (zk7 _) (by omega) rfl rfl ?_
   intro v9 L9 hO9 _;rw [←List.flatMap_append] at hO9
   refine zA (Qb (Qh (Qa (Qg ?_))))
   refine zB ?_
   refine zM (Qb ?_)
   first
   | exact zm (h:=⟨t.ln-(k+1),by omega,k+1,_,_,_,rfl,rfl,rfl,rfl,by omega,by rw [show stF (l.take (k+1)) s f=stF (l.take k) s f++[p] from Wo hp hst];exact hO9,by omega⟩)
  have hst:(p.kind==1&&(p.sign==s&&p.field==f))=false:=by simpa using hc25
  refine Qo (Qh (Qa (Qg (zB ?_))))
  refine zM (Qb ?_)
  first
  | exact zm (h:=⟨t.ln-(k+1),by omega,k+1,_,_,_,rfl,rfl,rfl,rfl,by omega,by rw [show stF (l.take (k+1)) s f=stF (l.take k) s f from zan hp hst];exact hO,by omega⟩)
 have hge_k:t.ln≤k:=by have h:=hc11;simp at h;omega
 rw [ZE hSl.len hge_k] at hO
 refine QI (Qf (Qf (Qk (Qa (zR (zM ?_))))))
 refine zA (zN (Qt ?_))
 exact Zt rfl rfl (fun w hw=>by obtain ⟨I9,h91,h92,h93⟩:=OwnS.res hO Q1 (by decide) (hw.subL (by exact Zi));exact ⟨_,I9,[],rfl,hIc.trans h91,h92,h93⟩)
theorem ztE {I:Qu}{t:Tx}{rows:List (List Int)}{es:List Em}{rd:List Int}{ps l:List Pt}{sg:List Sg}(hT:zgf I t rows es rd ps l sg)(s f:Int):Yb Tryz.prog 70 [.agg (JN t).toArray,.agg #[.int .i64 s,.int .i64 f]] I [] (FrQ (or1 (onF ps) l s f)):=by
 intro g H w hw
 refine qe Tryz.func70 Tryz.ntmps70 hw ?_
 have hIc:=zxQ I
 have hbl:=hT.bl
 refine zR ?_
 refine Q5 rfl rfl rfl (fun b_2=>?_)
 refine Q5 rfl rfl rfl (fun b_3=>?_)
 refine Qs WT rfl rfl (fun b_4=>?_)
 refine zA ?_
 refine zN (zR ?_)
 refine zV (Qp rfl Je (fun hg=>by exact Cells.g2) rfl) ?_
 refine zV (Qp rfl zdW (fun hg=>by exact Cells.g1) rfl) ?_
 refine Qz (cap:=[]) (vs:=[_,_]) rfl rfl zpP .nil (zpB hT s f) rfl rfl ?_
 rintro vv1 I1 L1 hI1 ⟨rfl,a9,c9,rfl,hSA⟩
 have hT:=hT.mono hI1;have hIc:=hIc.trans hI1
 have hSA:Sl I1 19 Yt a9 (stF l s f).length c9 (stF l s f):=hSA
 have hsl:(stF l s f).length≤100000:=Nat.le_trans Xk (by rw [hT.L.1.len];exact hbl)
 refine Qs zwv rfl rfl (fun b_6=>?_)
 refine zS znh ?_
 refine zN (Ql ?_)
 refine Zg (b:=b_2) (by repeat (first | exact Q7.here | apply Q7.there)) (fun I2 hI2 hb2=>?_)
 have hT:=hT.mono hI2;have hSA:=hSA.mono hI2;have hIc:=hIc.trans hI2
 have h2:=hb2
 refine Zg (b:=b_6) (by repeat (first | exact Q7.here | apply Q7.there)) (fun I3 hI3 hb3=>?_)
 have hT:=hT.mono hI3;have hSA:=hSA.mono hI3;have hIc:=hIc.trans hI3
 have h2:=hI3 _ _ h2
 have h6:=hb3
 refine Qg ?_
 refine zV (Qd rfl zcI (fun hg=>by exact .imm h6 rfl)) ?_
 refine Qz (cap:=[]) (vs:=[_]) rfl rfl zpT .nil (zmd hSA (by omega)) rfl rfl ?_
 rintro vv4 I4 L4 hI4 ⟨rfl,hO⟩
 have hT:=hT.mono hI4;have hSA:=hSA.mono hI4;have hIc:=hIc.trans hI4
 refine zV (Zc (us:=[]) (vs:=[_,_]) rfl rfl) ?_
 refine Qz (cap:=[]) (vs:=[_,_]) rfl rfl zou (by repeat (first | exact .cons .here .nil | exact QD | exact Qx | apply QC | apply QB)) (zsF hO hsl zqN (cap:=[.pointer (some ⟨b_6,0,none⟩),.pointer (some ⟨b_2,0,none⟩)]) (fun x hx=>zst h6 h2 hT.M ⟨hSA,fun q hq=>hT.L.2 q (X4.1 hq).1⟩ hsl (fun q hq=>hT.sub q (X4.1 hq).1) x)) rfl rfl ?_
 rintro vv5 I5 L5 hI5 ⟨rfl,m,hO2⟩
 have hIc:=hIc.trans hI5
 refine zA (zN (Ql (Ql ?_)))
 refine Y5 hO2 Q1 (by decide) (by repeat (first | exact .cons .here .nil | exact QD | exact Qx | apply QC | apply QB)) (fun I6 hI6 af6 cf6 ef6 hLt=>?_)
 subst ef6
 have hIc:=hIc.trans hI6
 have hLt:Sl I6 19 Yt _ m _ (zgi (onF ps) l s f):=hLt
 have hm:=hLt.len
 have hml:m≤100000:=by rw [←hm];exact Nat.le_trans (List.length_filter_le ..) hsl
 refine Qg (zM ?_)
 refine zQ ZC ?_
 refine zM (zN (Qm ?_))
 refine zU [(4,_),(7,_),(17,_),(18,_)] (fun T L0 mz E I' loc'=>∃ (k:Nat) (v:Value) (q:Nat) (L:Go.Kn.Loc),mz=m-k∧E=(19,.int .i64 k)::T∧I6=I'∧L++[(b_4,.cells #[.int .i64 0,.int .i64 0,.slice none 0 0,v] 38 (0,0)),(b_3,.cells #[.int .i64 s,.int .i64 f] 104 (0,0))]=loc'∧k≤m∧OwnS 3 1 v q (((ziI (zgi (onF ps) l s f) k).map (·.id)).flatMap QQ) L∧q≤k) ?_ (h:=⟨0,_,0,[],rfl,rfl,rfl,rfl,Nat.zero_le _,by rw [zv9];exact OwnS.nil,Nat.le_refl _⟩)
 rintro mz E I' loc' ⟨k,v,q,L,rfl,rfl,rfl,rfl,hk,hO,hq⟩
 obtain ⟨va4,vc4,rfl⟩:=zc4 hO
 refine zR (zC (zN (Ql ?_)))
 refine zI ?_ ?_<;>intro hc20
 ·
  have hlt_k:k<m:=by have h:=hc20;simp at h;omega
  obtain ⟨p,hp⟩:=hLt.at hlt_k
  obtain ⟨p0,hp0⟩:=hLt.at (k:=0) (by omega)
  refine Qo (Qa (Ql (Qm (zR ?_))))
  refine zV (zX ZC hLt) ?_
  refine zV (Qp rfl Yw (fun hg=>by exact zxR hLt hp) rfl) ?_
  refine Qs Ui rfl rfl (fun b_9=>?_)
  refine zh V8 ?_
  refine zN (Ql ?_)
  refine YI mixed (by kernel_rfl) ?_
  refine zq (Qe rfl VP) ?_
  refine zq (Qp rfl ZL (fun hg=>by exact Cells.s0 (vs:=[_,_,_,_,_,_,_,_,_,_,_,_,_,_]) rfl) rfl) ?_
  refine zq (Qi rfl) ?_
  refine zq (zX ZC hLt) ?_
  refine zq (Qe rfl VP) ?_
  refine zq (Qp rfl ZL (fun hg=>by exact Sl.seg (vs:=Vc p0.nw) (o:=4) hLt hp0 rfl) rfl) ?_
  refine zq (zdo rfl rfl XR rfl) ?_
  refine YH ?_
  refine Qa ?_
  refine zI ?_ ?_<;>intro hc29
  ·
   have hq29:zah p.nw p0.nw=true:=hc29
   rw [←QY (d:=WU) hp0] at hq29
   refine Qg ?_
   refine zF WZ ?_
   refine zV (Qd rfl QK (fun hg=>by (repeat (first | exact zxL rfl | apply zxK | apply zxM)))) ?_
   refine zF Zy ?_
   refine zL Qr ?_
   refine Qq (ps:=[(0,_)]) (m:=[QQ p.id]) Zh rfl (.cons rfl (.nil)) rfl (by simp [Qv]) (by decide) (by decide) rfl rfl (fun b_34=>?_)
   refine QW (v:=_) (ys:=[p.id].flatMap QQ) (L:=L) rfl rfl Zh hO (by repeat (first | exact .cons .here .nil | exact QD | exact Qx | apply QC | apply QB)) ⟨rfl,fun _=>rfl,by repeat (first | exact zxO | apply zxN | apply zxP)⟩ (JI _) (by omega) rfl rfl ?_
   intro v9 L9 hO9 _;obtain ⟨va9,vc9,rfl⟩:=zc4 hO9;rw [←List.flatMap_append] at hO9
   refine zF WZ ?_
   refine ZB rfl rfl Zj rfl rfl (by (repeat (first | exact Upd.here | apply Upd.there | apply QJ))) rfl ?_
   refine Qb (Qh (Qa (Qg (zB ?_))))
   refine zM (Qb ?_)
   first
   | exact zm (h:=⟨m-(k+1),by omega,k+1,_,_,_,rfl,rfl,rfl,rfl,by omega,by rw [zqK hp hq29];exact hO9,by omega⟩)
  have hq29:zah p.nw p0.nw=false:=hc29
  rw [←QY (d:=WU) hp0] at hq29
  refine Qo (Qh (Qa (Qg (zB ?_))))
  refine zM (Qb ?_)
  first
  | exact zm (h:=⟨m-(k+1),by omega,k+1,_,_,_,rfl,rfl,rfl,rfl,by omega,by rw [zsm hp hq29];exact hO,by omega⟩)
 have hge_k:m≤k:=by have h:=hc20;simp at h;omega
 have hke:k=m:=by omega
 refine QI (Qf (Qf (Qk (Qa (zR ?_)))))
 refine zF zbU ?_
 refine ZB rfl rfl Z7 rfl rfl (by (repeat (first | exact Upd.here | apply Upd.there | apply QJ))) rfl ?_
 refine zN (zR ?_)
 refine zV (Qp rfl YV (fun hg=>by (repeat (first | exact zxO | apply zxN | apply zxP))) rfl) ?_
 refine zM ?_
 refine zQ ZC ?_
 refine zC ?_
 refine YQ rfl rfl VM rfl rfl rfl rfl (by (repeat (first | exact Upd.here | apply Upd.there | apply QJ))) ?_
 refine zA (zN (Qt ?_))
 exact Zu rfl rfl rfl YV (vs:=[.int .i64 3,.int .i64 0,.slice none 0 0,.slice va4 _ vc4]) (by repeat (first | exact zxO | apply zxN | apply zxP)) rfl (fun w hw=>by obtain ⟨I9,av9,c9,h1',h2',e9,h4'⟩:=OwnS.freeze (R:=[_,_]) hO Qv (by decide) hw;cases e9;exact ⟨_,I9,[],rfl,hIc.trans h1',h2'.drop,rfl,[.int .i64 3,.int .i64 0,.slice none 0 0,.slice va4 _ vc4],by rw [zsn hm],_,_,_,_,_,_,rfl,.nil,by show Sl _ 1 QQ _ _ _ (zwl _);rw [←znW hm hke];exact h4'⟩)
end
section
open Go Go.Kn Go.Proofs
theorem zpI:ElT Tryz.prog 146 145 1 8:=.of (by kernel_rfl)
theorem zbj:QX Tryz.prog 98 0 0:=.of (by kernel_rfl)
theorem zbq:QX Tryz.prog 98 1 1:=.of (by kernel_rfl)
theorem zoM:Fun Tryz.prog 119:=.of Tryz.func119 (by kernel_rfl) (by kernel_rfl)
theorem zpM:Fun Tryz.prog 120:=.of Tryz.func120 (by kernel_rfl) (by kernel_rfl)
theorem zpj:Fun Tryz.prog 121:=.of Tryz.func121 (by kernel_rfl) (by kernel_rfl)
theorem zoz:Fun Tryz.prog 122:=.of Tryz.func122 (by kernel_rfl) (by kernel_rfl)
theorem zqD:Fun Tryz.prog 123:=.of Tryz.func123 (by kernel_rfl) (by kernel_rfl)
theorem zuT:Fun Tryz.prog 70:=.of Tryz.func70 (by kernel_rfl) (by kernel_rfl)
theorem ztM:Fun Tryz.prog 71:=.of Tryz.func71 (by kernel_rfl) (by kernel_rfl)
theorem zvb:Fun Tryz.prog 72:=.of Tryz.func72 (by kernel_rfl) (by kernel_rfl)
theorem ztg:Fun Tryz.prog 73:=.of Tryz.func73 (by kernel_rfl) (by kernel_rfl)
theorem ztY:Fun Tryz.prog 74:=.of Tryz.func74 (by kernel_rfl) (by kernel_rfl)
theorem zox:ScT Tryz.prog 145:=.of (by kernel_rfl)
theorem zii:SlT Tryz.prog 146 145 1:=.of (by kernel_rfl)
theorem zwe {I:Qu}{t:Tx}{rows:List (List Int)}{es:List Em}{rd:List Int}{ps l:List Pt}{sg:List Sg}(hT:zgf I t rows es rd ps l sg)(s f:Int):Yb Tryz.prog 71 [.agg (JN t).toArray,.agg #[.int .i64 s,.int .i64 f]] I [] (FrQ (or2 l s)):=by
 intro g H w hw
 refine qe Tryz.func71 Tryz.ntmps71 hw ?_
 have hIc:=zxQ I
 have hSl:=hT.L.1
 have hbl:=hT.bl
 refine zR ?_
 refine Q5 rfl rfl rfl (fun b_2=>?_)
 refine Q5 rfl rfl rfl (fun b_3=>?_)
 refine Qs WT rfl rfl (fun b_4=>?_)
 refine zA (zN (Ql (zR ?_)))
 refine zF W8 ?_
 refine zL zcI ?_
 refine zQ ZC ?_
 refine zM (zN (Qm ?_))
 refine zU [(3,_),(4,_),(9,_),(10,_)] (fun T L0 mz E I' loc'=>∃ (k:Nat),mz=t.ln-k∧E=(11,.int .i64 k)::T∧I=I'∧L0=loc'∧k≤t.ln∧(l.take k).any (inP s)=false) ?_ (h:=⟨0,rfl,rfl,rfl,rfl,Nat.zero_le _,rfl⟩)
 rintro mz E I' loc' ⟨k,rfl,rfl,rfl,rfl,hk,hno⟩
 refine zR (zC (zN (Ql ?_)))
 refine zI ?_ ?_<;>intro hc12
 ·
  have hlt_k:k<t.ln:=by have h:=hc12;simp at h;omega
  obtain ⟨p,hp⟩:=hSl.at hlt_k
  refine Qo (Qa (Ql (Qm (zR ?_))))
  refine zV (zX ZC hSl) ?_
  refine zV (Qp rfl Yw (fun hg=>by exact zxR hSl hp) rfl) ?_
  refine Qs Ui rfl rfl (fun b_7=>?_)
  refine zh V8 ?_
  refine zN (zR ?_)
  refine zF KY ?_
  refine zL Qr ?_
  refine zC ?_
  refine zM ?_
  refine QE 3 rfl rfl rfl ?_
  refine zK (Qe rfl Ya) ?_
  refine zK (Qd rfl Qr (fun hg=>by exact QS.h0 rfl)) ?_
  refine zK (Zo rfl rfl VH (fun hg=>by decide)) ?_
  refine zK (Qd rfl Qr (fun hg=>by exact QS.h2 rfl)) ?_
  refine zK (QH rfl rfl rfl) ?_
  refine QO rfl rfl rfl rfl rfl ?_
  refine zN ?_
  refine zI ?_ ?_<;>intro hc24
  ·
   have hc24:inP s p=true:=hc24
   refine zR ?_
   refine zF Zy ?_
   refine zL Qr ?_
   refine Qq (ps:=[(0,_)]) (m:=[QQ p.id]) Zh rfl (.cons rfl (.nil)) rfl (by simp [Qv]) (by decide) (by decide) rfl rfl (fun b_27=>?_)
   refine zV (QR (ps:=[(0,_),(3,_)]) [_,_,_,_] XZ rfl rfl) ?_
   refine zh VM ?_
   refine zA (zN (Qt (Qn (Qc (Qc (Qn (Qc ?_)))))))
   first
   | exact Zu rfl rfl rfl YV (vs:=[.int .i64 3,.int .i64 0,.slice none 0 0,.slice (some ⟨b_27,0,none⟩) 1 1]) (by repeat (first | exact zxO | apply zxN | apply zxP)) rfl (fun w hw=>by obtain ⟨I9,h91,h92,h93⟩:=hw.freezeAll;exact ⟨_,I9,[],rfl,hIc.trans h91,h92,rfl,[.int .i64 3,.int .i64 0,.slice none 0 0,.slice (some ⟨b_27,0,none⟩) 1 1],by rw [zbz hno hp hc24],none,0,0,_,_,_,by rw [zbz hno hp hc24],by rw [zbz hno hp hc24];exact .nil,by rw [zbz hno hp hc24];exact Sl.lit (t:=3) [_] rfl Qv (h93 b_27 _ (by simp [QQ]))⟩)
  have hc24:inP s p=false:=hc24
  refine Qo (Qh (Qa (Qg (zB ?_))))
  refine zM (Qb ?_)
  exact zm (h:=⟨t.ln-(k+1),by omega,k+1,rfl,rfl,rfl,rfl,by omega,YW hp hno hc24⟩)
 have hge_k:t.ln≤k:=by have h:=hc12;simp at h;omega
 rw [ZE hSl.len hge_k] at hno
 refine QI (Qf (Qf (Qk (Qa (zR ?_)))))
 refine zV (Qp rfl YV (fun hg=>by exact Cells.g0) rfl) ?_
 refine zh VM ?_
 refine zA (zN (Qt ?_))
 first
 | exact Zu rfl rfl rfl YV (vs:=[.int .i64 0,.int .i64 0,.slice none 0 0,.slice none 0 0]) (by repeat (first | exact zxO | apply zxN | apply zxP)) rfl (fun w hw=>⟨_,I,[],rfl,zxQ _,hw.drop,rfl,[.int .i64 0,.int .i64 0,.slice none 0 0,.slice none 0 0],by rw [zeG hno],none,0,0,none,0,0,by rw [zeG hno];rfl,by rw [zeG hno];exact .nil,by rw [zeG hno];exact .nil⟩)
theorem zwu {I:Qu}{b1 b2:Nat}{t:Tx}{q:Nat}{f:Int}{h:Hd}{r rd:List Int}(h1:I b1=some (.cells #[.int .i64 (q:Nat),.int .i64 f] 104 (0,0)))(h2:I b2=some (.cells (JN t).toArray 98 (0,0)))(hQ:Sl I 1 QQ h.a h.n h.c r)(hR:Sl I 1 QQ t.a3 t.n4 t.d3 rd)(hqr:q<r.length)(hqd:q<rd.length):Zx Tryz.prog 119 [.slice h.a h.n h.c,.pointer (some ⟨b1,0,none⟩),.pointer (some ⟨b2,0,none⟩)] I (.bool (r.getD q 0==rd.getD q 0)):=by
 intro g H w hw
 refine qe Tryz.func119 Tryz.ntmps119 hw ?_
 have hQl:=hQ.len
 have hRl:=hR.len
 refine zR (zA (zN (Ql ?_)))
 refine YI mixed (by kernel_rfl) ?_
 refine zq (Qi rfl) ?_
 refine zq (Zo rfl rfl VH (fun hg=>by decide)) ?_
 refine zq (Qd rfl Qr (fun hg=>by exact QS.imm h1 rfl)) ?_
 refine zq (zX Qw hQ) ?_
 refine zq (Qd rfl Qr (fun hg=>by exact zxJ (k:=q) hQ (Zb (d:=0) rfl (by omega)) rfl)) ?_
 refine zq (Qe rfl zbq) ?_
 refine zq (Qe rfl YS) ?_
 refine zq (Qd rfl QK (fun hg=>by exact QS.imm h2 rfl)) ?_
 refine zq (Zo rfl rfl VH (fun hg=>by decide)) ?_
 refine zq (Qd rfl Qr (fun hg=>by exact QS.imm h1 rfl)) ?_
 refine zq (zX Qw hR) ?_
 refine zq (Qd rfl Qr (fun hg=>by exact zxJ (k:=q) hR (Zb (d:=0) rfl (by omega)) rfl)) ?_
 refine zq (QH rfl rfl rfl) ?_
 refine zq (ZK rfl) ?_
 refine YH ?_
 refine Qa (Qt ?_)
 exact zr rfl rfl (by rfl)
theorem zwG {I:Qu}{b1:Nat}{q:Nat}{f:Int}{h:Hd}{r:List Int}(h1:I b1=some (.cells #[.int .i64 (q:Nat),.int .i64 f] 104 (0,0)))(hQ:Sl I 1 QQ h.a h.n h.c r)(hqr:q<r.length):Zx Tryz.prog 120 [.slice h.a h.n h.c,.pointer (some ⟨b1,0,none⟩)] I (.bool (zvK q r)):=by
 intro g H w hw
 refine qe Tryz.func120 Tryz.ntmps120 hw ?_
 have hQl:=hQ.len
 refine zR (zA ?_)
 refine zN (zR ?_)
 refine zM ?_
 refine zV (Zo rfl rfl VH (fun hg=>by decide)) ?_
 refine zV (Qd rfl Qr (fun hg=>by exact QS.imm h1 rfl)) ?_
 refine zV (zX Qw hQ) ?_
 refine zV (Qd rfl Qr (fun hg=>by exact zxJ (k:=q) hQ (Zb (d:=0) rfl (by omega)) rfl)) ?_
 refine zC ?_
 refine zM ?_
 refine QE 6 rfl rfl rfl ?_
 refine zK (Qi rfl) ?_
 refine zK (Zo rfl rfl VH (fun hg=>by decide)) ?_
 refine zK (Qd rfl Qr (fun hg=>by exact QS.imm h1 rfl)) ?_
 refine zK (zX Qw hQ) ?_
 refine zK (Qd rfl Qr (fun hg=>by exact zxJ (k:=q) hQ (Zb (d:=0) rfl (by omega)) rfl)) ?_
 refine zK (QH rfl rfl rfl) ?_
 refine QO rfl rfl rfl rfl rfl ?_
 refine zA (zN (Qt ?_))
 exact zr rfl rfl (by rfl)
theorem zwm {I:Qu}{b1:Nat}{q:Nat}{f:Int}(h1:I b1=some (.cells #[.int .i64 (q:Nat),.int .i64 f] 104 (0,0)))(e:Em):Zx Tryz.prog 122 [.agg (Yu e).toArray,.pointer (some ⟨b1,0,none⟩)] I (.bool (zxk (q:Int) e)):=by
 intro g H w hw
 refine qe Tryz.func122 Tryz.ntmps122 hw ?_
 refine zR ?_
 refine Q5 rfl rfl rfl (fun b_2=>?_)
 refine zA ?_
 refine zN (zR ?_)
 refine zF VR ?_
 refine zL Qr ?_
 refine zV (Zo rfl rfl VH (fun hg=>by decide)) ?_
 refine zV (Qd rfl Qr (fun hg=>by exact QS.imm h1 rfl)) ?_
 refine zC ?_
 refine zM ?_
 refine QE 5 rfl rfl rfl ?_
 refine zK (Qe rfl zbO) ?_
 refine zK (Qd rfl Qr (fun hg=>by exact QS.h0 rfl)) ?_
 refine zK (QH rfl rfl rfl) ?_
 refine QO rfl rfl rfl rfl rfl ?_
 refine zA (zN (Qt ?_))
 exact zr rfl rfl (by rfl)
theorem zr6 {I:Qu}{t:Tx}{rows:List (List Int)}{es:List Em}{rd:List Int}{ps l:List Pt}{sg:List Sg}(hT:zgf I t rows es rd ps l sg)(q:Nat)(f:Int)(hqd:q<rd.length)(hqr:∀ r∈rows,q<r.length):Yb Tryz.prog 72 [.agg (JN t).toArray,.agg #[.int .i64 (q:Nat),.int .i64 f]] I [] (FrQ (or3 rows rd (q:Int) f)):=by
 intro g H w hw
 refine qe Tryz.func72 Tryz.ntmps72 hw ?_
 have hIc:=zxQ I
 refine zR ?_
 refine Q5 rfl rfl rfl (fun b_2=>?_)
 refine Q5 rfl rfl rfl (fun b_3=>?_)
 refine Qs WT rfl rfl (fun b_4=>?_)
 refine zA (zN (Ql (zR ?_)))
 refine Qq (ps:=[(0,_),(1,_),(2,_)]) (m:=[QQ (2:Int),QQ (3:Int),QQ (9:Int)]) Zh rfl (.cons rfl (.cons rfl (.cons rfl (.nil)))) rfl (by simp [Qv]) (by decide) (by decide) rfl rfl (fun b_7=>?_)
 refine zV (Zo rfl rfl VH (fun hg=>by decide)) ?_
 refine zL Qr ?_
 refine Uu (cap:=[]) (vs:=[_,_]) rfl rfl zcQ QD (zj4.ofV fun I' hI' hL'=>JC (Sl.lit (t:=3) [2,3,9] rfl Qv (hL' b_7 _ (.head _))) (by decide) _) rfl rfl ?_
 refine zO (zN ?_)
 refine zI ?_ ?_<;>intro hc11
 ·
  have hf:isT f=false:=by rw [←zg6];exact zqQ hc11
  refine zR ?_
  refine zV (Qp rfl YV (fun hg=>by exact Cells.g1) rfl) ?_
  refine zh VM ?_
  refine zA (zN (Qt (Qc ?_)))
  first
  | exact Zu rfl rfl rfl YV (vs:=[.int .i64 0,.int .i64 0,.slice none 0 0,.slice none 0 0]) (by repeat (first | exact zxO | apply zxN | apply zxP)) rfl (fun w hw=>⟨_,I,[],rfl,hIc,hw.drop,rfl,[.int .i64 0,.int .i64 0,.slice none 0 0,.slice none 0 0],by rw [zeq hf],none,0,0,none,0,0,by rw [zeq hf];rfl,by rw [zeq hf];exact .nil,by rw [zeq hf];exact .nil⟩)
 have hf:isT f=true:=by rw [←zg6];exact zhq hc11
 refine Qo (Qa (Ql ?_))
 refine Zg (b:=b_2) (by repeat (first | exact Q7.here | apply Q7.there)) (fun I1 hI1 hb1=>?_)
 have hT:=hT.mono hI1;have hIc:=hIc.trans hI1
 have h2:=hb1
 refine Zg (b:=b_3) (by repeat (first | exact Q7.here | apply Q7.there)) (fun I2 hI2 hb2=>?_)
 have hT:=hT.mono hI2;have hIc:=hIc.trans hI2
 have h2:=hI2 _ _ h2
 have h3:=hb2
 refine Qg ?_
 refine zF zbj ?_
 refine zV (Qd rfl Kj (fun hg=>by exact .imm h2 rfl)) ?_
 refine zV (Zc (us:=[]) (vs:=[_,_]) rfl rfl) ?_
 refine qc (vs:=[_,_]) rfl zbA (zr7 (cap:=[.pointer (some ⟨b_3,0,none⟩),.pointer (some ⟨b_2,0,none⟩)]) hT.V hT.b2 zoM (fun h r hr hQ=>zwu h3 h2 hQ hT.R (hqr r hr) hqd)) ?_
 refine zA (zN ?_)
 refine zY [(4,_)] (fun T L0 E I' loc'=>∃ (i:Int),E=(6,.int .i64 i)::T∧I2=I'∧L0=loc'∧i=zo5 rows q (rd.getD q 0)) ?_ ?_
 ·
  refine zR (zM ?_)
  refine zC (zN ?_)
  refine zI ?_ ?_<;>intro hc18
  ·
   refine Qg ?_
   refine zF zbj ?_
   refine zV (Qd rfl Kj (fun hg=>by exact .imm h2 rfl)) ?_
   refine zV (Zc (us:=[]) (vs:=[_]) rfl rfl) ?_
   refine qc (vs:=[_,_]) rfl zbA (zr7 (cap:=[.pointer (some ⟨b_3,0,none⟩)]) hT.V hT.b2 zpM (fun h r hr hQ=>zwG h3 hQ (hqr r hr))) ?_
   refine zA (Qb ?_)
   exact zm (h:=⟨_,rfl,rfl,rfl,zw1 hc18⟩)
  refine Qo ?_
  exact zm (h:=⟨_,rfl,rfl,rfl,zwc hc18⟩)
 rintro E I' loc' ⟨i,rfl,rfl,rfl,hi⟩
 refine zR (zM ?_)
 refine Qq (ps:=[(0,_)]) (m:=[QQ i]) Zh rfl (.cons rfl (.nil)) rfl (by simp [Qv]) (by decide) (by decide) rfl rfl (fun b_24=>?_)
 refine zV (QR (ps:=[(0,_),(2,_)]) [_,_,_,_] XZ rfl rfl) ?_
 refine zh VM ?_
 refine zA (zN (Qt ?_))
 first
 | exact Zu rfl rfl rfl YV (vs:=[.int .i64 1,.int .i64 0,.slice (some ⟨b_24,0,none⟩) 1 1,.slice none 0 0]) (by repeat (first | exact zxO | apply zxN | apply zxP)) rfl (fun w hw=>by obtain ⟨I9,h91,h92,h93⟩:=hw.freezeAll;exact ⟨_,I9,[],rfl,hIc.trans h91,h92,rfl,[.int .i64 1,.int .i64 0,.slice (some ⟨b_24,0,none⟩) 1 1,.slice none 0 0],by rw [zbT hf],_,_,_,none,0,0,by rw [zbT hf],by rw [zbT hf];exact Sl.lit (t:=3) [_] rfl Qv (by rw [←hi];exact h93 b_24 _ (by simp [QQ])),by rw [zbT hf];exact .nil⟩)
theorem zu2 {I:Qu}{t:Tx}{rows:List (List Int)}{es:List Em}{rd:List Int}{ps l:List Pt}{sg:List Sg}(hT:zgf I t rows es rd ps l sg)(q:Nat)(f:Int):Yb Tryz.prog 73 [.agg (JN t).toArray,.agg #[.int .i64 (q:Nat),.int .i64 f]] I [] (FrQ (or4 es (q:Int))):=by
 intro g H w hw
 refine qe Tryz.func73 Tryz.ntmps73 hw ?_
 have hIc:=zxQ I
 refine zR ?_
 refine Q5 rfl rfl rfl (fun b_2=>?_)
 refine Q5 rfl rfl rfl (fun b_3=>?_)
 refine Qs WT rfl rfl (fun b_4=>?_)
 refine zA (zN (Ql ?_))
 refine Zg (b:=b_2) (by repeat (first | exact Q7.here | apply Q7.there)) (fun I1 hI1 hb1=>?_)
 have hT:=hT.mono hI1;have hIc:=hIc.trans hI1
 have h2:=hb1
 refine Zg (b:=b_3) (by repeat (first | exact Q7.here | apply Q7.there)) (fun I2 hI2 hb2=>?_)
 have hT:=hT.mono hI2;have hIc:=hIc.trans hI2
 have h2:=hI2 _ _ h2
 have h3:=hb2
 refine Qg ?_
 refine zF zbq ?_
 refine zF zba ?_
 refine zV (Qd rfl zgu (fun hg=>by exact .imm h2 rfl)) ?_
 refine zV (Zc (us:=[]) (vs:=[_]) rfl rfl) ?_
 refine qc (vs:=[_,_]) rfl zpj (zv3 (cap:=[.pointer (some ⟨b_3,0,none⟩)]) hT.E hT.b3 zoz (fun e he=>zwm h3 e)) ?_
 refine zA ?_
 refine zN (zR ?_)
 refine zV (QR (ps:=[(0,_),(1,_)]) [_,_,_,_] XZ rfl rfl) ?_
 refine zM ?_
 refine zh VM ?_
 refine zA (zN (Qt ?_))
 exact Zu rfl rfl rfl YV (vs:=[.int .i64 2,.int .i64 2,.slice none 0 0,.slice none 0 0]) (by repeat (first | exact zxO | apply zxN | apply zxP)) rfl (fun w hw=>⟨_,I2,[],rfl,hIc,hw.drop,rfl,[.int .i64 2,.int .i64 2,.slice none 0 0,.slice none 0 0],rfl,none,0,0,none,0,0,rfl,.nil,.nil⟩)
theorem zn3 {I:Qu}{t:Tx}{rows:List (List Int)}{es:List Em}{rd:List Int}{ps l:List Pt}{sg:List Sg}(hT:zgf I t rows es rd ps l sg)(q:Nat)(f:Int)(hqd:q<rd.length)(hqr:∀ r∈rows,q<r.length):Yb Tryz.prog 74 [.agg (JN t).toArray,.agg #[.int .i64 (q:Nat),.int .i64 f]] I [] (FrQ (or5 rows rd (q:Int))):=by
 intro g H w hw
 refine qe Tryz.func74 Tryz.ntmps74 hw ?_
 have hIc:=zxQ I
 have hRl:=hT.R.len
 refine zR ?_
 refine Q5 rfl rfl rfl (fun b_2=>?_)
 refine Q5 rfl rfl rfl (fun b_3=>?_)
 refine Qs WT rfl rfl (fun b_4=>?_)
 refine zA (zN (Ql ?_))
 have hD:=zxQ I
 refine Jn ?_
 refine Z5 I [(b_3,.cells #[.int .i64 (q:Nat),.int .i64 f] 104 (0,0)),(b_2,.cells (JN t).toArray 98 (0,0))] mixed ?_
 refine zT 0 rfl (Qe rfl zbj) hD ?_
 refine zT 1 rfl (Qd rfl Kj (fun hg=>by exact QS.h1 rfl)) hD ?_
 refine zT 2 rfl (Zo rfl rfl VH (fun hg=>by decide)) hD ?_
 refine zT 3 rfl (Qd rfl Qr (fun hg=>by exact QS.h0 rfl)) hD ?_
 refine zT 4 rfl (Qe rfl zbq) hD ?_
 refine zT 5 rfl (Qe rfl YS) hD ?_
 refine zT 6 rfl (Qd rfl QK (fun hg=>by exact QS.h1 rfl)) hD ?_
 refine zT 7 rfl (Zo rfl rfl VH (fun hg=>by decide)) hD ?_
 refine zT 8 rfl (Qd rfl Qr (fun hg=>by exact QS.h0 rfl)) hD ?_
 refine zT 9 rfl (QG rfl rfl Qw hT.R (fun hg=>by omega)) hD ?_
 refine zT 10 rfl (Qd rfl Qr (fun hg=>by exact zxJ (k:=q) hT.R (Zb (d:=0) rfl (by omega)) rfl)) hD ?_
 refine qd 11 rfl ?_
 refine Qz (cap:=[]) (vs:=[_,_,_]) rfl rfl zqD .nil (zwJ hT.V hT.b2 q hqr _) rfl rfl ?_
 rintro vv1 I1 L1 hI1 ⟨rfl,a9,c9,rfl,hH⟩
 have hIc:=hIc.trans hI1;have hD:=hD.trans hI1
 refine Qb ?_
 refine zD hD ?_
 refine zT 12 rfl (QR (ps:=[(0,_),(2,_)]) [_,_,_,_] XZ rfl rfl) hD ?_
 refine qd 13 rfl ?_
 refine zh VM ?_
 refine Qb ?_
 refine zD hD ?_
 refine zT 14 rfl (ZK rfl) hD ?_
 refine QF (by kernel_rfl) ?_
 refine QP ?_
 refine Qa (Qt ?_)
 exact Zu rfl rfl rfl YV (vs:=[.int .i64 1,.int .i64 0,.slice a9 _ c9,.slice none 0 0]) (by repeat (first | exact zxO | apply zxN | apply zxP)) rfl (fun w hw=>⟨_,I1,[],rfl,hIc,hw.drop,rfl,[.int .i64 1,.int .i64 0,.slice a9 _ c9,.slice none 0 0],rfl,_,_,_,none,0,0,rfl,hH,.nil⟩)
theorem ztD {I:Qu}{t:Tx}{rows:List (List Int)}{es:List Em}{rd:List Int}{ps l:List Pt}{sg:List Sg}(hT:zgf I t rows es rd ps l sg)(s f:Int)(hrg:(or2 l s).2=false→∃ q:Nat,s=q∧q<rd.length∧∀ r∈rows,q<r.length){k:Nat}(hk:k<5)(hall:∀ j,j<k→(orK (onF ps) rows es rd l s f j).2=false):Yb Tryz.prog (70+k) [.agg (JN t).toArray,.agg #[.int .i64 s,.int .i64 f]] I [] (FrQ (orK (onF ps) rows es rd l s f k)):=by
 match k,hk with
 | 0,_=>exact ztE hT s f
 | 1,_=>exact zwe hT s f
 | 2,_=>obtain ⟨q,rfl,h1,h2⟩:=hrg (hall 1 (by decide));exact zr6 hT q f h1 h2
 | 3,_=>obtain ⟨q,rfl,h1,h2⟩:=hrg (hall 1 (by decide));exact zu2 hT q f
 | 4,_=>obtain ⟨q,rfl,h1,h2⟩:=hrg (hall 1 (by decide));exact zn3 hT q f h1 h2
theorem zui {k:Nat}(hk:k<5):Fun Tryz.prog (70+k):=by
 match k,hk with
 | 0,_=>exact zuT
 | 1,_=>exact ztM
 | 2,_=>exact zvb
 | 3,_=>exact ztg
 | 4,_=>exact ztY
theorem zts {I:Qu}{t:Tx}{rows:List (List Int)}{es:List Em}{rd:List Int}{ps l:List Pt}{sg:List Sg}(hT:zgf I t rows es rd ps l sg)(s f:Int)(hrg:(or2 l s).2=false→∃ q:Nat,s=q∧q<rd.length∧∀ r∈rows,q<r.length):Yb Tryz.prog 39 [.agg (JN t).toArray,.agg #[.int .i64 s,.int .i64 f]] I [] (OgQ (zj6 (onF ps) rows es rd l s f)):=by
 intro g H w hw
 refine qe Tryz.func39 Tryz.ntmps39 hw ?_
 have hIc:=zxQ I
 refine zR ?_
 refine Q5 rfl rfl rfl (fun b_2=>?_)
 refine Q5 rfl rfl rfl (fun b_3=>?_)
 refine Qs WT rfl rfl (fun b_4=>?_)
 refine zN (Ql (zR ?_))
 refine zV (Qp rfl Je (fun hg=>by exact Cells.g2) rfl) ?_
 refine zV (Zc (us:=[_]) (vs:=[]) rfl rfl) ?_
 refine zV (Qp rfl Je (fun hg=>by exact Cells.g2) rfl) ?_
 refine zV (Zc (us:=[_]) (vs:=[]) rfl rfl) ?_
 refine zV (Qp rfl Je (fun hg=>by exact Cells.g2) rfl) ?_
 refine zV (Zc (us:=[_]) (vs:=[]) rfl rfl) ?_
 refine zV (Qp rfl Je (fun hg=>by exact Cells.g2) rfl) ?_
 refine zV (Zc (us:=[_]) (vs:=[]) rfl rfl) ?_
 refine zV (Qp rfl Je (fun hg=>by exact Cells.g2) rfl) ?_
 refine zV (Zc (us:=[_]) (vs:=[]) rfl rfl) ?_
 refine Qq (ps:=[(0,_),(1,_),(2,_),(3,_),(4,_)]) (m:=[zdj 70 t 0,zdj 70 t 1,zdj 70 t 2,zdj 70 t 3,zdj 70 t 4]) zpI rfl (.cons rfl (.cons rfl (.cons rfl (.cons rfl (.cons rfl (.nil)))))) rfl (by simp [zdj]) (by decide) (by decide) rfl rfl (fun b_19=>?_)
 refine zQ zii ?_
 refine zM (Qb ?_)
 refine Zg (b:=b_19) (by repeat (first | exact Q7.here | apply Q7.there)) (fun I1 hI1 hb1=>?_)
 have hT:=hT.mono hI1;have hIc:=hIc.trans hI1
 have h9:=hb1
 have hFn:=Sl.lit (enc:=zdj 70 t) (size:=1) (t:=145) [0,1,2,3,4] rfl (fun _=>rfl) h9
 refine Qa (Qm ?_)
 refine zU [(3,_),(4,_),(19,_),(20,_)] (fun T L0 mz E I' loc'=>∃ (k:Nat),mz=5-k∧E=(21,.int .i64 k)::T∧HLe I1 I'∧L0=loc'∧k≤5∧∀ j,j<k→(orK (onF ps) rows es rd l s f j).2=false) ?_ (h:=⟨0,rfl,rfl,zxQ _,rfl,Nat.zero_le _,fun j h=>absurd h (by omega)⟩)
 rintro mz E J2 loc' ⟨k,rfl,rfl,hJ,rfl,hk,hall⟩
 have hT:=hT.mono hJ;have hFn:=hFn.mono hJ;have hIc:=hIc.trans hJ
 have hB0:=hJ
 refine zR (zC (zN (Ql ?_)))
 refine zI ?_ ?_<;>intro hc22
 ·
  have hlt_k:k<5:=by have h:=hc22;simp at h;omega
  have hj:([0,1,2,3,4]:List Nat)[k]? =some k:=zxx hlt_k
  refine Qo (Qa (Ql (Qm (zR ?_))))
  refine zV (zX zii hFn (hb:=fun hg=>by simp only [List.length_cons,List.length_nil];omega)) ?_
  refine zV (Qd rfl zox (fun hg=>by exact zxJ hFn hj rfl)) ?_
  refine zA ?_
  refine zN (zR ?_)
  refine zM ?_
  refine zV (Qp rfl zdW (fun hg=>by exact Cells.g1) rfl) ?_
  refine zjn (pre:=[_]) (cap:=[]) (vs:=[_]) rfl rfl (zui hlt_k) .nil (ztD hT s f hrg hlt_k hall) rfl rfl ?_
  rintro vv3 I3 L3 hI3 ⟨rfl,_,rfl,a1,n1,c1,a2,n2,c2,rfl,hw1,hw2⟩
  have hIc:=hIc.trans hI3;have hB0:=hB0.trans hI3
  refine zM ?_
  refine zE ?_
  refine zE ?_
  refine Qs WT rfl rfl (fun b_7=>?_)
  refine zh VM ?_
  refine zA ?_
  refine zN (zR ?_)
  refine zM (zN ?_)
  refine zI ?_ ?_<;>intro hc31
  ·
   refine zR ?_
   refine zV (Qp rfl YV (fun hg=>by exact Cells.g0) rfl) ?_
   refine zh VM ?_
   refine zN (Qt (Qn (Qc (Qc (Qn (Qc ?_))))))
   exact KB rfl rfl YV (vs:=[.int .i64 _,.int .i64 _,.slice a1 n1 c1,.slice a2 n2 c2]) (by repeat (first | exact zxO | apply zxN | apply zxP)) rfl (fun w hw=>⟨_,I3,[],rfl,hIc,hw.drop,rfl,_,_,_,_,_,_,by rw [←zgJ hlt_k hall hc31],by rw [←zgJ hlt_k hall hc31];exact hw1,by rw [←zgJ hlt_k hall hc31];exact hw2⟩)
  refine Qo (Qh (Qa (Qg (zB ?_))))
  refine zM (Qb ?_)
  exact zm (h:=⟨5-(k+1),by omega,k+1,rfl,rfl,hB0,rfl,by omega,fun j hj=>by rcases Nat.lt_succ_iff_lt_or_eq.1 hj with h | h;exact hall j h;rw [h];exact hc31⟩)
 exact absurd (hall 4 (by have h:=hc22;simp at h;omega)) (by simp [orK,or5])
end
section
open Go Go.Kn Go.Proofs
def zdd (e1:Int)(ps:List Pt)(bs:List Sg)(vs:List Int):Int:=if e1≠0 then e1 else zeh ps bs vs
theorem zmO {e1:Int}{ps:List Pt}{bs:List Sg}{vs:List Int}(h:e1≠0):zdd e1 ps bs vs=e1:=if_pos h
theorem zhS {e1:Int}{ps:List Pt}{bs:List Sg}{vs:List Int}(h:e1=0):zdd e1 ps bs vs=zeh ps bs vs:=if_neg (by omega)
theorem zhp {ps:List Pt}{bs:List Sg}{vs:List Int}(h:zeh ps bs vs=0):Sto ps∧ps.length≤512∧(∀ p∈ps,p.needs.length≤32)∧Wm bs=0∧vs.length≤512∧Ver ps vs∧zgj bs (YM ps vs)=true∧zfA ps bs vs=zcm (onF ps) bs (YM ps vs)∧(zcm (onF ps) bs (YM ps vs)).length≤4096:=by
 have hs:=h
 unfold zeh at h
 split at h
 ·
  exact absurd h (by assumption)
 ·
  split at h
  ·
   cases h
  ·
   rename_i hp hl
   have hp:X3 ps bs vs=0:=by simpa using hp
   unfold X3 at hp
   split at hp
   ·
    exact absurd hp (by assumption)
   ·
    rename_i hc
    have hc:KX ps=0:=by simpa using hc
    split at hp
    ·
     exact absurd hp (by assumption)
    ·
     rename_i hg
     split at hp
     ·
      cases hp
     ·
      rename_i hv
      split at hp
      ·
       rename_i hb
       rw [Bool.and_eq_true] at hb
       have hk:=Uk hc
       refine ⟨zaV hc,hk.1,fun p hm=>?_,by simpa using hg,by omega,(zep (za8 hc)).1 hb.1,hb.2,?_,by omega⟩
       ·
        have h0:JK p=0:=JR.1 hk.2.1 _ (List.mem_map.2 ⟨p,hm,rfl⟩)
        unfold JK at h0
        split at h0
        ·
         cases h0
        ·
         omega
       ·
        unfold zfA zln;rw [if_neg (by rw [hs];simp)]
      ·
       cases hp
def OpQ (e:Int)(rows:List (List Int))(es:List Em)(rd:List Int)(ps l:List Pt)(s:List Sg)(v:Value)(I:Qu)(L:Go.Kn.Loc):Prop:=
 L=[]∧∃ vs,v= .tuple #[.agg vs.toArray,.int .i64 e]∧vs.length=8∧Yr vs=true∧(e=0→∃ t,vs=JN t∧zgf I t rows es rd ps l s)
theorem zeb {α β:Type}[DecidableEq α]{m:List (α×β)}{a:α}{b:β}:Zs (Yp m a b) a=some b:=by rw [Yx,if_pos rfl]
theorem zma {α β:Type}[DecidableEq α]{m:List (α×β)}{a a':α}{b:β}(h:a≠a'):Zs (Yp m a b) a'=Zs m a':=by rw [Yx,if_neg h]
theorem zfy {ws:List Wr}{rows:List (List Int)}{rd:List Int}:∀ {k:Nat} {l:List Sg},Wv ws rows rd k=some l→l.length≤k
 | 0,l,h=>by cases h;exact Nat.le_refl _
 | k+1,l,h=>by
  unfold Wv at h
  cases h1:Wv ws rows rd k with
  | none=>rw [h1] at h;cases h
  | some l1=>
   rw [h1] at h
   have h2:=zfy h1
   dsimp only at h
   split at h
   ·
    cases h
   ·
    cases h;omega
   ·
    cases h;rw [List.length_append,List.length_singleton];omega
theorem zmj {ws:List Wr}{rows:List (List Int)}{no:Int}{cl:List Int}{es:List Em}{rd:List Int}:(V4 ws rows no cl es rd).length≤rd.length:=by
 by_cases h:Kw ws rows no cl es rd=0
 ·
  unfold V4
  rw [if_neg (by omega)]
  cases h1:Wv ws rows rd rd.length with
  | none=>exact Nat.zero_le _
  | some l=>exact zfy h1
 ·
  rw [zhz h];exact Nat.zero_le _
theorem zgv {vs:List Int}{a:Int}:vs.any (fun y=>a==y)=vs.any (· ==a):=by congr 1;funext y;rw [Bool.eq_iff_iff,beq_iff_eq,beq_iff_eq];exact eq_comm
theorem zoT {ps:List Pt}(hL:Lst ps){k:Nat}{p:Pt}(hp:ps[k]? =some p){n:Int}(hn:n∈p.needs):p.id≠n:=by
 have h1:=hL.on_lt (hL.on_need (List.mem_of_getElem? hp) hn)
 omega
end
section
open Go Go.Kn Go.Proofs
theorem zbe:QX Tryz.prog 98 4 7:=.of (by kernel_rfl)
theorem zsY:Fun Tryz.prog 44:=.of Tryz.func44 (by kernel_rfl) (by kernel_rfl)
theorem zrR:Fun Tryz.prog 45:=.of Tryz.func45 (by kernel_rfl) (by kernel_rfl)
theorem zrJ:Fun Tryz.prog 68:=.of Tryz.func68 (by kernel_rfl) (by kernel_rfl)
theorem zuz:PlT Tryz.prog 98 #[(0,1),(1,4),(5,1),(6,1),(7,1)] (.agg #[(.slice none 0 0),(.int .i64 0),(.slice none 0 0),(.slice none 0 0),(.slice none 0 0),(.map none),(.slice none 0 0),(.slice none 0 0)]):=⟨.of (by kernel_rfl),by kernel_rfl,fun w=>by kernel_rfl⟩
theorem zar:SzT Tryz.prog 98 8:=.of (by kernel_rfl)
theorem zpu:Yi Tryz.prog 98 (.agg #[(.slice none 0 0),(.int .i64 0),(.slice none 0 0),(.slice none 0 0),(.slice none 0 0),(.map none),(.slice none 0 0),(.slice none 0 0)]):=.of (by kernel_rfl)
theorem zoY {I:Qu}{ref r:Nat}{sn s0:List (Int×Bool)}{A B:Int→Bool}(hsn:I ref=some (ZM (Value.int .i64) Value.bool sn))(hsq:X0 sn A)(hs0:X0 s0 B):Yb Tryz.prog 68 [.map (some r),.map (some ref)] I [(r,ZM (Value.int .i64) Value.bool s0)] (fun v I' L=>v= .tuple #[]∧I'=I∧∃ s,L=[(r,ZM (Value.int .i64) Value.bool s)]∧X0 s (fun x=>A x||B x)):=by
 intro g H w hw
 refine qe Tryz.func68 Tryz.ntmps68 hw ?_
 refine zR (zM ?_)
 refine Jp (ek:=Value.int .i64) (ev:=Value.bool) (m:=sn) rfl zfe rfl rfl (.inl hsn) (fun b_7=>?_)
 refine zN (Qm ?_)
 refine zU [(0,_),(7,_)] (fun T L0 mz E I' loc'=>∃ (seen:List Nat) (s:List (Int×Bool)),mz=sn.length-seen.length∧E=T∧I=I'∧[(b_7,YL ref sn.length seen),(r,ZM (Value.int .i64) Value.bool s)]=loc'∧X0 s (fun x=>zl6 sn seen x||B x)∧seen.Nodup∧∀ i∈seen,i<sn.length) ?_ (h:=⟨[],_,rfl,rfl,rfl,rfl,hs0.congr (fun x=>by rw [zbh,Bool.false_or]),.nil,fun i h=>by cases h⟩)
 rintro mz E I' loc' ⟨seen,s,rfl,rfl,rfl,rfl,hs,hnd2,hlt⟩
 have hsl:=Jb hnd2 hlt
 refine zR ?_
 refine Jt (ek:=Value.int .i64) (ev:=Value.bool) (m:=sn) (fun s'=>[(b_7,YL ref sn.length s'),(r,ZM (Value.int .i64) Value.bool s)]) rfl (fun s'=>.here) rfl rfl rfl rfl rfl (.inl hsn) (by simp) ?_
 intro t tv s' hno hyes
 refine zN (Ql ?_)
 refine zI ?_ ?_<;>intro hc9
 ·
  obtain ⟨i,q,hq,hns,rfl⟩:=hyes hc9
  refine Qo (Qa (Qm (zR ?_)))
  refine zV (Jv (ek:=Value.int .i64) (ev:=Value.bool) (m:=sn) (p:=q) (seen:=seen) (i:=i) rfl (.inl hsn) (.inr (by simp)) hq) ?_
  refine zE ?_
  refine zE ?_
  refine zA ?_
  refine zA (zN (Qg ?_))
  refine zM ?_
  refine zM ?_
  refine zM ?_
  refine Q6 (m:=s) (ek:=Value.int .i64) (ev:=Value.bool) (a:=q.1) q.2 zfe ZD rfl rfl rfl rfl (by repeat (first | exact Upd.here | apply Upd.there | apply QJ)) ?_
  refine Qb (Qh ?_)
  have hnd3:(seen++[i]).Nodup:=List.nodup_append.2 ⟨hnd2,by simp,fun a ha b hb e=>hns (by simp at hb;subst hb;subst e;exact ha)⟩
  have hlt3:∀ j∈seen++[i],j<sn.length:=fun j hj=>(List.mem_append.1 hj).elim (hlt j) (fun h=>by simp at h;subst h;exact (List.getElem?_eq_some_iff.1 hq).1)
  have hsl2:=Jb hnd3 hlt3
  rw [List.length_append,List.length_singleton] at hsl2
  exact zm (h:=⟨sn.length-(seen++[i]).length,by rw [List.length_append,List.length_singleton];omega,seen++[i],Yp s q.1 q.2,rfl,rfl,rfl,rfl,by rw [hsq.all q (List.mem_of_getElem? hq)];exact (hs.put q.1).congr (fun x=>by rw [Xn hq,Bool.or_assoc]),hnd3,hlt3⟩)
 obtain ⟨rfl,hall⟩:=hno hc9
 refine QI (Qf (Qf (Qk ?_)))
 exact Vm (YK rfl (fun w hw=>⟨_,I,_,rfl,zxQ _,hw.subL (.drop .refl),rfl,rfl,s,rfl,hs.congr (fun x=>by rw [zaO hsq hall x])⟩))
theorem znR {I:Qu}{av:Option Addr}{n c:Nat}{ws:List Wr}(hW0:SlW I av n c ws)(hn:n≤100000){bv:Option Addr}{n2 c2:Nat}{rows:List (List Int)}(hVn:SlN I bv n2 c2 rows)(hn2:n2≤100000){ea1:Option Addr}{en1 ec1:Nat}{ea2:Option Addr}{en2 ec2:Nat}{ea3:Option Addr}{en3 ec3:Nat}{xs:List Int}{es:List Em}{rd:List Int}(hX1:Sl I 1 QQ ea1 en1 ec1 xs)(hX2:Sl I 3 Yu ea2 en2 ec2 es)(hX3:Sl I 1 QQ ea3 en3 ec3 rd)(hm1:en1≤100000)(hm2:en2≤100000)(hm3:en3≤100000)(no:Int){pv:Option Addr}{pn pc:Nat}{ps:List Pt}(hP:SlP I pv pn pc ps)(hpn:pn≤100000){dv:Option Addr}{n3 c3:Nat}{vs:List Int}(hVs:Sl I 1 QQ dv n3 c3 vs)(hn3:n3≤100000)(hDb:VJ I):Yb Tryz.prog 36 [.slice av n c,.slice bv n2 c2,.agg (ZZ no ea1 en1 ec1 ea2 en2 ec2 ea3 en3 ec3).toArray,.slice pv pn pc,.slice dv n3 c3] I [] (OpQ (zdd (Kw ws rows no xs es rd) ps (V4 ws rows no xs es rd) vs) rows es rd ps (YM ps vs) (zcm (onF ps) (V4 ws rows no xs es rd) (YM ps vs))):=by
 intro g H w hw
 refine qe Tryz.func36 Tryz.ntmps36 hw ?_
 have hIc:=zxQ I
 have hX3l:=hX3.len
 refine zR ?_
 refine Q5 rfl rfl rfl (fun b_7=>?_)
 refine Qs zpu rfl rfl (fun b_10=>?_)
 refine zA ?_
 refine zN (zR ?_)
 refine zM ?_
 refine zM ?_
 refine zV (Qp rfl Z6 (fun hg=>by exact Cells.g1) rfl) ?_
 refine Qz (cap:=[]) (vs:=[_,_,_]) rfl rfl zsY .nil (Go.Proofs.YtodakphagkommaaGreatDoor.w_Signs hW0 hn hVn hn2 hX1 hX2 hX3 hm1 hm2 hm3 no hDb (fun e=>e ▸ znk)) rfl rfl ?_
 rintro vv1 I1 L1 hI1 ⟨rfl,as9,cs9,rfl,hSg⟩
 have hVn:=hVn.mono hI1;have hX2:=hX2.mono hI1;have hX3:=hX3.mono hI1;have hP:=hP.mono hI1;have hVs:=hVs.mono hI1;have hIc:=hIc.trans hI1
 have hSg:Sl I1 14 Vc as9 (V4 ws rows no xs es rd).length cs9 (V4 ws rows no xs es rd):=hSg
 refine zM ?_
 refine zE ?_
 refine zE ?_
 refine zA ?_
 refine zA (zN (Ql (zR ?_)))
 refine zM ?_
 refine zC (zN ?_)
 refine zI ?_ ?_<;>intro hc25
 ·
  have he1:(Kw ws rows no xs es rd)≠0:=by simpa using hc25
  refine zR ?_
  refine zV (Qp rfl Je (fun hg=>by exact Cells.g0) rfl) ?_
  refine zM ?_
  refine zh zar ?_
  refine zA (zN (Qt (Qc ?_)))
  first
  | exact Zu rfl rfl rfl Je (vs:=[.slice none 0 0,.int .i64 0,.slice none 0 0,.slice none 0 0,.slice none 0 0,.map none,.slice none 0 0,.slice none 0 0]) (by repeat (first | exact zxO | apply zxN | apply zxP)) rfl (fun w hw=>⟨_,I1,[],rfl,hIc,hw.drop,rfl,[.slice none 0 0,.int .i64 0,.slice none 0 0,.slice none 0 0,.slice none 0 0,.map none,.slice none 0 0,.slice none 0 0],by rw [zmO he1]<;>rfl,rfl,rfl,fun h=>absurd (zmO he1 ▸ h) he1⟩)
 have he1:(Kw ws rows no xs es rd)=0:=by simpa using hc25
 refine Qo (Qa (zR (zM ?_)))
 refine zV (Qp rfl Z6 (fun hg=>by exact Cells.g1) rfl) ?_
 refine ZH rfl rfl (fun r_30=>?_)
 refine zV (QR (ps:=[(0,_),(1,_),(2,_)]) [_,_,_,_,_,_,_,_] zuz rfl rfl) ?_
 refine zh zar ?_
 refine zN (Ql (zR (zM ?_)))
 refine zM ?_
 refine zM ?_
 refine Qz (cap:=[]) (vs:=[_,_,_]) rfl rfl zrR .nil (w_Signs hP hpn hSg (by have:=zmj (ws:=ws) (rows:=rows) (no:=no) (cl:=xs) (es:=es) (rd:=rd);omega) hVs hn3) rfl rfl ?_
 rintro vv2 I2 L2 hI2 ⟨rfl,as8,cs8,rfl,hSs⟩
 have hVn:=hVn.mono hI2;have hX2:=hX2.mono hI2;have hX3:=hX3.mono hI2;have hP:=hP.mono hI2;have hVs:=hVs.mono hI2;have hIc:=hIc.trans hI2
 have hSs:Sl I2 14 Vc as8 (zfA ps (V4 ws rows no xs es rd) vs).length cs8 (zfA ps (V4 ws rows no xs es rd) vs):=hSs
 refine zM ?_
 refine zE ?_
 refine zE ?_
 refine zF zbe ?_
 refine zS zmE ?_
 refine zA ?_
 refine zN (zR ?_)
 refine zM ?_
 refine zC (zN ?_)
 refine zI ?_ ?_<;>intro hc41
 ·
  have he2:zeh ps (V4 ws rows no xs es rd) vs≠0:=by simpa using hc41
  have he3:(zdd (Kw ws rows no xs es rd) ps (V4 ws rows no xs es rd) vs)≠0:=by rw [zhS he1];exact he2
  refine zR ?_
  refine zV (Qp rfl Je (fun hg=>by exact Cells.g1) rfl) ?_
  refine zM ?_
  refine zh zar ?_
  refine zA (zN (Qt (Qc ?_)))
  first
  | exact Zu rfl rfl rfl Je (vs:=[.slice bv n2 c2,.int .i64 no,.slice ea1 en1 ec1,.slice ea2 en2 ec2,.slice ea3 en3 ec3,.map (some r_30),.slice none 0 0,.slice as8 (zfA ps (V4 ws rows no xs es rd) vs).length cs8]) (by repeat (first | exact zxO | apply zxN | apply zxP)) rfl (fun w hw=>⟨_,I2,[],rfl,hIc,hw.drop,rfl,[.slice bv n2 c2,.int .i64 no,.slice ea1 en1 ec1,.slice ea2 en2 ec2,.slice ea3 en3 ec3,.map (some r_30),.slice none 0 0,.slice as8 (zfA ps (V4 ws rows no xs es rd) vs).length cs8],by rw [zhS he1]<;>rfl,rfl,rfl,fun h=>absurd h he3⟩)
 have he2:zeh ps (V4 ws rows no xs es rd) vs=0:=by simpa using hc41
 obtain ⟨hsto,hpl,hnd,hbg,hvl,hver,hfit,hsf,hsl⟩:=zhp he2
 have hL:=hsto.lst
 refine Qo (Qa (Ql (zR (zM ?_))))
 refine zQ ZC ?_
 refine zM (zN (Qm ?_))
 refine zU [(4,_),(10,_),(44,_),(45,_)] (fun T L0 mz E I' loc'=>∃ (k:Nat) (m:List (Int×Nat)) (v:Value) (q:Nat) (L:Go.Kn.Loc),mz=pn-k∧E=(46,.int .i64 k)::T∧HLe I2 I'∧L++[(r_30,ZM (Value.int .i64) zbY m),(b_10,.cells #[.slice bv n2 c2,.int .i64 no,.slice ea1 en1 ec1,.slice ea2 en2 ec2,.slice ea3 en3 ec3,.map (some r_30),v,.slice as8 (zfA ps (V4 ws rows no xs es rd) vs).length cs8] 98 (0,0)),(b_7,.cells (ZZ no ea1 en1 ec1 ea2 en2 ec2 ea3 en3 ec3).toArray 26 (0,0))]=loc'∧k≤pn∧OnL I' m (ps.take k)∧OwnS 57 19 v q (((ps.take k).filter (fun p=>vs.any (· ==p.id))).flatMap Yt) L∧q≤k) ?_ (h:=⟨0,[],_,0,[],rfl,rfl,zxQ _,rfl,Nat.zero_le _,OnL.nil,OwnS.nil,Nat.le_refl _⟩)
 rintro mz E J3 loc' ⟨k,m,v,q,L,rfl,rfl,hJ,rfl,hk,hm,hO,hq⟩
 have hVn:=hVn.mono hJ;have hX2:=hX2.mono hJ;have hX3:=hX3.mono hJ;have hP:=hP.mono hJ;have hVs:=hVs.mono hJ;have hSs:=hSs.mono hJ;have hIc:=hIc.trans hJ
 have hB0:=hJ
 obtain ⟨va6,vc6,rfl⟩:=zc4 hO
 refine zR (zC (zN (Ql ?_)))
 refine zI ?_ ?_<;>intro hc47
 ·
  have hlt_k:k<pn:=by have h:=hc47;simp at h;omega
  obtain ⟨p,hp,hN⟩:=hP.at hlt_k
  have hpm:=List.mem_of_getElem? hp
  have hN:Sl J3 1 QQ p.a p.n p.c p.needs:=hN
  have hpn2:=hnd p hpm
  have hNl:=hN.len
  refine Qo (Qa (Ql (Qm (zR ?_))))
  refine zV (QG rfl rfl ZC hP.1 (fun hg=>by omega)) ?_
  refine zV (Qp rfl Yw (fun hg=>by exact zxR hP.1 hp) rfl) ?_
  refine Qs Ui rfl rfl (fun b_14=>?_)
  refine zh V8 ?_
  refine zN (zR ?_)
  refine zF UL ?_
  refine zV (Qd rfl zcA (fun hg=>by (repeat (first | exact zxL rfl | apply zxK | apply zxM)))) ?_
  refine zF Zy ?_
  refine zL Qr ?_
  refine ZH rfl rfl (fun r_54=>?_)
  refine Q6 (m:=m) (ek:=Value.int .i64) (ev:=zbY) (a:=p.id) r_54 zcS ZD rfl rfl rfl rfl (by (repeat (first | exact Upd.here | apply Upd.there | apply QJ))) ?_
  refine zN (Ql (zR ?_))
  refine zF KP ?_
  refine zL QK ?_
  refine zQ Qw ?_
  refine zM (zN (Qm ?_))
  refine zU [(4,_),(10,_),(14,_),(44,_),(45,_),(46,_),(56,_),(57,_)] (fun T L0 mz E I' loc'=>∃ (j:Nat) (s:List (Int×Bool)),mz=p.n-j∧E=(58,.int .i64 j)::T∧J3=I'∧(r_54,ZM (Value.int .i64) Value.bool s)::(b_14,.cells (Yt p).toArray 57 (0,0))::(L++[(r_30,ZM (Value.int .i64) zbY (Yp m p.id r_54)),(b_10,.cells #[.slice bv n2 c2,.int .i64 no,.slice ea1 en1 ec1,.slice ea2 en2 ec2,.slice ea3 en3 ec3,.map (some r_30),.slice va6 q vc6,.slice as8 (zfA ps (V4 ws rows no xs es rd) vs).length cs8] 98 (0,0)),(b_7,.cells (ZZ no ea1 en1 ec1 ea2 en2 ec2 ea3 en3 ec3).toArray 26 (0,0))])=loc'∧j≤p.n∧X0 s (fun x=>(p.needs.take j).any fun n=>n==x||onF (ps.take k) n x)) ?_ (h:=⟨0,[],rfl,rfl,rfl,rfl,Nat.zero_le _,X0.nil⟩)
  rintro mz E I' loc' ⟨j,s,rfl,rfl,rfl,rfl,hj,hs⟩
  refine zR (zC (zN (Ql ?_)))
  refine zI ?_ ?_<;>intro hc59
  ·
   have hlt_j:j<p.n:=by have h:=hc59;simp at h;omega
   obtain ⟨y,hy⟩:=hN.at hlt_j
   obtain ⟨ref,hget,sn,hsn,hsq⟩:=hm.get (hL.before hp (List.mem_of_getElem? hy))
   have hpy:p.id≠y:=zoT hL hp (List.mem_of_getElem? hy)
   refine Qo (Qa (Ql (Qm (zR ?_))))
   refine zV (zX Qw hN) ?_
   refine zV (Qd rfl Qr (fun hg=>by exact zxJ hN hy rfl)) ?_
   refine zA ?_
   refine zN (zR ?_)
   refine zF UL ?_
   refine zV (Qd rfl zcA (fun hg=>by (repeat (first | exact zxL rfl | apply zxK | apply zxM)))) ?_
   refine zF Zy ?_
   refine zL Qr ?_
   refine zV (YC (m:=(Yp m p.id r_54)) (ek:=Value.int .i64) (ev:=zbY) (a:=p.id) zeb zcS ZD rfl rfl (fun _=>.inr (by simp))) ?_
   refine zM ?_
   refine Q6 (m:=s) (ek:=Value.int .i64) (ev:=Value.bool) (a:=y) true zfe ZD rfl rfl rfl rfl (by repeat (first | exact Upd.here | apply Upd.there | apply QJ)) ?_
   refine zN (Qg ?_)
   refine zF UL ?_
   refine zV (Qd rfl zcA (fun hg=>by (repeat (first | exact zxL rfl | apply zxK | apply zxM)))) ?_
   refine zF Zy ?_
   refine zL Qr ?_
   refine zV (YC (m:=(Yp m p.id r_54)) (ek:=Value.int .i64) (ev:=zbY) (a:=p.id) zeb zcS ZD rfl rfl (fun _=>.inr (by simp))) ?_
   refine zF UL ?_
   refine zV (Qd rfl zcA (fun hg=>by (repeat (first | exact zxL rfl | apply zxK | apply zxM)))) ?_
   refine zM ?_
   refine zV (YC (m:=(Yp m p.id r_54)) (ek:=Value.int .i64) (ev:=zbY) (a:=y) ((zma hpy).trans hget) zcS ZD rfl rfl (fun _=>.inr (by simp))) ?_
   refine Qz (cap:=[]) (vs:=[_,_]) rfl rfl zrJ (.cons .here .nil) (zoY hsn hsq (hs.put y)) rfl rfl ?_
   rintro vv5 I5 L5 hI5 ⟨rfl,rfl,s2,rfl,hs2⟩
   refine Qb (Qh (Qa (Qg (zB ?_))))
   refine zM (Qb ?_)
   exact zm (h:=⟨p.n-(j+1),by omega,j+1,_,rfl,rfl,rfl,rfl,by omega,hs2.congr (fun x=>by rw [Xb hy];rw [Bool.eq_iff_iff];simp;grind)⟩)
  have hge_j:p.n≤j:=by have h:=hc59;simp at h;omega
  refine QI (Qf (Qf (Qk (Qa (Ql ?_)))))
  refine Zg .here (fun I6 hI6 hb6=>?_)
  have hVs:=hVs.mono hI6;have hm:=hm.mono hI6;have hB0:=hB0.trans hI6
  have hbx:=hb6
  have hst6:OnL I6 (Yp m p.id r_54) (ps.take (k+1)):=OnL.step hL hp hm hbx (by rw [ZE hN.len hge_j] at hs;exact hs)
  refine Qg (zM ?_)
  refine zF Zy ?_
  refine zL Qr ?_
  refine qc (vs:=[_,_]) rfl zcQ (JC hVs hn3 _) ?_
  refine zN ?_
  refine zI ?_ ?_<;>intro hc82
  ·
   have hin:vs.any (· ==p.id)=true:=by rw [←zgv];exact hc82
   refine Qg ?_
   refine zF W8 ?_
   refine zV (Qd rfl zcI (fun hg=>by (repeat (first | exact zxL rfl | apply zxK | apply zxM)))) ?_
   refine zV (Qp rfl Yw (fun hg=>by exact Cells.g0) rfl) ?_
   refine Qq (ps:=[(0,_)]) (m:=[Yt p]) Us rfl (.cons rfl (.nil)) rfl (by simp [Q1]) (by decide) (by decide) rfl rfl (fun b_86=>?_)
   refine QW (v:=_) (ys:=[p].flatMap Yt) (L:=L) rfl rfl Us hO (by repeat (first | exact .cons .here .nil | exact QD | exact Qx | apply QC | apply QB)) ⟨rfl,fun _=>rfl,by repeat (first | exact zxO | apply zxN | apply zxP)⟩ (zk7 _) (by omega) rfl rfl ?_
   intro v9 L9 hO9 _;obtain ⟨va9,vc9,rfl⟩:=zc4 hO9;rw [←List.flatMap_append] at hO9
   refine zF W8 ?_
   refine ZB rfl rfl znh rfl rfl (by (repeat (first | exact Upd.here | apply Upd.there | apply QJ))) rfl ?_
   refine Qb (Qh (Qa (Qg (zB ?_))))
   refine zM (Qb ?_)
   first
   | exact zm (h:=⟨pn-(k+1),by omega,k+1,_,_,_,_,rfl,rfl,hB0,rfl,by omega,hst6,by rw [Wo hp hin];exact hO9,by omega⟩)
  have hin:vs.any (· ==p.id)=false:=by rw [←zgv];exact hc82
  refine Qo (Qh (Qa (Qg (zB ?_))))
  refine zM (Qb ?_)
  first
  | exact zm (h:=⟨pn-(k+1),by omega,k+1,_,_,_,_,rfl,rfl,hB0,rfl,by omega,hst6,by rw [zan hp hin];exact hO,by omega⟩)
 have hge_k:pn≤k:=by have h:=hc47;simp at h;omega
 rw [ZE hP.len hge_k] at hm hO
 refine QI (Qf (Qf (Qk (Qa (zR ?_)))))
 refine zV (Qp rfl Je (fun hg=>by (repeat (first | exact zxO | apply zxN | apply zxP))) rfl) ?_
 refine YQ rfl rfl zar rfl rfl rfl rfl (by (repeat (first | exact Upd.here | apply Upd.there | apply QJ))) ?_
 refine zA (zN (Qt ?_))
 first
 | exact Zu rfl rfl rfl Je (vs:=[.slice bv n2 c2,.int .i64 no,.slice ea1 en1 ec1,.slice ea2 en2 ec2,.slice ea3 en3 ec3,.map (some r_30),.slice va6 q vc6,.slice as8 (zfA ps (V4 ws rows no xs es rd) vs).length cs8]) (by repeat (first | exact zxO | apply zxN | apply zxP)) rfl (fun w hw=>by obtain ⟨I9,av9,c9,h1',h2',e9,h4'⟩:=OwnS.freeze (R:=[_,_,_]) hO Q1 (by decide) hw;cases e9;obtain ⟨I8,h81,h82,h83⟩:=h2'.freezeAll;exact ⟨_,I8,[],rfl,(hIc.trans h1').trans h81,h82,rfl,[.slice bv n2 c2,.int .i64 no,.slice ea1 en1 ec1,.slice ea2 en2 ec2,.slice ea3 en3 ec3,.map (some r_30),.slice va6 q vc6,.slice as8 (zfA ps (V4 ws rows no xs es rd) vs).length cs8],by rw [zhS he1,he2],rfl,rfl,fun _=>⟨⟨bv,n2,c2,no,ea1,en1,ec1,ea2,en2,ec2,ea3,en3,ec3,r_30,va6,q,vc6,as8,_,cs8⟩,rfl,⟨(hVn.mono h1').mono h81,(hX2.mono h1').mono h81,(hX3.mono h1').mono h81,⟨m,h83 r_30 _ (by simp),(hm.mono h1').mono h81⟩,⟨h4'.mono h81,fun z hz=>((hP.2 z (List.mem_filter.1 hz).1).mono h1').mono h81⟩,by rw [←hsf];exact (hSs.mono h1').mono h81,hn2,hm2,hm3,by show q≤100000;omega,by show (zfA ps (V4 ws rows no xs es rd) vs).length≤100000;rw [hsf];omega,fun z hz=>⟨z,(List.mem_filter.1 hz).1,rfl⟩⟩⟩⟩)
end
section
open Go Go.Kn Go.Proofs
section
variable {ws:List Wr} {rows:List (List Int)} {no:Int} {cl:List Int} {es:List Em} {rd:List Int}
theorem zsj (h:Kw ws rows no cl es rd=0):zac ws=0∧UD ws=rows∧U8 rows no cl es rd=0∧Wv ws rows rd rd.length=some (V4 ws rows no cl es rd):=by
 have h0:=h
 unfold Kw at h
 split at h
 ·
  exact absurd h (by assumption)
 ·
  split at h
  ·
   cases h
  ·
   split at h
   ·
    exact absurd h (by assumption)
   ·
    split at h
    ·
     cases h
    ·
     rename_i h1 h2 h3 h4
     refine ⟨by simpa using h1,by simpa using h2,by simpa using h3,?_⟩
     unfold V4
     rw [if_neg (by rw [h0];simp)]
     cases hs:Wv ws rows rd rd.length with
     | none=>rw [hs] at h4;simp at h4
     | some l=>rfl
theorem zdU:∀ {k:Nat} {l:List Sg},Wv ws rows rd k=some l→∀ x∈l,∃ q:Nat,q<k∧x.id=(q:Int)∧zbs ws rows q (rd.getD q 0)= .sg x
 | 0,l,h,x,hx=>by cases h;cases hx
 | k+1,l,h,x,hx=>by
  unfold Wv at h
  cases h1:Wv ws rows rd k with
  | none=>rw [h1] at h;cases h
  | some l1=>
   rw [h1] at h
   dsimp only at h
   split at h
   ·
    cases h
   ·
    cases h
    obtain ⟨q,a,b,c⟩:=zdU h1 x hx
    exact ⟨q,by omega,b,c⟩
   ·
    rename_i y ho
    cases h
    rcases List.mem_append.1 hx with hx | hx
    ·
     obtain ⟨q,a,b,c⟩:=zdU h1 x hx
     exact ⟨q,by omega,b,c⟩
    ·
     rw [List.mem_singleton] at hx
     subst hx
     refine ⟨k,by omega,?_,ho⟩
     unfold zbs at ho
     split at ho
     ·
      cases ho
     ·
      split at ho
      ·
       cases ho
      ·
       split at ho
       ·
        cases ho
       ·
        cases ho;rfl
theorem zuo (h:Kw ws rows no cl es rd=0){x:Sg}(hx:x∈V4 ws rows no cl es rd):∃ q:Nat,x.id=(q:Int)∧q<rd.length∧(∀ r∈rows,q<r.length)∧zbs ws rows q (rd.getD q 0)= .sg x:=by
 obtain ⟨h1,h2,h3,h4⟩:=zsj h
 obtain ⟨q,a,b,c⟩:=zdU h4 x hx
 have hr:=(zre h1 h2 h3).2.1
 exact ⟨q,b,a,fun r hm=>by rw [hr r hm];exact a,c⟩
end
theorem zlC {xs:List Sg}{k y:Sg}(h:y∈zfM xs k):y=k∨y∈xs:=by
 unfold zfM at h
 rcases List.mem_append.1 h with h | h
 ·
  exact .inr (List.takeWhile_sublist _ |>.subset h)
 ·
  rcases List.mem_cons.1 h with h | h
  ·
   exact .inl h
  ·
   exact .inr (List.dropWhile_sublist _ |>.subset h)
theorem zeO:∀ {l:List Pt} {base:List Sg} {y:Sg},y∈WE base l→y∈base∨∃ p∈l,p.kind=2∧p.nw=y
 | [],base,y,h=>.inl h
 | p::l,base,y,h=>by
  have h':y∈WE (if p.kind=2 then zfM base p.nw else base) l:=h
  rcases zeO h' with h1 | ⟨q,h1,h2,h3⟩
  ·
   split at h1
   ·
    rename_i hk
    rcases zlC h1 with h1 | h1
    ·
     exact .inr ⟨p,List.mem_cons_self ..,hk,h1.symm⟩
    ·
     exact .inl h1
   ·
    exact .inl h1
  ·
   exact .inr ⟨q,List.mem_cons_of_mem _ h1,h2,h3⟩
theorem zlH {on:Int→Int→Bool}{base:List Sg}{l:List Pt}{x:Sg}(h:x∈zcm on base l):∃ y,y∈WE base l∧x=zj8 on l y∧exB on l y.id=true:=by
 unfold zcm at h
 obtain ⟨y,h1,rfl⟩:=List.mem_map.1 h
 obtain ⟨h2,h3⟩:=List.mem_filter.1 h1
 exact ⟨y,h2,rfl,h3⟩
theorem zwf {l:List Pt}{s:Int}(h:(or2 l s).2=false):l.any (inP s)=false:=by
 unfold or2 at h
 cases hf:l.find? (inP s) with
 | none=>rw [List.find?_eq_none] at hf;rw [List.any_eq_false];exact hf
 | some p=>rw [hf] at h;cases h
theorem zl7 {on:Int→Int→Bool}{base:List Sg}{l:List Pt}(hs:Sto l){x:Sg}(h:x∈zcm on base l)(hn:(or2 l x.id).2=false):∃ y∈base,x=zj8 on l y∧exB on l y.id=true:=by
 obtain ⟨y,h1,h2,h3⟩:=zlH h
 rcases zeO h1 with h4 | ⟨p,hp,hk,hw⟩
 ·
  exact ⟨y,h4,h2,h3⟩
 ·
  have h5:=zwf hn
  rw [List.any_eq_false] at h5
  refine absurd ?_ (h5 p hp)
  unfold inP
  rw [h2,zm9,←hw,((hs.ok p hp).ins hk).1]
  simp [hk]
theorem zmt {ws:List Wr}{rows:List (List Int)}{no:Int}{cl:List Int}{es:List Em}{rd:List Int}{ps:List Pt}{vs:List Int}(h1:Kw ws rows no cl es rd=0)(h2:zeh ps (V4 ws rows no cl es rd) vs=0){x:Sg}(hx:x∈zcm (onF ps) (V4 ws rows no cl es rd) (YM ps vs))
  (hn:(or2 (YM ps vs) x.id).2=false):∃ q:Nat,x.id=q∧q<rd.length∧∀ r∈rows,q<r.length:=by
 obtain ⟨hsto,_,_,_,_,hver,_⟩:=zhp h2
 obtain ⟨y,hy,e,_⟩:=zl7 (ze5 hsto hver) hx hn
 obtain ⟨q,a,b,c,_⟩:=zuo h1 hy
 exact ⟨q,by rw [e,zm9,a],b,c⟩
theorem zji {e1:Int}{ps:List Pt}{bs:List Sg}{vs:List Int}(h:zdd e1 ps bs vs=0):e1=0∧zeh ps bs vs=0:=by
 unfold zdd at h
 split at h
 ·
  exact absurd h (by assumption)
 ·
  rename_i h1;exact ⟨by simpa using h1,h⟩
def orE (e0:Int)(s:List Sg)(sign f:Int):Int:=if e0≠0 then e0 else if (decide (f<1)||decide (f>9))|| !(s.any fun x=>x.id==sign) then 440 else 0
def orO (e:Int)(o:Og):Og:=if e≠0 then zOg else o
def OrQ (e:Int)(o:Og)(v:Value)(I:Qu)(L:Go.Kn.Loc):Prop:=L=[]∧∃ vs,v= .tuple #[.agg vs.toArray,.int .i64 e]∧OgV I o vs
theorem zwr {e0:Int}{s:List Sg}{sign f:Int}(h:e0≠0):orE e0 s sign f=e0:=if_pos h
theorem zwT {e0:Int}{s:List Sg}{sign f:Int}(h:e0=0)(h2:((decide (f<1)||decide (f>9))|| !(s.any fun x=>x.id==sign))=true):orE e0 s sign f=440:=by unfold orE;rw [if_neg (by omega),if_pos h2]
theorem zv7 {e0:Int}{s:List Sg}{sign f:Int}(h:e0=0)(h2:((decide (f<1)||decide (f>9))|| !(s.any fun x=>x.id==sign))=false):orE e0 s sign f=0:=by unfold orE;rw [if_neg (by omega),if_neg (by rw [h2];decide)]
theorem OrQ.bad {I:Qu}{e:Int}{o:Og}(he:e≠0):OrQ e (orO e o) (.tuple #[.agg #[.int .i64 0,.int .i64 0,.slice none 0 0,.slice none 0 0],.int .i64 e]) I []:=by
 unfold orO;rw [if_pos he]
 exact ⟨rfl,[.int .i64 0,.int .i64 0,.slice none 0 0,.slice none 0 0],rfl,none,0,0,none,0,0,rfl,.nil,.nil⟩
def tcJ (og:Int→Int→Og)(s:Int)(j:Nat):List (Int×Int):=(List.range j).flatMap fun (i:Nat)=>if (og s ((i:Int)+1)).k==3 then [(s,(i:Int)+1)] else []
def tcK (og:Int→Int→Og)(s:List Sg)(k:Nat):List (Int×Int):=(s.take k).flatMap fun x=>tcJ og x.id 9
theorem zoW {og:Int→Int→Og}{s:Int}{j:Nat}(h:((og s ((j:Int)+1)).k==3)=true):tcJ og s (j+1)=tcJ og s j++[(s,(j:Int)+1)]:=by
 unfold tcJ;rw [List.range_succ,List.flatMap_append];simp only [List.flatMap_cons,List.flatMap_nil,List.append_nil];rw [if_pos h]
theorem zrY {og:Int→Int→Og}{s:Int}{j:Nat}(h:((og s ((j:Int)+1)).k==3)=false):tcJ og s (j+1)=tcJ og s j:=by
 unfold tcJ;rw [List.range_succ,List.flatMap_append];simp only [List.flatMap_cons,List.flatMap_nil,List.append_nil];rw [if_neg (by rw [h];decide),List.append_nil]
theorem zkv {og:Int→Int→Og}{s:List Sg}{k:Nat}{x:Sg}(hx:s[k]? =some x):tcK og s (k+1)=tcK og s k++tcJ og x.id 9:=by
 unfold tcK;rw [List.take_add_one,hx,List.flatMap_append];simp
theorem zqz {og:Int→Int→Og}{s:List Sg}{k n:Nat}(hn:s.length=n)(hk:n≤k):tcK og s k=s.flatMap fun x=>tcJ og x.id 9:=by
 unfold tcK;rw [List.take_of_length_le (by omega)]
def tcF (e:Int)(og:Int→Int→Og)(s:List Sg):List (Int×Int):=if e≠0 then [] else s.flatMap fun x=>tcJ og x.id 9
def zxh (e:Int)(xs:List (Int×Int))(v:Value)(I:Qu)(L:Go.Kn.Loc):Prop:=L=[]∧∃ a c,v= .tuple #[.slice a xs.length c,.int .i64 e]∧Sl I 2 VN a xs.length c xs
theorem zvZ {s:List Sg}{sign f:Int}(h:((decide (f<1)||decide (f>9))|| !(s.any fun x=>x.id==sign))=false):∃ x∈s,x.id=sign:=by
 rw [Bool.or_eq_false_iff] at h
 have h2:=zhq h.2
 rw [List.any_eq_true] at h2
 obtain ⟨x,hx,he⟩:=h2
 exact ⟨x,hx,by simpa using he⟩
theorem zsg {C:Cx}{Q:Exit→Act→World→Prop}{E:Env}{I:Qu}{loc:Go.Kn.Loc}(loc':Go.Kn.Loc){c:Code}(hp:loc'.Perm loc)(h:X C Q c E I loc'):X C Q c E I loc:=fun a w ha hw=>h a w ha (hw.permL hp)
end
section
open Go Go.Kn Go.Proofs
theorem zmU:Fun Tryz.prog 36:=.of Tryz.func36 (by kernel_rfl) (by kernel_rfl)
theorem zs3:Fun Tryz.prog 37:=.of Tryz.func37 (by kernel_rfl) (by kernel_rfl)
theorem ztJ:Fun Tryz.prog 38:=.of Tryz.func38 (by kernel_rfl) (by kernel_rfl)
theorem zmW:Fun Tryz.prog 39:=.of Tryz.func39 (by kernel_rfl) (by kernel_rfl)
theorem zlF:ze7 Tryz.prog 38 0 0:=.of (by kernel_rfl)
theorem zxa {I:Qu}{b1:Nat}{sign:Int}(h1:I b1=some (.cells #[.int .i64 sign] 3 (0,0)))(x:Sg):Zx Tryz.prog 38 [JQ x,.pointer (some ⟨b1,0,none⟩)] I (.bool (x.id==sign)):=by
 intro g H w hw
 refine qe Tryz.func38 Tryz.ntmps38 hw ?_
 refine zR ?_
 refine Q5 rfl rfl rfl (fun b_2=>?_)
 refine zA ?_
 refine zN (zR ?_)
 refine zF Z3 ?_
 refine zL Qr ?_
 refine zV (Qd rfl Qr (fun hg=>by exact .imm h1 rfl)) ?_
 refine zC ?_
 refine zA (zN (Qt ?_))
 exact zr rfl rfl (by rfl)
theorem zlb {I:Qu}{av:Option Addr}{n c:Nat}{ws:List Wr}(hW0:SlW I av n c ws)(hn:n≤100000){bv:Option Addr}{n2 c2:Nat}{rows:List (List Int)}(hVn:SlN I bv n2 c2 rows)(hn2:n2≤100000){ea1:Option Addr}{en1 ec1:Nat}{ea2:Option Addr}{en2 ec2:Nat}{ea3:Option Addr}{en3 ec3:Nat}{xs:List Int}{es:List Em}{rd:List Int}(hX1:Sl I 1 QQ ea1 en1 ec1 xs)(hX2:Sl I 3 Yu ea2 en2 ec2 es)(hX3:Sl I 1 QQ ea3 en3 ec3 rd)(hm1:en1≤100000)(hm2:en2≤100000)(hm3:en3≤100000)(no:Int){pv:Option Addr}{pn pc:Nat}{ps:List Pt}(hP:SlP I pv pn pc ps)(hpn:pn≤100000){dv:Option Addr}{n3 c3:Nat}{vs:List Int}(hVs:Sl I 1 QQ dv n3 c3 vs)(hn3:n3≤100000)(hDb:VJ I)(sign fld:Int):Yb Tryz.prog 14 [.slice av n c,.slice bv n2 c2,.agg (ZZ no ea1 en1 ec1 ea2 en2 ec2 ea3 en3 ec3).toArray,.slice pv pn pc,.slice dv n3 c3,.int .i64 sign,.int .i64 fld] I [] (OrQ (orE (zdd (Kw ws rows no xs es rd) ps (V4 ws rows no xs es rd) vs) (zcm (onF ps) (V4 ws rows no xs es rd) (YM ps vs)) sign fld) (orO (orE (zdd (Kw ws rows no xs es rd) ps (V4 ws rows no xs es rd) vs) (zcm (onF ps) (V4 ws rows no xs es rd) (YM ps vs)) sign fld) (zj6 (onF ps) rows es rd (YM ps vs) sign fld))):=by
 intro g H w hw
 refine qe Tryz.func14 Tryz.ntmps14 hw ?_
 have hIc:=zxQ I
 refine zR ?_
 refine Q5 rfl rfl rfl (fun b_9=>?_)
 refine Q5 rfl rfl rfl (fun b_12=>?_)
 refine Qs WT rfl rfl (fun b_14=>?_)
 refine zA ?_
 refine zN (zR ?_)
 refine zM ?_
 refine zM ?_
 refine zV (Qp rfl Z6 (fun hg=>by exact Cells.g2) rfl) ?_
 refine zM ?_
 refine zM ?_
 refine Qz (cap:=[]) (vs:=[_,_,_,_,_]) rfl rfl zmU .nil (znR hW0 hn hVn hn2 hX1 hX2 hX3 hm1 hm2 hm3 no hP hpn hVs hn3 hDb) rfl rfl ?_
 rintro vv1 I1 L1 hI1 ⟨rfl,vx,rfl,hvl,hv1,hop⟩
 have hIc:=hIc.trans hI1
 refine zM ?_
 refine zE ?_
 refine zE ?_
 refine Qs zpu rfl rfl (fun b_16=>?_)
 refine YQ rfl rfl zar hvl rfl hv1 rfl (by repeat (first | exact Upd.here | apply Upd.there | apply QJ)) ?_
 refine zA (zN (Ql (zR ?_)))
 refine zM ?_
 refine zC (zN ?_)
 refine zI ?_ ?_<;>intro hc27
 ·
  have he0:(zdd (Kw ws rows no xs es rd) ps (V4 ws rows no xs es rd) vs)≠0:=by simpa using hc27
  refine zR ?_
  refine zV (Qp rfl YV (fun hg=>by exact Cells.g1) rfl) ?_
  refine zM ?_
  refine zh VM ?_
  refine zA (zN (Qt (Qc ?_)))
  first
  | exact Zu rfl rfl rfl YV (vs:=[.int .i64 0,.int .i64 0,.slice none 0 0,.slice none 0 0]) (by repeat (first | exact zxO | apply zxN | apply zxP)) rfl (fun w hw=>⟨_,I1,[],rfl,hIc,hw.drop,by rw [zwr he0];exact OrQ.bad he0⟩)
 have he0:(zdd (Kw ws rows no xs es rd) ps (V4 ws rows no xs es rd) vs)=0:=by simpa using hc27
 obtain ⟨t,rfl,hT⟩:=hop he0
 obtain ⟨hs1,hs2⟩:=zji he0
 refine Qo (Qa (Ql (Ql ?_)))
 refine Zg (b:=b_12) (by repeat (first | exact Q7.here | apply Q7.there)) (fun I2 hI2 hb2=>?_)
 have hT:=hT.mono hI2;have hIc:=hIc.trans hI2
 have h12:=hb2
 refine Qg (zM ?_)
 refine zC ?_
 refine zM ?_
 refine Q2 2 rfl rfl rfl ?_
 refine zJ (Qi rfl) ?_
 refine zJ (QH rfl rfl rfl) ?_
 refine Zz rfl rfl rfl rfl rfl ?_
 refine zM ?_
 refine Q2 6 rfl rfl rfl ?_
 refine zJ (Qe rfl zbe) ?_
 refine zJ (Qd rfl zb0 (fun hg=>by exact QS.h0 rfl)) ?_
 refine zJ (Zc (us:=[]) (vs:=[_]) rfl rfl) ?_
 refine qf (vs:=[_,_]) rfl zs3 (fun hg=>zw7 (cap:=[.pointer (some ⟨b_12,0,none⟩)]) hT.S hT.bs ztJ (fun x hx=>zxa h12 x)) ?_
 refine zJ (VF rfl) ?_
 refine Zz rfl rfl rfl rfl rfl ?_
 refine zN ?_
 refine zI ?_ ?_<;>intro hc42
 ·
  refine zR ?_
  refine zV (Qp rfl YV (fun hg=>by exact Cells.g1) rfl) ?_
  refine zh VM ?_
  refine zA (zN (Qt (Qc ?_)))
  first
  | exact Zu rfl rfl rfl YV (vs:=[.int .i64 0,.int .i64 0,.slice none 0 0,.slice none 0 0]) (by repeat (first | exact zxO | apply zxN | apply zxP)) rfl (fun w hw=>⟨_,I2,[],rfl,hIc,hw.drop,by rw [zwT he0 hc42];exact OrQ.bad (by decide)⟩)
 obtain ⟨x,hx,hxi⟩:∃ x∈(zcm (onF ps) (V4 ws rows no xs es rd) (YM ps vs)),x.id=sign:=zvZ hc42
 have hin:∃ x∈(zcm (onF ps) (V4 ws rows no xs es rd) (YM ps vs)),x.id=sign:=⟨x,hx,hxi⟩
 refine Qo (Qa (zR ?_))
 refine zV (Qp rfl Je (fun hg=>by exact Cells.g0) rfl) ?_
 refine zV (Qd rfl Qr (fun hg=>by exact .imm h12 rfl)) ?_
 refine zM ?_
 refine zV (Zw (ps:=[(0,_),(1,_)]) [_,_] VH ziv rfl rfl) ?_
 refine Qz (cap:=[]) (vs:=[_,_]) rfl rfl zmW .nil (zts hT sign fld (fun h=>by obtain ⟨x,hx,hxi⟩:=hin;have h9:=zmt hs1 hs2 hx (by rw [hxi];exact h);rw [hxi] at h9;exact h9)) rfl rfl ?_
 rintro vv3 I3 L3 hI3 ⟨rfl,a1,n1,c1,a2,n2,c2,rfl,hw1,hw2⟩
 have hIc:=hIc.trans hI3
 refine zh VM ?_
 refine zA (zN (Qt ?_))
 first
 | exact Zu rfl rfl rfl YV (vs:=[.int .i64 _,.int .i64 _,.slice a1 n1 c1,.slice a2 n2 c2]) (by repeat (first | exact zxO | apply zxN | apply zxP)) rfl (fun w hw=>⟨_,I3,[],rfl,hIc,hw.drop,by rw [zv7 he0 hc42];exact ⟨rfl,_,rfl,_,_,_,_,_,_,rfl,hw1,hw2⟩⟩)
theorem ziu {I:Qu}{av:Option Addr}{n c:Nat}{ws:List Wr}(hW0:SlW I av n c ws)(hn:n≤100000){bv:Option Addr}{n2 c2:Nat}{rows:List (List Int)}(hVn:SlN I bv n2 c2 rows)(hn2:n2≤100000){ea1:Option Addr}{en1 ec1:Nat}{ea2:Option Addr}{en2 ec2:Nat}{ea3:Option Addr}{en3 ec3:Nat}{xs:List Int}{es:List Em}{rd:List Int}(hX1:Sl I 1 QQ ea1 en1 ec1 xs)(hX2:Sl I 3 Yu ea2 en2 ec2 es)(hX3:Sl I 1 QQ ea3 en3 ec3 rd)(hm1:en1≤100000)(hm2:en2≤100000)(hm3:en3≤100000)(no:Int){pv:Option Addr}{pn pc:Nat}{ps:List Pt}(hP:SlP I pv pn pc ps)(hpn:pn≤100000){dv:Option Addr}{n3 c3:Nat}{vs:List Int}(hVs:Sl I 1 QQ dv n3 c3 vs)(hn3:n3≤100000)(hDb:VJ I):Yb Tryz.prog 16 [.slice av n c,.slice bv n2 c2,.agg (ZZ no ea1 en1 ec1 ea2 en2 ec2 ea3 en3 ec3).toArray,.slice pv pn pc,.slice dv n3 c3] I [] (zxh (zdd (Kw ws rows no xs es rd) ps (V4 ws rows no xs es rd) vs) (tcF (zdd (Kw ws rows no xs es rd) ps (V4 ws rows no xs es rd) vs) (fun s f=>zj6 (onF ps) rows es rd (YM ps vs) s f) (zcm (onF ps) (V4 ws rows no xs es rd) (YM ps vs)))):=by
 intro g H w hw
 refine qe Tryz.func16 Tryz.ntmps16 hw ?_
 have hIc:=zxQ I
 refine zR ?_
 refine Q5 rfl rfl rfl (fun b_7=>?_)
 refine zA ?_
 refine zA ?_
 refine zN (zR ?_)
 refine zM ?_
 refine zM ?_
 refine zV (Qp rfl Z6 (fun hg=>by exact Cells.g0) rfl) ?_
 refine zM ?_
 refine zM ?_
 refine Qz (cap:=[]) (vs:=[_,_,_,_,_]) rfl rfl zmU .nil (znR hW0 hn hVn hn2 hX1 hX2 hX3 hm1 hm2 hm3 no hP hpn hVs hn3 hDb) rfl rfl ?_
 rintro vv1 I1 L1 hI1 ⟨rfl,vx,rfl,hvl,hv1,hop⟩
 have hVn:=hVn.mono hI1;have hX1:=hX1.mono hI1;have hX2:=hX2.mono hI1;have hX3:=hX3.mono hI1;have hP:=hP.mono hI1;have hVs:=hVs.mono hI1;have hIc:=hIc.trans hI1
 refine zM ?_
 refine zE ?_
 refine zE ?_
 refine Qs zpu rfl rfl (fun b_12=>?_)
 refine YQ rfl rfl zar hvl rfl hv1 rfl (by repeat (first | exact Upd.here | apply Upd.there | apply QJ)) ?_
 refine zA (zN (Ql (zR ?_)))
 refine zM ?_
 refine zC (zN ?_)
 refine zI ?_ ?_<;>intro hc26
 ·
  have he0:(zdd (Kw ws rows no xs es rd) ps (V4 ws rows no xs es rd) vs)≠0:=by simpa using hc26
  refine zR (zM ?_)
  refine zA ?_
  refine zA (zN (Qt (Qc ?_)))
  first
  | exact ZF rfl rfl rfl (fun w hw=>⟨_,I1,[],rfl,hIc,hw.drop,by unfold tcF;rw [if_pos he0];exact ⟨rfl,none,0,rfl,.nil⟩⟩)
 have he0:(zdd (Kw ws rows no xs es rd) ps (V4 ws rows no xs es rd) vs)=0:=by simpa using hc26
 obtain ⟨t,rfl,hT⟩:=hop he0
 obtain ⟨hs1,hs2⟩:=zji he0
 have htn:=hT.bs
 refine Qo (Qa (Ql (zR ?_)))
 refine zF zbe ?_
 refine zL zb0 ?_
 refine zQ Vf ?_
 refine zM (zN (Qm ?_))
 refine zU [(12,_),(29,_),(30,_)] (fun T L0 mz E I' loc'=>∃ (k:Nat) (v:Value) (q:Nat) (L:Go.Kn.Loc),mz=t.sn-k∧E=(10,v)::(31,.int .i64 k)::T∧HLe I1 I'∧L++[(b_12,.cells (JN t).toArray 98 (0,0)),(b_7,.cells (ZZ no ea1 en1 ec1 ea2 en2 ec2 ea3 en3 ec3).toArray 26 (0,0))]=loc'∧k≤t.sn∧OwnS 79 2 v q ((tcK (fun s f=>zj6 (onF ps) rows es rd (YM ps vs) s f) (zcm (onF ps) (V4 ws rows no xs es rd) (YM ps vs)) k).flatMap VN) L∧q≤k*9) ?_ (h:=⟨0,_,0,[],rfl,rfl,zxQ _,rfl,Nat.zero_le _,OwnS.nil,Nat.zero_le _⟩)
 rintro mz E J2 loc' ⟨k,v,q,L,rfl,rfl,hJ,rfl,hk,hO,hq⟩
 have hVn:=hVn.mono hJ;have hX1:=hX1.mono hJ;have hX2:=hX2.mono hJ;have hX3:=hX3.mono hJ;have hP:=hP.mono hJ;have hVs:=hVs.mono hJ;have hT:=hT.mono hJ;have hIc:=hIc.trans hJ
 have hB0:=hJ
 refine zR (zC (zN (Ql ?_)))
 refine zI ?_ ?_<;>intro hc32
 ·
  have hlt_k:k<t.sn:=by have h:=hc32;simp at h;omega
  obtain ⟨x,hx⟩:=hT.S.at hlt_k
  refine Qo (Qa (Ql (Qm (zR ?_))))
  refine zV (QG rfl rfl Vf hT.S (fun hg=>by omega)) ?_
  refine zV (Qp rfl ZL (fun hg=>by exact zxR hT.S hx) rfl) ?_
  refine Qs XV rfl rfl (fun b_14=>?_)
  refine zh VK ?_
  refine zN (Ql ?_)
  refine zsg (L++[(b_14,.cells (Vc x).toArray 54 (0,0)),(b_12,.cells (JN t).toArray 98 (0,0)),(b_7,.cells (ZZ no ea1 en1 ec1 ea2 en2 ec2 ea3 en3 ec3).toArray 26 (0,0))]) List.perm_middle ?_
  refine Qg (zA (zN (Qm ?_)))
  refine zU [(12,_),(14,_),(29,_),(30,_),(31,_)] (fun T L0 mz E I' loc'=>∃ (j:Nat) (v:Value) (q:Nat) (L:Go.Kn.Loc),mz=9-j∧E=(10,v)::(15,.int .i64 ((j:Int)+1))::T∧HLe J2 I'∧L++[(b_14,.cells (Vc x).toArray 54 (0,0)),(b_12,.cells (JN t).toArray 98 (0,0)),(b_7,.cells (ZZ no ea1 en1 ec1 ea2 en2 ec2 ea3 en3 ec3).toArray 26 (0,0))]=loc'∧j≤9∧OwnS 79 2 v q ((tcK (fun s f=>zj6 (onF ps) rows es rd (YM ps vs) s f) (zcm (onF ps) (V4 ws rows no xs es rd) (YM ps vs)) k++tcJ (fun s f=>zj6 (onF ps) rows es rd (YM ps vs) s f) x.id j).flatMap VN) L∧q≤k*9+j) ?_ (h:=⟨0,v,q,L,rfl,rfl,zxQ _,rfl,Nat.zero_le _,by rw [show tcJ (fun s f=>zj6 (onF ps) rows es rd (YM ps vs) s f) x.id 0=[] from rfl,List.append_nil];exact hO,by omega⟩)
  rintro mz E J3 loc' ⟨j,v,q,L,rfl,rfl,hJ,rfl,hj,hO,hq⟩
  have hT:=hT.mono hJ;have hB0:=hB0.trans hJ
  have hB2:=hJ
  refine Ql (zR (zM ?_))
  refine zC (zN ?_)
  refine zI ?_ ?_<;>intro hc36
  ·
   have hlt_j:j<9:=by have h:=hc36;simp only [decide_eq_true_eq] at h;omega
   refine Qo (Qa (Ql (Qm (zR ?_))))
   refine zV (Qp rfl Je (fun hg=>by (repeat (first | exact zxO | apply zxN | apply zxP))) rfl) ?_
   refine zF Z3 ?_
   refine zV (Qd rfl Qr (fun hg=>by (repeat (first | exact zxL rfl | apply zxK | apply zxM)))) ?_
   refine zM ?_
   refine zV (Zw (ps:=[(0,_),(1,_)]) [_,_] VH ziv rfl rfl) ?_
   refine Qz (cap:=[]) (vs:=[_,_]) rfl rfl zmW .nil (zts hT x.id ((j:Int)+1) (zmt hs1 hs2 (List.mem_of_getElem? hx))) rfl rfl ?_
   rintro vv4 I4 L4 hI4 ⟨rfl,a1,n1,c1,a2,n2,c2,rfl,hw1,hw2⟩
   have hB2:=hB2.trans hI4
   refine zV (zkk rfl zlF rfl) ?_
   refine zC (zN ?_)
   refine zI ?_ ?_<;>intro hc46
   ·
    refine Qg (zM ?_)
    refine zF Z3 ?_
    refine zV (Qd rfl Qr (fun hg=>by (repeat (first | exact zxL rfl | apply zxK | apply zxM)))) ?_
    refine zM ?_
    refine zV (Zw (ps:=[(0,_),(1,_)]) [_,_] YP Ku rfl rfl) ?_
    refine Qq (ps:=[(0,_)]) (m:=[VN (x.id,(j:Int)+1)]) JH rfl (.cons rfl (.nil)) rfl (by simp [VN]) (by decide) (by decide) rfl rfl (fun b_52=>?_)
    refine QW (v:=_) (ys:=[(x.id,(j:Int)+1)].flatMap VN) (L:=L) rfl rfl JH hO (by repeat (first | exact .cons .here .nil | exact QD | exact Qx | apply QC | apply QB)) ⟨rfl,fun _=>rfl,by repeat (first | exact zxO | apply zxN | apply zxP)⟩ (zf4 [(x.id,(j:Int)+1)]) (by omega) rfl rfl ?_
    intro v9 L9 hO9 _;rw [←List.flatMap_append] at hO9
    refine zA (Qb (Qh (Qa (Qg ?_))))
    refine zM ?_
    refine zB ?_
    refine zA (Qb ?_)
    first
    | exact zm (h:=⟨9-(j+1),by omega,j+1,_,_,_,rfl,rfl,hB2,rfl,by omega,by rw [zoW hc46,←List.append_assoc];exact hO9,by omega⟩)
   refine Qo (Qh (Qa (Qg (zM ?_))))
   refine zB ?_
   refine zA (Qb ?_)
   first
   | exact zm (h:=⟨9-(j+1),by omega,j+1,_,_,_,rfl,rfl,hB2,rfl,by omega,by rw [zrY hc46];exact hO,by omega⟩)
  have hge_j:9≤j:=by have h:=hc36;simp only [decide_eq_false_iff_not] at h;omega
  refine QI (Qf (Qf (Qk (Qh (Qa (Qg (zB ?_)))))))
  refine zM (Qb ?_)
  exact zm (h:=⟨t.sn-(k+1),by omega,k+1,_,_,_,rfl,rfl,hB0,rfl,by omega,by rw [zkv hx];rw [show j=9 by omega] at hO;exact hO,by omega⟩)
 have hge_k:t.sn≤k:=by have h:=hc32;simp at h;omega
 rw [zqz hT.S.len hge_k] at hO
 refine QI (Qf (Qf (Qk (Qa (zR (zM ?_))))))
 refine zA ?_
 refine zA (zN (Qt ?_))
 first
 | exact ZF rfl rfl rfl (fun w hw=>by obtain ⟨I9,h91,h92,a,c,e9,h94⟩:=OwnS.freeze' hO (fun _=>rfl) (by decide) (hw.subL (by exact Zi));exact ⟨_,I9,[],rfl,hIc.trans h91,h92,by rw [he0];unfold tcF;rw [if_neg (by simp)];have hq9:=h94.len;subst hq9;exact ⟨rfl,a,c,by rw [e9],h94⟩⟩)
end
end Go.Proofs.YtodakphagkommaaGreatDoor.R
namespace Go.Proofs.YtodakphagkommaaGreatDoor
section
open Go Go.Kn Go.Proofs
abbrev Tri:=Value×Nat×List Value
structure zf5 (rows:List (List Int))(k:Nat)(m:List (Int×Tri))(i:Nat):Prop where
 val:∀ c,((Zs m c).getD V3).2.2=(Jl (rows.take i) k c).flatMap QQ
 nd:(m.map (·.1)).Nodup
 key:∀ c,c∈m.map (·.1)↔ ∃ r∈rows.take i,r.getD k 0=c
 len:(m.map (·.1)).length≤i
theorem zf5.start {rows:List (List Int)}{k:Nat}:zf5 rows k [] 0:=⟨fun c=>by rw [List.take_zero];rfl,.nil,(fun c=>by simp),Nat.le_refl _⟩
theorem zf5.put {rows:List (List Int)}{k i n:Nat}{m:List (Int×Tri)}(h:zf5 rows k m i){r:List Int}(hr:rows[i]? =some r){v:Value}:zf5 rows k (Yp m (r.getD k 0) (v,n,((Zs m (r.getD k 0)).getD V3).2.2++[(i:Int)].flatMap QQ)) (i+1) where
 val:=fun c=>by
  rw [Yx]
  by_cases e:r.getD k 0=c
  ·
   rw [if_pos e,show Jl (rows.take (i+1)) k c=Jl (rows.take i) k c++[(i:Int)] from zi5 hr (by simpa using e),List.flatMap_append,←h.val c]
   subst e;rfl
  ·
   rw [if_neg e,show Jl (rows.take (i+1)) k c=Jl (rows.take i) k c from zo7 hr (by simpa using e)];exact h.val c
 nd:=Wi _ _ h.nd
 key:=fun c=>by
  rw [KE,List.take_add_one,hr]
  split
  ·
   rename_i hin
   rw [h.key c]
   constructor
   ·
    rintro ⟨r',h1,h2⟩;exact ⟨r',List.mem_append_left _ h1,h2⟩
   ·
    rintro ⟨r',h1,h2⟩
    rcases List.mem_append.1 h1 with h1 | h1
    ·
     exact ⟨r',h1,h2⟩
    ·
     simp at h1;subst h1;subst h2;exact (h.key _).1 hin
  ·
   rw [List.mem_append,h.key c]
   constructor
   ·
    rintro (⟨r',h1,h2⟩ | h1)
    ·
     exact ⟨r',List.mem_append_left _ h1,h2⟩
    ·
     rw [List.mem_singleton] at h1;exact ⟨r,List.mem_append_right _ (by simp),h1.symm⟩
   ·
    rintro ⟨r',h1,h2⟩
    rcases List.mem_append.1 h1 with h1 | h1
    ·
     exact .inl ⟨r',h1,h2⟩
    ·
     simp at h1;subst h1;exact .inr (by rw [List.mem_singleton];exact h2.symm)
 len:=by
  have:=h.len
  rw [KE]
  split
  ·
   omega
  ·
   rw [List.length_append,List.length_singleton];omega
theorem zdF {rows:List (List Int)}{k:Nat}{c:Int}:(Jl rows k c).length≤rows.length:=by
 unfold Jl ixF;rw [List.length_map];exact Nat.le_trans (List.length_filter_le ..) (by rw [List.length_zipIdx];exact Nat.le_refl _)
theorem zf5.le {e:Nat}{rows:List (List Int)}{k i:Nat}{m:List (Int×Tri)}(h:zf5 rows k m i){c:Int}{L:Go.Kn.Loc}(hO:OwnS e 1 ((Zs m c).getD V3).1 ((Zs m c).getD V3).2.1 ((Zs m c).getD V3).2.2 L):((Zs m c).getD V3).2.1≤i:=by
 have h1:=hO.1
 rw [h.val c,ZR Qv] at h1
 have h2:=zdF (rows:=rows.take i) (k:=k) (c:=c)
 rw [List.length_take] at h2
 omega
theorem zf5.sl {I:Qu}{e:Nat}{rows:List (List Int)}{k:Nat}{m:List (Int×Tri)}{L:Go.Kn.Loc}(h:zf5 rows k m rows.length)(hA:Vj e 1 (m.map (·.2)) L)(hI:∀ b o,(b,o)∈L→I b=some o)(c:Int):
  ∃ av cc,((Zs m c).getD V3).1= .slice av (Jl rows k c).length cc∧Sl I 1 QQ av (Jl rows k c).length cc (Jl rows k c):=by
 obtain ⟨A,Lt,B,rfl,hO,_⟩:=hA.at c
 rw [h.val c,List.take_length] at hO
 obtain ⟨av,cc,e1,e2⟩:=hO.sl Qv (by decide) (fun b o hb=>hI b o (by simp [hb]))
 have hn:=e2.len
 rw [←hn] at e1 e2
 exact ⟨av,cc,e1,e2⟩
def kyS (ks:List Int)(seen:List Nat):List Int:=seen.map fun i=>ks.getD i 0
theorem zkH {ks:List Int}{seen:List Nat}{i:Nat}{a:Int}(h:ks[i]? =some a):kyS ks (seen++[i])=kyS ks seen++[a]:=by
 unfold kyS;rw [List.map_append,List.map_singleton,QY h]
theorem zak (ks:List Int):((List.range ks.length).map fun i=>ks.getD i 0)=ks:=by
 apply List.ext_getElem?
 intro j
 rw [List.getElem?_map]
 by_cases h:j<ks.length
 ·
  rw [List.getElem?_range h,Option.map_some,List.getElem?_eq_getElem h,QY (List.getElem?_eq_getElem h)]
 ·
  rw [List.getElem?_eq_none (by simpa using Nat.le_of_not_lt h),List.getElem?_eq_none (by omega)];rfl
theorem zqI {ks:List Int}{seen:List Nat}(hn:seen.Nodup)(hl:∀ i∈seen,i<ks.length)(ha:∀ i,i<ks.length→i∈seen):(kyS ks seen).Perm ks:=by
 have h1:seen.Perm (List.range ks.length):=(List.perm_ext_iff_of_nodup hn List.nodup_range).2 fun i=>by rw [List.mem_range];exact ⟨hl i,ha i⟩
 have h2:=h1.map fun i=>ks.getD i 0
 rw [zak] at h2
 exact h2
theorem Ww {q:Nat}{n:Int}:∀ {rows:List (List Int)} {o:Option Int},(∀ b,o=some b→n<b)→(∀ r∈rows,n<r.getD q 0→∃ c,rows.foldl (zgn q n) o=some c∧c≤r.getD q 0)∧(∀ b,o=some b→∃ c,rows.foldl (zgn q n) o=some c∧c≤b)
 | [],o,_=>⟨(fun r hr=>by cases hr),fun b hb=>⟨b,hb,Int.le_refl _⟩⟩
 | r::rows,o,ho=>by
  cases hb:(decide (r.getD q 0>n)&&(!o.isSome||decide (r.getD q 0<o.getD 0))) with
  | true=>
   have hs:=zhE hb
   simp only [Bool.and_eq_true,Bool.or_eq_true,decide_eq_true_eq] at hb
   have ih:=Ww (q:=q) (n:=n) (rows:=rows) (o:=some (r.getD q 0)) (fun b e=>by cases e;exact hb.1)
   have e0:(r::rows).foldl (zgn q n) o=rows.foldl (zgn q n) (some (r.getD q 0)):=by rw [List.foldl_cons,hs]
   rw [e0]
   refine ⟨fun r' hr' hn=>?_,fun b e=>?_⟩
   ·
    rcases List.mem_cons.1 hr' with rfl | hr'
    ·
     exact ih.2 _ rfl
    ·
     exact ih.1 r' hr' hn
   ·
    obtain ⟨c,h1,h2⟩:=ih.2 _ rfl
    subst e
    rcases hb.2 with h3 | h3
    ·
     cases h3
    ·
     have h3:r.getD q 0<b:=h3
     exact ⟨c,h1,by omega⟩
  | false=>
   have hs:=znw hb
   have ih:=Ww (q:=q) (n:=n) (rows:=rows) (o:=o) ho
   have e0:(r::rows).foldl (zgn q n) o=rows.foldl (zgn q n) o:=by rw [List.foldl_cons,hs]
   rw [e0]
   refine ⟨fun r' hr' hn=>?_,ih.2⟩
   rcases List.mem_cons.1 hr' with rfl | hr'
   ·
    cases o with
    | none=>
     cases h9:decide (r'.getD q 0>n) with
     | true=>rw [h9] at hb;cases hb
     | false=>simp only [decide_eq_false_iff_not] at h9;omega
    | some b=>
     cases h9:decide (r'.getD q 0>n) with
     | true=>
      rw [h9] at hb
      have h8:decide (r'.getD q 0<b)=false:=hb
      simp only [decide_eq_false_iff_not] at h8
      obtain ⟨c,h1,h2⟩:=ih.2 b rfl
      exact ⟨c,h1,by omega⟩
     | false=>simp only [decide_eq_false_iff_not] at h9;omega
   ·
    exact ih.1 r' hr' hn
theorem JJ (ks:List Int):(Yv ks).Perm ks:=List.mergeSort_perm ..
theorem zlx (ks:List Int):(Yv ks).Pairwise (· ≤ ·):=
 (List.pairwise_mergeSort (le:=fun x y:Int=>decide (x≤y)) (fun a b c h1 h2=>by simp at*;omega) (fun a b=>by simp;omega) ks).imp fun h=>by simpa using h
theorem zjm {rows:List (List Int)}{q:Nat}:∀ {ks:List Int} {n:Int} {m:Nat},ks.Pairwise (· < ·)→(∀ c,c∈ks↔n<c∧∃ r∈rows,r.getD q 0=c)→ks.length≤m→zhP rows q m (zad rows q n)=ks.map fun c=>⟨c,Jl rows q c⟩
 | [],n,m,_,hk,_=>by
  have:zad rows q n=none:=by
   cases h:zad rows q n with
   | none=>rfl
   | some c=>have h1:=(hk c).2 (zb2 h);cases h1
  rw [this,XX];rfl
 | c::ks,n,0,_,_,hm=>by simp at hm
 | c::ks,n,m+1,hs,hk,hm=>by
  obtain ⟨hn,r,hr,he⟩:=(hk c).1 (List.mem_cons_self ..)
  obtain ⟨d,hd,hdc⟩:=(Ww (q:=q) (n:=n) (rows:=rows) (o:=none) (fun b e=>by cases e)).1 r hr (by omega)
  have hd':zad rows q n=some d:=hd
  have hdk:=(hk d).2 (zb2 hd')
  have hcd:d=c:=by
   rcases List.mem_cons.1 hdk with h | h
   ·
    exact h
   ·
    have:=(List.pairwise_cons.1 hs).1 d h;omega
  rw [hd',hcd,Xx,List.map_cons]
  congr 1
  refine zjm (List.pairwise_cons.1 hs).2 (fun x=>?_) (by simp at hm;omega)
  constructor
  ·
   intro hx
   exact ⟨(List.pairwise_cons.1 hs).1 x hx,((hk x).1 (List.mem_cons_of_mem _ hx)).2⟩
  ·
   rintro ⟨h1,h2⟩
   rcases List.mem_cons.1 ((hk x).2 ⟨by omega,h2⟩) with h3 | h3
   ·
    omega
   ·
    exact h3
theorem zlt {rows:List (List Int)}{k:Nat}{m:List (Int×Tri)}(h:zf5 rows k m rows.length)(h0:∀ r∈rows,0≤r.getD k 0){ks:List Int}(hp:ks.Perm (m.map (·.1))):(Yv ks).map (fun c=>(⟨c,Jl rows k c⟩:Vt))=zf9 rows k:=by
 have hnd:(Yv ks).Nodup:=((JJ ks).trans hp).nodup_iff.2 h.nd
 have hs:(Yv ks).Pairwise (· < ·):=by
  exact ((zlx ks).and hnd).imp fun {a b} ⟨h2,h3⟩=>by have:a≠b:=h3;omega
 have hmem:∀ c,c∈Yv ks↔(-1:Int)<c∧∃ r∈rows,r.getD k 0=c:=fun c=>by
  rw [((JJ ks).trans hp).mem_iff,h.key c,List.take_length]
  constructor
  ·
   rintro ⟨r,hr,rfl⟩;exact ⟨by have:=h0 r hr;omega,r,hr,rfl⟩
  ·
   exact fun h=>h.2
 have hl:(Yv ks).length≤rows.length:=by rw [((JJ ks).trans hp).length_eq];exact h.len
 unfold zf9
 rw [zjm hs hmem hl]
theorem zh3 {rows:List (List Int)}{k:Nat}{c:Int}(h:∃ r∈rows,r.getD k 0=c):0<(Jl rows k c).length:=by
 obtain ⟨r,hr,he⟩:=h
 obtain ⟨i,hi⟩:=List.getElem?_of_mem hr
 unfold Jl ixF
 rw [List.length_map]
 refine List.length_pos_of_mem (a:=(r,i)) (List.mem_filter.2 ⟨?_,by simpa using he⟩)
 rw [List.mem_iff_getElem?]
 exact ⟨i,by simp [List.getElem?_zipIdx,hi]⟩
theorem zna {x:Nat×Obj}{A L B R:Go.Kn.Loc}:(x::((A++(L++B))++R)).Perm (L++(x::(A++(B++R)))):=by
 have h:=List.perm_append_comm_assoc (x::A) L (B++R)
 simp only [List.cons_append,List.append_assoc] at h ⊢
 exact h
end
section
open Go Go.Kn Go.Proofs
theorem zfv:AgT Tryz.prog 74 3:=.of (by kernel_rfl)
theorem zmo:Fun Tryz.prog 31:=.of Tryz.func31 (by kernel_rfl) (by kernel_rfl)
theorem YU:MpT Tryz.prog 91 3 23 (.slice none 0 0):=⟨by kernel_rfl,.of (by kernel_rfl)⟩
theorem zmF:SzT Tryz.prog 72 1:=.of (by kernel_rfl)
theorem zew:SzT Tryz.prog 74 3:=.of (by kernel_rfl)
theorem zkY:Yi Tryz.prog 74 (.agg #[(.int .i64 0),(.int .i64 0),(.slice none 0 0)]):=.of (by kernel_rfl)
theorem zfS {I:Qu}{r:Nat}{m:List (Int×Tri)}(hm:I r=some (ZM (Value.int .i64) WC m))(hml:m.length≤100000):Yb Tryz.prog 31 [.map (some r)] I [] (fun v I' L=>L=[]∧∃ av c ks,ks.Perm (m.map (·.1))∧v= .slice av (Yv ks).length c∧Sl I' 1 QQ av (Yv ks).length c (Yv ks)):=by
 intro g H w hw
 refine qe Tryz.func31 Tryz.ntmps31 hw ?_
 have hIc:=zxQ I
 refine zR (zA (zN (Ql (zR ?_))))
 refine zM ?_
 refine Jp (ek:=Value.int .i64) (ev:=WC) (m:=m) rfl YU rfl rfl (.inl hm) (fun b_5=>?_)
 refine zN (Qm ?_)
 refine zU [(5,_)] (fun T L0 mz E I' loc'=>∃ (seen:List Nat) (v:Value) (L:Go.Kn.Loc),mz=m.length-seen.length∧E=(2,v)::T∧I=I'∧L++[(b_5,YL r m.length seen)]=loc'∧seen.Nodup∧(∀ i∈seen,i<m.length)∧OwnS 3 1 v seen.length ((kyS (m.map (·.1)) seen).flatMap QQ) L) ?_ (h:=⟨[],_,[],rfl,rfl,rfl,rfl,.nil,(fun i h=>by cases h),OwnS.nil⟩)
 rintro mz E I' loc' ⟨seen,v,L,rfl,rfl,rfl,rfl,hnd2,hlt,hO⟩
 have hsl:=Jb hnd2 hlt
 refine zR ?_
 refine Jt (ek:=Value.int .i64) (ev:=WC) (m:=m) (fun s'=>L++[(b_5,YL r m.length s')]) rfl (fun s'=>QJ .here) rfl rfl rfl rfl rfl (.inl hm) (by simp) ?_
 intro t tv s' hno hyes
 refine zN (Ql ?_)
 refine zI ?_ ?_<;>intro hc7
 ·
  obtain ⟨i,q,hq,hns,rfl⟩:=hyes hc7
  refine Qo (Qa (Qm (zR ?_)))
  refine zV (Jv (ek:=Value.int .i64) (ev:=WC) (m:=m) (p:=q) (seen:=seen) (i:=i) rfl (.inl hm) (.inr (by simp)) hq) ?_
  refine zE ?_
  refine zA (zN (Qg ?_))
  refine zM ?_
  refine zM ?_
  refine Qq (ps:=[(0,_)]) (m:=[QQ q.1]) Zh rfl (.cons rfl (.nil)) rfl (by simp [Qv]) (by decide) (by decide) rfl rfl (fun b_12=>?_)
  refine QW (v:=_) (ys:=[q.1].flatMap QQ) (L:=L) rfl rfl Zh hO (by repeat (first | exact .cons .here .nil | exact QD | exact Qx | apply QC | apply QB)) ⟨rfl,fun _=>rfl,by repeat (first | exact zxO | apply zxN | apply zxP)⟩ (JI _) (by omega) rfl rfl ?_
  intro v9 L9 hO9 _;rw [←List.flatMap_append] at hO9
  refine zA (Qb (Qh ?_))
  have hnd3:(seen++[i]).Nodup:=List.nodup_append.2 ⟨hnd2,by simp,fun a ha b hb e=>hns (by simp at hb;subst hb;subst e;exact ha)⟩
  have hlt3:∀ j∈seen++[i],j<m.length:=fun j hj=>(List.mem_append.1 hj).elim (hlt j) (fun h=>by simp at h;subst h;exact (List.getElem?_eq_some_iff.1 hq).1)
  have hsl2:=Jb hnd3 hlt3
  rw [List.length_append,List.length_singleton] at hsl2
  rw [←zkH (by rw [List.getElem?_map,hq];rfl)] at hO9
  exact zm (h:=⟨m.length-(seen++[i]).length,by rw [List.length_append,List.length_singleton];omega,seen++[i],_,L9,rfl,rfl,rfl,rfl,hnd3,hlt3,by rw [List.length_append,List.length_singleton];exact hO9⟩)
 obtain ⟨hs9,hall⟩:=hno hc7
 have hs9:=hs9.symm
 subst hs9
 have hpe:(kyS (m.map (·.1)) seen).Perm (m.map (·.1)):=zqI hnd2 (fun i hi=>by rw [List.length_map];exact hlt i hi) (fun i hi=>by rw [List.length_map] at hi;exact hall i _ (List.getElem?_eq_getElem hi))
 refine QI (Qf (Qf (Qk (Qa (zR (zM ?_))))))
 refine Qz (cap:=[]) (vs:=[_]) rfl rfl zgr (by repeat (first | exact .cons .here .nil | exact QD | exact Qx | apply QC | apply QB)) (zhf hO (by omega) _) rfl rfl ?_
 rintro vv2 I2 L2 hI2 ⟨rfl,rfl,hO2⟩
 have hIc:=hIc.trans hI2
 refine zN (zR ?_)
 refine zM ?_
 refine zA (zN (Qt ?_))
 exact Zt rfl rfl (fun w hw=>by obtain ⟨I9,h91,h92,a,c,e9,h94⟩:=OwnS.freeze' hO2 Qv (by decide) (hw.subL (by exact Zi));have hl9:=h94.len;rw [←hl9] at e9 h94;exact ⟨_,I9,[],rfl,hIc.trans h91,h92,rfl,a,c,_,hpe,e9,h94⟩)
theorem XG {I:Qu}{bv:Option Addr}{n2 c2:Nat}{rows:List (List Int)}(hVn:SlN I bv n2 c2 rows)(hn2:n2≤100000){ea1:Option Addr}{en1 ec1:Nat}{ea2:Option Addr}{en2 ec2:Nat}{ea3:Option Addr}{en3 ec3:Nat}{xs:List Int}{es:List Em}{rd:List Int}(hX1:Sl I 1 QQ ea1 en1 ec1 xs)(hX2:Sl I 3 Yu ea2 en2 ec2 es)(hX3:Sl I 1 QQ ea3 en3 ec3 rd)(hm1:en1≤100000)(hm2:en2≤100000)(hm3:en3≤100000)(no:Int)(hDb:VJ I):Yb Tryz.prog 11 [.slice bv n2 c2,.agg (ZZ no ea1 en1 ec1 ea2 en2 ec2 ea3 en3 ec3).toArray] I [] (fun v I' L=>zvF (U8 rows no xs es rd) (zvB (U8 rows no xs es rd) rows rd) v I' L):=by
 intro g H w hw
 refine qe Tryz.func11 Tryz.ntmps11 hw ?_
 have hIc:=zxQ I
 have hVl:=hVn.len
 refine zR ?_
 refine Q5 rfl rfl rfl (fun b_3=>?_)
 refine zA ?_
 refine zA (zN (Ql (zR ?_)))
 refine zM ?_
 refine zV (Qp rfl Z6 (fun hg=>by exact Cells.g0) rfl) ?_
 refine qc (vs:=[_,_]) rfl zmY (zgy hVn hn2 hX1 hX2 hX3 hm1 hm2 hm3 no hDb) ?_
 refine zA ?_
 refine zN (zR ?_)
 refine zM ?_
 refine zC (zN ?_)
 refine zI ?_ ?_<;>intro hc18
 ·
  have he0:U8 rows no xs es rd≠0:=by simpa using hc18
  refine zR (zM ?_)
  refine zA ?_
  refine zA (zN (Qt (Qc ?_)))
  first
  | exact ZF rfl rfl rfl (fun w hw=>⟨_,I,[],rfl,hIc,hw.drop,rfl,_,_,_,rfl,by rw [zil he0];exact zfz.nil⟩)
 have he0:U8 rows no xs es rd=0:=by simpa using hc18
 obtain ⟨hmk,hrd⟩:=zfb he0
 obtain ⟨hr1,hr6,hr64,hrr⟩:=Ue (Ut (zhW hmk))
 have hrdl:rd.length=(rows.getD 0 []).length:=by rw [hrd];exact U1
 have hX3l:=hX3.len
 have hc0:∀ k,k<rd.length→∀ r∈rows,0≤r.getD k 0:=fun k hk r hr=>by have h1:=hrr r hr;have h2:k<r.length:=(by omega);rw [QY (List.getElem?_eq_getElem h2)];exact (h1.2 _ (List.getElem_mem h2)).1
 refine Qo (Qa (Ql (zR ?_)))
 refine zF YS ?_
 refine zL QK ?_
 refine zQ Qw ?_
 refine zM (zN (Qm ?_))
 refine zU [(0,_),(21,_),(22,_)] (fun T L0 mz E I' loc'=>∃ (k:Nat) (v4:Value) (os:List Eh) (us:List En) (Lo:Go.Kn.Loc),mz=en3-k∧E=(4,v4)::(23,.int .i64 k)::T∧HLe I I'∧Lo++[(b_3,.cells (ZZ no ea1 en1 ec1 ea2 en2 ec2 ea3 en3 ec3).toArray 26 (0,0))]=loc'∧k≤en3∧OwnS 74 3 v4 os.length (os.flatMap Wp) Lo∧WO I' os us∧us=zaj rows rd k∧os.length≤k) ?_ (h:=⟨0,_,[],[],[],rfl,rfl,zxQ _,rfl,Nat.zero_le _,OwnS.nil,zaf.nil,rfl,Nat.le_refl _⟩)
 rintro mz E J1 loc' ⟨k,v4,os,us,Lo,rfl,rfl,hJ,rfl,hk,hO,hre,hsu,hbd⟩
 have hVn:=hVn.mono hJ;have hX3:=hX3.mono hJ;have hIc:=hIc.trans hJ
 have hB0:=hJ
 refine zR (zC (zN (Ql ?_)))
 refine zI ?_ ?_<;>intro hc24
 ·
  have hlt_k:k<en3:=by have h:=hc24;simp at h;omega
  have hgr:rd[k]? =some (rd.getD k 0):=Zb rfl (by omega)
  have hc0:=hc0 k (by omega)
  refine Qo (Qa (Ql (Qm (zR (zM ?_)))))
  refine zV (zX Qw hX3) ?_
  refine zV (Qd rfl Qr (fun hg=>by exact zxJ (k:=k) hX3 hgr rfl)) ?_
  refine zA ?_
  refine zA ?_
  refine zN (zR ?_)
  refine ZH rfl rfl (fun r_28=>?_)
  refine zA (zN (Ql (zR ?_)))
  refine zM ?_
  refine zQ Zk ?_
  refine zM (zN (Qm ?_))
  refine zU [(0,_),(4,_),(6,_),(7,_),(8,_),(21,_),(22,_),(23,_),(29,_),(30,_)] (fun T L0 mz E I' loc'=>∃ (i:Nat) (m:List (Int×Tri)) (Ls:Go.Kn.Loc),mz=n2-i∧E=(31,.int .i64 i)::T∧J1=I'∧(r_28,ZM (Value.int .i64) WC m)::(Ls++(Lo++[(b_3,.cells (ZZ no ea1 en1 ec1 ea2 en2 ec2 ea3 en3 ec3).toArray 26 (0,0))]))=loc'∧i≤n2∧zf5 rows k m i∧Vj 3 1 (m.map (·.2)) Ls) ?_ (h:=⟨0,[],[],rfl,rfl,rfl,rfl,Nat.zero_le _,zf5.start,Vj.nil⟩)
  rintro mz E I' loc' ⟨i,m,Ls,rfl,rfl,rfl,rfl,hi,hcm,hAll⟩
  refine zR (zC (zN (Ql ?_)))
  refine zI ?_ ?_<;>intro hc32
  ·
   have hlt_i:i<n2:=by have h:=hc32;simp at h;omega
   obtain ⟨hs,hVH⟩:=id hVn
   have hHH:=hVH.1
   obtain ⟨hx,rx,hhx,hrx,hQ⟩:=hVH.at hlt_i
   have hqk:=(hrr rx (List.mem_of_getElem? hrx)).1
   have hQl:=hQ.len
   have hgx:rx[k]? =some (rx.getD k 0):=Zb rfl (by omega)
   refine Qo (Qa (Ql (Qm (zR (zM ?_)))))
   refine zV (zX Zk hHH) ?_
   refine zV (Qd rfl QK (fun hg=>by exact zxJ hHH hhx rfl)) ?_
   refine zA ?_
   refine zA (zN ?_)
   obtain ⟨A,Lt,B,hLs,hOt,hset⟩:=hAll.at (rx.getD k 0)
   subst hLs
   rw [List.append_assoc A,List.append_assoc Lt]
   have hq0:=hcm.le hOt
   have hD:=zxQ J1
   refine Jn ?_
   refine Z5 J1 [] mixed ?_
   refine zT 0 rfl (Qi rfl) hD ?_
   refine zT 1 rfl (Qi rfl) hD ?_
   refine zT 2 rfl (Qi rfl) hD ?_
   refine zT 3 rfl (zX Qw hQ) hD ?_
   refine zT 4 rfl (Qd rfl Qr (fun hg=>by exact zxJ (k:=k) hQ hgx rfl)) hD ?_
   refine zT 5 rfl (Qi rfl) hD ?_
   refine zT 6 rfl (Qi rfl) hD ?_
   refine zT 7 rfl (Qi rfl) hD ?_
   refine zT 8 rfl (zX Qw hQ) hD ?_
   refine zT 9 rfl (Qd rfl Qr (fun hg=>by exact zxJ (k:=k) hQ hgx rfl)) hD ?_
   refine zT 11 rfl (Qi rfl) hD ?_
   refine Zq 10 12 rfl rfl (by kernel_rfl) ?_ ?_
   ·
    refine zV (Vl (m:=m) (ek:=Value.int .i64) (a:=(rx.getD k 0)) YU ZD rfl rfl (fun _=>.inr (by simp))) ?_
    refine Qb ?_
    refine zD hD ?_
    refine qd 12 rfl ?_
    refine Qq (ps:=[(0,_)]) (m:=[QQ (i:Int)]) Zh rfl (.cons rfl (.nil)) rfl (by simp [Qv]) (by decide) (by decide) rfl rfl (fun b_48=>?_)
    refine Qb ?_
    refine zD hD ?_
    refine qd 13 rfl ?_
    refine QW (v:=_) (ys:=[(i:Int)].flatMap QQ) (L:=Lt) rfl rfl Zh hOt (by repeat (first | exact .cons .here .nil | exact QD | exact Qx | apply QC | apply QB)) ⟨rfl,fun _=>rfl,by repeat (first | exact zxO | apply zxN | apply zxP)⟩ (JI _) (by omega) rfl rfl ?_
    intro v9 L9 hO9 _
    refine Qb ?_
    refine zD hD ?_
    refine qd 14 rfl ?_
    refine Q6 (m:=m) (ek:=Value.int .i64) (ev:=WC) (a:=(rx.getD k 0)) (v9,((Zs m (rx.getD k 0)).getD V3).2.1+1,((Zs m (rx.getD k 0)).getD V3).2.2++[(i:Int)].flatMap QQ) YU ZD rfl rfl rfl rfl (by (repeat (first | exact Upd.here | apply Upd.there | apply QJ))) ?_
    refine Qb ?_
    refine zD hD ?_
    refine QF (by kernel_rfl) ?_
    refine QP ?_
    refine Qh (Qa (Qg (zB ?_)))
    refine zM (Qb ?_)
    exact Jk _ _ (L9++((r_28,_)::(A++(B++(Lo++[(b_3,.cells (ZZ no ea1 en1 ec1 ea2 en2 ec2 ea3 en3 ec3).toArray 26 (0,0))]))))) ⟨n2-(i+1),by omega,i+1,_,A++(L9++B),rfl,rfl,rfl,rfl,by omega,hcm.put hrx,hset (v9,_,_) L9 hO9⟩ (.cons rfl (.cons rfl (.cons rfl (.cons rfl (.cons rfl (.cons rfl (.cons rfl (.cons rfl (.cons rfl (.cons rfl (.cons rfl .nil))))))))))) zna (by repeat (first | exact .refl | exact Zi | refine Yf ?_ | refine .drop ?_ | refine Z2 ?_))
   refine Qq (ps:=[(0,_)]) (m:=[QQ (i:Int)]) Zh rfl (.cons rfl (.nil)) rfl (by simp [Qv]) (by decide) (by decide) rfl rfl (fun b_48=>?_)
   refine Qb ?_
   refine zD hD ?_
   refine qd 10 rfl ?_
   refine zV (Vl (m:=m) (ek:=Value.int .i64) (a:=(rx.getD k 0)) YU ZD rfl rfl (fun _=>.inr (by simp))) ?_
   refine Qb ?_
   refine zD hD ?_
   refine qd 13 rfl ?_
   refine QW (v:=_) (ys:=[(i:Int)].flatMap QQ) (L:=Lt) rfl rfl Zh hOt (by repeat (first | exact .cons .here .nil | exact QD | exact Qx | apply QC | apply QB)) ⟨rfl,fun _=>rfl,by repeat (first | exact zxO | apply zxN | apply zxP)⟩ (JI _) (by omega) rfl rfl ?_
   intro v9 L9 hO9 _
   refine Qb ?_
   refine zD hD ?_
   refine qd 14 rfl ?_
   refine Q6 (m:=m) (ek:=Value.int .i64) (ev:=WC) (a:=(rx.getD k 0)) (v9,((Zs m (rx.getD k 0)).getD V3).2.1+1,((Zs m (rx.getD k 0)).getD V3).2.2++[(i:Int)].flatMap QQ) YU ZD rfl rfl rfl rfl (by (repeat (first | exact Upd.here | apply Upd.there | apply QJ))) ?_
   refine Qb ?_
   refine zD hD ?_
   refine QF (by kernel_rfl) ?_
   refine QP ?_
   refine Qh (Qa (Qg (zB ?_)))
   refine zM (Qb ?_)
   exact Jk _ _ (L9++((r_28,_)::(A++(B++(Lo++[(b_3,.cells (ZZ no ea1 en1 ec1 ea2 en2 ec2 ea3 en3 ec3).toArray 26 (0,0))]))))) ⟨n2-(i+1),by omega,i+1,_,A++(L9++B),rfl,rfl,rfl,rfl,by omega,hcm.put hrx,hset (v9,_,_) L9 hO9⟩ (.cons rfl (.cons rfl (.cons rfl (.cons rfl (.cons rfl (.cons rfl (.cons rfl (.cons rfl (.cons rfl (.cons rfl (.cons rfl .nil))))))))))) zna (by repeat (first | exact .refl | exact Zi | refine Yf ?_ | refine .drop ?_ | refine Z2 ?_))
  have hge_i:n2≤i:=by have h:=hc32;simp at h;omega
  refine QI (Qf (Qf (Qk (Qa (Ql (Ql ?_))))))
  have hcm:zf5 rows k m rows.length:=by rw [hVl,show n2=i by omega];exact hcm
  refine zcy (L:=(r_28,ZM (Value.int .i64) WC m)::Ls) (R:=(Lo++[(b_3,.cells (ZZ no ea1 en1 ec1 ea2 en2 ec2 ea3 en3 ec3).toArray 26 (0,0))])) (Qx (A:=(r_28,ZM (Value.int .i64) WC m)::Ls) (B:=(Lo++[(b_3,.cells (ZZ no ea1 en1 ec1 ea2 en2 ec2 ea3 en3 ec3).toArray 26 (0,0))]))) (fun I3 hI3 h99=>?_)
  have hre:=hre.mono hI3;have hB0:=hB0.trans hI3
  have h28:=h99 r_28 _ (.head _)
  have hsl:=fun c=>hcm.sl hAll (fun b o hb=>h99 b o (.tail _ hb)) c
  obtain ⟨al,cl9,hvl,hSl⟩:=hsl (rd.getD k 0)
  have hhl:=zdF (rows:=rows) (k:=k) (c:=(rd.getD k 0))
  refine Qg (zM ?_)
  refine zM ?_
  refine zV (Yz (m:=m) (ek:=Value.int .i64) (a:=(rd.getD k 0)) hvl YU ZD rfl rfl (fun _=>.inl h28)) ?_
  refine zQ Qw ?_
  refine zM ?_
  refine zQ Zk ?_
  refine zC (zN ?_)
  refine zI ?_ ?_<;>intro hc57
  ·
   have hno:¬(Jl rows k (rd.getD k 0)).length<rows.length:=by have h:=hc57;rw [beq_iff_eq] at h;omega
   refine QI (Qf (Qk (Qa (Qg (zB ?_)))))
   refine zM (Qb ?_)
   first
   | exact zm (h:=⟨en3-(k+1),by omega,k+1,_,_,_,_,rfl,rfl,hB0,rfl,by omega,hO,hre,by rw [zgz hno];exact hsu,by omega⟩)
  have hyes:(Jl rows k (rd.getD k 0)).length<rows.length:=by have h:=hc57;rw [beq_eq_false_iff_ne] at h;omega
  refine Qo (Qa (zR (zM ?_)))
  refine zM ?_
  refine zV (QR (ps:=[(0,_),(1,_)]) [_,_,_] znd rfl rfl) ?_
  refine Qs zkY rfl rfl (fun b_11=>?_)
  refine zh zew ?_
  refine zN (Ql (zR (zM ?_)))
  refine Qz (cap:=[]) (vs:=[_]) rfl rfl zmo .nil (zfS h28 (by have:=hcm.len;rw [List.length_map] at this;omega)) rfl rfl ?_
  rintro vv4 I4 L4 hI4 ⟨rfl,az,cz,ks,hpe,rfl,hSz⟩
  have hre:=hre.mono hI4;have hB0:=hB0.trans hI4
  obtain ⟨zs,hzs⟩:∃ zs,zs=Yv ks:=⟨_,rfl⟩
  have hvar:zs.map (fun c=>(⟨c,Jl rows k c⟩:Vt))=zf9 rows k:=by rw [hzs];exact zlt hcm hc0 hpe
  have hzm:∀ c∈zs,∃ r∈rows,r.getD k 0=c:=fun c hc=>by rw [hzs,((JJ ks).trans hpe).mem_iff,hcm.key c,List.take_length] at hc;exact hc
  have hzl:zs.length≤rows.length:=by rw [hzs,((JJ ks).trans hpe).length_eq];exact hcm.len
  rw [←hzs]
  rw [←hzs] at hSz
  have h28:=hI4 _ _ h28
  have hsl:∀ c,∃ av cc,((Zs m c).getD V3).1= .slice av (Jl rows k c).length cc∧Sl I4 1 QQ av (Jl rows k c).length cc (Jl rows k c):=fun c=>by obtain ⟨a,b,h1,h2⟩:=hsl c;exact ⟨a,b,h1,h2.mono hI4⟩
  refine zQ Qw ?_
  refine zM (zN (Qm ?_))
  refine zU [(0,_),(4,_),(8,_),(11,_),(21,_),(22,_),(23,_),(62,_),(63,_)] (fun T L0 mz E I' loc'=>∃ (j:Nat) (v5:Value) (o5:List Vh) (u5:List Vt) (L5:Go.Kn.Loc),mz=zs.length-j∧E=(64,.int .i64 j)::T∧I4=I'∧L5++((b_11,.cells #[.int .i64 k,.int .i64 (rd.getD k 0),v5] 74 (0,0))::(Lo++[(b_3,.cells (ZZ no ea1 en1 ec1 ea2 en2 ec2 ea3 en3 ec3).toArray 26 (0,0))]))=loc'∧j≤zs.length∧OwnS 77 2 v5 o5.length (o5.flatMap zam) L5∧zcY I' o5 u5∧u5=(zs.take j).map (fun c=>(⟨c,Jl rows k c⟩:Vt))∧o5.length≤j) ?_ (h:=⟨0,_,[],[],[],rfl,rfl,rfl,rfl,Nat.zero_le _,OwnS.nil,zaf.nil,rfl,Nat.le_refl _⟩)
  rintro mz E I' loc' ⟨j,v5,o5,u5,L5,rfl,rfl,rfl,rfl,hj,hO5,hrv,hu5,hb5⟩
  obtain ⟨va5,vc5,rfl⟩:=zc4 hO5
  refine zR (zC (zN (Ql ?_)))
  refine zI ?_ ?_<;>intro hc65
  ·
   have hlt_j:j<zs.length:=by have h:=hc65;simp at h;omega
   obtain ⟨c,hcz⟩:=hSz.at hlt_j
   refine Qo (Qa (Ql (Qm (zR ?_))))
   refine zV (zX Qw hSz) ?_
   refine zV (Qd rfl Qr (fun hg=>by exact zxJ hSz hcz rfl)) ?_
   refine zA (zN (Ql ?_))
   obtain ⟨ac,cc,hvc,hSc⟩:=hsl c
   have hhp:=zh3 (hzm c (List.mem_of_getElem? hcz))
   refine Qg (zM ?_)
   refine zM ?_
   refine zV (Yz (m:=m) (ek:=Value.int .i64) (a:=c) hvc YU ZD rfl rfl (fun _=>.inl h28)) ?_
   refine zQ Qw ?_
   refine zC (zN ?_)
   refine zI ?_ ?_<;>intro hc72
   ·
    refine Qg ?_
    refine zF VX ?_
    refine zV (Qd rfl WK (fun hg=>by (repeat (first | exact zxL rfl | apply zxK | apply zxM)))) ?_
    refine zM ?_
    refine zM ?_
    refine zM ?_
    refine zV (Yz (m:=m) (ek:=Value.int .i64) (a:=c) hvc YU ZD rfl rfl (fun _=>.inl h28)) ?_
    refine zV (QR (ps:=[(0,_),(1,_)]) [_,_] zhy rfl rfl) ?_
    refine Qq (ps:=[(0,_)]) (m:=[zam (⟨c,⟨ac,(Jl rows k c).length,cc⟩⟩:Vh)]) zhd rfl (.cons rfl (.nil)) rfl (by simp [Zl]) (by decide) (by decide) rfl rfl (fun b_80=>?_)
    refine QW (v:=_) (ys:=[(⟨c,⟨ac,(Jl rows k c).length,cc⟩⟩:Vh)].flatMap zam) (L:=L5) rfl rfl zhd hO5 (by repeat (first | exact .cons .here .nil | exact QD | exact Qx | apply QC | apply QB)) ⟨rfl,fun _=>rfl,by repeat (first | exact zxO | apply zxN | apply zxP)⟩ (zv6 _) (by omega) rfl rfl ?_
    intro v9 L9 hO9 _;obtain ⟨va9,vc9,rfl⟩:=zc4 hO9;rw [←List.flatMap_append] at hO9
    refine zF VX ?_
    refine ZB rfl rfl zmF rfl rfl (by (repeat (first | exact Upd.here | apply Upd.there | apply QJ))) rfl ?_
    refine Qb (Qh (Qa (Qg (zB ?_))))
    refine zM (Qb ?_)
    exact zm (h:=⟨zs.length-(j+1),by omega,j+1,_,o5++[(⟨c,⟨ac,(Jl rows k c).length,cc⟩⟩:Vh)],u5++[⟨c,Jl rows k c⟩],L9,rfl,rfl,rfl,rfl,by omega,by rw [List.length_append,List.length_singleton];exact hO9,hrv.snoc (v:=⟨c,Jl rows k c⟩) ⟨rfl,hSc⟩,by rw [List.take_add_one,hcz,List.map_append,←hu5];rfl,by rw [List.length_append,List.length_singleton];omega⟩)
   exfalso;have h:=hc72;simp only [decide_eq_false_iff_not] at h;omega
  have hge_j:zs.length≤j:=by have h:=hc65;simp at h;omega
  rw [List.take_of_length_le hge_j,hvar] at hu5
  refine QI (Qf (Qf (Qk (Qa ?_))))
  refine Y5 hO5 Zl (by decide) (by repeat (first | exact .cons .here .nil | exact QD | exact Qx | apply QC | apply QB)) (fun I6 hI6 af5 cf5 ef6 hF5=>?_)
  cases ef6
  have hre:=hre.mono hI6;have hB0:=hB0.trans hI6
  have hSV:SlV I6 va5 o5.length vc5 (zf9 rows k):=⟨o5,hF5,by rw [←hu5];exact hrv.mono hI6⟩
  refine Qg (zM ?_)
  refine zV (Qp rfl zfv (fun hg=>by exact Cells.g0) rfl) ?_
  refine Qq (ps:=[(0,_)]) (m:=[Wp (⟨(k:Int),(rd.getD k 0),⟨va5,o5.length,vc5⟩⟩:Eh)]) zgY rfl (.cons rfl (.nil)) rfl (by simp [Zm]) (by decide) (by decide) rfl rfl (fun b_86=>?_)
  refine QW (v:=_) (ys:=[(⟨(k:Int),(rd.getD k 0),⟨va5,o5.length,vc5⟩⟩:Eh)].flatMap Wp) (L:=Lo) rfl rfl zgY hO (by repeat (first | exact .cons .here .nil | exact QD | exact Qx | apply QC | apply QB)) ⟨rfl,fun _=>rfl,by repeat (first | exact zxO | apply zxN | apply zxP)⟩ (zt8 _) (by omega) rfl rfl ?_
  intro v9 L9 hO9 _;rw [←List.flatMap_append] at hO9
  refine zA (Qb (Qh (Qa (Qg ?_))))
  refine zB ?_
  refine zM (Qb ?_)
  first
  | exact zm (h:=⟨en3-(k+1),by omega,k+1,_,os++[(⟨(k:Int),(rd.getD k 0),⟨va5,o5.length,vc5⟩⟩:Eh)],us++[(⟨(k:Int),(rd.getD k 0),zf9 rows k⟩:En)],L9,rfl,rfl,hB0,rfl,by omega,by rw [List.length_append,List.length_singleton];exact hO9,hre.snoc (v:=(⟨(k:Int),(rd.getD k 0),zf9 rows k⟩:En)) ⟨rfl,rfl,hSV⟩,by rw [zeS hyes,hsu],by rw [List.length_append,List.length_singleton];omega⟩)
 have hge_k:en3≤k:=by have h:=hc24;simp at h;omega
 have hke:k=rd.length:=by omega
 subst hke
 refine QI (Qf (Qf (Qk (Qa (zR (zM ?_))))))
 refine zA ?_
 refine zA (zN (Qt ?_))
 first
 | exact ZF rfl rfl rfl (fun w hw=>by obtain ⟨I9,h91,h92,a,c,e9,h94⟩:=OwnS.freeze' hO Zm (by decide) (hw.subL (by exact Zi));exact ⟨_,I9,[],rfl,hIc.trans h91,h92,rfl,a,_,c,by rw [e9,he0],os,h94,by rw [zaL he0,←hsu];exact hre.mono h91⟩)
end
end Go.Proofs.YtodakphagkommaaGreatDoor
namespace Go.Proofs.YtodakphagkommaaGreatDoor.R
section
open Go Go.Kn Go.Proofs
theorem zfv:AgT Tryz.prog 74 3:=.of (by kernel_rfl)
theorem zmo:Fun Tryz.prog 31:=.of Tryz.func31 (by kernel_rfl) (by kernel_rfl)
theorem zmF:SzT Tryz.prog 72 1:=.of (by kernel_rfl)
theorem zew:SzT Tryz.prog 74 3:=.of (by kernel_rfl)
theorem zkY:Yi Tryz.prog 74 (.agg #[(.int .i64 0),(.int .i64 0),(.slice none 0 0)]):=.of (by kernel_rfl)
end
section
open Go Go.Kn Go.Proofs
def znq (p:Pt):Bool:=decide (p.needs.length>80)
def zte (a b:Bool)(n1 n2 n3 pn vn:Nat):Bool:=(((((!a|| !((b&&decide ((n1:Int)≤40))&&decide ((n2:Int)≤40)))||decide ((n3:Int)>300))||(decide ((pn:Int)>40)&&decide ((pn:Int)≤512)))||decide ((pn:Int)>600))||decide ((vn:Int)>600))
def zb4 (ws:List Wr)(rows:List (List Int))(xs:List Int)(es:List Em)(rd:List Int)(ps:List Pt)(vs:List Int):Bool:= !zte (zvu ws) (zj2 rows) xs.length es.length rd.length ps.length vs.length&& !ps.any znq
section
variable {I:Qu} {av:Option Addr} {n c:Nat} {ws:List Wr} {wt:List Wt} {rows:List (List Int)} {xs:List Int} {es:List Em} {rd:List Int} {ps:List Pt} {vs:List Int} {n1 n2 n3 pn vn:Nat}
theorem zpG (hW:zgX I av n c wt ws)(h1:xs.length=n1)(h2:es.length=n2)(h3:rd.length=n3)(h4:ps.length=pn)(h5:vs.length=vn)(h:zte (zm3 wt) (zj2 rows) n1 n2 n3 pn vn=true):zb4 ws rows xs es rd ps vs=false:=by
 subst h1;subst h2;subst h3;subst h4;subst h5
 rw [zrD hW] at h
 unfold zb4;rw [h];rfl
theorem zk4 (hW:zgX I av n c wt ws)(h1:xs.length=n1)(h2:es.length=n2)(h3:rd.length=n3)(h4:ps.length=pn)(h5:vs.length=vn)(h:zte (zm3 wt) (zj2 rows) n1 n2 n3 pn vn=false):zb4 ws rows xs es rd ps vs=(!ps.any znq)∧pn≤600:=by
 subst h1;subst h2;subst h3;subst h4;subst h5
 have h6:=h
 rw [zrD hW] at h
 refine ⟨by unfold zb4;rw [h];rfl,?_⟩
 unfold zte at h6
 simp only [Bool.or_eq_false_iff,decide_eq_false_iff_not] at h6
 omega
theorem zqX (h:zb4 ws rows xs es rd ps vs=true):ws.length≤5∧(∀ x∈ws,x.rs.length≤8)∧rows.length≤20∧xs.length≤40∧es.length≤40∧rd.length≤300∧(ps.length≤40∨512<ps.length)∧ps.length≤600∧vs.length≤600∧∀ p∈ps,p.needs.length≤80:=by
 unfold zb4 at h
 rw [Bool.and_eq_true] at h
 obtain ⟨h1,h2⟩:=h
 have h1:=zqQ h1
 unfold zte at h1
 simp only [Bool.or_eq_false_iff,Bool.and_eq_false_iff,decide_eq_false_iff_not] at h1
 obtain ⟨⟨⟨⟨⟨ha,hb⟩,h3⟩,h4⟩,h5⟩,h6⟩:=h1
 have ha:=zhq ha
 have hb:=zhq hb
 simp only [Bool.and_eq_true,decide_eq_true_eq] at hb
 unfold zvu at ha
 rw [Bool.and_eq_true,decide_eq_true_eq,List.all_eq_true] at ha
 have hr:rows.length≤20:=by
  have h9:=hb.1.1
  unfold zj2 at h9
  split at h9
  ·
   simp only [decide_eq_true_eq] at h9;omega
  ·
   omega
 refine ⟨ha.1,fun x hx=>by simpa using ha.2 x hx,hr,by omega,by omega,by omega,by omega,by omega,by omega,fun p hp=>?_⟩
 have h8:=zqQ h2
 rw [List.any_eq_false] at h8
 have h7:=h8 p hp
 unfold znq at h7
 simpa using h7
end
end
section
open Go Go.Kn Go.Proofs
theorem zuE:Fun Tryz.prog 28:=.of Tryz.func28 (by kernel_rfl) (by kernel_rfl)
theorem zrP:Fun Tryz.prog 29:=.of Tryz.func29 (by kernel_rfl) (by kernel_rfl)
theorem zoR {I:Qu}{av:Option Addr}{n c:Nat}{ws:List Wr}(hW0:SlW I av n c ws)(hn:n≤9223372036854775807){bv:Option Addr}{n2 c2:Nat}{rows:List (List Int)}(hVn:SlN I bv n2 c2 rows){ea1:Option Addr}{en1 ec1:Nat}{ea2:Option Addr}{en2 ec2:Nat}{ea3:Option Addr}{en3 ec3:Nat}{xs:List Int}{es:List Em}{rd:List Int}(hX1:Sl I 1 QQ ea1 en1 ec1 xs)(hX2:Sl I 3 Yu ea2 en2 ec2 es)(hX3:Sl I 1 QQ ea3 en3 ec3 rd)(no:Int){pv:Option Addr}{pn pc:Nat}{ps:List Pt}(hP:SlP I pv pn pc ps){dv:Option Addr}{n3 c3:Nat}{vs:List Int}(hVs:Sl I 1 QQ dv n3 c3 vs):Zx Tryz.prog 10 [.slice av n c,.slice bv n2 c2,.agg (ZZ no ea1 en1 ec1 ea2 en2 ec2 ea3 en3 ec3).toArray,.slice pv pn pc,.slice dv n3 c3] I (.bool (zb4 ws rows xs es rd ps vs)):=by
 intro g H w hw
 refine qe Tryz.func10 Tryz.ntmps10 hw ?_
 obtain ⟨wt,hWH⟩:=id hW0
 have hWl:=hWH.2.1
 have hX1l:=hX1.len
 have hX2l:=hX2.len
 have hX3l:=hX3.len
 have hPl:=hP.len
 have hVl:=hVs.len
 refine zR ?_
 refine Q5 rfl rfl rfl (fun b_7=>?_)
 refine zA ?_
 refine zN (zR ?_)
 refine zM ?_
 refine qc (vs:=[_]) rfl zuE (zsJ hWH.1 hn) ?_
 refine zA ?_
 refine zN (zR ?_)
 refine zM ?_
 refine zF zfw ?_
 refine zL QK ?_
 refine zF zba ?_
 refine zL zgu ?_
 refine qc (vs:=[_,_,_]) rfl zrP (zoZ hVn _ _ _ _ _ _) ?_
 refine zA (zN (Ql (zR ?_)))
 refine zM ?_
 refine zO ?_
 refine zM ?_
 refine Q2 2 rfl rfl rfl ?_
 refine zJ (Qi rfl) ?_
 refine zJ (VF rfl) ?_
 refine Zz rfl rfl rfl rfl rfl ?_
 refine zM ?_
 refine Q2 6 rfl rfl rfl ?_
 refine zJ (Qe rfl YS) ?_
 refine zJ (Qd rfl QK (fun hg=>by exact QS.h0 rfl)) ?_
 refine zJ (Zp rfl Qw) ?_
 refine zJ (QH rfl rfl rfl) ?_
 refine Zz rfl rfl rfl rfl rfl ?_
 refine zM ?_
 refine Q2 12 rfl rfl rfl ?_
 refine zJ (Qi rfl) ?_
 refine zJ (Zp rfl ZC) ?_
 refine zJ (QH rfl rfl rfl) ?_
 refine zJ (Qi rfl) ?_
 refine QE 16 rfl rfl rfl ?_
 refine zK (Qi rfl) ?_
 refine zK (Zp rfl ZC) ?_
 refine zK (QH rfl rfl rfl) ?_
 refine zbE rfl rfl rfl (.some rfl rfl rfl rfl gbf) rfl rfl ?_
 refine Zz rfl rfl rfl rfl rfl ?_
 refine zM ?_
 refine Q2 22 rfl rfl rfl ?_
 refine zJ (Qi rfl) ?_
 refine zJ (Zp rfl ZC) ?_
 refine zJ (QH rfl rfl rfl) ?_
 refine Zz rfl rfl rfl rfl rfl ?_
 refine zM ?_
 refine Q2 27 rfl rfl rfl ?_
 refine zJ (Qi rfl) ?_
 refine zJ (Zp rfl Qw) ?_
 refine zJ (QH rfl rfl rfl) ?_
 refine Zz rfl rfl rfl rfl rfl ?_
 refine zN ?_
 refine zI ?_ ?_<;>intro hc53
 ·
  have h53:=zpG hWH hX1l hX2l hX3l hPl hVl hc53
  refine zR (zA (zN (Qt (Qc ?_))))
  exact zr rfl rfl (by rw [h53])
 have h53:=zk4 hWH hX1l hX2l hX3l hPl hVl hc53
 have hpn6:pn≤600:=h53.2
 refine Qo (Qa (Ql (zR (zA (zN (Qm ?_))))))
 refine zU [(3,_)] (fun T L0 mz E I' loc'=>∃ (k:Nat),mz=pn-k∧E=(13,.int .i64 k)::T∧I=I'∧L0=loc'∧k≤pn∧(ps.take k).any znq=false) ?_ (h:=⟨0,rfl,rfl,rfl,rfl,Nat.zero_le _,rfl⟩)
 rintro mz E I' loc' ⟨k,rfl,rfl,rfl,rfl,hk,hno⟩
 refine Ql (zR (zM ?_))
 refine zM ?_
 refine zQ ZC ?_
 refine zC (zN ?_)
 refine zI ?_ ?_<;>intro hc57
 ·
  have hlt_k:k<pn:=by have h:=hc57;simp at h;omega
  obtain ⟨p,hp,hN⟩:=hP.at hlt_k
  have hNl:p.needs.length=p.n:=hN.len
  refine Qo (Qa (Ql (Qm (zR (zM ?_)))))
  refine zM ?_
  refine zV (QG rfl rfl ZC hP.1 (fun hg=>by omega)) ?_
  refine zF KP ?_
  refine zV (Qd rfl QK (fun hg=>by exact zxS (j:=18) hP.1 hp rfl)) ?_
  refine zQ Qw ?_
  refine zC (zN ?_)
  refine zI ?_ ?_<;>intro hc66
  ·
   have hbg:znq p=true:=by have h:=hc66;unfold znq;simp only [decide_eq_true_eq] at h ⊢;omega
   refine zR (zA (zN (Qt (Qn (Qc (Qc (Qn ?_)))))))
   refine Qc ?_
   first
   | exact zr rfl rfl (by rw [h53.1,JZ hp hbg];rfl)
  have hbg:znq p=false:=by have h:=hc66;unfold znq;simp only [decide_eq_false_iff_not] at h ⊢;omega
  refine Qo (Qh (Qa (Qg (zM ?_))))
  refine zB ?_
  refine zA (Qb ?_)
  exact zm (h:=⟨pn-(k+1),by omega,k+1,rfl,rfl,rfl,rfl,by omega,YW hp hno hbg⟩)
 have hge_k:pn≤k:=by have h:=hc57;simp at h;omega
 rw [ZE hPl hge_k] at hno
 refine QI (Qf (Qf (Qk (Qa (zR (zA (zN ?_)))))))
 refine Qt ?_
 first
 | exact zr rfl rfl (by rw [h53.1,hno];rfl)
end
section
open Go Go.Kn Go.Proofs
def zgp (d:Int):Sg:=⟨0,0,0,1,4,1,d,2,0,0,0,1,1,1⟩
def wK:List Wr:=[⟨1,0,[⟨false,zgp 3⟩]⟩,⟨2,0,[⟨false,zgp 4⟩]⟩]
def ptK:Pt:=⟨2,1,0,5,⟨0,0,0,0,0,0,5,0,0,0,0,0,0,0⟩,none,0,0,[]⟩
theorem zxn:zac wK=0:=by kernel_rfl
theorem zxq:UD wK=[[36110336],[36241408]]:=by kernel_rfl
theorem mK:U4 [[36110336],[36241408]] 1 [3] []=0:=by kernel_rfl
theorem rK:Vz [[36110336],[36241408]] [3] []=[36110336]:=by rw [zeK];kernel_rfl
theorem mK9:U4 [[7],[9],[7]] 1 [5,7] []=0:=by kernel_rfl
theorem rK9:Vz [[7],[9],[7]] [5,7] []=[7]:=by rw [zeK];kernel_rfl
theorem eK9:U8 [[7],[9],[7]] 1 [5,7] [] [7]=0:=zoS mK9 rK9.symm
theorem nK9:zaj [[7],[9],[7]] [7] 1=[⟨0,7,[⟨7,[0,2]⟩,⟨9,[1]⟩]⟩]:=by kernel_rfl
theorem eK0:U8 [] 0 [] [] []=420:=by rw [zux (by decide)];kernel_rfl
theorem gK:Kw wK [[36110336],[36241408]] 1 [3] [] [36110336]=0∧V4 wK [[36110336],[36241408]] 1 [3] [] [36110336]=[zgp 3]:=zut zxn zxq (zoS mK rK.symm) (by kernel_rfl)
section
variable (vs:List Int)
def opK:Int:=zdd (Kw wK [[36110336],[36241408]] 1 [3] [] [36110336]) [ptK] (V4 wK [[36110336],[36241408]] 1 [3] [] [36110336]) vs
def sgK:List Sg:=zcm (onF [ptK]) (V4 wK [[36110336],[36241408]] 1 [3] [] [36110336]) (YM [ptK] vs)
end
theorem zvn:opK [2]=0:=by unfold opK;rw [gK.1,gK.2];kernel_rfl
theorem zvt:opK []=0:=by unfold opK;rw [gK.1,gK.2];kernel_rfl
theorem zwR:orE (opK [2]) (sgK [2]) 0 5=0:=by unfold sgK;rw [zvn,gK.2];kernel_rfl
theorem zvJ:orE (opK [2]) (sgK [2]) 0 6=0:=by unfold sgK;rw [zvn,gK.2];kernel_rfl
theorem zwS:orE (opK []) (sgK []) 0 5=0:=by unfold sgK;rw [zvt,gK.2];kernel_rfl
theorem zwa:orE (opK []) (sgK []) 0 10=440:=by unfold sgK;rw [zvt,gK.2];kernel_rfl
def ogK (vs:List Int)(s f:Int):Og:=zj6 (onF [ptK]) [[36110336],[36241408]] [] [36110336] (YM [ptK] vs) s f
theorem zwH:orO 0 (ogK [2] 0 5)=⟨3,0,[],[2]⟩:=by kernel_rfl
theorem zv2:orO 0 (ogK [2] 0 6)=⟨1,0,[0],[]⟩:=by kernel_rfl
theorem zxb:orO 0 (ogK [] 0 5)=⟨1,0,[0],[]⟩:=by kernel_rfl
theorem zwK:orO 440 (ogK [] 0 10)=zOg:=by kernel_rfl
theorem zvX:tcF (opK [2]) (ogK [2]) (sgK [2])=[(0,5)]:=by unfold sgK;rw [zvn,gK.2];kernel_rfl
theorem zwQ:tcF (opK []) (ogK []) (sgK [])=[]:=by unfold sgK;rw [zvt,gK.2];kernel_rfl
end
end Go.Proofs.YtodakphagkommaaGreatDoor.R
